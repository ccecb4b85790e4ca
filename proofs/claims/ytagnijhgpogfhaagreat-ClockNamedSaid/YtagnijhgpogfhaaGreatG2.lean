/- What the law itself says a clock shows; whether a number is inside. Distances of five points, closed over all others: what the loops reckon (plain). The loop that closes distances ends, and what it leaves (plain). Distances closed, in a form that the kernel reckons quickly; what clocks show, and when (plain). Contracts of the inner functions of the clock layer that are run most often: the least of some numbers, distances closed. Contracts: what a clock shows, and when it shows a number. Calls that are looked up: distances closed, when a clock shows a number. What is looked up while awake() is run is so. awake() is not run again; the sort of integers is looked up. Contracts: numbers in bounds, Shown, When, and the reference's. Contracts of the generic functions, instance by instance (printed by a program of ours). Attics; Check. Distances of an attic: without clocks, and with the readings of one clock (plain). A desk: an attic at work. Distances if no clock was read; those with a clock's readings. Distances with the readings of a clock. An attic at work. All that clocks can have been set to, and gain (plain); copies of runs. All that clocks can have been set to, and gain, handed on one by one. All cases of the clocks: collected; whether there is one. All cases of the clocks in a slice: slices.Collect. slices.Collect of the cases. told: all cases of an attic. What the cases of the clocks say (plain): each is a run of every clock with the distances that follow; all truths are among them. The cases of the clocks are just all truths (plain). between: the least and the greatest difference of two events over all cases. Time, Between, Before, Wages. The least and the greatest differences over all cases (plain). -/
import Derived.KernelRfl
import Derived.Test.YtagnijhgpogfhaaGreatAb2
import Derived.Test.YtagnijhgpogfhaaGreatOk
import Derived.Test.YtagnijhgpogfhaaGreatAbU
import Derived.Test.YtagnijhgpogfhaaGreatAc2
import Derived.Test.YtagnijhgpogfhaaGreatAc7
import Derived.Test.YtagnijhgpogfhaaGreatAc9
import Derived.Test.YtagnijhgpogfhaaGreatAc4
import Derived.Test.YtagnijhgpogfhaaGreatAcA
import Derived.Test.YtagnijhgpogfhaaGreatSh
import Derived.Test.YtagnijhgpogfhaaGreatAc8
set_option linter.unusedSimpArgs false
set_option linter.unusedVariables false
namespace Go.Ab
def mg (L:List Int)(a b:Nat):Int:=L.getD (5*a+b) 0
def rl (m a b:Nat)(L:List Int):List Int:=L.set (5*a+b) (min (mg L a b) (mg L a m+mg L m b))
def run5:Nat→List Int→List Int
 |0,L=>L
 |k+1,L=>rl (k/25) (k/5%5) (k%5) (run5 k L)
theorem run5_at {m a b:Nat}(ha:a<5)(hb:b<5)(L:List Int):run5 (25*m+5*a+b+1) L=rl m a b (run5 (25*m+5*a+b) L):=by
 rw[run5,show(25*m+5*a+b)/25=m by omega,show(25*m+5*a+b)/5%5=a by omega,show(25*m+5*a+b)%5=b by omega]
theorem rl_len (m a b:Nat)(L:List Int):(rl m a b L).length=L.length:=by simp[rl]
theorem run5_len (L:List Int):∀k,(run5 k L).length=L.length
 |0=>rfl
 |k+1=>by rw[run5,rl_len,run5_len L k]
theorem mg_rl {L:List Int}(hL:L.length=25){m a b:Nat}(ha:a<5)(hb:b<5)(x y:Nat)(hx:x<5)(hy:y<5):mg (rl m a b L) x y=if x=a∧y=b then min (mg L a b) (mg L a m+mg L m b) else mg L x y:=by
 unfold rl
 generalize min (mg L a b) (mg L a m+mg L m b)=v
 unfold mg
 rw[List.getD_eq_getElem?_getD,List.getD_eq_getElem?_getD,List.getElem?_set]
 by_cases h:x=a∧y=b
 ·obtain⟨rfl,rfl⟩:=h
  have:5*x+y<25:=by omega
  simp[hL,this]
 ·rw[if_neg h]
  have:5*a+b≠5*x+y:=by omega
  simp[this]
theorem rl_le {L:List Int}(hL:L.length=25){m a b:Nat}(ha:a<5)(hb:b<5){x y:Nat}(hx:x<5)(hy:y<5):mg (rl m a b L) x y≤mg L x y:=by
 rw[mg_rl hL ha hb x y hx hy]
 split
 ·rename_i h;obtain⟨rfl,rfl⟩:=h;omega
 ·omega
theorem run5_le {L:List Int}(hL:L.length=25){x y:Nat}(hx:x<5)(hy:y<5):∀{k j:Nat},j≤k→mg (run5 k L) x y≤mg (run5 j L) x y
 |0,j,h=>by
   have:j=0:=by omega
   subst this;exact Int.le_refl _
 |k+1,j,h=>by
  rcases Nat.lt_or_ge k j with h1|h1
  ·have:j=k+1:=by omega
   subst this;exact Int.le_refl _
  ·have h2:=run5_le hL hx hy (k:=k) h1
   have h3:=rl_le (L:=run5 k L) (by rw[run5_len];exact hL) (m:=k/25) (a:=k/5%5) (b:=k%5) (by omega) (by omega) hx hy
   rw[run5];omega
def Sol (x:Nat→Int)(L:List Int):Prop:=∀a b,a<5→b<5→x b-x a≤mg L a b
theorem Sol.rl {x:Nat→Int}{L:List Int}(hL:L.length=25)(h:Sol x L){m a b:Nat}(hm:m<5)(ha:a<5)(hb:b<5):Sol x (rl m a b L):=by
 intro c d hc hd
 rw[mg_rl hL ha hb c d hc hd]
 have h0:=h c d hc hd
 split
 ·rename_i e;obtain⟨rfl,rfl⟩:=e
  have h1:=h c m hc hm
  have h2:=h m d hm hd
  omega
 ·exact h0
theorem Sol.run5 {x:Nat→Int}{L:List Int}(hL:L.length=25)(h:Sol x L):∀{k},k≤125→Sol x (run5 k L)
 |0,_=>h
 |k+1,hk=>(Sol.run5 hL h (k:=k) (by omega)).rl (by rw[run5_len];exact hL) (by omega) (by omega) (by omega)
theorem Sol.of_le {x:Nat→Int}{L K:List Int}(h:Sol x L)(hle:∀a b,a<5→b<5→mg L a b≤mg K a b):Sol x K:=fun a b ha hb=>by have:=h a b ha hb;have:=hle a b ha hb;omega
structure Bd (C:Int)(m a b:Nat)(L:List Int):Prop where
 all:∀x y,x<5→y<5→ -(6*C)≤mg L x y
 col:∀x,x<5→ -(3*C)≤mg L x m
 row:∀y,y<5→ -(3*C)≤mg L m y
 mid: -(2*C)≤mg L m m
 colN:∀x,x<5→(a<x∨(x=a∧b≤m))→ -C≤mg L x m
 rowN:∀y,y<5→(a<m∨(m=a∧b≤y))→ -C≤mg L m y
theorem Bd.start {C:Int}(hC:0≤C){L:List Int}{m:Nat}(hm:m<5)(h:∀x y,x<5→y<5→ -C≤mg L x y):Bd C m 0 0 L:=
 ⟨fun x y hx hy=>by have:=h x y hx hy;omega,fun x hx=>by have:=h x m hx hm;omega,fun y hy=>by have:=h m y hm hy;omega,by have:=h m m hm hm;omega,fun x hx _=>h x m hx hm,fun y hy _=>h m y hm hy⟩
theorem Bd.step {C:Int}(hC:0≤C){L:List Int}(hL:L.length=25){m a b:Nat}(hm:m<5)(ha:a<5)(hb:b<5)(h:Bd C m a b L):Bd C m a (b+1) (rl m a b L):=by
 have hv:∀v,mg L a b=v→min v (mg L a m+mg L m b)=min v (mg L a m+mg L m b):=fun _ _=>rfl
 have c1:=h.col a ha
 have r1:=h.row b hb
 have al:=h.all a b ha hb
 have hmm:=h.mid
 refine⟨fun x y hx hy=>?_,fun x hx=>?_,fun y hy=>?_,?_,fun x hx hp=>?_,fun y hy hp=>?_⟩
 ·rw[mg_rl hL ha hb x y hx hy]
  have:=h.all x y hx hy
  split<;>omega
 ·rw[mg_rl hL ha hb x m hx hm]
  have:=h.col x hx
  split
  ·rename_i e;obtain⟨rfl,rfl⟩:=e
   have:=h.colN x hx (.inr ⟨rfl,Nat.le_refl _⟩)
   omega
  ·omega
 ·rw[mg_rl hL ha hb m y hm hy]
  have:=h.row y hy
  split
  ·rename_i e;obtain⟨rfl,rfl⟩:=e
   have:=h.rowN y hy (.inr ⟨rfl,Nat.le_refl _⟩)
   omega
  ·omega
 ·rw[mg_rl hL ha hb m m hm hm]
  split
  ·rename_i e;obtain⟨rfl,rfl⟩:=e
   have:=h.colN m hm (.inr ⟨rfl,Nat.le_refl _⟩)
   omega
  ·omega
 ·rw[mg_rl hL ha hb x m hx hm,if_neg (by omega)]
  exact h.colN x hx (by omega)
 ·rw[mg_rl hL ha hb m y hm hy,if_neg (by omega)]
  exact h.rowN y hy (by omega)
theorem Bd.next {C:Int}{L:List Int}{m a:Nat}(h:Bd C m a 5 L)(hm:m<5):Bd C m (a+1) 0 L:=
 ⟨h.all,h.col,h.row,h.mid,fun x hx hp=>h.colN x hx (by omega),fun y hy hp=>h.rowN y hy (by omega)⟩
theorem run5_bd {C:Int}(hC:0≤C){L:List Int}(hL:L.length=25){m:Nat}(hm:m<5)(h:∀x y,x<5→y<5→ -C≤mg (run5 (25*m) L) x y):∀{a b:Nat},a<5→b≤5→Bd C m a b (run5 (25*m+5*a+b) L)
 |0,0,_,_=>Bd.start hC hm h
 |a+1,0,ha,_=>by
  have:=(run5_bd hC hL hm h (a:=a) (b:=5) (by omega) (Nat.le_refl _)).next hm
  rwa[show 25*m+5*a+5=25*m+5*(a+1)+0 by omega] at this
 |a,b+1,ha,hb=>by
  have ih:=run5_bd hC hL hm h (a:=a) (b:=b) ha (by omega)
  rw[←Nat.add_assoc,run5_at ha (by omega)]
  exact ih.step hC (by rw[run5_len];exact hL) hm ha (by omega)
 termination_by a b=>6*a+b
theorem run5_stage {C:Int}(hC:0≤C){L:List Int}(hL:L.length=25)(h:∀x y,x<5→y<5→ -C≤mg L x y):∀{m:Nat},m≤5→∀x y,x<5→y<5→ -(6^m*C)≤mg (run5 (25*m) L) x y
 |0,_,x,y,hx,hy=>by simpa[run5] using h x y hx hy
 |m+1,hm,x,y,hx,hy=>by
  have hC':0≤6^m*C:=Int.mul_nonneg (by exact Int.pow_nonneg (by decide)) hC
  have:=(run5_bd hC' hL (m:=m) (by omega) (run5_stage hC hL h (m:=m) (by omega)) (a:=4) (b:=5) (by omega) (Nat.le_refl _)).all x y hx hy
  rw[show 25*(m+1)=25*m+5*4+5 by omega,show(6:Int)^(m+1)=6*6^m by rw[Int.pow_succ,Int.mul_comm],Int.mul_assoc]
  omega
theorem run5_low {C:Int}(hC:0≤C){L:List Int}(hL:L.length=25)(h:∀x y,x<5→y<5→ -C≤mg L x y){k:Nat}(hk:k≤125){x y:Nat}(hx:x<5)(hy:y<5): -(7776*C)≤mg (run5 k L) x y:=by
 have h1:=run5_stage hC hL h (m:=5) (by omega) x y hx hy
 have h2:=run5_le hL hx hy (k:=25*5) (j:=k) (by omega)
 have:(6:Int)^5=7776:=by decide
 rw[this] at h1
 omega
theorem run5_le0 {L:List Int}(hL:L.length=25){x y:Nat}(hx:x<5)(hy:y<5)(k:Nat):mg (run5 k L) x y≤mg L x y:=run5_le hL hx hy (j:=0) (Nat.zero_le _)
attribute [irreducible] run5
end Go.Ab
namespace Go.Ab
theorem lt_or_ge_Z (a b:Int):a<b∨b≤a:=by omega
def neg5 (L:List Int):Bool:=decide (mg L 0 0<0)||(decide (mg L 1 1<0)||(decide (mg L 2 2<0)||(decide (mg L 3 3<0)||decide (mg L 4 4<0))))
theorem neg5_iff {L:List Int}:neg5 L=true↔∃a,a<5∧mg L a a<0:=by
 simp only[neg5,Bool.or_eq_true,decide_eq_true_eq]
 constructor
 ·rintro(h|h|h|h|h)
  ·exact⟨0,by omega,h⟩
  ·exact⟨1,by omega,h⟩
  ·exact⟨2,by omega,h⟩
  ·exact⟨3,by omega,h⟩
  ·exact⟨4,by omega,h⟩
 ·rintro⟨a,ha,h⟩
  have:a=0∨a=1∨a=2∨a=3∨a=4:=by omega
  rcases this with rfl|rfl|rfl|rfl|rfl<;>simp[h]
def clo:Nat→List Int→List Int × Bool
 |0,L=>(L,true)
 |n+1,L=>if neg5 (run5 125 L)=true then(run5 125 L,false) else if run5 125 L=L then(run5 125 L,true) else clo n (run5 125 L)
theorem mg_ext {L K:List Int}(hL:L.length=25)(hK:K.length=25)(h:∀a b,a<5→b<5→mg L a b=mg K a b):L=K:=by
 refine List.ext_getElem (by rw[hL,hK]) fun i h1 h2=>?_
 have:=h (i/5) (i%5) (by omega) (by omega)
 unfold mg at this
 rw[show 5*(i/5)+i%5=i by omega] at this
 rw[List.getD_eq_getElem?_getD,List.getD_eq_getElem?_getD,List.getElem?_eq_getElem h1,List.getElem?_eq_getElem h2] at this
 exact this
def sum5 (L:List Int):Int:=L.foldr (· + ·) 0
theorem sum5_le:∀{L K:List Int},L.length=K.length→(∀i,L.getD i 0≤K.getD i 0)→sum5 L≤sum5 K∧(sum5 L=sum5 K→L=K)
 |[],[],_,_=>⟨Int.le_refl _,fun _=>rfl⟩
 |a::L,b::K,hl,h=>by
  have ih:=sum5_le (L:=L) (K:=K) (by simpa using hl) fun i=>by have:=h (i+1);simpa using this
  have h0:=h 0
  simp only[List.getD_cons_zero] at h0
  simp only[sum5,List.foldr_cons] at ih⊢
  refine⟨by omega,fun e=>?_⟩
  have e1:a=b:=by omega
  rw[e1,ih.2 (by omega)]
theorem sum5_ge {B:Int}:∀{L:List Int},(∀i,i<L.length→ -B≤L.getD i 0)→ -(B*L.length)≤sum5 L
 |[],_=>by simp[sum5]
 |a::L,h=>by
  have ih:=sum5_ge (B:=B) (L:=L) fun i hi=>by have:=h (i+1) (by simp;omega);simpa using this
  have h0:=h 0 (by simp)
  simp only[List.getD_cons_zero] at h0
  simp only[sum5,List.foldr_cons,List.length_cons] at ih⊢
  have:B*((L.length+1:Nat):Int)=B*L.length+B:=by rw[Int.natCast_add,Int.mul_add];simp
  rw[this];omega
theorem getD_mg (L:List Int)(i:Nat):L.getD i 0=mg L (i/5) (i%5):=by
 unfold mg;rw[show 5*(i/5)+i%5=i by omega]
structure In5 (B:Int)(L:List Int):Prop where
 len:L.length=25
 hi:∀a b,a<5→b<5→mg L a b≤B
 lo:∀a b,a<5→b<5→ -B≤mg L a b
theorem round_neg {B:Int}{L:List Int}(hL:L.length=25)(hi:∀a b,a<5→b<5→mg L a b≤B){a b:Nat}(ha:a<5)(hb:b<5)(h:mg L a b< -B):neg5 (run5 125 L)=true:=by
 refine neg5_iff.2 ⟨a,ha,?_⟩
 have h1:mg (run5 (25*b+5*a+a+1) L) a a<0:=by
  rw[run5_at ha ha,mg_rl (by rw[run5_len];exact hL) ha ha a a ha ha,if_pos ⟨rfl,rfl⟩]
  have h2:=run5_le0 hL ha hb (25*b+5*a+a)
  have h3:=run5_le0 hL hb ha (25*b+5*a+a)
  have h4:=hi b a hb ha
  omega
 have:=run5_le hL ha ha (k:=125) (j:=25*b+5*a+a+1) (by omega)
 omega
structure Run5 (B:Int)(L:List Int):Prop where
 len:L.length=25
 hi:∀a b,a<5→b<5→mg L a b≤B
 lo:∀a b,a<5→b<5→ -(7776*B)≤mg L a b
theorem In5.run {B:Int}(hB:0≤B){L:List Int}(h:In5 B L):Run5 B L:=⟨h.len,h.hi,fun a b ha hb=>by have:=h.lo a b ha hb;omega⟩
theorem Run5.next {B:Int}(hB:0≤B){L:List Int}(h:Run5 B L)(hn:neg5 (run5 125 L)=false)(hne:run5 125 L≠L):Run5 B (run5 125 L)∧ -(25*B)≤sum5 L∧sum5 (run5 125 L)<sum5 L:=by
 have hlo:∀a b,a<5→b<5→ -B≤mg L a b:=fun a b ha hb=>by
  rcases lt_or_ge_Z (mg L a b) (-B) with h1|h1
  ·rw[round_neg h.len h.hi ha hb h1] at hn;cases hn
  ·exact h1
 have hle:∀i,(run5 125 L).getD i 0≤L.getD i 0:=fun i=>by
  rcases Nat.lt_or_ge i 25 with hi|hi
  ·rw[getD_mg,getD_mg]
   exact run5_le0 h.len (x:=i/5) (y:=i%5) (by omega) (by omega) 125
  ·have e1:(run5 125 L)[i]? =none:=List.getElem?_eq_none (by rw[run5_len,h.len];exact hi)
   have e2:L[i]? =none:=List.getElem?_eq_none (by rw[h.len];exact hi)
   rw[List.getD_eq_getElem?_getD,List.getD_eq_getElem?_getD,e1,e2]
   exact Int.le_refl _
 have hs:=sum5_le (by rw[run5_len]) hle
 refine⟨⟨by rw[run5_len];exact h.len,fun a b ha hb=>?_,fun a b ha hb=>run5_low hB h.len hlo (Nat.le_refl _) ha hb⟩,?_,?_⟩
 ·have:=run5_le0 h.len ha hb (125)
  have:=h.hi a b ha hb
  omega
 ·have:=sum5_ge (B:=B) (L:=L) fun i hi=>by rw[getD_mg];rw[h.len] at hi;exact hlo _ _ (by omega) (by omega)
  rw[h.len] at this
  omega
 ·rcases lt_or_ge_Z (sum5 (run5 125 L)) (sum5 L) with h1|h1
  ·exact h1
  ·exact absurd (hs.2 (by omega)) hne
def left5 (B:Int)(L:List Int):Nat:=(sum5 L+25*B+1).toNat
theorem Run5.left {B:Int}(hB:0≤B){L:List Int}(h:Run5 B L)(hn:neg5 (run5 125 L)=false)(hne:run5 125 L≠L):left5 B (run5 125 L)<left5 B L:=by
 obtain⟨_,h1,h2⟩:=h.next hB hn hne
 unfold left5;omega
theorem clo_more {B:Int}(hB:0≤B):∀{n m:Nat} {L:List Int},Run5 B L→left5 B L<n→left5 B L<m→clo n L=clo m L
 |0,_,_,_,h,_=>by omega
 |_,0,_,_,_,h=>by omega
 |n+1,m+1,L,hr,hn,hm=>by
  simp only[clo]
  split
  ·rfl
  ·rename_i h1
   split
   ·rfl
   ·rename_i h2
    have h1':neg5 (run5 125 L)=false:=by simpa using h1
    have:=hr.left hB h1' h2
    exact clo_more hB (hr.next hB h1' h2).1 (by omega) (by omega)
theorem left5_le {B:Int}{L:List Int}(h:L.length=25)(hi:∀a b,a<5→b<5→mg L a b≤B):left5 B L≤(50*B+1).toNat:=by
 have:sum5 L≤B*25:=by
  have:∀{L:List Int},(∀i,i<L.length→L.getD i 0≤B)→sum5 L≤B*L.length:=by
   intro L
   induction L with
   |nil=>intro _;simp[sum5]
   |cons a L ih=>
    intro h
    have:=ih fun i hi=>by have:=h (i+1) (by simp;omega);simpa using this
    have h0:=h 0 (by simp)
    simp only[List.getD_cons_zero] at h0
    simp only[sum5,List.foldr_cons,List.length_cons] at this⊢
    have:B*((L.length+1:Nat):Int)=B*L.length+B:=by rw[Int.natCast_add,Int.mul_add];simp
    rw[this];omega
  have:=this (L:=L) fun i hi'=>by rw[getD_mg];rw[h] at hi';exact hi _ _ (by omega) (by omega)
  rwa[h] at this
 unfold left5;omega
def clos (L:List Int):List Int × Bool:=clo 12002 L
theorem clos_eq {B:Int}(hB:0≤B)(hB2:B≤240){L:List Int}(h:Run5 B L){n:Nat}(hn:left5 B L<n):clo n L=clos L:=by
 have:=left5_le h.len h.hi
 exact clo_more hB h hn (by omega)
structure Tri (L:List Int):Prop where
 len:L.length=25
 tri:∀a b m,a<5→b<5→m<5→mg L a b≤mg L a m+mg L m b
 diag:∀a,a<5→0≤mg L a a
theorem tri_of_fix {L:List Int}(hL:L.length=25)(hf:run5 125 L=L)(hn:neg5 L=false):Tri L:=by
 have hk:∀k,k≤125→run5 k L=L:=fun k hk=>mg_ext (by rw[run5_len];exact hL) hL fun a b ha hb=>by
  have h1:=run5_le hL ha hb (k:=125) (j:=k) hk
  have h2:=run5_le0 hL ha hb (k)
  rw[hf] at h1
  omega
 refine⟨hL,fun a b m ha hb hm=>?_,fun a ha=>?_⟩
 ·have h1:=run5_at ha hb L (m:=m)
  rw[hk _ (by omega),hk _ (by omega)] at h1
  have h2:=mg_rl hL ha hb a b ha hb (m:=m)
  rw[if_pos ⟨rfl,rfl⟩,←h1] at h2
  omega
 ·rcases lt_or_ge_Z (mg L a a) 0 with h|h
  ·rw[neg5_iff.2 ⟨a,ha,h⟩] at hn;cases hn
  ·exact h
theorem clo_spec {B:Int}(hB:0≤B):∀{n:Nat} {L:List Int},Run5 B L→left5 B L<n→
  ((clo n L).2=true→Tri (clo n L).1∧In5 B (clo n L).1∧(∀a b,a<5→b<5→mg (clo n L).1 a b≤mg L a b)∧∀x,Sol x L↔Sol x (clo n L).1)∧((clo n L).2=false→∀x,¬Sol x L)
 |0,L,h,hn=>by omega
 |n+1,L,h,hn=>by
  simp only[clo]
  split
  ·rename_i h1
   refine⟨fun h=>(by cases h),fun _ x hx=>?_⟩
   obtain⟨a,ha,h2⟩:=neg5_iff.1 h1
   have:=(hx.run5 h.len (Nat.le_refl _)) a a ha ha
   omega
  ·rename_i h1
   have h1':neg5 (run5 125 L)=false:=by simpa using h1
   split
   ·rename_i h2
    refine⟨fun _=>?_,fun h=>by cases h⟩
    show Tri (run5 125 L)∧In5 B (run5 125 L)∧(∀a b,a<5→b<5→mg (run5 125 L) a b≤mg L a b)∧∀x,Sol x L↔Sol x (run5 125 L)
    rw[h2]
    rw[h2] at h1'
    refine⟨tri_of_fix h.len h2 h1',⟨h.len,h.hi,fun a b ha hb=>?_⟩,fun a b _ _=>Int.le_refl _,fun x=>Iff.rfl⟩
    rcases lt_or_ge_Z (mg L a b) (-B) with h3|h3
    ·have:=round_neg h.len h.hi ha hb h3
     rw[h2,h1'] at this;cases this
    ·exact h3
   ·rename_i h2
    have hle:∀a b,a<5→b<5→mg (run5 125 L) a b≤mg L a b:=fun a b ha hb=>run5_le0 h.len ha hb (125)
    have ih:=clo_spec hB (n:=n) (h.next hB h1' h2).1 (by have:=h.left hB h1' h2;omega)
    refine⟨fun h3=>?_,fun h3 x hx=>ih.2 h3 x (hx.run5 h.len (Nat.le_refl _))⟩
    obtain⟨k1,k2,k3,k4⟩:=ih.1 h3
    exact⟨k1,k2,fun a b ha hb=>Int.le_trans (k3 a b ha hb) (hle a b ha hb),fun x=>⟨fun hx=>(k4 x).1 (hx.run5 h.len (Nat.le_refl _)),fun hx=>((k4 x).2 hx).of_le hle⟩⟩
theorem clos_spec {B:Int}(hB:0≤B)(hB2:B≤240){L:List Int}(h:In5 B L):
  ((clos L).2=true→Tri (clos L).1∧In5 B (clos L).1∧(∀a b,a<5→b<5→mg (clos L).1 a b≤mg L a b)∧∀x,Sol x L↔Sol x (clos L).1)∧((clos L).2=false→∀x,¬Sol x L):=by
 have:=left5_le h.len h.hi
 exact clo_spec hB (h.run hB) (by omega)
end Go.Ab
namespace Go.Ab
def getI:List Int→Nat→Int
 |[],_=>0
 |x::_,0=>x
 |_::l,k+1=>getI l k
theorem getI_eq:∀(l:List Int) (k:Nat),getI l k=l.getD k 0
 |[],k=>by simp[getI]
 |x::l,0=>by simp[getI]
 |x::l,k+1=>by simp[getI,getI_eq l k]
def setF {β:Type}(v:Int):List Int→Nat→(List Int→β)→β
 |[],_,f=>f []
 |_::l,0,f=>f (v::l)
 |x::l,k+1,f=>setF v l k fun r=>f (x::r)
theorem setF_eq {β:Type}(v:Int):∀(l:List Int) (k:Nat) (f:List Int→β),setF v l k f=f (l.set k v)
 |[],k,f=>by simp[setF]
 |x::l,0,f=>rfl
 |x::l,k+1,f=>by simp[setF,setF_eq v l k]
def stepK {β:Type}(L:List Int)(s:Nat × Nat × Nat)(f:List Int→β):β:=match s with
 |(i,j,k)=>zf (getI L j+getI L k) fun v=>match ilt v (getI L i) with
  |true=>setF v L i f
  |false=>f L
def runK {β:Type}:List (Nat × Nat × Nat)→List Int→(List Int→β)→β
 |[],L,f=>f L
 |s::l,L,f=>stepK L s fun L=>runK l L f
def stepsK (n:Nat):List (Nat × Nat × Nat):=(List.range n).map fun k=>(5*(k/5%5)+k%5,5*(k/5%5)+k/25,5*(k/25)+k%5)
theorem set_self:∀(L:List Int) (i:Nat),L.set i (L.getD i 0)=L
 |[],i=>by simp
 |x::l,0=>by simp
 |x::l,i+1=>by simpa using set_self l i
theorem stepK_eq {β:Type}(L:List Int)(k:Nat)(f:List Int→β):
  stepK L (5*(k/5%5)+k%5,5*(k/5%5)+k/25,5*(k/25)+k%5) f=f (rl (k/25) (k/5%5) (k%5) L):=by
 simp only[stepK,zf_eq,getI_eq,ilt_eq,rl,mg]
 generalize 5*(k/5%5)+k%5=i
 generalize L.getD (5*(k/5%5)+k/25) 0+L.getD (5*(k/25)+k%5) 0=v
 by_cases h:v<L.getD i 0
 ·simp only[h,decide_true,setF_eq]
  rw[Int.min_eq_right (by omega)]
 ·simp only[h,decide_false]
  rw[Int.min_eq_left (by omega),set_self]
theorem runK_append {β:Type}:∀(l r:List (Nat × Nat × Nat)) (L:List Int) (f:List Int→β),runK (l++r) L f=runK l L fun L=>runK r L f
 |[],r,L,f=>rfl
 |s::l,r,L,f=>by
  have:runK l=fun(L:List Int) (f:List Int→β)=>runK l L f:=rfl
  simp only[List.cons_append,runK,runK_append l r]
theorem runK_eq {β:Type}:∀(n:Nat) (L:List Int) (f:List Int→β),runK (stepsK n) L f=f (run5 n L)
 |0,L,f=>by rw[run5];rfl
 |n+1,L,f=>by
  have:stepsK (n+1)=stepsK n++[(5*(n/5%5)+n%5,5*(n/5%5)+n/25,5*(n/25)+n%5)]:=by simp[stepsK,List.range_succ]
  rw[this,runK_append,runK_eq n]
  show stepK _ _ (fun L=>runK [] L f)=_
  rw[stepK_eq,run5];rfl
def isNeg:Int→Bool
 |.ofNat _=>false
 |.negSucc _=>true
theorem isNeg_eq (n:Int):isNeg n=decide (n<0):=by
 cases n with
 |ofNat n=>simp[isNeg]
 |negSucc n=>simp[isNeg]
theorem bsel_or (a b:Bool):bsel a true b=(a||b):=by cases a<;>rfl
def neg5K (L:List Int):Bool:=bsel (isNeg (getI L 0)) true (bsel (isNeg (getI L 6)) true (bsel (isNeg (getI L 12)) true (bsel (isNeg (getI L 18)) true (isNeg (getI L 24)))))
theorem neg5K_eq (L:List Int):neg5K L=neg5 L:=by
 simp only[neg5K,bsel_or,getI_eq,isNeg_eq]
 unfold neg5 mg
 rfl
def eqL:List Int→List Int→Bool
 |[],[]=>true
 |a::l,b::r=>match ieq a b with|true=>eqL l r|false=>false
 |_,_=>false
theorem eqL_eq:∀(l r:List Int),eqL l r=decide (l=r)
 |[],[]=>by simp[eqL]
 |[],_::_=>by simp[eqL]
 |_::_,[]=>by simp[eqL]
 |a::l,b::r=>by
  simp only[eqL,ieq_eq]
  by_cases h:a=b
  ·simp[h,eqL_eq l r]
  ·have:(a==b)=false:=by simpa using h
   simp[this,h]
def cloK (T:List (Nat × Nat × Nat)):Nat→List Int→List Int × Bool
 |0,L=>(L,true)
 |n+1,L=>runK T L fun K=>match neg5K K with
  |true=>(K,false)
  |false=>match eqL K L with
   |true=>(K,true)
   |false=>cloK T n K
theorem cloK_eq:∀(n:Nat) (L:List Int),cloK (stepsK 125) n L=clo n L
 |0,L=>rfl
 |n+1,L=>by
  simp only[cloK,runK_eq,neg5K_eq,eqL_eq,clo]
  cases neg5 (run5 125 L) with
  |true=>simp
  |false=>
   by_cases h:run5 125 L=L
   ·simp[h]
   ·simp[h,cloK_eq n]
def shw (set gain m:Int):Int:=set+m+m*gain/60
theorem shw_go (n:Int):(if n<0 then n-59 else n).tdiv 60=n/60:=by
 split
 ·rename_i h
  have:n-59= -(59-n):=by omega
  rw[this,Int.neg_tdiv,Int.tdiv_eq_ediv_of_nonneg (by omega)];omega
 ·rw[Int.tdiv_eq_ediv_of_nonneg (by omega)]
theorem shw_step {set gain m:Int}(h1: -60≤gain):shw set gain m≤shw set gain (m+1):=by
 unfold shw
 have:(m+1)*gain=m*gain+gain:=by rw[Int.add_mul,Int.one_mul]
 rw[this];omega
theorem shw_mono {set gain:Int}(h1: -60≤gain){m n:Int}(h:m≤n):shw set gain m≤shw set gain n:=by
 obtain⟨k,rfl⟩:∃k:Nat,n=m+k:=⟨(n-m).toNat,by omega⟩
 clear h
 induction k with
 |zero=>simp
 |succ k ih=>
  have:=shw_step (set:=set) (m:=m+k) h1
  rw[show m+((k+1:Nat):Int)=m+k+1 by omega]
  omega
def whn (set gain s:Int):Nat→Int × Int
 |0=>(1,0)
 |m+1=>if shw set gain m=s then(if(whn set gain s m).2<(whn set gain s m).1 then((m:Int),(m:Int)) else((whn set gain s m).1,(m:Int))) else whn set gain s m
theorem whn_le {set gain s:Int}:∀{n:Nat},(whn set gain s n).1≤(whn set gain s n).2→0≤(whn set gain s n).1∧(whn set gain s n).2<n∧(whn set gain s n).1<n
 |0,h=>by simp[whn] at h
 |n+1,h=>by
  simp only[whn] at h⊢
  split at h
  ·rename_i h1
   split
   ·split at h
    ·rename_i h2;rw[if_pos h2];simp;omega
    ·rename_i h2;rw[if_neg h2]
     have:=whn_le (set:=set) (gain:=gain) (s:=s) (n:=n) (by omega)
     simp only;omega
   ·contradiction
  ·rename_i h1
   rw[if_neg h1]
   have:=whn_le (n:=n) h
   omega
theorem whn_none {set gain s:Int}:∀{n:Nat},(whn set gain s n).2<(whn set gain s n).1→∀m:Nat,m<n→shw set gain m≠s
 |0,_,m,hm=>by omega
 |n+1,h,m,hm=>by
  simp only[whn] at h
  split at h
  ·split at h
   ·simp at h
   ·rename_i h2
    have:=whn_le (set:=set) (gain:=gain) (s:=s) (n:=n)
    simp only at h
    omega
  ·rename_i h1
   rcases Nat.lt_or_ge m n with h3|h3
   ·exact whn_none h m h3
   ·have:m=n:=by omega
    subst this;exact h1
theorem whn_in {set gain s:Int}:∀{n:Nat},(whn set gain s n).1≤(whn set gain s n).2→shw set gain (whn set gain s n).1=s∧shw set gain (whn set gain s n).2=s∧∀m:Nat,m<n→shw set gain m=s→(whn set gain s n).1≤m∧(m:Int)≤(whn set gain s n).2
 |0,h=>by simp[whn] at h
 |n+1,h=>by
  simp only[whn] at h⊢
  by_cases h1:shw set gain n=s
  ·rw[if_pos h1] at h⊢
   by_cases h2:(whn set gain s n).2<(whn set gain s n).1
   ·rw[if_pos h2] at h⊢
    refine⟨h1,h1,fun m hm hs=>?_⟩
    rcases Nat.lt_or_ge m n with h3|h3
    ·exact absurd hs (whn_none h2 m h3)
    ·have:m=n:=by omega
     subst this;simp
   ·rw[if_neg h2] at h⊢
    obtain⟨i1,i2,i3⟩:=whn_in (n:=n) (Int.not_lt.1 h2)
    have i4:=whn_le (n:=n) (Int.not_lt.1 h2)
    refine⟨i1,h1,fun m hm hs=>?_⟩
    rcases Nat.lt_or_ge m n with h3|h3
    ·have:=i3 m h3 hs;simp only;omega
    ·have:m=n:=by omega
     subst this;simp only;omega
  ·rw[if_neg h1] at h⊢
   obtain⟨i1,i2,i3⟩:=whn_in (n:=n) h
   refine⟨i1,i2,fun m hm hs=>?_⟩
   rcases Nat.lt_or_ge m n with h3|h3
   ·exact i3 m h3 hs
   ·have:m=n:=by omega
    subst this;exact absurd hs h1
theorem whn_iff {set gain s:Int}(hg: -60≤gain){n:Nat}{m:Int}(h0:0≤m)(hn:m<n):shw set gain m=s↔(whn set gain s n).1≤m∧m≤(whn set gain s n).2:=by
 obtain⟨k,rfl⟩:=Int.eq_ofNat_of_zero_le h0
 rcases lt_or_ge_Z (whn set gain s n).2 (whn set gain s n).1 with h|h
 ·have:=whn_none h k (by omega)
  constructor
  ·intro e;exact absurd e this
  ·intro⟨a,b⟩;omega
 ·obtain⟨i1,i2,i3⟩:=whn_in h
  constructor
  ·exact i3 k (by omega)
  ·intro⟨a,b⟩
   have a1:=shw_mono (set:=set) hg a
   have b1:=shw_mono (set:=set) hg b
   omega
theorem whn_rng {set gain s:Int}{n:Nat}(h:(whn set gain s n).1≤(whn set gain s n).2):0≤(whn set gain s n).1∧(whn set gain s n).2<n∧(whn set gain s n).1<n:=whn_le h
def whnK (p:Nat→Bool):Nat→Nat→Int × Int→Int × Int
 |0,_,s=>s
 |n+1,m,s=>match p m with
  |true=>(match s with|(lo,hi)=>match ilt hi lo with
   |true=>nf (m+1) fun k=>whnK p n k (.ofNat m,.ofNat m)
   |false=>nf (m+1) fun k=>whnK p n k (lo,.ofNat m))
  |false=>nf (m+1) fun k=>whnK p n k s
theorem whnK_eq (set gain s:Int):∀(n m:Nat),whnK (fun m=>ieq (set+ .ofNat m+ .ofNat m*gain/60) s) n m (whn set gain s m)=whn set gain s (m+n)
 |0,m=>rfl
 |n+1,m=>by
  have ih:=whnK_eq set gain s n (m+1)
  rw[show m+(n+1)=m+1+n by omega,←ih]
  simp only[whnK,nf_eq,ieq_eq,ilt_eq,whn,shw,Int.ofNat_eq_natCast]
  by_cases h:set+(m:Int)+(m:Int)*gain/60=s
  ·simp only[h,BEq.rfl,if_true]
   by_cases h2:(whn set gain s m).2<(whn set gain s m).1<;>simp[h2]
  ·have:(set+(m:Int)+(m:Int)*gain/60==s)=false:=by simpa using h
   simp only[this,h,if_false]
end Go.Ab
namespace Go.Ab
theorem nth_iv {L:List Int}{k:Nat}(h:k<L.length):nth k (L.map iv)=some (.int .i64 (L.getD k 0)):=by
 rw[nth_eq,List.getElem?_map,List.getElem?_eq_getElem h,List.getD_eq_getElem?_getD,List.getElem?_eq_getElem h];rfl
theorem allOne_iv (L:List Int):allOne (L.map iv)=true:=allOne_eq.2 fun v hv=>by
 obtain⟨n,_,rfl⟩:=List.mem_map.1 hv;rfl
theorem put_ints {h:H}{b:Nat}{L K:List Int}(hb:h.get b=some (.cells .rw (L.map iv)))(hl:K.length=L.length)(hn:K≠[]):h.put b 0 (K.map iv)=some (h.set b (.cells .rw (K.map iv))):=by
 cases K with
 |nil=>exact absurd rfl hn
 |cons a K=>
  have hp:putN 0 ((a::K).map iv) (L.map iv)=some ((a::K).map iv):=by
   refine(putN_eq (by simp)).2 ⟨?_,by rw[List.length_map,List.length_map];omega⟩
   rw[List.drop_eq_nil_of_le (by rw[List.length_map,List.length_map];omega),List.append_nil,List.take_zero,List.nil_append]
  exact H.put_rw (allOne_iv (a::K)) hb hp
theorem putN_iv {L:List Int}{k:Nat}(hk:k<L.length)(v:Int):putN k [.int .i64 v] (L.map iv)=some ((L.set k v).map iv):=by
 refine(putN_eq (by simp)).2 ⟨?_,by simp;omega⟩
 rw[List.map_set,List.set_eq_take_append_cons_drop,if_pos (by simpa using hk)]
 simp[iv]
theorem nth_mg {L:List Int}(hL:L.length=25){x y:Nat}(hx:x<5)(hy:y<5):nth (x*5+y*1) (L.map iv)=some (.int .i64 (mg L x y)):=by
 rw[nth_iv (by omega)];unfold mg;rw[show x*5+y*1=5*x+y by omega]
theorem iaa5 (sz b o:Nat){k:Nat}(hk:k<5):q_iaa 5 sz (.ptr b o) (.int .i64 (k:Int))=some (.ptr b (o+k*sz)):=q_iaa_ptr (nat_cst k) hk
theorem lenN_iv (L:List Int):lenN (L.map iv)=L.length:=by rw[lenN_eq,List.length_map]
theorem getN_iv (L:List Int):getN 0 L.length (L.map iv)=some (L.map iv):=getN_full (by simp)
theorem Run5.add {L:List Int}(h:Run5 240 L){k:Nat}(hk:k<125): -9223372036854775808≤mg (run5 k L) (k/5%5) (k/25)+mg (run5 k L) (k/25) (k%5)∧mg (run5 k L) (k/5%5) (k/25)+mg (run5 k L) (k/25) (k%5)≤9223372036854775807:=by
 have lo:=fun x y hx hy=>run5_low (C:=7776*240) (by omega) h.len (fun a b ha hb=>h.lo a b ha hb) (k:=k) (by omega) (x:=x) (y:=y) hx hy
 have a1:=lo (k/5%5) (k/25) (by omega) (by omega)
 have a2:=lo (k/25) (k%5) (by omega) (by omega)
 have b1:=run5_le0 h.len (x:=k/5%5) (y:=k/25) (by omega) (by omega) k
 have b2:=run5_le0 h.len (x:=k/25) (y:=k%5) (by omega) (by omega) k
 have c1:=h.hi (k/5%5) (k/25) (by omega) (by omega)
 have c2:=h.hi (k/25) (k%5) (by omega) (by omega)
 omega
structure CI (h:H)(B:Nat)(K Z:List Int)(j:Nat)(tm:T V)(h':H):Prop where
 sub:h.Sub h'
 nx:B<h'.next
 gf:h'.get h.next=some (.cells .rw ((run5 j K).map iv))
 gr:h'.get (h.next+1)=some (.cells .rw (Z.map iv))
 gb:h'.get B=some (.cells .rw (K.map iv))
 e1:(Opd.t 1).ev tm=.ptr h.next 0
 e2:(Opd.t 2).ev tm=.ptr (h.next+1) 0
 e4:(Opd.t 4).ev tm=.ptr B 0
end Go.Ab
namespace Go.Ab.Tryz
open Go.Proofs
variable {fast:Nat→Option (List V→H→Option (V × H))}
theorem least_ev (f1:fast 148=none){h:H}{x:V}{l:List Int}(hw:h.wf)(hx:SlAt h x 1 (l.map fun n=>[iv n]))(n:Int)(Q:V→H→Prop)(q:∀h',h.Sub h'→Q (.int .i64 (l.foldl min n)) h'):
  Ev fnG fast (.fn 148 [] []) [.int .i64 n,x] h Q:=by
 have hb:=hx.boundE
 refine Ev_body (fd:=c148) f1 rfl rfl ?_
 simp -implicitDefEqProofs(maxSteps:=999999)(disch:=first|with_reducible rfl|omega|(simp only[nA,nS,nD]<;>omega)|fail)only[c148,go_sem,hx.lenE]
 refine W_count l.length (fun i s=>∃tm h',s=⟨tm,h',[]⟩∧h.Sub h'∧(Opd.t 0).ev tm=.int .i64 ((l.take i).foldl min n)∧(Opd.t 7).ev tm=x∧(Opd.t 8).ev tm=.int .i64 (l.length:Int)∧(Opd.t 9).ev tm=.int .i64 (i:Int))
  ?_ ?_ (i:=0) (Nat.zero_le _) ⟨_,_,rfl,H.Sub.refl hw,(by simp[ev_c,ev_put]<;>rfl),(by simp[ev_c,ev_put]<;>rfl),(by simp[ev_c,ev_put]<;>rfl),(by simp[ev_c,ev_put]<;>rfl)⟩
 ·rintro i s hi ⟨tm,h',rfl,hs,e0,e7,e8,e9⟩
  have hi':(i:Int)<(l.length:Int):=by omega
  obtain⟨b,o,c,cs,rfl,hc,hq,hg,hn,hn0⟩:=(hx.mono hs).at hi
  have hnt:nth (o+i*1) cs=some (.int .i64 l[i]):=hn0 (by omega)
  simp -implicitDefEqProofs(maxSteps:=999999)(disch:=first|with_reducible rfl|omega|(simp only[nA,nS,nD]<;>omega)|fail)only[go_sem,e0,e7,e8,e9,hi',hq (nat_cst i),hc,hnt,wr_succ]
  exact⟨_,_,rfl,hs,(by rw[List.take_succ_eq_append_getElem hi,List.foldl_append];exact(by simp[ev_c,ev_put]<;>rfl)),(by simp[ev_c,ev_put,e7]<;>rfl),(by simp[ev_c,ev_put,e8]<;>rfl),(by simp[ev_c,ev_put]<;>rfl)⟩
 ·rintro s ⟨tm,h',rfl,hs,e0,e7,e8,e9⟩
  simp -implicitDefEqProofs(maxSteps:=999999)(disch:=first|with_reducible rfl|omega|(simp only[nA,nS,nD]<;>omega)|fail)only[go_sem,e0,e7,e8,e9,Int.lt_irrefl]
  rw[List.take_length]
  exact q _ hs
set_option maxHeartbeats 1000000 in
theorem closed_ev (f1:fast 148=none)(f2:fast 178=none){h:H}(hw:h.wf){L:List Int}(hL:In5 240 L)(Q:V→H→Prop)(q:∀h',h.Sub h'→Q (.tup [.agg ((clos L).1.map iv),.bool (clos L).2]) h'):
  Ev fnG fast (.fn 178 [] []) [.agg (L.map iv)] h Q:=by
 have hl:=hL.len
 have h55:¬(((5:Nat):Int)<5):=by omega
 have hz:∃Z:List Int,Z.length=25∧Z.map iv=[.int .i64 0,.int .i64 0,.int .i64 0,.int .i64 0,.int .i64 0,.int .i64 0,.int .i64 0,.int .i64 0,.int .i64 0,.int .i64 0,.int .i64 0,.int .i64 0,.int .i64 0,.int .i64 0,.int .i64 0,.int .i64 0,.int .i64 0,.int .i64 0,.int .i64 0,.int .i64 0,.int .i64 0,.int .i64 0,.int .i64 0,.int .i64 0,.int .i64 0]:=⟨List.replicate 25 0,rfl,rfl⟩
 obtain⟨Z,lZ,hZ⟩:=hz
 refine Ev_body (fd:=c178) f2 rfl rfl ?_
 simp -implicitDefEqProofs(maxSteps:=999999)(disch:=first|with_reducible rfl|omega|(simp only[nA,nS,nD]<;>omega)|fail)only[c178,go_sem]
 rw[←hZ]
 have s2:h.Sub ((h.add (.cells .rw (L.map iv))).add (.cells .rw (Z.map iv))):=(by repeat(first|assumption|exact H.Sub.refl (by assumption)|refine H.Sub.add ?_ _|refine H.Sub.set ?_ (by first|omega|(simp only[H.next_add,H.next_set,H.next_del]<;>omega)) (by first|omega|(simp only[H.next_add,H.next_set,H.next_del]<;>omega)) (by assumption) _))
 refine W_loop (fun k s=>∃tm h' K,s=⟨tm,h',[]⟩∧h.Sub h'∧h.next+2≤h'.next∧h'.get h.next=some (.cells .rw (K.map iv))∧h'.get (h.next+1)=some (.cells .rw (Z.map iv))∧(Opd.t 1).ev tm=.ptr h.next 0∧(Opd.t 2).ev tm=.ptr (h.next+1) 0∧Run5 240 K∧left5 240 K<k∧clos K=clos L)
  ?_ (left5 240 L+1) _ ⟨_,_,L,rfl,s2,by simp only[H.next_add];omega,by simp -implicitDefEqProofs(maxSteps:=999999)(disch:=first|with_reducible rfl|omega|(simp only[nA,nS,nD]<;>omega)|fail)only[go_sem],by simp -implicitDefEqProofs(maxSteps:=999999)(disch:=first|with_reducible rfl|omega|(simp only[nA,nS,nD]<;>omega)|fail)only[go_sem],(by simp[ev_c,ev_put]<;>rfl),(by simp[ev_c,ev_put]<;>rfl),hL.run (by decide),by omega,rfl⟩
 rintro k s ⟨tm,h1,K,rfl,s1,n1,g1,g2,e1,e2,r1,lf,hcl⟩
 have lK:=r1.len
 have hw1:=s1.wf
 have gK:getN 0 25 (K.map iv)=some (K.map iv):=by rw[←lK];exact getN_iv K
 have lnK:lenN (K.map iv)=25:=by rw[lenN_iv,lK]
 have hB:h.next+1<h1.next:=by omega
 have pB:(h1.add (.cells .rw (Z.map iv))).put h1.next 0 (K.map iv)=some ((h1.add (.cells .rw (Z.map iv))).set h1.next (.cells .rw (K.map iv))):=put_ints (L:=Z) (get_add_new rfl) (by omega) (fun e=>by rw[e] at lK;cases lK)
 simp -implicitDefEqProofs(maxSteps:=999999)(disch:=first|with_reducible rfl|omega|(simp only[nA,nS,nD]<;>omega)|fail)only[go_sem,e1,e2,cells_of g1,gK,lnK,pB]
 have sB:h1.Sub (h1.add (.cells .rw (K.map iv))):=(H.Sub.refl hw1).add _
 refine W_count 5 (fun m s=>∃tm h',s=⟨tm,h',[]⟩∧CI h h1.next K Z (25*m) tm h'∧(Opd.t 10).ev tm=.int .i64 (m:Int)) ?_ ?_ (i:=0) (Nat.zero_le _)
  ⟨_,_,rfl,⟨s1.trans sB,by rw[H.next_add];omega,by rw[run5];exact sB.get g1,sB.get g2,get_add_new rfl,(by simp[ev_c,ev_put,e1]<;>rfl),(by simp[ev_c,ev_put,e2]<;>rfl),(by simp[ev_c,ev_put]<;>rfl)⟩,(by simp[ev_c,ev_put]<;>rfl)⟩
 ·rintro m s hm ⟨tm,h',rfl,c,e10⟩
  have hm':(m:Int)<5:=by omega
  simp -implicitDefEqProofs(maxSteps:=999999)(disch:=first|with_reducible rfl|omega|(simp only[nA,nS,nD]<;>omega)|fail)only[go_sem,e10,hm']
  refine W_count 5 (fun a s=>∃tm h',s=⟨tm,h',[]⟩∧CI h h1.next K Z (25*m+5*a) tm h'∧(Opd.t 10).ev tm=.int .i64 (m:Int)∧(Opd.t 5).ev tm=.int .i64 (m:Int)∧(Opd.t 13).ev tm=.int .i64 (a:Int)) ?_ ?_ (i:=0) (Nat.zero_le _)
   ⟨_,_,rfl,⟨c.sub,c.nx,c.gf,c.gr,c.gb,(by simp[ev_c,ev_put,c.e1]<;>rfl),(by simp[ev_c,ev_put,c.e2]<;>rfl),(by simp[ev_c,ev_put,c.e4]<;>rfl)⟩,(by simp[ev_c,ev_put,e10]<;>rfl),(by simp[ev_c,ev_put]<;>rfl),(by simp[ev_c,ev_put]<;>rfl)⟩
  ·rintro a s ha ⟨tm,h',rfl,c,e10,e5,e13⟩
   have ha':(a:Int)<5:=by omega
   simp -implicitDefEqProofs(maxSteps:=999999)(disch:=first|with_reducible rfl|omega|(simp only[nA,nS,nD]<;>omega)|fail)only[go_sem,e10,e5,e13,ha']
   refine W_count 5 (fun b s=>∃tm h',s=⟨tm,h',[]⟩∧CI h h1.next K Z (25*m+5*a+b) tm h'∧(Opd.t 10).ev tm=.int .i64 (m:Int)∧(Opd.t 5).ev tm=.int .i64 (m:Int)∧(Opd.t 13).ev tm=.int .i64 (a:Int)∧(Opd.t 6).ev tm=.int .i64 (a:Int)∧(Opd.t 16).ev tm=.int .i64 (b:Int)) ?_ ?_ (i:=0) (Nat.zero_le _)
    ⟨_,_,rfl,⟨c.sub,c.nx,c.gf,c.gr,c.gb,(by simp[ev_c,ev_put,c.e1]<;>rfl),(by simp[ev_c,ev_put,c.e2]<;>rfl),(by simp[ev_c,ev_put,c.e4]<;>rfl)⟩,(by simp[ev_c,ev_put,e10]<;>rfl),(by simp[ev_c,ev_put,e5]<;>rfl),(by simp[ev_c,ev_put,e13]<;>rfl),(by simp[ev_c,ev_put]<;>rfl),(by simp[ev_c,ev_put]<;>rfl)⟩
   ·rintro b s hb ⟨tm,h',rfl,c,e10,e5,e13,e6,e16⟩
    have hb':(b:Int)<5:=by omega
    obtain⟨J,hJ⟩:∃J,run5 (25*m+5*a+b) K=J:=⟨_,rfl⟩
    have lJ:J.length=25:=by rw[←hJ,run5_len];exact lK
    have hadd:=r1.add (k:=25*m+5*a+b) (by omega)
    have gf:=c.gf
    rw[show(25*m+5*a+b)/25=m by omega,show(25*m+5*a+b)/5%5=a by omega,show(25*m+5*a+b)%5=b by omega,hJ] at hadd
    rw[hJ] at gf
    have hw':=c.sub.wf
    have nx:=c.nx
    simp -implicitDefEqProofs(maxSteps:=999999)(disch:=first|with_reducible rfl|omega|(simp only[nA,nS,nD]<;>omega)|fail)only[go_sem,e10,e5,e13,e6,e16,c.e1,hb',iaa5,cells_of gf,gf,nth_mg lJ ha hb,nth_mg lJ ha hm,nth_mg lJ hm hb,wr_in hadd.1 hadd.2]
    have hx:SlAt (h'.add (.cells .rw [.int .i64 (mg J a m+mg J m b)])) (.sl h'.next 0 1 (.fix 1)) 1 ([mg J a m+mg J m b].map fun n=>[iv n]):=SlAt.new _ rfl rfl rfl (by simp) (by simp)
    refine least_ev f1 (h:=h'.add (.cells .rw [.int .i64 (mg J a m+mg J m b)])) (H.wf_add hw' _) hx _ _ fun h2 s2=>?_
    have s12:h'.Sub h2:=((H.Sub.refl hw').add _).trans s2
    have gf2:=s12.get gf
    have hp:=putN_iv (L:=J) (k:=a*5+b*1) (by omega) (min (mg J a b) (mg J a m+mg J m b))
    have hx2:=s12.next
    simp -implicitDefEqProofs(maxSteps:=999999)(disch:=first|with_reducible rfl|omega|(simp only[nA,nS,nD]<;>omega)|fail)only[go_sem,List.foldl_cons,List.foldl_nil,iaa5,e10,e5,e13,e6,e16,c.e1,cells_of gf2,gf2,cells_of gf,gf,nth_mg lJ ha hb,nth_mg lJ ha hm,nth_mg lJ hm hb,hp,wr_succ]
    have hr:J.set (a*5+b*1) (min (mg J a b) (mg J a m+mg J m b))=run5 (25*m+5*a+(b+1)) K:=by
     rw[←Nat.add_assoc,run5_at ha hb,hJ,show a*5+b*1=5*a+b by omega];rfl
    rw[hr]
    exact⟨_,_,rfl,⟨(c.sub.trans s12).set (by omega) (by omega) hw _,by rw[H.next_set];omega,get_set_same rfl,by rw[get_set_other (by omega)];exact s12.get c.gr,by rw[get_set_other (by omega)];exact s12.get c.gb,(by simp[ev_c,ev_put,c.e1]<;>rfl),(by simp[ev_c,ev_put,c.e2]<;>rfl),(by simp[ev_c,ev_put,c.e4]<;>rfl)⟩,(by simp[ev_c,ev_put,e10]<;>rfl),(by simp[ev_c,ev_put,e5]<;>rfl),(by simp[ev_c,ev_put,e13]<;>rfl),(by simp[ev_c,ev_put,e6]<;>rfl),(by simp[ev_c,ev_put]<;>rfl)⟩
   ·rintro s ⟨tm,h',rfl,c,e10,e5,e13,e6,e16⟩
    simp -implicitDefEqProofs(maxSteps:=999999)(disch:=first|with_reducible rfl|omega|(simp only[nA,nS,nD]<;>omega)|fail)only[go_sem,e10,e5,e13,e6,e16,h55,wr_succ]
    exact⟨_,_,rfl,⟨c.sub,c.nx,by rw[Nat.mul_add,←Nat.add_assoc];exact c.gf,c.gr,c.gb,(by simp[ev_c,ev_put,c.e1]<;>rfl),(by simp[ev_c,ev_put,c.e2]<;>rfl),(by simp[ev_c,ev_put,c.e4]<;>rfl)⟩,(by simp[ev_c,ev_put,e10]<;>rfl),(by simp[ev_c,ev_put,e5]<;>rfl),(by simp[ev_c,ev_put]<;>rfl)⟩
  ·rintro s ⟨tm,h',rfl,c,e10,e5,e13⟩
   simp -implicitDefEqProofs(maxSteps:=999999)(disch:=first|with_reducible rfl|omega|(simp only[nA,nS,nD]<;>omega)|fail)only[go_sem,e10,e5,e13,h55,wr_succ]
   exact⟨_,_,rfl,⟨c.sub,c.nx,by rw[Nat.mul_add];exact c.gf,c.gr,c.gb,(by simp[ev_c,ev_put,c.e1]<;>rfl),(by simp[ev_c,ev_put,c.e2]<;>rfl),(by simp[ev_c,ev_put,c.e4]<;>rfl)⟩,(by simp[ev_c,ev_put]<;>rfl)⟩
 ·rintro s ⟨tm,h',rfl,c,e10⟩
  have c:CI h h1.next K Z 125 tm h':=c
  obtain⟨J,hJ⟩:∃J,run5 125 K=J:=⟨_,rfl⟩
  have lJ:J.length=25:=by rw[←hJ,run5_len];exact lK
  have gf:=c.gf
  rw[hJ] at gf
  have hw':=c.sub.wf
  have hnx:=c.nx
  have hlr:h.next<h'.next:=by omega
  have gJ:getN 0 25 (J.map iv)=some (J.map iv):=by rw[←lJ];exact getN_iv J
  have lnJ:lenN (J.map iv)=25:=by rw[lenN_iv,lJ]
  have pJ:h'.put (h.next+1) 0 (J.map iv)=some (h'.set (h.next+1) (.cells .rw (J.map iv))):=put_ints (L:=Z) c.gr (by omega) (fun e=>by rw[e] at lJ;cases lJ)
  have sR:h.Sub (h'.set (h.next+1) (.cells .rw (J.map iv))):=c.sub.set (by omega) (by omega) hw _
  have res:(h'.set (h.next+1) (.cells .rw (J.map iv))).cells (h.next+1)=some (J.map iv):=cells_set_same rfl
  have hge:left5 240 K<k:=lf
  simp -implicitDefEqProofs(maxSteps:=999999)(disch:=first|with_reducible rfl|omega|(simp only[nA,nS,nD]<;>omega)|fail)only[go_sem,e10,h55]
  refine W_count 5 (fun a s=>∃tm,s=⟨tm,h',[]⟩∧(Opd.t 1).ev tm=.ptr h.next 0∧(Opd.t 2).ev tm=.ptr (h.next+1) 0∧(Opd.t 4).ev tm=.ptr h1.next 0∧(∀d,d<a→¬mg J d d<0)∧(Opd.t 44).ev tm=.int .i64 (a:Int)) ?_ ?_ (i:=0) (Nat.zero_le _)
   ⟨_,rfl,(by simp[ev_c,ev_put,c.e1]<;>rfl),(by simp[ev_c,ev_put,c.e2]<;>rfl),(by simp[ev_c,ev_put,c.e4]<;>rfl),fun d hd=>absurd hd (Nat.not_lt_zero _),(by simp[ev_c,ev_put]<;>rfl)⟩
  ·rintro a s ha ⟨tm,rfl,e1,e2,e4,hd,e44⟩
   have ha':(a:Int)<5:=by omega
   by_cases hneg:mg J a a<0
   ·have hcl2:clos K=(J,false):=by
     rw[←clos_eq (by decide) (by decide) r1 (n:=left5 240 K+1) (by omega)]
     simp only[clo,hJ,neg5_iff.2 ⟨a,ha,hneg⟩,if_true]
    have q':=q _ sR
    rw[←hcl,hcl2] at q'
    simp -implicitDefEqProofs(maxSteps:=999999)(disch:=first|with_reducible rfl|omega|(simp only[nA,nS,nD]<;>omega)|fail)only[go_sem,e1,e2,e44,ha',iaa5,cells_of gf,nth_mg lJ ha ha,hneg,gJ,lnJ,pJ,res]
    exact q'
   ·simp -implicitDefEqProofs(maxSteps:=999999)(disch:=first|with_reducible rfl|omega|(simp only[nA,nS,nD]<;>omega)|fail)only[go_sem,e1,e2,e44,ha',iaa5,cells_of gf,nth_mg lJ ha ha,hneg,wr_succ]
    have hd':∀d,d<a+1→¬mg J d d<0:=fun d h5=>by
     rcases Nat.lt_or_ge d a with h6|h6
     ·exact hd d h6
     ·have:d=a:=by omega
      subst this;exact hneg
    exact⟨_,rfl,(by simp[ev_c,ev_put,e1]<;>rfl),(by simp[ev_c,ev_put,e2]<;>rfl),(by simp[ev_c,ev_put,e4]<;>rfl),hd',(by simp[ev_c,ev_put]<;>rfl)⟩
  ·rintro s ⟨tm,rfl,e1,e2,e4,hd,e44⟩
   have hn5:neg5 J=false:=by
    cases hn:neg5 J with
    |false=>rfl
    |true=>obtain⟨a,ha,h2⟩:=neg5_iff.1 hn;exact absurd h2 (hd a ha)
   have hq:=q_feq_map (n:=25) J K lJ lK false
   by_cases hJK:J=K
   ·have hcl2:clos K=(J,true):=by
     rw[←clos_eq (by decide) (by decide) r1 (n:=left5 240 K+1) (by omega)]
     simp only[clo,hJ,hn5,Bool.false_eq_true,if_false,if_pos hJK]
    have q':=q _ sR
    rw[←hcl,hcl2] at q'
    have hd1:ngB false (decide (J=K))=true:=by simp[hJK,ngB]
    simp -implicitDefEqProofs(maxSteps:=999999)(disch:=first|with_reducible rfl|omega|(simp only[nA,nS,nD]<;>omega)|fail)only[go_sem,e1,e2,e4,e44,h55,cells_of gf,cells_of c.gb,gJ,gK,hq,hd1,lnJ,pJ,res]
    exact q'
   ·have hd1:ngB false (decide (J=K))=false:=by simp[hJK,ngB]
    simp -implicitDefEqProofs(maxSteps:=999999)(disch:=first|with_reducible rfl|omega|(simp only[nA,nS,nD]<;>omega)|fail)only[go_sem,e1,e2,e4,e44,h55,cells_of gf,cells_of c.gb,gJ,gK,hq,hd1]
    have hlt:=r1.left (by decide) (by rw[hJ];exact hn5) (by rw[hJ];exact hJK)
    have hnx2:=(r1.next (by decide) (by rw[hJ];exact hn5) (by rw[hJ];exact hJK)).1
    rw[hJ] at hlt hnx2
    refine⟨left5 240 K,lf,_,_,J,rfl,c.sub,by omega,gf,c.gr,(by simp[ev_c,ev_put,e1]<;>rfl),(by simp[ev_c,ev_put,e2]<;>rfl),hnx2,hlt,?_⟩
    rw[←hcl,←clos_eq (by decide) (by decide) r1 (n:=left5 240 K+1) (by omega),←clos_eq (by decide) (by decide) hnx2 (n:=left5 240 K) hlt]
    simp only[clo,hJ,hn5,Bool.false_eq_true,if_false,if_neg hJK]
end Go.Ab.Tryz
namespace Go.Ab
theorem mul_bd {m g:Int}(h0:0≤m)(h1:m≤240)(h2: -30≤g)(h3:g≤30): -7200≤m*g∧m*g≤7200:=by
 have a:=Int.mul_le_mul_of_nonneg_left h3 h0
 have b:=Int.mul_le_mul_of_nonneg_left h2 h0
 omega
structure RunIn (set gain:Int):Prop where
 s0: -60≤set
 s1:set≤60
 g0: -30≤gain
 g1:gain≤30
theorem shw_bd {set gain m:Int}(r:RunIn set gain)(h0:0≤m)(h1:m≤240): -420≤shw set gain m∧shw set gain m≤420:=by
 have:=mul_bd h0 h1 r.g0 r.g1
 have:=r.s0;have:=r.s1
 unfold shw;omega
end Go.Ab
namespace Go.Ab.Tryz
open Go.Proofs
variable {fast:Nat→Option (List V→H→Option (V × H))}
theorem shows_ev (f1:fast 106=none){h:H}(hw:h.wf){set gain m:Int}(r:RunIn set gain)(h0:0≤m)(h1:m≤240)(Q:V→H→Prop)(q:∀h',h.Sub h'→Q (.int .i64 (shw set gain m)) h'):
  Ev fnG fast (.fn 106 [] []) [.agg [.int .i64 set,.int .i64 gain],.int .i64 m] h Q:=by
 have hb:=mul_bd h0 h1 r.g0 r.g1
 have s0:=r.s0;have s1:=r.s1
 have w1:wr .i64 (m*gain)=m*gain:=wr_in (by omega) (by omega)
 have w2:wr .i64 (set+m)=set+m:=wr_in (by omega) (by omega)
 have e:=shw_go (m*gain)
 have hq:=fun n=>q_ar_quo .i64 (a:=n) (b:=60) (by decide)
 have s:h.Sub (h.add (.cells .rw [.int .i64 set,.int .i64 gain])):=(by repeat(first|assumption|exact H.Sub.refl (by assumption)|refine H.Sub.add ?_ _|refine H.Sub.set ?_ (by first|omega|(simp only[H.next_add,H.next_set,H.next_del]<;>omega)) (by first|omega|(simp only[H.next_add,H.next_set,H.next_del]<;>omega)) (by assumption) _))
 refine Ev_body (fd:=c106) f1 rfl rfl ?_
 by_cases hn:m*gain<0
 ·rw[if_pos hn] at e
  have w3:wr .i64 (m*gain-59)=m*gain-59:=wr_in (by omega) (by omega)
  have w4:wr .i64 (m*gain/60)=m*gain/60:=wr_in (by omega) (by omega)
  have w5:wr .i64 (set+m+m*gain/60)=set+m+m*gain/60:=wr_in (by omega) (by omega)
  simp -implicitDefEqProofs(maxSteps:=999999)(disch:=first|with_reducible rfl|omega|(simp only[nA,nS,nD]<;>omega)|fail)only[c106,go_sem,w1,w2,w3,hn,hq,e,w4,w5]
  exact q _ s
 ·rw[if_neg hn] at e
  have w4:wr .i64 (m*gain/60)=m*gain/60:=wr_in (by omega) (by omega)
  have w5:wr .i64 (set+m+m*gain/60)=set+m+m*gain/60:=wr_in (by omega) (by omega)
  simp -implicitDefEqProofs(maxSteps:=999999)(disch:=first|with_reducible rfl|omega|(simp only[nA,nS,nD]<;>omega)|fail)only[c106,go_sem,w1,w2,hn,hq,e,w4,w5]
  exact q _ s
set_option maxHeartbeats 1000000 in
theorem when_ev (f1:fast 106=none)(f2:fast 150=none){h:H}(hw:h.wf){set gain:Int}(r:RunIn set gain)(s:Int){n:Nat}(hn:n≤240)(Q:V→H→Prop)
  (q:∀h',h.Sub h'→Q (.agg [.int .i64 (whn set gain s (n+1)).1,.int .i64 (whn set gain s (n+1)).2]) h'):
  Ev fnG fast (.fn 150 [] []) [.agg [.int .i64 set,.int .i64 gain],.int .i64 s,.int .i64 (n:Int)] h Q:=by
 refine Ev_body (fd:=c150) f2 rfl rfl ?_
 simp -implicitDefEqProofs(maxSteps:=999999)(disch:=first|with_reducible rfl|omega|(simp only[nA,nS,nD]<;>omega)|fail)only[c150,go_sem,wr_succ]
 refine W_count (n+1) (fun m st=>∃tm h',st=⟨tm,h',[]⟩∧h.Sub h'∧h.next+2<h'.next∧h'.get h.next=some (.cells .rw [.int .i64 set,.int .i64 gain])∧h'.get (h.next+1)=some (.cells .rw [.int .i64 0,.int .i64 0])∧h'.get (h.next+2)=some (.cells .rw [.int .i64 (whn set gain s m).1,.int .i64 (whn set gain s m).2])∧
   (Opd.t 1).ev tm=.int .i64 s∧(Opd.t 3).ev tm=.ptr h.next 0∧(Opd.t 6).ev tm=.ptr (h.next+1) 0∧(Opd.t 7).ev tm=.ptr (h.next+2) 0∧(Opd.t 11).ev tm=.int .i64 ((n+1:Nat):Int)∧(Opd.t 12).ev tm=.int .i64 (m:Int))
  ?_ ?_ (i:=0) (Nat.zero_le _) ⟨_,_,rfl,?_,by simp only[H.next_add];omega,by simp -implicitDefEqProofs(maxSteps:=999999)(disch:=first|with_reducible rfl|omega|(simp only[nA,nS,nD]<;>omega)|fail)only[go_sem],by simp -implicitDefEqProofs(maxSteps:=999999)(disch:=first|with_reducible rfl|omega|(simp only[nA,nS,nD]<;>omega)|fail)only[go_sem],by simp -implicitDefEqProofs(maxSteps:=999999)(disch:=first|with_reducible rfl|omega|(simp only[nA,nS,nD]<;>omega)|fail)only[go_sem,whn],(by simp[ev_c,ev_put]<;>rfl),(by simp[ev_c,ev_put]<;>rfl),(by simp[ev_c,ev_put]<;>rfl),(by simp[ev_c,ev_put]<;>rfl),(by simp[ev_c,ev_put]<;>rfl),(by simp[ev_c,ev_put]<;>rfl)⟩
 ·rintro m st hm ⟨tm,h',rfl,hs,hx,ga,gb,gc,e1,e3,e6,e7,e11,e12⟩
  have hm':(m:Int)<((n+1:Nat):Int):=by omega
  simp -implicitDefEqProofs(maxSteps:=999999)(disch:=first|with_reducible rfl|omega|(simp only[nA,nS,nD]<;>omega)|fail)only[go_sem,e1,e3,e6,e7,e11,e12,hm',cells_of ga]
  refine shows_ev f1 hs.wf r (by omega) (by omega) _ fun h2 s2=>?_
  have hx2:=s2.next
  by_cases h1:shw set gain m=s
  ·have ew:whn set gain s (m+1)=if(whn set gain s m).2<(whn set gain s m).1 then((m:Int),(m:Int)) else((whn set gain s m).1,(m:Int)):=by rw[whn,if_pos h1]
   by_cases h3:(whn set gain s m).2<(whn set gain s m).1
   ·rw[if_pos h3] at ew
    simp -implicitDefEqProofs(maxSteps:=999999)(disch:=first|with_reducible rfl|omega|(simp only[nA,nS,nD]<;>omega)|fail)only[go_sem,e1,e3,e6,e7,e11,e12,h1,ne_eq,not_true_eq_false,cells_of (s2.get gc),s2.get gc,h3,wr_succ]
    refine⟨_,_,rfl,(hs.trans s2).set (by omega) (by omega) hw _,by rw[H.next_set];omega,by rw[get_set_other (by omega)];exact s2.get ga,by rw[get_set_other (by omega)];exact s2.get gb,by rw[get_set_same rfl,ew],(by simp[ev_c,ev_put,e1]<;>rfl),(by simp[ev_c,ev_put,e3]<;>rfl),(by simp[ev_c,ev_put,e6]<;>rfl),(by simp[ev_c,ev_put,e7]<;>rfl),(by simp[ev_c,ev_put,e11]<;>rfl),(by simp[ev_c,ev_put]<;>rfl)⟩
   ·rw[if_neg h3] at ew
    simp -implicitDefEqProofs(maxSteps:=999999)(disch:=first|with_reducible rfl|omega|(simp only[nA,nS,nD]<;>omega)|fail)only[go_sem,e1,e3,e6,e7,e11,e12,h1,ne_eq,not_true_eq_false,cells_of (s2.get gc),s2.get gc,h3,wr_succ]
    refine⟨_,_,rfl,(hs.trans s2).set (by omega) (by omega) hw _,by rw[H.next_set];omega,by rw[get_set_other (by omega)];exact s2.get ga,by rw[get_set_other (by omega)];exact s2.get gb,by rw[get_set_same rfl,ew],(by simp[ev_c,ev_put,e1]<;>rfl),(by simp[ev_c,ev_put,e3]<;>rfl),(by simp[ev_c,ev_put,e6]<;>rfl),(by simp[ev_c,ev_put,e7]<;>rfl),(by simp[ev_c,ev_put,e11]<;>rfl),(by simp[ev_c,ev_put]<;>rfl)⟩
  ·have ew:whn set gain s (m+1)=whn set gain s m:=by rw[whn,if_neg h1]
   simp -implicitDefEqProofs(maxSteps:=999999)(disch:=first|with_reducible rfl|omega|(simp only[nA,nS,nD]<;>omega)|fail)only[go_sem,e1,e3,e6,e7,e11,e12,h1,ne_eq,not_false_eq_true,wr_succ]
   exact⟨_,_,rfl,hs.trans s2,by omega,s2.get ga,s2.get gb,by rw[ew];exact s2.get gc,(by simp[ev_c,ev_put,e1]<;>rfl),(by simp[ev_c,ev_put,e3]<;>rfl),(by simp[ev_c,ev_put,e6]<;>rfl),(by simp[ev_c,ev_put,e7]<;>rfl),(by simp[ev_c,ev_put,e11]<;>rfl),(by simp[ev_c,ev_put]<;>rfl)⟩
 ·rintro st ⟨tm,h',rfl,hs,hx,ga,gb,gc,e1,e3,e6,e7,e11,e12⟩
  have sR:h.Sub (h'.set (h.next+1) (.cells .rw [.int .i64 (whn set gain s (n+1)).1,.int .i64 (whn set gain s (n+1)).2])):=hs.set (by omega) (by omega) hw _
  simp -implicitDefEqProofs(maxSteps:=999999)(disch:=first|with_reducible rfl|omega|(simp only[nA,nS,nD]<;>omega)|fail)only[go_sem,e1,e3,e6,e7,e11,e12,Int.lt_irrefl,cells_of gc,gb]
  exact q _ sR
 ·exact(by repeat(first|assumption|exact H.Sub.refl (by assumption)|refine H.Sub.add ?_ _|refine H.Sub.set ?_ (by first|omega|(simp only[H.next_add,H.next_set,H.next_del]<;>omega)) (by first|omega|(simp only[H.next_add,H.next_set,H.next_del]<;>omega)) (by assumption) _))
end Go.Ab.Tryz
namespace Go.Ab
def steps125:List (Nat × Nat × Nat):=[(0,0,0),(1,0,1),(2,0,2),(3,0,3),(4,0,4),(5,5,0),(6,5,1),(7,5,2),(8,5,3),(9,5,4),(10,10,0),(11,10,1),(12,10,2),(13,10,3),(14,10,4),(15,15,0),(16,15,1),(17,15,2),(18,15,3),(19,15,4),(20,20,0),(21,20,1),(22,20,2),(23,20,3),(24,20,4),(0,1,5),(1,1,6),(2,1,7),(3,1,8),(4,1,9),(5,6,5),(6,6,6),(7,6,7),(8,6,8),(9,6,9),(10,11,5),(11,11,6),(12,11,7),(13,11,8),(14,11,9),(15,16,5),(16,16,6),(17,16,7),(18,16,8),(19,16,9),(20,21,5),(21,21,6),(22,21,7),(23,21,8),(24,21,9),(0,2,10),(1,2,11),(2,2,12),(3,2,13),(4,2,14),(5,7,10),(6,7,11),(7,7,12),(8,7,13),(9,7,14),(10,12,10),(11,12,11),(12,12,12),(13,12,13),(14,12,14),(15,17,10),(16,17,11),(17,17,12),(18,17,13),(19,17,14),(20,22,10),(21,22,11),(22,22,12),(23,22,13),(24,22,14),(0,3,15),(1,3,16),(2,3,17),(3,3,18),(4,3,19),(5,8,15),(6,8,16),(7,8,17),(8,8,18),(9,8,19),(10,13,15),(11,13,16),(12,13,17),(13,13,18),(14,13,19),(15,18,15),(16,18,16),(17,18,17),(18,18,18),(19,18,19),(20,23,15),(21,23,16),(22,23,17),(23,23,18),(24,23,19),(0,4,20),(1,4,21),(2,4,22),(3,4,23),(4,4,24),(5,9,20),(6,9,21),(7,9,22),(8,9,23),(9,9,24),(10,14,20),(11,14,21),(12,14,22),(13,14,23),(14,14,24),(15,19,20),(16,19,21),(17,19,22),(18,19,23),(19,19,24),(20,24,20),(21,24,21),(22,24,22),(23,24,23),(24,24,24)]
def okI (lo hi:Int)(n:Int):Bool:=match ilt n lo with|true=>false|false=> !ilt hi n
theorem okI_eq {lo hi n:Int}:okI lo hi n=true↔lo≤n∧n≤hi:=by
 unfold okI;rw[ilt_eq,ilt_eq]
 by_cases h:n<lo
 ·simp[h];omega
 ·simp[h];omega
def getIs:List V→Option (List Int)
 |[]=>some []
 |v::l=>match v with
  |.int k n=>(match keq k .i64 with
   |true=>(match okI (-240) 240 n with
    |true=>(match getIs l with|some r=>some (n::r)|none=>none)
    |false=>none)
   |false=>none)
  |_=>none
theorem getIs_eq:∀{l:List V} {r:List Int},getIs l=some r→l=r.map (V.int .i64)∧∀n∈r, -240≤n∧n≤240
 |[],r,h=>by simp only[getIs,Option.some.injEq] at h;subst h;exact⟨rfl,by simp⟩
 |v::l,r,h=>by
  simp only[getIs] at h
  split at h
  ·split at h
   ·rename_i k n hk
    split at h
    ·rename_i hn
     split at h
     ·rename_i r' hr
      cases h
      obtain⟨h1,h2⟩:=getIs_eq hr
      refine⟨by rw[keq_eq.1 hk,h1];rfl,fun m hm=>?_⟩
      simp only[List.mem_cons] at hm
      rcases hm with rfl|hm
      ·exact okI_eq.1 hn
      ·exact h2 m hm
     ·cases h
    ·cases h
   ·cases h
  ·cases h
def mapIv {β:Type}:List Int→(List V→β)→β
 |[],f=>f []
 |n::l,f=>zf n fun n=>mapIv l fun r=>f (.int .i64 n::r)
theorem mapIv_eq {β:Type}:∀(l:List Int) (f:List V→β),mapIv l f=f (l.map (V.int .i64))
 |[],f=>rfl
 |n::l,f=>by simp[mapIv,zf_eq,mapIv_eq l]
def closedF (args:List V)(h:H):Option (V × H):=match args with
 |[.agg cs]=>(match Nat.beq (lenN cs) 25 with
  |true=>(match getIs cs with
   |some L=>(match cloK steps125 12002 L with
    |(K,b)=>mapIv K fun K=>(match b with
     |true=>some (.tup [.agg K,.bool true],h)
     |false=>some (.tup [.agg K,.bool false],h)))
   |none=>none)
  |false=>none)
 |_=>none
def whenF (args:List V)(h:H):Option (V × H):=match args with
 |[.agg [.int .i64 set,.int .i64 gain],.int .i64 s,.int .i64 (.ofNat n)]=>(match okI (-60) 60 set with
  |true=>(match okI (-30) 30 gain with
   |true=>(match Nat.ble n 240 with
    |true=>(match whnK (fun m=>ieq (set+ .ofNat m+ .ofNat m*gain/60) s) (n+1) 0 (1,0) with
     |(lo,hi)=>zf lo fun lo=>zf hi fun hi=>some (.agg [.int .i64 lo,.int .i64 hi],h))
    |false=>none)
   |false=>none)
  |false=>none)
 |_=>none
end Go.Ab
namespace Go.Ab
theorem plain_spec {P:Program}{Ty:Nat→Option TD}{f:FuncId}{args:List V}{h':H}{v:V}(hs:SpecOk P Ty f args ⟨0,.nil⟩ v h')(ha0:scL (fun _=>False) args)(hv:v.sc fun _=>False)(h:H):SpecOk P Ty f args h v h:=by
 refine⟨H.le_refl _,fun{F n φ p w} hF hfr hR ha hwf=>?_⟩
 have hg:∀b x,(H.get ⟨0,.nil⟩ b)=some x→False:=fun b x hb=>by
  have:(T.nil:T Blk).get b=some x:=hb
  rw[T.get_nil] at this;cases this
 have h0:Rep Ty φ (H.get ⟨0,.nil⟩) (fun _=>False) w:=⟨fun b x hb=>(hg b x hb).elim,fun b c x y hb=>(hg b x hb).elim,fun b x hb=>(hg b x hb).elim⟩
 refine CallsIn.mono (hs.2 hF (fun b _ _ h=>h) h0 ha0 (fun b x hb=>(hg b x hb).elim)) fun e w' he=>?_
 obtain⟨φ',rfl,⟨r1,r2⟩,r3⟩:=he
 have hkept:∀B,B<w.heap.size→w'.heap[B]? =w.heap[B]? :=fun B hB=>r2.kept B hB fun b x hb=>(hg b x hb).elim
 refine⟨φ,by rw[conc_closed hv φ' φ],?_,V.sc_mono (fun _ h=>h.elim) _ hv⟩
 unfold Done
 rw[grow_self]
 refine⟨⟨fun b x hb=>?_,hR.inj,hR.sc⟩,⟨φ.agree_refl p,fun _ h=>h,r2.size,fun B hB _=>hkept B hB,fun b x hb=>.inr ⟨b,x,hb,.refl,rfl⟩,r2.env⟩⟩
 obtain⟨o,ho,hi⟩:=hR.blk b x hb
 exact⟨o,by rw[hkept _ (hR.lt hb),ho],hi⟩
theorem steps_eq:steps125=stepsK 125:=by kernel_rfl
theorem sc_ints (l:List Int):scL (fun _=>False) (l.map (V.int .i64)):=scL_iff.2 fun v hv=>by obtain⟨n,_,rfl⟩:=List.mem_map.1 hv;trivial
theorem in5_of {L:List Int}(hl:L.length=25)(h:∀n∈L, -240≤n∧n≤240):In5 240 L:=by
 have:∀a b,a<5→b<5→mg L a b∈L:=fun a b ha hb=>by
  unfold mg
  rw[List.getD_eq_getElem?_getD,List.getElem?_eq_getElem (by omega)]
  exact List.getElem_mem (by omega)
 exact⟨hl,fun a b ha hb=>(h _ (this a b ha hb)).2,fun a b ha hb=>(h _ (this a b ha hb)).1⟩
end Go.Ab
namespace Go.Ab.Tryz
open Go.Proofs
theorem callable0 {f:FuncId}{fd:FD}(h:fnG f=some fd):Callable Tryz.prog f:=callable_of fnOK h
def noF (f:Nat):Option (List V→H→Option (V × H)):=none
theorem noF_ok:FastOk Tryz.prog tyG noF:=⟨fun f g h=>by cases h⟩
theorem closedF_ok {args:List V}{h h':H}{v:V}(hs:closedF args h=some (v,h')):SpecOk Tryz.prog tyG 178 args h v h':=by
 unfold closedF at hs
 split at hs
 ·rename_i cs
  split at hs
  ·rename_i hl
   split at hs
   ·rename_i L hL
    obtain⟨rfl,hb⟩:=getIs_eq hL
    have hl:=Nat.eq_of_beq_eq_true hl
    rw[lenN_eq,List.length_map] at hl
    have e:cloK steps125 12002 L=clos L:=by rw[steps_eq,cloK_eq];rfl
    rw[e,show clos L=((clos L).1,(clos L).2) from rfl] at hs
    simp only[mapIv_eq] at hs
    have hw:H.wf ⟨0,.nil⟩:=fun b x hb=>by
     have:(T.nil:T Blk).get b=some x:=hb
     rw[T.get_nil] at this;cases this
    obtain⟨v',h1,hsp,hq⟩:=(closed_ev (fast:=noF) rfl rfl hw (in5_of hl hb) (fun v' _=>v'=.tup [.agg ((clos L).1.map iv),.bool (clos L).2]) fun _ _=>rfl).spec tyOK depth_ok mixed_ok fnOK noF_ok (callable0 (fd:=c178) rfl)
    subst hq
    have hsp2:=plain_spec hsp ⟨sc_ints L,trivial⟩ ⟨sc_ints (clos L).1,trivial,trivial⟩ h
    have:v=.tup [.agg ((clos L).1.map iv),.bool (clos L).2]∧h'=h:=by
     cases hb:(clos L).2<;>rw[hb] at hs<;>cases hs<;>exact⟨rfl,rfl⟩
    obtain⟨rfl,rfl⟩:=this
    exact hsp2
   ·cases hs
  ·cases hs
 ·cases hs
theorem whenF_ok {args:List V}{h h':H}{v:V}(hs:whenF args h=some (v,h')):SpecOk Tryz.prog tyG 150 args h v h':=by
 unfold whenF at hs
 split at hs
 ·rename_i set gain s n
  split at hs
  ·rename_i h1
   split at hs
   ·rename_i h2
    split at hs
    ·rename_i h3
     have h1:=okI_eq.1 h1
     have h2:=okI_eq.1 h2
     have h3:=Nat.le_of_ble_eq_true h3
     have e:=whnK_eq set gain s (n+1) 0
     rw[show whn set gain s 0=(1,0) from rfl,Nat.zero_add] at e
     rw[e] at hs
     simp only[zf_eq,Option.some.injEq,Prod.mk.injEq] at hs
     obtain⟨rfl,rfl⟩:=hs
     have hw:H.wf ⟨0,.nil⟩:=fun b x hb=>by
      have:(T.nil:T Blk).get b=some x:=hb
      rw[T.get_nil] at this;cases this
     obtain⟨v',h1,hsp,hq⟩:=(when_ev (fast:=noF) rfl rfl hw ⟨h1.1,h1.2,h2.1,h2.2⟩ s h3 (fun v' _=>v'=.agg [.int .i64 (whn set gain s (n+1)).1,.int .i64 (whn set gain s (n+1)).2]) fun _ _=>rfl).spec tyOK depth_ok mixed_ok fnOK noF_ok (callable0 (fd:=c150) rfl)
     subst hq
     exact plain_spec hsp ⟨⟨trivial,trivial,trivial⟩,trivial,trivial,trivial⟩ ⟨trivial,trivial,trivial⟩ h
    ·cases hs
   ·cases hs
  ·cases hs
 ·cases hs
noncomputable def fastK (f:Nat):Option (List V→H→Option (V × H)):=match Nat.beq f 178 with
 |true=>some closedF
 |false=>match Nat.beq f 150 with
  |true=>some whenF
  |false=>match Nat.beq f 149 with
   |true=>some sortF
   |false=>none
theorem sort_callable:Callable Tryz.prog 149:=⟨Tryz.f149,Tryz.func149,by kernel_rfl,by kernel_rfl⟩
theorem sortF_at {args:List V}{h h':H}{v:V}(hs:sortF args h=some (v,h')):SpecOk Tryz.prog tyG 149 args h v h':=sortF_ok Tryz.lays189 hs
theorem fastK_ok:FastOk Tryz.prog tyG fastK:=by
 refine⟨fun f g h=>?_⟩
 unfold fastK at h
 split at h
 ·rename_i hb
  have:=Nat.eq_of_beq_eq_true hb;subst this
  cases h
  exact⟨callable0 (fd:=c178) rfl,fun args h v h' e=>closedF_ok e⟩
 ·split at h
  ·rename_i hb
   have:=Nat.eq_of_beq_eq_true hb;subst this
   cases h
   exact⟨callable0 (fd:=c150) rfl,fun args h v h' e=>whenF_ok e⟩
  ·split at h
   ·rename_i hb
    have:=Nat.eq_of_beq_eq_true hb;subst this
    cases h
    exact⟨sort_callable,fun args h v h' e=>sortF_at e⟩
   ·cases h
end Go.Ab.Tryz
namespace Go.Ab.Tryz
open Go.Proofs
noncomputable def fastA (f:Nat):Option (List V→H→Option (V × H)):=match Nat.beq f 22 with
 |true=>some fun args h=>match args with
  |[]=>some (.bool true,h)
  |_=>none
 |false=>match Nat.beq f 149 with
  |true=>some sortF
  |false=>none
def encI (n:Int):List V:=[.int .i64 n]
def encU8 (n:Int):List V:=[.int .u8 n]
end Go.Ab.Tryz
namespace Go.Ab.Tryz
open Go.Proofs
section
variable {Fn:Nat→Option FD} {fast:Nat→Option (List V→H→Option (V × H))} {N fn:Nat} {ro:Option Nat}
theorem W_split {A P:C}{s:St}{R:X→St→Prop}(J:St→Prop)(h:W Fn fast N fn ro A s (fun x s'=>x=.nrm∧J s'))(k:∀s',J s'→W Fn fast N fn ro P s' R):W Fn fast N fn ro (A.seq P) s R:=by
 rw[W_seq]
 exact h.mono fun x s' ⟨hx,hj⟩=>by subst hx;exact k s' hj
end
abbrev E (fv:V) (args:List V) (h:H) (Q:V→H→Prop):Prop:=Ev fnG fastA fv args h Q
theorem awake_eq (h:H)(Q:V→H→Prop):Ev fnG fastA (.fn 22 [] []) [] h Q=Q (.bool true) h:=Ev.det ⟨1,.bool true,h,rfl,rfl,rfl⟩ Q
def inB (n lo hi:Int):Bool:=decide (lo≤n)&&decide (n≤hi)
theorem inB_iff {n lo hi:Int}:inB n lo hi=true↔lo≤n∧n≤hi:=by simp[inB]
theorem in_eq (h:H)(n lo hi:Int)(Q:V→H→Prop):Ev fnG fastA (.fn 98 [] []) [.int .i64 n,.int .i64 lo,.int .i64 hi] h Q=Q (.bool (inB n lo hi)) h:=by
 refine Ev.det ?_ Q
 refine Ev_body (fd:=c98) rfl rfl rfl ?_
 by_cases h1:lo≤n
 ·have e:inB n lo hi=decide (n≤hi):=by simp[inB,h1]
  rw[e]
  simp -implicitDefEqProofs(maxSteps:=999999)(disch:=first|with_reducible rfl|omega|(simp only[nA,nS,nD]<;>omega)|fail)only[c98,go_sem,h1]
 ·have e:inB n lo hi=false:=by simp[inB,h1]
  rw[e]
  simp -implicitDefEqProofs(maxSteps:=999999)(disch:=first|with_reducible rfl|omega|(simp only[nA,nS,nD]<;>omega)|fail)only[c98,go_sem,h1]
end Go.Ab.Tryz
namespace Go.Ab.Tryz
abbrev PureA (h:H) (fv:V) (args:List V) (v:V):Prop:=Pure fnG fastA h fv args v
def fidx {α:Type}(p:α→Bool):List α→Nat→Int
 |[],_=> -1
 |r::l,i=>if p r then(i:Int) else fidx p l (i+1)
theorem fidx_hit {α:Type}{p:α→Bool}{l:List α}{i:Nat}(hi:i<l.length)(h:p l[i]=true):fidx p (l.drop i) i=(i:Int):=by
 rw[List.drop_eq_getElem_cons hi];simp[fidx,h]
theorem fidx_miss {α:Type}{p:α→Bool}{l:List α}{i:Nat}(hi:i<l.length)(h:p l[i]=false):fidx p (l.drop i) i=fidx p (l.drop (i+1)) (i+1):=by
 rw[List.drop_eq_getElem_cons hi];simp[fidx,h]
theorem fidx_any {α:Type}(p:α→Bool):∀(l:List α) (i:Nat),decide (0≤fidx p l i)=l.any p
 |[],i=>by simp[fidx]
 |r::l,i=>by
  have ih:=fidx_any p l (i+1)
  simp only[fidx,List.any_cons]
  by_cases h:p r=true
  ·simp[h]
  ·simpa[h] using ih
theorem any_not {α:Type}(p:α→Bool)(l:List α):(!l.any fun a=> !p a)=l.all p:=by
 induction l with
 |nil=>rfl
 |cons a l ih=>simp only[List.any_cons,List.all_cons,←ih,Bool.not_or,Bool.not_not]
theorem indexFuncCk_ev {α:Type}{enc:α→List V}{l:List α}{p:α→Bool}{h:H}{x f:V}(hw:h.wf)(hx:SlAt h x 4 (l.map enc))(hp:∀a∈l,PureA h f [.agg (enc a)] (.bool (p a))):
  E (.fn 183 [] []) [x,f] h fun v h'=>v=.int .i64 (fidx p l 0)∧h.Sub h':=by
 have hb:=hx.boundE
 refine Ev_body (fd:=c183) rfl rfl rfl ?_
 simp -implicitDefEqProofs(maxSteps:=999999)(disch:=first|with_reducible rfl|omega|(simp only[nA,nS,nD]<;>omega)|fail)only[c183,go_sem,hx.lenE]
 refine W_count l.length (fun i s=>∃tm h',s=⟨tm,h',[]⟩∧h.Sub h'∧(Opd.t 0).ev tm=x∧(Opd.t 1).ev tm=f∧(Opd.t 7).ev tm=.int .i64 (l.length:Int)∧(Opd.t 8).ev tm=.int .i64 (i:Int)∧fidx p l 0=fidx p (l.drop i) i)
  ?_ ?_ (i:=0) (Nat.zero_le _) ⟨_,_,rfl,H.Sub.refl hw,(by simp[ev_c,ev_put]<;>rfl),(by simp[ev_c,ev_put]<;>rfl),(by simp[ev_c,ev_put]<;>rfl),(by simp only[ev_put];rfl),rfl⟩
 ·rintro i s hi ⟨tm,h',rfl,hs,e0,e1,e7,e8,e9⟩
  have hi':(i:Int)<(l.length:Int):=by omega
  obtain⟨b,o,c,cs,rfl,hc,hq,hg,hn,hn0⟩:=(hx.mono hs).at hi
  simp -implicitDefEqProofs(maxSteps:=999999)(disch:=first|with_reducible rfl|omega|(simp only[nA,nS,nD]<;>omega)|fail)only[go_sem,e0,e1,e7,e8,hi',hq (nat_cst i),hc,hg]
  refine(hp _ (List.getElem_mem hi)).use hs fun h2 hs2=>?_
  cases hpr:p l[i] with
  |true=>
   simp -implicitDefEqProofs(maxSteps:=999999)(disch:=first|with_reducible rfl|omega|(simp only[nA,nS,nD]<;>omega)|fail)only[go_sem,e0,e1,e7,e8]
   exact⟨by rw[e9,fidx_hit hi hpr],hs.trans hs2⟩
  |false=>
   simp -implicitDefEqProofs(maxSteps:=999999)(disch:=first|with_reducible rfl|omega|(simp only[nA,nS,nD]<;>omega)|fail)only[go_sem,e0,e1,e7,e8,wr_succ]
   exact⟨_,_,rfl,hs.trans hs2,(by simp[ev_c,ev_put,e0]<;>rfl),(by simp[ev_c,ev_put,e1]<;>rfl),(by simp[ev_c,ev_put,e7]<;>rfl),(by simp[ev_c,ev_put]<;>rfl),by rw[e9,fidx_miss hi hpr]⟩
 ·rintro s ⟨tm,h',rfl,hs,e0,e1,e7,e8,e9⟩
  simp -implicitDefEqProofs(maxSteps:=999999)(disch:=first|with_reducible rfl|omega|(simp only[nA,nS,nD]<;>omega)|fail)only[go_sem,e0,e1,e7,e8,Int.lt_irrefl]
  exact⟨by rw[e9];simp[fidx],hs⟩
theorem containsFuncCk_ev {α:Type}{enc:α→List V}{l:List α}{p:α→Bool}{h:H}{x f:V}(hw:h.wf)(hx:SlAt h x 4 (l.map enc))(hp:∀a∈l,PureA h f [.agg (enc a)] (.bool (p a))):
  E (.fn 166 [] []) [x,f] h fun v h'=>v=.bool (l.any p)∧h.Sub h':=by
 refine Ev_body (fd:=c166) rfl rfl rfl ?_
 simp -implicitDefEqProofs(maxSteps:=999999)(disch:=first|with_reducible rfl|omega|(simp only[nA,nS,nD]<;>omega)|fail)only[c166,go_sem]
 refine(indexFuncCk_ev hw hx hp).mono fun v h' hv=>?_
 obtain⟨rfl,hs⟩:=hv
 simp -implicitDefEqProofs(maxSteps:=999999)(disch:=first|with_reducible rfl|omega|(simp only[nA,nS,nD]<;>omega)|fail)only[go_sem]
 exact⟨by rw[fidx_any],hs⟩
theorem everyCk_ev {α:Type}{enc:α→List V}{l:List α}{p:α→Bool}{h:H}{x:V}{g:FuncId}{u w:List V}(hw:h.wf)(hx:SlAt h x 4 (l.map enc))(hp:∀a∈l,PureA h (.fn g u w) [.agg (enc a)] (.bool (p a))):
  E (.fn 125 [] []) [x,.fn g u w] h fun v h'=>v=.bool (l.all p)∧h.Sub h':=by
 refine Ev_body (fd:=c125) rfl rfl rfl ?_
 simp -implicitDefEqProofs(maxSteps:=999999)(disch:=first|with_reducible rfl|omega|(simp only[nA,nS,nD]<;>omega)|fail)only[c125,go_sem]
 have hs1:h.Sub (h.add (.cells .rw [.fn g u w])):=(H.Sub.refl hw).add _
 refine(containsFuncCk_ev (p:=fun a=> !p a) hs1.wf (hx.mono hs1) fun a ha h2 hs2=>?_).mono fun v h' hv=>?_
 ·have hc:h2.cells h.next=some [.fn g u w]:=hs2.cells (cells_add_new rfl)
  have hl:h.next<h2.next:=by have:=hs2.next;rw[H.next_add] at this;omega
  refine Ev_body (fd:=c167) rfl rfl rfl ?_
  simp -implicitDefEqProofs(maxSteps:=999999)(disch:=first|with_reducible rfl|omega|(simp only[nA,nS,nD]<;>omega)|fail)only[c167,go_sem,hc,getN_full (hx.1 _ (List.mem_map_of_mem ha))]
  refine((hp a ha).mono hs1).use (hs2.add _) fun h3 hs3=>?_
  simp -implicitDefEqProofs(maxSteps:=999999)(disch:=first|with_reducible rfl|omega|(simp only[nA,nS,nD]<;>omega)|fail)only[go_sem]
  exact(H.Sub.refl hs2.wf).add _ |>.trans hs3
 ·obtain⟨rfl,hs⟩:=hv
  simp -implicitDefEqProofs(maxSteps:=999999)(disch:=first|with_reducible rfl|omega|(simp only[nA,nS,nD]<;>omega)|fail)only[go_sem]
  exact⟨by rw[any_not],hs1.trans hs⟩
theorem indexFuncRd_ev {α:Type}{enc:α→List V}{l:List α}{p:α→Bool}{h:H}{x f:V}(hw:h.wf)(hx:SlAt h x 3 (l.map enc))(hp:∀a∈l,PureA h f [.agg (enc a)] (.bool (p a))):
  E (.fn 182 [] []) [x,f] h fun v h'=>v=.int .i64 (fidx p l 0)∧h.Sub h':=by
 have hb:=hx.boundE
 refine Ev_body (fd:=c182) rfl rfl rfl ?_
 simp -implicitDefEqProofs(maxSteps:=999999)(disch:=first|with_reducible rfl|omega|(simp only[nA,nS,nD]<;>omega)|fail)only[c182,go_sem,hx.lenE]
 refine W_count l.length (fun i s=>∃tm h',s=⟨tm,h',[]⟩∧h.Sub h'∧(Opd.t 0).ev tm=x∧(Opd.t 1).ev tm=f∧(Opd.t 7).ev tm=.int .i64 (l.length:Int)∧(Opd.t 8).ev tm=.int .i64 (i:Int)∧fidx p l 0=fidx p (l.drop i) i)
  ?_ ?_ (i:=0) (Nat.zero_le _) ⟨_,_,rfl,H.Sub.refl hw,(by simp[ev_c,ev_put]<;>rfl),(by simp[ev_c,ev_put]<;>rfl),(by simp[ev_c,ev_put]<;>rfl),(by simp only[ev_put];rfl),rfl⟩
 ·rintro i s hi ⟨tm,h',rfl,hs,e0,e1,e7,e8,e9⟩
  have hi':(i:Int)<(l.length:Int):=by omega
  obtain⟨b,o,c,cs,rfl,hc,hq,hg,hn,hn0⟩:=(hx.mono hs).at hi
  simp -implicitDefEqProofs(maxSteps:=999999)(disch:=first|with_reducible rfl|omega|(simp only[nA,nS,nD]<;>omega)|fail)only[go_sem,e0,e1,e7,e8,hi',hq (nat_cst i),hc,hg]
  refine(hp _ (List.getElem_mem hi)).use hs fun h2 hs2=>?_
  cases hpr:p l[i] with
  |true=>
   simp -implicitDefEqProofs(maxSteps:=999999)(disch:=first|with_reducible rfl|omega|(simp only[nA,nS,nD]<;>omega)|fail)only[go_sem,e0,e1,e7,e8]
   exact⟨by rw[e9,fidx_hit hi hpr],hs.trans hs2⟩
  |false=>
   simp -implicitDefEqProofs(maxSteps:=999999)(disch:=first|with_reducible rfl|omega|(simp only[nA,nS,nD]<;>omega)|fail)only[go_sem,e0,e1,e7,e8,wr_succ]
   exact⟨_,_,rfl,hs.trans hs2,(by simp[ev_c,ev_put,e0]<;>rfl),(by simp[ev_c,ev_put,e1]<;>rfl),(by simp[ev_c,ev_put,e7]<;>rfl),(by simp[ev_c,ev_put]<;>rfl),by rw[e9,fidx_miss hi hpr]⟩
 ·rintro s ⟨tm,h',rfl,hs,e0,e1,e7,e8,e9⟩
  simp -implicitDefEqProofs(maxSteps:=999999)(disch:=first|with_reducible rfl|omega|(simp only[nA,nS,nD]<;>omega)|fail)only[go_sem,e0,e1,e7,e8,Int.lt_irrefl]
  exact⟨by rw[e9];simp[fidx],hs⟩
theorem containsFuncRd_ev {α:Type}{enc:α→List V}{l:List α}{p:α→Bool}{h:H}{x f:V}(hw:h.wf)(hx:SlAt h x 3 (l.map enc))(hp:∀a∈l,PureA h f [.agg (enc a)] (.bool (p a))):
  E (.fn 163 [] []) [x,f] h fun v h'=>v=.bool (l.any p)∧h.Sub h':=by
 refine Ev_body (fd:=c163) rfl rfl rfl ?_
 simp -implicitDefEqProofs(maxSteps:=999999)(disch:=first|with_reducible rfl|omega|(simp only[nA,nS,nD]<;>omega)|fail)only[c163,go_sem]
 refine(indexFuncRd_ev hw hx hp).mono fun v h' hv=>?_
 obtain⟨rfl,hs⟩:=hv
 simp -implicitDefEqProofs(maxSteps:=999999)(disch:=first|with_reducible rfl|omega|(simp only[nA,nS,nD]<;>omega)|fail)only[go_sem]
 exact⟨by rw[fidx_any],hs⟩
theorem everyRd_ev {α:Type}{enc:α→List V}{l:List α}{p:α→Bool}{h:H}{x:V}{g:FuncId}{u w:List V}(hw:h.wf)(hx:SlAt h x 3 (l.map enc))(hp:∀a∈l,PureA h (.fn g u w) [.agg (enc a)] (.bool (p a))):
  E (.fn 121 [] []) [x,.fn g u w] h fun v h'=>v=.bool (l.all p)∧h.Sub h':=by
 refine Ev_body (fd:=c121) rfl rfl rfl ?_
 simp -implicitDefEqProofs(maxSteps:=999999)(disch:=first|with_reducible rfl|omega|(simp only[nA,nS,nD]<;>omega)|fail)only[c121,go_sem]
 have hs1:h.Sub (h.add (.cells .rw [.fn g u w])):=(H.Sub.refl hw).add _
 refine(containsFuncRd_ev (p:=fun a=> !p a) hs1.wf (hx.mono hs1) fun a ha h2 hs2=>?_).mono fun v h' hv=>?_
 ·have hc:h2.cells h.next=some [.fn g u w]:=hs2.cells (cells_add_new rfl)
  have hl:h.next<h2.next:=by have:=hs2.next;rw[H.next_add] at this;omega
  refine Ev_body (fd:=c164) rfl rfl rfl ?_
  simp -implicitDefEqProofs(maxSteps:=999999)(disch:=first|with_reducible rfl|omega|(simp only[nA,nS,nD]<;>omega)|fail)only[c164,go_sem,hc,getN_full (hx.1 _ (List.mem_map_of_mem ha))]
  refine((hp a ha).mono hs1).use (hs2.add _) fun h3 hs3=>?_
  simp -implicitDefEqProofs(maxSteps:=999999)(disch:=first|with_reducible rfl|omega|(simp only[nA,nS,nD]<;>omega)|fail)only[go_sem]
  exact(H.Sub.refl hs2.wf).add _ |>.trans hs3
 ·obtain⟨rfl,hs⟩:=hv
  simp -implicitDefEqProofs(maxSteps:=999999)(disch:=first|with_reducible rfl|omega|(simp only[nA,nS,nD]<;>omega)|fail)only[go_sem]
  exact⟨by rw[any_not],hs1.trans hs⟩
theorem indexFuncGp_ev {α:Type}{enc:α→List V}{l:List α}{p:α→Bool}{h:H}{x f:V}(hw:h.wf)(hx:SlAt h x 4 (l.map enc))(hp:∀a∈l,PureA h f [.agg (enc a)] (.bool (p a))):
  E (.fn 168 [] []) [x,f] h fun v h'=>v=.int .i64 (fidx p l 0)∧h.Sub h':=by
 have hb:=hx.boundE
 refine Ev_body (fd:=c168) rfl rfl rfl ?_
 simp -implicitDefEqProofs(maxSteps:=999999)(disch:=first|with_reducible rfl|omega|(simp only[nA,nS,nD]<;>omega)|fail)only[c168,go_sem,hx.lenE]
 refine W_count l.length (fun i s=>∃tm h',s=⟨tm,h',[]⟩∧h.Sub h'∧(Opd.t 0).ev tm=x∧(Opd.t 1).ev tm=f∧(Opd.t 7).ev tm=.int .i64 (l.length:Int)∧(Opd.t 8).ev tm=.int .i64 (i:Int)∧fidx p l 0=fidx p (l.drop i) i)
  ?_ ?_ (i:=0) (Nat.zero_le _) ⟨_,_,rfl,H.Sub.refl hw,(by simp[ev_c,ev_put]<;>rfl),(by simp[ev_c,ev_put]<;>rfl),(by simp[ev_c,ev_put]<;>rfl),(by simp only[ev_put];rfl),rfl⟩
 ·rintro i s hi ⟨tm,h',rfl,hs,e0,e1,e7,e8,e9⟩
  have hi':(i:Int)<(l.length:Int):=by omega
  obtain⟨b,o,c,cs,rfl,hc,hq,hg,hn,hn0⟩:=(hx.mono hs).at hi
  simp -implicitDefEqProofs(maxSteps:=999999)(disch:=first|with_reducible rfl|omega|(simp only[nA,nS,nD]<;>omega)|fail)only[go_sem,e0,e1,e7,e8,hi',hq (nat_cst i),hc,hg]
  refine(hp _ (List.getElem_mem hi)).use hs fun h2 hs2=>?_
  cases hpr:p l[i] with
  |true=>
   simp -implicitDefEqProofs(maxSteps:=999999)(disch:=first|with_reducible rfl|omega|(simp only[nA,nS,nD]<;>omega)|fail)only[go_sem,e0,e1,e7,e8]
   exact⟨by rw[e9,fidx_hit hi hpr],hs.trans hs2⟩
  |false=>
   simp -implicitDefEqProofs(maxSteps:=999999)(disch:=first|with_reducible rfl|omega|(simp only[nA,nS,nD]<;>omega)|fail)only[go_sem,e0,e1,e7,e8,wr_succ]
   exact⟨_,_,rfl,hs.trans hs2,(by simp[ev_c,ev_put,e0]<;>rfl),(by simp[ev_c,ev_put,e1]<;>rfl),(by simp[ev_c,ev_put,e7]<;>rfl),(by simp[ev_c,ev_put]<;>rfl),by rw[e9,fidx_miss hi hpr]⟩
 ·rintro s ⟨tm,h',rfl,hs,e0,e1,e7,e8,e9⟩
  simp -implicitDefEqProofs(maxSteps:=999999)(disch:=first|with_reducible rfl|omega|(simp only[nA,nS,nD]<;>omega)|fail)only[go_sem,e0,e1,e7,e8,Int.lt_irrefl]
  exact⟨by rw[e9];simp[fidx],hs⟩
theorem containsFuncGp_ev {α:Type}{enc:α→List V}{l:List α}{p:α→Bool}{h:H}{x f:V}(hw:h.wf)(hx:SlAt h x 4 (l.map enc))(hp:∀a∈l,PureA h f [.agg (enc a)] (.bool (p a))):
  E (.fn 136 [] []) [x,f] h fun v h'=>v=.bool (l.any p)∧h.Sub h':=by
 refine Ev_body (fd:=c136) rfl rfl rfl ?_
 simp -implicitDefEqProofs(maxSteps:=999999)(disch:=first|with_reducible rfl|omega|(simp only[nA,nS,nD]<;>omega)|fail)only[c136,go_sem]
 refine(indexFuncGp_ev hw hx hp).mono fun v h' hv=>?_
 obtain⟨rfl,hs⟩:=hv
 simp -implicitDefEqProofs(maxSteps:=999999)(disch:=first|with_reducible rfl|omega|(simp only[nA,nS,nD]<;>omega)|fail)only[go_sem]
 exact⟨by rw[fidx_any],hs⟩
theorem everyGp_ev {α:Type}{enc:α→List V}{l:List α}{p:α→Bool}{h:H}{x:V}{g:FuncId}{u w:List V}(hw:h.wf)(hx:SlAt h x 4 (l.map enc))(hp:∀a∈l,PureA h (.fn g u w) [.agg (enc a)] (.bool (p a))):
  E (.fn 123 [] []) [x,.fn g u w] h fun v h'=>v=.bool (l.all p)∧h.Sub h':=by
 refine Ev_body (fd:=c123) rfl rfl rfl ?_
 simp -implicitDefEqProofs(maxSteps:=999999)(disch:=first|with_reducible rfl|omega|(simp only[nA,nS,nD]<;>omega)|fail)only[c123,go_sem]
 have hs1:h.Sub (h.add (.cells .rw [.fn g u w])):=(H.Sub.refl hw).add _
 refine(containsFuncGp_ev (p:=fun a=> !p a) hs1.wf (hx.mono hs1) fun a ha h2 hs2=>?_).mono fun v h' hv=>?_
 ·have hc:h2.cells h.next=some [.fn g u w]:=hs2.cells (cells_add_new rfl)
  have hl:h.next<h2.next:=by have:=hs2.next;rw[H.next_add] at this;omega
  refine Ev_body (fd:=c165) rfl rfl rfl ?_
  simp -implicitDefEqProofs(maxSteps:=999999)(disch:=first|with_reducible rfl|omega|(simp only[nA,nS,nD]<;>omega)|fail)only[c165,go_sem,hc,getN_full (hx.1 _ (List.mem_map_of_mem ha))]
  refine((hp a ha).mono hs1).use (hs2.add _) fun h3 hs3=>?_
  simp -implicitDefEqProofs(maxSteps:=999999)(disch:=first|with_reducible rfl|omega|(simp only[nA,nS,nD]<;>omega)|fail)only[go_sem]
  exact(H.Sub.refl hs2.wf).add _ |>.trans hs3
 ·obtain⟨rfl,hs⟩:=hv
  simp -implicitDefEqProofs(maxSteps:=999999)(disch:=first|with_reducible rfl|omega|(simp only[nA,nS,nD]<;>omega)|fail)only[go_sem]
  exact⟨by rw[any_not],hs1.trans hs⟩
theorem equalInt_ev {l r:List (Int)}{h:H}{x y:V}(hx:SlAt h x 1 (l.map encI))(hy:SlAt h y 1 (r.map encI)):
  E (.fn 81 [] []) [x,y] h fun v h'=>v=.bool (decide (l=r))∧h'=h:=by
 have hb:=hx.boundE
 refine Ev_body (fd:=c81) rfl rfl rfl ?_
 by_cases hl:l.length=r.length
 ·have hl':(l.length:Int)=(r.length:Int):=by omega
  simp -implicitDefEqProofs(maxSteps:=999999)(disch:=first|with_reducible rfl|omega|(simp only[nA,nS,nD]<;>omega)|fail)only[c81,go_sem,hx.lenE,hy.lenE,hl',ne_eq,not_true_eq_false]
  refine W_count l.length (fun i s=>∃tm,s=⟨tm,h,[]⟩∧(Opd.t 0).ev tm=x∧(Opd.t 1).ev tm=y∧(Opd.t 12).ev tm=.int .i64 (l.length:Int)∧(Opd.t 13).ev tm=.int .i64 (i:Int)∧l.take i=r.take i)
   ?_ ?_ (i:=0) (Nat.zero_le _) ⟨_,rfl,(by simp[ev_c,ev_put]<;>rfl),(by simp[ev_c,ev_put]<;>rfl),(by simp only[ev_put, ↓reduceIte,Nat.reduceEqDiff,hl]),(by simp only[ev_put];rfl),rfl⟩
  ·rintro i s hi ⟨tm,rfl,e0,e1,e12,e13,e9⟩
   have hi':(i:Int)<(l.length:Int):=by omega
   have hi2:i<r.length:=by omega
   obtain⟨b,o,c,cs,rfl,hc,hq,hg,hn,hn0⟩:=hx.at hi
   obtain⟨b2,o2,c2,cs2,rfl,hc2,hq2,hg2,hn2,hn02⟩:=hy.at hi2
   have h1:(l[i]=r[i])↔l.take (i+1)=r.take (i+1):=by
    rw[List.take_succ_eq_append_getElem hi,List.take_succ_eq_append_getElem hi2,e9];simp only[List.append_cancel_left_eq,List.cons.injEq,and_true]
   by_cases he:l[i]=r[i]
   ·have hl0:=hl
    simp -implicitDefEqProofs(maxSteps:=999999)(disch:=first|with_reducible rfl|omega|(simp only[nA,nS,nD]<;>omega)|fail)only[go_sem,e0,e1,e12,e13,hi',hq (nat_cst i),hq2 (nat_cst i),hc,hc2,hg,hg2,hn0 (by omega),hn02 (by omega),encI,he,ngB,ne_eq,not_true_eq_false,not_false_eq_true,wr_succ]
    exact⟨_,rfl,(by simp[ev_c,ev_put,e0]<;>rfl),(by simp[ev_c,ev_put,e1]<;>rfl),(by simp[ev_c,ev_put,e12]<;>rfl),(by simp[ev_c,ev_put]<;>rfl),h1.1 he⟩
   ·simp -implicitDefEqProofs(maxSteps:=999999)(disch:=first|with_reducible rfl|omega|(simp only[nA,nS,nD]<;>omega)|fail)only[go_sem,e0,e1,e12,e13,hi',hq (nat_cst i),hq2 (nat_cst i),hc,hc2,hg,hg2,hn0 (by omega),hn02 (by omega),encI,he,ngB,ne_eq,not_true_eq_false,not_false_eq_true,wr_succ]
    rw[decide_eq_false]
    intro e;exact he (h1.2 (by rw[e]))
  ·rintro s ⟨tm,rfl,e0,e1,e12,e13,e9⟩
   simp -implicitDefEqProofs(maxSteps:=999999)(disch:=first|with_reducible rfl|omega|(simp only[nA,nS,nD]<;>omega)|fail)only[go_sem,e0,e1,e12,e13,Int.lt_irrefl]
   rw[decide_eq_true]
   rw[List.take_length,hl,List.take_length] at e9;exact e9
 ·have hl':¬(l.length:Int)=(r.length:Int):=by omega
  simp -implicitDefEqProofs(maxSteps:=999999)(disch:=first|with_reducible rfl|omega|(simp only[nA,nS,nD]<;>omega)|fail)only[c81,go_sem,hx.lenE,hy.lenE,hl',ne_eq,not_false_eq_true]
  rw[decide_eq_false]
  intro e;exact hl (by rw[e])
theorem eqInt_ev {l r:List (Int)}{h:H}{x y:V}(hx:SlAt h x 1 (l.map encI))(hy:SlAt h y 1 (r.map encI))(Q:V→H→Prop):
  Ev fnG fastA (.fn 20 [] []) [x,y] h Q=Q (.bool (decide (l=r))) h:=by
 refine Ev.det (Ev_body (fd:=c20) rfl rfl rfl ?_) Q
 simp -implicitDefEqProofs(maxSteps:=999999)(disch:=first|with_reducible rfl|omega|(simp only[nA,nS,nD]<;>omega)|fail)only[c20,go_sem]
 refine(equalInt_ev hx hy).mono fun v h' hv=>?_
 obtain⟨rfl,rfl⟩:=hv
 simp -implicitDefEqProofs(maxSteps:=999999)(disch:=first|with_reducible rfl|omega|(simp only[nA,nS,nD]<;>omega)|fail)only[go_sem]
end Go.Ab.Tryz
namespace Go.Ab.Tryz
open Go.Proofs
structure Ck where
 sl:Int
 sh:Int
 gl:Int
 gh:Int
structure Rd where
 ck:Int
 ev:Int
 sh:Int
structure Gp where
 fr:Int
 to:Int
 lo:Int
 hi:Int
structure At where
 mins:Int
 evs:Int
 cks:List Ck
 rds:List Rd
 gps:List Gp
def encC (c:Ck):List V:=[.int .i64 c.sl,.int .i64 c.sh,.int .i64 c.gl,.int .i64 c.gh]
def encR (r:Rd):List V:=[.int .i64 r.ck,.int .i64 r.ev,.int .i64 r.sh]
def encG (g:Gp):List V:=[.int .i64 g.fr,.int .i64 g.to,.int .i64 g.lo,.int .i64 g.hi]
structure AtAt (h:H)(C R G:V)(a:At):Prop where
 c:SlAt h C 4 (a.cks.map encC)
 r:SlAt h R 3 (a.rds.map encR)
 g:SlAt h G 4 (a.gps.map encG)
abbrev atV (a:At) (C R G:V):List V:=[.int .i64 a.mins,.int .i64 a.evs,C,R,G]
def AtIs (h:H)(v:V)(a:At):Prop:=∃C R G,v=.agg (atV a C R G)∧AtAt h C R G a
theorem AtAt.mono {h h':H}{C R G:V}{a:At}(x:AtAt h C R G a)(s:h.Sub h'):AtAt h' C R G a:=⟨x.c.mono s,x.r.mono s,x.g.mono s⟩
theorem AtIs.mono {h h':H}{v:V}{a:At}(x:AtIs h v a)(s:h.Sub h'):AtIs h' v a:=by
 obtain⟨C,R,G,e,y⟩:=x;exact⟨C,R,G,e,y.mono s⟩
theorem Ev_bound {f:FuncId}{a:V}{args:List V}{h:H}{Q:V→H→Prop}(he:Ev fnG fastA (.fn f [] []) (a::args) h Q):Ev fnG fastA (.fn f [a] []) args h Q:=by
 rw[Ev_fn,appN_eq,appN_eq];simpa using he
def within (lo hi m:Int):Bool:=inB lo (-m) m&&inB hi (-m) m
def Ck.bd (c:Ck):Bool:=within c.sl c.sh 60&&within c.gl c.gh 30
def Ck.ord (c:Ck):Bool:=decide (c.sl≤c.sh)&&decide (c.gl≤c.gh)
def Ck.sm (c:Ck):Bool:=decide (c.sh-c.sl≤4)&&decide (c.gh-c.gl≤4)
def Rd.bd (r:Rd):Bool:=inB r.sh (-999) 999
def Gp.bd (g:Gp):Bool:=within g.lo g.hi 240
def Gp.ord (g:Gp):Bool:=decide (g.lo≤g.hi)
def At.evB (a:At)(n:Int):Bool:=inB n 0 (a.evs-1)
def At.ckB (a:At)(n:Int):Bool:=inB n 0 ((a.cks.length:Int)-1)
def At.rdOk (a:At)(r:Rd):Bool:=a.ckB r.ck&&a.evB r.ev
def At.gpOk (a:At)(g:Gp):Bool:=a.evB g.fr&&a.evB g.to
def At.sz (a:At):Bool:=inB a.mins 1 240&&(inB a.evs 1 4&&(decide (a.cks.length≤3)&&(decide (a.rds.length≤8)&&decide (a.gps.length≤4))))
def checkA (a:At):Int:=
 if a.sz=false then 2
 else if a.cks.all Ck.bd=false then 3
 else if a.rds.all Rd.bd=false∨a.gps.all Gp.bd=false then 3
 else if a.rds.all a.rdOk=false∨a.gps.all a.gpOk=false then 1
 else if a.cks.all Ck.ord=false∨a.gps.all Gp.ord=false then 4
 else if a.cks.all Ck.sm=false then 10
 else 0
structure Right (a:At):Prop where
 sz:a.sz=true
 cb:∀c∈a.cks,c.bd=true
 rb:∀r∈a.rds,r.bd=true
 gb:∀g∈a.gps,g.bd=true
 ro:∀r∈a.rds,a.rdOk r=true
 go:∀g∈a.gps,a.gpOk g=true
 co:∀c∈a.cks,c.ord=true
 gd:∀g∈a.gps,g.ord=true
 cs:∀c∈a.cks,c.sm=true
theorem checkA_iff {a:At}:checkA a=0↔Right a:=by
 constructor
 ·intro h
  unfold checkA at h
  repeat' (split at h<;>try(exact absurd h (by decide)))
  rename_i h1 h2 h3 h4 h5 h6
  simp only[not_or,Bool.not_eq_false,List.all_eq_true] at h1 h2 h3 h4 h5 h6
  exact⟨h1,h2,h3.1,h3.2,h4.1,h4.2,h5.1,h5.2,h6⟩
 ·intro r
  have e1:a.cks.all Ck.bd=true:=List.all_eq_true.2 r.cb
  have e2:a.rds.all Rd.bd=true:=List.all_eq_true.2 r.rb
  have e3:a.gps.all Gp.bd=true:=List.all_eq_true.2 r.gb
  have e4:a.rds.all a.rdOk=true:=List.all_eq_true.2 r.ro
  have e5:a.gps.all a.gpOk=true:=List.all_eq_true.2 r.go
  have e6:a.cks.all Ck.ord=true:=List.all_eq_true.2 r.co
  have e7:a.gps.all Gp.ord=true:=List.all_eq_true.2 r.gd
  have e8:a.cks.all Ck.sm=true:=List.all_eq_true.2 r.cs
  simp[checkA,r.sz,e1,e2,e3,e4,e5,e6,e7,e8]
theorem Right.mins {a:At}(r:Right a):1≤a.mins∧a.mins≤240:=by
 have:=r.sz;simp only[At.sz,Bool.and_eq_true,inB_iff] at this;exact this.1
theorem Right.evs {a:At}(r:Right a):1≤a.evs∧a.evs≤4:=by
 have:=r.sz;simp only[At.sz,Bool.and_eq_true,inB_iff] at this;exact this.2.1
theorem Right.lens {a:At}(r:Right a):a.cks.length≤3∧a.rds.length≤8∧a.gps.length≤4:=by
 have:=r.sz;simp only[At.sz,Bool.and_eq_true,decide_eq_true_eq] at this;exact this.2.2
theorem within_ev {h:H}(hw:h.wf)(lo hi m:Int)(hm:0≤m∧m≤1000)(Q:V→H→Prop)(q:∀h',h.Sub h'→Q (.bool (within lo hi m)) h'):Ev fnG fastA (.fn 127 [] []) [.agg [.int .i64 lo,.int .i64 hi],.int .i64 m] h Q:=by
 refine Ev_body (fd:=c127) rfl rfl rfl ?_
 have s:h.Sub (h.add (.cells .rw [.int .i64 lo,.int .i64 hi])):=(by repeat(first|assumption|exact H.Sub.refl (by assumption)|refine H.Sub.add ?_ _|refine H.Sub.set ?_ (by first|omega|(simp only[H.next_add,H.next_set,H.next_del]<;>omega)) (by first|omega|(simp only[H.next_add,H.next_set,H.next_del]<;>omega)) (by assumption) _))
 have w:wr .i64 (0-m)= -m:=by rw[wr_in (by omega) (by omega)];omega
 cases h1:inB lo (-m) m with
 |true=>
  have e:within lo hi m=inB hi (-m) m:=by rw[within,h1,Bool.true_and]
  rw[e] at q
  simp -implicitDefEqProofs(maxSteps:=999999)(disch:=first|with_reducible rfl|omega|(simp only[nA,nS,nD]<;>omega)|fail)only[c127,go_sem,in_eq,w,h1]
  exact q _ s
 |false=>
  have e:within lo hi m=false:=by rw[within,h1,Bool.false_and]
  rw[e] at q
  simp -implicitDefEqProofs(maxSteps:=999999)(disch:=first|with_reducible rfl|omega|(simp only[nA,nS,nD]<;>omega)|fail)only[c127,go_sem,in_eq,w,h1]
  exact q _ s
theorem ordered_ev {h:H}(hw:h.wf)(lo hi:Int)(Q:V→H→Prop)(q:∀h',h.Sub h'→Q (.bool (decide (lo≤hi))) h'):Ev fnG fastA (.fn 133 [] []) [.agg [.int .i64 lo,.int .i64 hi]] h Q:=by
 refine Ev_body (fd:=c133) rfl rfl rfl ?_
 have s:h.Sub (h.add (.cells .rw [.int .i64 lo,.int .i64 hi])):=(by repeat(first|assumption|exact H.Sub.refl (by assumption)|refine H.Sub.add ?_ _|refine H.Sub.set ?_ (by first|omega|(simp only[H.next_add,H.next_set,H.next_del]<;>omega)) (by first|omega|(simp only[H.next_add,H.next_set,H.next_del]<;>omega)) (by assumption) _))
 simp -implicitDefEqProofs(maxSteps:=999999)(disch:=first|with_reducible rfl|omega|(simp only[nA,nS,nD]<;>omega)|fail)only[c133,go_sem]
 exact q _ s
theorem check1_ev {h:H}(hw:h.wf)(c:Ck):E (.fn 126 [] []) [.agg (encC c)] h fun u h'=>u=.bool c.bd∧h.Sub h':=by
 refine Ev_body (fd:=c126) rfl rfl rfl ?_
 have s:h.Sub (h.add (.cells .rw [.int .i64 c.sl,.int .i64 c.sh,.int .i64 c.gl,.int .i64 c.gh])):=(by repeat(first|assumption|exact H.Sub.refl (by assumption)|refine H.Sub.add ?_ _|refine H.Sub.set ?_ (by first|omega|(simp only[H.next_add,H.next_set,H.next_del]<;>omega)) (by first|omega|(simp only[H.next_add,H.next_set,H.next_del]<;>omega)) (by assumption) _))
 have g:(h.add (.cells .rw [.int .i64 c.sl,.int .i64 c.sh,.int .i64 c.gl,.int .i64 c.gh])).cells h.next=some [.int .i64 c.sl,.int .i64 c.sh,.int .i64 c.gl,.int .i64 c.gh]:=cells_add_new rfl
 simp -implicitDefEqProofs(maxSteps:=999999)(disch:=first|with_reducible rfl|omega|(simp only[nA,nS,nD]<;>omega)|fail)only[c126,go_sem,encC]
 refine within_ev s.wf _ _ 60 (by omega) _ fun h1 s1=>?_
 cases h1:within c.sl c.sh 60 with
 |false=>
  simp -implicitDefEqProofs(maxSteps:=999999)(disch:=first|with_reducible rfl|omega|(simp only[nA,nS,nD]<;>omega)|fail)only[go_sem]
  exact⟨by simp[Ck.bd,h1],s.trans s1⟩
 |true=>
  simp -implicitDefEqProofs(maxSteps:=999999)(disch:=first|with_reducible rfl|omega|(simp only[nA,nS,nD]<;>omega)|fail)only[go_sem,s1.cells g]
  refine within_ev s1.wf _ _ 30 (by omega) _ fun h2 s2=>?_
  simp -implicitDefEqProofs(maxSteps:=999999)(disch:=first|with_reducible rfl|omega|(simp only[nA,nS,nD]<;>omega)|fail)only[go_sem]
  exact⟨by simp[Ck.bd,h1],(s.trans s1).trans s2⟩
theorem check2_ev {h:H}(hw:h.wf)(r:Rd):E (.fn 128 [] []) [.agg (encR r)] h fun u h'=>u=.bool r.bd∧h.Sub h':=by
 refine Ev_body (fd:=c128) rfl rfl rfl ?_
 have s:h.Sub (h.add (.cells .rw [.int .i64 r.ck,.int .i64 r.ev,.int .i64 r.sh])):=(by repeat(first|assumption|exact H.Sub.refl (by assumption)|refine H.Sub.add ?_ _|refine H.Sub.set ?_ (by first|omega|(simp only[H.next_add,H.next_set,H.next_del]<;>omega)) (by first|omega|(simp only[H.next_add,H.next_set,H.next_del]<;>omega)) (by assumption) _))
 simp -implicitDefEqProofs(maxSteps:=999999)(disch:=first|with_reducible rfl|omega|(simp only[nA,nS,nD]<;>omega)|fail)only[c128,go_sem,encR,in_eq]
 exact⟨rfl,s⟩
theorem check3_ev {h:H}(hw:h.wf)(g:Gp):E (.fn 129 [] []) [.agg (encG g)] h fun u h'=>u=.bool g.bd∧h.Sub h':=by
 refine Ev_body (fd:=c129) rfl rfl rfl ?_
 have s:h.Sub (h.add (.cells .rw [.int .i64 g.fr,.int .i64 g.to,.int .i64 g.lo,.int .i64 g.hi])):=(by repeat(first|assumption|exact H.Sub.refl (by assumption)|refine H.Sub.add ?_ _|refine H.Sub.set ?_ (by first|omega|(simp only[H.next_add,H.next_set,H.next_del]<;>omega)) (by first|omega|(simp only[H.next_add,H.next_set,H.next_del]<;>omega)) (by assumption) _))
 simp -implicitDefEqProofs(maxSteps:=999999)(disch:=first|with_reducible rfl|omega|(simp only[nA,nS,nD]<;>omega)|fail)only[c129,go_sem,encG]
 refine within_ev s.wf _ _ 240 (by omega) _ fun h1 s1=>?_
 simp -implicitDefEqProofs(maxSteps:=999999)(disch:=first|with_reducible rfl|omega|(simp only[nA,nS,nD]<;>omega)|fail)only[go_sem]
 exact⟨rfl,s.trans s1⟩
theorem event_ev {h:H}(hw:h.wf){C R G:V}(a:At)(he:0≤a.evs∧a.evs≤1000)(n:Int)(Q:V→H→Prop)(q:∀h',h.Sub h'→Q (.bool (a.evB n)) h'):Ev fnG fastA (.fn 76 [] []) [.agg (atV a C R G),.int .i64 n] h Q:=by
 refine Ev_body (fd:=c76) rfl rfl rfl ?_
 have s:h.Sub (h.add (.cells .rw (atV a C R G))):=(by repeat(first|assumption|exact H.Sub.refl (by assumption)|refine H.Sub.add ?_ _|refine H.Sub.set ?_ (by first|omega|(simp only[H.next_add,H.next_set,H.next_del]<;>omega)) (by first|omega|(simp only[H.next_add,H.next_set,H.next_del]<;>omega)) (by assumption) _))
 have w:wr .i64 (a.evs-1)=a.evs-1:=wr_in (by omega) (by omega)
 simp -implicitDefEqProofs(maxSteps:=999999)(disch:=first|with_reducible rfl|omega|(simp only[nA,nS,nD]<;>omega)|fail)only[c76,go_sem,in_eq,w]
 exact q _ s
theorem clock_ev {h:H}(hw:h.wf){C R G:V}{a:At}(x:AtAt h C R G a)(n:Int)(Q:V→H→Prop)(q:∀h',h.Sub h'→Q (.bool (a.ckB n)) h'):Ev fnG fastA (.fn 78 [] []) [.agg (atV a C R G),.int .i64 n] h Q:=by
 refine Ev_body (fd:=c78) rfl rfl rfl ?_
 have s:h.Sub (h.add (.cells .rw (atV a C R G))):=(by repeat(first|assumption|exact H.Sub.refl (by assumption)|refine H.Sub.add ?_ _|refine H.Sub.set ?_ (by first|omega|(simp only[H.next_add,H.next_set,H.next_del]<;>omega)) (by first|omega|(simp only[H.next_add,H.next_set,H.next_del]<;>omega)) (by assumption) _))
 have hl:=x.c.lenE
 have hb:=x.c.boundE
 have w:wr .i64 ((a.cks.length:Int)-1)=(a.cks.length:Int)-1:=wr_in (by omega) (by omega)
 simp -implicitDefEqProofs(maxSteps:=999999)(disch:=first|with_reducible rfl|omega|(simp only[nA,nS,nD]<;>omega)|fail)only[c78,go_sem,in_eq,hl,w]
 exact q _ s
theorem check4_ev {h:H}(hw:h.wf){C R G:V}{a:At}(x:AtAt h C R G a)(he:0≤a.evs∧a.evs≤1000){b1 b2:Nat}(g1:h.cells b1=some (atV a C R G))(g2:h.cells b2=some [.fn 76 [.agg (atV a C R G)] []])(l1:b1<h.next)(l2:b2<h.next)(r:Rd):
  E (.fn 130 [] [.ptr b1 0,.ptr b2 0]) [.agg (encR r)] h fun u h'=>u=.bool (a.rdOk r)∧h.Sub h':=by
 refine Ev_body (fd:=c130) rfl rfl rfl ?_
 have s:h.Sub (h.add (.cells .rw [.int .i64 r.ck,.int .i64 r.ev,.int .i64 r.sh])):=(by repeat(first|assumption|exact H.Sub.refl (by assumption)|refine H.Sub.add ?_ _|refine H.Sub.set ?_ (by first|omega|(simp only[H.next_add,H.next_set,H.next_del]<;>omega)) (by first|omega|(simp only[H.next_add,H.next_set,H.next_del]<;>omega)) (by assumption) _))
 have g:(h.add (.cells .rw [.int .i64 r.ck,.int .i64 r.ev,.int .i64 r.sh])).cells h.next=some [.int .i64 r.ck,.int .i64 r.ev,.int .i64 r.sh]:=cells_add_new rfl
 simp -implicitDefEqProofs(maxSteps:=999999)(disch:=first|with_reducible rfl|omega|(simp only[nA,nS,nD]<;>omega)|fail)only[c130,go_sem,encR,g1,g2]
 refine clock_ev s.wf (x.mono s) _ _ fun h1 s1=>?_
 cases h1:a.ckB r.ck with
 |false=>
  simp -implicitDefEqProofs(maxSteps:=999999)(disch:=first|with_reducible rfl|omega|(simp only[nA,nS,nD]<;>omega)|fail)only[go_sem]
  exact⟨by simp[At.rdOk,h1],s.trans s1⟩
 |true=>
  simp -implicitDefEqProofs(maxSteps:=999999)(disch:=first|with_reducible rfl|omega|(simp only[nA,nS,nD]<;>omega)|fail)only[go_sem,s1.cells g,(s.trans s1).cells g2]
  refine Ev_bound ?_
  refine event_ev s1.wf a he _ _ fun h2 s2=>?_
  simp -implicitDefEqProofs(maxSteps:=999999)(disch:=first|with_reducible rfl|omega|(simp only[nA,nS,nD]<;>omega)|fail)only[go_sem]
  exact⟨by simp[At.rdOk,h1],(s.trans s1).trans s2⟩
theorem check5_ev {h:H}(hw:h.wf){C R G:V}{a:At}(he:0≤a.evs∧a.evs≤1000){b2:Nat}(g2:h.cells b2=some [.fn 76 [.agg (atV a C R G)] []])(l2:b2<h.next)(g:Gp):
  E (.fn 131 [] [.ptr b2 0]) [.agg (encG g)] h fun u h'=>u=.bool (a.gpOk g)∧h.Sub h':=by
 refine Ev_body (fd:=c131) rfl rfl rfl ?_
 have s:h.Sub (h.add (.cells .rw [.int .i64 g.fr,.int .i64 g.to,.int .i64 g.lo,.int .i64 g.hi])):=(by repeat(first|assumption|exact H.Sub.refl (by assumption)|refine H.Sub.add ?_ _|refine H.Sub.set ?_ (by first|omega|(simp only[H.next_add,H.next_set,H.next_del]<;>omega)) (by first|omega|(simp only[H.next_add,H.next_set,H.next_del]<;>omega)) (by assumption) _))
 have gg:(h.add (.cells .rw [.int .i64 g.fr,.int .i64 g.to,.int .i64 g.lo,.int .i64 g.hi])).cells h.next=some [.int .i64 g.fr,.int .i64 g.to,.int .i64 g.lo,.int .i64 g.hi]:=cells_add_new rfl
 simp -implicitDefEqProofs(maxSteps:=999999)(disch:=first|with_reducible rfl|omega|(simp only[nA,nS,nD]<;>omega)|fail)only[c131,go_sem,encG,g2]
 refine Ev_bound ?_
 refine event_ev s.wf a he _ _ fun h1 s1=>?_
 cases h1:a.evB g.fr with
 |false=>
  simp -implicitDefEqProofs(maxSteps:=999999)(disch:=first|with_reducible rfl|omega|(simp only[nA,nS,nD]<;>omega)|fail)only[go_sem]
  exact⟨by simp[At.gpOk,h1],s.trans s1⟩
 |true=>
  simp -implicitDefEqProofs(maxSteps:=999999)(disch:=first|with_reducible rfl|omega|(simp only[nA,nS,nD]<;>omega)|fail)only[go_sem,s1.cells gg,(s.trans s1).cells g2]
  refine Ev_bound ?_
  refine event_ev s1.wf a he _ _ fun h2 s2=>?_
  simp -implicitDefEqProofs(maxSteps:=999999)(disch:=first|with_reducible rfl|omega|(simp only[nA,nS,nD]<;>omega)|fail)only[go_sem]
  exact⟨by simp[At.gpOk,h1],(s.trans s1).trans s2⟩
theorem check6_ev {h:H}(hw:h.wf)(c:Ck):E (.fn 132 [] []) [.agg (encC c)] h fun u h'=>u=.bool c.ord∧h.Sub h':=by
 refine Ev_body (fd:=c132) rfl rfl rfl ?_
 have s:h.Sub (h.add (.cells .rw [.int .i64 c.sl,.int .i64 c.sh,.int .i64 c.gl,.int .i64 c.gh])):=(by repeat(first|assumption|exact H.Sub.refl (by assumption)|refine H.Sub.add ?_ _|refine H.Sub.set ?_ (by first|omega|(simp only[H.next_add,H.next_set,H.next_del]<;>omega)) (by first|omega|(simp only[H.next_add,H.next_set,H.next_del]<;>omega)) (by assumption) _))
 have g:(h.add (.cells .rw [.int .i64 c.sl,.int .i64 c.sh,.int .i64 c.gl,.int .i64 c.gh])).cells h.next=some [.int .i64 c.sl,.int .i64 c.sh,.int .i64 c.gl,.int .i64 c.gh]:=cells_add_new rfl
 simp -implicitDefEqProofs(maxSteps:=999999)(disch:=first|with_reducible rfl|omega|(simp only[nA,nS,nD]<;>omega)|fail)only[c132,go_sem,encC]
 refine ordered_ev s.wf _ _ _ fun h1 s1=>?_
 by_cases h1:c.sl≤c.sh
 ·simp -implicitDefEqProofs(maxSteps:=999999)(disch:=first|with_reducible rfl|omega|(simp only[nA,nS,nD]<;>omega)|fail)only[go_sem,h1,s1.cells g]
  refine ordered_ev s1.wf _ _ _ fun h2 s2=>?_
  simp -implicitDefEqProofs(maxSteps:=999999)(disch:=first|with_reducible rfl|omega|(simp only[nA,nS,nD]<;>omega)|fail)only[go_sem]
  exact⟨by simp[Ck.ord,h1],(s.trans s1).trans s2⟩
 ·simp -implicitDefEqProofs(maxSteps:=999999)(disch:=first|with_reducible rfl|omega|(simp only[nA,nS,nD]<;>omega)|fail)only[go_sem,h1]
  exact⟨by simp[Ck.ord,h1],s.trans s1⟩
theorem check7_ev {h:H}(hw:h.wf)(g:Gp):E (.fn 134 [] []) [.agg (encG g)] h fun u h'=>u=.bool g.ord∧h.Sub h':=by
 refine Ev_body (fd:=c134) rfl rfl rfl ?_
 have s:h.Sub (h.add (.cells .rw [.int .i64 g.fr,.int .i64 g.to,.int .i64 g.lo,.int .i64 g.hi])):=(by repeat(first|assumption|exact H.Sub.refl (by assumption)|refine H.Sub.add ?_ _|refine H.Sub.set ?_ (by first|omega|(simp only[H.next_add,H.next_set,H.next_del]<;>omega)) (by first|omega|(simp only[H.next_add,H.next_set,H.next_del]<;>omega)) (by assumption) _))
 simp -implicitDefEqProofs(maxSteps:=999999)(disch:=first|with_reducible rfl|omega|(simp only[nA,nS,nD]<;>omega)|fail)only[c134,go_sem,encG]
 refine ordered_ev s.wf _ _ _ fun h1 s1=>?_
 simp -implicitDefEqProofs(maxSteps:=999999)(disch:=first|with_reducible rfl|omega|(simp only[nA,nS,nD]<;>omega)|fail)only[go_sem]
 exact⟨rfl,s.trans s1⟩
theorem check8_ev {h:H}(hw:h.wf){c:Ck}(hb:c.bd=true):E (.fn 135 [] []) [.agg (encC c)] h fun u h'=>u=.bool c.sm∧h.Sub h':=by
 simp only[Ck.bd,within,Bool.and_eq_true,inB_iff] at hb
 refine Ev_body (fd:=c135) rfl rfl rfl ?_
 have s:h.Sub (h.add (.cells .rw [.int .i64 c.sl,.int .i64 c.sh,.int .i64 c.gl,.int .i64 c.gh])):=(by repeat(first|assumption|exact H.Sub.refl (by assumption)|refine H.Sub.add ?_ _|refine H.Sub.set ?_ (by first|omega|(simp only[H.next_add,H.next_set,H.next_del]<;>omega)) (by first|omega|(simp only[H.next_add,H.next_set,H.next_del]<;>omega)) (by assumption) _))
 have w1:wr .i64 (c.sh-c.sl)=c.sh-c.sl:=wr_in (by omega) (by omega)
 have w2:wr .i64 (c.gh-c.gl)=c.gh-c.gl:=wr_in (by omega) (by omega)
 by_cases h1:c.sh-c.sl≤4
 ·simp -implicitDefEqProofs(maxSteps:=999999)(disch:=first|with_reducible rfl|omega|(simp only[nA,nS,nD]<;>omega)|fail)only[c135,go_sem,encC,w1,w2,h1]
  exact⟨by simp[Ck.sm,h1],s⟩
 ·simp -implicitDefEqProofs(maxSteps:=999999)(disch:=first|with_reducible rfl|omega|(simp only[nA,nS,nD]<;>omega)|fail)only[c135,go_sem,encC,w1,w2,h1]
  exact⟨by simp[Ck.sm,h1],s⟩
theorem sz_no {a:At}(h:a.sz=false):(inB a.mins 1 240=false)∨(inB a.mins 1 240=true∧inB a.evs 1 4=false)∨(inB a.mins 1 240=true∧inB a.evs 1 4=true∧(3:Int)<(a.cks.length:Int))∨
  (inB a.mins 1 240=true∧inB a.evs 1 4=true∧¬(3:Int)<(a.cks.length:Int)∧(8:Int)<(a.rds.length:Int))∨(inB a.mins 1 240=true∧inB a.evs 1 4=true∧¬(3:Int)<(a.cks.length:Int)∧¬(8:Int)<(a.rds.length:Int)∧(4:Int)<(a.gps.length:Int)):=by
 cases h1:inB a.mins 1 240
 ·exact .inl rfl
 cases h2:inB a.evs 1 4
 ·exact .inr (.inl ⟨rfl,rfl⟩)
 by_cases h3:(3:Int)<(a.cks.length:Int)
 ·exact .inr (.inr (.inl ⟨rfl,rfl,h3⟩))
 by_cases h4:(8:Int)<(a.rds.length:Int)
 ·exact .inr (.inr (.inr (.inl ⟨rfl,rfl,h3,h4⟩)))
 refine .inr (.inr (.inr (.inr ⟨rfl,rfl,h3,h4,?_⟩)))
 simp only[At.sz,h1,h2,Bool.true_and,Bool.and_eq_false_iff,decide_eq_false_iff_not] at h
 omega
set_option maxHeartbeats 4000000 in
theorem check_ev {h:H}{v:V}{a:At}(hw:h.wf)(ha:AtIs h v a)(Q:V→H→Prop)(q:∀h',h.Sub h'→Q (.int .i64 (checkA a)) h'):Ev fnG fastA (.fn 49 [] []) [v] h Q:=by
 obtain⟨C,R,G,rfl,x⟩:=ha
 have hlC:=x.c.lenE
 have hlR:=x.r.lenE
 have hlG:=x.g.lenE
 refine Ev_body (fd:=c49) rfl rfl rfl ?_
 have s2:h.Sub ((h.add (.cells .rw (atV a C R G))).add (.cells .rw [.fn 76 [.agg (atV a C R G)] []])):=(by repeat(first|assumption|exact H.Sub.refl (by assumption)|refine H.Sub.add ?_ _|refine H.Sub.set ?_ (by first|omega|(simp only[H.next_add,H.next_set,H.next_del]<;>omega)) (by first|omega|(simp only[H.next_add,H.next_set,H.next_del]<;>omega)) (by assumption) _))
 have g1:((h.add (.cells .rw (atV a C R G))).add (.cells .rw [.fn 76 [.agg (atV a C R G)] []])).cells h.next=some (atV a C R G):=by simp -implicitDefEqProofs(maxSteps:=999999)(disch:=first|with_reducible rfl|omega|(simp only[nA,nS,nD]<;>omega)|fail)only[go_sem]
 have g2:((h.add (.cells .rw (atV a C R G))).add (.cells .rw [.fn 76 [.agg (atV a C R G)] []])).cells (h.next+1)=some [.fn 76 [.agg (atV a C R G)] []]:=by simp -implicitDefEqProofs(maxSteps:=999999)(disch:=first|with_reducible rfl|omega|(simp only[nA,nS,nD]<;>omega)|fail)only[go_sem]
 have nx:((h.add (.cells .rw (atV a C R G))).add (.cells .rw [.fn 76 [.agg (atV a C R G)] []])).next=h.next+2:=by simp only[H.next_add]
 obtain⟨h2,hh2⟩:∃h2,(h.add (.cells .rw (atV a C R G))).add (.cells .rw [.fn 76 [.agg (atV a C R G)] []])=h2:=⟨_,rfl⟩
 rw[hh2] at s2 g1 g2 nx
 cases hsz:a.sz with
 |false=>
  have e:checkA a=2:=by unfold checkA;rw[if_pos hsz]
  rw[e] at q
  rcases sz_no hsz with k|k|k|k|k
  all_goals
   simp -implicitDefEqProofs(maxSteps:=999999)(disch:=first|with_reducible rfl|omega|(simp only[nA,nS,nD]<;>omega)|fail)only[c49,go_sem,in_eq,k,hlC,hlR,hlG]
   rw[hh2]
   exact q _ s2
 |true=>
 have k:=hsz
 simp only[At.sz,Bool.and_eq_true,decide_eq_true_eq] at k
 have k3:¬(3:Int)<(a.cks.length:Int):=by omega
 have k4:¬(8:Int)<(a.rds.length:Int):=by omega
 have k5:¬(4:Int)<(a.gps.length:Int):=by omega
 have ke:=inB_iff.1 k.2.1
 simp -implicitDefEqProofs(maxSteps:=999999)(disch:=first|with_reducible rfl|omega|(simp only[nA,nS,nD]<;>omega)|fail)only[c49,go_sem,in_eq,k.1,k.2.1,k3,k4,k5,hlC,hlR,hlG]
 rw[hh2]
 refine(everyCk_ev (p:=Ck.bd) s2.wf (x.c.mono s2) fun c _ h1 hs=>check1_ev hs.wf c).mono fun u h3 hu=>?_
 obtain⟨rfl,s23⟩:=hu
 have s3:=s2.trans s23
 have g13:=s23.cells g1
 have g23:=s23.cells g2
 have l3:=s23.next
 have n1:a.sz≠false:=by rw[hsz];simp
 have i1:checkA a=if a.cks.all Ck.bd=false then 3
   else if a.rds.all Rd.bd=false∨a.gps.all Gp.bd=false then 3
   else if a.rds.all a.rdOk=false∨a.gps.all a.gpOk=false then 1
   else if a.cks.all Ck.ord=false∨a.gps.all Gp.ord=false then 4
   else if a.cks.all Ck.sm=false then 10
   else 0:=by unfold checkA;rw[if_neg n1]
 rw[i1] at q
 cases d1:a.cks.all Ck.bd with
 |false=>
  rw[if_pos d1] at q
  simp -implicitDefEqProofs(maxSteps:=999999)(disch:=first|with_reducible rfl|omega|(simp only[nA,nS,nD]<;>omega)|fail)only[go_sem]
  exact q _ s3
 |true=>
 rw[if_neg (by rw[d1];simp)] at q
 simp -implicitDefEqProofs(maxSteps:=999999)(disch:=first|with_reducible rfl|omega|(simp only[nA,nS,nD]<;>omega)|fail)only[go_sem,g13]
 refine(everyRd_ev (p:=Rd.bd) s3.wf (x.r.mono s3) fun c _ h1 hs=>check2_ev hs.wf c).mono fun u h4 hu=>?_
 obtain⟨rfl,s34⟩:=hu
 have s4:=s3.trans s34
 cases d2:a.rds.all Rd.bd with
 |false=>
  rw[if_pos (.inl d2)] at q
  simp -implicitDefEqProofs(maxSteps:=999999)(disch:=first|with_reducible rfl|omega|(simp only[nA,nS,nD]<;>omega)|fail)only[go_sem]
  exact q _ s4
 |true=>
 have g14:=s34.cells g13
 simp -implicitDefEqProofs(maxSteps:=999999)(disch:=first|with_reducible rfl|omega|(simp only[nA,nS,nD]<;>omega)|fail)only[go_sem,g14]
 refine(everyGp_ev (p:=Gp.bd) s4.wf (x.g.mono s4) fun c _ h1 hs=>check3_ev hs.wf c).mono fun u h5 hu=>?_
 obtain⟨rfl,s45⟩:=hu
 have s5:=s4.trans s45
 cases d3:a.gps.all Gp.bd with
 |false=>
  rw[if_pos (.inr d3)] at q
  simp -implicitDefEqProofs(maxSteps:=999999)(disch:=first|with_reducible rfl|omega|(simp only[nA,nS,nD]<;>omega)|fail)only[go_sem]
  exact q _ s5
 |true=>
 rw[if_neg (by rw[d2,d3];simp)] at q
 have s35:=s34.trans s45
 have g15:=s35.cells g13
 have g25:=s35.cells g23
 have l5:=s35.next
 simp -implicitDefEqProofs(maxSteps:=999999)(disch:=first|with_reducible rfl|omega|(simp only[nA,nS,nD]<;>omega)|fail)only[go_sem,g15]
 refine(everyRd_ev (p:=a.rdOk) s5.wf (x.r.mono s5) fun c _ h1 hs=>check4_ev hs.wf (x.mono (s5.trans hs)) (by omega) (hs.cells g15) (hs.cells g25) (by have:=hs.next;omega) (by have:=hs.next;omega) c).mono fun u h6 hu=>?_
 obtain⟨rfl,s56⟩:=hu
 have s6:=s5.trans s56
 cases d4:a.rds.all a.rdOk with
 |false=>
  rw[if_pos (.inl d4)] at q
  simp -implicitDefEqProofs(maxSteps:=999999)(disch:=first|with_reducible rfl|omega|(simp only[nA,nS,nD]<;>omega)|fail)only[go_sem]
  exact q _ s6
 |true=>
 have g16:=s56.cells g15
 have g26:=s56.cells g25
 have l6:=s56.next
 simp -implicitDefEqProofs(maxSteps:=999999)(disch:=first|with_reducible rfl|omega|(simp only[nA,nS,nD]<;>omega)|fail)only[go_sem,g16]
 refine(everyGp_ev (p:=a.gpOk) s6.wf (x.g.mono s6) fun c _ h1 hs=>check5_ev hs.wf (by omega) (hs.cells g26) (by have:=hs.next;omega) c).mono fun u h7 hu=>?_
 obtain⟨rfl,s67⟩:=hu
 have s7:=s6.trans s67
 cases d5:a.gps.all a.gpOk with
 |false=>
  rw[if_pos (.inr d5)] at q
  simp -implicitDefEqProofs(maxSteps:=999999)(disch:=first|with_reducible rfl|omega|(simp only[nA,nS,nD]<;>omega)|fail)only[go_sem]
  exact q _ s7
 |true=>
 rw[if_neg (by rw[d4,d5];simp)] at q
 have g17:=s67.cells g16
 simp -implicitDefEqProofs(maxSteps:=999999)(disch:=first|with_reducible rfl|omega|(simp only[nA,nS,nD]<;>omega)|fail)only[go_sem,g17]
 refine(everyCk_ev (p:=Ck.ord) s7.wf (x.c.mono s7) fun c _ h1 hs=>check6_ev hs.wf c).mono fun u h8 hu=>?_
 obtain⟨rfl,s78⟩:=hu
 have s8:=s7.trans s78
 cases d6:a.cks.all Ck.ord with
 |false=>
  rw[if_pos (.inl d6)] at q
  simp -implicitDefEqProofs(maxSteps:=999999)(disch:=first|with_reducible rfl|omega|(simp only[nA,nS,nD]<;>omega)|fail)only[go_sem]
  exact q _ s8
 |true=>
 have g18:=s78.cells g17
 simp -implicitDefEqProofs(maxSteps:=999999)(disch:=first|with_reducible rfl|omega|(simp only[nA,nS,nD]<;>omega)|fail)only[go_sem,g18]
 refine(everyGp_ev (p:=Gp.ord) s8.wf (x.g.mono s8) fun c _ h1 hs=>check7_ev hs.wf c).mono fun u h9 hu=>?_
 obtain⟨rfl,s89⟩:=hu
 have s9:=s8.trans s89
 cases d7:a.gps.all Gp.ord with
 |false=>
  rw[if_pos (.inr d7)] at q
  simp -implicitDefEqProofs(maxSteps:=999999)(disch:=first|with_reducible rfl|omega|(simp only[nA,nS,nD]<;>omega)|fail)only[go_sem]
  exact q _ s9
 |true=>
 rw[if_neg (by rw[d6,d7];simp)] at q
 have g19:=s89.cells g18
 simp -implicitDefEqProofs(maxSteps:=999999)(disch:=first|with_reducible rfl|omega|(simp only[nA,nS,nD]<;>omega)|fail)only[go_sem,g19]
 refine(everyCk_ev (p:=Ck.sm) s9.wf (x.c.mono s9) fun c hc h1 hs=>check8_ev hs.wf (List.all_eq_true.1 d1 c hc)).mono fun u hA hu=>?_
 obtain⟨rfl,s9A⟩:=hu
 have sA:=s9.trans s9A
 cases d8:a.cks.all Ck.sm with
 |false=>
  rw[if_pos d8] at q
  simp -implicitDefEqProofs(maxSteps:=999999)(disch:=first|with_reducible rfl|omega|(simp only[nA,nS,nD]<;>omega)|fail)only[go_sem]
  exact q _ sA
 |true=>
 rw[if_neg (by rw[d8];simp)] at q
 simp -implicitDefEqProofs(maxSteps:=999999)(disch:=first|with_reducible rfl|omega|(simp only[nA,nS,nD]<;>omega)|fail)only[go_sem]
 exact q _ sA
end Go.Ab.Tryz
namespace Go.Ab
def low (L:List Int)(a b:Nat)(v:Int):List Int:=L.set (5*a+b) (min (mg L a b) v)
theorem low_len (L:List Int)(a b:Nat)(v:Int):(low L a b v).length=L.length:=by simp[low]
theorem mg_low {L:List Int}(hL:L.length=25){a b:Nat}(ha:a<5)(hb:b<5)(v:Int)(x y:Nat)(hx:x<5)(hy:y<5):mg (low L a b v) x y=if x=a∧y=b then min (mg L a b) v else mg L x y:=by
 unfold low
 generalize min (mg L a b) v=w
 unfold mg
 rw[List.getD_eq_getElem?_getD,List.getD_eq_getElem?_getD,List.getElem?_set]
 by_cases h:x=a∧y=b
 ·obtain⟨rfl,rfl⟩:=h
  have:5*x+y<25:=by omega
  simp[hL,this]
 ·rw[if_neg h]
  have:5*a+b≠5*x+y:=by omega
  simp[this]
theorem In5.low {B:Int}{L:List Int}(h:In5 B L){a b:Nat}(ha:a<5)(hb:b<5){v:Int}(hv: -B≤v):In5 B (low L a b v):=by
 refine⟨by rw[low_len];exact h.len,fun x y hx hy=>?_,fun x y hx hy=>?_⟩
 ·rw[mg_low h.len ha hb v x y hx hy]
  have:=h.hi x y hx hy
  split
  ·rename_i e;obtain⟨rfl,rfl⟩:=e;omega
  ·exact this
 ·rw[mg_low h.len ha hb v x y hx hy]
  have:=h.lo x y hx hy
  split
  ·rename_i e;obtain⟨rfl,rfl⟩:=e;omega
  ·exact this
theorem Sol_low {L:List Int}(hL:L.length=25){a b:Nat}(ha:a<5)(hb:b<5){v:Int}{x:Nat→Int}:Sol x (low L a b v)↔Sol x L∧x b-x a≤v:=by
 constructor
 ·intro h
  refine⟨fun c d hc hd=>?_,?_⟩
  ·have:=h c d hc hd
   rw[mg_low hL ha hb v c d hc hd] at this
   split at this
   ·rename_i e;obtain⟨rfl,rfl⟩:=e;omega
   ·exact this
  ·have:=h a b ha hb
   rw[mg_low hL ha hb v a b ha hb,if_pos ⟨rfl,rfl⟩] at this
   omega
 ·intro⟨h,h1⟩ c d hc hd
  rw[mg_low hL ha hb v c d hc hd]
  have:=h c d hc hd
  split
  ·rename_i e;obtain⟨rfl,rfl⟩:=e;omega
  ·exact this
def bsU (M:Int)(a b:Nat):List Int:=(List.range 25).map fun k=>if k/5<a then(if k%5=4∨k/5=k%5 then 0 else M) else if k/5=a∧k%5<b then M else 0
theorem bsU_len (M:Int)(a b:Nat):(bsU M a b).length=25:=by simp[bsU]
theorem bsU_get (M:Int)(a b k:Nat)(hk:k<25):(bsU M a b)[k]? =some (if k/5<a then(if k%5=4∨k/5=k%5 then 0 else M) else if k/5=a∧k%5<b then M else 0):=by
 rw[bsU,List.getElem?_map,List.getElem?_range hk];rfl
theorem bsU_step (M:Int){a b:Nat}(ha:a<5)(hb:b<5):(bsU M a b).set (a*5+b*1) M=bsU M a (b+1):=by
 refine List.ext_getElem? fun k=>?_
 rcases Nat.lt_or_ge k 25 with hk|hk
 ·rw[List.getElem?_set,bsU_get M a b k hk,bsU_get M a (b+1) k hk,bsU_len]
  by_cases h:a*5+b*1=k
  ·subst h
   rw[if_pos rfl,if_pos hk,if_neg (by omega),if_pos (by omega)]
  ·rw[if_neg h]
   by_cases h1:k/5<a
   ·rw[if_pos h1,if_pos h1]
   ·rw[if_neg h1,if_neg h1]
    by_cases h2:k/5=a∧k%5<b
    ·rw[if_pos h2,if_pos (by omega)]
    ·rw[if_neg h2,if_neg (by omega)]
 ·rw[List.getElem?_eq_none (by rw[List.length_set,bsU_len];exact hk),List.getElem?_eq_none (by rw[bsU_len];exact hk)]
theorem bsU_row (M:Int){a:Nat}(ha:a<5):((bsU M a 5).set (a*5+4*1) 0).set (a*5+a*1) 0=bsU M (a+1) 0:=by
 refine List.ext_getElem? fun k=>?_
 rcases Nat.lt_or_ge k 25 with hk|hk
 ·rw[List.getElem?_set,List.getElem?_set,bsU_get M a 5 k hk,bsU_get M (a+1) 0 k hk,List.length_set,bsU_len]
  by_cases h:a*5+a*1=k
  ·subst h
   rw[if_pos rfl,if_pos hk,if_pos (show(a*5+a*1)/5<a+1 by omega),if_pos (show(a*5+a*1)%5=4∨(a*5+a*1)/5=(a*5+a*1)%5 by omega)]
  ·rw[if_neg h]
   by_cases h3:a*5+4*1=k
   ·subst h3
    rw[if_pos rfl,if_pos hk,if_pos (show(a*5+4*1)/5<a+1 by omega),if_pos (show(a*5+4*1)%5=4∨(a*5+4*1)/5=(a*5+4*1)%5 by omega)]
   ·rw[if_neg h3]
    by_cases h1:k/5<a
    ·rw[if_pos h1,if_pos (show k/5<a+1 by omega)]
    ·rw[if_neg h1]
     by_cases h2:k/5=a
     ·rw[if_pos (show k/5=a∧k%5<5 by omega),if_pos (show k/5<a+1 by omega),if_neg (show¬(k%5=4∨k/5=k%5) by omega)]
     ·rw[if_neg (show¬(k/5=a∧k%5<5) by omega),if_neg (show¬k/5<a+1 by omega),if_neg (show¬(k/5=a+1∧k%5<0) by omega)]
 ·rw[List.getElem?_eq_none (by rw[List.length_set,List.length_set,bsU_len];exact hk),List.getElem?_eq_none (by rw[bsU_len];exact hk)]
def bsL (M:Int):List Int:=bsU M 5 0
theorem mg_bs (M:Int){a b:Nat}(ha:a<5)(hb:b<5):mg (bsL M) a b=if b=4∨a=b then 0 else M:=by
 unfold mg bsL
 rw[List.getD_eq_getElem?_getD,bsU_get _ _ _ _ (by omega),if_pos (by omega)]
 rw[show(5*a+b)%5=b by omega,show(5*a+b)/5=a by omega];rfl
theorem bs_in {M:Int}(h0:0≤M)(h1:M≤240):In5 240 (bsL M):=
 ⟨bsU_len _ _ _,fun a b ha hb=>by rw[mg_bs M ha hb];split<;>omega,fun a b ha hb=>by rw[mg_bs M ha hb];split<;>omega⟩
theorem Sol_bs {M:Int}{x:Nat→Int}(hx:x 4=0):Sol x (bsL M)↔(∀a,a<4→0≤x a∧x a≤M)∧(∀a b,a<4→b<4→a≠b→x b-x a≤M)∧(0≤M∨True):=by
 constructor
 ·intro h
  refine⟨fun a ha=>?_,fun a b ha hb hab=>?_,.inr trivial⟩
  ·have h1:=h a 4 (by omega) (by omega)
   have h2:=h 4 a (by omega) (by omega)
   rw[mg_bs M (by omega) (by omega),if_pos (.inl rfl)] at h1
   rw[mg_bs M (by omega) (by omega),if_neg (by omega)] at h2
   omega
  ·have h1:=h a b (by omega) (by omega)
   rwa[mg_bs M (by omega) (by omega),if_neg (by omega)] at h1
 ·intro⟨h1,h2,_⟩ a b ha hb
  rw[mg_bs M ha hb]
  by_cases hb4:b=4
  ·subst hb4
   rw[if_pos (.inl rfl)]
   by_cases ha4:a=4
   ·subst ha4;omega
   ·have:=h1 a (by omega);omega
  ·by_cases hab:a=b
   ·subst hab;rw[if_pos (.inr rfl)];omega
   ·rw[if_neg (by omega)]
    by_cases ha4:a=4
    ·subst ha4;have:=h1 b (by omega);omega
    ·exact h2 a b (by omega) (by omega) hab
end Go.Ab
namespace Go.Ab.Tryz
open Go.Proofs
def gapL (L:List Int)(g:Gp):List Int:=low (low L g.fr.toNat g.to.toNat g.hi) g.to.toNat g.fr.toNat (-g.lo)
def freeL (a:At):List Int:=a.gps.foldl gapL (bsL a.mins)
def rdL (L:List Int)(e:Nat)(s:Int × Int):List Int:=low (low L 4 e s.2) e 4 (-s.1)
def readsL (a:At)(cnt:Nat→Bool)(k:Int)(x:Int × Int):List Rd→Nat→List Int→List Int × Bool
 |[],_,L=>(L,true)
 |r::l,i,L=>if r.ck≠k∨cnt i=false then readsL a cnt k x l (i+1) L
  else if(whn x.1 x.2 r.sh (a.mins.toNat+1)).2<(whn x.1 x.2 r.sh (a.mins.toNat+1)).1 then(L,false)
  else readsL a cnt k x l (i+1) (rdL L r.ev.toNat (whn x.1 x.2 r.sh (a.mins.toNat+1)))
def readL (a:At)(cnt:Nat→Bool)(k:Int)(x:Int × Int)(L:List Int):List Int × Bool:=
 if(readsL a cnt k x a.rds 0 L).2=true then clos (readsL a cnt k x a.rds 0 L).1 else((readsL a cnt k x a.rds 0 L).1,false)
end Go.Ab.Tryz
namespace Go.Ab.Tryz
open Go.Proofs
abbrev spV (s:Int × Int):V:=.agg [.int .i64 s.1,.int .i64 s.2]
def MapOk (a:At)(r:Rd)(l:List ((Int × Int) × V)):Prop:=∀c,a.cks[r.ck.toNat]? =some c→∀s g:Int,c.sl≤s→s≤c.sh→c.gl≤g→g≤c.gh→lkP (s,g) l=some (spV (whn s g r.sh (a.mins.toNat+1)))
structure Dk (h:H)(d:Nat)(a:At)(C R G f W:V)(ms:List Nat):Prop where
 dk:h.get d=some (.cells .rw [.int .i64 a.mins,.int .i64 a.evs,C,R,G,f,W])
 x:AtAt h C R G a
 w:SlAt h W 1 (ms.map fun b=>[V.map b])
 len:ms.length=a.rds.length
 maps:∀i (hi:i<a.rds.length),∃b l,ms[i]? =some b∧h.get b=some (.map (encP l))∧MapOk a a.rds[i] l
theorem Dk.mono {h h':H}{d:Nat}{a:At}{C R G f W:V}{ms:List Nat}(k:Dk h d a C R G f W ms)(s:h.Sub h'):Dk h' d a C R G f W ms:=
 ⟨s.get k.dk,k.x.mono s,k.w.mono s,k.len,fun i hi=>let⟨b,l,e,m,o⟩:=k.maps i hi;⟨b,l,e,s.get m,o⟩⟩
theorem least1_ev {h:H}(hw:h.wf)(n v:Int)(Q:V→H→Prop)(q:∀h2,h.Sub h2→Q (.int .i64 (min n v)) h2):
  Ev fnG fastA (.fn 148 [] []) [.int .i64 n,.sl h.next 0 1 (.fix 1)] (h.add (.cells .rw [.int .i64 v])) Q:=by
 have hx:SlAt (h.add (.cells .rw [.int .i64 v])) (.sl h.next 0 1 (.fix 1)) 1 ([v].map fun n=>[iv n]):=SlAt.new _ rfl rfl rfl (by simp) (by simp)
 refine least_ev rfl (H.wf_add hw _) hx n _ fun h2 s2=>?_
 exact q h2 (((H.Sub.refl hw).add _).trans s2)
theorem iaa54 (sz b o:Nat):q_iaa 5 sz (.ptr b o) (.int .i64 4)=some (.ptr b (o+4*sz)):=q_iaa_ptr (nat_num 4) (by decide)
theorem zero25 (M:Int):[V.int .i64 0,.int .i64 0,.int .i64 0,.int .i64 0,.int .i64 0,.int .i64 0,.int .i64 0,.int .i64 0,.int .i64 0,.int .i64 0,.int .i64 0,.int .i64 0,.int .i64 0,.int .i64 0,.int .i64 0,.int .i64 0,.int .i64 0,.int .i64 0,.int .i64 0,.int .i64 0,.int .i64 0,.int .i64 0,.int .i64 0,.int .i64 0,.int .i64 0]=(bsU M 0 0).map iv:=rfl
theorem low_eq (L:List Int)(a b:Nat)(v:Int):L.set (a*5+b*1) (min (mg L a b) v)=low L a b v:=by rw[low,show a*5+b*1=5*a+b by omega]
theorem Right.gap {a:At}(r:Right a){g:Gp}(hg:g∈a.gps):∃f t:Nat,g.fr=f∧g.to=t∧f<4∧t<4∧ -240≤g.lo∧g.lo≤240∧ -240≤g.hi∧g.hi≤240:=by
 have h1:=r.go g hg
 have h2:=r.gb g hg
 have h3:=r.evs
 simp only[At.gpOk,At.evB,Bool.and_eq_true,inB_iff] at h1
 simp only[Gp.bd,within,Bool.and_eq_true,inB_iff] at h2
 exact⟨g.fr.toNat,g.to.toNat,by omega,by omega,by omega,by omega,h2.1.1,h2.1.2,h2.2.1,h2.2.2⟩
theorem gapL_in {L:List Int}(h:In5 240 L){a:At}(r:Right a){g:Gp}(hg:g∈a.gps):In5 240 (gapL L g):=by
 obtain⟨f,t,e1,e2,hf,ht,h1,h2,h3,h4⟩:=r.gap hg
 unfold gapL
 rw[e1,e2]
 exact(h.low (by omega) (by omega) h3).low (by omega) (by omega) (by omega)
theorem gaps_in {a:At}(r:Right a):∀{l:List Gp} {L:List Int},(∀g∈l,g∈a.gps)→In5 240 L→In5 240 (l.foldl gapL L)
 |[],L,_,h=>h
 |g::l,L,hl,h=>by
  rw[List.foldl_cons]
  exact gaps_in r (fun x hx=>hl x (by simp[hx])) (gapL_in h r (hl g (by simp)))
theorem freeL_in {a:At}(r:Right a):In5 240 (freeL a):=gaps_in r (fun _ h=>h) (bs_in (by have:=r.mins;omega) (by have:=r.mins;omega))
structure FrI (h:H)(L:List Int)(Z:List V)(tm:T V)(h':H):Prop where
 sub:h.Sub h'
 nx:h.next+1<h'.next
 gr:h'.get h.next=some (.cells .rw Z)
 gf:h'.get (h.next+1)=some (.cells .rw (L.map iv))
 e2:(Opd.t 2).ev tm=.ptr h.next 0
 e3:(Opd.t 3).ev tm=.ptr (h.next+1) 0
set_option maxHeartbeats 4000000 in
theorem free_ev {h:H}(hw:h.wf){d:Nat}{a:At}{C R G f W:V}{ms:List Nat}(k:Dk h d a C R G f W ms)(r:Right a)(Q:V→H→Prop)(q:∀h',h.Sub h'→Q (.agg ((freeL a).map iv)) h'):
  Ev fnG fastA (.fn 177 [] []) [.ptr d 0] h Q:=by
 have hd:=hw _ _ k.dk
 have hG:=k.x.g.lenE
 have hGb:=k.x.g.boundE
 obtain⟨M,hM⟩:∃M,a.mins=M:=⟨_,rfl⟩
 refine Ev_body (fd:=c177) rfl rfl rfl ?_
 have h55:¬(((5:Nat):Int)<5):=by omega
 simp -implicitDefEqProofs(maxSteps:=999999)(disch:=first|with_reducible rfl|omega|(simp only[nA,nS,nD]<;>omega)|fail)only[c177,go_sem]
 rw[zero25 M]
 obtain⟨Z,hZ,lZ⟩:∃Z:List Int,(bsU M 0 0).map iv=Z.map iv∧Z.length=25:=⟨_,rfl,bsU_len _ _ _⟩
 have f0:∀tm:T V,(Opd.t 2).ev tm=.ptr h.next 0→(Opd.t 3).ev tm=.ptr (h.next+1) 0→FrI h (bsU M 0 0) (Z.map iv) tm ((h.add (.cells .rw ((bsU M 0 0).map iv))).add (.cells .rw ((bsU M 0 0).map iv))):=fun tm a b=>
  ⟨(by repeat(first|assumption|exact H.Sub.refl (by assumption)|refine H.Sub.add ?_ _|refine H.Sub.set ?_ (by first|omega|(simp only[H.next_add,H.next_set,H.next_del]<;>omega)) (by first|omega|(simp only[H.next_add,H.next_set,H.next_del]<;>omega)) (by assumption) _)),by simp only[H.next_add];omega,by rw[hZ];simp -implicitDefEqProofs(maxSteps:=999999)(disch:=first|with_reducible rfl|omega|(simp only[nA,nS,nD]<;>omega)|fail)only[go_sem],by simp -implicitDefEqProofs(maxSteps:=999999)(disch:=first|with_reducible rfl|omega|(simp only[nA,nS,nD]<;>omega)|fail)only[go_sem],a,b⟩
 refine W_count 5 (fun i s=>∃tm h',s=⟨tm,h',[]⟩∧FrI h (bsU M i 0) (Z.map iv) tm h'∧(Opd.t 0).ev tm=.ptr d 0∧(Opd.t 8).ev tm=.int .i64 (i:Int)) ?_ ?_ (i:=0) (Nat.zero_le _)
  ⟨_,_,rfl,f0 _ (by simp[ev_c,ev_put]<;>rfl) (by simp[ev_c,ev_put]<;>rfl),(by simp[ev_c,ev_put]<;>rfl),(by simp[ev_c,ev_put]<;>rfl)⟩
 ·rintro i s hi ⟨tm,h1,rfl,c,e0,e8⟩
  have hi':(i:Int)<5:=by omega
  simp -implicitDefEqProofs(maxSteps:=999999)(disch:=first|with_reducible rfl|omega|(simp only[nA,nS,nD]<;>omega)|fail)only[go_sem,e0,e8,hi']
  refine W_count 5 (fun j s=>∃tm h',s=⟨tm,h',[]⟩∧FrI h (bsU M i j) (Z.map iv) tm h'∧(Opd.t 0).ev tm=.ptr d 0∧(Opd.t 8).ev tm=.int .i64 (i:Int)∧(Opd.t 4).ev tm=.int .i64 (i:Int)∧(Opd.t 11).ev tm=.int .i64 (j:Int)) ?_ ?_ (i:=0) (Nat.zero_le _)
   ⟨_,_,rfl,⟨c.sub,c.nx,c.gr,c.gf,(by simp[ev_c,ev_put,c.e2]<;>rfl),(by simp[ev_c,ev_put,c.e3]<;>rfl)⟩,(by simp[ev_c,ev_put,e0]<;>rfl),(by simp[ev_c,ev_put,e8]<;>rfl),(by simp[ev_c,ev_put]<;>rfl),(by simp[ev_c,ev_put]<;>rfl)⟩
  ·rintro j s hj ⟨tm,h2,rfl,c,e0,e8,e4,e11⟩
   have hj':(j:Int)<5:=by omega
   have gd:=c.sub.get k.dk
   rw[hM] at gd
   have nx:=c.nx
   have hp:=putN_iv (L:=bsU M i j) (k:=i*5+j*1) (by rw[bsU_len];omega) M
   rw[bsU_step M hi hj] at hp
   simp -implicitDefEqProofs(maxSteps:=999999)(disch:=first|with_reducible rfl|omega|(simp only[nA,nS,nD]<;>omega)|fail)only[go_sem,e0,e8,e4,e11,c.e3,hj',cells_of gd,iaa5,c.gf,hp,wr_succ]
   exact⟨_,_,rfl,⟨c.sub.set (by omega) (by omega) hw _,by rw[H.next_set];omega,by rw[get_set_other (by omega)];exact c.gr,get_set_same rfl,(by simp[ev_c,ev_put,c.e2]<;>rfl),(by simp[ev_c,ev_put,c.e3]<;>rfl)⟩,(by simp[ev_c,ev_put,e0]<;>rfl),(by simp[ev_c,ev_put,e8]<;>rfl),(by simp[ev_c,ev_put,e4]<;>rfl),(by simp[ev_c,ev_put]<;>rfl)⟩
  ·rintro s ⟨tm,h2,rfl,c,e0,e8,e4,e11⟩
   have nx:=c.nx
   have hp1:=putN_iv (L:=bsU M i 5) (k:=i*5+4*1) (by rw[bsU_len];omega) 0
   have hp2:=putN_iv (L:=(bsU M i 5).set (i*5+4*1) 0) (k:=i*5+i*1) (by rw[List.length_set,bsU_len];omega) 0
   rw[bsU_row M hi] at hp2
   simp -implicitDefEqProofs(maxSteps:=999999)(disch:=first|with_reducible rfl|omega|(simp only[nA,nS,nD]<;>omega)|fail)only[go_sem,e0,e8,e4,e11,c.e3,h55,iaa5,iaa54,c.gf,hp1,hp2,wr_succ]
   exact⟨_,_,rfl,⟨c.sub.set (by omega) (by omega) hw _,by rw[H.next_set];omega,by rw[get_set_other (by omega)];exact c.gr,get_set_same rfl,(by simp[ev_c,ev_put,c.e2]<;>rfl),(by simp[ev_c,ev_put,c.e3]<;>rfl)⟩,(by simp[ev_c,ev_put,e0]<;>rfl),(by simp[ev_c,ev_put]<;>rfl)⟩
 ·rintro s ⟨tm,h1,rfl,c,e0,e8⟩
  have gd:=c.sub.get k.dk
  have c:FrI h (bsL M) (Z.map iv) tm h1:=c
  simp -implicitDefEqProofs(maxSteps:=999999)(disch:=first|with_reducible rfl|omega|(simp only[nA,nS,nD]<;>omega)|fail)only[go_sem,e0,e8,h55,cells_of gd,hG]
  refine W_count a.gps.length (fun i s=>∃tm h',s=⟨tm,h',[]⟩∧FrI h ((a.gps.take i).foldl gapL (bsL M)) (Z.map iv) tm h'∧(Opd.t 36).ev tm=G∧(Opd.t 37).ev tm=.int .i64 (a.gps.length:Int)∧(Opd.t 38).ev tm=.int .i64 (i:Int)) ?_ ?_ (i:=0) (Nat.zero_le _)
   ⟨_,_,rfl,⟨c.sub,c.nx,c.gr,c.gf,(by simp[ev_c,ev_put,c.e2]<;>rfl),(by simp[ev_c,ev_put,c.e3]<;>rfl)⟩,(by simp[ev_c,ev_put]<;>rfl),(by simp[ev_c,ev_put]<;>rfl),(by simp[ev_c,ev_put]<;>rfl)⟩
  ·rintro i s hi ⟨tm,h2,rfl,c,e36,e37,e38⟩
   have hi':(i:Int)<(a.gps.length:Int):=by omega
   obtain⟨b,o,cc,cs,e,hc,hq,hg,hn,hn0⟩:=(k.x.g.mono c.sub).at hi
   obtain⟨g,hgi⟩:∃g,a.gps[i]=g:=⟨_,rfl⟩
   have hmem:g∈a.gps:=by rw[←hgi];exact List.getElem_mem hi
   obtain⟨fr,to,ef,et,hf,ht,b1,b2,b3,b4⟩:=r.gap hmem
   rw[hgi] at hg
   simp only[encG,ef,et] at hg
   obtain⟨L,hL⟩:∃L,(a.gps.take i).foldl gapL (bsL M)=L:=⟨_,rfl⟩
   have hin:In5 240 L:=by
    rw[←hL]
    exact gaps_in r (fun x hx=>List.mem_of_mem_take hx) (bs_in (by have:=r.mins;omega) (by have:=r.mins;omega))
   have lL:=hin.len
   have gf:=c.gf
   rw[hL] at gf
   have nx:=c.nx
   have hw2:=c.sub.wf
   have w1:wr .i64 (0-g.lo)= -g.lo:=by rw[wr_in (by omega) (by omega)];omega
   have sB:=(H.Sub.refl hw2).add (.cells .rw [.int .i64 (fr:Int),.int .i64 (to:Int),.int .i64 g.lo,.int .i64 g.hi])
   have nB:=H.next_add h2 (.cells .rw [.int .i64 (fr:Int),.int .i64 (to:Int),.int .i64 g.lo,.int .i64 g.hi])
   have gB:(h2.add (.cells .rw [.int .i64 (fr:Int),.int .i64 (to:Int),.int .i64 g.lo,.int .i64 g.hi])).get h2.next=some (.cells .rw [.int .i64 (fr:Int),.int .i64 (to:Int),.int .i64 g.lo,.int .i64 g.hi]):=get_add_new rfl
   obtain⟨hB,hhB⟩:∃hB,h2.add (.cells .rw [.int .i64 (fr:Int),.int .i64 (to:Int),.int .i64 g.lo,.int .i64 g.hi])=hB:=⟨_,rfl⟩
   rw[hhB] at sB nB gB
   have gfB:=sB.get gf
   subst e
   simp -implicitDefEqProofs(maxSteps:=999999)(disch:=first|with_reducible rfl|omega|(simp only[nA,nS,nD]<;>omega)|fail)only[go_sem,e36,e37,e38,c.e3,hi',hq (nat_cst i),hc,hg,hhB,cells_of gB,iaa5,cells_of gfB,nth_mg lL (by omega:fr<5) (by omega:to<5)]
   refine least1_ev sB.wf _ _ _ fun h3 s3=>?_
   have gf3:=s3.get gfB
   have gB3:=s3.get gB
   have l3:=s3.next
   have hp:=putN_iv (L:=L) (k:=fr*5+to*1) (by omega) (min (mg L fr to) g.hi)
   rw[low_eq] at hp
   obtain⟨K,hK⟩:∃K,low L fr to g.hi=K:=⟨_,rfl⟩
   rw[hK] at hp
   have lK:K.length=25:=by rw[←hK,low_len];exact lL
   have s03:=(c.sub.trans sB).trans s3
   have s4:h.Sub (h3.set (h.next+1) (.cells .rw (K.map iv))):=s03.set (by omega) (by omega) hw _
   have gf4:(h3.set (h.next+1) (.cells .rw (K.map iv))).get (h.next+1)=some (.cells .rw (K.map iv)):=get_set_same rfl
   have gB4:(h3.set (h.next+1) (.cells .rw (K.map iv))).get h2.next=some (.cells .rw [.int .i64 (fr:Int),.int .i64 (to:Int),.int .i64 g.lo,.int .i64 g.hi]):=by rw[get_set_other (by omega)];exact gB3
   have gr4:(h3.set (h.next+1) (.cells .rw (K.map iv))).get h.next=some (.cells .rw (Z.map iv)):=by rw[get_set_other (by omega)];exact(sB.trans s3).get c.gr
   have n4:(h3.set (h.next+1) (.cells .rw (K.map iv))).next=h3.next:=H.next_set _ _ _
   simp -implicitDefEqProofs(maxSteps:=999999)(disch:=first|with_reducible rfl|omega|(simp only[nA,nS,nD]<;>omega)|fail)only[go_sem,e36,e37,e38,c.e3,iaa5,gf3,cells_of gf3,cells_of gB3,cells_of gB,cells_of gfB,nth_mg lL (by omega:fr<5) (by omega:to<5),hp]
   obtain⟨h4,hh4⟩:∃h4,h3.set (h.next+1) (.cells .rw (K.map iv))=h4:=⟨_,rfl⟩
   rw[hh4] at s4 gf4 gB4 gr4 n4
   simp -implicitDefEqProofs(maxSteps:=999999)(disch:=first|with_reducible rfl|omega|(simp only[nA,nS,nD]<;>omega)|fail)only[go_sem,hh4,e36,e37,e38,c.e3,iaa5,gf4,cells_of gf4,cells_of gB4,nth_mg lK (by omega:to<5) (by omega:fr<5),w1]
   refine least1_ev s4.wf _ _ _ fun h5 s5=>?_
   have gf5:=s5.get gf4
   have gB5:=s5.get gB4
   have l5:=s5.next
   have hp5:=putN_iv (L:=K) (k:=to*5+fr*1) (by omega) (min (mg K to fr) (-g.lo))
   rw[low_eq] at hp5
   have hfin:(a.gps.take (i+1)).foldl gapL (bsL M)=low K to fr (-g.lo):=by
    rw[List.take_succ_eq_append_getElem hi,List.foldl_append,hL,hgi]
    show gapL L g=_
    unfold gapL
    rw[ef,et,Int.toNat_natCast,Int.toNat_natCast,hK]
   simp -implicitDefEqProofs(maxSteps:=999999)(disch:=first|with_reducible rfl|omega|(simp only[nA,nS,nD]<;>omega)|fail)only[go_sem,e36,e37,e38,c.e3,iaa5,gf5,cells_of gf5,cells_of gB5,gf4,cells_of gf4,cells_of gB4,nth_mg lK (by omega:to<5) (by omega:fr<5),hp5,wr_succ]
   exact⟨_,_,rfl,⟨(s4.trans s5).set (by omega) (by omega) hw _,by rw[H.next_set];omega,by rw[get_set_other (by omega)];exact s5.get gr4,by rw[hfin];exact get_set_same rfl,(by simp[ev_c,ev_put,c.e2]<;>rfl),(by simp[ev_c,ev_put,c.e3]<;>rfl)⟩,(by simp[ev_c,ev_put,e36]<;>rfl),(by simp[ev_c,ev_put,e37]<;>rfl),(by simp[ev_c,ev_put]<;>rfl)⟩
  ·rintro s ⟨tm,h2,rfl,c,e36,e37,e38⟩
   rw[List.take_length,←hM] at c
   have gf:=c.gf
   have nx:=c.nx
   have hin:=freeL_in r
   have lL:(freeL a).length=25:=hin.len
   have gN:getN 0 25 ((freeL a).map iv)=some ((freeL a).map iv):=by rw[←lL];exact getN_iv _
   have lnN:lenN ((freeL a).map iv)=25:=by rw[lenN_iv,lL]
   have pN:h2.put h.next 0 ((freeL a).map iv)=some (h2.set h.next (.cells .rw ((freeL a).map iv))):=put_ints (L:=Z) c.gr (by omega) (fun e=>by rw[e] at lL;cases lL)
   have gf':h2.get (h.next+1)=some (.cells .rw ((freeL a).map iv)):=gf
   simp -implicitDefEqProofs(maxSteps:=999999)(disch:=first|with_reducible rfl|omega|(simp only[nA,nS,nD]<;>omega)|fail)only[go_sem,e36,e37,e38,c.e2,c.e3,Int.lt_irrefl,cells_of gf',gN,lnN,pN]
   exact q _ (c.sub.set (by omega) (by omega) hw _)
end Go.Ab.Tryz
namespace Go.Ab
theorem clo_len:∀(n:Nat) (L:List Int),(clo n L).1.length=L.length
 |0,L=>rfl
 |n+1,L=>by
  simp only[clo]
  split
  ·exact run5_len L 125
  ·split
   ·exact run5_len L 125
   ·rw[clo_len n,run5_len]
theorem clos_len (L:List Int):(clos L).1.length=L.length:=clo_len _ _
end Go.Ab
namespace Go.Ab.Tryz
open Go.Proofs
theorem Right.rd {a:At}(r:Right a){x:Rd}(hx:x∈a.rds):∃k e:Nat,x.ck=k∧x.ev=e∧k<a.cks.length∧e<4∧(e:Int)<a.evs:=by
 have h1:=r.ro x hx
 have h3:=r.evs
 simp only[At.rdOk,At.ckB,At.evB,Bool.and_eq_true,inB_iff] at h1
 exact⟨x.ck.toNat,x.ev.toNat,by omega,by omega,by omega,by omega,by omega⟩
structure RunOf (a:At)(k:Nat)(x:Int × Int):Prop where
 is:∃c,a.cks[k]? =some c∧c.sl≤x.1∧x.1≤c.sh∧c.gl≤x.2∧x.2≤c.gh
theorem RunOf.run {a:At}{k:Nat}{x:Int × Int}(h:RunOf a k x)(r:Right a):RunIn x.1 x.2:=by
 obtain⟨c,hc,h1,h2,h3,h4⟩:=h.is
 have:=r.cb c (List.mem_of_getElem? hc)
 simp only[Ck.bd,within,Bool.and_eq_true,inB_iff] at this
 exact⟨by omega,by omega,by omega,by omega⟩
theorem rdL_in {L:List Int}(h:In5 240 L){e:Nat}(he:e<4){s:Int × Int}(h1:0≤s.1∧s.1≤240)(h2:0≤s.2∧s.2≤240):In5 240 (rdL L e s):=
 (h.low (by omega) (by omega) (by omega)).low (by omega) (by omega) (by omega)
theorem readsL_in {a:At}(r:Right a){cnt:Nat→Bool}{k:Int}{x:Int × Int}:∀{l:List Rd} {i:Nat} {L:List Int},(∀y∈l,y∈a.rds)→In5 240 L→In5 240 (readsL a cnt k x l i L).1
 |[],_,_,_,h=>h
 |y::l,i,L,hl,h=>by
  have hm:=r.mins
  obtain⟨_,e,_,e2,_,he,_⟩:=r.rd (hl y (by simp))
  rw[readsL]
  split
  ·exact readsL_in r (fun z hz=>hl z (by simp[hz])) h
  ·split
   ·exact h
   ·rename_i h2
    have hr:=whn_rng (set:=x.1) (gain:=x.2) (s:=y.sh) (n:=a.mins.toNat+1) (by omega)
    exact readsL_in r (fun z hz=>hl z (by simp[hz])) (rdL_in h (by omega) (by omega) (by omega))
structure RdI (h:H)(L:List Int)(Z:List V)(x:Int × Int)(tm:T V)(h':H):Prop where
 sub:h.Sub h'
 nx:h.next+2<h'.next
 gf:h'.get h.next=some (.cells .rw (L.map iv))
 gx:h'.get (h.next+1)=some (.cells .rw [.int .i64 x.1,.int .i64 x.2])
 gr:h'.get (h.next+2)=some (.cells .rw Z)
 e5:(Opd.t 5).ev tm=.ptr h.next 0
 e7:(Opd.t 7).ev tm=.ptr (h.next+1) 0
 e8:(Opd.t 8).ev tm=.ptr (h.next+2) 0
set_option maxHeartbeats 8000000 in
theorem read_ev {h:H}(hw:h.wf){d:Nat}{a:At}{C R G f W:V}{ms:List Nat}(k:Dk h d a C R G f W ms)(r:Right a){cnt:Nat→Bool}(hcnt:∀i,i<a.rds.length→PureA h f [.int .i64 (i:Int)] (.bool (cnt i)))
  {L:List Int} (hL:In5 240 L) {kc:Nat} {x:Int × Int} (hx:RunOf a kc x) (Q:V→H→Prop) (q:∀h',h.Sub h'→Q (.tup [.agg ((readL a cnt kc x L).1.map iv),.bool (readL a cnt kc x L).2]) h'):
  Ev fnG fastA (.fn 176 [] []) [.ptr d 0,.agg (L.map iv),.int .i64 (kc:Int),.agg [.int .i64 x.1,.int .i64 x.2]] h Q:=by
 have hd:=hw _ _ k.dk
 have hR:=k.x.r.lenE
 have hRb:=k.x.r.boundE
 have lL:=hL.len
 have hm:=r.mins
 obtain⟨Z,hZ,lZ⟩:∃Z:List Int,Z.map iv=[V.int .i64 0,.int .i64 0,.int .i64 0,.int .i64 0,.int .i64 0,.int .i64 0,.int .i64 0,.int .i64 0,.int .i64 0,.int .i64 0,.int .i64 0,.int .i64 0,.int .i64 0,.int .i64 0,.int .i64 0,.int .i64 0,.int .i64 0,.int .i64 0,.int .i64 0,.int .i64 0,.int .i64 0,.int .i64 0,.int .i64 0,.int .i64 0,.int .i64 0]∧Z.length=25:=⟨List.replicate 25 0,rfl,rfl⟩
 refine Ev_body (fd:=c176) rfl rfl rfl ?_
 simp -implicitDefEqProofs(maxSteps:=999999)(disch:=first|with_reducible rfl|omega|(simp only[nA,nS,nD]<;>omega)|fail)only[c176,go_sem,cells_of k.dk,hR]
 rw[←hZ]
 refine W_count a.rds.length (fun i s=>∃tm h' K,s=⟨tm,h',[]⟩∧RdI h K (Z.map iv) x tm h'∧In5 240 K∧readsL a cnt kc x a.rds 0 L=readsL a cnt kc x (a.rds.drop i) i K∧
   (Opd.t 0).ev tm=.ptr d 0∧(Opd.t 2).ev tm=.int .i64 (kc:Int)∧(Opd.t 17).ev tm=R∧(Opd.t 18).ev tm=.int .i64 (a.rds.length:Int)∧(Opd.t 19).ev tm=.int .i64 (i:Int)) ?_ ?_ (i:=0) (Nat.zero_le _)
  ⟨_,_,L,rfl,⟨(by repeat(first|assumption|exact H.Sub.refl (by assumption)|refine H.Sub.add ?_ _|refine H.Sub.set ?_ (by first|omega|(simp only[H.next_add,H.next_set,H.next_del]<;>omega)) (by first|omega|(simp only[H.next_add,H.next_set,H.next_del]<;>omega)) (by assumption) _)),by simp only[H.next_add];omega,by simp -implicitDefEqProofs(maxSteps:=999999)(disch:=first|with_reducible rfl|omega|(simp only[nA,nS,nD]<;>omega)|fail)only[go_sem],by simp -implicitDefEqProofs(maxSteps:=999999)(disch:=first|with_reducible rfl|omega|(simp only[nA,nS,nD]<;>omega)|fail)only[go_sem],by simp -implicitDefEqProofs(maxSteps:=999999)(disch:=first|with_reducible rfl|omega|(simp only[nA,nS,nD]<;>omega)|fail)only[go_sem],(by simp[ev_c,ev_put]<;>rfl),(by simp[ev_c,ev_put]<;>rfl),(by simp[ev_c,ev_put]<;>rfl)⟩,hL,rfl,(by simp[ev_c,ev_put]<;>rfl),(by simp[ev_c,ev_put]<;>rfl),(by simp[ev_c,ev_put]<;>rfl),(by simp[ev_c,ev_put]<;>rfl),(by simp[ev_c,ev_put]<;>rfl)⟩
 ·rintro i s hi ⟨tm,h1,K,rfl,c,hK,hread,e0,e2,e17,e18,e19⟩
  have hi':(i:Int)<(a.rds.length:Int):=by omega
  have k1:=k.mono c.sub
  have hw1:=c.sub.wf
  have nx:=c.nx
  have lK:=hK.len
  obtain⟨b,o,cc,cs,e,hc,hq,hg,hn,hn0⟩:=k1.x.r.at hi
  obtain⟨y,hy⟩:∃y,a.rds[i]=y:=⟨_,rfl⟩
  have hmem:y∈a.rds:=by rw[←hy];exact List.getElem_mem hi
  obtain⟨yk,ye,ek,ee,hyk,hye,_⟩:=r.rd hmem
  rw[hy] at hg
  simp only[encR,ek,ee] at hg
  rw[List.drop_eq_getElem_cons hi,hy,readsL] at hread
  have sB:=(H.Sub.refl hw1).add (.cells .rw [.int .i64 (yk:Int),.int .i64 (ye:Int),.int .i64 y.sh])
  have nB:=H.next_add h1 (.cells .rw [.int .i64 (yk:Int),.int .i64 (ye:Int),.int .i64 y.sh])
  have gB:(h1.add (.cells .rw [.int .i64 (yk:Int),.int .i64 (ye:Int),.int .i64 y.sh])).get h1.next=some (.cells .rw [.int .i64 (yk:Int),.int .i64 (ye:Int),.int .i64 y.sh]):=get_add_new rfl
  obtain⟨hB,hhB⟩:∃hB,h1.add (.cells .rw [.int .i64 (yk:Int),.int .i64 (ye:Int),.int .i64 y.sh])=hB:=⟨_,rfl⟩
  rw[hhB] at sB nB gB
  have kB:=k1.mono sB
  subst e
  have cB:=c.sub.trans sB
  by_cases hk:(yk:Int)=(kc:Int)
  case neg=>
   rw[if_pos (.inl (by rw[ek];exact hk))] at hread
   simp -implicitDefEqProofs(maxSteps:=999999)(disch:=first|with_reducible rfl|omega|(simp only[nA,nS,nD]<;>omega)|fail)only[go_sem,e0,e2,e17,e18,e19,hi',hq (nat_cst i),hc,hg,hhB,cells_of gB,hk,ne_eq,not_false_eq_true,wr_succ]
   exact⟨_,_,K,rfl,⟨cB,by omega,sB.get c.gf,sB.get c.gx,sB.get c.gr,(by simp[ev_c,ev_put,c.e5]<;>rfl),(by simp[ev_c,ev_put,c.e7]<;>rfl),(by simp[ev_c,ev_put,c.e8]<;>rfl)⟩,hK,hread,(by simp[ev_c,ev_put,e0]<;>rfl),(by simp[ev_c,ev_put,e2]<;>rfl),(by simp[ev_c,ev_put,e17]<;>rfl),(by simp[ev_c,ev_put,e18]<;>rfl),(by simp[ev_c,ev_put]<;>rfl)⟩
  have hkc:yk=kc:=by omega
  subst hkc
  simp -implicitDefEqProofs(maxSteps:=999999)(disch:=first|with_reducible rfl|omega|(simp only[nA,nS,nD]<;>omega)|fail)only[go_sem,e0,e2,e17,e18,e19,hi',hq (nat_cst i),hc,hg,hhB,cells_of gB,eq_self,ne_eq,not_true_eq_false,cells_of kB.dk]
  refine(hcnt i hi).use cB fun h2 s2=>?_
  have l2:=s2.next
  cases hct:cnt i with
  |false=>
   rw[if_pos (.inr hct)] at hread
   simp -implicitDefEqProofs(maxSteps:=999999)(disch:=first|with_reducible rfl|omega|(simp only[nA,nS,nD]<;>omega)|fail)only[go_sem,e0,e2,e17,e18,e19,wr_succ]
   have s12:=sB.trans s2
   exact⟨_,_,K,rfl,⟨cB.trans s2,by omega,s12.get c.gf,s12.get c.gx,s12.get c.gr,(by simp[ev_c,ev_put,c.e5]<;>rfl),(by simp[ev_c,ev_put,c.e7]<;>rfl),(by simp[ev_c,ev_put,c.e8]<;>rfl)⟩,hK,hread,(by simp[ev_c,ev_put,e0]<;>rfl),(by simp[ev_c,ev_put,e2]<;>rfl),(by simp[ev_c,ev_put,e17]<;>rfl),(by simp[ev_c,ev_put,e18]<;>rfl),(by simp[ev_c,ev_put]<;>rfl)⟩
  |true=>
  have s12:=sB.trans s2
  have k2:=k1.mono s12
  rw[if_neg (by rw[ek,hct];simp)] at hread
  obtain⟨bm,l,em,gm,mo⟩:=k2.maps i hi
  have him:i<ms.length:=by rw[k.len];exact hi
  have hw2:=k2.w
  obtain⟨b2,o2,cc2,cs2,e',hc2,hq2,hg2,hn2,hn02⟩:=hw2.at (k:=i) him
  have hbm:ms[i]=bm:=by rw[List.getElem?_eq_getElem him] at em;exact Option.some.inj em
  have hnm:nth (o2+i*1) cs2=some (.map bm):=by rw[hn02 (by omega),hbm];rfl
  subst e'
  obtain⟨ck,hck,x1,x2,x3,x4⟩:=hx.is
  have hlk:=mo ck (by rw[hy,ek];exact hck) x.1 x.2 x1 x2 x3 x4
  rw[hy] at hlk
  obtain⟨sp,hsp⟩:∃sp,whn x.1 x.2 y.sh (a.mins.toNat+1)=sp:=⟨_,rfl⟩
  rw[hsp] at hlk hread
  have gx2:=s12.get c.gx
  have hlx:∀h3,h2.Sub h3→q_lks h3 2 (.agg [.int .i64 0,.int .i64 0]) (.map bm) (.agg [.int .i64 x.1,.int .i64 x.2]) false=some (.agg [.int .i64 sp.1,.int .i64 sp.2]):=fun h3 s3=>by
   rw[q_lks_map,s3.get gm]
   have:=lkPC_map l (.agg [.int .i64 0,.int .i64 0]) x false
   rw[show(x.1,x.2)=x from rfl] at hlk
   rw[hlk] at this
   exact this
  have lb2:b2<h2.next:=(H.cells_eq hc2).elim fun kd e=>s2.wf _ _ e
  have gc2:=s12.get c.gf
  have gr2:=s12.get c.gr
  have gB2:=s2.get gB
  have sD:=(H.Sub.refl s2.wf).add (.cells .rw [.int .i64 sp.1,.int .i64 sp.2])
  have nD:=H.next_add h2 (.cells .rw [.int .i64 sp.1,.int .i64 sp.2])
  have gD:(h2.add (.cells .rw [.int .i64 sp.1,.int .i64 sp.2])).get h2.next=some (.cells .rw [.int .i64 sp.1,.int .i64 sp.2]):=get_add_new rfl
  obtain⟨hD,hhD⟩:∃hD,h2.add (.cells .rw [.int .i64 sp.1,.int .i64 sp.2])=hD:=⟨_,rfl⟩
  rw[hhD] at sD nD gD
  simp -implicitDefEqProofs(maxSteps:=999999)(disch:=first|with_reducible rfl|omega|(simp only[nA,nS,nD]<;>omega)|fail)only[go_sem,e0,e2,e17,e18,e19,c.e5,c.e7,cells_of k2.dk,hq2 (nat_cst i),hc2,hnm,cells_of gx2,hlx h2 (H.Sub.refl s2.wf),hlx _ ((H.Sub.refl s2.wf).add (.cells .rw [.int .i64 0,.int .i64 0])),hhD]
  have cD:=(c.sub.trans s12).trans sD
  have gfD:=sD.get gc2
  have gxD:=sD.get gx2
  have grD:=sD.get gr2
  have gBD:=sD.get gB2
  have lD:h2.next<hD.next:=by omega
  by_cases hlt:sp.2<sp.1
  ·rw[if_pos hlt] at hread
   have gN:getN 0 25 (K.map iv)=some (K.map iv):=by rw[←lK];exact getN_iv _
   have lnN:lenN (K.map iv)=25:=by rw[lenN_iv,lK]
   have pN:hD.put (h.next+2) 0 (K.map iv)=some (hD.set (h.next+2) (.cells .rw (K.map iv))):=put_ints (L:=Z) grD (by omega) (fun e=>by rw[e] at lK;cases lK)
   have hfin:readL a cnt yk x L=(K,false):=by unfold readL;rw[hread];simp
   rw[hfin] at q
   have hlt':decide (sp.2<sp.1)=true:=by simp[hlt]
   simp -implicitDefEqProofs(maxSteps:=999999)(disch:=first|with_reducible rfl|omega|(simp only[nA,nS,nD]<;>omega)|fail)only[go_sem,cells_of gD,hlt,c.e5,c.e8,cells_of gfD,gN,lnN,pN]
   exact q _ (cD.set (by omega) (by omega) hw _)
  rw[if_neg hlt,ee,Int.toNat_natCast] at hread
  have hr:=whn_rng (set:=x.1) (gain:=x.2) (s:=y.sh) (n:=a.mins.toNat+1) (by rw[hsp];omega)
  rw[hsp] at hr
  have w1:wr .i64 (0-sp.1)= -sp.1:=by rw[wr_in (by omega) (by omega)];omega
  simp -implicitDefEqProofs(maxSteps:=999999)(disch:=first|with_reducible rfl|omega|(simp only[nA,nS,nD]<;>omega)|fail)only[go_sem,cells_of gD,hlt,e0,e2,e17,e18,e19,c.e5,c.e8,cells_of gfD,cells_of gBD,iaa5,iaa54,nth_mg lK (by omega:4<5) (by omega:ye<5)]
  refine least1_ev sD.wf _ _ _ fun h3 s3=>?_
  have gf3:=s3.get gfD
  have gB3:=s3.get gBD
  have gD3:=s3.get gD
  have l3:=s3.next
  have hp:=putN_iv (L:=K) (k:=4*5+ye*1) (by omega) (min (mg K 4 ye) sp.2)
  rw[low_eq] at hp
  obtain⟨K2,hK2⟩:∃K2,low K 4 ye sp.2=K2:=⟨_,rfl⟩
  rw[hK2] at hp
  have lK2:K2.length=25:=by rw[←hK2,low_len];exact lK
  have s03:=cD.trans s3
  have s4:h.Sub (h3.set h.next (.cells .rw (K2.map iv))):=s03.set (by omega) (by omega) hw _
  have gf4:(h3.set h.next (.cells .rw (K2.map iv))).get h.next=some (.cells .rw (K2.map iv)):=get_set_same rfl
  have gB4:(h3.set h.next (.cells .rw (K2.map iv))).get h1.next=some (.cells .rw [.int .i64 (yk:Int),.int .i64 (ye:Int),.int .i64 y.sh]):=by rw[get_set_other (by omega)];exact gB3
  have gD4:(h3.set h.next (.cells .rw (K2.map iv))).get h2.next=some (.cells .rw [.int .i64 sp.1,.int .i64 sp.2]):=by rw[get_set_other (by omega)];exact gD3
  have gx4:(h3.set h.next (.cells .rw (K2.map iv))).get (h.next+1)=some (.cells .rw [.int .i64 x.1,.int .i64 x.2]):=by rw[get_set_other (by omega)];exact s3.get gxD
  have gr4:(h3.set h.next (.cells .rw (K2.map iv))).get (h.next+2)=some (.cells .rw (Z.map iv)):=by rw[get_set_other (by omega)];exact s3.get grD
  have n4:(h3.set h.next (.cells .rw (K2.map iv))).next=h3.next:=H.next_set _ _ _
  simp -implicitDefEqProofs(maxSteps:=999999)(disch:=first|with_reducible rfl|omega|(simp only[nA,nS,nD]<;>omega)|fail)only[go_sem,e0,e2,e17,e18,e19,c.e5,c.e8,iaa5,iaa54,gf3,cells_of gf3,cells_of gB3,cells_of gD3,cells_of gfD,cells_of gBD,cells_of gD,nth_mg lK (by omega:4<5) (by omega:ye<5),hp]
  obtain⟨h4,hh4⟩:∃h4,h3.set h.next (.cells .rw (K2.map iv))=h4:=⟨_,rfl⟩
  rw[hh4] at s4 gf4 gB4 gD4 gx4 gr4 n4
  simp -implicitDefEqProofs(maxSteps:=999999)(disch:=first|with_reducible rfl|omega|(simp only[nA,nS,nD]<;>omega)|fail)only[go_sem,hh4,e0,e2,e17,e18,e19,c.e5,c.e8,iaa5,iaa54,gf4,cells_of gf4,cells_of gB4,cells_of gD4,nth_mg lK2 (by omega:ye<5) (by omega:4<5),w1]
  refine least1_ev s4.wf _ _ _ fun h5 s5=>?_
  have gf5:=s5.get gf4
  have gB5:=s5.get gB4
  have gD5:=s5.get gD4
  have l5:=s5.next
  have hp5:=putN_iv (L:=K2) (k:=ye*5+4*1) (by omega) (min (mg K2 ye 4) (-sp.1))
  rw[low_eq] at hp5
  have hrd:rdL K ye sp=low K2 ye 4 (-sp.1):=by rw[rdL,hK2]
  rw[hrd] at hread
  have hin:In5 240 (low K2 ye 4 (-sp.1)):=by rw[←hrd];exact rdL_in hK hye (by omega) (by omega)
  simp -implicitDefEqProofs(maxSteps:=999999)(disch:=first|with_reducible rfl|omega|(simp only[nA,nS,nD]<;>omega)|fail)only[go_sem,e0,e2,e17,e18,e19,c.e5,c.e8,iaa5,iaa54,gf5,cells_of gf5,cells_of gB5,cells_of gD5,gf4,cells_of gf4,cells_of gB4,cells_of gD4,nth_mg lK2 (by omega:ye<5) (by omega:4<5),hp5,wr_succ]
  exact⟨_,_,_,rfl,⟨(s4.trans s5).set (by omega) (by omega) hw _,by rw[H.next_set];omega,get_set_same rfl,by rw[get_set_other (by omega)];exact s5.get gx4,by rw[get_set_other (by omega)];exact s5.get gr4,(by simp[ev_c,ev_put,c.e5]<;>rfl),(by simp[ev_c,ev_put,c.e7]<;>rfl),(by simp[ev_c,ev_put,c.e8]<;>rfl)⟩,hin,hread,(by simp[ev_c,ev_put,e0]<;>rfl),(by simp[ev_c,ev_put,e2]<;>rfl),(by simp[ev_c,ev_put,e17]<;>rfl),(by simp[ev_c,ev_put,e18]<;>rfl),(by simp[ev_c,ev_put]<;>rfl)⟩
 ·rintro s ⟨tm,h1,K,rfl,c,hK,hread,e0,e2,e17,e18,e19⟩
  rw[List.drop_eq_nil_of_le (Nat.le_refl _),readsL] at hread
  have lK:=hK.len
  have nx:=c.nx
  have hw1:=c.sub.wf
  have gN:getN 0 25 (K.map iv)=some (K.map iv):=by rw[←lK];exact getN_iv _
  have hfin:readL a cnt kc x L=clos K:=by unfold readL;rw[hread];simp
  rw[hfin] at q
  have hKin:=clos_spec (by decide) (by decide) hK
  simp -implicitDefEqProofs(maxSteps:=999999)(disch:=first|with_reducible rfl|omega|(simp only[nA,nS,nD]<;>omega)|fail)only[go_sem,e0,e2,e17,e18,e19,c.e5,Int.lt_irrefl,cells_of c.gf,gN]
  refine closed_ev rfl rfl hw1 hK _ fun h2 s2=>?_
  have lC:(clos K).1.length=25:=by rw[clos_len,lK]
  have lnN:lenN ((clos K).1.map iv)=25:=by rw[lenN_iv,lC]
  have gr2:=s2.get c.gr
  have l2:=s2.next
  have pN:h2.put (h.next+2) 0 ((clos K).1.map iv)=some (h2.set (h.next+2) (.cells .rw ((clos K).1.map iv))):=put_ints (L:=Z) gr2 (by omega) (fun e=>by rw[e] at lC;cases lC)
  have gN2:getN 0 25 ((clos K).1.map iv)=some ((clos K).1.map iv):=by rw[←lC];exact getN_iv _
  simp -implicitDefEqProofs(maxSteps:=999999)(disch:=first|with_reducible rfl|omega|(simp only[nA,nS,nD]<;>omega)|fail)only[go_sem,e0,e2,e17,e18,e19,c.e8,lnN,pN,gN2]
  exact q _ ((c.sub.trans s2).set (by omega) (by omega) hw _)
end Go.Ab.Tryz
namespace Go.Ab.Tryz
open Go.Proofs
def MapUp (a:At)(r:Rd)(c:Ck)(S T:Int)(l:List ((Int × Int) × V)):Prop:=∀s g:Int,c.sl≤s→s≤c.sh→c.gl≤g→g≤c.gh→(s<S∨(s=S∧g<T))→lkP (s,g) l=some (spV (whn s g r.sh (a.mins.toNat+1)))
theorem MapUp.step {a:At}{r:Rd}{c:Ck}{S T:Int}{l:List ((Int × Int) × V)}(h:MapUp a r c S T l):MapUp a r c S (T+1) (putP (S,T) (spV (whn S T r.sh (a.mins.toNat+1))) l):=fun s g h1 h2 h3 h4 h5=>by
 rw[lkP_putP]
 by_cases e:(s,g)=(S,T)
 ·rw[if_pos e];cases e;rfl
 ·rw[if_neg e]
  refine h s g h1 h2 h3 h4 ?_
  rcases h5 with h5|⟨rfl,h5⟩
  ·exact .inl h5
  ·have:g≠T:=fun e'=>e (by rw[e'])
   exact .inr ⟨rfl,by omega⟩
theorem MapUp.row {a:At}{r:Rd}{c:Ck}{S T:Int}{l:List ((Int × Int) × V)}(h:MapUp a r c S T l)(hT:c.gh<T):MapUp a r c (S+1) c.gl l:=fun s g h1 h2 h3 h4 h5=>h s g h1 h2 h3 h4 (by omega)
theorem RunOf.mk' {a:At}{k:Nat}{c:Ck}(hc:a.cks[k]? =some c){s g:Int}(h1:c.sl≤s)(h2:s≤c.sh)(h3:c.gl≤g)(h4:g≤c.gh):RunOf a k (s,g):=⟨c,hc,h1,h2,h3,h4⟩
structure WkI (h:H)(a:At)(C R G f:V)(i:Nat)(W:V)(ms:List Nat)(h':H):Prop where
 sub:h.Sub h'
 nx:h.next+2<h'.next
 ga:h'.get h.next=some (.cells .rw (atV a C R G))
 gd:h'.get (h.next+2)=some (.cells .rw [.int .i64 a.mins,.int .i64 a.evs,C,R,G,f,W])
 w:OwnSl h h' W 1 (ms.map fun b=>[V.map b])
 len:ms.length=i
 maps:∀j (hj:j<a.rds.length),j<i→∃b l,ms[j]? =some b∧h'.get b=some (.map (encP l))∧MapOk a a.rds[j] l
theorem WkI.mono {h h1 h2:H}{a:At}{C R G f W:V}{i:Nat}{ms:List Nat}(k:WkI h a C R G f i W ms h1)(s:h1.Sub h2):WkI h a C R G f i W ms h2:=
 ⟨k.sub.trans s,Nat.lt_of_lt_of_le k.nx s.next,s.get k.ga,s.get k.gd,k.w.mono s,k.len,fun j hj hi=>let⟨b,l,e,m,o⟩:=k.maps j hj hi;⟨b,l,e,s.get m,o⟩⟩
set_option maxHeartbeats 8000000 in
theorem worked_ev {h:H}(hw:h.wf){a:At}{C R G:V}(x:AtAt h C R G a)(r:Right a){f:V}(hf:f.one=true)(Q:V→H→Prop)
  (q:∀d W ms h',h.Sub h'→h.next≤d→Dk h' d a C R G f W ms→Q (.ptr d 0) h'):Ev fnG fastA (.fn 82 [] []) [.agg (atV a C R G),.agg [f]] h Q:=by
 have hR:=x.r.lenE
 have hm:=r.mins
 have rl:=r.lens
 have oC:=x.c.one;have oR:=x.r.one;have oG:=x.g.one
 refine Ev_body (fd:=c82) rfl rfl rfl ?_
 simp -implicitDefEqProofs(maxSteps:=999999)(disch:=first|with_reducible rfl|omega|(simp only[nA,nS,nD]<;>omega)|fail)only[c82,go_sem,hR]
 have k0:WkI h a C R G f 0 .nils [] (((h.add (.cells .rw (atV a C R G))).add (.cells .rw [f])).add (.cells .rw [.int .i64 a.mins,.int .i64 a.evs,C,R,G,f,.nils])):=
  ⟨(by repeat(first|assumption|exact H.Sub.refl (by assumption)|refine H.Sub.add ?_ _|refine H.Sub.set ?_ (by first|omega|(simp only[H.next_add,H.next_set,H.next_del]<;>omega)) (by first|omega|(simp only[H.next_add,H.next_set,H.next_del]<;>omega)) (by assumption) _)),by simp only[H.next_add];omega,by simp -implicitDefEqProofs(maxSteps:=999999)(disch:=first|with_reducible rfl|omega|(simp only[nA,nS,nD]<;>omega)|fail)only[go_sem],by simp -implicitDefEqProofs(maxSteps:=999999)(disch:=first|with_reducible rfl|omega|(simp only[nA,nS,nD]<;>omega)|fail)only[go_sem],OwnSl.nil (by repeat(first|assumption|exact H.Sub.refl (by assumption)|refine H.Sub.add ?_ _|refine H.Sub.set ?_ (by first|omega|(simp only[H.next_add,H.next_set,H.next_del]<;>omega)) (by first|omega|(simp only[H.next_add,H.next_set,H.next_del]<;>omega)) (by assumption) _)) 1,rfl,fun j _ h0=>absurd h0 (Nat.not_lt_zero _)⟩
 refine W_count a.rds.length (fun i s=>∃tm h' W ms,s=⟨tm,h',[]⟩∧WkI h a C R G f i W ms h'∧(Opd.t 2).ev tm=.ptr h.next 0∧(Opd.t 5).ev tm=.ptr (h.next+2) 0∧(Opd.t 18).ev tm=R∧(Opd.t 19).ev tm=.int .i64 (a.rds.length:Int)∧(Opd.t 20).ev tm=.int .i64 (i:Int)) ?_ ?_ (i:=0) (Nat.zero_le _)
  ⟨_,_,.nils,[],rfl,k0,(by simp[ev_c,ev_put]<;>rfl),(by simp[ev_c,ev_put]<;>rfl),(by simp[ev_c,ev_put]<;>rfl),(by simp[ev_c,ev_put]<;>rfl),(by simp[ev_c,ev_put]<;>rfl)⟩
 ·rintro i s hi ⟨tm,h1,W,ms,rfl,k,e2,e5,e18,e19,e20⟩
  have hi':(i:Int)<(a.rds.length:Int):=by omega
  have x1:=x.mono k.sub
  have hw1:=k.sub.wf
  have nx:=k.nx
  obtain⟨b,o,cc,cs,e,hc,hq,hg,hn,hn0⟩:=x1.r.at hi
  obtain⟨y,hy⟩:∃y,a.rds[i]=y:=⟨_,rfl⟩
  have hmem:y∈a.rds:=by rw[←hy];exact List.getElem_mem hi
  obtain⟨yk,ye,ek,ee,hyk,hye,_⟩:=r.rd hmem
  rw[hy] at hg
  simp only[encR,ek,ee] at hg
  obtain⟨b2,o2,cc2,cs2,e',hc2,hq2,hg2,hn2,hn02⟩:=x1.c.at (k:=yk) hyk
  obtain⟨c,hcy⟩:∃c,a.cks[yk]=c:=⟨_,rfl⟩
  have hck:a.cks[yk]? =some c:=by rw[List.getElem?_eq_getElem hyk,hcy]
  have hcm:c∈a.cks:=List.mem_of_getElem? hck
  have hcb:=r.cb c hcm
  have hco:=r.co c hcm
  simp only[Ck.bd,within,Bool.and_eq_true,inB_iff] at hcb
  simp only[Ck.ord,Bool.and_eq_true,decide_eq_true_eq] at hco
  rw[hcy] at hg2
  simp only[encC] at hg2
  have lb2:b2<h1.next:=(H.cells_eq hc2).elim fun kd e=>hw1 _ _ e
  have lb:b<h1.next:=(H.cells_eq hc).elim fun kd e=>hw1 _ _ e
  subst e
  subst e'
  have ga1:=k.ga
  simp -implicitDefEqProofs(maxSteps:=999999)(disch:=first|with_reducible rfl|omega|(simp only[nA,nS,nD]<;>omega)|fail)only[go_sem,e2,e5,e18,e19,e20,hi',hq (nat_cst i),hc,hg,cells_of ga1,hq2 (nat_cst yk),hc2,hg2]
  obtain⟨h2,hh2⟩:∃h2,((h1.add (.cells .rw [.int .i64 (yk:Int),.int .i64 (ye:Int),.int .i64 y.sh])).add (.map [])).add (.cells .rw [.int .i64 c.sl,.int .i64 c.sh,.int .i64 c.gl,.int .i64 c.gh])=h2:=⟨_,rfl⟩
  have s2:h1.Sub h2:=by rw[←hh2];exact(by repeat(first|assumption|exact H.Sub.refl (by assumption)|refine H.Sub.add ?_ _|refine H.Sub.set ?_ (by first|omega|(simp only[H.next_add,H.next_set,H.next_del]<;>omega)) (by first|omega|(simp only[H.next_add,H.next_set,H.next_del]<;>omega)) (by assumption) _))
  have n2:h2.next=h1.next+3:=by rw[←hh2];simp only[H.next_add]
  have gr2:h2.get h1.next=some (.cells .rw [.int .i64 (yk:Int),.int .i64 (ye:Int),.int .i64 y.sh]):=by rw[←hh2];simp -implicitDefEqProofs(maxSteps:=999999)(disch:=first|with_reducible rfl|omega|(simp only[nA,nS,nD]<;>omega)|fail)only[go_sem]
  have gm2:h2.get (h1.next+1)=some (.map (encP [])):=by rw[←hh2,encP_nil];simp -implicitDefEqProofs(maxSteps:=999999)(disch:=first|with_reducible rfl|omega|(simp only[nA,nS,nD]<;>omega)|fail)only[go_sem]
  have gc2:h2.get (h1.next+2)=some (.cells .rw [.int .i64 c.sl,.int .i64 c.sh,.int .i64 c.gl,.int .i64 c.gh]):=by rw[←hh2];simp -implicitDefEqProofs(maxSteps:=999999)(disch:=first|with_reducible rfl|omega|(simp only[nA,nS,nD]<;>omega)|fail)only[go_sem]
  try rw[hh2]
  obtain⟨mn,hmn⟩:∃mn:Nat,a.mins=mn:=⟨a.mins.toNat,by omega⟩
  obtain⟨n,hn⟩:∃n:Nat,(n:Int)=c.sh-c.sl+1:=⟨(c.sh-c.sl+1).toNat,by omega⟩
  obtain⟨n',hn'⟩:∃n:Nat,(n:Int)=c.gh-c.gl+1:=⟨(c.gh-c.gl+1).toNat,by omega⟩
  refine W_count n (fun u s=>∃tm h' l,s=⟨tm,h',[]⟩∧h1.Sub h'∧h1.next+2<h'.next∧h'.get h1.next=some (.cells .rw [.int .i64 (yk:Int),.int .i64 (ye:Int),.int .i64 y.sh])∧h'.get (h1.next+1)=some (.map (encP l))∧h'.get (h1.next+2)=some (.cells .rw [.int .i64 c.sl,.int .i64 c.sh,.int .i64 c.gl,.int .i64 c.gh])∧MapUp a y c (c.sl+u) c.gl l∧
   (Opd.t 2).ev tm=.ptr h.next 0∧(Opd.t 5).ev tm=.ptr (h.next+2) 0∧(Opd.t 18).ev tm=.sl b o a.rds.length cc∧(Opd.t 19).ev tm=.int .i64 (a.rds.length:Int)∧(Opd.t 20).ev tm=.int .i64 (i:Int)∧(Opd.t 7).ev tm=.ptr h1.next 0∧(Opd.t 8).ev tm=.map (h1.next+1)∧(Opd.t 9).ev tm=.ptr (h1.next+2) 0∧(Opd.t 10).ev tm=.int .i64 (c.sl+u)) ?_ ?_ (i:=0) (Nat.zero_le _)
   ⟨_,_,[],rfl,s2,by omega,gr2,gm2,gc2,fun s g h1 _ h3 _ h5=>by omega,(by simp[ev_c,ev_put,e2]<;>rfl),(by simp[ev_c,ev_put,e5]<;>rfl),(by simp[ev_c,ev_put,e18]<;>rfl),(by simp[ev_c,ev_put,e19]<;>rfl),(by simp[ev_c,ev_put,e20]<;>rfl),(by simp[ev_c,ev_put]<;>rfl),(by simp[ev_c,ev_put]<;>rfl),(by simp[ev_c,ev_put]<;>rfl),(by rw[show c.sl+((0:Nat):Int)=c.sl by simp];exact(by simp[ev_c,ev_put]<;>rfl))⟩
  ·rintro u s hu ⟨tm,h',l,rfl,s1,nx',gr,gm,gc,mo,e2,e5,e18,e19,e20,e7,e8,e9,e10⟩
   have hu':c.sl+(u:Int)≤c.sh:=by omega
   simp -implicitDefEqProofs(maxSteps:=999999)(disch:=first|with_reducible rfl|omega|(simp only[nA,nS,nD]<;>omega)|fail)only[go_sem,e2,e5,e18,e19,e20,e7,e8,e9,e10,cells_of gc,hu']
   refine W_count n' (fun v s=>∃tm h' l,s=⟨tm,h',[]⟩∧h1.Sub h'∧h1.next+2<h'.next∧h'.get h1.next=some (.cells .rw [.int .i64 (yk:Int),.int .i64 (ye:Int),.int .i64 y.sh])∧h'.get (h1.next+1)=some (.map (encP l))∧h'.get (h1.next+2)=some (.cells .rw [.int .i64 c.sl,.int .i64 c.sh,.int .i64 c.gl,.int .i64 c.gh])∧MapUp a y c (c.sl+u) (c.gl+v) l∧
    (Opd.t 2).ev tm=.ptr h.next 0∧(Opd.t 5).ev tm=.ptr (h.next+2) 0∧(Opd.t 18).ev tm=.sl b o a.rds.length cc∧(Opd.t 19).ev tm=.int .i64 (a.rds.length:Int)∧(Opd.t 20).ev tm=.int .i64 (i:Int)∧(Opd.t 7).ev tm=.ptr h1.next 0∧(Opd.t 8).ev tm=.map (h1.next+1)∧(Opd.t 9).ev tm=.ptr (h1.next+2) 0∧(Opd.t 10).ev tm=.int .i64 (c.sl+u)∧(Opd.t 11).ev tm=.int .i64 (c.gl+v)) ?_ ?_ (i:=0) (Nat.zero_le _)
    ⟨_,_,l,rfl,s1,nx',gr,gm,gc,by rw[show c.gl+((0:Nat):Int)=c.gl by simp];exact mo,(by simp[ev_c,ev_put,e2]<;>rfl),(by simp[ev_c,ev_put,e5]<;>rfl),(by simp[ev_c,ev_put,e18]<;>rfl),(by simp[ev_c,ev_put,e19]<;>rfl),(by simp[ev_c,ev_put,e20]<;>rfl),(by simp[ev_c,ev_put,e7]<;>rfl),(by simp[ev_c,ev_put,e8]<;>rfl),(by simp[ev_c,ev_put,e9]<;>rfl),(by simp[ev_c,ev_put,e10]<;>rfl),(by rw[show c.gl+((0:Nat):Int)=c.gl by simp];exact(by simp[ev_c,ev_put]<;>rfl))⟩
   ·rintro v s hv ⟨tm,h',l,rfl,s1,nx',gr,gm,gc,mo,e2,e5,e18,e19,e20,e7,e8,e9,e10,e11⟩
    have hv':c.gl+(v:Int)≤c.gh:=by omega
    have ga':=s1.get ga1
    obtain⟨S,hS⟩:∃S,c.sl+(u:Int)=S:=⟨_,rfl⟩
    obtain⟨T,hT⟩:∃T,c.gl+(v:Int)=T:=⟨_,rfl⟩
    rw[hS] at e10 mo
    rw[hT] at e11 mo hv'
    have hri:RunIn S T:=⟨by omega,by omega,by omega,by omega⟩
    have sX:=(H.Sub.refl s1.wf).add (.cells .rw [.int .i64 S,.int .i64 T])
    have gX:(h'.add (.cells .rw [.int .i64 S,.int .i64 T])).get h'.next=some (.cells .rw [.int .i64 S,.int .i64 T]):=get_add_new rfl
    have nX:=H.next_add h' (.cells .rw [.int .i64 S,.int .i64 T])
    obtain⟨hX,hhX⟩:∃hX,h'.add (.cells .rw [.int .i64 S,.int .i64 T])=hX:=⟨_,rfl⟩
    rw[hhX] at sX gX nX
    have gaX:hX.get h.next=some (.cells .rw [.int .i64 (mn:Int),.int .i64 a.evs,.sl b2 o2 a.cks.length cc2,.sl b o a.rds.length cc,G]):=by rw[←hmn];exact sX.get ga'
    simp -implicitDefEqProofs(maxSteps:=999999)(disch:=first|with_reducible rfl|omega|(simp only[nA,nS,nD]<;>omega)|fail)only[go_sem,e2,e5,e18,e19,e20,e7,e8,e9,e10,e11,cells_of gc,hv',hhX,cells_of gX,cells_of (sX.get gr),cells_of gaX]
    refine when_ev rfl rfl sX.wf hri y.sh (n:=mn) (by omega) _ fun h3 s3=>?_
    have s13:=(s1.trans sX).trans s3
    have gm3:=s3.get (sX.get gm)
    have l3:=s3.next
    have hmu:e_mus h3 2 (.map (h1.next+1)) (.agg [.int .i64 S,.int .i64 T]) (.agg [.int .i64 (whn S T y.sh (mn+1)).1,.int .i64 (whn S T y.sh (mn+1)).2])=some (.und,h3.set (h1.next+1) (.map (encP (putP (S,T) (spV (whn S T y.sh (mn+1))) l)))):=by
     rw[e_mus_map,gm3];exact muPC_map l h3 (h1.next+1) (S,T) _
    have mo':=mo.step
    rw[show a.mins.toNat=mn by omega] at mo'
    have w1:wr .i64 (T+1)=T+1:=wr_in (by omega) (by omega)
    have hT1:c.gl+((v+1:Nat):Int)=T+1:=by omega
    simp -implicitDefEqProofs(maxSteps:=999999)(disch:=first|with_reducible rfl|omega|(simp only[nA,nS,nD]<;>omega)|fail)only[go_sem,e2,e5,e18,e19,e20,e7,e8,e9,e10,e11,hmu,cells_of gX,cells_of (sX.get gr),cells_of gaX,cells_of (s3.get gX),cells_of (s3.get (sX.get gr)),cells_of (s3.get gaX),w1]
    refine⟨_,_,_,rfl,s13.set (by omega) (by omega) hw1 _,by rw[H.next_set];omega,by rw[get_set_other (by omega)];exact s3.get (sX.get gr),get_set_same rfl,by rw[get_set_other (by omega)];exact s3.get (sX.get gc),by rw[hS,hT1];exact mo',(by simp[ev_c,ev_put,e2]<;>rfl),(by simp[ev_c,ev_put,e5]<;>rfl),(by simp[ev_c,ev_put,e18]<;>rfl),(by simp[ev_c,ev_put,e19]<;>rfl),(by simp[ev_c,ev_put,e20]<;>rfl),(by simp[ev_c,ev_put,e7]<;>rfl),(by simp[ev_c,ev_put,e8]<;>rfl),(by simp[ev_c,ev_put,e9]<;>rfl),by rw[hS];exact(by simp[ev_c,ev_put,e10]<;>rfl),by rw[hT1];exact(by simp[ev_c,ev_put]<;>rfl)⟩
   ·rintro s ⟨tm,h',l,rfl,s1,nx',gr,gm,gc,mo,e2,e5,e18,e19,e20,e7,e8,e9,e10,e11⟩
    have hv':¬c.gl+(n':Int)≤c.gh:=by omega
    have w1:wr .i64 (c.sl+(u:Int)+1)=c.sl+((u+1:Nat):Int):=by rw[wr_in (by omega) (by omega)];omega
    simp -implicitDefEqProofs(maxSteps:=999999)(disch:=first|with_reducible rfl|omega|(simp only[nA,nS,nD]<;>omega)|fail)only[go_sem,e2,e5,e18,e19,e20,e7,e8,e9,e10,e11,cells_of gc,hv',w1]
    have mo':=mo.row (by omega)
    rw[show c.sl+(u:Int)+1=c.sl+((u+1:Nat):Int) by omega] at mo'
    exact⟨_,_,l,rfl,s1,nx',gr,gm,gc,mo',(by simp[ev_c,ev_put,e2]<;>rfl),(by simp[ev_c,ev_put,e5]<;>rfl),(by simp[ev_c,ev_put,e18]<;>rfl),(by simp[ev_c,ev_put,e19]<;>rfl),(by simp[ev_c,ev_put,e20]<;>rfl),(by simp[ev_c,ev_put,e7]<;>rfl),(by simp[ev_c,ev_put,e8]<;>rfl),(by simp[ev_c,ev_put,e9]<;>rfl),(by simp[ev_c,ev_put]<;>rfl)⟩
  ·rintro s ⟨tm,h',l,rfl,s1,nx',gr,gm,gc,mo,e2,e5,e18,e19,e20,e7,e8,e9,e10⟩
   have hu':¬c.sl+(n:Int)≤c.sh:=by omega
   have k1:=k.mono s1
   have gd1:=k1.gd
   have nx1:=k1.nx
   have hw':=s1.wf
   have sY:=(H.Sub.refl hw').add (.cells .rw [V.map (h1.next+1)])
   have hy1:SlAt (h'.add (.cells .rw [V.map (h1.next+1)])) (.sl h'.next 0 1 (.fix 1)) 1 [[V.map (h1.next+1)]]:=SlAt.new _ rfl rfl rfl (by simp) (by simp)
   simp -implicitDefEqProofs(maxSteps:=999999)(disch:=first|with_reducible rfl|omega|(simp only[nA,nS,nD]<;>omega)|fail)only[go_sem,e2,e5,e18,e19,e20,e7,e8,e9,e10,cells_of gc,hu',cells_of gd1]
   refine((k1.w).mono sY).app1 (by_:=8) (r:=[V.map (h1.next+1)]) hw rfl (by omega) hy1 rfl (by have:=r.lens;simp only[List.length_map,k.len];omega) (by have:=r.lens;simp only[List.length_map,k.len];omega) fun h4 o4 kp n4=>?_
   have nW:=k1.w.ne gd1
   have nW':¬blkOf W (h.next+2):=nW
   have gd4:=kp.2 _ _ (sY.get gd1) nW'
   have ga4:=kp.2 _ _ (sY.get k1.ga) (k1.w.ne k1.ga)
   have nmap:∀{b:Nat} {l:List (V × V)},h'.get b=some (.map l)→¬blkOf W b:=fun hb hbl=>by
    have:=(k1.w.blk hbl).2.2;rw[hb] at this;cases this
   have hY:=sY.next
   simp only[H.next_add] at hY n4
   simp -implicitDefEqProofs(maxSteps:=999999)(disch:=first|with_reducible rfl|omega|(simp only[nA,nS,nD]<;>omega)|fail)only[go_sem,e2,e5,e18,e19,e20,gd4,wr_succ,one_sl,oC,oR,oG,hf]
   have hmap:ms.map (fun b=>[V.map b])++[[V.map (h1.next+1)]]=(ms++[h1.next+1]).map fun b=>[V.map b]:=by simp
   rw[hmap] at o4
   have sF:h.Sub (h4.set (h.next+2) (.cells .rw [.int .i64 a.mins,.int .i64 a.evs,.sl b2 o2 a.cks.length cc2,.sl b o a.rds.length cc,G,f,.sl (h'.add (.cells .rw [V.map (h1.next+1)])).next 0 ((ms.map fun b=>[V.map b]).length+1) (.slk 0 0)])):=o4.1.set (by omega) (by omega) hw _
   have hne:=o4.ne gd4
   have old:∀{z:Nat} {l:List (V × V)},h'.get z=some (.map l)→(h4.set (h.next+2) (.cells .rw [.int .i64 a.mins,.int .i64 a.evs,.sl b2 o2 a.cks.length cc2,.sl b o a.rds.length cc,G,f,.sl (h'.add (.cells .rw [V.map (h1.next+1)])).next 0 ((ms.map fun b=>[V.map b]).length+1) (.slk 0 0)])).get z=some (.map l):=fun{z l} hb=>by
    have hb4:=kp.2 _ _ (sY.get hb) (nmap hb)
    have:z≠h.next+2:=fun e=>by rw[e,gd4] at hb4;cases hb4
    rw[get_set_other this];exact hb4
   rw[H.next_add] at sF old o4 hne
   refine⟨_,_,_,ms++[h1.next+1],rfl,⟨sF,by rw[H.next_set];omega,by rw[get_set_other (by omega)];exact ga4,get_set_same rfl,o4.keep (Keeps.set _ _ _) sF (fun b hb e=>hne (e▸hb)),by simp[k.len],fun j hj hji=>?_⟩,(by simp[ev_c,ev_put,e2]<;>rfl),(by simp[ev_c,ev_put,e5]<;>rfl),(by simp[ev_c,ev_put,e18]<;>rfl),(by simp[ev_c,ev_put,e19]<;>rfl),(by simp[ev_c,ev_put]<;>rfl)⟩
   rcases Nat.lt_or_ge j i with hj2|hj2
   ·obtain⟨bb,l0,e1',m1',mo1⟩:=k1.maps j hj hj2
    exact⟨bb,l0,by rw[List.getElem?_append_left (by rw[k.len];exact hj2)];exact e1',old m1',mo1⟩
   ·have:j=i:=by omega
    subst this
    refine⟨h1.next+1,l,by rw[List.getElem?_append_right (by rw[k.len];exact Nat.le_refl _),k.len];simp,old gm,?_⟩
    rw[hy]
    intro c' hc' s g h1' h2' h3' h4'
    rw[ek,Int.toNat_natCast,hck] at hc'
    cases hc'
    exact mo s g h1' h2' h3' h4' (.inl (by omega))
 ·rintro s ⟨tm,h1,W,ms,rfl,k,e2,e5,e18,e19,e20⟩
  simp -implicitDefEqProofs(maxSteps:=999999)(disch:=first|with_reducible rfl|omega|(simp only[nA,nS,nD]<;>omega)|fail)only[go_sem,e2,e5,e18,e19,e20,Int.lt_irrefl]
  exact q (h.next+2) W ms _ k.sub (by omega) ⟨k.gd,x.mono k.sub,k.w.sl (by rw[List.length_map,k.len];omega),k.len,fun i hi=>k.maps i hi hi⟩
end Go.Ab.Tryz
namespace Go.Ab
theorem clone_core {h:H}{x:V}{sz by_:Nat}{rows:List (List V)}{Q:V→H→Prop}(hw:h.wf)(hx:SlAt h x sz rows)(hl:rows.length*by_≤1000000000)(hl2:rows.length≤1000000000)(q:∀v h',OwnC h h' v sz rows→Q v h'):
  P2 (e_app' (h.add (.cells .rw [])) sz by_ (.sl h.next 0 0 (.fix 0)) x) Q:=by
 have s1:h.Sub (h.add (.cells .rw [])):=(H.Sub.refl hw).add _
 have hx1:=(hx.mono s1).elems
 rw[e_app_eq,hx1.1,hx1.2]
 simp only[ob_some]
 cases hn:rows.length with
 |zero=>
  have e:rows=[]:=List.length_eq_zero_iff.1 hn
  rw[e_app_fix0]
  have:Nat.ble 0 0=true:=rfl
  rw[this,og_true,P2_some]
  exact q _ _ (by rw[e];exact⟨s1,by simp,.inr (.inr ⟨h.next,0,[],rfl,Nat.le_refl _,by rw[H.next_add];omega,get_add_new rfl,by simp,Nat.le_refl _⟩)⟩)
 |succ k=>
  rw[e_app_full (by omega) (elems_0 _ _ _ _ _) (by rw[hn] at hl;simp only[Nat.zero_add];omega) (by omega),grown_eq,P2_some]
  exact q _ _ ⟨s1.add _,hx.1,.inr (.inl ⟨(h.add (.cells .rw [])).next,by rw[hn,Nat.zero_add],by rw[H.next_add];omega,by simp only[H.next_add];omega,by rw[get_add_new rfl];rfl⟩)⟩
theorem range_cut {k n:Nat}(h:k<n):∃r,List.range n=List.range k++k::r:=by
 refine⟨(List.range n).drop (k+1),?_⟩
 have h1:(List.range n).take k=List.range k:=by rw[List.take_range,Nat.min_eq_left (by omega)]
 have h2:=(List.take_append_drop k (List.range n)).symm
 rw[List.drop_eq_getElem_cons (by simpa using h),List.getElem_range,h1] at h2
 exact h2
end Go.Ab
namespace Go.Ab.Tryz
open Go.Proofs
abbrev Runs:=List (Int × Int)
def encX (x:Int × Int):List V:=[.int .i64 x.1,.int .i64 x.2]
theorem cloneRun_ev {h:H}{x:V}{rows:List (List V)}(hw:h.wf)(hx:SlAt h x 2 rows)(hl:rows.length≤1000000)(Q:V→H→Prop)(q:∀v h',OwnC h h' v 2 rows→Q v h'):Ev fnG fastA (.fn 175 [] []) [x] h Q:=by
 refine Ev_body (fd:=c175) rfl rfl rfl ?_
 rcases hx.2.2 with⟨rfl,e⟩|⟨b,o,c,cs,rfl,_⟩
 ·simp -implicitDefEqProofs(maxSteps:=999999)(disch:=first|with_reducible rfl|omega|(simp only[nA,nS,nD]<;>omega)|fail)only[c175,go_sem]
  exact q _ _ (by rw[e];exact(OwnSl.nil (H.Sub.refl hw) 2).c)
 ·simp -implicitDefEqProofs(maxSteps:=999999)(disch:=first|with_reducible rfl|omega|(simp only[nA,nS,nD]<;>omega)|fail)only[c175,go_sem]
  refine clone_core hw hx (by omega) (by omega) fun v h' ov=>?_
  simp -implicitDefEqProofs(maxSteps:=999999)(disch:=first|with_reducible rfl|omega|(simp only[nA,nS,nD]<;>omega)|fail)only[go_sem]
  exact q _ _ ov
def Ck.ns (c:Ck):Nat:=(c.sh-c.sl+1).toNat
def Ck.ng (c:Ck):Nat:=(c.gh-c.gl+1).toNat
def moreL (a:At)(cnt:Nat→Bool):Nat→Runs→List Int→List (Runs × List Int)
 |0,runs,L=>[(runs,L)]
 |n+1,runs,L=>match a.cks[runs.length]? with
  |none=>[]
  |some c=>(List.range c.ns).flatMap fun(u:Nat)=>(List.range c.ng).flatMap fun(v:Nat)=>
   if(readL a cnt runs.length (c.sl+u,c.gl+v) L).2=true then moreL a cnt n (runs++[(c.sl+u,c.gl+v)]) (readL a cnt runs.length (c.sl+u,c.gl+v) L).1 else[]
def casesL (a:At)(cnt:Nat→Bool):List (Runs × List Int):=if(clos (freeL a)).2=true then moreL a cnt a.cks.length [] (clos (freeL a)).1 else[]
def oneL (a:At)(cnt:Nat→Bool)(n:Nat)(runs:Runs)(L:List Int)(c:Ck)(u v:Nat):List (Runs × List Int):=
 if(readL a cnt runs.length (c.sl+u,c.gl+v) L).2=true then moreL a cnt n (runs++[(c.sl+u,c.gl+v)]) (readL a cnt runs.length (c.sl+u,c.gl+v) L).1 else[]
def preL (a:At)(cnt:Nat→Bool)(n:Nat)(runs:Runs)(L:List Int)(c:Ck)(u v:Nat):List (Runs × List Int):=
 (List.range u).flatMap (fun u=>(List.range c.ng).flatMap fun v=>oneL a cnt n runs L c u v)++(List.range v).flatMap fun v=>oneL a cnt n runs L c u v
theorem preL_step (a:At)(cnt:Nat→Bool)(n:Nat)(runs:Runs)(L:List Int)(c:Ck)(u v:Nat):preL a cnt n runs L c u (v+1)=preL a cnt n runs L c u v++oneL a cnt n runs L c u v:=by
 simp only[preL,List.range_succ,List.flatMap_append,List.append_assoc,List.flatMap_cons,List.flatMap_nil,List.append_nil]
theorem preL_row (a:At)(cnt:Nat→Bool)(n:Nat)(runs:Runs)(L:List Int)(c:Ck)(u:Nat):preL a cnt n runs L c (u+1) 0=preL a cnt n runs L c u c.ng:=by
 simp only[preL,List.range_succ,List.flatMap_append,List.flatMap_cons,List.flatMap_nil,List.append_nil,List.range_zero]
theorem moreL_pre {a:At}{cnt:Nat→Bool}{n:Nat}{runs:Runs}{L:List Int}{c:Ck}(hc:a.cks[runs.length]? =some c):moreL a cnt (n+1) runs L=preL a cnt n runs L c c.ns 0:=by
 simp only[moreL,hc,preL,oneL,List.range_zero,List.flatMap_nil,List.append_nil]
theorem preL_in (a:At)(cnt:Nat→Bool)(n:Nat)(runs:Runs)(L:List Int)(c:Ck){u v:Nat}(hu:u<c.ns)(hv:v<c.ng):∃r,preL a cnt n runs L c c.ns 0=preL a cnt n runs L c u v++(oneL a cnt n runs L c u v++r):=by
 obtain⟨r1,e1⟩:=range_cut hu
 obtain⟨r2,e2⟩:=range_cut hv
 refine⟨(r2.flatMap fun v=>oneL a cnt n runs L c u v)++r1.flatMap (fun u=>(List.range c.ng).flatMap fun v=>oneL a cnt n runs L c u v),?_⟩
 have e3:(List.range c.ng).flatMap (fun v=>oneL a cnt n runs L c u v)=(List.range v).flatMap (fun v=>oneL a cnt n runs L c u v)++(oneL a cnt n runs L c u v++r2.flatMap fun v=>oneL a cnt n runs L c u v):=by
  rw[e2,List.flatMap_append,List.flatMap_cons]
 unfold preL
 rw[e1,List.flatMap_append,List.flatMap_cons,e3]
 simp only[List.range_zero,List.flatMap_nil,List.append_nil,List.append_assoc]
end Go.Ab.Tryz
namespace Go.Ab
theorem over_iv {L:List Int}(hL:L.length=25):over (L.map iv) [V.int .i64 0,.int .i64 0,.int .i64 0,.int .i64 0,.int .i64 0,.int .i64 0,.int .i64 0,.int .i64 0,.int .i64 0,.int .i64 0,.int .i64 0,.int .i64 0,.int .i64 0,.int .i64 0,.int .i64 0,.int .i64 0,.int .i64 0,.int .i64 0,.int .i64 0,.int .i64 0,.int .i64 0,.int .i64 0,.int .i64 0,.int .i64 0,.int .i64 0]=some (L.map iv):=by
 refine over_eq.2 ⟨?_,by rw[List.length_map,hL];exact Nat.le_refl _⟩
 rw[List.drop_eq_nil_of_le (by rw[List.length_map,hL];exact Nat.le_refl _),List.append_nil]
end Go.Ab
namespace Go.Ab.Tryz
open Go.Proofs
abbrev fdV (R:V) (L:List Int):V:=.agg (R::L.map iv)
def Frm (K:H→Nat→Prop)(x z:H):Prop:=Keeps (K x) x z∧∀b,K z b→K x b∨x.next≤b
theorem Frm.trans {K:H→Nat→Prop}{x z w:H}(hx:x.wf)(a:Frm K x z)(b:Frm K z w):Frm K x w:=
 ⟨⟨Nat.le_trans a.1.1 b.1.1,fun c y e n=>b.1.2 c y (a.1.2 c y e n) fun k=>(a.2 c k).elim n fun l=>absurd (hx c y e) (by omega)⟩,fun c k=>(b.2 c k).elim (a.2 c) fun l=>.inr (Nat.le_trans a.1.1 l)⟩
structure Taker (h0:H)(y:V)(all:List (Runs × List Int))(J:Nat→H→Prop)(S:H→Prop)(K:H→Nat→Prop)(n0:Nat):Prop where
 base:∀p x,J p x→h0.Sub x∧n0≤x.next
 more:∀p x x',J p x→x.Sub x'→J p x'
 kn:∀p x b,J p x→K x b→b<x.next
 km:∀p x x',J p x→x.Sub x'→∀b,K x' b→K x b
 step:∀p t,all[p]? =some t→∀x0 x R,J p x0→OwnC x0 x R 2 (t.1.map encX)→Ev fnG fastA y [fdV R t.2] x fun u z=>((u=.bool true∧J (p+1) z)∨(u=.bool false∧S z))∧Frm K x z
theorem Taker.sub {h0:H}{y:V}{all:List (Runs × List Int)}{J:Nat→H→Prop}{S:H→Prop}{K:H→Nat→Prop}{n0:Nat}(tk:Taker h0 y all J S K n0){p:Nat}{x x':H}(hJ:J p x)(s:x.Sub x'):Frm K x x':=⟨Keeps.of s _,fun b hb=>.inl (tk.km _ _ _ hJ s b hb)⟩
theorem drop_at {α:Type}{l m r:List α}{p:Nat}(h:l.drop p=m++r){i:Nat}(hi:i<m.length):l[p+i]? =m[i]? :=by
 have:(l.drop p)[i]? =m[i]? :=by rw[h,List.getElem?_append_left hi]
 rwa[List.getElem?_drop] at this
theorem drop_add {α:Type}{l m r:List α}{p:Nat}(h:l.drop p=m++r):l.drop (p+m.length)=r:=by
 rw[←List.drop_drop,h,List.drop_left]
theorem readL_len {a:At}(r:Right a){cnt:Nat→Bool}{k:Int}{x:Int × Int}{L:List Int}(hL:In5 240 L):(readL a cnt k x L).1.length=25:=by
 have h:=readsL_in (cnt:=cnt) (k:=k) (x:=x) (i:=0) r (fun y (hy:y∈a.rds)=>hy) hL
 unfold readL
 split
 ·rw[clos_len];exact h.len
 ·exact h.len
theorem readL_in {a:At}(r:Right a){cnt:Nat→Bool}{k:Int}{x:Int × Int}{L:List Int}(hL:In5 240 L)(ht:(readL a cnt k x L).2=true):In5 240 (readL a cnt k x L).1:=by
 have h:=readsL_in (cnt:=cnt) (k:=k) (x:=x) (i:=0) r (fun y (hy:y∈a.rds)=>hy) hL
 unfold readL at ht⊢
 split
 ·rename_i h1
  rw[if_pos h1] at ht
  exact((clos_spec (by decide) (by decide) h).1 ht).2.1
 ·rename_i h1
  rw[if_neg h1] at ht;cases ht
structure ZI (b1 b2 b3 d:Nat)(y RR:V)(more:V)(rows:List (List V))(K:H→Nat→Prop)(J:Nat→H→Prop)(L:List Int)(c:Ck)(x:H)(p:Nat)(z:H):Prop where
 j:J p z
 k:Frm K x z
 m:∀b,b=b1∨b=b2∨b=b3∨b=x.next∨b=x.next+1∨blkOf RR b→¬K z b∧b<z.next
 g1:z.get b1=some (.cells .rw [.ptr d 0])
 g2:z.get b2=some (.cells .rw [y])
 g3:z.get b3=some (.cells .rw [more])
 gf:z.get x.next=some (.cells .rw (L.map iv))
 gc:z.get (x.next+1)=some (.cells .rw [.int .i64 c.sl,.int .i64 c.sh,.int .i64 c.gl,.int .i64 c.gh])
 r:SlAt z RR 2 rows
 nx:x.next+1<z.next
set_option maxHeartbeats 16000000 in
theorem more_gen {h0:H}(hw0:h0.wf){d:Nat}{a:At}{C R G f W:V}{ms:List Nat}(dk:Dk h0 d a C R G f W ms)(r:Right a){cnt:Nat→Bool}(hcnt:∀i,i<a.rds.length→PureA h0 f [.int .i64 (i:Int)] (.bool (cnt i)))
  {y:V} (hy:∃l,y=.yld l) {all:List (Runs × List Int)} {J:Nat→H→Prop} {S:H→Prop} {K:H→Nat→Prop} {n0:Nat} (tk:Taker h0 y all J S K n0) {b1 b2 b3:Nat}:
  ∀(n:Nat) (runs:Runs) (L:List Int) (p:Nat) (post:List (Runs × List Int)) (x:H) (RR:V),runs.length+n=a.cks.length→In5 240 L→J p x→x.get b1=some (.cells .rw [.ptr d 0])→x.get b2=some (.cells .rw [y])→x.get b3=some (.cells .rw [.fn 174 [] [.ptr b1 0,.ptr b2 0,.ptr b3 0]])→
   SlAt x RR 2 (runs.map encX)→(∀b,b=b1∨b=b2∨b=b3∨blkOf RR b→¬K x b∧b<x.next)→all.drop p=moreL a cnt n runs L++post→
   Ev fnG fastA (.fn 174 [] [.ptr b1 0,.ptr b2 0,.ptr b3 0]) [RR,.agg (L.map iv)] x fun u z=>((u=.bool true∧J (p+(moreL a cnt n runs L).length) z)∨(u=.bool false∧S z))∧Frm K x z:=by
 intro n
 induction n with
 |zero=>
  intro runs L p post x RR hn hL hJ g1 g2 g3 hR hRK hall
  refine Ev.gen fun Q q=>?_
  obtain⟨s0,n0x⟩:=tk.base _ _ hJ
  have dx:=dk.mono s0
  have lL:=hL.len
  have hlR:=hR.lenE
  have hlC:=dx.x.c.lenE
  have hwx:=s0.wf
  have hlen:((runs.length:Int)=(a.cks.length:Int)):=by omega
  have sA:=(H.Sub.refl hwx).add (.cells .rw (L.map iv))
  have gA:(x.add (.cells .rw (L.map iv))).get x.next=some (.cells .rw (L.map iv)):=get_add_new rfl
  obtain⟨xA,hxA⟩:∃xA,x.add (.cells .rw (L.map iv))=xA:=⟨_,rfl⟩
  have nA:=H.next_add x (.cells .rw (L.map iv))
  rw[hxA] at sA gA nA
  have lb1:=hwx _ _ g1
  have lb2:=hwx _ _ g2
  have ld:=hwx _ _ dx.dk
  refine Ev_body (fd:=c174) rfl rfl rfl ?_
  simp -implicitDefEqProofs(maxSteps:=999999)(disch:=first|with_reducible rfl|omega|(simp only[nA,nS,nD]<;>omega)|fail)only[c174,go_sem,hxA,hlR,hlC,cells_of (sA.get g1),cells_of (sA.get dx.dk),hlen,cells_of (sA.get g2)]
  refine cloneRun_ev sA.wf (hR.mono sA) (by have:=r.lens;rw[List.length_map];omega) _ fun v x2 ov=>?_
  have s2:=ov.1
  have gN:getN 0 25 (L.map iv)=some (L.map iv):=by rw[←lL];exact getN_iv _
  have lnL:lenN (L.map iv)=25:=by rw[lenN_iv,lL]
  have vone:=ov.one
  have sx2:=sA.trans s2
  have hov:=over_iv lL
  have gA2:=s2.get gA
  have lA:=hwx
  obtain⟨l,rfl⟩:=hy
  simp -implicitDefEqProofs(maxSteps:=999999)(disch:=first|with_reducible rfl|omega|(simp only[nA,nS,nD]<;>omega)|fail)only[go_sem,cells_of gA2,gN,lnL,hov,cells_of (sx2.get g2),vone,cells_one vone]
  refine(tk.step p (runs,L) ?_ xA x2 v (tk.more _ _ _ hJ sA) ov).mono fun u z hz=>?_
  ·have h1:=drop_at hall (i:=0) (by simp[moreL])
   simpa[moreL] using h1
  ·obtain⟨hz,hk⟩:=hz
   have e2:=hk.1.cells (cells_of (sx2.get g2)) (fun hb=>(hRK _ (.inr (.inl rfl))).1 (tk.km _ _ _ hJ sx2 _ hb))
   have eA:=hk.1.cells (cells_of gA2) (fun hb=>by have:=tk.kn _ _ _ hJ (tk.km _ _ _ hJ sx2 _ hb);omega)
   have hkx:Frm K x z:=(tk.sub hJ sx2).trans hwx hk
   rcases hz with⟨rfl,hz⟩|⟨rfl,hz⟩
   ·simp -implicitDefEqProofs(maxSteps:=999999)(disch:=first|with_reducible rfl|omega|(simp only[nA,nS,nD]<;>omega)|fail)only[go_sem,cells_of gA,cells_of gA2,cells_of (sA.get g2),cells_of (sx2.get g2),gN,eA,e2]
    exact q _ _ ⟨.inl ⟨rfl,by simpa[moreL] using hz⟩,hkx⟩
   ·simp -implicitDefEqProofs(maxSteps:=999999)(disch:=first|with_reducible rfl|omega|(simp only[nA,nS,nD]<;>omega)|fail)only[go_sem,cells_of gA,cells_of gA2,cells_of (sA.get g2),cells_of (sx2.get g2),gN,eA,e2]
    exact q _ _ ⟨.inr ⟨rfl,hz⟩,hkx⟩
 |succ n ih=>
  intro runs L p post x RR hn hL hJ g1 g2 g3 hR hRK hall
  refine Ev.gen fun Q q=>?_
  obtain⟨s0,n0x⟩:=tk.base _ _ hJ
  have dx:=dk.mono s0
  have lL:=hL.len
  have hlR:=hR.lenE
  have hlC:=dx.x.c.lenE
  have hwx:=s0.wf
  have rl:=r.lens
  have hlen:¬((runs.length:Int)=(a.cks.length:Int)):=by omega
  have hlt:runs.length<a.cks.length:=by omega
  obtain⟨bC,oC,cC,csC,eC,hcC,hqC,hgC,_,_⟩:=dx.x.c.at hlt
  obtain⟨c,hcy⟩:∃c,a.cks[runs.length]=c:=⟨_,rfl⟩
  have hck:a.cks[runs.length]? =some c:=by rw[List.getElem?_eq_getElem hlt,hcy]
  have hcm:c∈a.cks:=List.mem_of_getElem? hck
  have hcb:=r.cb c hcm
  have hco:=r.co c hcm
  simp only[Ck.bd,within,Bool.and_eq_true,inB_iff] at hcb
  simp only[Ck.ord,Bool.and_eq_true,decide_eq_true_eq] at hco
  rw[hcy] at hgC
  simp only[encC] at hgC
  rw[moreL_pre hck] at hall q
  have lb1:=hwx _ _ g1
  have lb2:=hwx _ _ g2
  have lb3:=hwx _ _ g3
  have ld:=hwx _ _ dx.dk
  have lbC:bC<x.next:=(H.cells_eq hcC).elim fun kd e=>hwx _ _ e
  obtain⟨xA,hxA⟩:∃xA,(x.add (.cells .rw (L.map iv))).add (.cells .rw [.int .i64 c.sl,.int .i64 c.sh,.int .i64 c.gl,.int .i64 c.gh])=xA:=⟨_,rfl⟩
  have sA:x.Sub xA:=by rw[←hxA];exact(by repeat(first|assumption|exact H.Sub.refl (by assumption)|refine H.Sub.add ?_ _|refine H.Sub.set ?_ (by first|omega|(simp only[H.next_add,H.next_set,H.next_del]<;>omega)) (by first|omega|(simp only[H.next_add,H.next_set,H.next_del]<;>omega)) (by assumption) _))
  have nxA:xA.next=x.next+2:=by rw[←hxA];simp only[H.next_add]
  have gf:xA.get x.next=some (.cells .rw (L.map iv)):=by rw[←hxA];simp -implicitDefEqProofs(maxSteps:=999999)(disch:=first|with_reducible rfl|omega|(simp only[nA,nS,nD]<;>omega)|fail)only[go_sem]
  have gc:xA.get (x.next+1)=some (.cells .rw [.int .i64 c.sl,.int .i64 c.sh,.int .i64 c.gl,.int .i64 c.gh]):=by rw[←hxA];simp -implicitDefEqProofs(maxSteps:=999999)(disch:=first|with_reducible rfl|omega|(simp only[nA,nS,nD]<;>omega)|fail)only[go_sem]
  have gN:getN 0 25 (L.map iv)=some (L.map iv):=by rw[←lL];exact getN_iv _
  have hn1:(c.ns:Int)=c.sh-c.sl+1:=by unfold Ck.ns;omega
  have hn2:(c.ng:Int)=c.gh-c.gl+1:=by unfold Ck.ng;omega
  subst eC
  refine Ev_body (fd:=c174) rfl rfl rfl ?_
  simp -implicitDefEqProofs(maxSteps:=999999)(disch:=first|with_reducible rfl|omega|(simp only[nA,nS,nD]<;>omega)|fail)only[c174,go_sem,hlR,hlC,cells_of g1,cells_of dx.dk,hlen,hqC (nat_cst runs.length),hcC,hgC]
  rw[hxA]
  skip
  obtain⟨Z,hZ,lZ⟩:∃Z:List Int,Z.map iv=[V.int .i64 0,.int .i64 0,.int .i64 0,.int .i64 0,.int .i64 0,.int .i64 0,.int .i64 0,.int .i64 0,.int .i64 0,.int .i64 0,.int .i64 0,.int .i64 0,.int .i64 0,.int .i64 0,.int .i64 0,.int .i64 0,.int .i64 0,.int .i64 0,.int .i64 0,.int .i64 0,.int .i64 0,.int .i64 0,.int .i64 0,.int .i64 0,.int .i64 0]∧Z.length=25:=⟨List.replicate 25 0,rfl,rfl⟩
  rw[←hZ]
  obtain⟨M,hM⟩:∃M:V,V.fn 174 [] [.ptr b1 0,.ptr b2 0,.ptr b3 0]=M:=⟨_,rfl⟩
  have z0:ZI b1 b2 b3 d y RR M (runs.map encX) K J L c x (p+(preL a cnt n runs L c 0 0).length) xA:=
   ⟨by simpa[preL] using tk.more _ _ _ hJ sA,tk.sub hJ sA,fun b hb=>by
    have hk:K xA b→K x b∧b<x.next:=fun hk=>⟨tk.km _ _ _ hJ sA _ hk,tk.kn _ _ _ hJ (tk.km _ _ _ hJ sA _ hk)⟩
    rcases hb with hb|hb|hb|hb|hb|hb
    ·exact⟨fun q=>(hRK b (.inl hb)).1 (hk q).1,by omega⟩
    ·exact⟨fun q=>(hRK b (.inr (.inl hb))).1 (hk q).1,by omega⟩
    ·exact⟨fun q=>(hRK b (.inr (.inr (.inl hb)))).1 (hk q).1,by omega⟩
    ·exact⟨fun q=>by have:=(hk q).2;omega,by omega⟩
    ·exact⟨fun q=>by have:=(hk q).2;omega,by omega⟩
    ·have:=hRK b (.inr (.inr (.inr hb)))
     exact⟨fun q=>this.1 (hk q).1,by omega⟩,sA.get g1,sA.get g2,by rw[←hM];exact sA.get g3,gf,gc,hR.mono sA,by omega⟩
  refine W_count c.ns (fun u s=>∃tm z,s=⟨tm,z,[]⟩∧ZI b1 b2 b3 d y RR M (runs.map encX) K J L c x (p+(preL a cnt n runs L c u 0).length) z∧
   (Opd.t 0).ev tm=RR∧(Opd.t 2).ev tm=.ptr b1 0∧(Opd.t 4).ev tm=.ptr b3 0∧(Opd.t 6).ev tm=.ptr x.next 0∧(Opd.t 8).ev tm=.ptr (x.next+1) 0∧(Opd.t 9).ev tm=.int .i64 (c.sl+u)) ?_ ?_ (i:=0) (Nat.zero_le _)
   ⟨_,_,rfl,z0,(by simp[ev_c,ev_put]<;>rfl),(by simp[ev_c,ev_put]<;>rfl),(by simp[ev_c,ev_put]<;>rfl),(by simp[ev_c,ev_put]<;>rfl),(by simp[ev_c,ev_put]<;>rfl),(by rw[show c.sl+((0:Nat):Int)=c.sl by simp];exact(by simp[ev_c,ev_put]<;>rfl))⟩
  ·rintro u s hu ⟨tm,z,rfl,zi,e0,e2,e4,e6,e8,e9⟩
   have hu':c.sl+(u:Int)≤c.sh:=by omega
   simp -implicitDefEqProofs(maxSteps:=999999)(disch:=first|with_reducible rfl|omega|(simp only[nA,nS,nD]<;>omega)|fail)only[go_sem,e0,e2,e4,e6,e8,e9,cells_of zi.gc,hu']
   refine W_count c.ng (fun v s=>∃tm z,s=⟨tm,z,[]⟩∧ZI b1 b2 b3 d y RR M (runs.map encX) K J L c x (p+(preL a cnt n runs L c u v).length) z∧
    (Opd.t 0).ev tm=RR∧(Opd.t 2).ev tm=.ptr b1 0∧(Opd.t 4).ev tm=.ptr b3 0∧(Opd.t 6).ev tm=.ptr x.next 0∧(Opd.t 8).ev tm=.ptr (x.next+1) 0∧(Opd.t 9).ev tm=.int .i64 (c.sl+u)∧(Opd.t 10).ev tm=.int .i64 (c.gl+v)) ?_ ?_ (i:=0) (Nat.zero_le _)
    ⟨_,_,rfl,zi,(by simp[ev_c,ev_put,e0]<;>rfl),(by simp[ev_c,ev_put,e2]<;>rfl),(by simp[ev_c,ev_put,e4]<;>rfl),(by simp[ev_c,ev_put,e6]<;>rfl),(by simp[ev_c,ev_put,e8]<;>rfl),(by simp[ev_c,ev_put,e9]<;>rfl),(by rw[show c.gl+((0:Nat):Int)=c.gl by simp];exact(by simp[ev_c,ev_put]<;>rfl))⟩
   ·rintro v s hv ⟨tm,z,rfl,zi,e0,e2,e4,e6,e8,e9,e10⟩
    have hv':c.gl+(v:Int)≤c.gh:=by omega
    obtain⟨sz0,nz0⟩:=tk.base _ _ zi.j
    have hwz:=sz0.wf
    have nz:=zi.nx
    have hRz:=zi.r.lenE
    have w1:wr .i64 (c.gl+(v:Int)+1)=c.gl+((v+1:Nat):Int):=by rw[wr_in (by omega) (by omega)];omega
    obtain⟨rest,hrest⟩:=preL_in a cnt n runs L c hu hv
    have hdrop:all.drop (p+(preL a cnt n runs L c u v).length)=oneL a cnt n runs L c u v++(rest++post):=by
     have h1:all.drop p=preL a cnt n runs L c u v++(oneL a cnt n runs L c u v++(rest++post)):=by rw[hall,hrest];simp only[List.append_assoc]
     exact drop_add h1
    have hstep:p+(preL a cnt n runs L c u (v+1)).length=p+(preL a cnt n runs L c u v).length+(oneL a cnt n runs L c u v).length:=by rw[preL_step,List.length_append,Nat.add_assoc]
    have hrun:RunOf a runs.length (c.sl+(u:Int),c.gl+(v:Int)):=RunOf.mk' hck (by omega) hu' (by omega) hv'
    obtain⟨S1,hS1⟩:∃S1,c.sl+(u:Int)=S1:=⟨_,rfl⟩
    obtain⟨T1,hT1⟩:∃T1,c.gl+(v:Int)=T1:=⟨_,rfl⟩
    rw[hS1] at e9 hrun
    rw[hT1] at e10 hv' hrun w1
    have sz1:=(H.Sub.refl hwz).add (.cells .rw [.int .i64 S1,.int .i64 T1])
    have gz1:(z.add (.cells .rw [.int .i64 S1,.int .i64 T1])).get z.next=some (.cells .rw [.int .i64 S1,.int .i64 T1]):=get_add_new rfl
    have nz1:=H.next_add z (.cells .rw [.int .i64 S1,.int .i64 T1])
    obtain⟨z1,hz1⟩:∃z1,z.add (.cells .rw [.int .i64 S1,.int .i64 T1])=z1:=⟨_,rfl⟩
    rw[hz1] at sz1 gz1 nz1
    have dz1:=dk.mono (sz0.trans sz1)
    simp -implicitDefEqProofs(maxSteps:=999999)(disch:=first|with_reducible rfl|omega|(simp only[nA,nS,nD]<;>omega)|fail)only[go_sem,e0,e2,e4,e6,e8,e9,e10,cells_of zi.gc,hv',hz1,cells_of (sz1.get zi.g1),cells_of (sz1.get zi.gf),gN,hRz,cells_of gz1]
    refine read_ev (x:=(S1,T1)) sz1.wf dz1 r (fun i hi=>(hcnt i hi).mono (sz0.trans sz1)) hL hrun _ fun z2 s2=>?_
    obtain⟨ok,hok⟩:∃ok,(readL a cnt runs.length (S1,T1) L).2=ok:=⟨_,rfl⟩
    obtain⟨L2,hL2⟩:∃L2,(readL a cnt runs.length (S1,T1) L).1=L2:=⟨_,rfl⟩
    have lL2:L2.length=25:=by rw[←hL2];exact readL_len r hL
    have hone:oneL a cnt n runs L c u v=if ok=true then moreL a cnt n (runs++[(S1,T1)]) L2 else[]:=by unfold oneL;rw[hS1,hT1,hok,hL2]
    rw[hok,hL2]
    have gN2:getN 0 25 (L2.map iv)=some (L2.map iv):=by rw[←lL2];exact getN_iv _
    have lnL2:lenN (L2.map iv)=25:=by rw[lenN_iv,lL2]
    have pL2:(z2.add (.cells .rw (Z.map iv))).put z2.next 0 (L2.map iv)=some ((z2.add (.cells .rw (Z.map iv))).set z2.next (.cells .rw (L2.map iv))):=put_ints (L:=Z) (get_add_new rfl) (by omega) (fun e=>by rw[e] at lL2;cases lL2)
    have s3:=(H.Sub.refl s2.wf).add (.cells .rw (L2.map iv))
    have g3:(z2.add (.cells .rw (L2.map iv))).get z2.next=some (.cells .rw (L2.map iv)):=get_add_new rfl
    have n3:=H.next_add z2 (.cells .rw (L2.map iv))
    obtain⟨z3,hz3⟩:∃z3,z2.add (.cells .rw (L2.map iv))=z3:=⟨_,rfl⟩
    rw[hz3] at s3 g3 n3
    have sz3:=(sz1.trans s2).trans s3
    have l2:=s2.next
    have zi3:∀q,J q z3→ZI b1 b2 b3 d y RR M (runs.map encX) K J L c x q z3:=fun q hq=>
     ⟨hq,zi.k.trans hwx (tk.sub zi.j sz3),fun b hb=>⟨fun q=>(zi.m b hb).1 (tk.km _ _ _ zi.j sz3 _ q),by have:=(zi.m b hb).2;have:=sz3.next;omega⟩,sz3.get zi.g1,sz3.get zi.g2,sz3.get zi.g3,sz3.get zi.gf,sz3.get zi.gc,zi.r.mono sz3,by have:=sz3.next;omega⟩
    cases ok with
    |false=>
     rw[if_neg (by simp)] at hone
     simp -implicitDefEqProofs(maxSteps:=999999)(disch:=first|with_reducible rfl|omega|(simp only[nA,nS,nD]<;>omega)|fail)only[go_sem,e0,e2,e4,e6,e8,e9,e10,lnL2,pL2,hz3,w1,Bool.false_eq_true]
     refine⟨_,_,rfl,?_,(by simp[ev_c,ev_put,e0]<;>rfl),(by simp[ev_c,ev_put,e2]<;>rfl),(by simp[ev_c,ev_put,e4]<;>rfl),(by simp[ev_c,ev_put,e6]<;>rfl),(by simp[ev_c,ev_put,e8]<;>rfl),by rw[hS1];exact(by simp[ev_c,ev_put,e9]<;>rfl),(by simp[ev_c,ev_put]<;>rfl)⟩
     rw[hstep,hone]
     exact zi3 _ (tk.more _ _ _ zi.j sz3)
    |true=>
     rw[if_pos rfl] at hone
     have hL2in:In5 240 L2:=by rw[←hL2];exact readL_in r hL hok
     simp -implicitDefEqProofs(maxSteps:=999999)(disch:=first|with_reducible rfl|omega|(simp only[nA,nS,nD]<;>omega)|fail)only[go_sem,e0,e2,e4,e6,e8,e9,e10,lnL2,pL2,hz3,cells_of (sz3.get zi.g3)]
     refine cloneRun_ev sz3.wf (zi.r.mono sz3) (by rw[List.length_map];omega) _ fun vv z4 ov=>?_
     have s4:=ov.1
     have s14:=(s2.trans s3).trans s4
     have l4:=s4.next
     have l3:=sz3.next
     have y5:SlAt (z4.add (.cells .rw [.int .i64 S1,.int .i64 T1])) (.sl z4.next 0 1 (.fix 1)) 2 [[V.int .i64 S1,.int .i64 T1]]:=SlAt.new _ rfl rfl rfl (by simp) (by simp)
     have s5:=(H.Sub.refl s4.wf).add (.cells .rw [.int .i64 S1,.int .i64 T1])
     simp -implicitDefEqProofs(maxSteps:=999999)(disch:=first|with_reducible rfl|omega|(simp only[nA,nS,nD]<;>omega)|fail)only[go_sem,e0,e2,e4,e6,e8,e9,e10,cells_of (s14.get gz1)]
     refine(ov.mono s5).app1 (by_:=16) sz3.wf (by simp) (by omega) y5 rfl (by rw[List.length_map];omega) (by rw[List.length_map];omega) fun R2 z6 o6 ob6 kp6=>?_
     have s6:=o6.1
     have s36:=s3.trans s6
     have s26:=s2.trans s36
     have sz6:=sz3.trans s6
     have l6:=s6.next
     have hmap:runs.map encX++[[V.int .i64 S1,.int .i64 T1]]=(runs++[(S1,T1)]).map encX:=by simp[encX]
     rw[hmap] at o6
     have o6b:∀b,blkOf R2 b→n0≤b:=fun b hb=>by
      have:=(o6.blk hb).1;omega
     have hnm:∀b,b=b1∨b=b2∨b=b3∨blkOf R2 b→¬K z6 b∧b<z6.next:=fun b hb=>by
      have hk:K z6 b→K z b∧b<z.next:=fun hk=>⟨tk.km _ _ _ zi.j sz6 _ hk,tk.kn _ _ _ zi.j (tk.km _ _ _ zi.j sz6 _ hk)⟩
      have l36:=sz3.next
      have l66:=sz6.next
      rcases hb with hb|hb|hb|hb
      ·have w:=zi.m b (.inl hb);exact⟨fun q=>w.1 (hk q).1,by omega⟩
      ·have w:=zi.m b (.inr (.inl hb));exact⟨fun q=>w.1 (hk q).1,by omega⟩
      ·have w:=zi.m b (.inr (.inr (.inl hb)));exact⟨fun q=>w.1 (hk q).1,by omega⟩
      ·have w:=o6.blk hb;exact⟨fun q=>by have:=(hk q).2;omega,w.2.1⟩
     have hrl:(runs++[(S1,T1)]).length+n=a.cks.length:=by rw[List.length_append,List.length_singleton];omega
     simp -implicitDefEqProofs(maxSteps:=999999)(disch:=first|with_reducible rfl|omega|(simp only[nA,nS,nD]<;>omega)|fail)only[go_sem,cells_of (s6.get g3),gN2]
     rw[←hM]
     refine(ih (runs++[(S1,T1)]) L2 (p+(preL a cnt n runs L c u v).length) (rest++post) z6 R2 hrl hL2in (tk.more _ _ _ zi.j sz6) (sz6.get zi.g1) (sz6.get zi.g2) (by rw[hM];exact sz6.get zi.g3) (o6.sl (by have:=r.lens;rw[List.length_map];omega)) hnm (by rw[hdrop,hone])).mono fun uu z7 hz=>?_
     obtain⟨hz,hk⟩:=hz
     have kz7:Frm K z z7:=(tk.sub zi.j sz6).trans hwz hk
     have a3:=cells_of (sz3.get zi.g3)
     have a4:=cells_of ((sz3.trans s4).get zi.g3)
     have a6:=cells_of (sz6.get zi.g3)
     have a7:=hk.1.cells a6 (fun q=>(zi.m b3 (.inr (.inr (.inl rfl)))).1 (tk.km _ _ _ zi.j sz6 _ q))
     have b3':=cells_of ((s2.trans s3).get gz1)
     have b4:=cells_of (s14.get gz1)
     have b6:=cells_of ((s26).get gz1)
     have c3:=cells_of g3
     have c4':=cells_of (s4.get g3)
     have c6:=cells_of (s6.get g3)
     have kn2:∀b,z.next≤b→¬K z6 b:=fun b hb hk=>by have:=tk.kn _ _ _ zi.j (tk.km _ _ _ zi.j sz6 _ hk);omega
     have c7:=hk.1.cells c6 (kn2 _ (by omega))
     have b7:=hk.1.cells b6 (kn2 _ (by omega))
     have a5:=cells_of (s5.get ((sz3.trans s4).get zi.g3))
     have b5:=cells_of (s5.get (s14.get gz1))
     have c5':=cells_of (s5.get (s4.get g3))
     rcases hz with⟨rfl,hz⟩|⟨rfl,hz⟩
     ·simp -implicitDefEqProofs(maxSteps:=999999)(disch:=first|with_reducible rfl|omega|(simp only[nA,nS,nD]<;>omega)|fail)only[go_sem,e0,e2,e4,e6,e8,e9,e10,a3,a4,a5,a6,a7,b3',b4,b5,b6,b7,c3,c4',c5',c6,c7,gN2,w1,hM]
      refine⟨_,_,rfl,?_,(by simp[ev_c,ev_put,e0]<;>rfl),(by simp[ev_c,ev_put,e2]<;>rfl),(by simp[ev_c,ev_put,e4]<;>rfl),(by simp[ev_c,ev_put,e6]<;>rfl),(by simp[ev_c,ev_put,e8]<;>rfl),by rw[hS1];exact(by simp[ev_c,ev_put,e9]<;>rfl),(by simp[ev_c,ev_put]<;>rfl)⟩
      rw[hstep,hone]
      refine⟨hz,zi.k.trans hwx kz7,fun b hb=>⟨fun q=>(kz7.2 b q).elim (zi.m b hb).1 fun l=>by have:=(zi.m b hb).2;omega,by have:=(zi.m b hb).2;have:=kz7.1.1;omega⟩,kz7.1.2 _ _ zi.g1 (zi.m _ (.inl rfl)).1,kz7.1.2 _ _ zi.g2 (zi.m _ (.inr (.inl rfl))).1,kz7.1.2 _ _ zi.g3 (zi.m _ (.inr (.inr (.inl rfl)))).1,kz7.1.2 _ _ zi.gf (zi.m _ (.inr (.inr (.inr (.inl rfl))))).1,kz7.1.2 _ _ zi.gc (zi.m _ (.inr (.inr (.inr (.inr (.inl rfl)))))).1,SlAt_keep zi.r kz7.1 (fun b hb=>(zi.m b (.inr (.inr (.inr (.inr (.inr hb)))))).1),by have:=kz7.1.1;omega⟩
     ·simp -implicitDefEqProofs(maxSteps:=999999)(disch:=first|with_reducible rfl|omega|(simp only[nA,nS,nD]<;>omega)|fail)only[go_sem,e0,e2,e4,e6,e8,e9,e10,a3,a4,a5,a6,a7,b3',b4,b5,b6,b7,c3,c4',c5',c6,c7,gN2,hM]
      exact q _ _ ⟨.inr ⟨rfl,hz⟩,zi.k.trans hwx kz7⟩
   ·rintro s ⟨tm,z,rfl,zi,e0,e2,e4,e6,e8,e9,e10⟩
    have hv':¬c.gl+(c.ng:Int)≤c.gh:=by omega
    have w1:wr .i64 (c.sl+(u:Int)+1)=c.sl+((u+1:Nat):Int):=by rw[wr_in (by omega) (by omega)];omega
    simp -implicitDefEqProofs(maxSteps:=999999)(disch:=first|with_reducible rfl|omega|(simp only[nA,nS,nD]<;>omega)|fail)only[go_sem,e0,e2,e4,e6,e8,e9,e10,cells_of zi.gc,hv',w1]
    exact⟨_,_,rfl,by rw[preL_row];exact zi,(by simp[ev_c,ev_put,e0]<;>rfl),(by simp[ev_c,ev_put,e2]<;>rfl),(by simp[ev_c,ev_put,e4]<;>rfl),(by simp[ev_c,ev_put,e6]<;>rfl),(by simp[ev_c,ev_put,e8]<;>rfl),(by simp[ev_c,ev_put]<;>rfl)⟩
  ·rintro s ⟨tm,z,rfl,zi,e0,e2,e4,e6,e8,e9⟩
   have hu':¬c.sl+(c.ns:Int)≤c.sh:=by omega
   simp -implicitDefEqProofs(maxSteps:=999999)(disch:=first|with_reducible rfl|omega|(simp only[nA,nS,nD]<;>omega)|fail)only[go_sem,e0,e2,e4,e6,e8,e9,cells_of zi.gc,hu']
   exact q _ _ ⟨.inl ⟨rfl,zi.j⟩,zi.k⟩
end Go.Ab.Tryz
namespace Go.Ab.Tryz
open Go.Proofs
theorem free_clos_in {a:At}(r:Right a)(ht:(clos (freeL a)).2=true):In5 240 (clos (freeL a)).1:=((clos_spec (by decide) (by decide) (freeL_in r)).1 ht).2.1
set_option maxHeartbeats 4000000 in
theorem cases_gen {h0:H}(hw0:h0.wf){d:Nat}{a:At}{C R G f W:V}{ms:List Nat}(dk:Dk h0 d a C R G f W ms)(r:Right a){cnt:Nat→Bool}(hcnt:∀i,i<a.rds.length→PureA h0 f [.int .i64 (i:Int)] (.bool (cnt i)))
  {y:V} (hy:∃l,y=.yld l) {J:Nat→H→Prop} {S:H→Prop} {K:H→Nat→Prop} {n0:Nat} (tk:Taker h0 y (casesL a cnt) J S K n0) {b1:Nat} {x:H} (k1:¬K x b1) (hJ:J 0 x) (g1:x.get b1=some (.cells .rw [.ptr d 0])):
  Ev fnG fastA (.fn 173 [] [.ptr b1 0]) [y] x fun u z=>J (casesL a cnt).length z∨S z:=by
 refine Ev.gen fun Q q=>?_
 obtain⟨s0,n0x⟩:=tk.base _ _ hJ
 have dx:=dk.mono s0
 have hwx:=s0.wf
 obtain⟨l,rfl⟩:=hy
 have lb1:=hwx _ _ g1
 obtain⟨xA,hxA⟩:∃xA,(x.add (.cells .rw [.yld l])).add (.cells .rw [.fn 174 [] [.ptr b1 0,.ptr x.next 0,.ptr (x.next+1) 0]])=xA:=⟨_,rfl⟩
 have sA:x.Sub xA:=by rw[←hxA];exact(by repeat(first|assumption|exact H.Sub.refl (by assumption)|refine H.Sub.add ?_ _|refine H.Sub.set ?_ (by first|omega|(simp only[H.next_add,H.next_set,H.next_del]<;>omega)) (by first|omega|(simp only[H.next_add,H.next_set,H.next_del]<;>omega)) (by assumption) _))
 have nxA:xA.next=x.next+2:=by rw[←hxA];simp only[H.next_add]
 have g2:xA.get x.next=some (.cells .rw [.yld l]):=by rw[←hxA];simp -implicitDefEqProofs(maxSteps:=999999)(disch:=first|with_reducible rfl|omega|(simp only[nA,nS,nD]<;>omega)|fail)only[go_sem]
 have g3:xA.get (x.next+1)=some (.cells .rw [.fn 174 [] [.ptr b1 0,.ptr x.next 0,.ptr (x.next+1) 0]]):=by rw[←hxA];simp -implicitDefEqProofs(maxSteps:=999999)(disch:=first|with_reducible rfl|omega|(simp only[nA,nS,nD]<;>omega)|fail)only[go_sem]
 obtain⟨Z,hZ,lZ⟩:∃Z:List Int,Z.map iv=[V.int .i64 0,.int .i64 0,.int .i64 0,.int .i64 0,.int .i64 0,.int .i64 0,.int .i64 0,.int .i64 0,.int .i64 0,.int .i64 0,.int .i64 0,.int .i64 0,.int .i64 0,.int .i64 0,.int .i64 0,.int .i64 0,.int .i64 0,.int .i64 0,.int .i64 0,.int .i64 0,.int .i64 0,.int .i64 0,.int .i64 0,.int .i64 0,.int .i64 0]∧Z.length=25:=⟨List.replicate 25 0,rfl,rfl⟩
 refine Ev_body (fd:=c173) rfl rfl rfl ?_
 simp -implicitDefEqProofs(maxSteps:=999999)(disch:=first|with_reducible rfl|omega|(simp only[nA,nS,nD]<;>omega)|fail)only[c173,go_sem,one_yld,cells_yld]
 rw[hxA,←hZ]
 simp -implicitDefEqProofs(maxSteps:=999999)(disch:=first|with_reducible rfl|omega|(simp only[nA,nS,nD]<;>omega)|fail)only[go_sem,cells_of g1,cells_of (sA.get g1)]
 refine free_ev sA.wf (dx.mono sA) r _ fun h2 s2=>?_
 simp -implicitDefEqProofs(maxSteps:=999999)(disch:=first|with_reducible rfl|omega|(simp only[nA,nS,nD]<;>omega)|fail)only[go_sem]
 refine closed_ev rfl rfl s2.wf (freeL_in r) _ fun h3 s3=>?_
 obtain⟨ok,hok⟩:∃ok,(clos (freeL a)).2=ok:=⟨_,rfl⟩
 obtain⟨L2,hL2⟩:∃L2,(clos (freeL a)).1=L2:=⟨_,rfl⟩
 have lL2:L2.length=25:=by rw[←hL2,clos_len];exact(freeL_in r).len
 rw[hok,hL2]
 have gN2:getN 0 25 (L2.map iv)=some (L2.map iv):=by rw[←lL2];exact getN_iv _
 have lnL2:lenN (L2.map iv)=25:=by rw[lenN_iv,lL2]
 have pL2:(h3.add (.cells .rw (Z.map iv))).put h3.next 0 (L2.map iv)=some ((h3.add (.cells .rw (Z.map iv))).set h3.next (.cells .rw (L2.map iv))):=put_ints (L:=Z) (get_add_new rfl) (by omega) (fun e=>by rw[e] at lL2;cases lL2)
 have s4:=(H.Sub.refl s3.wf).add (.cells .rw (L2.map iv))
 have g4:(h3.add (.cells .rw (L2.map iv))).get h3.next=some (.cells .rw (L2.map iv)):=get_add_new rfl
 obtain⟨h4,hh4⟩:∃h4,h3.add (.cells .rw (L2.map iv))=h4:=⟨_,rfl⟩
 rw[hh4] at s4 g4
 have s24:=(s2.trans s3).trans s4
 have sx4:=sA.trans s24
 cases ok with
 |false=>
  have e:casesL a cnt=[]:=by unfold casesL;rw[hok];simp
  simp -implicitDefEqProofs(maxSteps:=999999)(disch:=first|with_reducible rfl|omega|(simp only[nA,nS,nD]<;>omega)|fail)only[go_sem,lnL2,pL2,hh4,Bool.false_eq_true]
  refine q _ _ (.inl ?_)
  rw[e]
  exact tk.more _ _ _ hJ sx4
 |true=>
  have e:casesL a cnt=moreL a cnt a.cks.length [] L2:=by unfold casesL;rw[hok,hL2];simp
  have hL2in:In5 240 L2:=by rw[←hL2];exact free_clos_in r hok
  simp -implicitDefEqProofs(maxSteps:=999999)(disch:=first|with_reducible rfl|omega|(simp only[nA,nS,nD]<;>omega)|fail)only[go_sem,lnL2,pL2,hh4,cells_of (s24.get g3),cells_of g4,gN2]
  have hnm:∀b,b=b1∨b=x.next∨b=x.next+1∨blkOf .nils b→¬K h4 b∧b<h4.next:=fun b hb=>by
   have hk:K h4 b→K x b∧b<x.next:=fun hk=>⟨tk.km _ _ _ hJ sx4 _ hk,tk.kn _ _ _ hJ (tk.km _ _ _ hJ sx4 _ hk)⟩
   have l4:=s24.next
   rcases hb with hb|hb|hb|hb
   ·subst hb;exact⟨fun q=>k1 (hk q).1,by omega⟩
   ·exact⟨fun q=>by have:=(hk q).2;omega,by omega⟩
   ·exact⟨fun q=>by have:=(hk q).2;omega,by omega⟩
   ·exact(blkOf_nils hb).elim
  have hg:=more_gen hw0 dk r hcnt ⟨l,rfl⟩ tk (b1:=b1) (b2:=x.next) (b3:=x.next+1) a.cks.length [] L2 0 [] h4 .nils (by simp) hL2in (tk.more _ _ _ hJ sx4) (sx4.get g1) (s24.get g2) (s24.get g3) ⟨by simp,by simp,.inl ⟨rfl,rfl⟩⟩ hnm (by rw[e];simp)
  refine hg.mono fun u z hz=>?_
  obtain⟨hz,_⟩:=hz
  rcases hz with⟨rfl,hz⟩|⟨rfl,hz⟩
  ·simp -implicitDefEqProofs(maxSteps:=999999)(disch:=first|with_reducible rfl|omega|(simp only[nA,nS,nD]<;>omega)|fail)only[go_sem]
   refine q _ _ (.inl ?_)
   rw[e];simpa using hz
  ·simp -implicitDefEqProofs(maxSteps:=999999)(disch:=first|with_reducible rfl|omega|(simp only[nA,nS,nD]<;>omega)|fail)only[go_sem]
   exact q _ _ (.inr hz)
end Go.Ab.Tryz
namespace Go.Ab
theorem put_full {h:H}{b:Nat}{old vs:List V}(hb:h.get b=some (.cells .rw old))(hl:vs.length=old.length)(hn:vs≠[])(ho:allOne vs=true):h.put b 0 vs=some (h.set b (.cells .rw vs)):=by
 cases vs with
 |nil=>exact absurd rfl hn
 |cons a K=>
  have hp:putN 0 (a::K) old=some (a::K):=by
   refine(putN_eq (by simp)).2 ⟨?_,by omega⟩
   rw[List.drop_eq_nil_of_le (by omega),List.append_nil,List.take_zero,List.nil_append]
  exact H.put_rw ho hb hp
theorem over_all {vs z:List V}(hl:vs.length=z.length):over vs z=some vs:=by
 refine over_eq.2 ⟨?_,by omega⟩
 rw[List.drop_eq_nil_of_le (by omega),List.append_nil]
theorem flatMap_le {α β:Type}{f:α→List β}{k:Nat}:∀{l:List α},(∀x∈l,(f x).length≤k)→(l.flatMap f).length≤l.length*k
 |[],_=>by simp
 |a::l,h=>by
  have h1:=h a (List.mem_cons_self ..)
  have h2:=flatMap_le (l:=l) fun x hx=>h x (List.mem_cons_of_mem _ hx)
  rw[List.flatMap_cons,List.length_append,List.length_cons,Nat.succ_mul]
  omega
end Go.Ab
namespace Go.Ab.Tryz
open Go.Proofs
theorem moreL_len {a:At}(r:Right a)(cnt:Nat→Bool):∀(n:Nat) (runs:Runs) (L:List Int),(moreL a cnt n runs L).length≤25^n
 |0,_,_=>Nat.le_refl _
 |n+1,runs,L=>by
  unfold moreL
  cases hc:a.cks[runs.length]? with
  |none=>exact Nat.zero_le _
  |some c=>
   have hs:=r.cs c (List.mem_of_getElem? hc)
   simp only[Ck.sm,Bool.and_eq_true,decide_eq_true_eq] at hs
   have n1:c.ns≤5:=by unfold Ck.ns;omega
   have n2:c.ng≤5:=by unfold Ck.ng;omega
   have h2:∀u:Nat,((List.range c.ng).flatMap fun(v:Nat)=>if(readL a cnt runs.length (c.sl+u,c.gl+v) L).2=true then moreL a cnt n (runs++[(c.sl+u,c.gl+v)]) (readL a cnt runs.length (c.sl+u,c.gl+v) L).1 else[]).length≤5*25^n:=fun u=>by
    refine Nat.le_trans (flatMap_le (k:=25^n) fun v _=>?_) (Nat.mul_le_mul_right _ (by rw[List.length_range];exact n2))
    split
    ·exact moreL_len r cnt n _ _
    ·exact Nat.zero_le _
   refine Nat.le_trans (flatMap_le (k:=5*25^n) fun u _=>h2 u) ?_
   refine Nat.le_trans (Nat.mul_le_mul_right _ (by rw[List.length_range];exact n1)) ?_
   rw[Nat.pow_succ];omega
theorem casesL_len {a:At}(r:Right a)(cnt:Nat→Bool):(casesL a cnt).length≤15625:=by
 unfold casesL
 split
 ·exact Nat.le_trans (moreL_len r cnt _ _ _) (Nat.pow_le_pow_right (by decide) r.lens.1:25^a.cks.length≤25^3)
 ·exact Nat.zero_le _
abbrev Fd:=V × Runs × List Int
def rowF (p:Fd):List V:=p.1::p.2.2.map iv
structure FsO (h0 h:H)(y:V)(Ps:List Fd):Prop where
 o:OwnC h0 h y 26 (Ps.map rowF)
 e:∀p∈Ps,OwnC h0 h p.1 2 (p.2.1.map encX)
 l:∀p∈Ps,p.2.2.length=25
theorem moreL_in {a:At}(r:Right a){cnt:Nat→Bool}:∀{n:Nat} {runs:Runs} {L:List Int},In5 240 L→∀t∈moreL a cnt n runs L,In5 240 t.2
 |0,runs,L,h,t,ht=>by rw[moreL,List.mem_singleton] at ht;rw[ht];exact h
 |n+1,runs,L,h,t,ht=>by
  unfold moreL at ht
  cases hc:a.cks[runs.length]? with
  |none=>rw[hc] at ht;cases ht
  |some c=>
   rw[hc] at ht
   simp only[List.mem_flatMap] at ht
   obtain⟨u,_,v,_,ht⟩:=ht
   split at ht
   ·rename_i hk;exact moreL_in r (readL_in r h hk) t ht
   ·cases ht
theorem casesL_in {a:At}(r:Right a){cnt:Nat→Bool}:∀t∈casesL a cnt,In5 240 t.2:=fun t ht=>by
 unfold casesL at ht
 split at ht
 ·rename_i h;exact moreL_in r (free_clos_in r h) t ht
 ·cases ht
structure CI (h:H)(r0:LoopR)(l c e:Nat)(all:List (Runs × List Int))(n:Nat)(x:H)(y:V)(Ps:List Fd):Prop where
 f:FsO h x y Ps
 ps:Ps.map Prod.snd=all.take n
 dj:∀p∈Ps,∀b,blkOf p.1 b→¬blkOf y b∧l<b
 yb:∀b,blkOf y b→l<b
 gl:x.get l=some (.loop r0)
 gd:x.get e=some .dfr
 gc:x.get c=some (.cells .rw [y])
theorem CI.mono {h:H}{r0:LoopR}{l c e:Nat}{all:List (Runs × List Int)}{n:Nat}{x x':H}{y:V}{Ps:List Fd}(k:CI h r0 l c e all n x y Ps)(s:x.Sub x'):CI h r0 l c e all n x' y Ps:=
 ⟨⟨k.f.o.mono s,fun p hp=>(k.f.e p hp).mono s,k.f.l⟩,k.ps,k.dj,k.yb,s.get k.gl,s.get k.gd,s.get k.gc⟩
def CK (l c:Nat)(x:H)(b:Nat):Prop:=b=l∨b=c∨∃y,x.get c=some (.cells .rw [y])∧blkOf y b
theorem CI.frm {h:H}(hw:h.wf){r0:LoopR}{l c e n:Nat}{all:List (Runs × List Int)}{x0 x z h5 h6:H}{y y' R:V}{Ps:List Fd}{t:Runs × List Int}(k:CI h r0 l c e all n x0 y Ps)(hR:OwnC x0 x R 2 (t.1.map encX))(lt:t.2.length=25)(ht:all[n]? =some t)
  (hc:h.next≤c) (hce:c<e) (hel:e<l) (s6:h.Sub h6) (sx6:Keeps (fun b=>b=l) x h6) (o5:OwnC h h5 y' 26 (Ps.map rowF++[rowF (R,t)])) (n5:∀b,blkOf y' b→blkOf y b∨h6.next≤b) (k5:Keeps (blkOf y) h6 h5)
  (hz:z=(h5.set c (.cells .rw [y'])).set l (.loop r0)):CI h r0 l c e all (n+1) z y' (Ps++[(R,t)])∧Frm (CK l c) x z:=by
 have sx:=hR.1
 have kx:=k.mono sx
 have wx:=sx.wf
 have ll:=k.f.o.1.wf _ _ k.gl
 have lx:=sx.next
 have l6:=sx6.1
 have l5:=k5.1
 have s5:=o5.1
 have lc5:c<h5.next:=by omega
 have sz:h.Sub z:=by
  rw[hz]
  exact(s5.set hc lc5 hw _).set (by omega) (by rw[H.next_set];omega) hw _
 have nz:z.next=h5.next:=by rw[hz];simp only[H.next_set]
 have kz:Keeps (fun b=>b=l∨b=c∨blkOf y b) x z:=by
  refine⟨by omega,fun b w g nb=>?_⟩
  rw[hz,get_set_other fun q=>nb (.inl q),get_set_other fun q=>nb (.inr (.inl q))]
  exact k5.2 _ _ (sx6.2 _ _ g fun q=>nb (.inl q)) fun q=>nb (.inr (.inr q))
 have k2:Keeps (fun b=>b=l∨b=c) h5 z:=by
  refine⟨by omega,fun b w g nb=>?_⟩
  rw[hz,get_set_other fun q=>nb (.inl q),get_set_other fun q=>nb (.inr q)];exact g
 have yl:∀b,blkOf y' b→l<b:=fun b hb=>(n5 b hb).elim (k.yb b) fun q=>by omega
 have gl:z.get l=some (.loop r0):=by rw[hz];exact get_set_same rfl
 have gc:z.get c=some (.cells .rw [y']):=by rw[hz,get_set_other (by omega)];exact get_set_same rfl
 refine⟨⟨⟨?_,fun p hp=>?_,fun p hp=>?_⟩,?_,fun p hp b hb=>?_,yl,gl,?_,gc⟩,⟨kz.1,fun b w g nb=>kz.2 b w g fun q=>nb (q.elim .inl fun q=>q.elim (fun q=>.inr (.inl q)) fun q=>.inr (.inr ⟨y,kx.gc,q⟩))⟩,fun b hb=>?_⟩
 ·rw[List.map_append]
  exact o5.keep k2 sz fun b hb q=>by have:=yl b hb;omega
 ·rcases List.mem_append.1 hp with hp|hp
  ·exact(kx.f.e p hp).keep kz sz fun b hb q=>by have:=k.dj p hp b hb;rcases q with q|q|q;omega;omega;exact this.1 q
  ·rw[List.mem_singleton] at hp;subst hp
   exact(hR.base k.f.o.1).keep kz sz fun b hb q=>by
    have:=(hR.blk hb).1
    rcases q with q|q|q;omega;omega;have:=(k.f.o.blk q).2.1;omega
 ·rcases List.mem_append.1 hp with hp|hp
  ·exact k.f.l p hp
  ·rw[List.mem_singleton] at hp;subst hp;exact lt
 ·rw[List.map_append,k.ps,List.take_add_one,ht];rfl
 ·rcases List.mem_append.1 hp with hp|hp
  ·have h1:=k.dj p hp b hb
   refine⟨fun q=>(n5 b q).elim h1.1 fun q=>?_,h1.2⟩
   have:=((k.f.e p hp).blk hb).2.1;omega
  ·rw[List.mem_singleton] at hp;subst hp
   have h1:=hR.blk hb
   refine⟨fun q=>(n5 b q).elim (fun q=>?_) fun q=>?_,by omega⟩
   ·have:=(k.f.o.blk q).2.1;omega
   ·have:=h1.2.1;omega
 ·exact kz.2 _ _ kx.gd fun q=>by rcases q with q|q|q;omega;omega;have:=k.yb _ q;omega
 ·rcases hb with hb|hb|⟨y2,g2,hb⟩
  ·exact .inl (.inl hb)
  ·exact .inl (.inr (.inl hb))
  ·rw[gc] at g2;cases g2
   exact(n5 b hb).elim (fun q=>.inl (.inr (.inr ⟨y,kx.gc,q⟩))) fun q=>.inr (by omega)
end Go.Ab.Tryz
namespace Go.Ab.Tryz
open Go.Proofs
theorem rLoop {r0:LoopR}(h1:r0.st=.ready)(h2:r0.pend=none):({({r0 with st:=.busy}:LoopR) with st:=.ready,pend:=none}:LoopR)=r0:=by cases r0;simp_all
set_option maxHeartbeats 4000000 in
theorem appendSeq_ev {h:H}(hw:h.wf){d:Nat}{a:At}{C R G f W:V}{ms:List Nat}(dk:Dk h d a C R G f W ms)(r:Right a){cnt:Nat→Bool}(hcnt:∀i,i<a.rds.length→PureA h f [.int .i64 (i:Int)] (.bool (cnt i)))
  {b1:Nat} (g1:h.get b1=some (.cells .rw [.ptr d 0])) (Q:V→H→Prop) (q:∀y Ps h',FsO h h' y Ps→Ps.map Prod.snd=casesL a cnt→Q y h'):
  Ev fnG fastA (.fn 172 [] []) [.nils,.fn 173 [] [.ptr b1 0]] h Q:=by
 have hall:=casesL_len r cnt
 refine Ev_body (fd:=c172) rfl rfl rfl ?_
 simp -implicitDefEqProofs(maxSteps:=999999)(disch:=first|with_reducible rfl|omega|(simp only[nA,nS,nD]<;>omega)|fail)only[c172,go_sem]
 have s1:h.Sub (h.add (.cells .rw [.nils])):=(H.Sub.refl hw).add _
 have gc1:(h.add (.cells .rw [.nils])).get h.next=some (.cells .rw [.nils]):=get_add_new rfl
 have n1:=H.next_add h (.cells .rw [.nils])
 generalize h.add (.cells .rw [.nils])=h1 at s1 gc1 n1⊢
 have w1:=s1.wf
 refine W_gen (P:=fun tm=>(Opd.t 2).ev tm=.ptr h.next 0∧(Opd.t 6).ev tm=.fn 173 [] [.ptr b1 0]) ⟨(by simp[ev_c,ev_put]<;>rfl),(by simp[ev_c,ev_put]<;>rfl)⟩ fun tm ⟨t2,t6⟩=>?_
 refine W_rf t6 ?_
 generalize hr:LoopR.mk _ _ _ _ _ _ _ _ _=r0
 have fB:=congrArg LoopR.body hr
 have fA:=congrArg LoopR.assign hr
 have fN:=congrArg LoopR.n hr
 have fF:=congrArg LoopR.fn hr
 have fP:=congrArg LoopR.ps hr
 have fT:=congrArg LoopR.tm hr
 dsimp only at fB fA fN fF fP fT
 have hrs:r0.st=.ready:=by rw[←hr]
 have hrp:r0.pend=none:=by rw[←hr]
 obtain⟨J,hJ⟩:∃J:Nat→H→Prop,∀n x,J n x↔∃y Ps,CI h r0 (h1.next+1) h.next h1.next (casesL a cnt) n x y Ps:=⟨_,fun _ _=>Iff.rfl⟩
 have s3:h.Sub ((h1.add .dfr).add (.loop r0)):=(s1.add _).add _
 have n3:((h1.add .dfr).add (.loop r0)).next=h1.next+2:=by simp only[H.next_add]
 have j0:J 0 ((h1.add .dfr).add (.loop r0)):=(hJ _ _).2 ⟨.nils,[],⟨⟨(OwnSl.nil s3 26).c,fun p hp=>absurd hp List.not_mem_nil,fun p hp=>absurd hp List.not_mem_nil⟩,rfl,fun p hp=>absurd hp List.not_mem_nil,fun b hb=>(blkOf_nils hb).elim,
  get_add_new (by rw[H.next_add]),by rw[get_add_old (by rw[H.next_add];omega)];exact get_add_new rfl,by rw[get_add_old (by rw[H.next_add];omega),get_add_old (by omega)];exact gc1⟩⟩
 have tk:Taker h (.yld (h1.next+1)) (casesL a cnt) J (fun _=>False) (CK (h1.next+1) h.next) 0:=by
  refine⟨fun p x hx=>?_,fun p x x' hx s=>?_,fun p x b hx hb=>?_,fun p x x' hx s b hb=>?_,fun p t ht x0 x R hx hR=>?_⟩
  ·obtain⟨y,Ps,k⟩:=(hJ _ _).1 hx
   exact⟨k.f.o.1,Nat.zero_le _⟩
  ·obtain⟨y,Ps,k⟩:=(hJ _ _).1 hx
   exact(hJ _ _).2 ⟨y,Ps,k.mono s⟩
  ·obtain⟨y,Ps,k⟩:=(hJ _ _).1 hx
   have wx:=k.f.o.1.wf
   rcases hb with hb|hb|⟨y2,g2,hb⟩
   ·subst hb;exact wx _ _ k.gl
   ·subst hb;exact wx _ _ k.gc
   ·rw[k.gc] at g2;cases g2;exact(k.f.o.blk hb).2.1
  ·obtain⟨y,Ps,k⟩:=(hJ _ _).1 hx
   rcases hb with hb|hb|⟨y2,g2,hb⟩
   ·exact .inl hb
   ·exact .inr (.inl hb)
   ·rw[s.get k.gc] at g2;cases g2
    exact .inr (.inr ⟨y,k.gc,hb⟩)
  ·obtain⟨y,Ps,k⟩:=(hJ _ _).1 hx
   refine Ev.gen fun Q2 q2=>?_
   have sx:=hR.1
   have kx:=k.mono sx
   have wx:=sx.wf
   have lx0:=k.f.o.1.wf _ _ k.gl
   have lx:=sx.next
   have lt:t.2.length=25:=(casesL_in r t (List.mem_of_getElem? ht)).len
   obtain⟨F,hF⟩:∃F,F=R::t.2.map iv:=⟨_,rfl⟩
   have lF:F.length=26:=by rw[hF,List.length_cons,List.length_map,lt]
   have oF:allOne F=true:=by rw[hF,allOne_cons,hR.one,allOne_iv];rfl
   have nF:F≠[]:=by rw[hF];exact List.cons_ne_nil _ _
   have gNF:getN 0 26 F=some F:=by rw[←lF];exact getN_eq.2 ⟨by rw[List.drop_zero,List.take_length],by omega⟩
   have lnF:lenN F=26:=by rw[lenN_eq,lF]
   have ovF:over F [.nils,.int .i64 0,.int .i64 0,.int .i64 0,.int .i64 0,.int .i64 0,.int .i64 0,.int .i64 0,.int .i64 0,.int .i64 0,.int .i64 0,.int .i64 0,.int .i64 0,.int .i64 0,.int .i64 0,.int .i64 0,.int .i64 0,.int .i64 0,.int .i64 0,.int .i64 0,.int .i64 0,.int .i64 0,.int .i64 0,.int .i64 0,.int .i64 0,.int .i64 0]=some F:=over_all (by rw[lF];rfl)
   have pF:(x.add (.cells .rw [.nils,.int .i64 0,.int .i64 0,.int .i64 0,.int .i64 0,.int .i64 0,.int .i64 0,.int .i64 0,.int .i64 0,.int .i64 0,.int .i64 0,.int .i64 0,.int .i64 0,.int .i64 0,.int .i64 0,.int .i64 0,.int .i64 0,.int .i64 0,.int .i64 0,.int .i64 0,.int .i64 0,.int .i64 0,.int .i64 0,.int .i64 0,.int .i64 0,.int .i64 0])).put x.next 0 F=some ((x.add (.cells .rw [.nils,.int .i64 0,.int .i64 0,.int .i64 0,.int .i64 0,.int .i64 0,.int .i64 0,.int .i64 0,.int .i64 0,.int .i64 0,.int .i64 0,.int .i64 0,.int .i64 0,.int .i64 0,.int .i64 0,.int .i64 0,.int .i64 0,.int .i64 0,.int .i64 0,.int .i64 0,.int .i64 0,.int .i64 0,.int .i64 0,.int .i64 0,.int .i64 0,.int .i64 0])).set x.next (.cells .rw F)):=put_full (get_add_new rfl) (by rw[lF];rfl) nF oF
   show Ev fnG fastA _ [.agg (R::t.2.map iv)] _ _
   rw[←hF]
   refine Ev_yld (tm:=tm.put (some (.agg F)) 7) kx.gl (by rw[←fP,←fT];rfl) ?_
   rw[←fA,←fN,←fF]
   simp -implicitDefEqProofs(maxSteps:=999999)(disch:=first|with_reducible rfl|omega|(simp only[nA,nS,nD]<;>omega)|fail)only[go_sem,t2,lnF,pF]
   unfold Kasg
   have sx2:x.Sub (x.add (.cells .rw F)):=(H.Sub.refl wx).add _
   have gw:(x.add (.cells .rw F)).get x.next=some (.cells .rw F):=get_add_new rfl
   have nw:=H.next_add x (.cells .rw F)
   generalize x.add (.cells .rw F)=hy at sx2 gw nw⊢
   refine⟨rfl,r0,sx2.get kx.gl,hrs,?_⟩
   obtain⟨rb,hrb⟩:∃rb:LoopR,rb={r0 with st:=.busy}:=⟨_,rfl⟩
   have hrb1:({rb with st:=.ready,pend:=none}:LoopR)=r0:=by rw[hrb];exact rLoop hrs hrp
   rw[←hrb,←fB,←fN,←fF]
   have sy:=k.f.o.1.trans (sx.trans sx2)
   have K3:Keeps (fun b=>b=h1.next+1) hy (hy.set (h1.next+1) (.loop rb)):=Keeps.set _ _ _
   have s4:h.Sub (hy.set (h1.next+1) (.loop rb)):=sy.set (by omega) (by omega) hw _
   have gl4:(hy.set (h1.next+1) (.loop rb)).get (h1.next+1)=some (.loop rb):=get_set_same rfl
   have n4:(hy.set (h1.next+1) (.loop rb)).next=hy.next:=H.next_set _ _ _
   generalize hy.set (h1.next+1) (.loop rb)=h4 at K3 s4 gl4 n4⊢
   have gw4:=K3.2 _ _ gw (by omega)
   have gc4:=K3.2 _ _ (sx2.get kx.gc) (by omega)
   have s5:h.Sub (h4.add (.cells .rw F)):=s4.add _
   have K5:Keeps (fun b=>b=h1.next+1) x (h4.add (.cells .rw F)):=⟨by rw[H.next_add];omega,fun b w g nb=>by
    have g2:=K3.2 _ _ (sx2.get g) nb
    rw[get_add_old (s4.wf _ _ g2)];exact g2⟩
   have o4:OwnC h (h4.add (.cells .rw F)) y 26 (Ps.map rowF):=kx.f.o.keep K5 s5 fun b hb e=>by have:=k.yb b hb;omega
   have y5:SlAt (h4.add (.cells .rw F)) (.sl h4.next 0 1 (.fix 1)) 26 [F]:=SlAt.new _ rfl rfl (by simp) (by intro r hr;rw[List.mem_singleton] at hr;rw[hr];exact lF) (by simp)
   have lP:Ps.length≤15625:=by
    have:=congrArg List.length k.ps
    rw[List.length_map,List.length_take] at this
    omega
   have gl5:(h4.add (.cells .rw F)).get (h1.next+1)=some (.loop rb):=by rw[get_add_old (by omega)];exact gl4
   have gc5:(h4.add (.cells .rw F)).get h.next=some (.cells .rw [y]):=by rw[get_add_old (by omega)];exact gc4
   have n5:=H.next_add h4 (.cells .rw F)
   have y1:=kx.f.o.one
   simp -implicitDefEqProofs(maxSteps:=999999)(disch:=first|with_reducible rfl|omega|(simp only[nA,nS,nD]<;>omega)|fail)only[go_sem,t2,cells_of gc4,cells_of gw4,gNF,lnF,ovF]
   generalize h4.add (.cells .rw F)=h5 at s5 K5 o4 y5 gl5 gc5 n5⊢
   refine o4.app1 (by_:=224) hw lF (by decide) y5 oF (by rw[List.length_map];omega) (by rw[List.length_map];omega) fun y' h6 o6 n6 k6=>?_
   have ny:∀b,blkOf y b→b≠h1.next+1∧b≠h.next:=fun b hb=>by have:=k.yb b hb;omega
   have gl6:=k6.2 _ _ gl5 fun hb=>(ny _ hb).1 rfl
   have gc6:=k6.2 _ _ gc5 fun hb=>(ny _ hb).2 rfl
   have y1':=o6.one
   simp -implicitDefEqProofs(maxSteps:=999999)(disch:=first|with_reducible rfl|omega|(simp only[nA,nS,nD]<;>omega)|fail)only[go_sem,t2,gc6,y1',cells_one y1']
   unfold Kround
   rw[hF] at o6
   have hend:=CI.frm (z:=(h6.set h.next (.cells .rw [y'])).set (h1.next+1) (.loop r0)) hw k hR lt ht (Nat.le_refl _) (by omega) (by omega) s5 K5 (t:=t) o6 n6 k6 rfl
   refine⟨rb,by rw[get_set_other (by omega)];exact gl6,q2 _ _ ?_⟩
   rw[hrb1]
   exact⟨.inl ⟨rfl,(hJ _ _).2 ⟨_,_,hend.1⟩⟩,hend.2⟩
 refine(cases_gen hw dk r hcnt ⟨_,rfl⟩ tk (b1:=b1) (x:=(h1.add .dfr).add (.loop r0)) ?_ j0 (s3.get g1)).mono fun u h7 hu=>?_
 ·have lb:=hw _ _ g1
  rintro(hb|hb|⟨y2,g2,hb⟩)
  ·omega
  ·omega
  ·obtain⟨y,Ps,k⟩:=(hJ _ _).1 j0
   rw[k.gc] at g2;cases g2
   have:=k.yb _ hb;omega
 ·rcases hu with hJ7|hFa
  ·obtain⟨y,Ps,k⟩:=(hJ _ _).1 hJ7
   refine⟨r0,k.gl,by rw[hrs];simp,?_⟩
   rw[hrp]
   have s7:=k.f.o.1
   have lt7:=s7.wf _ _ k.gl
   have s8:h.Sub (h7.set (h1.next+1) (.loop {r0 with st:=.exhausted})):=s7.set (by omega) lt7 hw _
   have K8:Keeps (fun c=>c=h1.next+1) h7 (h7.set (h1.next+1) (.loop {r0 with st:=.exhausted})):=Keeps.set _ _ _
   have d8:=K8.2 _ _ k.gd (by omega)
   have e8:=K8.2 _ _ k.gc (by omega)
   rw[hrp] at s8 K8 d8 e8
   generalize h7.set (h1.next+1) _=h8 at s8 K8 d8 e8⊢
   have y1:=k.f.o.one
   simp -implicitDefEqProofs(maxSteps:=999999)(disch:=first|with_reducible rfl|omega|(simp only[nA,nS,nD]<;>omega)|fail)only[go_sem,t2,cells_of e8,Kfin_ret1 _ _ _ d8]
   have s9:h.Sub (h8.del h1.next):=H.Sub.del s8 (by omega) hw
   have K9:Keeps (fun c=>c=h1.next+1∨c=h1.next) h7 (h8.del h1.next):=⟨by rw[H.next_del];exact K8.1,fun b w g nb=>by rw[get_del_other fun e=>nb (.inr e)];exact K8.2 _ _ g fun e=>nb (.inl e)⟩
   refine q _ Ps _ ⟨k.f.o.keep K9 s9 fun b hb e=>by have:=k.yb b hb;omega,fun p hp=>(k.f.e p hp).keep K9 s9 fun b hb e=>by have:=(k.dj p hp b hb).2;omega,k.f.l⟩ ?_
   rw[k.ps,List.take_of_length_le (Nat.le_refl _)]
  ·exact hFa.elim
set_option maxHeartbeats 1000000 in
theorem collect_ev {h:H}(hw:h.wf){d:Nat}{a:At}{C R G f W:V}{ms:List Nat}(dk:Dk h d a C R G f W ms)(r:Right a){cnt:Nat→Bool}(hcnt:∀i,i<a.rds.length→PureA h f [.int .i64 (i:Int)] (.bool (cnt i)))
  {b1:Nat} (g1:h.get b1=some (.cells .rw [.ptr d 0])) (Q:V→H→Prop) (q:∀y Ps h',FsO h h' y Ps→Ps.map Prod.snd=casesL a cnt→Q y h'):
  Ev fnG fastA (.fn 146 [] []) [.fn 173 [] [.ptr b1 0]] h Q:=by
 refine Ev_body (fd:=c146) rfl rfl rfl ?_
 simp -implicitDefEqProofs(maxSteps:=999999)(disch:=first|with_reducible rfl|omega|(simp only[nA,nS,nD]<;>omega)|fail)only[c146,go_sem]
 refine appendSeq_ev hw dk r hcnt g1 _ fun y Ps h' f e=>?_
 simp -implicitDefEqProofs(maxSteps:=999999)(disch:=first|with_reducible rfl|omega|(simp only[nA,nS,nD]<;>omega)|fail)only[go_sem]
 exact q y Ps h' f e
end Go.Ab.Tryz
namespace Go.Ab.Tryz
open Go.Proofs
abbrev allF:V:=.fn 151 [] []
theorem allF_pure {h:H}(hw:h.wf)(i:Int):PureA h allF [.int .i64 i] (.bool true):=by
 intro h' s
 refine Ev_body (fd:=c151) rfl rfl rfl ?_
 simp -implicitDefEqProofs(maxSteps:=999999)(disch:=first|with_reducible rfl|omega|(simp only[nA,nS,nD]<;>omega)|fail)only[c151,go_sem]
 exact H.Sub.refl s.wf
set_option maxHeartbeats 2000000 in
theorem told_ev {h:H}(hw:h.wf){a:At}{C R G:V}(x:AtAt h C R G a)(bad:Bool)(Q:V→H→Prop)
  (q1:∀h',h.Sub h'→checkA a≠0→Q (.tup [.nilp,.nils,.int .i64 (checkA a)]) h')
  (q2:∀h',h.Sub h'→Right a→bad=true→Q (.tup [.nilp,.nils,.int .i64 1]) h')
  (q3:∀h',h.Sub h'→Right a→bad=false→casesL a (fun _=>true)=[]→Q (.tup [.nilp,.nils,.int .i64 7]) h')
  (q4:∀h' v y Ps,FsO h h' y Ps→Right a→bad=false→Ps.map Prod.snd=casesL a (fun _=>true)→Ps≠[]→Q (.tup [v,y,.int .i64 0]) h'):
  Ev fnG fastA (.fn 75 [] []) [.agg (atV a C R G),.bool bad] h Q:=by
 have oC:=x.c.one;have oR:=x.r.one;have oG:=x.g.one
 have cs:∀hh Q,Ev fnG fastA (.fn 83 [] []) [] hh Q=Q (.agg [allF]) (hh.add (.cells .rw [allF])):=fun hh Q=>by
  refine Ev.det (Ev_body (fd:=c83) rfl rfl rfl ?_) Q
  simp -implicitDefEqProofs(maxSteps:=999999)(disch:=first|with_reducible rfl|omega|(simp only[nA,nS,nD]<;>omega)|fail)only[c83,go_sem]
 have cd:∀hh p Q,Ev fnG fastA (.fn 147 [] []) [.ptr p 0] hh Q=Q (.fn 173 [] [.ptr hh.next 0]) (hh.add (.cells .rw [.ptr p 0])):=fun hh p Q=>by
  refine Ev.det (Ev_body (fd:=c147) rfl rfl rfl ?_) Q
  simp -implicitDefEqProofs(maxSteps:=999999)(disch:=first|with_reducible rfl|omega|(simp only[nA,nS,nD]<;>omega)|fail)only[c147,go_sem]
 refine Ev_body (fd:=c75) rfl rfl rfl ?_
 simp -implicitDefEqProofs(maxSteps:=999999)(disch:=first|with_reducible rfl|omega|(simp only[nA,nS,nD]<;>omega)|fail)only[c75,go_sem]
 have s1:h.Sub (h.add (.cells .rw (atV a C R G))):=(H.Sub.refl hw).add _
 have g1:(h.add (.cells .rw (atV a C R G))).get h.next=some (.cells .rw (atV a C R G)):=get_add_new rfl
 refine check_ev s1.wf ⟨C,R,G,rfl,x.mono s1⟩ _ fun h2 s2=>?_
 have gg:=s2.get g1
 have s12:=s1.trans s2
 generalize h.add (.cells .rw (atV a C R G))=h1 at s1 g1 s2 gg s12
 by_cases he:checkA a=0
 case neg=>
  simp -implicitDefEqProofs(maxSteps:=999999)(disch:=first|with_reducible rfl|omega|(simp only[nA,nS,nD]<;>omega)|fail)only[go_sem,(decide_eq_true he:decide (checkA a≠0)=true)]
  exact q1 _ s12 he
 have r:=checkA_iff.1 he
 rw[he]
 have d0:decide ((0:Int)≠0)=false:=rfl
 cases bad with
 |true=>
  simp -implicitDefEqProofs(maxSteps:=999999)(disch:=first|with_reducible rfl|omega|(simp only[nA,nS,nD]<;>omega)|fail)only[go_sem,d0]
  exact q2 _ s12 r rfl
 |false=>
  simp -implicitDefEqProofs(maxSteps:=999999)(disch:=first|with_reducible rfl|omega|(simp only[nA,nS,nD]<;>omega)|fail)only[go_sem,d0,Bool.false_eq_true,cells_of gg,cs]
  have sA:=(H.Sub.refl s12.wf).add (.cells .rw [allF])
  generalize h2.add (.cells .rw [allF])=hA at sA⊢
  refine worked_ev sA.wf (x.mono (s12.trans sA)) r rfl _ fun d W ms h3 s3 _ dk=>?_
  have s23:=sA.trans s3
  have sB:=(H.Sub.refl s3.wf).add (.cells .rw [.ptr d 0])
  have gB:(h3.add (.cells .rw [.ptr d 0])).get h3.next=some (.cells .rw [.ptr d 0]):=get_add_new rfl
  simp -implicitDefEqProofs(maxSteps:=999999)(disch:=first|with_reducible rfl|omega|(simp only[nA,nS,nD]<;>omega)|fail)only[go_sem,cells_of gg,cells_of (sA.get gg),cells_of (s23.get gg),cd]
  generalize h3.add (.cells .rw [.ptr d 0])=hB at sB gB⊢
  refine collect_ev sB.wf (dk.mono sB) r (cnt:=fun _=>true) (fun i _=>allF_pure sB.wf i) gB _ fun y Ps h4 f e=>?_
  have hPl:Ps.length≤15625:=by have:=casesL_len r (fun _=>true);rw[←e,List.length_map] at this;exact this
  have hlen:=(f.o.sl (by rw[List.length_map];omega)).lenE
  have s4:=(s12.trans s23).trans (sB.trans f.o.1)
  by_cases hn:Ps=[]
  ·have hz:((Ps.length:Int)=0):=by rw[hn];rfl
   simp -implicitDefEqProofs(maxSteps:=999999)(disch:=first|with_reducible rfl|omega|(simp only[nA,nS,nD]<;>omega)|fail)only[go_sem,hlen,hz]
   exact q3 _ s4 r rfl (by rw[←e,hn];rfl)
  ·have hz:¬((Ps.length:Int)=0):=fun q=>hn (List.length_eq_zero_iff.1 (by omega))
   simp -implicitDefEqProofs(maxSteps:=999999)(disch:=first|with_reducible rfl|omega|(simp only[nA,nS,nD]<;>omega)|fail)only[go_sem,hlen,hz]
   exact q4 _ _ y Ps ⟨f.o.base (s12.trans (s23.trans sB)),fun p hp=>(f.e p hp).base (s12.trans (s23.trans sB)),f.l⟩ r rfl e hn
end Go.Ab.Tryz
namespace Go.Ab.Tryz
open Go.Proofs
def RdOk (a:At)(cnt:Nat→Bool)(k:Int)(x:Int × Int)(y:Nat→Int):Prop:=
 ∀(j:Nat) (r:Rd),a.rds[j]? =some r→r.ck=k→cnt j=true→(whn x.1 x.2 r.sh (a.mins.toNat+1)).1≤y r.ev.toNat-y 4∧y r.ev.toNat-y 4≤(whn x.1 x.2 r.sh (a.mins.toNat+1)).2
theorem Sol_rdL {L:List Int}(hL:L.length=25){e:Nat}(he:e<5){s:Int × Int}{y:Nat→Int}:Sol y (rdL L e s)↔Sol y L∧s.1≤y e-y 4∧y e-y 4≤s.2:=by
 rw[rdL,Sol_low (by rw[low_len];exact hL) he (by decide),Sol_low hL (by decide) he]
 constructor
 ·rintro⟨⟨h1,h2⟩,h3⟩;exact⟨h1,by omega,by omega⟩
 ·rintro⟨h1,h2,h3⟩;exact⟨⟨h1,by omega⟩,by omega⟩
theorem Sol_gapL {a:At}(r:Right a){L:List Int}(hL:L.length=25){g:Gp}(hg:g∈a.gps){y:Nat→Int}:Sol y (gapL L g)↔Sol y L∧g.lo≤y g.to.toNat-y g.fr.toNat∧y g.to.toNat-y g.fr.toNat≤g.hi:=by
 obtain⟨f,t,e1,e2,hf,ht,_⟩:=r.gap hg
 rw[gapL,e1,e2,Int.toNat_natCast,Int.toNat_natCast,Sol_low (by rw[low_len];exact hL) (by omega) (by omega),Sol_low hL (by omega) (by omega)]
 constructor
 ·rintro⟨⟨h1,h2⟩,h3⟩;exact⟨h1,by omega,by omega⟩
 ·rintro⟨h1,h2,h3⟩;exact⟨⟨h1,by omega⟩,by omega⟩
theorem Sol_gaps {a:At}(r:Right a){y:Nat→Int}:∀{l:List Gp} {L:List Int},(∀g∈l,g∈a.gps)→L.length=25→(Sol y (l.foldl gapL L)↔Sol y L∧∀g∈l,g.lo≤y g.to.toNat-y g.fr.toNat∧y g.to.toNat-y g.fr.toNat≤g.hi)
 |[],L,_,_=>⟨fun h=>⟨h,fun g hg=>absurd hg List.not_mem_nil⟩,fun h=>h.1⟩
 |g::l,L,hl,hL=>by
  have hg:=hl g (List.mem_cons_self ..)
  rw[List.foldl_cons,Sol_gaps r (fun x hx=>hl x (List.mem_cons_of_mem _ hx)) (by rw[gapL,low_len,low_len];exact hL),Sol_gapL r hL hg,List.forall_mem_cons,and_assoc]
theorem Sol_free {a:At}(r:Right a){y:Nat→Int}(hy:y 4=0):Sol y (freeL a)↔(∀e,e<4→0≤y e∧y e≤a.mins)∧∀g∈a.gps,g.lo≤y g.to.toNat-y g.fr.toNat∧y g.to.toNat-y g.fr.toNat≤g.hi:=by
 rw[freeL,Sol_gaps r (L:=bsL a.mins) (fun g hg=>hg) (bsU_len _ _ _),Sol_bs hy]
 constructor
 ·rintro⟨⟨h1,_,_⟩,h2⟩;exact⟨h1,h2⟩
 ·rintro⟨h1,h2⟩;exact⟨⟨h1,fun a b ha hb _=>by have:=h1 a ha;have:=h1 b hb;omega,.inr trivial⟩,h2⟩
theorem readsL_spec {a:At}(r:Right a){cnt:Nat→Bool}{k:Int}{x:Int × Int}{y:Nat→Int}:∀{l:List Rd} {i:Nat} {L:List Int},(∀r∈l,r∈a.rds)→L.length=25→
  ((readsL a cnt k x l i L).2=true→(Sol y (readsL a cnt k x l i L).1↔Sol y L∧∀(j:Nat) (r:Rd),l[j]? =some r→r.ck=k→cnt (i+j)=true→(whn x.1 x.2 r.sh (a.mins.toNat+1)).1≤y r.ev.toNat-y 4∧y r.ev.toNat-y 4≤(whn x.1 x.2 r.sh (a.mins.toNat+1)).2))∧
  ((readsL a cnt k x l i L).2=false→¬∀(j:Nat) (r:Rd),l[j]? =some r→r.ck=k→cnt (i+j)=true→(whn x.1 x.2 r.sh (a.mins.toNat+1)).1≤y r.ev.toNat-y 4∧y r.ev.toNat-y 4≤(whn x.1 x.2 r.sh (a.mins.toNat+1)).2)
 |[],i,L,_,_=>⟨fun _=>⟨fun h=>⟨h,fun j r hr=>by simp at hr⟩,fun h=>h.1⟩,fun h=>by cases h⟩
 |rd::l,i,L,hl,hL=>by
  have hrd:=hl rd (List.mem_cons_self ..)
  obtain⟨yk,ye,ek,ee,hyk,hye,_⟩:=r.rd hrd
  have hl':=fun x hx=>hl x (List.mem_cons_of_mem _ hx)
  have sh:∀{X:Rd→Prop},(∀(j:Nat) (r:Rd),(rd::l)[j]? =some r→r.ck=k→cnt (i+j)=true→X r)↔(rd.ck=k→cnt i=true→X rd)∧∀(j:Nat) (r:Rd),l[j]? =some r→r.ck=k→cnt (i+1+j)=true→X r:=fun{X}=>by
   constructor
   ·intro h;exact⟨h 0 rd rfl,fun j r hr h1 h2=>h (j+1) r hr h1 (by rw[show i+(j+1)=i+1+j by omega];exact h2)⟩
   ·rintro⟨h1,h2⟩ j r hr h3 h4
    cases j with
    |zero=>cases hr;exact h1 h3 h4
    |succ j=>exact h2 j r hr h3 (by rw[show i+1+j=i+(j+1) by omega];exact h4)
  rw[sh (X:=fun r=>(whn x.1 x.2 r.sh (a.mins.toNat+1)).1≤y r.ev.toNat-y 4∧y r.ev.toNat-y 4≤(whn x.1 x.2 r.sh (a.mins.toNat+1)).2)]
  by_cases h1:rd.ck≠k∨cnt i=false
  ·rw[readsL,if_pos h1]
   have ih:=readsL_spec r (cnt:=cnt) (k:=k) (x:=x) (y:=y) (l:=l) (i:=i+1) (L:=L) hl' hL
   have hv:∀{P:Prop},rd.ck=k→cnt i=true→P:=fun{P} a b=>by
    rcases h1 with h1|h1
    ·exact absurd a h1
    ·rw[b] at h1;cases h1
   refine⟨fun ht=>(ih.1 ht).trans ⟨fun h=>⟨h.1,fun a b=>hv a b,h.2⟩,fun h=>⟨h.1,h.2.2⟩⟩,fun ht h=>ih.2 ht h.2⟩
  ·have h1':rd.ck=k∧cnt i=true:=by
    rcases Classical.em (rd.ck=k) with h|h
    ·refine⟨h,?_⟩
     cases hc:cnt i with
     |true=>rfl
     |false=>exact absurd (.inr hc) h1
    ·exact absurd (.inl h) h1
   rw[readsL,if_neg h1]
   by_cases h2:(whn x.1 x.2 rd.sh (a.mins.toNat+1)).2<(whn x.1 x.2 rd.sh (a.mins.toNat+1)).1
   ·rw[if_pos h2]
    exact⟨fun h=>by(cases h),fun _ h=>by have:=h.1 h1'.1 h1'.2;omega⟩
   ·rw[if_neg h2]
    have hre:rd.ev.toNat<5:=by omega
    have ih:=readsL_spec r (cnt:=cnt) (k:=k) (x:=x) (y:=y) (l:=l) (i:=i+1) (L:=rdL L rd.ev.toNat (whn x.1 x.2 rd.sh (a.mins.toNat+1))) hl' (by rw[rdL,low_len,low_len];exact hL)
    refine⟨fun ht=>(ih.1 ht).trans ?_,fun ht h=>ih.2 ht h.2⟩
    rw[Sol_rdL hL hre]
    exact⟨fun h=>⟨h.1.1,fun _ _=>h.1.2,h.2⟩,fun h=>⟨⟨h.1,h.2.1 h1'.1 h1'.2⟩,h.2.2⟩⟩
theorem readL_spec {a:At}(r:Right a){cnt:Nat→Bool}{k:Int}{x:Int × Int}{L:List Int}(hL:In5 240 L):
  ((readL a cnt k x L).2=true→Tri (readL a cnt k x L).1∧In5 240 (readL a cnt k x L).1∧∀y,Sol y (readL a cnt k x L).1↔Sol y L∧RdOk a cnt k x y)∧
  ((readL a cnt k x L).2=false→∀y,Sol y L→¬RdOk a cnt k x y):=by
 have hin:=readsL_in (cnt:=cnt) (k:=k) (x:=x) (i:=0) r (fun y (hy:y∈a.rds)=>hy) hL
 have hs:=fun y=>readsL_spec r (cnt:=cnt) (k:=k) (x:=x) (y:=y) (l:=a.rds) (i:=0) (L:=L) (fun r hr=>hr) hL.len
 simp only[Nat.zero_add] at hs
 unfold readL
 by_cases h1:(readsL a cnt k x a.rds 0 L).2=true
 ·rw[if_pos h1]
  have hc:=clos_spec (by decide) (by decide) hin
  refine⟨fun ht=>?_,fun ht y hy hr=>?_⟩
  ·obtain⟨c1,c2,_,c4⟩:=hc.1 ht
   exact⟨c1,c2,fun y=>(c4 y).symm.trans ((hs y).1 h1)⟩
  ·exact hc.2 ht y (((hs y).1 h1).2 ⟨hy,hr⟩)
 ·rw[if_neg h1]
  exact⟨fun h=>by(cases h),fun _ y _ hr=>(hs y).2 (by simpa using h1) hr⟩
end Go.Ab.Tryz
namespace Go.Ab.Tryz
open Go.Proofs
theorem moreL_sound {a:At}(r:Right a){cnt:Nat→Bool}:∀{n:Nat} {runs:Runs} {L:List Int} {t:Runs × List Int},runs.length+n=a.cks.length→In5 240 L→Tri L→t∈moreL a cnt n runs L→
  Tri t.2∧∃suf:Runs,t.1=runs++suf∧suf.length=n∧(∀(j:Nat) s,suf[j]? =some s→RunOf a (runs.length+j) s)∧∀y,Sol y t.2↔Sol y L∧∀(j:Nat) s,suf[j]? =some s→RdOk a cnt ((runs.length+j:Nat):Int) s y
 |0,runs,L,t,hl,hL,tL,ht=>by
  rw[moreL,List.mem_singleton] at ht;subst ht
  exact⟨tL,[],by simp,rfl,fun j s h=>by simp at h,fun y=>⟨fun h=>⟨h,fun j s h=>by simp at h⟩,fun h=>h.1⟩⟩
 |n+1,runs,L,t,hl,hL,tL,ht=>by
  have hlt:runs.length<a.cks.length:=by omega
  have hck:a.cks[runs.length]? =some a.cks[runs.length]:=List.getElem?_eq_getElem hlt
  obtain⟨c,hc⟩:∃c,a.cks[runs.length]=c:=⟨_,rfl⟩
  rw[hc] at hck
  unfold moreL at ht
  rw[hck] at ht
  simp only[List.mem_flatMap,List.mem_range] at ht
  obtain⟨u,hu,v,hv,ht⟩:=ht
  have n1:(c.ns:Int)=c.sh-c.sl+1:=by unfold Ck.ns at hu⊢;omega
  have n2:(c.ng:Int)=c.gh-c.gl+1:=by unfold Ck.ng at hv⊢;omega
  split at ht
  ·rename_i hk
   obtain⟨k1,k2,k3⟩:=(readL_spec r hL).1 hk
   obtain⟨i1,suf,i2,i3,i4,i5⟩:=moreL_sound r (by rw[List.length_append,List.length_singleton];omega) k2 k1 ht
   rw[List.length_append,List.length_singleton] at i4 i5
   have ix:∀j,runs.length+1+j=runs.length+(j+1):=fun j=>by omega
   refine⟨i1,(c.sl+(u:Int),c.gl+(v:Int))::suf,by rw[i2,List.append_assoc];rfl,by rw[List.length_cons,i3],fun j s hs=>?_,fun y=>?_⟩
   ·cases j with
    |zero=>cases hs;exact RunOf.mk' hck (by omega) (by omega) (by omega) (by omega)
    |succ j=>rw[←ix];exact i4 j s hs
   ·rw[i5 y,k3 y]
    constructor
    ·rintro⟨⟨h1,h2⟩,h3⟩
     refine⟨h1,fun j s hs=>?_⟩
     cases j with
     |zero=>cases hs;exact h2
     |succ j=>rw[←ix];exact h3 j s hs
    ·rintro⟨h1,h2⟩
     exact⟨⟨h1,h2 0 _ rfl⟩,fun j s hs=>by rw[ix];exact h2 (j+1) s hs⟩
  ·cases ht
theorem moreL_full {a:At}(r:Right a){cnt:Nat→Bool}{y:Nat→Int}:∀{n:Nat} {runs suf:Runs} {L:List Int},runs.length+n=a.cks.length→In5 240 L→suf.length=n→(∀(j:Nat) s,suf[j]? =some s→RunOf a (runs.length+j) s)→Sol y L→
  (∀(j:Nat) s,suf[j]? =some s→RdOk a cnt ((runs.length+j:Nat):Int) s y)→∃L',(runs++suf,L')∈moreL a cnt n runs L
 |0,runs,suf,L,hl,hL,hs,_,_,_=>by
  rw[List.length_eq_zero_iff.1 hs,List.append_nil]
  exact⟨L,by rw[moreL];exact List.mem_singleton.2 rfl⟩
 |n+1,runs,[],L,hl,hL,hs,_,_,_=>by simp at hs
 |n+1,runs,s::suf,L,hl,hL,hs,hr,hy,hd=>by
  obtain⟨c,hck,h1,h2,h3,h4⟩:=hr 0 s rfl
  have hd0:=hd 0 s rfl
  rw[Nat.add_zero] at hck hd0
  have n1:(c.ns:Int)=c.sh-c.sl+1:=by unfold Ck.ns;omega
  have n2:(c.ng:Int)=c.gh-c.gl+1:=by unfold Ck.ng;omega
  have es:s=(c.sl+((s.1-c.sl).toNat:Int),c.gl+((s.2-c.gl).toNat:Int)):=by
   obtain⟨s1,s2⟩:=s
   simp only at h1 h2 h3 h4⊢
   rw[Int.toNat_of_nonneg (by omega),Int.toNat_of_nonneg (by omega)]
   congr 1<;>omega
  have hsp:=readL_spec (cnt:=cnt) (k:=(runs.length:Int)) (x:=s) r hL
  have hk:(readL a cnt runs.length s L).2=true:=by
   cases hh:(readL a cnt runs.length s L).2 with
   |true=>rfl
   |false=>exact absurd hd0 (hsp.2 hh y hy)
  obtain⟨k1,k2,k3⟩:=hsp.1 hk
  have ix:∀j,runs.length+1+j=runs.length+(j+1):=fun j=>by omega
  obtain⟨L',hL'⟩:=moreL_full r (runs:=runs++[s]) (suf:=suf) (L:=(readL a cnt runs.length s L).1) (n:=n) (by rw[List.length_append,List.length_singleton];omega) k2 (by simpa using hs)
   (fun j x hx=>by rw[List.length_append,List.length_singleton,ix];exact hr (j+1) x hx) ((k3 y).2 ⟨hy,hd0⟩) (fun j x hx=>by rw[List.length_append,List.length_singleton,ix];exact hd (j+1) x hx)
  refine⟨L',?_⟩
  rw[List.append_assoc] at hL'
  unfold moreL
  rw[hck]
  simp only[List.mem_flatMap,List.mem_range]
  refine⟨(s.1-c.sl).toNat,by omega,(s.2-c.gl).toNat,by omega,?_⟩
  rw[←es,if_pos hk]
  exact hL'
structure Tru (a:At)(cnt:Nat→Bool)(runs:Runs)(y:Nat→Int):Prop where
 len:runs.length=a.cks.length
 run:∀(k:Nat) s,runs[k]? =some s→RunOf a k s
 beg:y 4=0
 mins:∀e,e<4→0≤y e∧y e≤a.mins
 gaps:∀g∈a.gps,g.lo≤y g.to.toNat-y g.fr.toNat∧y g.to.toNat-y g.fr.toNat≤g.hi
 rds:∀(j:Nat) (r:Rd),a.rds[j]? =some r→cnt j=true→∀s,runs[r.ck.toNat]? =some s→shw s.1 s.2 (y r.ev.toNat)=r.sh
theorem Tru.ok {a:At}(r:Right a){cnt:Nat→Bool}{runs:Runs}{y:Nat→Int}(hl:runs.length=a.cks.length)(hr:∀(k:Nat) s,runs[k]? =some s→RunOf a k s)(hy:y 4=0)(hm:∀e,e<4→0≤y e∧y e≤a.mins):
  (∀(j:Nat) (rd:Rd),a.rds[j]? =some rd→cnt j=true→∀s,runs[rd.ck.toNat]? =some s→shw s.1 s.2 (y rd.ev.toNat)=rd.sh)↔∀(k:Nat) s,runs[k]? =some s→RdOk a cnt (k:Int) s y:=by
 have key:∀(j:Nat) (rd:Rd),a.rds[j]? =some rd→∀s,runs[rd.ck.toNat]? =some s→(shw s.1 s.2 (y rd.ev.toNat)=rd.sh↔(whn s.1 s.2 rd.sh (a.mins.toNat+1)).1≤y rd.ev.toNat-y 4∧y rd.ev.toNat-y 4≤(whn s.1 s.2 rd.sh (a.mins.toNat+1)).2):=fun j rd hrd s hs=>by
  obtain⟨yk,ye,ek,ee,hyk,hye,_⟩:=r.rd (List.mem_of_getElem? hrd)
  have h1:=hm rd.ev.toNat (by omega)
  obtain⟨_,_,_,_⟩:=(hr _ s hs).run r
  have h3:=r.mins
  rw[hy,show y rd.ev.toNat-0=y rd.ev.toNat by omega]
  exact whn_iff (by omega) h1.1 (by omega)
 constructor
 ·intro h k s hs j rd hrd hk hc
  have hs':runs[rd.ck.toNat]? =some s:=by rw[hk,Int.toNat_natCast];exact hs
  exact(key j rd hrd s hs').1 (h j rd hrd hc s hs')
 ·intro h j rd hrd hc s hs
  obtain⟨yk,ye,ek,ee,hyk,hye,_⟩:=r.rd (List.mem_of_getElem? hrd)
  refine(key j rd hrd s hs).2 (h rd.ck.toNat s hs j rd hrd ?_ hc)
  rw[ek,Int.toNat_natCast]
theorem cases_sound {a:At}(r:Right a){cnt:Nat→Bool}{t:Runs × List Int}(ht:t∈casesL a cnt):Tri t.2∧t.1.length=a.cks.length∧(∀(k:Nat) s,t.1[k]? =some s→RunOf a k s)∧∀y,y 4=0→(Sol y t.2↔Tru a cnt t.1 y):=by
 unfold casesL at ht
 split at ht
 ·rename_i hc
  obtain⟨c1,c2,_,c4⟩:=(clos_spec (by decide) (by decide) (freeL_in r)).1 hc
  obtain⟨h1,suf,h2,h3,h4,h5⟩:=moreL_sound r (by simp) c2 c1 ht
  rw[List.nil_append] at h2
  subst h2
  simp only[List.length_nil,Nat.zero_add] at h4 h5
  refine⟨h1,h3,h4,fun y hy=>?_⟩
  rw[h5 y,←c4 y]
  constructor
  ·rintro⟨q1,q2⟩
   have q3:=(Sol_free r hy).1 q1
   exact⟨h3,h4,hy,q3.1,q3.2,(Tru.ok r h3 h4 hy q3.1).2 q2⟩
  ·intro q
   exact⟨(Sol_free r hy).2 ⟨q.mins,q.gaps⟩,(Tru.ok r h3 h4 hy q.mins).1 q.rds⟩
 ·cases ht
theorem cases_full {a:At}(r:Right a){cnt:Nat→Bool}{runs:Runs}{y:Nat→Int}(h:Tru a cnt runs y):∃L,(runs,L)∈casesL a cnt:=by
 have hf:=(Sol_free r h.beg).2 ⟨h.mins,h.gaps⟩
 have hcs:=clos_spec (by decide) (by decide) (freeL_in r)
 have hc:(clos (freeL a)).2=true:=by
  cases hh:(clos (freeL a)).2 with
  |true=>rfl
  |false=>exact absurd hf (hcs.2 hh y)
 obtain⟨c1,c2,_,c4⟩:=hcs.1 hc
 have:=moreL_full r (cnt:=cnt) (y:=y) (n:=a.cks.length) (runs:=[]) (suf:=runs) (by simp) c2 h.len (fun j s hs=>by simpa using h.run j s hs) ((c4 y).1 hf) (fun j s hs=>by simpa using(Tru.ok r h.len h.run h.beg h.mins).1 h.rds j s hs)
 unfold casesL
 rw[if_pos hc]
 simpa using this
end Go.Ab.Tryz
namespace Go.Ab.Tryz
open Go.Proofs
def betw (f t:Nat):List (List Int)→Int × Int
 |[]=>(0,0)
 |L::l=>(L::l).foldl (fun s M=>(min s.1 (-(mg M t f)),max s.2 (mg M f t))) (-(mg L t f),mg L f t)
theorem row_at {p:Fd}(lp:p.2.2.length=25){f t:Nat}(hf:f<5)(ht:t<5):nth (1+f*5+t*1) (rowF p)=some (.int .i64 (mg p.2.2 f t)):=by
 rw[show 1+f*5+t*1=(f*5+t*1)+1 by omega]
 exact nth_mg lp hf ht
set_option maxHeartbeats 4000000 in
theorem between_ev {h:H}(hw:h.wf){y:V}{Ps:List Fd}(x:SlAt h y 26 (Ps.map rowF))(hl:∀p∈Ps,In5 240 p.2.2)(hone:∀F,(∃p∈Ps,rowF p=F)→allOne F=true)(hne:Ps≠[]){f t:Nat}(hf:f<5)(ht:t<5)(Q:V→H→Prop)
  (q:∀h',h.Sub h'→Q (spV (betw f t (Ps.map fun p=>p.2.2))) h'):Ev fnG fastA (.fn 77 [] []) [y,.int .i64 (f:Int),.int .i64 (t:Int)] h Q:=by
 have hP:0<Ps.length:=List.length_pos_iff.2 hne
 have hlen:=x.lenE
 have hbd:=x.boundE
 obtain⟨p0,Ps',hP0⟩:∃p0 Ps',Ps=p0::Ps':=by cases Ps with
  |nil=>exact absurd rfl hne
  |cons p0 Ps'=>exact⟨p0,Ps',rfl⟩
 obtain⟨b,o,cc,cs,e,hc,hq,hg,hn,hn0⟩:=x.at hP
 have hp0:Ps[0]=p0:=by simp[hP0]
 rw[hp0] at hn
 have in0:=hl p0 (by rw[hP0];exact List.mem_cons_self ..)
 have row0:∀f t:Nat,f<5→t<5→nth (o+1+f*5+t*1) cs=some (.int .i64 (mg p0.2.2 f t)):=fun f t hf ht=>by
  rw[show o+1+f*5+t*1=o+0*26+(1+f*5+t*1) by omega,hn _ (by omega)]
  rw[←nth_eq];exact row_at in0.len hf ht
 subst e
 have s1:h.Sub (h.add (.cells .rw [.int .i64 0,.int .i64 0])):=(H.Sub.refl hw).add _
 have b0:=in0.lo t f ht hf
 have b1:=in0.hi t f ht hf
 have b2:=in0.lo f t hf ht
 have b3:=in0.hi f t hf ht
 have w0:wr .i64 (0-mg p0.2.2 t f)= -(mg p0.2.2 t f):=by rw[wr_in (by omega) (by omega)];omega
 have s2:h.Sub ((h.add (.cells .rw [.int .i64 0,.int .i64 0])).add (.cells .rw [.int .i64 0,.int .i64 0])):=s1.add _
 obtain⟨bw,hbw⟩:∃bw:Nat→Int × Int,∀i,bw i=((Ps.map fun p=>p.2.2).take i).foldl (fun s M=>(min s.1 (-(mg M t f)),max s.2 (mg M f t))) (-(mg p0.2.2 t f),mg p0.2.2 f t):=⟨_,fun _=>rfl⟩
 have hb0:bw 0=(-(mg p0.2.2 t f),mg p0.2.2 f t):=by rw[hbw];rfl
 have hbn:bw Ps.length=betw f t (Ps.map fun p=>p.2.2):=by
  rw[hbw,List.take_of_length_le (by rw[List.length_map];exact Nat.le_refl _),hP0];rfl
 refine Ev_body (fd:=c77) rfl rfl rfl ?_
 simp -implicitDefEqProofs(maxSteps:=999999)(disch:=first|with_reducible rfl|omega|(simp only[nA,nS,nD]<;>omega)|fail)only[c77,go_sem,hq (nat_num 0),s1.cells hc,s2.cells hc,iaa5 5 _ _ hf,iaa5 5 _ _ ht,iaa5 1 _ _ hf,iaa5 1 _ _ ht,row0 f t hf ht,row0 t f ht hf,w0,hlen]
 refine W_count Ps.length (fun i s=>∃tm h',s=⟨tm,h',[]⟩∧h.Sub h'∧h.next+1<h'.next∧h'.get h.next=some (.cells .rw [.int .i64 0,.int .i64 0])∧h'.get (h.next+1)=some (.cells .rw [.int .i64 (bw i).1,.int .i64 (bw i).2])∧
   (Opd.t 1).ev tm=.int .i64 (f:Int)∧(Opd.t 2).ev tm=.int .i64 (t:Int)∧(Opd.t 6).ev tm=.ptr h.next 0∧(Opd.t 7).ev tm=.ptr (h.next+1) 0∧(Opd.t 28).ev tm=.sl b o Ps.length cc∧(Opd.t 29).ev tm=.int .i64 (Ps.length:Int)∧(Opd.t 30).ev tm=.int .i64 (i:Int)) ?_ ?_ (i:=0) (Nat.zero_le _)
  ⟨_,_,rfl,(by repeat(first|assumption|exact H.Sub.refl (by assumption)|refine H.Sub.add ?_ _|refine H.Sub.set ?_ (by first|omega|(simp only[H.next_add,H.next_set,H.next_del]<;>omega)) (by first|omega|(simp only[H.next_add,H.next_set,H.next_del]<;>omega)) (by assumption) _)),by simp only[H.next_add];omega,by simp -implicitDefEqProofs(maxSteps:=999999)(disch:=first|with_reducible rfl|omega|(simp only[nA,nS,nD]<;>omega)|fail)only[go_sem],by rw[hb0];simp -implicitDefEqProofs(maxSteps:=999999)(disch:=first|with_reducible rfl|omega|(simp only[nA,nS,nD]<;>omega)|fail)only[go_sem],(by simp[ev_c,ev_put]<;>rfl),(by simp[ev_c,ev_put]<;>rfl),(by simp[ev_c,ev_put]<;>rfl),(by simp[ev_c,ev_put]<;>rfl),(by simp[ev_c,ev_put]<;>rfl),(by simp[ev_c,ev_put]<;>rfl),(by simp[ev_c,ev_put]<;>rfl)⟩
 ·rintro i s hi ⟨tm,h1,rfl,sh,nx,g6,g7,e1,e2,e6,e7,e28,e29,e30⟩
  have hi':(i:Int)<(Ps.length:Int):=by omega
  have hw1:=sh.wf
  obtain⟨b',o',cc',cs',e',hc',hq',hg',_,_⟩:=(x.mono sh).at hi
  cases e'
  obtain⟨p,hp⟩:∃p,Ps[i]=p:=⟨_,rfl⟩
  rw[hp] at hg'
  have hmem:p∈Ps:=by rw[←hp];exact List.getElem_mem hi
  have inp:=hl p hmem
  obtain⟨F,hF⟩:∃F,rowF p=F:=⟨_,rfl⟩
  have lF:F.length=26:=by rw[←hF];simp[rowF,inp.len]
  have oF:allOne F=true:=hone F ⟨p,hmem,hF⟩
  have nF:F≠[]:=by intro e0;rw[e0] at lF;cases lF
  have r1:nth (1+t*5+f*1) F=some (.int .i64 (mg p.2.2 t f)):=by rw[←hF];exact row_at inp.len ht hf
  have r2:nth (1+f*5+t*1) F=some (.int .i64 (mg p.2.2 f t)):=by rw[←hF];exact row_at inp.len hf ht
  rw[hF] at hg'
  have lnF:lenN F=26:=by rw[lenN_eq,lF]
  have pF:(h1.add (.cells .rw [.nils,.int .i64 0,.int .i64 0,.int .i64 0,.int .i64 0,.int .i64 0,.int .i64 0,.int .i64 0,.int .i64 0,.int .i64 0,.int .i64 0,.int .i64 0,.int .i64 0,.int .i64 0,.int .i64 0,.int .i64 0,.int .i64 0,.int .i64 0,.int .i64 0,.int .i64 0,.int .i64 0,.int .i64 0,.int .i64 0,.int .i64 0,.int .i64 0,.int .i64 0])).put h1.next 0 F=some ((h1.add (.cells .rw [.nils,.int .i64 0,.int .i64 0,.int .i64 0,.int .i64 0,.int .i64 0,.int .i64 0,.int .i64 0,.int .i64 0,.int .i64 0,.int .i64 0,.int .i64 0,.int .i64 0,.int .i64 0,.int .i64 0,.int .i64 0,.int .i64 0,.int .i64 0,.int .i64 0,.int .i64 0,.int .i64 0,.int .i64 0,.int .i64 0,.int .i64 0,.int .i64 0,.int .i64 0])).set h1.next (.cells .rw F)):=put_full (get_add_new rfl) (by rw[lF];rfl) nF oF
  have sA:=(H.Sub.refl hw1).add (.cells .rw F)
  have gA:(h1.add (.cells .rw F)).get h1.next=some (.cells .rw F):=get_add_new rfl
  have v0:=inp.lo t f ht hf
  have v1:=inp.hi t f ht hf
  have w1:wr .i64 (0-mg p.2.2 t f)= -(mg p.2.2 t f):=by rw[wr_in (by omega) (by omega)];omega
  have hstep:bw (i+1)=(min (bw i).1 (-(mg p.2.2 t f)),max (bw i).2 (mg p.2.2 f t)):=by
   rw[hbw,hbw,List.take_add_one,List.getElem?_map,List.getElem?_eq_getElem hi,hp,Option.map_some,Option.toList_some,List.foldl_append];rfl
  obtain⟨hA,hhA⟩:∃hA,h1.add (.cells .rw F)=hA:=⟨_,rfl⟩
  rw[hhA] at sA gA
  simp -implicitDefEqProofs(maxSteps:=999999)(disch:=first|with_reducible rfl|omega|(simp only[nA,nS,nD]<;>omega)|fail)only[go_sem,e1,e2,e6,e7,e28,e29,e30,hi',hq' (nat_cst i),hc',hg',lnF,pF,hhA,cells_of (sA.get g7),cells_of gA,iaa5 5 _ _ hf,iaa5 5 _ _ ht,iaa5 1 _ _ hf,iaa5 1 _ _ ht,r1,r2,w1]
  have sB:=(H.Sub.refl sA.wf).add (.cells .rw [.int .i64 (-mg p.2.2 t f)])
  refine least1_ev sA.wf _ _ _ fun h2 s2'=>?_
  have s12:=sA.trans s2'
  have n2:=s12.next
  simp -implicitDefEqProofs(maxSteps:=999999)(disch:=first|with_reducible rfl|omega|(simp only[nA,nS,nD]<;>omega)|fail)only[go_sem,e1,e2,e6,e7,e28,e29,e30,cells_of (sA.get g7),cells_of gA,cells_of (sB.get (sA.get g7)),cells_of (sB.get gA),cells_of (s12.get g7),cells_of (s2'.get gA),s12.get g7,iaa5 5 _ _ hf,iaa5 5 _ _ ht,iaa5 1 _ _ hf,iaa5 1 _ _ ht,r1,r2,w1,wr_succ]
  refine⟨_,_,rfl,(sh.trans s12).set (by omega) (by omega) hw _,by rw[H.next_set];omega,by rw[get_set_other (by omega)];exact s12.get g6,by rw[get_set_same rfl,hstep],(by simp[ev_c,ev_put,e1]<;>rfl),(by simp[ev_c,ev_put,e2]<;>rfl),(by simp[ev_c,ev_put,e6]<;>rfl),(by simp[ev_c,ev_put,e7]<;>rfl),(by simp[ev_c,ev_put,e28]<;>rfl),(by simp[ev_c,ev_put,e29]<;>rfl),(by simp[ev_c,ev_put]<;>rfl)⟩
 ·rintro s ⟨tm,h1,rfl,sh,nx,g6,g7,e1,e2,e6,e7,e28,e29,e30⟩
  have hi':¬((Ps.length:Int)<(Ps.length:Int)):=by omega
  simp -implicitDefEqProofs(maxSteps:=999999)(disch:=first|with_reducible rfl|omega|(simp only[nA,nS,nD]<;>omega)|fail)only[go_sem,e1,e2,e6,e7,e28,e29,e30,hi',cells_of g6,cells_of g7,g6,g7]
  rw[hbn]
  exact q _ (sh.set (Nat.le_refl _) (by omega) hw _)
end Go.Ab.Tryz
namespace Go.Ab.Tryz
open Go.Proofs
abbrev allC (a:At):List (Runs × List Int):=casesL a (fun _=>true)
def evW (a:At)(n:Int):Bool:=inB n 0 (wr .i64 (a.evs-1))
theorem evW_right {a:At}(r:Right a)(n:Int):evW a n=a.evB n:=by
 have:=r.evs
 unfold evW At.evB
 rw[wr_in (by omega) (by omega)]
theorem event_any {h:H}(hw:h.wf){C R G:V}(a:At)(n:Int)(Q:V→H→Prop)(q:∀h',h.Sub h'→Q (.bool (evW a n)) h'):Ev fnG fastA (.fn 76 [] []) [.agg (atV a C R G),.int .i64 n] h Q:=by
 refine Ev_body (fd:=c76) rfl rfl rfl ?_
 have s:h.Sub (h.add (.cells .rw (atV a C R G))):=(by repeat(first|assumption|exact H.Sub.refl (by assumption)|refine H.Sub.add ?_ _|refine H.Sub.set ?_ (by first|omega|(simp only[H.next_add,H.next_set,H.next_del]<;>omega)) (by first|omega|(simp only[H.next_add,H.next_set,H.next_del]<;>omega)) (by assumption) _))
 simp -implicitDefEqProofs(maxSteps:=999999)(disch:=first|with_reducible rfl|omega|(simp only[nA,nS,nD]<;>omega)|fail)only[c76,go_sem,in_eq]
 exact q _ s
def errT (a:At)(bad:Bool):Int:=if checkA a≠0 then checkA a else if bad=true then 1 else if allC a=[] then 7 else 0
def timeR (a:At)(e:Int):(Int × Int) × Int:=if errT a (!a.evB e)≠0 then((0,0),errT a (!a.evB e)) else(betw 4 e.toNat ((allC a).map Prod.snd),0)
theorem errT_bad {a:At}{b b':Bool}(h:Right a→b=b'):errT a b=errT a b':=by
 unfold errT
 by_cases hc:checkA a=0
 ·rw[h (checkA_iff.1 hc)]
 ·rw[if_pos hc,if_pos hc]
theorem evB_nat {a:At}(r:Right a){n:Int}(h:a.evB n=true):∃k:Nat,n=k∧k<4:=by
 have:=r.evs
 simp only[At.evB,inB_iff] at h
 exact⟨n.toNat,by omega,by omega⟩
theorem told_ev2 {h:H}(hw:h.wf){a:At}{C R G:V}(x:AtAt h C R G a)(bad:Bool)(Q:V→H→Prop)
  (q1:∀h',h.Sub h'→errT a bad≠0→Q (.tup [.nilp,.nils,.int .i64 (errT a bad)]) h')
  (q2:∀h' v y Ps,h.Sub h'→SlAt h' y 26 (Ps.map rowF)→(∀p∈Ps,In5 240 p.2.2)→(∀F,(∃p∈Ps,rowF p=F)→allOne F=true)→Ps≠[]→Right a→bad=false→errT a bad=0→Ps.map Prod.snd=allC a→FsO h h' y Ps→Q (.tup [v,y,.int .i64 0]) h'):
  Ev fnG fastA (.fn 75 [] []) [.agg (atV a C R G),.bool bad] h Q:=by
 refine told_ev hw x bad _ (fun h' s he=>?_) (fun h' s r hb=>?_) (fun h' s r hb hn=>?_) (fun h' v y Ps f r hb e hn=>?_)
 ·have e1:errT a bad=checkA a:=if_pos he
  rw[←e1];exact q1 _ s (by rw[e1];exact he)
 ·have e1:errT a bad=1:=by unfold errT;rw[if_neg (by rw[checkA_iff.2 r];simp),if_pos hb]
  have:=q1 _ s (by rw[e1];decide)
  rwa[e1] at this
 ·have e1:errT a bad=7:=by unfold errT;rw[if_neg (by rw[checkA_iff.2 r];simp),if_neg (by rw[hb];simp),if_pos hn]
  have:=q1 _ s (by rw[e1];decide)
  rwa[e1] at this
 ·have hne:allC a≠[]:=fun hc=>hn (List.map_eq_nil_iff.1 (e.trans hc))
  have e1:errT a bad=0:=by unfold errT;rw[if_neg (by rw[checkA_iff.2 r];simp),if_neg (by rw[hb];simp),if_neg hne]
  have hPl:Ps.length≤15625:=by have:=casesL_len r (fun _=>true);rw[←e,List.length_map] at this;exact this
  refine q2 _ v y Ps f.o.1 (f.o.sl (by rw[List.length_map];omega)) (fun p hp=>casesL_in r p.2 (by rw[←e];exact List.mem_map_of_mem hp)) (fun F ⟨p,hp,hF⟩=>?_) hn r hb e1 e f
  rw[←hF,rowF,allOne_cons,(f.e p hp).one,allOne_iv];rfl
set_option maxHeartbeats 1000000 in
theorem time_ev {h:H}(hw:h.wf){a:At}{C R G:V}(x:AtAt h C R G a)(e:Int)(Q:V→H→Prop)
  (q:∀h',h.Sub h'→Q (.tup [spV (timeR a e).1,.int .i64 (timeR a e).2]) h'):Ev fnG fastA (.fn 18 [] []) [.agg (atV a C R G),.int .i64 e] h Q:=by
 have oC:=x.c.one;have oR:=x.r.one;have oG:=x.g.one
 have heq:errT a (!evW a e)=errT a (!a.evB e):=errT_bad fun r=>by rw[evW_right r]
 refine Ev_body (fd:=c18) rfl rfl rfl ?_
 simp -implicitDefEqProofs(maxSteps:=999999)(disch:=first|with_reducible rfl|omega|(simp only[nA,nS,nD]<;>omega)|fail)only[c18,go_sem]
 have s2:h.Sub ((h.add (.cells .rw (atV a C R G))).add (.cells .rw [.int .i64 0,.int .i64 0])):=(by repeat(first|assumption|exact H.Sub.refl (by assumption)|refine H.Sub.add ?_ _|refine H.Sub.set ?_ (by first|omega|(simp only[H.next_add,H.next_set,H.next_del]<;>omega)) (by first|omega|(simp only[H.next_add,H.next_set,H.next_del]<;>omega)) (by assumption) _))
 have ga:((h.add (.cells .rw (atV a C R G))).add (.cells .rw [.int .i64 0,.int .i64 0])).get h.next=some (.cells .rw (atV a C R G)):=by simp -implicitDefEqProofs(maxSteps:=999999)(disch:=first|with_reducible rfl|omega|(simp only[nA,nS,nD]<;>omega)|fail)only[go_sem]
 have g4:((h.add (.cells .rw (atV a C R G))).add (.cells .rw [.int .i64 0,.int .i64 0])).get (h.next+1)=some (.cells .rw [.int .i64 0,.int .i64 0]):=by simp -implicitDefEqProofs(maxSteps:=999999)(disch:=first|with_reducible rfl|omega|(simp only[nA,nS,nD]<;>omega)|fail)only[go_sem]
 have n2:((h.add (.cells .rw (atV a C R G))).add (.cells .rw [.int .i64 0,.int .i64 0])).next=h.next+2:=by simp only[H.next_add]
 generalize(h.add (.cells .rw (atV a C R G))).add (.cells .rw [.int .i64 0,.int .i64 0])=h2 at s2 ga g4 n2⊢
 refine event_any s2.wf a e _ fun h3 s3=>?_
 simp -implicitDefEqProofs(maxSteps:=999999)(disch:=first|with_reducible rfl|omega|(simp only[nA,nS,nD]<;>omega)|fail)only[go_sem,cells_of ga,cells_of (s3.get ga)]
 have d0:decide ((0:Int)≠0)=false:=rfl
 refine told_ev2 s3.wf (x.mono (s2.trans s3)) (!evW a e) _ (fun h4 s4 he=>?_) fun h4 v y Ps s4 hx hl ho hne r hb he e' _=>?_
 ·have sx:=s3.trans s4
  have l4:=sx.next
  simp -implicitDefEqProofs(maxSteps:=999999)(disch:=first|with_reducible rfl|omega|(simp only[nA,nS,nD]<;>omega)|fail)only[go_sem,cells_of ga,cells_of (s3.get ga),cells_of (sx.get ga),(decide_eq_true he:decide (errT a (!evW a e)≠0)=true),sx.get g4,get_set_same]
  rw[heq] at he⊢
  have:=q _ ((s2.trans sx).set (b:=h.next+1) (by omega) (by omega) hw (.cells .rw [.int .i64 0,.int .i64 0]))
  rwa[timeR,if_pos he] at this
 ·have sx:=s3.trans s4
  have l4:=sx.next
  have hev:a.evB e=true:=by rw[←evW_right r];simpa using hb
  obtain⟨k,rfl,hk⟩:=evB_nat r hev
  simp -implicitDefEqProofs(maxSteps:=999999)(disch:=first|with_reducible rfl|omega|(simp only[nA,nS,nD]<;>omega)|fail)only[go_sem,cells_of ga,cells_of (s3.get ga),cells_of (sx.get ga),d0]
  refine between_ev s4.wf hx hl ho hne (f:=4) (t:=k) (by decide) (by omega) _ fun h5 s5=>?_
  have sy:=sx.trans s5
  have l5:=sy.next
  simp -implicitDefEqProofs(maxSteps:=999999)(disch:=first|with_reducible rfl|omega|(simp only[nA,nS,nD]<;>omega)|fail)only[go_sem,sy.get g4,get_set_same]
  have:=q _ ((s2.trans sy).set (b:=h.next+1) (by omega) (by omega) hw (.cells .rw [.int .i64 (timeR a k).1.1,.int .i64 (timeR a k).1.2]))
  rw[heq] at he
  have ht:timeR a k=(betw 4 k (Ps.map fun p=>p.2.2),0):=by
   rw[timeR,if_neg (by rw[he];simp),Int.toNat_natCast,←e',List.map_map];rfl
  rw[ht] at this
  exact this
end Go.Ab.Tryz
namespace Go.Ab.Tryz
open Go.Proofs
theorem fold_le {f t:Nat}:∀{l:List (List Int)} {s:Int × Int},(l.foldl (fun s M=>(min s.1 (-(mg M t f)),max s.2 (mg M f t))) s).1≤s.1∧s.2≤(l.foldl (fun s M=>(min s.1 (-(mg M t f)),max s.2 (mg M f t))) s).2∧
  (∀M∈l,(l.foldl (fun s M=>(min s.1 (-(mg M t f)),max s.2 (mg M f t))) s).1≤ -(mg M t f)∧mg M f t≤(l.foldl (fun s M=>(min s.1 (-(mg M t f)),max s.2 (mg M f t))) s).2)
 |[],s=>⟨Int.le_refl _,Int.le_refl _,fun M h=>absurd h List.not_mem_nil⟩
 |L::l,s=>by
  rw[List.foldl_cons]
  obtain⟨h1,h2,h3⟩:=fold_le (f:=f) (t:=t) (l:=l) (s:=(min s.1 (-(mg L t f)),max s.2 (mg L f t)))
  generalize l.foldl (fun s M=>(min s.1 (-(mg M t f)),max s.2 (mg M f t))) (min s.1 (-(mg L t f)),max s.2 (mg L f t))=w at h1 h2 h3⊢
  simp only at h1 h2
  refine⟨by omega,by omega,fun M hM=>?_⟩
  rcases List.mem_cons.1 hM with rfl|hM
  ·omega
  ·exact h3 M hM
theorem fold_ex {f t:Nat}:∀{l:List (List Int)} {s:Int × Int},((l.foldl (fun s M=>(min s.1 (-(mg M t f)),max s.2 (mg M f t))) s).2=s.2∨∃M∈l,(l.foldl (fun s M=>(min s.1 (-(mg M t f)),max s.2 (mg M f t))) s).2=mg M f t)
 |[],s=>.inl rfl
 |L::l,s=>by
  rw[List.foldl_cons]
  rcases fold_ex (f:=f) (t:=t) (l:=l) (s:=(min s.1 (-(mg L t f)),max s.2 (mg L f t))) with h|⟨M,hM,h⟩
  ·rw[h]
   by_cases hc:mg L f t≤s.2
   ·exact .inl (by show max s.2 (mg L f t)=s.2;omega)
   ·exact .inr ⟨L,List.mem_cons_self ..,by show max s.2 (mg L f t)=mg L f t;omega⟩
  ·exact .inr ⟨M,List.mem_cons_of_mem _ hM,h⟩
theorem betw_ge {f t:Nat}{l:List (List Int)}{M:List Int}(h:M∈l):(betw f t l).1≤ -(mg M t f)∧mg M f t≤(betw f t l).2:=by
 cases l with
 |nil=>cases h
 |cons L l=>exact fold_le.2.2 M h
theorem betw_ex {f t:Nat}{l:List (List Int)}(h:l≠[]):∃M∈l,(betw f t l).2=mg M f t:=by
 cases l with
 |nil=>exact absurd rfl h
 |cons L l=>
  rcases fold_ex (f:=f) (t:=t) (l:=L::l) (s:=(-(mg L t f),mg L f t)) with h|h
  ·exact⟨L,List.mem_cons_self ..,h⟩
  ·exact h
theorem fold_dual {f t:Nat}:∀{l:List (List Int)} {s:Int × Int},l.foldl (fun s M=>(min s.1 (-(mg M f t)),max s.2 (mg M t f))) (-s.2, -s.1)=(-(l.foldl (fun s M=>(min s.1 (-(mg M t f)),max s.2 (mg M f t))) s).2, -(l.foldl (fun s M=>(min s.1 (-(mg M t f)),max s.2 (mg M f t))) s).1)
 |[],s=>rfl
 |L::l,s=>by
  rw[List.foldl_cons,List.foldl_cons,←fold_dual (l:=l)]
  congr 1
  exact Prod.ext (by show min (-s.2) (-(mg L f t))= -(max s.2 (mg L f t));omega) (by show max (-s.1) (mg L t f)= -(min s.1 (-(mg L t f)));omega)
theorem betw_dual {f t:Nat}(l:List (List Int)):betw t f l=(-(betw f t l).2, -(betw f t l).1):=by
 cases l with
 |nil=>rfl
 |cons L l=>
  have:=fold_dual (f:=f) (t:=t) (l:=L::l) (s:=(-(mg L t f),mg L f t))
  simp only[Int.neg_neg] at this
  exact this
theorem betw_tru {a:At}(r:Right a){runs:Runs}{y:Nat→Int}(h:Tru a (fun _=>true) runs y){f t:Nat}(hf:f<5)(ht:t<5):allC a≠[]∧(betw f t ((allC a).map Prod.snd)).1≤y t-y f∧y t-y f≤(betw f t ((allC a).map Prod.snd)).2:=by
 obtain⟨L,hL⟩:=cases_full r h
 have hs:=((cases_sound r hL).2.2.2 y h.beg).2 h
 have hb:(betw f t ((allC a).map Prod.snd)).1≤ -(mg L t f)∧mg L f t≤(betw f t ((allC a).map Prod.snd)).2:=betw_ge (f:=f) (t:=t) (List.mem_map_of_mem (f:=Prod.snd) hL)
 have h1:y t-y f≤mg L f t:=hs f t hf ht
 have h2:y f-y t≤mg L t f:=hs t f ht hf
 refine⟨fun e=>List.ne_nil_of_mem hL e,?_,?_⟩
 ·omega
 ·omega
end Go.Ab.Tryz
namespace Go.Ab
theorem shw_succ (set gain:Int)(i:Nat):shw set gain ((i+1:Nat):Int)=shw set gain i+1+((i:Int)*gain%60+gain)/60∧((i+1:Nat):Int)*gain%60=(((i:Int)*gain%60+gain))%60:=by
 have e:((i+1:Nat):Int)*gain=(i:Int)*gain+gain:=by rw[Int.natCast_add,Int.add_mul];simp
 unfold shw
 rw[e]
 constructor<;>omega
end Go.Ab
namespace Go.Ab.Tryz
open Go.Proofs
set_option maxHeartbeats 1000000 in
theorem lshows_ev {h:H}(hw:h.wf){set gain m:Int}(r:RunIn set gain)(h0:0≤m)(h1:m≤240)(Q:V→H→Prop)(q:Q (.int .i64 (shw set gain m)) h):
  Ev fnG fastA (.fn 61 [] []) [.int .i64 set,.int .i64 gain,.int .i64 m] h Q:=by
 have a0:=r.s0;have a1:=r.s1;have a2:=r.g0;have a3:=r.g1
 obtain⟨n,rfl⟩:=Int.eq_ofNat_of_zero_le h0
 refine Ev_body (fd:=c61) rfl rfl rfl ?_
 simp -implicitDefEqProofs(maxSteps:=999999)(disch:=first|with_reducible rfl|omega|(simp only[nA,nS,nD]<;>omega)|fail)only[c61,go_sem]
 refine W_count n (fun i s=>∃tm,s=⟨tm,h,[]⟩∧(Opd.t 1).ev tm=.int .i64 gain∧(Opd.t 7).ev tm=.int .i64 (shw set gain i)∧(Opd.t 8).ev tm=.int .i64 ((i:Int)*gain%60)∧(Opd.t 10).ev tm=.int .i64 (n:Int)∧(Opd.t 11).ev tm=.int .i64 (i:Int))
  ?_ ?_ (i:=0) (Nat.zero_le _) ⟨_,rfl,(by simp[ev_c,ev_put]<;>rfl),(by rw[show shw set gain ((0:Nat):Int)=set by simp[shw]];exact(by simp[ev_c,ev_put]<;>rfl)),(by rw[show((0:Nat):Int)*gain%60=0 by simp];exact(by simp[ev_c,ev_put]<;>rfl)),(by simp[ev_c,ev_put]<;>rfl),(by simp[ev_c,ev_put]<;>rfl)⟩
 ·rintro i s hi ⟨tm,rfl,e1,e7,e8,e10,e11⟩
  have hi':(i:Int)<(n:Int):=by omega
  obtain⟨k1,k2⟩:=shw_succ set gain i
  obtain⟨R,hR⟩:∃R,(i:Int)*gain%60=R:=⟨_,rfl⟩
  have hR0:0≤R∧R<60:=by omega
  obtain⟨S,hS⟩:∃S,shw set gain i=S:=⟨_,rfl⟩
  have hS0:=shw_bd (m:=i) r (by omega) (by omega)
  rw[hS] at hS0 e7 k1
  rw[hR] at e8 k1 k2
  have w1:wr .i64 (S+1)=S+1:=wr_in (by omega) (by omega)
  have w2:wr .i64 (R+gain)=R+gain:=wr_in (by omega) (by omega)
  simp -implicitDefEqProofs(maxSteps:=999999)(disch:=first|with_reducible rfl|omega|(simp only[nA,nS,nD]<;>omega)|fail)only[go_sem,e1,e7,e8,e10,e11,hi',w1,w2]
  refine W_count (-((R+gain)/60)).toNat (fun j s=>∃tm,s=⟨tm,h,[]⟩∧(Opd.t 1).ev tm=.int .i64 gain∧(Opd.t 7).ev tm=.int .i64 (S+1-j)∧(Opd.t 8).ev tm=.int .i64 (R+gain+60*j)∧(Opd.t 10).ev tm=.int .i64 (n:Int)∧(Opd.t 11).ev tm=.int .i64 (i:Int))
   ?_ ?_ (i:=0) (Nat.zero_le _) ⟨_,rfl,(by simp[ev_c,ev_put,e1]<;>rfl),(by rw[show S+1-((0:Nat):Int)=S+1 by simp];exact(by simp[ev_c,ev_put]<;>rfl)),(by rw[show R+gain+60*((0:Nat):Int)=R+gain by simp];exact(by simp[ev_c,ev_put]<;>rfl)),(by simp[ev_c,ev_put,e10]<;>rfl),(by simp[ev_c,ev_put,e11]<;>rfl)⟩
  ·rintro j s hj ⟨tm,rfl,e1,e7,e8,e10,e11⟩
   have hlt:R+gain+60*(j:Int)<0:=by omega
   have w3:wr .i64 (S+1-j-1)=S+1-((j+1:Nat):Int):=by rw[wr_in (by omega) (by omega)];omega
   have w4:wr .i64 (R+gain+60*(j:Int)+60)=R+gain+60*((j+1:Nat):Int):=by rw[wr_in (by omega) (by omega)];omega
   simp -implicitDefEqProofs(maxSteps:=999999)(disch:=first|with_reducible rfl|omega|(simp only[nA,nS,nD]<;>omega)|fail)only[go_sem,e1,e7,e8,e10,e11,hlt,w3,w4]
   exact⟨_,rfl,(by simp[ev_c,ev_put,e1]<;>rfl),(by simp[ev_c,ev_put]<;>rfl),(by simp[ev_c,ev_put]<;>rfl),(by simp[ev_c,ev_put,e10]<;>rfl),(by simp[ev_c,ev_put,e11]<;>rfl)⟩
  ·rintro s ⟨tm,rfl,e1,e7,e8,e10,e11⟩
   obtain⟨j,hj⟩:∃j:Nat,(-((R+gain)/60)).toNat=j:=⟨_,rfl⟩
   rw[hj] at e7 e8
   have hlt:¬R+gain+60*(j:Int)<0:=by omega
   simp -implicitDefEqProofs(maxSteps:=999999)(disch:=first|with_reducible rfl|omega|(simp only[nA,nS,nD]<;>omega)|fail)only[go_sem,e1,e7,e8,e10,e11,hlt]
   refine W_count ((R+gain)/60).toNat (fun q s=>∃tm,s=⟨tm,h,[]⟩∧(Opd.t 1).ev tm=.int .i64 gain∧(Opd.t 7).ev tm=.int .i64 (S+1-j+q)∧(Opd.t 8).ev tm=.int .i64 (R+gain+60*j-60*q)∧(Opd.t 10).ev tm=.int .i64 (n:Int)∧(Opd.t 11).ev tm=.int .i64 (i:Int))
    ?_ ?_ (i:=0) (Nat.zero_le _) ⟨_,rfl,(by simp[ev_c,ev_put,e1]<;>rfl),(by rw[show S+1-(j:Int)+((0:Nat):Int)=S+1-j by simp];exact(by simp[ev_c,ev_put,e7]<;>rfl)),(by rw[show R+gain+60*(j:Int)-60*((0:Nat):Int)=R+gain+60*j by simp];exact(by simp[ev_c,ev_put,e8]<;>rfl)),(by simp[ev_c,ev_put,e10]<;>rfl),(by simp[ev_c,ev_put,e11]<;>rfl)⟩
   ·rintro q s hq ⟨tm,rfl,e1,e7,e8,e10,e11⟩
    have hgt:59<R+gain+60*(j:Int)-60*(q:Int):=by omega
    have w3:wr .i64 (S+1-(j:Int)+q+1)=S+1-(j:Int)+((q+1:Nat):Int):=by rw[wr_in (by omega) (by omega)];omega
    have w4:wr .i64 (R+gain+60*(j:Int)-60*q-60)=R+gain+60*(j:Int)-60*((q+1:Nat):Int):=by rw[wr_in (by omega) (by omega)];omega
    simp -implicitDefEqProofs(maxSteps:=999999)(disch:=first|with_reducible rfl|omega|(simp only[nA,nS,nD]<;>omega)|fail)only[go_sem,e1,e7,e8,e10,e11,hgt,w3,w4]
    exact⟨_,rfl,(by simp[ev_c,ev_put,e1]<;>rfl),(by simp[ev_c,ev_put]<;>rfl),(by simp[ev_c,ev_put]<;>rfl),(by simp[ev_c,ev_put,e10]<;>rfl),(by simp[ev_c,ev_put,e11]<;>rfl)⟩
   ·rintro s ⟨tm,rfl,e1,e7,e8,e10,e11⟩
    obtain⟨q,hq⟩:∃q:Nat,((R+gain)/60).toNat=q:=⟨_,rfl⟩
    rw[hq] at e7 e8
    have hgt:¬59<R+gain+60*(j:Int)-60*(q:Int):=by omega
    have x1:S+1-(j:Int)+q=shw set gain ((i+1:Nat):Int):=by rw[k1];omega
    have x2:R+gain+60*(j:Int)-60*q=((i+1:Nat):Int)*gain%60:=by rw[k2];omega
    rw[x1] at e7
    rw[x2] at e8 hgt
    simp -implicitDefEqProofs(maxSteps:=999999)(disch:=first|with_reducible rfl|omega|(simp only[nA,nS,nD]<;>omega)|fail)only[go_sem,e1,e7,e8,e10,e11,hgt,wr_succ]
    exact⟨_,rfl,(by simp[ev_c,ev_put,e1]<;>rfl),(by simp[ev_c,ev_put,e7]<;>rfl),(by simp[ev_c,ev_put,e8]<;>rfl),(by simp[ev_c,ev_put,e10]<;>rfl),(by simp[ev_c,ev_put]<;>rfl)⟩
 ·rintro s ⟨tm,rfl,e1,e7,e8,e10,e11⟩
  simp -implicitDefEqProofs(maxSteps:=999999)(disch:=first|with_reducible rfl|omega|(simp only[nA,nS,nD]<;>omega)|fail)only[go_sem,e1,e7,e8,e10,e11,Int.lt_irrefl]
  exact q
end Go.Ab.Tryz
