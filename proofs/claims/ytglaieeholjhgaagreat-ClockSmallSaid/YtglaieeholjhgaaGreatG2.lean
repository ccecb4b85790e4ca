import Derived.KernelRfl
import Derived.Test.YtglaieeholjhgaaGreatAb2
import Derived.Test.YtglaieeholjhgaaGreatOk
import Derived.Test.YtglaieeholjhgaaGreatAbU
import Derived.Test.YtglaieeholjhgaaGreatAc2
import Derived.Test.YtglaieeholjhgaaGreatAc7
import Derived.Test.YtglaieeholjhgaaGreatAc9
import Derived.Test.YtglaieeholjhgaaGreatAc4
import Derived.Test.YtglaieeholjhgaaGreatAcA
import Derived.Test.YtglaieeholjhgaaGreatSh
import Derived.Test.YtglaieeholjhgaaGreatAc8
set_option linter.unusedSimpArgs false
set_option linter.unusedVariables false
theorem yaa {p:Prop}(h:p:=by repeat(first|assumption|exact H.Sub.refl (by assumption)|refine H.Sub.add ?_ _|refine H.Sub.set ?_ (by first|omega|(simp only[H.next_add,H.next_set,H.next_del]<;>omega)) (by first|omega|(simp only[H.next_add,H.next_set,H.next_del]<;>omega)) (by assumption) _)):p:=h
theorem yab {p:Prop}(h:p:=by omega):p:=h
theorem yac {p:Prop}(h:p:=by simp[Zm,Zd]<;>rfl):p:=h
theorem yad {p:Prop}(h:p:=by simp[Zm,Zd,e2]<;>rfl):p:=h
theorem yae {p:Prop}(h:p:=by simp[Zm,Zd,e0]<;>rfl):p:=h
theorem yaf {p:Prop}(h:p:=by simp[Zm,Zd,e1]<;>rfl):p:=h
theorem yag {p:Prop}(h:p:=by simp[Zm,Zd,e8]<;>rfl):p:=h
theorem yah {p:Prop}(h:p:=by decide):p:=h
theorem yai {p:Prop}(h:p:=by simp[Zm,Zd,e6]<;>rfl):p:=h
theorem yaj {p:Prop}(h:p:=by simp[Zm,Zd,c.e2]<;>rfl):p:=h
theorem yak {p:Prop}(h:p:=by simp[Zm,Zd,e7]<;>rfl):p:=h
theorem yal {p:Prop}(h:p:=by simp[Zm,Zd,e18]<;>rfl):p:=h
theorem yam {p:Prop}(h:p:=by simp[Zm,Zd,e5]<;>rfl):p:=h
theorem yan {p:Prop}(h:p:=by rw[List.length_map];omega):p:=h
theorem yao {p:Prop}(h:p:=by simp):p:=h
theorem yap {p:Prop}(h:p:=by simp[Zm,Zd,c.e1]<;>rfl):p:=h
theorem yaq {p:Prop}(h:p:=by simp[Zm,Zd,c.e4]<;>rfl):p:=h
theorem yar {p:Prop}(h:p:=by simp[Zm,Zd,e10]<;>rfl):p:=h
theorem yas {p:Prop}(h:p:=by simp[Zm,Zd,e4]<;>rfl):p:=h
theorem yat {p:Prop}(h:p:=by simp[Zm,Zd,e9]<;>rfl):p:=h
theorem yau {p:Prop}(h:p:=by simp[Zm,Zd,c.e3]<;>rfl):p:=h
theorem yav {p:Prop}(h:p:=by simp[Zm,Zd,e19]<;>rfl):p:=h
theorem yaw {p:Prop}(h:p:=by rw[Xn];exact hL):p:=h
theorem yax {p:Prop}(h:p:=by simp[Zm,Zd,e20]<;>rfl):p:=h
theorem yay {p:Prop}(h:p:=by simp only[Zd];rfl):p:=h
theorem yaz {p:Prop}(h:p:=by rw[H.next_add];omega):p:=h
theorem yaA {p:Prop}(h:p:=by simp[Zm,Zd,c.e5]<;>rfl):p:=h
theorem yaB {p:Prop}(h:p:=by simp[Zm,Zd,c.e7]<;>rfl):p:=h
theorem yaC {p:Prop}(h:p:=by simp[Zm,Zd,c.e8]<;>rfl):p:=h
theorem yaD {p:Prop}(h:p:=by simp[Zm,Zd,e11]<;>rfl):p:=h
theorem yaE {p:Prop}(h:p:=by simp[Zm,Zd,e17]<;>rfl):p:=h
namespace Go.Ab
def mg (L:List Int)(a b:Nat):Int:=L.getD (5*a+b) 0
def rl (m a b:Nat)(L:List Int):List Int:=L.set (5*a+b) (min (mg L a b) (mg L a m+mg L m b))
def run5:Nat→List Int→List Int
 |0,L=>L
 |k+1,L=>rl (k/25) (k/5%5) (k%5) (run5 k L)
theorem run5_at {m a b:Nat}(ha:a<5)(hb:b<5)(L:List Int):run5 (25*m+5*a+b+1) L=rl m a b (run5 (25*m+5*a+b) L):=by
 rw[run5,show(25*m+5*a+b)/25=m by omega,show(25*m+5*a+b)/5%5=a by omega,show(25*m+5*a+b)%5=b by omega]
theorem rl_len (m a b:Nat)(L:List Int):(rl m a b L).length=L.length:=by simp[rl]
theorem Xn (L:List Int):∀k,(run5 k L).length=L.length
 |0=>rfl
 |k+1=>by rw[run5,rl_len,Xn L k]
theorem mg_rl {L:List Int}(hL:L.length=25){m a b:Nat}(ha:a<5)(hb:b<5)(x y:Nat)(hx:x<5)(hy:y<5):mg (rl m a b L) x y=if x=a∧y=b then min (mg L a b) (mg L a m+mg L m b) else mg L x y:=by
 unfold rl
 generalize min (mg L a b) (mg L a m+mg L m b)=v
 unfold mg
 rw[List.getD_eq_getElem?_getD,List.getD_eq_getElem?_getD,List.getElem?_set]
 by_cases h:x=a∧y=b
 ·obtain⟨rfl,rfl⟩:=h
  have:5*x+y<25:=by omega
  simp[hL,this]
 ·rw[if_neg h]
  have:5*a+b≠5*x+y:=by omega
  simp[this]
theorem rl_le {L:List Int}(hL:L.length=25){m a b:Nat}(ha:a<5)(hb:b<5){x y:Nat}(hx:x<5)(hy:y<5):mg (rl m a b L) x y≤mg L x y:=by
 rw[mg_rl hL ha hb x y hx hy]
 split
 ·rename_i h;obtain⟨rfl,rfl⟩:=h;omega
 ·omega
theorem run5_le {L:List Int}(hL:L.length=25){x y:Nat}(hx:x<5)(hy:y<5):∀{k j:Nat},j≤k→mg (run5 k L) x y≤mg (run5 j L) x y
 |0,j,h=>by
   have:j=0:=by omega
   subst this;exact Int.le_refl _
 |k+1,j,h=>by
  rcases Nat.lt_or_ge k j with h1|h1
  ·have:j=k+1:=by omega
   subst this;exact Int.le_refl _
  ·have h2:=run5_le hL hx hy (k:=k) h1
   have h3:=rl_le (L:=run5 k L) yaw (m:=k/25) (a:=k/5%5) (b:=k%5) yab yab hx hy
   rw[run5];omega
def Sol (x:Nat→Int)(L:List Int):Prop:=∀a b,a<5→b<5→x b-x a≤mg L a b
theorem Sol.rl {x:Nat→Int}{L:List Int}(hL:L.length=25)(h:Sol x L){m a b:Nat}(hm:m<5)(ha:a<5)(hb:b<5):Sol x (rl m a b L):=by
 intro c d hc hd
 rw[mg_rl hL ha hb c d hc hd]
 have h0:=h c d hc hd
 split
 ·rename_i e;obtain⟨rfl,rfl⟩:=e
  have h1:=h c m hc hm
  have h2:=h m d hm hd
  omega
 ·exact h0
theorem Sol.run5 {x:Nat→Int}{L:List Int}(hL:L.length=25)(h:Sol x L):∀{k},k≤125→Sol x (run5 k L)
 |0,_=>h
 |k+1,hk=>(Sol.run5 hL h (k:=k) yab).rl yaw yab yab yab
theorem Sol.of_le {x:Nat→Int}{L K:List Int}(h:Sol x L)(hle:∀a b,a<5→b<5→mg L a b≤mg K a b):Sol x K:=fun a b ha hb=>by have:=h a b ha hb;have:=hle a b ha hb;omega
structure Bd (C:Int)(m a b:Nat)(L:List Int):Prop where
 all:∀x y,x<5→y<5→ -(6*C)≤mg L x y
 col:∀x,x<5→ -(3*C)≤mg L x m
 row:∀y,y<5→ -(3*C)≤mg L m y
 mid: -(2*C)≤mg L m m
 colN:∀x,x<5→(a<x∨(x=a∧b≤m))→ -C≤mg L x m
 rowN:∀y,y<5→(a<m∨(m=a∧b≤y))→ -C≤mg L m y
theorem Bd.start {C:Int}(hC:0≤C){L:List Int}{m:Nat}(hm:m<5)(h:∀x y,x<5→y<5→ -C≤mg L x y):Bd C m 0 0 L:=
 ⟨fun x y hx hy=>by have:=h x y hx hy;omega,fun x hx=>by have:=h x m hx hm;omega,fun y hy=>by have:=h m y hm hy;omega,by have:=h m m hm hm;omega,fun x hx _=>h x m hx hm,fun y hy _=>h m y hm hy⟩
theorem Bd.step {C:Int}(hC:0≤C){L:List Int}(hL:L.length=25){m a b:Nat}(hm:m<5)(ha:a<5)(hb:b<5)(h:Bd C m a b L):Bd C m a (b+1) (rl m a b L):=by
 have hv:∀v,mg L a b=v→min v (mg L a m+mg L m b)=min v (mg L a m+mg L m b):=fun _ _=>rfl
 have c1:=h.col a ha
 have r1:=h.row b hb
 have al:=h.all a b ha hb
 have hmm:=h.mid
 refine⟨fun x y hx hy=>?_,fun x hx=>?_,fun y hy=>?_,?_,fun x hx hp=>?_,fun y hy hp=>?_⟩
 ·rw[mg_rl hL ha hb x y hx hy]
  have:=h.all x y hx hy
  split<;>omega
 ·rw[mg_rl hL ha hb x m hx hm]
  have:=h.col x hx
  split
  ·rename_i e;obtain⟨rfl,rfl⟩:=e
   have:=h.colN x hx (.inr ⟨rfl,Nat.le_refl _⟩)
   omega
  ·omega
 ·rw[mg_rl hL ha hb m y hm hy]
  have:=h.row y hy
  split
  ·rename_i e;obtain⟨rfl,rfl⟩:=e
   have:=h.rowN y hy (.inr ⟨rfl,Nat.le_refl _⟩)
   omega
  ·omega
 ·rw[mg_rl hL ha hb m m hm hm]
  split
  ·rename_i e;obtain⟨rfl,rfl⟩:=e
   have:=h.colN m hm (.inr ⟨rfl,Nat.le_refl _⟩)
   omega
  ·omega
 ·rw[mg_rl hL ha hb x m hx hm,if_neg yab]
  exact h.colN x hx yab
 ·rw[mg_rl hL ha hb m y hm hy,if_neg yab]
  exact h.rowN y hy yab
theorem Bd.next {C:Int}{L:List Int}{m a:Nat}(h:Bd C m a 5 L)(hm:m<5):Bd C m (a+1) 0 L:=
 ⟨h.all,h.col,h.row,h.mid,fun x hx hp=>h.colN x hx yab,fun y hy hp=>h.rowN y hy yab⟩
theorem run5_bd {C:Int}(hC:0≤C){L:List Int}(hL:L.length=25){m:Nat}(hm:m<5)(h:∀x y,x<5→y<5→ -C≤mg (run5 (25*m) L) x y):∀{a b:Nat},a<5→b≤5→Bd C m a b (run5 (25*m+5*a+b) L)
 |0,0,_,_=>Bd.start hC hm h
 |a+1,0,ha,_=>by
  have:=(run5_bd hC hL hm h (a:=a) (b:=5) yab (Nat.le_refl _)).next hm
  rwa[show 25*m+5*a+5=25*m+5*(a+1)+0 by omega] at this
 |a,b+1,ha,hb=>by
  have ih:=run5_bd hC hL hm h (a:=a) (b:=b) ha yab
  rw[←Nat.add_assoc,run5_at ha yab]
  exact ih.step hC yaw hm ha yab
 termination_by a b=>6*a+b
theorem run5_stage {C:Int}(hC:0≤C){L:List Int}(hL:L.length=25)(h:∀x y,x<5→y<5→ -C≤mg L x y):∀{m:Nat},m≤5→∀x y,x<5→y<5→ -(6^m*C)≤mg (run5 (25*m) L) x y
 |0,_,x,y,hx,hy=>by simpa[run5] using h x y hx hy
 |m+1,hm,x,y,hx,hy=>by
  have hC':0≤6^m*C:=Int.mul_nonneg (by exact Int.pow_nonneg (by decide)) hC
  have:=(run5_bd hC' hL (m:=m) yab (run5_stage hC hL h (m:=m) yab) (a:=4) (b:=5) yab (Nat.le_refl _)).all x y hx hy
  rw[show 25*(m+1)=25*m+5*4+5 by omega,show(6:Int)^(m+1)=6*6^m by rw[Int.pow_succ,Int.mul_comm],Int.mul_assoc]
  omega
theorem run5_low {C:Int}(hC:0≤C){L:List Int}(hL:L.length=25)(h:∀x y,x<5→y<5→ -C≤mg L x y){k:Nat}(hk:k≤125){x y:Nat}(hx:x<5)(hy:y<5): -(7776*C)≤mg (run5 k L) x y:=by
 have h1:=run5_stage hC hL h (m:=5) yab x y hx hy
 have h2:=run5_le hL hx hy (k:=25*5) (j:=k) yab
 have:(6:Int)^5=7776:=by decide
 rw[this] at h1
 omega
theorem Wc {L:List Int}(hL:L.length=25){x y:Nat}(hx:x<5)(hy:y<5)(k:Nat):mg (run5 k L) x y≤mg L x y:=run5_le hL hx hy (j:=0) (Nat.zero_le _)
attribute [irreducible] run5
end Go.Ab
namespace Go.Ab
theorem W0 (a b:Int):a<b∨b≤a:=by omega
def neg5 (L:List Int):Bool:=decide (mg L 0 0<0)||(decide (mg L 1 1<0)||(decide (mg L 2 2<0)||(decide (mg L 3 3<0)||decide (mg L 4 4<0))))
theorem neg5_iff {L:List Int}:neg5 L=true↔∃a,a<5∧mg L a a<0:=by
 simp only[neg5,Bool.or_eq_true,decide_eq_true_eq]
 constructor
 ·rintro(h|h|h|h|h)
  ·exact⟨0,by omega,h⟩
  ·exact⟨1,by omega,h⟩
  ·exact⟨2,by omega,h⟩
  ·exact⟨3,by omega,h⟩
  ·exact⟨4,by omega,h⟩
 ·rintro⟨a,ha,h⟩
  have:a=0∨a=1∨a=2∨a=3∨a=4:=by omega
  rcases this with rfl|rfl|rfl|rfl|rfl<;>simp[h]
def clo:Nat→List Int→List Int × Bool
 |0,L=>(L,true)
 |n+1,L=>if neg5 (run5 125 L)=true then(run5 125 L,false) else if run5 125 L=L then(run5 125 L,true) else clo n (run5 125 L)
theorem mg_ext {L K:List Int}(hL:L.length=25)(hK:K.length=25)(h:∀a b,a<5→b<5→mg L a b=mg K a b):L=K:=by
 refine List.ext_getElem (by rw[hL,hK]) fun i h1 h2=>?_
 have:=h (i/5) (i%5) yab yab
 unfold mg at this
 rw[show 5*(i/5)+i%5=i by omega] at this
 rw[List.getD_eq_getElem?_getD,List.getD_eq_getElem?_getD,List.getElem?_eq_getElem h1,List.getElem?_eq_getElem h2] at this
 exact this
def sum5 (L:List Int):Int:=L.foldr (· + ·) 0
theorem sum5_le:∀{L K:List Int},L.length=K.length→(∀i,L.getD i 0≤K.getD i 0)→sum5 L≤sum5 K∧(sum5 L=sum5 K→L=K)
 |[],[],_,_=>⟨Int.le_refl _,fun _=>rfl⟩
 |a::L,b::K,hl,h=>by
  have ih:=sum5_le (L:=L) (K:=K) (by simpa using hl) fun i=>by have:=h (i+1);simpa using this
  have h0:=h 0
  simp only[List.getD_cons_zero] at h0
  simp only[sum5,List.foldr_cons] at ih⊢
  refine⟨by omega,fun e=>?_⟩
  have e1:a=b:=by omega
  rw[e1,ih.2 yab]
theorem sum5_ge {B:Int}:∀{L:List Int},(∀i,i<L.length→ -B≤L.getD i 0)→ -(B*L.length)≤sum5 L
 |[],_=>by simp[sum5]
 |a::L,h=>by
  have ih:=sum5_ge (B:=B) (L:=L) fun i hi=>by have:=h (i+1) (by simp;omega);simpa using this
  have h0:=h 0 yao
  simp only[List.getD_cons_zero] at h0
  simp only[sum5,List.foldr_cons,List.length_cons] at ih⊢
  have:B*((L.length+1:Nat):Int)=B*L.length+B:=by rw[Int.natCast_add,Int.mul_add];simp
  rw[this];omega
theorem getD_mg (L:List Int)(i:Nat):L.getD i 0=mg L (i/5) (i%5):=by
 unfold mg;rw[show 5*(i/5)+i%5=i by omega]
structure In5 (B:Int)(L:List Int):Prop where
 len:L.length=25
 hi:∀a b,a<5→b<5→mg L a b≤B
 lo:∀a b,a<5→b<5→ -B≤mg L a b
theorem round_neg {B:Int}{L:List Int}(hL:L.length=25)(hi:∀a b,a<5→b<5→mg L a b≤B){a b:Nat}(ha:a<5)(hb:b<5)(h:mg L a b< -B):neg5 (run5 125 L)=true:=by
 refine neg5_iff.2 ⟨a,ha,?_⟩
 have h1:mg (run5 (25*b+5*a+a+1) L) a a<0:=by
  rw[run5_at ha ha,mg_rl yaw ha ha a a ha ha,if_pos ⟨rfl,rfl⟩]
  have h2:=Wc hL ha hb (25*b+5*a+a)
  have h3:=Wc hL hb ha (25*b+5*a+a)
  have h4:=hi b a hb ha
  omega
 have:=run5_le hL ha ha (k:=125) (j:=25*b+5*a+a+1) yab
 omega
structure Run5 (B:Int)(L:List Int):Prop where
 len:L.length=25
 hi:∀a b,a<5→b<5→mg L a b≤B
 lo:∀a b,a<5→b<5→ -(7776*B)≤mg L a b
theorem In5.run {B:Int}(hB:0≤B){L:List Int}(h:In5 B L):Run5 B L:=⟨h.len,h.hi,fun a b ha hb=>by have:=h.lo a b ha hb;omega⟩
theorem Run5.next {B:Int}(hB:0≤B){L:List Int}(h:Run5 B L)(hn:neg5 (run5 125 L)=false)(hne:run5 125 L≠L):Run5 B (run5 125 L)∧ -(25*B)≤sum5 L∧sum5 (run5 125 L)<sum5 L:=by
 have hlo:∀a b,a<5→b<5→ -B≤mg L a b:=fun a b ha hb=>by
  rcases W0 (mg L a b) (-B) with h1|h1
  ·rw[round_neg h.len h.hi ha hb h1] at hn;cases hn
  ·exact h1
 have hle:∀i,(run5 125 L).getD i 0≤L.getD i 0:=fun i=>by
  rcases Nat.lt_or_ge i 25 with hi|hi
  ·rw[getD_mg,getD_mg]
   exact Wc h.len (x:=i/5) (y:=i%5) yab yab 125
  ·have e1:(run5 125 L)[i]? =none:=List.getElem?_eq_none (by rw[Xn,h.len];exact hi)
   have e2:L[i]? =none:=List.getElem?_eq_none (by rw[h.len];exact hi)
   rw[List.getD_eq_getElem?_getD,List.getD_eq_getElem?_getD,e1,e2]
   exact Int.le_refl _
 have hs:=sum5_le (by rw[Xn]) hle
 refine⟨⟨by rw[Xn];exact h.len,fun a b ha hb=>?_,fun a b ha hb=>run5_low hB h.len hlo (Nat.le_refl _) ha hb⟩,?_,?_⟩
 ·have:=Wc h.len ha hb (125)
  have:=h.hi a b ha hb
  omega
 ·have:=sum5_ge (B:=B) (L:=L) fun i hi=>by rw[getD_mg];rw[h.len] at hi;exact hlo _ _ yab yab
  rw[h.len] at this
  omega
 ·rcases W0 (sum5 (run5 125 L)) (sum5 L) with h1|h1
  ·exact h1
  ·exact absurd (hs.2 yab) hne
def Wg (B:Int)(L:List Int):Nat:=(sum5 L+25*B+1).toNat
theorem Run5.left {B:Int}(hB:0≤B){L:List Int}(h:Run5 B L)(hn:neg5 (run5 125 L)=false)(hne:run5 125 L≠L):Wg B (run5 125 L)<Wg B L:=by
 obtain⟨_,h1,h2⟩:=h.next hB hn hne
 unfold Wg;omega
theorem clo_more {B:Int}(hB:0≤B):∀{n m:Nat} {L:List Int},Run5 B L→Wg B L<n→Wg B L<m→clo n L=clo m L
 |0,_,_,_,h,_=>by omega
 |_,0,_,_,_,h=>by omega
 |n+1,m+1,L,hr,hn,hm=>by
  simp only[clo]
  split
  ·rfl
  ·rename_i h1
   split
   ·rfl
   ·rename_i h2
    have h1':neg5 (run5 125 L)=false:=by simpa using h1
    have:=hr.left hB h1' h2
    exact clo_more hB (hr.next hB h1' h2).1 yab yab
theorem left5_le {B:Int}{L:List Int}(h:L.length=25)(hi:∀a b,a<5→b<5→mg L a b≤B):Wg B L≤(50*B+1).toNat:=by
 have:sum5 L≤B*25:=by
  have:∀{L:List Int},(∀i,i<L.length→L.getD i 0≤B)→sum5 L≤B*L.length:=by
   intro L
   induction L with
   |nil=>intro _;simp[sum5]
   |cons a L ih=>
    intro h
    have:=ih fun i hi=>by have:=h (i+1) (by simp;omega);simpa using this
    have h0:=h 0 yao
    simp only[List.getD_cons_zero] at h0
    simp only[sum5,List.foldr_cons,List.length_cons] at this⊢
    have:B*((L.length+1:Nat):Int)=B*L.length+B:=by rw[Int.natCast_add,Int.mul_add];simp
    rw[this];omega
  have:=this (L:=L) fun i hi'=>by rw[getD_mg];rw[h] at hi';exact hi _ _ yab yab
  rwa[h] at this
 unfold Wg;omega
def YK (L:List Int):List Int × Bool:=clo 12002 L
theorem clos_eq {B:Int}(hB:0≤B)(hB2:B≤240){L:List Int}(h:Run5 B L){n:Nat}(hn:Wg B L<n):clo n L=YK L:=by
 have:=left5_le h.len h.hi
 exact clo_more hB h hn yab
structure Tri (L:List Int):Prop where
 len:L.length=25
 tri:∀a b m,a<5→b<5→m<5→mg L a b≤mg L a m+mg L m b
 diag:∀a,a<5→0≤mg L a a
theorem tri_of_fix {L:List Int}(hL:L.length=25)(hf:run5 125 L=L)(hn:neg5 L=false):Tri L:=by
 have hk:∀k,k≤125→run5 k L=L:=fun k hk=>mg_ext yaw hL fun a b ha hb=>by
  have h1:=run5_le hL ha hb (k:=125) (j:=k) hk
  have h2:=Wc hL ha hb (k)
  rw[hf] at h1
  omega
 refine⟨hL,fun a b m ha hb hm=>?_,fun a ha=>?_⟩
 ·have h1:=run5_at ha hb L (m:=m)
  rw[hk _ yab,hk _ yab] at h1
  have h2:=mg_rl hL ha hb a b ha hb (m:=m)
  rw[if_pos ⟨rfl,rfl⟩,←h1] at h2
  omega
 ·rcases W0 (mg L a a) 0 with h|h
  ·rw[neg5_iff.2 ⟨a,ha,h⟩] at hn;cases hn
  ·exact h
theorem clo_spec {B:Int}(hB:0≤B):∀{n:Nat} {L:List Int},Run5 B L→Wg B L<n→
  ((clo n L).2=true→Tri (clo n L).1∧In5 B (clo n L).1∧(∀a b,a<5→b<5→mg (clo n L).1 a b≤mg L a b)∧∀x,Sol x L↔Sol x (clo n L).1)∧((clo n L).2=false→∀x,¬Sol x L)
 |0,L,h,hn=>by omega
 |n+1,L,h,hn=>by
  simp only[clo]
  split
  ·rename_i h1
   refine⟨fun h=>(by cases h),fun _ x hx=>?_⟩
   obtain⟨a,ha,h2⟩:=neg5_iff.1 h1
   have:=(hx.run5 h.len (Nat.le_refl _)) a a ha ha
   omega
  ·rename_i h1
   have h1':neg5 (run5 125 L)=false:=by simpa using h1
   split
   ·rename_i h2
    refine⟨fun _=>?_,fun h=>by cases h⟩
    show Tri (run5 125 L)∧In5 B (run5 125 L)∧(∀a b,a<5→b<5→mg (run5 125 L) a b≤mg L a b)∧∀x,Sol x L↔Sol x (run5 125 L)
    rw[h2]
    rw[h2] at h1'
    refine⟨tri_of_fix h.len h2 h1',⟨h.len,h.hi,fun a b ha hb=>?_⟩,fun a b _ _=>Int.le_refl _,fun x=>Iff.rfl⟩
    rcases W0 (mg L a b) (-B) with h3|h3
    ·have:=round_neg h.len h.hi ha hb h3
     rw[h2,h1'] at this;cases this
    ·exact h3
   ·rename_i h2
    have hle:∀a b,a<5→b<5→mg (run5 125 L) a b≤mg L a b:=fun a b ha hb=>Wc h.len ha hb (125)
    have ih:=clo_spec hB (n:=n) (h.next hB h1' h2).1 (by have:=h.left hB h1' h2;omega)
    refine⟨fun h3=>?_,fun h3 x hx=>ih.2 h3 x (hx.run5 h.len (Nat.le_refl _))⟩
    obtain⟨k1,k2,k3,k4⟩:=ih.1 h3
    exact⟨k1,k2,fun a b ha hb=>Int.le_trans (k3 a b ha hb) (hle a b ha hb),fun x=>⟨fun hx=>(k4 x).1 (hx.run5 h.len (Nat.le_refl _)),fun hx=>((k4 x).2 hx).of_le hle⟩⟩
theorem XB {B:Int}(hB:0≤B)(hB2:B≤240){L:List Int}(h:In5 B L):
  ((YK L).2=true→Tri (YK L).1∧In5 B (YK L).1∧(∀a b,a<5→b<5→mg (YK L).1 a b≤mg L a b)∧∀x,Sol x L↔Sol x (YK L).1)∧((YK L).2=false→∀x,¬Sol x L):=by
 have:=left5_le h.len h.hi
 exact clo_spec hB (h.run hB) yab
theorem Tri.sol {L:List Int}(h:Tri L){a:Nat}(ha:a<5):Sol (fun c=>mg L a c) L:=fun c d hc hd=>by
 have:=h.tri a d c ha hd hc
 show mg L a d-mg L a c≤_
 omega
end Go.Ab
namespace Go.Ab
def getI:List Int→Nat→Int
 |[],_=>0
 |x::_,0=>x
 |_::l,k+1=>getI l k
theorem getI_eq:∀(l:List Int) (k:Nat),getI l k=l.getD k 0
 |[],k=>by simp[getI]
 |x::l,0=>by simp[getI]
 |x::l,k+1=>by simp[getI,getI_eq l k]
def setF {β:Type}(v:Int):List Int→Nat→(List Int→β)→β
 |[],_,f=>f []
 |_::l,0,f=>f (v::l)
 |x::l,k+1,f=>setF v l k fun r=>f (x::r)
theorem setF_eq {β:Type}(v:Int):∀(l:List Int) (k:Nat) (f:List Int→β),setF v l k f=f (l.set k v)
 |[],k,f=>by simp[setF]
 |x::l,0,f=>rfl
 |x::l,k+1,f=>by simp[setF,setF_eq v l k]
def stepK {β:Type}(L:List Int)(s:Nat × Nat × Nat)(f:List Int→β):β:=match s with
 |(i,j,k)=>zf (getI L j+getI L k) fun v=>match ilt v (getI L i) with
  |true=>setF v L i f
  |false=>f L
def runK {β:Type}:List (Nat × Nat × Nat)→List Int→(List Int→β)→β
 |[],L,f=>f L
 |s::l,L,f=>stepK L s fun L=>runK l L f
def stepsK (n:Nat):List (Nat × Nat × Nat):=(List.range n).map fun k=>(5*(k/5%5)+k%5,5*(k/5%5)+k/25,5*(k/25)+k%5)
theorem set_self:∀(L:List Int) (i:Nat),L.set i (L.getD i 0)=L
 |[],i=>by simp
 |x::l,0=>by simp
 |x::l,i+1=>by simpa using set_self l i
theorem stepK_eq {β:Type}(L:List Int)(k:Nat)(f:List Int→β):
  stepK L (5*(k/5%5)+k%5,5*(k/5%5)+k/25,5*(k/25)+k%5) f=f (rl (k/25) (k/5%5) (k%5) L):=by
 simp only[stepK,zf_eq,getI_eq,XJ,rl,mg]
 generalize 5*(k/5%5)+k%5=i
 generalize L.getD (5*(k/5%5)+k/25) 0+L.getD (5*(k/25)+k%5) 0=v
 by_cases h:v<L.getD i 0
 ·simp only[h,decide_true,setF_eq]
  rw[Int.min_eq_right yab]
 ·simp only[h,decide_false]
  rw[Int.min_eq_left yab,set_self]
theorem runK_append {β:Type}:∀(l r:List (Nat × Nat × Nat)) (L:List Int) (f:List Int→β),runK (l++r) L f=runK l L fun L=>runK r L f
 |[],r,L,f=>rfl
 |s::l,r,L,f=>by
  have:runK l=fun(L:List Int) (f:List Int→β)=>runK l L f:=rfl
  simp only[List.cons_append,runK,runK_append l r]
theorem runK_eq {β:Type}:∀(n:Nat) (L:List Int) (f:List Int→β),runK (stepsK n) L f=f (run5 n L)
 |0,L,f=>by rw[run5];rfl
 |n+1,L,f=>by
  have:stepsK (n+1)=stepsK n++[(5*(n/5%5)+n%5,5*(n/5%5)+n/25,5*(n/25)+n%5)]:=by simp[stepsK,List.range_succ]
  rw[this,runK_append,runK_eq n]
  show stepK _ _ (fun L=>runK [] L f)=_
  rw[stepK_eq,run5];rfl
def isNeg:Int→Bool
 |.ofNat _=>false
 |.negSucc _=>true
theorem isNeg_eq (n:Int):isNeg n=decide (n<0):=by
 cases n with
 |ofNat n=>simp[isNeg]
 |negSucc n=>simp[isNeg]
theorem bsel_or (a b:Bool):Wl a true b=(a||b):=by cases a<;>rfl
def neg5K (L:List Int):Bool:=Wl (isNeg (getI L 0)) true (Wl (isNeg (getI L 6)) true (Wl (isNeg (getI L 12)) true (Wl (isNeg (getI L 18)) true (isNeg (getI L 24)))))
theorem neg5K_eq (L:List Int):neg5K L=neg5 L:=by
 simp only[neg5K,bsel_or,getI_eq,isNeg_eq]
 unfold neg5 mg
 rfl
def eqL:List Int→List Int→Bool
 |[],[]=>true
 |a::l,b::r=>match ieq a b with|true=>eqL l r|false=>false
 |_,_=>false
theorem eqL_eq:∀(l r:List Int),eqL l r=decide (l=r)
 |[],[]=>by simp[eqL]
 |[],_::_=>by simp[eqL]
 |_::_,[]=>by simp[eqL]
 |a::l,b::r=>by
  simp only[eqL,Xk]
  by_cases h:a=b
  ·simp[h,eqL_eq l r]
  ·have:(a==b)=false:=by simpa using h
   simp[this,h]
def cloK (T:List (Nat × Nat × Nat)):Nat→List Int→List Int × Bool
 |0,L=>(L,true)
 |n+1,L=>runK T L fun K=>match neg5K K with
  |true=>(K,false)
  |false=>match eqL K L with
   |true=>(K,true)
   |false=>cloK T n K
theorem cloK_eq:∀(n:Nat) (L:List Int),cloK (stepsK 125) n L=clo n L
 |0,L=>rfl
 |n+1,L=>by
  simp only[cloK,runK_eq,neg5K_eq,eqL_eq,clo]
  cases neg5 (run5 125 L) with
  |true=>simp
  |false=>
   by_cases h:run5 125 L=L
   ·simp[h]
   ·simp[h,cloK_eq n]
def shw (set gain m:Int):Int:=set+m+m*gain/60
theorem shw_go (n:Int):(if n<0 then n-59 else n).tdiv 60=n/60:=by
 split
 ·rename_i h
  have:n-59= -(59-n):=by omega
  rw[this,Int.neg_tdiv,Int.tdiv_eq_ediv_of_nonneg yab];omega
 ·rw[Int.tdiv_eq_ediv_of_nonneg yab]
theorem shw_step {set gain m:Int}(h1: -60≤gain):shw set gain m≤shw set gain (m+1):=by
 unfold shw
 have:(m+1)*gain=m*gain+gain:=by rw[Int.add_mul,Int.one_mul]
 rw[this];omega
theorem shw_mono {set gain:Int}(h1: -60≤gain){m n:Int}(h:m≤n):shw set gain m≤shw set gain n:=by
 obtain⟨k,rfl⟩:∃k:Nat,n=m+k:=⟨(n-m).toNat,by omega⟩
 clear h
 induction k with
 |zero=>simp
 |succ k ih=>
  have:=shw_step (set:=set) (m:=m+k) h1
  rw[show m+((k+1:Nat):Int)=m+k+1 by omega]
  omega
def whn (set gain s:Int):Nat→Int × Int
 |0=>(1,0)
 |m+1=>if shw set gain m=s then(if(whn set gain s m).2<(whn set gain s m).1 then((m:Int),(m:Int)) else((whn set gain s m).1,(m:Int))) else whn set gain s m
theorem whn_le {set gain s:Int}:∀{n:Nat},(whn set gain s n).1≤(whn set gain s n).2→0≤(whn set gain s n).1∧(whn set gain s n).2<n∧(whn set gain s n).1<n
 |0,h=>by simp[whn] at h
 |n+1,h=>by
  simp only[whn] at h⊢
  split at h
  ·rename_i h1
   split
   ·split at h
    ·rename_i h2;rw[if_pos h2];simp;omega
    ·rename_i h2;rw[if_neg h2]
     have:=whn_le (set:=set) (gain:=gain) (s:=s) (n:=n) yab
     simp only;omega
   ·contradiction
  ·rename_i h1
   rw[if_neg h1]
   have:=whn_le (n:=n) h
   omega
theorem whn_none {set gain s:Int}:∀{n:Nat},(whn set gain s n).2<(whn set gain s n).1→∀m:Nat,m<n→shw set gain m≠s
 |0,_,m,hm=>by omega
 |n+1,h,m,hm=>by
  simp only[whn] at h
  split at h
  ·split at h
   ·simp at h
   ·rename_i h2
    have:=whn_le (set:=set) (gain:=gain) (s:=s) (n:=n)
    simp only at h
    omega
  ·rename_i h1
   rcases Nat.lt_or_ge m n with h3|h3
   ·exact whn_none h m h3
   ·have:m=n:=by omega
    subst this;exact h1
theorem whn_in {set gain s:Int}:∀{n:Nat},(whn set gain s n).1≤(whn set gain s n).2→shw set gain (whn set gain s n).1=s∧shw set gain (whn set gain s n).2=s∧∀m:Nat,m<n→shw set gain m=s→(whn set gain s n).1≤m∧(m:Int)≤(whn set gain s n).2
 |0,h=>by simp[whn] at h
 |n+1,h=>by
  simp only[whn] at h⊢
  by_cases h1:shw set gain n=s
  ·rw[if_pos h1] at h⊢
   by_cases h2:(whn set gain s n).2<(whn set gain s n).1
   ·rw[if_pos h2] at h⊢
    refine⟨h1,h1,fun m hm hs=>?_⟩
    rcases Nat.lt_or_ge m n with h3|h3
    ·exact absurd hs (whn_none h2 m h3)
    ·have:m=n:=by omega
     subst this;simp
   ·rw[if_neg h2] at h⊢
    obtain⟨i1,i2,i3⟩:=whn_in (n:=n) (Int.not_lt.1 h2)
    have i4:=whn_le (n:=n) (Int.not_lt.1 h2)
    refine⟨i1,h1,fun m hm hs=>?_⟩
    rcases Nat.lt_or_ge m n with h3|h3
    ·have:=i3 m h3 hs;simp only;omega
    ·have:m=n:=by omega
     subst this;simp only;omega
  ·rw[if_neg h1] at h⊢
   obtain⟨i1,i2,i3⟩:=whn_in (n:=n) h
   refine⟨i1,i2,fun m hm hs=>?_⟩
   rcases Nat.lt_or_ge m n with h3|h3
   ·exact i3 m h3 hs
   ·have:m=n:=by omega
    subst this;exact absurd hs h1
theorem whn_iff {set gain s:Int}(hg: -60≤gain){n:Nat}{m:Int}(h0:0≤m)(hn:m<n):shw set gain m=s↔(whn set gain s n).1≤m∧m≤(whn set gain s n).2:=by
 obtain⟨k,rfl⟩:=Int.eq_ofNat_of_zero_le h0
 rcases W0 (whn set gain s n).2 (whn set gain s n).1 with h|h
 ·have:=whn_none h k yab
  constructor
  ·intro e;exact absurd e this
  ·intro⟨a,b⟩;omega
 ·obtain⟨i1,i2,i3⟩:=whn_in h
  constructor
  ·exact i3 k yab
  ·intro⟨a,b⟩
   have a1:=shw_mono (set:=set) hg a
   have b1:=shw_mono (set:=set) hg b
   omega
theorem whn_rng {set gain s:Int}{n:Nat}(h:(whn set gain s n).1≤(whn set gain s n).2):0≤(whn set gain s n).1∧(whn set gain s n).2<n∧(whn set gain s n).1<n:=whn_le h
def whnK (p:Nat→Bool):Nat→Nat→Int × Int→Int × Int
 |0,_,s=>s
 |n+1,m,s=>match p m with
  |true=>(match s with|(lo,hi)=>match ilt hi lo with
   |true=>nf (m+1) fun k=>whnK p n k (.ofNat m,.ofNat m)
   |false=>nf (m+1) fun k=>whnK p n k (lo,.ofNat m))
  |false=>nf (m+1) fun k=>whnK p n k s
theorem whnK_eq (set gain s:Int):∀(n m:Nat),whnK (fun m=>ieq (set+ .ofNat m+ .ofNat m*gain/60) s) n m (whn set gain s m)=whn set gain s (m+n)
 |0,m=>rfl
 |n+1,m=>by
  have ih:=whnK_eq set gain s n (m+1)
  rw[show m+(n+1)=m+1+n by omega,←ih]
  simp only[whnK,nf_eq,Xk,XJ,whn,shw,Int.ofNat_eq_natCast]
  by_cases h:set+(m:Int)+(m:Int)*gain/60=s
  ·simp only[h,BEq.rfl,if_true]
   by_cases h2:(whn set gain s m).2<(whn set gain s m).1<;>simp[h2]
  ·have:(set+(m:Int)+(m:Int)*gain/60==s)=false:=by simpa using h
   simp only[this,h,if_false]
end Go.Ab
namespace Go.Ab
theorem nth_iv {L:List Int}{k:Nat}(h:k<L.length):nth k (L.map iv)=some (.ii (L.getD k 0)):=by
 rw[Vx,List.getElem?_map,List.getElem?_eq_getElem h,List.getD_eq_getElem?_getD,List.getElem?_eq_getElem h];rfl
theorem V6 (L:List Int):ZB (L.map iv)=true:=XD.2 fun v hv=>by
 obtain⟨n,_,rfl⟩:=List.mem_map.1 hv;rfl
theorem WY {h:H}{b:Nat}{L K:List Int}(hb:h.get b=some (.bk (L.map iv)))(hl:K.length=L.length)(hn:K≠[]):h.put b 0 (K.map iv)=some (h.set b (.bk (K.map iv))):=by
 cases K with
 |nil=>exact absurd rfl hn
 |cons a K=>
  have hp:Ye 0 ((a::K).map iv) (L.map iv)=some ((a::K).map iv):=by
   refine(putN_eq yao).2 ⟨?_,by rw[List.length_map,List.length_map];omega⟩
   rw[List.drop_eq_nil_of_le (by rw[List.length_map,List.length_map];omega),List.append_nil,List.take_zero,List.nil_append]
  exact H.put_rw (V6 (a::K)) hb hp
theorem Vm {L:List Int}{k:Nat}(hk:k<L.length)(v:Int):Ye k [.ii v] (L.map iv)=some ((L.set k v).map iv):=by
 refine(putN_eq yao).2 ⟨?_,by simp;omega⟩
 rw[List.map_set,List.set_eq_take_append_cons_drop,if_pos (by simpa using hk)]
 simp[iv]
theorem Y3 {L:List Int}(hL:L.length=25){x y:Nat}(hx:x<5)(hy:y<5):nth (x*5+y*1) (L.map iv)=some (.ii (mg L x y)):=by
 rw[nth_iv yab];unfold mg;rw[show x*5+y*1=5*x+y by omega]
theorem XS (sz b o:Nat){k:Nat}(hk:k<5):VK 5 sz (.ptr b o) (.ii (k:Int))=some (.ptr b (o+k*sz)):=WJ (Zb k) hk
theorem Vp (L:List Int):Yt (L.map iv)=L.length:=by rw[Z7,List.length_map]
theorem XL (L:List Int):Y6 0 L.length (L.map iv)=some (L.map iv):=getN_full yao
theorem Run5.add {L:List Int}(h:Run5 240 L){k:Nat}(hk:k<125): -9223372036854775808≤mg (run5 k L) (k/5%5) (k/25)+mg (run5 k L) (k/25) (k%5)∧mg (run5 k L) (k/5%5) (k/25)+mg (run5 k L) (k/25) (k%5)≤9223372036854775807:=by
 have lo:=fun x y hx hy=>run5_low (C:=7776*240) yab h.len (fun a b ha hb=>h.lo a b ha hb) (k:=k) yab (x:=x) (y:=y) hx hy
 have a1:=lo (k/5%5) (k/25) yab yab
 have a2:=lo (k/25) (k%5) yab yab
 have b1:=Wc h.len (x:=k/5%5) (y:=k/25) yab yab k
 have b2:=Wc h.len (x:=k/25) (y:=k%5) yab yab k
 have c1:=h.hi (k/5%5) (k/25) yab yab
 have c2:=h.hi (k/25) (k%5) yab yab
 omega
structure CI (h:H)(B:Nat)(K Z:List Int)(j:Nat)(tm:T V)(h':H):Prop where
 sub:h.Sub h'
 nx:B<h'.next
 gf:h'.get h.next=some (.bk ((run5 j K).map iv))
 gr:h'.get (h.next+1)=some (.bk (Z.map iv))
 gb:h'.get B=some (.bk (K.map iv))
 e1:tm.E 1=.ptr h.next 0
 e2:tm.E 2=.ptr (h.next+1) 0
 e4:tm.E 4=.ptr B 0
end Go.Ab
namespace Go.Ab.Tryz
open Go.Proofs
variable {fast:Nat→Option (List V→H→Option (V × H))}
theorem least_ev (f1:fast 137=none){h:H}{x:V}{l:List Int}(hw:h.wf)(hx:Zg h x 1 (l.map fun n=>[iv n]))(n:Int)(Q:V→H→Prop)(q:∀h',h.Sub h'→Q (.ii (l.foldl min n)) h'):
  Ev fnG fast (.fn 137 [] []) [.ii n,x] h Q:=by
 have hb:=hx.boundE
 refine Ze (fd:=c137) f1 rfl rfl ?_
 simp(disch:=omega)only[c137,go_sem,hx.lenE]
 refine Zk l.length (fun i s=>∃tm h',s=⟨tm,h',[]⟩∧h.Sub h'∧tm.E 0=.ii ((l.take i).foldl min n)∧tm.E 7=x∧tm.E 8=.ii (l.length:Int)∧tm.E 9=.ii (i:Int))
  ?_ ?_ (i:=0) (Nat.zero_le _) ⟨_,_,rfl,H.Sub.refl hw,yac,yac,yac,yac⟩
 ·rintro i s hi ⟨tm,h',rfl,hs,e0,e7,e8,e9⟩
  have hi':(i:Int)<(l.length:Int):=by omega
  obtain⟨b,o,c,cs,rfl,hc,hq,hg,hn,hn0⟩:=(hx.mono hs).at hi
  have hnt:nth (o+i*1) cs=some (.ii l[i]):=hn0 yab
  simp(disch:=omega)only[go_sem,e0,e7,e8,e9,hi',hq (Zb i),hc,hnt,Zj]
  exact⟨_,_,rfl,hs,(by rw[List.take_succ_eq_append_getElem hi,List.foldl_append];exact(by simp[Zm,Zd]<;>rfl)),yak,yag,yac⟩
 ·rintro s ⟨tm,h',rfl,hs,e0,e7,e8,e9⟩
  simp(disch:=omega)only[go_sem,e0,e7,e8,e9,Int.lt_irrefl]
  rw[List.take_length]
  exact q _ hs
set_option maxHeartbeats 1000000 in
theorem closed_ev (f1:fast 137=none)(f2:fast 133=none){h:H}(hw:h.wf){L:List Int}(hL:In5 240 L)(Q:V→H→Prop)(q:∀h',h.Sub h'→Q (.tup [.agg ((YK L).1.map iv),.bool (YK L).2]) h'):
  Ev fnG fast (.fn 133 [] []) [.agg (L.map iv)] h Q:=by
 have hl:=hL.len
 have h55:¬(((5:Nat):Int)<5):=by omega
 have hz:∃Z:List Int,Z.length=25∧Z.map iv=[.ii 0,.ii 0,.ii 0,.ii 0,.ii 0,.ii 0,.ii 0,.ii 0,.ii 0,.ii 0,.ii 0,.ii 0,.ii 0,.ii 0,.ii 0,.ii 0,.ii 0,.ii 0,.ii 0,.ii 0,.ii 0,.ii 0,.ii 0,.ii 0,.ii 0]:=⟨List.replicate 25 0,rfl,rfl⟩
 obtain⟨Z,lZ,hZ⟩:=hz
 refine Ze (fd:=c133) f2 rfl rfl ?_
 simp(disch:=omega)only[c133,go_sem]
 rw[←hZ]
 have s2:h.Sub ((h.add (.bk (L.map iv))).add (.bk (Z.map iv))):=yaa
 refine W_loop (fun k s=>∃tm h' K,s=⟨tm,h',[]⟩∧h.Sub h'∧h.next+2≤h'.next∧h'.get h.next=some (.bk (K.map iv))∧h'.get (h.next+1)=some (.bk (Z.map iv))∧tm.E 1=.ptr h.next 0∧tm.E 2=.ptr (h.next+1) 0∧Run5 240 K∧Wg 240 K<k∧YK K=YK L)
  ?_ (Wg 240 L+1) _ ⟨_,_,L,rfl,s2,by simp only[H.next_add];omega,by simp -implicitDefEqProofs(disch:=first|omega|simp only[nZ]<;>omega|fail)only[go_sem],by simp -implicitDefEqProofs(disch:=first|omega|simp only[nZ]<;>omega|fail)only[go_sem],yac,yac,hL.run yah,by omega,rfl⟩
 rintro k s ⟨tm,h1,K,rfl,s1,n1,g1,g2,e1,e2,r1,lf,hcl⟩
 have lK:=r1.len
 have hw1:=s1.wf
 have gK:Y6 0 25 (K.map iv)=some (K.map iv):=by rw[←lK];exact XL K
 have lnK:Yt (K.map iv)=25:=by rw[Vp,lK]
 have hB:h.next+1<h1.next:=by omega
 have pB:(h1.add (.bk (Z.map iv))).put h1.next 0 (K.map iv)=some ((h1.add (.bk (Z.map iv))).set h1.next (.bk (K.map iv))):=WY (L:=Z) (Zc rfl) yab (fun e=>by rw[e] at lK;cases lK)
 simp(disch:=omega)only[go_sem,e1,e2,Za g1,gK,lnK,pB]
 have sB:h1.Sub (h1.add (.bk (K.map iv))):=(H.Sub.refl hw1).add _
 refine Zk 5 (fun m s=>∃tm h',s=⟨tm,h',[]⟩∧CI h h1.next K Z (25*m) tm h'∧tm.E 10=.ii (m:Int)) ?_ ?_ (i:=0) (Nat.zero_le _)
  ⟨_,_,rfl,⟨s1.trans sB,by rw[H.next_add];omega,by rw[run5];exact sB.get g1,sB.get g2,Zc rfl,yaf,yad,yac⟩,yac⟩
 ·rintro m s hm ⟨tm,h',rfl,c,e10⟩
  have hm':(m:Int)<5:=by omega
  simp(disch:=omega)only[go_sem,e10,hm']
  refine Zk 5 (fun a s=>∃tm h',s=⟨tm,h',[]⟩∧CI h h1.next K Z (25*m+5*a) tm h'∧tm.E 10=.ii (m:Int)∧tm.E 5=.ii (m:Int)∧tm.E 13=.ii (a:Int)) ?_ ?_ (i:=0) (Nat.zero_le _)
   ⟨_,_,rfl,⟨c.sub,c.nx,c.gf,c.gr,c.gb,yap,yaj,yaq⟩,yar,yac,yac⟩
  ·rintro a s ha ⟨tm,h',rfl,c,e10,e5,e13⟩
   have ha':(a:Int)<5:=by omega
   simp(disch:=omega)only[go_sem,e10,e5,e13,ha']
   refine Zk 5 (fun b s=>∃tm h',s=⟨tm,h',[]⟩∧CI h h1.next K Z (25*m+5*a+b) tm h'∧tm.E 10=.ii (m:Int)∧tm.E 5=.ii (m:Int)∧tm.E 13=.ii (a:Int)∧tm.E 6=.ii (a:Int)∧tm.E 16=.ii (b:Int)) ?_ ?_ (i:=0) (Nat.zero_le _)
    ⟨_,_,rfl,⟨c.sub,c.nx,c.gf,c.gr,c.gb,yap,yaj,yaq⟩,yar,yam,(by simp[Zm,Zd,e13]<;>rfl),yac,yac⟩
   ·rintro b s hb ⟨tm,h',rfl,c,e10,e5,e13,e6,e16⟩
    have hb':(b:Int)<5:=by omega
    obtain⟨J,hJ⟩:∃J,run5 (25*m+5*a+b) K=J:=⟨_,rfl⟩
    have lJ:J.length=25:=by rw[←hJ,Xn];exact lK
    have hadd:=r1.add (k:=25*m+5*a+b) yab
    have gf:=c.gf
    rw[show(25*m+5*a+b)/25=m by omega,show(25*m+5*a+b)/5%5=a by omega,show(25*m+5*a+b)%5=b by omega,hJ] at hadd
    rw[hJ] at gf
    have hw':=c.sub.wf
    have nx:=c.nx
    simp(disch:=omega)only[go_sem,e10,e5,e13,e6,e16,c.e1,hb',XS,Za gf,gf,Y3 lJ ha hb,Y3 lJ ha hm,Y3 lJ hm hb,Zo hadd.1 hadd.2]
    have hx:Zg (h'.add (.bk [.ii (mg J a m+mg J m b)])) (.sl h'.next 0 1 (.fix 1)) 1 ([mg J a m+mg J m b].map fun n=>[iv n]):=Zg.new _ rfl rfl rfl yao yao
    refine least_ev f1 (h:=h'.add (.bk [.ii (mg J a m+mg J m b)])) (H.wf_add hw' _) hx _ _ fun h2 s2=>?_
    have s12:h'.Sub h2:=((H.Sub.refl hw').add _).trans s2
    have gf2:=s12.get gf
    have hp:=Vm (L:=J) (k:=a*5+b*1) yab (min (mg J a b) (mg J a m+mg J m b))
    have hx2:=s12.next
    simp(disch:=omega)only[go_sem,List.foldl_cons,List.foldl_nil,XS,e10,e5,e13,e6,e16,c.e1,Za gf2,gf2,Za gf,gf,Y3 lJ ha hb,Y3 lJ ha hm,Y3 lJ hm hb,hp,Zj]
    have hr:J.set (a*5+b*1) (min (mg J a b) (mg J a m+mg J m b))=run5 (25*m+5*a+(b+1)) K:=by
     rw[←Nat.add_assoc,run5_at ha hb,hJ,show a*5+b*1=5*a+b by omega];rfl
    rw[hr]
    exact⟨_,_,rfl,⟨(c.sub.trans s12).set yab yab hw _,by rw[H.next_set];omega,get_set_same rfl,by rw[get_set_other yab];exact s12.get c.gr,by rw[get_set_other yab];exact s12.get c.gb,yap,yaj,yaq⟩,yar,yam,(by simp[Zm,Zd,e13]<;>rfl),yai,yac⟩
   ·rintro s ⟨tm,h',rfl,c,e10,e5,e13,e6,e16⟩
    simp(disch:=omega)only[go_sem,e10,e5,e13,e6,e16,h55,Zj]
    exact⟨_,_,rfl,⟨c.sub,c.nx,by rw[Nat.mul_add,←Nat.add_assoc];exact c.gf,c.gr,c.gb,yap,yaj,yaq⟩,yar,yam,yac⟩
  ·rintro s ⟨tm,h',rfl,c,e10,e5,e13⟩
   simp(disch:=omega)only[go_sem,e10,e5,e13,h55,Zj]
   exact⟨_,_,rfl,⟨c.sub,c.nx,by rw[Nat.mul_add];exact c.gf,c.gr,c.gb,yap,yaj,yaq⟩,yac⟩
 ·rintro s ⟨tm,h',rfl,c,e10⟩
  have c:CI h h1.next K Z 125 tm h':=c
  obtain⟨J,hJ⟩:∃J,run5 125 K=J:=⟨_,rfl⟩
  have lJ:J.length=25:=by rw[←hJ,Xn];exact lK
  have gf:=c.gf
  rw[hJ] at gf
  have hw':=c.sub.wf
  have hnx:=c.nx
  have hlr:h.next<h'.next:=by omega
  have gJ:Y6 0 25 (J.map iv)=some (J.map iv):=by rw[←lJ];exact XL J
  have lnJ:Yt (J.map iv)=25:=by rw[Vp,lJ]
  have pJ:h'.put (h.next+1) 0 (J.map iv)=some (h'.set (h.next+1) (.bk (J.map iv))):=WY (L:=Z) c.gr yab (fun e=>by rw[e] at lJ;cases lJ)
  have sR:h.Sub (h'.set (h.next+1) (.bk (J.map iv))):=c.sub.set yab yab hw _
  have res:(h'.set (h.next+1) (.bk (J.map iv))).cells (h.next+1)=some (J.map iv):=W8 rfl
  have hge:Wg 240 K<k:=lf
  simp(disch:=omega)only[go_sem,e10,h55]
  refine Zk 5 (fun a s=>∃tm,s=⟨tm,h',[]⟩∧tm.E 1=.ptr h.next 0∧tm.E 2=.ptr (h.next+1) 0∧tm.E 4=.ptr h1.next 0∧(∀d,d<a→¬mg J d d<0)∧tm.E 44=.ii (a:Int)) ?_ ?_ (i:=0) (Nat.zero_le _)
   ⟨_,rfl,yap,yaj,yaq,fun d hd=>absurd hd (Nat.not_lt_zero _),yac⟩
  ·rintro a s ha ⟨tm,rfl,e1,e2,e4,hd,e44⟩
   have ha':(a:Int)<5:=by omega
   by_cases hneg:mg J a a<0
   ·have hcl2:YK K=(J,false):=by
     rw[←clos_eq yah yah r1 (n:=Wg 240 K+1) yab]
     simp only[clo,hJ,neg5_iff.2 ⟨a,ha,hneg⟩,if_true]
    have q':=q _ sR
    rw[←hcl,hcl2] at q'
    simp(disch:=omega)only[go_sem,e1,e2,e44,ha',XS,Za gf,Y3 lJ ha ha,hneg,gJ,lnJ,pJ,res]
    exact q'
   ·simp(disch:=omega)only[go_sem,e1,e2,e44,ha',XS,Za gf,Y3 lJ ha ha,hneg,Zj]
    have hd':∀d,d<a+1→¬mg J d d<0:=fun d h5=>by
     rcases Nat.lt_or_ge d a with h6|h6
     ·exact hd d h6
     ·have:d=a:=by omega
      subst this;exact hneg
    exact⟨_,rfl,yaf,yad,yas,hd',yac⟩
  ·rintro s ⟨tm,rfl,e1,e2,e4,hd,e44⟩
   have hn5:neg5 J=false:=by
    cases hn:neg5 J with
    |false=>rfl
    |true=>obtain⟨a,ha,h2⟩:=neg5_iff.1 hn;exact absurd h2 (hd a ha)
   have hq:=X2 (n:=25) J K lJ lK false
   by_cases hJK:J=K
   ·have hcl2:YK K=(J,true):=by
     rw[←clos_eq yah yah r1 (n:=Wg 240 K+1) yab]
     simp only[clo,hJ,hn5,Bool.false_eq_true,if_false,if_pos hJK]
    have q':=q _ sR
    rw[←hcl,hcl2] at q'
    have hd1:ngB false (decide (J=K))=true:=by simp[hJK,ngB]
    simp(disch:=omega)only[go_sem,e1,e2,e4,e44,h55,Za gf,Za c.gb,gJ,gK,hq,hd1,lnJ,pJ,res]
    exact q'
   ·have hd1:ngB false (decide (J=K))=false:=by simp[hJK,ngB]
    simp(disch:=omega)only[go_sem,e1,e2,e4,e44,h55,Za gf,Za c.gb,gJ,gK,hq,hd1]
    have hlt:=r1.left yah (by rw[hJ];exact hn5) (by rw[hJ];exact hJK)
    have hnx2:=(r1.next yah (by rw[hJ];exact hn5) (by rw[hJ];exact hJK)).1
    rw[hJ] at hlt hnx2
    refine⟨Wg 240 K,lf,_,_,J,rfl,c.sub,by omega,gf,c.gr,yaf,yad,hnx2,hlt,?_⟩
    rw[←hcl,←clos_eq yah yah r1 (n:=Wg 240 K+1) yab,←clos_eq yah yah hnx2 (n:=Wg 240 K) hlt]
    simp only[clo,hJ,hn5,Bool.false_eq_true,if_false,if_neg hJK]
end Go.Ab.Tryz
namespace Go.Ab
theorem mul_bd {m g:Int}(h0:0≤m)(h1:m≤240)(h2: -30≤g)(h3:g≤30): -7200≤m*g∧m*g≤7200:=by
 have a:=Int.mul_le_mul_of_nonneg_left h3 h0
 have b:=Int.mul_le_mul_of_nonneg_left h2 h0
 omega
structure Wy (set gain:Int):Prop where
 s0: -60≤set
 s1:set≤60
 g0: -30≤gain
 g1:gain≤30
end Go.Ab
namespace Go.Ab.Tryz
open Go.Proofs
variable {fast:Nat→Option (List V→H→Option (V × H))}
theorem shows_ev (f1:fast 75=none){h:H}(hw:h.wf){set gain m:Int}(r:Wy set gain)(h0:0≤m)(h1:m≤240)(Q:V→H→Prop)(q:∀h',h.Sub h'→Q (.ii (shw set gain m)) h'):
  Ev fnG fast (.fn 75 [] []) [.agg [.ii set,.ii gain],.ii m] h Q:=by
 have hb:=mul_bd h0 h1 r.g0 r.g1
 have s0:=r.s0;have s1:=r.s1
 have w1:wr .i64 (m*gain)=m*gain:=Zo yab yab
 have w2:wr .i64 (set+m)=set+m:=Zo yab yab
 have e:=shw_go (m*gain)
 have hq:=fun n=>Yx .i64 (a:=n) (b:=60) yah
 have s:h.Sub (h.add (.bk [.ii set,.ii gain])):=yaa
 refine Ze (fd:=c75) f1 rfl rfl ?_
 by_cases hn:m*gain<0
 ·rw[if_pos hn] at e
  have w3:wr .i64 (m*gain-59)=m*gain-59:=Zo yab yab
  have w4:wr .i64 (m*gain/60)=m*gain/60:=Zo yab yab
  have w5:wr .i64 (set+m+m*gain/60)=set+m+m*gain/60:=Zo yab yab
  simp(disch:=omega)only[c75,go_sem,w1,w2,w3,hn,hq,e,w4,w5]
  exact q _ s
 ·rw[if_neg hn] at e
  have w4:wr .i64 (m*gain/60)=m*gain/60:=Zo yab yab
  have w5:wr .i64 (set+m+m*gain/60)=set+m+m*gain/60:=Zo yab yab
  simp(disch:=omega)only[c75,go_sem,w1,w2,hn,hq,e,w4,w5]
  exact q _ s
set_option maxHeartbeats 1000000 in
theorem when_ev (f1:fast 75=none)(f2:fast 76=none){h:H}(hw:h.wf){set gain:Int}(r:Wy set gain)(s:Int){n:Nat}(hn:n≤240)(Q:V→H→Prop)
  (q:∀h',h.Sub h'→Q (.agg [.ii (whn set gain s (n+1)).1,.ii (whn set gain s (n+1)).2]) h'):
  Ev fnG fast (.fn 76 [] []) [.agg [.ii set,.ii gain],.ii s,.ii (n:Int)] h Q:=by
 refine Ze (fd:=c76) f2 rfl rfl ?_
 simp -implicitDefEqProofs(disch:=first|omega|simp only[nZ]<;>omega|fail)only[c76,go_sem,Zj]
 refine Zk (n+1) (fun m st=>∃tm h',st=⟨tm,h',[]⟩∧h.Sub h'∧h.next+2<h'.next∧h'.get h.next=some (.bk [.ii set,.ii gain])∧h'.get (h.next+1)=some (.bk [.ii 0,.ii 0])∧h'.get (h.next+2)=some (.bk [.ii (whn set gain s m).1,.ii (whn set gain s m).2])∧
   tm.E 1=.ii s∧tm.E 3=.ptr h.next 0∧tm.E 6=.ptr (h.next+1) 0∧tm.E 7=.ptr (h.next+2) 0∧tm.E 11=.ii ((n+1:Nat):Int)∧tm.E 12=.ii (m:Int))
  ?_ ?_ (i:=0) (Nat.zero_le _) ⟨_,_,rfl,?_,by simp only[H.next_add];omega,by simp -implicitDefEqProofs(maxSteps:=999999)(disch:=first|with_reducible rfl|omega|(simp only[nA,nS,nD]<;>omega)|fail)only[go_sem],by simp -implicitDefEqProofs(maxSteps:=999999)(disch:=first|with_reducible rfl|omega|(simp only[nA,nS,nD]<;>omega)|fail)only[go_sem],by simp -implicitDefEqProofs(maxSteps:=999999)(disch:=first|with_reducible rfl|omega|(simp only[nA,nS,nD]<;>omega)|fail)only[go_sem,whn],yac,yac,yac,yac,yac,yac⟩
 ·rintro m st hm ⟨tm,h',rfl,hs,hx,ga,gb,gc,e1,e3,e6,e7,e11,e12⟩
  have hm':(m:Int)<((n+1:Nat):Int):=by omega
  simp(disch:=omega)only[go_sem,e1,e3,e6,e7,e11,e12,hm',Za ga]
  refine shows_ev f1 hs.wf r yab yab _ fun h2 s2=>?_
  have hx2:=s2.next
  by_cases h1:shw set gain m=s
  ·have ew:whn set gain s (m+1)=if(whn set gain s m).2<(whn set gain s m).1 then((m:Int),(m:Int)) else((whn set gain s m).1,(m:Int)):=by rw[whn,if_pos h1]
   by_cases h3:(whn set gain s m).2<(whn set gain s m).1
   ·rw[if_pos h3] at ew
    simp(disch:=omega)only[go_sem,e1,e3,e6,e7,e11,e12,h1,ne_eq,not_true_eq_false,Za (s2.get gc),s2.get gc,h3,Zj]
    refine⟨_,_,rfl,(hs.trans s2).set yab yab hw _,by rw[H.next_set];omega,by rw[get_set_other yab];exact s2.get ga,by rw[get_set_other yab];exact s2.get gb,by rw[get_set_same rfl,ew],yaf,(by simp[Zm,Zd,e3]<;>rfl),yai,yak,yaD,yac⟩
   ·rw[if_neg h3] at ew
    simp(disch:=omega)only[go_sem,e1,e3,e6,e7,e11,e12,h1,ne_eq,not_true_eq_false,Za (s2.get gc),s2.get gc,h3,Zj]
    refine⟨_,_,rfl,(hs.trans s2).set yab yab hw _,by rw[H.next_set];omega,by rw[get_set_other yab];exact s2.get ga,by rw[get_set_other yab];exact s2.get gb,by rw[get_set_same rfl,ew],yaf,(by simp[Zm,Zd,e3]<;>rfl),yai,yak,yaD,yac⟩
  ·have ew:whn set gain s (m+1)=whn set gain s m:=by rw[whn,if_neg h1]
   simp(disch:=omega)only[go_sem,e1,e3,e6,e7,e11,e12,h1,ne_eq,not_false_eq_true,Zj]
   exact⟨_,_,rfl,hs.trans s2,by omega,s2.get ga,s2.get gb,by rw[ew];exact s2.get gc,yaf,(by simp[Zm,Zd,e3]<;>rfl),yai,yak,yaD,yac⟩
 ·rintro st ⟨tm,h',rfl,hs,hx,ga,gb,gc,e1,e3,e6,e7,e11,e12⟩
  have sR:h.Sub (h'.set (h.next+1) (.bk [.ii (whn set gain s (n+1)).1,.ii (whn set gain s (n+1)).2])):=hs.set yab yab hw _
  simp(disch:=omega)only[go_sem,e1,e3,e6,e7,e11,e12,Int.lt_irrefl,Za gc,gb]
  exact q _ sR
 ·exact yaa
end Go.Ab.Tryz
namespace Go.Ab
def steps125:List (Nat × Nat × Nat):=[(0,0,0),(1,0,1),(2,0,2),(3,0,3),(4,0,4),(5,5,0),(6,5,1),(7,5,2),(8,5,3),(9,5,4),(10,10,0),(11,10,1),(12,10,2),(13,10,3),(14,10,4),(15,15,0),(16,15,1),(17,15,2),(18,15,3),(19,15,4),(20,20,0),(21,20,1),(22,20,2),(23,20,3),(24,20,4),(0,1,5),(1,1,6),(2,1,7),(3,1,8),(4,1,9),(5,6,5),(6,6,6),(7,6,7),(8,6,8),(9,6,9),(10,11,5),(11,11,6),(12,11,7),(13,11,8),(14,11,9),(15,16,5),(16,16,6),(17,16,7),(18,16,8),(19,16,9),(20,21,5),(21,21,6),(22,21,7),(23,21,8),(24,21,9),(0,2,10),(1,2,11),(2,2,12),(3,2,13),(4,2,14),(5,7,10),(6,7,11),(7,7,12),(8,7,13),(9,7,14),(10,12,10),(11,12,11),(12,12,12),(13,12,13),(14,12,14),(15,17,10),(16,17,11),(17,17,12),(18,17,13),(19,17,14),(20,22,10),(21,22,11),(22,22,12),(23,22,13),(24,22,14),(0,3,15),(1,3,16),(2,3,17),(3,3,18),(4,3,19),(5,8,15),(6,8,16),(7,8,17),(8,8,18),(9,8,19),(10,13,15),(11,13,16),(12,13,17),(13,13,18),(14,13,19),(15,18,15),(16,18,16),(17,18,17),(18,18,18),(19,18,19),(20,23,15),(21,23,16),(22,23,17),(23,23,18),(24,23,19),(0,4,20),(1,4,21),(2,4,22),(3,4,23),(4,4,24),(5,9,20),(6,9,21),(7,9,22),(8,9,23),(9,9,24),(10,14,20),(11,14,21),(12,14,22),(13,14,23),(14,14,24),(15,19,20),(16,19,21),(17,19,22),(18,19,23),(19,19,24),(20,24,20),(21,24,21),(22,24,22),(23,24,23),(24,24,24)]
def okI (lo hi:Int)(n:Int):Bool:=match ilt n lo with|true=>false|false=> !ilt hi n
theorem okI_eq {lo hi n:Int}:okI lo hi n=true↔lo≤n∧n≤hi:=by
 unfold okI;rw[XJ,XJ]
 by_cases h:n<lo
 ·simp[h];omega
 ·simp[h];omega
def getIs:List V→Option (List Int)
 |[]=>some []
 |v::l=>match v with
  |.int k n=>(match keq k .i64 with
   |true=>(match okI (-240) 240 n with
    |true=>(match getIs l with|some r=>some (n::r)|none=>none)
    |false=>none)
   |false=>none)
  |_=>none
theorem getIs_eq:∀{l:List V} {r:List Int},getIs l=some r→l=r.map (V.int .i64)∧∀n∈r, -240≤n∧n≤240
 |[],r,h=>by simp only[getIs,Option.some.injEq] at h;subst h;exact⟨rfl,by simp⟩
 |v::l,r,h=>by
  simp only[getIs] at h
  split at h
  ·split at h
   ·rename_i k n hk
    split at h
    ·rename_i hn
     split at h
     ·rename_i r' hr
      cases h
      obtain⟨h1,h2⟩:=getIs_eq hr
      refine⟨by rw[Vy.1 hk,h1];rfl,fun m hm=>?_⟩
      simp only[List.mem_cons] at hm
      rcases hm with rfl|hm
      ·exact okI_eq.1 hn
      ·exact h2 m hm
     ·cases h
    ·cases h
   ·cases h
  ·cases h
def mapIv {β:Type}:List Int→(List V→β)→β
 |[],f=>f []
 |n::l,f=>zf n fun n=>mapIv l fun r=>f (.ii n::r)
theorem mapIv_eq {β:Type}:∀(l:List Int) (f:List V→β),mapIv l f=f (l.map (V.int .i64))
 |[],f=>rfl
 |n::l,f=>by simp[mapIv,zf_eq,mapIv_eq l]
def closedF (args:List V)(h:H):Option (V × H):=match args with
 |[.agg cs]=>(match Nat.beq (Yt cs) 25 with
  |true=>(match getIs cs with
   |some L=>(match cloK steps125 12002 L with
    |(K,b)=>mapIv K fun K=>(match b with
     |true=>some (.tup [.agg K,.bool true],h)
     |false=>some (.tup [.agg K,.bool false],h)))
   |none=>none)
  |false=>none)
 |_=>none
def whenF (args:List V)(h:H):Option (V × H):=match args with
 |[.agg [.ii set,.ii gain],.ii s,.ii (.ofNat n)]=>(match okI (-60) 60 set with
  |true=>(match okI (-30) 30 gain with
   |true=>(match Nat.ble n 240 with
    |true=>(match whnK (fun m=>ieq (set+ .ofNat m+ .ofNat m*gain/60) s) (n+1) 0 (1,0) with
     |(lo,hi)=>zf lo fun lo=>zf hi fun hi=>some (.agg [.ii lo,.ii hi],h))
    |false=>none)
   |false=>none)
  |false=>none)
 |_=>none
end Go.Ab
namespace Go.Ab
theorem plain_spec {P:Program}{Ty:Nat→Option TD}{f:FuncId}{args:List V}{h':H}{v:V}(hs:Yr P Ty f args ⟨0,.nil⟩ v h')(ha0:scL (fun _=>False) args)(hv:v.sc fun _=>False)(h:H):Yr P Ty f args h v h:=by
 refine⟨H.le_refl _,fun{F n φ p w} hF hfr hR ha hwf=>?_⟩
 have hg:∀b x,(H.get ⟨0,.nil⟩ b)=some x→False:=fun b x hb=>by
  have:(T.nil:T Blk).get b=some x:=hb
  rw[T.get_nil] at this;cases this
 have h0:Rep Ty φ (H.get ⟨0,.nil⟩) (fun _=>False) w:=⟨fun b x hb=>(hg b x hb).elim,fun b c x y hb=>(hg b x hb).elim,fun b x hb=>(hg b x hb).elim⟩
 refine CallsIn.mono (hs.2 hF (fun b _ _ h=>h) h0 ha0 (fun b x hb=>(hg b x hb).elim)) fun e w' he=>?_
 obtain⟨φ',rfl,⟨r1,r2⟩,r3⟩:=he
 have hkept:∀B,B<w.heap.size→w'.heap[B]? =w.heap[B]? :=fun B hB=>r2.kept B hB fun b x hb=>(hg b x hb).elim
 refine⟨φ,by rw[conc_closed hv φ' φ],?_,V.sc_mono (fun _ h=>h.elim) _ hv⟩
 unfold Done
 rw[ZK]
 refine⟨⟨fun b x hb=>?_,hR.inj,hR.sc⟩,⟨φ.agree_refl p,fun _ h=>h,r2.size,fun B hB _=>hkept B hB,fun b x hb=>.inr ⟨b,x,hb,.refl,rfl⟩,r2.env⟩⟩
 obtain⟨o,ho,hi⟩:=hR.blk b x hb
 exact⟨o,by rw[hkept _ (hR.lt hb),ho],hi⟩
theorem steps_eq:steps125=stepsK 125:=by kernel_rfl
theorem sc_ints (l:List Int):scL (fun _=>False) (l.map (V.int .i64)):=ZH.2 fun v hv=>by obtain⟨n,_,rfl⟩:=List.mem_map.1 hv;trivial
theorem in5_of {L:List Int}(hl:L.length=25)(h:∀n∈L, -240≤n∧n≤240):In5 240 L:=by
 have:∀a b,a<5→b<5→mg L a b∈L:=fun a b ha hb=>by
  unfold mg
  rw[List.getD_eq_getElem?_getD,List.getElem?_eq_getElem yab]
  exact List.getElem_mem yab
 exact⟨hl,fun a b ha hb=>(h _ (this a b ha hb)).2,fun a b ha hb=>(h _ (this a b ha hb)).1⟩
end Go.Ab
namespace Go.Ab.Tryz
open Go.Proofs
theorem callable0 {f:FuncId}{fd:FD}(h:fnG f=some fd):Xa Tryz.prog f:=callable_of fnOK h
def noF (f:Nat):Option (List V→H→Option (V × H)):=none
theorem noF_ok:Ve Tryz.prog tyG noF:=⟨fun f g h=>by cases h⟩
theorem closedF_ok {args:List V}{h h':H}{v:V}(hs:closedF args h=some (v,h')):Yr Tryz.prog tyG 133 args h v h':=by
 unfold closedF at hs
 split at hs
 ·rename_i cs
  split at hs
  ·rename_i hl
   split at hs
   ·rename_i L hL
    obtain⟨rfl,hb⟩:=getIs_eq hL
    have hl:=Nat.eq_of_beq_eq_true hl
    rw[Z7,List.length_map] at hl
    have e:cloK steps125 12002 L=YK L:=by rw[steps_eq,cloK_eq];rfl
    rw[e,show YK L=((YK L).1,(YK L).2) from rfl] at hs
    simp only[mapIv_eq] at hs
    have hw:H.wf ⟨0,.nil⟩:=fun b x hb=>by
     have:(T.nil:T Blk).get b=some x:=hb
     rw[T.get_nil] at this;cases this
    obtain⟨v',h1,hsp,hq⟩:=(closed_ev (fast:=noF) rfl rfl hw (in5_of hl hb) (fun v' _=>v'=.tup [.agg ((YK L).1.map iv),.bool (YK L).2]) fun _ _=>rfl).spec tyOK depth_ok mixed_ok fnOK noF_ok (callable0 (fd:=c133) rfl)
    subst hq
    have hsp2:=plain_spec hsp ⟨sc_ints L,trivial⟩ ⟨sc_ints (YK L).1,trivial,trivial⟩ h
    have:v=.tup [.agg ((YK L).1.map iv),.bool (YK L).2]∧h'=h:=by
     cases hb:(YK L).2<;>rw[hb] at hs<;>cases hs<;>exact⟨rfl,rfl⟩
    obtain⟨rfl,rfl⟩:=this
    exact hsp2
   ·cases hs
  ·cases hs
 ·cases hs
theorem whenF_ok {args:List V}{h h':H}{v:V}(hs:whenF args h=some (v,h')):Yr Tryz.prog tyG 76 args h v h':=by
 unfold whenF at hs
 split at hs
 ·rename_i set gain s n
  split at hs
  ·rename_i h1
   split at hs
   ·rename_i h2
    split at hs
    ·rename_i h3
     have h1:=okI_eq.1 h1
     have h2:=okI_eq.1 h2
     have h3:=Nat.le_of_ble_eq_true h3
     have e:=whnK_eq set gain s (n+1) 0
     rw[show whn set gain s 0=(1,0) from rfl,Nat.zero_add] at e
     rw[e] at hs
     simp only[zf_eq,Option.some.injEq,Prod.mk.injEq] at hs
     obtain⟨rfl,rfl⟩:=hs
     have hw:H.wf ⟨0,.nil⟩:=fun b x hb=>by
      have:(T.nil:T Blk).get b=some x:=hb
      rw[T.get_nil] at this;cases this
     obtain⟨v',h1,hsp,hq⟩:=(when_ev (fast:=noF) rfl rfl hw ⟨h1.1,h1.2,h2.1,h2.2⟩ s h3 (fun v' _=>v'=.agg [.ii (whn set gain s (n+1)).1,.ii (whn set gain s (n+1)).2]) fun _ _=>rfl).spec tyOK depth_ok mixed_ok fnOK noF_ok (callable0 (fd:=c76) rfl)
     subst hq
     exact plain_spec hsp ⟨⟨trivial,trivial,trivial⟩,trivial,trivial,trivial⟩ ⟨trivial,trivial,trivial⟩ h
    ·cases hs
   ·cases hs
  ·cases hs
 ·cases hs
noncomputable def fastK (f:Nat):Option (List V→H→Option (V × H)):=match Nat.beq f 133 with
 |true=>some closedF
 |false=>match Nat.beq f 76 with
  |true=>some whenF
  |false=>match Nat.beq f 138 with
   |true=>some sortF
   |false=>none
theorem sort_callable:Xa Tryz.prog 138:=⟨Tryz.f138,Tryz.func138,by kernel_rfl,by kernel_rfl⟩
theorem sortF_at {args:List V}{h h':H}{v:V}(hs:sortF args h=some (v,h')):Yr Tryz.prog tyG 138 args h v h':=sortF_ok Tryz.lays189 hs
theorem W2:Ve Tryz.prog tyG fastK:=by
 refine⟨fun f g h=>?_⟩
 unfold fastK at h
 split at h
 ·rename_i hb
  have:=Nat.eq_of_beq_eq_true hb;subst this
  cases h
  exact⟨callable0 (fd:=c133) rfl,fun args h v h' e=>closedF_ok e⟩
 ·split at h
  ·rename_i hb
   have:=Nat.eq_of_beq_eq_true hb;subst this
   cases h
   exact⟨callable0 (fd:=c76) rfl,fun args h v h' e=>whenF_ok e⟩
  ·split at h
   ·rename_i hb
    have:=Nat.eq_of_beq_eq_true hb;subst this
    cases h
    exact⟨sort_callable,fun args h v h' e=>sortF_at e⟩
   ·cases h
end Go.Ab.Tryz
namespace Go.Ab.Tryz
open Go.Proofs
noncomputable def Zi (f:Nat):Option (List V→H→Option (V × H)):=match Nat.beq f 9 with
 |true=>some fun args h=>match args with
  |[]=>some (.bool true,h)
  |_=>none
 |false=>match Nat.beq f 138 with
  |true=>some sortF
  |false=>none
def encI (n:Int):List V:=[.ii n]
end Go.Ab.Tryz
namespace Go.Ab.Tryz
open Go.Proofs
section
variable {Fn:Nat→Option FD} {fast:Nat→Option (List V→H→Option (V × H))} {N fn:Nat} {ro:Option Nat}
theorem ZD {A P:C}{s:St}{R:X→St→Prop}(J:St→Prop)(h:W Fn fast N fn ro A s (fun x s'=>x=.nrm∧J s'))(k:∀s',J s'→W Fn fast N fn ro P s' R):W Fn fast N fn ro (A.seq P) s R:=by
 rw[W_seq]
 exact h.mono fun x s' ⟨hx,hj⟩=>by subst hx;exact k s' hj
end
abbrev E (fv:V) (args:List V) (h:H) (Q:V→H→Prop):Prop:=Ev fnG Zi fv args h Q
theorem Z3 (h:H)(Q:V→H→Prop):Ev fnG Zi (.fn 9 [] []) [] h Q=Q (.bool true) h:=Ev.det ⟨1,.bool true,h,rfl,rfl,rfl⟩ Q
def inB (n lo hi:Int):Bool:=decide (lo≤n)&&decide (n≤hi)
theorem Zs {n lo hi:Int}:inB n lo hi=true↔lo≤n∧n≤hi:=by simp[inB]
theorem Xx (h:H)(n lo hi:Int)(Q:V→H→Prop):Ev fnG Zi (.fn 21 [] []) [.ii n,.ii lo,.ii hi] h Q=Q (.bool (inB n lo hi)) h:=by
 refine Ev.det ?_ Q
 refine Ze (fd:=c21) rfl rfl rfl ?_
 by_cases h1:lo≤n
 ·have e:inB n lo hi=decide (n≤hi):=by simp[inB,h1]
  rw[e]
  simp(disch:=omega)only[c21,go_sem,h1]
 ·have e:inB n lo hi=false:=by simp[inB,h1]
  rw[e]
  simp(disch:=omega)only[c21,go_sem,h1]
def Xj (set gain:Int):Bool:=inB set (-60) 60&&inB gain (-30) 30
theorem Uf {set gain:Int}:Xj set gain=true↔Wy set gain:=by
 rw[Xj,Bool.and_eq_true,Zs,Zs]
 exact⟨fun⟨⟨a,b⟩,c,d⟩=>⟨a,b,c,d⟩,fun⟨a,b,c,d⟩=>⟨⟨a,b⟩,c,d⟩⟩
theorem right_ev {h:H}(hw:h.wf)(set gain:Int)(Q:V→H→Prop)(q:∀h',h.Sub h'→Q (.bool (Xj set gain)) h'):Ev fnG Zi (.fn 74 [] []) [.agg [.ii set,.ii gain]] h Q:=by
 refine Ze (fd:=c74) rfl rfl rfl ?_
 have s:h.Sub (h.add (.bk [.ii set,.ii gain])):=yaa
 cases h1:inB set (-60) 60 with
 |true=>
  have e:Xj set gain=inB gain (-30) 30:=by rw[Xj,h1,Bool.true_and]
  rw[e] at q
  simp(disch:=omega)only[c74,go_sem,Xx,h1]
  exact q _ s
 |false=>
  have e:Xj set gain=false:=by rw[Xj,h1,Bool.false_and]
  rw[e] at q
  simp(disch:=omega)only[c74,go_sem,Xx,h1]
  exact q _ s
def X1 (set gain m:Int):Int:=if Xj set gain=true∧inB m 0 240=true then 0 else 3
def X0 (set gain m:Int):Int:=if Xj set gain=true∧inB m 0 240=true then shw set gain m else 0
theorem Shown_ev {h:H}(hw:h.wf)(set gain m:Int)(Q:V→H→Prop)(q:∀h',h.Sub h'→Q (.tup [.ii (X0 set gain m),.ii (X1 set gain m)]) h'):
  Ev fnG Zi (.fn 18 [] []) [.ii set,.ii gain,.ii m] h Q:=by
 refine Ze (fd:=c18) rfl rfl rfl ?_
 have s:h.Sub (h.add (.bk [.ii set,.ii gain])):=yaa
 have hc:(h.add (.bk [.ii set,.ii gain])).cells h.next=some [.ii set,.ii gain]:=Zu rfl
 simp(disch:=omega)only[c18,go_sem]
 refine right_ev s.wf set gain _ fun h1 s1=>?_
 have hc1:=s1.cells hc
 cases h2:Xj set gain with
 |false=>
  have e1:X1 set gain m=3:=by simp[X1,h2]
  have e2:X0 set gain m=0:=by simp[X0,h2]
  simp(disch:=omega)only[go_sem,Xx]
  have q':=q _ (s.trans s1)
  rw[e1,e2] at q';exact q'
 |true=>
  cases h3:inB m 0 240 with
  |false=>
   have e1:X1 set gain m=3:=by simp[X1,h3]
   have e2:X0 set gain m=0:=by simp[X0,h3]
   simp(disch:=omega)only[go_sem,Xx,h3]
   have q':=q _ (s.trans s1)
   rw[e1,e2] at q';exact q'
  |true=>
   have e1:X1 set gain m=0:=by simp[X1,h2,h3]
   have e2:X0 set gain m=shw set gain m:=by simp[X0,h2,h3]
   have hm:=Zs.1 h3
   simp(disch:=omega)only[go_sem,Xx,h3,hc1]
   refine shows_ev rfl s1.wf (Uf.1 h2) hm.1 hm.2 _ fun h4 s4=>?_
   simp(disch:=omega)only[go_sem]
   have q':=q _ ((s.trans s1).trans s4)
   rw[e1,e2] at q';exact q'
def whnG (set gain s:Int):Int × Int:=whn set gain s 241
def Ww (set gain s:Int):Int:=if Xj set gain=true then(if(whnG set gain s).2<(whnG set gain s).1 then 6 else 0) else 3
def XT (set gain s:Int):Int × Int:=if Ww set gain s=0 then whnG set gain s else(0,0)
set_option maxHeartbeats 1000000 in
theorem When_ev {h:H}(hw:h.wf)(set gain s:Int)(Q:V→H→Prop)(q:∀h',h.Sub h'→Q (.tup [.agg [.ii (XT set gain s).1,.ii (XT set gain s).2],.ii (Ww set gain s)]) h'):
  Ev fnG Zi (.fn 19 [] []) [.ii set,.ii gain,.ii s] h Q:=by
 refine Ze (fd:=c19) rfl rfl rfl ?_
 have s0:h.Sub ((h.add (.bk [.ii 0,.ii 0])).add (.bk [.ii set,.ii gain])):=yaa
 have hc:((h.add (.bk [.ii 0,.ii 0])).add (.bk [.ii set,.ii gain])).cells (h.next+1)=some [.ii set,.ii gain]:=by simp -implicitDefEqProofs(disch:=first|omega|simp only[nZ]<;>omega|fail)only[go_sem]
 have hr:((h.add (.bk [.ii 0,.ii 0])).add (.bk [.ii set,.ii gain])).get h.next=some (.bk [.ii 0,.ii 0]):=by simp -implicitDefEqProofs(disch:=first|omega|simp only[nZ]<;>omega|fail)only[go_sem]
 have n0:((h.add (.bk [.ii 0,.ii 0])).add (.bk [.ii set,.ii gain])).next=h.next+2:=by simp only[H.next_add]
 simp -implicitDefEqProofs(disch:=first|omega|simp only[nZ]<;>omega|fail)only[c19,go_sem]
 generalize((h.add (.bk [.ii 0,.ii 0])).add (.bk [.ii set,.ii gain]))=h0 at s0 hc hr n0⊢
 refine right_ev s0.wf set gain _ fun h1 s1=>?_
 have l1:=s1.next
 cases h2:Xj set gain with
 |false=>
  have e1:Ww set gain s=3:=by simp[Ww,h2]
  have e2:XT set gain s=(0,0):=by simp[XT,e1]
  simp(disch:=omega)only[go_sem,s1.get hr]
  have q':=q _ ((s0.trans s1).set (b:=h.next) yab yab hw (.bk [.ii 0,.ii 0]))
  rw[e1,e2] at q';exact q'
 |true=>
  simp(disch:=omega)only[go_sem,s1.cells hc]
  refine when_ev (n:=240) rfl rfl s1.wf (Uf.1 h2) s (Nat.le_refl _) _ fun h3 s3=>?_
  have s13:=s1.trans s3
  have l3:=s3.next
  have sA:=s3.trans ((H.Sub.refl s3.wf).add (.bk [.ii (whn set gain s (240+1)).1,.ii (whn set gain s (240+1)).2]))
  have e0:whnG set gain s=whn set gain s (240+1):=rfl
  by_cases h5:(whn set gain s (240+1)).2<(whn set gain s (240+1)).1
  ·have e1:Ww set gain s=6:=by simp only[Ww,h2,e0,if_true,if_pos h5]
   have e2:XT set gain s=(0,0):=by simp[XT,e1]
   simp(disch:=omega)only[go_sem,h5,s13.get hr]
   have q':=q _ (((s0.trans s1).trans sA).set (b:=h.next) yab yaz hw (.bk [.ii 0,.ii 0]))
   rw[e1,e2] at q';exact q'
  ·have e1:Ww set gain s=0:=by simp only[Ww,h2,e0,if_true,if_neg h5]
   have e2:XT set gain s=whn set gain s (240+1):=by simp only[XT,e1,if_true,e0]
   simp(disch:=omega)only[go_sem,h5,s13.get hr]
   have q':=q _ (((s0.trans s1).trans sA).set (b:=h.next) yab yaz hw (.bk [.ii (whn set gain s (240+1)).1,.ii (whn set gain s (240+1)).2]))
   rw[e1,e2] at q';exact q'
theorem Vj {h:H}(hw:h.wf){set gain m:Int}(r:Wy set gain)(h0:0≤m)(h1:m≤240)(Q:V→H→Prop)(q:Q (.ii (shw set gain m)) h):
  Ev fnG Zi (.fn 16 [] []) [.ii set,.ii gain,.ii m] h Q:=by
 have hb:=mul_bd h0 h1 r.g0 r.g1
 have a0:=r.s0;have a1:=r.s1
 have w1:wr .i64 (m*gain)=m*gain:=Zo yab yab
 refine Ze (fd:=c16) rfl rfl rfl ?_
 simp(disch:=omega)only[c16,go_sem]
 have hk:∃n:Nat,(n:Int)=m*gain/60+121:=⟨(m*gain/60+121).toNat,by omega⟩
 obtain⟨n,hn⟩:=hk
 refine Zk n (fun i s=>∃tm,s=⟨tm,h,[]⟩∧tm.E 0=.ii set∧tm.E 1=.ii gain∧tm.E 2=.ii m∧tm.E 7=.ii ((i:Int)-121)) ?_ ?_ (i:=0) (Nat.zero_le _)
  ⟨_,rfl,yac,yac,yac,yac⟩
 ·rintro i s hi ⟨tm,rfl,e0,e1,e2,e7⟩
  have w2:wr .i64 ((i:Int)-121+1)=(i:Int)-121+1:=Zo yab yab
  have w3:wr .i64 (60*((i:Int)-121+1))=60*((i:Int)-121+1):=Zo yab yab
  have hle:60*((i:Int)-121+1)≤m*gain:=by omega
  simp(disch:=omega)only[go_sem,e0,e1,e2,e7,w1,w2,w3,hle]
  exact⟨_,rfl,yae,yaf,yad,(by rw[show((i+1:Nat):Int)-121=(i:Int)-121+1 by omega];exact(by simp[Zm,Zd]<;>rfl))⟩
 ·rintro s ⟨tm,rfl,e0,e1,e2,e7⟩
  have w2:wr .i64 ((n:Int)-121+1)=(n:Int)-121+1:=Zo yab yab
  have w3:wr .i64 (60*((n:Int)-121+1))=60*((n:Int)-121+1):=Zo yab yab
  have hle:¬60*((n:Int)-121+1)≤m*gain:=by omega
  have w4:wr .i64 (set+m)=set+m:=Zo yab yab
  have w5:wr .i64 (set+m+((n:Int)-121))=set+m+((n:Int)-121):=Zo yab yab
  have e:set+m+((n:Int)-121)=shw set gain m:=by unfold shw;omega
  rw[e] at w5
  simp(disch:=omega)only[go_sem,e0,e1,e2,e7,w1,w2,w3,hle,w4,w5,e]
  exact q
def whf (set gain s:Int)(n:Nat):Int × Int × Bool:=if(whn set gain s n).2<(whn set gain s n).1 then(0,0,false) else((whn set gain s n).1,(whn set gain s n).2,true)
theorem whf_0 (set gain s:Int):whf set gain s 0=(0,0,false):=by simp[whf,whn]
theorem whf_miss {set gain s:Int}{m:Nat}(h:shw set gain m≠s):whf set gain s (m+1)=whf set gain s m:=by simp only[whf,whn,if_neg h]
theorem whf_first {set gain s:Int}{m:Nat}(h:shw set gain m=s)(h2:(whf set gain s m).2.2=false):whf set gain s (m+1)=((m:Int),(m:Int),true):=by
 have h3:(whn set gain s m).2<(whn set gain s m).1:=by
  unfold whf at h2
  split at h2
  ·assumption
  ·cases h2
 simp only[whf,whn,if_pos h,if_pos h3,Int.lt_irrefl,if_false]
theorem whf_next {set gain s:Int}{m:Nat}(h:shw set gain m=s)(h2:(whf set gain s m).2.2=true):whf set gain s (m+1)=((whf set gain s m).1,(m:Int),true):=by
 have h3:¬(whn set gain s m).2<(whn set gain s m).1:=by
  intro h3
  simp only[whf,if_pos h3] at h2
  cases h2
 have h4:=whn_le (set:=set) (gain:=gain) (s:=s) (n:=m) yab
 simp only[whf,whn,if_pos h,if_neg h3]
 rw[if_neg yab]
set_option maxHeartbeats 1000000 in
theorem refWhen_ev {h:H}(hw:h.wf){set gain:Int}(r:Wy set gain)(s:Int)(Q:V→H→Prop)(q:∀h',h.Sub h'→Q (.tup [.agg [.ii (whf set gain s 241).1,.ii (whf set gain s 241).2.1],.bool (whf set gain s 241).2.2]) h'):
  Ev fnG Zi (.fn 17 [] []) [.ii set,.ii gain,.ii s] h Q:=by
 refine Ze (fd:=c17) rfl rfl rfl ?_
 simp(disch:=omega)only[c17,go_sem]
 refine Zk 241 (fun m st=>∃tm h',st=⟨tm,h',[]⟩∧h.Sub h'∧h.next+1<h'.next∧h'.get h.next=some (.bk [.ii 0,.ii 0])∧h'.get (h.next+1)=some (.bk [.ii (whf set gain s m).1,.ii (whf set gain s m).2.1])∧
   tm.E 0=.ii set∧tm.E 1=.ii gain∧tm.E 2=.ii s∧tm.E 6=.ptr h.next 0∧tm.E 8=.ptr (h.next+1) 0∧tm.E 9=.bool (whf set gain s m).2.2∧tm.E 10=.ii (m:Int))
  ?_ ?_ (i:=0) (Nat.zero_le _) ⟨_,_,rfl,yaa,by simp only[H.next_add];omega,by simp -implicitDefEqProofs(disch:=first|omega|simp only[nZ]<;>omega|fail)only[go_sem],by simp -implicitDefEqProofs(disch:=first|omega|simp only[nZ]<;>omega|fail)only[go_sem,whf_0],yac,yac,yac,yac,yac,(by simp[Zm,Zd,whf_0]<;>rfl),yac⟩
 ·rintro m st hm ⟨tm,h',rfl,hs,hx,ga,gb,e0,e1,e2,e6,e8,e9,e10⟩
  have hm':(m:Int)≤240:=by omega
  simp(disch:=omega)only[go_sem,e0,e1,e2,e6,e8,e9,e10,hm']
  refine Vj hs.wf r yab hm' _ ?_
  by_cases h1:shw set gain m=s
  ·cases hf:(whf set gain s m).2.2 with
   |false=>
    have ew:=whf_first h1 hf
    rw[hf] at e9
    have w1:wr .i64 ((m:Int)+1)=((m+1:Nat):Int):=Zj yab
    simp(disch:=omega)only[go_sem,e0,e1,e2,e6,e8,e9,e10,h1,ne_eq,not_true_eq_false,gb,w1]
    exact⟨_,_,rfl,hs.set yab yab hw _,by rw[H.next_set];omega,by rw[get_set_other yab];exact ga,by rw[get_set_same rfl,ew],yae,yaf,yad,yai,yag,(by simp[Zm,Zd,ew]<;>rfl),yac⟩
   |true=>
    have ew:=whf_next h1 hf
    rw[hf] at e9
    have w1:wr .i64 ((m:Int)+1)=((m+1:Nat):Int):=Zj yab
    simp(disch:=omega)only[go_sem,e0,e1,e2,e6,e8,e9,e10,h1,ne_eq,not_true_eq_false,gb,w1]
    exact⟨_,_,rfl,hs.set yab yab hw _,by rw[H.next_set];omega,by rw[get_set_other yab];exact ga,by rw[get_set_same rfl,ew],yae,yaf,yad,yai,yag,(by simp[Zm,Zd,ew]<;>rfl),yac⟩
  ·have ew:=whf_miss h1
   have w1:wr .i64 ((m:Int)+1)=((m+1:Nat):Int):=Zj yab
   simp(disch:=omega)only[go_sem,e0,e1,e2,e6,e8,e9,e10,h1,ne_eq,not_false_eq_true,w1]
   exact⟨_,_,rfl,hs,hx,ga,by rw[ew];exact gb,yae,yaf,yad,yai,yag,(by rw[ew];exact(by simp[Zm,Zd,e9]<;>rfl)),yac⟩
 ·rintro st ⟨tm,h',rfl,hs,hx,ga,gb,e0,e1,e2,e6,e8,e9,e10⟩
  have hm':¬(((241:Nat):Int)≤240):=by omega
  simp(disch:=omega)only[go_sem,e0,e1,e2,e6,e8,e9,e10,hm',Za gb,ga]
  exact q _ (hs.set yab yab hw _)
end Go.Ab.Tryz
namespace Go.Ab.Tryz
abbrev YA (h:H) (fv:V) (args:List V) (v:V):Prop:=Pure fnG Zi h fv args v
def XO {α:Type}(p:α→Bool):List α→Nat→Int
 |[],_=> -1
 |r::l,i=>if p r then(i:Int) else XO p l (i+1)
theorem VX {α:Type}{p:α→Bool}{l:List α}{i:Nat}(hi:i<l.length)(h:p l[i]=true):XO p (l.drop i) i=(i:Int):=by
 rw[List.drop_eq_getElem_cons hi];simp[XO,h]
theorem VW {α:Type}{p:α→Bool}{l:List α}{i:Nat}(hi:i<l.length)(h:p l[i]=false):XO p (l.drop i) i=XO p (l.drop (i+1)) (i+1):=by
 rw[List.drop_eq_getElem_cons hi];simp[XO,h]
theorem VY {α:Type}(p:α→Bool):∀(l:List α) (i:Nat),decide (0≤XO p l i)=l.any p
 |[],i=>by simp[XO]
 |r::l,i=>by
  have ih:=VY p l (i+1)
  simp only[XO,List.any_cons]
  by_cases h:p r=true
  ·simp[h]
  ·simpa[h] using ih
theorem any_not {α:Type}(p:α→Bool)(l:List α):(!l.any fun a=> !p a)=l.all p:=by
 induction l with
 |nil=>rfl
 |cons a l ih=>simp only[List.any_cons,List.all_cons,←ih,Bool.not_or,Bool.not_not]
theorem indexFuncCk_ev {α:Type}{enc:α→List V}{l:List α}{p:α→Bool}{h:H}{x f:V}(hw:h.wf)(hx:Zg h x 4 (l.map enc))(hp:∀a∈l,YA h f [.agg (enc a)] (.bool (p a))):
  E (.fn 134 [] []) [x,f] h fun v h'=>v=.ii (XO p l 0)∧h.Sub h':=by
 have hb:=hx.boundE
 refine Ze (fd:=c134) rfl rfl rfl ?_
 simp(disch:=omega)only[c134,go_sem,hx.lenE]
 refine Zk l.length (fun i s=>∃tm h',s=⟨tm,h',[]⟩∧h.Sub h'∧tm.E 0=x∧tm.E 1=f∧tm.E 7=.ii (l.length:Int)∧tm.E 8=.ii (i:Int)∧XO p l 0=XO p (l.drop i) i)
  ?_ ?_ (i:=0) (Nat.zero_le _) ⟨_,_,rfl,H.Sub.refl hw,yac,yac,yac,yay,rfl⟩
 ·rintro i s hi ⟨tm,h',rfl,hs,e0,e1,e7,e8,e9⟩
  have hi':(i:Int)<(l.length:Int):=by omega
  obtain⟨b,o,c,cs,rfl,hc,hq,hg,hn,hn0⟩:=(hx.mono hs).at hi
  simp(disch:=omega)only[go_sem,e0,e1,e7,e8,hi',hq (Zb i),hc,hg]
  refine(hp _ (List.getElem_mem hi)).use hs fun h2 hs2=>?_
  cases hpr:p l[i] with
  |true=>
   simp(disch:=omega)only[go_sem,e0,e1,e7,e8]
   exact⟨by rw[e9,VX hi hpr],hs.trans hs2⟩
  |false=>
   simp(disch:=omega)only[go_sem,e0,e1,e7,e8,Zj]
   exact⟨_,_,rfl,hs.trans hs2,yae,yaf,yak,yac,by rw[e9,VW hi hpr]⟩
 ·rintro s ⟨tm,h',rfl,hs,e0,e1,e7,e8,e9⟩
  simp(disch:=omega)only[go_sem,e0,e1,e7,e8,Int.lt_irrefl]
  exact⟨by rw[e9];simp[XO],hs⟩
theorem containsFuncCk_ev {α:Type}{enc:α→List V}{l:List α}{p:α→Bool}{h:H}{x f:V}(hw:h.wf)(hx:Zg h x 4 (l.map enc))(hp:∀a∈l,YA h f [.agg (enc a)] (.bool (p a))):
  E (.fn 77 [] []) [x,f] h fun v h'=>v=.bool (l.any p)∧h.Sub h':=by
 refine Ze (fd:=c77) rfl rfl rfl ?_
 simp(disch:=omega)only[c77,go_sem]
 refine(indexFuncCk_ev hw hx hp).mono fun v h' hv=>?_
 obtain⟨rfl,hs⟩:=hv
 simp(disch:=omega)only[go_sem]
 exact⟨by rw[VY],hs⟩
theorem everyCk_ev {α:Type}{enc:α→List V}{l:List α}{p:α→Bool}{h:H}{x:V}{g:FuncId}{u w:List V}(hw:h.wf)(hx:Zg h x 4 (l.map enc))(hp:∀a∈l,YA h (.fn g u w) [.agg (enc a)] (.bool (p a))):
  E (.fn 22 [] []) [x,.fn g u w] h fun v h'=>v=.bool (l.all p)∧h.Sub h':=by
 refine Ze (fd:=c22) rfl rfl rfl ?_
 simp(disch:=omega)only[c22,go_sem]
 have hs1:h.Sub (h.add (.bk [.fn g u w])):=(H.Sub.refl hw).add _
 refine(containsFuncCk_ev (p:=fun a=> !p a) hs1.wf (hx.mono hs1) fun a ha h2 hs2=>?_).mono fun v h' hv=>?_
 ·have hc:h2.cells h.next=some [.fn g u w]:=hs2.cells (Zu rfl)
  have hl:h.next<h2.next:=by have:=hs2.next;rw[H.next_add] at this;omega
  refine Ze (fd:=c78) rfl rfl rfl ?_
  simp(disch:=omega)only[c78,go_sem,hc,getN_full (hx.1 _ (List.mem_map_of_mem ha))]
  refine((hp a ha).mono hs1).use (hs2.add _) fun h3 hs3=>?_
  simp(disch:=omega)only[go_sem]
  exact(H.Sub.refl hs2.wf).add _ |>.trans hs3
 ·obtain⟨rfl,hs⟩:=hv
  simp(disch:=omega)only[go_sem]
  exact⟨by rw[any_not],hs1.trans hs⟩
theorem indexFuncRd_ev {α:Type}{enc:α→List V}{l:List α}{p:α→Bool}{h:H}{x f:V}(hw:h.wf)(hx:Zg h x 3 (l.map enc))(hp:∀a∈l,YA h f [.agg (enc a)] (.bool (p a))):
  E (.fn 135 [] []) [x,f] h fun v h'=>v=.ii (XO p l 0)∧h.Sub h':=by
 have hb:=hx.boundE
 refine Ze (fd:=c135) rfl rfl rfl ?_
 simp(disch:=omega)only[c135,go_sem,hx.lenE]
 refine Zk l.length (fun i s=>∃tm h',s=⟨tm,h',[]⟩∧h.Sub h'∧tm.E 0=x∧tm.E 1=f∧tm.E 7=.ii (l.length:Int)∧tm.E 8=.ii (i:Int)∧XO p l 0=XO p (l.drop i) i)
  ?_ ?_ (i:=0) (Nat.zero_le _) ⟨_,_,rfl,H.Sub.refl hw,yac,yac,yac,yay,rfl⟩
 ·rintro i s hi ⟨tm,h',rfl,hs,e0,e1,e7,e8,e9⟩
  have hi':(i:Int)<(l.length:Int):=by omega
  obtain⟨b,o,c,cs,rfl,hc,hq,hg,hn,hn0⟩:=(hx.mono hs).at hi
  simp(disch:=omega)only[go_sem,e0,e1,e7,e8,hi',hq (Zb i),hc,hg]
  refine(hp _ (List.getElem_mem hi)).use hs fun h2 hs2=>?_
  cases hpr:p l[i] with
  |true=>
   simp(disch:=omega)only[go_sem,e0,e1,e7,e8]
   exact⟨by rw[e9,VX hi hpr],hs.trans hs2⟩
  |false=>
   simp(disch:=omega)only[go_sem,e0,e1,e7,e8,Zj]
   exact⟨_,_,rfl,hs.trans hs2,yae,yaf,yak,yac,by rw[e9,VW hi hpr]⟩
 ·rintro s ⟨tm,h',rfl,hs,e0,e1,e7,e8,e9⟩
  simp(disch:=omega)only[go_sem,e0,e1,e7,e8,Int.lt_irrefl]
  exact⟨by rw[e9];simp[XO],hs⟩
theorem containsFuncRd_ev {α:Type}{enc:α→List V}{l:List α}{p:α→Bool}{h:H}{x f:V}(hw:h.wf)(hx:Zg h x 3 (l.map enc))(hp:∀a∈l,YA h f [.agg (enc a)] (.bool (p a))):
  E (.fn 79 [] []) [x,f] h fun v h'=>v=.bool (l.any p)∧h.Sub h':=by
 refine Ze (fd:=c79) rfl rfl rfl ?_
 simp(disch:=omega)only[c79,go_sem]
 refine(indexFuncRd_ev hw hx hp).mono fun v h' hv=>?_
 obtain⟨rfl,hs⟩:=hv
 simp(disch:=omega)only[go_sem]
 exact⟨by rw[VY],hs⟩
theorem everyRd_ev {α:Type}{enc:α→List V}{l:List α}{p:α→Bool}{h:H}{x:V}{g:FuncId}{u w:List V}(hw:h.wf)(hx:Zg h x 3 (l.map enc))(hp:∀a∈l,YA h (.fn g u w) [.agg (enc a)] (.bool (p a))):
  E (.fn 25 [] []) [x,.fn g u w] h fun v h'=>v=.bool (l.all p)∧h.Sub h':=by
 refine Ze (fd:=c25) rfl rfl rfl ?_
 simp(disch:=omega)only[c25,go_sem]
 have hs1:h.Sub (h.add (.bk [.fn g u w])):=(H.Sub.refl hw).add _
 refine(containsFuncRd_ev (p:=fun a=> !p a) hs1.wf (hx.mono hs1) fun a ha h2 hs2=>?_).mono fun v h' hv=>?_
 ·have hc:h2.cells h.next=some [.fn g u w]:=hs2.cells (Zu rfl)
  have hl:h.next<h2.next:=by have:=hs2.next;rw[H.next_add] at this;omega
  refine Ze (fd:=c80) rfl rfl rfl ?_
  simp(disch:=omega)only[c80,go_sem,hc,getN_full (hx.1 _ (List.mem_map_of_mem ha))]
  refine((hp a ha).mono hs1).use (hs2.add _) fun h3 hs3=>?_
  simp(disch:=omega)only[go_sem]
  exact(H.Sub.refl hs2.wf).add _ |>.trans hs3
 ·obtain⟨rfl,hs⟩:=hv
  simp(disch:=omega)only[go_sem]
  exact⟨by rw[any_not],hs1.trans hs⟩
theorem indexFuncGp_ev {α:Type}{enc:α→List V}{l:List α}{p:α→Bool}{h:H}{x f:V}(hw:h.wf)(hx:Zg h x 4 (l.map enc))(hp:∀a∈l,YA h f [.agg (enc a)] (.bool (p a))):
  E (.fn 136 [] []) [x,f] h fun v h'=>v=.ii (XO p l 0)∧h.Sub h':=by
 have hb:=hx.boundE
 refine Ze (fd:=c136) rfl rfl rfl ?_
 simp(disch:=omega)only[c136,go_sem,hx.lenE]
 refine Zk l.length (fun i s=>∃tm h',s=⟨tm,h',[]⟩∧h.Sub h'∧tm.E 0=x∧tm.E 1=f∧tm.E 7=.ii (l.length:Int)∧tm.E 8=.ii (i:Int)∧XO p l 0=XO p (l.drop i) i)
  ?_ ?_ (i:=0) (Nat.zero_le _) ⟨_,_,rfl,H.Sub.refl hw,yac,yac,yac,yay,rfl⟩
 ·rintro i s hi ⟨tm,h',rfl,hs,e0,e1,e7,e8,e9⟩
  have hi':(i:Int)<(l.length:Int):=by omega
  obtain⟨b,o,c,cs,rfl,hc,hq,hg,hn,hn0⟩:=(hx.mono hs).at hi
  simp(disch:=omega)only[go_sem,e0,e1,e7,e8,hi',hq (Zb i),hc,hg]
  refine(hp _ (List.getElem_mem hi)).use hs fun h2 hs2=>?_
  cases hpr:p l[i] with
  |true=>
   simp(disch:=omega)only[go_sem,e0,e1,e7,e8]
   exact⟨by rw[e9,VX hi hpr],hs.trans hs2⟩
  |false=>
   simp(disch:=omega)only[go_sem,e0,e1,e7,e8,Zj]
   exact⟨_,_,rfl,hs.trans hs2,yae,yaf,yak,yac,by rw[e9,VW hi hpr]⟩
 ·rintro s ⟨tm,h',rfl,hs,e0,e1,e7,e8,e9⟩
  simp(disch:=omega)only[go_sem,e0,e1,e7,e8,Int.lt_irrefl]
  exact⟨by rw[e9];simp[XO],hs⟩
theorem containsFuncGp_ev {α:Type}{enc:α→List V}{l:List α}{p:α→Bool}{h:H}{x f:V}(hw:h.wf)(hx:Zg h x 4 (l.map enc))(hp:∀a∈l,YA h f [.agg (enc a)] (.bool (p a))):
  E (.fn 81 [] []) [x,f] h fun v h'=>v=.bool (l.any p)∧h.Sub h':=by
 refine Ze (fd:=c81) rfl rfl rfl ?_
 simp(disch:=omega)only[c81,go_sem]
 refine(indexFuncGp_ev hw hx hp).mono fun v h' hv=>?_
 obtain⟨rfl,hs⟩:=hv
 simp(disch:=omega)only[go_sem]
 exact⟨by rw[VY],hs⟩
theorem Um {α:Type}{enc:α→List V}{l:List α}{p:α→Bool}{h:H}{x:V}{g:FuncId}{u w:List V}(hw:h.wf)(hx:Zg h x 4 (l.map enc))(hp:∀a∈l,YA h (.fn g u w) [.agg (enc a)] (.bool (p a))):
  E (.fn 27 [] []) [x,.fn g u w] h fun v h'=>v=.bool (l.all p)∧h.Sub h':=by
 refine Ze (fd:=c27) rfl rfl rfl ?_
 simp(disch:=omega)only[c27,go_sem]
 have hs1:h.Sub (h.add (.bk [.fn g u w])):=(H.Sub.refl hw).add _
 refine(containsFuncGp_ev (p:=fun a=> !p a) hs1.wf (hx.mono hs1) fun a ha h2 hs2=>?_).mono fun v h' hv=>?_
 ·have hc:h2.cells h.next=some [.fn g u w]:=hs2.cells (Zu rfl)
  have hl:h.next<h2.next:=by have:=hs2.next;rw[H.next_add] at this;omega
  refine Ze (fd:=c82) rfl rfl rfl ?_
  simp(disch:=omega)only[c82,go_sem,hc,getN_full (hx.1 _ (List.mem_map_of_mem ha))]
  refine((hp a ha).mono hs1).use (hs2.add _) fun h3 hs3=>?_
  simp(disch:=omega)only[go_sem]
  exact(H.Sub.refl hs2.wf).add _ |>.trans hs3
 ·obtain⟨rfl,hs⟩:=hv
  simp(disch:=omega)only[go_sem]
  exact⟨by rw[any_not],hs1.trans hs⟩
theorem equalInt_ev {l r:List (Int)}{h:H}{x y:V}(hx:Zg h x 1 (l.map encI))(hy:Zg h y 1 (r.map encI)):
  E (.fn 86 [] []) [x,y] h fun v h'=>v=.bool (decide (l=r))∧h'=h:=by
 have hb:=hx.boundE
 refine Ze (fd:=c86) rfl rfl rfl ?_
 by_cases hl:l.length=r.length
 ·have hl':(l.length:Int)=(r.length:Int):=by omega
  simp(disch:=omega)only[c86,go_sem,hx.lenE,hy.lenE,hl',ne_eq,not_true_eq_false]
  refine Zk l.length (fun i s=>∃tm,s=⟨tm,h,[]⟩∧tm.E 0=x∧tm.E 1=y∧tm.E 12=.ii (l.length:Int)∧tm.E 13=.ii (i:Int)∧l.take i=r.take i)
   ?_ ?_ (i:=0) (Nat.zero_le _) ⟨_,rfl,yac,yac,(by simp only[Zd, ↓reduceIte,Nat.reduceEqDiff,hl]),yay,rfl⟩
  ·rintro i s hi ⟨tm,rfl,e0,e1,e12,e13,e9⟩
   have hi':(i:Int)<(l.length:Int):=by omega
   have hi2:i<r.length:=by omega
   obtain⟨b,o,c,cs,rfl,hc,hq,hg,hn,hn0⟩:=hx.at hi
   obtain⟨b2,o2,c2,cs2,rfl,hc2,hq2,hg2,hn2,hn02⟩:=hy.at hi2
   have h1:(l[i]=r[i])↔l.take (i+1)=r.take (i+1):=by
    rw[List.take_succ_eq_append_getElem hi,List.take_succ_eq_append_getElem hi2,e9];simp only[List.append_cancel_left_eq,List.cons.injEq,and_true]
   by_cases he:l[i]=r[i]
   ·have hl0:=hl
    simp(disch:=omega)only[go_sem,e0,e1,e12,e13,hi',hq (Zb i),hq2 (Zb i),hc,hc2,hg,hg2,hn0 yab,hn02 yab,encI,he,ngB,ne_eq,not_true_eq_false,not_false_eq_true,Zj]
    exact⟨_,rfl,yae,yaf,(by simp[Zm,Zd,e12]<;>rfl),yac,h1.1 he⟩
   ·simp(disch:=omega)only[go_sem,e0,e1,e12,e13,hi',hq (Zb i),hq2 (Zb i),hc,hc2,hg,hg2,hn0 yab,hn02 yab,encI,he,ngB,ne_eq,not_true_eq_false,not_false_eq_true,Zj]
    rw[decide_eq_false]
    intro e;exact he (h1.2 (by rw[e]))
  ·rintro s ⟨tm,rfl,e0,e1,e12,e13,e9⟩
   simp(disch:=omega)only[go_sem,e0,e1,e12,e13,Int.lt_irrefl]
   rw[decide_eq_true]
   rw[List.take_length,hl,List.take_length] at e9;exact e9
 ·have hl':¬(l.length:Int)=(r.length:Int):=by omega
  simp(disch:=omega)only[c86,go_sem,hx.lenE,hy.lenE,hl',ne_eq,not_false_eq_true]
  rw[decide_eq_false]
  intro e;exact hl (by rw[e])
theorem Y8 {l r:List (Int)}{h:H}{x y:V}(hx:Zg h x 1 (l.map encI))(hy:Zg h y 1 (r.map encI))(Q:V→H→Prop):
  Ev fnG Zi (.fn 41 [] []) [x,y] h Q=Q (.bool (decide (l=r))) h:=by
 refine Ev.det (Ze (fd:=c41) rfl rfl rfl ?_) Q
 simp(disch:=omega)only[c41,go_sem]
 refine(equalInt_ev hx hy).mono fun v h' hv=>?_
 obtain⟨rfl,rfl⟩:=hv
 simp(disch:=omega)only[go_sem]
end Go.Ab.Tryz
namespace Go.Ab.Tryz
open Go.Proofs
structure Ck where
 sl:Int
 sh:Int
 gl:Int
 gh:Int
structure Rd where
 ck:Int
 ev:Int
 sh:Int
structure Gp where
 fr:Int
 to:Int
 lo:Int
 hi:Int
structure At where
 mins:Int
 evs:Int
 cks:List Ck
 rds:List Rd
 gps:List Gp
def Z9 (c:Ck):List V:=[.ii c.sl,.ii c.sh,.ii c.gl,.ii c.gh]
def encR (r:Rd):List V:=[.ii r.ck,.ii r.ev,.ii r.sh]
def ZF (g:Gp):List V:=[.ii g.fr,.ii g.to,.ii g.lo,.ii g.hi]
structure ZP (h:H)(C R G:V)(a:At):Prop where
 c:Zg h C 4 (a.cks.map Z9)
 r:Zg h R 3 (a.rds.map encR)
 g:Zg h G 4 (a.gps.map ZF)
abbrev atV (a:At) (C R G:V):List V:=[.ii a.mins,.ii a.evs,C,R,G]
def AtIs (h:H)(v:V)(a:At):Prop:=∃C R G,v=.agg (atV a C R G)∧ZP h C R G a
theorem ZP.mono {h h':H}{C R G:V}{a:At}(x:ZP h C R G a)(s:h.Sub h'):ZP h' C R G a:=⟨x.c.mono s,x.r.mono s,x.g.mono s⟩
theorem AtIs.mono {h h':H}{v:V}{a:At}(x:AtIs h v a)(s:h.Sub h'):AtIs h' v a:=by
 obtain⟨C,R,G,e,y⟩:=x;exact⟨C,R,G,e,y.mono s⟩
theorem Ev_bound {f:FuncId}{a:V}{args:List V}{h:H}{Q:V→H→Prop}(he:Ev fnG Zi (.fn f [] []) (a::args) h Q):Ev fnG Zi (.fn f [a] []) args h Q:=by
 rw[Ev_fn,Ym,Ym];simpa using he
def within (lo hi m:Int):Bool:=inB lo (-m) m&&inB hi (-m) m
def Ck.bd (c:Ck):Bool:=within c.sl c.sh 60&&within c.gl c.gh 30
def Ck.ord (c:Ck):Bool:=decide (c.sl≤c.sh)&&decide (c.gl≤c.gh)
def Ck.sm (c:Ck):Bool:=decide (c.sh-c.sl≤4)&&decide (c.gh-c.gl≤4)
def Rd.bd (r:Rd):Bool:=inB r.sh (-999) 999
def Gp.bd (g:Gp):Bool:=within g.lo g.hi 240
def Gp.ord (g:Gp):Bool:=decide (g.lo≤g.hi)
def At.evB (a:At)(n:Int):Bool:=inB n 0 (a.evs-1)
def At.ckB (a:At)(n:Int):Bool:=inB n 0 ((a.cks.length:Int)-1)
def At.rdOk (a:At)(r:Rd):Bool:=a.ckB r.ck&&a.evB r.ev
def At.gpOk (a:At)(g:Gp):Bool:=a.evB g.fr&&a.evB g.to
def At.sz (a:At):Bool:=inB a.mins 1 240&&(inB a.evs 1 4&&(decide (a.cks.length≤3)&&(decide (a.rds.length≤8)&&decide (a.gps.length≤4))))
def Zn (a:At):Int:=
 if a.sz=false then 2
 else if a.cks.all Ck.bd=false then 3
 else if a.rds.all Rd.bd=false∨a.gps.all Gp.bd=false then 3
 else if a.rds.all a.rdOk=false∨a.gps.all a.gpOk=false then 1
 else if a.cks.all Ck.ord=false∨a.gps.all Gp.ord=false then 4
 else if a.cks.all Ck.sm=false then 10
 else 0
structure Zl (a:At):Prop where
 sz:a.sz=true
 cb:∀c∈a.cks,c.bd=true
 rb:∀r∈a.rds,r.bd=true
 gb:∀g∈a.gps,g.bd=true
 ro:∀r∈a.rds,a.rdOk r=true
 go:∀g∈a.gps,a.gpOk g=true
 co:∀c∈a.cks,c.ord=true
 gd:∀g∈a.gps,g.ord=true
 cs:∀c∈a.cks,c.sm=true
theorem Zz {a:At}:Zn a=0↔Zl a:=by
 constructor
 ·intro h
  unfold Zn at h
  repeat' (split at h<;>try(exact absurd h yah))
  rename_i h1 h2 h3 h4 h5 h6
  simp only[not_or,Bool.not_eq_false,List.all_eq_true] at h1 h2 h3 h4 h5 h6
  exact⟨h1,h2,h3.1,h3.2,h4.1,h4.2,h5.1,h5.2,h6⟩
 ·intro r
  have e1:a.cks.all Ck.bd=true:=List.all_eq_true.2 r.cb
  have e2:a.rds.all Rd.bd=true:=List.all_eq_true.2 r.rb
  have e3:a.gps.all Gp.bd=true:=List.all_eq_true.2 r.gb
  have e4:a.rds.all a.rdOk=true:=List.all_eq_true.2 r.ro
  have e5:a.gps.all a.gpOk=true:=List.all_eq_true.2 r.go
  have e6:a.cks.all Ck.ord=true:=List.all_eq_true.2 r.co
  have e7:a.gps.all Gp.ord=true:=List.all_eq_true.2 r.gd
  have e8:a.cks.all Ck.sm=true:=List.all_eq_true.2 r.cs
  simp[Zn,r.sz,e1,e2,e3,e4,e5,e6,e7,e8]
theorem Zl.mins {a:At}(r:Zl a):1≤a.mins∧a.mins≤240:=by
 have:=r.sz;simp only[At.sz,Bool.and_eq_true,Zs] at this;exact this.1
theorem Zl.evs {a:At}(r:Zl a):1≤a.evs∧a.evs≤4:=by
 have:=r.sz;simp only[At.sz,Bool.and_eq_true,Zs] at this;exact this.2.1
theorem Zl.lens {a:At}(r:Zl a):a.cks.length≤3∧a.rds.length≤8∧a.gps.length≤4:=by
 have:=r.sz;simp only[At.sz,Bool.and_eq_true,decide_eq_true_eq] at this;exact this.2.2
theorem within_ev {h:H}(hw:h.wf)(lo hi m:Int)(hm:0≤m∧m≤1000)(Q:V→H→Prop)(q:∀h',h.Sub h'→Q (.bool (within lo hi m)) h'):Ev fnG Zi (.fn 24 [] []) [.agg [.ii lo,.ii hi],.ii m] h Q:=by
 refine Ze (fd:=c24) rfl rfl rfl ?_
 have s:h.Sub (h.add (.bk [.ii lo,.ii hi])):=yaa
 have w:wr .i64 (0-m)= -m:=by rw[Zo yab yab];omega
 cases h1:inB lo (-m) m with
 |true=>
  have e:within lo hi m=inB hi (-m) m:=by rw[within,h1,Bool.true_and]
  rw[e] at q
  simp(disch:=omega)only[c24,go_sem,Xx,w,h1]
  exact q _ s
 |false=>
  have e:within lo hi m=false:=by rw[within,h1,Bool.false_and]
  rw[e] at q
  simp(disch:=omega)only[c24,go_sem,Xx,w,h1]
  exact q _ s
theorem ordered_ev {h:H}(hw:h.wf)(lo hi:Int)(Q:V→H→Prop)(q:∀h',h.Sub h'→Q (.bool (decide (lo≤hi))) h'):Ev fnG Zi (.fn 33 [] []) [.agg [.ii lo,.ii hi]] h Q:=by
 refine Ze (fd:=c33) rfl rfl rfl ?_
 have s:h.Sub (h.add (.bk [.ii lo,.ii hi])):=yaa
 simp(disch:=omega)only[c33,go_sem]
 exact q _ s
theorem check1_ev {h:H}(hw:h.wf)(c:Ck):E (.fn 23 [] []) [.agg (Z9 c)] h fun u h'=>u=.bool c.bd∧h.Sub h':=by
 refine Ze (fd:=c23) rfl rfl rfl ?_
 have s:h.Sub (h.add (.bk [.ii c.sl,.ii c.sh,.ii c.gl,.ii c.gh])):=yaa
 have g:(h.add (.bk [.ii c.sl,.ii c.sh,.ii c.gl,.ii c.gh])).cells h.next=some [.ii c.sl,.ii c.sh,.ii c.gl,.ii c.gh]:=Zu rfl
 simp(disch:=omega)only[c23,go_sem,Z9]
 refine within_ev s.wf _ _ 60 yab _ fun h1 s1=>?_
 cases h1:within c.sl c.sh 60 with
 |false=>
  simp(disch:=omega)only[go_sem]
  exact⟨by simp[Ck.bd,h1],s.trans s1⟩
 |true=>
  simp(disch:=omega)only[go_sem,s1.cells g]
  refine within_ev s1.wf _ _ 30 yab _ fun h2 s2=>?_
  simp(disch:=omega)only[go_sem]
  exact⟨by simp[Ck.bd,h1],(s.trans s1).trans s2⟩
theorem check2_ev {h:H}(hw:h.wf)(r:Rd):E (.fn 26 [] []) [.agg (encR r)] h fun u h'=>u=.bool r.bd∧h.Sub h':=by
 refine Ze (fd:=c26) rfl rfl rfl ?_
 have s:h.Sub (h.add (.bk [.ii r.ck,.ii r.ev,.ii r.sh])):=yaa
 simp(disch:=omega)only[c26,go_sem,encR,Xx]
 exact⟨rfl,s⟩
theorem check3_ev {h:H}(hw:h.wf)(g:Gp):E (.fn 28 [] []) [.agg (ZF g)] h fun u h'=>u=.bool g.bd∧h.Sub h':=by
 refine Ze (fd:=c28) rfl rfl rfl ?_
 have s:h.Sub (h.add (.bk [.ii g.fr,.ii g.to,.ii g.lo,.ii g.hi])):=yaa
 simp(disch:=omega)only[c28,go_sem,ZF]
 refine within_ev s.wf _ _ 240 yab _ fun h1 s1=>?_
 simp(disch:=omega)only[go_sem]
 exact⟨rfl,s.trans s1⟩
theorem event_ev {h:H}(hw:h.wf){C R G:V}(a:At)(he:0≤a.evs∧a.evs≤1000)(n:Int)(Q:V→H→Prop)(q:∀h',h.Sub h'→Q (.bool (a.evB n)) h'):Ev fnG Zi (.fn 20 [] []) [.agg (atV a C R G),.ii n] h Q:=by
 refine Ze (fd:=c20) rfl rfl rfl ?_
 have s:h.Sub (h.add (.bk (atV a C R G))):=yaa
 have w:wr .i64 (a.evs-1)=a.evs-1:=Zo yab yab
 simp(disch:=omega)only[c20,go_sem,Xx,w]
 exact q _ s
theorem clock_ev {h:H}(hw:h.wf){C R G:V}{a:At}(x:ZP h C R G a)(n:Int)(Q:V→H→Prop)(q:∀h',h.Sub h'→Q (.bool (a.ckB n)) h'):Ev fnG Zi (.fn 30 [] []) [.agg (atV a C R G),.ii n] h Q:=by
 refine Ze (fd:=c30) rfl rfl rfl ?_
 have s:h.Sub (h.add (.bk (atV a C R G))):=yaa
 have hl:=x.c.lenE
 have hb:=x.c.boundE
 have w:wr .i64 ((a.cks.length:Int)-1)=(a.cks.length:Int)-1:=Zo yab yab
 simp(disch:=omega)only[c30,go_sem,Xx,hl,w]
 exact q _ s
theorem check4_ev {h:H}(hw:h.wf){C R G:V}{a:At}(x:ZP h C R G a)(he:0≤a.evs∧a.evs≤1000){b1 b2:Nat}(g1:h.cells b1=some (atV a C R G))(g2:h.cells b2=some [.fn 20 [.agg (atV a C R G)] []])(l1:b1<h.next)(l2:b2<h.next)(r:Rd):
  E (.fn 29 [] [.ptr b1 0,.ptr b2 0]) [.agg (encR r)] h fun u h'=>u=.bool (a.rdOk r)∧h.Sub h':=by
 refine Ze (fd:=c29) rfl rfl rfl ?_
 have s:h.Sub (h.add (.bk [.ii r.ck,.ii r.ev,.ii r.sh])):=yaa
 have g:(h.add (.bk [.ii r.ck,.ii r.ev,.ii r.sh])).cells h.next=some [.ii r.ck,.ii r.ev,.ii r.sh]:=Zu rfl
 simp(disch:=omega)only[c29,go_sem,encR,g1,g2]
 refine clock_ev s.wf (x.mono s) _ _ fun h1 s1=>?_
 cases h1:a.ckB r.ck with
 |false=>
  simp(disch:=omega)only[go_sem]
  exact⟨by simp[At.rdOk,h1],s.trans s1⟩
 |true=>
  simp(disch:=omega)only[go_sem,s1.cells g,(s.trans s1).cells g2]
  refine Ev_bound ?_
  refine event_ev s1.wf a he _ _ fun h2 s2=>?_
  simp(disch:=omega)only[go_sem]
  exact⟨by simp[At.rdOk,h1],(s.trans s1).trans s2⟩
theorem check5_ev {h:H}(hw:h.wf){C R G:V}{a:At}(he:0≤a.evs∧a.evs≤1000){b2:Nat}(g2:h.cells b2=some [.fn 20 [.agg (atV a C R G)] []])(l2:b2<h.next)(g:Gp):
  E (.fn 31 [] [.ptr b2 0]) [.agg (ZF g)] h fun u h'=>u=.bool (a.gpOk g)∧h.Sub h':=by
 refine Ze (fd:=c31) rfl rfl rfl ?_
 have s:h.Sub (h.add (.bk [.ii g.fr,.ii g.to,.ii g.lo,.ii g.hi])):=yaa
 have gg:(h.add (.bk [.ii g.fr,.ii g.to,.ii g.lo,.ii g.hi])).cells h.next=some [.ii g.fr,.ii g.to,.ii g.lo,.ii g.hi]:=Zu rfl
 simp(disch:=omega)only[c31,go_sem,ZF,g2]
 refine Ev_bound ?_
 refine event_ev s.wf a he _ _ fun h1 s1=>?_
 cases h1:a.evB g.fr with
 |false=>
  simp(disch:=omega)only[go_sem]
  exact⟨by simp[At.gpOk,h1],s.trans s1⟩
 |true=>
  simp(disch:=omega)only[go_sem,s1.cells gg,(s.trans s1).cells g2]
  refine Ev_bound ?_
  refine event_ev s1.wf a he _ _ fun h2 s2=>?_
  simp(disch:=omega)only[go_sem]
  exact⟨by simp[At.gpOk,h1],(s.trans s1).trans s2⟩
theorem check6_ev {h:H}(hw:h.wf)(c:Ck):E (.fn 32 [] []) [.agg (Z9 c)] h fun u h'=>u=.bool c.ord∧h.Sub h':=by
 refine Ze (fd:=c32) rfl rfl rfl ?_
 have s:h.Sub (h.add (.bk [.ii c.sl,.ii c.sh,.ii c.gl,.ii c.gh])):=yaa
 have g:(h.add (.bk [.ii c.sl,.ii c.sh,.ii c.gl,.ii c.gh])).cells h.next=some [.ii c.sl,.ii c.sh,.ii c.gl,.ii c.gh]:=Zu rfl
 simp(disch:=omega)only[c32,go_sem,Z9]
 refine ordered_ev s.wf _ _ _ fun h1 s1=>?_
 by_cases h1:c.sl≤c.sh
 ·simp(disch:=omega)only[go_sem,h1,s1.cells g]
  refine ordered_ev s1.wf _ _ _ fun h2 s2=>?_
  simp(disch:=omega)only[go_sem]
  exact⟨by simp[Ck.ord,h1],(s.trans s1).trans s2⟩
 ·simp(disch:=omega)only[go_sem,h1]
  exact⟨by simp[Ck.ord,h1],s.trans s1⟩
theorem check7_ev {h:H}(hw:h.wf)(g:Gp):E (.fn 34 [] []) [.agg (ZF g)] h fun u h'=>u=.bool g.ord∧h.Sub h':=by
 refine Ze (fd:=c34) rfl rfl rfl ?_
 have s:h.Sub (h.add (.bk [.ii g.fr,.ii g.to,.ii g.lo,.ii g.hi])):=yaa
 simp(disch:=omega)only[c34,go_sem,ZF]
 refine ordered_ev s.wf _ _ _ fun h1 s1=>?_
 simp(disch:=omega)only[go_sem]
 exact⟨rfl,s.trans s1⟩
theorem check8_ev {h:H}(hw:h.wf){c:Ck}(hb:c.bd=true):E (.fn 35 [] []) [.agg (Z9 c)] h fun u h'=>u=.bool c.sm∧h.Sub h':=by
 simp only[Ck.bd,within,Bool.and_eq_true,Zs] at hb
 refine Ze (fd:=c35) rfl rfl rfl ?_
 have s:h.Sub (h.add (.bk [.ii c.sl,.ii c.sh,.ii c.gl,.ii c.gh])):=yaa
 have w1:wr .i64 (c.sh-c.sl)=c.sh-c.sl:=Zo yab yab
 have w2:wr .i64 (c.gh-c.gl)=c.gh-c.gl:=Zo yab yab
 by_cases h1:c.sh-c.sl≤4
 ·simp(disch:=omega)only[c35,go_sem,Z9,w1,w2,h1]
  exact⟨by simp[Ck.sm,h1],s⟩
 ·simp(disch:=omega)only[c35,go_sem,Z9,w1,w2,h1]
  exact⟨by simp[Ck.sm,h1],s⟩
theorem sz_no {a:At}(h:a.sz=false):(inB a.mins 1 240=false)∨(inB a.mins 1 240=true∧inB a.evs 1 4=false)∨(inB a.mins 1 240=true∧inB a.evs 1 4=true∧(3:Int)<(a.cks.length:Int))∨
  (inB a.mins 1 240=true∧inB a.evs 1 4=true∧¬(3:Int)<(a.cks.length:Int)∧(8:Int)<(a.rds.length:Int))∨(inB a.mins 1 240=true∧inB a.evs 1 4=true∧¬(3:Int)<(a.cks.length:Int)∧¬(8:Int)<(a.rds.length:Int)∧(4:Int)<(a.gps.length:Int)):=by
 cases h1:inB a.mins 1 240
 ·exact .inl rfl
 cases h2:inB a.evs 1 4
 ·exact .inr (.inl ⟨rfl,rfl⟩)
 by_cases h3:(3:Int)<(a.cks.length:Int)
 ·exact .inr (.inr (.inl ⟨rfl,rfl,h3⟩))
 by_cases h4:(8:Int)<(a.rds.length:Int)
 ·exact .inr (.inr (.inr (.inl ⟨rfl,rfl,h3,h4⟩)))
 refine .inr (.inr (.inr (.inr ⟨rfl,rfl,h3,h4,?_⟩)))
 simp only[At.sz,h1,h2,Bool.true_and,Bool.and_eq_false_iff,decide_eq_false_iff_not] at h
 omega
set_option maxHeartbeats 4000000 in
theorem Y9 {h:H}{v:V}{a:At}(hw:h.wf)(ha:AtIs h v a)(Q:V→H→Prop)(q:∀h',h.Sub h'→Q (.ii (Zn a)) h'):Ev fnG Zi (.fn 8 [] []) [v] h Q:=by
 obtain⟨C,R,G,rfl,x⟩:=ha
 have hlC:=x.c.lenE
 have hlR:=x.r.lenE
 have hlG:=x.g.lenE
 refine Ze (fd:=c8) rfl rfl rfl ?_
 have s2:h.Sub ((h.add (.bk (atV a C R G))).add (.bk [.fn 20 [.agg (atV a C R G)] []])):=yaa
 have g1:((h.add (.bk (atV a C R G))).add (.bk [.fn 20 [.agg (atV a C R G)] []])).cells h.next=some (atV a C R G):=by simp -implicitDefEqProofs(disch:=first|omega|simp only[nZ]<;>omega|fail)only[go_sem]
 have g2:((h.add (.bk (atV a C R G))).add (.bk [.fn 20 [.agg (atV a C R G)] []])).cells (h.next+1)=some [.fn 20 [.agg (atV a C R G)] []]:=by simp -implicitDefEqProofs(disch:=first|omega|simp only[nZ]<;>omega|fail)only[go_sem]
 have nx:((h.add (.bk (atV a C R G))).add (.bk [.fn 20 [.agg (atV a C R G)] []])).next=h.next+2:=by simp only[H.next_add]
 obtain⟨h2,hh2⟩:∃h2,(h.add (.bk (atV a C R G))).add (.bk [.fn 20 [.agg (atV a C R G)] []])=h2:=⟨_,rfl⟩
 rw[hh2] at s2 g1 g2 nx
 cases hsz:a.sz with
 |false=>
  have e:Zn a=2:=by unfold Zn;rw[if_pos hsz]
  rw[e] at q
  rcases sz_no hsz with k|k|k|k|k
  all_goals
   simp -implicitDefEqProofs(disch:=first|omega|simp only[nZ]<;>omega|fail)only[c8,go_sem,Xx,k,hlC,hlR,hlG]
   rw[hh2]
   exact q _ s2
 |true=>
 have k:=hsz
 simp only[At.sz,Bool.and_eq_true,decide_eq_true_eq] at k
 have k3:¬(3:Int)<(a.cks.length:Int):=by omega
 have k4:¬(8:Int)<(a.rds.length:Int):=by omega
 have k5:¬(4:Int)<(a.gps.length:Int):=by omega
 have ke:=Zs.1 k.2.1
 simp -implicitDefEqProofs(disch:=first|omega|simp only[nZ]<;>omega|fail)only[c8,go_sem,Xx,k.1,k.2.1,k3,k4,k5,hlC,hlR,hlG]
 rw[hh2]
 refine(everyCk_ev (p:=Ck.bd) s2.wf (x.c.mono s2) fun c _ h1 hs=>check1_ev hs.wf c).mono fun u h3 hu=>?_
 obtain⟨rfl,s23⟩:=hu
 have s3:=s2.trans s23
 have g13:=s23.cells g1
 have g23:=s23.cells g2
 have l3:=s23.next
 have n1:a.sz≠false:=by rw[hsz];simp
 have i1:Zn a=if a.cks.all Ck.bd=false then 3
   else if a.rds.all Rd.bd=false∨a.gps.all Gp.bd=false then 3
   else if a.rds.all a.rdOk=false∨a.gps.all a.gpOk=false then 1
   else if a.cks.all Ck.ord=false∨a.gps.all Gp.ord=false then 4
   else if a.cks.all Ck.sm=false then 10
   else 0:=by unfold Zn;rw[if_neg n1]
 rw[i1] at q
 cases d1:a.cks.all Ck.bd with
 |false=>
  rw[if_pos d1] at q
  simp(disch:=omega)only[go_sem]
  exact q _ s3
 |true=>
 rw[if_neg (by rw[d1];simp)] at q
 simp(disch:=omega)only[go_sem,g13]
 refine(everyRd_ev (p:=Rd.bd) s3.wf (x.r.mono s3) fun c _ h1 hs=>check2_ev hs.wf c).mono fun u h4 hu=>?_
 obtain⟨rfl,s34⟩:=hu
 have s4:=s3.trans s34
 cases d2:a.rds.all Rd.bd with
 |false=>
  rw[if_pos (.inl d2)] at q
  simp(disch:=omega)only[go_sem]
  exact q _ s4
 |true=>
 have g14:=s34.cells g13
 simp(disch:=omega)only[go_sem,g14]
 refine(Um (p:=Gp.bd) s4.wf (x.g.mono s4) fun c _ h1 hs=>check3_ev hs.wf c).mono fun u h5 hu=>?_
 obtain⟨rfl,s45⟩:=hu
 have s5:=s4.trans s45
 cases d3:a.gps.all Gp.bd with
 |false=>
  rw[if_pos (.inr d3)] at q
  simp(disch:=omega)only[go_sem]
  exact q _ s5
 |true=>
 rw[if_neg (by rw[d2,d3];simp)] at q
 have s35:=s34.trans s45
 have g15:=s35.cells g13
 have g25:=s35.cells g23
 have l5:=s35.next
 simp(disch:=omega)only[go_sem,g15]
 refine(everyRd_ev (p:=a.rdOk) s5.wf (x.r.mono s5) fun c _ h1 hs=>check4_ev hs.wf (x.mono (s5.trans hs)) yab (hs.cells g15) (hs.cells g25) (by have:=hs.next;omega) (by have:=hs.next;omega) c).mono fun u h6 hu=>?_
 obtain⟨rfl,s56⟩:=hu
 have s6:=s5.trans s56
 cases d4:a.rds.all a.rdOk with
 |false=>
  rw[if_pos (.inl d4)] at q
  simp(disch:=omega)only[go_sem]
  exact q _ s6
 |true=>
 have g16:=s56.cells g15
 have g26:=s56.cells g25
 have l6:=s56.next
 simp(disch:=omega)only[go_sem,g16]
 refine(Um (p:=a.gpOk) s6.wf (x.g.mono s6) fun c _ h1 hs=>check5_ev hs.wf yab (hs.cells g26) (by have:=hs.next;omega) c).mono fun u h7 hu=>?_
 obtain⟨rfl,s67⟩:=hu
 have s7:=s6.trans s67
 cases d5:a.gps.all a.gpOk with
 |false=>
  rw[if_pos (.inr d5)] at q
  simp(disch:=omega)only[go_sem]
  exact q _ s7
 |true=>
 rw[if_neg (by rw[d4,d5];simp)] at q
 have g17:=s67.cells g16
 simp(disch:=omega)only[go_sem,g17]
 refine(everyCk_ev (p:=Ck.ord) s7.wf (x.c.mono s7) fun c _ h1 hs=>check6_ev hs.wf c).mono fun u h8 hu=>?_
 obtain⟨rfl,s78⟩:=hu
 have s8:=s7.trans s78
 cases d6:a.cks.all Ck.ord with
 |false=>
  rw[if_pos (.inl d6)] at q
  simp(disch:=omega)only[go_sem]
  exact q _ s8
 |true=>
 have g18:=s78.cells g17
 simp(disch:=omega)only[go_sem,g18]
 refine(Um (p:=Gp.ord) s8.wf (x.g.mono s8) fun c _ h1 hs=>check7_ev hs.wf c).mono fun u h9 hu=>?_
 obtain⟨rfl,s89⟩:=hu
 have s9:=s8.trans s89
 cases d7:a.gps.all Gp.ord with
 |false=>
  rw[if_pos (.inr d7)] at q
  simp(disch:=omega)only[go_sem]
  exact q _ s9
 |true=>
 rw[if_neg (by rw[d6,d7];simp)] at q
 have g19:=s89.cells g18
 simp(disch:=omega)only[go_sem,g19]
 refine(everyCk_ev (p:=Ck.sm) s9.wf (x.c.mono s9) fun c hc h1 hs=>check8_ev hs.wf (List.all_eq_true.1 d1 c hc)).mono fun u hA hu=>?_
 obtain⟨rfl,s9A⟩:=hu
 have sA:=s9.trans s9A
 cases d8:a.cks.all Ck.sm with
 |false=>
  rw[if_pos d8] at q
  simp(disch:=omega)only[go_sem]
  exact q _ sA
 |true=>
 rw[if_neg (by rw[d8];simp)] at q
 simp(disch:=omega)only[go_sem]
 exact q _ sA
end Go.Ab.Tryz
namespace Go.Ab
def low (L:List Int)(a b:Nat)(v:Int):List Int:=L.set (5*a+b) (min (mg L a b) v)
theorem YQ (L:List Int)(a b:Nat)(v:Int):(low L a b v).length=L.length:=by simp[low]
theorem mg_low {L:List Int}(hL:L.length=25){a b:Nat}(ha:a<5)(hb:b<5)(v:Int)(x y:Nat)(hx:x<5)(hy:y<5):mg (low L a b v) x y=if x=a∧y=b then min (mg L a b) v else mg L x y:=by
 unfold low
 generalize min (mg L a b) v=w
 unfold mg
 rw[List.getD_eq_getElem?_getD,List.getD_eq_getElem?_getD,List.getElem?_set]
 by_cases h:x=a∧y=b
 ·obtain⟨rfl,rfl⟩:=h
  have:5*x+y<25:=by omega
  simp[hL,this]
 ·rw[if_neg h]
  have:5*a+b≠5*x+y:=by omega
  simp[this]
theorem In5.low {B:Int}{L:List Int}(h:In5 B L){a b:Nat}(ha:a<5)(hb:b<5){v:Int}(hv: -B≤v):In5 B (low L a b v):=by
 refine⟨by rw[YQ];exact h.len,fun x y hx hy=>?_,fun x y hx hy=>?_⟩
 ·rw[mg_low h.len ha hb v x y hx hy]
  have:=h.hi x y hx hy
  split
  ·rename_i e;obtain⟨rfl,rfl⟩:=e;omega
  ·exact this
 ·rw[mg_low h.len ha hb v x y hx hy]
  have:=h.lo x y hx hy
  split
  ·rename_i e;obtain⟨rfl,rfl⟩:=e;omega
  ·exact this
theorem Sol_low {L:List Int}(hL:L.length=25){a b:Nat}(ha:a<5)(hb:b<5){v:Int}{x:Nat→Int}:Sol x (low L a b v)↔Sol x L∧x b-x a≤v:=by
 constructor
 ·intro h
  refine⟨fun c d hc hd=>?_,?_⟩
  ·have:=h c d hc hd
   rw[mg_low hL ha hb v c d hc hd] at this
   split at this
   ·rename_i e;obtain⟨rfl,rfl⟩:=e;omega
   ·exact this
  ·have:=h a b ha hb
   rw[mg_low hL ha hb v a b ha hb,if_pos ⟨rfl,rfl⟩] at this
   omega
 ·intro⟨h,h1⟩ c d hc hd
  rw[mg_low hL ha hb v c d hc hd]
  have:=h c d hc hd
  split
  ·rename_i e;obtain⟨rfl,rfl⟩:=e;omega
  ·exact this
def bsU (M:Int)(a b:Nat):List Int:=(List.range 25).map fun k=>if k/5<a then(if k%5=4∨k/5=k%5 then 0 else M) else if k/5=a∧k%5<b then M else 0
theorem Xd (M:Int)(a b:Nat):(bsU M a b).length=25:=by simp[bsU]
theorem bsU_get (M:Int)(a b k:Nat)(hk:k<25):(bsU M a b)[k]? =some (if k/5<a then(if k%5=4∨k/5=k%5 then 0 else M) else if k/5=a∧k%5<b then M else 0):=by
 rw[bsU,List.getElem?_map,List.getElem?_range hk];rfl
theorem bsU_step (M:Int){a b:Nat}(ha:a<5)(hb:b<5):(bsU M a b).set (a*5+b*1) M=bsU M a (b+1):=by
 refine List.ext_getElem? fun k=>?_
 rcases Nat.lt_or_ge k 25 with hk|hk
 ·rw[List.getElem?_set,bsU_get M a b k hk,bsU_get M a (b+1) k hk,Xd]
  by_cases h:a*5+b*1=k
  ·subst h
   rw[if_pos rfl,if_pos hk,if_neg yab,if_pos yab]
  ·rw[if_neg h]
   by_cases h1:k/5<a
   ·rw[if_pos h1,if_pos h1]
   ·rw[if_neg h1,if_neg h1]
    by_cases h2:k/5=a∧k%5<b
    ·rw[if_pos h2,if_pos yab]
    ·rw[if_neg h2,if_neg yab]
 ·rw[List.getElem?_eq_none (by rw[List.length_set,Xd];exact hk),List.getElem?_eq_none (by rw[Xd];exact hk)]
theorem bsU_row (M:Int){a:Nat}(ha:a<5):((bsU M a 5).set (a*5+4*1) 0).set (a*5+a*1) 0=bsU M (a+1) 0:=by
 refine List.ext_getElem? fun k=>?_
 rcases Nat.lt_or_ge k 25 with hk|hk
 ·rw[List.getElem?_set,List.getElem?_set,bsU_get M a 5 k hk,bsU_get M (a+1) 0 k hk,List.length_set,Xd]
  by_cases h:a*5+a*1=k
  ·subst h
   rw[if_pos rfl,if_pos hk,if_pos (show(a*5+a*1)/5<a+1 by omega),if_pos (show(a*5+a*1)%5=4∨(a*5+a*1)/5=(a*5+a*1)%5 by omega)]
  ·rw[if_neg h]
   by_cases h3:a*5+4*1=k
   ·subst h3
    rw[if_pos rfl,if_pos hk,if_pos (show(a*5+4*1)/5<a+1 by omega),if_pos (show(a*5+4*1)%5=4∨(a*5+4*1)/5=(a*5+4*1)%5 by omega)]
   ·rw[if_neg h3]
    by_cases h1:k/5<a
    ·rw[if_pos h1,if_pos (show k/5<a+1 by omega)]
    ·rw[if_neg h1]
     by_cases h2:k/5=a
     ·rw[if_pos (show k/5=a∧k%5<5 by omega),if_pos (show k/5<a+1 by omega),if_neg (show¬(k%5=4∨k/5=k%5) by omega)]
     ·rw[if_neg (show¬(k/5=a∧k%5<5) by omega),if_neg (show¬k/5<a+1 by omega),if_neg (show¬(k/5=a+1∧k%5<0) by omega)]
 ·rw[List.getElem?_eq_none (by rw[List.length_set,List.length_set,Xd];exact hk),List.getElem?_eq_none (by rw[Xd];exact hk)]
def bsL (M:Int):List Int:=bsU M 5 0
theorem mg_bs (M:Int){a b:Nat}(ha:a<5)(hb:b<5):mg (bsL M) a b=if b=4∨a=b then 0 else M:=by
 unfold mg bsL
 rw[List.getD_eq_getElem?_getD,bsU_get _ _ _ _ yab,if_pos yab]
 rw[show(5*a+b)%5=b by omega,show(5*a+b)/5=a by omega];rfl
theorem bs_in {M:Int}(h0:0≤M)(h1:M≤240):In5 240 (bsL M):=
 ⟨Xd _ _ _,fun a b ha hb=>by rw[mg_bs M ha hb];split<;>omega,fun a b ha hb=>by rw[mg_bs M ha hb];split<;>omega⟩
theorem Sol_bs {M:Int}{x:Nat→Int}(hx:x 4=0):Sol x (bsL M)↔(∀a,a<4→0≤x a∧x a≤M)∧(∀a b,a<4→b<4→a≠b→x b-x a≤M)∧(0≤M∨True):=by
 constructor
 ·intro h
  refine⟨fun a ha=>?_,fun a b ha hb hab=>?_,.inr trivial⟩
  ·have h1:=h a 4 yab yab
   have h2:=h 4 a yab yab
   rw[mg_bs M yab yab,if_pos (.inl rfl)] at h1
   rw[mg_bs M yab yab,if_neg yab] at h2
   omega
  ·have h1:=h a b yab yab
   rwa[mg_bs M yab yab,if_neg yab] at h1
 ·intro⟨h1,h2,_⟩ a b ha hb
  rw[mg_bs M ha hb]
  by_cases hb4:b=4
  ·subst hb4
   rw[if_pos (.inl rfl)]
   by_cases ha4:a=4
   ·subst ha4;omega
   ·have:=h1 a yab;omega
  ·by_cases hab:a=b
   ·subst hab;rw[if_pos (.inr rfl)];omega
   ·rw[if_neg yab]
    by_cases ha4:a=4
    ·subst ha4;have:=h1 b yab;omega
    ·exact h2 a b yab yab hab
end Go.Ab
namespace Go.Ab.Tryz
open Go.Proofs
def gapL (L:List Int)(g:Gp):List Int:=low (low L g.fr.toNat g.to.toNat g.hi) g.to.toNat g.fr.toNat (-g.lo)
def Xy (a:At):List Int:=a.gps.foldl gapL (bsL a.mins)
def rdL (L:List Int)(e:Nat)(s:Int × Int):List Int:=low (low L 4 e s.2) e 4 (-s.1)
def YG (a:At)(cnt:Nat→Bool)(k:Int)(x:Int × Int):List Rd→Nat→List Int→List Int × Bool
 |[],_,L=>(L,true)
 |r::l,i,L=>if r.ck≠k∨cnt i=false then YG a cnt k x l (i+1) L
  else if(whn x.1 x.2 r.sh (a.mins.toNat+1)).2<(whn x.1 x.2 r.sh (a.mins.toNat+1)).1 then(L,false)
  else YG a cnt k x l (i+1) (rdL L r.ev.toNat (whn x.1 x.2 r.sh (a.mins.toNat+1)))
def Yp (a:At)(cnt:Nat→Bool)(k:Int)(x:Int × Int)(L:List Int):List Int × Bool:=
 if(YG a cnt k x a.rds 0 L).2=true then YK (YG a cnt k x a.rds 0 L).1 else((YG a cnt k x a.rds 0 L).1,false)
end Go.Ab.Tryz
namespace Go.Ab.Tryz
open Go.Proofs
abbrev spV (s:Int × Int):V:=.agg [.ii s.1,.ii s.2]
def MapOk (a:At)(r:Rd)(l:List ((Int × Int) × V)):Prop:=∀c,a.cks[r.ck.toNat]? =some c→∀s g:Int,c.sl≤s→s≤c.sh→c.gl≤g→g≤c.gh→lkP (s,g) l=some (spV (whn s g r.sh (a.mins.toNat+1)))
structure Dk (h:H)(d:Nat)(a:At)(C R G f W:V)(ms:List Nat):Prop where
 dk:h.get d=some (.bk [.ii a.mins,.ii a.evs,C,R,G,f,W])
 x:ZP h C R G a
 w:Zg h W 1 (ms.map fun b=>[V.map b])
 len:ms.length=a.rds.length
 maps:∀i (hi:i<a.rds.length),∃b l,ms[i]? =some b∧h.get b=some (.map (encP l))∧MapOk a a.rds[i] l
theorem Dk.mono {h h':H}{d:Nat}{a:At}{C R G f W:V}{ms:List Nat}(k:Dk h d a C R G f W ms)(s:h.Sub h'):Dk h' d a C R G f W ms:=
 ⟨s.get k.dk,k.x.mono s,k.w.mono s,k.len,fun i hi=>let⟨b,l,e,m,o⟩:=k.maps i hi;⟨b,l,e,s.get m,o⟩⟩
theorem VQ {h:H}(hw:h.wf)(n v:Int)(Q:V→H→Prop)(q:∀h2,h.Sub h2→Q (.ii (min n v)) h2):
  Ev fnG Zi (.fn 137 [] []) [.ii n,.sl h.next 0 1 (.fix 1)] (h.add (.bk [.ii v])) Q:=by
 have hx:Zg (h.add (.bk [.ii v])) (.sl h.next 0 1 (.fix 1)) 1 ([v].map fun n=>[iv n]):=Zg.new _ rfl rfl rfl yao yao
 refine least_ev rfl (H.wf_add hw _) hx n _ fun h2 s2=>?_
 exact q h2 (((H.Sub.refl hw).add _).trans s2)
theorem iaa54 (sz b o:Nat):VK 5 sz (.ptr b o) (.ii 4)=some (.ptr b (o+4*sz)):=WJ (nat_num 4) yah
theorem zero25 (M:Int):[V.ii 0,.ii 0,.ii 0,.ii 0,.ii 0,.ii 0,.ii 0,.ii 0,.ii 0,.ii 0,.ii 0,.ii 0,.ii 0,.ii 0,.ii 0,.ii 0,.ii 0,.ii 0,.ii 0,.ii 0,.ii 0,.ii 0,.ii 0,.ii 0,.ii 0]=(bsU M 0 0).map iv:=rfl
theorem low_eq (L:List Int)(a b:Nat)(v:Int):L.set (a*5+b*1) (min (mg L a b) v)=low L a b v:=by rw[low,show a*5+b*1=5*a+b by omega]
theorem Zl.gap {a:At}(r:Zl a){g:Gp}(hg:g∈a.gps):∃f t:Nat,g.fr=f∧g.to=t∧f<4∧t<4∧ -240≤g.lo∧g.lo≤240∧ -240≤g.hi∧g.hi≤240:=by
 have h1:=r.go g hg
 have h2:=r.gb g hg
 have h3:=r.evs
 simp only[At.gpOk,At.evB,Bool.and_eq_true,Zs] at h1
 simp only[Gp.bd,within,Bool.and_eq_true,Zs] at h2
 exact⟨g.fr.toNat,g.to.toNat,by omega,by omega,by omega,by omega,h2.1.1,h2.1.2,h2.2.1,h2.2.2⟩
theorem gapL_in {L:List Int}(h:In5 240 L){a:At}(r:Zl a){g:Gp}(hg:g∈a.gps):In5 240 (gapL L g):=by
 obtain⟨f,t,e1,e2,hf,ht,h1,h2,h3,h4⟩:=r.gap hg
 unfold gapL
 rw[e1,e2]
 exact(h.low yab yab h3).low yab yab yab
theorem gaps_in {a:At}(r:Zl a):∀{l:List Gp} {L:List Int},(∀g∈l,g∈a.gps)→In5 240 L→In5 240 (l.foldl gapL L)
 |[],L,_,h=>h
 |g::l,L,hl,h=>by
  rw[List.foldl_cons]
  exact gaps_in r (fun x hx=>hl x (by simp[hx])) (gapL_in h r (hl g yao))
theorem W1 {a:At}(r:Zl a):In5 240 (Xy a):=gaps_in r (fun _ h=>h) (bs_in (by have:=r.mins;omega) (by have:=r.mins;omega))
structure FrI (h:H)(L:List Int)(Z:List V)(tm:T V)(h':H):Prop where
 sub:h.Sub h'
 nx:h.next+1<h'.next
 gr:h'.get h.next=some (.bk Z)
 gf:h'.get (h.next+1)=some (.bk (L.map iv))
 e2:tm.E 2=.ptr h.next 0
 e3:tm.E 3=.ptr (h.next+1) 0
set_option maxHeartbeats 4000000 in
theorem free_ev {h:H}(hw:h.wf){d:Nat}{a:At}{C R G f W:V}{ms:List Nat}(k:Dk h d a C R G f W ms)(r:Zl a)(Q:V→H→Prop)(q:∀h',h.Sub h'→Q (.agg ((Xy a).map iv)) h'):
  Ev fnG Zi (.fn 132 [] []) [.ptr d 0] h Q:=by
 have hd:=hw _ _ k.dk
 have hG:=k.x.g.lenE
 have hGb:=k.x.g.boundE
 obtain⟨M,hM⟩:∃M,a.mins=M:=⟨_,rfl⟩
 refine Ze (fd:=c132) rfl rfl rfl ?_
 have h55:¬(((5:Nat):Int)<5):=by omega
 simp(disch:=omega)only[c132,go_sem]
 rw[zero25 M]
 obtain⟨Z,hZ,lZ⟩:∃Z:List Int,(bsU M 0 0).map iv=Z.map iv∧Z.length=25:=⟨_,rfl,Xd _ _ _⟩
 have f0:∀tm:T V,tm.E 2=.ptr h.next 0→tm.E 3=.ptr (h.next+1) 0→FrI h (bsU M 0 0) (Z.map iv) tm ((h.add (.bk ((bsU M 0 0).map iv))).add (.bk ((bsU M 0 0).map iv))):=fun tm a b=>
  ⟨yaa,by simp only[H.next_add];omega,by rw[hZ];simp -implicitDefEqProofs(disch:=first|omega|simp only[nZ]<;>omega|fail)only[go_sem],by simp -implicitDefEqProofs(disch:=first|omega|simp only[nZ]<;>omega|fail)only[go_sem],a,b⟩
 refine Zk 5 (fun i s=>∃tm h',s=⟨tm,h',[]⟩∧FrI h (bsU M i 0) (Z.map iv) tm h'∧tm.E 0=.ptr d 0∧tm.E 8=.ii (i:Int)) ?_ ?_ (i:=0) (Nat.zero_le _)
  ⟨_,_,rfl,f0 _ yac yac,yac,yac⟩
 ·rintro i s hi ⟨tm,h1,rfl,c,e0,e8⟩
  have hi':(i:Int)<5:=by omega
  simp(disch:=omega)only[go_sem,e0,e8,hi']
  refine Zk 5 (fun j s=>∃tm h',s=⟨tm,h',[]⟩∧FrI h (bsU M i j) (Z.map iv) tm h'∧tm.E 0=.ptr d 0∧tm.E 8=.ii (i:Int)∧tm.E 4=.ii (i:Int)∧tm.E 11=.ii (j:Int)) ?_ ?_ (i:=0) (Nat.zero_le _)
   ⟨_,_,rfl,⟨c.sub,c.nx,c.gr,c.gf,yaj,yau⟩,yae,yag,yac,yac⟩
  ·rintro j s hj ⟨tm,h2,rfl,c,e0,e8,e4,e11⟩
   have hj':(j:Int)<5:=by omega
   have gd:=c.sub.get k.dk
   rw[hM] at gd
   have nx:=c.nx
   have hp:=Vm (L:=bsU M i j) (k:=i*5+j*1) (by rw[Xd];omega) M
   rw[bsU_step M hi hj] at hp
   simp(disch:=omega)only[go_sem,e0,e8,e4,e11,c.e3,hj',Za gd,XS,c.gf,hp,Zj]
   exact⟨_,_,rfl,⟨c.sub.set yab yab hw _,by rw[H.next_set];omega,by rw[get_set_other yab];exact c.gr,get_set_same rfl,yaj,yau⟩,yae,yag,yas,yac⟩
  ·rintro s ⟨tm,h2,rfl,c,e0,e8,e4,e11⟩
   have nx:=c.nx
   have hp1:=Vm (L:=bsU M i 5) (k:=i*5+4*1) (by rw[Xd];omega) 0
   have hp2:=Vm (L:=(bsU M i 5).set (i*5+4*1) 0) (k:=i*5+i*1) (by rw[List.length_set,Xd];omega) 0
   rw[bsU_row M hi] at hp2
   simp(disch:=omega)only[go_sem,e0,e8,e4,e11,c.e3,h55,XS,iaa54,c.gf,hp1,hp2,Zj]
   exact⟨_,_,rfl,⟨c.sub.set yab yab hw _,by rw[H.next_set];omega,by rw[get_set_other yab];exact c.gr,get_set_same rfl,yaj,yau⟩,yae,yac⟩
 ·rintro s ⟨tm,h1,rfl,c,e0,e8⟩
  have gd:=c.sub.get k.dk
  have c:FrI h (bsL M) (Z.map iv) tm h1:=c
  simp(disch:=omega)only[go_sem,e0,e8,h55,Za gd,hG]
  refine Zk a.gps.length (fun i s=>∃tm h',s=⟨tm,h',[]⟩∧FrI h ((a.gps.take i).foldl gapL (bsL M)) (Z.map iv) tm h'∧tm.E 36=G∧tm.E 37=.ii (a.gps.length:Int)∧tm.E 38=.ii (i:Int)) ?_ ?_ (i:=0) (Nat.zero_le _)
   ⟨_,_,rfl,⟨c.sub,c.nx,c.gr,c.gf,yaj,yau⟩,yac,yac,yac⟩
  ·rintro i s hi ⟨tm,h2,rfl,c,e36,e37,e38⟩
   have hi':(i:Int)<(a.gps.length:Int):=by omega
   obtain⟨b,o,cc,cs,e,hc,hq,hg,hn,hn0⟩:=(k.x.g.mono c.sub).at hi
   obtain⟨g,hgi⟩:∃g,a.gps[i]=g:=⟨_,rfl⟩
   have hmem:g∈a.gps:=by rw[←hgi];exact List.getElem_mem hi
   obtain⟨fr,to,ef,et,hf,ht,b1,b2,b3,b4⟩:=r.gap hmem
   rw[hgi] at hg
   simp only[ZF,ef,et] at hg
   obtain⟨L,hL⟩:∃L,(a.gps.take i).foldl gapL (bsL M)=L:=⟨_,rfl⟩
   have hin:In5 240 L:=by
    rw[←hL]
    exact gaps_in r (fun x hx=>List.mem_of_mem_take hx) (bs_in (by have:=r.mins;omega) (by have:=r.mins;omega))
   have lL:=hin.len
   have gf:=c.gf
   rw[hL] at gf
   have nx:=c.nx
   have hw2:=c.sub.wf
   have w1:wr .i64 (0-g.lo)= -g.lo:=by rw[Zo yab yab];omega
   have sB:=(H.Sub.refl hw2).add (.bk [.ii (fr:Int),.ii (to:Int),.ii g.lo,.ii g.hi])
   have nB:=H.next_add h2 (.bk [.ii (fr:Int),.ii (to:Int),.ii g.lo,.ii g.hi])
   have gB:(h2.add (.bk [.ii (fr:Int),.ii (to:Int),.ii g.lo,.ii g.hi])).get h2.next=some (.bk [.ii (fr:Int),.ii (to:Int),.ii g.lo,.ii g.hi]):=Zc rfl
   obtain⟨hB,hhB⟩:∃hB,h2.add (.bk [.ii (fr:Int),.ii (to:Int),.ii g.lo,.ii g.hi])=hB:=⟨_,rfl⟩
   rw[hhB] at sB nB gB
   have gfB:=sB.get gf
   subst e
   simp(disch:=omega)only[go_sem,e36,e37,e38,c.e3,hi',hq (Zb i),hc,hg,hhB,Za gB,XS,Za gfB,Y3 lL (by omega:fr<5) (by omega:to<5)]
   refine VQ sB.wf _ _ _ fun h3 s3=>?_
   have gf3:=s3.get gfB
   have gB3:=s3.get gB
   have l3:=s3.next
   have hp:=Vm (L:=L) (k:=fr*5+to*1) yab (min (mg L fr to) g.hi)
   rw[low_eq] at hp
   obtain⟨K,hK⟩:∃K,low L fr to g.hi=K:=⟨_,rfl⟩
   rw[hK] at hp
   have lK:K.length=25:=by rw[←hK,YQ];exact lL
   have s03:=(c.sub.trans sB).trans s3
   have s4:h.Sub (h3.set (h.next+1) (.bk (K.map iv))):=s03.set yab yab hw _
   have gf4:(h3.set (h.next+1) (.bk (K.map iv))).get (h.next+1)=some (.bk (K.map iv)):=get_set_same rfl
   have gB4:(h3.set (h.next+1) (.bk (K.map iv))).get h2.next=some (.bk [.ii (fr:Int),.ii (to:Int),.ii g.lo,.ii g.hi]):=by rw[get_set_other yab];exact gB3
   have gr4:(h3.set (h.next+1) (.bk (K.map iv))).get h.next=some (.bk (Z.map iv)):=by rw[get_set_other yab];exact(sB.trans s3).get c.gr
   have n4:(h3.set (h.next+1) (.bk (K.map iv))).next=h3.next:=H.next_set _ _ _
   simp(disch:=omega)only[go_sem,e36,e37,e38,c.e3,XS,gf3,Za gf3,Za gB3,Za gB,Za gfB,Y3 lL (by omega:fr<5) (by omega:to<5),hp]
   obtain⟨h4,hh4⟩:∃h4,h3.set (h.next+1) (.bk (K.map iv))=h4:=⟨_,rfl⟩
   rw[hh4] at s4 gf4 gB4 gr4 n4
   simp(disch:=omega)only[go_sem,hh4,e36,e37,e38,c.e3,XS,gf4,Za gf4,Za gB4,Y3 lK (by omega:to<5) (by omega:fr<5),w1]
   refine VQ s4.wf _ _ _ fun h5 s5=>?_
   have gf5:=s5.get gf4
   have gB5:=s5.get gB4
   have l5:=s5.next
   have hp5:=Vm (L:=K) (k:=to*5+fr*1) yab (min (mg K to fr) (-g.lo))
   rw[low_eq] at hp5
   have hfin:(a.gps.take (i+1)).foldl gapL (bsL M)=low K to fr (-g.lo):=by
    rw[List.take_succ_eq_append_getElem hi,List.foldl_append,hL,hgi]
    show gapL L g=_
    unfold gapL
    rw[ef,et,Int.toNat_natCast,Int.toNat_natCast,hK]
   simp(disch:=omega)only[go_sem,e36,e37,e38,c.e3,XS,gf5,Za gf5,Za gB5,gf4,Za gf4,Za gB4,Y3 lK (by omega:to<5) (by omega:fr<5),hp5,Zj]
   exact⟨_,_,rfl,⟨(s4.trans s5).set yab yab hw _,by rw[H.next_set];omega,by rw[get_set_other yab];exact s5.get gr4,by rw[hfin];exact get_set_same rfl,yaj,yau⟩,(by simp[Zm,Zd,e36]<;>rfl),(by simp[Zm,Zd,e37]<;>rfl),yac⟩
  ·rintro s ⟨tm,h2,rfl,c,e36,e37,e38⟩
   rw[List.take_length,←hM] at c
   have gf:=c.gf
   have nx:=c.nx
   have hin:=W1 r
   have lL:(Xy a).length=25:=hin.len
   have gN:Y6 0 25 ((Xy a).map iv)=some ((Xy a).map iv):=by rw[←lL];exact XL _
   have lnN:Yt ((Xy a).map iv)=25:=by rw[Vp,lL]
   have pN:h2.put h.next 0 ((Xy a).map iv)=some (h2.set h.next (.bk ((Xy a).map iv))):=WY (L:=Z) c.gr yab (fun e=>by rw[e] at lL;cases lL)
   have gf':h2.get (h.next+1)=some (.bk ((Xy a).map iv)):=gf
   simp(disch:=omega)only[go_sem,e36,e37,e38,c.e2,c.e3,Int.lt_irrefl,Za gf',gN,lnN,pN]
   exact q _ (c.sub.set yab yab hw _)
end Go.Ab.Tryz
namespace Go.Ab
theorem clo_len:∀(n:Nat) (L:List Int),(clo n L).1.length=L.length
 |0,L=>rfl
 |n+1,L=>by
  simp only[clo]
  split
  ·exact Xn L 125
  ·split
   ·exact Xn L 125
   ·rw[clo_len n,Xn]
theorem clos_len (L:List Int):(YK L).1.length=L.length:=clo_len _ _
end Go.Ab
namespace Go.Ab.Tryz
open Go.Proofs
theorem Zl.rd {a:At}(r:Zl a){x:Rd}(hx:x∈a.rds):∃k e:Nat,x.ck=k∧x.ev=e∧k<a.cks.length∧e<4∧(e:Int)<a.evs:=by
 have h1:=r.ro x hx
 have h3:=r.evs
 simp only[At.rdOk,At.ckB,At.evB,Bool.and_eq_true,Zs] at h1
 exact⟨x.ck.toNat,x.ev.toNat,by omega,by omega,by omega,by omega,by omega⟩
structure Wn (a:At)(k:Nat)(x:Int × Int):Prop where
 is:∃c,a.cks[k]? =some c∧c.sl≤x.1∧x.1≤c.sh∧c.gl≤x.2∧x.2≤c.gh
theorem Wn.run {a:At}{k:Nat}{x:Int × Int}(h:Wn a k x)(r:Zl a):Wy x.1 x.2:=by
 obtain⟨c,hc,h1,h2,h3,h4⟩:=h.is
 have:=r.cb c (List.mem_of_getElem? hc)
 simp only[Ck.bd,within,Bool.and_eq_true,Zs] at this
 exact⟨by omega,by omega,by omega,by omega⟩
theorem rdL_in {L:List Int}(h:In5 240 L){e:Nat}(he:e<4){s:Int × Int}(h1:0≤s.1∧s.1≤240)(h2:0≤s.2∧s.2≤240):In5 240 (rdL L e s):=
 (h.low yab yab yab).low yab yab yab
theorem WH {a:At}(r:Zl a){cnt:Nat→Bool}{k:Int}{x:Int × Int}:∀{l:List Rd} {i:Nat} {L:List Int},(∀y∈l,y∈a.rds)→In5 240 L→In5 240 (YG a cnt k x l i L).1
 |[],_,_,_,h=>h
 |y::l,i,L,hl,h=>by
  have hm:=r.mins
  obtain⟨_,e,_,e2,_,he,_⟩:=r.rd (hl y yao)
  rw[YG]
  split
  ·exact WH r (fun z hz=>hl z (by simp[hz])) h
  ·split
   ·exact h
   ·rename_i h2
    have hr:=whn_rng (set:=x.1) (gain:=x.2) (s:=y.sh) (n:=a.mins.toNat+1) yab
    exact WH r (fun z hz=>hl z (by simp[hz])) (rdL_in h yab yab yab)
structure RdI (h:H)(L:List Int)(Z:List V)(x:Int × Int)(tm:T V)(h':H):Prop where
 sub:h.Sub h'
 nx:h.next+2<h'.next
 gf:h'.get h.next=some (.bk (L.map iv))
 gx:h'.get (h.next+1)=some (.bk [.ii x.1,.ii x.2])
 gr:h'.get (h.next+2)=some (.bk Z)
 e5:tm.E 5=.ptr h.next 0
 e7:tm.E 7=.ptr (h.next+1) 0
 e8:tm.E 8=.ptr (h.next+2) 0
set_option maxHeartbeats 8000000 in
theorem read_ev {h:H}(hw:h.wf){d:Nat}{a:At}{C R G f W:V}{ms:List Nat}(k:Dk h d a C R G f W ms)(r:Zl a){cnt:Nat→Bool}(hcnt:∀i,i<a.rds.length→YA h f [.ii (i:Int)] (.bool (cnt i)))
  {L:List Int} (hL:In5 240 L) {kc:Nat} {x:Int × Int} (hx:Wn a kc x) (Q:V→H→Prop) (q:∀h',h.Sub h'→Q (.tup [.agg ((Yp a cnt kc x L).1.map iv),.bool (Yp a cnt kc x L).2]) h'):
  Ev fnG Zi (.fn 131 [] []) [.ptr d 0,.agg (L.map iv),.ii (kc:Int),.agg [.ii x.1,.ii x.2]] h Q:=by
 have hd:=hw _ _ k.dk
 have hR:=k.x.r.lenE
 have hRb:=k.x.r.boundE
 have lL:=hL.len
 have hm:=r.mins
 obtain⟨Z,hZ,lZ⟩:∃Z:List Int,Z.map iv=[V.ii 0,.ii 0,.ii 0,.ii 0,.ii 0,.ii 0,.ii 0,.ii 0,.ii 0,.ii 0,.ii 0,.ii 0,.ii 0,.ii 0,.ii 0,.ii 0,.ii 0,.ii 0,.ii 0,.ii 0,.ii 0,.ii 0,.ii 0,.ii 0,.ii 0]∧Z.length=25:=⟨List.replicate 25 0,rfl,rfl⟩
 refine Ze (fd:=c131) rfl rfl rfl ?_
 simp -implicitDefEqProofs(disch:=first|omega|simp only[nZ]<;>omega|fail)only[c131,go_sem,Za k.dk,hR]
 rw[←hZ]
 refine Zk a.rds.length (fun i s=>∃tm h' K,s=⟨tm,h',[]⟩∧RdI h K (Z.map iv) x tm h'∧In5 240 K∧YG a cnt kc x a.rds 0 L=YG a cnt kc x (a.rds.drop i) i K∧
   tm.E 0=.ptr d 0∧tm.E 2=.ii (kc:Int)∧tm.E 17=R∧tm.E 18=.ii (a.rds.length:Int)∧tm.E 19=.ii (i:Int)) ?_ ?_ (i:=0) (Nat.zero_le _)
  ⟨_,_,L,rfl,⟨yaa,by simp only[H.next_add];omega,by simp -implicitDefEqProofs(maxSteps:=999999)(disch:=first|with_reducible rfl|omega|(simp only[nA,nS,nD]<;>omega)|fail)only[go_sem],by simp -implicitDefEqProofs(maxSteps:=999999)(disch:=first|with_reducible rfl|omega|(simp only[nA,nS,nD]<;>omega)|fail)only[go_sem],by simp -implicitDefEqProofs(maxSteps:=999999)(disch:=first|with_reducible rfl|omega|(simp only[nA,nS,nD]<;>omega)|fail)only[go_sem],yac,yac,yac⟩,hL,rfl,yac,yac,yac,yac,yac⟩
 ·rintro i s hi ⟨tm,h1,K,rfl,c,hK,hread,e0,e2,e17,e18,e19⟩
  have hi':(i:Int)<(a.rds.length:Int):=by omega
  have k1:=k.mono c.sub
  have hw1:=c.sub.wf
  have nx:=c.nx
  have lK:=hK.len
  obtain⟨b,o,cc,cs,e,hc,hq,hg,hn,hn0⟩:=k1.x.r.at hi
  obtain⟨y,hy⟩:∃y,a.rds[i]=y:=⟨_,rfl⟩
  have hmem:y∈a.rds:=by rw[←hy];exact List.getElem_mem hi
  obtain⟨yk,ye,ek,ee,hyk,hye,_⟩:=r.rd hmem
  rw[hy] at hg
  simp only[encR,ek,ee] at hg
  rw[List.drop_eq_getElem_cons hi,hy,YG] at hread
  have sB:=(H.Sub.refl hw1).add (.bk [.ii (yk:Int),.ii (ye:Int),.ii y.sh])
  have nB:=H.next_add h1 (.bk [.ii (yk:Int),.ii (ye:Int),.ii y.sh])
  have gB:(h1.add (.bk [.ii (yk:Int),.ii (ye:Int),.ii y.sh])).get h1.next=some (.bk [.ii (yk:Int),.ii (ye:Int),.ii y.sh]):=Zc rfl
  obtain⟨hB,hhB⟩:∃hB,h1.add (.bk [.ii (yk:Int),.ii (ye:Int),.ii y.sh])=hB:=⟨_,rfl⟩
  rw[hhB] at sB nB gB
  have kB:=k1.mono sB
  subst e
  have cB:=c.sub.trans sB
  by_cases hk:(yk:Int)=(kc:Int)
  case neg=>
   rw[if_pos (.inl (by rw[ek];exact hk))] at hread
   simp(disch:=omega)only[go_sem,e0,e2,e17,e18,e19,hi',hq (Zb i),hc,hg,hhB,Za gB,hk,ne_eq,not_false_eq_true,Zj]
   exact⟨_,_,K,rfl,⟨cB,by omega,sB.get c.gf,sB.get c.gx,sB.get c.gr,yaA,yaB,yaC⟩,hK,hread,yae,yad,yaE,yal,yac⟩
  have hkc:yk=kc:=by omega
  subst hkc
  simp(disch:=omega)only[go_sem,e0,e2,e17,e18,e19,hi',hq (Zb i),hc,hg,hhB,Za gB,eq_self,ne_eq,not_true_eq_false,Za kB.dk]
  refine(hcnt i hi).use cB fun h2 s2=>?_
  have l2:=s2.next
  cases hct:cnt i with
  |false=>
   rw[if_pos (.inr hct)] at hread
   simp(disch:=omega)only[go_sem,e0,e2,e17,e18,e19,Zj]
   have s12:=sB.trans s2
   exact⟨_,_,K,rfl,⟨cB.trans s2,by omega,s12.get c.gf,s12.get c.gx,s12.get c.gr,yaA,yaB,yaC⟩,hK,hread,yae,yad,yaE,yal,yac⟩
  |true=>
  have s12:=sB.trans s2
  have k2:=k1.mono s12
  rw[if_neg (by rw[ek,hct];simp)] at hread
  obtain⟨bm,l,em,gm,mo⟩:=k2.maps i hi
  have him:i<ms.length:=by rw[k.len];exact hi
  have hw2:=k2.w
  obtain⟨b2,o2,cc2,cs2,e',hc2,hq2,hg2,hn2,hn02⟩:=hw2.at (k:=i) him
  have hbm:ms[i]=bm:=by rw[List.getElem?_eq_getElem him] at em;exact Option.some.inj em
  have hnm:nth (o2+i*1) cs2=some (.map bm):=by rw[hn02 yab,hbm];rfl
  subst e'
  obtain⟨ck,hck,x1,x2,x3,x4⟩:=hx.is
  have hlk:=mo ck (by rw[hy,ek];exact hck) x.1 x.2 x1 x2 x3 x4
  rw[hy] at hlk
  obtain⟨sp,hsp⟩:∃sp,whn x.1 x.2 y.sh (a.mins.toNat+1)=sp:=⟨_,rfl⟩
  rw[hsp] at hlk hread
  have gx2:=s12.get c.gx
  have hlx:∀h3,h2.Sub h3→q_lks h3 2 (.agg [.ii 0,.ii 0]) (.map bm) (.agg [.ii x.1,.ii x.2]) false=some (.agg [.ii sp.1,.ii sp.2]):=fun h3 s3=>by
   rw[q_lks_map,s3.get gm]
   have:=lkPC_map l (.agg [.ii 0,.ii 0]) x false
   rw[show(x.1,x.2)=x from rfl] at hlk
   rw[hlk] at this
   exact this
  have lb2:b2<h2.next:=(H.cells_eq hc2).elim fun kd e=>s2.wf _ _ e
  have gc2:=s12.get c.gf
  have gr2:=s12.get c.gr
  have gB2:=s2.get gB
  have sD:=(H.Sub.refl s2.wf).add (.bk [.ii sp.1,.ii sp.2])
  have nD:=H.next_add h2 (.bk [.ii sp.1,.ii sp.2])
  have gD:(h2.add (.bk [.ii sp.1,.ii sp.2])).get h2.next=some (.bk [.ii sp.1,.ii sp.2]):=Zc rfl
  obtain⟨hD,hhD⟩:∃hD,h2.add (.bk [.ii sp.1,.ii sp.2])=hD:=⟨_,rfl⟩
  rw[hhD] at sD nD gD
  simp(disch:=omega)only[go_sem,e0,e2,e17,e18,e19,c.e5,c.e7,Za k2.dk,hq2 (Zb i),hc2,hnm,Za gx2,hlx h2 (H.Sub.refl s2.wf),hlx _ ((H.Sub.refl s2.wf).add (.bk [.ii 0,.ii 0])),hhD]
  have cD:=(c.sub.trans s12).trans sD
  have gfD:=sD.get gc2
  have gxD:=sD.get gx2
  have grD:=sD.get gr2
  have gBD:=sD.get gB2
  have lD:h2.next<hD.next:=by omega
  by_cases hlt:sp.2<sp.1
  ·rw[if_pos hlt] at hread
   have gN:Y6 0 25 (K.map iv)=some (K.map iv):=by rw[←lK];exact XL _
   have lnN:Yt (K.map iv)=25:=by rw[Vp,lK]
   have pN:hD.put (h.next+2) 0 (K.map iv)=some (hD.set (h.next+2) (.bk (K.map iv))):=WY (L:=Z) grD yab (fun e=>by rw[e] at lK;cases lK)
   have hfin:Yp a cnt yk x L=(K,false):=by unfold Yp;rw[hread];simp
   rw[hfin] at q
   have hlt':decide (sp.2<sp.1)=true:=by simp[hlt]
   simp(disch:=omega)only[go_sem,Za gD,hlt,c.e5,c.e8,Za gfD,gN,lnN,pN]
   exact q _ (cD.set yab yab hw _)
  rw[if_neg hlt,ee,Int.toNat_natCast] at hread
  have hr:=whn_rng (set:=x.1) (gain:=x.2) (s:=y.sh) (n:=a.mins.toNat+1) (by rw[hsp];omega)
  rw[hsp] at hr
  have w1:wr .i64 (0-sp.1)= -sp.1:=by rw[Zo yab yab];omega
  simp(disch:=omega)only[go_sem,Za gD,hlt,e0,e2,e17,e18,e19,c.e5,c.e8,Za gfD,Za gBD,XS,iaa54,Y3 lK (by omega:4<5) (by omega:ye<5)]
  refine VQ sD.wf _ _ _ fun h3 s3=>?_
  have gf3:=s3.get gfD
  have gB3:=s3.get gBD
  have gD3:=s3.get gD
  have l3:=s3.next
  have hp:=Vm (L:=K) (k:=4*5+ye*1) yab (min (mg K 4 ye) sp.2)
  rw[low_eq] at hp
  obtain⟨K2,hK2⟩:∃K2,low K 4 ye sp.2=K2:=⟨_,rfl⟩
  rw[hK2] at hp
  have lK2:K2.length=25:=by rw[←hK2,YQ];exact lK
  have s03:=cD.trans s3
  have s4:h.Sub (h3.set h.next (.bk (K2.map iv))):=s03.set yab yab hw _
  have gf4:(h3.set h.next (.bk (K2.map iv))).get h.next=some (.bk (K2.map iv)):=get_set_same rfl
  have gB4:(h3.set h.next (.bk (K2.map iv))).get h1.next=some (.bk [.ii (yk:Int),.ii (ye:Int),.ii y.sh]):=by rw[get_set_other yab];exact gB3
  have gD4:(h3.set h.next (.bk (K2.map iv))).get h2.next=some (.bk [.ii sp.1,.ii sp.2]):=by rw[get_set_other yab];exact gD3
  have gx4:(h3.set h.next (.bk (K2.map iv))).get (h.next+1)=some (.bk [.ii x.1,.ii x.2]):=by rw[get_set_other yab];exact s3.get gxD
  have gr4:(h3.set h.next (.bk (K2.map iv))).get (h.next+2)=some (.bk (Z.map iv)):=by rw[get_set_other yab];exact s3.get grD
  have n4:(h3.set h.next (.bk (K2.map iv))).next=h3.next:=H.next_set _ _ _
  simp(disch:=omega)only[go_sem,e0,e2,e17,e18,e19,c.e5,c.e8,XS,iaa54,gf3,Za gf3,Za gB3,Za gD3,Za gfD,Za gBD,Za gD,Y3 lK (by omega:4<5) (by omega:ye<5),hp]
  obtain⟨h4,hh4⟩:∃h4,h3.set h.next (.bk (K2.map iv))=h4:=⟨_,rfl⟩
  rw[hh4] at s4 gf4 gB4 gD4 gx4 gr4 n4
  simp(disch:=omega)only[go_sem,hh4,e0,e2,e17,e18,e19,c.e5,c.e8,XS,iaa54,gf4,Za gf4,Za gB4,Za gD4,Y3 lK2 (by omega:ye<5) (by omega:4<5),w1]
  refine VQ s4.wf _ _ _ fun h5 s5=>?_
  have gf5:=s5.get gf4
  have gB5:=s5.get gB4
  have gD5:=s5.get gD4
  have l5:=s5.next
  have hp5:=Vm (L:=K2) (k:=ye*5+4*1) yab (min (mg K2 ye 4) (-sp.1))
  rw[low_eq] at hp5
  have hrd:rdL K ye sp=low K2 ye 4 (-sp.1):=by rw[rdL,hK2]
  rw[hrd] at hread
  have hin:In5 240 (low K2 ye 4 (-sp.1)):=by rw[←hrd];exact rdL_in hK hye yab yab
  simp(disch:=omega)only[go_sem,e0,e2,e17,e18,e19,c.e5,c.e8,XS,iaa54,gf5,Za gf5,Za gB5,Za gD5,gf4,Za gf4,Za gB4,Za gD4,Y3 lK2 (by omega:ye<5) (by omega:4<5),hp5,Zj]
  exact⟨_,_,_,rfl,⟨(s4.trans s5).set yab yab hw _,by rw[H.next_set];omega,get_set_same rfl,by rw[get_set_other yab];exact s5.get gx4,by rw[get_set_other yab];exact s5.get gr4,yaA,yaB,yaC⟩,hin,hread,yae,yad,yaE,yal,yac⟩
 ·rintro s ⟨tm,h1,K,rfl,c,hK,hread,e0,e2,e17,e18,e19⟩
  rw[List.drop_eq_nil_of_le (Nat.le_refl _),YG] at hread
  have lK:=hK.len
  have nx:=c.nx
  have hw1:=c.sub.wf
  have gN:Y6 0 25 (K.map iv)=some (K.map iv):=by rw[←lK];exact XL _
  have hfin:Yp a cnt kc x L=YK K:=by unfold Yp;rw[hread];simp
  rw[hfin] at q
  have hKin:=XB yah yah hK
  simp(disch:=omega)only[go_sem,e0,e2,e17,e18,e19,c.e5,Int.lt_irrefl,Za c.gf,gN]
  refine closed_ev rfl rfl hw1 hK _ fun h2 s2=>?_
  have lC:(YK K).1.length=25:=by rw[clos_len,lK]
  have lnN:Yt ((YK K).1.map iv)=25:=by rw[Vp,lC]
  have gr2:=s2.get c.gr
  have l2:=s2.next
  have pN:h2.put (h.next+2) 0 ((YK K).1.map iv)=some (h2.set (h.next+2) (.bk ((YK K).1.map iv))):=WY (L:=Z) gr2 yab (fun e=>by rw[e] at lC;cases lC)
  have gN2:Y6 0 25 ((YK K).1.map iv)=some ((YK K).1.map iv):=by rw[←lC];exact XL _
  simp(disch:=omega)only[go_sem,e0,e2,e17,e18,e19,c.e8,lnN,pN,gN2]
  exact q _ ((c.sub.trans s2).set yab yab hw _)
end Go.Ab.Tryz
namespace Go.Ab.Tryz
open Go.Proofs
def MapUp (a:At)(r:Rd)(c:Ck)(S T:Int)(l:List ((Int × Int) × V)):Prop:=∀s g:Int,c.sl≤s→s≤c.sh→c.gl≤g→g≤c.gh→(s<S∨(s=S∧g<T))→lkP (s,g) l=some (spV (whn s g r.sh (a.mins.toNat+1)))
theorem MapUp.step {a:At}{r:Rd}{c:Ck}{S T:Int}{l:List ((Int × Int) × V)}(h:MapUp a r c S T l):MapUp a r c S (T+1) (putP (S,T) (spV (whn S T r.sh (a.mins.toNat+1))) l):=fun s g h1 h2 h3 h4 h5=>by
 rw[lkP_putP]
 by_cases e:(s,g)=(S,T)
 ·rw[if_pos e];cases e;rfl
 ·rw[if_neg e]
  refine h s g h1 h2 h3 h4 ?_
  rcases h5 with h5|⟨rfl,h5⟩
  ·exact .inl h5
  ·have:g≠T:=fun e'=>e (by rw[e'])
   exact .inr ⟨rfl,by omega⟩
theorem MapUp.row {a:At}{r:Rd}{c:Ck}{S T:Int}{l:List ((Int × Int) × V)}(h:MapUp a r c S T l)(hT:c.gh<T):MapUp a r c (S+1) c.gl l:=fun s g h1 h2 h3 h4 h5=>h s g h1 h2 h3 h4 yab
theorem Wn.mk' {a:At}{k:Nat}{c:Ck}(hc:a.cks[k]? =some c){s g:Int}(h1:c.sl≤s)(h2:s≤c.sh)(h3:c.gl≤g)(h4:g≤c.gh):Wn a k (s,g):=⟨c,hc,h1,h2,h3,h4⟩
structure WkI (h:H)(a:At)(C R G f:V)(i:Nat)(W:V)(ms:List Nat)(h':H):Prop where
 sub:h.Sub h'
 nx:h.next+2<h'.next
 ga:h'.get h.next=some (.bk (atV a C R G))
 gd:h'.get (h.next+2)=some (.bk [.ii a.mins,.ii a.evs,C,R,G,f,W])
 w:Zx h h' W 1 (ms.map fun b=>[V.map b])
 len:ms.length=i
 maps:∀j (hj:j<a.rds.length),j<i→∃b l,ms[j]? =some b∧h'.get b=some (.map (encP l))∧MapOk a a.rds[j] l
theorem WkI.mono {h h1 h2:H}{a:At}{C R G f W:V}{i:Nat}{ms:List Nat}(k:WkI h a C R G f i W ms h1)(s:h1.Sub h2):WkI h a C R G f i W ms h2:=
 ⟨k.sub.trans s,Nat.lt_of_lt_of_le k.nx s.next,s.get k.ga,s.get k.gd,k.w.mono s,k.len,fun j hj hi=>let⟨b,l,e,m,o⟩:=k.maps j hj hi;⟨b,l,e,s.get m,o⟩⟩
set_option maxHeartbeats 8000000 in
theorem worked_ev {h:H}(hw:h.wf){a:At}{C R G:V}(x:ZP h C R G a)(r:Zl a){f:V}(hf:f.one=true)(Q:V→H→Prop)
  (q:∀d W ms h',h.Sub h'→h.next≤d→Dk h' d a C R G f W ms→Q (.ptr d 0) h'):Ev fnG Zi (.fn 70 [] []) [.agg (atV a C R G),.agg [f]] h Q:=by
 have hR:=x.r.lenE
 have hm:=r.mins
 have rl:=r.lens
 have oC:=x.c.one;have oR:=x.r.one;have oG:=x.g.one
 refine Ze (fd:=c70) rfl rfl rfl ?_
 simp -implicitDefEqProofs(disch:=first|omega|simp only[nZ]<;>omega|fail)only[c70,go_sem,hR]
 have k0:WkI h a C R G f 0 .nils [] (((h.add (.bk (atV a C R G))).add (.bk [f])).add (.bk [.ii a.mins,.ii a.evs,C,R,G,f,.nils])):=
  ⟨yaa,by simp only[H.next_add];omega,by simp -implicitDefEqProofs(maxSteps:=999999)(disch:=first|with_reducible rfl|omega|(simp only[nA,nS,nD]<;>omega)|fail)only[go_sem],by simp -implicitDefEqProofs(maxSteps:=999999)(disch:=first|with_reducible rfl|omega|(simp only[nA,nS,nD]<;>omega)|fail)only[go_sem],Zx.nil yaa 1,rfl,fun j _ h0=>absurd h0 (Nat.not_lt_zero _)⟩
 refine Zk a.rds.length (fun i s=>∃tm h' W ms,s=⟨tm,h',[]⟩∧WkI h a C R G f i W ms h'∧tm.E 2=.ptr h.next 0∧tm.E 5=.ptr (h.next+2) 0∧tm.E 18=R∧tm.E 19=.ii (a.rds.length:Int)∧tm.E 20=.ii (i:Int)) ?_ ?_ (i:=0) (Nat.zero_le _)
  ⟨_,_,.nils,[],rfl,k0,yac,yac,yac,yac,yac⟩
 ·rintro i s hi ⟨tm,h1,W,ms,rfl,k,e2,e5,e18,e19,e20⟩
  have hi':(i:Int)<(a.rds.length:Int):=by omega
  have x1:=x.mono k.sub
  have hw1:=k.sub.wf
  have nx:=k.nx
  obtain⟨b,o,cc,cs,e,hc,hq,hg,hn,hn0⟩:=x1.r.at hi
  obtain⟨y,hy⟩:∃y,a.rds[i]=y:=⟨_,rfl⟩
  have hmem:y∈a.rds:=by rw[←hy];exact List.getElem_mem hi
  obtain⟨yk,ye,ek,ee,hyk,hye,_⟩:=r.rd hmem
  rw[hy] at hg
  simp only[encR,ek,ee] at hg
  obtain⟨b2,o2,cc2,cs2,e',hc2,hq2,hg2,hn2,hn02⟩:=x1.c.at (k:=yk) hyk
  obtain⟨c,hcy⟩:∃c,a.cks[yk]=c:=⟨_,rfl⟩
  have hck:a.cks[yk]? =some c:=by rw[List.getElem?_eq_getElem hyk,hcy]
  have hcm:c∈a.cks:=List.mem_of_getElem? hck
  have hcb:=r.cb c hcm
  have hco:=r.co c hcm
  simp only[Ck.bd,within,Bool.and_eq_true,Zs] at hcb
  simp only[Ck.ord,Bool.and_eq_true,decide_eq_true_eq] at hco
  rw[hcy] at hg2
  simp only[Z9] at hg2
  have lb2:b2<h1.next:=(H.cells_eq hc2).elim fun kd e=>hw1 _ _ e
  have lb:b<h1.next:=(H.cells_eq hc).elim fun kd e=>hw1 _ _ e
  subst e
  subst e'
  have ga1:=k.ga
  simp -implicitDefEqProofs(disch:=first|omega|simp only[nZ]<;>omega|fail)only[go_sem,e2,e5,e18,e19,e20,hi',hq (Zb i),hc,hg,Za ga1,hq2 (Zb yk),hc2,hg2]
  obtain⟨h2,hh2⟩:∃h2,((h1.add (.bk [.ii (yk:Int),.ii (ye:Int),.ii y.sh])).add (.map [])).add (.bk [.ii c.sl,.ii c.sh,.ii c.gl,.ii c.gh])=h2:=⟨_,rfl⟩
  have s2:h1.Sub h2:=by rw[←hh2];exact yaa
  have n2:h2.next=h1.next+3:=by rw[←hh2];simp only[H.next_add]
  have gr2:h2.get h1.next=some (.bk [.ii (yk:Int),.ii (ye:Int),.ii y.sh]):=by rw[←hh2];simp -implicitDefEqProofs(maxSteps:=999999)(disch:=first|with_reducible rfl|omega|(simp only[nA,nS,nD]<;>omega)|fail)only[go_sem]
  have gm2:h2.get (h1.next+1)=some (.map (encP [])):=by rw[←hh2,encP_nil];simp -implicitDefEqProofs(maxSteps:=999999)(disch:=first|with_reducible rfl|omega|(simp only[nA,nS,nD]<;>omega)|fail)only[go_sem]
  have gc2:h2.get (h1.next+2)=some (.bk [.ii c.sl,.ii c.sh,.ii c.gl,.ii c.gh]):=by rw[←hh2];simp -implicitDefEqProofs(maxSteps:=999999)(disch:=first|with_reducible rfl|omega|(simp only[nA,nS,nD]<;>omega)|fail)only[go_sem]
  try rw[hh2]
  obtain⟨mn,hmn⟩:∃mn:Nat,a.mins=mn:=⟨a.mins.toNat,by omega⟩
  obtain⟨n,hn⟩:∃n:Nat,(n:Int)=c.sh-c.sl+1:=⟨(c.sh-c.sl+1).toNat,by omega⟩
  obtain⟨n',hn'⟩:∃n:Nat,(n:Int)=c.gh-c.gl+1:=⟨(c.gh-c.gl+1).toNat,by omega⟩
  refine Zk n (fun u s=>∃tm h' l,s=⟨tm,h',[]⟩∧h1.Sub h'∧h1.next+2<h'.next∧h'.get h1.next=some (.bk [.ii (yk:Int),.ii (ye:Int),.ii y.sh])∧h'.get (h1.next+1)=some (.map (encP l))∧h'.get (h1.next+2)=some (.bk [.ii c.sl,.ii c.sh,.ii c.gl,.ii c.gh])∧MapUp a y c (c.sl+u) c.gl l∧
   tm.E 2=.ptr h.next 0∧tm.E 5=.ptr (h.next+2) 0∧tm.E 18=.sl b o a.rds.length cc∧tm.E 19=.ii (a.rds.length:Int)∧tm.E 20=.ii (i:Int)∧tm.E 7=.ptr h1.next 0∧tm.E 8=.map (h1.next+1)∧tm.E 9=.ptr (h1.next+2) 0∧tm.E 10=.ii (c.sl+u)) ?_ ?_ (i:=0) (Nat.zero_le _)
   ⟨_,_,[],rfl,s2,by omega,gr2,gm2,gc2,fun s g h1 _ h3 _ h5=>by omega,yad,yam,yal,yav,yax,yac,yac,yac,(by rw[show c.sl+((0:Nat):Int)=c.sl by simp];exact yac)⟩
  ·rintro u s hu ⟨tm,h',l,rfl,s1,nx',gr,gm,gc,mo,e2,e5,e18,e19,e20,e7,e8,e9,e10⟩
   have hu':c.sl+(u:Int)≤c.sh:=by omega
   simp(disch:=omega)only[go_sem,e2,e5,e18,e19,e20,e7,e8,e9,e10,Za gc,hu']
   refine Zk n' (fun v s=>∃tm h' l,s=⟨tm,h',[]⟩∧h1.Sub h'∧h1.next+2<h'.next∧h'.get h1.next=some (.bk [.ii (yk:Int),.ii (ye:Int),.ii y.sh])∧h'.get (h1.next+1)=some (.map (encP l))∧h'.get (h1.next+2)=some (.bk [.ii c.sl,.ii c.sh,.ii c.gl,.ii c.gh])∧MapUp a y c (c.sl+u) (c.gl+v) l∧
    tm.E 2=.ptr h.next 0∧tm.E 5=.ptr (h.next+2) 0∧tm.E 18=.sl b o a.rds.length cc∧tm.E 19=.ii (a.rds.length:Int)∧tm.E 20=.ii (i:Int)∧tm.E 7=.ptr h1.next 0∧tm.E 8=.map (h1.next+1)∧tm.E 9=.ptr (h1.next+2) 0∧tm.E 10=.ii (c.sl+u)∧tm.E 11=.ii (c.gl+v)) ?_ ?_ (i:=0) (Nat.zero_le _)
    ⟨_,_,l,rfl,s1,nx',gr,gm,gc,by rw[show c.gl+((0:Nat):Int)=c.gl by simp];exact mo,yad,yam,yal,yav,yax,yak,yag,yat,yar,(by rw[show c.gl+((0:Nat):Int)=c.gl by simp];exact yac)⟩
   ·rintro v s hv ⟨tm,h',l,rfl,s1,nx',gr,gm,gc,mo,e2,e5,e18,e19,e20,e7,e8,e9,e10,e11⟩
    have hv':c.gl+(v:Int)≤c.gh:=by omega
    have ga':=s1.get ga1
    obtain⟨S,hS⟩:∃S,c.sl+(u:Int)=S:=⟨_,rfl⟩
    obtain⟨T,hT⟩:∃T,c.gl+(v:Int)=T:=⟨_,rfl⟩
    rw[hS] at e10 mo
    rw[hT] at e11 mo hv'
    have hri:Wy S T:=⟨by omega,by omega,by omega,by omega⟩
    have sX:=(H.Sub.refl s1.wf).add (.bk [.ii S,.ii T])
    have gX:(h'.add (.bk [.ii S,.ii T])).get h'.next=some (.bk [.ii S,.ii T]):=Zc rfl
    have nX:=H.next_add h' (.bk [.ii S,.ii T])
    obtain⟨hX,hhX⟩:∃hX,h'.add (.bk [.ii S,.ii T])=hX:=⟨_,rfl⟩
    rw[hhX] at sX gX nX
    have gaX:hX.get h.next=some (.bk [.ii (mn:Int),.ii a.evs,.sl b2 o2 a.cks.length cc2,.sl b o a.rds.length cc,G]):=by rw[←hmn];exact sX.get ga'
    simp(disch:=omega)only[go_sem,e2,e5,e18,e19,e20,e7,e8,e9,e10,e11,Za gc,hv',hhX,Za gX,Za (sX.get gr),Za gaX]
    refine when_ev rfl rfl sX.wf hri y.sh (n:=mn) yab _ fun h3 s3=>?_
    have s13:=(s1.trans sX).trans s3
    have gm3:=s3.get (sX.get gm)
    have l3:=s3.next
    have hmu:e_mus h3 2 (.map (h1.next+1)) (.agg [.ii S,.ii T]) (.agg [.ii (whn S T y.sh (mn+1)).1,.ii (whn S T y.sh (mn+1)).2])=some (.und,h3.set (h1.next+1) (.map (encP (putP (S,T) (spV (whn S T y.sh (mn+1))) l)))):=by
     rw[e_mus_map,gm3];exact muPC_map l h3 (h1.next+1) (S,T) _
    have mo':=mo.step
    rw[show a.mins.toNat=mn by omega] at mo'
    have w1:wr .i64 (T+1)=T+1:=Zo yab yab
    have hT1:c.gl+((v+1:Nat):Int)=T+1:=by omega
    simp(disch:=omega)only[go_sem,e2,e5,e18,e19,e20,e7,e8,e9,e10,e11,hmu,Za gX,Za (sX.get gr),Za gaX,Za (s3.get gX),Za (s3.get (sX.get gr)),Za (s3.get gaX),w1]
    refine⟨_,_,_,rfl,s13.set yab yab hw1 _,by rw[H.next_set];omega,by rw[get_set_other yab];exact s3.get (sX.get gr),get_set_same rfl,by rw[get_set_other yab];exact s3.get (sX.get gc),by rw[hS,hT1];exact mo',yad,yam,yal,yav,yax,yak,yag,yat,by rw[hS];exact yar,by rw[hT1];exact yac⟩
   ·rintro s ⟨tm,h',l,rfl,s1,nx',gr,gm,gc,mo,e2,e5,e18,e19,e20,e7,e8,e9,e10,e11⟩
    have hv':¬c.gl+(n':Int)≤c.gh:=by omega
    have w1:wr .i64 (c.sl+(u:Int)+1)=c.sl+((u+1:Nat):Int):=by rw[Zo yab yab];omega
    simp(disch:=omega)only[go_sem,e2,e5,e18,e19,e20,e7,e8,e9,e10,e11,Za gc,hv',w1]
    have mo':=mo.row yab
    rw[show c.sl+(u:Int)+1=c.sl+((u+1:Nat):Int) by omega] at mo'
    exact⟨_,_,l,rfl,s1,nx',gr,gm,gc,mo',yad,yam,yal,yav,yax,yak,yag,yat,yac⟩
  ·rintro s ⟨tm,h',l,rfl,s1,nx',gr,gm,gc,mo,e2,e5,e18,e19,e20,e7,e8,e9,e10⟩
   have hu':¬c.sl+(n:Int)≤c.sh:=by omega
   have k1:=k.mono s1
   have gd1:=k1.gd
   have nx1:=k1.nx
   have hw':=s1.wf
   have sY:=(H.Sub.refl hw').add (.bk [V.map (h1.next+1)])
   have hy1:Zg (h'.add (.bk [V.map (h1.next+1)])) (.sl h'.next 0 1 (.fix 1)) 1 [[V.map (h1.next+1)]]:=Zg.new _ rfl rfl rfl yao yao
   simp(disch:=omega)only[go_sem,e2,e5,e18,e19,e20,e7,e8,e9,e10,Za gc,hu',Za gd1]
   refine((k1.w).mono sY).app1 (by_:=8) (r:=[V.map (h1.next+1)]) hw rfl yab hy1 rfl (by have:=r.lens;simp only[List.length_map,k.len];omega) (by have:=r.lens;simp only[List.length_map,k.len];omega) fun h4 o4 kp n4=>?_
   have nW:=k1.w.ne gd1
   have nW':¬Zq W (h.next+2):=nW
   have gd4:=kp.2 _ _ (sY.get gd1) nW'
   have ga4:=kp.2 _ _ (sY.get k1.ga) (k1.w.ne k1.ga)
   have nmap:∀{b:Nat} {l:List (V × V)},h'.get b=some (.map l)→¬Zq W b:=fun hb hbl=>by
    have:=(k1.w.blk hbl).2.2;rw[hb] at this;cases this
   have hY:=sY.next
   simp only[H.next_add] at hY n4
   simp(disch:=omega)only[go_sem,e2,e5,e18,e19,e20,gd4,Zj,one_sl,oC,oR,oG,hf]
   have hmap:ms.map (fun b=>[V.map b])++[[V.map (h1.next+1)]]=(ms++[h1.next+1]).map fun b=>[V.map b]:=by simp
   rw[hmap] at o4
   have sF:h.Sub (h4.set (h.next+2) (.bk [.ii a.mins,.ii a.evs,.sl b2 o2 a.cks.length cc2,.sl b o a.rds.length cc,G,f,.sl (h'.add (.bk [V.map (h1.next+1)])).next 0 ((ms.map fun b=>[V.map b]).length+1) (.slk 0 0)])):=o4.1.set yab yab hw _
   have hne:=o4.ne gd4
   have old:∀{z:Nat} {l:List (V × V)},h'.get z=some (.map l)→(h4.set (h.next+2) (.bk [.ii a.mins,.ii a.evs,.sl b2 o2 a.cks.length cc2,.sl b o a.rds.length cc,G,f,.sl (h'.add (.bk [V.map (h1.next+1)])).next 0 ((ms.map fun b=>[V.map b]).length+1) (.slk 0 0)])).get z=some (.map l):=fun{z l} hb=>by
    have hb4:=kp.2 _ _ (sY.get hb) (nmap hb)
    have:z≠h.next+2:=fun e=>by rw[e,gd4] at hb4;cases hb4
    rw[get_set_other this];exact hb4
   rw[H.next_add] at sF old o4 hne
   refine⟨_,_,_,ms++[h1.next+1],rfl,⟨sF,by rw[H.next_set];omega,by rw[get_set_other yab];exact ga4,get_set_same rfl,o4.keep (Zh.set _ _ _) sF (fun b hb e=>hne (e▸hb)),by simp[k.len],fun j hj hji=>?_⟩,yad,yam,yal,yav,yac⟩
   rcases Nat.lt_or_ge j i with hj2|hj2
   ·obtain⟨bb,l0,e1',m1',mo1⟩:=k1.maps j hj hj2
    exact⟨bb,l0,by rw[List.getElem?_append_left (by rw[k.len];exact hj2)];exact e1',old m1',mo1⟩
   ·have:j=i:=by omega
    subst this
    refine⟨h1.next+1,l,by rw[List.getElem?_append_right (by rw[k.len];exact Nat.le_refl _),k.len];simp,old gm,?_⟩
    rw[hy]
    intro c' hc' s g h1' h2' h3' h4'
    rw[ek,Int.toNat_natCast,hck] at hc'
    cases hc'
    exact mo s g h1' h2' h3' h4' (.inl yab)
 ·rintro s ⟨tm,h1,W,ms,rfl,k,e2,e5,e18,e19,e20⟩
  simp(disch:=omega)only[go_sem,e2,e5,e18,e19,e20,Int.lt_irrefl]
  exact q (h.next+2) W ms _ k.sub yab ⟨k.gd,x.mono k.sub,k.w.sl (by rw[List.length_map,k.len];omega),k.len,fun i hi=>k.maps i hi hi⟩
end Go.Ab.Tryz
namespace Go.Ab
theorem Ut {h:H}{x:V}{sz by_:Nat}{rows:List (List V)}{Q:V→H→Prop}(hw:h.wf)(hx:Zg h x sz rows)(hl:rows.length*by_≤1000000000)(hl2:rows.length≤1000000000)(q:∀v h',ZW h h' v sz rows→Q v h'):
  P2 (Z2 (h.add (.bk [])) sz by_ (.sl h.next 0 0 (.fix 0)) x) Q:=by
 have s1:h.Sub (h.add (.bk [])):=(H.Sub.refl hw).add _
 have hx1:=(hx.mono s1).elems
 rw[W6,hx1.1,hx1.2]
 simp only[WA]
 cases hn:rows.length with
 |zero=>
  have e:rows=[]:=List.length_eq_zero_iff.1 hn
  rw[Ur]
  have:Nat.ble 0 0=true:=rfl
  rw[this,YP,YE]
  exact q _ _ (by rw[e];exact⟨s1,by simp,.inr (.inr ⟨h.next,0,[],rfl,Nat.le_refl _,by rw[H.next_add];omega,Zc rfl,by simp,Nat.le_refl _⟩)⟩)
 |succ k=>
  rw[W5 yab (elems_0 _ _ _ _ _) (by rw[hn] at hl;simp only[Nat.zero_add];omega) yab,VS,YE]
  exact q _ _ ⟨s1.add _,hx.1,.inr (.inl ⟨(h.add (.bk [])).next,by rw[hn,Nat.zero_add],by rw[H.next_add];omega,by simp only[H.next_add];omega,by rw[Zc rfl];rfl⟩)⟩
theorem range_cut {k n:Nat}(h:k<n):∃r,List.range n=List.range k++k::r:=by
 refine⟨(List.range n).drop (k+1),?_⟩
 have h1:(List.range n).take k=List.range k:=by rw[List.take_range,Nat.min_eq_left yab]
 have h2:=(List.take_append_drop k (List.range n)).symm
 rw[List.drop_eq_getElem_cons (by simpa using h),List.getElem_range,h1] at h2
 exact h2
end Go.Ab
namespace Go.Ab.Tryz
open Go.Proofs
abbrev ZZ:=List (Int × Int)
def XP (x:Int × Int):List V:=[.ii x.1,.ii x.2]
theorem cloneRun_ev {h:H}{x:V}{rows:List (List V)}(hw:h.wf)(hx:Zg h x 2 rows)(hl:rows.length≤1000000)(Q:V→H→Prop)(q:∀v h',ZW h h' v 2 rows→Q v h'):Ev fnG Zi (.fn 130 [] []) [x] h Q:=by
 refine Ze (fd:=c130) rfl rfl rfl ?_
 rcases hx.2.2 with⟨rfl,e⟩|⟨b,o,c,cs,rfl,_⟩
 ·simp(disch:=omega)only[c130,go_sem]
  exact q _ _ (by rw[e];exact(Zx.nil (H.Sub.refl hw) 2).c)
 ·simp(disch:=omega)only[c130,go_sem]
  refine Ut hw hx yab yab fun v h' ov=>?_
  simp(disch:=omega)only[go_sem]
  exact q _ _ ov
def Ck.ns (c:Ck):Nat:=(c.sh-c.sl+1).toNat
def Ck.ng (c:Ck):Nat:=(c.gh-c.gl+1).toNat
def YH (a:At)(cnt:Nat→Bool):Nat→ZZ→List Int→List (ZZ × List Int)
 |0,runs,L=>[(runs,L)]
 |n+1,runs,L=>match a.cks[runs.length]? with
  |none=>[]
  |some c=>(List.range c.ns).flatMap fun(u:Nat)=>(List.range c.ng).flatMap fun(v:Nat)=>
   if(Yp a cnt runs.length (c.sl+u,c.gl+v) L).2=true then YH a cnt n (runs++[(c.sl+u,c.gl+v)]) (Yp a cnt runs.length (c.sl+u,c.gl+v) L).1 else[]
def Zw (a:At)(cnt:Nat→Bool):List (ZZ × List Int):=if(YK (Xy a)).2=true then YH a cnt a.cks.length [] (YK (Xy a)).1 else[]
def oneL (a:At)(cnt:Nat→Bool)(n:Nat)(runs:ZZ)(L:List Int)(c:Ck)(u v:Nat):List (ZZ × List Int):=
 if(Yp a cnt runs.length (c.sl+u,c.gl+v) L).2=true then YH a cnt n (runs++[(c.sl+u,c.gl+v)]) (Yp a cnt runs.length (c.sl+u,c.gl+v) L).1 else[]
def VM (a:At)(cnt:Nat→Bool)(n:Nat)(runs:ZZ)(L:List Int)(c:Ck)(u v:Nat):List (ZZ × List Int):=
 (List.range u).flatMap (fun u=>(List.range c.ng).flatMap fun v=>oneL a cnt n runs L c u v)++(List.range v).flatMap fun v=>oneL a cnt n runs L c u v
theorem preL_step (a:At)(cnt:Nat→Bool)(n:Nat)(runs:ZZ)(L:List Int)(c:Ck)(u v:Nat):VM a cnt n runs L c u (v+1)=VM a cnt n runs L c u v++oneL a cnt n runs L c u v:=by
 simp only[VM,List.range_succ,List.flatMap_append,List.append_assoc,List.flatMap_cons,List.flatMap_nil,List.append_nil]
theorem preL_row (a:At)(cnt:Nat→Bool)(n:Nat)(runs:ZZ)(L:List Int)(c:Ck)(u:Nat):VM a cnt n runs L c (u+1) 0=VM a cnt n runs L c u c.ng:=by
 simp only[VM,List.range_succ,List.flatMap_append,List.flatMap_cons,List.flatMap_nil,List.append_nil,List.range_zero]
theorem moreL_pre {a:At}{cnt:Nat→Bool}{n:Nat}{runs:ZZ}{L:List Int}{c:Ck}(hc:a.cks[runs.length]? =some c):YH a cnt (n+1) runs L=VM a cnt n runs L c c.ns 0:=by
 simp only[YH,hc,VM,oneL,List.range_zero,List.flatMap_nil,List.append_nil]
theorem preL_in (a:At)(cnt:Nat→Bool)(n:Nat)(runs:ZZ)(L:List Int)(c:Ck){u v:Nat}(hu:u<c.ns)(hv:v<c.ng):∃r,VM a cnt n runs L c c.ns 0=VM a cnt n runs L c u v++(oneL a cnt n runs L c u v++r):=by
 obtain⟨r1,e1⟩:=range_cut hu
 obtain⟨r2,e2⟩:=range_cut hv
 refine⟨(r2.flatMap fun v=>oneL a cnt n runs L c u v)++r1.flatMap (fun u=>(List.range c.ng).flatMap fun v=>oneL a cnt n runs L c u v),?_⟩
 have e3:(List.range c.ng).flatMap (fun v=>oneL a cnt n runs L c u v)=(List.range v).flatMap (fun v=>oneL a cnt n runs L c u v)++(oneL a cnt n runs L c u v++r2.flatMap fun v=>oneL a cnt n runs L c u v):=by
  rw[e2,List.flatMap_append,List.flatMap_cons]
 unfold VM
 rw[e1,List.flatMap_append,List.flatMap_cons,e3]
 simp only[List.range_zero,List.flatMap_nil,List.append_nil,List.append_assoc]
end Go.Ab.Tryz
namespace Go.Ab.Tryz
open Go.Proofs
def RdOk (a:At)(cnt:Nat→Bool)(k:Int)(x:Int × Int)(y:Nat→Int):Prop:=
 ∀(j:Nat) (r:Rd),a.rds[j]? =some r→r.ck=k→cnt j=true→(whn x.1 x.2 r.sh (a.mins.toNat+1)).1≤y r.ev.toNat-y 4∧y r.ev.toNat-y 4≤(whn x.1 x.2 r.sh (a.mins.toNat+1)).2
theorem Sol_rdL {L:List Int}(hL:L.length=25){e:Nat}(he:e<5){s:Int × Int}{y:Nat→Int}:Sol y (rdL L e s)↔Sol y L∧s.1≤y e-y 4∧y e-y 4≤s.2:=by
 rw[rdL,Sol_low (by rw[YQ];exact hL) he yah,Sol_low hL yah he]
 constructor
 ·rintro⟨⟨h1,h2⟩,h3⟩;exact⟨h1,by omega,by omega⟩
 ·rintro⟨h1,h2,h3⟩;exact⟨⟨h1,by omega⟩,by omega⟩
theorem Sol_gapL {a:At}(r:Zl a){L:List Int}(hL:L.length=25){g:Gp}(hg:g∈a.gps){y:Nat→Int}:Sol y (gapL L g)↔Sol y L∧g.lo≤y g.to.toNat-y g.fr.toNat∧y g.to.toNat-y g.fr.toNat≤g.hi:=by
 obtain⟨f,t,e1,e2,hf,ht,_⟩:=r.gap hg
 rw[gapL,e1,e2,Int.toNat_natCast,Int.toNat_natCast,Sol_low (by rw[YQ];exact hL) yab yab,Sol_low hL yab yab]
 constructor
 ·rintro⟨⟨h1,h2⟩,h3⟩;exact⟨h1,by omega,by omega⟩
 ·rintro⟨h1,h2,h3⟩;exact⟨⟨h1,by omega⟩,by omega⟩
theorem Sol_gaps {a:At}(r:Zl a){y:Nat→Int}:∀{l:List Gp} {L:List Int},(∀g∈l,g∈a.gps)→L.length=25→(Sol y (l.foldl gapL L)↔Sol y L∧∀g∈l,g.lo≤y g.to.toNat-y g.fr.toNat∧y g.to.toNat-y g.fr.toNat≤g.hi)
 |[],L,_,_=>⟨fun h=>⟨h,fun g hg=>absurd hg List.not_mem_nil⟩,fun h=>h.1⟩
 |g::l,L,hl,hL=>by
  have hg:=hl g (List.mem_cons_self ..)
  rw[List.foldl_cons,Sol_gaps r (fun x hx=>hl x (List.mem_cons_of_mem _ hx)) (by rw[gapL,YQ,YQ];exact hL),Sol_gapL r hL hg,List.forall_mem_cons,and_assoc]
theorem Sol_free {a:At}(r:Zl a){y:Nat→Int}(hy:y 4=0):Sol y (Xy a)↔(∀e,e<4→0≤y e∧y e≤a.mins)∧∀g∈a.gps,g.lo≤y g.to.toNat-y g.fr.toNat∧y g.to.toNat-y g.fr.toNat≤g.hi:=by
 rw[Xy,Sol_gaps r (L:=bsL a.mins) (fun g hg=>hg) (Xd _ _ _),Sol_bs hy]
 constructor
 ·rintro⟨⟨h1,_,_⟩,h2⟩;exact⟨h1,h2⟩
 ·rintro⟨h1,h2⟩;exact⟨⟨h1,fun a b ha hb _=>by have:=h1 a ha;have:=h1 b hb;omega,.inr trivial⟩,h2⟩
theorem readsL_spec {a:At}(r:Zl a){cnt:Nat→Bool}{k:Int}{x:Int × Int}{y:Nat→Int}:∀{l:List Rd} {i:Nat} {L:List Int},(∀r∈l,r∈a.rds)→L.length=25→
  ((YG a cnt k x l i L).2=true→(Sol y (YG a cnt k x l i L).1↔Sol y L∧∀(j:Nat) (r:Rd),l[j]? =some r→r.ck=k→cnt (i+j)=true→(whn x.1 x.2 r.sh (a.mins.toNat+1)).1≤y r.ev.toNat-y 4∧y r.ev.toNat-y 4≤(whn x.1 x.2 r.sh (a.mins.toNat+1)).2))∧
  ((YG a cnt k x l i L).2=false→¬∀(j:Nat) (r:Rd),l[j]? =some r→r.ck=k→cnt (i+j)=true→(whn x.1 x.2 r.sh (a.mins.toNat+1)).1≤y r.ev.toNat-y 4∧y r.ev.toNat-y 4≤(whn x.1 x.2 r.sh (a.mins.toNat+1)).2)
 |[],i,L,_,_=>⟨fun _=>⟨fun h=>⟨h,fun j r hr=>by simp at hr⟩,fun h=>h.1⟩,fun h=>by cases h⟩
 |rd::l,i,L,hl,hL=>by
  have hrd:=hl rd (List.mem_cons_self ..)
  obtain⟨yk,ye,ek,ee,hyk,hye,_⟩:=r.rd hrd
  have hl':=fun x hx=>hl x (List.mem_cons_of_mem _ hx)
  have sh:∀{X:Rd→Prop},(∀(j:Nat) (r:Rd),(rd::l)[j]? =some r→r.ck=k→cnt (i+j)=true→X r)↔(rd.ck=k→cnt i=true→X rd)∧∀(j:Nat) (r:Rd),l[j]? =some r→r.ck=k→cnt (i+1+j)=true→X r:=fun{X}=>by
   constructor
   ·intro h;exact⟨h 0 rd rfl,fun j r hr h1 h2=>h (j+1) r hr h1 (by rw[show i+(j+1)=i+1+j by omega];exact h2)⟩
   ·rintro⟨h1,h2⟩ j r hr h3 h4
    cases j with
    |zero=>cases hr;exact h1 h3 h4
    |succ j=>exact h2 j r hr h3 (by rw[show i+1+j=i+(j+1) by omega];exact h4)
  rw[sh (X:=fun r=>(whn x.1 x.2 r.sh (a.mins.toNat+1)).1≤y r.ev.toNat-y 4∧y r.ev.toNat-y 4≤(whn x.1 x.2 r.sh (a.mins.toNat+1)).2)]
  by_cases h1:rd.ck≠k∨cnt i=false
  ·rw[YG,if_pos h1]
   have ih:=readsL_spec r (cnt:=cnt) (k:=k) (x:=x) (y:=y) (l:=l) (i:=i+1) (L:=L) hl' hL
   have hv:∀{P:Prop},rd.ck=k→cnt i=true→P:=fun{P} a b=>by
    rcases h1 with h1|h1
    ·exact absurd a h1
    ·rw[b] at h1;cases h1
   refine⟨fun ht=>(ih.1 ht).trans ⟨fun h=>⟨h.1,fun a b=>hv a b,h.2⟩,fun h=>⟨h.1,h.2.2⟩⟩,fun ht h=>ih.2 ht h.2⟩
  ·have h1':rd.ck=k∧cnt i=true:=by
    rcases Classical.em (rd.ck=k) with h|h
    ·refine⟨h,?_⟩
     cases hc:cnt i with
     |true=>rfl
     |false=>exact absurd (.inr hc) h1
    ·exact absurd (.inl h) h1
   rw[YG,if_neg h1]
   by_cases h2:(whn x.1 x.2 rd.sh (a.mins.toNat+1)).2<(whn x.1 x.2 rd.sh (a.mins.toNat+1)).1
   ·rw[if_pos h2]
    exact⟨fun h=>by(cases h),fun _ h=>by have:=h.1 h1'.1 h1'.2;omega⟩
   ·rw[if_neg h2]
    have hre:rd.ev.toNat<5:=by omega
    have ih:=readsL_spec r (cnt:=cnt) (k:=k) (x:=x) (y:=y) (l:=l) (i:=i+1) (L:=rdL L rd.ev.toNat (whn x.1 x.2 rd.sh (a.mins.toNat+1))) hl' (by rw[rdL,YQ,YQ];exact hL)
    refine⟨fun ht=>(ih.1 ht).trans ?_,fun ht h=>ih.2 ht h.2⟩
    rw[Sol_rdL hL hre]
    exact⟨fun h=>⟨h.1.1,fun _ _=>h.1.2,h.2⟩,fun h=>⟨⟨h.1,h.2.1 h1'.1 h1'.2⟩,h.2.2⟩⟩
theorem readL_spec {a:At}(r:Zl a){cnt:Nat→Bool}{k:Int}{x:Int × Int}{L:List Int}(hL:In5 240 L):
  ((Yp a cnt k x L).2=true→Tri (Yp a cnt k x L).1∧In5 240 (Yp a cnt k x L).1∧∀y,Sol y (Yp a cnt k x L).1↔Sol y L∧RdOk a cnt k x y)∧
  ((Yp a cnt k x L).2=false→∀y,Sol y L→¬RdOk a cnt k x y):=by
 have hin:=WH (cnt:=cnt) (k:=k) (x:=x) (i:=0) r (fun y (hy:y∈a.rds)=>hy) hL
 have hs:=fun y=>readsL_spec r (cnt:=cnt) (k:=k) (x:=x) (y:=y) (l:=a.rds) (i:=0) (L:=L) (fun r hr=>hr) hL.len
 simp only[Nat.zero_add] at hs
 unfold Yp
 by_cases h1:(YG a cnt k x a.rds 0 L).2=true
 ·rw[if_pos h1]
  have hc:=XB yah yah hin
  refine⟨fun ht=>?_,fun ht y hy hr=>?_⟩
  ·obtain⟨c1,c2,_,c4⟩:=hc.1 ht
   exact⟨c1,c2,fun y=>(c4 y).symm.trans ((hs y).1 h1)⟩
  ·exact hc.2 ht y (((hs y).1 h1).2 ⟨hy,hr⟩)
 ·rw[if_neg h1]
  exact⟨fun h=>by(cases h),fun _ y _ hr=>(hs y).2 (by simpa using h1) hr⟩
end Go.Ab.Tryz
namespace Go.Ab
theorem over_iv {L:List Int}(hL:L.length=25):over (L.map iv) [V.ii 0,.ii 0,.ii 0,.ii 0,.ii 0,.ii 0,.ii 0,.ii 0,.ii 0,.ii 0,.ii 0,.ii 0,.ii 0,.ii 0,.ii 0,.ii 0,.ii 0,.ii 0,.ii 0,.ii 0,.ii 0,.ii 0,.ii 0,.ii 0,.ii 0]=some (L.map iv):=by
 refine over_eq.2 ⟨?_,by rw[List.length_map,hL];exact Nat.le_refl _⟩
 rw[List.drop_eq_nil_of_le (by rw[List.length_map,hL];exact Nat.le_refl _),List.append_nil]
end Go.Ab
namespace Go.Ab.Tryz
open Go.Proofs
abbrev fdV (R:V) (L:List Int):V:=.agg (R::L.map iv)
def Frm (K:H→Nat→Prop)(x z:H):Prop:=Zh (K x) x z∧∀b,K z b→K x b∨x.next≤b
theorem Frm.trans {K:H→Nat→Prop}{x z w:H}(hx:x.wf)(a:Frm K x z)(b:Frm K z w):Frm K x w:=
 ⟨⟨Nat.le_trans a.1.1 b.1.1,fun c y e n=>b.1.2 c y (a.1.2 c y e n) fun k=>(a.2 c k).elim n fun l=>absurd (hx c y e) yab⟩,fun c k=>(b.2 c k).elim (a.2 c) fun l=>.inr (Nat.le_trans a.1.1 l)⟩
structure Taker (h0:H)(y:V)(all:List (ZZ × List Int))(J:Nat→H→Prop)(S:H→Prop)(K:H→Nat→Prop)(n0:Nat):Prop where
 base:∀p x,J p x→h0.Sub x∧n0≤x.next
 more:∀p x x',J p x→x.Sub x'→J p x'
 kn:∀p x b,J p x→K x b→b<x.next
 km:∀p x x',J p x→x.Sub x'→∀b,K x' b→K x b
 step:∀p t,all[p]? =some t→∀x0 x R,J p x0→ZW x0 x R 2 (t.1.map XP)→Ev fnG Zi y [fdV R t.2] x fun u z=>((u=.bool true∧J (p+1) z)∨(u=.bool false∧S z))∧Frm K x z
theorem Taker.sub {h0:H}{y:V}{all:List (ZZ × List Int)}{J:Nat→H→Prop}{S:H→Prop}{K:H→Nat→Prop}{n0:Nat}(tk:Taker h0 y all J S K n0){p:Nat}{x x':H}(hJ:J p x)(s:x.Sub x'):Frm K x x':=⟨Zh.of s _,fun b hb=>.inl (tk.km _ _ _ hJ s b hb)⟩
theorem drop_at {α:Type}{l m r:List α}{p:Nat}(h:l.drop p=m++r){i:Nat}(hi:i<m.length):l[p+i]? =m[i]? :=by
 have:(l.drop p)[i]? =m[i]? :=by rw[h,List.getElem?_append_left hi]
 rwa[List.getElem?_drop] at this
theorem drop_add {α:Type}{l m r:List α}{p:Nat}(h:l.drop p=m++r):l.drop (p+m.length)=r:=by
 rw[←List.drop_drop,h,List.drop_left]
theorem readL_len {a:At}(r:Zl a){cnt:Nat→Bool}{k:Int}{x:Int × Int}{L:List Int}(hL:In5 240 L):(Yp a cnt k x L).1.length=25:=by
 have h:=WH (cnt:=cnt) (k:=k) (x:=x) (i:=0) r (fun y (hy:y∈a.rds)=>hy) hL
 unfold Yp
 split
 ·rw[clos_len];exact h.len
 ·exact h.len
theorem readL_in {a:At}(r:Zl a){cnt:Nat→Bool}{k:Int}{x:Int × Int}{L:List Int}(hL:In5 240 L)(ht:(Yp a cnt k x L).2=true):In5 240 (Yp a cnt k x L).1:=by
 have h:=WH (cnt:=cnt) (k:=k) (x:=x) (i:=0) r (fun y (hy:y∈a.rds)=>hy) hL
 unfold Yp at ht⊢
 split
 ·rename_i h1
  rw[if_pos h1] at ht
  exact((XB yah yah h).1 ht).2.1
 ·rename_i h1
  rw[if_neg h1] at ht;cases ht
structure ZI (b1 b2 b3 d:Nat)(y RR:V)(more:V)(rows:List (List V))(K:H→Nat→Prop)(J:Nat→H→Prop)(L:List Int)(c:Ck)(x:H)(p:Nat)(z:H):Prop where
 j:J p z
 k:Frm K x z
 m:∀b,b=b1∨b=b2∨b=b3∨b=x.next∨b=x.next+1∨Zq RR b→¬K z b∧b<z.next
 g1:z.get b1=some (.bk [.ptr d 0])
 g2:z.get b2=some (.bk [y])
 g3:z.get b3=some (.bk [more])
 gf:z.get x.next=some (.bk (L.map iv))
 gc:z.get (x.next+1)=some (.bk [.ii c.sl,.ii c.sh,.ii c.gl,.ii c.gh])
 r:Zg z RR 2 rows
 nx:x.next+1<z.next
set_option maxHeartbeats 16000000 in
theorem more_gen {h0:H}(hw0:h0.wf){d:Nat}{a:At}{C R G f W:V}{ms:List Nat}(dk:Dk h0 d a C R G f W ms)(r:Zl a){cnt:Nat→Bool}(hcnt:∀i,i<a.rds.length→YA h0 f [.ii (i:Int)] (.bool (cnt i)))
  {y:V} (hy:∃l,y=.yld l) {all:List (ZZ × List Int)} {J:Nat→H→Prop} {S:H→Prop} {K:H→Nat→Prop} {n0:Nat} (tk:Taker h0 y all J S K n0) {b1 b2 b3:Nat}:
  ∀(n:Nat) (runs:ZZ) (L:List Int) (p:Nat) (post:List (ZZ × List Int)) (x:H) (RR:V),runs.length+n=a.cks.length→In5 240 L→J p x→x.get b1=some (.bk [.ptr d 0])→x.get b2=some (.bk [y])→x.get b3=some (.bk [.fn 129 [] [.ptr b1 0,.ptr b2 0,.ptr b3 0]])→
   Zg x RR 2 (runs.map XP)→(∀b,b=b1∨b=b2∨b=b3∨Zq RR b→¬K x b∧b<x.next)→all.drop p=YH a cnt n runs L++post→
   Ev fnG Zi (.fn 129 [] [.ptr b1 0,.ptr b2 0,.ptr b3 0]) [RR,.agg (L.map iv)] x fun u z=>((u=.bool true∧J (p+(YH a cnt n runs L).length) z)∨(u=.bool false∧S z))∧Frm K x z:=by
 intro n
 induction n with
 |zero=>
  intro runs L p post x RR hn hL hJ g1 g2 g3 hR hRK hall
  refine Ev.gen fun Q q=>?_
  obtain⟨s0,n0x⟩:=tk.base _ _ hJ
  have dx:=dk.mono s0
  have lL:=hL.len
  have hlR:=hR.lenE
  have hlC:=dx.x.c.lenE
  have hwx:=s0.wf
  have hlen:((runs.length:Int)=(a.cks.length:Int)):=by omega
  have sA:=(H.Sub.refl hwx).add (.bk (L.map iv))
  have gA:(x.add (.bk (L.map iv))).get x.next=some (.bk (L.map iv)):=Zc rfl
  obtain⟨xA,hxA⟩:∃xA,x.add (.bk (L.map iv))=xA:=⟨_,rfl⟩
  have nA:=H.next_add x (.bk (L.map iv))
  rw[hxA] at sA gA nA
  have lb1:=hwx _ _ g1
  have lb2:=hwx _ _ g2
  have ld:=hwx _ _ dx.dk
  refine Ze (fd:=c129) rfl rfl rfl ?_
  simp(disch:=omega)only[c129,go_sem,hxA,hlR,hlC,Za (sA.get g1),Za (sA.get dx.dk),hlen,Za (sA.get g2)]
  refine cloneRun_ev sA.wf (hR.mono sA) (by have:=r.lens;rw[List.length_map];omega) _ fun v x2 ov=>?_
  have s2:=ov.1
  have gN:Y6 0 25 (L.map iv)=some (L.map iv):=by rw[←lL];exact XL _
  have lnL:Yt (L.map iv)=25:=by rw[Vp,lL]
  have vone:=ov.one
  have sx2:=sA.trans s2
  have hov:=over_iv lL
  have gA2:=s2.get gA
  have lA:=hwx
  obtain⟨l,rfl⟩:=hy
  simp(disch:=omega)only[go_sem,Za gA2,gN,lnL,hov,Za (sx2.get g2),vone,cells_one vone]
  refine(tk.step p (runs,L) ?_ xA x2 v (tk.more _ _ _ hJ sA) ov).mono fun u z hz=>?_
  ·have h1:=drop_at hall (i:=0) (by simp[YH])
   simpa[YH] using h1
  ·obtain⟨hz,hk⟩:=hz
   have e2:=hk.1.cells (Za (sx2.get g2)) (fun hb=>(hRK _ (.inr (.inl rfl))).1 (tk.km _ _ _ hJ sx2 _ hb))
   have eA:=hk.1.cells (Za gA2) (fun hb=>by have:=tk.kn _ _ _ hJ (tk.km _ _ _ hJ sx2 _ hb);omega)
   have hkx:Frm K x z:=(tk.sub hJ sx2).trans hwx hk
   rcases hz with⟨rfl,hz⟩|⟨rfl,hz⟩
   ·simp(disch:=omega)only[go_sem,Za gA,Za gA2,Za (sA.get g2),Za (sx2.get g2),gN,eA,e2]
    exact q _ _ ⟨.inl ⟨rfl,by simpa[YH] using hz⟩,hkx⟩
   ·simp(disch:=omega)only[go_sem,Za gA,Za gA2,Za (sA.get g2),Za (sx2.get g2),gN,eA,e2]
    exact q _ _ ⟨.inr ⟨rfl,hz⟩,hkx⟩
 |succ n ih=>
  intro runs L p post x RR hn hL hJ g1 g2 g3 hR hRK hall
  refine Ev.gen fun Q q=>?_
  obtain⟨s0,n0x⟩:=tk.base _ _ hJ
  have dx:=dk.mono s0
  have lL:=hL.len
  have hlR:=hR.lenE
  have hlC:=dx.x.c.lenE
  have hwx:=s0.wf
  have rl:=r.lens
  have hlen:¬((runs.length:Int)=(a.cks.length:Int)):=by omega
  have hlt:runs.length<a.cks.length:=by omega
  obtain⟨bC,oC,cC,csC,eC,hcC,hqC,hgC,_,_⟩:=dx.x.c.at hlt
  obtain⟨c,hcy⟩:∃c,a.cks[runs.length]=c:=⟨_,rfl⟩
  have hck:a.cks[runs.length]? =some c:=by rw[List.getElem?_eq_getElem hlt,hcy]
  have hcm:c∈a.cks:=List.mem_of_getElem? hck
  have hcb:=r.cb c hcm
  have hco:=r.co c hcm
  simp only[Ck.bd,within,Bool.and_eq_true,Zs] at hcb
  simp only[Ck.ord,Bool.and_eq_true,decide_eq_true_eq] at hco
  rw[hcy] at hgC
  simp only[Z9] at hgC
  rw[moreL_pre hck] at hall q
  have lb1:=hwx _ _ g1
  have lb2:=hwx _ _ g2
  have lb3:=hwx _ _ g3
  have ld:=hwx _ _ dx.dk
  have lbC:bC<x.next:=(H.cells_eq hcC).elim fun kd e=>hwx _ _ e
  obtain⟨xA,hxA⟩:∃xA,(x.add (.bk (L.map iv))).add (.bk [.ii c.sl,.ii c.sh,.ii c.gl,.ii c.gh])=xA:=⟨_,rfl⟩
  have sA:x.Sub xA:=by rw[←hxA];exact yaa
  have nxA:xA.next=x.next+2:=by rw[←hxA];simp only[H.next_add]
  have gf:xA.get x.next=some (.bk (L.map iv)):=by rw[←hxA];simp -implicitDefEqProofs(disch:=first|omega|simp only[nZ]<;>omega|fail)only[go_sem]
  have gc:xA.get (x.next+1)=some (.bk [.ii c.sl,.ii c.sh,.ii c.gl,.ii c.gh]):=by rw[←hxA];simp -implicitDefEqProofs(disch:=first|omega|simp only[nZ]<;>omega|fail)only[go_sem]
  have gN:Y6 0 25 (L.map iv)=some (L.map iv):=by rw[←lL];exact XL _
  have hn1:(c.ns:Int)=c.sh-c.sl+1:=by unfold Ck.ns;omega
  have hn2:(c.ng:Int)=c.gh-c.gl+1:=by unfold Ck.ng;omega
  subst eC
  refine Ze (fd:=c129) rfl rfl rfl ?_
  simp -implicitDefEqProofs(disch:=first|omega|simp only[nZ]<;>omega|fail)only[c129,go_sem,hlR,hlC,Za g1,Za dx.dk,hlen,hqC (Zb runs.length),hcC,hgC]
  rw[hxA]
  skip
  obtain⟨Z,hZ,lZ⟩:∃Z:List Int,Z.map iv=[V.ii 0,.ii 0,.ii 0,.ii 0,.ii 0,.ii 0,.ii 0,.ii 0,.ii 0,.ii 0,.ii 0,.ii 0,.ii 0,.ii 0,.ii 0,.ii 0,.ii 0,.ii 0,.ii 0,.ii 0,.ii 0,.ii 0,.ii 0,.ii 0,.ii 0]∧Z.length=25:=⟨List.replicate 25 0,rfl,rfl⟩
  rw[←hZ]
  obtain⟨M,hM⟩:∃M:V,V.fn 129 [] [.ptr b1 0,.ptr b2 0,.ptr b3 0]=M:=⟨_,rfl⟩
  have z0:ZI b1 b2 b3 d y RR M (runs.map XP) K J L c x (p+(VM a cnt n runs L c 0 0).length) xA:=
   ⟨by simpa[VM] using tk.more _ _ _ hJ sA,tk.sub hJ sA,fun b hb=>by
    have hk:K xA b→K x b∧b<x.next:=fun hk=>⟨tk.km _ _ _ hJ sA _ hk,tk.kn _ _ _ hJ (tk.km _ _ _ hJ sA _ hk)⟩
    rcases hb with hb|hb|hb|hb|hb|hb
    ·exact⟨fun q=>(hRK b (.inl hb)).1 (hk q).1,by omega⟩
    ·exact⟨fun q=>(hRK b (.inr (.inl hb))).1 (hk q).1,by omega⟩
    ·exact⟨fun q=>(hRK b (.inr (.inr (.inl hb)))).1 (hk q).1,by omega⟩
    ·exact⟨fun q=>by have:=(hk q).2;omega,by omega⟩
    ·exact⟨fun q=>by have:=(hk q).2;omega,by omega⟩
    ·have:=hRK b (.inr (.inr (.inr hb)))
     exact⟨fun q=>this.1 (hk q).1,by omega⟩,sA.get g1,sA.get g2,by rw[←hM];exact sA.get g3,gf,gc,hR.mono sA,by omega⟩
  refine Zk c.ns (fun u s=>∃tm z,s=⟨tm,z,[]⟩∧ZI b1 b2 b3 d y RR M (runs.map XP) K J L c x (p+(VM a cnt n runs L c u 0).length) z∧
   tm.E 0=RR∧tm.E 2=.ptr b1 0∧tm.E 4=.ptr b3 0∧tm.E 6=.ptr x.next 0∧tm.E 8=.ptr (x.next+1) 0∧tm.E 9=.ii (c.sl+u)) ?_ ?_ (i:=0) (Nat.zero_le _)
   ⟨_,_,rfl,z0,yac,yac,yac,yac,yac,(by rw[show c.sl+((0:Nat):Int)=c.sl by simp];exact yac)⟩
  ·rintro u s hu ⟨tm,z,rfl,zi,e0,e2,e4,e6,e8,e9⟩
   have hu':c.sl+(u:Int)≤c.sh:=by omega
   simp(disch:=omega)only[go_sem,e0,e2,e4,e6,e8,e9,Za zi.gc,hu']
   refine Zk c.ng (fun v s=>∃tm z,s=⟨tm,z,[]⟩∧ZI b1 b2 b3 d y RR M (runs.map XP) K J L c x (p+(VM a cnt n runs L c u v).length) z∧
    tm.E 0=RR∧tm.E 2=.ptr b1 0∧tm.E 4=.ptr b3 0∧tm.E 6=.ptr x.next 0∧tm.E 8=.ptr (x.next+1) 0∧tm.E 9=.ii (c.sl+u)∧tm.E 10=.ii (c.gl+v)) ?_ ?_ (i:=0) (Nat.zero_le _)
    ⟨_,_,rfl,zi,yae,yad,yas,yai,yag,yat,(by rw[show c.gl+((0:Nat):Int)=c.gl by simp];exact yac)⟩
   ·rintro v s hv ⟨tm,z,rfl,zi,e0,e2,e4,e6,e8,e9,e10⟩
    have hv':c.gl+(v:Int)≤c.gh:=by omega
    obtain⟨sz0,nz0⟩:=tk.base _ _ zi.j
    have hwz:=sz0.wf
    have nz:=zi.nx
    have hRz:=zi.r.lenE
    have w1:wr .i64 (c.gl+(v:Int)+1)=c.gl+((v+1:Nat):Int):=by rw[Zo yab yab];omega
    obtain⟨rest,hrest⟩:=preL_in a cnt n runs L c hu hv
    have hdrop:all.drop (p+(VM a cnt n runs L c u v).length)=oneL a cnt n runs L c u v++(rest++post):=by
     have h1:all.drop p=VM a cnt n runs L c u v++(oneL a cnt n runs L c u v++(rest++post)):=by rw[hall,hrest];simp only[List.append_assoc]
     exact drop_add h1
    have hstep:p+(VM a cnt n runs L c u (v+1)).length=p+(VM a cnt n runs L c u v).length+(oneL a cnt n runs L c u v).length:=by rw[preL_step,List.length_append,Nat.add_assoc]
    have hrun:Wn a runs.length (c.sl+(u:Int),c.gl+(v:Int)):=Wn.mk' hck yab hu' yab hv'
    obtain⟨S1,hS1⟩:∃S1,c.sl+(u:Int)=S1:=⟨_,rfl⟩
    obtain⟨T1,hT1⟩:∃T1,c.gl+(v:Int)=T1:=⟨_,rfl⟩
    rw[hS1] at e9 hrun
    rw[hT1] at e10 hv' hrun w1
    have sz1:=(H.Sub.refl hwz).add (.bk [.ii S1,.ii T1])
    have gz1:(z.add (.bk [.ii S1,.ii T1])).get z.next=some (.bk [.ii S1,.ii T1]):=Zc rfl
    have nz1:=H.next_add z (.bk [.ii S1,.ii T1])
    obtain⟨z1,hz1⟩:∃z1,z.add (.bk [.ii S1,.ii T1])=z1:=⟨_,rfl⟩
    rw[hz1] at sz1 gz1 nz1
    have dz1:=dk.mono (sz0.trans sz1)
    simp(disch:=omega)only[go_sem,e0,e2,e4,e6,e8,e9,e10,Za zi.gc,hv',hz1,Za (sz1.get zi.g1),Za (sz1.get zi.gf),gN,hRz,Za gz1]
    refine read_ev (x:=(S1,T1)) sz1.wf dz1 r (fun i hi=>(hcnt i hi).mono (sz0.trans sz1)) hL hrun _ fun z2 s2=>?_
    obtain⟨ok,hok⟩:∃ok,(Yp a cnt runs.length (S1,T1) L).2=ok:=⟨_,rfl⟩
    obtain⟨L2,hL2⟩:∃L2,(Yp a cnt runs.length (S1,T1) L).1=L2:=⟨_,rfl⟩
    have lL2:L2.length=25:=by rw[←hL2];exact readL_len r hL
    have hone:oneL a cnt n runs L c u v=if ok=true then YH a cnt n (runs++[(S1,T1)]) L2 else[]:=by unfold oneL;rw[hS1,hT1,hok,hL2]
    rw[hok,hL2]
    have gN2:Y6 0 25 (L2.map iv)=some (L2.map iv):=by rw[←lL2];exact XL _
    have lnL2:Yt (L2.map iv)=25:=by rw[Vp,lL2]
    have pL2:(z2.add (.bk (Z.map iv))).put z2.next 0 (L2.map iv)=some ((z2.add (.bk (Z.map iv))).set z2.next (.bk (L2.map iv))):=WY (L:=Z) (Zc rfl) yab (fun e=>by rw[e] at lL2;cases lL2)
    have s3:=(H.Sub.refl s2.wf).add (.bk (L2.map iv))
    have g3:(z2.add (.bk (L2.map iv))).get z2.next=some (.bk (L2.map iv)):=Zc rfl
    have n3:=H.next_add z2 (.bk (L2.map iv))
    obtain⟨z3,hz3⟩:∃z3,z2.add (.bk (L2.map iv))=z3:=⟨_,rfl⟩
    rw[hz3] at s3 g3 n3
    have sz3:=(sz1.trans s2).trans s3
    have l2:=s2.next
    have zi3:∀q,J q z3→ZI b1 b2 b3 d y RR M (runs.map XP) K J L c x q z3:=fun q hq=>
     ⟨hq,zi.k.trans hwx (tk.sub zi.j sz3),fun b hb=>⟨fun q=>(zi.m b hb).1 (tk.km _ _ _ zi.j sz3 _ q),by have:=(zi.m b hb).2;have:=sz3.next;omega⟩,sz3.get zi.g1,sz3.get zi.g2,sz3.get zi.g3,sz3.get zi.gf,sz3.get zi.gc,zi.r.mono sz3,by have:=sz3.next;omega⟩
    cases ok with
    |false=>
     rw[if_neg yao] at hone
     simp(disch:=omega)only[go_sem,e0,e2,e4,e6,e8,e9,e10,lnL2,pL2,hz3,w1,Bool.false_eq_true]
     refine⟨_,_,rfl,?_,yae,yad,yas,yai,yag,by rw[hS1];exact yat,yac⟩
     rw[hstep,hone]
     exact zi3 _ (tk.more _ _ _ zi.j sz3)
    |true=>
     rw[if_pos rfl] at hone
     have hL2in:In5 240 L2:=by rw[←hL2];exact readL_in r hL hok
     simp(disch:=omega)only[go_sem,e0,e2,e4,e6,e8,e9,e10,lnL2,pL2,hz3,Za (sz3.get zi.g3)]
     refine cloneRun_ev sz3.wf (zi.r.mono sz3) yan _ fun vv z4 ov=>?_
     have s4:=ov.1
     have s14:=(s2.trans s3).trans s4
     have l4:=s4.next
     have l3:=sz3.next
     have y5:Zg (z4.add (.bk [.ii S1,.ii T1])) (.sl z4.next 0 1 (.fix 1)) 2 [[V.ii S1,.ii T1]]:=Zg.new _ rfl rfl rfl yao yao
     have s5:=(H.Sub.refl s4.wf).add (.bk [.ii S1,.ii T1])
     simp(disch:=omega)only[go_sem,e0,e2,e4,e6,e8,e9,e10,Za (s14.get gz1)]
     refine(ov.mono s5).app1 (by_:=16) sz3.wf yao yab y5 rfl yan yan fun R2 z6 o6 ob6 kp6=>?_
     have s6:=o6.1
     have s36:=s3.trans s6
     have s26:=s2.trans s36
     have sz6:=sz3.trans s6
     have l6:=s6.next
     have hmap:runs.map XP++[[V.ii S1,.ii T1]]=(runs++[(S1,T1)]).map XP:=by simp[XP]
     rw[hmap] at o6
     have o6b:∀b,Zq R2 b→n0≤b:=fun b hb=>by
      have:=(o6.blk hb).1;omega
     have hnm:∀b,b=b1∨b=b2∨b=b3∨Zq R2 b→¬K z6 b∧b<z6.next:=fun b hb=>by
      have hk:K z6 b→K z b∧b<z.next:=fun hk=>⟨tk.km _ _ _ zi.j sz6 _ hk,tk.kn _ _ _ zi.j (tk.km _ _ _ zi.j sz6 _ hk)⟩
      have l36:=sz3.next
      have l66:=sz6.next
      rcases hb with hb|hb|hb|hb
      ·have w:=zi.m b (.inl hb);exact⟨fun q=>w.1 (hk q).1,by omega⟩
      ·have w:=zi.m b (.inr (.inl hb));exact⟨fun q=>w.1 (hk q).1,by omega⟩
      ·have w:=zi.m b (.inr (.inr (.inl hb)));exact⟨fun q=>w.1 (hk q).1,by omega⟩
      ·have w:=o6.blk hb;exact⟨fun q=>by have:=(hk q).2;omega,w.2.1⟩
     have hrl:(runs++[(S1,T1)]).length+n=a.cks.length:=by rw[List.length_append,List.length_singleton];omega
     simp(disch:=omega)only[go_sem,Za (s6.get g3),gN2]
     rw[←hM]
     refine(ih (runs++[(S1,T1)]) L2 (p+(VM a cnt n runs L c u v).length) (rest++post) z6 R2 hrl hL2in (tk.more _ _ _ zi.j sz6) (sz6.get zi.g1) (sz6.get zi.g2) (by rw[hM];exact sz6.get zi.g3) (o6.sl (by have:=r.lens;rw[List.length_map];omega)) hnm (by rw[hdrop,hone])).mono fun uu z7 hz=>?_
     obtain⟨hz,hk⟩:=hz
     have kz7:Frm K z z7:=(tk.sub zi.j sz6).trans hwz hk
     have a3:=Za (sz3.get zi.g3)
     have a4:=Za ((sz3.trans s4).get zi.g3)
     have a6:=Za (sz6.get zi.g3)
     have a7:=hk.1.cells a6 (fun q=>(zi.m b3 (.inr (.inr (.inl rfl)))).1 (tk.km _ _ _ zi.j sz6 _ q))
     have b3':=Za ((s2.trans s3).get gz1)
     have b4:=Za (s14.get gz1)
     have b6:=Za ((s26).get gz1)
     have c3:=Za g3
     have c4':=Za (s4.get g3)
     have c6:=Za (s6.get g3)
     have kn2:∀b,z.next≤b→¬K z6 b:=fun b hb hk=>by have:=tk.kn _ _ _ zi.j (tk.km _ _ _ zi.j sz6 _ hk);omega
     have c7:=hk.1.cells c6 (kn2 _ yab)
     have b7:=hk.1.cells b6 (kn2 _ yab)
     have a5:=Za (s5.get ((sz3.trans s4).get zi.g3))
     have b5:=Za (s5.get (s14.get gz1))
     have c5':=Za (s5.get (s4.get g3))
     rcases hz with⟨rfl,hz⟩|⟨rfl,hz⟩
     ·simp(disch:=omega)only[go_sem,e0,e2,e4,e6,e8,e9,e10,a3,a4,a5,a6,a7,b3',b4,b5,b6,b7,c3,c4',c5',c6,c7,gN2,w1,hM]
      refine⟨_,_,rfl,?_,yae,yad,yas,yai,yag,by rw[hS1];exact yat,yac⟩
      rw[hstep,hone]
      refine⟨hz,zi.k.trans hwx kz7,fun b hb=>⟨fun q=>(kz7.2 b q).elim (zi.m b hb).1 fun l=>by have:=(zi.m b hb).2;omega,by have:=(zi.m b hb).2;have:=kz7.1.1;omega⟩,kz7.1.2 _ _ zi.g1 (zi.m _ (.inl rfl)).1,kz7.1.2 _ _ zi.g2 (zi.m _ (.inr (.inl rfl))).1,kz7.1.2 _ _ zi.g3 (zi.m _ (.inr (.inr (.inl rfl)))).1,kz7.1.2 _ _ zi.gf (zi.m _ (.inr (.inr (.inr (.inl rfl))))).1,kz7.1.2 _ _ zi.gc (zi.m _ (.inr (.inr (.inr (.inr (.inl rfl)))))).1,Xf zi.r kz7.1 (fun b hb=>(zi.m b (.inr (.inr (.inr (.inr (.inr hb)))))).1),by have:=kz7.1.1;omega⟩
     ·simp(disch:=omega)only[go_sem,e0,e2,e4,e6,e8,e9,e10,a3,a4,a5,a6,a7,b3',b4,b5,b6,b7,c3,c4',c5',c6,c7,gN2,hM]
      exact q _ _ ⟨.inr ⟨rfl,hz⟩,zi.k.trans hwx kz7⟩
   ·rintro s ⟨tm,z,rfl,zi,e0,e2,e4,e6,e8,e9,e10⟩
    have hv':¬c.gl+(c.ng:Int)≤c.gh:=by omega
    have w1:wr .i64 (c.sl+(u:Int)+1)=c.sl+((u+1:Nat):Int):=by rw[Zo yab yab];omega
    simp(disch:=omega)only[go_sem,e0,e2,e4,e6,e8,e9,e10,Za zi.gc,hv',w1]
    exact⟨_,_,rfl,by rw[preL_row];exact zi,yae,yad,yas,yai,yag,yac⟩
  ·rintro s ⟨tm,z,rfl,zi,e0,e2,e4,e6,e8,e9⟩
   have hu':¬c.sl+(c.ns:Int)≤c.sh:=by omega
   simp(disch:=omega)only[go_sem,e0,e2,e4,e6,e8,e9,Za zi.gc,hu']
   exact q _ _ ⟨.inl ⟨rfl,zi.j⟩,zi.k⟩
end Go.Ab.Tryz
namespace Go.Ab.Tryz
open Go.Proofs
theorem Ui {a:At}(r:Zl a)(ht:(YK (Xy a)).2=true):In5 240 (YK (Xy a)).1:=((XB yah yah (W1 r)).1 ht).2.1
set_option maxHeartbeats 4000000 in
theorem cases_gen {h0:H}(hw0:h0.wf){d:Nat}{a:At}{C R G f W:V}{ms:List Nat}(dk:Dk h0 d a C R G f W ms)(r:Zl a){cnt:Nat→Bool}(hcnt:∀i,i<a.rds.length→YA h0 f [.ii (i:Int)] (.bool (cnt i)))
  {y:V} (hy:∃l,y=.yld l) {J:Nat→H→Prop} {S:H→Prop} {K:H→Nat→Prop} {n0:Nat} (tk:Taker h0 y (Zw a cnt) J S K n0) {b1:Nat} {x:H} (k1:¬K x b1) (hJ:J 0 x) (g1:x.get b1=some (.bk [.ptr d 0])):
  Ev fnG Zi (.fn 128 [] [.ptr b1 0]) [y] x fun u z=>J (Zw a cnt).length z∨S z:=by
 refine Ev.gen fun Q q=>?_
 obtain⟨s0,n0x⟩:=tk.base _ _ hJ
 have dx:=dk.mono s0
 have hwx:=s0.wf
 obtain⟨l,rfl⟩:=hy
 have lb1:=hwx _ _ g1
 obtain⟨xA,hxA⟩:∃xA,(x.add (.bk [.yld l])).add (.bk [.fn 129 [] [.ptr b1 0,.ptr x.next 0,.ptr (x.next+1) 0]])=xA:=⟨_,rfl⟩
 have sA:x.Sub xA:=by rw[←hxA];exact yaa
 have nxA:xA.next=x.next+2:=by rw[←hxA];simp only[H.next_add]
 have g2:xA.get x.next=some (.bk [.yld l]):=by rw[←hxA];simp -implicitDefEqProofs(disch:=first|omega|simp only[nZ]<;>omega|fail)only[go_sem]
 have g3:xA.get (x.next+1)=some (.bk [.fn 129 [] [.ptr b1 0,.ptr x.next 0,.ptr (x.next+1) 0]]):=by rw[←hxA];simp -implicitDefEqProofs(disch:=first|omega|simp only[nZ]<;>omega|fail)only[go_sem]
 obtain⟨Z,hZ,lZ⟩:∃Z:List Int,Z.map iv=[V.ii 0,.ii 0,.ii 0,.ii 0,.ii 0,.ii 0,.ii 0,.ii 0,.ii 0,.ii 0,.ii 0,.ii 0,.ii 0,.ii 0,.ii 0,.ii 0,.ii 0,.ii 0,.ii 0,.ii 0,.ii 0,.ii 0,.ii 0,.ii 0,.ii 0]∧Z.length=25:=⟨List.replicate 25 0,rfl,rfl⟩
 refine Ze (fd:=c128) rfl rfl rfl ?_
 simp -implicitDefEqProofs(disch:=first|omega|simp only[nZ]<;>omega|fail)only[c128,go_sem,one_yld,cells_yld]
 rw[hxA,←hZ]
 simp(disch:=omega)only[go_sem,Za g1,Za (sA.get g1)]
 refine free_ev sA.wf (dx.mono sA) r _ fun h2 s2=>?_
 simp(disch:=omega)only[go_sem]
 refine closed_ev rfl rfl s2.wf (W1 r) _ fun h3 s3=>?_
 obtain⟨ok,hok⟩:∃ok,(YK (Xy a)).2=ok:=⟨_,rfl⟩
 obtain⟨L2,hL2⟩:∃L2,(YK (Xy a)).1=L2:=⟨_,rfl⟩
 have lL2:L2.length=25:=by rw[←hL2,clos_len];exact(W1 r).len
 rw[hok,hL2]
 have gN2:Y6 0 25 (L2.map iv)=some (L2.map iv):=by rw[←lL2];exact XL _
 have lnL2:Yt (L2.map iv)=25:=by rw[Vp,lL2]
 have pL2:(h3.add (.bk (Z.map iv))).put h3.next 0 (L2.map iv)=some ((h3.add (.bk (Z.map iv))).set h3.next (.bk (L2.map iv))):=WY (L:=Z) (Zc rfl) yab (fun e=>by rw[e] at lL2;cases lL2)
 have s4:=(H.Sub.refl s3.wf).add (.bk (L2.map iv))
 have g4:(h3.add (.bk (L2.map iv))).get h3.next=some (.bk (L2.map iv)):=Zc rfl
 obtain⟨h4,hh4⟩:∃h4,h3.add (.bk (L2.map iv))=h4:=⟨_,rfl⟩
 rw[hh4] at s4 g4
 have s24:=(s2.trans s3).trans s4
 have sx4:=sA.trans s24
 cases ok with
 |false=>
  have e:Zw a cnt=[]:=by unfold Zw;rw[hok];simp
  simp(disch:=omega)only[go_sem,lnL2,pL2,hh4,Bool.false_eq_true]
  refine q _ _ (.inl ?_)
  rw[e]
  exact tk.more _ _ _ hJ sx4
 |true=>
  have e:Zw a cnt=YH a cnt a.cks.length [] L2:=by unfold Zw;rw[hok,hL2];simp
  have hL2in:In5 240 L2:=by rw[←hL2];exact Ui r hok
  simp(disch:=omega)only[go_sem,lnL2,pL2,hh4,Za (s24.get g3),Za g4,gN2]
  have hnm:∀b,b=b1∨b=x.next∨b=x.next+1∨Zq .nils b→¬K h4 b∧b<h4.next:=fun b hb=>by
   have hk:K h4 b→K x b∧b<x.next:=fun hk=>⟨tk.km _ _ _ hJ sx4 _ hk,tk.kn _ _ _ hJ (tk.km _ _ _ hJ sx4 _ hk)⟩
   have l4:=s24.next
   rcases hb with hb|hb|hb|hb
   ·subst hb;exact⟨fun q=>k1 (hk q).1,by omega⟩
   ·exact⟨fun q=>by have:=(hk q).2;omega,by omega⟩
   ·exact⟨fun q=>by have:=(hk q).2;omega,by omega⟩
   ·exact(Zy hb).elim
  have hg:=more_gen hw0 dk r hcnt ⟨l,rfl⟩ tk (b1:=b1) (b2:=x.next) (b3:=x.next+1) a.cks.length [] L2 0 [] h4 .nils yao hL2in (tk.more _ _ _ hJ sx4) (sx4.get g1) (s24.get g2) (s24.get g3) ⟨by simp,by simp,.inl ⟨rfl,rfl⟩⟩ hnm (by rw[e];simp)
  refine hg.mono fun u z hz=>?_
  obtain⟨hz,_⟩:=hz
  rcases hz with⟨rfl,hz⟩|⟨rfl,hz⟩
  ·simp(disch:=omega)only[go_sem]
   refine q _ _ (.inl ?_)
   rw[e];simpa using hz
  ·simp(disch:=omega)only[go_sem]
   exact q _ _ (.inr hz)
end Go.Ab.Tryz
namespace Go.Ab
theorem put_full {h:H}{b:Nat}{old vs:List V}(hb:h.get b=some (.bk old))(hl:vs.length=old.length)(hn:vs≠[])(ho:ZB vs=true):h.put b 0 vs=some (h.set b (.bk vs)):=by
 cases vs with
 |nil=>exact absurd rfl hn
 |cons a K=>
  have hp:Ye 0 (a::K) old=some (a::K):=by
   refine(putN_eq yao).2 ⟨?_,by omega⟩
   rw[List.drop_eq_nil_of_le yab,List.append_nil,List.take_zero,List.nil_append]
  exact H.put_rw ho hb hp
theorem over_all {vs z:List V}(hl:vs.length=z.length):over vs z=some vs:=by
 refine over_eq.2 ⟨?_,by omega⟩
 rw[List.drop_eq_nil_of_le yab,List.append_nil]
theorem flatMap_le {α β:Type}{f:α→List β}{k:Nat}:∀{l:List α},(∀x∈l,(f x).length≤k)→(l.flatMap f).length≤l.length*k
 |[],_=>by simp
 |a::l,h=>by
  have h1:=h a (List.mem_cons_self ..)
  have h2:=flatMap_le (l:=l) fun x hx=>h x (List.mem_cons_of_mem _ hx)
  rw[List.flatMap_cons,List.length_append,List.length_cons,Nat.succ_mul]
  omega
end Go.Ab
namespace Go.Ab.Tryz
open Go.Proofs
theorem moreL_len {a:At}(r:Zl a)(cnt:Nat→Bool):∀(n:Nat) (runs:ZZ) (L:List Int),(YH a cnt n runs L).length≤25^n
 |0,_,_=>Nat.le_refl _
 |n+1,runs,L=>by
  unfold YH
  cases hc:a.cks[runs.length]? with
  |none=>exact Nat.zero_le _
  |some c=>
   have hs:=r.cs c (List.mem_of_getElem? hc)
   simp only[Ck.sm,Bool.and_eq_true,decide_eq_true_eq] at hs
   have n1:c.ns≤5:=by unfold Ck.ns;omega
   have n2:c.ng≤5:=by unfold Ck.ng;omega
   have h2:∀u:Nat,((List.range c.ng).flatMap fun(v:Nat)=>if(Yp a cnt runs.length (c.sl+u,c.gl+v) L).2=true then YH a cnt n (runs++[(c.sl+u,c.gl+v)]) (Yp a cnt runs.length (c.sl+u,c.gl+v) L).1 else[]).length≤5*25^n:=fun u=>by
    refine Nat.le_trans (flatMap_le (k:=25^n) fun v _=>?_) (Nat.mul_le_mul_right _ (by rw[List.length_range];exact n2))
    split
    ·exact moreL_len r cnt n _ _
    ·exact Nat.zero_le _
   refine Nat.le_trans (flatMap_le (k:=5*25^n) fun u _=>h2 u) ?_
   refine Nat.le_trans (Nat.mul_le_mul_right _ (by rw[List.length_range];exact n1)) ?_
   rw[Nat.pow_succ];omega
theorem Va {a:At}(r:Zl a)(cnt:Nat→Bool):(Zw a cnt).length≤15625:=by
 unfold Zw
 split
 ·exact Nat.le_trans (moreL_len r cnt _ _ _) (Nat.pow_le_pow_right yah r.lens.1:25^a.cks.length≤25^3)
 ·exact Nat.zero_le _
abbrev Fd:=V × ZZ × List Int
def YW (p:Fd):List V:=p.1::p.2.2.map iv
structure FsO (h0 h:H)(y:V)(Ps:List Fd):Prop where
 o:ZW h0 h y 26 (Ps.map YW)
 e:∀p∈Ps,ZW h0 h p.1 2 (p.2.1.map XP)
 l:∀p∈Ps,p.2.2.length=25
theorem moreL_in {a:At}(r:Zl a){cnt:Nat→Bool}:∀{n:Nat} {runs:ZZ} {L:List Int},In5 240 L→∀t∈YH a cnt n runs L,In5 240 t.2
 |0,runs,L,h,t,ht=>by rw[YH,List.mem_singleton] at ht;rw[ht];exact h
 |n+1,runs,L,h,t,ht=>by
  unfold YH at ht
  cases hc:a.cks[runs.length]? with
  |none=>rw[hc] at ht;cases ht
  |some c=>
   rw[hc] at ht
   simp only[List.mem_flatMap] at ht
   obtain⟨u,_,v,_,ht⟩:=ht
   split at ht
   ·rename_i hk;exact moreL_in r (readL_in r h hk) t ht
   ·cases ht
theorem casesL_in {a:At}(r:Zl a){cnt:Nat→Bool}:∀t∈Zw a cnt,In5 240 t.2:=fun t ht=>by
 unfold Zw at ht
 split at ht
 ·rename_i h;exact moreL_in r (Ui r h) t ht
 ·cases ht
structure CI (h:H)(r0:ZY)(l c e:Nat)(all:List (ZZ × List Int))(n:Nat)(x:H)(y:V)(Ps:List Fd):Prop where
 f:FsO h x y Ps
 ps:Ps.map Prod.snd=all.take n
 dj:∀p∈Ps,∀b,Zq p.1 b→¬Zq y b∧l<b
 yb:∀b,Zq y b→l<b
 gl:x.get l=some (.loop r0)
 gd:x.get e=some .dfr
 gc:x.get c=some (.bk [y])
theorem CI.mono {h:H}{r0:ZY}{l c e:Nat}{all:List (ZZ × List Int)}{n:Nat}{x x':H}{y:V}{Ps:List Fd}(k:CI h r0 l c e all n x y Ps)(s:x.Sub x'):CI h r0 l c e all n x' y Ps:=
 ⟨⟨k.f.o.mono s,fun p hp=>(k.f.e p hp).mono s,k.f.l⟩,k.ps,k.dj,k.yb,s.get k.gl,s.get k.gd,s.get k.gc⟩
def CK (l c:Nat)(x:H)(b:Nat):Prop:=b=l∨b=c∨∃y,x.get c=some (.bk [y])∧Zq y b
theorem CI.frm {h:H}(hw:h.wf){r0:ZY}{l c e n:Nat}{all:List (ZZ × List Int)}{x0 x z h5 h6:H}{y y' R:V}{Ps:List Fd}{t:ZZ × List Int}(k:CI h r0 l c e all n x0 y Ps)(hR:ZW x0 x R 2 (t.1.map XP))(lt:t.2.length=25)(ht:all[n]? =some t)
  (hc:h.next≤c) (hce:c<e) (hel:e<l) (s6:h.Sub h6) (sx6:Zh (fun b=>b=l) x h6) (o5:ZW h h5 y' 26 (Ps.map YW++[YW (R,t)])) (n5:∀b,Zq y' b→Zq y b∨h6.next≤b) (k5:Zh (Zq y) h6 h5)
  (hz:z=(h5.set c (.bk [y'])).set l (.loop r0)):CI h r0 l c e all (n+1) z y' (Ps++[(R,t)])∧Frm (CK l c) x z:=by
 have sx:=hR.1
 have kx:=k.mono sx
 have wx:=sx.wf
 have ll:=k.f.o.1.wf _ _ k.gl
 have lx:=sx.next
 have l6:=sx6.1
 have l5:=k5.1
 have s5:=o5.1
 have lc5:c<h5.next:=by omega
 have sz:h.Sub z:=by
  rw[hz]
  exact(s5.set hc lc5 hw _).set yab (by rw[H.next_set];omega) hw _
 have nz:z.next=h5.next:=by rw[hz];simp only[H.next_set]
 have kz:Zh (fun b=>b=l∨b=c∨Zq y b) x z:=by
  refine⟨by omega,fun b w g nb=>?_⟩
  rw[hz,get_set_other fun q=>nb (.inl q),get_set_other fun q=>nb (.inr (.inl q))]
  exact k5.2 _ _ (sx6.2 _ _ g fun q=>nb (.inl q)) fun q=>nb (.inr (.inr q))
 have k2:Zh (fun b=>b=l∨b=c) h5 z:=by
  refine⟨by omega,fun b w g nb=>?_⟩
  rw[hz,get_set_other fun q=>nb (.inl q),get_set_other fun q=>nb (.inr q)];exact g
 have yl:∀b,Zq y' b→l<b:=fun b hb=>(n5 b hb).elim (k.yb b) fun q=>by omega
 have gl:z.get l=some (.loop r0):=by rw[hz];exact get_set_same rfl
 have gc:z.get c=some (.bk [y']):=by rw[hz,get_set_other yab];exact get_set_same rfl
 refine⟨⟨⟨?_,fun p hp=>?_,fun p hp=>?_⟩,?_,fun p hp b hb=>?_,yl,gl,?_,gc⟩,⟨kz.1,fun b w g nb=>kz.2 b w g fun q=>nb (q.elim .inl fun q=>q.elim (fun q=>.inr (.inl q)) fun q=>.inr (.inr ⟨y,kx.gc,q⟩))⟩,fun b hb=>?_⟩
 ·rw[List.map_append]
  exact o5.keep k2 sz fun b hb q=>by have:=yl b hb;omega
 ·rcases List.mem_append.1 hp with hp|hp
  ·exact(kx.f.e p hp).keep kz sz fun b hb q=>by have:=k.dj p hp b hb;rcases q with q|q|q;omega;omega;exact this.1 q
  ·rw[List.mem_singleton] at hp;subst hp
   exact(hR.base k.f.o.1).keep kz sz fun b hb q=>by
    have:=(hR.blk hb).1
    rcases q with q|q|q;omega;omega;have:=(k.f.o.blk q).2.1;omega
 ·rcases List.mem_append.1 hp with hp|hp
  ·exact k.f.l p hp
  ·rw[List.mem_singleton] at hp;subst hp;exact lt
 ·rw[List.map_append,k.ps,List.take_add_one,ht];rfl
 ·rcases List.mem_append.1 hp with hp|hp
  ·have h1:=k.dj p hp b hb
   refine⟨fun q=>(n5 b q).elim h1.1 fun q=>?_,h1.2⟩
   have:=((k.f.e p hp).blk hb).2.1;omega
  ·rw[List.mem_singleton] at hp;subst hp
   have h1:=hR.blk hb
   refine⟨fun q=>(n5 b q).elim (fun q=>?_) fun q=>?_,by omega⟩
   ·have:=(k.f.o.blk q).2.1;omega
   ·have:=h1.2.1;omega
 ·exact kz.2 _ _ kx.gd fun q=>by rcases q with q|q|q;omega;omega;have:=k.yb _ q;omega
 ·rcases hb with hb|hb|⟨y2,g2,hb⟩
  ·exact .inl (.inl hb)
  ·exact .inl (.inr (.inl hb))
  ·rw[gc] at g2;cases g2
   exact(n5 b hb).elim (fun q=>.inl (.inr (.inr ⟨y,kx.gc,q⟩))) fun q=>.inr yab
end Go.Ab.Tryz
namespace Go.Ab.Tryz
open Go.Proofs
theorem moreL_sound {a:At}(r:Zl a){cnt:Nat→Bool}:∀{n:Nat} {runs:ZZ} {L:List Int} {t:ZZ × List Int},runs.length+n=a.cks.length→In5 240 L→Tri L→t∈YH a cnt n runs L→
  Tri t.2∧∃suf:ZZ,t.1=runs++suf∧suf.length=n∧(∀(j:Nat) s,suf[j]? =some s→Wn a (runs.length+j) s)∧∀y,Sol y t.2↔Sol y L∧∀(j:Nat) s,suf[j]? =some s→RdOk a cnt ((runs.length+j:Nat):Int) s y
 |0,runs,L,t,hl,hL,tL,ht=>by
  rw[YH,List.mem_singleton] at ht;subst ht
  exact⟨tL,[],by simp,rfl,fun j s h=>by simp at h,fun y=>⟨fun h=>⟨h,fun j s h=>by simp at h⟩,fun h=>h.1⟩⟩
 |n+1,runs,L,t,hl,hL,tL,ht=>by
  have hlt:runs.length<a.cks.length:=by omega
  have hck:a.cks[runs.length]? =some a.cks[runs.length]:=List.getElem?_eq_getElem hlt
  obtain⟨c,hc⟩:∃c,a.cks[runs.length]=c:=⟨_,rfl⟩
  rw[hc] at hck
  unfold YH at ht
  rw[hck] at ht
  simp only[List.mem_flatMap,List.mem_range] at ht
  obtain⟨u,hu,v,hv,ht⟩:=ht
  have n1:(c.ns:Int)=c.sh-c.sl+1:=by unfold Ck.ns at hu⊢;omega
  have n2:(c.ng:Int)=c.gh-c.gl+1:=by unfold Ck.ng at hv⊢;omega
  split at ht
  ·rename_i hk
   obtain⟨k1,k2,k3⟩:=(readL_spec r hL).1 hk
   obtain⟨i1,suf,i2,i3,i4,i5⟩:=moreL_sound r (by rw[List.length_append,List.length_singleton];omega) k2 k1 ht
   rw[List.length_append,List.length_singleton] at i4 i5
   have ix:∀j,runs.length+1+j=runs.length+(j+1):=fun j=>by omega
   refine⟨i1,(c.sl+(u:Int),c.gl+(v:Int))::suf,by rw[i2,List.append_assoc];rfl,by rw[List.length_cons,i3],fun j s hs=>?_,fun y=>?_⟩
   ·cases j with
    |zero=>cases hs;exact Wn.mk' hck yab yab yab yab
    |succ j=>rw[←ix];exact i4 j s hs
   ·rw[i5 y,k3 y]
    constructor
    ·rintro⟨⟨h1,h2⟩,h3⟩
     refine⟨h1,fun j s hs=>?_⟩
     cases j with
     |zero=>cases hs;exact h2
     |succ j=>rw[←ix];exact h3 j s hs
    ·rintro⟨h1,h2⟩
     exact⟨⟨h1,h2 0 _ rfl⟩,fun j s hs=>by rw[ix];exact h2 (j+1) s hs⟩
  ·cases ht
theorem moreL_full {a:At}(r:Zl a){cnt:Nat→Bool}{y:Nat→Int}:∀{n:Nat} {runs suf:ZZ} {L:List Int},runs.length+n=a.cks.length→In5 240 L→suf.length=n→(∀(j:Nat) s,suf[j]? =some s→Wn a (runs.length+j) s)→Sol y L→
  (∀(j:Nat) s,suf[j]? =some s→RdOk a cnt ((runs.length+j:Nat):Int) s y)→∃L',(runs++suf,L')∈YH a cnt n runs L
 |0,runs,suf,L,hl,hL,hs,_,_,_=>by
  rw[List.length_eq_zero_iff.1 hs,List.append_nil]
  exact⟨L,by rw[YH];exact List.mem_singleton.2 rfl⟩
 |n+1,runs,[],L,hl,hL,hs,_,_,_=>by simp at hs
 |n+1,runs,s::suf,L,hl,hL,hs,hr,hy,hd=>by
  obtain⟨c,hck,h1,h2,h3,h4⟩:=hr 0 s rfl
  have hd0:=hd 0 s rfl
  rw[Nat.add_zero] at hck hd0
  have n1:(c.ns:Int)=c.sh-c.sl+1:=by unfold Ck.ns;omega
  have n2:(c.ng:Int)=c.gh-c.gl+1:=by unfold Ck.ng;omega
  have es:s=(c.sl+((s.1-c.sl).toNat:Int),c.gl+((s.2-c.gl).toNat:Int)):=by
   obtain⟨s1,s2⟩:=s
   simp only at h1 h2 h3 h4⊢
   rw[Int.toNat_of_nonneg yab,Int.toNat_of_nonneg yab]
   congr 1<;>omega
  have hsp:=readL_spec (cnt:=cnt) (k:=(runs.length:Int)) (x:=s) r hL
  have hk:(Yp a cnt runs.length s L).2=true:=by
   cases hh:(Yp a cnt runs.length s L).2 with
   |true=>rfl
   |false=>exact absurd hd0 (hsp.2 hh y hy)
  obtain⟨k1,k2,k3⟩:=hsp.1 hk
  have ix:∀j,runs.length+1+j=runs.length+(j+1):=fun j=>by omega
  obtain⟨L',hL'⟩:=moreL_full r (runs:=runs++[s]) (suf:=suf) (L:=(Yp a cnt runs.length s L).1) (n:=n) (by rw[List.length_append,List.length_singleton];omega) k2 (by simpa using hs)
   (fun j x hx=>by rw[List.length_append,List.length_singleton,ix];exact hr (j+1) x hx) ((k3 y).2 ⟨hy,hd0⟩) (fun j x hx=>by rw[List.length_append,List.length_singleton,ix];exact hd (j+1) x hx)
  refine⟨L',?_⟩
  rw[List.append_assoc] at hL'
  unfold YH
  rw[hck]
  simp only[List.mem_flatMap,List.mem_range]
  refine⟨(s.1-c.sl).toNat,by omega,(s.2-c.gl).toNat,by omega,?_⟩
  rw[←es,if_pos hk]
  exact hL'
structure Tru (a:At)(cnt:Nat→Bool)(runs:ZZ)(y:Nat→Int):Prop where
 len:runs.length=a.cks.length
 run:∀(k:Nat) s,runs[k]? =some s→Wn a k s
 beg:y 4=0
 mins:∀e,e<4→0≤y e∧y e≤a.mins
 gaps:∀g∈a.gps,g.lo≤y g.to.toNat-y g.fr.toNat∧y g.to.toNat-y g.fr.toNat≤g.hi
 rds:∀(j:Nat) (r:Rd),a.rds[j]? =some r→cnt j=true→∀s,runs[r.ck.toNat]? =some s→shw s.1 s.2 (y r.ev.toNat)=r.sh
theorem Tru.ok {a:At}(r:Zl a){cnt:Nat→Bool}{runs:ZZ}{y:Nat→Int}(hl:runs.length=a.cks.length)(hr:∀(k:Nat) s,runs[k]? =some s→Wn a k s)(hy:y 4=0)(hm:∀e,e<4→0≤y e∧y e≤a.mins):
  (∀(j:Nat) (rd:Rd),a.rds[j]? =some rd→cnt j=true→∀s,runs[rd.ck.toNat]? =some s→shw s.1 s.2 (y rd.ev.toNat)=rd.sh)↔∀(k:Nat) s,runs[k]? =some s→RdOk a cnt (k:Int) s y:=by
 have key:∀(j:Nat) (rd:Rd),a.rds[j]? =some rd→∀s,runs[rd.ck.toNat]? =some s→(shw s.1 s.2 (y rd.ev.toNat)=rd.sh↔(whn s.1 s.2 rd.sh (a.mins.toNat+1)).1≤y rd.ev.toNat-y 4∧y rd.ev.toNat-y 4≤(whn s.1 s.2 rd.sh (a.mins.toNat+1)).2):=fun j rd hrd s hs=>by
  obtain⟨yk,ye,ek,ee,hyk,hye,_⟩:=r.rd (List.mem_of_getElem? hrd)
  have h1:=hm rd.ev.toNat yab
  obtain⟨_,_,_,_⟩:=(hr _ s hs).run r
  have h3:=r.mins
  rw[hy,show y rd.ev.toNat-0=y rd.ev.toNat by omega]
  exact whn_iff yab h1.1 yab
 constructor
 ·intro h k s hs j rd hrd hk hc
  have hs':runs[rd.ck.toNat]? =some s:=by rw[hk,Int.toNat_natCast];exact hs
  exact(key j rd hrd s hs').1 (h j rd hrd hc s hs')
 ·intro h j rd hrd hc s hs
  obtain⟨yk,ye,ek,ee,hyk,hye,_⟩:=r.rd (List.mem_of_getElem? hrd)
  refine(key j rd hrd s hs).2 (h rd.ck.toNat s hs j rd hrd ?_ hc)
  rw[ek,Int.toNat_natCast]
theorem Yn {a:At}(r:Zl a){cnt:Nat→Bool}{t:ZZ × List Int}(ht:t∈Zw a cnt):Tri t.2∧t.1.length=a.cks.length∧(∀(k:Nat) s,t.1[k]? =some s→Wn a k s)∧∀y,y 4=0→(Sol y t.2↔Tru a cnt t.1 y):=by
 unfold Zw at ht
 split at ht
 ·rename_i hc
  obtain⟨c1,c2,_,c4⟩:=(XB yah yah (W1 r)).1 hc
  obtain⟨h1,suf,h2,h3,h4,h5⟩:=moreL_sound r yao c2 c1 ht
  rw[List.nil_append] at h2
  subst h2
  simp only[List.length_nil,Nat.zero_add] at h4 h5
  refine⟨h1,h3,h4,fun y hy=>?_⟩
  rw[h5 y,←c4 y]
  constructor
  ·rintro⟨q1,q2⟩
   have q3:=(Sol_free r hy).1 q1
   exact⟨h3,h4,hy,q3.1,q3.2,(Tru.ok r h3 h4 hy q3.1).2 q2⟩
  ·intro q
   exact⟨(Sol_free r hy).2 ⟨q.mins,q.gaps⟩,(Tru.ok r h3 h4 hy q.mins).1 q.rds⟩
 ·cases ht
theorem W9 {a:At}(r:Zl a){cnt:Nat→Bool}{runs:ZZ}{y:Nat→Int}(h:Tru a cnt runs y):∃L,(runs,L)∈Zw a cnt:=by
 have hf:=(Sol_free r h.beg).2 ⟨h.mins,h.gaps⟩
 have hcs:=XB yah yah (W1 r)
 have hc:(YK (Xy a)).2=true:=by
  cases hh:(YK (Xy a)).2 with
  |true=>rfl
  |false=>exact absurd hf (hcs.2 hh y)
 obtain⟨c1,c2,_,c4⟩:=hcs.1 hc
 have:=moreL_full r (cnt:=cnt) (y:=y) (n:=a.cks.length) (runs:=[]) (suf:=runs) yao c2 h.len (fun j s hs=>by simpa using h.run j s hs) ((c4 y).1 hf) (fun j s hs=>by simpa using(Tru.ok r h.len h.run h.beg h.mins).1 h.rds j s hs)
 unfold Zw
 rw[if_pos hc]
 simpa using this
end Go.Ab.Tryz
namespace Go.Ab.Tryz
open Go.Proofs
theorem rLoop {r0:ZY}(h1:r0.st=.ready)(h2:r0.pend=none):({({r0 with st:=.busy}:ZY) with st:=.ready,pend:=none}:ZY)=r0:=by cases r0;simp_all
set_option maxHeartbeats 4000000 in
theorem appendSeq_ev {h:H}(hw:h.wf){d:Nat}{a:At}{C R G f W:V}{ms:List Nat}(dk:Dk h d a C R G f W ms)(r:Zl a){cnt:Nat→Bool}(hcnt:∀i,i<a.rds.length→YA h f [.ii (i:Int)] (.bool (cnt i)))
  {b1:Nat} (g1:h.get b1=some (.bk [.ptr d 0])) (Q:V→H→Prop) (q:∀y Ps h',FsO h h' y Ps→Ps.map Prod.snd=Zw a cnt→Q y h'):
  Ev fnG Zi (.fn 127 [] []) [.nils,.fn 128 [] [.ptr b1 0]] h Q:=by
 have hall:=Va r cnt
 refine Ze (fd:=c127) rfl rfl rfl ?_
 simp(disch:=omega)only[c127,go_sem]
 have s1:h.Sub (h.add (.bk [.nils])):=(H.Sub.refl hw).add _
 have gc1:(h.add (.bk [.nils])).get h.next=some (.bk [.nils]):=Zc rfl
 have n1:=H.next_add h (.bk [.nils])
 generalize h.add (.bk [.nils])=h1 at s1 gc1 n1⊢
 have w1:=s1.wf
 refine W_gen (P:=fun tm=>tm.E 2=.ptr h.next 0∧tm.E 6=.fn 128 [] [.ptr b1 0]) ⟨yac,yac⟩ fun tm ⟨t2,t6⟩=>?_
 refine W_rf t6 ?_
 generalize hr:ZY.mk _ _ _ _ _ _ _ _ _=r0
 have fB:=congrArg ZY.body hr
 have fA:=congrArg ZY.assign hr
 have fN:=congrArg ZY.n hr
 have fF:=congrArg ZY.fn hr
 have fP:=congrArg ZY.ps hr
 have fT:=congrArg ZY.tm hr
 dsimp only at fB fA fN fF fP fT
 have hrs:r0.st=.ready:=by rw[←hr]
 have hrp:r0.pend=none:=by rw[←hr]
 obtain⟨J,hJ⟩:∃J:Nat→H→Prop,∀n x,J n x↔∃y Ps,CI h r0 (h1.next+1) h.next h1.next (Zw a cnt) n x y Ps:=⟨_,fun _ _=>Iff.rfl⟩
 have s3:h.Sub ((h1.add .dfr).add (.loop r0)):=(s1.add _).add _
 have n3:((h1.add .dfr).add (.loop r0)).next=h1.next+2:=by simp only[H.next_add]
 have j0:J 0 ((h1.add .dfr).add (.loop r0)):=(hJ _ _).2 ⟨.nils,[],⟨⟨(Zx.nil s3 26).c,fun p hp=>absurd hp List.not_mem_nil,fun p hp=>absurd hp List.not_mem_nil⟩,rfl,fun p hp=>absurd hp List.not_mem_nil,fun b hb=>(Zy hb).elim,
  Zc (by rw[H.next_add]),by rw[ZC yaz];exact Zc rfl,by rw[ZC yaz,ZC yab];exact gc1⟩⟩
 have tk:Taker h (.yld (h1.next+1)) (Zw a cnt) J (fun _=>False) (CK (h1.next+1) h.next) 0:=by
  refine⟨fun p x hx=>?_,fun p x x' hx s=>?_,fun p x b hx hb=>?_,fun p x x' hx s b hb=>?_,fun p t ht x0 x R hx hR=>?_⟩
  ·obtain⟨y,Ps,k⟩:=(hJ _ _).1 hx
   exact⟨k.f.o.1,Nat.zero_le _⟩
  ·obtain⟨y,Ps,k⟩:=(hJ _ _).1 hx
   exact(hJ _ _).2 ⟨y,Ps,k.mono s⟩
  ·obtain⟨y,Ps,k⟩:=(hJ _ _).1 hx
   have wx:=k.f.o.1.wf
   rcases hb with hb|hb|⟨y2,g2,hb⟩
   ·subst hb;exact wx _ _ k.gl
   ·subst hb;exact wx _ _ k.gc
   ·rw[k.gc] at g2;cases g2;exact(k.f.o.blk hb).2.1
  ·obtain⟨y,Ps,k⟩:=(hJ _ _).1 hx
   rcases hb with hb|hb|⟨y2,g2,hb⟩
   ·exact .inl hb
   ·exact .inr (.inl hb)
   ·rw[s.get k.gc] at g2;cases g2
    exact .inr (.inr ⟨y,k.gc,hb⟩)
  ·obtain⟨y,Ps,k⟩:=(hJ _ _).1 hx
   refine Ev.gen fun Q2 q2=>?_
   have sx:=hR.1
   have kx:=k.mono sx
   have wx:=sx.wf
   have lx0:=k.f.o.1.wf _ _ k.gl
   have lx:=sx.next
   have lt:t.2.length=25:=(casesL_in r t (List.mem_of_getElem? ht)).len
   obtain⟨F,hF⟩:∃F,F=R::t.2.map iv:=⟨_,rfl⟩
   have lF:F.length=26:=by rw[hF,List.length_cons,List.length_map,lt]
   have oF:ZB F=true:=by rw[hF,Yz,hR.one,V6];rfl
   have nF:F≠[]:=by rw[hF];exact List.cons_ne_nil _ _
   have gNF:Y6 0 26 F=some F:=by rw[←lF];exact ZU.2 ⟨by rw[List.drop_zero,List.take_length],by omega⟩
   have lnF:Yt F=26:=by rw[Z7,lF]
   have ovF:over F [.nils,.ii 0,.ii 0,.ii 0,.ii 0,.ii 0,.ii 0,.ii 0,.ii 0,.ii 0,.ii 0,.ii 0,.ii 0,.ii 0,.ii 0,.ii 0,.ii 0,.ii 0,.ii 0,.ii 0,.ii 0,.ii 0,.ii 0,.ii 0,.ii 0,.ii 0]=some F:=over_all (by rw[lF];rfl)
   have pF:(x.add (.bk [.nils,.ii 0,.ii 0,.ii 0,.ii 0,.ii 0,.ii 0,.ii 0,.ii 0,.ii 0,.ii 0,.ii 0,.ii 0,.ii 0,.ii 0,.ii 0,.ii 0,.ii 0,.ii 0,.ii 0,.ii 0,.ii 0,.ii 0,.ii 0,.ii 0,.ii 0])).put x.next 0 F=some ((x.add (.bk [.nils,.ii 0,.ii 0,.ii 0,.ii 0,.ii 0,.ii 0,.ii 0,.ii 0,.ii 0,.ii 0,.ii 0,.ii 0,.ii 0,.ii 0,.ii 0,.ii 0,.ii 0,.ii 0,.ii 0,.ii 0,.ii 0,.ii 0,.ii 0,.ii 0,.ii 0])).set x.next (.bk F)):=put_full (Zc rfl) (by rw[lF];rfl) nF oF
   show Ev fnG Zi _ [.agg (R::t.2.map iv)] _ _
   rw[←hF]
   refine Ev_yld (tm:=tm.put (some (.agg F)) 7) kx.gl (by rw[←fP,←fT];rfl) ?_
   rw[←fA,←fN,←fF]
   simp(disch:=omega)only[go_sem,t2,lnF,pF]
   unfold Kasg
   have sx2:x.Sub (x.add (.bk F)):=(H.Sub.refl wx).add _
   have gw:(x.add (.bk F)).get x.next=some (.bk F):=Zc rfl
   have nw:=H.next_add x (.bk F)
   generalize x.add (.bk F)=hy at sx2 gw nw⊢
   refine⟨rfl,r0,sx2.get kx.gl,hrs,?_⟩
   obtain⟨rb,hrb⟩:∃rb:ZY,rb={r0 with st:=.busy}:=⟨_,rfl⟩
   have hrb1:({rb with st:=.ready,pend:=none}:ZY)=r0:=by rw[hrb];exact rLoop hrs hrp
   rw[←hrb,←fB,←fN,←fF]
   have sy:=k.f.o.1.trans (sx.trans sx2)
   have K3:Zh (fun b=>b=h1.next+1) hy (hy.set (h1.next+1) (.loop rb)):=Zh.set _ _ _
   have s4:h.Sub (hy.set (h1.next+1) (.loop rb)):=sy.set yab yab hw _
   have gl4:(hy.set (h1.next+1) (.loop rb)).get (h1.next+1)=some (.loop rb):=get_set_same rfl
   have n4:(hy.set (h1.next+1) (.loop rb)).next=hy.next:=H.next_set _ _ _
   generalize hy.set (h1.next+1) (.loop rb)=h4 at K3 s4 gl4 n4⊢
   have gw4:=K3.2 _ _ gw yab
   have gc4:=K3.2 _ _ (sx2.get kx.gc) yab
   have s5:h.Sub (h4.add (.bk F)):=s4.add _
   have K5:Zh (fun b=>b=h1.next+1) x (h4.add (.bk F)):=⟨by rw[H.next_add];omega,fun b w g nb=>by
    have g2:=K3.2 _ _ (sx2.get g) nb
    rw[ZC (s4.wf _ _ g2)];exact g2⟩
   have o4:ZW h (h4.add (.bk F)) y 26 (Ps.map YW):=kx.f.o.keep K5 s5 fun b hb e=>by have:=k.yb b hb;omega
   have y5:Zg (h4.add (.bk F)) (.sl h4.next 0 1 (.fix 1)) 26 [F]:=Zg.new _ rfl rfl yao (by intro r hr;rw[List.mem_singleton] at hr;rw[hr];exact lF) yao
   have lP:Ps.length≤15625:=by
    have:=congrArg List.length k.ps
    rw[List.length_map,List.length_take] at this
    omega
   have gl5:(h4.add (.bk F)).get (h1.next+1)=some (.loop rb):=by rw[ZC yab];exact gl4
   have gc5:(h4.add (.bk F)).get h.next=some (.bk [y]):=by rw[ZC yab];exact gc4
   have n5:=H.next_add h4 (.bk F)
   have y1:=kx.f.o.one
   simp(disch:=omega)only[go_sem,t2,Za gc4,Za gw4,gNF,lnF,ovF]
   generalize h4.add (.bk F)=h5 at s5 K5 o4 y5 gl5 gc5 n5⊢
   refine o4.app1 (by_:=224) hw lF yah y5 oF yan yan fun y' h6 o6 n6 k6=>?_
   have ny:∀b,Zq y b→b≠h1.next+1∧b≠h.next:=fun b hb=>by have:=k.yb b hb;omega
   have gl6:=k6.2 _ _ gl5 fun hb=>(ny _ hb).1 rfl
   have gc6:=k6.2 _ _ gc5 fun hb=>(ny _ hb).2 rfl
   have y1':=o6.one
   simp(disch:=omega)only[go_sem,t2,gc6,y1',cells_one y1']
   unfold Kround
   rw[hF] at o6
   have hend:=CI.frm (z:=(h6.set h.next (.bk [y'])).set (h1.next+1) (.loop r0)) hw k hR lt ht (Nat.le_refl _) yab yab s5 K5 (t:=t) o6 n6 k6 rfl
   refine⟨rb,by rw[get_set_other yab];exact gl6,q2 _ _ ?_⟩
   rw[hrb1]
   exact⟨.inl ⟨rfl,(hJ _ _).2 ⟨_,_,hend.1⟩⟩,hend.2⟩
 refine(cases_gen hw dk r hcnt ⟨_,rfl⟩ tk (b1:=b1) (x:=(h1.add .dfr).add (.loop r0)) ?_ j0 (s3.get g1)).mono fun u h7 hu=>?_
 ·have lb:=hw _ _ g1
  rintro(hb|hb|⟨y2,g2,hb⟩)
  ·omega
  ·omega
  ·obtain⟨y,Ps,k⟩:=(hJ _ _).1 j0
   rw[k.gc] at g2;cases g2
   have:=k.yb _ hb;omega
 ·rcases hu with hJ7|hFa
  ·obtain⟨y,Ps,k⟩:=(hJ _ _).1 hJ7
   refine⟨r0,k.gl,by rw[hrs];simp,?_⟩
   rw[hrp]
   have s7:=k.f.o.1
   have lt7:=s7.wf _ _ k.gl
   have s8:h.Sub (h7.set (h1.next+1) (.loop {r0 with st:=.exhausted})):=s7.set yab lt7 hw _
   have K8:Zh (fun c=>c=h1.next+1) h7 (h7.set (h1.next+1) (.loop {r0 with st:=.exhausted})):=Zh.set _ _ _
   have d8:=K8.2 _ _ k.gd yab
   have e8:=K8.2 _ _ k.gc yab
   rw[hrp] at s8 K8 d8 e8
   generalize h7.set (h1.next+1) _=h8 at s8 K8 d8 e8⊢
   have y1:=k.f.o.one
   simp(disch:=omega)only[go_sem,t2,Za e8,Kfin_ret1 _ _ _ d8]
   have s9:h.Sub (h8.del h1.next):=H.Sub.del s8 yab hw
   have K9:Zh (fun c=>c=h1.next+1∨c=h1.next) h7 (h8.del h1.next):=⟨by rw[H.next_del];exact K8.1,fun b w g nb=>by rw[Wb fun e=>nb (.inr e)];exact K8.2 _ _ g fun e=>nb (.inl e)⟩
   refine q _ Ps _ ⟨k.f.o.keep K9 s9 fun b hb e=>by have:=k.yb b hb;omega,fun p hp=>(k.f.e p hp).keep K9 s9 fun b hb e=>by have:=(k.dj p hp b hb).2;omega,k.f.l⟩ ?_
   rw[k.ps,List.take_of_length_le (Nat.le_refl _)]
  ·exact hFa.elim
set_option maxHeartbeats 1000000 in
theorem collect_ev {h:H}(hw:h.wf){d:Nat}{a:At}{C R G f W:V}{ms:List Nat}(dk:Dk h d a C R G f W ms)(r:Zl a){cnt:Nat→Bool}(hcnt:∀i,i<a.rds.length→YA h f [.ii (i:Int)] (.bool (cnt i)))
  {b1:Nat} (g1:h.get b1=some (.bk [.ptr d 0])) (Q:V→H→Prop) (q:∀y Ps h',FsO h h' y Ps→Ps.map Prod.snd=Zw a cnt→Q y h'):
  Ev fnG Zi (.fn 72 [] []) [.fn 128 [] [.ptr b1 0]] h Q:=by
 refine Ze (fd:=c72) rfl rfl rfl ?_
 simp(disch:=omega)only[c72,go_sem]
 refine appendSeq_ev hw dk r hcnt g1 _ fun y Ps h' f e=>?_
 simp(disch:=omega)only[go_sem]
 exact q y Ps h' f e
end Go.Ab.Tryz
namespace Go.Ab.Tryz
open Go.Proofs
abbrev allF:V:=.fn 126 [] []
theorem allF_pure {h:H}(hw:h.wf)(i:Int):YA h allF [.ii i] (.bool true):=by
 intro h' s
 refine Ze (fd:=c126) rfl rfl rfl ?_
 simp(disch:=omega)only[c126,go_sem]
 exact H.Sub.refl s.wf
set_option maxHeartbeats 2000000 in
theorem told_ev {h:H}(hw:h.wf){a:At}{C R G:V}(x:ZP h C R G a)(bad:Bool)(Q:V→H→Prop)
  (q1:∀h',h.Sub h'→Zn a≠0→Q (.tup [.nilp,.nils,.ii (Zn a)]) h')
  (q2:∀h',h.Sub h'→Zl a→bad=true→Q (.tup [.nilp,.nils,.ii 1]) h')
  (q3:∀h',h.Sub h'→Zl a→bad=false→Zw a (fun _=>true)=[]→Q (.tup [.nilp,.nils,.ii 7]) h')
  (q4:∀h' v y Ps,FsO h h' y Ps→Zl a→bad=false→Ps.map Prod.snd=Zw a (fun _=>true)→Ps≠[]→Q (.tup [v,y,.ii 0]) h'):
  Ev fnG Zi (.fn 15 [] []) [.agg (atV a C R G),.bool bad] h Q:=by
 have oC:=x.c.one;have oR:=x.r.one;have oG:=x.g.one
 have cs:∀hh Q,Ev fnG Zi (.fn 71 [] []) [] hh Q=Q (.agg [allF]) (hh.add (.bk [allF])):=fun hh Q=>by
  refine Ev.det (Ze (fd:=c71) rfl rfl rfl ?_) Q
  simp(disch:=omega)only[c71,go_sem]
 have cd:∀hh p Q,Ev fnG Zi (.fn 73 [] []) [.ptr p 0] hh Q=Q (.fn 128 [] [.ptr hh.next 0]) (hh.add (.bk [.ptr p 0])):=fun hh p Q=>by
  refine Ev.det (Ze (fd:=c73) rfl rfl rfl ?_) Q
  simp(disch:=omega)only[c73,go_sem]
 refine Ze (fd:=c15) rfl rfl rfl ?_
 simp(disch:=omega)only[c15,go_sem]
 have s1:h.Sub (h.add (.bk (atV a C R G))):=(H.Sub.refl hw).add _
 have g1:(h.add (.bk (atV a C R G))).get h.next=some (.bk (atV a C R G)):=Zc rfl
 refine Y9 s1.wf ⟨C,R,G,rfl,x.mono s1⟩ _ fun h2 s2=>?_
 have gg:=s2.get g1
 have s12:=s1.trans s2
 generalize h.add (.bk (atV a C R G))=h1 at s1 g1 s2 gg s12
 by_cases he:Zn a=0
 case neg=>
  simp(disch:=omega)only[go_sem,(decide_eq_true he:decide (Zn a≠0)=true)]
  exact q1 _ s12 he
 have r:=Zz.1 he
 rw[he]
 have d0:decide ((0:Int)≠0)=false:=rfl
 cases bad with
 |true=>
  simp(disch:=omega)only[go_sem,d0]
  exact q2 _ s12 r rfl
 |false=>
  simp(disch:=omega)only[go_sem,d0,Bool.false_eq_true,Za gg,cs]
  have sA:=(H.Sub.refl s12.wf).add (.bk [allF])
  generalize h2.add (.bk [allF])=hA at sA⊢
  refine worked_ev sA.wf (x.mono (s12.trans sA)) r rfl _ fun d W ms h3 s3 _ dk=>?_
  have s23:=sA.trans s3
  have sB:=(H.Sub.refl s3.wf).add (.bk [.ptr d 0])
  have gB:(h3.add (.bk [.ptr d 0])).get h3.next=some (.bk [.ptr d 0]):=Zc rfl
  simp(disch:=omega)only[go_sem,Za gg,Za (sA.get gg),Za (s23.get gg),cd]
  generalize h3.add (.bk [.ptr d 0])=hB at sB gB⊢
  refine collect_ev sB.wf (dk.mono sB) r (cnt:=fun _=>true) (fun i _=>allF_pure sB.wf i) gB _ fun y Ps h4 f e=>?_
  have hPl:Ps.length≤15625:=by have:=Va r (fun _=>true);rw[←e,List.length_map] at this;exact this
  have hlen:=(f.o.sl yan).lenE
  have s4:=(s12.trans s23).trans (sB.trans f.o.1)
  by_cases hn:Ps=[]
  ·have hz:((Ps.length:Int)=0):=by rw[hn];rfl
   simp(disch:=omega)only[go_sem,hlen,hz]
   exact q3 _ s4 r rfl (by rw[←e,hn];rfl)
  ·have hz:¬((Ps.length:Int)=0):=fun q=>hn (List.length_eq_zero_iff.1 yab)
   simp(disch:=omega)only[go_sem,hlen,hz]
   exact q4 _ _ y Ps ⟨f.o.base (s12.trans (s23.trans sB)),fun p hp=>(f.e p hp).base (s12.trans (s23.trans sB)),f.l⟩ r rfl e hn
end Go.Ab.Tryz
namespace Go.Ab.Tryz
open Go.Proofs
def Xe (f t:Nat):List (List Int)→Int × Int
 |[]=>(0,0)
 |L::l=>(L::l).foldl (fun s M=>(min s.1 (-(mg M t f)),max s.2 (mg M f t))) (-(mg L t f),mg L f t)
theorem row_at {p:Fd}(lp:p.2.2.length=25){f t:Nat}(hf:f<5)(ht:t<5):nth (1+f*5+t*1) (YW p)=some (.ii (mg p.2.2 f t)):=by
 rw[show 1+f*5+t*1=(f*5+t*1)+1 by omega]
 exact Y3 lp hf ht
set_option maxHeartbeats 4000000 in
theorem between_ev {h:H}(hw:h.wf){y:V}{Ps:List Fd}(x:Zg h y 26 (Ps.map YW))(hl:∀p∈Ps,In5 240 p.2.2)(hone:∀F,(∃p∈Ps,YW p=F)→ZB F=true)(hne:Ps≠[]){f t:Nat}(hf:f<5)(ht:t<5)(Q:V→H→Prop)
  (q:∀h',h.Sub h'→Q (spV (Xe f t (Ps.map fun p=>p.2.2))) h'):Ev fnG Zi (.fn 83 [] []) [y,.ii (f:Int),.ii (t:Int)] h Q:=by
 have hP:0<Ps.length:=List.length_pos_iff.2 hne
 have hlen:=x.lenE
 have hbd:=x.boundE
 obtain⟨p0,Ps',hP0⟩:∃p0 Ps',Ps=p0::Ps':=by cases Ps with
  |nil=>exact absurd rfl hne
  |cons p0 Ps'=>exact⟨p0,Ps',rfl⟩
 obtain⟨b,o,cc,cs,e,hc,hq,hg,hn,hn0⟩:=x.at hP
 have hp0:Ps[0]=p0:=by simp[hP0]
 rw[hp0] at hn
 have in0:=hl p0 (by rw[hP0];exact List.mem_cons_self ..)
 have row0:∀f t:Nat,f<5→t<5→nth (o+1+f*5+t*1) cs=some (.ii (mg p0.2.2 f t)):=fun f t hf ht=>by
  rw[show o+1+f*5+t*1=o+0*26+(1+f*5+t*1) by omega,hn _ yab]
  rw[←Vx];exact row_at in0.len hf ht
 subst e
 have s1:h.Sub (h.add (.bk [.ii 0,.ii 0])):=(H.Sub.refl hw).add _
 have b0:=in0.lo t f ht hf
 have b1:=in0.hi t f ht hf
 have b2:=in0.lo f t hf ht
 have b3:=in0.hi f t hf ht
 have w0:wr .i64 (0-mg p0.2.2 t f)= -(mg p0.2.2 t f):=by rw[Zo yab yab];omega
 have s2:h.Sub ((h.add (.bk [.ii 0,.ii 0])).add (.bk [.ii 0,.ii 0])):=s1.add _
 obtain⟨bw,hbw⟩:∃bw:Nat→Int × Int,∀i,bw i=((Ps.map fun p=>p.2.2).take i).foldl (fun s M=>(min s.1 (-(mg M t f)),max s.2 (mg M f t))) (-(mg p0.2.2 t f),mg p0.2.2 f t):=⟨_,fun _=>rfl⟩
 have hb0:bw 0=(-(mg p0.2.2 t f),mg p0.2.2 f t):=by rw[hbw];rfl
 have hbn:bw Ps.length=Xe f t (Ps.map fun p=>p.2.2):=by
  rw[hbw,List.take_of_length_le (by rw[List.length_map];exact Nat.le_refl _),hP0];rfl
 refine Ze (fd:=c83) rfl rfl rfl ?_
 simp -implicitDefEqProofs(disch:=first|omega|simp only[nZ]<;>omega|fail)only[c83,go_sem,hq (nat_num 0),s1.cells hc,s2.cells hc,XS 5 _ _ hf,XS 5 _ _ ht,XS 1 _ _ hf,XS 1 _ _ ht,row0 f t hf ht,row0 t f ht hf,w0,hlen]
 refine Zk Ps.length (fun i s=>∃tm h',s=⟨tm,h',[]⟩∧h.Sub h'∧h.next+1<h'.next∧h'.get h.next=some (.bk [.ii 0,.ii 0])∧h'.get (h.next+1)=some (.bk [.ii (bw i).1,.ii (bw i).2])∧
   tm.E 1=.ii (f:Int)∧tm.E 2=.ii (t:Int)∧tm.E 6=.ptr h.next 0∧tm.E 7=.ptr (h.next+1) 0∧tm.E 28=.sl b o Ps.length cc∧tm.E 29=.ii (Ps.length:Int)∧tm.E 30=.ii (i:Int)) ?_ ?_ (i:=0) (Nat.zero_le _)
  ⟨_,_,rfl,yaa,by simp only[H.next_add];omega,by simp -implicitDefEqProofs(maxSteps:=999999)(disch:=first|with_reducible rfl|omega|(simp only[nA,nS,nD]<;>omega)|fail)only[go_sem],by rw[hb0];simp -implicitDefEqProofs(maxSteps:=999999)(disch:=first|with_reducible rfl|omega|(simp only[nA,nS,nD]<;>omega)|fail)only[go_sem],yac,yac,yac,yac,yac,yac,yac⟩
 ·rintro i s hi ⟨tm,h1,rfl,sh,nx,g6,g7,e1,e2,e6,e7,e28,e29,e30⟩
  have hi':(i:Int)<(Ps.length:Int):=by omega
  have hw1:=sh.wf
  obtain⟨b',o',cc',cs',e',hc',hq',hg',_,_⟩:=(x.mono sh).at hi
  cases e'
  obtain⟨p,hp⟩:∃p,Ps[i]=p:=⟨_,rfl⟩
  rw[hp] at hg'
  have hmem:p∈Ps:=by rw[←hp];exact List.getElem_mem hi
  have inp:=hl p hmem
  obtain⟨F,hF⟩:∃F,YW p=F:=⟨_,rfl⟩
  have lF:F.length=26:=by rw[←hF];simp[YW,inp.len]
  have oF:ZB F=true:=hone F ⟨p,hmem,hF⟩
  have nF:F≠[]:=by intro e0;rw[e0] at lF;cases lF
  have r1:nth (1+t*5+f*1) F=some (.ii (mg p.2.2 t f)):=by rw[←hF];exact row_at inp.len ht hf
  have r2:nth (1+f*5+t*1) F=some (.ii (mg p.2.2 f t)):=by rw[←hF];exact row_at inp.len hf ht
  rw[hF] at hg'
  have lnF:Yt F=26:=by rw[Z7,lF]
  have pF:(h1.add (.bk [.nils,.ii 0,.ii 0,.ii 0,.ii 0,.ii 0,.ii 0,.ii 0,.ii 0,.ii 0,.ii 0,.ii 0,.ii 0,.ii 0,.ii 0,.ii 0,.ii 0,.ii 0,.ii 0,.ii 0,.ii 0,.ii 0,.ii 0,.ii 0,.ii 0,.ii 0])).put h1.next 0 F=some ((h1.add (.bk [.nils,.ii 0,.ii 0,.ii 0,.ii 0,.ii 0,.ii 0,.ii 0,.ii 0,.ii 0,.ii 0,.ii 0,.ii 0,.ii 0,.ii 0,.ii 0,.ii 0,.ii 0,.ii 0,.ii 0,.ii 0,.ii 0,.ii 0,.ii 0,.ii 0,.ii 0])).set h1.next (.bk F)):=put_full (Zc rfl) (by rw[lF];rfl) nF oF
  have sA:=(H.Sub.refl hw1).add (.bk F)
  have gA:(h1.add (.bk F)).get h1.next=some (.bk F):=Zc rfl
  have v0:=inp.lo t f ht hf
  have v1:=inp.hi t f ht hf
  have w1:wr .i64 (0-mg p.2.2 t f)= -(mg p.2.2 t f):=by rw[Zo yab yab];omega
  have hstep:bw (i+1)=(min (bw i).1 (-(mg p.2.2 t f)),max (bw i).2 (mg p.2.2 f t)):=by
   rw[hbw,hbw,List.take_add_one,List.getElem?_map,List.getElem?_eq_getElem hi,hp,Option.map_some,Option.toList_some,List.foldl_append];rfl
  obtain⟨hA,hhA⟩:∃hA,h1.add (.bk F)=hA:=⟨_,rfl⟩
  rw[hhA] at sA gA
  simp(disch:=omega)only[go_sem,e1,e2,e6,e7,e28,e29,e30,hi',hq' (Zb i),hc',hg',lnF,pF,hhA,Za (sA.get g7),Za gA,XS 5 _ _ hf,XS 5 _ _ ht,XS 1 _ _ hf,XS 1 _ _ ht,r1,r2,w1]
  have sB:=(H.Sub.refl sA.wf).add (.bk [.ii (-mg p.2.2 t f)])
  refine VQ sA.wf _ _ _ fun h2 s2'=>?_
  have s12:=sA.trans s2'
  have n2:=s12.next
  simp(disch:=omega)only[go_sem,e1,e2,e6,e7,e28,e29,e30,Za (sA.get g7),Za gA,Za (sB.get (sA.get g7)),Za (sB.get gA),Za (s12.get g7),Za (s2'.get gA),s12.get g7,XS 5 _ _ hf,XS 5 _ _ ht,XS 1 _ _ hf,XS 1 _ _ ht,r1,r2,w1,Zj]
  refine⟨_,_,rfl,(sh.trans s12).set yab yab hw _,by rw[H.next_set];omega,by rw[get_set_other yab];exact s12.get g6,by rw[get_set_same rfl,hstep],yaf,yad,yai,yak,(by simp[Zm,Zd,e28]<;>rfl),(by simp[Zm,Zd,e29]<;>rfl),yac⟩
 ·rintro s ⟨tm,h1,rfl,sh,nx,g6,g7,e1,e2,e6,e7,e28,e29,e30⟩
  have hi':¬((Ps.length:Int)<(Ps.length:Int)):=by omega
  simp(disch:=omega)only[go_sem,e1,e2,e6,e7,e28,e29,e30,hi',Za g6,Za g7,g6,g7]
  rw[hbn]
  exact q _ (sh.set (Nat.le_refl _) yab hw _)
end Go.Ab.Tryz
namespace Go.Ab.Tryz
open Go.Proofs
abbrev ZR (a:At):List (ZZ × List Int):=Zw a (fun _=>true)
def evW (a:At)(n:Int):Bool:=inB n 0 (wr .i64 (a.evs-1))
theorem YU {a:At}(r:Zl a)(n:Int):evW a n=a.evB n:=by
 have:=r.evs
 unfold evW At.evB
 rw[Zo yab yab]
theorem WM {h:H}(hw:h.wf){C R G:V}(a:At)(n:Int)(Q:V→H→Prop)(q:∀h',h.Sub h'→Q (.bool (evW a n)) h'):Ev fnG Zi (.fn 20 [] []) [.agg (atV a C R G),.ii n] h Q:=by
 refine Ze (fd:=c20) rfl rfl rfl ?_
 have s:h.Sub (h.add (.bk (atV a C R G))):=yaa
 simp(disch:=omega)only[c20,go_sem,Xx]
 exact q _ s
def ZO (a:At)(bad:Bool):Int:=if Zn a≠0 then Zn a else if bad=true then 1 else if ZR a=[] then 7 else 0
def Xt (a:At)(e:Int):(Int × Int) × Int:=if ZO a (!a.evB e)≠0 then((0,0),ZO a (!a.evB e)) else(Xe 4 e.toNat ((ZR a).map Prod.snd),0)
def Yd (a:At)(f t:Int):(Int × Int) × Int:=if ZO a (!a.evB f|| !a.evB t)≠0 then((0,0),ZO a (!a.evB f|| !a.evB t)) else(Xe f.toNat t.toNat ((ZR a).map Prod.snd),0)
theorem errT_bad {a:At}{b b':Bool}(h:Zl a→b=b'):ZO a b=ZO a b':=by
 unfold ZO
 by_cases hc:Zn a=0
 ·rw[h (Zz.1 hc)]
 ·rw[if_pos hc,if_pos hc]
theorem Xc {a:At}(r:Zl a){n:Int}(h:a.evB n=true):∃k:Nat,n=k∧k<4:=by
 have:=r.evs
 simp only[At.evB,Zs] at h
 exact⟨n.toNat,by omega,by omega⟩
theorem VG {h:H}(hw:h.wf){a:At}{C R G:V}(x:ZP h C R G a)(bad:Bool)(Q:V→H→Prop)
  (q1:∀h',h.Sub h'→ZO a bad≠0→Q (.tup [.nilp,.nils,.ii (ZO a bad)]) h')
  (q2:∀h' v y Ps,h.Sub h'→Zg h' y 26 (Ps.map YW)→(∀p∈Ps,In5 240 p.2.2)→(∀F,(∃p∈Ps,YW p=F)→ZB F=true)→Ps≠[]→Zl a→bad=false→ZO a bad=0→Ps.map Prod.snd=ZR a→FsO h h' y Ps→Q (.tup [v,y,.ii 0]) h'):
  Ev fnG Zi (.fn 15 [] []) [.agg (atV a C R G),.bool bad] h Q:=by
 refine told_ev hw x bad _ (fun h' s he=>?_) (fun h' s r hb=>?_) (fun h' s r hb hn=>?_) (fun h' v y Ps f r hb e hn=>?_)
 ·have e1:ZO a bad=Zn a:=if_pos he
  rw[←e1];exact q1 _ s (by rw[e1];exact he)
 ·have e1:ZO a bad=1:=by unfold ZO;rw[if_neg (by rw[Zz.2 r];simp),if_pos hb]
  have:=q1 _ s (by rw[e1];decide)
  rwa[e1] at this
 ·have e1:ZO a bad=7:=by unfold ZO;rw[if_neg (by rw[Zz.2 r];simp),if_neg (by rw[hb];simp),if_pos hn]
  have:=q1 _ s (by rw[e1];decide)
  rwa[e1] at this
 ·have hne:ZR a≠[]:=fun hc=>hn (List.map_eq_nil_iff.1 (e.trans hc))
  have e1:ZO a bad=0:=by unfold ZO;rw[if_neg (by rw[Zz.2 r];simp),if_neg (by rw[hb];simp),if_neg hne]
  have hPl:Ps.length≤15625:=by have:=Va r (fun _=>true);rw[←e,List.length_map] at this;exact this
  refine q2 _ v y Ps f.o.1 (f.o.sl yan) (fun p hp=>casesL_in r p.2 (by rw[←e];exact List.mem_map_of_mem hp)) (fun F ⟨p,hp,hF⟩=>?_) hn r hb e1 e f
  rw[←hF,YW,Yz,(f.e p hp).one,V6];rfl
set_option maxHeartbeats 1000000 in
theorem time_ev {h:H}(hw:h.wf){a:At}{C R G:V}(x:ZP h C R G a)(e:Int)(Q:V→H→Prop)
  (q:∀h',h.Sub h'→Q (.tup [spV (Xt a e).1,.ii (Xt a e).2]) h'):Ev fnG Zi (.fn 36 [] []) [.agg (atV a C R G),.ii e] h Q:=by
 have oC:=x.c.one;have oR:=x.r.one;have oG:=x.g.one
 have heq:ZO a (!evW a e)=ZO a (!a.evB e):=errT_bad fun r=>by rw[YU r]
 refine Ze (fd:=c36) rfl rfl rfl ?_
 simp -implicitDefEqProofs(disch:=first|omega|simp only[nZ]<;>omega|fail)only[c36,go_sem]
 have s2:h.Sub ((h.add (.bk (atV a C R G))).add (.bk [.ii 0,.ii 0])):=yaa
 have ga:((h.add (.bk (atV a C R G))).add (.bk [.ii 0,.ii 0])).get h.next=some (.bk (atV a C R G)):=by simp -implicitDefEqProofs(maxSteps:=999999)(disch:=first|with_reducible rfl|omega|(simp only[nA,nS,nD]<;>omega)|fail)only[go_sem]
 have g4:((h.add (.bk (atV a C R G))).add (.bk [.ii 0,.ii 0])).get (h.next+1)=some (.bk [.ii 0,.ii 0]):=by simp -implicitDefEqProofs(maxSteps:=999999)(disch:=first|with_reducible rfl|omega|(simp only[nA,nS,nD]<;>omega)|fail)only[go_sem]
 have n2:((h.add (.bk (atV a C R G))).add (.bk [.ii 0,.ii 0])).next=h.next+2:=by simp only[H.next_add]
 generalize(h.add (.bk (atV a C R G))).add (.bk [.ii 0,.ii 0])=h2 at s2 ga g4 n2⊢
 refine WM s2.wf a e _ fun h3 s3=>?_
 simp(disch:=omega)only[go_sem,Za ga,Za (s3.get ga)]
 have d0:decide ((0:Int)≠0)=false:=rfl
 refine VG s3.wf (x.mono (s2.trans s3)) (!evW a e) _ (fun h4 s4 he=>?_) fun h4 v y Ps s4 hx hl ho hne r hb he e' _=>?_
 ·have sx:=s3.trans s4
  have l4:=sx.next
  simp(disch:=omega)only[go_sem,Za ga,Za (s3.get ga),Za (sx.get ga),(decide_eq_true he:decide (ZO a (!evW a e)≠0)=true),sx.get g4,get_set_same]
  rw[heq] at he⊢
  have:=q _ ((s2.trans sx).set (b:=h.next+1) yab yab hw (.bk [.ii 0,.ii 0]))
  rwa[Xt,if_pos he] at this
 ·have sx:=s3.trans s4
  have l4:=sx.next
  have hev:a.evB e=true:=by rw[←YU r];simpa using hb
  obtain⟨k,rfl,hk⟩:=Xc r hev
  simp(disch:=omega)only[go_sem,Za ga,Za (s3.get ga),Za (sx.get ga),d0]
  refine between_ev s4.wf hx hl ho hne (f:=4) (t:=k) yah yab _ fun h5 s5=>?_
  have sy:=sx.trans s5
  have l5:=sy.next
  simp(disch:=omega)only[go_sem,sy.get g4,get_set_same]
  have:=q _ ((s2.trans sy).set (b:=h.next+1) yab yab hw (.bk [.ii (Xt a k).1.1,.ii (Xt a k).1.2]))
  rw[heq] at he
  have ht:Xt a k=(Xe 4 k (Ps.map fun p=>p.2.2),0):=by
   rw[Xt,if_neg (by rw[he];simp),Int.toNat_natCast,←e',List.map_map];rfl
  rw[ht] at this
  exact this
set_option maxHeartbeats 2000000 in
theorem btw_ev {h:H}(hw:h.wf){a:At}{C R G:V}(x:ZP h C R G a)(f t:Int)(Q:V→H→Prop)
  (q:∀h',h.Sub h'→Q (.tup [spV (Yd a f t).1,.ii (Yd a f t).2]) h'):Ev fnG Zi (.fn 38 [] []) [.agg (atV a C R G),.ii f,.ii t] h Q:=by
 have oC:=x.c.one;have oR:=x.r.one;have oG:=x.g.one
 have heq:ZO a (!evW a f|| !evW a t)=ZO a (!a.evB f|| !a.evB t):=errT_bad fun r=>by rw[YU r,YU r]
 refine Ze (fd:=c38) rfl rfl rfl ?_
 simp -implicitDefEqProofs(disch:=first|omega|simp only[nZ]<;>omega|fail)only[c38,go_sem]
 have s2:h.Sub ((h.add (.bk (atV a C R G))).add (.bk [.ii 0,.ii 0])):=yaa
 have ga:((h.add (.bk (atV a C R G))).add (.bk [.ii 0,.ii 0])).get h.next=some (.bk (atV a C R G)):=by simp -implicitDefEqProofs(maxSteps:=999999)(disch:=first|with_reducible rfl|omega|(simp only[nA,nS,nD]<;>omega)|fail)only[go_sem]
 have g4:((h.add (.bk (atV a C R G))).add (.bk [.ii 0,.ii 0])).get (h.next+1)=some (.bk [.ii 0,.ii 0]):=by simp -implicitDefEqProofs(maxSteps:=999999)(disch:=first|with_reducible rfl|omega|(simp only[nA,nS,nD]<;>omega)|fail)only[go_sem]
 have n2:((h.add (.bk (atV a C R G))).add (.bk [.ii 0,.ii 0])).next=h.next+2:=by simp only[H.next_add]
 generalize(h.add (.bk (atV a C R G))).add (.bk [.ii 0,.ii 0])=h2 at s2 ga g4 n2⊢
 have d0:decide ((0:Int)≠0)=false:=rfl
 refine WM s2.wf a f _ fun h3 s3=>?_
 have tail:∀hz:H,h2.Sub hz→∀bad,bad=(!evW a f|| !evW a t)→∀Q2:V→H→Prop,
   (∀h4,hz.Sub h4→ZO a bad≠0→Yd a f t=((0,0),ZO a bad)→Q2 (.tup [.nilp,.nils,.ii (ZO a bad)]) h4)→
   (∀h4 v y,hz.Sub h4→(∀Q3:V→H→Prop,(∀h5,h4.Sub h5→(Yd a f t).2=0→Q3 (spV (Yd a f t).1) h5)→Ev fnG Zi (.fn 83 [] []) [y,.ii f,.ii t] h4 Q3)→Q2 (.tup [v,y,.ii 0]) h4)→
   Ev fnG Zi (.fn 15 [] []) [.agg (atV a C R G),.bool bad] hz Q2:=fun hz sz bad hbad Q2 r1 r2=>by
  subst hbad
  refine VG sz.wf (x.mono (s2.trans sz)) _ _ (fun h4 s4 he=>r1 h4 s4 he ?_) fun h4 v y Ps s4 hx hl ho hne r hb he e' _=>r2 h4 v y s4 fun Q3 q3=>?_
  ·rw[heq] at he⊢;exact if_pos he
  ·rw[YU r,YU r] at hb
   have h1:a.evB f=true:=by cases hv:a.evB f<;>simp_all
   have h2:a.evB t=true:=by cases hv:a.evB t<;>simp_all
   obtain⟨kf,rfl,hkf⟩:=Xc r h1
   obtain⟨kt,rfl,hkt⟩:=Xc r h2
   rw[heq] at he
   have ht:Yd a kf kt=(Xe kf kt (Ps.map fun p=>p.2.2),0):=by
    rw[Yd,if_neg (by rw[he];simp),Int.toNat_natCast,Int.toNat_natCast,←e',List.map_map];rfl
   rw[ht] at q3
   exact between_ev s4.wf hx hl ho hne yab yab _ fun h5 s5=>q3 h5 s5 rfl
 cases hf:evW a f with
 |false=>
  rw[hf] at tail
  simp(disch:=omega)only[go_sem,Za ga,Za (s3.get ga)]
  refine tail h3 s3 true rfl _ (fun h4 s4 he hr=>?_) fun h4 v y s4 hbt=>?_
  ·have sx:=s3.trans s4
   have l4:=sx.next
   simp(disch:=omega)only[go_sem,Za ga,Za (s3.get ga),Za (sx.get ga),(decide_eq_true he:decide (ZO a true≠0)=true),sx.get g4,get_set_same]
   have:=q _ ((s2.trans sx).set (b:=h.next+1) yab yab hw (.bk [.ii 0,.ii 0]))
   rwa[hr] at this
  ·have sx:=s3.trans s4
   have l4:=sx.next
   simp(disch:=omega)only[go_sem,Za ga,Za (s3.get ga),Za (sx.get ga),d0]
   refine hbt _ fun h5 s5 e0=>?_
   have sy:=sx.trans s5
   have l5:=sy.next
   simp(disch:=omega)only[go_sem,sy.get g4,get_set_same]
   have:=q _ ((s2.trans sy).set (b:=h.next+1) yab yab hw (.bk [.ii (Yd a f t).1.1,.ii (Yd a f t).1.2]))
   rwa[e0] at this
 |true=>
  rw[hf] at tail
  simp(disch:=omega)only[go_sem,Za ga,Za (s3.get ga)]
  refine WM s3.wf a t _ fun h3' s3'=>?_
  have s33:=s3.trans s3'
  obtain⟨bt,hbt0⟩:∃bt,(!evW a t)=bt:=⟨_,rfl⟩
  simp(disch:=omega)only[go_sem,Za ga,Za (s3.get ga),Za (s33.get ga),hbt0]
  refine tail h3' s33 bt (by rw[←hbt0];rfl) _ (fun h4 s4 he hr=>?_) fun h4 v y s4 hbt=>?_
  ·have sx:=s33.trans s4
   have l4:=sx.next
   simp(disch:=omega)only[go_sem,Za ga,Za (s3.get ga),Za (s33.get ga),Za (sx.get ga),(decide_eq_true he:decide (ZO a bt≠0)=true),sx.get g4,get_set_same]
   have:=q _ ((s2.trans sx).set (b:=h.next+1) yab yab hw (.bk [.ii 0,.ii 0]))
   rwa[hr] at this
  ·have sx:=s33.trans s4
   have l4:=sx.next
   simp(disch:=omega)only[go_sem,Za ga,Za (s3.get ga),Za (s33.get ga),Za (sx.get ga),d0]
   refine hbt _ fun h5 s5 e0=>?_
   have sy:=sx.trans s5
   have l5:=sy.next
   simp(disch:=omega)only[go_sem,sy.get g4,get_set_same]
   have:=q _ ((s2.trans sy).set (b:=h.next+1) yab yab hw (.bk [.ii (Yd a f t).1.1,.ii (Yd a f t).1.2]))
   rwa[e0] at this
def XR (a:At)(f t:Int):Int × Int:=if(Yd a f t).2≠0 then(0,(Yd a f t).2) else if 0<(Yd a f t).1.1 then(1,0) else if(Yd a f t).1.2≤0 then(2,0) else(0,0)
set_option maxHeartbeats 1000000 in
theorem before_ev {h:H}(hw:h.wf){a:At}{C R G:V}(x:ZP h C R G a)(f t:Int)(Q:V→H→Prop)
  (q:∀h',h.Sub h'→Q (.tup [.ii (XR a f t).1,.ii (XR a f t).2]) h'):Ev fnG Zi (.fn 62 [] []) [.agg (atV a C R G),.ii f,.ii t] h Q:=by
 have oC:=x.c.one;have oR:=x.r.one;have oG:=x.g.one
 refine Ze (fd:=c62) rfl rfl rfl ?_
 simp(disch:=omega)only[c62,go_sem]
 have s1:h.Sub (h.add (.bk (atV a C R G))):=yaa
 generalize h.add (.bk (atV a C R G))=h1 at s1⊢
 refine btw_ev s1.wf (x.mono s1) f t _ fun h2 s2=>?_
 obtain⟨S,hS⟩:∃S,Yd a f t=S:=⟨_,rfl⟩
 obtain⟨⟨lo,hi⟩,er⟩:=S
 have sq:=q
 unfold XR at sq
 rw[hS] at sq⊢
 simp only at sq⊢
 have d0:decide ((0:Int)≠0)=false:=rfl
 have s3:=(s1.trans s2).add (.bk [.ii lo,.ii hi])
 by_cases he:er=0
 ·subst he
  simp only[ne_eq,not_true_eq_false, ↓reduceIte] at sq
  by_cases h1:0<lo
  ·rw[if_pos h1] at sq
   simp(disch:=omega)only[go_sem,d0,h1]
   exact sq _ s3
  ·rw[if_neg h1] at sq
   by_cases h2:hi≤0
   ·rw[if_pos h2] at sq
    simp(disch:=omega)only[go_sem,d0,h1,h2]
    exact sq _ s3
   ·rw[if_neg h2] at sq
    simp(disch:=omega)only[go_sem,d0,h1,h2]
    exact sq _ s3
 ·rw[if_pos he] at sq
  simp(disch:=omega)only[go_sem,(decide_eq_true he:decide (er≠0)=true)]
  exact sq _ s3
theorem fold_bd {f t:Nat}(hf:f<5)(ht:t<5):∀{l:List (List Int)} {s:Int × Int},(∀L∈l,In5 240 L)→ -240≤s.1∧s.1≤240∧ -240≤s.2∧s.2≤240→
  -240≤(l.foldl (fun s M=>(min s.1 (-(mg M t f)),max s.2 (mg M f t))) s).1∧(l.foldl (fun s M=>(min s.1 (-(mg M t f)),max s.2 (mg M f t))) s).1≤240∧ -240≤(l.foldl (fun s M=>(min s.1 (-(mg M t f)),max s.2 (mg M f t))) s).2∧(l.foldl (fun s M=>(min s.1 (-(mg M t f)),max s.2 (mg M f t))) s).2≤240
 |[],s,_,h=>h
 |L::l,s,hl,h=>by
  have hL:=hl L (List.mem_cons_self ..)
  have h1:=hL.lo t f ht hf;have h2:=hL.hi t f ht hf;have h3:=hL.lo f t hf ht;have h4:=hL.hi f t hf ht
  rw[List.foldl_cons]
  exact fold_bd hf ht (fun M hM=>hl M (List.mem_cons_of_mem _ hM)) (by show _≤min s.1 (-(mg L t f))∧min s.1 (-(mg L t f))≤_∧_≤max s.2 (mg L f t)∧max s.2 (mg L f t)≤_;omega)
theorem betw_bd {f t:Nat}(hf:f<5)(ht:t<5){l:List (List Int)}(hl:∀L∈l,In5 240 L): -240≤(Xe f t l).1∧(Xe f t l).1≤240∧ -240≤(Xe f t l).2∧(Xe f t l).2≤240:=by
 cases l with
 |nil=>show(-240:Int)≤0∧(0:Int)≤240∧(-240:Int)≤0∧(0:Int)≤240;omega
 |cons L l=>
  have hL:=hl L (List.mem_cons_self ..)
  have h1:=hL.lo t f ht hf;have h2:=hL.hi t f ht hf;have h3:=hL.lo f t hf ht;have h4:=hL.hi f t hf ht
  exact fold_bd hf ht hl (by show _≤ -(mg L t f)∧ -(mg L t f)≤_∧_≤mg L f t∧mg L f t≤_;omega)
theorem errT_right {a:At}{bad:Bool}(h:¬ZO a bad≠0):Zl a∧bad=false∧ZR a≠[]:=by
 unfold ZO at h
 split at h
 ·rename_i hc;exact absurd hc h
 ·rename_i hc
  split at h
  ·exact absurd yah h
  ·rename_i hb
   split at h
   ·exact absurd yah h
   ·rename_i hn
    exact⟨Zz.1 yab,by simpa using hb,hn⟩
theorem btwR_bd (a:At)(f t:Int): -240≤(Yd a f t).1.1∧(Yd a f t).1.1≤240∧ -240≤(Yd a f t).1.2∧(Yd a f t).1.2≤240:=by
 unfold Yd
 split
 ·show(-240:Int)≤0∧(0:Int)≤240∧(-240:Int)≤0∧(0:Int)≤240;omega
 ·rename_i h
  obtain⟨r,hb,_⟩:=errT_right h
  have h1:a.evB f=true:=by cases hv:a.evB f<;>simp_all
  have h2:a.evB t=true:=by cases hv:a.evB t<;>simp_all
  obtain⟨kf,rfl,hkf⟩:=Xc r h1
  obtain⟨kt,rfl,hkt⟩:=Xc r h2
  exact betw_bd yab yab fun L hL=>by
   obtain⟨t,ht,rfl⟩:=List.mem_map.1 hL
   exact casesL_in r t ht
def VC (n pay:Int):Int:=(max 0 n*pay).tdiv 60
def YV (a:At)(f t pay:Int):(Int × Int) × Int:=if Zn a≠0 then((0,0),Zn a) else if(!a.evB f|| !a.evB t)=true then((0,0),1) else if inB pay 0 600=false then((0,0),3) else if(Yd a f t).2≠0 then((0,0),(Yd a f t).2) else((VC (Yd a f t).1.1 pay,VC (Yd a f t).1.2 pay),0)
set_option maxHeartbeats 2000000 in
theorem wages_ev {h:H}(hw:h.wf){a:At}{C R G:V}(x:ZP h C R G a)(f t pay:Int)(Q:V→H→Prop)
  (q:∀h',h.Sub h'→Q (.tup [spV (YV a f t pay).1,.ii (YV a f t pay).2]) h'):Ev fnG Zi (.fn 40 [] []) [.agg (atV a C R G),.ii f,.ii t,.ii pay] h Q:=by
 have oC:=x.c.one;have oR:=x.r.one;have oG:=x.g.one
 refine Ze (fd:=c40) rfl rfl rfl ?_
 simp -implicitDefEqProofs(disch:=first|omega|simp only[nZ]<;>omega|fail)only[c40,go_sem]
 have s2:h.Sub ((h.add (.bk (atV a C R G))).add (.bk [.ii 0,.ii 0])):=yaa
 have ga:((h.add (.bk (atV a C R G))).add (.bk [.ii 0,.ii 0])).get h.next=some (.bk (atV a C R G)):=by simp -implicitDefEqProofs(maxSteps:=999999)(disch:=first|with_reducible rfl|omega|(simp only[nA,nS,nD]<;>omega)|fail)only[go_sem]
 have g4:((h.add (.bk (atV a C R G))).add (.bk [.ii 0,.ii 0])).get (h.next+1)=some (.bk [.ii 0,.ii 0]):=by simp -implicitDefEqProofs(maxSteps:=999999)(disch:=first|with_reducible rfl|omega|(simp only[nA,nS,nD]<;>omega)|fail)only[go_sem]
 have n2:((h.add (.bk (atV a C R G))).add (.bk [.ii 0,.ii 0])).next=h.next+2:=by simp only[H.next_add]
 generalize(h.add (.bk (atV a C R G))).add (.bk [.ii 0,.ii 0])=h2 at s2 ga g4 n2⊢
 have d0:decide ((0:Int)≠0)=false:=rfl
 have fin:∀hz:H,h2.Sub hz→∀(u v er:Int),YV a f t pay=((u,v),er)→Q (.tup [spV (u,v),.ii er]) (hz.set (h.next+1) (.bk [.ii u,.ii v])):=fun hz sz u v er e=>by
  have lz:=sz.next
  have:=q _ ((s2.trans sz).set (b:=h.next+1) yab yab hw (.bk [.ii u,.ii v]))
  rwa[e] at this
 refine Y9 s2.wf ⟨C,R,G,rfl,x.mono s2⟩ _ fun h3 s3=>?_
 by_cases he:Zn a=0
 case neg=>
  simp(disch:=omega)only[go_sem,Za (s3.get ga),(decide_eq_true he:decide (Zn a≠0)=true),s3.get g4,get_set_same]
  exact fin _ s3 _ _ _ (if_pos he)
 have r:=Zz.1 he
 have hwg:YV a f t pay=if(!a.evB f|| !a.evB t)=true then((0,0),1) else if inB pay 0 600=false then((0,0),3) else if(Yd a f t).2≠0 then((0,0),(Yd a f t).2) else((VC (Yd a f t).1.1 pay,VC (Yd a f t).1.2 pay),0):=if_neg (by rw[he];simp)
 rw[he]
 simp(disch:=omega)only[go_sem,Za (s3.get ga),d0]
 refine Ev_bound (WM s3.wf a f _ fun h4 s4=>?_)
 have s34:=s3.trans s4
 rw[YU r]
 cases hf:a.evB f with
 |false=>
  simp(disch:=omega)only[go_sem,s34.get g4,get_set_same]
  exact fin _ s34 _ _ _ (by rw[hwg,hf];rfl)
 |true=>
  simp(disch:=omega)only[go_sem]
  refine Ev_bound (WM s4.wf a t _ fun h5 s5=>?_)
  have s35:=s34.trans s5
  rw[YU r]
  cases ht:a.evB t with
  |false=>
   simp(disch:=omega)only[go_sem,s35.get g4,get_set_same]
   exact fin _ s35 _ _ _ (by rw[hwg,hf,ht];rfl)
  |true=>
   have hwg2:YV a f t pay=if inB pay 0 600=false then((0,0),3) else if(Yd a f t).2≠0 then((0,0),(Yd a f t).2) else((VC (Yd a f t).1.1 pay,VC (Yd a f t).1.2 pay),0):=by rw[hwg,hf,ht];rfl
   simp(disch:=omega)only[go_sem,Xx]
   cases hp:inB pay 0 600 with
   |false=>
    simp(disch:=omega)only[go_sem,s35.get g4,get_set_same]
    exact fin _ s35 _ _ _ (by rw[hwg2,hp];rfl)
   |true=>
    have hp':=(Zs ..).1 hp
    simp(disch:=omega)only[go_sem,Za (s35.get ga)]
    refine btw_ev s5.wf (x.mono (s2.trans s35)) f t _ fun h6 s6=>?_
    have s36:=s35.trans s6
    have l6:=s36.next
    have hbd:=btwR_bd a f t
    obtain⟨S,hS⟩:∃S,Yd a f t=S:=⟨_,rfl⟩
    obtain⟨⟨lo,hi⟩,er⟩:=S
    rw[hp,hS] at hwg2
    rw[hS] at hbd⊢
    simp only at hbd hwg2⊢
    have sC:=(H.Sub.refl s6.wf).add (.bk [.ii lo,.ii hi])
    have s3C:=s36.trans sC
    by_cases h0:er=0
    ·subst h0
     have m1:0≤max 0 lo*pay∧max 0 lo*pay≤240*600:=⟨Int.mul_nonneg yab hp'.1,Int.mul_le_mul yab hp'.2 hp'.1 yab⟩
     have m2:0≤max 0 hi*pay∧max 0 hi*pay≤240*600:=⟨Int.mul_nonneg yab hp'.1,Int.mul_le_mul yab hp'.2 hp'.1 yab⟩
     have t1:=Int.tdiv_eq_ediv_of_nonneg (b:=60) m1.1
     have t2:=Int.tdiv_eq_ediv_of_nonneg (b:=60) m2.1
     have w1:wr .i64 (max 0 lo*pay)=max 0 lo*pay:=Zo yab yab
     have w2:wr .i64 (max 0 hi*pay)=max 0 hi*pay:=Zo yab yab
     have w3:wr .i64 ((max 0 lo*pay).tdiv 60)=(max 0 lo*pay).tdiv 60:=Zo yab yab
     have w4:wr .i64 ((max 0 hi*pay).tdiv 60)=(max 0 hi*pay).tdiv 60:=Zo yab yab
     have hq:=fun n=>Yx .i64 (a:=n) (b:=60) yah
     simp(disch:=omega)only[go_sem,d0,hq,w1,w2,w3,w4,s3C.get g4,s36.get g4,get_set_same]
     exact fin _ s3C _ _ _ (by rw[hwg2];rfl)
    ·simp(disch:=omega)only[go_sem,(decide_eq_true h0:decide (er≠0)=true),s3C.get g4,s36.get g4,get_set_same]
     exact fin _ s3C _ _ _ (by rw[hwg2,if_neg (by simp),if_pos h0])
end Go.Ab.Tryz
namespace Go.Ab.Tryz
open Go.Proofs
theorem fold_le {f t:Nat}:∀{l:List (List Int)} {s:Int × Int},(l.foldl (fun s M=>(min s.1 (-(mg M t f)),max s.2 (mg M f t))) s).1≤s.1∧s.2≤(l.foldl (fun s M=>(min s.1 (-(mg M t f)),max s.2 (mg M f t))) s).2∧
  (∀M∈l,(l.foldl (fun s M=>(min s.1 (-(mg M t f)),max s.2 (mg M f t))) s).1≤ -(mg M t f)∧mg M f t≤(l.foldl (fun s M=>(min s.1 (-(mg M t f)),max s.2 (mg M f t))) s).2)
 |[],s=>⟨Int.le_refl _,Int.le_refl _,fun M h=>absurd h List.not_mem_nil⟩
 |L::l,s=>by
  rw[List.foldl_cons]
  obtain⟨h1,h2,h3⟩:=fold_le (f:=f) (t:=t) (l:=l) (s:=(min s.1 (-(mg L t f)),max s.2 (mg L f t)))
  generalize l.foldl (fun s M=>(min s.1 (-(mg M t f)),max s.2 (mg M f t))) (min s.1 (-(mg L t f)),max s.2 (mg L f t))=w at h1 h2 h3⊢
  simp only at h1 h2
  refine⟨by omega,by omega,fun M hM=>?_⟩
  rcases List.mem_cons.1 hM with rfl|hM
  ·omega
  ·exact h3 M hM
theorem fold_ex {f t:Nat}:∀{l:List (List Int)} {s:Int × Int},((l.foldl (fun s M=>(min s.1 (-(mg M t f)),max s.2 (mg M f t))) s).2=s.2∨∃M∈l,(l.foldl (fun s M=>(min s.1 (-(mg M t f)),max s.2 (mg M f t))) s).2=mg M f t)
 |[],s=>.inl rfl
 |L::l,s=>by
  rw[List.foldl_cons]
  rcases fold_ex (f:=f) (t:=t) (l:=l) (s:=(min s.1 (-(mg L t f)),max s.2 (mg L f t))) with h|⟨M,hM,h⟩
  ·rw[h]
   by_cases hc:mg L f t≤s.2
   ·exact .inl (by show max s.2 (mg L f t)=s.2;omega)
   ·exact .inr ⟨L,List.mem_cons_self ..,by show max s.2 (mg L f t)=mg L f t;omega⟩
  ·exact .inr ⟨M,List.mem_cons_of_mem _ hM,h⟩
theorem betw_ge {f t:Nat}{l:List (List Int)}{M:List Int}(h:M∈l):(Xe f t l).1≤ -(mg M t f)∧mg M f t≤(Xe f t l).2:=by
 cases l with
 |nil=>cases h
 |cons L l=>exact fold_le.2.2 M h
theorem betw_ex {f t:Nat}{l:List (List Int)}(h:l≠[]):∃M∈l,(Xe f t l).2=mg M f t:=by
 cases l with
 |nil=>exact absurd rfl h
 |cons L l=>
  rcases fold_ex (f:=f) (t:=t) (l:=L::l) (s:=(-(mg L t f),mg L f t)) with h|h
  ·exact⟨L,List.mem_cons_self ..,h⟩
  ·exact h
theorem fold_dual {f t:Nat}:∀{l:List (List Int)} {s:Int × Int},l.foldl (fun s M=>(min s.1 (-(mg M f t)),max s.2 (mg M t f))) (-s.2, -s.1)=(-(l.foldl (fun s M=>(min s.1 (-(mg M t f)),max s.2 (mg M f t))) s).2, -(l.foldl (fun s M=>(min s.1 (-(mg M t f)),max s.2 (mg M f t))) s).1)
 |[],s=>rfl
 |L::l,s=>by
  rw[List.foldl_cons,List.foldl_cons,←fold_dual (l:=l)]
  congr 1
  exact Prod.ext (by show min (-s.2) (-(mg L f t))= -(max s.2 (mg L f t));omega) (by show max (-s.1) (mg L t f)= -(min s.1 (-(mg L t f)));omega)
theorem betw_dual {f t:Nat}(l:List (List Int)):Xe t f l=(-(Xe f t l).2, -(Xe f t l).1):=by
 cases l with
 |nil=>rfl
 |cons L l=>
  have:=fold_dual (f:=f) (t:=t) (l:=L::l) (s:=(-(mg L t f),mg L f t))
  simp only[Int.neg_neg] at this
  exact this
theorem betw_tru {a:At}(r:Zl a){runs:ZZ}{y:Nat→Int}(h:Tru a (fun _=>true) runs y){f t:Nat}(hf:f<5)(ht:t<5):ZR a≠[]∧(Xe f t ((ZR a).map Prod.snd)).1≤y t-y f∧y t-y f≤(Xe f t ((ZR a).map Prod.snd)).2:=by
 obtain⟨L,hL⟩:=W9 r h
 have hs:=((Yn r hL).2.2.2 y h.beg).2 h
 have hb:(Xe f t ((ZR a).map Prod.snd)).1≤ -(mg L t f)∧mg L f t≤(Xe f t ((ZR a).map Prod.snd)).2:=betw_ge (f:=f) (t:=t) (List.mem_map_of_mem (f:=Prod.snd) hL)
 have h1:y t-y f≤mg L f t:=hs f t hf ht
 have h2:y f-y t≤mg L t f:=hs t f ht hf
 refine⟨fun e=>List.ne_nil_of_mem hL e,?_,?_⟩
 ·omega
 ·omega
end Go.Ab.Tryz
namespace Go.Ab
end Go.Ab
namespace Go.Ab.Tryz
open Go.Proofs
end Go.Ab.Tryz
