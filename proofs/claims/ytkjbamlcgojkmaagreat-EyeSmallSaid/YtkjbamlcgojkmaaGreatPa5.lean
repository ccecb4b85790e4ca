/- The shortest lists, and of these the first, for which something holds: plain Lean. -/
set_option linter.unusedVariables false
namespace Go.Ab.Silk
def YA:Nat→Nat→Int→List (List Int)
 |0,_,_=>[[]]
 |_+1,0,_=>[]
 |k+1,f+1,i=>(YA k f (i+1)).map (fun l=>i::l)++YA (k+1) f (i+1)
def ZI:List Int→List Int→Bool
 |a::l,b::r=>if a=b then ZI l r else decide (a<b)
 |_,_=>false
def before (a b:List Int):Bool:=if a.length=b.length then ZI a b else decide (a.length<b.length)
def Inc (hi:Int):Int→List Int→Prop
 |_,[]=>True
 |i,a::l=>i≤a∧a<hi∧Inc hi (a+1) l
theorem Inc.lower {hi:Int}:∀{i j:Int} {l:List Int},Inc hi i l→j≤i→Inc hi j l
 |_,_,[],_,_=>trivial
 |i,j,a::l,h,hj=>⟨by have:=h.1;omega,h.2.1,h.2.2⟩
theorem Inc.mem {hi:Int}:∀{i:Int} {l:List Int},Inc hi i l→∀x∈l,i≤x∧x<hi
 |_,[],_,x,hx=>by cases hx
 |i,a::l,h,x,hx=>by
  rcases List.mem_cons.1 hx with rfl|hx
  ·exact⟨h.1,h.2.1⟩
  ·have:=Inc.mem h.2.2 x hx;have:=h.1;omega
theorem Inc.len {hi:Int}:∀{i:Int} {l:List Int},Inc hi i l→i≤hi→(l.length:Int)≤hi-i
 |i,[],_,h=>by simp only[List.length_nil];omega
 |i,a::l,h,hl=>by
  have:=Inc.len h.2.2 (by have:=h.2.1;omega)
  have:=h.1
  simp only[List.length_cons];omega
theorem XB:∀(k f:Nat) (i:Int) (l:List Int),l∈YA k f i↔l.length=k∧Inc (i+f) i l
 |0,f,i,l=>by
  simp only[YA,List.mem_singleton]
  constructor
  ·rintro rfl;exact⟨rfl,trivial⟩
  ·rintro⟨h,_⟩;exact List.length_eq_zero_iff.1 h
 |k+1,0,i,l=>by
  simp only[YA,List.not_mem_nil,false_iff]
  rintro⟨h,h2⟩
  cases l with
  |nil=>cases h
  |cons a l=>have:=h2.1;have:=h2.2.1;omega
 |k+1,f+1,i,l=>by
  simp only[YA,List.mem_append,List.mem_map,XB k f (i+1),XB (k+1) f (i+1)]
  have e:i+1+(f:Int)=i+((f+1:Nat):Int):=by omega
  rw[e]
  constructor
  ·rintro(⟨c,⟨h1,h2⟩,rfl⟩|⟨h1,h2⟩)
   ·exact⟨by simp[h1],Int.le_refl _,by omega,h2⟩
   ·exact⟨h1,h2.lower (by omega)⟩
  ·rintro⟨h1,h2⟩
   cases l with
   |nil=>cases h1
   |cons a l=>
    simp only[List.length_cons,Nat.add_right_cancel_iff] at h1
    by_cases ha:a=i
    ·subst ha;exact .inl ⟨l,⟨h1,h2.2.2⟩,rfl⟩
    ·exact .inr ⟨by simp[h1],⟨by have:=h2.1;omega,h2.2.1,h2.2.2⟩⟩
theorem Wp:∀l,ZI l l=false
 |[]=>rfl
 |a::l=>by simp[ZI,Wp l]
theorem X5:∀{a b c:List Int},ZI a b=true→ZI b c=true→ZI a c=true
 |[],_,_,h,_=>by simp[ZI] at h
 |_::_,[],_,h,_=>by simp[ZI] at h
 |_::_,_::_,[],_,h=>by simp[ZI] at h
 |x::a,y::b,z::c,h1,h2=>by
  simp only[ZI] at *
  by_cases e1:x=y
  ·subst e1
   simp only[↓reduceIte] at h1
   by_cases e2:x=z
   ·subst e2
    simp only[↓reduceIte] at h2⊢
    exact X5 h1 h2
   ·rw[if_neg e2] at h2⊢;exact h2
  ·rw[if_neg e1] at h1
   by_cases e2:y=z
   ·subst e2;rw[if_neg e1];exact h1
   ·rw[if_neg e2] at h2
    simp only[decide_eq_true_eq] at h1 h2
    rw[if_neg (by omega)];simp only[decide_eq_true_eq];omega
theorem Va:∀{a b:List Int},a.length=b.length→ZI a b=false→a=b∨ZI b a=true
 |[],[],_,_=>.inl rfl
 |[],_::_,h,_=>by cases h
 |_::_,[],h,_=>by cases h
 |x::a,y::b,hl,h=>by
  simp only[ZI] at *
  by_cases e:x=y
  ·subst e
   simp only[↓reduceIte] at h⊢
   rcases Va (by simpa using hl) h with h|h
   ·exact .inl (by rw[h])
   ·exact .inr h
  ·rw[if_neg e] at h
   rw[if_neg (fun e'=>e e'.symm)]
   simp only[decide_eq_false_iff_not] at h
   exact .inr (by simp only[decide_eq_true_eq];omega)
theorem before_irrefl (l:List Int):before l l=false:=by simp[before,Wp]
theorem before_trans {a b c:List Int}(h1:before a b=true)(h2:before b c=true):before a c=true:=by
 unfold before at *
 by_cases e1:a.length=b.length
 ·rw[if_pos e1] at h1
  by_cases e2:b.length=c.length
  ·rw[if_pos e2] at h2;rw[if_pos (by omega)];exact X5 h1 h2
  ·rw[if_neg e2] at h2
   simp only[decide_eq_true_eq] at h2
   rw[if_neg (by omega)];simp only[decide_eq_true_eq];omega
 ·rw[if_neg e1] at h1
  simp only[decide_eq_true_eq] at h1
  by_cases e2:b.length=c.length
  ·rw[if_neg (by omega)];simp only[decide_eq_true_eq];omega
  ·rw[if_neg e2] at h2
   simp only[decide_eq_true_eq] at h2
   rw[if_neg (by omega)];simp only[decide_eq_true_eq];omega
theorem before_total {a b:List Int}(h:before a b=false):a=b∨before b a=true:=by
 unfold before at *
 by_cases e:a.length=b.length
 ·rw[if_pos e] at h;rw[if_pos e.symm];exact Va e h
 ·rw[if_neg e] at h
  rw[if_neg (fun e'=>e e'.symm)]
  simp only[decide_eq_false_iff_not,decide_eq_true_eq] at *
  exact .inr (by omega)
theorem Vx (P:List Int→Bool):∀(k f:Nat) (i:Int) {c:List Int},(YA k f i).find? P=some c→c∈YA k f i∧P c=true∧∀d∈YA k f i,P d=true→d=c∨ZI c d=true
 |0,f,i,c,h=>by
  simp only[YA] at *
  have h1:=List.mem_of_find?_eq_some h
  have h2:=List.find?_some h
  refine⟨h1,h2,fun d hd _=>.inl ?_⟩
  rw[List.mem_singleton] at h1 hd
  rw[h1,hd]
 |k+1,0,i,c,h=>by simp[YA] at h
 |k+1,f+1,i,c,h=>by
  simp only[YA] at *
  rw[List.find?_append] at h
  cases h1:((YA k f (i+1)).map (fun l=>i::l)).find? P with
  |some x=>
   rw[h1] at h
   have hx:x=c:=by simpa using h
   subst hx
   rw[List.find?_map] at h1
   rw[Option.map_eq_some_iff] at h1
   obtain⟨y,h1,rfl⟩:=h1
   obtain⟨m1,m2,m3⟩:=Vx (P∘ fun l=>i::l) k f (i+1) h1
   refine⟨List.mem_append.2 (.inl (List.mem_map.2 ⟨y,m1,rfl⟩)),m2,fun d hd hp=>?_⟩
   rcases List.mem_append.1 hd with hd|hd
   ·obtain⟨z,hz,rfl⟩:=List.mem_map.1 hd
    rcases m3 z hz hp with rfl|h
    ·exact .inl rfl
    ·exact .inr (by simp[ZI,h])
   ·right
    obtain⟨d1,d2⟩:=(XB _ _ _ _).1 hd
    cases d with
    |nil=>cases d1
    |cons a d=>
     have:=d2.1
     simp only[ZI]
     rw[if_neg (by omega)];simp only[decide_eq_true_eq];omega
  |none=>
   rw[h1] at h
   have h2:(YA (k+1) f (i+1)).find? P=some c:=by simpa using h
   obtain⟨m1,m2,m3⟩:=Vx P (k+1) f (i+1) h2
   refine⟨List.mem_append.2 (.inr m1),m2,fun d hd hp=>?_⟩
   rcases List.mem_append.1 hd with hd|hd
   ·have:=List.find?_eq_none.1 h1 d hd
    exact absurd hp this
   ·exact m3 d hd hp
def Yb (P:List Int→Bool)(W:Nat):Nat→Nat→Option (List Int)
 |0,_=>none
 |r+1,k=>match(YA k W 0).find? P with
  |some c=>some c
  |none=>Yb P W r (k+1)
structure VK (P:List Int→Bool)(W:Nat)(c:List Int):Prop where
 inc:Inc W 0 c
 holds:P c=true
 min:∀d,Inc W 0 d→P d=true→d=c∨before c d=true
theorem VK.uniq {P:List Int→Bool}{W:Nat}{c d:List Int}(h:VK P W c)(k:VK P W d):c=d:=by
 rcases h.min d k.inc k.holds with e|e
 ·exact e.symm
 ·rcases k.min c h.inc h.holds with e2|e2
  ·exact e2
  ·have:=before_trans e e2
   rw[before_irrefl] at this;cases this
theorem Wq (P:List Int→Bool)(W:Nat):∀(r k:Nat),r+k=W+1→(∀d,Inc W 0 d→d.length<k→P d=false)→
  (∃c,Yb P W r k=some c∧VK P W c)∨(Yb P W r k=none∧∀d,Inc W 0 d→P d=false)
 |0,k,hk,h=>.inr ⟨rfl,fun d hd=>h d hd (by have:=hd.len (by omega);omega)⟩
 |r+1,k,hk,h=>by
  simp only[Yb]
  cases hf:(YA k W 0).find? P with
  |some c=>
   obtain⟨m1,m2,m3⟩:=Vx P k W 0 hf
   obtain⟨c1,c2⟩:=(XB _ _ _ _).1 m1
   rw[Int.zero_add] at c2
   refine .inl ⟨c,rfl,c2,m2,fun d hd hp=>?_⟩
   have hl:¬d.length<k:=fun hl=>by rw[h d hd hl] at hp;cases hp
   by_cases e:d.length=k
   ·rcases m3 d ((XB _ _ _ _).2 ⟨e,by rw[Int.zero_add];exact hd⟩) hp with h1|h1
    ·exact .inl h1
    ·exact .inr (by unfold before;rw[if_pos (by omega)];exact h1)
   ·exact .inr (by unfold before;rw[if_neg (by omega)];simp only[decide_eq_true_eq];omega)
  |none=>
   refine Wq P W r (k+1) (by omega) fun d hd hl=>?_
   by_cases e:d.length=k
   ·have:=List.find?_eq_none.1 hf d ((XB _ _ _ _).2 ⟨e,by rw[Int.zero_add];exact hd⟩)
    simpa using this
   ·exact h d hd (by omega)
def Zo:Nat→Int→Int→List Int
 |0,_,_=>[]
 |k+1,s,i=>if s%2=1 then i::Zo k (s/2) (i+1) else Zo k (s/2) (i+1)
theorem VE:∀(k:Nat) (s i:Int),Inc (i+k) i (Zo k s i)
 |0,_,_=>trivial
 |k+1,s,i=>by
  have ih:=VE k (s/2) (i+1)
  have e:i+1+(k:Int)=i+((k+1:Nat):Int):=by omega
  rw[e] at ih
  simp only[Zo]
  split
  ·exact⟨Int.le_refl _,by omega,ih⟩
  ·exact ih.lower (by omega)
theorem YV:∀(k:Nat) (i:Int) (d:List Int),Inc (i+k) i d→∃s:Int,0≤s∧s<2^k∧Zo k s i=d
 |0,i,[],_=>⟨0,by omega,by decide,rfl⟩
 |0,i,a::d,h=>by have:=h.1;have:=h.2.1;omega
 |k+1,i,d,h=>by
  have e:i+1+(k:Int)=i+((k+1:Nat):Int):=by omega
  have p2:(2:Int)^(k+1)=2^k*2:=Int.pow_succ 2 k
  by_cases hd:∃l,d=i::l
  ·obtain⟨l,rfl⟩:=hd
   obtain⟨s,s0,s1,hs⟩:=YV k (i+1) l (by rw[e];exact h.2.2)
   refine⟨2*s+1,by omega,by omega,?_⟩
   simp only[Zo]
   rw[if_pos (by omega),show(2*s+1)/2=s by omega,hs]
  ·have h2:Inc (i+1+k) (i+1) d:=by
    rw[e]
    cases d with
    |nil=>trivial
    |cons a l=>exact⟨by have:=h.1;have:a≠i:=fun e=>hd ⟨l,by rw[e]⟩;omega,h.2.1,h.2.2⟩
   obtain⟨s,s0,s1,hs⟩:=YV k (i+1) d h2
   refine⟨2*s,by omega,by omega,?_⟩
   simp only[Zo]
   rw[if_neg (by omega),show(2*s)/2=s by omega,hs]
def Z4 (P:List Int→Bool)(W:Nat)(s0 s:Int)(best:Option (List Int)):Prop:=match best with
 |none=>∀t,s0≤t→t<s→P (Zo W t 0)=false
 |some c=>(∃t,c=Zo W t 0)∧P c=true∧∀t,s0≤t→t<s→P (Zo W t 0)=true→Zo W t 0=c∨before c (Zo W t 0)=true
theorem Z4.zero (P:List Int→Bool)(W:Nat)(s0:Int):Z4 P W s0 s0 none:=fun t h1 h2=>by omega
theorem Z4.take {P:List Int→Bool}{W:Nat}{s0 s:Int}{best:Option (List Int)}(h:Z4 P W s0 s best)(hp:P (Zo W s 0)=true)(hb:∀c,best=some c→before (Zo W s 0) c=true):Z4 P W s0 (s+1) (some (Zo W s 0)):=by
 refine⟨⟨s,rfl⟩,hp,fun t t0 t1 ht=>?_⟩
 by_cases e:t=s
 ·subst e;exact .inl rfl
 ·cases best with
  |none=>have:=h t t0 (by omega);rw[this] at ht;cases ht
  |some c=>
   right
   rcases h.2.2 t t0 (by omega) ht with h1|h1
   ·rw[h1];exact hb c rfl
   ·exact before_trans (hb c rfl) h1
theorem Z4.skip {P:List Int→Bool}{W:Nat}{s0 s:Int}{best:Option (List Int)}(h:Z4 P W s0 s best)(hp:P (Zo W s 0)=false∨∃c,best=some c∧before (Zo W s 0) c=false):Z4 P W s0 (s+1) best:=by
 cases best with
 |none=>
  intro t t0 t1
  by_cases e:t=s
  ·subst e
   rcases hp with hp|⟨c,hc,_⟩
   ·exact hp
   ·cases hc
  ·exact h t t0 (by omega)
 |some c=>
  refine⟨h.1,h.2.1,fun t t0 t1 ht=>?_⟩
  by_cases e:t=s
  ·subst e
   rcases hp with hp|⟨c',hc,hb⟩
   ·rw[hp] at ht;cases ht
   ·cases hc;exact before_total hb
  ·exact h.2.2 t t0 (by omega) ht
theorem Z4.last {P:List Int→Bool}{W:Nat}{s0:Int}{best:Option (List Int)}(h0:0≤s0)(h:Z4 P W s0 (2^W) best)(hs:∀t,0≤t→t<s0→P (Zo W t 0)=false):
  best=Yb P W (W+1) 0:=by
 have inc:∀t,Inc W 0 (Zo W t 0):=fun t=>by have:=VE W t 0;rwa[Int.zero_add] at this
 have onto:∀d,Inc W 0 d→∃s:Int,0≤s∧s<2^W∧Zo W s 0=d:=fun d hd=>YV W 0 d (by rw[Int.zero_add];exact hd)
 rcases Wq P W (W+1) 0 (by omega) (fun d _ h=>by omega) with⟨c,e,m⟩|⟨e,m⟩
 ·rw[e]
  cases best with
  |none=>
   obtain⟨t,t0,t1,rfl⟩:=onto c m.inc
   have hm:=m.holds
   by_cases ht:t<s0
   ·rw[hs t t0 ht] at hm;cases hm
   ·rw[h t (by omega) t1] at hm;cases hm
  |some d=>
   obtain⟨⟨t,rfl⟩,h2,h3⟩:=h
   have:VK P W (Zo W t 0):=⟨inc t,h2,fun d hd hp=>by
    obtain⟨u,u0,u1,rfl⟩:=onto d hd
    by_cases hu:u<s0
    ·rw[hs u u0 hu] at hp;cases hp
    ·exact h3 u (by omega) u1 hp⟩
   rw[this.uniq m]
 ·rw[e]
  cases best with
  |none=>rfl
  |some d=>
   obtain⟨⟨t,rfl⟩,h2,h3⟩:=h
   rw[m _ (inc t)] at h2;cases h2
end Go.Ab.Silk
