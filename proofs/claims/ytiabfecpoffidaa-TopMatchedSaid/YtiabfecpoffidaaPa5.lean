/- The shortest lists, and of these the first, for which something holds: plain Lean. -/
set_option linter.unusedVariables false
namespace Go.Ab.Silk
def comb:Nat→Nat→Int→List (List Int)
 |0,_,_=>[[]]
 |_+1,0,_=>[]
 |k+1,f+1,i=>(comb k f (i+1)).map (fun l=>i::l)++comb (k+1) f (i+1)
def lexlt:List Int→List Int→Bool
 |a::l,b::r=>if a=b then lexlt l r else decide (a<b)
 |_,_=>false
def before (a b:List Int):Bool:=if a.length=b.length then lexlt a b else decide (a.length<b.length)
def Inc (hi:Int):Int→List Int→Prop
 |_,[]=>True
 |i,a::l=>i≤a∧a<hi∧Inc hi (a+1) l
theorem Inc.lower {hi:Int}:∀{i j:Int} {l:List Int},Inc hi i l→j≤i→Inc hi j l
 |_,_,[],_,_=>trivial
 |i,j,a::l,h,hj=>⟨by have:=h.1;omega,h.2.1,h.2.2⟩
theorem Inc.mem {hi:Int}:∀{i:Int} {l:List Int},Inc hi i l→∀x∈l,i≤x∧x<hi
 |_,[],_,x,hx=>by cases hx
 |i,a::l,h,x,hx=>by
  rcases List.mem_cons.1 hx with rfl|hx
  ·exact⟨h.1,h.2.1⟩
  ·have:=Inc.mem h.2.2 x hx;have:=h.1;omega
theorem Inc.len {hi:Int}:∀{i:Int} {l:List Int},Inc hi i l→i≤hi→(l.length:Int)≤hi-i
 |i,[],_,h=>by simp only[List.length_nil];omega
 |i,a::l,h,hl=>by
  have:=Inc.len h.2.2 (by have:=h.2.1;omega)
  have:=h.1
  simp only[List.length_cons];omega
theorem mem_comb:∀(k f:Nat) (i:Int) (l:List Int),l∈comb k f i↔l.length=k∧Inc (i+f) i l
 |0,f,i,l=>by
  simp only[comb,List.mem_singleton]
  constructor
  ·rintro rfl;exact⟨rfl,trivial⟩
  ·rintro⟨h,_⟩;exact List.length_eq_zero_iff.1 h
 |k+1,0,i,l=>by
  simp only[comb,List.not_mem_nil,false_iff]
  rintro⟨h,h2⟩
  cases l with
  |nil=>cases h
  |cons a l=>have:=h2.1;have:=h2.2.1;omega
 |k+1,f+1,i,l=>by
  simp only[comb,List.mem_append,List.mem_map,mem_comb k f (i+1),mem_comb (k+1) f (i+1)]
  have e:i+1+(f:Int)=i+((f+1:Nat):Int):=by omega
  rw[e]
  constructor
  ·rintro(⟨c,⟨h1,h2⟩,rfl⟩|⟨h1,h2⟩)
   ·exact⟨by simp[h1],Int.le_refl _,by omega,h2⟩
   ·exact⟨h1,h2.lower (by omega)⟩
  ·rintro⟨h1,h2⟩
   cases l with
   |nil=>cases h1
   |cons a l=>
    simp only[List.length_cons,Nat.add_right_cancel_iff] at h1
    by_cases ha:a=i
    ·subst ha;exact .inl ⟨l,⟨h1,h2.2.2⟩,rfl⟩
    ·exact .inr ⟨by simp[h1],⟨by have:=h2.1;omega,h2.2.1,h2.2.2⟩⟩
theorem lexlt_irrefl:∀l,lexlt l l=false
 |[]=>rfl
 |a::l=>by simp[lexlt,lexlt_irrefl l]
theorem lexlt_trans:∀{a b c:List Int},lexlt a b=true→lexlt b c=true→lexlt a c=true
 |[],_,_,h,_=>by simp[lexlt] at h
 |_::_,[],_,h,_=>by simp[lexlt] at h
 |_::_,_::_,[],_,h=>by simp[lexlt] at h
 |x::a,y::b,z::c,h1,h2=>by
  simp only[lexlt] at *
  by_cases e1:x=y
  ·subst e1
   simp only[↓reduceIte] at h1
   by_cases e2:x=z
   ·subst e2
    simp only[↓reduceIte] at h2⊢
    exact lexlt_trans h1 h2
   ·rw[if_neg e2] at h2⊢;exact h2
  ·rw[if_neg e1] at h1
   by_cases e2:y=z
   ·subst e2;rw[if_neg e1];exact h1
   ·rw[if_neg e2] at h2
    simp only[decide_eq_true_eq] at h1 h2
    rw[if_neg (by omega)];simp only[decide_eq_true_eq];omega
theorem lexlt_total:∀{a b:List Int},a.length=b.length→lexlt a b=false→a=b∨lexlt b a=true
 |[],[],_,_=>.inl rfl
 |[],_::_,h,_=>by cases h
 |_::_,[],h,_=>by cases h
 |x::a,y::b,hl,h=>by
  simp only[lexlt] at *
  by_cases e:x=y
  ·subst e
   simp only[↓reduceIte] at h⊢
   rcases lexlt_total (by simpa using hl) h with h|h
   ·exact .inl (by rw[h])
   ·exact .inr h
  ·rw[if_neg e] at h
   rw[if_neg (fun e'=>e e'.symm)]
   simp only[decide_eq_false_iff_not] at h
   exact .inr (by simp only[decide_eq_true_eq];omega)
theorem find_min (P:List Int→Bool):∀(k f:Nat) (i:Int) {c:List Int},(comb k f i).find? P=some c→c∈comb k f i∧P c=true∧∀d∈comb k f i,P d=true→d=c∨lexlt c d=true
 |0,f,i,c,h=>by
  simp only[comb] at *
  have h1:=List.mem_of_find?_eq_some h
  have h2:=List.find?_some h
  refine⟨h1,h2,fun d hd _=>.inl ?_⟩
  rw[List.mem_singleton] at h1 hd
  rw[h1,hd]
 |k+1,0,i,c,h=>by simp[comb] at h
 |k+1,f+1,i,c,h=>by
  simp only[comb] at *
  rw[List.find?_append] at h
  cases h1:((comb k f (i+1)).map (fun l=>i::l)).find? P with
  |some x=>
   rw[h1] at h
   have hx:x=c:=by simpa using h
   subst hx
   rw[List.find?_map] at h1
   rw[Option.map_eq_some_iff] at h1
   obtain⟨y,h1,rfl⟩:=h1
   obtain⟨m1,m2,m3⟩:=find_min (P∘ fun l=>i::l) k f (i+1) h1
   refine⟨List.mem_append.2 (.inl (List.mem_map.2 ⟨y,m1,rfl⟩)),m2,fun d hd hp=>?_⟩
   rcases List.mem_append.1 hd with hd|hd
   ·obtain⟨z,hz,rfl⟩:=List.mem_map.1 hd
    rcases m3 z hz hp with rfl|h
    ·exact .inl rfl
    ·exact .inr (by simp[lexlt,h])
   ·right
    obtain⟨d1,d2⟩:=(mem_comb _ _ _ _).1 hd
    cases d with
    |nil=>cases d1
    |cons a d=>
     have:=d2.1
     simp only[lexlt]
     rw[if_neg (by omega)];simp only[decide_eq_true_eq];omega
  |none=>
   rw[h1] at h
   have h2:(comb (k+1) f (i+1)).find? P=some c:=by simpa using h
   obtain⟨m1,m2,m3⟩:=find_min P (k+1) f (i+1) h2
   refine⟨List.mem_append.2 (.inr m1),m2,fun d hd hp=>?_⟩
   rcases List.mem_append.1 hd with hd|hd
   ·have:=List.find?_eq_none.1 h1 d hd
    exact absurd hp this
   ·exact m3 d hd hp
def firstOf (P:List Int→Bool)(W:Nat):Nat→Nat→Option (List Int)
 |0,_=>none
 |r+1,k=>match(comb k W 0).find? P with
  |some c=>some c
  |none=>firstOf P W r (k+1)
structure IsMin (P:List Int→Bool)(W:Nat)(c:List Int):Prop where
 inc:Inc W 0 c
 holds:P c=true
 min:∀d,Inc W 0 d→P d=true→d=c∨before c d=true
theorem firstOf_spec (P:List Int→Bool)(W:Nat):∀(r k:Nat),r+k=W+1→(∀d,Inc W 0 d→d.length<k→P d=false)→
  (∃c,firstOf P W r k=some c∧IsMin P W c)∨(firstOf P W r k=none∧∀d,Inc W 0 d→P d=false)
 |0,k,hk,h=>.inr ⟨rfl,fun d hd=>h d hd (by have:=hd.len (by omega);omega)⟩
 |r+1,k,hk,h=>by
  simp only[firstOf]
  cases hf:(comb k W 0).find? P with
  |some c=>
   obtain⟨m1,m2,m3⟩:=find_min P k W 0 hf
   obtain⟨c1,c2⟩:=(mem_comb _ _ _ _).1 m1
   rw[Int.zero_add] at c2
   refine .inl ⟨c,rfl,c2,m2,fun d hd hp=>?_⟩
   have hl:¬d.length<k:=fun hl=>by rw[h d hd hl] at hp;cases hp
   by_cases e:d.length=k
   ·rcases m3 d ((mem_comb _ _ _ _).2 ⟨e,by rw[Int.zero_add];exact hd⟩) hp with h1|h1
    ·exact .inl h1
    ·exact .inr (by unfold before;rw[if_pos (by omega)];exact h1)
   ·exact .inr (by unfold before;rw[if_neg (by omega)];simp only[decide_eq_true_eq];omega)
  |none=>
   refine firstOf_spec P W r (k+1) (by omega) fun d hd hl=>?_
   by_cases e:d.length=k
   ·have:=List.find?_eq_none.1 hf d ((mem_comb _ _ _ _).2 ⟨e,by rw[Int.zero_add];exact hd⟩)
    simpa using this
   ·exact h d hd (by omega)
def bitsL:Nat→Int→Int→List Int
 |0,_,_=>[]
 |k+1,s,i=>if s%2=1 then i::bitsL k (s/2) (i+1) else bitsL k (s/2) (i+1)
theorem bitsL_inc:∀(k:Nat) (s i:Int),Inc (i+k) i (bitsL k s i)
 |0,_,_=>trivial
 |k+1,s,i=>by
  have ih:=bitsL_inc k (s/2) (i+1)
  have e:i+1+(k:Int)=i+((k+1:Nat):Int):=by omega
  rw[e] at ih
  simp only[bitsL]
  split
  ·exact⟨Int.le_refl _,by omega,ih⟩
  ·exact ih.lower (by omega)
theorem bitsL_onto:∀(k:Nat) (i:Int) (d:List Int),Inc (i+k) i d→∃s:Int,0≤s∧s<2^k∧bitsL k s i=d
 |0,i,[],_=>⟨0,by omega,by decide,rfl⟩
 |0,i,a::d,h=>by have:=h.1;have:=h.2.1;omega
 |k+1,i,d,h=>by
  have e:i+1+(k:Int)=i+((k+1:Nat):Int):=by omega
  have p2:(2:Int)^(k+1)=2^k*2:=Int.pow_succ 2 k
  by_cases hd:∃l,d=i::l
  ·obtain⟨l,rfl⟩:=hd
   obtain⟨s,s0,s1,hs⟩:=bitsL_onto k (i+1) l (by rw[e];exact h.2.2)
   refine⟨2*s+1,by omega,by omega,?_⟩
   simp only[bitsL]
   rw[if_pos (by omega),show(2*s+1)/2=s by omega,hs]
  ·have h2:Inc (i+1+k) (i+1) d:=by
    rw[e]
    cases d with
    |nil=>trivial
    |cons a l=>exact⟨by have:=h.1;have:a≠i:=fun e=>hd ⟨l,by rw[e]⟩;omega,h.2.1,h.2.2⟩
   obtain⟨s,s0,s1,hs⟩:=bitsL_onto k (i+1) d h2
   refine⟨2*s,by omega,by omega,?_⟩
   simp only[bitsL]
   rw[if_neg (by omega),show(2*s)/2=s by omega,hs]
end Go.Ab.Silk
