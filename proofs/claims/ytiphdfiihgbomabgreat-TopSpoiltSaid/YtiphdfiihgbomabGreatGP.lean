/- Shares between consistent bounds, and their tables: plain Lean. Forests of lots, and weights between bounds: plain Lean, no program in sight. Bounds that are made as narrow as they can be, by passes: plain Lean. How much of a forest is of a kind: plain Lean. Sums by kind, weight by weight: closed forms. Plain Lean. -/
set_option linter.unusedSimpArgs false
set_option linter.unusedVariables false
namespace Go.Ab.Silk
def sumL (x:Int→Int):List Int→Int
 |[]=>0
 |p::l=>x p+sumL x l
def up1 (x:Int→Int)(i v:Int):Int→Int:=fun k=>if k=i then v else x k
theorem up1_same (x:Int→Int)(i v:Int):up1 x i v i=v:=by simp[up1]
theorem up1_ne (x:Int→Int){i k:Int}(v:Int)(h:k≠i):up1 x i v k=x k:=by simp[up1,h]
theorem sumL_congr {x y:Int→Int}:∀{l:List Int},(∀p∈l,x p=y p)→sumL x l=sumL y l
 |[],_=>rfl
 |p::l,h=>by
  simp only[sumL]
  rw[h p (by simp),sumL_congr fun q hq=>h q (by simp[hq])]
theorem sumL_mono {x y:Int→Int}:∀{l:List Int},(∀p∈l,x p≤y p)→sumL x l≤sumL y l
 |[],_=>Int.le_refl _
 |p::l,h=>by
  have h1:=h p (by simp)
  have h2:=sumL_mono (l:=l) fun q hq=>h q (by simp[hq])
  simp only[sumL];omega
theorem sumL_up1_out {x:Int→Int}{i v:Int}{l:List Int}(h:i ∉l):sumL (up1 x i v) l=sumL x l:=
 sumL_congr fun p hp=>up1_ne x v fun e=>h (e▸hp)
theorem sumL_up1 {x:Int→Int}{i v:Int}:∀{l:List Int},l.Nodup→i∈l→sumL (up1 x i v) l=sumL x l-x i+v
 |[],_,h=>by simp at h
 |p::l,hn,h=>by
  rw[List.nodup_cons] at hn
  simp only[sumL]
  by_cases e:i=p
  ·subst e
   rw[sumL_up1_out hn.1,up1_same];omega
  ·have h2:i∈l:=by
    rcases List.mem_cons.1 h with h|h
    ·exact absurd h e
    ·exact h
   rw[sumL_up1 hn.2 h2,up1_ne x v (fun e'=>e e'.symm)];omega
theorem sumL_nonneg {x:Int→Int}{l:List Int}(h:∀p∈l,0≤x p):0≤sumL x l:=by
 induction l with
 |nil=>exact Int.le_refl _
 |cons p l ih=>
  have:=h p (by simp)
  have:=ih fun q hq=>h q (by simp[hq])
  simp only[sumL];omega
theorem sumL_add (x y:Int→Int)(l:List Int):sumL (fun i=>x i+y i) l=sumL x l+sumL y l:=by
 induction l with
 |nil=>rfl
 |cons p l ih=>simp only[sumL,ih];omega
theorem sumL_sub (x y:Int→Int)(l:List Int):sumL (fun i=>x i-y i) l=sumL x l-sumL y l:=by
 induction l with
 |nil=>rfl
 |cons p l ih=>simp only[sumL,ih];omega
theorem sumL_append (x:Int→Int)(l r:List Int):sumL x (l++r)=sumL x l+sumL x r:=by
 induction l with
 |nil=>simp[sumL]
 |cons p l ih=>simp only[List.cons_append,sumL,ih];omega
theorem pick:∀(ps:List Int) (lo hi:Int→Int) (v:Int),ps.Nodup→(∀p∈ps,lo p≤hi p)→sumL lo ps≤v→v≤sumL hi ps→
  ∃x:Int→Int,(∀p∈ps,lo p≤x p∧x p≤hi p)∧sumL x ps=v
 |[],_,_,v,_,_,h1,h2=>⟨fun _=>0,by simp,by simp only[sumL] at *;omega⟩
 |p::l,lo,hi,v,hn,hb,h1,h2=>by
  rw[List.nodup_cons] at hn
  have hp:=hb p (by simp)
  have hm:=sumL_mono (l:=l) fun q hq=>hb q (by simp[hq])
  simp only[sumL] at h1 h2
  obtain⟨x,h3,h4⟩:=pick l lo hi (v-max (lo p) (v-sumL hi l)) hn.2 (fun q hq=>hb q (by simp[hq])) (by omega) (by omega)
  refine⟨up1 x p (max (lo p) (v-sumL hi l)),fun q hq=>?_,?_⟩
  ·by_cases e:q=p
   ·subst e;rw[up1_same];omega
   ·rw[up1_ne x _ e]
    refine h3 q ?_
    rcases List.mem_cons.1 hq with h|h
    ·exact absurd h e
    ·exact h
  ·simp only[sumL]
   rw[up1_same,sumL_up1_out hn.1];omega
structure Forest (n:Nat)(frm:Int→Int)(parts:Int→List Int):Prop where
 lt:∀i:Int,0≤i→i<n→ -1≤frm i∧frm i<i
 mem:∀i p,p∈parts i↔0≤p∧p<n∧frm p=i
 nodup:∀i,(parts i).Nodup
section
variable {n:Nat} {frm:Int→Int} {parts:Int→List Int}
def wOf (frm:Int→Int)(f:Int→Int→Int→Int)(root:Int→Int):Nat→Int→Int
 |0,i=>root i
 |k+1,i=>if frm i<0 then root i else f (frm i) (wOf frm f root k (frm i)) i
theorem wOf_any (F:Forest n frm parts)(f:Int→Int→Int→Int)(root:Int→Int):∀(k j:Nat) (i:Int),0≤i→i<n→i<k→i<j→wOf frm f root k i=wOf frm f root j i
 |0,_,i,h0,_,h,_=>by omega
 |_+1,0,i,h0,_,_,h=>by omega
 |k+1,j+1,i,h0,h1,h2,h3=>by
  have hf:=F.lt i h0 h1
  simp only[wOf]
  by_cases h:frm i<0
  ·simp[h]
  ·simp only[h, ↓reduceIte]
   rw[wOf_any F f root k j (frm i) (by omega) (by omega) (by omega) (by omega)]
theorem fill (F:Forest n frm parts)(S:Int→Int→Prop)(A:Int→Int→(Int→Int)→Prop)
  (step:∀i v:Int,0≤i→i<n→S i v→parts i≠[]→∃x:Int→Int,(∀p∈parts i,S p (x p))∧A i v x)
  (root:Int→Int) (hroot:∀i:Int,0≤i→i<n→frm i<0→S i (root i)):
  ∃w:Int→Int,(∀i:Int,0≤i→i<n→S i (w i))∧(∀i:Int,0≤i→i<n→frm i<0→w i=root i)∧
   ∀i:Int,0≤i→i<n→parts i≠[]→∃x,A i (w i) x∧∀p∈parts i,w p=x p:=by
 classical
 let f:Int→Int→Int→Int:=fun i v=>if h:∃x:Int→Int,(∀p∈parts i,S p (x p))∧A i v x then Classical.choose h else fun _=>0
 let w:Int→Int:=wOf frm f root n
 have hroot':∀i:Int,0≤i→i<n→frm i<0→w i=root i:=by
  intro i h0 h1 h
  show wOf frm f root n i=root i
  cases n with
  |zero=>omega
  |succ k=>simp[wOf,h]
 have hpart:∀i:Int,0≤i→i<n→0≤frm i→w i=f (frm i) (w (frm i)) i:=by
  intro i h0 h1 h
  show wOf frm f root n i=_
  have hf:=F.lt i h0 h1
  rw[wOf_any F f root n (n+1) i h0 h1 h1 (by omega)]
  simp only[wOf]
  rw[if_neg (by omega)]
 have hS:∀(k:Nat) (i:Int),i<k→0≤i→i<n→S i (w i):=by
  intro k
  induction k with
  |zero=>intro i h1 h2;omega
  |succ k ih=>
   intro i hk h0 h1
   have hf:=F.lt i h0 h1
   by_cases h:frm i<0
   ·rw[hroot' i h0 h1 h];exact hroot i h0 h1 h
   ·have hp:i∈parts (frm i):=(F.mem _ _).2 ⟨h0,h1,rfl⟩
    have hx:=step (frm i) (w (frm i)) (by omega) (by omega) (ih (frm i) (by omega) (by omega) (by omega)) (fun e=>by rw[e] at hp;cases hp)
    rw[hpart i h0 h1 (by omega)]
    simp only[f,dif_pos hx]
    exact(Classical.choose_spec hx).1 i hp
 have hS':∀i:Int,0≤i→i<n→S i (w i):=fun i h0 h1=>hS n i h1 h0 h1
 refine⟨w,hS',hroot',fun i h0 h1 hne=>?_⟩
 have hx:=step i (w i) h0 h1 (hS' i h0 h1) hne
 refine⟨Classical.choose hx,(Classical.choose_spec hx).2,fun p hp=>?_⟩
 obtain⟨p0,p1,pf⟩:=(F.mem _ _).1 hp
 rw[hpart p p0 p1 (by omega),pf]
 simp only[f,dif_pos hx]
abbrev Box:=Int→Int × Int
def Feas (n:Nat)(parts:Int→List Int)(B:Box)(w:Int→Int):Prop:=
 (∀i:Int,0≤i→i<n→(B i).1≤w i∧w i≤(B i).2)∧∀i:Int,0≤i→i<n→parts i≠[]→w i=sumL w (parts i)
inductive Anc (frm:Int→Int) (j:Int):Int→Prop where
 |self:Anc frm j j
 |up {k:Int}:Anc frm j k→0≤frm k→Anc frm j (frm k)
theorem Anc.down {j k:Int}(a:Anc frm j k):k=j∨(0≤frm j∧Anc frm (frm j) k):=by
 induction a with
 |self=>exact .inl rfl
 |up _ h0 ih=>
  rcases ih with rfl|⟨h1,h2⟩
  ·exact .inr ⟨h0,.self⟩
  ·exact .inr ⟨h1,.up h2 h0⟩
theorem Anc.le (F:Forest n frm parts){j k:Int}(a:Anc frm j k)(h0:0≤j)(h1:j<n):0≤k∧k≤j:=by
 induction a with
 |self=>exact⟨h0,Int.le_refl _⟩
 |up _ h2 ih=>have:=F.lt _ ih.1 (by omega);omega
theorem Anc.one (F:Forest n frm parts){j p q:Int}(h0:0≤j)(h1:j<n)(a:Anc frm j p)(b:Anc frm j q)(e:frm p=frm q):p=q:=by
 have tot:∀{p q},Anc frm j p→Anc frm j q→p=q∨(0≤frm p∧Anc frm (frm p) q)∨(0≤frm q∧Anc frm (frm q) p):=by
  intro p q a
  induction a with
  |self=>
   intro b
   rcases b.down with h|h
   ·exact .inl h.symm
   ·exact .inr (.inl h)
  |up a h2 ih=>
   intro b
   rcases ih b with rfl|⟨h3,h4⟩|⟨h3,h4⟩
   ·exact .inr (.inr ⟨h2,.self⟩)
   ·rcases h4.down with h5|h5
    ·exact .inl h5.symm
    ·exact .inr (.inl h5)
   ·exact .inr (.inr ⟨h3,.up h4 h2⟩)
 have hp:=a.le F h0 h1
 have hq:=b.le F h0 h1
 rcases tot a b with h|⟨h2,h3⟩|⟨h2,h3⟩
 ·exact h
 ·have:=F.lt p hp.1 (by omega)
  have h4:=h3.le F h2 (by omega)
  have:=F.lt q hq.1 (by omega);omega
 ·have:=F.lt q hq.1 (by omega)
  have h4:=h3.le F h2 (by omega)
  have:=F.lt p hp.1 (by omega);omega
def lo1 (U:Box):Int→Int:=fun p=>(U p).1
def hi1 (U:Box):Int→Int:=fun p=>(U p).2
theorem proj (F:Forest n frm parts)(U D:Box)(hU0:∀i:Int,0≤i→i<n→(U i).1≤(U i).2)
  (hU:∀i:Int,0≤i→i<n→parts i≠[]→sumL (lo1 U) (parts i)≤(U i).1∧(U i).2≤sumL (hi1 U) (parts i))
  (hD0:∀i:Int,0≤i→i<n→(U i).1≤(D i).1∧(D i).2≤(U i).2)
  (hD:∀i:Int,0≤i→i<n→∀p∈parts i,∀v,(D p).1≤v→v≤(D p).2→∃u,(D i).1≤u∧u≤(D i).2∧v+(sumL (lo1 U) (parts i)-(U p).1)≤u∧u≤v+(sumL (hi1 U) (parts i)-(U p).2))
  {j v:Int} (j0:0≤j) (j1:j<n) (v1:(D j).1≤v) (v2:v≤(D j).2):∃w,Feas n parts U w∧w j=v:=by
 classical
 have chain:∀(k:Nat) (j v:Int),j<k→0≤j→j<n→(D j).1≤v→v≤(D j).2→∃u:Int→Int,u j=v∧∀i,Anc frm j i→((D i).1≤u i∧u i≤(D i).2)∧
   (0≤frm i→u i+(sumL (lo1 U) (parts (frm i))-(U i).1)≤u (frm i)∧u (frm i)≤u i+(sumL (hi1 U) (parts (frm i))-(U i).2)):=by
  intro k
  induction k with
  |zero=>intro j v h1 h2;omega
  |succ k ih=>
   intro j v hk j0 j1 v1 v2
   have hf:=F.lt j j0 j1
   by_cases h:frm j<0
   ·refine⟨fun _=>v,rfl,fun i ha=>?_⟩
    rcases ha.down with rfl|⟨h2,_⟩
    ·exact⟨⟨v1,v2⟩,fun h3=>by omega⟩
    ·omega
   ·have hp:j∈parts (frm j):=(F.mem _ _).2 ⟨j0,j1,rfl⟩
    obtain⟨u0,a1,a2,a3,a4⟩:=hD (frm j) (by omega) (by omega) j hp v v1 v2
    obtain⟨u,b1,b2⟩:=ih (frm j) u0 (by omega) (by omega) (by omega) a1 a2
    refine⟨up1 u j v,up1_same _ _ _,fun i ha=>?_⟩
    rcases ha.down with rfl|⟨h2,h3⟩
    ·refine⟨by rw[up1_same];exact⟨v1,v2⟩,fun _=>?_⟩
     rw[up1_same,up1_ne u v (by omega),b1];exact⟨a3,a4⟩
    ·have hl:=h3.le F (by omega) (by omega)
     have hfi:=F.lt i (by omega) (by omega)
     rw[up1_ne u v (by omega),up1_ne u v (by omega)]
     exact b2 i h3
 obtain⟨u,u1,u2⟩:=chain n j v j1 j0 j1 v1 v2
 let S:Int→Int→Prop:=fun i x=>(Anc frm j i→x=u i)∧(¬Anc frm j i→(U i).1≤x∧x≤(U i).2)
 have hin:∀i x:Int,0≤i→i<n→S i x→(U i).1≤x∧x≤(U i).2:=by
  intro i x h0 h1 hs
  by_cases ha:Anc frm j i
  ·have:=(u2 i ha).1
   have:=hD0 i h0 h1
   have:=hs.1 ha;omega
  ·exact hs.2 ha
 obtain⟨w,w1,w2,w3⟩:=fill F S (fun i v x=>sumL x (parts i)=v) (fun i x i0 i1 hs hne=>by
  have hxi:=hin i x i0 i1 hs
  have hUi:=hU i i0 i1 hne
  by_cases hc:∃p∈parts i,Anc frm j p
  ·obtain⟨p,hp,ha⟩:=hc
   obtain⟨p0,p1,pf⟩:=(F.mem _ _).1 hp
   have hai:Anc frm j i:=by rw[←pf];exact .up ha (by omega)
   have hu:=u2 p ha
   have hu2:=hu.2 (by omega)
   rw[pf] at hu2
   have hx:x=u i:=hs.1 hai
   have hDp:=hD0 p p0 p1
   obtain⟨y,y1,y2⟩:=pick (parts i) (up1 (lo1 U) p (u p)) (up1 (hi1 U) p (u p)) x (F.nodup i) (fun q hq=>by
     by_cases e:q=p
     ·subst e;rw[up1_same,up1_same];exact Int.le_refl _
     ·obtain⟨q0,q1,_⟩:=(F.mem _ _).1 hq
      rw[up1_ne _ _ e,up1_ne _ _ e];exact hU0 q q0 q1)
    (by rw[sumL_up1 (F.nodup i) hp];simp only[lo1] at *;omega) (by rw[sumL_up1 (F.nodup i) hp];simp only[hi1] at *;omega)
   refine⟨y,fun q hq=>?_,y2⟩
   have hy:=y1 q hq
   by_cases e:q=p
   ·subst e
    rw[up1_same,up1_same] at hy
    exact⟨fun _=>by omega,fun h=>absurd ha h⟩
   ·rw[up1_ne _ _ e,up1_ne _ _ e] at hy
    refine⟨fun h=>?_,fun _=>hy⟩
    obtain⟨_,_,qf⟩:=(F.mem _ _).1 hq
    exact absurd (Anc.one F j0 j1 h ha (by rw[qf,pf])) e
  ·obtain⟨y,y1,y2⟩:=pick (parts i) (lo1 U) (hi1 U) x (F.nodup i) (fun q hq=>by
     obtain⟨q0,q1,_⟩:=(F.mem _ _).1 hq
     exact hU0 q q0 q1) (by omega) (by omega)
   exact⟨y,fun q hq=>⟨fun h=>absurd ⟨q,hq,h⟩ hc,fun _=>y1 q hq⟩,y2⟩)
  (fun i=>if Anc frm j i then u i else(U i).1) (fun i i0 i1 _=>by
   by_cases ha:Anc frm j i
   ·simp only[if_pos ha];exact⟨fun _=>rfl,fun h=>absurd ha h⟩
   ·simp only[if_neg ha];exact⟨fun h=>absurd h ha,fun _=>⟨Int.le_refl _,hU0 i i0 i1⟩⟩)
 refine⟨w,⟨fun i i0 i1=>hin i _ i0 i1 (w1 i i0 i1),fun i i0 i1 hne=>?_⟩,?_⟩
 ·obtain⟨x,x1,x2⟩:=w3 i i0 i1 hne
  rw[←x1];exact(sumL_congr x2).symm
 ·rw[(w1 j j0 j1).1 .self,u1]
structure Exact (n:Nat)(parts:Int→List Int)(B r:Box):Prop where
 sound:∀w,Feas n parts B w→∀i:Int,0≤i→i<n→(r i).1≤w i∧w i≤(r i).2
 ne:∀i:Int,0≤i→i<n→(r i).1≤(r i).2
 full:∀i v:Int,0≤i→i<n→(r i).1≤v→v≤(r i).2→∃w,Feas n parts B w∧w i=v
theorem Exact.congr {B r s:Box}(a:Exact n parts B r)(h:∀i:Int,0≤i→i<n→s i=r i):Exact n parts B s:=
 ⟨fun w f i i0 i1=>by rw[h i i0 i1];exact a.sound w f i i0 i1,fun i i0 i1=>by rw[h i i0 i1];exact a.ne i i0 i1,
  fun i v i0 i1=>by rw[h i i0 i1];exact a.full i v i0 i1⟩
theorem Feas.mono {B C:Box}{w:Int→Int}(f:Feas n parts B w)(h:∀i:Int,0≤i→i<n→(C i).1≤(B i).1∧(B i).2≤(C i).2):Feas n parts C w:=
 ⟨fun i i0 i1=>by have:=f.1 i i0 i1;have:=h i i0 i1;omega,f.2⟩
def UF (parts:Int→List Int)(own:Box):Nat→Int→Int × Int
 |0,i=>own i
 |k+1,i=>if parts i=[] then own i else(max (own i).1 (sumL (fun p=>(UF parts own k p).1) (parts i)),min (own i).2 (sumL (fun p=>(UF parts own k p).2) (parts i)))
theorem UF_any (F:Forest n frm parts)(own:Box):∀(k j:Nat) (i:Int),0≤i→i<n→(n:Int)-i≤k→(n:Int)-i≤j→UF parts own k i=UF parts own j i
 |0,_,i,h0,h1,h,_=>by omega
 |_+1,0,i,h0,h1,_,h=>by omega
 |k+1,j+1,i,h0,h1,h2,h3=>by
  have hp:∀p∈parts i,UF parts own k p=UF parts own j p:=fun p hp=>by
   obtain⟨p0,p1,pf⟩:=(F.mem _ _).1 hp
   have:=F.lt p p0 p1
   exact UF_any F own k j p p0 p1 (by omega) (by omega)
  simp only[UF]
  rw[sumL_congr (x:=fun p=>(UF parts own k p).1) fun p h=>by rw[hp p h],sumL_congr (x:=fun p=>(UF parts own k p).2) fun p h=>by rw[hp p h]]
def Uo (n:Nat)(parts:Int→List Int)(own:Box):Box:=UF parts own n
theorem Uo_eq (F:Forest n frm parts)(own:Box){i:Int}(i0:0≤i)(i1:i<n):
  Uo n parts own i=if parts i=[] then own i else(max (own i).1 (sumL (lo1 (Uo n parts own)) (parts i)),min (own i).2 (sumL (hi1 (Uo n parts own)) (parts i))):=by
 have e:UF parts own n i=UF parts own (n+1) i:=UF_any F own n (n+1) i i0 i1 (by omega) (by omega)
 unfold Uo
 rw[e];rfl
theorem Uo_leaf (F:Forest n frm parts)(own:Box){i:Int}(i0:0≤i)(i1:i<n)(h:parts i=[]):Uo n parts own i=own i:=by rw[Uo_eq F own i0 i1,if_pos h]
theorem Uo_node (F:Forest n frm parts)(own:Box){i:Int}(i0:0≤i)(i1:i<n)(h:parts i≠[]):
  Uo n parts own i=(max (own i).1 (sumL (lo1 (Uo n parts own)) (parts i)),min (own i).2 (sumL (hi1 (Uo n parts own)) (parts i))):=by rw[Uo_eq F own i0 i1,if_neg h]
theorem Uo_own (F:Forest n frm parts)(own:Box){i:Int}(i0:0≤i)(i1:i<n):(own i).1≤(Uo n parts own i).1∧(Uo n parts own i).2≤(own i).2:=by
 by_cases h:parts i=[]
 ·rw[Uo_leaf F own i0 i1 h];omega
 ·rw[Uo_node F own i0 i1 h];simp only;omega
theorem Uo_sound (F:Forest n frm parts){own:Box}{w:Int→Int}(f:Feas n parts own w):∀i:Int,0≤i→i<n→(Uo n parts own i).1≤w i∧w i≤(Uo n parts own i).2:=by
 have:∀(k:Nat) (i:Int),(n:Int)-i≤k→0≤i→i<n→(Uo n parts own i).1≤w i∧w i≤(Uo n parts own i).2:=by
  intro k
  induction k with
  |zero=>intro i h1 h2 h3;omega
  |succ k ih=>
   intro i hk i0 i1
   have h1:=f.1 i i0 i1
   by_cases h:parts i=[]
   ·rw[Uo_leaf F own i0 i1 h];exact h1
   ·have h2:=f.2 i i0 i1 h
    have hp:∀p∈parts i,(Uo n parts own p).1≤w p∧w p≤(Uo n parts own p).2:=fun p hp=>by
     obtain⟨p0,p1,pf⟩:=(F.mem _ _).1 hp
     have:=F.lt p p0 p1
     exact ih p (by omega) p0 p1
    have h3:sumL (lo1 (Uo n parts own)) (parts i)≤sumL w (parts i):=sumL_mono fun p h=>(hp p h).1
    have h4:sumL w (parts i)≤sumL (hi1 (Uo n parts own)) (parts i):=sumL_mono fun p h=>(hp p h).2
    rw[Uo_node F own i0 i1 h];simp only;omega
 exact fun i i0 i1=>this n i (by omega) i0 i1
def DF (frm:Int→Int)(parts:Int→List Int)(U:Box):Nat→Int→Int × Int
 |0,i=>U i
 |k+1,i=>if frm i<0 then U i else
  (max (U i).1 ((DF frm parts U k (frm i)).1-(sumL (hi1 U) (parts (frm i))-(U i).2)),min (U i).2 ((DF frm parts U k (frm i)).2-(sumL (lo1 U) (parts (frm i))-(U i).1)))
theorem DF_any (F:Forest n frm parts)(U:Box):∀(k j:Nat) (i:Int),0≤i→i<n→i<k→i<j→DF frm parts U k i=DF frm parts U j i
 |0,_,i,h0,h1,h,_=>by omega
 |_+1,0,i,h0,h1,_,h=>by omega
 |k+1,j+1,i,h0,h1,h2,h3=>by
  have hf:=F.lt i h0 h1
  simp only[DF]
  by_cases h:frm i<0
  ·simp[h]
  ·simp only[h, ↓reduceIte]
   rw[DF_any F U k j (frm i) (by omega) (by omega) (by omega) (by omega)]
def Do (n:Nat)(frm:Int→Int)(parts:Int→List Int)(U:Box):Box:=DF frm parts U n
theorem Do_eq (F:Forest n frm parts)(U:Box){i:Int}(i0:0≤i)(i1:i<n):Do n frm parts U i=if frm i<0 then U i else
  (max (U i).1 ((Do n frm parts U (frm i)).1-(sumL (hi1 U) (parts (frm i))-(U i).2)),min (U i).2 ((Do n frm parts U (frm i)).2-(sumL (lo1 U) (parts (frm i))-(U i).1))):=by
 have e:DF frm parts U n i=DF frm parts U (n+1) i:=DF_any F U n (n+1) i i0 i1 i1 (by omega)
 unfold Do
 rw[e];rfl
theorem Do_in (F:Forest n frm parts)(U:Box){i:Int}(i0:0≤i)(i1:i<n):(U i).1≤(Do n frm parts U i).1∧(Do n frm parts U i).2≤(U i).2:=by
 rw[Do_eq F U i0 i1]
 by_cases h:frm i<0
 ·rw[if_pos h];omega
 ·rw[if_neg h];simp only;omega
theorem rest_le (F:Forest n frm parts){x y:Int→Int}{i p:Int}(hp:p∈parts i)(h:∀q∈parts i,x q≤y q):sumL x (parts i)-x p≤sumL y (parts i)-y p:=by
 have e1:=sumL_up1 (x:=x) (v:=0) (F.nodup i) hp
 have e2:=sumL_up1 (x:=y) (v:=0) (F.nodup i) hp
 have:sumL (up1 x p 0) (parts i)≤sumL (up1 y p 0) (parts i):=sumL_mono fun q hq=>by
  by_cases e:q=p
  ·subst e;rw[up1_same,up1_same];exact Int.le_refl _
  ·rw[up1_ne _ _ e,up1_ne _ _ e];exact h q hq
 omega
theorem exact_ref (F:Forest n frm parts){own:Box}(hne:∀i:Int,0≤i→i<n→(Uo n parts own i).1≤(Uo n parts own i).2):Exact n parts own (Do n frm parts (Uo n parts own)):=by
 have hU:∀i:Int,0≤i→i<n→parts i≠[]→sumL (lo1 (Uo n parts own)) (parts i)≤(Uo n parts own i).1∧(Uo n parts own i).2≤sumL (hi1 (Uo n parts own)) (parts i):=fun i i0 i1 h=>by
  rw[Uo_node F own i0 i1 h];simp only;omega
 have hD0:=fun(i:Int) (i0:0≤i) (i1:i<n)=>Do_in F (Uo n parts own) i0 i1
 have hDne:∀(k:Nat) (i:Int),i<k→0≤i→i<n→(Do n frm parts (Uo n parts own) i).1≤(Do n frm parts (Uo n parts own) i).2:=by
  intro k
  induction k with
  |zero=>intro i h1 h2;omega
  |succ k ih=>
   intro i hk i0 i1
   have hf:=F.lt i i0 i1
   have hi:=hne i i0 i1
   rw[Do_eq F _ i0 i1]
   by_cases h:frm i<0
   ·rw[if_pos h];exact hi
   ·rw[if_neg h]
    have hp:i∈parts (frm i):=(F.mem _ _).2 ⟨i0,i1,rfl⟩
    have hne':parts (frm i)≠[]:=fun e=>by rw[e] at hp;cases hp
    have h1:=ih (frm i) (by omega) (by omega) (by omega)
    have h2:=hD0 (frm i) (by omega) (by omega)
    have h3:=hU (frm i) (by omega) (by omega) hne'
    have h4:=rest_le F (x:=lo1 (Uo n parts own)) (y:=hi1 (Uo n parts own)) hp fun q hq=>by
     obtain⟨q0,q1,_⟩:=(F.mem _ _).1 hq
     exact hne q q0 q1
    simp only[lo1,hi1] at *;omega
 refine⟨fun w f=>?_,fun i i0 i1=>hDne n i i1 i0 i1,fun i v i0 i1 v1 v2=>?_⟩
 ·have hu:=Uo_sound F f
  have:∀(k:Nat) (i:Int),i<k→0≤i→i<n→(Do n frm parts (Uo n parts own) i).1≤w i∧w i≤(Do n frm parts (Uo n parts own) i).2:=by
   intro k
   induction k with
   |zero=>intro i h1 h2;omega
   |succ k ih=>
    intro i hk i0 i1
    have hf:=F.lt i i0 i1
    have h1:=hu i i0 i1
    rw[Do_eq F _ i0 i1]
    by_cases h:frm i<0
    ·rw[if_pos h];exact h1
    ·rw[if_neg h]
     have hp:i∈parts (frm i):=(F.mem _ _).2 ⟨i0,i1,rfl⟩
     have hne':parts (frm i)≠[]:=fun e=>by rw[e] at hp;cases hp
     have h2:=ih (frm i) (by omega) (by omega) (by omega)
     have h3:=f.2 (frm i) (by omega) (by omega) hne'
     have h4:=rest_le F (x:=lo1 (Uo n parts own)) (y:=w) hp fun q hq=>by
      obtain⟨q0,q1,_⟩:=(F.mem _ _).1 hq
      exact(hu q q0 q1).1
     have h5:=rest_le F (x:=w) (y:=hi1 (Uo n parts own)) hp fun q hq=>by
      obtain⟨q0,q1,_⟩:=(F.mem _ _).1 hq
      exact(hu q q0 q1).2
     simp only[lo1,hi1] at *;omega
  exact fun i i0 i1=>this n i i1 i0 i1
 ·obtain⟨w,f,e⟩:=proj F (Uo n parts own) (Do n frm parts (Uo n parts own)) hne hU hD0 (fun i i0 i1 p hp v v1 v2=>by
   obtain⟨p0,p1,pf⟩:=(F.mem _ _).1 hp
   have hlt:=F.lt p p0 p1
   have hpe:=Do_eq F (Uo n parts own) p0 p1
   rw[if_neg (by omega),pf] at hpe
   rw[hpe] at v1 v2
   simp only at v1 v2
   have h1:=hDne n i i1 i0 i1
   have h4:=rest_le F (x:=lo1 (Uo n parts own)) (y:=hi1 (Uo n parts own)) hp fun q hq=>by
    obtain⟨q0,q1,_⟩:=(F.mem _ _).1 hq
    exact hne q q0 q1
   refine⟨max (Do n frm parts (Uo n parts own) i).1 (v+(sumL (lo1 (Uo n parts own)) (parts i)-(Uo n parts own p).1)),?_,?_,?_,?_⟩<;>(simp only[lo1,hi1] at *;omega)) i0 i1 v1 v2
  exact⟨w,f.mono fun i i0 i1=>Uo_own F own i0 i1,e⟩
theorem feas_iff (F:Forest n frm parts)(own:Box)(hn:0<n):(∃w,Feas n parts own w)↔∀i:Int,0≤i→i<n→(Uo n parts own i).1≤(Uo n parts own i).2:=by
 constructor
 ·rintro⟨w,f⟩ i i0 i1
  have:=Uo_sound F f i i0 i1;omega
 ·intro h
  have e:=exact_ref F h
  obtain⟨w,f,_⟩:=e.full 0 _ (by omega) (by omega) (Int.le_refl _) (e.ne 0 (by omega) (by omega))
  exact⟨w,f⟩
end
end Go.Ab.Silk
namespace Go.Ab.Silk
def narrow (b:Box)(i lo hi:Int):Box:=fun k=>if k=i then(max (b i).1 lo,min (b i).2 hi) else b k
theorem narrow_same (b:Box)(i lo hi:Int):narrow b i lo hi i=(max (b i).1 lo,min (b i).2 hi):=by simp[narrow]
theorem narrow_ne (b:Box){i k:Int}(lo hi:Int)(h:k≠i):narrow b i lo hi k=b k:=by simp[narrow,h]
def downs (bf:Box)(i lo hi:Int):List Int→Box→Box
 |[],b=>b
 |p::l,b=>downs bf i lo hi l (narrow b p ((b i).1-(hi-(bf p).2)) ((b i).2-(lo-(bf p).1)))
def lotStep (parts:Int→List Int)(bf b:Box)(i:Int):Option Box:=
 if(b i).2<(b i).1 then none
 else if parts i=[] then some b
 else some (downs bf i (sumL (lo1 b) (parts i)) (sumL (hi1 b) (parts i)) (parts i) (narrow b i (sumL (lo1 b) (parts i)) (sumL (hi1 b) (parts i))))
def passF (parts:Int→List Int)(bf:Box):Nat→Int→Box→Option Box
 |0,_,b=>some b
 |k+1,i,b=>match lotStep parts bf b i with
  |none=>none
  |some b'=>passF parts bf k (i+1) b'
def Nrw (b c:Box):Prop:=∀i,(b i).1≤(c i).1∧(c i).2≤(b i).2
theorem Nrw.refl (b:Box):Nrw b b:=fun i=>⟨Int.le_refl _,Int.le_refl _⟩
theorem Nrw.trans {a b c:Box}(h:Nrw a b)(k:Nrw b c):Nrw a c:=fun i=>by have:=h i;have:=k i;omega
theorem narrow_nrw (b:Box)(i lo hi:Int):Nrw b (narrow b i lo hi):=fun k=>by
 by_cases h:k=i
 ·subst h;rw[narrow_same];simp only;omega
 ·rw[narrow_ne b _ _ h];omega
theorem downs_nrw (bf:Box)(i lo hi:Int):∀(l:List Int) (b:Box),Nrw b (downs bf i lo hi l b)
 |[],b=>Nrw.refl b
 |p::l,b=>(narrow_nrw b p _ _).trans (downs_nrw bf i lo hi l _)
theorem lotStep_nrw {parts:Int→List Int}{bf b c:Box}{i:Int}(h:lotStep parts bf b i=some c):Nrw b c:=by
 unfold lotStep at h
 split at h
 ·cases h
 ·split at h
  ·cases h;exact Nrw.refl b
  ·cases h;exact(narrow_nrw b i _ _).trans (downs_nrw _ _ _ _ _ _)
theorem passF_nrw {parts:Int→List Int}{bf:Box}:∀(k:Nat) (i:Int) {b c:Box},passF parts bf k i b=some c→Nrw b c
 |0,_,b,c,h=>by cases h;exact Nrw.refl b
 |k+1,i,b,c,h=>by
  simp only[passF] at h
  cases h1:lotStep parts bf b i with
  |none=>rw[h1] at h;cases h
  |some d=>rw[h1] at h;exact(lotStep_nrw h1).trans (passF_nrw k _ h)
section
variable {n:Nat} {frm:Int→Int} {parts:Int→List Int}
theorem downs_out (bf:Box)(i lo hi:Int):∀(l:List Int) (b:Box) (k:Int),k ∉l→downs bf i lo hi l b k=b k
 |[],b,k,_=>rfl
 |p::l,b,k,h=>by
  rw[List.mem_cons,not_or] at h
  simp only[downs]
  rw[downs_out bf i lo hi l _ k h.2,narrow_ne _ _ _ h.1]
theorem lotStep_out {bf b c:Box}{i k:Int}(h:lotStep parts bf b i=some c)(hk:k≠i)(hp:k ∉parts i):c k=b k:=by
 unfold lotStep at h
 split at h
 ·cases h
 ·split at h
  ·cases h;rfl
  ·cases h;rw[downs_out _ _ _ _ _ _ _ hp,narrow_ne _ _ _ hk]
def InB (n:Nat)(b:Box)(w:Int→Int):Prop:=∀i:Int,0≤i→i<n→(b i).1≤w i∧w i≤(b i).2
def Adds (n:Nat)(parts:Int→List Int)(w:Int→Int):Prop:=∀i:Int,0≤i→i<n→parts i≠[]→w i=sumL w (parts i)
theorem downs_in (F:Forest n frm parts){bf:Box}{w:Int→Int}(ha:Adds n parts w)(hbf:InB n bf w){i:Int}(i0:0≤i)(i1:i<n):∀(l:List Int) (b:Box),(∀p∈l,p∈parts i)→InB n b w→
  InB n (downs bf i (sumL (lo1 bf) (parts i)) (sumL (hi1 bf) (parts i)) l b) w
 |[],b,_,h=>h
 |p::l,b,hl,h=>by
  simp only[downs]
  have hp:=hl p (by simp)
  refine downs_in F ha hbf i0 i1 l _ (fun q hq=>hl q (by simp[hq])) fun k k0 k1=>?_
  have hk:=h k k0 k1
  by_cases e:k=p
  ·subst e
   rw[narrow_same]
   have hi:=h i i0 i1
   have hs:=ha i i0 i1 (fun e=>by rw[e] at hp;cases hp)
   have r1:=rest_le F (x:=lo1 bf) (y:=w) hp fun q hq=>by
    obtain⟨q0,q1,_⟩:=(F.mem _ _).1 hq
    exact(hbf q q0 q1).1
   have r2:=rest_le F (x:=w) (y:=hi1 bf) hp fun q hq=>by
    obtain⟨q0,q1,_⟩:=(F.mem _ _).1 hq
    exact(hbf q q0 q1).2
   simp only[lo1,hi1] at *;omega
  ·rw[narrow_ne _ _ _ e];exact hk
theorem lotStep_in (F:Forest n frm parts){bf b c:Box}{w:Int→Int}{i:Int}(i0:0≤i)(i1:i<n)(ha:Adds n parts w)(hbf:InB n bf w)(hb:InB n b w)(he:∀p∈parts i,b p=bf p)(h:lotStep parts bf b i=some c):InB n c w:=by
 unfold lotStep at h
 split at h
 ·cases h
 ·split at h
  ·cases h;exact hb
  ·rename_i hne
   cases h
   have e1:sumL (lo1 b) (parts i)=sumL (lo1 bf) (parts i):=sumL_congr fun p hp=>by simp only[lo1,he p hp]
   have e2:sumL (hi1 b) (parts i)=sumL (hi1 bf) (parts i):=sumL_congr fun p hp=>by simp only[hi1,he p hp]
   rw[e1,e2]
   refine downs_in F ha hbf i0 i1 _ _ (fun p hp=>hp) fun k k0 k1=>?_
   have hk:=hb k k0 k1
   by_cases e:k=i
   ·subst e
    rw[narrow_same]
    have hs:=ha k k0 k1 hne
    have m1:sumL (lo1 bf) (parts k)≤sumL w (parts k):=sumL_mono fun q hq=>by
     obtain⟨q0,q1,_⟩:=(F.mem _ _).1 hq
     exact(hbf q q0 q1).1
    have m2:sumL w (parts k)≤sumL (hi1 bf) (parts k):=sumL_mono fun q hq=>by
     obtain⟨q0,q1,_⟩:=(F.mem _ _).1 hq
     exact(hbf q q0 q1).2
    simp only;omega
   ·rw[narrow_ne _ _ _ e];exact hk
def Fresh (n:Nat)(frm:Int→Int)(bf b:Box)(i:Int):Prop:=∀p:Int,0≤p→p<n→i≤frm p→b p=bf p
theorem Fresh.step (F:Forest n frm parts){bf b c:Box}{i:Int}(i0:0≤i)(h:lotStep parts bf b i=some c)(f:Fresh n frm bf b i):Fresh n frm bf c (i+1):=fun p p0 p1 hp=>by
 have hlt:=F.lt p p0 p1
 rw[lotStep_out h (by omega) (fun hm=>by have:=((F.mem _ _).1 hm).2.2;omega)]
 exact f p p0 p1 (by omega)
theorem Fresh.at (F:Forest n frm parts){bf b:Box}{i:Int}(f:Fresh n frm bf b i):∀p∈parts i,b p=bf p:=fun p hp=>by
 obtain⟨p0,p1,pf⟩:=(F.mem _ _).1 hp
 exact f p p0 p1 (by omega)
theorem passF_in (F:Forest n frm parts){bf:Box}{w:Int→Int}(ha:Adds n parts w)(hbf:InB n bf w):∀(k:Nat) (i:Int) (b c:Box),0≤i→i+k≤n→InB n b w→Fresh n frm bf b i→passF parts bf k i b=some c→InB n c w
 |0,i,b,c,_,_,hb,_,h=>by cases h;exact hb
 |k+1,i,b,c,i0,i1,hb,hf,h=>by
  simp only[passF] at h
  cases h1:lotStep parts bf b i with
  |none=>rw[h1] at h;cases h
  |some d=>
   rw[h1] at h
   exact passF_in F ha hbf k (i+1) d c (by omega) (by omega) (lotStep_in F i0 (by omega) ha hbf hb (hf.at F) h1) (hf.step F i0 h1) h
theorem passF_none (F:Forest n frm parts){bf:Box}{w:Int→Int}(ha:Adds n parts w)(hbf:InB n bf w):∀(k:Nat) (i:Int) (b:Box),0≤i→i+k≤n→InB n b w→Fresh n frm bf b i→passF parts bf k i b≠none
 |0,i,b,_,_,hb,_,h=>by cases h
 |k+1,i,b,i0,i1,hb,hf,h=>by
  simp only[passF] at h
  cases h1:lotStep parts bf b i with
  |none=>
   unfold lotStep at h1
   have:=hb i i0 (by omega)
   rw[if_neg (by omega)] at h1
   split at h1<;>cases h1
  |some d=>
   rw[h1] at h
   exact passF_none F ha hbf k (i+1) d (by omega) (by omega) (lotStep_in F i0 (by omega) ha hbf hb (hf.at F) h1) (hf.step F i0 h1) h
structure Tight (n:Nat)(parts:Int→List Int)(b:Box):Prop where
 ne:∀i:Int,0≤i→i<n→(b i).1≤(b i).2
 node:∀i:Int,0≤i→i<n→parts i≠[]→sumL (lo1 b) (parts i)≤(b i).1∧(b i).2≤sumL (hi1 b) (parts i)
 part:∀i:Int,0≤i→i<n→∀p∈parts i,(b i).1-(sumL (hi1 b) (parts i)-(b p).2)≤(b p).1∧(b p).2≤(b i).2-(sumL (lo1 b) (parts i)-(b p).1)
theorem downs_fix {bf:Box}{i lo hi:Int}:∀(l:List Int) (b:Box),(∀k,downs bf i lo hi l b k=b k)→∀p∈l,(b i).1-(hi-(bf p).2)≤(b p).1∧(b p).2≤(b i).2-(lo-(bf p).1)
 |[],b,_,p,hp=>by cases hp
 |q::l,b,h,p,hp=>by
  simp only[downs] at h
  have n1:=narrow_nrw b q ((b i).1-(hi-(bf q).2)) ((b i).2-(lo-(bf q).1))
  have n2:=downs_nrw bf i lo hi l (narrow b q ((b i).1-(hi-(bf q).2)) ((b i).2-(lo-(bf q).1)))
  have e:∀k,narrow b q ((b i).1-(hi-(bf q).2)) ((b i).2-(lo-(bf q).1)) k=b k:=fun k=>by
   have a1:=n1 k
   have a2:=n2 k
   rw[h k] at a2
   exact Prod.ext (by omega) (by omega)
  have e':narrow b q ((b i).1-(hi-(bf q).2)) ((b i).2-(lo-(bf q).1))=b:=funext e
  rcases List.mem_cons.1 hp with rfl|hp
  ·have:=e p
   rw[narrow_same] at this
   have h1:=congrArg Prod.fst this
   have h2:=congrArg Prod.snd this
   simp only at h1 h2;omega
  ·rw[e'] at h
   exact downs_fix l b h p hp
theorem lotStep_fix {b:Box}{i:Int}(h:lotStep parts b b i=some b):(b i).1≤(b i).2∧(parts i≠[]→(sumL (lo1 b) (parts i)≤(b i).1∧(b i).2≤sumL (hi1 b) (parts i))∧
  ∀p∈parts i,(b i).1-(sumL (hi1 b) (parts i)-(b p).2)≤(b p).1∧(b p).2≤(b i).2-(sumL (lo1 b) (parts i)-(b p).1)):=by
 unfold lotStep at h
 split at h
 ·cases h
 ·rename_i h0
  refine⟨by omega,fun hne=>?_⟩
  rw[if_neg hne] at h
  have h':=Option.some.inj h
  have n1:=narrow_nrw b i (sumL (lo1 b) (parts i)) (sumL (hi1 b) (parts i))
  have n2:=downs_nrw b i (sumL (lo1 b) (parts i)) (sumL (hi1 b) (parts i)) (parts i) (narrow b i (sumL (lo1 b) (parts i)) (sumL (hi1 b) (parts i)))
  rw[h'] at n2
  have e:narrow b i (sumL (lo1 b) (parts i)) (sumL (hi1 b) (parts i))=b:=funext fun k=>by
   have a1:=n1 k
   have a2:=n2 k
   exact Prod.ext (by omega) (by omega)
  rw[e] at h'
  refine⟨?_,downs_fix (parts i) b fun k=>by rw[h']⟩
  have:=congrFun e i
  rw[narrow_same] at this
  have h1:=congrArg Prod.fst this
  have h2:=congrArg Prod.snd this
  simp only at h1 h2;omega
theorem passF_fix {bf:Box}:∀(k:Nat) (i:Int) (b c:Box),b=bf→c=bf→passF parts bf k i b=some c→∀j,i≤j→j<i+k→lotStep parts bf bf j=some bf
 |0,i,b,c,_,_,_,j,h1,h2=>by omega
 |k+1,i,b,c,hb,hc,h,j,h1,h2=>by
  simp only[passF] at h
  cases h3:lotStep parts bf b i with
  |none=>rw[h3] at h;cases h
  |some d=>
   rw[h3] at h
   have n1:=lotStep_nrw h3
   have n2:=passF_nrw k (i+1) h
   have hd:d=bf:=funext fun x=>by
    have a1:=n1 x
    have a2:=n2 x
    rw[hb] at a1;rw[hc] at a2
    exact Prod.ext (by omega) (by omega)
   by_cases e:j=i
   ·subst e;rw[hb,hd] at h3;exact h3
   ·exact passF_fix k (i+1) d c hd hc h j (by omega) (by omega)
theorem tight_of_fix {b:Box}(h:passF parts b n 0 b=some b):Tight n parts b:=by
 have hs:=fun j h1 h2=>lotStep_fix (passF_fix n 0 b b rfl rfl h j h1 h2)
 exact⟨fun i i0 i1=>(hs i i0 (by omega)).1,fun i i0 i1 hne=>((hs i i0 (by omega)).2 hne).1,fun i i0 i1 p hp=>((hs i i0 (by omega)).2 (fun e=>by rw[e] at hp;cases hp)).2 p hp⟩
theorem tight_full (F:Forest n frm parts){b:Box}(t:Tight n parts b){j v:Int}(j0:0≤j)(j1:j<n)(v1:(b j).1≤v)(v2:v≤(b j).2):∃w,Feas n parts b w∧w j=v:=
 proj F b b t.ne t.node (fun i i0 i1=>⟨Int.le_refl _,Int.le_refl _⟩) (fun i i0 i1 p hp v v1 v2=>by
  obtain⟨p0,p1,pf⟩:=(F.mem _ _).1 hp
  have h1:=t.ne i i0 i1
  have h2:=t.part i i0 i1 p hp
  have h4:=rest_le F (x:=lo1 b) (y:=hi1 b) hp fun q hq=>by
   obtain⟨q0,q1,_⟩:=(F.mem _ _).1 hq
   exact t.ne q q0 q1
  refine⟨max (b i).1 (v+(sumL (lo1 b) (parts i)-(b p).1)),?_,?_,?_,?_⟩<;>(simp only[lo1,hi1] at *;omega)) j0 j1 v1 v2
inductive TightR (n:Nat) (parts:Int→List Int):Box→Option Box→Prop where
 |bad {b:Box}:passF parts b n 0 b=none→TightR n parts b none
 |done {b:Box}:passF parts b n 0 b=some b→TightR n parts b (some b)
 |more {b c:Box} {r:Option Box}:passF parts b n 0 b=some c→TightR n parts c r→TightR n parts b r
theorem TightR.sound (F:Forest n frm parts){b:Box}{r:Option Box}(h:TightR n parts b r):∀w,Feas n parts b w→∃c,r=some c∧Feas n parts c w:=by
 induction h with
 |bad h=>exact fun w f=>absurd h (passF_none F f.2 f.1 n 0 _ (by omega) (by omega) f.1 (fun _ _ _ _=>rfl))
 |done h=>exact fun w f=>⟨_,rfl,f⟩
 |more h _ ih=>exact fun w f=>ih w ⟨passF_in F f.2 f.1 n 0 _ _ (by omega) (by omega) f.1 (fun _ _ _ _=>rfl) h,f.2⟩
theorem TightR.nrw {b c:Box}(h:TightR n parts b (some c)):Nrw b c∧Tight n parts c:=by
 generalize e:some c=r at h
 induction h with
 |bad h=>cases e
 |done h=>cases e;exact⟨Nrw.refl _,tight_of_fix h⟩
 |more h _ ih=>exact⟨(passF_nrw _ _ h).trans (ih e).1,(ih e).2⟩
theorem TightR.exact (F:Forest n frm parts){b c:Box}(h:TightR n parts b (some c)):Exact n parts b c:=by
 obtain⟨h1,h2⟩:=h.nrw
 refine⟨fun w f i i0 i1=>?_,h2.ne,fun i v i0 i1 v1 v2=>?_⟩
 ·obtain⟨d,e,fd⟩:=h.sound F w f
  cases e;exact fd.1 i i0 i1
 ·obtain⟨w,f,e⟩:=tight_full F h2 i0 i1 v1 v2
  exact⟨w,f.mono fun k _ _=>h1 k,e⟩
theorem TightR.none_iff (F:Forest n frm parts)(hn:0<n){b:Box}{r:Option Box}(h:TightR n parts b r):r=none↔¬∃w,Feas n parts b w:=by
 constructor
 ·rintro rfl ⟨w,f⟩
  obtain⟨c,e,_⟩:=h.sound F w f
  cases e
 ·intro hno
  cases r with
  |none=>rfl
  |some c=>
   have e:=h.exact F
   obtain⟨w,f,_⟩:=e.full 0 _ (by omega) (by omega) (Int.le_refl _) (e.ne 0 (by omega) (by omega))
   exact absurd ⟨w,f⟩ hno
def room (n:Nat)(b:Box):Int:=match n with|0=>0|k+1=>room k b+((b k).2-(b k).1)
theorem room_le {b c:Box}(h:Nrw b c):∀n,room n c≤room n b
 |0=>Int.le_refl _
 |k+1=>by have:=room_le h k;have:=h k;simp only[room];omega
theorem room_lt {b c:Box}(h:Nrw b c):∀(n:Nat) (i:Int),0≤i→i<n→c i≠b i→room n c<room n b
 |0,i,_,h1,_=>by omega
 |k+1,i,i0,i1,hne=>by
  have hk:=h k
  have hr:=room_le h k
  simp only[room]
  by_cases e:i=(k:Int)
  ·subst e
   have:¬((c k).1=(b k).1∧(c k).2=(b k).2):=fun⟨e1,e2⟩=>hne (Prod.ext e1 e2)
   omega
  ·have:=room_lt h k i i0 (by omega) hne;omega
theorem room_nonneg {b:Box}:∀(n:Nat),(∀i:Int,0≤i→i<n→(b i).1≤(b i).2)→0≤room n b
 |0,_=>Int.le_refl _
 |k+1,h=>by
  have h1:=room_nonneg k fun i i0 i1=>h i i0 (by omega)
  have h2:=h k (by omega) (by omega)
  simp only[room];omega
theorem passF_start {bf:Box}:∀(k:Nat) (i:Int) (b c:Box),passF parts bf k i b=some c→∀j,i≤j→j<i+k→(b j).1≤(b j).2
 |0,i,b,c,_,j,h1,h2=>by omega
 |k+1,i,b,c,h,j,h1,h2=>by
  simp only[passF] at h
  cases h3:lotStep parts bf b i with
  |none=>rw[h3] at h;cases h
  |some d=>
   rw[h3] at h
   by_cases e:j=i
   ·subst e
    unfold lotStep at h3
    split at h3
    ·cases h3
    ·omega
   ·have n1:=lotStep_nrw h3 j
    have:=passF_start k (i+1) d c h j (by omega) (by omega);omega
theorem passF_out {bf:Box}(F:Forest n frm parts):∀(k:Nat) (i:Int) (b c:Box),0≤i→i+k≤n→passF parts bf k i b=some c→∀j:Int,¬(0≤j∧j<n)→c j=b j
 |0,i,b,c,_,_,h,j,_=>by cases h;rfl
 |k+1,i,b,c,i0,i1,h,j,hj=>by
  simp only[passF] at h
  cases h3:lotStep parts bf b i with
  |none=>rw[h3] at h;cases h
  |some d=>
   rw[h3] at h
   rw[passF_out F k (i+1) d c (by omega) (by omega) h j hj]
   exact lotStep_out h3 (by omega) fun hp=>by have:=(F.mem _ _).1 hp;omega
theorem TightR.out (F:Forest n frm parts){b c:Box}(h:TightR n parts b (some c)):∀j:Int,¬(0≤j∧j<n)→c j=b j:=by
 generalize e:some c=r at h
 induction h with
 |bad h=>cases e
 |done h=>cases e;exact fun _ _=>rfl
 |more h _ ih=>intro j hj;rw[ih e j hj];exact passF_out F n 0 _ _ (by omega) (by omega) h j hj
end
end Go.Ab.Silk
namespace Go.Ab.Silk
def shF (parts:Int→List Int)(b:Box)(ch:Int→Bool):Nat→Int→Int × Int
 |0,_=>(0,0)
 |k+1,i=>if parts i=[] then(if ch i then((b i).1,0) else(0,(b i).2))
  else(max (sumL (fun p=>(shF parts b ch k p).1) (parts i)) ((b i).1-sumL (fun p=>(shF parts b ch k p).2) (parts i)),
   min (sumL (fun p=>(shF parts b ch k p).2) (parts i)) ((b i).2-sumL (fun p=>(shF parts b ch k p).1) (parts i)))
section
variable {n:Nat} {frm:Int→Int} {parts:Int→List Int}
theorem shF_any (F:Forest n frm parts)(b:Box)(ch:Int→Bool):∀(k j:Nat) (i:Int),0≤i→i<n→(n:Int)-i≤k→(n:Int)-i≤j→shF parts b ch k i=shF parts b ch j i
 |0,_,i,h0,h1,h,_=>by omega
 |_+1,0,i,h0,h1,_,h=>by omega
 |k+1,j+1,i,h0,h1,h2,h3=>by
  have hp:∀p∈parts i,shF parts b ch k p=shF parts b ch j p:=fun p hp=>by
   obtain⟨p0,p1,pf⟩:=(F.mem _ _).1 hp
   have:=F.lt p p0 p1
   exact shF_any F b ch k j p p0 p1 (by omega) (by omega)
  simp only[shF]
  rw[sumL_congr (x:=fun p=>(shF parts b ch k p).1) fun p h=>by rw[hp p h],sumL_congr (x:=fun p=>(shF parts b ch k p).2) fun p h=>by rw[hp p h]]
def sh (n:Nat)(parts:Int→List Int)(b:Box)(ch:Int→Bool):Box:=shF parts b ch n
theorem sh_eq (F:Forest n frm parts)(b:Box)(ch:Int→Bool){i:Int}(i0:0≤i)(i1:i<n):sh n parts b ch i=
  if parts i=[] then(if ch i then((b i).1,0) else(0,(b i).2)) else
  (max (sumL (lo1 (sh n parts b ch)) (parts i)) ((b i).1-sumL (hi1 (sh n parts b ch)) (parts i)),min (sumL (hi1 (sh n parts b ch)) (parts i)) ((b i).2-sumL (lo1 (sh n parts b ch)) (parts i))):=by
 have e:shF parts b ch n i=shF parts b ch (n+1) i:=shF_any F b ch n (n+1) i i0 i1 (by omega) (by omega)
 unfold sh
 rw[e];rfl
theorem sh_mid (F:Forest n frm parts)(b:Box)(ch:Int→Bool)(hne:∀i:Int,0≤i→i<n→(b i).1≤(b i).2){i:Int}(i0:0≤i)(i1:i<n):
  (b i).1≤(sh n parts b ch i).1+(sh n parts b ch i).2∧(sh n parts b ch i).1+(sh n parts b ch i).2≤(b i).2:=by
 have:=hne i i0 i1
 rw[sh_eq F b ch i0 i1]
 split
 ·split<;>simp only<;>omega
 ·simp only;omega
def csF (parts:Int→List Int)(ch:Int→Bool)(w:Int→Int):Nat→Int→Int
 |0,_=>0
 |k+1,i=>if parts i=[] then(if ch i then w i else 0) else sumL (csF parts ch w k) (parts i)
theorem csF_any (F:Forest n frm parts)(ch:Int→Bool)(w:Int→Int):∀(k j:Nat) (i:Int),0≤i→i<n→(n:Int)-i≤k→(n:Int)-i≤j→csF parts ch w k i=csF parts ch w j i
 |0,_,i,h0,h1,h,_=>by omega
 |_+1,0,i,h0,h1,_,h=>by omega
 |k+1,j+1,i,h0,h1,h2,h3=>by
  simp only[csF]
  rw[sumL_congr (x:=csF parts ch w k) (y:=csF parts ch w j) fun p hp=>by
   obtain⟨p0,p1,pf⟩:=(F.mem _ _).1 hp
   have:=F.lt p p0 p1
   exact csF_any F ch w k j p p0 p1 (by omega) (by omega)]
def cs (n:Nat)(parts:Int→List Int)(ch:Int→Bool)(w:Int→Int):Int→Int:=csF parts ch w n
theorem cs_eq (F:Forest n frm parts)(ch:Int→Bool)(w:Int→Int){i:Int}(i0:0≤i)(i1:i<n):cs n parts ch w i=if parts i=[] then(if ch i then w i else 0) else sumL (cs n parts ch w) (parts i):=by
 have e:csF parts ch w n i=csF parts ch w (n+1) i:=csF_any F ch w n (n+1) i i0 i1 (by omega) (by omega)
 unfold cs
 rw[e];rfl
theorem up_ind (F:Forest n frm parts){P:Int→Prop}(step:∀i:Int,0≤i→i<n→(∀p∈parts i,P p)→P i):∀i:Int,0≤i→i<n→P i:=by
 have:∀(k:Nat) (i:Int),(n:Int)-i≤k→0≤i→i<n→P i:=by
  intro k
  induction k with
  |zero=>intro i h1 h2 h3;omega
  |succ k ih=>
   intro i hk i0 i1
   refine step i i0 i1 fun p hp=>?_
   obtain⟨p0,p1,pf⟩:=(F.mem _ _).1 hp
   have:=F.lt p p0 p1
   exact ih p (by omega) p0 p1
 exact fun i i0 i1=>this n i (by omega) i0 i1
theorem cs_not (F:Forest n frm parts)(ch:Int→Bool){w:Int→Int}(ha:Adds n parts w):∀i:Int,0≤i→i<n→cs n parts (fun i=> !ch i) w i=w i-cs n parts ch w i:=by
 refine up_ind F fun i i0 i1 ih=>?_
 rw[cs_eq F _ w i0 i1,cs_eq F ch w i0 i1]
 by_cases h:parts i=[]
 ·simp only[if_pos h]
  cases ch i<;>simp
 ·simp only[if_neg h]
  rw[ha i i0 i1 h,←sumL_sub]
  exact sumL_congr ih
theorem sh_sound (F:Forest n frm parts){b:Box}(ch:Int→Bool){w:Int→Int}(f:Feas n parts b w):∀i:Int,0≤i→i<n→(sh n parts b ch i).1≤cs n parts ch w i∧w i-cs n parts ch w i≤(sh n parts b ch i).2:=by
 refine up_ind F fun i i0 i1 ih=>?_
 have hb:=f.1 i i0 i1
 rw[cs_eq F ch w i0 i1,sh_eq F b ch i0 i1]
 by_cases h:parts i=[]
 ·simp only[if_pos h]
  cases ch i<;>simp<;>omega
 ·simp only[if_neg h]
  have h2:=f.2 i i0 i1 h
  have m1:sumL (lo1 (sh n parts b ch)) (parts i)≤sumL (cs n parts ch w) (parts i):=sumL_mono fun p hp=>(ih p hp).1
  have m2:sumL (fun p=>w p-cs n parts ch w p) (parts i)≤sumL (hi1 (sh n parts b ch)) (parts i):=sumL_mono fun p hp=>(ih p hp).2
  rw[sumL_sub] at m2
  omega
theorem sh_full (F:Forest n frm parts){b:Box}(ch:Int→Bool)(hne:∀i:Int,0≤i→i<n→(b i).1≤(b i).2)
  (hnode:∀i:Int,0≤i→i<n→parts i≠[]→sumL (lo1 b) (parts i)≤(b i).1∧(b i).2≤sumL (hi1 b) (parts i))
  (root:Int→Int) (hroot:∀i:Int,0≤i→i<n→frm i<0→(b i).1≤root i∧root i≤(b i).2):
  ∃w,Feas n parts b w∧(∀i:Int,0≤i→i<n→frm i<0→w i=root i)∧∀i:Int,0≤i→i<n→cs n parts ch w i=max (sh n parts b ch i).1 (w i-(sh n parts b ch i).2):=by
 obtain⟨w,w1,w2,w3⟩:=fill F (fun i x=>(b i).1≤x∧x≤(b i).2) (fun i v x=>sumL x (parts i)=v∧((∀p∈parts i,x p≤(sh n parts b ch p).1+(sh n parts b ch p).2)∨(∀p∈parts i,(sh n parts b ch p).1+(sh n parts b ch p).2≤x p)))
  (fun i v i0 i1 hv hp=>by
   have hn:=hnode i i0 i1 hp
   have hm:∀p∈parts i,(b p).1≤(sh n parts b ch p).1+(sh n parts b ch p).2∧(sh n parts b ch p).1+(sh n parts b ch p).2≤(b p).2:=fun p hp=>by
    obtain⟨p0,p1,_⟩:=(F.mem _ _).1 hp
    exact sh_mid F b ch hne p0 p1
   by_cases hc:v≤sumL (fun p=>(sh n parts b ch p).1+(sh n parts b ch p).2) (parts i)
   ·obtain⟨x,x1,x2⟩:=pick (parts i) (lo1 b) (fun p=>(sh n parts b ch p).1+(sh n parts b ch p).2) v (F.nodup i) (fun p hp=>(hm p hp).1) (by omega) hc
    exact⟨x,fun p hp=>⟨(x1 p hp).1,Int.le_trans (x1 p hp).2 (hm p hp).2⟩,x2,.inl fun p hp=>(x1 p hp).2⟩
   ·obtain⟨x,x1,x2⟩:=pick (parts i) (fun p=>(sh n parts b ch p).1+(sh n parts b ch p).2) (hi1 b) v (F.nodup i) (fun p hp=>(hm p hp).2) (by omega) (by omega)
    exact⟨x,fun p hp=>⟨Int.le_trans (hm p hp).1 (x1 p hp).1,(x1 p hp).2⟩,x2,.inr fun p hp=>(x1 p hp).1⟩)
  root hroot
 have hadd:Adds n parts w:=fun i i0 i1 hp=>by
  obtain⟨x,⟨x1,_⟩,x3⟩:=w3 i i0 i1 hp
  rw[←x1];exact(sumL_congr x3).symm
 refine⟨w,⟨w1,hadd⟩,w2,up_ind F fun i i0 i1 ih=>?_⟩
 have hb:=w1 i i0 i1
 rw[cs_eq F ch w i0 i1,sh_eq F b ch i0 i1]
 by_cases h:parts i=[]
 ·simp only[if_pos h]
  cases ch i<;>simp<;>omega
 ·simp only[if_neg h]
  obtain⟨x,⟨x1,x2⟩,x3⟩:=w3 i i0 i1 h
  have ha:=hadd i i0 i1 h
  rcases x2 with x2|x2
  ·have e:sumL (cs n parts ch w) (parts i)=sumL (lo1 (sh n parts b ch)) (parts i):=sumL_congr fun p hp=>by
    rw[ih p hp];have:=x2 p hp;have:=x3 p hp;simp only[lo1];omega
   have m:sumL w (parts i)≤sumL (fun p=>lo1 (sh n parts b ch) p+hi1 (sh n parts b ch) p) (parts i):=sumL_mono fun p hp=>by
    have:=x2 p hp;have:=x3 p hp;simp only[lo1,hi1];omega
   rw[sumL_add] at m
   rw[e];omega
  ·have e:sumL (cs n parts ch w) (parts i)=sumL (fun p=>w p-hi1 (sh n parts b ch) p) (parts i):=sumL_congr fun p hp=>by
    rw[ih p hp];have:=x2 p hp;have:=x3 p hp;simp only[hi1];omega
   have m:sumL (fun p=>lo1 (sh n parts b ch) p+hi1 (sh n parts b ch) p) (parts i)≤sumL w (parts i):=sumL_mono fun p hp=>by
    have:=x2 p hp;have:=x3 p hp;simp only[lo1,hi1];omega
   rw[sumL_add] at m
   rw[sumL_sub] at e
   rw[e];omega
theorem sh_root (F:Forest n frm parts){b c:Box}(ch:Int→Bool)(hb1:∀i:Int,0≤i→i<n→(b i).1≤(b i).2)
  (hb2:∀i:Int,0≤i→i<n→parts i≠[]→sumL (lo1 b) (parts i)≤(b i).1∧(b i).2≤sumL (hi1 b) (parts i))
  (hs:∀w,Feas n parts b w→Feas n parts c w) {i:Int} (i0:0≤i) (i1:i<n) (hf:frm i<0):(sh n parts c ch i).1≤(sh n parts b ch i).1∧(sh n parts b ch i).2≤(sh n parts c ch i).2:=by
 have hm:=sh_mid F b ch hb1 i0 i1
 obtain⟨w,f,r,e⟩:=sh_full F ch hb1 hb2 (fun i=>(b i).1) fun i i0 i1 _=>⟨Int.le_refl _,hb1 i i0 i1⟩
 have h1:=(sh_sound F ch (hs w f) i i0 i1).1
 have h2:=e i i0 i1
 have h3:=r i i0 i1 hf
 obtain⟨w',f',r',e'⟩:=sh_full F ch hb1 hb2 (fun i=>(b i).2) fun i i0 i1 _=>⟨hb1 i i0 i1,Int.le_refl _⟩
 have h1':=(sh_sound F ch (hs w' f') i i0 i1).2
 have h2':=e' i i0 i1
 have h3':=r' i i0 i1 hf
 omega
end
end Go.Ab.Silk
namespace Go.Ab.Silk
end Go.Ab.Silk
namespace Go.Ab.Silk
structure Con (n:Nat)(parts:Int→List Int)(b:Box):Prop where
 nn:∀i:Int,0≤i→i<n→0≤(b i).1
 ne:∀i:Int,0≤i→i<n→(b i).1≤(b i).2
 node:∀i:Int,0≤i→i<n→parts i≠[]→sumL (lo1 b) (parts i)≤(b i).1∧(b i).2≤sumL (hi1 b) (parts i)
section
variable {n:Nat} {frm:Int→Int} {parts:Int→List Int}
theorem Con.sh (F:Forest n frm parts){b:Box}(c:Con n parts b)(ch:Int→Bool):∀i:Int,0≤i→i<n→
  0≤(sh n parts b ch i).1∧(sh n parts b ch i).1≤(b i).1∧0≤(sh n parts b ch i).2∧(sh n parts b ch i).2≤(b i).2:=by
 refine up_ind F fun i i0 i1 ih=>?_
 have h1:=c.nn i i0 i1
 have h2:=c.ne i i0 i1
 rw[sh_eq F b ch i0 i1]
 by_cases h:parts i=[]
 ·simp only[if_pos h]
  cases ch i<;>simp<;>omega
 ·simp only[if_neg h]
  have h3:=c.node i i0 i1 h
  have a1:0≤sumL (lo1 (Silk.sh n parts b ch)) (parts i):=sumL_nonneg fun p hp=>(ih p hp).1
  have a2:sumL (lo1 (Silk.sh n parts b ch)) (parts i)≤sumL (lo1 b) (parts i):=sumL_mono fun p hp=>(ih p hp).2.1
  have a3:0≤sumL (hi1 (Silk.sh n parts b ch)) (parts i):=sumL_nonneg fun p hp=>(ih p hp).2.2.1
  omega
theorem sh_root_eq (F:Forest n frm parts){b c:Box}(ch:Int→Bool)(hb:Con n parts b)(hc:Con n parts c)(hs:∀w,Feas n parts b w↔Feas n parts c w){i:Int}(i0:0≤i)(i1:i<n)(hf:frm i<0):
  sh n parts b ch i=sh n parts c ch i:=by
 have h1:=sh_root F ch hb.ne hb.node (fun w h=>(hs w).1 h) i0 i1 hf
 have h2:=sh_root F ch hc.ne hc.node (fun w h=>(hs w).2 h) i0 i1 hf
 exact Prod.ext (by omega) (by omega)
structure Quad (s r lo hi:Int):Prop where
 s0:0≤s
 sl:s≤lo
 r0:0≤r
 m1:lo≤s+r
 m2:s+r≤hi
theorem Quad.add {s r lo hi s' r' lo' hi':Int}(a:Quad s r lo hi)(b:Quad s' r' lo' hi'):Quad (s+s') (r+r') (lo+lo') (hi+hi'):=by
 obtain⟨a1,a2,a3,a4,a5⟩:=a
 obtain⟨b1,b2,b3,b4,b5⟩:=b
 exact⟨by omega,by omega,by omega,by omega,by omega⟩
theorem Quad.zero:Quad 0 0 0 0:=⟨by omega,by omega,by omega,by omega,by omega⟩
theorem Con.quad (F:Forest n frm parts){b:Box}(c:Con n parts b)(ch:Int→Bool){i:Int}(i0:0≤i)(i1:i<n):Quad (Silk.sh n parts b ch i).1 (Silk.sh n parts b ch i).2 (b i).1 (b i).2:=by
 have h1:=c.sh F ch i i0 i1
 have h2:=sh_mid F b ch c.ne i0 i1
 exact⟨h1.1,h1.2.1,h1.2.2.1,h2.1,h2.2⟩
end
end Go.Ab.Silk
