set_option linter.unusedSimpArgs false
set_option linter.unusedVariables false
theorem yaa {p:Prop}(h:p:=by omega):p:=h
theorem yab {p:Prop}(h:p:=by simp[hq]):p:=h
namespace Go.Ab.Silk
def Zg (x:Int→Int):List Int→Int
 |[]=>0
 |p::l=>x p+Zg x l
def up1 (x:Int→Int)(i v:Int):Int→Int:=fun k=>if k=i then v else x k
theorem Y7 (x:Int→Int)(i v:Int):up1 x i v i=v:=by simp[up1]
theorem WM (x:Int→Int){i k:Int}(v:Int)(h:k≠i):up1 x i v k=x k:=by simp[up1,h]
theorem ZN {x y:Int→Int}:∀{l:List Int},(∀p∈l,x p=y p)→Zg x l=Zg y l
 |[],_=>rfl
 |p::l,h=>by
  simp only[Zg]
  rw[h p (by simp),ZN fun q hq=>h q yab]
theorem ZU {x y:Int→Int}:∀{l:List Int},(∀p∈l,x p≤y p)→Zg x l≤Zg y l
 |[],_=>Int.le_refl _
 |p::l,h=>by
  have h1:=h p (by simp)
  have h2:=ZU (l:=l) fun q hq=>h q yab
  simp only[Zg];omega
theorem sumL_up1_out {x:Int→Int}{i v:Int}{l:List Int}(h:i ∉l):Zg (up1 x i v) l=Zg x l:=
 ZN fun p hp=>WM x v fun e=>h (e▸hp)
theorem Vb {x:Int→Int}{i v:Int}:∀{l:List Int},l.Nodup→i∈l→Zg (up1 x i v) l=Zg x l-x i+v
 |[],_,h=>by simp at h
 |p::l,hn,h=>by
  rw[List.nodup_cons] at hn
  simp only[Zg]
  by_cases e:i=p
  ·subst e
   rw[sumL_up1_out hn.1,Y7];omega
  ·have h2:i∈l:=by
    rcases List.mem_cons.1 h with h|h
    ·exact absurd h e
    ·exact h
   rw[Vb hn.2 h2,WM x v (fun e'=>e e'.symm)];omega
theorem Z7 {x:Int→Int}{l:List Int}(h:∀p∈l,0≤x p):0≤Zg x l:=by
 induction l with
 |nil=>exact Int.le_refl _
 |cons p l ih=>
  have:=h p (by simp)
  have:=ih fun q hq=>h q yab
  simp only[Zg];omega
theorem sumL_add (x y:Int→Int)(l:List Int):Zg (fun i=>x i+y i) l=Zg x l+Zg y l:=by
 induction l with
 |nil=>rfl
 |cons p l ih=>simp only[Zg,ih];omega
theorem sumL_sub (x y:Int→Int)(l:List Int):Zg (fun i=>x i-y i) l=Zg x l-Zg y l:=by
 induction l with
 |nil=>rfl
 |cons p l ih=>simp only[Zg,ih];omega
theorem XO (x:Int→Int)(l r:List Int):Zg x (l++r)=Zg x l+Zg x r:=by
 induction l with
 |nil=>simp[Zg]
 |cons p l ih=>simp only[List.cons_append,Zg,ih];omega
theorem pick:∀(ps:List Int) (lo hi:Int→Int) (v:Int),ps.Nodup→(∀p∈ps,lo p≤hi p)→Zg lo ps≤v→v≤Zg hi ps→
  ∃x:Int→Int,(∀p∈ps,lo p≤x p∧x p≤hi p)∧Zg x ps=v
 |[],_,_,v,_,_,h1,h2=>⟨fun _=>0,by simp,by simp only[Zg] at *;omega⟩
 |p::l,lo,hi,v,hn,hb,h1,h2=>by
  rw[List.nodup_cons] at hn
  have hp:=hb p (by simp)
  have hm:=ZU (l:=l) fun q hq=>hb q yab
  simp only[Zg] at h1 h2
  obtain⟨x,h3,h4⟩:=pick l lo hi (v-max (lo p) (v-Zg hi l)) hn.2 (fun q hq=>hb q yab) yaa yaa
  refine⟨up1 x p (max (lo p) (v-Zg hi l)),fun q hq=>?_,?_⟩
  ·by_cases e:q=p
   ·subst e;rw[Y7];omega
   ·rw[WM x _ e]
    refine h3 q ?_
    rcases List.mem_cons.1 hq with h|h
    ·exact absurd h e
    ·exact h
  ·simp only[Zg]
   rw[Y7,sumL_up1_out hn.1];omega
structure ZG (n:Nat)(frm:Int→Int)(parts:Int→List Int):Prop where
 lt:∀i:Int,0≤i→i<n→ -1≤frm i∧frm i<i
 mem:∀i p,p∈parts i↔0≤p∧p<n∧frm p=i
 nodup:∀i,(parts i).Nodup
section
variable {n:Nat} {frm:Int→Int} {parts:Int→List Int}
def wOf (frm:Int→Int)(f:Int→Int→Int→Int)(root:Int→Int):Nat→Int→Int
 |0,i=>root i
 |k+1,i=>if frm i<0 then root i else f (frm i) (wOf frm f root k (frm i)) i
theorem wOf_any (F:ZG n frm parts)(f:Int→Int→Int→Int)(root:Int→Int):∀(k j:Nat) (i:Int),0≤i→i<n→i<k→i<j→wOf frm f root k i=wOf frm f root j i
 |0,_,i,h0,_,h,_=>by omega
 |_+1,0,i,h0,_,_,h=>by omega
 |k+1,j+1,i,h0,h1,h2,h3=>by
  have hf:=F.lt i h0 h1
  simp only[wOf]
  by_cases h:frm i<0
  ·simp[h]
  ·simp only[h, ↓reduceIte]
   rw[wOf_any F f root k j (frm i) yaa yaa yaa yaa]
theorem fill (F:ZG n frm parts)(S:Int→Int→Prop)(A:Int→Int→(Int→Int)→Prop)
  (step:∀i v:Int,0≤i→i<n→S i v→parts i≠[]→∃x:Int→Int,(∀p∈parts i,S p (x p))∧A i v x)
  (root:Int→Int) (hroot:∀i:Int,0≤i→i<n→frm i<0→S i (root i)):
  ∃w:Int→Int,(∀i:Int,0≤i→i<n→S i (w i))∧(∀i:Int,0≤i→i<n→frm i<0→w i=root i)∧
   ∀i:Int,0≤i→i<n→parts i≠[]→∃x,A i (w i) x∧∀p∈parts i,w p=x p:=by
 classical
 let f:Int→Int→Int→Int:=fun i v=>if h:∃x:Int→Int,(∀p∈parts i,S p (x p))∧A i v x then Classical.choose h else fun _=>0
 let w:Int→Int:=wOf frm f root n
 have hroot':∀i:Int,0≤i→i<n→frm i<0→w i=root i:=by
  intro i h0 h1 h
  show wOf frm f root n i=root i
  cases n with
  |zero=>omega
  |succ k=>simp[wOf,h]
 have hpart:∀i:Int,0≤i→i<n→0≤frm i→w i=f (frm i) (w (frm i)) i:=by
  intro i h0 h1 h
  show wOf frm f root n i=_
  have hf:=F.lt i h0 h1
  rw[wOf_any F f root n (n+1) i h0 h1 h1 yaa]
  simp only[wOf]
  rw[if_neg yaa]
 have hS:∀(k:Nat) (i:Int),i<k→0≤i→i<n→S i (w i):=by
  intro k
  induction k with
  |zero=>intro i h1 h2;omega
  |succ k ih=>
   intro i hk h0 h1
   have hf:=F.lt i h0 h1
   by_cases h:frm i<0
   ·rw[hroot' i h0 h1 h];exact hroot i h0 h1 h
   ·have hp:i∈parts (frm i):=(F.mem _ _).2 ⟨h0,h1,rfl⟩
    have hx:=step (frm i) (w (frm i)) yaa yaa (ih (frm i) yaa yaa yaa) (fun e=>by rw[e] at hp;cases hp)
    rw[hpart i h0 h1 yaa]
    simp only[f,dif_pos hx]
    exact(Classical.choose_spec hx).1 i hp
 have hS':∀i:Int,0≤i→i<n→S i (w i):=fun i h0 h1=>hS n i h1 h0 h1
 refine⟨w,hS',hroot',fun i h0 h1 hne=>?_⟩
 have hx:=step i (w i) h0 h1 (hS' i h0 h1) hne
 refine⟨Classical.choose hx,(Classical.choose_spec hx).2,fun p hp=>?_⟩
 obtain⟨p0,p1,pf⟩:=(F.mem _ _).1 hp
 rw[hpart p p0 p1 yaa,pf]
 simp only[f,dif_pos hx]
abbrev Box:=Int→Int × Int
def WS (n:Nat)(parts:Int→List Int)(B:Box)(w:Int→Int):Prop:=
 (∀i:Int,0≤i→i<n→(B i).1≤w i∧w i≤(B i).2)∧∀i:Int,0≤i→i<n→parts i≠[]→w i=Zg w (parts i)
inductive Anc (frm:Int→Int) (j:Int):Int→Prop where
 |self:Anc frm j j
 |up {k:Int}:Anc frm j k→0≤frm k→Anc frm j (frm k)
theorem Anc.of_up {j k:Int}(h:0≤frm j)(a:Anc frm (frm j) k):Anc frm j k:=by
 induction a with
 |self=>exact .up .self h
 |up _ h0 ih=>exact .up ih h0
theorem Anc.down {j k:Int}(a:Anc frm j k):k=j∨(0≤frm j∧Anc frm (frm j) k):=by
 induction a with
 |self=>exact .inl rfl
 |up _ h0 ih=>
  rcases ih with rfl|⟨h1,h2⟩
  ·exact .inr ⟨h0,.self⟩
  ·exact .inr ⟨h1,.up h2 h0⟩
theorem Anc.le (F:ZG n frm parts){j k:Int}(a:Anc frm j k)(h0:0≤j)(h1:j<n):0≤k∧k≤j:=by
 induction a with
 |self=>exact⟨h0,Int.le_refl _⟩
 |up _ h2 ih=>have:=F.lt _ ih.1 yaa;omega
theorem Anc.one (F:ZG n frm parts){j p q:Int}(h0:0≤j)(h1:j<n)(a:Anc frm j p)(b:Anc frm j q)(e:frm p=frm q):p=q:=by
 have tot:∀{p q},Anc frm j p→Anc frm j q→p=q∨(0≤frm p∧Anc frm (frm p) q)∨(0≤frm q∧Anc frm (frm q) p):=by
  intro p q a
  induction a with
  |self=>
   intro b
   rcases b.down with h|h
   ·exact .inl h.symm
   ·exact .inr (.inl h)
  |up a h2 ih=>
   intro b
   rcases ih b with rfl|⟨h3,h4⟩|⟨h3,h4⟩
   ·exact .inr (.inr ⟨h2,.self⟩)
   ·rcases h4.down with h5|h5
    ·exact .inl h5.symm
    ·exact .inr (.inl h5)
   ·exact .inr (.inr ⟨h3,.up h4 h2⟩)
 have hp:=a.le F h0 h1
 have hq:=b.le F h0 h1
 rcases tot a b with h|⟨h2,h3⟩|⟨h2,h3⟩
 ·exact h
 ·have:=F.lt p hp.1 yaa
  have h4:=h3.le F h2 yaa
  have:=F.lt q hq.1 yaa;omega
 ·have:=F.lt q hq.1 yaa
  have h4:=h3.le F h2 yaa
  have:=F.lt p hp.1 yaa;omega
def lo1 (U:Box):Int→Int:=fun p=>(U p).1
def hi1 (U:Box):Int→Int:=fun p=>(U p).2
theorem proj (F:ZG n frm parts)(U D:Box)(hU0:∀i:Int,0≤i→i<n→(U i).1≤(U i).2)
  (hU:∀i:Int,0≤i→i<n→parts i≠[]→Zg (lo1 U) (parts i)≤(U i).1∧(U i).2≤Zg (hi1 U) (parts i))
  (hD0:∀i:Int,0≤i→i<n→(U i).1≤(D i).1∧(D i).2≤(U i).2)
  (hD:∀i:Int,0≤i→i<n→∀p∈parts i,∀v,(D p).1≤v→v≤(D p).2→∃u,(D i).1≤u∧u≤(D i).2∧v+(Zg (lo1 U) (parts i)-(U p).1)≤u∧u≤v+(Zg (hi1 U) (parts i)-(U p).2))
  {j v:Int} (j0:0≤j) (j1:j<n) (v1:(D j).1≤v) (v2:v≤(D j).2):∃w,WS n parts U w∧w j=v:=by
 classical
 have chain:∀(k:Nat) (j v:Int),j<k→0≤j→j<n→(D j).1≤v→v≤(D j).2→∃u:Int→Int,u j=v∧∀i,Anc frm j i→((D i).1≤u i∧u i≤(D i).2)∧
   (0≤frm i→u i+(Zg (lo1 U) (parts (frm i))-(U i).1)≤u (frm i)∧u (frm i)≤u i+(Zg (hi1 U) (parts (frm i))-(U i).2)):=by
  intro k
  induction k with
  |zero=>intro j v h1 h2;omega
  |succ k ih=>
   intro j v hk j0 j1 v1 v2
   have hf:=F.lt j j0 j1
   by_cases h:frm j<0
   ·refine⟨fun _=>v,rfl,fun i ha=>?_⟩
    rcases ha.down with rfl|⟨h2,_⟩
    ·exact⟨⟨v1,v2⟩,fun h3=>by omega⟩
    ·omega
   ·have hp:j∈parts (frm j):=(F.mem _ _).2 ⟨j0,j1,rfl⟩
    obtain⟨u0,a1,a2,a3,a4⟩:=hD (frm j) yaa yaa j hp v v1 v2
    obtain⟨u,b1,b2⟩:=ih (frm j) u0 yaa yaa yaa a1 a2
    refine⟨up1 u j v,Y7 _ _ _,fun i ha=>?_⟩
    rcases ha.down with rfl|⟨h2,h3⟩
    ·refine⟨by rw[Y7];exact⟨v1,v2⟩,fun _=>?_⟩
     rw[Y7,WM u v yaa,b1];exact⟨a3,a4⟩
    ·have hl:=h3.le F yaa yaa
     have hfi:=F.lt i yaa yaa
     rw[WM u v yaa,WM u v yaa]
     exact b2 i h3
 obtain⟨u,u1,u2⟩:=chain n j v j1 j0 j1 v1 v2
 let S:Int→Int→Prop:=fun i x=>(Anc frm j i→x=u i)∧(¬Anc frm j i→(U i).1≤x∧x≤(U i).2)
 have hin:∀i x:Int,0≤i→i<n→S i x→(U i).1≤x∧x≤(U i).2:=by
  intro i x h0 h1 hs
  by_cases ha:Anc frm j i
  ·have:=(u2 i ha).1
   have:=hD0 i h0 h1
   have:=hs.1 ha;omega
  ·exact hs.2 ha
 obtain⟨w,w1,w2,w3⟩:=fill F S (fun i v x=>Zg x (parts i)=v) (fun i x i0 i1 hs hne=>by
  have hxi:=hin i x i0 i1 hs
  have hUi:=hU i i0 i1 hne
  by_cases hc:∃p∈parts i,Anc frm j p
  ·obtain⟨p,hp,ha⟩:=hc
   obtain⟨p0,p1,pf⟩:=(F.mem _ _).1 hp
   have hai:Anc frm j i:=by rw[←pf];exact .up ha yaa
   have hu:=u2 p ha
   have hu2:=hu.2 yaa
   rw[pf] at hu2
   have hx:x=u i:=hs.1 hai
   have hDp:=hD0 p p0 p1
   obtain⟨y,y1,y2⟩:=pick (parts i) (up1 (lo1 U) p (u p)) (up1 (hi1 U) p (u p)) x (F.nodup i) (fun q hq=>by
     by_cases e:q=p
     ·subst e;rw[Y7,Y7];exact Int.le_refl _
     ·obtain⟨q0,q1,_⟩:=(F.mem _ _).1 hq
      rw[WM _ _ e,WM _ _ e];exact hU0 q q0 q1)
    (by rw[Vb (F.nodup i) hp];simp only[lo1] at *;omega) (by rw[Vb (F.nodup i) hp];simp only[hi1] at *;omega)
   refine⟨y,fun q hq=>?_,y2⟩
   have hy:=y1 q hq
   by_cases e:q=p
   ·subst e
    rw[Y7,Y7] at hy
    exact⟨fun _=>by omega,fun h=>absurd ha h⟩
   ·rw[WM _ _ e,WM _ _ e] at hy
    refine⟨fun h=>?_,fun _=>hy⟩
    obtain⟨_,_,qf⟩:=(F.mem _ _).1 hq
    exact absurd (Anc.one F j0 j1 h ha (by rw[qf,pf])) e
  ·obtain⟨y,y1,y2⟩:=pick (parts i) (lo1 U) (hi1 U) x (F.nodup i) (fun q hq=>by
     obtain⟨q0,q1,_⟩:=(F.mem _ _).1 hq
     exact hU0 q q0 q1) yaa yaa
   exact⟨y,fun q hq=>⟨fun h=>absurd ⟨q,hq,h⟩ hc,fun _=>y1 q hq⟩,y2⟩)
  (fun i=>if Anc frm j i then u i else(U i).1) (fun i i0 i1 _=>by
   by_cases ha:Anc frm j i
   ·simp only[if_pos ha];exact⟨fun _=>rfl,fun h=>absurd ha h⟩
   ·simp only[if_neg ha];exact⟨fun h=>absurd h ha,fun _=>⟨Int.le_refl _,hU0 i i0 i1⟩⟩)
 refine⟨w,⟨fun i i0 i1=>hin i _ i0 i1 (w1 i i0 i1),fun i i0 i1 hne=>?_⟩,?_⟩
 ·obtain⟨x,x1,x2⟩:=w3 i i0 i1 hne
  rw[←x1];exact(ZN x2).symm
 ·rw[(w1 j j0 j1).1 .self,u1]
structure Exact (n:Nat)(parts:Int→List Int)(B r:Box):Prop where
 sound:∀w,WS n parts B w→∀i:Int,0≤i→i<n→(r i).1≤w i∧w i≤(r i).2
 ne:∀i:Int,0≤i→i<n→(r i).1≤(r i).2
 full:∀i v:Int,0≤i→i<n→(r i).1≤v→v≤(r i).2→∃w,WS n parts B w∧w i=v
theorem Exact.uniq {B r s:Box}(a:Exact n parts B r)(b:Exact n parts B s){i:Int}(i0:0≤i)(i1:i<n):r i=s i:=by
 have h1:=a.ne i i0 i1
 have h2:=b.ne i i0 i1
 obtain⟨w1,f1,e1⟩:=a.full i (r i).1 i0 i1 (Int.le_refl _) h1
 obtain⟨w2,f2,e2⟩:=a.full i (r i).2 i0 i1 h1 (Int.le_refl _)
 obtain⟨w3,f3,e3⟩:=b.full i (s i).1 i0 i1 (Int.le_refl _) h2
 obtain⟨w4,f4,e4⟩:=b.full i (s i).2 i0 i1 h2 (Int.le_refl _)
 have g1:=b.sound w1 f1 i i0 i1
 have g2:=b.sound w2 f2 i i0 i1
 have g3:=a.sound w3 f3 i i0 i1
 have g4:=a.sound w4 f4 i i0 i1
 have:(r i).1=(s i).1:=by omega
 have:(r i).2=(s i).2:=by omega
 exact Prod.ext yaa yaa
theorem Exact.congr {B r s:Box}(a:Exact n parts B r)(h:∀i:Int,0≤i→i<n→s i=r i):Exact n parts B s:=
 ⟨fun w f i i0 i1=>by rw[h i i0 i1];exact a.sound w f i i0 i1,fun i i0 i1=>by rw[h i i0 i1];exact a.ne i i0 i1,
  fun i v i0 i1=>by rw[h i i0 i1];exact a.full i v i0 i1⟩
theorem WS.mono {B C:Box}{w:Int→Int}(f:WS n parts B w)(h:∀i:Int,0≤i→i<n→(C i).1≤(B i).1∧(B i).2≤(C i).2):WS n parts C w:=
 ⟨fun i i0 i1=>by have:=f.1 i i0 i1;have:=h i i0 i1;omega,f.2⟩
def UF (parts:Int→List Int)(own:Box):Nat→Int→Int × Int
 |0,i=>own i
 |k+1,i=>if parts i=[] then own i else(max (own i).1 (Zg (fun p=>(UF parts own k p).1) (parts i)),min (own i).2 (Zg (fun p=>(UF parts own k p).2) (parts i)))
theorem UF_any (F:ZG n frm parts)(own:Box):∀(k j:Nat) (i:Int),0≤i→i<n→(n:Int)-i≤k→(n:Int)-i≤j→UF parts own k i=UF parts own j i
 |0,_,i,h0,h1,h,_=>by omega
 |_+1,0,i,h0,h1,_,h=>by omega
 |k+1,j+1,i,h0,h1,h2,h3=>by
  have hp:∀p∈parts i,UF parts own k p=UF parts own j p:=fun p hp=>by
   obtain⟨p0,p1,pf⟩:=(F.mem _ _).1 hp
   have:=F.lt p p0 p1
   exact UF_any F own k j p p0 p1 yaa yaa
  simp only[UF]
  rw[ZN (x:=fun p=>(UF parts own k p).1) fun p h=>by rw[hp p h],ZN (x:=fun p=>(UF parts own k p).2) fun p h=>by rw[hp p h]]
def Uo (n:Nat)(parts:Int→List Int)(own:Box):Box:=UF parts own n
theorem Uo_eq (F:ZG n frm parts)(own:Box){i:Int}(i0:0≤i)(i1:i<n):
  Uo n parts own i=if parts i=[] then own i else(max (own i).1 (Zg (lo1 (Uo n parts own)) (parts i)),min (own i).2 (Zg (hi1 (Uo n parts own)) (parts i))):=by
 have e:UF parts own n i=UF parts own (n+1) i:=UF_any F own n (n+1) i i0 i1 yaa yaa
 unfold Uo
 rw[e];rfl
theorem Vu (F:ZG n frm parts)(own:Box){i:Int}(i0:0≤i)(i1:i<n)(h:parts i=[]):Uo n parts own i=own i:=by rw[Uo_eq F own i0 i1,if_pos h]
theorem Wz (F:ZG n frm parts)(own:Box){i:Int}(i0:0≤i)(i1:i<n)(h:parts i≠[]):
  Uo n parts own i=(max (own i).1 (Zg (lo1 (Uo n parts own)) (parts i)),min (own i).2 (Zg (hi1 (Uo n parts own)) (parts i))):=by rw[Uo_eq F own i0 i1,if_neg h]
theorem Uo_own (F:ZG n frm parts)(own:Box){i:Int}(i0:0≤i)(i1:i<n):(own i).1≤(Uo n parts own i).1∧(Uo n parts own i).2≤(own i).2:=by
 by_cases h:parts i=[]
 ·rw[Vu F own i0 i1 h];omega
 ·rw[Wz F own i0 i1 h];simp only;omega
theorem Uo_sound (F:ZG n frm parts){own:Box}{w:Int→Int}(f:WS n parts own w):∀i:Int,0≤i→i<n→(Uo n parts own i).1≤w i∧w i≤(Uo n parts own i).2:=by
 have:∀(k:Nat) (i:Int),(n:Int)-i≤k→0≤i→i<n→(Uo n parts own i).1≤w i∧w i≤(Uo n parts own i).2:=by
  intro k
  induction k with
  |zero=>intro i h1 h2 h3;omega
  |succ k ih=>
   intro i hk i0 i1
   have h1:=f.1 i i0 i1
   by_cases h:parts i=[]
   ·rw[Vu F own i0 i1 h];exact h1
   ·have h2:=f.2 i i0 i1 h
    have hp:∀p∈parts i,(Uo n parts own p).1≤w p∧w p≤(Uo n parts own p).2:=fun p hp=>by
     obtain⟨p0,p1,pf⟩:=(F.mem _ _).1 hp
     have:=F.lt p p0 p1
     exact ih p yaa p0 p1
    have h3:Zg (lo1 (Uo n parts own)) (parts i)≤Zg w (parts i):=ZU fun p h=>(hp p h).1
    have h4:Zg w (parts i)≤Zg (hi1 (Uo n parts own)) (parts i):=ZU fun p h=>(hp p h).2
    rw[Wz F own i0 i1 h];simp only;omega
 exact fun i i0 i1=>this n i yaa i0 i1
def DF (frm:Int→Int)(parts:Int→List Int)(U:Box):Nat→Int→Int × Int
 |0,i=>U i
 |k+1,i=>if frm i<0 then U i else
  (max (U i).1 ((DF frm parts U k (frm i)).1-(Zg (hi1 U) (parts (frm i))-(U i).2)),min (U i).2 ((DF frm parts U k (frm i)).2-(Zg (lo1 U) (parts (frm i))-(U i).1)))
theorem DF_any (F:ZG n frm parts)(U:Box):∀(k j:Nat) (i:Int),0≤i→i<n→i<k→i<j→DF frm parts U k i=DF frm parts U j i
 |0,_,i,h0,h1,h,_=>by omega
 |_+1,0,i,h0,h1,_,h=>by omega
 |k+1,j+1,i,h0,h1,h2,h3=>by
  have hf:=F.lt i h0 h1
  simp only[DF]
  by_cases h:frm i<0
  ·simp[h]
  ·simp only[h, ↓reduceIte]
   rw[DF_any F U k j (frm i) yaa yaa yaa yaa]
def Do (n:Nat)(frm:Int→Int)(parts:Int→List Int)(U:Box):Box:=DF frm parts U n
theorem Do_eq (F:ZG n frm parts)(U:Box){i:Int}(i0:0≤i)(i1:i<n):Do n frm parts U i=if frm i<0 then U i else
  (max (U i).1 ((Do n frm parts U (frm i)).1-(Zg (hi1 U) (parts (frm i))-(U i).2)),min (U i).2 ((Do n frm parts U (frm i)).2-(Zg (lo1 U) (parts (frm i))-(U i).1))):=by
 have e:DF frm parts U n i=DF frm parts U (n+1) i:=DF_any F U n (n+1) i i0 i1 i1 yaa
 unfold Do
 rw[e];rfl
theorem Do_in (F:ZG n frm parts)(U:Box){i:Int}(i0:0≤i)(i1:i<n):(U i).1≤(Do n frm parts U i).1∧(Do n frm parts U i).2≤(U i).2:=by
 rw[Do_eq F U i0 i1]
 by_cases h:frm i<0
 ·rw[if_pos h];omega
 ·rw[if_neg h];simp only;omega
theorem V4 (F:ZG n frm parts){x y:Int→Int}{i p:Int}(hp:p∈parts i)(h:∀q∈parts i,x q≤y q):Zg x (parts i)-x p≤Zg y (parts i)-y p:=by
 have e1:=Vb (x:=x) (v:=0) (F.nodup i) hp
 have e2:=Vb (x:=y) (v:=0) (F.nodup i) hp
 have:Zg (up1 x p 0) (parts i)≤Zg (up1 y p 0) (parts i):=ZU fun q hq=>by
  by_cases e:q=p
  ·subst e;rw[Y7,Y7];exact Int.le_refl _
  ·rw[WM _ _ e,WM _ _ e];exact h q hq
 omega
theorem exact_ref (F:ZG n frm parts){own:Box}(hne:∀i:Int,0≤i→i<n→(Uo n parts own i).1≤(Uo n parts own i).2):Exact n parts own (Do n frm parts (Uo n parts own)):=by
 have hU:∀i:Int,0≤i→i<n→parts i≠[]→Zg (lo1 (Uo n parts own)) (parts i)≤(Uo n parts own i).1∧(Uo n parts own i).2≤Zg (hi1 (Uo n parts own)) (parts i):=fun i i0 i1 h=>by
  rw[Wz F own i0 i1 h];simp only;omega
 have hD0:=fun(i:Int) (i0:0≤i) (i1:i<n)=>Do_in F (Uo n parts own) i0 i1
 have hDne:∀(k:Nat) (i:Int),i<k→0≤i→i<n→(Do n frm parts (Uo n parts own) i).1≤(Do n frm parts (Uo n parts own) i).2:=by
  intro k
  induction k with
  |zero=>intro i h1 h2;omega
  |succ k ih=>
   intro i hk i0 i1
   have hf:=F.lt i i0 i1
   have hi:=hne i i0 i1
   rw[Do_eq F _ i0 i1]
   by_cases h:frm i<0
   ·rw[if_pos h];exact hi
   ·rw[if_neg h]
    have hp:i∈parts (frm i):=(F.mem _ _).2 ⟨i0,i1,rfl⟩
    have hne':parts (frm i)≠[]:=fun e=>by rw[e] at hp;cases hp
    have h1:=ih (frm i) yaa yaa yaa
    have h2:=hD0 (frm i) yaa yaa
    have h3:=hU (frm i) yaa yaa hne'
    have h4:=V4 F (x:=lo1 (Uo n parts own)) (y:=hi1 (Uo n parts own)) hp fun q hq=>by
     obtain⟨q0,q1,_⟩:=(F.mem _ _).1 hq
     exact hne q q0 q1
    simp only[lo1,hi1] at *;omega
 refine⟨fun w f=>?_,fun i i0 i1=>hDne n i i1 i0 i1,fun i v i0 i1 v1 v2=>?_⟩
 ·have hu:=Uo_sound F f
  have:∀(k:Nat) (i:Int),i<k→0≤i→i<n→(Do n frm parts (Uo n parts own) i).1≤w i∧w i≤(Do n frm parts (Uo n parts own) i).2:=by
   intro k
   induction k with
   |zero=>intro i h1 h2;omega
   |succ k ih=>
    intro i hk i0 i1
    have hf:=F.lt i i0 i1
    have h1:=hu i i0 i1
    rw[Do_eq F _ i0 i1]
    by_cases h:frm i<0
    ·rw[if_pos h];exact h1
    ·rw[if_neg h]
     have hp:i∈parts (frm i):=(F.mem _ _).2 ⟨i0,i1,rfl⟩
     have hne':parts (frm i)≠[]:=fun e=>by rw[e] at hp;cases hp
     have h2:=ih (frm i) yaa yaa yaa
     have h3:=f.2 (frm i) yaa yaa hne'
     have h4:=V4 F (x:=lo1 (Uo n parts own)) (y:=w) hp fun q hq=>by
      obtain⟨q0,q1,_⟩:=(F.mem _ _).1 hq
      exact(hu q q0 q1).1
     have h5:=V4 F (x:=w) (y:=hi1 (Uo n parts own)) hp fun q hq=>by
      obtain⟨q0,q1,_⟩:=(F.mem _ _).1 hq
      exact(hu q q0 q1).2
     simp only[lo1,hi1] at *;omega
  exact fun i i0 i1=>this n i i1 i0 i1
 ·obtain⟨w,f,e⟩:=proj F (Uo n parts own) (Do n frm parts (Uo n parts own)) hne hU hD0 (fun i i0 i1 p hp v v1 v2=>by
   obtain⟨p0,p1,pf⟩:=(F.mem _ _).1 hp
   have hlt:=F.lt p p0 p1
   have hpe:=Do_eq F (Uo n parts own) p0 p1
   rw[if_neg yaa,pf] at hpe
   rw[hpe] at v1 v2
   simp only at v1 v2
   have h1:=hDne n i i1 i0 i1
   have h4:=V4 F (x:=lo1 (Uo n parts own)) (y:=hi1 (Uo n parts own)) hp fun q hq=>by
    obtain⟨q0,q1,_⟩:=(F.mem _ _).1 hq
    exact hne q q0 q1
   refine⟨max (Do n frm parts (Uo n parts own) i).1 (v+(Zg (lo1 (Uo n parts own)) (parts i)-(Uo n parts own p).1)),?_,?_,?_,?_⟩<;>(simp only[lo1,hi1] at *;omega)) i0 i1 v1 v2
  exact⟨w,f.mono fun i i0 i1=>Uo_own F own i0 i1,e⟩
theorem feas_iff (F:ZG n frm parts)(own:Box)(hn:0<n):(∃w,WS n parts own w)↔∀i:Int,0≤i→i<n→(Uo n parts own i).1≤(Uo n parts own i).2:=by
 constructor
 ·rintro⟨w,f⟩ i i0 i1
  have:=Uo_sound F f i i0 i1;omega
 ·intro h
  have e:=exact_ref F h
  obtain⟨w,f,_⟩:=e.full 0 _ yaa yaa (Int.le_refl _) (e.ne 0 yaa yaa)
  exact⟨w,f⟩
end
end Go.Ab.Silk
namespace Go.Ab.Silk
def narrow (b:Box)(i lo hi:Int):Box:=fun k=>if k=i then(max (b i).1 lo,min (b i).2 hi) else b k
theorem YW (b:Box)(i lo hi:Int):narrow b i lo hi i=(max (b i).1 lo,min (b i).2 hi):=by simp[narrow]
theorem XR (b:Box){i k:Int}(lo hi:Int)(h:k≠i):narrow b i lo hi k=b k:=by simp[narrow,h]
def WF (bf:Box)(i lo hi:Int):List Int→Box→Box
 |[],b=>b
 |p::l,b=>WF bf i lo hi l (narrow b p ((b i).1-(hi-(bf p).2)) ((b i).2-(lo-(bf p).1)))
def ZR (parts:Int→List Int)(bf b:Box)(i:Int):Option Box:=
 if(b i).2<(b i).1 then none
 else if parts i=[] then some b
 else some (WF bf i (Zg (lo1 b) (parts i)) (Zg (hi1 b) (parts i)) (parts i) (narrow b i (Zg (lo1 b) (parts i)) (Zg (hi1 b) (parts i))))
def Xi (parts:Int→List Int)(bf:Box):Nat→Int→Box→Option Box
 |0,_,b=>some b
 |k+1,i,b=>match ZR parts bf b i with
  |none=>none
  |some b'=>Xi parts bf k (i+1) b'
def Nrw (b c:Box):Prop:=∀i,(b i).1≤(c i).1∧(c i).2≤(b i).2
theorem Nrw.refl (b:Box):Nrw b b:=fun i=>⟨Int.le_refl _,Int.le_refl _⟩
theorem Nrw.trans {a b c:Box}(h:Nrw a b)(k:Nrw b c):Nrw a c:=fun i=>by have:=h i;have:=k i;omega
theorem Ub (b:Box)(i lo hi:Int):Nrw b (narrow b i lo hi):=fun k=>by
 by_cases h:k=i
 ·subst h;rw[YW];simp only;omega
 ·rw[XR b _ _ h];omega
theorem downs_nrw (bf:Box)(i lo hi:Int):∀(l:List Int) (b:Box),Nrw b (WF bf i lo hi l b)
 |[],b=>Nrw.refl b
 |p::l,b=>(Ub b p _ _).trans (downs_nrw bf i lo hi l _)
theorem lotStep_nrw {parts:Int→List Int}{bf b c:Box}{i:Int}(h:ZR parts bf b i=some c):Nrw b c:=by
 unfold ZR at h
 split at h
 ·cases h
 ·split at h
  ·cases h;exact Nrw.refl b
  ·cases h;exact(Ub b i _ _).trans (downs_nrw _ _ _ _ _ _)
theorem VG {parts:Int→List Int}{bf:Box}:∀(k:Nat) (i:Int) {b c:Box},Xi parts bf k i b=some c→Nrw b c
 |0,_,b,c,h=>by cases h;exact Nrw.refl b
 |k+1,i,b,c,h=>by
  simp only[Xi] at h
  cases h1:ZR parts bf b i with
  |none=>rw[h1] at h;cases h
  |some d=>rw[h1] at h;exact(lotStep_nrw h1).trans (VG k _ h)
section
variable {n:Nat} {frm:Int→Int} {parts:Int→List Int}
theorem downs_out (bf:Box)(i lo hi:Int):∀(l:List Int) (b:Box) (k:Int),k ∉l→WF bf i lo hi l b k=b k
 |[],b,k,_=>rfl
 |p::l,b,k,h=>by
  rw[List.mem_cons,not_or] at h
  simp only[WF]
  rw[downs_out bf i lo hi l _ k h.2,XR _ _ _ h.1]
theorem lotStep_out {bf b c:Box}{i k:Int}(h:ZR parts bf b i=some c)(hk:k≠i)(hp:k ∉parts i):c k=b k:=by
 unfold ZR at h
 split at h
 ·cases h
 ·split at h
  ·cases h;rfl
  ·cases h;rw[downs_out _ _ _ _ _ _ _ hp,XR _ _ _ hk]
def InB (n:Nat)(b:Box)(w:Int→Int):Prop:=∀i:Int,0≤i→i<n→(b i).1≤w i∧w i≤(b i).2
def Adds (n:Nat)(parts:Int→List Int)(w:Int→Int):Prop:=∀i:Int,0≤i→i<n→parts i≠[]→w i=Zg w (parts i)
theorem downs_in (F:ZG n frm parts){bf:Box}{w:Int→Int}(ha:Adds n parts w)(hbf:InB n bf w){i:Int}(i0:0≤i)(i1:i<n):∀(l:List Int) (b:Box),(∀p∈l,p∈parts i)→InB n b w→
  InB n (WF bf i (Zg (lo1 bf) (parts i)) (Zg (hi1 bf) (parts i)) l b) w
 |[],b,_,h=>h
 |p::l,b,hl,h=>by
  simp only[WF]
  have hp:=hl p (by simp)
  refine downs_in F ha hbf i0 i1 l _ (fun q hq=>hl q yab) fun k k0 k1=>?_
  have hk:=h k k0 k1
  by_cases e:k=p
  ·subst e
   rw[YW]
   have hi:=h i i0 i1
   have hs:=ha i i0 i1 (fun e=>by rw[e] at hp;cases hp)
   have r1:=V4 F (x:=lo1 bf) (y:=w) hp fun q hq=>by
    obtain⟨q0,q1,_⟩:=(F.mem _ _).1 hq
    exact(hbf q q0 q1).1
   have r2:=V4 F (x:=w) (y:=hi1 bf) hp fun q hq=>by
    obtain⟨q0,q1,_⟩:=(F.mem _ _).1 hq
    exact(hbf q q0 q1).2
   simp only[lo1,hi1] at *;omega
  ·rw[XR _ _ _ e];exact hk
theorem lotStep_in (F:ZG n frm parts){bf b c:Box}{w:Int→Int}{i:Int}(i0:0≤i)(i1:i<n)(ha:Adds n parts w)(hbf:InB n bf w)(hb:InB n b w)(he:∀p∈parts i,b p=bf p)(h:ZR parts bf b i=some c):InB n c w:=by
 unfold ZR at h
 split at h
 ·cases h
 ·split at h
  ·cases h;exact hb
  ·rename_i hne
   cases h
   have e1:Zg (lo1 b) (parts i)=Zg (lo1 bf) (parts i):=ZN fun p hp=>by simp only[lo1,he p hp]
   have e2:Zg (hi1 b) (parts i)=Zg (hi1 bf) (parts i):=ZN fun p hp=>by simp only[hi1,he p hp]
   rw[e1,e2]
   refine downs_in F ha hbf i0 i1 _ _ (fun p hp=>hp) fun k k0 k1=>?_
   have hk:=hb k k0 k1
   by_cases e:k=i
   ·subst e
    rw[YW]
    have hs:=ha k k0 k1 hne
    have m1:Zg (lo1 bf) (parts k)≤Zg w (parts k):=ZU fun q hq=>by
     obtain⟨q0,q1,_⟩:=(F.mem _ _).1 hq
     exact(hbf q q0 q1).1
    have m2:Zg w (parts k)≤Zg (hi1 bf) (parts k):=ZU fun q hq=>by
     obtain⟨q0,q1,_⟩:=(F.mem _ _).1 hq
     exact(hbf q q0 q1).2
    simp only;omega
   ·rw[XR _ _ _ e];exact hk
def Yt (n:Nat)(frm:Int→Int)(bf b:Box)(i:Int):Prop:=∀p:Int,0≤p→p<n→i≤frm p→b p=bf p
theorem Yt.step (F:ZG n frm parts){bf b c:Box}{i:Int}(i0:0≤i)(h:ZR parts bf b i=some c)(f:Yt n frm bf b i):Yt n frm bf c (i+1):=fun p p0 p1 hp=>by
 have hlt:=F.lt p p0 p1
 rw[lotStep_out h yaa (fun hm=>by have:=((F.mem _ _).1 hm).2.2;omega)]
 exact f p p0 p1 yaa
theorem Yt.at (F:ZG n frm parts){bf b:Box}{i:Int}(f:Yt n frm bf b i):∀p∈parts i,b p=bf p:=fun p hp=>by
 obtain⟨p0,p1,pf⟩:=(F.mem _ _).1 hp
 exact f p p0 p1 yaa
theorem passF_in (F:ZG n frm parts){bf:Box}{w:Int→Int}(ha:Adds n parts w)(hbf:InB n bf w):∀(k:Nat) (i:Int) (b c:Box),0≤i→i+k≤n→InB n b w→Yt n frm bf b i→Xi parts bf k i b=some c→InB n c w
 |0,i,b,c,_,_,hb,_,h=>by cases h;exact hb
 |k+1,i,b,c,i0,i1,hb,hf,h=>by
  simp only[Xi] at h
  cases h1:ZR parts bf b i with
  |none=>rw[h1] at h;cases h
  |some d=>
   rw[h1] at h
   exact passF_in F ha hbf k (i+1) d c yaa yaa (lotStep_in F i0 yaa ha hbf hb (hf.at F) h1) (hf.step F i0 h1) h
theorem passF_none (F:ZG n frm parts){bf:Box}{w:Int→Int}(ha:Adds n parts w)(hbf:InB n bf w):∀(k:Nat) (i:Int) (b:Box),0≤i→i+k≤n→InB n b w→Yt n frm bf b i→Xi parts bf k i b≠none
 |0,i,b,_,_,hb,_,h=>by cases h
 |k+1,i,b,i0,i1,hb,hf,h=>by
  simp only[Xi] at h
  cases h1:ZR parts bf b i with
  |none=>
   unfold ZR at h1
   have:=hb i i0 yaa
   rw[if_neg yaa] at h1
   split at h1<;>cases h1
  |some d=>
   rw[h1] at h
   exact passF_none F ha hbf k (i+1) d yaa yaa (lotStep_in F i0 yaa ha hbf hb (hf.at F) h1) (hf.step F i0 h1) h
structure Tight (n:Nat)(parts:Int→List Int)(b:Box):Prop where
 ne:∀i:Int,0≤i→i<n→(b i).1≤(b i).2
 node:∀i:Int,0≤i→i<n→parts i≠[]→Zg (lo1 b) (parts i)≤(b i).1∧(b i).2≤Zg (hi1 b) (parts i)
 part:∀i:Int,0≤i→i<n→∀p∈parts i,(b i).1-(Zg (hi1 b) (parts i)-(b p).2)≤(b p).1∧(b p).2≤(b i).2-(Zg (lo1 b) (parts i)-(b p).1)
theorem downs_fix {bf:Box}{i lo hi:Int}:∀(l:List Int) (b:Box),(∀k,WF bf i lo hi l b k=b k)→∀p∈l,(b i).1-(hi-(bf p).2)≤(b p).1∧(b p).2≤(b i).2-(lo-(bf p).1)
 |[],b,_,p,hp=>by cases hp
 |q::l,b,h,p,hp=>by
  simp only[WF] at h
  have n1:=Ub b q ((b i).1-(hi-(bf q).2)) ((b i).2-(lo-(bf q).1))
  have n2:=downs_nrw bf i lo hi l (narrow b q ((b i).1-(hi-(bf q).2)) ((b i).2-(lo-(bf q).1)))
  have e:∀k,narrow b q ((b i).1-(hi-(bf q).2)) ((b i).2-(lo-(bf q).1)) k=b k:=fun k=>by
   have a1:=n1 k
   have a2:=n2 k
   rw[h k] at a2
   exact Prod.ext yaa yaa
  have e':narrow b q ((b i).1-(hi-(bf q).2)) ((b i).2-(lo-(bf q).1))=b:=funext e
  rcases List.mem_cons.1 hp with rfl|hp
  ·have:=e p
   rw[YW] at this
   have h1:=congrArg Prod.fst this
   have h2:=congrArg Prod.snd this
   simp only at h1 h2;omega
  ·rw[e'] at h
   exact downs_fix l b h p hp
theorem lotStep_fix {b:Box}{i:Int}(h:ZR parts b b i=some b):(b i).1≤(b i).2∧(parts i≠[]→(Zg (lo1 b) (parts i)≤(b i).1∧(b i).2≤Zg (hi1 b) (parts i))∧
  ∀p∈parts i,(b i).1-(Zg (hi1 b) (parts i)-(b p).2)≤(b p).1∧(b p).2≤(b i).2-(Zg (lo1 b) (parts i)-(b p).1)):=by
 unfold ZR at h
 split at h
 ·cases h
 ·rename_i h0
  refine⟨by omega,fun hne=>?_⟩
  rw[if_neg hne] at h
  have h':=Option.some.inj h
  have n1:=Ub b i (Zg (lo1 b) (parts i)) (Zg (hi1 b) (parts i))
  have n2:=downs_nrw b i (Zg (lo1 b) (parts i)) (Zg (hi1 b) (parts i)) (parts i) (narrow b i (Zg (lo1 b) (parts i)) (Zg (hi1 b) (parts i)))
  rw[h'] at n2
  have e:narrow b i (Zg (lo1 b) (parts i)) (Zg (hi1 b) (parts i))=b:=funext fun k=>by
   have a1:=n1 k
   have a2:=n2 k
   exact Prod.ext yaa yaa
  rw[e] at h'
  refine⟨?_,downs_fix (parts i) b fun k=>by rw[h']⟩
  have:=congrFun e i
  rw[YW] at this
  have h1:=congrArg Prod.fst this
  have h2:=congrArg Prod.snd this
  simp only at h1 h2;omega
theorem passF_fix {bf:Box}:∀(k:Nat) (i:Int) (b c:Box),b=bf→c=bf→Xi parts bf k i b=some c→∀j,i≤j→j<i+k→ZR parts bf bf j=some bf
 |0,i,b,c,_,_,_,j,h1,h2=>by omega
 |k+1,i,b,c,hb,hc,h,j,h1,h2=>by
  simp only[Xi] at h
  cases h3:ZR parts bf b i with
  |none=>rw[h3] at h;cases h
  |some d=>
   rw[h3] at h
   have n1:=lotStep_nrw h3
   have n2:=VG k (i+1) h
   have hd:d=bf:=funext fun x=>by
    have a1:=n1 x
    have a2:=n2 x
    rw[hb] at a1;rw[hc] at a2
    exact Prod.ext yaa yaa
   by_cases e:j=i
   ·subst e;rw[hb,hd] at h3;exact h3
   ·exact passF_fix k (i+1) d c hd hc h j yaa yaa
theorem tight_of_fix {b:Box}(h:Xi parts b n 0 b=some b):Tight n parts b:=by
 have hs:=fun j h1 h2=>lotStep_fix (passF_fix n 0 b b rfl rfl h j h1 h2)
 exact⟨fun i i0 i1=>(hs i i0 yaa).1,fun i i0 i1 hne=>((hs i i0 yaa).2 hne).1,fun i i0 i1 p hp=>((hs i i0 yaa).2 (fun e=>by rw[e] at hp;cases hp)).2 p hp⟩
theorem tight_full (F:ZG n frm parts){b:Box}(t:Tight n parts b){j v:Int}(j0:0≤j)(j1:j<n)(v1:(b j).1≤v)(v2:v≤(b j).2):∃w,WS n parts b w∧w j=v:=
 proj F b b t.ne t.node (fun i i0 i1=>⟨Int.le_refl _,Int.le_refl _⟩) (fun i i0 i1 p hp v v1 v2=>by
  obtain⟨p0,p1,pf⟩:=(F.mem _ _).1 hp
  have h1:=t.ne i i0 i1
  have h2:=t.part i i0 i1 p hp
  have h4:=V4 F (x:=lo1 b) (y:=hi1 b) hp fun q hq=>by
   obtain⟨q0,q1,_⟩:=(F.mem _ _).1 hq
   exact t.ne q q0 q1
  refine⟨max (b i).1 (v+(Zg (lo1 b) (parts i)-(b p).1)),?_,?_,?_,?_⟩<;>(simp only[lo1,hi1] at *;omega)) j0 j1 v1 v2
inductive YR (n:Nat) (parts:Int→List Int):Box→Option Box→Prop where
 |bad {b:Box}:Xi parts b n 0 b=none→YR n parts b none
 |done {b:Box}:Xi parts b n 0 b=some b→YR n parts b (some b)
 |more {b c:Box} {r:Option Box}:Xi parts b n 0 b=some c→YR n parts c r→YR n parts b r
theorem YR.sound (F:ZG n frm parts){b:Box}{r:Option Box}(h:YR n parts b r):∀w,WS n parts b w→∃c,r=some c∧WS n parts c w:=by
 induction h with
 |bad h=>exact fun w f=>absurd h (passF_none F f.2 f.1 n 0 _ yaa yaa f.1 (fun _ _ _ _=>rfl))
 |done h=>exact fun w f=>⟨_,rfl,f⟩
 |more h _ ih=>exact fun w f=>ih w ⟨passF_in F f.2 f.1 n 0 _ _ yaa yaa f.1 (fun _ _ _ _=>rfl) h,f.2⟩
theorem YR.nrw {b c:Box}(h:YR n parts b (some c)):Nrw b c∧Tight n parts c:=by
 generalize e:some c=r at h
 induction h with
 |bad h=>cases e
 |done h=>cases e;exact⟨Nrw.refl _,tight_of_fix h⟩
 |more h _ ih=>exact⟨(VG _ _ h).trans (ih e).1,(ih e).2⟩
theorem YR.exact (F:ZG n frm parts){b c:Box}(h:YR n parts b (some c)):Exact n parts b c:=by
 obtain⟨h1,h2⟩:=h.nrw
 refine⟨fun w f i i0 i1=>?_,h2.ne,fun i v i0 i1 v1 v2=>?_⟩
 ·obtain⟨d,e,fd⟩:=h.sound F w f
  cases e;exact fd.1 i i0 i1
 ·obtain⟨w,f,e⟩:=tight_full F h2 i0 i1 v1 v2
  exact⟨w,f.mono fun k _ _=>h1 k,e⟩
theorem YR.none_iff (F:ZG n frm parts)(hn:0<n){b:Box}{r:Option Box}(h:YR n parts b r):r=none↔¬∃w,WS n parts b w:=by
 constructor
 ·rintro rfl ⟨w,f⟩
  obtain⟨c,e,_⟩:=h.sound F w f
  cases e
 ·intro hno
  cases r with
  |none=>rfl
  |some c=>
   have e:=h.exact F
   obtain⟨w,f,_⟩:=e.full 0 _ yaa yaa (Int.le_refl _) (e.ne 0 yaa yaa)
   exact absurd ⟨w,f⟩ hno
def room (n:Nat)(b:Box):Int:=match n with|0=>0|k+1=>room k b+((b k).2-(b k).1)
theorem room_le {b c:Box}(h:Nrw b c):∀n,room n c≤room n b
 |0=>Int.le_refl _
 |k+1=>by have:=room_le h k;have:=h k;simp only[room];omega
theorem room_lt {b c:Box}(h:Nrw b c):∀(n:Nat) (i:Int),0≤i→i<n→c i≠b i→room n c<room n b
 |0,i,_,h1,_=>by omega
 |k+1,i,i0,i1,hne=>by
  have hk:=h k
  have hr:=room_le h k
  simp only[room]
  by_cases e:i=(k:Int)
  ·subst e
   have:¬((c k).1=(b k).1∧(c k).2=(b k).2):=fun⟨e1,e2⟩=>hne (Prod.ext e1 e2)
   omega
  ·have:=room_lt h k i i0 yaa hne;omega
theorem room_nonneg {b:Box}:∀(n:Nat),(∀i:Int,0≤i→i<n→(b i).1≤(b i).2)→0≤room n b
 |0,_=>Int.le_refl _
 |k+1,h=>by
  have h1:=room_nonneg k fun i i0 i1=>h i i0 yaa
  have h2:=h k yaa yaa
  simp only[room];omega
theorem passF_start {bf:Box}:∀(k:Nat) (i:Int) (b c:Box),Xi parts bf k i b=some c→∀j,i≤j→j<i+k→(b j).1≤(b j).2
 |0,i,b,c,_,j,h1,h2=>by omega
 |k+1,i,b,c,h,j,h1,h2=>by
  simp only[Xi] at h
  cases h3:ZR parts bf b i with
  |none=>rw[h3] at h;cases h
  |some d=>
   rw[h3] at h
   by_cases e:j=i
   ·subst e
    unfold ZR at h3
    split at h3
    ·cases h3
    ·omega
   ·have n1:=lotStep_nrw h3 j
    have:=passF_start k (i+1) d c h j yaa yaa;omega
theorem passF_out {bf:Box}(F:ZG n frm parts):∀(k:Nat) (i:Int) (b c:Box),0≤i→i+k≤n→Xi parts bf k i b=some c→∀j:Int,¬(0≤j∧j<n)→c j=b j
 |0,i,b,c,_,_,h,j,_=>by cases h;rfl
 |k+1,i,b,c,i0,i1,h,j,hj=>by
  simp only[Xi] at h
  cases h3:ZR parts bf b i with
  |none=>rw[h3] at h;cases h
  |some d=>
   rw[h3] at h
   rw[passF_out F k (i+1) d c yaa yaa h j hj]
   exact lotStep_out h3 yaa fun hp=>by have:=(F.mem _ _).1 hp;omega
theorem YR.out (F:ZG n frm parts){b c:Box}(h:YR n parts b (some c)):∀j:Int,¬(0≤j∧j<n)→c j=b j:=by
 generalize e:some c=r at h
 induction h with
 |bad h=>cases e
 |done h=>cases e;exact fun _ _=>rfl
 |more h _ ih=>intro j hj;rw[ih e j hj];exact passF_out F n 0 _ _ yaa yaa h j hj
end
end Go.Ab.Silk
namespace Go.Ab.Silk
def X4:Nat→Nat→Int→List (List Int)
 |0,_,_=>[[]]
 |_+1,0,_=>[]
 |k+1,f+1,i=>(X4 k f (i+1)).map (fun l=>i::l)++X4 (k+1) f (i+1)
def Xy:List Int→List Int→Bool
 |a::l,b::r=>if a=b then Xy l r else decide (a<b)
 |_,_=>false
def before (a b:List Int):Bool:=if a.length=b.length then Xy a b else decide (a.length<b.length)
def Inc (hi:Int):Int→List Int→Prop
 |_,[]=>True
 |i,a::l=>i≤a∧a<hi∧Inc hi (a+1) l
theorem Inc.lower {hi:Int}:∀{i j:Int} {l:List Int},Inc hi i l→j≤i→Inc hi j l
 |_,_,[],_,_=>trivial
 |i,j,a::l,h,hj=>⟨by have:=h.1;omega,h.2.1,h.2.2⟩
theorem Inc.mem {hi:Int}:∀{i:Int} {l:List Int},Inc hi i l→∀x∈l,i≤x∧x<hi
 |_,[],_,x,hx=>by cases hx
 |i,a::l,h,x,hx=>by
  rcases List.mem_cons.1 hx with rfl|hx
  ·exact⟨h.1,h.2.1⟩
  ·have:=Inc.mem h.2.2 x hx;have:=h.1;omega
theorem Inc.len {hi:Int}:∀{i:Int} {l:List Int},Inc hi i l→i≤hi→(l.length:Int)≤hi-i
 |i,[],_,h=>by simp only[List.length_nil];omega
 |i,a::l,h,hl=>by
  have:=Inc.len h.2.2 (by have:=h.2.1;omega)
  have:=h.1
  simp only[List.length_cons];omega
theorem VJ:∀(k f:Nat) (i:Int) (l:List Int),l∈X4 k f i↔l.length=k∧Inc (i+f) i l
 |0,f,i,l=>by
  simp only[X4,List.mem_singleton]
  constructor
  ·rintro rfl;exact⟨rfl,trivial⟩
  ·rintro⟨h,_⟩;exact List.length_eq_zero_iff.1 h
 |k+1,0,i,l=>by
  simp only[X4,List.not_mem_nil,false_iff]
  rintro⟨h,h2⟩
  cases l with
  |nil=>cases h
  |cons a l=>have:=h2.1;have:=h2.2.1;omega
 |k+1,f+1,i,l=>by
  simp only[X4,List.mem_append,List.mem_map,VJ k f (i+1),VJ (k+1) f (i+1)]
  have e:i+1+(f:Int)=i+((f+1:Nat):Int):=by omega
  rw[e]
  constructor
  ·rintro(⟨c,⟨h1,h2⟩,rfl⟩|⟨h1,h2⟩)
   ·exact⟨by simp[h1],Int.le_refl _,by omega,h2⟩
   ·exact⟨h1,h2.lower yaa⟩
  ·rintro⟨h1,h2⟩
   cases l with
   |nil=>cases h1
   |cons a l=>
    simp only[List.length_cons,Nat.add_right_cancel_iff] at h1
    by_cases ha:a=i
    ·subst ha;exact .inl ⟨l,⟨h1,h2.2.2⟩,rfl⟩
    ·exact .inr ⟨by simp[h1],⟨by have:=h2.1;omega,h2.2.1,h2.2.2⟩⟩
theorem lexlt_irrefl:∀l,Xy l l=false
 |[]=>rfl
 |a::l=>by simp[Xy,lexlt_irrefl l]
theorem lexlt_trans:∀{a b c:List Int},Xy a b=true→Xy b c=true→Xy a c=true
 |[],_,_,h,_=>by simp[Xy] at h
 |_::_,[],_,h,_=>by simp[Xy] at h
 |_::_,_::_,[],_,h=>by simp[Xy] at h
 |x::a,y::b,z::c,h1,h2=>by
  simp only[Xy] at *
  by_cases e1:x=y
  ·subst e1
   simp only[↓reduceIte] at h1
   by_cases e2:x=z
   ·subst e2
    simp only[↓reduceIte] at h2⊢
    exact lexlt_trans h1 h2
   ·rw[if_neg e2] at h2⊢;exact h2
  ·rw[if_neg e1] at h1
   by_cases e2:y=z
   ·subst e2;rw[if_neg e1];exact h1
   ·rw[if_neg e2] at h2
    simp only[decide_eq_true_eq] at h1 h2
    rw[if_neg yaa];simp only[decide_eq_true_eq];omega
theorem lexlt_total:∀{a b:List Int},a.length=b.length→Xy a b=false→a=b∨Xy b a=true
 |[],[],_,_=>.inl rfl
 |[],_::_,h,_=>by cases h
 |_::_,[],h,_=>by cases h
 |x::a,y::b,hl,h=>by
  simp only[Xy] at *
  by_cases e:x=y
  ·subst e
   simp only[↓reduceIte] at h⊢
   rcases lexlt_total (by simpa using hl) h with h|h
   ·exact .inl (by rw[h])
   ·exact .inr h
  ·rw[if_neg e] at h
   rw[if_neg (fun e'=>e e'.symm)]
   simp only[decide_eq_false_iff_not] at h
   exact .inr (by simp only[decide_eq_true_eq];omega)
theorem before_irrefl (l:List Int):before l l=false:=by simp[before,lexlt_irrefl]
theorem before_trans {a b c:List Int}(h1:before a b=true)(h2:before b c=true):before a c=true:=by
 unfold before at *
 by_cases e1:a.length=b.length
 ·rw[if_pos e1] at h1
  by_cases e2:b.length=c.length
  ·rw[if_pos e2] at h2;rw[if_pos yaa];exact lexlt_trans h1 h2
  ·rw[if_neg e2] at h2
   simp only[decide_eq_true_eq] at h2
   rw[if_neg yaa];simp only[decide_eq_true_eq];omega
 ·rw[if_neg e1] at h1
  simp only[decide_eq_true_eq] at h1
  by_cases e2:b.length=c.length
  ·rw[if_neg yaa];simp only[decide_eq_true_eq];omega
  ·rw[if_neg e2] at h2
   simp only[decide_eq_true_eq] at h2
   rw[if_neg yaa];simp only[decide_eq_true_eq];omega
theorem before_total {a b:List Int}(h:before a b=false):a=b∨before b a=true:=by
 unfold before at *
 by_cases e:a.length=b.length
 ·rw[if_pos e] at h;rw[if_pos e.symm];exact lexlt_total e h
 ·rw[if_neg e] at h
  rw[if_neg (fun e'=>e e'.symm)]
  simp only[decide_eq_false_iff_not,decide_eq_true_eq] at *
  exact .inr yaa
theorem find_min (P:List Int→Bool):∀(k f:Nat) (i:Int) {c:List Int},(X4 k f i).find? P=some c→c∈X4 k f i∧P c=true∧∀d∈X4 k f i,P d=true→d=c∨Xy c d=true
 |0,f,i,c,h=>by
  simp only[X4] at *
  have h1:=List.mem_of_find?_eq_some h
  have h2:=List.find?_some h
  refine⟨h1,h2,fun d hd _=>.inl ?_⟩
  rw[List.mem_singleton] at h1 hd
  rw[h1,hd]
 |k+1,0,i,c,h=>by simp[X4] at h
 |k+1,f+1,i,c,h=>by
  simp only[X4] at *
  rw[List.find?_append] at h
  cases h1:((X4 k f (i+1)).map (fun l=>i::l)).find? P with
  |some x=>
   rw[h1] at h
   have hx:x=c:=by simpa using h
   subst hx
   rw[List.find?_map] at h1
   rw[Option.map_eq_some_iff] at h1
   obtain⟨y,h1,rfl⟩:=h1
   obtain⟨m1,m2,m3⟩:=find_min (P∘ fun l=>i::l) k f (i+1) h1
   refine⟨List.mem_append.2 (.inl (List.mem_map.2 ⟨y,m1,rfl⟩)),m2,fun d hd hp=>?_⟩
   rcases List.mem_append.1 hd with hd|hd
   ·obtain⟨z,hz,rfl⟩:=List.mem_map.1 hd
    rcases m3 z hz hp with rfl|h
    ·exact .inl rfl
    ·exact .inr (by simp[Xy,h])
   ·right
    obtain⟨d1,d2⟩:=(VJ _ _ _ _).1 hd
    cases d with
    |nil=>cases d1
    |cons a d=>
     have:=d2.1
     simp only[Xy]
     rw[if_neg yaa];simp only[decide_eq_true_eq];omega
  |none=>
   rw[h1] at h
   have h2:(X4 (k+1) f (i+1)).find? P=some c:=by simpa using h
   obtain⟨m1,m2,m3⟩:=find_min P (k+1) f (i+1) h2
   refine⟨List.mem_append.2 (.inr m1),m2,fun d hd hp=>?_⟩
   rcases List.mem_append.1 hd with hd|hd
   ·have:=List.find?_eq_none.1 h1 d hd
    exact absurd hp this
   ·exact m3 d hd hp
def ZX (P:List Int→Bool)(W:Nat):Nat→Nat→Option (List Int)
 |0,_=>none
 |r+1,k=>match(X4 k W 0).find? P with
  |some c=>some c
  |none=>ZX P W r (k+1)
structure IsMin (P:List Int→Bool)(W:Nat)(c:List Int):Prop where
 inc:Inc W 0 c
 holds:P c=true
 min:∀d,Inc W 0 d→P d=true→d=c∨before c d=true
theorem IsMin.uniq {P:List Int→Bool}{W:Nat}{c d:List Int}(h:IsMin P W c)(k:IsMin P W d):c=d:=by
 rcases h.min d k.inc k.holds with e|e
 ·exact e.symm
 ·rcases k.min c h.inc h.holds with e2|e2
  ·exact e2
  ·have:=before_trans e e2
   rw[before_irrefl] at this;cases this
theorem Uf (P:List Int→Bool)(W:Nat):∀(r k:Nat),r+k=W+1→(∀d,Inc W 0 d→d.length<k→P d=false)→
  (∃c,ZX P W r k=some c∧IsMin P W c)∨(ZX P W r k=none∧∀d,Inc W 0 d→P d=false)
 |0,k,hk,h=>.inr ⟨rfl,fun d hd=>h d hd (by have:=hd.len yaa;omega)⟩
 |r+1,k,hk,h=>by
  simp only[ZX]
  cases hf:(X4 k W 0).find? P with
  |some c=>
   obtain⟨m1,m2,m3⟩:=find_min P k W 0 hf
   obtain⟨c1,c2⟩:=(VJ _ _ _ _).1 m1
   rw[Int.zero_add] at c2
   refine .inl ⟨c,rfl,c2,m2,fun d hd hp=>?_⟩
   have hl:¬d.length<k:=fun hl=>by rw[h d hd hl] at hp;cases hp
   by_cases e:d.length=k
   ·rcases m3 d ((VJ _ _ _ _).2 ⟨e,by rw[Int.zero_add];exact hd⟩) hp with h1|h1
    ·exact .inl h1
    ·exact .inr (by unfold before;rw[if_pos (by omega)];exact h1)
   ·exact .inr (by unfold before;rw[if_neg (by omega)];simp only[decide_eq_true_eq];omega)
  |none=>
   refine Uf P W r (k+1) yaa fun d hd hl=>?_
   by_cases e:d.length=k
   ·have:=List.find?_eq_none.1 hf d ((VJ _ _ _ _).2 ⟨e,by rw[Int.zero_add];exact hd⟩)
    simpa using this
   ·exact h d hd yaa
def ZQ:Nat→Int→Int→List Int
 |0,_,_=>[]
 |k+1,s,i=>if s%2=1 then i::ZQ k (s/2) (i+1) else ZQ k (s/2) (i+1)
theorem bitsL_inc:∀(k:Nat) (s i:Int),Inc (i+k) i (ZQ k s i)
 |0,_,_=>trivial
 |k+1,s,i=>by
  have ih:=bitsL_inc k (s/2) (i+1)
  have e:i+1+(k:Int)=i+((k+1:Nat):Int):=by omega
  rw[e] at ih
  simp only[ZQ]
  split
  ·exact⟨Int.le_refl _,by omega,ih⟩
  ·exact ih.lower yaa
theorem bitsL_onto:∀(k:Nat) (i:Int) (d:List Int),Inc (i+k) i d→∃s:Int,0≤s∧s<2^k∧ZQ k s i=d
 |0,i,[],_=>⟨0,by omega,by decide,rfl⟩
 |0,i,a::d,h=>by have:=h.1;have:=h.2.1;omega
 |k+1,i,d,h=>by
  have e:i+1+(k:Int)=i+((k+1:Nat):Int):=by omega
  have p2:(2:Int)^(k+1)=2^k*2:=Int.pow_succ 2 k
  by_cases hd:∃l,d=i::l
  ·obtain⟨l,rfl⟩:=hd
   obtain⟨s,s0,s1,hs⟩:=bitsL_onto k (i+1) l (by rw[e];exact h.2.2)
   refine⟨2*s+1,by omega,by omega,?_⟩
   simp only[ZQ]
   rw[if_pos yaa,show(2*s+1)/2=s by omega,hs]
  ·have h2:Inc (i+1+k) (i+1) d:=by
    rw[e]
    cases d with
    |nil=>trivial
    |cons a l=>exact⟨by have:=h.1;have:a≠i:=fun e=>hd ⟨l,by rw[e]⟩;omega,h.2.1,h.2.2⟩
   obtain⟨s,s0,s1,hs⟩:=bitsL_onto k (i+1) d h2
   refine⟨2*s,by omega,by omega,?_⟩
   simp only[ZQ]
   rw[if_neg yaa,show(2*s)/2=s by omega,hs]
def Yn (P:List Int→Bool)(W:Nat)(s0 s:Int)(best:Option (List Int)):Prop:=match best with
 |none=>∀t,s0≤t→t<s→P (ZQ W t 0)=false
 |some c=>(∃t,c=ZQ W t 0)∧P c=true∧∀t,s0≤t→t<s→P (ZQ W t 0)=true→ZQ W t 0=c∨before c (ZQ W t 0)=true
theorem Yn.zero (P:List Int→Bool)(W:Nat)(s0:Int):Yn P W s0 s0 none:=fun t h1 h2=>by omega
theorem Yn.take {P:List Int→Bool}{W:Nat}{s0 s:Int}{best:Option (List Int)}(h:Yn P W s0 s best)(hp:P (ZQ W s 0)=true)(hb:∀c,best=some c→before (ZQ W s 0) c=true):Yn P W s0 (s+1) (some (ZQ W s 0)):=by
 refine⟨⟨s,rfl⟩,hp,fun t t0 t1 ht=>?_⟩
 by_cases e:t=s
 ·subst e;exact .inl rfl
 ·cases best with
  |none=>have:=h t t0 yaa;rw[this] at ht;cases ht
  |some c=>
   right
   rcases h.2.2 t t0 yaa ht with h1|h1
   ·rw[h1];exact hb c rfl
   ·exact before_trans (hb c rfl) h1
theorem Yn.skip {P:List Int→Bool}{W:Nat}{s0 s:Int}{best:Option (List Int)}(h:Yn P W s0 s best)(hp:P (ZQ W s 0)=false∨∃c,best=some c∧before (ZQ W s 0) c=false):Yn P W s0 (s+1) best:=by
 cases best with
 |none=>
  intro t t0 t1
  by_cases e:t=s
  ·subst e
   rcases hp with hp|⟨c,hc,_⟩
   ·exact hp
   ·cases hc
  ·exact h t t0 yaa
 |some c=>
  refine⟨h.1,h.2.1,fun t t0 t1 ht=>?_⟩
  by_cases e:t=s
  ·subst e
   rcases hp with hp|⟨c',hc,hb⟩
   ·rw[hp] at ht;cases ht
   ·cases hc;exact before_total hb
  ·exact h.2.2 t t0 yaa ht
theorem Yn.last {P:List Int→Bool}{W:Nat}{s0:Int}{best:Option (List Int)}(h0:0≤s0)(h:Yn P W s0 (2^W) best)(hs:∀t,0≤t→t<s0→P (ZQ W t 0)=false):
  best=ZX P W (W+1) 0:=by
 have inc:∀t,Inc W 0 (ZQ W t 0):=fun t=>by have:=bitsL_inc W t 0;rwa[Int.zero_add] at this
 have onto:∀d,Inc W 0 d→∃s:Int,0≤s∧s<2^W∧ZQ W s 0=d:=fun d hd=>bitsL_onto W 0 d (by rw[Int.zero_add];exact hd)
 rcases Uf P W (W+1) 0 yaa (fun d _ h=>by omega) with⟨c,e,m⟩|⟨e,m⟩
 ·rw[e]
  cases best with
  |none=>
   obtain⟨t,t0,t1,rfl⟩:=onto c m.inc
   have hm:=m.holds
   by_cases ht:t<s0
   ·rw[hs t t0 ht] at hm;cases hm
   ·rw[h t yaa t1] at hm;cases hm
  |some d=>
   obtain⟨⟨t,rfl⟩,h2,h3⟩:=h
   have:IsMin P W (ZQ W t 0):=⟨inc t,h2,fun d hd hp=>by
    obtain⟨u,u0,u1,rfl⟩:=onto d hd
    by_cases hu:u<s0
    ·rw[hs u u0 hu] at hp;cases hp
    ·exact h3 u yaa u1 hp⟩
   rw[this.uniq m]
 ·rw[e]
  cases best with
  |none=>rfl
  |some d=>
   obtain⟨⟨t,rfl⟩,h2,h3⟩:=h
   rw[m _ (inc t)] at h2;cases h2
end Go.Ab.Silk
namespace Go.Ab.Silk
def shF (parts:Int→List Int)(b:Box)(ch:Int→Bool):Nat→Int→Int × Int
 |0,_=>(0,0)
 |k+1,i=>if parts i=[] then(if ch i then((b i).1,0) else(0,(b i).2))
  else(max (Zg (fun p=>(shF parts b ch k p).1) (parts i)) ((b i).1-Zg (fun p=>(shF parts b ch k p).2) (parts i)),
   min (Zg (fun p=>(shF parts b ch k p).2) (parts i)) ((b i).2-Zg (fun p=>(shF parts b ch k p).1) (parts i)))
section
variable {n:Nat} {frm:Int→Int} {parts:Int→List Int}
theorem shF_any (F:ZG n frm parts)(b:Box)(ch:Int→Bool):∀(k j:Nat) (i:Int),0≤i→i<n→(n:Int)-i≤k→(n:Int)-i≤j→shF parts b ch k i=shF parts b ch j i
 |0,_,i,h0,h1,h,_=>by omega
 |_+1,0,i,h0,h1,_,h=>by omega
 |k+1,j+1,i,h0,h1,h2,h3=>by
  have hp:∀p∈parts i,shF parts b ch k p=shF parts b ch j p:=fun p hp=>by
   obtain⟨p0,p1,pf⟩:=(F.mem _ _).1 hp
   have:=F.lt p p0 p1
   exact shF_any F b ch k j p p0 p1 yaa yaa
  simp only[shF]
  rw[ZN (x:=fun p=>(shF parts b ch k p).1) fun p h=>by rw[hp p h],ZN (x:=fun p=>(shF parts b ch k p).2) fun p h=>by rw[hp p h]]
def sh (n:Nat)(parts:Int→List Int)(b:Box)(ch:Int→Bool):Box:=shF parts b ch n
theorem sh_eq (F:ZG n frm parts)(b:Box)(ch:Int→Bool){i:Int}(i0:0≤i)(i1:i<n):sh n parts b ch i=
  if parts i=[] then(if ch i then((b i).1,0) else(0,(b i).2)) else
  (max (Zg (lo1 (sh n parts b ch)) (parts i)) ((b i).1-Zg (hi1 (sh n parts b ch)) (parts i)),min (Zg (hi1 (sh n parts b ch)) (parts i)) ((b i).2-Zg (lo1 (sh n parts b ch)) (parts i))):=by
 have e:shF parts b ch n i=shF parts b ch (n+1) i:=shF_any F b ch n (n+1) i i0 i1 yaa yaa
 unfold sh
 rw[e];rfl
theorem sh_mid (F:ZG n frm parts)(b:Box)(ch:Int→Bool)(hne:∀i:Int,0≤i→i<n→(b i).1≤(b i).2){i:Int}(i0:0≤i)(i1:i<n):
  (b i).1≤(sh n parts b ch i).1+(sh n parts b ch i).2∧(sh n parts b ch i).1+(sh n parts b ch i).2≤(b i).2:=by
 have:=hne i i0 i1
 rw[sh_eq F b ch i0 i1]
 split
 ·split<;>simp only<;>omega
 ·simp only;omega
def csF (parts:Int→List Int)(ch:Int→Bool)(w:Int→Int):Nat→Int→Int
 |0,_=>0
 |k+1,i=>if parts i=[] then(if ch i then w i else 0) else Zg (csF parts ch w k) (parts i)
theorem csF_any (F:ZG n frm parts)(ch:Int→Bool)(w:Int→Int):∀(k j:Nat) (i:Int),0≤i→i<n→(n:Int)-i≤k→(n:Int)-i≤j→csF parts ch w k i=csF parts ch w j i
 |0,_,i,h0,h1,h,_=>by omega
 |_+1,0,i,h0,h1,_,h=>by omega
 |k+1,j+1,i,h0,h1,h2,h3=>by
  simp only[csF]
  rw[ZN (x:=csF parts ch w k) (y:=csF parts ch w j) fun p hp=>by
   obtain⟨p0,p1,pf⟩:=(F.mem _ _).1 hp
   have:=F.lt p p0 p1
   exact csF_any F ch w k j p p0 p1 yaa yaa]
def cs (n:Nat)(parts:Int→List Int)(ch:Int→Bool)(w:Int→Int):Int→Int:=csF parts ch w n
theorem cs_eq (F:ZG n frm parts)(ch:Int→Bool)(w:Int→Int){i:Int}(i0:0≤i)(i1:i<n):cs n parts ch w i=if parts i=[] then(if ch i then w i else 0) else Zg (cs n parts ch w) (parts i):=by
 have e:csF parts ch w n i=csF parts ch w (n+1) i:=csF_any F ch w n (n+1) i i0 i1 yaa yaa
 unfold cs
 rw[e];rfl
theorem up_ind (F:ZG n frm parts){P:Int→Prop}(step:∀i:Int,0≤i→i<n→(∀p∈parts i,P p)→P i):∀i:Int,0≤i→i<n→P i:=by
 have:∀(k:Nat) (i:Int),(n:Int)-i≤k→0≤i→i<n→P i:=by
  intro k
  induction k with
  |zero=>intro i h1 h2 h3;omega
  |succ k ih=>
   intro i hk i0 i1
   refine step i i0 i1 fun p hp=>?_
   obtain⟨p0,p1,pf⟩:=(F.mem _ _).1 hp
   have:=F.lt p p0 p1
   exact ih p yaa p0 p1
 exact fun i i0 i1=>this n i yaa i0 i1
theorem sh_sound (F:ZG n frm parts){b:Box}(ch:Int→Bool){w:Int→Int}(f:WS n parts b w):∀i:Int,0≤i→i<n→(sh n parts b ch i).1≤cs n parts ch w i∧w i-cs n parts ch w i≤(sh n parts b ch i).2:=by
 refine up_ind F fun i i0 i1 ih=>?_
 have hb:=f.1 i i0 i1
 rw[cs_eq F ch w i0 i1,sh_eq F b ch i0 i1]
 by_cases h:parts i=[]
 ·simp only[if_pos h]
  cases ch i<;>simp<;>omega
 ·simp only[if_neg h]
  have h2:=f.2 i i0 i1 h
  have m1:Zg (lo1 (sh n parts b ch)) (parts i)≤Zg (cs n parts ch w) (parts i):=ZU fun p hp=>(ih p hp).1
  have m2:Zg (fun p=>w p-cs n parts ch w p) (parts i)≤Zg (hi1 (sh n parts b ch)) (parts i):=ZU fun p hp=>(ih p hp).2
  rw[sumL_sub] at m2
  omega
theorem sh_full (F:ZG n frm parts){b:Box}(ch:Int→Bool)(hne:∀i:Int,0≤i→i<n→(b i).1≤(b i).2)
  (hnode:∀i:Int,0≤i→i<n→parts i≠[]→Zg (lo1 b) (parts i)≤(b i).1∧(b i).2≤Zg (hi1 b) (parts i))
  (root:Int→Int) (hroot:∀i:Int,0≤i→i<n→frm i<0→(b i).1≤root i∧root i≤(b i).2):
  ∃w,WS n parts b w∧(∀i:Int,0≤i→i<n→frm i<0→w i=root i)∧∀i:Int,0≤i→i<n→cs n parts ch w i=max (sh n parts b ch i).1 (w i-(sh n parts b ch i).2):=by
 obtain⟨w,w1,w2,w3⟩:=fill F (fun i x=>(b i).1≤x∧x≤(b i).2) (fun i v x=>Zg x (parts i)=v∧((∀p∈parts i,x p≤(sh n parts b ch p).1+(sh n parts b ch p).2)∨(∀p∈parts i,(sh n parts b ch p).1+(sh n parts b ch p).2≤x p)))
  (fun i v i0 i1 hv hp=>by
   have hn:=hnode i i0 i1 hp
   have hm:∀p∈parts i,(b p).1≤(sh n parts b ch p).1+(sh n parts b ch p).2∧(sh n parts b ch p).1+(sh n parts b ch p).2≤(b p).2:=fun p hp=>by
    obtain⟨p0,p1,_⟩:=(F.mem _ _).1 hp
    exact sh_mid F b ch hne p0 p1
   by_cases hc:v≤Zg (fun p=>(sh n parts b ch p).1+(sh n parts b ch p).2) (parts i)
   ·obtain⟨x,x1,x2⟩:=pick (parts i) (lo1 b) (fun p=>(sh n parts b ch p).1+(sh n parts b ch p).2) v (F.nodup i) (fun p hp=>(hm p hp).1) yaa hc
    exact⟨x,fun p hp=>⟨(x1 p hp).1,Int.le_trans (x1 p hp).2 (hm p hp).2⟩,x2,.inl fun p hp=>(x1 p hp).2⟩
   ·obtain⟨x,x1,x2⟩:=pick (parts i) (fun p=>(sh n parts b ch p).1+(sh n parts b ch p).2) (hi1 b) v (F.nodup i) (fun p hp=>(hm p hp).2) yaa yaa
    exact⟨x,fun p hp=>⟨Int.le_trans (hm p hp).1 (x1 p hp).1,(x1 p hp).2⟩,x2,.inr fun p hp=>(x1 p hp).1⟩)
  root hroot
 have hadd:Adds n parts w:=fun i i0 i1 hp=>by
  obtain⟨x,⟨x1,_⟩,x3⟩:=w3 i i0 i1 hp
  rw[←x1];exact(ZN x3).symm
 refine⟨w,⟨w1,hadd⟩,w2,up_ind F fun i i0 i1 ih=>?_⟩
 have hb:=w1 i i0 i1
 rw[cs_eq F ch w i0 i1,sh_eq F b ch i0 i1]
 by_cases h:parts i=[]
 ·simp only[if_pos h]
  cases ch i<;>simp<;>omega
 ·simp only[if_neg h]
  obtain⟨x,⟨x1,x2⟩,x3⟩:=w3 i i0 i1 h
  have ha:=hadd i i0 i1 h
  rcases x2 with x2|x2
  ·have e:Zg (cs n parts ch w) (parts i)=Zg (lo1 (sh n parts b ch)) (parts i):=ZN fun p hp=>by
    rw[ih p hp];have:=x2 p hp;have:=x3 p hp;simp only[lo1];omega
   have m:Zg w (parts i)≤Zg (fun p=>lo1 (sh n parts b ch) p+hi1 (sh n parts b ch) p) (parts i):=ZU fun p hp=>by
    have:=x2 p hp;have:=x3 p hp;simp only[lo1,hi1];omega
   rw[sumL_add] at m
   rw[e];omega
  ·have e:Zg (cs n parts ch w) (parts i)=Zg (fun p=>w p-hi1 (sh n parts b ch) p) (parts i):=ZN fun p hp=>by
    rw[ih p hp];have:=x2 p hp;have:=x3 p hp;simp only[hi1];omega
   have m:Zg (fun p=>lo1 (sh n parts b ch) p+hi1 (sh n parts b ch) p) (parts i)≤Zg w (parts i):=ZU fun p hp=>by
    have:=x2 p hp;have:=x3 p hp;simp only[lo1,hi1];omega
   rw[sumL_add] at m
   rw[sumL_sub] at e
   rw[e];omega
theorem sh_root (F:ZG n frm parts){b c:Box}(ch:Int→Bool)(hb1:∀i:Int,0≤i→i<n→(b i).1≤(b i).2)
  (hb2:∀i:Int,0≤i→i<n→parts i≠[]→Zg (lo1 b) (parts i)≤(b i).1∧(b i).2≤Zg (hi1 b) (parts i))
  (hs:∀w,WS n parts b w→WS n parts c w) {i:Int} (i0:0≤i) (i1:i<n) (hf:frm i<0):(sh n parts c ch i).1≤(sh n parts b ch i).1∧(sh n parts b ch i).2≤(sh n parts c ch i).2:=by
 have hm:=sh_mid F b ch hb1 i0 i1
 obtain⟨w,f,r,e⟩:=sh_full F ch hb1 hb2 (fun i=>(b i).1) fun i i0 i1 _=>⟨Int.le_refl _,hb1 i i0 i1⟩
 have h1:=(sh_sound F ch (hs w f) i i0 i1).1
 have h2:=e i i0 i1
 have h3:=r i i0 i1 hf
 obtain⟨w',f',r',e'⟩:=sh_full F ch hb1 hb2 (fun i=>(b i).2) fun i i0 i1 _=>⟨hb1 i i0 i1,Int.le_refl _⟩
 have h1':=(sh_sound F ch (hs w' f') i i0 i1).2
 have h2':=e' i i0 i1
 have h3':=r' i i0 i1 hf
 omega
end
end Go.Ab.Silk
namespace Go.Ab.Silk
def tabL (s r lo hi n:Int):Int:=if lo≤n∧n≤hi then max s (n-r) else -1
def tabG (s r lo hi n:Int):Int:=if lo≤n∧n≤hi then min r (n-s) else -1
theorem tabL_neg {s r lo hi n:Int}(hs:0≤s):tabL s r lo hi n<0↔¬(lo≤n∧n≤hi):=by
 unfold tabL
 by_cases h:lo≤n∧n≤hi
 ·rw[if_pos h];exact⟨fun h'=>by omega,fun h'=>absurd h h'⟩
 ·rw[if_neg h];exact⟨fun _=>h,fun _=>by omega⟩
theorem tabL_in {s r lo hi n:Int}(h:lo≤n∧n≤hi):tabL s r lo hi n=max s (n-r):=by unfold tabL;rw[if_pos h]
theorem tabL_out {s r lo hi n:Int}(h:¬(lo≤n∧n≤hi)):tabL s r lo hi n= -1:=by unfold tabL;rw[if_neg h]
theorem V0 {s r lo hi n:Int}(h:lo≤n∧n≤hi):tabG s r lo hi n=min r (n-s):=by unfold tabG;rw[if_pos h]
theorem tabG_out {s r lo hi n:Int}(h:¬(lo≤n∧n≤hi)):tabG s r lo hi n= -1:=by unfold tabG;rw[if_neg h]
theorem conv_ge {s r s' r' n k:Int}:max (s+s') (n-(r+r'))≤max s (n-k-r)+max s' (k-r'):=by omega
theorem conv_at {s r lo hi s' r' lo' hi' n:Int}(m1:lo≤s+r∧s+r≤hi)(m2:lo'≤s'+r'∧s'+r'≤hi')(h:lo+lo'≤n∧n≤hi+hi'):
  ∃k,(lo≤n-k∧n-k≤hi)∧(lo'≤k∧k≤hi')∧max s (n-k-r)+max s' (k-r')=max (s+s') (n-(r+r')):=by
 by_cases c:n≤s+r+(s'+r')
 ·exact⟨max lo' (n-r-s),by omega,by omega,by omega⟩
 ·exact⟨min hi' (n-r-s),by omega,by omega,by omega⟩
def Yg (val:Int→Int)(ok:Int→Prop)(k x:Int):Prop:=(x= -1∧∀j,0≤j→j<k→¬ok j)∨(0≤x∧(∃j,0≤j∧j<k∧ok j∧x=val j)∧∀j,0≤j→j<k→ok j→x≤val j)
theorem Yg.zero (val:Int→Int)(ok:Int→Prop):Yg val ok 0 (-1):=.inl ⟨rfl,fun j h1 h2=>by omega⟩
theorem Yg.skip {val:Int→Int}{ok:Int→Prop}{k x:Int}(h:Yg val ok k x)(hk:¬ok k):Yg val ok (k+1) x:=by
 rcases h with⟨h1,h2⟩|⟨h0,⟨j,j0,j1,j2,j3⟩,h2⟩
 ·refine .inl ⟨h1,fun j j0 j1=>?_⟩
  by_cases e:j=k
  ·subst e;exact hk
  ·exact h2 j j0 yaa
 ·refine .inr ⟨h0,⟨j,j0,by omega,j2,j3⟩,fun i i0 i1 hi=>?_⟩
  by_cases e:i=k
  ·subst e;exact absurd hi hk
  ·exact h2 i i0 yaa hi
theorem Yg.take {val:Int→Int}{ok:Int→Prop}{k x:Int}(h:Yg val ok k x)(k0:0≤k)(hk:ok k)(hv:0≤val k)(hx:x<0∨val k<x):Yg val ok (k+1) (val k):=by
 refine .inr ⟨hv,⟨k,k0,by omega,hk,rfl⟩,fun j j0 j1 hj=>?_⟩
 by_cases e:j=k
 ·subst e;exact Int.le_refl _
 ·rcases h with⟨h1,h2⟩|⟨h0,_,h2⟩
  ·exact absurd hj (h2 j j0 yaa)
  ·have:=h2 j j0 yaa hj;omega
theorem Yg.leave {val:Int→Int}{ok:Int→Prop}{k x:Int}(h:Yg val ok k x)(hx:¬(x<0∨val k<x)):Yg val ok (k+1) x:=by
 rcases h with⟨h1,h2⟩|⟨h0,⟨j,j0,j1,j2,j3⟩,h2⟩
 ·omega
 ·refine .inr ⟨h0,⟨j,j0,by omega,j2,j3⟩,fun i i0 i1 hi=>?_⟩
  by_cases e:i=k
  ·subst e;omega
  ·exact h2 i i0 yaa hi
theorem conv_min {s r lo hi s' r' lo' hi' n x:Int}(l0:0≤lo)(l0':0≤lo')(m1:lo≤s+r∧s+r≤hi)(m2:lo'≤s'+r'∧s'+r'≤hi')
  (h:Yg (fun k=>max s (n-k-r)+max s' (k-r')) (fun k=>(lo≤n-k∧n-k≤hi)∧(lo'≤k∧k≤hi')) (n+1) x):x=tabL (s+s') (r+r') (lo+lo') (hi+hi') n:=by
 by_cases c:lo+lo'≤n∧n≤hi+hi'
 ·rw[tabL_in c]
  obtain⟨k,k1,k2,k3⟩:=conv_at m1 m2 c
  rcases h with⟨_,h2⟩|⟨_,⟨j,_,_,_,j3⟩,h2⟩
  ·exact absurd ⟨k1,k2⟩ (h2 k yaa yaa)
  ·have h3:=h2 k yaa yaa ⟨k1,k2⟩
   have h4:=conv_ge (s:=s) (r:=r) (s':=s') (r':=r') (n:=n) (k:=j)
   simp only at j3 h3
   omega
 ·rw[tabL_out c]
  rcases h with⟨h1,_⟩|⟨_,⟨j,_,_,j2,_⟩,_⟩
  ·exact h1
  ·omega
def Ys (val:Int→Int)(ok:Int→Prop)(k x:Int):Prop:=(x= -1∧∀j,0≤j→j<k→¬ok j)∨(0≤x∧(∃j,0≤j∧j<k∧ok j∧x=val j)∧∀j,0≤j→j<k→ok j→val j≤x)
theorem Ys.zero (val:Int→Int)(ok:Int→Prop):Ys val ok 0 (-1):=.inl ⟨rfl,fun j h1 h2=>by omega⟩
theorem Ys.skip {val:Int→Int}{ok:Int→Prop}{k x:Int}(h:Ys val ok k x)(hk:¬ok k):Ys val ok (k+1) x:=by
 rcases h with⟨h1,h2⟩|⟨h0,⟨j,j0,j1,j2,j3⟩,h2⟩
 ·refine .inl ⟨h1,fun j j0 j1=>?_⟩
  by_cases e:j=k
  ·subst e;exact hk
  ·exact h2 j j0 yaa
 ·refine .inr ⟨h0,⟨j,j0,by omega,j2,j3⟩,fun i i0 i1 hi=>?_⟩
  by_cases e:i=k
  ·subst e;exact absurd hi hk
  ·exact h2 i i0 yaa hi
theorem Ys.take {val:Int→Int}{ok:Int→Prop}{k x:Int}(h:Ys val ok k x)(k0:0≤k)(hk:ok k)(hv:0≤val k):Ys val ok (k+1) (max x (val k)):=by
 rcases h with⟨rfl,h2⟩|⟨h0,⟨j,j0,j1,j2,j3⟩,h2⟩
 ·refine .inr ⟨by omega,⟨k,k0,by omega,hk,by omega⟩,fun j j0 j1 hj=>?_⟩
  by_cases e:j=k
  ·subst e;omega
  ·exact absurd hj (h2 j j0 yaa)
 ·refine .inr ⟨by omega,?_,fun i i0 i1 hi=>?_⟩
  ·by_cases c:x≤val k
   ·exact⟨k,k0,by omega,hk,by omega⟩
   ·exact⟨j,j0,by omega,j2,by omega⟩
  ·by_cases e:i=k
   ·subst e;omega
   ·have:=h2 i i0 yaa hi;omega
theorem conv_max {s r lo hi s' r' lo' hi' n x:Int}(l0:0≤lo)(l0':0≤lo')(m1:lo≤s+r∧s+r≤hi)(m2:lo'≤s'+r'∧s'+r'≤hi')
  (h:Ys (fun k=>min r (n-k-s)+min r' (k-s')) (fun k=>(lo≤n-k∧n-k≤hi)∧(lo'≤k∧k≤hi')) (n+1) x):x=tabG (s+s') (r+r') (lo+lo') (hi+hi') n:=by
 by_cases c:lo+lo'≤n∧n≤hi+hi'
 ·rw[V0 c]
  obtain⟨k,k1,k2,k3⟩:=conv_at m1 m2 c
  rcases h with⟨_,h2⟩|⟨_,⟨j,_,_,_,j3⟩,h2⟩
  ·exact absurd ⟨k1,k2⟩ (h2 k yaa yaa)
  ·have h3:=h2 k yaa yaa ⟨k1,k2⟩
   have h4:=conv_ge (s:=s) (r:=r) (s':=s') (r':=r') (n:=n) (k:=j)
   simp only at j3 h3
   omega
 ·rw[tabG_out c]
  rcases h with⟨h1,_⟩|⟨_,⟨j,_,_,j2,_⟩,_⟩
  ·exact h1
  ·omega
end Go.Ab.Silk
namespace Go.Ab.Silk
structure Con (n:Nat)(parts:Int→List Int)(b:Box):Prop where
 nn:∀i:Int,0≤i→i<n→0≤(b i).1
 ne:∀i:Int,0≤i→i<n→(b i).1≤(b i).2
 node:∀i:Int,0≤i→i<n→parts i≠[]→Zg (lo1 b) (parts i)≤(b i).1∧(b i).2≤Zg (hi1 b) (parts i)
section
variable {n:Nat} {frm:Int→Int} {parts:Int→List Int}
theorem Con.sh (F:ZG n frm parts){b:Box}(c:Con n parts b)(ch:Int→Bool):∀i:Int,0≤i→i<n→
  0≤(sh n parts b ch i).1∧(sh n parts b ch i).1≤(b i).1∧0≤(sh n parts b ch i).2∧(sh n parts b ch i).2≤(b i).2:=by
 refine up_ind F fun i i0 i1 ih=>?_
 have h1:=c.nn i i0 i1
 have h2:=c.ne i i0 i1
 rw[sh_eq F b ch i0 i1]
 by_cases h:parts i=[]
 ·simp only[if_pos h]
  cases ch i<;>simp<;>omega
 ·simp only[if_neg h]
  have h3:=c.node i i0 i1 h
  have a1:0≤Zg (lo1 (Silk.sh n parts b ch)) (parts i):=Z7 fun p hp=>(ih p hp).1
  have a2:Zg (lo1 (Silk.sh n parts b ch)) (parts i)≤Zg (lo1 b) (parts i):=ZU fun p hp=>(ih p hp).2.1
  have a3:0≤Zg (hi1 (Silk.sh n parts b ch)) (parts i):=Z7 fun p hp=>(ih p hp).2.2.1
  omega
theorem sh_root_eq (F:ZG n frm parts){b c:Box}(ch:Int→Bool)(hb:Con n parts b)(hc:Con n parts c)(hs:∀w,WS n parts b w↔WS n parts c w){i:Int}(i0:0≤i)(i1:i<n)(hf:frm i<0):
  sh n parts b ch i=sh n parts c ch i:=by
 have h1:=sh_root F ch hb.ne hb.node (fun w h=>(hs w).1 h) i0 i1 hf
 have h2:=sh_root F ch hc.ne hc.node (fun w h=>(hs w).2 h) i0 i1 hf
 exact Prod.ext yaa yaa
structure Ur (s r lo hi:Int):Prop where
 s0:0≤s
 sl:s≤lo
 r0:0≤r
 m1:lo≤s+r
 m2:s+r≤hi
theorem Ur.add {s r lo hi s' r' lo' hi':Int}(a:Ur s r lo hi)(b:Ur s' r' lo' hi'):Ur (s+s') (r+r') (lo+lo') (hi+hi'):=by
 obtain⟨a1,a2,a3,a4,a5⟩:=a
 obtain⟨b1,b2,b3,b4,b5⟩:=b
 exact⟨by omega,by omega,by omega,by omega,by omega⟩
theorem Ur.zero:Ur 0 0 0 0:=⟨by omega,by omega,by omega,by omega,by omega⟩
theorem Ur.bdL {s r lo hi n:Int}(a:Ur s r lo hi)(h:0≤n): -1≤tabL s r lo hi n∧tabL s r lo hi n≤n:=by
 obtain⟨a1,a2,a3,a4,a5⟩:=a
 by_cases c:lo≤n∧n≤hi
 ·rw[tabL_in c];omega
 ·rw[tabL_out c];omega
theorem Ur.bdG {s r lo hi n:Int}(a:Ur s r lo hi)(h:0≤n): -1≤tabG s r lo hi n∧tabG s r lo hi n≤n:=by
 obtain⟨a1,a2,a3,a4,a5⟩:=a
 by_cases c:lo≤n∧n≤hi
 ·rw[V0 c];omega
 ·rw[tabG_out c];omega
theorem Con.quad (F:ZG n frm parts){b:Box}(c:Con n parts b)(ch:Int→Bool){i:Int}(i0:0≤i)(i1:i<n):Ur (Silk.sh n parts b ch i).1 (Silk.sh n parts b ch i).2 (b i).1 (b i).2:=by
 have h1:=c.sh F ch i i0 i1
 have h2:=sh_mid F b ch c.ne i0 i1
 exact⟨h1.1,h1.2.1,h1.2.2.1,h2.1,h2.2⟩
theorem Con.quads (F:ZG n frm parts){b:Box}(c:Con n parts b)(ch:Int→Bool):∀{l:List Int},(∀p∈l,0≤p∧p<n)→Ur (Zg (lo1 (Silk.sh n parts b ch)) l) (Zg (hi1 (Silk.sh n parts b ch)) l) (Zg (lo1 b) l) (Zg (hi1 b) l)
 |[],_=>Ur.zero
 |p::l,h=>(c.quad F ch (h p (by simp)).1 (h p (by simp)).2).add (c.quads F ch (l:=l) fun q hq=>h q yab)
theorem min_all {s r lo hi M x:Int}(a:Ur s r lo hi)(hM:hi≤M)(h:Yg (fun n=>max s (n-r)) (fun n=>lo≤n∧n≤hi) (M+1) x):x=s:=by
 obtain⟨a1,a2,a3,a4,a5⟩:=a
 rcases h with⟨_,h2⟩|⟨_,⟨j,_,_,j2,j3⟩,h2⟩
 ·exact absurd ⟨Int.le_refl _,by omega⟩ (h2 lo yaa yaa)
 ·have h3:=h2 lo yaa yaa ⟨Int.le_refl _,by omega⟩
  simp only at j3 h3
  omega
theorem max_all {s r lo hi M x:Int}(a:Ur s r lo hi)(hM:hi≤M)(h:Ys (fun n=>min r (n-s)) (fun n=>lo≤n∧n≤hi) (M+1) x):x=r:=by
 obtain⟨a1,a2,a3,a4,a5⟩:=a
 rcases h with⟨_,h2⟩|⟨_,⟨j,_,_,j2,j3⟩,h2⟩
 ·exact absurd ⟨by omega,Int.le_refl _⟩ (h2 hi yaa yaa)
 ·have h3:=h2 hi yaa yaa ⟨by omega,Int.le_refl _⟩
  simp only at j3 h3
  omega
end
end Go.Ab.Silk
