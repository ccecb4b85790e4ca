/- The abstract machine: values, heaps, operations (no tape, no capacities), and what they stand for in the model. -/
import Derived.CallsIn
import Derived.OrdersIn
import Derived.RangeFuncIn
import Derived.RangeFuncLeaves
set_option linter.unusedSimpArgs false
set_option linter.unusedVariables false
namespace Go.Ab
inductive Cap where
 |fix (c:Nat)
 |slk (a p:Nat)
inductive V where
 |int (k:IntKind) (n:Int)
 |bool (b:Bool)
 |ptr (b o:Nat)
 |nilp
 |sl (b o n:Nat) (c:Cap)
 |nils
 |map (b:Nat)
 |nilm
 |fn (f:FuncId) (x y:List V)
 |nilf
 |yld (l:Nat)
 |agg (cs:List V)
 |tup (vs:List V)
 |sl0 (a:Addr)
abbrev V.und:V:=.tup []
structure Phi where
 blk:Nat→Nat
 off:Nat→Nat
 cap:Nat→Nat
def Phi.at (φ:Phi)(b o:Nat):Addr:=⟨φ.blk b,φ.off b+o,none⟩
mutual
def conc (φ:Phi):V→Value
 |.int k n=>.int k n
 |.bool b=>.bool b
 |.ptr b o=>.pointer (some (φ.at b o))
 |.nilp=>.pointer none
 |.sl b o n (.fix c)=>.slice (some (φ.at b o)) n c
 |.sl b o n (.slk a p)=>.slice (some (φ.at b (if n=0∧φ.cap b≤a then p else o))) n (φ.cap b-a)
 |.nils=>.slice none 0 0
 |.map b=>.map (some (φ.blk b))
 |.nilm=>.map none
 |.fn f x y=>.func (.func f) (concs φ x).toArray (concs φ y).toArray
 |.nilf=>.nilFunc
 |.yld l=>.func (.yield (φ.blk l)) #[] #[]
 |.agg cs=>.agg (concs φ cs).toArray
 |.tup vs=>.tuple (concs φ vs).toArray
 |.sl0 a=>.slice (some a) 0 0
def concs (φ:Phi):List V→List Value
 |[]=>[]
 |v::vs=>conc φ v::concs φ vs
end
theorem concs_eq (φ:Phi)(l:List V):concs φ l=l.map (conc φ):=by
 induction l with
 |nil=>simp[concs]
 |cons a l ih=>simp[concs,ih]
mutual
def V.sc (p:Nat→Prop):V→Prop
 |.ptr b _=>p b
 |.sl b _ _ _=>p b
 |.map b=>p b
 |.yld l=>p l
 |.fn _ x y=>scL p x∧scL p y
 |.agg cs=>scL p cs
 |.tup vs=>scL p vs
 |.int _ _=>True
 |.bool _=>True
 |.nilp=>True
 |.nils=>True
 |.nilm=>True
 |.nilf=>True
 |.sl0 _=>True
def scL (p:Nat→Prop):List V→Prop
 |[]=>True
 |v::vs=>v.sc p∧scL p vs
end
theorem scL_iff {p:Nat→Prop}{l:List V}:scL p l↔∀v∈l,v.sc p:=by
 induction l with
 |nil=>simp[scL]
 |cons a l ih=>simp[scL,ih]
mutual
theorem V.sc_mono {p q:Nat→Prop}(h:∀b,p b→q b):∀(v:V),v.sc p→v.sc q
 |.ptr b _=>by simp only[V.sc];exact h b
 |.sl b _ _ _=>by simp only[V.sc];exact h b
 |.map b=>by simp only[V.sc];exact h b
 |.yld l=>by simp only[V.sc];exact h l
 |.fn _ x y=>by simp only[V.sc];exact fun⟨a,b⟩=>⟨scL_mono h x a,scL_mono h y b⟩
 |.agg cs=>by simp only[V.sc];exact scL_mono h cs
 |.tup vs=>by simp only[V.sc];exact scL_mono h vs
 |.int _ _=>by simp[V.sc]
 |.bool _=>by simp[V.sc]
 |.nilp=>by simp[V.sc]
 |.nils=>by simp[V.sc]
 |.nilm=>by simp[V.sc]
 |.nilf=>by simp[V.sc]
 |.sl0 _=>by simp[V.sc]
theorem scL_mono {p q:Nat→Prop}(h:∀b,p b→q b):∀(l:List V),scL p l→scL q l
 |[]=>by simp[scL]
 |v::vs=>by simp only[scL];exact fun⟨a,b⟩=>⟨V.sc_mono h v a,scL_mono h vs b⟩
end
def Phi.agree (φ ψ :Phi)(p:Nat→Prop):Prop:=∀b,p b→φ.blk b= ψ.blk b∧φ.off b= ψ.off b∧φ.cap b= ψ.cap b
theorem Phi.agree_refl (φ:Phi)(p:Nat→Prop):φ.agree φ p:=fun _ _=>⟨rfl,rfl,rfl⟩
theorem Phi.agree.trans {φ ψ χ :Phi}{p q:Nat→Prop}(h:φ.agree ψ p)(k: ψ.agree χ q)(hl:∀b,p b→q b):φ.agree χ p:=
 fun b hb=>by
  obtain⟨h1,h2,h3⟩:=h b hb
  obtain⟨k1,k2,k3⟩:=k b (hl b hb)
  exact⟨h1.trans k1,h2.trans k2,h3.trans k3⟩
theorem Phi.agree.mono {φ ψ :Phi}{p q:Nat→Prop}(h:φ.agree ψ q)(hl:∀b,p b→q b):φ.agree ψ p:=fun b hb=>h b (hl b hb)
theorem Phi.agree.symm {φ ψ :Phi}{p:Nat→Prop}(h:φ.agree ψ p): ψ.agree φ p:=fun b hb=>
 let⟨a,b,c⟩:=h b hb;⟨a.symm,b.symm,c.symm⟩
mutual
theorem conc_agree {φ ψ :Phi}{p:Nat→Prop}(h:φ.agree ψ p):∀(v:V),v.sc p→conc φ v=conc ψ v
 |.ptr b o=>by simp only[V.sc];intro hb;obtain⟨h1,h2,_⟩:=h b hb;simp[conc,Phi.at,h1,h2]
 |.sl b o m (.fix c)=>by simp only[V.sc];intro hb;obtain⟨h1,h2,_⟩:=h b hb;simp[conc,Phi.at,h1,h2]
 |.sl b o m (.slk a p)=>by simp only[V.sc];intro hb;obtain⟨h1,h2,h3⟩:=h b hb;simp[conc,Phi.at,h1,h2,h3]
 |.map b=>by simp only[V.sc];intro hb;obtain⟨h1,_,_⟩:=h b hb;simp[conc,h1]
 |.yld b=>by simp only[V.sc];intro hb;obtain⟨h1,_,_⟩:=h b hb;simp[conc,h1]
 |.fn f x y=>by simp only[V.sc,conc];exact fun⟨a,b⟩=>by rw[concs_agree h x a,concs_agree h y b]
 |.agg cs=>by simp only[V.sc,conc];exact fun a=>by rw[concs_agree h cs a]
 |.tup vs=>by simp only[V.sc,conc];exact fun a=>by rw[concs_agree h vs a]
 |.int _ _=>by simp[conc]
 |.bool _=>by simp[conc]
 |.nilp=>by simp[conc]
 |.nils=>by simp[conc]
 |.nilm=>by simp[conc]
 |.nilf=>by simp[conc]
 |.sl0 _=>by simp[conc]
theorem concs_agree {φ ψ :Phi}{p:Nat→Prop}(h:φ.agree ψ p):∀(l:List V),scL p l→concs φ l=concs ψ l
 |[]=>by simp[concs]
 |v::vs=>by simp only[scL,concs];exact fun⟨a,b⟩=>by rw[conc_agree h v a,concs_agree h vs b]
end
theorem map_conc_agree {φ ψ :Phi}{p:Nat→Prop}(h:φ.agree ψ p)(l:List V)(hl:scL p l):l.map (conc φ)=l.map (conc ψ):=by
 rw[←concs_eq,←concs_eq,concs_agree h l hl]
def bsel {β:Type}(b:Bool)(x y:β):β:=match b with|true=>x|false=>y
theorem bsel_true {β:Type}(x y:β):bsel true x y=x:=rfl
theorem bsel_false {β:Type}(x y:β):bsel false x y=y:=rfl
inductive T (α:Type) where
 |nil
 |node (v:Option α) (l r:T α)
namespace T
variable {α:Type}
noncomputable def get (t:T α):Nat→Option α:=
 T.rec (fun _=>none) (fun v _ _ ihl ihr k=>Nat.rec v (fun j _=>bsel (Nat.beq (Nat.mod j 2) 0) (ihl (Nat.div j 2)) (ihr (Nat.div j 2))) k) t
theorem get_0 (k:Nat):(T.nil:T α).get k=none:=rfl
theorem get_1 (v:Option α)(l r:T α):(T.node v l r).get 0=v:=rfl
theorem get_2 (v:Option α)(l r:T α)(j:Nat):(T.node v l r).get (j+1)=bsel (Nat.beq (j%2) 0) (l.get (j/2)) (r.get (j/2)):=rfl
def one (x:Option α):Nat→Nat→T α
 |0,_=>.node x .nil .nil
 |f+1,k=>match k with
  |0=>.node x .nil .nil
  |j+1=>match Nat.beq (j%2) 0 with
   |true=>.node none (one x f (j/2)) .nil
   |false=>.node none .nil (one x f (j/2))
def put (x:Option α):T α→Nat→T α
 |.nil,k=>one x k k
 |.node v l r,k=>match k with
  |0=>.node x l r
  |j+1=>match Nat.beq (j%2) 0 with
   |true=>.node v (put x l (j/2)) r
   |false=>.node v l (put x r (j/2))
theorem get_one (x:Option α):∀(f k:Nat),k≤f→(one x f k).get k=x
 |0,k,h=>by
   have:k=0:=by omega
   subst this;rfl
 |f+1,0,_=>rfl
 |f+1,j+1,h=>by
  have ih:=get_one x f (j/2) (by omega)
  simp only[one]
  cases hb:Nat.beq (j%2) 0<;>simp[get_2,bsel,hb,ih]
theorem get_one_ne (x:Option α):∀(f k m:Nat),k≤f→m≠k→(one x f k).get m=none
 |0,k,m,h,hne=>by
  have:k=0:=by omega
  subst this
  cases m with
  |zero=>exact absurd rfl hne
  |succ m=>simp only[one,get_2];cases Nat.beq (m%2) 0<;>rfl
 |f+1,0,m,_,hne=>by
  cases m with
  |zero=>exact absurd rfl hne
  |succ m=>simp only[one,get_2];cases Nat.beq (m%2) 0<;>rfl
 |f+1,j+1,m,h,hne=>by
  simp only[one]
  cases m with
  |zero=>cases hb:Nat.beq (j%2) 0<;>simp[get_1]
  |succ m=>
   cases hb:Nat.beq (j%2) 0<;>cases hc:Nat.beq (m%2) 0<;>simp only[get_2,bsel,hc,get_0]
   ·refine get_one_ne x f (j/2) (m/2) (by omega) ?_
    intro e
    have h1:¬j%2=0:=fun e'=>by rw[e'] at hb;simp at hb
    have h2:¬m%2=0:=fun e'=>by rw[e'] at hc;simp at hc
    omega
   ·refine get_one_ne x f (j/2) (m/2) (by omega) ?_
    intro e
    have h1:=Nat.eq_of_beq_eq_true hb
    have h2:=Nat.eq_of_beq_eq_true hc
    omega
theorem get_put (x:Option α):∀(t:T α) (k:Nat),(t.put x k).get k=x
 |.nil,k=>get_one x k k (Nat.le_refl _)
 |.node v l r,0=>rfl
 |.node v l r,j+1=>by
  simp only[put]
  cases hb:Nat.beq (j%2) 0<;>simp[get_2,bsel,hb,get_put x _ (j/2)]
theorem get_put_ne (x:Option α):∀(t:T α) (k m:Nat),m≠k→(t.put x k).get m=t.get m
 |.nil,k,m,h=>by rw[put,get_one_ne x k k m (Nat.le_refl _) h];rfl
 |.node v l r,0,m,h=>by
  cases m with
  |zero=>exact absurd rfl h
  |succ m=>simp[put,get_2]
 |.node v l r,j+1,m,h=>by
  simp only[put]
  cases m with
  |zero=>cases hb:Nat.beq (j%2) 0<;>simp[get_1]
  |succ m=>
   cases hb:Nat.beq (j%2) 0<;>cases hc:Nat.beq (m%2) 0<;>simp only[get_2,bsel,hc,get_0]
   ·refine get_put_ne x r (j/2) (m/2) ?_
    intro e
    have h1:¬j%2=0:=fun e'=>by rw[e'] at hb;simp at hb
    have h2:¬m%2=0:=fun e'=>by rw[e'] at hc;simp at hc
    omega
   ·refine get_put_ne x l (j/2) (m/2) ?_
    intro e
    have h1:=Nat.eq_of_beq_eq_true hb
    have h2:=Nat.eq_of_beq_eq_true hc
    omega
def force {β:Type}(t:T α)(f:T α→β):β:=match t with
 |.nil=>f .nil
 |.node v l r=>f (.node v l r)
theorem force_eq {β:Type}(t:T α)(f:T α→β):t.force f=f t:=by cases t<;>rfl
noncomputable def forceR {β:Type}(t:T α)(f:T α→β):β:=T.rec (f .nil) (fun v l r _ _=>f (.node v l r)) t
noncomputable def step2 (v:Option α)(l r:T α)(j:Nat)(fl fr:Nat→T α):T α:=
 bsel (Nat.beq (Nat.mod j 2) 0) (forceR (fl (Nat.div j 2)) fun t=>.node v t r) (forceR (fr (Nat.div j 2)) fun t=>.node v l t)
noncomputable def oneF (x:Option α)(f:Nat):Nat→T α:=
 Nat.rec (fun _=>.node x .nil .nil) (fun _ ih k=>Nat.rec (.node x .nil .nil) (fun j _=>step2 none .nil .nil j ih ih) k) f
noncomputable def putF (x:Option α)(t:T α):Nat→T α:=
 T.rec (fun k=>oneF x k k) (fun v l r ihl ihr k=>Nat.rec (.node x l r) (fun j _=>step2 v l r j ihl ihr) k) t
theorem forceR_eq {β:Type}(t:T α)(f:T α→β):forceR t f=f t:=by cases t<;>rfl
theorem step2_eq (v:Option α)(l r:T α)(j:Nat)(fl fr:Nat→T α):
  step2 v l r j fl fr=match Nat.beq (j%2) 0 with|true=>.node v (fl (j/2)) r|false=>.node v l (fr (j/2)):=by
 show bsel (Nat.beq (j%2) 0) (forceR (fl (j/2)) _) (forceR (fr (j/2)) _)=_
 cases Nat.beq (j%2) 0<;>simp[bsel,forceR_eq]
theorem oneF_2 (x:Option α)(f j:Nat):oneF x (f+1) (j+1)=step2 none .nil .nil j (oneF x f) (oneF x f):=rfl
theorem putF_2 (x v:Option α)(l r:T α)(j:Nat):putF x (.node v l r) (j+1)=step2 v l r j (putF x l) (putF x r):=rfl
theorem oneF_eq (x:Option α):∀(f k:Nat),oneF x f k=one x f k
 |0,_=>rfl
 |f+1,0=>rfl
 |f+1,j+1=>by
  rw[oneF_2,step2_eq];simp only[one,oneF_eq x f (j/2)]
theorem putF_eq (x:Option α):∀(t:T α) (k:Nat),t.putF x k=t.put x k
 |.nil,k=>oneF_eq x k k
 |.node v l r,0=>rfl
 |.node v l r,j+1=>by
  rw[putF_2,step2_eq];simp only[put,putF_eq x l (j/2),putF_eq x r (j/2)]
theorem get_nil (k:Nat):(T.nil:T α).get k=none:=rfl
theorem get_put_eq (x:Option α)(t:T α)(k m:Nat):(t.put x k).get m=if m=k then x else t.get m:=by
 by_cases h:m=k
 ·subst h;simp[get_put]
 ·simp[h,get_put_ne x t k m h]
end T
end Go.Ab
