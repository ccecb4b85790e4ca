/- Kin. The reference's Check, Sees, Tells, Alike, Apart. Distances in a graph of few points, and how a search that goes by breadth finds them. Plain. A queue of integers: taken from the front, appended to at the end. How far a part of a shade can change: Shades, as the program and as the reference find it. The reference's Shades, Apart and Scrap. EyeMatches. How far a piece is from another: the search by breadth, in a map. Chain. Kin: who can be reached. Plain; lists of lists. -/
import Derived.Test.YtiabfecpoffidaaG2
set_option linter.unusedSimpArgs false
set_option linter.unusedVariables false
namespace Go.Ab
end Go.Ab
namespace Go.Ab.Try
theorem seesN_self (e l a:Sd):seesN e l a a=0:=by
 have:∀i,part e l a a i=0:=fun i=>by
  induction i with
  |zero=>rfl
  |succ i ih=>simp only[part,ih,term,dif];simp
 exact this 3
theorem apartK_nil (t:Tb)(a b:Sd):∀n,apartK t a b n=[]↔∀m,m<n→tellsAt t a b (m/t.lights.length) (m%t.lights.length)=false
 |0=>by simp[apartK]
 |n+1=>by
  have ih:=apartK_nil t a b n
  simp only[apartK,List.append_eq_nil_iff,ih]
  constructor
  ·rintro⟨h1,h2⟩ m hm
   by_cases e:m=n
   ·subst e
    cases hc:tellsAt t a b (m/t.lights.length) (m%t.lights.length)
    ·rfl
    ·rw[hc] at h2;simp at h2
   ·exact h1 m (by omega)
  ·intro hh
   exact⟨fun m hm=>hh m (by omega),by rw[hh n (by omega)];rfl⟩
theorem tells_self {t:Tb}(g:Good t)(a:Sd)(i k:Nat):tellsAt t a a i k=false:=by
 unfold tellsAt
 split
 ·rename_i e l he hl
  have:=(g.eye e (List.mem_of_getElem? he)).2.1
  rw[seesN_self];simp;omega
 ·rfl
theorem apartL_eq {t:Tb}(g:Good t)(a b:Sd):apartL t a b=apartK t a b (t.eyes.length*t.lights.length):=by
 unfold apartL
 split
 ·rename_i e
  subst e
  exact((apartK_nil t a a _).2 fun m _=>tells_self g a _ _).symm
 ·rfl
theorem alike_iff {t:Tb}(g:Good t)(a b:Sd):alike t a b=true↔∀i k,i<t.eyes.length→k<t.lights.length→tellsAt t a b i k=false:=by
 unfold alike
 rw[List.isEmpty_iff,apartL_eq g,apartK_nil]
 constructor
 ·intro hh i k hi hk
  have:=hh (i*t.lights.length+k) (by
   have h1:=Nat.mul_le_mul_right t.lights.length hi
   rw[Nat.succ_mul] at h1;omega)
  have e1:(i*t.lights.length+k)/t.lights.length=i:=by rw[Nat.add_comm,Nat.add_mul_div_right _ _ (by omega),Nat.div_eq_of_lt hk,Nat.zero_add]
  have e2:(i*t.lights.length+k)%t.lights.length=k:=by rw[Nat.add_comm,Nat.add_mul_mod_self_right,Nat.mod_eq_of_lt hk]
  rwa[e1,e2] at this
 ·intro hh m hm
  have gl:=g.lights.1
  exact hh _ _ (Nat.div_lt_of_lt_mul (by rw[Nat.mul_comm];exact hm)) (Nat.mod_lt _ (by omega))
theorem dif_comm (a b:Int):dif a b=dif b a:=by unfold dif;omega
theorem seesN_comm (e l a b:Sd):seesN e l a b=seesN e l b a:=by
 have:∀i,part e l a b i=part e l b a i:=fun i=>by
  induction i with
  |zero=>rfl
  |succ i ih=>simp only[part,ih,term,dif_comm (a.at i) (b.at i)]
 exact this 3
theorem tellsAt_comm (t:Tb)(a b:Sd)(i k:Nat):tellsAt t a b i k=tellsAt t b a i k:=by
 unfold tellsAt
 split
 ·rw[seesN_comm]
 ·rfl
theorem alike_comm {t:Tb}(g:Good t)(a b:Sd):alike t a b=alike t b a:=by
 rw[Bool.eq_iff_iff,alike_iff g,alike_iff g]
 constructor<;>intro hh i k hi hk<;>rw[tellsAt_comm]<;>exact hh i k hi hk
theorem alike_self {t:Tb}(g:Good t)(a:Sd):alike t a a=true:=(alike_iff g a a).2 fun i k _ _=>tells_self g a i k
end Go.Ab.Try
namespace Go.Ab.Try
def Wk (n:Nat)(M:Nat→Nat→Bool):Nat→Nat→Nat→Prop
 |0,p,q=>p=q
 |k+1,p,q=>∃r,r<n∧Wk n M k p r∧M r q=true
theorem Wk.pre {n:Nat}{M:Nat→Nat→Bool}{p r:Nat}(hp:p<n)(hm:M p r=true):∀{k q},Wk n M k r q→Wk n M (k+1) p q
 |0,q,h=>⟨p,hp,rfl,by have:r=q:=h;rw[←this];exact hm⟩
 |k+1,q,⟨x,hx,h1,h2⟩=>⟨x,hx,Wk.pre hp hm h1,h2⟩
def lk (p:Nat):List (Nat × Nat)→Option Nat
 |[]=>none
 |e::l=>if p=e.1 then some e.2 else lk p l
end Go.Ab.Try
namespace Go.Ab
noncomputable def slcFrom (h:H)(sz:Nat)(x k:V):Option V:=q_slc .nil h sz x (some (.c k)) none none
theorem q_slc_from (tm:T V)(h:H)(sz:Nat)(x:V)(y:Opd):q_slc tm h sz x (some y) none none=slcFrom h sz x (y.ev tm):=rfl
namespace Try
theorem map_flat (l:List Int):(l.map encI).flatten=l.map iv:=by
 induction l with
 |nil=>rfl
 |cons a l ih=>simp only[List.map_cons,List.flatten_cons,ih,encI];rfl
end Try
end Go.Ab
namespace Go.Ab.Try
def Sd.put (s:Sd)(p:Nat)(n:Int):Sd:=match p with
 |0=>⟨n,s.y,s.z⟩
 |1=>⟨s.x,n,s.z⟩
 |_=>⟨s.x,s.y,n⟩
theorem put_put (s:Sd)(p:Nat)(m n:Int):(s.put p m).put p n=s.put p n:=match p with|0=>rfl|1=>rfl|_+2=>rfl
theorem put_in {s:Sd}{m:Int}(h:InS s m)(p:Nat){n:Int}(hn:0≤n∧n≤m):InS (s.put p n) m:=by
 unfold Sd.put
 split
 ·exact⟨hn,h.y,h.z⟩
 ·exact⟨h.x,hn,h.z⟩
 ·exact⟨h.x,h.y,hn⟩
def okP (t:Tb)(s:Sd)(p:Nat)(n:Int):Bool:=alike t s (s.put p n)
end Go.Ab.Try
namespace Go.Ab
theorem OwnSl.up {h0 h1 h:H}{x:V}{sz:Nat}{rows:List (List V)}(a:OwnSl h1 h x sz rows)(s:h0.Sub h1):OwnSl h0 h x sz rows:=by
 obtain⟨a0,a1,a2⟩:=a
 refine⟨s.trans a0,a1,?_⟩
 have:=s.next
 rcases a2 with a2|⟨b,e,l1,l2,hb⟩
 ·exact .inl a2
 ·exact .inr ⟨b,e,by omega,l2,hb⟩
end Go.Ab
namespace Go.Ab.Try
end Go.Ab.Try
namespace Go.Ab.Try
variable {Fn:Nat→Option FD} {fast:Nat→Option (List V→H→Option (V × H))} {N fn:Nat} {ro:Option Nat}
theorem PBd_join {v:V}{c1 c2:C}{s1 s2:St}{K:X→St→Prop}{tg}(R:X→St→Prop)(h:PBd v (W Fn fast N fn ro c1 s1 R) (W Fn fast N fn ro c2 s2 R) ⟨⟩)(k:∀x s,R x s→K x s):PBd v (W Fn fast N fn ro c1 s1 K) (W Fn fast N fn ro c2 s2 K) tg:=by
 cases v
 case bool b=>cases b<;>exact W.mono h k
 all_goals exact h.elim
end Go.Ab.Try
namespace Go.Ab.Try
def MM (t:Tb)(q p:Nat):Bool:=matchB t p q
theorem MM_comm {t:Tb}(g:Good t)(p q:Nat):MM t p q=MM t q p:=by
 unfold MM matchB
 cases hp:t.pieces[p]? with
 |none=>cases hq:t.pieces[q]? <;>rfl
 |some a=>
  cases hq:t.pieces[q]? with
  |none=>rfl
  |some b=>exact alike_comm g b a
end Go.Ab.Try
namespace Go.Ab.Try
end Go.Ab.Try
namespace Go.Ab
namespace Try
noncomputable def rch (t:Tb)(p q:Nat):Bool:= @decide (∃k,Wk t.pieces.length (MM t) k p q) (Classical.propDecidable _)
theorem Wk.trans {n:Nat}{M:Nat→Nat→Bool}{p q:Nat}:∀{k j r},Wk n M j p q→Wk n M k q r→∃i,Wk n M i p r
 |0,j,r,h1,h2=>⟨j,by rw[←(show q=r from h2)];exact h1⟩
 |k+1,j,r,h1,⟨x,hx,h2,h3⟩=>by
  obtain⟨i,h4⟩:=Wk.trans h1 h2
  exact⟨i+1,x,hx,h4,h3⟩
noncomputable def before (t:Tb)(c:Nat):Bool:=(List.range c).any fun p=>rch t p c
end Try
end Go.Ab
namespace Go.Ab.Try
end Go.Ab.Try
