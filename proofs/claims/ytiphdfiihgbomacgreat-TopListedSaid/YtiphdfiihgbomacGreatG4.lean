/- How far a piece is from another: the search by breadth, in a map. The reference's Check, Sees, Tells, Alike, Apart. Distances in a graph of few points, and how a search that goes by breadth finds them. Plain. A queue of integers: taken from the front, appended to at the end. How far a part of a shade can change: Shades, as the program and as the reference find it. The reference's Shades, Apart and Scrap. EyeMatches. -/
import Derived.Test.YtiphdfiihgbomacGreatG2
set_option linter.unusedSimpArgs false
set_option linter.unusedVariables false
namespace Go.Ab
end Go.Ab
namespace Go.Ab.Tryz
end Go.Ab.Tryz
namespace Go.Ab.Tryz
def Wk (n:Nat)(M:Nat→Nat→Bool):Nat→Nat→Nat→Prop
 |0,p,q=>p=q
 |k+1,p,q=>∃r,r<n∧Wk n M k p r∧M r q=true
theorem Wk.pre {n:Nat}{M:Nat→Nat→Bool}{p r:Nat}(hp:p<n)(hm:M p r=true):∀{k q},Wk n M k r q→Wk n M (k+1) p q
 |0,q,h=>⟨p,hp,rfl,by have:r=q:=h;rw[←this];exact hm⟩
 |k+1,q,⟨x,hx,h1,h2⟩=>⟨x,hx,Wk.pre hp hm h1,h2⟩
def lk (p:Nat):List (Nat × Nat)→Option Nat
 |[]=>none
 |e::l=>if p=e.1 then some e.2 else lk p l
end Go.Ab.Tryz
namespace Go.Ab
noncomputable def slcFrom (h:H)(sz:Nat)(x k:V):Option V:=q_slc .nil h sz x (some (.c k)) none none
theorem q_slc_from (tm:T V)(h:H)(sz:Nat)(x:V)(y:Opd):q_slc tm h sz x (some y) none none=slcFrom h sz x (y.ev tm):=rfl
namespace Tryz
end Tryz
end Go.Ab
namespace Go.Ab.Tryz
def Sd.put (s:Sd)(p:Nat)(n:Int):Sd:=match p with
 |0=>⟨n,s.y,s.z⟩
 |1=>⟨s.x,n,s.z⟩
 |_=>⟨s.x,s.y,n⟩
theorem put_put (s:Sd)(p:Nat)(m n:Int):(s.put p m).put p n=s.put p n:=match p with|0=>rfl|1=>rfl|_+2=>rfl
def okP (t:Tb)(s:Sd)(p:Nat)(n:Int):Bool:=alike t s (s.put p n)
end Go.Ab.Tryz
namespace Go.Ab
theorem OwnSl.up {h0 h1 h:H}{x:V}{sz:Nat}{rows:List (List V)}(a:OwnSl h1 h x sz rows)(s:h0.Sub h1):OwnSl h0 h x sz rows:=by
 obtain⟨a0,a1,a2⟩:=a
 refine⟨s.trans a0,a1,?_⟩
 have:=s.next
 rcases a2 with a2|⟨b,e,l1,l2,hb⟩
 ·exact .inl a2
 ·exact .inr ⟨b,e,by omega,l2,hb⟩
end Go.Ab
namespace Go.Ab.Tryz
end Go.Ab.Tryz
namespace Go.Ab.Tryz
variable {Fn:Nat→Option FD} {fast:Nat→Option (List V→H→Option (V × H))} {N fn:Nat} {ro:Option Nat}
end Go.Ab.Tryz
namespace Go.Ab.Tryz
def MM (t:Tb)(q p:Nat):Bool:=matchB t p q
end Go.Ab.Tryz
