/- ClockBefore is true of the given program at every input, and leaves what is passed in as it was. No condition. awake() is true, wherever it is called. What comes in, as our machine sees it: rows, integers; what stays. What the cases of the clocks say (plain): each is a run of every clock with the distances that follow; all truths are among them. The cases of the clocks are just all truths (plain). slices.Collect of the cases. told: all cases of an attic. between: the least and the greatest difference of two events over all cases. Time, Between, Before, Wages. The least and the greatest differences over all cases (plain). What a clock shows, by going on from minute to minute (as the law has it); the law ClockEven. Numbers that are wound off bytes: the contracts of Spool. A truth that is wound off numbers: Made. Slices that are made side by side. Made: the slices' invariants; an attic with its truth (plain). Made. Distances only sink (plain); wages. The law ClockBefore: its first part. The law ClockBefore. -/
import Derived.Test.YtagnijhgpogfhaaRows
import Derived.ProofKit
import Derived.OpenShut
import Derived.Test.YtagnijhgpogfhaaG2
import Derived.Test.YtagnijhgpogfhaaAbX
import Derived.Test.YtagnijhgpogfhaaAc7
import Derived.Test.YtagnijhgpogfhaaAwk
import Derived.Test.YtagnijhgpogfhaaAc3
import Derived.Test.YtagnijhgpogfhaaAc5
import Derived.Test.YtagnijhgpogfhaaG4
set_option linter.unusedSimpArgs false
set_option linter.unusedVariables false
namespace Go.Ab.Try
open Go.Proofs
theorem awake_spec (h:H):SpecOk Try.prog tyG 11 [] h (.bool true) h:=
 closed_spec (awk_ok.is (args:=[]) (h:=⟨0,.nil⟩) rfl rfl rfl) trivial h
theorem fastA_ok:FastOk Try.prog tyG fastA:=by
 refine⟨fun f g h=>?_⟩
 unfold fastA at h
 split at h
 ·rename_i hb
  have:=Nat.eq_of_beq_eq_true hb;subst this
  cases h
  refine⟨callable (fd:=c11) rfl,fun args h v h' e=>?_⟩
  dsimp only at e
  split at e
  ·cases e;exact awake_spec h
  ·cases e
 ·split at h
  ·rename_i hb
   have:=Nat.eq_of_beq_eq_true hb;subst this
   cases h
   exact⟨sort_callable,fun args h v h' e=>sortF_at e⟩
  ·cases h
theorem spec_of {f:FuncId}{fd:FD}(hf:fnG f=some fd){args:List V}{h:H}{Q:V→H→Prop}(he:Ev fnG fastA (.fn f [] []) args h Q):∃v h',SpecOk Try.prog tyG f args h v h'∧Q v h':=
 he.spec tyOK depth_ok mixed_ok fnOK fastA_ok (callable hf)
end Go.Ab.Try
namespace Go.Proofs.Ytagnijhgpogfhaa
open Go.ChangeShapes Go.WideShapes Go.ChangeAt Go.RowKit
open Go.Ab
theorem Try.own:ownKnob Try.prog.godebug=none:=by kernel_rfl
theorem Try.laidOut:laidOutB Try.prog=true:=by kernel_rfl
section
variable {H:Type} {enc:TypeId × Value→H} {w:World} {base:Nat} {spare:Nat→Bool} {held:Bool}
end
def plainS (v:Value):Prop:=∀a n c,v=.slice (some a) n c→a.spot=none
set_option maxRecDepth 100000 in
def rowsB {ρ:Type}(ev:ρ→List V)(rows:List ρ):Option Blk:=match rows with|[]=>none|r::l=>some (.cells .ro ((r::l).map ev).flatten)
theorem rowsB_some {ρ:Type}{ev:ρ→List V}{rows:List ρ}{x:Blk}(h:rowsB ev rows=some x):rows≠[]∧x=.cells .ro (rows.map ev).flatten:=by
 cases rows with
 |nil=>cases h
 |cons r l=>cases h;exact⟨by simp,rfl⟩
def slV (q:Nat)(S:Value)(n:Nat):V:=match S with|.slice (some _) _ c=>.sl q 0 n (.fix c)|_=>.nils
theorem add_add (b off m j:Nat):((⟨b,off,none⟩:Addr).add m).add j=⟨b,off+(m+j),none⟩:=by
 unfold Addr.add
 by_cases hm:m=0
 ·subst hm
  by_cases hj:j=0
  ·subst hj;simp
  ·simp[hj]
 ·by_cases hj:j=0
  ·subst hj;simp[hm]
  ·simp[hm,hj];omega
theorem slice_in {w:World}{ρ:Type}{ev:ρ→List V}{rv:ρ→List Value}{k q:Nat}{S:Value}(hk:∀r,(ev r).length=k)(h0:0<k)(hconc:∀φ r,(ev r).map (conc φ)=rv r)(hp:plainS S)
  (h:S=.slice none 0 0∨∃(a:Addr) (len cap:Nat) (rows:List ρ),S=.slice (some a) len cap∧rows.length=len∧len≤maxLen∧∀i (hi:i<rows.length) j,j<k→w.cell? ((a.add (i*k)).add j)=(rv rows[i])[j]?):
  ∃(rows:List ρ) (b off:Nat),rows.length≤maxLen∧(∀φ:Phi,φ.blk q=b→φ.off q=off→conc φ (slV q S rows.length)=S∧(rows≠[]→∃o,w.heap[φ.blk q]? =some o∧rowIs φ q .ro (rows.map ev).flatten o))∧
   ((slV q S rows.length=.nils∧rows=[])∨∃c,slV q S rows.length=.sl q 0 rows.length (.fix c)):=by
 rcases h with rfl|⟨a,len,cap,rows,rfl,r1,r2,r3⟩
 ·exact⟨[],0,0,by simp,fun φ _ _=>⟨by simp[slV,conc],fun h=>absurd rfl h⟩,.inl ⟨rfl,rfl⟩⟩
 ·have hs:=hp a len cap rfl
  obtain⟨b,off,sp⟩:=a
  simp only at hs
  subst hs;subst r1
  refine⟨rows,b,off,r2,fun φ hb ho=>⟨by simp[slV,conc,Phi.at,hb,ho],fun hne=>rows_is hk h0 (hconc φ) (fun i hi j hj=>?_) hne hb ho⟩,.inr ⟨cap,rfl⟩⟩
  have:=r3 i hi j hj
  rw[add_add] at this
  exact this
theorem slAt_in {ρ:Type}{ev:ρ→List V}{k q:Nat}{S:Value}{rows:List ρ}{h:Go.Ab.H}(hk:∀r,(ev r).length=k)(hl:rows.length≤maxLen)(hb:h.get q=rowsB ev rows)
  (hs:(slV q S rows.length=.nils∧rows=[])∨∃c,slV q S rows.length=.sl q 0 rows.length (.fix c)):SlAt h (slV q S rows.length) k (rows.map ev):=by
 have hf:∀r∈rows.map ev,r.length=k:=by simp[hk]
 refine⟨hf,by simp only[List.length_map];unfold maxLen at hl;omega,?_⟩
 rcases hs with⟨e,e2⟩|⟨c,e⟩
 ·exact .inl ⟨e,by rw[e2];rfl⟩
 ·refine .inr ⟨q,0,.fix c,(rows.map ev).flatten,by rw[e];simp,?_,getN_eq.2 ⟨?_,?_⟩⟩
  ·cases rows with
   |nil=>exact .inl rfl
   |cons r l=>exact .inr (cells_of (by rw[hb];rfl))
  ·rw[List.drop_zero,←flatten_len hf,List.take_length]
  ·rw[flatten_len hf];omega
def inT:List (Option Blk)→Nat→T Blk
 |[],_=>.nil
 |b::l,i=>(inT l (i+1)).put b i
theorem inT_get:∀(l:List (Option Blk)) (i c:Nat),(inT l i).get c=if i≤c then(l[c-i]?).join else none
 |[],i,c=>by simp[inT,T.get_nil]
 |b::l,i,c=>by
  rw[inT,T.get_put_eq,inT_get l (i+1) c]
  by_cases e:c=i
  ·subst e;simp
  ·rw[if_neg e]
   by_cases h:i≤c
   ·rw[if_pos (by omega),if_pos h,show c-i=(c-(i+1))+1 by omega,List.getElem?_cons_succ]
   ·rw[if_neg (by omega),if_neg h]
def inH (l:List (Option Blk)):Go.Ab.H:=⟨l.length,inT l 0⟩
theorem inH_get (l:List (Option Blk))(c:Nat):(inH l).get c=(l[c]?).join:=by
 show(inT l 0).get c=_
 rw[inT_get];simp
structure InAt (φ:Phi)(w:World)(l:List (Option Blk)):Prop where
 at_:∀c y,(l[c]?).join=some y→∃cs,y=.cells .ro cs∧(∀v∈cs,∃k n,v=.int k n)∧∃o,w.heap[φ.blk c]? =some o∧rowIs φ c .ro cs o
theorem in_rep {φ:Phi}{w:World}{l:List (Option Blk)}(h:InAt φ w l):
  Rep Go.Ab.Try.tyG φ (inH l).get (fun b=>b<l.length) w∧(inH l).next=l.length∧(inH l).wf∧∀b y,(inH l).get b=some y→y.rw=false:=by
 have hlt:∀b y,(inH l).get b=some y→b<l.length:=fun b y hy=>by
  rw[inH_get] at hy
  by_cases e:b<l.length
  ·exact e
  ·rw[List.getElem?_eq_none (by omega)] at hy;cases hy
 refine⟨⟨fun b y hy=>?_,fun b c y z hy hz hrw=>?_,fun b y hy=>?_⟩,rfl,hlt,fun b y hy=>?_⟩
 ·rw[inH_get] at hy
  obtain⟨cs,rfl,_,o,h1,h2⟩:=h.at_ b y hy
  exact⟨o,h1,h2⟩
 ·rw[inH_get] at hy
  obtain⟨cs,rfl,_⟩:=h.at_ b y hy
  cases hrw
 ·have hl:=hlt b y hy
  rw[inH_get] at hy
  obtain⟨cs,rfl,hi,_⟩:=h.at_ b y hy
  exact⟨hl,scL_iff.2 fun v hv=>by obtain⟨k,n,rfl⟩:=hi v hv;trivial⟩
 ·rw[inH_get] at hy
  obtain⟨cs,rfl,_⟩:=h.at_ b y hy
  rfl
structure SlIn {ρ:Type}(ev:ρ→List V)(k q:Nat)(w:World)(S:Value)(rows:List ρ)(b off:Nat):Prop where
 len:rows.length≤maxLen
 is:∀φ:Phi,φ.blk q=b→φ.off q=off→conc φ (slV q S rows.length)=S∧(rows≠[]→∃o,w.heap[φ.blk q]? =some o∧rowIs φ q .ro (rows.map ev).flatten o)
 shape:(slV q S rows.length=.nils∧rows=[])∨∃c,slV q S rows.length=.sl q 0 rows.length (.fix c)
theorem SlIn.sc {ρ:Type}{ev:ρ→List V}{k q:Nat}{w:World}{S:Value}{rows:List ρ}{b off:Nat}(h:SlIn ev k q w S rows b off){n:Nat}(hq:q<n):(slV q S rows.length).sc fun b=>b<n:=by
 rcases h.shape with⟨e,_⟩|⟨c,e⟩<;>rw[e]<;>simp[V.sc];exact hq
theorem SlIn.blk {ρ:Type}{ev:ρ→List V}{k q:Nat}{w:World}{S:Value}{rows:List ρ}{b off:Nat}(h:SlIn ev k q w S rows b off){φ:Phi}(hb:φ.blk q=b)(ho:φ.off q=off)(hints:∀r,∀v∈ev r,∃k n,v=.int k n):
  ∀y,rowsB ev rows=some y→∃cs,y=.cells .ro cs∧(∀v∈cs,∃k n,v=.int k n)∧∃o,w.heap[φ.blk q]? =some o∧rowIs φ q .ro cs o:=fun y hy=>by
 obtain⟨e,rfl⟩:=rowsB_some hy
 refine⟨_,rfl,fun v hv=>?_,(h.is φ hb ho).2 e⟩
 obtain⟨r,hr,hvr⟩:=List.mem_flatten.1 hv
 obtain⟨a,_,rfl⟩:=List.mem_map.1 hr
 exact hints a v hvr
theorem SlIn.sl {ρ:Type}{ev:ρ→List V}{k q:Nat}{w:World}{S:Value}{rows:List ρ}{b off:Nat}(h:SlIn ev k q w S rows b off)(hk:∀r,(ev r).length=k){l:List (Option Blk)}(hl:l[q]? =some (rowsB ev rows)):
  SlAt (inH l) (slV q S rows.length) k (rows.map ev):=slAt_in hk h.len (by rw[inH_get,hl];rfl) h.shape
theorem slIn {w:World}{ρ:Type}{ev:ρ→List V}{rv:ρ→List Value}{k q:Nat}{S:Value}(hk:∀r,(ev r).length=k)(h0:0<k)(hconc:∀φ r,(ev r).map (conc φ)=rv r)(hp:plainS S)
  (h:S=.slice none 0 0∨∃(a:Addr) (len cap:Nat) (rows:List ρ),S=.slice (some a) len cap∧rows.length=len∧len≤maxLen∧∀i (hi:i<rows.length) j,j<k→w.cell? ((a.add (i*k)).add j)=(rv rows[i])[j]?):
  ∃(rows:List ρ) (b off:Nat),SlIn ev k q w S rows b off:=by
 obtain⟨rows,b,off,h1,h2,h3⟩:=slice_in (q:=q) hk h0 hconc hp h
 exact⟨rows,b,off,h1,h2,h3⟩
set_option maxRecDepth 100000 in
theorem slice_arg {H:Type}{enc:TypeId × Value→H}{w:World}{base:Nat}{spare:Nat→Bool}{held:Bool}{ρ:Type}{ev:ρ→List V}{rv:ρ→List Value}{t e:TypeId}{k q:Nat}{v:Value}{d:DataW H}{ps:List MemPlace}{r:Reach}{b0:Nat}
  (ht:Try.prog.underlying t=some (.slice e)) (hc:Try.prog.cellsOf e=k) (hc1:Try.prog.cellsOf t=1) (hrow:∀n cs (x:DataW H × List MemPlace),DataW.trod enc Try.prog w base spare held n e cs=some x→∃r,cs=rv r)
  (hk:∀r,(ev r).length=k) (h0:0<k) (hconc:∀φ r,(ev r).map (conc φ)=rv r)
  (hval:Value.okWide Try.prog w r b0 t v) (hd:DataW.Trod enc Try.prog w base spare held t v d ps):∃(rows:List ρ) (b off:Nat),SlIn ev k q w v rows b off:=by
 have hval':=hval
 simp only[Value.okWide,ht] at hval
 have hp:plainS v:=fun a n c e=>by
  subst e
  simp only[Cell.okWide,ht,Cell.ok,World.has] at hval
  exact hval.2.2.2.1
 obtain⟨fuel,hf⟩:=hd
 have hg:=slice_rows (rv:=rv) ht hc hrow hf
 have hone:∀x,v.cells.toList=[x]→(∃a n c,x=.slice a n c)→v=x:=fun x hx hsl=>by
  cases v<;>simp[Value.cells] at hx<;>first|exact hx|skip
  all_goals
   exfalso
   simp only[Cell.okWide,ht,Cell.ok] at hval
 refine slIn (q:=q) hk h0 hconc hp ?_
 rcases hg with hg|⟨a,len,cap,rows,e,r1,r2,r3⟩
 ·exact .inl (hone _ hg ⟨_,_,_,rfl⟩)
 ·exact .inr ⟨a,len,cap,rows,hone _ e ⟨_,_,_,rfl⟩,r1,r2,r3⟩
theorem Same.at {W W':World}(h:Same W W'){p:MemPlace}(hp:p.block<W.heap.size):W.sameAt W' p:=by
 cases p with
 |cell b o=>exact World.cell?_of_block (w:=W) (h.2.2.2 b hp)
 |map b=>exact h.2.2.2 b hp
theorem stays {H:Type}{enc:TypeId × Value→H}{W W':World}{t:TypeId}{v:Value}{d:DataW H}{ps:List MemPlace}(hr:Try.prog.readableRec t=true)(ht:t<Try.prog.types.size)(hs:Same W W')(hlt:∀x∈ps,x.block<W.heap.size)
  (h:DataW.Trod enc Try.prog W 0 (fun _=>true) true t v d ps):DataW.Trod enc Try.prog W' 0 (fun b=>decide (b<W.heap.size)) true t v d ps:=
 WideElems.Trod_stays Try.laidOut hr ht h (fun x hx=>Same.at hs (hlt x hx)) (fun x hx=>by simpa using hlt x hx)
theorem trod_cons {H:Type}{enc:TypeId × Value→H}{W:World}{base:Nat}{sp:Nat→Bool}{held:Bool}{t:TypeId}{ts:List TypeId}{v:Value}{vs:List Value}{d:DataW H}{ds:List (DataW H)}{p q:List MemPlace}(h:DataW.Trod enc Try.prog W base sp held t v d p)
  (k:DataW.TrodAll enc Try.prog W base sp held ts vs ds q):DataW.TrodAll enc Try.prog W base sp held (t::ts) (v::vs) (d::ds) (p++q):=⟨p,q,h,k,rfl⟩
end Go.Proofs.Ytagnijhgpogfhaa
namespace Go.Ab.Try
open Go.Proofs
def RdOk (a:At)(cnt:Nat→Bool)(k:Int)(x:Int × Int)(y:Nat→Int):Prop:=
 ∀(j:Nat) (r:Rd),a.rds[j]? =some r→r.ck=k→cnt j=true→(whn x.1 x.2 r.sh (a.mins.toNat+1)).1≤y r.ev.toNat-y 4∧y r.ev.toNat-y 4≤(whn x.1 x.2 r.sh (a.mins.toNat+1)).2
theorem Sol_rdL {L:List Int}(hL:L.length=25){e:Nat}(he:e<5){s:Int × Int}{y:Nat→Int}:Sol y (rdL L e s)↔Sol y L∧s.1≤y e-y 4∧y e-y 4≤s.2:=by
 rw[rdL,Sol_low (by rw[low_len];exact hL) he (by decide),Sol_low hL (by decide) he]
 constructor
 ·rintro⟨⟨h1,h2⟩,h3⟩;exact⟨h1,by omega,by omega⟩
 ·rintro⟨h1,h2,h3⟩;exact⟨⟨h1,by omega⟩,by omega⟩
theorem Sol_gapL {a:At}(r:Right a){L:List Int}(hL:L.length=25){g:Gp}(hg:g∈a.gps){y:Nat→Int}:Sol y (gapL L g)↔Sol y L∧g.lo≤y g.to.toNat-y g.fr.toNat∧y g.to.toNat-y g.fr.toNat≤g.hi:=by
 obtain⟨f,t,e1,e2,hf,ht,_⟩:=r.gap hg
 rw[gapL,e1,e2,Int.toNat_natCast,Int.toNat_natCast,Sol_low (by rw[low_len];exact hL) (by omega) (by omega),Sol_low hL (by omega) (by omega)]
 constructor
 ·rintro⟨⟨h1,h2⟩,h3⟩;exact⟨h1,by omega,by omega⟩
 ·rintro⟨h1,h2,h3⟩;exact⟨⟨h1,by omega⟩,by omega⟩
theorem Sol_gaps {a:At}(r:Right a){y:Nat→Int}:∀{l:List Gp} {L:List Int},(∀g∈l,g∈a.gps)→L.length=25→(Sol y (l.foldl gapL L)↔Sol y L∧∀g∈l,g.lo≤y g.to.toNat-y g.fr.toNat∧y g.to.toNat-y g.fr.toNat≤g.hi)
 |[],L,_,_=>⟨fun h=>⟨h,fun g hg=>absurd hg List.not_mem_nil⟩,fun h=>h.1⟩
 |g::l,L,hl,hL=>by
  have hg:=hl g (List.mem_cons_self ..)
  rw[List.foldl_cons,Sol_gaps r (fun x hx=>hl x (List.mem_cons_of_mem _ hx)) (by rw[gapL,low_len,low_len];exact hL),Sol_gapL r hL hg,List.forall_mem_cons,and_assoc]
theorem Sol_free {a:At}(r:Right a){y:Nat→Int}(hy:y 4=0):Sol y (freeL a)↔(∀e,e<4→0≤y e∧y e≤a.mins)∧∀g∈a.gps,g.lo≤y g.to.toNat-y g.fr.toNat∧y g.to.toNat-y g.fr.toNat≤g.hi:=by
 rw[freeL,Sol_gaps r (L:=bsL a.mins) (fun g hg=>hg) (bsU_len _ _ _),Sol_bs hy]
 constructor
 ·rintro⟨⟨h1,_,_⟩,h2⟩;exact⟨h1,h2⟩
 ·rintro⟨h1,h2⟩;exact⟨⟨h1,fun a b ha hb _=>by have:=h1 a ha;have:=h1 b hb;omega,.inr trivial⟩,h2⟩
theorem readsL_spec {a:At}(r:Right a){cnt:Nat→Bool}{k:Int}{x:Int × Int}{y:Nat→Int}:∀{l:List Rd} {i:Nat} {L:List Int},(∀r∈l,r∈a.rds)→L.length=25→
  ((readsL a cnt k x l i L).2=true→(Sol y (readsL a cnt k x l i L).1↔Sol y L∧∀(j:Nat) (r:Rd),l[j]? =some r→r.ck=k→cnt (i+j)=true→(whn x.1 x.2 r.sh (a.mins.toNat+1)).1≤y r.ev.toNat-y 4∧y r.ev.toNat-y 4≤(whn x.1 x.2 r.sh (a.mins.toNat+1)).2))∧
  ((readsL a cnt k x l i L).2=false→¬∀(j:Nat) (r:Rd),l[j]? =some r→r.ck=k→cnt (i+j)=true→(whn x.1 x.2 r.sh (a.mins.toNat+1)).1≤y r.ev.toNat-y 4∧y r.ev.toNat-y 4≤(whn x.1 x.2 r.sh (a.mins.toNat+1)).2)
 |[],i,L,_,_=>⟨fun _=>⟨fun h=>⟨h,fun j r hr=>by simp at hr⟩,fun h=>h.1⟩,fun h=>by cases h⟩
 |rd::l,i,L,hl,hL=>by
  have hrd:=hl rd (List.mem_cons_self ..)
  obtain⟨yk,ye,ek,ee,hyk,hye,_⟩:=r.rd hrd
  have hl':=fun x hx=>hl x (List.mem_cons_of_mem _ hx)
  have sh:∀{X:Rd→Prop},(∀(j:Nat) (r:Rd),(rd::l)[j]? =some r→r.ck=k→cnt (i+j)=true→X r)↔(rd.ck=k→cnt i=true→X rd)∧∀(j:Nat) (r:Rd),l[j]? =some r→r.ck=k→cnt (i+1+j)=true→X r:=fun{X}=>by
   constructor
   ·intro h;exact⟨h 0 rd rfl,fun j r hr h1 h2=>h (j+1) r hr h1 (by rw[show i+(j+1)=i+1+j by omega];exact h2)⟩
   ·rintro⟨h1,h2⟩ j r hr h3 h4
    cases j with
    |zero=>cases hr;exact h1 h3 h4
    |succ j=>exact h2 j r hr h3 (by rw[show i+1+j=i+(j+1) by omega];exact h4)
  rw[sh (X:=fun r=>(whn x.1 x.2 r.sh (a.mins.toNat+1)).1≤y r.ev.toNat-y 4∧y r.ev.toNat-y 4≤(whn x.1 x.2 r.sh (a.mins.toNat+1)).2)]
  by_cases h1:rd.ck≠k∨cnt i=false
  ·rw[readsL,if_pos h1]
   have ih:=readsL_spec r (cnt:=cnt) (k:=k) (x:=x) (y:=y) (l:=l) (i:=i+1) (L:=L) hl' hL
   have hv:∀{P:Prop},rd.ck=k→cnt i=true→P:=fun{P} a b=>by
    rcases h1 with h1|h1
    ·exact absurd a h1
    ·rw[b] at h1;cases h1
   refine⟨fun ht=>(ih.1 ht).trans ⟨fun h=>⟨h.1,fun a b=>hv a b,h.2⟩,fun h=>⟨h.1,h.2.2⟩⟩,fun ht h=>ih.2 ht h.2⟩
  ·have h1':rd.ck=k∧cnt i=true:=by
    rcases Classical.em (rd.ck=k) with h|h
    ·refine⟨h,?_⟩
     cases hc:cnt i with
     |true=>rfl
     |false=>exact absurd (.inr hc) h1
    ·exact absurd (.inl h) h1
   rw[readsL,if_neg h1]
   by_cases h2:(whn x.1 x.2 rd.sh (a.mins.toNat+1)).2<(whn x.1 x.2 rd.sh (a.mins.toNat+1)).1
   ·rw[if_pos h2]
    exact⟨fun h=>by(cases h),fun _ h=>by have:=h.1 h1'.1 h1'.2;omega⟩
   ·rw[if_neg h2]
    have hre:rd.ev.toNat<5:=by omega
    have ih:=readsL_spec r (cnt:=cnt) (k:=k) (x:=x) (y:=y) (l:=l) (i:=i+1) (L:=rdL L rd.ev.toNat (whn x.1 x.2 rd.sh (a.mins.toNat+1))) hl' (by rw[rdL,low_len,low_len];exact hL)
    refine⟨fun ht=>(ih.1 ht).trans ?_,fun ht h=>ih.2 ht h.2⟩
    rw[Sol_rdL hL hre]
    exact⟨fun h=>⟨h.1.1,fun _ _=>h.1.2,h.2⟩,fun h=>⟨⟨h.1,h.2.1 h1'.1 h1'.2⟩,h.2.2⟩⟩
theorem readL_spec {a:At}(r:Right a){cnt:Nat→Bool}{k:Int}{x:Int × Int}{L:List Int}(hL:In5 240 L):
  ((readL a cnt k x L).2=true→Tri (readL a cnt k x L).1∧In5 240 (readL a cnt k x L).1∧∀y,Sol y (readL a cnt k x L).1↔Sol y L∧RdOk a cnt k x y)∧
  ((readL a cnt k x L).2=false→∀y,Sol y L→¬RdOk a cnt k x y):=by
 have hin:=readsL_in (cnt:=cnt) (k:=k) (x:=x) (i:=0) r (fun y (hy:y∈a.rds)=>hy) hL
 have hs:=fun y=>readsL_spec r (cnt:=cnt) (k:=k) (x:=x) (y:=y) (l:=a.rds) (i:=0) (L:=L) (fun r hr=>hr) hL.len
 simp only[Nat.zero_add] at hs
 unfold readL
 by_cases h1:(readsL a cnt k x a.rds 0 L).2=true
 ·rw[if_pos h1]
  have hc:=clos_spec (by decide) (by decide) hin
  refine⟨fun ht=>?_,fun ht y hy hr=>?_⟩
  ·obtain⟨c1,c2,_,c4⟩:=hc.1 ht
   exact⟨c1,c2,fun y=>(c4 y).symm.trans ((hs y).1 h1)⟩
  ·exact hc.2 ht y (((hs y).1 h1).2 ⟨hy,hr⟩)
 ·rw[if_neg h1]
  exact⟨fun h=>by(cases h),fun _ y _ hr=>(hs y).2 (by simpa using h1) hr⟩
end Go.Ab.Try
namespace Go.Ab.Try
open Go.Proofs
theorem moreL_sound {a:At}(r:Right a){cnt:Nat→Bool}:∀{n:Nat} {runs:Runs} {L:List Int} {t:Runs × List Int},runs.length+n=a.cks.length→In5 240 L→Tri L→t∈moreL a cnt n runs L→
  Tri t.2∧∃suf:Runs,t.1=runs++suf∧suf.length=n∧(∀(j:Nat) s,suf[j]? =some s→RunOf a (runs.length+j) s)∧∀y,Sol y t.2↔Sol y L∧∀(j:Nat) s,suf[j]? =some s→RdOk a cnt ((runs.length+j:Nat):Int) s y
 |0,runs,L,t,hl,hL,tL,ht=>by
  rw[moreL,List.mem_singleton] at ht;subst ht
  exact⟨tL,[],by simp,rfl,fun j s h=>by simp at h,fun y=>⟨fun h=>⟨h,fun j s h=>by simp at h⟩,fun h=>h.1⟩⟩
 |n+1,runs,L,t,hl,hL,tL,ht=>by
  have hlt:runs.length<a.cks.length:=by omega
  have hck:a.cks[runs.length]? =some a.cks[runs.length]:=List.getElem?_eq_getElem hlt
  obtain⟨c,hc⟩:∃c,a.cks[runs.length]=c:=⟨_,rfl⟩
  rw[hc] at hck
  unfold moreL at ht
  rw[hck] at ht
  simp only[List.mem_flatMap,List.mem_range] at ht
  obtain⟨u,hu,v,hv,ht⟩:=ht
  have n1:(c.ns:Int)=c.sh-c.sl+1:=by unfold Ck.ns at hu⊢;omega
  have n2:(c.ng:Int)=c.gh-c.gl+1:=by unfold Ck.ng at hv⊢;omega
  split at ht
  ·rename_i hk
   obtain⟨k1,k2,k3⟩:=(readL_spec r hL).1 hk
   obtain⟨i1,suf,i2,i3,i4,i5⟩:=moreL_sound r (by rw[List.length_append,List.length_singleton];omega) k2 k1 ht
   rw[List.length_append,List.length_singleton] at i4 i5
   have ix:∀j,runs.length+1+j=runs.length+(j+1):=fun j=>by omega
   refine⟨i1,(c.sl+(u:Int),c.gl+(v:Int))::suf,by rw[i2,List.append_assoc];rfl,by rw[List.length_cons,i3],fun j s hs=>?_,fun y=>?_⟩
   ·cases j with
    |zero=>cases hs;exact RunOf.mk' hck (by omega) (by omega) (by omega) (by omega)
    |succ j=>rw[←ix];exact i4 j s hs
   ·rw[i5 y,k3 y]
    constructor
    ·rintro⟨⟨h1,h2⟩,h3⟩
     refine⟨h1,fun j s hs=>?_⟩
     cases j with
     |zero=>cases hs;exact h2
     |succ j=>rw[←ix];exact h3 j s hs
    ·rintro⟨h1,h2⟩
     exact⟨⟨h1,h2 0 _ rfl⟩,fun j s hs=>by rw[ix];exact h2 (j+1) s hs⟩
  ·cases ht
theorem moreL_full {a:At}(r:Right a){cnt:Nat→Bool}{y:Nat→Int}:∀{n:Nat} {runs suf:Runs} {L:List Int},runs.length+n=a.cks.length→In5 240 L→suf.length=n→(∀(j:Nat) s,suf[j]? =some s→RunOf a (runs.length+j) s)→Sol y L→
  (∀(j:Nat) s,suf[j]? =some s→RdOk a cnt ((runs.length+j:Nat):Int) s y)→∃L',(runs++suf,L')∈moreL a cnt n runs L
 |0,runs,suf,L,hl,hL,hs,_,_,_=>by
  rw[List.length_eq_zero_iff.1 hs,List.append_nil]
  exact⟨L,by rw[moreL];exact List.mem_singleton.2 rfl⟩
 |n+1,runs,[],L,hl,hL,hs,_,_,_=>by simp at hs
 |n+1,runs,s::suf,L,hl,hL,hs,hr,hy,hd=>by
  obtain⟨c,hck,h1,h2,h3,h4⟩:=hr 0 s rfl
  have hd0:=hd 0 s rfl
  rw[Nat.add_zero] at hck hd0
  have n1:(c.ns:Int)=c.sh-c.sl+1:=by unfold Ck.ns;omega
  have n2:(c.ng:Int)=c.gh-c.gl+1:=by unfold Ck.ng;omega
  have es:s=(c.sl+((s.1-c.sl).toNat:Int),c.gl+((s.2-c.gl).toNat:Int)):=by
   obtain⟨s1,s2⟩:=s
   simp only at h1 h2 h3 h4⊢
   rw[Int.toNat_of_nonneg (by omega),Int.toNat_of_nonneg (by omega)]
   congr 1<;>omega
  have hsp:=readL_spec (cnt:=cnt) (k:=(runs.length:Int)) (x:=s) r hL
  have hk:(readL a cnt runs.length s L).2=true:=by
   cases hh:(readL a cnt runs.length s L).2 with
   |true=>rfl
   |false=>exact absurd hd0 (hsp.2 hh y hy)
  obtain⟨k1,k2,k3⟩:=hsp.1 hk
  have ix:∀j,runs.length+1+j=runs.length+(j+1):=fun j=>by omega
  obtain⟨L',hL'⟩:=moreL_full r (runs:=runs++[s]) (suf:=suf) (L:=(readL a cnt runs.length s L).1) (n:=n) (by rw[List.length_append,List.length_singleton];omega) k2 (by simpa using hs)
   (fun j x hx=>by rw[List.length_append,List.length_singleton,ix];exact hr (j+1) x hx) ((k3 y).2 ⟨hy,hd0⟩) (fun j x hx=>by rw[List.length_append,List.length_singleton,ix];exact hd (j+1) x hx)
  refine⟨L',?_⟩
  rw[List.append_assoc] at hL'
  unfold moreL
  rw[hck]
  simp only[List.mem_flatMap,List.mem_range]
  refine⟨(s.1-c.sl).toNat,by omega,(s.2-c.gl).toNat,by omega,?_⟩
  rw[←es,if_pos hk]
  exact hL'
structure Tru (a:At)(cnt:Nat→Bool)(runs:Runs)(y:Nat→Int):Prop where
 len:runs.length=a.cks.length
 run:∀(k:Nat) s,runs[k]? =some s→RunOf a k s
 beg:y 4=0
 mins:∀e,e<4→0≤y e∧y e≤a.mins
 gaps:∀g∈a.gps,g.lo≤y g.to.toNat-y g.fr.toNat∧y g.to.toNat-y g.fr.toNat≤g.hi
 rds:∀(j:Nat) (r:Rd),a.rds[j]? =some r→cnt j=true→∀s,runs[r.ck.toNat]? =some s→shw s.1 s.2 (y r.ev.toNat)=r.sh
theorem Tru.ok {a:At}(r:Right a){cnt:Nat→Bool}{runs:Runs}{y:Nat→Int}(hl:runs.length=a.cks.length)(hr:∀(k:Nat) s,runs[k]? =some s→RunOf a k s)(hy:y 4=0)(hm:∀e,e<4→0≤y e∧y e≤a.mins):
  (∀(j:Nat) (rd:Rd),a.rds[j]? =some rd→cnt j=true→∀s,runs[rd.ck.toNat]? =some s→shw s.1 s.2 (y rd.ev.toNat)=rd.sh)↔∀(k:Nat) s,runs[k]? =some s→RdOk a cnt (k:Int) s y:=by
 have key:∀(j:Nat) (rd:Rd),a.rds[j]? =some rd→∀s,runs[rd.ck.toNat]? =some s→(shw s.1 s.2 (y rd.ev.toNat)=rd.sh↔(whn s.1 s.2 rd.sh (a.mins.toNat+1)).1≤y rd.ev.toNat-y 4∧y rd.ev.toNat-y 4≤(whn s.1 s.2 rd.sh (a.mins.toNat+1)).2):=fun j rd hrd s hs=>by
  obtain⟨yk,ye,ek,ee,hyk,hye,_⟩:=r.rd (List.mem_of_getElem? hrd)
  have h1:=hm rd.ev.toNat (by omega)
  obtain⟨_,_,_,_⟩:=(hr _ s hs).run r
  have h3:=r.mins
  rw[hy,show y rd.ev.toNat-0=y rd.ev.toNat by omega]
  exact whn_iff (by omega) h1.1 (by omega)
 constructor
 ·intro h k s hs j rd hrd hk hc
  have hs':runs[rd.ck.toNat]? =some s:=by rw[hk,Int.toNat_natCast];exact hs
  exact(key j rd hrd s hs').1 (h j rd hrd hc s hs')
 ·intro h j rd hrd hc s hs
  obtain⟨yk,ye,ek,ee,hyk,hye,_⟩:=r.rd (List.mem_of_getElem? hrd)
  refine(key j rd hrd s hs).2 (h rd.ck.toNat s hs j rd hrd ?_ hc)
  rw[ek,Int.toNat_natCast]
theorem cases_sound {a:At}(r:Right a){cnt:Nat→Bool}{t:Runs × List Int}(ht:t∈casesL a cnt):Tri t.2∧t.1.length=a.cks.length∧(∀(k:Nat) s,t.1[k]? =some s→RunOf a k s)∧∀y,y 4=0→(Sol y t.2↔Tru a cnt t.1 y):=by
 unfold casesL at ht
 split at ht
 ·rename_i hc
  obtain⟨c1,c2,_,c4⟩:=(clos_spec (by decide) (by decide) (freeL_in r)).1 hc
  obtain⟨h1,suf,h2,h3,h4,h5⟩:=moreL_sound r (by simp) c2 c1 ht
  rw[List.nil_append] at h2
  subst h2
  simp only[List.length_nil,Nat.zero_add] at h4 h5
  refine⟨h1,h3,h4,fun y hy=>?_⟩
  rw[h5 y,←c4 y]
  constructor
  ·rintro⟨q1,q2⟩
   have q3:=(Sol_free r hy).1 q1
   exact⟨h3,h4,hy,q3.1,q3.2,(Tru.ok r h3 h4 hy q3.1).2 q2⟩
  ·intro q
   exact⟨(Sol_free r hy).2 ⟨q.mins,q.gaps⟩,(Tru.ok r h3 h4 hy q.mins).1 q.rds⟩
 ·cases ht
theorem cases_full {a:At}(r:Right a){cnt:Nat→Bool}{runs:Runs}{y:Nat→Int}(h:Tru a cnt runs y):∃L,(runs,L)∈casesL a cnt:=by
 have hf:=(Sol_free r h.beg).2 ⟨h.mins,h.gaps⟩
 have hcs:=clos_spec (by decide) (by decide) (freeL_in r)
 have hc:(clos (freeL a)).2=true:=by
  cases hh:(clos (freeL a)).2 with
  |true=>rfl
  |false=>exact absurd hf (hcs.2 hh y)
 obtain⟨c1,c2,_,c4⟩:=hcs.1 hc
 have:=moreL_full r (cnt:=cnt) (y:=y) (n:=a.cks.length) (runs:=[]) (suf:=runs) (by simp) c2 h.len (fun j s hs=>by simpa using h.run j s hs) ((c4 y).1 hf) (fun j s hs=>by simpa using(Tru.ok r h.len h.run h.beg h.mins).1 h.rds j s hs)
 unfold casesL
 rw[if_pos hc]
 simpa using this
end Go.Ab.Try
namespace Go.Ab.Try
open Go.Proofs
theorem rLoop {r0:LoopR}(h1:r0.st=.ready)(h2:r0.pend=none):({({r0 with st:=.busy}:LoopR) with st:=.ready,pend:=none}:LoopR)=r0:=by cases r0;simp_all
set_option maxHeartbeats 4000000 in
theorem appendSeq_ev {h:H}(hw:h.wf){d:Nat}{a:At}{C R G f W:V}{ms:List Nat}(dk:Dk h d a C R G f W ms)(r:Right a){cnt:Nat→Bool}(hcnt:∀i,i<a.rds.length→PureA h f [.int .i64 (i:Int)] (.bool (cnt i)))
  {b1:Nat} (g1:h.get b1=some (.cells .rw [.ptr d 0])) (Q:V→H→Prop) (q:∀y Ps h',FsO h h' y Ps→Ps.map Prod.snd=casesL a cnt→Q y h'):
  Ev fnG fastA (.fn 73 [] []) [.nils,.fn 74 [] [.ptr b1 0]] h Q:=by
 have hall:=casesL_len r cnt
 refine Ev_body (fd:=c73) rfl rfl rfl ?_
 simp -implicitDefEqProofs(maxSteps:=999999)(disch:=first|with_reducible rfl|omega|(simp only[nA,nS,nD]<;>omega)|fail)only[c73,go_sem]
 have s1:h.Sub (h.add (.cells .rw [.nils])):=(H.Sub.refl hw).add _
 have gc1:(h.add (.cells .rw [.nils])).get h.next=some (.cells .rw [.nils]):=get_add_new rfl
 have n1:=H.next_add h (.cells .rw [.nils])
 generalize h.add (.cells .rw [.nils])=h1 at s1 gc1 n1⊢
 have w1:=s1.wf
 refine W_gen (P:=fun tm=>(Opd.t 2).ev tm=.ptr h.next 0∧(Opd.t 6).ev tm=.fn 74 [] [.ptr b1 0]) ⟨(by simp[ev_c,ev_put]<;>rfl),(by simp[ev_c,ev_put]<;>rfl)⟩ fun tm ⟨t2,t6⟩=>?_
 refine W_rf t6 ?_
 generalize hr:LoopR.mk _ _ _ _ _ _ _ _ _=r0
 have fB:=congrArg LoopR.body hr
 have fA:=congrArg LoopR.assign hr
 have fN:=congrArg LoopR.n hr
 have fF:=congrArg LoopR.fn hr
 have fP:=congrArg LoopR.ps hr
 have fT:=congrArg LoopR.tm hr
 dsimp only at fB fA fN fF fP fT
 have hrs:r0.st=.ready:=by rw[←hr]
 have hrp:r0.pend=none:=by rw[←hr]
 obtain⟨J,hJ⟩:∃J:Nat→H→Prop,∀n x,J n x↔∃y Ps,CI h r0 (h1.next+1) h.next h1.next (casesL a cnt) n x y Ps:=⟨_,fun _ _=>Iff.rfl⟩
 have s3:h.Sub ((h1.add .dfr).add (.loop r0)):=(s1.add _).add _
 have n3:((h1.add .dfr).add (.loop r0)).next=h1.next+2:=by simp only[H.next_add]
 have j0:J 0 ((h1.add .dfr).add (.loop r0)):=(hJ _ _).2 ⟨.nils,[],⟨⟨(OwnSl.nil s3 26).c,fun p hp=>absurd hp List.not_mem_nil,fun p hp=>absurd hp List.not_mem_nil⟩,rfl,fun p hp=>absurd hp List.not_mem_nil,fun b hb=>(blkOf_nils hb).elim,
  get_add_new (by rw[H.next_add]),by rw[get_add_old (by rw[H.next_add];omega)];exact get_add_new rfl,by rw[get_add_old (by rw[H.next_add];omega),get_add_old (by omega)];exact gc1⟩⟩
 have tk:Taker h (.yld (h1.next+1)) (casesL a cnt) J (fun _=>False) (CK (h1.next+1) h.next) 0:=by
  refine⟨fun p x hx=>?_,fun p x x' hx s=>?_,fun p x b hx hb=>?_,fun p x x' hx s b hb=>?_,fun p t ht x0 x R hx hR=>?_⟩
  ·obtain⟨y,Ps,k⟩:=(hJ _ _).1 hx
   exact⟨k.f.o.1,Nat.zero_le _⟩
  ·obtain⟨y,Ps,k⟩:=(hJ _ _).1 hx
   exact(hJ _ _).2 ⟨y,Ps,k.mono s⟩
  ·obtain⟨y,Ps,k⟩:=(hJ _ _).1 hx
   have wx:=k.f.o.1.wf
   rcases hb with hb|hb|⟨y2,g2,hb⟩
   ·subst hb;exact wx _ _ k.gl
   ·subst hb;exact wx _ _ k.gc
   ·rw[k.gc] at g2;cases g2;exact(k.f.o.blk hb).2.1
  ·obtain⟨y,Ps,k⟩:=(hJ _ _).1 hx
   rcases hb with hb|hb|⟨y2,g2,hb⟩
   ·exact .inl hb
   ·exact .inr (.inl hb)
   ·rw[s.get k.gc] at g2;cases g2
    exact .inr (.inr ⟨y,k.gc,hb⟩)
  ·obtain⟨y,Ps,k⟩:=(hJ _ _).1 hx
   refine Ev.gen fun Q2 q2=>?_
   have sx:=hR.1
   have kx:=k.mono sx
   have wx:=sx.wf
   have lx0:=k.f.o.1.wf _ _ k.gl
   have lx:=sx.next
   have lt:t.2.length=25:=(casesL_in r t (List.mem_of_getElem? ht)).len
   obtain⟨F,hF⟩:∃F,F=R::t.2.map iv:=⟨_,rfl⟩
   have lF:F.length=26:=by rw[hF,List.length_cons,List.length_map,lt]
   have oF:allOne F=true:=by rw[hF,allOne_cons,hR.one,allOne_iv];rfl
   have nF:F≠[]:=by rw[hF];exact List.cons_ne_nil _ _
   have gNF:getN 0 26 F=some F:=by rw[←lF];exact getN_eq.2 ⟨by rw[List.drop_zero,List.take_length],by omega⟩
   have lnF:lenN F=26:=by rw[lenN_eq,lF]
   have ovF:over F [.nils,.int .i64 0,.int .i64 0,.int .i64 0,.int .i64 0,.int .i64 0,.int .i64 0,.int .i64 0,.int .i64 0,.int .i64 0,.int .i64 0,.int .i64 0,.int .i64 0,.int .i64 0,.int .i64 0,.int .i64 0,.int .i64 0,.int .i64 0,.int .i64 0,.int .i64 0,.int .i64 0,.int .i64 0,.int .i64 0,.int .i64 0,.int .i64 0,.int .i64 0]=some F:=over_all (by rw[lF];rfl)
   have pF:(x.add (.cells .rw [.nils,.int .i64 0,.int .i64 0,.int .i64 0,.int .i64 0,.int .i64 0,.int .i64 0,.int .i64 0,.int .i64 0,.int .i64 0,.int .i64 0,.int .i64 0,.int .i64 0,.int .i64 0,.int .i64 0,.int .i64 0,.int .i64 0,.int .i64 0,.int .i64 0,.int .i64 0,.int .i64 0,.int .i64 0,.int .i64 0,.int .i64 0,.int .i64 0,.int .i64 0])).put x.next 0 F=some ((x.add (.cells .rw [.nils,.int .i64 0,.int .i64 0,.int .i64 0,.int .i64 0,.int .i64 0,.int .i64 0,.int .i64 0,.int .i64 0,.int .i64 0,.int .i64 0,.int .i64 0,.int .i64 0,.int .i64 0,.int .i64 0,.int .i64 0,.int .i64 0,.int .i64 0,.int .i64 0,.int .i64 0,.int .i64 0,.int .i64 0,.int .i64 0,.int .i64 0,.int .i64 0,.int .i64 0])).set x.next (.cells .rw F)):=put_full (get_add_new rfl) (by rw[lF];rfl) nF oF
   show Ev fnG fastA _ [.agg (R::t.2.map iv)] _ _
   rw[←hF]
   refine Ev_yld (tm:=tm.put (some (.agg F)) 7) kx.gl (by rw[←fP,←fT];rfl) ?_
   rw[←fA,←fN,←fF]
   simp -implicitDefEqProofs(maxSteps:=999999)(disch:=first|with_reducible rfl|omega|(simp only[nA,nS,nD]<;>omega)|fail)only[go_sem,t2,lnF,pF]
   unfold Kasg
   have sx2:x.Sub (x.add (.cells .rw F)):=(H.Sub.refl wx).add _
   have gw:(x.add (.cells .rw F)).get x.next=some (.cells .rw F):=get_add_new rfl
   have nw:=H.next_add x (.cells .rw F)
   generalize x.add (.cells .rw F)=hy at sx2 gw nw⊢
   refine⟨rfl,r0,sx2.get kx.gl,hrs,?_⟩
   obtain⟨rb,hrb⟩:∃rb:LoopR,rb={r0 with st:=.busy}:=⟨_,rfl⟩
   have hrb1:({rb with st:=.ready,pend:=none}:LoopR)=r0:=by rw[hrb];exact rLoop hrs hrp
   rw[←hrb,←fB,←fN,←fF]
   have sy:=k.f.o.1.trans (sx.trans sx2)
   have K3:Keeps (fun b=>b=h1.next+1) hy (hy.set (h1.next+1) (.loop rb)):=Keeps.set _ _ _
   have s4:h.Sub (hy.set (h1.next+1) (.loop rb)):=sy.set (by omega) (by omega) hw _
   have gl4:(hy.set (h1.next+1) (.loop rb)).get (h1.next+1)=some (.loop rb):=get_set_same rfl
   have n4:(hy.set (h1.next+1) (.loop rb)).next=hy.next:=H.next_set _ _ _
   generalize hy.set (h1.next+1) (.loop rb)=h4 at K3 s4 gl4 n4⊢
   have gw4:=K3.2 _ _ gw (by omega)
   have gc4:=K3.2 _ _ (sx2.get kx.gc) (by omega)
   have s5:h.Sub (h4.add (.cells .rw F)):=s4.add _
   have K5:Keeps (fun b=>b=h1.next+1) x (h4.add (.cells .rw F)):=⟨by rw[H.next_add];omega,fun b w g nb=>by
    have g2:=K3.2 _ _ (sx2.get g) nb
    rw[get_add_old (s4.wf _ _ g2)];exact g2⟩
   have o4:OwnC h (h4.add (.cells .rw F)) y 26 (Ps.map rowF):=kx.f.o.keep K5 s5 fun b hb e=>by have:=k.yb b hb;omega
   have y5:SlAt (h4.add (.cells .rw F)) (.sl h4.next 0 1 (.fix 1)) 26 [F]:=SlAt.new _ rfl rfl (by simp) (by intro r hr;rw[List.mem_singleton] at hr;rw[hr];exact lF) (by simp)
   have lP:Ps.length≤15625:=by
    have:=congrArg List.length k.ps
    rw[List.length_map,List.length_take] at this
    omega
   have gl5:(h4.add (.cells .rw F)).get (h1.next+1)=some (.loop rb):=by rw[get_add_old (by omega)];exact gl4
   have gc5:(h4.add (.cells .rw F)).get h.next=some (.cells .rw [y]):=by rw[get_add_old (by omega)];exact gc4
   have n5:=H.next_add h4 (.cells .rw F)
   have y1:=kx.f.o.one
   simp -implicitDefEqProofs(maxSteps:=999999)(disch:=first|with_reducible rfl|omega|(simp only[nA,nS,nD]<;>omega)|fail)only[go_sem,t2,cells_of gc4,cells_of gw4,gNF,lnF,ovF]
   generalize h4.add (.cells .rw F)=h5 at s5 K5 o4 y5 gl5 gc5 n5⊢
   refine o4.app1 (by_:=224) hw lF (by decide) y5 oF (by rw[List.length_map];omega) (by rw[List.length_map];omega) fun y' h6 o6 n6 k6=>?_
   have ny:∀b,blkOf y b→b≠h1.next+1∧b≠h.next:=fun b hb=>by have:=k.yb b hb;omega
   have gl6:=k6.2 _ _ gl5 fun hb=>(ny _ hb).1 rfl
   have gc6:=k6.2 _ _ gc5 fun hb=>(ny _ hb).2 rfl
   have y1':=o6.one
   simp -implicitDefEqProofs(maxSteps:=999999)(disch:=first|with_reducible rfl|omega|(simp only[nA,nS,nD]<;>omega)|fail)only[go_sem,t2,gc6,y1',cells_one y1']
   unfold Kround
   rw[hF] at o6
   have hend:=CI.frm (z:=(h6.set h.next (.cells .rw [y'])).set (h1.next+1) (.loop r0)) hw k hR lt ht (Nat.le_refl _) (by omega) (by omega) s5 K5 (t:=t) o6 n6 k6 rfl
   refine⟨rb,by rw[get_set_other (by omega)];exact gl6,q2 _ _ ?_⟩
   rw[hrb1]
   exact⟨.inl ⟨rfl,(hJ _ _).2 ⟨_,_,hend.1⟩⟩,hend.2⟩
 refine(cases_gen hw dk r hcnt ⟨_,rfl⟩ tk (b1:=b1) (x:=(h1.add .dfr).add (.loop r0)) ?_ j0 (s3.get g1)).mono fun u h7 hu=>?_
 ·have lb:=hw _ _ g1
  rintro(hb|hb|⟨y2,g2,hb⟩)
  ·omega
  ·omega
  ·obtain⟨y,Ps,k⟩:=(hJ _ _).1 j0
   rw[k.gc] at g2;cases g2
   have:=k.yb _ hb;omega
 ·rcases hu with hJ7|hFa
  ·obtain⟨y,Ps,k⟩:=(hJ _ _).1 hJ7
   refine⟨r0,k.gl,by rw[hrs];simp,?_⟩
   rw[hrp]
   have s7:=k.f.o.1
   have lt7:=s7.wf _ _ k.gl
   have s8:h.Sub (h7.set (h1.next+1) (.loop {r0 with st:=.exhausted})):=s7.set (by omega) lt7 hw _
   have K8:Keeps (fun c=>c=h1.next+1) h7 (h7.set (h1.next+1) (.loop {r0 with st:=.exhausted})):=Keeps.set _ _ _
   have d8:=K8.2 _ _ k.gd (by omega)
   have e8:=K8.2 _ _ k.gc (by omega)
   rw[hrp] at s8 K8 d8 e8
   generalize h7.set (h1.next+1) _=h8 at s8 K8 d8 e8⊢
   have y1:=k.f.o.one
   simp -implicitDefEqProofs(maxSteps:=999999)(disch:=first|with_reducible rfl|omega|(simp only[nA,nS,nD]<;>omega)|fail)only[go_sem,t2,cells_of e8,Kfin_ret1 _ _ _ d8]
   have s9:h.Sub (h8.del h1.next):=H.Sub.del s8 (by omega) hw
   have K9:Keeps (fun c=>c=h1.next+1∨c=h1.next) h7 (h8.del h1.next):=⟨by rw[H.next_del];exact K8.1,fun b w g nb=>by rw[get_del_other fun e=>nb (.inr e)];exact K8.2 _ _ g fun e=>nb (.inl e)⟩
   refine q _ Ps _ ⟨k.f.o.keep K9 s9 fun b hb e=>by have:=k.yb b hb;omega,fun p hp=>(k.f.e p hp).keep K9 s9 fun b hb e=>by have:=(k.dj p hp b hb).2;omega,k.f.l⟩ ?_
   rw[k.ps,List.take_of_length_le (Nat.le_refl _)]
  ·exact hFa.elim
set_option maxHeartbeats 1000000 in
theorem collect_ev {h:H}(hw:h.wf){d:Nat}{a:At}{C R G f W:V}{ms:List Nat}(dk:Dk h d a C R G f W ms)(r:Right a){cnt:Nat→Bool}(hcnt:∀i,i<a.rds.length→PureA h f [.int .i64 (i:Int)] (.bool (cnt i)))
  {b1:Nat} (g1:h.get b1=some (.cells .rw [.ptr d 0])) (Q:V→H→Prop) (q:∀y Ps h',FsO h h' y Ps→Ps.map Prod.snd=casesL a cnt→Q y h'):
  Ev fnG fastA (.fn 50 [] []) [.fn 74 [] [.ptr b1 0]] h Q:=by
 refine Ev_body (fd:=c50) rfl rfl rfl ?_
 simp -implicitDefEqProofs(maxSteps:=999999)(disch:=first|with_reducible rfl|omega|(simp only[nA,nS,nD]<;>omega)|fail)only[c50,go_sem]
 refine appendSeq_ev hw dk r hcnt g1 _ fun y Ps h' f e=>?_
 simp -implicitDefEqProofs(maxSteps:=999999)(disch:=first|with_reducible rfl|omega|(simp only[nA,nS,nD]<;>omega)|fail)only[go_sem]
 exact q y Ps h' f e
end Go.Ab.Try
namespace Go.Ab.Try
open Go.Proofs
abbrev allF:V:=.fn 68 [] []
theorem allF_pure {h:H}(hw:h.wf)(i:Int):PureA h allF [.int .i64 i] (.bool true):=by
 intro h' s
 refine Ev_body (fd:=c68) rfl rfl rfl ?_
 simp -implicitDefEqProofs(maxSteps:=999999)(disch:=first|with_reducible rfl|omega|(simp only[nA,nS,nD]<;>omega)|fail)only[c68,go_sem]
 exact H.Sub.refl s.wf
set_option maxHeartbeats 2000000 in
theorem told_ev {h:H}(hw:h.wf){a:At}{C R G:V}(x:AtAt h C R G a)(bad:Bool)(Q:V→H→Prop)
  (q1:∀h',h.Sub h'→checkA a≠0→Q (.tup [.nilp,.nils,.int .i64 (checkA a)]) h')
  (q2:∀h',h.Sub h'→Right a→bad=true→Q (.tup [.nilp,.nils,.int .i64 1]) h')
  (q3:∀h',h.Sub h'→Right a→bad=false→casesL a (fun _=>true)=[]→Q (.tup [.nilp,.nils,.int .i64 7]) h')
  (q4:∀h' v y Ps,FsO h h' y Ps→Right a→bad=false→Ps.map Prod.snd=casesL a (fun _=>true)→Ps≠[]→Q (.tup [v,y,.int .i64 0]) h'):
  Ev fnG fastA (.fn 32 [] []) [.agg (atV a C R G),.bool bad] h Q:=by
 have oC:=x.c.one;have oR:=x.r.one;have oG:=x.g.one
 have cs:∀hh Q,Ev fnG fastA (.fn 41 [] []) [] hh Q=Q (.agg [allF]) (hh.add (.cells .rw [allF])):=fun hh Q=>by
  refine Ev.det (Ev_body (fd:=c41) rfl rfl rfl ?_) Q
  simp -implicitDefEqProofs(maxSteps:=999999)(disch:=first|with_reducible rfl|omega|(simp only[nA,nS,nD]<;>omega)|fail)only[c41,go_sem]
 have cd:∀hh p Q,Ev fnG fastA (.fn 51 [] []) [.ptr p 0] hh Q=Q (.fn 74 [] [.ptr hh.next 0]) (hh.add (.cells .rw [.ptr p 0])):=fun hh p Q=>by
  refine Ev.det (Ev_body (fd:=c51) rfl rfl rfl ?_) Q
  simp -implicitDefEqProofs(maxSteps:=999999)(disch:=first|with_reducible rfl|omega|(simp only[nA,nS,nD]<;>omega)|fail)only[c51,go_sem]
 refine Ev_body (fd:=c32) rfl rfl rfl ?_
 simp -implicitDefEqProofs(maxSteps:=999999)(disch:=first|with_reducible rfl|omega|(simp only[nA,nS,nD]<;>omega)|fail)only[c32,go_sem]
 have s1:h.Sub (h.add (.cells .rw (atV a C R G))):=(H.Sub.refl hw).add _
 have g1:(h.add (.cells .rw (atV a C R G))).get h.next=some (.cells .rw (atV a C R G)):=get_add_new rfl
 refine check_ev s1.wf ⟨C,R,G,rfl,x.mono s1⟩ _ fun h2 s2=>?_
 have gg:=s2.get g1
 have s12:=s1.trans s2
 generalize h.add (.cells .rw (atV a C R G))=h1 at s1 g1 s2 gg s12
 by_cases he:checkA a=0
 case neg=>
  simp -implicitDefEqProofs(maxSteps:=999999)(disch:=first|with_reducible rfl|omega|(simp only[nA,nS,nD]<;>omega)|fail)only[go_sem,(decide_eq_true he:decide (checkA a≠0)=true)]
  exact q1 _ s12 he
 have r:=checkA_iff.1 he
 rw[he]
 have d0:decide ((0:Int)≠0)=false:=rfl
 cases bad with
 |true=>
  simp -implicitDefEqProofs(maxSteps:=999999)(disch:=first|with_reducible rfl|omega|(simp only[nA,nS,nD]<;>omega)|fail)only[go_sem,d0]
  exact q2 _ s12 r rfl
 |false=>
  simp -implicitDefEqProofs(maxSteps:=999999)(disch:=first|with_reducible rfl|omega|(simp only[nA,nS,nD]<;>omega)|fail)only[go_sem,d0,Bool.false_eq_true,cells_of gg,cs]
  have sA:=(H.Sub.refl s12.wf).add (.cells .rw [allF])
  generalize h2.add (.cells .rw [allF])=hA at sA⊢
  refine worked_ev sA.wf (x.mono (s12.trans sA)) r rfl _ fun d W ms h3 s3 _ dk=>?_
  have s23:=sA.trans s3
  have sB:=(H.Sub.refl s3.wf).add (.cells .rw [.ptr d 0])
  have gB:(h3.add (.cells .rw [.ptr d 0])).get h3.next=some (.cells .rw [.ptr d 0]):=get_add_new rfl
  simp -implicitDefEqProofs(maxSteps:=999999)(disch:=first|with_reducible rfl|omega|(simp only[nA,nS,nD]<;>omega)|fail)only[go_sem,cells_of gg,cells_of (sA.get gg),cells_of (s23.get gg),cd]
  generalize h3.add (.cells .rw [.ptr d 0])=hB at sB gB⊢
  refine collect_ev sB.wf (dk.mono sB) r (cnt:=fun _=>true) (fun i _=>allF_pure sB.wf i) gB _ fun y Ps h4 f e=>?_
  have hPl:Ps.length≤15625:=by have:=casesL_len r (fun _=>true);rw[←e,List.length_map] at this;exact this
  have hlen:=(f.o.sl (by rw[List.length_map];omega)).lenE
  have s4:=(s12.trans s23).trans (sB.trans f.o.1)
  by_cases hn:Ps=[]
  ·have hz:((Ps.length:Int)=0):=by rw[hn];rfl
   simp -implicitDefEqProofs(maxSteps:=999999)(disch:=first|with_reducible rfl|omega|(simp only[nA,nS,nD]<;>omega)|fail)only[go_sem,hlen,hz]
   exact q3 _ s4 r rfl (by rw[←e,hn];rfl)
  ·have hz:¬((Ps.length:Int)=0):=fun q=>hn (List.length_eq_zero_iff.1 (by omega))
   simp -implicitDefEqProofs(maxSteps:=999999)(disch:=first|with_reducible rfl|omega|(simp only[nA,nS,nD]<;>omega)|fail)only[go_sem,hlen,hz]
   exact q4 _ _ y Ps ⟨f.o.base (s12.trans (s23.trans sB)),fun p hp=>(f.e p hp).base (s12.trans (s23.trans sB)),f.l⟩ r rfl e hn
end Go.Ab.Try
namespace Go.Ab.Try
open Go.Proofs
def betw (f t:Nat):List (List Int)→Int × Int
 |[]=>(0,0)
 |L::l=>(L::l).foldl (fun s M=>(min s.1 (-(mg M t f)),max s.2 (mg M f t))) (-(mg L t f),mg L f t)
theorem row_at {p:Fd}(lp:p.2.2.length=25){f t:Nat}(hf:f<5)(ht:t<5):nth (1+f*5+t*1) (rowF p)=some (.int .i64 (mg p.2.2 f t)):=by
 rw[show 1+f*5+t*1=(f*5+t*1)+1 by omega]
 exact nth_mg lp hf ht
set_option maxHeartbeats 4000000 in
theorem between_ev {h:H}(hw:h.wf){y:V}{Ps:List Fd}(x:SlAt h y 26 (Ps.map rowF))(hl:∀p∈Ps,In5 240 p.2.2)(hone:∀F,(∃p∈Ps,rowF p=F)→allOne F=true)(hne:Ps≠[]){f t:Nat}(hf:f<5)(ht:t<5)(Q:V→H→Prop)
  (q:∀h',h.Sub h'→Q (spV (betw f t (Ps.map fun p=>p.2.2))) h'):Ev fnG fastA (.fn 34 [] []) [y,.int .i64 (f:Int),.int .i64 (t:Int)] h Q:=by
 have hP:0<Ps.length:=List.length_pos_iff.2 hne
 have hlen:=x.lenE
 have hbd:=x.boundE
 obtain⟨p0,Ps',hP0⟩:∃p0 Ps',Ps=p0::Ps':=by cases Ps with
  |nil=>exact absurd rfl hne
  |cons p0 Ps'=>exact⟨p0,Ps',rfl⟩
 obtain⟨b,o,cc,cs,e,hc,hq,hg,hn,hn0⟩:=x.at hP
 have hp0:Ps[0]=p0:=by simp[hP0]
 rw[hp0] at hn
 have in0:=hl p0 (by rw[hP0];exact List.mem_cons_self ..)
 have row0:∀f t:Nat,f<5→t<5→nth (o+1+f*5+t*1) cs=some (.int .i64 (mg p0.2.2 f t)):=fun f t hf ht=>by
  rw[show o+1+f*5+t*1=o+0*26+(1+f*5+t*1) by omega,hn _ (by omega)]
  rw[←nth_eq];exact row_at in0.len hf ht
 subst e
 have s1:h.Sub (h.add (.cells .rw [.int .i64 0,.int .i64 0])):=(H.Sub.refl hw).add _
 have b0:=in0.lo t f ht hf
 have b1:=in0.hi t f ht hf
 have b2:=in0.lo f t hf ht
 have b3:=in0.hi f t hf ht
 have w0:wr .i64 (0-mg p0.2.2 t f)= -(mg p0.2.2 t f):=by rw[wr_in (by omega) (by omega)];omega
 have s2:h.Sub ((h.add (.cells .rw [.int .i64 0,.int .i64 0])).add (.cells .rw [.int .i64 0,.int .i64 0])):=s1.add _
 obtain⟨bw,hbw⟩:∃bw:Nat→Int × Int,∀i,bw i=((Ps.map fun p=>p.2.2).take i).foldl (fun s M=>(min s.1 (-(mg M t f)),max s.2 (mg M f t))) (-(mg p0.2.2 t f),mg p0.2.2 f t):=⟨_,fun _=>rfl⟩
 have hb0:bw 0=(-(mg p0.2.2 t f),mg p0.2.2 f t):=by rw[hbw];rfl
 have hbn:bw Ps.length=betw f t (Ps.map fun p=>p.2.2):=by
  rw[hbw,List.take_of_length_le (by rw[List.length_map];exact Nat.le_refl _),hP0];rfl
 refine Ev_body (fd:=c34) rfl rfl rfl ?_
 simp -implicitDefEqProofs(maxSteps:=999999)(disch:=first|with_reducible rfl|omega|(simp only[nA,nS,nD]<;>omega)|fail)only[c34,go_sem,hq (nat_num 0),s1.cells hc,s2.cells hc,iaa5 5 _ _ hf,iaa5 5 _ _ ht,iaa5 1 _ _ hf,iaa5 1 _ _ ht,row0 f t hf ht,row0 t f ht hf,w0,hlen]
 refine W_count Ps.length (fun i s=>∃tm h',s=⟨tm,h',[]⟩∧h.Sub h'∧h.next+1<h'.next∧h'.get h.next=some (.cells .rw [.int .i64 0,.int .i64 0])∧h'.get (h.next+1)=some (.cells .rw [.int .i64 (bw i).1,.int .i64 (bw i).2])∧
   (Opd.t 1).ev tm=.int .i64 (f:Int)∧(Opd.t 2).ev tm=.int .i64 (t:Int)∧(Opd.t 6).ev tm=.ptr h.next 0∧(Opd.t 7).ev tm=.ptr (h.next+1) 0∧(Opd.t 28).ev tm=.sl b o Ps.length cc∧(Opd.t 29).ev tm=.int .i64 (Ps.length:Int)∧(Opd.t 30).ev tm=.int .i64 (i:Int)) ?_ ?_ (i:=0) (Nat.zero_le _)
  ⟨_,_,rfl,(by repeat(first|assumption|exact H.Sub.refl (by assumption)|refine H.Sub.add ?_ _|refine H.Sub.set ?_ (by first|omega|(simp only[H.next_add,H.next_set,H.next_del]<;>omega)) (by first|omega|(simp only[H.next_add,H.next_set,H.next_del]<;>omega)) (by assumption) _)),by simp only[H.next_add];omega,by simp -implicitDefEqProofs(maxSteps:=999999)(disch:=first|with_reducible rfl|omega|(simp only[nA,nS,nD]<;>omega)|fail)only[go_sem],by rw[hb0];simp -implicitDefEqProofs(maxSteps:=999999)(disch:=first|with_reducible rfl|omega|(simp only[nA,nS,nD]<;>omega)|fail)only[go_sem],(by simp[ev_c,ev_put]<;>rfl),(by simp[ev_c,ev_put]<;>rfl),(by simp[ev_c,ev_put]<;>rfl),(by simp[ev_c,ev_put]<;>rfl),(by simp[ev_c,ev_put]<;>rfl),(by simp[ev_c,ev_put]<;>rfl),(by simp[ev_c,ev_put]<;>rfl)⟩
 ·rintro i s hi ⟨tm,h1,rfl,sh,nx,g6,g7,e1,e2,e6,e7,e28,e29,e30⟩
  have hi':(i:Int)<(Ps.length:Int):=by omega
  have hw1:=sh.wf
  obtain⟨b',o',cc',cs',e',hc',hq',hg',_,_⟩:=(x.mono sh).at hi
  cases e'
  obtain⟨p,hp⟩:∃p,Ps[i]=p:=⟨_,rfl⟩
  rw[hp] at hg'
  have hmem:p∈Ps:=by rw[←hp];exact List.getElem_mem hi
  have inp:=hl p hmem
  obtain⟨F,hF⟩:∃F,rowF p=F:=⟨_,rfl⟩
  have lF:F.length=26:=by rw[←hF];simp[rowF,inp.len]
  have oF:allOne F=true:=hone F ⟨p,hmem,hF⟩
  have nF:F≠[]:=by intro e0;rw[e0] at lF;cases lF
  have r1:nth (1+t*5+f*1) F=some (.int .i64 (mg p.2.2 t f)):=by rw[←hF];exact row_at inp.len ht hf
  have r2:nth (1+f*5+t*1) F=some (.int .i64 (mg p.2.2 f t)):=by rw[←hF];exact row_at inp.len hf ht
  rw[hF] at hg'
  have lnF:lenN F=26:=by rw[lenN_eq,lF]
  have pF:(h1.add (.cells .rw [.nils,.int .i64 0,.int .i64 0,.int .i64 0,.int .i64 0,.int .i64 0,.int .i64 0,.int .i64 0,.int .i64 0,.int .i64 0,.int .i64 0,.int .i64 0,.int .i64 0,.int .i64 0,.int .i64 0,.int .i64 0,.int .i64 0,.int .i64 0,.int .i64 0,.int .i64 0,.int .i64 0,.int .i64 0,.int .i64 0,.int .i64 0,.int .i64 0,.int .i64 0])).put h1.next 0 F=some ((h1.add (.cells .rw [.nils,.int .i64 0,.int .i64 0,.int .i64 0,.int .i64 0,.int .i64 0,.int .i64 0,.int .i64 0,.int .i64 0,.int .i64 0,.int .i64 0,.int .i64 0,.int .i64 0,.int .i64 0,.int .i64 0,.int .i64 0,.int .i64 0,.int .i64 0,.int .i64 0,.int .i64 0,.int .i64 0,.int .i64 0,.int .i64 0,.int .i64 0,.int .i64 0,.int .i64 0])).set h1.next (.cells .rw F)):=put_full (get_add_new rfl) (by rw[lF];rfl) nF oF
  have sA:=(H.Sub.refl hw1).add (.cells .rw F)
  have gA:(h1.add (.cells .rw F)).get h1.next=some (.cells .rw F):=get_add_new rfl
  have v0:=inp.lo t f ht hf
  have v1:=inp.hi t f ht hf
  have w1:wr .i64 (0-mg p.2.2 t f)= -(mg p.2.2 t f):=by rw[wr_in (by omega) (by omega)];omega
  have hstep:bw (i+1)=(min (bw i).1 (-(mg p.2.2 t f)),max (bw i).2 (mg p.2.2 f t)):=by
   rw[hbw,hbw,List.take_add_one,List.getElem?_map,List.getElem?_eq_getElem hi,hp,Option.map_some,Option.toList_some,List.foldl_append];rfl
  obtain⟨hA,hhA⟩:∃hA,h1.add (.cells .rw F)=hA:=⟨_,rfl⟩
  rw[hhA] at sA gA
  simp -implicitDefEqProofs(maxSteps:=999999)(disch:=first|with_reducible rfl|omega|(simp only[nA,nS,nD]<;>omega)|fail)only[go_sem,e1,e2,e6,e7,e28,e29,e30,hi',hq' (nat_cst i),hc',hg',lnF,pF,hhA,cells_of (sA.get g7),cells_of gA,iaa5 5 _ _ hf,iaa5 5 _ _ ht,iaa5 1 _ _ hf,iaa5 1 _ _ ht,r1,r2,w1]
  have sB:=(H.Sub.refl sA.wf).add (.cells .rw [.int .i64 (-mg p.2.2 t f)])
  refine least1_ev sA.wf _ _ _ fun h2 s2'=>?_
  have s12:=sA.trans s2'
  have n2:=s12.next
  simp -implicitDefEqProofs(maxSteps:=999999)(disch:=first|with_reducible rfl|omega|(simp only[nA,nS,nD]<;>omega)|fail)only[go_sem,e1,e2,e6,e7,e28,e29,e30,cells_of (sA.get g7),cells_of gA,cells_of (sB.get (sA.get g7)),cells_of (sB.get gA),cells_of (s12.get g7),cells_of (s2'.get gA),s12.get g7,iaa5 5 _ _ hf,iaa5 5 _ _ ht,iaa5 1 _ _ hf,iaa5 1 _ _ ht,r1,r2,w1,wr_succ]
  refine⟨_,_,rfl,(sh.trans s12).set (by omega) (by omega) hw _,by rw[H.next_set];omega,by rw[get_set_other (by omega)];exact s12.get g6,by rw[get_set_same rfl,hstep],(by simp[ev_c,ev_put,e1]<;>rfl),(by simp[ev_c,ev_put,e2]<;>rfl),(by simp[ev_c,ev_put,e6]<;>rfl),(by simp[ev_c,ev_put,e7]<;>rfl),(by simp[ev_c,ev_put,e28]<;>rfl),(by simp[ev_c,ev_put,e29]<;>rfl),(by simp[ev_c,ev_put]<;>rfl)⟩
 ·rintro s ⟨tm,h1,rfl,sh,nx,g6,g7,e1,e2,e6,e7,e28,e29,e30⟩
  have hi':¬((Ps.length:Int)<(Ps.length:Int)):=by omega
  simp -implicitDefEqProofs(maxSteps:=999999)(disch:=first|with_reducible rfl|omega|(simp only[nA,nS,nD]<;>omega)|fail)only[go_sem,e1,e2,e6,e7,e28,e29,e30,hi',cells_of g6,cells_of g7,g6,g7]
  rw[hbn]
  exact q _ (sh.set (Nat.le_refl _) (by omega) hw _)
end Go.Ab.Try
namespace Go.Ab.Try
open Go.Proofs
abbrev allC (a:At):List (Runs × List Int):=casesL a (fun _=>true)
def evW (a:At)(n:Int):Bool:=inB n 0 (wr .i64 (a.evs-1))
theorem evW_right {a:At}(r:Right a)(n:Int):evW a n=a.evB n:=by
 have:=r.evs
 unfold evW At.evB
 rw[wr_in (by omega) (by omega)]
theorem event_any {h:H}(hw:h.wf){C R G:V}(a:At)(n:Int)(Q:V→H→Prop)(q:∀h',h.Sub h'→Q (.bool (evW a n)) h'):Ev fnG fastA (.fn 33 [] []) [.agg (atV a C R G),.int .i64 n] h Q:=by
 refine Ev_body (fd:=c33) rfl rfl rfl ?_
 have s:h.Sub (h.add (.cells .rw (atV a C R G))):=(by repeat(first|assumption|exact H.Sub.refl (by assumption)|refine H.Sub.add ?_ _|refine H.Sub.set ?_ (by first|omega|(simp only[H.next_add,H.next_set,H.next_del]<;>omega)) (by first|omega|(simp only[H.next_add,H.next_set,H.next_del]<;>omega)) (by assumption) _))
 simp -implicitDefEqProofs(maxSteps:=999999)(disch:=first|with_reducible rfl|omega|(simp only[nA,nS,nD]<;>omega)|fail)only[c33,go_sem,in_eq]
 exact q _ s
def errT (a:At)(bad:Bool):Int:=if checkA a≠0 then checkA a else if bad=true then 1 else if allC a=[] then 7 else 0
def timeR (a:At)(e:Int):(Int × Int) × Int:=if errT a (!a.evB e)≠0 then((0,0),errT a (!a.evB e)) else(betw 4 e.toNat ((allC a).map Prod.snd),0)
def btwR (a:At)(f t:Int):(Int × Int) × Int:=if errT a (!a.evB f|| !a.evB t)≠0 then((0,0),errT a (!a.evB f|| !a.evB t)) else(betw f.toNat t.toNat ((allC a).map Prod.snd),0)
theorem errT_bad {a:At}{b b':Bool}(h:Right a→b=b'):errT a b=errT a b':=by
 unfold errT
 by_cases hc:checkA a=0
 ·rw[h (checkA_iff.1 hc)]
 ·rw[if_pos hc,if_pos hc]
theorem evB_nat {a:At}(r:Right a){n:Int}(h:a.evB n=true):∃k:Nat,n=k∧k<4:=by
 have:=r.evs
 simp only[At.evB,inB_iff] at h
 exact⟨n.toNat,by omega,by omega⟩
theorem told_ev2 {h:H}(hw:h.wf){a:At}{C R G:V}(x:AtAt h C R G a)(bad:Bool)(Q:V→H→Prop)
  (q1:∀h',h.Sub h'→errT a bad≠0→Q (.tup [.nilp,.nils,.int .i64 (errT a bad)]) h')
  (q2:∀h' v y Ps,h.Sub h'→SlAt h' y 26 (Ps.map rowF)→(∀p∈Ps,In5 240 p.2.2)→(∀F,(∃p∈Ps,rowF p=F)→allOne F=true)→Ps≠[]→Right a→bad=false→errT a bad=0→Ps.map Prod.snd=allC a→FsO h h' y Ps→Q (.tup [v,y,.int .i64 0]) h'):
  Ev fnG fastA (.fn 32 [] []) [.agg (atV a C R G),.bool bad] h Q:=by
 refine told_ev hw x bad _ (fun h' s he=>?_) (fun h' s r hb=>?_) (fun h' s r hb hn=>?_) (fun h' v y Ps f r hb e hn=>?_)
 ·have e1:errT a bad=checkA a:=if_pos he
  rw[←e1];exact q1 _ s (by rw[e1];exact he)
 ·have e1:errT a bad=1:=by unfold errT;rw[if_neg (by rw[checkA_iff.2 r];simp),if_pos hb]
  have:=q1 _ s (by rw[e1];decide)
  rwa[e1] at this
 ·have e1:errT a bad=7:=by unfold errT;rw[if_neg (by rw[checkA_iff.2 r];simp),if_neg (by rw[hb];simp),if_pos hn]
  have:=q1 _ s (by rw[e1];decide)
  rwa[e1] at this
 ·have hne:allC a≠[]:=fun hc=>hn (List.map_eq_nil_iff.1 (e.trans hc))
  have e1:errT a bad=0:=by unfold errT;rw[if_neg (by rw[checkA_iff.2 r];simp),if_neg (by rw[hb];simp),if_neg hne]
  have hPl:Ps.length≤15625:=by have:=casesL_len r (fun _=>true);rw[←e,List.length_map] at this;exact this
  refine q2 _ v y Ps f.o.1 (f.o.sl (by rw[List.length_map];omega)) (fun p hp=>casesL_in r p.2 (by rw[←e];exact List.mem_map_of_mem hp)) (fun F ⟨p,hp,hF⟩=>?_) hn r hb e1 e f
  rw[←hF,rowF,allOne_cons,(f.e p hp).one,allOne_iv];rfl
set_option maxHeartbeats 1000000 in
theorem time_ev {h:H}(hw:h.wf){a:At}{C R G:V}(x:AtAt h C R G a)(e:Int)(Q:V→H→Prop)
  (q:∀h',h.Sub h'→Q (.tup [spV (timeR a e).1,.int .i64 (timeR a e).2]) h'):Ev fnG fastA (.fn 19 [] []) [.agg (atV a C R G),.int .i64 e] h Q:=by
 have oC:=x.c.one;have oR:=x.r.one;have oG:=x.g.one
 have heq:errT a (!evW a e)=errT a (!a.evB e):=errT_bad fun r=>by rw[evW_right r]
 refine Ev_body (fd:=c19) rfl rfl rfl ?_
 simp -implicitDefEqProofs(maxSteps:=999999)(disch:=first|with_reducible rfl|omega|(simp only[nA,nS,nD]<;>omega)|fail)only[c19,go_sem]
 have s2:h.Sub ((h.add (.cells .rw (atV a C R G))).add (.cells .rw [.int .i64 0,.int .i64 0])):=(by repeat(first|assumption|exact H.Sub.refl (by assumption)|refine H.Sub.add ?_ _|refine H.Sub.set ?_ (by first|omega|(simp only[H.next_add,H.next_set,H.next_del]<;>omega)) (by first|omega|(simp only[H.next_add,H.next_set,H.next_del]<;>omega)) (by assumption) _))
 have ga:((h.add (.cells .rw (atV a C R G))).add (.cells .rw [.int .i64 0,.int .i64 0])).get h.next=some (.cells .rw (atV a C R G)):=by simp -implicitDefEqProofs(maxSteps:=999999)(disch:=first|with_reducible rfl|omega|(simp only[nA,nS,nD]<;>omega)|fail)only[go_sem]
 have g4:((h.add (.cells .rw (atV a C R G))).add (.cells .rw [.int .i64 0,.int .i64 0])).get (h.next+1)=some (.cells .rw [.int .i64 0,.int .i64 0]):=by simp -implicitDefEqProofs(maxSteps:=999999)(disch:=first|with_reducible rfl|omega|(simp only[nA,nS,nD]<;>omega)|fail)only[go_sem]
 have n2:((h.add (.cells .rw (atV a C R G))).add (.cells .rw [.int .i64 0,.int .i64 0])).next=h.next+2:=by simp only[H.next_add]
 generalize(h.add (.cells .rw (atV a C R G))).add (.cells .rw [.int .i64 0,.int .i64 0])=h2 at s2 ga g4 n2⊢
 refine event_any s2.wf a e _ fun h3 s3=>?_
 simp -implicitDefEqProofs(maxSteps:=999999)(disch:=first|with_reducible rfl|omega|(simp only[nA,nS,nD]<;>omega)|fail)only[go_sem,cells_of ga,cells_of (s3.get ga)]
 have d0:decide ((0:Int)≠0)=false:=rfl
 refine told_ev2 s3.wf (x.mono (s2.trans s3)) (!evW a e) _ (fun h4 s4 he=>?_) fun h4 v y Ps s4 hx hl ho hne r hb he e' _=>?_
 ·have sx:=s3.trans s4
  have l4:=sx.next
  simp -implicitDefEqProofs(maxSteps:=999999)(disch:=first|with_reducible rfl|omega|(simp only[nA,nS,nD]<;>omega)|fail)only[go_sem,cells_of ga,cells_of (s3.get ga),cells_of (sx.get ga),(decide_eq_true he:decide (errT a (!evW a e)≠0)=true),sx.get g4,get_set_same]
  rw[heq] at he⊢
  have:=q _ ((s2.trans sx).set (b:=h.next+1) (by omega) (by omega) hw (.cells .rw [.int .i64 0,.int .i64 0]))
  rwa[timeR,if_pos he] at this
 ·have sx:=s3.trans s4
  have l4:=sx.next
  have hev:a.evB e=true:=by rw[←evW_right r];simpa using hb
  obtain⟨k,rfl,hk⟩:=evB_nat r hev
  simp -implicitDefEqProofs(maxSteps:=999999)(disch:=first|with_reducible rfl|omega|(simp only[nA,nS,nD]<;>omega)|fail)only[go_sem,cells_of ga,cells_of (s3.get ga),cells_of (sx.get ga),d0]
  refine between_ev s4.wf hx hl ho hne (f:=4) (t:=k) (by decide) (by omega) _ fun h5 s5=>?_
  have sy:=sx.trans s5
  have l5:=sy.next
  simp -implicitDefEqProofs(maxSteps:=999999)(disch:=first|with_reducible rfl|omega|(simp only[nA,nS,nD]<;>omega)|fail)only[go_sem,sy.get g4,get_set_same]
  have:=q _ ((s2.trans sy).set (b:=h.next+1) (by omega) (by omega) hw (.cells .rw [.int .i64 (timeR a k).1.1,.int .i64 (timeR a k).1.2]))
  rw[heq] at he
  have ht:timeR a k=(betw 4 k (Ps.map fun p=>p.2.2),0):=by
   rw[timeR,if_neg (by rw[he];simp),Int.toNat_natCast,←e',List.map_map];rfl
  rw[ht] at this
  exact this
set_option maxHeartbeats 2000000 in
theorem btw_ev {h:H}(hw:h.wf){a:At}{C R G:V}(x:AtAt h C R G a)(f t:Int)(Q:V→H→Prop)
  (q:∀h',h.Sub h'→Q (.tup [spV (btwR a f t).1,.int .i64 (btwR a f t).2]) h'):Ev fnG fastA (.fn 14 [] []) [.agg (atV a C R G),.int .i64 f,.int .i64 t] h Q:=by
 have oC:=x.c.one;have oR:=x.r.one;have oG:=x.g.one
 have heq:errT a (!evW a f|| !evW a t)=errT a (!a.evB f|| !a.evB t):=errT_bad fun r=>by rw[evW_right r,evW_right r]
 refine Ev_body (fd:=c14) rfl rfl rfl ?_
 simp -implicitDefEqProofs(maxSteps:=999999)(disch:=first|with_reducible rfl|omega|(simp only[nA,nS,nD]<;>omega)|fail)only[c14,go_sem]
 have s2:h.Sub ((h.add (.cells .rw (atV a C R G))).add (.cells .rw [.int .i64 0,.int .i64 0])):=(by repeat(first|assumption|exact H.Sub.refl (by assumption)|refine H.Sub.add ?_ _|refine H.Sub.set ?_ (by first|omega|(simp only[H.next_add,H.next_set,H.next_del]<;>omega)) (by first|omega|(simp only[H.next_add,H.next_set,H.next_del]<;>omega)) (by assumption) _))
 have ga:((h.add (.cells .rw (atV a C R G))).add (.cells .rw [.int .i64 0,.int .i64 0])).get h.next=some (.cells .rw (atV a C R G)):=by simp -implicitDefEqProofs(maxSteps:=999999)(disch:=first|with_reducible rfl|omega|(simp only[nA,nS,nD]<;>omega)|fail)only[go_sem]
 have g4:((h.add (.cells .rw (atV a C R G))).add (.cells .rw [.int .i64 0,.int .i64 0])).get (h.next+1)=some (.cells .rw [.int .i64 0,.int .i64 0]):=by simp -implicitDefEqProofs(maxSteps:=999999)(disch:=first|with_reducible rfl|omega|(simp only[nA,nS,nD]<;>omega)|fail)only[go_sem]
 have n2:((h.add (.cells .rw (atV a C R G))).add (.cells .rw [.int .i64 0,.int .i64 0])).next=h.next+2:=by simp only[H.next_add]
 generalize(h.add (.cells .rw (atV a C R G))).add (.cells .rw [.int .i64 0,.int .i64 0])=h2 at s2 ga g4 n2⊢
 have d0:decide ((0:Int)≠0)=false:=rfl
 refine event_any s2.wf a f _ fun h3 s3=>?_
 have tail:∀hz:H,h2.Sub hz→∀bad,bad=(!evW a f|| !evW a t)→∀Q2:V→H→Prop,
   (∀h4,hz.Sub h4→errT a bad≠0→btwR a f t=((0,0),errT a bad)→Q2 (.tup [.nilp,.nils,.int .i64 (errT a bad)]) h4)→
   (∀h4 v y,hz.Sub h4→(∀Q3:V→H→Prop,(∀h5,h4.Sub h5→(btwR a f t).2=0→Q3 (spV (btwR a f t).1) h5)→Ev fnG fastA (.fn 34 [] []) [y,.int .i64 f,.int .i64 t] h4 Q3)→Q2 (.tup [v,y,.int .i64 0]) h4)→
   Ev fnG fastA (.fn 32 [] []) [.agg (atV a C R G),.bool bad] hz Q2:=fun hz sz bad hbad Q2 r1 r2=>by
  subst hbad
  refine told_ev2 sz.wf (x.mono (s2.trans sz)) _ _ (fun h4 s4 he=>r1 h4 s4 he ?_) fun h4 v y Ps s4 hx hl ho hne r hb he e' _=>r2 h4 v y s4 fun Q3 q3=>?_
  ·rw[heq] at he⊢;exact if_pos he
  ·rw[evW_right r,evW_right r] at hb
   have h1:a.evB f=true:=by cases hv:a.evB f<;>simp_all
   have h2:a.evB t=true:=by cases hv:a.evB t<;>simp_all
   obtain⟨kf,rfl,hkf⟩:=evB_nat r h1
   obtain⟨kt,rfl,hkt⟩:=evB_nat r h2
   rw[heq] at he
   have ht:btwR a kf kt=(betw kf kt (Ps.map fun p=>p.2.2),0):=by
    rw[btwR,if_neg (by rw[he];simp),Int.toNat_natCast,Int.toNat_natCast,←e',List.map_map];rfl
   rw[ht] at q3
   exact between_ev s4.wf hx hl ho hne (by omega) (by omega) _ fun h5 s5=>q3 h5 s5 rfl
 cases hf:evW a f with
 |false=>
  rw[hf] at tail
  simp -implicitDefEqProofs(maxSteps:=999999)(disch:=first|with_reducible rfl|omega|(simp only[nA,nS,nD]<;>omega)|fail)only[go_sem,cells_of ga,cells_of (s3.get ga)]
  refine tail h3 s3 true rfl _ (fun h4 s4 he hr=>?_) fun h4 v y s4 hbt=>?_
  ·have sx:=s3.trans s4
   have l4:=sx.next
   simp -implicitDefEqProofs(maxSteps:=999999)(disch:=first|with_reducible rfl|omega|(simp only[nA,nS,nD]<;>omega)|fail)only[go_sem,cells_of ga,cells_of (s3.get ga),cells_of (sx.get ga),(decide_eq_true he:decide (errT a true≠0)=true),sx.get g4,get_set_same]
   have:=q _ ((s2.trans sx).set (b:=h.next+1) (by omega) (by omega) hw (.cells .rw [.int .i64 0,.int .i64 0]))
   rwa[hr] at this
  ·have sx:=s3.trans s4
   have l4:=sx.next
   simp -implicitDefEqProofs(maxSteps:=999999)(disch:=first|with_reducible rfl|omega|(simp only[nA,nS,nD]<;>omega)|fail)only[go_sem,cells_of ga,cells_of (s3.get ga),cells_of (sx.get ga),d0]
   refine hbt _ fun h5 s5 e0=>?_
   have sy:=sx.trans s5
   have l5:=sy.next
   simp -implicitDefEqProofs(maxSteps:=999999)(disch:=first|with_reducible rfl|omega|(simp only[nA,nS,nD]<;>omega)|fail)only[go_sem,sy.get g4,get_set_same]
   have:=q _ ((s2.trans sy).set (b:=h.next+1) (by omega) (by omega) hw (.cells .rw [.int .i64 (btwR a f t).1.1,.int .i64 (btwR a f t).1.2]))
   rwa[e0] at this
 |true=>
  rw[hf] at tail
  simp -implicitDefEqProofs(maxSteps:=999999)(disch:=first|with_reducible rfl|omega|(simp only[nA,nS,nD]<;>omega)|fail)only[go_sem,cells_of ga,cells_of (s3.get ga)]
  refine event_any s3.wf a t _ fun h3' s3'=>?_
  have s33:=s3.trans s3'
  obtain⟨bt,hbt0⟩:∃bt,(!evW a t)=bt:=⟨_,rfl⟩
  simp -implicitDefEqProofs(maxSteps:=999999)(disch:=first|with_reducible rfl|omega|(simp only[nA,nS,nD]<;>omega)|fail)only[go_sem,cells_of ga,cells_of (s3.get ga),cells_of (s33.get ga),hbt0]
  refine tail h3' s33 bt (by rw[←hbt0];rfl) _ (fun h4 s4 he hr=>?_) fun h4 v y s4 hbt=>?_
  ·have sx:=s33.trans s4
   have l4:=sx.next
   simp -implicitDefEqProofs(maxSteps:=999999)(disch:=first|with_reducible rfl|omega|(simp only[nA,nS,nD]<;>omega)|fail)only[go_sem,cells_of ga,cells_of (s3.get ga),cells_of (s33.get ga),cells_of (sx.get ga),(decide_eq_true he:decide (errT a bt≠0)=true),sx.get g4,get_set_same]
   have:=q _ ((s2.trans sx).set (b:=h.next+1) (by omega) (by omega) hw (.cells .rw [.int .i64 0,.int .i64 0]))
   rwa[hr] at this
  ·have sx:=s33.trans s4
   have l4:=sx.next
   simp -implicitDefEqProofs(maxSteps:=999999)(disch:=first|with_reducible rfl|omega|(simp only[nA,nS,nD]<;>omega)|fail)only[go_sem,cells_of ga,cells_of (s3.get ga),cells_of (s33.get ga),cells_of (sx.get ga),d0]
   refine hbt _ fun h5 s5 e0=>?_
   have sy:=sx.trans s5
   have l5:=sy.next
   simp -implicitDefEqProofs(maxSteps:=999999)(disch:=first|with_reducible rfl|omega|(simp only[nA,nS,nD]<;>omega)|fail)only[go_sem,sy.get g4,get_set_same]
   have:=q _ ((s2.trans sy).set (b:=h.next+1) (by omega) (by omega) hw (.cells .rw [.int .i64 (btwR a f t).1.1,.int .i64 (btwR a f t).1.2]))
   rwa[e0] at this
def beforeR (a:At)(f t:Int):Int × Int:=if(btwR a f t).2≠0 then(0,(btwR a f t).2) else if 0<(btwR a f t).1.1 then(1,0) else if(btwR a f t).1.2≤0 then(2,0) else(0,0)
set_option maxHeartbeats 1000000 in
theorem before_ev {h:H}(hw:h.wf){a:At}{C R G:V}(x:AtAt h C R G a)(f t:Int)(Q:V→H→Prop)
  (q:∀h',h.Sub h'→Q (.tup [.int .i64 (beforeR a f t).1,.int .i64 (beforeR a f t).2]) h'):Ev fnG fastA (.fn 18 [] []) [.agg (atV a C R G),.int .i64 f,.int .i64 t] h Q:=by
 have oC:=x.c.one;have oR:=x.r.one;have oG:=x.g.one
 refine Ev_body (fd:=c18) rfl rfl rfl ?_
 simp -implicitDefEqProofs(maxSteps:=999999)(disch:=first|with_reducible rfl|omega|(simp only[nA,nS,nD]<;>omega)|fail)only[c18,go_sem]
 have s1:h.Sub (h.add (.cells .rw (atV a C R G))):=(by repeat(first|assumption|exact H.Sub.refl (by assumption)|refine H.Sub.add ?_ _|refine H.Sub.set ?_ (by first|omega|(simp only[H.next_add,H.next_set,H.next_del]<;>omega)) (by first|omega|(simp only[H.next_add,H.next_set,H.next_del]<;>omega)) (by assumption) _))
 generalize h.add (.cells .rw (atV a C R G))=h1 at s1⊢
 refine btw_ev s1.wf (x.mono s1) f t _ fun h2 s2=>?_
 obtain⟨S,hS⟩:∃S,btwR a f t=S:=⟨_,rfl⟩
 obtain⟨⟨lo,hi⟩,er⟩:=S
 have sq:=q
 unfold beforeR at sq
 rw[hS] at sq⊢
 simp only at sq⊢
 have d0:decide ((0:Int)≠0)=false:=rfl
 have s3:=(s1.trans s2).add (.cells .rw [.int .i64 lo,.int .i64 hi])
 by_cases he:er=0
 ·subst he
  simp only[ne_eq,not_true_eq_false, ↓reduceIte] at sq
  by_cases h1:0<lo
  ·rw[if_pos h1] at sq
   simp -implicitDefEqProofs(maxSteps:=999999)(disch:=first|with_reducible rfl|omega|(simp only[nA,nS,nD]<;>omega)|fail)only[go_sem,d0,h1]
   exact sq _ s3
  ·rw[if_neg h1] at sq
   by_cases h2:hi≤0
   ·rw[if_pos h2] at sq
    simp -implicitDefEqProofs(maxSteps:=999999)(disch:=first|with_reducible rfl|omega|(simp only[nA,nS,nD]<;>omega)|fail)only[go_sem,d0,h1,h2]
    exact sq _ s3
   ·rw[if_neg h2] at sq
    simp -implicitDefEqProofs(maxSteps:=999999)(disch:=first|with_reducible rfl|omega|(simp only[nA,nS,nD]<;>omega)|fail)only[go_sem,d0,h1,h2]
    exact sq _ s3
 ·rw[if_pos he] at sq
  simp -implicitDefEqProofs(maxSteps:=999999)(disch:=first|with_reducible rfl|omega|(simp only[nA,nS,nD]<;>omega)|fail)only[go_sem,(decide_eq_true he:decide (er≠0)=true)]
  exact sq _ s3
theorem fold_bd {f t:Nat}(hf:f<5)(ht:t<5):∀{l:List (List Int)} {s:Int × Int},(∀L∈l,In5 240 L)→ -240≤s.1∧s.1≤240∧ -240≤s.2∧s.2≤240→
  -240≤(l.foldl (fun s M=>(min s.1 (-(mg M t f)),max s.2 (mg M f t))) s).1∧(l.foldl (fun s M=>(min s.1 (-(mg M t f)),max s.2 (mg M f t))) s).1≤240∧ -240≤(l.foldl (fun s M=>(min s.1 (-(mg M t f)),max s.2 (mg M f t))) s).2∧(l.foldl (fun s M=>(min s.1 (-(mg M t f)),max s.2 (mg M f t))) s).2≤240
 |[],s,_,h=>h
 |L::l,s,hl,h=>by
  have hL:=hl L (List.mem_cons_self ..)
  have h1:=hL.lo t f ht hf;have h2:=hL.hi t f ht hf;have h3:=hL.lo f t hf ht;have h4:=hL.hi f t hf ht
  rw[List.foldl_cons]
  exact fold_bd hf ht (fun M hM=>hl M (List.mem_cons_of_mem _ hM)) (by show _≤min s.1 (-(mg L t f))∧min s.1 (-(mg L t f))≤_∧_≤max s.2 (mg L f t)∧max s.2 (mg L f t)≤_;omega)
theorem betw_bd {f t:Nat}(hf:f<5)(ht:t<5){l:List (List Int)}(hl:∀L∈l,In5 240 L): -240≤(betw f t l).1∧(betw f t l).1≤240∧ -240≤(betw f t l).2∧(betw f t l).2≤240:=by
 cases l with
 |nil=>show(-240:Int)≤0∧(0:Int)≤240∧(-240:Int)≤0∧(0:Int)≤240;omega
 |cons L l=>
  have hL:=hl L (List.mem_cons_self ..)
  have h1:=hL.lo t f ht hf;have h2:=hL.hi t f ht hf;have h3:=hL.lo f t hf ht;have h4:=hL.hi f t hf ht
  exact fold_bd hf ht hl (by show _≤ -(mg L t f)∧ -(mg L t f)≤_∧_≤mg L f t∧mg L f t≤_;omega)
end Go.Ab.Try
namespace Go.Ab.Try
open Go.Proofs
theorem fold_le {f t:Nat}:∀{l:List (List Int)} {s:Int × Int},(l.foldl (fun s M=>(min s.1 (-(mg M t f)),max s.2 (mg M f t))) s).1≤s.1∧s.2≤(l.foldl (fun s M=>(min s.1 (-(mg M t f)),max s.2 (mg M f t))) s).2∧
  (∀M∈l,(l.foldl (fun s M=>(min s.1 (-(mg M t f)),max s.2 (mg M f t))) s).1≤ -(mg M t f)∧mg M f t≤(l.foldl (fun s M=>(min s.1 (-(mg M t f)),max s.2 (mg M f t))) s).2)
 |[],s=>⟨Int.le_refl _,Int.le_refl _,fun M h=>absurd h List.not_mem_nil⟩
 |L::l,s=>by
  rw[List.foldl_cons]
  obtain⟨h1,h2,h3⟩:=fold_le (f:=f) (t:=t) (l:=l) (s:=(min s.1 (-(mg L t f)),max s.2 (mg L f t)))
  generalize l.foldl (fun s M=>(min s.1 (-(mg M t f)),max s.2 (mg M f t))) (min s.1 (-(mg L t f)),max s.2 (mg L f t))=w at h1 h2 h3⊢
  simp only at h1 h2
  refine⟨by omega,by omega,fun M hM=>?_⟩
  rcases List.mem_cons.1 hM with rfl|hM
  ·omega
  ·exact h3 M hM
theorem fold_ex {f t:Nat}:∀{l:List (List Int)} {s:Int × Int},((l.foldl (fun s M=>(min s.1 (-(mg M t f)),max s.2 (mg M f t))) s).2=s.2∨∃M∈l,(l.foldl (fun s M=>(min s.1 (-(mg M t f)),max s.2 (mg M f t))) s).2=mg M f t)
 |[],s=>.inl rfl
 |L::l,s=>by
  rw[List.foldl_cons]
  rcases fold_ex (f:=f) (t:=t) (l:=l) (s:=(min s.1 (-(mg L t f)),max s.2 (mg L f t))) with h|⟨M,hM,h⟩
  ·rw[h]
   by_cases hc:mg L f t≤s.2
   ·exact .inl (by show max s.2 (mg L f t)=s.2;omega)
   ·exact .inr ⟨L,List.mem_cons_self ..,by show max s.2 (mg L f t)=mg L f t;omega⟩
  ·exact .inr ⟨M,List.mem_cons_of_mem _ hM,h⟩
theorem betw_ge {f t:Nat}{l:List (List Int)}{M:List Int}(h:M∈l):(betw f t l).1≤ -(mg M t f)∧mg M f t≤(betw f t l).2:=by
 cases l with
 |nil=>cases h
 |cons L l=>exact fold_le.2.2 M h
theorem betw_ex {f t:Nat}{l:List (List Int)}(h:l≠[]):∃M∈l,(betw f t l).2=mg M f t:=by
 cases l with
 |nil=>exact absurd rfl h
 |cons L l=>
  rcases fold_ex (f:=f) (t:=t) (l:=L::l) (s:=(-(mg L t f),mg L f t)) with h|h
  ·exact⟨L,List.mem_cons_self ..,h⟩
  ·exact h
theorem fold_dual {f t:Nat}:∀{l:List (List Int)} {s:Int × Int},l.foldl (fun s M=>(min s.1 (-(mg M f t)),max s.2 (mg M t f))) (-s.2, -s.1)=(-(l.foldl (fun s M=>(min s.1 (-(mg M t f)),max s.2 (mg M f t))) s).2, -(l.foldl (fun s M=>(min s.1 (-(mg M t f)),max s.2 (mg M f t))) s).1)
 |[],s=>rfl
 |L::l,s=>by
  rw[List.foldl_cons,List.foldl_cons,←fold_dual (l:=l)]
  congr 1
  exact Prod.ext (by show min (-s.2) (-(mg L f t))= -(max s.2 (mg L f t));omega) (by show max (-s.1) (mg L t f)= -(min s.1 (-(mg L t f)));omega)
theorem betw_dual {f t:Nat}(l:List (List Int)):betw t f l=(-(betw f t l).2, -(betw f t l).1):=by
 cases l with
 |nil=>rfl
 |cons L l=>
  have:=fold_dual (f:=f) (t:=t) (l:=L::l) (s:=(-(mg L t f),mg L f t))
  simp only[Int.neg_neg] at this
  exact this
theorem betw_tru {a:At}(r:Right a){runs:Runs}{y:Nat→Int}(h:Tru a (fun _=>true) runs y){f t:Nat}(hf:f<5)(ht:t<5):allC a≠[]∧(betw f t ((allC a).map Prod.snd)).1≤y t-y f∧y t-y f≤(betw f t ((allC a).map Prod.snd)).2:=by
 obtain⟨L,hL⟩:=cases_full r h
 have hs:=((cases_sound r hL).2.2.2 y h.beg).2 h
 have hb:(betw f t ((allC a).map Prod.snd)).1≤ -(mg L t f)∧mg L f t≤(betw f t ((allC a).map Prod.snd)).2:=betw_ge (f:=f) (t:=t) (List.mem_map_of_mem (f:=Prod.snd) hL)
 have h1:y t-y f≤mg L f t:=hs f t hf ht
 have h2:y f-y t≤mg L t f:=hs t f ht hf
 refine⟨fun e=>List.ne_nil_of_mem hL e,?_,?_⟩
 ·omega
 ·omega
end Go.Ab.Try
namespace Go.Ab
theorem shw_succ (set gain:Int)(i:Nat):shw set gain ((i+1:Nat):Int)=shw set gain i+1+((i:Int)*gain%60+gain)/60∧((i+1:Nat):Int)*gain%60=(((i:Int)*gain%60+gain))%60:=by
 have e:((i+1:Nat):Int)*gain=(i:Int)*gain+gain:=by rw[Int.natCast_add,Int.add_mul];simp
 unfold shw
 rw[e]
 constructor<;>omega
end Go.Ab
namespace Go.Ab.Try
open Go.Proofs
set_option maxHeartbeats 1000000 in
theorem lshows_ev {h:H}(hw:h.wf){set gain m:Int}(r:RunIn set gain)(h0:0≤m)(h1:m≤240)(Q:V→H→Prop)(q:Q (.int .i64 (shw set gain m)) h):
  Ev fnG fastA (.fn 17 [] []) [.int .i64 set,.int .i64 gain,.int .i64 m] h Q:=by
 have a0:=r.s0;have a1:=r.s1;have a2:=r.g0;have a3:=r.g1
 obtain⟨n,rfl⟩:=Int.eq_ofNat_of_zero_le h0
 refine Ev_body (fd:=c17) rfl rfl rfl ?_
 simp -implicitDefEqProofs(maxSteps:=999999)(disch:=first|with_reducible rfl|omega|(simp only[nA,nS,nD]<;>omega)|fail)only[c17,go_sem]
 refine W_count n (fun i s=>∃tm,s=⟨tm,h,[]⟩∧(Opd.t 1).ev tm=.int .i64 gain∧(Opd.t 7).ev tm=.int .i64 (shw set gain i)∧(Opd.t 8).ev tm=.int .i64 ((i:Int)*gain%60)∧(Opd.t 10).ev tm=.int .i64 (n:Int)∧(Opd.t 11).ev tm=.int .i64 (i:Int))
  ?_ ?_ (i:=0) (Nat.zero_le _) ⟨_,rfl,(by simp[ev_c,ev_put]<;>rfl),(by rw[show shw set gain ((0:Nat):Int)=set by simp[shw]];exact(by simp[ev_c,ev_put]<;>rfl)),(by rw[show((0:Nat):Int)*gain%60=0 by simp];exact(by simp[ev_c,ev_put]<;>rfl)),(by simp[ev_c,ev_put]<;>rfl),(by simp[ev_c,ev_put]<;>rfl)⟩
 ·rintro i s hi ⟨tm,rfl,e1,e7,e8,e10,e11⟩
  have hi':(i:Int)<(n:Int):=by omega
  obtain⟨k1,k2⟩:=shw_succ set gain i
  obtain⟨R,hR⟩:∃R,(i:Int)*gain%60=R:=⟨_,rfl⟩
  have hR0:0≤R∧R<60:=by omega
  obtain⟨S,hS⟩:∃S,shw set gain i=S:=⟨_,rfl⟩
  have hS0:=shw_bd (m:=i) r (by omega) (by omega)
  rw[hS] at hS0 e7 k1
  rw[hR] at e8 k1 k2
  have w1:wr .i64 (S+1)=S+1:=wr_in (by omega) (by omega)
  have w2:wr .i64 (R+gain)=R+gain:=wr_in (by omega) (by omega)
  simp -implicitDefEqProofs(maxSteps:=999999)(disch:=first|with_reducible rfl|omega|(simp only[nA,nS,nD]<;>omega)|fail)only[go_sem,e1,e7,e8,e10,e11,hi',w1,w2]
  refine W_count (-((R+gain)/60)).toNat (fun j s=>∃tm,s=⟨tm,h,[]⟩∧(Opd.t 1).ev tm=.int .i64 gain∧(Opd.t 7).ev tm=.int .i64 (S+1-j)∧(Opd.t 8).ev tm=.int .i64 (R+gain+60*j)∧(Opd.t 10).ev tm=.int .i64 (n:Int)∧(Opd.t 11).ev tm=.int .i64 (i:Int))
   ?_ ?_ (i:=0) (Nat.zero_le _) ⟨_,rfl,(by simp[ev_c,ev_put,e1]<;>rfl),(by rw[show S+1-((0:Nat):Int)=S+1 by simp];exact(by simp[ev_c,ev_put]<;>rfl)),(by rw[show R+gain+60*((0:Nat):Int)=R+gain by simp];exact(by simp[ev_c,ev_put]<;>rfl)),(by simp[ev_c,ev_put,e10]<;>rfl),(by simp[ev_c,ev_put,e11]<;>rfl)⟩
  ·rintro j s hj ⟨tm,rfl,e1,e7,e8,e10,e11⟩
   have hlt:R+gain+60*(j:Int)<0:=by omega
   have w3:wr .i64 (S+1-j-1)=S+1-((j+1:Nat):Int):=by rw[wr_in (by omega) (by omega)];omega
   have w4:wr .i64 (R+gain+60*(j:Int)+60)=R+gain+60*((j+1:Nat):Int):=by rw[wr_in (by omega) (by omega)];omega
   simp -implicitDefEqProofs(maxSteps:=999999)(disch:=first|with_reducible rfl|omega|(simp only[nA,nS,nD]<;>omega)|fail)only[go_sem,e1,e7,e8,e10,e11,hlt,w3,w4]
   exact⟨_,rfl,(by simp[ev_c,ev_put,e1]<;>rfl),(by simp[ev_c,ev_put]<;>rfl),(by simp[ev_c,ev_put]<;>rfl),(by simp[ev_c,ev_put,e10]<;>rfl),(by simp[ev_c,ev_put,e11]<;>rfl)⟩
  ·rintro s ⟨tm,rfl,e1,e7,e8,e10,e11⟩
   obtain⟨j,hj⟩:∃j:Nat,(-((R+gain)/60)).toNat=j:=⟨_,rfl⟩
   rw[hj] at e7 e8
   have hlt:¬R+gain+60*(j:Int)<0:=by omega
   simp -implicitDefEqProofs(maxSteps:=999999)(disch:=first|with_reducible rfl|omega|(simp only[nA,nS,nD]<;>omega)|fail)only[go_sem,e1,e7,e8,e10,e11,hlt]
   refine W_count ((R+gain)/60).toNat (fun q s=>∃tm,s=⟨tm,h,[]⟩∧(Opd.t 1).ev tm=.int .i64 gain∧(Opd.t 7).ev tm=.int .i64 (S+1-j+q)∧(Opd.t 8).ev tm=.int .i64 (R+gain+60*j-60*q)∧(Opd.t 10).ev tm=.int .i64 (n:Int)∧(Opd.t 11).ev tm=.int .i64 (i:Int))
    ?_ ?_ (i:=0) (Nat.zero_le _) ⟨_,rfl,(by simp[ev_c,ev_put,e1]<;>rfl),(by rw[show S+1-(j:Int)+((0:Nat):Int)=S+1-j by simp];exact(by simp[ev_c,ev_put,e7]<;>rfl)),(by rw[show R+gain+60*(j:Int)-60*((0:Nat):Int)=R+gain+60*j by simp];exact(by simp[ev_c,ev_put,e8]<;>rfl)),(by simp[ev_c,ev_put,e10]<;>rfl),(by simp[ev_c,ev_put,e11]<;>rfl)⟩
   ·rintro q s hq ⟨tm,rfl,e1,e7,e8,e10,e11⟩
    have hgt:59<R+gain+60*(j:Int)-60*(q:Int):=by omega
    have w3:wr .i64 (S+1-(j:Int)+q+1)=S+1-(j:Int)+((q+1:Nat):Int):=by rw[wr_in (by omega) (by omega)];omega
    have w4:wr .i64 (R+gain+60*(j:Int)-60*q-60)=R+gain+60*(j:Int)-60*((q+1:Nat):Int):=by rw[wr_in (by omega) (by omega)];omega
    simp -implicitDefEqProofs(maxSteps:=999999)(disch:=first|with_reducible rfl|omega|(simp only[nA,nS,nD]<;>omega)|fail)only[go_sem,e1,e7,e8,e10,e11,hgt,w3,w4]
    exact⟨_,rfl,(by simp[ev_c,ev_put,e1]<;>rfl),(by simp[ev_c,ev_put]<;>rfl),(by simp[ev_c,ev_put]<;>rfl),(by simp[ev_c,ev_put,e10]<;>rfl),(by simp[ev_c,ev_put,e11]<;>rfl)⟩
   ·rintro s ⟨tm,rfl,e1,e7,e8,e10,e11⟩
    obtain⟨q,hq⟩:∃q:Nat,((R+gain)/60).toNat=q:=⟨_,rfl⟩
    rw[hq] at e7 e8
    have hgt:¬59<R+gain+60*(j:Int)-60*(q:Int):=by omega
    have x1:S+1-(j:Int)+q=shw set gain ((i+1:Nat):Int):=by rw[k1];omega
    have x2:R+gain+60*(j:Int)-60*q=((i+1:Nat):Int)*gain%60:=by rw[k2];omega
    rw[x1] at e7
    rw[x2] at e8 hgt
    simp -implicitDefEqProofs(maxSteps:=999999)(disch:=first|with_reducible rfl|omega|(simp only[nA,nS,nD]<;>omega)|fail)only[go_sem,e1,e7,e8,e10,e11,hgt,wr_succ]
    exact⟨_,rfl,(by simp[ev_c,ev_put,e1]<;>rfl),(by simp[ev_c,ev_put,e7]<;>rfl),(by simp[ev_c,ev_put,e8]<;>rfl),(by simp[ev_c,ev_put,e10]<;>rfl),(by simp[ev_c,ev_put]<;>rfl)⟩
 ·rintro s ⟨tm,rfl,e1,e7,e8,e10,e11⟩
  simp -implicitDefEqProofs(maxSteps:=999999)(disch:=first|with_reducible rfl|omega|(simp only[nA,nS,nD]<;>omega)|fail)only[go_sem,e1,e7,e8,e10,e11,Int.lt_irrefl]
  exact q
theorem inside_ev {h:H}(hw:h.wf)(n lo hi:Int)(Q:V→H→Prop)(q:∀h',h.Sub h'→Q (.bool (inB n lo hi)) h'):Ev fnG fastA (.fn 16 [] []) [.int .i64 n,.agg [.int .i64 lo,.int .i64 hi]] h Q:=by
 refine Ev_body (fd:=c16) rfl rfl rfl ?_
 have s:h.Sub (h.add (.cells .rw [.int .i64 lo,.int .i64 hi])):=(by repeat(first|assumption|exact H.Sub.refl (by assumption)|refine H.Sub.add ?_ _|refine H.Sub.set ?_ (by first|omega|(simp only[H.next_add,H.next_set,H.next_del]<;>omega)) (by first|omega|(simp only[H.next_add,H.next_set,H.next_del]<;>omega)) (by assumption) _))
 by_cases h1:lo≤n
 ·have e:inB n lo hi=decide (n≤hi):=by simp[inB,h1]
  rw[e] at q
  simp -implicitDefEqProofs(maxSteps:=999999)(disch:=first|with_reducible rfl|omega|(simp only[nA,nS,nD]<;>omega)|fail)only[c16,go_sem,h1]
  exact q _ s
 ·have e:inB n lo hi=false:=by simp[inB,h1]
  rw[e] at q
  simp -implicitDefEqProofs(maxSteps:=999999)(disch:=first|with_reducible rfl|omega|(simp only[nA,nS,nD]<;>omega)|fail)only[c16,go_sem,h1]
  exact q _ s
end Go.Ab.Try
namespace Go.Ab
theorem SlAt_lt {h:H}{x:V}{sz:Nat}{rows:List (List V)}(hw:h.wf)(a:SlAt h x sz rows)(hr:rows≠[]):∀b,blkOf x b→b<h.next:=by
 rintro b ⟨o',n',c',e⟩
 rcases a.2.2 with⟨rfl,_⟩|⟨b',o,c,cs,e1,e2,e3⟩
 ·cases e
 ·rw[e1] at e;cases e
  obtain⟨k,hk⟩:=H.cells_eq (e2.resolve_left hr)
  exact hw _ _ hk
theorem q_shr_3 (a:Int):q_sh .shr (.int .u64 a) (.int .u64 3)=some (.int .u64 (a.fdiv (2^(min 3 IntKind.u64.bits)))):=rfl
theorem q_shr_19 (a:Int):q_sh .shr (.int .u64 a) (.int .u64 19)=some (.int .u64 (a.fdiv (2^(min 19 IntKind.u64.bits)))):=rfl
def xorI (k:IntKind)(a b:Int):Int:=k.wrap (BitVec.ofInt k.bits a^^^BitVec.ofInt k.bits b).toNat
def andI (k:IntKind)(a b:Int):Int:=k.wrap (BitVec.ofInt k.bits a&&& BitVec.ofInt k.bits b).toNat
theorem q_ar_xor (k:IntKind)(a b:Int):q_ar .xor (.int k a) (.int k b)=some (.int k (xorI k a b)):=by simp[q_ar,arith,xorV,vi,xorI]
theorem q_ar_and (k:IntKind)(a b:Int):q_ar .and (.int k a) (.int k b)=some (.int k (andI k a b)):=by simp[q_ar,arith,andV,vi,andI]
theorem and_bd (a:Int):0≤andI .i64 a 65535∧andI .i64 a 65535≤65535:=by
 have h:(BitVec.ofInt IntKind.i64.bits a&&& BitVec.ofInt IntKind.i64.bits 65535).toNat≤65535:=by
  rw[BitVec.toNat_and]
  exact Nat.le_trans Nat.and_le_right (by decide)
 unfold andI
 rw[←wr_eq,wr_in (by omega) (by omega)]
 omega
namespace Try
def SpAt (h:H)(p:Nat)(x:V)(T:Int):Prop:=∃st,h.get p=some (.cells .rw [x,.int .i64 T,.int .u64 st])
theorem SpAt.mono {h h':H}{p:Nat}{x:V}{T:Int}(a:SpAt h p x T)(hs:h.Sub h'):SpAt h' p x T:=by
 obtain⟨st,a⟩:=a
 exact⟨st,hs.get a⟩
theorem SpAt.keep {h h':H}{p:Nat}{x:V}{T:Int}{S:Nat→Prop}(a:SpAt h p x T)(k:Keeps S h h')(n:¬S p):SpAt h' p x T:=by
 obtain⟨st,a⟩:=a
 exact⟨st,k.2 _ _ a n⟩
set_option maxHeartbeats 1000000 in
theorem turn_ev {h0 h:H}{p:Nat}{x:V}{bs:List Int}{T:Int}(hs:h0.Sub h)(hw0:h0.wf)(hx:SlAt h0 x 1 (bs.map encU8))(hp0:h0.next≤p)(hp:SpAt h p x T)(hT:0≤T∧T≤1000000000)(Q:V→H→Prop)
  (q:∀r h',0≤r→r≤65535→h0.Sub h'→SpAt h' p x (T+1)→Keeps (fun b=>b=p) h h'→h'.next=h.next→Q (.int .i64 r) h'):Ev fnG fastA (.fn 49 [] []) [.ptr p 0] h Q:=by
 obtain⟨st,hp⟩:=hp
 have hw:=hs.wf
 have hlp:=hw _ _ hp
 have hx1:=hx.one
 have hlen:=hx.lenE
 have hc:=cells_of hp
 refine Ev_body (fd:=c49) rfl rfl rfl ?_
 have fin:∀(st':Int) (r:Int),0≤r→r≤65535→Q (.int .i64 r) (h.set p (.cells .rw [x,.int .i64 (T+1),.int .u64 st'])):=fun st' r r0 r1=>
  q r _ r0 r1 (hs.set hp0 hlp hw0 _) ⟨st',get_set_same rfl⟩ (Keeps.set _ _ _) (H.next_set _ _ _)
 by_cases h1:0<(bs.length:Int)
 ·have hT0:0≤T.tmod (bs.length:Int):=Int.tmod_nonneg _ hT.1
  have hT1:T.tmod (bs.length:Int)<(bs.length:Int):=Int.tmod_lt_of_pos _ h1
  obtain⟨i,ei⟩:=Int.eq_ofNat_of_zero_le hT0
  have hi:i<bs.length:=by omega
  obtain⟨b2,o2,c2,cs2,e2,hcs2,hq2,hgg2,hn2,hn02⟩:=(hx.mono hs).at hi
  have v2:=hn02 (by omega)
  simp only[encU8] at v2
  have hbb:b2≠p:=by
   have:=SlAt_lt hw0 hx (by intro e;rw[List.map_eq_nil_iff] at e;rw[e] at hi;simp at hi) b2 ⟨_,_,_,e2⟩
   omega
  have hne:¬(bs.length:Int)=0:=by omega
  by_cases h2:(bs.length:Int)<T+1
  ·simp -implicitDefEqProofs(maxSteps:=999999)(disch:=first|with_reducible rfl|omega|(simp only[nA,nS,nD]<;>omega)|fail)only[c49,go_sem,hc,hlen,h1,q_ar_rem .i64 hne,ei,hq2 (nat_cst i),hcs2,v2,hp,wr_in,h2,hx1,q_shr_3,q_shr_19,q_ar_xor,q_ar_and]
   exact fin _ _ (and_bd _).1 (and_bd _).2
  ·simp -implicitDefEqProofs(maxSteps:=999999)(disch:=first|with_reducible rfl|omega|(simp only[nA,nS,nD]<;>omega)|fail)only[c49,go_sem,hc,hlen,h1,q_ar_rem .i64 hne,ei,hq2 (nat_cst i),hcs2,v2,hp,wr_in,h2,hx1,q_shr_3,q_shr_19,q_ar_xor,q_ar_and]
   exact fin _ _ (and_bd _).1 (and_bd _).2
 ·by_cases h2:(bs.length:Int)<T+1
  ·simp -implicitDefEqProofs(maxSteps:=999999)(disch:=first|with_reducible rfl|omega|(simp only[nA,nS,nD]<;>omega)|fail)only[c49,go_sem,hc,hlen,h1,hp,wr_in,h2,hx1,q_shr_3,q_shr_19,q_ar_xor,q_ar_and]
   exact fin _ _ (and_bd _).1 (and_bd _).2
  ·omega
theorem Upto_ev {h0 h:H}{p:Nat}{x:V}{bs:List Int}{T:Int}(hs:h0.Sub h)(hw0:h0.wf)(hx:SlAt h0 x 1 (bs.map encU8))(hp0:h0.next≤p)(hp:SpAt h p x T)(hT:0≤T∧T≤1000000000){n:Int}(hn: -1000000000≤n∧n≤1000000000)(Q:V→H→Prop)
  (q:∀r h',0≤r→r≤max 0 n→h0.Sub h'→SpAt h' p x (T+1)→Keeps (fun b=>b=p) h h'→h'.next=h.next→Q (.int .i64 r) h'):Ev fnG fastA (.fn 30 [] []) [.ptr p 0,.int .i64 n] h Q:=by
 refine Ev_body (fd:=c30) rfl rfl rfl ?_
 simp -implicitDefEqProofs(maxSteps:=999999)(disch:=first|with_reducible rfl|omega|(simp only[nA,nS,nD]<;>omega)|fail)only[c30,go_sem]
 refine turn_ev hs hw0 hx hp0 hp hT _ fun r h' r0 r1 s' p' k' n'=>?_
 have hm:¬max 1 (n+1)=0:=by omega
 have e0:0≤r.tmod (max 1 (n+1)):=Int.tmod_nonneg _ r0
 have e1:r.tmod (max 1 (n+1))<max 1 (n+1):=Int.tmod_lt_of_pos _ (by omega)
 simp -implicitDefEqProofs(maxSteps:=999999)(disch:=first|with_reducible rfl|omega|(simp only[nA,nS,nD]<;>omega)|fail)only[go_sem,wr_in,q_ar_rem .i64 hm]
 exact q _ _ e0 (by omega) s' p' k' n'
theorem From_ev {h0 h:H}{p:Nat}{x:V}{bs:List Int}{T:Int}(hs:h0.Sub h)(hw0:h0.wf)(hx:SlAt h0 x 1 (bs.map encU8))(hp0:h0.next≤p)(hp:SpAt h p x T)(hT:0≤T∧T≤1000000000){lo hi:Int}(hlo: -1000000≤lo∧lo≤1000000)(hhi: -1000000≤hi∧hi≤1000000)(Q:V→H→Prop)
  (q:∀r h',lo≤r→r≤max lo hi→h0.Sub h'→SpAt h' p x (T+1)→Keeps (fun b=>b=p) h h'→h'.next=h.next→Q (.int .i64 r) h'):Ev fnG fastA (.fn 29 [] []) [.ptr p 0,.int .i64 lo,.int .i64 hi] h Q:=by
 refine Ev_body (fd:=c29) rfl rfl rfl ?_
 simp -implicitDefEqProofs(maxSteps:=999999)(disch:=first|with_reducible rfl|omega|(simp only[nA,nS,nD]<;>omega)|fail)only[c29,go_sem,wr_in]
 refine Upto_ev hs hw0 hx hp0 hp hT (by omega) _ fun r h' r0 r1 s' p' k' n'=>?_
 simp -implicitDefEqProofs(maxSteps:=999999)(disch:=first|with_reducible rfl|omega|(simp only[nA,nS,nD]<;>omega)|fail)only[go_sem,wr_in]
 exact q _ _ (by omega) (by omega) s' p' k' n'
theorem Wound_ev {h:H}{x:V}{bs:List Int}(hw:h.wf)(hx:SlAt h x 1 (bs.map encU8))(Q:V→H→Prop)(q:∀h',h.Sub h'→SpAt h' h.next x 0→h'.next=h.next+1→Q (.ptr h.next 0) h'):Ev fnG fastA (.fn 13 [] []) [x] h Q:=by
 have hx1:=hx.one
 refine Ev_body (fd:=c13) rfl rfl rfl ?_
 simp -implicitDefEqProofs(maxSteps:=999999)(disch:=first|with_reducible rfl|omega|(simp only[nA,nS,nD]<;>omega)|fail)only[c13,go_sem,hx.lenE,hx1,cells_one hx1]
 exact q _ ((H.Sub.refl hw).add _) ⟨_,get_add_new rfl⟩ (H.next_add _ _)
end Try
end Go.Ab
namespace Go.Ab
theorem Keeps.new {S:Nat→Prop}{h h':H}(hw:h.wf)(k:Keeps (fun c=>S c∨h.next≤c) h h'):Keeps S h h':=⟨k.1,fun c y e n=>k.2 c y e fun hs=>hs.elim n fun hge=>by have:=hw c y e;omega⟩
structure Sl6 (h0 z:H)(n1:Nat)(v:Nat→V)(sz:Nat→Nat)(rows:Nat→List (List V)):Prop where
 o:∀i,i<6→OwnC h0 z (v i) (sz i) (rows i)
 lo:∀i,i<6→∀b,blkOf (v i) b→n1≤b
 dj:∀i j,i<6→j<6→i≠j→∀b,blkOf (v i) b→¬blkOf (v j) b
variable {h0 z z':H} {n1:Nat} {v:Nat→V} {sz:Nat→Nat} {rows:Nat→List (List V)}
theorem Sl6.keep (k:Sl6 h0 z n1 v sz rows){S:Nat→Prop}(kk:Keeps S z z')(s:h0.Sub z')(hS:∀b,S b→b<n1):Sl6 h0 z' n1 v sz rows:=
 ⟨fun i hi=>(k.o i hi).keep kk s fun b hb q=>by have:=k.lo i hi b hb;have:=hS b q;omega,k.lo,k.dj⟩
theorem Sl6.rw (k:Sl6 h0 z n1 v sz rows){rows':Nat→List (List V)}(e:∀i,i<6→rows i=rows' i):Sl6 h0 z n1 v sz rows':=⟨fun i hi=>by rw[←e i hi];exact k.o i hi,k.lo,k.dj⟩
theorem Sl6.mono (k:Sl6 h0 z n1 v sz rows)(s:z.Sub z'):Sl6 h0 z' n1 v sz rows:=⟨fun i hi=>(k.o i hi).mono s,k.lo,k.dj⟩
def updF {α:Type}(f:Nat→α)(i:Nat)(x:α)(j:Nat):α:=if j=i then x else f j
theorem updF_same {α:Type}(f:Nat→α)(i:Nat)(x:α):updF f i x i=x:=if_pos rfl
theorem updF_other {α:Type}(f:Nat→α){i j:Nat}(x:α)(h:j≠i):updF f i x j=f j:=if_neg h
theorem Sl6.app (k:Sl6 h0 z n1 v sz rows){i:Nat}(hi:i<6){w:V}{r:List V}(o:OwnC h0 z' w (sz i) (rows i++[r]))(n:∀b,blkOf w b→blkOf (v i) b∨z.next≤b)(hz:n1≤z.next)(kk:Keeps (blkOf (v i)) z z'):
  Sl6 h0 z' n1 (updF v i w) sz (updF rows i (rows i++[r])):=by
 refine⟨fun j hj=>?_,fun j hj b hb=>?_,fun j l hj hl hjl b hb=>?_⟩
 ·by_cases e:j=i
  ·subst e;rw[updF_same,updF_same];exact o
  ·rw[updF_other _ _ e,updF_other _ _ e]
   exact(k.o j hj).keep kk o.1 fun b hb=>k.dj j i hj hi e b hb
 ·by_cases e:j=i
  ·subst e;rw[updF_same] at hb
   exact(n b hb).elim (k.lo j hi b) fun q=>by omega
  ·rw[updF_other _ _ e] at hb;exact k.lo j hj b hb
 ·by_cases e:j=i
  ·subst e
   rw[updF_same] at hb;rw[updF_other _ _ (Ne.symm hjl)]
   exact(n b hb).elim (k.dj j l hi hl hjl b) fun q w=>by have:=((k.o l hl).blk w).2.1;omega
  ·rw[updF_other _ _ e] at hb
   by_cases e2:l=i
   ·subst e2;rw[updF_same]
    intro w
    exact(n b w).elim (k.dj j l hj hi e b hb) fun q=>by have:=((k.o j hj).blk hb).2.1;omega
   ·rw[updF_other _ _ e2];exact k.dj j l hj hl hjl b hb
end Go.Ab
namespace Go.Ab.Try
open Go.Proofs
set_option maxHeartbeats 1000000 in
theorem around_ev {h0 h:H}{p:Nat}{x:V}{bs:List Int}{T:Int}(hs:h0.Sub h)(hw0:h0.wf)(hx:SlAt h0 x 1 (bs.map encU8))(hp0:h0.next≤p)(hp:SpAt h p x T)(hT:0≤T∧T≤100000000){n wide most:Int}(h1:0≤wide∧wide≤100)(h2:0≤most∧most≤1000)(h3: -most≤n∧n≤most)(Q:V→H→Prop)
  (q:∀lo hi h',lo≤n→n≤hi→ -most≤lo→hi≤most→hi-lo≤wide→h0.Sub h'→SpAt h' p x (T+2)→Keeps (fun b=>b=p) h h'→Q (spV (lo,hi)) h'):Ev fnG fastA (.fn 31 [] []) [.ptr p 0,.int .i64 n,.int .i64 wide,.int .i64 most] h Q:=by
 have hw:=hs.wf
 have hlp:p<h.next:=by obtain⟨st,g⟩:=hp;exact hw _ _ g
 refine Ev_body (fd:=c31) rfl rfl rfl ?_
 have sA:=(H.Sub.refl hw).add (.cells .rw [.int .i64 0,.int .i64 0])
 have gA:(h.add (.cells .rw [.int .i64 0,.int .i64 0])).get h.next=some (.cells .rw [.int .i64 0,.int .i64 0]):=get_add_new rfl
 have nA:=H.next_add h (.cells .rw [.int .i64 0,.int .i64 0])
 have w0:wr .i64 (0-most)= -most:=by rw[wr_in (by omega) (by omega)];omega
 simp -implicitDefEqProofs(maxSteps:=999999)(disch:=first|with_reducible rfl|omega|(simp only[nA,nS,nD]<;>omega)|fail)only[c31,go_sem,w0]
 generalize h.add (.cells .rw [.int .i64 0,.int .i64 0])=hA at sA gA nA⊢
 refine Upto_ev (hs.trans sA) hw0 hx hp0 (hp.mono sA) (by omega) (by omega) _ fun r1 h1 a0 a1 s1 p1 k1 n1=>?_
 have g1:=k1.2 _ _ gA (by omega)
 have w1:wr .i64 (n-r1)=n-r1:=wr_in (by omega) (by omega)
 obtain⟨lo,hlo⟩:∃lo,max (-most) (n-r1)=lo:=⟨_,rfl⟩
 simp -implicitDefEqProofs(maxSteps:=999999)(disch:=first|with_reducible rfl|omega|(simp only[nA,nS,nD]<;>omega)|fail)only[go_sem,w1,hlo]
 refine Upto_ev s1 hw0 hx hp0 p1 (by omega) (by omega) _ fun r2 h2' b0 b1 s2 p2 k2 n2=>?_
 have g2:=k2.2 _ _ g1 (by omega)
 have w2:wr .i64 (lo+r2)=lo+r2:=wr_in (by omega) (by omega)
 obtain⟨hi,hhi⟩:∃hi,min most (max n (lo+r2))=hi:=⟨_,rfl⟩
 simp -implicitDefEqProofs(maxSteps:=999999)(disch:=first|with_reducible rfl|omega|(simp only[nA,nS,nD]<;>omega)|fail)only[go_sem,w2,hhi,g2]
 refine q lo hi _ (by omega) (by omega) (by omega) (by omega) (by omega) (s2.set (b:=h.next) (by have:=hs.next;omega) (by omega) hw0 _) ?_ ?_
 ·have e:T+1+1=T+2:=by omega
  rw[←e];exact p2.keep (Keeps.set _ _ _) (by omega)
 ·refine Keeps.new hw ((((Keeps.of sA (fun _=>False)).trans k1).trans k2).trans (Keeps.set h2' h.next _) |>.mono ?_)
  rintro c (((h|h)|h)|h)
  ·exact h.elim
  ·exact .inl h
  ·exact .inl h
  ·exact .inr (by omega)
end Go.Ab.Try
namespace Go.Ab.Try
open Go.Proofs
def sz6:Nat→Nat
 |0=>4
 |1=>3
 |2=>4
 |_=>1
def rowsM (a:At)(ss gg tt:List Int):Nat→List (List V)
 |0=>a.cks.map encC
 |1=>a.rds.map encR
 |2=>a.gps.map encG
 |3=>ss.map encI
 |4=>gg.map encI
 |5=>tt.map encI
 |_=>[]
structure Mi (h0:H)(p:Nat)(x:V)(n1 c0:Nat)(a:At)(ss gg tt:List Int)(T:Int)(v:Nat→V)(z:H):Prop where
 s:h0.Sub z
 sp:SpAt z p x T
 sl:Sl6 h0 z n1 v sz6 (rowsM a ss gg tt)
 ga:z.get (c0+2)=some (.cells .rw [.int .i64 a.mins,.int .i64 a.evs,v 0,v 1,v 2])
 gt:z.get (c0+3)=some (.cells .rw [v 3,v 4,v 5])
 g0:z.get c0=some (.cells .rw [.int .i64 0,.int .i64 0,.nils,.nils,.nils])
 g1:z.get (c0+1)=some (.cells .rw [.nils,.nils,.nils])
 nx:n1≤z.next
variable {h0:H} {p:Nat} {x:V} {n1 c0:Nat} {a a':At} {ss gg tt ss' gg' tt':List Int} {T T':Int} {v v':Nat→V} {z z5:H}
theorem Mi.turn (k:Mi h0 p x n1 c0 a ss gg tt T v z)(hp:p<c0)(hn:c0+4=n1)(s:h0.Sub z5)(sp:SpAt z5 p x T')(kk:Keeps (fun b=>b=p) z z5):Mi h0 p x n1 c0 a ss gg tt T' v z5:=
 ⟨s,sp,k.sl.keep kk s fun b hb=>by omega,kk.2 _ _ k.ga (by omega),kk.2 _ _ k.gt (by omega),kk.2 _ _ k.g0 (by omega),kk.2 _ _ k.g1 (by omega),by have:=kk.1;have:=k.nx;omega⟩
theorem Mi.mono (k:Mi h0 p x n1 c0 a ss gg tt T v z)(s:z.Sub z5):Mi h0 p x n1 c0 a ss gg tt T v z5:=
 ⟨k.s.trans s,k.sp.mono s,k.sl.mono s,s.get k.ga,s.get k.gt,s.get k.g0,s.get k.g1,by have:=s.next;have:=k.nx;omega⟩
theorem Mi.putA (k:Mi h0 p x n1 c0 a ss gg tt T v z)(hw:h0.wf)(hp:p<c0)(hn:c0+4=n1)(hc:h0.next≤c0){S:Nat→Prop}(kk:Keeps S z z5)(hS:∀b,S b→n1≤b)(sl:Sl6 h0 z5 n1 v' sz6 (rowsM a' ss gg tt))(hm:a'.mins=a.mins)(he:a'.evs=a.evs)
  (e3:v' 3=v 3) (e4:v' 4=v 4) (e5:v' 5=v 5):Mi h0 p x n1 c0 a' ss gg tt T v' (z5.set (c0+2) (.cells .rw [.int .i64 a.mins,.int .i64 a.evs,v' 0,v' 1,v' 2])):=by
 have hn':∀b,b<n1→¬S b:=fun b hb q=>by have:=hS b q;omega
 have s5:=(sl.o 0 (by omega)).1
 have l5:=kk.1
 have lz:=k.nx
 have sz:h0.Sub (z5.set (c0+2) (.cells .rw [.int .i64 a.mins,.int .i64 a.evs,v' 0,v' 1,v' 2])):=s5.set (by omega) (by omega) hw _
 have k2:=Keeps.set z5 (c0+2) (.cells .rw [.int .i64 a.mins,.int .i64 a.evs,v' 0,v' 1,v' 2])
 refine⟨sz,(k.sp.keep kk (hn' _ (by omega))).keep k2 (by omega),sl.keep k2 sz fun b hb=>by omega,by rw[get_set_same rfl,hm,he],?_,?_,?_,by rw[H.next_set];omega⟩
 ·rw[e3,e4,e5];exact k2.2 _ _ (kk.2 _ _ k.gt (hn' _ (by omega))) (by omega)
 ·exact k2.2 _ _ (kk.2 _ _ k.g0 (hn' _ (by omega))) (by omega)
 ·exact k2.2 _ _ (kk.2 _ _ k.g1 (hn' _ (by omega))) (by omega)
theorem Mi.putT (k:Mi h0 p x n1 c0 a ss gg tt T v z)(hw:h0.wf)(hp:p<c0)(hn:c0+4=n1)(hc:h0.next≤c0){S:Nat→Prop}(kk:Keeps S z z5)(hS:∀b,S b→n1≤b)(sl:Sl6 h0 z5 n1 v' sz6 (rowsM a ss' gg' tt'))
  (e0:v' 0=v 0) (e1:v' 1=v 1) (e2:v' 2=v 2):Mi h0 p x n1 c0 a ss' gg' tt' T v' (z5.set (c0+3) (.cells .rw [v' 3,v' 4,v' 5])):=by
 have hn':∀b,b<n1→¬S b:=fun b hb q=>by have:=hS b q;omega
 have s5:=(sl.o 0 (by omega)).1
 have l5:=kk.1
 have lz:=k.nx
 have sz:h0.Sub (z5.set (c0+3) (.cells .rw [v' 3,v' 4,v' 5])):=s5.set (by omega) (by omega) hw _
 have k2:=Keeps.set z5 (c0+3) (.cells .rw [v' 3,v' 4,v' 5])
 refine⟨sz,(k.sp.keep kk (hn' _ (by omega))).keep k2 (by omega),sl.keep k2 sz fun b hb=>by omega,?_,get_set_same rfl,?_,?_,by rw[H.next_set];omega⟩
 ·rw[e0,e1,e2];exact k2.2 _ _ (kk.2 _ _ k.ga (hn' _ (by omega))) (by omega)
 ·exact k2.2 _ _ (kk.2 _ _ k.g0 (hn' _ (by omega))) (by omega)
 ·exact k2.2 _ _ (kk.2 _ _ k.g1 (hn' _ (by omega))) (by omega)
structure MkOk (a:At)(ss gg tt:List Int):Prop where
 m:1≤a.mins∧a.mins≤240
 e:1≤a.evs∧a.evs≤4
 cl:a.cks.length≤2
 rl:a.rds.length≤6
 gl:a.gps.length≤2
 ls:ss.length=a.cks.length
 lg:gg.length=a.cks.length
 lt:tt.length≤4
 ck:∀(k:Nat) c s g,a.cks[k]? =some c→ss[k]? =some s→gg[k]? =some g→c.sl≤s∧s≤c.sh∧c.gl≤g∧g≤c.gh
 cb:∀c∈a.cks, -60≤c.sl∧c.sh≤60∧ -30≤c.gl∧c.gh≤30∧c.sl≤c.sh∧c.gl≤c.gh∧c.sh-c.sl≤3∧c.gh-c.gl≤3
 tm:∀t∈tt,0≤t∧t≤a.mins
 rd:∀r∈a.rds,0≤r.ck∧0≤r.ev∧∃s g t,ss[r.ck.toNat]? =some s∧gg[r.ck.toNat]? =some g∧tt[r.ev.toNat]? =some t∧r.sh=shw s g t
 gp:∀g∈a.gps,0≤g.fr∧0≤g.to∧∃t1 t2,tt[g.fr.toNat]? =some t1∧tt[g.to.toNat]? =some t2∧g.lo≤t2-t1∧t2-t1≤g.hi∧ -240≤g.lo∧g.hi≤240
theorem getl {α:Type}{l:List α}{i:Nat}{x:α}(h:l[i]? =some x):i<l.length:=by
 rcases Nat.lt_or_ge i l.length with q|q
 ·exact q
 ·rw[List.getElem?_eq_none q] at h;cases h
theorem MkOk.run {a:At}{ss gg tt:List Int}(k:MkOk a ss gg tt){i:Nat}{s g:Int}(hs:ss[i]? =some s)(hg:gg[i]? =some g):RunIn s g:=by
 have hi:=getl hs
 rw[k.ls] at hi
 have h1:=k.ck i _ s g (List.getElem?_eq_getElem hi) hs hg
 have h2:=k.cb _ (List.getElem_mem hi)
 exact⟨by omega,by omega,by omega,by omega⟩
theorem MkOk.right {a:At}{ss gg tt:List Int}(k:MkOk a ss gg tt)(hl:(tt.length:Int)=a.evs):Right a:=by
 have hm:=k.m;have he:=k.e;have h1:=k.cl;have h2:=k.rl;have h3:=k.gl
 refine⟨?_,fun c hc=>?_,fun r hr=>?_,fun g hg=>?_,fun r hr=>?_,fun g hg=>?_,fun c hc=>?_,fun g hg=>?_,fun c hc=>?_⟩
 ·simp only[At.sz,Bool.and_eq_true,decide_eq_true_eq,inB_iff];omega
 ·have:=k.cb c hc
  simp only[Ck.bd,within,Bool.and_eq_true,inB_iff];omega
 ·obtain⟨_,_,s,g,t,e1,e2,e3,e4⟩:=k.rd r hr
  have ht:=k.tm t (List.mem_of_getElem? e3)
  have:=shw_bd (k.run e1 e2) ht.1 (by omega)
  simp only[Rd.bd,inB_iff];omega
 ·obtain⟨_,_,t1,t2,e1,e2,e3,e4,e5,e6⟩:=k.gp g hg
  have q1:=k.tm t1 (List.mem_of_getElem? e1)
  have q2:=k.tm t2 (List.mem_of_getElem? e2)
  simp only[Gp.bd,within,Bool.and_eq_true,inB_iff];omega
 ·obtain⟨_,_,s,g,t,e1,e2,e3,e4⟩:=k.rd r hr
  have q1:=getl e1;have q2:=getl e3;have q3:=k.ls
  simp only[At.rdOk,At.ckB,At.evB,Bool.and_eq_true,inB_iff];omega
 ·obtain⟨_,_,t1,t2,e1,e2,e3,e4,e5,e6⟩:=k.gp g hg
  have q1:=getl e1;have q2:=getl e2
  simp only[At.gpOk,At.evB,Bool.and_eq_true,inB_iff];omega
 ·have:=k.cb c hc
  simp only[Ck.ord,Bool.and_eq_true,decide_eq_true_eq];omega
 ·obtain⟨_,_,t1,t2,e1,e2,e3,e4,e5,e6⟩:=k.gp g hg
  simp only[Gp.ord,decide_eq_true_eq];omega
 ·have:=k.cb c hc
  simp only[Ck.sm,Bool.and_eq_true,decide_eq_true_eq];omega
def timeF (tt:List Int)(e:Nat):Int:=tt.getD e 0
theorem timeF_at {tt:List Int}{e:Nat}{t:Int}(h:tt[e]? =some t):timeF tt e=t:=by unfold timeF;rw[List.getD_eq_getElem?_getD,h];rfl
theorem MkOk.tru {a:At}{ss gg tt:List Int}(k:MkOk a ss gg tt):Tru a (fun _=>true) (ss.zip gg) (timeF tt):=by
 have hm:=k.m
 have zp:∀{i:Nat} {s:Int × Int},(ss.zip gg)[i]? =some s→ss[i]? =some s.1∧gg[i]? =some s.2:=fun{i s} h=>by
  have:=List.getElem?_zip_eq_some.1 h
  exact this
 refine⟨by rw[List.length_zip,k.ls,k.lg,Nat.min_self],fun i s hs=>?_,?_,fun e he=>?_,fun g hg=>?_,fun j r hr _ s hs=>?_⟩
 ·obtain⟨h1,h2⟩:=zp hs
  have hi:=getl h1
  rw[k.ls] at hi
  have hc:a.cks[i]? =some a.cks[i]:=List.getElem?_eq_getElem hi
  obtain⟨q1,q2,q3,q4⟩:=k.ck i _ _ _ hc h1 h2
  exact RunOf.mk' hc q1 q2 q3 q4
 ·unfold timeF
  rw[List.getD_eq_getElem?_getD,List.getElem?_eq_none k.lt];rfl
 ·unfold timeF
  rw[List.getD_eq_getElem?_getD]
  cases h:tt[e]? with
  |none=>exact⟨Int.le_refl _,by show(0:Int)≤_;omega⟩
  |some t=>exact k.tm t (List.mem_of_getElem? h)
 ·obtain⟨_,_,t1,t2,e1,e2,e3,e4,e5,e6⟩:=k.gp g hg
  rw[timeF_at e1,timeF_at e2];exact⟨e3,e4⟩
 ·obtain⟨_,_,s',g,t,e1,e2,e3,e4⟩:=k.rd r (List.mem_of_getElem? hr)
  obtain⟨h1,h2⟩:=zp hs
  rw[e1] at h1;rw[e2] at h2
  cases h1;cases h2
  rw[timeF_at e3,e4]
end Go.Ab.Try
namespace Go.Ab.Try
open Go.Proofs
structure MkAt (h0 h:H)(p:Nat)(x:V)(T:Int)(a:At)(ss gg tt:List Int)(C R G S Ga Tm:V):Prop where
 s:h0.Sub h
 sp:SpAt h p x T
 at_:AtAt h C R G a
 as_:SlAt h S 1 (ss.map encI)
 ag:SlAt h Ga 1 (gg.map encI)
 am:SlAt h Tm 1 (tt.map encI)
 ok:MkOk a ss gg tt
 lt:(tt.length:Int)=a.evs
theorem rowsUp {a a':At}{ss gg tt ss' gg' tt':List Int}{j:Nat}{r:List V}(h0:updF (rowsM a ss gg tt) j (rowsM a ss gg tt j++[r]) 0=a'.cks.map encC)(h1:updF (rowsM a ss gg tt) j (rowsM a ss gg tt j++[r]) 1=a'.rds.map encR)(h2:updF (rowsM a ss gg tt) j (rowsM a ss gg tt j++[r]) 2=a'.gps.map encG)
  (h3:updF (rowsM a ss gg tt) j (rowsM a ss gg tt j++[r]) 3=ss'.map encI) (h4:updF (rowsM a ss gg tt) j (rowsM a ss gg tt j++[r]) 4=gg'.map encI) (h5:updF (rowsM a ss gg tt) j (rowsM a ss gg tt j++[r]) 5=tt'.map encI):∀i,i<6→updF (rowsM a ss gg tt) j (rowsM a ss gg tt j++[r]) i=rowsM a' ss' gg' tt' i:=fun i hi=>by
 rcases(by omega:i=0∨i=1∨i=2∨i=3∨i=4∨i=5) with rfl|rfl|rfl|rfl|rfl|rfl
 ·exact h0
 ·exact h1
 ·exact h2
 ·exact h3
 ·exact h4
 ·exact h5
theorem rows0 {a:At}{ss gg tt:List Int}{c:Ck}:∀i,i<6→updF (rowsM a ss gg tt) 0 (rowsM a ss gg tt 0++[encC c]) i=rowsM {a with cks:=a.cks++[c]} ss gg tt i:=rowsUp (by simp[updF,rowsM]) (by simp[updF,rowsM]) (by simp[updF,rowsM]) (by simp[updF,rowsM]) (by simp[updF,rowsM]) (by simp[updF,rowsM])
theorem rows1 {a:At}{ss gg tt:List Int}{c:Rd}:∀i,i<6→updF (rowsM a ss gg tt) 1 (rowsM a ss gg tt 1++[encR c]) i=rowsM {a with rds:=a.rds++[c]} ss gg tt i:=rowsUp (by simp[updF,rowsM]) (by simp[updF,rowsM]) (by simp[updF,rowsM]) (by simp[updF,rowsM]) (by simp[updF,rowsM]) (by simp[updF,rowsM])
theorem rows2 {a:At}{ss gg tt:List Int}{c:Gp}:∀i,i<6→updF (rowsM a ss gg tt) 2 (rowsM a ss gg tt 2++[encG c]) i=rowsM {a with gps:=a.gps++[c]} ss gg tt i:=rowsUp (by simp[updF,rowsM]) (by simp[updF,rowsM]) (by simp[updF,rowsM]) (by simp[updF,rowsM]) (by simp[updF,rowsM]) (by simp[updF,rowsM])
theorem rows3 {a:At}{ss gg tt:List Int}{c:Int}:∀i,i<6→updF (rowsM a ss gg tt) 3 (rowsM a ss gg tt 3++[encI c]) i=rowsM a (ss++[c]) gg tt i:=rowsUp (by simp[updF,rowsM]) (by simp[updF,rowsM]) (by simp[updF,rowsM]) (by simp[updF,rowsM]) (by simp[updF,rowsM]) (by simp[updF,rowsM])
theorem rows4 {a:At}{ss gg tt:List Int}{c:Int}:∀i,i<6→updF (rowsM a ss gg tt) 4 (rowsM a ss gg tt 4++[encI c]) i=rowsM a ss (gg++[c]) tt i:=rowsUp (by simp[updF,rowsM]) (by simp[updF,rowsM]) (by simp[updF,rowsM]) (by simp[updF,rowsM]) (by simp[updF,rowsM]) (by simp[updF,rowsM])
theorem rows5 {a:At}{ss gg tt:List Int}{c:Int}:∀i,i<6→updF (rowsM a ss gg tt) 5 (rowsM a ss gg tt 5++[encI c]) i=rowsM a ss gg (tt++[c]) i:=rowsUp (by simp[updF,rowsM]) (by simp[updF,rowsM]) (by simp[updF,rowsM]) (by simp[updF,rowsM]) (by simp[updF,rowsM]) (by simp[updF,rowsM])
theorem get_app1 {α:Type}{l:List α}{x y:α}{i:Nat}(h:(l++[x])[i]? =some y):l[i]? =some y∧i<l.length∨i=l.length∧y=x:=by
 rcases Nat.lt_or_ge i l.length with q|q
 ·rw[List.getElem?_append_left q] at h;exact .inl ⟨h,q⟩
 ·rw[List.getElem?_append_right q] at h
  have:i-l.length=0:=by
   cases hh:i-l.length with
   |zero=>rfl
   |succ n=>rw[hh] at h;simp at h
  rw[this] at h
  cases h
  exact .inr ⟨by omega,rfl⟩
theorem get_more {α:Type}{l:List α}{x y:α}{i:Nat}(h:l[i]? =some y):(l++[x])[i]? =some y:=by rw[List.getElem?_append_left (getl h)];exact h
theorem MkOk.clock {a:At}{ss gg tt:List Int}(k:MkOk a ss gg tt)(hl:a.cks.length+1≤2){sl sh gl gh st gn:Int}(h1:sl≤st∧st≤sh)(h2:gl≤gn∧gn≤gh)(h3: -60≤sl∧sh≤60∧sh-sl≤3)(h4: -30≤gl∧gh≤30∧gh-gl≤3):
  MkOk {a with cks:=a.cks++[⟨sl,sh,gl,gh⟩]} (ss++[st]) (gg++[gn]) tt:=by
 refine⟨k.m,k.e,by simp only[List.length_append,List.length_singleton];exact hl,k.rl,k.gl,by simp only[List.length_append,List.length_singleton,k.ls],by simp only[List.length_append,List.length_singleton,k.lg],k.lt,fun i c s g hc hs hg=>?_,fun c hc=>?_,k.tm,fun r hr=>?_,k.gp⟩
 ·have ls:=k.ls;have lg:=k.lg
  rcases get_app1 hc with⟨hc,q⟩|⟨q,rfl⟩
  ·rcases get_app1 hs with⟨hs,_⟩|⟨q2,_⟩
   ·rcases get_app1 hg with⟨hg,_⟩|⟨q3,_⟩
    ·exact k.ck i c s g hc hs hg
    ·omega
   ·omega
  ·rcases get_app1 hs with⟨_,q2⟩|⟨_,rfl⟩
   ·omega
   ·rcases get_app1 hg with⟨_,q3⟩|⟨_,rfl⟩
    ·omega
    ·exact⟨h1.1,h1.2,h2.1,h2.2⟩
 ·rcases List.mem_append.1 hc with hc|hc
  ·exact k.cb c hc
  ·rw[List.mem_singleton] at hc;subst hc
   exact⟨h3.1,h3.2.1,h4.1,h4.2.1,Int.le_trans h1.1 h1.2,Int.le_trans h2.1 h2.2,h3.2.2,h4.2.2⟩
 ·obtain⟨r1,r2,s,g,t,e1,e2,e3,e4⟩:=k.rd r hr
  exact⟨r1,r2,s,g,t,get_more e1,get_more e2,e3,e4⟩
theorem MkOk.read {a:At}{ss gg tt:List Int}(k:MkOk a ss gg tt)(hl:a.rds.length+1≤6){i e:Nat}{s g t:Int}(e1:ss[i]? =some s)(e2:gg[i]? =some g)(e3:tt[e]? =some t):MkOk {a with rds:=a.rds++[⟨i,e,shw s g t⟩]} ss gg tt:=by
 refine⟨k.m,k.e,k.cl,by simp only[List.length_append,List.length_singleton];exact hl,k.gl,k.ls,k.lg,k.lt,k.ck,k.cb,k.tm,fun r hr=>?_,k.gp⟩
 rcases List.mem_append.1 hr with hr|hr
 ·exact k.rd r hr
 ·rw[List.mem_singleton] at hr;subst hr
  exact⟨Int.natCast_nonneg _,Int.natCast_nonneg _,s,g,t,e1,e2,e3,rfl⟩
theorem MkOk.gap {a:At}{ss gg tt:List Int}(k:MkOk a ss gg tt)(hl:a.gps.length+1≤2){i e:Nat}{t1 t2 lo hi:Int}(e1:tt[i]? =some t1)(e2:tt[e]? =some t2)(h1:lo≤t2-t1∧t2-t1≤hi)(h2: -240≤lo∧hi≤240):MkOk {a with gps:=a.gps++[⟨i,e,lo,hi⟩]} ss gg tt:=by
 refine⟨k.m,k.e,k.cl,k.rl,by simp only[List.length_append,List.length_singleton];exact hl,k.ls,k.lg,k.lt,k.ck,k.cb,k.tm,k.rd,fun g hg=>?_⟩
 rcases List.mem_append.1 hg with hg|hg
 ·exact k.gp g hg
 ·rw[List.mem_singleton] at hg;subst hg
  exact⟨Int.natCast_nonneg _,Int.natCast_nonneg _,t1,t2,e1,e2,h1.1,h1.2,h2.1,h2.2⟩
theorem Mi.side {h0 z z5:H}{p:Nat}{x:V}{n1 c0:Nat}{a:At}{ss gg tt:List Int}{T:Int}{v:Nat→V}(k:Mi h0 p x n1 c0 a ss gg tt T v z)(hp:p<c0)(hn:c0+4=n1){b0:Nat}(hb:n1≤b0)(hne:∀i,i<6→∀b,blkOf (v i) b→b≠b0)(s:h0.Sub z5)(kk:Keeps (fun b=>b=b0) z z5):Mi h0 p x n1 c0 a ss gg tt T v z5:=
 ⟨s,k.sp.keep kk (by omega),⟨fun i hi=>(k.sl.o i hi).keep kk s fun b hb q=>hne i hi b hb q,k.sl.lo,k.sl.dj⟩,kk.2 _ _ k.ga (by omega),kk.2 _ _ k.gt (by omega),kk.2 _ _ k.g0 (by omega),kk.2 _ _ k.g1 (by omega),by have:=kk.1;have:=k.nx;omega⟩
structure FT (p c0:Nat)(K N:Int)(tm:T V):Prop where
 t0:(Opd.t 0).ev tm=.ptr p 0
 t3:(Opd.t 3).ev tm=.int .i64 K
 t4:(Opd.t 4).ev tm=.int .i64 N
 t10:(Opd.t 10).ev tm=.ptr c0 0
 t11:(Opd.t 11).ev tm=.ptr (c0+1) 0
 t12:(Opd.t 12).ev tm=.ptr (c0+2) 0
 t13:(Opd.t 13).ev tm=.ptr (c0+3) 0
set_option maxHeartbeats 8000000 in
theorem Made_ev {h0 h:H}{p:Nat}{x:V}{bs:List Int}{T:Int}(hs:h0.Sub h)(hw0:h0.wf)(hx:SlAt h0 x 1 (bs.map encU8))(hp0:h0.next≤p)(hp:SpAt h p x T)(hT:0≤T∧T≤10000000){M E K N:Int}(hM:1≤M∧M≤240)(hE:1≤E∧E≤4)(hK:0≤K∧K≤2)(hN:0≤N∧N≤6)(Q:V→H→Prop)
  (q:∀h' T' a ss gg tt C R G S Ga Tm,MkAt h0 h' p x T' a ss gg tt C R G S Ga Tm→Q (.tup [.agg (atV a C R G),.agg [S,Ga,Tm]]) h'):Ev fnG fastA (.fn 12 [] []) [.ptr p 0,.int .i64 M,.int .i64 E,.int .i64 K,.int .i64 N] h Q:=by
 have hw:=hs.wf
 have l0:=hs.next
 have hlp:p<h.next:=by obtain⟨st,g⟩:=hp;exact hw _ _ g
 refine Ev_body (fd:=c12) rfl rfl rfl ?_
 have s1:h.Sub ((h.add (.cells .rw [.int .i64 0,.int .i64 0,.nils,.nils,.nils])).add (.cells .rw [.nils,.nils,.nils])):=(by repeat(first|assumption|exact H.Sub.refl (by assumption)|refine H.Sub.add ?_ _|refine H.Sub.set ?_ (by first|omega|(simp only[H.next_add,H.next_set,H.next_del]<;>omega)) (by first|omega|(simp only[H.next_add,H.next_set,H.next_del]<;>omega)) (by assumption) _))
 have a0:((h.add (.cells .rw [.int .i64 0,.int .i64 0,.nils,.nils,.nils])).add (.cells .rw [.nils,.nils,.nils])).get h.next=some (.cells .rw [.int .i64 0,.int .i64 0,.nils,.nils,.nils]):=by simp -implicitDefEqProofs(maxSteps:=999999)(disch:=first|with_reducible rfl|omega|(simp only[nA,nS,nD]<;>omega)|fail)only[go_sem]
 have a1:((h.add (.cells .rw [.int .i64 0,.int .i64 0,.nils,.nils,.nils])).add (.cells .rw [.nils,.nils,.nils])).get (h.next+1)=some (.cells .rw [.nils,.nils,.nils]):=by simp -implicitDefEqProofs(maxSteps:=999999)(disch:=first|with_reducible rfl|omega|(simp only[nA,nS,nD]<;>omega)|fail)only[go_sem]
 have n1:((h.add (.cells .rw [.int .i64 0,.int .i64 0,.nils,.nils,.nils])).add (.cells .rw [.nils,.nils,.nils])).next=h.next+2:=by simp only[H.next_add]
 simp -implicitDefEqProofs(maxSteps:=999999)(disch:=first|with_reducible rfl|omega|(simp only[nA,nS,nD]<;>omega)|fail)only[c12,go_sem]
 generalize(h.add (.cells .rw [.int .i64 0,.int .i64 0,.nils,.nils,.nils])).add (.cells .rw [.nils,.nils,.nils])=h1 at s1 a0 a1 n1⊢
 refine From_ev (hs.trans s1) hw0 hx hp0 (hp.mono s1) (by omega) (by omega) (by omega) _ fun mins h2 m0 m1 s2 p2 k2 n2=>?_
 simp -implicitDefEqProofs(maxSteps:=999999)(disch:=first|with_reducible rfl|omega|(simp only[nA,nS,nD]<;>omega)|fail)only[go_sem]
 refine From_ev s2 hw0 hx hp0 p2 (by omega) (by omega) (by omega) _ fun evs h3 v0 v1 s3 p3 k3 n3=>?_
 have b0:=k3.2 _ _ (k2.2 _ _ a0 (by omega)) (by omega)
 have b1:=k3.2 _ _ (k2.2 _ _ a1 (by omega)) (by omega)
 have n3':h3.next=h.next+2:=by omega
 have e2:h.next+2=h3.next:=n3'.symm
 obtain⟨c0,hc0⟩:∃c0,h.next=c0:=⟨_,rfl⟩
 have k0:Mi h0 p x (c0+4) c0 ⟨mins,evs,[],[],[]⟩ [] [] [] (T+2) (fun _=>.nils) ((h3.add (.cells .rw [.int .i64 mins,.int .i64 evs,.nils,.nils,.nils])).add (.cells .rw [.nils,.nils,.nils])):=by
  have s5:h3.Sub ((h3.add (.cells .rw [.int .i64 mins,.int .i64 evs,.nils,.nils,.nils])).add (.cells .rw [.nils,.nils,.nils])):=((H.Sub.refl s3.wf).add _).add _
  have p3':=p3.mono s5
  rw[show T+1+1=T+2 by omega] at p3'
  refine⟨s3.trans s5,p3',⟨fun i hi=>?_,fun i hi b hb=>(blkOf_nils hb).elim,fun i j _ _ _ b hb=>(blkOf_nils hb).elim⟩,?_,?_,?_,?_,by simp only[H.next_add];omega⟩
  ·have:rowsM ⟨mins,evs,[],[],[]⟩ [] [] [] i=[]:=by rcases(by omega:i=0∨i=1∨i=2∨i=3∨i=4∨i=5) with rfl|rfl|rfl|rfl|rfl|rfl<;>rfl
   rw[this];exact(OwnSl.nil (s3.trans s5) _).c
  ·rw[get_add_old (by rw[H.next_add];omega),get_add_new (by omega)]
  ·rw[get_add_new (by rw[H.next_add];omega)]
  ·rw[←hc0];exact s5.get b0
  ·rw[←hc0];exact s5.get b1
 have hlp0:p<c0:=by omega
 have l00:h0.next≤c0:=by omega
 simp -implicitDefEqProofs(maxSteps:=999999)(disch:=first|with_reducible rfl|omega|(simp only[nA,nS,nD]<;>omega)|fail)only[go_sem]
 generalize(h3.add (.cells .rw [.int .i64 mins,.int .i64 evs,.nils,.nils,.nils])).add (.cells .rw [.nils,.nils,.nils])=h4 at k0⊢
 rw[n3',hc0,show c0+2+1=c0+3 from rfl]
 obtain⟨ev,hev⟩:∃ev:Nat,evs=ev:=⟨evs.toNat,by omega⟩
 subst hev
 refine W_count ev (fun i s=>∃tm z v tt T',s=⟨tm,z,[]⟩∧Mi h0 p x (c0+4) c0 ⟨mins,ev,[],[],[]⟩ [] [] tt T' v z∧tt.length=i∧(∀t∈tt,0≤t∧t≤mins)∧(0≤T'∧T'≤T+2+i)∧FT p c0 K N tm∧(Opd.t 26).ev tm=.int .i64 (ev:Int)∧(Opd.t 27).ev tm=.int .i64 (i:Int)) ?_ ?_ (i:=0) (Nat.zero_le _)
  ⟨_,_,_,[],_,rfl,k0,rfl,fun t ht=>absurd ht List.not_mem_nil,by omega,⟨(by simp[ev_c,ev_put]<;>rfl),(by simp[ev_c,ev_put]<;>rfl),(by simp[ev_c,ev_put]<;>rfl),(by simp[ev_c,ev_put]<;>rfl),(by simp[ev_c,ev_put]<;>rfl),(by simp[ev_c,ev_put]<;>rfl),(by simp[ev_c,ev_put]<;>rfl)⟩,(by simp[ev_c,ev_put]<;>rfl),(by simp[ev_c,ev_put]<;>rfl)⟩
 ·rintro i s hi ⟨tm,z,v,tt,T',rfl,k,lt,ht,hT',⟨e0,e3,e4,e10,e11,e12,e13⟩,e26,e27⟩
  have hi':(i:Int)<(ev:Int):=by omega
  have lz:=k.nx
  simp -implicitDefEqProofs(maxSteps:=999999)(disch:=first|with_reducible rfl|omega|(simp only[nA,nS,nD]<;>omega)|fail)only[go_sem,e0,e12,e13,e26,e27,hi',cells_of k.ga,cells_of k.gt]
  refine Upto_ev k.s hw0 hx hp0 k.sp (by omega) (by omega) _ fun r z1 r0 r1 u1 p1 q1 nn1=>?_
  have k1:=k.turn hlp0 rfl u1 p1 q1
  have u2:=(H.Sub.refl u1.wf).add (.cells .rw [.int .i64 r])
  have k2:=k1.mono u2
  have o2:=k2.sl.o 5 (by decide)
  have ov3:=(k2.sl.o 3 (by decide)).one
  have ov4:=(k2.sl.o 4 (by decide)).one
  have sn:SlAt (z1.add (.cells .rw [.int .i64 r])) (.sl z1.next 0 1 (.fix 1)) 1 [encI r]:=SlAt.new _ rfl rfl rfl (by simp[encI]) (by simp)
  have lr:(rowsM ⟨mins,ev,[],[],[]⟩ [] [] tt 5).length≤4:=by show(tt.map encI).length≤4;rw[List.length_map];omega
  simp -implicitDefEqProofs(maxSteps:=999999)(disch:=first|with_reducible rfl|omega|(simp only[nA,nS,nD]<;>omega)|fail)only[go_sem,e0,e12,e13,e26,e27,cells_of k.ga,cells_of k.gt,cells_of k1.ga,cells_of k1.gt]
  generalize z1.add (.cells .rw [.int .i64 r])=z2 at u2 k2 o2 sn⊢
  refine o2.app1 (by_:=8) (r:=encI r) hw0 rfl (by decide) sn rfl (by omega) (by omega) fun w z5 o5 n5 k5=>?_
  have ow:=o5.one
  have nb:¬blkOf (v 5) (c0+3):=fun hb=>by have:=k2.sl.lo 5 (by decide) _ hb;omega
  have g5:=k5.2 _ _ k2.gt nb
  have km:=k2.putT hw0 hlp0 rfl l00 k5 (fun b hb=>k2.sl.lo 5 (by decide) b hb) ((k2.sl.app (by decide) o5 n5 k2.nx k5).rw rows5) rfl rfl rfl
  simp -implicitDefEqProofs(maxSteps:=999999)(disch:=first|with_reducible rfl|omega|(simp only[nA,nS,nD]<;>omega)|fail)only[go_sem,e0,e12,e13,e26,e27,g5,ow,cells_one ow,wr_succ,cells_of k.ga,cells_of k1.ga,cells_of k2.ga,cells_of k.gt,cells_of k1.gt,cells_of k2.gt,cells_of g5]
  exact⟨_,_,_,tt++[r],T'+1,rfl,km,by rw[List.length_append,List.length_singleton];omega,fun t h=>(List.mem_append.1 h).elim (ht t) fun h=>by rw[List.mem_singleton] at h;subst h;omega,by omega,⟨(by simp[ev_c,ev_put,e0]<;>rfl),(by simp[ev_c,ev_put,e3]<;>rfl),(by simp[ev_c,ev_put,e4]<;>rfl),(by simp[ev_c,ev_put,e10]<;>rfl),(by simp[ev_c,ev_put,e11]<;>rfl),(by simp[ev_c,ev_put,e12]<;>rfl),(by simp[ev_c,ev_put,e13]<;>rfl)⟩,(by simp[ev_c,ev_put,e26]<;>rfl),(by simp[ev_c,ev_put]<;>rfl)⟩
 ·rintro s ⟨tm,z,v,tt,T',rfl,k,lt,ht,hT',⟨e0,e3,e4,e10,e11,e12,e13⟩,e26,e27⟩
  have hi':¬((ev:Int)<(ev:Int)):=by omega
  simp -implicitDefEqProofs(maxSteps:=999999)(disch:=first|with_reducible rfl|omega|(simp only[nA,nS,nD]<;>omega)|fail)only[go_sem,e0,e3,e4,e10,e11,e12,e13,e26,e27,hi']
  have lte:tt.length≤4:=by omega
  have rt:(tt.length:Int)=ev:=by omega
  refine Upto_ev k.s hw0 hx hp0 k.sp (by omega) (by omega) _ fun nc z1 c0' c1' u1 p1 q1 nn1=>?_
  obtain⟨nk,hnk⟩:∃nk:Nat,nc=nk:=⟨nc.toNat,by omega⟩
  subst hnk
  have k:=k.turn hlp0 rfl u1 p1 q1
  have mk:MkOk ⟨mins,ev,[],[],[]⟩ [] [] tt:=⟨by show 1≤mins∧mins≤240;omega,by show 1≤(ev:Int)∧(ev:Int)≤4;omega,Nat.zero_le _,Nat.zero_le _,Nat.zero_le _,rfl,rfl,lte,fun k c s g h=>by simp at h,fun c h=>absurd h List.not_mem_nil,ht,fun r h=>absurd h List.not_mem_nil,fun g h=>absurd h List.not_mem_nil⟩
  simp -implicitDefEqProofs(maxSteps:=999999)(disch:=first|with_reducible rfl|omega|(simp only[nA,nS,nD]<;>omega)|fail)only[go_sem,e0,e3,e4,e10,e11,e12,e13]
  refine W_count nk (fun i s=>∃tm z v a ss gg T',s=⟨tm,z,[]⟩∧Mi h0 p x (c0+4) c0 a ss gg tt T' v z∧MkOk a ss gg tt∧a.mins=mins∧a.evs=ev∧a.cks.length=i∧a.rds=[]∧a.gps=[]∧(0≤T'∧T'≤T+20+10*i)∧FT p c0 K N tm∧(Opd.t 41).ev tm=.int .i64 (nk:Int)∧(Opd.t 42).ev tm=.int .i64 (i:Int)) ?_ ?_ (i:=0) (Nat.zero_le _)
   ⟨_,_,_,_,[],[],_,rfl,k,mk,rfl,rfl,rfl,rfl,rfl,by omega,⟨(by simp[ev_c,ev_put,e0]<;>rfl),(by simp[ev_c,ev_put,e3]<;>rfl),(by simp[ev_c,ev_put,e4]<;>rfl),(by simp[ev_c,ev_put,e10]<;>rfl),(by simp[ev_c,ev_put,e11]<;>rfl),(by simp[ev_c,ev_put,e12]<;>rfl),(by simp[ev_c,ev_put,e13]<;>rfl)⟩,(by simp[ev_c,ev_put]<;>rfl),(by simp[ev_c,ev_put]<;>rfl)⟩
  ·clear mk k
   rintro i s hi ⟨tm,z,v,a,ss,gg,T',rfl,k,mk,am,ae,la,ar,ag,hT',⟨e0,e3,e4,e10,e11,e12,e13⟩,e41,e42⟩
   have hi':(i:Int)<(nk:Int):=by omega
   simp -implicitDefEqProofs(maxSteps:=999999)(disch:=first|with_reducible rfl|omega|(simp only[nA,nS,nD]<;>omega)|fail)only[go_sem,e0,e12,e13,e41,e42,hi']
   refine From_ev k.s hw0 hx hp0 k.sp (by omega) (by omega) (by omega) _ fun st za sa0 sa1 ua pa qa _=>?_
   have ka:=k.turn hlp0 rfl ua pa qa
   simp -implicitDefEqProofs(maxSteps:=999999)(disch:=first|with_reducible rfl|omega|(simp only[nA,nS,nD]<;>omega)|fail)only[go_sem,e0,e12,e13,e41,e42]
   refine From_ev ka.s hw0 hx hp0 ka.sp (by omega) (by omega) (by omega) _ fun gn zb gb0 gb1 ub pb qb _=>?_
   have kb:=ka.turn hlp0 rfl ub pb qb
   simp -implicitDefEqProofs(maxSteps:=999999)(disch:=first|with_reducible rfl|omega|(simp only[nA,nS,nD]<;>omega)|fail)only[go_sem,e0,e12,e13,e41,e42,cells_of kb.ga,cells_of kb.gt]
   refine around_ev kb.s hw0 hx hp0 kb.sp (by omega) (by omega) (by omega) (by omega) _ fun sl sh zc r1 r2 r3 r4 r5 uc pc qc=>?_
   have kc:=kb.turn hlp0 rfl uc pc qc
   simp -implicitDefEqProofs(maxSteps:=999999)(disch:=first|with_reducible rfl|omega|(simp only[nA,nS,nD]<;>omega)|fail)only[go_sem,e0,e12,e13,e41,e42,cells_of kb.ga,cells_of kb.gt,cells_of kc.ga,cells_of kc.gt]
   refine around_ev kc.s hw0 hx hp0 kc.sp (by omega) (by omega) (by omega) (by omega) _ fun gl gh zd y1 y2 y3 y4 y5 ud pd qd=>?_
   have kd:=kc.turn hlp0 rfl ud pd qd
   have ue:=(H.Sub.refl ud.wf).add (.cells .rw [.int .i64 sl,.int .i64 sh,.int .i64 gl,.int .i64 gh])
   have ke:=kd.mono ue
   have o0:=ke.sl.o 0 (by decide)
   have sn:SlAt (zd.add (.cells .rw [.int .i64 sl,.int .i64 sh,.int .i64 gl,.int .i64 gh])) (.sl zd.next 0 1 (.fix 1)) 4 [encC ⟨sl,sh,gl,gh⟩]:=SlAt.new _ rfl rfl rfl (by simp[encC]) (by simp)
   have hcl:=mk.cl
   have lr:(rowsM a ss gg tt 0).length≤2:=by show(a.cks.map encC).length≤2;rw[List.length_map];omega
   simp -implicitDefEqProofs(maxSteps:=999999)(disch:=first|with_reducible rfl|omega|(simp only[nA,nS,nD]<;>omega)|fail)only[go_sem,e0,e12,e13,e41,e42,cells_of kb.ga,cells_of kb.gt,cells_of kc.ga,cells_of kc.gt,cells_of kd.ga,cells_of kd.gt]
   generalize zd.add (.cells .rw [.int .i64 sl,.int .i64 sh,.int .i64 gl,.int .i64 gh])=ze at ue ke o0 sn⊢
   refine o0.app1 (by_:=32) (r:=encC ⟨sl,sh,gl,gh⟩) hw0 rfl (by decide) sn rfl (by omega) (by omega) fun w zf of nf kf=>?_
   have ow:=of.one
   have nb:¬blkOf (v 0) (c0+2):=fun hb=>by have:=ke.sl.lo 0 (by decide) _ hb;omega
   have nb3:¬blkOf (v 0) (c0+3):=fun hb=>by have:=ke.sl.lo 0 (by decide) _ hb;omega
   have gf:=kf.2 _ _ ke.ga nb
   have gf3:=kf.2 _ _ ke.gt nb3
   have kg:=ke.putA (a':={a with cks:=a.cks++[⟨sl,sh,gl,gh⟩]}) hw0 hlp0 rfl l00 kf (fun b hb=>ke.sl.lo 0 (by decide) b hb) ((ke.sl.app (by decide) of nf ke.nx kf).rw rows0) rfl rfl rfl rfl rfl
   simp -implicitDefEqProofs(maxSteps:=999999)(disch:=first|with_reducible rfl|omega|(simp only[nA,nS,nD]<;>omega)|fail)only[go_sem,e0,e12,e13,e41,e42,gf,ow,cells_one ow,cells_of kb.ga,cells_of kb.gt,cells_of kc.ga,cells_of kc.gt,cells_of kd.ga,cells_of kd.gt,cells_of ke.ga,cells_of gf,cells_of gf3]
   have nzg:(zf.set (c0+2) (.cells .rw [.int .i64 a.mins,.int .i64 a.evs,w,v 1,v 2])).next=zf.next:=H.next_set _ _ _
   have kg':Mi h0 p x (c0+4) c0 {a with cks:=a.cks++[⟨sl,sh,gl,gh⟩]} ss gg tt (T'+1+1+2+2) (updF v 0 w) (zf.set (c0+2) (.cells .rw [.int .i64 a.mins,.int .i64 a.evs,w,v 1,v 2])):=kg
   generalize zf.set (c0+2) (.cells .rw [.int .i64 a.mins,.int .i64 a.evs,w,v 1,v 2])=zg at kg' nzg⊢
   have uh:=(H.Sub.refl kg'.s.wf).add (.cells .rw [.int .i64 st])
   have kh:=kg'.mono uh
   have o3:OwnC h0 (zg.add (.cells .rw [.int .i64 st])) (v 3) 1 (ss.map encI):=kh.sl.o 3 (by decide)
   have lss:ss.length≤2:=by rw[mk.ls];exact hcl
   have lgg:gg.length≤2:=by rw[mk.lg];exact hcl
   have sn3:SlAt (zg.add (.cells .rw [.int .i64 st])) (.sl zf.next 0 1 (.fix 1)) 1 [encI st]:=SlAt.new _ nzg.symm rfl rfl (by simp[encI]) (by simp)
   have gg1:zg.get (c0+3)=some (.cells .rw [v 3,v 4,v 5]):=kg'.gt
   have gh1:(zg.add (.cells .rw [.int .i64 st])).get (c0+3)=some (.cells .rw [v 3,v 4,v 5]):=kh.gt
   generalize zg.add (.cells .rw [.int .i64 st])=zh at uh kh o3 sn3 gh1⊢
   refine o3.app1 (by_:=8) (r:=encI st) hw0 rfl (by decide) sn3 rfl (by rw[List.length_map];omega) (by rw[List.length_map];omega) fun w3 zi oi ni ki=>?_
   have ow3:=oi.one
   have nb4:¬blkOf (v 3) (c0+3):=fun hb=>by have:=kh.sl.lo 3 (by decide) _ hb;omega
   have gi:=ki.2 _ _ gh1 nb4
   have sl3:=(kh.sl.app (i:=3) (by decide) oi ni kh.nx ki).rw rows3
   have uj:=(H.Sub.refl oi.1.wf).add (.cells .rw [.int .i64 gn])
   have sl3j:=sl3.mono uj
   have o4:OwnC h0 (zi.add (.cells .rw [.int .i64 gn])) (v 4) 1 (gg.map encI):=sl3j.o 4 (by decide)
   have sn4:SlAt (zi.add (.cells .rw [.int .i64 gn])) (.sl zi.next 0 1 (.fix 1)) 1 [encI gn]:=SlAt.new _ rfl rfl rfl (by simp[encI]) (by simp)
   have gj:=uj.get gi
   have lj:=uj.next
   have li:=ki.1
   have lh:=kh.nx
   simp -implicitDefEqProofs(maxSteps:=999999)(disch:=first|with_reducible rfl|omega|(simp only[nA,nS,nD]<;>omega)|fail)only[go_sem,e0,e12,e13,e41,e42,cells_of gg1,cells_of gh1,cells_of gi]
   generalize zi.add (.cells .rw [.int .i64 gn])=zj at uj sl3j o4 sn4 gj lj⊢
   refine o4.app1 (by_:=8) (r:=encI gn) hw0 rfl (by decide) sn4 rfl (by rw[List.length_map];omega) (by rw[List.length_map];omega) fun w4 zk ok nk4 kk=>?_
   have ow4:=ok.one
   have ov5:=(sl3j.o 5 (by decide)).one
   have nb5:¬blkOf (v 4) (c0+3):=fun hb=>by have:=kh.sl.lo 4 (by decide) _ hb;omega
   have gk:=kk.2 _ _ gj nb5
   have sl4:=(sl3j.app (i:=4) (by decide) ok nk4 (by omega) kk).rw rows4
   have kq:Keeps (fun b=>blkOf (v 3) b∨blkOf (v 4) b) zh zk:=((ki.trans (Keeps.of uj (fun _=>False))).trans kk).mono fun b hb=>hb.elim (fun hb=>hb.elim .inl False.elim) .inr
   have km:=kh.putT hw0 hlp0 rfl l00 kq (fun b hb=>hb.elim (kh.sl.lo 3 (by decide) b) (kh.sl.lo 4 (by decide) b)) sl4 rfl rfl rfl
   simp -implicitDefEqProofs(maxSteps:=999999)(disch:=first|with_reducible rfl|omega|(simp only[nA,nS,nD]<;>omega)|fail)only[go_sem,e0,e12,e13,e41,e42,ow3,cells_one ow3,ow4,cells_one ow4,gk,cells_of gg1,cells_of gh1,cells_of gi,cells_of gj,cells_of gk,wr_succ]
   refine⟨_,_,_,_,_,_,_,rfl,km,mk.clock (by omega) ⟨r1,r2⟩ ⟨y1,y2⟩ ⟨r3,r4,r5⟩ ⟨y3,y4,y5⟩,am,ae,by simp only[List.length_append,List.length_singleton];omega,ar,ag,by omega,⟨(by simp[ev_c,ev_put,e0]<;>rfl),(by simp[ev_c,ev_put,e3]<;>rfl),(by simp[ev_c,ev_put,e4]<;>rfl),(by simp[ev_c,ev_put,e10]<;>rfl),(by simp[ev_c,ev_put,e11]<;>rfl),(by simp[ev_c,ev_put,e12]<;>rfl),(by simp[ev_c,ev_put,e13]<;>rfl)⟩,(by simp[ev_c,ev_put,e41]<;>rfl),(by simp[ev_c,ev_put]<;>rfl)⟩
  ·clear mk k
   rintro s ⟨tm,z,v,a,ss,gg,T',rfl,k,mk,am,ae,la,ar,ag,hT',⟨e0,e3,e4,e10,e11,e12,e13⟩,e41,e42⟩
   have hi':¬((nk:Int)<(nk:Int)):=by omega
   simp -implicitDefEqProofs(maxSteps:=999999)(disch:=first|with_reducible rfl|omega|(simp only[nA,nS,nD]<;>omega)|fail)only[go_sem,e0,e3,e4,e10,e11,e12,e13,e41,e42,hi']
   refine Upto_ev k.s hw0 hx hp0 k.sp (by omega) (by omega) _ fun nr z1 nr0 nr1 u1 p1 q1 nn1=>?_
   obtain⟨kr,hkr⟩:∃kr:Nat,nr=kr:=⟨nr.toNat,by omega⟩
   subst hkr
   have k:=k.turn hlp0 rfl u1 p1 q1
   simp -implicitDefEqProofs(maxSteps:=999999)(disch:=first|with_reducible rfl|omega|(simp only[nA,nS,nD]<;>omega)|fail)only[go_sem,e0,e3,e4,e10,e11,e12,e13]
   refine W_count kr (fun i s=>∃tm z v a T',s=⟨tm,z,[]⟩∧Mi h0 p x (c0+4) c0 a ss gg tt T' v z∧MkOk a ss gg tt∧a.mins=mins∧a.evs=ev∧a.rds.length≤i∧a.gps=[]∧(0≤T'∧T'≤T+100+10*i)∧FT p c0 K N tm∧(Opd.t 75).ev tm=.int .i64 (kr:Int)∧(Opd.t 76).ev tm=.int .i64 (i:Int)) ?_ ?_ (i:=0) (Nat.zero_le _)
    ⟨_,_,_,_,_,rfl,k,mk,am,ae,by rw[ar];exact Nat.zero_le _,ag,by omega,⟨(by simp[ev_c,ev_put,e0]<;>rfl),(by simp[ev_c,ev_put,e3]<;>rfl),(by simp[ev_c,ev_put,e4]<;>rfl),(by simp[ev_c,ev_put,e10]<;>rfl),(by simp[ev_c,ev_put,e11]<;>rfl),(by simp[ev_c,ev_put,e12]<;>rfl),(by simp[ev_c,ev_put,e13]<;>rfl)⟩,(by simp[ev_c,ev_put]<;>rfl),(by simp[ev_c,ev_put]<;>rfl)⟩
   ·clear mk k am ae ar ag la
    rintro i s hi ⟨tm,z,v,a,T',rfl,k,mk,am,ae,la,ag,hT',⟨e0,e3,e4,e10,e11,e12,e13⟩,e75,e76⟩
    have hi':(i:Int)<(kr:Int):=by omega
    have oC:=k.sl.o 0 (by decide)
    have hlC:q_len (v 0)=some (.int .i64 (a.cks.length:Int)):=(oC.sl (by show(a.cks.map encC).length≤_;rw[List.length_map];have:=mk.cl;omega)).lenE
    by_cases h0c:a.cks.length=0
    ·have hc':¬(0:Int)<(a.cks.length:Int):=by omega
     simp -implicitDefEqProofs(maxSteps:=999999)(disch:=first|with_reducible rfl|omega|(simp only[nA,nS,nD]<;>omega)|fail)only[go_sem,e0,e12,e13,e75,e76,hi',cells_of k.ga,hlC,hc',wr_succ]
     exact⟨_,_,_,_,_,rfl,k,mk,am,ae,by omega,ag,by omega,⟨(by simp[ev_c,ev_put,e0]<;>rfl),(by simp[ev_c,ev_put,e3]<;>rfl),(by simp[ev_c,ev_put,e4]<;>rfl),(by simp[ev_c,ev_put,e10]<;>rfl),(by simp[ev_c,ev_put,e11]<;>rfl),(by simp[ev_c,ev_put,e12]<;>rfl),(by simp[ev_c,ev_put,e13]<;>rfl)⟩,(by simp[ev_c,ev_put,e75]<;>rfl),(by simp[ev_c,ev_put]<;>rfl)⟩
    have hc':(0:Int)<(a.cks.length:Int):=by omega
    have hcl:=mk.cl
    have wc:wr .i64 ((a.cks.length:Int)-1)=(a.cks.length:Int)-1:=wr_in (by omega) (by omega)
    have we:wr .i64 (a.evs-1)=a.evs-1:=wr_in (by omega) (by omega)
    simp -implicitDefEqProofs(maxSteps:=999999)(disch:=first|with_reducible rfl|omega|(simp only[nA,nS,nD]<;>omega)|fail)only[go_sem,e0,e12,e13,e75,e76,hi',cells_of k.ga,hlC,hc',wc]
    refine Upto_ev k.s hw0 hx hp0 k.sp (by omega) (by omega) _ fun ik za ia0 ia1 ua pa qa _=>?_
    have ka:=k.turn hlp0 rfl ua pa qa
    simp -implicitDefEqProofs(maxSteps:=999999)(disch:=first|with_reducible rfl|omega|(simp only[nA,nS,nD]<;>omega)|fail)only[go_sem,e0,e12,e13,e75,e76,cells_of k.ga,cells_of ka.ga,we]
    refine Upto_ev ka.s hw0 hx hp0 ka.sp (by omega) (by omega) _ fun ie zb ib0 ib1 ub pb qb _=>?_
    have kb:=ka.turn hlp0 rfl ub pb qb
    obtain⟨jk,hjk⟩:∃jk:Nat,ik=jk:=⟨ik.toNat,by omega⟩
    obtain⟨je,hje⟩:∃je:Nat,ie=je:=⟨ie.toNat,by omega⟩
    subst hjk;subst hje
    have lss:=mk.ls
    have lgg:=mk.lg
    have hjs:jk<ss.length:=by omega
    have hjg:jk<gg.length:=by omega
    have hjt:je<tt.length:=by omega
    have uc:=(H.Sub.refl ub.wf).add (.cells .rw [.int .i64 (jk:Int),.int .i64 (je:Int),.int .i64 0])
    have kc:=kb.mono uc
    have g16:(zb.add (.cells .rw [.int .i64 (jk:Int),.int .i64 (je:Int),.int .i64 0])).get zb.next=some (.cells .rw [.int .i64 (jk:Int),.int .i64 (je:Int),.int .i64 0]):=get_add_new rfl
    have nzc:=H.next_add zb (.cells .rw [.int .i64 (jk:Int),.int .i64 (je:Int),.int .i64 0])
    obtain⟨zc,hzc⟩:∃zc,zb.add (.cells .rw [.int .i64 (jk:Int),.int .i64 (je:Int),.int .i64 0])=zc:=⟨_,rfl⟩
    rw[hzc] at uc kc g16 nzc
    have xs:SlAt zc (v 3) 1 (ss.map encI):=(kc.sl.o 3 (by decide)).sl (by show(ss.map encI).length≤_;rw[List.length_map];omega)
    have xg:SlAt zc (v 4) 1 (gg.map encI):=(kc.sl.o 4 (by decide)).sl (by show(gg.map encI).length≤_;rw[List.length_map];omega)
    have xt:SlAt zc (v 5) 1 (tt.map encI):=(kc.sl.o 5 (by decide)).sl (by show(tt.map encI).length≤_;rw[List.length_map];omega)
    obtain⟨bs3,os3,cs3,rs3,es3,hs3,qs3,_,_,ns3⟩:=xs.at hjs
    obtain⟨bs4,os4,cs4,rs4,es4,hs4,qs4,_,_,ns4⟩:=xg.at hjg
    obtain⟨bs5,os5,cs5,rs5,es5,hs5,qs5,_,_,ns5⟩:=xt.at hjt
    have v3:=ns3 (by decide)
    have v4:=ns4 (by decide)
    have v5:=ns5 (by decide)
    simp only[encI,List.getElem?_cons_zero] at v3 v4 v5
    have i3:ss[jk]? =some ss[jk]:=List.getElem?_eq_getElem hjs
    have i4:gg[jk]? =some gg[jk]:=List.getElem?_eq_getElem hjg
    have i5:tt[je]? =some tt[je]:=List.getElem?_eq_getElem hjt
    have hrun:=mk.run i3 i4
    have htm:=mk.tm _ (List.getElem_mem hjt)
    generalize ss[jk]=sv at v3 i3 hrun
    generalize gg[jk]=gv at v4 i4 hrun
    generalize tt[je]=tv at v5 i5 htm
    simp -implicitDefEqProofs(maxSteps:=999999)(disch:=first|with_reducible rfl|omega|(simp only[nA,nS,nD]<;>omega)|fail)only[go_sem,e0,e12,e13,e75,e76,cells_of k.ga,cells_of ka.ga,cells_of kb.ga,hzc,cells_of kc.gt,cells_of g16,qs3 (nat_cst jk),qs4 (nat_cst jk),qs5 (nat_cst je),hs3,hs4,hs5,v3,v4,v5]
    refine lshows_ev kc.s.wf hrun htm.1 (by omega) _ ?_
    subst hzc
    have ud:=(H.Sub.refl ub.wf).add (.cells .rw [.int .i64 (jk:Int),.int .i64 (je:Int),.int .i64 (shw sv gv tv)])
    have kd:=kb.mono ud
    have gd16:(zb.add (.cells .rw [.int .i64 (jk:Int),.int .i64 (je:Int),.int .i64 (shw sv gv tv)])).get zb.next=some (.cells .rw [.int .i64 (jk:Int),.int .i64 (je:Int),.int .i64 (shw sv gv tv)]):=get_add_new rfl
    have nzd:=H.next_add zb (.cells .rw [.int .i64 (jk:Int),.int .i64 (je:Int),.int .i64 (shw sv gv tv)])
    simp -implicitDefEqProofs(maxSteps:=999999)(disch:=first|with_reducible rfl|omega|(simp only[nA,nS,nD]<;>omega)|fail)only[go_sem,e0,e12,e13,e75,e76,cells_of kc.gt,cells_of g16,g16,qs3 (nat_cst jk),qs4 (nat_cst jk),qs5 (nat_cst je),hs3,hs4,hs5,v3,v4,v5,cells_of kd.ga,cells_of gd16]
    generalize zb.add (.cells .rw [.int .i64 (jk:Int),.int .i64 (je:Int),.int .i64 (shw sv gv tv)])=zd at ud kd gd16 nzd⊢
    have ue:=(H.Sub.refl ud.wf).add (.cells .rw [.int .i64 (jk:Int),.int .i64 (je:Int),.int .i64 (shw sv gv tv)])
    have ke:=kd.mono ue
    have o1:=ke.sl.o 1 (by decide)
    have sn:SlAt (zd.add (.cells .rw [.int .i64 (jk:Int),.int .i64 (je:Int),.int .i64 (shw sv gv tv)])) (.sl zd.next 0 1 (.fix 1)) 3 [encR ⟨jk,je,shw sv gv tv⟩]:=SlAt.new _ rfl rfl rfl (by simp[encR]) (by simp)
    rw[nzd] at sn
    have hrl:=mk.rl
    have lr:(rowsM a ss gg tt 1).length≤6:=by show(a.rds.map encR).length≤6;rw[List.length_map];omega
    skip
    generalize zd.add (.cells .rw [.int .i64 (jk:Int),.int .i64 (je:Int),.int .i64 (shw sv gv tv)])=ze at ue ke o1 sn⊢
    refine o1.app1 (by_:=24) (r:=encR ⟨jk,je,shw sv gv tv⟩) hw0 rfl (by decide) sn rfl (by omega) (by omega) fun w zf of nf kf=>?_
    have ow:=of.one
    have nb:¬blkOf (v 1) (c0+2):=fun hb=>by have:=ke.sl.lo 1 (by decide) _ hb;omega
    have gf:=kf.2 _ _ ke.ga nb
    have kg:=ke.putA (a':={a with rds:=a.rds++[⟨jk,je,shw sv gv tv⟩]}) hw0 hlp0 rfl l00 kf (fun b hb=>ke.sl.lo 1 (by decide) b hb) ((ke.sl.app (by decide) of nf ke.nx kf).rw rows1) rfl rfl rfl rfl rfl
    simp -implicitDefEqProofs(maxSteps:=999999)(disch:=first|with_reducible rfl|omega|(simp only[nA,nS,nD]<;>omega)|fail)only[go_sem,e0,e12,e13,e75,e76,gf,ow,cells_one ow,cells_of kd.ga,cells_of ke.ga,wr_succ]
    exact⟨_,_,_,_,_,rfl,kg,mk.read (by omega) i3 i4 i5,am,ae,by simp only[List.length_append,List.length_singleton];omega,ag,by omega,⟨(by simp[ev_c,ev_put,e0]<;>rfl),(by simp[ev_c,ev_put,e3]<;>rfl),(by simp[ev_c,ev_put,e4]<;>rfl),(by simp[ev_c,ev_put,e10]<;>rfl),(by simp[ev_c,ev_put,e11]<;>rfl),(by simp[ev_c,ev_put,e12]<;>rfl),(by simp[ev_c,ev_put,e13]<;>rfl)⟩,(by simp[ev_c,ev_put,e75]<;>rfl),(by simp[ev_c,ev_put]<;>rfl)⟩
   ·clear mk k am ae ar ag la
    rintro s ⟨tm,z,v,a,T',rfl,k,mk,am,ae,la,ag,hT',⟨e0,e3,e4,e10,e11,e12,e13⟩,e75,e76⟩
    have hi':¬((kr:Int)<(kr:Int)):=by omega
    simp -implicitDefEqProofs(maxSteps:=999999)(disch:=first|with_reducible rfl|omega|(simp only[nA,nS,nD]<;>omega)|fail)only[go_sem,e0,e3,e4,e10,e11,e12,e13,e75,e76,hi']
    refine Upto_ev k.s hw0 hx hp0 k.sp (by omega) (by omega) _ fun nr z1 ng0 ng1 u1 p1 q1 nn1=>?_
    obtain⟨kn,hkn⟩:∃kn:Nat,nr=kn:=⟨nr.toNat,by omega⟩
    subst hkn
    have k:=k.turn hlp0 rfl u1 p1 q1
    simp -implicitDefEqProofs(maxSteps:=999999)(disch:=first|with_reducible rfl|omega|(simp only[nA,nS,nD]<;>omega)|fail)only[go_sem,e0,e3,e4,e10,e11,e12,e13]
    refine W_count kn (fun i s=>∃tm z v a T',s=⟨tm,z,[]⟩∧Mi h0 p x (c0+4) c0 a ss gg tt T' v z∧MkOk a ss gg tt∧a.mins=mins∧a.evs=ev∧a.gps.length=i∧(0≤T'∧T'≤T+1000+10*i)∧FT p c0 K N tm∧(Opd.t 122).ev tm=.int .i64 (kn:Int)∧(Opd.t 123).ev tm=.int .i64 (i:Int)) ?_ ?_ (i:=0) (Nat.zero_le _)
     ⟨_,_,_,_,_,rfl,k,mk,am,ae,by rw[ag];rfl,by omega,⟨(by simp[ev_c,ev_put,e0]<;>rfl),(by simp[ev_c,ev_put,e3]<;>rfl),(by simp[ev_c,ev_put,e4]<;>rfl),(by simp[ev_c,ev_put,e10]<;>rfl),(by simp[ev_c,ev_put,e11]<;>rfl),(by simp[ev_c,ev_put,e12]<;>rfl),(by simp[ev_c,ev_put,e13]<;>rfl)⟩,(by simp[ev_c,ev_put]<;>rfl),(by simp[ev_c,ev_put]<;>rfl)⟩
    ·clear mk k am ae ag la
     rintro i s hi ⟨tm,z,v,a,T',rfl,k,mk,am,ae,la,hT',⟨e0,e3,e4,e10,e11,e12,e13⟩,e122,e123⟩
     have hi':(i:Int)<(kn:Int):=by omega
     have we:wr .i64 (a.evs-1)=a.evs-1:=wr_in (by omega) (by omega)
     simp -implicitDefEqProofs(maxSteps:=999999)(disch:=first|with_reducible rfl|omega|(simp only[nA,nS,nD]<;>omega)|fail)only[go_sem,e0,e12,e13,e122,e123,hi',cells_of k.ga,we]
     refine Upto_ev k.s hw0 hx hp0 k.sp (by omega) (by omega) _ fun ik za ia0 ia1 ua pa qa _=>?_
     have ka:=k.turn hlp0 rfl ua pa qa
     simp -implicitDefEqProofs(maxSteps:=999999)(disch:=first|with_reducible rfl|omega|(simp only[nA,nS,nD]<;>omega)|fail)only[go_sem,e0,e12,e13,e122,e123,cells_of k.ga,cells_of ka.ga,we]
     refine Upto_ev ka.s hw0 hx hp0 ka.sp (by omega) (by omega) _ fun ie zb ib0 ib1 ub pb qb _=>?_
     have kb:=ka.turn hlp0 rfl ub pb qb
     obtain⟨jk,hjk⟩:∃jk:Nat,ik=jk:=⟨ik.toNat,by omega⟩
     obtain⟨je,hje⟩:∃je:Nat,ie=je:=⟨ie.toNat,by omega⟩
     subst hjk;subst hje
     have hjk:jk<tt.length:=by omega
     have hjt:je<tt.length:=by omega
     have uc:=(H.Sub.refl ub.wf).add (.cells .rw [.int .i64 (jk:Int),.int .i64 (je:Int),.int .i64 0,.int .i64 0])
     have kc:=kb.mono uc
     have g17:(zb.add (.cells .rw [.int .i64 (jk:Int),.int .i64 (je:Int),.int .i64 0,.int .i64 0])).get zb.next=some (.cells .rw [.int .i64 (jk:Int),.int .i64 (je:Int),.int .i64 0,.int .i64 0]):=get_add_new rfl
     have nzc:=H.next_add zb (.cells .rw [.int .i64 (jk:Int),.int .i64 (je:Int),.int .i64 0,.int .i64 0])
     obtain⟨zc,hzc⟩:∃zc,zb.add (.cells .rw [.int .i64 (jk:Int),.int .i64 (je:Int),.int .i64 0,.int .i64 0])=zc:=⟨_,rfl⟩
     rw[hzc] at uc kc g17 nzc
     have xt:SlAt zc (v 5) 1 (tt.map encI):=(kc.sl.o 5 (by decide)).sl (by show(tt.map encI).length≤_;rw[List.length_map];omega)
     obtain⟨bs4,os4,cs4,rs4,es4,hs4,qs4,_,_,ns4⟩:=xt.at hjk
     obtain⟨bs5,os5,cs5,rs5,es5,hs5,qs5,_,_,ns5⟩:=xt.at hjt
     have v4:=ns4 (by decide)
     have v5:=ns5 (by decide)
     simp only[encI,List.getElem?_cons_zero] at v4 v5
     have i4:tt[jk]? =some tt[jk]:=List.getElem?_eq_getElem hjk
     have i5:tt[je]? =some tt[je]:=List.getElem?_eq_getElem hjt
     have htm:=mk.tm _ (List.getElem_mem hjt)
     have htk:=mk.tm _ (List.getElem_mem hjk)
     generalize tt[jk]=kv at v4 i4 htk
     generalize tt[je]=tv at v5 i5 htm
     have wd:wr .i64 (tv-kv)=tv-kv:=wr_in (by omega) (by omega)
     simp -implicitDefEqProofs(maxSteps:=999999)(disch:=first|with_reducible rfl|omega|(simp only[nA,nS,nD]<;>omega)|fail)only[go_sem,e0,e12,e13,e122,e123,cells_of k.ga,cells_of ka.ga,cells_of kb.ga,hzc,cells_of kc.gt,cells_of g17,qs4 (nat_cst jk),qs5 (nat_cst je),hs4,hs5,v4,v5,wd]
     refine around_ev kc.s hw0 hx hp0 kc.sp (by omega) (by omega) (by omega) (by omega) _ fun lo hi zd r1 r2 r3 r4 r5 ud pd qd=>?_
     have kd:=kc.turn hlp0 rfl ud pd qd
     have lkb:=kb.nx
     have g17d:=qd.2 _ _ g17 (by omega)
     have lzd:=qd.1
     have qe:=Keeps.set zd zb.next (.cells .rw [.int .i64 (jk:Int),.int .i64 (je:Int),.int .i64 lo,.int .i64 hi])
     have ue:h0.Sub (zd.set zb.next (.cells .rw [.int .i64 (jk:Int),.int .i64 (je:Int),.int .i64 lo,.int .i64 hi])):=ud.set (by have:=ub.next;omega) (by omega) hw0 _
     have ke:=kd.side hlp0 rfl lkb (fun i hi b hb e=>by have:=((kb.sl.o i hi).blk hb).2.1;omega) ue qe
     have ge17:(zd.set zb.next (.cells .rw [.int .i64 (jk:Int),.int .i64 (je:Int),.int .i64 lo,.int .i64 hi])).get zb.next=some (.cells .rw [.int .i64 (jk:Int),.int .i64 (je:Int),.int .i64 lo,.int .i64 hi]):=get_set_same rfl
     have hs5d:=hs5;have hs4d:=hs4
     simp -implicitDefEqProofs(maxSteps:=999999)(disch:=first|with_reducible rfl|omega|(simp only[nA,nS,nD]<;>omega)|fail)only[go_sem,e0,e12,e13,e122,e123,cells_of kc.gt,cells_of kd.gt,cells_of g17,cells_of g17d,g17d,qs4 (nat_cst jk),qs5 (nat_cst je),hs4,hs5,v4,v5,cells_of ke.ga,cells_of ge17]
     have nze:(zd.set zb.next (.cells .rw [.int .i64 (jk:Int),.int .i64 (je:Int),.int .i64 lo,.int .i64 hi])).next=zd.next:=H.next_set _ _ _
     generalize zd.set zb.next (.cells .rw [.int .i64 (jk:Int),.int .i64 (je:Int),.int .i64 lo,.int .i64 hi])=ze at ue ke ge17 nze⊢
     have uf:=(H.Sub.refl ue.wf).add (.cells .rw [.int .i64 (jk:Int),.int .i64 (je:Int),.int .i64 lo,.int .i64 hi])
     have kf':=ke.mono uf
     have o2:=kf'.sl.o 2 (by decide)
     have sn:SlAt (ze.add (.cells .rw [.int .i64 (jk:Int),.int .i64 (je:Int),.int .i64 lo,.int .i64 hi])) (.sl zd.next 0 1 (.fix 1)) 4 [encG ⟨jk,je,lo,hi⟩]:=SlAt.new _ nze.symm rfl rfl (by simp[encG]) (by simp)
     have hgl:=mk.gl
     have lr:(rowsM a ss gg tt 2).length≤2:=by show(a.gps.map encG).length≤2;rw[List.length_map];omega
     generalize ze.add (.cells .rw [.int .i64 (jk:Int),.int .i64 (je:Int),.int .i64 lo,.int .i64 hi])=zf at uf kf' o2 sn⊢
     refine o2.app1 (by_:=32) (r:=encG ⟨jk,je,lo,hi⟩) hw0 rfl (by decide) sn rfl (by omega) (by omega) fun w zg og ng kg=>?_
     have ow:=og.one
     have nb:¬blkOf (v 2) (c0+2):=fun hb=>by have:=kf'.sl.lo 2 (by decide) _ hb;omega
     have gg:=kg.2 _ _ kf'.ga nb
     have km:=kf'.putA (a':={a with gps:=a.gps++[⟨jk,je,lo,hi⟩]}) hw0 hlp0 rfl l00 kg (fun b hb=>kf'.sl.lo 2 (by decide) b hb) ((kf'.sl.app (by decide) og ng kf'.nx kg).rw rows2) rfl rfl rfl rfl rfl
     simp -implicitDefEqProofs(maxSteps:=999999)(disch:=first|with_reducible rfl|omega|(simp only[nA,nS,nD]<;>omega)|fail)only[go_sem,e0,e12,e13,e122,e123,gg,ow,cells_one ow,wr_succ]
     exact⟨_,_,_,_,_,rfl,km,mk.gap (by omega) i4 i5 ⟨r1,r2⟩ ⟨r3,r4⟩,am,ae,by simp only[List.length_append,List.length_singleton];omega,by omega,⟨(by simp[ev_c,ev_put,e0]<;>rfl),(by simp[ev_c,ev_put,e3]<;>rfl),(by simp[ev_c,ev_put,e4]<;>rfl),(by simp[ev_c,ev_put,e10]<;>rfl),(by simp[ev_c,ev_put,e11]<;>rfl),(by simp[ev_c,ev_put,e12]<;>rfl),(by simp[ev_c,ev_put,e13]<;>rfl)⟩,(by simp[ev_c,ev_put,e122]<;>rfl),(by simp[ev_c,ev_put]<;>rfl)⟩
    ·rintro s ⟨tm,z,v,a,T',rfl,k,mk,am,ae,la,hT',⟨e0,e3,e4,e10,e11,e12,e13⟩,e122,e123⟩
     have hi':¬((kn:Int)<(kn:Int)):=by omega
     have oo:=fun i (hi:i<6)=>(k.sl.o i hi).one
     have y0:=oo 0 (by decide);have y1:=oo 1 (by decide);have y2:=oo 2 (by decide);have y3:=oo 3 (by decide);have y4:=oo 4 (by decide);have y5:=oo 5 (by decide)
     have lz:=k.nx
     simp -implicitDefEqProofs(maxSteps:=999999)(disch:=first|with_reducible rfl|omega|(simp only[nA,nS,nD]<;>omega)|fail)only[go_sem,e0,e3,e4,e10,e11,e12,e13,e122,e123,hi',cells_of k.ga,cells_of k.gt,k.g0,k.g1,y0,y1,y2,y3,y4,y5]
     have s7:h0.Sub ((z.set c0 (.cells .rw [.int .i64 a.mins,.int .i64 a.evs,v 0,v 1,v 2])).set (c0+1) (.cells .rw [v 3,v 4,v 5])):=(k.s.set l00 (by omega) hw0 _).set (by omega) (by rw[H.next_set];omega) hw0 _
     have kz:=(Keeps.set z c0 (.cells .rw [.int .i64 a.mins,.int .i64 a.evs,v 0,v 1,v 2])).trans (Keeps.set (z.set c0 (.cells .rw [.int .i64 a.mins,.int .i64 a.evs,v 0,v 1,v 2])) (c0+1) (.cells .rw [v 3,v 4,v 5]))
     have sl:=k.sl.keep kz s7 fun b hb=>by rcases hb with hb|hb<;>omega
     have q1:=mk.cl;have q2:=mk.rl;have q3:=mk.gl;have q4:=mk.ls;have q5:=mk.lg
     have w:∀i,i<6→(rowsM a ss gg tt i).length≤6→SlAt _ (v i) (sz6 i) (rowsM a ss gg tt i):=fun i hi hl=>(sl.o i hi).sl (by omega)
     exact q _ T' a ss gg tt _ _ _ _ _ _ ⟨s7,k.sp.keep kz (by omega),⟨w 0 (by decide) (by show(a.cks.map encC).length≤6;rw[List.length_map];omega),w 1 (by decide) (by show(a.rds.map encR).length≤6;rw[List.length_map];omega),w 2 (by decide) (by show(a.gps.map encG).length≤6;rw[List.length_map];omega)⟩,
      w 3 (by decide) (by show(ss.map encI).length≤6;rw[List.length_map];omega),w 4 (by decide) (by show(gg.map encI).length≤6;rw[List.length_map];omega),w 5 (by decide) (by show(tt.map encI).length≤6;rw[List.length_map];omega),mk,by omega⟩
end Go.Ab.Try
namespace Go.Ab.Try
open Go.Proofs
theorem low_le {L:List Int}(hL:L.length=25){a b:Nat}(ha:a<5)(hb:b<5)(v:Int){x y:Nat}(hx:x<5)(hy:y<5):mg (low L a b v) x y≤mg L x y:=by
 rw[mg_low hL ha hb v x y hx hy]
 split
 ·rename_i e;obtain⟨rfl,rfl⟩:=e;omega
 ·exact Int.le_refl _
theorem rdL_le {L:List Int}(hL:L.length=25){e:Nat}(he:e<5)(s:Int × Int){x y:Nat}(hx:x<5)(hy:y<5):mg (rdL L e s) x y≤mg L x y:=
 Int.le_trans (low_le (by rw[low_len];exact hL) he (by decide) _ hx hy) (low_le hL (by decide) he _ hx hy)
theorem readsL_le {a:At}(r:Right a){cnt:Nat→Bool}{k:Int}{x:Int × Int}{u v:Nat}(hu:u<5)(hv:v<5):∀{l:List Rd} {i:Nat} {L:List Int},(∀r∈l,r∈a.rds)→L.length=25→mg (readsL a cnt k x l i L).1 u v≤mg L u v
 |[],_,_,_,_=>Int.le_refl _
 |rd::l,i,L,hl,hL=>by
  obtain⟨yk,ye,ek,ee,hyk,hye,_⟩:=r.rd (hl rd (List.mem_cons_self ..))
  have hl':=fun x hx=>hl x (List.mem_cons_of_mem _ hx)
  rw[readsL]
  split
  ·exact readsL_le r hu hv hl' hL
  ·split
   ·exact Int.le_refl _
   ·exact Int.le_trans (readsL_le r hu hv hl' (by rw[rdL,low_len,low_len];exact hL)) (rdL_le hL (by omega) _ hu hv)
theorem readL_le {a:At}(r:Right a){cnt:Nat→Bool}{k:Int}{x:Int × Int}{L:List Int}(hL:In5 240 L)(ht:(readL a cnt k x L).2=true){u v:Nat}(hu:u<5)(hv:v<5):mg (readL a cnt k x L).1 u v≤mg L u v:=by
 have hin:=readsL_in (cnt:=cnt) (k:=k) (x:=x) (i:=0) r (fun y (hy:y∈a.rds)=>hy) hL
 unfold readL at ht⊢
 by_cases h1:(readsL a cnt k x a.rds 0 L).2=true
 ·rw[if_pos h1] at ht⊢
  exact Int.le_trans (((clos_spec (by decide) (by decide) hin).1 ht).2.2.1 u v hu hv) (readsL_le r hu hv (fun r hr=>hr) hL.len)
 ·rw[if_neg h1] at ht;cases ht
theorem moreL_le {a:At}(r:Right a){cnt:Nat→Bool}{u v:Nat}(hu:u<5)(hv:v<5):∀{n:Nat} {runs:Runs} {L:List Int},In5 240 L→∀t∈moreL a cnt n runs L,mg t.2 u v≤mg L u v
 |0,runs,L,h,t,ht=>by rw[moreL,List.mem_singleton] at ht;rw[ht];exact Int.le_refl _
 |n+1,runs,L,h,t,ht=>by
  unfold moreL at ht
  cases hc:a.cks[runs.length]? with
  |none=>rw[hc] at ht;cases ht
  |some c=>
   rw[hc] at ht
   simp only[List.mem_flatMap] at ht
   obtain⟨i,_,j,_,ht⟩:=ht
   split at ht
   ·rename_i hk;exact Int.le_trans (moreL_le r hu hv (readL_in r h hk) t ht) (readL_le r h hk hu hv)
   ·cases ht
theorem gaps_le {a:At}(r:Right a){u v:Nat}(hu:u<5)(hv:v<5):∀{l:List Gp} {L:List Int},(∀g∈l,g∈a.gps)→L.length=25→mg (l.foldl gapL L) u v≤mg L u v
 |[],_,_,_=>Int.le_refl _
 |g::l,L,hl,hL=>by
  obtain⟨f,t,e1,e2,hf,ht,_⟩:=r.gap (hl g (List.mem_cons_self ..))
  rw[List.foldl_cons]
  refine Int.le_trans (gaps_le r hu hv (fun x hx=>hl x (List.mem_cons_of_mem _ hx)) (by rw[gapL,low_len,low_len];exact hL)) ?_
  rw[gapL,e1,e2,Int.toNat_natCast,Int.toNat_natCast]
  exact Int.le_trans (low_le (by rw[low_len];exact hL) (by omega) (by omega) _ hu hv) (low_le hL (by omega) (by omega) _ hu hv)
theorem cases_diag {a:At}(r:Right a){cnt:Nat→Bool}{t:Runs × List Int}(ht:t∈casesL a cnt){u:Nat}(hu:u<5):mg t.2 u u=0:=by
 have hd:=(cases_sound r ht).1.diag u hu
 unfold casesL at ht
 split at ht
 ·rename_i hc
  have h1:=moreL_le r hu hu (free_clos_in r hc) t ht
  have h2:=((clos_spec (by decide) (by decide) (freeL_in r)).1 hc).2.2.1 u u hu hu
  have h3:mg (freeL a) u u≤mg (bsL a.mins) u u:=gaps_le r hu hu (fun g hg=>hg) (bsU_len _ _ _)
  rw[mg_bs _ hu hu,if_pos (.inr rfl)] at h3
  omega
 ·cases ht
abbrev allM (a:At):List (List Int):=(allC a).map Prod.snd
theorem betw_self {a:At}(r:Right a)(hne:allC a≠[]){u:Nat}(hu:u<5):betw u u (allM a)=(0,0):=by
 obtain⟨M,hM,h1⟩:=betw_ex (f:=u) (t:=u) (l:=allM a) (fun e=>hne (List.map_eq_nil_iff.1 e))
 obtain⟨t,ht,rfl⟩:=List.mem_map.1 hM
 have h2:(betw u u (allM a)).2=0:=by rw[h1];exact cases_diag r ht hu
 have h3:=betw_dual (f:=u) (t:=u) (allM a)
 have h4:=congrArg Prod.snd h3
 simp only at h4
 exact Prod.ext (by show(betw u u (allM a)).1=0;omega) h2
theorem errT_ok {a:At}(r:Right a)(hne:allC a≠[]):errT a false=0:=by
 unfold errT;rw[if_neg (by rw[checkA_iff.2 r];simp),if_neg (by simp),if_neg hne]
theorem btwR_ok {a:At}(r:Right a)(hne:allC a≠[]){f t:Nat}(hf:a.evB f=true)(ht:a.evB t=true):btwR a f t=(betw f t (allM a),0):=by
 have:errT a (!a.evB f|| !a.evB t)=0:=by rw[hf,ht];exact errT_ok r hne
 rw[btwR,if_neg (by rw[this];simp),Int.toNat_natCast,Int.toNat_natCast]
theorem timeR_ok {a:At}(r:Right a)(hne:allC a≠[]){e:Nat}(he:a.evB e=true):timeR a e=(betw 4 e (allM a),0):=by
 have:errT a (!a.evB e)=0:=by rw[he];exact errT_ok r hne
 rw[timeR,if_neg (by rw[this];simp),Int.toNat_natCast]
end Go.Ab.Try
namespace Go.Ab
theorem a_msl_nn {h:H}{by_ n:Nat}{z:List V}(h1:n*by_≤1099511627776)(h2:n≤1099511627776):
  a_msl h by_ z (.int .i64 (n:Int)) (.int .i64 (n:Int))=some (.sl h.next 0 n (.fix n),h.add (.cells .rw (repN n z))):=by
 have e1:Nat.ble (n*by_) 1099511627776=true:=by simpa using h1
 have e2:Nat.ble n 1099511627776=true:=by simpa using h2
 have e3:Nat.ble n n=true:=by simp
 simp only[a_msl,nat_cst,e1,e2,e3,og_true,lf_eq]
def vsN (n:Nat)(v:Nat→V):List V:=(List.range n).map v
theorem vsN_len (n:Nat)(v:Nat→V):(vsN n v).length=n:=by simp[vsN]
theorem vsN_get {n:Nat}{v:Nat→V}{k:Nat}(hk:k<n):(vsN n v)[k]? =some (v k):=by rw[vsN,List.getElem?_map,List.getElem?_range hk];rfl
theorem nth_vsN {n:Nat}{v:Nat→V}{k:Nat}(hk:k<n):nth (k*1) (vsN n v)=some (v k):=by rw[nth_eq,Nat.mul_one,vsN_get hk]
theorem repN_nils:∀n,repN n [V.nils]=vsN n fun _=>.nils
 |0=>rfl
 |n+1=>by
  rw[repN,appN_eq,repN_nils n]
  refine List.ext_getElem? fun k=>?_
  unfold vsN
  rw[List.map_const',List.map_const',List.length_range,List.length_range]
  show(List.replicate (n+1) V.nils)[k]? =_
  rfl
theorem put_vsN {h:H}{b k n:Nat}{v:Nat→V}{w:V}(hb:h.get b=some (.cells .rw (vsN n v)))(hk:k<n)(ho:w.one=true):h.put b (k*1) [w]=some (h.set b (.cells .rw (vsN n (updF v k w)))):=by
 rw[Nat.mul_one]
 refine H.put_rw (by rw[allOne_cons,ho];rfl) hb ((putN_eq (by simp)).2 ⟨?_,by rw[vsN_len,List.length_singleton];omega⟩)
 refine List.ext_getElem? fun j=>?_
 rcases Nat.lt_trichotomy j k with hj|hj|hj
 ·rw[vsN_get (by omega),updF_other _ _ (by omega),List.getElem?_append_left (by rw[List.length_append,List.length_take,vsN_len];omega),List.getElem?_append_left (by rw[List.length_take,vsN_len];omega),List.getElem?_take_of_lt hj,vsN_get (by omega)]
 ·subst hj
  rw[vsN_get hk,updF_same,List.getElem?_append_left (by rw[List.length_append,List.length_take,vsN_len,List.length_singleton];omega),List.getElem?_append_right (by rw[List.length_take,vsN_len];omega),List.length_take,vsN_len]
  simp[Nat.min_eq_left (Nat.le_of_lt hk)]
 ·rcases Nat.lt_or_ge j n with hn|hn
  ·rw[vsN_get hn,updF_other _ _ (by omega),List.getElem?_append_right (by rw[List.length_append,List.length_take,vsN_len,List.length_singleton];omega),List.length_append,List.length_take,vsN_len,List.length_singleton,List.getElem?_drop,Nat.min_eq_left (Nat.le_of_lt hk),show k+1+(j-(k+1))=j by omega,vsN_get hn]
  ·rw[List.getElem?_eq_none (by rw[vsN_len];exact hn),List.getElem?_eq_none (by rw[List.length_append,List.length_append,List.length_take,List.length_drop,vsN_len,List.length_singleton];omega)]
end Go.Ab
namespace Go.Ab.Try
open Go.Proofs
def encS (s:Int × Int):List V:=[.int .i64 s.1,.int .i64 s.2]
def rowB (a:At)(j c:Nat):List (Int × Int):=(List.range c).map fun k=>betw j k (allM a)
def rowsB (a:At)(n i k:Nat)(j:Nat):List (List V):=(rowB a j (if j<i then n else if j=i then k else 0)).map encS
theorem rowsB_step (a:At){n i k:Nat}:∀j,j<6→updF (rowsB a n i k) i (rowsB a n i k i++[encS (betw i k (allM a))]) j=rowsB a n i (k+1) j:=fun j _=>by
 by_cases e:j=i
 ·subst e
  rw[updF_same]
  simp[rowsB,rowB,List.range_succ]
 ·rw[updF_other _ _ e]
  simp[rowsB,e]
theorem rowsB_next (a:At){n i:Nat}:∀j,j<6→rowsB a n i n j=rowsB a n (i+1) 0 j:=fun j _=>by
 unfold rowsB
 congr 2
 by_cases e:j<i
 ·rw[if_pos e,if_pos (by omega)]
 ·by_cases e2:j=i
  ·rw[if_neg e,if_pos e2,if_pos (by omega)]
  ·rw[if_neg e,if_neg e2,if_neg (by omega)]
   split<;>rfl
theorem beforeR_ok {a:At}(r:Right a)(hne:allC a≠[]){f t:Nat}(hf:a.evB f=true)(ht:a.evB t=true):beforeR a f t=(if 0<(betw f t (allM a)).1 then 1 else if(betw f t (allM a)).2≤0 then 2 else 0,0):=by
 unfold beforeR
 rw[btwR_ok r hne hf ht,if_neg (by simp)]
 simp only
 split
 ·rfl
 ·split<;>rfl
theorem betw_tri {a:At}(r:Right a)(hne:allC a≠[]){f t m:Nat}(hf:f<5)(ht:t<5)(hm:m<5):(betw f t (allM a)).2≤(betw f m (allM a)).2+(betw m t (allM a)).2:=by
 obtain⟨M,hM,h1⟩:=betw_ex (f:=f) (t:=t) (l:=allM a) (fun e=>hne (List.map_eq_nil_iff.1 e))
 have h2:=(betw_ge (f:=f) (t:=m) hM).2
 have h3:=(betw_ge (f:=m) (t:=t) hM).2
 obtain⟨u,hu,rfl⟩:=List.mem_map.1 hM
 have:=(cases_sound r hu).1.tri f t m hf ht hm
 omega
end Go.Ab.Try
namespace Go.Ab.Try
open Go.Proofs
set_option maxRecDepth 20000 in
set_option maxHeartbeats 8000000 in
theorem ClockBefore_ev {h:H}{x:V}{bs:List Int}(hw:h.wf)(hx:SlAt h x 1 (bs.map encU8)):
  Ev fnG fastA (.fn 6 [] []) [x] h fun v _=>v=.bool true:=by
 refine Ev_body (fd:=c6) rfl rfl rfl ?_
 simp -implicitDefEqProofs(maxSteps:=999999)(disch:=first|with_reducible rfl|omega|(simp only[nA,nS,nD]<;>omega)|fail)only[c6,go_sem]
 refine Wound_ev hw hx _ fun h1 s1 p1 n1=>?_
 simp -implicitDefEqProofs(maxSteps:=999999)(disch:=first|with_reducible rfl|omega|(simp only[nA,nS,nD]<;>omega)|fail)only[go_sem]
 refine Made_ev s1 hw hx (Nat.le_refl _) p1 (by omega) (by omega) (by omega) (by omega) (by omega) _ fun h2 T2 a ss gg tt C R G S Ga Tm mk=>?_
 have ok:=mk.ok
 have r:=ok.right mk.lt
 have tru:=ok.tru
 have he:=ok.e
 have hm:=ok.m
 have lt:=mk.lt
 have oC:=mk.at_.c.one;have oR:=mk.at_.r.one;have oG:=mk.at_.g.one
 have oS:=mk.as_.one;have oGa:=mk.ag.one;have oTm:=mk.am.one
 have hw2:=mk.s.wf
 obtain⟨hA,hhA⟩:∃hA,((((h2.add (.cells .rw [.int .i64 0,.int .i64 0,.nils,.nils,.nils])).add (.cells .rw [.nils,.nils,.nils])).set h2.next (.cells .rw [.int .i64 a.mins,.int .i64 a.evs,C,R,G])).set (h2.next+1) (.cells .rw [S,Ga,Tm]))=hA:=⟨_,rfl⟩
 have sA:h2.Sub hA:=by rw[←hhA];exact(by repeat(first|assumption|exact H.Sub.refl (by assumption)|refine H.Sub.add ?_ _|refine H.Sub.set ?_ (by first|omega|(simp only[H.next_add,H.next_set,H.next_del]<;>omega)) (by first|omega|(simp only[H.next_add,H.next_set,H.next_del]<;>omega)) (by assumption) _))
 have g9:hA.get h2.next=some (.cells .rw (atV a C R G)):=by rw[←hhA];simp -implicitDefEqProofs(maxSteps:=999999)(disch:=first|with_reducible rfl|omega|(simp only[nA,nS,nD]<;>omega)|fail)only[go_sem]
 have g10:hA.get (h2.next+1)=some (.cells .rw [S,Ga,Tm]):=by rw[←hhA];simp -implicitDefEqProofs(maxSteps:=999999)(disch:=first|with_reducible rfl|omega|(simp only[nA,nS,nD]<;>omega)|fail)only[go_sem]
 simp -implicitDefEqProofs(maxSteps:=999999)(disch:=first|with_reducible rfl|omega|(simp only[nA,nS,nD]<;>omega)|fail)only[go_sem,oC,oR,oG,oS,oGa,oTm]
 rw[hhA]
 have xA:=mk.at_.mono sA
 have xt:=mk.am.mono sA
 obtain⟨n,hn⟩:∃n:Nat,a.evs=n:=⟨a.evs.toNat,by omega⟩
 have hnt:tt.length=n:=by omega
 have hn4:1≤n∧n≤4:=by omega
 have hwA:=sA.wf
 have g9':=g9
 have g10':=g10
 rw[show atV a C R G=[.int .i64 a.mins,.int .i64 (n:Int),C,R,G] by rw[←hn]] at g9'
 have ev:∀f:Nat,f<n→a.evB f=true:=fun f hf=>by simp only[At.evB,inB_iff];omega
 have hnc:allC a≠[]:=(betw_tru r tru (f:=0) (t:=0) (by decide) (by decide)).1
 have hbd:∀f t:Nat,f<5→t<5→_:=fun f t hf ht=>betw_bd (f:=f) (t:=t) (l:=allM a) hf ht (fun L hL=>by
  obtain⟨t,ht,rfl⟩:=List.mem_map.1 hL
  exact casesL_in r t ht)
 have hmn:=a_msl_nn (h:=hA) (by_:=24) (n:=n) (z:=[V.nils]) (by omega) (by omega)
 have lb9:=hwA _ _ g9
 have lb10:=hwA _ _ g10
 have sB:=(H.Sub.refl hwA).add (.cells .rw (vsN n fun _=>.nils))
 have gB:(hA.add (.cells .rw (vsN n fun _=>.nils))).get hA.next=some (.cells .rw (vsN n fun _=>.nils)):=get_add_new rfl
 have nB:=H.next_add hA (.cells .rw (vsN n fun _=>.nils))
 rw[hn]
 simp -implicitDefEqProofs(maxSteps:=999999)(disch:=first|with_reducible rfl|omega|(simp only[nA,nS,nD]<;>omega)|fail)only[go_sem,cells_of g9',hmn,repN_nils]
 generalize hA.add (.cells .rw (vsN n fun _=>.nils))=hB at sB gB nB⊢
 have kB:Sl6 hA hB (hA.next+1) (fun _=>.nils) (fun _=>2) (rowsB a n 0 0):=⟨fun i _=>by
  have:rowsB a n 0 0 i=[]:=by
   unfold rowsB;rw[if_neg (by omega)];split<;>rfl
  rw[this];exact(OwnSl.nil sB 2).c,fun i _ b hb=>(blkOf_nils hb).elim,fun i j _ _ _ b hb=>(blkOf_nils hb).elim⟩
 refine W_count n (fun i s=>∃tm z v,s=⟨tm,z,[]⟩∧hA.Sub z∧hA.next+1≤z.next∧Sl6 hA z (hA.next+1) v (fun _=>2) (rowsB a n i 0)∧z.get hA.next=some (.cells .rw (vsN n v))∧(Opd.t 3).ev tm=.ptr h2.next 0∧(Opd.t 4).ev tm=.ptr (h2.next+1) 0∧(Opd.t 5).ev tm=.sl hA.next 0 n (.fix n)∧(Opd.t 33).ev tm=.int .i64 (n:Int)∧(Opd.t 34).ev tm=.int .i64 (i:Int)) ?_ ?_ (i:=0) (Nat.zero_le _)
  ⟨_,_,_,rfl,sB,by omega,kB,gB,(by simp[ev_c,ev_put]<;>rfl),(by simp[ev_c,ev_put]<;>rfl),(by simp[ev_c,ev_put]<;>rfl),(by simp[ev_c,ev_put]<;>rfl),(by simp[ev_c,ev_put]<;>rfl)⟩
 ·rintro i s hi ⟨tm,z,v,rfl,sz,nz,k,gz,e3,e4,e5,e33,e34⟩
  have hi':(i:Int)<(n:Int):=by omega
  simp -implicitDefEqProofs(maxSteps:=999999)(disch:=first|with_reducible rfl|omega|(simp only[nA,nS,nD]<;>omega)|fail)only[go_sem,e3,e4,e5,e33,e34,hi',cells_of (sz.get g9')]
  refine W_count n (fun j s=>∃tm z v,s=⟨tm,z,[]⟩∧hA.Sub z∧hA.next+1≤z.next∧Sl6 hA z (hA.next+1) v (fun _=>2) (rowsB a n i j)∧z.get hA.next=some (.cells .rw (vsN n v))∧(Opd.t 3).ev tm=.ptr h2.next 0∧(Opd.t 4).ev tm=.ptr (h2.next+1) 0∧(Opd.t 5).ev tm=.sl hA.next 0 n (.fix n)∧(Opd.t 33).ev tm=.int .i64 (n:Int)∧(Opd.t 34).ev tm=.int .i64 (i:Int)∧(Opd.t 6).ev tm=.int .i64 (i:Int)∧(Opd.t 38).ev tm=.int .i64 (n:Int)∧(Opd.t 39).ev tm=.int .i64 (j:Int)) ?_ ?_ (i:=0) (Nat.zero_le _)
   ⟨_,_,_,rfl,sz,nz,k,gz,(by simp[ev_c,ev_put,e3]<;>rfl),(by simp[ev_c,ev_put,e4]<;>rfl),(by simp[ev_c,ev_put,e5]<;>rfl),(by simp[ev_c,ev_put,e33]<;>rfl),(by simp[ev_c,ev_put,e34]<;>rfl),(by simp[ev_c,ev_put]<;>rfl),(by simp[ev_c,ev_put]<;>rfl),(by simp[ev_c,ev_put]<;>rfl)⟩
  ·clear k gz
   rintro j s hj ⟨tm,z,v,rfl,sz,nz,k,gz,e3,e4,e5,e33,e34,e6,e38,e39⟩
   have hj':(j:Int)<(n:Int):=by omega
   simp -implicitDefEqProofs(maxSteps:=999999)(disch:=first|with_reducible rfl|omega|(simp only[nA,nS,nD]<;>omega)|fail)only[go_sem,e3,e4,e5,e33,e34,e6,e38,e39,hj',cells_of (sz.get g9)]
   refine btw_ev sz.wf (xA.mono sz) i j _ fun h3 s3=>?_
   rw[btwR_ok r hnc (ev i hi) (ev j hj)]
   have hb:=hbd i j (by omega) (by omega)
   have htr:=(betw_tru r tru (f:=i) (t:=j) (by omega) (by omega)).2
   have hdu:=betw_dual (f:=i) (t:=j) (allM a)
   have hbe:=beforeR_ok r hnc (ev i hi) (ev j hj)
   have hbf:=beforeR_ok r hnc (ev j hj) (ev i hi)
   rw[hdu] at hbf
   have hrow:=rowsB_step a (n:=n) (i:=i) (k:=j)
   generalize betw i j (allM a)=S1 at hb htr hbe hbf hrow⊢
   obtain⟨lo,hi2⟩:=S1
   simp only at hb htr hbe hbf
   obtain⟨vb,hvb⟩:∃vb:Int,(if 0<lo then 1 else if hi2≤0 then 2 else 0)=vb:=⟨_,rfl⟩
   obtain⟨wb,hwb⟩:∃wb:Int,(if 0< -hi2 then 1 else if -lo≤0 then 2 else 0)=wb:=⟨_,rfl⟩
   rw[hvb] at hbe
   rw[hwb] at hbf
   have t3:=s3.trans ((H.Sub.refl s3.wf).add (.cells .rw [.int .i64 lo,.int .i64 hi2]))
   have k8:(h3.add (.cells .rw [.int .i64 lo,.int .i64 hi2])).get h3.next=some (.cells .rw [.int .i64 lo,.int .i64 hi2]):=get_add_new rfl
   simp -implicitDefEqProofs(maxSteps:=999999)(disch:=first|with_reducible rfl|omega|(simp only[nA,nS,nD]<;>omega)|fail)only[go_sem,e3,e4,e5,e33,e34,e6,e38,e39,cells_of ((sz.trans t3).get g9)]
   generalize h3.add (.cells .rw [.int .i64 lo,.int .i64 hi2])=h4 at t3 k8⊢
   refine before_ev t3.wf (xA.mono (sz.trans t3)) i j _ fun h5 s5=>?_
   rw[hbe]
   have t5:=(sz.trans t3).trans s5
   simp -implicitDefEqProofs(maxSteps:=999999)(disch:=first|with_reducible rfl|omega|(simp only[nA,nS,nD]<;>omega)|fail)only[go_sem,e3,e4,e5,e33,e34,e6,e38,e39,cells_of (t5.get g9)]
   refine before_ev s5.wf (xA.mono t5) j i _ fun h6 s6=>?_
   rw[hbf]
   have t6:=t5.trans s6
   have hit:i<tt.length:=by omega
   have hjt:j<tt.length:=by omega
   have yi:timeF tt i=tt[i]:=timeF_at (List.getElem?_eq_getElem hit)
   have yj:timeF tt j=tt[j]:=timeF_at (List.getElem?_eq_getElem hjt)
   rw[yi,yj] at htr
   have qi:=ok.tm _ (List.getElem_mem hit)
   have qj:=ok.tm _ (List.getElem_mem hjt)
   obtain⟨bi,oi,ci,csi,ei',hci,hqi,_,_,ni⟩:=(xt.mono t6).at hit
   obtain⟨bj,oj,cj,csj,ej',hcj,hqj,_,_,nj⟩:=(xt.mono t6).at hjt
   have vi:=ni (by decide)
   have vj:=nj (by decide)
   simp only[encI,List.getElem?_cons_zero] at vi vj
   generalize tt[i]=ti at vi qi htr
   generalize tt[j]=tj at vj qj htr
   have hin:inB (tj-ti) lo hi2=true:=(inB_iff ..).2 htr
   have wd:wr .i64 (tj-ti)=tj-ti:=wr_in (by omega) (by omega)
   simp -implicitDefEqProofs(maxSteps:=999999)(disch:=first|with_reducible rfl|omega|(simp only[nA,nS,nD]<;>omega)|fail)only[go_sem,e3,e4,e5,e33,e34,e6,e38,e39,cells_of (t6.get g10),hqi (nat_cst i),hqj (nat_cst j),hci,hcj,vi,vj,wd,ne_eq,not_true_eq_false,cells_of ((s5.trans s6).get k8)]
   have t8:=(s5.trans s6).get k8
   refine inside_ev t6.wf _ _ _ _ fun h7 s7=>?_
   rw[hin]
   have k8':=s7.get t8
   have t7:=t6.trans s7
   have hcase:∃q1 q2:Bool,decide (vb=1)=q1∧decide (vb=2)=q2∧decide (0<lo)=q1∧decide (hi2≤0)=q2∧(q1=true→decide (wb≠2)=false∧decide (ti<tj)=true)∧(q2=true→decide (ti<tj)=false)∧(q1=true→q2=false):=by
    by_cases c1:0<lo
    ·rw[if_pos c1] at hvb
     rw[if_neg (by omega),if_pos (by omega)] at hwb
     subst hvb;subst hwb
     exact⟨true,false,rfl,rfl,decide_eq_true c1,decide_eq_false (by omega),fun _=>⟨rfl,decide_eq_true (by omega)⟩,(fun h=>by cases h),fun _=>rfl⟩
    ·rw[if_neg c1] at hvb
     by_cases c2:hi2≤0
     ·rw[if_pos c2] at hvb
      subst hvb
      exact⟨false,true,rfl,rfl,decide_eq_false c1,decide_eq_true c2,(fun h=>by cases h),fun _=>decide_eq_false (by omega),(fun h=>by cases h)⟩
     ·rw[if_neg c2] at hvb
      subst hvb
      exact⟨false,false,rfl,rfl,decide_eq_false c1,decide_eq_false c2,(fun h=>by cases h),(fun h=>by cases h),(fun h=>by cases h)⟩
   obtain⟨q1,q2,d1,d2,d3,d4,d5,d6,d7⟩:=hcase
   have nn1:(!(false==false))=false:=rfl
   have nn2:(!(true==true))=false:=rfl
   have oi':OwnC hA h7 (v i) 2 (rowsB a n i j i):=(k.mono ((t3.trans s5).trans (s6.trans s7))).o i (by omega)
   have s37:=(t3.trans s5).trans (s6.trans s7)
   have gz7:=s37.get gz
   have hiq:=q_iad_sl (sz:=1) (b:=hA.next) (o:=0) (c:=.fix n) (nat_cst i) hi
   have nvi:=nth_vsN (v:=v) hi
   have lr:(rowsB a n i j i).length≤4:=by unfold rowsB rowB;rw[if_neg (by omega),if_pos rfl,List.length_map,List.length_map,List.length_range];omega
   have u7:=(H.Sub.refl s7.wf).add (.cells .rw [.int .i64 lo,.int .i64 hi2])
   have sn:SlAt (h7.add (.cells .rw [.int .i64 lo,.int .i64 hi2])) (.sl h7.next 0 1 (.fix 1)) 2 [encS (lo,hi2)]:=SlAt.new _ rfl rfl rfl (by simp[encS]) (by simp)
   have kh:=(k.mono s37).mono u7
   have oh:=oi'.mono u7
   have gz8:=u7.get gz7
   have t78:=t7.trans u7
   obtain⟨h8,hh8⟩:∃h8,h7.add (.cells .rw [.int .i64 lo,.int .i64 hi2])=h8:=⟨_,rfl⟩
   rw[hh8] at u7 sn kh oh gz8 t78
   have app:∀K2:V→H→Prop,(∀w z5,w.one=true→z5.get hA.next=some (.cells .rw (vsN n v))→Sl6 hA z5 (hA.next+1) (updF v i w) (fun _=>2) (rowsB a n i (j+1))→hA.next+1≤z5.next→K2 w z5)→P2 (e_app' h8 2 16 (v i) (.sl h7.next 0 1 (.fix 1))) K2:=fun K2 q2'=>by
    refine oh.app1 (by_:=16) (r:=encS (lo,hi2)) hwA rfl (by decide) sn rfl (by omega) (by omega) fun w z5 o5 n5 k5=>?_
    have nb:¬blkOf (v i) hA.next:=fun hb=>by have:=k.lo i (by omega) _ hb;omega
    have l8:=s37.next
    have l9:=u7.next
    have l10:=k5.1
    exact q2' w z5 o5.one (k5.2 _ _ gz8 nb) ((kh.app (by omega) o5 n5 (by omega) k5).rw hrow) (by omega)
   have last:∀w z5,w.one=true→z5.get hA.next=some (.cells .rw (vsN n v))→Sl6 hA z5 (hA.next+1) (updF v i w) (fun _=>2) (rowsB a n i (j+1))→hA.next+1≤z5.next→hA.Sub (z5.set hA.next (.cells .rw (vsN n (updF v i w))))∧hA.next+1≤(z5.set hA.next (.cells .rw (vsN n (updF v i w)))).next∧Sl6 hA (z5.set hA.next (.cells .rw (vsN n (updF v i w)))) (hA.next+1) (updF v i w) (fun _=>2) (rowsB a n i (j+1))∧(z5.set hA.next (.cells .rw (vsN n (updF v i w)))).get hA.next=some (.cells .rw (vsN n (updF v i w))):=fun w z5 ow g5 sl n5=>by
    have s5':=(sl.o 0 (by omega)).1
    have ss:=s5'.set (Nat.le_refl _) (by omega) hwA (.cells .rw (vsN n (updF v i w)))
    exact⟨ss,by rw[H.next_set];exact n5,sl.keep (Keeps.set _ _ _) ss fun b hb=>by omega,get_set_same rfl⟩
   cases q1 with
   |true=>
    obtain⟨d8,d9⟩:=d5 rfl
    rw[d7 rfl] at d2 d4
    simp -implicitDefEqProofs(maxSteps:=999999)(disch:=first|with_reducible rfl|omega|(simp only[nA,nS,nD]<;>omega)|fail)only[go_sem,e3,e4,e5,e33,e34,e6,e38,e39,d1,d2,d3,d4,d8,d9,nn1,nn2,cells_of k8',cells_of t8,hiq,cells_of gz7,nvi,hh8,cells_of (t6.get g10),hci,hcj,vi,vj]
    refine app _ fun w z5 ow g5 sl n5=>?_
    have pv:=put_vsN (h:=z5) g5 hi ow
    simp -implicitDefEqProofs(maxSteps:=999999)(disch:=first|with_reducible rfl|omega|(simp only[nA,nS,nD]<;>omega)|fail)only[go_sem,e3,e4,e5,e33,e34,e6,e38,e39,cells_one ow,hiq,pv,wr_succ,cells_of g5,cells_of gz7,nvi,cells_of k8',cells_of gz8,cells_of (u7.get k8')]
    obtain⟨r1,r2,r3,r4⟩:=last w z5 ow g5 sl n5
    exact⟨_,_,_,rfl,r1,r2,r3,r4,(by simp[ev_c,ev_put,e3]<;>rfl),(by simp[ev_c,ev_put,e4]<;>rfl),(by simp[ev_c,ev_put,e5]<;>rfl),(by simp[ev_c,ev_put,e33]<;>rfl),(by simp[ev_c,ev_put,e34]<;>rfl),(by simp[ev_c,ev_put,e6]<;>rfl),(by simp[ev_c,ev_put,e38]<;>rfl),(by simp[ev_c,ev_put]<;>rfl)⟩
   |false=>
    cases q2 with
    |true=>
     have d9:=d6 rfl
     simp -implicitDefEqProofs(maxSteps:=999999)(disch:=first|with_reducible rfl|omega|(simp only[nA,nS,nD]<;>omega)|fail)only[go_sem,e3,e4,e5,e33,e34,e6,e38,e39,d1,d2,d3,d4,d9,nn1,nn2,cells_of k8',cells_of t8,hiq,cells_of gz7,nvi,hh8,cells_of (t6.get g10),hci,hcj,vi,vj]
     refine app _ fun w z5 ow g5 sl n5=>?_
     have pv:=put_vsN (h:=z5) g5 hi ow
     simp -implicitDefEqProofs(maxSteps:=999999)(disch:=first|with_reducible rfl|omega|(simp only[nA,nS,nD]<;>omega)|fail)only[go_sem,e3,e4,e5,e33,e34,e6,e38,e39,cells_one ow,hiq,pv,wr_succ,cells_of g5,cells_of gz7,nvi,cells_of k8',cells_of gz8,cells_of (u7.get k8')]
     obtain⟨r1,r2,r3,r4⟩:=last w z5 ow g5 sl n5
     exact⟨_,_,_,rfl,r1,r2,r3,r4,(by simp[ev_c,ev_put,e3]<;>rfl),(by simp[ev_c,ev_put,e4]<;>rfl),(by simp[ev_c,ev_put,e5]<;>rfl),(by simp[ev_c,ev_put,e33]<;>rfl),(by simp[ev_c,ev_put,e34]<;>rfl),(by simp[ev_c,ev_put,e6]<;>rfl),(by simp[ev_c,ev_put,e38]<;>rfl),(by simp[ev_c,ev_put]<;>rfl)⟩
    |false=>
     simp -implicitDefEqProofs(maxSteps:=999999)(disch:=first|with_reducible rfl|omega|(simp only[nA,nS,nD]<;>omega)|fail)only[go_sem,e3,e4,e5,e33,e34,e6,e38,e39,d1,d2,d3,d4,nn1,nn2,cells_of k8',cells_of t8,hiq,cells_of gz7,nvi,hh8,cells_of (t6.get g10),hci,hcj,vi,vj]
     refine app _ fun w z5 ow g5 sl n5=>?_
     have pv:=put_vsN (h:=z5) g5 hi ow
     simp -implicitDefEqProofs(maxSteps:=999999)(disch:=first|with_reducible rfl|omega|(simp only[nA,nS,nD]<;>omega)|fail)only[go_sem,e3,e4,e5,e33,e34,e6,e38,e39,cells_one ow,hiq,pv,wr_succ,cells_of g5,cells_of gz7,nvi,cells_of k8',cells_of gz8,cells_of (u7.get k8')]
     obtain⟨r1,r2,r3,r4⟩:=last w z5 ow g5 sl n5
     exact⟨_,_,_,rfl,r1,r2,r3,r4,(by simp[ev_c,ev_put,e3]<;>rfl),(by simp[ev_c,ev_put,e4]<;>rfl),(by simp[ev_c,ev_put,e5]<;>rfl),(by simp[ev_c,ev_put,e33]<;>rfl),(by simp[ev_c,ev_put,e34]<;>rfl),(by simp[ev_c,ev_put,e6]<;>rfl),(by simp[ev_c,ev_put,e38]<;>rfl),(by simp[ev_c,ev_put]<;>rfl)⟩
  ·clear k gz
   rintro s ⟨tm,z,v,rfl,sz,nz,k,gz,e3,e4,e5,e33,e34,e6,e38,e39⟩
   have hj':¬((n:Int)<(n:Int)):=by omega
   simp -implicitDefEqProofs(maxSteps:=999999)(disch:=first|with_reducible rfl|omega|(simp only[nA,nS,nD]<;>omega)|fail)only[go_sem,e3,e4,e5,e33,e34,e6,e38,e39,hj',wr_succ]
   exact⟨_,_,_,rfl,sz,nz,k.rw (rowsB_next a),gz,(by simp[ev_c,ev_put,e3]<;>rfl),(by simp[ev_c,ev_put,e4]<;>rfl),(by simp[ev_c,ev_put,e5]<;>rfl),(by simp[ev_c,ev_put,e33]<;>rfl),(by simp[ev_c,ev_put]<;>rfl)⟩
 ·rintro s ⟨tm,z,v,rfl,sz,nz,k,gz,e3,e4,e5,e33,e34⟩
  have hi':¬((n:Int)<(n:Int)):=by omega
  have rowAt:∀j q:Nat,j<n→q<n→∃b o cs,(∀{u:V},nat? u=some q→q_iad 2 (v j) u=some (.ptr b (o+q*2)))∧z.cells b=some cs∧getN (o+q*2) 2 cs=some [.int .i64 (betw j q (allM a)).1,.int .i64 (betw j q (allM a)).2]∧nth (o+q*2+1) cs=some (.int .i64 (betw j q (allM a)).2):=fun j q hj hq=>by
   have hro:rowsB a n n 0 j=(rowB a j n).map encS:=by unfold rowsB;rw[if_pos hj]
   have ln:(rowB a j n).length=n:=by simp[rowB]
   have o:=k.o j (by omega)
   rw[hro] at o
   obtain⟨b,oo,c,cs,_,h1,h2,h3,h4,_⟩:=(o.sl (by rw[List.length_map,ln];omega)).at (k:=q) (by omega)
   have hv:(rowB a j n)[q]'(by omega)=betw j q (allM a):=by simp[rowB]
   rw[hv] at h3 h4
   exact⟨b,oo,cs,h2,h1,h3,h4 1 (by omega)⟩
  have lenV:∀j:Nat,j<n→q_len (v j)=some (.int .i64 (n:Int)):=fun j hj=>by
   have hro:rowsB a n n 0 j=(rowB a j n).map encS:=by unfold rowsB;rw[if_pos hj]
   have ln:(rowB a j n).length=n:=by simp[rowB]
   have o:=k.o j (by omega)
   rw[hro] at o
   have:=(o.sl (by rw[List.length_map,ln];omega)).lenE
   rwa[ln] at this
  have hwz:=sz.wf
  simp -implicitDefEqProofs(maxSteps:=999999)(disch:=first|with_reducible rfl|omega|(simp only[nA,nS,nD]<;>omega)|fail)only[go_sem,e3,e4,e5,e33,e34,hi']
  refine W_count n (fun i s=>∃tm y,s=⟨tm,y,[]⟩∧z.Sub y∧(Opd.t 3).ev tm=.ptr h2.next 0∧(Opd.t 5).ev tm=.sl hA.next 0 n (.fix n)∧(Opd.t 152).ev tm=.int .i64 (n:Int)∧(Opd.t 153).ev tm=.int .i64 (i:Int)) ?_ ?_ (i:=0) (Nat.zero_le _)
   ⟨_,_,rfl,H.Sub.refl hwz,(by simp[ev_c,ev_put,e3]<;>rfl),(by simp[ev_c,ev_put,e5]<;>rfl),(by simp[ev_c,ev_put]<;>rfl),(by simp[ev_c,ev_put]<;>rfl)⟩
  ·rintro i s hi ⟨tm,y,rfl,sy,e3,e5,e152,e153⟩
   have hi':(i:Int)<(n:Int):=by omega
   simp -implicitDefEqProofs(maxSteps:=999999)(disch:=first|with_reducible rfl|omega|(simp only[nA,nS,nD]<;>omega)|fail)only[go_sem,e3,e5,e152,e153,hi',cells_of ((sz.trans sy).get g9)]
   refine time_ev sy.wf (xA.mono (sz.trans sy)) i _ fun y1 s1'=>?_
   rw[timeR_ok r hnc (ev i hi)]
   have hbX:=hbd 4 i (by decide) (by omega)
   have duX:=betw_dual (f:=4) (t:=i) (allM a)
   have hself:=betw_self r hnc (u:=i) (by omega)
   obtain⟨xl,xh,hX⟩:∃xl xh,betw 4 i (allM a)=(xl,xh):=⟨_,_,rfl⟩
   rw[hX] at hbX duX
   rw[hX]
   simp only at hbX duX
   have t1:=s1'.trans ((H.Sub.refl s1'.wf).add (.cells .rw [.int .i64 xl,.int .i64 xh]))
   have k16:(y1.add (.cells .rw [.int .i64 xl,.int .i64 xh])).get y1.next=some (.cells .rw [.int .i64 xl,.int .i64 xh]):=get_add_new rfl
   obtain⟨b0,o0,cs0,r0,r1,r2,r3⟩:=rowAt i i hi hi
   rw[hself] at r2
   have hiq:=q_iad_sl (sz:=1) (b:=hA.next) (o:=0) (c:=.fix n) (nat_cst i) hi
   have nvi:=nth_vsN (v:=v) hi
   have d0:decide ((0:Int)≠0)=false:=rfl
   have fq:q_feq true 2 (.agg [.int .i64 0,.int .i64 0]) (.agg [.int .i64 0,.int .i64 0])=some (.bool false):=rfl
   have lvi:=lenV i hi
   obtain⟨y2,hy2⟩:∃y2,y1.add (.cells .rw [.int .i64 xl,.int .i64 xh])=y2:=⟨_,rfl⟩
   rw[hy2] at t1 k16
   have sy2:=sy.trans t1
   simp -implicitDefEqProofs(maxSteps:=999999)(disch:=first|with_reducible rfl|omega|(simp only[nA,nS,nD]<;>omega)|fail)only[go_sem,e3,e5,e152,e153,hy2,hiq,nvi,cells_of (sy2.get gz),r0 (nat_cst i),sy2.cells r1,r2,d0,fq,lvi]
   refine W_count n (fun q s=>∃tm w,s=⟨tm,w,[]⟩∧y2.Sub w∧(Opd.t 3).ev tm=.ptr h2.next 0∧(Opd.t 5).ev tm=.sl hA.next 0 n (.fix n)∧(Opd.t 152).ev tm=.int .i64 (n:Int)∧(Opd.t 153).ev tm=.int .i64 (i:Int)∧(Opd.t 15).ev tm=.int .i64 (i:Int)∧(Opd.t 16).ev tm=.ptr y1.next 0∧(Opd.t 178).ev tm=v i∧(Opd.t 179).ev tm=.int .i64 (n:Int)∧(Opd.t 180).ev tm=.int .i64 (q:Int)) ?_ ?_ (i:=0) (Nat.zero_le _)
    ⟨_,_,rfl,H.Sub.refl sy2.wf,(by simp[ev_c,ev_put,e3]<;>rfl),(by simp[ev_c,ev_put,e5]<;>rfl),(by simp[ev_c,ev_put,e152]<;>rfl),(by simp[ev_c,ev_put,e153]<;>rfl),(by simp[ev_c,ev_put]<;>rfl),(by simp[ev_c,ev_put]<;>rfl),(by simp[ev_c,ev_put]<;>rfl),(by simp[ev_c,ev_put]<;>rfl),(by simp[ev_c,ev_put]<;>rfl)⟩
   ·rintro q s hq ⟨tm,w,rfl,sw,e3,e5,e152,e153,e15,e16,e178,e179,e180⟩
    have hq':(q:Int)<(n:Int):=by omega
    obtain⟨b1,o1,cs1,p0,p1',p2,p3⟩:=rowAt i q hi hq
    obtain⟨b2,o2,cs2,g0',g1',g2',g3'⟩:=rowAt q i hq hi
    have hbS:=hbd i q (by omega) (by omega)
    have hbY:=hbd 4 q (by decide) (by omega)
    have duS:=betw_dual (f:=i) (t:=q) (allM a)
    have duY:=betw_dual (f:=4) (t:=q) (allM a)
    have tr1:=betw_tri r hnc (f:=i) (t:=q) (m:=4) (by omega) (by omega) (by decide)
    have tr2:=betw_tri r hnc (f:=q) (t:=i) (m:=4) (by omega) (by omega) (by decide)
    have trm:∀m:Nat,m<n→_:=fun m hm=>betw_tri r hnc (f:=i) (t:=q) (m:=m) (by omega) (by omega) (by omega)
    rw[duX] at tr1
    rw[hX,duS,duY] at tr2
    rw[duS] at g2' g3'
    have eT:=timeR_ok r hnc (ev q hq)
    obtain⟨lo,hi2,hS⟩:∃lo hi2,betw i q (allM a)=(lo,hi2):=⟨_,_,rfl⟩
    obtain⟨yl,yh,hY⟩:∃yl yh,betw 4 q (allM a)=(yl,yh):=⟨_,_,rfl⟩
    rw[hS] at hbS tr1 tr2 p2 p3 g2' g3' trm
    rw[hY] at hbY tr1 tr2 eT
    simp only at hbS hbY tr1 tr2 p2 p3 g2' g3' trm
    have hiqq:=q_iad_sl (sz:=1) (b:=hA.next) (o:=0) (c:=.fix n) (nat_cst q) hq
    have nvq:=nth_vsN (v:=v) hq
    have s2w:=sy2.trans sw
    simp -implicitDefEqProofs(maxSteps:=999999)(disch:=first|with_reducible rfl|omega|(simp only[nA,nS,nD]<;>omega)|fail)only[go_sem,e3,e5,e152,e153,e15,e16,e178,e179,e180,hq',p0 (nat_cst q),s2w.cells p1',p2]
    have u1:=(H.Sub.refl sw.wf).add (.cells .rw [.int .i64 lo,.int .i64 hi2])
    have k19:(w.add (.cells .rw [.int .i64 lo,.int .i64 hi2])).get w.next=some (.cells .rw [.int .i64 lo,.int .i64 hi2]):=get_add_new rfl
    simp -implicitDefEqProofs(maxSteps:=999999)(disch:=first|with_reducible rfl|omega|(simp only[nA,nS,nD]<;>omega)|fail)only[go_sem,e3,e5,e152,e153,e15,e16,e178,e179,e180,cells_of (u1.get (s2w.get (sz.get g9))),cells_of (s2w.get (sz.get g9))]
    obtain⟨w1,hw1⟩:∃w1,w.add (.cells .rw [.int .i64 lo,.int .i64 hi2])=w1:=⟨_,rfl⟩
    rw[hw1] at u1 k19
    skip
    have s2w1:=s2w.trans u1
    rw[hw1]
    refine time_ev u1.wf (xA.mono (sz.trans s2w1)) q _ fun w2 u2=>?_
    rw[eT]
    have u3:=u2.trans ((H.Sub.refl u2.wf).add (.cells .rw [.int .i64 yl,.int .i64 yh]))
    have k20:(w2.add (.cells .rw [.int .i64 yl,.int .i64 yh])).get w2.next=some (.cells .rw [.int .i64 yl,.int .i64 yh]):=get_add_new rfl
    obtain⟨w3,hw3⟩:∃w3,w2.add (.cells .rw [.int .i64 yl,.int .i64 yh])=w3:=⟨_,rfl⟩
    rw[hw3] at u3 k20
    have s2w3:=s2w1.trans u3
    have k16':=(sw.trans (u1.trans u3)).get k16
    have k19':=u3.get k19
    have wn1:wr .i64 (0-hi2)= -hi2:=by rw[wr_in (by omega) (by omega)];omega
    have wn2:wr .i64 (0-lo)= -lo:=by rw[wr_in (by omega) (by omega)];omega
    have wn3:wr .i64 (yh-xl)=yh-xl:=wr_in (by omega) (by omega)
    have wn4:wr .i64 (yl-xh)=yl-xh:=wr_in (by omega) (by omega)
    have fq2:q_feq true 2 (.agg [.int .i64 (-hi2),.int .i64 (-lo)]) (.agg [.int .i64 (-hi2),.int .i64 (-lo)])=some (.bool false):=by
     have:=q_feq_map (n:=2) [-hi2, -lo] [-hi2, -lo] rfl rfl true
     rw[decide_eq_true rfl] at this
     exact this
    have l1:¬yh-xl<hi2:=by omega
    have l2:¬lo<yl-xh:=by omega
    simp -implicitDefEqProofs(maxSteps:=999999)(disch:=first|with_reducible rfl|omega|(simp only[nA,nS,nD]<;>omega)|fail)only[go_sem,e3,e5,e152,e153,e15,e16,e178,e179,e180,hw3,d0,hiqq,nvq,cells_of (s2w3.get gz),g0' (nat_cst i),s2w3.cells g1',g2',cells_of k19',cells_of k20,cells_of k16',wn1,wn2,wn3,wn4,fq2,l1,l2]
    refine W_count n (fun m s=>∃tm w4,s=⟨tm,w4,[]⟩∧w3.Sub w4∧(Opd.t 3).ev tm=.ptr h2.next 0∧(Opd.t 5).ev tm=.sl hA.next 0 n (.fix n)∧(Opd.t 152).ev tm=.int .i64 (n:Int)∧(Opd.t 153).ev tm=.int .i64 (i:Int)∧(Opd.t 15).ev tm=.int .i64 (i:Int)∧(Opd.t 16).ev tm=.ptr y1.next 0∧(Opd.t 178).ev tm=v i∧(Opd.t 179).ev tm=.int .i64 (n:Int)∧(Opd.t 180).ev tm=.int .i64 (q:Int)∧(Opd.t 18).ev tm=.int .i64 (q:Int)∧(Opd.t 19).ev tm=.ptr w.next 0∧(Opd.t 231).ev tm=.int .i64 (n:Int)∧(Opd.t 232).ev tm=.int .i64 (m:Int)) ?_ ?_ (i:=0) (Nat.zero_le _)
     ⟨_,_,rfl,H.Sub.refl (u1.trans u3).wf,(by simp[ev_c,ev_put,e3]<;>rfl),(by simp[ev_c,ev_put,e5]<;>rfl),(by simp[ev_c,ev_put,e152]<;>rfl),(by simp[ev_c,ev_put,e153]<;>rfl),(by simp[ev_c,ev_put,e15]<;>rfl),(by simp[ev_c,ev_put,e16]<;>rfl),(by simp[ev_c,ev_put,e178]<;>rfl),(by simp[ev_c,ev_put,e179]<;>rfl),(by simp[ev_c,ev_put,e180]<;>rfl),(by simp[ev_c,ev_put]<;>rfl),(by simp[ev_c,ev_put]<;>rfl),(by simp[ev_c,ev_put]<;>rfl),(by simp[ev_c,ev_put]<;>rfl)⟩
    ·rintro m s hm ⟨tm,w4,rfl,u4,e3,e5,e152,e153,e15,e16,e178,e179,e180,e18,e19,e231,e232⟩
     have hm':(m:Int)<(n:Int):=by omega
     obtain⟨b3,o3,cs3,f0,f1',f2',f3'⟩:=rowAt i m hi hm
     obtain⟨b4,o4,cs4,t0',t1',t2',t3'⟩:=rowAt m q hm hq
     have trm':=trm m hm
     have hbA:=hbd i m (by omega) (by omega)
     have hbC:=hbd m q (by omega) (by omega)
     have hiqm:=q_iad_sl (sz:=1) (b:=hA.next) (o:=0) (c:=.fix n) (nat_cst m) hm
     have nvm:=nth_vsN (v:=v) hm
     have s2w4:=s2w3.trans u4
     generalize(betw i m (allM a)).2=A2 at f3' hbA trm'
     generalize(betw m q (allM a)).2=C2 at t3' hbC trm'
     have wn5:wr .i64 (A2+C2)=A2+C2:=wr_in (by omega) (by omega)
     have l3:¬A2+C2<hi2:=by omega
     simp -implicitDefEqProofs(maxSteps:=999999)(disch:=first|with_reducible rfl|omega|(simp only[nA,nS,nD]<;>omega)|fail)only[go_sem,e3,e5,e152,e153,e15,e16,e178,e179,e180,e18,e19,e231,e232,hm',hiq,nvi,hiqm,nvm,cells_of (s2w4.get gz),f0 (nat_cst m),s2w4.cells f1',f3',t0' (nat_cst q),s2w4.cells t1',t3',cells_of (u4.get k19'),wn5,l3,wr_succ]
     exact⟨_,_,rfl,u4,(by simp[ev_c,ev_put,e3]<;>rfl),(by simp[ev_c,ev_put,e5]<;>rfl),(by simp[ev_c,ev_put,e152]<;>rfl),(by simp[ev_c,ev_put,e153]<;>rfl),(by simp[ev_c,ev_put,e15]<;>rfl),(by simp[ev_c,ev_put,e16]<;>rfl),(by simp[ev_c,ev_put,e178]<;>rfl),(by simp[ev_c,ev_put,e179]<;>rfl),(by simp[ev_c,ev_put,e180]<;>rfl),(by simp[ev_c,ev_put,e18]<;>rfl),(by simp[ev_c,ev_put,e19]<;>rfl),(by simp[ev_c,ev_put,e231]<;>rfl),(by simp[ev_c,ev_put]<;>rfl)⟩
    ·rintro s ⟨tm,w4,rfl,u4,e3,e5,e152,e153,e15,e16,e178,e179,e180,e18,e19,e231,e232⟩
     have hm':¬((n:Int)<(n:Int)):=by omega
     simp -implicitDefEqProofs(maxSteps:=999999)(disch:=first|with_reducible rfl|omega|(simp only[nA,nS,nD]<;>omega)|fail)only[go_sem,e3,e5,e152,e153,e15,e16,e178,e179,e180,e18,e19,e231,e232,hm',wr_succ]
     exact⟨_,_,rfl,sw.trans (u1.trans (u3.trans u4)),(by simp[ev_c,ev_put,e3]<;>rfl),(by simp[ev_c,ev_put,e5]<;>rfl),(by simp[ev_c,ev_put,e152]<;>rfl),(by simp[ev_c,ev_put,e153]<;>rfl),(by simp[ev_c,ev_put,e15]<;>rfl),(by simp[ev_c,ev_put,e16]<;>rfl),(by simp[ev_c,ev_put,e178]<;>rfl),(by simp[ev_c,ev_put,e179]<;>rfl),(by simp[ev_c,ev_put]<;>rfl)⟩
   ·rintro s ⟨tm,w,rfl,sw,e3,e5,e152,e153,e15,e16,e178,e179,e180⟩
    have hq':¬((n:Int)<(n:Int)):=by omega
    simp -implicitDefEqProofs(maxSteps:=999999)(disch:=first|with_reducible rfl|omega|(simp only[nA,nS,nD]<;>omega)|fail)only[go_sem,e3,e5,e152,e153,e15,e16,e178,e179,e180,hq',wr_succ]
    exact⟨_,_,rfl,sy2.trans sw,(by simp[ev_c,ev_put,e3]<;>rfl),(by simp[ev_c,ev_put,e5]<;>rfl),(by simp[ev_c,ev_put,e152]<;>rfl),(by simp[ev_c,ev_put]<;>rfl)⟩
  ·rintro s ⟨tm,y,rfl,sy,e3,e5,e152,e153⟩
   have hi':¬((n:Int)<(n:Int)):=by omega
   simp -implicitDefEqProofs(maxSteps:=999999)(disch:=first|with_reducible rfl|omega|(simp only[nA,nS,nD]<;>omega)|fail)only[go_sem,e3,e5,e152,e153,hi',awake_eq]
end Go.Ab.Try
namespace Go.Proofs.Ytagnijhgpogfhaa
open Go.ChangeShapes Go.WideShapes Go.ChangeAt Go.RowKit
open Go.Ab
theorem Try.cells34:Try.prog.cellsOf 34=1:=by kernel_rfl
theorem Try.cells5:Try.prog.cellsOf 5=1:=by kernel_rfl
theorem u8_row {H:Type}{enc:TypeId × Value→H}{w:World}{base:Nat}{spare:Nat→Bool}{held:Bool}{t:TypeId}(ht:Try.prog.underlying t=some (.int .u8))(n:Nat)(cs:List Value)(x:DataW H × List MemPlace)(h:DataW.trod enc Try.prog w base spare held n t cs=some x):∃r:Int,cs=[.int .u8 r]:=by
 obtain⟨a,h1,_⟩:=DataW.trod_int ht h
 exact⟨a,h1⟩
theorem encU8_all (r:Int):∀v∈Go.Ab.Try.encU8 r,∃k n,v=.int k n:=by
 intro v hv
 simp[Go.Ab.Try.encU8] at hv
 subst hv;exact⟨_,_,rfl⟩
set_option maxRecDepth 100000 in
theorem clockBefore_walk {H':Type}{enc:TypeId × Value→H'}{W:World}{base:Nat}{spare:Nat→Bool}{held:Bool}{r:Reach}{b0:Nat}{v0:Value}{d0:DataW H'}{p0:List MemPlace}(hval0:Value.okWide Try.prog W r b0 34 v0)(hd0:DataW.Trod enc Try.prog W base spare held 34 v0 d0 p0):
  Calls Try.prog 6 #[v0] W fun x W'=>x=.returned (.bool true)∧Same W W':=by
 obtain⟨l0,b0,o0,i0⟩:=slice_arg (q:=0) (ev:=Go.Ab.Try.encU8) (k:=1) (rv:=fun n=>[Value.int .u8 n]) Try.underlying34 Try.cells5 Try.cells34 (u8_row Try.underlying5) (fun _=>rfl) (by omega) (fun φ r=>by simp[Go.Ab.Try.encU8,conc]) hval0 hd0
 let φ:Phi:=⟨fun b=>b0,fun b=>o0,fun _=>0⟩
 let l:List (Option Blk):=[rowsB Go.Ab.Try.encU8 l0]
 have hin:InAt φ W l:=⟨fun c y hy=>by
  have hc:c=0:=by
   by_cases h:c<1
   ·omega
   ·rw[List.getElem?_eq_none (by simp[l];omega)] at hy;cases hy
  rcases hc with rfl
  ·exact i0.blk (φ:=φ) rfl rfl encU8_all y hy⟩
 obtain⟨hR,hn,hwf,hro⟩:=in_rep hin
 have hn3:(inH l).next=1:=hn
 have hk0:SlAt (inH l) (slV 0 v0 l0.length) 1 (l0.map Go.Ab.Try.encU8):=i0.sl (fun _=>rfl) rfl
 obtain⟨u,h',hs,rfl⟩:=Go.Ab.Try.spec_of (fd:=Go.Ab.Try.c6) rfl (Go.Ab.Try.ClockBefore_ev hwf hk0)
 have hc:=calls_of_spec hs hR (fun b hb _=>by rw[hn3] at hb;show¬b<1;omega) (show scL _ _ from⟨i0.sc (by show 0<1;decide),trivial⟩) hwf hro
 have ea:([slV 0 v0 l0.length].map (conc φ)).toArray= #[v0]:=by
  have e0:=(i0.is φ rfl rfl).1
  simp[conc,concs,e0]
 rw[ea] at hc
 refine hc.mono fun e W' he=>?_
 obtain⟨φ',rfl,hsame⟩:=he
 exact⟨by simp[conc],hsame⟩
set_option maxRecDepth 100000 in
theorem ClockBefore_lifted (os:Os)(started:os.Started)(H:Type)(enc:TypeId × Value→H):
  ReturnsInHanded {} Try.checked os 6 .any (Rows.clockBeforeSpec.pre6 enc Try.prog Try.f6 Rows.clockBeforeRow.domain false) (Rows.clockBeforeSpec.post enc Try.prog Try.f6 false true false false):=by
 refine returnsInHanded_of_change (C:=Try.checked) Try.own started (by kernel_rfl) Try.func6
  (ChangeSpec.witness6 (enc:=enc) (C:=Try.checked) false ⟨#[], #[.slice none 0 0],[]⟩ 8 (by kernel_rfl) (by kernel_rfl) (by kernel_rfl) (by kernel_rfl)) ?_
 intro W base args ds gs before hval0 hW hcnd _
 have hval:∀(j:Nat) t v,Try.f6.params[j]? =some t→args[j]? =some v→Value.okWide Try.prog W .any base t v:=hval0
 have hW':=hW
 obtain⟨p,q,hA0,hV,rfl,hfz,hnd⟩:=hW
 have hA:DataW.TrodAll enc Try.prog W 0 (fun _=>true) true Try.f6.params.toList args.toList ds p:=hA0
 rw[Try.params6] at hA hval
 obtain⟨v0,vs,d0,ds0,p0,q0,ea,rfl,rfl,h0,hr⟩:=trodAll_cons hA
 obtain⟨rfl,rfl,rfl⟩:=trodAll_nil hr
 have ea':args= #[v0]:=by cases args;simp_all
 subst ea'
 obtain⟨rfl,rfl⟩:=trodVars_none hV
 have hm0:=hval 0 34 v0 rfl rfl
 clear hA0 hval0
 have hlt:∀x∈p0++[],x.block<W.heap.size:=fun x hx=>by simpa using hW'.lt x (by simpa using hx)
 refine(clockBefore_walk hm0 h0).mono fun x W' hx=>?_
 obtain⟨rfl,hsame⟩:=hx
 refine⟨_,rfl,_,_,_,[],p0++[],[],hW',?_,?_,rfl,hsame.keptBut _,fun h=>by cases h⟩
 ·exact trodAll_mk1 (shut_bool Try.underlying4 true)
 ·exact(trod_cons (stays (by kernel_rfl) (of_decide_eq_true (by kernel_rfl)) hsame (fun x hx=>hlt x (by simp[hx])) h0)
   trodAll_mk0)
theorem ClockBefore_holds:Rows.ClockBeforeSaid:=
 OpenClaim.holds_of_wide 6 Try.f6 rfl rfl rfl rfl rfl rfl rfl ⟨rfl,rfl,rfl,rfl,rfl⟩ rfl rfl rfl rfl rfl (by kernel_rfl) Try.func6 (by kernel_rfl)
  (of_decide_eq_true (by kernel_rfl)) (by unfold Func.isWrapper;first|(rw[if_pos (by decide+kernel)];kernel_rfl)|(rw[if_neg (by decide+kernel)];exact⟨rfl,rfl⟩))
  (fun os started H enc _=>ClockBefore_lifted os started H enc)
#print axioms ClockBefore_holds
end Go.Proofs.Ytagnijhgpogfhaa
