/- TopSpoilt is true of the given program at every input, and leaves what is passed in as it was. No condition. From a contract to the model. What comes in, as our machine sees it: mills, rows, integers; what stays. -/
import Derived.Test.YtiphdfiihgbomabGreatRows
import Derived.ProofKit
import Derived.Test.YtiphdfiihgbomabGreatAbT
import Derived.Test.YtiphdfiihgbomabGreatAbX
import Derived.Test.YtiphdfiihgbomabGreatG2
import Derived.Test.YtiphdfiihgbomabGreatAc5
import Derived.Test.YtiphdfiihgbomabGreatAc7
import Derived.Test.YtiphdfiihgbomabGreatG9
set_option linter.unusedSimpArgs false
set_option linter.unusedVariables false
namespace Go.Ab.Tryz
open Go.Proofs
theorem fastA_ok:FastOk Tryz.prog tyG fastA:=⟨fun f g h=>by unfold fastA at h;cases h⟩
theorem callable {f:FuncId}{fd:FD}(h:fnG f=some fd):Callable Tryz.prog f:=callable_of fnOK h
theorem spec_of {f:FuncId}{fd:FD}(hf:fnG f=some fd){args:List V}{h:H}{Q:V→H→Prop}(he:Ev fnG fastA (.fn f [] []) args h Q):∃v h',SpecOk Tryz.prog tyG f args h v h'∧Q v h':=
 he.spec tyOK depth_ok mixed_ok fnOK fastA_ok (callable hf)
end Go.Ab.Tryz
namespace Go.Proofs.YtiphdfiihgbomabGreat
open Go.ChangeShapes Go.WideShapes Go.ChangeAt Go.RowKit
open Go.Ab
theorem Tryz.own:ownKnob Tryz.prog.godebug=none:=by kernel_rfl
theorem Tryz.laidOut:laidOutB Tryz.prog=true:=by kernel_rfl
def rvW (w:Go.Ab.Tryz.Wg):List Value:=[.int .i64 w.lot,.int .i64 w.reads,.int .i64 w.lo,.int .i64 w.hi]
section
variable {H:Type} {enc:TypeId × Value→H} {w:World} {base:Nat} {spare:Nat→Bool} {held:Bool}
def plainS (v:Value):Prop:=∀a n c,v=.slice (some a) n c→a.spot=none
end
def rowsB {ρ:Type}(ev:ρ→List V)(rows:List ρ):Option Blk:=match rows with|[]=>none|r::l=>some (.cells .ro ((r::l).map ev).flatten)
theorem rowsB_some {ρ:Type}{ev:ρ→List V}{rows:List ρ}{x:Blk}(h:rowsB ev rows=some x):rows≠[]∧x=.cells .ro (rows.map ev).flatten:=by
 cases rows with
 |nil=>cases h
 |cons r l=>cases h;exact⟨by simp,rfl⟩
def slV (q:Nat)(S:Value)(n:Nat):V:=match S with|.slice (some _) _ c=>.sl q 0 n (.fix c)|_=>.nils
theorem add_add (b off m j:Nat):((⟨b,off,none⟩:Addr).add m).add j=⟨b,off+(m+j),none⟩:=by
 unfold Addr.add
 by_cases hm:m=0
 ·subst hm
  by_cases hj:j=0
  ·subst hj;simp
  ·simp[hj]
 ·by_cases hj:j=0
  ·subst hj;simp[hm]
  ·simp[hm,hj];omega
theorem slice_in {w:World}{ρ:Type}{ev:ρ→List V}{rv:ρ→List Value}{k q:Nat}{S:Value}(hk:∀r,(ev r).length=k)(h0:0<k)(hconc:∀φ r,(ev r).map (conc φ)=rv r)(hp:plainS S)
  (h:S=.slice none 0 0∨∃(a:Addr) (len cap:Nat) (rows:List ρ),S=.slice (some a) len cap∧rows.length=len∧len≤maxLen∧∀i (hi:i<rows.length) j,j<k→w.cell? ((a.add (i*k)).add j)=(rv rows[i])[j]?):
  ∃(rows:List ρ) (b off:Nat),rows.length≤maxLen∧(∀φ:Phi,φ.blk q=b→φ.off q=off→conc φ (slV q S rows.length)=S∧(rows≠[]→∃o,w.heap[φ.blk q]? =some o∧rowIs φ q .ro (rows.map ev).flatten o))∧
   ((slV q S rows.length=.nils∧rows=[])∨∃c,slV q S rows.length=.sl q 0 rows.length (.fix c)):=by
 rcases h with rfl|⟨a,len,cap,rows,rfl,r1,r2,r3⟩
 ·exact⟨[],0,0,by simp,fun φ _ _=>⟨by simp[slV,conc],fun h=>absurd rfl h⟩,.inl ⟨rfl,rfl⟩⟩
 ·have hs:=hp a len cap rfl
  obtain⟨b,off,sp⟩:=a
  simp only at hs
  subst hs;subst r1
  refine⟨rows,b,off,r2,fun φ hb ho=>⟨by simp[slV,conc,Phi.at,hb,ho],fun hne=>rows_is hk h0 (hconc φ) (fun i hi j hj=>?_) hne hb ho⟩,.inr ⟨cap,rfl⟩⟩
  have:=r3 i hi j hj
  rw[add_add] at this
  exact this
theorem slAt_in {ρ:Type}{ev:ρ→List V}{k q:Nat}{S:Value}{rows:List ρ}{h:Go.Ab.H}(hk:∀r,(ev r).length=k)(hl:rows.length≤maxLen)(hb:h.get q=rowsB ev rows)
  (hs:(slV q S rows.length=.nils∧rows=[])∨∃c,slV q S rows.length=.sl q 0 rows.length (.fix c)):SlAt h (slV q S rows.length) k (rows.map ev):=by
 have hf:∀r∈rows.map ev,r.length=k:=by simp[hk]
 refine⟨hf,by simp only[List.length_map];unfold maxLen at hl;omega,?_⟩
 rcases hs with⟨e,e2⟩|⟨c,e⟩
 ·exact .inl ⟨e,by rw[e2];rfl⟩
 ·refine .inr ⟨q,0,.fix c,(rows.map ev).flatten,by rw[e];simp,?_,getN_eq.2 ⟨?_,?_⟩⟩
  ·cases rows with
   |nil=>exact .inl rfl
   |cons r l=>exact .inr (cells_of (by rw[hb];rfl))
  ·rw[List.drop_zero,←flatten_len hf,List.take_length]
  ·rw[flatten_len hf];omega
def inT:List (Option Blk)→Nat→T Blk
 |[],_=>.nil
 |b::l,i=>(inT l (i+1)).put b i
theorem inT_get:∀(l:List (Option Blk)) (i c:Nat),(inT l i).get c=if i≤c then(l[c-i]?).join else none
 |[],i,c=>by simp[inT,T.get_nil]
 |b::l,i,c=>by
  rw[inT,T.get_put_eq,inT_get l (i+1) c]
  by_cases e:c=i
  ·subst e;simp
  ·rw[if_neg e]
   by_cases h:i≤c
   ·rw[if_pos (by omega),if_pos h,show c-i=(c-(i+1))+1 by omega,List.getElem?_cons_succ]
   ·rw[if_neg (by omega),if_neg h]
def inH (l:List (Option Blk)):Go.Ab.H:=⟨l.length,inT l 0⟩
theorem inH_get (l:List (Option Blk))(c:Nat):(inH l).get c=(l[c]?).join:=by
 show(inT l 0).get c=_
 rw[inT_get];simp
structure InAt (φ:Phi)(w:World)(l:List (Option Blk)):Prop where
 at_:∀c y,(l[c]?).join=some y→∃cs,y=.cells .ro cs∧(∀v∈cs,∃k n,v=.int k n)∧∃o,w.heap[φ.blk c]? =some o∧rowIs φ c .ro cs o
theorem in_rep {φ:Phi}{w:World}{l:List (Option Blk)}(h:InAt φ w l):
  Rep Go.Ab.Tryz.tyG φ (inH l).get (fun b=>b<l.length) w∧(inH l).next=l.length∧(inH l).wf∧∀b y,(inH l).get b=some y→y.rw=false:=by
 have hlt:∀b y,(inH l).get b=some y→b<l.length:=fun b y hy=>by
  rw[inH_get] at hy
  by_cases e:b<l.length
  ·exact e
  ·rw[List.getElem?_eq_none (by omega)] at hy;cases hy
 refine⟨⟨fun b y hy=>?_,fun b c y z hy hz hrw=>?_,fun b y hy=>?_⟩,rfl,hlt,fun b y hy=>?_⟩
 ·rw[inH_get] at hy
  obtain⟨cs,rfl,_,o,h1,h2⟩:=h.at_ b y hy
  exact⟨o,h1,h2⟩
 ·rw[inH_get] at hy
  obtain⟨cs,rfl,_⟩:=h.at_ b y hy
  cases hrw
 ·have hl:=hlt b y hy
  rw[inH_get] at hy
  obtain⟨cs,rfl,hi,_⟩:=h.at_ b y hy
  exact⟨hl,scL_iff.2 fun v hv=>by obtain⟨k,n,rfl⟩:=hi v hv;trivial⟩
 ·rw[inH_get] at hy
  obtain⟨cs,rfl,_⟩:=h.at_ b y hy
  rfl
structure SlIn {ρ:Type}(ev:ρ→List V)(k q:Nat)(w:World)(S:Value)(rows:List ρ)(b off:Nat):Prop where
 len:rows.length≤maxLen
 is:∀φ:Phi,φ.blk q=b→φ.off q=off→conc φ (slV q S rows.length)=S∧(rows≠[]→∃o,w.heap[φ.blk q]? =some o∧rowIs φ q .ro (rows.map ev).flatten o)
 shape:(slV q S rows.length=.nils∧rows=[])∨∃c,slV q S rows.length=.sl q 0 rows.length (.fix c)
theorem SlIn.sc {ρ:Type}{ev:ρ→List V}{k q:Nat}{w:World}{S:Value}{rows:List ρ}{b off:Nat}(h:SlIn ev k q w S rows b off){n:Nat}(hq:q<n):(slV q S rows.length).sc fun b=>b<n:=by
 rcases h.shape with⟨e,_⟩|⟨c,e⟩<;>rw[e]<;>simp[V.sc];exact hq
theorem SlIn.blk {ρ:Type}{ev:ρ→List V}{k q:Nat}{w:World}{S:Value}{rows:List ρ}{b off:Nat}(h:SlIn ev k q w S rows b off){φ:Phi}(hb:φ.blk q=b)(ho:φ.off q=off)(hints:∀r,∀v∈ev r,∃k n,v=.int k n):
  ∀y,rowsB ev rows=some y→∃cs,y=.cells .ro cs∧(∀v∈cs,∃k n,v=.int k n)∧∃o,w.heap[φ.blk q]? =some o∧rowIs φ q .ro cs o:=fun y hy=>by
 obtain⟨e,rfl⟩:=rowsB_some hy
 refine⟨_,rfl,fun v hv=>?_,(h.is φ hb ho).2 e⟩
 obtain⟨r,hr,hvr⟩:=List.mem_flatten.1 hv
 obtain⟨a,_,rfl⟩:=List.mem_map.1 hr
 exact hints a v hvr
theorem SlIn.sl {ρ:Type}{ev:ρ→List V}{k q:Nat}{w:World}{S:Value}{rows:List ρ}{b off:Nat}(h:SlIn ev k q w S rows b off)(hk:∀r,(ev r).length=k){l:List (Option Blk)}(hl:l[q]? =some (rowsB ev rows)):
  SlAt (inH l) (slV q S rows.length) k (rows.map ev):=slAt_in hk h.len (by rw[inH_get,hl];rfl) h.shape
theorem slIn {w:World}{ρ:Type}{ev:ρ→List V}{rv:ρ→List Value}{k q:Nat}{S:Value}(hk:∀r,(ev r).length=k)(h0:0<k)(hconc:∀φ r,(ev r).map (conc φ)=rv r)(hp:plainS S)
  (h:S=.slice none 0 0∨∃(a:Addr) (len cap:Nat) (rows:List ρ),S=.slice (some a) len cap∧rows.length=len∧len≤maxLen∧∀i (hi:i<rows.length) j,j<k→w.cell? ((a.add (i*k)).add j)=(rv rows[i])[j]?):
  ∃(rows:List ρ) (b off:Nat),SlIn ev k q w S rows b off:=by
 obtain⟨rows,b,off,h1,h2,h3⟩:=slice_in (q:=q) hk h0 hconc hp h
 exact⟨rows,b,off,h1,h2,h3⟩
set_option maxRecDepth 100000 in
theorem slice_arg {H:Type}{enc:TypeId × Value→H}{w:World}{base:Nat}{spare:Nat→Bool}{held:Bool}{ρ:Type}{ev:ρ→List V}{rv:ρ→List Value}{t e:TypeId}{k q:Nat}{v:Value}{d:DataW H}{ps:List MemPlace}{r:Reach}{b0:Nat}
  (ht:Tryz.prog.underlying t=some (.slice e)) (hc:Tryz.prog.cellsOf e=k) (hc1:Tryz.prog.cellsOf t=1) (hrow:∀n cs (x:DataW H × List MemPlace),DataW.trod enc Tryz.prog w base spare held n e cs=some x→∃r,cs=rv r)
  (hk:∀r,(ev r).length=k) (h0:0<k) (hconc:∀φ r,(ev r).map (conc φ)=rv r)
  (hval:Value.okWide Tryz.prog w r b0 t v) (hd:DataW.Trod enc Tryz.prog w base spare held t v d ps):∃(rows:List ρ) (b off:Nat),SlIn ev k q w v rows b off:=by
 have hval':=hval
 simp only[Value.okWide,ht] at hval
 have hp:plainS v:=fun a n c e=>by
  subst e
  simp only[Cell.okWide,ht,Cell.ok,World.has] at hval
  exact hval.2.2.2.1
 obtain⟨fuel,hf⟩:=hd
 have hg:=slice_rows (rv:=rv) ht hc hrow hf
 have hone:∀x,v.cells.toList=[x]→(∃a n c,x=.slice a n c)→v=x:=fun x hx hsl=>by
  cases v<;>simp[Value.cells] at hx<;>first|exact hx|skip
  all_goals
   exfalso
   simp only[Cell.okWide,ht,Cell.ok] at hval
 refine slIn (q:=q) hk h0 hconc hp ?_
 rcases hg with hg|⟨a,len,cap,rows,e,r1,r2,r3⟩
 ·exact .inl (hone _ hg ⟨_,_,_,rfl⟩)
 ·exact .inr ⟨a,len,cap,rows,hone _ e ⟨_,_,_,rfl⟩,r1,r2,r3⟩
theorem Same.at {W W':World}(h:Same W W'){p:MemPlace}(hp:p.block<W.heap.size):W.sameAt W' p:=by
 cases p with
 |cell b o=>exact World.cell?_of_block (w:=W) (h.2.2.2 b hp)
 |map b=>exact h.2.2.2 b hp
theorem stays {H:Type}{enc:TypeId × Value→H}{W W':World}{t:TypeId}{v:Value}{d:DataW H}{ps:List MemPlace}(hr:Tryz.prog.readableRec t=true)(ht:t<Tryz.prog.types.size)(hs:Same W W')(hlt:∀x∈ps,x.block<W.heap.size)
  (h:DataW.Trod enc Tryz.prog W 0 (fun _=>true) true t v d ps):DataW.Trod enc Tryz.prog W' 0 (fun b=>decide (b<W.heap.size)) true t v d ps:=
 WideElems.Trod_stays Tryz.laidOut hr ht h (fun x hx=>Same.at hs (hlt x hx)) (fun x hx=>by simpa using hlt x hx)
theorem trod_cons {H:Type}{enc:TypeId × Value→H}{W:World}{base:Nat}{sp:Nat→Bool}{held:Bool}{t:TypeId}{ts:List TypeId}{v:Value}{vs:List Value}{d:DataW H}{ds:List (DataW H)}{p q:List MemPlace}(h:DataW.Trod enc Tryz.prog W base sp held t v d p)
  (k:DataW.TrodAll enc Tryz.prog W base sp held ts vs ds q):DataW.TrodAll enc Tryz.prog W base sp held (t::ts) (v::vs) (d::ds) (p++q):=⟨p,q,h,k,rfl⟩
end Go.Proofs.YtiphdfiihgbomabGreat
namespace Go.Proofs.YtiphdfiihgbomabGreat
open Go.ChangeShapes Go.WideShapes Go.ChangeAt Go.RowKit
open Go.Ab
theorem u8_in {n:Int}(h:(Lit.int .u8 n).wf=true):0≤n∧n≤255:=by simp[Lit.wf,IntKind.min,IntKind.max,IntKind.bits,IntKind.signed] at h;omega
theorem Tryz.cells22:Tryz.prog.cellsOf 22=1:=by kernel_rfl
theorem Tryz.cells5:Tryz.prog.cellsOf 5=1:=by kernel_rfl
theorem u8_row {H:Type}{enc:TypeId × Value→H}{w:World}{base:Nat}{spare:Nat→Bool}{held:Bool}{t:TypeId}(ht:Tryz.prog.underlying t=some (.int .u8))(n:Nat)(cs:List Value)(x:DataW H × List MemPlace)(h:DataW.trod enc Tryz.prog w base spare held n t cs=some x):∃r:Int,cs=[.int .u8 r]:=by
 obtain⟨a,h1,_⟩:=DataW.trod_int ht h
 exact⟨a,h1⟩
theorem encU8_all (r:Int):∀v∈Go.Ab.Tryz.encU8 r,∃k n,v=.int k n:=by
 intro v hv
 simp[Go.Ab.Tryz.encU8] at hv
 subst hv;exact⟨_,_,rfl⟩
set_option maxRecDepth 100000 in
theorem topSpoilt_walk {H':Type}{enc:TypeId × Value→H'}{W:World}{base:Nat}{spare:Nat→Bool}{held:Bool}{r:Reach}{b0:Nat}{v0:Value}{d0:DataW H'}{p0:List MemPlace}(hval0:Value.okWide Tryz.prog W r b0 22 v0)(hd0:DataW.Trod enc Tryz.prog W base spare held 22 v0 d0 p0){v1:Value}{d1:DataW H'}{p1:List MemPlace}(hval1:Value.okWide Tryz.prog W r b0 22 v1)(hd1:DataW.Trod enc Tryz.prog W base spare held 22 v1 d1 p1){a2:Int}(ha2:(Lit.int .u8 a2).wf=true):
  Calls Tryz.prog 3 #[v0,v1,.int .u8 a2] W fun x W'=>x=.returned (.bool true)∧Same W W':=by
 obtain⟨l0,b0,o0,i0⟩:=slice_arg (q:=0) (ev:=Go.Ab.Tryz.encU8) (k:=1) (rv:=fun n=>[Value.int .u8 n]) Tryz.underlying22 Tryz.cells5 Tryz.cells22 (u8_row Tryz.underlying5) (fun _=>rfl) (by omega) (fun φ r=>by simp[Go.Ab.Tryz.encU8,conc]) hval0 hd0
 obtain⟨l1,b1,o1,i1⟩:=slice_arg (q:=1) (ev:=Go.Ab.Tryz.encU8) (k:=1) (rv:=fun n=>[Value.int .u8 n]) Tryz.underlying22 Tryz.cells5 Tryz.cells22 (u8_row Tryz.underlying5) (fun _=>rfl) (by omega) (fun φ r=>by simp[Go.Ab.Tryz.encU8,conc]) hval1 hd1
 let φ:Phi:=⟨fun b=>if b=0 then b0 else b1,fun b=>if b=0 then o0 else o1,fun _=>0⟩
 let l:List (Option Blk):=[rowsB Go.Ab.Tryz.encU8 l0,rowsB Go.Ab.Tryz.encU8 l1]
 have hin:InAt φ W l:=⟨fun c y hy=>by
  have hc:c=0∨c=1:=by
   by_cases h:c<2
   ·omega
   ·rw[List.getElem?_eq_none (by simp[l];omega)] at hy;cases hy
  rcases hc with rfl|rfl
  ·exact i0.blk (φ:=φ) rfl rfl encU8_all y hy
  ·exact i1.blk (φ:=φ) rfl rfl encU8_all y hy⟩
 obtain⟨hR,hn,hwf,hro⟩:=in_rep hin
 have hn3:(inH l).next=2:=hn
 have hk0:SlAt (inH l) (slV 0 v0 l0.length) 1 (l0.map Go.Ab.Tryz.encU8):=i0.sl (fun _=>rfl) rfl
 have hk1:SlAt (inH l) (slV 1 v1 l1.length) 1 (l1.map Go.Ab.Tryz.encU8):=i1.sl (fun _=>rfl) rfl
 obtain⟨u,h',hs,rfl⟩:=Go.Ab.Tryz.spec_of (fd:=Go.Ab.Tryz.c3) rfl (Go.Ab.Tryz.TopSpoilt_ev hwf hk0 hk1 (u8_in ha2))
 have hc:=calls_of_spec hs hR (fun b hb _=>by rw[hn3] at hb;show¬b<2;omega) (show scL _ _ from⟨i0.sc (by show 0<2;decide),i1.sc (by show 1<2;decide),trivial,trivial⟩) hwf hro
 have ea:([slV 0 v0 l0.length,slV 1 v1 l1.length,V.int .u8 a2].map (conc φ)).toArray= #[v0,v1,.int .u8 a2]:=by
  have e0:=(i0.is φ rfl rfl).1
  have e1:=(i1.is φ rfl rfl).1
  simp[conc,concs,e0,e1,Go.Ab.Tryz.encW,rvW]
 rw[ea] at hc
 refine hc.mono fun e W' he=>?_
 obtain⟨φ',rfl,hsame⟩:=he
 exact⟨by simp[conc],hsame⟩
set_option maxRecDepth 100000 in
theorem TopSpoilt_lifted (os:Os)(started:os.Started)(H:Type)(enc:TypeId × Value→H):
  ReturnsInHanded {} Tryz.checked os 3 .any (Rows.topSpoiltSpec.pre6 enc Tryz.prog Tryz.f3 Rows.topSpoiltRow.domain false) (Rows.topSpoiltSpec.post enc Tryz.prog Tryz.f3 false true false false):=by
 refine returnsInHanded_of_change (C:=Tryz.checked) Tryz.own started (by kernel_rfl) Tryz.func3
  (ChangeSpec.witness6 (enc:=enc) (C:=Tryz.checked) false ⟨#[], #[.slice none 0 0,.slice none 0 0,.int .u8 0],[]⟩ 8 (by kernel_rfl) (by kernel_rfl) (by kernel_rfl) (by kernel_rfl)) ?_
 intro W base args ds gs before hval0 hW hcnd _
 have hval:∀(j:Nat) t v,Tryz.f3.params[j]? =some t→args[j]? =some v→Value.okWide Tryz.prog W .any base t v:=hval0
 have hW':=hW
 obtain⟨p,q,hA0,hV,rfl,hfz,hnd⟩:=hW
 have hA:DataW.TrodAll enc Tryz.prog W 0 (fun _=>true) true Tryz.f3.params.toList args.toList ds p:=hA0
 rw[Tryz.params3] at hA hval
 obtain⟨v0,vs,d0,ds0,p0,q0,ea,rfl,rfl,h0,hr⟩:=trodAll_cons hA
 obtain⟨v1,vs,d1,ds0,p1,q0,rfl,rfl,rfl,h1,hr⟩:=trodAll_cons hr
 obtain⟨v2,vs,d2,ds0,p2,q0,rfl,rfl,rfl,h2,hr⟩:=trodAll_cons hr
 obtain⟨rfl,rfl,rfl⟩:=trodAll_nil hr
 have ea':args= #[v0,v1,v2]:=by cases args;simp_all
 subst ea'
 obtain⟨rfl,rfl⟩:=trodVars_none hV
 have hm0:=hval 0 22 v0 rfl rfl
 have hm1:=hval 1 22 v1 rfl rfl
 obtain⟨a2,rfl,rfl,rfl,wa2⟩:=open_int Tryz.underlying5 (hval 2 5 v2 rfl rfl) h2
 clear hA0 hval0
 have hlt:∀x∈p0++(p1++([]++[])),x.block<W.heap.size:=fun x hx=>by simpa using hW'.lt x (by simpa using hx)
 refine(topSpoilt_walk hm0 h0 hm1 h1 wa2).mono fun x W' hx=>?_
 obtain⟨rfl,hsame⟩:=hx
 refine⟨_,rfl,_,_,_,[],p0++(p1++([]++[])),[],hW',?_,?_,rfl,hsame.keptBut _,fun h=>by cases h⟩
 ·exact trodAll_mk1 (shut_bool Tryz.underlying4 true)
 ·exact(trod_cons (stays (by kernel_rfl) (of_decide_eq_true (by kernel_rfl)) hsame (fun x hx=>hlt x (by simp[hx])) h0)
   (trod_cons (stays (by kernel_rfl) (of_decide_eq_true (by kernel_rfl)) hsame (fun x hx=>hlt x (by simp[hx])) h1)
   (trod_cons (shut_int Tryz.underlying5 wa2)
   trodAll_mk0)))
theorem TopSpoilt_holds:Rows.TopSpoiltSaid:=
 OpenClaim.holds_of_wide 3 Tryz.f3 rfl rfl rfl rfl rfl rfl rfl ⟨rfl,rfl,rfl,rfl,rfl⟩ rfl rfl rfl rfl rfl (by kernel_rfl) Tryz.func3 (by kernel_rfl)
  (of_decide_eq_true (by kernel_rfl)) (by unfold Func.isWrapper;first|(rw[if_pos (by decide+kernel)];kernel_rfl)|(rw[if_neg (by decide+kernel)];exact⟨rfl,rfl⟩))
  (fun os started H enc _=>TopSpoilt_lifted os started H enc)
#print axioms TopSpoilt_holds
end Go.Proofs.YtiphdfiihgbomabGreat
