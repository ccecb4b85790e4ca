/- What our heaps stand for in the model's worlds; operations that only read are sound. -/
import Derived.Test.YtiphdfiihgbomabGreatAb3
import Derived.Laws.CopyRow
import Derived.Laws.Entries
set_option linter.unusedSimpArgs false
set_option linter.unusedVariables false
namespace Go.Ab
def UD.is:UD→TypeDesc→Prop
 |.int k,.int j=>k=j
 |.bool,.bool=>True
 |.ptr e,.pointer f=>e=f
 |.slice e,.slice f=>e=f
 |.arr n e,.array m f=>n=m∧e=f
 |.map k e,.map j f=>k=j∧e=f
 |.struct fs,.struct gs=>fs=gs.toList.map (fun f=>(f.offset,f.type))∧∀f∈gs.toList,f.name≠ "_"
 |.func,.func _ _ _=>True
 |_,_=>False
def zeroOf (d:TD):Value:=
 if d.u.agg then .agg (d.z.map (conc ⟨fun _=>0,fun _=>0,fun _=>0⟩)).toArray else conc ⟨fun _=>0,fun _=>0,fun _=>0⟩ (d.z.headD .und)
structure TyIs (P:Program)(t:TypeId)(d:TD)(i:TypeInfo)(u:TypeDesc):Prop where
 info:P.info? t=some i
 under:P.underlying t=some u
 is:d.u.is u
 size:i.size=d.size
 bytes:i.bytes=d.by_
 zero:i.zero=some (zeroOf d)
 sc:scL (fun _=>False) d.z
 len:d.z.length=d.size
 one:d.u.agg=false→∃v,d.z=[v]∧v.one=true
 stood:P.stoodInHeld t=false
def TyOK (P:Program)(Ty:Nat→Option TD):Prop:=∀t d,Ty t=some d→∃i u,TyIs P t d i u
theorem conc_closed {v:V}(h:v.sc fun _=>False)(φ ψ :Phi):conc φ v=conc ψ v:=conc_agree (p:=fun _=>False) (fun _ h=>h.elim) v h
theorem map_conc_closed {l:List V}(h:scL (fun _=>False) l)(φ ψ :Phi):l.map (conc φ)=l.map (conc ψ):=
 map_conc_agree (p:=fun _=>False) (fun _ h=>h.elim) l h
theorem zeroOf_eq {P:Program}{t:TypeId}{d:TD}{i:TypeInfo}{u:TypeDesc}(h:TyIs P t d i u)(φ:Phi):
  zeroOf d=if d.u.agg then .agg (d.z.map (conc φ)).toArray else conc φ (d.z.headD .und):=by
 unfold zeroOf
 split
 ·rw[map_conc_closed h.sc]
 ·rename_i ha
  obtain⟨v,hv,_⟩:=h.one (by simpa using ha)
  have:=h.sc;rw[hv] at this⊢
  exact conc_closed this.1 _ _
theorem conc_one {φ:Phi}{v:V}(h:v.one=true):(conc φ v).oneCell'=true:=by
 cases v<;>simp only[V.one,Bool.false_eq_true] at h
 case sl b o n c=>cases c<;>rfl
 all_goals rfl
theorem conc_cells {φ:Phi}(v:V):(conc φ v).cells=(v.cells.map (conc φ)).toArray:=by
 cases v
 case agg cs=>simp[conc,Value.cells,V.cells,concs_eq]
 case sl b o n c=>cases c<;>simp[conc,Value.cells,V.cells]
 all_goals simp[conc,Value.cells,V.cells]
theorem zeroOf_cells {P:Program}{t:TypeId}{d:TD}{i:TypeInfo}{u:TypeDesc}(h:TyIs P t d i u)(φ:Phi):
  (zeroOf d).cells=(d.z.map (conc φ)).toArray:=by
 rw[zeroOf_eq h φ]
 split
 ·rfl
 ·rename_i ha
  obtain⟨v,hv,h1⟩:=h.one (by simpa using ha)
  rw[hv,List.headD_cons,conc_cells]
  cases v<;>first|rfl|(simp[V.one] at h1)
section
variable {P:Program} {t:TypeId} {d:TD} {i:TypeInfo} {u:TypeDesc}
theorem TyIs.r_under (h:TyIs P t d i u)(w:World):(underlying t).run P w=.ok u w:=by simp[underlying,h.under]
theorem TyIs.r_info (h:TyIs P t d i u)(w:World):(typeInfo t).run P w=.ok i w:=by simp[typeInfo,h.info]
theorem TyIs.r_size (h:TyIs P t d i u)(w:World):(sizeOf t).run P w=.ok d.size w:=by simp[sizeOf,h.r_info,h.size]
theorem TyIs.r_zero (h:TyIs P t d i u)(w:World):(zeroValue t).run P w=.ok (zeroOf d) w:=by simp[zeroValue,h.r_info,h.zero]
theorem TyIs.r_agg (h:TyIs P t d i u)(w:World):(isAgg t).run P w=.ok d.u.agg w:=by
 have:=h.is
 unfold isAgg
 simp only[Sem.run_bind,h.r_under,Result.andThen]
 cases hu:d.u<;>cases u<;>simp_all [UD.is,UD.agg]
end
def Kd.isRw:Kd→Bool
 |.ro=>false
 |_=>true
def Blk.rw:Blk→Bool
 |.cells k _=>k.isRw
 |.old _ _ _=>false
 |_=>true
def Blk.isOld:Blk→Bool
 |.old _ _ _=>true
 |_=>false
theorem Blk.rw_old {x:Blk}(h:x.rw=true):x.isOld=false:=by cases x<;>simp_all [Blk.rw,Blk.isOld]
def Blk.dup (φ:Phi)(b:Nat):Blk→Prop
 |.old n o _=>φ.blk b=φ.blk n∧φ.off n=φ.off b+o
 |_=>False
theorem Blk.dup_old {φ:Phi}{b:Nat}{x:Blk}(h:x.dup φ b):x.isOld=true:=by cases x<;>simp_all [Blk.dup,Blk.isOld]
def Nw (b:Nat)(x:Blk)(c:Nat)(y:Blk):Prop:=(x.rw=true→y.rw=true)∧(y.isOld=true→c=b∧x=y)
theorem Nw.refl {b:Nat}{x:Blk}:Nw b x b x:=⟨id,fun _=>⟨rfl,rfl⟩⟩
theorem Nw.ofRw {b c:Nat}{x y:Blk}(h:y.rw=true):Nw b x c y:=⟨fun _=>h,fun h'=>by rw[Blk.rw_old h] at h';cases h'⟩
theorem Nw.trans {b c d:Nat}{x y z:Blk}(h:Nw b x c y)(k:Nw c y d z):Nw b x d z:=⟨fun hx=>k.1 (h.1 hx),fun hz=>by
 obtain⟨e1,e2⟩:=k.2 hz
 subst e2;subst e1
 exact h.2 hz⟩
def X.code:X→Option Code
 |.nrm=>none
 |.ext id=>some (.exit id)
 |.ret=>some .ret
def tmsIs (φ:Phi)(N:Nat)(tm:T V)(a:Array Value):Prop:=
 a.size=N∧∀t,a.getD t undef=conc φ (Opd.ev tm (.t t))∧(N≤t→tm.get t=none)
def rowIs (φ:Phi)(b:Nat)(k:Kd)(cs:List V)(o:Obj):Prop:=
 ∃C e fz,o=.cells C e fz∧(k.isRw=true→fz=(0,0))∧φ.off b+cs.length≤C.size∧
  (∀i v,cs[i]? =some v→C[φ.off b+i]? =some (conc φ v))∧
  (∀sz,k=.gr sz→φ.off b+φ.cap b*sz≤C.size∧cs.length≤φ.cap b*sz)
def blkIs (Ty:Nat→Option TD)(φ:Phi)(b:Nat):Blk→Obj→Prop
 |.cells k cs,o=>rowIs φ b k cs o
 |.map es,o=>∃E clk,o=.map E clk∧E.toList.map (fun e=>(e.key,e.val))=es.map (fun p=>(conc φ p.1,conc φ p.2))∧(∀(i:Nat) (e:MapEntry),E[i]? =some e→e.born=i)∧clk=E.size
 |.loop r,o=>∃L,o=.loop L∧L.params.toList=r.ps∧comp Ty L.assign=some r.assign∧comp Ty L.body=some r.body∧
   L.state=r.st∧L.pending=r.pend.bind X.code∧L.defers=φ.blk r.dfr∧tmsIs φ r.n r.tm L.tmps∧
   r.assign.lt r.n=true∧r.body.lt r.n=true∧numsLt r.n r.ps=true
 |.dfr,o=>o=.deferred (some [])
 |.old n o cs,ob=>(φ.blk b=φ.blk n∧φ.off n=φ.off b+o)∨∃C e fz,ob=.cells C e fz∧∀i v,cs[i]? =some v→C[φ.off b+o+i]? =some (conc φ v)
def Blk.sc (p:Nat→Prop):Blk→Prop
 |.cells _ cs=>scL p cs
 |.map es=>∀e∈es,e.1.sc p∧e.2.sc p
 |.loop r=>p r.dfr∧∀t v,r.tm.get t=some v→v.sc p
 |.dfr=>True
 |.old n _ cs=>p n∧scL p cs
structure Rep (Ty:Nat→Option TD)(φ:Phi)(g:Nat→Option Blk)(p:Nat→Prop)(w:World):Prop where
 blk:∀b x,g b=some x→∃o,w.heap[φ.blk b]? =some o∧blkIs Ty φ b x o
 inj:∀b c x y,g b=some x→g c=some y→x.rw=true→b≠c→φ.blk b≠φ.blk c∨y.dup φ c
 sc:∀b x,g b=some x→p b∧x.sc p
structure Ext (φ:Phi)(p:Nat→Prop)(g:Nat→Option Blk)(w:World)(φ':Phi)(p':Nat→Prop)(g':Nat→Option Blk)(w':World):Prop where
 agree:φ.agree φ' p
 mono:∀b,p b→p' b
 size:w.heap.size≤w'.heap.size
 kept:∀B,B<w.heap.size→(∀b x,g b=some x→x.rw=true→φ.blk b≠B)→w'.heap[B]? =w.heap[B]?
 new:∀b x,g' b=some x→w.heap.size≤φ'.blk b∨∃c y,g c=some y∧Nw b x c y∧φ.blk c=φ'.blk b
 env:w'.os=w.os∧w'.output=w.output
theorem Ext.refl (φ:Phi)(p:Nat→Prop)(g:Nat→Option Blk)(w:World):Ext φ p g w φ p g w:=
 ⟨φ.agree_refl p,fun _ h=>h,Nat.le_refl _,fun _ _ _=>rfl,fun b x h=>.inr ⟨b,x,h,.refl,rfl⟩,rfl,rfl⟩
theorem Ext.trans {φ φ' φ'':Phi}{p p' p'':Nat→Prop}{g g' g'':Nat→Option Blk}{w w' w'':World}
  (h:Ext φ p g w φ' p' g' w') (k:Ext φ' p' g' w' φ'' p'' g'' w''):Ext φ p g w φ'' p'' g'' w'':=by
 refine⟨h.agree.trans k.agree h.mono,fun b hb=>k.mono b (h.mono b hb),Nat.le_trans h.size k.size,fun B hB hne=>?_,fun b x hb=>?_,k.env.1.trans h.env.1,k.env.2.trans h.env.2⟩
 ·rw[k.kept B (Nat.lt_of_lt_of_le hB h.size) (fun b x hb hx e=>?_),h.kept B hB hne]
  rcases h.new b x hb with hlt|⟨c,y,hc,hy,e2⟩
  ·omega
  ·exact hne c y hc (hy.1 hx) (e2.trans e)
 ·rcases k.new b x hb with hlt|⟨c,y,hc,hy,e2⟩
  ·exact .inl (Nat.le_trans h.size hlt)
  ·rcases h.new c y hc with hlt|⟨c2,y2,hc2,hy2,e3⟩
   ·exact .inl (e2▸hlt)
   ·exact .inr ⟨c2,y2,hc2,hy.trans hy2,e3.trans e2⟩
theorem tmsIs.agree {φ ψ :Phi}{p:Nat→Prop}{N:Nat}{tm:T V}{a:Array Value}(h:tmsIs φ N tm a)(ha:φ.agree ψ p)
  (hs:∀t v,tm.get t=some v→v.sc p):tmsIs ψ N tm a:=by
 refine⟨h.1,fun t=>⟨?_,(h.2 t).2⟩⟩
 rw[(h.2 t).1]
 cases ht:tm.get t with
 |none=>simp[Opd.ev,ht,conc,concs]
 |some v=>simp only[Opd.ev,ht];exact conc_agree ha v (hs t v ht)
theorem rowIs.agree {φ ψ :Phi}{p:Nat→Prop}{b:Nat}{k:Kd}{cs:List V}{o:Obj}(h:rowIs φ b k cs o)(ha:φ.agree ψ p)(hb:p b)(hs:scL p cs):
  rowIs ψ b k cs o:=by
 obtain⟨C,e,fz,ho,hf,hl,hc,hg⟩:=h
 obtain⟨_,h2,h3⟩:=ha b hb
 refine⟨C,e,fz,ho,hf,h2▸hl,fun i v hi=>?_,fun sz hk=>?_⟩
 ·rw[←h2,hc i v hi,conc_agree ha v (scL_iff.1 hs v (List.mem_of_getElem? hi))]
 ·rw[←h2,←h3];exact hg sz hk
theorem blkIs.agree {Ty:Nat→Option TD}{φ ψ :Phi}{p:Nat→Prop}{b:Nat}{x:Blk}{o:Obj}(h:blkIs Ty φ b x o)(ha:φ.agree ψ p)(hb:p b)(hs:x.sc p):
  blkIs Ty ψ b x o:=by
 cases x with
 |cells k cs=>exact rowIs.agree h ha hb hs
 |map es=>
  obtain⟨E,clk,ho,he,hbn⟩:=h
  refine⟨E,clk,ho,he.trans (List.map_congr_left fun e hm=>?_),hbn⟩
  have:=hs e hm
  rw[conc_agree ha e.1 this.1,conc_agree ha e.2 this.2]
 |loop r=>
  obtain⟨L,h1,h3,h4,h5,h6,h7,h8,h9,h10⟩:=h
  exact⟨L,h1,h3,h4,h5,h6,h7,h8.trans (ha _ hs.1).1,h9.agree ha hs.2,h10⟩
 |dfr=>exact h
 |old n k cs=>
  obtain⟨_,h2,_⟩:=ha b hb
  obtain⟨n1,n2,_⟩:=ha n hs.1
  have h1:=(ha b hb).1
  rcases h with⟨e1,e2⟩|⟨C,e,fz,ho,hc⟩
  ·exact .inl ⟨by rw[←h1,←n1];exact e1,by rw[←h2,←n2];exact e2⟩
  ·exact .inr ⟨C,e,fz,ho,fun i v hi=>by rw[←h2,hc i v hi,conc_agree ha v (scL_iff.1 hs.2 v (List.mem_of_getElem? hi))]⟩
theorem Blk.dup_agree {φ ψ :Phi}{p:Nat→Prop}{b:Nat}{x:Blk}(h:x.dup φ b)(ha:φ.agree ψ p)(hb:p b)(hs:x.sc p):x.dup ψ b:=by
 cases x with
 |old n k cs=>
  obtain⟨e1,e2⟩:=h
  obtain⟨h1,h2,_⟩:=ha b hb
  obtain⟨n1,n2,_⟩:=ha n hs.1
  exact⟨by rw[←h1,←n1];exact e1,by rw[←h2,←n2];exact e2⟩
 |_=>exact h.elim
theorem Blk.dup_is {Ty:Nat→Option TD}{φ:Phi}{b:Nat}{x:Blk}{o:Obj}(h:x.dup φ b):blkIs Ty φ b x o:=by
 cases x with
 |old n k cs=>exact .inl h
 |_=>exact h.elim
theorem Blk.sc_mono {p q:Nat→Prop}(h:∀b,p b→q b){x:Blk}(hs:x.sc p):x.sc q:=by
 cases x with
 |cells k cs=>exact scL_mono h cs hs
 |map es=>exact fun e he=>⟨V.sc_mono h _ (hs e he).1,V.sc_mono h _ (hs e he).2⟩
 |loop r=>exact⟨h _ hs.1,fun t v ht=>V.sc_mono h _ (hs.2 t v ht)⟩
 |dfr=>trivial
 |old n k cs=>exact⟨h _ hs.1,scL_mono h _ hs.2⟩
theorem cstS_conc {v:Value}{x:V}(h:cstS v=some x)(φ:Phi):conc φ x=v∧x.sc (fun _=>False)∧x.one=true:=by
 unfold cstS at h
 split at h<;>first|(cases h;simp[conc,V.sc,V.one];done)|skip
 ·rename_i n c
  cases h1:Nat.beq n 0 with
  |false=>simp[h1] at h
  |true=>
   cases h2:Nat.beq c 0 with
   |false=>simp[h1,h2] at h
   |true=>
    simp only[h1,h2,Option.some.injEq] at h
    subst h
    have e1:=Nat.eq_of_beq_eq_true h1
    have e2:=Nat.eq_of_beq_eq_true h2
    subst e1 e2
    simp[conc,V.sc,V.one]
 ·cases h
theorem cstL_conc {l:List Value}{r:List V}(h:cstL l=some r)(φ:Phi):r.map (conc φ)=l∧scL (fun _=>False) r:=by
 induction l generalizing r with
 |nil=>cases h;simp[scL]
 |cons v l ih=>
  simp only[cstL] at h
  cases h1:cstS v with
  |none=>simp[h1] at h
  |some x=>
   cases h2:cstL l with
   |none=>simp[h1,h2] at h
   |some y=>
    simp only[h1,h2,Option.some.injEq] at h
    subst h
    obtain⟨a,b,_⟩:=cstS_conc h1 φ
    obtain⟨c,d⟩:=ih h2
    exact⟨by simp[a,c],b,d⟩
theorem cst_conc {v:Value}{x:V}(h:cst v=some x)(φ:Phi):conc φ x=v∧x.sc (fun _=>False):=by
 unfold cst at h
 split at h
 ·rename_i cs
  cases h1:cstL cs.toList with
  |none=>simp[h1] at h
  |some l=>
   simp only[h1,Option.some.injEq] at h
   subst h
   obtain⟨a,b⟩:=cstL_conc h1 φ
   exact⟨by simp[conc,concs_eq,a],b⟩
 ·exact⟨(cstS_conc h φ).1,(cstS_conc h φ).2.1⟩
def OpsAre (φ:Phi)(tm:T V)(ρ:Operand→Value):Prop:=∀x y,opd x=some y→ρ x=conc φ (y.ev tm)
theorem opsAre_of {φ:Phi}{N:Nat}{tm:T V}{a:Act}(h:tmsIs φ N tm a.tmps):OpsAre φ tm a.eval:=by
 intro x y hy
 cases x with
 |tmp t=>cases hy;exact(h.2 t).1
 |const v=>
  simp only[opd] at hy
  cases h1:cst v with
  |none=>simp[h1] at hy
  |some x=>simp only[h1,Option.some.injEq] at hy;subst hy;exact(cst_conc h1 φ).1.symm
 |func f=>cases hy;simp[Act.eval,Opd.ev,conc,concs]
 |global g=>cases hy
theorem opds_map {φ:Phi}{tm:T V}{ρ:Operand→Value}(hρ:OpsAre φ tm ρ){l:List Operand}{r:List Opd}(h:opds l=some r):
  l.map ρ=(evs tm r).map (conc φ):=by
 induction l generalizing r with
 |nil=>cases h;rfl
 |cons x l ih=>
  simp only[opds] at h
  cases h1:opd x with
  |none=>simp[h1] at h
  |some y=>
   cases h2:opds l with
   |none=>simp[h1,h2] at h
   |some z=>
    simp only[h1,h2,Option.some.injEq] at h
    subst h
    simp[evs,hρ x y h1,ih h2]
def TmSc (p:Nat→Prop)(tm:T V):Prop:=∀t v,tm.get t=some v→v.sc p
theorem V.sc_false {p:Nat→Prop}{v:V}(h:v.sc fun _=>False):v.sc p:=V.sc_mono (fun _ h=>h.elim) v h
theorem ev_sc {p:Nat→Prop}{tm:T V}(h:TmSc p tm){x:Operand}{y:Opd}(hy:opd x=some y):(y.ev tm).sc p:=by
 cases x with
 |tmp t=>
  cases hy
  simp only[Opd.ev]
  cases ht:tm.get t with
  |none=>simp[V.sc,scL]
  |some v=>exact h t v ht
 |const v=>
  simp only[opd] at hy
  cases h1:cst v with
  |none=>simp[h1] at hy
  |some x=>simp only[h1,Option.some.injEq] at hy;subst hy;exact V.sc_false (cst_conc h1 ⟨fun _=>0,fun _=>0,fun _=>0⟩).2
 |func f=>cases hy;simp[Opd.ev,V.sc,scL]
 |global g=>cases hy
theorem evs_sc {p:Nat→Prop}{tm:T V}(h:TmSc p tm){l:List Operand}{r:List Opd}(hl:opds l=some r):scL p (evs tm r):=by
 induction l generalizing r with
 |nil=>cases hl;trivial
 |cons x l ih=>
  simp only[opds] at hl
  cases h1:opd x with
  |none=>simp[h1] at hl
  |some y=>
   cases h2:opds l with
   |none=>simp[h1,h2] at hl
   |some z=>
    simp only[h1,h2,Option.some.injEq] at hl
    subst hl
    exact⟨ev_sc h h1,ih h2⟩
end Go.Ab
