/- Parts, lines, and what the reference says. Nothing is looked up here: each function is walked. Contracts of the generic functions, instance by instance (printed by a program of ours). Mills, and the contract of silk.Check. A mill at work: the contract of silk.opened. What a weighing says; parts and lines. Says, right, and the mill's own copy. The reference's Check; mills compared; the reference's mill. The reference's mill, parts, line and what it says; the program's parts and lines. -/
import Derived.Test.YtiphdfiihgbomabGreatOk
import Derived.Test.YtiphdfiihgbomabGreatAc2
import Derived.Test.YtiphdfiihgbomabGreatAc7
set_option linter.unusedSimpArgs false
set_option linter.unusedVariables false
namespace Go.Ab.Tryz
open Go.Proofs
noncomputable def fastA (f:Nat):Option (List V→H→Option (V × H)):=none
end Go.Ab.Tryz
namespace Go.Ab.Tryz
abbrev E (fv:V) (args:List V) (h:H) (Q:V→H→Prop):Prop:=Ev fnG fastA fv args h Q
abbrev PureA (h:H) (fv:V) (args:List V) (v:V):Prop:=Pure fnG fastA h fv args v
def encI (n:Int):List V:=[.int .i64 n]
def fidx {α:Type}(p:α→Bool):List α→Nat→Int
 |[],_=> -1
 |r::l,i=>if p r then(i:Int) else fidx p l (i+1)
theorem fidx_hit {α:Type}{p:α→Bool}{l:List α}{i:Nat}(hi:i<l.length)(h:p l[i]=true):fidx p (l.drop i) i=(i:Int):=by
 rw[List.drop_eq_getElem_cons hi];simp[fidx,h]
theorem fidx_miss {α:Type}{p:α→Bool}{l:List α}{i:Nat}(hi:i<l.length)(h:p l[i]=false):fidx p (l.drop i) i=fidx p (l.drop (i+1)) (i+1):=by
 rw[List.drop_eq_getElem_cons hi];simp[fidx,h]
theorem fidx_any {α:Type}(p:α→Bool):∀(l:List α) (i:Nat),decide (0≤fidx p l i)=l.any p
 |[],i=>by simp[fidx]
 |r::l,i=>by
  have ih:=fidx_any p l (i+1)
  simp only[fidx,List.any_cons]
  by_cases h:p r=true
  ·simp[h]
  ·simpa[h] using ih
theorem any_not {α:Type}(p:α→Bool)(l:List α):(!l.any fun a=> !p a)=l.all p:=by
 induction l with
 |nil=>rfl
 |cons a l ih=>simp only[List.any_cons,List.all_cons,←ih,Bool.not_or,Bool.not_not]
theorem indexFuncWg_ev {α:Type}{enc:α→List V}{l:List α}{p:α→Bool}{h:H}{x f:V}(hw:h.wf)(hx:SlAt h x 4 (l.map enc))(hp:∀a∈l,PureA h f [.agg (enc a)] (.bool (p a))):
  E (.fn 90 [] []) [x,f] h fun v h'=>v=.int .i64 (fidx p l 0)∧h.Sub h':=by
 have hb:=hx.boundE
 refine Ev_body (fd:=c90) rfl rfl rfl ?_
 simp -implicitDefEqProofs(maxSteps:=999999)(disch:=first|with_reducible rfl|omega|(simp only[nA,nS,nD]<;>omega)|fail)only[c90,go_sem,hx.lenE]
 refine W_count l.length (fun i s=>∃tm h',s=⟨tm,h',[]⟩∧h.Sub h'∧(Opd.t 0).ev tm=x∧(Opd.t 1).ev tm=f∧(Opd.t 7).ev tm=.int .i64 (l.length:Int)∧(Opd.t 8).ev tm=.int .i64 (i:Int)∧fidx p l 0=fidx p (l.drop i) i)
  ?_ ?_ (i:=0) (Nat.zero_le _) ⟨_,_,rfl,H.Sub.refl hw,(by simp[ev_c,ev_put]<;>rfl),(by simp[ev_c,ev_put]<;>rfl),(by simp[ev_c,ev_put]<;>rfl),(by simp only[ev_put];rfl),rfl⟩
 ·rintro i s hi ⟨tm,h',rfl,hs,e0,e1,e7,e8,e9⟩
  have hi':(i:Int)<(l.length:Int):=by omega
  obtain⟨b,o,c,cs,rfl,hc,hq,hg,hn,hn0⟩:=(hx.mono hs).at hi
  simp -implicitDefEqProofs(maxSteps:=999999)(disch:=first|with_reducible rfl|omega|(simp only[nA,nS,nD]<;>omega)|fail)only[go_sem,e0,e1,e7,e8,hi',hq (nat_cst i),hc,hg]
  refine(hp _ (List.getElem_mem hi)).use hs fun h2 hs2=>?_
  cases hpr:p l[i] with
  |true=>
   simp -implicitDefEqProofs(maxSteps:=999999)(disch:=first|with_reducible rfl|omega|(simp only[nA,nS,nD]<;>omega)|fail)only[go_sem,e0,e1,e7,e8]
   exact⟨by rw[e9,fidx_hit hi hpr],hs.trans hs2⟩
  |false=>
   simp -implicitDefEqProofs(maxSteps:=999999)(disch:=first|with_reducible rfl|omega|(simp only[nA,nS,nD]<;>omega)|fail)only[go_sem,e0,e1,e7,e8,wr_succ]
   exact⟨_,_,rfl,hs.trans hs2,(by simp[ev_c,ev_put,e0]<;>rfl),(by simp[ev_c,ev_put,e1]<;>rfl),(by simp[ev_c,ev_put,e7]<;>rfl),(by simp[ev_c,ev_put]<;>rfl),by rw[e9,fidx_miss hi hpr]⟩
 ·rintro s ⟨tm,h',rfl,hs,e0,e1,e7,e8,e9⟩
  simp -implicitDefEqProofs(maxSteps:=999999)(disch:=first|with_reducible rfl|omega|(simp only[nA,nS,nD]<;>omega)|fail)only[go_sem,e0,e1,e7,e8,Int.lt_irrefl]
  exact⟨by rw[e9];simp[fidx],hs⟩
theorem containsFuncWg_ev {α:Type}{enc:α→List V}{l:List α}{p:α→Bool}{h:H}{x f:V}(hw:h.wf)(hx:SlAt h x 4 (l.map enc))(hp:∀a∈l,PureA h f [.agg (enc a)] (.bool (p a))):
  E (.fn 75 [] []) [x,f] h fun v h'=>v=.bool (l.any p)∧h.Sub h':=by
 refine Ev_body (fd:=c75) rfl rfl rfl ?_
 simp -implicitDefEqProofs(maxSteps:=999999)(disch:=first|with_reducible rfl|omega|(simp only[nA,nS,nD]<;>omega)|fail)only[c75,go_sem]
 refine(indexFuncWg_ev hw hx hp).mono fun v h' hv=>?_
 obtain⟨rfl,hs⟩:=hv
 simp -implicitDefEqProofs(maxSteps:=999999)(disch:=first|with_reducible rfl|omega|(simp only[nA,nS,nD]<;>omega)|fail)only[go_sem]
 exact⟨by rw[fidx_any],hs⟩
theorem everyWg_ev {α:Type}{enc:α→List V}{l:List α}{p:α→Bool}{h:H}{x:V}{g:FuncId}{u w:List V}(hw:h.wf)(hx:SlAt h x 4 (l.map enc))(hp:∀a∈l,PureA h (.fn g u w) [.agg (enc a)] (.bool (p a))):
  E (.fn 53 [] []) [x,.fn g u w] h fun v h'=>v=.bool (l.all p)∧h.Sub h':=by
 refine Ev_body (fd:=c53) rfl rfl rfl ?_
 simp -implicitDefEqProofs(maxSteps:=999999)(disch:=first|with_reducible rfl|omega|(simp only[nA,nS,nD]<;>omega)|fail)only[c53,go_sem]
 have hs1:h.Sub (h.add (.cells .rw [.fn g u w])):=(H.Sub.refl hw).add _
 refine(containsFuncWg_ev (p:=fun a=> !p a) hs1.wf (hx.mono hs1) fun a ha h2 hs2=>?_).mono fun v h' hv=>?_
 ·have hc:h2.cells h.next=some [.fn g u w]:=hs2.cells (cells_add_new rfl)
  have hl:h.next<h2.next:=by have:=hs2.next;rw[H.next_add] at this;omega
  refine Ev_body (fd:=c76) rfl rfl rfl ?_
  simp -implicitDefEqProofs(maxSteps:=999999)(disch:=first|with_reducible rfl|omega|(simp only[nA,nS,nD]<;>omega)|fail)only[c76,go_sem,hc,getN_full (hx.1 _ (List.mem_map_of_mem ha))]
  refine((hp a ha).mono hs1).use (hs2.add _) fun h3 hs3=>?_
  simp -implicitDefEqProofs(maxSteps:=999999)(disch:=first|with_reducible rfl|omega|(simp only[nA,nS,nD]<;>omega)|fail)only[go_sem]
  exact(H.Sub.refl hs2.wf).add _ |>.trans hs3
 ·obtain⟨rfl,hs⟩:=hv
  simp -implicitDefEqProofs(maxSteps:=999999)(disch:=first|with_reducible rfl|omega|(simp only[nA,nS,nD]<;>omega)|fail)only[go_sem]
  exact⟨by rw[any_not],hs1.trans hs⟩
theorem indexFuncLot_ev {α:Type}{enc:α→List V}{l:List α}{p:α→Bool}{h:H}{x f:V}(hw:h.wf)(hx:SlAt h x 2 (l.map enc))(hp:∀a∈l,PureA h f [.agg (enc a)] (.bool (p a))):
  E (.fn 91 [] []) [x,f] h fun v h'=>v=.int .i64 (fidx p l 0)∧h.Sub h':=by
 have hb:=hx.boundE
 refine Ev_body (fd:=c91) rfl rfl rfl ?_
 simp -implicitDefEqProofs(maxSteps:=999999)(disch:=first|with_reducible rfl|omega|(simp only[nA,nS,nD]<;>omega)|fail)only[c91,go_sem,hx.lenE]
 refine W_count l.length (fun i s=>∃tm h',s=⟨tm,h',[]⟩∧h.Sub h'∧(Opd.t 0).ev tm=x∧(Opd.t 1).ev tm=f∧(Opd.t 7).ev tm=.int .i64 (l.length:Int)∧(Opd.t 8).ev tm=.int .i64 (i:Int)∧fidx p l 0=fidx p (l.drop i) i)
  ?_ ?_ (i:=0) (Nat.zero_le _) ⟨_,_,rfl,H.Sub.refl hw,(by simp[ev_c,ev_put]<;>rfl),(by simp[ev_c,ev_put]<;>rfl),(by simp[ev_c,ev_put]<;>rfl),(by simp only[ev_put];rfl),rfl⟩
 ·rintro i s hi ⟨tm,h',rfl,hs,e0,e1,e7,e8,e9⟩
  have hi':(i:Int)<(l.length:Int):=by omega
  obtain⟨b,o,c,cs,rfl,hc,hq,hg,hn,hn0⟩:=(hx.mono hs).at hi
  simp -implicitDefEqProofs(maxSteps:=999999)(disch:=first|with_reducible rfl|omega|(simp only[nA,nS,nD]<;>omega)|fail)only[go_sem,e0,e1,e7,e8,hi',hq (nat_cst i),hc,hg]
  refine(hp _ (List.getElem_mem hi)).use hs fun h2 hs2=>?_
  cases hpr:p l[i] with
  |true=>
   simp -implicitDefEqProofs(maxSteps:=999999)(disch:=first|with_reducible rfl|omega|(simp only[nA,nS,nD]<;>omega)|fail)only[go_sem,e0,e1,e7,e8]
   exact⟨by rw[e9,fidx_hit hi hpr],hs.trans hs2⟩
  |false=>
   simp -implicitDefEqProofs(maxSteps:=999999)(disch:=first|with_reducible rfl|omega|(simp only[nA,nS,nD]<;>omega)|fail)only[go_sem,e0,e1,e7,e8,wr_succ]
   exact⟨_,_,rfl,hs.trans hs2,(by simp[ev_c,ev_put,e0]<;>rfl),(by simp[ev_c,ev_put,e1]<;>rfl),(by simp[ev_c,ev_put,e7]<;>rfl),(by simp[ev_c,ev_put]<;>rfl),by rw[e9,fidx_miss hi hpr]⟩
 ·rintro s ⟨tm,h',rfl,hs,e0,e1,e7,e8,e9⟩
  simp -implicitDefEqProofs(maxSteps:=999999)(disch:=first|with_reducible rfl|omega|(simp only[nA,nS,nD]<;>omega)|fail)only[go_sem,e0,e1,e7,e8,Int.lt_irrefl]
  exact⟨by rw[e9];simp[fidx],hs⟩
theorem containsFuncLot_ev {α:Type}{enc:α→List V}{l:List α}{p:α→Bool}{h:H}{x f:V}(hw:h.wf)(hx:SlAt h x 2 (l.map enc))(hp:∀a∈l,PureA h f [.agg (enc a)] (.bool (p a))):
  E (.fn 77 [] []) [x,f] h fun v h'=>v=.bool (l.any p)∧h.Sub h':=by
 refine Ev_body (fd:=c77) rfl rfl rfl ?_
 simp -implicitDefEqProofs(maxSteps:=999999)(disch:=first|with_reducible rfl|omega|(simp only[nA,nS,nD]<;>omega)|fail)only[c77,go_sem]
 refine(indexFuncLot_ev hw hx hp).mono fun v h' hv=>?_
 obtain⟨rfl,hs⟩:=hv
 simp -implicitDefEqProofs(maxSteps:=999999)(disch:=first|with_reducible rfl|omega|(simp only[nA,nS,nD]<;>omega)|fail)only[go_sem]
 exact⟨by rw[fidx_any],hs⟩
theorem everyLot_ev {α:Type}{enc:α→List V}{l:List α}{p:α→Bool}{h:H}{x:V}{g:FuncId}{u w:List V}(hw:h.wf)(hx:SlAt h x 2 (l.map enc))(hp:∀a∈l,PureA h (.fn g u w) [.agg (enc a)] (.bool (p a))):
  E (.fn 55 [] []) [x,.fn g u w] h fun v h'=>v=.bool (l.all p)∧h.Sub h':=by
 refine Ev_body (fd:=c55) rfl rfl rfl ?_
 simp -implicitDefEqProofs(maxSteps:=999999)(disch:=first|with_reducible rfl|omega|(simp only[nA,nS,nD]<;>omega)|fail)only[c55,go_sem]
 have hs1:h.Sub (h.add (.cells .rw [.fn g u w])):=(H.Sub.refl hw).add _
 refine(containsFuncLot_ev (p:=fun a=> !p a) hs1.wf (hx.mono hs1) fun a ha h2 hs2=>?_).mono fun v h' hv=>?_
 ·have hc:h2.cells h.next=some [.fn g u w]:=hs2.cells (cells_add_new rfl)
  have hl:h.next<h2.next:=by have:=hs2.next;rw[H.next_add] at this;omega
  refine Ev_body (fd:=c78) rfl rfl rfl ?_
  simp -implicitDefEqProofs(maxSteps:=999999)(disch:=first|with_reducible rfl|omega|(simp only[nA,nS,nD]<;>omega)|fail)only[c78,go_sem,hc,getN_full (hx.1 _ (List.mem_map_of_mem ha))]
  refine((hp a ha).mono hs1).use (hs2.add _) fun h3 hs3=>?_
  simp -implicitDefEqProofs(maxSteps:=999999)(disch:=first|with_reducible rfl|omega|(simp only[nA,nS,nD]<;>omega)|fail)only[go_sem]
  exact(H.Sub.refl hs2.wf).add _ |>.trans hs3
 ·obtain⟨rfl,hs⟩:=hv
  simp -implicitDefEqProofs(maxSteps:=999999)(disch:=first|with_reducible rfl|omega|(simp only[nA,nS,nD]<;>omega)|fail)only[go_sem]
  exact⟨by rw[any_not],hs1.trans hs⟩
theorem indexFuncKind_ev {l:List Int}{p:Int→Bool}{h:H}{x f:V}(hw:h.wf)(hx:SlAt h x 1 (l.map encI))(hp:∀a∈l,PureA h f [.int .i64 a] (.bool (p a))):
  E (.fn 74 [] []) [x,f] h fun v h'=>v=.int .i64 (fidx p l 0)∧h.Sub h':=by
 have hb:=hx.boundE
 refine Ev_body (fd:=c74) rfl rfl rfl ?_
 simp -implicitDefEqProofs(maxSteps:=999999)(disch:=first|with_reducible rfl|omega|(simp only[nA,nS,nD]<;>omega)|fail)only[c74,go_sem,hx.lenE]
 refine W_count l.length (fun i s=>∃tm h',s=⟨tm,h',[]⟩∧h.Sub h'∧(Opd.t 0).ev tm=x∧(Opd.t 1).ev tm=f∧(Opd.t 7).ev tm=.int .i64 (l.length:Int)∧(Opd.t 8).ev tm=.int .i64 (i:Int)∧fidx p l 0=fidx p (l.drop i) i)
  ?_ ?_ (i:=0) (Nat.zero_le _) ⟨_,_,rfl,H.Sub.refl hw,(by simp[ev_c,ev_put]<;>rfl),(by simp[ev_c,ev_put]<;>rfl),(by simp[ev_c,ev_put]<;>rfl),(by simp only[ev_put];rfl),rfl⟩
 ·rintro i s hi ⟨tm,h',rfl,hs,e0,e1,e7,e8,e9⟩
  have hi':(i:Int)<(l.length:Int):=by omega
  obtain⟨b,o,c,cs,rfl,hc,hq,hg,hn,hn0⟩:=(hx.mono hs).at hi
  simp -implicitDefEqProofs(maxSteps:=999999)(disch:=first|with_reducible rfl|omega|(simp only[nA,nS,nD]<;>omega)|fail)only[go_sem,e0,e1,e7,e8,hi',hq (nat_cst i),hc,hn0 (by omega),encI]
  refine(hp _ (List.getElem_mem hi)).use hs fun h2 hs2=>?_
  cases hpr:p l[i] with
  |true=>
   simp -implicitDefEqProofs(maxSteps:=999999)(disch:=first|with_reducible rfl|omega|(simp only[nA,nS,nD]<;>omega)|fail)only[go_sem,e0,e1,e7,e8]
   exact⟨by rw[e9,fidx_hit hi hpr],hs.trans hs2⟩
  |false=>
   simp -implicitDefEqProofs(maxSteps:=999999)(disch:=first|with_reducible rfl|omega|(simp only[nA,nS,nD]<;>omega)|fail)only[go_sem,e0,e1,e7,e8,wr_succ]
   exact⟨_,_,rfl,hs.trans hs2,(by simp[ev_c,ev_put,e0]<;>rfl),(by simp[ev_c,ev_put,e1]<;>rfl),(by simp[ev_c,ev_put,e7]<;>rfl),(by simp[ev_c,ev_put]<;>rfl),by rw[e9,fidx_miss hi hpr]⟩
 ·rintro s ⟨tm,h',rfl,hs,e0,e1,e7,e8,e9⟩
  simp -implicitDefEqProofs(maxSteps:=999999)(disch:=first|with_reducible rfl|omega|(simp only[nA,nS,nD]<;>omega)|fail)only[go_sem,e0,e1,e7,e8,Int.lt_irrefl]
  exact⟨by rw[e9];simp[fidx],hs⟩
theorem containsFuncKind_ev {l:List Int}{p:Int→Bool}{h:H}{x f:V}(hw:h.wf)(hx:SlAt h x 1 (l.map encI))(hp:∀a∈l,PureA h f [.int .i64 a] (.bool (p a))):
  E (.fn 49 [] []) [x,f] h fun v h'=>v=.bool (l.any p)∧h.Sub h':=by
 refine Ev_body (fd:=c49) rfl rfl rfl ?_
 simp -implicitDefEqProofs(maxSteps:=999999)(disch:=first|with_reducible rfl|omega|(simp only[nA,nS,nD]<;>omega)|fail)only[c49,go_sem]
 refine(indexFuncKind_ev hw hx hp).mono fun v h' hv=>?_
 obtain⟨rfl,hs⟩:=hv
 simp -implicitDefEqProofs(maxSteps:=999999)(disch:=first|with_reducible rfl|omega|(simp only[nA,nS,nD]<;>omega)|fail)only[go_sem]
 exact⟨by rw[fidx_any],hs⟩
theorem everyKind_ev {l:List Int}{p:Int→Bool}{h:H}{x:V}{g:FuncId}{u w:List V}(hw:h.wf)(hx:SlAt h x 1 (l.map encI))(hp:∀a∈l,PureA h (.fn g u w) [.int .i64 a] (.bool (p a))):
  E (.fn 21 [] []) [x,.fn g u w] h fun v h'=>v=.bool (l.all p)∧h.Sub h':=by
 refine Ev_body (fd:=c21) rfl rfl rfl ?_
 simp -implicitDefEqProofs(maxSteps:=999999)(disch:=first|with_reducible rfl|omega|(simp only[nA,nS,nD]<;>omega)|fail)only[c21,go_sem]
 have hs1:h.Sub (h.add (.cells .rw [.fn g u w])):=(H.Sub.refl hw).add _
 refine(containsFuncKind_ev (p:=fun a=> !p a) hs1.wf (hx.mono hs1) fun a ha h2 hs2=>?_).mono fun v h' hv=>?_
 ·have hc:h2.cells h.next=some [.fn g u w]:=hs2.cells (cells_add_new rfl)
  have hl:h.next<h2.next:=by have:=hs2.next;rw[H.next_add] at this;omega
  refine Ev_body (fd:=c50) rfl rfl rfl ?_
  simp -implicitDefEqProofs(maxSteps:=999999)(disch:=first|with_reducible rfl|omega|(simp only[nA,nS,nD]<;>omega)|fail)only[c50,go_sem,hc]
  refine((hp a ha).mono hs1).use hs2 fun h3 hs3=>?_
  simp -implicitDefEqProofs(maxSteps:=999999)(disch:=first|with_reducible rfl|omega|(simp only[nA,nS,nD]<;>omega)|fail)only[go_sem]
  exact hs3
 ·obtain⟨rfl,hs⟩:=hv
  simp -implicitDefEqProofs(maxSteps:=999999)(disch:=first|with_reducible rfl|omega|(simp only[nA,nS,nD]<;>omega)|fail)only[go_sem]
  exact⟨by rw[any_not],hs1.trans hs⟩
end Go.Ab.Tryz
namespace Go.Ab.Tryz
structure Wg where
 lot:Int
 reads:Int
 lo:Int
 hi:Int
structure Lt where
 frm:Int
 kind:Int
structure Ml where
 errs:Int
 lots:List Lt
 wgs:List Wg
def encW (w:Wg):List V:=[.int .i64 w.lot,.int .i64 w.reads,.int .i64 w.lo,.int .i64 w.hi]
def encL (l:Lt):List V:=[.int .i64 l.frm,.int .i64 l.kind]
def MlIs (h:H)(v:V)(m:Ml):Prop:=∃L W,v=.agg [.int .i64 m.errs,L,W]∧SlAt h L 2 (m.lots.map encL)∧SlAt h W 4 (m.wgs.map encW)
theorem MlIs.mono {h h':H}(hs:h.Sub h'){v:V}{m:Ml}(a:MlIs h v m):MlIs h' v m:=by
 obtain⟨L,W,e,a1,a2⟩:=a;exact⟨L,W,e,a1.mono hs,a2.mono hs⟩
def inB (n lo hi:Int):Bool:=decide (lo≤n∧n≤hi)
def boundedW (w:Wg):Bool:=decide ((0≤w.reads∧w.reads≤10000)∧(0≤w.lo∧w.lo≤60)∧(0≤w.hi∧w.hi≤60))
def allowedK (k:Int):Bool:=decide (0≤k∧k≤3)
def fromsOk:List Lt→Nat→Bool
 |[],_=>true
 |l::r,i=>decide (-1≤l.frm∧l.frm≤(i:Int)-1)&&fromsOk r (i+1)
def check (m:Ml):Int:=
 if¬(1≤(m.lots.length:Int)∧(m.lots.length:Int)≤12) then 2
 else if 10<(m.wgs.length:Int) then 2
 else if¬(0≤m.errs∧m.errs≤50) then 3
 else if m.wgs.all boundedW=false then 3
 else if m.lots.all (fun l=>allowedK l.kind)=false then 3
 else if fromsOk m.lots 0=false then 1
 else if m.wgs.all (fun w=>inB w.lot 0 ((m.lots.length:Int)-1))=false then 1
 else if m.wgs.all (fun w=>decide (w.lo≤w.hi))=false then 4
 else 0
theorem in_ev (n lo hi:Int)(h:H)(Q:V→H→Prop):Ev fnG fastA (.fn 52 [] []) [.int .i64 n,.int .i64 lo,.int .i64 hi] h Q=Q (.bool (decide (lo≤n∧n≤hi))) h:=by
 refine Ev.det (Ev_body (fd:=c52) rfl rfl rfl ?_) Q
 by_cases h1:lo≤n
 ·simp only[c52,go_sem,h1]
 ·simp only[c52,go_sem,h1,false_and]
theorem allowed_ev (k:Int)(h:H)(Q:V→H→Prop):Ev fnG fastA (.fn 22 [] []) [.int .i64 k] h Q=Q (.bool (allowedK k)) h:=by
 refine Ev.det (Ev_body (fd:=c22) rfl rfl rfl ?_) Q
 by_cases h1:0≤k
 ·simp only[c22,go_sem,h1,allowedK]
 ·simp only[c22,go_sem,h1,false_and,allowedK]
theorem bounded_ev (w:Wg)(h:H)(Q:V→H→Prop):Ev fnG fastA (.fn 54 [] []) [.agg (encW w)] h Q=Q (.bool (boundedW w)) (h.add (.cells .rw (encW w))):=by
 refine Ev.det (Ev_body (fd:=c54) rfl rfl rfl ?_) Q
 by_cases h1:0≤w.reads∧w.reads≤10000<;>by_cases h2:0≤w.lo∧w.lo≤60<;>simp -implicitDefEqProofs(maxSteps:=999999)(disch:=first|with_reducible rfl|omega|(simp only[nA,nS,nD]<;>omega)|fail)only[c54,go_sem,in_ev,h1,h2,false_and,boundedW,encW]
theorem bounded_pure (h:H)(w:Wg):PureA h (.fn 54 [] []) [.agg (encW w)] (.bool (boundedW w)):=fun h1 hs=>by
 rw[bounded_ev];exact⟨rfl,(H.Sub.refl hs.wf).add _⟩
theorem check1_ev (l:Lt)(h:H)(Q:V→H→Prop):Ev fnG fastA (.fn 56 [] []) [.agg (encL l)] h Q=Q (.bool (allowedK l.kind)) (h.add (.cells .rw (encL l))):=by
 refine Ev.det (Ev_body (fd:=c56) rfl rfl rfl ?_) Q
 simp -implicitDefEqProofs(maxSteps:=999999)(disch:=first|with_reducible rfl|omega|(simp only[nA,nS,nD]<;>omega)|fail)only[c56,go_sem,allowed_ev,encL]
theorem check1_pure (h:H)(l:Lt):PureA h (.fn 56 [] []) [.agg (encL l)] (.bool (allowedK l.kind)):=fun h1 hs=>by
 rw[check1_ev];exact⟨rfl,(H.Sub.refl hs.wf).add _⟩
theorem check3_ev (w:Wg)(h:H)(Q:V→H→Prop):Ev fnG fastA (.fn 58 [] []) [.agg (encW w)] h Q=Q (.bool (decide (w.lo≤w.hi))) (h.add (.cells .rw (encW w))):=by
 refine Ev.det (Ev_body (fd:=c58) rfl rfl rfl ?_) Q
 simp -implicitDefEqProofs(maxSteps:=999999)(disch:=first|with_reducible rfl|omega|(simp only[nA,nS,nD]<;>omega)|fail)only[c58,go_sem,encW]
theorem check3_pure (h:H)(w:Wg):PureA h (.fn 58 [] []) [.agg (encW w)] (.bool (decide (w.lo≤w.hi))):=fun h1 hs=>by
 rw[check3_ev];exact⟨rfl,(H.Sub.refl hs.wf).add _⟩
theorem lot_ev {h:H}{v:V}{m:Ml}(hm:MlIs h v m)(n:Int)(Q:V→H→Prop)(q:∀h',h.Sub h'→Q (.bool (inB n 0 ((m.lots.length:Int)-1))) h')(hw:h.wf):Ev fnG fastA (.fn 48 [] []) [v,.int .i64 n] h Q:=by
 obtain⟨L,W,rfl,a1,a2⟩:=hm
 have hb:=a1.boundE
 refine Ev_body (fd:=c48) rfl rfl rfl ?_
 simp -implicitDefEqProofs(maxSteps:=999999)(disch:=first|with_reducible rfl|omega|(simp only[nA,nS,nD]<;>omega)|fail)only[c48,go_sem,a1.lenE,wr_in,in_ev]
 exact q _ ((H.Sub.refl hw).add _)
theorem check2_pure {h:H}{v:V}{m:Ml}(hm:MlIs h v m){b:Nat}(hb:h.cells b=some [.fn 48 [v] []])(w:Wg):PureA h (.fn 57 [] [.ptr b 0]) [.agg (encW w)] (.bool (inB w.lot 0 ((m.lots.length:Int)-1))):=fun h1 hs=>by
 have hlt:b<h1.next:=by
  obtain⟨k,hk⟩:=H.cells_eq (hs.cells hb)
  exact hs.wf b _ hk
 have hb1:=hs.cells hb
 refine Ev_body (fd:=c57) rfl rfl rfl ?_
 simp -implicitDefEqProofs(maxSteps:=999999)(disch:=first|with_reducible rfl|omega|(simp only[nA,nS,nD]<;>omega)|fail)only[c57,go_sem,hb1,encW]
 rw[Ev_fn]
 have hs2:=hs.add (.cells .rw [V.int IntKind.i64 w.lot,V.int IntKind.i64 w.reads,V.int IntKind.i64 w.lo,V.int IntKind.i64 w.hi])
 refine lot_ev (hm.mono hs2) w.lot _ (fun h' hs'=>?_) hs2.wf
 simp -implicitDefEqProofs(maxSteps:=999999)(disch:=first|with_reducible rfl|omega|(simp only[nA,nS,nD]<;>omega)|fail)only[go_sem]
 exact(H.Sub.refl hs.wf).add _ |>.trans hs'
theorem fromsOk_hit {l:List Lt}{i:Nat}(hi:i<l.length)(h: -1≤l[i].frm∧l[i].frm≤(i:Int)-1):fromsOk (l.drop i) i=fromsOk (l.drop (i+1)) (i+1):=by
 rw[List.drop_eq_getElem_cons hi];simp[fromsOk,h]
theorem fromsOk_miss {l:List Lt}{i:Nat}(hi:i<l.length)(h:¬(-1≤l[i].frm∧l[i].frm≤(i:Int)-1)):fromsOk (l.drop i) i=false:=by
 rw[List.drop_eq_getElem_cons hi];simp[fromsOk,h]
theorem check_ev {h:H}{v:V}{m:Ml}(hw:h.wf)(hm:MlIs h v m):Ev fnG fastA (.fn 24 [] []) [v] h fun u h'=>u=.int .i64 (check m)∧h.Sub h':=by
 have hm0:=hm
 obtain⟨L,W,rfl,aL,aW⟩:=hm
 have hbL:=aL.boundE
 have hbW:=aW.boundE
 refine Ev_body (fd:=c24) rfl rfl rfl ?_
 have hs1:h.Sub (h.add (.cells .rw [.int .i64 m.errs,L,W])):=(H.Sub.refl hw).add _
 by_cases c1:1≤(m.lots.length:Int)∧(m.lots.length:Int)≤12
 case neg=>
  simp -implicitDefEqProofs(maxSteps:=999999)(disch:=first|with_reducible rfl|omega|(simp only[nA,nS,nD]<;>omega)|fail)only[c24,go_sem,in_ev,aL.lenE,c1]
  exact⟨by simp[check,c1],hs1⟩
 by_cases c2:10<(m.wgs.length:Int)
 case pos=>
  simp -implicitDefEqProofs(maxSteps:=999999)(disch:=first|with_reducible rfl|omega|(simp only[nA,nS,nD]<;>omega)|fail)only[c24,go_sem,in_ev,aL.lenE,aW.lenE,c1,c2]
  exact⟨by simp only[check,c1,c2,not_true_eq_false,and_self, ↓reduceIte],hs1⟩
 by_cases c3:0≤m.errs∧m.errs≤50
 case neg=>
  simp -implicitDefEqProofs(maxSteps:=999999)(disch:=first|with_reducible rfl|omega|(simp only[nA,nS,nD]<;>omega)|fail)only[c24,go_sem,in_ev,aL.lenE,aW.lenE,c1,c2,c3]
  exact⟨by simp only[check,c1,c2,c3,not_true_eq_false,not_false_eq_true,and_self, ↓reduceIte],hs1⟩
 simp -implicitDefEqProofs(maxSteps:=999999)(disch:=first|with_reducible rfl|omega|(simp only[nA,nS,nD]<;>omega)|fail)only[c24,go_sem,in_ev,aL.lenE,aW.lenE,c1,c2,c3]
 refine(everyWg_ev hs1.wf (aW.mono hs1) fun w _=>bounded_pure _ w).mono fun u h2 hu=>?_
 obtain⟨rfl,hs2⟩:=hu
 have g2:h2.cells h.next=some [.int .i64 m.errs,L,W]:=hs2.cells (cells_add_new rfl)
 have l2:h.next<h2.next:=by have:=hs2.next;rw[H.next_add] at this;omega
 cases c4:m.wgs.all boundedW
 case false=>
  simp -implicitDefEqProofs(maxSteps:=999999)(disch:=first|with_reducible rfl|omega|(simp only[nA,nS,nD]<;>omega)|fail)only[go_sem,c4]
  exact⟨by simp only[check,c1,c2,c3,c4,not_true_eq_false,not_false_eq_true,and_self, ↓reduceIte],hs1.trans hs2⟩
 simp -implicitDefEqProofs(maxSteps:=999999)(disch:=first|with_reducible rfl|omega|(simp only[nA,nS,nD]<;>omega)|fail)only[go_sem,c4,g2]
 have hs12:=hs1.trans hs2
 refine(everyLot_ev hs2.wf (aL.mono hs12) fun l _=>check1_pure _ l).mono fun u h3 hu=>?_
 obtain⟨rfl,hs3⟩:=hu
 have g3:=hs3.cells g2
 have l3:h.next<h3.next:=Nat.lt_of_lt_of_le l2 hs3.next
 have hs13:=hs12.trans hs3
 cases c5:m.lots.all fun l=>allowedK l.kind
 case false=>
  simp -implicitDefEqProofs(maxSteps:=999999)(disch:=first|with_reducible rfl|omega|(simp only[nA,nS,nD]<;>omega)|fail)only[go_sem,c5]
  exact⟨by simp only[check,c1,c2,c3,c4,c5,not_true_eq_false,not_false_eq_true,and_self, ↓reduceIte,Bool.true_eq_false],hs13⟩
 simp -implicitDefEqProofs(maxSteps:=999999)(disch:=first|with_reducible rfl|omega|(simp only[nA,nS,nD]<;>omega)|fail)only[go_sem,c5,g3,aL.lenE]
 have c12:¬(10<(m.wgs.length:Int)):=c2
 refine W_count m.lots.length (fun i s=>∃tm h',s=⟨tm,h',[]⟩∧h3.Sub h'∧(Opd.t 1).ev tm=.ptr h.next 0∧(Opd.t 34).ev tm=L∧(Opd.t 35).ev tm=.int .i64 (m.lots.length:Int)∧(Opd.t 36).ev tm=.int .i64 (i:Int)∧fromsOk m.lots 0=fromsOk (m.lots.drop i) i)
  ?_ ?_ (i:=0) (Nat.zero_le _) ⟨_,_,rfl,H.Sub.refl hs3.wf,(by simp[ev_c,ev_put]<;>rfl),(by simp[ev_c,ev_put]<;>rfl),(by simp[ev_c,ev_put]<;>rfl),(by simp only[ev_put];rfl),rfl⟩
 ·rintro i s hi ⟨tm,h',rfl,hs,e1,e34,e35,e36,e9⟩
  have hi':(i:Int)<(m.lots.length:Int):=by omega
  obtain⟨b,o,c,cs,rfl,hc,hq,hg,hn,hn0⟩:=(aL.mono (hs13.trans hs)).at hi
  have hs4:=hs.add (.cells .rw [.int .i64 m.lots[i].frm,.int .i64 m.lots[i].kind])
  by_cases c6: -1≤m.lots[i].frm∧m.lots[i].frm≤(i:Int)-1
  ·simp -implicitDefEqProofs(maxSteps:=999999)(disch:=first|with_reducible rfl|omega|(simp only[nA,nS,nD]<;>omega)|fail)only[go_sem,e1,e34,e35,e36,hi',hq (nat_cst i),hc,hg,encL,wr_in,in_ev,c6,wr_succ]
   exact⟨_,_,rfl,hs4,(by simp[ev_c,ev_put,e1]<;>rfl),(by simp[ev_c,ev_put,e34]<;>rfl),(by simp[ev_c,ev_put,e35]<;>rfl),(by simp[ev_c,ev_put]<;>rfl),by rw[e9,fromsOk_hit hi c6]⟩
  ·simp -implicitDefEqProofs(maxSteps:=999999)(disch:=first|with_reducible rfl|omega|(simp only[nA,nS,nD]<;>omega)|fail)only[go_sem,e1,e34,e35,e36,hi',hq (nat_cst i),hc,hg,encL,wr_in,in_ev,c6,wr_succ]
   have:fromsOk m.lots 0=false:=by rw[e9,fromsOk_miss hi c6]
   exact⟨by simp only[check,c1,c12,c3,c4,c5,this,not_true_eq_false,not_false_eq_true,and_self, ↓reduceIte,Bool.true_eq_false],hs13.trans hs4⟩
 ·rintro s ⟨tm,h',rfl,hs,e1,e34,e35,e36,e9⟩
  have c6:fromsOk m.lots 0=true:=by rw[e9];simp[fromsOk]
  have g4:=hs.cells g3
  have l4:h.next<h'.next:=Nat.lt_of_lt_of_le l3 hs.next
  have hs14:=hs13.trans hs
  simp -implicitDefEqProofs(maxSteps:=999999)(disch:=first|with_reducible rfl|omega|(simp only[nA,nS,nD]<;>omega)|fail)only[go_sem,e1,e34,e35,e36,Int.lt_irrefl,g4]
  have hm5:=(hm0.mono hs14).mono ((H.Sub.refl hs14.wf).add (.cells .rw [.fn 48 [.agg [.int .i64 m.errs,L,W]] []]))
  refine(everyWg_ev (H.Sub.wf (hs14.add _)) (aW.mono (hs14.add _)) fun w _=>check2_pure hm5 (cells_add_new rfl) w).mono fun u h6 hu=>?_
  obtain⟨rfl,hs6⟩:=hu
  have g6:h6.cells h.next=some [.int .i64 m.errs,L,W]:=hs6.cells (by rw[cells_add_old l4];exact g4)
  have hs16:=(hs14.add _).trans hs6
  have l6:h.next<h6.next:=by have:=hs6.next;rw[H.next_add] at this;omega
  cases c7:m.wgs.all (fun w=>inB w.lot 0 ((m.lots.length:Int)-1))
  case false=>
   simp -implicitDefEqProofs(maxSteps:=999999)(disch:=first|with_reducible rfl|omega|(simp only[nA,nS,nD]<;>omega)|fail)only[go_sem,c7]
   exact⟨by simp only[check,c1,c12,c3,c4,c5,c6,c7,not_true_eq_false,not_false_eq_true,and_self, ↓reduceIte,Bool.true_eq_false],hs16⟩
  simp -implicitDefEqProofs(maxSteps:=999999)(disch:=first|with_reducible rfl|omega|(simp only[nA,nS,nD]<;>omega)|fail)only[go_sem,c7,e1,g6]
  refine(everyWg_ev hs16.wf (aW.mono hs16) fun w _=>check3_pure _ w).mono fun u h7 hu=>?_
  obtain⟨rfl,hs7⟩:=hu
  have hs17:=hs16.trans hs7
  cases c8:m.wgs.all (fun w=>decide (w.lo≤w.hi))
  ·simp -implicitDefEqProofs(maxSteps:=999999)(disch:=first|with_reducible rfl|omega|(simp only[nA,nS,nD]<;>omega)|fail)only[go_sem,c8]
   exact⟨by simp only[check,c1,c12,c3,c4,c5,c6,c7,c8,not_true_eq_false,not_false_eq_true,and_self, ↓reduceIte,Bool.true_eq_false],hs17⟩
  ·simp -implicitDefEqProofs(maxSteps:=999999)(disch:=first|with_reducible rfl|omega|(simp only[nA,nS,nD]<;>omega)|fail)only[go_sem,c8]
   exact⟨by simp only[check,c1,c12,c3,c4,c5,c6,c7,c8,not_true_eq_false,not_false_eq_true,and_self, ↓reduceIte,Bool.true_eq_false],hs17⟩
end Go.Ab.Tryz
namespace Go.Ab.Tryz
def partsL (k:Int):List Lt→Nat→List Int
 |[],_=>[]
 |l::r,i=>if l.frm=k then(i:Int)::partsL k r (i+1) else partsL k r (i+1)
def parts (m:Ml)(k:Int):List Int:=partsL k m.lots 0
theorem partsL_app (k:Int):∀(a b:List Lt) (i:Nat),partsL k (a++b) i=partsL k a i++partsL k b (i+a.length)
 |[],b,i=>by simp[partsL]
 |l::a,b,i=>by
  have ih:=partsL_app k a b (i+1)
  simp only[List.cons_append,partsL,ih,List.length_cons]
  have e:i+1+a.length=i+(a.length+1):=by omega
  rw[e]
  by_cases h:l.frm=k<;>simp[h]
theorem partsL_len (k:Int):∀(a:List Lt) (i:Nat),(partsL k a i).length≤a.length
 |[],i=>by simp[partsL]
 |l::a,i=>by
  have ih:=partsL_len k a (i+1)
  simp only[partsL]
  by_cases h:l.frm=k<;>simp[h]<;>omega
def PtIs (h0 h:H)(l:List (Int × V))(P:Int→List Int):Prop:=
 (∀k,(lkA k l=none∧P k=[])∨∃s,lkA k l=some s∧OwnSl h0 h s 1 ((P k).map encI))∧
 (∀k j s t b,k≠j→lkA k l=some s→lkA j l=some t→blkOf s b→¬blkOf t b)
theorem opened_ev {h:H}{v:V}{m:Ml}(hw:h.wf)(hm:MlIs h v m):Ev fnG fastA (.fn 47 [] []) [v] h fun u h'=>h.Sub h'∧((check m≠0∧u=.tup [.nilp,.int .i64 (check m)])∨
  (check m=0∧∃d pm l L W,u=.tup [.ptr d 0,.int .i64 0]∧h.next≤d∧h.next≤pm∧v=.agg [.int .i64 m.errs,L,W]∧h'.get d=some (.cells .rw [.int .i64 m.errs,L,W,.map pm])∧h'.get pm=some (.map (encA l))∧PtIs h h' l (parts m))):=by
 have hm0:=hm
 obtain⟨L,W,rfl,aL,aW⟩:=hm
 have hbL:=aL.boundE
 refine Ev_body (fd:=c47) rfl rfl rfl ?_
 have hs1:h.Sub (h.add (.cells .rw [.int .i64 m.errs,L,W])):=(H.Sub.refl hw).add _
 simp -implicitDefEqProofs(maxSteps:=999999)(disch:=first|with_reducible rfl|omega|(simp only[nA,nS,nD]<;>omega)|fail)only[c47,go_sem]
 refine(check_ev hs1.wf (hm0.mono hs1)).mono fun u h2 hu=>?_
 obtain⟨rfl,hs2⟩:=hu
 have g2:h2.cells h.next=some [.int .i64 m.errs,L,W]:=hs2.cells (cells_add_new rfl)
 have l2:h.next<h2.next:=by have:=hs2.next;rw[H.next_add] at this;omega
 have hs12:=hs1.trans hs2
 by_cases c:check m=0
 case neg=>
  simp -implicitDefEqProofs(maxSteps:=999999)(disch:=first|with_reducible rfl|omega|(simp only[nA,nS,nD]<;>omega)|fail)only[go_sem,ne_eq,c,not_false_eq_true]
  exact⟨hs12,.inl trivial⟩
 simp -implicitDefEqProofs(maxSteps:=999999)(disch:=first|with_reducible rfl|omega|(simp only[nA,nS,nD]<;>omega)|fail)only[go_sem,ne_eq,c,not_true_eq_false,g2,aL.lenE]
 have c0:=c
 have hs3:=(hs12.add (.map [])).add (.cells .rw [V.int IntKind.i64 m.errs,L,W,V.map h2.next])
 refine W_count m.lots.length (fun i s=>∃tm h' l,s=⟨tm,h',[]⟩∧h.Sub h'∧h2.next+1<h'.next∧(Opd.t 5).ev tm=.ptr (h2.next+1) 0∧(Opd.t 18).ev tm=L∧(Opd.t 19).ev tm=.int .i64 (m.lots.length:Int)∧(Opd.t 20).ev tm=.int .i64 (i:Int)∧
   h'.get (h2.next+1)=some (.cells .rw [.int .i64 m.errs,L,W,.map h2.next])∧h'.get h2.next=some (.map (encA l))∧PtIs h h' l (fun k=>partsL k (m.lots.take i) 0))
  ?_ ?_ (i:=0) (Nat.zero_le _) ⟨_,_,[],rfl,hs3,by simp only[H.next_add];omega,(by simp[ev_c,ev_put]<;>rfl),(by simp[ev_c,ev_put]<;>rfl),(by simp[ev_c,ev_put]<;>rfl),(by simp[ev_c,ev_put]<;>rfl),by rw[get_add_new (by rw[H.next_add])],by rw[get_add_old (by rw[H.next_add];omega),get_add_new rfl];rfl,?_⟩
 ·rintro i s hi ⟨tm,h',l,rfl,hs,lt,e5,e18,e19,e20,gd,gp,pt⟩
  have hi':(i:Int)<(m.lots.length:Int):=by omega
  have l12:=hs12.next
  obtain⟨b,o,c,cs,rfl,hc,hq,hg,hn,hn0⟩:=(aL.mono hs).at hi
  obtain⟨x,hx,ox⟩:∃x,found .nils false (lkA m.lots[i].frm l)=x∧OwnSl h h' x 1 ((partsL m.lots[i].frm (m.lots.take i) 0).map encI):=by
   rcases pt.1 m.lots[i].frm with⟨e1,e2⟩|⟨s,e1,e2⟩
   ·exact⟨_,rfl,by rw[e1];simp only at e2;rw[e2];exact OwnSl.nil hs 1⟩
   ·exact⟨_,rfl,by rw[e1];exact e2⟩
  simp -implicitDefEqProofs(maxSteps:=999999)(disch:=first|with_reducible rfl|omega|(simp only[nA,nS,nD]<;>omega)|fail)only[go_sem,e5,e18,e19,e20,hi',hq (nat_cst i),hc,hg,encL,gd,gp,cells_of gd,hx]
  have hA:=hs.add (.cells .rw [.int .i64 m.lots[i].frm,.int .i64 m.lots[i].kind])
  have hB:=hA.add (.cells .rw [.int .i64 (i:Int)])
  have sB:h'.Sub ((h'.add (.cells .rw [.int .i64 m.lots[i].frm,.int .i64 m.lots[i].kind])).add (.cells .rw [.int .i64 (i:Int)])):=((H.Sub.refl hs.wf).add _).add _
  have hle:=partsL_len m.lots[i].frm (m.lots.take i) 0
  rw[List.length_take] at hle
  have hck:m.lots.length≤12:=by
   unfold check at c0
   by_cases hc1:1≤(m.lots.length:Int)∧(m.lots.length:Int)≤12
   ·omega
   ·simp[hc1] at c0
  refine OwnSl.app (ox.mono sB) hw (new:=[encI i]) (by simp) (by simp[encI]) (by simp -implicitDefEqProofs(maxSteps:=999999)(disch:=first|with_reducible rfl|omega|(simp only[nA,nS,nD]<;>omega)|fail)only[go_sem,encI,List.flatten_cons,List.flatten_nil]) (by simp[lenV]) (by simp[encI,allOne,V.one]) (by simp only[List.length_map,List.length_singleton];omega) (by simp only[List.length_map,List.length_singleton];omega) fun h5 own5 k5 n5=>?_
  have npm:∀b,blkOf x b→b≠h2.next:=fun b hb e=>by
   have:=(ox.blk hb).2.2
   rw[e,gp] at this;cases this
  have nd:∀b,blkOf x b→b≠h2.next+1:=fun b hb e=>by
   have:=(ox.blk hb).2.2
   rw[e,gd] at this;cases this
  have nx:∀b,blkOf x b→b<h'.next:=fun b hb=>(ox.blk hb).2.1
  have gd5:h5.get (h2.next+1)=some (.cells .rw [.int .i64 m.errs,.sl b o m.lots.length c,W,.map h2.next]):=k5.2 _ _ (sB.get gd) fun hb=>nd _ hb rfl
  have gp5:h5.get h2.next=some (.map (encA l)):=k5.2 _ _ (sB.get gp) fun hb=>npm _ hb rfl
  have ga5:h5.cells h'.next=some [.int .i64 m.lots[i].frm,.int .i64 m.lots[i].kind]:=k5.cells (by simp -implicitDefEqProofs(maxSteps:=999999)(disch:=first|with_reducible rfl|omega|(simp only[nA,nS,nD]<;>omega)|fail)only[go_sem]) fun hb=>by have:=nx _ hb;omega
  have hl5:h5.next=h'.next+3:=by rw[n5];simp only[H.next_add]
  have l2n:h2.next<h'.next:=by omega
  have hbw:h'.cells b=some cs:=hc
  simp -implicitDefEqProofs(maxSteps:=999999)(disch:=first|with_reducible rfl|omega|(simp only[nA,nS,nD]<;>omega)|fail)only[go_sem,e5,e18,e19,e20,gd5,gp5,ga5,cells_of gd5,gd,gp,cells_of gd,hx,wr_succ]
  have q6:partsL m.lots[i].frm (m.lots.take (i+1)) 0=partsL m.lots[i].frm (m.lots.take i) 0++[(i:Int)]:=by
   rw[List.take_succ_eq_append_getElem hi,partsL_app]
   simp[partsL];omega
  have q7:∀k,k≠m.lots[i].frm→partsL k (m.lots.take (i+1)) 0=partsL k (m.lots.take i) 0:=fun k hk=>by
   rw[List.take_succ_eq_append_getElem hi,partsL_app]
   have:¬m.lots[i].frm=k:=fun e=>hk e.symm
   simp[partsL,this]
  have hb6:∀b,blkOf (.sl (h'.next+1+1) 0 ((List.map encI (partsL m.lots[i].frm (List.take i m.lots) 0)).length+1) (.slk 0 0)) b→b=h'.next+2:=by
   rintro b ⟨o,n,c,e⟩;cases e;rfl
  have k6:=Keeps.set h5 h2.next (.map (encA (putA m.lots[i].frm (.sl (h'.next+1+1) 0 ((List.map encI (partsL m.lots[i].frm (List.take i m.lots) 0)).length+1) (.slk 0 0)) l)))
  have hs6:=own5.1.set hs12.next (by omega:h2.next<h5.next) hw (.map (encA (putA m.lots[i].frm (.sl (h'.next+1+1) 0 ((List.map encI (partsL m.lots[i].frm (List.take i m.lots) 0)).length+1) (.slk 0 0)) l)))
  refine⟨_,_,putA m.lots[i].frm (.sl (h'.next+1+1) 0 ((List.map encI (partsL m.lots[i].frm (List.take i m.lots) 0)).length+1) (.slk 0 0)) l,rfl,hs6,by rw[H.next_set];omega,(by simp[ev_c,ev_put,e5]<;>rfl),(by simp[ev_c,ev_put,e18]<;>rfl),(by simp[ev_c,ev_put,e19]<;>rfl),(by simp[ev_c,ev_put]<;>rfl),by rw[get_set_other (by omega)];exact gd5,get_set_same rfl,fun k=>?_,fun k j s t b hkj hk hj hbs hbt=>?_⟩
  ·rw[lkA_putA]
   by_cases hk:k=m.lots[i].frm
   ·subst hk
    refine .inr ⟨_,if_pos rfl,?_⟩
    dsimp only
    rw[q6,List.map_append]
    have o5:=own5
    simp only[H.next_add,List.length_singleton] at o5
    exact o5.keep k6 hs6 fun b hb e=>by have:=hb6 b hb;omega
   ·rw[if_neg hk]
    rcases pt.1 k with⟨e1,e2⟩|⟨s,e1,e2⟩
    ·exact .inl ⟨e1,by dsimp only;rw[q7 k hk];exact e2⟩
    ·refine .inr ⟨s,e1,?_⟩
     dsimp only
     rw[q7 k hk]
     have os:=e2.mono sB
     have nsx:∀b,blkOf s b→¬blkOf x b:=fun b hb hbx=>by
      rcases pt.1 m.lots[i].frm with⟨f1,f2⟩|⟨s',f1,f2⟩
      ·rw[f1] at hx;obtain⟨_,_,_,e⟩:=hbx;rw[←hx] at e;cases e
      ·rw[f1] at hx;exact pt.2 k _ s s' b hk e1 f1 hb (by rw[←hx] at hbx;exact hbx)
     refine(os.keep k5 own5.1 nsx).keep k6 hs6 fun b hb e=>?_
     have:=(e2.blk hb).2.2
     rw[e,gp] at this;cases this
  ·rw[lkA_putA] at hk hj
   by_cases hk1:k=m.lots[i].frm
   ·have hj1:¬j=m.lots[i].frm:=fun e=>hkj (hk1.trans e.symm)
    rw[if_pos hk1] at hk
    rw[if_neg hj1] at hj
    cases hk
    have:=hb6 b hbs
    rcases pt.1 j with⟨e1,_⟩|⟨s',e1,e2⟩
    ·rw[e1] at hj;cases hj
    ·rw[e1] at hj;cases hj
     have:=(e2.blk hbt).2.1;omega
   ·rw[if_neg hk1] at hk
    by_cases hj1:j=m.lots[i].frm
    ·rw[if_pos hj1] at hj
     cases hj
     have:=hb6 b hbt
     rcases pt.1 k with⟨e1,_⟩|⟨s',e1,e2⟩
     ·rw[e1] at hk;cases hk
     ·rw[e1] at hk;cases hk
      have:=(e2.blk hbs).2.1;omega
    ·rw[if_neg hj1] at hj
     exact pt.2 k j s t b hkj hk hj hbs hbt
 ·rintro s ⟨tm,h',l,rfl,hs,lt,e5,e18,e19,e20,gd,gp,pt⟩
  simp -implicitDefEqProofs(maxSteps:=999999)(disch:=first|with_reducible rfl|omega|(simp only[nA,nS,nD]<;>omega)|fail)only[go_sem,e5,e18,e19,e20,Int.lt_irrefl]
  rw[List.take_length] at pt
  exact⟨hs,.inr ⟨_,_,l,L,W,rfl,by omega,by omega,rfl,gd,gp,pt⟩⟩
 ·exact⟨fun k=>.inl ⟨rfl,by simp[partsL]⟩,fun k j s t b _ hk=>by cases hk⟩
end Go.Ab.Tryz
namespace Go.Ab.Tryz
structure Good (m:Ml):Prop where
 lots:1≤m.lots.length∧m.lots.length≤12
 wgs:m.wgs.length≤10
 errs:0≤m.errs∧m.errs≤50
 wg:∀w∈m.wgs,(0≤w.reads∧w.reads≤10000)∧(0≤w.lo∧w.lo≤60)∧(0≤w.hi∧w.hi≤60)
 kind:∀l∈m.lots,0≤l.kind∧l.kind≤3
 frm:∀i (hi:i<m.lots.length), -1≤m.lots[i].frm∧m.lots[i].frm≤(i:Int)-1
 lot:∀w∈m.wgs,0≤w.lot∧w.lot≤(m.lots.length:Int)-1
 ord:∀w∈m.wgs,w.lo≤w.hi
theorem fromsOk_iff:∀(l:List Lt) (k:Nat),fromsOk l k=true↔∀i (hi:i<l.length), -1≤l[i].frm∧l[i].frm≤((k+i:Nat):Int)-1
 |[],k=>by simp[fromsOk]
 |l::r,k=>by
  simp only[fromsOk,Bool.and_eq_true,decide_eq_true_eq,fromsOk_iff r (k+1)]
  constructor
  ·rintro⟨h1,h2⟩ i hi
   cases i with
   |zero=>simpa using h1
   |succ i=>
    have:=h2 i (by simpa using hi)
    simp only[List.getElem_cons_succ]
    have e:k+1+i=k+(i+1):=by omega
    rw[e] at this;exact this
  ·intro h
   refine⟨by have:=h 0 (by simp);simp only[List.getElem_cons_zero] at this;simpa using this,fun i hi=>?_⟩
   have:=h (i+1) (by simpa using hi)
   simp only[List.getElem_cons_succ] at this
   have e:k+1+i=k+(i+1):=by omega
   rw[e];exact this
theorem good_of {m:Ml}(h:check m=0):Good m:=by
 unfold check at h
 repeat' split at h
 all_goals first|(exfalso;revert h;decide)|skip
 rename_i c1 c2 c3 c4 c5 c6 c7 c8
 simp only[Bool.not_eq_false] at c4 c5 c6 c7 c8
 rw[List.all_eq_true] at c4 c5 c7 c8
 rw[fromsOk_iff] at c6
 refine⟨by omega,by omega,by omega,fun w hw=>by simpa[boundedW] using c4 w hw,fun l hl=>by simpa[allowedK] using c5 l hl,fun i hi=>by simpa using c6 i hi,fun w hw=>by simpa[inB] using c7 w hw,fun w hw=>by simpa using c8 w hw⟩
def DkAt (h:H)(d:Nat)(m:Ml):Prop:=∃pm l L W,h.get d=some (.cells .rw [.int .i64 m.errs,L,W,.map pm])∧h.get pm=some (.map (encA l))∧SlAt h L 2 (m.lots.map encL)∧SlAt h W 4 (m.wgs.map encW)∧
 ∀k,SlAt h (found .nils false (lkA k l)) 1 ((parts m k).map encI)
theorem DkAt.mono {h h':H}{d:Nat}{m:Ml}(a:DkAt h d m)(hs:h.Sub h'):DkAt h' d m:=by
 obtain⟨pm,l,L,W,a1,a2,a3,a4,a5⟩:=a
 exact⟨pm,l,L,W,hs.get a1,hs.get a2,a3.mono hs,a4.mono hs,fun k=>(a5 k).mono hs⟩
theorem parts_len (m:Ml)(k:Int):(parts m k).length≤m.lots.length:=partsL_len k m.lots 0
theorem opened_dk {h:H}{v:V}{m:Ml}(hw:h.wf)(hm:MlIs h v m):Ev fnG fastA (.fn 47 [] []) [v] h fun u h'=>h.Sub h'∧((check m≠0∧u=.tup [.nilp,.int .i64 (check m)])∨
  (check m=0∧∃d,u=.tup [.ptr d 0,.int .i64 0]∧DkAt h' d m)):=by
 refine(opened_ev hw hm).mono fun u h' hu=>?_
 obtain⟨hs,hu|⟨c,d,pm,l,L,W,e1,_,_,e2,g1,g2,pt⟩⟩:=hu
 ·exact⟨hs,.inl hu⟩
 ·refine⟨hs,.inr ⟨c,d,e1,pm,l,L,W,g1,g2,?_,?_,fun k=>?_⟩⟩
  ·obtain⟨L',W',e,aL,aW⟩:=hm
   rw[e2] at e;cases e;exact aL.mono hs
  ·obtain⟨L',W',e,aL,aW⟩:=hm
   rw[e2] at e;cases e;exact aW.mono hs
  ·have hl:=parts_len m k
   have hg:=(good_of c).lots
   rcases pt.1 k with⟨f1,f2⟩|⟨s,f1,f2⟩
   ·rw[f1,f2];exact(OwnSl.nil hs 1).sl (by simp)
   ·rw[f1];exact f2.sl (by simp only[List.length_map];omega)
theorem least_ev {h:H}{x:V}{l:List Int}(hx:SlAt h x 1 (l.map encI))(n:Int)(Q:V→H→Prop):Ev fnG fastA (.fn 61 [] []) [.int .i64 n,x] h Q=Q (.int .i64 (l.foldl min n)) h:=by
 have hb:=hx.boundE
 refine Ev.det (Ev_body (fd:=c61) rfl rfl rfl ?_) Q
 simp -implicitDefEqProofs(maxSteps:=999999)(disch:=first|with_reducible rfl|omega|(simp only[nA,nS,nD]<;>omega)|fail)only[c61,go_sem,hx.lenE]
 refine W_count l.length (fun i s=>∃tm,s=⟨tm,h,[]⟩∧(Opd.t 7).ev tm=x∧(Opd.t 8).ev tm=.int .i64 (l.length:Int)∧(Opd.t 9).ev tm=.int .i64 (i:Int)∧(Opd.t 0).ev tm=.int .i64 ((l.take i).foldl min n))
  ?_ ?_ (i:=0) (Nat.zero_le _) ⟨_,rfl,(by simp[ev_c,ev_put]<;>rfl),(by simp[ev_c,ev_put]<;>rfl),(by simp[ev_c,ev_put]<;>rfl),(by simp[ev_c,ev_put]<;>rfl)⟩
 ·rintro i s hi ⟨tm,rfl,e7,e8,e9,e0⟩
  have hi':(i:Int)<(l.length:Int):=by omega
  obtain⟨b,o,c,cs,rfl,hc,hq,hg,hn,hn0⟩:=hx.at hi
  simp -implicitDefEqProofs(maxSteps:=999999)(disch:=first|with_reducible rfl|omega|(simp only[nA,nS,nD]<;>omega)|fail)only[go_sem,e7,e8,e9,e0,hi',hq (nat_cst i),hc,hn0 (by omega),encI,wr_succ]
  refine⟨_,rfl,(by simp[ev_c,ev_put,e7]<;>rfl),(by simp[ev_c,ev_put,e8]<;>rfl),(by simp[ev_c,ev_put]<;>rfl),?_⟩
  rw[List.take_succ_eq_append_getElem hi,List.foldl_append]
  simp only[ev_put, ↓reduceIte,Nat.reduceEqDiff,List.foldl]
 ·rintro s ⟨tm,rfl,e7,e8,e9,e0⟩
  simp -implicitDefEqProofs(maxSteps:=999999)(disch:=first|with_reducible rfl|omega|(simp only[nA,nS,nD]<;>omega)|fail)only[go_sem,e7,e8,e9,e0,Int.lt_irrefl]
  rw[List.take_length]
theorem least_use {h:H}{x:V}{l:List Int}(hx:SlAt h x 1 (l.map encI)){n:Int}{Q:V→H→Prop}(q:Q (.int .i64 (l.foldl min n)) h):Ev fnG fastA (.fn 61 [] []) [.int .i64 n,x] h Q:=by
 rw[least_ev hx];exact q
def sayLo (m:Ml)(w:Wg):Int:=(100*max 0 (w.reads-m.errs)+(100+w.hi)-1).tdiv (100+w.hi)
def sayHi (m:Ml)(w:Wg):Int:=min 10000 ((100*(w.reads+m.errs)).tdiv (100+w.lo))
theorem tdiv_le {a b:Int}(ha:0≤a)(hb:1≤b):0≤a.tdiv b∧a.tdiv b≤a:=by
 rw[Int.tdiv_eq_ediv_of_nonneg ha]
 exact⟨Int.ediv_nonneg ha (by omega),Int.ediv_le_self _ ha⟩
theorem says_ev {h:H}{d:Nat}{m:Ml}(hw:h.wf)(hd:DkAt h d m)(g:Good m){i:Nat}(hi:i<m.wgs.length):Ev fnG fastA (.fn 79 [] []) [.ptr d 0,.int .i64 (i:Int)] h fun v h'=>
  v=.agg [.int .i64 (sayLo m m.wgs[i]),.int .i64 (sayHi m m.wgs[i])]∧h.Sub h':=by
 obtain⟨pm,l,L,W,g1,g2,aL,aW,ap⟩:=hd
 have hld:=hw d _ g1
 obtain⟨b,o,c,cs,rfl,hc,hq,hg,hn,hn0⟩:=aW.at hi
 have hlb:b<h.next:=by obtain⟨k,hk⟩:=H.cells_eq hc;exact hw b _ hk
 have w1:=g.wg _ (List.getElem_mem hi)
 have w2:=g.errs
 refine Ev_body (fd:=c79) rfl rfl rfl ?_
 have q1:=tdiv_le (a:=100*max 0 (m.wgs[i].reads - m.errs)+(100+m.wgs[i].hi)-1) (b:=100+m.wgs[i].hi) (by omega) (by omega)
 have q2:=tdiv_le (a:=100*(m.wgs[i].reads+m.errs)) (b:=100+m.wgs[i].lo) (by omega) (by omega)
 simp -implicitDefEqProofs(maxSteps:=999999)(disch:=first|with_reducible rfl|omega|(simp only[nA,nS,nD]<;>omega)|fail)only[c79,go_sem,cells_of g1,hq (nat_cst i),hc,hg,encW,wr_in,q_ar_quo]
 refine least_use (l:=[(100*(m.wgs[i].reads+m.errs)).tdiv (100+m.wgs[i].lo)]) (SlAt.new _ (by simp only[H.next_add]) (by rfl) (by rfl) (by simp[encI]) (by simp)) ?_
 simp -implicitDefEqProofs(maxSteps:=999999)(disch:=first|with_reducible rfl|omega|(simp only[nA,nS,nD]<;>omega)|fail)only[go_sem,cells_of g1,List.foldl]
 exact⟨rfl,(by repeat(first|assumption|exact H.Sub.refl (by assumption)|refine H.Sub.add ?_ _|refine H.Sub.set ?_ (by first|omega|(simp only[H.next_add,H.next_set,H.next_del]<;>omega)) (by first|omega|(simp only[H.next_add,H.next_set,H.next_del]<;>omega)) (by assumption) _))⟩
end Go.Ab.Tryz
namespace Go.Ab.Tryz
theorem allOne_flat {α:Type}{enc:α→List V}(h:∀a,allOne (enc a)=true)(l:List α):allOne (l.map enc).flatten=true:=by
 rw[allOne_eq]
 intro v hv
 obtain⟨r,hr,hvr⟩:=List.mem_flatten.1 hv
 obtain⟨a,_,rfl⟩:=List.mem_map.1 hr
 exact allOne_eq.1 (h a) v hvr
theorem MlIs.own {h:H}{m:Ml}{a b:Nat}(hl:m.lots.length≤1000∧m.wgs.length≤1000)(ha:h.get a=some (.cells .rw (m.lots.map encL).flatten))(hb:h.get b=some (.cells .rw (m.wgs.map encW).flatten)):
  MlIs h (.agg [.int .i64 m.errs,.sl a 0 m.lots.length (.fix m.lots.length),.sl b 0 m.wgs.length (.fix m.wgs.length)]) m:=by
 have f1:∀r∈m.lots.map encL,r.length=2:=by simp[encL]
 have f2:∀r∈m.wgs.map encW,r.length=4:=by simp[encW]
 refine⟨_,_,rfl,⟨f1,by simp;omega,.inr ⟨a,0,.fix m.lots.length,_,by simp,.inr (cells_of ha),getN_eq.2 ⟨?_,?_⟩⟩⟩,⟨f2,by simp;omega,.inr ⟨b,0,.fix m.wgs.length,_,by simp,.inr (cells_of hb),getN_eq.2 ⟨?_,?_⟩⟩⟩⟩
 ·rw[List.drop_zero,←flatten_len f1,List.take_length]
 ·rw[flatten_len f1];omega
 ·rw[List.drop_zero,←flatten_len f2,List.take_length]
 ·rw[flatten_len f2];omega
end Go.Ab.Tryz
namespace Go.Ab.Tryz
theorem q_feq_2 (ng:Bool)(a b c d:Int):q_feq ng 2 (.agg [.int .i64 a,.int .i64 b]) (.agg [.int .i64 c,.int .i64 d])=some (.bool (ngB ng (decide (a=c∧b=d)))):=by
 have:=q_feq_map (n:=2) [a,b] [c,d] rfl rfl ng
 simp only[List.map_cons,List.map_nil,iv,List.cons.injEq,and_true] at this
 exact this
def rowL (l:Lt):List Int:=[l.frm,l.kind]
def rowW (w:Wg):List Int:=[w.lot,w.reads,w.lo,w.hi]
instance:DecidableEq Lt:=fun a b=>decidable_of_iff (rowL a=rowL b) ⟨fun h=>by cases a;cases b;simp[rowL] at h;simp[h],fun h=>by rw[h]⟩
instance:DecidableEq Wg:=fun a b=>decidable_of_iff (rowW a=rowW b) ⟨fun h=>by cases a;cases b;simp[rowW] at h;simp[h],fun h=>by rw[h]⟩
instance:DecidableEq Ml:=fun a b=>decidable_of_iff (a.errs=b.errs∧a.lots=b.lots∧a.wgs=b.wgs) ⟨fun h=>by cases a;cases b;simp at h;simp[h],fun h=>by rw[h];exact⟨rfl,rfl,rfl⟩⟩
end Go.Ab.Tryz
namespace Go.Ab.Tryz
def MlOwn (h0 h:H)(v:V)(m:Ml):Prop:=∃L W,v=.agg [.int .i64 m.errs,L,W]∧OwnC h0 h L 2 (m.lots.map encL)∧OwnC h0 h W 4 (m.wgs.map encW)∧∀b,blkOf L b→¬blkOf W b
theorem MlOwn.mono {h0 h h':H}{v:V}{m:Ml}(a:MlOwn h0 h v m)(hs:h.Sub h'):MlOwn h0 h' v m:=by
 obtain⟨L,W,e,a1,a2,a3⟩:=a;exact⟨L,W,e,a1.mono hs,a2.mono hs,a3⟩
theorem MlOwn.is {h0 h:H}{v:V}{m:Ml}(a:MlOwn h0 h v m)(hl:m.lots.length≤1000∧m.wgs.length≤1000):MlIs h v m:=by
 obtain⟨L,W,e,a1,a2,a3⟩:=a
 exact⟨L,W,e,a1.sl (by simp;omega),a2.sl (by simp;omega)⟩
end Go.Ab.Tryz
namespace Go.Ab.Tryz
def frmAt (m:Ml)(n:Int):Int:=match m.lots[n.toNat]? with|some l=>l.frm|none=> -1
theorem frmAt_eq {m:Ml}{n:Int}(h0:0≤n)(h1:n<m.lots.length):frmAt m n=(m.lots[n.toNat]'(by omega)).frm:=by
 unfold frmAt
 rw[List.getElem?_eq_getElem (by omega)]
theorem frmAt_nat {m:Ml}{i:Nat}(hi:i<m.lots.length):frmAt m (i:Int)=m.lots[i].frm:=by
 unfold frmAt
 rw[Int.toNat_natCast,List.getElem?_eq_getElem hi]
theorem frmAt_lt {m:Ml}(g:Good m){n:Int}(h0:0≤n)(h1:n<m.lots.length): -1≤frmAt m n∧frmAt m n≤n-1:=by
 rw[frmAt_eq h0 h1]
 have:=g.frm n.toNat (by omega)
 omega
end Go.Ab.Tryz
