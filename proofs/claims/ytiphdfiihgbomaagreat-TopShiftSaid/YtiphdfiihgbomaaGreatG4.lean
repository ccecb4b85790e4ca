/- A desk: an attic at work. Distances if no clock was read; those with a clock's readings. Contracts of the generic functions, instance by instance (printed by a program of ours). Attics; Check. Distances of an attic: without clocks, and with the readings of one clock (plain). -/
import Derived.Test.YtiphdfiihgbomaaGreatG2
import Derived.Test.YtiphdfiihgbomaaGreatAc2
set_option linter.unusedSimpArgs false
set_option linter.unusedVariables false
namespace Go.Ab.Tryz
abbrev PureA (h:H) (fv:V) (args:List V) (v:V):Prop:=Pure fnG fastA h fv args v
def fidx {α:Type}(p:α→Bool):List α→Nat→Int
 |[],_=> -1
 |r::l,i=>if p r then(i:Int) else fidx p l (i+1)
theorem fidx_hit {α:Type}{p:α→Bool}{l:List α}{i:Nat}(hi:i<l.length)(h:p l[i]=true):fidx p (l.drop i) i=(i:Int):=by
 rw[List.drop_eq_getElem_cons hi];simp[fidx,h]
theorem fidx_miss {α:Type}{p:α→Bool}{l:List α}{i:Nat}(hi:i<l.length)(h:p l[i]=false):fidx p (l.drop i) i=fidx p (l.drop (i+1)) (i+1):=by
 rw[List.drop_eq_getElem_cons hi];simp[fidx,h]
theorem fidx_any {α:Type}(p:α→Bool):∀(l:List α) (i:Nat),decide (0≤fidx p l i)=l.any p
 |[],i=>by simp[fidx]
 |r::l,i=>by
  have ih:=fidx_any p l (i+1)
  simp only[fidx,List.any_cons]
  by_cases h:p r=true
  ·simp[h]
  ·simpa[h] using ih
theorem any_not {α:Type}(p:α→Bool)(l:List α):(!l.any fun a=> !p a)=l.all p:=by
 induction l with
 |nil=>rfl
 |cons a l ih=>simp only[List.any_cons,List.all_cons,←ih,Bool.not_or,Bool.not_not]
theorem indexFuncCk_ev {α:Type}{enc:α→List V}{l:List α}{p:α→Bool}{h:H}{x f:V}(hw:h.wf)(hx:SlAt h x 4 (l.map enc))(hp:∀a∈l,PureA h f [.agg (enc a)] (.bool (p a))):
  E (.fn 99 [] []) [x,f] h fun v h'=>v=.int .i64 (fidx p l 0)∧h.Sub h':=by
 have hb:=hx.boundE
 refine Ev_body (fd:=c99) rfl rfl rfl ?_
 simp -implicitDefEqProofs(maxSteps:=999999)(disch:=first|with_reducible rfl|omega|(simp only[nA,nS,nD]<;>omega)|fail)only[c99,go_sem,hx.lenE]
 refine W_count l.length (fun i s=>∃tm h',s=⟨tm,h',[]⟩∧h.Sub h'∧(Opd.t 0).ev tm=x∧(Opd.t 1).ev tm=f∧(Opd.t 7).ev tm=.int .i64 (l.length:Int)∧(Opd.t 8).ev tm=.int .i64 (i:Int)∧fidx p l 0=fidx p (l.drop i) i)
  ?_ ?_ (i:=0) (Nat.zero_le _) ⟨_,_,rfl,H.Sub.refl hw,(by simp[ev_c,ev_put]<;>rfl),(by simp[ev_c,ev_put]<;>rfl),(by simp[ev_c,ev_put]<;>rfl),(by simp only[ev_put];rfl),rfl⟩
 ·rintro i s hi ⟨tm,h',rfl,hs,e0,e1,e7,e8,e9⟩
  have hi':(i:Int)<(l.length:Int):=by omega
  obtain⟨b,o,c,cs,rfl,hc,hq,hg,hn,hn0⟩:=(hx.mono hs).at hi
  simp -implicitDefEqProofs(maxSteps:=999999)(disch:=first|with_reducible rfl|omega|(simp only[nA,nS,nD]<;>omega)|fail)only[go_sem,e0,e1,e7,e8,hi',hq (nat_cst i),hc,hg]
  refine(hp _ (List.getElem_mem hi)).use hs fun h2 hs2=>?_
  cases hpr:p l[i] with
  |true=>
   simp -implicitDefEqProofs(maxSteps:=999999)(disch:=first|with_reducible rfl|omega|(simp only[nA,nS,nD]<;>omega)|fail)only[go_sem,e0,e1,e7,e8]
   exact⟨by rw[e9,fidx_hit hi hpr],hs.trans hs2⟩
  |false=>
   simp -implicitDefEqProofs(maxSteps:=999999)(disch:=first|with_reducible rfl|omega|(simp only[nA,nS,nD]<;>omega)|fail)only[go_sem,e0,e1,e7,e8,wr_succ]
   exact⟨_,_,rfl,hs.trans hs2,(by simp[ev_c,ev_put,e0]<;>rfl),(by simp[ev_c,ev_put,e1]<;>rfl),(by simp[ev_c,ev_put,e7]<;>rfl),(by simp[ev_c,ev_put]<;>rfl),by rw[e9,fidx_miss hi hpr]⟩
 ·rintro s ⟨tm,h',rfl,hs,e0,e1,e7,e8,e9⟩
  simp -implicitDefEqProofs(maxSteps:=999999)(disch:=first|with_reducible rfl|omega|(simp only[nA,nS,nD]<;>omega)|fail)only[go_sem,e0,e1,e7,e8,Int.lt_irrefl]
  exact⟨by rw[e9];simp[fidx],hs⟩
theorem containsFuncCk_ev {α:Type}{enc:α→List V}{l:List α}{p:α→Bool}{h:H}{x f:V}(hw:h.wf)(hx:SlAt h x 4 (l.map enc))(hp:∀a∈l,PureA h f [.agg (enc a)] (.bool (p a))):
  E (.fn 84 [] []) [x,f] h fun v h'=>v=.bool (l.any p)∧h.Sub h':=by
 refine Ev_body (fd:=c84) rfl rfl rfl ?_
 simp -implicitDefEqProofs(maxSteps:=999999)(disch:=first|with_reducible rfl|omega|(simp only[nA,nS,nD]<;>omega)|fail)only[c84,go_sem]
 refine(indexFuncCk_ev hw hx hp).mono fun v h' hv=>?_
 obtain⟨rfl,hs⟩:=hv
 simp -implicitDefEqProofs(maxSteps:=999999)(disch:=first|with_reducible rfl|omega|(simp only[nA,nS,nD]<;>omega)|fail)only[go_sem]
 exact⟨by rw[fidx_any],hs⟩
theorem everyCk_ev {α:Type}{enc:α→List V}{l:List α}{p:α→Bool}{h:H}{x:V}{g:FuncId}{u w:List V}(hw:h.wf)(hx:SlAt h x 4 (l.map enc))(hp:∀a∈l,PureA h (.fn g u w) [.agg (enc a)] (.bool (p a))):
  E (.fn 43 [] []) [x,.fn g u w] h fun v h'=>v=.bool (l.all p)∧h.Sub h':=by
 refine Ev_body (fd:=c43) rfl rfl rfl ?_
 simp -implicitDefEqProofs(maxSteps:=999999)(disch:=first|with_reducible rfl|omega|(simp only[nA,nS,nD]<;>omega)|fail)only[c43,go_sem]
 have hs1:h.Sub (h.add (.cells .rw [.fn g u w])):=(H.Sub.refl hw).add _
 refine(containsFuncCk_ev (p:=fun a=> !p a) hs1.wf (hx.mono hs1) fun a ha h2 hs2=>?_).mono fun v h' hv=>?_
 ·have hc:h2.cells h.next=some [.fn g u w]:=hs2.cells (cells_add_new rfl)
  have hl:h.next<h2.next:=by have:=hs2.next;rw[H.next_add] at this;omega
  refine Ev_body (fd:=c85) rfl rfl rfl ?_
  simp -implicitDefEqProofs(maxSteps:=999999)(disch:=first|with_reducible rfl|omega|(simp only[nA,nS,nD]<;>omega)|fail)only[c85,go_sem,hc,getN_full (hx.1 _ (List.mem_map_of_mem ha))]
  refine((hp a ha).mono hs1).use (hs2.add _) fun h3 hs3=>?_
  simp -implicitDefEqProofs(maxSteps:=999999)(disch:=first|with_reducible rfl|omega|(simp only[nA,nS,nD]<;>omega)|fail)only[go_sem]
  exact(H.Sub.refl hs2.wf).add _ |>.trans hs3
 ·obtain⟨rfl,hs⟩:=hv
  simp -implicitDefEqProofs(maxSteps:=999999)(disch:=first|with_reducible rfl|omega|(simp only[nA,nS,nD]<;>omega)|fail)only[go_sem]
  exact⟨by rw[any_not],hs1.trans hs⟩
theorem indexFuncRd_ev {α:Type}{enc:α→List V}{l:List α}{p:α→Bool}{h:H}{x f:V}(hw:h.wf)(hx:SlAt h x 3 (l.map enc))(hp:∀a∈l,PureA h f [.agg (enc a)] (.bool (p a))):
  E (.fn 100 [] []) [x,f] h fun v h'=>v=.int .i64 (fidx p l 0)∧h.Sub h':=by
 have hb:=hx.boundE
 refine Ev_body (fd:=c100) rfl rfl rfl ?_
 simp -implicitDefEqProofs(maxSteps:=999999)(disch:=first|with_reducible rfl|omega|(simp only[nA,nS,nD]<;>omega)|fail)only[c100,go_sem,hx.lenE]
 refine W_count l.length (fun i s=>∃tm h',s=⟨tm,h',[]⟩∧h.Sub h'∧(Opd.t 0).ev tm=x∧(Opd.t 1).ev tm=f∧(Opd.t 7).ev tm=.int .i64 (l.length:Int)∧(Opd.t 8).ev tm=.int .i64 (i:Int)∧fidx p l 0=fidx p (l.drop i) i)
  ?_ ?_ (i:=0) (Nat.zero_le _) ⟨_,_,rfl,H.Sub.refl hw,(by simp[ev_c,ev_put]<;>rfl),(by simp[ev_c,ev_put]<;>rfl),(by simp[ev_c,ev_put]<;>rfl),(by simp only[ev_put];rfl),rfl⟩
 ·rintro i s hi ⟨tm,h',rfl,hs,e0,e1,e7,e8,e9⟩
  have hi':(i:Int)<(l.length:Int):=by omega
  obtain⟨b,o,c,cs,rfl,hc,hq,hg,hn,hn0⟩:=(hx.mono hs).at hi
  simp -implicitDefEqProofs(maxSteps:=999999)(disch:=first|with_reducible rfl|omega|(simp only[nA,nS,nD]<;>omega)|fail)only[go_sem,e0,e1,e7,e8,hi',hq (nat_cst i),hc,hg]
  refine(hp _ (List.getElem_mem hi)).use hs fun h2 hs2=>?_
  cases hpr:p l[i] with
  |true=>
   simp -implicitDefEqProofs(maxSteps:=999999)(disch:=first|with_reducible rfl|omega|(simp only[nA,nS,nD]<;>omega)|fail)only[go_sem,e0,e1,e7,e8]
   exact⟨by rw[e9,fidx_hit hi hpr],hs.trans hs2⟩
  |false=>
   simp -implicitDefEqProofs(maxSteps:=999999)(disch:=first|with_reducible rfl|omega|(simp only[nA,nS,nD]<;>omega)|fail)only[go_sem,e0,e1,e7,e8,wr_succ]
   exact⟨_,_,rfl,hs.trans hs2,(by simp[ev_c,ev_put,e0]<;>rfl),(by simp[ev_c,ev_put,e1]<;>rfl),(by simp[ev_c,ev_put,e7]<;>rfl),(by simp[ev_c,ev_put]<;>rfl),by rw[e9,fidx_miss hi hpr]⟩
 ·rintro s ⟨tm,h',rfl,hs,e0,e1,e7,e8,e9⟩
  simp -implicitDefEqProofs(maxSteps:=999999)(disch:=first|with_reducible rfl|omega|(simp only[nA,nS,nD]<;>omega)|fail)only[go_sem,e0,e1,e7,e8,Int.lt_irrefl]
  exact⟨by rw[e9];simp[fidx],hs⟩
theorem containsFuncRd_ev {α:Type}{enc:α→List V}{l:List α}{p:α→Bool}{h:H}{x f:V}(hw:h.wf)(hx:SlAt h x 3 (l.map enc))(hp:∀a∈l,PureA h f [.agg (enc a)] (.bool (p a))):
  E (.fn 86 [] []) [x,f] h fun v h'=>v=.bool (l.any p)∧h.Sub h':=by
 refine Ev_body (fd:=c86) rfl rfl rfl ?_
 simp -implicitDefEqProofs(maxSteps:=999999)(disch:=first|with_reducible rfl|omega|(simp only[nA,nS,nD]<;>omega)|fail)only[c86,go_sem]
 refine(indexFuncRd_ev hw hx hp).mono fun v h' hv=>?_
 obtain⟨rfl,hs⟩:=hv
 simp -implicitDefEqProofs(maxSteps:=999999)(disch:=first|with_reducible rfl|omega|(simp only[nA,nS,nD]<;>omega)|fail)only[go_sem]
 exact⟨by rw[fidx_any],hs⟩
theorem everyRd_ev {α:Type}{enc:α→List V}{l:List α}{p:α→Bool}{h:H}{x:V}{g:FuncId}{u w:List V}(hw:h.wf)(hx:SlAt h x 3 (l.map enc))(hp:∀a∈l,PureA h (.fn g u w) [.agg (enc a)] (.bool (p a))):
  E (.fn 46 [] []) [x,.fn g u w] h fun v h'=>v=.bool (l.all p)∧h.Sub h':=by
 refine Ev_body (fd:=c46) rfl rfl rfl ?_
 simp -implicitDefEqProofs(maxSteps:=999999)(disch:=first|with_reducible rfl|omega|(simp only[nA,nS,nD]<;>omega)|fail)only[c46,go_sem]
 have hs1:h.Sub (h.add (.cells .rw [.fn g u w])):=(H.Sub.refl hw).add _
 refine(containsFuncRd_ev (p:=fun a=> !p a) hs1.wf (hx.mono hs1) fun a ha h2 hs2=>?_).mono fun v h' hv=>?_
 ·have hc:h2.cells h.next=some [.fn g u w]:=hs2.cells (cells_add_new rfl)
  have hl:h.next<h2.next:=by have:=hs2.next;rw[H.next_add] at this;omega
  refine Ev_body (fd:=c87) rfl rfl rfl ?_
  simp -implicitDefEqProofs(maxSteps:=999999)(disch:=first|with_reducible rfl|omega|(simp only[nA,nS,nD]<;>omega)|fail)only[c87,go_sem,hc,getN_full (hx.1 _ (List.mem_map_of_mem ha))]
  refine((hp a ha).mono hs1).use (hs2.add _) fun h3 hs3=>?_
  simp -implicitDefEqProofs(maxSteps:=999999)(disch:=first|with_reducible rfl|omega|(simp only[nA,nS,nD]<;>omega)|fail)only[go_sem]
  exact(H.Sub.refl hs2.wf).add _ |>.trans hs3
 ·obtain⟨rfl,hs⟩:=hv
  simp -implicitDefEqProofs(maxSteps:=999999)(disch:=first|with_reducible rfl|omega|(simp only[nA,nS,nD]<;>omega)|fail)only[go_sem]
  exact⟨by rw[any_not],hs1.trans hs⟩
theorem indexFuncGp_ev {α:Type}{enc:α→List V}{l:List α}{p:α→Bool}{h:H}{x f:V}(hw:h.wf)(hx:SlAt h x 4 (l.map enc))(hp:∀a∈l,PureA h f [.agg (enc a)] (.bool (p a))):
  E (.fn 101 [] []) [x,f] h fun v h'=>v=.int .i64 (fidx p l 0)∧h.Sub h':=by
 have hb:=hx.boundE
 refine Ev_body (fd:=c101) rfl rfl rfl ?_
 simp -implicitDefEqProofs(maxSteps:=999999)(disch:=first|with_reducible rfl|omega|(simp only[nA,nS,nD]<;>omega)|fail)only[c101,go_sem,hx.lenE]
 refine W_count l.length (fun i s=>∃tm h',s=⟨tm,h',[]⟩∧h.Sub h'∧(Opd.t 0).ev tm=x∧(Opd.t 1).ev tm=f∧(Opd.t 7).ev tm=.int .i64 (l.length:Int)∧(Opd.t 8).ev tm=.int .i64 (i:Int)∧fidx p l 0=fidx p (l.drop i) i)
  ?_ ?_ (i:=0) (Nat.zero_le _) ⟨_,_,rfl,H.Sub.refl hw,(by simp[ev_c,ev_put]<;>rfl),(by simp[ev_c,ev_put]<;>rfl),(by simp[ev_c,ev_put]<;>rfl),(by simp only[ev_put];rfl),rfl⟩
 ·rintro i s hi ⟨tm,h',rfl,hs,e0,e1,e7,e8,e9⟩
  have hi':(i:Int)<(l.length:Int):=by omega
  obtain⟨b,o,c,cs,rfl,hc,hq,hg,hn,hn0⟩:=(hx.mono hs).at hi
  simp -implicitDefEqProofs(maxSteps:=999999)(disch:=first|with_reducible rfl|omega|(simp only[nA,nS,nD]<;>omega)|fail)only[go_sem,e0,e1,e7,e8,hi',hq (nat_cst i),hc,hg]
  refine(hp _ (List.getElem_mem hi)).use hs fun h2 hs2=>?_
  cases hpr:p l[i] with
  |true=>
   simp -implicitDefEqProofs(maxSteps:=999999)(disch:=first|with_reducible rfl|omega|(simp only[nA,nS,nD]<;>omega)|fail)only[go_sem,e0,e1,e7,e8]
   exact⟨by rw[e9,fidx_hit hi hpr],hs.trans hs2⟩
  |false=>
   simp -implicitDefEqProofs(maxSteps:=999999)(disch:=first|with_reducible rfl|omega|(simp only[nA,nS,nD]<;>omega)|fail)only[go_sem,e0,e1,e7,e8,wr_succ]
   exact⟨_,_,rfl,hs.trans hs2,(by simp[ev_c,ev_put,e0]<;>rfl),(by simp[ev_c,ev_put,e1]<;>rfl),(by simp[ev_c,ev_put,e7]<;>rfl),(by simp[ev_c,ev_put]<;>rfl),by rw[e9,fidx_miss hi hpr]⟩
 ·rintro s ⟨tm,h',rfl,hs,e0,e1,e7,e8,e9⟩
  simp -implicitDefEqProofs(maxSteps:=999999)(disch:=first|with_reducible rfl|omega|(simp only[nA,nS,nD]<;>omega)|fail)only[go_sem,e0,e1,e7,e8,Int.lt_irrefl]
  exact⟨by rw[e9];simp[fidx],hs⟩
theorem containsFuncGp_ev {α:Type}{enc:α→List V}{l:List α}{p:α→Bool}{h:H}{x f:V}(hw:h.wf)(hx:SlAt h x 4 (l.map enc))(hp:∀a∈l,PureA h f [.agg (enc a)] (.bool (p a))):
  E (.fn 88 [] []) [x,f] h fun v h'=>v=.bool (l.any p)∧h.Sub h':=by
 refine Ev_body (fd:=c88) rfl rfl rfl ?_
 simp -implicitDefEqProofs(maxSteps:=999999)(disch:=first|with_reducible rfl|omega|(simp only[nA,nS,nD]<;>omega)|fail)only[c88,go_sem]
 refine(indexFuncGp_ev hw hx hp).mono fun v h' hv=>?_
 obtain⟨rfl,hs⟩:=hv
 simp -implicitDefEqProofs(maxSteps:=999999)(disch:=first|with_reducible rfl|omega|(simp only[nA,nS,nD]<;>omega)|fail)only[go_sem]
 exact⟨by rw[fidx_any],hs⟩
theorem everyGp_ev {α:Type}{enc:α→List V}{l:List α}{p:α→Bool}{h:H}{x:V}{g:FuncId}{u w:List V}(hw:h.wf)(hx:SlAt h x 4 (l.map enc))(hp:∀a∈l,PureA h (.fn g u w) [.agg (enc a)] (.bool (p a))):
  E (.fn 48 [] []) [x,.fn g u w] h fun v h'=>v=.bool (l.all p)∧h.Sub h':=by
 refine Ev_body (fd:=c48) rfl rfl rfl ?_
 simp -implicitDefEqProofs(maxSteps:=999999)(disch:=first|with_reducible rfl|omega|(simp only[nA,nS,nD]<;>omega)|fail)only[c48,go_sem]
 have hs1:h.Sub (h.add (.cells .rw [.fn g u w])):=(H.Sub.refl hw).add _
 refine(containsFuncGp_ev (p:=fun a=> !p a) hs1.wf (hx.mono hs1) fun a ha h2 hs2=>?_).mono fun v h' hv=>?_
 ·have hc:h2.cells h.next=some [.fn g u w]:=hs2.cells (cells_add_new rfl)
  have hl:h.next<h2.next:=by have:=hs2.next;rw[H.next_add] at this;omega
  refine Ev_body (fd:=c89) rfl rfl rfl ?_
  simp -implicitDefEqProofs(maxSteps:=999999)(disch:=first|with_reducible rfl|omega|(simp only[nA,nS,nD]<;>omega)|fail)only[c89,go_sem,hc,getN_full (hx.1 _ (List.mem_map_of_mem ha))]
  refine((hp a ha).mono hs1).use (hs2.add _) fun h3 hs3=>?_
  simp -implicitDefEqProofs(maxSteps:=999999)(disch:=first|with_reducible rfl|omega|(simp only[nA,nS,nD]<;>omega)|fail)only[go_sem]
  exact(H.Sub.refl hs2.wf).add _ |>.trans hs3
 ·obtain⟨rfl,hs⟩:=hv
  simp -implicitDefEqProofs(maxSteps:=999999)(disch:=first|with_reducible rfl|omega|(simp only[nA,nS,nD]<;>omega)|fail)only[go_sem]
  exact⟨by rw[any_not],hs1.trans hs⟩
end Go.Ab.Tryz
namespace Go.Ab.Tryz
open Go.Proofs
structure Ck where
 sl:Int
 sh:Int
 gl:Int
 gh:Int
structure Rd where
 ck:Int
 ev:Int
 sh:Int
structure Gp where
 fr:Int
 to:Int
 lo:Int
 hi:Int
structure At where
 mins:Int
 evs:Int
 cks:List Ck
 rds:List Rd
 gps:List Gp
def encC (c:Ck):List V:=[.int .i64 c.sl,.int .i64 c.sh,.int .i64 c.gl,.int .i64 c.gh]
def encR (r:Rd):List V:=[.int .i64 r.ck,.int .i64 r.ev,.int .i64 r.sh]
def encG (g:Gp):List V:=[.int .i64 g.fr,.int .i64 g.to,.int .i64 g.lo,.int .i64 g.hi]
structure AtAt (h:H)(C R G:V)(a:At):Prop where
 c:SlAt h C 4 (a.cks.map encC)
 r:SlAt h R 3 (a.rds.map encR)
 g:SlAt h G 4 (a.gps.map encG)
abbrev atV (a:At) (C R G:V):List V:=[.int .i64 a.mins,.int .i64 a.evs,C,R,G]
def AtIs (h:H)(v:V)(a:At):Prop:=∃C R G,v=.agg (atV a C R G)∧AtAt h C R G a
theorem AtAt.mono {h h':H}{C R G:V}{a:At}(x:AtAt h C R G a)(s:h.Sub h'):AtAt h' C R G a:=⟨x.c.mono s,x.r.mono s,x.g.mono s⟩
theorem AtIs.mono {h h':H}{v:V}{a:At}(x:AtIs h v a)(s:h.Sub h'):AtIs h' v a:=by
 obtain⟨C,R,G,e,y⟩:=x;exact⟨C,R,G,e,y.mono s⟩
theorem Ev_bound {f:FuncId}{a:V}{args:List V}{h:H}{Q:V→H→Prop}(he:Ev fnG fastA (.fn f [] []) (a::args) h Q):Ev fnG fastA (.fn f [a] []) args h Q:=by
 rw[Ev_fn,appN_eq,appN_eq];simpa using he
def within (lo hi m:Int):Bool:=inB lo (-m) m&&inB hi (-m) m
def Ck.bd (c:Ck):Bool:=within c.sl c.sh 60&&within c.gl c.gh 30
def Ck.ord (c:Ck):Bool:=decide (c.sl≤c.sh)&&decide (c.gl≤c.gh)
def Ck.sm (c:Ck):Bool:=decide (c.sh-c.sl≤4)&&decide (c.gh-c.gl≤4)
def Rd.bd (r:Rd):Bool:=inB r.sh (-999) 999
def Gp.bd (g:Gp):Bool:=within g.lo g.hi 240
def Gp.ord (g:Gp):Bool:=decide (g.lo≤g.hi)
def At.evB (a:At)(n:Int):Bool:=inB n 0 (a.evs-1)
def At.ckB (a:At)(n:Int):Bool:=inB n 0 ((a.cks.length:Int)-1)
def At.rdOk (a:At)(r:Rd):Bool:=a.ckB r.ck&&a.evB r.ev
def At.gpOk (a:At)(g:Gp):Bool:=a.evB g.fr&&a.evB g.to
def At.sz (a:At):Bool:=inB a.mins 1 240&&(inB a.evs 1 4&&(decide (a.cks.length≤3)&&(decide (a.rds.length≤8)&&decide (a.gps.length≤4))))
def checkA (a:At):Int:=
 if a.sz=false then 2
 else if a.cks.all Ck.bd=false then 3
 else if a.rds.all Rd.bd=false∨a.gps.all Gp.bd=false then 3
 else if a.rds.all a.rdOk=false∨a.gps.all a.gpOk=false then 1
 else if a.cks.all Ck.ord=false∨a.gps.all Gp.ord=false then 4
 else if a.cks.all Ck.sm=false then 10
 else 0
structure Right (a:At):Prop where
 sz:a.sz=true
 cb:∀c∈a.cks,c.bd=true
 rb:∀r∈a.rds,r.bd=true
 gb:∀g∈a.gps,g.bd=true
 ro:∀r∈a.rds,a.rdOk r=true
 go:∀g∈a.gps,a.gpOk g=true
 co:∀c∈a.cks,c.ord=true
 gd:∀g∈a.gps,g.ord=true
 cs:∀c∈a.cks,c.sm=true
theorem checkA_iff {a:At}:checkA a=0↔Right a:=by
 constructor
 ·intro h
  unfold checkA at h
  repeat' (split at h<;>try(exact absurd h (by decide)))
  rename_i h1 h2 h3 h4 h5 h6
  simp only[not_or,Bool.not_eq_false,List.all_eq_true] at h1 h2 h3 h4 h5 h6
  exact⟨h1,h2,h3.1,h3.2,h4.1,h4.2,h5.1,h5.2,h6⟩
 ·intro r
  have e1:a.cks.all Ck.bd=true:=List.all_eq_true.2 r.cb
  have e2:a.rds.all Rd.bd=true:=List.all_eq_true.2 r.rb
  have e3:a.gps.all Gp.bd=true:=List.all_eq_true.2 r.gb
  have e4:a.rds.all a.rdOk=true:=List.all_eq_true.2 r.ro
  have e5:a.gps.all a.gpOk=true:=List.all_eq_true.2 r.go
  have e6:a.cks.all Ck.ord=true:=List.all_eq_true.2 r.co
  have e7:a.gps.all Gp.ord=true:=List.all_eq_true.2 r.gd
  have e8:a.cks.all Ck.sm=true:=List.all_eq_true.2 r.cs
  simp[checkA,r.sz,e1,e2,e3,e4,e5,e6,e7,e8]
theorem Right.mins {a:At}(r:Right a):1≤a.mins∧a.mins≤240:=by
 have:=r.sz;simp only[At.sz,Bool.and_eq_true,inB_iff] at this;exact this.1
theorem Right.evs {a:At}(r:Right a):1≤a.evs∧a.evs≤4:=by
 have:=r.sz;simp only[At.sz,Bool.and_eq_true,inB_iff] at this;exact this.2.1
theorem Right.lens {a:At}(r:Right a):a.cks.length≤3∧a.rds.length≤8∧a.gps.length≤4:=by
 have:=r.sz;simp only[At.sz,Bool.and_eq_true,decide_eq_true_eq] at this;exact this.2.2
theorem within_ev {h:H}(hw:h.wf)(lo hi m:Int)(hm:0≤m∧m≤1000)(Q:V→H→Prop)(q:∀h',h.Sub h'→Q (.bool (within lo hi m)) h'):Ev fnG fastA (.fn 45 [] []) [.agg [.int .i64 lo,.int .i64 hi],.int .i64 m] h Q:=by
 refine Ev_body (fd:=c45) rfl rfl rfl ?_
 have s:h.Sub (h.add (.cells .rw [.int .i64 lo,.int .i64 hi])):=(by repeat(first|assumption|exact H.Sub.refl (by assumption)|refine H.Sub.add ?_ _|refine H.Sub.set ?_ (by first|omega|(simp only[H.next_add,H.next_set,H.next_del]<;>omega)) (by first|omega|(simp only[H.next_add,H.next_set,H.next_del]<;>omega)) (by assumption) _))
 have w:wr .i64 (0-m)= -m:=by rw[wr_in (by omega) (by omega)];omega
 cases h1:inB lo (-m) m with
 |true=>
  have e:within lo hi m=inB hi (-m) m:=by rw[within,h1,Bool.true_and]
  rw[e] at q
  simp -implicitDefEqProofs(maxSteps:=999999)(disch:=first|with_reducible rfl|omega|(simp only[nA,nS,nD]<;>omega)|fail)only[c45,go_sem,in_eq,w,h1]
  exact q _ s
 |false=>
  have e:within lo hi m=false:=by rw[within,h1,Bool.false_and]
  rw[e] at q
  simp -implicitDefEqProofs(maxSteps:=999999)(disch:=first|with_reducible rfl|omega|(simp only[nA,nS,nD]<;>omega)|fail)only[c45,go_sem,in_eq,w,h1]
  exact q _ s
theorem ordered_ev {h:H}(hw:h.wf)(lo hi:Int)(Q:V→H→Prop)(q:∀h',h.Sub h'→Q (.bool (decide (lo≤hi))) h'):Ev fnG fastA (.fn 54 [] []) [.agg [.int .i64 lo,.int .i64 hi]] h Q:=by
 refine Ev_body (fd:=c54) rfl rfl rfl ?_
 have s:h.Sub (h.add (.cells .rw [.int .i64 lo,.int .i64 hi])):=(by repeat(first|assumption|exact H.Sub.refl (by assumption)|refine H.Sub.add ?_ _|refine H.Sub.set ?_ (by first|omega|(simp only[H.next_add,H.next_set,H.next_del]<;>omega)) (by first|omega|(simp only[H.next_add,H.next_set,H.next_del]<;>omega)) (by assumption) _))
 simp -implicitDefEqProofs(maxSteps:=999999)(disch:=first|with_reducible rfl|omega|(simp only[nA,nS,nD]<;>omega)|fail)only[c54,go_sem]
 exact q _ s
theorem check1_ev {h:H}(hw:h.wf)(c:Ck):E (.fn 44 [] []) [.agg (encC c)] h fun u h'=>u=.bool c.bd∧h.Sub h':=by
 refine Ev_body (fd:=c44) rfl rfl rfl ?_
 have s:h.Sub (h.add (.cells .rw [.int .i64 c.sl,.int .i64 c.sh,.int .i64 c.gl,.int .i64 c.gh])):=(by repeat(first|assumption|exact H.Sub.refl (by assumption)|refine H.Sub.add ?_ _|refine H.Sub.set ?_ (by first|omega|(simp only[H.next_add,H.next_set,H.next_del]<;>omega)) (by first|omega|(simp only[H.next_add,H.next_set,H.next_del]<;>omega)) (by assumption) _))
 have g:(h.add (.cells .rw [.int .i64 c.sl,.int .i64 c.sh,.int .i64 c.gl,.int .i64 c.gh])).cells h.next=some [.int .i64 c.sl,.int .i64 c.sh,.int .i64 c.gl,.int .i64 c.gh]:=cells_add_new rfl
 simp -implicitDefEqProofs(maxSteps:=999999)(disch:=first|with_reducible rfl|omega|(simp only[nA,nS,nD]<;>omega)|fail)only[c44,go_sem,encC]
 refine within_ev s.wf _ _ 60 (by omega) _ fun h1 s1=>?_
 cases h1:within c.sl c.sh 60 with
 |false=>
  simp -implicitDefEqProofs(maxSteps:=999999)(disch:=first|with_reducible rfl|omega|(simp only[nA,nS,nD]<;>omega)|fail)only[go_sem]
  exact⟨by simp[Ck.bd,h1],s.trans s1⟩
 |true=>
  simp -implicitDefEqProofs(maxSteps:=999999)(disch:=first|with_reducible rfl|omega|(simp only[nA,nS,nD]<;>omega)|fail)only[go_sem,s1.cells g]
  refine within_ev s1.wf _ _ 30 (by omega) _ fun h2 s2=>?_
  simp -implicitDefEqProofs(maxSteps:=999999)(disch:=first|with_reducible rfl|omega|(simp only[nA,nS,nD]<;>omega)|fail)only[go_sem]
  exact⟨by simp[Ck.bd,h1],(s.trans s1).trans s2⟩
theorem check2_ev {h:H}(hw:h.wf)(r:Rd):E (.fn 47 [] []) [.agg (encR r)] h fun u h'=>u=.bool r.bd∧h.Sub h':=by
 refine Ev_body (fd:=c47) rfl rfl rfl ?_
 have s:h.Sub (h.add (.cells .rw [.int .i64 r.ck,.int .i64 r.ev,.int .i64 r.sh])):=(by repeat(first|assumption|exact H.Sub.refl (by assumption)|refine H.Sub.add ?_ _|refine H.Sub.set ?_ (by first|omega|(simp only[H.next_add,H.next_set,H.next_del]<;>omega)) (by first|omega|(simp only[H.next_add,H.next_set,H.next_del]<;>omega)) (by assumption) _))
 simp -implicitDefEqProofs(maxSteps:=999999)(disch:=first|with_reducible rfl|omega|(simp only[nA,nS,nD]<;>omega)|fail)only[c47,go_sem,encR,in_eq]
 exact⟨rfl,s⟩
theorem check3_ev {h:H}(hw:h.wf)(g:Gp):E (.fn 49 [] []) [.agg (encG g)] h fun u h'=>u=.bool g.bd∧h.Sub h':=by
 refine Ev_body (fd:=c49) rfl rfl rfl ?_
 have s:h.Sub (h.add (.cells .rw [.int .i64 g.fr,.int .i64 g.to,.int .i64 g.lo,.int .i64 g.hi])):=(by repeat(first|assumption|exact H.Sub.refl (by assumption)|refine H.Sub.add ?_ _|refine H.Sub.set ?_ (by first|omega|(simp only[H.next_add,H.next_set,H.next_del]<;>omega)) (by first|omega|(simp only[H.next_add,H.next_set,H.next_del]<;>omega)) (by assumption) _))
 simp -implicitDefEqProofs(maxSteps:=999999)(disch:=first|with_reducible rfl|omega|(simp only[nA,nS,nD]<;>omega)|fail)only[c49,go_sem,encG]
 refine within_ev s.wf _ _ 240 (by omega) _ fun h1 s1=>?_
 simp -implicitDefEqProofs(maxSteps:=999999)(disch:=first|with_reducible rfl|omega|(simp only[nA,nS,nD]<;>omega)|fail)only[go_sem]
 exact⟨rfl,s.trans s1⟩
theorem event_ev {h:H}(hw:h.wf){C R G:V}(a:At)(he:0≤a.evs∧a.evs≤1000)(n:Int)(Q:V→H→Prop)(q:∀h',h.Sub h'→Q (.bool (a.evB n)) h'):Ev fnG fastA (.fn 25 [] []) [.agg (atV a C R G),.int .i64 n] h Q:=by
 refine Ev_body (fd:=c25) rfl rfl rfl ?_
 have s:h.Sub (h.add (.cells .rw (atV a C R G))):=(by repeat(first|assumption|exact H.Sub.refl (by assumption)|refine H.Sub.add ?_ _|refine H.Sub.set ?_ (by first|omega|(simp only[H.next_add,H.next_set,H.next_del]<;>omega)) (by first|omega|(simp only[H.next_add,H.next_set,H.next_del]<;>omega)) (by assumption) _))
 have w:wr .i64 (a.evs-1)=a.evs-1:=wr_in (by omega) (by omega)
 simp -implicitDefEqProofs(maxSteps:=999999)(disch:=first|with_reducible rfl|omega|(simp only[nA,nS,nD]<;>omega)|fail)only[c25,go_sem,in_eq,w]
 exact q _ s
theorem clock_ev {h:H}(hw:h.wf){C R G:V}{a:At}(x:AtAt h C R G a)(n:Int)(Q:V→H→Prop)(q:∀h',h.Sub h'→Q (.bool (a.ckB n)) h'):Ev fnG fastA (.fn 51 [] []) [.agg (atV a C R G),.int .i64 n] h Q:=by
 refine Ev_body (fd:=c51) rfl rfl rfl ?_
 have s:h.Sub (h.add (.cells .rw (atV a C R G))):=(by repeat(first|assumption|exact H.Sub.refl (by assumption)|refine H.Sub.add ?_ _|refine H.Sub.set ?_ (by first|omega|(simp only[H.next_add,H.next_set,H.next_del]<;>omega)) (by first|omega|(simp only[H.next_add,H.next_set,H.next_del]<;>omega)) (by assumption) _))
 have hl:=x.c.lenE
 have hb:=x.c.boundE
 have w:wr .i64 ((a.cks.length:Int)-1)=(a.cks.length:Int)-1:=wr_in (by omega) (by omega)
 simp -implicitDefEqProofs(maxSteps:=999999)(disch:=first|with_reducible rfl|omega|(simp only[nA,nS,nD]<;>omega)|fail)only[c51,go_sem,in_eq,hl,w]
 exact q _ s
theorem check4_ev {h:H}(hw:h.wf){C R G:V}{a:At}(x:AtAt h C R G a)(he:0≤a.evs∧a.evs≤1000){b1 b2:Nat}(g1:h.cells b1=some (atV a C R G))(g2:h.cells b2=some [.fn 25 [.agg (atV a C R G)] []])(l1:b1<h.next)(l2:b2<h.next)(r:Rd):
  E (.fn 50 [] [.ptr b1 0,.ptr b2 0]) [.agg (encR r)] h fun u h'=>u=.bool (a.rdOk r)∧h.Sub h':=by
 refine Ev_body (fd:=c50) rfl rfl rfl ?_
 have s:h.Sub (h.add (.cells .rw [.int .i64 r.ck,.int .i64 r.ev,.int .i64 r.sh])):=(by repeat(first|assumption|exact H.Sub.refl (by assumption)|refine H.Sub.add ?_ _|refine H.Sub.set ?_ (by first|omega|(simp only[H.next_add,H.next_set,H.next_del]<;>omega)) (by first|omega|(simp only[H.next_add,H.next_set,H.next_del]<;>omega)) (by assumption) _))
 have g:(h.add (.cells .rw [.int .i64 r.ck,.int .i64 r.ev,.int .i64 r.sh])).cells h.next=some [.int .i64 r.ck,.int .i64 r.ev,.int .i64 r.sh]:=cells_add_new rfl
 simp -implicitDefEqProofs(maxSteps:=999999)(disch:=first|with_reducible rfl|omega|(simp only[nA,nS,nD]<;>omega)|fail)only[c50,go_sem,encR,g1,g2]
 refine clock_ev s.wf (x.mono s) _ _ fun h1 s1=>?_
 cases h1:a.ckB r.ck with
 |false=>
  simp -implicitDefEqProofs(maxSteps:=999999)(disch:=first|with_reducible rfl|omega|(simp only[nA,nS,nD]<;>omega)|fail)only[go_sem]
  exact⟨by simp[At.rdOk,h1],s.trans s1⟩
 |true=>
  simp -implicitDefEqProofs(maxSteps:=999999)(disch:=first|with_reducible rfl|omega|(simp only[nA,nS,nD]<;>omega)|fail)only[go_sem,s1.cells g,(s.trans s1).cells g2]
  refine Ev_bound ?_
  refine event_ev s1.wf a he _ _ fun h2 s2=>?_
  simp -implicitDefEqProofs(maxSteps:=999999)(disch:=first|with_reducible rfl|omega|(simp only[nA,nS,nD]<;>omega)|fail)only[go_sem]
  exact⟨by simp[At.rdOk,h1],(s.trans s1).trans s2⟩
theorem check5_ev {h:H}(hw:h.wf){C R G:V}{a:At}(he:0≤a.evs∧a.evs≤1000){b2:Nat}(g2:h.cells b2=some [.fn 25 [.agg (atV a C R G)] []])(l2:b2<h.next)(g:Gp):
  E (.fn 52 [] [.ptr b2 0]) [.agg (encG g)] h fun u h'=>u=.bool (a.gpOk g)∧h.Sub h':=by
 refine Ev_body (fd:=c52) rfl rfl rfl ?_
 have s:h.Sub (h.add (.cells .rw [.int .i64 g.fr,.int .i64 g.to,.int .i64 g.lo,.int .i64 g.hi])):=(by repeat(first|assumption|exact H.Sub.refl (by assumption)|refine H.Sub.add ?_ _|refine H.Sub.set ?_ (by first|omega|(simp only[H.next_add,H.next_set,H.next_del]<;>omega)) (by first|omega|(simp only[H.next_add,H.next_set,H.next_del]<;>omega)) (by assumption) _))
 have gg:(h.add (.cells .rw [.int .i64 g.fr,.int .i64 g.to,.int .i64 g.lo,.int .i64 g.hi])).cells h.next=some [.int .i64 g.fr,.int .i64 g.to,.int .i64 g.lo,.int .i64 g.hi]:=cells_add_new rfl
 simp -implicitDefEqProofs(maxSteps:=999999)(disch:=first|with_reducible rfl|omega|(simp only[nA,nS,nD]<;>omega)|fail)only[c52,go_sem,encG,g2]
 refine Ev_bound ?_
 refine event_ev s.wf a he _ _ fun h1 s1=>?_
 cases h1:a.evB g.fr with
 |false=>
  simp -implicitDefEqProofs(maxSteps:=999999)(disch:=first|with_reducible rfl|omega|(simp only[nA,nS,nD]<;>omega)|fail)only[go_sem]
  exact⟨by simp[At.gpOk,h1],s.trans s1⟩
 |true=>
  simp -implicitDefEqProofs(maxSteps:=999999)(disch:=first|with_reducible rfl|omega|(simp only[nA,nS,nD]<;>omega)|fail)only[go_sem,s1.cells gg,(s.trans s1).cells g2]
  refine Ev_bound ?_
  refine event_ev s1.wf a he _ _ fun h2 s2=>?_
  simp -implicitDefEqProofs(maxSteps:=999999)(disch:=first|with_reducible rfl|omega|(simp only[nA,nS,nD]<;>omega)|fail)only[go_sem]
  exact⟨by simp[At.gpOk,h1],(s.trans s1).trans s2⟩
theorem check6_ev {h:H}(hw:h.wf)(c:Ck):E (.fn 53 [] []) [.agg (encC c)] h fun u h'=>u=.bool c.ord∧h.Sub h':=by
 refine Ev_body (fd:=c53) rfl rfl rfl ?_
 have s:h.Sub (h.add (.cells .rw [.int .i64 c.sl,.int .i64 c.sh,.int .i64 c.gl,.int .i64 c.gh])):=(by repeat(first|assumption|exact H.Sub.refl (by assumption)|refine H.Sub.add ?_ _|refine H.Sub.set ?_ (by first|omega|(simp only[H.next_add,H.next_set,H.next_del]<;>omega)) (by first|omega|(simp only[H.next_add,H.next_set,H.next_del]<;>omega)) (by assumption) _))
 have g:(h.add (.cells .rw [.int .i64 c.sl,.int .i64 c.sh,.int .i64 c.gl,.int .i64 c.gh])).cells h.next=some [.int .i64 c.sl,.int .i64 c.sh,.int .i64 c.gl,.int .i64 c.gh]:=cells_add_new rfl
 simp -implicitDefEqProofs(maxSteps:=999999)(disch:=first|with_reducible rfl|omega|(simp only[nA,nS,nD]<;>omega)|fail)only[c53,go_sem,encC]
 refine ordered_ev s.wf _ _ _ fun h1 s1=>?_
 by_cases h1:c.sl≤c.sh
 ·simp -implicitDefEqProofs(maxSteps:=999999)(disch:=first|with_reducible rfl|omega|(simp only[nA,nS,nD]<;>omega)|fail)only[go_sem,h1,s1.cells g]
  refine ordered_ev s1.wf _ _ _ fun h2 s2=>?_
  simp -implicitDefEqProofs(maxSteps:=999999)(disch:=first|with_reducible rfl|omega|(simp only[nA,nS,nD]<;>omega)|fail)only[go_sem]
  exact⟨by simp[Ck.ord,h1],(s.trans s1).trans s2⟩
 ·simp -implicitDefEqProofs(maxSteps:=999999)(disch:=first|with_reducible rfl|omega|(simp only[nA,nS,nD]<;>omega)|fail)only[go_sem,h1]
  exact⟨by simp[Ck.ord,h1],s.trans s1⟩
theorem check7_ev {h:H}(hw:h.wf)(g:Gp):E (.fn 55 [] []) [.agg (encG g)] h fun u h'=>u=.bool g.ord∧h.Sub h':=by
 refine Ev_body (fd:=c55) rfl rfl rfl ?_
 have s:h.Sub (h.add (.cells .rw [.int .i64 g.fr,.int .i64 g.to,.int .i64 g.lo,.int .i64 g.hi])):=(by repeat(first|assumption|exact H.Sub.refl (by assumption)|refine H.Sub.add ?_ _|refine H.Sub.set ?_ (by first|omega|(simp only[H.next_add,H.next_set,H.next_del]<;>omega)) (by first|omega|(simp only[H.next_add,H.next_set,H.next_del]<;>omega)) (by assumption) _))
 simp -implicitDefEqProofs(maxSteps:=999999)(disch:=first|with_reducible rfl|omega|(simp only[nA,nS,nD]<;>omega)|fail)only[c55,go_sem,encG]
 refine ordered_ev s.wf _ _ _ fun h1 s1=>?_
 simp -implicitDefEqProofs(maxSteps:=999999)(disch:=first|with_reducible rfl|omega|(simp only[nA,nS,nD]<;>omega)|fail)only[go_sem]
 exact⟨rfl,s.trans s1⟩
theorem check8_ev {h:H}(hw:h.wf){c:Ck}(hb:c.bd=true):E (.fn 56 [] []) [.agg (encC c)] h fun u h'=>u=.bool c.sm∧h.Sub h':=by
 simp only[Ck.bd,within,Bool.and_eq_true,inB_iff] at hb
 refine Ev_body (fd:=c56) rfl rfl rfl ?_
 have s:h.Sub (h.add (.cells .rw [.int .i64 c.sl,.int .i64 c.sh,.int .i64 c.gl,.int .i64 c.gh])):=(by repeat(first|assumption|exact H.Sub.refl (by assumption)|refine H.Sub.add ?_ _|refine H.Sub.set ?_ (by first|omega|(simp only[H.next_add,H.next_set,H.next_del]<;>omega)) (by first|omega|(simp only[H.next_add,H.next_set,H.next_del]<;>omega)) (by assumption) _))
 have w1:wr .i64 (c.sh-c.sl)=c.sh-c.sl:=wr_in (by omega) (by omega)
 have w2:wr .i64 (c.gh-c.gl)=c.gh-c.gl:=wr_in (by omega) (by omega)
 by_cases h1:c.sh-c.sl≤4
 ·simp -implicitDefEqProofs(maxSteps:=999999)(disch:=first|with_reducible rfl|omega|(simp only[nA,nS,nD]<;>omega)|fail)only[c56,go_sem,encC,w1,w2,h1]
  exact⟨by simp[Ck.sm,h1],s⟩
 ·simp -implicitDefEqProofs(maxSteps:=999999)(disch:=first|with_reducible rfl|omega|(simp only[nA,nS,nD]<;>omega)|fail)only[c56,go_sem,encC,w1,w2,h1]
  exact⟨by simp[Ck.sm,h1],s⟩
theorem sz_no {a:At}(h:a.sz=false):(inB a.mins 1 240=false)∨(inB a.mins 1 240=true∧inB a.evs 1 4=false)∨(inB a.mins 1 240=true∧inB a.evs 1 4=true∧(3:Int)<(a.cks.length:Int))∨
  (inB a.mins 1 240=true∧inB a.evs 1 4=true∧¬(3:Int)<(a.cks.length:Int)∧(8:Int)<(a.rds.length:Int))∨(inB a.mins 1 240=true∧inB a.evs 1 4=true∧¬(3:Int)<(a.cks.length:Int)∧¬(8:Int)<(a.rds.length:Int)∧(4:Int)<(a.gps.length:Int)):=by
 cases h1:inB a.mins 1 240
 ·exact .inl rfl
 cases h2:inB a.evs 1 4
 ·exact .inr (.inl ⟨rfl,rfl⟩)
 by_cases h3:(3:Int)<(a.cks.length:Int)
 ·exact .inr (.inr (.inl ⟨rfl,rfl,h3⟩))
 by_cases h4:(8:Int)<(a.rds.length:Int)
 ·exact .inr (.inr (.inr (.inl ⟨rfl,rfl,h3,h4⟩)))
 refine .inr (.inr (.inr (.inr ⟨rfl,rfl,h3,h4,?_⟩)))
 simp only[At.sz,h1,h2,Bool.true_and,Bool.and_eq_false_iff,decide_eq_false_iff_not] at h
 omega
set_option maxHeartbeats 4000000 in
theorem check_ev {h:H}{v:V}{a:At}(hw:h.wf)(ha:AtIs h v a)(Q:V→H→Prop)(q:∀h',h.Sub h'→Q (.int .i64 (checkA a)) h'):Ev fnG fastA (.fn 27 [] []) [v] h Q:=by
 obtain⟨C,R,G,rfl,x⟩:=ha
 have hlC:=x.c.lenE
 have hlR:=x.r.lenE
 have hlG:=x.g.lenE
 refine Ev_body (fd:=c27) rfl rfl rfl ?_
 have s2:h.Sub ((h.add (.cells .rw (atV a C R G))).add (.cells .rw [.fn 25 [.agg (atV a C R G)] []])):=(by repeat(first|assumption|exact H.Sub.refl (by assumption)|refine H.Sub.add ?_ _|refine H.Sub.set ?_ (by first|omega|(simp only[H.next_add,H.next_set,H.next_del]<;>omega)) (by first|omega|(simp only[H.next_add,H.next_set,H.next_del]<;>omega)) (by assumption) _))
 have g1:((h.add (.cells .rw (atV a C R G))).add (.cells .rw [.fn 25 [.agg (atV a C R G)] []])).cells h.next=some (atV a C R G):=by simp -implicitDefEqProofs(maxSteps:=999999)(disch:=first|with_reducible rfl|omega|(simp only[nA,nS,nD]<;>omega)|fail)only[go_sem]
 have g2:((h.add (.cells .rw (atV a C R G))).add (.cells .rw [.fn 25 [.agg (atV a C R G)] []])).cells (h.next+1)=some [.fn 25 [.agg (atV a C R G)] []]:=by simp -implicitDefEqProofs(maxSteps:=999999)(disch:=first|with_reducible rfl|omega|(simp only[nA,nS,nD]<;>omega)|fail)only[go_sem]
 have nx:((h.add (.cells .rw (atV a C R G))).add (.cells .rw [.fn 25 [.agg (atV a C R G)] []])).next=h.next+2:=by simp only[H.next_add]
 obtain⟨h2,hh2⟩:∃h2,(h.add (.cells .rw (atV a C R G))).add (.cells .rw [.fn 25 [.agg (atV a C R G)] []])=h2:=⟨_,rfl⟩
 rw[hh2] at s2 g1 g2 nx
 cases hsz:a.sz with
 |false=>
  have e:checkA a=2:=by unfold checkA;rw[if_pos hsz]
  rw[e] at q
  rcases sz_no hsz with k|k|k|k|k
  all_goals
   simp -implicitDefEqProofs(maxSteps:=999999)(disch:=first|with_reducible rfl|omega|(simp only[nA,nS,nD]<;>omega)|fail)only[c27,go_sem,in_eq,k,hlC,hlR,hlG]
   rw[hh2]
   exact q _ s2
 |true=>
 have k:=hsz
 simp only[At.sz,Bool.and_eq_true,decide_eq_true_eq] at k
 have k3:¬(3:Int)<(a.cks.length:Int):=by omega
 have k4:¬(8:Int)<(a.rds.length:Int):=by omega
 have k5:¬(4:Int)<(a.gps.length:Int):=by omega
 have ke:=inB_iff.1 k.2.1
 simp -implicitDefEqProofs(maxSteps:=999999)(disch:=first|with_reducible rfl|omega|(simp only[nA,nS,nD]<;>omega)|fail)only[c27,go_sem,in_eq,k.1,k.2.1,k3,k4,k5,hlC,hlR,hlG]
 rw[hh2]
 refine(everyCk_ev (p:=Ck.bd) s2.wf (x.c.mono s2) fun c _ h1 hs=>check1_ev hs.wf c).mono fun u h3 hu=>?_
 obtain⟨rfl,s23⟩:=hu
 have s3:=s2.trans s23
 have g13:=s23.cells g1
 have g23:=s23.cells g2
 have l3:=s23.next
 have n1:a.sz≠false:=by rw[hsz];simp
 have i1:checkA a=if a.cks.all Ck.bd=false then 3
   else if a.rds.all Rd.bd=false∨a.gps.all Gp.bd=false then 3
   else if a.rds.all a.rdOk=false∨a.gps.all a.gpOk=false then 1
   else if a.cks.all Ck.ord=false∨a.gps.all Gp.ord=false then 4
   else if a.cks.all Ck.sm=false then 10
   else 0:=by unfold checkA;rw[if_neg n1]
 rw[i1] at q
 cases d1:a.cks.all Ck.bd with
 |false=>
  rw[if_pos d1] at q
  simp -implicitDefEqProofs(maxSteps:=999999)(disch:=first|with_reducible rfl|omega|(simp only[nA,nS,nD]<;>omega)|fail)only[go_sem]
  exact q _ s3
 |true=>
 rw[if_neg (by rw[d1];simp)] at q
 simp -implicitDefEqProofs(maxSteps:=999999)(disch:=first|with_reducible rfl|omega|(simp only[nA,nS,nD]<;>omega)|fail)only[go_sem,g13]
 refine(everyRd_ev (p:=Rd.bd) s3.wf (x.r.mono s3) fun c _ h1 hs=>check2_ev hs.wf c).mono fun u h4 hu=>?_
 obtain⟨rfl,s34⟩:=hu
 have s4:=s3.trans s34
 cases d2:a.rds.all Rd.bd with
 |false=>
  rw[if_pos (.inl d2)] at q
  simp -implicitDefEqProofs(maxSteps:=999999)(disch:=first|with_reducible rfl|omega|(simp only[nA,nS,nD]<;>omega)|fail)only[go_sem]
  exact q _ s4
 |true=>
 have g14:=s34.cells g13
 simp -implicitDefEqProofs(maxSteps:=999999)(disch:=first|with_reducible rfl|omega|(simp only[nA,nS,nD]<;>omega)|fail)only[go_sem,g14]
 refine(everyGp_ev (p:=Gp.bd) s4.wf (x.g.mono s4) fun c _ h1 hs=>check3_ev hs.wf c).mono fun u h5 hu=>?_
 obtain⟨rfl,s45⟩:=hu
 have s5:=s4.trans s45
 cases d3:a.gps.all Gp.bd with
 |false=>
  rw[if_pos (.inr d3)] at q
  simp -implicitDefEqProofs(maxSteps:=999999)(disch:=first|with_reducible rfl|omega|(simp only[nA,nS,nD]<;>omega)|fail)only[go_sem]
  exact q _ s5
 |true=>
 rw[if_neg (by rw[d2,d3];simp)] at q
 have s35:=s34.trans s45
 have g15:=s35.cells g13
 have g25:=s35.cells g23
 have l5:=s35.next
 simp -implicitDefEqProofs(maxSteps:=999999)(disch:=first|with_reducible rfl|omega|(simp only[nA,nS,nD]<;>omega)|fail)only[go_sem,g15]
 refine(everyRd_ev (p:=a.rdOk) s5.wf (x.r.mono s5) fun c _ h1 hs=>check4_ev hs.wf (x.mono (s5.trans hs)) (by omega) (hs.cells g15) (hs.cells g25) (by have:=hs.next;omega) (by have:=hs.next;omega) c).mono fun u h6 hu=>?_
 obtain⟨rfl,s56⟩:=hu
 have s6:=s5.trans s56
 cases d4:a.rds.all a.rdOk with
 |false=>
  rw[if_pos (.inl d4)] at q
  simp -implicitDefEqProofs(maxSteps:=999999)(disch:=first|with_reducible rfl|omega|(simp only[nA,nS,nD]<;>omega)|fail)only[go_sem]
  exact q _ s6
 |true=>
 have g16:=s56.cells g15
 have g26:=s56.cells g25
 have l6:=s56.next
 simp -implicitDefEqProofs(maxSteps:=999999)(disch:=first|with_reducible rfl|omega|(simp only[nA,nS,nD]<;>omega)|fail)only[go_sem,g16]
 refine(everyGp_ev (p:=a.gpOk) s6.wf (x.g.mono s6) fun c _ h1 hs=>check5_ev hs.wf (by omega) (hs.cells g26) (by have:=hs.next;omega) c).mono fun u h7 hu=>?_
 obtain⟨rfl,s67⟩:=hu
 have s7:=s6.trans s67
 cases d5:a.gps.all a.gpOk with
 |false=>
  rw[if_pos (.inr d5)] at q
  simp -implicitDefEqProofs(maxSteps:=999999)(disch:=first|with_reducible rfl|omega|(simp only[nA,nS,nD]<;>omega)|fail)only[go_sem]
  exact q _ s7
 |true=>
 rw[if_neg (by rw[d4,d5];simp)] at q
 have g17:=s67.cells g16
 simp -implicitDefEqProofs(maxSteps:=999999)(disch:=first|with_reducible rfl|omega|(simp only[nA,nS,nD]<;>omega)|fail)only[go_sem,g17]
 refine(everyCk_ev (p:=Ck.ord) s7.wf (x.c.mono s7) fun c _ h1 hs=>check6_ev hs.wf c).mono fun u h8 hu=>?_
 obtain⟨rfl,s78⟩:=hu
 have s8:=s7.trans s78
 cases d6:a.cks.all Ck.ord with
 |false=>
  rw[if_pos (.inl d6)] at q
  simp -implicitDefEqProofs(maxSteps:=999999)(disch:=first|with_reducible rfl|omega|(simp only[nA,nS,nD]<;>omega)|fail)only[go_sem]
  exact q _ s8
 |true=>
 have g18:=s78.cells g17
 simp -implicitDefEqProofs(maxSteps:=999999)(disch:=first|with_reducible rfl|omega|(simp only[nA,nS,nD]<;>omega)|fail)only[go_sem,g18]
 refine(everyGp_ev (p:=Gp.ord) s8.wf (x.g.mono s8) fun c _ h1 hs=>check7_ev hs.wf c).mono fun u h9 hu=>?_
 obtain⟨rfl,s89⟩:=hu
 have s9:=s8.trans s89
 cases d7:a.gps.all Gp.ord with
 |false=>
  rw[if_pos (.inr d7)] at q
  simp -implicitDefEqProofs(maxSteps:=999999)(disch:=first|with_reducible rfl|omega|(simp only[nA,nS,nD]<;>omega)|fail)only[go_sem]
  exact q _ s9
 |true=>
 rw[if_neg (by rw[d6,d7];simp)] at q
 have g19:=s89.cells g18
 simp -implicitDefEqProofs(maxSteps:=999999)(disch:=first|with_reducible rfl|omega|(simp only[nA,nS,nD]<;>omega)|fail)only[go_sem,g19]
 refine(everyCk_ev (p:=Ck.sm) s9.wf (x.c.mono s9) fun c hc h1 hs=>check8_ev hs.wf (List.all_eq_true.1 d1 c hc)).mono fun u hA hu=>?_
 obtain⟨rfl,s9A⟩:=hu
 have sA:=s9.trans s9A
 cases d8:a.cks.all Ck.sm with
 |false=>
  rw[if_pos d8] at q
  simp -implicitDefEqProofs(maxSteps:=999999)(disch:=first|with_reducible rfl|omega|(simp only[nA,nS,nD]<;>omega)|fail)only[go_sem]
  exact q _ sA
 |true=>
 rw[if_neg (by rw[d8];simp)] at q
 simp -implicitDefEqProofs(maxSteps:=999999)(disch:=first|with_reducible rfl|omega|(simp only[nA,nS,nD]<;>omega)|fail)only[go_sem]
 exact q _ sA
end Go.Ab.Tryz
namespace Go.Ab
def low (L:List Int)(a b:Nat)(v:Int):List Int:=L.set (5*a+b) (min (mg L a b) v)
theorem low_len (L:List Int)(a b:Nat)(v:Int):(low L a b v).length=L.length:=by simp[low]
theorem mg_low {L:List Int}(hL:L.length=25){a b:Nat}(ha:a<5)(hb:b<5)(v:Int)(x y:Nat)(hx:x<5)(hy:y<5):mg (low L a b v) x y=if x=a∧y=b then min (mg L a b) v else mg L x y:=by
 unfold low
 generalize min (mg L a b) v=w
 unfold mg
 rw[List.getD_eq_getElem?_getD,List.getD_eq_getElem?_getD,List.getElem?_set]
 by_cases h:x=a∧y=b
 ·obtain⟨rfl,rfl⟩:=h
  have:5*x+y<25:=by omega
  simp[hL,this]
 ·rw[if_neg h]
  have:5*a+b≠5*x+y:=by omega
  simp[this]
theorem In5.low {B:Int}{L:List Int}(h:In5 B L){a b:Nat}(ha:a<5)(hb:b<5){v:Int}(hv: -B≤v):In5 B (low L a b v):=by
 refine⟨by rw[low_len];exact h.len,fun x y hx hy=>?_,fun x y hx hy=>?_⟩
 ·rw[mg_low h.len ha hb v x y hx hy]
  have:=h.hi x y hx hy
  split
  ·rename_i e;obtain⟨rfl,rfl⟩:=e;omega
  ·exact this
 ·rw[mg_low h.len ha hb v x y hx hy]
  have:=h.lo x y hx hy
  split
  ·rename_i e;obtain⟨rfl,rfl⟩:=e;omega
  ·exact this
theorem Sol_low {L:List Int}(hL:L.length=25){a b:Nat}(ha:a<5)(hb:b<5){v:Int}{x:Nat→Int}:Sol x (low L a b v)↔Sol x L∧x b-x a≤v:=by
 constructor
 ·intro h
  refine⟨fun c d hc hd=>?_,?_⟩
  ·have:=h c d hc hd
   rw[mg_low hL ha hb v c d hc hd] at this
   split at this
   ·rename_i e;obtain⟨rfl,rfl⟩:=e;omega
   ·exact this
  ·have:=h a b ha hb
   rw[mg_low hL ha hb v a b ha hb,if_pos ⟨rfl,rfl⟩] at this
   omega
 ·intro⟨h,h1⟩ c d hc hd
  rw[mg_low hL ha hb v c d hc hd]
  have:=h c d hc hd
  split
  ·rename_i e;obtain⟨rfl,rfl⟩:=e;omega
  ·exact this
def bsU (M:Int)(a b:Nat):List Int:=(List.range 25).map fun k=>if k/5<a then(if k%5=4∨k/5=k%5 then 0 else M) else if k/5=a∧k%5<b then M else 0
theorem bsU_len (M:Int)(a b:Nat):(bsU M a b).length=25:=by simp[bsU]
theorem bsU_get (M:Int)(a b k:Nat)(hk:k<25):(bsU M a b)[k]? =some (if k/5<a then(if k%5=4∨k/5=k%5 then 0 else M) else if k/5=a∧k%5<b then M else 0):=by
 rw[bsU,List.getElem?_map,List.getElem?_range hk];rfl
theorem bsU_step (M:Int){a b:Nat}(ha:a<5)(hb:b<5):(bsU M a b).set (a*5+b*1) M=bsU M a (b+1):=by
 refine List.ext_getElem? fun k=>?_
 rcases Nat.lt_or_ge k 25 with hk|hk
 ·rw[List.getElem?_set,bsU_get M a b k hk,bsU_get M a (b+1) k hk,bsU_len]
  by_cases h:a*5+b*1=k
  ·subst h
   rw[if_pos rfl,if_pos hk,if_neg (by omega),if_pos (by omega)]
  ·rw[if_neg h]
   by_cases h1:k/5<a
   ·rw[if_pos h1,if_pos h1]
   ·rw[if_neg h1,if_neg h1]
    by_cases h2:k/5=a∧k%5<b
    ·rw[if_pos h2,if_pos (by omega)]
    ·rw[if_neg h2,if_neg (by omega)]
 ·rw[List.getElem?_eq_none (by rw[List.length_set,bsU_len];exact hk),List.getElem?_eq_none (by rw[bsU_len];exact hk)]
theorem bsU_row (M:Int){a:Nat}(ha:a<5):((bsU M a 5).set (a*5+4*1) 0).set (a*5+a*1) 0=bsU M (a+1) 0:=by
 refine List.ext_getElem? fun k=>?_
 rcases Nat.lt_or_ge k 25 with hk|hk
 ·rw[List.getElem?_set,List.getElem?_set,bsU_get M a 5 k hk,bsU_get M (a+1) 0 k hk,List.length_set,bsU_len]
  by_cases h:a*5+a*1=k
  ·subst h
   rw[if_pos rfl,if_pos hk,if_pos (show(a*5+a*1)/5<a+1 by omega),if_pos (show(a*5+a*1)%5=4∨(a*5+a*1)/5=(a*5+a*1)%5 by omega)]
  ·rw[if_neg h]
   by_cases h3:a*5+4*1=k
   ·subst h3
    rw[if_pos rfl,if_pos hk,if_pos (show(a*5+4*1)/5<a+1 by omega),if_pos (show(a*5+4*1)%5=4∨(a*5+4*1)/5=(a*5+4*1)%5 by omega)]
   ·rw[if_neg h3]
    by_cases h1:k/5<a
    ·rw[if_pos h1,if_pos (show k/5<a+1 by omega)]
    ·rw[if_neg h1]
     by_cases h2:k/5=a
     ·rw[if_pos (show k/5=a∧k%5<5 by omega),if_pos (show k/5<a+1 by omega),if_neg (show¬(k%5=4∨k/5=k%5) by omega)]
     ·rw[if_neg (show¬(k/5=a∧k%5<5) by omega),if_neg (show¬k/5<a+1 by omega),if_neg (show¬(k/5=a+1∧k%5<0) by omega)]
 ·rw[List.getElem?_eq_none (by rw[List.length_set,List.length_set,bsU_len];exact hk),List.getElem?_eq_none (by rw[bsU_len];exact hk)]
def bsL (M:Int):List Int:=bsU M 5 0
theorem mg_bs (M:Int){a b:Nat}(ha:a<5)(hb:b<5):mg (bsL M) a b=if b=4∨a=b then 0 else M:=by
 unfold mg bsL
 rw[List.getD_eq_getElem?_getD,bsU_get _ _ _ _ (by omega),if_pos (by omega)]
 rw[show(5*a+b)%5=b by omega,show(5*a+b)/5=a by omega];rfl
theorem bs_in {M:Int}(h0:0≤M)(h1:M≤240):In5 240 (bsL M):=
 ⟨bsU_len _ _ _,fun a b ha hb=>by rw[mg_bs M ha hb];split<;>omega,fun a b ha hb=>by rw[mg_bs M ha hb];split<;>omega⟩
theorem Sol_bs {M:Int}{x:Nat→Int}(hx:x 4=0):Sol x (bsL M)↔(∀a,a<4→0≤x a∧x a≤M)∧(∀a b,a<4→b<4→a≠b→x b-x a≤M)∧(0≤M∨True):=by
 constructor
 ·intro h
  refine⟨fun a ha=>?_,fun a b ha hb hab=>?_,.inr trivial⟩
  ·have h1:=h a 4 (by omega) (by omega)
   have h2:=h 4 a (by omega) (by omega)
   rw[mg_bs M (by omega) (by omega),if_pos (.inl rfl)] at h1
   rw[mg_bs M (by omega) (by omega),if_neg (by omega)] at h2
   omega
  ·have h1:=h a b (by omega) (by omega)
   rwa[mg_bs M (by omega) (by omega),if_neg (by omega)] at h1
 ·intro⟨h1,h2,_⟩ a b ha hb
  rw[mg_bs M ha hb]
  by_cases hb4:b=4
  ·subst hb4
   rw[if_pos (.inl rfl)]
   by_cases ha4:a=4
   ·subst ha4;omega
   ·have:=h1 a (by omega);omega
  ·by_cases hab:a=b
   ·subst hab;rw[if_pos (.inr rfl)];omega
   ·rw[if_neg (by omega)]
    by_cases ha4:a=4
    ·subst ha4;have:=h1 b (by omega);omega
    ·exact h2 a b (by omega) (by omega) hab
end Go.Ab
namespace Go.Ab.Tryz
open Go.Proofs
def gapL (L:List Int)(g:Gp):List Int:=low (low L g.fr.toNat g.to.toNat g.hi) g.to.toNat g.fr.toNat (-g.lo)
def freeL (a:At):List Int:=a.gps.foldl gapL (bsL a.mins)
def rdL (L:List Int)(e:Nat)(s:Int × Int):List Int:=low (low L 4 e s.2) e 4 (-s.1)
def readsL (a:At)(cnt:Nat→Bool)(k:Int)(x:Int × Int):List Rd→Nat→List Int→List Int × Bool
 |[],_,L=>(L,true)
 |r::l,i,L=>if r.ck≠k∨cnt i=false then readsL a cnt k x l (i+1) L
  else if(whn x.1 x.2 r.sh (a.mins.toNat+1)).2<(whn x.1 x.2 r.sh (a.mins.toNat+1)).1 then(L,false)
  else readsL a cnt k x l (i+1) (rdL L r.ev.toNat (whn x.1 x.2 r.sh (a.mins.toNat+1)))
def readL (a:At)(cnt:Nat→Bool)(k:Int)(x:Int × Int)(L:List Int):List Int × Bool:=
 if(readsL a cnt k x a.rds 0 L).2=true then clos (readsL a cnt k x a.rds 0 L).1 else((readsL a cnt k x a.rds 0 L).1,false)
end Go.Ab.Tryz
namespace Go.Ab.Tryz
open Go.Proofs
abbrev spV (s:Int × Int):V:=.agg [.int .i64 s.1,.int .i64 s.2]
def MapOk (a:At)(r:Rd)(l:List ((Int × Int) × V)):Prop:=∀c,a.cks[r.ck.toNat]? =some c→∀s g:Int,c.sl≤s→s≤c.sh→c.gl≤g→g≤c.gh→lkP (s,g) l=some (spV (whn s g r.sh (a.mins.toNat+1)))
structure Dk (h:H)(d:Nat)(a:At)(C R G f W:V)(ms:List Nat):Prop where
 dk:h.get d=some (.cells .rw [.int .i64 a.mins,.int .i64 a.evs,C,R,G,f,W])
 x:AtAt h C R G a
 w:SlAt h W 1 (ms.map fun b=>[V.map b])
 len:ms.length=a.rds.length
 maps:∀i (hi:i<a.rds.length),∃b l,ms[i]? =some b∧h.get b=some (.map (encP l))∧MapOk a a.rds[i] l
theorem Dk.mono {h h':H}{d:Nat}{a:At}{C R G f W:V}{ms:List Nat}(k:Dk h d a C R G f W ms)(s:h.Sub h'):Dk h' d a C R G f W ms:=
 ⟨s.get k.dk,k.x.mono s,k.w.mono s,k.len,fun i hi=>let⟨b,l,e,m,o⟩:=k.maps i hi;⟨b,l,e,s.get m,o⟩⟩
theorem least1_ev {h:H}(hw:h.wf)(n v:Int)(Q:V→H→Prop)(q:∀h2,h.Sub h2→Q (.int .i64 (min n v)) h2):
  Ev fnG fastA (.fn 42 [] []) [.int .i64 n,.sl h.next 0 1 (.fix 1)] (h.add (.cells .rw [.int .i64 v])) Q:=by
 have hx:SlAt (h.add (.cells .rw [.int .i64 v])) (.sl h.next 0 1 (.fix 1)) 1 ([v].map fun n=>[iv n]):=SlAt.new _ rfl rfl rfl (by simp) (by simp)
 refine least_ev rfl (H.wf_add hw _) hx n _ fun h2 s2=>?_
 exact q h2 (((H.Sub.refl hw).add _).trans s2)
theorem iaa54 (sz b o:Nat):q_iaa 5 sz (.ptr b o) (.int .i64 4)=some (.ptr b (o+4*sz)):=q_iaa_ptr (nat_num 4) (by decide)
theorem zero25 (M:Int):[V.int .i64 0,.int .i64 0,.int .i64 0,.int .i64 0,.int .i64 0,.int .i64 0,.int .i64 0,.int .i64 0,.int .i64 0,.int .i64 0,.int .i64 0,.int .i64 0,.int .i64 0,.int .i64 0,.int .i64 0,.int .i64 0,.int .i64 0,.int .i64 0,.int .i64 0,.int .i64 0,.int .i64 0,.int .i64 0,.int .i64 0,.int .i64 0,.int .i64 0]=(bsU M 0 0).map iv:=rfl
theorem low_eq (L:List Int)(a b:Nat)(v:Int):L.set (a*5+b*1) (min (mg L a b) v)=low L a b v:=by rw[low,show a*5+b*1=5*a+b by omega]
theorem Right.gap {a:At}(r:Right a){g:Gp}(hg:g∈a.gps):∃f t:Nat,g.fr=f∧g.to=t∧f<4∧t<4∧ -240≤g.lo∧g.lo≤240∧ -240≤g.hi∧g.hi≤240:=by
 have h1:=r.go g hg
 have h2:=r.gb g hg
 have h3:=r.evs
 simp only[At.gpOk,At.evB,Bool.and_eq_true,inB_iff] at h1
 simp only[Gp.bd,within,Bool.and_eq_true,inB_iff] at h2
 exact⟨g.fr.toNat,g.to.toNat,by omega,by omega,by omega,by omega,h2.1.1,h2.1.2,h2.2.1,h2.2.2⟩
theorem gapL_in {L:List Int}(h:In5 240 L){a:At}(r:Right a){g:Gp}(hg:g∈a.gps):In5 240 (gapL L g):=by
 obtain⟨f,t,e1,e2,hf,ht,h1,h2,h3,h4⟩:=r.gap hg
 unfold gapL
 rw[e1,e2]
 exact(h.low (by omega) (by omega) h3).low (by omega) (by omega) (by omega)
theorem gaps_in {a:At}(r:Right a):∀{l:List Gp} {L:List Int},(∀g∈l,g∈a.gps)→In5 240 L→In5 240 (l.foldl gapL L)
 |[],L,_,h=>h
 |g::l,L,hl,h=>by
  rw[List.foldl_cons]
  exact gaps_in r (fun x hx=>hl x (by simp[hx])) (gapL_in h r (hl g (by simp)))
theorem freeL_in {a:At}(r:Right a):In5 240 (freeL a):=gaps_in r (fun _ h=>h) (bs_in (by have:=r.mins;omega) (by have:=r.mins;omega))
structure FrI (h:H)(L:List Int)(Z:List V)(tm:T V)(h':H):Prop where
 sub:h.Sub h'
 nx:h.next+1<h'.next
 gr:h'.get h.next=some (.cells .rw Z)
 gf:h'.get (h.next+1)=some (.cells .rw (L.map iv))
 e2:(Opd.t 2).ev tm=.ptr h.next 0
 e3:(Opd.t 3).ev tm=.ptr (h.next+1) 0
set_option maxHeartbeats 4000000 in
theorem free_ev {h:H}(hw:h.wf){d:Nat}{a:At}{C R G f W:V}{ms:List Nat}(k:Dk h d a C R G f W ms)(r:Right a)(Q:V→H→Prop)(q:∀h',h.Sub h'→Q (.agg ((freeL a).map iv)) h'):
  Ev fnG fastA (.fn 82 [] []) [.ptr d 0] h Q:=by
 have hd:=hw _ _ k.dk
 have hG:=k.x.g.lenE
 have hGb:=k.x.g.boundE
 obtain⟨M,hM⟩:∃M,a.mins=M:=⟨_,rfl⟩
 refine Ev_body (fd:=c82) rfl rfl rfl ?_
 have h55:¬(((5:Nat):Int)<5):=by omega
 simp -implicitDefEqProofs(maxSteps:=999999)(disch:=first|with_reducible rfl|omega|(simp only[nA,nS,nD]<;>omega)|fail)only[c82,go_sem]
 rw[zero25 M]
 obtain⟨Z,hZ,lZ⟩:∃Z:List Int,(bsU M 0 0).map iv=Z.map iv∧Z.length=25:=⟨_,rfl,bsU_len _ _ _⟩
 have f0:∀tm:T V,(Opd.t 2).ev tm=.ptr h.next 0→(Opd.t 3).ev tm=.ptr (h.next+1) 0→FrI h (bsU M 0 0) (Z.map iv) tm ((h.add (.cells .rw ((bsU M 0 0).map iv))).add (.cells .rw ((bsU M 0 0).map iv))):=fun tm a b=>
  ⟨(by repeat(first|assumption|exact H.Sub.refl (by assumption)|refine H.Sub.add ?_ _|refine H.Sub.set ?_ (by first|omega|(simp only[H.next_add,H.next_set,H.next_del]<;>omega)) (by first|omega|(simp only[H.next_add,H.next_set,H.next_del]<;>omega)) (by assumption) _)),by simp only[H.next_add];omega,by rw[hZ];simp -implicitDefEqProofs(maxSteps:=999999)(disch:=first|with_reducible rfl|omega|(simp only[nA,nS,nD]<;>omega)|fail)only[go_sem],by simp -implicitDefEqProofs(maxSteps:=999999)(disch:=first|with_reducible rfl|omega|(simp only[nA,nS,nD]<;>omega)|fail)only[go_sem],a,b⟩
 refine W_count 5 (fun i s=>∃tm h',s=⟨tm,h',[]⟩∧FrI h (bsU M i 0) (Z.map iv) tm h'∧(Opd.t 0).ev tm=.ptr d 0∧(Opd.t 8).ev tm=.int .i64 (i:Int)) ?_ ?_ (i:=0) (Nat.zero_le _)
  ⟨_,_,rfl,f0 _ (by simp[ev_c,ev_put]<;>rfl) (by simp[ev_c,ev_put]<;>rfl),(by simp[ev_c,ev_put]<;>rfl),(by simp[ev_c,ev_put]<;>rfl)⟩
 ·rintro i s hi ⟨tm,h1,rfl,c,e0,e8⟩
  have hi':(i:Int)<5:=by omega
  simp -implicitDefEqProofs(maxSteps:=999999)(disch:=first|with_reducible rfl|omega|(simp only[nA,nS,nD]<;>omega)|fail)only[go_sem,e0,e8,hi']
  refine W_count 5 (fun j s=>∃tm h',s=⟨tm,h',[]⟩∧FrI h (bsU M i j) (Z.map iv) tm h'∧(Opd.t 0).ev tm=.ptr d 0∧(Opd.t 8).ev tm=.int .i64 (i:Int)∧(Opd.t 4).ev tm=.int .i64 (i:Int)∧(Opd.t 11).ev tm=.int .i64 (j:Int)) ?_ ?_ (i:=0) (Nat.zero_le _)
   ⟨_,_,rfl,⟨c.sub,c.nx,c.gr,c.gf,(by simp[ev_c,ev_put,c.e2]<;>rfl),(by simp[ev_c,ev_put,c.e3]<;>rfl)⟩,(by simp[ev_c,ev_put,e0]<;>rfl),(by simp[ev_c,ev_put,e8]<;>rfl),(by simp[ev_c,ev_put]<;>rfl),(by simp[ev_c,ev_put]<;>rfl)⟩
  ·rintro j s hj ⟨tm,h2,rfl,c,e0,e8,e4,e11⟩
   have hj':(j:Int)<5:=by omega
   have gd:=c.sub.get k.dk
   rw[hM] at gd
   have nx:=c.nx
   have hp:=putN_iv (L:=bsU M i j) (k:=i*5+j*1) (by rw[bsU_len];omega) M
   rw[bsU_step M hi hj] at hp
   simp -implicitDefEqProofs(maxSteps:=999999)(disch:=first|with_reducible rfl|omega|(simp only[nA,nS,nD]<;>omega)|fail)only[go_sem,e0,e8,e4,e11,c.e3,hj',cells_of gd,iaa5,c.gf,hp,wr_succ]
   exact⟨_,_,rfl,⟨c.sub.set (by omega) (by omega) hw _,by rw[H.next_set];omega,by rw[get_set_other (by omega)];exact c.gr,get_set_same rfl,(by simp[ev_c,ev_put,c.e2]<;>rfl),(by simp[ev_c,ev_put,c.e3]<;>rfl)⟩,(by simp[ev_c,ev_put,e0]<;>rfl),(by simp[ev_c,ev_put,e8]<;>rfl),(by simp[ev_c,ev_put,e4]<;>rfl),(by simp[ev_c,ev_put]<;>rfl)⟩
  ·rintro s ⟨tm,h2,rfl,c,e0,e8,e4,e11⟩
   have nx:=c.nx
   have hp1:=putN_iv (L:=bsU M i 5) (k:=i*5+4*1) (by rw[bsU_len];omega) 0
   have hp2:=putN_iv (L:=(bsU M i 5).set (i*5+4*1) 0) (k:=i*5+i*1) (by rw[List.length_set,bsU_len];omega) 0
   rw[bsU_row M hi] at hp2
   simp -implicitDefEqProofs(maxSteps:=999999)(disch:=first|with_reducible rfl|omega|(simp only[nA,nS,nD]<;>omega)|fail)only[go_sem,e0,e8,e4,e11,c.e3,h55,iaa5,iaa54,c.gf,hp1,hp2,wr_succ]
   exact⟨_,_,rfl,⟨c.sub.set (by omega) (by omega) hw _,by rw[H.next_set];omega,by rw[get_set_other (by omega)];exact c.gr,get_set_same rfl,(by simp[ev_c,ev_put,c.e2]<;>rfl),(by simp[ev_c,ev_put,c.e3]<;>rfl)⟩,(by simp[ev_c,ev_put,e0]<;>rfl),(by simp[ev_c,ev_put]<;>rfl)⟩
 ·rintro s ⟨tm,h1,rfl,c,e0,e8⟩
  have gd:=c.sub.get k.dk
  have c:FrI h (bsL M) (Z.map iv) tm h1:=c
  simp -implicitDefEqProofs(maxSteps:=999999)(disch:=first|with_reducible rfl|omega|(simp only[nA,nS,nD]<;>omega)|fail)only[go_sem,e0,e8,h55,cells_of gd,hG]
  refine W_count a.gps.length (fun i s=>∃tm h',s=⟨tm,h',[]⟩∧FrI h ((a.gps.take i).foldl gapL (bsL M)) (Z.map iv) tm h'∧(Opd.t 36).ev tm=G∧(Opd.t 37).ev tm=.int .i64 (a.gps.length:Int)∧(Opd.t 38).ev tm=.int .i64 (i:Int)) ?_ ?_ (i:=0) (Nat.zero_le _)
   ⟨_,_,rfl,⟨c.sub,c.nx,c.gr,c.gf,(by simp[ev_c,ev_put,c.e2]<;>rfl),(by simp[ev_c,ev_put,c.e3]<;>rfl)⟩,(by simp[ev_c,ev_put]<;>rfl),(by simp[ev_c,ev_put]<;>rfl),(by simp[ev_c,ev_put]<;>rfl)⟩
  ·rintro i s hi ⟨tm,h2,rfl,c,e36,e37,e38⟩
   have hi':(i:Int)<(a.gps.length:Int):=by omega
   obtain⟨b,o,cc,cs,e,hc,hq,hg,hn,hn0⟩:=(k.x.g.mono c.sub).at hi
   obtain⟨g,hgi⟩:∃g,a.gps[i]=g:=⟨_,rfl⟩
   have hmem:g∈a.gps:=by rw[←hgi];exact List.getElem_mem hi
   obtain⟨fr,to,ef,et,hf,ht,b1,b2,b3,b4⟩:=r.gap hmem
   rw[hgi] at hg
   simp only[encG,ef,et] at hg
   obtain⟨L,hL⟩:∃L,(a.gps.take i).foldl gapL (bsL M)=L:=⟨_,rfl⟩
   have hin:In5 240 L:=by
    rw[←hL]
    exact gaps_in r (fun x hx=>List.mem_of_mem_take hx) (bs_in (by have:=r.mins;omega) (by have:=r.mins;omega))
   have lL:=hin.len
   have gf:=c.gf
   rw[hL] at gf
   have nx:=c.nx
   have hw2:=c.sub.wf
   have w1:wr .i64 (0-g.lo)= -g.lo:=by rw[wr_in (by omega) (by omega)];omega
   have sB:=(H.Sub.refl hw2).add (.cells .rw [.int .i64 (fr:Int),.int .i64 (to:Int),.int .i64 g.lo,.int .i64 g.hi])
   have nB:=H.next_add h2 (.cells .rw [.int .i64 (fr:Int),.int .i64 (to:Int),.int .i64 g.lo,.int .i64 g.hi])
   have gB:(h2.add (.cells .rw [.int .i64 (fr:Int),.int .i64 (to:Int),.int .i64 g.lo,.int .i64 g.hi])).get h2.next=some (.cells .rw [.int .i64 (fr:Int),.int .i64 (to:Int),.int .i64 g.lo,.int .i64 g.hi]):=get_add_new rfl
   obtain⟨hB,hhB⟩:∃hB,h2.add (.cells .rw [.int .i64 (fr:Int),.int .i64 (to:Int),.int .i64 g.lo,.int .i64 g.hi])=hB:=⟨_,rfl⟩
   rw[hhB] at sB nB gB
   have gfB:=sB.get gf
   subst e
   simp -implicitDefEqProofs(maxSteps:=999999)(disch:=first|with_reducible rfl|omega|(simp only[nA,nS,nD]<;>omega)|fail)only[go_sem,e36,e37,e38,c.e3,hi',hq (nat_cst i),hc,hg,hhB,cells_of gB,iaa5,cells_of gfB,nth_mg lL (by omega:fr<5) (by omega:to<5)]
   refine least1_ev sB.wf _ _ _ fun h3 s3=>?_
   have gf3:=s3.get gfB
   have gB3:=s3.get gB
   have l3:=s3.next
   have hp:=putN_iv (L:=L) (k:=fr*5+to*1) (by omega) (min (mg L fr to) g.hi)
   rw[low_eq] at hp
   obtain⟨K,hK⟩:∃K,low L fr to g.hi=K:=⟨_,rfl⟩
   rw[hK] at hp
   have lK:K.length=25:=by rw[←hK,low_len];exact lL
   have s03:=(c.sub.trans sB).trans s3
   have s4:h.Sub (h3.set (h.next+1) (.cells .rw (K.map iv))):=s03.set (by omega) (by omega) hw _
   have gf4:(h3.set (h.next+1) (.cells .rw (K.map iv))).get (h.next+1)=some (.cells .rw (K.map iv)):=get_set_same rfl
   have gB4:(h3.set (h.next+1) (.cells .rw (K.map iv))).get h2.next=some (.cells .rw [.int .i64 (fr:Int),.int .i64 (to:Int),.int .i64 g.lo,.int .i64 g.hi]):=by rw[get_set_other (by omega)];exact gB3
   have gr4:(h3.set (h.next+1) (.cells .rw (K.map iv))).get h.next=some (.cells .rw (Z.map iv)):=by rw[get_set_other (by omega)];exact(sB.trans s3).get c.gr
   have n4:(h3.set (h.next+1) (.cells .rw (K.map iv))).next=h3.next:=H.next_set _ _ _
   simp -implicitDefEqProofs(maxSteps:=999999)(disch:=first|with_reducible rfl|omega|(simp only[nA,nS,nD]<;>omega)|fail)only[go_sem,e36,e37,e38,c.e3,iaa5,gf3,cells_of gf3,cells_of gB3,cells_of gB,cells_of gfB,nth_mg lL (by omega:fr<5) (by omega:to<5),hp]
   obtain⟨h4,hh4⟩:∃h4,h3.set (h.next+1) (.cells .rw (K.map iv))=h4:=⟨_,rfl⟩
   rw[hh4] at s4 gf4 gB4 gr4 n4
   simp -implicitDefEqProofs(maxSteps:=999999)(disch:=first|with_reducible rfl|omega|(simp only[nA,nS,nD]<;>omega)|fail)only[go_sem,hh4,e36,e37,e38,c.e3,iaa5,gf4,cells_of gf4,cells_of gB4,nth_mg lK (by omega:to<5) (by omega:fr<5),w1]
   refine least1_ev s4.wf _ _ _ fun h5 s5=>?_
   have gf5:=s5.get gf4
   have gB5:=s5.get gB4
   have l5:=s5.next
   have hp5:=putN_iv (L:=K) (k:=to*5+fr*1) (by omega) (min (mg K to fr) (-g.lo))
   rw[low_eq] at hp5
   have hfin:(a.gps.take (i+1)).foldl gapL (bsL M)=low K to fr (-g.lo):=by
    rw[List.take_succ_eq_append_getElem hi,List.foldl_append,hL,hgi]
    show gapL L g=_
    unfold gapL
    rw[ef,et,Int.toNat_natCast,Int.toNat_natCast,hK]
   simp -implicitDefEqProofs(maxSteps:=999999)(disch:=first|with_reducible rfl|omega|(simp only[nA,nS,nD]<;>omega)|fail)only[go_sem,e36,e37,e38,c.e3,iaa5,gf5,cells_of gf5,cells_of gB5,gf4,cells_of gf4,cells_of gB4,nth_mg lK (by omega:to<5) (by omega:fr<5),hp5,wr_succ]
   exact⟨_,_,rfl,⟨(s4.trans s5).set (by omega) (by omega) hw _,by rw[H.next_set];omega,by rw[get_set_other (by omega)];exact s5.get gr4,by rw[hfin];exact get_set_same rfl,(by simp[ev_c,ev_put,c.e2]<;>rfl),(by simp[ev_c,ev_put,c.e3]<;>rfl)⟩,(by simp[ev_c,ev_put,e36]<;>rfl),(by simp[ev_c,ev_put,e37]<;>rfl),(by simp[ev_c,ev_put]<;>rfl)⟩
  ·rintro s ⟨tm,h2,rfl,c,e36,e37,e38⟩
   rw[List.take_length,←hM] at c
   have gf:=c.gf
   have nx:=c.nx
   have hin:=freeL_in r
   have lL:(freeL a).length=25:=hin.len
   have gN:getN 0 25 ((freeL a).map iv)=some ((freeL a).map iv):=by rw[←lL];exact getN_iv _
   have lnN:lenN ((freeL a).map iv)=25:=by rw[lenN_iv,lL]
   have pN:h2.put h.next 0 ((freeL a).map iv)=some (h2.set h.next (.cells .rw ((freeL a).map iv))):=put_ints (L:=Z) c.gr (by omega) (fun e=>by rw[e] at lL;cases lL)
   have gf':h2.get (h.next+1)=some (.cells .rw ((freeL a).map iv)):=gf
   simp -implicitDefEqProofs(maxSteps:=999999)(disch:=first|with_reducible rfl|omega|(simp only[nA,nS,nD]<;>omega)|fail)only[go_sem,e36,e37,e38,c.e2,c.e3,Int.lt_irrefl,cells_of gf',gN,lnN,pN]
   exact q _ (c.sub.set (by omega) (by omega) hw _)
end Go.Ab.Tryz
