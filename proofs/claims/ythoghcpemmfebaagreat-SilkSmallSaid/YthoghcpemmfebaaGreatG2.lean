import Derived.KernelRfl
import Derived.Test.YthoghcpemmfebaaGreatOk
import Derived.Test.YthoghcpemmfebaaGreatAcA
import Derived.Test.YthoghcpemmfebaaGreatAbU
import Derived.Test.YthoghcpemmfebaaGreatSh
import Derived.Test.YthoghcpemmfebaaGreatAc2
import Derived.Test.YthoghcpemmfebaaGreatAc7
set_option linter.unusedSimpArgs false
set_option linter.unusedVariables false
theorem yba {p:Prop}(h:p:=by repeat(first|assumption|exact H.Sub.refl (by assumption)|refine H.Sub.add ?_ _|refine H.Sub.set ?_ (by first|omega|(simp only[H.next_add,H.next_set,H.next_del]<;>omega)) (by first|omega|(simp only[H.next_add,H.next_set,H.next_del]<;>omega)) (by assumption) _)):p:=h
theorem ybb {p:Prop}(h:p:=by simp[Zn,Zd]<;>rfl):p:=h
theorem ybc {p:Prop}(h:p:=by simp only[Zn,Zd, ↓reduceIte,Nat.reduceEqDiff]<;>rfl):p:=h
theorem ybd {p:Prop}(h:p:=by omega):p:=h
theorem ybe {p:Prop}(h:p:=by simp[Zn,Zd,e1]<;>rfl):p:=h
theorem ybf {p:Prop}(h:p:=by simp[Zn,Zd,e0]<;>rfl):p:=h
theorem ybg {p:Prop}(h:p:=by simp[Zn,Zd,e1']<;>rfl):p:=h
theorem ybh {p:Prop}(h:p:=by simp only[Zd];rfl):p:=h
theorem ybi {p:Prop}(h:p:=by simp only[Zd, ↓reduceIte,Nat.reduceEqDiff,hl]):p:=h
theorem ybj {p:Prop}(h:p:=by simp -implicitDefEqProofs(disch:=first|omega|simp only[nZ]<;>omega|fail)only[go_sem]):p:=h
theorem ybk {p:Prop}(h:p:=by simpa using hy.1 _ (List.mem_map_of_mem (List.getElem_mem hi2))):p:=h
theorem ybl {p:Prop}(h:p:=by simpa using hx.1 _ (List.mem_map_of_mem (List.getElem_mem hi))):p:=h
theorem ybm {p:Prop}(h:p:=by simp[Zn,Zd,e12]<;>rfl):p:=h
theorem ybn {p:Prop}(h:p:=by simp[Zn,Zd,e7]<;>rfl):p:=h
theorem ybo {p:Prop}(h:p:=by simp only[Zn,Zd, ↓reduceIte,Nat.reduceEqDiff,e0]<;>rfl):p:=h
theorem ybp {p:Prop}(h:p:=by simp only[Zn,Zd, ↓reduceIte,Nat.reduceEqDiff,e2]<;>rfl):p:=h
theorem ybq {p:Prop}(h:p:=by simp only[Zn,Zd, ↓reduceIte,Nat.reduceEqDiff,e1]<;>rfl):p:=h
theorem ybr {p:Prop}(h:p:=by rw[e]):p:=h
namespace Go.Ab.Tryz
open Go.Proofs
noncomputable def Zm (f:Nat):Option (List V→H→Option (V × H)):=match Nat.beq f 16 with
 |true=>some fun args h=>match args with
  |[]=>some (.bool true,h)
  |_=>none
 |false=>match Nat.beq f 24 with
  |true=>some sortF
  |false=>none
end Go.Ab.Tryz
namespace Go.Ab.Tryz
open Go.Proofs
theorem sort_callable:XI Tryz.prog 24:=⟨Tryz.f24,Tryz.func24,by kernel_rfl,by kernel_rfl⟩
theorem sortF_at {args:List V}{h h':H}{v:V}(hs:sortF args h=some (v,h')):Y6 Tryz.prog tyG 24 args h v h':=sortF_ok Tryz.lays189 hs
end Go.Ab.Tryz
namespace Go.Ab.Tryz
abbrev E (fv:V) (args:List V) (h:H) (Q:V→H→Prop):Prop:=Ev fnG Zm fv args h Q
abbrev Yy (h:H) (fv:V) (args:List V) (v:V):Prop:=Pure fnG Zm h fv args v
def encI (n:Int):List V:=[.ii n]
def XA {α:Type}(p:α→Bool):List α→Nat→Int
 |[],_=> -1
 |r::l,i=>if p r then(i:Int) else XA p l (i+1)
theorem VP {α:Type}{p:α→Bool}{l:List α}{i:Nat}(hi:i<l.length)(h:p l[i]=true):XA p (l.drop i) i=(i:Int):=by
 rw[List.drop_eq_getElem_cons hi];simp[XA,h]
theorem W7 {α:Type}{p:α→Bool}{l:List α}{i:Nat}(hi:i<l.length)(h:p l[i]=false):XA p (l.drop i) i=XA p (l.drop (i+1)) (i+1):=by
 rw[List.drop_eq_getElem_cons hi];simp[XA,h]
theorem Vf {α:Type}(p:α→Bool):∀(l:List α) (i:Nat),decide (0≤XA p l i)=l.any p
 |[],i=>by simp[XA]
 |r::l,i=>by
  have ih:=Vf p l (i+1)
  simp only[XA,List.any_cons]
  by_cases h:p r=true
  ·simp[h]
  ·simpa[h] using ih
theorem any_not {α:Type}(p:α→Bool)(l:List α):(!l.any fun a=> !p a)=l.all p:=by
 induction l with
 |nil=>rfl
 |cons a l ih=>simp only[List.any_cons,List.all_cons,←ih,Bool.not_or,Bool.not_not]
theorem indexFuncWg_ev {α:Type}{enc:α→List V}{l:List α}{p:α→Bool}{h:H}{x f:V}(hw:h.wf)(hx:Zk h x 4 (l.map enc))(hp:∀a∈l,Yy h f [.agg (enc a)] (.bool (p a))):
  E (.fn 146 [] []) [x,f] h fun v h'=>v=.ii (XA p l 0)∧h.Sub h':=by
 have hb:=hx.boundE
 refine Zf (fd:=c146) rfl rfl rfl ?_
 simp(disch:=omega)only[c146,go_sem,hx.lenE]
 refine Zi l.length (fun i s=>∃tm h',s=⟨tm,h',[]⟩∧h.Sub h'∧tm.E 0=x∧tm.E 1=f∧tm.E 7=.ii (l.length:Int)∧tm.E 8=.ii (i:Int)∧XA p l 0=XA p (l.drop i) i)
  ?_ ?_ (i:=0) (Nat.zero_le _) ⟨_,_,rfl,H.Sub.refl hw,ybb,ybb,ybb,ybh,rfl⟩
 ·rintro i s hi ⟨tm,h',rfl,hs,e0,e1,e7,e8,e9⟩
  have hi':(i:Int)<(l.length:Int):=by omega
  obtain⟨b,o,c,cs,rfl,hc,hq,hg,hn,hn0⟩:=(hx.mono hs).at hi
  simp(disch:=omega)only[go_sem,e0,e1,e7,e8,hi',hq (Zb i),hc,hg]
  refine(hp _ (List.getElem_mem hi)).use hs fun h2 hs2=>?_
  cases hpr:p l[i] with
  |true=>
   simp(disch:=omega)only[go_sem,e0,e1,e7,e8]
   exact⟨by rw[e9,VP hi hpr],hs.trans hs2⟩
  |false=>
   simp(disch:=omega)only[go_sem,e0,e1,e7,e8,Ze]
   exact⟨_,_,rfl,hs.trans hs2,ybf,ybe,ybn,ybb,by rw[e9,W7 hi hpr]⟩
 ·rintro s ⟨tm,h',rfl,hs,e0,e1,e7,e8,e9⟩
  simp(disch:=omega)only[go_sem,e0,e1,e7,e8,Int.lt_irrefl]
  exact⟨by rw[e9];simp[XA],hs⟩
theorem containsFuncWg_ev {α:Type}{enc:α→List V}{l:List α}{p:α→Bool}{h:H}{x f:V}(hw:h.wf)(hx:Zk h x 4 (l.map enc))(hp:∀a∈l,Yy h f [.agg (enc a)] (.bool (p a))):
  E (.fn 88 [] []) [x,f] h fun v h'=>v=.bool (l.any p)∧h.Sub h':=by
 refine Zf (fd:=c88) rfl rfl rfl ?_
 simp(disch:=omega)only[c88,go_sem]
 refine(indexFuncWg_ev hw hx hp).mono fun v h' hv=>?_
 obtain⟨rfl,hs⟩:=hv
 simp(disch:=omega)only[go_sem]
 exact⟨by rw[Vf],hs⟩
theorem everyWg_ev {α:Type}{enc:α→List V}{l:List α}{p:α→Bool}{h:H}{x:V}{g:FuncId}{u w:List V}(hw:h.wf)(hx:Zk h x 4 (l.map enc))(hp:∀a∈l,Yy h (.fn g u w) [.agg (enc a)] (.bool (p a))):
  E (.fn 69 [] []) [x,.fn g u w] h fun v h'=>v=.bool (l.all p)∧h.Sub h':=by
 refine Zf (fd:=c69) rfl rfl rfl ?_
 simp(disch:=omega)only[c69,go_sem]
 have hs1:h.Sub (h.add (.bk [.fn g u w])):=(H.Sub.refl hw).add _
 refine(containsFuncWg_ev (p:=fun a=> !p a) hs1.wf (hx.mono hs1) fun a ha h2 hs2=>?_).mono fun v h' hv=>?_
 ·have hc:h2.cells h.next=some [.fn g u w]:=hs2.cells (Zh rfl)
  have hl:h.next<h2.next:=by have:=hs2.next;rw[H.next_add] at this;omega
  refine Zf (fd:=c120) rfl rfl rfl ?_
  simp(disch:=omega)only[c120,go_sem,hc,W6 (hx.1 _ (List.mem_map_of_mem ha))]
  refine((hp a ha).mono hs1).use (hs2.add _) fun h3 hs3=>?_
  simp(disch:=omega)only[go_sem]
  exact(H.Sub.refl hs2.wf).add _ |>.trans hs3
 ·obtain⟨rfl,hs⟩:=hv
  simp(disch:=omega)only[go_sem]
  exact⟨by rw[any_not],hs1.trans hs⟩
theorem indexFuncLot_ev {α:Type}{enc:α→List V}{l:List α}{p:α→Bool}{h:H}{x f:V}(hw:h.wf)(hx:Zk h x 2 (l.map enc))(hp:∀a∈l,Yy h f [.agg (enc a)] (.bool (p a))):
  E (.fn 158 [] []) [x,f] h fun v h'=>v=.ii (XA p l 0)∧h.Sub h':=by
 have hb:=hx.boundE
 refine Zf (fd:=c158) rfl rfl rfl ?_
 simp(disch:=omega)only[c158,go_sem,hx.lenE]
 refine Zi l.length (fun i s=>∃tm h',s=⟨tm,h',[]⟩∧h.Sub h'∧tm.E 0=x∧tm.E 1=f∧tm.E 7=.ii (l.length:Int)∧tm.E 8=.ii (i:Int)∧XA p l 0=XA p (l.drop i) i)
  ?_ ?_ (i:=0) (Nat.zero_le _) ⟨_,_,rfl,H.Sub.refl hw,ybb,ybb,ybb,ybh,rfl⟩
 ·rintro i s hi ⟨tm,h',rfl,hs,e0,e1,e7,e8,e9⟩
  have hi':(i:Int)<(l.length:Int):=by omega
  obtain⟨b,o,c,cs,rfl,hc,hq,hg,hn,hn0⟩:=(hx.mono hs).at hi
  simp(disch:=omega)only[go_sem,e0,e1,e7,e8,hi',hq (Zb i),hc,hg]
  refine(hp _ (List.getElem_mem hi)).use hs fun h2 hs2=>?_
  cases hpr:p l[i] with
  |true=>
   simp(disch:=omega)only[go_sem,e0,e1,e7,e8]
   exact⟨by rw[e9,VP hi hpr],hs.trans hs2⟩
  |false=>
   simp(disch:=omega)only[go_sem,e0,e1,e7,e8,Ze]
   exact⟨_,_,rfl,hs.trans hs2,ybf,ybe,ybn,ybb,by rw[e9,W7 hi hpr]⟩
 ·rintro s ⟨tm,h',rfl,hs,e0,e1,e7,e8,e9⟩
  simp(disch:=omega)only[go_sem,e0,e1,e7,e8,Int.lt_irrefl]
  exact⟨by rw[e9];simp[XA],hs⟩
theorem containsFuncLot_ev {α:Type}{enc:α→List V}{l:List α}{p:α→Bool}{h:H}{x f:V}(hw:h.wf)(hx:Zk h x 2 (l.map enc))(hp:∀a∈l,Yy h f [.agg (enc a)] (.bool (p a))):
  E (.fn 121 [] []) [x,f] h fun v h'=>v=.bool (l.any p)∧h.Sub h':=by
 refine Zf (fd:=c121) rfl rfl rfl ?_
 simp(disch:=omega)only[c121,go_sem]
 refine(indexFuncLot_ev hw hx hp).mono fun v h' hv=>?_
 obtain⟨rfl,hs⟩:=hv
 simp(disch:=omega)only[go_sem]
 exact⟨by rw[Vf],hs⟩
theorem everyLot_ev {α:Type}{enc:α→List V}{l:List α}{p:α→Bool}{h:H}{x:V}{g:FuncId}{u w:List V}(hw:h.wf)(hx:Zk h x 2 (l.map enc))(hp:∀a∈l,Yy h (.fn g u w) [.agg (enc a)] (.bool (p a))):
  E (.fn 71 [] []) [x,.fn g u w] h fun v h'=>v=.bool (l.all p)∧h.Sub h':=by
 refine Zf (fd:=c71) rfl rfl rfl ?_
 simp(disch:=omega)only[c71,go_sem]
 have hs1:h.Sub (h.add (.bk [.fn g u w])):=(H.Sub.refl hw).add _
 refine(containsFuncLot_ev (p:=fun a=> !p a) hs1.wf (hx.mono hs1) fun a ha h2 hs2=>?_).mono fun v h' hv=>?_
 ·have hc:h2.cells h.next=some [.fn g u w]:=hs2.cells (Zh rfl)
  have hl:h.next<h2.next:=by have:=hs2.next;rw[H.next_add] at this;omega
  refine Zf (fd:=c122) rfl rfl rfl ?_
  simp(disch:=omega)only[c122,go_sem,hc,W6 (hx.1 _ (List.mem_map_of_mem ha))]
  refine((hp a ha).mono hs1).use (hs2.add _) fun h3 hs3=>?_
  simp(disch:=omega)only[go_sem]
  exact(H.Sub.refl hs2.wf).add _ |>.trans hs3
 ·obtain⟨rfl,hs⟩:=hv
  simp(disch:=omega)only[go_sem]
  exact⟨by rw[any_not],hs1.trans hs⟩
theorem indexFuncKind_ev {l:List Int}{p:Int→Bool}{h:H}{x f:V}(hw:h.wf)(hx:Zk h x 1 (l.map encI))(hp:∀a∈l,Yy h f [.ii a] (.bool (p a))):
  E (.fn 169 [] []) [x,f] h fun v h'=>v=.ii (XA p l 0)∧h.Sub h':=by
 have hb:=hx.boundE
 refine Zf (fd:=c169) rfl rfl rfl ?_
 simp(disch:=omega)only[c169,go_sem,hx.lenE]
 refine Zi l.length (fun i s=>∃tm h',s=⟨tm,h',[]⟩∧h.Sub h'∧tm.E 0=x∧tm.E 1=f∧tm.E 7=.ii (l.length:Int)∧tm.E 8=.ii (i:Int)∧XA p l 0=XA p (l.drop i) i)
  ?_ ?_ (i:=0) (Nat.zero_le _) ⟨_,_,rfl,H.Sub.refl hw,ybb,ybb,ybb,ybh,rfl⟩
 ·rintro i s hi ⟨tm,h',rfl,hs,e0,e1,e7,e8,e9⟩
  have hi':(i:Int)<(l.length:Int):=by omega
  obtain⟨b,o,c,cs,rfl,hc,hq,hg,hn,hn0⟩:=(hx.mono hs).at hi
  simp(disch:=omega)only[go_sem,e0,e1,e7,e8,hi',hq (Zb i),hc,hn0 ybd,encI]
  refine(hp _ (List.getElem_mem hi)).use hs fun h2 hs2=>?_
  cases hpr:p l[i] with
  |true=>
   simp(disch:=omega)only[go_sem,e0,e1,e7,e8]
   exact⟨by rw[e9,VP hi hpr],hs.trans hs2⟩
  |false=>
   simp(disch:=omega)only[go_sem,e0,e1,e7,e8,Ze]
   exact⟨_,_,rfl,hs.trans hs2,ybf,ybe,ybn,ybb,by rw[e9,W7 hi hpr]⟩
 ·rintro s ⟨tm,h',rfl,hs,e0,e1,e7,e8,e9⟩
  simp(disch:=omega)only[go_sem,e0,e1,e7,e8,Int.lt_irrefl]
  exact⟨by rw[e9];simp[XA],hs⟩
theorem containsFuncKind_ev {l:List Int}{p:Int→Bool}{h:H}{x f:V}(hw:h.wf)(hx:Zk h x 1 (l.map encI))(hp:∀a∈l,Yy h f [.ii a] (.bool (p a))):
  E (.fn 154 [] []) [x,f] h fun v h'=>v=.bool (l.any p)∧h.Sub h':=by
 refine Zf (fd:=c154) rfl rfl rfl ?_
 simp(disch:=omega)only[c154,go_sem]
 refine(indexFuncKind_ev hw hx hp).mono fun v h' hv=>?_
 obtain⟨rfl,hs⟩:=hv
 simp(disch:=omega)only[go_sem]
 exact⟨by rw[Vf],hs⟩
theorem everyKind_ev {l:List Int}{p:Int→Bool}{h:H}{x:V}{g:FuncId}{u w:List V}(hw:h.wf)(hx:Zk h x 1 (l.map encI))(hp:∀a∈l,Yy h (.fn g u w) [.ii a] (.bool (p a))):
  E (.fn 111 [] []) [x,.fn g u w] h fun v h'=>v=.bool (l.all p)∧h.Sub h':=by
 refine Zf (fd:=c111) rfl rfl rfl ?_
 simp(disch:=omega)only[c111,go_sem]
 have hs1:h.Sub (h.add (.bk [.fn g u w])):=(H.Sub.refl hw).add _
 refine(containsFuncKind_ev (p:=fun a=> !p a) hs1.wf (hx.mono hs1) fun a ha h2 hs2=>?_).mono fun v h' hv=>?_
 ·have hc:h2.cells h.next=some [.fn g u w]:=hs2.cells (Zh rfl)
  have hl:h.next<h2.next:=by have:=hs2.next;rw[H.next_add] at this;omega
  refine Zf (fd:=c155) rfl rfl rfl ?_
  simp(disch:=omega)only[c155,go_sem,hc]
  refine((hp a ha).mono hs1).use hs2 fun h3 hs3=>?_
  simp(disch:=omega)only[go_sem]
  exact hs3
 ·obtain⟨rfl,hs⟩:=hv
  simp(disch:=omega)only[go_sem]
  exact⟨by rw[any_not],hs1.trans hs⟩
theorem indexFuncInt_ev {l:List Int}{p:Int→Bool}{h:H}{x f:V}(hw:h.wf)(hx:Zk h x 1 (l.map encI))(hp:∀a∈l,Yy h f [.ii a] (.bool (p a))):
  E (.fn 159 [] []) [x,f] h fun v h'=>v=.ii (XA p l 0)∧h.Sub h':=by
 have hb:=hx.boundE
 refine Zf (fd:=c159) rfl rfl rfl ?_
 simp(disch:=omega)only[c159,go_sem,hx.lenE]
 refine Zi l.length (fun i s=>∃tm h',s=⟨tm,h',[]⟩∧h.Sub h'∧tm.E 0=x∧tm.E 1=f∧tm.E 7=.ii (l.length:Int)∧tm.E 8=.ii (i:Int)∧XA p l 0=XA p (l.drop i) i)
  ?_ ?_ (i:=0) (Nat.zero_le _) ⟨_,_,rfl,H.Sub.refl hw,ybb,ybb,ybb,ybh,rfl⟩
 ·rintro i s hi ⟨tm,h',rfl,hs,e0,e1,e7,e8,e9⟩
  have hi':(i:Int)<(l.length:Int):=by omega
  obtain⟨b,o,c,cs,rfl,hc,hq,hg,hn,hn0⟩:=(hx.mono hs).at hi
  simp(disch:=omega)only[go_sem,e0,e1,e7,e8,hi',hq (Zb i),hc,hn0 ybd,encI]
  refine(hp _ (List.getElem_mem hi)).use hs fun h2 hs2=>?_
  cases hpr:p l[i] with
  |true=>
   simp(disch:=omega)only[go_sem,e0,e1,e7,e8]
   exact⟨by rw[e9,VP hi hpr],hs.trans hs2⟩
  |false=>
   simp(disch:=omega)only[go_sem,e0,e1,e7,e8,Ze]
   exact⟨_,_,rfl,hs.trans hs2,ybf,ybe,ybn,ybb,by rw[e9,W7 hi hpr]⟩
 ·rintro s ⟨tm,h',rfl,hs,e0,e1,e7,e8,e9⟩
  simp(disch:=omega)only[go_sem,e0,e1,e7,e8,Int.lt_irrefl]
  exact⟨by rw[e9];simp[XA],hs⟩
theorem containsFuncInt_ev {l:List Int}{p:Int→Bool}{h:H}{x f:V}(hw:h.wf)(hx:Zk h x 1 (l.map encI))(hp:∀a∈l,Yy h f [.ii a] (.bool (p a))):
  E (.fn 127 [] []) [x,f] h fun v h'=>v=.bool (l.any p)∧h.Sub h':=by
 refine Zf (fd:=c127) rfl rfl rfl ?_
 simp(disch:=omega)only[c127,go_sem]
 refine(indexFuncInt_ev hw hx hp).mono fun v h' hv=>?_
 obtain⟨rfl,hs⟩:=hv
 simp(disch:=omega)only[go_sem]
 exact⟨by rw[Vf],hs⟩
theorem Xp {l:List Int}{p:Int→Bool}{h:H}{x:V}{g:FuncId}{u w:List V}(hw:h.wf)(hx:Zk h x 1 (l.map encI))(hp:∀a∈l,Yy h (.fn g u w) [.ii a] (.bool (p a))):
  E (.fn 81 [] []) [x,.fn g u w] h fun v h'=>v=.bool (l.all p)∧h.Sub h':=by
 refine Zf (fd:=c81) rfl rfl rfl ?_
 simp(disch:=omega)only[c81,go_sem]
 have hs1:h.Sub (h.add (.bk [.fn g u w])):=(H.Sub.refl hw).add _
 refine(containsFuncInt_ev (p:=fun a=> !p a) hs1.wf (hx.mono hs1) fun a ha h2 hs2=>?_).mono fun v h' hv=>?_
 ·have hc:h2.cells h.next=some [.fn g u w]:=hs2.cells (Zh rfl)
  have hl:h.next<h2.next:=by have:=hs2.next;rw[H.next_add] at this;omega
  refine Zf (fd:=c128) rfl rfl rfl ?_
  simp(disch:=omega)only[c128,go_sem,hc]
  refine((hp a ha).mono hs1).use hs2 fun h3 hs3=>?_
  simp(disch:=omega)only[go_sem]
  exact hs3
 ·obtain⟨rfl,hs⟩:=hv
  simp(disch:=omega)only[go_sem]
  exact⟨by rw[any_not],hs1.trans hs⟩
theorem indexFuncSum_ev {α:Type}{enc:α→List V}{l:List α}{p:α→Bool}{h:H}{x f:V}(hw:h.wf)(hx:Zk h x 2 (l.map enc))(hp:∀a∈l,Yy h f [.agg (enc a)] (.bool (p a))):
  E (.fn 168 [] []) [x,f] h fun v h'=>v=.ii (XA p l 0)∧h.Sub h':=by
 have hb:=hx.boundE
 refine Zf (fd:=c168) rfl rfl rfl ?_
 simp(disch:=omega)only[c168,go_sem,hx.lenE]
 refine Zi l.length (fun i s=>∃tm h',s=⟨tm,h',[]⟩∧h.Sub h'∧tm.E 0=x∧tm.E 1=f∧tm.E 7=.ii (l.length:Int)∧tm.E 8=.ii (i:Int)∧XA p l 0=XA p (l.drop i) i)
  ?_ ?_ (i:=0) (Nat.zero_le _) ⟨_,_,rfl,H.Sub.refl hw,ybb,ybb,ybb,ybh,rfl⟩
 ·rintro i s hi ⟨tm,h',rfl,hs,e0,e1,e7,e8,e9⟩
  have hi':(i:Int)<(l.length:Int):=by omega
  obtain⟨b,o,c,cs,rfl,hc,hq,hg,hn,hn0⟩:=(hx.mono hs).at hi
  simp(disch:=omega)only[go_sem,e0,e1,e7,e8,hi',hq (Zb i),hc,hg]
  refine(hp _ (List.getElem_mem hi)).use hs fun h2 hs2=>?_
  cases hpr:p l[i] with
  |true=>
   simp(disch:=omega)only[go_sem,e0,e1,e7,e8]
   exact⟨by rw[e9,VP hi hpr],hs.trans hs2⟩
  |false=>
   simp(disch:=omega)only[go_sem,e0,e1,e7,e8,Ze]
   exact⟨_,_,rfl,hs.trans hs2,ybf,ybe,ybn,ybb,by rw[e9,W7 hi hpr]⟩
 ·rintro s ⟨tm,h',rfl,hs,e0,e1,e7,e8,e9⟩
  simp(disch:=omega)only[go_sem,e0,e1,e7,e8,Int.lt_irrefl]
  exact⟨by rw[e9];simp[XA],hs⟩
theorem containsFuncSum_ev {α:Type}{enc:α→List V}{l:List α}{p:α→Bool}{h:H}{x f:V}(hw:h.wf)(hx:Zk h x 2 (l.map enc))(hp:∀a∈l,Yy h f [.agg (enc a)] (.bool (p a))):
  E (.fn 148 [] []) [x,f] h fun v h'=>v=.bool (l.any p)∧h.Sub h':=by
 refine Zf (fd:=c148) rfl rfl rfl ?_
 simp(disch:=omega)only[c148,go_sem]
 refine(indexFuncSum_ev hw hx hp).mono fun v h' hv=>?_
 obtain⟨rfl,hs⟩:=hv
 simp(disch:=omega)only[go_sem]
 exact⟨by rw[Vf],hs⟩
theorem everySum_ev {α:Type}{enc:α→List V}{l:List α}{p:α→Bool}{h:H}{x:V}{g:FuncId}{u w:List V}(hw:h.wf)(hx:Zk h x 2 (l.map enc))(hp:∀a∈l,Yy h (.fn g u w) [.agg (enc a)] (.bool (p a))):
  E (.fn 96 [] []) [x,.fn g u w] h fun v h'=>v=.bool (l.all p)∧h.Sub h':=by
 refine Zf (fd:=c96) rfl rfl rfl ?_
 simp(disch:=omega)only[c96,go_sem]
 have hs1:h.Sub (h.add (.bk [.fn g u w])):=(H.Sub.refl hw).add _
 refine(containsFuncSum_ev (p:=fun a=> !p a) hs1.wf (hx.mono hs1) fun a ha h2 hs2=>?_).mono fun v h' hv=>?_
 ·have hc:h2.cells h.next=some [.fn g u w]:=hs2.cells (Zh rfl)
  have hl:h.next<h2.next:=by have:=hs2.next;rw[H.next_add] at this;omega
  refine Zf (fd:=c149) rfl rfl rfl ?_
  simp(disch:=omega)only[c149,go_sem,hc,W6 (hx.1 _ (List.mem_map_of_mem ha))]
  refine((hp a ha).mono hs1).use (hs2.add _) fun h3 hs3=>?_
  simp(disch:=omega)only[go_sem]
  exact(H.Sub.refl hs2.wf).add _ |>.trans hs3
 ·obtain⟨rfl,hs⟩:=hv
  simp(disch:=omega)only[go_sem]
  exact⟨by rw[any_not],hs1.trans hs⟩
theorem equalInt_ev {l r:List (Int)}{h:H}{x y:V}(hx:Zk h x 1 (l.map encI))(hy:Zk h y 1 (r.map encI)):
  E (.fn 102 [] []) [x,y] h fun v h'=>v=.bool (decide (l=r))∧h'=h:=by
 have hb:=hx.boundE
 refine Zf (fd:=c102) rfl rfl rfl ?_
 by_cases hl:l.length=r.length
 ·have hl':(l.length:Int)=(r.length:Int):=by omega
  simp(disch:=omega)only[c102,go_sem,hx.lenE,hy.lenE,hl',ne_eq,not_true_eq_false]
  refine Zi l.length (fun i s=>∃tm,s=⟨tm,h,[]⟩∧tm.E 0=x∧tm.E 1=y∧tm.E 12=.ii (l.length:Int)∧tm.E 13=.ii (i:Int)∧l.take i=r.take i)
   ?_ ?_ (i:=0) (Nat.zero_le _) ⟨_,rfl,ybb,ybb,ybi,ybh,rfl⟩
  ·rintro i s hi ⟨tm,rfl,e0,e1,e12,e13,e9⟩
   have hi':(i:Int)<(l.length:Int):=by omega
   have hi2:i<r.length:=by omega
   obtain⟨b,o,c,cs,rfl,hc,hq,hg,hn,hn0⟩:=hx.at hi
   obtain⟨b2,o2,c2,cs2,rfl,hc2,hq2,hg2,hn2,hn02⟩:=hy.at hi2
   have h1:(l[i]=r[i])↔l.take (i+1)=r.take (i+1):=by
    rw[List.take_succ_eq_append_getElem hi,List.take_succ_eq_append_getElem hi2,e9];simp only[List.append_cancel_left_eq,List.cons.injEq,and_true]
   by_cases he:l[i]=r[i]
   ·have hl0:=hl
    simp(disch:=omega)only[go_sem,e0,e1,e12,e13,hi',hq (Zb i),hq2 (Zb i),hc,hc2,hg,hg2,hn0 ybd,hn02 ybd,encI,he,ngB,ne_eq,not_true_eq_false,not_false_eq_true,Ze]
    exact⟨_,rfl,ybf,ybe,ybm,ybb,h1.1 he⟩
   ·simp(disch:=omega)only[go_sem,e0,e1,e12,e13,hi',hq (Zb i),hq2 (Zb i),hc,hc2,hg,hg2,hn0 ybd,hn02 ybd,encI,he,ngB,ne_eq,not_true_eq_false,not_false_eq_true,Ze]
    rw[decide_eq_false]
    intro e;exact he (h1.2 ybr)
  ·rintro s ⟨tm,rfl,e0,e1,e12,e13,e9⟩
   simp(disch:=omega)only[go_sem,e0,e1,e12,e13,Int.lt_irrefl]
   rw[decide_eq_true]
   rw[List.take_length,hl,List.take_length] at e9;exact e9
 ·have hl':¬(l.length:Int)=(r.length:Int):=by omega
  simp(disch:=omega)only[c102,go_sem,hx.lenE,hy.lenE,hl',ne_eq,not_false_eq_true]
  rw[decide_eq_false]
  intro e;exact hl ybr
theorem XF {l r:List (Int)}{h:H}{x y:V}(hx:Zk h x 1 (l.map encI))(hy:Zk h y 1 (r.map encI))(Q:V→H→Prop):
  Ev fnG Zm (.fn 50 [] []) [x,y] h Q=Q (.bool (decide (l=r))) h:=by
 refine Ev.det (Zf (fd:=c50) rfl rfl rfl ?_) Q
 simp(disch:=omega)only[c50,go_sem]
 refine(equalInt_ev hx hy).mono fun v h' hv=>?_
 obtain⟨rfl,rfl⟩:=hv
 simp(disch:=omega)only[go_sem]
theorem equalSpan_ev {l r:List (List Int)}{h:H}{x y:V}(hx:Zk h x 2 (l.map (List.map iv)))(hy:Zk h y 2 (r.map (List.map iv))):
  E (.fn 107 [] []) [x,y] h fun v h'=>v=.bool (decide (l=r))∧h'=h:=by
 have hb:=hx.boundE
 refine Zf (fd:=c107) rfl rfl rfl ?_
 by_cases hl:l.length=r.length
 ·have hl':(l.length:Int)=(r.length:Int):=by omega
  simp(disch:=omega)only[c107,go_sem,hx.lenE,hy.lenE,hl',ne_eq,not_true_eq_false]
  refine Zi l.length (fun i s=>∃tm,s=⟨tm,h,[]⟩∧tm.E 0=x∧tm.E 1=y∧tm.E 12=.ii (l.length:Int)∧tm.E 13=.ii (i:Int)∧l.take i=r.take i)
   ?_ ?_ (i:=0) (Nat.zero_le _) ⟨_,rfl,ybb,ybb,ybi,ybh,rfl⟩
  ·rintro i s hi ⟨tm,rfl,e0,e1,e12,e13,e9⟩
   have hi':(i:Int)<(l.length:Int):=by omega
   have hi2:i<r.length:=by omega
   obtain⟨b,o,c,cs,rfl,hc,hq,hg,hn,hn0⟩:=hx.at hi
   obtain⟨b2,o2,c2,cs2,rfl,hc2,hq2,hg2,hn2,hn02⟩:=hy.at hi2
   have h1:(l[i]=r[i])↔l.take (i+1)=r.take (i+1):=by
    rw[List.take_succ_eq_append_getElem hi,List.take_succ_eq_append_getElem hi2,e9];simp only[List.append_cancel_left_eq,List.cons.injEq,and_true]
   have hf:=VE l[i] r[i] (n:=2) ybl ybk true
   by_cases he:l[i]=r[i]
   ·rw[he] at hf
    simp(disch:=omega)only[go_sem,e0,e1,e12,e13,hi',hq (Zb i),hq2 (Zb i),hc,hc2,hg,hg2,hf,he,ngB,Ze]
    exact⟨_,rfl,ybf,ybe,ybm,ybb,h1.1 he⟩
   ·simp(disch:=omega)only[go_sem,e0,e1,e12,e13,hi',hq (Zb i),hq2 (Zb i),hc,hc2,hg,hg2,hf,he,ngB,Ze]
    rw[decide_eq_false]
    intro e;exact he (h1.2 ybr)
  ·rintro s ⟨tm,rfl,e0,e1,e12,e13,e9⟩
   simp(disch:=omega)only[go_sem,e0,e1,e12,e13,Int.lt_irrefl]
   rw[decide_eq_true]
   rw[List.take_length,hl,List.take_length] at e9;exact e9
 ·have hl':¬(l.length:Int)=(r.length:Int):=by omega
  simp(disch:=omega)only[c107,go_sem,hx.lenE,hy.lenE,hl',ne_eq,not_false_eq_true]
  rw[decide_eq_false]
  intro e;exact hl ybr
theorem eqSpan_ev {l r:List (List Int)}{h:H}{x y:V}(hx:Zk h x 2 (l.map (List.map iv)))(hy:Zk h y 2 (r.map (List.map iv)))(Q:V→H→Prop):
  Ev fnG Zm (.fn 58 [] []) [x,y] h Q=Q (.bool (decide (l=r))) h:=by
 refine Ev.det (Zf (fd:=c58) rfl rfl rfl ?_) Q
 simp(disch:=omega)only[c58,go_sem]
 refine(equalSpan_ev hx hy).mono fun v h' hv=>?_
 obtain⟨rfl,rfl⟩:=hv
 simp(disch:=omega)only[go_sem]
theorem equalKind_ev {l r:List (Int)}{h:H}{x y:V}(hx:Zk h x 1 (l.map encI))(hy:Zk h y 1 (r.map encI)):
  E (.fn 112 [] []) [x,y] h fun v h'=>v=.bool (decide (l=r))∧h'=h:=by
 have hb:=hx.boundE
 refine Zf (fd:=c112) rfl rfl rfl ?_
 by_cases hl:l.length=r.length
 ·have hl':(l.length:Int)=(r.length:Int):=by omega
  simp(disch:=omega)only[c112,go_sem,hx.lenE,hy.lenE,hl',ne_eq,not_true_eq_false]
  refine Zi l.length (fun i s=>∃tm,s=⟨tm,h,[]⟩∧tm.E 0=x∧tm.E 1=y∧tm.E 12=.ii (l.length:Int)∧tm.E 13=.ii (i:Int)∧l.take i=r.take i)
   ?_ ?_ (i:=0) (Nat.zero_le _) ⟨_,rfl,ybb,ybb,ybi,ybh,rfl⟩
  ·rintro i s hi ⟨tm,rfl,e0,e1,e12,e13,e9⟩
   have hi':(i:Int)<(l.length:Int):=by omega
   have hi2:i<r.length:=by omega
   obtain⟨b,o,c,cs,rfl,hc,hq,hg,hn,hn0⟩:=hx.at hi
   obtain⟨b2,o2,c2,cs2,rfl,hc2,hq2,hg2,hn2,hn02⟩:=hy.at hi2
   have h1:(l[i]=r[i])↔l.take (i+1)=r.take (i+1):=by
    rw[List.take_succ_eq_append_getElem hi,List.take_succ_eq_append_getElem hi2,e9];simp only[List.append_cancel_left_eq,List.cons.injEq,and_true]
   by_cases he:l[i]=r[i]
   ·have hl0:=hl
    simp(disch:=omega)only[go_sem,e0,e1,e12,e13,hi',hq (Zb i),hq2 (Zb i),hc,hc2,hg,hg2,hn0 ybd,hn02 ybd,encI,he,ngB,ne_eq,not_true_eq_false,not_false_eq_true,Ze]
    exact⟨_,rfl,ybf,ybe,ybm,ybb,h1.1 he⟩
   ·simp(disch:=omega)only[go_sem,e0,e1,e12,e13,hi',hq (Zb i),hq2 (Zb i),hc,hc2,hg,hg2,hn0 ybd,hn02 ybd,encI,he,ngB,ne_eq,not_true_eq_false,not_false_eq_true,Ze]
    rw[decide_eq_false]
    intro e;exact he (h1.2 ybr)
  ·rintro s ⟨tm,rfl,e0,e1,e12,e13,e9⟩
   simp(disch:=omega)only[go_sem,e0,e1,e12,e13,Int.lt_irrefl]
   rw[decide_eq_true]
   rw[List.take_length,hl,List.take_length] at e9;exact e9
 ·have hl':¬(l.length:Int)=(r.length:Int):=by omega
  simp(disch:=omega)only[c112,go_sem,hx.lenE,hy.lenE,hl',ne_eq,not_false_eq_true]
  rw[decide_eq_false]
  intro e;exact hl ybr
theorem eqKind_ev {l r:List (Int)}{h:H}{x y:V}(hx:Zk h x 1 (l.map encI))(hy:Zk h y 1 (r.map encI))(Q:V→H→Prop):
  Ev fnG Zm (.fn 63 [] []) [x,y] h Q=Q (.bool (decide (l=r))) h:=by
 refine Ev.det (Zf (fd:=c63) rfl rfl rfl ?_) Q
 simp(disch:=omega)only[c63,go_sem]
 refine(equalKind_ev hx hy).mono fun v h' hv=>?_
 obtain⟨rfl,rfl⟩:=hv
 simp(disch:=omega)only[go_sem]
theorem equalLot_ev {l r:List (List Int)}{h:H}{x y:V}(hx:Zk h x 2 (l.map (List.map iv)))(hy:Zk h y 2 (r.map (List.map iv))):
  E (.fn 150 [] []) [x,y] h fun v h'=>v=.bool (decide (l=r))∧h'=h:=by
 have hb:=hx.boundE
 refine Zf (fd:=c150) rfl rfl rfl ?_
 by_cases hl:l.length=r.length
 ·have hl':(l.length:Int)=(r.length:Int):=by omega
  simp(disch:=omega)only[c150,go_sem,hx.lenE,hy.lenE,hl',ne_eq,not_true_eq_false]
  refine Zi l.length (fun i s=>∃tm,s=⟨tm,h,[]⟩∧tm.E 0=x∧tm.E 1=y∧tm.E 12=.ii (l.length:Int)∧tm.E 13=.ii (i:Int)∧l.take i=r.take i)
   ?_ ?_ (i:=0) (Nat.zero_le _) ⟨_,rfl,ybb,ybb,ybi,ybh,rfl⟩
  ·rintro i s hi ⟨tm,rfl,e0,e1,e12,e13,e9⟩
   have hi':(i:Int)<(l.length:Int):=by omega
   have hi2:i<r.length:=by omega
   obtain⟨b,o,c,cs,rfl,hc,hq,hg,hn,hn0⟩:=hx.at hi
   obtain⟨b2,o2,c2,cs2,rfl,hc2,hq2,hg2,hn2,hn02⟩:=hy.at hi2
   have h1:(l[i]=r[i])↔l.take (i+1)=r.take (i+1):=by
    rw[List.take_succ_eq_append_getElem hi,List.take_succ_eq_append_getElem hi2,e9];simp only[List.append_cancel_left_eq,List.cons.injEq,and_true]
   have hf:=VE l[i] r[i] (n:=2) ybl ybk true
   by_cases he:l[i]=r[i]
   ·rw[he] at hf
    simp(disch:=omega)only[go_sem,e0,e1,e12,e13,hi',hq (Zb i),hq2 (Zb i),hc,hc2,hg,hg2,hf,he,ngB,Ze]
    exact⟨_,rfl,ybf,ybe,ybm,ybb,h1.1 he⟩
   ·simp(disch:=omega)only[go_sem,e0,e1,e12,e13,hi',hq (Zb i),hq2 (Zb i),hc,hc2,hg,hg2,hf,he,ngB,Ze]
    rw[decide_eq_false]
    intro e;exact he (h1.2 ybr)
  ·rintro s ⟨tm,rfl,e0,e1,e12,e13,e9⟩
   simp(disch:=omega)only[go_sem,e0,e1,e12,e13,Int.lt_irrefl]
   rw[decide_eq_true]
   rw[List.take_length,hl,List.take_length] at e9;exact e9
 ·have hl':¬(l.length:Int)=(r.length:Int):=by omega
  simp(disch:=omega)only[c150,go_sem,hx.lenE,hy.lenE,hl',ne_eq,not_false_eq_true]
  rw[decide_eq_false]
  intro e;exact hl ybr
theorem eqLot_ev {l r:List (List Int)}{h:H}{x y:V}(hx:Zk h x 2 (l.map (List.map iv)))(hy:Zk h y 2 (r.map (List.map iv)))(Q:V→H→Prop):
  Ev fnG Zm (.fn 103 [] []) [x,y] h Q=Q (.bool (decide (l=r))) h:=by
 refine Ev.det (Zf (fd:=c103) rfl rfl rfl ?_) Q
 simp(disch:=omega)only[c103,go_sem]
 refine(equalLot_ev hx hy).mono fun v h' hv=>?_
 obtain⟨rfl,rfl⟩:=hv
 simp(disch:=omega)only[go_sem]
theorem equalWg_ev {l r:List (List Int)}{h:H}{x y:V}(hx:Zk h x 4 (l.map (List.map iv)))(hy:Zk h y 4 (r.map (List.map iv))):
  E (.fn 151 [] []) [x,y] h fun v h'=>v=.bool (decide (l=r))∧h'=h:=by
 have hb:=hx.boundE
 refine Zf (fd:=c151) rfl rfl rfl ?_
 by_cases hl:l.length=r.length
 ·have hl':(l.length:Int)=(r.length:Int):=by omega
  simp(disch:=omega)only[c151,go_sem,hx.lenE,hy.lenE,hl',ne_eq,not_true_eq_false]
  refine Zi l.length (fun i s=>∃tm,s=⟨tm,h,[]⟩∧tm.E 0=x∧tm.E 1=y∧tm.E 12=.ii (l.length:Int)∧tm.E 13=.ii (i:Int)∧l.take i=r.take i)
   ?_ ?_ (i:=0) (Nat.zero_le _) ⟨_,rfl,ybb,ybb,ybi,ybh,rfl⟩
  ·rintro i s hi ⟨tm,rfl,e0,e1,e12,e13,e9⟩
   have hi':(i:Int)<(l.length:Int):=by omega
   have hi2:i<r.length:=by omega
   obtain⟨b,o,c,cs,rfl,hc,hq,hg,hn,hn0⟩:=hx.at hi
   obtain⟨b2,o2,c2,cs2,rfl,hc2,hq2,hg2,hn2,hn02⟩:=hy.at hi2
   have h1:(l[i]=r[i])↔l.take (i+1)=r.take (i+1):=by
    rw[List.take_succ_eq_append_getElem hi,List.take_succ_eq_append_getElem hi2,e9];simp only[List.append_cancel_left_eq,List.cons.injEq,and_true]
   have hf:=VE l[i] r[i] (n:=4) ybl ybk true
   by_cases he:l[i]=r[i]
   ·rw[he] at hf
    simp(disch:=omega)only[go_sem,e0,e1,e12,e13,hi',hq (Zb i),hq2 (Zb i),hc,hc2,hg,hg2,hf,he,ngB,Ze]
    exact⟨_,rfl,ybf,ybe,ybm,ybb,h1.1 he⟩
   ·simp(disch:=omega)only[go_sem,e0,e1,e12,e13,hi',hq (Zb i),hq2 (Zb i),hc,hc2,hg,hg2,hf,he,ngB,Ze]
    rw[decide_eq_false]
    intro e;exact he (h1.2 ybr)
  ·rintro s ⟨tm,rfl,e0,e1,e12,e13,e9⟩
   simp(disch:=omega)only[go_sem,e0,e1,e12,e13,Int.lt_irrefl]
   rw[decide_eq_true]
   rw[List.take_length,hl,List.take_length] at e9;exact e9
 ·have hl':¬(l.length:Int)=(r.length:Int):=by omega
  simp(disch:=omega)only[c151,go_sem,hx.lenE,hy.lenE,hl',ne_eq,not_false_eq_true]
  rw[decide_eq_false]
  intro e;exact hl ybr
theorem eqWg_ev {l r:List (List Int)}{h:H}{x y:V}(hx:Zk h x 4 (l.map (List.map iv)))(hy:Zk h y 4 (r.map (List.map iv)))(Q:V→H→Prop):
  Ev fnG Zm (.fn 104 [] []) [x,y] h Q=Q (.bool (decide (l=r))) h:=by
 refine Ev.det (Zf (fd:=c104) rfl rfl rfl ?_) Q
 simp(disch:=omega)only[c104,go_sem]
 refine(equalWg_ev hx hy).mono fun v h' hv=>?_
 obtain⟨rfl,rfl⟩:=hv
 simp(disch:=omega)only[go_sem]
end Go.Ab.Tryz
namespace Go.Ab.Tryz
structure Wg where
 lot:Int
 reads:Int
 lo:Int
 hi:Int
structure Lt where
 frm:Int
 kind:Int
structure Ml where
 errs:Int
 lots:List Lt
 wgs:List Wg
def Zy (w:Wg):List V:=[.ii w.lot,.ii w.reads,.ii w.lo,.ii w.hi]
def ZO (l:Lt):List V:=[.ii l.frm,.ii l.kind]
def ZF (h:H)(v:V)(m:Ml):Prop:=∃L W,v=.agg [.ii m.errs,L,W]∧Zk h L 2 (m.lots.map ZO)∧Zk h W 4 (m.wgs.map Zy)
theorem ZF.mono {h h':H}(hs:h.Sub h'){v:V}{m:Ml}(a:ZF h v m):ZF h' v m:=by
 obtain⟨L,W,e,a1,a2⟩:=a;exact⟨L,W,e,a1.mono hs,a2.mono hs⟩
def inB (n lo hi:Int):Bool:=decide (lo≤n∧n≤hi)
def XH (w:Wg):Bool:=decide ((0≤w.reads∧w.reads≤10000)∧(0≤w.lo∧w.lo≤60)∧(0≤w.hi∧w.hi≤60))
def ZA (k:Int):Bool:=decide (0≤k∧k≤3)
def Yj:List Lt→Nat→Bool
 |[],_=>true
 |l::r,i=>decide (-1≤l.frm∧l.frm≤(i:Int)-1)&&Yj r (i+1)
def check (m:Ml):Int:=
 if¬(1≤(m.lots.length:Int)∧(m.lots.length:Int)≤12) then 2
 else if 10<(m.wgs.length:Int) then 2
 else if¬(0≤m.errs∧m.errs≤50) then 3
 else if m.wgs.all XH=false then 3
 else if m.lots.all (fun l=>ZA l.kind)=false then 3
 else if Yj m.lots 0=false then 1
 else if m.wgs.all (fun w=>inB w.lot 0 ((m.lots.length:Int)-1))=false then 1
 else if m.wgs.all (fun w=>decide (w.lo≤w.hi))=false then 4
 else 0
theorem Vr (n lo hi:Int)(h:H)(Q:V→H→Prop):Ev fnG Zm (.fn 35 [] []) [.ii n,.ii lo,.ii hi] h Q=Q (.bool (decide (lo≤n∧n≤hi))) h:=by
 refine Ev.det (Zf (fd:=c35) rfl rfl rfl ?_) Q
 by_cases h1:lo≤n
 ·simp only[c35,go_sem,h1]
 ·simp only[c35,go_sem,h1,false_and]
theorem Ul (k:Int)(h:H)(Q:V→H→Prop):Ev fnG Zm (.fn 73 [] []) [.ii k] h Q=Q (.bool (ZA k)) h:=by
 refine Ev.det (Zf (fd:=c73) rfl rfl rfl ?_) Q
 by_cases h1:0≤k
 ·simp only[c73,go_sem,h1,ZA]
 ·simp only[c73,go_sem,h1,false_and,ZA]
theorem bounded_ev (w:Wg)(h:H)(Q:V→H→Prop):Ev fnG Zm (.fn 70 [] []) [.agg (Zy w)] h Q=Q (.bool (XH w)) (h.add (.bk (Zy w))):=by
 refine Ev.det (Zf (fd:=c70) rfl rfl rfl ?_) Q
 by_cases h1:0≤w.reads∧w.reads≤10000<;>by_cases h2:0≤w.lo∧w.lo≤60<;>simp(disch:=omega)only[c70,go_sem,Vr,h1,h2,false_and,XH,Zy]
theorem bounded_pure (h:H)(w:Wg):Yy h (.fn 70 [] []) [.agg (Zy w)] (.bool (XH w)):=fun h1 hs=>by
 rw[bounded_ev];exact⟨rfl,(H.Sub.refl hs.wf).add _⟩
theorem check1_ev (l:Lt)(h:H)(Q:V→H→Prop):Ev fnG Zm (.fn 72 [] []) [.agg (ZO l)] h Q=Q (.bool (ZA l.kind)) (h.add (.bk (ZO l))):=by
 refine Ev.det (Zf (fd:=c72) rfl rfl rfl ?_) Q
 simp(disch:=omega)only[c72,go_sem,Ul,ZO]
theorem check1_pure (h:H)(l:Lt):Yy h (.fn 72 [] []) [.agg (ZO l)] (.bool (ZA l.kind)):=fun h1 hs=>by
 rw[check1_ev];exact⟨rfl,(H.Sub.refl hs.wf).add _⟩
theorem check3_ev (w:Wg)(h:H)(Q:V→H→Prop):Ev fnG Zm (.fn 76 [] []) [.agg (Zy w)] h Q=Q (.bool (decide (w.lo≤w.hi))) (h.add (.bk (Zy w))):=by
 refine Ev.det (Zf (fd:=c76) rfl rfl rfl ?_) Q
 simp(disch:=omega)only[c76,go_sem,Zy]
theorem check3_pure (h:H)(w:Wg):Yy h (.fn 76 [] []) [.agg (Zy w)] (.bool (decide (w.lo≤w.hi))):=fun h1 hs=>by
 rw[check3_ev];exact⟨rfl,(H.Sub.refl hs.wf).add _⟩
theorem lot_ev {h:H}{v:V}{m:Ml}(hm:ZF h v m)(n:Int)(Q:V→H→Prop)(q:∀h',h.Sub h'→Q (.bool (inB n 0 ((m.lots.length:Int)-1))) h')(hw:h.wf):Ev fnG Zm (.fn 74 [] []) [v,.ii n] h Q:=by
 obtain⟨L,W,rfl,a1,a2⟩:=hm
 have hb:=a1.boundE
 refine Zf (fd:=c74) rfl rfl rfl ?_
 simp(disch:=omega)only[c74,go_sem,a1.lenE,ZD,Vr]
 exact q _ ((H.Sub.refl hw).add _)
theorem weighing_ev {h:H}{v:V}{m:Ml}(hm:ZF h v m)(n:Int)(Q:V→H→Prop)(q:∀h',h.Sub h'→Q (.bool (inB n 0 ((m.wgs.length:Int)-1))) h')(hw:h.wf):Ev fnG Zm (.fn 80 [] []) [v,.ii n] h Q:=by
 obtain⟨L,W,rfl,a1,a2⟩:=hm
 have hb:=a2.boundE
 refine Zf (fd:=c80) rfl rfl rfl ?_
 simp(disch:=omega)only[c80,go_sem,a2.lenE,ZD,Vr]
 exact q _ ((H.Sub.refl hw).add _)
theorem check2_pure {h:H}{v:V}{m:Ml}(hm:ZF h v m){b:Nat}(hb:h.cells b=some [.fn 74 [v] []])(w:Wg):Yy h (.fn 75 [] [.ptr b 0]) [.agg (Zy w)] (.bool (inB w.lot 0 ((m.lots.length:Int)-1))):=fun h1 hs=>by
 have hlt:b<h1.next:=by
  obtain⟨k,hk⟩:=H.cells_eq (hs.cells hb)
  exact hs.wf b _ hk
 have hb1:=hs.cells hb
 refine Zf (fd:=c75) rfl rfl rfl ?_
 simp(disch:=omega)only[c75,go_sem,hb1,Zy]
 rw[Ev_fn]
 have hs2:=hs.add (.bk [V.int IntKind.i64 w.lot,V.int IntKind.i64 w.reads,V.int IntKind.i64 w.lo,V.int IntKind.i64 w.hi])
 refine lot_ev (hm.mono hs2) w.lot _ (fun h' hs'=>?_) hs2.wf
 simp(disch:=omega)only[go_sem]
 exact(H.Sub.refl hs.wf).add _ |>.trans hs'
theorem fromsOk_hit {l:List Lt}{i:Nat}(hi:i<l.length)(h: -1≤l[i].frm∧l[i].frm≤(i:Int)-1):Yj (l.drop i) i=Yj (l.drop (i+1)) (i+1):=by
 rw[List.drop_eq_getElem_cons hi];simp[Yj,h]
theorem fromsOk_miss {l:List Lt}{i:Nat}(hi:i<l.length)(h:¬(-1≤l[i].frm∧l[i].frm≤(i:Int)-1)):Yj (l.drop i) i=false:=by
 rw[List.drop_eq_getElem_cons hi];simp[Yj,h]
theorem Vk {h:H}{v:V}{m:Ml}(hw:h.wf)(hm:ZF h v m):Ev fnG Zm (.fn 15 [] []) [v] h fun u h'=>u=.ii (check m)∧h.Sub h':=by
 have hm0:=hm
 obtain⟨L,W,rfl,aL,aW⟩:=hm
 have hbL:=aL.boundE
 have hbW:=aW.boundE
 refine Zf (fd:=c15) rfl rfl rfl ?_
 have hs1:h.Sub (h.add (.bk [.ii m.errs,L,W])):=(H.Sub.refl hw).add _
 by_cases c1:1≤(m.lots.length:Int)∧(m.lots.length:Int)≤12
 case neg=>
  simp(disch:=omega)only[c15,go_sem,Vr,aL.lenE,c1]
  exact⟨by simp[check,c1],hs1⟩
 by_cases c2:10<(m.wgs.length:Int)
 case pos=>
  simp(disch:=omega)only[c15,go_sem,Vr,aL.lenE,aW.lenE,c1,c2]
  exact⟨by simp only[check,c1,c2,not_true_eq_false,and_self, ↓reduceIte],hs1⟩
 by_cases c3:0≤m.errs∧m.errs≤50
 case neg=>
  simp(disch:=omega)only[c15,go_sem,Vr,aL.lenE,aW.lenE,c1,c2,c3]
  exact⟨by simp only[check,c1,c2,c3,not_true_eq_false,not_false_eq_true,and_self, ↓reduceIte],hs1⟩
 simp(disch:=omega)only[c15,go_sem,Vr,aL.lenE,aW.lenE,c1,c2,c3]
 refine(everyWg_ev hs1.wf (aW.mono hs1) fun w _=>bounded_pure _ w).mono fun u h2 hu=>?_
 obtain⟨rfl,hs2⟩:=hu
 have g2:h2.cells h.next=some [.ii m.errs,L,W]:=hs2.cells (Zh rfl)
 have l2:h.next<h2.next:=by have:=hs2.next;rw[H.next_add] at this;omega
 cases c4:m.wgs.all XH
 case false=>
  simp(disch:=omega)only[go_sem,c4]
  exact⟨by simp only[check,c1,c2,c3,c4,not_true_eq_false,not_false_eq_true,and_self, ↓reduceIte],hs1.trans hs2⟩
 simp(disch:=omega)only[go_sem,c4,g2]
 have hs12:=hs1.trans hs2
 refine(everyLot_ev hs2.wf (aL.mono hs12) fun l _=>check1_pure _ l).mono fun u h3 hu=>?_
 obtain⟨rfl,hs3⟩:=hu
 have g3:=hs3.cells g2
 have l3:h.next<h3.next:=Nat.lt_of_lt_of_le l2 hs3.next
 have hs13:=hs12.trans hs3
 cases c5:m.lots.all fun l=>ZA l.kind
 case false=>
  simp(disch:=omega)only[go_sem,c5]
  exact⟨by simp only[check,c1,c2,c3,c4,c5,not_true_eq_false,not_false_eq_true,and_self, ↓reduceIte,Bool.true_eq_false],hs13⟩
 simp(disch:=omega)only[go_sem,c5,g3,aL.lenE]
 have c12:¬(10<(m.wgs.length:Int)):=c2
 refine Zi m.lots.length (fun i s=>∃tm h',s=⟨tm,h',[]⟩∧h3.Sub h'∧tm.E 1=.ptr h.next 0∧tm.E 34=L∧tm.E 35=.ii (m.lots.length:Int)∧tm.E 36=.ii (i:Int)∧Yj m.lots 0=Yj (m.lots.drop i) i)
  ?_ ?_ (i:=0) (Nat.zero_le _) ⟨_,_,rfl,H.Sub.refl hs3.wf,ybb,ybb,ybb,ybh,rfl⟩
 ·rintro i s hi ⟨tm,h',rfl,hs,e1,e34,e35,e36,e9⟩
  have hi':(i:Int)<(m.lots.length:Int):=by omega
  obtain⟨b,o,c,cs,rfl,hc,hq,hg,hn,hn0⟩:=(aL.mono (hs13.trans hs)).at hi
  have hs4:=hs.add (.bk [.ii m.lots[i].frm,.ii m.lots[i].kind])
  by_cases c6: -1≤m.lots[i].frm∧m.lots[i].frm≤(i:Int)-1
  ·simp(disch:=omega)only[go_sem,e1,e34,e35,e36,hi',hq (Zb i),hc,hg,ZO,ZD,Vr,c6,Ze]
   exact⟨_,_,rfl,hs4,ybe,(by simp[Zn,Zd,e34]<;>rfl),(by simp[Zn,Zd,e35]<;>rfl),ybb,by rw[e9,fromsOk_hit hi c6]⟩
  ·simp(disch:=omega)only[go_sem,e1,e34,e35,e36,hi',hq (Zb i),hc,hg,ZO,ZD,Vr,c6,Ze]
   have:Yj m.lots 0=false:=by rw[e9,fromsOk_miss hi c6]
   exact⟨by simp only[check,c1,c12,c3,c4,c5,this,not_true_eq_false,not_false_eq_true,and_self, ↓reduceIte,Bool.true_eq_false],hs13.trans hs4⟩
 ·rintro s ⟨tm,h',rfl,hs,e1,e34,e35,e36,e9⟩
  have c6:Yj m.lots 0=true:=by rw[e9];simp[Yj]
  have g4:=hs.cells g3
  have l4:h.next<h'.next:=Nat.lt_of_lt_of_le l3 hs.next
  have hs14:=hs13.trans hs
  simp(disch:=omega)only[go_sem,e1,e34,e35,e36,Int.lt_irrefl,g4]
  have hm5:=(hm0.mono hs14).mono ((H.Sub.refl hs14.wf).add (.bk [.fn 74 [.agg [.ii m.errs,L,W]] []]))
  refine(everyWg_ev (H.Sub.wf (hs14.add _)) (aW.mono (hs14.add _)) fun w _=>check2_pure hm5 (Zh rfl) w).mono fun u h6 hu=>?_
  obtain⟨rfl,hs6⟩:=hu
  have g6:h6.cells h.next=some [.ii m.errs,L,W]:=hs6.cells (by rw[Xc l4];exact g4)
  have hs16:=(hs14.add _).trans hs6
  have l6:h.next<h6.next:=by have:=hs6.next;rw[H.next_add] at this;omega
  cases c7:m.wgs.all (fun w=>inB w.lot 0 ((m.lots.length:Int)-1))
  case false=>
   simp(disch:=omega)only[go_sem,c7]
   exact⟨by simp only[check,c1,c12,c3,c4,c5,c6,c7,not_true_eq_false,not_false_eq_true,and_self, ↓reduceIte,Bool.true_eq_false],hs16⟩
  simp(disch:=omega)only[go_sem,c7,e1,g6]
  refine(everyWg_ev hs16.wf (aW.mono hs16) fun w _=>check3_pure _ w).mono fun u h7 hu=>?_
  obtain⟨rfl,hs7⟩:=hu
  have hs17:=hs16.trans hs7
  cases c8:m.wgs.all (fun w=>decide (w.lo≤w.hi))
  ·simp(disch:=omega)only[go_sem,c8]
   exact⟨by simp only[check,c1,c12,c3,c4,c5,c6,c7,c8,not_true_eq_false,not_false_eq_true,and_self, ↓reduceIte,Bool.true_eq_false],hs17⟩
  ·simp(disch:=omega)only[go_sem,c8]
   exact⟨by simp only[check,c1,c12,c3,c4,c5,c6,c7,c8,not_true_eq_false,not_false_eq_true,and_self, ↓reduceIte,Bool.true_eq_false],hs17⟩
end Go.Ab.Tryz
namespace Go.Ab.Tryz
def ZI (k:Int):List Lt→Nat→List Int
 |[],_=>[]
 |l::r,i=>if l.frm=k then(i:Int)::ZI k r (i+1) else ZI k r (i+1)
def parts (m:Ml)(k:Int):List Int:=ZI k m.lots 0
theorem Wu (k:Int):∀(a b:List Lt) (i:Nat),ZI k (a++b) i=ZI k a i++ZI k b (i+a.length)
 |[],b,i=>by simp[ZI]
 |l::a,b,i=>by
  have ih:=Wu k a b (i+1)
  simp only[List.cons_append,ZI,ih,List.length_cons]
  have e:i+1+a.length=i+(a.length+1):=by omega
  rw[e]
  by_cases h:l.frm=k<;>simp[h]
theorem V8 (k:Int):∀(a:List Lt) (i:Nat),(ZI k a i).length≤a.length
 |[],i=>by simp[ZI]
 |l::a,i=>by
  have ih:=V8 k a (i+1)
  simp only[ZI]
  by_cases h:l.frm=k<;>simp[h]<;>omega
def PtIs (h0 h:H)(l:List (Int × V))(P:Int→List Int):Prop:=
 (∀k,(lkA k l=none∧P k=[])∨∃s,lkA k l=some s∧Zr h0 h s 1 ((P k).map encI))∧
 (∀k j s t b,k≠j→lkA k l=some s→lkA j l=some t→Zs s b→¬Zs t b)
theorem opened_ev {h:H}{v:V}{m:Ml}(hw:h.wf)(hm:ZF h v m):Ev fnG Zm (.fn 37 [] []) [v] h fun u h'=>h.Sub h'∧((check m≠0∧u=.tup [.nilp,.ii (check m)])∨
  (check m=0∧∃d pm l L W,u=.tup [.ptr d 0,.ii 0]∧h.next≤d∧h.next≤pm∧v=.agg [.ii m.errs,L,W]∧h'.get d=some (.bk [.ii m.errs,L,W,.map pm])∧h'.get pm=some (.map (encA l))∧PtIs h h' l (parts m))):=by
 have hm0:=hm
 obtain⟨L,W,rfl,aL,aW⟩:=hm
 have hbL:=aL.boundE
 refine Zf (fd:=c37) rfl rfl rfl ?_
 have hs1:h.Sub (h.add (.bk [.ii m.errs,L,W])):=(H.Sub.refl hw).add _
 simp(disch:=omega)only[c37,go_sem]
 refine(Vk hs1.wf (hm0.mono hs1)).mono fun u h2 hu=>?_
 obtain⟨rfl,hs2⟩:=hu
 have g2:h2.cells h.next=some [.ii m.errs,L,W]:=hs2.cells (Zh rfl)
 have l2:h.next<h2.next:=by have:=hs2.next;rw[H.next_add] at this;omega
 have hs12:=hs1.trans hs2
 by_cases c:check m=0
 case neg=>
  simp(disch:=omega)only[go_sem,ne_eq,c,not_false_eq_true]
  exact⟨hs12,.inl trivial⟩
 simp -implicitDefEqProofs(disch:=first|omega|simp only[nZ]<;>omega|fail)only[go_sem,ne_eq,c,not_true_eq_false,g2,aL.lenE]
 have c0:=c
 have hs3:=(hs12.add (.map [])).add (.bk [V.int IntKind.i64 m.errs,L,W,V.map h2.next])
 refine Zi m.lots.length (fun i s=>∃tm h' l,s=⟨tm,h',[]⟩∧h.Sub h'∧h2.next+1<h'.next∧tm.E 5=.ptr (h2.next+1) 0∧tm.E 18=L∧tm.E 19=.ii (m.lots.length:Int)∧tm.E 20=.ii (i:Int)∧
   h'.get (h2.next+1)=some (.bk [.ii m.errs,L,W,.map h2.next])∧h'.get h2.next=some (.map (encA l))∧PtIs h h' l (fun k=>ZI k (m.lots.take i) 0))
  ?_ ?_ (i:=0) (Nat.zero_le _) ⟨_,_,[],rfl,hs3,by simp only[H.next_add];omega,ybb,ybb,ybb,ybb,by rw[Zo (by rw[H.next_add])],by rw[XU (by rw[H.next_add];omega),Zo rfl];rfl,?_⟩
 ·rintro i s hi ⟨tm,h',l,rfl,hs,lt,e5,e18,e19,e20,gd,gp,pt⟩
  have hi':(i:Int)<(m.lots.length:Int):=by omega
  have l12:=hs12.next
  obtain⟨b,o,c,cs,rfl,hc,hq,hg,hn,hn0⟩:=(aL.mono hs).at hi
  obtain⟨x,hx,ox⟩:∃x,found .nils false (lkA m.lots[i].frm l)=x∧Zr h h' x 1 ((ZI m.lots[i].frm (m.lots.take i) 0).map encI):=by
   rcases pt.1 m.lots[i].frm with⟨e1,e2⟩|⟨s,e1,e2⟩
   ·exact⟨_,rfl,by rw[e1];simp only at e2;rw[e2];exact Zr.nil hs 1⟩
   ·exact⟨_,rfl,by rw[e1];exact e2⟩
  simp(disch:=omega)only[go_sem,e5,e18,e19,e20,hi',hq (Zb i),hc,hg,ZO,gd,gp,Za gd,hx]
  have hA:=hs.add (.bk [.ii m.lots[i].frm,.ii m.lots[i].kind])
  have hB:=hA.add (.bk [.ii (i:Int)])
  have sB:h'.Sub ((h'.add (.bk [.ii m.lots[i].frm,.ii m.lots[i].kind])).add (.bk [.ii (i:Int)])):=((H.Sub.refl hs.wf).add _).add _
  have hle:=V8 m.lots[i].frm (m.lots.take i) 0
  rw[List.length_take] at hle
  have hck:m.lots.length≤12:=by
   unfold check at c0
   by_cases hc1:1≤(m.lots.length:Int)∧(m.lots.length:Int)≤12
   ·omega
   ·simp[hc1] at c0
  refine Zr.app (ox.mono sB) hw (new:=[encI i]) (by simp) (by simp[encI]) (by simp -implicitDefEqProofs(disch:=first|omega|simp only[nZ]<;>omega|fail)only[go_sem,encI,List.flatten_cons,List.flatten_nil]) (by simp[lenV]) (by simp[encI,Z5,V.one]) (by simp only[List.length_map,List.length_singleton];omega) (by simp only[List.length_map,List.length_singleton];omega) fun h5 own5 k5 n5=>?_
  have npm:∀b,Zs x b→b≠h2.next:=fun b hb e=>by
   have:=(ox.blk hb).2.2
   rw[e,gp] at this;cases this
  have nd:∀b,Zs x b→b≠h2.next+1:=fun b hb e=>by
   have:=(ox.blk hb).2.2
   rw[e,gd] at this;cases this
  have nx:∀b,Zs x b→b<h'.next:=fun b hb=>(ox.blk hb).2.1
  have gd5:h5.get (h2.next+1)=some (.bk [.ii m.errs,.sl b o m.lots.length c,W,.map h2.next]):=k5.2 _ _ (sB.get gd) fun hb=>nd _ hb rfl
  have gp5:h5.get h2.next=some (.map (encA l)):=k5.2 _ _ (sB.get gp) fun hb=>npm _ hb rfl
  have ga5:h5.cells h'.next=some [.ii m.lots[i].frm,.ii m.lots[i].kind]:=k5.cells ybj fun hb=>by have:=nx _ hb;omega
  have hl5:h5.next=h'.next+3:=by rw[n5];simp only[H.next_add]
  have l2n:h2.next<h'.next:=by omega
  have hbw:h'.cells b=some cs:=hc
  simp -implicitDefEqProofs(disch:=first|omega|simp only[nZ]<;>omega|fail)only[go_sem,e5,e18,e19,e20,gd5,gp5,ga5,Za gd5,gd,gp,Za gd,hx,Ze]
  have q6:ZI m.lots[i].frm (m.lots.take (i+1)) 0=ZI m.lots[i].frm (m.lots.take i) 0++[(i:Int)]:=by
   rw[List.take_succ_eq_append_getElem hi,Wu]
   simp[ZI];omega
  have q7:∀k,k≠m.lots[i].frm→ZI k (m.lots.take (i+1)) 0=ZI k (m.lots.take i) 0:=fun k hk=>by
   rw[List.take_succ_eq_append_getElem hi,Wu]
   have:¬m.lots[i].frm=k:=fun e=>hk e.symm
   simp[ZI,this]
  have hb6:∀b,Zs (.sl (h'.next+1+1) 0 ((List.map encI (ZI m.lots[i].frm (List.take i m.lots) 0)).length+1) (.slk 0 0)) b→b=h'.next+2:=by
   rintro b ⟨o,n,c,e⟩;cases e;rfl
  have k6:=Zq.set h5 h2.next (.map (encA (putA m.lots[i].frm (.sl (h'.next+1+1) 0 ((List.map encI (ZI m.lots[i].frm (List.take i m.lots) 0)).length+1) (.slk 0 0)) l)))
  have hs6:=own5.1.set hs12.next (by omega:h2.next<h5.next) hw (.map (encA (putA m.lots[i].frm (.sl (h'.next+1+1) 0 ((List.map encI (ZI m.lots[i].frm (List.take i m.lots) 0)).length+1) (.slk 0 0)) l)))
  refine⟨_,_,putA m.lots[i].frm (.sl (h'.next+1+1) 0 ((List.map encI (ZI m.lots[i].frm (List.take i m.lots) 0)).length+1) (.slk 0 0)) l,rfl,hs6,by rw[H.next_set];omega,(by simp[Zn,Zd,e5]<;>rfl),(by simp[Zn,Zd,e18]<;>rfl),(by simp[Zn,Zd,e19]<;>rfl),ybb,by rw[get_set_other ybd];exact gd5,get_set_same rfl,fun k=>?_,fun k j s t b hkj hk hj hbs hbt=>?_⟩
  ·rw[lkA_putA]
   by_cases hk:k=m.lots[i].frm
   ·subst hk
    refine .inr ⟨_,if_pos rfl,?_⟩
    dsimp only
    rw[q6,List.map_append]
    have o5:=own5
    simp only[H.next_add,List.length_singleton] at o5
    exact o5.keep k6 hs6 fun b hb e=>by have:=hb6 b hb;omega
   ·rw[if_neg hk]
    rcases pt.1 k with⟨e1,e2⟩|⟨s,e1,e2⟩
    ·exact .inl ⟨e1,by dsimp only;rw[q7 k hk];exact e2⟩
    ·refine .inr ⟨s,e1,?_⟩
     dsimp only
     rw[q7 k hk]
     have os:=e2.mono sB
     have nsx:∀b,Zs s b→¬Zs x b:=fun b hb hbx=>by
      rcases pt.1 m.lots[i].frm with⟨f1,f2⟩|⟨s',f1,f2⟩
      ·rw[f1] at hx;obtain⟨_,_,_,e⟩:=hbx;rw[←hx] at e;cases e
      ·rw[f1] at hx;exact pt.2 k _ s s' b hk e1 f1 hb (by rw[←hx] at hbx;exact hbx)
     refine(os.keep k5 own5.1 nsx).keep k6 hs6 fun b hb e=>?_
     have:=(e2.blk hb).2.2
     rw[e,gp] at this;cases this
  ·rw[lkA_putA] at hk hj
   by_cases hk1:k=m.lots[i].frm
   ·have hj1:¬j=m.lots[i].frm:=fun e=>hkj (hk1.trans e.symm)
    rw[if_pos hk1] at hk
    rw[if_neg hj1] at hj
    cases hk
    have:=hb6 b hbs
    rcases pt.1 j with⟨e1,_⟩|⟨s',e1,e2⟩
    ·rw[e1] at hj;cases hj
    ·rw[e1] at hj;cases hj
     have:=(e2.blk hbt).2.1;omega
   ·rw[if_neg hk1] at hk
    by_cases hj1:j=m.lots[i].frm
    ·rw[if_pos hj1] at hj
     cases hj
     have:=hb6 b hbt
     rcases pt.1 k with⟨e1,_⟩|⟨s',e1,e2⟩
     ·rw[e1] at hk;cases hk
     ·rw[e1] at hk;cases hk
      have:=(e2.blk hbs).2.1;omega
    ·rw[if_neg hj1] at hj
     exact pt.2 k j s t b hkj hk hj hbs hbt
 ·rintro s ⟨tm,h',l,rfl,hs,lt,e5,e18,e19,e20,gd,gp,pt⟩
  simp(disch:=omega)only[go_sem,e5,e18,e19,e20,Int.lt_irrefl]
  rw[List.take_length] at pt
  exact⟨hs,.inr ⟨_,_,l,L,W,rfl,by omega,by omega,rfl,gd,gp,pt⟩⟩
 ·exact⟨fun k=>.inl ⟨rfl,by simp[ZI]⟩,fun k j s t b _ hk=>by cases hk⟩
end Go.Ab.Tryz
namespace Go.Ab.Tryz
structure Good (m:Ml):Prop where
 lots:1≤m.lots.length∧m.lots.length≤12
 wgs:m.wgs.length≤10
 errs:0≤m.errs∧m.errs≤50
 wg:∀w∈m.wgs,(0≤w.reads∧w.reads≤10000)∧(0≤w.lo∧w.lo≤60)∧(0≤w.hi∧w.hi≤60)
 kind:∀l∈m.lots,0≤l.kind∧l.kind≤3
 frm:∀i (hi:i<m.lots.length), -1≤m.lots[i].frm∧m.lots[i].frm≤(i:Int)-1
 lot:∀w∈m.wgs,0≤w.lot∧w.lot≤(m.lots.length:Int)-1
 ord:∀w∈m.wgs,w.lo≤w.hi
theorem fromsOk_iff:∀(l:List Lt) (k:Nat),Yj l k=true↔∀i (hi:i<l.length), -1≤l[i].frm∧l[i].frm≤((k+i:Nat):Int)-1
 |[],k=>by simp[Yj]
 |l::r,k=>by
  simp only[Yj,Bool.and_eq_true,decide_eq_true_eq,fromsOk_iff r (k+1)]
  constructor
  ·rintro⟨h1,h2⟩ i hi
   cases i with
   |zero=>simpa using h1
   |succ i=>
    have:=h2 i (by simpa using hi)
    simp only[List.getElem_cons_succ]
    have e:k+1+i=k+(i+1):=by omega
    rw[e] at this;exact this
  ·intro h
   refine⟨by have:=h 0 (by simp);simp only[List.getElem_cons_zero] at this;simpa using this,fun i hi=>?_⟩
   have:=h (i+1) (by simpa using hi)
   simp only[List.getElem_cons_succ] at this
   have e:k+1+i=k+(i+1):=by omega
   rw[e];exact this
theorem ZJ {m:Ml}(h:check m=0):Good m:=by
 unfold check at h
 repeat' split at h
 all_goals first|(exfalso;revert h;decide)|skip
 rename_i c1 c2 c3 c4 c5 c6 c7 c8
 simp only[Bool.not_eq_false] at c4 c5 c6 c7 c8
 rw[List.all_eq_true] at c4 c5 c7 c8
 rw[fromsOk_iff] at c6
 refine⟨by omega,by omega,by omega,fun w hw=>by simpa[XH] using c4 w hw,fun l hl=>by simpa[ZA] using c5 l hl,fun i hi=>by simpa using c6 i hi,fun w hw=>by simpa[inB] using c7 w hw,fun w hw=>by simpa using c8 w hw⟩
def WL (h:H)(d:Nat)(m:Ml):Prop:=∃pm l L W,h.get d=some (.bk [.ii m.errs,L,W,.map pm])∧h.get pm=some (.map (encA l))∧Zk h L 2 (m.lots.map ZO)∧Zk h W 4 (m.wgs.map Zy)∧
 ∀k,Zk h (found .nils false (lkA k l)) 1 ((parts m k).map encI)
theorem WL.mono {h h':H}{d:Nat}{m:Ml}(a:WL h d m)(hs:h.Sub h'):WL h' d m:=by
 obtain⟨pm,l,L,W,a1,a2,a3,a4,a5⟩:=a
 exact⟨pm,l,L,W,hs.get a1,hs.get a2,a3.mono hs,a4.mono hs,fun k=>(a5 k).mono hs⟩
theorem ZV (m:Ml)(k:Int):(parts m k).length≤m.lots.length:=V8 k m.lots 0
theorem XQ {h:H}{v:V}{m:Ml}(hw:h.wf)(hm:ZF h v m):Ev fnG Zm (.fn 37 [] []) [v] h fun u h'=>h.Sub h'∧((check m≠0∧u=.tup [.nilp,.ii (check m)])∨
  (check m=0∧∃d,u=.tup [.ptr d 0,.ii 0]∧WL h' d m)):=by
 refine(opened_ev hw hm).mono fun u h' hu=>?_
 obtain⟨hs,hu|⟨c,d,pm,l,L,W,e1,_,_,e2,g1,g2,pt⟩⟩:=hu
 ·exact⟨hs,.inl hu⟩
 ·refine⟨hs,.inr ⟨c,d,e1,pm,l,L,W,g1,g2,?_,?_,fun k=>?_⟩⟩
  ·obtain⟨L',W',e,aL,aW⟩:=hm
   rw[e2] at e;cases e;exact aL.mono hs
  ·obtain⟨L',W',e,aL,aW⟩:=hm
   rw[e2] at e;cases e;exact aW.mono hs
  ·have hl:=ZV m k
   have hg:=(ZJ c).lots
   rcases pt.1 k with⟨f1,f2⟩|⟨s,f1,f2⟩
   ·rw[f1,f2];exact(Zr.nil hs 1).sl (by simp)
   ·rw[f1];exact f2.sl (by simp only[List.length_map];omega)
theorem least_ev {h:H}{x:V}{l:List Int}(hx:Zk h x 1 (l.map encI))(n:Int)(Q:V→H→Prop):Ev fnG Zm (.fn 92 [] []) [.ii n,x] h Q=Q (.ii (l.foldl min n)) h:=by
 have hb:=hx.boundE
 refine Ev.det (Zf (fd:=c92) rfl rfl rfl ?_) Q
 simp(disch:=omega)only[c92,go_sem,hx.lenE]
 refine Zi l.length (fun i s=>∃tm,s=⟨tm,h,[]⟩∧tm.E 7=x∧tm.E 8=.ii (l.length:Int)∧tm.E 9=.ii (i:Int)∧tm.E 0=.ii ((l.take i).foldl min n))
  ?_ ?_ (i:=0) (Nat.zero_le _) ⟨_,rfl,ybb,ybb,ybb,ybb⟩
 ·rintro i s hi ⟨tm,rfl,e7,e8,e9,e0⟩
  have hi':(i:Int)<(l.length:Int):=by omega
  obtain⟨b,o,c,cs,rfl,hc,hq,hg,hn,hn0⟩:=hx.at hi
  simp(disch:=omega)only[go_sem,e7,e8,e9,e0,hi',hq (Zb i),hc,hn0 ybd,encI,Ze]
  refine⟨_,rfl,ybn,(by simp[Zn,Zd,e8]<;>rfl),ybb,?_⟩
  rw[List.take_succ_eq_append_getElem hi,List.foldl_append]
  simp only[Zd, ↓reduceIte,Nat.reduceEqDiff,List.foldl]
 ·rintro s ⟨tm,rfl,e7,e8,e9,e0⟩
  simp(disch:=omega)only[go_sem,e7,e8,e9,e0,Int.lt_irrefl]
  rw[List.take_length]
theorem least_use {h:H}{x:V}{l:List Int}(hx:Zk h x 1 (l.map encI)){n:Int}{Q:V→H→Prop}(q:Q (.ii (l.foldl min n)) h):Ev fnG Zm (.fn 92 [] []) [.ii n,x] h Q:=by
 rw[least_ev hx];exact q
def Z8 (m:Ml)(w:Wg):Int:=(100*max 0 (w.reads-m.errs)+(100+w.hi)-1).tdiv (100+w.hi)
def Z1 (m:Ml)(w:Wg):Int:=min 10000 ((100*(w.reads+m.errs)).tdiv (100+w.lo))
theorem tdiv_le {a b:Int}(ha:0≤a)(hb:1≤b):0≤a.tdiv b∧a.tdiv b≤a:=by
 rw[Int.tdiv_eq_ediv_of_nonneg ha]
 exact⟨Int.ediv_nonneg ha ybd,Int.ediv_le_self _ ha⟩
theorem V3 {h:H}{d:Nat}{m:Ml}(hw:h.wf)(hd:WL h d m)(g:Good m){i:Nat}(hi:i<m.wgs.length):Ev fnG Zm (.fn 83 [] []) [.ptr d 0,.ii (i:Int)] h fun v h'=>
  v=.agg [.ii (Z8 m m.wgs[i]),.ii (Z1 m m.wgs[i])]∧h.Sub h':=by
 obtain⟨pm,l,L,W,g1,g2,aL,aW,ap⟩:=hd
 have hld:=hw d _ g1
 obtain⟨b,o,c,cs,rfl,hc,hq,hg,hn,hn0⟩:=aW.at hi
 have hlb:b<h.next:=by obtain⟨k,hk⟩:=H.cells_eq hc;exact hw b _ hk
 have w1:=g.wg _ (List.getElem_mem hi)
 have w2:=g.errs
 refine Zf (fd:=c83) rfl rfl rfl ?_
 have q1:=tdiv_le (a:=100*max 0 (m.wgs[i].reads - m.errs)+(100+m.wgs[i].hi)-1) (b:=100+m.wgs[i].hi) ybd ybd
 have q2:=tdiv_le (a:=100*(m.wgs[i].reads+m.errs)) (b:=100+m.wgs[i].lo) ybd ybd
 simp -implicitDefEqProofs(disch:=first|omega|simp only[nZ]<;>omega|fail)only[c83,go_sem,Za g1,hq (Zb i),hc,hg,Zy,ZD,YO]
 refine least_use (l:=[(100*(m.wgs[i].reads+m.errs)).tdiv (100+m.wgs[i].lo)]) (Zk.new _ (by simp only[H.next_add]) (by rfl) (by rfl) (by simp[encI]) (by simp)) ?_
 simp -implicitDefEqProofs(disch:=first|omega|simp only[nZ]<;>omega|fail)only[go_sem,Za g1,List.foldl]
 exact⟨rfl,yba⟩
end Go.Ab.Tryz
namespace Go.Ab.Tryz
theorem XZ {α:Type}{enc:α→List V}(h:∀a,Z5 (enc a)=true)(l:List α):Z5 (l.map enc).flatten=true:=by
 rw[W8]
 intro v hv
 obtain⟨r,hr,hvr⟩:=List.mem_flatten.1 hv
 obtain⟨a,_,rfl⟩:=List.mem_map.1 hr
 exact W8.1 (h a) v hvr
theorem dupLot_ev {h:H}{x:V}{l:List Lt}(hw:h.wf)(hx:Zk h x 2 (l.map ZO))(hl:l.length≤1000000)(Q:V→H→Prop):
  Ev fnG Zm (.fn 98 [] []) [x] h Q=Q (.sl h.next 0 l.length (.fix l.length)) (h.add (.bk (l.map ZO).flatten)):=by
 refine Ev.det (Zf (fd:=c98) rfl rfl rfl ?_) Q
 simp(disch:=omega)only[c98,go_sem,hx.lenE,a_msl_0n]
 have:=dup_core (by_:=16) (z:=[.ii 0,.ii 0]) hx hw rfl ybd (XZ (fun a=>rfl) l)
 rw[List.length_map] at this
 simp(disch:=omega)only[go_sem,this]
theorem dupWg_ev {h:H}{x:V}{l:List Wg}(hw:h.wf)(hx:Zk h x 4 (l.map Zy))(hl:l.length≤1000000)(Q:V→H→Prop):
  Ev fnG Zm (.fn 99 [] []) [x] h Q=Q (.sl h.next 0 l.length (.fix l.length)) (h.add (.bk (l.map Zy).flatten)):=by
 refine Ev.det (Zf (fd:=c99) rfl rfl rfl ?_) Q
 simp(disch:=omega)only[c99,go_sem,hx.lenE,a_msl_0n]
 have:=dup_core (by_:=32) (z:=[.ii 0,.ii 0,.ii 0,.ii 0]) hx hw rfl ybd (XZ (fun a=>rfl) l)
 rw[List.length_map] at this
 simp(disch:=omega)only[go_sem,this]
theorem dupInt_ev {h:H}{x:V}{l:List Int}(hw:h.wf)(hx:Zk h x 1 (l.map encI))(hl:l.length≤1000000)(Q:V→H→Prop):
  Ev fnG Zm (.fn 23 [] []) [x] h Q=Q (.sl h.next 0 l.length (.fix l.length)) (h.add (.bk (l.map encI).flatten)):=by
 refine Ev.det (Zf (fd:=c23) rfl rfl rfl ?_) Q
 simp(disch:=omega)only[c23,go_sem,hx.lenE,a_msl_0n]
 have:=dup_core (by_:=8) (z:=[.ii 0]) hx hw rfl ybd (XZ (fun a=>rfl) l)
 rw[List.length_map] at this
 simp(disch:=omega)only[go_sem,this]
theorem dupKind_ev {h:H}{x:V}{l:List Int}(hw:h.wf)(hx:Zk h x 1 (l.map encI))(hl:l.length≤1000000)(Q:V→H→Prop):
  Ev fnG Zm (.fn 60 [] []) [x] h Q=Q (.sl h.next 0 l.length (.fix l.length)) (h.add (.bk (l.map encI).flatten)):=by
 refine Ev.det (Zf (fd:=c60) rfl rfl rfl ?_) Q
 simp(disch:=omega)only[c60,go_sem,hx.lenE,a_msl_0n]
 have:=dup_core (by_:=8) (z:=[.ii 0]) hx hw rfl ybd (XZ (fun a=>rfl) l)
 rw[List.length_map] at this
 simp(disch:=omega)only[go_sem,this]
theorem own_ev {h:H}{v:V}{m:Ml}(hw:h.wf)(hm:ZF h v m)(hl:m.lots.length≤1000∧m.wgs.length≤1000):Ev fnG Zm (.fn 41 [] []) [v] h fun u h'=>h.Sub h'∧∃a b,u=.agg [.ii m.errs,.sl a 0 m.lots.length (.fix m.lots.length),.sl b 0 m.wgs.length (.fix m.wgs.length)]∧
  h.next≤a∧a<h'.next∧h.next≤b∧b<h'.next∧a≠b∧h'.get a=some (.bk (m.lots.map ZO).flatten)∧h'.get b=some (.bk (m.wgs.map Zy).flatten):=by
 obtain⟨L,W,rfl,aL,aW⟩:=hm
 refine Zf (fd:=c41) rfl rfl rfl ?_
 have s2:h.Sub ((h.add (.bk [.ii m.errs,L,W])).add (.bk [.ii 0,.nils,.nils])):=yba
 have s3:=s2.add (.bk (m.lots.map ZO).flatten)
 have w2:=s2.wf
 have w3:=s3.wf
 simp -implicitDefEqProofs(disch:=first|omega|simp only[nZ]<;>omega|fail)only[c41,go_sem,dupLot_ev w2 (aL.mono s2) ybd,dupWg_ev w3 (aW.mono s3) ybd,aL.lenE,aW.lenE]
 refine⟨yba,h.next+1+1,h.next+1+1+1,rfl,by omega,by omega,by omega,by omega,by omega,?_,?_⟩
 ·simp -implicitDefEqProofs(disch:=first|omega|simp only[nZ]<;>omega|fail)only[go_sem]
 ·simp -implicitDefEqProofs(disch:=first|omega|simp only[nZ]<;>omega|fail)only[go_sem]
theorem ZF.own {h:H}{m:Ml}{a b:Nat}(hl:m.lots.length≤1000∧m.wgs.length≤1000)(ha:h.get a=some (.bk (m.lots.map ZO).flatten))(hb:h.get b=some (.bk (m.wgs.map Zy).flatten)):
  ZF h (.agg [.ii m.errs,.sl a 0 m.lots.length (.fix m.lots.length),.sl b 0 m.wgs.length (.fix m.wgs.length)]) m:=by
 have f1:∀r∈m.lots.map ZO,r.length=2:=by simp[ZO]
 have f2:∀r∈m.wgs.map Zy,r.length=4:=by simp[Zy]
 refine⟨_,_,rfl,⟨f1,by simp;omega,.inr ⟨a,0,.fix m.lots.length,_,by simp,.inr (Za ha),Z9.2 ⟨?_,?_⟩⟩⟩,⟨f2,by simp;omega,.inr ⟨b,0,.fix m.wgs.length,_,by simp,.inr (Za hb),Z9.2 ⟨?_,?_⟩⟩⟩⟩
 ·rw[List.drop_zero,←Zp f1,List.take_length]
 ·rw[Zp f1];omega
 ·rw[List.drop_zero,←Zp f2,List.take_length]
 ·rw[Zp f2];omega
theorem Says_ev {h:H}{v:V}{m:Ml}(hw:h.wf)(hm:ZF h v m)(n:Int):Ev fnG Zm (.fn 49 [] []) [v,.ii n] h fun u h'=>h.Sub h'∧∃lo hi e,u=.tup [.agg [.ii lo,.ii hi],.ii e]∧
  ((check m≠0∧e=check m∧lo=0∧hi=0)∨(check m=0∧¬(0≤n∧n≤(m.wgs.length:Int)-1)∧e=1∧lo=0∧hi=0)∨
   (check m=0∧∃i:Nat,∃hi':i<m.wgs.length,n=(i:Int)∧((Z1 m m.wgs[i]<Z8 m m.wgs[i]∧e=6∧lo=0∧hi=0)∨(Z8 m m.wgs[i]≤Z1 m m.wgs[i]∧e=0∧lo=Z8 m m.wgs[i]∧hi=Z1 m m.wgs[i])))):=by
 refine Ev.gen fun Q q=>?_
 have hm0:=hm
 obtain⟨L,W,rfl,aL,aW⟩:=hm
 refine Zf (fd:=c49) rfl rfl rfl ?_
 have s2:h.Sub ((h.add (.bk [.ii m.errs,L,W])).add (.bk [.ii 0,.ii 0])):=yba
 have w2:=s2.wf
 simp -implicitDefEqProofs(disch:=first|omega|simp only[nZ]<;>omega|fail)only[c49,go_sem]
 refine(XQ w2 (hm0.mono s2)).mono fun u h3 hu=>?_
 obtain⟨s23,hu⟩:=hu
 have l3:=s23.next
 simp only[H.next_add] at l3
 have s3:=s2.trans s23
 have g1:h3.cells h.next=some [.ii m.errs,L,W]:=s23.cells ybj
 have g2:h3.get (h.next+1)=some (.bk [.ii 0,.ii 0]):=s23.get ybj
 rcases hu with⟨c,rfl⟩|⟨c,d,rfl,hd⟩
 ·simp(disch:=omega)only[go_sem,c,ne_eq,not_false_eq_true,g1,g2]
  exact q _ _ ⟨yba,0,0,check m,rfl,.inl ⟨c,rfl,rfl,rfl⟩⟩
 simp(disch:=omega)only[go_sem,ne_eq,not_true_eq_false,g1,g2]
 refine weighing_ev (hm0.mono s3) n _ (fun h4 s34=>?_) s3.wf
 have l4:=s34.next
 have s4:=s3.trans s34
 have g4:=s34.get g2
 cases hn:inB n 0 ((m.wgs.length:Int)-1)
 ·simp(disch:=omega)only[go_sem,g4]
  refine q _ _ ⟨yba,0,0,1,rfl,.inr (.inl ⟨c,by simpa[inB] using hn,rfl,rfl,rfl⟩)⟩
 simp only[inB,decide_eq_true_eq] at hn
 obtain⟨i,rfl⟩:=Int.eq_ofNat_of_zero_le hn.1
 have hi:i<m.wgs.length:=by omega
 simp(disch:=omega)only[go_sem]
 refine(V3 s4.wf (hd.mono s34) (ZJ c) hi).mono fun u h5 hu=>?_
 obtain⟨rfl,s45⟩:=hu
 have l5:=s45.next
 have s5:=s4.trans s45
 have g5:=s45.get g4
 by_cases c2:Z1 m m.wgs[i]<Z8 m m.wgs[i]
 ·simp(disch:=omega)only[go_sem,g5,c2]
  exact q _ _ ⟨yba,0,0,6,rfl,.inr (.inr ⟨c,i,hi,rfl,.inl ⟨c2,rfl,rfl,rfl⟩⟩)⟩
 ·simp(disch:=omega)only[go_sem,g5,c2]
  exact q _ _ ⟨yba,_,_,0,rfl,.inr (.inr ⟨c,i,hi,rfl,.inr ⟨by omega,rfl,rfl,rfl⟩⟩)⟩
end Go.Ab.Tryz
namespace Go.Ab.Tryz
theorem Z4 (h:H)(Q:V→H→Prop):Ev fnG Zm (.fn 16 [] []) [] h Q=Q (.bool true) h:=Ev.det ⟨1,.bool true,h,rfl,rfl,rfl⟩ Q
theorem q_feq_2 (ng:Bool)(a b c d:Int):q_feq ng 2 (.agg [.ii a,.ii b]) (.agg [.ii c,.ii d])=some (.bool (ngB ng (decide (a=c∧b=d)))):=by
 have:=VE (n:=2) [a,b] [c,d] rfl rfl ng
 simp only[List.map_cons,List.map_nil,iv,List.cons.injEq,and_true] at this
 exact this
def Xo (m:Ml):Bool:=decide (20<(m.lots.length:Int)∨14<(m.wgs.length:Int))
theorem VK {h:H}{v:V}{m:Ml}(hw:h.wf)(hm:ZF h v m)(Q:V→H→Prop)(q:∀h',h.Sub h'→Q (.bool (Xo m)) h'):Ev fnG Zm (.fn 40 [] []) [v] h Q:=by
 obtain⟨L,W,rfl,aL,aW⟩:=hm
 refine Zf (fd:=c40) rfl rfl rfl ?_
 by_cases c1:20<(m.lots.length:Int)
 ·simp(disch:=omega)only[c40,go_sem,aL.lenE,aW.lenE,c1]
  have:=q _ ((H.Sub.refl hw).add (.bk [.ii m.errs,L,W]))
  simpa[Xo,c1] using this
 ·simp(disch:=omega)only[c40,go_sem,aL.lenE,aW.lenE,c1]
  have:=q _ ((H.Sub.refl hw).add (.bk [.ii m.errs,L,W]))
  simpa[Xo,c1] using this
theorem YC (n lo hi:Int)(h:H)(Q:V→H→Prop):Ev fnG Zm (.fn 100 [] []) [.ii n,.ii lo,.ii hi] h Q=Q (.bool (!inB n lo hi)) h:=by
 refine Ev.det (Zf (fd:=c100) rfl rfl rfl ?_) Q
 by_cases h1:n<lo
 ·have:inB n lo hi=false:=by simp[inB];omega
  simp only[c100,go_sem,h1,this]
 ·have:(!inB n lo hi)=decide (hi<n):=by rw[Bool.eq_iff_iff];simp[inB];omega
  simp only[c100,go_sem,h1,this]
def rowL (l:Lt):List Int:=[l.frm,l.kind]
def rowW (w:Wg):List Int:=[w.lot,w.reads,w.lo,w.hi]
instance:DecidableEq Lt:=fun a b=>decidable_of_iff (rowL a=rowL b) ⟨fun h=>by cases a;cases b;simp[rowL] at h;simp[h],fun h=>by rw[h]⟩
instance:DecidableEq Wg:=fun a b=>decidable_of_iff (rowW a=rowW b) ⟨fun h=>by cases a;cases b;simp[rowW] at h;simp[h],fun h=>by rw[h]⟩
instance:DecidableEq Ml:=fun a b=>decidable_of_iff (a.errs=b.errs∧a.lots=b.lots∧a.wgs=b.wgs) ⟨fun h=>by cases a;cases b;simp at h;simp[h],fun h=>by rw[h];exact⟨rfl,rfl,rfl⟩⟩
theorem rowL_inj {a b:List Lt}:a.map rowL=b.map rowL↔a=b:=by
 refine⟨fun h=>?_,fun h=>by rw[h]⟩
 refine List.map_inj_right (f:=rowL) (fun x y hxy=>?_) |>.1 h
 cases x;cases y;simp[rowL] at hxy;simp[hxy]
theorem rowW_inj {a b:List Wg}:a.map rowW=b.map rowW↔a=b:=by
 refine⟨fun h=>?_,fun h=>by rw[h]⟩
 refine List.map_inj_right (f:=rowW) (fun x y hxy=>?_) |>.1 h
 cases x;cases y;simp[rowW] at hxy;simp[hxy]
theorem eqLots_ev {l r:List Lt}{h:H}{x y:V}(hx:Zk h x 2 (l.map ZO))(hy:Zk h y 2 (r.map ZO))(Q:V→H→Prop):Ev fnG Zm (.fn 103 [] []) [x,y] h Q=Q (.bool (decide (l=r))) h:=by
 rw[eqLot_ev (l:=l.map rowL) (r:=r.map rowL) (by rw[List.map_map];exact hx) (by rw[List.map_map];exact hy)]
 simp only[rowL_inj]
theorem eqWgs_ev {l r:List Wg}{h:H}{x y:V}(hx:Zk h x 4 (l.map Zy))(hy:Zk h y 4 (r.map Zy))(Q:V→H→Prop):Ev fnG Zm (.fn 104 [] []) [x,y] h Q=Q (.bool (decide (l=r))) h:=by
 rw[eqWg_ev (l:=l.map rowW) (r:=r.map rowW) (by rw[List.map_map];exact hx) (by rw[List.map_map];exact hy)]
 simp only[rowW_inj]
theorem WW {h:H}{v u:V}{m n:Ml}(hw:h.wf)(hm:ZF h v m)(hn:ZF h u n)(Q:V→H→Prop)(q:∀h',h.Sub h'→Q (.bool (decide (m=n))) h'):Ev fnG Zm (.fn 51 [] []) [v,u] h Q:=by
 obtain⟨me,ml,mw⟩:=m
 obtain⟨ne,nl,nw⟩:=n
 obtain⟨L,W,rfl,aL,aW⟩:=hm
 obtain⟨L',W',rfl,bL,bW⟩:=hn
 dsimp only at aL aW bL bW
 refine Zf (fd:=c51) rfl rfl rfl ?_
 have s2:h.Sub ((h.add (.bk [.ii me,L,W])).add (.bk [.ii ne,L',W'])):=((H.Sub.refl hw).add _).add _
 have q':=q _ s2
 simp only[Ml.mk.injEq] at q'
 have r1:=eqLots_ev (aL.mono s2) (bL.mono s2)
 have r2:=eqWgs_ev (aW.mono s2) (bW.mono s2)
 by_cases c1:me=ne
 ·subst c1
  cases c2:decide (ml=nl)
  ·rw[c2] at r1
   simp -implicitDefEqProofs(disch:=first|omega|simp only[nZ]<;>omega|fail)only[c51,go_sem,r1,r2,decide_eq_true rfl]
   have:¬(True∧ml=nl∧mw=nw):=by simp at c2;simp[c2]
   simpa[this] using q'
  ·rw[c2] at r1
   simp -implicitDefEqProofs(disch:=first|omega|simp only[nZ]<;>omega|fail)only[c51,go_sem,r1,r2,decide_eq_true rfl]
   have:ml=nl:=by simpa using c2
   simpa[this] using q'
 ·simp -implicitDefEqProofs(disch:=first|omega|simp only[nZ]<;>omega|fail)only[c51,go_sem,r1,r2,c1]
  simpa[c1] using q'
theorem all_step {α:Type}{l:List α}{p:α→Bool}{i:Nat}(hi:i<l.length)(h:(l.take i).all p=true)(h2:p l[i]=true):(l.take (i+1)).all p=true:=by
 rw[List.take_succ_eq_append_getElem hi,List.all_append,h];simp[h2]
theorem all_false {α:Type}{l:List α}{p:α→Bool}{i:Nat}(hi:i<l.length)(h2:p l[i]=false):l.all p=false:=by
 rw[Bool.eq_false_iff];intro h
 rw[List.all_eq_true] at h
 rw[h _ (List.getElem_mem hi)] at h2;cases h2
theorem Xn {h:H}{v:V}{m:Ml}(hw:h.wf)(hm:ZF h v m):Ev fnG Zm (.fn 43 [] []) [v] h fun u h'=>u=.ii (check m)∧h.Sub h':=by
 refine Ev.gen fun Q q=>?_
 obtain⟨L,W,rfl,aL,aW⟩:=hm
 have hbL:=aL.boundE
 have hbW:=aW.boundE
 refine Zf (fd:=c43) rfl rfl rfl ?_
 have hs1:h.Sub (h.add (.bk [.ii m.errs,L,W])):=(H.Sub.refl hw).add _
 by_cases c1:1≤(m.lots.length:Int)∧(m.lots.length:Int)≤12
 case neg=>
  have e1:inB (m.lots.length:Int) 1 12=false:=by simpa[inB] using c1
  simp(disch:=omega)only[c43,go_sem,YC,aL.lenE,e1]
  exact q _ _ ⟨by simp[check,c1],hs1⟩
 have e1:inB (m.lots.length:Int) 1 12=true:=by simpa[inB] using c1
 by_cases c2:10<(m.wgs.length:Int)
 case pos=>
  simp(disch:=omega)only[c43,go_sem,YC,aL.lenE,aW.lenE,e1,c2]
  exact q _ _ ⟨by simp only[check,c1,c2,not_true_eq_false,and_self, ↓reduceIte],hs1⟩
 by_cases c3:0≤m.errs∧m.errs≤50
 case neg=>
  have e3:inB m.errs 0 50=false:=by simpa[inB] using c3
  simp(disch:=omega)only[c43,go_sem,YC,aL.lenE,aW.lenE,e1,c2,e3]
  exact q _ _ ⟨by simp only[check,c1,c2,c3,not_true_eq_false,not_false_eq_true,and_self, ↓reduceIte],hs1⟩
 have e3:inB m.errs 0 50=true:=by simpa[inB] using c3
 simp(disch:=omega)only[c43,go_sem,YC,aL.lenE,aW.lenE,e1,c2,e3]
 refine Zi m.wgs.length (fun i s=>∃tm h',s=⟨tm,h',[]⟩∧(h.add (.bk [.ii m.errs,L,W])).Sub h'∧tm.E 1=.ptr h.next 0∧tm.E 3=.ii (i:Int)∧(m.wgs.take i).all XH=true)
  ?_ ?_ (i:=0) (Nat.zero_le _) ⟨_,_,rfl,H.Sub.refl hs1.wf,ybb,ybb,rfl⟩
 ·rintro i s hi ⟨tm,h',rfl,hs,e1',e3',e9⟩
  have hi':(i:Int)<(m.wgs.length:Int):=by omega
  have g1:h'.cells h.next=some [.ii m.errs,L,W]:=hs.cells (Zh rfl)
  have l1:=hs.next
  rw[H.next_add] at l1
  obtain⟨b,o,c,cs,rfl,hc,hq,hg,hn,hn0⟩:=(aW.mono (hs1.trans hs)).at hi
  have hs4:=hs.add (.bk (Zy m.wgs[i]))
  have hlen:=aW.lenE
  by_cases d1:0≤m.wgs[i].reads∧m.wgs[i].reads≤10000<;>by_cases d2:0≤m.wgs[i].lo∧m.wgs[i].lo≤60<;>by_cases d3:0≤m.wgs[i].hi∧m.wgs[i].hi≤60<;>
   (have f1:inB m.wgs[i].reads 0 10000=decide (0≤m.wgs[i].reads∧m.wgs[i].reads≤10000):=rfl
    have f2:inB m.wgs[i].lo 0 60=decide (0≤m.wgs[i].lo∧m.wgs[i].lo≤60):=rfl
    have f3:inB m.wgs[i].hi 0 60=decide (0≤m.wgs[i].hi∧m.wgs[i].hi≤60):=rfl
    simp(disch:=omega)only[go_sem,e1',e3',g1,hlen,hi',hq (Zb i),hc,hg,Zy,YC,f1,f2,f3,d1,d2,d3,and_self,Ze])
  case pos=>exact⟨_,_,rfl,hs4,ybg,ybb,all_step hi e9 (by simp only[XH,d1,d2,d3,and_self,decide_true])⟩
  all_goals
   have hf:m.wgs.all XH=false:=all_false hi (by simp only[XH,d1,d2,d3,and_self,and_false,false_and,decide_false])
   exact q _ _ ⟨by simp only[check,c1,c2,c3,hf,not_true_eq_false,not_false_eq_true,and_self, ↓reduceIte],hs1.trans hs4⟩
 ·rintro s ⟨tm,h',rfl,hs,e1',e3',e9⟩
  rw[List.take_length] at e9
  have c4:=e9
  have g1:h'.cells h.next=some [.ii m.errs,L,W]:=hs.cells (Zh rfl)
  simp(disch:=omega)only[go_sem,e1',e3',g1,aL.lenE,aW.lenE,Int.lt_irrefl]
  clear e3'
  refine Zi m.lots.length (fun i s=>∃tm h',s=⟨tm,h',[]⟩∧(h.add (.bk [.ii m.errs,L,W])).Sub h'∧tm.E 1=.ptr h.next 0∧tm.E 5=.ii (i:Int)∧(m.lots.take i).all (fun l=>ZA l.kind)=true)
   ?_ ?_ (i:=0) (Nat.zero_le _) ⟨_,_,rfl,hs,ybg,ybb,rfl⟩<;>clear g1 e9 e1' hs tm h'
  ·rintro i s hi ⟨tm,h',rfl,hs,e1',e3',e9⟩
   have hi':(i:Int)<(m.lots.length:Int):=by omega
   have g1:h'.cells h.next=some [.ii m.errs,L,W]:=hs.cells (Zh rfl)
   have l1:=hs.next
   rw[H.next_add] at l1
   have hlen:=aL.lenE
   have hlen2:=aW.lenE
   obtain⟨b,o,c,cs,rfl,hc,hq,hg,hn,hn0⟩:=(aL.mono (hs1.trans hs)).at hi
   have f1:inB m.lots[i].kind 0 3=ZA m.lots[i].kind:=rfl
   have hn1:nth (o+i*2+1) cs=some (.ii m.lots[i].kind):=hn 1 ybd
   cases d1:ZA m.lots[i].kind
   ·simp(disch:=omega)only[go_sem,e1',e3',g1,hlen,hlen2,hi',hq (Zb i),hc,hn1,YC,f1,d1]
    have hf:m.lots.all (fun l=>ZA l.kind)=false:=all_false hi d1
    exact q _ _ ⟨by simp only[check,c1,c2,c3,c4,hf,not_true_eq_false,not_false_eq_true,and_self, ↓reduceIte,Bool.true_eq_false],hs1.trans hs⟩
   ·simp(disch:=omega)only[go_sem,e1',e3',g1,hlen,hlen2,hi',hq (Zb i),hc,hn1,YC,f1,d1,Ze]
    exact⟨_,_,rfl,hs,ybg,ybb,all_step hi e9 d1⟩
  ·rintro s ⟨tm,h',rfl,hs,e1',e3',e9⟩
   rw[List.take_length] at e9
   have c5:=e9
   have g1:h'.cells h.next=some [.ii m.errs,L,W]:=hs.cells (Zh rfl)
   simp(disch:=omega)only[go_sem,e1',e3',g1,aL.lenE,aW.lenE,Int.lt_irrefl]
   clear e3'
   refine Zi m.lots.length (fun i s=>∃tm h',s=⟨tm,h',[]⟩∧(h.add (.bk [.ii m.errs,L,W])).Sub h'∧tm.E 1=.ptr h.next 0∧tm.E 6=.ii (i:Int)∧Yj m.lots 0=Yj (m.lots.drop i) i)
    ?_ ?_ (i:=0) (Nat.zero_le _) ⟨_,_,rfl,hs,ybg,ybb,rfl⟩<;>clear g1 e9 e1' hs tm h'
   ·rintro i s hi ⟨tm,h',rfl,hs,e1',e3',e9⟩
    have hi':(i:Int)<(m.lots.length:Int):=by omega
    have g1:h'.cells h.next=some [.ii m.errs,L,W]:=hs.cells (Zh rfl)
    have l1:=hs.next
    rw[H.next_add] at l1
    have hlen:=aL.lenE
    have hlen2:=aW.lenE
    obtain⟨b,o,c,cs,rfl,hc,hq,hg,hn,hn0⟩:=(aL.mono (hs1.trans hs)).at hi
    have hn1:nth (o+i*2) cs=some (.ii m.lots[i].frm):=hn0 ybd
    cases d1:inB m.lots[i].frm (-1) ((i:Int)-1)
    ·simp(disch:=omega)only[go_sem,e1',e3',g1,hlen,hlen2,hi',hq (Zb i),hc,hn1,ZD,YC,d1]
     have c6:Yj m.lots 0=false:=by rw[e9,fromsOk_miss hi (by simpa[inB] using d1)]
     exact q _ _ ⟨by simp only[check,c1,c2,c3,c4,c5,c6,not_true_eq_false,not_false_eq_true,and_self, ↓reduceIte,Bool.true_eq_false],hs1.trans hs⟩
    ·simp(disch:=omega)only[go_sem,e1',e3',g1,hlen,hlen2,hi',hq (Zb i),hc,hn1,ZD,YC,d1]
     exact⟨_,_,rfl,hs,ybg,ybb,by rw[e9,fromsOk_hit hi (by simpa[inB] using d1)]⟩
   ·rintro s ⟨tm,h',rfl,hs,e1',e3',e9⟩
    have c6:Yj m.lots 0=true:=by rw[e9];simp[Yj]
    have g1:h'.cells h.next=some [.ii m.errs,L,W]:=hs.cells (Zh rfl)
    simp(disch:=omega)only[go_sem,e1',e3',g1,aL.lenE,aW.lenE,Int.lt_irrefl]
    clear e3'
    refine Zi m.wgs.length (fun i s=>∃tm h',s=⟨tm,h',[]⟩∧(h.add (.bk [.ii m.errs,L,W])).Sub h'∧tm.E 1=.ptr h.next 0∧tm.E 7=.ii (i:Int)∧(m.wgs.take i).all (fun w=>inB w.lot 0 ((m.lots.length:Int)-1))=true)
     ?_ ?_ (i:=0) (Nat.zero_le _) ⟨_,_,rfl,hs,ybg,ybb,rfl⟩<;>clear g1 e9 e1' hs tm h'
    ·rintro i s hi ⟨tm,h',rfl,hs,e1',e3',e9⟩
     have hi':(i:Int)<(m.wgs.length:Int):=by omega
     have g1:h'.cells h.next=some [.ii m.errs,L,W]:=hs.cells (Zh rfl)
     have l1:=hs.next
     rw[H.next_add] at l1
     have hlen:=aW.lenE
     have hlen2:=aL.lenE
     obtain⟨b,o,c,cs,rfl,hc,hq,hg,hn,hn0⟩:=(aW.mono (hs1.trans hs)).at hi
     have hn1:nth (o+i*4) cs=some (.ii m.wgs[i].lot):=hn0 ybd
     cases d1:inB m.wgs[i].lot 0 ((m.lots.length:Int)-1)
     ·simp(disch:=omega)only[go_sem,e1',e3',g1,hlen,hlen2,hi',hq (Zb i),hc,hn1,YC,d1,ZD,aL.lenE]
      have hf:m.wgs.all (fun w=>inB w.lot 0 ((m.lots.length:Int)-1))=false:=all_false hi d1
      exact q _ _ ⟨by simp only[check,c1,c2,c3,c4,c5,c6,hf,not_true_eq_false,not_false_eq_true,and_self, ↓reduceIte,Bool.true_eq_false],hs1.trans hs⟩
     ·simp(disch:=omega)only[go_sem,e1',e3',g1,hlen,hlen2,hi',hq (Zb i),hc,hn1,YC,d1,ZD,aL.lenE,Ze]
      exact⟨_,_,rfl,hs,ybg,ybb,all_step hi e9 d1⟩
    ·rintro s ⟨tm,h',rfl,hs,e1',e3',e9⟩
     rw[List.take_length] at e9
     have c7:=e9
     have g1:h'.cells h.next=some [.ii m.errs,L,W]:=hs.cells (Zh rfl)
     simp(disch:=omega)only[go_sem,e1',e3',g1,aL.lenE,aW.lenE,Int.lt_irrefl]
     clear e3'
     refine Zi m.wgs.length (fun i s=>∃tm h',s=⟨tm,h',[]⟩∧(h.add (.bk [.ii m.errs,L,W])).Sub h'∧tm.E 1=.ptr h.next 0∧tm.E 8=.ii (i:Int)∧(m.wgs.take i).all (fun w=>decide (w.lo≤w.hi))=true)
      ?_ ?_ (i:=0) (Nat.zero_le _) ⟨_,_,rfl,hs,ybg,ybb,rfl⟩<;>clear g1 e9 e1' hs tm h'
     ·rintro i s hi ⟨tm,h',rfl,hs,e1',e3',e9⟩
      have hi':(i:Int)<(m.wgs.length:Int):=by omega
      have g1:h'.cells h.next=some [.ii m.errs,L,W]:=hs.cells (Zh rfl)
      have l1:=hs.next
      rw[H.next_add] at l1
      have hlen:=aW.lenE
      have hlen2:=aL.lenE
      obtain⟨b,o,c,cs,rfl,hc,hq,hg,hn,hn0⟩:=(aW.mono (hs1.trans hs)).at hi
      have hn1:nth (o+i*4+2) cs=some (.ii m.wgs[i].lo):=hn 2 ybd
      have hn2:nth (o+i*4+2+1) cs=some (.ii m.wgs[i].hi):=hn 3 ybd
      have f1:decide (m.wgs[i].hi<m.wgs[i].lo)= !decide (m.wgs[i].lo≤m.wgs[i].hi):=by rw[Bool.eq_iff_iff];simp
      cases d1:decide (m.wgs[i].lo≤m.wgs[i].hi)
      ·simp(disch:=omega)only[go_sem,e1',e3',g1,hlen,hlen2,hi',hq (Zb i),hc,hn1,hn2,f1,d1]
       have hf:m.wgs.all (fun w=>decide (w.lo≤w.hi))=false:=all_false hi d1
       exact q _ _ ⟨by simp only[check,c1,c2,c3,c4,c5,c6,c7,hf,not_true_eq_false,not_false_eq_true,and_self, ↓reduceIte,Bool.true_eq_false],hs1.trans hs⟩
      ·simp(disch:=omega)only[go_sem,e1',e3',g1,hlen,hlen2,hi',hq (Zb i),hc,hn1,hn2,f1,d1,Ze]
       exact⟨_,_,rfl,hs,ybg,ybb,all_step hi e9 d1⟩
     ·rintro s ⟨tm,h',rfl,hs,e1',e3',e9⟩
      rw[List.take_length] at e9
      have c8:=e9
      have g1:h'.cells h.next=some [.ii m.errs,L,W]:=hs.cells (Zh rfl)
      simp(disch:=omega)only[go_sem,e1',e3',g1,aL.lenE,aW.lenE,Int.lt_irrefl]
      exact q _ _ ⟨by simp only[check,c1,c2,c3,c4,c5,c6,c7,c8,not_true_eq_false,not_false_eq_true,and_self, ↓reduceIte,Bool.true_eq_false],hs1.trans hs⟩
end Go.Ab.Tryz
namespace Go.Ab.Tryz
def YS (h0 h:H)(v:V)(m:Ml):Prop:=∃L W,v=.agg [.ii m.errs,L,W]∧ZK h0 h L 2 (m.lots.map ZO)∧ZK h0 h W 4 (m.wgs.map Zy)∧∀b,Zs L b→¬Zs W b
theorem YS.mono {h0 h h':H}{v:V}{m:Ml}(a:YS h0 h v m)(hs:h.Sub h'):YS h0 h' v m:=by
 obtain⟨L,W,e,a1,a2,a3⟩:=a;exact⟨L,W,e,a1.mono hs,a2.mono hs,a3⟩
theorem YS.is {h0 h:H}{v:V}{m:Ml}(a:YS h0 h v m)(hl:m.lots.length≤1000∧m.wgs.length≤1000):ZF h v m:=by
 obtain⟨L,W,e,a1,a2,a3⟩:=a
 exact⟨L,W,e,a1.sl (by simp;omega),a2.sl (by simp;omega)⟩
theorem theirs_own {h:H}{v:V}{m:Ml}(hw:h.wf)(hm:ZF h v m)(hl:m.lots.length≤1000∧m.wgs.length≤1000)(Q:V→H→Prop)(q:∀u h',h.Sub h'→YS h h' u m→Q u h'):Ev fnG Zm (.fn 42 [] []) [v] h Q:=by
 obtain⟨L,W,rfl,aL,aW⟩:=hm
 have hbL:=aL.boundE
 have hbW:=aW.boundE
 refine Zf (fd:=c42) rfl rfl rfl ?_
 have s3:h.Sub (((h.add (.bk [.ii m.errs,L,W])).add (.bk [.ii 0,.nils,.nils])).add (.bk [.ii m.errs,.nils,.nils])):=(((H.Sub.refl hw).add _).add _).add _
 simp -implicitDefEqProofs(disch:=first|omega|simp only[nZ]<;>omega|fail)only[c42,go_sem,aL.lenE]
 refine Zi m.lots.length (fun i s=>∃tm h' x,s=⟨tm,h',[]⟩∧Zr h h' x 2 ((m.lots.take i).map ZO)∧h.next+2<h'.next∧tm.E 1=.ptr h.next 0∧tm.E 2=.ptr (h.next+1) 0∧tm.E 3=.ptr (h.next+1+1) 0∧
   tm.E 12=L∧tm.E 13=.ii (m.lots.length:Int)∧tm.E 14=.ii (i:Int)∧
   h'.get h.next=some (.bk [.ii m.errs,L,W])∧h'.get (h.next+1)=some (.bk [.ii 0,.nils,.nils])∧h'.get (h.next+1+1)=some (.bk [.ii m.errs,x,.nils]))
  ?_ ?_ (i:=0) (Nat.zero_le _) ⟨_,_,.nils,rfl,Zr.nil s3 2,by simp only[H.next_add];omega,ybb,ybb,ybb,ybb,ybb,ybb,by simp -implicitDefEqProofs(maxSteps:=999999)(disch:=first|with_reducible rfl|omega|(simp only[nA,nS,nD]<;>omega)|fail)only[go_sem],by simp -implicitDefEqProofs(maxSteps:=999999)(disch:=first|with_reducible rfl|omega|(simp only[nA,nS,nD]<;>omega)|fail)only[go_sem],by simp -implicitDefEqProofs(maxSteps:=999999)(disch:=first|with_reducible rfl|omega|(simp only[nA,nS,nD]<;>omega)|fail)only[go_sem]⟩
 ·rintro i s hi ⟨tm,h',x,rfl,ox,lt,e1,e2,e3,e12,e13,e14,g1,g2,g3⟩
  have hi':(i:Int)<(m.lots.length:Int):=by omega
  have hs:=ox.1
  obtain⟨b,o,c,cs,rfl,hc,hq,hg,hn,hn0⟩:=(aL.mono hs).at hi
  simp(disch:=omega)only[go_sem,e1,e2,e3,e12,e13,e14,hi',hq (Zb i),hc,hg,ZO,Za g3]
  have sB:h'.Sub ((h'.add (.bk [.ii m.lots[i].frm,.ii m.lots[i].kind])).add (.bk [.ii m.lots[i].frm,.ii m.lots[i].kind])):=((H.Sub.refl hs.wf).add _).add _
  have oB:=ox.mono sB
  have hll:((m.lots.take i).map ZO).length≤1000:=by simp;omega
  refine oB.app1 (r:=ZO m.lots[i]) hw rfl ybd (Zk.new _ (by simp only[H.next_add]) rfl rfl (by simp[ZO]) (by simp)) rfl ybd ybd fun h5 o5 k5 n5=>?_
  have g5a:=k5.2 _ _ (sB.get g1) (oB.ne (sB.get g1))
  have g5b:=k5.2 _ _ (sB.get g2) (oB.ne (sB.get g2))
  have g5c:=k5.2 _ _ (sB.get g3) (oB.ne (sB.get g3))
  simp only[H.next_add] at n5 o5
  simp(disch:=omega)only[go_sem,e1,e2,e3,e12,e13,e14,g5a,g5b,g5c,Za g5c,Ze]
  have o6:=o5.keep (Zq.set h5 (h.next+1+1) (.bk [.ii m.errs,.sl (h'.next+1+1) 0 (((m.lots.take i).map ZO).length+1) (.slk 0 0),.nils])) (o5.1.set ybd ybd hw _) (fun b hb e=>by
   obtain⟨_,_,_,e'⟩:=hb;cases e';omega)
  refine⟨_,_,_,rfl,?_,by rw[H.next_set];omega,ybe,(by simp[Zn,Zd,e2]<;>rfl),(by simp[Zn,Zd,e3]<;>rfl),ybm,(by simp[Zn,Zd,e13]<;>rfl),ybb,by rw[get_set_other ybd];exact g5a,by rw[get_set_other ybd];exact g5b,get_set_same rfl⟩
  rw[List.take_succ_eq_append_getElem hi,List.map_append]
  exact o6
 ·rintro s ⟨tm,h',x,rfl,ox,lt,e1,e2,e3,e12,e13,e14,g1,g2,g3⟩
  rw[List.take_length] at ox
  have hs:=ox.1
  simp(disch:=omega)only[go_sem,e1,e2,e3,e12,e13,e14,Int.lt_irrefl,Za g1,aW.lenE]
  have aX:=ox.sl (by simp;omega)
  refine Zi m.wgs.length (fun i s=>∃tm h2 y,s=⟨tm,h2,[]⟩∧Zr h h2 y 4 ((m.wgs.take i).map Zy)∧Zr h h2 x 2 (m.lots.map ZO)∧(∀b,Zs x b→¬Zs y b)∧h.next+2<h2.next∧tm.E 1=.ptr h.next 0∧tm.E 2=.ptr (h.next+1) 0∧tm.E 3=.ptr (h.next+1+1) 0∧
    tm.E 30=W∧tm.E 31=.ii (m.wgs.length:Int)∧tm.E 32=.ii (i:Int)∧
    h2.get (h.next+1)=some (.bk [.ii 0,.nils,.nils])∧h2.get (h.next+1+1)=some (.bk [.ii m.errs,x,y]))
   ?_ ?_ (i:=0) (Nat.zero_le _) ⟨_,_,.nils,rfl,Zr.nil hs 4,ox,fun b _ hb=>by(obtain⟨_,_,_,e⟩:=hb;cases e),lt,ybe,(by simp[Zn,Zd,e2]<;>rfl),(by simp[Zn,Zd,e3]<;>rfl),ybb,ybb,ybb,g2,g3⟩<;>clear e1 e2 e3 e12 e13 e14 g1 g2 g3 tm
  ·rintro i s hi ⟨tm,h2,y,rfl,oy,oxx,dis,lt2,e1,e2,e3,e30,e31,e32,g2,g3⟩
   have hi':(i:Int)<(m.wgs.length:Int):=by omega
   have hs2:=oy.1
   obtain⟨b,o,c,cs,rfl,hc,hq,hg,hn,hn0⟩:=(aW.mono hs2).at hi
   simp(disch:=omega)only[go_sem,e1,e2,e3,e30,e31,e32,hi',hq (Zb i),hc,hg,Zy,Za g3]
   have sB:h2.Sub ((h2.add (.bk (Zy m.wgs[i]))).add (.bk (Zy m.wgs[i]))):=((H.Sub.refl hs2.wf).add _).add _
   have oB:=oy.mono sB
   have hll:((m.wgs.take i).map Zy).length≤1000:=by simp;omega
   refine oB.app1 (r:=Zy m.wgs[i]) hw rfl ybd (Zk.new _ (by simp only[H.next_add]) rfl rfl (by simp[Zy]) (by simp)) rfl ybd ybd fun h5 o5 k5 n5=>?_
   have g5b:=k5.2 _ _ (sB.get g2) (oB.ne (sB.get g2))
   have g5c:=k5.2 _ _ (sB.get g3) (oB.ne (sB.get g3))
   have ox5:=(oxx.mono sB).keep k5 o5.1 dis
   simp only[H.next_add] at n5 o5
   simp(disch:=omega)only[go_sem,e1,e2,e3,e30,e31,e32,g5b,g5c,Za g5c,Ze]
   have hs6:=o5.1.set (b:=h.next+1+1) ybd ybd hw (.bk [.ii m.errs,x,.sl (h2.next+1+1) 0 (((m.wgs.take i).map Zy).length+1) (.slk 0 0)])
   have k6:=Zq.set h5 (h.next+1+1) (.bk [.ii m.errs,x,.sl (h2.next+1+1) 0 (((m.wgs.take i).map Zy).length+1) (.slk 0 0)])
   have o6:=o5.keep k6 hs6 (fun b hb e=>by
    obtain⟨_,_,_,e'⟩:=hb;cases e';omega)
   have ox6:=ox5.keep k6 hs6 (fun b hb e=>by rw[e] at hb;exact ox5.ne g5c hb)
   refine⟨_,_,_,rfl,?_,ox6,fun b hb hb2=>?_,by rw[H.next_set];omega,ybe,(by simp[Zn,Zd,e2]<;>rfl),(by simp[Zn,Zd,e3]<;>rfl),(by simp[Zn,Zd,e30]<;>rfl),(by simp[Zn,Zd,e31]<;>rfl),ybb,by rw[get_set_other ybd];exact g5b,get_set_same rfl⟩
   ·rw[List.take_succ_eq_append_getElem hi,List.map_append]
    exact o6
   ·obtain⟨_,_,_,e'⟩:=hb2;cases e'
    have:=(oxx.blk hb).2.1;omega
  ·rintro s ⟨tm,h2,y,rfl,oy,oxx,dis,lt2,e1,e2,e3,e30,e31,e32,g2,g3⟩
   rw[List.take_length] at oy
   have hs6:=oy.1.set (b:=h.next+1) ybd ybd hw (.bk [.ii m.errs,x,y])
   have k6:=Zq.set h2 (h.next+1) (.bk [.ii m.errs,x,y])
   have o6:=oy.keep k6 hs6 (fun b hb e=>by rw[e] at hb;exact oy.ne g2 hb)
   have ox6:=oxx.keep k6 hs6 (fun b hb e=>by rw[e] at hb;exact oxx.ne g2 hb)
   have hx:=oxx.2.2
   have hy:=oy.2.2
   have fin:=q _ _ hs6 ⟨x,y,rfl,ox6.c,o6.c,dis⟩
   rcases hx with⟨rfl,_⟩|⟨_,rfl,_⟩<;>rcases hy with⟨rfl,_⟩|⟨_,rfl,_⟩<;>simp(disch:=omega)only[go_sem,e1,e2,e3,e30,e31,e32,Int.lt_irrefl,Za g3,g2]<;>exact fin
theorem W3 {h:H}{v:V}{m:Ml}(hw:h.wf)(hm:ZF h v m)(hl:m.lots.length≤1000∧m.wgs.length≤1000)(Q:V→H→Prop)(q:∀u h',h.Sub h'→ZF h' u m→Q u h'):Ev fnG Zm (.fn 42 [] []) [v] h Q:=
 theirs_own hw hm hl Q fun u h' s o=>q u h' s (o.is hl)
end Go.Ab.Tryz
namespace Go.Ab.Tryz
def ZS (m:Ml)(n:Int):Int:=match m.lots[n.toNat]? with|some l=>l.frm|none=> -1
def Wp (m:Ml):Nat→Int→List Int
 |0,_=>[]
 |k+1,n=>if n<0 then[] else n::Wp m k (ZS m n)
def line (m:Ml)(n:Int):List Int:=Wp m 13 n
theorem frmAt_eq {m:Ml}{n:Int}(h0:0≤n)(h1:n<m.lots.length):ZS m n=(m.lots[n.toNat]' ybd).frm:=by
 unfold ZS
 rw[List.getElem?_eq_getElem ybd]
theorem XV {m:Ml}{i:Nat}(hi:i<m.lots.length):ZS m (i:Int)=m.lots[i].frm:=by
 unfold ZS
 rw[Int.toNat_natCast,List.getElem?_eq_getElem hi]
theorem VM {m:Ml}(g:Good m){n:Int}(h0:0≤n)(h1:n<m.lots.length): -1≤ZS m n∧ZS m n≤n-1:=by
 rw[frmAt_eq h0 h1]
 have:=g.frm n.toNat ybd
 omega
theorem lineF_any {m:Ml}(g:Good m):∀(k j:Nat) (n:Int),n<k→n<j→0<k→0<j→n<m.lots.length→Wp m k n=Wp m j n
 |0,_,_,_,_,h,_,_=>by omega
 |_+1,0,_,_,_,_,h,_=>by omega
 |k+1,j+1,n,h1,h2,_,_,hl=>by
  simp only[Wp]
  by_cases h0:n<0
  ·simp[h0]
  ·simp only[h0, ↓reduceIte]
   have hf:=VM g (by omega:0≤n) hl
   congr 1
   by_cases hk:ZS m n<0
   ·cases k<;>cases j<;>simp[Wp,hk]
   ·exact lineF_any g k j _ ybd ybd ybd ybd ybd
theorem line_neg (m:Ml){n:Int}(h:n<0):line m n=[]:=by simp[line,Wp,h]
theorem line_cons {m:Ml}(g:Good m){n:Int}(h0:0≤n)(h1:n<m.lots.length):line m n=n::line m (ZS m n):=by
 have hf:=VM g h0 h1
 have hl:=g.lots
 unfold line
 rw[Wp,if_neg ybd]
 congr 1
 by_cases hk:ZS m n<0
 ·simp[Wp,hk]
 ·exact lineF_any g 12 13 _ ybd ybd ybd ybd ybd
theorem own1_lit {h:H}(i:Int):Zk (h.add (.bk [.ii i])) (.sl h.next 0 1 (.fix 1)) 1 [encI i]:=Zk.new _ rfl rfl rfl (by simp[encI]) (by simp)
theorem WG {h:H}{d:Nat}{m:Ml}(hw:h.wf)(hd:WL h d m)(g:Good m){n:Int}(h0: -1≤n)(h1:n<m.lots.length)(Q:V→H→Prop)(q:∀v h',Zr h h' v 1 ((line m n).map encI)→Q v h'):
  Ev fnG Zm (.fn 101 [] []) [.ptr d 0,.ii n] h Q:=by
 obtain⟨pm,l,L,W,g1,g2,aL,aW,ap⟩:=hd
 have gl:=g.lots
 have hld:=hw d _ g1
 refine Zf (fd:=c101) rfl rfl rfl ?_
 simp(disch:=omega)only[c101,go_sem]
 refine W_loop (fun k s=>∃tm h' x cur pre,s=⟨tm,h',[]⟩∧Zr h h' x 1 (pre.map encI)∧line m n=pre++line m cur∧ -1≤cur∧cur<m.lots.length∧(k:Int)=cur+1∧(pre.length:Int)+cur≤12∧
   tm.E 0=.ptr d 0∧tm.E 1=.ii cur∧tm.E 5=x)
  ?_ (n+1).toNat _ ⟨_,_,.nils,n,[],rfl,Zr.nil (H.Sub.refl hw) 1,rfl,h0,h1,by omega,by simp;omega,ybc,ybc,ybc⟩
 rintro k s ⟨tm,h',x,cur,pre,rfl,ox,hl,c0,c1,hk,hp,e0,e1,e5⟩
 have hs:=ox.1
 by_cases hc:cur= -1
 ·simp(disch:=omega)only[go_sem,e0,e1,e5,hc,ne_eq,not_true_eq_false]
  rw[hc,line_neg m (n:= -1) ybd,List.append_nil] at hl
  exact q _ _ (by rw[hl];exact ox)
 ·have hc0:0≤cur:=by omega
  obtain⟨i,rfl⟩:=Int.eq_ofNat_of_zero_le hc0
  have hi:i<m.lots.length:=by omega
  obtain⟨b,o,c,cs,rfl,hcs,hq,hg,hn,hn0⟩:=(aL.mono hs).at hi
  have hpl:(pre.map encI).length≤13:=by simp;omega
  simp(disch:=omega)only[go_sem,e0,e1,e5,hc,ne_eq,not_false_eq_true]
  refine(ox.mono ((H.Sub.refl hs.wf).add _)).app1 (r:=encI (i:Int)) hw rfl ybd (own1_lit _) rfl ybd ybd fun h5 o5 k5 n5=>?_
  have hg1:h5.cells d=some [.ii m.errs,.sl b o m.lots.length c,W,.map pm]:=Za (o5.1.get g1)
  obtain⟨b',o',c',cs',eb,hcs5,hq5,hg5,hn5,hn05⟩:=(aL.mono o5.1).at hi
  cases eb
  simp(disch:=omega)only[go_sem,e0,e1,e5,hg1,hq5 (Zb i),hcs5,hn05 ybd,ZO]
  have hf:=XV hi
  have hlt:=VM g hc0 c1
  rw[hf] at hlt
  have hln:=line_cons g hc0 c1
  rw[hf] at hln
  refine⟨(m.lots[i].frm+1).toNat,by omega,_,_,_,m.lots[i].frm,pre++[(i:Int)],rfl,?_,by rw[hl,hln];simp,by omega,by omega,by omega,by simp;omega,ybo,ybc,ybc⟩
  rw[List.map_append];simp only[H.next_add] at o5;exact o5
theorem refLine_ev {h:H}{v:V}{m:Ml}(hw:h.wf)(hm:ZF h v m)(g:Good m){n:Int}(h0: -1≤n)(h1:n<m.lots.length)(Q:V→H→Prop)(q:∀v h',Zr h h' v 1 ((line m n).map encI)→Q v h'):
  Ev fnG Zm (.fn 45 [] []) [v,.ii n] h Q:=by
 obtain⟨L,W,rfl,aL,aW⟩:=hm
 have gl:=g.lots
 refine Zf (fd:=c45) rfl rfl rfl ?_
 have s1:h.Sub (h.add (.bk [.ii m.errs,L,W])):=(H.Sub.refl hw).add _
 simp(disch:=omega)only[c45,go_sem]
 refine W_loop (fun k s=>∃tm h' x cur pre,s=⟨tm,h',[]⟩∧Zr h h' x 1 (pre.map encI)∧(h.add (.bk [.ii m.errs,L,W])).Sub h'∧line m n=pre++line m cur∧ -1≤cur∧cur<m.lots.length∧(k:Int)=cur+1∧(pre.length:Int)+cur≤12∧
   tm.E 2=.ptr h.next 0∧tm.E 1=.ii cur∧tm.E 5=x)
  ?_ (n+1).toNat _ ⟨_,_,.nils,n,[],rfl,Zr.nil s1 1,H.Sub.refl s1.wf,rfl,h0,h1,by omega,by simp;omega,ybc,ybc,ybc⟩
 rintro k s ⟨tm,h',x,cur,pre,rfl,ox,hs1,hl,c0,c1,hk,hp,e0,e1,e5⟩
 have hs:=ox.1
 by_cases hc:cur= -1
 ·have hc':¬0≤cur:=by omega
  simp(disch:=omega)only[go_sem,e0,e1,e5,hc',ne_eq,not_true_eq_false]
  rw[hc,line_neg m (n:= -1) ybd,List.append_nil] at hl
  exact q _ _ (by rw[hl];exact ox)
 ·have hc0:0≤cur:=by omega
  obtain⟨i,rfl⟩:=Int.eq_ofNat_of_zero_le hc0
  have hi:i<m.lots.length:=by omega
  obtain⟨b,o,c,cs,rfl,hcs,hq,hg,hn,hn0⟩:=(aL.mono hs).at hi
  have hpl:(pre.map encI).length≤13:=by simp;omega
  have sA:=(H.Sub.refl hs.wf).add (.bk [.ii (i:Int)])
  have g1:h'.get h.next=some (.bk [.ii m.errs,.sl b o m.lots.length c,W]):=hs1.get (Zo rfl)
  simp(disch:=omega)only[go_sem,e0,e1,e5,hc0,ne_eq,not_false_eq_true]
  refine(ox.mono sA).app1 (r:=encI (i:Int)) hw rfl ybd (own1_lit _) rfl ybd ybd fun h5 o5 k5 n5=>?_
  have hg0:=k5.2 _ _ (sA.get g1) ((ox.mono sA).ne (sA.get g1))
  have hg1:h5.cells h.next=some [.ii m.errs,.sl b o m.lots.length c,W]:=Za hg0
  obtain⟨b',o',c',cs',eb,hcs5,hq5,hg5,hn5,hn05⟩:=(aL.mono o5.1).at hi
  cases eb
  simp(disch:=omega)only[go_sem,e0,e1,e5,hg1,hq5 (Zb i),hcs5,hn05 ybd,ZO]
  have hf:=XV hi
  have hlt:=VM g hc0 c1
  rw[hf] at hlt
  have hln:=line_cons g hc0 c1
  rw[hf] at hln
  have s15:(h.add (.bk [.ii m.errs,.sl b o m.lots.length c,W])).Sub h5:=by
   refine⟨⟨by rw[n5];have:=hs1.next;have:=sA.next;omega,fun cc y hy=>?_⟩,o5.1.wf⟩
   refine k5.2 _ _ (sA.get (hs1.get hy)) fun hb=>?_
   rw[H.get_add_if] at hy
   by_cases e:cc=h.next
   ·rw[if_pos e] at hy;cases hy
    exact(ox.mono sA).ne (sA.get (hs1.get (by rw[H.get_add_if,if_pos e]))) hb
   ·rw[if_neg e] at hy
    have:=hw _ _ hy
    exact(ox.mono sA).ne3 this hb
  refine⟨(m.lots[i].frm+1).toNat,by omega,_,_,_,m.lots[i].frm,pre++[(i:Int)],rfl,?_,s15,by rw[hl,hln];simp,by omega,by omega,by omega,by simp;omega,ybo,ybc,ybc⟩
  rw[List.map_append];simp only[H.next_add] at o5;exact o5
theorem partsL_low {k:Int}:∀{l:List Lt} (i:Nat),(∀j (hj:j<l.length),l[j].frm≤((i+j:Nat):Int)-1)→((i+l.length:Nat):Int)≤k+1→ZI k l i=[]
 |[],_,_,_=>rfl
 |a::l,i,h,hk=>by
  have h0:=h 0 (by simp)
  simp only[List.getElem_cons_zero,List.length_cons] at h0 hk
  have:¬a.frm=k:=by omega
  simp only[ZI,this, ↓reduceIte]
  refine partsL_low (i+1) (fun j hj=>?_) ybd
  have:=h (j+1) (by simpa using hj)
  simp only[List.getElem_cons_succ] at this
  have e:i+1+j=i+(j+1):=by omega
  rw[e];exact this
theorem YU {h:H}{v:V}{m:Ml}(hw:h.wf)(hm:ZF h v m)(g:Good m){n:Nat}(h1:n<m.lots.length)(Q:V→H→Prop)(q:∀v h',Zr h h' v 1 ((parts m n).map encI)→Q v h'):
  Ev fnG Zm (.fn 44 [] []) [v,.ii (n:Int)] h Q:=by
 obtain⟨L,W,rfl,aL,aW⟩:=hm
 have gl:=g.lots
 refine Zf (fd:=c44) rfl rfl rfl ?_
 have s1:h.Sub (h.add (.bk [.ii m.errs,L,W])):=(H.Sub.refl hw).add _
 simp(disch:=omega)only[c44,go_sem,Ze]
 have hlow:ZI (n:Int) (m.lots.take (n+1)) 0=[]:=by
  refine partsL_low 0 (fun j hj=>?_) (by simp;omega)
  rw[List.getElem_take]
  have:=(g.frm j (by simp at hj;omega)).2
  simpa using this
 refine Zi m.lots.length (fun i s=>∃tm h' x,s=⟨tm,h',[]⟩∧Zr h h' x 1 ((ZI (n:Int) (m.lots.take i) 0).map encI)∧h'.get h.next=some (.bk [.ii m.errs,L,W])∧
   tm.E 2=.ptr h.next 0∧tm.E 1=.ii (n:Int)∧tm.E 5=x∧tm.E 6=.ii (i:Int))
  ?_ ?_ (i:=n+1) ybd ⟨_,_,.nils,rfl,by rw[hlow];exact Zr.nil s1 1,Zo rfl,ybc,ybc,ybc,ybc⟩
 ·rintro i s hi ⟨tm,h',x,rfl,ox,g1,e2,e1,e5,e6⟩
  have hi':(i:Int)<(m.lots.length:Int):=by omega
  have hs:=ox.1
  obtain⟨b,o,c,cs,rfl,hcs,hq,hg,hn,hn0⟩:=(aL.mono hs).at hi
  have hlen:=aL.lenE
  have hpl:=V8 (n:Int) (m.lots.take i) 0
  rw[List.length_take] at hpl
  have hp2:((ZI (n:Int) (m.lots.take i) 0).map encI).length≤12:=by simp only[List.length_map];omega
  have hstep:ZI (n:Int) (m.lots.take (i+1)) 0=ZI (n:Int) (m.lots.take i) 0++(if m.lots[i].frm=(n:Int) then[(i:Int)] else[]):=by
   rw[List.take_succ_eq_append_getElem hi,Wu]
   congr 1
   simp only[ZI,List.length_take,Nat.zero_add]
   rw[Nat.min_eq_left ybd]
  by_cases hf:m.lots[i].frm=(n:Int)
  ·simp(disch:=omega)only[go_sem,e1,e2,e5,e6,Za g1,hlen,hi',hq (Zb i),hcs,hn0 ybd,ZO,hf]
   have sA:=(H.Sub.refl hs.wf).add (.bk [.ii (i:Int)])
   refine(ox.mono sA).app1 (r:=encI (i:Int)) hw rfl ybd (own1_lit _) rfl ybd ybd fun h5 o5 k5 n5=>?_
   have hg0:=k5.2 _ _ (sA.get g1) ((ox.mono sA).ne (sA.get g1))
   simp(disch:=omega)only[go_sem,e1,e2,e5,e6,Ze]
   refine⟨_,_,_,rfl,?_,hg0,ybp,ybq,ybc,ybc⟩
   rw[hstep,if_pos hf,List.map_append]
   simp only[H.next_add] at o5;exact o5
  ·simp(disch:=omega)only[go_sem,e1,e2,e5,e6,Za g1,hlen,hi',hq (Zb i),hcs,hn0 ybd,ZO,hf,Ze]
   refine⟨_,_,_,rfl,?_,g1,ybp,ybq,(by simp only[Zn,Zd, ↓reduceIte,Nat.reduceEqDiff,e5]<;>rfl),ybc⟩
   rw[hstep,if_neg hf,List.append_nil];exact ox
 ·rintro s ⟨tm,h',x,rfl,ox,g1,e2,e1,e5,e6⟩
  rw[List.take_length] at ox
  simp(disch:=omega)only[go_sem,e1,e2,e5,e6,Za g1,aL.lenE,Int.lt_irrefl]
  exact q _ _ ox
end Go.Ab.Tryz
