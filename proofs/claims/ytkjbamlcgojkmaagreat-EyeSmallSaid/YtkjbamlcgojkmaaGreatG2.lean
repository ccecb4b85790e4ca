/- A queue of integers: taken from the front, appended to at the end. awake() is not run again. Contracts of the generic functions, instance by instance (printed by a program of ours). Tables of eyes, lights and pieces: what they are, check, opened. Tables copied and compared; the reference's table. The reference's table, and its errors. What eyes see: greatest, sees, looks, look, apart, alike, match. Looks, one after the other; those that tell two shades apart. look, alike, match. The reference's Check, Sees, Tells, Alike, Apart. Distances in a graph of few points, and how a search that goes by breadth finds them. Plain. -/
import Derived.Test.YtkjbamlcgojkmaaGreatOk
import Derived.Test.YtkjbamlcgojkmaaGreatAc2
import Derived.Test.YtkjbamlcgojkmaaGreatAc8
import Derived.Test.YtkjbamlcgojkmaaGreatAc7
set_option linter.unusedSimpArgs false
set_option linter.unusedVariables false
theorem yaa {p:Prop}(h:p:=by repeat(first|assumption|exact H.Sub.refl (by assumption)|refine H.Sub.add ?_ _|refine H.Sub.set ?_ (by first|omega|(simp only[H.next_add,H.next_set,H.next_del]<;>omega)) (by first|omega|(simp only[H.next_add,H.next_set,H.next_del]<;>omega)) (by assumption) _)):p:=h
theorem yab {p:Prop}(h:p:=by omega):p:=h
theorem yac {p:Prop}(h:p:=by simp):p:=h
theorem yad {p:Prop}(h:p:=by simp only[Xj, ↓reduceIte,Nat.reduceEqDiff,hl]):p:=h
theorem yae {p:Prop}(h:p:=by simp only[Xj];rfl):p:=h
theorem yaf {p:Prop}(h:p:=by simpa using hy.1 _ (List.mem_map_of_mem (List.getElem_mem hi2))):p:=h
theorem yag {p:Prop}(h:p:=by simpa using hx.1 _ (List.mem_map_of_mem (List.getElem_mem hi))):p:=h
theorem yah {p:Prop}(h:p:=by simp[t1]):p:=h
theorem yai {p:Prop}(h:p:=by simp;omega):p:=h
theorem yaj {p:Prop}(h:p:=by simp only[List.length_map];omega):p:=h
theorem yak {p:Prop}(h:p:=by simp[e0]):p:=h
theorem yal {p:Prop}(h:p:=by simp[e1]):p:=h
theorem yam {p:Prop}(h:p:=by simp[t3]):p:=h
namespace Go.Ab.Tryz
open Go.Proofs
def Zm (f:Nat):Option (List V→H→Option (V × H)):=match Nat.beq f 9 with
 |true=>some fun args h=>match args with
  |[]=>some (.bool true,h)
  |_=>none
 |false=>none
end Go.Ab.Tryz
namespace Go.Ab.Tryz
abbrev E (fv:V) (args:List V) (h:H) (Q:V→H→Prop):Prop:=Ev fnG Zm fv args h Q
abbrev Y5 (h:H) (fv:V) (args:List V) (v:V):Prop:=Pure fnG Zm h fv args v
def encI (n:Int):List V:=[.ii n]
def Y9 {α:Type}(p:α→Bool):List α→Nat→Int
 |[],_=> -1
 |r::l,i=>if p r then(i:Int) else Y9 p l (i+1)
theorem WG {α:Type}{p:α→Bool}{l:List α}{i:Nat}(hi:i<l.length)(h:p l[i]=true):Y9 p (l.drop i) i=(i:Int):=by
 rw[List.drop_eq_getElem_cons hi];simp[Y9,h]
theorem Ww {α:Type}{p:α→Bool}{l:List α}{i:Nat}(hi:i<l.length)(h:p l[i]=false):Y9 p (l.drop i) i=Y9 p (l.drop (i+1)) (i+1):=by
 rw[List.drop_eq_getElem_cons hi];simp[Y9,h]
theorem WH {α:Type}(p:α→Bool):∀(l:List α) (i:Nat),decide (0≤Y9 p l i)=l.any p
 |[],i=>by simp[Y9]
 |r::l,i=>by
  have ih:=WH p l (i+1)
  simp only[Y9,List.any_cons]
  by_cases h:p r=true
  ·simp[h]
  ·simpa[h] using ih
theorem any_not {α:Type}(p:α→Bool)(l:List α):(!l.any fun a=> !p a)=l.all p:=by
 induction l with
 |nil=>rfl
 |cons a l ih=>simp only[List.any_cons,List.all_cons,←ih,Bool.not_or,Bool.not_not]
theorem indexFuncEye_ev {α:Type}{enc:α→List V}{l:List α}{p:α→Bool}{h:H}{x f:V}(hw:h.wf)(hx:Zg h x 4 (l.map enc))(hp:∀a∈l,Y5 h f [.agg (enc a)] (.bool (p a))):
  E (.fn 176 [] []) [x,f] h fun v h'=>v=.ii (Y9 p l 0)∧h.Sub h':=by
 have hb:=hx.boundE
 refine Zd (fd:=c176) rfl rfl rfl ?_
 simp(disch:=omega)only[c176,go_sem,hx.lenE]
 refine Zh l.length (fun i s=>∃tm h',s=⟨tm,h',[]⟩∧h.Sub h'∧tm.E 0=x∧tm.E 1=f∧tm.E 7=.ii (l.length:Int)∧tm.E 8=.ii (i:Int)∧Y9 p l 0=Y9 p (l.drop i) i)
  ?_ ?_ (i:=0) (Nat.zero_le _) ⟨_,_,rfl,H.Sub.refl hw,yac,yac,yac,yae,rfl⟩
 ·rintro i s hi ⟨tm,h',rfl,hs,e0,e1,e7,e8,e9⟩
  have hi':(i:Int)<(l.length:Int):=by omega
  obtain⟨b,o,c,cs,rfl,hc,hq,hg,hn,hn0⟩:=(hx.mono hs).at hi
  simp(disch:=omega)only[go_sem,e0,e1,e7,e8,hi',hq (Ze i),hc,hg]
  refine(hp _ (List.getElem_mem hi)).use hs fun h2 hs2=>?_
  cases hpr:p l[i] with
  |true=>
   simp(disch:=omega)only[go_sem,e0,e1,e7,e8]
   exact⟨by rw[e9,WG hi hpr],hs.trans hs2⟩
  |false=>
   simp(disch:=omega)only[go_sem,e0,e1,e7,e8,Zc]
   exact⟨_,_,rfl,hs.trans hs2,yak,yal,(by simp[e7]),yac,by rw[e9,Ww hi hpr]⟩
 ·rintro s ⟨tm,h',rfl,hs,e0,e1,e7,e8,e9⟩
  simp(disch:=omega)only[go_sem,e0,e1,e7,e8,Int.lt_irrefl]
  exact⟨by rw[e9];simp[Y9],hs⟩
theorem containsFuncEye_ev {α:Type}{enc:α→List V}{l:List α}{p:α→Bool}{h:H}{x f:V}(hw:h.wf)(hx:Zg h x 4 (l.map enc))(hp:∀a∈l,Y5 h f [.agg (enc a)] (.bool (p a))):
  E (.fn 151 [] []) [x,f] h fun v h'=>v=.bool (l.any p)∧h.Sub h':=by
 refine Zd (fd:=c151) rfl rfl rfl ?_
 simp(disch:=omega)only[c151,go_sem]
 refine(indexFuncEye_ev hw hx hp).mono fun v h' hv=>?_
 obtain⟨rfl,hs⟩:=hv
 simp(disch:=omega)only[go_sem]
 exact⟨by rw[WH],hs⟩
theorem everyEye_ev {α:Type}{enc:α→List V}{l:List α}{p:α→Bool}{h:H}{x:V}{g:FuncId}{u w:List V}(hw:h.wf)(hx:Zg h x 4 (l.map enc))(hp:∀a∈l,Y5 h (.fn g u w) [.agg (enc a)] (.bool (p a))):
  E (.fn 101 [] []) [x,.fn g u w] h fun v h'=>v=.bool (l.all p)∧h.Sub h':=by
 refine Zd (fd:=c101) rfl rfl rfl ?_
 simp(disch:=omega)only[c101,go_sem]
 have hs1:h.Sub (h.add (.bk [.fn g u w])):=(H.Sub.refl hw).add _
 refine(containsFuncEye_ev (p:=fun a=> !p a) hs1.wf (hx.mono hs1) fun a ha h2 hs2=>?_).mono fun v h' hv=>?_
 ·have hc:h2.cells h.next=some [.fn g u w]:=hs2.cells (Zf rfl)
  have hl:h.next<h2.next:=by have:=hs2.next;rw[H.next_add] at this;omega
  refine Zd (fd:=c152) rfl rfl rfl ?_
  simp(disch:=omega)only[c152,go_sem,hc,getN_full (hx.1 _ (List.mem_map_of_mem ha))]
  refine((hp a ha).mono hs1).use (hs2.add _) fun h3 hs3=>?_
  simp(disch:=omega)only[go_sem]
  exact(H.Sub.refl hs2.wf).add _ |>.trans hs3
 ·obtain⟨rfl,hs⟩:=hv
  simp(disch:=omega)only[go_sem]
  exact⟨by rw[any_not],hs1.trans hs⟩
theorem indexFuncLight_ev {α:Type}{enc:α→List V}{l:List α}{p:α→Bool}{h:H}{x f:V}(hw:h.wf)(hx:Zg h x 3 (l.map enc))(hp:∀a∈l,Y5 h f [.agg (enc a)] (.bool (p a))):
  E (.fn 177 [] []) [x,f] h fun v h'=>v=.ii (Y9 p l 0)∧h.Sub h':=by
 have hb:=hx.boundE
 refine Zd (fd:=c177) rfl rfl rfl ?_
 simp(disch:=omega)only[c177,go_sem,hx.lenE]
 refine Zh l.length (fun i s=>∃tm h',s=⟨tm,h',[]⟩∧h.Sub h'∧tm.E 0=x∧tm.E 1=f∧tm.E 7=.ii (l.length:Int)∧tm.E 8=.ii (i:Int)∧Y9 p l 0=Y9 p (l.drop i) i)
  ?_ ?_ (i:=0) (Nat.zero_le _) ⟨_,_,rfl,H.Sub.refl hw,yac,yac,yac,yae,rfl⟩
 ·rintro i s hi ⟨tm,h',rfl,hs,e0,e1,e7,e8,e9⟩
  have hi':(i:Int)<(l.length:Int):=by omega
  obtain⟨b,o,c,cs,rfl,hc,hq,hg,hn,hn0⟩:=(hx.mono hs).at hi
  simp(disch:=omega)only[go_sem,e0,e1,e7,e8,hi',hq (Ze i),hc,hg]
  refine(hp _ (List.getElem_mem hi)).use hs fun h2 hs2=>?_
  cases hpr:p l[i] with
  |true=>
   simp(disch:=omega)only[go_sem,e0,e1,e7,e8]
   exact⟨by rw[e9,WG hi hpr],hs.trans hs2⟩
  |false=>
   simp(disch:=omega)only[go_sem,e0,e1,e7,e8,Zc]
   exact⟨_,_,rfl,hs.trans hs2,yak,yal,(by simp[e7]),yac,by rw[e9,Ww hi hpr]⟩
 ·rintro s ⟨tm,h',rfl,hs,e0,e1,e7,e8,e9⟩
  simp(disch:=omega)only[go_sem,e0,e1,e7,e8,Int.lt_irrefl]
  exact⟨by rw[e9];simp[Y9],hs⟩
theorem containsFuncLight_ev {α:Type}{enc:α→List V}{l:List α}{p:α→Bool}{h:H}{x f:V}(hw:h.wf)(hx:Zg h x 3 (l.map enc))(hp:∀a∈l,Y5 h f [.agg (enc a)] (.bool (p a))):
  E (.fn 154 [] []) [x,f] h fun v h'=>v=.bool (l.any p)∧h.Sub h':=by
 refine Zd (fd:=c154) rfl rfl rfl ?_
 simp(disch:=omega)only[c154,go_sem]
 refine(indexFuncLight_ev hw hx hp).mono fun v h' hv=>?_
 obtain⟨rfl,hs⟩:=hv
 simp(disch:=omega)only[go_sem]
 exact⟨by rw[WH],hs⟩
theorem everyLight_ev {α:Type}{enc:α→List V}{l:List α}{p:α→Bool}{h:H}{x:V}{g:FuncId}{u w:List V}(hw:h.wf)(hx:Zg h x 3 (l.map enc))(hp:∀a∈l,Y5 h (.fn g u w) [.agg (enc a)] (.bool (p a))):
  E (.fn 104 [] []) [x,.fn g u w] h fun v h'=>v=.bool (l.all p)∧h.Sub h':=by
 refine Zd (fd:=c104) rfl rfl rfl ?_
 simp(disch:=omega)only[c104,go_sem]
 have hs1:h.Sub (h.add (.bk [.fn g u w])):=(H.Sub.refl hw).add _
 refine(containsFuncLight_ev (p:=fun a=> !p a) hs1.wf (hx.mono hs1) fun a ha h2 hs2=>?_).mono fun v h' hv=>?_
 ·have hc:h2.cells h.next=some [.fn g u w]:=hs2.cells (Zf rfl)
  have hl:h.next<h2.next:=by have:=hs2.next;rw[H.next_add] at this;omega
  refine Zd (fd:=c155) rfl rfl rfl ?_
  simp(disch:=omega)only[c155,go_sem,hc,getN_full (hx.1 _ (List.mem_map_of_mem ha))]
  refine((hp a ha).mono hs1).use (hs2.add _) fun h3 hs3=>?_
  simp(disch:=omega)only[go_sem]
  exact(H.Sub.refl hs2.wf).add _ |>.trans hs3
 ·obtain⟨rfl,hs⟩:=hv
  simp(disch:=omega)only[go_sem]
  exact⟨by rw[any_not],hs1.trans hs⟩
theorem indexFuncShade_ev {α:Type}{enc:α→List V}{l:List α}{p:α→Bool}{h:H}{x f:V}(hw:h.wf)(hx:Zg h x 3 (l.map enc))(hp:∀a∈l,Y5 h f [.agg (enc a)] (.bool (p a))):
  E (.fn 178 [] []) [x,f] h fun v h'=>v=.ii (Y9 p l 0)∧h.Sub h':=by
 have hb:=hx.boundE
 refine Zd (fd:=c178) rfl rfl rfl ?_
 simp(disch:=omega)only[c178,go_sem,hx.lenE]
 refine Zh l.length (fun i s=>∃tm h',s=⟨tm,h',[]⟩∧h.Sub h'∧tm.E 0=x∧tm.E 1=f∧tm.E 7=.ii (l.length:Int)∧tm.E 8=.ii (i:Int)∧Y9 p l 0=Y9 p (l.drop i) i)
  ?_ ?_ (i:=0) (Nat.zero_le _) ⟨_,_,rfl,H.Sub.refl hw,yac,yac,yac,yae,rfl⟩
 ·rintro i s hi ⟨tm,h',rfl,hs,e0,e1,e7,e8,e9⟩
  have hi':(i:Int)<(l.length:Int):=by omega
  obtain⟨b,o,c,cs,rfl,hc,hq,hg,hn,hn0⟩:=(hx.mono hs).at hi
  simp(disch:=omega)only[go_sem,e0,e1,e7,e8,hi',hq (Ze i),hc,hg]
  refine(hp _ (List.getElem_mem hi)).use hs fun h2 hs2=>?_
  cases hpr:p l[i] with
  |true=>
   simp(disch:=omega)only[go_sem,e0,e1,e7,e8]
   exact⟨by rw[e9,WG hi hpr],hs.trans hs2⟩
  |false=>
   simp(disch:=omega)only[go_sem,e0,e1,e7,e8,Zc]
   exact⟨_,_,rfl,hs.trans hs2,yak,yal,(by simp[e7]),yac,by rw[e9,Ww hi hpr]⟩
 ·rintro s ⟨tm,h',rfl,hs,e0,e1,e7,e8,e9⟩
  simp(disch:=omega)only[go_sem,e0,e1,e7,e8,Int.lt_irrefl]
  exact⟨by rw[e9];simp[Y9],hs⟩
theorem containsFuncShade_ev {α:Type}{enc:α→List V}{l:List α}{p:α→Bool}{h:H}{x f:V}(hw:h.wf)(hx:Zg h x 3 (l.map enc))(hp:∀a∈l,Y5 h f [.agg (enc a)] (.bool (p a))):
  E (.fn 156 [] []) [x,f] h fun v h'=>v=.bool (l.any p)∧h.Sub h':=by
 refine Zd (fd:=c156) rfl rfl rfl ?_
 simp(disch:=omega)only[c156,go_sem]
 refine(indexFuncShade_ev hw hx hp).mono fun v h' hv=>?_
 obtain⟨rfl,hs⟩:=hv
 simp(disch:=omega)only[go_sem]
 exact⟨by rw[WH],hs⟩
theorem everyShade_ev {α:Type}{enc:α→List V}{l:List α}{p:α→Bool}{h:H}{x:V}{g:FuncId}{u w:List V}(hw:h.wf)(hx:Zg h x 3 (l.map enc))(hp:∀a∈l,Y5 h (.fn g u w) [.agg (enc a)] (.bool (p a))):
  E (.fn 106 [] []) [x,.fn g u w] h fun v h'=>v=.bool (l.all p)∧h.Sub h':=by
 refine Zd (fd:=c106) rfl rfl rfl ?_
 simp(disch:=omega)only[c106,go_sem]
 have hs1:h.Sub (h.add (.bk [.fn g u w])):=(H.Sub.refl hw).add _
 refine(containsFuncShade_ev (p:=fun a=> !p a) hs1.wf (hx.mono hs1) fun a ha h2 hs2=>?_).mono fun v h' hv=>?_
 ·have hc:h2.cells h.next=some [.fn g u w]:=hs2.cells (Zf rfl)
  have hl:h.next<h2.next:=by have:=hs2.next;rw[H.next_add] at this;omega
  refine Zd (fd:=c157) rfl rfl rfl ?_
  simp(disch:=omega)only[c157,go_sem,hc,getN_full (hx.1 _ (List.mem_map_of_mem ha))]
  refine((hp a ha).mono hs1).use (hs2.add _) fun h3 hs3=>?_
  simp(disch:=omega)only[go_sem]
  exact(H.Sub.refl hs2.wf).add _ |>.trans hs3
 ·obtain⟨rfl,hs⟩:=hv
  simp(disch:=omega)only[go_sem]
  exact⟨by rw[any_not],hs1.trans hs⟩
theorem indexFuncInt_ev {l:List Int}{p:Int→Bool}{h:H}{x f:V}(hw:h.wf)(hx:Zg h x 1 (l.map encI))(hp:∀a∈l,Y5 h f [.ii a] (.bool (p a))):
  E (.fn 112 [] []) [x,f] h fun v h'=>v=.ii (Y9 p l 0)∧h.Sub h':=by
 have hb:=hx.boundE
 refine Zd (fd:=c112) rfl rfl rfl ?_
 simp(disch:=omega)only[c112,go_sem,hx.lenE]
 refine Zh l.length (fun i s=>∃tm h',s=⟨tm,h',[]⟩∧h.Sub h'∧tm.E 0=x∧tm.E 1=f∧tm.E 7=.ii (l.length:Int)∧tm.E 8=.ii (i:Int)∧Y9 p l 0=Y9 p (l.drop i) i)
  ?_ ?_ (i:=0) (Nat.zero_le _) ⟨_,_,rfl,H.Sub.refl hw,yac,yac,yac,yae,rfl⟩
 ·rintro i s hi ⟨tm,h',rfl,hs,e0,e1,e7,e8,e9⟩
  have hi':(i:Int)<(l.length:Int):=by omega
  obtain⟨b,o,c,cs,rfl,hc,hq,hg,hn,hn0⟩:=(hx.mono hs).at hi
  simp(disch:=omega)only[go_sem,e0,e1,e7,e8,hi',hq (Ze i),hc,hn0 yab,encI]
  refine(hp _ (List.getElem_mem hi)).use hs fun h2 hs2=>?_
  cases hpr:p l[i] with
  |true=>
   simp(disch:=omega)only[go_sem,e0,e1,e7,e8]
   exact⟨by rw[e9,WG hi hpr],hs.trans hs2⟩
  |false=>
   simp(disch:=omega)only[go_sem,e0,e1,e7,e8,Zc]
   exact⟨_,_,rfl,hs.trans hs2,yak,yal,(by simp[e7]),yac,by rw[e9,Ww hi hpr]⟩
 ·rintro s ⟨tm,h',rfl,hs,e0,e1,e7,e8,e9⟩
  simp(disch:=omega)only[go_sem,e0,e1,e7,e8,Int.lt_irrefl]
  exact⟨by rw[e9];simp[Y9],hs⟩
theorem WQ {l:List Int}{p:Int→Bool}{h:H}{x f:V}(hw:h.wf)(hx:Zg h x 1 (l.map encI))(hp:∀a∈l,Y5 h f [.ii a] (.bool (p a))):
  E (.fn 45 [] []) [x,f] h fun v h'=>v=.bool (l.any p)∧h.Sub h':=by
 refine Zd (fd:=c45) rfl rfl rfl ?_
 simp(disch:=omega)only[c45,go_sem]
 refine(indexFuncInt_ev hw hx hp).mono fun v h' hv=>?_
 obtain⟨rfl,hs⟩:=hv
 simp(disch:=omega)only[go_sem]
 exact⟨by rw[WH],hs⟩
theorem YE {l:List Int}{p:Int→Bool}{h:H}{x:V}{g:FuncId}{u w:List V}(hw:h.wf)(hx:Zg h x 1 (l.map encI))(hp:∀a∈l,Y5 h (.fn g u w) [.ii a] (.bool (p a))):
  E (.fn 81 [] []) [x,.fn g u w] h fun v h'=>v=.bool (l.all p)∧h.Sub h':=by
 refine Zd (fd:=c81) rfl rfl rfl ?_
 simp(disch:=omega)only[c81,go_sem]
 have hs1:h.Sub (h.add (.bk [.fn g u w])):=(H.Sub.refl hw).add _
 refine(WQ (p:=fun a=> !p a) hs1.wf (hx.mono hs1) fun a ha h2 hs2=>?_).mono fun v h' hv=>?_
 ·have hc:h2.cells h.next=some [.fn g u w]:=hs2.cells (Zf rfl)
  have hl:h.next<h2.next:=by have:=hs2.next;rw[H.next_add] at this;omega
  refine Zd (fd:=c135) rfl rfl rfl ?_
  simp(disch:=omega)only[c135,go_sem,hc]
  refine((hp a ha).mono hs1).use hs2 fun h3 hs3=>?_
  simp(disch:=omega)only[go_sem]
  exact hs3
 ·obtain⟨rfl,hs⟩:=hv
  simp(disch:=omega)only[go_sem]
  exact⟨by rw[any_not],hs1.trans hs⟩
theorem Vb {l r:List (Int)}{h:H}{x y:V}(hx:Zg h x 1 (l.map encI))(hy:Zg h y 1 (r.map encI)):
  E (.fn 86 [] []) [x,y] h fun v h'=>v=.bool (decide (l=r))∧h'=h:=by
 have hb:=hx.boundE
 refine Zd (fd:=c86) rfl rfl rfl ?_
 by_cases hl:l.length=r.length
 ·have hl':(l.length:Int)=(r.length:Int):=by omega
  simp(disch:=omega)only[c86,go_sem,hx.lenE,hy.lenE,hl',ne_eq,not_true_eq_false]
  refine Zh l.length (fun i s=>∃tm,s=⟨tm,h,[]⟩∧tm.E 0=x∧tm.E 1=y∧tm.E 12=.ii (l.length:Int)∧tm.E 13=.ii (i:Int)∧l.take i=r.take i)
   ?_ ?_ (i:=0) (Nat.zero_le _) ⟨_,rfl,yac,yac,yad,yae,rfl⟩
  ·rintro i s hi ⟨tm,rfl,e0,e1,e12,e13,e9⟩
   have hi':(i:Int)<(l.length:Int):=by omega
   have hi2:i<r.length:=by omega
   obtain⟨b,o,c,cs,rfl,hc,hq,hg,hn,hn0⟩:=hx.at hi
   obtain⟨b2,o2,c2,cs2,rfl,hc2,hq2,hg2,hn2,hn02⟩:=hy.at hi2
   have h1:(l[i]=r[i])↔l.take (i+1)=r.take (i+1):=by
    rw[List.take_succ_eq_append_getElem hi,List.take_succ_eq_append_getElem hi2,e9];simp only[List.append_cancel_left_eq,List.cons.injEq,and_true]
   by_cases he:l[i]=r[i]
   ·have hl0:=hl
    simp(disch:=omega)only[go_sem,e0,e1,e12,e13,hi',hq (Ze i),hq2 (Ze i),hc,hc2,hg,hg2,hn0 yab,hn02 yab,encI,he,ngB,ne_eq,not_true_eq_false,not_false_eq_true,Zc]
    exact⟨_,rfl,yak,yal,(by simp[e12]),yac,h1.1 he⟩
   ·simp(disch:=omega)only[go_sem,e0,e1,e12,e13,hi',hq (Ze i),hq2 (Ze i),hc,hc2,hg,hg2,hn0 yab,hn02 yab,encI,he,ngB,ne_eq,not_true_eq_false,not_false_eq_true,Zc]
    rw[decide_eq_false]
    intro e;exact he (h1.2 (by rw[e]))
  ·rintro s ⟨tm,rfl,e0,e1,e12,e13,e9⟩
   simp(disch:=omega)only[go_sem,e0,e1,e12,e13,Int.lt_irrefl]
   rw[decide_eq_true]
   rw[List.take_length,hl,List.take_length] at e9;exact e9
 ·have hl':¬(l.length:Int)=(r.length:Int):=by omega
  simp(disch:=omega)only[c86,go_sem,hx.lenE,hy.lenE,hl',ne_eq,not_false_eq_true]
  rw[decide_eq_false]
  intro e;exact hl (by rw[e])
theorem WN {l r:List (Int)}{h:H}{x y:V}(hx:Zg h x 1 (l.map encI))(hy:Zg h y 1 (r.map encI))(Q:V→H→Prop):
  Ev fnG Zm (.fn 22 [] []) [x,y] h Q=Q (.bool (decide (l=r))) h:=by
 refine Ev.det (Zd (fd:=c22) rfl rfl rfl ?_) Q
 simp(disch:=omega)only[c22,go_sem]
 refine(Vb hx hy).mono fun v h' hv=>?_
 obtain⟨rfl,rfl⟩:=hv
 simp(disch:=omega)only[go_sem]
theorem equalShade_ev {l r:List (List Int)}{h:H}{x y:V}(hx:Zg h x 3 (l.map (List.map iv)))(hy:Zg h y 3 (r.map (List.map iv))):
  E (.fn 138 [] []) [x,y] h fun v h'=>v=.bool (decide (l=r))∧h'=h:=by
 have hb:=hx.boundE
 refine Zd (fd:=c138) rfl rfl rfl ?_
 by_cases hl:l.length=r.length
 ·have hl':(l.length:Int)=(r.length:Int):=by omega
  simp(disch:=omega)only[c138,go_sem,hx.lenE,hy.lenE,hl',ne_eq,not_true_eq_false]
  refine Zh l.length (fun i s=>∃tm,s=⟨tm,h,[]⟩∧tm.E 0=x∧tm.E 1=y∧tm.E 12=.ii (l.length:Int)∧tm.E 13=.ii (i:Int)∧l.take i=r.take i)
   ?_ ?_ (i:=0) (Nat.zero_le _) ⟨_,rfl,yac,yac,yad,yae,rfl⟩
  ·rintro i s hi ⟨tm,rfl,e0,e1,e12,e13,e9⟩
   have hi':(i:Int)<(l.length:Int):=by omega
   have hi2:i<r.length:=by omega
   obtain⟨b,o,c,cs,rfl,hc,hq,hg,hn,hn0⟩:=hx.at hi
   obtain⟨b2,o2,c2,cs2,rfl,hc2,hq2,hg2,hn2,hn02⟩:=hy.at hi2
   have h1:(l[i]=r[i])↔l.take (i+1)=r.take (i+1):=by
    rw[List.take_succ_eq_append_getElem hi,List.take_succ_eq_append_getElem hi2,e9];simp only[List.append_cancel_left_eq,List.cons.injEq,and_true]
   have hf:=Wu l[i] r[i] (n:=3) yag yaf true
   by_cases he:l[i]=r[i]
   ·rw[he] at hf
    simp(disch:=omega)only[go_sem,e0,e1,e12,e13,hi',hq (Ze i),hq2 (Ze i),hc,hc2,hg,hg2,hf,he,ngB,Zc]
    exact⟨_,rfl,yak,yal,(by simp[e12]),yac,h1.1 he⟩
   ·simp(disch:=omega)only[go_sem,e0,e1,e12,e13,hi',hq (Ze i),hq2 (Ze i),hc,hc2,hg,hg2,hf,he,ngB,Zc]
    rw[decide_eq_false]
    intro e;exact he (h1.2 (by rw[e]))
  ·rintro s ⟨tm,rfl,e0,e1,e12,e13,e9⟩
   simp(disch:=omega)only[go_sem,e0,e1,e12,e13,Int.lt_irrefl]
   rw[decide_eq_true]
   rw[List.take_length,hl,List.take_length] at e9;exact e9
 ·have hl':¬(l.length:Int)=(r.length:Int):=by omega
  simp(disch:=omega)only[c138,go_sem,hx.lenE,hy.lenE,hl',ne_eq,not_false_eq_true]
  rw[decide_eq_false]
  intro e;exact hl (by rw[e])
theorem eqShade_ev {l r:List (List Int)}{h:H}{x y:V}(hx:Zg h x 3 (l.map (List.map iv)))(hy:Zg h y 3 (r.map (List.map iv)))(Q:V→H→Prop):
  Ev fnG Zm (.fn 89 [] []) [x,y] h Q=Q (.bool (decide (l=r))) h:=by
 refine Ev.det (Zd (fd:=c89) rfl rfl rfl ?_) Q
 simp(disch:=omega)only[c89,go_sem]
 refine(equalShade_ev hx hy).mono fun v h' hv=>?_
 obtain⟨rfl,rfl⟩:=hv
 simp(disch:=omega)only[go_sem]
theorem equalEye_ev {l r:List (List Int)}{h:H}{x y:V}(hx:Zg h x 4 (l.map (List.map iv)))(hy:Zg h y 4 (r.map (List.map iv))):
  E (.fn 136 [] []) [x,y] h fun v h'=>v=.bool (decide (l=r))∧h'=h:=by
 have hb:=hx.boundE
 refine Zd (fd:=c136) rfl rfl rfl ?_
 by_cases hl:l.length=r.length
 ·have hl':(l.length:Int)=(r.length:Int):=by omega
  simp(disch:=omega)only[c136,go_sem,hx.lenE,hy.lenE,hl',ne_eq,not_true_eq_false]
  refine Zh l.length (fun i s=>∃tm,s=⟨tm,h,[]⟩∧tm.E 0=x∧tm.E 1=y∧tm.E 12=.ii (l.length:Int)∧tm.E 13=.ii (i:Int)∧l.take i=r.take i)
   ?_ ?_ (i:=0) (Nat.zero_le _) ⟨_,rfl,yac,yac,yad,yae,rfl⟩
  ·rintro i s hi ⟨tm,rfl,e0,e1,e12,e13,e9⟩
   have hi':(i:Int)<(l.length:Int):=by omega
   have hi2:i<r.length:=by omega
   obtain⟨b,o,c,cs,rfl,hc,hq,hg,hn,hn0⟩:=hx.at hi
   obtain⟨b2,o2,c2,cs2,rfl,hc2,hq2,hg2,hn2,hn02⟩:=hy.at hi2
   have h1:(l[i]=r[i])↔l.take (i+1)=r.take (i+1):=by
    rw[List.take_succ_eq_append_getElem hi,List.take_succ_eq_append_getElem hi2,e9];simp only[List.append_cancel_left_eq,List.cons.injEq,and_true]
   have hf:=Wu l[i] r[i] (n:=4) yag yaf true
   by_cases he:l[i]=r[i]
   ·rw[he] at hf
    simp(disch:=omega)only[go_sem,e0,e1,e12,e13,hi',hq (Ze i),hq2 (Ze i),hc,hc2,hg,hg2,hf,he,ngB,Zc]
    exact⟨_,rfl,yak,yal,(by simp[e12]),yac,h1.1 he⟩
   ·simp(disch:=omega)only[go_sem,e0,e1,e12,e13,hi',hq (Ze i),hq2 (Ze i),hc,hc2,hg,hg2,hf,he,ngB,Zc]
    rw[decide_eq_false]
    intro e;exact he (h1.2 (by rw[e]))
  ·rintro s ⟨tm,rfl,e0,e1,e12,e13,e9⟩
   simp(disch:=omega)only[go_sem,e0,e1,e12,e13,Int.lt_irrefl]
   rw[decide_eq_true]
   rw[List.take_length,hl,List.take_length] at e9;exact e9
 ·have hl':¬(l.length:Int)=(r.length:Int):=by omega
  simp(disch:=omega)only[c136,go_sem,hx.lenE,hy.lenE,hl',ne_eq,not_false_eq_true]
  rw[decide_eq_false]
  intro e;exact hl (by rw[e])
theorem eqEye_ev {l r:List (List Int)}{h:H}{x y:V}(hx:Zg h x 4 (l.map (List.map iv)))(hy:Zg h y 4 (r.map (List.map iv)))(Q:V→H→Prop):
  Ev fnG Zm (.fn 87 [] []) [x,y] h Q=Q (.bool (decide (l=r))) h:=by
 refine Ev.det (Zd (fd:=c87) rfl rfl rfl ?_) Q
 simp(disch:=omega)only[c87,go_sem]
 refine(equalEye_ev hx hy).mono fun v h' hv=>?_
 obtain⟨rfl,rfl⟩:=hv
 simp(disch:=omega)only[go_sem]
theorem equalLight_ev {l r:List (List Int)}{h:H}{x y:V}(hx:Zg h x 3 (l.map (List.map iv)))(hy:Zg h y 3 (r.map (List.map iv))):
  E (.fn 137 [] []) [x,y] h fun v h'=>v=.bool (decide (l=r))∧h'=h:=by
 have hb:=hx.boundE
 refine Zd (fd:=c137) rfl rfl rfl ?_
 by_cases hl:l.length=r.length
 ·have hl':(l.length:Int)=(r.length:Int):=by omega
  simp(disch:=omega)only[c137,go_sem,hx.lenE,hy.lenE,hl',ne_eq,not_true_eq_false]
  refine Zh l.length (fun i s=>∃tm,s=⟨tm,h,[]⟩∧tm.E 0=x∧tm.E 1=y∧tm.E 12=.ii (l.length:Int)∧tm.E 13=.ii (i:Int)∧l.take i=r.take i)
   ?_ ?_ (i:=0) (Nat.zero_le _) ⟨_,rfl,yac,yac,yad,yae,rfl⟩
  ·rintro i s hi ⟨tm,rfl,e0,e1,e12,e13,e9⟩
   have hi':(i:Int)<(l.length:Int):=by omega
   have hi2:i<r.length:=by omega
   obtain⟨b,o,c,cs,rfl,hc,hq,hg,hn,hn0⟩:=hx.at hi
   obtain⟨b2,o2,c2,cs2,rfl,hc2,hq2,hg2,hn2,hn02⟩:=hy.at hi2
   have h1:(l[i]=r[i])↔l.take (i+1)=r.take (i+1):=by
    rw[List.take_succ_eq_append_getElem hi,List.take_succ_eq_append_getElem hi2,e9];simp only[List.append_cancel_left_eq,List.cons.injEq,and_true]
   have hf:=Wu l[i] r[i] (n:=3) yag yaf true
   by_cases he:l[i]=r[i]
   ·rw[he] at hf
    simp(disch:=omega)only[go_sem,e0,e1,e12,e13,hi',hq (Ze i),hq2 (Ze i),hc,hc2,hg,hg2,hf,he,ngB,Zc]
    exact⟨_,rfl,yak,yal,(by simp[e12]),yac,h1.1 he⟩
   ·simp(disch:=omega)only[go_sem,e0,e1,e12,e13,hi',hq (Ze i),hq2 (Ze i),hc,hc2,hg,hg2,hf,he,ngB,Zc]
    rw[decide_eq_false]
    intro e;exact he (h1.2 (by rw[e]))
  ·rintro s ⟨tm,rfl,e0,e1,e12,e13,e9⟩
   simp(disch:=omega)only[go_sem,e0,e1,e12,e13,Int.lt_irrefl]
   rw[decide_eq_true]
   rw[List.take_length,hl,List.take_length] at e9;exact e9
 ·have hl':¬(l.length:Int)=(r.length:Int):=by omega
  simp(disch:=omega)only[c137,go_sem,hx.lenE,hy.lenE,hl',ne_eq,not_false_eq_true]
  rw[decide_eq_false]
  intro e;exact hl (by rw[e])
theorem eqLight_ev {l r:List (List Int)}{h:H}{x y:V}(hx:Zg h x 3 (l.map (List.map iv)))(hy:Zg h y 3 (r.map (List.map iv)))(Q:V→H→Prop):
  Ev fnG Zm (.fn 88 [] []) [x,y] h Q=Q (.bool (decide (l=r))) h:=by
 refine Ev.det (Zd (fd:=c88) rfl rfl rfl ?_) Q
 simp(disch:=omega)only[c88,go_sem]
 refine(equalLight_ev hx hy).mono fun v h' hv=>?_
 obtain⟨rfl,rfl⟩:=hv
 simp(disch:=omega)only[go_sem]
end Go.Ab.Tryz
namespace Go.Ab
theorem q_sla_all3 (tm:T V)(b:Nat):q_sla tm 3 1 (.ptr b 0) none none none=some (.sl b 0 3 (.fix 3)):=rfl
theorem Zi.sub {S:Nat→Prop}{h0 h h':H}(k:Zi S h h')(s:h0.Sub h)(hw0:h0.wf)(hS:∀c,S c→h0.next≤c)(hw:h'.wf):h0.Sub h':=
 ⟨⟨Nat.le_trans s.next k.1,fun b y e=>k.2 b y (s.get e) fun hs=>by have:=hS b hs;have:=hw0 b y e;omega⟩,hw⟩
theorem Zi.new {S:Nat→Prop}{h h':H}(hw:h.wf)(k:Zi (fun c=>S c∨h.next≤c) h h'):Zi S h h':=⟨k.1,fun c y e n=>k.2 c y e fun hs=>hs.elim n fun hge=>by have:=hw c y e;omega⟩
namespace Tryz
structure Sd where
 x:Int
 y:Int
 z:Int
deriving DecidableEq
structure Ey where
 s:Sd
 frm:Int
deriving DecidableEq
structure Tb where
 eyes:List Ey
 lights:List Sd
 pieces:List Sd
deriving DecidableEq
def Zj (s:Sd):List V:=[.ii s.x,.ii s.y,.ii s.z]
def Yx (e:Ey):List V:=[.ii e.s.x,.ii e.s.y,.ii e.s.z,.ii e.frm]
def ZK (h:H)(v:V)(t:Tb):Prop:=∃E L P,v=.agg [E,L,P]∧Zg h E 4 (t.eyes.map Yx)∧Zg h L 3 (t.lights.map Zj)∧Zg h P 3 (t.pieces.map Zj)
theorem ZK.mono {h h':H}{v:V}{t:Tb}(a:ZK h v t)(hs:h.Sub h'):ZK h' v t:=by
 obtain⟨E,L,P,e,a1,a2,a3⟩:=a
 exact⟨E,L,P,e,a1.mono hs,a2.mono hs,a3.mono hs⟩
def inB (n lo hi:Int):Bool:=decide (lo≤n∧n≤hi)
def Sd.within (s:Sd)(m:Int):Bool:=inB s.x 0 m&&(inB s.y 0 m&&(inB s.z 0 m&&true))
def Ey.ok (e:Ey):Bool:=e.s.within 4&&inB e.frm 1 400
def check (t:Tb):Int:=
 if inB t.eyes.length 1 6=false∨inB t.lights.length 1 4=false∨9<t.pieces.length then 2
 else if t.eyes.all Ey.ok=false then 3
 else if t.lights.all (·.within 3)=false∨t.pieces.all (·.within 20)=false then 3 else 0
structure InS (s:Sd)(m:Int):Prop where
 x:0≤s.x∧s.x≤m
 y:0≤s.y∧s.y≤m
 z:0≤s.z∧s.z≤m
theorem within_iff {s:Sd}{m:Int}:s.within m=true↔InS s m:=by
 simp only[Sd.within,inB,Bool.and_true,Bool.and_eq_true,decide_eq_true_eq]
 exact⟨fun⟨a,b,c⟩=>⟨a,b,c⟩,fun⟨a,b,c⟩=>⟨a,b,c⟩⟩
structure Good (t:Tb):Prop where
 eyes:1≤t.eyes.length∧t.eyes.length≤6
 lights:1≤t.lights.length∧t.lights.length≤4
 pieces:t.pieces.length≤9
 eye:∀e∈t.eyes,InS e.s 4∧1≤e.frm∧e.frm≤400
 light:∀l∈t.lights,InS l 3
 piece:∀p∈t.pieces,InS p 20
theorem Z5 {t:Tb}:check t=0↔Good t:=by
 unfold check
 constructor
 ·intro h
  split at h
  ·cases h
  ·rename_i h1
   split at h
   ·cases h
   ·rename_i h2
    split at h
    ·cases h
    ·rename_i h3
     simp only[not_or,Bool.not_eq_false,inB,decide_eq_true_eq,List.all_eq_true] at h1 h2 h3
     refine⟨by omega,by omega,by omega,fun e he=>?_,fun l hl=>within_iff.1 (h3.1 l hl),fun p hp=>within_iff.1 (h3.2 p hp)⟩
     have:=h2 e he
     simp only[Ey.ok,inB,Bool.and_eq_true,decide_eq_true_eq] at this
     exact⟨within_iff.1 this.1,this.2⟩
 ·intro g
  have h1:=g.eyes
  have h2:=g.lights
  have h3:=g.pieces
  rw[if_neg,if_neg,if_neg]
  ·simp only[not_or,Bool.not_eq_false,List.all_eq_true]
   exact⟨fun l hl=>within_iff.2 (g.light l hl),fun p hp=>within_iff.2 (g.piece p hp)⟩
  ·simp only[Bool.not_eq_false,List.all_eq_true]
   intro e he
   have:=g.eye e he
   simp only[Ey.ok,inB,Bool.and_eq_true,decide_eq_true_eq]
   exact⟨within_iff.2 this.1,this.2⟩
  ·simp only[not_or,Bool.not_eq_false,inB,decide_eq_true_eq]
   omega
theorem in_ev (n lo hi:Int)(h:H)(Q:V→H→Prop):Ev fnG Zm (.fn 100 [] []) [.ii n,.ii lo,.ii hi] h Q=Q (.bool (inB n lo hi)) h:=by
 refine Ev.det (Zd (fd:=c100) rfl rfl rfl ?_) Q
 by_cases c:lo≤n
 ·simp(disch:=omega)only[c100,go_sem,c,inB]
 ·simp(disch:=omega)only[c100,go_sem,c,inB,false_and]
theorem sd_rows (h:H)(b:Nat)(s:Sd)(hc:h.cells b=some (Zj s)):Zg h (.sl b 0 3 (.fix 3)) 1 (([s.x,s.y,s.z]:List Int).map encI):=
 ⟨by simp[encI],by simp,.inr ⟨b,0,.fix 3,_,rfl,.inr hc,by rfl⟩⟩
theorem within_ev {h:H}(hw:h.wf)(s:Sd)(m:Int)(Q:V→H→Prop)(q:∀h',h.Sub h'→Q (.bool (s.within m)) h'):Ev fnG Zm (.fn 103 [] []) [.agg (Zj s),.ii m] h Q:=by
 refine Zd (fd:=c103) rfl rfl rfl ?_
 have s2:h.Sub ((h.add (.bk (Zj s))).add (.bk [.ii m])):=yaa
 have g1:((h.add (.bk (Zj s))).add (.bk [.ii m])).cells h.next=some (Zj s):=by simp(disch:=first|omega|simp only[nZ]<;>omega|fail)only[go_sem]
 have g2:((h.add (.bk (Zj s))).add (.bk [.ii m])).cells (h.next+1)=some [.ii m]:=by simp(disch:=first|omega|simp only[nZ]<;>omega|fail)only[go_sem]
 simp only[Zj] at s2 g1 g2
 simp(disch:=first|omega|simp only[nZ]<;>omega|fail)only[c103,go_sem,Zj,q_sla_all3]
 refine(YE (p:=fun n=>inB n 0 m) s2.wf (sd_rows _ _ s g1) fun n _ h1 hs=>?_).mono fun u h3 hu=>?_
 ·have g2':=hs.cells g2
  refine Zd (fd:=c153) rfl rfl rfl ?_
  simp(disch:=first|omega|simp only[nZ]<;>omega|fail)only[c153,go_sem,g2',in_ev]
  exact H.Sub.refl hs.wf
 ·obtain⟨rfl,s3⟩:=hu
  simp(disch:=first|omega|simp only[nZ]<;>omega|fail)only[go_sem]
  exact q _ (s2.trans s3)
theorem XY {h:H}(hw:h.wf)(s:Sd)(Q:V→H→Prop)(q:∀h',h.Sub h'→Q (.bool (s.within 20)) h'):Ev fnG Zm (.fn 107 [] []) [.agg (Zj s)] h Q:=by
 refine Zd (fd:=c107) rfl rfl rfl ?_
 have s1:h.Sub (h.add (.bk [.ii s.x,.ii s.y,.ii s.z])):=yaa
 have hwi:=within_ev (h:=h.add (.bk [.ii s.x,.ii s.y,.ii s.z])) s1.wf s 20
 simp only[Zj] at hwi
 simp(disch:=omega)only[c107,go_sem,Zj]
 refine hwi _ fun h2 s2=>?_
 simp(disch:=omega)only[go_sem]
 exact q _ (s1.trans s2)
theorem checkE_ev {h:H}(hw:h.wf)(e:Ey):Ev fnG Zm (.fn 102 [] []) [.agg (Yx e)] h fun v h'=>v=.bool e.ok∧h.Sub h':=by
 refine Ev.gen fun Q q=>?_
 refine Zd (fd:=c102) rfl rfl rfl ?_
 have s1:h.Sub (h.add (.bk [.ii e.s.x,.ii e.s.y,.ii e.s.z,.ii e.frm])):=yaa
 have g1:(h.add (.bk [.ii e.s.x,.ii e.s.y,.ii e.s.z,.ii e.frm])).cells h.next=some [.ii e.s.x,.ii e.s.y,.ii e.s.z,.ii e.frm]:=Zf rfl
 have hwi:=within_ev (h:=h.add (.bk [.ii e.s.x,.ii e.s.y,.ii e.s.z,.ii e.frm])) s1.wf e.s 4
 simp only[Zj] at hwi
 simp(disch:=omega)only[c102,go_sem,Yx]
 refine hwi _ fun h2 s2=>?_
 have g2:=s2.cells g1
 cases hc:e.s.within 4
 ·simp(disch:=omega)only[go_sem]
  exact q _ _ ⟨by simp[Ey.ok,hc],s1.trans s2⟩
 ·simp(disch:=omega)only[go_sem,g2,in_ev]
  exact q _ _ ⟨by simp[Ey.ok,hc],s1.trans s2⟩
theorem checkL_ev {h:H}(hw:h.wf)(s:Sd):Ev fnG Zm (.fn 105 [] []) [.agg (Zj s)] h fun v h'=>v=.bool (s.within 3)∧h.Sub h':=by
 refine Ev.gen fun Q q=>?_
 refine Zd (fd:=c105) rfl rfl rfl ?_
 have s1:h.Sub (h.add (.bk [.ii s.x,.ii s.y,.ii s.z])):=yaa
 have hwi:=within_ev (h:=h.add (.bk [.ii s.x,.ii s.y,.ii s.z])) s1.wf s 3
 simp only[Zj] at hwi
 simp(disch:=omega)only[c105,go_sem,Zj]
 refine hwi _ fun h2 s2=>?_
 simp(disch:=omega)only[go_sem]
 exact q _ _ ⟨rfl,s1.trans s2⟩
theorem check_ev {h:H}{v:V}{t:Tb}(hw:h.wf)(ht:ZK h v t):Ev fnG Zm (.fn 38 [] []) [v] h fun u h'=>u=.ii (check t)∧h.Sub h':=by
 refine Ev.gen fun Q q=>?_
 obtain⟨E,L,P,rfl,aE,aL,aP⟩:=ht
 have hlE:=aE.lenE
 have hlL:=aL.lenE
 have hlP:=aP.lenE
 refine Zd (fd:=c38) rfl rfl rfl ?_
 have s1:h.Sub (h.add (.bk [E,L,P])):=yaa
 have g1:(h.add (.bk [E,L,P])).cells h.next=some [E,L,P]:=Zf rfl
 by_cases c1:inB t.eyes.length 1 6=false∨inB t.lights.length 1 4=false∨9<t.pieces.length
 ·have hc:check t=2:=by unfold check;rw[if_pos c1]
  cases d1:inB t.eyes.length 1 6
  ·simp(disch:=omega)only[c38,go_sem,g1,hlE,hlL,hlP,in_ev,d1,Bool.not_false]
   exact q _ _ ⟨by rw[hc],s1⟩
  cases d2:inB t.lights.length 1 4
  ·simp(disch:=omega)only[c38,go_sem,g1,hlE,hlL,hlP,in_ev,d1,d2,Bool.not_false,Bool.not_true]
   exact q _ _ ⟨by rw[hc],s1⟩
  rw[d1,d2] at c1
  have c3:(9:Int)<(t.pieces.length:Int):=by simp at c1;omega
  simp(disch:=omega)only[c38,go_sem,g1,hlE,hlL,hlP,in_ev,d1,d2,Bool.not_false,Bool.not_true,c3]
  exact q _ _ ⟨by rw[hc],s1⟩
 have d:=c1
 simp only[not_or,Bool.not_eq_false] at d
 obtain⟨d1,d2,d3⟩:=d
 have c3:¬(9:Int)<(t.pieces.length:Int):=by omega
 simp(disch:=omega)only[c38,go_sem,g1,hlE,hlL,hlP,in_ev,d1,d2,Bool.not_false,Bool.not_true,c3]
 refine(everyEye_ev (p:=Ey.ok) s1.wf (aE.mono s1) fun e _ h1 hs=>checkE_ev hs.wf e).mono fun u h2 hu=>?_
 obtain⟨rfl,s12⟩:=hu
 have s2:=s1.trans s12
 have g2:=s12.cells g1
 cases c4:t.eyes.all Ey.ok
 ·simp(disch:=omega)only[go_sem,Bool.not_false]
  exact q _ _ ⟨by unfold check;rw[if_neg c1,if_pos c4],s2⟩
 have c4':¬t.eyes.all Ey.ok=false:=by rw[c4];simp
 simp(disch:=omega)only[go_sem,Bool.not_true,g2]
 refine(everyLight_ev (p:=fun s=>s.within 3) s2.wf (aL.mono s2) fun e _ h1 hs=>checkL_ev hs.wf e).mono fun u h3 hu=>?_
 obtain⟨rfl,s23⟩:=hu
 have s3:=s2.trans s23
 have g3:=s23.cells g2
 cases c5:t.lights.all fun s=>s.within 3
 ·simp(disch:=omega)only[go_sem,Bool.not_false]
  exact q _ _ ⟨by unfold check;rw[if_neg c1,if_neg c4',if_pos (.inl c5)],s3⟩
 simp(disch:=omega)only[go_sem,Bool.not_true,g3]
 refine(everyShade_ev (p:=fun s=>s.within 20) s3.wf (aP.mono s3) fun e _ h1 hs=>by
  exact XY hs.wf e _ fun h' s=>⟨rfl,s⟩).mono fun u h4 hu=>?_
 obtain⟨rfl,s34⟩:=hu
 cases c6:t.pieces.all fun s=>s.within 20
 ·simp(disch:=omega)only[go_sem,Bool.not_false]
  exact q _ _ ⟨by unfold check;rw[if_neg c1,if_neg c4',if_pos (.inr c6)],s3.trans s34⟩
 ·simp(disch:=omega)only[go_sem,Bool.not_true]
  exact q _ _ ⟨by unfold check;rw[if_neg c1,if_neg c4',if_neg (by simp[c5,c6])],s3.trans s34⟩
def Ws (h:H)(d:Nat)(t:Tb):Prop:=∃E L P,h.get d=some (.bk [E,L,P])∧Zg h E 4 (t.eyes.map Yx)∧Zg h L 3 (t.lights.map Zj)∧Zg h P 3 (t.pieces.map Zj)
theorem Ws.mono {h h':H}{d:Nat}{t:Tb}(a:Ws h d t)(hs:h.Sub h'):Ws h' d t:=by
 obtain⟨E,L,P,e,a1,a2,a3⟩:=a
 exact⟨E,L,P,hs.get e,a1.mono hs,a2.mono hs,a3.mono hs⟩
theorem opened_ev {h:H}{v:V}{t:Tb}(hw:h.wf)(ht:ZK h v t):Ev fnG Zm (.fn 74 [] []) [v] h fun u h'=>h.Sub h'∧((check t≠0∧u=.tup [.nilp,.ii (check t)])∨
  (check t=0∧∃d,u=.tup [.ptr d 0,.ii 0]∧h.next≤d∧Ws h' d t)):=by
 refine Ev.gen fun Q q=>?_
 have ht0:=ht
 obtain⟨E,L,P,rfl,aE,aL,aP⟩:=ht
 have e1:=aE.one
 have l1:=aL.one
 have p1:=aP.one
 refine Zd (fd:=c74) rfl rfl rfl ?_
 have s1:h.Sub (h.add (.bk [E,L,P])):=yaa
 have g1:(h.add (.bk [E,L,P])).cells h.next=some [E,L,P]:=Zf rfl
 simp(disch:=omega)only[c74,go_sem]
 refine(check_ev s1.wf (ht0.mono s1)).mono fun u h2 hu=>?_
 obtain⟨rfl,s12⟩:=hu
 have s2:=s1.trans s12
 have g2:=s12.cells g1
 by_cases c:check t=0
 ·have lt:=s12.next
  rw[H.next_add] at lt
  have s23:=(H.Sub.refl s2.wf).add (.bk [E,L,P])
  simp(disch:=omega)only[go_sem,ne_eq,c,not_true_eq_false,g2]
  exact q _ _ ⟨s2.trans s23,.inr ⟨c,_,rfl,by omega,E,L,P,Zn rfl,(aE.mono s2).mono s23,(aL.mono s2).mono s23,(aP.mono s2).mono s23⟩⟩
 ·simp(disch:=omega)only[go_sem,ne_eq,c,not_false_eq_true]
  exact q _ _ ⟨s2,.inl ⟨c,rfl⟩⟩
end Tryz
end Go.Ab
namespace Go.Ab
theorem Ye {h:H}{n:Int}:Zg (h.add (.bk [.ii n])) (.sl h.next 0 1 (.fix 1)) 1 [[.ii n]]:=Zg.new _ rfl rfl yac yac yac
namespace Tryz
theorem YC (h:H)(Q:V→H→Prop):Ev fnG Zm (.fn 9 [] []) [] h Q=Q (.bool true) h:=Ev.det ⟨1,.bool true,h,rfl,rfl,rfl⟩ Q
theorem Wb {α:Type}{enc:α→List V}(h:∀a,ZF (enc a)=true)(l:List α):ZF (l.map enc).flatten=true:=by
 rw[Xr]
 intro v hv
 obtain⟨r,hr,hvr⟩:=List.mem_flatten.1 hv
 obtain⟨a,_,rfl⟩:=List.mem_map.1 hr
 exact Xr.1 (h a) v hvr
def YO (t:Tb):Bool:=decide (12<t.eyes.length∨12<t.lights.length∨15<t.pieces.length)
theorem great_ev {h:H}{v:V}{t:Tb}(hw:h.wf)(ht:ZK h v t)(Q:V→H→Prop)(q:∀h',h.Sub h'→Q (.bool (YO t)) h'):Ev fnG Zm (.fn 25 [] []) [v] h Q:=by
 obtain⟨E,L,P,rfl,aE,aL,aP⟩:=ht
 have hlE:=aE.lenE
 have hlL:=aL.lenE
 have hlP:=aP.lenE
 refine Zd (fd:=c25) rfl rfl rfl ?_
 have q':=q _ ((H.Sub.refl hw).add (.bk [E,L,P]))
 by_cases c1:12<(t.eyes.length:Int)
 ·simp(disch:=omega)only[c25,go_sem,hlE,hlL,hlP,c1]
  have e:YO t=true:=by simp only[YO,decide_eq_true_eq];omega
  rw[e] at q';exact q'
 by_cases c2:12<(t.lights.length:Int)
 ·simp(disch:=omega)only[c25,go_sem,hlE,hlL,hlP,c1,c2]
  have e:YO t=true:=by simp only[YO,decide_eq_true_eq];omega
  rw[e] at q';exact q'
 ·simp(disch:=omega)only[c25,go_sem,hlE,hlL,hlP,c1,c2]
  have e:YO t=decide (15<(t.pieces.length:Int)):=by rw[Bool.eq_iff_iff];simp only[YO,decide_eq_true_eq];omega
  rw[e] at q';exact q'
theorem dupEye_ev {h:H}{x:V}{l:List Ey}(hw:h.wf)(hx:Zg h x 4 (l.map Yx))(hl:l.length≤1000000)(Q:V→H→Prop):
  Ev fnG Zm (.fn 64 [] []) [x] h Q=Q (.sl h.next 0 l.length (.fix l.length)) (h.add (.bk (l.map Yx).flatten)):=by
 refine Ev.det (Zd (fd:=c64) rfl rfl rfl ?_) Q
 simp(disch:=omega)only[c64,go_sem,hx.lenE,VJ]
 have:=dup_core (by_:=32) (z:=[.ii 0,.ii 0,.ii 0,.ii 0]) hx hw rfl yab (Wb (fun a=>rfl) l)
 rw[List.length_map] at this
 simp(disch:=omega)only[go_sem,this]
theorem dupLight_ev {h:H}{x:V}{l:List Sd}(hw:h.wf)(hx:Zg h x 3 (l.map Zj))(hl:l.length≤1000000)(Q:V→H→Prop):
  Ev fnG Zm (.fn 65 [] []) [x] h Q=Q (.sl h.next 0 l.length (.fix l.length)) (h.add (.bk (l.map Zj).flatten)):=by
 refine Ev.det (Zd (fd:=c65) rfl rfl rfl ?_) Q
 simp(disch:=omega)only[c65,go_sem,hx.lenE,VJ]
 have:=dup_core (by_:=24) (z:=[.ii 0,.ii 0,.ii 0]) hx hw rfl yab (Wb (fun a=>rfl) l)
 rw[List.length_map] at this
 simp(disch:=omega)only[go_sem,this]
theorem dupShade_ev {h:H}{x:V}{l:List Sd}(hw:h.wf)(hx:Zg h x 3 (l.map Zj))(hl:l.length≤1000000)(Q:V→H→Prop):
  Ev fnG Zm (.fn 66 [] []) [x] h Q=Q (.sl h.next 0 l.length (.fix l.length)) (h.add (.bk (l.map Zj).flatten)):=by
 refine Ev.det (Zd (fd:=c66) rfl rfl rfl ?_) Q
 simp(disch:=omega)only[c66,go_sem,hx.lenE,VJ]
 have:=dup_core (by_:=24) (z:=[.ii 0,.ii 0,.ii 0]) hx hw rfl yab (Wb (fun a=>rfl) l)
 rw[List.length_map] at this
 simp(disch:=omega)only[go_sem,this]
theorem Zg.full {h:H}{b n:Nat}{k:Kd}{c:Cap}{sz:Nat}{rows:List (List V)}(hn:n=rows.length)(hb:h.get b=some (.cells k rows.flatten))(hsz:∀r∈rows,r.length=sz)(hl:rows.length≤1000000):Zg h (.sl b 0 n c) sz rows:=by
 subst hn
 refine⟨hsz,by omega,.inr ⟨b,0,c,_,rfl,.inr (Zb hb),Z2.2 ⟨?_,?_⟩⟩⟩
 ·rw[List.drop_zero,←Zr hsz,List.take_length]
 ·rw[Zr hsz];omega
def TbNew (h0 h:H)(v:V)(t:Tb):Prop:=∃a b c,v=.agg [.sl a 0 t.eyes.length (.fix t.eyes.length),.sl b 0 t.lights.length (.fix t.lights.length),.sl c 0 t.pieces.length (.fix t.pieces.length)]∧(h0.next≤a∧a<h.next)∧(h0.next≤b∧b<h.next)∧(h0.next≤c∧c<h.next)∧
 (a≠b∧a≠c∧b≠c)∧h.get a=some (.bk (t.eyes.map Yx).flatten)∧h.get b=some (.bk (t.lights.map Zj).flatten)∧h.get c=some (.bk (t.pieces.map Zj).flatten)
def Small (t:Tb):Prop:=t.eyes.length≤1000∧t.lights.length≤1000∧t.pieces.length≤1000
theorem TbNew.is {h0 h:H}{v:V}{t:Tb}(a:TbNew h0 h v t)(hl:Small t):ZK h v t:=by
 obtain⟨a,b,c,rfl,_,_,_,_,g1,g2,g3⟩:=a
 have:=hl.1
 have:=hl.2.1
 have:=hl.2.2
 exact⟨_,_,_,rfl,Zg.full yac g1 (by simp[Yx]) yai,Zg.full yac g2 (by simp[Zj]) yai,Zg.full yac g3 (by simp[Zj]) yai⟩
theorem own_ev {h:H}{v:V}{t:Tb}(hw:h.wf)(ht:ZK h v t)(hl:Small t)(Q:V→H→Prop)(q:∀u h',h.Sub h'→TbNew h h' u t→Q u h'):Ev fnG Zm (.fn 10 [] []) [v] h Q:=by
 obtain⟨E,L,P,rfl,aE,aL,aP⟩:=ht
 obtain⟨l1,l2,l3⟩:=hl
 refine Zd (fd:=c10) rfl rfl rfl ?_
 have s2:h.Sub ((h.add (.bk [E,L,P])).add (.bk [.nils,.nils,.nils])):=yaa
 have s3:=s2.add (.bk (t.eyes.map Yx).flatten)
 have s4:=s3.add (.bk (t.lights.map Zj).flatten)
 have s5:=s4.add (.bk (t.pieces.map Zj).flatten)
 simp(disch:=first|omega|simp only[nZ]<;>omega|fail)only[c10,go_sem,dupEye_ev s2.wf (aE.mono s2) yab,dupLight_ev s3.wf (aL.mono s3) yab,dupShade_ev s4.wf (aP.mono s4) yab,Zv]
 refine q _ _ (yaa) ⟨h.next+1+1,h.next+1+1+1,h.next+1+1+1+1,rfl,⟨by omega,by simp only[H.next_set,H.next_add];omega⟩,⟨by omega,by simp only[H.next_set,H.next_add];omega⟩,⟨by omega,by simp only[H.next_set,H.next_add];omega⟩,by omega,?_,?_,?_⟩
 all_goals simp(disch:=first|omega|simp only[nZ]<;>omega|fail)only[go_sem]
def rowE (e:Ey):List Int:=[e.s.x,e.s.y,e.s.z,e.frm]
def rowD (s:Sd):List Int:=[s.x,s.y,s.z]
theorem rowE_inj {a b:List Ey}:a.map rowE=b.map rowE↔a=b:=by
 refine⟨fun h=>?_,fun h=>by rw[h]⟩
 refine List.map_inj_right (f:=rowE) (fun x y hxy=>?_) |>.1 h
 obtain⟨⟨_,_,_⟩,_⟩:=x;obtain⟨⟨_,_,_⟩,_⟩:=y;simp[rowE] at hxy;simp[hxy]
theorem rowD_inj {a b:List Sd}:a.map rowD=b.map rowD↔a=b:=by
 refine⟨fun h=>?_,fun h=>by rw[h]⟩
 refine List.map_inj_right (f:=rowD) (fun x y hxy=>?_) |>.1 h
 cases x;cases y;simp[rowD] at hxy;simp[hxy]
theorem eqEyes_ev {l r:List Ey}{h:H}{x y:V}(hx:Zg h x 4 (l.map Yx))(hy:Zg h y 4 (r.map Yx))(Q:V→H→Prop):Ev fnG Zm (.fn 87 [] []) [x,y] h Q=Q (.bool (decide (l=r))) h:=by
 rw[eqEye_ev (l:=l.map rowE) (r:=r.map rowE) (by rw[List.map_map];exact hx) (by rw[List.map_map];exact hy)]
 simp only[rowE_inj]
theorem eqLights_ev {l r:List Sd}{h:H}{x y:V}(hx:Zg h x 3 (l.map Zj))(hy:Zg h y 3 (r.map Zj))(Q:V→H→Prop):Ev fnG Zm (.fn 88 [] []) [x,y] h Q=Q (.bool (decide (l=r))) h:=by
 rw[eqLight_ev (l:=l.map rowD) (r:=r.map rowD) (by rw[List.map_map];exact hx) (by rw[List.map_map];exact hy)]
 simp only[rowD_inj]
theorem eqShades_ev {l r:List Sd}{h:H}{x y:V}(hx:Zg h x 3 (l.map Zj))(hy:Zg h y 3 (r.map Zj))(Q:V→H→Prop):Ev fnG Zm (.fn 89 [] []) [x,y] h Q=Q (.bool (decide (l=r))) h:=by
 rw[eqShade_ev (l:=l.map rowD) (r:=r.map rowD) (by rw[List.map_map];exact hx) (by rw[List.map_map];exact hy)]
 simp only[rowD_inj]
theorem same_ev {h:H}{v u:V}{m n:Tb}(hw:h.wf)(hm:ZK h v m)(hn:ZK h u n)(Q:V→H→Prop)(q:∀h',h.Sub h'→Q (.bool (decide (m=n))) h'):Ev fnG Zm (.fn 23 [] []) [v,u] h Q:=by
 obtain⟨me,ml,mp⟩:=m
 obtain⟨ne,nl,np⟩:=n
 obtain⟨E,L,P,rfl,aE,aL,aP⟩:=hm
 obtain⟨E',L',P',rfl,bE,bL,bP⟩:=hn
 dsimp only at aE aL aP bE bL bP
 refine Zd (fd:=c23) rfl rfl rfl ?_
 have s2:h.Sub ((h.add (.bk [E,L,P])).add (.bk [E',L',P'])):=((H.Sub.refl hw).add _).add _
 have q':=q _ s2
 simp only[Tb.mk.injEq] at q'
 have r1:=eqEyes_ev (aE.mono s2) (bE.mono s2)
 have r2:=eqLights_ev (aL.mono s2) (bL.mono s2)
 have r3:=eqShades_ev (aP.mono s2) (bP.mono s2)
 by_cases c1:me=ne
 ·by_cases c2:ml=nl
  ·simp(disch:=first|omega|simp only[nZ]<;>omega|fail)only[c23,go_sem,r1,r2,r3,c1,c2]
   simpa[c1,c2] using q'
  ·simp(disch:=first|omega|simp only[nZ]<;>omega|fail)only[c23,go_sem,r1,r2,r3,c1,c2]
   simpa[c1,c2] using q'
 ·simp(disch:=first|omega|simp only[nZ]<;>omega|fail)only[c23,go_sem,r1,r2,r3,c1]
  simpa[c1] using q'
end Tryz
end Go.Ab
namespace Go.Ab.Tryz
set_option maxHeartbeats 1000000 in
theorem Vm {h:H}{v:V}{t:Tb}(hw:h.wf)(ht:ZK h v t)(hl:Small t)(Q:V→H→Prop)(q:∀u h',h.Sub h'→ZK h' u t→Q u h'):Ev fnG Zm (.fn 11 [] []) [v] h Q:=by
 obtain⟨E,L,P,rfl,aE,aL,aP⟩:=ht
 obtain⟨m1,m2,m3⟩:=hl
 have hlE:=aE.lenE
 have hlL:=aL.lenE
 have hlP:=aP.lenE
 refine Zd (fd:=c11) rfl rfl rfl ?_
 have s3:h.Sub (((h.add (.bk [E,L,P])).add (.bk [.nils,.nils,.nils])).add (.bk [.nils,.nils,.nils])):=yaa
 simp(disch:=first|omega|simp only[nZ]<;>omega|fail)only[c11,go_sem,hlE]
 refine Zh t.eyes.length (fun i s=>∃tm h' x,s=⟨tm,h',[]⟩∧Zq h h' x 4 ((t.eyes.take i).map Yx)∧h.next+2<h'.next∧tm.E 1=.ptr h.next 0∧tm.E 2=.ptr (h.next+1) 0∧tm.E 3=.ptr (h.next+1+1) 0∧
   tm.E 11=E∧tm.E 12=.ii (t.eyes.length:Int)∧tm.E 13=.ii (i:Int)∧
   h'.get h.next=some (.bk [E,L,P])∧h'.get (h.next+1)=some (.bk [.nils,.nils,.nils])∧h'.get (h.next+1+1)=some (.bk [x,.nils,.nils]))
  ?_ ?_ (i:=0) (Nat.zero_le _) ⟨_,_,.nils,rfl,Zq.nil s3 4,by simp only[H.next_add];omega,yac,yac,yac,yac,yac,yac,by simp(disch:=first|omega|simp only[nZ]<;>omega|fail)only[go_sem],by simp(disch:=first|omega|simp only[nZ]<;>omega|fail)only[go_sem],by simp(disch:=first|omega|simp only[nZ]<;>omega|fail)only[go_sem]⟩
 ·rintro i s hi ⟨tm,h',x,rfl,ox,lt,t1,t2,t3,t11,t12,t13,g1,g2,g3⟩
  have hi':(i:Int)<(t.eyes.length:Int):=by omega
  have hs:=ox.1
  obtain⟨b,o,c,cs,eb,hc,hq,hg,hn,hn0⟩:=(aE.mono hs).at hi
  obtain⟨e,ee⟩:∃e,t.eyes[i]=e:=⟨_,rfl⟩
  rw[ee] at hg
  have hx1:=ZG.one ox.c
  simp only[Yx] at hg
  simp(disch:=first|omega|simp only[nZ]<;>omega|fail)only[go_sem,t1,t2,t3,t11,t12,t13,hi',hq (Ze i),hc,hg,Zb g3]
  have sB:h'.Sub ((h'.add (.bk [.ii e.s.x,.ii e.s.y,.ii e.s.z,.ii e.frm])).add (.bk [.ii e.s.x,.ii e.s.y,.ii e.s.z,.ii e.frm])):=((H.Sub.refl hs.wf).add _).add _
  have oB:=ox.mono sB
  refine oB.app1 (by_:=32) (r:=Yx e) hw rfl yab (Zg.new _ (by simp only[H.next_add]) rfl rfl (by simp[Yx]) yac) rfl yai yai fun h5 o5 k5 n5=>?_
  have g5a:=k5.2 _ _ (sB.get g1) (oB.ne (sB.get g1))
  have g5b:=k5.2 _ _ (sB.get g2) (oB.ne (sB.get g2))
  have g5c:=k5.2 _ _ (sB.get g3) (oB.ne (sB.get g3))
  simp only[H.next_add] at n5 o5
  simp(disch:=first|omega|simp only[nZ]<;>omega|fail)only[go_sem,t1,t2,t3,t11,t12,t13,g5a,g5b,g5c,Zb g5c,Zc]
  have o6:=o5.keep (Zi.set h5 (h.next+1+1) (.bk [.sl (h'.next+1+1) 0 (((t.eyes.take i).map Yx).length+1) (.slk 0 0),.nils,.nils])) (o5.1.set yab yab hw _) (fun b hb e=>by
   obtain⟨_,_,_,e'⟩:=hb;cases e';omega)
  refine⟨_,_,_,rfl,?_,by rw[H.next_set];omega,yah,(by simp[t2]),yam,(by simp[t11]),(by simp[t12]),yac,by rw[get_set_other yab];exact g5a,by rw[get_set_other yab];exact g5b,get_set_same rfl⟩
  rw[List.take_succ_eq_append_getElem hi,List.map_append,ee]
  exact o6
 ·rintro s ⟨tm,h',x,rfl,ox,lt,t1,t2,t3,t11,t12,t13,g1,g2,g3⟩
  rw[List.take_length] at ox
  have hs:=ox.1
  have hx1:=ZG.one ox.c
  simp(disch:=first|omega|simp only[nZ]<;>omega|fail)only[go_sem,t1,t2,t3,t11,t12,t13,Int.lt_irrefl,Zb g1,hlL]
  refine Zh t.lights.length (fun i s=>∃tm h2 y,s=⟨tm,h2,[]⟩∧Zq h h2 y 3 ((t.lights.take i).map Zj)∧Zq h h2 x 4 (t.eyes.map Yx)∧(∀b,Zk x b→¬Zk y b)∧h.next+2<h2.next∧tm.E 1=.ptr h.next 0∧tm.E 2=.ptr (h.next+1) 0∧tm.E 3=.ptr (h.next+1+1) 0∧
    tm.E 29=L∧tm.E 30=.ii (t.lights.length:Int)∧tm.E 31=.ii (i:Int)∧
    h2.get h.next=some (.bk [E,L,P])∧h2.get (h.next+1)=some (.bk [.nils,.nils,.nils])∧h2.get (h.next+1+1)=some (.bk [x,y,.nils]))
   ?_ ?_ (i:=0) (Nat.zero_le _) ⟨_,_,.nils,rfl,Zq.nil hs 3,ox,fun b _ hb=>(V3 hb).elim,lt,yah,(by simp[t2]),yam,yac,yac,yac,g1,g2,g3⟩<;>clear t1 t2 t3 t11 t12 t13 g1 g2 g3 tm
  ·rintro i s hi ⟨tm,h2,y,rfl,oy,oxx,dis,lt2,t1,t2,t3,t29,t30,t31,g1,g2,g3⟩
   have hi':(i:Int)<(t.lights.length:Int):=by omega
   have hs2:=oy.1
   obtain⟨b,o,c,cs,eb,hc,hq,hg,hn,hn0⟩:=(aL.mono hs2).at hi
   obtain⟨e,ee⟩:∃e,t.lights[i]=e:=⟨_,rfl⟩
   rw[ee] at hg
   simp only[Zj] at hg
   have hy1:=ZG.one oy.c
   simp(disch:=first|omega|simp only[nZ]<;>omega|fail)only[go_sem,t1,t2,t3,t29,t30,t31,hi',hq (Ze i),hc,hg,Zb g3]
   have sB:h2.Sub ((h2.add (.bk [.ii e.x,.ii e.y,.ii e.z])).add (.bk [.ii e.x,.ii e.y,.ii e.z])):=((H.Sub.refl hs2.wf).add _).add _
   have oB:=oy.mono sB
   refine oB.app1 (by_:=24) (r:=Zj e) hw rfl yab (Zg.new _ (by simp only[H.next_add]) rfl rfl (by simp[Zj]) yac) rfl yai yai fun h5 o5 k5 n5=>?_
   have g5a:=k5.2 _ _ (sB.get g1) (oB.ne (sB.get g1))
   have g5b:=k5.2 _ _ (sB.get g2) (oB.ne (sB.get g2))
   have g5c:=k5.2 _ _ (sB.get g3) (oB.ne (sB.get g3))
   have ox5:=(oxx.mono sB).keep k5 o5.1 dis
   simp only[H.next_add] at n5 o5
   simp(disch:=first|omega|simp only[nZ]<;>omega|fail)only[go_sem,t1,t2,t3,t29,t30,t31,g5a,g5b,g5c,Zb g5c,Zc]
   have hs6:=o5.1.set (b:=h.next+1+1) yab yab hw (.bk [x,.sl (h2.next+1+1) 0 (((t.lights.take i).map Zj).length+1) (.slk 0 0),.nils])
   have k6:=Zi.set h5 (h.next+1+1) (.bk [x,.sl (h2.next+1+1) 0 (((t.lights.take i).map Zj).length+1) (.slk 0 0),.nils])
   have o6:=o5.keep k6 hs6 (fun b hb e=>by
    obtain⟨_,_,_,e'⟩:=hb;cases e';omega)
   have ox6:=ox5.keep k6 hs6 (fun b hb e=>by rw[e] at hb;exact ox5.ne g5c hb)
   refine⟨_,_,_,rfl,?_,ox6,fun b hb hb2=>?_,by rw[H.next_set];omega,yah,(by simp[t2]),yam,(by simp[t29]),(by simp[t30]),yac,by rw[get_set_other yab];exact g5a,by rw[get_set_other yab];exact g5b,get_set_same rfl⟩
   ·rw[List.take_succ_eq_append_getElem hi,List.map_append,ee]
    exact o6
   ·obtain⟨_,_,_,e'⟩:=hb2;cases e'
    have:=(oxx.blk hb).2.1;omega
  ·rintro s ⟨tm,h2,y,rfl,oy,oxx,dis,lt2,t1,t2,t3,t29,t30,t31,g1,g2,g3⟩
   rw[List.take_length] at oy
   have hs2:=oy.1
   have hy1:=ZG.one oy.c
   simp(disch:=first|omega|simp only[nZ]<;>omega|fail)only[go_sem,t1,t2,t3,t29,t30,t31,Int.lt_irrefl,Zb g1,hlP]
   refine Zh t.pieces.length (fun i s=>∃tm h2 z,s=⟨tm,h2,[]⟩∧Zq h h2 z 3 ((t.pieces.take i).map Zj)∧Zq h h2 x 4 (t.eyes.map Yx)∧Zq h h2 y 3 (t.lights.map Zj)∧(∀b,Zk x b→¬Zk z b)∧(∀b,Zk y b→¬Zk z b)∧h.next+2<h2.next∧tm.E 1=.ptr h.next 0∧tm.E 2=.ptr (h.next+1) 0∧tm.E 3=.ptr (h.next+1+1) 0∧
     tm.E 43=P∧tm.E 44=.ii (t.pieces.length:Int)∧tm.E 45=.ii (i:Int)∧
     h2.get (h.next+1)=some (.bk [.nils,.nils,.nils])∧h2.get (h.next+1+1)=some (.bk [x,y,z]))
    ?_ ?_ (i:=0) (Nat.zero_le _) ⟨_,_,.nils,rfl,Zq.nil hs2 3,oxx,oy,fun b _ hb=>(V3 hb).elim,fun b _ hb=>(V3 hb).elim,lt2,yah,(by simp[t2]),yam,yac,yac,yac,g2,g3⟩<;>clear t1 t2 t3 t29 t30 t31 g1 g2 g3 tm
   ·rintro i s hi ⟨tm,h3,z,rfl,oz,oxx,oyy,dis1,dis2,lt3,t1,t2,t3,t43,t44,t45,g2,g3⟩
    have hi':(i:Int)<(t.pieces.length:Int):=by omega
    have hs2:=oz.1
    obtain⟨b,o,c,cs,eb,hc,hq,hg,hn,hn0⟩:=(aP.mono hs2).at hi
    obtain⟨e,ee⟩:∃e,t.pieces[i]=e:=⟨_,rfl⟩
    rw[ee] at hg
    simp only[Zj] at hg
    have hz1:=ZG.one oz.c
    simp(disch:=first|omega|simp only[nZ]<;>omega|fail)only[go_sem,t1,t2,t3,t43,t44,t45,hi',hq (Ze i),hc,hg,Zb g3]
    have sB:h3.Sub ((h3.add (.bk [.ii e.x,.ii e.y,.ii e.z])).add (.bk [.ii e.x,.ii e.y,.ii e.z])):=((H.Sub.refl hs2.wf).add _).add _
    have oB:=oz.mono sB
    refine oB.app1 (by_:=24) (r:=Zj e) hw rfl yab (Zg.new _ (by simp only[H.next_add]) rfl rfl (by simp[Zj]) yac) rfl yai yai fun h5 o5 k5 n5=>?_
    have g5b:=k5.2 _ _ (sB.get g2) (oB.ne (sB.get g2))
    have g5c:=k5.2 _ _ (sB.get g3) (oB.ne (sB.get g3))
    have ox5:=(oxx.mono sB).keep k5 o5.1 dis1
    have oy5:=(oyy.mono sB).keep k5 o5.1 dis2
    simp only[H.next_add] at n5 o5
    simp(disch:=first|omega|simp only[nZ]<;>omega|fail)only[go_sem,t1,t2,t3,t43,t44,t45,g5b,g5c,Zb g5c,Zc]
    have hs6:=o5.1.set (b:=h.next+1+1) yab yab hw (.bk [x,y,.sl (h3.next+1+1) 0 (((t.pieces.take i).map Zj).length+1) (.slk 0 0)])
    have k6:=Zi.set h5 (h.next+1+1) (.bk [x,y,.sl (h3.next+1+1) 0 (((t.pieces.take i).map Zj).length+1) (.slk 0 0)])
    have o6:=o5.keep k6 hs6 (fun b hb e=>by
     obtain⟨_,_,_,e'⟩:=hb;cases e';omega)
    have ox6:=ox5.keep k6 hs6 (fun b hb e=>by rw[e] at hb;exact ox5.ne g5c hb)
    have oy6:=oy5.keep k6 hs6 (fun b hb e=>by rw[e] at hb;exact oy5.ne g5c hb)
    refine⟨_,_,_,rfl,?_,ox6,oy6,fun b hb hb2=>?_,fun b hb hb2=>?_,by rw[H.next_set];omega,yah,(by simp[t2]),yam,(by simp[t43]),(by simp[t44]),yac,by rw[get_set_other yab];exact g5b,get_set_same rfl⟩
    ·rw[List.take_succ_eq_append_getElem hi,List.map_append,ee]
     exact o6
    ·obtain⟨_,_,_,e'⟩:=hb2;cases e'
     have:=(oxx.blk hb).2.1;omega
    ·obtain⟨_,_,_,e'⟩:=hb2;cases e'
     have:=(oyy.blk hb).2.1;omega
   ·rintro s ⟨tm,h3,z,rfl,oz,oxx,oyy,dis1,dis2,lt3,t1,t2,t3,t43,t44,t45,g2,g3⟩
    rw[List.take_length] at oz
    have hz1:=ZG.one oz.c
    have s6:=oz.1.set (b:=h.next+1) yab yab hw (.bk [x,y,z])
    have k6:=Zi.set h3 (h.next+1) (.bk [x,y,z])
    have o6:=oz.keep k6 s6 (fun b hb e=>by rw[e] at hb;exact oz.ne g2 hb)
    have oy6:=oyy.keep k6 s6 (fun b hb e=>by rw[e] at hb;exact oyy.ne g2 hb)
    have ox6:=oxx.keep k6 s6 (fun b hb e=>by rw[e] at hb;exact oxx.ne g2 hb)
    have c9:(h3.set (h.next+1) (.bk [x,y,z])).cells (h.next+1)=some [x,y,z]:=WS rfl
    simp(disch:=first|omega|simp only[nZ]<;>omega|fail)only[go_sem,t1,t2,t3,t43,t44,t45,Int.lt_irrefl,Zb g3,g2,hx1,hy1,hz1,cells_one hx1,cells_one hy1,cells_one hz1,c9]
    exact q _ _ s6 ⟨x,y,z,rfl,ox6.sl yai,oy6.sl yai,o6.sl yai⟩
theorem YM (n lo hi:Int)(h:H)(Q:V→H→Prop):Ev fnG Zm (.fn 67 [] []) [.ii n,.ii lo,.ii hi] h Q=Q (.bool (!inB n lo hi)) h:=by
 refine Ev.det (Zd (fd:=c67) rfl rfl rfl ?_) Q
 by_cases h1:n<lo
 ·have:inB n lo hi=false:=by simp[inB];omega
  simp(disch:=omega)only[c67,go_sem,h1,this]
 ·have:(!inB n lo hi)=decide (hi<n):=by rw[Bool.eq_iff_iff];simp[inB];omega
  simp(disch:=omega)only[c67,go_sem,h1,this]
theorem beyond_ev (s:Sd)(m:Int)(h:H)(Q:V→H→Prop):Ev fnG Zm (.fn 68 [] []) [.agg (Zj s),.ii m] h Q=Q (.bool (!s.within m)) (h.add (.bk (Zj s))):=by
 refine Ev.det (Zd (fd:=c68) rfl rfl rfl ?_) Q
 have z0:∀b,W8 3 1 (.ptr b 0) (.ii 0)=some (.ptr b 0):=fun b=>rfl
 have z1:∀b,W8 3 1 (.ptr b 0) (.ii 1)=some (.ptr b 1):=fun b=>rfl
 have z2:∀b,W8 3 1 (.ptr b 0) (.ii 2)=some (.ptr b 2):=fun b=>rfl
 cases c1:inB s.x 0 m
 ·simp(disch:=omega)only[c68,go_sem,Zj,z0,z1,z2,YM,c1,Bool.not_false,Sd.within,Bool.false_and]
 ·cases c2:inB s.y 0 m
  ·simp(disch:=omega)only[c68,go_sem,Zj,z0,z1,z2,YM,c1,c2,Bool.not_false,Bool.not_true,Sd.within,Bool.false_and,Bool.true_and]
  ·simp(disch:=omega)only[c68,go_sem,Zj,z0,z1,z2,YM,c1,c2,Bool.not_false,Bool.not_true,Sd.within,Bool.true_and,Bool.and_true]
theorem refRight_ev (s:Sd)(h:H)(hw:h.wf)(Q:V→H→Prop)(q:∀h',h.Sub h'→Q (.ii (if s.within 20=true then 0 else 3)) h'):Ev fnG Zm (.fn 143 [] []) [.agg (Zj s)] h Q:=by
 refine Zd (fd:=c143) rfl rfl rfl ?_
 have hb:=fun hh=>beyond_ev s 20 hh
 simp only[Zj] at hb
 have s2:h.Sub ((h.add (.bk [.ii s.x,.ii s.y,.ii s.z])).add (.bk [.ii s.x,.ii s.y,.ii s.z])):=yaa
 have q':=q _ s2
 cases c:s.within 20
 ·rw[c] at q'
  simp(disch:=omega)only[c143,go_sem,Zj,hb,c,Bool.not_false]
  exact q'
 ·rw[c] at q'
  simp(disch:=omega)only[c143,go_sem,Zj,hb,c,Bool.not_true]
  exact q'
theorem X0 {h:H}{v:V}{t:Tb}(hw:h.wf)(ht:ZK h v t)(p:Int)(Q:V→H→Prop)(q:∀h',h.Sub h'→Q (.ii (if 0≤p∧p<t.pieces.length then 0 else 1)) h'):Ev fnG Zm (.fn 14 [] []) [v,.ii p] h Q:=by
 obtain⟨E,L,P,rfl,aE,aL,aP⟩:=ht
 have hlP:=aP.lenE
 have bP:=aP.boundE
 refine Zd (fd:=c14) rfl rfl rfl ?_
 have s1:h.Sub (h.add (.bk [E,L,P])):=yaa
 have q':=q _ s1
 have e:inB p 0 ((t.pieces.length:Int)-1)=decide (0≤p∧p<t.pieces.length):=by
  unfold inB;rw[Bool.eq_iff_iff];simp;omega
 by_cases c:0≤p∧p<t.pieces.length
 ·rw[if_pos c] at q'
  rw[decide_eq_true c] at e
  simp(disch:=omega)only[c14,go_sem,hlP,ZC,YM,e,Bool.not_true]
  exact q'
 ·rw[if_neg c] at q'
  rw[decide_eq_false c] at e
  simp(disch:=omega)only[c14,go_sem,hlP,ZC,YM,e,Bool.not_false]
  exact q'
end Go.Ab.Tryz
namespace Go.Ab
theorem getN_less {l r:List V}{o n k:Nat}(h:X7 o n l=some r)(hk:k≤n):X7 o k l=some (r.take k):=by
 obtain⟨rfl,h2⟩:=Z2.1 h
 exact Z2.2 ⟨by rw[List.take_take,Nat.min_eq_left hk],by omega⟩
theorem mulb {a b A B:Int}(h1:0≤a∧a≤A)(h2:0≤b∧b≤B):0≤a*b∧a*b≤A*B:=
 ⟨Int.mul_nonneg h1.1 h2.1,Int.mul_le_mul h1.2 h2.2 h2.1 yab⟩
namespace Tryz
def Sd.at (s:Sd):Nat→Int
 |0=>s.x
 |1=>s.y
 |_=>s.z
theorem WA (s:Sd){i:Nat}(h:i<3):nth i (Zj s)=some (.ii (s.at i)):=by
 rcases(by omega:i=0∨i=1∨i=2) with rfl|rfl|rfl<;>rfl
theorem sd_get (s:Sd){i:Nat}(h:i<3):(Zj s)[i]? =some (.ii (s.at i)):=by
 rcases(by omega:i=0∨i=1∨i=2) with rfl|rfl|rfl<;>rfl
theorem sd_bd {s:Sd}{m:Int}(h:InS s m){i:Nat}(hi:i<3):0≤s.at i∧s.at i≤m:=by
 rcases(by omega:i=0∨i=1∨i=2) with rfl|rfl|rfl
 ·exact h.x
 ·exact h.y
 ·exact h.z
theorem sd_idx (s:Sd){i:Nat}(h:i<3):q_idx false 3 1 (.agg [.ii s.x,.ii s.y,.ii s.z]) (.ii (i:Int))=some (.ii (s.at i)):=by
 rcases(by omega:i=0∨i=1∨i=2) with rfl|rfl|rfl<;>rfl
def dif (a b:Int):Int:=max (a-b) (b-a)
def term (e l a b:Sd)(i:Nat):Int:=dif (a.at i) (b.at i)*e.at i*l.at i
def part (e l a b:Sd):Nat→Int
 |0=>0
 |i+1=>part e l a b i+term e l a b i
def Wz (e l a b:Sd):Int:=part e l a b 3
theorem dif_bd {a b m:Int}(ha:0≤a∧a≤m)(hb:0≤b∧b≤m):0≤dif a b∧dif a b≤m:=by unfold dif;omega
theorem term_bd {e l a b:Sd}(he:InS e 4)(hl:InS l 3)(ha:InS a 20)(hb:InS b 20){i:Nat}(hi:i<3):(0≤dif (a.at i) (b.at i)*e.at i∧dif (a.at i) (b.at i)*e.at i≤80)∧0≤term e l a b i∧term e l a b i≤240:=by
 have h1:=mulb (dif_bd (sd_bd ha hi) (sd_bd hb hi)) (sd_bd he hi)
 have h2:=mulb h1 (sd_bd hl hi)
 exact⟨h1,h2⟩
theorem part_bd {e l a b:Sd}(he:InS e 4)(hl:InS l 3)(ha:InS a 20)(hb:InS b 20):∀i,i≤3→0≤part e l a b i∧part e l a b i≤240*(i:Int)
 |0,_=>by simp[part]
 |i+1,h=>by
  have ih:=part_bd he hl ha hb i yab
  have:=(term_bd he hl ha hb (i:=i) yab).2
  simp only[part];omega
theorem greatest_ev {h:H}{x:V}{l:List Int}(hx:Zg h x 1 (l.map encI))(n:Int)(Q:V→H→Prop):Ev fnG Zm (.fn 122 [] []) [.ii n,x] h Q=Q (.ii (l.foldl max n)) h:=by
 have hb:=hx.boundE
 refine Ev.det (Zd (fd:=c122) rfl rfl rfl ?_) Q
 simp(disch:=omega)only[c122,go_sem,hx.lenE]
 refine Zh l.length (fun i s=>∃tm,s=⟨tm,h,[]⟩∧tm.E 0=.ii ((l.take i).foldl max n)∧tm.E 7=x∧tm.E 8=.ii (l.length:Int)∧tm.E 9=.ii (i:Int))
  ?_ ?_ (i:=0) (Nat.zero_le _) ⟨_,rfl,yac,yac,yac,yac⟩
 ·rintro i s hi ⟨tm,rfl,t0,t7,t8,t9⟩
  have hi':(i:Int)<(l.length:Int):=by omega
  obtain⟨b,o,c,cs,rfl,hc,hq,hg,hn,hn0⟩:=hx.at hi
  have e1:(l.take (i+1)).foldl max n=max ((l.take i).foldl max n) l[i]:=by
   rw[List.take_succ_eq_append_getElem hi,List.foldl_append];rfl
  simp(disch:=omega)only[go_sem,t0,t7,t8,t9,hi',hq (Ze i),hc,hn0 yab,encI,Zc]
  exact⟨_,rfl,by rw[e1];exact yac,(by simp[t7]),(by simp[t8]),yac⟩
 ·rintro s ⟨tm,rfl,t0,t7,t8,t9⟩
  rw[List.take_length] at t0
  simp(disch:=omega)only[go_sem,t0,t7,t8,t9,Int.lt_irrefl]
set_option maxHeartbeats 1000000 in
theorem sees_ev {h:H}{d:Nat}{t:Tb}(hw:h.wf)(hd:Ws h d t)(g:Good t){i k:Nat}(hi:i<t.eyes.length)(hk:k<t.lights.length){a b:Sd}(ha:InS a 20)(hb:InS b 20)(Q:V→H→Prop)
  (q:∀h',h.Sub h'→Q (.ii (Wz t.eyes[i].s t.lights[k] a b)) h'):Ev fnG Zm (.fn 119 [] []) [.ptr d 0,.agg [.ii (i:Int),.ii (k:Int)],.agg (Zj a),.agg (Zj b)] h Q:=by
 obtain⟨E,L,P,gd,aE,aL,aP⟩:=hd
 have hdl:=hw _ _ gd
 have ge:=(g.eye _ (List.getElem_mem hi)).1
 have gl:=g.light _ (List.getElem_mem hk)
 obtain⟨e,ee⟩:∃e,t.eyes[i]=e:=⟨_,rfl⟩
 obtain⟨l,el⟩:∃l,t.lights[k]=l:=⟨_,rfl⟩
 rw[ee,el] at q
 rw[ee] at ge
 rw[el] at gl
 obtain⟨bE,oE,cE,csE,eE,hcE,hqE,hgE,_,_⟩:=aE.at hi
 obtain⟨bL,oL,cL,csL,eL,hcL,hqL,_,hnL,_⟩:=aL.at hk
 have hgE3:X7 (oE+i*4) 3 csE=some [.ii e.s.x,.ii e.s.y,.ii e.s.z]:=by
  have:=getN_less hgE (k:=3) yab
  rw[ee] at this;exact this
 refine Zd (fd:=c119) rfl rfl rfl ?_
 have s3:h.Sub (((h.add (.bk [.ii (i:Int),.ii (k:Int)])).add (.bk [.ii a.x,.ii a.y,.ii a.z])).add (.bk [.ii b.x,.ii b.y,.ii b.z])):=yaa
 have q1:(((h.add (.bk [.ii (i:Int),.ii (k:Int)])).add (.bk [.ii a.x,.ii a.y,.ii a.z])).add (.bk [.ii b.x,.ii b.y,.ii b.z])).cells h.next=some [.ii (i:Int),.ii (k:Int)]:=by simp(disch:=first|omega|simp only[nZ]<;>omega|fail)only[go_sem]
 have q2:(((h.add (.bk [.ii (i:Int),.ii (k:Int)])).add (.bk [.ii a.x,.ii a.y,.ii a.z])).add (.bk [.ii b.x,.ii b.y,.ii b.z])).cells (h.next+1)=some [.ii a.x,.ii a.y,.ii a.z]:=by simp(disch:=first|omega|simp only[nZ]<;>omega|fail)only[go_sem]
 have q3:(((h.add (.bk [.ii (i:Int),.ii (k:Int)])).add (.bk [.ii a.x,.ii a.y,.ii a.z])).add (.bk [.ii b.x,.ii b.y,.ii b.z])).cells (h.next+1+1)=some [.ii b.x,.ii b.y,.ii b.z]:=by simp(disch:=first|omega|simp only[nZ]<;>omega|fail)only[go_sem]
 simp(disch:=first|omega|simp only[nZ]<;>omega|fail)only[c119,go_sem,Zj,Zv,Zb gd,hqE (Ze i),s3.cells hcE,s3.cells (Zb gd),hgE3]
 generalize(((h.add (.bk [.ii (i:Int),.ii (k:Int)])).add (.bk [.ii a.x,.ii a.y,.ii a.z])).add (.bk [.ii b.x,.ii b.y,.ii b.z]))=h3 at s3 q1 q2 q3⊢
 refine Zh 3 (fun j s=>∃tm h',s=⟨tm,h',[]⟩∧h3.Sub h'∧tm.E 0=.ptr d 0∧tm.E 5=.ptr h.next 0∧tm.E 6=.ptr (h.next+1) 0∧tm.E 7=.ptr (h.next+1+1) 0∧tm.E 9=.ii (part e.s l a b j)∧
   tm.E 21=.agg [.ii e.s.x,.ii e.s.y,.ii e.s.z]∧tm.E 22=.ii (j:Int))
  ?_ ?_ (i:=0) (Nat.zero_le _) ⟨_,_,rfl,H.Sub.refl s3.wf,yac,yac,yac,yac,(by simp[part]),yac,yac⟩
 ·rintro j s hj ⟨tm,h',rfl,hs,t0,t5,t6,t7,t9,t21,t22⟩
  have hj':(j:Int)<3:=by omega
  have sA:=s3.trans hs
  have r1:=hs.cells q1
  have r2:=hs.cells q2
  have r3:=hs.cells q3
  have na:=WA a hj
  have nb:=WA b hj
  simp only[Zj] at na nb
  have nl:nth (oL+k*3+j) csL=some (.ii (l.at j)):=by rw[hnL j hj,el];exact sd_get l hj
  have gd':=Zb (sA.get gd)
  have hcL':=sA.cells hcL
  have b1:=sd_bd ha hj
  have b2:=sd_bd hb hj
  have b3:=term_bd ge gl ha hb hj
  have b4:=part_bd ge gl ha hb j yab
  have sB:=(H.Sub.refl hs.wf).add (.bk [.ii (b.at j-a.at j)])
  have aG:Zg (h'.add (.bk [.ii (b.at j-a.at j)])) (.sl h'.next 0 1 (.fix 1)) 1 (([b.at j-a.at j]:List Int).map encI):=Zg.new _ rfl rfl (by rfl) (by simp[encI]) yac
  have hgr:=greatest_ev aG (a.at j-b.at j)
  have ef:([b.at j-a.at j]:List Int).foldl max (a.at j-b.at j)=dif (a.at j) (b.at j):=rfl
  rw[ef] at hgr
  have st:part e.s l a b j+dif (a.at j) (b.at j)*e.s.at j*l.at j=part e.s l a b (j+1):=rfl
  have b5:=b3.2
  unfold term at b5
  simp(disch:=first|omega|simp only[nZ]<;>omega|fail)only[go_sem,t0,t5,t6,t7,t9,t21,t22,hj',sd_idx e.s hj,YL (Ze j) hj,Nat.mul_one,r1,r2,r3,na,nb,ZC,hgr,Zv,gd',hqL (Ze k),hcL',nl,sB.cells gd',sB.cells r1,sB.cells r2,sB.cells r3,sB.cells hcL',st,Zc]
  exact⟨_,_,rfl,hs.trans sB,(by simp[t0]),(by simp[t5]),(by simp[t6]),(by simp[t7]),yac,(by simp[t21]),yac⟩
 ·rintro s ⟨tm,h',rfl,hs,t0,t5,t6,t7,t9,t21,t22⟩
  have hnl:¬((3:Nat):Int)<3:=by omega
  simp(disch:=first|omega|simp only[nZ]<;>omega|fail)only[go_sem,t0,t5,t6,t7,t9,t21,t22,hnl]
  exact q _ (s3.trans hs)
end Tryz
end Go.Ab
namespace Go.Ab.Tryz
theorem looks_gen {h0:H}{d c:Nat}{t:Tb}(hd:Ws h0 d t){f:V}{J:Nat→H→Prop}{S:H→Prop}(hJ:∀n x,J n x→h0.Sub x∧x.cells c=some [.ptr d 0])
  (step:∀i k,i<t.eyes.length→k<t.lights.length→∀x,J (i*t.lights.length+k) x→Ev fnG Zm f [.agg [.ii (i:Int),.ii (k:Int)]] x fun u y=>(u=.bool true∧J (i*t.lights.length+k+1) y)∨(u=.bool false∧S y))
  {h:H} (h1:J 0 h):Ev fnG Zm (.fn 184 [] [.ptr c 0]) [f] h fun u y=>J (t.eyes.length*t.lights.length) y∨S y:=by
 refine Ev.gen fun Q q=>?_
 obtain⟨E,L,P,gd,aE,aL,aP⟩:=hd
 have hlE:=aE.lenE
 have hlL:=aL.lenE
 have bE:=aE.boundE
 have bL:=aL.boundE
 obtain⟨s0,c0⟩:=hJ _ _ h1
 refine Zd (fd:=c184) rfl rfl rfl ?_
 simp(disch:=omega)only[c184,go_sem,c0,Zb (s0.get gd),hlE]
 refine Zh t.eyes.length (fun i s=>∃tm x,s=⟨tm,x,[]⟩∧J (i*t.lights.length) x∧tm.E 0=f∧tm.E 1=.ptr c 0∧tm.E 10=.ii (t.eyes.length:Int)∧tm.E 11=.ii (i:Int))
  ?_ ?_ (i:=0) (Nat.zero_le _) ⟨_,_,rfl,by rw[Nat.zero_mul];exact h1,yac,yac,yac,yac⟩
 ·rintro i s hi ⟨tm,x,rfl,hx,t0,t1,t10,t11⟩
  have hi':(i:Int)<(t.eyes.length:Int):=by omega
  obtain⟨s1,c1⟩:=hJ _ _ hx
  simp(disch:=omega)only[go_sem,t0,t1,t10,t11,hi',c1,Zb (s1.get gd),hlL]
  refine Zh t.lights.length (fun k s=>∃tm x,s=⟨tm,x,[]⟩∧J (i*t.lights.length+k) x∧tm.E 0=f∧tm.E 1=.ptr c 0∧tm.E 3=.ii (i:Int)∧tm.E 10=.ii (t.eyes.length:Int)∧tm.E 11=.ii (i:Int)∧tm.E 19=.ii (t.lights.length:Int)∧tm.E 20=.ii (k:Int))
   ?_ ?_ (i:=0) (Nat.zero_le _) ⟨_,_,rfl,hx,(by simp[t0]),yah,yac,(by simp[t10]),(by simp[t11]),yac,yac⟩<;>clear t0 t1 t10 t11 tm
  ·rintro k s hk ⟨tm,x,rfl,hx,t0,t1,t3,t10,t11,t19,t20⟩
   have hk':(k:Int)<(t.lights.length:Int):=by omega
   simp(disch:=omega)only[go_sem,t0,t1,t3,t10,t11,t19,t20,hk']
   refine(step i k hi hk x hx).mono fun u y hu=>?_
   rcases hu with⟨rfl,hy⟩|⟨rfl,hy⟩
   ·simp(disch:=omega)only[go_sem,t0,t1,t3,t10,t11,t19,t20,Bool.not_true,Zc]
    exact⟨_,_,rfl,hy,(by simp[t0]),yah,yam,(by simp[t10]),(by simp[t11]),(by simp[t19]),yac⟩
   ·simp(disch:=omega)only[go_sem,t0,t1,t3,t10,t11,t19,t20,Bool.not_false]
    exact q _ _ (.inr hy)
  ·rintro s ⟨tm,x,rfl,hx,t0,t1,t3,t10,t11,t19,t20⟩
   simp(disch:=omega)only[go_sem,t0,t1,t3,t10,t11,t19,t20,Int.lt_irrefl,Zc]
   exact⟨_,_,rfl,by rw[Nat.succ_mul];exact hx,(by simp[t0]),yah,(by simp[t10]),yac⟩
 ·rintro s ⟨tm,x,rfl,hx,t0,t1,t10,t11⟩
  simp(disch:=omega)only[go_sem,t0,t1,t10,t11,Int.lt_irrefl]
  exact q _ _ (.inl hx)
def ZR (t:Tb)(a b:Sd)(i k:Nat):Bool:=match t.eyes[i]?,t.lights[k]? with
 |some e,some l=>decide (e.frm≤Wz e.s l a b)
 |_,_=>false
def VY (p:Int × Int):List V:=[.ii p.1,.ii p.2]
def ZU (t:Tb)(a b:Sd):Nat→List (Int × Int)
 |0=>[]
 |n+1=>ZU t a b n++if ZR t a b (n/t.lights.length) (n%t.lights.length)=true then[(((n/t.lights.length:Nat):Int),((n%t.lights.length:Nat):Int))] else[]
def Yg (t:Tb)(a b:Sd):List (Int × Int):=if a=b then[] else ZU t a b (t.eyes.length*t.lights.length)
theorem YW (t:Tb)(a b:Sd):∀n,(ZU t a b n).length≤n
 |0=>Nat.le_refl _
 |n+1=>by have:=YW t a b n;simp only[ZU,List.length_append];split<;>simp<;>omega
theorem apartK_step {t:Tb}{a b:Sd}{i k:Nat}(hk:k<t.lights.length):ZU t a b (i*t.lights.length+k+1)=ZU t a b (i*t.lights.length+k)++if ZR t a b i k=true then[((i:Int),(k:Int))] else[]:=by
 have e1:(i*t.lights.length+k)/t.lights.length=i:=by rw[Nat.add_comm,Nat.add_mul_div_right _ _ yab,Nat.div_eq_of_lt hk,Nat.zero_add]
 have e2:(i*t.lights.length+k)%t.lights.length=k:=by rw[Nat.add_comm,Nat.add_mul_mod_self_right,Nat.mod_eq_of_lt hk]
 simp only[ZU,e1,e2]
theorem sd_feq (a b:Sd):q_feq false 3 (.agg [.ii a.x,.ii a.y,.ii a.z]) (.agg [.ii b.x,.ii b.y,.ii b.z])=some (.bool (decide (a=b))):=by
 have h:=Wu (n:=3) [a.x,a.y,a.z] [b.x,b.y,b.z] rfl rfl false
 have e:decide (([a.x,a.y,a.z]:List Int)=[b.x,b.y,b.z])=decide (a=b):=by
  rw[Bool.eq_iff_iff];cases a;cases b;simp
 rw[e] at h
 exact h
theorem rLoop {r0:Yn}(h1:r0.st=.ready)(h2:r0.pend=none):({({r0 with st:=.busy}:Yn) with st:=.ready,pend:=none}:Yn)=r0:=by cases r0;simp_all
set_option maxHeartbeats 2000000 in
theorem apart_ev {h:H}{d:Nat}{t:Tb}(hw:h.wf)(hd:Ws h d t)(g:Good t){a b:Sd}(ha:InS a 20)(hb:InS b 20)(Q:V→H→Prop)
  (q:∀x h',ZG h h' x 2 ((Yg t a b).map VY)→(x=.nils↔Yg t a b=[])→Q x h'):Ev fnG Zm (.fn 120 [] []) [.ptr d 0,.agg (Zj a),.agg (Zj b)] h Q:=by
 have gE:=g.eyes
 have gL:=g.lights
 have hmul:t.eyes.length*t.lights.length≤24:=Nat.le_trans (Nat.mul_le_mul gE.2 gL.2) (by decide)
 refine Zd (fd:=c120) rfl rfl rfl ?_
 by_cases hab:a=b
 ·have s3:h.Sub (((h.add (.bk [.ptr d 0])).add (.bk [.ii a.x,.ii a.y,.ii a.z])).add (.bk [.ii b.x,.ii b.y,.ii b.z])):=yaa
  have hl:Yg t a b=[]:=if_pos hab
  have fq:=sd_feq a b
  rw[decide_eq_true hab] at fq
  simp(disch:=first|omega|simp only[nZ]<;>omega|fail)only[c120,go_sem,Zj,fq]
  exact q _ _ (by rw[hl];exact(Zq.nil s3 2).c) (by rw[hl];simp)
 have hl:Yg t a b=ZU t a b (t.eyes.length*t.lights.length):=if_neg hab
 rw[hl] at q
 have fq:=sd_feq a b
 rw[decide_eq_false hab] at fq
 have s5:h.Sub (((((h.add (.bk [.ptr d 0])).add (.bk [.ii a.x,.ii a.y,.ii a.z])).add (.bk [.ii b.x,.ii b.y,.ii b.z])).add (.bk [.nils])).add (.bk [.ptr d 0])):=yaa
 have q1:(((((h.add (.bk [.ptr d 0])).add (.bk [.ii a.x,.ii a.y,.ii a.z])).add (.bk [.ii b.x,.ii b.y,.ii b.z])).add (.bk [.nils])).add (.bk [.ptr d 0])).get h.next=some (.bk [.ptr d 0]):=by simp(disch:=first|omega|simp only[nZ]<;>omega|fail)only[go_sem]
 have q2:(((((h.add (.bk [.ptr d 0])).add (.bk [.ii a.x,.ii a.y,.ii a.z])).add (.bk [.ii b.x,.ii b.y,.ii b.z])).add (.bk [.nils])).add (.bk [.ptr d 0])).get (h.next+1)=some (.bk [.ii a.x,.ii a.y,.ii a.z]):=by simp(disch:=first|omega|simp only[nZ]<;>omega|fail)only[go_sem]
 have q3:(((((h.add (.bk [.ptr d 0])).add (.bk [.ii a.x,.ii a.y,.ii a.z])).add (.bk [.ii b.x,.ii b.y,.ii b.z])).add (.bk [.nils])).add (.bk [.ptr d 0])).get (h.next+1+1)=some (.bk [.ii b.x,.ii b.y,.ii b.z]):=by simp(disch:=first|omega|simp only[nZ]<;>omega|fail)only[go_sem]
 have q4:(((((h.add (.bk [.ptr d 0])).add (.bk [.ii a.x,.ii a.y,.ii a.z])).add (.bk [.ii b.x,.ii b.y,.ii b.z])).add (.bk [.nils])).add (.bk [.ptr d 0])).get (h.next+1+1+1)=some (.bk [.nils]):=by simp(disch:=first|omega|simp only[nZ]<;>omega|fail)only[go_sem]
 have q5:(((((h.add (.bk [.ptr d 0])).add (.bk [.ii a.x,.ii a.y,.ii a.z])).add (.bk [.ii b.x,.ii b.y,.ii b.z])).add (.bk [.nils])).add (.bk [.ptr d 0])).get (h.next+1+1+1+1)=some (.bk [.ptr d 0]):=by simp(disch:=first|omega|simp only[nZ]<;>omega|fail)only[go_sem]
 have n5:(((((h.add (.bk [.ptr d 0])).add (.bk [.ii a.x,.ii a.y,.ii a.z])).add (.bk [.ii b.x,.ii b.y,.ii b.z])).add (.bk [.nils])).add (.bk [.ptr d 0])).next=h.next+5:=by simp only[H.next_add]
 have hlk:∀hh (R:V→H→Prop),Ev fnG Zm (.fn 171 [] []) [.ptr d 0] hh R=R (.fn 184 [] [.ptr hh.next 0]) (hh.add (.bk [.ptr d 0])):=fun hh R=>by
  refine Ev.det (Zd (fd:=c171) rfl rfl rfl ?_) R
  simp(disch:=first|omega|simp only[nZ]<;>omega|fail)only[c171,go_sem]
 simp(disch:=first|omega|simp only[nZ]<;>omega|fail)only[c120,go_sem,Zj,fq,hlk]
 generalize(((((h.add (.bk [.ptr d 0])).add (.bk [.ii a.x,.ii a.y,.ii a.z])).add (.bk [.ii b.x,.ii b.y,.ii b.z])).add (.bk [.nils])).add (.bk [.ptr d 0]))=h6 at s5 q1 q2 q3 q4 q5 n5⊢
 refine W_gen (P:=fun tm=>tm.E 3=.ptr h.next 0∧tm.E 4=.ptr (h.next+1) 0∧tm.E 5=.ptr (h.next+1+1) 0∧tm.E 7=.ptr (h.next+1+1+1) 0∧tm.E 13=.fn 184 [] [.ptr (h.next+1+1+1+1) 0]) ⟨yac,yac,yac,yac,yac⟩ fun tm ⟨t3,t4,t5,t7,t13⟩=>?_
 refine W_rf t13 ?_
 generalize hr:Yn.mk _ _ _ _ _ _ _ _ _=r0
 have fB:=congrArg Yn.body hr
 have fA:=congrArg Yn.assign hr
 have fN:=congrArg Yn.n hr
 have fF:=congrArg Yn.fn hr
 have fP:=congrArg Yn.ps hr
 have fT:=congrArg Yn.tm hr
 dsimp only at fB fA fN fF fP fT
 have hrs:r0.st=.ready:=by rw[←hr]
 have hrp:r0.pend=none:=by rw[←hr]
 have w6:=s5.wf
 obtain⟨J,hJ⟩:∃J:Nat→H→Prop,∀n x,J n x↔∃y,Zq h x y 2 ((ZU t a b n).map VY)∧(y=.nils↔ZU t a b n=[])∧(∀b,Zk y b→h6.next+2≤b)∧h6.next+1<x.next∧x.get (h6.next+1)=some (.loop r0)∧x.get h6.next=some .dfr∧
   x.get h.next=some (.bk [.ptr d 0])∧x.get (h.next+1)=some (.bk [.ii a.x,.ii a.y,.ii a.z])∧x.get (h.next+1+1)=some (.bk [.ii b.x,.ii b.y,.ii b.z])∧x.get (h.next+1+1+1)=some (.bk [y])∧x.get (h.next+1+1+1+1)=some (.bk [.ptr d 0]):=⟨_,fun _ _=>Iff.rfl⟩
 have hd0:=hd
 refine(looks_gen (c:=h.next+1+1+1+1) (S:=fun _=>False) hd0 (J:=J) (fun n x hx=>?_) (fun i k hi hk x hx=>?_) ?_).mono fun u h7 hu=>?_
 ·obtain⟨y,o,_,_,_,_,_,_,_,_,_,g5⟩:=(hJ _ _).1 hx
  exact⟨o.1,Zb g5⟩
 ·obtain⟨y,oy,yn,yb,lx,gl,gd,g1,g2,g3,g4,g5⟩:=(hJ _ _).1 hx
  have sx:=oy.1
  have wx:=sx.wf
  refine Ev.gen fun Q2 q2=>?_
  refine Ev_yld (tm:=tm.put (some (.agg [.ii (i:Int),.ii (k:Int)])) 14) gl (by rw[←fP,←fT];rfl) ?_
  rw[←fA,←fN,←fF]
  have hd5:=s5
  have sx2:x.Sub (x.add (.bk [.ii (i:Int),.ii (k:Int)])):=(H.Sub.refl wx).add _
  have gw:(x.add (.bk [.ii (i:Int),.ii (k:Int)])).get x.next=some (.bk [.ii (i:Int),.ii (k:Int)]):=Zn rfl
  have lw:(x.add (.bk [.ii (i:Int),.ii (k:Int)])).next=x.next+1:=H.next_add _ _
  simp(disch:=first|omega|simp only[nZ]<;>omega|fail)only[go_sem,t3,t4,t5,t7]
  unfold Kasg
  refine⟨rfl,r0,sx2.get gl,hrs,?_⟩
  obtain⟨rb,hrb⟩:∃rb:Yn,rb={r0 with st:=.busy}:=⟨_,rfl⟩
  have hrb1:({rb with st:=.ready,pend:=none}:Yn)=r0:=by rw[hrb];exact rLoop hrs hrp
  rw[←hrb,←fB,←fN,←fF]
  generalize x.add (.bk [.ii (i:Int),.ii (k:Int)])=hy at sx2 gw lw⊢
  have sy:=sx.trans sx2
  have nl:∀b,Zk y b→b≠h6.next+1:=fun b hb=>by have:=yb b hb;omega
  have K3:Zi (fun c=>c=h6.next+1) hy (hy.set (h6.next+1) (.loop rb)):=Zi.set _ _ _
  have s3:h.Sub (hy.set (h6.next+1) (.loop rb)):=sy.set yab yab hw _
  have oy3:=(oy.mono sx2).keep K3 s3 fun b hb e=>nl b hb e
  have gl3:(hy.set (h6.next+1) (.loop rb)).get (h6.next+1)=some (.loop rb):=get_set_same rfl
  have gd3:=K3.2 _ _ (sx2.get gd) yab
  have c1:=K3.2 _ _ (sx2.get g1) yab
  have c2:=K3.2 _ _ (sx2.get g2) yab
  have c3:=K3.2 _ _ (sx2.get g3) yab
  have c4:=K3.2 _ _ (sx2.get g4) yab
  have c5:=K3.2 _ _ (sx2.get g5) yab
  have cw:=K3.2 _ _ gw yab
  have l3:(hy.set (h6.next+1) (.loop rb)).next=x.next+1:=by rw[H.next_set];exact lw
  generalize hy.set (h6.next+1) (.loop rb)=h3 at s3 oy3 gl3 gd3 c1 c2 c3 c4 c5 cw l3⊢
  have hsee:=sees_ev (h:=h3) s3.wf (hd0.mono s3) g hi hk ha hb
  simp only[Zj] at hsee
  obtain⟨E,L,P,gd0,aE,aL,aP⟩:=hd0
  simp(disch:=first|omega|simp only[nZ]<;>omega|fail)only[go_sem,t3,t4,t5,t7,Zv,Zb c1,Zb c2,Zb c3,Zb cw]
  refine hsee _ fun h4 s34=>?_
  have s4:=s3.trans s34
  obtain⟨bE,oE,cE,csE,eE,hcE,hqE,_,hnE,_⟩:=(aE.mono s4).at hi
  have hfr:nth (oE+i*4+3) csE=some (.ii t.eyes[i].frm):=by rw[hnE 3 yab];rfl
  have gE3:=Zb (s3.get gd0)
  have gE4:=Zb (s4.get gd0)
  have hcE3:h3.cells bE=some csE:=by
   obtain⟨bE',oE',cE',csE',eE',hcE',_⟩:=aE.at hi
   rw[eE] at eE';injection eE' with x1 x2;subst x1
   have e1:=s4.cells hcE'
   rw[hcE] at e1;cases e1
   exact s3.cells hcE'
  have hst:=apartK_step (t:=t) (a:=a) (b:=b) (i:=i) hk
  have htl:ZR t a b i k=decide (t.eyes[i].frm≤Wz t.eyes[i].s t.lights[k] a b):=by
   unfold ZR;rw[List.getElem?_eq_getElem hi,List.getElem?_eq_getElem hk]
  have fin:∀hz:H,h.Sub hz→∀y',Zq h hz y' 2 ((ZU t a b (i*t.lights.length+k+1)).map VY)→(y'=.nils↔ZU t a b (i*t.lights.length+k+1)=[])→(∀b,Zk y' b→h6.next+2≤b)→hz.get (h6.next+1)=some (.loop rb)→hz.get h6.next=some .dfr→
    hz.get h.next=some (.bk [.ptr d 0])→hz.get (h.next+1)=some (.bk [.ii a.x,.ii a.y,.ii a.z])→hz.get (h.next+1+1)=some (.bk [.ii b.x,.ii b.y,.ii b.z])→hz.get (h.next+1+1+1)=some (.bk [y'])→hz.get (h.next+1+1+1+1)=some (.bk [.ptr d 0])→
    J (i*t.lights.length+k+1) (hz.set (h6.next+1) (.loop {rb with st:=.ready,pend:=none})):=by
   intro hz sz y' o1 o2 o3 z1 z2 z3 z4 z5 z6 z7
   have lz:=sz.wf _ _ z1
   have s8:h.Sub (hz.set (h6.next+1) (.loop {rb with st:=.ready,pend:=none})):=sz.set yab lz hw _
   refine(hJ _ _).2 ⟨y',o1.keep (Zi.set _ _ _) s8 fun b hb e=>by have:=o3 b hb;omega,o2,o3,by rw[H.next_set];exact lz,by rw[get_set_same rfl,hrb1],?_,?_,?_,?_,?_,?_⟩
   ·rw[get_set_other yab];exact z2
   ·rw[get_set_other yab];exact z3
   ·rw[get_set_other yab];exact z4
   ·rw[get_set_other yab];exact z5
   ·rw[get_set_other yab];exact z6
   ·rw[get_set_other yab];exact z7
  simp(disch:=first|omega|simp only[nZ]<;>omega|fail)only[go_sem,t3,t4,t5,t7,Zv,Zb c1,Zb c2,Zb c3,Zb (s34.get c1),gE3,gE4,Zb cw,Zb (s34.get cw),hqE (Ze i),hcE,hcE3,hfr]
  by_cases hte:t.eyes[i].frm≤Wz t.eyes[i].s t.lights[k] a b
  ·rw[decide_eq_true hte] at htl
   rw[htl] at hst
   simp only[↓reduceIte] at hst
   have oy4:=oy3.mono s34
   have hyl:=YW t a b (i*t.lights.length+k)
   have hik:i*t.lights.length+k<24:=by
    have h1:=Nat.mul_le_mul_right t.lights.length hi
    rw[Nat.succ_mul] at h1;omega
   have y1:=ZG.one oy.c
   have sC:=(H.Sub.refl s4.wf).add (.bk [.ii (i:Int),.ii (k:Int)])
   simp(disch:=first|omega|simp only[nZ]<;>omega|fail)only[go_sem,t3,t4,t5,t7,hte,Zb (s34.get c4),Zb (s34.get cw)]
   refine(oy4.mono sC).app1 (by_:=16) (r:=VY ((i:Int),(k:Int))) hw rfl yab (Zg.new _ rfl rfl (by rfl) (by simp[VY]) yac) rfl yaj yaj fun h5 o5 k5 n5=>?_
   rw[H.next_add] at n5 o5
   have l34:=s34.next
   have hne:∀c z,h3.get c=some z→c<h6.next+2→h5.get c=some z:=fun c z hc hlt=>k5.2 _ _ (sC.get (s34.get hc)) fun hb=>by have:=yb c hb;omega
   have c45:=hne _ _ c4 yab
   simp(disch:=first|omega|simp only[nZ]<;>omega|fail)only[go_sem,t3,t4,t5,t7,c45]
   unfold Kround
   have s5':=o5.1
   have s55:h.Sub (h5.set (h.next+1+1+1) (.bk [.sl (h4.next+1) 0 (((ZU t a b (i*t.lights.length+k)).map VY).length+1) (.slk 0 0)])):=s5'.set yab (s5'.wf _ _ c45) hw _
   refine⟨rb,by rw[get_set_other yab];exact hne _ _ gl3 yab,q2 _ _ (.inl ⟨rfl,fin _ s55 _ (Zq.keep (rows:=(ZU t a b (i*t.lights.length+k+1)).map VY) ?_ (Zi.set _ _ _) s55 fun b hb e=>?_) ?_ ?_ ?_ ?_ ?_ ?_ ?_ (get_set_same rfl) ?_⟩)⟩
   ·rw[hst,List.map_append];exact o5
   ·obtain⟨_,_,_,e2⟩:=hb;cases e2;omega
   ·rw[hst];simp
   ·rintro b ⟨_,_,_,e2⟩;cases e2;omega
   ·rw[get_set_other yab];exact hne _ _ gl3 yab
   ·rw[get_set_other yab];exact hne _ _ gd3 yab
   ·rw[get_set_other yab];exact hne _ _ c1 yab
   ·rw[get_set_other yab];exact hne _ _ c2 yab
   ·rw[get_set_other yab];exact hne _ _ c3 yab
   ·rw[get_set_other yab];exact hne _ _ c5 yab
  ·rw[decide_eq_false hte] at htl
   rw[htl] at hst
   simp only[Bool.false_eq_true, ↓reduceIte,List.append_nil] at hst
   simp(disch:=first|omega|simp only[nZ]<;>omega|fail)only[go_sem,t3,t4,t5,t7,hte]
   unfold Kround
   exact⟨rb,s34.get gl3,q2 _ _ (.inl ⟨rfl,fin _ s4 y (by rw[hst];exact oy3.mono s34) (by rw[hst];exact yn) yb (s34.get gl3) (s34.get gd3) (s34.get c1) (s34.get c2) (s34.get c3) (s34.get c4) (s34.get c5)⟩)⟩
 ·refine(hJ _ _).2 ⟨.nils,Zq.nil ((s5.add _).add _) 2,by simp[ZU],fun b hb=>(V3 hb).elim,?_,?_,?_,?_,?_,?_,?_,?_⟩
  ·simp only[H.next_add];omega
  all_goals simp(disch:=first|omega|simp only[nZ]<;>omega|fail)only[go_sem,q1,q2,q3,q4,q5]
 ·rcases hu with hJ7|hF
  ·obtain⟨y,oy,yn,yb,lx,gl,gd,g1,g2,g3,g4,g5⟩:=(hJ _ _).1 hJ7
   refine⟨r0,gl,by rw[hrs];simp,?_⟩
   rw[hrp]
   have s7:=oy.1
   have lt7:=s7.wf _ _ gl
   have s8:h.Sub (h7.set (h6.next+1) (.loop {r0 with st:=.exhausted})):=s7.set yab lt7 hw _
   have oy8:=oy.keep (Zi.set (h:=h7) (b:=h6.next+1) (x:=.loop {r0 with st:=.exhausted})) s8 fun b hb e=>by have:=yb b hb;omega
   have d8:(h7.set (h6.next+1) (.loop {r0 with st:=.exhausted})).get h6.next=some .dfr:=by rw[get_set_other yab];exact gd
   have c8:(h7.set (h6.next+1) (.loop {r0 with st:=.exhausted})).get (h.next+1+1+1)=some (.bk [y]):=by rw[get_set_other yab];exact g4
   rw[hrp] at s8 oy8 d8 c8
   generalize h7.set (h6.next+1) _=h8 at s8 oy8 d8 c8⊢
   have y1:=ZG.one oy.c
   simp(disch:=first|omega|simp only[nZ]<;>omega|fail)only[go_sem,t3,t4,t5,t7,Zb c8,Kfin_ret1 _ _ _ d8]
   have s9:h.Sub (h8.del h6.next):=H.Sub.del s8 yab hw
   refine q _ _ (Zq.c ?_) yn
   refine oy8.keep (S:=fun c=>c=h6.next) ⟨by rw[H.next_del];exact Nat.le_refl _,fun c z hc hn=>by rw[Vj hn];exact hc⟩ s9 fun b hb e=>by have:=yb b hb;omega
  ·exact hF.elim
end Tryz
end Go.Ab
namespace Go.Ab.Tryz
def lookB (t:Tb)(p r:Int):Bool:=decide ((0≤p∧p<t.eyes.length)∧(0≤r∧r<t.lights.length))
theorem lk_feq (i k p r:Int):q_feq false 2 (.agg [.ii i,.ii k]) (.agg [.ii p,.ii r])=some (.bool (decide (i=p∧k=r))):=by
 have h:=Wu (n:=2) [i,k] [p,r] rfl rfl false
 have e:decide (([i,k]:List Int)=[p,r])=decide (i=p∧k=r):=by rw[Bool.eq_iff_iff];simp
 rw[e] at h
 exact h
theorem looks_ev (d:Nat)(hh:H)(R:V→H→Prop):Ev fnG Zm (.fn 171 [] []) [.ptr d 0] hh R=R (.fn 184 [] [.ptr hh.next 0]) (hh.add (.bk [.ptr d 0])):=by
 refine Ev.det (Zd (fd:=c171) rfl rfl rfl ?_) R
 simp(disch:=omega)only[c171,go_sem]
set_option maxHeartbeats 2000000 in
theorem look_ev {h:H}{d:Nat}{t:Tb}(hw:h.wf)(hd:Ws h d t)(g:Good t)(p r:Int)(Q:V→H→Prop)(q:∀h',h.Sub h'→Q (.bool (lookB t p r)) h'):
  Ev fnG Zm (.fn 118 [] []) [.ptr d 0,.agg [.ii p,.ii r]] h Q:=by
 refine Zd (fd:=c118) rfl rfl rfl ?_
 have s5:h.Sub (((h.add (.bk [.ii p,.ii r])).add (.bk [.bool false])).add (.bk [.ptr d 0])):=yaa
 have q1:(((h.add (.bk [.ii p,.ii r])).add (.bk [.bool false])).add (.bk [.ptr d 0])).get h.next=some (.bk [.ii p,.ii r]):=by simp(disch:=first|omega|simp only[nZ]<;>omega|fail)only[go_sem]
 have q2:(((h.add (.bk [.ii p,.ii r])).add (.bk [.bool false])).add (.bk [.ptr d 0])).get (h.next+1)=some (.bk [.bool false]):=by simp(disch:=first|omega|simp only[nZ]<;>omega|fail)only[go_sem]
 have q3:(((h.add (.bk [.ii p,.ii r])).add (.bk [.bool false])).add (.bk [.ptr d 0])).get (h.next+1+1)=some (.bk [.ptr d 0]):=by simp(disch:=first|omega|simp only[nZ]<;>omega|fail)only[go_sem]
 have n5:(((h.add (.bk [.ii p,.ii r])).add (.bk [.bool false])).add (.bk [.ptr d 0])).next=h.next+3:=by simp only[H.next_add]
 simp(disch:=first|omega|simp only[nZ]<;>omega|fail)only[c118,go_sem,looks_ev]
 generalize(((h.add (.bk [.ii p,.ii r])).add (.bk [.bool false])).add (.bk [.ptr d 0]))=h6 at s5 q1 q2 q3 n5⊢
 refine W_gen (P:=fun tm=>tm.E 3=.ptr h.next 0∧tm.E 4=.ptr (h.next+1) 0∧tm.E 7=.fn 184 [] [.ptr (h.next+1+1) 0]) ⟨yac,yac,yac⟩ fun tm ⟨t3,t4,t7⟩=>?_
 refine W_rf t7 ?_
 generalize hr:Yn.mk _ _ _ _ _ _ _ _ _=r0
 have fB:=congrArg Yn.body hr
 have fA:=congrArg Yn.assign hr
 have fN:=congrArg Yn.n hr
 have fF:=congrArg Yn.fn hr
 have fP:=congrArg Yn.ps hr
 have fT:=congrArg Yn.tm hr
 dsimp only at fB fA fN fF fP fT
 have hrs:r0.st=.ready:=by rw[←hr]
 have hrp:r0.pend=none:=by rw[←hr]
 have w6:=s5.wf
 obtain⟨J,hJ⟩:∃J:Nat→H→Prop,∀n x,J n x↔(h.Sub x∧(∀i k,i<t.eyes.length→k<t.lights.length→i*t.lights.length+k<n→¬((i:Int)=p∧(k:Int)=r))∧h6.next+1<x.next∧x.get (h6.next+1)=some (.loop r0)∧x.get h6.next=some .dfr∧
   x.get h.next=some (.bk [.ii p,.ii r])∧x.get (h.next+1)=some (.bk [.bool false])∧x.get (h.next+1+1)=some (.bk [.ptr d 0])):=⟨_,fun _ _=>Iff.rfl⟩
 obtain⟨S,hS⟩:∃S:H→Prop,∀x,S x↔(h.Sub x∧lookB t p r=true∧x.get (h.next+1)=some (.bk [.bool true])∧x.get h6.next=some .dfr∧∃rr,x.get (h6.next+1)=some (.loop rr)∧rr.st=.done∧rr.pend=some .ret):=⟨_,fun _=>Iff.rfl⟩
 refine(looks_gen (c:=h.next+1+1) (S:=S) hd (J:=J) (fun n x hx=>?_) (fun i k hi hk x hx=>?_) ?_).mono fun u h7 hu=>?_
 ·obtain⟨o,_,_,_,_,_,_,g3⟩:=(hJ _ _).1 hx
  exact⟨o,Zb g3⟩
 ·obtain⟨sx,hno,lx,gl,gd,g1,g2,g3⟩:=(hJ _ _).1 hx
  have wx:=sx.wf
  refine Ev.gen fun Q2 q2=>?_
  refine Ev_yld (tm:=tm.put (some (.agg [.ii (i:Int),.ii (k:Int)])) 8) gl (by rw[←fP,←fT];rfl) ?_
  rw[←fA,←fN,←fF]
  have sx2:x.Sub (x.add (.bk [.ii (i:Int),.ii (k:Int)])):=(H.Sub.refl wx).add _
  have gw:(x.add (.bk [.ii (i:Int),.ii (k:Int)])).get x.next=some (.bk [.ii (i:Int),.ii (k:Int)]):=Zn rfl
  have lw:(x.add (.bk [.ii (i:Int),.ii (k:Int)])).next=x.next+1:=H.next_add _ _
  simp(disch:=first|omega|simp only[nZ]<;>omega|fail)only[go_sem,t3,t4,t7]
  unfold Kasg
  refine⟨rfl,r0,sx2.get gl,hrs,?_⟩
  obtain⟨rb,hrb⟩:∃rb:Yn,rb={r0 with st:=.busy}:=⟨_,rfl⟩
  have hrb1:({rb with st:=.ready,pend:=none}:Yn)=r0:=by rw[hrb];exact rLoop hrs hrp
  rw[←hrb,←fB,←fN,←fF]
  generalize x.add (.bk [.ii (i:Int),.ii (k:Int)])=hy at sx2 gw lw⊢
  have sy:=sx.trans sx2
  have K3:Zi (fun c=>c=h6.next+1) hy (hy.set (h6.next+1) (.loop rb)):=Zi.set _ _ _
  have s3:h.Sub (hy.set (h6.next+1) (.loop rb)):=sy.set yab yab hw _
  have gl3:(hy.set (h6.next+1) (.loop rb)).get (h6.next+1)=some (.loop rb):=get_set_same rfl
  have gd3:=K3.2 _ _ (sx2.get gd) yab
  have c1:=K3.2 _ _ (sx2.get g1) yab
  have c2:=K3.2 _ _ (sx2.get g2) yab
  have c3:=K3.2 _ _ (sx2.get g3) yab
  have cw:=K3.2 _ _ gw yab
  have l3:(hy.set (h6.next+1) (.loop rb)).next=x.next+1:=by rw[H.next_set];exact lw
  generalize hy.set (h6.next+1) (.loop rb)=h3 at s3 gl3 gd3 c1 c2 c3 cw l3⊢
  simp(disch:=first|omega|simp only[nZ]<;>omega|fail)only[go_sem,t3,t4,t7,Zb c1,Zb cw,lk_feq]
  by_cases he:(i:Int)=p∧(k:Int)=r
  ·simp(disch:=first|omega|simp only[nZ]<;>omega|fail)only[go_sem,t3,t4,t7,he,and_self,decide_true,c2]
   unfold Kround
   have hlb:lookB t p r=true:=by simp only[lookB,decide_eq_true_eq];omega
   have s4:h.Sub (h3.set (h.next+1) (.bk [.bool true])):=s3.set yab yab hw _
   have l4:h6.next+1<(h3.set (h.next+1) (.bk [.bool true])).next:=by rw[H.next_set];omega
   refine⟨rb,by rw[get_set_other yab];exact gl3,q2 _ _ (.inr ⟨rfl,(hS _).2 ⟨s4.set yab l4 hw _,hlb,?_,?_,_,get_set_same rfl,rfl,rfl⟩⟩)⟩
   ·rw[get_set_other yab,get_set_same rfl]
   ·rw[get_set_other yab,get_set_other yab];exact gd3
  ·simp(disch:=first|omega|simp only[nZ]<;>omega|fail)only[go_sem,t3,t4,t7,he,decide_false]
   unfold Kround
   have l4:h6.next+1<(h3.set (h6.next+1) (.loop {rb with st:=.ready,pend:=none})).next:=by rw[H.next_set];omega
   refine⟨rb,gl3,q2 _ _ (.inl ⟨rfl,(hJ _ _).2 ⟨s3.set yab yab hw _,fun i' k' hi' hk' hlt hh=>?_,l4,by rw[get_set_same rfl,hrb1],?_,?_,?_,?_⟩⟩)⟩
   ·by_cases e:i'*t.lights.length+k'<i*t.lights.length+k
    ·exact hno i' k' hi' hk' e hh
    ·have e2:i'*t.lights.length+k'=i*t.lights.length+k:=by omega
     have e3:(i'*t.lights.length+k')/t.lights.length=i':=by rw[Nat.add_comm,Nat.add_mul_div_right _ _ yab,Nat.div_eq_of_lt hk',Nat.zero_add]
     have e4:(i*t.lights.length+k)/t.lights.length=i:=by rw[Nat.add_comm,Nat.add_mul_div_right _ _ yab,Nat.div_eq_of_lt hk,Nat.zero_add]
     rw[e2,e4] at e3
     subst e3
     have:k'=k:=by omega
     subst this
     exact he hh
   ·rw[get_set_other yab];exact gd3
   ·rw[get_set_other yab];exact c1
   ·rw[get_set_other yab];exact c2
   ·rw[get_set_other yab];exact c3
 ·refine(hJ _ _).2 ⟨(s5.add _).add _,fun i k _ _ h=>by omega,?_,?_,?_,?_,?_,?_⟩
  ·simp only[H.next_add];omega
  all_goals simp(disch:=first|omega|simp only[nZ]<;>omega|fail)only[go_sem,q1,q2,q3]
 ·rcases hu with hJ7|hS7
  ·obtain⟨s7,hno,lx,gl,gd,g1,g2,g3⟩:=(hJ _ _).1 hJ7
   have hlb:lookB t p r=false:=by
    simp only[lookB,decide_eq_false_iff_not]
    rintro⟨⟨p0,p1⟩,r0',r1⟩
    refine hno p.toNat r.toNat yab yab ?_ ⟨by omega,by omega⟩
    have h1:=Nat.mul_le_mul_right t.lights.length (show p.toNat+1≤t.eyes.length by omega)
    rw[Nat.succ_mul] at h1;omega
   refine⟨r0,gl,by rw[hrs];simp,?_⟩
   rw[hrp]
   have lt7:=s7.wf _ _ gl
   have s8:h.Sub (h7.set (h6.next+1) (.loop {r0 with st:=.exhausted})):=s7.set yab lt7 hw _
   have d8:(h7.set (h6.next+1) (.loop {r0 with st:=.exhausted})).get h6.next=some .dfr:=by rw[get_set_other yab];exact gd
   have c8:(h7.set (h6.next+1) (.loop {r0 with st:=.exhausted})).get (h.next+1)=some (.bk [.bool false]):=by rw[get_set_other yab];exact g2
   rw[hrp] at s8 d8 c8
   generalize h7.set (h6.next+1) _=h8 at s8 d8 c8⊢
   have l8:=s8.wf _ _ c8
   have d9:(h8.set (h.next+1) (.bk [.bool false])).get h6.next=some .dfr:=by rw[get_set_other yab];exact d8
   have s9:h.Sub (h8.set (h.next+1) (.bk [.bool false])):=s8.set yab l8 hw _
   have c9:((h8.set (h.next+1) (.bk [.bool false])).del h6.next).cells (h.next+1)=some [.bool false]:=by rw[Wh yab,WS rfl]
   simp(disch:=first|omega|simp only[nZ]<;>omega|fail)only[go_sem,t3,t4,t7,c8,Kfin_ret1 _ _ _ d9,c9]
   rw[hlb] at q
   exact q _ (H.Sub.del s9 yab hw)
  ·obtain⟨s7,hlb,g2,gd,rr,gl,hst,hpe⟩:=(hS _).1 hS7
   refine⟨rr,gl,by rw[hst];simp,?_⟩
   rw[hpe]
   have lt7:=s7.wf _ _ gl
   have s8:h.Sub (h7.set (h6.next+1) (.loop {rr with st:=.exhausted})):=s7.set yab lt7 hw _
   have d8:(h7.set (h6.next+1) (.loop {rr with st:=.exhausted})).get h6.next=some .dfr:=by rw[get_set_other yab];exact gd
   have c8:(h7.set (h6.next+1) (.loop {rr with st:=.exhausted})).get (h.next+1)=some (.bk [.bool true]):=by rw[get_set_other yab];exact g2
   rw[hpe] at s8 d8 c8
   generalize h7.set (h6.next+1) _=h8 at s8 d8 c8⊢
   have c9:(h8.del h6.next).cells (h.next+1)=some [.bool true]:=by rw[Wh yab];exact Zb c8
   simp(disch:=first|omega|simp only[nZ]<;>omega|fail)only[go_sem,t3,t4,t7,Kfin_ret1 _ _ _ d8,c9]
   rw[hlb] at q
   exact q _ (H.Sub.del s8 yab hw)
def alike (t:Tb)(a b:Sd):Bool:=(Yg t a b).isEmpty
theorem alike_ev {h:H}{d:Nat}{t:Tb}(hw:h.wf)(hd:Ws h d t)(g:Good t){a b:Sd}(ha:InS a 20)(hb:InS b 20)(Q:V→H→Prop)(q:∀h',h.Sub h'→Q (.bool (alike t a b)) h'):
  Ev fnG Zm (.fn 121 [] []) [.ptr d 0,.agg (Zj a),.agg (Zj b)] h Q:=by
 refine Zd (fd:=c121) rfl rfl rfl ?_
 have s2:h.Sub ((h.add (.bk [.ii a.x,.ii a.y,.ii a.z])).add (.bk [.ii b.x,.ii b.y,.ii b.z])):=yaa
 have hap:=apart_ev (h:=(h.add (.bk [.ii a.x,.ii a.y,.ii a.z])).add (.bk [.ii b.x,.ii b.y,.ii b.z])) s2.wf (hd.mono s2) g ha hb
 simp only[Zj] at hap
 simp(disch:=first|omega|simp only[nZ]<;>omega|fail)only[c121,go_sem,Zj]
 refine hap _ fun x h3 o hx=>?_
 have hl:(Yg t a b).length≤24:=by
  unfold Yg
  split
  ·simp
  ·exact Nat.le_trans (YW _ _ _ _) (Nat.le_trans (Nat.mul_le_mul g.eyes.2 g.lights.2) (by decide))
 have hlx:=(o.sl yaj).lenE
 have e:decide (((Yg t a b).length:Int)=0)=alike t a b:=by
  unfold alike
  cases Yg t a b with
  |nil=>rfl
  |cons p l=>simp;omega
 simp(disch:=first|omega|simp only[nZ]<;>omega|fail)only[go_sem,hlx,e]
 exact q _ (s2.trans o.1)
def XC (t:Tb)(p r:Nat):Bool:=match t.pieces[p]?,t.pieces[r]? with
 |some a,some b=>alike t a b
 |_,_=>false
theorem WE {h:H}{d:Nat}{t:Tb}(hw:h.wf)(hd:Ws h d t)(g:Good t){p r:Nat}(hp:p<t.pieces.length)(hr:r<t.pieces.length)(Q:V→H→Prop)(q:∀h',h.Sub h'→Q (.bool (XC t p r)) h'):
  Ev fnG Zm (.fn 77 [] []) [.ptr d 0,.ii (p:Int),.ii (r:Int)] h Q:=by
 have hal:=alike_ev (h:=h) hw hd g (g.piece _ (List.getElem_mem hp)) (g.piece _ (List.getElem_mem hr))
 obtain⟨E,L,P,gd,aE,aL,aP⟩:=hd
 obtain⟨b1,o1,c1,cs1,rfl,hc1,hq1,hg1,hn1,hn01⟩:=aP.at hp
 obtain⟨b2,o2,c2,cs2,e2,hc2,hq2,hg2,hn2,hn02⟩:=aP.at hr
 refine Zd (fd:=c77) rfl rfl rfl ?_
 simp(disch:=omega)only[c77,go_sem,Zb gd,hq1 (Ze p),hc1,hg1,hq2 (Ze r),hc2,hg2,Zv]
 refine hal _ fun h' s=>?_
 have e:alike t t.pieces[p] t.pieces[r]=XC t p r:=by
  unfold XC;rw[List.getElem?_eq_getElem hp,List.getElem?_eq_getElem hr]
 rw[e]
 simp(disch:=omega)only[go_sem,Zb gd,hc1,hc2,s.cells (Zb gd),s.cells hc1,s.cells hc2,hg1,hg2,hq1 (Ze p),hq2 (Ze r),Zv]
 exact q _ s
end Tryz
end Go.Ab
namespace Go.Ab
end Go.Ab
namespace Go.Ab.Tryz
theorem all_step {α:Type}{l:List α}{p:α→Bool}{i:Nat}(hi:i<l.length)(h:(l.take i).all p=true)(h2:p l[i]=true):(l.take (i+1)).all p=true:=by
 rw[List.take_succ_eq_append_getElem hi,List.all_append,h];simp[h2]
theorem all_false {α:Type}{l:List α}{p:α→Bool}{i:Nat}(hi:i<l.length)(h2:p l[i]=false):l.all p=false:=by
 rw[Bool.eq_false_iff];intro h
 rw[List.all_eq_true] at h
 rw[h _ (List.getElem_mem hi)] at h2;cases h2
set_option maxHeartbeats 1000000 in
theorem X2 {h:H}{v:V}{t:Tb}(hw:h.wf)(ht:ZK h v t)(Q:V→H→Prop)(q:∀h',h.Sub h'→Q (.ii (check t)) h'):Ev fnG Zm (.fn 13 [] []) [v] h Q:=by
 obtain⟨E,L,P,rfl,aE,aL,aP⟩:=ht
 have hlE:=aE.lenE
 have hlL:=aL.lenE
 have hlP:=aP.lenE
 have bE:=aE.boundE
 have bL:=aL.boundE
 have bP:=aP.boundE
 refine Zd (fd:=c13) rfl rfl rfl ?_
 have s1:h.Sub (h.add (.bk [E,L,P])):=yaa
 have g1:(h.add (.bk [E,L,P])).cells h.next=some [E,L,P]:=Zf rfl
 have hb:=fun s m hh=>beyond_ev s m hh
 simp only[Zj] at hb
 by_cases c1:inB t.eyes.length 1 6=false∨inB t.lights.length 1 4=false∨9<t.pieces.length
 ·have hc:check t=2:=by unfold check;rw[if_pos c1]
  rw[hc] at q
  cases d1:inB t.eyes.length 1 6
  ·simp(disch:=omega)only[c13,go_sem,g1,hlE,hlL,hlP,YM,d1,Bool.not_false]
   exact q _ s1
  cases d2:inB t.lights.length 1 4
  ·simp(disch:=omega)only[c13,go_sem,g1,hlE,hlL,hlP,YM,d1,d2,Bool.not_false,Bool.not_true]
   exact q _ s1
  rw[d1,d2] at c1
  have c3:(9:Int)<(t.pieces.length:Int):=by simp at c1;omega
  simp(disch:=omega)only[c13,go_sem,g1,hlE,hlL,hlP,YM,d1,d2,Bool.not_false,Bool.not_true,c3]
  exact q _ s1
 have d:=c1
 simp only[not_or,Bool.not_eq_false] at d
 obtain⟨d1,d2,d3⟩:=d
 have c3:¬(9:Int)<(t.pieces.length:Int):=by omega
 simp(disch:=omega)only[c13,go_sem,g1,hlE,hlL,hlP,YM,d1,d2,Bool.not_false,Bool.not_true,c3]
 generalize h.add (.bk [E,L,P])=h1 at s1 g1⊢
 refine Zh t.eyes.length (fun i s=>∃tm h',s=⟨tm,h',[]⟩∧h1.Sub h'∧(t.eyes.take i).all Ey.ok=true∧tm.E 1=.ptr h.next 0∧tm.E 3=.ii (i:Int))
  ?_ ?_ (i:=0) (Nat.zero_le _) ⟨_,_,rfl,H.Sub.refl s1.wf,rfl,yac,yac⟩
 ·rintro i s hi ⟨tm,h',rfl,hs,hall,t1,t3⟩
  have hi':(i:Int)<(t.eyes.length:Int):=by omega
  have sA:=s1.trans hs
  obtain⟨b,o,c,cs,eb,hc,hq,hg,hn,hn0⟩:=(aE.mono sA).at hi
  obtain⟨e,ee⟩:∃e,t.eyes[i]=e:=⟨_,rfl⟩
  rw[ee] at hg
  have hg3:X7 (o+i*4) 3 cs=some [.ii e.s.x,.ii e.s.y,.ii e.s.z]:=getN_less hg (k:=3) yab
  have hfr:nth (o+i*4+3) cs=some (.ii e.frm):=by rw[hn 3 yab,ee];rfl
  have sB:=(H.Sub.refl hs.wf).add (.bk [.ii e.s.x,.ii e.s.y,.ii e.s.z])
  have r1:=hs.cells g1
  have r2:=sB.cells r1
  have hc2:=sB.cells hc
  cases e1:e.s.within 4
  ·have hbad:t.eyes.all Ey.ok=false:=all_false hi (by rw[ee];simp[Ey.ok,e1])
   have hc3:check t=3:=by unfold check;rw[if_neg c1,if_pos hbad]
   rw[hc3] at q
   simp(disch:=omega)only[go_sem,t1,t3,hi',r1,r2,hlE,hq (Ze i),hc,hg3,hb,e1,Bool.not_false]
   exact q _ (sA.trans sB)
  ·cases e2:inB e.frm 1 400
   ·have hbad:t.eyes.all Ey.ok=false:=all_false hi (by rw[ee];simp[Ey.ok,e1,e2])
    have hc3:check t=3:=by unfold check;rw[if_neg c1,if_pos hbad]
    rw[hc3] at q
    simp(disch:=omega)only[go_sem,t1,t3,hi',r1,r2,hlE,hq (Ze i),hc,hc2,hg3,hb,e1,hfr,YM,e2,Bool.not_false,Bool.not_true]
    exact q _ (sA.trans sB)
   ·simp(disch:=omega)only[go_sem,t1,t3,hi',r1,r2,hlE,hq (Ze i),hc,hc2,hg3,hb,e1,hfr,YM,e2,Bool.not_false,Bool.not_true,Zc]
    exact⟨_,_,rfl,hs.trans sB,all_step hi hall (by rw[ee];simp[Ey.ok,e1,e2]),yah,yac⟩
 ·rintro s ⟨tm,h',rfl,hs,hall,t1,t3⟩
  rw[List.take_length] at hall
  have c4:¬t.eyes.all Ey.ok=false:=by rw[hall];simp
  have r1:=hs.cells g1
  simp(disch:=omega)only[go_sem,t1,t3,r1,hlE,Int.lt_irrefl]
  refine Zh t.lights.length (fun i s=>∃tm h',s=⟨tm,h',[]⟩∧h1.Sub h'∧(t.lights.take i).all (fun s=>s.within 3)=true∧tm.E 1=.ptr h.next 0∧tm.E 4=.ii (i:Int))
   ?_ ?_ (i:=0) (Nat.zero_le _) ⟨_,_,rfl,hs,rfl,yah,yac⟩<;>clear t1 t3 r1 hs tm
  ·rintro i s hi ⟨tm,h',rfl,hs,hall,t1,t4⟩
   have hi':(i:Int)<(t.lights.length:Int):=by omega
   have sA:=s1.trans hs
   obtain⟨b,o,c,cs,eb,hc,hq,hg,hn,hn0⟩:=(aL.mono sA).at hi
   obtain⟨e,ee⟩:∃e,t.lights[i]=e:=⟨_,rfl⟩
   rw[ee] at hg
   simp only[Zj] at hg
   have sB:=(H.Sub.refl hs.wf).add (.bk [.ii e.x,.ii e.y,.ii e.z])
   have r1:=hs.cells g1
   cases e1:e.within 3
   ·have hbad:(t.lights.all fun s=>s.within 3)=false:=all_false hi (by rw[ee];exact e1)
    have hc3:check t=3:=by unfold check;rw[if_neg c1,if_neg c4,if_pos (.inl hbad)]
    rw[hc3] at q
    simp(disch:=omega)only[go_sem,t1,t4,hi',r1,hlL,hq (Ze i),hc,hg,hb,e1,Bool.not_false]
    exact q _ (sA.trans sB)
   ·simp(disch:=omega)only[go_sem,t1,t4,hi',r1,hlL,hq (Ze i),hc,hg,hb,e1,Bool.not_true,Zc]
    exact⟨_,_,rfl,hs.trans sB,all_step hi hall (by rw[ee];exact e1),yah,yac⟩
  ·rintro s ⟨tm,h',rfl,hs,hall2,t1,t4⟩
   rw[List.take_length] at hall2
   have r1:=hs.cells g1
   simp(disch:=omega)only[go_sem,t1,t4,r1,hlL,Int.lt_irrefl]
   refine Zh t.pieces.length (fun i s=>∃tm h',s=⟨tm,h',[]⟩∧h1.Sub h'∧(t.pieces.take i).all (fun s=>s.within 20)=true∧tm.E 1=.ptr h.next 0∧tm.E 5=.ii (i:Int))
    ?_ ?_ (i:=0) (Nat.zero_le _) ⟨_,_,rfl,hs,rfl,yah,yac⟩<;>clear t1 t4 r1 hs tm
   ·rintro i s hi ⟨tm,h',rfl,hs,hall,t1,t5⟩
    have hi':(i:Int)<(t.pieces.length:Int):=by omega
    have sA:=s1.trans hs
    obtain⟨b,o,c,cs,eb,hc,hq,hg,hn,hn0⟩:=(aP.mono sA).at hi
    obtain⟨e,ee⟩:∃e,t.pieces[i]=e:=⟨_,rfl⟩
    rw[ee] at hg
    simp only[Zj] at hg
    have sB:=(H.Sub.refl hs.wf).add (.bk [.ii e.x,.ii e.y,.ii e.z])
    have r1:=hs.cells g1
    cases e1:e.within 20
    ·have hbad:(t.pieces.all fun s=>s.within 20)=false:=all_false hi (by rw[ee];exact e1)
     have hc3:check t=3:=by unfold check;rw[if_neg c1,if_neg c4,if_pos (.inr hbad)]
     rw[hc3] at q
     simp(disch:=omega)only[go_sem,t1,t5,hi',r1,hlP,hq (Ze i),hc,hg,hb,e1,Bool.not_false]
     exact q _ (sA.trans sB)
    ·simp(disch:=omega)only[go_sem,t1,t5,hi',r1,hlP,hq (Ze i),hc,hg,hb,e1,Bool.not_true,Zc]
     exact⟨_,_,rfl,hs.trans sB,all_step hi hall (by rw[ee];exact e1),yah,yac⟩
   ·rintro s ⟨tm,h',rfl,hs,hall3,t1,t5⟩
    rw[List.take_length] at hall3
    have hc0:check t=0:=by unfold check;rw[if_neg c1,if_neg c4,if_neg (by simp[hall2,hall3])]
    rw[hc0] at q
    simp(disch:=omega)only[go_sem,t1,t5,hs.cells g1,hlP,Int.lt_irrefl]
    exact q _ (s1.trans hs)
theorem dif_abs (a b:Int):(if a-b<0 then 0-(a-b) else a-b)=dif a b:=by unfold dif;split<;>omega
set_option maxHeartbeats 1000000 in
theorem refSees_ev {h:H}{v:V}{t:Tb}(hw:h.wf)(ht:ZK h v t)(g:Good t){i k:Nat}(hi:i<t.eyes.length)(hk:k<t.lights.length){a b:Sd}(ha:InS a 20)(hb:InS b 20)(Q:V→H→Prop)
  (q:∀h',h.Sub h'→Q (.ii (Wz t.eyes[i].s t.lights[k] a b)) h'):Ev fnG Zm (.fn 139 [] []) [v,.agg [.ii (i:Int),.ii (k:Int)],.agg (Zj a),.agg (Zj b)] h Q:=by
 obtain⟨E,L,P,rfl,aE,aL,aP⟩:=ht
 have ge:=(g.eye _ (List.getElem_mem hi)).1
 have gl:=g.light _ (List.getElem_mem hk)
 obtain⟨bE,oE,cE,csE,eE,hcE,hqE,hgE,_,_⟩:=aE.at hi
 obtain⟨bL,oL,cL,csL,eL,hcL,hqL,hgL,_,_⟩:=aL.at hk
 obtain⟨e,ee⟩:∃e,t.eyes[i]=e:=⟨_,rfl⟩
 obtain⟨l,el⟩:∃l,t.lights[k]=l:=⟨_,rfl⟩
 rw[ee,el] at q
 rw[ee] at ge hgE
 rw[el] at gl hgL
 have hgE3:X7 (oE+i*4) 3 csE=some [.ii e.s.x,.ii e.s.y,.ii e.s.z]:=getN_less hgE (k:=3) yab
 simp only[Zj] at hgL
 refine Zd (fd:=c139) rfl rfl rfl ?_
 have hbE:bE<h.next:=by obtain⟨_,h1⟩:=H.cells_eq hcE;exact hw _ _ h1
 have hbL:bL<h.next:=by obtain⟨_,h1⟩:=H.cells_eq hcL;exact hw _ _ h1
 simp(disch:=first|omega|simp only[nZ]<;>omega|fail)only[c139,go_sem,Zj,Zv,hqE (Ze i),hqL (Ze k),hcE,hcL,hgE3,hgL]
 refine Zh 3 (fun j s=>∃tm h',s=⟨tm,h',[]⟩∧h.Sub h'∧h'.cells (h.next+1+1)=some [.ii a.x,.ii a.y,.ii a.z]∧h'.cells (h.next+1+1+1)=some [.ii b.x,.ii b.y,.ii b.z]∧
   h'.cells (h.next+1+1+1+1)=some [.ii e.s.x,.ii e.s.y,.ii e.s.z]∧h'.cells (h.next+1+1+1+1+1)=some [.ii l.x,.ii l.y,.ii l.z]∧
   tm.E 6=.ptr (h.next+1+1) 0∧tm.E 7=.ptr (h.next+1+1+1) 0∧tm.E 9=.ptr (h.next+1+1+1+1) 0∧tm.E 10=.ptr (h.next+1+1+1+1+1) 0∧tm.E 11=.ii (part e.s l a b j)∧tm.E 12=.ii (j:Int))
  ?_ ?_ (i:=0) (Nat.zero_le _) ⟨_,_,rfl,yaa,by simp(disch:=first|omega|simp only[nZ]<;>omega|fail)only[go_sem],by simp(disch:=first|omega|simp only[nZ]<;>omega|fail)only[go_sem],by simp(disch:=first|omega|simp only[nZ]<;>omega|fail)only[go_sem],by simp(disch:=first|omega|simp only[nZ]<;>omega|fail)only[go_sem],yac,yac,yac,yac,(by simp[part]),yac⟩
 ·rintro j s hj ⟨tm,h',rfl,hs,r1,r2,r3,r4,t6,t7,t9,t10,t11,t12⟩
  have hj':(j:Int)<3:=by omega
  have na:=WA a hj
  have nb:=WA b hj
  have ne:=WA e.s hj
  have nl:=WA l hj
  simp only[Zj] at na nb ne nl
  have b1:=sd_bd ha hj
  have b2:=sd_bd hb hj
  have b3:=term_bd ge gl ha hb hj
  have b4:=part_bd ge gl ha hb j yab
  have b5:=b3.2
  unfold term at b5
  have st:part e.s l a b j+dif (a.at j) (b.at j)*e.s.at j*l.at j=part e.s l a b (j+1):=rfl
  have hda:=dif_abs (a.at j) (b.at j)
  by_cases hc:a.at j-b.at j<0
  ·rw[if_pos hc] at hda
   simp(disch:=first|omega|simp only[nZ]<;>omega|fail)only[go_sem,t6,t7,t9,t10,t11,t12,hj',YL (Ze j) hj,Nat.mul_one,r1,r2,r3,r4,na,nb,ne,nl,ZC,Zv,hc,hda,st,Zc]
   exact⟨_,_,rfl,hs,r1,r2,r3,r4,(by simp[t6]),(by simp[t7]),(by simp[t9]),(by simp[t10]),yac,yac⟩
  ·rw[if_neg hc] at hda
   have hdn:¬dif (a.at j) (b.at j)<0:=by omega
   simp(disch:=first|omega|simp only[nZ]<;>omega|fail)only[go_sem,t6,t7,t9,t10,t11,t12,hj',YL (Ze j) hj,Nat.mul_one,r1,r2,r3,r4,na,nb,ne,nl,ZC,Zv,hdn,hda,st,Zc]
   exact⟨_,_,rfl,hs,r1,r2,r3,r4,(by simp[t6]),(by simp[t7]),(by simp[t9]),(by simp[t10]),yac,yac⟩
 ·rintro s ⟨tm,h',rfl,hs,r1,r2,r3,r4,t6,t7,t9,t10,t11,t12⟩
  have hnl:¬((3:Nat):Int)<3:=by omega
  simp(disch:=first|omega|simp only[nZ]<;>omega|fail)only[go_sem,t6,t7,t9,t10,t11,t12,hnl]
  exact q _ hs
def ZO (t:Tb)(i:Nat)(a b:Sd):Bool:=(List.range t.lights.length).any fun k=>ZR t a b i k
theorem tellsAt_eq {t:Tb}{a b:Sd}{i k:Nat}(hi:i<t.eyes.length)(hk:k<t.lights.length):ZR t a b i k=decide (t.eyes[i].frm≤Wz t.eyes[i].s t.lights[k] a b):=by
 unfold ZR;rw[List.getElem?_eq_getElem hi,List.getElem?_eq_getElem hk]
theorem XL {p:Nat→Bool}(n:Nat):(List.range (n+1)).any p=((List.range n).any p||p n):=by
 rw[List.range_succ,List.any_append];simp
theorem any_range_hit {p:Nat→Bool}{n k:Nat}(h:k<n)(hp:p k=true):(List.range n).any p=true:=List.any_eq_true.2 ⟨k,List.mem_range.2 h,hp⟩
set_option maxHeartbeats 1000000 in
theorem refTells_ev {h:H}{v:V}{t:Tb}(hw:h.wf)(ht:ZK h v t)(g:Good t){i:Nat}(hi:i<t.eyes.length){a b:Sd}(ha:InS a 20)(hb:InS b 20)(Q:V→H→Prop)
  (q:∀h',h.Sub h'→Q (.bool (ZO t i a b)) h'):Ev fnG Zm (.fn 91 [] []) [v,.ii (i:Int),.agg (Zj a),.agg (Zj b)] h Q:=by
 have ht0:=ht
 obtain⟨E,L,P,rfl,aE,aL,aP⟩:=ht
 have hlL:=aL.lenE
 have bL:=aL.boundE
 refine Zd (fd:=c91) rfl rfl rfl ?_
 have s3:h.Sub (((h.add (.bk [E,L,P])).add (.bk [.ii a.x,.ii a.y,.ii a.z])).add (.bk [.ii b.x,.ii b.y,.ii b.z])):=yaa
 simp(disch:=first|omega|simp only[nZ]<;>omega|fail)only[c91,go_sem,Zj]
 refine Zh t.lights.length (fun k s=>∃tm h',s=⟨tm,h',[]⟩∧h.Sub h'∧h'.cells h.next=some [E,L,P]∧h'.cells (h.next+1)=some [.ii a.x,.ii a.y,.ii a.z]∧h'.cells (h.next+1+1)=some [.ii b.x,.ii b.y,.ii b.z]∧(List.range k).any (fun k=>ZR t a b i k)=false∧
   tm.E 1=.ii (i:Int)∧tm.E 4=.ptr h.next 0∧tm.E 6=.ptr (h.next+1) 0∧tm.E 7=.ptr (h.next+1+1) 0∧tm.E 9=.ii (k:Int))
  ?_ ?_ (i:=0) (Nat.zero_le _) ⟨_,_,rfl,s3,by simp(disch:=first|omega|simp only[nZ]<;>omega|fail)only[go_sem],by simp(disch:=first|omega|simp only[nZ]<;>omega|fail)only[go_sem],by simp(disch:=first|omega|simp only[nZ]<;>omega|fail)only[go_sem],rfl,yac,yac,yac,yac,yac⟩
 ·rintro k s hk ⟨tm,h',rfl,hs,r1,r2,r3,hno,t1,t4,t6,t7,t9⟩
  have hk':(k:Int)<(t.lights.length:Int):=by omega
  have hsee:=refSees_ev hs.wf (ht0.mono hs) g hi hk ha hb
  simp only[Zj] at hsee
  have hst:=XL (p:=fun k=>ZR t a b i k) k
  rw[hno,Bool.false_or] at hst
  have hte:=tellsAt_eq (t:=t) (a:=a) (b:=b) hi hk
  simp(disch:=first|omega|simp only[nZ]<;>omega|fail)only[go_sem,t1,t4,t6,t7,t9,r1,r2,r3,hlL,hk',Zv]
  refine hsee _ fun h2 s2=>?_
  have sA:=hs.trans s2
  obtain⟨bE,oE,cE,csE,eE,hcE,hqE,_,hnE,_⟩:=(aE.mono sA).at hi
  have hfr:nth (oE+i*4+3) csE=some (.ii t.eyes[i].frm):=by rw[hnE 3 yab];rfl
  have hcE1:h'.cells bE=some csE:=by
   obtain⟨bE',oE',cE',csE',eE',hcE',_⟩:=aE.at hi
   rw[eE] at eE';injection eE' with x1 x2;subst x1
   have e1:=sA.cells hcE'
   rw[hcE] at e1;cases e1
   exact hs.cells hcE'
  simp(disch:=first|omega|simp only[nZ]<;>omega|fail)only[go_sem,t1,t4,t6,t7,t9,r1,r2,r3,s2.cells r1,s2.cells r2,s2.cells r3,hqE (Ze i),hcE,hcE1,hfr,Zv]
  by_cases hc:t.eyes[i].frm≤Wz t.eyes[i].s t.lights[k] a b
  ·rw[decide_eq_true hc] at hte
   have:ZO t i a b=true:=any_range_hit hk hte
   rw[this] at q
   simp(disch:=first|omega|simp only[nZ]<;>omega|fail)only[go_sem,hc]
   exact q _ sA
  ·rw[decide_eq_false hc] at hte
   simp(disch:=first|omega|simp only[nZ]<;>omega|fail)only[go_sem,t1,t4,t6,t7,t9,hc,Zc]
   exact⟨_,_,rfl,sA,s2.cells r1,s2.cells r2,s2.cells r3,by first|(rw[hst];exact hte)|(rw[List.any_append,hno,Bool.false_or];simpa using hte),yah,(by simp[t4]),(by simp[t6]),(by simp[t7]),yac⟩
 ·rintro s ⟨tm,h',rfl,hs,r1,r2,r3,hno,t1,t4,t6,t7,t9⟩
  simp(disch:=first|omega|simp only[nZ]<;>omega|fail)only[go_sem,t1,t4,t6,t7,t9,r1,hlL,Int.lt_irrefl]
  have:ZO t i a b=false:=hno
  rw[this] at q
  exact q _ hs
theorem seesN_self (e l a:Sd):Wz e l a a=0:=by
 have:∀i,part e l a a i=0:=fun i=>by
  induction i with
  |zero=>rfl
  |succ i ih=>simp only[part,ih,term,dif];simp
 exact this 3
theorem apartK_nil (t:Tb)(a b:Sd):∀n,ZU t a b n=[]↔∀m,m<n→ZR t a b (m/t.lights.length) (m%t.lights.length)=false
 |0=>by simp[ZU]
 |n+1=>by
  have ih:=apartK_nil t a b n
  simp only[ZU,List.append_eq_nil_iff,ih]
  constructor
  ·rintro⟨h1,h2⟩ m hm
   by_cases e:m=n
   ·subst e
    cases hc:ZR t a b (m/t.lights.length) (m%t.lights.length)
    ·rfl
    ·rw[hc] at h2;simp at h2
   ·exact h1 m yab
  ·intro hh
   exact⟨fun m hm=>hh m yab,by rw[hh n yab];rfl⟩
theorem tells_self {t:Tb}(g:Good t)(a:Sd)(i k:Nat):ZR t a a i k=false:=by
 unfold ZR
 split
 ·rename_i e l he hl
  have:=(g.eye e (List.mem_of_getElem? he)).2.1
  rw[seesN_self];simp;omega
 ·rfl
theorem VG {t:Tb}(g:Good t)(a b:Sd):Yg t a b=ZU t a b (t.eyes.length*t.lights.length):=by
 unfold Yg
 split
 ·rename_i e
  subst e
  exact((apartK_nil t a a _).2 fun m _=>tells_self g a _ _).symm
 ·rfl
theorem VH {t:Tb}(g:Good t)(a b:Sd):alike t a b=true↔∀i k,i<t.eyes.length→k<t.lights.length→ZR t a b i k=false:=by
 unfold alike
 rw[List.isEmpty_iff,VG g,apartK_nil]
 constructor
 ·intro hh i k hi hk
  have:=hh (i*t.lights.length+k) (by
   have h1:=Nat.mul_le_mul_right t.lights.length hi
   rw[Nat.succ_mul] at h1;omega)
  have e1:(i*t.lights.length+k)/t.lights.length=i:=by rw[Nat.add_comm,Nat.add_mul_div_right _ _ yab,Nat.div_eq_of_lt hk,Nat.zero_add]
  have e2:(i*t.lights.length+k)%t.lights.length=k:=by rw[Nat.add_comm,Nat.add_mul_mod_self_right,Nat.mod_eq_of_lt hk]
  rwa[e1,e2] at this
 ·intro hh m hm
  have gl:=g.lights.1
  exact hh _ _ (Nat.div_lt_of_lt_mul (by rw[Nat.mul_comm];exact hm)) (Nat.mod_lt _ yab)
theorem alike_all {t:Tb}(g:Good t)(a b:Sd):alike t a b=(List.range t.eyes.length).all fun i=> !ZO t i a b:=by
 rw[Bool.eq_iff_iff,VH g,List.all_eq_true]
 constructor
 ·intro hh i hi
  have:ZO t i a b=false:=by
   unfold ZO
   rw[List.any_eq_false]
   intro k hk
   rw[hh i k (List.mem_range.1 hi) (List.mem_range.1 hk)];simp
  rw[this];rfl
 ·intro hh i k hi hk
  have h1:=hh i (List.mem_range.2 hi)
  cases hc:ZR t a b i k
  ·rfl
  ·have:ZO t i a b=true:=any_range_hit hk hc
   rw[this] at h1;simp at h1
theorem dif_comm (a b:Int):dif a b=dif b a:=by unfold dif;omega
theorem seesN_comm (e l a b:Sd):Wz e l a b=Wz e l b a:=by
 have:∀i,part e l a b i=part e l b a i:=fun i=>by
  induction i with
  |zero=>rfl
  |succ i ih=>simp only[part,ih,term,dif_comm (a.at i) (b.at i)]
 exact this 3
theorem tellsAt_comm (t:Tb)(a b:Sd)(i k:Nat):ZR t a b i k=ZR t b a i k:=by
 unfold ZR
 split
 ·rw[seesN_comm]
 ·rfl
theorem alike_comm {t:Tb}(g:Good t)(a b:Sd):alike t a b=alike t b a:=by
 rw[Bool.eq_iff_iff,VH g,VH g]
 constructor<;>intro hh i k hi hk<;>rw[tellsAt_comm]<;>exact hh i k hi hk
theorem alike_self {t:Tb}(g:Good t)(a:Sd):alike t a a=true:=(VH g a a).2 fun i k _ _=>tells_self g a i k
set_option maxHeartbeats 1000000 in
theorem X3 {h:H}{v:V}{t:Tb}(hw:h.wf)(ht:ZK h v t)(g:Good t){a b:Sd}(ha:InS a 20)(hb:InS b 20)(Q:V→H→Prop)
  (q:∀h',h.Sub h'→Q (.bool (alike t a b)) h'):Ev fnG Zm (.fn 126 [] []) [v,.agg (Zj a),.agg (Zj b)] h Q:=by
 have ht0:=ht
 obtain⟨E,L,P,rfl,aE,aL,aP⟩:=ht
 have hlE:=aE.lenE
 have bE:=aE.boundE
 rw[alike_all g] at q
 refine Zd (fd:=c126) rfl rfl rfl ?_
 have s3:h.Sub (((h.add (.bk [E,L,P])).add (.bk [.ii a.x,.ii a.y,.ii a.z])).add (.bk [.ii b.x,.ii b.y,.ii b.z])):=yaa
 simp(disch:=first|omega|simp only[nZ]<;>omega|fail)only[c126,go_sem,Zj]
 refine Zh t.eyes.length (fun k s=>∃tm h',s=⟨tm,h',[]⟩∧h.Sub h'∧h'.cells h.next=some [E,L,P]∧h'.cells (h.next+1)=some [.ii a.x,.ii a.y,.ii a.z]∧h'.cells (h.next+1+1)=some [.ii b.x,.ii b.y,.ii b.z]∧(∀i,i<k→ZO t i a b=false)∧
   tm.E 3=.ptr h.next 0∧tm.E 4=.ptr (h.next+1) 0∧tm.E 5=.ptr (h.next+1+1) 0∧tm.E 7=.ii (k:Int))
  ?_ ?_ (i:=0) (Nat.zero_le _) ⟨_,_,rfl,s3,by simp(disch:=first|omega|simp only[nZ]<;>omega|fail)only[go_sem],by simp(disch:=first|omega|simp only[nZ]<;>omega|fail)only[go_sem],by simp(disch:=first|omega|simp only[nZ]<;>omega|fail)only[go_sem],fun i hi=>by omega,yac,yac,yac,yac⟩
 ·rintro k s hk ⟨tm,h',rfl,hs,r1,r2,r3,hno,t3,t4,t5,t7⟩
  have hk':(k:Int)<(t.eyes.length:Int):=by omega
  have htl:=refTells_ev hs.wf (ht0.mono hs) g hk ha hb
  simp only[Zj] at htl
  simp(disch:=first|omega|simp only[nZ]<;>omega|fail)only[go_sem,t3,t4,t5,t7,r1,r2,r3,hlE,hk']
  refine htl _ fun h2 s2=>?_
  have sA:=hs.trans s2
  cases hc:ZO t k a b
  ·simp(disch:=first|omega|simp only[nZ]<;>omega|fail)only[go_sem,t3,t4,t5,t7,Zc]
   refine⟨_,_,rfl,sA,s2.cells r1,s2.cells r2,s2.cells r3,fun i hi=>?_,yam,(by simp[t4]),(by simp[t5]),yac⟩
   by_cases e:i=k
   ·subst e;exact hc
   ·exact hno i yab
  ·have:((List.range t.eyes.length).all fun i=> !ZO t i a b)=false:=by
    rw[List.all_eq_false];exact⟨k,List.mem_range.2 hk,by rw[hc];simp⟩
   rw[this] at q
   simp(disch:=first|omega|simp only[nZ]<;>omega|fail)only[go_sem]
   exact q _ sA
 ·rintro s ⟨tm,h',rfl,hs,r1,r2,r3,hno,t3,t4,t5,t7⟩
  have:((List.range t.eyes.length).all fun i=> !ZO t i a b)=true:=by
   rw[List.all_eq_true];intro i hi;rw[hno i (List.mem_range.1 hi)];rfl
  rw[this] at q
  simp(disch:=first|omega|simp only[nZ]<;>omega|fail)only[go_sem,t3,t4,t5,t7,r1,hlE,Int.lt_irrefl]
  exact q _ hs
end Go.Ab.Tryz
namespace Go.Ab.Tryz
structure IsD (n:Nat)(M:Nat→Nat→Bool)(s:Nat)(f:Nat→Option Nat):Prop where
 src:f s=some 0
 zero:∀p,f p=some 0→p=s
 step:∀p k,f p=some (k+1)→∃q,q<n∧f q=some k∧M q p=true
 close:∀p q k,p<n→f q=some k→M q p=true→∃j,f p=some j∧j≤k+1
 lt:∀p k,f p=some k→p<n
def Wk (n:Nat)(M:Nat→Nat→Bool):Nat→Nat→Nat→Prop
 |0,p,q=>p=q
 |k+1,p,q=>∃r,r<n∧Wk n M k p r∧M r q=true
theorem Wk.pre {n:Nat}{M:Nat→Nat→Bool}{p r:Nat}(hp:p<n)(hm:M p r=true):∀{k q},Wk n M k r q→Wk n M (k+1) p q
 |0,q,h=>⟨p,hp,rfl,by have:r=q:=h;rw[←this];exact hm⟩
 |k+1,q,⟨x,hx,h1,h2⟩=>⟨x,hx,Wk.pre hp hm h1,h2⟩
theorem Wk.rev {n:Nat}{M:Nat→Nat→Bool}(sy:∀p q,M p q=M q p):∀{k p q},q<n→Wk n M k p q→Wk n M k q p
 |0,p,q,_,h=>(show p=q from h).symm
 |k+1,p,q,hq,⟨r,hr,h1,h2⟩=>Wk.pre hq (by rw[sy];exact h2) (Wk.rev sy hr h1)
theorem IsD.walk {n:Nat}{M:Nat→Nat→Bool}{s:Nat}{f:Nat→Option Nat}(a:IsD n M s f):∀k p,f p=some k→Wk n M k s p
 |0,p,h=>(a.zero p h).symm
 |k+1,p,h=>by
  obtain⟨q,hq,h1,h2⟩:=a.step p k h
  exact⟨q,hq,a.walk k q h1,h2⟩
theorem IsD.le {n:Nat}{M:Nat→Nat→Bool}{s:Nat}{f:Nat→Option Nat}(a:IsD n M s f):∀k p,p<n→Wk n M k s p→∃j,f p=some j∧j≤k
 |0,p,_,h=>⟨0,by rw[←(show s=p from h)];exact a.src,Nat.le_refl _⟩
 |k+1,p,hp,⟨r,hr,h1,h2⟩=>by
  obtain⟨j,e,l⟩:=a.le k r hr h1
  obtain⟨i,e2,l2⟩:=a.close p r j hp e h2
  exact⟨i,e2,by omega⟩
theorem IsD.uniq {n:Nat}{M:Nat→Nat→Bool}{s:Nat}{f g:Nat→Option Nat}(a:IsD n M s f)(b:IsD n M s g)(p:Nat):f p=g p:=by
 have key:∀{f g},IsD n M s f→IsD n M s g→∀k,f p=some k→∃j,g p=some j∧j≤k:=fun a b k h=>b.le k p (a.lt p k h) (a.walk k p h)
 cases hf:f p with
 |none=>
  cases hg:g p with
  |none=>rfl
  |some k=>obtain⟨j,e,_⟩:=key b a k hg;rw[hf] at e;cases e
 |some k=>
  obtain⟨j,e,l⟩:=key a b k hf
  obtain⟨i,e2,l2⟩:=key b a j e
  rw[hf] at e2;cases e2
  rw[e,show j=k by omega]
theorem IsD.symm {n:Nat}{M:Nat→Nat→Bool}(sy:∀p q,M p q=M q p){s t:Nat}{f g:Nat→Option Nat}(a:IsD n M s f)(b:IsD n M t g):f t=g s:=by
 have hs:=a.lt s 0 a.src
 have ht:=b.lt t 0 b.src
 have key:∀{s t f g},IsD n M s f→IsD n M t g→∀k,f t=some k→∃j,g s=some j∧j≤k:=fun{s t f g} a b k h=>
  b.le k s (a.lt s 0 a.src) (Wk.rev sy (b.lt t 0 b.src) (a.walk k t h))
 cases hf:f t with
 |none=>
  cases hg:g s with
  |none=>rfl
  |some k=>obtain⟨j,e,_⟩:=key b a k hg;rw[hf] at e;cases e
 |some k=>
  obtain⟨j,e,l⟩:=key a b k hf
  obtain⟨i,e2,l2⟩:=key b a j e
  rw[hf] at e2;cases e2
  rw[e,show j=k by omega]
def lk (p:Nat):List (Nat × Nat)→Option Nat
 |[]=>none
 |e::l=>if p=e.1 then some e.2 else lk p l
theorem lk_mem {p k:Nat}:∀{l:List (Nat × Nat)},lk p l=some k→(p,k)∈l
 |[],h=>by cases h
 |e::l,h=>by
  unfold lk at h
  split at h
  ·rename_i e1;cases h;subst e1;exact List.mem_cons_self ..
  ·exact List.mem_cons_of_mem _ (lk_mem h)
theorem lk_none {p:Nat}:∀{l:List (Nat × Nat)},lk p l=none↔∀e∈l,e.1≠p
 |[]=>by simp[lk]
 |e::l=>by
  unfold lk
  split
  ·rename_i h;constructor
   ·intro h2;cases h2
   ·intro h2;exact absurd h.symm (h2 e (List.mem_cons_self ..))
  ·rename_i h
   rw[lk_none (l:=l)]
   constructor
   ·intro h2 e' he'
    rcases List.mem_cons.1 he' with rfl|h3
    ·exact fun h4=>h h4.symm
    ·exact h2 e' h3
   ·intro h2 e' he';exact h2 e' (List.mem_cons_of_mem _ he')
theorem Vu {p k:Nat}:∀{l:List (Nat × Nat)},(l.map (·.1)).Nodup→(p,k)∈l→lk p l=some k
 |[],_,h=>by simp at h
 |e::l,hn,h=>by
  rw[List.map_cons,List.nodup_cons] at hn
  unfold lk
  rcases List.mem_cons.1 h with rfl|h1
  ·simp
  ·rw[if_neg,Vu hn.2 h1]
   intro e1;exact hn.1 (List.mem_map.2 ⟨(p,k),h1,e1⟩)
theorem lk_append {p:Nat}(l r:List (Nat × Nat)):lk p (l++r)=match lk p l with|some k=>some k|none=>lk p r:=by
 induction l with
 |nil=>rfl
 |cons e l ih=>simp only[List.cons_append,lk];split<;>simp_all
structure Bfs (n:Nat)(M:Nat→Nat→Bool)(s:Nat)(es:List (Nat × Nat))(m c:Nat):Prop where
 nodup:(es.map (·.1)).Nodup
 lt:∀e∈es,e.1<n
 head:(s,0)∈es
 zero:∀e∈es,e.2=0→e.1=s
 sorted:∀i j (hi:i<es.length) (hj:j<es.length),i≤j→es[i].2≤es[j].2
 near:∀(h:m<es.length),∀e∈es,e.2≤es[m].2+1
 step:∀e∈es,∀k,e.2=k+1→∃q∈es,q.2=k∧M q.1 e.1=true
 close:∀i (hi:i<es.length),i<m→∀p,p<n→M es[i].1 p=true→∃e∈es,e.1=p∧e.2≤es[i].2+1
 part:∀(h:m<es.length),∀p,p<c→M es[m].1 p=true→∃e∈es,e.1=p∧e.2≤es[m].2+1
 ml:m≤es.length
 bd:∀i (hi:i<es.length),es[i].2≤i
theorem Bfs.init (n:Nat)(M:Nat→Nat→Bool){s:Nat}(hs:s<n):Bfs n M s [(s,0)] 0 0:=
 {nodup:=by simp
  lt:=fun e he=>by rw[List.mem_singleton] at he;subst he;exact hs
  head:=List.mem_singleton_self _
  zero:=fun e he _=>by rw[List.mem_singleton] at he;subst he;rfl
  sorted:=fun i j hi hj _=>by
   have hi':i=0:=by simp at hi;omega
   have hj':j=0:=by simp at hj;omega
   subst hi';subst hj';exact Nat.le_refl _
  near:=fun h e he=>by rw[List.mem_singleton] at he;subst he;exact Nat.zero_le _
  step:=fun e he k hk=>by rw[List.mem_singleton] at he;subst he;cases hk
  close:=fun i hi h=>by omega
  part:=fun h p hp=>by omega
  ml:=Nat.zero_le _
  bd:=fun i hi=>by
   have hi':i=0:=by simp at hi;omega
   subst hi';exact Nat.le_refl _}
theorem Bfs.skip {n:Nat}{M:Nat→Nat→Bool}{s:Nat}{es:List (Nat × Nat)}{m c:Nat}(a:Bfs n M s es m c)(h:m<es.length)(hc:lk c es≠none∨M es[m].1 c=false):Bfs n M s es m (c+1):=by
 refine⟨a.nodup,a.lt,a.head,a.zero,a.sorted,a.near,a.step,a.close,fun h p hp hM=>?_,a.ml,a.bd⟩
 by_cases e:p=c
 ·subst e
  rcases hc with hc|hc
  ·cases hl:lk p es with
   |none=>exact absurd hl hc
   |some k=>exact⟨(p,k),lk_mem hl,rfl,a.near h _ (lk_mem hl)⟩
  ·rw[hc] at hM;cases hM
 ·exact a.part h p yab hM
theorem Bfs.add {n:Nat}{M:Nat→Nat→Bool}{s:Nat}{es:List (Nat × Nat)}{m c:Nat}(a:Bfs n M s es m c)(h:m<es.length)(hcn:c<n)(h1:lk c es=none)(h2:M es[m].1 c=true):Bfs n M s (es++[(c,es[m].2+1)]) m (c+1):=by
 have hm':m<(es++[(c,es[m].2+1)]).length:=by rw[List.length_append];omega
 have em:(es++[(c,es[m].2+1)])[m]=es[m]:=List.getElem_append_left h
 refine⟨?_,?_,List.mem_append_left _ a.head,?_,?_,?_,?_,?_,?_,by rw[List.length_append];have:=a.ml;omega,fun i hi=>?_⟩
 ·rw[List.map_append,List.nodup_append]
  refine⟨a.nodup,by simp,fun x hx y hy e=>?_⟩
  simp at hy
  obtain⟨e',he',rfl⟩:=List.mem_map.1 hx
  exact lk_none.1 h1 e' he' (by rw[e,hy])
 ·intro e he
  rcases List.mem_append.1 he with h'|h'
  ·exact a.lt e h'
  ·rw[List.mem_singleton] at h';subst h';exact hcn
 ·intro e he hz
  rcases List.mem_append.1 he with h'|h'
  ·exact a.zero e h' hz
  ·rw[List.mem_singleton] at h';subst h';cases hz
 ·intro i j hi hj hij
  rw[List.length_append,List.length_singleton] at hi hj
  by_cases h3:j<es.length
  ·rw[List.getElem_append_left yab,List.getElem_append_left h3];exact a.sorted i j yab h3 hij
  ·have ej:(es++[(c,es[m].2+1)])[j]=(c,es[m].2+1):=by
    have:j=es.length:=by omega
    subst this;simp
   rw[ej]
   by_cases h4:i<es.length
   ·rw[List.getElem_append_left h4];exact a.near h _ (List.getElem_mem h4)
   ·have ei:(es++[(c,es[m].2+1)])[i]=(c,es[m].2+1):=by
     have:i=es.length:=by omega
     subst this;simp
    rw[ei];exact Nat.le_refl _
 ·intro h' e he
  rw[em]
  rcases List.mem_append.1 he with h3|h3
  ·exact a.near h e h3
  ·rw[List.mem_singleton] at h3;subst h3;exact Nat.le_refl _
 ·intro e he k hk
  rcases List.mem_append.1 he with h3|h3
  ·obtain⟨q,hq,h4⟩:=a.step e h3 k hk
   exact⟨q,List.mem_append_left _ hq,h4⟩
  ·rw[List.mem_singleton] at h3;subst h3
   exact⟨es[m],List.mem_append_left _ (List.getElem_mem h),by simp only at hk;omega,h2⟩
 ·intro i hi him p hp hM
  have hil:i<es.length:=by omega
  rw[List.getElem_append_left hil] at hM⊢
  obtain⟨e,he,h3⟩:=a.close i hil him p hp hM
  exact⟨e,List.mem_append_left _ he,h3⟩
 ·intro h' p hp hM
  rw[em] at hM⊢
  by_cases e:p=c
  ·subst e;exact⟨(p,es[m].2+1),by simp,rfl,Nat.le_refl _⟩
  ·obtain⟨e',he',h3⟩:=a.part h p yab hM
   exact⟨e',List.mem_append_left _ he',h3⟩
 ·rw[List.length_append,List.length_singleton] at hi
  by_cases h4:i<es.length
  ·rw[List.getElem_append_left h4];exact a.bd i h4
  ·have ei:(es++[(c,es[m].2+1)])[i]=(c,es[m].2+1):=by
    have:i=es.length:=by omega
    subst this;simp
   rw[ei]
   have:=a.bd m h
   show es[m].2+1≤i
   omega
theorem Bfs.next {n:Nat}{M:Nat→Nat→Bool}{s:Nat}{es:List (Nat × Nat)}{m:Nat}(a:Bfs n M s es m n)(h:m<es.length):Bfs n M s es (m+1) 0:=by
 refine⟨a.nodup,a.lt,a.head,a.zero,a.sorted,fun h' e he=>?_,a.step,fun i hi him p hp hM=>?_,fun h' p hp=>by omega,by omega,a.bd⟩
 ·have h1:=a.near h e he
  have h2:=a.sorted m (m+1) h h' yab
  omega
 ·by_cases e:i=m
  ·subst e;exact a.part h p hp hM
  ·exact a.close i hi yab p hp hM
theorem Bfs.done {n:Nat}{M:Nat→Nat→Bool}{s:Nat}{es:List (Nat × Nat)}{c:Nat}(a:Bfs n M s es es.length c):IsD n M s fun p=>lk p es:=by
 refine⟨Vu a.nodup a.head,fun p h=>a.zero _ (lk_mem h) rfl,fun p k h=>?_,fun p q k hp h hM=>?_,fun p k h=>a.lt _ (lk_mem h)⟩
 ·obtain⟨q,hq,h1,h2⟩:=a.step _ (lk_mem h) k rfl
  exact⟨q.1,a.lt q hq,Vu a.nodup (by rw[←h1];exact hq),h2⟩
 ·obtain⟨i,hi,e⟩:=List.getElem_of_mem (lk_mem h)
  obtain⟨e',he',h1,h2⟩:=a.close i hi hi p hp (by rw[e];exact hM)
  rw[e] at h2
  exact⟨e'.2,Vu a.nodup (by rw[←h1];exact he'),h2⟩
theorem nodup_le:∀(n:Nat) (l:List Nat),l.Nodup→(∀x∈l,x<n)→l.length≤n
 |0,l,_,h=>by
  cases l with
  |nil=>exact Nat.le_refl _
  |cons a l=>have:=h a (List.mem_cons_self ..);omega
 |n+1,l,hn,h=>by
  have h1:=nodup_le n (l.erase n) (hn.erase n) fun x hx=>by
   have h2:=h x (List.mem_of_mem_erase hx)
   have h3:x≠n:=fun e=>by subst e;exact(hn.not_mem_erase) hx
   omega
  have h2:=List.length_erase_le (a:=n) (l:=l)
  by_cases hm:n∈l
  ·rw[List.length_erase_of_mem hm] at h1;omega
  ·rw[List.erase_of_not_mem hm] at h1;omega
theorem Bfs.len {n:Nat}{M:Nat→Nat→Bool}{s:Nat}{es:List (Nat × Nat)}{m c:Nat}(a:Bfs n M s es m c):es.length≤n:=by
 have h1:=nodup_le n (es.map (·.1)) a.nodup fun x hx=>by
  obtain⟨e,he,rfl⟩:=List.mem_map.1 hx
  exact a.lt e he
 simpa using h1
theorem IsD.path {n:Nat}{M:Nat→Nat→Bool}{s:Nat}{f:Nat→Option Nat}(a:IsD n M s f):∀k p,f p=some k→∃l:List Nat,l.length=k+1∧l.Nodup∧∀x∈l,x<n∧∃j,j≤k∧f x=some j
 |0,p,h=>⟨[p],rfl,by simp,fun x hx=>by rw[List.mem_singleton] at hx;subst hx;exact⟨a.lt _ _ h,0,Nat.le_refl _,h⟩⟩
 |k+1,p,h=>by
  obtain⟨q,hq,h1,h2⟩:=a.step p k h
  obtain⟨l,l1,l2,l3⟩:=a.path k q h1
  refine⟨p::l,by simp[l1],List.nodup_cons.2 ⟨fun hp=>?_,l2⟩,fun x hx=>?_⟩
  ·obtain⟨_,j,hj,e⟩:=l3 p hp
   rw[h] at e;cases e;omega
  ·rcases List.mem_cons.1 hx with rfl|hx
   ·exact⟨a.lt _ _ h,k+1,Nat.le_refl _,h⟩
   ·obtain⟨hl,j,hj,e⟩:=l3 x hx
    exact⟨hl,j,by omega,e⟩
theorem IsD.bd {n:Nat}{M:Nat→Nat→Bool}{s:Nat}{f:Nat→Option Nat}(a:IsD n M s f){k p:Nat}(h:f p=some k):k<n:=by
 obtain⟨l,l1,l2,l3⟩:=a.path k p h
 have:=nodup_le n l l2 fun x hx=>(l3 x hx).1
 omega
end Go.Ab.Tryz
namespace Go.Ab
noncomputable def XU (h:H)(sz:Nat)(x k:V):Option V:=YD .nil h sz x (some (.c k)) none none
theorem WB (tm:T V)(h:H)(sz:Nat)(x:V)(y:Opd):YD tm h sz x (some y) none none=XU h sz x (y.ev tm):=rfl
theorem preV_app:∀(l r:List V),preV l (l++r)=true
 |[],_=>rfl
 |v::l,r=>by simp only[List.cons_append,preV,vbeq_refl,preV_app l r]
namespace Tryz
def QAt (h0 h:H)(x:V)(l:List Int):Prop:=h0.Sub h∧
 ((∃b o cs,x=.sl b o l.length (.fix l.length)∧h0.next≤b∧b<h.next∧h.get b=some (.bk cs)∧(l.length≠0→(cs.drop o).take l.length=l.map iv∧o+l.length≤cs.length))∨
  (∃b a q cs,x=.sl b a l.length (.slk a q)∧h0.next≤b∧b<h.next∧h.get b=some (.cells (.gr 1) cs)∧cs.drop a=l.map iv∧a+l.length=cs.length))
theorem QAt.mono {h0 h h':H}{x:V}{l:List Int}(a:QAt h0 h x l)(s:h.Sub h'):QAt h0 h' x l:=by
 obtain⟨a0,a1⟩:=a
 refine⟨a0.trans s,?_⟩
 have:=s.next
 rcases a1 with⟨b,o,cs,e,l1,l2,g,r⟩|⟨b,o,q,cs,e,l1,l2,g,r⟩
 ·exact .inl ⟨b,o,cs,e,l1,by omega,s.get g,r⟩
 ·exact .inr ⟨b,o,q,cs,e,l1,by omega,s.get g,r⟩
theorem QAt.keep {h0 h h':H}{S:Nat→Prop}{x:V}{l:List Int}(a:QAt h0 h x l)(k:Zi S h h')(s:h0.Sub h')(n:∀b,Zk x b→¬S b):QAt h0 h' x l:=by
 obtain⟨a0,a1⟩:=a
 refine⟨s,?_⟩
 have:=k.1
 rcases a1 with⟨b,o,cs,e,l1,l2,g,r⟩|⟨b,o,q,cs,e,l1,l2,g,r⟩
 ·exact .inl ⟨b,o,cs,e,l1,by omega,k.2 _ _ g (n b ⟨_,_,_,e⟩),r⟩
 ·exact .inr ⟨b,o,q,cs,e,l1,by omega,k.2 _ _ g (n b ⟨_,_,_,e⟩),r⟩
theorem map_flat (l:List Int):(l.map encI).flatten=l.map iv:=by
 induction l with
 |nil=>rfl
 |cons a l ih=>simp only[List.map_cons,List.flatten_cons,ih,encI];rfl
theorem QAt.sl {h0 h:H}{x:V}{l:List Int}(a:QAt h0 h x l)(hl:l.length≤1000000):Zg h x 1 (l.map encI):=by
 obtain⟨a0,a1⟩:=a
 have hsz:∀r∈l.map encI,r.length=1:=by simp[encI]
 refine⟨hsz,by simp;omega,?_⟩
 rcases a1 with⟨b,o,cs,e,l1,l2,g,r⟩|⟨b,o,q,cs,e,l1,l2,g,r1,r2⟩
 ·by_cases h0:l.length=0
  ·have:l=[]:=List.length_eq_zero_iff.1 h0
   subst this
   exact .inr ⟨b,o,_,cs,e,.inl rfl,by simp[X7,takeN,dropN]⟩
  ·obtain⟨r1,r2⟩:=r h0
   exact .inr ⟨b,o,_,cs,by rw[e,List.length_map],.inr (Zb g),Z2.2 ⟨by rw[List.length_map,Nat.mul_one,r1,map_flat],by rw[List.length_map];omega⟩⟩
 ·exact .inr ⟨b,o,_,cs,by rw[e,List.length_map],.inr (Zb g),Z2.2 ⟨by rw[List.length_map,Nat.mul_one,r1,map_flat,←List.length_map (f:=iv),List.take_length],by rw[List.length_map];omega⟩⟩
theorem QAt.blk {h0 h:H}{x:V}{l:List Int}(a:QAt h0 h x l){b:Nat}(hb:Zk x b):h0.next≤b∧b<h.next∧∃k cs,h.get b=some (.cells k cs):=by
 obtain⟨_,_,_,rfl⟩:=hb
 rcases a.2 with⟨b,o,cs,e,l1,l2,g,r⟩|⟨b,o,q,cs,e,l1,l2,g,r1,r2⟩
 ·cases e;exact⟨l1,l2,_,_,g⟩
 ·cases e;exact⟨l1,l2,_,_,g⟩
theorem QAt.tail {h0 h:H}{x:V}{v:Int}{l:List Int}(a:QAt h0 h x (v::l)):∃y,XU h 1 x (.ii 1)=some y∧QAt h0 h y l∧∀b,Zk y b→Zk x b:=by
 obtain⟨a0,a1⟩:=a
 have hi:∀tm:T V,(Opd.c (.ii 1)).ev tm=.ii 1:=fun _=>rfl
 have e1:Nat.ble 1 (l.length+1)=true:=by simp
 have e2:Nat.ble (l.length+1) (l.length+1)=true:=by simp
 have hn:natK? (.ii 1)=some 1:=rfl
 have hb3:bnds 1 (l.length+1) (l.length+1)=true:=by simp only[bnds,e1,e2]
 rcases a1 with⟨b,o,cs,e,l1,l2,g,r⟩|⟨b,o,q,cs,e,l1,l2,g,r1,r2⟩
 ·have e':x=.sl b o (l.length+1) (.fix (l.length+1)):=e
  subst e'
  obtain⟨r1,r2⟩:=r yac
  refine⟨.sl b (YU (Nat.beq (l.length+1) 1) o (o+1*1)) l.length (.fix l.length),?_,?_,?_⟩
  ·simp only[XU,YD,XI,XA,hi,hn,hb3,Zy,e2,subO,sub,Nat.add_sub_cancel]
  ·refine⟨a0,.inl ⟨b,_,cs,rfl,l1,l2,g,fun h0=>?_⟩⟩
   have hne:Nat.beq (l.length+1) 1=false:=by
    cases hb:Nat.beq (l.length+1) 1 with
    |false=>rfl
    |true=>have:=Nat.eq_of_beq_eq_true hb;omega
   rw[hne,bsel_false,Nat.mul_one]
   simp only[List.length_cons,List.map_cons] at r1 r2
   have h3:(cs.drop (o+1)).take l.length=((cs.drop o).take (l.length+1)).drop 1:=by rw[List.drop_take,List.drop_drop];simp
   exact⟨by rw[h3,r1];rfl,by omega⟩
  ·rintro b' ⟨_,_,_,e⟩;cases e;exact⟨_,_,_,rfl⟩
 ·have e':x=.sl b o (l.length+1) (.slk o q):=e
  subst e'
  simp only[List.length_cons] at r2
  have e4:Nat.blt 0 (l.length+1+(l.length+1))=true:=by rw[Nat.blt_eq];omega
  have e5:Nat.beq o (o*1)=true:=by simp
  have e7:Nat.ble (o+(l.length+1)*1) cs.length=true:=by simp;omega
  have e6:Nat.beq 1 1=true:=rfl
  have e8:Yj h b o 1=l.length+1:=by simp only[Yj,g,ZE,Nat.div_one];omega
  refine⟨.sl b (o+1*1) (l.length+1-1) (.slk (o+1) o),?_,?_,?_⟩
  ·simp only[XU,YD,W5,g,ZE,e5,e6,e7,Zy,e8,XI,XA,hi,hn,hb3,e2,subS,e4]
  ·refine⟨a0,.inr ⟨b,o+1,o,cs,by simp,l1,l2,g,?_,by omega⟩⟩
   have:cs.drop (o+1)=(cs.drop o).drop 1:=by rw[List.drop_drop]
   rw[this,r1];rfl
  ·rintro b' ⟨_,_,_,e⟩;cases e;exact⟨_,_,_,rfl⟩
theorem QAt.push {h0 h:H}{x y:V}{l:List Int}{v:Int}{Q:V→H→Prop}(a:QAt h0 h x l)(hw0:h0.wf)(hl:l.length≤1000)(hy:Zg h y 1 [[iv v]])
  (q:∀h',QAt h0 h' (.sl h.next 0 (l.length+1) (.slk 0 0)) (l++[v])→Zi (Zk x) h h'→h'.next=h.next+1→
   (∀b o v0 l',(∃n c,x=.sl b o n c)→l=v0::l'→∀hh:H,hh.get b=h'.get b→hh.get h.next=h'.get h.next→ldC (hh.cells b) (ldOld hh b false 1 o) false 1 o=some (iv v0))→Q (.sl h.next 0 (l.length+1) (.slk 0 0)) h'):P2 (Z8 h 1 8 x y) Q:=by
 have hel:=(a.sl yab).elems
 have hey:=hy.elems
 obtain⟨a0,a1⟩:=a
 have hne:l.map iv++[iv v]=(l++[v]).map iv:=by simp
 rw[Yy,hey.1,hey.2]
 simp only[YI,List.length_singleton,List.flatten_cons,List.flatten_nil,List.append_nil]
 have ho:ZF [iv v]=true:=rfl
 rcases a1 with⟨b,o,cs,rfl,l1,l2,g,r⟩|⟨b,o,qq,cs,rfl,l1,l2,g,r1,r2⟩
 ·rw[map_flat] at hel
  rw[Xl yab hel.1 yab yab,XD,ZN]
  refine q _ ⟨a0.add _,.inr ⟨h.next,0,0,_,by simp,a0.next,by rw[H.next_add];omega,Zn rfl,by rw[List.drop_zero,hne],by simp⟩⟩ ⟨by rw[H.next_add];omega,fun c z hc _=>by rw[ZW (a0.wf c z hc)];exact hc⟩ (H.next_add _ _) ?_
  rintro b' o' v0 l' ⟨n,c,e⟩ el hh hb hn
  cases e
  obtain⟨r1,r2⟩:=r (by rw[el];simp)
  have hc:hh.cells b=some cs:=Zb (by rw[hb,ZW l2];exact g)
  rw[hc,ldC_false,nth_eq]
  have h1:((cs.drop o).take l.length)[0]? =cs[o]? :=by
   rw[List.getElem?_take_of_lt (by rw[el];simp),List.getElem?_drop,Nat.add_zero]
  rw[←h1,r1,el];rfl
 ·have e5:Nat.beq o (o*1)=true:=by simp
  have e6:Nat.beq 1 1=true:=rfl
  have e7:Nat.ble (o+(l.length+(0+1))*1) cs.length=false:=by
   cases hb:Nat.ble (o+(l.length+(0+1))*1) cs.length with
   |false=>rfl
   |true=>have:=Nat.le_of_ble_eq_true hb;omega
  have e8:Nat.beq cs.length (o+l.length*1)=true:=by simp;omega
  have er:XF h 1 8 (.sl b o l.length (.slk o qq)) (0+1) [iv v]=some (Vi h b o 1 (l.length+(0+1)) (cs.drop o) (cs.drop o++[iv v])):=by
   simp only[XF,appSlk,g,ZE,e5,e6,e7,e8,Zy,ho,room_ok (show(l.length+(0+1))*8≤1099511627776 by omega) (show l.length+(0+1)≤1099511627776 by omega),dropN_eq,ZY]
  rw[show(1:Nat)=0+1 from rfl] at *
  rw[er,grownO_eq,ZN]
  have hbn:h.next≠b:=by omega
  refine q _ ⟨(a0.add _).set l1 (by rw[H.next_add];omega) hw0 _,.inr ⟨h.next,0,0,_,by simp,a0.next,by rw[H.next_set,H.next_add];omega,by rw[get_set_other hbn,Zn rfl],by rw[List.drop_zero,r1,hne],by rw[r1,hne];simp⟩⟩
   ⟨by rw[H.next_set,H.next_add];omega,fun c z hc hx=>by
    have hne:c≠b:=fun e=>hx ⟨_,_,_,by rw[e]⟩
    rw[get_set_other hne,ZW (a0.wf c z hc)];exact hc⟩ (by rw[H.next_set,H.next_add]) ?_
  rintro b' o' v0 l' ⟨n,c,e⟩ el hh hb hn
  cases e
  rw[get_set_same rfl] at hb
  rw[get_set_other hbn,Zn rfl] at hn
  have hc:hh.cells b=none:=by simp only[H.cells,hb]
  have hd:cs.drop o=iv v0::l'.map iv:=by rw[r1,el];rfl
  rw[hc]
  have hbl:Nat.ble o o=true:=by simp
  simp only[ldC,ldOld,hb,hn,preV_app,hbl,Nat.sub_self,Ym,hd,nth]
end Tryz
end Go.Ab
