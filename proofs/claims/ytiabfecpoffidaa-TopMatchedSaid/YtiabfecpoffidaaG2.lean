/- The reference's table, and its errors. Nothing is looked up here: each function is walked. Contracts of the generic functions, instance by instance (printed by a program of ours). Tables of eyes, lights and pieces: what they are, check, opened. Tables copied and compared; the reference's table. What eyes see: greatest, sees, looks, look, apart, alike, match. Looks, one after the other; those that tell two shades apart. look, alike, match. Sees, Apart, Match, Scrap. Prices: contracts of the small functions; rules that name a shade alone. Prices: the rules that count, and the price. -/
import Derived.Test.YtiabfecpoffidaaOk
import Derived.Test.YtiabfecpoffidaaAc2
import Derived.Test.YtiabfecpoffidaaAc8
import Derived.Test.YtiabfecpoffidaaAc7
set_option linter.unusedSimpArgs false
set_option linter.unusedVariables false
namespace Go.Ab.Try
open Go.Proofs
noncomputable def fastA (f:Nat):Option (List V→H→Option (V × H)):=none
end Go.Ab.Try
namespace Go.Ab.Try
abbrev E (fv:V) (args:List V) (h:H) (Q:V→H→Prop):Prop:=Ev fnG fastA fv args h Q
abbrev PureA (h:H) (fv:V) (args:List V) (v:V):Prop:=Pure fnG fastA h fv args v
def encI (n:Int):List V:=[.int .i64 n]
def fidx {α:Type}(p:α→Bool):List α→Nat→Int
 |[],_=> -1
 |r::l,i=>if p r then(i:Int) else fidx p l (i+1)
theorem fidx_hit {α:Type}{p:α→Bool}{l:List α}{i:Nat}(hi:i<l.length)(h:p l[i]=true):fidx p (l.drop i) i=(i:Int):=by
 rw[List.drop_eq_getElem_cons hi];simp[fidx,h]
theorem fidx_miss {α:Type}{p:α→Bool}{l:List α}{i:Nat}(hi:i<l.length)(h:p l[i]=false):fidx p (l.drop i) i=fidx p (l.drop (i+1)) (i+1):=by
 rw[List.drop_eq_getElem_cons hi];simp[fidx,h]
theorem fidx_any {α:Type}(p:α→Bool):∀(l:List α) (i:Nat),decide (0≤fidx p l i)=l.any p
 |[],i=>by simp[fidx]
 |r::l,i=>by
  have ih:=fidx_any p l (i+1)
  simp only[fidx,List.any_cons]
  by_cases h:p r=true
  ·simp[h]
  ·simpa[h] using ih
theorem any_not {α:Type}(p:α→Bool)(l:List α):(!l.any fun a=> !p a)=l.all p:=by
 induction l with
 |nil=>rfl
 |cons a l ih=>simp only[List.any_cons,List.all_cons,←ih,Bool.not_or,Bool.not_not]
theorem indexFuncEye_ev {α:Type}{enc:α→List V}{l:List α}{p:α→Bool}{h:H}{x f:V}(hw:h.wf)(hx:SlAt h x 4 (l.map enc))(hp:∀a∈l,PureA h f [.agg (enc a)] (.bool (p a))):
  E (.fn 80 [] []) [x,f] h fun v h'=>v=.int .i64 (fidx p l 0)∧h.Sub h':=by
 have hb:=hx.boundE
 refine Ev_body (fd:=c80) rfl rfl rfl ?_
 simp(disch:=first|omega|simp only[nZ]<;>omega|fail)only[c80,go_sem,hx.lenE]
 refine W_count l.length (fun i s=>∃tm h',s=⟨tm,h',[]⟩∧h.Sub h'∧(Opd.t 0).ev tm=x∧(Opd.t 1).ev tm=f∧(Opd.t 7).ev tm=.int .i64 (l.length:Int)∧(Opd.t 8).ev tm=.int .i64 (i:Int)∧fidx p l 0=fidx p (l.drop i) i)
  ?_ ?_ (i:=0) (Nat.zero_le _) ⟨_,_,rfl,H.Sub.refl hw,(by simp),(by simp),(by simp),(by simp only[ev_put];rfl),rfl⟩
 ·rintro i s hi ⟨tm,h',rfl,hs,e0,e1,e7,e8,e9⟩
  have hi':(i:Int)<(l.length:Int):=by omega
  obtain⟨b,o,c,cs,rfl,hc,hq,hg,hn,hn0⟩:=(hx.mono hs).at hi
  simp(disch:=first|omega|simp only[nZ]<;>omega|fail)only[go_sem,e0,e1,e7,e8,hi',hq (nat_cst i),hc,hg]
  refine(hp _ (List.getElem_mem hi)).use hs fun h2 hs2=>?_
  cases hpr:p l[i] with
  |true=>
   simp(disch:=first|omega|simp only[nZ]<;>omega|fail)only[go_sem,e0,e1,e7,e8]
   exact⟨by rw[e9,fidx_hit hi hpr],hs.trans hs2⟩
  |false=>
   simp(disch:=first|omega|simp only[nZ]<;>omega|fail)only[go_sem,e0,e1,e7,e8,wr_succ]
   exact⟨_,_,rfl,hs.trans hs2,(by simp[e0]),(by simp[e1]),(by simp[e7]),(by simp),by rw[e9,fidx_miss hi hpr]⟩
 ·rintro s ⟨tm,h',rfl,hs,e0,e1,e7,e8,e9⟩
  simp(disch:=first|omega|simp only[nZ]<;>omega|fail)only[go_sem,e0,e1,e7,e8,Int.lt_irrefl]
  exact⟨by rw[e9];simp[fidx],hs⟩
theorem containsFuncEye_ev {α:Type}{enc:α→List V}{l:List α}{p:α→Bool}{h:H}{x f:V}(hw:h.wf)(hx:SlAt h x 4 (l.map enc))(hp:∀a∈l,PureA h f [.agg (enc a)] (.bool (p a))):
  E (.fn 68 [] []) [x,f] h fun v h'=>v=.bool (l.any p)∧h.Sub h':=by
 refine Ev_body (fd:=c68) rfl rfl rfl ?_
 simp(disch:=first|omega|simp only[nZ]<;>omega|fail)only[c68,go_sem]
 refine(indexFuncEye_ev hw hx hp).mono fun v h' hv=>?_
 obtain⟨rfl,hs⟩:=hv
 simp(disch:=first|omega|simp only[nZ]<;>omega|fail)only[go_sem]
 exact⟨by rw[fidx_any],hs⟩
theorem everyEye_ev {α:Type}{enc:α→List V}{l:List α}{p:α→Bool}{h:H}{x:V}{g:FuncId}{u w:List V}(hw:h.wf)(hx:SlAt h x 4 (l.map enc))(hp:∀a∈l,PureA h (.fn g u w) [.agg (enc a)] (.bool (p a))):
  E (.fn 52 [] []) [x,.fn g u w] h fun v h'=>v=.bool (l.all p)∧h.Sub h':=by
 refine Ev_body (fd:=c52) rfl rfl rfl ?_
 simp(disch:=first|omega|simp only[nZ]<;>omega|fail)only[c52,go_sem]
 have hs1:h.Sub (h.add (.cells .rw [.fn g u w])):=(H.Sub.refl hw).add _
 refine(containsFuncEye_ev (p:=fun a=> !p a) hs1.wf (hx.mono hs1) fun a ha h2 hs2=>?_).mono fun v h' hv=>?_
 ·have hc:h2.cells h.next=some [.fn g u w]:=hs2.cells (cells_add_new rfl)
  have hl:h.next<h2.next:=by have:=hs2.next;rw[H.next_add] at this;omega
  refine Ev_body (fd:=c69) rfl rfl rfl ?_
  simp(disch:=first|omega|simp only[nZ]<;>omega|fail)only[c69,go_sem,hc,getN_full (hx.1 _ (List.mem_map_of_mem ha))]
  refine((hp a ha).mono hs1).use (hs2.add _) fun h3 hs3=>?_
  simp(disch:=first|omega|simp only[nZ]<;>omega|fail)only[go_sem]
  exact(H.Sub.refl hs2.wf).add _ |>.trans hs3
 ·obtain⟨rfl,hs⟩:=hv
  simp(disch:=first|omega|simp only[nZ]<;>omega|fail)only[go_sem]
  exact⟨by rw[any_not],hs1.trans hs⟩
theorem indexFuncLight_ev {α:Type}{enc:α→List V}{l:List α}{p:α→Bool}{h:H}{x f:V}(hw:h.wf)(hx:SlAt h x 3 (l.map enc))(hp:∀a∈l,PureA h f [.agg (enc a)] (.bool (p a))):
  E (.fn 81 [] []) [x,f] h fun v h'=>v=.int .i64 (fidx p l 0)∧h.Sub h':=by
 have hb:=hx.boundE
 refine Ev_body (fd:=c81) rfl rfl rfl ?_
 simp(disch:=first|omega|simp only[nZ]<;>omega|fail)only[c81,go_sem,hx.lenE]
 refine W_count l.length (fun i s=>∃tm h',s=⟨tm,h',[]⟩∧h.Sub h'∧(Opd.t 0).ev tm=x∧(Opd.t 1).ev tm=f∧(Opd.t 7).ev tm=.int .i64 (l.length:Int)∧(Opd.t 8).ev tm=.int .i64 (i:Int)∧fidx p l 0=fidx p (l.drop i) i)
  ?_ ?_ (i:=0) (Nat.zero_le _) ⟨_,_,rfl,H.Sub.refl hw,(by simp),(by simp),(by simp),(by simp only[ev_put];rfl),rfl⟩
 ·rintro i s hi ⟨tm,h',rfl,hs,e0,e1,e7,e8,e9⟩
  have hi':(i:Int)<(l.length:Int):=by omega
  obtain⟨b,o,c,cs,rfl,hc,hq,hg,hn,hn0⟩:=(hx.mono hs).at hi
  simp(disch:=first|omega|simp only[nZ]<;>omega|fail)only[go_sem,e0,e1,e7,e8,hi',hq (nat_cst i),hc,hg]
  refine(hp _ (List.getElem_mem hi)).use hs fun h2 hs2=>?_
  cases hpr:p l[i] with
  |true=>
   simp(disch:=first|omega|simp only[nZ]<;>omega|fail)only[go_sem,e0,e1,e7,e8]
   exact⟨by rw[e9,fidx_hit hi hpr],hs.trans hs2⟩
  |false=>
   simp(disch:=first|omega|simp only[nZ]<;>omega|fail)only[go_sem,e0,e1,e7,e8,wr_succ]
   exact⟨_,_,rfl,hs.trans hs2,(by simp[e0]),(by simp[e1]),(by simp[e7]),(by simp),by rw[e9,fidx_miss hi hpr]⟩
 ·rintro s ⟨tm,h',rfl,hs,e0,e1,e7,e8,e9⟩
  simp(disch:=first|omega|simp only[nZ]<;>omega|fail)only[go_sem,e0,e1,e7,e8,Int.lt_irrefl]
  exact⟨by rw[e9];simp[fidx],hs⟩
theorem containsFuncLight_ev {α:Type}{enc:α→List V}{l:List α}{p:α→Bool}{h:H}{x f:V}(hw:h.wf)(hx:SlAt h x 3 (l.map enc))(hp:∀a∈l,PureA h f [.agg (enc a)] (.bool (p a))):
  E (.fn 71 [] []) [x,f] h fun v h'=>v=.bool (l.any p)∧h.Sub h':=by
 refine Ev_body (fd:=c71) rfl rfl rfl ?_
 simp(disch:=first|omega|simp only[nZ]<;>omega|fail)only[c71,go_sem]
 refine(indexFuncLight_ev hw hx hp).mono fun v h' hv=>?_
 obtain⟨rfl,hs⟩:=hv
 simp(disch:=first|omega|simp only[nZ]<;>omega|fail)only[go_sem]
 exact⟨by rw[fidx_any],hs⟩
theorem everyLight_ev {α:Type}{enc:α→List V}{l:List α}{p:α→Bool}{h:H}{x:V}{g:FuncId}{u w:List V}(hw:h.wf)(hx:SlAt h x 3 (l.map enc))(hp:∀a∈l,PureA h (.fn g u w) [.agg (enc a)] (.bool (p a))):
  E (.fn 55 [] []) [x,.fn g u w] h fun v h'=>v=.bool (l.all p)∧h.Sub h':=by
 refine Ev_body (fd:=c55) rfl rfl rfl ?_
 simp(disch:=first|omega|simp only[nZ]<;>omega|fail)only[c55,go_sem]
 have hs1:h.Sub (h.add (.cells .rw [.fn g u w])):=(H.Sub.refl hw).add _
 refine(containsFuncLight_ev (p:=fun a=> !p a) hs1.wf (hx.mono hs1) fun a ha h2 hs2=>?_).mono fun v h' hv=>?_
 ·have hc:h2.cells h.next=some [.fn g u w]:=hs2.cells (cells_add_new rfl)
  have hl:h.next<h2.next:=by have:=hs2.next;rw[H.next_add] at this;omega
  refine Ev_body (fd:=c72) rfl rfl rfl ?_
  simp(disch:=first|omega|simp only[nZ]<;>omega|fail)only[c72,go_sem,hc,getN_full (hx.1 _ (List.mem_map_of_mem ha))]
  refine((hp a ha).mono hs1).use (hs2.add _) fun h3 hs3=>?_
  simp(disch:=first|omega|simp only[nZ]<;>omega|fail)only[go_sem]
  exact(H.Sub.refl hs2.wf).add _ |>.trans hs3
 ·obtain⟨rfl,hs⟩:=hv
  simp(disch:=first|omega|simp only[nZ]<;>omega|fail)only[go_sem]
  exact⟨by rw[any_not],hs1.trans hs⟩
theorem indexFuncShade_ev {α:Type}{enc:α→List V}{l:List α}{p:α→Bool}{h:H}{x f:V}(hw:h.wf)(hx:SlAt h x 3 (l.map enc))(hp:∀a∈l,PureA h f [.agg (enc a)] (.bool (p a))):
  E (.fn 82 [] []) [x,f] h fun v h'=>v=.int .i64 (fidx p l 0)∧h.Sub h':=by
 have hb:=hx.boundE
 refine Ev_body (fd:=c82) rfl rfl rfl ?_
 simp(disch:=first|omega|simp only[nZ]<;>omega|fail)only[c82,go_sem,hx.lenE]
 refine W_count l.length (fun i s=>∃tm h',s=⟨tm,h',[]⟩∧h.Sub h'∧(Opd.t 0).ev tm=x∧(Opd.t 1).ev tm=f∧(Opd.t 7).ev tm=.int .i64 (l.length:Int)∧(Opd.t 8).ev tm=.int .i64 (i:Int)∧fidx p l 0=fidx p (l.drop i) i)
  ?_ ?_ (i:=0) (Nat.zero_le _) ⟨_,_,rfl,H.Sub.refl hw,(by simp),(by simp),(by simp),(by simp only[ev_put];rfl),rfl⟩
 ·rintro i s hi ⟨tm,h',rfl,hs,e0,e1,e7,e8,e9⟩
  have hi':(i:Int)<(l.length:Int):=by omega
  obtain⟨b,o,c,cs,rfl,hc,hq,hg,hn,hn0⟩:=(hx.mono hs).at hi
  simp(disch:=first|omega|simp only[nZ]<;>omega|fail)only[go_sem,e0,e1,e7,e8,hi',hq (nat_cst i),hc,hg]
  refine(hp _ (List.getElem_mem hi)).use hs fun h2 hs2=>?_
  cases hpr:p l[i] with
  |true=>
   simp(disch:=first|omega|simp only[nZ]<;>omega|fail)only[go_sem,e0,e1,e7,e8]
   exact⟨by rw[e9,fidx_hit hi hpr],hs.trans hs2⟩
  |false=>
   simp(disch:=first|omega|simp only[nZ]<;>omega|fail)only[go_sem,e0,e1,e7,e8,wr_succ]
   exact⟨_,_,rfl,hs.trans hs2,(by simp[e0]),(by simp[e1]),(by simp[e7]),(by simp),by rw[e9,fidx_miss hi hpr]⟩
 ·rintro s ⟨tm,h',rfl,hs,e0,e1,e7,e8,e9⟩
  simp(disch:=first|omega|simp only[nZ]<;>omega|fail)only[go_sem,e0,e1,e7,e8,Int.lt_irrefl]
  exact⟨by rw[e9];simp[fidx],hs⟩
theorem containsFuncShade_ev {α:Type}{enc:α→List V}{l:List α}{p:α→Bool}{h:H}{x f:V}(hw:h.wf)(hx:SlAt h x 3 (l.map enc))(hp:∀a∈l,PureA h f [.agg (enc a)] (.bool (p a))):
  E (.fn 73 [] []) [x,f] h fun v h'=>v=.bool (l.any p)∧h.Sub h':=by
 refine Ev_body (fd:=c73) rfl rfl rfl ?_
 simp(disch:=first|omega|simp only[nZ]<;>omega|fail)only[c73,go_sem]
 refine(indexFuncShade_ev hw hx hp).mono fun v h' hv=>?_
 obtain⟨rfl,hs⟩:=hv
 simp(disch:=first|omega|simp only[nZ]<;>omega|fail)only[go_sem]
 exact⟨by rw[fidx_any],hs⟩
theorem everyShade_ev {α:Type}{enc:α→List V}{l:List α}{p:α→Bool}{h:H}{x:V}{g:FuncId}{u w:List V}(hw:h.wf)(hx:SlAt h x 3 (l.map enc))(hp:∀a∈l,PureA h (.fn g u w) [.agg (enc a)] (.bool (p a))):
  E (.fn 57 [] []) [x,.fn g u w] h fun v h'=>v=.bool (l.all p)∧h.Sub h':=by
 refine Ev_body (fd:=c57) rfl rfl rfl ?_
 simp(disch:=first|omega|simp only[nZ]<;>omega|fail)only[c57,go_sem]
 have hs1:h.Sub (h.add (.cells .rw [.fn g u w])):=(H.Sub.refl hw).add _
 refine(containsFuncShade_ev (p:=fun a=> !p a) hs1.wf (hx.mono hs1) fun a ha h2 hs2=>?_).mono fun v h' hv=>?_
 ·have hc:h2.cells h.next=some [.fn g u w]:=hs2.cells (cells_add_new rfl)
  have hl:h.next<h2.next:=by have:=hs2.next;rw[H.next_add] at this;omega
  refine Ev_body (fd:=c74) rfl rfl rfl ?_
  simp(disch:=first|omega|simp only[nZ]<;>omega|fail)only[c74,go_sem,hc,getN_full (hx.1 _ (List.mem_map_of_mem ha))]
  refine((hp a ha).mono hs1).use (hs2.add _) fun h3 hs3=>?_
  simp(disch:=first|omega|simp only[nZ]<;>omega|fail)only[go_sem]
  exact(H.Sub.refl hs2.wf).add _ |>.trans hs3
 ·obtain⟨rfl,hs⟩:=hv
  simp(disch:=first|omega|simp only[nZ]<;>omega|fail)only[go_sem]
  exact⟨by rw[any_not],hs1.trans hs⟩
theorem indexFuncInt_ev {l:List Int}{p:Int→Bool}{h:H}{x f:V}(hw:h.wf)(hx:SlAt h x 1 (l.map encI))(hp:∀a∈l,PureA h f [.int .i64 a] (.bool (p a))):
  E (.fn 60 [] []) [x,f] h fun v h'=>v=.int .i64 (fidx p l 0)∧h.Sub h':=by
 have hb:=hx.boundE
 refine Ev_body (fd:=c60) rfl rfl rfl ?_
 simp(disch:=first|omega|simp only[nZ]<;>omega|fail)only[c60,go_sem,hx.lenE]
 refine W_count l.length (fun i s=>∃tm h',s=⟨tm,h',[]⟩∧h.Sub h'∧(Opd.t 0).ev tm=x∧(Opd.t 1).ev tm=f∧(Opd.t 7).ev tm=.int .i64 (l.length:Int)∧(Opd.t 8).ev tm=.int .i64 (i:Int)∧fidx p l 0=fidx p (l.drop i) i)
  ?_ ?_ (i:=0) (Nat.zero_le _) ⟨_,_,rfl,H.Sub.refl hw,(by simp),(by simp),(by simp),(by simp only[ev_put];rfl),rfl⟩
 ·rintro i s hi ⟨tm,h',rfl,hs,e0,e1,e7,e8,e9⟩
  have hi':(i:Int)<(l.length:Int):=by omega
  obtain⟨b,o,c,cs,rfl,hc,hq,hg,hn,hn0⟩:=(hx.mono hs).at hi
  simp(disch:=first|omega|simp only[nZ]<;>omega|fail)only[go_sem,e0,e1,e7,e8,hi',hq (nat_cst i),hc,hn0 (by omega),encI]
  refine(hp _ (List.getElem_mem hi)).use hs fun h2 hs2=>?_
  cases hpr:p l[i] with
  |true=>
   simp(disch:=first|omega|simp only[nZ]<;>omega|fail)only[go_sem,e0,e1,e7,e8]
   exact⟨by rw[e9,fidx_hit hi hpr],hs.trans hs2⟩
  |false=>
   simp(disch:=first|omega|simp only[nZ]<;>omega|fail)only[go_sem,e0,e1,e7,e8,wr_succ]
   exact⟨_,_,rfl,hs.trans hs2,(by simp[e0]),(by simp[e1]),(by simp[e7]),(by simp),by rw[e9,fidx_miss hi hpr]⟩
 ·rintro s ⟨tm,h',rfl,hs,e0,e1,e7,e8,e9⟩
  simp(disch:=first|omega|simp only[nZ]<;>omega|fail)only[go_sem,e0,e1,e7,e8,Int.lt_irrefl]
  exact⟨by rw[e9];simp[fidx],hs⟩
theorem containsFuncInt_ev {l:List Int}{p:Int→Bool}{h:H}{x f:V}(hw:h.wf)(hx:SlAt h x 1 (l.map encI))(hp:∀a∈l,PureA h f [.int .i64 a] (.bool (p a))):
  E (.fn 42 [] []) [x,f] h fun v h'=>v=.bool (l.any p)∧h.Sub h':=by
 refine Ev_body (fd:=c42) rfl rfl rfl ?_
 simp(disch:=first|omega|simp only[nZ]<;>omega|fail)only[c42,go_sem]
 refine(indexFuncInt_ev hw hx hp).mono fun v h' hv=>?_
 obtain⟨rfl,hs⟩:=hv
 simp(disch:=first|omega|simp only[nZ]<;>omega|fail)only[go_sem]
 exact⟨by rw[fidx_any],hs⟩
theorem everyInt_ev {l:List Int}{p:Int→Bool}{h:H}{x:V}{g:FuncId}{u w:List V}(hw:h.wf)(hx:SlAt h x 1 (l.map encI))(hp:∀a∈l,PureA h (.fn g u w) [.int .i64 a] (.bool (p a))):
  E (.fn 21 [] []) [x,.fn g u w] h fun v h'=>v=.bool (l.all p)∧h.Sub h':=by
 refine Ev_body (fd:=c21) rfl rfl rfl ?_
 simp(disch:=first|omega|simp only[nZ]<;>omega|fail)only[c21,go_sem]
 have hs1:h.Sub (h.add (.cells .rw [.fn g u w])):=(H.Sub.refl hw).add _
 refine(containsFuncInt_ev (p:=fun a=> !p a) hs1.wf (hx.mono hs1) fun a ha h2 hs2=>?_).mono fun v h' hv=>?_
 ·have hc:h2.cells h.next=some [.fn g u w]:=hs2.cells (cells_add_new rfl)
  have hl:h.next<h2.next:=by have:=hs2.next;rw[H.next_add] at this;omega
  refine Ev_body (fd:=c43) rfl rfl rfl ?_
  simp(disch:=first|omega|simp only[nZ]<;>omega|fail)only[c43,go_sem,hc]
  refine((hp a ha).mono hs1).use hs2 fun h3 hs3=>?_
  simp(disch:=first|omega|simp only[nZ]<;>omega|fail)only[go_sem]
  exact hs3
 ·obtain⟨rfl,hs⟩:=hv
  simp(disch:=first|omega|simp only[nZ]<;>omega|fail)only[go_sem]
  exact⟨by rw[any_not],hs1.trans hs⟩
end Go.Ab.Try
namespace Go.Ab
theorem q_sla_all3 (tm:T V)(b:Nat):q_sla tm 3 1 (.ptr b 0) none none none=some (.sl b 0 3 (.fix 3)):=rfl
theorem Keeps.sub {S:Nat→Prop}{h0 h h':H}(k:Keeps S h h')(s:h0.Sub h)(hw0:h0.wf)(hS:∀c,S c→h0.next≤c)(hw:h'.wf):h0.Sub h':=
 ⟨⟨Nat.le_trans s.next k.1,fun b y e=>k.2 b y (s.get e) fun hs=>by have:=hS b hs;have:=hw0 b y e;omega⟩,hw⟩
theorem Keeps.new {S:Nat→Prop}{h h':H}(hw:h.wf)(k:Keeps (fun c=>S c∨h.next≤c) h h'):Keeps S h h':=⟨k.1,fun c y e n=>k.2 c y e fun hs=>hs.elim n fun hge=>by have:=hw c y e;omega⟩
namespace Try
structure Sd where
 x:Int
 y:Int
 z:Int
deriving DecidableEq
structure Ey where
 s:Sd
 frm:Int
deriving DecidableEq
structure Tb where
 eyes:List Ey
 lights:List Sd
 pieces:List Sd
deriving DecidableEq
def encD (s:Sd):List V:=[.int .i64 s.x,.int .i64 s.y,.int .i64 s.z]
def encE (e:Ey):List V:=[.int .i64 e.s.x,.int .i64 e.s.y,.int .i64 e.s.z,.int .i64 e.frm]
def TbIs (h:H)(v:V)(t:Tb):Prop:=∃E L P,v=.agg [E,L,P]∧SlAt h E 4 (t.eyes.map encE)∧SlAt h L 3 (t.lights.map encD)∧SlAt h P 3 (t.pieces.map encD)
theorem TbIs.mono {h h':H}{v:V}{t:Tb}(a:TbIs h v t)(hs:h.Sub h'):TbIs h' v t:=by
 obtain⟨E,L,P,e,a1,a2,a3⟩:=a
 exact⟨E,L,P,e,a1.mono hs,a2.mono hs,a3.mono hs⟩
def inB (n lo hi:Int):Bool:=decide (lo≤n∧n≤hi)
def Sd.within (s:Sd)(m:Int):Bool:=inB s.x 0 m&&(inB s.y 0 m&&(inB s.z 0 m&&true))
def Ey.ok (e:Ey):Bool:=e.s.within 4&&inB e.frm 1 400
def check (t:Tb):Int:=
 if inB t.eyes.length 1 6=false∨inB t.lights.length 1 4=false∨9<t.pieces.length then 2
 else if t.eyes.all Ey.ok=false then 3
 else if t.lights.all (·.within 3)=false∨t.pieces.all (·.within 20)=false then 3 else 0
structure InS (s:Sd)(m:Int):Prop where
 x:0≤s.x∧s.x≤m
 y:0≤s.y∧s.y≤m
 z:0≤s.z∧s.z≤m
theorem within_iff {s:Sd}{m:Int}:s.within m=true↔InS s m:=by
 simp only[Sd.within,inB,Bool.and_true,Bool.and_eq_true,decide_eq_true_eq]
 exact⟨fun⟨a,b,c⟩=>⟨a,b,c⟩,fun⟨a,b,c⟩=>⟨a,b,c⟩⟩
structure Good (t:Tb):Prop where
 eyes:1≤t.eyes.length∧t.eyes.length≤6
 lights:1≤t.lights.length∧t.lights.length≤4
 pieces:t.pieces.length≤9
 eye:∀e∈t.eyes,InS e.s 4∧1≤e.frm∧e.frm≤400
 light:∀l∈t.lights,InS l 3
 piece:∀p∈t.pieces,InS p 20
theorem check_iff {t:Tb}:check t=0↔Good t:=by
 unfold check
 constructor
 ·intro h
  split at h
  ·cases h
  ·rename_i h1
   split at h
   ·cases h
   ·rename_i h2
    split at h
    ·cases h
    ·rename_i h3
     simp only[not_or,Bool.not_eq_false,inB,decide_eq_true_eq,List.all_eq_true] at h1 h2 h3
     refine⟨by omega,by omega,by omega,fun e he=>?_,fun l hl=>within_iff.1 (h3.1 l hl),fun p hp=>within_iff.1 (h3.2 p hp)⟩
     have:=h2 e he
     simp only[Ey.ok,inB,Bool.and_eq_true,decide_eq_true_eq] at this
     exact⟨within_iff.1 this.1,this.2⟩
 ·intro g
  have h1:=g.eyes
  have h2:=g.lights
  have h3:=g.pieces
  rw[if_neg,if_neg,if_neg]
  ·simp only[not_or,Bool.not_eq_false,List.all_eq_true]
   exact⟨fun l hl=>within_iff.2 (g.light l hl),fun p hp=>within_iff.2 (g.piece p hp)⟩
  ·simp only[Bool.not_eq_false,List.all_eq_true]
   intro e he
   have:=g.eye e he
   simp only[Ey.ok,inB,Bool.and_eq_true,decide_eq_true_eq]
   exact⟨within_iff.2 this.1,this.2⟩
  ·simp only[not_or,Bool.not_eq_false,inB,decide_eq_true_eq]
   omega
theorem in_ev (n lo hi:Int)(h:H)(Q:V→H→Prop):Ev fnG fastA (.fn 44 [] []) [.int .i64 n,.int .i64 lo,.int .i64 hi] h Q=Q (.bool (inB n lo hi)) h:=by
 refine Ev.det (Ev_body (fd:=c44) rfl rfl rfl ?_) Q
 by_cases c:lo≤n
 ·simp(disch:=first|omega|simp only[nZ]<;>omega|fail)only[c44,go_sem,c,inB]
 ·simp(disch:=first|omega|simp only[nZ]<;>omega|fail)only[c44,go_sem,c,inB,false_and]
theorem sd_rows (h:H)(b:Nat)(s:Sd)(hc:h.cells b=some (encD s)):SlAt h (.sl b 0 3 (.fix 3)) 1 (([s.x,s.y,s.z]:List Int).map encI):=
 ⟨by simp[encI],by simp,.inr ⟨b,0,.fix 3,_,rfl,.inr hc,by rfl⟩⟩
theorem within_ev {h:H}(hw:h.wf)(s:Sd)(m:Int)(Q:V→H→Prop)(q:∀h',h.Sub h'→Q (.bool (s.within m)) h'):Ev fnG fastA (.fn 54 [] []) [.agg (encD s),.int .i64 m] h Q:=by
 refine Ev_body (fd:=c54) rfl rfl rfl ?_
 have s2:h.Sub ((h.add (.cells .rw (encD s))).add (.cells .rw [.int .i64 m])):=(by repeat(first|assumption|exact H.Sub.refl (by assumption)|refine H.Sub.add ?_ _|refine H.Sub.set ?_ (by first|omega|(simp only[H.next_add,H.next_set,H.next_del]<;>omega)) (by first|omega|(simp only[H.next_add,H.next_set,H.next_del]<;>omega)) (by assumption) _))
 have g1:((h.add (.cells .rw (encD s))).add (.cells .rw [.int .i64 m])).cells h.next=some (encD s):=by simp(disch:=first|omega|simp only[nZ]<;>omega|fail)only[go_sem]
 have g2:((h.add (.cells .rw (encD s))).add (.cells .rw [.int .i64 m])).cells (h.next+1)=some [.int .i64 m]:=by simp(disch:=first|omega|simp only[nZ]<;>omega|fail)only[go_sem]
 simp only[encD] at s2 g1 g2
 simp(disch:=first|omega|simp only[nZ]<;>omega|fail)only[c54,go_sem,encD,q_sla_all3]
 refine(everyInt_ev (p:=fun n=>inB n 0 m) s2.wf (sd_rows _ _ s g1) fun n _ h1 hs=>?_).mono fun u h3 hu=>?_
 ·have g2':=hs.cells g2
  refine Ev_body (fd:=c70) rfl rfl rfl ?_
  simp(disch:=first|omega|simp only[nZ]<;>omega|fail)only[c70,go_sem,g2',in_ev]
  exact H.Sub.refl hs.wf
 ·obtain⟨rfl,s3⟩:=hu
  simp(disch:=first|omega|simp only[nZ]<;>omega|fail)only[go_sem]
  exact q _ (s2.trans s3)
theorem right_ev {h:H}(hw:h.wf)(s:Sd)(Q:V→H→Prop)(q:∀h',h.Sub h'→Q (.bool (s.within 20)) h'):Ev fnG fastA (.fn 58 [] []) [.agg (encD s)] h Q:=by
 refine Ev_body (fd:=c58) rfl rfl rfl ?_
 have s1:h.Sub (h.add (.cells .rw [.int .i64 s.x,.int .i64 s.y,.int .i64 s.z])):=(by repeat(first|assumption|exact H.Sub.refl (by assumption)|refine H.Sub.add ?_ _|refine H.Sub.set ?_ (by first|omega|(simp only[H.next_add,H.next_set,H.next_del]<;>omega)) (by first|omega|(simp only[H.next_add,H.next_set,H.next_del]<;>omega)) (by assumption) _))
 have hwi:=within_ev (h:=h.add (.cells .rw [.int .i64 s.x,.int .i64 s.y,.int .i64 s.z])) s1.wf s 20
 simp only[encD] at hwi
 simp(disch:=first|omega|simp only[nZ]<;>omega|fail)only[c58,go_sem,encD]
 refine hwi _ fun h2 s2=>?_
 simp(disch:=first|omega|simp only[nZ]<;>omega|fail)only[go_sem]
 exact q _ (s1.trans s2)
theorem checkE_ev {h:H}(hw:h.wf)(e:Ey):Ev fnG fastA (.fn 53 [] []) [.agg (encE e)] h fun v h'=>v=.bool e.ok∧h.Sub h':=by
 refine Ev.gen fun Q q=>?_
 refine Ev_body (fd:=c53) rfl rfl rfl ?_
 have s1:h.Sub (h.add (.cells .rw [.int .i64 e.s.x,.int .i64 e.s.y,.int .i64 e.s.z,.int .i64 e.frm])):=(by repeat(first|assumption|exact H.Sub.refl (by assumption)|refine H.Sub.add ?_ _|refine H.Sub.set ?_ (by first|omega|(simp only[H.next_add,H.next_set,H.next_del]<;>omega)) (by first|omega|(simp only[H.next_add,H.next_set,H.next_del]<;>omega)) (by assumption) _))
 have g1:(h.add (.cells .rw [.int .i64 e.s.x,.int .i64 e.s.y,.int .i64 e.s.z,.int .i64 e.frm])).cells h.next=some [.int .i64 e.s.x,.int .i64 e.s.y,.int .i64 e.s.z,.int .i64 e.frm]:=cells_add_new rfl
 have hwi:=within_ev (h:=h.add (.cells .rw [.int .i64 e.s.x,.int .i64 e.s.y,.int .i64 e.s.z,.int .i64 e.frm])) s1.wf e.s 4
 simp only[encD] at hwi
 simp(disch:=first|omega|simp only[nZ]<;>omega|fail)only[c53,go_sem,encE]
 refine hwi _ fun h2 s2=>?_
 have g2:=s2.cells g1
 cases hc:e.s.within 4
 ·simp(disch:=first|omega|simp only[nZ]<;>omega|fail)only[go_sem]
  exact q _ _ ⟨by simp[Ey.ok,hc],s1.trans s2⟩
 ·simp(disch:=first|omega|simp only[nZ]<;>omega|fail)only[go_sem,g2,in_ev]
  exact q _ _ ⟨by simp[Ey.ok,hc],s1.trans s2⟩
theorem checkL_ev {h:H}(hw:h.wf)(s:Sd):Ev fnG fastA (.fn 56 [] []) [.agg (encD s)] h fun v h'=>v=.bool (s.within 3)∧h.Sub h':=by
 refine Ev.gen fun Q q=>?_
 refine Ev_body (fd:=c56) rfl rfl rfl ?_
 have s1:h.Sub (h.add (.cells .rw [.int .i64 s.x,.int .i64 s.y,.int .i64 s.z])):=(by repeat(first|assumption|exact H.Sub.refl (by assumption)|refine H.Sub.add ?_ _|refine H.Sub.set ?_ (by first|omega|(simp only[H.next_add,H.next_set,H.next_del]<;>omega)) (by first|omega|(simp only[H.next_add,H.next_set,H.next_del]<;>omega)) (by assumption) _))
 have hwi:=within_ev (h:=h.add (.cells .rw [.int .i64 s.x,.int .i64 s.y,.int .i64 s.z])) s1.wf s 3
 simp only[encD] at hwi
 simp(disch:=first|omega|simp only[nZ]<;>omega|fail)only[c56,go_sem,encD]
 refine hwi _ fun h2 s2=>?_
 simp(disch:=first|omega|simp only[nZ]<;>omega|fail)only[go_sem]
 exact q _ _ ⟨rfl,s1.trans s2⟩
theorem check_ev {h:H}{v:V}{t:Tb}(hw:h.wf)(ht:TbIs h v t):Ev fnG fastA (.fn 36 [] []) [v] h fun u h'=>u=.int .i64 (check t)∧h.Sub h':=by
 refine Ev.gen fun Q q=>?_
 obtain⟨E,L,P,rfl,aE,aL,aP⟩:=ht
 have hlE:=aE.lenE
 have hlL:=aL.lenE
 have hlP:=aP.lenE
 refine Ev_body (fd:=c36) rfl rfl rfl ?_
 have s1:h.Sub (h.add (.cells .rw [E,L,P])):=(by repeat(first|assumption|exact H.Sub.refl (by assumption)|refine H.Sub.add ?_ _|refine H.Sub.set ?_ (by first|omega|(simp only[H.next_add,H.next_set,H.next_del]<;>omega)) (by first|omega|(simp only[H.next_add,H.next_set,H.next_del]<;>omega)) (by assumption) _))
 have g1:(h.add (.cells .rw [E,L,P])).cells h.next=some [E,L,P]:=cells_add_new rfl
 by_cases c1:inB t.eyes.length 1 6=false∨inB t.lights.length 1 4=false∨9<t.pieces.length
 ·have hc:check t=2:=by unfold check;rw[if_pos c1]
  cases d1:inB t.eyes.length 1 6
  ·simp(disch:=first|omega|simp only[nZ]<;>omega|fail)only[c36,go_sem,g1,hlE,hlL,hlP,in_ev,d1,Bool.not_false]
   exact q _ _ ⟨by rw[hc],s1⟩
  cases d2:inB t.lights.length 1 4
  ·simp(disch:=first|omega|simp only[nZ]<;>omega|fail)only[c36,go_sem,g1,hlE,hlL,hlP,in_ev,d1,d2,Bool.not_false,Bool.not_true]
   exact q _ _ ⟨by rw[hc],s1⟩
  rw[d1,d2] at c1
  have c3:(9:Int)<(t.pieces.length:Int):=by simp at c1;omega
  simp(disch:=first|omega|simp only[nZ]<;>omega|fail)only[c36,go_sem,g1,hlE,hlL,hlP,in_ev,d1,d2,Bool.not_false,Bool.not_true,c3]
  exact q _ _ ⟨by rw[hc],s1⟩
 have d:=c1
 simp only[not_or,Bool.not_eq_false] at d
 obtain⟨d1,d2,d3⟩:=d
 have c3:¬(9:Int)<(t.pieces.length:Int):=by omega
 simp(disch:=first|omega|simp only[nZ]<;>omega|fail)only[c36,go_sem,g1,hlE,hlL,hlP,in_ev,d1,d2,Bool.not_false,Bool.not_true,c3]
 refine(everyEye_ev (p:=Ey.ok) s1.wf (aE.mono s1) fun e _ h1 hs=>checkE_ev hs.wf e).mono fun u h2 hu=>?_
 obtain⟨rfl,s12⟩:=hu
 have s2:=s1.trans s12
 have g2:=s12.cells g1
 cases c4:t.eyes.all Ey.ok
 ·simp(disch:=first|omega|simp only[nZ]<;>omega|fail)only[go_sem,Bool.not_false]
  exact q _ _ ⟨by unfold check;rw[if_neg c1,if_pos c4],s2⟩
 have c4':¬t.eyes.all Ey.ok=false:=by rw[c4];simp
 simp(disch:=first|omega|simp only[nZ]<;>omega|fail)only[go_sem,Bool.not_true,g2]
 refine(everyLight_ev (p:=fun s=>s.within 3) s2.wf (aL.mono s2) fun e _ h1 hs=>checkL_ev hs.wf e).mono fun u h3 hu=>?_
 obtain⟨rfl,s23⟩:=hu
 have s3:=s2.trans s23
 have g3:=s23.cells g2
 cases c5:t.lights.all fun s=>s.within 3
 ·simp(disch:=first|omega|simp only[nZ]<;>omega|fail)only[go_sem,Bool.not_false]
  exact q _ _ ⟨by unfold check;rw[if_neg c1,if_neg c4',if_pos (.inl c5)],s3⟩
 simp(disch:=first|omega|simp only[nZ]<;>omega|fail)only[go_sem,Bool.not_true,g3]
 refine(everyShade_ev (p:=fun s=>s.within 20) s3.wf (aP.mono s3) fun e _ h1 hs=>by
  exact right_ev hs.wf e _ fun h' s=>⟨rfl,s⟩).mono fun u h4 hu=>?_
 obtain⟨rfl,s34⟩:=hu
 cases c6:t.pieces.all fun s=>s.within 20
 ·simp(disch:=first|omega|simp only[nZ]<;>omega|fail)only[go_sem,Bool.not_false]
  exact q _ _ ⟨by unfold check;rw[if_neg c1,if_neg c4',if_pos (.inr c6)],s3.trans s34⟩
 ·simp(disch:=first|omega|simp only[nZ]<;>omega|fail)only[go_sem,Bool.not_true]
  exact q _ _ ⟨by unfold check;rw[if_neg c1,if_neg c4',if_neg (by simp[c5,c6])],s3.trans s34⟩
def DkAt (h:H)(d:Nat)(t:Tb):Prop:=∃E L P,h.get d=some (.cells .rw [E,L,P])∧SlAt h E 4 (t.eyes.map encE)∧SlAt h L 3 (t.lights.map encD)∧SlAt h P 3 (t.pieces.map encD)
theorem DkAt.mono {h h':H}{d:Nat}{t:Tb}(a:DkAt h d t)(hs:h.Sub h'):DkAt h' d t:=by
 obtain⟨E,L,P,e,a1,a2,a3⟩:=a
 exact⟨E,L,P,hs.get e,a1.mono hs,a2.mono hs,a3.mono hs⟩
theorem opened_ev {h:H}{v:V}{t:Tb}(hw:h.wf)(ht:TbIs h v t):Ev fnG fastA (.fn 17 [] []) [v] h fun u h'=>h.Sub h'∧((check t≠0∧u=.tup [.nilp,.int .i64 (check t)])∨
  (check t=0∧∃d,u=.tup [.ptr d 0,.int .i64 0]∧h.next≤d∧DkAt h' d t)):=by
 refine Ev.gen fun Q q=>?_
 have ht0:=ht
 obtain⟨E,L,P,rfl,aE,aL,aP⟩:=ht
 have e1:=aE.one
 have l1:=aL.one
 have p1:=aP.one
 refine Ev_body (fd:=c17) rfl rfl rfl ?_
 have s1:h.Sub (h.add (.cells .rw [E,L,P])):=(by repeat(first|assumption|exact H.Sub.refl (by assumption)|refine H.Sub.add ?_ _|refine H.Sub.set ?_ (by first|omega|(simp only[H.next_add,H.next_set,H.next_del]<;>omega)) (by first|omega|(simp only[H.next_add,H.next_set,H.next_del]<;>omega)) (by assumption) _))
 have g1:(h.add (.cells .rw [E,L,P])).cells h.next=some [E,L,P]:=cells_add_new rfl
 simp(disch:=first|omega|simp only[nZ]<;>omega|fail)only[c17,go_sem]
 refine(check_ev s1.wf (ht0.mono s1)).mono fun u h2 hu=>?_
 obtain⟨rfl,s12⟩:=hu
 have s2:=s1.trans s12
 have g2:=s12.cells g1
 by_cases c:check t=0
 ·have lt:=s12.next
  rw[H.next_add] at lt
  have s23:=(H.Sub.refl s2.wf).add (.cells .rw [E,L,P])
  simp(disch:=first|omega|simp only[nZ]<;>omega|fail)only[go_sem,ne_eq,c,not_true_eq_false,g2]
  exact q _ _ ⟨s2.trans s23,.inr ⟨c,_,rfl,by omega,E,L,P,get_add_new rfl,(aE.mono s2).mono s23,(aL.mono s2).mono s23,(aP.mono s2).mono s23⟩⟩
 ·simp(disch:=first|omega|simp only[nZ]<;>omega|fail)only[go_sem,ne_eq,c,not_false_eq_true]
  exact q _ _ ⟨s2,.inl ⟨c,rfl⟩⟩
end Try
end Go.Ab
namespace Go.Ab
theorem own1_lit {h:H}{n:Int}:SlAt (h.add (.cells .rw [.int .i64 n])) (.sl h.next 0 1 (.fix 1)) 1 [[.int .i64 n]]:=SlAt.new _ rfl rfl (by simp) (by simp) (by simp)
namespace Try
end Try
end Go.Ab
namespace Go.Ab
theorem getN_less {l r:List V}{o n k:Nat}(h:getN o n l=some r)(hk:k≤n):getN o k l=some (r.take k):=by
 obtain⟨rfl,h2⟩:=getN_eq.1 h
 exact getN_eq.2 ⟨by rw[List.take_take,Nat.min_eq_left hk],by omega⟩
theorem mulb {a b A B:Int}(h1:0≤a∧a≤A)(h2:0≤b∧b≤B):0≤a*b∧a*b≤A*B:=
 ⟨Int.mul_nonneg h1.1 h2.1,Int.mul_le_mul h1.2 h2.2 h2.1 (by omega)⟩
namespace Try
def Sd.at (s:Sd):Nat→Int
 |0=>s.x
 |1=>s.y
 |_=>s.z
theorem sd_nth (s:Sd){i:Nat}(h:i<3):nth i (encD s)=some (.int .i64 (s.at i)):=by
 rcases(by omega:i=0∨i=1∨i=2) with rfl|rfl|rfl<;>rfl
theorem sd_get (s:Sd){i:Nat}(h:i<3):(encD s)[i]? =some (.int .i64 (s.at i)):=by
 rcases(by omega:i=0∨i=1∨i=2) with rfl|rfl|rfl<;>rfl
theorem sd_bd {s:Sd}{m:Int}(h:InS s m){i:Nat}(hi:i<3):0≤s.at i∧s.at i≤m:=by
 rcases(by omega:i=0∨i=1∨i=2) with rfl|rfl|rfl
 ·exact h.x
 ·exact h.y
 ·exact h.z
theorem sd_idx (s:Sd){i:Nat}(h:i<3):q_idx false 3 1 (.agg [.int .i64 s.x,.int .i64 s.y,.int .i64 s.z]) (.int .i64 (i:Int))=some (.int .i64 (s.at i)):=by
 rcases(by omega:i=0∨i=1∨i=2) with rfl|rfl|rfl<;>rfl
def dif (a b:Int):Int:=max (a-b) (b-a)
def term (e l a b:Sd)(i:Nat):Int:=dif (a.at i) (b.at i)*e.at i*l.at i
def part (e l a b:Sd):Nat→Int
 |0=>0
 |i+1=>part e l a b i+term e l a b i
def seesN (e l a b:Sd):Int:=part e l a b 3
theorem dif_bd {a b m:Int}(ha:0≤a∧a≤m)(hb:0≤b∧b≤m):0≤dif a b∧dif a b≤m:=by unfold dif;omega
theorem term_bd {e l a b:Sd}(he:InS e 4)(hl:InS l 3)(ha:InS a 20)(hb:InS b 20){i:Nat}(hi:i<3):(0≤dif (a.at i) (b.at i)*e.at i∧dif (a.at i) (b.at i)*e.at i≤80)∧0≤term e l a b i∧term e l a b i≤240:=by
 have h1:=mulb (dif_bd (sd_bd ha hi) (sd_bd hb hi)) (sd_bd he hi)
 have h2:=mulb h1 (sd_bd hl hi)
 exact⟨h1,h2⟩
theorem part_bd {e l a b:Sd}(he:InS e 4)(hl:InS l 3)(ha:InS a 20)(hb:InS b 20):∀i,i≤3→0≤part e l a b i∧part e l a b i≤240*(i:Int)
 |0,_=>by simp[part]
 |i+1,h=>by
  have ih:=part_bd he hl ha hb i (by omega)
  have:=(term_bd he hl ha hb (i:=i) (by omega)).2
  simp only[part];omega
theorem greatest_ev {h:H}{x:V}{l:List Int}(hx:SlAt h x 1 (l.map encI))(n:Int)(Q:V→H→Prop):Ev fnG fastA (.fn 84 [] []) [.int .i64 n,x] h Q=Q (.int .i64 (l.foldl max n)) h:=by
 have hb:=hx.boundE
 refine Ev.det (Ev_body (fd:=c84) rfl rfl rfl ?_) Q
 simp(disch:=first|omega|simp only[nZ]<;>omega|fail)only[c84,go_sem,hx.lenE]
 refine W_count l.length (fun i s=>∃tm,s=⟨tm,h,[]⟩∧(Opd.t 0).ev tm=.int .i64 ((l.take i).foldl max n)∧(Opd.t 7).ev tm=x∧(Opd.t 8).ev tm=.int .i64 (l.length:Int)∧(Opd.t 9).ev tm=.int .i64 (i:Int))
  ?_ ?_ (i:=0) (Nat.zero_le _) ⟨_,rfl,(by simp),(by simp),(by simp),(by simp)⟩
 ·rintro i s hi ⟨tm,rfl,t0,t7,t8,t9⟩
  have hi':(i:Int)<(l.length:Int):=by omega
  obtain⟨b,o,c,cs,rfl,hc,hq,hg,hn,hn0⟩:=hx.at hi
  have e1:(l.take (i+1)).foldl max n=max ((l.take i).foldl max n) l[i]:=by
   rw[List.take_succ_eq_append_getElem hi,List.foldl_append];rfl
  simp(disch:=first|omega|simp only[nZ]<;>omega|fail)only[go_sem,t0,t7,t8,t9,hi',hq (nat_cst i),hc,hn0 (by omega),encI,wr_succ]
  exact⟨_,rfl,by rw[e1];exact(by simp),(by simp[t7]),(by simp[t8]),(by simp)⟩
 ·rintro s ⟨tm,rfl,t0,t7,t8,t9⟩
  rw[List.take_length] at t0
  simp(disch:=first|omega|simp only[nZ]<;>omega|fail)only[go_sem,t0,t7,t8,t9,Int.lt_irrefl]
set_option maxHeartbeats 1000000 in
theorem sees_ev {h:H}{d:Nat}{t:Tb}(hw:h.wf)(hd:DkAt h d t)(g:Good t){i k:Nat}(hi:i<t.eyes.length)(hk:k<t.lights.length){a b:Sd}(ha:InS a 20)(hb:InS b 20)(Q:V→H→Prop)
  (q:∀h',h.Sub h'→Q (.int .i64 (seesN t.eyes[i].s t.lights[k] a b)) h'):Ev fnG fastA (.fn 77 [] []) [.ptr d 0,.agg [.int .i64 (i:Int),.int .i64 (k:Int)],.agg (encD a),.agg (encD b)] h Q:=by
 obtain⟨E,L,P,gd,aE,aL,aP⟩:=hd
 have hdl:=hw _ _ gd
 have ge:=(g.eye _ (List.getElem_mem hi)).1
 have gl:=g.light _ (List.getElem_mem hk)
 obtain⟨e,ee⟩:∃e,t.eyes[i]=e:=⟨_,rfl⟩
 obtain⟨l,el⟩:∃l,t.lights[k]=l:=⟨_,rfl⟩
 rw[ee,el] at q
 rw[ee] at ge
 rw[el] at gl
 obtain⟨bE,oE,cE,csE,eE,hcE,hqE,hgE,_,_⟩:=aE.at hi
 obtain⟨bL,oL,cL,csL,eL,hcL,hqL,_,hnL,_⟩:=aL.at hk
 have hgE3:getN (oE+i*4) 3 csE=some [.int .i64 e.s.x,.int .i64 e.s.y,.int .i64 e.s.z]:=by
  have:=getN_less hgE (k:=3) (by omega)
  rw[ee] at this;exact this
 refine Ev_body (fd:=c77) rfl rfl rfl ?_
 have s3:h.Sub (((h.add (.cells .rw [.int .i64 (i:Int),.int .i64 (k:Int)])).add (.cells .rw [.int .i64 a.x,.int .i64 a.y,.int .i64 a.z])).add (.cells .rw [.int .i64 b.x,.int .i64 b.y,.int .i64 b.z])):=(by repeat(first|assumption|exact H.Sub.refl (by assumption)|refine H.Sub.add ?_ _|refine H.Sub.set ?_ (by first|omega|(simp only[H.next_add,H.next_set,H.next_del]<;>omega)) (by first|omega|(simp only[H.next_add,H.next_set,H.next_del]<;>omega)) (by assumption) _))
 have q1:(((h.add (.cells .rw [.int .i64 (i:Int),.int .i64 (k:Int)])).add (.cells .rw [.int .i64 a.x,.int .i64 a.y,.int .i64 a.z])).add (.cells .rw [.int .i64 b.x,.int .i64 b.y,.int .i64 b.z])).cells h.next=some [.int .i64 (i:Int),.int .i64 (k:Int)]:=by simp(disch:=first|omega|simp only[nZ]<;>omega|fail)only[go_sem]
 have q2:(((h.add (.cells .rw [.int .i64 (i:Int),.int .i64 (k:Int)])).add (.cells .rw [.int .i64 a.x,.int .i64 a.y,.int .i64 a.z])).add (.cells .rw [.int .i64 b.x,.int .i64 b.y,.int .i64 b.z])).cells (h.next+1)=some [.int .i64 a.x,.int .i64 a.y,.int .i64 a.z]:=by simp(disch:=first|omega|simp only[nZ]<;>omega|fail)only[go_sem]
 have q3:(((h.add (.cells .rw [.int .i64 (i:Int),.int .i64 (k:Int)])).add (.cells .rw [.int .i64 a.x,.int .i64 a.y,.int .i64 a.z])).add (.cells .rw [.int .i64 b.x,.int .i64 b.y,.int .i64 b.z])).cells (h.next+1+1)=some [.int .i64 b.x,.int .i64 b.y,.int .i64 b.z]:=by simp(disch:=first|omega|simp only[nZ]<;>omega|fail)only[go_sem]
 simp(disch:=first|omega|simp only[nZ]<;>omega|fail)only[c77,go_sem,encD,evQ_ld,cells_of gd,hqE (nat_cst i),s3.cells hcE,s3.cells (cells_of gd),hgE3]
 generalize(((h.add (.cells .rw [.int .i64 (i:Int),.int .i64 (k:Int)])).add (.cells .rw [.int .i64 a.x,.int .i64 a.y,.int .i64 a.z])).add (.cells .rw [.int .i64 b.x,.int .i64 b.y,.int .i64 b.z]))=h3 at s3 q1 q2 q3⊢
 refine W_count 3 (fun j s=>∃tm h',s=⟨tm,h',[]⟩∧h3.Sub h'∧(Opd.t 0).ev tm=.ptr d 0∧(Opd.t 5).ev tm=.ptr h.next 0∧(Opd.t 6).ev tm=.ptr (h.next+1) 0∧(Opd.t 7).ev tm=.ptr (h.next+1+1) 0∧(Opd.t 9).ev tm=.int .i64 (part e.s l a b j)∧
   (Opd.t 21).ev tm=.agg [.int .i64 e.s.x,.int .i64 e.s.y,.int .i64 e.s.z]∧(Opd.t 22).ev tm=.int .i64 (j:Int))
  ?_ ?_ (i:=0) (Nat.zero_le _) ⟨_,_,rfl,H.Sub.refl s3.wf,(by simp),(by simp),(by simp),(by simp),(by simp[part]),(by simp),(by simp)⟩
 ·rintro j s hj ⟨tm,h',rfl,hs,t0,t5,t6,t7,t9,t21,t22⟩
  have hj':(j:Int)<3:=by omega
  have sA:=s3.trans hs
  have r1:=hs.cells q1
  have r2:=hs.cells q2
  have r3:=hs.cells q3
  have na:=sd_nth a hj
  have nb:=sd_nth b hj
  simp only[encD] at na nb
  have nl:nth (oL+k*3+j) csL=some (.int .i64 (l.at j)):=by rw[hnL j hj,el];exact sd_get l hj
  have gd':=cells_of (sA.get gd)
  have hcL':=sA.cells hcL
  have b1:=sd_bd ha hj
  have b2:=sd_bd hb hj
  have b3:=term_bd ge gl ha hb hj
  have b4:=part_bd ge gl ha hb j (by omega)
  have sB:=(H.Sub.refl hs.wf).add (.cells .rw [.int .i64 (b.at j-a.at j)])
  have aG:SlAt (h'.add (.cells .rw [.int .i64 (b.at j-a.at j)])) (.sl h'.next 0 1 (.fix 1)) 1 (([b.at j-a.at j]:List Int).map encI):=SlAt.new _ rfl rfl (by rfl) (by simp[encI]) (by simp)
  have hgr:=greatest_ev aG (a.at j-b.at j)
  have ef:([b.at j-a.at j]:List Int).foldl max (a.at j-b.at j)=dif (a.at j) (b.at j):=rfl
  rw[ef] at hgr
  have st:part e.s l a b j+dif (a.at j) (b.at j)*e.s.at j*l.at j=part e.s l a b (j+1):=rfl
  have b5:=b3.2
  unfold term at b5
  simp(disch:=first|omega|simp only[nZ]<;>omega|fail)only[go_sem,t0,t5,t6,t7,t9,t21,t22,hj',sd_idx e.s hj,q_iaa_ptr (nat_cst j) hj,Nat.mul_one,r1,r2,r3,na,nb,wr_in,hgr,evQ_ld,gd',hqL (nat_cst k),hcL',nl,sB.cells gd',sB.cells r1,sB.cells r2,sB.cells r3,sB.cells hcL',st,wr_succ]
  exact⟨_,_,rfl,hs.trans sB,(by simp[t0]),(by simp[t5]),(by simp[t6]),(by simp[t7]),(by simp),(by simp[t21]),(by simp)⟩
 ·rintro s ⟨tm,h',rfl,hs,t0,t5,t6,t7,t9,t21,t22⟩
  have hnl:¬((3:Nat):Int)<3:=by omega
  simp(disch:=first|omega|simp only[nZ]<;>omega|fail)only[go_sem,t0,t5,t6,t7,t9,t21,t22,hnl]
  exact q _ (s3.trans hs)
end Try
end Go.Ab
namespace Go.Ab.Try
theorem looks_gen {h0:H}{d c:Nat}{t:Tb}(hd:DkAt h0 d t){f:V}{J:Nat→H→Prop}{S:H→Prop}(hJ:∀n x,J n x→h0.Sub x∧x.cells c=some [.ptr d 0])
  (step:∀i k,i<t.eyes.length→k<t.lights.length→∀x,J (i*t.lights.length+k) x→Ev fnG fastA f [.agg [.int .i64 (i:Int),.int .i64 (k:Int)]] x fun u y=>(u=.bool true∧J (i*t.lights.length+k+1) y)∨(u=.bool false∧S y))
  {h:H} (h1:J 0 h):Ev fnG fastA (.fn 83 [] [.ptr c 0]) [f] h fun u y=>J (t.eyes.length*t.lights.length) y∨S y:=by
 refine Ev.gen fun Q q=>?_
 obtain⟨E,L,P,gd,aE,aL,aP⟩:=hd
 have hlE:=aE.lenE
 have hlL:=aL.lenE
 have bE:=aE.boundE
 have bL:=aL.boundE
 obtain⟨s0,c0⟩:=hJ _ _ h1
 refine Ev_body (fd:=c83) rfl rfl rfl ?_
 simp(disch:=first|omega|simp only[nZ]<;>omega|fail)only[c83,go_sem,c0,cells_of (s0.get gd),hlE]
 refine W_count t.eyes.length (fun i s=>∃tm x,s=⟨tm,x,[]⟩∧J (i*t.lights.length) x∧(Opd.t 0).ev tm=f∧(Opd.t 1).ev tm=.ptr c 0∧(Opd.t 10).ev tm=.int .i64 (t.eyes.length:Int)∧(Opd.t 11).ev tm=.int .i64 (i:Int))
  ?_ ?_ (i:=0) (Nat.zero_le _) ⟨_,_,rfl,by rw[Nat.zero_mul];exact h1,(by simp),(by simp),(by simp),(by simp)⟩
 ·rintro i s hi ⟨tm,x,rfl,hx,t0,t1,t10,t11⟩
  have hi':(i:Int)<(t.eyes.length:Int):=by omega
  obtain⟨s1,c1⟩:=hJ _ _ hx
  simp(disch:=first|omega|simp only[nZ]<;>omega|fail)only[go_sem,t0,t1,t10,t11,hi',c1,cells_of (s1.get gd),hlL]
  refine W_count t.lights.length (fun k s=>∃tm x,s=⟨tm,x,[]⟩∧J (i*t.lights.length+k) x∧(Opd.t 0).ev tm=f∧(Opd.t 1).ev tm=.ptr c 0∧(Opd.t 3).ev tm=.int .i64 (i:Int)∧(Opd.t 10).ev tm=.int .i64 (t.eyes.length:Int)∧(Opd.t 11).ev tm=.int .i64 (i:Int)∧(Opd.t 19).ev tm=.int .i64 (t.lights.length:Int)∧(Opd.t 20).ev tm=.int .i64 (k:Int))
   ?_ ?_ (i:=0) (Nat.zero_le _) ⟨_,_,rfl,hx,(by simp[t0]),(by simp[t1]),(by simp),(by simp[t10]),(by simp[t11]),(by simp),(by simp)⟩<;>clear t0 t1 t10 t11 tm
  ·rintro k s hk ⟨tm,x,rfl,hx,t0,t1,t3,t10,t11,t19,t20⟩
   have hk':(k:Int)<(t.lights.length:Int):=by omega
   simp(disch:=first|omega|simp only[nZ]<;>omega|fail)only[go_sem,t0,t1,t3,t10,t11,t19,t20,hk']
   refine(step i k hi hk x hx).mono fun u y hu=>?_
   rcases hu with⟨rfl,hy⟩|⟨rfl,hy⟩
   ·simp(disch:=first|omega|simp only[nZ]<;>omega|fail)only[go_sem,t0,t1,t3,t10,t11,t19,t20,Bool.not_true,wr_succ]
    exact⟨_,_,rfl,hy,(by simp[t0]),(by simp[t1]),(by simp[t3]),(by simp[t10]),(by simp[t11]),(by simp[t19]),(by simp)⟩
   ·simp(disch:=first|omega|simp only[nZ]<;>omega|fail)only[go_sem,t0,t1,t3,t10,t11,t19,t20,Bool.not_false]
    exact q _ _ (.inr hy)
  ·rintro s ⟨tm,x,rfl,hx,t0,t1,t3,t10,t11,t19,t20⟩
   simp(disch:=first|omega|simp only[nZ]<;>omega|fail)only[go_sem,t0,t1,t3,t10,t11,t19,t20,Int.lt_irrefl,wr_succ]
   exact⟨_,_,rfl,by rw[Nat.succ_mul];exact hx,(by simp[t0]),(by simp[t1]),(by simp[t10]),(by simp)⟩
 ·rintro s ⟨tm,x,rfl,hx,t0,t1,t10,t11⟩
  simp(disch:=first|omega|simp only[nZ]<;>omega|fail)only[go_sem,t0,t1,t10,t11,Int.lt_irrefl]
  exact q _ _ (.inl hx)
def tellsAt (t:Tb)(a b:Sd)(i k:Nat):Bool:=match t.eyes[i]?,t.lights[k]? with
 |some e,some l=>decide (e.frm≤seesN e.s l a b)
 |_,_=>false
def encK (p:Int × Int):List V:=[.int .i64 p.1,.int .i64 p.2]
def apartK (t:Tb)(a b:Sd):Nat→List (Int × Int)
 |0=>[]
 |n+1=>apartK t a b n++if tellsAt t a b (n/t.lights.length) (n%t.lights.length)=true then[(((n/t.lights.length:Nat):Int),((n%t.lights.length:Nat):Int))] else[]
def apartL (t:Tb)(a b:Sd):List (Int × Int):=if a=b then[] else apartK t a b (t.eyes.length*t.lights.length)
theorem apartK_len (t:Tb)(a b:Sd):∀n,(apartK t a b n).length≤n
 |0=>Nat.le_refl _
 |n+1=>by have:=apartK_len t a b n;simp only[apartK,List.length_append];split<;>simp<;>omega
theorem apartK_step {t:Tb}{a b:Sd}{i k:Nat}(hk:k<t.lights.length):apartK t a b (i*t.lights.length+k+1)=apartK t a b (i*t.lights.length+k)++if tellsAt t a b i k=true then[((i:Int),(k:Int))] else[]:=by
 have e1:(i*t.lights.length+k)/t.lights.length=i:=by rw[Nat.add_comm,Nat.add_mul_div_right _ _ (by omega),Nat.div_eq_of_lt hk,Nat.zero_add]
 have e2:(i*t.lights.length+k)%t.lights.length=k:=by rw[Nat.add_comm,Nat.add_mul_mod_self_right,Nat.mod_eq_of_lt hk]
 simp only[apartK,e1,e2]
theorem sd_feq (a b:Sd):q_feq false 3 (.agg [.int .i64 a.x,.int .i64 a.y,.int .i64 a.z]) (.agg [.int .i64 b.x,.int .i64 b.y,.int .i64 b.z])=some (.bool (decide (a=b))):=by
 have h:=q_feq_map (n:=3) [a.x,a.y,a.z] [b.x,b.y,b.z] rfl rfl false
 have e:decide (([a.x,a.y,a.z]:List Int)=[b.x,b.y,b.z])=decide (a=b):=by
  rw[Bool.eq_iff_iff];cases a;cases b;simp
 rw[e] at h
 exact h
theorem rLoop {r0:LoopR}(h1:r0.st=.ready)(h2:r0.pend=none):({({r0 with st:=.busy}:LoopR) with st:=.ready,pend:=none}:LoopR)=r0:=by cases r0;simp_all
set_option maxHeartbeats 2000000 in
theorem apart_ev {h:H}{d:Nat}{t:Tb}(hw:h.wf)(hd:DkAt h d t)(g:Good t){a b:Sd}(ha:InS a 20)(hb:InS b 20)(Q:V→H→Prop)
  (q:∀x h',OwnC h h' x 2 ((apartL t a b).map encK)→(x=.nils↔apartL t a b=[])→Q x h'):Ev fnG fastA (.fn 61 [] []) [.ptr d 0,.agg (encD a),.agg (encD b)] h Q:=by
 have gE:=g.eyes
 have gL:=g.lights
 have hmul:t.eyes.length*t.lights.length≤24:=Nat.le_trans (Nat.mul_le_mul gE.2 gL.2) (by decide)
 refine Ev_body (fd:=c61) rfl rfl rfl ?_
 by_cases hab:a=b
 ·have s3:h.Sub (((h.add (.cells .rw [.ptr d 0])).add (.cells .rw [.int .i64 a.x,.int .i64 a.y,.int .i64 a.z])).add (.cells .rw [.int .i64 b.x,.int .i64 b.y,.int .i64 b.z])):=(by repeat(first|assumption|exact H.Sub.refl (by assumption)|refine H.Sub.add ?_ _|refine H.Sub.set ?_ (by first|omega|(simp only[H.next_add,H.next_set,H.next_del]<;>omega)) (by first|omega|(simp only[H.next_add,H.next_set,H.next_del]<;>omega)) (by assumption) _))
  have hl:apartL t a b=[]:=if_pos hab
  have fq:=sd_feq a b
  rw[decide_eq_true hab] at fq
  simp(disch:=first|omega|simp only[nZ]<;>omega|fail)only[c61,go_sem,encD,fq]
  exact q _ _ (by rw[hl];exact(OwnSl.nil s3 2).c) (by rw[hl];simp)
 have hl:apartL t a b=apartK t a b (t.eyes.length*t.lights.length):=if_neg hab
 rw[hl] at q
 have fq:=sd_feq a b
 rw[decide_eq_false hab] at fq
 have s5:h.Sub (((((h.add (.cells .rw [.ptr d 0])).add (.cells .rw [.int .i64 a.x,.int .i64 a.y,.int .i64 a.z])).add (.cells .rw [.int .i64 b.x,.int .i64 b.y,.int .i64 b.z])).add (.cells .rw [.nils])).add (.cells .rw [.ptr d 0])):=(by repeat(first|assumption|exact H.Sub.refl (by assumption)|refine H.Sub.add ?_ _|refine H.Sub.set ?_ (by first|omega|(simp only[H.next_add,H.next_set,H.next_del]<;>omega)) (by first|omega|(simp only[H.next_add,H.next_set,H.next_del]<;>omega)) (by assumption) _))
 have q1:(((((h.add (.cells .rw [.ptr d 0])).add (.cells .rw [.int .i64 a.x,.int .i64 a.y,.int .i64 a.z])).add (.cells .rw [.int .i64 b.x,.int .i64 b.y,.int .i64 b.z])).add (.cells .rw [.nils])).add (.cells .rw [.ptr d 0])).get h.next=some (.cells .rw [.ptr d 0]):=by simp(disch:=first|omega|simp only[nZ]<;>omega|fail)only[go_sem]
 have q2:(((((h.add (.cells .rw [.ptr d 0])).add (.cells .rw [.int .i64 a.x,.int .i64 a.y,.int .i64 a.z])).add (.cells .rw [.int .i64 b.x,.int .i64 b.y,.int .i64 b.z])).add (.cells .rw [.nils])).add (.cells .rw [.ptr d 0])).get (h.next+1)=some (.cells .rw [.int .i64 a.x,.int .i64 a.y,.int .i64 a.z]):=by simp(disch:=first|omega|simp only[nZ]<;>omega|fail)only[go_sem]
 have q3:(((((h.add (.cells .rw [.ptr d 0])).add (.cells .rw [.int .i64 a.x,.int .i64 a.y,.int .i64 a.z])).add (.cells .rw [.int .i64 b.x,.int .i64 b.y,.int .i64 b.z])).add (.cells .rw [.nils])).add (.cells .rw [.ptr d 0])).get (h.next+1+1)=some (.cells .rw [.int .i64 b.x,.int .i64 b.y,.int .i64 b.z]):=by simp(disch:=first|omega|simp only[nZ]<;>omega|fail)only[go_sem]
 have q4:(((((h.add (.cells .rw [.ptr d 0])).add (.cells .rw [.int .i64 a.x,.int .i64 a.y,.int .i64 a.z])).add (.cells .rw [.int .i64 b.x,.int .i64 b.y,.int .i64 b.z])).add (.cells .rw [.nils])).add (.cells .rw [.ptr d 0])).get (h.next+1+1+1)=some (.cells .rw [.nils]):=by simp(disch:=first|omega|simp only[nZ]<;>omega|fail)only[go_sem]
 have q5:(((((h.add (.cells .rw [.ptr d 0])).add (.cells .rw [.int .i64 a.x,.int .i64 a.y,.int .i64 a.z])).add (.cells .rw [.int .i64 b.x,.int .i64 b.y,.int .i64 b.z])).add (.cells .rw [.nils])).add (.cells .rw [.ptr d 0])).get (h.next+1+1+1+1)=some (.cells .rw [.ptr d 0]):=by simp(disch:=first|omega|simp only[nZ]<;>omega|fail)only[go_sem]
 have n5:(((((h.add (.cells .rw [.ptr d 0])).add (.cells .rw [.int .i64 a.x,.int .i64 a.y,.int .i64 a.z])).add (.cells .rw [.int .i64 b.x,.int .i64 b.y,.int .i64 b.z])).add (.cells .rw [.nils])).add (.cells .rw [.ptr d 0])).next=h.next+5:=by simp only[H.next_add]
 have hlk:∀hh (R:V→H→Prop),Ev fnG fastA (.fn 76 [] []) [.ptr d 0] hh R=R (.fn 83 [] [.ptr hh.next 0]) (hh.add (.cells .rw [.ptr d 0])):=fun hh R=>by
  refine Ev.det (Ev_body (fd:=c76) rfl rfl rfl ?_) R
  simp(disch:=first|omega|simp only[nZ]<;>omega|fail)only[c76,go_sem]
 simp(disch:=first|omega|simp only[nZ]<;>omega|fail)only[c61,go_sem,encD,fq,hlk]
 generalize(((((h.add (.cells .rw [.ptr d 0])).add (.cells .rw [.int .i64 a.x,.int .i64 a.y,.int .i64 a.z])).add (.cells .rw [.int .i64 b.x,.int .i64 b.y,.int .i64 b.z])).add (.cells .rw [.nils])).add (.cells .rw [.ptr d 0]))=h6 at s5 q1 q2 q3 q4 q5 n5⊢
 refine W_gen (P:=fun tm=>(Opd.t 3).ev tm=.ptr h.next 0∧(Opd.t 4).ev tm=.ptr (h.next+1) 0∧(Opd.t 5).ev tm=.ptr (h.next+1+1) 0∧(Opd.t 7).ev tm=.ptr (h.next+1+1+1) 0∧(Opd.t 13).ev tm=.fn 83 [] [.ptr (h.next+1+1+1+1) 0]) ⟨(by simp),(by simp),(by simp),(by simp),(by simp)⟩ fun tm ⟨t3,t4,t5,t7,t13⟩=>?_
 refine W_rf t13 ?_
 generalize hr:LoopR.mk _ _ _ _ _ _ _ _ _=r0
 have fB:=congrArg LoopR.body hr
 have fA:=congrArg LoopR.assign hr
 have fN:=congrArg LoopR.n hr
 have fF:=congrArg LoopR.fn hr
 have fP:=congrArg LoopR.ps hr
 have fT:=congrArg LoopR.tm hr
 dsimp only at fB fA fN fF fP fT
 have hrs:r0.st=.ready:=by rw[←hr]
 have hrp:r0.pend=none:=by rw[←hr]
 have w6:=s5.wf
 obtain⟨J,hJ⟩:∃J:Nat→H→Prop,∀n x,J n x↔∃y,OwnSl h x y 2 ((apartK t a b n).map encK)∧(y=.nils↔apartK t a b n=[])∧(∀b,blkOf y b→h6.next+2≤b)∧h6.next+1<x.next∧x.get (h6.next+1)=some (.loop r0)∧x.get h6.next=some .dfr∧
   x.get h.next=some (.cells .rw [.ptr d 0])∧x.get (h.next+1)=some (.cells .rw [.int .i64 a.x,.int .i64 a.y,.int .i64 a.z])∧x.get (h.next+1+1)=some (.cells .rw [.int .i64 b.x,.int .i64 b.y,.int .i64 b.z])∧x.get (h.next+1+1+1)=some (.cells .rw [y])∧x.get (h.next+1+1+1+1)=some (.cells .rw [.ptr d 0]):=⟨_,fun _ _=>Iff.rfl⟩
 have hd0:=hd
 refine(looks_gen (c:=h.next+1+1+1+1) (S:=fun _=>False) hd0 (J:=J) (fun n x hx=>?_) (fun i k hi hk x hx=>?_) ?_).mono fun u h7 hu=>?_
 ·obtain⟨y,o,_,_,_,_,_,_,_,_,_,g5⟩:=(hJ _ _).1 hx
  exact⟨o.1,cells_of g5⟩
 ·obtain⟨y,oy,yn,yb,lx,gl,gd,g1,g2,g3,g4,g5⟩:=(hJ _ _).1 hx
  have sx:=oy.1
  have wx:=sx.wf
  refine Ev.gen fun Q2 q2=>?_
  refine Ev_yld (tm:=tm.put (some (.agg [.int .i64 (i:Int),.int .i64 (k:Int)])) 14) gl (by rw[←fP,←fT];rfl) ?_
  rw[←fA,←fN,←fF]
  have hd5:=s5
  have sx2:x.Sub (x.add (.cells .rw [.int .i64 (i:Int),.int .i64 (k:Int)])):=(H.Sub.refl wx).add _
  have gw:(x.add (.cells .rw [.int .i64 (i:Int),.int .i64 (k:Int)])).get x.next=some (.cells .rw [.int .i64 (i:Int),.int .i64 (k:Int)]):=get_add_new rfl
  have lw:(x.add (.cells .rw [.int .i64 (i:Int),.int .i64 (k:Int)])).next=x.next+1:=H.next_add _ _
  simp(disch:=first|omega|simp only[nZ]<;>omega|fail)only[go_sem,t3,t4,t5,t7]
  unfold Kasg
  refine⟨rfl,r0,sx2.get gl,hrs,?_⟩
  obtain⟨rb,hrb⟩:∃rb:LoopR,rb={r0 with st:=.busy}:=⟨_,rfl⟩
  have hrb1:({rb with st:=.ready,pend:=none}:LoopR)=r0:=by rw[hrb];exact rLoop hrs hrp
  rw[←hrb,←fB,←fN,←fF]
  generalize x.add (.cells .rw [.int .i64 (i:Int),.int .i64 (k:Int)])=hy at sx2 gw lw⊢
  have sy:=sx.trans sx2
  have nl:∀b,blkOf y b→b≠h6.next+1:=fun b hb=>by have:=yb b hb;omega
  have K3:Keeps (fun c=>c=h6.next+1) hy (hy.set (h6.next+1) (.loop rb)):=Keeps.set _ _ _
  have s3:h.Sub (hy.set (h6.next+1) (.loop rb)):=sy.set (by omega) (by omega) hw _
  have oy3:=(oy.mono sx2).keep K3 s3 fun b hb e=>nl b hb e
  have gl3:(hy.set (h6.next+1) (.loop rb)).get (h6.next+1)=some (.loop rb):=get_set_same rfl
  have gd3:=K3.2 _ _ (sx2.get gd) (by omega)
  have c1:=K3.2 _ _ (sx2.get g1) (by omega)
  have c2:=K3.2 _ _ (sx2.get g2) (by omega)
  have c3:=K3.2 _ _ (sx2.get g3) (by omega)
  have c4:=K3.2 _ _ (sx2.get g4) (by omega)
  have c5:=K3.2 _ _ (sx2.get g5) (by omega)
  have cw:=K3.2 _ _ gw (by omega)
  have l3:(hy.set (h6.next+1) (.loop rb)).next=x.next+1:=by rw[H.next_set];exact lw
  generalize hy.set (h6.next+1) (.loop rb)=h3 at s3 oy3 gl3 gd3 c1 c2 c3 c4 c5 cw l3⊢
  have hsee:=sees_ev (h:=h3) s3.wf (hd0.mono s3) g hi hk ha hb
  simp only[encD] at hsee
  obtain⟨E,L,P,gd0,aE,aL,aP⟩:=hd0
  simp(disch:=first|omega|simp only[nZ]<;>omega|fail)only[go_sem,t3,t4,t5,t7,evQ_ld,cells_of c1,cells_of c2,cells_of c3,cells_of cw]
  refine hsee _ fun h4 s34=>?_
  have s4:=s3.trans s34
  obtain⟨bE,oE,cE,csE,eE,hcE,hqE,_,hnE,_⟩:=(aE.mono s4).at hi
  have hfr:nth (oE+i*4+3) csE=some (.int .i64 t.eyes[i].frm):=by rw[hnE 3 (by omega)];rfl
  have gE3:=cells_of (s3.get gd0)
  have gE4:=cells_of (s4.get gd0)
  have hcE3:h3.cells bE=some csE:=by
   obtain⟨bE',oE',cE',csE',eE',hcE',_⟩:=aE.at hi
   rw[eE] at eE';injection eE' with x1 x2;subst x1
   have e1:=s4.cells hcE'
   rw[hcE] at e1;cases e1
   exact s3.cells hcE'
  have hst:=apartK_step (t:=t) (a:=a) (b:=b) (i:=i) hk
  have htl:tellsAt t a b i k=decide (t.eyes[i].frm≤seesN t.eyes[i].s t.lights[k] a b):=by
   unfold tellsAt;rw[List.getElem?_eq_getElem hi,List.getElem?_eq_getElem hk]
  have fin:∀hz:H,h.Sub hz→∀y',OwnSl h hz y' 2 ((apartK t a b (i*t.lights.length+k+1)).map encK)→(y'=.nils↔apartK t a b (i*t.lights.length+k+1)=[])→(∀b,blkOf y' b→h6.next+2≤b)→hz.get (h6.next+1)=some (.loop rb)→hz.get h6.next=some .dfr→
    hz.get h.next=some (.cells .rw [.ptr d 0])→hz.get (h.next+1)=some (.cells .rw [.int .i64 a.x,.int .i64 a.y,.int .i64 a.z])→hz.get (h.next+1+1)=some (.cells .rw [.int .i64 b.x,.int .i64 b.y,.int .i64 b.z])→hz.get (h.next+1+1+1)=some (.cells .rw [y'])→hz.get (h.next+1+1+1+1)=some (.cells .rw [.ptr d 0])→
    J (i*t.lights.length+k+1) (hz.set (h6.next+1) (.loop {rb with st:=.ready,pend:=none})):=by
   intro hz sz y' o1 o2 o3 z1 z2 z3 z4 z5 z6 z7
   have lz:=sz.wf _ _ z1
   have s8:h.Sub (hz.set (h6.next+1) (.loop {rb with st:=.ready,pend:=none})):=sz.set (by omega) lz hw _
   refine(hJ _ _).2 ⟨y',o1.keep (Keeps.set _ _ _) s8 fun b hb e=>by have:=o3 b hb;omega,o2,o3,by rw[H.next_set];exact lz,by rw[get_set_same rfl,hrb1],?_,?_,?_,?_,?_,?_⟩
   ·rw[get_set_other (by omega)];exact z2
   ·rw[get_set_other (by omega)];exact z3
   ·rw[get_set_other (by omega)];exact z4
   ·rw[get_set_other (by omega)];exact z5
   ·rw[get_set_other (by omega)];exact z6
   ·rw[get_set_other (by omega)];exact z7
  simp(disch:=first|omega|simp only[nZ]<;>omega|fail)only[go_sem,t3,t4,t5,t7,evQ_ld,cells_of c1,cells_of c2,cells_of c3,cells_of (s34.get c1),gE3,gE4,cells_of cw,cells_of (s34.get cw),hqE (nat_cst i),hcE,hcE3,hfr]
  by_cases hte:t.eyes[i].frm≤seesN t.eyes[i].s t.lights[k] a b
  ·rw[decide_eq_true hte] at htl
   rw[htl] at hst
   simp only[↓reduceIte] at hst
   have oy4:=oy3.mono s34
   have hyl:=apartK_len t a b (i*t.lights.length+k)
   have hik:i*t.lights.length+k<24:=by
    have h1:=Nat.mul_le_mul_right t.lights.length hi
    rw[Nat.succ_mul] at h1;omega
   have y1:=OwnC.one oy.c
   have sC:=(H.Sub.refl s4.wf).add (.cells .rw [.int .i64 (i:Int),.int .i64 (k:Int)])
   simp(disch:=first|omega|simp only[nZ]<;>omega|fail)only[go_sem,t3,t4,t5,t7,hte,cells_of (s34.get c4),cells_of (s34.get cw)]
   refine(oy4.mono sC).app1 (by_:=16) (r:=encK ((i:Int),(k:Int))) hw rfl (by omega) (SlAt.new _ rfl rfl (by rfl) (by simp[encK]) (by simp)) rfl (by simp only[List.length_map];omega) (by simp only[List.length_map];omega) fun h5 o5 k5 n5=>?_
   rw[H.next_add] at n5 o5
   have l34:=s34.next
   have hne:∀c z,h3.get c=some z→c<h6.next+2→h5.get c=some z:=fun c z hc hlt=>k5.2 _ _ (sC.get (s34.get hc)) fun hb=>by have:=yb c hb;omega
   have c45:=hne _ _ c4 (by omega)
   simp(disch:=first|omega|simp only[nZ]<;>omega|fail)only[go_sem,t3,t4,t5,t7,c45]
   unfold Kround
   have s5':=o5.1
   have s55:h.Sub (h5.set (h.next+1+1+1) (.cells .rw [.sl (h4.next+1) 0 (((apartK t a b (i*t.lights.length+k)).map encK).length+1) (.slk 0 0)])):=s5'.set (by omega) (s5'.wf _ _ c45) hw _
   refine⟨rb,by rw[get_set_other (by omega)];exact hne _ _ gl3 (by omega),q2 _ _ (.inl ⟨rfl,fin _ s55 _ (OwnSl.keep (rows:=(apartK t a b (i*t.lights.length+k+1)).map encK) ?_ (Keeps.set _ _ _) s55 fun b hb e=>?_) ?_ ?_ ?_ ?_ ?_ ?_ ?_ (get_set_same rfl) ?_⟩)⟩
   ·rw[hst,List.map_append];exact o5
   ·obtain⟨_,_,_,e2⟩:=hb;cases e2;omega
   ·rw[hst];simp
   ·rintro b ⟨_,_,_,e2⟩;cases e2;omega
   ·rw[get_set_other (by omega)];exact hne _ _ gl3 (by omega)
   ·rw[get_set_other (by omega)];exact hne _ _ gd3 (by omega)
   ·rw[get_set_other (by omega)];exact hne _ _ c1 (by omega)
   ·rw[get_set_other (by omega)];exact hne _ _ c2 (by omega)
   ·rw[get_set_other (by omega)];exact hne _ _ c3 (by omega)
   ·rw[get_set_other (by omega)];exact hne _ _ c5 (by omega)
  ·rw[decide_eq_false hte] at htl
   rw[htl] at hst
   simp only[Bool.false_eq_true, ↓reduceIte,List.append_nil] at hst
   simp(disch:=first|omega|simp only[nZ]<;>omega|fail)only[go_sem,t3,t4,t5,t7,hte]
   unfold Kround
   exact⟨rb,s34.get gl3,q2 _ _ (.inl ⟨rfl,fin _ s4 y (by rw[hst];exact oy3.mono s34) (by rw[hst];exact yn) yb (s34.get gl3) (s34.get gd3) (s34.get c1) (s34.get c2) (s34.get c3) (s34.get c4) (s34.get c5)⟩)⟩
 ·refine(hJ _ _).2 ⟨.nils,OwnSl.nil ((s5.add _).add _) 2,by simp[apartK],fun b hb=>(blkOf_nils hb).elim,?_,?_,?_,?_,?_,?_,?_,?_⟩
  ·simp only[H.next_add];omega
  all_goals simp(disch:=first|omega|simp only[nZ]<;>omega|fail)only[go_sem,q1,q2,q3,q4,q5]
 ·rcases hu with hJ7|hF
  ·obtain⟨y,oy,yn,yb,lx,gl,gd,g1,g2,g3,g4,g5⟩:=(hJ _ _).1 hJ7
   refine⟨r0,gl,by rw[hrs];simp,?_⟩
   rw[hrp]
   have s7:=oy.1
   have lt7:=s7.wf _ _ gl
   have s8:h.Sub (h7.set (h6.next+1) (.loop {r0 with st:=.exhausted})):=s7.set (by omega) lt7 hw _
   have oy8:=oy.keep (Keeps.set (h:=h7) (b:=h6.next+1) (x:=.loop {r0 with st:=.exhausted})) s8 fun b hb e=>by have:=yb b hb;omega
   have d8:(h7.set (h6.next+1) (.loop {r0 with st:=.exhausted})).get h6.next=some .dfr:=by rw[get_set_other (by omega)];exact gd
   have c8:(h7.set (h6.next+1) (.loop {r0 with st:=.exhausted})).get (h.next+1+1+1)=some (.cells .rw [y]):=by rw[get_set_other (by omega)];exact g4
   rw[hrp] at s8 oy8 d8 c8
   generalize h7.set (h6.next+1) _=h8 at s8 oy8 d8 c8⊢
   have y1:=OwnC.one oy.c
   simp(disch:=first|omega|simp only[nZ]<;>omega|fail)only[go_sem,t3,t4,t5,t7,cells_of c8,Kfin_ret1 _ _ _ d8]
   have s9:h.Sub (h8.del h6.next):=H.Sub.del s8 (by omega) hw
   refine q _ _ (OwnSl.c ?_) yn
   refine oy8.keep (S:=fun c=>c=h6.next) ⟨by rw[H.next_del];exact Nat.le_refl _,fun c z hc hn=>by rw[get_del_other hn];exact hc⟩ s9 fun b hb e=>by have:=yb b hb;omega
  ·exact hF.elim
end Try
end Go.Ab
namespace Go.Ab.Try
def alike (t:Tb)(a b:Sd):Bool:=(apartL t a b).isEmpty
theorem alike_ev {h:H}{d:Nat}{t:Tb}(hw:h.wf)(hd:DkAt h d t)(g:Good t){a b:Sd}(ha:InS a 20)(hb:InS b 20)(Q:V→H→Prop)(q:∀h',h.Sub h'→Q (.bool (alike t a b)) h'):
  Ev fnG fastA (.fn 45 [] []) [.ptr d 0,.agg (encD a),.agg (encD b)] h Q:=by
 refine Ev_body (fd:=c45) rfl rfl rfl ?_
 have s2:h.Sub ((h.add (.cells .rw [.int .i64 a.x,.int .i64 a.y,.int .i64 a.z])).add (.cells .rw [.int .i64 b.x,.int .i64 b.y,.int .i64 b.z])):=(by repeat(first|assumption|exact H.Sub.refl (by assumption)|refine H.Sub.add ?_ _|refine H.Sub.set ?_ (by first|omega|(simp only[H.next_add,H.next_set,H.next_del]<;>omega)) (by first|omega|(simp only[H.next_add,H.next_set,H.next_del]<;>omega)) (by assumption) _))
 have hap:=apart_ev (h:=(h.add (.cells .rw [.int .i64 a.x,.int .i64 a.y,.int .i64 a.z])).add (.cells .rw [.int .i64 b.x,.int .i64 b.y,.int .i64 b.z])) s2.wf (hd.mono s2) g ha hb
 simp only[encD] at hap
 simp(disch:=first|omega|simp only[nZ]<;>omega|fail)only[c45,go_sem,encD]
 refine hap _ fun x h3 o hx=>?_
 have hl:(apartL t a b).length≤24:=by
  unfold apartL
  split
  ·simp
  ·exact Nat.le_trans (apartK_len _ _ _ _) (Nat.le_trans (Nat.mul_le_mul g.eyes.2 g.lights.2) (by decide))
 have hlx:=(o.sl (by simp only[List.length_map];omega)).lenE
 have e:decide (((apartL t a b).length:Int)=0)=alike t a b:=by
  unfold alike
  cases apartL t a b with
  |nil=>rfl
  |cons p l=>simp;omega
 simp(disch:=first|omega|simp only[nZ]<;>omega|fail)only[go_sem,hlx,e]
 exact q _ (s2.trans o.1)
def matchB (t:Tb)(p r:Nat):Bool:=match t.pieces[p]?,t.pieces[r]? with
 |some a,some b=>alike t a b
 |_,_=>false
theorem match_ev {h:H}{d:Nat}{t:Tb}(hw:h.wf)(hd:DkAt h d t)(g:Good t){p r:Nat}(hp:p<t.pieces.length)(hr:r<t.pieces.length)(Q:V→H→Prop)(q:∀h',h.Sub h'→Q (.bool (matchB t p r)) h'):
  Ev fnG fastA (.fn 25 [] []) [.ptr d 0,.int .i64 (p:Int),.int .i64 (r:Int)] h Q:=by
 have hal:=alike_ev (h:=h) hw hd g (g.piece _ (List.getElem_mem hp)) (g.piece _ (List.getElem_mem hr))
 obtain⟨E,L,P,gd,aE,aL,aP⟩:=hd
 obtain⟨b1,o1,c1,cs1,rfl,hc1,hq1,hg1,hn1,hn01⟩:=aP.at hp
 obtain⟨b2,o2,c2,cs2,e2,hc2,hq2,hg2,hn2,hn02⟩:=aP.at hr
 refine Ev_body (fd:=c25) rfl rfl rfl ?_
 simp(disch:=first|omega|simp only[nZ]<;>omega|fail)only[c25,go_sem,cells_of gd,hq1 (nat_cst p),hc1,hg1,hq2 (nat_cst r),hc2,hg2,evQ_ld]
 refine hal _ fun h' s=>?_
 have e:alike t t.pieces[p] t.pieces[r]=matchB t p r:=by
  unfold matchB;rw[List.getElem?_eq_getElem hp,List.getElem?_eq_getElem hr]
 rw[e]
 simp(disch:=first|omega|simp only[nZ]<;>omega|fail)only[go_sem,cells_of gd,hc1,hc2,s.cells (cells_of gd),s.cells hc1,s.cells hc2,hg1,hg2,hq1 (nat_cst p),hq2 (nat_cst r),evQ_ld]
 exact q _ s
end Try
end Go.Ab
namespace Go.Ab.Try
theorem opened_use {h:H}{E L P:V}{t:Tb}(hw:h.wf)(ht:TbIs h (.agg [E,L,P]) t)(Q:V→H→Prop)(q0:∀h',h.Sub h'→check t≠0→Q (.tup [.nilp,.int .i64 (check t)]) h')(q1:∀h' d,h.Sub h'→check t=0→Good t→DkAt h' d t→Q (.tup [.ptr d 0,.int .i64 0]) h'):
  Ev fnG fastA (.fn 17 [] []) [.agg [E,L,P]] h Q:=
 (opened_ev hw ht).mono fun u h' hu=>by
  obtain⟨s,hu⟩:=hu
  rcases hu with⟨c,rfl⟩|⟨c,d,rfl,_,hd⟩
  ·exact q0 _ s c
  ·exact q1 _ d s c (check_iff.1 c) hd
def isPc (t:Tb)(p:Int):Bool:=decide (0≤p∧p<t.pieces.length)
theorem piece_ev {h:H}{E L P:V}{t:Tb}(hw:h.wf)(ht:TbIs h (.agg [E,L,P]) t)(p:Int)(Q:V→H→Prop)(q:∀h',h.Sub h'→Q (.bool (isPc t p)) h'):Ev fnG fastA (.fn 22 [] []) [.agg [E,L,P],.int .i64 p] h Q:=by
 obtain⟨E',L',P',e,aE,aL,aP⟩:=ht
 cases e
 have hlP:=aP.lenE
 have bP:=aP.boundE
 refine Ev_body (fd:=c22) rfl rfl rfl ?_
 have e:inB p 0 ((t.pieces.length:Int)-1)=isPc t p:=by unfold inB isPc;rw[Bool.eq_iff_iff];simp;omega
 simp(disch:=first|omega|simp only[nZ]<;>omega|fail)only[c22,go_sem,hlP,wr_in,in_ev,e]
 exact q _ ((by repeat(first|assumption|exact H.Sub.refl (by assumption)|refine H.Sub.add ?_ _|refine H.Sub.set ?_ (by first|omega|(simp only[H.next_add,H.next_set,H.next_del]<;>omega)) (by first|omega|(simp only[H.next_add,H.next_set,H.next_del]<;>omega)) (by assumption) _)))
def matchE (t:Tb)(p r:Int):Int:=if check t≠0 then check t else if isPc t p=false∨isPc t r=false then 1 else 0
def matchR (t:Tb)(p r:Int):Bool:=decide (matchE t p r=0)&&matchB t p.toNat r.toNat
theorem Match_ev {h:H}{v:V}{t:Tb}(hw:h.wf)(ht:TbIs h v t)(p r:Int)(Q:V→H→Prop)(q:∀h',h.Sub h'→Q (.tup [.bool (matchR t p r),.int .i64 (matchE t p r)]) h'):
  Ev fnG fastA (.fn 12 [] []) [v,.int .i64 p,.int .i64 r] h Q:=by
 have ht0:=ht
 obtain⟨E,L,P,rfl,aE,aL,aP⟩:=ht
 refine Ev_body (fd:=c12) rfl rfl rfl ?_
 have s1:h.Sub (h.add (.cells .rw [E,L,P])):=(by repeat(first|assumption|exact H.Sub.refl (by assumption)|refine H.Sub.add ?_ _|refine H.Sub.set ?_ (by first|omega|(simp only[H.next_add,H.next_set,H.next_del]<;>omega)) (by first|omega|(simp only[H.next_add,H.next_set,H.next_del]<;>omega)) (by assumption) _))
 have g1:(h.add (.cells .rw [E,L,P])).cells h.next=some [E,L,P]:=cells_add_new rfl
 have bad:∀h',h.Sub h'→∀e:Int,e≠0→matchE t p r=e→Q (.tup [.bool false,.int .i64 e]) h':=fun h' s e he e1=>by
  have q':=q _ s
  unfold matchR at q'
  rw[e1,decide_eq_false he,Bool.false_and] at q';exact q'
 simp(disch:=first|omega|simp only[nZ]<;>omega|fail)only[c12,go_sem]
 refine opened_use s1.wf (ht0.mono s1) _ (fun h5 s45 c=>?_) fun h5 d s15 c g hd=>?_
 ·simp(disch:=first|omega|simp only[nZ]<;>omega|fail)only[go_sem,ne_eq,c,not_false_eq_true]
  exact bad _ (s1.trans s45) _ c (by unfold matchE;rw[if_pos c])
 have s5:=s1.trans s15
 simp(disch:=first|omega|simp only[nZ]<;>omega|fail)only[go_sem,ne_eq,not_true_eq_false,s15.cells g1]
 refine piece_ev s5.wf (ht0.mono s5) p _ fun h6 s56=>?_
 have s6:=s5.trans s56
 cases cp:isPc t p
 ·simp(disch:=first|omega|simp only[nZ]<;>omega|fail)only[go_sem,Bool.not_false]
  exact bad _ s6 1 (by decide) (by unfold matchE;rw[if_neg (by simp[c]),if_pos (.inl cp)])
 simp(disch:=first|omega|simp only[nZ]<;>omega|fail)only[go_sem,Bool.not_true,(s15.trans s56).cells g1]
 refine piece_ev s6.wf (ht0.mono s6) r _ fun h7 s67=>?_
 have s7:=s6.trans s67
 cases cr:isPc t r
 ·simp(disch:=first|omega|simp only[nZ]<;>omega|fail)only[go_sem,Bool.not_false]
  exact bad _ s7 1 (by decide) (by unfold matchE;rw[if_neg (by simp[c]),if_pos (.inr cr)])
 have e1:matchE t p r=0:=by unfold matchE;rw[if_neg (by simp[c]),if_neg (by simp[cp,cr])]
 simp only[isPc,decide_eq_true_eq] at cp cr
 obtain⟨i,rfl⟩:=Int.eq_ofNat_of_zero_le cp.1
 obtain⟨k,rfl⟩:=Int.eq_ofNat_of_zero_le cr.1
 simp(disch:=first|omega|simp only[nZ]<;>omega|fail)only[go_sem,Bool.not_true]
 refine match_ev s7.wf (hd.mono (s56.trans s67)) g (by omega) (by omega) _ fun h8 s78=>?_
 simp(disch:=first|omega|simp only[nZ]<;>omega|fail)only[go_sem]
 have q':=q _ (s7.trans s78)
 unfold matchR at q'
 rw[e1] at q'
 simpa using q'
end Go.Ab.Try
namespace Go.Ab.Try
theorem indexFuncRule_ev {α:Type}{enc:α→List V}{l:List α}{p:α→Bool}{h:H}{x f:V}(hw:h.wf)(hx:SlAt h x 4 (l.map enc))(hp:∀a∈l,PureA h f [.agg (enc a)] (.bool (p a))):
  E (.fn 78 [] []) [x,f] h fun v h'=>v=.int .i64 (fidx p l 0)∧h.Sub h':=by
 have hb:=hx.boundE
 refine Ev_body (fd:=c78) rfl rfl rfl ?_
 simp -implicitDefEqProofs(maxSteps:=999999)(disch:=first|with_reducible rfl|omega|(simp only[nA,nS,nD]<;>omega)|fail)only[c78,go_sem,hx.lenE]
 refine W_count l.length (fun i s=>∃tm h',s=⟨tm,h',[]⟩∧h.Sub h'∧(Opd.t 0).ev tm=x∧(Opd.t 1).ev tm=f∧(Opd.t 7).ev tm=.int .i64 (l.length:Int)∧(Opd.t 8).ev tm=.int .i64 (i:Int)∧fidx p l 0=fidx p (l.drop i) i)
  ?_ ?_ (i:=0) (Nat.zero_le _) ⟨_,_,rfl,H.Sub.refl hw,(by simp[ev_c,ev_put]<;>rfl),(by simp[ev_c,ev_put]<;>rfl),(by simp[ev_c,ev_put]<;>rfl),(by simp only[ev_put];rfl),rfl⟩
 ·rintro i s hi ⟨tm,h',rfl,hs,e0,e1,e7,e8,e9⟩
  have hi':(i:Int)<(l.length:Int):=by omega
  obtain⟨b,o,c,cs,rfl,hc,hq,hg,hn,hn0⟩:=(hx.mono hs).at hi
  simp -implicitDefEqProofs(maxSteps:=999999)(disch:=first|with_reducible rfl|omega|(simp only[nA,nS,nD]<;>omega)|fail)only[go_sem,e0,e1,e7,e8,hi',hq (nat_cst i),hc,hg]
  refine(hp _ (List.getElem_mem hi)).use hs fun h2 hs2=>?_
  cases hpr:p l[i] with
  |true=>
   simp -implicitDefEqProofs(maxSteps:=999999)(disch:=first|with_reducible rfl|omega|(simp only[nA,nS,nD]<;>omega)|fail)only[go_sem,e0,e1,e7,e8]
   exact⟨by rw[e9,fidx_hit hi hpr],hs.trans hs2⟩
  |false=>
   simp -implicitDefEqProofs(maxSteps:=999999)(disch:=first|with_reducible rfl|omega|(simp only[nA,nS,nD]<;>omega)|fail)only[go_sem,e0,e1,e7,e8,wr_succ]
   exact⟨_,_,rfl,hs.trans hs2,(by simp[ev_c,ev_put,e0]<;>rfl),(by simp[ev_c,ev_put,e1]<;>rfl),(by simp[ev_c,ev_put,e7]<;>rfl),(by simp[ev_c,ev_put]<;>rfl),by rw[e9,fidx_miss hi hpr]⟩
 ·rintro s ⟨tm,h',rfl,hs,e0,e1,e7,e8,e9⟩
  simp -implicitDefEqProofs(maxSteps:=999999)(disch:=first|with_reducible rfl|omega|(simp only[nA,nS,nD]<;>omega)|fail)only[go_sem,e0,e1,e7,e8,Int.lt_irrefl]
  exact⟨by rw[e9];simp[fidx],hs⟩
theorem containsFuncRule_ev {α:Type}{enc:α→List V}{l:List α}{p:α→Bool}{h:H}{x f:V}(hw:h.wf)(hx:SlAt h x 4 (l.map enc))(hp:∀a∈l,PureA h f [.agg (enc a)] (.bool (p a))):
  E (.fn 62 [] []) [x,f] h fun v h'=>v=.bool (l.any p)∧h.Sub h':=by
 refine Ev_body (fd:=c62) rfl rfl rfl ?_
 simp -implicitDefEqProofs(maxSteps:=999999)(disch:=first|with_reducible rfl|omega|(simp only[nA,nS,nD]<;>omega)|fail)only[c62,go_sem]
 refine(indexFuncRule_ev hw hx hp).mono fun v h' hv=>?_
 obtain⟨rfl,hs⟩:=hv
 simp -implicitDefEqProofs(maxSteps:=999999)(disch:=first|with_reducible rfl|omega|(simp only[nA,nS,nD]<;>omega)|fail)only[go_sem]
 exact⟨by rw[fidx_any],hs⟩
theorem everyRule_ev {α:Type}{enc:α→List V}{l:List α}{p:α→Bool}{h:H}{x:V}{g:FuncId}{u w:List V}(hw:h.wf)(hx:SlAt h x 4 (l.map enc))(hp:∀a∈l,PureA h (.fn g u w) [.agg (enc a)] (.bool (p a))):
  E (.fn 46 [] []) [x,.fn g u w] h fun v h'=>v=.bool (l.all p)∧h.Sub h':=by
 refine Ev_body (fd:=c46) rfl rfl rfl ?_
 simp -implicitDefEqProofs(maxSteps:=999999)(disch:=first|with_reducible rfl|omega|(simp only[nA,nS,nD]<;>omega)|fail)only[c46,go_sem]
 have hs1:h.Sub (h.add (.cells .rw [.fn g u w])):=(H.Sub.refl hw).add _
 refine(containsFuncRule_ev (p:=fun a=> !p a) hs1.wf (hx.mono hs1) fun a ha h2 hs2=>?_).mono fun v h' hv=>?_
 ·have hc:h2.cells h.next=some [.fn g u w]:=hs2.cells (cells_add_new rfl)
  have hl:h.next<h2.next:=by have:=hs2.next;rw[H.next_add] at this;omega
  refine Ev_body (fd:=c63) rfl rfl rfl ?_
  simp -implicitDefEqProofs(maxSteps:=999999)(disch:=first|with_reducible rfl|omega|(simp only[nA,nS,nD]<;>omega)|fail)only[c63,go_sem,hc,getN_full (hx.1 _ (List.mem_map_of_mem ha))]
  refine((hp a ha).mono hs1).use (hs2.add _) fun h3 hs3=>?_
  simp -implicitDefEqProofs(maxSteps:=999999)(disch:=first|with_reducible rfl|omega|(simp only[nA,nS,nD]<;>omega)|fail)only[go_sem]
  exact(H.Sub.refl hs2.wf).add _ |>.trans hs3
 ·obtain⟨rfl,hs⟩:=hv
  simp -implicitDefEqProofs(maxSteps:=999999)(disch:=first|with_reducible rfl|omega|(simp only[nA,nS,nD]<;>omega)|fail)only[go_sem]
  exact⟨by rw[any_not],hs1.trans hs⟩
def encRu (s:Nat):List V:=[.int .i64 (-1),.int .i64 (s:Int),.int .i64 (-1),.int .i64 (10+(s:Int))]
theorem pin_ev (n lo hi:Int)(h:H)(Q:V→H→Prop):Ev fnG fastA (.fn 29 [] []) [.int .i64 n,.int .i64 lo,.int .i64 hi] h Q=Q (.bool (inB n lo hi)) h:=by
 refine Ev.det (Ev_body (fd:=c29) rfl rfl rfl ?_) Q
 by_cases c:lo≤n
 ·simp -implicitDefEqProofs(maxSteps:=999999)(disch:=first|with_reducible rfl|omega|(simp only[nA,nS,nD]<;>omega)|fail)only[c29,go_sem,c,inB]
 ·simp -implicitDefEqProofs(maxSteps:=999999)(disch:=first|with_reducible rfl|omega|(simp only[nA,nS,nD]<;>omega)|fail)only[c29,go_sem,c,inB,false_and]
theorem names_ev {h:H}(hw:h.wf)(s:Nat)(Q:V→H→Prop)(q:∀h',h.Sub h'→Q (.agg [.int .i64 (-1),.int .i64 (s:Int),.int .i64 (-1)]) h'):Ev fnG fastA (.fn 48 [] []) [.agg (encRu s)] h Q:=by
 refine Ev_body (fd:=c48) rfl rfl rfl ?_
 simp -implicitDefEqProofs(maxSteps:=999999)(disch:=first|with_reducible rfl|omega|(simp only[nA,nS,nD]<;>omega)|fail)only[c48,go_sem,encRu]
 exact q _ (by repeat(first|assumption|exact H.Sub.refl (by assumption)|refine H.Sub.add ?_ _|refine H.Sub.set ?_ (by first|omega|(simp only[H.next_add,H.next_set,H.next_del]<;>omega)) (by first|omega|(simp only[H.next_add,H.next_set,H.next_del]<;>omega)) (by assumption) _))
theorem has_ev {h:H}(hw:h.wf)(b p e:Int)(Q:V→H→Prop)(q:∀h',h.Sub h'→Q (.agg [.int .i64 b,.int .i64 p,.int .i64 e]) h'):Ev fnG fastA (.fn 79 [] []) [.agg [.int .i64 b,.int .i64 p,.int .i64 e]] h Q:=by
 refine Ev_body (fd:=c79) rfl rfl rfl ?_
 simp -implicitDefEqProofs(maxSteps:=999999)(disch:=first|with_reducible rfl|omega|(simp only[nA,nS,nD]<;>omega)|fail)only[c79,go_sem]
 exact q _ (by repeat(first|assumption|exact H.Sub.refl (by assumption)|refine H.Sub.add ?_ _|refine H.Sub.set ?_ (by first|omega|(simp only[H.next_add,H.next_set,H.next_del]<;>omega)) (by first|omega|(simp only[H.next_add,H.next_set,H.next_del]<;>omega)) (by assumption) _))
theorem isP_ev {h:H}(hw:h.wf){b p e:Int}(hb:0≤b∧b≤3)(hp:0≤p∧p≤4)(he:0≤e∧e≤2)(Q:V→H→Prop)(q:∀h',h.Sub h'→Q (.bool true) h'):Ev fnG fastA (.fn 27 [] []) [.agg [.int .i64 b,.int .i64 p,.int .i64 e]] h Q:=by
 have i1:inB b 0 3=true:=decide_eq_true hb
 have i2:inB p 0 4=true:=decide_eq_true hp
 have i3:inB e 0 2=true:=decide_eq_true he
 refine Ev_body (fd:=c27) rfl rfl rfl ?_
 simp -implicitDefEqProofs(maxSteps:=999999)(disch:=first|with_reducible rfl|omega|(simp only[nA,nS,nD]<;>omega)|fail)only[c27,go_sem,pin_ev,i1,i2,i3]
 exact q _ (by repeat(first|assumption|exact H.Sub.refl (by assumption)|refine H.Sub.add ?_ _|refine H.Sub.set ?_ (by first|omega|(simp only[H.next_add,H.next_set,H.next_del]<;>omega)) (by first|omega|(simp only[H.next_add,H.next_set,H.next_del]<;>omega)) (by assumption) _))
theorem allowed_pure {h:H}(hw:h.wf){s:Nat}(hs:s≤4):PureA h (.fn 47 [] []) [.agg (encRu s)] (.bool true):=by
 have i1:inB (-1) (-1) 3=true:=decide_eq_true (by omega)
 have i2:inB (s:Int) (-1) 4=true:=decide_eq_true (by omega)
 have i3:inB (-1) (-1) 2=true:=decide_eq_true (by omega)
 have i4:inB (10+(s:Int)) 0 500=true:=decide_eq_true (by omega)
 refine fun h1 s1=>?_
 have hw1:=s1.wf
 refine Ev_body (fd:=c47) rfl rfl rfl ?_
 simp -implicitDefEqProofs(maxSteps:=999999)(disch:=first|with_reducible rfl|omega|(simp only[nA,nS,nD]<;>omega)|fail)only[c47,go_sem,pin_ev,encRu,i1,i2,i3,i4]
 exact(H.Sub.refl hw1).add _
set_option maxHeartbeats 2000000 in
theorem many_ev1 {h:H}(hw:h.wf)(s:Nat)(Q:V→H→Prop)(q:∀h',h.Sub h'→Q (.int .i64 1) h'):Ev fnG fastA (.fn 65 [] []) [.agg (encRu s)] h Q:=by
 refine Ev_body (fd:=c65) rfl rfl rfl ?_
 have s1:=(H.Sub.refl hw).add (.cells .rw (encRu s))
 have hc:(h.add (.cells .rw (encRu s))).cells h.next=some (encRu s):=cells_add_new rfl
 simp only[encRu] at s1 hc
 simp -implicitDefEqProofs(maxSteps:=999999)(disch:=first|with_reducible rfl|omega|(simp only[nA,nS,nD]<;>omega)|fail)only[c65,go_sem,encRu]
 have e0:[V.int .i64 (-1),.int .i64 (s:Int),.int .i64 (-1),.int .i64 (10+(s:Int))]=encRu s:=rfl
 rw[e0] at s1⊢
 refine names_ev s1.wf s _ fun h2 s2=>?_
 simp -implicitDefEqProofs(maxSteps:=999999)(disch:=first|with_reducible rfl|omega|(simp only[nA,nS,nD]<;>omega)|fail)only[go_sem]
 refine W_count 3 (fun i st=>∃tm h',st=⟨tm,h',[]⟩∧h.Sub h'∧(Opd.t 7).ev tm=.agg [.int .i64 (-1),.int .i64 (s:Int),.int .i64 (-1)]∧(Opd.t 8).ev tm=.int .i64 (i:Int)∧(Opd.t 3).ev tm=.int .i64 (if i≤1 then 0 else 1)) ?_ ?_ (i:=0) (Nat.zero_le _)
  ⟨_,_,rfl,s1.trans s2,(by simp[ev_c,ev_put]<;>rfl),(by simp only[ev_put];rfl),(by simp[ev_c,ev_put]<;>rfl)⟩
 ·rintro i st hi ⟨tm,h',rfl,sh,t7,t8,t3⟩
  have hi':(i:Int)<3:=by omega
  have x0:q_idx false 3 1 (.agg [.int .i64 (-1),.int .i64 (s:Int),.int .i64 (-1)]) (.int .i64 0)=some (.int .i64 (-1)):=rfl
  have x1:q_idx false 3 1 (.agg [.int .i64 (-1),.int .i64 (s:Int),.int .i64 (-1)]) (.int .i64 1)=some (.int .i64 (s:Int)):=rfl
  have x2:q_idx false 3 1 (.agg [.int .i64 (-1),.int .i64 (s:Int),.int .i64 (-1)]) (.int .i64 2)=some (.int .i64 (-1)):=rfl
  have l0:(0:Int)<3:=by omega
  have l1:(1:Int)<3:=by omega
  have l2:(2:Int)<3:=by omega
  have nn:¬(s:Int)= -1:=by omega
  rcases(by omega:i=0∨i=1∨i=2) with rfl|rfl|rfl
  ·have t8:(Opd.t 8).ev tm=.int .i64 0:=t8
   have t3:(Opd.t 3).ev tm=.int .i64 0:=t3
   simp -implicitDefEqProofs(maxSteps:=999999)(disch:=first|with_reducible rfl|omega|(simp only[nA,nS,nD]<;>omega)|fail)only[go_sem,t3,t7,t8,x0,l0,ne_eq,not_true_eq_false]
   exact⟨_,_,rfl,sh,(by simp[ev_c,ev_put,t7]<;>rfl),(by simp[ev_c,ev_put]<;>rfl),(by simp[ev_c,ev_put,t3]<;>rfl)⟩
  ·have t8:(Opd.t 8).ev tm=.int .i64 1:=t8
   have t3:(Opd.t 3).ev tm=.int .i64 0:=t3
   simp -implicitDefEqProofs(maxSteps:=999999)(disch:=first|with_reducible rfl|omega|(simp only[nA,nS,nD]<;>omega)|fail)only[go_sem,t3,t7,t8,x1,l1,ne_eq,nn,not_false_eq_true]
   exact⟨_,_,rfl,sh,(by simp[ev_c,ev_put,t7]<;>rfl),(by simp[ev_c,ev_put]<;>rfl),(by simp[ev_c,ev_put]<;>rfl)⟩
  ·have t8:(Opd.t 8).ev tm=.int .i64 2:=t8
   have t3:(Opd.t 3).ev tm=.int .i64 1:=t3
   simp -implicitDefEqProofs(maxSteps:=999999)(disch:=first|with_reducible rfl|omega|(simp only[nA,nS,nD]<;>omega)|fail)only[go_sem,t3,t7,t8,x2,l2,ne_eq,not_true_eq_false]
   exact⟨_,_,rfl,sh,(by simp[ev_c,ev_put,t7]<;>rfl),(by simp[ev_c,ev_put]<;>rfl),(by simp[ev_c,ev_put,t3]<;>rfl)⟩
 ·rintro st ⟨tm,h',rfl,sh,t7,t8,t3⟩
  have t8:(Opd.t 8).ev tm=.int .i64 3:=t8
  have t3:(Opd.t 3).ev tm=.int .i64 1:=t3
  simp -implicitDefEqProofs(maxSteps:=999999)(disch:=first|with_reducible rfl|omega|(simp only[nA,nS,nD]<;>omega)|fail)only[go_sem,t3,t7,t8,Int.lt_irrefl]
  exact q _ sh
set_option maxHeartbeats 2000000 in
theorem holds_ev {h:H}(hw:h.wf)(s:Nat)(b p e:Int)(Q:V→H→Prop)(q:∀h',h.Sub h'→Q (.bool (decide ((s:Int)=p))) h'):Ev fnG fastA (.fn 64 [] []) [.agg (encRu s),.agg [.int .i64 b,.int .i64 p,.int .i64 e]] h Q:=by
 refine Ev_body (fd:=c64) rfl rfl rfl ?_
 obtain⟨z,hz⟩:∃z,(h.add (.cells .rw (encRu s))).add (.cells .rw [.int .i64 b,.int .i64 p,.int .i64 e])=z:=⟨_,rfl⟩
 have s1:h.Sub z:=by rw[←hz];exact(by repeat(first|assumption|exact H.Sub.refl (by assumption)|refine H.Sub.add ?_ _|refine H.Sub.set ?_ (by first|omega|(simp only[H.next_add,H.next_set,H.next_del]<;>omega)) (by first|omega|(simp only[H.next_add,H.next_set,H.next_del]<;>omega)) (by assumption) _))
 have g1:z.cells h.next=some (encRu s):=by rw[←hz];simp -implicitDefEqProofs(maxSteps:=999999)(disch:=first|with_reducible rfl|omega|(simp only[nA,nS,nD]<;>omega)|fail)only[go_sem]
 have g2:z.cells (h.next+1)=some [.int .i64 b,.int .i64 p,.int .i64 e]:=by rw[←hz];simp -implicitDefEqProofs(maxSteps:=999999)(disch:=first|with_reducible rfl|omega|(simp only[nA,nS,nD]<;>omega)|fail)only[go_sem]
 simp only[encRu] at hz g1
 simp -implicitDefEqProofs(maxSteps:=999999)(disch:=first|with_reducible rfl|omega|(simp only[nA,nS,nD]<;>omega)|fail)only[c64,go_sem,encRu]
 rw[hz]
 refine has_ev s1.wf b p e _ fun h2 s2=>?_
 have s3:=(H.Sub.refl s2.wf).add (.cells .rw [.int .i64 b,.int .i64 p,.int .i64 e])
 have g3:(h2.add (.cells .rw [.int .i64 b,.int .i64 p,.int .i64 e])).cells h2.next=some [.int .i64 b,.int .i64 p,.int .i64 e]:=cells_add_new rfl
 simp -implicitDefEqProofs(maxSteps:=999999)(disch:=first|with_reducible rfl|omega|(simp only[nA,nS,nD]<;>omega)|fail)only[go_sem,(s2.trans s3).cells g1]
 generalize h2.add (.cells .rw [.int .i64 b,.int .i64 p,.int .i64 e])=h3 at s3 g3⊢
 have e0:[V.int .i64 (-1),.int .i64 (s:Int),.int .i64 (-1),.int .i64 (10+(s:Int))]=encRu s:=rfl
 rw[e0]
 refine names_ev s3.wf s _ fun h4 s4=>?_
 simp -implicitDefEqProofs(maxSteps:=999999)(disch:=first|with_reducible rfl|omega|(simp only[nA,nS,nD]<;>omega)|fail)only[go_sem]
 have sA:=(s1.trans s2).trans (s3.trans s4)
 have g4:=s4.cells g3
 refine W_count 3 (fun i st=>∃tm,st=⟨tm,h4,[]⟩∧(2≤i→(s:Int)=p)∧(Opd.t 5).ev tm=.ptr h2.next 0∧(Opd.t 11).ev tm=.agg [.int .i64 (-1),.int .i64 (s:Int),.int .i64 (-1)]∧(Opd.t 12).ev tm=.int .i64 (i:Int)) ?_ ?_ (i:=0) (Nat.zero_le _)
  ⟨_,rfl,fun h=>by omega,(by simp[ev_c,ev_put]<;>rfl),(by simp[ev_c,ev_put]<;>rfl),(by simp only[ev_put];rfl)⟩
 ·rintro i st hi ⟨tm,rfl,hsp,t5,t11,t12⟩
  have x0:q_idx false 3 1 (.agg [.int .i64 (-1),.int .i64 (s:Int),.int .i64 (-1)]) (.int .i64 0)=some (.int .i64 (-1)):=rfl
  have x1:q_idx false 3 1 (.agg [.int .i64 (-1),.int .i64 (s:Int),.int .i64 (-1)]) (.int .i64 1)=some (.int .i64 (s:Int)):=rfl
  have x2:q_idx false 3 1 (.agg [.int .i64 (-1),.int .i64 (s:Int),.int .i64 (-1)]) (.int .i64 2)=some (.int .i64 (-1)):=rfl
  have iA:q_iaa 3 1 (.ptr h2.next 0) (.int .i64 1)=some (.ptr h2.next 1):=rfl
  have l0:(0:Int)<3:=by omega
  have l1:(1:Int)<3:=by omega
  have l2:(2:Int)<3:=by omega
  have nn:¬(s:Int)= -1:=by omega
  rcases(by omega:i=0∨i=1∨i=2) with rfl|rfl|rfl
  ·have t12:(Opd.t 12).ev tm=.int .i64 0:=t12
   simp -implicitDefEqProofs(maxSteps:=999999)(disch:=first|with_reducible rfl|omega|(simp only[nA,nS,nD]<;>omega)|fail)only[go_sem,t5,t11,t12,x0,l0,ne_eq,not_true_eq_false]
   exact⟨_,rfl,fun h=>h.elim,(by simp[ev_c,ev_put,t5]<;>rfl),(by simp[ev_c,ev_put,t11]<;>rfl),(by simp[ev_c,ev_put]<;>rfl)⟩
  ·have t12:(Opd.t 12).ev tm=.int .i64 1:=t12
   by_cases hp:(s:Int)=p
   ·subst hp
    simp -implicitDefEqProofs(maxSteps:=999999)(disch:=first|with_reducible rfl|omega|(simp only[nA,nS,nD]<;>omega)|fail)only[go_sem,t5,t11,t12,x1,l1,iA,g4,ne_eq,nn,not_false_eq_true,not_true_eq_false]
    exact⟨_,rfl,fun _=>by first|rfl|trivial,(by simp[ev_c,ev_put,t5]<;>rfl),(by simp[ev_c,ev_put,t11]<;>rfl),(by simp[ev_c,ev_put]<;>rfl)⟩
   ·simp -implicitDefEqProofs(maxSteps:=999999)(disch:=first|with_reducible rfl|omega|(simp only[nA,nS,nD]<;>omega)|fail)only[go_sem,t5,t11,t12,x1,l1,iA,g4,ne_eq,nn,hp,not_false_eq_true]
    have:=q h4 sA
    rw[decide_eq_false hp] at this;exact this
  ·have t12:(Opd.t 12).ev tm=.int .i64 2:=t12
   simp -implicitDefEqProofs(maxSteps:=999999)(disch:=first|with_reducible rfl|omega|(simp only[nA,nS,nD]<;>omega)|fail)only[go_sem,t5,t11,t12,x2,l2,ne_eq,not_true_eq_false]
   exact⟨_,rfl,fun _=>hsp (by omega),(by simp[ev_c,ev_put,t5]<;>rfl),(by simp[ev_c,ev_put,t11]<;>rfl),(by simp[ev_c,ev_put]<;>rfl)⟩
 ·rintro st ⟨tm,rfl,hsp,t5,t11,t12⟩
  have t12:(Opd.t 12).ev tm=.int .i64 3:=t12
  simp -implicitDefEqProofs(maxSteps:=999999)(disch:=first|with_reducible rfl|omega|(simp only[nA,nS,nD]<;>omega)|fail)only[go_sem,t5,t11,t12,Int.lt_irrefl]
  have:=q h4 sA
  rw[decide_eq_true (hsp (by omega))] at this;exact this
end Go.Ab.Try
namespace Go.Ab.Try
theorem pgreatest_ev {h:H}{x:V}{l:List Int}(hx:SlAt h x 1 (l.map encI))(Q:V→H→Prop):Ev fnG fastA (.fn 66 [] []) [x] h Q=Q (.int .i64 (l.foldl max 0)) h:=by
 have hb:=hx.boundE
 refine Ev.det (Ev_body (fd:=c66) rfl rfl rfl ?_) Q
 simp -implicitDefEqProofs(maxSteps:=999999)(disch:=first|with_reducible rfl|omega|(simp only[nA,nS,nD]<;>omega)|fail)only[c66,go_sem,hx.lenE]
 refine W_count l.length (fun i s=>∃tm,s=⟨tm,h,[]⟩∧(Opd.t 3).ev tm=.int .i64 ((l.take i).foldl max 0)∧(Opd.t 6).ev tm=x∧(Opd.t 7).ev tm=.int .i64 (l.length:Int)∧(Opd.t 8).ev tm=.int .i64 (i:Int))
  ?_ ?_ (i:=0) (Nat.zero_le _) ⟨_,rfl,(by simp[ev_c,ev_put]<;>rfl),(by simp[ev_c,ev_put]<;>rfl),(by simp[ev_c,ev_put]<;>rfl),(by simp[ev_c,ev_put]<;>rfl)⟩
 ·rintro i s hi ⟨tm,rfl,t3,t6,t7,t8⟩
  have hi':(i:Int)<(l.length:Int):=by omega
  obtain⟨b,o,c,cs,rfl,hc,hq,hg,hn,hn0⟩:=hx.at hi
  have e1:(l.take (i+1)).foldl max 0=max ((l.take i).foldl max 0) l[i]:=by
   rw[List.take_succ_eq_append_getElem hi,List.foldl_append];rfl
  simp -implicitDefEqProofs(maxSteps:=999999)(disch:=first|with_reducible rfl|omega|(simp only[nA,nS,nD]<;>omega)|fail)only[go_sem,t3,t6,t7,t8,hi',hq (nat_cst i),hc,hn0 (by omega),encI,wr_succ]
  exact⟨_,rfl,by rw[e1];exact(by simp[ev_c,ev_put]<;>rfl),(by simp[ev_c,ev_put,t6]<;>rfl),(by simp[ev_c,ev_put,t7]<;>rfl),(by simp[ev_c,ev_put]<;>rfl)⟩
 ·rintro s ⟨tm,rfl,t3,t6,t7,t8⟩
  rw[List.take_length] at t3
  simp -implicitDefEqProofs(maxSteps:=999999)(disch:=first|with_reducible rfl|omega|(simp only[nA,nS,nD]<;>omega)|fail)only[go_sem,t3,t6,t7,t8,Int.lt_irrefl]
def onS (sh:List Nat)(p:Int):List Int:=(sh.filter fun s:Nat=>decide ((s:Int)=p)).map fun _=>1
theorem onS_app (l:List Nat)(s:Nat)(p:Int):onS (l++[s]) p=onS l p++(if(s:Int)=p then[1] else[]):=by
 by_cases h:(s:Int)=p<;>simp[onS,List.filter_append,h]
theorem onS_le (l:List Nat)(p:Int):(onS l p).length≤l.length:=by simp only[onS,List.length_map];exact List.length_filter_le _ _
theorem onS_max:∀(l:List Nat) (p:Int),(∃s∈l,(s:Int)=p)→(onS l p).foldl max 0=1:=fun l p h=>by
 have h1:∀(l:List Int) (n:Int),(∀x∈l,x=1)→(n=0∨n=1)→l.foldl max n=if l=[] then n else 1:=fun l=>by
  induction l with
  |nil=>intro n _ _;rfl
  |cons a l ih=>
   intro n hx hn
   have ha:a=1:=hx a (by simp)
   subst ha
   have e:max n 1=1:=by omega
   rw[List.foldl_cons,e,ih 1 (fun x hx'=>hx x (by simp[hx'])) (.inr rfl)]
   split<;>simp
 rw[h1 _ 0 (fun x hx=>by simp only[onS,List.mem_map] at hx;obtain⟨_,_,e⟩:=hx;exact e.symm) (.inl rfl),if_neg]
 obtain⟨s,hs,e⟩:=h
 intro hn
 have:s∈l.filter fun s:Nat=>decide ((s:Int)=p):=List.mem_filter.2 ⟨hs,by simpa using e⟩
 simp only[onS,List.map_eq_nil_iff] at hn
 rw[hn] at this;simp at this
def cntT (sh:List Nat)(p:Int):Nat→List Int
 |0=>[]
 |i+1=>cntT sh p i++(if(sh[i]?).any fun s:Nat=>decide ((s:Int)=p) then[(i:Int)] else[])
theorem cntT_le (sh:List Nat)(p:Int):∀i,(cntT sh p i).length≤i
 |0=>by simp[cntT]
 |i+1=>by
  have:=cntT_le sh p i
  simp only[cntT,List.length_append]
  split<;>simp<;>omega
set_option maxHeartbeats 4000000 in
theorem counts_ev {h:H}{x:V}{sh:List Nat}(hw:h.wf)(hx:SlAt h x 4 (sh.map encRu))(hl:sh.length≤100)(b p e:Int)(Q:V→H→Prop)(q:∀y h',h.Sub h'→SlAt h' y 1 ((cntT sh p sh.length).map encI)→Q y h'):
  Ev fnG fastA (.fn 49 [] []) [x,.agg [.int .i64 b,.int .i64 p,.int .i64 e]] h Q:=by
 refine Ev_body (fd:=c49) rfl rfl rfl ?_
 have hlen:=hx.lenE
 have s0:=(H.Sub.refl hw).add (.cells .rw [.int .i64 b,.int .i64 p,.int .i64 e])
 have g0:(h.add (.cells .rw [.int .i64 b,.int .i64 p,.int .i64 e])).cells h.next=some [.int .i64 b,.int .i64 p,.int .i64 e]:=cells_add_new rfl
 have l0:(h.add (.cells .rw [.int .i64 b,.int .i64 p,.int .i64 e])).next=h.next+1:=H.next_add _ _
 simp -implicitDefEqProofs(maxSteps:=999999)(disch:=first|with_reducible rfl|omega|(simp only[nA,nS,nD]<;>omega)|fail)only[c49,go_sem,hlen]
 generalize h.add (.cells .rw [.int .i64 b,.int .i64 p,.int .i64 e])=h0 at s0 g0 l0⊢
 refine W_count sh.length (fun i s=>∃tm h' Y,s=⟨tm,h',[]⟩∧OwnSl h0 h' Y 1 ((onS (sh.take i) p).map encI)∧(Opd.t 0).ev tm=x∧(Opd.t 3).ev tm=.ptr h.next 0∧(Opd.t 5).ev tm=Y∧(Opd.t 12).ev tm=x∧(Opd.t 13).ev tm=.int .i64 (sh.length:Int)∧(Opd.t 14).ev tm=.int .i64 (i:Int))
  ?_ ?_ (i:=0) (Nat.zero_le _) ⟨_,_,.nils,rfl,OwnSl.nil (H.Sub.refl s0.wf) 1,(by simp[ev_c,ev_put]<;>rfl),(by simp[ev_c,ev_put]<;>rfl),(by simp[ev_c,ev_put]<;>rfl),(by simp[ev_c,ev_put]<;>rfl),(by simp[ev_c,ev_put]<;>rfl),(by simp only[ev_put];rfl)⟩
 ·rintro i s hi ⟨tm,h',Y,rfl,oY,t0,t3,t5,t12,t13,t14⟩
  have hi':(i:Int)<(sh.length:Int):=by omega
  have s1:=oY.1
  obtain⟨b2,o2,c2,cs2,_,hc2,hq2,hg2,_,_⟩:=(hx.mono (s0.trans s1)).at hi
  have sA:=(H.Sub.refl s1.wf).add (.cells .rw (encRu sh[i]))
  have gA:(h'.add (.cells .rw (encRu sh[i]))).cells h'.next=some (encRu sh[i]):=cells_add_new rfl
  simp only[encRu] at hg2 sA gA
  simp -implicitDefEqProofs(maxSteps:=999999)(disch:=first|with_reducible rfl|omega|(simp only[nA,nS,nD]<;>omega)|fail)only[go_sem,t0,t3,t5,t12,t13,t14,hi',hq2 (nat_cst i),hc2,hg2,(s1.trans sA).cells g0]
  generalize hz:h'.add _=hA at sA gA⊢
  clear hz
  have e0:[V.int .i64 (-1),.int .i64 (sh[i]:Int),.int .i64 (-1),.int .i64 (10+(sh[i]:Int))]=encRu sh[i]:=rfl
  rw[e0] at gA⊢
  have et:onS (sh.take (i+1)) p=onS (sh.take i) p++(if(sh[i]:Int)=p then[1] else[]):=by rw[List.take_succ_eq_append_getElem hi,onS_app]
  refine holds_ev sA.wf sh[i] b p e _ fun h2 s2=>?_
  by_cases hp:(sh[i]:Int)=p
  ·have g2:=s2.cells gA
   have dp:decide ((sh[i]:Int)=p)=true:=decide_eq_true hp
   rw[if_pos hp] at et
   rw[dp]
   simp only[encRu] at g2
   simp -implicitDefEqProofs(maxSteps:=999999)(disch:=first|with_reducible rfl|omega|(simp only[nA,nS,nD]<;>omega)|fail)only[go_sem,t0,t3,t5,t12,t13,t14,g2]
   rw[e0]
   refine many_ev1 s2.wf sh[i] _ fun h3 s3=>?_
   have sB:=(H.Sub.refl s3.wf).add (.cells .rw [.int .i64 1])
   have hle:=onS_le (sh.take i) p
   rw[List.length_take] at hle
   simp -implicitDefEqProofs(maxSteps:=999999)(disch:=first|with_reducible rfl|omega|(simp only[nA,nS,nD]<;>omega)|fail)only[go_sem,t0,t3,t5,t12,t13,t14]
   refine(oY.mono (((sA.trans s2).trans s3).trans sB)).app1 (by_:=8) (r:=encI 1) s0.wf rfl (by omega) own1_lit rfl (by rw[List.length_map];omega) (by rw[List.length_map];omega) fun h4 o4 k4 n4=>?_
   rw[H.next_add] at o4
   simp -implicitDefEqProofs(maxSteps:=999999)(disch:=first|with_reducible rfl|omega|(simp only[nA,nS,nD]<;>omega)|fail)only[go_sem,t0,t3,t5,t12,t13,t14,wr_succ]
   exact⟨_,_,_,rfl,by rw[et,List.map_append];exact o4,(by simp[ev_c,ev_put,t0]<;>rfl),(by simp[ev_c,ev_put,t3]<;>rfl),(by simp[ev_c,ev_put]<;>rfl),(by simp[ev_c,ev_put,t12]<;>rfl),(by simp[ev_c,ev_put,t13]<;>rfl),(by simp[ev_c,ev_put]<;>rfl)⟩
  ·have dp:decide ((sh[i]:Int)=p)=false:=decide_eq_false hp
   rw[if_neg hp,List.append_nil] at et
   rw[dp]
   simp -implicitDefEqProofs(maxSteps:=999999)(disch:=first|with_reducible rfl|omega|(simp only[nA,nS,nD]<;>omega)|fail)only[go_sem,t0,t3,t5,t12,t13,t14,wr_succ]
   exact⟨_,_,Y,rfl,by rw[et];exact oY.mono (sA.trans s2),(by simp[ev_c,ev_put,t0]<;>rfl),(by simp[ev_c,ev_put,t3]<;>rfl),(by simp[ev_c,ev_put,t5]<;>rfl),(by simp[ev_c,ev_put,t12]<;>rfl),(by simp[ev_c,ev_put,t13]<;>rfl),(by simp[ev_c,ev_put]<;>rfl)⟩
 ·rintro s ⟨tm,h',Y,rfl,oY,t0,t3,t5,t12,t13,t14⟩
  have s1:=oY.1
  rw[List.take_length] at oY
  have hle:=onS_le sh p
  have aY:=oY.sl (by rw[List.length_map];omega)
  simp -implicitDefEqProofs(maxSteps:=999999)(disch:=first|with_reducible rfl|omega|(simp only[nA,nS,nD]<;>omega)|fail)only[go_sem,t0,t3,t5,t12,t13,t14,Int.lt_irrefl,pgreatest_ev aY,hlen]
  obtain⟨M,hM⟩:∃M,(onS sh p).foldl max 0=M:=⟨_,rfl⟩
  rw[hM]
  refine W_count sh.length (fun i s=>∃tm h2 Z,s=⟨tm,h2,[]⟩∧OwnSl h' h2 Z 1 ((cntT sh p i).map encI)∧(Opd.t 3).ev tm=.ptr h.next 0∧(Opd.t 8).ev tm=.int .i64 M∧(Opd.t 9).ev tm=Z∧(Opd.t 29).ev tm=x∧(Opd.t 30).ev tm=.int .i64 (sh.length:Int)∧(Opd.t 31).ev tm=.int .i64 (i:Int))
   ?_ ?_ (i:=0) (Nat.zero_le _) ⟨_,_,.nils,rfl,OwnSl.nil (H.Sub.refl s1.wf) 1,(by simp[ev_c,ev_put,t3]<;>rfl),(by simp[ev_c,ev_put]<;>rfl),(by simp[ev_c,ev_put]<;>rfl),(by simp[ev_c,ev_put]<;>rfl),(by simp[ev_c,ev_put]<;>rfl),(by simp only[ev_put];rfl)⟩<;>clear t0 t3 t5 t12 t13 t14
  ·rintro i s hi ⟨tm,h2,Z,rfl,oZ,t3,t8,t9,t29,t30,t31⟩
   have hi':(i:Int)<(sh.length:Int):=by omega
   have s2:=oZ.1
   have s02:=s1.trans s2
   obtain⟨b2,o2,c2,cs2,_,hc2,hq2,hg2,_,_⟩:=(hx.mono (s0.trans s02)).at hi
   have sA:=(H.Sub.refl s2.wf).add (.cells .rw (encRu sh[i]))
   have gA:(h2.add (.cells .rw (encRu sh[i]))).cells h2.next=some (encRu sh[i]):=cells_add_new rfl
   simp only[encRu] at hg2 sA gA
   simp -implicitDefEqProofs(maxSteps:=999999)(disch:=first|with_reducible rfl|omega|(simp only[nA,nS,nD]<;>omega)|fail)only[go_sem,t3,t8,t9,t29,t30,t31,hi',hq2 (nat_cst i),hc2,hg2,(s02.trans sA).cells g0]
   generalize hz:h2.add _=hA at sA gA⊢
   clear hz
   have e0:[V.int .i64 (-1),.int .i64 (sh[i]:Int),.int .i64 (-1),.int .i64 (10+(sh[i]:Int))]=encRu sh[i]:=rfl
   rw[e0] at gA⊢
   have et:cntT sh p (i+1)=cntT sh p i++(if(sh[i]:Int)=p then[(i:Int)] else[]):=by
    simp only[cntT,List.getElem?_eq_getElem hi,Option.any_some,decide_eq_true_eq]
   refine holds_ev sA.wf sh[i] b p e _ fun h3 s3=>?_
   by_cases hp:(sh[i]:Int)=p
   ·have g3:=s3.cells gA
    have dp:decide ((sh[i]:Int)=p)=true:=decide_eq_true hp
    have hM1:M=1:=by rw[←hM];exact onS_max sh p ⟨sh[i],List.getElem_mem hi,hp⟩
    subst hM1
    rw[if_pos hp] at et
    rw[dp]
    simp only[encRu] at g3
    simp -implicitDefEqProofs(maxSteps:=999999)(disch:=first|with_reducible rfl|omega|(simp only[nA,nS,nD]<;>omega)|fail)only[go_sem,t3,t8,t9,t29,t30,t31,g3]
    rw[e0]
    refine many_ev1 s3.wf sh[i] _ fun h4 s4=>?_
    have sB:=(H.Sub.refl s4.wf).add (.cells .rw [.int .i64 (i:Int)])
    have hle2:=cntT_le sh p i
    simp -implicitDefEqProofs(maxSteps:=999999)(disch:=first|with_reducible rfl|omega|(simp only[nA,nS,nD]<;>omega)|fail)only[go_sem,t3,t8,t9,t29,t30,t31]
    refine(oZ.mono (((sA.trans s3).trans s4).trans sB)).app1 (by_:=8) (r:=encI (i:Int)) s1.wf rfl (by omega) own1_lit rfl (by rw[List.length_map];omega) (by rw[List.length_map];omega) fun h5 o5 k5 n5=>?_
    rw[H.next_add] at o5
    simp -implicitDefEqProofs(maxSteps:=999999)(disch:=first|with_reducible rfl|omega|(simp only[nA,nS,nD]<;>omega)|fail)only[go_sem,t3,t8,t9,t29,t30,t31,wr_succ]
    exact⟨_,_,_,rfl,by rw[et,List.map_append];exact o5,(by simp[ev_c,ev_put,t3]<;>rfl),(by simp[ev_c,ev_put,t8]<;>rfl),(by simp[ev_c,ev_put]<;>rfl),(by simp[ev_c,ev_put,t29]<;>rfl),(by simp[ev_c,ev_put,t30]<;>rfl),(by simp[ev_c,ev_put]<;>rfl)⟩
   ·have dp:decide ((sh[i]:Int)=p)=false:=decide_eq_false hp
    rw[if_neg hp,List.append_nil] at et
    rw[dp]
    simp -implicitDefEqProofs(maxSteps:=999999)(disch:=first|with_reducible rfl|omega|(simp only[nA,nS,nD]<;>omega)|fail)only[go_sem,t3,t8,t9,t29,t30,t31,wr_succ]
    exact⟨_,_,Z,rfl,by rw[et];exact oZ.mono (sA.trans s3),(by simp[ev_c,ev_put,t3]<;>rfl),(by simp[ev_c,ev_put,t8]<;>rfl),(by simp[ev_c,ev_put,t9]<;>rfl),(by simp[ev_c,ev_put,t29]<;>rfl),(by simp[ev_c,ev_put,t30]<;>rfl),(by simp[ev_c,ev_put]<;>rfl)⟩
  ·rintro s ⟨tm,h2,Z,rfl,oZ,t3,t8,t9,t29,t30,t31⟩
   have hle2:=cntT_le sh p sh.length
   simp -implicitDefEqProofs(maxSteps:=999999)(disch:=first|with_reducible rfl|omega|(simp only[nA,nS,nD]<;>omega)|fail)only[go_sem,t3,t8,t9,t29,t30,t31,Int.lt_irrefl]
   exact q _ _ (s0.trans (s1.trans oZ.1)) (oZ.sl (by rw[List.length_map];omega))
def hasS (sh:List Nat)(p:Int):Bool:=sh.any fun s:Nat=>decide ((s:Int)=p)
def prP (sh:List Nat)(p:Int):Int:=if hasS sh p then 10+p else 0
def erP (sh:List Nat)(p:Int):Int:=if hasS sh p then 0 else 6
theorem cnt_cases {sh:List Nat}(nd:sh.Nodup)(p:Int):∀i,i≤sh.length→(cntT sh p i=[]∧∀(j:Nat) (hj:j<sh.length),j<i→(sh[j]:Int)≠p)∨∃(j:Nat) (hj:j<sh.length),j<i∧(sh[j]:Int)=p∧cntT sh p i=[(j:Int)]
 |0,_=>.inl ⟨rfl,fun j _ h=>by omega⟩
 |i+1,h=>by
  have hi:i<sh.length:=by omega
  have et:cntT sh p (i+1)=cntT sh p i++(if(sh[i]:Int)=p then[(i:Int)] else[]):=by
   simp only[cntT,List.getElem?_eq_getElem hi,Option.any_some,decide_eq_true_eq]
  rw[et]
  rcases cnt_cases nd p i (by omega) with⟨e,hn⟩|⟨j,hj,hji,ep,e⟩
  ·by_cases hp:(sh[i]:Int)=p
   ·exact .inr ⟨i,hi,by omega,hp,by rw[e,if_pos hp];rfl⟩
   ·refine .inl ⟨by rw[e,if_neg hp];rfl,fun j hj h1=>?_⟩
    by_cases e2:j=i
    ·subst e2;exact hp
    ·exact hn j hj (by omega)
  ·by_cases hp:(sh[i]:Int)=p
   ·exfalso
    have:sh[i]=sh[j]:=by have:=hp.trans ep.symm;omega
    exact List.pairwise_iff_getElem.1 nd j i hj hi hji this.symm
   ·exact .inr ⟨j,hj,by omega,ep,by rw[e,if_neg hp];rfl⟩
theorem cnt_all {sh:List Nat}(nd:sh.Nodup)(p:Int):(hasS sh p=false∧cntT sh p sh.length=[])∨(hasS sh p=true∧∃(j:Nat) (hj:j<sh.length),(sh[j]:Int)=p∧cntT sh p sh.length=[(j:Int)]):=by
 rcases cnt_cases nd p sh.length (Nat.le_refl _) with⟨e,hn⟩|⟨j,hj,_,ep,e⟩
 ·refine .inl ⟨?_,e⟩
  simp only[hasS,List.any_eq_false,decide_eq_true_eq]
  intro s hs
  obtain⟨j,hj,rfl⟩:=List.getElem_of_mem hs
  exact hn j hj hj
 ·refine .inr ⟨?_,j,hj,ep,e⟩
  simp only[hasS,List.any_eq_true,decide_eq_true_eq]
  exact⟨_,List.getElem_mem hj,ep⟩
set_option maxHeartbeats 4000000 in
theorem priced_ev {h:H}{x:V}{sh:List Nat}(hw:h.wf)(hx:SlAt h x 4 (sh.map encRu))(hl:sh.length≤100)(nd:sh.Nodup)(b p e:Int)(Q:V→H→Prop)(q:∀h',h.Sub h'→Q (.tup [.int .i64 (prP sh p),.int .i64 (erP sh p)]) h'):
  Ev fnG fastA (.fn 28 [] []) [x,.agg [.int .i64 b,.int .i64 p,.int .i64 e]] h Q:=by
 refine Ev_body (fd:=c28) rfl rfl rfl ?_
 have s0:h.Sub ((h.add (.cells .rw [.int .i64 b,.int .i64 p,.int .i64 e])).add (.map [])):=(by repeat(first|assumption|exact H.Sub.refl (by assumption)|refine H.Sub.add ?_ _|refine H.Sub.set ?_ (by first|omega|(simp only[H.next_add,H.next_set,H.next_del]<;>omega)) (by first|omega|(simp only[H.next_add,H.next_set,H.next_del]<;>omega)) (by assumption) _))
 have g0:((h.add (.cells .rw [.int .i64 b,.int .i64 p,.int .i64 e])).add (.map [])).cells h.next=some [.int .i64 b,.int .i64 p,.int .i64 e]:=by simp -implicitDefEqProofs(maxSteps:=999999)(disch:=first|with_reducible rfl|omega|(simp only[nA,nS,nD]<;>omega)|fail)only[go_sem]
 have gm:((h.add (.cells .rw [.int .i64 b,.int .i64 p,.int .i64 e])).add (.map [])).get (h.next+1)=some (.map []):=by simp -implicitDefEqProofs(maxSteps:=999999)(disch:=first|with_reducible rfl|omega|(simp only[nA,nS,nD]<;>omega)|fail)only[go_sem]
 have l0:((h.add (.cells .rw [.int .i64 b,.int .i64 p,.int .i64 e])).add (.map [])).next=h.next+2:=by simp only[H.next_add]
 simp -implicitDefEqProofs(maxSteps:=999999)(disch:=first|with_reducible rfl|omega|(simp only[nA,nS,nD]<;>omega)|fail)only[c28,go_sem]
 generalize(h.add (.cells .rw [.int .i64 b,.int .i64 p,.int .i64 e])).add (.map [])=h0 at s0 g0 gm l0⊢
 refine counts_ev s0.wf (hx.mono s0) hl b p e _ fun y h1 s1 ay=>?_
 have gm1:=s1.get gm
 rcases cnt_all nd p with⟨hn,ec⟩|⟨hn,j,hj,ep,ec⟩
 ·rw[ec] at ay
  have hy:=ay.lenE
  have hy:q_len y=some (.int .i64 0):=hy
  simp -implicitDefEqProofs(maxSteps:=999999)(disch:=first|with_reducible rfl|omega|(simp only[nA,nS,nD]<;>omega)|fail)only[go_sem,hy]
  refine W_count 0 (fun i s=>∃tm,s=⟨tm,h1,[]⟩∧(Opd.t 6).ev tm=.map (h.next+1)∧(Opd.t 7).ev tm=.int .i64 0∧(Opd.t 14).ev tm=.int .i64 0∧(Opd.t 15).ev tm=.int .i64 (i:Int)) ?_ ?_ (i:=0) (Nat.zero_le _) ⟨_,rfl,(by simp[ev_c,ev_put]<;>rfl),(by simp[ev_c,ev_put]<;>rfl),(by simp[ev_c,ev_put]<;>rfl),(by simp only[ev_put];rfl)⟩
  ·intro i s hi;omega
  ·rintro s ⟨tm,rfl,t6,t7,t14,t15⟩
   have t15:(Opd.t 15).ev tm=.int .i64 0:=t15
   have ln:q_lnm h1 (.map (h.next+1))=some (.int .i64 0):=by simp only[q_lnm,gm1];rfl
   simp -implicitDefEqProofs(maxSteps:=999999)(disch:=first|with_reducible rfl|omega|(simp only[nA,nS,nD]<;>omega)|fail)only[go_sem,t6,t7,t14,t15,Int.lt_irrefl,ln]
   have:=q h1 (s0.trans s1)
   simp only[prP,erP,hn,Bool.false_eq_true,if_false] at this
   exact this
 ·rw[ec] at ay
  have hy:q_len y=some (.int .i64 1):=ay.lenE
  have lx:=(hx.mono (s0.trans s1)).at hj
  obtain⟨b1,o1,c1',cs1,_,hc1,hq1,_,_,hn1⟩:=ay.at (l:=[(j:Int)]) (k:=0) (by simp)
  obtain⟨b2,o2,c2',cs2,_,hc2,hq2,_,hn2,_⟩:=lx
  have hv:nth o1 cs1=some (.int .i64 (j:Int)):=by
   have:=hn1 (by omega)
   rw[Nat.zero_mul,Nat.add_zero] at this;exact this
  have hq1:q_iad 1 y (.int .i64 0)=some (.ptr b1 o1):=by
   have:=hq1 (nat_cst 0)
   rw[Nat.zero_mul,Nat.add_zero] at this;exact this
  have n10:¬(1:Int)=0:=by omega
  have hv2:nth (o2+j*4+3) cs2=some (.int .i64 (10+p)):=by rw[hn2 3 (by omega),←ep];rfl
  have l1:(0:Int)<1:=by omega
  simp -implicitDefEqProofs(maxSteps:=999999)(disch:=first|with_reducible rfl|omega|(simp only[nA,nS,nD]<;>omega)|fail)only[go_sem,hy]
  refine W_count 1 (fun i s=>∃tm h2,s=⟨tm,h2,[]⟩∧h.Sub h2∧(i=0→h2=h1)∧(1≤i→h2.get (h.next+1)=some (.map [(.int .i64 (10+p),.int .i64 1)])∧(Opd.t 7).ev tm=.int .i64 (10+p))∧(Opd.t 0).ev tm=x∧(Opd.t 6).ev tm=.map (h.next+1)∧(Opd.t 13).ev tm=y∧(Opd.t 14).ev tm=.int .i64 1∧(Opd.t 15).ev tm=.int .i64 (i:Int)) ?_ ?_ (i:=0) (Nat.zero_le _) ⟨_,_,rfl,s0.trans s1,fun _=>rfl,fun h=>by omega,(by simp[ev_c,ev_put]<;>rfl),(by simp[ev_c,ev_put]<;>rfl),(by simp[ev_c,ev_put]<;>rfl),(by simp[ev_c,ev_put]<;>rfl),(by simp only[ev_put];rfl)⟩
  ·rintro i s hi ⟨tm,h2,rfl,s2,e0,_,t0,t6,t13,t14,t15⟩
   have hi0:i=0:=by omega
   subst hi0
   have e0:=e0 rfl
   subst e0
   have t15:(Opd.t 15).ev tm=.int .i64 0:=t15
   have gm2:h2.get (h.next+1)=some (.map (encA [])):=gm1
   have f0:found (.int .i64 0) false (lkA (10+p) [])=.int .i64 0:=rfl
   have w1:wr .i64 (0+1)=1:=rfl
   simp -implicitDefEqProofs(maxSteps:=999999)(disch:=first|with_reducible rfl|omega|(simp only[nA,nS,nD]<;>omega)|fail)only[go_sem,t0,t6,t13,t14,t15,l1,hq1,hc1,hv,hq2 (nat_cst j),hc2,hv2,gm2,f0,w1]
   exact⟨_,_,rfl,s2.set (by omega) (by have:=H.lt_next s2.wf gm1;omega) hw _,fun h=>absurd h (by simp),fun _=>⟨get_set_same rfl,(by simp[ev_c,ev_put]<;>rfl)⟩,(by simp[ev_c,ev_put,t0]<;>rfl),(by simp[ev_c,ev_put,t6]<;>rfl),(by simp[ev_c,ev_put,t13]<;>rfl),(by simp[ev_c,ev_put,t14]<;>rfl),(by simp[ev_c,ev_put]<;>rfl)⟩
  ·rintro s ⟨tm,h2,rfl,s2,_,e1,t0,t6,t13,t14,t15⟩
   have t15:(Opd.t 15).ev tm=.int .i64 1:=t15
   obtain⟨g2,t7⟩:=e1 (by omega)
   have ln:q_lnm h2 (.map (h.next+1))=some (.int .i64 1):=by simp only[q_lnm,g2];rfl
   simp -implicitDefEqProofs(maxSteps:=999999)(disch:=first|with_reducible rfl|omega|(simp only[nA,nS,nD]<;>omega)|fail)only[go_sem,t0,t6,t7,t13,t14,t15,Int.lt_irrefl,ln,n10]
   have:=q h2 s2
   simp only[prP,erP,hn,if_true] at this
   exact this
end Go.Ab.Try
namespace Go.Ab.Try
end Go.Ab.Try
