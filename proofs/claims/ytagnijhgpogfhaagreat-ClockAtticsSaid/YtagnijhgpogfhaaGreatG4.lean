/- The law ClockAttics. Contracts: numbers in bounds, Shown, When, and the reference's. Contracts of the generic functions, instance by instance (printed by a program of ours). Attics; Check. Distances of an attic: without clocks, and with the readings of one clock (plain). A desk: an attic at work. Distances if no clock was read; those with a clock's readings. Distances with the readings of a clock. An attic at work. All that clocks can have been set to, and gain (plain); copies of runs. What the cases of the clocks say (plain): each is a run of every clock with the distances that follow; all truths are among them. All that clocks can have been set to, and gain, handed on one by one. All cases of the clocks: collected; whether there is one. All cases of the clocks in a slice: slices.Collect. The cases of the clocks are just all truths (plain). slices.Collect of the cases. told: all cases of an attic. between: the least and the greatest difference of two events over all cases. Time, Between, Before, Wages. The least and the greatest differences over all cases (plain). What the law itself says a clock shows; whether a number is inside. Numbers that are wound off bytes: the contracts of Spool. A truth that is wound off numbers: Made. Slices that are made side by side. Made: the slices' invariants; an attic with its truth (plain). Made. Distances only sink (plain); wages. Equal, Eq, Dup of clocks, readings and gaps (printed by a program of ours). great, Own, same: attics as the law looks at them. theirs: an attic of the reference. The reference's Check of an attic: its parts. The reference's Check of an attic: the round over its clocks. Truths that fit, as the code asks for them (plain). What is known more of an attic, and truths (plain). Own slices of an attic; copied, Read, Know. copied, checked, Read, Know. -/
import Derived.Test.YtagnijhgpogfhaaGreatG2
import Derived.Test.YtagnijhgpogfhaaGreatAc2
import Derived.Test.YtagnijhgpogfhaaGreatAc7
import Derived.Test.YtagnijhgpogfhaaGreatAc8
set_option linter.unusedSimpArgs false
set_option linter.unusedVariables false
namespace Go.Ab.Tryz
open Go.Proofs
section
variable {Fn:Nat→Option FD} {fast:Nat→Option (List V→H→Option (V × H))} {N fn:Nat} {ro:Option Nat}
theorem W_split {A P:C}{s:St}{R:X→St→Prop}(J:St→Prop)(h:W Fn fast N fn ro A s (fun x s'=>x=.nrm∧J s'))(k:∀s',J s'→W Fn fast N fn ro P s' R):W Fn fast N fn ro (A.seq P) s R:=by
 rw[W_seq]
 exact h.mono fun x s' ⟨hx,hj⟩=>by subst hx;exact k s' hj
end
abbrev E (fv:V) (args:List V) (h:H) (Q:V→H→Prop):Prop:=Ev fnG fastA fv args h Q
theorem awake_eq (h:H)(Q:V→H→Prop):Ev fnG fastA (.fn 22 [] []) [] h Q=Q (.bool true) h:=Ev.det ⟨1,.bool true,h,rfl,rfl,rfl⟩ Q
def inB (n lo hi:Int):Bool:=decide (lo≤n)&&decide (n≤hi)
theorem inB_iff {n lo hi:Int}:inB n lo hi=true↔lo≤n∧n≤hi:=by simp[inB]
theorem in_eq (h:H)(n lo hi:Int)(Q:V→H→Prop):Ev fnG fastA (.fn 98 [] []) [.int .i64 n,.int .i64 lo,.int .i64 hi] h Q=Q (.bool (inB n lo hi)) h:=by
 refine Ev.det ?_ Q
 refine Ev_body (fd:=c98) rfl rfl rfl ?_
 by_cases h1:lo≤n
 ·have e:inB n lo hi=decide (n≤hi):=by simp[inB,h1]
  rw[e]
  simp -implicitDefEqProofs(maxSteps:=999999)(disch:=first|with_reducible rfl|omega|(simp only[nA,nS,nD]<;>omega)|fail)only[c98,go_sem,h1]
 ·have e:inB n lo hi=false:=by simp[inB,h1]
  rw[e]
  simp -implicitDefEqProofs(maxSteps:=999999)(disch:=first|with_reducible rfl|omega|(simp only[nA,nS,nD]<;>omega)|fail)only[c98,go_sem,h1]
end Go.Ab.Tryz
namespace Go.Ab.Tryz
abbrev PureA (h:H) (fv:V) (args:List V) (v:V):Prop:=Pure fnG fastA h fv args v
def fidx {α:Type}(p:α→Bool):List α→Nat→Int
 |[],_=> -1
 |r::l,i=>if p r then(i:Int) else fidx p l (i+1)
theorem fidx_hit {α:Type}{p:α→Bool}{l:List α}{i:Nat}(hi:i<l.length)(h:p l[i]=true):fidx p (l.drop i) i=(i:Int):=by
 rw[List.drop_eq_getElem_cons hi];simp[fidx,h]
theorem fidx_miss {α:Type}{p:α→Bool}{l:List α}{i:Nat}(hi:i<l.length)(h:p l[i]=false):fidx p (l.drop i) i=fidx p (l.drop (i+1)) (i+1):=by
 rw[List.drop_eq_getElem_cons hi];simp[fidx,h]
theorem fidx_any {α:Type}(p:α→Bool):∀(l:List α) (i:Nat),decide (0≤fidx p l i)=l.any p
 |[],i=>by simp[fidx]
 |r::l,i=>by
  have ih:=fidx_any p l (i+1)
  simp only[fidx,List.any_cons]
  by_cases h:p r=true
  ·simp[h]
  ·simpa[h] using ih
theorem any_not {α:Type}(p:α→Bool)(l:List α):(!l.any fun a=> !p a)=l.all p:=by
 induction l with
 |nil=>rfl
 |cons a l ih=>simp only[List.any_cons,List.all_cons,←ih,Bool.not_or,Bool.not_not]
theorem indexFuncCk_ev {α:Type}{enc:α→List V}{l:List α}{p:α→Bool}{h:H}{x f:V}(hw:h.wf)(hx:SlAt h x 4 (l.map enc))(hp:∀a∈l,PureA h f [.agg (enc a)] (.bool (p a))):
  E (.fn 183 [] []) [x,f] h fun v h'=>v=.int .i64 (fidx p l 0)∧h.Sub h':=by
 have hb:=hx.boundE
 refine Ev_body (fd:=c183) rfl rfl rfl ?_
 simp -implicitDefEqProofs(maxSteps:=999999)(disch:=first|with_reducible rfl|omega|(simp only[nA,nS,nD]<;>omega)|fail)only[c183,go_sem,hx.lenE]
 refine W_count l.length (fun i s=>∃tm h',s=⟨tm,h',[]⟩∧h.Sub h'∧(Opd.t 0).ev tm=x∧(Opd.t 1).ev tm=f∧(Opd.t 7).ev tm=.int .i64 (l.length:Int)∧(Opd.t 8).ev tm=.int .i64 (i:Int)∧fidx p l 0=fidx p (l.drop i) i)
  ?_ ?_ (i:=0) (Nat.zero_le _) ⟨_,_,rfl,H.Sub.refl hw,(by simp[ev_c,ev_put]<;>rfl),(by simp[ev_c,ev_put]<;>rfl),(by simp[ev_c,ev_put]<;>rfl),(by simp only[ev_put];rfl),rfl⟩
 ·rintro i s hi ⟨tm,h',rfl,hs,e0,e1,e7,e8,e9⟩
  have hi':(i:Int)<(l.length:Int):=by omega
  obtain⟨b,o,c,cs,rfl,hc,hq,hg,hn,hn0⟩:=(hx.mono hs).at hi
  simp -implicitDefEqProofs(maxSteps:=999999)(disch:=first|with_reducible rfl|omega|(simp only[nA,nS,nD]<;>omega)|fail)only[go_sem,e0,e1,e7,e8,hi',hq (nat_cst i),hc,hg]
  refine(hp _ (List.getElem_mem hi)).use hs fun h2 hs2=>?_
  cases hpr:p l[i] with
  |true=>
   simp -implicitDefEqProofs(maxSteps:=999999)(disch:=first|with_reducible rfl|omega|(simp only[nA,nS,nD]<;>omega)|fail)only[go_sem,e0,e1,e7,e8]
   exact⟨by rw[e9,fidx_hit hi hpr],hs.trans hs2⟩
  |false=>
   simp -implicitDefEqProofs(maxSteps:=999999)(disch:=first|with_reducible rfl|omega|(simp only[nA,nS,nD]<;>omega)|fail)only[go_sem,e0,e1,e7,e8,wr_succ]
   exact⟨_,_,rfl,hs.trans hs2,(by simp[ev_c,ev_put,e0]<;>rfl),(by simp[ev_c,ev_put,e1]<;>rfl),(by simp[ev_c,ev_put,e7]<;>rfl),(by simp[ev_c,ev_put]<;>rfl),by rw[e9,fidx_miss hi hpr]⟩
 ·rintro s ⟨tm,h',rfl,hs,e0,e1,e7,e8,e9⟩
  simp -implicitDefEqProofs(maxSteps:=999999)(disch:=first|with_reducible rfl|omega|(simp only[nA,nS,nD]<;>omega)|fail)only[go_sem,e0,e1,e7,e8,Int.lt_irrefl]
  exact⟨by rw[e9];simp[fidx],hs⟩
theorem containsFuncCk_ev {α:Type}{enc:α→List V}{l:List α}{p:α→Bool}{h:H}{x f:V}(hw:h.wf)(hx:SlAt h x 4 (l.map enc))(hp:∀a∈l,PureA h f [.agg (enc a)] (.bool (p a))):
  E (.fn 166 [] []) [x,f] h fun v h'=>v=.bool (l.any p)∧h.Sub h':=by
 refine Ev_body (fd:=c166) rfl rfl rfl ?_
 simp -implicitDefEqProofs(maxSteps:=999999)(disch:=first|with_reducible rfl|omega|(simp only[nA,nS,nD]<;>omega)|fail)only[c166,go_sem]
 refine(indexFuncCk_ev hw hx hp).mono fun v h' hv=>?_
 obtain⟨rfl,hs⟩:=hv
 simp -implicitDefEqProofs(maxSteps:=999999)(disch:=first|with_reducible rfl|omega|(simp only[nA,nS,nD]<;>omega)|fail)only[go_sem]
 exact⟨by rw[fidx_any],hs⟩
theorem everyCk_ev {α:Type}{enc:α→List V}{l:List α}{p:α→Bool}{h:H}{x:V}{g:FuncId}{u w:List V}(hw:h.wf)(hx:SlAt h x 4 (l.map enc))(hp:∀a∈l,PureA h (.fn g u w) [.agg (enc a)] (.bool (p a))):
  E (.fn 125 [] []) [x,.fn g u w] h fun v h'=>v=.bool (l.all p)∧h.Sub h':=by
 refine Ev_body (fd:=c125) rfl rfl rfl ?_
 simp -implicitDefEqProofs(maxSteps:=999999)(disch:=first|with_reducible rfl|omega|(simp only[nA,nS,nD]<;>omega)|fail)only[c125,go_sem]
 have hs1:h.Sub (h.add (.cells .rw [.fn g u w])):=(H.Sub.refl hw).add _
 refine(containsFuncCk_ev (p:=fun a=> !p a) hs1.wf (hx.mono hs1) fun a ha h2 hs2=>?_).mono fun v h' hv=>?_
 ·have hc:h2.cells h.next=some [.fn g u w]:=hs2.cells (cells_add_new rfl)
  have hl:h.next<h2.next:=by have:=hs2.next;rw[H.next_add] at this;omega
  refine Ev_body (fd:=c167) rfl rfl rfl ?_
  simp -implicitDefEqProofs(maxSteps:=999999)(disch:=first|with_reducible rfl|omega|(simp only[nA,nS,nD]<;>omega)|fail)only[c167,go_sem,hc,getN_full (hx.1 _ (List.mem_map_of_mem ha))]
  refine((hp a ha).mono hs1).use (hs2.add _) fun h3 hs3=>?_
  simp -implicitDefEqProofs(maxSteps:=999999)(disch:=first|with_reducible rfl|omega|(simp only[nA,nS,nD]<;>omega)|fail)only[go_sem]
  exact(H.Sub.refl hs2.wf).add _ |>.trans hs3
 ·obtain⟨rfl,hs⟩:=hv
  simp -implicitDefEqProofs(maxSteps:=999999)(disch:=first|with_reducible rfl|omega|(simp only[nA,nS,nD]<;>omega)|fail)only[go_sem]
  exact⟨by rw[any_not],hs1.trans hs⟩
theorem indexFuncRd_ev {α:Type}{enc:α→List V}{l:List α}{p:α→Bool}{h:H}{x f:V}(hw:h.wf)(hx:SlAt h x 3 (l.map enc))(hp:∀a∈l,PureA h f [.agg (enc a)] (.bool (p a))):
  E (.fn 182 [] []) [x,f] h fun v h'=>v=.int .i64 (fidx p l 0)∧h.Sub h':=by
 have hb:=hx.boundE
 refine Ev_body (fd:=c182) rfl rfl rfl ?_
 simp -implicitDefEqProofs(maxSteps:=999999)(disch:=first|with_reducible rfl|omega|(simp only[nA,nS,nD]<;>omega)|fail)only[c182,go_sem,hx.lenE]
 refine W_count l.length (fun i s=>∃tm h',s=⟨tm,h',[]⟩∧h.Sub h'∧(Opd.t 0).ev tm=x∧(Opd.t 1).ev tm=f∧(Opd.t 7).ev tm=.int .i64 (l.length:Int)∧(Opd.t 8).ev tm=.int .i64 (i:Int)∧fidx p l 0=fidx p (l.drop i) i)
  ?_ ?_ (i:=0) (Nat.zero_le _) ⟨_,_,rfl,H.Sub.refl hw,(by simp[ev_c,ev_put]<;>rfl),(by simp[ev_c,ev_put]<;>rfl),(by simp[ev_c,ev_put]<;>rfl),(by simp only[ev_put];rfl),rfl⟩
 ·rintro i s hi ⟨tm,h',rfl,hs,e0,e1,e7,e8,e9⟩
  have hi':(i:Int)<(l.length:Int):=by omega
  obtain⟨b,o,c,cs,rfl,hc,hq,hg,hn,hn0⟩:=(hx.mono hs).at hi
  simp -implicitDefEqProofs(maxSteps:=999999)(disch:=first|with_reducible rfl|omega|(simp only[nA,nS,nD]<;>omega)|fail)only[go_sem,e0,e1,e7,e8,hi',hq (nat_cst i),hc,hg]
  refine(hp _ (List.getElem_mem hi)).use hs fun h2 hs2=>?_
  cases hpr:p l[i] with
  |true=>
   simp -implicitDefEqProofs(maxSteps:=999999)(disch:=first|with_reducible rfl|omega|(simp only[nA,nS,nD]<;>omega)|fail)only[go_sem,e0,e1,e7,e8]
   exact⟨by rw[e9,fidx_hit hi hpr],hs.trans hs2⟩
  |false=>
   simp -implicitDefEqProofs(maxSteps:=999999)(disch:=first|with_reducible rfl|omega|(simp only[nA,nS,nD]<;>omega)|fail)only[go_sem,e0,e1,e7,e8,wr_succ]
   exact⟨_,_,rfl,hs.trans hs2,(by simp[ev_c,ev_put,e0]<;>rfl),(by simp[ev_c,ev_put,e1]<;>rfl),(by simp[ev_c,ev_put,e7]<;>rfl),(by simp[ev_c,ev_put]<;>rfl),by rw[e9,fidx_miss hi hpr]⟩
 ·rintro s ⟨tm,h',rfl,hs,e0,e1,e7,e8,e9⟩
  simp -implicitDefEqProofs(maxSteps:=999999)(disch:=first|with_reducible rfl|omega|(simp only[nA,nS,nD]<;>omega)|fail)only[go_sem,e0,e1,e7,e8,Int.lt_irrefl]
  exact⟨by rw[e9];simp[fidx],hs⟩
theorem containsFuncRd_ev {α:Type}{enc:α→List V}{l:List α}{p:α→Bool}{h:H}{x f:V}(hw:h.wf)(hx:SlAt h x 3 (l.map enc))(hp:∀a∈l,PureA h f [.agg (enc a)] (.bool (p a))):
  E (.fn 163 [] []) [x,f] h fun v h'=>v=.bool (l.any p)∧h.Sub h':=by
 refine Ev_body (fd:=c163) rfl rfl rfl ?_
 simp -implicitDefEqProofs(maxSteps:=999999)(disch:=first|with_reducible rfl|omega|(simp only[nA,nS,nD]<;>omega)|fail)only[c163,go_sem]
 refine(indexFuncRd_ev hw hx hp).mono fun v h' hv=>?_
 obtain⟨rfl,hs⟩:=hv
 simp -implicitDefEqProofs(maxSteps:=999999)(disch:=first|with_reducible rfl|omega|(simp only[nA,nS,nD]<;>omega)|fail)only[go_sem]
 exact⟨by rw[fidx_any],hs⟩
theorem everyRd_ev {α:Type}{enc:α→List V}{l:List α}{p:α→Bool}{h:H}{x:V}{g:FuncId}{u w:List V}(hw:h.wf)(hx:SlAt h x 3 (l.map enc))(hp:∀a∈l,PureA h (.fn g u w) [.agg (enc a)] (.bool (p a))):
  E (.fn 121 [] []) [x,.fn g u w] h fun v h'=>v=.bool (l.all p)∧h.Sub h':=by
 refine Ev_body (fd:=c121) rfl rfl rfl ?_
 simp -implicitDefEqProofs(maxSteps:=999999)(disch:=first|with_reducible rfl|omega|(simp only[nA,nS,nD]<;>omega)|fail)only[c121,go_sem]
 have hs1:h.Sub (h.add (.cells .rw [.fn g u w])):=(H.Sub.refl hw).add _
 refine(containsFuncRd_ev (p:=fun a=> !p a) hs1.wf (hx.mono hs1) fun a ha h2 hs2=>?_).mono fun v h' hv=>?_
 ·have hc:h2.cells h.next=some [.fn g u w]:=hs2.cells (cells_add_new rfl)
  have hl:h.next<h2.next:=by have:=hs2.next;rw[H.next_add] at this;omega
  refine Ev_body (fd:=c164) rfl rfl rfl ?_
  simp -implicitDefEqProofs(maxSteps:=999999)(disch:=first|with_reducible rfl|omega|(simp only[nA,nS,nD]<;>omega)|fail)only[c164,go_sem,hc,getN_full (hx.1 _ (List.mem_map_of_mem ha))]
  refine((hp a ha).mono hs1).use (hs2.add _) fun h3 hs3=>?_
  simp -implicitDefEqProofs(maxSteps:=999999)(disch:=first|with_reducible rfl|omega|(simp only[nA,nS,nD]<;>omega)|fail)only[go_sem]
  exact(H.Sub.refl hs2.wf).add _ |>.trans hs3
 ·obtain⟨rfl,hs⟩:=hv
  simp -implicitDefEqProofs(maxSteps:=999999)(disch:=first|with_reducible rfl|omega|(simp only[nA,nS,nD]<;>omega)|fail)only[go_sem]
  exact⟨by rw[any_not],hs1.trans hs⟩
theorem indexFuncGp_ev {α:Type}{enc:α→List V}{l:List α}{p:α→Bool}{h:H}{x f:V}(hw:h.wf)(hx:SlAt h x 4 (l.map enc))(hp:∀a∈l,PureA h f [.agg (enc a)] (.bool (p a))):
  E (.fn 168 [] []) [x,f] h fun v h'=>v=.int .i64 (fidx p l 0)∧h.Sub h':=by
 have hb:=hx.boundE
 refine Ev_body (fd:=c168) rfl rfl rfl ?_
 simp -implicitDefEqProofs(maxSteps:=999999)(disch:=first|with_reducible rfl|omega|(simp only[nA,nS,nD]<;>omega)|fail)only[c168,go_sem,hx.lenE]
 refine W_count l.length (fun i s=>∃tm h',s=⟨tm,h',[]⟩∧h.Sub h'∧(Opd.t 0).ev tm=x∧(Opd.t 1).ev tm=f∧(Opd.t 7).ev tm=.int .i64 (l.length:Int)∧(Opd.t 8).ev tm=.int .i64 (i:Int)∧fidx p l 0=fidx p (l.drop i) i)
  ?_ ?_ (i:=0) (Nat.zero_le _) ⟨_,_,rfl,H.Sub.refl hw,(by simp[ev_c,ev_put]<;>rfl),(by simp[ev_c,ev_put]<;>rfl),(by simp[ev_c,ev_put]<;>rfl),(by simp only[ev_put];rfl),rfl⟩
 ·rintro i s hi ⟨tm,h',rfl,hs,e0,e1,e7,e8,e9⟩
  have hi':(i:Int)<(l.length:Int):=by omega
  obtain⟨b,o,c,cs,rfl,hc,hq,hg,hn,hn0⟩:=(hx.mono hs).at hi
  simp -implicitDefEqProofs(maxSteps:=999999)(disch:=first|with_reducible rfl|omega|(simp only[nA,nS,nD]<;>omega)|fail)only[go_sem,e0,e1,e7,e8,hi',hq (nat_cst i),hc,hg]
  refine(hp _ (List.getElem_mem hi)).use hs fun h2 hs2=>?_
  cases hpr:p l[i] with
  |true=>
   simp -implicitDefEqProofs(maxSteps:=999999)(disch:=first|with_reducible rfl|omega|(simp only[nA,nS,nD]<;>omega)|fail)only[go_sem,e0,e1,e7,e8]
   exact⟨by rw[e9,fidx_hit hi hpr],hs.trans hs2⟩
  |false=>
   simp -implicitDefEqProofs(maxSteps:=999999)(disch:=first|with_reducible rfl|omega|(simp only[nA,nS,nD]<;>omega)|fail)only[go_sem,e0,e1,e7,e8,wr_succ]
   exact⟨_,_,rfl,hs.trans hs2,(by simp[ev_c,ev_put,e0]<;>rfl),(by simp[ev_c,ev_put,e1]<;>rfl),(by simp[ev_c,ev_put,e7]<;>rfl),(by simp[ev_c,ev_put]<;>rfl),by rw[e9,fidx_miss hi hpr]⟩
 ·rintro s ⟨tm,h',rfl,hs,e0,e1,e7,e8,e9⟩
  simp -implicitDefEqProofs(maxSteps:=999999)(disch:=first|with_reducible rfl|omega|(simp only[nA,nS,nD]<;>omega)|fail)only[go_sem,e0,e1,e7,e8,Int.lt_irrefl]
  exact⟨by rw[e9];simp[fidx],hs⟩
theorem containsFuncGp_ev {α:Type}{enc:α→List V}{l:List α}{p:α→Bool}{h:H}{x f:V}(hw:h.wf)(hx:SlAt h x 4 (l.map enc))(hp:∀a∈l,PureA h f [.agg (enc a)] (.bool (p a))):
  E (.fn 136 [] []) [x,f] h fun v h'=>v=.bool (l.any p)∧h.Sub h':=by
 refine Ev_body (fd:=c136) rfl rfl rfl ?_
 simp -implicitDefEqProofs(maxSteps:=999999)(disch:=first|with_reducible rfl|omega|(simp only[nA,nS,nD]<;>omega)|fail)only[c136,go_sem]
 refine(indexFuncGp_ev hw hx hp).mono fun v h' hv=>?_
 obtain⟨rfl,hs⟩:=hv
 simp -implicitDefEqProofs(maxSteps:=999999)(disch:=first|with_reducible rfl|omega|(simp only[nA,nS,nD]<;>omega)|fail)only[go_sem]
 exact⟨by rw[fidx_any],hs⟩
theorem everyGp_ev {α:Type}{enc:α→List V}{l:List α}{p:α→Bool}{h:H}{x:V}{g:FuncId}{u w:List V}(hw:h.wf)(hx:SlAt h x 4 (l.map enc))(hp:∀a∈l,PureA h (.fn g u w) [.agg (enc a)] (.bool (p a))):
  E (.fn 123 [] []) [x,.fn g u w] h fun v h'=>v=.bool (l.all p)∧h.Sub h':=by
 refine Ev_body (fd:=c123) rfl rfl rfl ?_
 simp -implicitDefEqProofs(maxSteps:=999999)(disch:=first|with_reducible rfl|omega|(simp only[nA,nS,nD]<;>omega)|fail)only[c123,go_sem]
 have hs1:h.Sub (h.add (.cells .rw [.fn g u w])):=(H.Sub.refl hw).add _
 refine(containsFuncGp_ev (p:=fun a=> !p a) hs1.wf (hx.mono hs1) fun a ha h2 hs2=>?_).mono fun v h' hv=>?_
 ·have hc:h2.cells h.next=some [.fn g u w]:=hs2.cells (cells_add_new rfl)
  have hl:h.next<h2.next:=by have:=hs2.next;rw[H.next_add] at this;omega
  refine Ev_body (fd:=c165) rfl rfl rfl ?_
  simp -implicitDefEqProofs(maxSteps:=999999)(disch:=first|with_reducible rfl|omega|(simp only[nA,nS,nD]<;>omega)|fail)only[c165,go_sem,hc,getN_full (hx.1 _ (List.mem_map_of_mem ha))]
  refine((hp a ha).mono hs1).use (hs2.add _) fun h3 hs3=>?_
  simp -implicitDefEqProofs(maxSteps:=999999)(disch:=first|with_reducible rfl|omega|(simp only[nA,nS,nD]<;>omega)|fail)only[go_sem]
  exact(H.Sub.refl hs2.wf).add _ |>.trans hs3
 ·obtain⟨rfl,hs⟩:=hv
  simp -implicitDefEqProofs(maxSteps:=999999)(disch:=first|with_reducible rfl|omega|(simp only[nA,nS,nD]<;>omega)|fail)only[go_sem]
  exact⟨by rw[any_not],hs1.trans hs⟩
end Go.Ab.Tryz
namespace Go.Ab.Tryz
open Go.Proofs
structure Ck where
 sl:Int
 sh:Int
 gl:Int
 gh:Int
structure Rd where
 ck:Int
 ev:Int
 sh:Int
structure Gp where
 fr:Int
 to:Int
 lo:Int
 hi:Int
structure At where
 mins:Int
 evs:Int
 cks:List Ck
 rds:List Rd
 gps:List Gp
def encC (c:Ck):List V:=[.int .i64 c.sl,.int .i64 c.sh,.int .i64 c.gl,.int .i64 c.gh]
def encR (r:Rd):List V:=[.int .i64 r.ck,.int .i64 r.ev,.int .i64 r.sh]
def encG (g:Gp):List V:=[.int .i64 g.fr,.int .i64 g.to,.int .i64 g.lo,.int .i64 g.hi]
structure AtAt (h:H)(C R G:V)(a:At):Prop where
 c:SlAt h C 4 (a.cks.map encC)
 r:SlAt h R 3 (a.rds.map encR)
 g:SlAt h G 4 (a.gps.map encG)
abbrev atV (a:At) (C R G:V):List V:=[.int .i64 a.mins,.int .i64 a.evs,C,R,G]
def AtIs (h:H)(v:V)(a:At):Prop:=∃C R G,v=.agg (atV a C R G)∧AtAt h C R G a
theorem AtAt.mono {h h':H}{C R G:V}{a:At}(x:AtAt h C R G a)(s:h.Sub h'):AtAt h' C R G a:=⟨x.c.mono s,x.r.mono s,x.g.mono s⟩
theorem AtIs.mono {h h':H}{v:V}{a:At}(x:AtIs h v a)(s:h.Sub h'):AtIs h' v a:=by
 obtain⟨C,R,G,e,y⟩:=x;exact⟨C,R,G,e,y.mono s⟩
theorem Ev_bound {f:FuncId}{a:V}{args:List V}{h:H}{Q:V→H→Prop}(he:Ev fnG fastA (.fn f [] []) (a::args) h Q):Ev fnG fastA (.fn f [a] []) args h Q:=by
 rw[Ev_fn,appN_eq,appN_eq];simpa using he
def within (lo hi m:Int):Bool:=inB lo (-m) m&&inB hi (-m) m
def Ck.bd (c:Ck):Bool:=within c.sl c.sh 60&&within c.gl c.gh 30
def Ck.ord (c:Ck):Bool:=decide (c.sl≤c.sh)&&decide (c.gl≤c.gh)
def Ck.sm (c:Ck):Bool:=decide (c.sh-c.sl≤4)&&decide (c.gh-c.gl≤4)
def Rd.bd (r:Rd):Bool:=inB r.sh (-999) 999
def Gp.bd (g:Gp):Bool:=within g.lo g.hi 240
def Gp.ord (g:Gp):Bool:=decide (g.lo≤g.hi)
def At.evB (a:At)(n:Int):Bool:=inB n 0 (a.evs-1)
def At.ckB (a:At)(n:Int):Bool:=inB n 0 ((a.cks.length:Int)-1)
def At.rdOk (a:At)(r:Rd):Bool:=a.ckB r.ck&&a.evB r.ev
def At.gpOk (a:At)(g:Gp):Bool:=a.evB g.fr&&a.evB g.to
def At.sz (a:At):Bool:=inB a.mins 1 240&&(inB a.evs 1 4&&(decide (a.cks.length≤3)&&(decide (a.rds.length≤8)&&decide (a.gps.length≤4))))
def checkA (a:At):Int:=
 if a.sz=false then 2
 else if a.cks.all Ck.bd=false then 3
 else if a.rds.all Rd.bd=false∨a.gps.all Gp.bd=false then 3
 else if a.rds.all a.rdOk=false∨a.gps.all a.gpOk=false then 1
 else if a.cks.all Ck.ord=false∨a.gps.all Gp.ord=false then 4
 else if a.cks.all Ck.sm=false then 10
 else 0
structure Right (a:At):Prop where
 sz:a.sz=true
 cb:∀c∈a.cks,c.bd=true
 rb:∀r∈a.rds,r.bd=true
 gb:∀g∈a.gps,g.bd=true
 ro:∀r∈a.rds,a.rdOk r=true
 go:∀g∈a.gps,a.gpOk g=true
 co:∀c∈a.cks,c.ord=true
 gd:∀g∈a.gps,g.ord=true
 cs:∀c∈a.cks,c.sm=true
theorem checkA_iff {a:At}:checkA a=0↔Right a:=by
 constructor
 ·intro h
  unfold checkA at h
  repeat' (split at h<;>try(exact absurd h (by decide)))
  rename_i h1 h2 h3 h4 h5 h6
  simp only[not_or,Bool.not_eq_false,List.all_eq_true] at h1 h2 h3 h4 h5 h6
  exact⟨h1,h2,h3.1,h3.2,h4.1,h4.2,h5.1,h5.2,h6⟩
 ·intro r
  have e1:a.cks.all Ck.bd=true:=List.all_eq_true.2 r.cb
  have e2:a.rds.all Rd.bd=true:=List.all_eq_true.2 r.rb
  have e3:a.gps.all Gp.bd=true:=List.all_eq_true.2 r.gb
  have e4:a.rds.all a.rdOk=true:=List.all_eq_true.2 r.ro
  have e5:a.gps.all a.gpOk=true:=List.all_eq_true.2 r.go
  have e6:a.cks.all Ck.ord=true:=List.all_eq_true.2 r.co
  have e7:a.gps.all Gp.ord=true:=List.all_eq_true.2 r.gd
  have e8:a.cks.all Ck.sm=true:=List.all_eq_true.2 r.cs
  simp[checkA,r.sz,e1,e2,e3,e4,e5,e6,e7,e8]
theorem Right.mins {a:At}(r:Right a):1≤a.mins∧a.mins≤240:=by
 have:=r.sz;simp only[At.sz,Bool.and_eq_true,inB_iff] at this;exact this.1
theorem Right.evs {a:At}(r:Right a):1≤a.evs∧a.evs≤4:=by
 have:=r.sz;simp only[At.sz,Bool.and_eq_true,inB_iff] at this;exact this.2.1
theorem Right.lens {a:At}(r:Right a):a.cks.length≤3∧a.rds.length≤8∧a.gps.length≤4:=by
 have:=r.sz;simp only[At.sz,Bool.and_eq_true,decide_eq_true_eq] at this;exact this.2.2
theorem within_ev {h:H}(hw:h.wf)(lo hi m:Int)(hm:0≤m∧m≤1000)(Q:V→H→Prop)(q:∀h',h.Sub h'→Q (.bool (within lo hi m)) h'):Ev fnG fastA (.fn 127 [] []) [.agg [.int .i64 lo,.int .i64 hi],.int .i64 m] h Q:=by
 refine Ev_body (fd:=c127) rfl rfl rfl ?_
 have s:h.Sub (h.add (.cells .rw [.int .i64 lo,.int .i64 hi])):=(by repeat(first|assumption|exact H.Sub.refl (by assumption)|refine H.Sub.add ?_ _|refine H.Sub.set ?_ (by first|omega|(simp only[H.next_add,H.next_set,H.next_del]<;>omega)) (by first|omega|(simp only[H.next_add,H.next_set,H.next_del]<;>omega)) (by assumption) _))
 have w:wr .i64 (0-m)= -m:=by rw[wr_in (by omega) (by omega)];omega
 cases h1:inB lo (-m) m with
 |true=>
  have e:within lo hi m=inB hi (-m) m:=by rw[within,h1,Bool.true_and]
  rw[e] at q
  simp -implicitDefEqProofs(maxSteps:=999999)(disch:=first|with_reducible rfl|omega|(simp only[nA,nS,nD]<;>omega)|fail)only[c127,go_sem,in_eq,w,h1]
  exact q _ s
 |false=>
  have e:within lo hi m=false:=by rw[within,h1,Bool.false_and]
  rw[e] at q
  simp -implicitDefEqProofs(maxSteps:=999999)(disch:=first|with_reducible rfl|omega|(simp only[nA,nS,nD]<;>omega)|fail)only[c127,go_sem,in_eq,w,h1]
  exact q _ s
theorem ordered_ev {h:H}(hw:h.wf)(lo hi:Int)(Q:V→H→Prop)(q:∀h',h.Sub h'→Q (.bool (decide (lo≤hi))) h'):Ev fnG fastA (.fn 133 [] []) [.agg [.int .i64 lo,.int .i64 hi]] h Q:=by
 refine Ev_body (fd:=c133) rfl rfl rfl ?_
 have s:h.Sub (h.add (.cells .rw [.int .i64 lo,.int .i64 hi])):=(by repeat(first|assumption|exact H.Sub.refl (by assumption)|refine H.Sub.add ?_ _|refine H.Sub.set ?_ (by first|omega|(simp only[H.next_add,H.next_set,H.next_del]<;>omega)) (by first|omega|(simp only[H.next_add,H.next_set,H.next_del]<;>omega)) (by assumption) _))
 simp -implicitDefEqProofs(maxSteps:=999999)(disch:=first|with_reducible rfl|omega|(simp only[nA,nS,nD]<;>omega)|fail)only[c133,go_sem]
 exact q _ s
theorem check1_ev {h:H}(hw:h.wf)(c:Ck):E (.fn 126 [] []) [.agg (encC c)] h fun u h'=>u=.bool c.bd∧h.Sub h':=by
 refine Ev_body (fd:=c126) rfl rfl rfl ?_
 have s:h.Sub (h.add (.cells .rw [.int .i64 c.sl,.int .i64 c.sh,.int .i64 c.gl,.int .i64 c.gh])):=(by repeat(first|assumption|exact H.Sub.refl (by assumption)|refine H.Sub.add ?_ _|refine H.Sub.set ?_ (by first|omega|(simp only[H.next_add,H.next_set,H.next_del]<;>omega)) (by first|omega|(simp only[H.next_add,H.next_set,H.next_del]<;>omega)) (by assumption) _))
 have g:(h.add (.cells .rw [.int .i64 c.sl,.int .i64 c.sh,.int .i64 c.gl,.int .i64 c.gh])).cells h.next=some [.int .i64 c.sl,.int .i64 c.sh,.int .i64 c.gl,.int .i64 c.gh]:=cells_add_new rfl
 simp -implicitDefEqProofs(maxSteps:=999999)(disch:=first|with_reducible rfl|omega|(simp only[nA,nS,nD]<;>omega)|fail)only[c126,go_sem,encC]
 refine within_ev s.wf _ _ 60 (by omega) _ fun h1 s1=>?_
 cases h1:within c.sl c.sh 60 with
 |false=>
  simp -implicitDefEqProofs(maxSteps:=999999)(disch:=first|with_reducible rfl|omega|(simp only[nA,nS,nD]<;>omega)|fail)only[go_sem]
  exact⟨by simp[Ck.bd,h1],s.trans s1⟩
 |true=>
  simp -implicitDefEqProofs(maxSteps:=999999)(disch:=first|with_reducible rfl|omega|(simp only[nA,nS,nD]<;>omega)|fail)only[go_sem,s1.cells g]
  refine within_ev s1.wf _ _ 30 (by omega) _ fun h2 s2=>?_
  simp -implicitDefEqProofs(maxSteps:=999999)(disch:=first|with_reducible rfl|omega|(simp only[nA,nS,nD]<;>omega)|fail)only[go_sem]
  exact⟨by simp[Ck.bd,h1],(s.trans s1).trans s2⟩
theorem check2_ev {h:H}(hw:h.wf)(r:Rd):E (.fn 128 [] []) [.agg (encR r)] h fun u h'=>u=.bool r.bd∧h.Sub h':=by
 refine Ev_body (fd:=c128) rfl rfl rfl ?_
 have s:h.Sub (h.add (.cells .rw [.int .i64 r.ck,.int .i64 r.ev,.int .i64 r.sh])):=(by repeat(first|assumption|exact H.Sub.refl (by assumption)|refine H.Sub.add ?_ _|refine H.Sub.set ?_ (by first|omega|(simp only[H.next_add,H.next_set,H.next_del]<;>omega)) (by first|omega|(simp only[H.next_add,H.next_set,H.next_del]<;>omega)) (by assumption) _))
 simp -implicitDefEqProofs(maxSteps:=999999)(disch:=first|with_reducible rfl|omega|(simp only[nA,nS,nD]<;>omega)|fail)only[c128,go_sem,encR,in_eq]
 exact⟨rfl,s⟩
theorem check3_ev {h:H}(hw:h.wf)(g:Gp):E (.fn 129 [] []) [.agg (encG g)] h fun u h'=>u=.bool g.bd∧h.Sub h':=by
 refine Ev_body (fd:=c129) rfl rfl rfl ?_
 have s:h.Sub (h.add (.cells .rw [.int .i64 g.fr,.int .i64 g.to,.int .i64 g.lo,.int .i64 g.hi])):=(by repeat(first|assumption|exact H.Sub.refl (by assumption)|refine H.Sub.add ?_ _|refine H.Sub.set ?_ (by first|omega|(simp only[H.next_add,H.next_set,H.next_del]<;>omega)) (by first|omega|(simp only[H.next_add,H.next_set,H.next_del]<;>omega)) (by assumption) _))
 simp -implicitDefEqProofs(maxSteps:=999999)(disch:=first|with_reducible rfl|omega|(simp only[nA,nS,nD]<;>omega)|fail)only[c129,go_sem,encG]
 refine within_ev s.wf _ _ 240 (by omega) _ fun h1 s1=>?_
 simp -implicitDefEqProofs(maxSteps:=999999)(disch:=first|with_reducible rfl|omega|(simp only[nA,nS,nD]<;>omega)|fail)only[go_sem]
 exact⟨rfl,s.trans s1⟩
theorem event_ev {h:H}(hw:h.wf){C R G:V}(a:At)(he:0≤a.evs∧a.evs≤1000)(n:Int)(Q:V→H→Prop)(q:∀h',h.Sub h'→Q (.bool (a.evB n)) h'):Ev fnG fastA (.fn 76 [] []) [.agg (atV a C R G),.int .i64 n] h Q:=by
 refine Ev_body (fd:=c76) rfl rfl rfl ?_
 have s:h.Sub (h.add (.cells .rw (atV a C R G))):=(by repeat(first|assumption|exact H.Sub.refl (by assumption)|refine H.Sub.add ?_ _|refine H.Sub.set ?_ (by first|omega|(simp only[H.next_add,H.next_set,H.next_del]<;>omega)) (by first|omega|(simp only[H.next_add,H.next_set,H.next_del]<;>omega)) (by assumption) _))
 have w:wr .i64 (a.evs-1)=a.evs-1:=wr_in (by omega) (by omega)
 simp -implicitDefEqProofs(maxSteps:=999999)(disch:=first|with_reducible rfl|omega|(simp only[nA,nS,nD]<;>omega)|fail)only[c76,go_sem,in_eq,w]
 exact q _ s
theorem clock_ev {h:H}(hw:h.wf){C R G:V}{a:At}(x:AtAt h C R G a)(n:Int)(Q:V→H→Prop)(q:∀h',h.Sub h'→Q (.bool (a.ckB n)) h'):Ev fnG fastA (.fn 78 [] []) [.agg (atV a C R G),.int .i64 n] h Q:=by
 refine Ev_body (fd:=c78) rfl rfl rfl ?_
 have s:h.Sub (h.add (.cells .rw (atV a C R G))):=(by repeat(first|assumption|exact H.Sub.refl (by assumption)|refine H.Sub.add ?_ _|refine H.Sub.set ?_ (by first|omega|(simp only[H.next_add,H.next_set,H.next_del]<;>omega)) (by first|omega|(simp only[H.next_add,H.next_set,H.next_del]<;>omega)) (by assumption) _))
 have hl:=x.c.lenE
 have hb:=x.c.boundE
 have w:wr .i64 ((a.cks.length:Int)-1)=(a.cks.length:Int)-1:=wr_in (by omega) (by omega)
 simp -implicitDefEqProofs(maxSteps:=999999)(disch:=first|with_reducible rfl|omega|(simp only[nA,nS,nD]<;>omega)|fail)only[c78,go_sem,in_eq,hl,w]
 exact q _ s
theorem check4_ev {h:H}(hw:h.wf){C R G:V}{a:At}(x:AtAt h C R G a)(he:0≤a.evs∧a.evs≤1000){b1 b2:Nat}(g1:h.cells b1=some (atV a C R G))(g2:h.cells b2=some [.fn 76 [.agg (atV a C R G)] []])(l1:b1<h.next)(l2:b2<h.next)(r:Rd):
  E (.fn 130 [] [.ptr b1 0,.ptr b2 0]) [.agg (encR r)] h fun u h'=>u=.bool (a.rdOk r)∧h.Sub h':=by
 refine Ev_body (fd:=c130) rfl rfl rfl ?_
 have s:h.Sub (h.add (.cells .rw [.int .i64 r.ck,.int .i64 r.ev,.int .i64 r.sh])):=(by repeat(first|assumption|exact H.Sub.refl (by assumption)|refine H.Sub.add ?_ _|refine H.Sub.set ?_ (by first|omega|(simp only[H.next_add,H.next_set,H.next_del]<;>omega)) (by first|omega|(simp only[H.next_add,H.next_set,H.next_del]<;>omega)) (by assumption) _))
 have g:(h.add (.cells .rw [.int .i64 r.ck,.int .i64 r.ev,.int .i64 r.sh])).cells h.next=some [.int .i64 r.ck,.int .i64 r.ev,.int .i64 r.sh]:=cells_add_new rfl
 simp -implicitDefEqProofs(maxSteps:=999999)(disch:=first|with_reducible rfl|omega|(simp only[nA,nS,nD]<;>omega)|fail)only[c130,go_sem,encR,g1,g2]
 refine clock_ev s.wf (x.mono s) _ _ fun h1 s1=>?_
 cases h1:a.ckB r.ck with
 |false=>
  simp -implicitDefEqProofs(maxSteps:=999999)(disch:=first|with_reducible rfl|omega|(simp only[nA,nS,nD]<;>omega)|fail)only[go_sem]
  exact⟨by simp[At.rdOk,h1],s.trans s1⟩
 |true=>
  simp -implicitDefEqProofs(maxSteps:=999999)(disch:=first|with_reducible rfl|omega|(simp only[nA,nS,nD]<;>omega)|fail)only[go_sem,s1.cells g,(s.trans s1).cells g2]
  refine Ev_bound ?_
  refine event_ev s1.wf a he _ _ fun h2 s2=>?_
  simp -implicitDefEqProofs(maxSteps:=999999)(disch:=first|with_reducible rfl|omega|(simp only[nA,nS,nD]<;>omega)|fail)only[go_sem]
  exact⟨by simp[At.rdOk,h1],(s.trans s1).trans s2⟩
theorem check5_ev {h:H}(hw:h.wf){C R G:V}{a:At}(he:0≤a.evs∧a.evs≤1000){b2:Nat}(g2:h.cells b2=some [.fn 76 [.agg (atV a C R G)] []])(l2:b2<h.next)(g:Gp):
  E (.fn 131 [] [.ptr b2 0]) [.agg (encG g)] h fun u h'=>u=.bool (a.gpOk g)∧h.Sub h':=by
 refine Ev_body (fd:=c131) rfl rfl rfl ?_
 have s:h.Sub (h.add (.cells .rw [.int .i64 g.fr,.int .i64 g.to,.int .i64 g.lo,.int .i64 g.hi])):=(by repeat(first|assumption|exact H.Sub.refl (by assumption)|refine H.Sub.add ?_ _|refine H.Sub.set ?_ (by first|omega|(simp only[H.next_add,H.next_set,H.next_del]<;>omega)) (by first|omega|(simp only[H.next_add,H.next_set,H.next_del]<;>omega)) (by assumption) _))
 have gg:(h.add (.cells .rw [.int .i64 g.fr,.int .i64 g.to,.int .i64 g.lo,.int .i64 g.hi])).cells h.next=some [.int .i64 g.fr,.int .i64 g.to,.int .i64 g.lo,.int .i64 g.hi]:=cells_add_new rfl
 simp -implicitDefEqProofs(maxSteps:=999999)(disch:=first|with_reducible rfl|omega|(simp only[nA,nS,nD]<;>omega)|fail)only[c131,go_sem,encG,g2]
 refine Ev_bound ?_
 refine event_ev s.wf a he _ _ fun h1 s1=>?_
 cases h1:a.evB g.fr with
 |false=>
  simp -implicitDefEqProofs(maxSteps:=999999)(disch:=first|with_reducible rfl|omega|(simp only[nA,nS,nD]<;>omega)|fail)only[go_sem]
  exact⟨by simp[At.gpOk,h1],s.trans s1⟩
 |true=>
  simp -implicitDefEqProofs(maxSteps:=999999)(disch:=first|with_reducible rfl|omega|(simp only[nA,nS,nD]<;>omega)|fail)only[go_sem,s1.cells gg,(s.trans s1).cells g2]
  refine Ev_bound ?_
  refine event_ev s1.wf a he _ _ fun h2 s2=>?_
  simp -implicitDefEqProofs(maxSteps:=999999)(disch:=first|with_reducible rfl|omega|(simp only[nA,nS,nD]<;>omega)|fail)only[go_sem]
  exact⟨by simp[At.gpOk,h1],(s.trans s1).trans s2⟩
theorem check6_ev {h:H}(hw:h.wf)(c:Ck):E (.fn 132 [] []) [.agg (encC c)] h fun u h'=>u=.bool c.ord∧h.Sub h':=by
 refine Ev_body (fd:=c132) rfl rfl rfl ?_
 have s:h.Sub (h.add (.cells .rw [.int .i64 c.sl,.int .i64 c.sh,.int .i64 c.gl,.int .i64 c.gh])):=(by repeat(first|assumption|exact H.Sub.refl (by assumption)|refine H.Sub.add ?_ _|refine H.Sub.set ?_ (by first|omega|(simp only[H.next_add,H.next_set,H.next_del]<;>omega)) (by first|omega|(simp only[H.next_add,H.next_set,H.next_del]<;>omega)) (by assumption) _))
 have g:(h.add (.cells .rw [.int .i64 c.sl,.int .i64 c.sh,.int .i64 c.gl,.int .i64 c.gh])).cells h.next=some [.int .i64 c.sl,.int .i64 c.sh,.int .i64 c.gl,.int .i64 c.gh]:=cells_add_new rfl
 simp -implicitDefEqProofs(maxSteps:=999999)(disch:=first|with_reducible rfl|omega|(simp only[nA,nS,nD]<;>omega)|fail)only[c132,go_sem,encC]
 refine ordered_ev s.wf _ _ _ fun h1 s1=>?_
 by_cases h1:c.sl≤c.sh
 ·simp -implicitDefEqProofs(maxSteps:=999999)(disch:=first|with_reducible rfl|omega|(simp only[nA,nS,nD]<;>omega)|fail)only[go_sem,h1,s1.cells g]
  refine ordered_ev s1.wf _ _ _ fun h2 s2=>?_
  simp -implicitDefEqProofs(maxSteps:=999999)(disch:=first|with_reducible rfl|omega|(simp only[nA,nS,nD]<;>omega)|fail)only[go_sem]
  exact⟨by simp[Ck.ord,h1],(s.trans s1).trans s2⟩
 ·simp -implicitDefEqProofs(maxSteps:=999999)(disch:=first|with_reducible rfl|omega|(simp only[nA,nS,nD]<;>omega)|fail)only[go_sem,h1]
  exact⟨by simp[Ck.ord,h1],s.trans s1⟩
theorem check7_ev {h:H}(hw:h.wf)(g:Gp):E (.fn 134 [] []) [.agg (encG g)] h fun u h'=>u=.bool g.ord∧h.Sub h':=by
 refine Ev_body (fd:=c134) rfl rfl rfl ?_
 have s:h.Sub (h.add (.cells .rw [.int .i64 g.fr,.int .i64 g.to,.int .i64 g.lo,.int .i64 g.hi])):=(by repeat(first|assumption|exact H.Sub.refl (by assumption)|refine H.Sub.add ?_ _|refine H.Sub.set ?_ (by first|omega|(simp only[H.next_add,H.next_set,H.next_del]<;>omega)) (by first|omega|(simp only[H.next_add,H.next_set,H.next_del]<;>omega)) (by assumption) _))
 simp -implicitDefEqProofs(maxSteps:=999999)(disch:=first|with_reducible rfl|omega|(simp only[nA,nS,nD]<;>omega)|fail)only[c134,go_sem,encG]
 refine ordered_ev s.wf _ _ _ fun h1 s1=>?_
 simp -implicitDefEqProofs(maxSteps:=999999)(disch:=first|with_reducible rfl|omega|(simp only[nA,nS,nD]<;>omega)|fail)only[go_sem]
 exact⟨rfl,s.trans s1⟩
theorem check8_ev {h:H}(hw:h.wf){c:Ck}(hb:c.bd=true):E (.fn 135 [] []) [.agg (encC c)] h fun u h'=>u=.bool c.sm∧h.Sub h':=by
 simp only[Ck.bd,within,Bool.and_eq_true,inB_iff] at hb
 refine Ev_body (fd:=c135) rfl rfl rfl ?_
 have s:h.Sub (h.add (.cells .rw [.int .i64 c.sl,.int .i64 c.sh,.int .i64 c.gl,.int .i64 c.gh])):=(by repeat(first|assumption|exact H.Sub.refl (by assumption)|refine H.Sub.add ?_ _|refine H.Sub.set ?_ (by first|omega|(simp only[H.next_add,H.next_set,H.next_del]<;>omega)) (by first|omega|(simp only[H.next_add,H.next_set,H.next_del]<;>omega)) (by assumption) _))
 have w1:wr .i64 (c.sh-c.sl)=c.sh-c.sl:=wr_in (by omega) (by omega)
 have w2:wr .i64 (c.gh-c.gl)=c.gh-c.gl:=wr_in (by omega) (by omega)
 by_cases h1:c.sh-c.sl≤4
 ·simp -implicitDefEqProofs(maxSteps:=999999)(disch:=first|with_reducible rfl|omega|(simp only[nA,nS,nD]<;>omega)|fail)only[c135,go_sem,encC,w1,w2,h1]
  exact⟨by simp[Ck.sm,h1],s⟩
 ·simp -implicitDefEqProofs(maxSteps:=999999)(disch:=first|with_reducible rfl|omega|(simp only[nA,nS,nD]<;>omega)|fail)only[c135,go_sem,encC,w1,w2,h1]
  exact⟨by simp[Ck.sm,h1],s⟩
theorem sz_no {a:At}(h:a.sz=false):(inB a.mins 1 240=false)∨(inB a.mins 1 240=true∧inB a.evs 1 4=false)∨(inB a.mins 1 240=true∧inB a.evs 1 4=true∧(3:Int)<(a.cks.length:Int))∨
  (inB a.mins 1 240=true∧inB a.evs 1 4=true∧¬(3:Int)<(a.cks.length:Int)∧(8:Int)<(a.rds.length:Int))∨(inB a.mins 1 240=true∧inB a.evs 1 4=true∧¬(3:Int)<(a.cks.length:Int)∧¬(8:Int)<(a.rds.length:Int)∧(4:Int)<(a.gps.length:Int)):=by
 cases h1:inB a.mins 1 240
 ·exact .inl rfl
 cases h2:inB a.evs 1 4
 ·exact .inr (.inl ⟨rfl,rfl⟩)
 by_cases h3:(3:Int)<(a.cks.length:Int)
 ·exact .inr (.inr (.inl ⟨rfl,rfl,h3⟩))
 by_cases h4:(8:Int)<(a.rds.length:Int)
 ·exact .inr (.inr (.inr (.inl ⟨rfl,rfl,h3,h4⟩)))
 refine .inr (.inr (.inr (.inr ⟨rfl,rfl,h3,h4,?_⟩)))
 simp only[At.sz,h1,h2,Bool.true_and,Bool.and_eq_false_iff,decide_eq_false_iff_not] at h
 omega
set_option maxHeartbeats 4000000 in
theorem check_ev {h:H}{v:V}{a:At}(hw:h.wf)(ha:AtIs h v a)(Q:V→H→Prop)(q:∀h',h.Sub h'→Q (.int .i64 (checkA a)) h'):Ev fnG fastA (.fn 49 [] []) [v] h Q:=by
 obtain⟨C,R,G,rfl,x⟩:=ha
 have hlC:=x.c.lenE
 have hlR:=x.r.lenE
 have hlG:=x.g.lenE
 refine Ev_body (fd:=c49) rfl rfl rfl ?_
 have s2:h.Sub ((h.add (.cells .rw (atV a C R G))).add (.cells .rw [.fn 76 [.agg (atV a C R G)] []])):=(by repeat(first|assumption|exact H.Sub.refl (by assumption)|refine H.Sub.add ?_ _|refine H.Sub.set ?_ (by first|omega|(simp only[H.next_add,H.next_set,H.next_del]<;>omega)) (by first|omega|(simp only[H.next_add,H.next_set,H.next_del]<;>omega)) (by assumption) _))
 have g1:((h.add (.cells .rw (atV a C R G))).add (.cells .rw [.fn 76 [.agg (atV a C R G)] []])).cells h.next=some (atV a C R G):=by simp -implicitDefEqProofs(maxSteps:=999999)(disch:=first|with_reducible rfl|omega|(simp only[nA,nS,nD]<;>omega)|fail)only[go_sem]
 have g2:((h.add (.cells .rw (atV a C R G))).add (.cells .rw [.fn 76 [.agg (atV a C R G)] []])).cells (h.next+1)=some [.fn 76 [.agg (atV a C R G)] []]:=by simp -implicitDefEqProofs(maxSteps:=999999)(disch:=first|with_reducible rfl|omega|(simp only[nA,nS,nD]<;>omega)|fail)only[go_sem]
 have nx:((h.add (.cells .rw (atV a C R G))).add (.cells .rw [.fn 76 [.agg (atV a C R G)] []])).next=h.next+2:=by simp only[H.next_add]
 obtain⟨h2,hh2⟩:∃h2,(h.add (.cells .rw (atV a C R G))).add (.cells .rw [.fn 76 [.agg (atV a C R G)] []])=h2:=⟨_,rfl⟩
 rw[hh2] at s2 g1 g2 nx
 cases hsz:a.sz with
 |false=>
  have e:checkA a=2:=by unfold checkA;rw[if_pos hsz]
  rw[e] at q
  rcases sz_no hsz with k|k|k|k|k
  all_goals
   simp -implicitDefEqProofs(maxSteps:=999999)(disch:=first|with_reducible rfl|omega|(simp only[nA,nS,nD]<;>omega)|fail)only[c49,go_sem,in_eq,k,hlC,hlR,hlG]
   rw[hh2]
   exact q _ s2
 |true=>
 have k:=hsz
 simp only[At.sz,Bool.and_eq_true,decide_eq_true_eq] at k
 have k3:¬(3:Int)<(a.cks.length:Int):=by omega
 have k4:¬(8:Int)<(a.rds.length:Int):=by omega
 have k5:¬(4:Int)<(a.gps.length:Int):=by omega
 have ke:=inB_iff.1 k.2.1
 simp -implicitDefEqProofs(maxSteps:=999999)(disch:=first|with_reducible rfl|omega|(simp only[nA,nS,nD]<;>omega)|fail)only[c49,go_sem,in_eq,k.1,k.2.1,k3,k4,k5,hlC,hlR,hlG]
 rw[hh2]
 refine(everyCk_ev (p:=Ck.bd) s2.wf (x.c.mono s2) fun c _ h1 hs=>check1_ev hs.wf c).mono fun u h3 hu=>?_
 obtain⟨rfl,s23⟩:=hu
 have s3:=s2.trans s23
 have g13:=s23.cells g1
 have g23:=s23.cells g2
 have l3:=s23.next
 have n1:a.sz≠false:=by rw[hsz];simp
 have i1:checkA a=if a.cks.all Ck.bd=false then 3
   else if a.rds.all Rd.bd=false∨a.gps.all Gp.bd=false then 3
   else if a.rds.all a.rdOk=false∨a.gps.all a.gpOk=false then 1
   else if a.cks.all Ck.ord=false∨a.gps.all Gp.ord=false then 4
   else if a.cks.all Ck.sm=false then 10
   else 0:=by unfold checkA;rw[if_neg n1]
 rw[i1] at q
 cases d1:a.cks.all Ck.bd with
 |false=>
  rw[if_pos d1] at q
  simp -implicitDefEqProofs(maxSteps:=999999)(disch:=first|with_reducible rfl|omega|(simp only[nA,nS,nD]<;>omega)|fail)only[go_sem]
  exact q _ s3
 |true=>
 rw[if_neg (by rw[d1];simp)] at q
 simp -implicitDefEqProofs(maxSteps:=999999)(disch:=first|with_reducible rfl|omega|(simp only[nA,nS,nD]<;>omega)|fail)only[go_sem,g13]
 refine(everyRd_ev (p:=Rd.bd) s3.wf (x.r.mono s3) fun c _ h1 hs=>check2_ev hs.wf c).mono fun u h4 hu=>?_
 obtain⟨rfl,s34⟩:=hu
 have s4:=s3.trans s34
 cases d2:a.rds.all Rd.bd with
 |false=>
  rw[if_pos (.inl d2)] at q
  simp -implicitDefEqProofs(maxSteps:=999999)(disch:=first|with_reducible rfl|omega|(simp only[nA,nS,nD]<;>omega)|fail)only[go_sem]
  exact q _ s4
 |true=>
 have g14:=s34.cells g13
 simp -implicitDefEqProofs(maxSteps:=999999)(disch:=first|with_reducible rfl|omega|(simp only[nA,nS,nD]<;>omega)|fail)only[go_sem,g14]
 refine(everyGp_ev (p:=Gp.bd) s4.wf (x.g.mono s4) fun c _ h1 hs=>check3_ev hs.wf c).mono fun u h5 hu=>?_
 obtain⟨rfl,s45⟩:=hu
 have s5:=s4.trans s45
 cases d3:a.gps.all Gp.bd with
 |false=>
  rw[if_pos (.inr d3)] at q
  simp -implicitDefEqProofs(maxSteps:=999999)(disch:=first|with_reducible rfl|omega|(simp only[nA,nS,nD]<;>omega)|fail)only[go_sem]
  exact q _ s5
 |true=>
 rw[if_neg (by rw[d2,d3];simp)] at q
 have s35:=s34.trans s45
 have g15:=s35.cells g13
 have g25:=s35.cells g23
 have l5:=s35.next
 simp -implicitDefEqProofs(maxSteps:=999999)(disch:=first|with_reducible rfl|omega|(simp only[nA,nS,nD]<;>omega)|fail)only[go_sem,g15]
 refine(everyRd_ev (p:=a.rdOk) s5.wf (x.r.mono s5) fun c _ h1 hs=>check4_ev hs.wf (x.mono (s5.trans hs)) (by omega) (hs.cells g15) (hs.cells g25) (by have:=hs.next;omega) (by have:=hs.next;omega) c).mono fun u h6 hu=>?_
 obtain⟨rfl,s56⟩:=hu
 have s6:=s5.trans s56
 cases d4:a.rds.all a.rdOk with
 |false=>
  rw[if_pos (.inl d4)] at q
  simp -implicitDefEqProofs(maxSteps:=999999)(disch:=first|with_reducible rfl|omega|(simp only[nA,nS,nD]<;>omega)|fail)only[go_sem]
  exact q _ s6
 |true=>
 have g16:=s56.cells g15
 have g26:=s56.cells g25
 have l6:=s56.next
 simp -implicitDefEqProofs(maxSteps:=999999)(disch:=first|with_reducible rfl|omega|(simp only[nA,nS,nD]<;>omega)|fail)only[go_sem,g16]
 refine(everyGp_ev (p:=a.gpOk) s6.wf (x.g.mono s6) fun c _ h1 hs=>check5_ev hs.wf (by omega) (hs.cells g26) (by have:=hs.next;omega) c).mono fun u h7 hu=>?_
 obtain⟨rfl,s67⟩:=hu
 have s7:=s6.trans s67
 cases d5:a.gps.all a.gpOk with
 |false=>
  rw[if_pos (.inr d5)] at q
  simp -implicitDefEqProofs(maxSteps:=999999)(disch:=first|with_reducible rfl|omega|(simp only[nA,nS,nD]<;>omega)|fail)only[go_sem]
  exact q _ s7
 |true=>
 rw[if_neg (by rw[d4,d5];simp)] at q
 have g17:=s67.cells g16
 simp -implicitDefEqProofs(maxSteps:=999999)(disch:=first|with_reducible rfl|omega|(simp only[nA,nS,nD]<;>omega)|fail)only[go_sem,g17]
 refine(everyCk_ev (p:=Ck.ord) s7.wf (x.c.mono s7) fun c _ h1 hs=>check6_ev hs.wf c).mono fun u h8 hu=>?_
 obtain⟨rfl,s78⟩:=hu
 have s8:=s7.trans s78
 cases d6:a.cks.all Ck.ord with
 |false=>
  rw[if_pos (.inl d6)] at q
  simp -implicitDefEqProofs(maxSteps:=999999)(disch:=first|with_reducible rfl|omega|(simp only[nA,nS,nD]<;>omega)|fail)only[go_sem]
  exact q _ s8
 |true=>
 have g18:=s78.cells g17
 simp -implicitDefEqProofs(maxSteps:=999999)(disch:=first|with_reducible rfl|omega|(simp only[nA,nS,nD]<;>omega)|fail)only[go_sem,g18]
 refine(everyGp_ev (p:=Gp.ord) s8.wf (x.g.mono s8) fun c _ h1 hs=>check7_ev hs.wf c).mono fun u h9 hu=>?_
 obtain⟨rfl,s89⟩:=hu
 have s9:=s8.trans s89
 cases d7:a.gps.all Gp.ord with
 |false=>
  rw[if_pos (.inr d7)] at q
  simp -implicitDefEqProofs(maxSteps:=999999)(disch:=first|with_reducible rfl|omega|(simp only[nA,nS,nD]<;>omega)|fail)only[go_sem]
  exact q _ s9
 |true=>
 rw[if_neg (by rw[d6,d7];simp)] at q
 have g19:=s89.cells g18
 simp -implicitDefEqProofs(maxSteps:=999999)(disch:=first|with_reducible rfl|omega|(simp only[nA,nS,nD]<;>omega)|fail)only[go_sem,g19]
 refine(everyCk_ev (p:=Ck.sm) s9.wf (x.c.mono s9) fun c hc h1 hs=>check8_ev hs.wf (List.all_eq_true.1 d1 c hc)).mono fun u hA hu=>?_
 obtain⟨rfl,s9A⟩:=hu
 have sA:=s9.trans s9A
 cases d8:a.cks.all Ck.sm with
 |false=>
  rw[if_pos d8] at q
  simp -implicitDefEqProofs(maxSteps:=999999)(disch:=first|with_reducible rfl|omega|(simp only[nA,nS,nD]<;>omega)|fail)only[go_sem]
  exact q _ sA
 |true=>
 rw[if_neg (by rw[d8];simp)] at q
 simp -implicitDefEqProofs(maxSteps:=999999)(disch:=first|with_reducible rfl|omega|(simp only[nA,nS,nD]<;>omega)|fail)only[go_sem]
 exact q _ sA
end Go.Ab.Tryz
namespace Go.Ab
end Go.Ab
namespace Go.Ab.Tryz
open Go.Proofs
end Go.Ab.Tryz
namespace Go.Ab.Tryz
open Go.Proofs
end Go.Ab.Tryz
namespace Go.Ab
end Go.Ab
namespace Go.Ab.Tryz
open Go.Proofs
end Go.Ab.Tryz
namespace Go.Ab.Tryz
open Go.Proofs
end Go.Ab.Tryz
namespace Go.Ab
theorem clone_core {h:H}{x:V}{sz by_:Nat}{rows:List (List V)}{Q:V→H→Prop}(hw:h.wf)(hx:SlAt h x sz rows)(hl:rows.length*by_≤1000000000)(hl2:rows.length≤1000000000)(q:∀v h',OwnC h h' v sz rows→Q v h'):
  P2 (e_app' (h.add (.cells .rw [])) sz by_ (.sl h.next 0 0 (.fix 0)) x) Q:=by
 have s1:h.Sub (h.add (.cells .rw [])):=(H.Sub.refl hw).add _
 have hx1:=(hx.mono s1).elems
 rw[e_app_eq,hx1.1,hx1.2]
 simp only[ob_some]
 cases hn:rows.length with
 |zero=>
  have e:rows=[]:=List.length_eq_zero_iff.1 hn
  rw[e_app_fix0]
  have:Nat.ble 0 0=true:=rfl
  rw[this,og_true,P2_some]
  exact q _ _ (by rw[e];exact⟨s1,by simp,.inr (.inr ⟨h.next,0,[],rfl,Nat.le_refl _,by rw[H.next_add];omega,get_add_new rfl,by simp,Nat.le_refl _⟩)⟩)
 |succ k=>
  rw[e_app_full (by omega) (elems_0 _ _ _ _ _) (by rw[hn] at hl;simp only[Nat.zero_add];omega) (by omega),grown_eq,P2_some]
  exact q _ _ ⟨s1.add _,hx.1,.inr (.inl ⟨(h.add (.cells .rw [])).next,by rw[hn,Nat.zero_add],by rw[H.next_add];omega,by simp only[H.next_add];omega,by rw[get_add_new rfl];rfl⟩)⟩
end Go.Ab
namespace Go.Ab.Tryz
open Go.Proofs
abbrev Runs:=List (Int × Int)
def encX (x:Int × Int):List V:=[.int .i64 x.1,.int .i64 x.2]
def Ck.ng (c:Ck):Nat:=(c.gh-c.gl+1).toNat
end Go.Ab.Tryz
namespace Go.Ab.Tryz
open Go.Proofs
end Go.Ab.Tryz
namespace Go.Ab
end Go.Ab
namespace Go.Ab.Tryz
open Go.Proofs
end Go.Ab.Tryz
namespace Go.Ab.Tryz
open Go.Proofs
end Go.Ab.Tryz
namespace Go.Ab
end Go.Ab
namespace Go.Ab.Tryz
open Go.Proofs
abbrev Fd:=V × Runs × List Int
def rowF (p:Fd):List V:=p.1::p.2.2.map iv
structure FsO (h0 h:H)(y:V)(Ps:List Fd):Prop where
 o:OwnC h0 h y 26 (Ps.map rowF)
 e:∀p∈Ps,OwnC h0 h p.1 2 (p.2.1.map encX)
 l:∀p∈Ps,p.2.2.length=25
structure CI (h:H)(r0:LoopR)(l c e:Nat)(all:List (Runs × List Int))(n:Nat)(x:H)(y:V)(Ps:List Fd):Prop where
 f:FsO h x y Ps
 ps:Ps.map Prod.snd=all.take n
 dj:∀p∈Ps,∀b,blkOf p.1 b→¬blkOf y b∧l<b
 yb:∀b,blkOf y b→l<b
 gl:x.get l=some (.loop r0)
 gd:x.get e=some .dfr
 gc:x.get c=some (.cells .rw [y])
theorem CI.mono {h:H}{r0:LoopR}{l c e:Nat}{all:List (Runs × List Int)}{n:Nat}{x x':H}{y:V}{Ps:List Fd}(k:CI h r0 l c e all n x y Ps)(s:x.Sub x'):CI h r0 l c e all n x' y Ps:=
 ⟨⟨k.f.o.mono s,fun p hp=>(k.f.e p hp).mono s,k.f.l⟩,k.ps,k.dj,k.yb,s.get k.gl,s.get k.gd,s.get k.gc⟩
end Go.Ab.Tryz
namespace Go.Ab.Tryz
open Go.Proofs
end Go.Ab.Tryz
namespace Go.Ab.Tryz
open Go.Proofs
end Go.Ab.Tryz
namespace Go.Ab.Tryz
open Go.Proofs
end Go.Ab.Tryz
namespace Go.Ab.Tryz
open Go.Proofs
end Go.Ab.Tryz
namespace Go.Ab.Tryz
open Go.Proofs
end Go.Ab.Tryz
namespace Go.Ab.Tryz
open Go.Proofs
end Go.Ab.Tryz
namespace Go.Ab
end Go.Ab
namespace Go.Ab.Tryz
open Go.Proofs
end Go.Ab.Tryz
namespace Go.Ab
namespace Tryz
end Tryz
end Go.Ab
namespace Go.Ab
theorem Keeps.new {S:Nat→Prop}{h h':H}(hw:h.wf)(k:Keeps (fun c=>S c∨h.next≤c) h h'):Keeps S h h':=⟨k.1,fun c y e n=>k.2 c y e fun hs=>hs.elim n fun hge=>by have:=hw c y e;omega⟩
structure Sl6 (h0 z:H)(n1:Nat)(v:Nat→V)(sz:Nat→Nat)(rows:Nat→List (List V)):Prop where
 o:∀i,i<6→OwnC h0 z (v i) (sz i) (rows i)
 lo:∀i,i<6→∀b,blkOf (v i) b→n1≤b
 dj:∀i j,i<6→j<6→i≠j→∀b,blkOf (v i) b→¬blkOf (v j) b
variable {h0 z z':H} {n1:Nat} {v:Nat→V} {sz:Nat→Nat} {rows:Nat→List (List V)}
theorem Sl6.keep (k:Sl6 h0 z n1 v sz rows){S:Nat→Prop}(kk:Keeps S z z')(s:h0.Sub z')(hS:∀b,S b→b<n1):Sl6 h0 z' n1 v sz rows:=
 ⟨fun i hi=>(k.o i hi).keep kk s fun b hb q=>by have:=k.lo i hi b hb;have:=hS b q;omega,k.lo,k.dj⟩
theorem Sl6.rw (k:Sl6 h0 z n1 v sz rows){rows':Nat→List (List V)}(e:∀i,i<6→rows i=rows' i):Sl6 h0 z n1 v sz rows':=⟨fun i hi=>by rw[←e i hi];exact k.o i hi,k.lo,k.dj⟩
theorem Sl6.mono (k:Sl6 h0 z n1 v sz rows)(s:z.Sub z'):Sl6 h0 z' n1 v sz rows:=⟨fun i hi=>(k.o i hi).mono s,k.lo,k.dj⟩
def updF {α:Type}(f:Nat→α)(i:Nat)(x:α)(j:Nat):α:=if j=i then x else f j
theorem updF_same {α:Type}(f:Nat→α)(i:Nat)(x:α):updF f i x i=x:=if_pos rfl
theorem updF_other {α:Type}(f:Nat→α){i j:Nat}(x:α)(h:j≠i):updF f i x j=f j:=if_neg h
theorem Sl6.app (k:Sl6 h0 z n1 v sz rows){i:Nat}(hi:i<6){w:V}{r:List V}(o:OwnC h0 z' w (sz i) (rows i++[r]))(n:∀b,blkOf w b→blkOf (v i) b∨z.next≤b)(hz:n1≤z.next)(kk:Keeps (blkOf (v i)) z z'):
  Sl6 h0 z' n1 (updF v i w) sz (updF rows i (rows i++[r])):=by
 refine⟨fun j hj=>?_,fun j hj b hb=>?_,fun j l hj hl hjl b hb=>?_⟩
 ·by_cases e:j=i
  ·subst e;rw[updF_same,updF_same];exact o
  ·rw[updF_other _ _ e,updF_other _ _ e]
   exact(k.o j hj).keep kk o.1 fun b hb=>k.dj j i hj hi e b hb
 ·by_cases e:j=i
  ·subst e;rw[updF_same] at hb
   exact(n b hb).elim (k.lo j hi b) fun q=>by omega
  ·rw[updF_other _ _ e] at hb;exact k.lo j hj b hb
 ·by_cases e:j=i
  ·subst e
   rw[updF_same] at hb;rw[updF_other _ _ (Ne.symm hjl)]
   exact(n b hb).elim (k.dj j l hi hl hjl b) fun q w=>by have:=((k.o l hl).blk w).2.1;omega
  ·rw[updF_other _ _ e] at hb
   by_cases e2:l=i
   ·subst e2;rw[updF_same]
    intro w
    exact(n b w).elim (k.dj j l hj hi e b hb) fun q=>by have:=((k.o j hj).blk hb).2.1;omega
   ·rw[updF_other _ _ e2];exact k.dj j l hj hl hjl b hb
end Go.Ab
namespace Go.Ab.Tryz
open Go.Proofs
end Go.Ab.Tryz
namespace Go.Ab.Tryz
open Go.Proofs
def sz6:Nat→Nat
 |0=>4
 |1=>3
 |2=>4
 |_=>1
def rowsM (a:At)(ss gg tt:List Int):Nat→List (List V)
 |0=>a.cks.map encC
 |1=>a.rds.map encR
 |2=>a.gps.map encG
 |3=>ss.map encI
 |4=>gg.map encI
 |5=>tt.map encI
 |_=>[]
variable {h0:H} {p:Nat} {x:V} {n1 c0:Nat} {a a':At} {ss gg tt ss' gg' tt':List Int} {T T':Int} {v v':Nat→V} {z z5:H}
end Go.Ab.Tryz
namespace Go.Ab.Tryz
open Go.Proofs
theorem rowsUp {a a':At}{ss gg tt ss' gg' tt':List Int}{j:Nat}{r:List V}(h0:updF (rowsM a ss gg tt) j (rowsM a ss gg tt j++[r]) 0=a'.cks.map encC)(h1:updF (rowsM a ss gg tt) j (rowsM a ss gg tt j++[r]) 1=a'.rds.map encR)(h2:updF (rowsM a ss gg tt) j (rowsM a ss gg tt j++[r]) 2=a'.gps.map encG)
  (h3:updF (rowsM a ss gg tt) j (rowsM a ss gg tt j++[r]) 3=ss'.map encI) (h4:updF (rowsM a ss gg tt) j (rowsM a ss gg tt j++[r]) 4=gg'.map encI) (h5:updF (rowsM a ss gg tt) j (rowsM a ss gg tt j++[r]) 5=tt'.map encI):∀i,i<6→updF (rowsM a ss gg tt) j (rowsM a ss gg tt j++[r]) i=rowsM a' ss' gg' tt' i:=fun i hi=>by
 rcases(by omega:i=0∨i=1∨i=2∨i=3∨i=4∨i=5) with rfl|rfl|rfl|rfl|rfl|rfl
 ·exact h0
 ·exact h1
 ·exact h2
 ·exact h3
 ·exact h4
 ·exact h5
theorem rows0 {a:At}{ss gg tt:List Int}{c:Ck}:∀i,i<6→updF (rowsM a ss gg tt) 0 (rowsM a ss gg tt 0++[encC c]) i=rowsM {a with cks:=a.cks++[c]} ss gg tt i:=rowsUp (by simp[updF,rowsM]) (by simp[updF,rowsM]) (by simp[updF,rowsM]) (by simp[updF,rowsM]) (by simp[updF,rowsM]) (by simp[updF,rowsM])
theorem rows1 {a:At}{ss gg tt:List Int}{c:Rd}:∀i,i<6→updF (rowsM a ss gg tt) 1 (rowsM a ss gg tt 1++[encR c]) i=rowsM {a with rds:=a.rds++[c]} ss gg tt i:=rowsUp (by simp[updF,rowsM]) (by simp[updF,rowsM]) (by simp[updF,rowsM]) (by simp[updF,rowsM]) (by simp[updF,rowsM]) (by simp[updF,rowsM])
theorem rows2 {a:At}{ss gg tt:List Int}{c:Gp}:∀i,i<6→updF (rowsM a ss gg tt) 2 (rowsM a ss gg tt 2++[encG c]) i=rowsM {a with gps:=a.gps++[c]} ss gg tt i:=rowsUp (by simp[updF,rowsM]) (by simp[updF,rowsM]) (by simp[updF,rowsM]) (by simp[updF,rowsM]) (by simp[updF,rowsM]) (by simp[updF,rowsM])
end Go.Ab.Tryz
namespace Go.Ab.Tryz
open Go.Proofs
end Go.Ab.Tryz
namespace Go.Ab.Tryz
open Go.Proofs
theorem allOne_flat {α:Type}{enc:α→List V}(h:∀a,allOne (enc a)=true)(l:List α):allOne (l.map enc).flatten=true:=by
 rw[allOne_eq]
 intro v hv
 obtain⟨r,hr,hvr⟩:=List.mem_flatten.1 hv
 obtain⟨a,_,rfl⟩:=List.mem_map.1 hr
 exact allOne_eq.1 (h a) v hvr
theorem SlAt.full {h:H}{b n:Nat}{k:Kd}{c:Cap}{sz:Nat}{rows:List (List V)}(hn:n=rows.length)(hb:h.get b=some (.cells k rows.flatten))(hsz:∀r∈rows,r.length=sz)(hl:rows.length≤1000000):SlAt h (.sl b 0 n c) sz rows:=by
 subst hn
 refine⟨hsz,by omega,.inr ⟨b,0,c,_,rfl,.inr (cells_of hb),getN_eq.2 ⟨?_,?_⟩⟩⟩
 ·rw[List.drop_zero,←flatten_len hsz,List.take_length]
 ·rw[flatten_len hsz];omega
theorem equalClock_ev {l r:List (List Int)}{h:H}{x y:V}(hx:SlAt h x 4 (l.map (List.map iv)))(hy:SlAt h y 4 (r.map (List.map iv))):
  Ev fnG fastA (.fn 155 [] []) [x,y] h fun v h'=>v=.bool (decide (l=r))∧h'=h:=by
 have hb:=hx.boundE
 refine Ev_body (fd:=c155) rfl rfl rfl ?_
 by_cases hl:l.length=r.length
 ·have hl':(l.length:Int)=(r.length:Int):=by omega
  simp -implicitDefEqProofs(maxSteps:=999999)(disch:=first|with_reducible rfl|omega|(simp only[nA,nS,nD]<;>omega)|fail)only[c155,go_sem,hx.lenE,hy.lenE,hl',ne_eq,not_true_eq_false]
  refine W_count l.length (fun i s=>∃tm,s=⟨tm,h,[]⟩∧(Opd.t 0).ev tm=x∧(Opd.t 1).ev tm=y∧(Opd.t 12).ev tm=.int .i64 (l.length:Int)∧(Opd.t 13).ev tm=.int .i64 (i:Int)∧l.take i=r.take i)
   ?_ ?_ (i:=0) (Nat.zero_le _) ⟨_,rfl,(by simp[ev_c,ev_put]<;>rfl),(by simp[ev_c,ev_put]<;>rfl),(by simp only[ev_put, ↓reduceIte,Nat.reduceEqDiff,hl]),(by simp only[ev_put];rfl),rfl⟩
  ·rintro i s hi ⟨tm,rfl,e0,e1,e12,e13,e9⟩
   have hi':(i:Int)<(l.length:Int):=by omega
   have hi2:i<r.length:=by omega
   obtain⟨b,o,c,cs,rfl,hc,hq,hg,hn,hn0⟩:=hx.at hi
   obtain⟨b2,o2,c2,cs2,rfl,hc2,hq2,hg2,hn2,hn02⟩:=hy.at hi2
   have h1:(l[i]=r[i])↔l.take (i+1)=r.take (i+1):=by
    rw[List.take_succ_eq_append_getElem hi,List.take_succ_eq_append_getElem hi2,e9];simp only[List.append_cancel_left_eq,List.cons.injEq,and_true]
   have hf:=q_feq_map l[i] r[i] (n:=4) (by simpa using hx.1 _ (List.mem_map_of_mem (List.getElem_mem hi))) (by simpa using hy.1 _ (List.mem_map_of_mem (List.getElem_mem hi2))) true
   by_cases he:l[i]=r[i]
   ·rw[he] at hf
    simp -implicitDefEqProofs(maxSteps:=999999)(disch:=first|with_reducible rfl|omega|(simp only[nA,nS,nD]<;>omega)|fail)only[go_sem,e0,e1,e12,e13,hi',hq (nat_cst i),hq2 (nat_cst i),hc,hc2,hg,hg2,hf,he,ngB,wr_succ]
    exact⟨_,rfl,(by simp[ev_c,ev_put,e0]<;>rfl),(by simp[ev_c,ev_put,e1]<;>rfl),(by simp[ev_c,ev_put,e12]<;>rfl),(by simp[ev_c,ev_put]<;>rfl),h1.1 he⟩
   ·simp -implicitDefEqProofs(maxSteps:=999999)(disch:=first|with_reducible rfl|omega|(simp only[nA,nS,nD]<;>omega)|fail)only[go_sem,e0,e1,e12,e13,hi',hq (nat_cst i),hq2 (nat_cst i),hc,hc2,hg,hg2,hf,he,ngB,wr_succ]
    rw[decide_eq_false]
    intro e;exact he (h1.2 (by rw[e]))
  ·rintro s ⟨tm,rfl,e0,e1,e12,e13,e9⟩
   simp -implicitDefEqProofs(maxSteps:=999999)(disch:=first|with_reducible rfl|omega|(simp only[nA,nS,nD]<;>omega)|fail)only[go_sem,e0,e1,e12,e13,Int.lt_irrefl]
   rw[decide_eq_true]
   rw[List.take_length,hl,List.take_length] at e9;exact e9
 ·have hl':¬(l.length:Int)=(r.length:Int):=by omega
  simp -implicitDefEqProofs(maxSteps:=999999)(disch:=first|with_reducible rfl|omega|(simp only[nA,nS,nD]<;>omega)|fail)only[c155,go_sem,hx.lenE,hy.lenE,hl',ne_eq,not_false_eq_true]
  rw[decide_eq_false]
  intro e;exact hl (by rw[e])
theorem eqClock_ev {l r:List (List Int)}{h:H}{x y:V}(hx:SlAt h x 4 (l.map (List.map iv)))(hy:SlAt h y 4 (r.map (List.map iv)))(Q:V→H→Prop):
  Ev fnG fastA (.fn 99 [] []) [x,y] h Q=Q (.bool (decide (l=r))) h:=by
 refine Ev.det (Ev_body (fd:=c99) rfl rfl rfl ?_) Q
 simp -implicitDefEqProofs(maxSteps:=999999)(disch:=first|with_reducible rfl|omega|(simp only[nA,nS,nD]<;>omega)|fail)only[c99,go_sem]
 refine(equalClock_ev hx hy).mono fun v h' hv=>?_
 obtain⟨rfl,rfl⟩:=hv
 simp -implicitDefEqProofs(maxSteps:=999999)(disch:=first|with_reducible rfl|omega|(simp only[nA,nS,nD]<;>omega)|fail)only[go_sem]
theorem equalReading_ev {l r:List (List Int)}{h:H}{x y:V}(hx:SlAt h x 3 (l.map (List.map iv)))(hy:SlAt h y 3 (r.map (List.map iv))):
  Ev fnG fastA (.fn 156 [] []) [x,y] h fun v h'=>v=.bool (decide (l=r))∧h'=h:=by
 have hb:=hx.boundE
 refine Ev_body (fd:=c156) rfl rfl rfl ?_
 by_cases hl:l.length=r.length
 ·have hl':(l.length:Int)=(r.length:Int):=by omega
  simp -implicitDefEqProofs(maxSteps:=999999)(disch:=first|with_reducible rfl|omega|(simp only[nA,nS,nD]<;>omega)|fail)only[c156,go_sem,hx.lenE,hy.lenE,hl',ne_eq,not_true_eq_false]
  refine W_count l.length (fun i s=>∃tm,s=⟨tm,h,[]⟩∧(Opd.t 0).ev tm=x∧(Opd.t 1).ev tm=y∧(Opd.t 12).ev tm=.int .i64 (l.length:Int)∧(Opd.t 13).ev tm=.int .i64 (i:Int)∧l.take i=r.take i)
   ?_ ?_ (i:=0) (Nat.zero_le _) ⟨_,rfl,(by simp[ev_c,ev_put]<;>rfl),(by simp[ev_c,ev_put]<;>rfl),(by simp only[ev_put, ↓reduceIte,Nat.reduceEqDiff,hl]),(by simp only[ev_put];rfl),rfl⟩
  ·rintro i s hi ⟨tm,rfl,e0,e1,e12,e13,e9⟩
   have hi':(i:Int)<(l.length:Int):=by omega
   have hi2:i<r.length:=by omega
   obtain⟨b,o,c,cs,rfl,hc,hq,hg,hn,hn0⟩:=hx.at hi
   obtain⟨b2,o2,c2,cs2,rfl,hc2,hq2,hg2,hn2,hn02⟩:=hy.at hi2
   have h1:(l[i]=r[i])↔l.take (i+1)=r.take (i+1):=by
    rw[List.take_succ_eq_append_getElem hi,List.take_succ_eq_append_getElem hi2,e9];simp only[List.append_cancel_left_eq,List.cons.injEq,and_true]
   have hf:=q_feq_map l[i] r[i] (n:=3) (by simpa using hx.1 _ (List.mem_map_of_mem (List.getElem_mem hi))) (by simpa using hy.1 _ (List.mem_map_of_mem (List.getElem_mem hi2))) true
   by_cases he:l[i]=r[i]
   ·rw[he] at hf
    simp -implicitDefEqProofs(maxSteps:=999999)(disch:=first|with_reducible rfl|omega|(simp only[nA,nS,nD]<;>omega)|fail)only[go_sem,e0,e1,e12,e13,hi',hq (nat_cst i),hq2 (nat_cst i),hc,hc2,hg,hg2,hf,he,ngB,wr_succ]
    exact⟨_,rfl,(by simp[ev_c,ev_put,e0]<;>rfl),(by simp[ev_c,ev_put,e1]<;>rfl),(by simp[ev_c,ev_put,e12]<;>rfl),(by simp[ev_c,ev_put]<;>rfl),h1.1 he⟩
   ·simp -implicitDefEqProofs(maxSteps:=999999)(disch:=first|with_reducible rfl|omega|(simp only[nA,nS,nD]<;>omega)|fail)only[go_sem,e0,e1,e12,e13,hi',hq (nat_cst i),hq2 (nat_cst i),hc,hc2,hg,hg2,hf,he,ngB,wr_succ]
    rw[decide_eq_false]
    intro e;exact he (h1.2 (by rw[e]))
  ·rintro s ⟨tm,rfl,e0,e1,e12,e13,e9⟩
   simp -implicitDefEqProofs(maxSteps:=999999)(disch:=first|with_reducible rfl|omega|(simp only[nA,nS,nD]<;>omega)|fail)only[go_sem,e0,e1,e12,e13,Int.lt_irrefl]
   rw[decide_eq_true]
   rw[List.take_length,hl,List.take_length] at e9;exact e9
 ·have hl':¬(l.length:Int)=(r.length:Int):=by omega
  simp -implicitDefEqProofs(maxSteps:=999999)(disch:=first|with_reducible rfl|omega|(simp only[nA,nS,nD]<;>omega)|fail)only[c156,go_sem,hx.lenE,hy.lenE,hl',ne_eq,not_false_eq_true]
  rw[decide_eq_false]
  intro e;exact hl (by rw[e])
theorem eqReading_ev {l r:List (List Int)}{h:H}{x y:V}(hx:SlAt h x 3 (l.map (List.map iv)))(hy:SlAt h y 3 (r.map (List.map iv)))(Q:V→H→Prop):
  Ev fnG fastA (.fn 100 [] []) [x,y] h Q=Q (.bool (decide (l=r))) h:=by
 refine Ev.det (Ev_body (fd:=c100) rfl rfl rfl ?_) Q
 simp -implicitDefEqProofs(maxSteps:=999999)(disch:=first|with_reducible rfl|omega|(simp only[nA,nS,nD]<;>omega)|fail)only[c100,go_sem]
 refine(equalReading_ev hx hy).mono fun v h' hv=>?_
 obtain⟨rfl,rfl⟩:=hv
 simp -implicitDefEqProofs(maxSteps:=999999)(disch:=first|with_reducible rfl|omega|(simp only[nA,nS,nD]<;>omega)|fail)only[go_sem]
theorem equalGap_ev {l r:List (List Int)}{h:H}{x y:V}(hx:SlAt h x 4 (l.map (List.map iv)))(hy:SlAt h y 4 (r.map (List.map iv))):
  Ev fnG fastA (.fn 157 [] []) [x,y] h fun v h'=>v=.bool (decide (l=r))∧h'=h:=by
 have hb:=hx.boundE
 refine Ev_body (fd:=c157) rfl rfl rfl ?_
 by_cases hl:l.length=r.length
 ·have hl':(l.length:Int)=(r.length:Int):=by omega
  simp -implicitDefEqProofs(maxSteps:=999999)(disch:=first|with_reducible rfl|omega|(simp only[nA,nS,nD]<;>omega)|fail)only[c157,go_sem,hx.lenE,hy.lenE,hl',ne_eq,not_true_eq_false]
  refine W_count l.length (fun i s=>∃tm,s=⟨tm,h,[]⟩∧(Opd.t 0).ev tm=x∧(Opd.t 1).ev tm=y∧(Opd.t 12).ev tm=.int .i64 (l.length:Int)∧(Opd.t 13).ev tm=.int .i64 (i:Int)∧l.take i=r.take i)
   ?_ ?_ (i:=0) (Nat.zero_le _) ⟨_,rfl,(by simp[ev_c,ev_put]<;>rfl),(by simp[ev_c,ev_put]<;>rfl),(by simp only[ev_put, ↓reduceIte,Nat.reduceEqDiff,hl]),(by simp only[ev_put];rfl),rfl⟩
  ·rintro i s hi ⟨tm,rfl,e0,e1,e12,e13,e9⟩
   have hi':(i:Int)<(l.length:Int):=by omega
   have hi2:i<r.length:=by omega
   obtain⟨b,o,c,cs,rfl,hc,hq,hg,hn,hn0⟩:=hx.at hi
   obtain⟨b2,o2,c2,cs2,rfl,hc2,hq2,hg2,hn2,hn02⟩:=hy.at hi2
   have h1:(l[i]=r[i])↔l.take (i+1)=r.take (i+1):=by
    rw[List.take_succ_eq_append_getElem hi,List.take_succ_eq_append_getElem hi2,e9];simp only[List.append_cancel_left_eq,List.cons.injEq,and_true]
   have hf:=q_feq_map l[i] r[i] (n:=4) (by simpa using hx.1 _ (List.mem_map_of_mem (List.getElem_mem hi))) (by simpa using hy.1 _ (List.mem_map_of_mem (List.getElem_mem hi2))) true
   by_cases he:l[i]=r[i]
   ·rw[he] at hf
    simp -implicitDefEqProofs(maxSteps:=999999)(disch:=first|with_reducible rfl|omega|(simp only[nA,nS,nD]<;>omega)|fail)only[go_sem,e0,e1,e12,e13,hi',hq (nat_cst i),hq2 (nat_cst i),hc,hc2,hg,hg2,hf,he,ngB,wr_succ]
    exact⟨_,rfl,(by simp[ev_c,ev_put,e0]<;>rfl),(by simp[ev_c,ev_put,e1]<;>rfl),(by simp[ev_c,ev_put,e12]<;>rfl),(by simp[ev_c,ev_put]<;>rfl),h1.1 he⟩
   ·simp -implicitDefEqProofs(maxSteps:=999999)(disch:=first|with_reducible rfl|omega|(simp only[nA,nS,nD]<;>omega)|fail)only[go_sem,e0,e1,e12,e13,hi',hq (nat_cst i),hq2 (nat_cst i),hc,hc2,hg,hg2,hf,he,ngB,wr_succ]
    rw[decide_eq_false]
    intro e;exact he (h1.2 (by rw[e]))
  ·rintro s ⟨tm,rfl,e0,e1,e12,e13,e9⟩
   simp -implicitDefEqProofs(maxSteps:=999999)(disch:=first|with_reducible rfl|omega|(simp only[nA,nS,nD]<;>omega)|fail)only[go_sem,e0,e1,e12,e13,Int.lt_irrefl]
   rw[decide_eq_true]
   rw[List.take_length,hl,List.take_length] at e9;exact e9
 ·have hl':¬(l.length:Int)=(r.length:Int):=by omega
  simp -implicitDefEqProofs(maxSteps:=999999)(disch:=first|with_reducible rfl|omega|(simp only[nA,nS,nD]<;>omega)|fail)only[c157,go_sem,hx.lenE,hy.lenE,hl',ne_eq,not_false_eq_true]
  rw[decide_eq_false]
  intro e;exact hl (by rw[e])
theorem eqGap_ev {l r:List (List Int)}{h:H}{x y:V}(hx:SlAt h x 4 (l.map (List.map iv)))(hy:SlAt h y 4 (r.map (List.map iv)))(Q:V→H→Prop):
  Ev fnG fastA (.fn 101 [] []) [x,y] h Q=Q (.bool (decide (l=r))) h:=by
 refine Ev.det (Ev_body (fd:=c101) rfl rfl rfl ?_) Q
 simp -implicitDefEqProofs(maxSteps:=999999)(disch:=first|with_reducible rfl|omega|(simp only[nA,nS,nD]<;>omega)|fail)only[c101,go_sem]
 refine(equalGap_ev hx hy).mono fun v h' hv=>?_
 obtain⟨rfl,rfl⟩:=hv
 simp -implicitDefEqProofs(maxSteps:=999999)(disch:=first|with_reducible rfl|omega|(simp only[nA,nS,nD]<;>omega)|fail)only[go_sem]
theorem dupClock_ev {h:H}{x:V}{l:List Ck}(hw:h.wf)(hx:SlAt h x 4 (l.map encC))(hl:l.length≤1000000)(Q:V→H→Prop):
  Ev fnG fastA (.fn 72 [] []) [x] h Q=Q (.sl h.next 0 l.length (.fix l.length)) (h.add (.cells .rw (l.map encC).flatten)):=by
 refine Ev.det (Ev_body (fd:=c72) rfl rfl rfl ?_) Q
 simp -implicitDefEqProofs(maxSteps:=999999)(disch:=first|with_reducible rfl|omega|(simp only[nA,nS,nD]<;>omega)|fail)only[c72,go_sem,hx.lenE,a_msl_0n]
 have:=dup_core (by_:=32) (z:=[.int .i64 0,.int .i64 0,.int .i64 0,.int .i64 0]) hx hw rfl (by omega) (allOne_flat (fun a=>rfl) l)
 rw[List.length_map] at this
 simp -implicitDefEqProofs(maxSteps:=999999)(disch:=first|with_reducible rfl|omega|(simp only[nA,nS,nD]<;>omega)|fail)only[go_sem,this]
theorem dupReading_ev {h:H}{x:V}{l:List Rd}(hw:h.wf)(hx:SlAt h x 3 (l.map encR))(hl:l.length≤1000000)(Q:V→H→Prop):
  Ev fnG fastA (.fn 73 [] []) [x] h Q=Q (.sl h.next 0 l.length (.fix l.length)) (h.add (.cells .rw (l.map encR).flatten)):=by
 refine Ev.det (Ev_body (fd:=c73) rfl rfl rfl ?_) Q
 simp -implicitDefEqProofs(maxSteps:=999999)(disch:=first|with_reducible rfl|omega|(simp only[nA,nS,nD]<;>omega)|fail)only[c73,go_sem,hx.lenE,a_msl_0n]
 have:=dup_core (by_:=24) (z:=[.int .i64 0,.int .i64 0,.int .i64 0]) hx hw rfl (by omega) (allOne_flat (fun a=>rfl) l)
 rw[List.length_map] at this
 simp -implicitDefEqProofs(maxSteps:=999999)(disch:=first|with_reducible rfl|omega|(simp only[nA,nS,nD]<;>omega)|fail)only[go_sem,this]
theorem dupGap_ev {h:H}{x:V}{l:List Gp}(hw:h.wf)(hx:SlAt h x 4 (l.map encG))(hl:l.length≤1000000)(Q:V→H→Prop):
  Ev fnG fastA (.fn 74 [] []) [x] h Q=Q (.sl h.next 0 l.length (.fix l.length)) (h.add (.cells .rw (l.map encG).flatten)):=by
 refine Ev.det (Ev_body (fd:=c74) rfl rfl rfl ?_) Q
 simp -implicitDefEqProofs(maxSteps:=999999)(disch:=first|with_reducible rfl|omega|(simp only[nA,nS,nD]<;>omega)|fail)only[c74,go_sem,hx.lenE,a_msl_0n]
 have:=dup_core (by_:=32) (z:=[.int .i64 0,.int .i64 0,.int .i64 0,.int .i64 0]) hx hw rfl (by omega) (allOne_flat (fun a=>rfl) l)
 rw[List.length_map] at this
 simp -implicitDefEqProofs(maxSteps:=999999)(disch:=first|with_reducible rfl|omega|(simp only[nA,nS,nD]<;>omega)|fail)only[go_sem,this]
end Go.Ab.Tryz
namespace Go.Ab.Tryz
open Go.Proofs
def greatA (a:At):Bool:=decide (8<a.cks.length∨12<a.rds.length∨9<a.gps.length)
theorem great_ev {h:H}(hw:h.wf){a:At}{C R G:V}(x:AtAt h C R G a)(Q:V→H→Prop)(q:∀h',h.Sub h'→Q (.bool (greatA a)) h'):Ev fnG fastA (.fn 54 [] []) [.agg (atV a C R G)] h Q:=by
 have q':=q _ ((by repeat(first|assumption|exact H.Sub.refl (by assumption)|refine H.Sub.add ?_ _|refine H.Sub.set ?_ (by first|omega|(simp only[H.next_add,H.next_set,H.next_del]<;>omega)) (by first|omega|(simp only[H.next_add,H.next_set,H.next_del]<;>omega)) (by assumption) _)):h.Sub (h.add (.cells .rw (atV a C R G))))
 have hlC:=x.c.lenE
 have hlR:=x.r.lenE
 have hlG:=x.g.lenE
 refine Ev_body (fd:=c54) rfl rfl rfl ?_
 by_cases k1:8<(a.cks.length:Int)
 ·simp -implicitDefEqProofs(maxSteps:=999999)(disch:=first|with_reducible rfl|omega|(simp only[nA,nS,nD]<;>omega)|fail)only[c54,go_sem,hlC,hlR,hlG,k1]
  have e:greatA a=true:=by simp only[greatA,decide_eq_true_eq];omega
  rw[e] at q';exact q'
 by_cases k2:12<(a.rds.length:Int)
 ·simp -implicitDefEqProofs(maxSteps:=999999)(disch:=first|with_reducible rfl|omega|(simp only[nA,nS,nD]<;>omega)|fail)only[c54,go_sem,hlC,hlR,hlG,k1,k2]
  have e:greatA a=true:=by simp only[greatA,decide_eq_true_eq];omega
  rw[e] at q';exact q'
 ·simp -implicitDefEqProofs(maxSteps:=999999)(disch:=first|with_reducible rfl|omega|(simp only[nA,nS,nD]<;>omega)|fail)only[c54,go_sem,hlC,hlR,hlG,k1,k2]
  have e:greatA a=decide (9<(a.gps.length:Int)):=by rw[Bool.eq_iff_iff];simp only[greatA,decide_eq_true_eq];omega
  rw[e] at q';exact q'
structure AtNew (h0 h:H)(C R G:V)(a:At):Prop where
 s:h0.Sub h
 is:∃b1 b2 b3,C=.sl b1 0 a.cks.length (.fix a.cks.length)∧R=.sl b2 0 a.rds.length (.fix a.rds.length)∧G=.sl b3 0 a.gps.length (.fix a.gps.length)∧h0.next≤b1∧b1<b2∧b2<b3∧b3<h.next∧
  h.get b1=some (.cells .rw (a.cks.map encC).flatten)∧h.get b2=some (.cells .rw (a.rds.map encR).flatten)∧h.get b3=some (.cells .rw (a.gps.map encG).flatten)
structure SmallA (a:At):Prop where
 c:a.cks.length≤100
 r:a.rds.length≤100
 g:a.gps.length≤100
theorem AtNew.at_ {h0 h:H}{C R G:V}{a:At}(n:AtNew h0 h C R G a)(l:SmallA a):AtAt h C R G a:=by
 obtain⟨b1,b2,b3,rfl,rfl,rfl,_,_,_,_,g1,g2,g3⟩:=n.is
 exact⟨SlAt.full (by simp) g1 (fun r hr=>by obtain⟨c,_,rfl⟩:=List.mem_map.1 hr;rfl) (by rw[List.length_map];have:=l.c;omega),
  SlAt.full (by simp) g2 (fun r hr=>by obtain⟨c,_,rfl⟩:=List.mem_map.1 hr;rfl) (by rw[List.length_map];have:=l.r;omega),
  SlAt.full (by simp) g3 (fun r hr=>by obtain⟨c,_,rfl⟩:=List.mem_map.1 hr;rfl) (by rw[List.length_map];have:=l.g;omega)⟩
set_option maxHeartbeats 1000000 in
theorem own_ev {h:H}(hw:h.wf){a:At}{C R G:V}(x:AtAt h C R G a)(l:SmallA a)(Q:V→H→Prop)(q:∀C' R' G' h',AtNew h h' C' R' G' a→Q (.agg (atV a C' R' G')) h'):Ev fnG fastA (.fn 17 [] []) [.agg (atV a C R G)] h Q:=by
 obtain⟨l1,l2,l3⟩:=l
 have oC:=x.c.one;have oR:=x.r.one;have oG:=x.g.one
 refine Ev_body (fd:=c17) rfl rfl rfl ?_
 have s2:h.Sub ((h.add (.cells .rw (atV a C R G))).add (.cells .rw [.int .i64 0,.int .i64 0,.nils,.nils,.nils])):=(by repeat(first|assumption|exact H.Sub.refl (by assumption)|refine H.Sub.add ?_ _|refine H.Sub.set ?_ (by first|omega|(simp only[H.next_add,H.next_set,H.next_del]<;>omega)) (by first|omega|(simp only[H.next_add,H.next_set,H.next_del]<;>omega)) (by assumption) _))
 have s3:=s2.add (.cells .rw (a.cks.map encC).flatten)
 have s4:=s3.add (.cells .rw (a.rds.map encR).flatten)
 have s5:=s4.add (.cells .rw (a.gps.map encG).flatten)
 simp -implicitDefEqProofs(maxSteps:=999999)(disch:=first|with_reducible rfl|omega|(simp only[nA,nS,nD]<;>omega)|fail)only[c17,go_sem,dupClock_ev s2.wf (x.c.mono s2) (by omega),dupReading_ev s3.wf (x.r.mono s3) (by omega),dupGap_ev s4.wf (x.g.mono s4) (by omega),evQ_ld]
 refine q _ _ _ _ ⟨(by repeat(first|assumption|exact H.Sub.refl (by assumption)|refine H.Sub.add ?_ _|refine H.Sub.set ?_ (by first|omega|(simp only[H.next_add,H.next_set,H.next_del]<;>omega)) (by first|omega|(simp only[H.next_add,H.next_set,H.next_del]<;>omega)) (by assumption) _)),h.next+1+1,h.next+1+1+1,h.next+1+1+1+1,rfl,rfl,rfl,by omega,by omega,by omega,by simp only[H.next_set,H.next_add];omega,?_,?_,?_⟩
 all_goals simp -implicitDefEqProofs(maxSteps:=999999)(disch:=first|with_reducible rfl|omega|(simp only[nA,nS,nD]<;>omega)|fail)only[go_sem]
def rowCk (c:Ck):List Int:=[c.sl,c.sh,c.gl,c.gh]
def rowRd (r:Rd):List Int:=[r.ck,r.ev,r.sh]
def rowGp (g:Gp):List Int:=[g.fr,g.to,g.lo,g.hi]
theorem map_inj {α:Type}{f:α→List Int}(hf:∀a b,f a=f b→a=b){a b:List α}:a.map f=b.map f↔a=b:=⟨fun h=>by
 induction a generalizing b with
 |nil=>cases b with
  |nil=>rfl
  |cons y b=>cases h
 |cons x a ih=>cases b with
  |nil=>cases h
  |cons y b=>
   simp only[List.map_cons,List.cons.injEq] at h
   rw[hf _ _ h.1,ih h.2],fun h=>by rw[h]⟩
theorem rowCk_inj (a b:Ck)(h:rowCk a=rowCk b):a=b:=by cases a;cases b;simpa[rowCk] using h
theorem rowRd_inj (a b:Rd)(h:rowRd a=rowRd b):a=b:=by cases a;cases b;simpa[rowRd] using h
theorem rowGp_inj (a b:Gp)(h:rowGp a=rowGp b):a=b:=by cases a;cases b;simpa[rowGp] using h
theorem rowCk_enc (l:List Ck):l.map encC=(l.map rowCk).map (List.map iv):=by rw[List.map_map];rfl
theorem rowRd_enc (l:List Rd):l.map encR=(l.map rowRd).map (List.map iv):=by rw[List.map_map];rfl
theorem rowGp_enc (l:List Gp):l.map encG=(l.map rowGp).map (List.map iv):=by rw[List.map_map];rfl
def sameB (a b:At):Bool:=decide (a.mins=b.mins)&&decide (a.evs=b.evs)&&decide (a.cks.map rowCk=b.cks.map rowCk)&&decide (a.rds.map rowRd=b.rds.map rowRd)&&decide (a.gps.map rowGp=b.gps.map rowGp)
theorem sameB_iff {a b:At}:sameB a b=true↔a=b:=by
 unfold sameB
 simp only[Bool.and_eq_true,decide_eq_true_eq,map_inj rowCk_inj,map_inj rowRd_inj,map_inj rowGp_inj]
 constructor
 ·rintro⟨⟨⟨⟨h1,h2⟩,h3⟩,h4⟩,h5⟩;cases a;cases b;simp_all
 ·rintro rfl;exact⟨⟨⟨⟨rfl,rfl⟩,rfl⟩,rfl⟩,rfl⟩
set_option maxHeartbeats 1000000 in
theorem same_ev {h:H}(hw:h.wf){a b:At}{C R G C' R' G':V}(x:AtAt h C R G a)(y:AtAt h C' R' G' b)(Q:V→H→Prop)(q:∀h',h.Sub h'→Q (.bool (sameB a b)) h'):Ev fnG fastA (.fn 35 [] []) [.agg (atV a C R G),.agg (atV b C' R' G')] h Q:=by
 have s2:h.Sub ((h.add (.cells .rw (atV a C R G))).add (.cells .rw (atV b C' R' G'))):=(by repeat(first|assumption|exact H.Sub.refl (by assumption)|refine H.Sub.add ?_ _|refine H.Sub.set ?_ (by first|omega|(simp only[H.next_add,H.next_set,H.next_del]<;>omega)) (by first|omega|(simp only[H.next_add,H.next_set,H.next_del]<;>omega)) (by assumption) _))
 have q':=q _ s2
 have x2:=x.mono s2
 have y2:=y.mono s2
 have xc:=x2.c;have yc:=y2.c;have xr:=x2.r;have yr:=y2.r;have xg:=x2.g;have yg:=y2.g
 rw[rowCk_enc] at xc yc
 rw[rowRd_enc] at xr yr
 rw[rowGp_enc] at xg yg
 have e1:=fun Q=>eqClock_ev xc yc Q
 have e2:=fun Q=>eqReading_ev xr yr Q
 have e3:=fun Q=>eqGap_ev xg yg Q
 refine Ev_body (fd:=c35) rfl rfl rfl ?_
 obtain⟨p1,h1⟩:∃p,decide (a.mins=b.mins)=p:=⟨_,rfl⟩
 obtain⟨p2,h2⟩:∃p,decide (a.evs=b.evs)=p:=⟨_,rfl⟩
 obtain⟨p3,h3⟩:∃p,decide (a.cks.map rowCk=b.cks.map rowCk)=p:=⟨_,rfl⟩
 obtain⟨p4,h4⟩:∃p,decide (a.rds.map rowRd=b.rds.map rowRd)=p:=⟨_,rfl⟩
 obtain⟨p5,h5⟩:∃p,decide (a.gps.map rowGp=b.gps.map rowGp)=p:=⟨_,rfl⟩
 rw[h3] at e1
 rw[h4] at e2
 rw[h5] at e3
 unfold sameB at q'
 rw[h1,h2,h3,h4,h5] at q'
 cases p1<;>cases p2<;>cases p3<;>cases p4<;>(simp -implicitDefEqProofs(maxSteps:=999999)(disch:=first|with_reducible rfl|omega|(simp only[nA,nS,nD]<;>omega)|fail)only[c35,go_sem,h1,h2,e1,e2,e3];exact q')
end Go.Ab.Tryz
namespace Go.Ab.Tryz
open Go.Proofs
structure ThI (h:H)(a:At)(C R G:V)(a':At)(v:Nat→V)(z:H):Prop where
 s:h.Sub z
 sl:Sl6 h z (h.next+3) v sz6 (rowsM a' [] [] [])
 g3:z.get (h.next+2)=some (.cells .rw [.int .i64 a.mins,.int .i64 a.evs,v 0,v 1,v 2])
 g1:z.get h.next=some (.cells .rw (atV a C R G))
 g2:z.get (h.next+1)=some (.cells .rw [.int .i64 0,.int .i64 0,.nils,.nils,.nils])
 nx:h.next+3≤z.next
theorem ThI.mono {h:H}{a:At}{C R G:V}{a':At}{v:Nat→V}{z z':H}(k:ThI h a C R G a' v z)(s:z.Sub z'):ThI h a C R G a' v z':=
 ⟨k.s.trans s,k.sl.mono s,s.get k.g3,s.get k.g1,s.get k.g2,Nat.le_trans k.nx s.next⟩
theorem ThI.put {h:H}(hw:h.wf){a:At}{C R G:V}{a' a'':At}{v v':Nat→V}{z z5:H}(k:ThI h a C R G a' v z){S:Nat→Prop}(kk:Keeps S z z5)(hS:∀b,S b→h.next+3≤b)(sl:Sl6 h z5 (h.next+3) v' sz6 (rowsM a'' [] [] [])):
  ThI h a C R G a'' v' (z5.set (h.next+2) (.cells .rw [.int .i64 a.mins,.int .i64 a.evs,v' 0,v' 1,v' 2])):=by
 have hn:∀b,b<h.next+3→¬S b:=fun b hb q=>by have:=hS b q;omega
 have s5:=(sl.o 0 (by omega)).1
 have l5:=kk.1
 have lz:=k.nx
 have sz:=s5.set (b:=h.next+2) (by omega) (by omega) hw (.cells .rw [.int .i64 a.mins,.int .i64 a.evs,v' 0,v' 1,v' 2])
 have k2:=Keeps.set z5 (h.next+2) (.cells .rw [.int .i64 a.mins,.int .i64 a.evs,v' 0,v' 1,v' 2])
 exact⟨sz,sl.keep k2 sz fun b hb=>by omega,get_set_same rfl,k2.2 _ _ (kk.2 _ _ k.g1 (hn _ (by omega))) (by omega),k2.2 _ _ (kk.2 _ _ k.g2 (hn _ (by omega))) (by omega),by rw[H.next_set];omega⟩
theorem take_at {α:Type}{l:List α}{i:Nat}(hi:i<l.length):l.take (i+1)=l.take i++[l[i]]:=List.take_succ_eq_append_getElem hi
set_option maxRecDepth 10000 in
set_option maxHeartbeats 4000000 in
theorem theirs_ev {h:H}(hw:h.wf){a:At}{C R G:V}(x:AtAt h C R G a)(l:SmallA a)(Q:V→H→Prop)(q:∀C' R' G' h',h.Sub h'→AtAt h' C' R' G' a→Q (.agg (atV a C' R' G')) h'):Ev fnG fastA (.fn 24 [] []) [.agg (atV a C R G)] h Q:=by
 obtain⟨l1,l2,l3⟩:=l
 have oC:=x.c.one;have oR:=x.r.one;have oG:=x.g.one
 have hlC:=x.c.lenE;have hlR:=x.r.lenE;have hlG:=x.g.lenE
 have k0:ThI h a C R G ⟨a.mins,a.evs,[],[],[]⟩ (fun _=>.nils) (((h.add (.cells .rw (atV a C R G))).add (.cells .rw [.int .i64 0,.int .i64 0,.nils,.nils,.nils])).add (.cells .rw [.int .i64 a.mins,.int .i64 a.evs,.nils,.nils,.nils])):=by
  refine⟨(by repeat(first|assumption|exact H.Sub.refl (by assumption)|refine H.Sub.add ?_ _|refine H.Sub.set ?_ (by first|omega|(simp only[H.next_add,H.next_set,H.next_del]<;>omega)) (by first|omega|(simp only[H.next_add,H.next_set,H.next_del]<;>omega)) (by assumption) _)),⟨fun i hi=>?_,fun i hi b hb=>(blkOf_nils hb).elim,fun i j _ _ _ b hb=>(blkOf_nils hb).elim⟩,by simp -implicitDefEqProofs(maxSteps:=999999)(disch:=first|with_reducible rfl|omega|(simp only[nA,nS,nD]<;>omega)|fail)only[go_sem],by simp -implicitDefEqProofs(maxSteps:=999999)(disch:=first|with_reducible rfl|omega|(simp only[nA,nS,nD]<;>omega)|fail)only[go_sem],by simp -implicitDefEqProofs(maxSteps:=999999)(disch:=first|with_reducible rfl|omega|(simp only[nA,nS,nD]<;>omega)|fail)only[go_sem],by simp only[H.next_add];omega⟩
  have:rowsM ⟨a.mins,a.evs,[],[],[]⟩ [] [] [] i=[]:=by rcases(by omega:i=0∨i=1∨i=2∨i=3∨i=4∨i=5) with rfl|rfl|rfl|rfl|rfl|rfl<;>rfl
  rw[this];exact(OwnSl.nil ((by repeat(first|assumption|exact H.Sub.refl (by assumption)|refine H.Sub.add ?_ _|refine H.Sub.set ?_ (by first|omega|(simp only[H.next_add,H.next_set,H.next_del]<;>omega)) (by first|omega|(simp only[H.next_add,H.next_set,H.next_del]<;>omega)) (by assumption) _))) _).c
 refine Ev_body (fd:=c24) rfl rfl rfl ?_
 simp -implicitDefEqProofs(maxSteps:=999999)(disch:=first|with_reducible rfl|omega|(simp only[nA,nS,nD]<;>omega)|fail)only[c24,go_sem,hlC]
 generalize((h.add (.cells .rw (atV a C R G))).add (.cells .rw [.int .i64 0,.int .i64 0,.nils,.nils,.nils])).add (.cells .rw [.int .i64 a.mins,.int .i64 a.evs,.nils,.nils,.nils])=h3 at k0⊢
 rw[show h.next+1+1=h.next+2 from rfl]
 refine W_count a.cks.length (fun i s=>∃tm z v,s=⟨tm,z,[]⟩∧ThI h a C R G ⟨a.mins,a.evs,a.cks.take i,[],[]⟩ v z∧(Opd.t 1).ev tm=.ptr h.next 0∧(Opd.t 2).ev tm=.ptr (h.next+1) 0∧(Opd.t 3).ev tm=.ptr (h.next+2) 0∧(Opd.t 16).ev tm=C∧(Opd.t 17).ev tm=.int .i64 (a.cks.length:Int)∧(Opd.t 18).ev tm=.int .i64 (i:Int)) ?_ ?_ (i:=0) (Nat.zero_le _)
  ⟨_,_,_,rfl,k0,(by simp[ev_c,ev_put]<;>rfl),(by simp[ev_c,ev_put]<;>rfl),(by simp[ev_c,ev_put]<;>rfl),(by simp[ev_c,ev_put]<;>rfl),(by simp[ev_c,ev_put]<;>rfl),(by simp[ev_c,ev_put]<;>rfl)⟩
 ·rintro i s hi ⟨tm,z,v,rfl,k,e1,e2,e3,e16,e17,e18⟩
  have hi':(i:Int)<(a.cks.length:Int):=by omega
  obtain⟨b,o,cc,cs,eC,hc,hq,hg,_,_⟩:=(x.c.mono k.s).at hi
  have hst:=take_at hi
  generalize a.cks[i]=c at hg hst
  simp only[encC] at hg
  have s1:=(H.Sub.refl k.s.wf).add (.cells .rw [.int .i64 c.sl,.int .i64 c.sh,.int .i64 c.gl,.int .i64 c.gh])
  have k1:=k.mono s1
  have g5:(z.add (.cells .rw [.int .i64 c.sl,.int .i64 c.sh,.int .i64 c.gl,.int .i64 c.gh])).get z.next=some (.cells .rw [.int .i64 c.sl,.int .i64 c.sh,.int .i64 c.gl,.int .i64 c.gh]):=get_add_new rfl
  have nz1:=H.next_add z (.cells .rw [.int .i64 c.sl,.int .i64 c.sh,.int .i64 c.gl,.int .i64 c.gh])
  obtain⟨z1,hz1⟩:∃z1,z.add (.cells .rw [.int .i64 c.sl,.int .i64 c.sh,.int .i64 c.gl,.int .i64 c.gh])=z1:=⟨_,rfl⟩
  rw[hz1] at s1 k1 g5 nz1
  have s2:=(H.Sub.refl k1.s.wf).add (.cells .rw [.int .i64 c.sl,.int .i64 c.sh,.int .i64 c.gl,.int .i64 c.gh])
  have k2:=k1.mono s2
  have o2:=k2.sl.o 0 (by decide)
  have sn:SlAt (z1.add (.cells .rw [.int .i64 c.sl,.int .i64 c.sh,.int .i64 c.gl,.int .i64 c.gh])) (.sl z1.next 0 1 (.fix 1)) 4 [encC c]:=SlAt.new _ rfl rfl rfl (by simp[encC]) (by simp)
  have lr:(rowsM ⟨a.mins,a.evs,a.cks.take i,[],[]⟩ [] [] [] 0).length≤100:=by show((a.cks.take i).map encC).length≤100;rw[List.length_map,List.length_take];omega
  simp -implicitDefEqProofs(maxSteps:=999999)(disch:=first|with_reducible rfl|omega|(simp only[nA,nS,nD]<;>omega)|fail)only[go_sem,e1,e2,e3,e16,e17,e18,hi',hq (nat_cst i),hc,hg,hz1,cells_of k1.g3,cells_of g5]
  generalize z1.add (.cells .rw [.int .i64 c.sl,.int .i64 c.sh,.int .i64 c.gl,.int .i64 c.gh])=z2 at s2 k2 o2 sn⊢
  refine o2.app1 (by_:=32) (r:=encC c) hw rfl (by decide) sn rfl (by omega) (by omega) fun w z5 o5 n5 k5=>?_
  have ow:=o5.one
  have nb:¬blkOf (v 0) (h.next+2):=fun hb=>by have:=k2.sl.lo 0 (by decide) _ hb;omega
  have g5':=k5.2 _ _ k2.g3 nb
  have km:=k2.put hw k5 (fun b hb=>k2.sl.lo 0 (by decide) b hb) ((k2.sl.app (by decide) o5 n5 k2.nx k5).rw rows0)
  simp -implicitDefEqProofs(maxSteps:=999999)(disch:=first|with_reducible rfl|omega|(simp only[nA,nS,nD]<;>omega)|fail)only[go_sem,e1,e2,e3,e16,e17,e18,g5',ow,cells_one ow,wr_succ]
  exact⟨_,_,_,rfl,by rw[hst];exact km,(by simp[ev_c,ev_put,e1]<;>rfl),(by simp[ev_c,ev_put,e2]<;>rfl),(by simp[ev_c,ev_put,e3]<;>rfl),(by simp[ev_c,ev_put,e16]<;>rfl),(by simp[ev_c,ev_put,e17]<;>rfl),(by simp[ev_c,ev_put]<;>rfl)⟩
 rintro s ⟨tm,z,v,rfl,k,e1,e2,e3,e16,e17,e18⟩
 have hi':¬((a.cks.length:Int)<(a.cks.length:Int)):=by omega
 rw[List.take_of_length_le (Nat.le_refl _)] at k
 simp -implicitDefEqProofs(maxSteps:=999999)(disch:=first|with_reducible rfl|omega|(simp only[nA,nS,nD]<;>omega)|fail)only[go_sem,e1,e2,e3,e16,e17,e18,hi',cells_of k.g1,hlR]
 refine W_count a.rds.length (fun i s=>∃tm z v,s=⟨tm,z,[]⟩∧ThI h a C R G ⟨a.mins,a.evs,a.cks,a.rds.take i,[]⟩ v z∧(Opd.t 1).ev tm=.ptr h.next 0∧(Opd.t 2).ev tm=.ptr (h.next+1) 0∧(Opd.t 3).ev tm=.ptr (h.next+2) 0∧(Opd.t 30).ev tm=R∧(Opd.t 31).ev tm=.int .i64 (a.rds.length:Int)∧(Opd.t 32).ev tm=.int .i64 (i:Int)) ?_ ?_ (i:=0) (Nat.zero_le _)
  ⟨_,_,_,rfl,k,(by simp[ev_c,ev_put,e1]<;>rfl),(by simp[ev_c,ev_put,e2]<;>rfl),(by simp[ev_c,ev_put,e3]<;>rfl),(by simp[ev_c,ev_put]<;>rfl),(by simp[ev_c,ev_put]<;>rfl),(by simp[ev_c,ev_put]<;>rfl)⟩
 ·clear k
  rintro i s hi ⟨tm,z,v,rfl,k,e1,e2,e3,e30,e31,e32⟩
  have hi':(i:Int)<(a.rds.length:Int):=by omega
  obtain⟨b,o,cc,cs,eC,hc,hq,hg,_,_⟩:=(x.r.mono k.s).at hi
  have hst:=take_at hi
  generalize a.rds[i]=c at hg hst
  simp only[encR] at hg
  have s1:=(H.Sub.refl k.s.wf).add (.cells .rw [.int .i64 c.ck,.int .i64 c.ev,.int .i64 c.sh])
  have k1:=k.mono s1
  have g5:(z.add (.cells .rw [.int .i64 c.ck,.int .i64 c.ev,.int .i64 c.sh])).get z.next=some (.cells .rw [.int .i64 c.ck,.int .i64 c.ev,.int .i64 c.sh]):=get_add_new rfl
  have nz1:=H.next_add z (.cells .rw [.int .i64 c.ck,.int .i64 c.ev,.int .i64 c.sh])
  obtain⟨z1,hz1⟩:∃z1,z.add (.cells .rw [.int .i64 c.ck,.int .i64 c.ev,.int .i64 c.sh])=z1:=⟨_,rfl⟩
  rw[hz1] at s1 k1 g5 nz1
  have s2:=(H.Sub.refl k1.s.wf).add (.cells .rw [.int .i64 c.ck,.int .i64 c.ev,.int .i64 c.sh])
  have k2:=k1.mono s2
  have o2:=k2.sl.o 1 (by decide)
  have sn:SlAt (z1.add (.cells .rw [.int .i64 c.ck,.int .i64 c.ev,.int .i64 c.sh])) (.sl z1.next 0 1 (.fix 1)) 3 [encR c]:=SlAt.new _ rfl rfl rfl (by simp[encR]) (by simp)
  have lr:(rowsM ⟨a.mins,a.evs,a.cks,a.rds.take i,[]⟩ [] [] [] 1).length≤100:=by show((a.rds.take i).map encR).length≤100;rw[List.length_map,List.length_take];omega
  simp -implicitDefEqProofs(maxSteps:=999999)(disch:=first|with_reducible rfl|omega|(simp only[nA,nS,nD]<;>omega)|fail)only[go_sem,e1,e2,e3,e30,e31,e32,hi',hq (nat_cst i),hc,hg,hz1,cells_of k1.g3,cells_of g5]
  generalize z1.add (.cells .rw [.int .i64 c.ck,.int .i64 c.ev,.int .i64 c.sh])=z2 at s2 k2 o2 sn⊢
  refine o2.app1 (by_:=24) (r:=encR c) hw rfl (by decide) sn rfl (by omega) (by omega) fun w z5 o5 n5 k5=>?_
  have ow:=o5.one
  have nb:¬blkOf (v 1) (h.next+2):=fun hb=>by have:=k2.sl.lo 1 (by decide) _ hb;omega
  have g5':=k5.2 _ _ k2.g3 nb
  have km:=k2.put hw k5 (fun b hb=>k2.sl.lo 1 (by decide) b hb) ((k2.sl.app (by decide) o5 n5 k2.nx k5).rw rows1)
  simp -implicitDefEqProofs(maxSteps:=999999)(disch:=first|with_reducible rfl|omega|(simp only[nA,nS,nD]<;>omega)|fail)only[go_sem,e1,e2,e3,e30,e31,e32,g5',ow,cells_one ow,wr_succ]
  exact⟨_,_,_,rfl,by rw[hst];exact km,(by simp[ev_c,ev_put,e1]<;>rfl),(by simp[ev_c,ev_put,e2]<;>rfl),(by simp[ev_c,ev_put,e3]<;>rfl),(by simp[ev_c,ev_put,e30]<;>rfl),(by simp[ev_c,ev_put,e31]<;>rfl),(by simp[ev_c,ev_put]<;>rfl)⟩
 clear k
 rintro s ⟨tm,z,v,rfl,k,e1,e2,e3,e30,e31,e32⟩
 have hi':¬((a.rds.length:Int)<(a.rds.length:Int)):=by omega
 rw[List.take_of_length_le (Nat.le_refl _)] at k
 simp -implicitDefEqProofs(maxSteps:=999999)(disch:=first|with_reducible rfl|omega|(simp only[nA,nS,nD]<;>omega)|fail)only[go_sem,e1,e2,e3,e30,e31,e32,hi',cells_of k.g1,hlG]
 refine W_count a.gps.length (fun i s=>∃tm z v,s=⟨tm,z,[]⟩∧ThI h a C R G ⟨a.mins,a.evs,a.cks,a.rds,a.gps.take i⟩ v z∧(Opd.t 1).ev tm=.ptr h.next 0∧(Opd.t 2).ev tm=.ptr (h.next+1) 0∧(Opd.t 3).ev tm=.ptr (h.next+2) 0∧(Opd.t 44).ev tm=G∧(Opd.t 45).ev tm=.int .i64 (a.gps.length:Int)∧(Opd.t 46).ev tm=.int .i64 (i:Int)) ?_ ?_ (i:=0) (Nat.zero_le _)
  ⟨_,_,_,rfl,k,(by simp[ev_c,ev_put,e1]<;>rfl),(by simp[ev_c,ev_put,e2]<;>rfl),(by simp[ev_c,ev_put,e3]<;>rfl),(by simp[ev_c,ev_put]<;>rfl),(by simp[ev_c,ev_put]<;>rfl),(by simp[ev_c,ev_put]<;>rfl)⟩
 ·clear k
  rintro i s hi ⟨tm,z,v,rfl,k,e1,e2,e3,e44,e45,e46⟩
  have hi':(i:Int)<(a.gps.length:Int):=by omega
  obtain⟨b,o,cc,cs,eC,hc,hq,hg,_,_⟩:=(x.g.mono k.s).at hi
  have hst:=take_at hi
  generalize a.gps[i]=c at hg hst
  simp only[encG] at hg
  have s1:=(H.Sub.refl k.s.wf).add (.cells .rw [.int .i64 c.fr,.int .i64 c.to,.int .i64 c.lo,.int .i64 c.hi])
  have k1:=k.mono s1
  have g5:(z.add (.cells .rw [.int .i64 c.fr,.int .i64 c.to,.int .i64 c.lo,.int .i64 c.hi])).get z.next=some (.cells .rw [.int .i64 c.fr,.int .i64 c.to,.int .i64 c.lo,.int .i64 c.hi]):=get_add_new rfl
  have nz1:=H.next_add z (.cells .rw [.int .i64 c.fr,.int .i64 c.to,.int .i64 c.lo,.int .i64 c.hi])
  obtain⟨z1,hz1⟩:∃z1,z.add (.cells .rw [.int .i64 c.fr,.int .i64 c.to,.int .i64 c.lo,.int .i64 c.hi])=z1:=⟨_,rfl⟩
  rw[hz1] at s1 k1 g5 nz1
  have s2:=(H.Sub.refl k1.s.wf).add (.cells .rw [.int .i64 c.fr,.int .i64 c.to,.int .i64 c.lo,.int .i64 c.hi])
  have k2:=k1.mono s2
  have o2:=k2.sl.o 2 (by decide)
  have sn:SlAt (z1.add (.cells .rw [.int .i64 c.fr,.int .i64 c.to,.int .i64 c.lo,.int .i64 c.hi])) (.sl z1.next 0 1 (.fix 1)) 4 [encG c]:=SlAt.new _ rfl rfl rfl (by simp[encG]) (by simp)
  have lr:(rowsM ⟨a.mins,a.evs,a.cks,a.rds,a.gps.take i⟩ [] [] [] 2).length≤100:=by show((a.gps.take i).map encG).length≤100;rw[List.length_map,List.length_take];omega
  simp -implicitDefEqProofs(maxSteps:=999999)(disch:=first|with_reducible rfl|omega|(simp only[nA,nS,nD]<;>omega)|fail)only[go_sem,e1,e2,e3,e44,e45,e46,hi',hq (nat_cst i),hc,hg,hz1,cells_of k1.g3,cells_of g5]
  generalize z1.add (.cells .rw [.int .i64 c.fr,.int .i64 c.to,.int .i64 c.lo,.int .i64 c.hi])=z2 at s2 k2 o2 sn⊢
  refine o2.app1 (by_:=32) (r:=encG c) hw rfl (by decide) sn rfl (by omega) (by omega) fun w z5 o5 n5 k5=>?_
  have ow:=o5.one
  have nb:¬blkOf (v 2) (h.next+2):=fun hb=>by have:=k2.sl.lo 2 (by decide) _ hb;omega
  have g5':=k5.2 _ _ k2.g3 nb
  have km:=k2.put hw k5 (fun b hb=>k2.sl.lo 2 (by decide) b hb) ((k2.sl.app (by decide) o5 n5 k2.nx k5).rw rows2)
  simp -implicitDefEqProofs(maxSteps:=999999)(disch:=first|with_reducible rfl|omega|(simp only[nA,nS,nD]<;>omega)|fail)only[go_sem,e1,e2,e3,e44,e45,e46,g5',ow,cells_one ow,wr_succ]
  exact⟨_,_,_,rfl,by rw[hst];exact km,(by simp[ev_c,ev_put,e1]<;>rfl),(by simp[ev_c,ev_put,e2]<;>rfl),(by simp[ev_c,ev_put,e3]<;>rfl),(by simp[ev_c,ev_put,e44]<;>rfl),(by simp[ev_c,ev_put,e45]<;>rfl),(by simp[ev_c,ev_put]<;>rfl)⟩
 rintro s ⟨tm,z,v,rfl,k,e1,e2,e3,e44,e45,e46⟩
 have hi':¬((a.gps.length:Int)<(a.gps.length:Int)):=by omega
 rw[List.take_of_length_le (Nat.le_refl _)] at k
 have y0:=(k.sl.o 0 (by decide)).one;have y1:=(k.sl.o 1 (by decide)).one;have y2:=(k.sl.o 2 (by decide)).one
 have lz:=k.nx
 simp -implicitDefEqProofs(maxSteps:=999999)(disch:=first|with_reducible rfl|omega|(simp only[nA,nS,nD]<;>omega)|fail)only[go_sem,e1,e2,e3,e44,e45,e46,hi',cells_of k.g1,cells_of k.g3,k.g2,y0,y1,y2]
 have s7:=k.s.set (b:=h.next+1) (by omega) (by omega) hw (.cells .rw [.int .i64 a.mins,.int .i64 a.evs,v 0,v 1,v 2])
 have sl:=k.sl.keep (Keeps.set z (h.next+1) (.cells .rw [.int .i64 a.mins,.int .i64 a.evs,v 0,v 1,v 2])) s7 fun b hb=>by omega
 refine q _ _ _ _ s7 ⟨(sl.o 0 (by decide)).sl ?_,(sl.o 1 (by decide)).sl ?_,(sl.o 2 (by decide)).sl ?_⟩
 ·show(a.cks.map encC).length≤_;rw[List.length_map];omega
 ·show(a.rds.map encR).length≤_;rw[List.length_map];omega
 ·show(a.gps.map encG).length≤_;rw[List.length_map];omega
end Go.Ab.Tryz
namespace Go.Ab.Tryz
open Go.Proofs
theorem off_eq (h:H)(n lo hi:Int)(Q:V→H→Prop):Ev fnG fastA (.fn 91 [] []) [.int .i64 n,.int .i64 lo,.int .i64 hi] h Q=Q (.bool (!inB n lo hi)) h:=by
 refine Ev.det ?_ Q
 refine Ev_body (fd:=c91) rfl rfl rfl ?_
 by_cases h1:n<lo
 ·have e:(!inB n lo hi)=true:=by
   have:¬lo≤n:=by omega
   simp[inB,this]
  rw[e]
  simp -implicitDefEqProofs(maxSteps:=999999)(disch:=first|with_reducible rfl|omega|(simp only[nA,nS,nD]<;>omega)|fail)only[c91,go_sem,h1]
 ·have e:(!inB n lo hi)=decide (hi<n):=by
   have h2:lo≤n:=by omega
   rw[Bool.eq_iff_iff];simp[inB,h2]
  rw[e]
  simp -implicitDefEqProofs(maxSteps:=999999)(disch:=first|with_reducible rfl|omega|(simp only[nA,nS,nD]<;>omega)|fail)only[c91,go_sem,h1]
theorem far_eq (h:H)(lo hi m:Int)(hm:0≤m∧m≤1000)(Q:V→H→Prop):Ev fnG fastA (.fn 92 [] []) [.agg [.int .i64 lo,.int .i64 hi],.int .i64 m] h Q=Q (.bool (!within lo hi m)) (h.add (.cells .rw [.int .i64 lo,.int .i64 hi])):=by
 refine Ev.det ?_ Q
 refine Ev_body (fd:=c92) rfl rfl rfl ?_
 have w:wr .i64 (0-m)= -m:=by rw[wr_in (by omega) (by omega)];omega
 cases h1:inB lo (-m) m with
 |true=>
  have e:within lo hi m=inB hi (-m) m:=by rw[within,h1,Bool.true_and]
  rw[e]
  simp -implicitDefEqProofs(maxSteps:=999999)(disch:=first|with_reducible rfl|omega|(simp only[nA,nS,nD]<;>omega)|fail)only[c92,go_sem,off_eq,w,h1]
 |false=>
  have e:within lo hi m=false:=by rw[within,h1,Bool.false_and]
  rw[e]
  simp -implicitDefEqProofs(maxSteps:=999999)(disch:=first|with_reducible rfl|omega|(simp only[nA,nS,nD]<;>omega)|fail)only[c92,go_sem,off_eq,w,h1]
end Go.Ab.Tryz
namespace Go.Ab.Tryz
open Go.Proofs
def lg2 (lo hi m:Int):Bool:=within lo hi m&&decide (4<hi-lo)
def Ck.lg (c:Ck):Bool:=lg2 c.sl c.sh 60||lg2 c.gl c.gh 30
structure RC (h:H)(a:At)(C R G:V)(tm:T V)(z:H)(b3 b4 b5 b6:Bool):Prop where
 s:h.Sub z
 g1:z.get h.next=some (.cells .rw (atV a C R G))
 t1:(Opd.t 1).ev tm=.ptr h.next 0
 t3:(Opd.t 3).ev tm=.bool b3
 t4:(Opd.t 4).ev tm=.bool b4
 t5:(Opd.t 5).ev tm=.bool b5
 t6:(Opd.t 6).ev tm=.bool b6
def RCs (h:H)(a:At)(C R G:V)(t:Nat)(i:Nat)(b3 b4 b5 b6:Bool)(s:St):Prop:=∃tm z,s=⟨tm,z,[]⟩∧RC h a C R G tm z b3 b4 b5 b6∧(Opd.t t).ev tm=.int .i64 (i:Int)
def RCp (h:H)(a:At)(C R G:V)(t:Nat)(i:Nat)(p:Nat)(cs:List V)(b3 b4 b5 b6:Bool)(s:St):Prop:=∃tm z b,s=⟨tm,z,[]⟩∧RC h a C R G tm z b3 b4 b5 b6∧(Opd.t t).ev tm=.int .i64 (i:Int)∧(Opd.t p).ev tm=.ptr b 0∧z.get b=some (.cells .rw cs)
theorem RC.sub {h:H}{a:At}{C R G:V}{tm:Go.Ab.T V}{z z':H}{b3 b4 b5 b6:Bool}(k:RC h a C R G tm z b3 b4 b5 b6)(s:z.Sub z'):h.Sub z'∧z'.get h.next=some (.cells .rw (atV a C R G)):=⟨k.s.trans s,s.get k.g1⟩
theorem Ck.lg_eq (c:Ck):c.lg=((within c.sl c.sh 60&&decide (4<c.sh-c.sl))||(within c.gl c.gh 30&&decide (4<c.gh-c.gl))):=rfl
theorem Ck.ord_eq (c:Ck):(!c.ord)=(decide (c.sh<c.sl)||decide (c.gh<c.gl)):=by
 rw[Bool.eq_iff_iff];simp[Ck.ord]<;>omega
theorem lg_sm:∀{l:List Ck},l.all Ck.bd=true→l.any Ck.lg= !(l.all Ck.sm)
 |[],_=>rfl
 |c::l,h=>by
  rw[List.all_cons,Bool.and_eq_true] at h
  rw[List.any_cons,List.all_cons,lg_sm h.2,Bool.not_and]
  congr 1
  have h1:=h.1
  rw[Ck.bd,Bool.and_eq_true] at h1
  rw[c.lg_eq,h1.1,h1.2,Bool.true_and,Bool.true_and]
  rw[Bool.eq_iff_iff];simp[Ck.sm]<;>omega
theorem chk_of {a:At}(hs:a.sz=true):checkA a=if(!(a.cks.all Ck.bd)|| !(a.rds.all Rd.bd)|| !(a.gps.all Gp.bd))=true then 3 else if(!(a.rds.all a.rdOk)|| !(a.gps.all a.gpOk))=true then 1 else if(!(a.cks.all Ck.ord)|| !(a.gps.all Gp.ord))=true then 4 else if a.cks.any Ck.lg=true then 10 else 0:=by
 unfold checkA
 rw[hs]
 cases h1:a.cks.all Ck.bd
 ·simp
 ·rw[lg_sm h1]
  cases a.rds.all Rd.bd<;>cases a.gps.all Gp.bd<;>cases a.rds.all a.rdOk<;>cases a.gps.all a.gpOk<;>cases a.cks.all Ck.ord<;>cases a.gps.all Gp.ord<;>cases a.cks.all Ck.sm<;>rfl
set_option maxRecDepth 10000 in
set_option maxHeartbeats 8000000 in
theorem refCheck_ev {h:H}(hw:h.wf){a:At}{C R G:V}(x:AtAt h C R G a)(l:SmallA a)(Q:V→H→Prop)(q:∀h',h.Sub h'→Q (.int .i64 (checkA a)) h'):Ev fnG fastA (.fn 25 [] []) [.agg (atV a C R G)] h Q:=by
 obtain⟨l1,l2,l3⟩:=l
 have oC:=x.c.one;have oR:=x.r.one;have oG:=x.g.one
 have hlC:=x.c.lenE;have hlR:=x.r.lenE;have hlG:=x.g.lenE
 have s1:h.Sub (h.add (.cells .rw (atV a C R G))):=(by repeat(first|assumption|exact H.Sub.refl (by assumption)|refine H.Sub.add ?_ _|refine H.Sub.set ?_ (by first|omega|(simp only[H.next_add,H.next_set,H.next_del]<;>omega)) (by first|omega|(simp only[H.next_add,H.next_set,H.next_del]<;>omega)) (by assumption) _))
 have bad:a.sz=false→Q (.int .i64 2) (h.add (.cells .rw (atV a C R G))):=fun e=>by
  have:=q _ s1
  rwa[checkA,if_pos e] at this
 refine Ev_body (fd:=c25) rfl rfl rfl ?_
 by_cases hsz:a.sz=true
 case neg=>
  have hsz':a.sz=false:=by simpa using hsz
  have b:=bad hsz'
  unfold At.sz at hsz'
  cases p1:inB a.mins 1 240 with
  |false=>simp -implicitDefEqProofs(maxSteps:=999999)(disch:=first|with_reducible rfl|omega|(simp only[nA,nS,nD]<;>omega)|fail)only[c25,go_sem,off_eq,p1];exact b
  |true=>
   cases p2:inB a.evs 1 4 with
   |false=>simp -implicitDefEqProofs(maxSteps:=999999)(disch:=first|with_reducible rfl|omega|(simp only[nA,nS,nD]<;>omega)|fail)only[c25,go_sem,off_eq,p1,p2];exact b
   |true=>
    by_cases p3:3<(a.cks.length:Int)
    ·simp -implicitDefEqProofs(maxSteps:=999999)(disch:=first|with_reducible rfl|omega|(simp only[nA,nS,nD]<;>omega)|fail)only[c25,go_sem,off_eq,p1,p2,hlC,p3];exact b
    by_cases p4:8<(a.rds.length:Int)
    ·simp -implicitDefEqProofs(maxSteps:=999999)(disch:=first|with_reducible rfl|omega|(simp only[nA,nS,nD]<;>omega)|fail)only[c25,go_sem,off_eq,p1,p2,hlC,hlR,p3,p4];exact b
    by_cases p5:4<(a.gps.length:Int)
    ·simp -implicitDefEqProofs(maxSteps:=999999)(disch:=first|with_reducible rfl|omega|(simp only[nA,nS,nD]<;>omega)|fail)only[c25,go_sem,off_eq,p1,p2,hlC,hlR,hlG,p3,p4,p5];exact b
    ·exfalso
     rw[p1,p2] at hsz'
     have e3:a.cks.length≤3:=by omega
     have e4:a.rds.length≤8:=by omega
     have e5:a.gps.length≤4:=by omega
     simp[e3,e4,e5] at hsz'
 have hs:=hsz
 simp only[At.sz,Bool.and_eq_true,decide_eq_true_eq] at hs
 obtain⟨p1,p2,p3,p4,p5⟩:=hs
 have p3':¬3<(a.cks.length:Int):=by omega
 have p4':¬8<(a.rds.length:Int):=by omega
 have p5':¬4<(a.gps.length:Int):=by omega
 simp -implicitDefEqProofs(maxSteps:=999999)(disch:=first|with_reducible rfl|omega|(simp only[nA,nS,nD]<;>omega)|fail)only[c25,go_sem,off_eq,p1,p2,hlC,hlR,hlG,p3',p4',p5']
 have hw1:=s1.wf
 refine W_count a.cks.length (fun i s=>RCs h a C R G 7 i (!((a.cks.take i).all Ck.bd)) false (!((a.cks.take i).all Ck.ord)) ((a.cks.take i).any Ck.lg) s) ?_ ?_ (i:=0) (Nat.zero_le _)
  ⟨_,_,rfl,⟨s1,by simp -implicitDefEqProofs(maxSteps:=999999)(disch:=first|with_reducible rfl|omega|(simp only[nA,nS,nD]<;>omega)|fail)only[go_sem],(by simp[ev_c,ev_put]<;>rfl),(by simp[ev_c,ev_put]<;>rfl),(by simp[ev_c,ev_put]<;>rfl),(by simp[ev_c,ev_put]<;>rfl),(by simp[ev_c,ev_put]<;>rfl)⟩,(by simp[ev_c,ev_put]<;>rfl)⟩
 ·intro i s hi
  have hi':(i:Int)<(a.cks.length:Int):=by omega
  have hst:=take_at hi
  rw[hst,List.all_append,List.all_append,List.any_append]
  simp only[List.all_cons,List.all_nil,List.any_cons,List.any_nil,Bool.and_true,Bool.or_false,Bool.not_and]
  rw[a.cks[i].lg_eq,a.cks[i].ord_eq]
  have hbd:a.cks[i].bd=(within a.cks[i].sl a.cks[i].sh 60&&within a.cks[i].gl a.cks[i].gh 30):=rfl
  rw[hbd,Bool.not_and]
  generalize(!((a.cks.take i).all Ck.bd))=b3
  generalize(!((a.cks.take i).all Ck.ord))=b5
  generalize((a.cks.take i).any Ck.lg)=b6
  intro hs
  refine W_split (RCs h a C R G 7 i b3 false b5 b6) ?_ ?_
  ·obtain⟨tm,z,rfl,k,t7⟩:=hs
   obtain⟨zs,g1,t1,t3,t4,t5,t6⟩:=k
   simp -implicitDefEqProofs(maxSteps:=999999)(disch:=first|with_reducible rfl|omega|(simp only[nA,nS,nD]<;>omega)|fail)only[go_sem,t1,t3,t4,t5,t6,t7,hi',cells_of g1,hlC]
   exact⟨_,_,rfl,⟨zs,g1,(by simp[ev_c,ev_put,t1]<;>rfl),(by simp[ev_c,ev_put,t3]<;>rfl),(by simp[ev_c,ev_put,t4]<;>rfl),(by simp[ev_c,ev_put,t5]<;>rfl),(by simp[ev_c,ev_put,t6]<;>rfl)⟩,(by simp[ev_c,ev_put,t7]<;>rfl)⟩
  clear hs
  intro s hs
  refine W_split (RCs h a C R G 7 i (b3||(!within a.cks[i].sl a.cks[i].sh 60|| !within a.cks[i].gl a.cks[i].gh 30)) false (b5||(decide (a.cks[i].sh<a.cks[i].sl)||decide (a.cks[i].gh<a.cks[i].gl))) (b6||(within a.cks[i].sl a.cks[i].sh 60&&decide (4<a.cks[i].sh - a.cks[i].sl)||within a.cks[i].gl a.cks[i].gh 30&&decide (4<a.cks[i].gh - a.cks[i].gl)))) ?_ ?_
  ·rw[W_block]
   refine W_split (RCp h a C R G 7 i 8 (encC a.cks[i]) b3 false b5 b6) ?_ ?_
   ·obtain⟨tm,z,rfl,k,t7⟩:=hs
    obtain⟨zs,g1,t1,t3,t4,t5,t6⟩:=id k
    obtain⟨b,o,cc,cs,eC,hc,hq,hg,_,_⟩:=(x.c.mono zs).at hi
    generalize a.cks[i]=c at hg⊢
    simp only[encC] at hg⊢
    have hwz:=zs.wf
    simp -implicitDefEqProofs(maxSteps:=999999)(disch:=first|with_reducible rfl|omega|(simp only[nA,nS,nD]<;>omega)|fail)only[go_sem,t1,t3,t4,t5,t6,t7,cells_of g1,hq (nat_cst i),hc,hg]
    exact⟨_,_,_,rfl,⟨(k.sub ((by repeat(first|assumption|exact H.Sub.refl (by assumption)|refine H.Sub.add ?_ _|refine H.Sub.set ?_ (by first|omega|(simp only[H.next_add,H.next_set,H.next_del]<;>omega)) (by first|omega|(simp only[H.next_add,H.next_set,H.next_del]<;>omega)) (by assumption) _)))).1,(k.sub ((by repeat(first|assumption|exact H.Sub.refl (by assumption)|refine H.Sub.add ?_ _|refine H.Sub.set ?_ (by first|omega|(simp only[H.next_add,H.next_set,H.next_del]<;>omega)) (by first|omega|(simp only[H.next_add,H.next_set,H.next_del]<;>omega)) (by assumption) _)))).2,(by simp[ev_c,ev_put,t1]<;>rfl),(by simp[ev_c,ev_put,t3]<;>rfl),(by simp[ev_c,ev_put,t4]<;>rfl),(by simp[ev_c,ev_put,t5]<;>rfl),(by simp[ev_c,ev_put,t6]<;>rfl)⟩,(by simp[ev_c,ev_put,t7]<;>rfl),(by simp[ev_c,ev_put]<;>rfl),get_add_new rfl⟩
   clear hs
   intro s hs
   generalize a.cks[i]=c at hs⊢
   have f1:=fun hh Q=>far_eq hh c.sl c.sh 60 (by omega) Q
   have f2:=fun hh Q=>far_eq hh c.gl c.gh 30 (by omega) Q
   have wr1:within c.sl c.sh 60=true→wr .i64 (c.sh-c.sl)=c.sh-c.sl:=fun h=>by
    simp only[within,Bool.and_eq_true,inB_iff] at h
    exact wr_in (by omega) (by omega)
   have wr2:within c.gl c.gh 30=true→wr .i64 (c.gh-c.gl)=c.gh-c.gl:=fun h=>by
    simp only[within,Bool.and_eq_true,inB_iff] at h
    exact wr_in (by omega) (by omega)
   simp only[encC] at hs⊢
   generalize within c.sl c.sh 60=w1 at f1 wr1⊢
   generalize within c.gl c.gh 30=w2 at f2 wr2⊢
   refine W_split (RCp h a C R G 7 i 8 (encC c) (b3||(!w1|| !w2)) false b5 b6) ?_ ?_
   ·obtain⟨tm,z,b,rfl,k,t7,t8,gb⟩:=hs
    obtain⟨zs,g1,t1,t3,t4,t5,t6⟩:=id k
    have hwz:=zs.wf
    have lb:=hwz _ _ gb
    simp only[encC]
    cases b3<;>cases w1<;>cases w2
    all_goals
     simp -implicitDefEqProofs(maxSteps:=999999)(disch:=first|with_reducible rfl|omega|(simp only[nA,nS,nD]<;>omega)|fail)only[go_sem,t1,t3,t4,t5,t6,t7,t8,cells_of gb,f1,f2]
     have sz:=H.Sub.refl hwz
     exact⟨_,_,_,rfl,⟨(k.sub ((by repeat(first|assumption|exact H.Sub.refl (by assumption)|refine H.Sub.add ?_ _|refine H.Sub.set ?_ (by first|omega|(simp only[H.next_add,H.next_set,H.next_del]<;>omega)) (by first|omega|(simp only[H.next_add,H.next_set,H.next_del]<;>omega)) (by assumption) _)))).1,(k.sub ((by repeat(first|assumption|exact H.Sub.refl (by assumption)|refine H.Sub.add ?_ _|refine H.Sub.set ?_ (by first|omega|(simp only[H.next_add,H.next_set,H.next_del]<;>omega)) (by first|omega|(simp only[H.next_add,H.next_set,H.next_del]<;>omega)) (by assumption) _)))).2,(by simp[ev_c,ev_put,t1]<;>rfl),(by simp[ev_c,ev_put,t3]<;>rfl),(by simp[ev_c,ev_put,t4]<;>rfl),(by simp[ev_c,ev_put,t5]<;>rfl),(by simp[ev_c,ev_put,t6]<;>rfl)⟩,(by simp[ev_c,ev_put,t7]<;>rfl),(by simp[ev_c,ev_put,t8]<;>rfl),((by repeat(first|assumption|exact H.Sub.refl (by assumption)|refine H.Sub.add ?_ _|refine H.Sub.set ?_ (by first|omega|(simp only[H.next_add,H.next_set,H.next_del]<;>omega)) (by first|omega|(simp only[H.next_add,H.next_set,H.next_del]<;>omega)) (by assumption) _)):z.Sub _).get gb⟩
   clear hs
   intro s hs
   generalize(b3||(!w1|| !w2))=b3' at hs⊢
   refine W_split (RCp h a C R G 7 i 8 (encC c) b3' false (b5||(decide (c.sh<c.sl)||decide (c.gh<c.gl))) b6) ?_ ?_
   ·obtain⟨tm,z,b,rfl,k,t7,t8,gb⟩:=hs
    obtain⟨zs,g1,t1,t3,t4,t5,t6⟩:=id k
    simp only[encC] at gb⊢
    obtain⟨o1,ho1⟩:∃o1,decide (c.sh<c.sl)=o1:=⟨_,rfl⟩
    obtain⟨o2,ho2⟩:∃o2,decide (c.gh<c.gl)=o2:=⟨_,rfl⟩
    rw[ho1,ho2]
    cases b5<;>cases o1<;>cases o2
    all_goals
     simp -implicitDefEqProofs(maxSteps:=999999)(disch:=first|with_reducible rfl|omega|(simp only[nA,nS,nD]<;>omega)|fail)only[go_sem,t1,t3,t4,t5,t6,t7,t8,cells_of gb,ho1,ho2]
     exact⟨_,_,_,rfl,⟨k.s,k.g1,(by simp[ev_c,ev_put,t1]<;>rfl),(by simp[ev_c,ev_put,t3]<;>rfl),(by simp[ev_c,ev_put,t4]<;>rfl),(by simp[ev_c,ev_put,t5]<;>rfl),(by simp[ev_c,ev_put,t6]<;>rfl)⟩,(by simp[ev_c,ev_put,t7]<;>rfl),(by simp[ev_c,ev_put,t8]<;>rfl),gb⟩
   clear hs
   intro s hs
   generalize(b5||(decide (c.sh<c.sl)||decide (c.gh<c.gl)))=b5' at hs⊢
   obtain⟨tm,z,b,rfl,k,t7,t8,gb⟩:=hs
   obtain⟨zs,g1,t1,t3,t4,t5,t6⟩:=id k
   have hwz:=zs.wf
   have lb:=hwz _ _ gb
   simp only[encC] at gb
   obtain⟨d1,hd1⟩:∃d1,decide (4<c.sh-c.sl)=d1:=⟨_,rfl⟩
   obtain⟨d2,hd2⟩:∃d2,decide (4<c.gh-c.gl)=d2:=⟨_,rfl⟩
   rw[hd1,hd2]
   cases b6<;>cases w1<;>cases w2<;>cases d1<;>cases d2
   all_goals
    simp -implicitDefEqProofs(maxSteps:=999999)(disch:=first|with_reducible rfl|omega|(simp only[nA,nS,nD]<;>omega)|fail)only[go_sem,t1,t3,t4,t5,t6,t7,t8,cells_of gb,f1,f2,hd1,hd2,wr1,wr2]
    have sz:=H.Sub.refl hwz
    exact⟨_,_,rfl,⟨(k.sub ((by repeat(first|assumption|exact H.Sub.refl (by assumption)|refine H.Sub.add ?_ _|refine H.Sub.set ?_ (by first|omega|(simp only[H.next_add,H.next_set,H.next_del]<;>omega)) (by first|omega|(simp only[H.next_add,H.next_set,H.next_del]<;>omega)) (by assumption) _)))).1,(k.sub ((by repeat(first|assumption|exact H.Sub.refl (by assumption)|refine H.Sub.add ?_ _|refine H.Sub.set ?_ (by first|omega|(simp only[H.next_add,H.next_set,H.next_del]<;>omega)) (by first|omega|(simp only[H.next_add,H.next_set,H.next_del]<;>omega)) (by assumption) _)))).2,(by simp[ev_c,ev_put,t1]<;>rfl),(by simp[ev_c,ev_put,t3]<;>rfl),(by simp[ev_c,ev_put,t4]<;>rfl),(by simp[ev_c,ev_put,t5]<;>rfl),(by simp[ev_c,ev_put,t6]<;>rfl)⟩,(by simp[ev_c,ev_put,t7]<;>rfl)⟩
  clear hs
  rintro s ⟨tm,z,rfl,⟨zs,g1,t1,t3,t4,t5,t6⟩,t7⟩
  simp -implicitDefEqProofs(maxSteps:=999999)(disch:=first|with_reducible rfl|omega|(simp only[nA,nS,nD]<;>omega)|fail)only[go_sem,t1,t3,t4,t5,t6,t7,wr_succ]
  exact⟨_,_,rfl,⟨zs,g1,(by simp[ev_c,ev_put,t1]<;>rfl),(by simp[ev_c,ev_put,t3]<;>rfl),(by simp[ev_c,ev_put,t4]<;>rfl),(by simp[ev_c,ev_put,t5]<;>rfl),(by simp[ev_c,ev_put,t6]<;>rfl)⟩,(by simp[ev_c,ev_put]<;>rfl)⟩
 ·rintro s ⟨tm,z,rfl,⟨zs,g1,t1,t3,t4,t5,t6⟩,t7⟩
  rw[List.take_length] at t3 t5 t6
  simp -implicitDefEqProofs(maxSteps:=999999)(disch:=first|with_reducible rfl|omega|(simp only[nA,nS,nD]<;>omega)|fail)only[go_sem,t1,t3,t4,t5,t6,t7,cells_of g1,hlC,Int.lt_irrefl]
  refine W_count a.rds.length (fun i s=>RCs h a C R G 9 i (!(a.cks.all Ck.bd)|| !((a.rds.take i).all Rd.bd)) (!((a.rds.take i).all a.rdOk)) (!(a.cks.all Ck.ord)) (a.cks.any Ck.lg) s) ?_ ?_ (i:=0) (Nat.zero_le _)
   ⟨_,_,rfl,⟨zs,g1,(by simp[ev_c,ev_put,t1]<;>rfl),by rw[List.take_zero,List.all_nil,Bool.not_true,Bool.or_false];exact(by simp[ev_c,ev_put,t3]<;>rfl),(by simp[ev_c,ev_put,t4]<;>rfl),(by simp[ev_c,ev_put,t5]<;>rfl),(by simp[ev_c,ev_put,t6]<;>rfl)⟩,(by simp[ev_c,ev_put]<;>rfl)⟩
  ·clear t1 t3 t4 t5 t6 t7 g1 zs
   intro i s hi
   have hi':(i:Int)<(a.rds.length:Int):=by omega
   have hst:=take_at hi
   rw[hst,List.all_append,List.all_append]
   simp only[List.all_cons,List.all_nil,Bool.and_true,Bool.not_and]
   rw[←Bool.or_assoc]
   generalize(!(a.cks.all Ck.bd)|| !((a.rds.take i).all Rd.bd))=b3
   generalize(!((a.rds.take i).all a.rdOk))=b4
   generalize(!(a.cks.all Ck.ord))=b5
   generalize(a.cks.any Ck.lg)=b6
   intro hs
   have w1:wr .i64 ((a.cks.length:Int)-1)=(a.cks.length:Int)-1:=wr_in (by omega) (by omega)
   have ev1:=(inB_iff ..).1 p2
   have w2:wr .i64 (a.evs-1)=a.evs-1:=wr_in (by omega) (by omega)
   refine W_split (RCs h a C R G 9 i b3 b4 b5 b6) ?_ ?_
   ·obtain⟨tm,z,rfl,k,t7⟩:=hs
    obtain⟨zs,g1,t1,t3,t4,t5,t6⟩:=k
    simp -implicitDefEqProofs(maxSteps:=999999)(disch:=first|with_reducible rfl|omega|(simp only[nA,nS,nD]<;>omega)|fail)only[go_sem,t1,t3,t4,t5,t6,t7,hi',cells_of g1,hlR]
    exact⟨_,_,rfl,⟨zs,g1,(by simp[ev_c,ev_put,t1]<;>rfl),(by simp[ev_c,ev_put,t3]<;>rfl),(by simp[ev_c,ev_put,t4]<;>rfl),(by simp[ev_c,ev_put,t5]<;>rfl),(by simp[ev_c,ev_put,t6]<;>rfl)⟩,(by simp[ev_c,ev_put,t7]<;>rfl)⟩
   clear hs
   intro s hs
   refine W_split (RCs h a C R G 9 i (b3|| !Rd.bd a.rds[i]) (b4|| !a.rdOk a.rds[i]) b5 b6) ?_ ?_
   ·rw[W_block]
    refine W_split (RCp h a C R G 9 i 10 (encR a.rds[i]) b3 b4 b5 b6) ?_ ?_
    ·obtain⟨tm,z,rfl,k,t7⟩:=hs
     obtain⟨zs,g1,t1,t3,t4,t5,t6⟩:=id k
     obtain⟨b,o,cc,cs,eC,hc,hq,hg,_,_⟩:=(x.r.mono zs).at hi
     generalize a.rds[i]=c at hg⊢
     simp only[encR] at hg⊢
     have hwz:=zs.wf
     simp -implicitDefEqProofs(maxSteps:=999999)(disch:=first|with_reducible rfl|omega|(simp only[nA,nS,nD]<;>omega)|fail)only[go_sem,t1,t3,t4,t5,t6,t7,cells_of g1,hq (nat_cst i),hc,hg]
     exact⟨_,_,_,rfl,⟨(k.sub ((by repeat(first|assumption|exact H.Sub.refl (by assumption)|refine H.Sub.add ?_ _|refine H.Sub.set ?_ (by first|omega|(simp only[H.next_add,H.next_set,H.next_del]<;>omega)) (by first|omega|(simp only[H.next_add,H.next_set,H.next_del]<;>omega)) (by assumption) _)))).1,(k.sub ((by repeat(first|assumption|exact H.Sub.refl (by assumption)|refine H.Sub.add ?_ _|refine H.Sub.set ?_ (by first|omega|(simp only[H.next_add,H.next_set,H.next_del]<;>omega)) (by first|omega|(simp only[H.next_add,H.next_set,H.next_del]<;>omega)) (by assumption) _)))).2,(by simp[ev_c,ev_put,t1]<;>rfl),(by simp[ev_c,ev_put,t3]<;>rfl),(by simp[ev_c,ev_put,t4]<;>rfl),(by simp[ev_c,ev_put,t5]<;>rfl),(by simp[ev_c,ev_put,t6]<;>rfl)⟩,(by simp[ev_c,ev_put,t7]<;>rfl),(by simp[ev_c,ev_put]<;>rfl),get_add_new rfl⟩
    clear hs
    intro s hs
    generalize a.rds[i]=c at hs⊢
    have ebd:c.bd=inB c.sh (-999) 999:=rfl
    have eok:a.rdOk c=(inB c.ck 0 ((a.cks.length:Int)-1)&&inB c.ev 0 (a.evs-1)):=rfl
    rw[ebd,eok,Bool.not_and]
    have f0:=fun hh Q=>off_eq hh c.sh (-999) 999 Q
    have f1:=fun hh Q=>off_eq hh c.ck 0 ((a.cks.length:Int)-1) Q
    have f2:=fun hh Q=>off_eq hh c.ev 0 (a.evs-1) Q
    simp only[encR] at hs⊢
    generalize inB c.sh (-999) 999=u0 at f0⊢
    generalize inB c.ck 0 ((a.cks.length:Int)-1)=u1 at f1⊢
    generalize inB c.ev 0 (a.evs-1)=u2 at f2⊢
    refine W_split (RCp h a C R G 9 i 10 (encR c) (b3|| !u0) b4 b5 b6) ?_ ?_
    ·obtain⟨tm,z,b,rfl,k,t7,t8,gb⟩:=hs
     obtain⟨zs,g1,t1,t3,t4,t5,t6⟩:=id k
     simp only[encR]
     cases b3
     all_goals
      simp -implicitDefEqProofs(maxSteps:=999999)(disch:=first|with_reducible rfl|omega|(simp only[nA,nS,nD]<;>omega)|fail)only[go_sem,t1,t3,t4,t5,t6,t7,t8,cells_of gb,f0]
      exact⟨_,_,_,rfl,⟨k.s,k.g1,(by simp[ev_c,ev_put,t1]<;>rfl),(by simp[ev_c,ev_put,t3]<;>rfl),(by simp[ev_c,ev_put,t4]<;>rfl),(by simp[ev_c,ev_put,t5]<;>rfl),(by simp[ev_c,ev_put,t6]<;>rfl)⟩,(by simp[ev_c,ev_put,t7]<;>rfl),(by simp[ev_c,ev_put,t8]<;>rfl),gb⟩
    clear hs
    intro s hs
    generalize(b3|| !u0)=b3' at hs⊢
    obtain⟨tm,z,b,rfl,k,t7,t8,gb⟩:=hs
    obtain⟨zs,g1,t1,t3,t4,t5,t6⟩:=id k
    simp only[encR] at gb
    cases b4<;>cases u1<;>cases u2
    all_goals
     simp -implicitDefEqProofs(maxSteps:=999999)(disch:=first|with_reducible rfl|omega|(simp only[nA,nS,nD]<;>omega)|fail)only[go_sem,t1,t3,t4,t5,t6,t7,t8,cells_of gb,cells_of g1,hlC,w1,w2,f1,f2]
     exact⟨_,_,rfl,⟨k.s,k.g1,(by simp[ev_c,ev_put,t1]<;>rfl),(by simp[ev_c,ev_put,t3]<;>rfl),(by simp[ev_c,ev_put,t4]<;>rfl),(by simp[ev_c,ev_put,t5]<;>rfl),(by simp[ev_c,ev_put,t6]<;>rfl)⟩,(by simp[ev_c,ev_put,t7]<;>rfl)⟩
   clear hs
   rintro s ⟨tm,z,rfl,⟨zs,g1,t1,t3,t4,t5,t6⟩,t7⟩
   simp -implicitDefEqProofs(maxSteps:=999999)(disch:=first|with_reducible rfl|omega|(simp only[nA,nS,nD]<;>omega)|fail)only[go_sem,t1,t3,t4,t5,t6,t7,wr_succ]
   exact⟨_,_,rfl,⟨zs,g1,(by simp[ev_c,ev_put,t1]<;>rfl),(by simp[ev_c,ev_put,t3]<;>rfl),(by simp[ev_c,ev_put,t4]<;>rfl),(by simp[ev_c,ev_put,t5]<;>rfl),(by simp[ev_c,ev_put,t6]<;>rfl)⟩,(by simp[ev_c,ev_put]<;>rfl)⟩
  clear t1 t3 t4 t5 t6 t7 g1 zs
  rintro s ⟨tm,z,rfl,⟨zs,g1,t1,t3,t4,t5,t6⟩,t7⟩
  rw[List.take_length] at t3 t4
  simp -implicitDefEqProofs(maxSteps:=999999)(disch:=first|with_reducible rfl|omega|(simp only[nA,nS,nD]<;>omega)|fail)only[go_sem,t1,t3,t4,t5,t6,t7,cells_of g1,hlR,Int.lt_irrefl]
  refine W_count a.gps.length (fun i s=>RCs h a C R G 11 i (!(a.cks.all Ck.bd)|| !(a.rds.all Rd.bd)|| !((a.gps.take i).all Gp.bd)) (!(a.rds.all a.rdOk)|| !((a.gps.take i).all a.gpOk)) (!(a.cks.all Ck.ord)|| !((a.gps.take i).all Gp.ord)) (a.cks.any Ck.lg) s) ?_ ?_ (i:=0) (Nat.zero_le _)
   ⟨_,_,rfl,⟨zs,g1,(by simp[ev_c,ev_put,t1]<;>rfl),by rw[List.take_zero,List.all_nil,Bool.not_true,Bool.or_false];exact(by simp[ev_c,ev_put,t3]<;>rfl),by rw[List.take_zero,List.all_nil,Bool.not_true,Bool.or_false];exact(by simp[ev_c,ev_put,t4]<;>rfl),by rw[List.take_zero,List.all_nil,Bool.not_true,Bool.or_false];exact(by simp[ev_c,ev_put,t5]<;>rfl),(by simp[ev_c,ev_put,t6]<;>rfl)⟩,(by simp[ev_c,ev_put]<;>rfl)⟩
  ·clear t1 t3 t4 t5 t6 t7 g1 zs
   intro i s hi
   have hi':(i:Int)<(a.gps.length:Int):=by omega
   have hst:=take_at hi
   rw[hst,List.all_append,List.all_append,List.all_append]
   simp only[List.all_cons,List.all_nil,Bool.and_true,Bool.not_and]
   rw[←Bool.or_assoc,←Bool.or_assoc,←Bool.or_assoc]
   generalize(!(a.cks.all Ck.bd)|| !(a.rds.all Rd.bd)|| !((a.gps.take i).all Gp.bd))=b3
   generalize(!(a.rds.all a.rdOk)|| !((a.gps.take i).all a.gpOk))=b4
   generalize(!(a.cks.all Ck.ord)|| !((a.gps.take i).all Gp.ord))=b5
   generalize(a.cks.any Ck.lg)=b6
   intro hs
   have ev1:=(inB_iff ..).1 p2
   have w2:wr .i64 (a.evs-1)=a.evs-1:=wr_in (by omega) (by omega)
   refine W_split (RCs h a C R G 11 i b3 b4 b5 b6) ?_ ?_
   ·obtain⟨tm,z,rfl,k,t7⟩:=hs
    obtain⟨zs,g1,t1,t3,t4,t5,t6⟩:=k
    simp -implicitDefEqProofs(maxSteps:=999999)(disch:=first|with_reducible rfl|omega|(simp only[nA,nS,nD]<;>omega)|fail)only[go_sem,t1,t3,t4,t5,t6,t7,hi',cells_of g1,hlG]
    exact⟨_,_,rfl,⟨zs,g1,(by simp[ev_c,ev_put,t1]<;>rfl),(by simp[ev_c,ev_put,t3]<;>rfl),(by simp[ev_c,ev_put,t4]<;>rfl),(by simp[ev_c,ev_put,t5]<;>rfl),(by simp[ev_c,ev_put,t6]<;>rfl)⟩,(by simp[ev_c,ev_put,t7]<;>rfl)⟩
   clear hs
   intro s hs
   refine W_split (RCs h a C R G 11 i (b3|| !Gp.bd a.gps[i]) (b4|| !a.gpOk a.gps[i]) (b5|| !Gp.ord a.gps[i]) b6) ?_ ?_
   ·rw[W_block]
    refine W_split (RCp h a C R G 11 i 12 (encG a.gps[i]) b3 b4 b5 b6) ?_ ?_
    ·obtain⟨tm,z,rfl,k,t7⟩:=hs
     obtain⟨zs,g1,t1,t3,t4,t5,t6⟩:=id k
     obtain⟨b,o,cc,cs,eC,hc,hq,hg,_,_⟩:=(x.g.mono zs).at hi
     generalize a.gps[i]=c at hg⊢
     simp only[encG] at hg⊢
     have hwz:=zs.wf
     simp -implicitDefEqProofs(maxSteps:=999999)(disch:=first|with_reducible rfl|omega|(simp only[nA,nS,nD]<;>omega)|fail)only[go_sem,t1,t3,t4,t5,t6,t7,cells_of g1,hq (nat_cst i),hc,hg]
     exact⟨_,_,_,rfl,⟨(k.sub ((by repeat(first|assumption|exact H.Sub.refl (by assumption)|refine H.Sub.add ?_ _|refine H.Sub.set ?_ (by first|omega|(simp only[H.next_add,H.next_set,H.next_del]<;>omega)) (by first|omega|(simp only[H.next_add,H.next_set,H.next_del]<;>omega)) (by assumption) _)))).1,(k.sub ((by repeat(first|assumption|exact H.Sub.refl (by assumption)|refine H.Sub.add ?_ _|refine H.Sub.set ?_ (by first|omega|(simp only[H.next_add,H.next_set,H.next_del]<;>omega)) (by first|omega|(simp only[H.next_add,H.next_set,H.next_del]<;>omega)) (by assumption) _)))).2,(by simp[ev_c,ev_put,t1]<;>rfl),(by simp[ev_c,ev_put,t3]<;>rfl),(by simp[ev_c,ev_put,t4]<;>rfl),(by simp[ev_c,ev_put,t5]<;>rfl),(by simp[ev_c,ev_put,t6]<;>rfl)⟩,(by simp[ev_c,ev_put,t7]<;>rfl),(by simp[ev_c,ev_put]<;>rfl),get_add_new rfl⟩
    clear hs
    intro s hs
    generalize a.gps[i]=c at hs⊢
    have ebd:c.bd=within c.lo c.hi 240:=rfl
    have eok:a.gpOk c=(inB c.fr 0 (a.evs-1)&&inB c.to 0 (a.evs-1)):=rfl
    have eod:(!c.ord)=decide (c.hi<c.lo):=by rw[Bool.eq_iff_iff];simp[Gp.ord]<;>omega
    rw[ebd,eok,eod,Bool.not_and]
    have f0:=fun hh Q=>far_eq hh c.lo c.hi 240 (by omega) Q
    have f1:=fun hh Q=>off_eq hh c.fr 0 (a.evs-1) Q
    have f2:=fun hh Q=>off_eq hh c.to 0 (a.evs-1) Q
    simp only[encG] at hs⊢
    generalize within c.lo c.hi 240=u0 at f0⊢
    generalize inB c.fr 0 (a.evs-1)=u1 at f1⊢
    generalize inB c.to 0 (a.evs-1)=u2 at f2⊢
    obtain⟨o1,ho1⟩:∃o1,decide (c.hi<c.lo)=o1:=⟨_,rfl⟩
    rw[ho1]
    refine W_split (RCp h a C R G 11 i 12 (encG c) (b3|| !u0) b4 b5 b6) ?_ ?_
    ·obtain⟨tm,z,b,rfl,k,t7,t8,gb⟩:=hs
     obtain⟨zs,g1,t1,t3,t4,t5,t6⟩:=id k
     have hwz:=zs.wf
     simp only[encG]
     cases b3
     all_goals
      simp -implicitDefEqProofs(maxSteps:=999999)(disch:=first|with_reducible rfl|omega|(simp only[nA,nS,nD]<;>omega)|fail)only[go_sem,t1,t3,t4,t5,t6,t7,t8,cells_of gb,f0]
      have sz:=H.Sub.refl hwz
      exact⟨_,_,_,rfl,⟨(k.sub ((by repeat(first|assumption|exact H.Sub.refl (by assumption)|refine H.Sub.add ?_ _|refine H.Sub.set ?_ (by first|omega|(simp only[H.next_add,H.next_set,H.next_del]<;>omega)) (by first|omega|(simp only[H.next_add,H.next_set,H.next_del]<;>omega)) (by assumption) _)))).1,(k.sub ((by repeat(first|assumption|exact H.Sub.refl (by assumption)|refine H.Sub.add ?_ _|refine H.Sub.set ?_ (by first|omega|(simp only[H.next_add,H.next_set,H.next_del]<;>omega)) (by first|omega|(simp only[H.next_add,H.next_set,H.next_del]<;>omega)) (by assumption) _)))).2,(by simp[ev_c,ev_put,t1]<;>rfl),(by simp[ev_c,ev_put,t3]<;>rfl),(by simp[ev_c,ev_put,t4]<;>rfl),(by simp[ev_c,ev_put,t5]<;>rfl),(by simp[ev_c,ev_put,t6]<;>rfl)⟩,(by simp[ev_c,ev_put,t7]<;>rfl),(by simp[ev_c,ev_put,t8]<;>rfl),((by repeat(first|assumption|exact H.Sub.refl (by assumption)|refine H.Sub.add ?_ _|refine H.Sub.set ?_ (by first|omega|(simp only[H.next_add,H.next_set,H.next_del]<;>omega)) (by first|omega|(simp only[H.next_add,H.next_set,H.next_del]<;>omega)) (by assumption) _)):z.Sub _).get gb⟩
    clear hs
    intro s hs
    generalize(b3|| !u0)=b3' at hs⊢
    refine W_split (RCp h a C R G 11 i 12 (encG c) b3' (b4||(!u1|| !u2)) b5 b6) ?_ ?_
    ·obtain⟨tm,z,b,rfl,k,t7,t8,gb⟩:=hs
     obtain⟨zs,g1,t1,t3,t4,t5,t6⟩:=id k
     simp only[encG] at gb⊢
     cases b4<;>cases u1<;>cases u2
     all_goals
      simp -implicitDefEqProofs(maxSteps:=999999)(disch:=first|with_reducible rfl|omega|(simp only[nA,nS,nD]<;>omega)|fail)only[go_sem,t1,t3,t4,t5,t6,t7,t8,cells_of gb,cells_of g1,w2,f1,f2]
      exact⟨_,_,_,rfl,⟨k.s,k.g1,(by simp[ev_c,ev_put,t1]<;>rfl),(by simp[ev_c,ev_put,t3]<;>rfl),(by simp[ev_c,ev_put,t4]<;>rfl),(by simp[ev_c,ev_put,t5]<;>rfl),(by simp[ev_c,ev_put,t6]<;>rfl)⟩,(by simp[ev_c,ev_put,t7]<;>rfl),(by simp[ev_c,ev_put,t8]<;>rfl),gb⟩
    clear hs
    intro s hs
    generalize(b4||(!u1|| !u2))=b4' at hs⊢
    obtain⟨tm,z,b,rfl,k,t7,t8,gb⟩:=hs
    obtain⟨zs,g1,t1,t3,t4,t5,t6⟩:=id k
    simp only[encG] at gb
    cases b5
    all_goals
     simp -implicitDefEqProofs(maxSteps:=999999)(disch:=first|with_reducible rfl|omega|(simp only[nA,nS,nD]<;>omega)|fail)only[go_sem,t1,t3,t4,t5,t6,t7,t8,cells_of gb,ho1]
     exact⟨_,_,rfl,⟨k.s,k.g1,(by simp[ev_c,ev_put,t1]<;>rfl),(by simp[ev_c,ev_put,t3]<;>rfl),(by simp[ev_c,ev_put,t4]<;>rfl),(by simp[ev_c,ev_put,t5]<;>rfl),(by simp[ev_c,ev_put,t6]<;>rfl)⟩,(by simp[ev_c,ev_put,t7]<;>rfl)⟩
   clear hs
   rintro s ⟨tm,z,rfl,⟨zs,g1,t1,t3,t4,t5,t6⟩,t7⟩
   simp -implicitDefEqProofs(maxSteps:=999999)(disch:=first|with_reducible rfl|omega|(simp only[nA,nS,nD]<;>omega)|fail)only[go_sem,t1,t3,t4,t5,t6,t7,wr_succ]
   exact⟨_,_,rfl,⟨zs,g1,(by simp[ev_c,ev_put,t1]<;>rfl),(by simp[ev_c,ev_put,t3]<;>rfl),(by simp[ev_c,ev_put,t4]<;>rfl),(by simp[ev_c,ev_put,t5]<;>rfl),(by simp[ev_c,ev_put,t6]<;>rfl)⟩,(by simp[ev_c,ev_put]<;>rfl)⟩
  clear t1 t3 t4 t5 t6 t7 g1 zs
  rintro s ⟨tm,z,rfl,⟨zs,g1,t1,t3,t4,t5,t6⟩,t7⟩
  rw[List.take_length] at t3 t4 t5
  have q':=q z zs
  rw[chk_of hsz] at q'
  simp -implicitDefEqProofs(maxSteps:=999999)(disch:=first|with_reducible rfl|omega|(simp only[nA,nS,nD]<;>omega)|fail)only[go_sem,t1,t3,t4,t5,t6,t7,cells_of g1,hlG,Int.lt_irrefl]
  generalize(!(a.cks.all Ck.bd)|| !(a.rds.all Rd.bd)|| !(a.gps.all Gp.bd))=b3 at q' t3⊢
  generalize(!(a.rds.all a.rdOk)|| !(a.gps.all a.gpOk))=b4 at q' t4⊢
  generalize(!(a.cks.all Ck.ord)|| !(a.gps.all Gp.ord))=b5 at q' t5⊢
  generalize(a.cks.any Ck.lg)=b6 at q' t6⊢
  cases b3 with
  |true=>simp -implicitDefEqProofs(maxSteps:=999999)(disch:=first|with_reducible rfl|omega|(simp only[nA,nS,nD]<;>omega)|fail)only[go_sem,t1,t3,t4,t5,t6];exact q'
  |false=>
   cases b4 with
   |true=>simp -implicitDefEqProofs(maxSteps:=999999)(disch:=first|with_reducible rfl|omega|(simp only[nA,nS,nD]<;>omega)|fail)only[go_sem,t1,t3,t4,t5,t6];exact q'
   |false=>
    cases b5 with
    |true=>simp -implicitDefEqProofs(maxSteps:=999999)(disch:=first|with_reducible rfl|omega|(simp only[nA,nS,nD]<;>omega)|fail)only[go_sem,t1,t3,t4,t5,t6];exact q'
    |false=>
     cases b6 with
     |true=>simp -implicitDefEqProofs(maxSteps:=999999)(disch:=first|with_reducible rfl|omega|(simp only[nA,nS,nD]<;>omega)|fail)only[go_sem,t1,t3,t4,t5,t6];exact q'
     |false=>simp -implicitDefEqProofs(maxSteps:=999999)(disch:=first|with_reducible rfl|omega|(simp only[nA,nS,nD]<;>omega)|fail)only[go_sem,t1,t3,t4,t5,t6];exact q'
end Go.Ab.Tryz
namespace Go.Ab.Tryz
open Go.Proofs
end Go.Ab.Tryz
namespace Go.Ab.Tryz
open Go.Proofs
def At.addR (a:At)(x:Rd):At:={a with rds:=a.rds++[x]}
def At.addG (a:At)(g:Gp):At:={a with gps:=a.gps++[g]}
end Go.Ab.Tryz
namespace Go.Ab
theorem a_msl_nm {h:H}{by_ n m:Nat}{z:List V}(h0:n≤m)(h1:m*by_≤1099511627776)(h2:m≤1099511627776):
  a_msl h by_ z (.int .i64 (n:Int)) (.int .i64 (m:Int))=some (.sl h.next 0 n (.fix m),h.add (.cells .rw (repN m z))):=by
 have e1:Nat.ble (m*by_) 1099511627776=true:=by simpa using h1
 have e2:Nat.ble m 1099511627776=true:=by simpa using h2
 have e3:Nat.ble n m=true:=by simpa using h0
 simp only[a_msl,nat_cst,e1,e2,e3,og_true,lf_eq]
theorem e_cpy_new {h0 h:H}{y:V}{sz b c n:Nat}{rows:List (List V)}{z:List V}{Q:V→H→Prop}(hs:h0.Sub h)(hw0:h0.wf)(hy:SlAt h y sz rows)(hn:n=rows.length)(hb:h.get b=some (.cells .rw (repN c z)))(l1:h0.next≤b)(l2:b<h.next)(hz:z.length=sz)(hc:rows.length≤c)
  (ho:allOne rows.flatten=true) (q:∀h',OwnC h0 h' (.sl b 0 n (.fix c)) sz rows→Keeps (fun x=>x=b) h h'→h'.next=h.next→Q (.int .i64 (n:Int)) h'):P2 (e_cpy h sz (.sl b 0 n (.fix c)) y) Q:=by
 subst hn
 obtain⟨e1,e2⟩:=hy.elems
 have hl:=flatten_len hy.1
 have hr:=repN_len z c
 rw[hz] at hr
 have hle:rows.length*sz≤c*sz:=Nat.mul_le_mul_right sz hc
 have hble:Nat.ble rows.length rows.length=true:=by simp
 have ht:takeN (rows.length*sz) rows.flatten=some rows.flatten:=takeN_eq.2 ⟨by rw[←hl,List.take_length],by omega⟩
 have hlen:rows.length*sz+((repN c z).drop (rows.length*sz)).length=c*sz:=by rw[List.length_drop,hr];omega
 simp only[e_cpy,lenV_sl,e1,e2,hble,ht,cpyTo]
 cases hf:rows.flatten with
 |nil=>
  rw[hf] at hl
  simp only[List.length_nil] at hl
  simp only[H.put,withV_some,P2_some]
  refine q h ⟨hs,hy.1,.inr (.inr ⟨b,c,_,rfl,l1,l2,?_,hlen,hc⟩)⟩ (Keeps.refl _ h) rfl
  rw[hb,hf,←hl];simp
 |cons v vs=>
  rw[hf] at ho hl
  have hp:putN 0 (v::vs) (repN c z)=some (v::vs++(repN c z).drop (rows.length*sz)):=by
   rw[putN_0]
   exact over_eq.2 ⟨by rw[hl],by rw[hl,hr];exact hle⟩
  rw[H.put_rw ho hb hp,withV_some,P2_some]
  refine q _ ⟨hs.set l1 l2 hw0 _,hy.1,.inr (.inr ⟨b,c,_,rfl,l1,by rw[H.next_set];exact l2,?_,hlen,hc⟩)⟩ (Keeps.set h b _) (H.next_set _ _ _)
  rw[get_set_same rfl,hf]
end Go.Ab
namespace Go.Ab.Tryz
open Go.Proofs
structure AtOw (h0 h:H)(C R G:V)(a:At):Prop where
 c:OwnC h0 h C 4 (a.cks.map encC)
 r:OwnC h0 h R 3 (a.rds.map encR)
 g:OwnC h0 h G 4 (a.gps.map encG)
 cr:∀b,blkOf C b→¬blkOf R b
 cg:∀b,blkOf C b→¬blkOf G b
 rg:∀b,blkOf R b→¬blkOf G b
variable {h0 h1 h h':H} {C R G:V} {a:At}
theorem AtOw.sub (o:AtOw h0 h C R G a):h0.Sub h:=o.c.1
theorem AtOw.at_ (o:AtOw h0 h C R G a)(l:SmallA a):AtAt h C R G a:=
 ⟨o.c.sl (by rw[List.length_map];have:=l.c;omega),o.r.sl (by rw[List.length_map];have:=l.r;omega),o.g.sl (by rw[List.length_map];have:=l.g;omega)⟩
theorem AtOw.mono (o:AtOw h0 h C R G a)(s:h.Sub h'):AtOw h0 h' C R G a:=⟨o.c.mono s,o.r.mono s,o.g.mono s,o.cr,o.cg,o.rg⟩
theorem AtOw.base (o:AtOw h1 h C R G a)(s:h0.Sub h1):AtOw h0 h C R G a:=⟨o.c.base s,o.r.base s,o.g.base s,o.cr,o.cg,o.rg⟩
def atBlk (C R G:V)(b:Nat):Prop:=blkOf C b∨blkOf R b∨blkOf G b
theorem AtOw.blk (o:AtOw h0 h C R G a){b:Nat}(hb:atBlk C R G b):h0.next≤b∧b<h.next:=by
 rcases hb with hb|hb|hb
 ·exact⟨(o.c.blk hb).1,(o.c.blk hb).2.1⟩
 ·exact⟨(o.r.blk hb).1,(o.r.blk hb).2.1⟩
 ·exact⟨(o.g.blk hb).1,(o.g.blk hb).2.1⟩
theorem AtOw.keep (o:AtOw h0 h C R G a){S:Nat→Prop}(k:Keeps S h h')(s:h0.Sub h')(n:∀b,atBlk C R G b→¬S b):AtOw h0 h' C R G a:=
 ⟨o.c.keep k s fun b hb=>n b (.inl hb),o.r.keep k s fun b hb=>n b (.inr (.inl hb)),o.g.keep k s fun b hb=>n b (.inr (.inr hb)),o.cr,o.cg,o.rg⟩
theorem OwnC.full {sz n b:Nat}{x:V}{rows:List (List V)}(hs:h0.Sub h)(hx:x=.sl b 0 n (.fix n))(hn:n=rows.length)(hr:∀r∈rows,r.length=sz)(l1:h0.next≤b)(l2:b<h.next)(hg:h.get b=some (.cells .rw rows.flatten)):OwnC h0 h x sz rows:=by
 subst hn
 exact⟨hs,hr,.inr (.inr ⟨b,rows.length,[],hx,l1,l2,by rw[List.append_nil];exact hg,by rw[List.length_nil,Nat.add_zero],Nat.le_refl _⟩)⟩
theorem AtNew.ow (n:AtNew h0 h C R G a):AtOw h0 h C R G a:=by
 obtain⟨b1,b2,b3,rfl,rfl,rfl,l0,l1,l2,l3,g1,g2,g3⟩:=n.is
 refine⟨OwnC.full n.s rfl (by simp) (fun r hr=>by obtain⟨c,_,rfl⟩:=List.mem_map.1 hr;rfl) (by omega) (by omega) g1,OwnC.full n.s rfl (by simp) (fun r hr=>by obtain⟨c,_,rfl⟩:=List.mem_map.1 hr;rfl) (by omega) (by omega) g2,
  OwnC.full n.s rfl (by simp) (fun r hr=>by obtain⟨c,_,rfl⟩:=List.mem_map.1 hr;rfl) (by omega) (by omega) g3,?_,?_,?_⟩<;>(rintro b ⟨_,_,_,e⟩ ⟨_,_,_,e'⟩;cases e;cases e';omega)
def At.none:At:=⟨0,0,[],[],[]⟩
theorem AtOw.none (s:h0.Sub h):AtOw h0 h .nils .nils .nils At.none:=⟨(OwnSl.nil s 4).c,(OwnSl.nil s 3).c,(OwnSl.nil s 4).c,fun b hb=>(blkOf_nils hb).elim,fun b hb=>(blkOf_nils hb).elim,fun b hb=>(blkOf_nils hb).elim⟩
theorem small_none:SmallA At.none:=⟨by decide,by decide,by decide⟩
theorem cloneClock_ev {x:V}{rows:List (List V)}(hw:h.wf)(hx:SlAt h x 4 rows)(hl:rows.length≤1000000)(Q:V→H→Prop)(q:∀v h',OwnC h h' v 4 rows→Q v h'):Ev fnG fastA (.fn 169 [] []) [x] h Q:=by
 refine Ev_body (fd:=c169) rfl rfl rfl ?_
 rcases hx.2.2 with⟨rfl,e⟩|⟨b,o,c,cs,rfl,_⟩
 ·simp -implicitDefEqProofs(maxSteps:=999999)(disch:=first|with_reducible rfl|omega|(simp only[nA,nS,nD]<;>omega)|fail)only[c169,go_sem]
  exact q _ _ (by rw[e];exact(OwnSl.nil (H.Sub.refl hw) 4).c)
 ·simp -implicitDefEqProofs(maxSteps:=999999)(disch:=first|with_reducible rfl|omega|(simp only[nA,nS,nD]<;>omega)|fail)only[c169,go_sem]
  refine clone_core (by_:=32) hw hx (by omega) (by omega) fun v h' o=>?_
  simp -implicitDefEqProofs(maxSteps:=999999)(disch:=first|with_reducible rfl|omega|(simp only[nA,nS,nD]<;>omega)|fail)only[go_sem]
  exact q v h' o
theorem cloneGap_ev {x:V}{rows:List (List V)}(hw:h.wf)(hx:SlAt h x 4 rows)(hl:rows.length≤1000000)(Q:V→H→Prop)(q:∀v h',OwnC h h' v 4 rows→Q v h'):Ev fnG fastA (.fn 170 [] []) [x] h Q:=by
 refine Ev_body (fd:=c170) rfl rfl rfl ?_
 rcases hx.2.2 with⟨rfl,e⟩|⟨b,o,c,cs,rfl,_⟩
 ·simp -implicitDefEqProofs(maxSteps:=999999)(disch:=first|with_reducible rfl|omega|(simp only[nA,nS,nD]<;>omega)|fail)only[c170,go_sem]
  exact q _ _ (by rw[e];exact(OwnSl.nil (H.Sub.refl hw) 4).c)
 ·simp -implicitDefEqProofs(maxSteps:=999999)(disch:=first|with_reducible rfl|omega|(simp only[nA,nS,nD]<;>omega)|fail)only[c170,go_sem]
  refine clone_core (by_:=32) hw hx (by omega) (by omega) fun v h' o=>?_
  simp -implicitDefEqProofs(maxSteps:=999999)(disch:=first|with_reducible rfl|omega|(simp only[nA,nS,nD]<;>omega)|fail)only[go_sem]
  exact q v h' o
end Go.Ab.Tryz
namespace Go.Ab.Tryz
open Go.Proofs
set_option maxHeartbeats 2000000 in
theorem copied_ev {h:H}(hw:h.wf){a:At}{C R G:V}(x:AtAt h C R G a)(l:SmallA a)(Q:V→H→Prop)(q:∀C' R' G' h',AtOw h h' C' R' G' a→Q (.agg (atV a C' R' G')) h'):Ev fnG fastA (.fn 140 [] []) [.agg (atV a C R G)] h Q:=by
 obtain⟨l1,l2,l3⟩:=l
 have oC:=x.c.one;have oR:=x.r.one;have oG:=x.g.one
 have hlR:=x.r.lenE
 have e1:wr .i64 ((a.rds.length:Int)+1)=((a.rds.length+1:Nat):Int):=wr_succ (by omega)
 refine Ev_body (fd:=c140) rfl rfl rfl ?_
 simp -implicitDefEqProofs(maxSteps:=999999)(disch:=first|with_reducible rfl|omega|(simp only[nA,nS,nD]<;>omega)|fail)only[c140,go_sem,oC,oR,oG,hlR,e1,a_msl_nm]
 obtain⟨z,hz⟩:∃z,(((((h.add (.cells .rw (atV a C R G))).add (.cells .rw [.int .i64 0,.int .i64 0,.nils,.nils,.nils])).add (.cells .rw (atV a C R G))).add (.cells .rw (repN (a.rds.length+1) [.int .i64 0,.int .i64 0,.int .i64 0]))).set (h.next+2) (.cells .rw (atV a C (.sl (h.next+3) 0 a.rds.length (.fix (a.rds.length+1))) G)))=z:=⟨_,rfl⟩
 rw[show h.next+1+1=h.next+2 from rfl,show h.next+2+1=h.next+3 from rfl]
 try rw[hz]
 have sz:h.Sub z:=by rw[←hz];exact(by repeat(first|assumption|exact H.Sub.refl (by assumption)|refine H.Sub.add ?_ _|refine H.Sub.set ?_ (by first|omega|(simp only[H.next_add,H.next_set,H.next_del]<;>omega)) (by first|omega|(simp only[H.next_add,H.next_set,H.next_del]<;>omega)) (by assumption) _))
 have nz:z.next=h.next+4:=by rw[←hz];simp only[H.next_set,H.next_add]
 have ga:z.get h.next=some (.cells .rw (atV a C R G)):=by rw[←hz];simp -implicitDefEqProofs(maxSteps:=999999)(disch:=first|with_reducible rfl|omega|(simp only[nA,nS,nD]<;>omega)|fail)only[go_sem]
 have gb:z.get (h.next+1)=some (.cells .rw [.int .i64 0,.int .i64 0,.nils,.nils,.nils]):=by rw[←hz];simp -implicitDefEqProofs(maxSteps:=999999)(disch:=first|with_reducible rfl|omega|(simp only[nA,nS,nD]<;>omega)|fail)only[go_sem]
 have gc:z.get (h.next+2)=some (.cells .rw (atV a C (.sl (h.next+3) 0 a.rds.length (.fix (a.rds.length+1))) G)):=by rw[←hz];simp -implicitDefEqProofs(maxSteps:=999999)(disch:=first|with_reducible rfl|omega|(simp only[nA,nS,nD]<;>omega)|fail)only[go_sem]
 have gd:z.get (h.next+3)=some (.cells .rw (repN (a.rds.length+1) [.int .i64 0,.int .i64 0,.int .i64 0])):=by rw[←hz];simp -implicitDefEqProofs(maxSteps:=999999)(disch:=first|with_reducible rfl|omega|(simp only[nA,nS,nD]<;>omega)|fail)only[go_sem]
 clear hz
 refine e_cpy_new sz hw (x.r.mono sz) (by simp) gd (by omega) (by omega) rfl (by simp) (allOne_flat (fun _=>rfl) _) fun z4 o4 k4 n4=>?_
 have s4:=o4.1
 have ga4:=k4.2 _ _ ga (by omega)
 have gb4:=k4.2 _ _ gb (by omega)
 have gc4:=k4.2 _ _ gc (by omega)
 simp -implicitDefEqProofs(maxSteps:=999999)(disch:=first|with_reducible rfl|omega|(simp only[nA,nS,nD]<;>omega)|fail)only[go_sem,cells_of ga4]
 refine cloneClock_ev s4.wf (x.c.mono s4) (by rw[List.length_map];omega) _ fun vC z5 oC5=>?_
 have s5:=oC5.1
 have ga5:=s5.get ga4
 have o1C:=oC5.one
 simp -implicitDefEqProofs(maxSteps:=999999)(disch:=first|with_reducible rfl|omega|(simp only[nA,nS,nD]<;>omega)|fail)only[go_sem,cells_of ga4,cells_of ga5]
 refine cloneGap_ev s5.wf (x.g.mono (s4.trans s5)) (by rw[List.length_map];omega) _ fun vG z6 oG6=>?_
 have s6:=oG6.1
 have s46:=s5.trans s6
 have ga6:=s6.get ga5
 have gb6:=s46.get gb4
 have gc6:=s46.get gc4
 have o1G:=oG6.one
 have l5:=s5.next
 have l6:=s6.next
 simp -implicitDefEqProofs(maxSteps:=999999)(disch:=first|with_reducible rfl|omega|(simp only[nA,nS,nD]<;>omega)|fail)only[go_sem,cells_of ga4,cells_of ga5,cells_of ga6,gb6,gc6,o1C,o1G,cells_one o1C,cells_one o1G,oC,oG]
 have s06:=s4.trans s46
 obtain⟨z7,hz7⟩:∃z7,(z6.set (h.next+2) (.cells .rw (atV a vC (.sl (h.next+3) 0 a.rds.length (.fix (a.rds.length+1))) vG))).set (h.next+1) (.cells .rw (atV a vC (.sl (h.next+3) 0 a.rds.length (.fix (a.rds.length+1))) vG))=z7:=⟨_,rfl⟩
 have s7:h.Sub z7:=by rw[←hz7];exact(s06.set (by omega) (by omega) hw _).set (by omega) (by rw[H.next_set];omega) hw _
 have k7:Keeps (fun b=>b=h.next+2∨b=h.next+1) z6 z7:=by
  rw[←hz7];exact(Keeps.set _ _ _).trans (Keeps.set _ _ _)
 have nC:∀b,blkOf vC b→z4.next≤b∧b<z5.next:=fun b hb=>⟨(oC5.blk hb).1,(oC5.blk hb).2.1⟩
 have nG:∀b,blkOf vG b→z5.next≤b:=fun b hb=>(oG6.blk hb).1
 have nR:∀b,blkOf (V.sl (h.next+3) 0 a.rds.length (.fix (a.rds.length+1))) b→b=h.next+3:=fun b hb=>by obtain⟨_,_,_,e⟩:=hb;cases e;rfl
 have ow:AtOw h z6 vC (.sl (h.next+3) 0 a.rds.length (.fix (a.rds.length+1))) vG a:=
  ⟨(oC5.base s4).mono s6,o4.mono s46,oG6.base (s4.trans s5),fun b hb hb'=>by have:=nC b hb;have:=nR b hb';omega,fun b hb hb'=>by have:=nC b hb;have:=nG b hb';omega,fun b hb hb'=>by have:=nR b hb;have:=nG b hb';omega⟩
 have:=q _ _ _ z7 (ow.keep k7 s7 fun b hb=>by
  rcases hb with hb|hb|hb
  ·have:=nC b hb;omega
  ·have:=nR b hb;omega
  ·have:=nG b hb;omega)
 rwa[←hz7] at this
theorem checked_ev {h:H}(hw:h.wf){a:At}{C R G:V}(x:AtAt h C R G a)(Q:V→H→Prop)(q0:∀h',h.Sub h'→checkA a≠0→Q (.tup [.agg (atV At.none .nils .nils .nils),.int .i64 (checkA a)]) h')
  (q1:∀h',h.Sub h'→checkA a=0→Q (.tup [.agg (atV a C R G),.int .i64 0]) h'):Ev fnG fastA (.fn 141 [] []) [.agg (atV a C R G)] h Q:=by
 have oC:=x.c.one;have oR:=x.r.one;have oG:=x.g.one
 refine Ev_body (fd:=c141) rfl rfl rfl ?_
 simp -implicitDefEqProofs(maxSteps:=999999)(disch:=first|with_reducible rfl|omega|(simp only[nA,nS,nD]<;>omega)|fail)only[c141,go_sem]
 have s2:h.Sub ((h.add (.cells .rw (atV a C R G))).add (.cells .rw [.int .i64 0,.int .i64 0,.nils,.nils,.nils])):=(by repeat(first|assumption|exact H.Sub.refl (by assumption)|refine H.Sub.add ?_ _|refine H.Sub.set ?_ (by first|omega|(simp only[H.next_add,H.next_set,H.next_del]<;>omega)) (by first|omega|(simp only[H.next_add,H.next_set,H.next_del]<;>omega)) (by assumption) _))
 have ga:((h.add (.cells .rw (atV a C R G))).add (.cells .rw [.int .i64 0,.int .i64 0,.nils,.nils,.nils])).get h.next=some (.cells .rw (atV a C R G)):=by simp -implicitDefEqProofs(maxSteps:=999999)(disch:=first|with_reducible rfl|omega|(simp only[nA,nS,nD]<;>omega)|fail)only[go_sem]
 have gb:((h.add (.cells .rw (atV a C R G))).add (.cells .rw [.int .i64 0,.int .i64 0,.nils,.nils,.nils])).get (h.next+1)=some (.cells .rw [.int .i64 0,.int .i64 0,.nils,.nils,.nils]):=by simp -implicitDefEqProofs(maxSteps:=999999)(disch:=first|with_reducible rfl|omega|(simp only[nA,nS,nD]<;>omega)|fail)only[go_sem]
 have nz:((h.add (.cells .rw (atV a C R G))).add (.cells .rw [.int .i64 0,.int .i64 0,.nils,.nils,.nils])).next=h.next+2:=by simp only[H.next_add]
 generalize(h.add (.cells .rw (atV a C R G))).add (.cells .rw [.int .i64 0,.int .i64 0,.nils,.nils,.nils])=h2 at s2 ga gb nz⊢
 refine check_ev s2.wf ⟨C,R,G,rfl,x.mono s2⟩ _ fun h3 s3=>?_
 have ga3:=s3.get ga
 have gb3:=s3.get gb
 have l3:=s3.next
 by_cases he:checkA a=0
 case neg=>
  simp -implicitDefEqProofs(maxSteps:=999999)(disch:=first|with_reducible rfl|omega|(simp only[nA,nS,nD]<;>omega)|fail)only[go_sem,(decide_eq_true he:decide (checkA a≠0)=true),gb3]
  exact q0 _ ((s2.trans s3).set (by omega) (by omega) hw _) he
 have d0:decide ((0:Int)≠0)=false:=rfl
 rw[he]
 simp -implicitDefEqProofs(maxSteps:=999999)(disch:=first|with_reducible rfl|omega|(simp only[nA,nS,nD]<;>omega)|fail)only[go_sem,d0,cells_of ga3,gb3,oC,oR,oG]
 exact q1 _ ((s2.trans s3).set (by omega) (by omega) hw _) he
def readE (a:At)(y:Rd):Int:=if checkA a≠0 then checkA a else if a.rds.length=8 then 9 else checkA (a.addR y)
def readA (a:At)(y:Rd):At:=if readE a y=0 then a.addR y else At.none
def knowE (a:At)(y:Gp):Int:=if checkA a≠0 then checkA a else if a.gps.length=4 then 9 else checkA (a.addG y)
def knowA (a:At)(y:Gp):At:=if knowE a y=0 then a.addG y else At.none
theorem AtOw.appR {h0 h h':H}{C R G R2:V}{a:At}{y:Rd}(o:AtOw h0 h C R G a)(o7:OwnC h0 h' R2 3 (a.rds.map encR++[encR y]))(b7:∀b,blkOf R2 b→blkOf R b∨h.next≤b)(k7:Keeps (blkOf R) h h'):AtOw h0 h' C R2 G (a.addR y):=by
 refine⟨o.c.keep k7 o7.1 fun b hb hR=>o.cr b hb hR,?_,o.g.keep k7 o7.1 fun b hb hR=>o.rg b hR hb,fun b hb hb'=>?_,o.cg,fun b hb hb'=>?_⟩
 ·have:(a.addR y).rds.map encR=a.rds.map encR++[encR y]:=by simp[At.addR]
  rw[this];exact o7
 ·rcases b7 b hb' with q|q
  ·exact o.cr b hb q
  ·have:=(o.c.blk hb).2.1;omega
 ·rcases b7 b hb with q|q
  ·exact o.rg b q hb'
  ·have:=(o.g.blk hb').2.1;omega
theorem AtOw.appG {h0 h h':H}{C R G G2:V}{a:At}{y:Gp}(o:AtOw h0 h C R G a)(o7:OwnC h0 h' G2 4 (a.gps.map encG++[encG y]))(b7:∀b,blkOf G2 b→blkOf G b∨h.next≤b)(k7:Keeps (blkOf G) h h'):AtOw h0 h' C R G2 (a.addG y):=by
 refine⟨o.c.keep k7 o7.1 fun b hb hR=>o.cg b hb hR,o.r.keep k7 o7.1 fun b hb hR=>o.rg b hb hR,?_,o.cr,fun b hb hb'=>?_,fun b hb hb'=>?_⟩
 ·have:(a.addG y).gps.map encG=a.gps.map encG++[encG y]:=by simp[At.addG]
  rw[this];exact o7
 ·rcases b7 b hb' with q|q
  ·exact o.cg b hb q
  ·have:=(o.c.blk hb).2.1;omega
 ·rcases b7 b hb' with q|q
  ·exact o.rg b hb q
  ·have:=(o.r.blk hb).2.1;omega
set_option maxHeartbeats 2000000 in
theorem Read_ev {h:H}(hw:h.wf){a:At}{C R G:V}(x:AtAt h C R G a)(l:SmallA a)(y:Rd)(Q:V→H→Prop)(q:∀C' R' G' h',AtOw h h' C' R' G' (readA a y)→Q (.tup [.agg (atV (readA a y) C' R' G'),.int .i64 (readE a y)]) h'):
  Ev fnG fastA (.fn 55 [] []) [.agg (atV a C R G),.agg (encR y)] h Q:=by
 have oC:=x.c.one;have oR:=x.r.one;have oG:=x.g.one
 have hlR:=x.r.lenE
 refine Ev_body (fd:=c55) rfl rfl rfl ?_
 simp -implicitDefEqProofs(maxSteps:=999999)(disch:=first|with_reducible rfl|omega|(simp only[nA,nS,nD]<;>omega)|fail)only[c55,go_sem,encR]
 obtain⟨z,hz⟩:∃z,((h.add (.cells .rw (atV a C R G))).add (.cells .rw [.int .i64 y.ck,.int .i64 y.ev,.int .i64 y.sh])).add (.cells .rw [.int .i64 0,.int .i64 0,.nils,.nils,.nils])=z:=⟨_,rfl⟩
 rw[hz]
 have sz:h.Sub z:=by rw[←hz];exact(by repeat(first|assumption|exact H.Sub.refl (by assumption)|refine H.Sub.add ?_ _|refine H.Sub.set ?_ (by first|omega|(simp only[H.next_add,H.next_set,H.next_del]<;>omega)) (by first|omega|(simp only[H.next_add,H.next_set,H.next_del]<;>omega)) (by assumption) _))
 have nz:z.next=h.next+3:=by rw[←hz];simp only[H.next_add]
 have ga:z.get h.next=some (.cells .rw (atV a C R G)):=by rw[←hz];simp -implicitDefEqProofs(maxSteps:=999999)(disch:=first|with_reducible rfl|omega|(simp only[nA,nS,nD]<;>omega)|fail)only[go_sem]
 have gy:z.get (h.next+1)=some (.cells .rw [.int .i64 y.ck,.int .i64 y.ev,.int .i64 y.sh]):=by rw[←hz];simp -implicitDefEqProofs(maxSteps:=999999)(disch:=first|with_reducible rfl|omega|(simp only[nA,nS,nD]<;>omega)|fail)only[go_sem]
 have gb:z.get (h.next+2)=some (.cells .rw [.int .i64 0,.int .i64 0,.nils,.nils,.nils]):=by rw[←hz];simp -implicitDefEqProofs(maxSteps:=999999)(disch:=first|with_reducible rfl|omega|(simp only[nA,nS,nD]<;>omega)|fail)only[go_sem]
 clear hz
 rw[show h.next+1+1=h.next+2 from rfl]
 have bad:∀z':H,h.Sub z'→h.next+2<z'.next→∀e,readE a y=e→e≠0→Q (.tup [.agg [.int .i64 0,.int .i64 0,.nils,.nils,.nils],.int .i64 e]) (z'.set (h.next+2) (.cells .rw [.int .i64 0,.int .i64 0,.nils,.nils,.nils])):=fun z' s l e he hn=>by
  have hA:readA a y=At.none:=if_neg (by rw[he];exact hn)
  have:=q .nils .nils .nils _ (by rw[hA];exact AtOw.none (s.set (by omega) l hw (.cells .rw [.int .i64 0,.int .i64 0,.nils,.nils,.nils])))
  rwa[hA,he] at this
 refine check_ev sz.wf ⟨C,R,G,rfl,x.mono sz⟩ _ fun z3 s3=>?_
 have s03:=sz.trans s3
 have l3:=s3.next
 by_cases he:checkA a=0
 case neg=>
  simp -implicitDefEqProofs(maxSteps:=999999)(disch:=first|with_reducible rfl|omega|(simp only[nA,nS,nD]<;>omega)|fail)only[go_sem,(decide_eq_true he:decide (checkA a≠0)=true),s3.get gb]
  exact bad _ s03 (by omega) _ (if_pos he) he
 have d0:decide ((0:Int)≠0)=false:=rfl
 rw[he]
 by_cases h8:a.rds.length=8
 ·have h8':(a.rds.length:Int)=8:=by omega
  simp -implicitDefEqProofs(maxSteps:=999999)(disch:=first|with_reducible rfl|omega|(simp only[nA,nS,nD]<;>omega)|fail)only[go_sem,d0,cells_of (s3.get ga),hlR,h8',s3.get gb]
  exact bad _ s03 (by omega) _ (by unfold readE;rw[if_neg (by rw[he];simp),if_pos h8]) (by decide)
 have h8':¬(a.rds.length:Int)=8:=by omega
 have eE:readE a y=checkA (a.addR y):=by unfold readE;rw[if_neg (by rw[he];simp),if_neg h8]
 simp -implicitDefEqProofs(maxSteps:=999999)(disch:=first|with_reducible rfl|omega|(simp only[nA,nS,nD]<;>omega)|fail)only[go_sem,d0,cells_of (s3.get ga),hlR,h8']
 refine copied_ev s03.wf (x.mono s03) l _ fun C1 R1 G1 z4 ow=>?_
 have s4:=ow.sub
 have l4:=s4.next
 have o1C:=ow.c.one;have o1R:=ow.r.one;have o1G:=ow.g.one
 have g14:=(s3.trans s4).get gy
 simp -implicitDefEqProofs(maxSteps:=999999)(disch:=first|with_reducible rfl|omega|(simp only[nA,nS,nD]<;>omega)|fail)only[go_sem,o1C,o1R,o1G,cells_of g14]
 obtain⟨z5,hz5⟩:∃z5,z4.add (.cells .rw (atV a C1 R1 G1))=z5:=⟨_,rfl⟩
 have s45:z4.Sub z5:=by rw[←hz5];exact(H.Sub.refl s4.wf).add _
 have g5:z5.get z4.next=some (.cells .rw (atV a C1 R1 G1)):=by rw[←hz5];exact get_add_new rfl
 have n5:z5.next=z4.next+1:=by rw[←hz5];exact H.next_add _ _
 have ow5:=ow.mono s45
 have s6:=s45.trans ((H.Sub.refl s45.wf).add (.cells .rw [.int .i64 y.ck,.int .i64 y.ev,.int .i64 y.sh]))
 have ow6:=ow5.mono ((H.Sub.refl s45.wf).add (.cells .rw [.int .i64 y.ck,.int .i64 y.ev,.int .i64 y.sh]))
 have g6:=((H.Sub.refl s45.wf).add (.cells .rw [.int .i64 y.ck,.int .i64 y.ev,.int .i64 y.sh])).get g5
 have n6:=H.next_add z5 (.cells .rw [.int .i64 y.ck,.int .i64 y.ev,.int .i64 y.sh])
 rw[hz5]
 have ll:=l.r
 have r8:a.rds.length≤8:=(checkA_iff.1 he).lens.2.1
 refine ow6.r.app1 (by_:=24) (r:=encR y) s03.wf rfl (by omega) (SlAt.new _ (by rw[n5]) rfl rfl (by simp[encR]) (by simp)) rfl (by rw[List.length_map];omega) (by rw[List.length_map];omega) fun R2 z7 o7 b7 k7=>?_
 have ow7:=ow6.appR o7 b7 k7
 have nR:∀b,blkOf R1 b→b<z4.next:=fun b hb=>(ow.r.blk hb).2.1
 have g7:=k7.2 _ _ g6 fun hb=>by have:=nR _ hb;omega
 have l7:=k7.1
 have o1R2:=ow7.r.one
 have s07:=ow7.sub
 have n2R:∀b,atBlk C1 R2 G1 b→b≠z4.next:=fun b hb=>by
  rcases hb with hb|hb|hb
  ·have:=(ow.c.blk hb).2.1;omega
  ·rcases b7 b hb with q|q
   ·have:=nR _ q;omega
   ·omega
  ·have:=(ow.g.blk hb).2.1;omega
 have s8:z3.Sub (z7.set z4.next (.cells .rw (atV a C1 R2 G1))):=s07.set (by omega) (by omega) s03.wf _
 have ow8:=ow7.keep (Keeps.set z7 z4.next (.cells .rw (atV a C1 R2 G1))) s8 fun b hb=>n2R b hb
 simp -implicitDefEqProofs(maxSteps:=999999)(disch:=first|with_reducible rfl|omega|(simp only[nA,nS,nD]<;>omega)|fail)only[go_sem,g7,o1R2,cells_one o1R2]
 obtain⟨z8,hz8⟩:∃z8,z7.set z4.next (.cells .rw (atV a C1 R2 G1))=z8:=⟨_,rfl⟩
 rw[hz8] at s8 ow8
 try rw[hz8]
 have l8:=s8.next
 have sA:SmallA (a.addR y):=⟨l.c,by have:=r8;simp[At.addR];omega,l.g⟩
 refine checked_ev s8.wf (ow8.at_ sA) _ (fun z9 s9 hn=>?_) fun z9 s9 h0=>?_
 ·have s89:=s8.trans s9
  have l9:=s89.next
  simp -implicitDefEqProofs(maxSteps:=999999)(disch:=first|with_reducible rfl|omega|(simp only[nA,nS,nD]<;>omega)|fail)only[go_sem,s89.get (s3.get gb)]
  exact bad _ (s03.trans s89) (by omega) _ eE hn
 ·have s89:=s8.trans s9
  have l9:=s89.next
  have hA:readA a y=a.addR y:=if_pos (by rw[eE,h0])
  have s10:h.Sub (z9.set (h.next+2) (.cells .rw (atV (a.addR y) C1 R2 G1))):=(s03.trans s89).set (by omega) (by omega) hw _
  have:=q C1 R2 G1 _ (by rw[hA];exact((ow8.mono s9).base s03).keep (Keeps.set z9 (h.next+2) (.cells .rw (atV (a.addR y) C1 R2 G1))) s10 fun b hb=>by have:=((ow8.mono s9).blk hb).1;omega)
  rw[hA,eE,h0] at this
  simp -implicitDefEqProofs(maxSteps:=999999)(disch:=first|with_reducible rfl|omega|(simp only[nA,nS,nD]<;>omega)|fail)only[go_sem,s89.get (s3.get gb),o1C,o1R2,o1G]
  exact this
set_option maxHeartbeats 2000000 in
theorem Know_ev {h:H}(hw:h.wf){a:At}{C R G:V}(x:AtAt h C R G a)(l:SmallA a)(y:Gp)(Q:V→H→Prop)(q:∀C' R' G' h',AtOw h h' C' R' G' (knowA a y)→Q (.tup [.agg (atV (knowA a y) C' R' G'),.int .i64 (knowE a y)]) h'):
  Ev fnG fastA (.fn 56 [] []) [.agg (atV a C R G),.agg (encG y)] h Q:=by
 have oC:=x.c.one;have oR:=x.r.one;have oG:=x.g.one
 have hlR:=x.g.lenE
 refine Ev_body (fd:=c56) rfl rfl rfl ?_
 simp -implicitDefEqProofs(maxSteps:=999999)(disch:=first|with_reducible rfl|omega|(simp only[nA,nS,nD]<;>omega)|fail)only[c56,go_sem,encG]
 obtain⟨z,hz⟩:∃z,((h.add (.cells .rw (atV a C R G))).add (.cells .rw [.int .i64 y.fr,.int .i64 y.to,.int .i64 y.lo,.int .i64 y.hi])).add (.cells .rw [.int .i64 0,.int .i64 0,.nils,.nils,.nils])=z:=⟨_,rfl⟩
 rw[hz]
 have sz:h.Sub z:=by rw[←hz];exact(by repeat(first|assumption|exact H.Sub.refl (by assumption)|refine H.Sub.add ?_ _|refine H.Sub.set ?_ (by first|omega|(simp only[H.next_add,H.next_set,H.next_del]<;>omega)) (by first|omega|(simp only[H.next_add,H.next_set,H.next_del]<;>omega)) (by assumption) _))
 have nz:z.next=h.next+3:=by rw[←hz];simp only[H.next_add]
 have ga:z.get h.next=some (.cells .rw (atV a C R G)):=by rw[←hz];simp -implicitDefEqProofs(maxSteps:=999999)(disch:=first|with_reducible rfl|omega|(simp only[nA,nS,nD]<;>omega)|fail)only[go_sem]
 have gy:z.get (h.next+1)=some (.cells .rw [.int .i64 y.fr,.int .i64 y.to,.int .i64 y.lo,.int .i64 y.hi]):=by rw[←hz];simp -implicitDefEqProofs(maxSteps:=999999)(disch:=first|with_reducible rfl|omega|(simp only[nA,nS,nD]<;>omega)|fail)only[go_sem]
 have gb:z.get (h.next+2)=some (.cells .rw [.int .i64 0,.int .i64 0,.nils,.nils,.nils]):=by rw[←hz];simp -implicitDefEqProofs(maxSteps:=999999)(disch:=first|with_reducible rfl|omega|(simp only[nA,nS,nD]<;>omega)|fail)only[go_sem]
 clear hz
 rw[show h.next+1+1=h.next+2 from rfl]
 have bad:∀z':H,h.Sub z'→h.next+2<z'.next→∀e,knowE a y=e→e≠0→Q (.tup [.agg [.int .i64 0,.int .i64 0,.nils,.nils,.nils],.int .i64 e]) (z'.set (h.next+2) (.cells .rw [.int .i64 0,.int .i64 0,.nils,.nils,.nils])):=fun z' s l e he hn=>by
  have hA:knowA a y=At.none:=if_neg (by rw[he];exact hn)
  have:=q .nils .nils .nils _ (by rw[hA];exact AtOw.none (s.set (by omega) l hw (.cells .rw [.int .i64 0,.int .i64 0,.nils,.nils,.nils])))
  rwa[hA,he] at this
 refine check_ev sz.wf ⟨C,R,G,rfl,x.mono sz⟩ _ fun z3 s3=>?_
 have s03:=sz.trans s3
 have l3:=s3.next
 by_cases he:checkA a=0
 case neg=>
  simp -implicitDefEqProofs(maxSteps:=999999)(disch:=first|with_reducible rfl|omega|(simp only[nA,nS,nD]<;>omega)|fail)only[go_sem,(decide_eq_true he:decide (checkA a≠0)=true),s3.get gb]
  exact bad _ s03 (by omega) _ (if_pos he) he
 have d0:decide ((0:Int)≠0)=false:=rfl
 rw[he]
 by_cases h8:a.gps.length=4
 ·have h8':(a.gps.length:Int)=4:=by omega
  simp -implicitDefEqProofs(maxSteps:=999999)(disch:=first|with_reducible rfl|omega|(simp only[nA,nS,nD]<;>omega)|fail)only[go_sem,d0,cells_of (s3.get ga),hlR,h8',s3.get gb]
  exact bad _ s03 (by omega) _ (by unfold knowE;rw[if_neg (by rw[he];simp),if_pos h8]) (by decide)
 have h8':¬(a.gps.length:Int)=4:=by omega
 have eE:knowE a y=checkA (a.addG y):=by unfold knowE;rw[if_neg (by rw[he];simp),if_neg h8]
 simp -implicitDefEqProofs(maxSteps:=999999)(disch:=first|with_reducible rfl|omega|(simp only[nA,nS,nD]<;>omega)|fail)only[go_sem,d0,cells_of (s3.get ga),hlR,h8']
 refine copied_ev s03.wf (x.mono s03) l _ fun C1 R1 G1 z4 ow=>?_
 have s4:=ow.sub
 have l4:=s4.next
 have o1C:=ow.c.one;have o1R:=ow.r.one;have o1G:=ow.g.one
 have g14:=(s3.trans s4).get gy
 simp -implicitDefEqProofs(maxSteps:=999999)(disch:=first|with_reducible rfl|omega|(simp only[nA,nS,nD]<;>omega)|fail)only[go_sem,o1C,o1R,o1G,cells_of g14]
 obtain⟨z5,hz5⟩:∃z5,z4.add (.cells .rw (atV a C1 R1 G1))=z5:=⟨_,rfl⟩
 have s45:z4.Sub z5:=by rw[←hz5];exact(H.Sub.refl s4.wf).add _
 have g5:z5.get z4.next=some (.cells .rw (atV a C1 R1 G1)):=by rw[←hz5];exact get_add_new rfl
 have n5:z5.next=z4.next+1:=by rw[←hz5];exact H.next_add _ _
 have ow5:=ow.mono s45
 have s6:=s45.trans ((H.Sub.refl s45.wf).add (.cells .rw [.int .i64 y.fr,.int .i64 y.to,.int .i64 y.lo,.int .i64 y.hi]))
 have ow6:=ow5.mono ((H.Sub.refl s45.wf).add (.cells .rw [.int .i64 y.fr,.int .i64 y.to,.int .i64 y.lo,.int .i64 y.hi]))
 have g6:=((H.Sub.refl s45.wf).add (.cells .rw [.int .i64 y.fr,.int .i64 y.to,.int .i64 y.lo,.int .i64 y.hi])).get g5
 have n6:=H.next_add z5 (.cells .rw [.int .i64 y.fr,.int .i64 y.to,.int .i64 y.lo,.int .i64 y.hi])
 rw[hz5]
 have ll:=l.g
 have r8:a.gps.length≤4:=(checkA_iff.1 he).lens.2.2
 refine ow6.g.app1 (by_:=32) (r:=encG y) s03.wf rfl (by omega) (SlAt.new _ (by rw[n5]) rfl rfl (by simp[encG]) (by simp)) rfl (by rw[List.length_map];omega) (by rw[List.length_map];omega) fun G2 z7 o7 b7 k7=>?_
 have ow7:=ow6.appG o7 b7 k7
 have nR:∀b,blkOf G1 b→b<z4.next:=fun b hb=>(ow.g.blk hb).2.1
 have g7:=k7.2 _ _ g6 fun hb=>by have:=nR _ hb;omega
 have l7:=k7.1
 have o1G2:=ow7.g.one
 have s07:=ow7.sub
 have n2R:∀b,atBlk C1 R1 G2 b→b≠z4.next:=fun b hb=>by
  rcases hb with hb|hb|hb
  ·have:=(ow.c.blk hb).2.1;omega
  ·have:=(ow.r.blk hb).2.1;omega
  ·rcases b7 b hb with q|q
   ·have:=nR _ q;omega
   ·omega
 have s8:z3.Sub (z7.set z4.next (.cells .rw (atV a C1 R1 G2))):=s07.set (by omega) (by omega) s03.wf _
 have ow8:=ow7.keep (Keeps.set z7 z4.next (.cells .rw (atV a C1 R1 G2))) s8 fun b hb=>n2R b hb
 simp -implicitDefEqProofs(maxSteps:=999999)(disch:=first|with_reducible rfl|omega|(simp only[nA,nS,nD]<;>omega)|fail)only[go_sem,g7,o1G2,cells_one o1G2]
 obtain⟨z8,hz8⟩:∃z8,z7.set z4.next (.cells .rw (atV a C1 R1 G2))=z8:=⟨_,rfl⟩
 rw[hz8] at s8 ow8
 try rw[hz8]
 have l8:=s8.next
 have sA:SmallA (a.addG y):=⟨l.c,l.r,by have:=r8;simp[At.addG];omega⟩
 refine checked_ev s8.wf (ow8.at_ sA) _ (fun z9 s9 hn=>?_) fun z9 s9 h0=>?_
 ·have s89:=s8.trans s9
  have l9:=s89.next
  simp -implicitDefEqProofs(maxSteps:=999999)(disch:=first|with_reducible rfl|omega|(simp only[nA,nS,nD]<;>omega)|fail)only[go_sem,s89.get (s3.get gb)]
  exact bad _ (s03.trans s89) (by omega) _ eE hn
 ·have s89:=s8.trans s9
  have l9:=s89.next
  have hA:knowA a y=a.addG y:=if_pos (by rw[eE,h0])
  have s10:h.Sub (z9.set (h.next+2) (.cells .rw (atV (a.addG y) C1 R1 G2))):=(s03.trans s89).set (by omega) (by omega) hw _
  have:=q C1 R1 G2 _ (by rw[hA];exact((ow8.mono s9).base s03).keep (Keeps.set z9 (h.next+2) (.cells .rw (atV (a.addG y) C1 R1 G2))) s10 fun b hb=>by have:=((ow8.mono s9).blk hb).1;omega)
  rw[hA,eE,h0] at this
  simp -implicitDefEqProofs(maxSteps:=999999)(disch:=first|with_reducible rfl|omega|(simp only[nA,nS,nD]<;>omega)|fail)only[go_sem,s89.get (s3.get gb),o1C,o1R,o1G2]
  exact this
end Go.Ab.Tryz
namespace Go.Ab.Tryz
open Go.Proofs
def AC (z6 z:H)(b:Nat)(a:At):Prop:=∃C R G,z.get b=some (.cells .rw (atV a C R G))∧AtOw z6 z C R G a∧∀b',atBlk C R G b'→z6.next+2≤b'
theorem AC.mono {z6 z z':H}{b:Nat}{a:At}(k:AC z6 z b a)(s:z.Sub z'):AC z6 z' b a:=by
 obtain⟨C,R,G,h1,h2,h3⟩:=k
 exact⟨C,R,G,s.get h1,h2.mono s,h3⟩
theorem AC.keep {z6 z z':H}{b:Nat}{a:At}(k:AC z6 z b a){S:Nat→Prop}(kk:Keeps S z z')(s:z6.Sub z')(hS:∀b',S b'→b'≠b∧(∀C R G,z.get b=some (.cells .rw (atV a C R G))→¬atBlk C R G b')):AC z6 z' b a:=by
 obtain⟨C,R,G,h1,h2,h3⟩:=k
 exact⟨C,R,G,kk.2 _ _ h1 fun q=>(hS _ q).1 rfl,h2.keep kk s fun b' hb q=>(hS _ q).2 _ _ _ h1 hb,h3⟩
structure AI (h:H)(b7 b12:Nat)(tm:Go.Ab.T V):Prop where
 t3:(Opd.t 3).ev tm=.ptr h.next 0
 t4:(Opd.t 4).ev tm=.ptr (h.next+1) 0
 t5:(Opd.t 5).ev tm=.ptr (h.next+2) 0
 t7:(Opd.t 7).ev tm=.ptr b7 0
 t12:(Opd.t 12).ev tm=.ptr b12 0
 t13:(Opd.t 13).ev tm=.ptr (b12+1) 0
set_option maxHeartbeats 8000000 in
theorem ClockAttics_ev {h:H}(hw:h.wf){a:At}{C R G:V}(x:AtAt h C R G a)(y:Rd)(g:Gp):Ev fnG fastA (.fn 9 [] []) [.agg (atV a C R G),.agg (encR y),.agg (encG g)] h fun v _=>v=.bool true:=by
 refine Ev.gen fun Q q=>?_
 have oC:=x.c.one;have oR:=x.r.one;have oG:=x.g.one
 refine Ev_body (fd:=c9) rfl rfl rfl ?_
 simp -implicitDefEqProofs(maxSteps:=999999)(disch:=first|with_reducible rfl|omega|(simp only[nA,nS,nD]<;>omega)|fail)only[c9,go_sem,encR,encG]
 obtain⟨z,hz⟩:∃z,((h.add (.cells .rw (atV a C R G))).add (.cells .rw (encR y))).add (.cells .rw (encG g))=z:=⟨_,rfl⟩
 have sz:h.Sub z:=by rw[←hz];exact(by repeat(first|assumption|exact H.Sub.refl (by assumption)|refine H.Sub.add ?_ _|refine H.Sub.set ?_ (by first|omega|(simp only[H.next_add,H.next_set,H.next_del]<;>omega)) (by first|omega|(simp only[H.next_add,H.next_set,H.next_del]<;>omega)) (by assumption) _))
 have nz:z.next=h.next+3:=by rw[←hz];simp only[H.next_add]
 have ga:z.get h.next=some (.cells .rw (atV a C R G)):=by rw[←hz];simp -implicitDefEqProofs(maxSteps:=999999)(disch:=first|with_reducible rfl|omega|(simp only[nA,nS,nD]<;>omega)|fail)only[go_sem]
 have gr:z.get (h.next+1)=some (.cells .rw [.int .i64 y.ck,.int .i64 y.ev,.int .i64 y.sh]):=by rw[←hz];simp -implicitDefEqProofs(maxSteps:=999999)(disch:=first|with_reducible rfl|omega|(simp only[nA,nS,nD]<;>omega)|fail)only[go_sem,encR]
 have gg:z.get (h.next+2)=some (.cells .rw [.int .i64 g.fr,.int .i64 g.to,.int .i64 g.lo,.int .i64 g.hi]):=by rw[←hz];simp -implicitDefEqProofs(maxSteps:=999999)(disch:=first|with_reducible rfl|omega|(simp only[nA,nS,nD]<;>omega)|fail)only[go_sem,encG]
 simp only[encR,encG] at hz
 try rw[hz]
 rw[show h.next+1+1=h.next+2 from rfl]
 clear hz
 refine great_ev sz.wf (x.mono sz) _ fun z1 s1=>?_
 cases hg:greatA a with
 |true=>
  simp -implicitDefEqProofs(maxSteps:=999999)(disch:=first|with_reducible rfl|omega|(simp only[nA,nS,nD]<;>omega)|fail)only[go_sem,awake_eq]
  exact q _ _ rfl
 |false=>
 have hl:a.cks.length≤8∧a.rds.length≤12∧a.gps.length≤9:=by
  simp only[greatA,decide_eq_false_iff_not] at hg
  omega
 have sm:SmallA a:=⟨by omega,by omega,by omega⟩
 have s01:=sz.trans s1
 simp -implicitDefEqProofs(maxSteps:=999999)(disch:=first|with_reducible rfl|omega|(simp only[nA,nS,nD]<;>omega)|fail)only[go_sem,cells_of (s1.get ga)]
 refine own_ev s01.wf (x.mono s01) sm _ fun C1 R1 G1 z2 n2=>?_
 have ow2:=n2.ow
 have s2:=n2.s
 have s02:=s01.trans s2
 have s12:=s1.trans s2
 simp -implicitDefEqProofs(maxSteps:=999999)(disch:=first|with_reducible rfl|omega|(simp only[nA,nS,nD]<;>omega)|fail)only[go_sem,cells_of (s1.get ga),cells_of (s12.get ga)]
 refine theirs_ev s02.wf (x.mono s02) sm _ fun C2 R2 G2 z3 s3 x3=>?_
 have s03:=s02.trans s3
 have o1C:=ow2.c.one;have o1R:=ow2.r.one;have o1G:=ow2.g.one
 have o2C:=x3.c.one;have o2R:=x3.r.one;have o2G:=x3.g.one
 simp -implicitDefEqProofs(maxSteps:=999999)(disch:=first|with_reducible rfl|omega|(simp only[nA,nS,nD]<;>omega)|fail)only[go_sem,cells_of (s1.get ga),cells_of (s12.get ga),cells_of ((s12.trans s3).get ga),o1C,o1R,o1G,o2C,o2R,o2G]
 obtain⟨z4,hz4⟩:∃z4,((((z3.add (.cells .rw [.int .i64 0,.int .i64 0,.nils,.nils,.nils])).add (.cells .rw [.int .i64 0,.int .i64 0,.nils,.nils,.nils])).set z3.next (.cells .rw (atV a C1 R1 G1))).set (z3.next+1) (.cells .rw (atV a C2 R2 G2)))=z4:=⟨_,rfl⟩
 have w3:=s03.wf
 have s4:z3.Sub z4:=by rw[←hz4];exact(by repeat(first|assumption|exact H.Sub.refl (by assumption)|refine H.Sub.add ?_ _|refine H.Sub.set ?_ (by first|omega|(simp only[H.next_add,H.next_set,H.next_del]<;>omega)) (by first|omega|(simp only[H.next_add,H.next_set,H.next_del]<;>omega)) (by assumption) _))
 have g7:z4.get z3.next=some (.cells .rw (atV a C1 R1 G1)):=by rw[←hz4];simp -implicitDefEqProofs(maxSteps:=999999)(disch:=first|with_reducible rfl|omega|(simp only[nA,nS,nD]<;>omega)|fail)only[go_sem]
 have n4:z4.next=z3.next+2:=by rw[←hz4];simp only[H.next_set,H.next_add]
 rw[hz4]
 clear hz4
 refine refCheck_ev s4.wf (x3.mono s4) sm _ fun z5 s5=>?_
 have s45:=s4.trans s5
 have s25:=s3.trans s45
 have x1:=ow2.at_ sm
 simp -implicitDefEqProofs(maxSteps:=999999)(disch:=first|with_reducible rfl|omega|(simp only[nA,nS,nD]<;>omega)|fail)only[go_sem,cells_of (s5.get g7)]
 refine check_ev s5.wf ⟨C1,R1,G1,rfl,x1.mono s25⟩ _ fun z6 s6=>?_
 have s46:=s45.trans s6
 have l6:=s46.next
 have s06:=s03.trans s46
 have g76:=(s5.trans s6).get g7
 have hw6:=s06.wf
 simp -implicitDefEqProofs(maxSteps:=999999)(disch:=first|with_reducible rfl|omega|(simp only[nA,nS,nD]<;>omega)|fail)only[go_sem,ne_eq,not_true_eq_false]
 obtain⟨z7,hz7⟩:∃z7,((z6.add (.cells .rw [.int .i64 0,.int .i64 0,.nils,.nils,.nils])).add (.cells .rw [.int .i64 0,.int .i64 0,.nils,.nils,.nils]))=z7:=⟨_,rfl⟩
 have s7:z6.Sub z7:=by rw[←hz7];exact(by repeat(first|assumption|exact H.Sub.refl (by assumption)|refine H.Sub.add ?_ _|refine H.Sub.set ?_ (by first|omega|(simp only[H.next_add,H.next_set,H.next_del]<;>omega)) (by first|omega|(simp only[H.next_add,H.next_set,H.next_del]<;>omega)) (by assumption) _))
 have n7:z7.next=z6.next+2:=by rw[←hz7];simp only[H.next_add]
 have a12:AC z6 z7 z6.next At.none:=⟨.nils,.nils,.nils,by rw[←hz7];simp -implicitDefEqProofs(maxSteps:=999999)(disch:=first|with_reducible rfl|omega|(simp only[nA,nS,nD]<;>omega)|fail)only[go_sem,At.none],AtOw.none s7,fun b hb=>by rcases hb with hb|hb|hb<;>exact(blkOf_nils hb).elim⟩
 have g13:z7.get (z6.next+1)=some (.cells .rw (atV At.none .nils .nils .nils)):=by rw[←hz7];simp -implicitDefEqProofs(maxSteps:=999999)(disch:=first|with_reducible rfl|omega|(simp only[nA,nS,nD]<;>omega)|fail)only[go_sem,At.none]
 have a13:AC z6 z7 (z6.next+1) At.none:=⟨.nils,.nils,.nils,g13,AtOw.none s7,fun b hb=>by rcases hb with hb|hb|hb<;>exact(blkOf_nils hb).elim⟩
 rw[hz7]
 clear hz7
 have sz7:=s12.trans (s3.trans (s46.trans s7))
 obtain⟨I,hI⟩:∃I:St→Prop,∀s,I s↔∃tm z,s=⟨tm,z,[]⟩∧AI h z3.next z6.next tm∧z6.Sub z∧(Opd.t 10).ev tm=.int .i64 (readE a y)∧(Opd.t 11).ev tm=.int .i64 (knowE a g)∧AC z6 z z6.next (readA a y)∧AC z6 z (z6.next+1) (knowA a g):=⟨_,fun s=>Iff.rfl⟩
 refine PB_cut (p:=checkA a=0) I ?_ ?_ ?_
 ·intro he
  have r:=checkA_iff.1 he
  obtain⟨J,hJ⟩:∃J:St→Prop,∀s,J s↔∃tm z,s=⟨tm,z,[]⟩∧AI h z3.next z6.next tm∧z6.Sub z∧(Opd.t 10).ev tm=.int .i64 (readE a y)∧AC z6 z z6.next (readA a y)∧z.get (z6.next+1)=some (.cells .rw (atV At.none .nils .nils .nils)):=⟨_,fun s=>Iff.rfl⟩
  refine W_split J ?_ ?_
  ·have hlR:=x.r.lenE
   have hl:=r.lens
   by_cases h8:(a.rds.length:Int)<8
   case neg=>
    have h8':a.rds.length=8:=by omega
    have e1:readE a y=9:=by unfold readE;rw[if_neg (by rw[he];simp),if_pos h8']
    have e2:readA a y=At.none:=if_neg (by rw[e1];decide)
    simp -implicitDefEqProofs(maxSteps:=999999)(disch:=first|with_reducible rfl|omega|(simp only[nA,nS,nD]<;>omega)|fail)only[go_sem,cells_of (sz7.get ga),hlR,h8]
    exact(hJ _).2 ⟨_,_,rfl,⟨(by simp[ev_c,ev_put]<;>rfl),(by simp[ev_c,ev_put]<;>rfl),(by simp[ev_c,ev_put]<;>rfl),(by simp[ev_c,ev_put]<;>rfl),(by simp[ev_c,ev_put]<;>rfl),(by simp[ev_c,ev_put]<;>rfl)⟩,s7,by rw[e1];exact(by simp[ev_c,ev_put]<;>rfl),by rw[e2];exact a12,g13⟩
   have h8':¬a.rds.length=8:=by omega
   have e1:readE a y=checkA (a.addR y):=by unfold readE;rw[if_neg (by rw[he];simp),if_neg h8']
   simp -implicitDefEqProofs(maxSteps:=999999)(disch:=first|with_reducible rfl|omega|(simp only[nA,nS,nD]<;>omega)|fail)only[go_sem,cells_of (sz7.get ga),hlR,h8]
   have s07:=s06.trans s7
   refine own_ev s07.wf (x.mono s07) sm _ fun C5 R5 G5 z8 n8=>?_
   have ow8:=n8.ow
   have s8:=n8.s
   have l8:=s8.next
   have s78:=s7.trans s8
   obtain⟨C6,R6,G6,g12,_,_⟩:=id a12
   have o5C:=ow8.c.one;have o5R:=ow8.r.one;have o5G:=ow8.g.one
   have b8:∀b,atBlk C5 R5 G5 b→z7.next≤b∧b<z8.next:=fun b hb=>ow8.blk hb
   simp -implicitDefEqProofs(maxSteps:=999999)(disch:=first|with_reducible rfl|omega|(simp only[nA,nS,nD]<;>omega)|fail)only[go_sem,s8.get g12,o5C,o5R,o5G,cells_of ((sz7.trans s8).get gr)]
   have s9:z6.Sub (z8.set z6.next (.cells .rw (atV a C5 R5 G5))):=s78.set (by omega) (by omega) hw6 _
   have k9:=Keeps.set z8 z6.next (.cells .rw (atV a C5 R5 G5))
   have ow9:=(ow8.base s7).keep k9 s9 fun b hb=>by have:=b8 b hb;omega
   have g9:(z8.set z6.next (.cells .rw (atV a C5 R5 G5))).get z6.next=some (.cells .rw (atV a C5 R5 G5)):=get_set_same rfl
   have n9:=H.next_set z8 z6.next (.cells .rw (atV a C5 R5 G5))
   have g13':=k9.2 _ _ (s8.get g13) (by omega)
   obtain⟨z9,hz9⟩:∃z9,z8.set z6.next (.cells .rw (atV a C5 R5 G5))=z9:=⟨_,rfl⟩
   rw[hz9] at s9 k9 ow9 g9 n9 g13'
   try rw[hz9]
   have lz:h.next+3≤z6.next:=by have:=(s12.trans (s3.trans s46)).next;omega
   have gr9:=k9.2 _ _ ((sz7.trans s8).get gr) (by omega)
   simp -implicitDefEqProofs(maxSteps:=999999)(disch:=first|with_reducible rfl|omega|(simp only[nA,nS,nD]<;>omega)|fail)only[go_sem,cells_of gr9]
   have sB:=(H.Sub.refl s9.wf).add (.cells .rw [.int .i64 y.ck,.int .i64 y.ev,.int .i64 y.sh])
   have gB:=sB.get g9
   have nB:=H.next_add z9 (.cells .rw [.int .i64 y.ck,.int .i64 y.ev,.int .i64 y.sh])
   have owB:=ow9.mono sB
   have lr:=sm.r
   refine owB.r.app1 (by_:=24) (r:=encR y) hw6 rfl (by omega) (SlAt.new _ (by first|rfl|(rw[n9];rfl)|omega) rfl rfl (by simp[encR]) (by simp)) rfl (by rw[List.length_map];omega) (by rw[List.length_map];omega) fun R7 zA oA bA kA=>?_
   have b9:∀b,blkOf R5 b→z6.next+2≤b:=fun b hb=>by have:=b8 b (.inr (.inl hb));omega
   have gA:=kA.2 _ _ gB fun hb=>by have:=b9 _ hb;omega
   have lA:=kA.1
   have owA:=owB.appR oA bA kA
   have o7R:=owA.r.one
   have sA:=owA.sub
   have bA':∀b,atBlk C5 R7 G5 b→z6.next+2≤b:=fun b hb=>by
    rcases hb with hb|hb|hb
    ·have:=b8 b (.inl hb);omega
    ·rcases bA b hb with q|q
     ·exact b9 b q
     ·omega
    ·have:=b8 b (.inr (.inr hb));omega
   have g13A:=kA.2 _ _ (sB.get g13') fun hb=>by have:=b9 _ hb;omega
   have s10:z6.Sub (zA.set z6.next (.cells .rw (atV a C5 R7 G5))):=sA.set (by omega) (by omega) hw6 _
   have k10:=Keeps.set zA z6.next (.cells .rw (atV a C5 R7 G5))
   have ow10:=owA.keep k10 s10 fun b hb=>by have:=bA' b hb;omega
   have g10:(zA.set z6.next (.cells .rw (atV a C5 R7 G5))).get z6.next=some (.cells .rw (atV (a.addR y) C5 R7 G5)):=get_set_same rfl
   have g1310:=k10.2 _ _ g13A (by omega)
   have n10:=H.next_set zA z6.next (.cells .rw (atV a C5 R7 G5))
   simp -implicitDefEqProofs(maxSteps:=999999)(disch:=first|with_reducible rfl|omega|(simp only[nA,nS,nD]<;>omega)|fail)only[go_sem,gA,o7R,cells_one o7R]
   obtain⟨zB,hzB⟩:∃zB,zA.set z6.next (.cells .rw (atV a C5 R7 G5))=zB:=⟨_,rfl⟩
   rw[hzB] at s10 k10 ow10 g10 g1310 n10
   try rw[hzB]
   have smA:SmallA (a.addR y):=⟨sm.c,by simp[At.addR];omega,sm.g⟩
   have x10:=ow10.at_ smA
   refine theirs_ev s10.wf x10 smA _ fun C8 R8 G8 zC sC xC=>?_
   simp -implicitDefEqProofs(maxSteps:=999999)(disch:=first|with_reducible rfl|omega|(simp only[nA,nS,nD]<;>omega)|fail)only[go_sem]
   refine refCheck_ev sC.wf xC smA _ fun zD sD=>?_
   have sBD:=sC.trans sD
   have lD:=sBD.next
   by_cases hu:checkA (a.addR y)=0
   ·have e2:readA a y=a.addR y:=if_pos (by rw[e1,hu])
    simp -implicitDefEqProofs(maxSteps:=999999)(disch:=first|with_reducible rfl|omega|(simp only[nA,nS,nD]<;>omega)|fail)only[go_sem,hu,ne_eq,not_true_eq_false]
    exact(hJ _).2 ⟨_,_,rfl,⟨(by simp[ev_c,ev_put]<;>rfl),(by simp[ev_c,ev_put]<;>rfl),(by simp[ev_c,ev_put]<;>rfl),(by simp[ev_c,ev_put]<;>rfl),(by simp[ev_c,ev_put]<;>rfl),(by simp[ev_c,ev_put]<;>rfl)⟩,s10.trans sBD,by rw[e1,hu];exact(by simp[ev_c,ev_put]<;>rfl),by rw[e2];exact⟨C5,R7,G5,sBD.get g10,ow10.mono sBD,bA'⟩,sBD.get g1310⟩
   ·have e2:readA a y=At.none:=if_neg (by rw[e1];exact hu)
    have s11:=(s10.trans sBD).set (b:=z6.next) (Nat.le_refl _) (by omega) hw6 (.cells .rw (atV At.none .nils .nils .nils))
    simp -implicitDefEqProofs(maxSteps:=999999)(disch:=first|with_reducible rfl|omega|(simp only[nA,nS,nD]<;>omega)|fail)only[go_sem,hu,ne_eq,not_false_eq_true,sBD.get g10]
    exact(hJ _).2 ⟨_,_,rfl,⟨(by simp[ev_c,ev_put]<;>rfl),(by simp[ev_c,ev_put]<;>rfl),(by simp[ev_c,ev_put]<;>rfl),(by simp[ev_c,ev_put]<;>rfl),(by simp[ev_c,ev_put]<;>rfl),(by simp[ev_c,ev_put]<;>rfl)⟩,s11,by rw[e1];exact(by simp[ev_c,ev_put]<;>rfl),by rw[e2];exact⟨.nils,.nils,.nils,get_set_same rfl,AtOw.none s11,fun b hb=>by rcases hb with hb|hb|hb<;>exact(blkOf_nils hb).elim⟩,by rw[get_set_other (by omega)];exact sBD.get g1310⟩
  ·intro s hs
   obtain⟨tm,zJ,rfl,⟨t3,t4,t5,t7,t12,t13⟩,sJ,t10,k12,g13⟩:=(hJ s).1 hs
   have hlG:=x.g.lenE
   have hl:=r.lens
   have lz:h.next+3≤z6.next:=by have:=(s12.trans (s3.trans s46)).next;omega
   have szJ:=s12.trans (s3.trans (s46.trans sJ))
   have e0:knowE a g=if a.gps.length=4 then 9 else checkA (a.addG g):=by unfold knowE;rw[if_neg (by rw[he];simp)]
   obtain⟨C9,R9,G9,q1,q2,q3⟩:=k12
   have q4:∀b,atBlk C9 R9 G9 b→b<zJ.next:=fun b hb=>(q2.blk hb).2
   have lJ:=zJ.next
   have l13:=sJ.wf _ _ g13
   have hwJ:=sJ.wf
   have keep12:∀z':H,z6.Sub z'→Keeps (fun b=>b=z6.next+1∨zJ.next≤b) zJ z'→AC z6 z' z6.next (readA a y):=fun z' s k=>⟨C9,R9,G9,k.2 _ _ q1 (by omega),q2.keep k s fun b hb q=>by have:=q3 b hb;have:=q4 b hb;omega,q3⟩
   by_cases h8:(a.gps.length:Int)<4
   case neg=>
    have h8':a.gps.length=4:=by omega
    have e1:knowE a g=9:=by rw[e0,if_pos h8']
    have e2:knowA a g=At.none:=if_neg (by rw[e1];decide)
    simp -implicitDefEqProofs(maxSteps:=999999)(disch:=first|with_reducible rfl|omega|(simp only[nA,nS,nD]<;>omega)|fail)only[go_sem,t3,t4,t5,t7,t12,t13,t10,cells_of (szJ.get ga),hlG,h8]
    exact⟨rfl,(hI _).2 ⟨_,_,rfl,⟨(by simp[ev_c,ev_put,t3]<;>rfl),(by simp[ev_c,ev_put,t4]<;>rfl),(by simp[ev_c,ev_put,t5]<;>rfl),(by simp[ev_c,ev_put,t7]<;>rfl),(by simp[ev_c,ev_put,t12]<;>rfl),(by simp[ev_c,ev_put,t13]<;>rfl)⟩,sJ,(by simp[ev_c,ev_put,t10]<;>rfl),by rw[e1];exact(by simp[ev_c,ev_put]<;>rfl),⟨C9,R9,G9,q1,q2,q3⟩,by rw[e2];exact⟨.nils,.nils,.nils,g13,AtOw.none sJ,fun b hb=>by rcases hb with hb|hb|hb<;>exact(blkOf_nils hb).elim⟩⟩⟩
   have h8':¬a.gps.length=4:=by omega
   have e1:knowE a g=checkA (a.addG g):=by rw[e0,if_neg h8']
   simp -implicitDefEqProofs(maxSteps:=999999)(disch:=first|with_reducible rfl|omega|(simp only[nA,nS,nD]<;>omega)|fail)only[go_sem,t3,t4,t5,t7,t12,t13,t10,cells_of (szJ.get ga),hlG,h8]
   have s0J:=s06.trans sJ
   refine own_ev s0J.wf (x.mono s0J) sm _ fun C5 R5 G5 z8 n8=>?_
   have ow8:=n8.ow
   have s8:=n8.s
   have l8:=s8.next
   have s78:=sJ.trans s8
   have o5C:=ow8.c.one;have o5R:=ow8.r.one;have o5G:=ow8.g.one
   have b8:∀b,atBlk C5 R5 G5 b→zJ.next≤b∧b<z8.next:=fun b hb=>ow8.blk hb
   have g13':=s8.get g13
   simp only[At.none] at g13'
   have s9:z6.Sub (z8.set (z6.next+1) (.cells .rw (atV a C5 R5 G5))):=s78.set (by omega) (by omega) hw6 _
   have k9:=Keeps.set z8 (z6.next+1) (.cells .rw (atV a C5 R5 G5))
   have ow9:=(ow8.base sJ).keep k9 s9 fun b hb=>by have:=b8 b hb;omega
   have g9:(z8.set (z6.next+1) (.cells .rw (atV a C5 R5 G5))).get (z6.next+1)=some (.cells .rw (atV a C5 R5 G5)):=get_set_same rfl
   have n9:=H.next_set z8 (z6.next+1) (.cells .rw (atV a C5 R5 G5))
   have kJ9:Keeps (fun b=>b=z6.next+1∨zJ.next≤b) zJ (z8.set (z6.next+1) (.cells .rw (atV a C5 R5 G5))):=((Keeps.of s8 (fun _=>False)).trans k9).mono fun c hc=>by rcases hc with hc|hc;exact hc.elim;exact .inl hc
   have gr9:=k9.2 _ _ ((szJ.trans s8).get gg) (by omega)
   simp -implicitDefEqProofs(maxSteps:=999999)(disch:=first|with_reducible rfl|omega|(simp only[nA,nS,nD]<;>omega)|fail)only[go_sem,t3,t4,t5,t7,t12,t13,t10,g13',o5C,o5R,o5G,cells_of ((szJ.trans s8).get gg)]
   obtain⟨z9,hz9⟩:∃z9,z8.set (z6.next+1) (.cells .rw (atV a C5 R5 G5))=z9:=⟨_,rfl⟩
   rw[hz9] at s9 k9 ow9 g9 n9 kJ9 gr9
   try rw[hz9]
   have sB:=(H.Sub.refl s9.wf).add (.cells .rw [.int .i64 g.fr,.int .i64 g.to,.int .i64 g.lo,.int .i64 g.hi])
   have gB:=sB.get g9
   have nB:=H.next_add z9 (.cells .rw [.int .i64 g.fr,.int .i64 g.to,.int .i64 g.lo,.int .i64 g.hi])
   have owB:=ow9.mono sB
   have lr:=sm.g
   refine owB.g.app1 (by_:=32) (r:=encG g) hw6 rfl (by omega) (SlAt.new _ (by first|rfl|(rw[n9];rfl)|omega) rfl rfl (by simp[encG]) (by simp)) rfl (by rw[List.length_map];omega) (by rw[List.length_map];omega) fun G7 zA oA bA kA=>?_
   have b9:∀b,blkOf G5 b→zJ.next≤b:=fun b hb=>(b8 b (.inr (.inr hb))).1
   have gA:=kA.2 _ _ gB fun hb=>by have:=b9 _ hb;omega
   have lA:=kA.1
   have owA:=owB.appG oA bA kA
   have o7G:=owA.g.one
   have sA:=owA.sub
   have bA':∀b,atBlk C5 R5 G7 b→zJ.next≤b:=fun b hb=>by
    rcases hb with hb|hb|hb
    ·have:=b8 b (.inl hb);omega
    ·have:=b8 b (.inr (.inl hb));omega
    ·rcases bA b hb with q|q
     ·exact b9 b q
     ·omega
   have kJA:Keeps (fun b=>b=z6.next+1∨zJ.next≤b) zJ zA:=((kJ9.trans (Keeps.of sB (fun _=>False))).trans kA).mono fun c hc=>by
    rcases hc with(hc|hc)|hc
    ·exact hc
    ·exact hc.elim
    ·exact .inr (b9 _ hc)
   have s10:z6.Sub (zA.set (z6.next+1) (.cells .rw (atV a C5 R5 G7))):=sA.set (by omega) (by omega) hw6 _
   have k10:=Keeps.set zA (z6.next+1) (.cells .rw (atV a C5 R5 G7))
   have ow10:=owA.keep k10 s10 fun b hb=>by have:=bA' b hb;omega
   have g10:(zA.set (z6.next+1) (.cells .rw (atV a C5 R5 G7))).get (z6.next+1)=some (.cells .rw (atV (a.addG g) C5 R5 G7)):=get_set_same rfl
   have kJ10:Keeps (fun b=>b=z6.next+1∨zJ.next≤b) zJ (zA.set (z6.next+1) (.cells .rw (atV a C5 R5 G7))):=(kJA.trans k10).mono fun c hc=>by rcases hc with hc|hc;exact hc;exact .inl hc
   have n10:=H.next_set zA (z6.next+1) (.cells .rw (atV a C5 R5 G7))
   simp -implicitDefEqProofs(maxSteps:=999999)(disch:=first|with_reducible rfl|omega|(simp only[nA,nS,nD]<;>omega)|fail)only[go_sem,t3,t4,t5,t7,t12,t13,t10,gA,o7G,cells_one o7G]
   obtain⟨zB,hzB⟩:∃zB,zA.set (z6.next+1) (.cells .rw (atV a C5 R5 G7))=zB:=⟨_,rfl⟩
   rw[hzB] at s10 k10 ow10 g10 n10 kJ10
   try rw[hzB]
   have smA:SmallA (a.addG g):=⟨sm.c,sm.r,by simp[At.addG];omega⟩
   have x10:=ow10.at_ smA
   refine theirs_ev s10.wf x10 smA _ fun C8 R8 G8 zC sC xC=>?_
   simp -implicitDefEqProofs(maxSteps:=999999)(disch:=first|with_reducible rfl|omega|(simp only[nA,nS,nD]<;>omega)|fail)only[go_sem]
   refine refCheck_ev sC.wf xC smA _ fun zD sD=>?_
   have sBD:=sC.trans sD
   have lD:=sBD.next
   have kJD:Keeps (fun b=>b=z6.next+1∨zJ.next≤b) zJ zD:=(kJ10.trans (Keeps.of sBD (fun _=>False))).mono fun c hc=>by rcases hc with hc|hc;exact hc;exact hc.elim
   by_cases hu:checkA (a.addG g)=0
   ·have e2:knowA a g=a.addG g:=if_pos (by rw[e1,hu])
    simp -implicitDefEqProofs(maxSteps:=999999)(disch:=first|with_reducible rfl|omega|(simp only[nA,nS,nD]<;>omega)|fail)only[go_sem,t3,t4,t5,t7,t12,t13,t10,hu,ne_eq,not_true_eq_false]
    exact⟨rfl,(hI _).2 ⟨_,_,rfl,⟨(by simp[ev_c,ev_put,t3]<;>rfl),(by simp[ev_c,ev_put,t4]<;>rfl),(by simp[ev_c,ev_put,t5]<;>rfl),(by simp[ev_c,ev_put,t7]<;>rfl),(by simp[ev_c,ev_put,t12]<;>rfl),(by simp[ev_c,ev_put,t13]<;>rfl)⟩,s10.trans sBD,(by simp[ev_c,ev_put,t10]<;>rfl),by rw[e1,hu];exact(by simp[ev_c,ev_put]<;>rfl),keep12 _ (s10.trans sBD) kJD,by rw[e2];exact⟨C5,R5,G7,sBD.get g10,ow10.mono sBD,fun b hb=>by have:=bA' b hb;omega⟩⟩⟩
   ·have e2:knowA a g=At.none:=if_neg (by rw[e1];exact hu)
    have s11:=(s10.trans sBD).set (b:=z6.next+1) (by omega) (by omega) hw6 (.cells .rw (atV At.none .nils .nils .nils))
    have k11:=Keeps.set zD (z6.next+1) (.cells .rw (atV At.none .nils .nils .nils))
    have kJ11:Keeps (fun b=>b=z6.next+1∨zJ.next≤b) zJ (zD.set (z6.next+1) (.cells .rw (atV At.none .nils .nils .nils))):=(kJD.trans k11).mono fun c hc=>by rcases hc with hc|hc;exact hc;exact .inl hc
    simp -implicitDefEqProofs(maxSteps:=999999)(disch:=first|with_reducible rfl|omega|(simp only[nA,nS,nD]<;>omega)|fail)only[go_sem,t3,t4,t5,t7,t12,t13,t10,hu,ne_eq,not_false_eq_true,sBD.get g10]
    exact⟨rfl,(hI _).2 ⟨_,_,rfl,⟨(by simp[ev_c,ev_put,t3]<;>rfl),(by simp[ev_c,ev_put,t4]<;>rfl),(by simp[ev_c,ev_put,t5]<;>rfl),(by simp[ev_c,ev_put,t7]<;>rfl),(by simp[ev_c,ev_put,t12]<;>rfl),(by simp[ev_c,ev_put,t13]<;>rfl)⟩,s11,(by simp[ev_c,ev_put,t10]<;>rfl),by rw[e1];exact(by simp[ev_c,ev_put]<;>rfl),keep12 _ s11 kJ11,by rw[e2];exact⟨.nils,.nils,.nils,get_set_same rfl,AtOw.none s11,fun b hb=>by rcases hb with hb|hb|hb<;>exact(blkOf_nils hb).elim⟩⟩⟩
 ·intro he
  have e1:readE a y=checkA a:=if_pos he
  have e2:readA a y=At.none:=if_neg (by rw[e1];exact he)
  have e3:knowE a g=checkA a:=if_pos he
  have e4:knowA a g=At.none:=if_neg (by rw[e3];exact he)
  simp -implicitDefEqProofs(maxSteps:=999999)(disch:=first|with_reducible rfl|omega|(simp only[nA,nS,nD]<;>omega)|fail)only[go_sem]
  exact⟨rfl,(hI _).2 ⟨_,_,rfl,⟨(by simp[ev_c,ev_put]<;>rfl),(by simp[ev_c,ev_put]<;>rfl),(by simp[ev_c,ev_put]<;>rfl),(by simp[ev_c,ev_put]<;>rfl),(by simp[ev_c,ev_put]<;>rfl),(by simp[ev_c,ev_put]<;>rfl)⟩,s7,by rw[e1];exact(by simp[ev_c,ev_put]<;>rfl),by rw[e3];exact(by simp[ev_c,ev_put]<;>rfl),by rw[e2];exact a12,by rw[e4];exact a13⟩⟩
 ·intro s hs
  obtain⟨tm,z8,rfl,⟨t3,t4,t5,t7,t12,t13⟩,s8,t10,t11,k12,k13⟩:=(hI s).1 hs
  have hwz:=s8.wf
  have szz:=s12.trans (s3.trans (s46.trans s8))
  have g7z:=s8.get g76
  have x1z:=x1.mono (s25.trans (s6.trans s8))
  have grz:=szz.get gr
  have ggz:=szz.get gg
  have smR:SmallA (readA a y):=by
   unfold readA
   split
   ·exact⟨sm.c,by simp[At.addR];omega,sm.g⟩
   ·exact small_none
  have smK:SmallA (knowA a g):=by
   unfold knowA
   split
   ·exact⟨sm.c,sm.r,by simp[At.addG];omega⟩
   ·exact small_none
  simp -implicitDefEqProofs(maxSteps:=999999)(disch:=first|with_reducible rfl|omega|(simp only[nA,nS,nD]<;>omega)|fail)only[go_sem,t3,t4,t5,t7,t12,t13,t10,t11,cells_of g7z,cells_of grz]
  refine Read_ev (y:=y) hwz x1z sm _ fun C3 R3 G3 z9 ow9=>?_
  have s9:=ow9.sub
  have o3C:=ow9.c.one;have o3R:=ow9.r.one;have o3G:=ow9.g.one
  simp -implicitDefEqProofs(maxSteps:=999999)(disch:=first|with_reducible rfl|omega|(simp only[nA,nS,nD]<;>omega)|fail)only[go_sem,t3,t4,t5,t7,t12,t13,t10,t11,o3C,o3R,o3G,cells_of (s9.get g7z),cells_of (s9.get ggz)]
  obtain⟨pR,hpR⟩:∃pR,readA a y=pR:=⟨_,rfl⟩
  obtain⟨pK,hpK⟩:∃pK,knowA a g=pK:=⟨_,rfl⟩
  rw[hpR] at k12 smR ow9
  rw[hpK] at k13 smK
  rw[hpR]
  have sA:=(H.Sub.refl s9.wf).add (.cells .rw (atV pR C3 R3 G3))
  have gA:(z9.add (.cells .rw (atV pR C3 R3 G3))).get z9.next=some (.cells .rw (atV pR C3 R3 G3)):=get_add_new rfl
  have nA':=H.next_add z9 (.cells .rw (atV pR C3 R3 G3))
  obtain⟨zA,hzA⟩:∃zA,z9.add (.cells .rw (atV pR C3 R3 G3))=zA:=⟨_,rfl⟩
  rw[hzA] at sA gA nA'
  try rw[hzA]
  have s8A:=s9.trans sA
  simp -implicitDefEqProofs(maxSteps:=999999)(disch:=first|with_reducible rfl|omega|(simp only[nA,nS,nD]<;>omega)|fail)only[go_sem,t3,t4,t5,t7,t12,t13,t10,t11,cells_of (s8A.get g7z),cells_of (s8A.get ggz)]
  refine Know_ev (y:=g) s8A.wf (x1z.mono s8A) sm _ fun C4 R4 G4 zB owB=>?_
  rw[hpK] at owB⊢
  have sB:=owB.sub
  have o4C:=owB.c.one;have o4R:=owB.r.one;have o4G:=owB.g.one
  have lA:=sA.next
  have lB:=sB.next
  have s8B:=s8A.trans sB
  have l8B:=s8B.next
  obtain⟨C9,R9,G9,q1,q2,q3⟩:=k12
  obtain⟨C10,R10,G10,u1,u2,u3⟩:=k13
  have sC:=(H.Sub.refl s8B.wf).add (.cells .rw (atV pK C4 R4 G4))
  have gC:(zB.add (.cells .rw (atV pK C4 R4 G4))).get zB.next=some (.cells .rw (atV pK C4 R4 G4)):=get_add_new rfl
  have nC':=H.next_add zB (.cells .rw (atV pK C4 R4 G4))
  simp -implicitDefEqProofs(maxSteps:=999999)(disch:=first|with_reducible rfl|omega|(simp only[nA,nS,nD]<;>omega)|fail)only[go_sem,t3,t4,t5,t7,t12,t13,t10,t11,o4C,o4R,o4G,ne_eq,not_true_eq_false,cells_of (sB.get gA),cells_of (s8B.get q1)]
  obtain⟨zC,hzC⟩:∃zC,zB.add (.cells .rw (atV pK C4 R4 G4))=zC:=⟨_,rfl⟩
  rw[hzC] at sC gC nC'
  try rw[hzC]
  have s8C:=s8B.trans sC
  have gp:=(sB.trans sC).get gA
  simp -implicitDefEqProofs(maxSteps:=999999)(disch:=first|with_reducible rfl|omega|(simp only[nA,nS,nD]<;>omega)|fail)only[go_sem,t3,t4,t5,t7,t12,t13,t10,t11,cells_of (s8C.get q1)]
  refine same_ev s8C.wf ((ow9.at_ smR).mono (sA.trans (sB.trans sC))) ((q2.at_ smR).mono s8C) _ fun zD sD=>?_
  rw[sameB_iff.2 rfl]
  simp -implicitDefEqProofs(maxSteps:=999999)(disch:=first|with_reducible rfl|omega|(simp only[nA,nS,nD]<;>omega)|fail)only[go_sem,t3,t4,t5,t7,t12,t13,t10,t11,cells_of (sD.get gC),cells_of ((s8C.trans sD).get u1)]
  refine same_ev (s8C.trans sD).wf ((owB.at_ smK).mono (sC.trans sD)) ((u2.at_ smK).mono (s8C.trans sD)) _ fun zE sE=>?_
  rw[sameB_iff.2 rfl]
  have sDE:=sD.trans sE
  have s8E:=s8C.trans sDE
  have lE:=s8E.next
  have lDE:=sDE.next
  simp -implicitDefEqProofs(maxSteps:=999999)(disch:=first|with_reducible rfl|omega|(simp only[nA,nS,nD]<;>omega)|fail)only[go_sem,t3,t4,t5,t7,t12,t13,t10,t11,cells_of (sDE.get gp),cells_of (sDE.get gC),o3C,o3R,o3G,o4C,o4R,o4G]
  have sF:=(H.Sub.refl s8E.wf).add (.cells .rw (atV pR C3 R3 G3++atV pK C4 R4 G4))
  have gF:(zE.add (.cells .rw (atV pR C3 R3 G3++atV pK C4 R4 G4))).get zE.next=some (.cells .rw (atV pR C3 R3 G3++atV pK C4 R4 G4)):=get_add_new rfl
  have nF:=H.next_add zE (.cells .rw (atV pR C3 R3 G3++atV pK C4 R4 G4))
  obtain⟨zF,hzF⟩:∃zF,zE.add (.cells .rw [.int .i64 pR.mins,.int .i64 pR.evs,C3,R3,G3,.int .i64 pK.mins,.int .i64 pK.evs,C4,R4,G4])=zF:=⟨_,rfl⟩
  have gF':zF.get zE.next=some (.cells .rw [.int .i64 pR.mins,.int .i64 pR.evs,C3,R3,G3,.int .i64 pK.mins,.int .i64 pK.evs,C4,R4,G4]):=by rw[←hzF];exact gF
  have sF':zE.Sub zF:=by rw[←hzF];exact sF
  have nF':zF.next=zE.next+1:=by rw[←hzF];exact nF
  rw[hzF]
  clear gF sF nF hzF
  have s8F:=s8E.trans sF'
  have i0:q_iad 5 (.sl zE.next 0 2 (.fix 2)) (.int .i64 ((0:Nat):Int))=some (.ptr zE.next 0):=by rw[q_iad_sl (nat_cst 0) (by omega)]
  have i1:q_iad 5 (.sl zE.next 0 2 (.fix 2)) (.int .i64 ((1:Nat):Int))=some (.ptr zE.next 5):=by rw[q_iad_sl (nat_cst 1) (by omega)]
  have b3:∀b,atBlk C3 R3 G3 b→z8.next≤b∧b<z9.next:=fun b hb=>ow9.blk hb
  have b4:∀b,atBlk C4 R4 G4 b→zA.next≤b∧b<zB.next:=fun b hb=>owB.blk hb
  have lsC:=sC.next
  have l9:=s9.next
  have h02:((0:Nat):Int)<((2:Nat):Int):=by decide
  have h12:((1:Nat):Int)<((2:Nat):Int):=by decide
  have w01:wr .i64 (((0:Nat):Int)+1)=((1:Nat):Int):=by rw[wr_in (by omega) (by omega)];rfl
  have w12:wr .i64 (((1:Nat):Int)+1)=((2:Nat):Int):=by rw[wr_in (by omega) (by omega)];rfl
  have owR:=ow9.mono (sA.trans (sB.trans (sC.trans (sDE.trans sF'))))
  have owK:=(owB.base s8A).mono (sC.trans (sDE.trans sF'))
  refine W_count 2 (fun i s=>∃tm z',s=⟨tm,z',[]⟩∧z8.Sub z'∧zE.next<z'.next∧z'.get zE.next=some (.cells .rw [.int .i64 pR.mins,.int .i64 pR.evs,C3,R3,G3,.int .i64 pK.mins,.int .i64 pK.evs,C4,R4,G4])∧(i=0→AtOw z8 z' C3 R3 G3 pR)∧(i≤1→AtOw z8 z' C4 R4 G4 pK)∧
   (Opd.t 3).ev tm=.ptr h.next 0∧(Opd.t 7).ev tm=.ptr z3.next 0∧(Opd.t 107).ev tm=.sl zE.next 0 2 (.fix 2)∧(Opd.t 108).ev tm=.int .i64 ((2:Nat):Int)∧(Opd.t 109).ev tm=.int .i64 (i:Int)) ?_ ?_ (i:=0) (by omega)
   ⟨_,_,rfl,s8F,by omega,gF',fun _=>owR,fun _=>owK,(by simp[ev_c,ev_put,t3]<;>rfl),(by simp[ev_c,ev_put,t7]<;>rfl),(by simp[ev_c,ev_put]<;>rfl),(by simp[ev_c,ev_put]<;>rfl),(by simp[ev_c,ev_put]<;>rfl)⟩
  ·clear t3 t4 t5 t7 t12 t13 t10 t11
   rintro i s hi ⟨tm,z',rfl,sz',lz',gz',oR',oK',t3,t7,t107,t108,t109⟩
   rcases(by omega:i=0∨i=1) with rfl|rfl
   ·have oR'':=oR' rfl
    have oK'':=oK' (by omega)
    have s1':=(H.Sub.refl sz'.wf).add (.cells .rw [.int .i64 pR.mins,.int .i64 pR.evs,C3,R3,G3])
    have gN:=get_add_new (h:=z') (x:=.cells .rw [.int .i64 pR.mins,.int .i64 pR.evs,C3,R3,G3]) rfl
    have nN:=H.next_add z' (.cells .rw [.int .i64 pR.mins,.int .i64 pR.evs,C3,R3,G3])
    simp -implicitDefEqProofs(maxSteps:=999999)(disch:=first|with_reducible rfl|omega|(simp only[nA,nS,nD]<;>omega)|fail)only[go_sem,t3,t7,t107,t108,t109,h02,i0,cells_of gz',o3C,o3R,o3G]
    obtain⟨zN,hzN⟩:∃zN,z'.add (.cells .rw [.int .i64 pR.mins,.int .i64 pR.evs,C3,R3,G3])=zN:=⟨_,rfl⟩
    rw[hzN] at s1' gN nN
    try rw[hzN]
    have oRN:=oR''.mono s1'
    have oKN:=oK''.mono s1'
    refine OwnC.clr oRN.c hwz rfl rfl fun zP sP kP=>?_
    have lP:=kP.1
    have gNP:=kP.2 _ _ gN fun hb=>by have:=b3 _ (.inl hb);omega
    have gzP:=kP.2 _ _ (s1'.get gz') fun hb=>by have:=b3 _ (.inl hb);omega
    have oRP:=oRN.r.keep kP sP fun b hb hc=>oRN.cr b hc hb
    have oGP:=oRN.g.keep kP sP fun b hb hc=>oRN.cg b hc hb
    have oKP:=oKN.keep kP sP fun b hb hc=>by have:=b3 _ (.inl hc);have:=b4 _ hb;omega
    simp -implicitDefEqProofs(maxSteps:=999999)(disch:=first|with_reducible rfl|omega|(simp only[nA,nS,nD]<;>omega)|fail)only[go_sem,t3,t7,t107,t108,t109,cells_of gNP]
    refine OwnC.clr oRP hwz rfl rfl fun zQ sQ kQ=>?_
    have lQ:=kQ.1
    have gNQ:=kQ.2 _ _ gNP fun hb=>by have:=b3 _ (.inr (.inl hb));omega
    have gzQ:=kQ.2 _ _ gzP fun hb=>by have:=b3 _ (.inr (.inl hb));omega
    have oGQ:=oGP.keep kQ sQ fun b hb hc=>oRN.rg b hc hb
    have oKQ:=oKP.keep kQ sQ fun b hb hc=>by have:=b3 _ (.inr (.inl hc));have:=b4 _ hb;omega
    simp -implicitDefEqProofs(maxSteps:=999999)(disch:=first|with_reducible rfl|omega|(simp only[nA,nS,nD]<;>omega)|fail)only[go_sem,t3,t7,t107,t108,t109,cells_of gNQ]
    refine OwnC.clr oGQ hwz rfl rfl fun zS sS kS=>?_
    have lS:=kS.1
    have gzS:=kS.2 _ _ gzQ fun hb=>by have:=b3 _ (.inr (.inr hb));omega
    have oKS:=oKQ.keep kS sS fun b hb hc=>by have:=b3 _ (.inr (.inr hc));have:=b4 _ hb;omega
    simp -implicitDefEqProofs(maxSteps:=999999)(disch:=first|with_reducible rfl|omega|(simp only[nA,nS,nD]<;>omega)|fail)only[go_sem,t3,t7,t107,t108,t109,w01]
    exact⟨_,_,rfl,sS,by omega,gzS,fun hc=>(by exfalso;omega),fun _=>oKS,(by simp[ev_c,ev_put,t3]<;>rfl),(by simp[ev_c,ev_put,t7]<;>rfl),(by simp[ev_c,ev_put,t107]<;>rfl),(by simp[ev_c,ev_put,t108]<;>rfl),(by simp[ev_c,ev_put]<;>rfl)⟩
   ·have oK'':=oK' (by omega)
    have s1':=(H.Sub.refl sz'.wf).add (.cells .rw [.int .i64 pK.mins,.int .i64 pK.evs,C4,R4,G4])
    have gN:=get_add_new (h:=z') (x:=.cells .rw [.int .i64 pK.mins,.int .i64 pK.evs,C4,R4,G4]) rfl
    have nN:=H.next_add z' (.cells .rw [.int .i64 pK.mins,.int .i64 pK.evs,C4,R4,G4])
    simp -implicitDefEqProofs(maxSteps:=999999)(disch:=first|with_reducible rfl|omega|(simp only[nA,nS,nD]<;>omega)|fail)only[go_sem,t3,t7,t107,t108,t109,h12,i1,cells_of gz',o4C,o4R,o4G]
    obtain⟨zN,hzN⟩:∃zN,z'.add (.cells .rw [.int .i64 pK.mins,.int .i64 pK.evs,C4,R4,G4])=zN:=⟨_,rfl⟩
    rw[hzN] at s1' gN nN
    try rw[hzN]
    have oKN:=oK''.mono s1'
    refine OwnC.clr oKN.c hwz rfl rfl fun zP sP kP=>?_
    have lP:=kP.1
    have gNP:=kP.2 _ _ gN fun hb=>by have:=b4 _ (.inl hb);omega
    have gzP:=kP.2 _ _ (s1'.get gz') fun hb=>by have:=b4 _ (.inl hb);omega
    have oRP:=oKN.r.keep kP sP fun b hb hc=>oKN.cr b hc hb
    have oGP:=oKN.g.keep kP sP fun b hb hc=>oKN.cg b hc hb
    simp -implicitDefEqProofs(maxSteps:=999999)(disch:=first|with_reducible rfl|omega|(simp only[nA,nS,nD]<;>omega)|fail)only[go_sem,t3,t7,t107,t108,t109,cells_of gNP]
    refine OwnC.clr oRP hwz rfl rfl fun zQ sQ kQ=>?_
    have lQ:=kQ.1
    have gNQ:=kQ.2 _ _ gNP fun hb=>by have:=b4 _ (.inr (.inl hb));omega
    have gzQ:=kQ.2 _ _ gzP fun hb=>by have:=b4 _ (.inr (.inl hb));omega
    have oGQ:=oGP.keep kQ sQ fun b hb hc=>oKN.rg b hc hb
    simp -implicitDefEqProofs(maxSteps:=999999)(disch:=first|with_reducible rfl|omega|(simp only[nA,nS,nD]<;>omega)|fail)only[go_sem,t3,t7,t107,t108,t109,cells_of gNQ]
    refine OwnC.clr oGQ hwz rfl rfl fun zS sS kS=>?_
    have lS:=kS.1
    have gzS:=kS.2 _ _ gzQ fun hb=>by have:=b4 _ (.inr (.inr hb));omega
    simp -implicitDefEqProofs(maxSteps:=999999)(disch:=first|with_reducible rfl|omega|(simp only[nA,nS,nD]<;>omega)|fail)only[go_sem,t3,t7,t107,t108,t109,w12]
    exact⟨_,_,rfl,sS,by omega,gzS,fun hc=>(by exfalso;omega),fun hc=>(by exfalso;omega),(by simp[ev_c,ev_put,t3]<;>rfl),(by simp[ev_c,ev_put,t7]<;>rfl),(by simp[ev_c,ev_put,t107]<;>rfl),(by simp[ev_c,ev_put,t108]<;>rfl),(by simp[ev_c,ev_put]<;>rfl)⟩
  ·clear t3 t4 t5 t7 t12 t13 t10 t11
   rintro s ⟨tm,z',rfl,sz',lz',gz',oR',oK',t3,t7,t107,t108,t109⟩
   simp -implicitDefEqProofs(maxSteps:=999999)(disch:=first|with_reducible rfl|omega|(simp only[nA,nS,nD]<;>omega)|fail)only[go_sem,t3,t7,t107,t108,t109,Int.lt_irrefl,cells_of (sz'.get g7z),cells_of (sz'.get (szz.get ga))]
   refine same_ev sz'.wf (x1z.mono sz') (x.mono (s06.trans (s8.trans sz'))) _ fun zX sX=>?_
   rw[sameB_iff.2 rfl]
   simp -implicitDefEqProofs(maxSteps:=999999)(disch:=first|with_reducible rfl|omega|(simp only[nA,nS,nD]<;>omega)|fail)only[go_sem,awake_eq]
   exact q _ _ rfl
end Go.Ab.Tryz
