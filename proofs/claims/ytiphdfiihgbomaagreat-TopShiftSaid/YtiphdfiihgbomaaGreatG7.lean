/- TopShift, plain: an attic whose events are the ends of a run. TopShift: orders of looms; a mill is right. TopShift: a run on a loom. Made. Distances only sink (plain); wages. Truths that fit, as the code asks for them (plain). What is known more of an attic, and truths (plain). The law ClockBefore: its first part. -/
import Derived.Test.YtiphdfiihgbomaaGreatAc7
import Derived.Test.YtiphdfiihgbomaaGreatG4
import Derived.Test.YtiphdfiihgbomaaGreatG6
set_option linter.unusedSimpArgs false
set_option linter.unusedVariables false
namespace Go.Ab.Tryz
theorem indexFuncOd_ev {α:Type}{enc:α→List V}{l:List α}{p:α→Bool}{h:H}{x f:V}(hw:h.wf)(hx:SlAt h x 4 (l.map enc))(hp:∀a∈l,PureA h f [.agg (enc a)] (.bool (p a))):
  E (.fn 102 [] []) [x,f] h fun v h'=>v=.int .i64 (fidx p l 0)∧h.Sub h':=by
 have hb:=hx.boundE
 refine Ev_body (fd:=c102) rfl rfl rfl ?_
 simp -implicitDefEqProofs(maxSteps:=999999)(disch:=first|with_reducible rfl|omega|(simp only[nA,nS,nD]<;>omega)|fail)only[c102,go_sem,hx.lenE]
 refine W_count l.length (fun i s=>∃tm h',s=⟨tm,h',[]⟩∧h.Sub h'∧(Opd.t 0).ev tm=x∧(Opd.t 1).ev tm=f∧(Opd.t 7).ev tm=.int .i64 (l.length:Int)∧(Opd.t 8).ev tm=.int .i64 (i:Int)∧fidx p l 0=fidx p (l.drop i) i)
  ?_ ?_ (i:=0) (Nat.zero_le _) ⟨_,_,rfl,H.Sub.refl hw,(by simp[ev_c,ev_put]<;>rfl),(by simp[ev_c,ev_put]<;>rfl),(by simp[ev_c,ev_put]<;>rfl),(by simp only[ev_put];rfl),rfl⟩
 ·rintro i s hi ⟨tm,h',rfl,hs,e0,e1,e7,e8,e9⟩
  have hi':(i:Int)<(l.length:Int):=by omega
  obtain⟨b,o,c,cs,rfl,hc,hq,hg,hn,hn0⟩:=(hx.mono hs).at hi
  simp -implicitDefEqProofs(maxSteps:=999999)(disch:=first|with_reducible rfl|omega|(simp only[nA,nS,nD]<;>omega)|fail)only[go_sem,e0,e1,e7,e8,hi',hq (nat_cst i),hc,hg]
  refine(hp _ (List.getElem_mem hi)).use hs fun h2 hs2=>?_
  cases hpr:p l[i] with
  |true=>
   simp -implicitDefEqProofs(maxSteps:=999999)(disch:=first|with_reducible rfl|omega|(simp only[nA,nS,nD]<;>omega)|fail)only[go_sem,e0,e1,e7,e8]
   exact⟨by rw[e9,fidx_hit hi hpr],hs.trans hs2⟩
  |false=>
   simp -implicitDefEqProofs(maxSteps:=999999)(disch:=first|with_reducible rfl|omega|(simp only[nA,nS,nD]<;>omega)|fail)only[go_sem,e0,e1,e7,e8,wr_succ]
   exact⟨_,_,rfl,hs.trans hs2,(by simp[ev_c,ev_put,e0]<;>rfl),(by simp[ev_c,ev_put,e1]<;>rfl),(by simp[ev_c,ev_put,e7]<;>rfl),(by simp[ev_c,ev_put]<;>rfl),by rw[e9,fidx_miss hi hpr]⟩
 ·rintro s ⟨tm,h',rfl,hs,e0,e1,e7,e8,e9⟩
  simp -implicitDefEqProofs(maxSteps:=999999)(disch:=first|with_reducible rfl|omega|(simp only[nA,nS,nD]<;>omega)|fail)only[go_sem,e0,e1,e7,e8,Int.lt_irrefl]
  exact⟨by rw[e9];simp[fidx],hs⟩
theorem containsFuncOd_ev {α:Type}{enc:α→List V}{l:List α}{p:α→Bool}{h:H}{x f:V}(hw:h.wf)(hx:SlAt h x 4 (l.map enc))(hp:∀a∈l,PureA h f [.agg (enc a)] (.bool (p a))):
  E (.fn 90 [] []) [x,f] h fun v h'=>v=.bool (l.any p)∧h.Sub h':=by
 refine Ev_body (fd:=c90) rfl rfl rfl ?_
 simp -implicitDefEqProofs(maxSteps:=999999)(disch:=first|with_reducible rfl|omega|(simp only[nA,nS,nD]<;>omega)|fail)only[c90,go_sem]
 refine(indexFuncOd_ev hw hx hp).mono fun v h' hv=>?_
 obtain⟨rfl,hs⟩:=hv
 simp -implicitDefEqProofs(maxSteps:=999999)(disch:=first|with_reducible rfl|omega|(simp only[nA,nS,nD]<;>omega)|fail)only[go_sem]
 exact⟨by rw[fidx_any],hs⟩
theorem everyOd_ev {α:Type}{enc:α→List V}{l:List α}{p:α→Bool}{h:H}{x:V}{g:FuncId}{u w:List V}(hw:h.wf)(hx:SlAt h x 4 (l.map enc))(hp:∀a∈l,PureA h (.fn g u w) [.agg (enc a)] (.bool (p a))):
  E (.fn 59 [] []) [x,.fn g u w] h fun v h'=>v=.bool (l.all p)∧h.Sub h':=by
 refine Ev_body (fd:=c59) rfl rfl rfl ?_
 simp -implicitDefEqProofs(maxSteps:=999999)(disch:=first|with_reducible rfl|omega|(simp only[nA,nS,nD]<;>omega)|fail)only[c59,go_sem]
 have hs1:h.Sub (h.add (.cells .rw [.fn g u w])):=(H.Sub.refl hw).add _
 refine(containsFuncOd_ev (p:=fun a=> !p a) hs1.wf (hx.mono hs1) fun a ha h2 hs2=>?_).mono fun v h' hv=>?_
 ·have hc:h2.cells h.next=some [.fn g u w]:=hs2.cells (cells_add_new rfl)
  have hl:h.next<h2.next:=by have:=hs2.next;rw[H.next_add] at this;omega
  refine Ev_body (fd:=c91) rfl rfl rfl ?_
  simp -implicitDefEqProofs(maxSteps:=999999)(disch:=first|with_reducible rfl|omega|(simp only[nA,nS,nD]<;>omega)|fail)only[c91,go_sem,hc,getN_full (hx.1 _ (List.mem_map_of_mem ha))]
  refine((hp a ha).mono hs1).use (hs2.add _) fun h3 hs3=>?_
  simp -implicitDefEqProofs(maxSteps:=999999)(disch:=first|with_reducible rfl|omega|(simp only[nA,nS,nD]<;>omega)|fail)only[go_sem]
  exact(H.Sub.refl hs2.wf).add _ |>.trans hs3
 ·obtain⟨rfl,hs⟩:=hv
  simp -implicitDefEqProofs(maxSteps:=999999)(disch:=first|with_reducible rfl|omega|(simp only[nA,nS,nD]<;>omega)|fail)only[go_sem]
  exact⟨by rw[any_not],hs1.trans hs⟩
theorem indexFuncLi_ev {l:List Int}{p:Int→Bool}{h:H}{x f:V}(hw:h.wf)(hx:SlAt h x 1 (l.map encI))(hp:∀a∈l,PureA h f [.int .i64 a] (.bool (p a))):
  E (.fn 92 [] []) [x,f] h fun v h'=>v=.int .i64 (fidx p l 0)∧h.Sub h':=by
 have hb:=hx.boundE
 refine Ev_body (fd:=c92) rfl rfl rfl ?_
 simp -implicitDefEqProofs(maxSteps:=999999)(disch:=first|with_reducible rfl|omega|(simp only[nA,nS,nD]<;>omega)|fail)only[c92,go_sem,hx.lenE]
 refine W_count l.length (fun i s=>∃tm h',s=⟨tm,h',[]⟩∧h.Sub h'∧(Opd.t 0).ev tm=x∧(Opd.t 1).ev tm=f∧(Opd.t 7).ev tm=.int .i64 (l.length:Int)∧(Opd.t 8).ev tm=.int .i64 (i:Int)∧fidx p l 0=fidx p (l.drop i) i)
  ?_ ?_ (i:=0) (Nat.zero_le _) ⟨_,_,rfl,H.Sub.refl hw,(by simp[ev_c,ev_put]<;>rfl),(by simp[ev_c,ev_put]<;>rfl),(by simp[ev_c,ev_put]<;>rfl),(by simp only[ev_put];rfl),rfl⟩
 ·rintro i s hi ⟨tm,h',rfl,hs,e0,e1,e7,e8,e9⟩
  have hi':(i:Int)<(l.length:Int):=by omega
  obtain⟨b,o,c,cs,rfl,hc,hq,hg,hn,hn0⟩:=(hx.mono hs).at hi
  simp -implicitDefEqProofs(maxSteps:=999999)(disch:=first|with_reducible rfl|omega|(simp only[nA,nS,nD]<;>omega)|fail)only[go_sem,e0,e1,e7,e8,hi',hq (nat_cst i),hc,hn0 (by omega),encI]
  refine(hp _ (List.getElem_mem hi)).use hs fun h2 hs2=>?_
  cases hpr:p l[i] with
  |true=>
   simp -implicitDefEqProofs(maxSteps:=999999)(disch:=first|with_reducible rfl|omega|(simp only[nA,nS,nD]<;>omega)|fail)only[go_sem,e0,e1,e7,e8]
   exact⟨by rw[e9,fidx_hit hi hpr],hs.trans hs2⟩
  |false=>
   simp -implicitDefEqProofs(maxSteps:=999999)(disch:=first|with_reducible rfl|omega|(simp only[nA,nS,nD]<;>omega)|fail)only[go_sem,e0,e1,e7,e8,wr_succ]
   exact⟨_,_,rfl,hs.trans hs2,(by simp[ev_c,ev_put,e0]<;>rfl),(by simp[ev_c,ev_put,e1]<;>rfl),(by simp[ev_c,ev_put,e7]<;>rfl),(by simp[ev_c,ev_put]<;>rfl),by rw[e9,fidx_miss hi hpr]⟩
 ·rintro s ⟨tm,h',rfl,hs,e0,e1,e7,e8,e9⟩
  simp -implicitDefEqProofs(maxSteps:=999999)(disch:=first|with_reducible rfl|omega|(simp only[nA,nS,nD]<;>omega)|fail)only[go_sem,e0,e1,e7,e8,Int.lt_irrefl]
  exact⟨by rw[e9];simp[fidx],hs⟩
theorem containsFuncLi_ev {l:List Int}{p:Int→Bool}{h:H}{x f:V}(hw:h.wf)(hx:SlAt h x 1 (l.map encI))(hp:∀a∈l,PureA h f [.int .i64 a] (.bool (p a))):
  E (.fn 67 [] []) [x,f] h fun v h'=>v=.bool (l.any p)∧h.Sub h':=by
 refine Ev_body (fd:=c67) rfl rfl rfl ?_
 simp -implicitDefEqProofs(maxSteps:=999999)(disch:=first|with_reducible rfl|omega|(simp only[nA,nS,nD]<;>omega)|fail)only[c67,go_sem]
 refine(indexFuncLi_ev hw hx hp).mono fun v h' hv=>?_
 obtain⟨rfl,hs⟩:=hv
 simp -implicitDefEqProofs(maxSteps:=999999)(disch:=first|with_reducible rfl|omega|(simp only[nA,nS,nD]<;>omega)|fail)only[go_sem]
 exact⟨by rw[fidx_any],hs⟩
theorem everyLi_ev {l:List Int}{p:Int→Bool}{h:H}{x:V}{g:FuncId}{u w:List V}(hw:h.wf)(hx:SlAt h x 1 (l.map encI))(hp:∀a∈l,PureA h (.fn g u w) [.int .i64 a] (.bool (p a))):
  E (.fn 31 [] []) [x,.fn g u w] h fun v h'=>v=.bool (l.all p)∧h.Sub h':=by
 refine Ev_body (fd:=c31) rfl rfl rfl ?_
 simp -implicitDefEqProofs(maxSteps:=999999)(disch:=first|with_reducible rfl|omega|(simp only[nA,nS,nD]<;>omega)|fail)only[c31,go_sem]
 have hs1:h.Sub (h.add (.cells .rw [.fn g u w])):=(H.Sub.refl hw).add _
 refine(containsFuncLi_ev (p:=fun a=> !p a) hs1.wf (hx.mono hs1) fun a ha h2 hs2=>?_).mono fun v h' hv=>?_
 ·have hc:h2.cells h.next=some [.fn g u w]:=hs2.cells (cells_add_new rfl)
  have hl:h.next<h2.next:=by have:=hs2.next;rw[H.next_add] at this;omega
  refine Ev_body (fd:=c68) rfl rfl rfl ?_
  simp -implicitDefEqProofs(maxSteps:=999999)(disch:=first|with_reducible rfl|omega|(simp only[nA,nS,nD]<;>omega)|fail)only[c68,go_sem,hc]
  refine((hp a ha).mono hs1).use hs2 fun h3 hs3=>?_
  simp -implicitDefEqProofs(maxSteps:=999999)(disch:=first|with_reducible rfl|omega|(simp only[nA,nS,nD]<;>omega)|fail)only[go_sem]
  exact hs3
 ·obtain⟨rfl,hs⟩:=hv
  simp -implicitDefEqProofs(maxSteps:=999999)(disch:=first|with_reducible rfl|omega|(simp only[nA,nS,nD]<;>omega)|fail)only[go_sem]
  exact⟨by rw[any_not],hs1.trans hs⟩
structure Od where
 p:Int
 d:Int
 b:Int
def encOd (o:Od × V):List V:=[.int .i64 o.1.p,.int .i64 o.1.d,.int .i64 o.1.b,o.2]
structure OdAt (h:H)(O:V)(ps:List (Od × V)):Prop where
 sl:SlAt h O 4 (ps.map encOd)
 on:∀o∈ps,SlAt h o.2 1 (([0]:List Int).map encI)
theorem OdAt.mono {h h':H}{O:V}{ps:List (Od × V)}(a:OdAt h O ps)(s:h.Sub h'):OdAt h' O ps:=⟨a.sl.mono s,fun o ho=>(a.on o ho).mono s⟩
structure OdOk (o:Od):Prop where
 p:0≤o.p∧o.p≤3
 d:1≤o.d∧o.d≤6
 b:1≤o.b∧o.b≤24
structure MoAt (h:H)(L O:V)(x ch:Int)(ps:List (Od × V)):Prop where
 l:SlAt h L 1 (([x]:List Int).map encI)
 o:OdAt h O ps
theorem MoAt.mono {h h':H}{L O:V}{x ch:Int}{ps:List (Od × V)}(a:MoAt h L O x ch ps)(s:h.Sub h'):MoAt h' L O x ch ps:=⟨a.l.mono s,a.o.mono s⟩
structure MoOk (x ch:Int)(ps:List (Od × V)):Prop where
 x: -1≤x∧x≤3
 ch:0≤ch∧ch≤3
 n:ps.length≤5
 o:∀o∈ps,OdOk o.1
theorem lin_ev (n lo hi:Int)(h:H)(Q:V→H→Prop):Ev fnG fastA (.fn 57 [] []) [.int .i64 n,.int .i64 lo,.int .i64 hi] h Q=Q (.bool (inB n lo hi)) h:=by
 refine Ev.det (Ev_body (fd:=c57) rfl rfl rfl ?_) Q
 by_cases c:lo≤n
 ·simp -implicitDefEqProofs(maxSteps:=999999)(disch:=first|with_reducible rfl|omega|(simp only[nA,nS,nD]<;>omega)|fail)only[c57,go_sem,c,inB]
 ·simp -implicitDefEqProofs(maxSteps:=999999)(disch:=first|with_reducible rfl|omega|(simp only[nA,nS,nD]<;>omega)|fail)only[c57,go_sem,c,inB,Bool.false_and]
theorem loomR_ev {h:H}(hw:h.wf){L O:V}{x ch:Int}{ps:List (Od × V)}(m:MoAt h L O x ch ps)(n:Int)(Q:V→H→Prop)(q:∀h',h.Sub h'→Q (.bool (inB n 0 0)) h'):Ev fnG fastA (.fn 29 [] []) [.agg [L,.int .i64 ch,O],.int .i64 n] h Q:=by
 have L1:=m.l.one
 have O1:=m.o.sl.one
 have hl:q_len L=some (.int .i64 1):=m.l.lenE
 refine Ev_body (fd:=c29) rfl rfl rfl ?_
 have w1:wr .i64 (1-1)=0:=rfl
 simp -implicitDefEqProofs(maxSteps:=999999)(disch:=first|with_reducible rfl|omega|(simp only[nA,nS,nD]<;>omega)|fail)only[c29,go_sem,L1,O1,cells_one L1,cells_one O1,hl,w1,lin_ev]
 exact q _ (by repeat(first|assumption|exact H.Sub.refl (by assumption)|refine H.Sub.add ?_ _|refine H.Sub.set ?_ (by first|omega|(simp only[H.next_add,H.next_set,H.next_del]<;>omega)) (by first|omega|(simp only[H.next_add,H.next_set,H.next_del]<;>omega)) (by assumption) _))
theorem orderR_ev {h:H}(hw:h.wf){L O:V}{x ch:Int}{ps:List (Od × V)}(m:MoAt h L O x ch ps)(k:MoOk x ch ps)(n:Int)(Q:V→H→Prop)(q:∀h',h.Sub h'→Q (.bool (inB n 0 ((ps.length:Int)-1))) h'):Ev fnG fastA (.fn 65 [] []) [.agg [L,.int .i64 ch,O],.int .i64 n] h Q:=by
 have L1:=m.l.one
 have O1:=m.o.sl.one
 have hl:=m.o.sl.lenE
 have kn:=k.n
 refine Ev_body (fd:=c65) rfl rfl rfl ?_
 have w1:wr .i64 ((ps.length:Int)-1)=(ps.length:Int)-1:=wr_in (by omega) (by omega)
 simp -implicitDefEqProofs(maxSteps:=999999)(disch:=first|with_reducible rfl|omega|(simp only[nA,nS,nD]<;>omega)|fail)only[c65,go_sem,L1,O1,cells_one L1,cells_one O1,hl,w1,lin_ev]
 exact q _ (by repeat(first|assumption|exact H.Sub.refl (by assumption)|refine H.Sub.add ?_ _|refine H.Sub.set ?_ (by first|omega|(simp only[H.next_add,H.next_set,H.next_del]<;>omega)) (by first|omega|(simp only[H.next_add,H.next_set,H.next_del]<;>omega)) (by assumption) _))
theorem chk1_pure {h:H}{n:Int}(hn: -1≤n∧n≤3):PureA h (.fn 58 [] []) [.int .i64 n] (.bool true):=fun h1 s1=>by
 have i1:inB n (-1) 9=true:=inB_iff.2 (by omega)
 refine Ev_body (fd:=c58) rfl rfl rfl ?_
 simp -implicitDefEqProofs(maxSteps:=999999)(disch:=first|with_reducible rfl|omega|(simp only[nA,nS,nD]<;>omega)|fail)only[c58,go_sem,lin_ev,i1]
 exact H.Sub.refl s1.wf
theorem chk2_pure {h:H}{o:Od × V}(v1:o.2.one=true)(k:OdOk o.1):PureA h (.fn 60 [] []) [.agg (encOd o)] (.bool true):=fun h1 s1=>by
 have hw1:=s1.wf
 have kp:=k.p;have kd:=k.d;have kb:=k.b
 have i1:inB o.1.p 0 9=true:=inB_iff.2 (by omega)
 have i2:inB o.1.d 1 20=true:=inB_iff.2 (by omega)
 have i3:inB o.1.b 1 99=true:=inB_iff.2 (by omega)
 refine Ev_body (fd:=c60) rfl rfl rfl ?_
 simp -implicitDefEqProofs(maxSteps:=999999)(disch:=first|with_reducible rfl|omega|(simp only[nA,nS,nD]<;>omega)|fail)only[c60,go_sem,encOd,v1,cells_one v1,lin_ev,i1,i2,i3]
 exact(H.Sub.refl hw1).add _
theorem chk3_pure {h:H}{o:Od × V}(v1:o.2.one=true)(hv:SlAt h o.2 1 (([0]:List Int).map encI)):PureA h (.fn 61 [] []) [.agg (encOd o)] (.bool true):=fun h1 s1=>by
 have hw1:=s1.wf
 have hl:q_len o.2=some (.int .i64 1):=hv.lenE
 have l0:(0:Int)<1:=by omega
 refine Ev_body (fd:=c61) rfl rfl rfl ?_
 simp -implicitDefEqProofs(maxSteps:=999999)(disch:=first|with_reducible rfl|omega|(simp only[nA,nS,nD]<;>omega)|fail)only[c61,go_sem,encOd,v1,cells_one v1,hl,l0]
 exact(H.Sub.refl hw1).add _
theorem chk4_pure {h:H}{c:Nat}{L O:V}{x ch:Int}{ps:List (Od × V)}(hc:h.cells c=some [.fn 29 [.agg [L,.int .i64 ch,O]] []])(m:MoAt h L O x ch ps){o:Od × V}(v1:o.2.one=true)(hv:SlAt h o.2 1 (([0]:List Int).map encI)):PureA h (.fn 62 [] [.ptr c 0]) [.agg (encOd o)] (.bool true):=fun h1 s1=>by
 have hw1:=s1.wf
 refine Ev_body (fd:=c62) rfl rfl rfl ?_
 have sA:=(H.Sub.refl hw1).add (.cells .rw (encOd o))
 have hc1:=s1.cells hc
 have hcA:=sA.cells hc1
 simp only[encOd] at sA hcA
 simp -implicitDefEqProofs(maxSteps:=999999)(disch:=first|with_reducible rfl|omega|(simp only[nA,nS,nD]<;>omega)|fail)only[c62,go_sem,encOd,v1,cells_one v1,hc1,hcA]
 have r0:inB 0 0 0=true:=inB_iff.2 (by omega)
 refine(everyLi_ev (p:=fun _=>true) (l:=[0]) sA.wf (hv.mono (s1.trans sA)) fun a ha h2 s2=>?_).mono fun u h2 hu=>?_
 ·rw[List.mem_singleton] at ha
  subst ha
  refine Ev_bound (loomR_ev s2.wf (m.mono ((s1.trans sA).trans s2)) 0 _ fun h3 s3=>?_)
  rw[r0];exact⟨rfl,s3⟩
 ·obtain⟨rfl,s2⟩:=hu
  simp -implicitDefEqProofs(maxSteps:=999999)(disch:=first|with_reducible rfl|omega|(simp only[nA,nS,nD]<;>omega)|fail)only[go_sem]
  first|exact⟨rfl,sA.trans s2⟩|exact sA.trans s2
theorem rising_ev {h:H}{v:V}(hv:SlAt h v 1 (([0]:List Int).map encI))(Q:V→H→Prop)(q:Q (.bool true) h):Ev fnG fastA (.fn 64 [] []) [v] h Q:=by
 have hl:q_len v=some (.int .i64 1):=hv.lenE
 refine Ev_body (fd:=c64) rfl rfl rfl ?_
 simp -implicitDefEqProofs(maxSteps:=999999)(disch:=first|with_reducible rfl|omega|(simp only[nA,nS,nD]<;>omega)|fail)only[c64,go_sem]
 refine W_count 0 (fun i s=>∃tm,s=⟨tm,h,[]⟩∧(Opd.t 0).ev tm=v∧(Opd.t 3).ev tm=.int .i64 1) (fun i s hi=>by omega) ?_ (i:=0) (Nat.le_refl _) ⟨_,rfl,(by simp[ev_c,ev_put]<;>rfl),(by simp[ev_c,ev_put]<;>rfl)⟩
 rintro s ⟨tm,rfl,t0,t3⟩
 simp -implicitDefEqProofs(maxSteps:=999999)(disch:=first|with_reducible rfl|omega|(simp only[nA,nS,nD]<;>omega)|fail)only[go_sem,t0,t3,hl,Int.lt_irrefl]
 exact q
theorem chk5_pure {h:H}{o:Od × V}(v1:o.2.one=true)(hv:SlAt h o.2 1 (([0]:List Int).map encI)):PureA h (.fn 63 [] []) [.agg (encOd o)] (.bool true):=fun h1 s1=>by
 have hw1:=s1.wf
 refine Ev_body (fd:=c63) rfl rfl rfl ?_
 have sA:=(H.Sub.refl hw1).add (.cells .rw (encOd o))
 simp only[encOd] at sA
 simp -implicitDefEqProofs(maxSteps:=999999)(disch:=first|with_reducible rfl|omega|(simp only[nA,nS,nD]<;>omega)|fail)only[c63,go_sem,encOd,v1,cells_one v1]
 refine rising_ev (hv.mono (s1.trans sA)) _ ?_
 simp -implicitDefEqProofs(maxSteps:=999999)(disch:=first|with_reducible rfl|omega|(simp only[nA,nS,nD]<;>omega)|fail)only[go_sem]
 exact sA
set_option maxHeartbeats 4000000 in
theorem lcheck_ev {h:H}(hw:h.wf){L O:V}{x ch:Int}{ps:List (Od × V)}(m:MoAt h L O x ch ps)(k:MoOk x ch ps)(Q:V→H→Prop)(q:∀h',h.Sub h'→Q (.int .i64 0) h'):Ev fnG fastA (.fn 28 [] []) [.agg [L,.int .i64 ch,O]] h Q:=by
 have L1:=m.l.one
 have O1:=m.o.sl.one
 have hlL:q_len L=some (.int .i64 1):=m.l.lenE
 have hlO:=m.o.sl.lenE
 have kn:=k.n;have kx:=k.x;have kc:=k.ch
 refine Ev_body (fd:=c28) rfl rfl rfl ?_
 obtain⟨h0,hz⟩:∃z,(h.add (.cells .rw [L,.int .i64 ch,O])).add (.cells .rw [.fn 29 [.agg [L,.int .i64 ch,O]] []])=z:=⟨_,rfl⟩
 have s0:h.Sub h0:=by rw[←hz];exact(by repeat(first|assumption|exact H.Sub.refl (by assumption)|refine H.Sub.add ?_ _|refine H.Sub.set ?_ (by first|omega|(simp only[H.next_add,H.next_set,H.next_del]<;>omega)) (by first|omega|(simp only[H.next_add,H.next_set,H.next_del]<;>omega)) (by assumption) _))
 have g0:h0.cells h.next=some [L,.int .i64 ch,O]:=by rw[←hz];simp -implicitDefEqProofs(maxSteps:=999999)(disch:=first|with_reducible rfl|omega|(simp only[nA,nS,nD]<;>omega)|fail)only[go_sem]
 have g1:h0.cells (h.next+1)=some [.fn 29 [.agg [L,.int .i64 ch,O]] []]:=by rw[←hz];simp -implicitDefEqProofs(maxSteps:=999999)(disch:=first|with_reducible rfl|omega|(simp only[nA,nS,nD]<;>omega)|fail)only[go_sem]
 have i1:inB 1 1 3=true:=inB_iff.2 (by omega)
 have i2:inB ch 0 5=true:=inB_iff.2 (by omega)
 have n7:¬(7:Int)<(ps.length:Int):=by omega
 simp -implicitDefEqProofs(maxSteps:=999999)(disch:=first|with_reducible rfl|omega|(simp only[nA,nS,nD]<;>omega)|fail)only[c28,go_sem,L1,O1,cells_one L1,cells_one O1,hlL,hlO,lin_ev,i1,n7]
 rw[hz]
 clear hz
 have m0:=m.mono s0
 refine(everyLi_ev (p:=fun _=>true) (l:=[x]) s0.wf m0.l fun a ha=>by rw[List.mem_singleton] at ha;subst ha;exact chk1_pure kx).mono fun u h1 hu=>?_
 obtain⟨rfl,s1⟩:=hu
 have ea:∀l:List (Od × V),(l.all fun _=>true)=true:=fun l=>List.all_eq_true.2 fun _ _=>rfl
 have e1:(([x]:List Int).all fun _=>true)=true:=rfl
 rw[e1]
 simp -implicitDefEqProofs(maxSteps:=999999)(disch:=first|with_reducible rfl|omega|(simp only[nA,nS,nD]<;>omega)|fail)only[go_sem,s1.cells g0,lin_ev,i2,Bool.not_true]
 have ov:∀o∈ps,o.2.one=true:=fun o ho=>(m.o.on o ho).one
 have m1:=m0.mono s1
 refine(everyOd_ev (p:=fun _=>true) s1.wf m1.o.sl fun o ho=>chk2_pure (ov o ho) (k.o o ho)).mono fun u h2 hu=>?_
 obtain⟨rfl,s2⟩:=hu
 rw[ea]
 have m2:=m1.mono s2
 have g2:=(s1.trans s2).cells g0
 simp -implicitDefEqProofs(maxSteps:=999999)(disch:=first|with_reducible rfl|omega|(simp only[nA,nS,nD]<;>omega)|fail)only[go_sem,g2,Bool.not_true]
 refine(everyOd_ev (p:=fun _=>true) s2.wf m2.o.sl fun o ho=>chk3_pure (ov o ho) (m2.o.on o ho)).mono fun u h3 hu=>?_
 obtain⟨rfl,s3⟩:=hu
 rw[ea]
 have m3:=m2.mono s3
 have g3:=s3.cells g2
 have s13:=(s1.trans s2).trans s3
 simp -implicitDefEqProofs(maxSteps:=999999)(disch:=first|with_reducible rfl|omega|(simp only[nA,nS,nD]<;>omega)|fail)only[go_sem,g3,Bool.not_true]
 refine(everyOd_ev (p:=fun _=>true) s3.wf m3.o.sl fun o ho=>chk4_pure (s13.cells g1) m3 (ov o ho) (m3.o.on o ho)).mono fun u h4 hu=>?_
 obtain⟨rfl,s4⟩:=hu
 rw[ea]
 have m4:=m3.mono s4
 have g4:=s4.cells g3
 simp -implicitDefEqProofs(maxSteps:=999999)(disch:=first|with_reducible rfl|omega|(simp only[nA,nS,nD]<;>omega)|fail)only[go_sem,g4,Bool.not_true]
 refine(everyOd_ev (p:=fun _=>true) s4.wf m4.o.sl fun o ho=>chk5_pure (ov o ho) (m4.o.on o ho)).mono fun u h5 hu=>?_
 obtain⟨rfl,s5⟩:=hu
 rw[ea]
 simp -implicitDefEqProofs(maxSteps:=999999)(disch:=first|with_reducible rfl|omega|(simp only[nA,nS,nD]<;>omega)|fail)only[go_sem,Bool.not_true]
 exact q _ (s0.trans (s13.trans (s4.trans s5)))
end Go.Ab.Tryz
namespace Go.Ab
noncomputable def slcU (h:H)(sz:Nat)(x k:V):Option V:=q_slc .nil h sz x none (some (.c k)) none
theorem q_slc_u (tm:T V)(h:H)(sz:Nat)(x:V)(y:Opd):q_slc tm h sz x none (some y) none=slcU h sz x (y.ev tm):=rfl
theorem OwnSl.tk {h0 h:H}{x:V}{sz:Nat}{rows:List (List V)}(a:OwnSl h0 h x sz rows)(hsz:0<sz)(hl:rows.length≤1000000){k:Nat}(hk:k<rows.length):
  ∃y,slcU h sz x (.int .i64 (k:Int))=some y∧SlAt h y sz (rows.take k):=by
 have hi:∀tm,(Opd.c (.int .i64 (k:Int))).ev tm=.int .i64 (k:Int):=fun _=>rfl
 obtain⟨_,a1,a2⟩:=a
 have hz:∀r∈rows.take k,r.length=sz:=fun r hr=>a1 r (List.mem_of_mem_take hr)
 have hkl:(rows.take k).length=k:=by rw[List.length_take,Nat.min_eq_left (by omega)]
 have fl:=flatten_len a1
 have ft:=flatten_len hz
 rw[hkl] at ft
 have hfl:rows.flatten=(rows.take k).flatten++(rows.drop k).flatten:=by rw[←List.flatten_append,List.take_append_drop]
 rcases a2 with⟨rfl,e⟩|⟨b,rfl,l1,l2,hb⟩
 ·rw[e] at hk;simp at hk
 ·have e1:Nat.ble 0 k=true:=by simp
  have e2:Nat.ble k rows.length=true:=by rw[Nat.ble_eq];omega
  have e3:Nat.ble rows.length rows.length=true:=by simp
  have e4:Nat.blt 0 (rows.length+k)=true:=by rw[Nat.blt_eq];omega
  have e5:Nat.beq sz sz=true:=by simp
  have e6:Nat.beq 0 (0*sz)=true:=by simp
  have e7:Nat.ble (0+rows.length*sz) rows.flatten.length=true:=by rw[fl,Nat.ble_eq,Nat.zero_add];exact Nat.le_refl _
  have e8:slkRoom h b 0 sz=rows.length:=by simp only[slkRoom,hb,lenN_eq,fl,Nat.sub_zero];exact Nat.mul_div_cancel _ hsz
  refine⟨.sl b (0+0*sz) k (.slk (0+0) 0),?_,?_⟩
  ·simp only[slcU,q_slc,slkOk,hb,e5,e6,lenN_eq,e7,og_true,bnd3,natO,hi,nat_cst,natk_cst,bnds,e1,e2,e3,subS,e4,e8,Nat.sub_zero]
  ·rw[Nat.zero_mul]
   exact⟨hz,by omega,.inr ⟨b,0,_,_,by rw[hkl],.inr (cells_of hb),getN_eq.2 ⟨by rw[List.drop_zero,hkl,hfl,←ft,List.take_left'];rfl,by rw[hkl,fl];have:=Nat.mul_le_mul_right sz (Nat.le_of_lt hk);omega⟩⟩⟩
namespace Tryz
theorem indexInt_ev {l:List Int}{h:H}{x:V}(hw:h.wf)(hx:SlAt h x 1 (l.map encI))(e:Int):
  Ev fnG fastA (.fn 93 [] []) [x,.int .i64 e] h fun v h'=>v=.int .i64 (fidx (fun r=>decide (e=r)) l 0)∧h.Sub h':=by
 have hb:=hx.boundE
 refine Ev_body (fd:=c93) rfl rfl rfl ?_
 simp -implicitDefEqProofs(maxSteps:=999999)(disch:=first|with_reducible rfl|omega|(simp only[nA,nS,nD]<;>omega)|fail)only[c93,go_sem,hx.lenE]
 refine W_count l.length (fun i s=>∃tm h',s=⟨tm,h',[]⟩∧h.Sub h'∧(Opd.t 0).ev tm=x∧(Opd.t 1).ev tm=.int .i64 e∧(Opd.t 7).ev tm=.int .i64 (l.length:Int)∧(Opd.t 8).ev tm=.int .i64 (i:Int)∧fidx (fun r=>decide (e=r)) l 0=fidx (fun r=>decide (e=r)) (l.drop i) i)
  ?_ ?_ (i:=0) (Nat.zero_le _) ⟨_,_,rfl,H.Sub.refl hw,(by simp[ev_c,ev_put]<;>rfl),(by simp[ev_c,ev_put]<;>rfl),(by simp[ev_c,ev_put]<;>rfl),(by simp[ev_c,ev_put]<;>rfl),rfl⟩
 ·rintro i s hi ⟨tm,h',rfl,hs,e0,e1,e7,e8,e9⟩
  have hi':(i:Int)<(l.length:Int):=by omega
  obtain⟨b,o,c,cs,rfl,hc,hq,hg,hn,hn0⟩:=(hx.mono hs).at hi
  have hv:=hn0 (by omega)
  simp only[encI] at hv
  simp -implicitDefEqProofs(maxSteps:=999999)(disch:=first|with_reducible rfl|omega|(simp only[nA,nS,nD]<;>omega)|fail)only[go_sem,e0,e1,e7,e8,hi',hq (nat_cst i),hc,hv]
  by_cases hpr:e=l[i]
  ·have hd:decide (e=l[i])=true:=decide_eq_true hpr
   simp -implicitDefEqProofs(maxSteps:=999999)(disch:=first|with_reducible rfl|omega|(simp only[nA,nS,nD]<;>omega)|fail)only[go_sem,e0,e1,e7,e8,hd,hpr]
   exact⟨by first|rw[e9,fidx_hit hi hd]|(rw[←hpr];rw[e9,fidx_hit hi hd]),hs⟩
  ·have hd:decide (e=l[i])=false:=decide_eq_false hpr
   simp -implicitDefEqProofs(maxSteps:=999999)(disch:=first|with_reducible rfl|omega|(simp only[nA,nS,nD]<;>omega)|fail)only[go_sem,e0,e1,e7,e8,hd,hpr,wr_succ]
   exact⟨_,_,rfl,hs,(by simp[ev_c,ev_put,e0]<;>rfl),(by simp[ev_c,ev_put,e1]<;>rfl),(by simp[ev_c,ev_put,e7]<;>rfl),(by simp[ev_c,ev_put]<;>rfl),by rw[e9,fidx_miss hi hd]⟩
 ·rintro s ⟨tm,h',rfl,hs,e0,e1,e7,e8,e9⟩
  simp -implicitDefEqProofs(maxSteps:=999999)(disch:=first|with_reducible rfl|omega|(simp only[nA,nS,nD]<;>omega)|fail)only[go_sem,e0,e1,e7,e8,Int.lt_irrefl]
  exact⟨by rw[e9];simp[fidx],hs⟩
theorem hasInt_ev {l:List Int}{h:H}{x:V}(hw:h.wf)(hx:SlAt h x 1 (l.map encI))(e:Int)(Q:V→H→Prop)(q:∀h',h.Sub h'→Q (.bool (l.any fun r=>decide (e=r))) h'):
  Ev fnG fastA (.fn 69 [] []) [x,.int .i64 e] h Q:=by
 refine Ev_body (fd:=c69) rfl rfl rfl ?_
 simp -implicitDefEqProofs(maxSteps:=999999)(disch:=first|with_reducible rfl|omega|(simp only[nA,nS,nD]<;>omega)|fail)only[c69,go_sem]
 refine(indexInt_ev hw hx e).mono fun v h' hv=>?_
 obtain⟨rfl,hs⟩:=hv
 simp -implicitDefEqProofs(maxSteps:=999999)(disch:=first|with_reducible rfl|omega|(simp only[nA,nS,nD]<;>omega)|fail)only[go_sem]
 rw[fidx_any]
 exact q _ hs
def upL (k:Nat):List Int:=(List.range k).map Int.ofNat
theorem upL_len (k:Nat):(upL k).length=k:=by simp[upL]
theorem upL_at {k i:Nat}(hi:i<(upL k).length):(upL k)[i]=(i:Int):=by simp[upL]
theorem upL_take {k i:Nat}(hi:i≤k):(upL k).take i=upL i:=by
 unfold upL
 rw[←List.map_take,List.take_range,Nat.min_eq_left hi]
theorem upL_mem {k:Nat}{a:Int}:a∈upL k↔0≤a∧a<k:=by
 simp only[upL,List.mem_map,List.mem_range]
 constructor
 ·rintro⟨i,h,rfl⟩;exact⟨Int.natCast_nonneg i,by show(i:Int)<k;omega⟩
 ·rintro⟨h0,h1⟩;exact⟨a.toNat,by omega,by show((a.toNat:Nat):Int)=a;omega⟩
theorem upL_succ (k:Nat):upL (k+1)=upL k++[(k:Int)]:=by simp[upL,List.range_succ]
theorem twice_ev {h0 h:H}{R:V}{k:Nat}(hk:k≤7)(o:OwnSl h0 h R 1 ((upL k).map encI))(Q:V→H→Prop)(q:∀h',h.Sub h'→Q (.bool false) h'):Ev fnG fastA (.fn 66 [] []) [R] h Q:=by
 have ax:=o.sl (by rw[List.length_map,upL_len];omega)
 have hl:=ax.lenE
 rw[upL_len] at hl
 refine Ev_body (fd:=c66) rfl rfl rfl ?_
 simp -implicitDefEqProofs(maxSteps:=999999)(disch:=first|with_reducible rfl|omega|(simp only[nA,nS,nD]<;>omega)|fail)only[c66,go_sem,hl]
 refine W_count k (fun i s=>∃tm h',s=⟨tm,h',[]⟩∧h.Sub h'∧(Opd.t 0).ev tm=R∧(Opd.t 5).ev tm=R∧(Opd.t 6).ev tm=.int .i64 (k:Int)∧(Opd.t 7).ev tm=.int .i64 (i:Int)) ?_ ?_ (i:=0) (Nat.zero_le _) ⟨_,_,rfl,H.Sub.refl o.1.wf,(by simp[ev_c,ev_put]<;>rfl),(by simp[ev_c,ev_put]<;>rfl),(by simp[ev_c,ev_put]<;>rfl),(by simp only[ev_put];rfl)⟩
 ·rintro i s hi ⟨tm,h',rfl,s1,t0,t5,t6,t7⟩
  have hi':(i:Int)<(k:Int):=by omega
  have hil:i<(upL k).length:=by rw[upL_len];exact hi
  obtain⟨b,oo',c,cs,_,hc,hq,_,_,hn⟩:=(ax.mono s1).at hil
  have hv:nth (oo'+i*1) cs=some (.int .i64 (i:Int)):=by rw[hn (by omega),upL_at hil];rfl
  obtain⟨y,hy,ay⟩:=(o.mono s1).tk (by omega) (by rw[List.length_map,upL_len];omega) (k:=i) (by rw[List.length_map];exact hil)
  rw[←List.map_take,upL_take (by omega)] at ay
  have hno:((upL i).any fun r=>decide ((i:Int)=r))=false:=by
   rw[List.any_eq_false]
   intro a ha
   have:=upL_mem.1 ha
   simp only[decide_eq_true_eq]
   omega
  simp -implicitDefEqProofs(maxSteps:=999999)(disch:=first|with_reducible rfl|omega|(simp only[nA,nS,nD]<;>omega)|fail)only[go_sem,t0,t5,t6,t7,hi',hq (nat_cst i),hc,hv,q_slc_u,hy]
  refine hasInt_ev s1.wf ay (i:Int) _ fun h2 s2=>?_
  rw[hno]
  simp -implicitDefEqProofs(maxSteps:=999999)(disch:=first|with_reducible rfl|omega|(simp only[nA,nS,nD]<;>omega)|fail)only[go_sem,t0,t5,t6,t7,wr_succ]
  exact⟨_,_,rfl,s1.trans s2,(by simp[ev_c,ev_put,t0]<;>rfl),(by simp[ev_c,ev_put,t5]<;>rfl),(by simp[ev_c,ev_put,t6]<;>rfl),(by simp[ev_c,ev_put]<;>rfl)⟩
 ·rintro s ⟨tm,h',rfl,s1,t0,t5,t6,t7⟩
  simp -implicitDefEqProofs(maxSteps:=999999)(disch:=first|with_reducible rfl|omega|(simp only[nA,nS,nD]<;>omega)|fail)only[go_sem,t6,t7,Int.lt_irrefl]
  exact q _ s1
set_option maxHeartbeats 2000000 in
theorem listed_ev {h h1:H}(hw:h.wf){L O R:V}{x ch:Int}{ps:List (Od × V)}(m:MoAt h L O x ch ps)(ok:MoOk x ch ps){k:Nat}(hk:k≤ps.length)(o:OwnSl h1 h R 1 ((upL k).map encI))(Q:V→H→Prop)(q:∀h',h.Sub h'→Q (.int .i64 0) h'):Ev fnG fastA (.fn 30 [] []) [.agg [L,.int .i64 ch,O],R] h Q:=by
 have L1:=m.l.one
 have O1:=m.o.sl.one
 have kn:=ok.n
 refine Ev_body (fd:=c30) rfl rfl rfl ?_
 have s0:=(H.Sub.refl hw).add (.cells .rw [L,.int .i64 ch,O])
 have g0:(h.add (.cells .rw [L,.int .i64 ch,O])).cells h.next=some [L,.int .i64 ch,O]:=cells_add_new rfl
 simp -implicitDefEqProofs(maxSteps:=999999)(disch:=first|with_reducible rfl|omega|(simp only[nA,nS,nD]<;>omega)|fail)only[c30,go_sem,L1,O1,cells_one L1,cells_one O1]
 generalize h.add (.cells .rw [L,.int .i64 ch,O])=h0 at s0 g0⊢
 refine lcheck_ev s0.wf (m.mono s0) ok _ fun h2 s2=>?_
 have s02:=s0.trans s2
 have g2:=s2.cells g0
 have oR:=o.mono s02
 have aR:=oR.sl (by rw[List.length_map,upL_len];omega)
 simp -implicitDefEqProofs(maxSteps:=999999)(disch:=first|with_reducible rfl|omega|(simp only[nA,nS,nD]<;>omega)|fail)only[go_sem,ne_eq,not_true_eq_false,g2]
 refine(everyLi_ev (p:=fun _=>true) (l:=upL k) s2.wf aR fun a ha h3 s3=>?_).mono fun u h3 hu=>?_
 ·have hm:=upL_mem.1 ha
  refine Ev_bound (orderR_ev s3.wf ((m.mono s02).mono s3) ok a _ fun h4 s4=>?_)
  rw[show inB a 0 ((ps.length:Int)-1)=true from inB_iff.2 (by omega)]
  exact⟨rfl,s4⟩
 ·obtain⟨rfl,s3⟩:=hu
  have ea:((upL k).all fun _=>true)=true:=List.all_eq_true.2 fun _ _=>rfl
  rw[ea]
  simp -implicitDefEqProofs(maxSteps:=999999)(disch:=first|with_reducible rfl|omega|(simp only[nA,nS,nD]<;>omega)|fail)only[go_sem,Bool.not_true]
  refine twice_ev (k:=k) (by omega) (oR.mono s3) _ fun h4 s4=>?_
  simp -implicitDefEqProofs(maxSteps:=999999)(disch:=first|with_reducible rfl|omega|(simp only[nA,nS,nD]<;>omega)|fail)only[go_sem]
  exact q _ ((s02.trans s3).trans s4)
end Tryz
end Go.Ab
namespace Go.Ab.Tryz
open Go.Proofs
end Go.Ab.Tryz
namespace Go.Ab.Tryz
open Go.Proofs
theorem low_le {L:List Int}(hL:L.length=25){a b:Nat}(ha:a<5)(hb:b<5)(v:Int){x y:Nat}(hx:x<5)(hy:y<5):mg (low L a b v) x y≤mg L x y:=by
 rw[mg_low hL ha hb v x y hx hy]
 split
 ·rename_i e;obtain⟨rfl,rfl⟩:=e;omega
 ·exact Int.le_refl _
theorem rdL_le {L:List Int}(hL:L.length=25){e:Nat}(he:e<5)(s:Int × Int){x y:Nat}(hx:x<5)(hy:y<5):mg (rdL L e s) x y≤mg L x y:=
 Int.le_trans (low_le (by rw[low_len];exact hL) he (by decide) _ hx hy) (low_le hL (by decide) he _ hx hy)
theorem readsL_le {a:At}(r:Right a){cnt:Nat→Bool}{k:Int}{x:Int × Int}{u v:Nat}(hu:u<5)(hv:v<5):∀{l:List Rd} {i:Nat} {L:List Int},(∀r∈l,r∈a.rds)→L.length=25→mg (readsL a cnt k x l i L).1 u v≤mg L u v
 |[],_,_,_,_=>Int.le_refl _
 |rd::l,i,L,hl,hL=>by
  obtain⟨yk,ye,ek,ee,hyk,hye,_⟩:=r.rd (hl rd (List.mem_cons_self ..))
  have hl':=fun x hx=>hl x (List.mem_cons_of_mem _ hx)
  rw[readsL]
  split
  ·exact readsL_le r hu hv hl' hL
  ·split
   ·exact Int.le_refl _
   ·exact Int.le_trans (readsL_le r hu hv hl' (by rw[rdL,low_len,low_len];exact hL)) (rdL_le hL (by omega) _ hu hv)
theorem readL_le {a:At}(r:Right a){cnt:Nat→Bool}{k:Int}{x:Int × Int}{L:List Int}(hL:In5 240 L)(ht:(readL a cnt k x L).2=true){u v:Nat}(hu:u<5)(hv:v<5):mg (readL a cnt k x L).1 u v≤mg L u v:=by
 have hin:=readsL_in (cnt:=cnt) (k:=k) (x:=x) (i:=0) r (fun y (hy:y∈a.rds)=>hy) hL
 unfold readL at ht⊢
 by_cases h1:(readsL a cnt k x a.rds 0 L).2=true
 ·rw[if_pos h1] at ht⊢
  exact Int.le_trans (((clos_spec (by decide) (by decide) hin).1 ht).2.2.1 u v hu hv) (readsL_le r hu hv (fun r hr=>hr) hL.len)
 ·rw[if_neg h1] at ht;cases ht
theorem moreL_le {a:At}(r:Right a){cnt:Nat→Bool}{u v:Nat}(hu:u<5)(hv:v<5):∀{n:Nat} {runs:Runs} {L:List Int},In5 240 L→∀t∈moreL a cnt n runs L,mg t.2 u v≤mg L u v
 |0,runs,L,h,t,ht=>by rw[moreL,List.mem_singleton] at ht;rw[ht];exact Int.le_refl _
 |n+1,runs,L,h,t,ht=>by
  unfold moreL at ht
  cases hc:a.cks[runs.length]? with
  |none=>rw[hc] at ht;cases ht
  |some c=>
   rw[hc] at ht
   simp only[List.mem_flatMap] at ht
   obtain⟨i,_,j,_,ht⟩:=ht
   split at ht
   ·rename_i hk;exact Int.le_trans (moreL_le r hu hv (readL_in r h hk) t ht) (readL_le r h hk hu hv)
   ·cases ht
theorem gaps_le {a:At}(r:Right a){u v:Nat}(hu:u<5)(hv:v<5):∀{l:List Gp} {L:List Int},(∀g∈l,g∈a.gps)→L.length=25→mg (l.foldl gapL L) u v≤mg L u v
 |[],_,_,_=>Int.le_refl _
 |g::l,L,hl,hL=>by
  obtain⟨f,t,e1,e2,hf,ht,_⟩:=r.gap (hl g (List.mem_cons_self ..))
  rw[List.foldl_cons]
  refine Int.le_trans (gaps_le r hu hv (fun x hx=>hl x (List.mem_cons_of_mem _ hx)) (by rw[gapL,low_len,low_len];exact hL)) ?_
  rw[gapL,e1,e2,Int.toNat_natCast,Int.toNat_natCast]
  exact Int.le_trans (low_le (by rw[low_len];exact hL) (by omega) (by omega) _ hu hv) (low_le hL (by omega) (by omega) _ hu hv)
theorem cases_diag {a:At}(r:Right a){cnt:Nat→Bool}{t:Runs × List Int}(ht:t∈casesL a cnt){u:Nat}(hu:u<5):mg t.2 u u=0:=by
 have hd:=(cases_sound r ht).1.diag u hu
 unfold casesL at ht
 split at ht
 ·rename_i hc
  have h1:=moreL_le r hu hu (free_clos_in r hc) t ht
  have h2:=((clos_spec (by decide) (by decide) (freeL_in r)).1 hc).2.2.1 u u hu hu
  have h3:mg (freeL a) u u≤mg (bsL a.mins) u u:=gaps_le r hu hu (fun g hg=>hg) (bsU_len _ _ _)
  rw[mg_bs _ hu hu,if_pos (.inr rfl)] at h3
  omega
 ·cases ht
abbrev allM (a:At):List (List Int):=(allC a).map Prod.snd
theorem errT_ok {a:At}(r:Right a)(hne:allC a≠[]):errT a false=0:=by
 unfold errT;rw[if_neg (by rw[checkA_iff.2 r];simp),if_neg (by simp),if_neg hne]
theorem btwR_ok {a:At}(r:Right a)(hne:allC a≠[]){f t:Nat}(hf:a.evB f=true)(ht:a.evB t=true):btwR a f t=(betw f t (allM a),0):=by
 have:errT a (!a.evB f|| !a.evB t)=0:=by rw[hf,ht];exact errT_ok r hne
 rw[btwR,if_neg (by rw[this];simp),Int.toNat_natCast,Int.toNat_natCast]
theorem timeR_ok {a:At}(r:Right a)(hne:allC a≠[]){e:Nat}(he:a.evB e=true):timeR a e=(betw 4 e (allM a),0):=by
 have:errT a (!a.evB e)=0:=by rw[he];exact errT_ok r hne
 rw[timeR,if_neg (by rw[this];simp),Int.toNat_natCast]
theorem wagesR_ok {a:At}(r:Right a)(hne:allC a≠[]){f t:Nat}(hf:a.evB f=true)(ht:a.evB t=true){pay:Int}(hp:0≤pay∧pay≤600):wagesR a f t pay=((wage (betw f t (allM a)).1 pay,wage (betw f t (allM a)).2 pay),0):=by
 rw[wagesR,if_neg (by rw[checkA_iff.2 r];simp),if_neg (by rw[hf,ht];simp),if_neg (by rw[(inB_iff ..).2 hp];simp),btwR_ok r hne hf ht,if_neg (by simp)]
theorem wage_eq {n pay:Int}(hp:0≤pay):wage n pay=max 0 n*pay/60:=Int.tdiv_eq_ediv_of_nonneg (Int.mul_nonneg (by omega) hp)
theorem wage_none (pay:Int):wage 0 pay=0:=by unfold wage;rw[show max (0:Int) 0=0 from rfl,Int.zero_mul];rfl
end Go.Ab.Tryz
namespace Go.Ab.Tryz
open Go.Proofs
def latY (L:List Int)(f b:Nat):Int:=mg L f b-mg L f 4
theorem lat_tru {a:At}(r:Right a){cnt:Nat→Bool}{t:Runs × List Int}(ht:t∈casesL a cnt){f:Nat}(hf:f<5):Tru a cnt t.1 (latY t.2 f):=by
 obtain⟨tri,_,_,hs⟩:=cases_sound r ht
 refine(hs _ (by simp[latY])).1 fun c d hc hd=>?_
 have:=tri.tri f d c hf hd hc
 unfold latY;omega
end Go.Ab.Tryz
namespace Go.Ab.Tryz
open Go.Proofs
abbrev TruA (a:At) (runs:Runs) (y:Nat→Int):Prop:=Tru a (fun _=>true) runs y
theorem betw_hi {a:At}(r:Right a)(hne:allC a≠[]){f t:Nat}(hf:f<5)(ht:t<5):∃runs y,TruA a runs y∧y t-y f=(betw f t (allM a)).2:=by
 obtain⟨M,hM,h1⟩:=betw_ex (f:=f) (t:=t) (l:=allM a) (fun e=>hne (List.map_eq_nil_iff.1 e))
 obtain⟨u,hu,rfl⟩:=List.mem_map.1 hM
 exact⟨u.1,latY u.2 f,lat_tru r hu hf,by have:=cases_diag r hu hf;unfold latY;omega⟩
theorem betw_lo {a:At}(r:Right a)(hne:allC a≠[]){f t:Nat}(hf:f<5)(ht:t<5):∃runs y,TruA a runs y∧y t-y f=(betw f t (allM a)).1:=by
 obtain⟨runs,y,h,e⟩:=betw_hi r hne ht hf
 refine⟨runs,y,h,?_⟩
 rw[betw_dual] at e
 simp only at e
 omega
def At.addG (a:At)(g:Gp):At:={a with gps:=a.gps++[g]}
end Go.Ab.Tryz
namespace Go.Ab
end Go.Ab
namespace Go.Ab.Tryz
open Go.Proofs
def encS (s:Int × Int):List V:=[.int .i64 s.1,.int .i64 s.2]
def rowB (a:At)(j c:Nat):List (Int × Int):=(List.range c).map fun k=>betw j k (allM a)
def rowsB (a:At)(n i k:Nat)(j:Nat):List (List V):=(rowB a j (if j<i then n else if j=i then k else 0)).map encS
theorem beforeR_ok {a:At}(r:Right a)(hne:allC a≠[]){f t:Nat}(hf:a.evB f=true)(ht:a.evB t=true):beforeR a f t=(if 0<(betw f t (allM a)).1 then 1 else if(betw f t (allM a)).2≤0 then 2 else 0,0):=by
 unfold beforeR
 rw[btwR_ok r hne hf ht,if_neg (by simp)]
 simp only
 split
 ·rfl
 ·split<;>rfl
end Go.Ab.Tryz
namespace Go.Ab.Tryz
def gapE (E:List Int)(j:Nat):Gp:=⟨(j:Int),((j+1:Nat):Int),E.getD (j+1) 0-E.getD j 0,E.getD (j+1) 0-E.getD j 0⟩
def gapsE (E:List Int)(k:Nat):List Gp:=(List.range k).map (gapE E)
structure EndsE (E:List Int):Prop where
 n:1≤E.length∧E.length≤4
 up:E.Pairwise (· < ·)
 bd:∀e∈E,1≤e∧e≤100
structure CkE (s:Int × Int)(c:Ck):Prop where
 s0: -9≤s.1∧s.1≤50
 g0: -20≤s.2∧s.2≤20
 sl:c.sl=s.1
 sh:s.1≤c.sh∧c.sh≤s.1+3
 gl:c.gl=s.2
 gh:s.2≤c.gh∧c.gh≤s.2+2
def RdE (E:List Int)(B:Int)(runs:Runs)(r:Rd):Prop:=∃(k i:Nat) (s:Int × Int),r.ck=(k:Int)∧r.ev=(i:Int)∧runs[k]? =some s∧i<E.length∧r.sh=shw s.1 s.2 (B+E.getD i 0)
structure ShA (E:List Int)(B:Int)(runs:Runs)(a:At):Prop where
 e:EndsE E
 b:0≤B∧B≤60
 mins:a.mins=240
 evs:a.evs=(E.length:Int)
 gps:a.gps=gapsE E (E.length-1)
 ckl:a.cks.length=runs.length
 ck2:runs.length≤2
 ck:∀(k:Nat) c s,a.cks[k]? =some c→runs[k]? =some s→CkE s c
 rl:a.rds.length≤8
 rd:∀r∈a.rds,RdE E B runs r
def yE (E:List Int)(B:Int)(e:Nat):Int:=if e<E.length then B+E.getD e 0 else 0
theorem yE_at {E:List Int}{B:Int}{i:Nat}(hi:i<E.length):yE E B i=B+E.getD i 0:=if_pos hi
theorem EndsE.lt {E:List Int}(h:EndsE E){k i:Nat}(hk:k<i)(hi:i<E.length):E.getD k 0<E.getD i 0:=by
 have:=List.pairwise_iff_getElem.1 h.up k i (by omega) hi hk
 rwa[List.getD_eq_getElem?_getD,List.getD_eq_getElem?_getD,List.getElem?_eq_getElem hi,List.getElem?_eq_getElem (show k<E.length by omega)]
theorem EndsE.at_ {E:List Int}(h:EndsE E){i:Nat}(hi:i<E.length):1≤E.getD i 0∧E.getD i 0≤100:=by
 rw[List.getD_eq_getElem?_getD,List.getElem?_eq_getElem hi]
 exact h.bd _ (List.getElem_mem hi)
theorem mem_gapsE {E:List Int}{k:Nat}{g:Gp}:g∈gapsE E k↔∃j,j<k∧g=gapE E j:=by
 simp only[gapsE,List.mem_map,List.mem_range]
 constructor
 ·rintro⟨j,h,e⟩;exact⟨j,h,e.symm⟩
 ·rintro⟨j,h,e⟩;exact⟨j,h,e.symm⟩
theorem ShA.run {E:List Int}{B:Int}{runs:Runs}{a:At}(x:ShA E B runs a){k:Nat}{s:Int × Int}(hs:runs[k]? =some s):∃c,a.cks[k]? =some c∧CkE s c:=by
 have hk:k<a.cks.length:=by
  rw[x.ckl]
  rcases Nat.lt_or_ge k runs.length with h|h
  ·exact h
  ·rw[List.getElem?_eq_none h] at hs;cases hs
 exact⟨a.cks[k],List.getElem?_eq_getElem hk,x.ck k _ s (List.getElem?_eq_getElem hk) hs⟩
theorem ShA.ofC {E:List Int}{B:Int}{runs:Runs}{a:At}(x:ShA E B runs a){c:Ck}(hc:c∈a.cks):∃s,CkE s c:=by
 obtain⟨k,hk,rfl⟩:=List.getElem_of_mem hc
 have hk2:k<runs.length:=by rw[←x.ckl];exact hk
 exact⟨runs[k],x.ck k _ _ (List.getElem?_eq_getElem hk) (List.getElem?_eq_getElem hk2)⟩
theorem ShA.inM {E:List Int}{B:Int}{runs:Runs}{a:At}(x:ShA E B runs a){i:Nat}(hi:i<E.length):0≤B+E.getD i 0∧B+E.getD i 0≤160:=by
 have:=x.e.at_ hi;have:=x.b;omega
theorem ShA.right {E:List Int}{B:Int}{runs:Runs}{a:At}(x:ShA E B runs a):Right a:=by
 obtain⟨n1,n2⟩:=x.e.n
 have hg:a.gps.length=E.length-1:=by rw[x.gps];simp[gapsE]
 have hb:∀c∈a.cks,c.bd=true∧c.ord=true∧c.sm=true:=fun c hc=>by
  obtain⟨s,k⟩:=x.ofC hc
  have h1:=k.s0;have h2:=k.g0;have h3:=k.sl;have h4:=k.sh;have h5:=k.gl;have h6:=k.gh
  simp only[Ck.bd,Ck.ord,Ck.sm,within,inB,Bool.and_eq_true,decide_eq_true_eq]
  omega
 have hgp:∀g∈a.gps,g.bd=true∧a.gpOk g=true∧g.ord=true:=fun g hg=>by
  rw[x.gps] at hg
  obtain⟨j,hj,rfl⟩:=mem_gapsE.1 hg
  have h1:=x.e.lt (k:=j) (i:=j+1) (by omega) (by omega)
  have h2:=x.e.at_ (i:=j) (by omega)
  have h3:=x.e.at_ (i:=j+1) (by omega)
  have h4:=x.evs
  refine⟨?_,?_,?_⟩
  ·simp only[Gp.bd,within,Bool.and_eq_true,inB_iff,gapE]
   omega
  ·show(inB (j:Int) 0 (a.evs-1)&&inB ((j+1:Nat):Int) 0 (a.evs-1))=true
   rw[Bool.and_eq_true,inB_iff,inB_iff]
   exact⟨⟨by omega,by omega⟩,by omega,by omega⟩
  ·exact decide_eq_true (Int.le_refl (E.getD (j+1) 0-E.getD j 0))
 have hrd:∀r∈a.rds,r.bd=true∧a.rdOk r=true:=fun r hr=>by
  obtain⟨k,i,s,e1,e2,hs,hi,e3⟩:=x.rd r hr
  obtain⟨c,hc,ck⟩:=x.run hs
  have hk:k<a.cks.length:=by
   rcases Nat.lt_or_ge k a.cks.length with h|h
   ·exact h
   ·rw[List.getElem?_eq_none h] at hc;cases hc
  have h1:=ck.s0;have h2:=ck.g0
  have hm:=x.inM hi
  have hsh:=shw_bd (set:=s.1) (gain:=s.2) ⟨by omega,by omega,by omega,by omega⟩ hm.1 (by omega)
  have h4:=x.evs
  simp only[Rd.bd,At.rdOk,At.ckB,At.evB,inB,Bool.and_eq_true,decide_eq_true_eq,e1,e2,e3,h4]
  omega
 refine⟨?_,fun c hc=>(hb c hc).1,fun r hr=>(hrd r hr).1,fun g hg=>(hgp g hg).1,fun r hr=>(hrd r hr).2,fun g hg=>(hgp g hg).2.1,fun c hc=>(hb c hc).2.1,fun g hg=>(hgp g hg).2.2,fun c hc=>(hb c hc).2.2⟩
 have h1:=x.ckl;have h2:=x.ck2;have h3:=x.rl;have h4:=x.evs;have h5:=x.mins
 simp only[At.sz,inB,Bool.and_eq_true,decide_eq_true_eq]
 omega
theorem ShA.tru {E:List Int}{B:Int}{runs:Runs}{a:At}(x:ShA E B runs a):TruA a runs (yE E B):=by
 obtain⟨n1,n2⟩:=x.e.n
 refine⟨x.ckl.symm,fun k s hs=>?_,by unfold yE;rw[if_neg (by omega)],fun e he=>?_,fun g hg=>?_,fun j r hr _ s hs=>?_⟩
 ·obtain⟨c,hc,ck⟩:=x.run hs
  have h3:=ck.sl;have h4:=ck.sh;have h5:=ck.gl;have h6:=ck.gh
  exact RunOf.mk' (s:=s.1) (g:=s.2) hc (by omega) (by omega) (by omega) (by omega)
 ·rw[x.mins]
  unfold yE
  split
  ·have:=x.inM (i:=e) (by assumption);omega
  ·omega
 ·rw[x.gps] at hg
  obtain⟨j,hj,rfl⟩:=mem_gapsE.1 hg
  show E.getD (j+1) 0-E.getD j 0≤yE E B (j+1)-yE E B j∧yE E B (j+1)-yE E B j≤E.getD (j+1) 0-E.getD j 0
  rw[yE_at (by omega),yE_at (by omega)]
  omega
 ·obtain⟨k,i,s',e1,e2,hs',hi,e3⟩:=x.rd r (List.mem_of_getElem? hr)
  rw[e1,Int.toNat_natCast] at hs
  rw[hs] at hs'
  cases hs'
  rw[e2,Int.toNat_natCast,e3]
  unfold yE
  rw[if_pos hi]
theorem ShA.dif {E:List Int}{B:Int}{runs:Runs}{a:At}(x:ShA E B runs a){runs':Runs}{y:Nat→Int}(t:TruA a runs' y):∀{i k:Nat},k≤i→i<E.length→y i-y k=E.getD i 0-E.getD k 0
 |i,k,h,hi=>by
  rcases Nat.lt_or_ge k i with h1|h1
  ·obtain⟨j,rfl⟩:∃j,i=j+1:=⟨i-1,by omega⟩
   have ih:=x.dif t (i:=j) (k:=k) (by omega) (by omega)
   have:=t.gaps (gapE E j) (by rw[x.gps];exact mem_gapsE.2 ⟨j,by omega,rfl⟩)
   simp only[gapE,Int.toNat_natCast] at this
   omega
  ·have:k=i:=by omega
   subst this;omega
theorem ShA.ne {E:List Int}{B:Int}{runs:Runs}{a:At}(x:ShA E B runs a):allC a≠[]:=(betw_tru x.right x.tru (f:=0) (t:=0) (by omega) (by omega)).1
theorem ShA.ev {E:List Int}{B:Int}{runs:Runs}{a:At}(x:ShA E B runs a){i:Nat}(hi:i<E.length):a.evB (i:Int)=true:=by
 rw[At.evB,x.evs];exact inB_iff.2 (by omega)
theorem ShA.time {E:List Int}{B:Int}{runs:Runs}{a:At}(x:ShA E B runs a){i:Nat}(hi:i<E.length):∃lo hi':Int,timeR a (i:Int)=((lo,hi'),0)∧lo≤B+E.getD i 0∧B+E.getD i 0≤hi':=by
 obtain⟨n1,n2⟩:=x.e.n
 obtain⟨_,h1,h2⟩:=betw_tru x.right x.tru (f:=4) (t:=i) (by omega) (by omega)
 have e4:yE E B 4=0:=by unfold yE;rw[if_neg (by omega)]
 have ei:yE E B i=B+E.getD i 0:=by unfold yE;rw[if_pos hi]
 rw[e4,ei] at h1 h2
 refine⟨(betw 4 i (allM a)).1,(betw 4 i (allM a)).2,?_,by have:(betw 4 i (allM a)).1≤_:=h1;omega,by have:_≤(betw 4 i (allM a)).2:=h2;omega⟩
 exact timeR_ok x.right x.ne (x.ev hi)
theorem ShA.betw {E:List Int}{B:Int}{runs:Runs}{a:At}(x:ShA E B runs a){k i:Nat}(hk:k≤i)(hi:i<E.length):Go.Ab.Tryz.betw k i (allM a)=(E.getD i 0-E.getD k 0,E.getD i 0-E.getD k 0):=by
 obtain⟨n1,n2⟩:=x.e.n
 obtain⟨_,_,t1,e1⟩:=betw_lo x.right x.ne (f:=k) (t:=i) (by omega) (by omega)
 obtain⟨_,_,t2,e2⟩:=betw_hi x.right x.ne (f:=k) (t:=i) (by omega) (by omega)
 exact Prod.ext (by rw[←e1];exact x.dif t1 hk hi) (by rw[←e2];exact x.dif t2 hk hi)
theorem ShA.btw {E:List Int}{B:Int}{runs:Runs}{a:At}(x:ShA E B runs a){k i:Nat}(hk:k≤i)(hi:i<E.length):btwR a (k:Int) (i:Int)=((E.getD i 0-E.getD k 0,E.getD i 0-E.getD k 0),0):=by
 have:=x.betw hk hi
 rw[btwR_ok x.right x.ne (x.ev (by omega)) (x.ev hi)]
 exact Prod.ext this rfl
theorem ShA.bef {E:List Int}{B:Int}{runs:Runs}{a:At}(x:ShA E B runs a){k i:Nat}(hk:k<i)(hi:i<E.length):beforeR a (k:Int) (i:Int)=(1,0):=by
 have h:=beforeR_ok x.right x.ne (f:=k) (t:=i) (x.ev (by omega)) (x.ev hi)
 rw[x.betw (by omega) hi] at h
 have:=x.e.lt hk hi
 rw[h,if_pos (by simp only;omega)]
theorem ShA.wag {E:List Int}{B:Int}{runs:Runs}{a:At}(x:ShA E B runs a){k i:Nat}(hk:k≤i)(hi:i<E.length){p:Int}(hp:0≤p∧p≤600):wagesR a (k:Int) (i:Int) p=((wage (E.getD i 0-E.getD k 0) p,wage (E.getD i 0-E.getD k 0) p),0):=by
 have:=x.betw hk hi
 rw[wagesR_ok x.right x.ne (x.ev (by omega)) (x.ev hi) hp]
 show((wage (Go.Ab.Tryz.betw k i (allM a)).1 p,wage (Go.Ab.Tryz.betw k i (allM a)).2 p),(0:Int))=_
 rw[this]
def sumW (E:List Int)(p:Int):Nat→Int
 |0=>0
 |i+1=>sumW E p i+wage (E.getD (i+1) 0-E.getD i 0) p
theorem wage_add {x y p:Int}(hx:0≤x)(hy:0≤y)(hp:0≤p):wage x p+wage y p≤wage (x+y) p∧wage (x+y) p≤wage x p+wage y p+1:=by
 rw[wage_eq hp,wage_eq hp,wage_eq hp,show max 0 x=x by omega,show max 0 y=y by omega,show max 0 (x+y)=x+y by omega,Int.add_mul]
 omega
theorem sumW_spec {E:List Int}(h:EndsE E){p:Int}(hp:0≤p):∀i,i<E.length→sumW E p i≤wage (E.getD i 0-E.getD 0 0) p∧wage (E.getD i 0-E.getD 0 0) p≤sumW E p i+i
 |0,_=>by rw[Int.sub_self,wage_none];simp[sumW]
 |i+1,hi=>by
  have ih:=sumW_spec h hp i (by omega)
  have h1:=h.lt (k:=i) (i:=i+1) (by omega) hi
  have h0:E.getD 0 0≤E.getD i 0:=by
   rcases Nat.eq_zero_or_pos i with e|e
   ·subst e;exact Int.le_refl _
   ·have:=h.lt (k:=0) (i:=i) e (by omega);omega
  have:=wage_add (x:=E.getD i 0-E.getD 0 0) (y:=E.getD (i+1) 0-E.getD i 0) (by omega) (by omega) hp
  rw[show E.getD i 0-E.getD 0 0+(E.getD (i+1) 0-E.getD i 0)=E.getD (i+1) 0-E.getD 0 0 by omega] at this
  simp only[sumW]
  omega
theorem wage_pos {n p:Int}(hn:0≤n)(hp:0≤p):0≤wage n p:=by
 rw[wage_eq hp,show max 0 n=n by omega]
 exact Int.ediv_nonneg (Int.mul_nonneg hn hp) (by omega)
end Go.Ab.Tryz
