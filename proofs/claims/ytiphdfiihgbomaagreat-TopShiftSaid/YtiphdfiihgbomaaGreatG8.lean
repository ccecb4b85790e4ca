/- TopShift, the law. TopShift: the ends of a run. TopShift: a mill of one loom, out of a spool. TopShift: a mill of one loom, made. TopShift: an attic that is made while a spool turns; its gaps. TopShift: clocks and what they showed. TopShift: what the attic says of the run. TopShift: from the clocks to the answer. -/
import Derived.Test.YtiphdfiihgbomaaGreatG7
import Derived.Test.YtiphdfiihgbomaaGreatG6
set_option linter.unusedSimpArgs false
set_option linter.unusedVariables false
namespace Go.Ab.Tryz
def stp (ch:Int)(s:Int × Int × Int)(o:Od):Int × Int × Int:=(o.p,s.2.1+(if s.1=o.p then 0 else 1)*ch+o.d,s.2.2+(if s.1=o.p then 0 else 1))
def stA (ch x:Int)(l:List Od):Int × Int × Int:=l.foldl (stp ch) (x,0,0)
theorem stA_snoc (ch x:Int)(l:List Od)(o:Od):stA ch x (l++[o])=stp ch (stA ch x l) o:=by simp[stA,List.foldl_append]
theorem foldO_bd {ch:Int}(hc:0≤ch∧ch≤3):∀(l:List Od) (s:Int × Int × Int),(∀o∈l,OdOk o)→(s.2.1≤(l.foldl (stp ch) s).2.1∧(l.foldl (stp ch) s).2.1≤s.2.1+9*(l.length:Int))∧s.2.2≤(l.foldl (stp ch) s).2.2∧(l.foldl (stp ch) s).2.2≤s.2.2+(l.length:Int)
 |[],s,_=>by simp
 |o::l,s,h=>by
  have ih:=foldO_bd hc l (stp ch s o) fun a ha=>h a (List.mem_cons_of_mem _ ha)
  have kd:=(h o (by simp)).d
  have e:(stp ch s o).2.1=s.2.1+(if s.1=o.p then 0 else 1)*ch+o.d∧(stp ch s o).2.2=s.2.2+(if s.1=o.p then 0 else 1):=⟨rfl,rfl⟩
  rw[List.foldl_cons,List.length_cons]
  split at e<;>omega
theorem stA_bd {ch x:Int}(hc:0≤ch∧ch≤3){l:List Od}(h:∀o∈l,OdOk o):(0≤(stA ch x l).2.1∧(stA ch x l).2.1≤9*(l.length:Int))∧0≤(stA ch x l).2.2∧(stA ch x l).2.2≤(l.length:Int):=by
 have:=foldO_bd hc l (x,0,0) h
 simp only at this
 unfold stA
 omega
theorem OwnSl.base' {h0 h1 h:H}{x:V}{sz:Nat}{rows:List (List V)}(a:OwnSl h1 h x sz rows)(hs:h0.Sub h1):OwnSl h0 h x sz rows:=by
 obtain⟨a0,a1,a2⟩:=a
 have:=hs.next
 exact⟨hs.trans a0,a1,a2.imp id fun⟨b,e,l1,l2,hb⟩=>⟨b,e,by omega,l2,hb⟩⟩
def endsL (ch x:Int)(os:List Od)(k:Nat):List Int:=(List.range k).map fun i=>(stA ch x (os.take (i+1))).2.1
theorem endsL_len (ch x:Int)(os:List Od)(k:Nat):(endsL ch x os k).length=k:=by simp[endsL]
theorem endsL_succ (ch x:Int)(os:List Od)(k:Nat):endsL ch x os (k+1)=endsL ch x os k++[(stA ch x (os.take (k+1))).2.1]:=by simp[endsL,List.range_succ]
theorem stA_lt {ch x:Int}(hc:0≤ch∧ch≤3){os:List Od}(ho:∀o∈os,OdOk o):∀{j i:Nat},i<j→j≤os.length→(stA ch x (os.take i)).2.1+1≤(stA ch x (os.take j)).2.1
 |0,i,h,_=>by omega
 |j+1,i,h,hj=>by
  have hj':j<os.length:=by omega
  have e:stA ch x (os.take (j+1))=stp ch (stA ch x (os.take j)) os[j]:=by rw[List.take_succ_eq_append_getElem hj',stA_snoc]
  have kd:=(ho _ (List.getElem_mem hj')).d
  have st:(stA ch x (os.take j)).2.1+1≤(stA ch x (os.take (j+1))).2.1:=by
   rw[e];simp only[stp];split<;>omega
  rcases Nat.lt_or_ge i j with h1|h1
  ·have:=stA_lt (x:=x) hc ho h1 (by omega);omega
  ·have:i=j:=by omega
   subst this;exact st
theorem endsL_ok {ch x:Int}(hc:0≤ch∧ch≤3){os:List Od}(ho:∀o∈os,OdOk o){k:Nat}(hk:k≤os.length)(h1:1≤k)(h4:k≤4):EndsE (endsL ch x os k):=by
 refine⟨by rw[endsL_len];omega,?_,fun e he=>?_⟩
 ·rw[List.pairwise_iff_getElem]
  intro i j hi hj hij
  rw[endsL_len] at hj
  simp only[endsL,List.getElem_map,List.getElem_range]
  have:=stA_lt (x:=x) hc ho (i:=i+1) (j:=j+1) (by omega) (by omega)
  omega
 ·simp only[endsL,List.mem_map,List.mem_range] at he
  obtain⟨i,hi,rfl⟩:=he
  have h2:=stA_lt (x:=x) hc ho (i:=0) (j:=i+1) (by omega) (by omega)
  have h3:=stA_bd (x:=x) hc (l:=os.take (i+1)) fun o h=>ho o (List.mem_of_mem_take h)
  rw[List.length_take] at h3
  have e0:(stA ch x (os.take 0)).2.1=0:=rfl
  omega
theorem changed_ev (a b:Int)(h:H)(Q:V→H→Prop):Ev fnG fastA (.fn 34 [] []) [.int .i64 a,.int .i64 b] h Q=Q (.int .i64 (if a=b then 0 else 1)) h:=by
 refine Ev.det (Ev_body (fd:=c34) rfl rfl rfl ?_) Q
 by_cases e:a=b
 ·simp -implicitDefEqProofs(maxSteps:=999999)(disch:=first|with_reducible rfl|omega|(simp only[nA,nS,nD]<;>omega)|fail)only[c34,go_sem,e]
 ·simp -implicitDefEqProofs(maxSteps:=999999)(disch:=first|with_reducible rfl|omega|(simp only[nA,nS,nD]<;>omega)|fail)only[c34,go_sem,e]
theorem weaves_ev {h:H}(hw:h.wf){L O:V}{x ch:Int}{ps:List (Od × V)}(m:MoAt h L O x ch ps)(ok:MoOk x ch ps){k:Nat}(hk:k<ps.length)(Q:V→H→Prop)(q:∀h',h.Sub h'→Q (.bool true) h'):Ev fnG fastA (.fn 33 [] []) [.agg [L,.int .i64 ch,O],.int .i64 0,.int .i64 (k:Int)] h Q:=by
 have L1:=m.l.one
 have O1:=m.o.sl.one
 refine Ev_body (fd:=c33) rfl rfl rfl ?_
 have s0:=(H.Sub.refl hw).add (.cells .rw [L,.int .i64 ch,O])
 have m0:=m.mono s0
 obtain⟨b,o,c,cs,_,hc,hq,_,hn,_⟩:=m0.o.sl.at hk
 have hv:nth (o+k*4+3) cs=some ps[k].2:=by rw[hn 3 (by omega)];rfl
 simp -implicitDefEqProofs(maxSteps:=999999)(disch:=first|with_reducible rfl|omega|(simp only[nA,nS,nD]<;>omega)|fail)only[c33,go_sem,L1,O1,cells_one L1,cells_one O1,hq (nat_cst k),hc,hv]
 refine hasInt_ev s0.wf (m0.o.on _ (List.getElem_mem hk)) 0 _ fun h2 s2=>?_
 simp -implicitDefEqProofs(maxSteps:=999999)(disch:=first|with_reducible rfl|omega|(simp only[nA,nS,nD]<;>omega)|fail)only[go_sem]
 exact q _ (s0.trans s2)
set_option maxHeartbeats 2000000 in
theorem lrun_ev {h h1:H}(hw:h.wf){L O R:V}{x ch:Int}{ps:List (Od × V)}(m:MoAt h L O x ch ps)(ok:MoOk x ch ps){k:Nat}(hk:k≤ps.length)(o:OwnSl h1 h R 1 ((upL k).map encI))(Q:V→H→Prop)(q:∀h',h.Sub h'→Q (.int .i64 0) h'):Ev fnG fastA (.fn 16 [] []) [.agg [L,.int .i64 ch,O],.int .i64 0,R] h Q:=by
 have L1:=m.l.one
 have O1:=m.o.sl.one
 have kn:=ok.n
 refine Ev_body (fd:=c16) rfl rfl rfl ?_
 have s0:h.Sub ((h.add (.cells .rw [L,.int .i64 ch,O])).add (.cells .rw [.int .i64 0])):=(by repeat(first|assumption|exact H.Sub.refl (by assumption)|refine H.Sub.add ?_ _|refine H.Sub.set ?_ (by first|omega|(simp only[H.next_add,H.next_set,H.next_del]<;>omega)) (by first|omega|(simp only[H.next_add,H.next_set,H.next_del]<;>omega)) (by assumption) _))
 have g0:((h.add (.cells .rw [L,.int .i64 ch,O])).add (.cells .rw [.int .i64 0])).cells h.next=some [L,.int .i64 ch,O]:=by simp -implicitDefEqProofs(maxSteps:=999999)(disch:=first|with_reducible rfl|omega|(simp only[nA,nS,nD]<;>omega)|fail)only[go_sem]
 have g1:((h.add (.cells .rw [L,.int .i64 ch,O])).add (.cells .rw [.int .i64 0])).cells (h.next+1)=some [.int .i64 0]:=by simp -implicitDefEqProofs(maxSteps:=999999)(disch:=first|with_reducible rfl|omega|(simp only[nA,nS,nD]<;>omega)|fail)only[go_sem]
 simp -implicitDefEqProofs(maxSteps:=999999)(disch:=first|with_reducible rfl|omega|(simp only[nA,nS,nD]<;>omega)|fail)only[c16,go_sem,L1,O1,cells_one L1,cells_one O1]
 generalize(h.add (.cells .rw [L,.int .i64 ch,O])).add (.cells .rw [.int .i64 0])=h0 at s0 g0 g1⊢
 refine lcheck_ev s0.wf (m.mono s0) ok _ fun h2 s2=>?_
 have s02:=s0.trans s2
 simp -implicitDefEqProofs(maxSteps:=999999)(disch:=first|with_reducible rfl|omega|(simp only[nA,nS,nD]<;>omega)|fail)only[go_sem,ne_eq,not_true_eq_false,s2.cells g0,s2.cells g1]
 refine loomR_ev s2.wf (m.mono s02) 0 _ fun h3 s3=>?_
 have i0:inB 0 0 0=true:=inB_iff.2 (by omega)
 rw[i0]
 have s23:=s2.trans s3
 have s03:=s0.trans s23
 simp -implicitDefEqProofs(maxSteps:=999999)(disch:=first|with_reducible rfl|omega|(simp only[nA,nS,nD]<;>omega)|fail)only[go_sem,Bool.not_true,s23.cells g0]
 refine listed_ev s3.wf (m.mono s03) ok hk (o.mono s03) _ fun h4 s4=>?_
 have s24:=s23.trans s4
 have s04:=s0.trans s24
 simp -implicitDefEqProofs(maxSteps:=999999)(disch:=first|with_reducible rfl|omega|(simp only[nA,nS,nD]<;>omega)|fail)only[go_sem,ne_eq,not_true_eq_false]
 refine(everyLi_ev (p:=fun _=>true) (l:=upL k) s4.wf ((o.mono s04).sl (by rw[List.length_map,upL_len];omega)) fun a ha h5 s5=>?_).mono fun u h5 hu=>?_
 ·obtain⟨a0,a1⟩:=upL_mem.1 ha
  obtain⟨i,rfl⟩:=Int.eq_ofNat_of_zero_le a0
  have s25:=s24.trans s5
  refine Ev_body (fd:=c32) rfl rfl rfl ?_
  simp -implicitDefEqProofs(maxSteps:=999999)(disch:=first|with_reducible rfl|omega|(simp only[nA,nS,nD]<;>omega)|fail)only[c32,go_sem,s25.cells g0,s25.cells g1]
  refine weaves_ev s5.wf (m.mono (s0.trans s25)) ok (k:=i) (by omega) _ fun h6 s6=>?_
  simp -implicitDefEqProofs(maxSteps:=999999)(disch:=first|with_reducible rfl|omega|(simp only[nA,nS,nD]<;>omega)|fail)only[go_sem]
  first|exact⟨rfl,s6⟩|exact s6
 ·obtain⟨rfl,s5⟩:=hu
  have ea:((upL k).all fun _=>true)=true:=List.all_eq_true.2 fun _ _=>rfl
  rw[ea]
  simp -implicitDefEqProofs(maxSteps:=999999)(disch:=first|with_reducible rfl|omega|(simp only[nA,nS,nD]<;>omega)|fail)only[go_sem,Bool.not_true]
  exact q _ (s04.trans s5)
set_option maxHeartbeats 4000000 in
theorem ran_ev {h h1:H}(hw:h.wf){L O R:V}{x ch:Int}{ps:List (Od × V)}(m:MoAt h L O x ch ps)(ok:MoOk x ch ps){k:Nat}(hk:k≤ps.length)(o:OwnSl h1 h R 1 ((upL k).map encI))(Q:V→H→Prop)
  (q:∀E h',OwnSl h h' E 1 ((endsL ch x (ps.map Prod.fst) k).map encI)→Q (.tup [E,.int .i64 (stA ch x ((ps.map Prod.fst).take k)).2.2]) h'):Ev fnG fastA (.fn 17 [] []) [.agg [L,.int .i64 ch,O],.int .i64 0,R] h Q:=by
 have L1:=m.l.one
 have O1:=m.o.sl.one
 have kn:=ok.n;have kc:=ok.ch;have kx:=ok.x
 refine Ev_body (fd:=c17) rfl rfl rfl ?_
 have s0:=(H.Sub.refl hw).add (.cells .rw [L,.int .i64 ch,O])
 have g0:(h.add (.cells .rw [L,.int .i64 ch,O])).cells h.next=some [L,.int .i64 ch,O]:=cells_add_new rfl
 have m0:=m.mono s0
 have aR:=(o.mono s0).sl (by rw[List.length_map,upL_len];omega)
 have lR:=aR.lenE
 rw[upL_len] at lR
 obtain⟨bL,oL,cL,csL,_,hcL,hqL,_,_,hnL⟩:=m0.l.at (l:=[x]) (k:=0) (by simp)
 have hvL:nth oL csL=some (.int .i64 x):=by
  have:=hnL (by omega)
  rw[Nat.zero_mul,Nat.add_zero] at this;exact this
 have hqL:q_iad 1 L (.int .i64 0)=some (.ptr bL oL):=by
  have:=hqL (nat_cst 0)
  rw[Nat.zero_mul,Nat.add_zero] at this;exact this
 simp -implicitDefEqProofs(maxSteps:=999999)(disch:=first|with_reducible rfl|omega|(simp only[nA,nS,nD]<;>omega)|fail)only[c17,go_sem,L1,O1,cells_one L1,cells_one O1,hqL,hcL,hvL,lR]
 generalize h.add (.cells .rw [L,.int .i64 ch,O])=h0 at s0 g0 m0 aR hcL⊢
 obtain⟨os,hos⟩:∃os,ps.map Prod.fst=os:=⟨_,rfl⟩
 have lo:os.length=ps.length:=by rw[←hos,List.length_map]
 have oko:∀o∈os,OdOk o:=fun o ho=>by
  rw[←hos] at ho
  obtain⟨p,hp,rfl⟩:=List.mem_map.1 ho
  exact ok.o p hp
 rw[hos] at q
 refine W_count k (fun i s=>∃tm h' E,s=⟨tm,h',[]⟩∧OwnSl h0 h' E 1 ((endsL ch x os i).map encI)∧(Opd.t 3).ev tm=.ptr h.next 0∧(Opd.t 8).ev tm=E∧(Opd.t 9).ev tm=.int .i64 (stA ch x (os.take i)).1∧(Opd.t 10).ev tm=.int .i64 (stA ch x (os.take i)).2.1∧(Opd.t 11).ev tm=.int .i64 (stA ch x (os.take i)).2.2∧(Opd.t 21).ev tm=R∧(Opd.t 22).ev tm=.int .i64 (k:Int)∧(Opd.t 23).ev tm=.int .i64 (i:Int)) ?_ ?_ (i:=0) (Nat.zero_le _)
  ⟨_,_,.nils,rfl,OwnSl.nil (H.Sub.refl s0.wf) 1,(by simp[ev_c,ev_put]<;>rfl),(by simp[ev_c,ev_put]<;>rfl),(by simp[ev_c,ev_put]<;>rfl),(by simp[ev_c,ev_put]<;>rfl),(by simp[ev_c,ev_put]<;>rfl),(by simp[ev_c,ev_put]<;>rfl),(by simp[ev_c,ev_put]<;>rfl),(by simp only[ev_put];rfl)⟩
 ·rintro i s hi ⟨tm,h',E,rfl,oE,t3,t8,t9,t10,t11,t21,t22,t23⟩
  have hi':(i:Int)<(k:Int):=by omega
  have hil:i<(upL k).length:=by rw[upL_len];exact hi
  have hio:i<os.length:=by omega
  have hip:i<ps.length:=by omega
  have s1:=oE.1
  obtain⟨b,oo',c,cs,_,hc,hq,_,_,hn⟩:=(aR.mono s1).at hil
  have hv:nth (oo'+i*1) cs=some (.int .i64 (i:Int)):=by rw[hn (by omega),upL_at hil];rfl
  obtain⟨b2,o2,c2,cs2,_,hc2,hq2,hg2,_,_⟩:=(m0.o.sl.mono s1).at hip
  have v1:ps[i].2.one=true:=(m.o.on _ (List.getElem_mem hip)).one
  have eo:os[i]=ps[i].1:=by simp only[←hos,List.getElem_map]
  have kd:=(oko _ (List.getElem_mem hio)).d
  rw[eo] at kd
  have bd:=stA_bd (x:=x) kc (l:=os.take i) fun o ho=>oko o (List.mem_of_mem_take ho)
  rw[List.length_take] at bd
  have st:stA ch x (os.take (i+1))=stp ch (stA ch x (os.take i)) ps[i].1:=by rw[List.take_succ_eq_append_getElem hio,stA_snoc,eo]
  have sA:=(H.Sub.refl s1.wf).add (.cells .rw (encOd ps[i]))
  have gA:(h'.add (.cells .rw (encOd ps[i]))).cells h'.next=some (encOd ps[i]):=cells_add_new rfl
  have g1:=s1.cells g0
  have gA0:=sA.cells g1
  simp only[encOd] at hg2 sA gA gA0
  obtain⟨la,nw,cg,hst⟩:∃la nw cg,stA ch x (os.take i)=(la,nw,cg):=⟨_,_,_,rfl⟩
  rw[hst] at t9 t10 t11 bd st
  simp only at t9 t10 t11 bd
  simp -implicitDefEqProofs(maxSteps:=999999)(disch:=first|with_reducible rfl|omega|(simp only[nA,nS,nD]<;>omega)|fail)only[go_sem,t3,t8,t9,t10,t11,t21,t22,t23,hi',hq (nat_cst i),hc,hv,g1,hq2 (nat_cst i),hc2,hg2,v1,cells_one v1]
  generalize hz:h'.add _=hA at sA gA gA0⊢
  clear hz
  obtain⟨n,hn1,hn2⟩:∃n:Int,(if la=ps[i].1.p then(0:Int) else 1)=n∧(n=0∨n=1):=⟨_,rfl,by split<;>omega⟩
  have w1:wr .i64 (n*ch)=n*ch:=by rcases hn2 with rfl|rfl<;>exact wr_in (by omega) (by omega)
  have w2:wr .i64 (nw+n*ch)=nw+n*ch:=by rcases hn2 with rfl|rfl<;>exact wr_in (by omega) (by omega)
  have w3:wr .i64 (nw+n*ch+ps[i].1.d)=nw+n*ch+ps[i].1.d:=by rcases hn2 with rfl|rfl<;>exact wr_in (by omega) (by omega)
  have w4:wr .i64 (cg+n)=cg+n:=wr_in (by omega) (by omega)
  simp -implicitDefEqProofs(maxSteps:=999999)(disch:=first|with_reducible rfl|omega|(simp only[nA,nS,nD]<;>omega)|fail)only[go_sem,t3,t8,t9,t10,t11,t21,t22,t23,gA,gA0,changed_ev,hn1,w1,w2,w3,w4]
  have sB:=(H.Sub.refl sA.wf).add (.cells .rw [.int .i64 (nw+n*ch+ps[i].1.d)])
  have hle:(endsL ch x os i).length≤5:=by rw[endsL_len];omega
  refine(oE.mono (sA.trans sB)).app1 (by_:=8) (r:=encI (nw+n*ch+ps[i].1.d)) s0.wf rfl (by omega) (SlAt.new _ rfl rfl (by simp[encI]) (by simp[encI]) (by simp)) rfl (by rw[List.length_map];omega) (by rw[List.length_map];omega) fun h4 o4 k4 n4=>?_
  rw[H.next_add] at o4
  have st':stA ch x (os.take (i+1))=(ps[i].1.p,nw+n*ch+ps[i].1.d,cg+n):=by rw[st,stp,←hn1]
  simp -implicitDefEqProofs(maxSteps:=999999)(disch:=first|with_reducible rfl|omega|(simp only[nA,nS,nD]<;>omega)|fail)only[go_sem,t3,t8,t9,t10,t11,t21,t22,t23,wr_succ]
  exact⟨_,_,_,rfl,by rw[endsL_succ,List.map_append,st'];exact o4,(by simp[ev_c,ev_put,t3]<;>rfl),(by simp[ev_c,ev_put]<;>rfl),by rw[st'];exact(by simp[ev_c,ev_put]<;>rfl),by rw[st'];exact(by simp[ev_c,ev_put]<;>rfl),by rw[st'];exact(by simp[ev_c,ev_put]<;>rfl),(by simp[ev_c,ev_put,t21]<;>rfl),(by simp[ev_c,ev_put,t22]<;>rfl),(by simp[ev_c,ev_put]<;>rfl)⟩
 ·rintro s ⟨tm,h',E,rfl,oE,t3,t8,t9,t10,t11,t21,t22,t23⟩
  simp -implicitDefEqProofs(maxSteps:=999999)(disch:=first|with_reducible rfl|omega|(simp only[nA,nS,nD]<;>omega)|fail)only[go_sem,t8,t11,t22,t23,Int.lt_irrefl]
  exact q _ _ (OwnSl.base' oE s0)
set_option maxHeartbeats 2000000 in
theorem Run_ev {h h1:H}(hw:h.wf){L O R:V}{x ch:Int}{ps:List (Od × V)}(m:MoAt h L O x ch ps)(ok:MoOk x ch ps){k:Nat}(hk:k≤ps.length)(o:OwnSl h1 h R 1 ((upL k).map encI))(Q:V→H→Prop)
  (q:∀E h',OwnSl h h' E 1 ((endsL ch x (ps.map Prod.fst) k).map encI)→Q (.tup [E,.int .i64 (stA ch x ((ps.map Prod.fst).take k)).2.2,.int .i64 0]) h'):Ev fnG fastA (.fn 6 [] []) [.agg [L,.int .i64 ch,O],.int .i64 0,R] h Q:=by
 have L1:=m.l.one
 have O1:=m.o.sl.one
 refine Ev_body (fd:=c6) rfl rfl rfl ?_
 have s0:=(H.Sub.refl hw).add (.cells .rw [L,.int .i64 ch,O])
 have g0:(h.add (.cells .rw [L,.int .i64 ch,O])).cells h.next=some [L,.int .i64 ch,O]:=cells_add_new rfl
 simp -implicitDefEqProofs(maxSteps:=999999)(disch:=first|with_reducible rfl|omega|(simp only[nA,nS,nD]<;>omega)|fail)only[c6,go_sem,L1,O1,cells_one L1,cells_one O1]
 generalize h.add (.cells .rw [L,.int .i64 ch,O])=h0 at s0 g0⊢
 refine lrun_ev s0.wf (m.mono s0) ok hk (o.mono s0) _ fun h2 s2=>?_
 have s02:=s0.trans s2
 simp -implicitDefEqProofs(maxSteps:=999999)(disch:=first|with_reducible rfl|omega|(simp only[nA,nS,nD]<;>omega)|fail)only[go_sem,ne_eq,not_true_eq_false,s2.cells g0]
 refine ran_ev s2.wf (m.mono s02) ok hk (o.mono s02) _ fun E h3 oE=>?_
 simp -implicitDefEqProofs(maxSteps:=999999)(disch:=first|with_reducible rfl|omega|(simp only[nA,nS,nD]<;>omega)|fail)only[go_sem]
 exact q _ _ (OwnSl.base' oE s02)
end Go.Ab.Tryz
namespace Go.Ab
def navU:List Bool→C→C
 |[],c=>c
 |b::p,.seq x y=>match b with|true=>navU p y|false=>navU p x
 |b::p,.cond _ x y=>match b with|true=>navU p y|false=>navU p x
 |_::p,.block _ x=>navU p x
 |_::p,.loop x=>navU p x
 |_::p,.scope x=>navU p x
 |_::_,c=>c
namespace Tryz
theorem Once_ev {h0 h:H}{p:Nat}{x:V}{bs:List Int}{T:Int}(hs:h0.Sub h)(hw0:h0.wf)(hx:SlAt h0 x 1 (bs.map encU8))(hp0:h0.next≤p)(hp:SpAt h p x T)(hT:0≤T∧T≤1000000000){n:Int}(hn:0≤n∧n≤1000000)(Q:V→H→Prop)
  (q:∀t h',h0.Sub h'→SpAt h' p x (T+1)→Keeps (fun b=>b=p) h h'→h'.next=h.next→Q (.bool t) h'):Ev fnG fastA (.fn 10 [] []) [.ptr p 0,.int .i64 n] h Q:=by
 refine Ev_body (fd:=c10) rfl rfl rfl ?_
 simp -implicitDefEqProofs(maxSteps:=999999)(disch:=first|with_reducible rfl|omega|(simp only[nA,nS,nD]<;>omega)|fail)only[c10,go_sem,wr_in]
 refine Upto_ev hs hw0 hx hp0 hp hT (by omega) _ fun r h' r0 r1 s' p' k' n'=>?_
 simp -implicitDefEqProofs(maxSteps:=999999)(disch:=first|with_reducible rfl|omega|(simp only[nA,nS,nD]<;>omega)|fail)only[go_sem]
 exact q _ _ s' p' k' n'
structure Sq (h0:H)(p:Nat)(y:V)(bs:List Int)(T:Int)(h:H):Prop where
 w0:h0.wf
 hy:SlAt h0 y 1 (bs.map encU8)
 p0:h0.next≤p
 s:h0.Sub h
 sp:SpAt h p y T
 T:0≤T∧T≤1000
theorem Sq.lt {h0 h:H}{p:Nat}{y:V}{bs:List Int}{T:Int}(a:Sq h0 p y bs T h):p<h.next:=by
 obtain⟨st,g⟩:=a.sp
 exact H.lt_next a.s.wf g
theorem Sq.mono {h0 h h':H}{p:Nat}{y:V}{bs:List Int}{T:Int}(a:Sq h0 p y bs T h)(s:h.Sub h'):Sq h0 p y bs T h':=⟨a.w0,a.hy,a.p0,a.s.trans s,a.sp.mono s,a.T⟩
theorem Sq.keep {h0 h h':H}{p:Nat}{y:V}{bs:List Int}{T:Int}{S:Nat→Prop}(a:Sq h0 p y bs T h)(k:Keeps S h h')(n:¬S p)(s:h0.Sub h'):Sq h0 p y bs T h':=⟨a.w0,a.hy,a.p0,s,a.sp.keep k n,a.T⟩
theorem Sq.upto {h0 h:H}{p:Nat}{y:V}{bs:List Int}{T:Int}(a:Sq h0 p y bs T h)(hT:T<1000){n:Int}(hn:0≤n∧n≤1000000)(Q:V→H→Prop)
  (q:∀r h',0≤r→r≤n→Sq h0 p y bs (T+1) h'→Keeps (fun c=>c=p) h h'→h'.next=h.next→Q (.int .i64 r) h'):Ev fnG fastA (.fn 8 [] []) [.ptr p 0,.int .i64 n] h Q:=
 Upto_ev a.s a.w0 a.hy a.p0 a.sp (by have:=a.T;omega) (by omega) Q fun r h' r0 r1 s' p' k' n'=>q r h' r0 (by omega) ⟨a.w0,a.hy,a.p0,s',p',by have:=a.T;omega⟩ k' n'
theorem Sq.frm {h0 h:H}{p:Nat}{y:V}{bs:List Int}{T:Int}(a:Sq h0 p y bs T h)(hT:T<1000){lo hi:Int}(hlo: -1000≤lo∧lo≤1000)(hhi:lo≤hi∧hi≤1000)(Q:V→H→Prop)
  (q:∀r h',lo≤r→r≤hi→Sq h0 p y bs (T+1) h'→Keeps (fun c=>c=p) h h'→h'.next=h.next→Q (.int .i64 r) h'):Ev fnG fastA (.fn 9 [] []) [.ptr p 0,.int .i64 lo,.int .i64 hi] h Q:=
 From_ev a.s a.w0 a.hy a.p0 a.sp (by have:=a.T;omega) (by omega) (by omega) Q fun r h' r0 r1 s' p' k' n'=>q r h' r0 (by omega) ⟨a.w0,a.hy,a.p0,s',p',by have:=a.T;omega⟩ k' n'
theorem Sq.once {h0 h:H}{p:Nat}{y:V}{bs:List Int}{T:Int}(a:Sq h0 p y bs T h)(hT:T<1000){n:Int}(hn:0≤n∧n≤1000)(Q:V→H→Prop)
  (q:∀t h',Sq h0 p y bs (T+1) h'→Keeps (fun c=>c=p) h h'→h'.next=h.next→Q (.bool t) h'):Ev fnG fastA (.fn 10 [] []) [.ptr p 0,.int .i64 n] h Q:=
 Once_ev a.s a.w0 a.hy a.p0 a.sp (by have:=a.T;omega) (by omega) Q fun t h' s' p' k' n'=>q t h' ⟨a.w0,a.hy,a.p0,s',p',by have:=a.T;omega⟩ k' n'
structure Kpt (h:H)(p c7:Nat)(O v:V)(rows:List (List V)):Prop where
 sl:SlAt h v 1 rows
 n:∀b,blkOf v b→b<h.next∧b≠p∧c7<b∧¬blkOf O b
theorem Kpt.mono {h h':H}{p c7:Nat}{O v:V}{rows:List (List V)}(a:Kpt h p c7 O v rows)(s:h.Sub h'):Kpt h' p c7 O v rows:=⟨a.sl.mono s,fun b hb=>by have:=a.n b hb;have:=s.next;exact⟨by omega,by omega,by omega,(a.n b hb).2.2.2⟩⟩
theorem Kpt.keep {h h':H}{p c7:Nat}{O v:V}{rows:List (List V)}{S:Nat→Prop}(a:Kpt h p c7 O v rows)(k:Keeps S h h')(n:∀b,blkOf v b→¬S b):Kpt h' p c7 O v rows:=⟨SlAt_keep a.sl k n,fun b hb=>by have:=a.n b hb;have:=k.1;exact⟨by omega,by omega,by omega,(a.n b hb).2.2.2⟩⟩
structure Mq (h0:H)(p c6 c7:Nat)(y:V)(bs:List Int)(T:Int)(L O:V)(x ch:Int)(ps:List (Od × V))(h:H):Prop where
 q:Sq h0 p y bs T h
 c0:h0.next≤c7
 cp:c7≠p
 n6:c6≠p∧c6<c7∧h0.next≤c6
 g:h.get c7=some (.cells .rw [L,.int .i64 ch,O])
 g6:h.get c6=some (.cells .rw [.nils,.int .i64 0,.nils])
 l:Kpt h p c7 O L (([x]:List Int).map encI)
 o:OwnSl h0 h O 4 (ps.map encOd)
 on:∀o∈ps,Kpt h p c7 O o.2 (([0]:List Int).map encI)
theorem Mq.mono {h0 h h':H}{p c6 c7:Nat}{y:V}{bs:List Int}{T:Int}{L O:V}{x ch:Int}{ps:List (Od × V)}(a:Mq h0 p c6 c7 y bs T L O x ch ps h)(s:h.Sub h'):Mq h0 p c6 c7 y bs T L O x ch ps h':=
 ⟨a.q.mono s,a.c0,a.cp,a.n6,s.get a.g,s.get a.g6,a.l.mono s,a.o.mono s,fun o ho=>(a.on o ho).mono s⟩
theorem Mq.spin {h0 h h':H}{p c6 c7:Nat}{y:V}{bs:List Int}{T T':Int}{L O:V}{x ch:Int}{ps:List (Od × V)}(a:Mq h0 p c6 c7 y bs T L O x ch ps h)(q:Sq h0 p y bs T' h')(k:Keeps (fun c=>c=p) h h'):Mq h0 p c6 c7 y bs T' L O x ch ps h':=
 ⟨q,a.c0,a.cp,a.n6,k.2 _ _ a.g a.cp,k.2 _ _ a.g6 a.n6.1,a.l.keep k fun b hb=>(a.l.n b hb).2.1,a.o.keep k q.s fun b hb e=>by subst e;obtain⟨st,gp⟩:=a.q.sp;exact a.o.ne gp hb,fun o ho=>(a.on o ho).keep k fun b hb=>((a.on o ho).n b hb).2.1⟩
theorem Mq.lt {h0 h:H}{p c6 c7:Nat}{y:V}{bs:List Int}{T:Int}{L O:V}{x ch:Int}{ps:List (Od × V)}(a:Mq h0 p c6 c7 y bs T L O x ch ps h):c7<h.next:=H.lt_next a.q.s.wf a.g
structure Tt (p c6 c7:Nat)(b n:Int)(i:Nat)(tm:T V):Prop where
 t0:(Opd.t 0).ev tm=.ptr p 0
 t6:(Opd.t 6).ev tm=.ptr c6 0
 t7:(Opd.t 7).ev tm=.ptr c7 0
 t8:(Opd.t 8).ev tm=.int .i64 b
 t31:(Opd.t 31).ev tm=.int .i64 n
 t32:(Opd.t 32).ev tm=.int .i64 (i:Int)
structure Rw (h0 hs:H)(p c9:Nat)(y:V)(bs:List Int)(T r1 r2 r3:Int)(On:V)(l:List Int)(h:H):Prop where
 q:Sq h0 p y bs T h
 k:Keeps (fun c=>c=p) hs h
 k9:hs.next≤c9∧p<c9
 g:h.get c9=some (.cells .rw [.int .i64 r1,.int .i64 r2,.int .i64 r3,On])
 on:OwnSl h0 h On 1 (l.map encI)
 nb:∀b,blkOf On b→c9<b
theorem Rw.mono {h0 hs h h':H}{p c9:Nat}{y:V}{bs:List Int}{T r1 r2 r3:Int}{On:V}{l:List Int}(a:Rw h0 hs p c9 y bs T r1 r2 r3 On l h)(s:h.Sub h'):Rw h0 hs p c9 y bs T r1 r2 r3 On l h':=
 ⟨a.q.mono s,(a.k.trans (Keeps.of s fun c=>c=p)).mono (fun c=>Or.rec id id),a.k9,s.get a.g,a.on.mono s,a.nb⟩
theorem Rw.spin {h0 hs h h':H}{p c9:Nat}{y:V}{bs:List Int}{T T' r1 r2 r3:Int}{On:V}{l:List Int}(a:Rw h0 hs p c9 y bs T r1 r2 r3 On l h)(q:Sq h0 p y bs T' h')(k:Keeps (fun c=>c=p) h h'):Rw h0 hs p c9 y bs T' r1 r2 r3 On l h':=
 ⟨q,(a.k.trans k).mono (fun c=>Or.rec id id),a.k9,k.2 _ _ a.g (by have:=a.k9;omega),a.on.keep k q.s fun b hb e=>by have:=a.nb b hb;have:=a.k9;omega,a.nb⟩
theorem Rw.put {h0 hs h:H}{p c9:Nat}{y:V}{bs:List Int}{T r1 r2 r3:Int}{On On':V}{l l':List Int}(a:Rw h0 hs p c9 y bs T r1 r2 r3 On l h)(hw:hs.wf)(s0:h0.next≤hs.next)(o:OwnSl h0 h On' 1 (l'.map encI))(nb:∀b,blkOf On' b→c9<b):
  Rw h0 hs p c9 y bs T r1 r2 r3 On' l' (h.set c9 (.cells .rw [.int .i64 r1,.int .i64 r2,.int .i64 r3,On'])):=by
 have k9:=a.k9
 have lt:=H.lt_next a.q.s.wf a.g
 have kk:=Keeps.set h c9 (.cells .rw [.int .i64 r1,.int .i64 r2,.int .i64 r3,On'])
 have ss:=a.q.s.set (by omega) lt a.q.w0 (.cells .rw [.int .i64 r1,.int .i64 r2,.int .i64 r3,On'])
 exact⟨a.q.keep kk (by omega) ss,Keeps.new hw ((a.k.trans kk).mono fun c hc=>hc.imp id fun e=>by omega),a.k9,get_set_same rfl,o.keep kk ss fun b hb e=>by have:=nb b hb;omega,nb⟩
theorem Rw.putS {h0 hs h:H}{p c9:Nat}{y:V}{bs:List Int}{T r1 r2 r3:Int}{On:V}{l:List Int}(a:Rw h0 hs p c9 y bs T r1 r2 r3 On l h)(hw:hs.wf)(s0:h0.next≤hs.next)(v:V):
  Sq h0 p y bs T (h.set c9 (.cells .rw [.int .i64 r1,.int .i64 r2,.int .i64 r3,v]))∧Keeps (fun c=>c=p) hs (h.set c9 (.cells .rw [.int .i64 r1,.int .i64 r2,.int .i64 r3,v])):=by
 have k9:=a.k9
 have lt:=H.lt_next a.q.s.wf a.g
 have kk:=Keeps.set h c9 (.cells .rw [.int .i64 r1,.int .i64 r2,.int .i64 r3,v])
 have ss:=a.q.s.set (by omega) lt a.q.w0 (.cells .rw [.int .i64 r1,.int .i64 r2,.int .i64 r3,v])
 exact⟨a.q.keep kk (by omega) ss,Keeps.new hw ((a.k.trans kk).mono fun c hc=>hc.imp id fun e=>by omega)⟩
theorem Mq.kpt {h0 hs h:H}{p c6 c7 c9:Nat}{y:V}{bs:List Int}{T:Int}{L O v:V}{x ch:Int}{ps:List (Od × V)}{rows:List (List V)}(m:Mq h0 p c6 c7 y bs T L O x ch ps hs)(k9:hs.next≤c9)(a:SlAt h v 1 rows)(nb:∀b,blkOf v b→c9<b∧b<h.next):Kpt h p c7 O v rows:=
 ⟨a,fun b hb=>by
  have:=nb b hb
  have:=m.lt
  have:=m.q.lt
  exact⟨by omega,by omega,by omega,fun e=>by have:=(m.o.blk e).2.1;omega⟩⟩
theorem Kpt.keepO {h h':H}{p c7:Nat}{O O' v:V}{rows:List (List V)}{S:Nat→Prop}(a:Kpt h p c7 O v rows)(k:Keeps S h h')(n:∀b,blkOf v b→¬S b)(lo:∀b,blkOf O' b→h.next≤b):Kpt h' p c7 O' v rows:=
 ⟨SlAt_keep a.sl k n,fun b hb=>by have:=a.n b hb;have:=k.1;exact⟨by omega,by omega,by omega,fun e=>by have:=lo b e;omega⟩⟩
theorem Mq.app {h0 h h5:H}{p c6 c7:Nat}{y:V}{bs:List Int}{T:Int}{L O O':V}{x ch:Int}{ps:List (Od × V)}(m:Mq h0 p c6 c7 y bs T L O x ch ps h){o:Od × V}(o5:OwnSl h0 h5 O' 4 ((ps++[o]).map encOd))(k5:Keeps (blkOf O) h h5)(lo:∀b,blkOf O' b→h.next≤b)(on:Kpt h p c7 O o.2 (([0]:List Int).map encI)):
  Mq h0 p c6 c7 y bs T L O' x ch (ps++[o]) (h5.set c7 (.cells .rw [L,.int .i64 ch,O'])):=by
 have gp:=m.q.sp
 have lt7:=m.lt
 have kk:=Keeps.set h5 c7 (.cells .rw [L,.int .i64 ch,O'])
 have k0:=k5.1
 have ss:=o5.1.set m.c0 (by omega) m.q.w0 (.cells .rw [L,.int .i64 ch,O'])
 have kt:=k5.trans kk
 have np:¬blkOf O p:=by obtain⟨st,gp⟩:=gp;exact m.o.ne gp
 have kq:∀v rows,Kpt h p c7 O v rows→Kpt (h5.set c7 (.cells .rw [L,.int .i64 ch,O'])) p c7 O' v rows:=fun v rows a=>a.keepO kt (fun b hb hs=>hs.elim (a.n b hb).2.2.2 fun e=>by have:=(a.n b hb).2.2.1;omega) lo
 refine⟨m.q.keep kt (fun e=>e.elim np fun e=>m.cp e.symm) ss,m.c0,m.cp,m.n6,get_set_same rfl,kt.2 _ _ m.g6 fun e=>e.elim (m.o.ne m.g6) fun e=>by have:=m.n6.2.1;omega,kq _ _ m.l,o5.keep kk ss fun b hb e=>by have:=lo b hb;omega,fun a ha=>?_⟩
 rcases List.mem_append.1 ha with ha|ha
 ·exact kq _ _ (m.on a ha)
 ·rw[List.mem_singleton] at ha;subst ha;exact kq _ _ on
set_option maxHeartbeats 4000000 in
theorem rowend_ev {h0 h:H}{p c6 c7 c9:Nat}{y:V}{bs:List Int}{T:Int}{L O:V}{x ch:Int}{ps:List (Od × V)}(m:Mq h0 p c6 c7 y bs T L O x ch ps h)(hps:ps.length≤4){r1 r2 r3:Int}{On:V}(g:h.get c9=some (.cells .rw [.int .i64 r1,.int .i64 r2,.int .i64 r3,On]))(on:Kpt h p c7 O On (([0]:List Int).map encI)){b n:Int}{i:Nat}{tm:Go.Ab.T V}(a:Tt p c6 c7 b n i tm)(t9:(Opd.t 9).ev tm=.ptr c9 0){ro:Option Nat}:
  W fnG fastA 77 4 ro (navU [true,true,true,true,false,true,true,true,true,true,false,true,true,true,true] c4.body) ⟨tm,h,[]⟩ fun x1 s=>x1=.nrm∧∃(tm':Go.Ab.T V) (h':H) (O':V),s=⟨tm',h',[]⟩∧Mq h0 p c6 c7 y bs T L O' x ch (ps++[(⟨r1,r2,r3⟩,On)]) h'∧Tt p c6 c7 b n i tm':=by
 obtain⟨t0,t6,t7,t8,t31,t32⟩:=a
 have gA:=cells_of m.g
 have g9:=cells_of g
 have v1:=on.sl.one
 have vL:=m.l.sl.one
 have vO:=(m.o.sl (by rw[List.length_map];omega)).one
 simp only[navU,c4]
 simp -implicitDefEqProofs(maxSteps:=999999)(disch:=first|with_reducible rfl|omega|(simp only[nA,nS,nD]<;>omega)|fail)only[go_sem,t7,t9,gA,g9,v1,cells_one v1,vO,cells_one vO]
 have s1:=(H.Sub.refl m.q.s.wf).add (.cells .rw [.int .i64 r1,.int .i64 r2,.int .i64 r3,On])
 have m1:=m.mono s1
 have on1:=on.mono s1
 refine m1.o.app1 (by_:=48) (r:=[.int .i64 r1,.int .i64 r2,.int .i64 r3,On]) m.q.w0 rfl (by omega) (SlAt.new _ rfl rfl (by simp) (by simp) (by simp)) (by simp[allOne,one_int,v1]) (by rw[List.length_map];omega) (by rw[List.length_map];omega) fun h5 o5 k5 n5=>?_
 have o5':OwnSl h0 h5 (.sl (h.add (.cells .rw [.int .i64 r1,.int .i64 r2,.int .i64 r3,On])).next 0 ((ps.map encOd).length+1) (.slk 0 0)) 4 ((ps++[((⟨r1,r2,r3⟩:Od),On)]).map encOd):=by rw[List.map_append];exact o5
 have m5:=m1.app o5' k5 (fun b hb=>by obtain⟨_,_,_,e⟩:=hb;cases e;exact Nat.le_refl _) on1
 have g5:=k5.2 _ _ m1.g (m1.o.ne m1.g)
 simp only[H.next_add] at m5
 simp -implicitDefEqProofs(maxSteps:=999999)(disch:=first|with_reducible rfl|omega|(simp only[nA,nS,nD]<;>omega)|fail)only[go_sem,t7,g5]
 exact⟨_,_,_,rfl,m5,⟨(by simp[ev_c,ev_put,t0]<;>rfl),(by simp[ev_c,ev_put,t6]<;>rfl),(by simp[ev_c,ev_put,t7]<;>rfl),(by simp[ev_c,ev_put,t8]<;>rfl),(by simp[ev_c,ev_put,t31]<;>rfl),(by simp[ev_c,ev_put,t32]<;>rfl)⟩⟩
set_option maxHeartbeats 4000000 in
theorem row_ev {h0 h:H}{p c6 c7:Nat}{y:V}{bs:List Int}{T:Int}{L O:V}{x ch:Int}{ps:List (Od × V)}(m:Mq h0 p c6 c7 y bs T L O x ch ps h)(hT:T≤900)(hps:ps.length≤4){b n:Int}(hb:6≤b∧b≤24){i:Nat}{tm:Go.Ab.T V}(a:Tt p c6 c7 b n i tm){ro:Option Nat}:
  W fnG fastA 77 4 ro (navU [true,true,true,true,false,true,true,true,true,true,false] c4.body) ⟨tm,h,[]⟩ fun x1 s=>x1=.nrm∧∃(tm':Go.Ab.T V) (h':H) (T':Int) (O':V) (o:Od × V),s=⟨tm',h',[]⟩∧T'≤T+5∧OdOk o.1∧Mq h0 p c6 c7 y bs T' L O' x ch (ps++[o]) h'∧Tt p c6 c7 b n i tm':=by
 obtain⟨t0,t6,t7,t8,t31,t32⟩:=a
 have hw:=m.q.s.wf
 have l0:=m.q.s.next
 have lp:=m.q.lt
 obtain⟨R,hR⟩:∃R,navU [true,true,true,true,false,true,true,true,true,true,false,true,true,true,true] c4.body=R:=⟨_,rfl⟩
 have re:= @rowend_ev
 rw[hR] at re
 simp only[navU,c4] at hR
 simp only[navU,c4]
 rw[hR]
 clear hR
 simp -implicitDefEqProofs(maxSteps:=999999)(disch:=first|with_reducible rfl|omega|(simp only[nA,nS,nD]<;>omega)|fail)only[go_sem,t0]
 refine m.q.upto (n:=3) (by omega) (by omega) _ fun r1 h1 r10 r11 q1 k1 n1=>?_
 simp -implicitDefEqProofs(maxSteps:=999999)(disch:=first|with_reducible rfl|omega|(simp only[nA,nS,nD]<;>omega)|fail)only[go_sem,t0]
 refine q1.frm (lo:=1) (hi:=6) (by omega) (by omega) (by omega) _ fun r2 h2 r20 r21 q2 k2 n2=>?_
 simp -implicitDefEqProofs(maxSteps:=999999)(disch:=first|with_reducible rfl|omega|(simp only[nA,nS,nD]<;>omega)|fail)only[go_sem,t0,t8]
 refine q2.frm (lo:=2) (hi:=b) (by omega) (by omega) (by omega) _ fun r3 h3 r30 r31 q3 k3 n3=>?_
 have kk:Keeps (fun c=>c=p) h h3:=((k1.trans k2).trans k3).mono fun c hc=>hc.elim (fun e=>e.elim id id) id
 have m3:=m.spin q3 kk
 have w9:Rw h0 h p h3.next y bs (T+1+1+1) r1 r2 r3 .nils [] (h3.add (.cells .rw [.int .i64 r1,.int .i64 r2,.int .i64 r3,.nils])):=
  have s:=(H.Sub.refl q3.s.wf).add (.cells .rw [.int .i64 r1,.int .i64 r2,.int .i64 r3,.nils])
  ⟨q3.mono s,(kk.trans (Keeps.of s fun c=>c=p)).mono (fun c=>Or.rec id id),by omega,get_add_new rfl,OwnSl.nil (q3.mono s).s 1,fun b hb=>(blkOf_nils hb).elim⟩
 simp -implicitDefEqProofs(maxSteps:=999999)(disch:=first|with_reducible rfl|omega|(simp only[nA,nS,nD]<;>omega)|fail)only[go_sem]
 generalize h3.next=c9 at w9⊢
 generalize h3.add _=hA at w9⊢
 have mA:=m.spin w9.q w9.k
 have gA:=cells_of mA.g
 have lL:q_len L=some (.int .i64 1):=mA.l.sl.lenE
 simp -implicitDefEqProofs(maxSteps:=999999)(disch:=first|with_reducible rfl|omega|(simp only[nA,nS,nD]<;>omega)|fail)only[go_sem,t7,gA,lL]
 refine W_count 1 (fun j s=>∃(tm':Go.Ab.T V) (h':H) (T':Int) (On:V) (l:List Int),s=⟨tm',h',[]⟩∧(j=0→On=.nils∧l=[])∧(l=[]∨l=[0])∧T'≤T+4∧T'≤T+3+(j:Int)∧Rw h0 h p c9 y bs T' r1 r2 r3 On l h'∧Tt p c6 c7 b n i tm'∧(Opd.t 9).ev tm'=.ptr c9 0∧(Opd.t 44).ev tm'=.int .i64 1∧(Opd.t 45).ev tm'=.int .i64 (j:Int)) ?_ ?_ (i:=0) (Nat.zero_le _)
  ⟨_,_,_,.nils,[],rfl,fun _=>⟨rfl,rfl⟩,.inl rfl,by omega,by omega,w9,⟨(by simp[ev_c,ev_put,t0]<;>rfl),(by simp[ev_c,ev_put,t6]<;>rfl),(by simp[ev_c,ev_put,t7]<;>rfl),(by simp[ev_c,ev_put,t8]<;>rfl),(by simp[ev_c,ev_put,t31]<;>rfl),(by simp[ev_c,ev_put,t32]<;>rfl)⟩,(by simp[ev_c,ev_put]<;>rfl),(by simp only[ev_put];rfl),(by simp only[ev_put];rfl)⟩
 ·rintro j s hj ⟨tm',h',T',On,l,rfl,j0,_,hT1,hT2,w,⟨t0',t6',t7',t8',t31',t32'⟩,t9,t44,t45⟩
  have hj0:j=0:=by omega
  subst hj0
  obtain⟨rfl,rfl⟩:=j0 rfl
  replace t45:(Opd.t 45).ev tm'=.int .i64 0:=t45
  have h01:(0:Int)<1:=by omega
  simp -implicitDefEqProofs(maxSteps:=999999)(disch:=first|with_reducible rfl|omega|(simp only[nA,nS,nD]<;>omega)|fail)only[go_sem,t0',t9,t44,t45,h01]
  refine w.q.once (n:=2) (by omega) (by omega) _ fun v h4 q4 k4 n4=>?_
  have w4:=w.spin q4 k4
  cases v with
  |true=>
   have g4:=cells_of w4.g
   have oo4:OwnSl h0 (h4.add (.cells .rw [.int .i64 0])) .nils 1 []:=OwnSl.nil (w4.q.s.add _) 1
   simp -implicitDefEqProofs(maxSteps:=999999)(disch:=first|with_reducible rfl|omega|(simp only[nA,nS,nD]<;>omega)|fail)only[go_sem,t9,t44,t45,g4]
   refine oo4.app1 (by_:=8) (r:=encI 0) w4.q.w0 rfl (by omega) (SlAt.new _ rfl rfl (by simp[encI]) (by simp[encI]) (by simp)) rfl (by simp) (by simp) fun h5 o5 k5 n5=>?_
   simp only[H.next_add] at o5 k5 n5
   have g5:=k5.2 _ _ ((H.Sub.refl w4.q.s.wf).add _ |>.get w4.g) fun hb=>(blkOf_nils hb).elim
   simp -implicitDefEqProofs(maxSteps:=999999)(disch:=first|with_reducible rfl|omega|(simp only[nA,nS,nD]<;>omega)|fail)only[go_sem,t9,t44,t45,g5]
   have w5:Rw h0 h p c9 y bs (T'+1) r1 r2 r3 .nils [] h5:=by
    have w6:=w4.mono ((H.Sub.refl w4.q.s.wf).add (.cells .rw [.int .i64 0]))
    exact w6.spin (w6.q.keep k5 (fun hb=>(blkOf_nils hb).elim) o5.1) (k5.mono fun c hb=>(blkOf_nils hb).elim)
   have w7:=w5.put (l':=[0]) hw l0 o5 fun b hb=>by
    obtain⟨_,_,_,e⟩:=hb
    cases e
    have:=H.lt_next w4.q.s.wf w4.g
    omega
   exact⟨_,_,_,_,_,rfl,fun e=>e.elim,.inr rfl,by omega,by omega,w7,⟨(by simp[ev_c,ev_put,t0']<;>rfl),(by simp[ev_c,ev_put,t6']<;>rfl),(by simp[ev_c,ev_put,t7']<;>rfl),(by simp[ev_c,ev_put,t8']<;>rfl),(by simp[ev_c,ev_put,t31']<;>rfl),(by simp[ev_c,ev_put,t32']<;>rfl)⟩,(by simp[ev_c,ev_put,t9]<;>rfl),(by simp[ev_c,ev_put,t44]<;>rfl),(by simp only[ev_put];rfl)⟩
  |false=>
   simp -implicitDefEqProofs(maxSteps:=999999)(disch:=first|with_reducible rfl|omega|(simp only[nA,nS,nD]<;>omega)|fail)only[go_sem,t9,t44,t45]
   exact⟨_,_,_,_,_,rfl,fun e=>e.elim,.inl rfl,by omega,by omega,w4,⟨(by simp[ev_c,ev_put,t0']<;>rfl),(by simp[ev_c,ev_put,t6']<;>rfl),(by simp[ev_c,ev_put,t7']<;>rfl),(by simp[ev_c,ev_put,t8']<;>rfl),(by simp[ev_c,ev_put,t31']<;>rfl),(by simp[ev_c,ev_put,t32']<;>rfl)⟩,(by simp[ev_c,ev_put,t9]<;>rfl),(by simp[ev_c,ev_put,t44]<;>rfl),(by simp only[ev_put];rfl)⟩
 ·rintro s ⟨tm',h',T',On,l,rfl,_,hl,hT1,hT2,w,⟨t0',t6',t7',t8',t31',t32'⟩,t9,t44,t45⟩
  replace t45:(Opd.t 45).ev tm'=.int .i64 1:=t45
  have mw:=m.spin w.q w.k
  have g7:=cells_of mw.g
  have g9:=cells_of w.g
  have lO:=(w.on.sl (by rcases hl with rfl|rfl<;>simp)).lenE
  have O1:=(w.on.sl (by rcases hl with rfl|rfl<;>simp)).one
  rcases hl with rfl|rfl
  ·replace lO:q_len On=some (.int .i64 0):=lO
   simp -implicitDefEqProofs(maxSteps:=999999)(disch:=first|with_reducible rfl|omega|(simp only[nA,nS,nD]<;>omega)|fail)only[go_sem,t0',t7',t9,t44,t45,Int.lt_irrefl,g7,g9,lL,lO,O1]
   refine w.q.upto (n:=0) (by omega) (by omega) _ fun r h8 r0 r1' q8 k8 n8=>?_
   obtain rfl:r=0:=by omega
   have w8:=(w.spin q8 k8).mono ((H.Sub.refl q8.s.wf).add (.cells .rw [.int .i64 0]))
   have g8:=w8.g
   have sl8:SlAt (h8.add (.cells .rw [.int .i64 0])) (.sl h8.next 0 1 (.fix 1)) 1 (([0]:List Int).map encI):=SlAt.new _ rfl rfl rfl (by simp[encI]) (by simp)
   have lt9:=H.lt_next q8.s.wf (w.spin q8 k8).g
   simp -implicitDefEqProofs(maxSteps:=999999)(disch:=first|with_reducible rfl|omega|(simp only[nA,nS,nD]<;>omega)|fail)only[go_sem,t9,t44,t45,g8]
   obtain⟨q9,k9⟩:=w8.putS hw l0 (.sl h8.next 0 1 (.fix 1))
   have m9:=m.spin q9 k9
   have nb:∀b,blkOf (.sl h8.next 0 1 (.fix 1)) b→c9<b∧b<((h8.add (.cells .rw [.int .i64 0])).set c9 (.cells .rw [.int .i64 r1,.int .i64 r2,.int .i64 r3,.sl h8.next 0 1 (.fix 1)])).next:=by
    rintro b ⟨_,_,_,e⟩
    cases e
    rw[H.next_set,H.next_add];omega
   refine(re m9 hps (get_set_same rfl) (m.kpt w.k9.1 (SlAt_keep sl8 (Keeps.set _ _ _) fun b hb e=>by have:=nb b hb;omega) nb) (b:=b) (n:=n) (i:=i) ⟨(by simp[ev_c,ev_put,t0']<;>rfl),(by simp[ev_c,ev_put,t6']<;>rfl),(by simp[ev_c,ev_put,t7']<;>rfl),(by simp[ev_c,ev_put,t8']<;>rfl),(by simp[ev_c,ev_put,t31']<;>rfl),(by simp[ev_c,ev_put,t32']<;>rfl)⟩ (by simp[ev_c,ev_put,t9]<;>rfl)).mono ?_
   rintro _ _ ⟨rfl,tm9,h9,O9,rfl,m10,tt⟩
   exact⟨rfl,_,_,_,_,_,rfl,by omega,⟨⟨r10,r11⟩,⟨r20,r21⟩,(by omega:1≤r3∧r3≤24)⟩,m10,tt⟩
  ·replace lO:q_len On=some (.int .i64 1):=lO
   have h10:¬(1:Int)=0:=by omega
   simp -implicitDefEqProofs(maxSteps:=999999)(disch:=first|with_reducible rfl|omega|(simp only[nA,nS,nD]<;>omega)|fail)only[go_sem,t0',t7',t9,t44,t45,Int.lt_irrefl,g7,g9,lL,lO,O1,h10]
   refine(re mw hps w.g (m.kpt w.k9.1 (w.on.sl (by simp)) fun b hb=>⟨w.nb b hb,(w.on.blk hb).2.1⟩) (b:=b) (n:=n) (i:=i) ⟨(by simp[ev_c,ev_put,t0']<;>rfl),(by simp[ev_c,ev_put,t6']<;>rfl),(by simp[ev_c,ev_put,t7']<;>rfl),(by simp[ev_c,ev_put,t8']<;>rfl),(by simp[ev_c,ev_put,t31']<;>rfl),(by simp[ev_c,ev_put,t32']<;>rfl)⟩ (by simp[ev_c,ev_put,t9]<;>rfl)).mono ?_
   rintro _ _ ⟨rfl,tm9,h9,O9,rfl,m10,tt⟩
   exact⟨rfl,_,_,_,_,_,rfl,by omega,⟨⟨r10,r11⟩,⟨r20,r21⟩,(by omega:1≤r3∧r3≤24)⟩,m10,tt⟩
end Tryz
end Go.Ab
namespace Go.Ab.Tryz
set_option maxHeartbeats 4000000 in
theorem Mill5_ev {h0 h:H}{p:Nat}{y:V}{bs:List Int}{T:Int}(q:Sq h0 p y bs T h)(hT:T≤500)(Q:V→H→Prop)
  (k:∀L O x ch ps h',h0.Sub h'→MoAt h' L O x ch ps→MoOk x ch ps→Q (.agg [L,.int .i64 ch,O]) h'):Ev fnG fastA (.fn 4 [] []) [.ptr p 0,.int .i64 1,.int .i64 5] h Q:=by
 have hw:=q.s.wf
 have l0:=q.s.next
 have lp:=q.lt
 refine Ev_body (fd:=c4) rfl rfl rfl ?_
 obtain⟨R,hR⟩:∃R,navU [true,true,true,true,false,true,true,true,true,true,false] c4.body=R:=⟨_,rfl⟩
 have re:= @row_ev
 rw[hR] at re
 simp only[navU,c4] at hR
 simp only[c4]
 rw[hR]
 clear hR
 have g6:(h.add (.cells .rw [.nils,.int .i64 0,.nils])).get h.next=some (.cells .rw [.nils,.int .i64 0,.nils]):=get_add_new rfl
 have q6:=q.mono ((H.Sub.refl hw).add (.cells .rw [.nils,.int .i64 0,.nils]))
 obtain⟨c6,hc6⟩:∃c,h.next=c:=⟨_,rfl⟩
 rw[hc6] at g6
 have l6:c6<(h.add (.cells .rw [.nils,.int .i64 0,.nils])).next:=by rw[H.next_add];omega
 simp -implicitDefEqProofs(maxSteps:=999999)(disch:=first|with_reducible rfl|omega|(simp only[nA,nS,nD]<;>omega)|fail)only[go_sem,hc6]
 generalize h.add (.cells .rw [.nils,.int .i64 0,.nils])=hA at g6 q6 l6⊢
 refine q6.upto (n:=3) (by omega) (by omega) _ fun ch h1 ch0 ch1 q1 k1 n1=>?_
 have g61:=k1.2 _ _ g6 (by omega)
 have g7:(h1.add (.cells .rw [.nils,.int .i64 ch,.nils])).get h1.next=some (.cells .rw [.nils,.int .i64 ch,.nils]):=get_add_new rfl
 have s7:=(H.Sub.refl q1.s.wf).add (.cells .rw [.nils,.int .i64 ch,.nils])
 have q7:=q1.mono s7
 have g67:=s7.get g61
 obtain⟨c7,hc7⟩:∃c,h1.next=c:=⟨_,rfl⟩
 rw[hc7] at g7
 have l7:c7<(h1.add (.cells .rw [.nils,.int .i64 ch,.nils])).next:=by rw[H.next_add];omega
 simp -implicitDefEqProofs(maxSteps:=999999)(disch:=first|with_reducible rfl|omega|(simp only[nA,nS,nD]<;>omega)|fail)only[go_sem,hc7]
 generalize h1.add (.cells .rw [.nils,.int .i64 ch,.nils])=h2 at g7 q7 g67 l7⊢
 clear s7
 refine q7.frm (lo:=1) (hi:=1) (by omega) (by omega) (by omega) _ fun r h3 r0 r1 q3 k3 n3=>?_
 obtain rfl:r=1:=by omega
 have g73:=k3.2 _ _ g7 (by omega)
 have g63:=k3.2 _ _ g67 (by omega)
 simp -implicitDefEqProofs(maxSteps:=999999)(disch:=first|with_reducible rfl|omega|(simp only[nA,nS,nD]<;>omega)|fail)only[go_sem]
 refine W_count 1 (fun j s=>∃(tm':Go.Ab.T V) (h':H),s=⟨tm',h',[]⟩∧(Opd.t 0).ev tm'=.ptr p 0∧(Opd.t 2).ev tm'=.int .i64 5∧(Opd.t 6).ev tm'=.ptr c6 0∧(Opd.t 7).ev tm'=.ptr c7 0∧(Opd.t 16).ev tm'=.int .i64 1∧(Opd.t 17).ev tm'=.int .i64 (j:Int)∧
   ((j=0∧h'=h3)∨(j=1∧∃L x,(-1≤x∧x≤3)∧Mq h0 p c6 c7 y bs (T+1+1+1) L .nils x ch [] h'))) ?_ ?_ (i:=0) (Nat.zero_le _)
  ⟨_,_,rfl,(by simp[ev_c,ev_put]<;>rfl),(by simp[ev_c,ev_put]<;>rfl),(by simp[ev_c,ev_put]<;>rfl),(by simp[ev_c,ev_put]<;>rfl),(by simp[ev_c,ev_put]<;>rfl),(by simp only[ev_put];rfl),.inl ⟨rfl,rfl⟩⟩
 ·rintro j s hj ⟨tm',h',rfl,t0,t2,t6,t7,t16,t17,hh⟩
  obtain rfl:j=0:=by omega
  obtain rfl:h'=h3:=hh.elim (fun a=>a.2) (fun a=>absurd a.1 (by omega))
  replace t17:(Opd.t 17).ev tm'=.int .i64 0:=t17
  have h01:(0:Int)<1:=by omega
  have c7c:=cells_of g73
  simp -implicitDefEqProofs(maxSteps:=999999)(disch:=first|with_reducible rfl|omega|(simp only[nA,nS,nD]<;>omega)|fail)only[go_sem,t0,t7,t16,t17,h01,c7c]
  refine q3.frm (lo:= -1) (hi:=3) (by omega) (by omega) (by omega) _ fun x h4 x0 x1 q4 k4 n4=>?_
  have g74:=k4.2 _ _ g73 (by omega)
  have g64:=k4.2 _ _ g63 (by omega)
  have c7d:=cells_of g74
  simp -implicitDefEqProofs(maxSteps:=999999)(disch:=first|with_reducible rfl|omega|(simp only[nA,nS,nD]<;>omega)|fail)only[go_sem,t0,t7,t16,t17,c7c,c7d]
  have sB:=(H.Sub.refl q4.s.wf).add (.cells .rw [.int .i64 x])
  have o5:OwnSl h0 (h4.add (.cells .rw [.int .i64 x])) .nils 1 []:=OwnSl.nil (q4.mono sB).s 1
  refine o5.app1 (by_:=8) (r:=encI x) q.w0 rfl (by omega) (SlAt.new _ rfl rfl (by simp[encI]) (by simp[encI]) (by simp)) rfl (by simp) (by simp) fun h5 o5 k5 n5=>?_
  simp only[H.next_add] at o5 n5
  simp only[H.next_add]
  have nb:∀{c:Nat},¬blkOf .nils c:=fun hb=>(blkOf_nils hb).elim
  have kB:Keeps (fun c=>False) h4 h5:=((Keeps.of sB fun c=>False).trans (k5.mono fun c hb=>(nb hb).elim)).mono fun c hc=>hc.elim id id
  have g75:=kB.2 _ _ g74 id
  have g65:=kB.2 _ _ g64 id
  have q5:=q4.keep kB id o5.1
  have lt7:=H.lt_next q4.s.wf g74
  have k6:=Keeps.set h5 c7 (.cells .rw [.sl (h4.next+1) 0 (0+1) (.slk 0 0),.int .i64 ch,.nils])
  have s6:=o5.1.set (b:=c7) (by omega) (by omega) q.w0 (.cells .rw [.sl (h4.next+1) 0 (0+1) (.slk 0 0),.int .i64 ch,.nils])
  have sl6:SlAt h5 (.sl (h4.next+1) 0 (0+1) (.slk 0 0)) 1 (([x]:List Int).map encI):=o5.sl (by simp)
  have nb6:∀b,blkOf (.sl (h4.next+1) 0 (0+1) (.slk 0 0)) b→b=h4.next+1:=by rintro b ⟨_,_,_,e⟩;cases e;rfl
  have m6:Mq h0 p c6 c7 y bs (T+1+1+1) (.sl (h4.next+1) 0 (0+1) (.slk 0 0)) .nils x ch [] (h5.set c7 (.cells .rw [.sl (h4.next+1) 0 (0+1) (.slk 0 0),.int .i64 ch,.nils])):=
   ⟨q5.keep k6 (by omega) s6,by omega,by omega,⟨by omega,by omega,by omega⟩,get_set_same rfl,k6.2 _ _ g65 (by omega),⟨SlAt_keep sl6 k6 fun b hb e=>by have:=nb6 b hb;omega,fun b hb=>by
    have:=nb6 b hb
    rw[H.next_set]
    exact⟨by omega,by omega,by omega,nb⟩⟩,OwnSl.nil s6 4,by simp⟩
  simp -implicitDefEqProofs(maxSteps:=999999)(disch:=first|with_reducible rfl|omega|(simp only[nA,nS,nD]<;>omega)|fail)only[go_sem,t0,t7,t16,t17,c7c,c7d,cells_of g75,g75]
  exact⟨_,_,rfl,(by simp[ev_c,ev_put,t0]<;>rfl),(by simp[ev_c,ev_put,t2]<;>rfl),(by simp[ev_c,ev_put,t6]<;>rfl),(by simp[ev_c,ev_put,t7]<;>rfl),(by simp[ev_c,ev_put,t16]<;>rfl),(by simp only[ev_put];rfl),.inr ⟨_,x,⟨x0,x1⟩,m6⟩⟩
 ·rintro s ⟨tm',h',rfl,t0,t2,t6,t7,t16,t17,hh⟩
  obtain⟨L,x,hx,m⟩:=hh.elim (fun a=>absurd a.1 (by omega)) (fun a=>a.2)
  replace t17:(Opd.t 17).ev tm'=.int .i64 1:=t17
  simp -implicitDefEqProofs(maxSteps:=999999)(disch:=first|with_reducible rfl|omega|(simp only[nA,nS,nD]<;>omega)|fail)only[go_sem,t0,t2,t7,t16,t17,Int.lt_irrefl]
  refine m.q.frm (lo:=6) (hi:=24) (by omega) (by omega) (by omega) _ fun b h4 b0 b1 q4 k4 n4=>?_
  have m4:=m.spin q4 k4
  simp -implicitDefEqProofs(maxSteps:=999999)(disch:=first|with_reducible rfl|omega|(simp only[nA,nS,nD]<;>omega)|fail)only[go_sem,t0,t2,t7,t16,t17]
  refine m4.q.upto (n:=5) (by omega) (by omega) _ fun n h5 r0 r1 q5 k5 n5=>?_
  have m5:=m4.spin q5 k5
  obtain⟨nn,rfl⟩:=Int.eq_ofNat_of_zero_le r0
  simp -implicitDefEqProofs(maxSteps:=999999)(disch:=first|with_reducible rfl|omega|(simp only[nA,nS,nD]<;>omega)|fail)only[go_sem,t0,t2,t7,t16,t17]
  refine W_count nn (fun i s=>∃(tm9:Go.Ab.T V) (h9:H) (T9:Int) (O:V) (ps:List (Od × V)),s=⟨tm9,h9,[]⟩∧T9≤T+5+5*(i:Int)∧ps.length=i∧(∀o∈ps,OdOk o.1)∧Mq h0 p c6 c7 y bs T9 L O x ch ps h9∧Tt p c6 c7 b (nn:Int) i tm9) ?_ ?_ (i:=0) (Nat.zero_le _)
   ⟨_,_,_,_,[],rfl,by omega,rfl,by simp,m5,(by simp[ev_c,ev_put,t0]<;>rfl),(by simp[ev_c,ev_put,t6]<;>rfl),(by simp[ev_c,ev_put,t7]<;>rfl),(by simp[ev_c,ev_put]<;>rfl),(by simp[ev_c,ev_put]<;>rfl),(by simp only[ev_put];rfl)⟩
  ·rintro i s hi ⟨tm9,h9,T9,O,ps,rfl,hT9,hl,ho,m9,tt⟩
   have hi':(i:Int)<(nn:Int):=by omega
   obtain⟨u0,u6,u7,u8,u31,u32⟩:=tt
   simp -implicitDefEqProofs(maxSteps:=999999)(disch:=first|with_reducible rfl|omega|(simp only[nA,nS,nD]<;>omega)|fail)only[go_sem,u31,u32,hi']
   refine(re m9 (by omega) (by omega) (b:=b) (n:=(nn:Int)) (i:=i) ⟨by omega,by omega⟩ ⟨(by simp[ev_c,ev_put,u0]<;>rfl),(by simp[ev_c,ev_put,u6]<;>rfl),(by simp[ev_c,ev_put,u7]<;>rfl),(by simp[ev_c,ev_put,u8]<;>rfl),(by simp[ev_c,ev_put,u31]<;>rfl),(by simp[ev_c,ev_put,u32]<;>rfl)⟩).mono ?_
   rintro _ _ ⟨rfl,tm10,h10,T10,O10,o,rfl,hT10,ho10,m10,w0,w6,w7,w8,w31,w32⟩
   simp -implicitDefEqProofs(maxSteps:=999999)(disch:=first|with_reducible rfl|omega|(simp only[nA,nS,nD]<;>omega)|fail)only[go_sem,w31,w32,wr_succ]
   exact⟨_,_,_,_,_,rfl,by omega,by rw[List.length_append,hl];rfl,fun a ha=>(List.mem_append.1 ha).elim (ho a) fun e=>by rw[List.mem_singleton] at e;subst e;exact ho10,m10,(by simp[ev_c,ev_put,w0]<;>rfl),(by simp[ev_c,ev_put,w6]<;>rfl),(by simp[ev_c,ev_put,w7]<;>rfl),(by simp[ev_c,ev_put,w8]<;>rfl),(by simp[ev_c,ev_put,w31]<;>rfl),(by simp[ev_c,ev_put]<;>rfl)⟩
  ·rintro s ⟨tm9,h9,T9,O,ps,rfl,hT9,hl,ho,m9,u0,u6,u7,u8,u31,u32⟩
   have g9:=cells_of m9.g
   have v1:=m9.l.sl.one
   have v2:=(m9.o.sl (by rw[List.length_map];omega)).one
   simp -implicitDefEqProofs(maxSteps:=999999)(disch:=first|with_reducible rfl|omega|(simp only[nA,nS,nD]<;>omega)|fail)only[go_sem,u6,u7,u8,u31,u32,Int.lt_irrefl,g9,m9.g6,v1,v2]
   have kk:=Keeps.set h9 c6 (.cells .rw [L,.int .i64 ch,O])
   have n6:=m9.n6
   have l6:=H.lt_next m9.q.s.wf m9.g6
   exact k L O x ch ps _ (m9.q.s.set n6.2.2 l6 m9.q.w0 _) ⟨SlAt_keep m9.l.sl kk fun b hb e=>by have:=(m9.l.n b hb).2.2.1;omega,SlAt_keep (m9.o.sl (by rw[List.length_map];omega)) kk fun b hb e=>by subst e;exact m9.o.ne m9.g6 hb,fun o ho=>SlAt_keep (m9.on o ho).sl kk fun b hb e=>by have:=((m9.on o ho).n b hb).2.2.1;omega⟩ ⟨hx,⟨ch0,ch1⟩,by omega,ho⟩
end Go.Ab.Tryz
namespace Go.Ab.Tryz
structure Am (h0:H)(p c17:Nat)(y:V)(bs:List Int)(T:Int)(a:At)(C Rr G:V)(h:H):Prop where
 q:Sq h0 p y bs T h
 k17:h0.next≤c17∧p<c17
 g:h.get c17=some (.cells .rw (atV a C Rr G))
 c:OwnSl h0 h C 4 (a.cks.map encC)
 r:OwnSl h0 h Rr 3 (a.rds.map encR)
 gp:OwnSl h0 h G 4 (a.gps.map encG)
 dj:∀b,blkOf C b→¬blkOf G b
theorem Am.mono {h0 h h':H}{p c17:Nat}{y:V}{bs:List Int}{T:Int}{a:At}{C Rr G:V}(m:Am h0 p c17 y bs T a C Rr G h)(s:h.Sub h'):Am h0 p c17 y bs T a C Rr G h':=
 ⟨m.q.mono s,m.k17,s.get m.g,m.c.mono s,m.r.mono s,m.gp.mono s,m.dj⟩
theorem OwnSl.nsp {h0 h:H}{p:Nat}{y:V}{bs:List Int}{T:Int}{x:V}{sz:Nat}{rows:List (List V)}(o:OwnSl h0 h x sz rows)(q:Sq h0 p y bs T h):¬blkOf x p:=by
 obtain⟨st,gp⟩:=q.sp
 exact o.ne gp
theorem Am.spin {h0 h h':H}{p c17:Nat}{y:V}{bs:List Int}{T T':Int}{a:At}{C Rr G:V}(m:Am h0 p c17 y bs T a C Rr G h)(q:Sq h0 p y bs T' h')(k:Keeps (fun c=>c=p) h h'):Am h0 p c17 y bs T' a C Rr G h':=
 ⟨q,m.k17,k.2 _ _ m.g (by have:=m.k17;omega),m.c.keep k q.s fun b hb e=>by subst e;exact OwnSl.nsp m.c m.q hb,m.r.keep k q.s fun b hb e=>by subst e;exact OwnSl.nsp m.r m.q hb,m.gp.keep k q.s fun b hb e=>by subst e;exact OwnSl.nsp m.gp m.q hb,m.dj⟩
theorem Am.put {h0 h h5:H}{p c17:Nat}{y:V}{bs:List Int}{T:Int}{a a':At}{C Rr G C' R' G':V}{S:Nat→Prop}(m:Am h0 p c17 y bs T a C Rr G h)(k:Keeps S h h5)(np:¬S p)(n17:¬S c17)
  (c:OwnSl h0 h5 C' 4 (a'.cks.map encC)) (r:OwnSl h0 h5 R' 3 (a'.rds.map encR)) (gp:OwnSl h0 h5 G' 4 (a'.gps.map encG)) (dj:∀b,blkOf C' b→¬blkOf G' b):Am h0 p c17 y bs T a' C' R' G' (h5.set c17 (.cells .rw (atV a' C' R' G'))):=by
 have k17:=m.k17
 have kk:=Keeps.set h5 c17 (.cells .rw (atV a' C' R' G'))
 have g5:=k.2 _ _ m.g n17
 have l5:=H.lt_next c.1.wf g5
 have ss:=c.1.set k17.1 l5 m.q.w0 (.cells .rw (atV a' C' R' G'))
 exact⟨m.q.keep (k.trans kk) (fun e=>e.elim np fun e=>by omega) ss,k17,get_set_same rfl,c.keep kk ss fun b hb e=>by subst e;exact c.ne g5 hb,r.keep kk ss fun b hb e=>by subst e;exact r.ne g5 hb,gp.keep kk ss fun b hb e=>by subst e;exact gp.ne g5 hb,dj⟩
theorem OwnSl.sz_ne {h0 h:H}{x z:V}{s1 s2:Nat}{r1 r2:List (List V)}(a:OwnSl h0 h x s1 r1)(b:OwnSl h0 h z s2 r2)(hs:s1≠s2):∀c,blkOf x c→¬blkOf z c:=fun c hx hz=>by
 have h1:=(a.blk hx).2.2
 rw[(b.blk hz).2.2] at h1
 injection h1 with h1
 injection h1 with h1 _
 injection h1 with h1
 exact hs h1.symm
theorem Am.gap {h0 h h5:H}{p c17:Nat}{y:V}{bs:List Int}{T:Int}{mi ev:Int}{gps:List Gp}{G G':V}{g:Gp}(m:Am h0 p c17 y bs T ⟨mi,ev,[],[],gps⟩ .nils .nils G h)(k:Keeps (blkOf G) h h5)(o:OwnSl h0 h5 G' 4 (gps.map encG++[encG g])):
  Am h0 p c17 y bs T ⟨mi,ev,[],[],gps++[g]⟩ .nils .nils G' (h5.set c17 (.cells .rw (atV ⟨mi,ev,[],[],gps++[g]⟩ .nils .nils G'))):=
 m.put k (OwnSl.nsp m.gp m.q) (m.gp.ne m.g) (OwnSl.nil o.1 4) (OwnSl.nil o.1 3) (by rw[List.map_append];exact o) fun b hb=>(blkOf_nils hb).elim
theorem Am.clk {h0 h h5:H}{p c17:Nat}{y:V}{bs:List Int}{T:Int}{a:At}{C Rr G C':V}{c:Ck}(m:Am h0 p c17 y bs T a C Rr G h)(k:Keeps (blkOf C) h h5)(o:OwnSl h0 h5 C' 4 (a.cks.map encC++[encC c]))(lo:∀b,blkOf C' b→h.next≤b):
  Am h0 p c17 y bs T {a with cks:=a.cks++[c]} C' Rr G (h5.set c17 (.cells .rw (atV {a with cks:=a.cks++[c]} C' Rr G))):=
 m.put k (OwnSl.nsp m.c m.q) (m.c.ne m.g) (by rw[List.map_append];exact o) (m.r.keep k o.1 fun b hb e=>OwnSl.sz_ne m.c m.r (by decide) b e hb) (m.gp.keep k o.1 fun b hb e=>m.dj b e hb) fun b hb e=>by
  have:=lo b hb
  have:=(m.gp.blk e).2.1
  omega
theorem Am.rdg {h0 h h5:H}{p c17:Nat}{y:V}{bs:List Int}{T:Int}{a:At}{C Rr G R':V}{r:Rd}(m:Am h0 p c17 y bs T a C Rr G h)(k:Keeps (blkOf Rr) h h5)(o:OwnSl h0 h5 R' 3 (a.rds.map encR++[encR r])):
  Am h0 p c17 y bs T {a with rds:=a.rds++[r]} C R' G (h5.set c17 (.cells .rw (atV {a with rds:=a.rds++[r]} C R' G))):=
 m.put k (OwnSl.nsp m.r m.q) (m.r.ne m.g) (m.c.keep k o.1 fun b hb e=>OwnSl.sz_ne m.c m.r (by decide) b hb e) (by rw[List.map_append];exact o) (m.gp.keep k o.1 fun b hb e=>OwnSl.sz_ne m.r m.gp (by decide) b e hb) m.dj
theorem getD_lt {l:List Int}{i:Nat}(hi:i<l.length):l.getD i 0=l[i]:=by
 rw[List.getD_eq_getElem?_getD,List.getElem?_eq_getElem hi];rfl
structure Te (R E:V)(p c17:Nat)(B w:Int)(tm:T V):Prop where
 t2:(Opd.t 2).ev tm=.int .u16 w
 t8:(Opd.t 8).ev tm=R
 t10:(Opd.t 10).ev tm=E
 t15:(Opd.t 15).ev tm=.ptr p 0
 t16:(Opd.t 16).ev tm=.int .i64 B
 t17:(Opd.t 17).ev tm=.ptr c17 0
set_option maxHeartbeats 4000000 in
theorem gaps_ev {h0 h:H}{p c17:Nat}{y:V}{bs:List Int}{T:Int}{R E:V}{B w:Int}{es:List Int}(sE:SlAt h0 E 1 (es.map encI))(he:EndsE es)(m:Am h0 p c17 y bs T ⟨240,(es.length:Int),[],[],[]⟩ .nils .nils .nils h){tm:Go.Ab.T V}(a:Te R E p c17 B w tm){ro:Option Nat}:
  W fnG fastA 354 3 ro (navU [true,true,true,true,true,true,true,true,true,true,true,false] c3.body) ⟨tm,h,[]⟩ fun x1 s=>x1=.nrm∧∃(tm':Go.Ab.T V) (h':H) (G:V),s=⟨tm',h',[]⟩∧Am h0 p c17 y bs T ⟨240,(es.length:Int),[],[],gapsE es (es.length-1)⟩ .nils .nils G h'∧Te R E p c17 B w tm':=by
 obtain⟨t2,t8,t10,t15,t16,t17⟩:=a
 obtain⟨n1,n4⟩:=he.n
 simp only[navU,c3]
 simp -implicitDefEqProofs(maxSteps:=999999)(disch:=first|with_reducible rfl|omega|(simp only[nA,nS,nD]<;>omega)|fail)only[go_sem]
 refine W_count (es.length-1) (fun j s=>∃(tm':Go.Ab.T V) (h':H) (G:V),s=⟨tm',h',[]⟩∧Am h0 p c17 y bs T ⟨240,(es.length:Int),[],[],gapsE es j⟩ .nils .nils G h'∧Te R E p c17 B w tm'∧(Opd.t 18).ev tm'=.int .i64 ((j+1:Nat):Int)) ?_ ?_ (i:=0) (Nat.zero_le _)
  ⟨_,_,_,rfl,m,⟨(by simp[ev_c,ev_put,t2]<;>rfl),(by simp[ev_c,ev_put,t8]<;>rfl),(by simp[ev_c,ev_put,t10]<;>rfl),(by simp[ev_c,ev_put,t15]<;>rfl),(by simp[ev_c,ev_put,t16]<;>rfl),(by simp[ev_c,ev_put,t17]<;>rfl)⟩,(by simp only[ev_put];rfl)⟩
 ·rintro j s hj ⟨tm',h',G,rfl,m',⟨t2,t8,t10,t15,t16,t17⟩,t18⟩
  have hj':((j+1:Nat):Int)<(es.length:Int):=by omega
  have sE':=sE.mono m'.q.s
  have hlen:=sE'.lenE
  obtain⟨b1,o1,ca1,cs1,_,e1,f1,_,g1,v1⟩:=sE'.at (k:=j+1) (by omega)
  obtain⟨b0,o0,ca0,cs0,_,e0,f0,_,g0,v0⟩:=sE'.at (k:=j) (by omega)
  have w1:nth (o1+(j+1)*1) cs1=some (.int .i64 es[j+1]):=v1 (by simp[encI])
  have w0:nth (o0+j*1) cs0=some (.int .i64 es[j]):=v0 (by simp[encI])
  have d1:=he.at_ (i:=j+1) (by omega)
  have d0:=he.at_ (i:=j) (by omega)
  rw[getD_lt (by omega)] at d1 d0
  have hw1:wr .i64 (((j+1:Nat):Int)-1)=(j:Int):=by rw[wr_in (by omega) (by omega)];omega
  have hw2:wr .i64 (es[j+1]-es[j])=es[j+1]-es[j]:=wr_in (by omega) (by omega)
  have hg:=cells_of m'.g
  simp -implicitDefEqProofs(maxSteps:=999999)(disch:=first|with_reducible rfl|omega|(simp only[nA,nS,nD]<;>omega)|fail)only[go_sem,t8,t10,t15,t16,t17,t18,hlen,hj',f1 (nat_cst (j+1)),e1,w1,hw1,f0 (nat_cst j),e0,w0,hw2,hg]
  have hgl:(gapsE es j).length=j:=by simp[gapsE]
  have sB:=(H.Sub.refl m'.q.s.wf).add (.cells .rw [.int .i64 (j:Int),.int .i64 ((j+1:Nat):Int),.int .i64 (es[j+1]-es[j]),.int .i64 (es[j+1]-es[j])])
  have mB:=m'.mono sB
  have eg:encG (gapE es j)=[.int .i64 (j:Int),.int .i64 ((j+1:Nat):Int),.int .i64 (es[j+1]-es[j]),.int .i64 (es[j+1]-es[j])]:=by simp only[encG,gapE,getD_lt (show j+1<es.length by omega),getD_lt (show j<es.length by omega)]
  refine mB.gp.app1 (by_:=32) (r:=encG (gapE es j)) m.q.w0 rfl (by omega) (SlAt.new _ rfl rfl (by simp[eg]) (by simp[encG]) (by simp)) rfl (by rw[List.length_map];simp only;omega) (by rw[List.length_map];simp only;omega) fun h5 o5 k5 n5=>?_
  have m5:=mB.gap k5 o5
  have g5:=k5.2 _ _ mB.g (mB.gp.ne mB.g)
  have eS:gapsE es (j+1)=gapsE es j++[gapE es j]:=by simp[gapsE,List.range_succ]
  rw[←eS] at m5
  simp only[H.next_add] at m5 g5
  simp -implicitDefEqProofs(maxSteps:=999999)(disch:=first|with_reducible rfl|omega|(simp only[nA,nS,nD]<;>omega)|fail)only[go_sem,t10,t15,t16,t17,t18,g5,wr_succ]
  exact⟨_,_,_,rfl,m5,⟨(by simp[ev_c,ev_put,t2]<;>rfl),(by simp[ev_c,ev_put,t8]<;>rfl),(by simp[ev_c,ev_put,t10]<;>rfl),(by simp[ev_c,ev_put,t15]<;>rfl),(by simp[ev_c,ev_put,t16]<;>rfl),(by simp[ev_c,ev_put,t17]<;>rfl)⟩,(by simp[ev_c,ev_put]<;>rfl)⟩
 ·rintro s ⟨tm',h',G,rfl,m',⟨t2,t8,t10,t15,t16,t17⟩,t18⟩
  have hj':¬((es.length-1+1:Nat):Int)<(es.length:Int):=by omega
  have hlen:=(sE.mono m'.q.s).lenE
  simp -implicitDefEqProofs(maxSteps:=999999)(disch:=first|with_reducible rfl|omega|(simp only[nA,nS,nD]<;>omega)|fail)only[go_sem,t10,t18,hlen,hj']
  exact⟨_,_,_,rfl,m',(by simp[ev_c,ev_put,t2]<;>rfl),(by simp[ev_c,ev_put,t8]<;>rfl),(by simp[ev_c,ev_put,t10]<;>rfl),(by simp[ev_c,ev_put,t15]<;>rfl),(by simp[ev_c,ev_put,t16]<;>rfl),(by simp[ev_c,ev_put,t17]<;>rfl)⟩
end Go.Ab.Tryz
namespace Go.Ab.Tryz
structure Tf (E:V)(k n:Nat)(N:Int)(s:Int × Int)(j:Nat)(tm:T V):Prop where
 t20:(Opd.t 20).ev tm=.int .i64 (k:Int)
 t21:(Opd.t 21).ev tm=.int .i64 s.1
 t22:(Opd.t 22).ev tm=.int .i64 s.2
 t148:(Opd.t 148).ev tm=.int .i64 N
 t149:(Opd.t 149).ev tm=.int .i64 (k:Int)
 t174:(Opd.t 174).ev tm=E
 t175:(Opd.t 175).ev tm=.int .i64 (n:Int)
 t176:(Opd.t 176).ev tm=.int .i64 (j:Int)
theorem ShA.read {E:List Int}{B:Int}{runs:Runs}{a:At}(x:ShA E B runs a)(hl:a.rds.length≤7){k i:Nat}{s:Int × Int}(hs:runs[k]? =some s)(hi:i<E.length):ShA E B runs {a with rds:=a.rds++[⟨(k:Int),(i:Int),shw s.1 s.2 (B+E.getD i 0)⟩]}:=
 ⟨x.e,x.b,x.mins,x.evs,x.gps,x.ckl,x.ck2,x.ck,by simp only[List.length_append,List.length_singleton];omega,fun r hr=>by
  rcases List.mem_append.1 hr with hr|hr
  ·exact x.rd r hr
  ·rw[List.mem_singleton] at hr
   exact⟨k,i,s,by rw[hr],by rw[hr],hs,hi,by rw[hr]⟩⟩
theorem ShA.clock {E:List Int}{B:Int}{runs:Runs}{a:At}(x:ShA E B runs a)(hl:runs.length≤1){s:Int × Int}{c:Ck}(hc:CkE s c):ShA E B (runs++[s]) {a with cks:=a.cks++[c]}:=by
 have hk:=x.ckl
 refine⟨x.e,x.b,x.mins,x.evs,x.gps,by simp only[List.length_append,List.length_singleton,hk],by simp only[List.length_append,List.length_singleton];omega,fun k c' s' h1 h2=>?_,x.rl,fun r hr=>?_⟩
 ·rcases Nat.lt_or_ge k runs.length with h|h
  ·simp only at h1
   rw[List.getElem?_append_left (by omega)] at h1 h2
   exact x.ck k _ _ h1 h2
  ·simp only at h1
   rw[List.getElem?_append_right (by omega)] at h1 h2
   rcases Nat.eq_zero_or_pos (k-runs.length) with e|e
   ·rw[hk,e] at h1
    rw[e] at h2
    cases h1;cases h2;exact hc
   ·rw[List.getElem?_eq_none (by simp only[List.length_singleton];omega)] at h2
    cases h2
 ·obtain⟨k,i,s',e1,e2,e3,e4,e5⟩:=x.rd r hr
  refine⟨k,i,s',e1,e2,?_,e4,e5⟩
  rw[List.getElem?_append_left]
  ·exact e3
  ·rcases Nat.lt_or_ge k runs.length with h|h
   ·exact h
   ·rw[List.getElem?_eq_none h] at e3;cases e3
set_option maxHeartbeats 4000000 in
theorem rd_ev {h0 h:H}{p c17:Nat}{y:V}{bs:List Int}{T:Int}{a:At}{R E C Rr G:V}{B w:Int}{es:List Int}{runs:Runs}(sE:SlAt h0 E 1 (es.map encI))(m:Am h0 p c17 y bs T a C Rr G h)(hT:T≤900)(x:ShA es B runs a)(hl:a.rds.length≤7){k j:Nat}{N:Int}{s:Int × Int}(hs:runs[k]? =some s)(hj:j<es.length)
  {tm:Go.Ab.T V} (e:Te R E p c17 B w tm) (f:Tf E k es.length N s j tm) {ro:Option Nat}:
  W fnG fastA 354 3 ro (navU [true,true,true,true,true,true,true,true,true,true,true,true,false,true,true,true,true,true,false,true,true,true,true,true,true,true,true,true,false] c3.body) ⟨tm,h,[]⟩ fun x1 s1=>x1=.nrm∧∃(tm':Go.Ab.T V) (h':H) (T':Int) (a':At) (Rr':V),s1=⟨tm',h',[]⟩∧T'≤T+1∧Am h0 p c17 y bs T' a' C Rr' G h'∧ShA es B runs a'∧a'.rds.length≤a.rds.length+1∧Te R E p c17 B w tm'∧Tf E k es.length N s j tm':=by
 obtain⟨t2,t8,t10,t15,t16,t17⟩:=e
 obtain⟨t20,t21,t22,t148,t149,t174,t175,t176⟩:=f
 simp only[navU,c3]
 have hb:=x.inM hj
 have d:=x.e.at_ hj
 have xb:=x.b
 rw[getD_lt hj] at hb d
 obtain⟨b1,o1,ca1,cs1,_,e1,f1,_,g1,v1⟩:=(sE.mono m.q.s).at hj
 have w1:nth (o1+j*1) cs1=some (.int .i64 es[j]):=v1 (by simp[encI])
 simp -implicitDefEqProofs(maxSteps:=999999)(disch:=first|with_reducible rfl|omega|(simp only[nA,nS,nD]<;>omega)|fail)only[go_sem,t15,t174,t176,f1 (nat_cst j),e1,w1]
 refine m.q.once (n:=2) (by omega) (by omega) _ fun v h4 q4 k4 n4=>?_
 have m4:=m.spin q4 k4
 cases v with
 |false=>
  simp -implicitDefEqProofs(maxSteps:=999999)(disch:=first|with_reducible rfl|omega|(simp only[nA,nS,nD]<;>omega)|fail)only[go_sem]
  exact⟨_,_,_,_,_,rfl,by omega,m4,x,by omega,⟨(by simp[ev_c,ev_put,t2]<;>rfl),(by simp[ev_c,ev_put,t8]<;>rfl),(by simp[ev_c,ev_put,t10]<;>rfl),(by simp[ev_c,ev_put,t15]<;>rfl),(by simp[ev_c,ev_put,t16]<;>rfl),(by simp[ev_c,ev_put,t17]<;>rfl)⟩,⟨(by simp[ev_c,ev_put,t20]<;>rfl),(by simp[ev_c,ev_put,t21]<;>rfl),(by simp[ev_c,ev_put,t22]<;>rfl),(by simp[ev_c,ev_put,t148]<;>rfl),(by simp[ev_c,ev_put,t149]<;>rfl),(by simp[ev_c,ev_put,t174]<;>rfl),(by simp[ev_c,ev_put,t175]<;>rfl),(by simp[ev_c,ev_put,t176]<;>rfl)⟩⟩
 |true=>
  obtain⟨c,hc,ck⟩:=x.run hs
  have s0:=ck.s0;have g0:=ck.g0
  have ww:wr .i64 (B+es[j])=B+es[j]:=wr_in (by omega) (by omega)
  simp -implicitDefEqProofs(maxSteps:=999999)(disch:=first|with_reducible rfl|omega|(simp only[nA,nS,nD]<;>omega)|fail)only[go_sem,t16,t21,t22,ww]
  refine Shown_ev q4.s.wf _ _ _ _ fun h5 s5=>?_
  obtain⟨z1,z2⟩:=shown_in (set:=s.1) (gain:=s.2) (m:=B+es[j]) ⟨by omega,by omega,by omega,by omega⟩ hb.1 (by omega)
  rw[z1,z2]
  have m5:=m4.mono s5
  have hg:=cells_of m5.g
  simp -implicitDefEqProofs(maxSteps:=999999)(disch:=first|with_reducible rfl|omega|(simp only[nA,nS,nD]<;>omega)|fail)only[go_sem,t17,t20,ne_eq,not_true_eq_false,hg]
  have sB:=(H.Sub.refl m5.q.s.wf).add (.cells .rw (encR ⟨(k:Int),(j:Int),shw s.1 s.2 (B+es[j])⟩))
  have mB:=m5.mono sB
  refine mB.r.app1 (by_:=24) (r:=encR ⟨(k:Int),(j:Int),shw s.1 s.2 (B+es[j])⟩) m.q.w0 rfl (by omega) (SlAt.new _ rfl rfl (by simp) (by simp[encR]) (by simp)) rfl (by rw[List.length_map];omega) (by rw[List.length_map];omega) fun h6 o6 k6 n6=>?_
  have m6:=mB.rdg k6 o6
  have g6:=k6.2 _ _ mB.g (mB.r.ne mB.g)
  have x6:=x.read hl hs hj
  rw[getD_lt hj] at x6
  simp only[H.next_add,encR] at m6 g6
  simp only[H.next_add,encR]
  simp -implicitDefEqProofs(maxSteps:=999999)(disch:=first|with_reducible rfl|omega|(simp only[nA,nS,nD]<;>omega)|fail)only[go_sem,t17,g6]
  exact⟨_,_,_,_,_,rfl,by omega,m6,x6,by simp only[List.length_append,List.length_singleton];omega,⟨(by simp[ev_c,ev_put,t2]<;>rfl),(by simp[ev_c,ev_put,t8]<;>rfl),(by simp[ev_c,ev_put,t10]<;>rfl),(by simp[ev_c,ev_put,t15]<;>rfl),(by simp[ev_c,ev_put,t16]<;>rfl),(by simp[ev_c,ev_put,t17]<;>rfl)⟩,⟨(by simp[ev_c,ev_put,t20]<;>rfl),(by simp[ev_c,ev_put,t21]<;>rfl),(by simp[ev_c,ev_put,t22]<;>rfl),(by simp[ev_c,ev_put,t148]<;>rfl),(by simp[ev_c,ev_put,t149]<;>rfl),(by simp[ev_c,ev_put,t174]<;>rfl),(by simp[ev_c,ev_put,t175]<;>rfl),(by simp[ev_c,ev_put,t176]<;>rfl)⟩⟩
set_option maxHeartbeats 4000000 in
theorem clk_ev {h0 h:H}{p c17:Nat}{y:V}{bs:List Int}{T:Int}{a:At}{R E C Rr G:V}{B w:Int}{es:List Int}{runs:Runs}(sE:SlAt h0 E 1 (es.map encI))(m:Am h0 p c17 y bs T a C Rr G h)(hT:T≤800)(x:ShA es B runs a)(hl:a.rds.length≤4*runs.length)(hr:runs.length≤1){N:Int}
  {tm:Go.Ab.T V} (e:Te R E p c17 B w tm) (t148:(Opd.t 148).ev tm=.int .i64 N) (t149:(Opd.t 149).ev tm=.int .i64 (runs.length:Int)) {ro:Option Nat}:
  W fnG fastA 354 3 ro (navU [true,true,true,true,true,true,true,true,true,true,true,true,false,true,true,true,true,true,false] c3.body) ⟨tm,h,[]⟩ fun x1 s1=>x1=.nrm∧∃(tm':Go.Ab.T V) (h':H) (T':Int) (a':At) (C' Rr':V) (s:Int × Int),s1=⟨tm',h',[]⟩∧T'≤T+8∧Am h0 p c17 y bs T' a' C' Rr' G h'∧ShA es B (runs++[s]) a'∧a'.rds.length≤4*(runs.length+1)∧Te R E p c17 B w tm'∧(Opd.t 148).ev tm'=.int .i64 N∧(Opd.t 149).ev tm'=.int .i64 (runs.length:Int):=by
 obtain⟨t2,t8,t10,t15,t16,t17⟩:=e
 obtain⟨n1,n4⟩:=x.e.n
 obtain⟨Z,hZ⟩:∃Z,navU [true,true,true,true,true,true,true,true,true,true,true,true,false,true,true,true,true,true,false,true,true,true,true,true,true,true,true,true,false] c3.body=Z:=⟨_,rfl⟩
 have re:= @rd_ev
 rw[hZ] at re
 simp only[navU,c3] at hZ
 simp only[navU,c3]
 rw[hZ]
 clear hZ
 simp -implicitDefEqProofs(maxSteps:=999999)(disch:=first|with_reducible rfl|omega|(simp only[nA,nS,nD]<;>omega)|fail)only[go_sem,t15,t149]
 refine m.q.frm (lo:= -9) (hi:=50) (by omega) (by omega) (by omega) _ fun st h1 st0 st1 q1 k1 n1'=>?_
 have m1:=m.spin q1 k1
 simp -implicitDefEqProofs(maxSteps:=999999)(disch:=first|with_reducible rfl|omega|(simp only[nA,nS,nD]<;>omega)|fail)only[go_sem,t15]
 refine m1.q.frm (lo:= -20) (hi:=20) (by omega) (by omega) (by omega) _ fun gn h2 gn0 gn1 q2 k2 n2'=>?_
 have m2:=m1.spin q2 k2
 have c2:=cells_of m2.g
 simp -implicitDefEqProofs(maxSteps:=999999)(disch:=first|with_reducible rfl|omega|(simp only[nA,nS,nD]<;>omega)|fail)only[go_sem,t15,t17,c2]
 refine m2.q.upto (n:=3) (by omega) (by omega) _ fun r1 h3 r10 r11 q3 k3 n3'=>?_
 have m3:=m2.spin q3 k3
 have c3:=cells_of m3.g
 have w1:wr .i64 (st+r1)=st+r1:=wr_in (by omega) (by omega)
 simp -implicitDefEqProofs(maxSteps:=999999)(disch:=first|with_reducible rfl|omega|(simp only[nA,nS,nD]<;>omega)|fail)only[go_sem,t15,t17,c2,c3,w1]
 refine m3.q.upto (n:=2) (by omega) (by omega) _ fun r2 h4 r20 r21 q4 k4 n4'=>?_
 have m4:=m3.spin q4 k4
 have c4:=cells_of m4.g
 have w2:wr .i64 (gn+r2)=gn+r2:=wr_in (by omega) (by omega)
 simp -implicitDefEqProofs(maxSteps:=999999)(disch:=first|with_reducible rfl|omega|(simp only[nA,nS,nD]<;>omega)|fail)only[go_sem,t15,t17,c2,c3,c4,w2]
 have sB:=(H.Sub.refl m4.q.s.wf).add (.cells .rw (encC ⟨st,st+r1,gn,gn+r2⟩))
 have mB:=m4.mono sB
 have hcl:=x.ckl
 refine mB.c.app1 (by_:=32) (r:=encC ⟨st,st+r1,gn,gn+r2⟩) m.q.w0 rfl (by omega) (SlAt.new _ rfl rfl (by simp) (by simp[encC]) (by simp)) rfl (by rw[List.length_map];omega) (by rw[List.length_map];omega) fun h6 o6 k6 n6=>?_
 have m6:=mB.clk k6 o6 (by rintro b ⟨_,_,_,e⟩;cases e;exact Nat.le_refl _)
 have g6:=k6.2 _ _ mB.g (mB.c.ne mB.g)
 have x6:=x.clock hr (s:=(st,gn)) (c:=⟨st,st+r1,gn,gn+r2⟩) ⟨⟨st0,st1⟩,⟨gn0,gn1⟩,rfl,⟨by show st≤st+r1;omega,by show st+r1≤st+3;omega⟩,rfl,⟨by show gn≤gn+r2;omega,by show gn+r2≤gn+2;omega⟩⟩
 have c5:=cells_of mB.g
 simp only[encC] at c5
 simp only[H.next_add,encC] at m6 g6
 simp only[H.next_add,encC]
 have lE:=sE.lenE
 simp -implicitDefEqProofs(maxSteps:=999999)(disch:=first|with_reducible rfl|omega|(simp only[nA,nS,nD]<;>omega)|fail)only[go_sem,t10,t17,c2,c3,c4,c5,g6,lE]
 clear c2 c3 c4 c5
 refine W_count es.length (fun j s1=>∃(tm':Go.Ab.T V) (h':H) (T':Int) (a':At) (C' Rr':V),s1=⟨tm',h',[]⟩∧T'≤T+4+(j:Int)∧Am h0 p c17 y bs T' a' C' Rr' G h'∧ShA es B (runs++[(st,gn)]) a'∧a'.rds.length≤a.rds.length+j∧Te R E p c17 B w tm'∧Tf E runs.length es.length N (st,gn) j tm') ?_ ?_ (i:=0) (Nat.zero_le _)
  ⟨_,_,_,_,_,_,rfl,by omega,m6,x6,Nat.le_refl _,⟨(by simp[ev_c,ev_put,t2]<;>rfl),(by simp[ev_c,ev_put,t8]<;>rfl),(by simp[ev_c,ev_put,t10]<;>rfl),(by simp[ev_c,ev_put,t15]<;>rfl),(by simp[ev_c,ev_put,t16]<;>rfl),(by simp[ev_c,ev_put,t17]<;>rfl)⟩,⟨(by simp[ev_c,ev_put]<;>rfl),(by simp[ev_c,ev_put]<;>rfl),(by simp[ev_c,ev_put]<;>rfl),(by simp[ev_c,ev_put,t148]<;>rfl),(by simp[ev_c,ev_put,t149]<;>rfl),(by simp[ev_c,ev_put]<;>rfl),(by simp[ev_c,ev_put]<;>rfl),(by simp only[ev_put];rfl)⟩⟩
 ·rintro j s1 hj ⟨tm',h',T',a',C',Rr',rfl,hT',m',x',hl',⟨t2,t8,t10,t15,t16,t17⟩,⟨t20,t21,t22,t148,t149,t174,t175,t176⟩⟩
  have hj':(j:Int)<(es.length:Int):=by omega
  simp -implicitDefEqProofs(maxSteps:=999999)(disch:=first|with_reducible rfl|omega|(simp only[nA,nS,nD]<;>omega)|fail)only[go_sem,t175,t176,hj']
  refine(re sE m' (by omega) x' (by omega) (k:=runs.length) (j:=j) (N:=N) (s:=(st,gn)) (by simp) hj ⟨(by simp[ev_c,ev_put,t2]<;>rfl),(by simp[ev_c,ev_put,t8]<;>rfl),(by simp[ev_c,ev_put,t10]<;>rfl),(by simp[ev_c,ev_put,t15]<;>rfl),(by simp[ev_c,ev_put,t16]<;>rfl),(by simp[ev_c,ev_put,t17]<;>rfl)⟩ ⟨(by simp[ev_c,ev_put,t20]<;>rfl),(by simp[ev_c,ev_put,t21]<;>rfl),(by simp[ev_c,ev_put,t22]<;>rfl),(by simp[ev_c,ev_put,t148]<;>rfl),(by simp[ev_c,ev_put,t149]<;>rfl),(by simp[ev_c,ev_put,t174]<;>rfl),(by simp[ev_c,ev_put,t175]<;>rfl),(by simp[ev_c,ev_put,t176]<;>rfl)⟩).mono ?_
  rintro _ _ ⟨rfl,tm9,h9,T9,a9,Rr9,rfl,hT9,m9,x9,hl9,⟨u2,u8,u10,u15,u16,u17⟩,⟨u20,u21,u22,u148,u149,u174,u175,u176⟩⟩
  simp -implicitDefEqProofs(maxSteps:=999999)(disch:=first|with_reducible rfl|omega|(simp only[nA,nS,nD]<;>omega)|fail)only[go_sem,u176,wr_succ]
  exact⟨_,_,_,_,_,_,rfl,by omega,m9,x9,by omega,⟨(by simp[ev_c,ev_put,u2]<;>rfl),(by simp[ev_c,ev_put,u8]<;>rfl),(by simp[ev_c,ev_put,u10]<;>rfl),(by simp[ev_c,ev_put,u15]<;>rfl),(by simp[ev_c,ev_put,u16]<;>rfl),(by simp[ev_c,ev_put,u17]<;>rfl)⟩,⟨(by simp[ev_c,ev_put,u20]<;>rfl),(by simp[ev_c,ev_put,u21]<;>rfl),(by simp[ev_c,ev_put,u22]<;>rfl),(by simp[ev_c,ev_put,u148]<;>rfl),(by simp[ev_c,ev_put,u149]<;>rfl),(by simp[ev_c,ev_put,u174]<;>rfl),(by simp[ev_c,ev_put,u175]<;>rfl),(by simp[ev_c,ev_put]<;>rfl)⟩⟩
 ·rintro s1 ⟨tm',h',T',a',C',Rr',rfl,hT',m',x',hl',⟨t2,t8,t10,t15,t16,t17⟩,⟨t20,t21,t22,t148,t149,t174,t175,t176⟩⟩
  simp -implicitDefEqProofs(maxSteps:=999999)(disch:=first|with_reducible rfl|omega|(simp only[nA,nS,nD]<;>omega)|fail)only[go_sem,t175,t176,Int.lt_irrefl]
  exact⟨_,_,_,_,_,_,_,rfl,by omega,m',x',by omega,⟨(by simp[ev_c,ev_put,t2]<;>rfl),(by simp[ev_c,ev_put,t8]<;>rfl),(by simp[ev_c,ev_put,t10]<;>rfl),(by simp[ev_c,ev_put,t15]<;>rfl),(by simp[ev_c,ev_put,t16]<;>rfl),(by simp[ev_c,ev_put,t17]<;>rfl)⟩,(by simp[ev_c,ev_put,t148]<;>rfl),(by simp[ev_c,ev_put,t149]<;>rfl)⟩
set_option maxHeartbeats 4000000 in
theorem clks_ev {h0 h:H}{p c17:Nat}{y:V}{bs:List Int}{T:Int}{a:At}{R E G:V}{B w:Int}{es:List Int}(sE:SlAt h0 E 1 (es.map encI))(m:Am h0 p c17 y bs T a .nils .nils G h)(hT:T≤700)(x:ShA es B [] a)(hl:a.rds.length=0)
  {tm:Go.Ab.T V} (e:Te R E p c17 B w tm) {ro:Option Nat}:
  W fnG fastA 354 3 ro (navU [true,true,true,true,true,true,true,true,true,true,true,true,false] c3.body) ⟨tm,h,[]⟩ fun x1 s1=>x1=.nrm∧∃(tm':Go.Ab.T V) (h':H) (a':At) (C' Rr':V) (runs:Runs),s1=⟨tm',h',[]⟩∧h0.Sub h'∧h'.get c17=some (.cells .rw (atV a' C' Rr' G))∧AtAt h' C' Rr' G a'∧ShA es B runs a'∧Te R E p c17 B w tm':=by
 obtain⟨t2,t8,t10,t15,t16,t17⟩:=e
 obtain⟨n1,n4⟩:=x.e.n
 obtain⟨Z,hZ⟩:∃Z,navU [true,true,true,true,true,true,true,true,true,true,true,true,false,true,true,true,true,true,false] c3.body=Z:=⟨_,rfl⟩
 have re:= @clk_ev
 rw[hZ] at re
 simp only[navU,c3] at hZ
 simp only[navU,c3]
 rw[hZ]
 clear hZ
 simp -implicitDefEqProofs(maxSteps:=999999)(disch:=first|with_reducible rfl|omega|(simp only[nA,nS,nD]<;>omega)|fail)only[go_sem,t15]
 refine m.q.upto (n:=2) (by omega) (by omega) _ fun n h1 r0 r1 q1 k1 n1'=>?_
 have m1:=m.spin q1 k1
 obtain⟨nn,rfl⟩:=Int.eq_ofNat_of_zero_le r0
 simp -implicitDefEqProofs(maxSteps:=999999)(disch:=first|with_reducible rfl|omega|(simp only[nA,nS,nD]<;>omega)|fail)only[go_sem]
 refine W_count nn (fun j s1=>∃(tm':Go.Ab.T V) (h':H) (T':Int) (a':At) (C' Rr':V) (runs:Runs),s1=⟨tm',h',[]⟩∧T'≤T+1+8*(j:Int)∧Am h0 p c17 y bs T' a' C' Rr' G h'∧ShA es B runs a'∧runs.length=j∧a'.rds.length≤4*j∧Te R E p c17 B w tm'∧(Opd.t 148).ev tm'=.int .i64 (nn:Int)∧(Opd.t 149).ev tm'=.int .i64 (j:Int)) ?_ ?_ (i:=0) (Nat.zero_le _)
  ⟨_,_,_,_,_,_,[],rfl,by omega,m1,x,rfl,by omega,⟨(by simp[ev_c,ev_put,t2]<;>rfl),(by simp[ev_c,ev_put,t8]<;>rfl),(by simp[ev_c,ev_put,t10]<;>rfl),(by simp[ev_c,ev_put,t15]<;>rfl),(by simp[ev_c,ev_put,t16]<;>rfl),(by simp[ev_c,ev_put,t17]<;>rfl)⟩,(by simp[ev_c,ev_put]<;>rfl),(by simp only[ev_put];rfl)⟩
 ·rintro j s1 hj ⟨tm',h',T',a',C',Rr',runs,rfl,hT',m',x',rfl,hl',⟨t2,t8,t10,t15,t16,t17⟩,t148,t149⟩
  have hj':(runs.length:Int)<(nn:Int):=by omega
  simp -implicitDefEqProofs(maxSteps:=999999)(disch:=first|with_reducible rfl|omega|(simp only[nA,nS,nD]<;>omega)|fail)only[go_sem,t148,t149,hj']
  refine(re sE m' (by omega) x' hl' (by omega) (N:=(nn:Int)) ⟨(by simp[ev_c,ev_put,t2]<;>rfl),(by simp[ev_c,ev_put,t8]<;>rfl),(by simp[ev_c,ev_put,t10]<;>rfl),(by simp[ev_c,ev_put,t15]<;>rfl),(by simp[ev_c,ev_put,t16]<;>rfl),(by simp[ev_c,ev_put,t17]<;>rfl)⟩ (by simp[ev_c,ev_put,t148]<;>rfl) (by simp[ev_c,ev_put,t149]<;>rfl)).mono ?_
  rintro _ _ ⟨rfl,tm9,h9,T9,a9,C9,Rr9,s9,rfl,hT9,m9,x9,hl9,⟨u2,u8,u10,u15,u16,u17⟩,u148,u149⟩
  simp -implicitDefEqProofs(maxSteps:=999999)(disch:=first|with_reducible rfl|omega|(simp only[nA,nS,nD]<;>omega)|fail)only[go_sem,u149,wr_succ]
  exact⟨_,_,_,_,_,_,runs++[s9],rfl,by omega,m9,x9,by simp,hl9,⟨(by simp[ev_c,ev_put,u2]<;>rfl),(by simp[ev_c,ev_put,u8]<;>rfl),(by simp[ev_c,ev_put,u10]<;>rfl),(by simp[ev_c,ev_put,u15]<;>rfl),(by simp[ev_c,ev_put,u16]<;>rfl),(by simp[ev_c,ev_put,u17]<;>rfl)⟩,(by simp[ev_c,ev_put,u148]<;>rfl),(by simp[ev_c,ev_put]<;>rfl)⟩
 ·rintro s1 ⟨tm',h',T',a',C',Rr',runs,rfl,hT',m',x',hl2,hl',⟨t2,t8,t10,t15,t16,t17⟩,t148,t149⟩
  simp -implicitDefEqProofs(maxSteps:=999999)(disch:=first|with_reducible rfl|omega|(simp only[nA,nS,nD]<;>omega)|fail)only[go_sem,t148,t149,Int.lt_irrefl]
  have l1:=x'.ckl;have l2:=x'.ck2;have l3:=x'.rl
  have l4:a'.gps.length≤4:=by rw[x'.gps];simp only[gapsE,List.length_map,List.length_range];omega
  exact⟨_,_,_,_,_,runs,rfl,m'.q.s,m'.g,⟨m'.c.sl (by rw[List.length_map];omega),m'.r.sl (by rw[List.length_map];omega),m'.gp.sl (by rw[List.length_map];omega)⟩,x',⟨(by simp[ev_c,ev_put,t2]<;>rfl),(by simp[ev_c,ev_put,t8]<;>rfl),(by simp[ev_c,ev_put,t10]<;>rfl),(by simp[ev_c,ev_put,t15]<;>rfl),(by simp[ev_c,ev_put,t16]<;>rfl),(by simp[ev_c,ev_put,t17]<;>rfl)⟩⟩
end Go.Ab.Tryz
namespace Go.Ab.Tryz
theorem feqn2 (a b:Int):q_feq true 2 (.agg [.int .i64 a,.int .i64 b]) (.agg [.int .i64 a,.int .i64 b])=some (.bool false):=by
 have:=q_feq_map (n:=2) [a,b] [a,b] rfl rfl true
 simpa[iv,ngB] using this
structure Wd (h0:H)(c17:Nat)(R E C Rr G:V)(es:List Int)(B:Int)(runs:Runs)(a:At):Prop where
 w:h0.wf
 g:h0.get c17=some (.cells .rw (atV a C Rr G))
 at_:AtAt h0 C Rr G a
 x:ShA es B runs a
 sE:SlAt h0 E 1 (es.map encI)
 sR:SlAt h0 R 1 ((upL es.length).map encI)
structure Tg (R E:V)(c17 n i:Nat)(B pay S:Int)(tm:T V):Prop where
 t8:(Opd.t 8).ev tm=R
 t10:(Opd.t 10).ev tm=E
 t16:(Opd.t 16).ev tm=.int .i64 B
 t17:(Opd.t 17).ev tm=.ptr c17 0
 t27:(Opd.t 27).ev tm=.int .i64 pay
 t28:(Opd.t 28).ev tm=.int .i64 ((n-1:Nat):Int)
 t29:(Opd.t 29).ev tm=.int .i64 S
 t212:(Opd.t 212).ev tm=.int .i64 (n:Int)
 t213:(Opd.t 213).ev tm=.int .i64 (i:Int)
set_option maxHeartbeats 4000000 in
theorem two_ev {h0 h:H}{c17:Nat}{R E C Rr G:V}{es:List Int}{B:Int}{runs:Runs}{a:At}(d:Wd h0 c17 R E C Rr G es B runs a)(hs:h0.Sub h){i k:Nat}(hk:k<i)(hi:i<es.length){pay S:Int}{tm:Go.Ab.T V}(e:Tg R E c17 es.length i B pay S tm)
  (t30:(Opd.t 30).ev tm=.int .i64 (i:Int)) (t246:(Opd.t 246).ev tm=.int .i64 (i:Int)) (t247:(Opd.t 247).ev tm=.int .i64 (k:Int)) {ro:Option Nat}:
  W fnG fastA 354 3 ro (navU [true,true,true,true,true,true,true,true,true,true,true,true,true,true,true,true,false,true,true,true,true,true,false,true,true,true,true,false,true,true,true,true,true,false] c3.body) ⟨tm,h,[]⟩ fun x1 s1=>x1=.nrm∧∃(tm':Go.Ab.T V) (h':H),s1=⟨tm',h',[]⟩∧h0.Sub h'∧Tg R E c17 es.length i B pay S tm'∧(Opd.t 30).ev tm'=.int .i64 (i:Int)∧(Opd.t 246).ev tm'=.int .i64 (i:Int)∧(Opd.t 247).ev tm'=.int .i64 (k:Int):=by
 obtain⟨t8,t10,t16,t17,t27,t28,t29,t212,t213⟩:=e
 simp only[navU,c3]
 have c1:=hs.cells (cells_of d.g)
 have oC:=d.at_.c.one;have oR:=d.at_.r.one;have oG:=d.at_.g.one
 simp -implicitDefEqProofs(maxSteps:=999999)(disch:=first|with_reducible rfl|omega|(simp only[nA,nS,nD]<;>omega)|fail)only[go_sem,t17,t30,t247,c1,oC,oR,oG]
 refine btw_ev hs.wf (d.at_.mono hs) _ _ _ fun h2 s2=>?_
 rw[d.x.btw (by omega) hi]
 have hs2:=hs.trans s2
 have sA:=(H.Sub.refl s2.wf).add (.cells .rw [.int .i64 (es.getD i 0-es.getD k 0),.int .i64 (es.getD i 0-es.getD k 0)])
 have cA:(h2.add (.cells .rw [.int .i64 (es.getD i 0-es.getD k 0),.int .i64 (es.getD i 0-es.getD k 0)])).cells h2.next=some [.int .i64 (es.getD i 0-es.getD k 0),.int .i64 (es.getD i 0-es.getD k 0)]:=cells_add_new rfl
 have c2:=(hs2.trans sA).cells (cells_of d.g)
 simp -implicitDefEqProofs(maxSteps:=999999)(disch:=first|with_reducible rfl|omega|(simp only[nA,nS,nD]<;>omega)|fail)only[go_sem,spV,t17,t30,c2,oC,oR,oG]
 generalize h2.add _=hA at sA cA c2⊢
 refine before_ev sA.wf (d.at_.mono (hs2.trans sA)) _ _ _ fun h3 s3=>?_
 rw[d.x.bef hk hi]
 have hs3:=(hs2.trans sA).trans s3
 have c3:=s3.cells cA
 have bi:=d.x.e.at_ hi
 have bk:=d.x.e.at_ (i:=k) (by omega)
 rw[getD_lt hi] at bi
 rw[getD_lt (by omega)] at bk
 rw[getD_lt hi,getD_lt (show k<es.length by omega)] at c3
 rw[getD_lt hi,getD_lt (show k<es.length by omega)]
 obtain⟨b1,o1,ca1,cs1,_,e1,f1,_,g1,v1⟩:=(d.sE.mono hs3).at hi
 obtain⟨b0,o0,ca0,cs0,_,e0,f0,_,g0,v0⟩:=(d.sE.mono hs3).at (k:=k) (by omega)
 have w1:nth (o1+i*1) cs1=some (.int .i64 es[i]):=v1 (by simp[encI])
 have w0:nth (o0+k*1) cs0=some (.int .i64 es[k]):=v0 (by simp[encI])
 have ww:wr .i64 (es[i]-es[k])=es[i]-es[k]:=wr_in (by omega) (by omega)
 simp -implicitDefEqProofs(maxSteps:=999999)(disch:=first|with_reducible rfl|omega|(simp only[nA,nS,nD]<;>omega)|fail)only[go_sem,t10,t17,t30,t247,f1 (nat_cst i),e1,w1,f0 (nat_cst k),e0,w0,ww,ne_eq,not_true_eq_false,c3,feqn2]
 exact⟨_,_,rfl,hs3,⟨(by simp[ev_c,ev_put,t8]<;>rfl),(by simp[ev_c,ev_put,t10]<;>rfl),(by simp[ev_c,ev_put,t16]<;>rfl),(by simp[ev_c,ev_put,t17]<;>rfl),(by simp[ev_c,ev_put,t27]<;>rfl),(by simp[ev_c,ev_put,t28]<;>rfl),(by simp[ev_c,ev_put,t29]<;>rfl),(by simp[ev_c,ev_put,t212]<;>rfl),(by simp[ev_c,ev_put,t213]<;>rfl)⟩,(by simp[ev_c,ev_put,t30]<;>rfl),(by simp[ev_c,ev_put,t246]<;>rfl),(by simp[ev_c,ev_put,t247]<;>rfl)⟩
theorem wage_le {n p:Int}(hn:0≤n∧n≤100)(hp:0≤p∧p≤600):0≤wage n p∧wage n p≤1000:=by
 refine⟨wage_pos hn.1 hp.1,?_⟩
 rw[wage_eq hp.1,show max 0 n=n by omega]
 have:n*p≤100*600:=Int.mul_le_mul hn.2 hp.2 hp.1 (by omega)
 omega
theorem sumW_bd {E:List Int}(h:EndsE E){p:Int}(hp:0≤p∧p≤600){i:Nat}(hi:i<E.length): -4≤sumW E p i∧sumW E p i≤1000:=by
 obtain⟨h1,h2⟩:=sumW_spec h hp.1 i hi
 have a1:=h.at_ hi
 have a0:=h.at_ (i:=0) (by omega)
 have n4:=h.n
 have up:E.getD 0 0≤E.getD i 0:=by
  rcases Nat.eq_zero_or_pos i with e|e
  ·subst e;exact Int.le_refl _
  ·have:=h.lt (k:=0) (i:=i) e hi;omega
 have:=wage_le (n:=E.getD i 0-E.getD 0 0) ⟨by omega,by omega⟩ hp
 omega
set_option maxHeartbeats 4000000 in
theorem one_ev {h0 h:H}{c17:Nat}{R E C Rr G:V}{es:List Int}{B:Int}{runs:Runs}{a:At}(d:Wd h0 c17 R E C Rr G es B runs a)(hs:h0.Sub h){i:Nat}(hi:i<es.length){pay:Int}(hp:0≤pay∧pay≤600){tm:Go.Ab.T V}(e:Tg R E c17 es.length i B pay (sumW es pay (i-1)) tm){ro:Option Nat}:
  W fnG fastA 354 3 ro (navU [true,true,true,true,true,true,true,true,true,true,true,true,true,true,true,true,false,true,true,true,true,true,false] c3.body) ⟨tm,h,[]⟩ fun x1 s1=>x1=.nrm∧∃(tm':Go.Ab.T V) (h':H),s1=⟨tm',h',[]⟩∧h0.Sub h'∧Tg R E c17 es.length i B pay (sumW es pay i) tm':=by
 obtain⟨t8,t10,t16,t17,t27,t28,t29,t212,t213⟩:=e
 obtain⟨Z,hZ⟩:∃Z,navU [true,true,true,true,true,true,true,true,true,true,true,true,true,true,true,true,false,true,true,true,true,true,false,true,true,true,true,false,true,true,true,true,true,false] c3.body=Z:=⟨_,rfl⟩
 have re:= @two_ev
 rw[hZ] at re
 simp only[navU,c3] at hZ
 simp only[navU,c3]
 rw[hZ]
 clear hZ
 have c1:=hs.cells (cells_of d.g)
 have oC:=d.at_.c.one;have oR:=d.at_.r.one;have oG:=d.at_.g.one
 have xb:=d.x.b
 have n4:=d.x.e.n
 have bi:=d.x.e.at_ hi
 rw[getD_lt hi] at bi
 obtain⟨lo,hi',ht,hlo,hhi⟩:=d.x.time hi
 rw[getD_lt hi] at hlo hhi
 simp -implicitDefEqProofs(maxSteps:=999999)(disch:=first|with_reducible rfl|omega|(simp only[nA,nS,nD]<;>omega)|fail)only[go_sem,t17,t213,c1,oC,oR,oG]
 refine time_ev hs.wf (d.at_.mono hs) _ _ fun h2 s2=>?_
 rw[ht]
 have hs2:=hs.trans s2
 have sA:=(H.Sub.refl s2.wf).add (.cells .rw [.int .i64 lo,.int .i64 hi'])
 have cA:(h2.add (.cells .rw [.int .i64 lo,.int .i64 hi'])).cells h2.next=some [.int .i64 lo,.int .i64 hi']:=cells_add_new rfl
 obtain⟨b1,o1,ca1,cs1,_,e1,f1,_,g1,v1⟩:=(d.sE.mono (hs2.trans sA)).at hi
 have w1:nth (o1+i*1) cs1=some (.int .i64 es[i]):=v1 (by simp[encI])
 have ww:wr .i64 (B+es[i])=B+es[i]:=wr_in (by omega) (by omega)
 have nl:¬B+es[i]<lo:=by omega
 have nh:¬hi'<B+es[i]:=by omega
 simp -implicitDefEqProofs(maxSteps:=999999)(disch:=first|with_reducible rfl|omega|(simp only[nA,nS,nD]<;>omega)|fail)only[go_sem,spV,t10,t16,t17,t213]
 generalize h2.add _=hA at sA cA e1⊢
 simp -implicitDefEqProofs(maxSteps:=999999)(disch:=first|with_reducible rfl|omega|(simp only[nA,nS,nD]<;>omega)|fail)only[go_sem,spV,t10,t16,t17,t213,f1 (nat_cst i),e1,w1,ww,cA,nl,nh,ne_eq,not_true_eq_false]
 refine W_count i (fun k s1=>∃(tm':Go.Ab.T V) (h':H),s1=⟨tm',h',[]⟩∧h0.Sub h'∧Tg R E c17 es.length i B pay (sumW es pay (i-1)) tm'∧(Opd.t 30).ev tm'=.int .i64 (i:Int)∧(Opd.t 246).ev tm'=.int .i64 (i:Int)∧(Opd.t 247).ev tm'=.int .i64 (k:Int)) ?_ ?_ (i:=0) (Nat.zero_le _)
  ⟨_,_,rfl,hs2.trans sA,⟨(by simp[ev_c,ev_put,t8]<;>rfl),(by simp[ev_c,ev_put,t10]<;>rfl),(by simp[ev_c,ev_put,t16]<;>rfl),(by simp[ev_c,ev_put,t17]<;>rfl),(by simp[ev_c,ev_put,t27]<;>rfl),(by simp[ev_c,ev_put,t28]<;>rfl),(by simp[ev_c,ev_put,t29]<;>rfl),(by simp[ev_c,ev_put,t212]<;>rfl),(by simp[ev_c,ev_put,t213]<;>rfl)⟩,(by simp[ev_c,ev_put]<;>rfl),(by simp[ev_c,ev_put]<;>rfl),(by simp only[ev_put];rfl)⟩
 ·rintro k s1 hk ⟨tm',h',rfl,hs',⟨t8,t10,t16,t17,t27,t28,t29,t212,t213⟩,t30,t246,t247⟩
  have hk':(k:Int)<(i:Int):=by omega
  simp -implicitDefEqProofs(maxSteps:=999999)(disch:=first|with_reducible rfl|omega|(simp only[nA,nS,nD]<;>omega)|fail)only[go_sem,t246,t247,hk']
  refine(re d hs' hk hi (pay:=pay) (S:=sumW es pay (i-1)) ⟨(by simp[ev_c,ev_put,t8]<;>rfl),(by simp[ev_c,ev_put,t10]<;>rfl),(by simp[ev_c,ev_put,t16]<;>rfl),(by simp[ev_c,ev_put,t17]<;>rfl),(by simp[ev_c,ev_put,t27]<;>rfl),(by simp[ev_c,ev_put,t28]<;>rfl),(by simp[ev_c,ev_put,t29]<;>rfl),(by simp[ev_c,ev_put,t212]<;>rfl),(by simp[ev_c,ev_put,t213]<;>rfl)⟩ (by simp[ev_c,ev_put,t30]<;>rfl) (by simp[ev_c,ev_put,t246]<;>rfl) (by simp[ev_c,ev_put,t247]<;>rfl)).mono ?_
  rintro _ _ ⟨rfl,tm9,h9,rfl,hs9,⟨u8,u10,u16,u17,u27,u28,u29,u212,u213⟩,u30,u246,u247⟩
  simp -implicitDefEqProofs(maxSteps:=999999)(disch:=first|with_reducible rfl|omega|(simp only[nA,nS,nD]<;>omega)|fail)only[go_sem,u247,wr_succ]
  exact⟨_,_,rfl,hs9,⟨(by simp[ev_c,ev_put,u8]<;>rfl),(by simp[ev_c,ev_put,u10]<;>rfl),(by simp[ev_c,ev_put,u16]<;>rfl),(by simp[ev_c,ev_put,u17]<;>rfl),(by simp[ev_c,ev_put,u27]<;>rfl),(by simp[ev_c,ev_put,u28]<;>rfl),(by simp[ev_c,ev_put,u29]<;>rfl),(by simp[ev_c,ev_put,u212]<;>rfl),(by simp[ev_c,ev_put,u213]<;>rfl)⟩,(by simp[ev_c,ev_put,u30]<;>rfl),(by simp[ev_c,ev_put,u246]<;>rfl),(by simp[ev_c,ev_put]<;>rfl)⟩
 ·rintro s1 ⟨tm',h',rfl,hs',⟨t8,t10,t16,t17,t27,t28,t29,t212,t213⟩,t30,t246,t247⟩
  by_cases hz:(0:Int)<(i:Int)
  ·have hw1:wr .i64 ((i:Int)-1)=((i-1:Nat):Int):=by rw[wr_in (by omega) (by omega)];omega
   have c4:=hs'.cells (cells_of d.g)
   simp -implicitDefEqProofs(maxSteps:=999999)(disch:=first|with_reducible rfl|omega|(simp only[nA,nS,nD]<;>omega)|fail)only[go_sem,t17,t27,t30,t246,t247,Int.lt_irrefl,hz,c4,oC,oR,oG,hw1]
   refine wages_ev hs'.wf (d.at_.mono hs') _ _ _ _ fun h5 s5=>?_
   rw[d.x.wag (by omega) hi hp]
   obtain⟨wg,hwg⟩:∃wg,wage (es.getD i 0-es.getD (i-1) 0) pay=wg:=⟨_,rfl⟩
   have lt:=d.x.e.lt (k:=i-1) (i:=i) (by omega) hi
   have b0:=d.x.e.at_ (i:=i-1) (by omega)
   rw[getD_lt hi] at lt
   have wb:0≤wg∧wg≤1000:=by rw[←hwg];exact wage_le (by rw[getD_lt hi];omega) hp
   have sb:=sumW_bd d.x.e hp (i:=i-1) (by omega)
   have se:sumW es pay i=sumW es pay (i-1)+wg:=by
    obtain⟨j,rfl⟩:∃j,i=j+1:=⟨i-1,by omega⟩
    rw[←hwg];rfl
   have wS:wr .i64 (sumW es pay (i-1)+wg)=sumW es pay (i-1)+wg:=wr_in (by omega) (by omega)
   have ng:¬wg<0:=by omega
   rw[hwg]
   simp -implicitDefEqProofs(maxSteps:=999999)(disch:=first|with_reducible rfl|omega|(simp only[nA,nS,nD]<;>omega)|fail)only[go_sem,spV,t29,ne_eq,not_true_eq_false,ng,wS]
   exact⟨_,_,rfl,(hs'.trans s5).add _,⟨(by simp[ev_c,ev_put,t8]<;>rfl),(by simp[ev_c,ev_put,t10]<;>rfl),(by simp[ev_c,ev_put,t16]<;>rfl),(by simp[ev_c,ev_put,t17]<;>rfl),(by simp[ev_c,ev_put,t27]<;>rfl),(by simp[ev_c,ev_put,t28]<;>rfl),by rw[se];exact(by simp[ev_c,ev_put]<;>rfl),(by simp[ev_c,ev_put,t212]<;>rfl),(by simp[ev_c,ev_put,t213]<;>rfl)⟩⟩
  ·have i0:i=0:=by omega
   simp -implicitDefEqProofs(maxSteps:=999999)(disch:=first|with_reducible rfl|omega|(simp only[nA,nS,nD]<;>omega)|fail)only[go_sem,t30,t246,t247,Int.lt_irrefl,hz]
   exact⟨_,_,rfl,hs',⟨(by simp[ev_c,ev_put,t8]<;>rfl),(by simp[ev_c,ev_put,t10]<;>rfl),(by simp[ev_c,ev_put,t16]<;>rfl),(by simp[ev_c,ev_put,t17]<;>rfl),(by simp[ev_c,ev_put,t27]<;>rfl),(by simp[ev_c,ev_put,t28]<;>rfl),by subst i0;exact(by simp[ev_c,ev_put,t29]<;>rfl),(by simp[ev_c,ev_put,t212]<;>rfl),(by simp[ev_c,ev_put,t213]<;>rfl)⟩⟩
end Go.Ab.Tryz
namespace Go.Ab.Tryz
theorem awk10_eq (h:H)(Q:V→H→Prop):Ev fnG fastA (.fn 7 [] []) [] h Q=Q (.bool true) h:=Ev.det ⟨1,.bool true,h,rfl,rfl,rfl⟩ Q
structure Tl (R E:V)(c17:Nat)(B w:Int)(tm:T V):Prop where
 t2:(Opd.t 2).ev tm=.int .u16 w
 t8:(Opd.t 8).ev tm=R
 t10:(Opd.t 10).ev tm=E
 t16:(Opd.t 16).ev tm=.int .i64 B
 t17:(Opd.t 17).ev tm=.ptr c17 0
set_option maxHeartbeats 4000000 in
theorem tail_ev {h0:H}{c17:Nat}{R E C Rr G:V}{es:List Int}{B w:Int}{runs:Runs}{a:At}(d:Wd h0 c17 R E C Rr G es B runs a)(hw:0≤w∧w≤65535){tm:Go.Ab.T V}(e:Tl R E c17 B w tm){ro:Option Nat}:
  W fnG fastA 354 3 ro (navU [true,true,true,true,true,true,true,true,true,true,true,true,true] c3.body) ⟨tm,h0,[]⟩ fun x1 s1=>x1=.ret∧∃(tm':Go.Ab.T V) (h':H),s1=⟨tm',h',[]⟩∧h0.Sub h'∧(Opd.t 6).ev tm'=.bool true:=by
 obtain⟨t2,t8,t10,t16,t17⟩:=e
 obtain⟨Z,hZ⟩:∃Z,navU [true,true,true,true,true,true,true,true,true,true,true,true,true,true,true,true,false,true,true,true,true,true,false] c3.body=Z:=⟨_,rfl⟩
 have re:= @one_ev
 rw[hZ] at re
 simp only[navU,c3] at hZ
 simp only[navU,c3]
 rw[hZ]
 clear hZ
 obtain⟨n1,n4⟩:=d.x.e.n
 have oC:=d.at_.c.one;have oR:=d.at_.r.one;have oG:=d.at_.g.one
 have lR:=d.sR.lenE
 rw[upL_len] at lR
 have hp:0≤w.tmod 601∧w.tmod 601<601:=⟨Int.tmod_nonneg _ hw.1,Int.tmod_lt_of_pos _ (by omega)⟩
 have h6:¬(601:Int)=0:=by omega
 have ww:wr .i64 w=w:=wr_in (by omega) (by omega)
 have w1:wr .i64 ((es.length:Int)-1)=((es.length-1:Nat):Int):=by rw[wr_in (by omega) (by omega)];omega
 simp -implicitDefEqProofs(maxSteps:=999999)(disch:=first|with_reducible rfl|omega|(simp only[nA,nS,nD]<;>omega)|fail)only[go_sem,t2,t8,ww,q_ar_rem .i64 h6,lR,w1]
 generalize w.tmod 601=pay at hp⊢
 have hp':0≤pay∧pay≤600:=by omega
 refine W_count es.length (fun i s1=>∃(tm':Go.Ab.T V) (h':H),s1=⟨tm',h',[]⟩∧h0.Sub h'∧Tg R E c17 es.length i B pay (sumW es pay (i-1)) tm') ?_ ?_ (i:=0) (Nat.zero_le _)
  ⟨_,_,rfl,H.Sub.refl d.w,⟨(by simp[ev_c,ev_put,t8]<;>rfl),(by simp[ev_c,ev_put,t10]<;>rfl),(by simp[ev_c,ev_put,t16]<;>rfl),(by simp[ev_c,ev_put,t17]<;>rfl),(by simp[ev_c,ev_put]<;>rfl),(by simp[ev_c,ev_put]<;>rfl),(by simp[ev_c,ev_put]<;>rfl),(by simp[ev_c,ev_put]<;>rfl),(by simp only[ev_put];rfl)⟩⟩
 ·rintro i s1 hi ⟨tm',h',rfl,hs',⟨t8,t10,t16,t17,t27,t28,t29,t212,t213⟩⟩
  have hi':(i:Int)<(es.length:Int):=by omega
  simp -implicitDefEqProofs(maxSteps:=999999)(disch:=first|with_reducible rfl|omega|(simp only[nA,nS,nD]<;>omega)|fail)only[go_sem,t212,t213,hi']
  refine(re d hs' hi hp' ⟨(by simp[ev_c,ev_put,t8]<;>rfl),(by simp[ev_c,ev_put,t10]<;>rfl),(by simp[ev_c,ev_put,t16]<;>rfl),(by simp[ev_c,ev_put,t17]<;>rfl),(by simp[ev_c,ev_put,t27]<;>rfl),(by simp[ev_c,ev_put,t28]<;>rfl),(by simp[ev_c,ev_put,t29]<;>rfl),(by simp[ev_c,ev_put,t212]<;>rfl),(by simp[ev_c,ev_put,t213]<;>rfl)⟩).mono ?_
  rintro _ _ ⟨rfl,tm9,h9,rfl,hs9,⟨u8,u10,u16,u17,u27,u28,u29,u212,u213⟩⟩
  simp -implicitDefEqProofs(maxSteps:=999999)(disch:=first|with_reducible rfl|omega|(simp only[nA,nS,nD]<;>omega)|fail)only[go_sem,u213,wr_succ]
  exact⟨_,_,rfl,hs9,⟨(by simp[ev_c,ev_put,u8]<;>rfl),(by simp[ev_c,ev_put,u10]<;>rfl),(by simp[ev_c,ev_put,u16]<;>rfl),(by simp[ev_c,ev_put,u17]<;>rfl),(by simp[ev_c,ev_put,u27]<;>rfl),(by simp[ev_c,ev_put,u28]<;>rfl),(by simp[ev_c,ev_put,u29]<;>rfl),(by simp[ev_c,ev_put,u212]<;>rfl),(by simp[ev_c,ev_put]<;>rfl)⟩⟩
 ·rintro s1 ⟨tm',h',rfl,hs',⟨t8,t10,t16,t17,t27,t28,t29,t212,t213⟩⟩
  have c4:=hs'.cells (cells_of d.g)
  simp -implicitDefEqProofs(maxSteps:=999999)(disch:=first|with_reducible rfl|omega|(simp only[nA,nS,nD]<;>omega)|fail)only[go_sem,t17,t27,t28,t212,t213,Int.lt_irrefl,c4,oC,oR,oG]
  refine wages_ev hs'.wf (d.at_.mono hs') _ _ _ _ fun h5 s5=>?_
  have hwg:wagesR a 0 ((es.length-1:Nat):Int) pay=_:=d.x.wag (k:=0) (i:=es.length-1) (by omega) (by omega) hp'
  obtain⟨sl,su⟩:=sumW_spec d.x.e hp'.1 (es.length-1) (by omega)
  have sb:=sumW_bd d.x.e hp' (i:=es.length-1) (by omega)
  rw[hwg]
  generalize wage (es.getD (es.length-1) 0-es.getD 0 0) pay=wg at sl su⊢
  generalize sumW es pay (es.length-1)=S at sl su sb t29
  have w2:wr .i64 (S+((es.length-1:Nat):Int))=S+((es.length-1:Nat):Int):=wr_in (by omega) (by omega)
  simp -implicitDefEqProofs(maxSteps:=999999)(disch:=first|with_reducible rfl|omega|(simp only[nA,nS,nD]<;>omega)|fail)only[go_sem,spV,t28,t29,sl,su,w2,awk10_eq]
  exact⟨_,_,rfl,(hs'.trans s5).add _,(by simp[ev_c,ev_put]<;>rfl)⟩
end Go.Ab.Tryz
namespace Go.Ab.Tryz
set_option maxHeartbeats 4000000 in
theorem lst_ev {h:H}{c7:Nat}{L O y:V}{ch w:Int}{ps:List (Od × V)}(hw:h.wf)(g:h.get c7=some (.cells .rw [L,.int .i64 ch,O]))(o:SlAt h O 4 (ps.map encOd))(hl:ps.length≤5){tm:Go.Ab.T V}(t1:(Opd.t 1).ev tm=y)(t2:(Opd.t 2).ev tm=.int .u16 w)(t7:(Opd.t 7).ev tm=.ptr c7 0)(t8:(Opd.t 8).ev tm=.nils){ro:Option Nat}:
  W fnG fastA 354 3 ro (navU [true,true,true,false] c3.body) ⟨tm,h,[]⟩ fun x1 s1=>x1=.nrm∧∃(tm':Go.Ab.T V) (h':H) (R:V),s1=⟨tm',h',[]⟩∧OwnSl h h' R 1 ((upL (min ps.length 4)).map encI)∧(Opd.t 1).ev tm'=y∧(Opd.t 2).ev tm'=.int .u16 w∧(Opd.t 7).ev tm'=.ptr c7 0∧(Opd.t 8).ev tm'=R:=by
 simp only[navU,c3]
 have c1:=cells_of g
 have lO:=o.lenE
 have O1:=o.one
 simp -implicitDefEqProofs(maxSteps:=999999)(disch:=first|with_reducible rfl|omega|(simp only[nA,nS,nD]<;>omega)|fail)only[go_sem,t7,c1,lO,O1]
 refine W_count ps.length (fun i s1=>∃(tm':Go.Ab.T V) (h':H) (R:V),s1=⟨tm',h',[]⟩∧OwnSl h h' R 1 ((upL (min i 4)).map encI)∧(Opd.t 1).ev tm'=y∧(Opd.t 2).ev tm'=.int .u16 w∧(Opd.t 7).ev tm'=.ptr c7 0∧(Opd.t 8).ev tm'=R∧(Opd.t 47).ev tm'=.int .i64 (ps.length:Int)∧(Opd.t 48).ev tm'=.int .i64 (i:Int)) ?_ ?_ (i:=0) (Nat.zero_le _)
  ⟨_,_,_,rfl,OwnSl.nil (H.Sub.refl hw) 1,(by simp[ev_c,ev_put,t1]<;>rfl),(by simp[ev_c,ev_put,t2]<;>rfl),(by simp[ev_c,ev_put,t7]<;>rfl),(by simp[ev_c,ev_put,t8]<;>rfl),(by simp[ev_c,ev_put]<;>rfl),(by simp only[ev_put];rfl)⟩
 ·rintro i s1 hi ⟨tm',h',R,rfl,oR,t1,t2,t7,t8,t47,t48⟩
  have hi':(i:Int)<(ps.length:Int):=by omega
  have lR:=(oR.sl (by rw[List.length_map,upL_len];omega)).lenE
  rw[upL_len] at lR
  by_cases h4:i<4
  ·have hm:min i 4=i:=by omega
   have hm':min (i+1) 4=i+1:=by omega
   rw[hm] at lR oR
   have hlt:(i:Int)<4:=by omega
   simp -implicitDefEqProofs(maxSteps:=999999)(disch:=first|with_reducible rfl|omega|(simp only[nA,nS,nD]<;>omega)|fail)only[go_sem,t8,t47,t48,hi',lR,hlt]
   have sB:=(H.Sub.refl oR.1.wf).add (.cells .rw [.int .i64 (i:Int)])
   refine(oR.mono sB).app1 (by_:=8) (r:=encI (i:Int)) hw rfl (by omega) (SlAt.new _ rfl rfl (by simp[encI]) (by simp[encI]) (by simp)) rfl (by rw[List.length_map,upL_len];omega) (by rw[List.length_map,upL_len];omega) fun h5 o5 k5 n5=>?_
   rw[H.next_add] at o5
   simp -implicitDefEqProofs(maxSteps:=999999)(disch:=first|with_reducible rfl|omega|(simp only[nA,nS,nD]<;>omega)|fail)only[go_sem,t48,wr_succ]
   exact⟨_,_,_,rfl,by rw[hm',upL_succ,List.map_append];exact o5,(by simp[ev_c,ev_put,t1]<;>rfl),(by simp[ev_c,ev_put,t2]<;>rfl),(by simp[ev_c,ev_put,t7]<;>rfl),(by simp[ev_c,ev_put]<;>rfl),(by simp[ev_c,ev_put,t47]<;>rfl),(by simp[ev_c,ev_put]<;>rfl)⟩
  ·have hm:min i 4=4:=by omega
   have hm':min (i+1) 4=4:=by omega
   rw[hm] at lR oR
   have hlt:¬((4:Nat):Int)<4:=by omega
   simp -implicitDefEqProofs(maxSteps:=999999)(disch:=first|with_reducible rfl|omega|(simp only[nA,nS,nD]<;>omega)|fail)only[go_sem,t8,t47,t48,hi',lR,hlt,wr_succ]
   exact⟨_,_,_,rfl,by rw[hm'];exact oR,(by simp[ev_c,ev_put,t1]<;>rfl),(by simp[ev_c,ev_put,t2]<;>rfl),(by simp[ev_c,ev_put,t7]<;>rfl),(by simp[ev_c,ev_put,t8]<;>rfl),(by simp[ev_c,ev_put,t47]<;>rfl),(by simp[ev_c,ev_put]<;>rfl)⟩
 ·rintro s1 ⟨tm',h',R,rfl,oR,t1,t2,t7,t8,t47,t48⟩
  simp -implicitDefEqProofs(maxSteps:=999999)(disch:=first|with_reducible rfl|omega|(simp only[nA,nS,nD]<;>omega)|fail)only[go_sem,t47,t48,Int.lt_irrefl]
  exact⟨_,_,_,rfl,oR,(by simp[ev_c,ev_put,t1]<;>rfl),(by simp[ev_c,ev_put,t2]<;>rfl),(by simp[ev_c,ev_put,t7]<;>rfl),(by simp[ev_c,ev_put,t8]<;>rfl)⟩
set_option maxHeartbeats 4000000 in
theorem echk_ev {h:H}{E R y:V}{w:Int}{es:List Int}(sE:SlAt h E 1 (es.map encI))(he:EndsE es){tm:Go.Ab.T V}(t1:(Opd.t 1).ev tm=y)(t2:(Opd.t 2).ev tm=.int .u16 w)(t8:(Opd.t 8).ev tm=R)(t10:(Opd.t 10).ev tm=E){ro:Option Nat}:
  W fnG fastA 354 3 ro (navU [true,true,true,true,true,true,true,false] c3.body) ⟨tm,h,[]⟩ fun x1 s1=>x1=.nrm∧∃(tm':Go.Ab.T V),s1=⟨tm',h,[]⟩∧(Opd.t 1).ev tm'=y∧(Opd.t 2).ev tm'=.int .u16 w∧(Opd.t 8).ev tm'=R∧(Opd.t 10).ev tm'=E:=by
 simp only[navU,c3]
 have lE:=sE.lenE
 obtain⟨n1,n4⟩:=he.n
 simp -implicitDefEqProofs(maxSteps:=999999)(disch:=first|with_reducible rfl|omega|(simp only[nA,nS,nD]<;>omega)|fail)only[go_sem,t10,lE]
 refine W_count es.length (fun i s1=>∃(tm':Go.Ab.T V),s1=⟨tm',h,[]⟩∧(Opd.t 1).ev tm'=y∧(Opd.t 2).ev tm'=.int .u16 w∧(Opd.t 8).ev tm'=R∧(Opd.t 10).ev tm'=E∧(Opd.t 85).ev tm'=E∧(Opd.t 86).ev tm'=.int .i64 (es.length:Int)∧(Opd.t 87).ev tm'=.int .i64 (i:Int)) ?_ ?_ (i:=0) (Nat.zero_le _)
  ⟨_,rfl,(by simp[ev_c,ev_put,t1]<;>rfl),(by simp[ev_c,ev_put,t2]<;>rfl),(by simp[ev_c,ev_put,t8]<;>rfl),(by simp[ev_c,ev_put,t10]<;>rfl),(by simp[ev_c,ev_put]<;>rfl),(by simp[ev_c,ev_put]<;>rfl),(by simp only[ev_put];rfl)⟩
 ·rintro i s1 hi ⟨tm',rfl,t1,t2,t8,t10,t85,t86,t87⟩
  have hi':(i:Int)<(es.length:Int):=by omega
  obtain⟨b1,o1,ca1,cs1,_,e1,f1,_,g1,v1⟩:=sE.at hi
  have w1:nth (o1+i*1) cs1=some (.int .i64 es[i]):=v1 (by simp[encI])
  have d1:=he.at_ hi
  rw[getD_lt hi] at d1
  have l1:¬es[i]<1:=by omega
  have l2:¬(100:Int)<es[i]:=by omega
  by_cases hz:(0:Int)<(i:Int)
  ·obtain⟨b0,o0,ca0,cs0,_,e0,f0,_,g0,v0⟩:=sE.at (k:=i-1) (by omega)
   have w0:nth (o0+(i-1)*1) cs0=some (.int .i64 es[i-1]):=v0 (by simp[encI])
   have lt:=he.lt (k:=i-1) (i:=i) (by omega) hi
   rw[getD_lt hi,getD_lt (show i-1<es.length by omega)] at lt
   have l3:¬es[i]≤es[i-1]:=by omega
   have hw1:wr .i64 ((i:Int)-1)=((i-1:Nat):Int):=by rw[wr_in (by omega) (by omega)];omega
   simp -implicitDefEqProofs(maxSteps:=999999)(disch:=first|with_reducible rfl|omega|(simp only[nA,nS,nD]<;>omega)|fail)only[go_sem,t10,t85,t86,t87,hi',f1 (nat_cst i),e1,w1,l1,l2,hz,hw1,f0 (nat_cst (i-1)),e0,w0,l3,wr_succ]
   exact⟨_,rfl,(by simp[ev_c,ev_put,t1]<;>rfl),(by simp[ev_c,ev_put,t2]<;>rfl),(by simp[ev_c,ev_put,t8]<;>rfl),(by simp[ev_c,ev_put,t10]<;>rfl),(by simp[ev_c,ev_put,t85]<;>rfl),(by simp[ev_c,ev_put,t86]<;>rfl),(by simp[ev_c,ev_put]<;>rfl)⟩
  ·simp -implicitDefEqProofs(maxSteps:=999999)(disch:=first|with_reducible rfl|omega|(simp only[nA,nS,nD]<;>omega)|fail)only[go_sem,t10,t85,t86,t87,hi',f1 (nat_cst i),e1,w1,l1,l2,hz,wr_succ]
   exact⟨_,rfl,(by simp[ev_c,ev_put,t1]<;>rfl),(by simp[ev_c,ev_put,t2]<;>rfl),(by simp[ev_c,ev_put,t8]<;>rfl),(by simp[ev_c,ev_put,t10]<;>rfl),(by simp[ev_c,ev_put,t85]<;>rfl),(by simp[ev_c,ev_put,t86]<;>rfl),(by simp[ev_c,ev_put]<;>rfl)⟩
 ·rintro s1 ⟨tm',rfl,t1,t2,t8,t10,t85,t86,t87⟩
  simp -implicitDefEqProofs(maxSteps:=999999)(disch:=first|with_reducible rfl|omega|(simp only[nA,nS,nD]<;>omega)|fail)only[go_sem,t86,t87,Int.lt_irrefl]
  exact⟨_,rfl,(by simp[ev_c,ev_put,t1]<;>rfl),(by simp[ev_c,ev_put,t2]<;>rfl),(by simp[ev_c,ev_put,t8]<;>rfl),(by simp[ev_c,ev_put,t10]<;>rfl)⟩
set_option maxHeartbeats 8000000 in
theorem TopShift_ev {h:H}{x y:V}{bs cs:List Int}{w:Int}(hw:h.wf)(hx:SlAt h x 1 (bs.map encU8))(hy:SlAt h y 1 (cs.map encU8))(hu:0≤w∧w≤65535):
  Ev fnG fastA (.fn 3 [] []) [x,y,.int .u16 w] h (fun u _=>u=.bool true):=by
 refine Ev_body (fd:=c3) rfl rfl rfl ?_
 obtain⟨Z1,hZ1⟩:∃Z,navU [true,true,true,true,true,true,true,true,true,true,true,false] c3.body=Z:=⟨_,rfl⟩
 obtain⟨Z2,hZ2⟩:∃Z,navU [true,true,true,true,true,true,true,true,true,true,true,true,false] c3.body=Z:=⟨_,rfl⟩
 obtain⟨Z3,hZ3⟩:∃Z,navU [true,true,true,true,true,true,true,true,true,true,true,true,true] c3.body=Z:=⟨_,rfl⟩
 have r1:= @gaps_ev
 rw[hZ1] at r1
 have r2:= @clks_ev
 rw[hZ2] at r2
 have r3:= @tail_ev
 rw[hZ3] at r3
 obtain⟨Z4,hZ4⟩:∃Z,navU [true,true,true,false] c3.body=Z:=⟨_,rfl⟩
 obtain⟨Z5,hZ5⟩:∃Z,navU [true,true,true,true,true,true,true,false] c3.body=Z:=⟨_,rfl⟩
 have r4:= @lst_ev
 rw[hZ4] at r4
 have r5:= @echk_ev
 rw[hZ5] at r5
 simp only[navU,c3] at hZ1 hZ2 hZ3 hZ4 hZ5
 simp only[c3]
 rw[hZ3,hZ1,hZ2,hZ4,hZ5]
 clear hZ1 hZ2 hZ3 hZ4 hZ5
 have x1:=hx.one
 have y1:=hy.one
 simp -implicitDefEqProofs(maxSteps:=999999)(disch:=first|with_reducible rfl|omega|(simp only[nA,nS,nD]<;>omega)|fail)only[go_sem]
 refine Wound_ev hw hx _ fun hA sA spA nA'=>?_
 have qA:Sq h h.next x bs 0 hA:=⟨hw,hx,Nat.le_refl _,sA,spA,by omega⟩
 simp -implicitDefEqProofs(maxSteps:=999999)(disch:=first|with_reducible rfl|omega|(simp only[nA,nS,nD]<;>omega)|fail)only[go_sem]
 refine Mill5_ev qA (by omega) _ fun L O xx ch ps h1 s1 mo ok=>?_
 have L1:=mo.l.one
 have O1:=mo.o.sl.one
 have kn:=ok.n
 have sB:=(H.Sub.refl s1.wf).add (.cells .rw [L,.int .i64 ch,O])
 have gB:(h1.add (.cells .rw [L,.int .i64 ch,O])).get h1.next=some (.cells .rw [L,.int .i64 ch,O]):=get_add_new rfl
 simp -implicitDefEqProofs(maxSteps:=999999)(disch:=first|with_reducible rfl|omega|(simp only[nA,nS,nD]<;>omega)|fail)only[go_sem,L1,O1,cells_one L1,cells_one O1]
 generalize hz:h1.add _=hB at sB gB⊢
 clear hz
 have moB:=mo.mono sB
 refine(r4 (y:=y) (w:=w) sB.wf gB moB.o.sl kn (by simp[ev_c,ev_put]<;>rfl) (by simp[ev_c,ev_put]<;>rfl) (by simp[ev_c,ev_put]<;>rfl) (by simp[ev_c,ev_put]<;>rfl)).mono ?_
 rintro _ _ ⟨rfl,tm,h2,R,rfl,oR,t1,t2,t7,t8⟩
 obtain⟨K,hK⟩:∃K,min ps.length 4=K:=⟨_,rfl⟩
 rw[hK] at oR
 have hKl:K≤ps.length:=by omega
 have c2:=oR.1.cells (cells_of gB)
 simp -implicitDefEqProofs(maxSteps:=999999)(disch:=first|with_reducible rfl|omega|(simp only[nA,nS,nD]<;>omega)|fail)only[go_sem,t7,t8,c2,L1,O1]
 refine Run_ev oR.1.wf (moB.mono oR.1) ok hKl oR _ fun E h3 oE=>?_
 obtain⟨es,hes⟩:∃es,endsL ch xx (ps.map Prod.fst) K=es:=⟨_,rfl⟩
 have le:es.length=K:=by rw[←hes,endsL_len]
 rw[hes] at oE
 have aR:=(oR.mono oE.1).sl (by rw[List.length_map,upL_len];omega)
 have aE:=oE.sl (by rw[List.length_map];omega)
 have lR:=aR.lenE
 rw[upL_len] at lR
 have lE:=aE.lenE
 rw[le] at lE
 have oko:∀o∈ps.map Prod.fst,OdOk o:=fun o ho=>by
  obtain⟨p,hp,rfl⟩:=List.mem_map.1 ho
  exact ok.o p hp
 have bd:=stA_bd (x:=xx) ok.ch (l:=(ps.map Prod.fst).take K) fun o ho=>oko o (List.mem_of_mem_take ho)
 rw[List.length_take] at bd
 generalize(stA ch xx ((ps.map Prod.fst).take K)).2.2=cg at bd⊢
 have n1:¬(K:Int)<cg:=by omega
 by_cases hk0:K=0
 ·have h0:(K:Int)=0:=by omega
  have n0:¬(0:Int)<cg:=by omega
  simp -implicitDefEqProofs(maxSteps:=999999)(disch:=first|with_reducible rfl|omega|(simp only[nA,nS,nD]<;>omega)|fail)only[go_sem,t7,t8,lE,lR,n1,n0,ne_eq,not_true_eq_false,h0,awk10_eq]
 ·have h0:¬(K:Int)=0:=by omega
  simp -implicitDefEqProofs(maxSteps:=999999)(disch:=first|with_reducible rfl|omega|(simp only[nA,nS,nD]<;>omega)|fail)only[go_sem,t7,t8,lE,lR,n1,ne_eq,not_true_eq_false,h0]
  have he:EndsE es:=by rw[←hes];exact endsL_ok ok.ch oko (by rw[List.length_map];exact hKl) (by omega) (by omega)
  refine(r5 aE he (y:=y) (w:=w) (R:=R) (by simp[ev_c,ev_put,t1]<;>rfl) (by simp[ev_c,ev_put,t2]<;>rfl) (by simp[ev_c,ev_put,t8]<;>rfl) (by simp[ev_c,ev_put]<;>rfl)).mono ?_
  clear t1 t2 t7 t8
  rintro _ _ ⟨rfl,tm,rfl,t1,t2,t8,t10⟩
  have s3:h.Sub h3:=((s1.trans sB).trans oR.1).trans oE.1
  simp -implicitDefEqProofs(maxSteps:=999999)(disch:=first|with_reducible rfl|omega|(simp only[nA,nS,nD]<;>omega)|fail)only[go_sem,t1]
  refine Wound_ev s3.wf (hy.mono s3) _ fun h4 s4 sp4 n4=>?_
  have q4:Sq h3 h3.next y cs 0 h4:=⟨s3.wf,hy.mono s3,Nat.le_refl _,s4,sp4,by omega⟩
  simp -implicitDefEqProofs(maxSteps:=999999)(disch:=first|with_reducible rfl|omega|(simp only[nA,nS,nD]<;>omega)|fail)only[go_sem]
  refine q4.upto (n:=60) (by omega) (by omega) _ fun B h5 B0 B1 q5 k5 n5=>?_
  simp -implicitDefEqProofs(maxSteps:=999999)(disch:=first|with_reducible rfl|omega|(simp only[nA,nS,nD]<;>omega)|fail)only[go_sem,t8,lR]
  have g17:(h5.add (.cells .rw [.int .i64 240,.int .i64 (K:Int),.nils,.nils,.nils])).get h5.next=some (.cells .rw [.int .i64 240,.int .i64 (K:Int),.nils,.nils,.nils]):=get_add_new rfl
  have q6:=q5.mono ((H.Sub.refl q5.s.wf).add (.cells .rw [.int .i64 240,.int .i64 (K:Int),.nils,.nils,.nils]))
  have lt5:=q5.lt
  have lt3:=q5.s.next
  obtain⟨c17,hc⟩:∃c,h5.next=c:=⟨_,rfl⟩
  rw[hc] at g17 lt3
  generalize hz:h5.add _=h6 at g17 q6⊢
  clear hz
  have am:Am h3 h3.next c17 y cs (0+1) ⟨240,(es.length:Int),[],[],[]⟩ .nils .nils .nils h6:=⟨q6,by omega,by rw[le];exact g17,OwnSl.nil q6.s 4,OwnSl.nil q6.s 3,OwnSl.nil q6.s 4,fun b hb=>(blkOf_nils hb).elim⟩
  refine(r1 aE he am (R:=R) (B:=B) (w:=w) ⟨(by simp[ev_c,ev_put,t2]<;>rfl),(by simp[ev_c,ev_put,t8]<;>rfl),(by simp[ev_c,ev_put,t10]<;>rfl),(by simp[ev_c,ev_put]<;>rfl),(by simp[ev_c,ev_put]<;>rfl),(by simp[ev_c,ev_put,hc]<;>rfl)⟩).mono ?_
  clear t1 t2 t8 t10
  rintro _ _ ⟨rfl,tm,h7,G,rfl,am7,⟨t2,t8,t10,t15,t16,t17⟩⟩
  have sh:ShA es B [] ⟨240,(es.length:Int),[],[],gapsE es (es.length-1)⟩:=⟨he,⟨B0,B1⟩,rfl,rfl,rfl,rfl,by simp,(fun k c s h1=>by simp at h1),by simp,by simp⟩
  simp -implicitDefEqProofs(maxSteps:=999999)(disch:=first|with_reducible rfl|omega|(simp only[nA,nS,nD]<;>omega)|fail)only[go_sem]
  refine(r2 aE am7 (by omega) sh rfl (R:=R) (w:=w) ⟨(by simp[ev_c,ev_put,t2]<;>rfl),(by simp[ev_c,ev_put,t8]<;>rfl),(by simp[ev_c,ev_put,t10]<;>rfl),(by simp[ev_c,ev_put,t15]<;>rfl),(by simp[ev_c,ev_put,t16]<;>rfl),(by simp[ev_c,ev_put,t17]<;>rfl)⟩).mono ?_
  clear t2 t8 t10 t15 t16 t17
  rintro _ _ ⟨rfl,tm,h8,a',C',Rr',runs,rfl,s8,g8,at8,sh8,⟨t2,t8,t10,t15,t16,t17⟩⟩
  rw[←le] at aR
  simp -implicitDefEqProofs(maxSteps:=999999)(disch:=first|with_reducible rfl|omega|(simp only[nA,nS,nD]<;>omega)|fail)only[go_sem]
  refine(r3 ⟨s8.wf,g8,at8,sh8,aE.mono s8,aR.mono s8⟩ hu ⟨(by simp[ev_c,ev_put,t2]<;>rfl),(by simp[ev_c,ev_put,t8]<;>rfl),(by simp[ev_c,ev_put,t10]<;>rfl),(by simp[ev_c,ev_put,t16]<;>rfl),(by simp[ev_c,ev_put,t17]<;>rfl)⟩).mono ?_
  clear t2 t8 t10 t15 t16 t17
  rintro _ _ ⟨rfl,tm,h9,rfl,s9,t6⟩
  simp -implicitDefEqProofs(maxSteps:=999999)(disch:=first|with_reducible rfl|omega|(simp only[nA,nS,nD]<;>omega)|fail)only[go_sem,t6]
end Go.Ab.Tryz
