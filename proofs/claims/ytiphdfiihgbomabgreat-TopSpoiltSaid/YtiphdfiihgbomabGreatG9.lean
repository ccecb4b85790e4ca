/- The law TopSpoilt, on our machine. Looms: all bad sights are explained; Weavers. Looms: Weavers. Silk split by the ribbons of a loom: plain. Kinds repeated; a mill for a loom: its ribbons split, and weighed. A mill for a loom: its ribbons split, and weighed. TopSpoilt: the law's tail: two mills, asked. TopSpoilt: the loom, out of a spool: its parts. TopSpoilt: the loom, out of a spool: its sights. TopSpoilt: the dry weights of the ribbons. -/
import Derived.Test.YtiphdfiihgbomabGreatG6
import Derived.Test.YtiphdfiihgbomabGreatG8
set_option linter.unusedSimpArgs false
set_option linter.unusedVariables false
namespace Go.Ab.Tryz
theorem mkN_bit (ss:List St)(p f e:Nat):∀(K i:Nat),i<K→(mkN ss p f e K).testBit i=hitK ss p f e i
 |K+1,i,hi=>by
  have hlt:=mkN_lt ss p f e K
  by_cases ei:i=K
  ·subst ei
   have h0:(mkN ss p f e i).testBit i=false:=Nat.testBit_lt_two_pow hlt
   unfold mkN
   cases hh:hitK ss p f e i with
   |true=>rw[if_pos rfl,Nat.testBit_or,h0,Nat.testBit_two_pow_self];rfl
   |false=>rw[if_neg (by simp)];exact h0
  ·have ih:=mkN_bit ss p f e K i (by omega)
   unfold mkN
   split
   ·rw[Nat.testBit_or,ih,Nat.testBit_two_pow_of_ne (by omega),Bool.or_false]
   ·exact ih
theorem hit_full {n t:Nat}{ss:List St}(k:LmOk n t ss){i:Nat}(hi:i<ss.length):hitK ss ss[i].r 0 (t-1) i=true:=by
 have ks:=k.sb _ (List.getElem_mem hi)
 unfold hitK
 rw[List.getElem?_eq_getElem hi]
 show((spL ss[i].r 0 (t-1+1-0)).any (hitS ss[i]))=true
 refine List.any_eq_true.2 ⟨(ss[i].r,0+ss[i].lo),?_,?_⟩
 ·simp only[spL,List.mem_map,List.mem_range]
  exact⟨ss[i].lo,by omega,rfl⟩
 ·simp only[hitS,decide_true,Bool.true_and,decide_eq_true_eq]
  omega
theorem usN_bit {n t:Nat}{ss:List St}(k:LmOk n t ss){i:Nat}(hi:i<ss.length):∀p,ss[i].r<p→(usN ss t p).testBit i=true
 |p+1,hp=>by
  rw[usN,Nat.testBit_or]
  by_cases e:ss[i].r=p
  ·have:=mkN_bit ss p 0 (t-1) ss.length i hi
   rw[this,←e,hit_full k hi,Bool.or_true]
  ·rw[usN_bit k hi p (by omega),Bool.true_or]
theorem usN_full {n t:Nat}{ss:List St}(k:LmOk n t ss):usN ss t n=2^ss.length-1:=by
 refine Nat.eq_of_testBit_eq fun i=>?_
 rw[Nat.testBit_two_pow_sub_one]
 by_cases hi:i<ss.length
 ·rw[usN_bit k hi n (k.sb _ (List.getElem_mem hi)).1,decide_eq_true hi]
 ·rw[decide_eq_false hi]
  exact Nat.testBit_lt_two_pow (Nat.lt_of_lt_of_le (usN_lt ss t n) (Nat.pow_le_pow_right (by omega) (by omega)))
set_option maxHeartbeats 4000000 in
theorem explained_ev {h:H}(hw:h.wf){d:Nat}{P S B:V}{bO n t:Nat}{ps:List (V × Bool)}{ss:List St}(fd:Fd h d P S B bO n t ps ss)(k:LmOk n t ss)(hn4:n≤4)(hk6:ss.length≤6){gf:FuncId}{u w:List V}{lt:Nat→Nat→Nat→Nat→Bool}(hlt:∀q f e mk:Nat,q<n→PureA h (.fn gf u w) [.agg [.int .i64 (q:Int),.int .i64 (f:Int),.int .i64 (e:Int),.int .i64 (mk:Int)]] (.bool (lt q f e mk)))
  (Q:V→H→Prop) (q:∀a v h',h.Sub h'→v.one=true→((∀q f e mk,lt q f e mk=true)→0<a)→Q (.agg [.int .i64 a,v]) h'):Ev fnG fastA (.fn 63 [] []) [.ptr d 0,.agg [.fn gf u w]] h Q:=by
 have hN:2^ss.length≤64:=(Nat.pow_le_pow_right (by omega) hk6:2^ss.length≤2^6)
 have hN0:0<2^ss.length:=Nat.pow_pos (by omega)
 have hsh:=shl_nat (k:=ss.length) (by have:=k.kb;omega)
 have lB:q_len B=some (.int .i64 (ss.length:Int)):=by have:=fd.b.lenE;rwa[upN_len] at this
 refine Ev_body (fd:=c63) rfl rfl rfl ?_
 have s1:=((H.Sub.refl hw).add (.cells .rw [.fn gf u w])).add (.cells .rw [.int .i64 0,.nils])
 have e1:(h.add (.cells .rw [.fn gf u w])).next=h.next+1:=H.next_add _ _
 have g3:((h.add (.cells .rw [.fn gf u w])).add (.cells .rw [.int .i64 0,.nils])).cells h.next=some [.fn gf u w]:=by rw[cells_add_old (by omega)];exact cells_add_new rfl
 have g4:((h.add (.cells .rw [.fn gf u w])).add (.cells .rw [.int .i64 0,.nils])).get (h.next+1)=some (.cells .rw [.int .i64 0,.nils]):=get_add_new e1.symm
 simp -implicitDefEqProofs(maxSteps:=999999)(disch:=first|with_reducible rfl|omega|(simp only[nA,nS,nD]<;>omega)|fail)only[c63,go_sem]
 generalize H.add (H.add h _) _=h1 at s1 g3 g4⊢
 refine ways_ev s1.wf (fd.mono s1) k hn4 hk6 (fun q f e mk hq=>(hlt q f e mk hq).mono s1) _ fun b x wl h2 s2 wy hpos=>?_
 have f2:=(fd.mono s1).mono s2
 have f1:=fd.mono s1
 have g32:=s2.cells g3
 have g42:=s2.get g4
 have hl:2^ss.length-1<wl.length:=by rw[wy.len];omega
 have ib:=wy.iad (i:=2^ss.length-1) (by omega)
 have gr:=getRow (enc:=encY) (sz:=2) (fun _=>rfl) hl
 obtain⟨⟨a,v⟩,hav⟩:∃y,wl[2^ss.length-1]=y:=⟨_,rfl⟩
 rw[hav] at gr
 simp only[encY] at gr
 have hpos2:(∀q f e mk,lt q f e mk=true)→0<a:=fun hl'=>by
  have:=hpos hl'
  rw[usN_full k,List.getD_eq_getElem?_getD,List.getElem?_eq_getElem hl,hav] at this
  exact this
 obtain⟨rows,lr,oR,zR⟩:=wy.br _ (List.getElem_mem hl)
 rw[hav] at oR
 have hrl:rows.length≤100:=by omega
 have v1:=(oR.sl (by omega)).one
 simp only at v1
 obtain⟨N,hNe⟩:∃N,2^ss.length=N:=⟨_,rfl⟩
 rw[hNe] at hsh ib gr hN hN0
 have ws:wr .i64 ((N:Int)-1)=((N-1:Nat):Int):=by rw[wr_in (by omega) (by omega)];omega
 have sF:h.Sub (h2.set (h.next+1) (.cells .rw [.int .i64 a,v])):=(s1.trans s2).set (by omega) (s2.wf _ _ g42) hw _
 simp -implicitDefEqProofs(maxSteps:=999999)(disch:=first|with_reducible rfl|omega|(simp only[nA,nS,nD]<;>omega)|fail)only[go_sem,g3,g32,f1.g,f2.g,lB,hsh,ws,ib,wy.g,gr,g42,v1,cells_one v1]
 exact q a v _ sF v1 hpos2
end Go.Ab.Tryz
namespace Go.Ab.Tryz
theorem fall1_pure {h:H}(q f e mk:Nat):PureA h (.fn 85 [] []) [.agg [.int .i64 (q:Int),.int .i64 (f:Int),.int .i64 (e:Int),.int .i64 (mk:Int)]] (.bool true):=by
 refine fun h1 sh=>?_
 have hw1:=sh.wf
 refine Ev_body (fd:=c85) rfl rfl rfl ?_
 simp -implicitDefEqProofs(maxSteps:=999999)(disch:=first|with_reducible rfl|omega|(simp only[nA,nS,nD]<;>omega)|fail)only[c85,go_sem]
 exact(H.Sub.refl hw1).add _
theorem qfl0 (a:Int)(v:V):q_fld false 1 0 (.agg [.int .i64 a,v])=some (.int .i64 a):=rfl
theorem fall_ev {h:H}(hw:h.wf)(Q:V→H→Prop)(q:∀h',h.Sub h'→Q (.agg [.fn 85 [] []]) h'):Ev fnG fastA (.fn 64 [] []) [] h Q:=by
 refine Ev_body (fd:=c64) rfl rfl rfl ?_
 simp -implicitDefEqProofs(maxSteps:=999999)(disch:=first|with_reducible rfl|omega|(simp only[nA,nS,nD]<;>omega)|fail)only[c64,go_sem]
 exact q _ ((H.Sub.refl hw).add _)
def ltO (ps:List (V × Bool))(bit:Int)(q:Nat)(mk:Nat):Bool:= !((ps[q]?).any fun x=>x.2)||decide (andI .i64 (mk:Int) bit=0)
theorem other1_pure {h:H}{d:Nat}{P S B:V}{bO n t:Nat}{ps:List (V × Bool)}{ss:List St}(fd:Fd h d P S B bO n t ps ss){c2 c3:Nat}{bit:Int}(g2:h.cells c2=some [.ptr d 0])(g3:h.cells c3=some [.int .i64 bit])(q f e mk:Nat)(hq:q<n):
  PureA h (.fn 65 [] [.ptr c2 0,.ptr c3 0]) [.agg [.int .i64 (q:Int),.int .i64 (f:Int),.int .i64 (e:Int),.int .i64 (mk:Int)]] (.bool (ltO ps bit q mk)):=by
 refine fun h1 sh=>?_
 have hw1:=sh.wf
 have f1:=fd.mono sh
 have hip:q<ps.length:=by rw[f1.a.len];exact hq
 obtain⟨b,o,c,cs,_,hc,hqq,hg,hn,_⟩:=f1.a.p.at hip
 obtain⟨⟨x,wv⟩,hxx⟩:∃p,ps[q]=p:=⟨_,rfl⟩
 have v3:nth (o+q*4+3) cs=some (.bool wv):=by rw[hn 3 (by omega),hxx];rfl
 have sA:=(H.Sub.refl hw1).add (.cells .rw [.int .i64 (q:Int),.int .i64 (f:Int),.int .i64 (e:Int),.int .i64 (mk:Int)])
 have g21:=sh.cells g2
 have g31:=sh.cells g3
 have g2A:=sA.cells g21
 have g3A:=sA.cells g31
 have gdA:=sA.cells f1.g
 have hcA:=sA.cells hc
 have gA:(h1.add (.cells .rw [.int .i64 (q:Int),.int .i64 (f:Int),.int .i64 (e:Int),.int .i64 (mk:Int)])).cells h1.next=some [.int .i64 (q:Int),.int .i64 (f:Int),.int .i64 (e:Int),.int .i64 (mk:Int)]:=cells_add_new rfl
 have hlt:ltO ps bit q mk=(!wv||decide (andI .i64 (mk:Int) bit=0)):=by
  unfold ltO
  rw[List.getElem?_eq_getElem hip,hxx];rfl
 rw[hlt,Ev_fn]
 simp only[appN]
 refine Ev_body (fd:=c65) rfl rfl rfl ?_
 simp -implicitDefEqProofs(maxSteps:=999999)(disch:=first|with_reducible rfl|omega|(simp only[nA,nS,nD]<;>omega)|fail)only[c65,go_sem]
 generalize h1.add _=hA at sA g2A g3A gdA hcA gA⊢
 cases wv with
 |false=>
  simp -implicitDefEqProofs(maxSteps:=999999)(disch:=first|with_reducible rfl|omega|(simp only[nA,nS,nD]<;>omega)|fail)only[go_sem,g21,g2A,f1.g,gdA,gA,hqq (nat_cst q),hc,hcA,v3,Bool.true_or]
  exact sA
 |true=>
  simp -implicitDefEqProofs(maxSteps:=999999)(disch:=first|with_reducible rfl|omega|(simp only[nA,nS,nD]<;>omega)|fail)only[go_sem,g21,g2A,f1.g,gdA,gA,hqq (nat_cst q),hc,hcA,v3,g31,g3A,q_ar_and,Bool.false_or]
  exact sA
theorem ftold_ev {h:H}(hw:h.wf){P S:V}{n t:Nat}{ps:List (V × Bool)}{ss:List St}(a:LmAt h P S n t ps ss)(k:LmOk n t ss)(hn4:n≤4)(hk6:ss.length≤6)(Q:V→H→Prop)
  (q:∀d B bO h',h.Sub h'→h.next≤d→Fd h' d P S B bO n t ps ss→Q (.tup [.ptr d 0,.int .i64 0]) h'):Ev fnG fastA (.fn 30 [] []) [.agg (lmV n t P S),.bool false] h Q:=by
 have p1:=a.p.one
 have s1:=a.s.one
 refine Ev_body (fd:=c30) rfl rfl rfl ?_
 have sA:=(H.Sub.refl hw).add (.cells .rw (lmV n t P S))
 have g1:(h.add (.cells .rw (lmV n t P S))).cells h.next=some (lmV n t P S):=cells_add_new rfl
 simp -implicitDefEqProofs(maxSteps:=999999)(disch:=first|with_reducible rfl|omega|(simp only[nA,nS,nD]<;>omega)|fail)only[c30,go_sem,p1,s1,cells_one p1,cells_one s1]
 generalize h.add _=hA at sA g1⊢
 refine fopened_ev sA.wf (a.mono sA) k _ fun d B bO h1 t1 l1 f1=>?_
 simp -implicitDefEqProofs(maxSteps:=999999)(disch:=first|with_reducible rfl|omega|(simp only[nA,nS,nD]<;>omega)|fail)only[go_sem,ne_eq,not_true_eq_false]
 refine fall_ev t1.wf _ fun h2 t2=>?_
 simp -implicitDefEqProofs(maxSteps:=999999)(disch:=first|with_reducible rfl|omega|(simp only[nA,nS,nD]<;>omega)|fail)only[go_sem]
 refine explained_ev (lt:=fun _ _ _ _=>true) t2.wf (f1.mono t2) k hn4 hk6 (fun q f e mk _=>fall1_pure q f e mk) _ fun av vv h3 t3 v1 hpos=>?_
 have hne:¬av=0:=by have:=hpos fun _ _ _ _=>rfl;omega
 have hsn:=sA.next
 simp -implicitDefEqProofs(maxSteps:=999999)(disch:=first|with_reducible rfl|omega|(simp only[nA,nS,nD]<;>omega)|fail)only[go_sem,qfl0,hne]
 exact q d B bO _ (sA.trans (t1.trans (t2.trans t3))) (by omega) ((f1.mono t2).mono t3)
theorem other_ev {h:H}(hw:h.wf){d:Nat}{P S B:V}{bO n t:Nat}{ps:List (V × Bool)}{ss:List St}(fd:Fd h d P S B bO n t ps ss)(k:LmOk n t ss)(hn4:n≤4)(hk6:ss.length≤6)(bit:Int)(Q:V→H→Prop)(q:∀a v h',h.Sub h'→Q (.agg [.int .i64 a,v]) h'):
  Ev fnG fastA (.fn 31 [] []) [.ptr d 0,.int .i64 bit] h Q:=by
 refine Ev_body (fd:=c31) rfl rfl rfl ?_
 have sA:=(((H.Sub.refl hw).add (.cells .rw [.ptr d 0])).add (.cells .rw [.int .i64 bit])).add (.cells .rw [.int .i64 0,.nils])
 have e1:(h.add (.cells .rw [.ptr d 0])).next=h.next+1:=H.next_add _ _
 have e2:((h.add (.cells .rw [.ptr d 0])).add (.cells .rw [.int .i64 bit])).next=h.next+2:=by simp only[H.next_add]
 have g2:(((h.add (.cells .rw [.ptr d 0])).add (.cells .rw [.int .i64 bit])).add (.cells .rw [.int .i64 0,.nils])).cells h.next=some [.ptr d 0]:=by rw[cells_add_old (by omega),cells_add_old (by omega)];exact cells_add_new rfl
 have g3:(((h.add (.cells .rw [.ptr d 0])).add (.cells .rw [.int .i64 bit])).add (.cells .rw [.int .i64 0,.nils])).cells (h.next+1)=some [.int .i64 bit]:=by rw[cells_add_old (by omega)];exact cells_add_new e1.symm
 have g4:(((h.add (.cells .rw [.ptr d 0])).add (.cells .rw [.int .i64 bit])).add (.cells .rw [.int .i64 0,.nils])).get (h.next+2)=some (.cells .rw [.int .i64 0,.nils]):=get_add_new e2.symm
 simp -implicitDefEqProofs(maxSteps:=999999)(disch:=first|with_reducible rfl|omega|(simp only[nA,nS,nD]<;>omega)|fail)only[c31,go_sem]
 generalize H.add (H.add (H.add h _) _) _=hA at sA g2 g3 g4⊢
 simp only[Nat.add_assoc,Nat.reduceAdd]
 refine explained_ev (lt:=fun q _ _ mk=>ltO ps bit q mk) sA.wf (fd.mono sA) k hn4 hk6 (fun q f e mk hq=>other1_pure (fd.mono sA) g2 g3 q f e mk hq) _ fun av vv h3 t3 v1 hpos=>?_
 have g43:=t3.get g4
 have sF:h.Sub (h3.set (h.next+2) (.cells .rw [.int .i64 av,vv])):=(sA.trans t3).set (by omega) (t3.wf _ _ g43) hw _
 simp -implicitDefEqProofs(maxSteps:=999999)(disch:=first|with_reducible rfl|omega|(simp only[nA,nS,nD]<;>omega)|fail)only[go_sem,v1,cells_one v1,g43]
 exact q av vv _ sF
set_option maxHeartbeats 4000000 in
theorem Weavers_ev {h:H}(hw:h.wf){P S:V}{n t:Nat}{ps:List (V × Bool)}{ss:List St}(a:LmAt h P S n t ps ss)(k:LmOk n t ss)(hn4:n≤4)(hk6:ss.length≤6)(Q:V→H→Prop)
  (q:∀y (L:List Int) h',h.Sub h'→SlAt h' y 1 (L.map encI)→L.length≤ss.length→Q (.tup [y,.int .i64 0]) h'):Ev fnG fastA (.fn 15 [] []) [.agg (lmV n t P S)] h Q:=by
 have p1:=a.p.one
 have s1:=a.s.one
 refine Ev_body (fd:=c15) rfl rfl rfl ?_
 have sA:=(H.Sub.refl hw).add (.cells .rw (lmV n t P S))
 have g1:(h.add (.cells .rw (lmV n t P S))).cells h.next=some (lmV n t P S):=cells_add_new rfl
 simp -implicitDefEqProofs(maxSteps:=999999)(disch:=first|with_reducible rfl|omega|(simp only[nA,nS,nD]<;>omega)|fail)only[c15,go_sem,p1,s1,cells_one p1,cells_one s1]
 generalize h.add _=hA at sA g1⊢
 refine ftold_ev sA.wf (a.mono sA) k hn4 hk6 _ fun d B bO h1 t1 l1 f1=>?_
 have s01:=sA.trans t1
 have lB:q_len B=some (.int .i64 (ss.length:Int)):=by have:=f1.b.lenE;rwa[upN_len] at this
 simp -implicitDefEqProofs(maxSteps:=999999)(disch:=first|with_reducible rfl|omega|(simp only[nA,nS,nD]<;>omega)|fail)only[go_sem,ne_eq,not_true_eq_false,f1.g,lB]
 refine W_count ss.length (fun i s'=>∃(tm:Go.Ab.T V) (h':H) (Z:V) (L:List Int),s'=⟨tm,h',[]⟩∧h1.Sub h'∧OwnSl h1 h' Z 1 (L.map encI)∧L.length≤i∧(Opd.t 4).ev tm=.ptr d 0∧(Opd.t 6).ev tm=Z∧(Opd.t 20).ev tm=B∧(Opd.t 21).ev tm=.int .i64 (ss.length:Int)∧(Opd.t 22).ev tm=.int .i64 (i:Int)) ?_ ?_ (i:=0) (Nat.zero_le _)
  ⟨_,_,.nils,[],rfl,H.Sub.refl t1.wf,OwnSl.nil (H.Sub.refl t1.wf) 1,Nat.le_refl _,(by simp[ev_c,ev_put]<;>rfl),(by simp[ev_c,ev_put]<;>rfl),(by simp[ev_c,ev_put]<;>rfl),(by simp[ev_c,ev_put]<;>rfl),(by simp only[ev_put];rfl)⟩
 ·rintro i s' hi ⟨tm,h',Z,L,rfl,sh,oZ,lL,t4,t6,t20,t21,t22⟩
  have hi':(i:Int)<(ss.length:Int):=by omega
  have f':=f1.mono sh
  obtain⟨b,o,c,cs,_,hc,hq,_,_,hn0⟩:=f'.b.at (k:=i) (by rw[upN_len];exact hi)
  have v0:nth (o+i*1) cs=some (.int .i64 (i:Int)):=by rw[hn0 (by omega),upN_at];rfl
  simp -implicitDefEqProofs(maxSteps:=999999)(disch:=first|with_reducible rfl|omega|(simp only[nA,nS,nD]<;>omega)|fail)only[go_sem,t4,t20,t21,t22,hi',hq (nat_cst i),hc,v0,shl_nat (show i<10 by omega)]
  refine other_ev sh.wf f' k hn4 hk6 _ _ fun av vv h2 t2=>?_
  have oZ2:=oZ.mono t2
  by_cases ha:av=0
  ·have sB:=(H.Sub.refl t2.wf).add (.cells .rw [.int .i64 (i:Int)])
   simp -implicitDefEqProofs(maxSteps:=999999)(disch:=first|with_reducible rfl|omega|(simp only[nA,nS,nD]<;>omega)|fail)only[go_sem,t6,qfl0,ha]
   refine(oZ2.mono sB).app1 (by_:=8) (r:=encI (i:Int)) t1.wf rfl (by omega) ownI_lit rfl (by rw[List.length_map];omega) (by rw[List.length_map];omega) fun hC oC kC nC=>?_
   rw[H.next_add] at oC
   simp -implicitDefEqProofs(maxSteps:=999999)(disch:=first|with_reducible rfl|omega|(simp only[nA,nS,nD]<;>omega)|fail)only[go_sem,t22,wr_succ]
   exact⟨_,_,_,L++[(i:Int)],rfl,oC.1,by rw[List.map_append];exact oC,by rw[List.length_append];simp;omega,(by simp[ev_c,ev_put,t4]<;>rfl),(by simp[ev_c,ev_put]<;>rfl),(by simp[ev_c,ev_put,t20]<;>rfl),(by simp[ev_c,ev_put,t21]<;>rfl),(by simp[ev_c,ev_put]<;>rfl)⟩
  ·simp -implicitDefEqProofs(maxSteps:=999999)(disch:=first|with_reducible rfl|omega|(simp only[nA,nS,nD]<;>omega)|fail)only[go_sem,t6,t22,qfl0,ha,wr_succ]
   exact⟨_,_,Z,L,rfl,sh.trans t2,oZ2,by omega,(by simp[ev_c,ev_put,t4]<;>rfl),(by simp[ev_c,ev_put,t6]<;>rfl),(by simp[ev_c,ev_put,t20]<;>rfl),(by simp[ev_c,ev_put,t21]<;>rfl),(by simp[ev_c,ev_put]<;>rfl)⟩
 ·rintro s' ⟨tm,h',Z,L,rfl,sh,oZ,lL,t4,t6,t20,t21,t22⟩
  simp -implicitDefEqProofs(maxSteps:=999999)(disch:=first|with_reducible rfl|omega|(simp only[nA,nS,nD]<;>omega)|fail)only[go_sem,t6,t21,t22,Int.lt_irrefl]
  exact q _ L _ (s01.trans sh) (oZ.sl (by rw[List.length_map];have:=k.kb;omega)) lL
end Go.Ab.Tryz
namespace Go.Ab.Tryz
open Go.Ab.Silk
def mlM (e:Int)(ks:List Int)(ws:List Wg):Ml:=⟨e,⟨-1,0⟩::ks.map (fun k=>⟨0,k⟩),ws⟩
structure OkW (n:Nat)(ws:List Wg):Prop where
 len:ws.length≤10
 all:∀w∈ws,(0≤w.reads∧w.reads≤10000)∧w.lo=0∧(0≤w.hi∧w.hi≤60)∧0≤w.lot∧w.lot≤n
theorem OkW.take {n:Nat}{ws:List Wg}(a:OkW n ws)(k:Nat):OkW n (ws.take k):=⟨by have:=a.len;rw[List.length_take];omega,fun w hw=>a.all w (List.mem_of_mem_take hw)⟩
theorem ml_len (e:Int)(ks:List Int)(ws:List Wg):(mlM e ks ws).lots.length=ks.length+1:=by simp[mlM]
theorem ml_check {e:Int}{ks:List Int}{ws:List Wg}(he:0≤e∧e≤50)(hk:ks.all allowedK=true)(hn:ks.length≤11)(hw:OkW ks.length ws):check (mlM e ks ws)=0:=by
 have hl:=ml_len e ks ws
 have hwl:=hw.len
 have c1:1≤((mlM e ks ws).lots.length:Int)∧((mlM e ks ws).lots.length:Int)≤12:=by omega
 have c2:¬10<((mlM e ks ws).wgs.length:Int):=by show¬10<(ws.length:Int);omega
 have c3:0≤(mlM e ks ws).errs∧(mlM e ks ws).errs≤50:=he
 have c4:(mlM e ks ws).wgs.all boundedW=true:=by
  rw[List.all_eq_true];intro w hm
  obtain⟨a1,a2,a3,a4⟩:=hw.all w hm
  unfold boundedW;exact decide_eq_true (by omega)
 have c5:(mlM e ks ws).lots.all (fun l=>allowedK l.kind)=true:=by
  simp only[mlM,List.all_cons,List.all_map,Bool.and_eq_true]
  exact⟨rfl,hk⟩
 have c6:fromsOk (mlM e ks ws).lots 0=true:=by
  rw[fromsOk_iff]
  intro i hi
  rw[hl] at hi
  cases i with
  |zero=>simp[mlM]
  |succ i=>simp only[mlM,List.getElem_cons_succ,List.getElem_map];omega
 have c7:(mlM e ks ws).wgs.all (fun w=>inB w.lot 0 (((mlM e ks ws).lots.length:Int)-1))=true:=by
  rw[List.all_eq_true];intro w hm
  obtain⟨a1,a2,a3,a4⟩:=hw.all w hm
  unfold inB;exact decide_eq_true (by omega)
 have c8:(mlM e ks ws).wgs.all (fun w=>decide (w.lo≤w.hi))=true:=by
  rw[List.all_eq_true];intro w hm
  obtain⟨a1,a2,a3,a4⟩:=hw.all w hm
  exact decide_eq_true (by omega)
 unfold check
 rw[if_neg (fun h=>h c1),if_neg c2,if_neg (fun h=>h c3),if_neg (by rw[c4];simp),if_neg (by rw[c5];simp),if_neg (by rw[c6];simp),if_neg (by rw[c7];simp),if_neg (by rw[c8];simp)]
def cntL:Nat→Nat→List Int
 |0,_=>[]
 |n+1,i=>(i:Int)::cntL n (i+1)
theorem cntL_len:∀n i,(cntL n i).length=n
 |0,i=>rfl
 |n+1,i=>by simp[cntL,cntL_len n]
theorem cntL_mem:∀{n i:Nat} {p:Int},p∈cntL n i→(i:Int)≤p∧p<((i+n:Nat):Int)
 |0,_,_,h=>by cases h
 |n+1,i,p,h=>by
  simp only[cntL,List.mem_cons] at h
  rcases h with rfl|h
  ·omega
  ·have:=cntL_mem h;omega
theorem partsL_ks (k:Int):∀(ks:List Int) (i:Nat),partsL k (ks.map (fun k=>(⟨0,k⟩:Lt))) i=if k=0 then cntL ks.length i else[]
 |[],i=>by simp[partsL,cntL]
 |a::ks,i=>by
  have ih:=partsL_ks k ks (i+1)
  simp only[List.map_cons,partsL,ih,List.length_cons,cntL]
  by_cases h:k=0
  ·rw[if_pos h,if_pos h,if_pos h.symm]
  ·rw[if_neg h,if_neg h,if_neg (fun e=>h e.symm)]
theorem ml_parts (e:Int)(ks:List Int)(ws:List Wg):parts (mlM e ks ws)=fun k=>if k= -1 then[0] else if k=0 then cntL ks.length 1 else[]:=by
 funext k
 unfold parts mlM
 simp only[partsL,partsL_ks]
 by_cases h:k= -1
 ·rw[if_pos h.symm,if_pos h,h,if_neg (by omega)];rfl
 ·rw[if_neg (fun e=>h e.symm),if_neg h]
theorem ml_kind {e:Int}{ks:List Int}{ws:List Wg}{i:Nat}(hi:i<ks.length):kindAt (mlM e ks ws) ((i+1:Nat):Int)=ks[i]:=by
 rw[kindAt_at (by rw[ml_len];omega)]
 simp[mlM]
theorem ownK_same {m m':Ml}(he:m.errs=m'.errs)(hw:m.wgs=m'.wgs)(c:Nat→Bool)(lot:Int):∀k,ownK m c lot k=ownK m' c lot k
 |0=>rfl
 |k+1=>by
  simp only[ownK,hw,ownK_same he hw c lot k,sayLo,sayHi,he]
theorem ml_own (e:Int){ks ks':List Int}(hl:ks.length=ks'.length)(ws:List Wg):ownB (mlM e ks ws) allC=ownB (mlM e ks' ws) allC:=by
 funext i
 unfold ownB boxK
 rw[ml_len,ml_len,hl]
 split
 ·exact ownK_same (m:=mlM e ks ws) (m':=mlM e ks' ws) rfl rfl _ _ _
 ·rfl
theorem ml_feas (e:Int){ks ks':List Int}(hl:ks.length=ks'.length)(ws:List Wg)(w:Int→Int):FeasM (mlM e ks ws) allC w↔FeasM (mlM e ks' ws) allC w:=by
 unfold FeasM
 rw[ml_own e hl,ml_parts,ml_parts,ml_len,ml_len,hl]
def valL (wh:Int)(dry:List Int)(i:Int):Int:=if i=0 then wh else(dry[(i-1).toNat]?).getD 0
theorem sum_cnt (f:Int→Int):∀(l:List Int) (i:Nat),(∀j (hj:j<l.length),f ((i+j:Nat):Int)=l[j])→sumL f (cntL l.length i)=l.sum
 |[],i,_=>rfl
 |a::l,i,h=>by
  have ih:=sum_cnt f l (i+1) fun j hj=>by
   have:=h (j+1) (by simp only[List.length_cons];omega)
   simp only[List.getElem_cons_succ] at this
   rw[←this];congr 1;omega
  have h0:=h 0 (by simp)
  simp only[List.getElem_cons_zero,Nat.add_zero] at h0
  simp only[List.length_cons,cntL,sumL,ih,List.sum_cons,h0]
theorem ownK_val {m:Ml}{v:Int→Int}(he:0≤m.errs)(hv:∀i,0≤v i∧v i≤10000)(hr:∀w∈m.wgs,w.reads=v w.lot∧w.lo=0∧0≤w.hi)(c:Nat→Bool)(lot:Int):∀k,(ownK m c lot k).1≤v lot∧v lot≤(ownK m c lot k).2
 |0=>by have:=hv lot;simp only[ownK];omega
 |k+1=>by
  have ih:=ownK_val he hv hr c lot k
  by_cases hk:k<m.wgs.length
  ·by_cases h:c k=true∧m.wgs[k].lot=lot
   ·obtain⟨r1,r2,r3⟩:=hr _ (List.getElem_mem hk)
    have v1:=hv lot
    rw[h.2] at r1
    have a1:sayLo m m.wgs[k]≤v lot:=by
     rw[sayLo_le v1.1 r3,r1]
     have:=Int.mul_nonneg v1.1 r3
     rw[Int.mul_add];omega
    have a2:v lot≤sayHi m m.wgs[k]:=by
     rw[le_sayHi v1.2 (by omega) (by omega),r1,r2];omega
    rw[ownK_hit hk h.1 h.2];simp only;omega
   ·rw[ownK_miss hk (by
     by_cases h1:c k=true
     ·exact .inr fun h2=>h ⟨h1,h2⟩
     ·exact .inl (by simpa using h1))]
    exact ih
  ·simp only[ownK]
   rw[List.getElem?_eq_none (by omega)]
   exact ih
theorem ml_some {e:Int}{ks dry:List Int}{ws:List Wg}(he:0≤e)(hl:ks.length=dry.length)(hd:∀d∈dry,0≤d∧d≤10000)(hs:dry.sum≤10000)(hs0:0≤dry.sum)(hr:∀w∈ws,w.reads=valL dry.sum dry w.lot∧w.lo=0∧0≤w.hi):∃w,FeasM (mlM e ks ws) allC w:=by
 have hv:∀i,0≤valL dry.sum dry i∧valL dry.sum dry i≤10000:=fun i=>by
  unfold valL
  split
  ·omega
  ·cases h:dry[(i-1).toNat]? with
   |none=>simp
   |some d=>exact hd d (List.mem_of_getElem? h)
 refine⟨valL dry.sum dry,fun i i0 i1=>?_,fun i i0 i1 hp=>?_⟩
 ·unfold ownB boxK
  rw[if_pos ⟨i0,i1⟩]
  exact ownK_val he hv hr _ _ _
 ·rw[ml_parts] at hp⊢
  by_cases h0:i=0
  ·subst h0
   simp only[show¬(0:Int)= -1 by omega,if_false,if_true,hl]
   rw[sum_cnt _ dry 1 fun j hj=>by
    unfold valL
    rw[if_neg (by omega),show(((1+j:Nat):Int)-1).toNat=j by omega,List.getElem?_eq_getElem hj];rfl]
   simp[valL]
  ·exfalso;simp only[h0,if_false,show¬i= -1 by omega] at hp;exact hp rfl
def ofK (ks:List Int)(p:Int→Bool)(w:Int→Int):Int:=sumL (fun i=>if p ((ks[(i-1).toNat]?).getD 0) then w i else 0) (cntL ks.length 1)
theorem ml_cs {e:Int}{ks:List Int}{ws:List Wg}(g:Good (mlM e ks ws))(hk:ks≠[])(p:Int→Bool)(w:Int→Int):cs (mlM e ks ws).lots.length (parts (mlM e ks ws)) (chK (mlM e ks ws) p) w 0=ofK ks p w:=by
 have F:=forest g
 have hl:=ml_len e ks ws
 have hkl:0<ks.length:=List.length_pos_iff.2 hk
 have hc:cntL ks.length 1≠[]:=fun h=>by have:=cntL_len ks.length 1;rw[h] at this;simp at this;omega
 rw[cs_eq F _ w (Int.le_refl 0) (by omega)]
 have hp0:parts (mlM e ks ws) 0=cntL ks.length 1:=by rw[ml_parts];simp
 rw[hp0,if_neg hc]
 unfold ofK
 refine sumL_congr fun i hi=>?_
 obtain⟨i1,i2⟩:=cntL_mem hi
 rw[cs_eq F _ w (by omega) (by omega)]
 have hpi:parts (mlM e ks ws) i=[]:=by rw[ml_parts];simp only;rw[if_neg (by omega),if_neg (by omega)]
 rw[hpi,if_pos rfl]
 obtain⟨j,rfl⟩:∃j:Nat,i=((j+1:Nat):Int):=⟨(i-1).toNat,by omega⟩
 have hj:j<ks.length:=by omega
 unfold chK
 rw[ml_kind hj,show(((j+1:Nat):Int)-1).toNat=j by omega,List.getElem?_eq_getElem hj];rfl
theorem ofK_mono {ks ks':List Int}{p p':Int→Bool}{w:Int→Int}(hl:ks.length=ks'.length)(hw:∀i,1≤i→i≤(ks.length:Int)→0≤w i)(h:∀(i:Nat) (hi:i<ks.length) (hi':i<ks'.length),p ks[i]=true→p' ks'[i]=true):ofK ks p w≤ofK ks' p' w:=by
 unfold ofK
 rw[hl]
 refine sumL_mono fun i hi=>?_
 obtain⟨i1,i2⟩:=cntL_mem hi
 have hwi:=hw i (by omega) (by omega)
 have hj:(i-1).toNat<ks.length:=by omega
 have hj':(i-1).toNat<ks'.length:=by omega
 rw[List.getElem?_eq_getElem hj,List.getElem?_eq_getElem hj']
 have:=h _ hj hj'
 simp only[Option.getD_some]
 by_cases h1:p ks[(i-1).toNat]=true
 ·rw[if_pos h1,if_pos (this h1)];exact Int.le_refl _
 ·rw[if_neg h1];split
  ·exact hwi
  ·exact Int.le_refl _
theorem ofK_add {ks:List Int}{p q:Int→Bool}{w:Int→Int}(h:∀(i:Nat) (hi:i<ks.length),p ks[i]= !q ks[i]):ofK ks p w+ofK ks q w=sumL w (cntL ks.length 1):=by
 unfold ofK
 rw[←sumL_add]
 refine sumL_congr fun i hi=>?_
 obtain⟨i1,i2⟩:=cntL_mem hi
 have hj:(i-1).toNat<ks.length:=by omega
 rw[List.getElem?_eq_getElem hj]
 have:=h _ hj
 simp only[Option.getD_some,this]
 by_cases h1:q ks[(i-1).toNat]=true
 ·rw[if_neg (by rw[h1];simp),if_pos h1];omega
 ·rw[if_neg h1,if_pos (by simp only[Bool.not_eq_true] at h1;rw[h1];rfl)];omega
theorem nK_not (m:Ml)(kind:Int):chK m (nK kind)=fun i=> !chK m (pK kind) i:=by
 funext i;unfold chK nK pK
 by_cases h:kindAt m i=kind<;>simp[h]
theorem ml_where {e:Int}{ks:List Int}{ws:List Wg}(g:Good (mlM e ks ws))(hk:ks≠[])(hag:∃w,FeasM (mlM e ks ws) allC w)(kind:Int):
  (∀w,FeasM (mlM e ks ws) allC w→whLo (mlM e ks ws) kind (parts (mlM e ks ws) (-1))≤ofK ks (pK kind) w∧ofK ks (pK kind) w≤whHi (mlM e ks ws) kind (parts (mlM e ks ws) (-1)))∧
  (∃w,FeasM (mlM e ks ws) allC w∧ofK ks (pK kind) w=whLo (mlM e ks ws) kind (parts (mlM e ks ws) (-1)))∧
  (∃w,FeasM (mlM e ks ws) allC w∧ofK ks (pK kind) w=whHi (mlM e ks ws) kind (parts (mlM e ks ws) (-1))):=by
 have F:=forest g
 have hl:=ml_len e ks ws
 have l0:(0:Int)≤0:=Int.le_refl 0
 have l1:(0:Int)<((mlM e ks ws).lots.length:Nat):=by omega
 have hpr:parts (mlM e ks ws) (-1)=[0]:=by rw[ml_parts];rfl
 have hfr:frmAt (mlM e ks ws) 0<0:=by simp[frmAt,mlM]
 have eLo:whLo (mlM e ks ws) kind (parts (mlM e ks ws) (-1))=(sK (mlM e ks ws) kind 0).1:=by rw[hpr];simp[whLo,sumL,lo1]
 have eHi:whHi (mlM e ks ws) kind (parts (mlM e ks ws) (-1))=(sN (mlM e ks ws) kind 0).2:=by rw[hpr];simp[whHi,sumL,hi1]
 have C:=conU g hag
 have fu:=fun w=>feasU g w
 rw[eLo,eHi]
 have q:=fun w=>ml_cs (e:=e) (ws:=ws) g hk (pK kind) w
 have hn:∀w,FeasM (mlM e ks ws) allC w→cs (mlM e ks ws).lots.length (parts (mlM e ks ws)) (chK (mlM e ks ws) (nK kind)) w 0=w 0-ofK ks (pK kind) w:=fun w f=>by
  rw[nK_not,cs_not F _ f.2 0 l0 l1,q]
 have QK:=sK_quad (kind:=kind) g hag l0 l1
 have QN:=sN_quad (kind:=kind) g hag l0 l1
 refine⟨fun w f=>?_,?_,?_⟩
 ·have a1:=sh_sound F (chK (mlM e ks ws) (pK kind)) ((fu w).2 f) 0 l0 l1
  have a2:=sh_sound F (chK (mlM e ks ws) (nK kind)) ((fu w).2 f) 0 l0 l1
  rw[hn w f] at a2
  rw[q w] at a1
  have e1:sh (mlM e ks ws).lots.length (parts (mlM e ks ws)) (Um (mlM e ks ws) allC) (chK (mlM e ks ws) (pK kind)) 0=sK (mlM e ks ws) kind 0:=rfl
  have e2:sh (mlM e ks ws).lots.length (parts (mlM e ks ws)) (Um (mlM e ks ws) allC) (chK (mlM e ks ws) (nK kind)) 0=sN (mlM e ks ws) kind 0:=rfl
  rw[e1] at a1;rw[e2] at a2
  omega
 ·obtain⟨w,f,r,ee⟩:=sh_full F (chK (mlM e ks ws) (pK kind)) C.ne C.node (fun i=>(Um (mlM e ks ws) allC i).1) fun i i0 i1 _=>⟨Int.le_refl _,C.ne i i0 i1⟩
  refine⟨w,(fu w).1 f,?_⟩
  have h1:=ee 0 l0 l1
  have h2:=r 0 l0 l1 hfr
  rw[q w] at h1
  have m1:=sh_mid F (Um (mlM e ks ws) allC) (chK (mlM e ks ws) (pK kind)) C.ne l0 l1
  have e1:sh (mlM e ks ws).lots.length (parts (mlM e ks ws)) (Um (mlM e ks ws) allC) (chK (mlM e ks ws) (pK kind)) 0=sK (mlM e ks ws) kind 0:=rfl
  rw[e1] at h1 m1
  rw[h1,h2];omega
 ·obtain⟨w,f,r,ee⟩:=sh_full F (chK (mlM e ks ws) (nK kind)) C.ne C.node (fun i=>(Um (mlM e ks ws) allC i).2) fun i i0 i1 _=>⟨C.ne i i0 i1,Int.le_refl _⟩
  have f':=(fu w).1 f
  refine⟨w,f',?_⟩
  have h1:=ee 0 l0 l1
  have h2:=r 0 l0 l1 hfr
  rw[hn w f'] at h1
  have m1:=sh_mid F (Um (mlM e ks ws) allC) (chK (mlM e ks ws) (nK kind)) C.ne l0 l1
  have e1:sh (mlM e ks ws).lots.length (parts (mlM e ks ws)) (Um (mlM e ks ws) allC) (chK (mlM e ks ws) (nK kind)) 0=sN (mlM e ks ws) kind 0:=rfl
  rw[e1] at h1 m1
  omega
theorem where_of {m:Ml}(c:check m=0)(hag:∃w,FeasM m allC w){kind lo hi er:Int}(hk:allowedK kind=true)(h:WhereR m kind lo hi er):er=0∧lo=whLo m kind (parts m (-1))∧hi=whHi m kind (parts m (-1)):=by
 rcases h with h|⟨_,h|⟨_,h|h⟩⟩
 ·exact absurd c h.1
 ·rw[hk] at h;exact absurd h.1 (by simp)
 ·exact absurd hag h.1
 ·exact⟨h.2.1,h.2.2.1,h.2.2.2⟩
theorem spoilt_plain {e:Int}{ka kb dry:List Int}{ws:List Wg}(he:0≤e∧e≤50)(hn:1≤dry.length∧dry.length≤11)(la:ka.length=dry.length)(lb:kb.length=dry.length)
  (ha:∀k∈ka,k=2∨k=3) (hb:∀k∈kb,k=2∨k=3) (hab:∀(i:Nat) (hi:i<ka.length) (hi':i<kb.length),ka[i]=3→kb[i]=3)
  (hd:∀d∈dry,0≤d∧d≤10000) (hs:dry.sum≤10000) (hs0:0≤dry.sum) (hw:OkW dry.length ws) (hr:∀w∈ws,w.reads=valL dry.sum dry w.lot)
  {b:Box} (hbx:ExactM (mlM e ka ws) allC b) {wl wh we xl xh xe rl rh re sl sh' se:Int}
  (W1:WhereR (mlM e ka ws) 3 wl wh we) (W2:WhereR (mlM e kb ws) 3 xl xh xe) (R1:WhereR (mlM e ka ws) 2 rl rh re) (R2:WhereR (mlM e kb ws) 2 sl sh' se):
  we=0∧xe=0∧re=0∧se=0∧wl≤xl∧wh≤xh∧sl≤rl∧sh'≤rh∧(b 0).1≤wl+rh∧wh+rl≤(b 0).2∧wl+rl≤(b 0).1∧(b 0).2≤wh+rh∧
   (0≤wl∧wl≤120000)∧(0≤wh∧wh≤120000)∧(0≤rl∧rl≤120000)∧(0≤rh∧rh≤120000):=by
 have al:∀ks:List Int,(∀k∈ks,k=2∨k=3)→ks.all allowedK=true:=fun ks h=>by
  rw[List.all_eq_true];intro k hk;unfold allowedK;have:=h k hk;exact decide_eq_true (by omega)
 have ca:check (mlM e ka ws)=0:=ml_check he (al ka ha) (by omega) (by rw[la];exact hw)
 have cb:check (mlM e kb ws)=0:=ml_check he (al kb hb) (by omega) (by rw[lb];exact hw)
 have ga:=good_of ca
 have gb:=good_of cb
 have hr':∀w∈ws,w.reads=valL dry.sum dry w.lot∧w.lo=0∧0≤w.hi:=fun w hm=>⟨hr w hm,(hw.all w hm).2.1,(hw.all w hm).2.2.1.1⟩
 have fa:∃w,FeasM (mlM e ka ws) allC w:=ml_some he.1 la hd hs hs0 hr'
 have fb:∃w,FeasM (mlM e kb ws) allC w:=ml_some he.1 lb hd hs hs0 hr'
 have na:ka≠[]:=fun h=>by rw[h] at la;simp at la;omega
 have nb:kb≠[]:=fun h=>by rw[h] at lb;simp at lb;omega
 have hll:ka.length=kb.length:=by omega
 have eq:=ml_feas e hll ws
 obtain⟨v1,v2,v3⟩:=where_of ca fa rfl W1
 obtain⟨x1,x2,x3⟩:=where_of cb fb rfl W2
 obtain⟨r1,r2,r3⟩:=where_of ca fa rfl R1
 obtain⟨s1,s2,s3⟩:=where_of cb fb rfl R2
 obtain⟨A1,⟨wA,fA,A2⟩,⟨wA',fA',A3⟩⟩:=ml_where ga na fa 3
 obtain⟨B1,⟨wB,fB,B2⟩,⟨wB',fB',B3⟩⟩:=ml_where gb nb fb 3
 obtain⟨C1,⟨wC,fC,C2⟩,⟨wC',fC',C3⟩⟩:=ml_where ga na fa 2
 obtain⟨D1,⟨wD,fD,D2⟩,⟨wD',fD',D3⟩⟩:=ml_where gb nb fb 2
 have bd:=wh_bd ga fa 3 (parts (mlM e ka ws) (-1)).length
 have bd2:=wh_bd ga fa 2 (parts (mlM e ka ws) (-1)).length
 rw[List.take_length] at bd bd2
 rw[←v2] at A1 A2 bd;rw[←v3] at A1 A3 bd
 rw[←x2] at B1 B2;rw[←x3] at B1 B3
 rw[←r2] at C1 C2 bd2;rw[←r3] at C1 C3 bd2
 rw[←s2] at D1 D2;rw[←s3] at D1 D3
 have nn:∀w,FeasM (mlM e ka ws) allC w→∀i,1≤i→i≤(ka.length:Int)→0≤w i:=fun w f i i1 i2=>by
  have h1:=f.1 i (by omega) (by rw[ml_len];omega)
  have h2:=ownK_bd ga allC i (mlM e ka ws).wgs.length
  unfold ownB boxK at h1
  rw[if_pos ⟨by omega,by rw[ml_len];omega⟩] at h1
  omega
 have mw:∀w,FeasM (mlM e ka ws) allC w→ofK ka (pK 3) w≤ofK kb (pK 3) w:=fun w f=>ofK_mono hll (nn w f) fun i hi hi' h=>by
  simp only[pK,decide_eq_true_eq] at h⊢;exact hab i hi hi' h
 have mr:∀w,FeasM (mlM e ka ws) allC w→ofK kb (pK 2) w≤ofK ka (pK 2) w:=fun w f=>ofK_mono hll.symm (by rw[←hll];exact nn w f) fun i hi hi' h=>by
  simp only[pK,decide_eq_true_eq] at h⊢
  rcases ha _ (List.getElem_mem hi') with c|c
  ·exact c
  ·have:=hab i hi' hi c;omega
 have sm:∀w,FeasM (mlM e ka ws) allC w→ofK ka (pK 3) w+ofK ka (pK 2) w=w 0:=fun w f=>by
  rw[ofK_add fun i hi=>by rcases ha _ (List.getElem_mem hi) with c|c<;>simp[pK,c]]
  have hp0:parts (mlM e ka ws) 0=cntL ka.length 1:=by rw[ml_parts];simp
  have hc:cntL ka.length 1≠[]:=fun h=>by have:=cntL_len ka.length 1;rw[h] at this;simp at this;omega
  have:=f.2 0 (Int.le_refl 0) (by rw[ml_len];omega) (by rw[hp0];exact hc)
  rw[hp0] at this;exact this.symm
 have l1:(0:Int)<((mlM e ka ws).lots.length:Nat):=by rw[ml_len];omega
 have hx:=hbx.1
 obtain⟨wT,fT,eT⟩:=hx.full 0 _ (Int.le_refl 0) l1 (Int.le_refl _) (hx.ne 0 (Int.le_refl 0) l1)
 obtain⟨wU,fU,eU⟩:=hx.full 0 _ (Int.le_refl 0) l1 (hx.ne 0 (Int.le_refl 0) l1) (Int.le_refl _)
 have so:=fun w (f:FeasM (mlM e ka ws) allC w)=>hx.sound w f 0 (Int.le_refl 0) l1
 have fB2:=(eq wB).2 fB
 have fB2':=(eq wB').2 fB'
 have fD2:=(eq wD).2 fD
 have fD2':=(eq wD').2 fD'
 have fA2':=(eq wA').1 fA'
 have fC2:=(eq wC).1 fC
 refine⟨v1,x1,r1,s1,?_,?_,?_,?_,?_,?_,?_,?_,bd.1,bd.2,bd2.1,bd2.2⟩
 ·have:=A1 wB fB2;have:=mw wB fB2;omega
 ·have:=B1 wA' fA2';have:=mw wA' fA';omega
 ·have:=D1 wC fC2;have:=mr wC fC;omega
 ·have:=C1 wD' fD2';have:=mr wD' fD2';omega
 ·have:=so wA fA;have:=sm wA fA;have:=C1 wA fA;omega
 ·have:=so wA' fA';have:=sm wA' fA';have:=C1 wA' fA';omega
 ·have:=sm wT fT;have:=A1 wT fT;have:=C1 wT fT;omega
 ·have:=sm wU fU;have:=A1 wU fU;have:=C1 wU fU;omega
theorem split_ok {e:Int}{ks:List Int}(he:0≤e∧e≤50)(hn:1≤ks.length∧ks.length≤11)(hk:ks.all allowedK=true):splitE (mlM e [] []) 0 ks=0∧splitM (mlM e [] []) 0 ks=mlM e ks []:=by
 have c:check (mlM e [] [])=0:=ml_check he rfl (by simp) ⟨by simp,fun w hw=>by cases hw⟩
 have hp:parts (mlM e [] []) 0=[]:=by rw[ml_parts];rfl
 have h1:splitE (mlM e [] []) 0 ks=0:=by
  unfold splitE
  rw[if_neg (fun h=>h c),if_neg (by simp[mlM]),hp,if_neg (by simp),if_neg (by omega),if_neg (by simp[mlM];omega),if_neg (by rw[hk];simp)]
 exact⟨h1,by unfold splitM;rw[if_pos h1];simp[Ml.splitB,mlM]⟩
theorem weigh_ok {e:Int}{ks:List Int}{ws:List Wg}{w:Wg}(he:0≤e∧e≤50)(hn:ks.length≤11)(hk:ks.all allowedK=true)(hw:OkW ks.length (ws++[w])):weighE (mlM e ks ws) w=0∧weighM (mlM e ks ws) w=mlM e ks (ws++[w]):=by
 have hl:=hw.len
 simp only[List.length_append,List.length_cons,List.length_nil] at hl
 have c:check (mlM e ks ws)=0:=ml_check he hk hn ⟨by omega,fun v hv=>hw.all v (by simp[hv])⟩
 have c2:check ((mlM e ks ws).weighed w)=0:=ml_check (ws:=ws++[w]) he hk hn hw
 have h1:weighE (mlM e ks ws) w=0:=by
  unfold weighE
  rw[if_neg (fun h=>h c),if_neg (by show¬(ws.length:Int)=10;omega),c2]
 exact⟨h1,by unfold weighM;rw[if_pos h1];rfl⟩
end Go.Ab.Tryz
namespace Go.Ab.Tryz
theorem q_shr_32 (a:Int):q_sh .shr (.int .u64 a) (.int .u64 32)=some (.int .u64 (a.fdiv (2^(min 32 IntKind.u64.bits)))):=rfl
theorem mul_facts:∀n:Fin 61,(((n.val:Nat):Int).fdiv (2^min 32 64)=0∧andI .u64 ((n.val:Nat):Int) 4294967295=((n.val:Nat):Int))∧wr .u64 ((n.val:Nat):Int)=((n.val:Nat):Int):=by decide
theorem mul64_ev {n:Nat}(hn:n≤60){h:H}(Q:V→H→Prop)(q:Q (.tup [.int .u64 0,.int .u64 (n:Int)]) h):Ev fnG fastA (.fn 46 [] []) [.int .u64 1,.int .u64 (n:Int)] h Q:=by
 refine Ev_body (fd:=c46) rfl rfl rfl ?_
 obtain⟨⟨f1,f2⟩,f3⟩:=mul_facts ⟨n,by omega⟩
 obtain⟨⟨g1,g2⟩,g3⟩:=mul_facts ⟨1,by omega⟩
 obtain⟨⟨z1,z2⟩,z3⟩:=mul_facts ⟨0,by omega⟩
 simp only[Int.natCast_one,Int.natCast_zero] at g1 g2 g3 z1 z2 z3
 simp only at f1 f2 f3
 simp -implicitDefEqProofs(maxSteps:=999999)(disch:=first|with_reducible rfl|omega|(simp only[nA,nS,nD]<;>omega)|fail)only[c46,go_sem,q_ar_and,q_shr_32,f1,f2,f3,g1,g2,g3,z1,z2,z3,Int.zero_mul,Int.mul_zero,Int.one_mul,Int.add_zero,Int.zero_add]
 exact q
theorem mul_ev {n:Nat}(hn:n≤60){h:H}(Q:V→H→Prop)(q:Q (.tup [.int .u64 0,.int .u64 (n:Int)]) h):Ev fnG fastA (.fn 19 [] []) [.int .u64 1,.int .u64 (n:Int)] h Q:=by
 refine Ev_body (fd:=c19) rfl rfl rfl ?_
 simp -implicitDefEqProofs(maxSteps:=999999)(disch:=first|with_reducible rfl|omega|(simp only[nA,nS,nD]<;>omega)|fail)only[c19,go_sem]
 refine mul64_ev hn _ ?_
 simp -implicitDefEqProofs(maxSteps:=999999)(disch:=first|with_reducible rfl|omega|(simp only[nA,nS,nD]<;>omega)|fail)only[go_sem]
 exact q
theorem allOneI (L:List Int):allOne (L.map encI).flatten=true:=by
 rw[allOne_eq]
 intro v hv
 obtain⟨r,hr,hv⟩:=List.mem_flatten.1 hv
 obtain⟨s,_,rfl⟩:=List.mem_map.1 hr
 simp only[encI,List.mem_cons,List.not_mem_nil,or_false] at hv
 rcases hv with rfl;rfl
theorem flatI' (L:List Int):(L.map encI).flatten=L.map iv:=by
 induction L with
 |nil=>rfl
 |cons a L ih=>rw[List.map_cons,List.flatten_cons,ih];rfl
theorem blk_sl {h:H}{b n:Nat}{k:Kd}{c:Cap}{l:List Int}(hn:n=l.length)(hb:h.get b=some (.cells k (l.map iv)))(hl:l.length≤1000000):SlAt h (.sl b 0 n c) 1 (l.map encI):=by
 subst hn
 rw[←flatI'] at hb
 have hsz:∀r∈l.map encI,r.length=1:=fun r hr=>by obtain⟨x,_,rfl⟩:=List.mem_map.1 hr;rfl
 have e:l.length=(l.map encI).length:=by simp
 rw[e]
 refine⟨hsz,by rw[List.length_map];omega,.inr ⟨b,0,c,_,rfl,.inr (cells_of hb),getN_eq.2 ⟨?_,?_⟩⟩⟩
 ·rw[List.drop_zero,←flatten_len hsz,List.take_length]
 ·rw[flatten_len hsz];omega
theorem take_rep {L:List Int}{p:Int}{k m n:Nat}(hl:L.length=n)(h:L.take k=List.replicate k p)(kn:k≤n)(hm:m≤k)(hk:k+m≤n):(L.take k++(L.take k).take m++L.drop (k+m)).take (k+m)=List.replicate (k+m) p∧(L.take k++(L.take k).take m++L.drop (k+m)).length=n:=by
 rw[h,List.take_replicate,show min m k=m by omega,List.replicate_append_replicate]
 refine⟨?_,?_⟩
 ·rw[List.take_append_of_le_length (by simp),List.take_of_length_le (by simp)]
 ·simp[hl];omega
set_option maxHeartbeats 8000000 in
theorem repeat_ev {n:Nat}(h1:1≤n)(hn:n≤60){h:H}(hw:h.wf){y:V}{p:Int}(hy:SlAt h y 1 ([p].map encI))(Q:V→H→Prop)(q:∀(b:Nat) h',h.Sub h'→h.next≤b→h'.get b=some (.cells .rw ((List.replicate n p).map iv))→Q (.sl b 0 n (.fix n)) h'):
  Ev fnG fastA (.fn 10 [] []) [y,.int .i64 (n:Int)] h Q:=by
 have ly:q_len y=some (.int .i64 1):=hy.lenE
 obtain⟨⟨f1,f2⟩,f3⟩:=mul_facts ⟨n,by omega⟩
 obtain⟨⟨g1,g2⟩,g3⟩:=mul_facts ⟨1,by omega⟩
 simp only[Int.natCast_one] at g3
 simp only at f3
 have n0:¬(n:Int)<0:=by omega
 have n9:¬(9223372036854775807:Int)<(n:Int):=by omega
 have wn:wr .i64 (n:Int)=(n:Int):=wr_in (by omega) (by omega)
 have z3:∀a,(encI a).length=1:=fun _=>rfl
 refine Ev_body (fd:=c10) rfl rfl rfl ?_
 simp -implicitDefEqProofs(maxSteps:=999999)(disch:=first|with_reducible rfl|omega|(simp only[nA,nS,nD]<;>omega)|fail)only[c10,go_sem,ly,f3,g3,n0]
 refine mul_ev hn _ ?_
 have am:a_msl h 8 [V.int .i64 0] (.int .i64 (n:Int)) (.int .i64 (n:Int))=_:=a_msl_nn' (by omega) (by omega)
 simp -implicitDefEqProofs(maxSteps:=999999)(disch:=first|with_reducible rfl|omega|(simp only[nA,nS,nD]<;>omega)|fail)only[go_sem,Int.lt_irrefl,n9,wn,am]
 have s1:=(H.Sub.refl hw).add (.cells .rw (repN n [V.int .i64 0]))
 have g1:(h.add (.cells .rw (repN n [V.int .i64 0]))).get h.next=some (.cells .rw ((List.replicate n (0:Int)).map encI).flatten):=by
  rw[get_add_new rfl,List.map_replicate]
  rw[repN_flat];rfl
 generalize h.add _=hA at s1 g1⊢
 obtain⟨e2,e1⟩:=(hy.mono s1).elems
 have cp:=e_cpyR (by omega) z3 allOneI (i:=0) (m:=n) (k:=1) (c:=.fix n) (M:=[p]) g1 e1 e2 rfl (by omega) h1 (by rw[List.length_replicate];omega)
 rw[Nat.zero_mul,show min n 1=1 by omega] at cp
 simp -implicitDefEqProofs(maxSteps:=999999)(disch:=first|with_reducible rfl|omega|(simp only[nA,nS,nD]<;>omega)|fail)only[go_sem,cp]
 have lt1:=s1.wf _ _ g1
 refine W_loop (fun m s=>∃(k:Nat) (tm:Go.Ab.T V) (h':H) (L:List Int),m=n-k∧1≤k∧k≤n∧s=⟨tm,h',[]⟩∧h.Sub h'∧h'.get h.next=some (.cells .rw (L.map encI).flatten)∧L.length=n∧L.take k=List.replicate k p∧(Opd.t 7).ev tm=.sl h.next 0 n (.fix n)∧(Opd.t 8).ev tm=.int .i64 (k:Int)) ?_ (n-1) _
  ⟨1,_,_,_,rfl,Nat.le_refl _,h1,rfl,s1.set (Nat.le_refl _) lt1 hw _,get_set_same rfl,by simp only[List.take_zero,List.nil_append,List.length_append,List.length_take,List.length_cons,List.length_nil,List.length_drop,List.length_replicate];omega,by simp,(by simp[ev_c,ev_put]<;>rfl),(by simp[ev_c,ev_put]<;>rfl)⟩
 rintro m s ⟨k,tm,h',L,em,k1,kn,rfl,s',g',lL,tL,t7,t8⟩
 by_cases hk:k<n
 ·have hk':(k:Int)<(n:Int):=by omega
  have ef:slcFrom h' 1 (.sl h.next 0 n (.fix n)) (.int .i64 (k:Int))=some (.sl h.next (k*1) (n-k) (.fix (n-k))):=by
   have hi:∀tm,(Opd.c (.int .i64 (k:Int))).ev tm=.int .i64 (k:Int):=fun _=>rfl
   have b1:Nat.ble k n=true:=by simpa using kn
   have b2:Nat.ble n n=true:=by simp
   have b3:Nat.beq n k=false:=by rw[Bool.eq_false_iff];simp;omega
   simp only[slcFrom,q_slc,og_true,bnd3,natO,hi,natk_cst,bnds,b1,b2,b3,subO,sub,bsel,Nat.zero_add]
  have et:slcTo h' 1 (.sl h.next 0 n (.fix n)) (.int .i64 (k:Int))=some (.sl h.next 0 k (.fix n)):=by
   have hi:∀tm,(Opd.c (.int .i64 (k:Int))).ev tm=.int .i64 (k:Int):=fun _=>rfl
   rw[slcTo,q_slc,subO_to (hi _) kn (Nat.le_refl _)]
   rw[Nat.zero_mul,Nat.add_zero]
   cases Nat.beq n 0<;>rfl
  have ee:elems h' 1 (.sl h.next 0 k (.fix n))=some ((L.take k).map encI).flatten:=by
   obtain⟨k',rfl⟩:∃k',k=k'+1:=⟨k-1,by omega⟩
   have hr:∀r∈L.map encI,r.length=1:=fun r hr=>by obtain⟨x,_,rfl⟩:=List.mem_map.1 hr;rfl
   have:=getRows hr (k:=0) (m:=k'+1) (by rw[List.length_map];omega)
   rw[Nat.zero_mul,List.drop_zero,←List.map_take] at this
   rw[elems_s,cells_of g',elC_some,this]
  have cp:=e_cpyR (by omega) z3 allOneI (i:=k) (m:=n-k) (k:=k) (c:=.fix (n-k)) (M:=L.take k) g' rfl ee (by rw[List.length_take];omega) k1 (by omega) (by omega)
  have wk:wr .i64 ((k:Int)+((min (n-k) k:Nat):Int))=((k+min (n-k) k:Nat):Int):=by rw[wr_in (by omega) (by omega)];omega
  obtain⟨r1,r2⟩:=take_rep (m:=min (n-k) k) lL tL kn (by omega) (by omega)
  simp -implicitDefEqProofs(maxSteps:=999999)(disch:=first|with_reducible rfl|omega|(simp only[nA,nS,nD]<;>omega)|fail)only[go_sem,t7,t8,hk',q_slc_from,q_slc_to,evQ_slc,ef,et,cp,wk]
  have lt':=s'.wf _ _ g'
  refine⟨n-(k+min (n-k) k),by omega,k+min (n-k) k,_,_,_,rfl,by omega,by omega,rfl,s'.set (Nat.le_refl _) lt' hw _,get_set_same rfl,r2,r1,(by simp[ev_c,ev_put,t7]<;>rfl),(by simp[ev_c,ev_put]<;>rfl)⟩
 ·have hk':¬(k:Int)<(n:Int):=by omega
  have ek:k=n:=by omega
  subst ek
  rw[List.take_of_length_le (by omega)] at tL
  subst tL
  rw[flatI'] at g'
  simp -implicitDefEqProofs(maxSteps:=999999)(disch:=first|with_reducible rfl|omega|(simp only[nA,nS,nD]<;>omega)|fail)only[go_sem,t7,t8,hk']
  exact q _ _ s' (Nat.le_refl _) g'
end Go.Ab.Tryz
namespace Go.Ab.Tryz
def setK:List St→List Int→List Int
 |[],k=>k
 |s::l,k=>setK l (k.set s.r 3)
theorem setK_snoc:∀(l:List St) (s:St) (k:List Int),setK (l++[s]) k=(setK l k).set s.r 3
 |[],s,k=>rfl
 |a::l,s,k=>setK_snoc l s _
theorem setK_len:∀(l:List St) (k:List Int),(setK l k).length=k.length
 |[],k=>rfl
 |a::l,k=>by rw[setK,setK_len l];simp
theorem setK_23:∀(l:List St) (k:List Int),(∀x∈k,x=2∨x=3)→∀x∈setK l k,x=2∨x=3
 |[],k,h=>h
 |a::l,k,h=>setK_23 l _ fun x hx=>by
  rcases List.mem_or_eq_of_mem_set hx with h1|h1
  ·exact h x h1
  ·exact .inr h1
def kOf (n:Nat)(ss:List St):List Int:=setK ss (List.replicate n 2)
theorem kOf_len (n:Nat)(ss:List St):(kOf n ss).length=n:=by rw[kOf,setK_len,List.length_replicate]
theorem kOf_23 (n:Nat)(ss:List St):∀x∈kOf n ss,x=2∨x=3:=setK_23 _ _ fun x hx=>by rw[List.mem_replicate] at hx;exact .inl hx.2
theorem kOf_ok (n:Nat)(ss:List St):(kOf n ss).all allowedK=true:=by
 rw[List.all_eq_true];intro k hk
 have:=kOf_23 n ss k hk
 unfold allowedK;exact decide_eq_true (by omega)
theorem kOf_more (n:Nat)(ss:List St)(s:St)(i:Nat)(hi:i<(kOf n ss).length)(hi':i<(kOf n (ss++[s])).length)(h:(kOf n ss)[i]=3):(kOf n (ss++[s]))[i]=3:=by
 have e:kOf n (ss++[s])=(kOf n ss).set s.r 3:=setK_snoc _ _ _
 simp only[e,List.getElem_set]
 split
 ·rfl
 ·exact h
def bitF (u:Int)(i:Nat):Bool:=decide (andI .u8 (u.fdiv (2^(min i 8))) 1=1)
def wsK (f:Nat→Bool)(wh:Int)(dry:List Int):Nat→List Wg
 |0=>[⟨0,wh,0,0⟩]
 |k+1=>wsK f wh dry k++if f k=true then[⟨(k:Int)+1,(dry[k]?).getD 0,0,5⟩] else[]
theorem wsK_len (f:Nat→Bool)(wh:Int)(dry:List Int):∀k,(wsK f wh dry k).length≤k+1
 |0=>by simp[wsK]
 |k+1=>by
  have:=wsK_len f wh dry k
  simp only[wsK,List.length_append]
  split<;>simp<;>omega
theorem wsK_mem {f:Nat→Bool}{wh:Int}{dry:List Int}:∀{k:Nat} {w:Wg},w∈wsK f wh dry k→w.reads=valL wh dry w.lot∧w.lo=0∧0≤w.hi∧w.hi≤5∧0≤w.lot∧w.lot≤k
 |0,w,h=>by
  simp only[wsK,List.mem_singleton] at h
  subst h;exact⟨by simp[valL],rfl,Int.le_refl _,by simp only;omega,Int.le_refl _,Int.le_refl _⟩
 |k+1,w,h=>by
  simp only[wsK,List.mem_append] at h
  rcases h with h|h
  ·have:=wsK_mem h;exact⟨this.1,by omega⟩
  ·split at h
   ·simp only[List.mem_singleton] at h
    subst h
    refine⟨?_,rfl,by simp only;omega,by simp only;omega,by simp only;omega,by simp only;omega⟩
    simp only[valL]
    rw[if_neg (by omega),show((k:Int)+1-1).toNat=k by omega]
   ·cases h
theorem wsK_ok {f:Nat→Bool}{wh:Int}{dry:List Int}{k:Nat}(hk:k≤9)(hd:∀d∈dry,0≤d∧d≤10000)(hw:0≤wh∧wh≤10000):OkW k (wsK f wh dry k):=
 ⟨by have:=wsK_len f wh dry k;omega,fun w hm=>by
  obtain⟨h1,h2,h3,h4,h5,h6⟩:=wsK_mem hm
  refine⟨?_,h2,⟨h3,by omega⟩,h5,h6⟩
  rw[h1];unfold valL
  split
  ·exact hw
  ·cases hh:dry[(w.lot-1).toNat]? with
   |none=>simp
   |some d=>exact hd d (List.mem_of_getElem? hh)⟩
theorem ml_errs (e:Int)(ks:List Int)(ws:List Wg):(mlM e ks ws).errs=e:=rfl
theorem q_shr_b (u:Int)(i:Nat):q_sh .shr (.int .u8 u) (.int .i64 (i:Int))=some (.int .u8 (u.fdiv (2^(min i IntKind.u8.bits)))):=rfl
set_option maxHeartbeats 8000000 in
theorem booked_ev {h:H}(hw:h.wf){b1 b2 b3 b4:Nat}{D:V}{dry:List Int}{e u wh:Int}{L W:V}(g1:h.cells b1=some [D])(aD:SlAt h D 1 (dry.map encI))(g2:h.cells b2=some [.int .i64 e,L,W])(mB:MlIs h (.agg [.int .i64 e,L,W]) (mlM e [] []))
  (g3:h.cells b3=some [.int .i64 wh]) (g4:h.cells b4=some [.int .u8 u]) {P S:V} {n t:Nat} {ps:List (V × Bool)} {ss:List St} (a:LmAt h P S n t ps ss) (ks:∀s∈ss,s.r<n) (kl:ss.length≤10) (hn:dry.length=n) (n4:1≤n∧n≤4)
  (he:0≤e∧e≤50) (hd:∀d∈dry,0≤d∧d≤10000) (hwh:0≤wh∧wh≤10000) (Q:V→H→Prop)
  (q:∀L' W' h',h.Sub h'→MlIs h' (.agg [.int .i64 e,L',W']) (mlM e (kOf n ss) (wsK (bitF u) wh dry n))→Q (.tup [.agg [.int .i64 e,L',W'],.bool true]) h'):
  Ev fnG fastA (.fn 9 [] [.ptr b1 0,.ptr b2 0,.ptr b3 0,.ptr b4 0]) [.agg (lmV n t P S)] h Q:=by
 have p1:=a.p.one
 have s1:=a.s.one
 have lS:=a.s.lenE
 have lD:q_len D=some (.int .i64 (n:Int)):=by rw[aD.lenE,hn]
 refine Ev_body (fd:=c9) rfl rfl rfl ?_
 have sA:=(H.Sub.refl hw).add (.cells .rw (lmV n t P S))
 have gA:=get_add_new (h:=h) (b:=h.next) (x:=.cells .rw (lmV n t P S)) rfl
 have eA:=H.next_add h (.cells .rw (lmV n t P S))
 have g1A:=sA.cells g1
 simp -implicitDefEqProofs(maxSteps:=999999)(disch:=first|with_reducible rfl|omega|(simp only[nA,nS,nD]<;>omega)|fail)only[c9,go_sem]
 generalize h.add _=hA at sA gA eA⊢
 have sB:=(H.Sub.refl sA.wf).add (.cells .rw [.int .i64 0,.nils,.nils])
 have gB:(hA.add (.cells .rw [.int .i64 0,.nils,.nils])).get (h.next+1)=some (.cells .rw [.int .i64 0,.nils,.nils]):=get_add_new eA.symm
 have eB:=H.next_add hA (.cells .rw [.int .i64 0,.nils,.nils])
 rw[eA] at eB
 generalize hA.add _=hB at sB gB eB⊢
 have sC:=(H.Sub.refl sB.wf).add (.cells .rw [V.int .i64 2])
 have aC:SlAt (hB.add (.cells .rw [V.int .i64 2])) (.sl hB.next 0 1 (.fix 1)) 1 (([2]:List Int).map encI):=SlAt.new _ rfl rfl rfl (by simp[encI]) (by simp)
 have eC:=H.next_add hB (.cells .rw [V.int .i64 2])
 rw[eB] at eC aC
 have s03:=(sA.trans sB).trans sC
 have gC:=sC.get gB
 have gC0:=sC.get (sB.get gA)
 simp -implicitDefEqProofs(maxSteps:=999999)(disch:=first|with_reducible rfl|omega|(simp only[nA,nS,nD]<;>omega)|fail)only[go_sem,s03.cells g1,lD]
 generalize hB.add _=hC at sC aC eC s03 gC gC0⊢
 clear g1A
 refine repeat_ev n4.1 (by omega) s03.wf aC _ fun kb h1 s1C lk gk=>?_
 have s01:=s03.trans s1C
 have gD:=s1C.get gC
 have gD0:=s1C.get gC0
 simp -implicitDefEqProofs(maxSteps:=999999)(disch:=first|with_reducible rfl|omega|(simp only[nA,nS,nD]<;>omega)|fail)only[go_sem,cells_of gD0,lS]
 have lkb:h.next+3≤kb:=by omega
 refine W_count ss.length (fun i s=>∃(tm:Go.Ab.T V) (h':H),s=⟨tm,h',[]⟩∧h.Sub h'∧Keeps (fun c=>c=kb) h1 h'∧h'.get kb=some (.cells .rw ((setK (ss.take i) (List.replicate n 2)).map iv))∧(Opd.t 1).ev tm=.ptr b1 0∧(Opd.t 2).ev tm=.ptr b2 0∧(Opd.t 3).ev tm=.ptr b3 0∧(Opd.t 4).ev tm=.ptr b4 0∧(Opd.t 6).ev tm=.ptr (h.next+1) 0∧(Opd.t 8).ev tm=.sl kb 0 n (.fix n)∧(Opd.t 23).ev tm=S∧(Opd.t 24).ev tm=.int .i64 (ss.length:Int)∧(Opd.t 25).ev tm=.int .i64 (i:Int)) ?_ ?_ (i:=0) (Nat.zero_le _)
  ⟨_,_,rfl,s01,Keeps.refl _ _,gk,(by simp[ev_c,ev_put]<;>rfl),(by simp[ev_c,ev_put]<;>rfl),(by simp[ev_c,ev_put]<;>rfl),(by simp[ev_c,ev_put]<;>rfl),(by simp[ev_c,ev_put]<;>rfl),(by simp[ev_c,ev_put]<;>rfl),(by simp[ev_c,ev_put]<;>rfl),(by simp[ev_c,ev_put]<;>rfl),(by simp only[ev_put];rfl)⟩
 ·rintro i s hi ⟨tm,h',rfl,hs,kk,gk',t1,t2,t3,t4,t6,t8,t23,t24,t25⟩
  have hi':(i:Int)<(ss.length:Int):=by omega
  obtain⟨b,o,c,cs,rfl,hc,hq,hg,hn',hn0⟩:=(a.s.mono hs).at hi
  have hr:=ks _ (List.getElem_mem hi)
  have hl:(setK (ss.take i) (List.replicate n 2)).length=n:=by rw[setK_len,List.length_replicate]
  have hp:=putI (l:=setK (ss.take i) (List.replicate n 2)) (j:=ss[i].r) (by rw[hl];exact hr) 3
  have est:setK (ss.take (i+1)) (List.replicate n 2)=(setK (ss.take i) (List.replicate n 2)).set ss[i].r 3:=by rw[List.take_succ_eq_append_getElem hi,setK_snoc]
  have hlk:=hs.wf _ _ gk'
  have sN:=(H.Sub.refl hs.wf).add (.cells .rw (encSt ss[i]))
  have gkN:=sN.get gk'
  simp -implicitDefEqProofs(maxSteps:=999999)(disch:=first|with_reducible rfl|omega|(simp only[nA,nS,nD]<;>omega)|fail)only[go_sem,t1,t2,t3,t4,t6,t8,t23,t24,t25,hi',hq (nat_cst i),hc,hg,encSt,q_iad_sl (nat_cst ss[i].r) hr,Nat.mul_one,Nat.zero_add,gk',hp,wr_succ]
  exact⟨_,_,rfl,(hs.trans sN).set (by omega) (by simp only[H.next_add];omega) hw _,((kk.trans (Keeps.of sN fun c=>c=kb)).trans (Keeps.set _ _ _)).mono (fun c hc=>by omega),by rw[get_set_same rfl,est],(by simp[ev_c,ev_put,t1]<;>rfl),(by simp[ev_c,ev_put,t2]<;>rfl),(by simp[ev_c,ev_put,t3]<;>rfl),(by simp[ev_c,ev_put,t4]<;>rfl),(by simp[ev_c,ev_put,t6]<;>rfl),(by simp[ev_c,ev_put,t8]<;>rfl),(by simp[ev_c,ev_put,t23]<;>rfl),(by simp[ev_c,ev_put,t24]<;>rfl),(by simp[ev_c,ev_put]<;>rfl)⟩
 ·rintro s ⟨tm,h2,rfl,s02,kk,gk',t1,t2,t3,t4,t6,t8,t23,t24,t25⟩
  rw[List.take_length] at gk'
  have aK:SlAt h2 (.sl kb 0 n (.fix n)) 1 ((kOf n ss).map encI):=blk_sl (by rw[kOf_len]) gk' (by rw[kOf_len];omega)
  have gR:=kk.2 _ _ gD (by omega)
  obtain⟨sp1,sp2⟩:=split_ok (ks:=kOf n ss) he (by rw[kOf_len];omega) (kOf_ok n ss)
  simp -implicitDefEqProofs(maxSteps:=999999)(disch:=first|with_reducible rfl|omega|(simp only[nA,nS,nD]<;>omega)|fail)only[go_sem,t1,t2,t3,t4,t6,t8,t23,t24,t25,Int.lt_irrefl,s02.cells g2]
  refine Split_ev s02.wf (mB.mono s02) aK (by rw[kOf_len];omega) 0 _ fun m1 h3 mo s23=>?_
  rw[sp1]
  rw[sp2] at mo
  have s03':=s02.trans s23
  have gR3:=s23.get gR
  have mi:=mo.is (by simp only[ml_len,kOf_len];simp[mlM];omega)
  obtain⟨L1,W1,rfl,aL1,aW1⟩:=mi
  have oL1:=aL1.one
  have oW1:=aW1.one
  rw[ml_errs] at mo⊢
  have l3:=s03'.next
  have l3':h.next+3<h3.next:=by have:=s02.wf _ _ gk';have:=s23.next;omega
  have hoff:(∀b,blkOf L1 b→b<h3.next)∧∀b,blkOf W1 b→b<h3.next:=by
   obtain⟨L',W',ee,o1,o2,_⟩:=mo
   cases ee
   exact⟨fun b hb=>(o1.blk hb).2.1,fun b hb=>(o2.blk hb).2.1⟩
  have hoff2:∀b,(blkOf L1 b∨blkOf W1 b)→h.next+1<b:=by
   obtain⟨L',W',ee,o1,o2,_⟩:=mo
   cases ee
   have:=s02.wf _ _ gk'
   intro b hb
   rcases hb with hb|hb
   ·have:=(o1.blk hb).1;omega
   ·have:=(o2.blk hb).1;omega
  have s34:=(H.Sub.refl s03'.wf).add (.cells .rw [.int .i64 e,L1,W1])
  have g34:(h3.add (.cells .rw [.int .i64 e,L1,W1])).get h3.next=some (.cells .rw [.int .i64 e,L1,W1]):=get_add_new rfl
  have e34:=H.next_add h3 (.cells .rw [.int .i64 e,L1,W1])
  simp -implicitDefEqProofs(maxSteps:=999999)(disch:=first|with_reducible rfl|omega|(simp only[nA,nS,nD]<;>omega)|fail)only[go_sem,t1,t2,t3,t4,t6,t8,t23,t24,t25,oL1,oW1,(s03'.trans s34).cells g3,ne_eq,not_true_eq_false]
  have s04:=s03'.trans s34
  have gR4:=s34.get gR3
  have mo4:MlIs (h3.add (.cells .rw [.int .i64 e,L1,W1])) (.agg [.int .i64 e,L1,W1]) (mlM e (kOf n ss) []):=⟨L1,W1,rfl,aL1.mono s34,aW1.mono s34⟩
  generalize h3.add _=h4 at s34 g34 e34 s04 gR4 mo4⊢
  have s45:=(H.Sub.refl s04.wf).add (.cells .rw [.int .i64 0,.int .i64 wh,.int .i64 0,.int .i64 0])
  have s05:=s04.trans s45
  have oX:OwnC h (h4.add (.cells .rw [.int .i64 0,.int .i64 wh,.int .i64 0,.int .i64 0])) (.sl (h3.next+1) 0 1 (.fix 1)) 4 ((wsK (bitF u) wh dry 0).map encW):=
   ⟨s05,by simp[wsK,encW],.inr (.inr ⟨h3.next+1,1,[],rfl,by omega,by rw[H.next_add];omega,get_add_new e34.symm,rfl,Nat.le_refl _⟩)⟩
  have g35:=s45.get g34
  have gR5:=s45.get gR4
  have mo5:=mo4.mono s45
  have e45:=H.next_add h4 (.cells .rw [.int .i64 0,.int .i64 wh,.int .i64 0,.int .i64 0])
  simp -implicitDefEqProofs(maxSteps:=999999)(disch:=first|with_reducible rfl|omega|(simp only[nA,nS,nD]<;>omega)|fail)only[go_sem,t1,t2,t3,t4,t6,t8,t23,t24,t25,s05.cells g1,lD]
  generalize h4.add _=h5 at s45 s05 oX g35 gR5 mo5 e45⊢
  refine W_count n (fun i s=>∃(tm:Go.Ab.T V) (h':H) (X:V),s=⟨tm,h',[]⟩∧OwnC h h' X 4 ((wsK (bitF u) wh dry i).map encW)∧(∀b,blkOf X b→h3.next<b)∧h'.get h3.next=some (.cells .rw [.int .i64 e,L1,W1])∧h'.get (h.next+1)=some (.cells .rw [.int .i64 0,.nils,.nils])∧MlIs h' (.agg [.int .i64 e,L1,W1]) (mlM e (kOf n ss) [])∧(Opd.t 4).ev tm=.ptr b4 0∧(Opd.t 6).ev tm=.ptr (h.next+1) 0∧(Opd.t 11).ev tm=.ptr h3.next 0∧(Opd.t 13).ev tm=X∧(Opd.t 48).ev tm=D∧(Opd.t 49).ev tm=.int .i64 (n:Int)∧(Opd.t 50).ev tm=.int .i64 (i:Int)) ?_ ?_ (i:=0) (Nat.zero_le _)
   ⟨_,_,_,rfl,oX,(fun b ⟨_,_,_,hb⟩=>by cases hb;omega),g35,gR5,mo5,(by simp[ev_c,ev_put,t4]<;>rfl),(by simp[ev_c,ev_put,t6]<;>rfl),(by simp[ev_c,ev_put]<;>rfl),(by simp[ev_c,ev_put]<;>rfl),(by simp[ev_c,ev_put]<;>rfl),(by simp[ev_c,ev_put]<;>rfl),(by simp only[ev_put];rfl)⟩
  ·clear t1 t2 t3 t4 t6 t8 t23 t24 t25
   rintro i s hi ⟨tm,h',X,rfl,oX',lX,g3',gR',mo',t4,t6,t11,t13,t48,t49,t50⟩
   have hi':(i:Int)<(n:Int):=by omega
   have s0':=oX'.1
   obtain⟨b,o,c,cs,rfl,hc,hq,hg,hn',hn0⟩:=(aD.mono s0').at (k:=i) (by omega)
   have cD:=(aD.mono s0').at (k:=i) (by omega)
   have hs4:=s0'.cells g4
   have ed:dry[i]?.getD 0=dry[i]:=by rw[List.getElem?_eq_getElem (by omega)];rfl
   have ww:wr .i64 ((i:Int)+1)=(i:Int)+1:=wr_in (by omega) (by omega)
   have lw:=wsK_len (bitF u) wh dry i
   have hb:decide (andI .u8 (u.fdiv (2^(min i 8))) 1=1)=bitF u i:=rfl
   obtain⟨hi2,hi3⟩:i<dry.length∧(i:Int)<(dry.length:Int):=⟨by omega,by omega⟩
   cases hbi:bitF u i with
   |false=>
    rw[hbi] at hb
    have eN:wsK (bitF u) wh dry (i+1)=wsK (bitF u) wh dry i:=by simp[wsK,hbi]
    simp -implicitDefEqProofs(maxSteps:=999999)(disch:=first|with_reducible rfl|omega|(simp only[nA,nS,nD]<;>omega)|fail)only[go_sem,t4,t6,t11,t13,t48,t49,t50,hi',hq (nat_cst i),hc,hn0 (by omega),encI,hs4,q_shr_b,q_ar_and,hb,wr_succ]
    exact⟨_,_,_,rfl,by rw[eN];exact oX',lX,g3',gR',mo',(by simp[ev_c,ev_put,t4]<;>rfl),(by simp[ev_c,ev_put,t6]<;>rfl),(by simp[ev_c,ev_put,t11]<;>rfl),(by simp[ev_c,ev_put,t13]<;>rfl),(by simp[ev_c,ev_put,t48]<;>rfl),(by simp[ev_c,ev_put,t49]<;>rfl),(by simp[ev_c,ev_put]<;>rfl)⟩
   |true=>
    rw[hbi] at hb
    have eN:wsK (bitF u) wh dry (i+1)=wsK (bitF u) wh dry i++[⟨(i:Int)+1,dry[i],0,5⟩]:=by simp[wsK,hbi,ed]
    simp -implicitDefEqProofs(maxSteps:=999999)(disch:=first|with_reducible rfl|omega|(simp only[nA,nS,nD]<;>omega)|fail)only[go_sem,t4,t6,t11,t13,t48,t49,t50,hi',hq (nat_cst i),hc,hn0 (by omega),encI,hs4,q_shr_b,q_ar_and,hb,ww]
    have sR:=(H.Sub.refl s0'.wf).add (.cells .rw [.int .i64 ((i:Int)+1),.int .i64 dry[i],.int .i64 0,.int .i64 5])
    have aR:SlAt (h'.add (.cells .rw [.int .i64 ((i:Int)+1),.int .i64 dry[i],.int .i64 0,.int .i64 5])) (.sl h'.next 0 1 (.fix 1)) 4 [encW ⟨(i:Int)+1,dry[i],0,5⟩]:=SlAt.new _ rfl rfl rfl (by simp[encW]) (by simp)
    have hX:=fun b=>(oX'.blk (b:=b))
    refine OwnC.app1 (oX'.mono sR) hw (r:=encW ⟨(i:Int)+1,dry[i],0,5⟩) rfl (by omega) aR rfl (by rw[List.length_map];omega) (by rw[List.length_map];omega) fun X2 h6 o6 b6 k6=>?_
    have n6:=k6.1
    rw[H.next_add] at n6
    have g36:=k6.2 _ _ (sR.get g3') (fun hb=>by have:=lX _ hb;omega)
    have gR6:=k6.2 _ _ (sR.get gR') (fun hb=>by have:=lX _ hb;omega)
    have mo6:MlIs h6 (.agg [.int .i64 e,L1,W1]) (mlM e (kOf n ss) []):=(mo'.mono sR).keep k6 fun e' L' W' ee=>by
     cases ee
     exact⟨fun b hb hx=>by have:=hoff.1 b hb;have:=lX b hx;omega,fun b hb hx=>by have:=hoff.2 b hb;have:=lX b hx;omega⟩
    have l6:∀b,blkOf X2 b→h3.next<b:=fun b hb=>by
     rcases b6 b hb with h1|h1
     ·exact lX b h1
     ·have:=s0'.next;have:=H.Sub.wf s0' _ _ g3';rw[H.next_add] at h1;omega
    simp -implicitDefEqProofs(maxSteps:=999999)(disch:=first|with_reducible rfl|omega|(simp only[nA,nS,nD]<;>omega)|fail)only[go_sem,t4,t6,t11,t13,t48,t49,t50,wr_succ]
    exact⟨_,_,_,rfl,by rw[eN,List.map_append];exact o6,l6,g36,gR6,mo6,(by simp[ev_c,ev_put,t4]<;>rfl),(by simp[ev_c,ev_put,t6]<;>rfl),(by simp[ev_c,ev_put,t11]<;>rfl),(by simp[ev_c,ev_put]<;>rfl),(by simp[ev_c,ev_put,t48]<;>rfl),(by simp[ev_c,ev_put,t49]<;>rfl),(by simp[ev_c,ev_put]<;>rfl)⟩
  ·clear t1 t2 t3 t4 t6 t8 t23 t24 t25
   rintro s ⟨tm,h',X,rfl,oX',lX,g3',gR',mo',t4,t6,t11,t13,t48,t49,t50⟩
   obtain⟨ws,ews⟩:∃ws,wsK (bitF u) wh dry n=ws:=⟨_,rfl⟩
   have okw:OkW n ws:=by rw[←ews];exact wsK_ok (by omega) hd hwh
   rw[ews] at oX' q
   have s0':=oX'.1
   have aX:SlAt h' X 4 (ws.map encW):=oX'.sl (by have:=okw.len;rw[List.length_map];omega)
   have lenX:=aX.lenE
   simp -implicitDefEqProofs(maxSteps:=999999)(disch:=first|with_reducible rfl|omega|(simp only[nA,nS,nD]<;>omega)|fail)only[go_sem,t4,t6,t11,t13,t48,t49,t50,Int.lt_irrefl,lenX]
   have okl:=okw.len
   refine W_count ws.length (fun i s=>∃(tm:Go.Ab.T V) (z:H) (L2 W2:V),s=⟨tm,z,[]⟩∧h.Sub z∧Keeps (fun c=>c=h3.next) h' z∧z.get h3.next=some (.cells .rw [.int .i64 e,L2,W2])∧MlIs z (.agg [.int .i64 e,L2,W2]) (mlM e (kOf n ss) (ws.take i))∧(∀b,(blkOf L2 b∨blkOf W2 b)→h.next+1<b)∧(Opd.t 6).ev tm=.ptr (h.next+1) 0∧(Opd.t 11).ev tm=.ptr h3.next 0∧(Opd.t 69).ev tm=X∧(Opd.t 70).ev tm=.int .i64 (ws.length:Int)∧(Opd.t 71).ev tm=.int .i64 (i:Int)) ?_ ?_ (i:=0) (Nat.zero_le _)
    ⟨_,_,_,_,rfl,s0',Keeps.refl _ _,g3',mo',hoff2,(by simp[ev_c,ev_put,t6]<;>rfl),(by simp[ev_c,ev_put,t11]<;>rfl),(by simp[ev_c,ev_put]<;>rfl),(by simp[ev_c,ev_put]<;>rfl),(by simp only[ev_put];rfl)⟩
   ·clear t4 t6 t11 t13 t48 t49 t50
    rintro i s hi ⟨tm,z,L2,W2,rfl,sz,kz,gz,mz,ho2,t6,t11,t69,t70,t71⟩
    have hi':(i:Int)<(ws.length:Int):=by omega
    have aXz:=SlAt_keep aX kz fun b hb ee=>by have:=lX b hb;omega
    obtain⟨b,o,c,cs,rfl,hc,hq,hg,hn',hn0⟩:=aXz.at hi
    have sN:=(H.Sub.refl sz.wf).add (.cells .rw (encW ws[i]))
    have gN:=get_add_new (h:=z) (b:=z.next) (x:=.cells .rw (encW ws[i])) rfl
    have gzN:=sN.get gz
    have lz:=sz.wf _ _ gz
    have eN:=H.next_add z (.cells .rw (encW ws[i]))
    have okt:OkW (kOf n ss).length (ws.take i++[ws[i]]):=by
     rw[←List.take_succ_eq_append_getElem hi,kOf_len];exact okw.take _
    obtain⟨w1,w2⟩:=weigh_ok (ks:=kOf n ss) he (by rw[kOf_len];omega) (kOf_ok n ss) okt
    have mzN:MlIs (z.add (.cells .rw (encW ws[i]))) (.agg [.int .i64 e,L2,W2]) (mlM e (kOf n ss) (ws.take i)):=mz.mono sN
    simp -implicitDefEqProofs(maxSteps:=999999)(disch:=first|with_reducible rfl|omega|(simp only[nA,nS,nD]<;>omega)|fail)only[go_sem,t6,t11,t69,t70,t71,hi',hq (nat_cst i),hc,hg,encW,cells_of gz]
    refine Weigh_ev (w:=ws[i]) sN.wf mzN _ fun m2 h6 mo6 s6=>?_
    rw[w1]
    rw[w2,←List.take_succ_eq_append_getElem hi] at mo6
    have l6:=s6.next
    rw[eN] at l6
    have of6:=mo6.off (S:=fun c=>c=h3.next) fun b hb ee=>by rw[eN] at hb;omega
    have mi6:=mo6.is (by have:=okw.len;simp only[ml_len,kOf_len];simp only[mlM,List.length_take];omega)
    have g6:=s6.get gzN
    obtain⟨L3,W3,rfl,aL3,aW3⟩:=id mi6
    have oL3:=aL3.one
    have oW3:=aW3.one
    rw[ml_errs] at mi6 of6⊢
    have kS:=Keeps.set h6 h3.next (.cells .rw [.int .i64 e,L3,W3])
    have mi7:=mi6.keep kS of6
    have sl:=sz.next
    have ho3:∀b,(blkOf L3 b∨blkOf W3 b)→h.next+1<b:=by
     obtain⟨L',W',ee,o1,o2,_⟩:=mo6
     cases ee
     intro b hb
     rcases hb with hb|hb
     ·have:=(o1.blk hb).1;rw[eN] at this;omega
     ·have:=(o2.blk hb).1;rw[eN] at this;omega
    simp -implicitDefEqProofs(maxSteps:=999999)(disch:=first|with_reducible rfl|omega|(simp only[nA,nS,nD]<;>omega)|fail)only[go_sem,t6,t11,t69,t70,t71,g6,oL3,oW3,ne_eq,not_true_eq_false,wr_succ]
    exact⟨_,_,_,_,rfl,(sz.trans (sN.trans s6)).set (by omega) (by omega) hw _,(((kz.trans (Keeps.of sN fun c=>c=h3.next)).trans (Keeps.of s6 fun c=>c=h3.next)).trans kS).mono (fun c hc=>by omega),get_set_same rfl,mi7,ho3,(by simp[ev_c,ev_put,t6]<;>rfl),(by simp[ev_c,ev_put,t11]<;>rfl),(by simp[ev_c,ev_put,t69]<;>rfl),(by simp[ev_c,ev_put,t70]<;>rfl),(by simp[ev_c,ev_put]<;>rfl)⟩
   ·clear t4 t6 t11 t13 t48 t49 t50
    rintro s ⟨tm,z,L2,W2,rfl,sz,kz,gz,mz,ho2,t6,t11,t69,t70,t71⟩
    rw[List.take_length] at mz
    have gRz:=kz.2 _ _ gR' (by omega)
    have lz:=sz.wf _ _ gRz
    obtain⟨L',W',ee,aL2,aW2⟩:=id mz
    cases ee
    have oL2:=aL2.one
    have oW2:=aW2.one
    simp -implicitDefEqProofs(maxSteps:=999999)(disch:=first|with_reducible rfl|omega|(simp only[nA,nS,nD]<;>omega)|fail)only[go_sem,t6,t11,t69,t70,t71,Int.lt_irrefl,cells_of gz,gRz,oL2,oW2]
    have kS:=Keeps.set z (h.next+1) (.cells .rw [.int .i64 e,L2,W2])
    exact q _ _ _ (sz.set (by omega) lz hw _) (mz.keep kS fun e' L' W' ee=>by
     cases ee
     exact⟨fun b hb he=>by have:=ho2 b (.inl hb);omega,fun b hb he=>by have:=ho2 b (.inr hb);omega⟩)
end Go.Ab.Tryz
namespace Go.Ab.Tryz
open Go.Ab.Silk
theorem spans_get (b:Box){n i:Nat}(h:i<(spansL b n).length):(spansL b n)[i]=[(b (i:Int)).1,(b (i:Int)).2]:=by simp[spansL]
set_option maxRecDepth 8000 in
set_option maxHeartbeats 8000000 in
theorem tailS_ev {h:H}(hw:h.wf){c5 c9 c12 c14 c15 c16:Nat}{u e:Int}{P S P2 S2 L W D:V}{n t:Nat}{ps ps2:List (V × Bool)}{ss:List St}{s:St}{dry:List Int}
  (g5:h.cells c5=some [.int .u8 u]) (g9:h.cells c9=some (lmV n t P S)) (g12:h.cells c12=some (lmV n t P2 S2)) (g14:h.cells c14=some [.int .i64 e,L,W]) (g15:h.cells c15=some [.int .i64 dry.sum]) (g16:h.cells c16=some [D])
  (a:LmAt h P S n t ps ss) (a2:LmAt h P2 S2 n t ps2 (ss++[s])) (k2:LmOk n t (ss++[s])) (n4:1≤n∧n≤4) (k5:ss.length≤5) (mB:MlIs h (.agg [.int .i64 e,L,W]) (mlM e [] [])) (he:0≤e∧e≤3)
  (aD:SlAt h D 1 (dry.map encI)) (ld:dry.length=n) (hd:∀d∈dry,0≤d∧d≤200) (hsum:0≤dry.sum∧dry.sum≤800)
  {tm:Go.Ab.T V} (t5:(Opd.t 5).ev tm=.ptr c5 0) (t9:(Opd.t 9).ev tm=.ptr c9 0) (t12:(Opd.t 12).ev tm=.ptr c12 0) (t14:(Opd.t 14).ev tm=.ptr c14 0) (t15:(Opd.t 15).ev tm=.ptr c15 0) (t16:(Opd.t 16).ev tm=.ptr c16 0) (Q:V→H→Prop) (q:∀h',Q (.bool true) h'):
  Go.Ab.W fnG fastA 295 3 none (navF [true,true,true,true,true,true,true,true,true,true,true] c3.body) ⟨tm,h,[]⟩ (Kfin [.tmp 6] Q):=by
 have ks2:=k2.sb
 have ks:∀x∈ss,x.r<n:=fun x hx=>(ks2 x (by simp[hx])).1
 have ks2':∀x∈ss++[s],x.r<n:=fun x hx=>(ks2 x hx).1
 have hd10:∀d∈dry,0≤d∧d≤10000:=fun d hd'=>by have:=hd d hd';omega
 simp only[navF,c3]
 simp -implicitDefEqProofs(maxSteps:=999999)(disch:=first|with_reducible rfl|omega|(simp only[nA,nS,nD]<;>omega)|fail)only[go_sem,t5,t9,t12,t14,t15,t16,g9]
 refine booked_ev hw g16 aD g14 mB g15 g5 a ks (by omega) ld n4 (by omega) hd10 (by omega) _ fun L1 W1 h1 s1 m1=>?_
 obtain⟨_,_,ee,aL1,aW1⟩:=id m1
 cases ee
 have oL1:=aL1.one
 have oW1:=aW1.one
 have sA:=(H.Sub.refl s1.wf).add (.cells .rw [.int .i64 e,L1,W1])
 have gA:(h1.add (.cells .rw [.int .i64 e,L1,W1])).cells h1.next=some [.int .i64 e,L1,W1]:=cells_add_new rfl
 have s01:=s1.trans sA
 have m1A:=m1.mono sA
 simp -implicitDefEqProofs(maxSteps:=999999)(disch:=first|with_reducible rfl|omega|(simp only[nA,nS,nD]<;>omega)|fail)only[go_sem,t5,t9,t12,t14,t15,t16,oL1,oW1,s01.cells g12]
 generalize h1.add _=h2 at sA gA s01 m1A⊢
 refine booked_ev s01.wf (s01.cells g16) (aD.mono s01) (s01.cells g14) (mB.mono s01) (s01.cells g15) (s01.cells g5) (a2.mono s01) ks2' (by simp only[List.length_append,List.length_cons,List.length_nil];omega) ld n4 (by omega) hd10 (by omega) _ fun L2 W2 h3 s3 m2=>?_
 obtain⟨_,_,ee,aL2,aW2⟩:=id m2
 cases ee
 have oL2:=aL2.one
 have oW2:=aW2.one
 have sB:=(H.Sub.refl s3.wf).add (.cells .rw [.int .i64 e,L2,W2])
 have gB:(h3.add (.cells .rw [.int .i64 e,L2,W2])).cells h3.next=some [.int .i64 e,L2,W2]:=cells_add_new rfl
 have s23:=s3.trans sB
 have m2B:=m2.mono sB
 have m1B:=m1A.mono s23
 have gAB:=s23.cells gA
 have s03:=s01.trans s23
 simp -implicitDefEqProofs(maxSteps:=999999)(disch:=first|with_reducible rfl|omega|(simp only[nA,nS,nD]<;>omega)|fail)only[go_sem,t5,t9,t12,t14,t15,t16,oL2,oW2,gAB,Bool.not_true]
 generalize h3.add _=h4 at sB gB s23 m2B m1B gAB s03⊢
 have hc1:check (mlM e (kOf n ss) (wsK (bitF u) dry.sum dry n))=0:=ml_check (by omega) (kOf_ok n ss) (by rw[kOf_len];omega) (by rw[kOf_len];exact wsK_ok (by omega) hd10 (by omega))
 have hr:∀w∈wsK (bitF u) dry.sum dry n,w.reads=valL dry.sum dry w.lot:=fun w hw=>(wsK_mem hw).1
 have hf1:∃w,FeasM (mlM e (kOf n ss) (wsK (bitF u) dry.sum dry n)) allC w:=ml_some he.1 (by rw[kOf_len,ld]) hd10 (by omega) hsum.1 fun w hw=>⟨(wsK_mem hw).1,(wsK_mem hw).2.1,(wsK_mem hw).2.2.1⟩
 have hpl:= @spoilt_plain e (kOf n ss) (kOf n (ss++[s])) dry (wsK (bitF u) dry.sum dry n) (by omega) (by omega) (by rw[kOf_len,ld]) (by rw[kOf_len,ld]) (kOf_23 n ss) (kOf_23 n _) (kOf_more n ss s) hd10 (by omega) hsum.1 (by rw[ld];exact wsK_ok (by omega) hd10 (by omega)) hr
 have hln:=ml_len e (kOf n ss) (wsK (bitF u) dry.sum dry n)
 rw[kOf_len] at hln
 generalize mlM e (kOf n ss) (wsK (bitF u) dry.sum dry n)=A at hc1 hf1 hpl hln m1 m1A m1B aL1 aW1⊢
 generalize mlM e (kOf n (ss++[s])) (wsK (bitF u) dry.sum dry n)=B at hpl m2 m2B aL2 aW2⊢
 refine(Bounds_ev s03.wf m1B).mono fun u' h5 hu=>?_
 obtain⟨s5,X,rows,e5,rfl,aX,spec⟩:=hu
 rcases spec with⟨x1,_⟩|⟨_,x1,_⟩|⟨_,b,hbx,rfl,rfl⟩
 ·exact absurd hc1 x1
 ·exact absurd hf1 x1
 have hpl2:= @hpl b hbx
 clear hpl
 have lenX:=aX.lenE
 rw[spansL_len,hln] at lenX
 have bne:=hbx.1.ne 0 (Int.le_refl 0) (by rw[hln];omega)
 have X1:=aX.one
 have hix:0<(spansL b A.lots.length).length:=by rw[spansL_len,hln];omega
 simp -implicitDefEqProofs(maxSteps:=999999)(disch:=first|with_reducible rfl|omega|(simp only[nA,nS,nD]<;>omega)|fail)only[go_sem,t5,t9,t12,t14,t15,t16,s5.cells gAB]
 have m1C:=m1B.mono s5
 have m2C:=m2B.mono s5
 have s05:=s03.trans s5
 refine(Where_ev s05.wf m1C 3).mono fun u' h6 hu=>?_
 obtain⟨s6,wl,wh,we,rfl,R1⟩:=hu
 have sC:=(H.Sub.refl s6.wf).add (.cells .rw [.int .i64 wl,.int .i64 wh])
 have gC:(h6.add (.cells .rw [.int .i64 wl,.int .i64 wh])).cells h6.next=some [.int .i64 wl,.int .i64 wh]:=cells_add_new rfl
 have s67:=s6.trans sC
 simp -implicitDefEqProofs(maxSteps:=999999)(disch:=first|with_reducible rfl|omega|(simp only[nA,nS,nD]<;>omega)|fail)only[go_sem,t5,t9,t12,t14,t15,t16,(s5.trans s67).cells gB]
 generalize h6.add _=h7 at sC gC s67⊢
 have s57:=s5.trans s67
 refine(Where_ev s67.wf (m2C.mono s67) 3).mono fun u' h8 hu=>?_
 obtain⟨s8,xl,xh,xe,rfl,R2⟩:=hu
 have sD:=(H.Sub.refl s8.wf).add (.cells .rw [.int .i64 xl,.int .i64 xh])
 have gD:(h8.add (.cells .rw [.int .i64 xl,.int .i64 xh])).cells h8.next=some [.int .i64 xl,.int .i64 xh]:=cells_add_new rfl
 have s89:=s8.trans sD
 simp -implicitDefEqProofs(maxSteps:=999999)(disch:=first|with_reducible rfl|omega|(simp only[nA,nS,nD]<;>omega)|fail)only[go_sem,t5,t9,t12,t14,t15,t16,(s57.trans s89).cells gAB]
 generalize h8.add _=h9 at sD gD s89⊢
 have s59:=s57.trans s89
 refine(Where_ev s89.wf (m1B.mono s59) 2).mono fun u' h10 hu=>?_
 obtain⟨s10,rl,rh,re,rfl,R3⟩:=hu
 have sE:=(H.Sub.refl s10.wf).add (.cells .rw [.int .i64 rl,.int .i64 rh])
 have gE:(h10.add (.cells .rw [.int .i64 rl,.int .i64 rh])).cells h10.next=some [.int .i64 rl,.int .i64 rh]:=cells_add_new rfl
 have s911:=s10.trans sE
 simp -implicitDefEqProofs(maxSteps:=999999)(disch:=first|with_reducible rfl|omega|(simp only[nA,nS,nD]<;>omega)|fail)only[go_sem,t5,t9,t12,t14,t15,t16,(s59.trans s911).cells gB]
 generalize h10.add _=h11 at sE gE s911⊢
 have s511:=s59.trans s911
 refine(Where_ev s911.wf (m2B.mono s511) 2).mono fun u' h12 hu=>?_
 obtain⟨s12,vl,vh,ve,rfl,R4⟩:=hu
 obtain⟨rfl,rfl,rfl,rfl,p1,p2,p3,p4,p5,p6,p7,p8,q1,q2,q3,q4⟩:=hpl2 R1 R2 R3 R4
 have sF:=(H.Sub.refl s12.wf).add (.cells .rw [.int .i64 vl,.int .i64 vh])
 have gF:(h12.add (.cells .rw [.int .i64 vl,.int .i64 vh])).cells h12.next=some [.int .i64 vl,.int .i64 vh]:=cells_add_new rfl
 have s1113:=s12.trans sF
 have s913:=s911.trans s1113
 have s713:=s89.trans s913
 have s413:=s511.trans s1113
 have gC13:=s713.cells gC
 have gD13:=s913.cells gD
 have gE13:=s1113.cells gE
 have g16F:=(s03.trans s413).cells g16
 have aXF:=aX.mono (s67.trans s713)
 have lenD:=aD.lenE
 rw[ld] at lenD
 have ww:wr .i64 ((n:Int)+1)=((n+1:Nat):Int):=wr_succ (by omega)
 obtain⟨bX,oX,cX,csX,rfl,hcsX,hqX,hgX,hnX,hnX0⟩:=aXF.at hix
 have hv0:nth oX csX=some (.int .i64 (b 0).1):=by
  have:=hnX 0 (by omega)
  simp only[Nat.zero_mul,Nat.add_zero] at this
  rw[this,spans_get];rfl
 have hv1:nth (oX+1) csX=some (.int .i64 (b 0).2):=by
  have:=hnX 1 (by omega)
  simp only[Nat.zero_mul,Nat.add_zero] at this
  rw[this,spans_get];rfl
 have hq0:q_iad 2 (.sl bX oX (spansL b A.lots.length).length cX) (.int .i64 0)=some (.ptr bX oX):=by
  have:=hqX (nat_cst 0)
  rw[Nat.zero_mul,Nat.add_zero] at this;exact this
 have gF13:(h12.add (.cells .rw [.int .i64 vl,.int .i64 vh])).cells h12.next=some [.int .i64 vl,.int .i64 vh]:=gF
 have n1:¬xl<wl:=by omega
 have n2:¬xh<wh:=by omega
 have n3:¬rl<vl:=by omega
 have n4':¬rh<vh:=by omega
 have n5:¬wl+rh<(b 0).1:=by omega
 have n6:¬(b 0).2<wh+rl:=by omega
 have n7:¬(b 0).1<wl+rl:=by omega
 have n8:¬wh+rh<(b 0).2:=by omega
 have w1:wr .i64 (wl+rh)=wl+rh:=wr_in (by omega) (by omega)
 have w2:wr .i64 (wh+rl)=wh+rl:=wr_in (by omega) (by omega)
 have w3:wr .i64 (wl+rl)=wl+rl:=wr_in (by omega) (by omega)
 have w4:wr .i64 (wh+rh)=wh+rh:=wr_in (by omega) (by omega)
 have g12F:=(s03.trans s413).cells g12
 simp -implicitDefEqProofs(maxSteps:=999999)(disch:=first|with_reducible rfl|omega|(simp only[nA,nS,nD]<;>omega)|fail)only[go_sem,t5,t9,t12,t14,t15,t16,ne_eq,not_true_eq_false,decide_false,lenX,g16F,lenD,ww,gC13,gD13,gE13,gF13,n1,n2,n3,n4',n5,n6,n7,n8,w1,w2,w3,w4,hq0,hcsX,hv0,hv1,g12F]
 have s013:=s03.trans s413
 refine Weavers_ev s013.wf (a2.mono s013) k2 n4.2 (by simp only[List.length_append,List.length_cons,List.length_nil];omega) _ fun y Lw hZ sZ aY lY=>?_
 have lenY:=aY.lenE
 have lenS:=a2.s.lenE
 have g12Z:=(s013.trans sZ).cells g12
 have lY':(Lw.length:Int)≤((ss++[s]).length:Int):=by omega
 simp -implicitDefEqProofs(maxSteps:=999999)(disch:=first|with_reducible rfl|omega|(simp only[nA,nS,nD]<;>omega)|fail)only[go_sem,t5,t9,t12,t14,t15,t16,lenY,lenS,g12Z,lY',decide_true]
 exact q _
end Go.Ab.Tryz
namespace Go.Ab.Tryz
structure Sq (h0:H)(p:Nat)(y:V)(bs:List Int)(T:Int)(h:H):Prop where
 w0:h0.wf
 hy:SlAt h0 y 1 (bs.map encU8)
 p0:h0.next≤p
 s:h0.Sub h
 sp:SpAt h p y T
 T:0≤T∧T≤1000
theorem Sq.lt {h0 h:H}{p:Nat}{y:V}{bs:List Int}{T:Int}(a:Sq h0 p y bs T h):p<h.next:=by
 obtain⟨st,g⟩:=a.sp
 exact H.lt_next a.s.wf g
theorem Sq.mono {h0 h h':H}{p:Nat}{y:V}{bs:List Int}{T:Int}(a:Sq h0 p y bs T h)(s:h.Sub h'):Sq h0 p y bs T h':=⟨a.w0,a.hy,a.p0,a.s.trans s,a.sp.mono s,a.T⟩
theorem Sq.keep {h0 h h':H}{p:Nat}{y:V}{bs:List Int}{T:Int}{S:Nat→Prop}(a:Sq h0 p y bs T h)(k:Keeps S h h')(n:¬S p)(s:h0.Sub h'):Sq h0 p y bs T h':=⟨a.w0,a.hy,a.p0,s,a.sp.keep k n,a.T⟩
theorem Sq.upto {h0 h:H}{p:Nat}{y:V}{bs:List Int}{T:Int}(a:Sq h0 p y bs T h)(hT:T<1000){n:Int}(hn:0≤n∧n≤1000000)(Q:V→H→Prop)
  (q:∀r h',0≤r→r≤n→Sq h0 p y bs (T+1) h'→Keeps (fun c=>c=p) h h'→h'.next=h.next→Q (.int .i64 r) h'):Ev fnG fastA (.fn 7 [] []) [.ptr p 0,.int .i64 n] h Q:=
 Upto_ev a.s a.w0 a.hy a.p0 a.sp (by have:=a.T;omega) (by omega) Q fun r h' r0 r1 s' p' k' n'=>q r h' r0 (by omega) ⟨a.w0,a.hy,a.p0,s',p',by have:=a.T;omega⟩ k' n'
theorem Sq.frm {h0 h:H}{p:Nat}{y:V}{bs:List Int}{T:Int}(a:Sq h0 p y bs T h)(hT:T<1000){lo hi:Int}(hlo: -1000≤lo∧lo≤1000)(hhi:lo≤hi∧hi≤1000)(Q:V→H→Prop)
  (q:∀r h',lo≤r→r≤hi→Sq h0 p y bs (T+1) h'→Keeps (fun c=>c=p) h h'→h'.next=h.next→Q (.int .i64 r) h'):Ev fnG fastA (.fn 5 [] []) [.ptr p 0,.int .i64 lo,.int .i64 hi] h Q:=
 From_ev a.s a.w0 a.hy a.p0 a.sp (by have:=a.T;omega) (by omega) (by omega) Q fun r h' r0 r1 s' p' k' n'=>q r h' r0 (by omega) ⟨a.w0,a.hy,a.p0,s',p',by have:=a.T;omega⟩ k' n'
theorem Sq.once {h0 h:H}{p:Nat}{y:V}{bs:List Int}{T:Int}(a:Sq h0 p y bs T h)(hT:T<1000){n:Int}(hn:0≤n∧n≤1000)(Q:V→H→Prop)
  (q:∀t h',Sq h0 p y bs (T+1) h'→Keeps (fun c=>c=p) h h'→h'.next=h.next→Q (.bool t) h'):Ev fnG fastA (.fn 6 [] []) [.ptr p 0,.int .i64 n] h Q:=
 Once_ev a.s a.w0 a.hy a.p0 a.sp (by have:=a.T;omega) (by omega) Q fun t h' s' p' k' n'=>q t h' ⟨a.w0,a.hy,a.p0,s',p',by have:=a.T;omega⟩ k' n'
theorem Sq.ne {h0 h:H}{p:Nat}{y:V}{bs:List Int}{T:Int}{x:V}{sz:Nat}{rows:List (List V)}(q:Sq h0 p y bs T h)(o:OwnSl h0 h x sz rows):¬blkOf x p:=by
 obtain⟨st,gp⟩:=q.sp
 exact o.ne gp
structure Qs (h:H)(p:Nat)(x y:V)(bs cs:List Int)(u:Int)(n t:Nat)(T1 T2:Int)(P S:V)(ps:List (V × Bool))(ss:List St)(z:H):Prop where
 hp:p=h.next
 q:Sq h (p+1) x bs T1 z
 r:Sq h (p+2) y cs T2 z
 g5:z.get p=some (.cells .rw [.int .u8 u])
 g9:z.get (p+3)=some (.cells .rw (lmV n t P S))
 pb:Pb h (p+3) z P ps
 os:OwnSl h z S 4 (ss.map encSt)
section
variable {h:H} {p:Nat} {x y:V} {bs cs:List Int} {u:Int} {n t:Nat} {T1 T2:Int} {P S:V} {ps:List (V × Bool)} {ss:List St} {z z':H}
theorem Qs.s (a:Qs h p x y bs cs u n t T1 T2 P S ps ss z):h.Sub z:=a.q.s
theorem Qs.mono (a:Qs h p x y bs cs u n t T1 T2 P S ps ss z)(s:z.Sub z'):Qs h p x y bs cs u n t T1 T2 P S ps ss z':=⟨a.hp,a.q.mono s,a.r.mono s,s.get a.g5,s.get a.g9,a.pb.mono s,a.os.mono s⟩
theorem Qs.turn (a:Qs h p x y bs cs u n t T1 T2 P S ps ss z){T:Int}(q':Sq h (p+1) x bs T z')(k:Keeps (fun c=>c=p+1) z z'):Qs h p x y bs cs u n t T T2 P S ps ss z':=
 ⟨a.hp,q',a.r.keep k (by omega) q'.s,k.2 _ _ a.g5 (by omega),k.2 _ _ a.g9 (by omega),a.pb.keep k q'.s fun b hb=>⟨by omega,by rw[hb];exact a.q.ne a.pb.z⟩,a.os.keep k q'.s fun b hb e=>by subst e;exact a.q.ne a.os hb⟩
theorem Qs.turn2 (a:Qs h p x y bs cs u n t T1 T2 P S ps ss z){T:Int}(r':Sq h (p+2) y cs T z')(k:Keeps (fun c=>c=p+2) z z'):Qs h p x y bs cs u n t T1 T P S ps ss z':=
 ⟨a.hp,a.q.keep k (by omega) r'.s,r',k.2 _ _ a.g5 (by omega),k.2 _ _ a.g9 (by omega),a.pb.keep k r'.s fun b hb=>⟨by omega,by rw[hb];exact a.r.ne a.pb.z⟩,a.os.keep k r'.s fun b hb e=>by subst e;exact a.r.ne a.os hb⟩
theorem Qs.store {P' S':V}{ps':List (V × Bool)}{ss':List St}(hp:p=h.next)(q:Sq h (p+1) x bs T1 z)(r:Sq h (p+2) y cs T2 z)(g5:z.get p=some (.cells .rw [.int .u8 u])){old:List V}(g9:z.get (p+3)=some (.cells .rw old))(pb:Pb h (p+3) z P' ps')(os:OwnSl h z S' 4 (ss'.map encSt)):
  Qs h p x y bs cs u n t T1 T2 P' S' ps' ss' (z.set (p+3) (.cells .rw (lmV n t P' S'))):=by
 have k:=Keeps.set z (p+3) (.cells .rw (lmV n t P' S'))
 have s:=q.s.set (by omega) (q.s.wf _ _ g9) q.w0 (.cells .rw (lmV n t P' S'))
 exact⟨hp,q.keep k (by omega) s,r.keep k (by omega) s,k.2 _ _ g5 (by omega),get_set_same rfl,pb.keep k s fun b hb=>⟨by omega,by rw[hb];exact pb.z.ne g9⟩,os.keep k s fun b hb e=>by subst e;exact os.ne g9 hb⟩
theorem Qs.par (a:Qs h p x y bs cs u n t T1 T2 P S ps ss z)(hl:ps.length≤100)(hn:ps.length=n)(hs:ss.length≤100):LmAt z P S n t ps ss:=a.pb.at hl (a.os.sl (by rw[List.length_map];omega)) hn
end
set_option maxHeartbeats 8000000 in
theorem loop1_ev {h:H}{p:Nat}{x y:V}{bs cs:List Int}{u:Int}{n t:Nat}{T1 T2:Int}{z:H}(a:Qs h p x y bs cs u n t T1 T2 .nils .nils [] [] z)(n4:1≤n∧n≤4)(hT:T1≤10)
  {tm:Go.Ab.T V} (t5:(Opd.t 5).ev tm=.ptr p 0) (t7:(Opd.t 7).ev tm=.ptr (p+1) 0) (t8:(Opd.t 8).ev tm=.ptr (p+2) 0) (t9:(Opd.t 9).ev tm=.ptr (p+3) 0):
  Go.Ab.W fnG fastA 295 3 none (navF [true,true,true,false] c3.body) ⟨tm,z,[]⟩ fun x1 s1=>x1=.nrm∧∃(tm':Go.Ab.T V) (z':H) (T1':Int) (P:V) (ps:List (V × Bool)),s1=⟨tm',z',[]⟩∧T1'≤T1+n∧Qs h p x y bs cs u n t T1' T2 P .nils ps [] z'∧ps.length=n∧
   (Opd.t 5).ev tm'=.ptr p 0∧(Opd.t 7).ev tm'=.ptr (p+1) 0∧(Opd.t 8).ev tm'=.ptr (p+2) 0∧(Opd.t 9).ev tm'=.ptr (p+3) 0:=by
 simp only[navF,c3]
 have hw:=a.q.w0
 simp -implicitDefEqProofs(maxSteps:=999999)(disch:=first|with_reducible rfl|omega|(simp only[nA,nS,nD]<;>omega)|fail)only[go_sem,t9,cells_of a.g9]
 refine W_count n (fun i s=>∃(tm':Go.Ab.T V) (z':H) (T1':Int) (P:V) (ps:List (V × Bool)),s=⟨tm',z',[]⟩∧T1'≤T1+i∧Qs h p x y bs cs u n t T1' T2 P .nils ps [] z'∧ps.length=i∧
   (Opd.t 5).ev tm'=.ptr p 0∧(Opd.t 7).ev tm'=.ptr (p+1) 0∧(Opd.t 8).ev tm'=.ptr (p+2) 0∧(Opd.t 9).ev tm'=.ptr (p+3) 0∧(Opd.t 42).ev tm'=.int .i64 (n:Int)∧(Opd.t 43).ev tm'=.int .i64 (i:Int)) ?_ ?_ (i:=0) (Nat.zero_le _)
  ⟨_,_,T1,.nils,[],rfl,by omega,a,rfl,(by simp[ev_c,ev_put,t5]<;>rfl),(by simp[ev_c,ev_put,t7]<;>rfl),(by simp[ev_c,ev_put,t8]<;>rfl),(by simp[ev_c,ev_put,t9]<;>rfl),(by simp[ev_c,ev_put]<;>rfl),(by simp only[ev_put];rfl)⟩
 ·clear t5 t7 t8 t9
  rintro i s hi ⟨tm,z1,T,P,ps,rfl,hT1,a1,lps,t5,t7,t8,t9,t42,t43⟩
  have hi':(i:Int)<(n:Int):=by omega
  simp -implicitDefEqProofs(maxSteps:=999999)(disch:=first|with_reducible rfl|omega|(simp only[nA,nS,nD]<;>omega)|fail)only[go_sem,t5,t7,t8,t9,t42,t43,hi',cells_of a1.g9]
  refine a1.q.once (by omega) (by omega) _ fun w z2 q2 k2 e2=>?_
  have a2:=a1.turn q2 k2
  have lz:=a2.q.lt
  have lz9:=a2.s.wf _ _ a2.g9
  have sB:=(H.Sub.refl a2.s.wf).add (.cells .rw [.int .i64 (i:Int)])
  have cx:Cl (p+3) (z2.add (.cells .rw [.int .i64 (i:Int)])) (.sl z2.next 0 1 (.fix 1)) ps.length:=by
   rw[lps]
   exact⟨SlAt.new _ rfl rfl rfl (by simp[encI]) (by simp),fun b ⟨_,_,_,e⟩=>by cases e;exact⟨lz9,.rw,_,get_add_new rfl,.inl rfl⟩⟩
  have a3:=a2.mono sB
  have e3:=H.next_add z2 (.cells .rw [.int .i64 (i:Int)])
  simp -implicitDefEqProofs(maxSteps:=999999)(disch:=first|with_reducible rfl|omega|(simp only[nA,nS,nD]<;>omega)|fail)only[go_sem,t5,t7,t8,t9,t42,t43,cells_of a1.g9,cells_of a2.g9]
  generalize z2.add (.cells .rw [.int .i64 (i:Int)])=z3 at sB cx a3 e3⊢
  have sC:=(H.Sub.refl a3.s.wf).add (.cells .rw [.sl z2.next 0 1 (.fix 1),.int .i64 1,.int .i64 0,.bool w])
  have ay:SlAt (z3.add (.cells .rw [.sl z2.next 0 1 (.fix 1),.int .i64 1,.int .i64 0,.bool w])) (.sl (z2.next+1) 0 1 (.fix 1)) 4 [encPt (.sl z2.next 0 1 (.fix 1),w)]:=SlAt.new _ e3.symm rfl rfl (by simp[encPt]) (by simp)
  have a4:=a3.mono sC
  have c4:=cx.mono sC
  generalize z3.add _=z4 at sC ay a4 c4⊢
  refine a4.pb.app hw (by omega) c4 ay fun z5 pb5 k5 n5=>?_
  have s5:=pb5.z.1
  have g95:=k5.2 _ _ a4.g9 (a4.pb.z.ne a4.g9)
  have g55:=k5.2 _ _ a4.g5 (a4.pb.z.ne a4.g5)
  have q5:=a4.q.keep k5 (a4.q.ne a4.pb.z) s5
  have r5:=a4.r.keep k5 (a4.r.ne a4.pb.z) s5
  obtain⟨Y,hY⟩:∃Y,V.sl z4.next 0 (ps.length+1) (.slk 0 0)=Y:=⟨_,rfl⟩
  have y1:Y.one=true:=by rw[←hY];rfl
  have yc:Y.cells=[Y]:=by rw[←hY];rfl
  rw[hY] at pb5
  rw[hY]
  simp -implicitDefEqProofs(maxSteps:=999999)(disch:=first|with_reducible rfl|omega|(simp only[nA,nS,nD]<;>omega)|fail)only[go_sem,t5,t7,t8,t9,t42,t43,cells_of a1.g9,cells_of a4.g9,g95,y1,yc,wr_succ]
  have o5:OwnSl h z5 .nils 4 (([]:List St).map encSt):=OwnSl.nil s5 4
  exact⟨_,_,T+1,Y,ps++[(.sl z2.next 0 1 (.fix 1),w)],rfl,by omega,Qs.store a4.hp q5 r5 g55 g95 pb5 o5,by rw[List.length_append,lps];rfl,(by simp[ev_c,ev_put,t5]<;>rfl),(by simp[ev_c,ev_put,t7]<;>rfl),(by simp[ev_c,ev_put,t8]<;>rfl),(by simp[ev_c,ev_put,t9]<;>rfl),(by simp[ev_c,ev_put,t42]<;>rfl),(by simp[ev_c,ev_put]<;>rfl)⟩
 ·clear t5 t7 t8 t9
  rintro s ⟨tm,z1,T,P,ps,rfl,hT1,a1,lps,t5,t7,t8,t9,t42,t43⟩
  simp -implicitDefEqProofs(maxSteps:=999999)(disch:=first|with_reducible rfl|omega|(simp only[nA,nS,nD]<;>omega)|fail)only[go_sem,t42,t43,Int.lt_irrefl]
  exact⟨_,_,T,P,ps,rfl,hT1,a1,lps,(by simp[ev_c,ev_put,t5]<;>rfl),(by simp[ev_c,ev_put,t7]<;>rfl),(by simp[ev_c,ev_put,t8]<;>rfl),(by simp[ev_c,ev_put,t9]<;>rfl)⟩
end Go.Ab.Tryz
namespace Go.Ab.Tryz
theorem Pb.keep4 {h0 h h':H}{lo:Nat}{Z:V}{ps:List (V × Bool)}{S:Nat→Prop}(a:Pb h0 lo h Z ps)(k:Keeps S h h')(s:h0.Sub h')(n:∀b,S b→¬blkOf Z b∧∃cs,h.get b=some (.cells (.gr 4) cs)):Pb h0 lo h' Z ps:=
 ⟨a.z.keep k s fun b hb hs=>(n b hs).1 hb,fun i hi=>(a.c i hi).keep k fun b hs=>.inr (n b hs).2⟩
set_option maxHeartbeats 8000000 in
theorem loop2_ev {h:H}{p:Nat}{x y:V}{bs cs:List Int}{u:Int}{n t:Nat}{T1 T2:Int}{z:H}{P:V}{ps:List (V × Bool)}(a:Qs h p x y bs cs u n t T1 T2 P .nils ps [] z)(n4:1≤n∧n≤4)(t6':1≤t∧t≤6)(hT:T1≤20)
  {tm:Go.Ab.T V} (t5:(Opd.t 5).ev tm=.ptr p 0) (t7:(Opd.t 7).ev tm=.ptr (p+1) 0) (t8:(Opd.t 8).ev tm=.ptr (p+2) 0) (t9:(Opd.t 9).ev tm=.ptr (p+3) 0):
  Go.Ab.W fnG fastA 295 3 none (navF [true,true,true,true,false] c3.body) ⟨tm,z,[]⟩ fun x1 s1=>x1=.nrm∧∃(tm':Go.Ab.T V) (z':H) (T1':Int) (S:V) (ss:List St),s1=⟨tm',z',[]⟩∧T1'≤50∧Qs h p x y bs cs u n t T1' T2 P S ps ss z'∧ss.length≤5∧(∀s∈ss,s.r<n∧s.lo≤s.hi∧s.hi<t)∧
   (Opd.t 5).ev tm'=.ptr p 0∧(Opd.t 7).ev tm'=.ptr (p+1) 0∧(Opd.t 8).ev tm'=.ptr (p+2) 0∧(Opd.t 9).ev tm'=.ptr (p+3) 0:=by
 simp only[navF,c3]
 have hw:=a.q.w0
 simp -implicitDefEqProofs(maxSteps:=999999)(disch:=first|with_reducible rfl|omega|(simp only[nA,nS,nD]<;>omega)|fail)only[go_sem,t7]
 refine a.q.upto (by omega) (by omega) _ fun K z0 K0 K1 q0 k0 e0=>?_
 have a0:=a.turn q0 k0
 obtain⟨K,rfl⟩:=Int.eq_ofNat_of_zero_le K0
 simp -implicitDefEqProofs(maxSteps:=999999)(disch:=first|with_reducible rfl|omega|(simp only[nA,nS,nD]<;>omega)|fail)only[go_sem]
 refine W_count K (fun i s=>∃(tm':Go.Ab.T V) (z':H) (T1':Int) (S:V) (ss:List St),s=⟨tm',z',[]⟩∧T1'≤21+3*i∧Qs h p x y bs cs u n t T1' T2 P S ps ss z'∧ss.length=i∧(∀s∈ss,s.r<n∧s.lo≤s.hi∧s.hi<t)∧(∀b,blkOf S b→¬blkOf P b)∧
   (Opd.t 5).ev tm'=.ptr p 0∧(Opd.t 7).ev tm'=.ptr (p+1) 0∧(Opd.t 8).ev tm'=.ptr (p+2) 0∧(Opd.t 9).ev tm'=.ptr (p+3) 0∧(Opd.t 58).ev tm'=.int .i64 (K:Int)∧(Opd.t 59).ev tm'=.int .i64 (i:Int)) ?_ ?_ (i:=0) (Nat.zero_le _)
  ⟨_,_,_,.nils,[],rfl,by omega,a0,rfl,(fun s hs=>by simp at hs),(fun b hb=>by obtain⟨_,_,_,e⟩:=hb;cases e),(by simp[ev_c,ev_put,t5]<;>rfl),(by simp[ev_c,ev_put,t7]<;>rfl),(by simp[ev_c,ev_put,t8]<;>rfl),(by simp[ev_c,ev_put,t9]<;>rfl),(by simp[ev_c,ev_put]<;>rfl),(by simp only[ev_put];rfl)⟩
 ·clear t5 t7 t8 t9
  rintro i s hi ⟨tm,z1,T,S,ss,rfl,hT1,a1,lss,kss,hSP,t5,t7,t8,t9,t58,t59⟩
  have hi':(i:Int)<(K:Int):=by omega
  have ww1:wr .i64 ((t:Int)-1)=(t:Int)-1:=wr_in (by omega) (by omega)
  have ww2:wr .i64 ((n:Int)-1)=(n:Int)-1:=wr_in (by omega) (by omega)
  simp -implicitDefEqProofs(maxSteps:=999999)(disch:=first|with_reducible rfl|omega|(simp only[nA,nS,nD]<;>omega)|fail)only[go_sem,t5,t7,t8,t9,t58,t59,hi',cells_of a1.g9,ww1]
  refine a1.q.upto (by omega) (by omega) _ fun lo z2 l0 l1 q2 k2 e2=>?_
  have a2:=a1.turn q2 k2
  simp -implicitDefEqProofs(maxSteps:=999999)(disch:=first|with_reducible rfl|omega|(simp only[nA,nS,nD]<;>omega)|fail)only[go_sem,t5,t7,t8,t9,t58,t59,cells_of a2.g9,ww2]
  refine a2.q.upto (by omega) (by omega) _ fun r z3 r0 r1 q3 k3 e3=>?_
  have a3:=a2.turn q3 k3
  simp -implicitDefEqProofs(maxSteps:=999999)(disch:=first|with_reducible rfl|omega|(simp only[nA,nS,nD]<;>omega)|fail)only[go_sem,t5,t7,t8,t9,t58,t59,cells_of a2.g9,cells_of a3.g9,ww1,ww2]
  refine a3.q.frm (by omega) (by omega) (by omega) _ fun hi2 z4 h0 h1 q4 k4 e4=>?_
  have a4:=a3.turn q4 k4
  obtain⟨lo,rfl⟩:=Int.eq_ofNat_of_zero_le l0
  obtain⟨r,rfl⟩:=Int.eq_ofNat_of_zero_le r0
  obtain⟨hh,rfl⟩:=Int.eq_ofNat_of_zero_le (show 0≤hi2 by omega)
  simp -implicitDefEqProofs(maxSteps:=999999)(disch:=first|with_reducible rfl|omega|(simp only[nA,nS,nD]<;>omega)|fail)only[go_sem,t5,t7,t8,t9,t58,t59,cells_of a2.g9,cells_of a3.g9,cells_of a4.g9,ww1,ww2]
  have sC:=(H.Sub.refl a4.s.wf).add (.cells .rw [.int .i64 (r:Int),.int .i64 (lo:Int),.int .i64 (hh:Int),.bool true])
  have ay:SlAt (z4.add (.cells .rw [.int .i64 (r:Int),.int .i64 (lo:Int),.int .i64 (hh:Int),.bool true])) (.sl z4.next 0 1 (.fix 1)) 4 [encSt ⟨r,lo,hh⟩]:=SlAt.new _ rfl rfl rfl (by simp[encSt]) (by simp)
  have a5:=a4.mono sC
  generalize z4.add _=z5 at sC ay a5⊢
  refine OwnSl.app1 a5.os hw (r:=encSt ⟨r,lo,hh⟩) rfl (by omega) ay rfl (by rw[List.length_map];omega) (by rw[List.length_map];omega) fun z6 o6 k6 n6=>?_
  rw[List.length_map] at o6⊢
  have s6:=o6.1
  have g96:=k6.2 _ _ a5.g9 (a5.os.ne a5.g9)
  have g56:=k6.2 _ _ a5.g5 (a5.os.ne a5.g5)
  have q6:=a5.q.keep k6 (a5.q.ne a5.os) s6
  have r6:=a5.r.keep k6 (a5.r.ne a5.os) s6
  have pb6:=a5.pb.keep4 k6 s6 fun b hb=>⟨hSP b hb,_,(a5.os.blk hb).2.2⟩
  have hSP':∀b,blkOf (.sl z5.next 0 (ss.length+1) (.slk 0 0)) b→¬blkOf P b:=fun b hb hp'=>by
   obtain⟨_,_,_,e⟩:=hb
   cases e
   have:=(a5.pb.z.blk hp').2.1;omega
  obtain⟨Y,hY⟩:∃Y,V.sl z5.next 0 (ss.length+1) (.slk 0 0)=Y:=⟨_,rfl⟩
  have y1:Y.one=true:=by rw[←hY];rfl
  have yc:Y.cells=[Y]:=by rw[←hY];rfl
  rw[hY] at o6 hSP'
  rw[hY]
  simp -implicitDefEqProofs(maxSteps:=999999)(disch:=first|with_reducible rfl|omega|(simp only[nA,nS,nD]<;>omega)|fail)only[go_sem,t5,t7,t8,t9,t58,t59,cells_of a2.g9,cells_of a3.g9,cells_of a4.g9,cells_of a5.g9,g96,y1,yc,wr_succ]
  have ks':∀s∈ss++[⟨r,lo,hh⟩],s.r<n∧s.lo≤s.hi∧s.hi<t:=fun s hs=>by
   rcases List.mem_append.1 hs with hs|hs
   ·exact kss s hs
   ·rw[List.mem_singleton] at hs;subst hs;simp only;omega
  exact⟨_,_,T+1+1+1,Y,ss++[⟨r,lo,hh⟩],rfl,by omega,Qs.store a5.hp q6 r6 g56 g96 pb6 (by rw[List.map_append];exact o6),by rw[List.length_append,lss];rfl,ks',hSP',(by simp[ev_c,ev_put,t5]<;>rfl),(by simp[ev_c,ev_put,t7]<;>rfl),(by simp[ev_c,ev_put,t8]<;>rfl),(by simp[ev_c,ev_put,t9]<;>rfl),(by simp[ev_c,ev_put,t58]<;>rfl),(by simp[ev_c,ev_put]<;>rfl)⟩
 ·clear t5 t7 t8 t9
  rintro s ⟨tm,z1,T,S,ss,rfl,hT1,a1,lss,kss,hSP,t5,t7,t8,t9,t58,t59⟩
  simp -implicitDefEqProofs(maxSteps:=999999)(disch:=first|with_reducible rfl|omega|(simp only[nA,nS,nD]<;>omega)|fail)only[go_sem,t58,t59,Int.lt_irrefl]
  exact⟨_,_,T,S,ss,rfl,by omega,a1,by omega,kss,(by simp[ev_c,ev_put,t5]<;>rfl),(by simp[ev_c,ev_put,t7]<;>rfl),(by simp[ev_c,ev_put,t8]<;>rfl),(by simp[ev_c,ev_put,t9]<;>rfl)⟩
end Go.Ab.Tryz
namespace Go.Ab.Tryz
theorem sum_bd2:∀{l:List Int},(∀d∈l,0≤d∧d≤200)→0≤l.sum∧l.sum≤200*l.length
 |[],_=>by simp
 |a::l,h=>by
  have h1:=h a (by simp)
  have ih:=sum_bd2 (l:=l) fun d hd=>h d (by simp[hd])
  simp only[List.sum_cons,List.length_cons];omega
set_option maxHeartbeats 8000000 in
theorem loop3_ev {h z:H}{p c9 c15 c16 n t:Nat}{y P S:V}{cs:List Int}{T2:Int}(a:Sq h p y cs T2 z)(hT:T2≤10)(n4:1≤n∧n≤4)(g9:z.get c9=some (.cells .rw (lmV n t P S)))(g15:z.get c15=some (.cells .rw [.int .i64 0]))(g16:z.get c16=some (.cells .rw [.nils]))
  (l15:h.next≤c15) (l16:h.next≤c16) (n1:c15≠c16) (n2:c15≠p) (n3:c16≠p)
  {tm:Go.Ab.T V} {c5 c12 c14:Nat} (t5:(Opd.t 5).ev tm=.ptr c5 0) (t8:(Opd.t 8).ev tm=.ptr p 0) (t9:(Opd.t 9).ev tm=.ptr c9 0) (t12:(Opd.t 12).ev tm=.ptr c12 0) (t14:(Opd.t 14).ev tm=.ptr c14 0) (t15:(Opd.t 15).ev tm=.ptr c15 0) (t16:(Opd.t 16).ev tm=.ptr c16 0):
  Go.Ab.W fnG fastA 295 3 none (navF [true,true,true,true,true,true,true,true,true,true,false] c3.body) ⟨tm,z,[]⟩ fun x1 s1=>x1=.nrm∧∃(tm':Go.Ab.T V) (z':H) (D:V) (dry:List Int),s1=⟨tm',z',[]⟩∧h.Sub z'∧Keeps (fun c=>c=p∨c=c15∨c=c16) z z'∧z'.get c15=some (.cells .rw [.int .i64 dry.sum])∧z'.get c16=some (.cells .rw [D])∧SlAt z' D 1 (dry.map encI)∧dry.length=n∧(∀d∈dry,0≤d∧d≤200)∧
   (Opd.t 5).ev tm'=.ptr c5 0∧(Opd.t 9).ev tm'=.ptr c9 0∧(Opd.t 12).ev tm'=.ptr c12 0∧(Opd.t 14).ev tm'=.ptr c14 0∧(Opd.t 15).ev tm'=.ptr c15 0∧(Opd.t 16).ev tm'=.ptr c16 0:=by
 simp only[navF,c3]
 have hw:=a.w0
 simp -implicitDefEqProofs(maxSteps:=999999)(disch:=first|with_reducible rfl|omega|(simp only[nA,nS,nD]<;>omega)|fail)only[go_sem,t9,cells_of g9]
 refine W_count n (fun i s=>∃(tm':Go.Ab.T V) (z':H) (T:Int) (D:V) (dry:List Int),s=⟨tm',z',[]⟩∧T≤T2+i∧Sq h p y cs T z'∧Keeps (fun c=>c=p∨c=c15∨c=c16) z z'∧z'.get c15=some (.cells .rw [.int .i64 dry.sum])∧z'.get c16=some (.cells .rw [D])∧OwnSl h z' D 1 (dry.map encI)∧(∀b,blkOf D b→z.next≤b)∧dry.length=i∧(∀d∈dry,0≤d∧d≤200)∧
   (Opd.t 5).ev tm'=.ptr c5 0∧(Opd.t 8).ev tm'=.ptr p 0∧(Opd.t 9).ev tm'=.ptr c9 0∧(Opd.t 12).ev tm'=.ptr c12 0∧(Opd.t 14).ev tm'=.ptr c14 0∧(Opd.t 15).ev tm'=.ptr c15 0∧(Opd.t 16).ev tm'=.ptr c16 0∧(Opd.t 119).ev tm'=.int .i64 (n:Int)∧(Opd.t 120).ev tm'=.int .i64 (i:Int)) ?_ ?_ (i:=0) (Nat.zero_le _)
  ⟨_,_,T2,.nils,[],rfl,by omega,a,Keeps.refl _ _,g15,g16,OwnSl.nil a.s 1,(fun b hb=>by obtain⟨_,_,_,e⟩:=hb;cases e),rfl,(fun d hd=>by simp at hd),(by simp[ev_c,ev_put,t5]<;>rfl),(by simp[ev_c,ev_put,t8]<;>rfl),(by simp[ev_c,ev_put,t9]<;>rfl),(by simp[ev_c,ev_put,t12]<;>rfl),(by simp[ev_c,ev_put,t14]<;>rfl),(by simp[ev_c,ev_put,t15]<;>rfl),(by simp[ev_c,ev_put,t16]<;>rfl),(by simp[ev_c,ev_put]<;>rfl),(by simp only[ev_put];rfl)⟩
 ·clear t5 t8 t9 t12 t14 t15 t16
  rintro i s hi ⟨tm,z1,T,D,dry,rfl,hT1,a1,k1,g151,g161,oD,lD,ld,hd,t5,t8,t9,t12,t14,t15,t16,t119,t120⟩
  have hi':(i:Int)<(n:Int):=by omega
  simp -implicitDefEqProofs(maxSteps:=999999)(disch:=first|with_reducible rfl|omega|(simp only[nA,nS,nD]<;>omega)|fail)only[go_sem,t5,t8,t9,t12,t14,t15,t16,t119,t120,hi',cells_of g161]
  refine a1.upto (by omega) (by omega) _ fun d z2 d0 d1 a2 k2 e2=>?_
  have g152:=k2.2 _ _ g151 n2
  have g162:=k2.2 _ _ g161 n3
  have oD2:=oD.keep k2 a2.s fun b hb e=>by subst e;exact a1.ne oD hb
  have sC:=(H.Sub.refl a2.s.wf).add (.cells .rw [.int .i64 d])
  have ay:SlAt (z2.add (.cells .rw [.int .i64 d])) (.sl z2.next 0 1 (.fix 1)) 1 [encI d]:=SlAt.new _ rfl rfl rfl (by simp[encI]) (by simp)
  simp -implicitDefEqProofs(maxSteps:=999999)(disch:=first|with_reducible rfl|omega|(simp only[nA,nS,nD]<;>omega)|fail)only[go_sem,t5,t8,t9,t12,t14,t15,t16,t119,t120,cells_of g161,cells_of g162]
  have g153:=sC.get g152
  have g163:=sC.get g162
  have oD3:=oD2.mono sC
  have a3:=a2.mono sC
  have l3:z.next≤z2.next:=by have:=k1.1;have:=k2.1;omega
  have e3:=H.next_add z2 (.cells .rw [.int .i64 d])
  have k3:Keeps (fun c=>c=p∨c=c15∨c=c16) z (z2.add (.cells .rw [.int .i64 d])):=((k1.trans k2).trans (Keeps.of sC fun c=>c=p)).mono fun c hc=>by omega
  generalize z2.add _=z3 at sC ay g153 g163 oD3 a3 e3 k3⊢
  refine OwnSl.app1 oD3 hw (r:=encI d) rfl (by omega) ay rfl (by rw[List.length_map];omega) (by rw[List.length_map];omega) fun z4 o4 k4 n4'=>?_
  rw[List.length_map] at o4⊢
  have g154:=k4.2 _ _ g153 (oD3.ne g153)
  have g164:=k4.2 _ _ g163 (oD3.ne g163)
  have a4:=a3.keep k4 (a3.ne oD3) o4.1
  have kF:Keeps (fun c=>c=p∨c=c15∨c=c16) z z4:=by
   have hwz:=a.s.wf
   refine Keeps.fresh hwz ((k3.trans k4).mono fun c hc=>?_)
   rcases hc with hc|hc
   ·exact .inl hc
   ·exact .inr (lD c hc)
  have lY:∀b,blkOf (.sl z3.next 0 (dry.length+1) (.slk 0 0)) b→z.next≤b:=fun b hb=>by
   obtain⟨_,_,_,e⟩:=hb;cases e;omega
  obtain⟨Y,hY⟩:∃Y,V.sl z3.next 0 (dry.length+1) (.slk 0 0)=Y:=⟨_,rfl⟩
  have y1:Y.one=true:=by rw[←hY];rfl
  have yc:Y.cells=[Y]:=by rw[←hY];rfl
  rw[hY] at o4 lY
  rw[hY]
  have o4':OwnSl h z4 Y 1 ((dry++[d]).map encI):=by rw[List.map_append];exact o4
  simp -implicitDefEqProofs(maxSteps:=999999)(disch:=first|with_reducible rfl|omega|(simp only[nA,nS,nD]<;>omega)|fail)only[go_sem,t5,t8,t9,t12,t14,t15,t16,t119,t120,cells_of g161,cells_of g163,g164,y1,yc]
  have kS:=Keeps.set z4 c16 (.cells .rw [Y])
  have g165:(z4.set c16 (.cells .rw [Y])).get c16=some (.cells .rw [Y]):=get_set_same rfl
  have g155:=kS.2 _ _ g154 n1
  have lt4:=a4.s.wf _ _ g164
  have s5:h.Sub (z4.set c16 (.cells .rw [Y])):=a4.s.set l16 lt4 hw _
  have a5:=a4.keep kS (by omega) s5
  have o5:=o4'.keep kS s5 fun b hb e=>by subst e;exact o4'.ne g164 hb
  have k5:=kF.trans kS
  generalize z4.set c16 _=z5 at kS g165 g155 s5 a5 o5 k5⊢
  have aY:=o5.sl (by rw[List.length_map,List.length_append];simp;omega)
  have lenY:=aY.lenE
  obtain⟨b,o,c,cs',eY,hc,hq,hg,hn',hn0⟩:=aY.at (k:=i) (by rw[List.length_append,ld];simp)
  have ei:(dry++[d])[i]'(by rw[List.length_append,ld];simp)=d:=by simp[←ld]
  rw[ei] at hn0
  have hl:(((dry++[d]).length:Nat):Int)=(i:Int)+1:=by rw[List.length_append,ld];rfl
  rw[hl] at lenY
  have ww:wr .i64 ((i:Int)+1-1)=(i:Int):=by rw[wr_in (by omega) (by omega)];omega
  have sb:=sum_bd2 hd
  have ws:wr .i64 (dry.sum+d)=(dry++[d]).sum:=by rw[wr_in (by omega) (by omega),List.sum_append];simp
  have hn1:=hn0 (by omega)
  simp only[encI,List.getElem?_cons_zero] at hn1
  simp -implicitDefEqProofs(maxSteps:=999999)(disch:=first|with_reducible rfl|omega|(simp only[nA,nS,nD]<;>omega)|fail)only[go_sem,t5,t8,t9,t12,t14,t15,t16,t119,t120,cells_of g165,cells_of g155,cells_of g154,lenY,ww,hq (nat_cst i),hc,hn1,ws,g155,wr_succ]
  have kT:=Keeps.set z5 c15 (.cells .rw [.int .i64 (dry++[d]).sum])
  have s6:h.Sub (z5.set c15 (.cells .rw [.int .i64 (dry++[d]).sum])):=s5.set l15 (s5.wf _ _ g155) hw _
  exact⟨_,_,T+1,Y,dry++[d],rfl,by omega,a5.keep kT (by omega) s6,(k5.trans kT).mono (fun c hc=>by omega),get_set_same rfl,kT.2 _ _ g165 (by omega),o5.keep kT s6 fun b hb e=>by subst e;exact o5.ne g155 hb,lY,by rw[List.length_append,ld];rfl,fun x hx=>by
   rcases List.mem_append.1 hx with hx|hx
   ·exact hd x hx
   ·rw[List.mem_singleton] at hx;omega,(by simp[ev_c,ev_put,t5]<;>rfl),(by simp[ev_c,ev_put,t8]<;>rfl),(by simp[ev_c,ev_put,t9]<;>rfl),(by simp[ev_c,ev_put,t12]<;>rfl),(by simp[ev_c,ev_put,t14]<;>rfl),(by simp[ev_c,ev_put,t15]<;>rfl),(by simp[ev_c,ev_put,t16]<;>rfl),(by simp[ev_c,ev_put,t119]<;>rfl),(by simp[ev_c,ev_put]<;>rfl)⟩
 ·clear t5 t8 t9 t12 t14 t15 t16
  rintro s ⟨tm,z1,T,D,dry,rfl,hT1,a1,k1,g151,g161,oD,lD,ld,hd,t5,t8,t9,t12,t14,t15,t16,t119,t120⟩
  simp -implicitDefEqProofs(maxSteps:=999999)(disch:=first|with_reducible rfl|omega|(simp only[nA,nS,nD]<;>omega)|fail)only[go_sem,t119,t120,Int.lt_irrefl]
  exact⟨_,_,D,dry,rfl,a1.s,k1,g151,g161,oD.sl (by rw[List.length_map];omega),ld,hd,(by simp[ev_c,ev_put,t5]<;>rfl),(by simp[ev_c,ev_put,t9]<;>rfl),(by simp[ev_c,ev_put,t12]<;>rfl),(by simp[ev_c,ev_put,t14]<;>rfl),(by simp[ev_c,ev_put,t15]<;>rfl),(by simp[ev_c,ev_put,t16]<;>rfl)⟩
end Go.Ab.Tryz
namespace Go.Ab.Tryz
open Go.Ab.Silk
theorem LmAt.after {h z z':H}{lo n t:Nat}{P S:V}{ps:List (V × Bool)}{ss:List St}{K:Nat→Prop}(pb:Pb h lo z P ps)(os:OwnC h z S 4 (ss.map encSt))(hl:ps.length≤100)(hn:ps.length=n)(hs:ss.length≤100)(k:Keeps K z z')(hk:∀b,K b→(b≤lo∧¬blkOf P b∧¬blkOf S b)∨z.next≤b):LmAt z' P S n t ps ss:=
 ⟨SlAt_keep (pb.z.sl (by rw[List.length_map];omega)) k fun b hb hs=>(hk b hs).elim (fun h=>h.2.1 hb) fun h=>by have:=(pb.z.blk hb).2.1;omega,
  SlAt_keep (os.sl (by rw[List.length_map];omega)) k fun b hb hs=>(hk b hs).elim (fun h=>h.2.2 hb) fun h=>by have:=(os.blk hb).2.1;omega,hn,
  fun i hi=>SlAt_keep (pb.c i hi).s k fun b hb hs=>by
   obtain⟨l,kk,cs,g,_⟩:=(pb.c i hi).b b hb
   have:=H.lt_next pb.z.1.wf g
   rcases hk b hs with h|h<;>omega⟩
set_option maxRecDepth 8000 in
set_option maxHeartbeats 8000000 in
theorem TopSpoilt_ev {h:H}{x y:V}{bs cs:List Int}{wh:Int}(hw:h.wf)(hx:SlAt h x 1 (bs.map encU8))(hy:SlAt h y 1 (cs.map encU8))(hwh:0≤wh∧wh≤255):
  Ev fnG fastA (.fn 3 [] []) [x,y,.int .u8 wh] h (fun u _=>u=.bool true):=by
 refine Ev_body (fd:=c3) rfl rfl rfl ?_
 obtain⟨R1,hR1⟩:∃R,navF [true,true,true,false] c3.body=R:=⟨_,rfl⟩
 obtain⟨R2,hR2⟩:∃R,navF [true,true,true,true,false] c3.body=R:=⟨_,rfl⟩
 obtain⟨R3,hR3⟩:∃R,navF [true,true,true,true,true,true,true,true,true,true,false] c3.body=R:=⟨_,rfl⟩
 obtain⟨R4,hR4⟩:∃R,navF [true,true,true,true,true,true,true,true,true,true,true] c3.body=R:=⟨_,rfl⟩
 have r1:= @loop1_ev
 have r2:= @loop2_ev
 have r3:= @loop3_ev
 have r4:= @tailS_ev
 rw[hR1] at r1
 rw[hR2] at r2
 rw[hR3] at r3
 rw[hR4] at r4
 simp only[navF,c3] at hR1 hR2 hR3 hR4
 simp only[c3]
 rw[hR1,hR2,hR3,hR4]
 clear hR1 hR2 hR3 hR4
 have s1:=(H.Sub.refl hw).add (.cells .rw [.int .u8 wh])
 have g51:=get_add_new (h:=h) (b:=h.next) (x:=.cells .rw [.int .u8 wh]) rfl
 have e1:=H.next_add h (.cells .rw [.int .u8 wh])
 simp -implicitDefEqProofs(maxSteps:=999999)(disch:=first|with_reducible rfl|omega|(simp only[nA,nS,nD]<;>omega)|fail)only[go_sem]
 generalize h.add _=h1 at s1 g51 e1⊢
 refine Wound_ev s1.wf (hx.mono s1) _ fun h2 s2 p2 n2=>?_
 simp -implicitDefEqProofs(maxSteps:=999999)(disch:=first|with_reducible rfl|omega|(simp only[nA,nS,nD]<;>omega)|fail)only[go_sem]
 refine Wound_ev s2.wf (hy.mono (s1.trans s2)) _ fun h3 s3 p3 n3=>?_
 obtain⟨p,hp⟩:∃p,p=h.next:=⟨_,rfl⟩
 rw[←hp] at g51 e1
 rw[e1] at p2 n2
 rw[n2] at p3 n3
 have s03:=(s1.trans s2).trans s3
 have q3:Sq h (p+1) x bs 0 h3:=⟨hw,hx,by omega,s03,p2.mono s3,by omega⟩
 have t3:Sq h (p+2) y cs 0 h3:=⟨hw,hy,by omega,s03,p3,by omega⟩
 have g53:=s3.get (s2.get g51)
 simp -implicitDefEqProofs(maxSteps:=999999)(disch:=first|with_reducible rfl|omega|(simp only[nA,nS,nD]<;>omega)|fail)only[go_sem,e1,n2,←hp,Nat.add_assoc,Nat.reduceAdd]
 refine q3.frm (by omega) (by omega) (by omega) _ fun n h4 nl nh q4 k4 e4=>?_
 have t4:=t3.keep k4 (by omega) q4.s
 have g54:=k4.2 _ _ g53 (by omega)
 simp -implicitDefEqProofs(maxSteps:=999999)(disch:=first|with_reducible rfl|omega|(simp only[nA,nS,nD]<;>omega)|fail)only[go_sem]
 refine q4.frm (by omega) (by omega) (by omega) _ fun t h5 tl th q5 k5 e5=>?_
 have t5:=t4.keep k5 (by omega) q5.s
 have g55:=k5.2 _ _ g54 (by omega)
 obtain⟨n,rfl⟩:=Int.eq_ofNat_of_zero_le (show 0≤n by omega)
 obtain⟨t,rfl⟩:=Int.eq_ofNat_of_zero_le (show 0≤t by omega)
 have e6:h5.next=p+3:=by omega
 have s6:=(H.Sub.refl q5.s.wf).add (.cells .rw (lmV n t .nils .nils))
 have g96:(h5.add (.cells .rw (lmV n t .nils .nils))).get (p+3)=some (.cells .rw (lmV n t .nils .nils)):=get_add_new e6.symm
 have a6:Qs h p x y bs cs wh n t (0+1+1) 0 .nils .nils [] [] (h5.add (.cells .rw (lmV n t .nils .nils))):=⟨hp,q5.mono s6,t5.mono s6,s6.get g55,g96,⟨OwnSl.nil (q5.s.trans s6) 4,fun i hi=>by simp at hi⟩,OwnSl.nil (q5.s.trans s6) 4⟩
 have e7:(h5.add (.cells .rw (lmV n t .nils .nils))).next=p+4:=by rw[H.next_add];omega
 simp -implicitDefEqProofs(maxSteps:=999999)(disch:=first|with_reducible rfl|omega|(simp only[nA,nS,nD]<;>omega)|fail)only[go_sem,e6]
 generalize h5.add _=h6 at s6 g96 a6 e7⊢
 clear g55 t5
 refine(r1 a6 (by omega) (by omega) (by simp[ev_c,ev_put]<;>rfl) (by simp[ev_c,ev_put]<;>rfl) (by simp[ev_c,ev_put]<;>rfl) (by simp[ev_c,ev_put]<;>rfl)).mono fun x1 s hx1=>?_
 obtain⟨rfl,tm,z1,T1,P,ps,rfl,hT1,a7,lps,t5,t7,t8,t9⟩:=hx1
 simp -implicitDefEqProofs(maxSteps:=999999)(disch:=first|with_reducible rfl|omega|(simp only[nA,nS,nD]<;>omega)|fail)only[go_sem]
 refine(r2 a7 (by omega) (by omega) (by omega) t5 t7 t8 t9).mono fun x1 s hx1=>?_
 clear t5 t7 t8 t9
 obtain⟨rfl,tm,z2,T2,S,ss,rfl,hT2,a8,lss,kss,t5,t7,t8,t9⟩:=hx1
 obtain⟨w,rfl⟩:=Int.eq_ofNat_of_zero_le hwh.1
 have ok8:LmOk n t ss:=⟨by omega,by omega,by omega,kss⟩
 have hne:(n:Int)≠0:=by omega
 have er:(w:Int).tmod (n:Int)=((w%n:Nat):Int):=rfl
 have ww:wr .i64 ((t:Int)-1)=((t-1:Nat):Int):=by rw[wr_in (by omega) (by omega)];omega
 have wu:wr .i64 (w:Int)=(w:Int):=wr_in (by omega) (by omega)
 have lm8:=a8.par (by omega) lps (by omega)
 have P1:=lm8.p.one
 have S1:=lm8.s.one
 have hmod:w%n<n:=Nat.mod_lt _ (by omega)
 simp -implicitDefEqProofs(maxSteps:=999999)(disch:=first|with_reducible rfl|omega|(simp only[nA,nS,nD]<;>omega)|fail)only[go_sem,t5,t7,t8,t9,cells_of a8.g9,cells_of a8.g5,q_ar_rem .i64 hne,er,ww,wu,P1,S1]
 have lpz:=a8.r.lt
 have l9z:=a8.s.wf _ _ a8.g9
 refine See_ev (s:=⟨w%n,0,t-1⟩) a8.s.wf lm8 ok8 (by omega) ⟨hmod,Nat.zero_le _,by show t-1<t;omega⟩ _ fun lo P2 S2 ps2 z3 s23 llo pb3 lp3 oS3=>?_
 have a9:=a8.mono s23
 have aS3:=oS3.sl (by rw[List.length_map,List.length_append];simp;omega)
 have P21:=(pb3.z.sl (by rw[List.length_map];omega)).one
 have S21:=aS3.one
 have lenS:=lm8.s.lenE
 have lenS2:=aS3.lenE
 have hl2:(((ss++[(⟨w%n,0,t-1⟩:St)]).length:Nat):Int)=((ss.length+1:Nat):Int):=by rw[List.length_append];rfl
 rw[hl2] at lenS2
 have wl:wr .i64 ((ss.length:Int)+1)=((ss.length+1:Nat):Int):=wr_succ (by omega)
 have s34:=(H.Sub.refl a9.s.wf).add (.cells .rw (lmV n t P2 S2))
 have g124:=get_add_new (h:=z3) (b:=z3.next) (x:=.cells .rw (lmV n t P2 S2)) rfl
 have e34:=H.next_add z3 (.cells .rw (lmV n t P2 S2))
 have a10:=a9.mono s34
 have pb4:=pb3.mono s34
 have oS4:=oS3.mono s34
 simp -implicitDefEqProofs(maxSteps:=999999)(disch:=first|with_reducible rfl|omega|(simp only[nA,nS,nD]<;>omega)|fail)only[go_sem,t5,t7,t8,t9,cells_of a8.g9,cells_of a9.g9,cells_of a8.g5,cells_of a9.g5,P1,S1,P21,S21,q_ar_rem .i64 hne,er,ww,wu,lenS,lenS2,wl,ne_eq,not_true_eq_false,decide_false,cells_of a10.g9,cells_of g124]
 have hP2:∀b,blkOf P2 b→z2.next≤b:=fun b hb=>(pb3.z.blk hb).1
 have hS2:∀b,blkOf S2 b→z2.next≤b:=fun b hb=>(oS3.blk hb).1
 have pb4':Pb h lo (z3.add (.cells .rw (lmV n t P2 S2))) P2 ps2:=⟨pb4.z.base' a8.s,pb4.c⟩
 have oS4':=oS4.base a8.s
 have l23:=s23.next
 simp only[lmV] at s34 g124 e34 a10 pb4' oS4'⊢
 generalize z3.add _=z4 at s34 g124 e34 a10 pb4' oS4'⊢
 clear pb4 oS4
 refine a10.r.upto (by omega) (by omega) _ fun e z5 e0 e1' r5 k5 e5'=>?_
 have a11:=a10.turn2 r5 k5
 have pb5:=pb4'.keep k5 r5.s fun b hb=>⟨by omega,fun hb'=>by have:=hP2 b hb';omega⟩
 have oS5:=oS4'.keep k5 r5.s fun b hb hs=>by have:=hS2 b hb;omega
 have g125:=k5.2 _ _ g124 (by omega)
 have c12lt:=H.lt_next r5.s.wf g125
 obtain⟨c12,hc12⟩:∃c,z3.next=c:=⟨_,rfl⟩
 rw[hc12] at g125 c12lt
 simp -implicitDefEqProofs(maxSteps:=999999)(disch:=first|with_reducible rfl|omega|(simp only[nA,nS,nD]<;>omega)|fail)only[go_sem,t5,t7,t8,t9,hc12]
 obtain⟨m,hm⟩:∃m,z5.next=m:=⟨_,rfl⟩
 have w5:=r5.s.wf
 have eA1:(z5.add (.cells .rw [.int .i64 (-1),.int .i64 0])).next=m+1:=by rw[H.next_add,hm]
 have eA2:((z5.add (.cells .rw [.int .i64 (-1),.int .i64 0])).add (.cells .rw [.int .i64 e,.sl m 0 1 (.fix 1),.nils])).next=m+2:=by rw[H.next_add,eA1]
 have eA3:(((z5.add (.cells .rw [.int .i64 (-1),.int .i64 0])).add (.cells .rw [.int .i64 e,.sl m 0 1 (.fix 1),.nils])).add (.cells .rw [.int .i64 0])).next=m+3:=by rw[H.next_add,eA2]
 have sB:=((((H.Sub.refl w5).add (.cells .rw [.int .i64 (-1),.int .i64 0])).add (.cells .rw [.int .i64 e,.sl m 0 1 (.fix 1),.nils])).add (.cells .rw [.int .i64 0])).add (.cells .rw [.nils])
 have gL:((((z5.add (.cells .rw [.int .i64 (-1),.int .i64 0])).add (.cells .rw [.int .i64 e,.sl m 0 1 (.fix 1),.nils])).add (.cells .rw [.int .i64 0])).add (.cells .rw [.nils])).get m=some (.cells .rw [.int .i64 (-1),.int .i64 0]):=by
  rw[get_add_old (by omega),get_add_old (by omega),get_add_old (by omega),get_add_new hm.symm]
 have g14:((((z5.add (.cells .rw [.int .i64 (-1),.int .i64 0])).add (.cells .rw [.int .i64 e,.sl m 0 1 (.fix 1),.nils])).add (.cells .rw [.int .i64 0])).add (.cells .rw [.nils])).get (m+1)=some (.cells .rw [.int .i64 e,.sl m 0 1 (.fix 1),.nils]):=by
  rw[get_add_old (by omega),get_add_old (by omega),get_add_new eA1.symm]
 have g15:((((z5.add (.cells .rw [.int .i64 (-1),.int .i64 0])).add (.cells .rw [.int .i64 e,.sl m 0 1 (.fix 1),.nils])).add (.cells .rw [.int .i64 0])).add (.cells .rw [.nils])).get (m+2)=some (.cells .rw [.int .i64 0]):=by
  rw[get_add_old (by omega),get_add_new eA2.symm]
 have g16:((((z5.add (.cells .rw [.int .i64 (-1),.int .i64 0])).add (.cells .rw [.int .i64 e,.sl m 0 1 (.fix 1),.nils])).add (.cells .rw [.int .i64 0])).add (.cells .rw [.nils])).get (m+3)=some (.cells .rw [.nils]):=get_add_new eA3.symm
 simp only[hm,Nat.add_assoc,Nat.reduceAdd]
 generalize H.add (H.add (H.add (H.add z5 _) _) _) _=zB at sB gL g14 g15 g16⊢
 have rB:=a11.r.mono sB
 have lp5:=a11.r.lt
 have lh5:=a11.s.next
 refine(r3 rB (by omega) (by omega) (sB.get a11.g9) g15 g16 (by omega) (by omega) (by omega) (by omega) (by omega) (c5:=p) (c12:=c12) (c14:=m+1) (by simp[ev_c,ev_put,t5]<;>rfl) (by simp[ev_c,ev_put,t8]<;>rfl) (by simp[ev_c,ev_put,t9]<;>rfl) (by simp[ev_c,ev_put]<;>rfl) (by simp[ev_c,ev_put]<;>rfl) (by simp[ev_c,ev_put]<;>rfl) (by simp[ev_c,ev_put]<;>rfl)).mono fun x1 s hx1=>?_
 clear t5 t7 t8 t9
 obtain⟨rfl,tm,zC,D,dry,rfl,sC,kC,g15C,g16C,aD,ld,hd,t5,t9,t12,t14,t15,t16⟩:=hx1
 have sm:=sum_bd2 hd
 have k5C:=((Keeps.of sB fun c=>c=p+2).trans kC).mono (T:=fun c=>c=p+2∨c=m+2∨c=m+3) fun c hc=>by omega
 have lm1:LmAt zC P S n t ps ss:=LmAt.after a11.pb a11.os.c (by omega) lps (by omega) k5C fun b hb=>by
  rcases hb with rfl|hb
  ·exact .inl ⟨by omega,a11.r.ne a11.pb.z,a11.r.ne a11.os⟩
  ·exact .inr (by omega)
 have lm2:LmAt zC P2 S2 n t ps2 (ss++[⟨w%n,0,t-1⟩]):=LmAt.after pb5 oS5 (by omega) lp3 (by rw[List.length_append];simp;omega) k5C fun b hb=>by
  rcases hb with rfl|hb
  ·exact .inl ⟨by omega,fun h=>by have:=hP2 _ h;omega,fun h=>by have:=hS2 _ h;omega⟩
  ·exact .inr (by omega)
 have ok2:LmOk n t (ss++[⟨w%n,0,t-1⟩]):=⟨by omega,by omega,by rw[List.length_append];simp;omega,fun s hs=>by
  rcases List.mem_append.1 hs with hs|hs
  ·exact kss s hs
  ·rw[List.mem_singleton] at hs;subst hs;exact⟨hmod,Nat.zero_le _,by show t-1<t;omega⟩⟩
 have gLC:=kC.2 _ _ gL (by omega)
 have aL:SlAt zC (.sl m 0 1 (.fix 1)) 2 ([(⟨-1,0⟩:Lt)].map encL):=⟨by simp[encL],by simp,.inr ⟨m,0,.fix 1,_,rfl,.inr (cells_of gLC),rfl⟩⟩
 have aW:SlAt zC .nils 4 (([]:List Wg).map encW):=⟨by simp,by simp,.inl ⟨rfl,rfl⟩⟩
 simp -implicitDefEqProofs(maxSteps:=999999)(disch:=first|with_reducible rfl|omega|(simp only[nA,nS,nD]<;>omega)|fail)only[go_sem]
 have g9C:=k5C.2 _ _ a11.g9 (by omega)
 have g5C:=k5C.2 _ _ a11.g5 (by omega)
 have g12C:=k5C.2 _ _ g125 (by omega)
 have g14C:=kC.2 _ _ g14 (by omega)
 exact r4 sC.wf (cells_of g5C) (cells_of g9C) (cells_of g12C) (cells_of g14C) (cells_of g15C) (cells_of g16C) lm1 lm2 ok2 (by omega) lss ⟨_,_,rfl,aL,aW⟩ (by omega) aD ld hd (by omega) t5 t9 t12 t14 t15 t16 _ fun _=>rfl
end Go.Ab.Tryz
