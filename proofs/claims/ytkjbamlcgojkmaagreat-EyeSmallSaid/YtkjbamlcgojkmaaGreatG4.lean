/- The reference's steps, layer by layer. Plain. Sees, Apart, Match, Scrap. How far a part of a shade can change: Shades, as the program and as the reference find it. The reference's Shades, Apart and Scrap. EyeMatches. How far a piece is from another: the search by breadth, in a map. Chain. Kin: who can be reached. Plain; lists of lists. Kin. How far, whoever finds it; the reference's table of matches. -/
import Derived.Test.YtkjbamlcgojkmaaGreatG2
set_option linter.unusedSimpArgs false
set_option linter.unusedVariables false
theorem yba {p:Prop}(h:p:=by repeat(first|assumption|exact H.Sub.refl (by assumption)|refine H.Sub.add ?_ _|refine H.Sub.set ?_ (by first|omega|(simp only[H.next_add,H.next_set,H.next_del]<;>omega)) (by first|omega|(simp only[H.next_add,H.next_set,H.next_del]<;>omega)) (by assumption) _)):p:=h
theorem ybb {p:Prop}(h:p:=by simp):p:=h
theorem ybc {p:Prop}(h:p:=by omega):p:=h
theorem ybd {p:Prop}(h:p:=by simp only[List.length_map];omega):p:=h
theorem ybe {p:Prop}(h:p:=by simp<;>rfl):p:=h
theorem ybf {p:Prop}(h:p:=by simp[t3]):p:=h
theorem ybg {p:Prop}(h:p:=by simp[t8]):p:=h
theorem ybh {p:Prop}(h:p:=by simp[c]):p:=h
theorem ybi {p:Prop}(h:p:=by simp[t6]):p:=h
theorem ybj {p:Prop}(h:p:=by simp[t4]):p:=h
theorem ybk {p:Prop}(h:p:=by simp[t5]):p:=h
theorem ybl {p:Prop}(h:p:=by simp only[H.next_set,H.next_add];omega):p:=h
theorem ybm {p:Prop}(h:p:=by simp[t7]):p:=h
theorem ybn {p:Prop}(h:p:=by decide):p:=h
theorem ybo {p:Prop}(h:p:=by simp[t2]):p:=h
theorem ybp {p:Prop}(h:p:=by simp[t13]):p:=h
theorem ybq {p:Prop}(h:p:=by simp[t23]<;>rfl):p:=h
theorem ybr {p:Prop}(h:p:=by simp[t1]<;>rfl):p:=h
theorem ybs {p:Prop}(h:p:=by simp[t4]<;>rfl):p:=h
theorem ybt {p:Prop}(h:p:=by simp[t25]):p:=h
theorem ybu {p:Prop}(h:p:=by simp[t10]):p:=h
theorem ybv {p:Prop}(h:p:=by simp[t6]<;>rfl):p:=h
theorem ybw {p:Prop}(h:p:=by simp[ca]):p:=h
namespace Go.Ab.Tryz
def seesI (t:Tb)(p r:Int)(a b:Sd):Int:=match t.eyes[p.toNat]?,t.lights[r.toNat]? with
 |some e,some l=>Wz e.s l a b
 |_,_=>0
def Yu (t:Tb)(p r:Int)(a b:Sd):Int:=if check t≠0 then check t else if lookB t p r=false then 1 else if a.within 20=false∨b.within 20=false then 3 else 0
def Xm (t:Tb)(p r:Int)(a b:Sd):Int:=if Yu t p r a b=0 then seesI t p r a b else 0
theorem ZP {h:H}{E L P:V}{t:Tb}(hw:h.wf)(ht:ZK h (.agg [E,L,P]) t)(Q:V→H→Prop)(q0:∀h',h.Sub h'→check t≠0→Q (.tup [.nilp,.ii (check t)]) h')(q1:∀h' d,h.Sub h'→check t=0→Good t→Ws h' d t→Q (.tup [.ptr d 0,.ii 0]) h'):
  Ev fnG Zm (.fn 74 [] []) [.agg [E,L,P]] h Q:=
 (opened_ev hw ht).mono fun u h' hu=>by
  obtain⟨s,hu⟩:=hu
  rcases hu with⟨c,rfl⟩|⟨c,d,rfl,_,hd⟩
  ·exact q0 _ s c
  ·exact q1 _ d s c (Z5.1 c) hd
set_option maxHeartbeats 1000000 in
theorem Sees_ev {h:H}{v:V}{t:Tb}(hw:h.wf)(ht:ZK h v t)(p r:Int)(a b:Sd)(Q:V→H→Prop)(q:∀h',h.Sub h'→Q (.tup [.ii (Xm t p r a b),.ii (Yu t p r a b)]) h'):
  Ev fnG Zm (.fn 57 [] []) [v,.agg [.ii p,.ii r],.agg (Zj a),.agg (Zj b)] h Q:=by
 have ht0:=ht
 obtain⟨E,L,P,rfl,aE,aL,aP⟩:=ht
 refine Zd (fd:=c57) rfl rfl rfl ?_
 have s4:h.Sub ((((h.add (.bk [E,L,P])).add (.bk [.ii p,.ii r])).add (.bk [.ii a.x,.ii a.y,.ii a.z])).add (.bk [.ii b.x,.ii b.y,.ii b.z])):=yba
 have q2:((((h.add (.bk [E,L,P])).add (.bk [.ii p,.ii r])).add (.bk [.ii a.x,.ii a.y,.ii a.z])).add (.bk [.ii b.x,.ii b.y,.ii b.z])).cells (h.next+1)=some [.ii p,.ii r]:=by simp(disch:=first|omega|simp only[nZ]<;>omega|fail)only[go_sem]
 have q3:((((h.add (.bk [E,L,P])).add (.bk [.ii p,.ii r])).add (.bk [.ii a.x,.ii a.y,.ii a.z])).add (.bk [.ii b.x,.ii b.y,.ii b.z])).cells (h.next+1+1)=some [.ii a.x,.ii a.y,.ii a.z]:=by simp(disch:=first|omega|simp only[nZ]<;>omega|fail)only[go_sem]
 have q4:((((h.add (.bk [E,L,P])).add (.bk [.ii p,.ii r])).add (.bk [.ii a.x,.ii a.y,.ii a.z])).add (.bk [.ii b.x,.ii b.y,.ii b.z])).cells (h.next+1+1+1)=some [.ii b.x,.ii b.y,.ii b.z]:=by simp(disch:=first|omega|simp only[nZ]<;>omega|fail)only[go_sem]
 simp(disch:=first|omega|simp only[nZ]<;>omega|fail)only[c57,go_sem,Zj]
 generalize((((h.add (.bk [E,L,P])).add (.bk [.ii p,.ii r])).add (.bk [.ii a.x,.ii a.y,.ii a.z])).add (.bk [.ii b.x,.ii b.y,.ii b.z]))=h4 at s4 q2 q3 q4⊢
 refine ZP s4.wf (ht0.mono s4) _ (fun h5 s45 c=>?_) fun h5 d s45 c g hd=>?_
 ·have e1:Yu t p r a b=check t:=by unfold Yu;rw[if_pos c]
  have q':=q _ (s4.trans s45)
  unfold Xm at q'
  rw[e1,if_neg c] at q'
  simp(disch:=first|omega|simp only[nZ]<;>omega|fail)only[go_sem,ne_eq,c,not_false_eq_true]
  exact q'
 have s5:=s4.trans s45
 simp(disch:=first|omega|simp only[nZ]<;>omega|fail)only[go_sem,ne_eq,not_true_eq_false,s45.cells q2]
 refine look_ev s5.wf hd g p r _ fun h6 s56=>?_
 have s46:=s45.trans s56
 have s6:=s5.trans s56
 cases cl:lookB t p r
 ·have e1:Yu t p r a b=1:=by unfold Yu;rw[if_neg ybh,if_pos cl]
  have q':=q _ s6
  unfold Xm at q'
  rw[e1,if_neg ybn] at q'
  simp(disch:=first|omega|simp only[nZ]<;>omega|fail)only[go_sem,Bool.not_false]
  exact q'
 have hr:=fun(s:Sd)=>XY (h:=h6) s6.wf s
 simp only[Zj] at hr
 simp(disch:=first|omega|simp only[nZ]<;>omega|fail)only[go_sem,Bool.not_true,s46.cells q3]
 refine hr a _ fun h7 s67=>?_
 have s47:=s46.trans s67
 cases ca:a.within 20
 ·have e1:Yu t p r a b=3:=by unfold Yu;rw[if_neg ybh,if_neg (by simp[cl]),if_pos (.inl ca)]
  have q':=q _ (s4.trans s47)
  unfold Xm at q'
  rw[e1,if_neg ybn] at q'
  simp(disch:=first|omega|simp only[nZ]<;>omega|fail)only[go_sem,Bool.not_false]
  exact q'
 have hr:=XY (h:=h7) s47.wf b
 simp only[Zj] at hr
 simp(disch:=first|omega|simp only[nZ]<;>omega|fail)only[go_sem,Bool.not_true,s47.cells q4]
 refine hr _ fun h8 s78=>?_
 have s48:=s47.trans s78
 cases cb:b.within 20
 ·have e1:Yu t p r a b=3:=by unfold Yu;rw[if_neg ybh,if_neg (by simp[cl]),if_pos (.inr cb)]
  have q':=q _ (s4.trans s48)
  unfold Xm at q'
  rw[e1,if_neg ybn] at q'
  simp(disch:=first|omega|simp only[nZ]<;>omega|fail)only[go_sem,Bool.not_false]
  exact q'
 have e1:Yu t p r a b=0:=by unfold Yu;rw[if_neg ybh,if_neg (by simp[cl]),if_neg (by simp[ca,cb])]
 simp only[lookB,decide_eq_true_eq] at cl
 obtain⟨i,rfl⟩:=Int.eq_ofNat_of_zero_le cl.1.1
 obtain⟨k,rfl⟩:=Int.eq_ofNat_of_zero_le cl.2.1
 have hi:i<t.eyes.length:=by omega
 have hk:k<t.lights.length:=by omega
 have e2:Xm t (i:Int) (k:Int) a b=Wz t.eyes[i].s t.lights[k] a b:=by
  unfold Xm seesI
  rw[if_pos e1,Int.toNat_natCast,Int.toNat_natCast,List.getElem?_eq_getElem hi,List.getElem?_eq_getElem hk]
 have hs:=sees_ev (h:=h8) s48.wf (hd.mono ((s56.trans s67).trans s78)) g hi hk (within_iff.1 ca) (within_iff.1 cb)
 simp only[Zj] at hs
 simp(disch:=first|omega|simp only[nZ]<;>omega|fail)only[go_sem,Bool.not_true,s48.cells q2,s48.cells q3,s48.cells q4]
 refine hs _ fun h9 s89=>?_
 simp(disch:=first|omega|simp only[nZ]<;>omega|fail)only[go_sem]
 have q':=q _ (s4.trans (s48.trans s89))
 rw[e1,e2] at q'
 exact q'
def Wl (t:Tb)(a b:Sd):Int:=if check t≠0 then check t else if a.within 20=false∨b.within 20=false then 3 else 0
theorem Apart_ev {h:H}{v:V}{t:Tb}(hw:h.wf)(ht:ZK h v t)(a b:Sd)(Q:V→H→Prop)(q:∀x h',h.Sub h'→Zg h' x 2 ((if Wl t a b=0 then Yg t a b else[]).map VY)→Q (.tup [x,.ii (Wl t a b)]) h'):
  Ev fnG Zm (.fn 58 [] []) [v,.agg (Zj a),.agg (Zj b)] h Q:=by
 have ht0:=ht
 obtain⟨E,L,P,rfl,aE,aL,aP⟩:=ht
 refine Zd (fd:=c58) rfl rfl rfl ?_
 have s4:h.Sub (((h.add (.bk [E,L,P])).add (.bk [.ii a.x,.ii a.y,.ii a.z])).add (.bk [.ii b.x,.ii b.y,.ii b.z])):=yba
 have q3:(((h.add (.bk [E,L,P])).add (.bk [.ii a.x,.ii a.y,.ii a.z])).add (.bk [.ii b.x,.ii b.y,.ii b.z])).cells (h.next+1)=some [.ii a.x,.ii a.y,.ii a.z]:=by simp(disch:=first|omega|simp only[nZ]<;>omega|fail)only[go_sem]
 have q4:(((h.add (.bk [E,L,P])).add (.bk [.ii a.x,.ii a.y,.ii a.z])).add (.bk [.ii b.x,.ii b.y,.ii b.z])).cells (h.next+1+1)=some [.ii b.x,.ii b.y,.ii b.z]:=by simp(disch:=first|omega|simp only[nZ]<;>omega|fail)only[go_sem]
 simp(disch:=first|omega|simp only[nZ]<;>omega|fail)only[c58,go_sem,Zj]
 generalize(((h.add (.bk [E,L,P])).add (.bk [.ii a.x,.ii a.y,.ii a.z])).add (.bk [.ii b.x,.ii b.y,.ii b.z]))=h4 at s4 q3 q4⊢
 have bad:∀h',h.Sub h'→∀e:Int,e≠0→Wl t a b=e→Q (.tup [.nils,.ii e]) h':=fun h' s e he e1=>by
  have q':=q .nils _ s (by rw[e1,if_neg he];exact(Zq.nil s 2).sl (by simp))
  rw[e1] at q';exact q'
 refine ZP s4.wf (ht0.mono s4) _ (fun h5 s45 c=>?_) fun h5 d s45 c g hd=>?_
 ·simp(disch:=first|omega|simp only[nZ]<;>omega|fail)only[go_sem,ne_eq,c,not_false_eq_true]
  exact bad _ (s4.trans s45) _ c (by unfold Wl;rw[if_pos c])
 have s5:=s4.trans s45
 have hr:=fun(s:Sd)=>XY (h:=h5) s5.wf s
 simp only[Zj] at hr
 simp(disch:=first|omega|simp only[nZ]<;>omega|fail)only[go_sem,ne_eq,not_true_eq_false,s45.cells q3]
 refine hr a _ fun h7 s57=>?_
 have s47:=s45.trans s57
 cases ca:a.within 20
 ·simp(disch:=first|omega|simp only[nZ]<;>omega|fail)only[go_sem,Bool.not_false]
  exact bad _ (s4.trans s47) 3 ybn (by unfold Wl;rw[if_neg (by simp[c]),if_pos (.inl ca)])
 have hr:=XY (h:=h7) s47.wf b
 simp only[Zj] at hr
 simp(disch:=first|omega|simp only[nZ]<;>omega|fail)only[go_sem,Bool.not_true,s47.cells q4]
 refine hr _ fun h8 s78=>?_
 have s48:=s47.trans s78
 cases cb:b.within 20
 ·simp(disch:=first|omega|simp only[nZ]<;>omega|fail)only[go_sem,Bool.not_false]
  exact bad _ (s4.trans s48) 3 ybn (by unfold Wl;rw[if_neg (by simp[c]),if_pos (.inr cb)])
 have e1:Wl t a b=0:=by unfold Wl;rw[if_neg ybh,if_neg (by simp[ca,cb])]
 have hap:=apart_ev (h:=h8) s48.wf (hd.mono (s57.trans s78)) g (within_iff.1 ca) (within_iff.1 cb)
 simp only[Zj] at hap
 simp(disch:=first|omega|simp only[nZ]<;>omega|fail)only[go_sem,Bool.not_true,s48.cells q3,s48.cells q4]
 refine hap _ fun x h9 o _=>?_
 have hl:(Yg t a b).length≤24:=by
  unfold Yg
  split
  ·simp
  ·exact Nat.le_trans (YW _ _ _ _) (Nat.le_trans (Nat.mul_le_mul g.eyes.2 g.lights.2) ybn)
 simp(disch:=first|omega|simp only[nZ]<;>omega|fail)only[go_sem]
 have q':=q x _ (s4.trans (s48.trans o.1)) (by rw[if_pos e1];exact o.sl (by simp only[List.length_map];omega))
 rw[e1] at q'
 exact q'
def Y0 (t:Tb)(p:Int):Bool:=decide (0≤p∧p<t.pieces.length)
theorem Vp {h:H}{E L P:V}{t:Tb}(hw:h.wf)(ht:ZK h (.agg [E,L,P]) t)(p:Int)(Q:V→H→Prop)(q:∀h',h.Sub h'→Q (.bool (Y0 t p)) h'):Ev fnG Zm (.fn 75 [] []) [.agg [E,L,P],.ii p] h Q:=by
 obtain⟨E',L',P',e,aE,aL,aP⟩:=ht
 cases e
 have hlP:=aP.lenE
 have bP:=aP.boundE
 refine Zd (fd:=c75) rfl rfl rfl ?_
 have e:inB p 0 ((t.pieces.length:Int)-1)=Y0 t p:=by unfold inB Y0;rw[Bool.eq_iff_iff];simp;omega
 simp(disch:=omega)only[c75,go_sem,hlP,ZC,in_ev,e]
 exact q _ (yba)
def YT (t:Tb)(p r:Int):Int:=if check t≠0 then check t else if Y0 t p=false∨Y0 t r=false then 1 else 0
def We (t:Tb)(p r:Int):Bool:=decide (YT t p r=0)&&XC t p.toNat r.toNat
theorem Match_ev {h:H}{v:V}{t:Tb}(hw:h.wf)(ht:ZK h v t)(p r:Int)(Q:V→H→Prop)(q:∀h',h.Sub h'→Q (.tup [.bool (We t p r),.ii (YT t p r)]) h'):
  Ev fnG Zm (.fn 148 [] []) [v,.ii p,.ii r] h Q:=by
 have ht0:=ht
 obtain⟨E,L,P,rfl,aE,aL,aP⟩:=ht
 refine Zd (fd:=c148) rfl rfl rfl ?_
 have s1:h.Sub (h.add (.bk [E,L,P])):=yba
 have g1:(h.add (.bk [E,L,P])).cells h.next=some [E,L,P]:=Zf rfl
 have bad:∀h',h.Sub h'→∀e:Int,e≠0→YT t p r=e→Q (.tup [.bool false,.ii e]) h':=fun h' s e he e1=>by
  have q':=q _ s
  unfold We at q'
  rw[e1,decide_eq_false he,Bool.false_and] at q';exact q'
 simp(disch:=omega)only[c148,go_sem]
 refine ZP s1.wf (ht0.mono s1) _ (fun h5 s45 c=>?_) fun h5 d s15 c g hd=>?_
 ·simp(disch:=omega)only[go_sem,ne_eq,c,not_false_eq_true]
  exact bad _ (s1.trans s45) _ c (by unfold YT;rw[if_pos c])
 have s5:=s1.trans s15
 simp(disch:=omega)only[go_sem,ne_eq,not_true_eq_false,s15.cells g1]
 refine Vp s5.wf (ht0.mono s5) p _ fun h6 s56=>?_
 have s6:=s5.trans s56
 cases cp:Y0 t p
 ·simp(disch:=omega)only[go_sem,Bool.not_false]
  exact bad _ s6 1 ybn (by unfold YT;rw[if_neg (by simp[c]),if_pos (.inl cp)])
 simp(disch:=omega)only[go_sem,Bool.not_true,(s15.trans s56).cells g1]
 refine Vp s6.wf (ht0.mono s6) r _ fun h7 s67=>?_
 have s7:=s6.trans s67
 cases cr:Y0 t r
 ·simp(disch:=omega)only[go_sem,Bool.not_false]
  exact bad _ s7 1 ybn (by unfold YT;rw[if_neg (by simp[c]),if_pos (.inr cr)])
 have e1:YT t p r=0:=by unfold YT;rw[if_neg ybh,if_neg (by simp[cp,cr])]
 simp only[Y0,decide_eq_true_eq] at cp cr
 obtain⟨i,rfl⟩:=Int.eq_ofNat_of_zero_le cp.1
 obtain⟨k,rfl⟩:=Int.eq_ofNat_of_zero_le cr.1
 simp(disch:=omega)only[go_sem,Bool.not_true]
 refine WE s7.wf (hd.mono (s56.trans s67)) g ybc ybc _ fun h8 s78=>?_
 simp(disch:=omega)only[go_sem]
 have q':=q _ (s7.trans s78)
 unfold We at q'
 rw[e1] at q'
 simpa using q'
def Xv (t:Tb)(s:Sd):Nat→List Int
 |0=>[]
 |n+1=>Xv t s n++if(match t.pieces[n]? with|some p=>alike t s p|none=>false)=true then[(n:Int)] else[]
theorem Xh (t:Tb)(s:Sd):∀n,(Xv t s n).length≤n
 |0=>Nat.le_refl _
 |n+1=>by
  have:=Xh t s n
  simp only[Xv,List.length_append]
  split<;>(split<;>simp<;>omega)
theorem scrapK_step {t:Tb}{s:Sd}{n:Nat}(hn:n<t.pieces.length):Xv t s (n+1)=Xv t s n++if alike t s t.pieces[n]=true then[(n:Int)] else[]:=by
 simp only[Xv,List.getElem?_eq_getElem hn]
def oneE (t:Tb)(s:Sd):Int:=if check t≠0 then check t else if s.within 20=false then 3 else 0
def Y8 (t:Tb)(s:Sd):List Int:=if oneE t s=0 then Xv t s t.pieces.length else[]
theorem Scrap_own {h:H}{v:V}{t:Tb}(hw:h.wf)(ht:ZK h v t)(a:Sd)(Q:V→H→Prop)(q:∀x h',h.Sub h'→ZG h h' x 1 ((Y8 t a).map encI)→Q (.tup [x,.ii (oneE t a)]) h'):
  Ev fnG Zm (.fn 59 [] []) [v,.agg (Zj a)] h Q:=by
 have ht0:=ht
 obtain⟨E,L,P,rfl,aE,aL,aP⟩:=ht
 have hlP:=aP.lenE
 refine Zd (fd:=c59) rfl rfl rfl ?_
 have s4:h.Sub ((h.add (.bk [E,L,P])).add (.bk [.ii a.x,.ii a.y,.ii a.z])):=yba
 have q3:((h.add (.bk [E,L,P])).add (.bk [.ii a.x,.ii a.y,.ii a.z])).cells h.next=some [E,L,P]:=by simp(disch:=first|omega|simp only[nZ]<;>omega|fail)only[go_sem]
 have q4:((h.add (.bk [E,L,P])).add (.bk [.ii a.x,.ii a.y,.ii a.z])).cells (h.next+1)=some [.ii a.x,.ii a.y,.ii a.z]:=by simp(disch:=first|omega|simp only[nZ]<;>omega|fail)only[go_sem]
 simp(disch:=first|omega|simp only[nZ]<;>omega|fail)only[c59,go_sem,Zj]
 generalize((h.add (.bk [E,L,P])).add (.bk [.ii a.x,.ii a.y,.ii a.z]))=h4 at s4 q3 q4⊢
 have bad:∀h',h.Sub h'→∀e:Int,e≠0→oneE t a=e→Q (.tup [.nils,.ii e]) h':=fun h' s e he e1=>by
  have q':=q .nils _ s (by unfold Y8;rw[e1,if_neg he];exact(Zq.nil s 1).c)
  rw[e1] at q';exact q'
 refine ZP s4.wf (ht0.mono s4) _ (fun h5 s45 c=>?_) fun h5 d s45 c g hd=>?_
 ·simp(disch:=first|omega|simp only[nZ]<;>omega|fail)only[go_sem,ne_eq,c,not_false_eq_true]
  exact bad _ (s4.trans s45) _ c (by unfold oneE;rw[if_pos c])
 have s5:=s4.trans s45
 have hr:=XY (h:=h5) s5.wf a
 simp only[Zj] at hr
 simp(disch:=first|omega|simp only[nZ]<;>omega|fail)only[go_sem,ne_eq,not_true_eq_false,s45.cells q4]
 refine hr _ fun h7 s57=>?_
 have s47:=s45.trans s57
 have s7:=s4.trans s47
 cases ca:a.within 20
 ·simp(disch:=first|omega|simp only[nZ]<;>omega|fail)only[go_sem,Bool.not_false]
  exact bad _ s7 3 ybn (by unfold oneE;rw[if_neg (by simp[c]),if_pos ca])
 have e1:oneE t a=0:=by unfold oneE;rw[if_neg ybh,if_neg ybw]
 have gp:=g.pieces
 have hd7:=hd.mono s57
 simp(disch:=first|omega|simp only[nZ]<;>omega|fail)only[go_sem,Bool.not_true,s47.cells q3,hlP]
 refine Zh t.pieces.length (fun n s=>∃tm h' y,s=⟨tm,h',[]⟩∧Zq h7 h' y 1 ((Xv t a n).map encI)∧tm.E 3=.ptr (h.next+1) 0∧tm.E 6=.ptr d 0∧tm.E 8=y∧tm.E 25=P∧tm.E 26=.ii (t.pieces.length:Int)∧tm.E 27=.ii (n:Int))
  ?_ ?_ (i:=0) (Nat.zero_le _) ⟨_,_,.nils,rfl,Zq.nil (H.Sub.refl s7.wf) 1,ybb,ybb,ybb,ybb,ybb,ybb⟩
 ·rintro n s hn ⟨tm,h',y,rfl,oy,t3,t6,t8,t25,t26,t27⟩
  have hn':(n:Int)<(t.pieces.length:Int):=by omega
  have s7':=oy.1
  have hs:=s7.trans s7'
  obtain⟨bP,oP,cP,csP,eP,hcP,hqP,hgP,_,_⟩:=(aP.mono hs).at hn
  obtain⟨e,ee⟩:∃e,t.pieces[n]=e:=⟨_,rfl⟩
  have hst:=scrapK_step (s:=a) hn
  have hep:=g.piece _ (List.getElem_mem hn)
  rw[ee] at hgP hst hep
  simp only[Zj] at hgP
  have sB:=(H.Sub.refl hs.wf).add (.bk [.ii e.x,.ii e.y,.ii e.z])
  have gB:(h'.add (.bk [.ii e.x,.ii e.y,.ii e.z])).cells h'.next=some [.ii e.x,.ii e.y,.ii e.z]:=Zf rfl
  have hal:=alike_ev (h:=h'.add (.bk [.ii e.x,.ii e.y,.ii e.z])) sB.wf ((hd7.mono s7').mono sB) g (within_iff.1 ca) hep
  simp only[Zj] at hal
  have r4:=sB.cells (s7'.cells (s47.cells q4))
  simp(disch:=first|omega|simp only[nZ]<;>omega|fail)only[go_sem,t3,t6,t8,t25,t26,t27,hn',hqP (Ze n),hcP,hgP,r4]
  refine hal _ fun h8 s8=>?_
  have sA:=sB.trans s8
  cases hc:alike t a e
  ·rw[hc] at hst
   simp only[Bool.false_eq_true, ↓reduceIte,List.append_nil] at hst
   simp(disch:=first|omega|simp only[nZ]<;>omega|fail)only[go_sem,t3,t6,t8,t25,t26,t27,Zc]
   exact⟨_,_,y,rfl,by rw[hst];exact oy.mono sA,ybf,ybi,ybg,ybt,(by simp[t26]),ybb⟩
  ·rw[hc] at hst
   simp only[↓reduceIte] at hst
   have hsl:=Xh t a n
   have oy8:=oy.mono sA
   have sC:=(H.Sub.refl sA.wf).add (.bk [.ii (n:Int)])
   simp(disch:=first|omega|simp only[nZ]<;>omega|fail)only[go_sem,t3,t6,t8,t25,t26,t27]
   refine(oy8.mono sC).app1 (by_:=8) (r:=encI (n:Int)) s7.wf rfl ybc Ye rfl ybd ybd fun h9 o9 k9 n9=>?_
   rw[H.next_add] at o9
   simp(disch:=first|omega|simp only[nZ]<;>omega|fail)only[go_sem,t3,t6,t8,t25,t26,t27,Zc]
   exact⟨_,_,_,rfl,by rw[hst,List.map_append];exact(show Zq h7 h9 _ 1 ((Xv t a n).map encI++[encI (n:Int)]) from o9),ybf,ybi,ybb,ybt,(by simp[t26]),ybb⟩
 ·rintro s ⟨tm,h',y,rfl,oy,t3,t6,t8,t25,t26,t27⟩
  have hsl:=Xh t a t.pieces.length
  simp(disch:=first|omega|simp only[nZ]<;>omega|fail)only[go_sem,t3,t6,t8,t25,t26,t27,Int.lt_irrefl]
  have q':=q y _ (s7.trans oy.1) (by unfold Y8;rw[if_pos e1];exact oy.c.base s7)
  rw[e1] at q';exact q'
theorem scrapR_len (t:Tb)(a:Sd):(Y8 t a).length≤9:=by
 unfold Y8
 split
 ·rename_i h
  have c:check t=0:=by
   by_cases c:check t=0
   ·exact c
   ·unfold oneE at h;rw[if_pos c] at h;exact absurd h c
  have:=Xh t a t.pieces.length
  have:=(Z5.1 c).pieces
  omega
 ·simp
theorem Scrap_ev {h:H}{v:V}{t:Tb}(hw:h.wf)(ht:ZK h v t)(a:Sd)(Q:V→H→Prop)(q:∀x h',h.Sub h'→Zg h' x 1 ((Y8 t a).map encI)→Q (.tup [x,.ii (oneE t a)]) h'):
  Ev fnG Zm (.fn 59 [] []) [v,.agg (Zj a)] h Q:=
 Scrap_own hw ht a Q fun x h' s o=>q x h' s (o.sl (by have:=scrapR_len t a;simp only[List.length_map];omega))
end Go.Ab.Tryz
namespace Go.Ab.Tryz
def Sd.put (s:Sd)(p:Nat)(n:Int):Sd:=match p with
 |0=>⟨n,s.y,s.z⟩
 |1=>⟨s.x,n,s.z⟩
 |_=>⟨s.x,s.y,n⟩
theorem put_put (s:Sd)(p:Nat)(m n:Int):(s.put p m).put p n=s.put p n:=match p with|0=>rfl|1=>rfl|_+2=>rfl
theorem put_self (s:Sd){p:Nat}(h:p<3):s.put p (s.at p)=s:=by
 rcases(by omega:p=0∨p=1∨p=2) with rfl|rfl|rfl<;>rfl
theorem at_put (s:Sd){p:Nat}(h:p<3)(n:Int):(s.put p n).at p=n:=by
 rcases(by omega:p=0∨p=1∨p=2) with rfl|rfl|rfl<;>rfl
theorem at_put_ne (s:Sd){p j:Nat}(h:p<3)(hj:j<3)(hne:j≠p)(n:Int):(s.put p n).at j=s.at j:=by
 rcases(by omega:p=0∨p=1∨p=2) with rfl|rfl|rfl<;>rcases(by omega:j=0∨j=1∨j=2) with rfl|rfl|rfl<;>first|rfl|exact absurd rfl hne
theorem put_in {s:Sd}{m:Int}(h:InS s m)(p:Nat){n:Int}(hn:0≤n∧n≤m):InS (s.put p n) m:=by
 unfold Sd.put
 split
 ·exact⟨hn,h.y,h.z⟩
 ·exact⟨h.x,hn,h.z⟩
 ·exact⟨h.x,h.y,hn⟩
theorem sd_putN (s:Sd){p:Nat}(h:p<3)(n:Int):Z0 p [.ii n] [.ii s.x,.ii s.y,.ii s.z]=some [.ii (s.put p n).x,.ii (s.put p n).y,.ii (s.put p n).z]:=by
 rcases(by omega:p=0∨p=1∨p=2) with rfl|rfl|rfl<;>rfl
def okP (t:Tb)(s:Sd)(p:Nat)(n:Int):Bool:=alike t s (s.put p n)
theorem part_put (e l s:Sd){p:Nat}(h:p<3)(n:Int):Wz e l s (s.put p n)=dif (s.at p) n*e.at p*l.at p:=by
 have z:∀j,j<3→j≠p→term e l s (s.put p n) j=0:=fun j hj hne=>by
  unfold term;rw[at_put_ne s h hj hne];simp[dif]
 have o:term e l s (s.put p n) p=dif (s.at p) n*e.at p*l.at p:=by unfold term;rw[at_put s h]
 show part e l s (s.put p n) 3=_
 simp only[part]
 rcases(by omega:p=0∨p=1∨p=2) with rfl|rfl|rfl
 ·rw[z 1 ybc ybc,z 2 ybc ybc,o];omega
 ·rw[z 0 ybc ybc,z 2 ybc ybc,o];omega
 ·rw[z 0 ybc ybc,z 1 ybc ybc,o];omega
theorem okP_mono {t:Tb}(g:Good t){s:Sd}{p:Nat}(hp:p<3){m n:Int}(hd:dif (s.at p) n≤dif (s.at p) m)(h:okP t s p m=true):okP t s p n=true:=by
 unfold okP at *
 rw[VH g] at *
 intro i k hi hk
 have h1:=h i k hi hk
 rw[tellsAt_eq hi hk,decide_eq_false_iff_not,part_put _ _ _ hp] at *
 have ge:=(g.eye _ (List.getElem_mem hi)).1
 have gl:=g.light _ (List.getElem_mem hk)
 have b1:=sd_bd ge hp
 have b2:=sd_bd gl hp
 have m1:=Int.mul_le_mul_of_nonneg_right hd b1.1
 have m2:=Int.mul_le_mul_of_nonneg_right m1 b2.1
 omega
theorem okP_self {t:Tb}(g:Good t)(s:Sd){p:Nat}(hp:p<3):okP t s p (s.at p)=true:=by
 unfold okP;rw[put_self s hp];exact alike_self g s
structure IsLo (t:Tb)(s:Sd)(p:Nat)(x:Int):Prop where
 nn:0≤x
 le:x≤s.at p
 ok:okP t s p x=true
 last:x=0∨okP t s p (x-1)=false
structure IsHi (t:Tb)(s:Sd)(p:Nat)(x:Int):Prop where
 le:x≤20
 ge:s.at p≤x
 ok:okP t s p x=true
 last:x=20∨okP t s p (x+1)=false
theorem IsLo.uniq {t:Tb}(g:Good t){s:Sd}{p:Nat}(hp:p<3){x y:Int}(a:IsLo t s p x)(b:IsLo t s p y):x=y:=by
 have key:∀{x y:Int},IsLo t s p x→IsLo t s p y→¬x<y:=fun{x y} a b hlt=>by
  rcases b.last with h|h
  ·have:=a.nn;omega
  ·have:=okP_mono g hp (m:=x) (n:=y-1) (by have:=b.le;unfold dif;omega) a.ok
   rw[h] at this;cases this
 have:=key a b
 have:=key b a
 omega
theorem IsHi.uniq {t:Tb}(g:Good t){s:Sd}{p:Nat}(hp:p<3){x y:Int}(a:IsHi t s p x)(b:IsHi t s p y):x=y:=by
 have key:∀{x y:Int},IsHi t s p x→IsHi t s p y→¬x<y:=fun{x y} a b hlt=>by
  rcases a.last with h|h
  ·have:=b.le;omega
  ·have:=okP_mono g hp (m:=y) (n:=x+1) (by have:=a.ge;unfold dif;omega) b.ok
   rw[h] at this;cases this
 have:=key a b
 have:=key b a
 omega
def shE (t:Tb)(s:Sd)(p:Int):Int:=if check t≠0 then check t else if s.within 20=false then 3 else if inB p 0 2=false then 1 else 0
def Ys (t:Tb)(s:Sd)(p lo hi:Int):Prop:=if shE t s p=0 then IsLo t s p.toNat lo∧IsHi t s p.toNat hi else lo=0∧hi=0
set_option maxHeartbeats 2000000 in
theorem Shades_ev {h:H}{v:V}{t:Tb}(hw:h.wf)(ht:ZK h v t)(a:Sd)(p:Int)(Q:V→H→Prop)(q:∀lo hi h',h.Sub h'→Ys t a p lo hi→Q (.tup [.agg [.ii lo,.ii hi],.ii (shE t a p)]) h'):
  Ev fnG Zm (.fn 60 [] []) [v,.agg (Zj a),.ii p] h Q:=by
 have ht0:=ht
 obtain⟨E,L,P,rfl,aE,aL,aP⟩:=ht
 refine Zd (fd:=c60) rfl rfl rfl ?_
 have s4:h.Sub (((h.add (.bk [E,L,P])).add (.bk [.ii a.x,.ii a.y,.ii a.z])).add (.bk [.ii 0,.ii 0])):=yba
 have q4:(((h.add (.bk [E,L,P])).add (.bk [.ii a.x,.ii a.y,.ii a.z])).add (.bk [.ii 0,.ii 0])).cells (h.next+1)=some [.ii a.x,.ii a.y,.ii a.z]:=by simp(disch:=first|omega|simp only[nZ]<;>omega|fail)only[go_sem]
 have q5:(((h.add (.bk [E,L,P])).add (.bk [.ii a.x,.ii a.y,.ii a.z])).add (.bk [.ii 0,.ii 0])).get (h.next+1+1)=some (.bk [.ii 0,.ii 0]):=by simp(disch:=first|omega|simp only[nZ]<;>omega|fail)only[go_sem]
 have n4:(((h.add (.bk [E,L,P])).add (.bk [.ii a.x,.ii a.y,.ii a.z])).add (.bk [.ii 0,.ii 0])).next=h.next+3:=by simp only[H.next_add]
 simp(disch:=first|omega|simp only[nZ]<;>omega|fail)only[c60,go_sem,Zj]
 generalize(((h.add (.bk [E,L,P])).add (.bk [.ii a.x,.ii a.y,.ii a.z])).add (.bk [.ii 0,.ii 0]))=h4 at s4 q4 q5 n4⊢
 have bad:∀h',h.Sub h'→∀e:Int,e≠0→shE t a p=e→Q (.tup [.agg [.ii 0,.ii 0],.ii e]) h':=fun h' s e he e1=>by
  have q':=q 0 0 _ s (by unfold Ys;rw[e1,if_neg he];exact⟨rfl,rfl⟩)
  rw[e1] at q';exact q'
 refine ZP s4.wf (ht0.mono s4) _ (fun h5 s45 c=>?_) fun h5 d s45 c g hd=>?_
 ·have r5:=s45.get q5
  have l5:=s45.next
  simp(disch:=first|omega|simp only[nZ]<;>omega|fail)only[go_sem,ne_eq,c,not_false_eq_true,r5]
  exact bad _ ((s4.trans s45).set ybc ybc hw _) _ c (by unfold shE;rw[if_pos c])
 have s5:=s4.trans s45
 have hr:=XY (h:=h5) s5.wf a
 simp only[Zj] at hr
 simp(disch:=first|omega|simp only[nZ]<;>omega|fail)only[go_sem,ne_eq,not_true_eq_false,s45.cells q4]
 refine hr _ fun h7 s57=>?_
 have s47:=s45.trans s57
 have s7:=s4.trans s47
 have r7:=s47.get q5
 have l7:=s47.next
 cases ca:a.within 20
 ·simp(disch:=first|omega|simp only[nZ]<;>omega|fail)only[go_sem,Bool.not_false,r7]
  exact bad _ (s7.set ybc ybc hw _) 3 ybn (by unfold shE;rw[if_neg (by simp[c]),if_pos ca])
 cases cp:inB p 0 2
 ·simp(disch:=first|omega|simp only[nZ]<;>omega|fail)only[go_sem,Bool.not_true,Bool.not_false,r7,in_ev,cp]
  exact bad _ (s7.set ybc ybc hw _) 1 ybn (by unfold shE;rw[if_neg (by simp[c]),if_neg (by simp[ca]),if_pos cp])
 have e1:shE t a p=0:=by unfold shE;rw[if_neg ybh,if_neg ybw,if_neg (by simp[cp])]
 simp only[inB,decide_eq_true_eq] at cp
 obtain⟨j,rfl⟩:=Int.eq_ofNat_of_zero_le cp.1
 have hj:j<3:=by omega
 have hin:=within_iff.1 ca
 have hat:=sd_bd hin hj
 have na:=WA a hj
 simp only[Zj] at na
 have cp':inB (j:Int) 0 2=true:=by simp only[inB,decide_eq_true_eq];omega
 have q47:=s47.cells q4
 have hd7:=hd.mono s57
 have ok0:=okP_self g a hj
 have s78:h7.Sub ((h7.add (.bk [.ii (a.at j),.ii (a.at j)])).add (.bk [.ii a.x,.ii a.y,.ii a.z])):=((H.Sub.refl s7.wf).add _).add _
 simp(disch:=first|omega|simp only[nZ]<;>omega|fail)only[go_sem,Bool.not_true,r7,in_ev,cp',YL (Ze j) hj,Nat.mul_one,q47,na,Zv]
 refine Zh 21 (fun n s=>∃tm h' o lo hi,s=⟨tm,h',[]⟩∧h7.Sub h'∧h'.get h7.next=some (.bk [.ii lo,.ii hi])∧h'.get (h7.next+1)=some (.bk [.ii (a.put j o).x,.ii (a.put j o).y,.ii (a.put j o).z])∧(0≤lo∧lo≤a.at j∧okP t a j lo=true)∧(hi≤20∧a.at j≤hi∧okP t a j hi=true)∧(∀m:Nat,m<n→okP t a j (m:Int)=true→lo≤(m:Int)∧(m:Int)≤hi)∧
   tm.E 2=.ii (j:Int)∧tm.E 4=.ptr (h.next+1) 0∧tm.E 6=.ptr (h.next+1+1) 0∧tm.E 8=.ptr d 0∧tm.E 10=.ptr h7.next 0∧tm.E 11=.ptr (h7.next+1) 0∧tm.E 41=.ii (n:Int))
  ?_ ?_ (i:=0) (Nat.zero_le _) ⟨_,_,a.at j,a.at j,a.at j,rfl,s78,by simp(disch:=first|omega|simp only[nZ]<;>omega|fail)only[go_sem],by rw[put_self a hj];simp(disch:=first|omega|simp only[nZ]<;>omega|fail)only[go_sem],⟨hat.1,Int.le_refl _,ok0⟩,⟨hat.2,Int.le_refl _,ok0⟩,fun m hm=>by omega,ybb,ybb,ybb,ybb,ybb,ybb,ybb⟩
 ·rintro n s hn ⟨tm,h',o,lo,hi,rfl,hs,g1,g2,hlo,hhi,hall,t2,t4,t6,t8,t10,t11,t41⟩
  have hn':(n:Int)<21:=by omega
  have hp:=sd_putN (a.put j o) hj (n:Int)
  rw[put_put] at hp
  have l1:=hs.wf _ _ g2
  have s8:h7.Sub (h'.set (h7.next+1) (.bk [.ii (a.put j (n:Int)).x,.ii (a.put j (n:Int)).y,.ii (a.put j (n:Int)).z])):=hs.set ybc l1 s7.wf _
  have c2:(h'.set (h7.next+1) (.bk [.ii (a.put j (n:Int)).x,.ii (a.put j (n:Int)).y,.ii (a.put j (n:Int)).z])).get (h7.next+1)=some (.bk [.ii (a.put j (n:Int)).x,.ii (a.put j (n:Int)).y,.ii (a.put j (n:Int)).z]):=get_set_same rfl
  have c1:(h'.set (h7.next+1) (.bk [.ii (a.put j (n:Int)).x,.ii (a.put j (n:Int)).y,.ii (a.put j (n:Int)).z])).get h7.next=some (.bk [.ii lo,.ii hi]):=by rw[get_set_other ybc];exact g1
  simp(disch:=first|omega|simp only[nZ]<;>omega|fail)only[go_sem,t2,t4,t6,t8,t10,t11,t41,hn',YL (Ze j) hj,Nat.mul_one,g2,hp,hs.cells q47]
  generalize h'.set (h7.next+1) (.bk [.ii (a.put j (n:Int)).x,.ii (a.put j (n:Int)).y,.ii (a.put j (n:Int)).z])=h8 at s8 c1 c2⊢
  have hal:=alike_ev (h:=h8) s8.wf (hd7.mono s8) g hin (put_in hin j (n:=(n:Int)) ybc)
  simp only[Zj] at hal
  try simp(disch:=first|omega|simp only[nZ]<;>omega|fail)only[go_sem,t2,t4,t6,t8,t10,t11,t41,s8.cells q47,Zb c2]
  refine hal _ fun h9 s89=>?_
  have s9:=s8.trans s89
  have r1:=s89.get c1
  have r2:=s89.get c2
  have l9:=s9.wf _ _ r1
  have eok:alike t a (a.put j (n:Int))=okP t a j (n:Int):=rfl
  rw[eok]
  cases hok:okP t a j (n:Int)
  ·simp(disch:=first|omega|simp only[nZ]<;>omega|fail)only[go_sem,t2,t4,t6,t8,t10,t11,t41,Zc]
   refine⟨_,_,(n:Int),lo,hi,rfl,s9,r1,r2,hlo,hhi,fun m hm hm2=>?_,ybo,ybj,ybi,ybg,ybu,(by simp[t11]),ybb⟩
   by_cases e:m=n
   ·subst e;rw[hok] at hm2;cases hm2
   ·exact hall m ybc hm2
  ·have sG:=(H.Sub.refl s9.wf).add (.bk [.ii (n:Int)])
   have aG:Zg (h9.add (.bk [.ii (n:Int)])) (.sl h9.next 0 1 (.fix 1)) 1 (([(n:Int)]:List Int).map encI):=Zg.new _ rfl rfl (by rfl) (by simp[encI]) ybb
   have hgr:=greatest_ev aG hi
   have ef:([(n:Int)]:List Int).foldl max hi=max hi (n:Int):=rfl
   rw[ef] at hgr
   have g9:=sG.get r1
   have gA:(h9.add (.bk [.ii (n:Int)])).cells h7.next=some [.ii lo,.ii hi]:=Zb g9
   simp(disch:=first|omega|simp only[nZ]<;>omega|fail)only[go_sem,t2,t4,t6,t8,t10,t11,t41,r1,Zb r1,hgr,Zv,gA,g9,Zc]
   have sF:h7.Sub ((h9.add (.bk [.ii (n:Int)])).set h7.next (.bk [.ii (min lo (n:Int)),.ii (max hi (n:Int))])):=(s9.trans sG).set (Nat.le_refl _) (by rw[H.next_add];omega) s7.wf _
   refine⟨_,_,(n:Int),min lo (n:Int),max hi (n:Int),rfl,sF,get_set_same rfl,by rw[get_set_other ybc];exact sG.get r2,⟨by omega,by omega,?_⟩,⟨by omega,by omega,?_⟩,fun m hm hm2=>?_,ybo,ybj,ybi,ybg,ybu,(by simp[t11]),ybb⟩
   ·rcases(by omega:min lo (n:Int)=lo∨min lo (n:Int)=(n:Int)) with e|e<;>rw[e]
    ·exact hlo.2.2
    ·exact hok
   ·rcases(by omega:max hi (n:Int)=hi∨max hi (n:Int)=(n:Int)) with e|e<;>rw[e]
    ·exact hhi.2.2
    ·exact hok
   ·by_cases e:m=n
    ·subst e;omega
    ·have:=hall m ybc hm2;omega
 ·rintro s ⟨tm,h',o,lo,hi,rfl,hs,g1,g2,hlo,hhi,hall,t2,t4,t6,t8,t10,t11,t41⟩
  have hnl:¬((21:Nat):Int)<21:=by omega
  have r8:=hs.get r7
  have l8:=(s7.trans hs).wf _ _ r8
  simp(disch:=first|omega|simp only[nZ]<;>omega|fail)only[go_sem,t2,t4,t6,t8,t10,t11,t41,hnl,Zb g1,r8]
  have q':=q lo hi _ ((s7.trans hs).set (b:=h.next+1+1) ybc l8 hw (.bk [.ii lo,.ii hi])) (by
   unfold Ys
   rw[if_pos e1,Int.toNat_natCast]
   refine⟨⟨hlo.1,hlo.2.1,hlo.2.2,?_⟩,⟨hhi.1,hhi.2.1,hhi.2.2,?_⟩⟩
   ·by_cases e:lo=0
    ·exact .inl e
    ·refine .inr ?_
     cases hc:okP t a j (lo-1)
     ·rfl
     ·have:=hall (lo-1).toNat ybc (by rw[Int.toNat_of_nonneg (by omega)];exact hc)
      omega
   ·by_cases e:hi=20
    ·exact .inl e
    ·refine .inr ?_
     cases hc:okP t a j (hi+1)
     ·rfl
     ·have:=hall (hi+1).toNat ybc (by rw[Int.toNat_of_nonneg (by omega)];exact hc)
      omega)
  rw[e1] at q';exact q'
end Go.Ab.Tryz
namespace Go.Ab
theorem Zq.up {h0 h1 h:H}{x:V}{sz:Nat}{rows:List (List V)}(a:Zq h1 h x sz rows)(s:h0.Sub h1):Zq h0 h x sz rows:=by
 obtain⟨a0,a1,a2⟩:=a
 refine⟨s.trans a0,a1,?_⟩
 have:=s.next
 rcases a2 with a2|⟨b,e,l1,l2,hb⟩
 ·exact .inl a2
 ·exact .inr ⟨b,e,by omega,l2,hb⟩
end Go.Ab
namespace Go.Ab.Tryz
set_option maxHeartbeats 1000000 in
theorem refScrap_ev {h:H}{v:V}{t:Tb}(hw:h.wf)(ht:ZK h v t)(g:Good t){a:Sd}(ha:InS a 20)(Q:V→H→Prop)(q:∀x h',Zq h h' x 1 ((Xv t a t.pieces.length).map encI)→Q x h'):
  Ev fnG Zm (.fn 146 [] []) [v,.agg (Zj a)] h Q:=by
 have ht0:=ht
 obtain⟨E,L,P,rfl,aE,aL,aP⟩:=ht
 have hlP:=aP.lenE
 have bP:=aP.boundE
 refine Zd (fd:=c146) rfl rfl rfl ?_
 have s4:h.Sub ((h.add (.bk [E,L,P])).add (.bk [.ii a.x,.ii a.y,.ii a.z])):=yba
 have q3:((h.add (.bk [E,L,P])).add (.bk [.ii a.x,.ii a.y,.ii a.z])).cells h.next=some [E,L,P]:=by simp(disch:=first|omega|simp only[nZ]<;>omega|fail)only[go_sem]
 have q4:((h.add (.bk [E,L,P])).add (.bk [.ii a.x,.ii a.y,.ii a.z])).cells (h.next+1)=some [.ii a.x,.ii a.y,.ii a.z]:=by simp(disch:=first|omega|simp only[nZ]<;>omega|fail)only[go_sem]
 have gp:=g.pieces
 simp(disch:=first|omega|simp only[nZ]<;>omega|fail)only[c146,go_sem,Zj]
 generalize((h.add (.bk [E,L,P])).add (.bk [.ii a.x,.ii a.y,.ii a.z]))=h7 at s4 q3 q4⊢
 refine Zh t.pieces.length (fun n s=>∃tm h' y,s=⟨tm,h',[]⟩∧Zq h7 h' y 1 ((Xv t a n).map encI)∧tm.E 2=.ptr h.next 0∧tm.E 3=.ptr (h.next+1) 0∧tm.E 5=y∧tm.E 6=.ii (n:Int))
  ?_ ?_ (i:=0) (Nat.zero_le _) ⟨_,_,.nils,rfl,Zq.nil (H.Sub.refl s4.wf) 1,ybb,ybb,ybb,ybb⟩
 ·rintro n s hn ⟨tm,h',y,rfl,oy,t2,t3,t5,t6⟩
  have hn':(n:Int)<(t.pieces.length:Int):=by omega
  have s7':=oy.1
  have hs:=s4.trans s7'
  obtain⟨bP,oP,cP,csP,eP,hcP,hqP,hgP,_,_⟩:=(aP.mono hs).at hn
  obtain⟨e,ee⟩:∃e,t.pieces[n]=e:=⟨_,rfl⟩
  have hst:=scrapK_step (s:=a) hn
  have hep:=g.piece _ (List.getElem_mem hn)
  rw[ee] at hgP hst hep
  simp only[Zj] at hgP
  have hal:=X3 hs.wf (ht0.mono hs) g hep ha
  simp only[Zj] at hal
  rw[alike_comm g] at hal
  simp(disch:=first|omega|simp only[nZ]<;>omega|fail)only[go_sem,t2,t3,t5,t6,hn',hlP,s7'.cells q3,s7'.cells q4,hqP (Ze n),hcP,hgP,Zv]
  refine hal _ fun h8 s8=>?_
  cases hc:alike t a e
  ·rw[hc] at hst
   simp only[Bool.false_eq_true, ↓reduceIte,List.append_nil] at hst
   simp(disch:=first|omega|simp only[nZ]<;>omega|fail)only[go_sem,t2,t3,t5,t6,Zc,s7'.cells q3,s7'.cells q4,hcP,hgP]
   exact⟨_,_,y,rfl,by rw[hst];exact oy.mono s8,ybo,ybf,ybk,ybb⟩
  ·rw[hc] at hst
   simp only[↓reduceIte] at hst
   have hsl:=Xh t a n
   have oy8:=oy.mono s8
   have sC:=(H.Sub.refl s8.wf).add (.bk [.ii (n:Int)])
   simp(disch:=first|omega|simp only[nZ]<;>omega|fail)only[go_sem,t2,t3,t5,t6,s7'.cells q3,s7'.cells q4,hcP,hgP]
   refine(oy8.mono sC).app1 (by_:=8) (r:=encI (n:Int)) s4.wf rfl ybc Ye rfl ybd ybd fun h9 o9 k9 n9=>?_
   rw[H.next_add] at o9
   simp(disch:=first|omega|simp only[nZ]<;>omega|fail)only[go_sem,t2,t3,t5,t6,Zc]
   exact⟨_,_,_,rfl,by rw[hst,List.map_append];exact(show Zq h7 h9 _ 1 ((Xv t a n).map encI++[encI (n:Int)]) from o9),ybo,ybf,ybb,ybb⟩
 ·rintro s ⟨tm,h',y,rfl,oy,t2,t3,t5,t6⟩
  have hsl:=Xh t a t.pieces.length
  simp(disch:=first|omega|simp only[nZ]<;>omega|fail)only[go_sem,t2,t3,t5,t6,hlP,oy.1.cells q3,Int.lt_irrefl]
  exact q y _ (oy.up s4)
set_option maxHeartbeats 2000000 in
theorem refShades_ev {h:H}{v:V}{t:Tb}(hw:h.wf)(ht:ZK h v t)(g:Good t){a:Sd}(ha:InS a 20){p:Nat}(hp:p<3)(Q:V→H→Prop)(q:∀lo hi h',h.Sub h'→IsLo t a p lo→IsHi t a p hi→Q (.agg [.ii lo,.ii hi]) h'):
  Ev fnG Zm (.fn 147 [] []) [v,.agg (Zj a),.ii (p:Int)] h Q:=by
 have ht0:=ht
 obtain⟨E,L,P,rfl,aE,aL,aP⟩:=ht
 refine Zd (fd:=c147) rfl rfl rfl ?_
 have hat:=sd_bd ha hp
 have s5a:h.Sub (((((h.add (.bk [E,L,P])).add (.bk [.ii a.x,.ii a.y,.ii a.z])).add (.bk [.ii 0,.ii 0])).add (.bk [.ii 0,.ii 0,.ii 0])).add (.bk [.ii 0,.ii 0,.ii 0])):=yba
 have s5:h.Sub (((((((h.add (.bk [E,L,P])).add (.bk [.ii a.x,.ii a.y,.ii a.z])).add (.bk [.ii 0,.ii 0])).add (.bk [.ii 0,.ii 0,.ii 0])).add (.bk [.ii 0,.ii 0,.ii 0])).set (h.next+1+1+1) (.bk [.ii a.x,.ii a.y,.ii a.z])).set (h.next+1+1+1+1) (.bk [.ii a.x,.ii a.y,.ii a.z])):=(s5a.set (b:=h.next+1+1+1) ybc (by simp only[H.next_add];omega) hw _).set ybc ybl hw _
 simp(disch:=first|omega|simp only[nZ]<;>omega|fail)only[c147,go_sem,Zj]
 refine W.mono (Q:=fun x s=>x=.ext 0∧∃tm h' lo,s=⟨tm,h',[]⟩∧h.Sub h'∧IsLo t a p lo∧h'.get h.next=some (.bk [E,L,P])∧h'.get (h.next+1)=some (.bk [.ii a.x,.ii a.y,.ii a.z])∧h'.get (h.next+1+1)=some (.bk [.ii 0,.ii 0])∧h'.get (h.next+1+1+1)=some (.bk [.ii (a.put p lo).x,.ii (a.put p lo).y,.ii (a.put p lo).z])∧h'.get (h.next+1+1+1+1)=some (.bk [.ii a.x,.ii a.y,.ii a.z])∧
  tm.E 2=.ii (p:Int)∧tm.E 3=.ptr h.next 0∧tm.E 4=.ptr (h.next+1) 0∧tm.E 6=.ptr (h.next+1+1) 0∧tm.E 7=.ptr (h.next+1+1+1) 0∧tm.E 8=.ptr (h.next+1+1+1+1) 0)
  (Wi (fun k s=>∃tm h' lo,s=⟨tm,h',[]⟩∧h.Sub h'∧k=lo.toNat∧(0≤lo∧lo≤a.at p∧okP t a p lo=true)∧h'.get h.next=some (.bk [E,L,P])∧h'.get (h.next+1)=some (.bk [.ii a.x,.ii a.y,.ii a.z])∧h'.get (h.next+1+1)=some (.bk [.ii 0,.ii 0])∧h'.get (h.next+1+1+1)=some (.bk [.ii (a.put p lo).x,.ii (a.put p lo).y,.ii (a.put p lo).z])∧h'.get (h.next+1+1+1+1)=some (.bk [.ii a.x,.ii a.y,.ii a.z])∧
  tm.E 2=.ii (p:Int)∧tm.E 3=.ptr h.next 0∧tm.E 4=.ptr (h.next+1) 0∧tm.E 6=.ptr (h.next+1+1) 0∧tm.E 7=.ptr (h.next+1+1+1) 0∧tm.E 8=.ptr (h.next+1+1+1+1) 0)
  ?_ (a.at p).toNat _ ⟨_,_,a.at p,rfl,s5,rfl,⟨hat.1,Int.le_refl _,okP_self g a hp⟩,by simp(disch:=first|omega|simp only[nZ]<;>omega|fail)only[go_sem],by simp(disch:=first|omega|simp only[nZ]<;>omega|fail)only[go_sem],by simp(disch:=first|omega|simp only[nZ]<;>omega|fail)only[go_sem],by rw[put_self a hp];simp(disch:=first|omega|simp only[nZ]<;>omega|fail)only[go_sem],by simp(disch:=first|omega|simp only[nZ]<;>omega|fail)only[go_sem],ybb,ybb,ybb,ybb,ybb,ybb⟩) fun x s hx=>?_
 ·rintro k s ⟨tm,h',lo,rfl,hs,hk,⟨l1,l2,l3⟩,g1,g2,g3,g4,g5,t2,t3,t4,t6,t7,t8⟩
  have nA:=WA (a.put p lo) hp
  simp only[Zj] at nA
  rw[at_put a hp] at nA
  by_cases hc:0<lo
  ·have hp9:=sd_putN (a.put p lo) hp (lo-1)
   rw[put_put] at hp9
   have hI:InS (a.put p (lo-1)) 20:=put_in ha p ybc
   have ge:∀c d:Int,(c>d)=(d<c):=fun _ _=>rfl
   have lb:=hs.wf _ _ g5
   have sA:=(H.Sub.refl hs.wf).add (.bk [.ii (a.put p (lo-1)).x,.ii (a.put p (lo-1)).y,.ii (a.put p (lo-1)).z])
   have gA:(h'.add (.bk [.ii (a.put p (lo-1)).x,.ii (a.put p (lo-1)).y,.ii (a.put p (lo-1)).z])).cells h'.next=some [.ii (a.put p (lo-1)).x,.ii (a.put p (lo-1)).y,.ii (a.put p (lo-1)).z]:=Zf rfl
   simp(disch:=first|omega|simp only[nZ]<;>omega|fail)only[go_sem,t2,t3,t4,t6,t7,t8,YL (Ze p) hp,Nat.mul_one,g4,Zb g4,nA,hc,hp9,Zv,ZC,Zb g1,Zb g2]
   generalize h'.add (.bk [.ii (a.put p (lo-1)).x,.ii (a.put p (lo-1)).y,.ii (a.put p (lo-1)).z])=h8 at sA gA⊢
   have s8:=hs.trans sA
   have hal:=X3 s8.wf (ht0.mono s8) g ha hI
   simp only[Zj] at hal
   refine hal _ fun h9 s9=>?_
   have sB:=sA.trans s9
   have eok:alike t a (a.put p (lo-1))=okP t a p (lo-1):=rfl
   rw[eok]
   cases hok:okP t a p (lo-1)
   ·simp(disch:=first|omega|simp only[nZ]<;>omega|fail)only[go_sem,t2,t3,t4,t6,t7,t8,Bool.not_false]
    exact⟨_,_,lo,rfl,hs.trans sB,⟨l1,l2,l3,.inr hok⟩,sB.get g1,sB.get g2,sB.get g3,sB.get g4,sB.get g5,ybo,ybf,ybj,ybi,ybm,ybg⟩
   ·have l9:=sB.next
    simp(disch:=first|omega|simp only[nZ]<;>omega|fail)only[go_sem,t2,t3,t4,t6,t7,t8,Bool.not_true,s9.cells gA,sB.get g4]
    exact⟨(lo-1).toNat,by omega,_,_,lo-1,rfl,(hs.trans sB).set ybc ybc hw _,rfl,⟨by omega,by omega,hok⟩,by rw[get_set_other ybc];exact sB.get g1,by rw[get_set_other ybc];exact sB.get g2,by rw[get_set_other ybc];exact sB.get g3,get_set_same rfl,by rw[get_set_other ybc];exact sB.get g5,ybo,ybf,ybj,ybi,ybm,ybg⟩
  ·simp(disch:=first|omega|simp only[nZ]<;>omega|fail)only[go_sem,t2,t3,t4,t6,t7,t8,YL (Ze p) hp,Nat.mul_one,g4,Zb g4,nA,hc,Zv]
   exact⟨_,_,lo,rfl,hs,⟨l1,l2,l3,.inl ybc⟩,g1,g2,g3,g4,g5,ybo,ybf,ybj,ybi,ybm,ybg⟩
 obtain⟨rfl,tm,h1,lo,rfl,s1,hlo,g1,g2,g3,g4,g5,t2,t3,t4,t6,t7,t8⟩:=hx
 simp(disch:=first|omega|simp only[nZ]<;>omega|fail)only[go_sem]
 refine W.mono (Q:=fun x s=>x=.ext 2∧∃tm h' hi,s=⟨tm,h',[]⟩∧h.Sub h'∧IsHi t a p hi∧h'.get (h.next+1+1)=some (.bk [.ii 0,.ii 0])∧h'.get (h.next+1+1+1)=some (.bk [.ii (a.put p lo).x,.ii (a.put p lo).y,.ii (a.put p lo).z])∧h'.get (h.next+1+1+1+1)=some (.bk [.ii (a.put p hi).x,.ii (a.put p hi).y,.ii (a.put p hi).z])∧
  tm.E 2=.ii (p:Int)∧tm.E 6=.ptr (h.next+1+1) 0∧tm.E 7=.ptr (h.next+1+1+1) 0∧tm.E 8=.ptr (h.next+1+1+1+1) 0)
  (Wi (fun k s=>∃tm h' hi,s=⟨tm,h',[]⟩∧h.Sub h'∧k=(20-hi).toNat∧(hi≤20∧a.at p≤hi∧okP t a p hi=true)∧h'.get h.next=some (.bk [E,L,P])∧h'.get (h.next+1)=some (.bk [.ii a.x,.ii a.y,.ii a.z])∧h'.get (h.next+1+1)=some (.bk [.ii 0,.ii 0])∧h'.get (h.next+1+1+1)=some (.bk [.ii (a.put p lo).x,.ii (a.put p lo).y,.ii (a.put p lo).z])∧h'.get (h.next+1+1+1+1)=some (.bk [.ii (a.put p hi).x,.ii (a.put p hi).y,.ii (a.put p hi).z])∧
  tm.E 2=.ii (p:Int)∧tm.E 3=.ptr h.next 0∧tm.E 4=.ptr (h.next+1) 0∧tm.E 6=.ptr (h.next+1+1) 0∧tm.E 7=.ptr (h.next+1+1+1) 0∧tm.E 8=.ptr (h.next+1+1+1+1) 0)
  ?_ (20-a.at p).toNat _ ⟨_,_,a.at p,rfl,s1,rfl,⟨hat.2,Int.le_refl _,okP_self g a hp⟩,g1,g2,g3,g4,by rw[put_self a hp];exact g5,t2,t3,t4,t6,t7,t8⟩) fun x s hx=>?_
 ·rintro k s ⟨tm,h',hi,rfl,hs,hk,⟨l1,l2,l3⟩,g1,g2,g3,g4,g5,t2,t3,t4,t6,t7,t8⟩
  have nA:=WA (a.put p hi) hp
  simp only[Zj] at nA
  rw[at_put a hp] at nA
  by_cases hc:hi<20
  ·have hp9:=sd_putN (a.put p hi) hp (hi+1)
   rw[put_put] at hp9
   have hI:InS (a.put p (hi+1)) 20:=put_in ha p ybc
   have lb:=hs.wf _ _ g5
   have sA:=(H.Sub.refl hs.wf).add (.bk [.ii (a.put p (hi+1)).x,.ii (a.put p (hi+1)).y,.ii (a.put p (hi+1)).z])
   have gA:(h'.add (.bk [.ii (a.put p (hi+1)).x,.ii (a.put p (hi+1)).y,.ii (a.put p (hi+1)).z])).cells h'.next=some [.ii (a.put p (hi+1)).x,.ii (a.put p (hi+1)).y,.ii (a.put p (hi+1)).z]:=Zf rfl
   simp(disch:=first|omega|simp only[nZ]<;>omega|fail)only[go_sem,t2,t3,t4,t6,t7,t8,YL (Ze p) hp,Nat.mul_one,g5,Zb g5,nA,hc,hp9,Zv,ZC,Zb g1,Zb g2]
   generalize h'.add (.bk [.ii (a.put p (hi+1)).x,.ii (a.put p (hi+1)).y,.ii (a.put p (hi+1)).z])=h8 at sA gA⊢
   have s8:=hs.trans sA
   have hal:=X3 s8.wf (ht0.mono s8) g ha hI
   simp only[Zj] at hal
   refine hal _ fun h9 s9=>?_
   have sB:=sA.trans s9
   have eok:alike t a (a.put p (hi+1))=okP t a p (hi+1):=rfl
   rw[eok]
   cases hok:okP t a p (hi+1)
   ·simp(disch:=first|omega|simp only[nZ]<;>omega|fail)only[go_sem,t2,t3,t4,t6,t7,t8,Bool.not_false]
    exact⟨_,_,hi,rfl,hs.trans sB,⟨l1,l2,l3,.inr hok⟩,sB.get g3,sB.get g4,sB.get g5,ybo,ybi,ybm,ybg⟩
   ·have l9:=sB.next
    simp(disch:=first|omega|simp only[nZ]<;>omega|fail)only[go_sem,t2,t3,t4,t6,t7,t8,Bool.not_true,s9.cells gA,sB.get g5]
    exact⟨(20-(hi+1)).toNat,by omega,_,_,hi+1,rfl,(hs.trans sB).set ybc ybc hw _,rfl,⟨by omega,by omega,hok⟩,by rw[get_set_other ybc];exact sB.get g1,by rw[get_set_other ybc];exact sB.get g2,by rw[get_set_other ybc];exact sB.get g3,by rw[get_set_other ybc];exact sB.get g4,get_set_same rfl,ybo,ybf,ybj,ybi,ybm,ybg⟩
  ·simp(disch:=first|omega|simp only[nZ]<;>omega|fail)only[go_sem,t2,t3,t4,t6,t7,t8,YL (Ze p) hp,Nat.mul_one,g5,Zb g5,nA,hc,Zv]
   exact⟨_,_,hi,rfl,hs,⟨l1,l2,l3,.inl ybc⟩,g3,g4,g5,ybo,ybi,ybm,ybg⟩
 obtain⟨rfl,tm,h2,hi,rfl,s2,hhi,g3,g4,g5,t2,t6,t7,t8⟩:=hx
 have n7:=WA (a.put p lo) hp
 have n8:=WA (a.put p hi) hp
 simp only[Zj] at n7 n8
 rw[at_put a hp] at n7 n8
 have lb:=s2.wf _ _ g5
 simp(disch:=first|omega|simp only[nZ]<;>omega|fail)only[go_sem,t2,t6,t7,t8,YL (Ze p) hp,Nat.mul_one,Zb g4,Zb g5,n7,n8,Zv,g3]
 exact q lo hi _ (s2.set ybc ybc hw _) hlo hhi
theorem apartK_row (t:Tb)(a b:Sd){i k:Nat}(hk:k<t.lights.length):ZU t a b (i*t.lights.length+k+1)=ZU t a b (i*t.lights.length+k)++if ZR t a b i k=true then[((i:Int),(k:Int))] else[]:=by
 have e1:(i*t.lights.length+k)/t.lights.length=i:=by rw[Nat.add_comm,Nat.add_mul_div_right _ _ ybc,Nat.div_eq_of_lt hk,Nat.zero_add]
 have e2:(i*t.lights.length+k)%t.lights.length=k:=by rw[Nat.add_comm,Nat.add_mul_mod_self_right,Nat.mod_eq_of_lt hk]
 simp only[ZU,e1,e2]
set_option maxHeartbeats 2000000 in
theorem refApart_ev {h:H}{v:V}{t:Tb}(hw:h.wf)(ht:ZK h v t)(g:Good t){a b:Sd}(ha:InS a 20)(hb:InS b 20)(Q:V→H→Prop)(q:∀x h',Zq h h' x 2 ((ZU t a b (t.eyes.length*t.lights.length)).map VY)→Q x h'):
  Ev fnG Zm (.fn 145 [] []) [v,.agg (Zj a),.agg (Zj b)] h Q:=by
 have ht0:=ht
 obtain⟨E,L,P,rfl,aE,aL,aP⟩:=ht
 have hlE:=aE.lenE
 have hlL:=aL.lenE
 have bE:=aE.boundE
 have bL:=aL.boundE
 refine Zd (fd:=c145) rfl rfl rfl ?_
 have s4:h.Sub (((h.add (.bk [E,L,P])).add (.bk [.ii a.x,.ii a.y,.ii a.z])).add (.bk [.ii b.x,.ii b.y,.ii b.z])):=yba
 have q3:(((h.add (.bk [E,L,P])).add (.bk [.ii a.x,.ii a.y,.ii a.z])).add (.bk [.ii b.x,.ii b.y,.ii b.z])).cells h.next=some [E,L,P]:=by simp(disch:=first|omega|simp only[nZ]<;>omega|fail)only[go_sem]
 have q4:(((h.add (.bk [E,L,P])).add (.bk [.ii a.x,.ii a.y,.ii a.z])).add (.bk [.ii b.x,.ii b.y,.ii b.z])).cells (h.next+1)=some [.ii a.x,.ii a.y,.ii a.z]:=by simp(disch:=first|omega|simp only[nZ]<;>omega|fail)only[go_sem]
 have q5:(((h.add (.bk [E,L,P])).add (.bk [.ii a.x,.ii a.y,.ii a.z])).add (.bk [.ii b.x,.ii b.y,.ii b.z])).cells (h.next+1+1)=some [.ii b.x,.ii b.y,.ii b.z]:=by simp(disch:=first|omega|simp only[nZ]<;>omega|fail)only[go_sem]
 have gE:=g.eyes
 have gL:=g.lights
 have hmul:t.eyes.length*t.lights.length≤24:=Nat.le_trans (Nat.mul_le_mul gE.2 gL.2) ybn
 simp(disch:=first|omega|simp only[nZ]<;>omega|fail)only[c145,go_sem,Zj]
 generalize(((h.add (.bk [E,L,P])).add (.bk [.ii a.x,.ii a.y,.ii a.z])).add (.bk [.ii b.x,.ii b.y,.ii b.z]))=h7 at s4 q3 q4 q5⊢
 refine Zh t.eyes.length (fun i s=>∃tm h' y,s=⟨tm,h',[]⟩∧Zq h7 h' y 2 ((ZU t a b (i*t.lights.length)).map VY)∧tm.E 3=.ptr h.next 0∧tm.E 4=.ptr (h.next+1) 0∧tm.E 5=.ptr (h.next+1+1) 0∧tm.E 7=y∧tm.E 8=.ii (i:Int))
  ?_ ?_ (i:=0) (Nat.zero_le _) ⟨_,_,.nils,rfl,by rw[Nat.zero_mul];exact Zq.nil (H.Sub.refl s4.wf) 2,ybb,ybb,ybb,ybb,ybb⟩
 ·rintro i s hi ⟨tm,h',y,rfl,oy,t3,t4,t5,t7,t8⟩
  have hi':(i:Int)<(t.eyes.length:Int):=by omega
  have hrow:(i+1)*t.lights.length≤t.eyes.length*t.lights.length:=Nat.mul_le_mul_right _ hi
  simp(disch:=first|omega|simp only[nZ]<;>omega|fail)only[go_sem,t3,t4,t5,t7,t8,hi',hlE,oy.1.cells q3,Zv]
  refine Zh t.lights.length (fun k s=>∃tm h' y,s=⟨tm,h',[]⟩∧Zq h7 h' y 2 ((ZU t a b (i*t.lights.length+k)).map VY)∧tm.E 3=.ptr h.next 0∧tm.E 4=.ptr (h.next+1) 0∧tm.E 5=.ptr (h.next+1+1) 0∧tm.E 7=y∧tm.E 8=.ii (i:Int)∧tm.E 9=.ii (k:Int))
   ?_ ?_ (i:=0) (Nat.zero_le _) ⟨_,_,y,rfl,oy,ybf,ybj,ybk,ybm,ybg,ybb⟩
  ·rintro k s hk ⟨tm,h',y,rfl,oy,t3,t4,t5,t7,t8,t9⟩
   have hk':(k:Int)<(t.lights.length:Int):=by omega
   have s7':=oy.1
   have hs:=s4.trans s7'
   have hsee:=refSees_ev hs.wf (ht0.mono hs) g hi hk ha hb
   simp only[Zj] at hsee
   have hrow2:i*t.lights.length+k+1≤t.eyes.length*t.lights.length:=by rw[Nat.succ_mul] at hrow;omega
   have hst:=apartK_row t a b (i:=i) hk
   have hlen:=YW t a b (i*t.lights.length+k)
   rw[tellsAt_eq hi hk] at hst
   simp(disch:=first|omega|simp only[nZ]<;>omega|fail)only[go_sem,t3,t4,t5,t7,t8,t9,s7'.cells q3,s7'.cells q4,s7'.cells q5,hlL,hk',Zv]
   refine hsee _ fun h2 s2=>?_
   obtain⟨bE,oE,cE,csE,eE,hcE,hqE,_,hnE,_⟩:=(aE.mono (hs.trans s2)).at hi
   have hfr:nth (oE+i*4+3) csE=some (.ii t.eyes[i].frm):=by rw[hnE 3 ybc];rfl
   have hcE1:h'.cells bE=some csE:=by
    obtain⟨bE',oE',cE',csE',eE',hcE',_⟩:=(aE.mono hs).at hi
    rw[eE] at eE';injection eE' with x1 x2;subst x1
    have e1:=s2.cells hcE'
    rw[hcE] at e1;cases e1
    exact hcE'
   have oy2:=oy.mono s2
   have s72:=s7'.trans s2
   simp(disch:=first|omega|simp only[nZ]<;>omega|fail)only[go_sem,t3,t4,t5,t7,t8,t9,s7'.cells q3,s7'.cells q4,s7'.cells q5,s72.cells q3,s72.cells q4,s72.cells q5,hqE (Ze i),hcE,hcE1,hfr,Zv]
   by_cases hc:t.eyes[i].frm≤Wz t.eyes[i].s t.lights[k] a b
   ·rw[decide_eq_true hc] at hst
    simp only[↓reduceIte] at hst
    have sC:=(H.Sub.refl s2.wf).add (.bk [.ii (i:Int),.ii (k:Int)])
    have own2:Zg (h2.add (.bk [.ii (i:Int),.ii (k:Int)])) (.sl h2.next 0 1 (.fix 1)) 2 [[.ii (i:Int),.ii (k:Int)]]:=Zg.new _ rfl rfl ybb ybb ybb
    simp(disch:=first|omega|simp only[nZ]<;>omega|fail)only[go_sem,t3,t4,t5,t7,t8,t9,hc,hcE1,hfr]
    refine(oy2.mono sC).app1 (by_:=16) (r:=VY (i,k)) s4.wf rfl ybc own2 rfl ybd ybd fun h9 o9 k9 n9=>?_
    rw[H.next_add] at o9
    simp(disch:=first|omega|simp only[nZ]<;>omega|fail)only[go_sem,t3,t4,t5,t7,t8,t9,Zc]
    exact⟨_,_,_,rfl,by rw[←Nat.add_assoc,hst,List.map_append];exact o9,ybf,ybj,ybk,ybb,ybg,ybb⟩
   ·rw[decide_eq_false hc] at hst
    simp only[Bool.false_eq_true, ↓reduceIte,List.append_nil] at hst
    simp(disch:=first|omega|simp only[nZ]<;>omega|fail)only[go_sem,t3,t4,t5,t7,t8,t9,hc,hcE1,hfr,Zc]
    exact⟨_,_,y,rfl,by rw[←Nat.add_assoc,hst];exact oy2,ybf,ybj,ybk,ybm,ybg,ybb⟩
  ·rintro s ⟨tm,h',y,rfl,oy,t3,t4,t5,t7,t8,t9⟩
   simp(disch:=first|omega|simp only[nZ]<;>omega|fail)only[go_sem,t3,t4,t5,t7,t8,t9,oy.1.cells q3,hlL,Int.lt_irrefl,Zv,Zc]
   exact⟨_,_,y,rfl,by rw[Nat.succ_mul];exact oy,ybf,ybj,ybk,ybm,ybb⟩
 ·rintro s ⟨tm,h',y,rfl,oy,t3,t4,t5,t7,t8⟩
  have hlen:=YW t a b (t.eyes.length*t.lights.length)
  simp(disch:=first|omega|simp only[nZ]<;>omega|fail)only[go_sem,t3,t4,t5,t7,t8,oy.1.cells q3,hlE,Int.lt_irrefl,Zv]
  exact q y _ (oy.up s4)
end Go.Ab.Tryz
namespace Go.Ab.Tryz
variable {Fn:Nat→Option FD} {fast:Nat→Option (List V→H→Option (V × H))} {N fn:Nat} {ro:Option Nat}
theorem W_assoc {A B P:C}{s:St}{R:X→St→Prop}:W Fn fast N fn ro (A.seq (B.seq P)) s R=W Fn fast N fn ro ((A.seq B).seq P) s R:=by
 rw[W_seq,W_seq,W_seq]
 congr 1
 funext x s'
 cases x
 ·simp only[Kseq,W_seq]
 ·rfl
 ·rfl
theorem W_split {A P:C}{s:St}{R:X→St→Prop}(J:St→Prop)(h:W Fn fast N fn ro A s (fun x s'=>x=.nrm∧J s'))(k:∀s',J s'→W Fn fast N fn ro P s' R):W Fn fast N fn ro (A.seq P) s R:=by
 rw[W_seq]
 exact h.mono fun x s' ⟨hx,hj⟩=>by subst hx;exact k s' hj
theorem Wc {v:V}{c1 c2:C}{s1 s2:St}{K:X→St→Prop}{tg}(R:X→St→Prop)(h:PBd v (W Fn fast N fn ro c1 s1 R) (W Fn fast N fn ro c2 s2 R) ⟨⟩)(k:∀x s,R x s→K x s):PBd v (W Fn fast N fn ro c1 s1 K) (W Fn fast N fn ro c2 s2 K) tg:=by
 cases v
 case bool b=>cases b<;>exact W.mono h k
 all_goals exact h.elim
theorem d30:decide ((3:Int)=0)=false:=rfl
theorem d10:decide ((1:Int)=0)=false:=rfl
theorem d00:decide ((0:Int)=0)=true:=rfl
theorem pr_feq (a b:Int):q_feq true 2 (.agg [.ii a,.ii b]) (.agg [.ii a,.ii b])=some (.bool false):=by
 have h:=Wu (n:=2) [a,b] [a,b] rfl rfl true
 rw[decide_eq_true rfl] at h
 exact h
theorem IsLo.shadesR' {t:Tb}{a:Sd}{w lo hi lo' hi':Int}(x:Ys t a w lo hi)(y:Ys t a w lo' hi'):lo=lo'∧hi=hi':=by
 unfold Ys at *
 by_cases e:shE t a w=0
 ·rw[if_pos e] at x y
  have g:Good t:=Z5.1 (by
   unfold shE at e
   split at e
   ·assumption
   ·rename_i h;exact Decidable.not_not.1 h)
  have hp:w.toNat<3:=by
   unfold shE at e
   split at e
   ·omega
   ·split at e
    ·omega
    ·split at e
     ·omega
     ·rename_i h;simp[inB] at h;omega
  exact⟨x.1.uniq g hp y.1,x.2.uniq g hp y.2⟩
 ·rw[if_neg e] at x y
  omega
theorem Small_of {t:Tb}(h:YO t=false):Small t:=by
 simp only[YO,decide_eq_false_iff_not] at h
 exact⟨by omega,by omega,by omega⟩
set_option maxHeartbeats 4000000 in
theorem EyeMatches_sub {h:H}{v:V}{t:Tb}(hw:h.wf)(ht:ZK h v t)(a b:Sd)(p r w:Int):
  Ev fnG Zm (.fn 98 [] []) [v,.agg (Zj a),.agg (Zj b),.ii p,.ii r,.ii w] h (fun u h'=>u=.bool true∧h.Sub h'):=by
 have ht0:=ht
 obtain⟨E,L,P,rfl,aE,aL,aP⟩:=ht
 refine Zd (fd:=c98) rfl rfl rfl ?_
 have s3:h.Sub (((h.add (.bk [E,L,P])).add (.bk [.ii a.x,.ii a.y,.ii a.z])).add (.bk [.ii b.x,.ii b.y,.ii b.z])):=yba
 have q3:(((h.add (.bk [E,L,P])).add (.bk [.ii a.x,.ii a.y,.ii a.z])).add (.bk [.ii b.x,.ii b.y,.ii b.z])).cells h.next=some [E,L,P]:=by simp(disch:=first|omega|simp only[nZ]<;>omega|fail)only[go_sem]
 have q4:(((h.add (.bk [E,L,P])).add (.bk [.ii a.x,.ii a.y,.ii a.z])).add (.bk [.ii b.x,.ii b.y,.ii b.z])).cells (h.next+1)=some [.ii a.x,.ii a.y,.ii a.z]:=by simp(disch:=first|omega|simp only[nZ]<;>omega|fail)only[go_sem]
 have q5:(((h.add (.bk [E,L,P])).add (.bk [.ii a.x,.ii a.y,.ii a.z])).add (.bk [.ii b.x,.ii b.y,.ii b.z])).cells (h.next+1+1)=some [.ii b.x,.ii b.y,.ii b.z]:=by simp(disch:=first|omega|simp only[nZ]<;>omega|fail)only[go_sem]
 have nx:(((h.add (.bk [E,L,P])).add (.bk [.ii a.x,.ii a.y,.ii a.z])).add (.bk [.ii b.x,.ii b.y,.ii b.z])).next=h.next+3:=by simp only[H.next_add]
 simp(disch:=first|omega|simp only[nZ]<;>omega|fail)only[c98,go_sem,Zj]
 generalize(((h.add (.bk [E,L,P])).add (.bk [.ii a.x,.ii a.y,.ii a.z])).add (.bk [.ii b.x,.ii b.y,.ii b.z]))=h3 at s3 q3 q4 q5 nx⊢
 refine great_ev s3.wf (ht0.mono s3) _ fun h4 s34=>?_
 cases hg:YO t
 case true=>
  simp(disch:=first|omega|simp only[nZ]<;>omega|fail)only[go_sem,YC]
  first|exact⟨rfl,s3.trans s34⟩|exact s3.trans s34
 have hsm:=Small_of hg
 simp(disch:=first|omega|simp only[nZ]<;>omega|fail)only[go_sem,s34.cells q3]
 refine own_ev s34.wf (ht0.mono (s3.trans s34)) hsm _ fun u h5 s45 hu=>?_
 have s35:=s34.trans s45
 simp(disch:=first|omega|simp only[nZ]<;>omega|fail)only[go_sem,s34.cells q3,s35.cells q3]
 refine Vm s45.wf (ht0.mono (s3.trans s35)) hsm _ fun o h6 s56 ho=>?_
 have s36:=s35.trans s56
 have hu0:=hu.is hsm
 have ho0:=ho
 obtain⟨a1,a2,a3,rfl,hu⟩:=hu
 obtain⟨E2,L2,P2,rfl,o1,o2,o3⟩:=ho
 have lx:=s36.next
 rw[nx] at lx
 have n1:=o1.one
 have n2:=o2.one
 have n3:=o3.one
 have s67:h6.Sub ((((((((h6.add (.bk [.nils,.nils,.nils])).add (.bk [.nils,.nils,.nils])).set h6.next (.bk [.sl a1 0 t.eyes.length (.fix t.eyes.length),.sl a2 0 t.lights.length (.fix t.lights.length),.sl a3 0 t.pieces.length (.fix t.pieces.length)])).set (h6.next+1) (.bk [E2,L2,P2])).add (.bk [.ii 0,.ii 0,.ii 0])).add (.bk [.ii 0,.ii 0,.ii 0])).set (h6.next+1+1) (.bk [.ii a.x,.ii a.y,.ii a.z])).set (h6.next+1+1+1) (.bk [.ii b.x,.ii b.y,.ii b.z])):=
  (((((((H.Sub.refl s56.wf).add _).add _).set (b:=h6.next) (Nat.le_refl _) (by simp only[H.next_add];omega) s56.wf _).set (b:=h6.next+1) ybc ybl s56.wf _).add _).add _).set (b:=h6.next+1+1) ybc ybl s56.wf _ |>.set (b:=h6.next+1+1+1) ybc ybl s56.wf _
 have c13:((((((((h6.add (.bk [.nils,.nils,.nils])).add (.bk [.nils,.nils,.nils])).set h6.next (.bk [.sl a1 0 t.eyes.length (.fix t.eyes.length),.sl a2 0 t.lights.length (.fix t.lights.length),.sl a3 0 t.pieces.length (.fix t.pieces.length)])).set (h6.next+1) (.bk [E2,L2,P2])).add (.bk [.ii 0,.ii 0,.ii 0])).add (.bk [.ii 0,.ii 0,.ii 0])).set (h6.next+1+1) (.bk [.ii a.x,.ii a.y,.ii a.z])).set (h6.next+1+1+1) (.bk [.ii b.x,.ii b.y,.ii b.z])).cells h6.next=some [.sl a1 0 t.eyes.length (.fix t.eyes.length),.sl a2 0 t.lights.length (.fix t.lights.length),.sl a3 0 t.pieces.length (.fix t.pieces.length)]:=by simp(disch:=first|omega|simp only[nZ]<;>omega|fail)only[go_sem]
 have c14:((((((((h6.add (.bk [.nils,.nils,.nils])).add (.bk [.nils,.nils,.nils])).set h6.next (.bk [.sl a1 0 t.eyes.length (.fix t.eyes.length),.sl a2 0 t.lights.length (.fix t.lights.length),.sl a3 0 t.pieces.length (.fix t.pieces.length)])).set (h6.next+1) (.bk [E2,L2,P2])).add (.bk [.ii 0,.ii 0,.ii 0])).add (.bk [.ii 0,.ii 0,.ii 0])).set (h6.next+1+1) (.bk [.ii a.x,.ii a.y,.ii a.z])).set (h6.next+1+1+1) (.bk [.ii b.x,.ii b.y,.ii b.z])).cells (h6.next+1)=some [E2,L2,P2]:=by simp(disch:=first|omega|simp only[nZ]<;>omega|fail)only[go_sem]
 have c15:((((((((h6.add (.bk [.nils,.nils,.nils])).add (.bk [.nils,.nils,.nils])).set h6.next (.bk [.sl a1 0 t.eyes.length (.fix t.eyes.length),.sl a2 0 t.lights.length (.fix t.lights.length),.sl a3 0 t.pieces.length (.fix t.pieces.length)])).set (h6.next+1) (.bk [E2,L2,P2])).add (.bk [.ii 0,.ii 0,.ii 0])).add (.bk [.ii 0,.ii 0,.ii 0])).set (h6.next+1+1) (.bk [.ii a.x,.ii a.y,.ii a.z])).set (h6.next+1+1+1) (.bk [.ii b.x,.ii b.y,.ii b.z])).cells (h6.next+1+1)=some [.ii a.x,.ii a.y,.ii a.z]:=by simp(disch:=first|omega|simp only[nZ]<;>omega|fail)only[go_sem]
 have c16:((((((((h6.add (.bk [.nils,.nils,.nils])).add (.bk [.nils,.nils,.nils])).set h6.next (.bk [.sl a1 0 t.eyes.length (.fix t.eyes.length),.sl a2 0 t.lights.length (.fix t.lights.length),.sl a3 0 t.pieces.length (.fix t.pieces.length)])).set (h6.next+1) (.bk [E2,L2,P2])).add (.bk [.ii 0,.ii 0,.ii 0])).add (.bk [.ii 0,.ii 0,.ii 0])).set (h6.next+1+1) (.bk [.ii a.x,.ii a.y,.ii a.z])).set (h6.next+1+1+1) (.bk [.ii b.x,.ii b.y,.ii b.z])).cells (h6.next+1+1+1)=some [.ii b.x,.ii b.y,.ii b.z]:=by simp(disch:=first|omega|simp only[nZ]<;>omega|fail)only[go_sem]
 simp(disch:=first|omega|simp only[nZ]<;>omega|fail)only[go_sem,s34.cells q3,s35.cells q3,s36.cells q3,s36.cells q4,s36.cells q5,n1,n2,n3]
 generalize((((((((h6.add (.bk [.nils,.nils,.nils])).add (.bk [.nils,.nils,.nils])).set h6.next (.bk [.sl a1 0 t.eyes.length (.fix t.eyes.length),.sl a2 0 t.lights.length (.fix t.lights.length),.sl a3 0 t.pieces.length (.fix t.pieces.length)])).set (h6.next+1) (.bk [E2,L2,P2])).add (.bk [.ii 0,.ii 0,.ii 0])).add (.bk [.ii 0,.ii 0,.ii 0])).set (h6.next+1+1) (.bk [.ii a.x,.ii a.y,.ii a.z])).set (h6.next+1+1+1) (.bk [.ii b.x,.ii b.y,.ii b.z]))=h7 at s67 c13 c14 c15 c16⊢
 have s37:=s36.trans s67
 have s7:=s3.trans s37
 refine X2 s7.wf (ho0.mono s67) _ fun h8 s78=>?_
 simp(disch:=first|omega|simp only[nZ]<;>omega|fail)only[go_sem]
 refine Wc (R:=fun x s=>x=.nrm∧∃tm h' x22 x23 b25 lo hi,s=⟨tm,h',[]⟩∧h7.Sub h'∧Zg h' x22 2 ((if Wl t a b=0 then Yg t a b else[]).map VY)∧Zg h' x23 1 ((Y8 t a).map encI)∧h'.get b25=some (.bk [.ii lo,.ii hi])∧Ys t a w lo hi∧
  tm.E 3=.ii p∧tm.E 4=.ii r∧tm.E 5=.ii w∧tm.E 6=.ptr h.next 0∧tm.E 7=.ptr (h.next+1) 0∧tm.E 8=.ptr (h.next+1+1) 0∧tm.E 13=.ptr h6.next 0∧tm.E 14=.ptr (h6.next+1) 0∧
  tm.E 18=.ii (Wl t a b)∧tm.E 19=.ii (oneE t a)∧tm.E 20=.ii (shE t a w)∧tm.E 22=x22∧tm.E 23=x23∧tm.E 25=.ptr b25 0∧tm.E 21=.ii (YT t p r)∧tm.E 24=.bool (We t p r)) ?_ fun x s hx=>?_
 ·have g25:(h8.add (.bk [.ii 0,.ii 0])).get h8.next=some (.bk [.ii 0,.ii 0]):=by simp(disch:=first|omega|simp only[nZ]<;>omega|fail)only[go_sem]
  have s89:=(H.Sub.refl s78.wf).add (.bk [.ii 0,.ii 0])
  have s79:=s78.trans s89
  by_cases c:check t=0
  case neg=>
   have e2:Wl t a b=check t:=by unfold Wl;rw[if_pos c]
   have e1:oneE t a=check t:=by unfold oneE;rw[if_pos c]
   have e3:shE t a w=check t:=by unfold shE;rw[if_pos c]
   have e4:YT t p r=check t:=by unfold YT;rw[if_pos c]
   have e5:We t p r=false:=by unfold We;rw[e4,decide_eq_false c];rfl
   simp(disch:=first|omega|simp only[nZ]<;>omega|fail)only[go_sem,c]
   exact⟨_,_,.nils,.nils,h8.next,0,0,rfl,s79,by rw[e2,if_neg c];exact(Zq.nil s79 2).sl ybb,by unfold Y8;rw[e1,if_neg c];exact(Zq.nil s79 1).sl ybb,g25,by unfold Ys;rw[e3,if_neg c];exact⟨rfl,rfl⟩,
    ybb,ybb,ybb,ybb,ybb,ybb,ybb,ybb,by rw[e2];exact ybb,by rw[e1];exact ybb,by rw[e3];exact ybb,ybb,ybb,ybb,by rw[e4];exact ybb,by rw[e5];exact ybb⟩
  have g:=Z5.1 c
  rw[show decide (check t=0)=true from decide_eq_true c,PBd_true,W_assoc,W_assoc,W_assoc]
  refine W_split (fun s=>∃tm h' x22 x23 b25 lo hi,s=⟨tm,h',[]⟩∧h7.Sub h'∧Zg h' x22 2 ((if Wl t a b=0 then Yg t a b else[]).map VY)∧Zg h' x23 1 ((Y8 t a).map encI)∧h'.get b25=some (.bk [.ii lo,.ii hi])∧Ys t a w lo hi∧
  tm.E 3=.ii p∧tm.E 4=.ii r∧tm.E 5=.ii w∧tm.E 6=.ptr h.next 0∧tm.E 7=.ptr (h.next+1) 0∧tm.E 8=.ptr (h.next+1+1) 0∧tm.E 13=.ptr h6.next 0∧tm.E 14=.ptr (h6.next+1) 0∧
  tm.E 18=.ii (Wl t a b)∧tm.E 19=.ii (oneE t a)∧tm.E 20=.ii (shE t a w)∧tm.E 22=x22∧tm.E 23=x23∧tm.E 25=.ptr b25 0∧tm.E 24=.bool false) ?_ ?_
  ·have sl0:∀sz,∀h',h7.Sub h'→Zg h' .nils sz []:=fun sz h' s=>(Zq.nil s sz).sl ybb
   have hr:=fun hh (hw:h7.Sub hh) (s:Sd)=>refRight_ev (h:=hh) (hw:=hw.wf) s
   simp only[Zj] at hr
   simp(disch:=first|omega|simp only[nZ]<;>omega|fail)only[go_sem,s79.cells c15]
   refine hr _ s79 a _ fun hA sA=>?_
   have s7A:=s79.trans sA
   cases ca:a.within 20
   ·have e2:Wl t a b=3:=by unfold Wl;rw[if_neg ybh,if_pos (.inl ca)]
    have e1:oneE t a=3:=by unfold oneE;rw[if_neg ybh,if_pos ca]
    have e3:shE t a w=3:=by unfold shE;rw[if_neg ybh,if_pos ca]
    simp(disch:=first|omega|simp only[nZ]<;>omega|fail)only[go_sem,d30,Bool.false_eq_true, ↓reduceIte]
    exact⟨_,_,.nils,.nils,h8.next,0,0,rfl,s7A,by rw[e2];exact sl0 2 _ s7A,by unfold Y8;rw[e1];exact sl0 1 _ s7A,sA.get g25,by unfold Ys;rw[e3];exact⟨rfl,rfl⟩,
     ybb,ybb,ybb,ybb,ybb,ybb,ybb,ybb,by rw[e2];exact ybb,by rw[e1];exact ybb,by rw[e3];exact ybb,ybb,ybb,ybb,ybb⟩
   have e1:oneE t a=0:=by unfold oneE;rw[if_neg ybh,if_neg ybw]
   have ha:=within_iff.1 ca
   have hl22:((if Wl t a b=0 then Yg t a b else[]).map VY).length≤9223372036854775807:=by
    rw[List.length_map]
    split
    ·rw[VG g]
     exact Nat.le_trans (YW _ _ _ _) (Nat.le_trans (Nat.mul_le_mul g.eyes.2 g.lights.2) ybn)
    ·exact Nat.zero_le _
   have hl23:((Y8 t a).map encI).length≤9223372036854775807:=by
    rw[List.length_map]
    unfold Y8
    rw[if_pos e1]
    exact Nat.le_trans (Xh _ _ _) (Nat.le_trans g.pieces ybn)
   simp(disch:=first|omega|simp only[nZ]<;>omega|fail)only[go_sem,d00, ↓reduceIte,s7A.cells c16]
   refine hr _ s7A b _ fun hB sB=>?_
   have s7B:=s7A.trans sB
   cases cb:b.within 20
   ·have e2:Wl t a b=3:=by unfold Wl;rw[if_neg ybh,if_pos (.inr cb)]
    have o22:Zq h7 hB .nils 2 ((if Wl t a b=0 then Yg t a b else[]).map VY):=by rw[e2];exact Zq.nil s7B 2
    simp(disch:=first|omega|simp only[nZ]<;>omega|fail)only[go_sem,d30,d00,Bool.false_eq_true, ↓reduceIte,s7B.cells c14,s7B.cells c15]
    have hsc:=refScrap_ev (h:=hB) s7B.wf (ho0.mono (s67.trans s7B)) g ha
    simp only[Zj] at hsc
    refine hsc _ fun x23 hC oC=>?_
    have sC:=oC.1
    have s7C:=s7B.trans sC
    have e23:Y8 t a=Xv t a t.pieces.length:=by unfold Y8;rw[if_pos e1]
    rw[←e23] at oC
    have o22C:=o22.mono sC
    cases cp:inB w 0 2
    ·have e3:shE t a w=1:=by unfold shE;rw[if_neg ybh,if_neg ybw,if_pos cp]
     simp only[inB,decide_eq_false_iff_not] at cp
     by_cases w0:0≤w
     ·have w1:¬w<3:=by omega
      simp(disch:=first|omega|simp only[nZ]<;>omega|fail)only[go_sem,w0,w1]
      exact⟨_,_,.nils,x23,h8.next,0,0,rfl,s7C,o22C.sl hl22,oC.sl hl23,sC.get (sB.get (sA.get g25)),by unfold Ys;rw[e3];exact⟨rfl,rfl⟩,
       ybb,ybb,ybb,ybb,ybb,ybb,ybb,ybb,by rw[e2];exact ybb,by rw[e1];exact ybb,by rw[e3];exact ybb,ybb,ybb,ybb,ybb⟩
     ·simp(disch:=first|omega|simp only[nZ]<;>omega|fail)only[go_sem,w0]
      exact⟨_,_,.nils,x23,h8.next,0,0,rfl,s7C,o22C.sl hl22,oC.sl hl23,sC.get (sB.get (sA.get g25)),by unfold Ys;rw[e3];exact⟨rfl,rfl⟩,
       ybb,ybb,ybb,ybb,ybb,ybb,ybb,ybb,by rw[e2];exact ybb,by rw[e1];exact ybb,by rw[e3];exact ybb,ybb,ybb,ybb,ybb⟩
    ·have e3:shE t a w=0:=by unfold shE;rw[if_neg ybh,if_neg ybw,if_neg (by simp[cp])]
     simp only[inB,decide_eq_true_eq] at cp
     obtain⟨j,rfl⟩:=Int.eq_ofNat_of_zero_le cp.1
     have hj:j<3:=by omega
     have w0:(0:Int)≤(j:Int):=by omega
     have w1:(j:Int)<3:=by omega
     have hsh:=refShades_ev (h:=hC) sC.wf (ho0.mono (s67.trans s7C)) g ha hj
     simp only[Zj] at hsh
     simp(disch:=first|omega|simp only[nZ]<;>omega|fail)only[go_sem,w0,w1,s7C.cells c14,s7C.cells c15]
     refine hsh _ fun lo hi hD sD hlo hhi=>?_
     have gD:=sD.get (sC.get (sB.get (sA.get g25)))
     have lD:=(s7C.trans sD).wf _ _ gD
     have l78:=s78.next
     have kE:=Zi.set hD h8.next (.bk [.ii lo,.ii hi])
     have sE:=(s7C.trans sD).set (b:=h8.next) l78 lD s7.wf (.bk [.ii lo,.ii hi])
     have sE0:=(s7B.trans (sC.trans sD))
     have o22D:=o22C.mono sD
     have o23D:=oC.mono sD
     have o22E:=o22D.keep kE sE fun b hb hc=>by subst hc;exact o22D.ne gD hb
     have o23E:=(o23D.up s7B).keep kE sE fun b hb hc=>by subst hc;exact o23D.ne gD hb
     simp(disch:=first|omega|simp only[nZ]<;>omega|fail)only[go_sem,gD]
     exact⟨_,_,.nils,x23,h8.next,lo,hi,rfl,sE,o22E.sl hl22,o23E.sl hl23,get_set_same rfl,by unfold Ys;rw[e3,if_pos rfl,Int.toNat_natCast];exact⟨hlo,hhi⟩,
       ybb,ybb,ybb,ybb,ybb,ybb,ybb,ybb,by rw[e2];exact ybb,by rw[e1];exact ybb,by rw[e3];exact ybb,ybb,ybb,ybb,ybb⟩
   ·have e2:Wl t a b=0:=by unfold Wl;rw[if_neg ybh,if_neg (by simp[ca,cb])]
    have hap:=refApart_ev (h:=hB) s7B.wf (ho0.mono (s67.trans s7B)) g ha (within_iff.1 cb)
    simp only[Zj] at hap
    simp(disch:=first|omega|simp only[nZ]<;>omega|fail)only[go_sem,d30,d00,Bool.false_eq_true, ↓reduceIte,s7B.cells c14,s7B.cells c15,s7B.cells c16]
    refine hap _ fun x22 hF o22=>?_
    have sF:=o22.1
    have s7F:=s7B.trans sF
    have o22:Zq h7 hF x22 2 ((if Wl t a b=0 then Yg t a b else[]).map VY):=by rw[e2,if_pos rfl,VG g];exact o22.up s7B
    simp(disch:=first|omega|simp only[nZ]<;>omega|fail)only[go_sem,d30,d00,Bool.false_eq_true, ↓reduceIte,s7F.cells c14,s7F.cells c15]
    have hsc:=refScrap_ev (h:=hF) s7F.wf (ho0.mono (s67.trans s7F)) g ha
    simp only[Zj] at hsc
    refine hsc _ fun x23 hC oC=>?_
    have sC:=oC.1
    have s7C:=s7F.trans sC
    have e23:Y8 t a=Xv t a t.pieces.length:=by unfold Y8;rw[if_pos e1]
    rw[←e23] at oC
    have o22C:=o22.mono sC
    cases cp:inB w 0 2
    ·have e3:shE t a w=1:=by unfold shE;rw[if_neg ybh,if_neg ybw,if_pos cp]
     simp only[inB,decide_eq_false_iff_not] at cp
     by_cases w0:0≤w
     ·have w1:¬w<3:=by omega
      simp(disch:=first|omega|simp only[nZ]<;>omega|fail)only[go_sem,w0,w1]
      exact⟨_,_,x22,x23,h8.next,0,0,rfl,s7C,o22C.sl hl22,oC.sl hl23,sC.get (sF.get (sB.get (sA.get g25))),by unfold Ys;rw[e3];exact⟨rfl,rfl⟩,
       ybb,ybb,ybb,ybb,ybb,ybb,ybb,ybb,by rw[e2];exact ybb,by rw[e1];exact ybb,by rw[e3];exact ybb,ybb,ybb,ybb,ybb⟩
     ·simp(disch:=first|omega|simp only[nZ]<;>omega|fail)only[go_sem,w0]
      exact⟨_,_,x22,x23,h8.next,0,0,rfl,s7C,o22C.sl hl22,oC.sl hl23,sC.get (sF.get (sB.get (sA.get g25))),by unfold Ys;rw[e3];exact⟨rfl,rfl⟩,
       ybb,ybb,ybb,ybb,ybb,ybb,ybb,ybb,by rw[e2];exact ybb,by rw[e1];exact ybb,by rw[e3];exact ybb,ybb,ybb,ybb,ybb⟩
    ·have e3:shE t a w=0:=by unfold shE;rw[if_neg ybh,if_neg ybw,if_neg (by simp[cp])]
     simp only[inB,decide_eq_true_eq] at cp
     obtain⟨j,rfl⟩:=Int.eq_ofNat_of_zero_le cp.1
     have hj:j<3:=by omega
     have w0:(0:Int)≤(j:Int):=by omega
     have w1:(j:Int)<3:=by omega
     have hsh:=refShades_ev (h:=hC) sC.wf (ho0.mono (s67.trans s7C)) g ha hj
     simp only[Zj] at hsh
     simp(disch:=first|omega|simp only[nZ]<;>omega|fail)only[go_sem,w0,w1,s7C.cells c14,s7C.cells c15]
     refine hsh _ fun lo hi hD sD hlo hhi=>?_
     have gD:=sD.get (sC.get (sF.get (sB.get (sA.get g25))))
     have lD:=(s7C.trans sD).wf _ _ gD
     have l78:=s78.next
     have kE:=Zi.set hD h8.next (.bk [.ii lo,.ii hi])
     have sE:=(s7C.trans sD).set (b:=h8.next) l78 lD s7.wf (.bk [.ii lo,.ii hi])
     have sE0:=(s7F.trans (sC.trans sD))
     have o22D:=o22C.mono sD
     have o23D:=oC.mono sD
     have o22E:=o22D.keep kE sE fun b hb hc=>by subst hc;exact o22D.ne gD hb
     have o23E:=(o23D.up s7F).keep kE sE fun b hb hc=>by subst hc;exact o23D.ne gD hb
     simp(disch:=first|omega|simp only[nZ]<;>omega|fail)only[go_sem,gD]
     exact⟨_,_,x22,x23,h8.next,lo,hi,rfl,sE,o22E.sl hl22,o23E.sl hl23,get_set_same rfl,by unfold Ys;rw[e3,if_pos rfl,Int.toNat_natCast];exact⟨hlo,hhi⟩,
       ybb,ybb,ybb,ybb,ybb,ybb,ybb,ybb,by rw[e2];exact ybb,by rw[e1];exact ybb,by rw[e3];exact ybb,ybb,ybb,ybb,ybb⟩
  ·rintro s ⟨tm,h',x22,x23,b25,lo,hi,rfl,sM,hx,hx3,g25',hsh,t3,t4,t5,t6,t7,t8,t13,t14,t18,t19,t20,t22,t23,t25,t24⟩
   have pc:∀n:Int,(if 0≤n∧n<(t.pieces.length:Int) then(0:Int) else 1)=if Y0 t n=true then 0 else 1:=fun n=>by simp[Y0]
   simp(disch:=first|omega|simp only[nZ]<;>omega|fail)only[go_sem,t3,t4,t5,t6,t7,t8,t13,t14,t18,t19,t20,t22,t23,t25,t24,sM.cells c14]
   refine X0 sM.wf (ho0.mono (s67.trans sM)) p _ fun hA sA=>?_
   have sMA:=sM.trans sA
   rw[pc]
   cases cp:Y0 t p
   ·have e4:YT t p r=1:=by unfold YT;rw[if_neg ybh,if_pos (.inl cp)]
    have e5:We t p r=false:=by unfold We;rw[e4];rfl
    simp(disch:=first|omega|simp only[nZ]<;>omega|fail)only[go_sem,t3,t4,t5,t6,t7,t8,t13,t14,t18,t19,t20,t22,t23,t25,t24,d10,Bool.false_eq_true, ↓reduceIte]
    exact⟨_,_,x22,x23,b25,lo,hi,rfl,sMA,hx.mono sA,hx3.mono sA,sA.get g25',hsh,ybf,ybj,ybk,ybi,ybm,ybg,ybp,(by simp[t14]),(by simp[t18]),(by simp[t19]),(by simp[t20]),(by simp[t22]),(by simp[t23]),ybt,by rw[e4];exact ybb,by rw[e5];exact(by simp[t24])⟩
   simp(disch:=first|omega|simp only[nZ]<;>omega|fail)only[go_sem,t3,t4,t5,t6,t7,t8,t13,t14,t18,t19,t20,t22,t23,t25,t24,d00, ↓reduceIte,sMA.cells c14]
   refine X0 sMA.wf (ho0.mono (s67.trans sMA)) r _ fun hB sB=>?_
   have sMB:=sMA.trans sB
   have sAB:=sA.trans sB
   rw[pc]
   cases cr:Y0 t r
   ·have e4:YT t p r=1:=by unfold YT;rw[if_neg ybh,if_pos (.inr cr)]
    have e5:We t p r=false:=by unfold We;rw[e4];rfl
    simp(disch:=first|omega|simp only[nZ]<;>omega|fail)only[go_sem,t3,t4,t5,t6,t7,t8,t13,t14,t18,t19,t20,t22,t23,t25,t24,d10,Bool.false_eq_true, ↓reduceIte]
    exact⟨_,_,x22,x23,b25,lo,hi,rfl,sMB,hx.mono sAB,hx3.mono sAB,sAB.get g25',hsh,ybf,ybj,ybk,ybi,ybm,ybg,ybp,(by simp[t14]),(by simp[t18]),(by simp[t19]),(by simp[t20]),(by simp[t22]),(by simp[t23]),ybt,by rw[e4];exact ybb,by rw[e5];exact(by simp[t24])⟩
   have e4:YT t p r=0:=by unfold YT;rw[if_neg ybh,if_neg (by simp[cp,cr])]
   have e5:We t p r=XC t p.toNat r.toNat:=by unfold We;rw[e4];rfl
   simp only[Y0,decide_eq_true_eq] at cp cr
   obtain⟨i,rfl⟩:=Int.eq_ofNat_of_zero_le cp.1
   obtain⟨k,rfl⟩:=Int.eq_ofNat_of_zero_le cr.1
   have hi':i<t.pieces.length:=by omega
   have hk':k<t.pieces.length:=by omega
   have e6:XC t i k=alike t t.pieces[i] t.pieces[k]:=by unfold XC;rw[List.getElem?_eq_getElem hi',List.getElem?_eq_getElem hk']
   have o3B:=o3.mono (s67.trans sMB)
   obtain⟨bP,oP,cP,csP,eP,hcP,hqP,hgP,_,_⟩:=o3B.at hi'
   obtain⟨bR,oR,cR,csR,eR,hcR,hqR,hgR,_,_⟩:=o3B.at hk'
   have hal:=X3 (h:=hB) sMB.wf (ho0.mono (s67.trans sMB)) g (g.piece _ (List.getElem_mem hi')) (g.piece _ (List.getElem_mem hk'))
   simp only[Zj] at hal hgP hgR
   simp(disch:=first|omega|simp only[nZ]<;>omega|fail)only[go_sem,t3,t4,t5,t6,t7,t8,t13,t14,t18,t19,t20,t22,t23,t25,t24,d00, ↓reduceIte,sMB.cells c14,hqP (Ze i),hcP,hgP,hqR (Ze k),hcR,hgR,Zv]
   refine hal _ fun hC sC=>?_
   have sAC:=sAB.trans sC
   simp(disch:=first|omega|simp only[nZ]<;>omega|fail)only[go_sem,t3,t4,t5,t6,t7,t8,t13,t14,t18,t19,t20,t22,t23,t25,t24,sMB.cells c14,hqP (Ze i),hcP,hgP,hqR (Ze k),hcR,hgR,Zv]
   exact⟨_,_,x22,x23,b25,lo,hi,rfl,sM.trans sAC,hx.mono sAC,hx3.mono sAC,sAC.get g25',hsh,ybf,ybj,ybk,ybi,ybm,ybg,ybp,(by simp[t14]),(by simp[t18]),(by simp[t19]),(by simp[t20]),(by simp[t22]),(by simp[t23]),ybt,by rw[e4];exact ybb,by rw[e5,Int.toNat_natCast,Int.toNat_natCast,e6];exact ybb⟩
 obtain⟨rfl,tm,h',x22,x23,b25,lo,hi,rfl,sM,hx,hx3,g25',hsh,t3,t4,t5,t6,t7,t8,t13,t14,t18,t19,t20,t22,t23,t25,t21,t24⟩:=hx
 have sX:=s56.trans (s67.trans sM)
 have s3M:=s37.trans sM
 have ap:=Apart_ev (h:=h') sM.wf (hu0.mono sX) a b
 simp only[Zj] at ap
 simp(disch:=first|omega|simp only[nZ]<;>omega|fail)only[go_sem,t3,t4,t5,t6,t7,t8,t13,t14,t18,t19,t20,t22,t23,t25,t21,t24,sM.cells c13,s3M.cells q4,s3M.cells q5]
 refine ap _ fun y hA sA hy=>?_
 simp(disch:=first|omega|simp only[nZ]<;>omega|fail)only[go_sem,t3,t4,t5,t6,t7,t8,t13,t14,t18,t19,t20,t22,t23,t25,t21,t24,(sM.trans sA).cells c13,(s3M.trans sA).cells q4]
 refine Match_ev sA.wf (hu0.mono (sX.trans sA)) p r _ fun hB sB=>?_
 have sAB:=sA.trans sB
 have sc:=Scrap_ev (h:=hB) sB.wf (hu0.mono (sX.trans sAB)) a
 simp only[Zj] at sc
 simp(disch:=first|omega|simp only[nZ]<;>omega|fail)only[go_sem,t3,t4,t5,t6,t7,t8,t13,t14,t18,t19,t20,t22,t23,t25,t21,t24,(sM.trans sAB).cells c13,(s3M.trans sAB).cells q4]
 refine sc _ fun y3 hC sC hy3=>?_
 have sAC:=sAB.trans sC
 have sh:=Shades_ev (h:=hC) sC.wf (hu0.mono (sX.trans sAC)) a w
 simp only[Zj] at sh
 simp(disch:=first|omega|simp only[nZ]<;>omega|fail)only[go_sem,t3,t4,t5,t6,t7,t8,t13,t14,t18,t19,t20,t22,t23,t25,t21,t24,(sM.trans sAC).cells c13,(s3M.trans sAC).cells q4]
 refine sh _ fun lo' hi' hD sD hsh'=>?_
 obtain⟨rfl,rfl⟩:=IsLo.shadesR' (t:=t) hsh hsh'
 have sAD:=sAC.trans sD
 have sE:=(H.Sub.refl sD.wf).add (.bk [.ii lo,.ii hi])
 have gE:(hD.add (.bk [.ii lo,.ii hi])).cells hD.next=some [.ii lo,.ii hi]:=Zf rfl
 have sAE:=sAD.trans sE
 generalize(if Wl t a b=0 then Yg t a b else[])=L at hx hy
 have hxE:=hx.mono sAE
 have hyE:=hy.mono ((sB.trans sC).trans (sD.trans sE))
 have l1:=hxE.lenE
 have l2:=hyE.lenE
 have nn:∀n:Int,decide (n≠n)=false:=fun n=>by simp
 have bb:∀v:Bool,q_beq true (.bool v) (.bool v)=some (.bool false):=fun v=>by cases v<;>rfl
 have eI:=fun R=>WN (hy3.mono (sD.trans sE)) (hx3.mono sAE) R
 simp only[decide_eq_true rfl] at eI
 have g25E:=sAE.get g25'
 have pf:=pr_feq lo hi
 simp(disch:=first|omega|simp only[nZ]<;>omega|fail)only[go_sem,t3,t4,t5,t6,t7,t8,t13,t14,t18,t19,t20,t22,t23,t25,t21,t24,nn,l1,l2,bb,eI,Bool.not_true,gE,Zb g25E,pf]
 generalize(hD.add (.bk [.ii lo,.ii hi]))=hE at sE gE sAE hxE hyE l1 l2 eI g25E⊢
 have wl:L.length≤9223372036854775807:=hxE.boundE
 have sME:=sM.trans sAE
 have s3E:=s3M.trans sAE
 refine Zh L.length (fun n s=>∃tm h',s=⟨tm,h',[]⟩∧hE.Sub h'∧tm.E 6=.ptr h.next 0∧tm.E 13=.ptr h6.next 0∧tm.E 22=x22∧tm.E 173=y∧tm.E 174=.ii (L.length:Int)∧tm.E 175=.ii (n:Int))
  ?_ ?_ (i:=0) (Nat.zero_le _) ⟨_,_,rfl,H.Sub.refl sE.wf,ybi,ybp,(by simp[t22]),ybb,ybb,ybb⟩
 ·rintro n s hn ⟨tm,h',rfl,hs,t6,t13,t22,t173,t174,t175⟩
  have hn':(n:Int)<(L.length:Int):=by omega
  obtain⟨bP,oP,cP,csP,eP,hcP,hqP,hgP,_,_⟩:=(hyE.mono hs).at hn
  obtain⟨bR,oR,cR,csR,eR,hcR,hqR,hgR,_,_⟩:=(hxE.mono hs).at hn
  obtain⟨⟨u1,u2⟩,ee⟩:∃e,L[n]=e:=⟨_,rfl⟩
  rw[ee] at hgP hgR
  simp only[VY] at hgP hgR
  have sB':=(H.Sub.refl hs.wf).add (.bk [.ii u1,.ii u2])
  have hcR':=sB'.cells hcR
  have gB:(h'.add (.bk [.ii u1,.ii u2])).cells h'.next=some [.ii u1,.ii u2]:=Zf rfl
  have pf2:=pr_feq u1 u2
  simp(disch:=first|omega|simp only[nZ]<;>omega|fail)only[go_sem,t6,t13,t22,t173,t174,t175,hn',hqP (Ze n),hcP,hgP,hqR (Ze n),hcR',hgR,gB,pf2,Zv,Zc]
  exact⟨_,_,rfl,hs.trans sB',ybi,ybp,(by simp[t22]),(by simp[t173]),(by simp[t174]),ybb⟩
 ·rintro s ⟨tm,h',rfl,hs,t6,t13,t22,t173,t174,t175⟩
  have sF:=sX.trans (sAE.trans hs)
  simp(disch:=first|omega|simp only[nZ]<;>omega|fail)only[go_sem,t6,t13,t22,t173,t174,t175,Int.lt_irrefl,(sME.trans hs).cells c13,(s3E.trans hs).cells q3]
  refine same_ev hs.wf (hu0.mono sF) (ht0.mono (s3.trans (s3E.trans hs))) _ fun hG sG=>?_
  rw[decide_eq_true rfl]
  simp(disch:=first|omega|simp only[nZ]<;>omega|fail)only[go_sem,YC]
  first|exact⟨rfl,s3.trans (s3E.trans (hs.trans sG))⟩|exact s3.trans (s3E.trans (hs.trans sG))
end Go.Ab.Tryz
namespace Go.Ab.Tryz
def Xk (es:List (Nat × Nat)):List (Int × V):=es.map fun e=>((e.1:Int),.ii (e.2:Int))
theorem lkA_ent (p:Nat):∀(es:List (Nat × Nat)),lkA (p:Int) (Xk es)=(lk p es).map fun k=>.ii (k:Int)
 |[]=>rfl
 |e::es=>by
  have ih:=lkA_ent p es
  simp only[Xk,List.map_cons,lkA,lk] at *
  by_cases h:p=e.1
  ·rw[if_pos h,if_pos (by rw[h])];rfl
  ·rw[if_neg h,if_neg ybc,ih]
theorem encA_app (l r:List (Int × V)):Z7 (l++r)=Z7 l++Z7 r:=by simp[Z7]
theorem men_new {h:H}{b:Nat}{es:List (Nat × Nat)}{p:Nat}(hb:h.get b=some (.map (Z7 (Xk es))))(hp:lk p es=none):e_men h (.ii 0) (.map b) (.ii (p:Int))=some (.tup [.ii 0,.ii (es.length:Int)],h.set b (.map (Z7 (Xk (es++[(p,0)]))))):=by
 have h1:=lkA_ent p es
 rw[hp] at h1
 have e1:(Z7 (Xk es)).length=es.length:=by simp[Z7,Xk]
 have e2:Z7 (Xk (es++[(p,0)]))=Z7 (Xk es)++[(.ii (p:Int),.ii 0)]:=by simp[Xk,encA_app];rfl
 simp only[e_men,hb,findK_A,h1,Option.map_none,lenE_eq,appE_eq,e1,e2]
 rfl
theorem lkC_none {es:List (Nat × Nat)}{p:Nat}(h:lk p es=none):lkC (some (.map (Z7 (Xk es)))) (.ii 0) (.ii (p:Int)) true=some (.tup [.ii 0,.bool false]):=by
 rw[lkC_map,lkA_ent,h];rfl
theorem lkC_some {es:List (Nat × Nat)}{p k:Nat}(h:lk p es=some k):lkC (some (.map (Z7 (Xk es)))) (.ii 0) (.ii (p:Int)) true=some (.tup [.ii (k:Int),.bool true]):=by
 rw[lkC_map,lkA_ent,h];rfl
theorem lkC_val {es:List (Nat × Nat)}{p k:Nat}(h:lk p es=some k):lkC (some (.map (Z7 (Xk es)))) (.ii 0) (.ii (p:Int)) false=some (.ii (k:Int)):=by
 rw[lkC_map,lkA_ent,h];rfl
theorem setE_last (k:V)(x z:V):∀(l:List (V × V)),setE l.length x (l++[(k,z)])=some (l++[(k,x)])
 |[]=>rfl
 |e::l=>by simp only[List.length_cons,List.cons_append,setE,setE_last k x z l]
theorem mst_new {h:H}{b:Nat}{es:List (Nat × Nat)}{p k:Nat}(hb:h.get b=some (.map (Z7 (Xk (es++[(p,0)]))))):e_mst h (.map b) (.ii (es.length:Int)) (.ii (k:Int))=some (.und,h.set b (.map (Z7 (Xk (es++[(p,k)]))))):=by
 have e1:(Z7 (Xk es)).length=es.length:=by simp[Z7,Xk]
 have e2:Z7 (Xk (es++[(p,0)]))=Z7 (Xk es)++[(.ii (p:Int),.ii ((0:Nat):Int))]:=by simp[Xk,encA_app];rfl
 have e3:Z7 (Xk (es++[(p,k)]))=Z7 (Xk es)++[(.ii (p:Int),.ii (k:Int))]:=by simp[Xk,encA_app];rfl
 have h1:=setE_last (.ii (p:Int)) (.ii (k:Int)) (.ii ((0:Nat):Int)) (Z7 (Xk es))
 rw[e1] at h1
 simp only[e_mst,hb,Ze,e2,h1,e3]
def MM (t:Tb)(q p:Nat):Bool:=XC t p q
theorem MM_comm {t:Tb}(g:Good t)(p q:Nat):MM t p q=MM t q p:=by
 unfold MM XC
 cases hp:t.pieces[p]? with
 |none=>cases hq:t.pieces[q]? <;>rfl
 |some a=>
  cases hq:t.pieces[q]? with
  |none=>rfl
  |some b=>exact alike_comm g b a
def Y4 (es:List (Nat × Nat))(m:Nat):List Int:=(es.drop m).map fun e=>(e.1:Int)
set_option maxHeartbeats 4000000 in
theorem steps_ev {h:H}{d:Nat}{t:Tb}(hw:h.wf)(hd:Ws h d t)(g:Good t){s:Nat}(hs:s<t.pieces.length)(Q:V→H→Prop)
  (q:∀b es h',h.Sub h'→h.next≤b→h'.get b=some (.map (Z7 (Xk es)))→IsD t.pieces.length (MM t) s (fun p=>lk p es)→Q (.map b) h'):Ev fnG Zm (.fn 124 [] []) [.ptr d 0,.ii (s:Int)] h Q:=by
 have gp:=g.pieces
 refine Zd (fd:=c124) rfl rfl rfl ?_
 simp(disch:=first|omega|simp only[nZ]<;>omega|fail)only[c124,go_sem,←encA_nil,putA]
 have s1:h.Sub ((h.add (.map (Z7 [((s:Int),.ii 0)]))).add (.bk [.ii (s:Int)])):=((H.Sub.refl hw).add _).add _
 have gm:((h.add (.map (Z7 [((s:Int),.ii 0)]))).add (.bk [.ii (s:Int)])).get h.next=some (.map (Z7 (Xk [(s,0)]))):=by simp(disch:=first|omega|simp only[nZ]<;>omega|fail)only[go_sem];rfl
 have gq:((h.add (.map (Z7 [((s:Int),.ii 0)]))).add (.bk [.ii (s:Int)])).get (h.next+1)=some (.bk [.ii (s:Int)]):=by simp(disch:=first|omega|simp only[nZ]<;>omega|fail)only[go_sem]
 have nq:((h.add (.map (Z7 [((s:Int),.ii 0)]))).add (.bk [.ii (s:Int)])).next=h.next+2:=by simp only[H.next_add]
 generalize((h.add (.map (Z7 [((s:Int),.ii 0)]))).add (.bk [.ii (s:Int)]))=h1 at s1 gm gq nq⊢
 have q1:QAt h h1 (.sl (h.next+1) 0 1 (.fix 1)) (Y4 [(s,0)] 0):=⟨s1,.inl ⟨h.next+1,0,_,rfl,by omega,by omega,gq,fun _=>⟨rfl,Nat.le_refl _⟩⟩⟩
 refine Wi (fun k s'=>∃tm hh x es m,s'=⟨tm,hh,[]⟩∧QAt h hh x (Y4 es m)∧hh.get h.next=some (.map (Z7 (Xk es)))∧(∀b,Zk x b→b≠h.next)∧Bfs t.pieces.length (MM t) s es m 0∧k=t.pieces.length-m∧tm.E 0=.ptr d 0∧tm.E 5=.map h.next∧tm.E 6=x) ?_ t.pieces.length _
  ⟨_,_,_,[(s,0)],0,rfl,q1,gm,fun b hb=>by have:=hb;obtain⟨_,_,_,e⟩:=this;cases e;omega,Bfs.init _ _ hs,rfl,ybb,ybb,ybb⟩
 rintro k s' ⟨tm,hh,x,es,m,rfl,hq,hg,hbm,B,hk,t0,t5,t6⟩
 have hlen:=B.len
 have hml:=B.ml
 have hlq:(Y4 es m).length=es.length-m:=by simp[Y4]
 have sl:=hq.sl ybc
 have lenx:=sl.lenE
 have sh:=hq.1
 by_cases he:m<es.length
 case neg=>
  have hz:¬(0:Int)<((Y4 es m).length:Int):=by omega
  simp(disch:=first|omega|simp only[nZ]<;>omega|fail)only[go_sem,t0,t5,t6,lenx,hz]
  have hm:m=es.length:=by omega
  subst hm
  exact q _ es _ sh (Nat.le_refl _) hg B.done
 have hz:(0:Int)<((Y4 es m).length:Int):=by omega
 obtain⟨E,L,P,gd,aE,aL,aP⟩:=hd.mono sh
 have lenP:=aP.lenE
 have hch:∀b o:Nat,q_chk (.ptr b o)=some (.ptr b o):=fun _ _=>rfl
 simp(disch:=first|omega|simp only[nZ]<;>omega|fail)only[go_sem,t0,t5,t6,lenx,hz,Zb gd,lenP]
 obtain⟨e0,he0⟩:∃e0,es[m]=e0:=⟨_,rfl⟩
 have he0':es[m]? =some e0:=by rw[List.getElem?_eq_getElem he,he0]
 refine W.mono (Q:=fun x1 s'=>x1=.ext 2∧∃tm hh x es,s'=⟨tm,hh,[]⟩∧QAt h hh x (Y4 es m)∧hh.get h.next=some (.map (Z7 (Xk es)))∧(∀b,Zk x b→b≠h.next)∧Bfs t.pieces.length (MM t) s es m t.pieces.length∧es[m]? =some e0∧tm.E 0=.ptr d 0∧tm.E 5=.map h.next∧tm.E 6=x)
  (Zh t.pieces.length (fun c s'=>∃tm hh x es,s'=⟨tm,hh,[]⟩∧QAt h hh x (Y4 es m)∧hh.get h.next=some (.map (Z7 (Xk es)))∧(∀b,Zk x b→b≠h.next)∧Bfs t.pieces.length (MM t) s es m c∧es[m]? =some e0∧tm.E 0=.ptr d 0∧tm.E 5=.map h.next∧tm.E 6=x∧tm.E 25=.ii (t.pieces.length:Int)∧tm.E 26=.ii (c:Int))
  ?_ ?_ (i:=0) (Nat.zero_le _) ⟨_,_,_,es,rfl,hq,hg,hbm,B,he0',(by simp[t0]),ybk,ybi,ybb,ybb⟩) fun x1 s' hx1=>?_
 ·clear lenx lenP aE aL aP gd sl hlq hml hlen B hbm hg hq hz sh he0' he0 he t0 t5 t6
  rintro c s' hc ⟨tm,hh,x,es,rfl,hq,hg,hbm,B,he0,t0,t5,t6,t25,t26⟩
  have hc':(c:Int)<(t.pieces.length:Int):=by omega
  have hlen:=B.len
  have sh:=hq.1
  have he:m<es.length:=by
   by_cases h:m<es.length
   ·exact h
   ·rw[List.getElem?_eq_none ybc] at he0;cases he0
  have he1:es[m]=e0:=by rw[List.getElem?_eq_getElem he] at he0;exact Option.some.inj he0
  have hkq:Y4 es m=(e0.1:Int)::Y4 es (m+1):=by
   unfold Y4
   rw[List.drop_eq_getElem_cons he,he1];rfl
  cases hl:lk c es with
  |some kk=>
   have hF:=lkC_some hl
   simp(disch:=first|omega|simp only[nZ]<;>omega|fail)only[go_sem,t0,t5,t6,t25,t26,hc',hg,hF,Zc]
   exact⟨_,_,x,es,rfl,hq,hg,hbm,B.skip he (.inl (by rw[hl];simp)),he0,(by simp[t0]),ybk,ybi,ybt,ybb⟩
  |none=>
   have hF:=lkC_none hl
   have hlq:(Y4 es m).length=es.length-m:=by simp[Y4]
   have sl:=hq.sl ybc
   have hl0:0<(Y4 es m).length:=by omega
   obtain⟨b,o,cc,cs,ex,hcc,hqq,_,_,hn0⟩:=sl.at hl0
   have hv:=hn0 ybc
   have h00:(Y4 es m)[0]=(e0.1:Int):=by simp[hkq]
   rw[h00] at hv
   simp only[encI] at hv
   have hv:nth o cs=some (.ii (e0.1:Int)):=by simpa using hv
   have hp0:e0.1<t.pieces.length:=B.lt _ (he1▸List.getElem_mem he)
   have hz0:nat? (.ii 0)=some 0:=rfl
   simp(disch:=first|omega|simp only[nZ]<;>omega|fail)only[go_sem,t0,t5,t6,t25,t26,hc',hg,hF,hqq hz0,hcc,hv]
   refine WE sh.wf (hd.mono sh) g hc hp0 _ fun h2 s2=>?_
   have hmm:XC t c e0.1=MM t e0.1 c:=rfl
   rw[hmm]
   have hg2:=s2.get hg
   have hq2:=hq.mono s2
   cases hM:MM t e0.1 c with
   |false=>
    simp(disch:=first|omega|simp only[nZ]<;>omega|fail)only[go_sem,t0,t5,t6,t25,t26,Zc]
    exact⟨_,_,x,es,rfl,hq2,hg2,hbm,B.skip he (.inr (by rw[he1];exact hM)),he0,(by simp[t0]),ybk,ybi,ybt,ybb⟩
   |true=>
    have hlv:lk e0.1 es=some e0.2:=Vu B.nodup (he1▸List.getElem_mem he)
    have hV:=lkC_val hlv
    have sC:=(H.Sub.refl s2.wf).add (.bk [.ii (c:Int)])
    have hgC:=sC.get hg2
    have hccC:=sC.cells (s2.cells hcc)
    have own1:Zg (h2.add (.bk [.ii (c:Int)])) (.sl h2.next 0 1 (.fix 1)) 1 [[.ii (c:Int)]]:=Ye
    have bd2:e0.2≤9:=by
     have:=B.bd m he
     rw[he1] at this;omega
    simp(disch:=first|omega|simp only[nZ]<;>omega|fail)only[go_sem,t0,t5,t6,t25,t26,hqq hz0,s2.cells hcc,hv,hg2,hV,Zc]
    refine(hq2.mono sC).push hw ybc own1 fun h3 q3 k3 n3 hold=>?_
    have hbm2:¬Zk x h.next:=fun hb=>hbm _ hb rfl
    have hg3:=k3.2 _ _ hgC hbm2
    have hbx:b≠h.next:=hbm b ⟨_,_,_,ex⟩
    have hme:=men_new hg3 hl
    have hg4:(h3.set h.next (.map (Z7 (Xk (es++[(c,0)]))))).get h.next=some (.map (Z7 (Xk (es++[(c,0)])))):=get_set_same rfl
    have hms:=mst_new (k:=e0.2+1) hg4
    simp(disch:=first|omega|simp only[nZ]<;>omega|fail)only[go_sem,t0,t5,t6,t25,t26,hqq hz0,s2.cells hcc,hccC,hv,hg2,hgC,hV,hme,hms,Zc]
    have hr:=hold b o _ _ ⟨_,_,ex⟩ hkq
    have hfr:∀b',Zk (.sl (h2.next+1) 0 ((Y4 es m).length+1) (.slk 0 0)) b'→b'≠h.next:=fun b' hb=>by
     obtain⟨_,_,_,e⟩:=hb;cases e;have:=(sh.trans s2).next;omega
    have lt3:=q3.1.wf _ _ hg3
    have kq:Y4 (es++[(c,e0.2+1)]) m=Y4 es m++[(c:Int)]:=by
     unfold Y4;rw[List.drop_append_of_le_length ybc];simp
    have badd:=B.add he hc hl (by rw[he1];exact hM)
    rw[he1] at badd
    rw[H.next_add] at q3
    refine⟨⟨⟨by rw[hg3];exact hV,by rw[lkA_ent,lk_append,hlv];rfl⟩,hr h3 rfl rfl,?_⟩,_,_,_,es++[(c,e0.2+1)],rfl,?_,get_set_same rfl,hfr,badd,by rw[List.getElem?_append_left he];exact he0,(by simp[t0]),ybk,ybb,ybt,ybb⟩
    ·have h4:=hr (h3.set h.next (.map (Z7 (Xk (es++[(c,0)]))))) (get_set_other hbx) (get_set_other (by rw[H.next_add];have:=(sh.trans s2).next;omega))
     rw[cells_set_other hbx] at h4
     exact h4
    ·rw[kq]
     exact q3.keep (Zi.set _ _ _) (q3.1.set (Nat.le_refl _) lt3 hw _) hfr
 ·rintro s' ⟨tm,hh,x,es,rfl,hq,hg,hbm,B,he0,t0,t5,t6,t25,t26⟩
  simp(disch:=first|omega|simp only[nZ]<;>omega|fail)only[go_sem,t0,t5,t6,t25,t26,Int.lt_irrefl]
  exact⟨_,_,x,es,rfl,hq,hg,hbm,B,he0,(by simp[t0]),ybk,ybi⟩
 clear t0 t5 t6 lenx lenP aE aL aP gd sl hlq hml hlen B hbm hg hq hz sh he0' he0 he
 obtain⟨rfl,tm,hh,x,es,rfl,hq,hg,hbm,B,he0,t0,t5,t6⟩:=hx1
 have he:m<es.length:=by
  by_cases h:m<es.length
  ·exact h
  ·rw[List.getElem?_eq_none ybc] at he0;cases he0
 have he1:es[m]=e0:=by rw[List.getElem?_eq_getElem he] at he0;exact Option.some.inj he0
 have hkq:Y4 es m=(e0.1:Int)::Y4 es (m+1):=by
  unfold Y4
  rw[List.drop_eq_getElem_cons he,he1];rfl
 rw[hkq] at hq
 obtain⟨y,hy,hqy,hby⟩:=hq.tail
 have hlen:=B.len
 simp(disch:=first|omega|simp only[nZ]<;>omega|fail)only[go_sem,t0,t5,t6,WB,hy]
 exact⟨t.pieces.length-(m+1),by omega,_,_,y,es,m+1,rfl,hqy,hg,fun b hb=>hbm b (hby b hb),B.next he,rfl,(by simp[t0]),ybk,ybb⟩
end Go.Ab.Tryz
namespace Go.Ab.Tryz
def grd (n:Nat)(M:Nat→Nat→Bool)(f:Nat→Option Nat):Nat→Nat→List Nat
 |0,_=>[]
 |k+1,v=>match(List.range n).find? fun p=>decide (f p=some k)&&M v p with
  |some p=>p::grd n M f k p
  |none=>[]
theorem find_first {n p:Nat}{P:Nat→Bool}(hp:p<n)(h:P p=true)(hno:∀q,q<p→P q=false):(List.range n).find? P=some p:=by
 rw[List.find?_range_eq_some]
 exact⟨h,List.mem_range.2 hp,fun q hq=>by rw[hno q hq];rfl⟩
theorem grd_len (n:Nat)(M:Nat→Nat→Bool)(f:Nat→Option Nat):∀k v,(grd n M f k v).length≤k
 |0,_=>Nat.le_refl _
 |k+1,v=>by
  unfold grd
  split
  ·have:=grd_len n M f k ‹_›;simp only[List.length_cons];omega
  ·simp
def ChainR (t:Tb)(p r:Int)(l:List Int)(e:Int):Prop:=
 (check t≠0∧e=check t∧l=[])∨(check t=0∧(Y0 t p=false∨Y0 t r=false)∧e=1∧l=[])∨
 (check t=0∧Y0 t p=true∧Y0 t r=true∧∃f,IsD t.pieces.length (MM t) r.toNat f∧((f p.toNat=none∧e=6∧l=[])∨∃k,f p.toNat=some k∧e=0∧l=(p.toNat::grd t.pieces.length (MM t) f k p.toNat).map fun(i:Nat)=>(i:Int)))
set_option maxHeartbeats 4000000 in
theorem Chain_own {h:H}{v:V}{t:Tb}(hw:h.wf)(ht:ZK h v t)(p r:Int)(Q:V→H→Prop)(q:∀l e x h',h.Sub h'→ChainR t p r l e→ZG h h' x 1 (l.map encI)→Q (.tup [x,.ii e]) h'):
  Ev fnG Zm (.fn 62 [] []) [v,.ii p,.ii r] h Q:=by
 have ht0:=ht
 obtain⟨E,L,P,rfl,aE,aL,aP⟩:=ht
 refine Zd (fd:=c62) rfl rfl rfl ?_
 have s1:h.Sub (h.add (.bk [E,L,P])):=yba
 have g1:(h.add (.bk [E,L,P])).cells h.next=some [E,L,P]:=Zf rfl
 have nilS:∀h',h.Sub h'→ZG h h' .nils 1 (([]:List Int).map encI):=fun h' s=>(Zq.nil s 1).c
 simp(disch:=omega)only[c62,go_sem]
 refine ZP s1.wf (ht0.mono s1) _ (fun h5 s45 c=>?_) fun h5 d s15 c g hd=>?_
 ·simp(disch:=omega)only[go_sem,ne_eq,c,not_false_eq_true]
  exact q [] _ _ _ (s1.trans s45) (.inl ⟨c,rfl,rfl⟩) (nilS _ (s1.trans s45))
 have s5:=s1.trans s15
 simp(disch:=omega)only[go_sem,ne_eq,not_true_eq_false,s15.cells g1]
 refine Vp s5.wf (ht0.mono s5) p _ fun h6 s56=>?_
 have s6:=s5.trans s56
 cases cp:Y0 t p
 ·simp(disch:=omega)only[go_sem,Bool.not_false]
  exact q [] _ _ _ s6 (.inr (.inl ⟨c,.inl cp,rfl,rfl⟩)) (nilS _ s6)
 simp(disch:=omega)only[go_sem,Bool.not_true,(s15.trans s56).cells g1]
 refine Vp s6.wf (ht0.mono s6) r _ fun h7 s67=>?_
 have s7:=s6.trans s67
 have s17:=s15.trans (s56.trans s67)
 cases cr:Y0 t r
 ·simp(disch:=omega)only[go_sem,Bool.not_false]
  exact q [] _ _ _ s7 (.inr (.inl ⟨c,.inr cr,rfl,rfl⟩)) (nilS _ s7)
 have cp0:=cp
 have cr0:=cr
 simp only[Y0,decide_eq_true_eq] at cp cr
 obtain⟨i,rfl⟩:=Int.eq_ofNat_of_zero_le cp.1
 obtain⟨k,rfl⟩:=Int.eq_ofNat_of_zero_le cr.1
 have hd7:=hd.mono (s56.trans s67)
 simp(disch:=omega)only[go_sem,Bool.not_true]
 refine steps_ev s7.wf hd7 g ybc _ fun bm es h8 s78 lbm gm hD=>?_
 have s8:=s7.trans s78
 cases hl:lk i es with
 |none=>
  have hF:=lkC_none hl
  simp(disch:=omega)only[go_sem,gm,hF,Bool.not_false]
  exact q [] _ _ _ s8 (.inr (.inr ⟨c,cp0,cr0,_,hD,.inl ⟨by rw[Int.toNat_natCast];exact hl,rfl,rfl⟩⟩)) (nilS _ s8)
 |some d0=>
  have hF:=lkC_some hl
  have gp:=g.pieces
  have s89:=(H.Sub.refl s78.wf).add (.bk [.ii (i:Int)])
  have q1:ZG h8 (h8.add (.bk [.ii (i:Int)])) (.sl h8.next 0 1 (.fix 1)) 1 (([]++[i]).map fun(j:Nat)=>encI (j:Int)):=⟨s89,by simp[encI],.inr (.inr ⟨h8.next,1,[],by simp,Nat.le_refl _,by rw[H.next_add];omega,by rw[Zn rfl];simp[encI],by simp,by simp⟩)⟩
  have hd8:=hd7.mono s78
  have g8:=(s17.trans s78).cells g1
  simp(disch:=omega)only[go_sem,gm,hF,Bool.not_true]
  refine Wi (fun kk s'=>∃tm hh y pre v,s'=⟨tm,hh,[]⟩∧ZG h8 hh y 1 ((pre++[v]).map fun(j:Nat)=>encI (j:Int))∧lk v es=some kk∧pre++[v]++grd t.pieces.length (MM t) (fun p=>lk p es) kk v=i::grd t.pieces.length (MM t) (fun p=>lk p es) d0 i∧pre.length+kk=d0∧
    tm.E 3=.ptr h.next 0∧tm.E 8=.ptr d 0∧tm.E 10=.map bm∧tm.E 11=.ii (kk:Int)∧tm.E 13=y) ?_ d0 _
   ⟨_,_,_,[],i,rfl,q1,hl,rfl,by simp,ybb,ybb,ybb,ybb,ybb⟩
  rintro kk s' ⟨tm,hh,y,pre,v,rfl,oy,hv,hgr,hpl,t3,t8,t10,t11,t13⟩
  have hd0:=hD.bd hl
  have sh:=oy.1
  cases kk with
  |zero=>
   have hz:¬(0:Int)<((0:Nat):Int):=by omega
   have hlen:(pre++[v]).length≤20:=by simp;omega
   simp(disch:=omega)only[go_sem,t3,t8,t10,t11,t13,hz]
   refine q ((i::grd t.pieces.length (MM t) (fun p=>lk p es) d0 i).map fun(j:Nat)=>(j:Int)) _ _ _ (s8.trans sh) (.inr (.inr ⟨c,cp0,cr0,_,hD,.inr ⟨d0,by rw[Int.toNat_natCast];exact hl,rfl,by rw[Int.toNat_natCast]⟩⟩)) ?_
   have e:((i::grd t.pieces.length (MM t) (fun p=>lk p es) d0 i).map fun(j:Nat)=>(j:Int)).map encI=(pre++[v]).map fun(j:Nat)=>encI (j:Int):=by
    rw[←hgr,List.map_map];simp[grd]
   rw[e]
   exact oy.base s8
  |succ kk=>
   have hz:(0:Int)<((kk+1:Nat):Int):=by omega
   have hlP:=aP.lenE
   have hvn:=hD.lt v _ hv
   obtain⟨q0,hq0,hq1,hq2⟩:=hD.step v kk hv
   rw[MM_comm g] at hq2
   simp(disch:=omega)only[go_sem,t3,t8,t10,t11,t13,hz,sh.cells g8,hlP]
   refine Zh t.pieces.length (fun p s'=>∃tm hh,s'=⟨tm,hh,[]⟩∧ZG h8 hh y 1 ((pre++[v]).map fun(j:Nat)=>encI (j:Int))∧(∀p',p'<p→(decide (lk p' es=some kk)&&MM t v p')=false)∧
     tm.E 3=.ptr h.next 0∧tm.E 8=.ptr d 0∧tm.E 10=.map bm∧tm.E 11=.ii ((kk+1:Nat):Int)∧tm.E 13=y∧tm.E 54=.ii (t.pieces.length:Int)∧tm.E 55=.ii (p:Int))
    ?_ ?_ (i:=0) (Nat.zero_le _) ⟨_,_,rfl,oy,fun p' hp'=>by omega,ybf,ybg,ybu,(by simp[t11]),ybp,ybb,ybb⟩
   ·clear oy sh
    rintro p s' hp ⟨tm,hh,rfl,oy,hno,t3,t8,t10,t11,t13,t54,t55⟩
    have hp':(p:Int)<(t.pieces.length:Int):=by omega
    have sh:=oy.1
    have gmh:=sh.get gm
    have step:∀b:Bool,(decide (lk p es=some kk)&&MM t v p)=b→∀p',p'<p+1→b=false→(decide (lk p' es=some kk)&&MM t v p')=false:=fun b hb p' h1 h2=>by
     by_cases e:p'=p
     ·subst e;rw[hb];exact h2
     ·exact hno p' ybc
    cases hlp:lk p es with
    |none=>
     have hF:=lkC_none hlp
     simp(disch:=omega)only[go_sem,t3,t8,t10,t11,t13,t54,t55,hp',gmh,hF,Zc]
     exact⟨_,_,rfl,oy,fun p' h1=>step false (by rw[hlp];simp) p' h1 rfl,ybf,ybg,ybu,(by simp[t11]),ybp,(by simp[t54]),ybb⟩
    |some kp=>
     have hF:=lkC_some hlp
     have hkp:=hD.bd hlp
     by_cases hk:kp=kk
     ·subst hk
      have hll:(pre++[v]).length=pre.length+1:=by simp
      have sl:=oy.sl ybd
      have leny:=sl.lenE
      obtain⟨b,o,cc,cs,ex,hcc,hqq,_,_,hn0⟩:=sl.at (k:=pre.length) ybc
      have hv0:=hn0 ybc
      have hve:(pre++[v])[pre.length]=v:=by simp
      rw[hve] at hv0
      simp only[encI] at hv0
      have hv0:nth (o+pre.length*1) cs=some (.ii (v:Int)):=hv0
      have ei:(((pre++[v]).length:Int)-1)=(pre.length:Int):=by omega
      have hk':decide ((kp:Int)=((kp+1:Nat):Int)-1)=true:=by simp
      have hqi:=hqq (Ze pre.length)
      simp only[Nat.mul_one] at hqi hv0
      simp(disch:=omega)only[go_sem,t3,t8,t10,t11,t13,t54,t55,hp',gmh,hF,ZC,hk',leny,ei,hqi,hcc,hv0]
      refine WE sh.wf (hd8.mono sh) g hp hvn _ fun h2 s2=>?_
      have hmm:XC t p v=MM t v p:=rfl
      rw[hmm]
      cases hM:MM t v p with
      |false=>
       simp(disch:=omega)only[go_sem,t3,t8,t10,t11,t13,t54,t55,Zc]
       exact⟨_,_,rfl,oy.mono s2,fun p' h1=>step false (by rw[hM];simp) p' h1 rfl,ybf,ybg,ybu,(by simp[t11]),ybp,(by simp[t54]),ybb⟩
      |true=>
       have oy2:=oy.mono s2
       have sC:=(H.Sub.refl s2.wf).add (.bk [.ii (p:Int)])
       simp(disch:=omega)only[go_sem,t3,t8,t10,t11,t13,t54,t55]
       refine(oy2.mono sC).app1 (by_:=8) (r:=encI (p:Int)) s78.wf rfl ybc Ye rfl ybd ybd fun x' h3 o3 _ k3=>?_
       simp(disch:=omega)only[go_sem,t3,t8,t10,t11,t13,t54,t55]
       refine⟨kp,by omega,_,_,_,pre++[v],p,rfl,by rw[List.map_append];exact o3,hlp,?_,by omega,ybf,ybg,ybu,ybb,ybb⟩
       have hgs:grd t.pieces.length (MM t) (fun p=>lk p es) (kp+1) v=p::grd t.pieces.length (MM t) (fun p=>lk p es) kp p:=by
        have hf:=find_first (n:=t.pieces.length) (P:=fun p=>decide (lk p es=some kp)&&MM t v p) hp (by simp[hlp,hM]) hno
        simp only[grd,hf]
       rw[hgs] at hgr
       rw[←hgr];simp
     ·have hk':decide ((kp:Int)=((kk+1:Nat):Int)-1)=false:=by simp;omega
      simp(disch:=omega)only[go_sem,t3,t8,t10,t11,t13,t54,t55,hp',gmh,hF,ZC,hk',Zc]
      exact⟨_,_,rfl,oy,fun p' h1=>step false (by rw[hlp];simp[hk]) p' h1 rfl,ybf,ybg,ybu,(by simp[t11]),ybp,(by simp[t54]),ybb⟩
   ·rintro s' ⟨tm,hh,rfl,oy,hno,t3,t8,t10,t11,t13,t54,t55⟩
    have:=hno q0 hq0
    rw[hq1,hq2] at this;simp at this
theorem ChainR.len {t:Tb}{p r:Int}{l:List Int}{e:Int}(R:ChainR t p r l e):l.length≤t.pieces.length+1:=by
 rcases R with⟨_,_,rfl⟩|⟨_,_,_,rfl⟩|⟨_,_,_,f,D,⟨_,_,rfl⟩|⟨k,h,_,rfl⟩⟩
 ·simp
 ·simp
 ·simp
 ·have:=grd_len t.pieces.length (MM t) f k p.toNat
  have:=D.bd h
  simp;omega
theorem Chain_ev {h:H}{v:V}{t:Tb}(hw:h.wf)(ht:ZK h v t)(p r:Int)(Q:V→H→Prop)(q:∀l e x h',h.Sub h'→ChainR t p r l e→Zg h' x 1 (l.map encI)→Q (.tup [x,.ii e]) h'):
  Ev fnG Zm (.fn 62 [] []) [v,.ii p,.ii r] h Q:=
 Chain_own hw ht p r Q fun l e x h' s R o=>q l e x h' s R (o.sl (by
  have:=R.len
  obtain⟨_,_,_,_,_,_,aP⟩:=ht
  have:=aP.boundE
  rcases R with⟨_,_,rfl⟩|⟨_,_,_,rfl⟩|⟨c,_,_,f,D,⟨_,_,rfl⟩|⟨k,h,_,rfl⟩⟩
  ·simp
  ·simp
  ·simp
  ·have:=(Z5.1 c).pieces
   simp only[List.length_map,List.length_cons] at *;omega))
end Go.Ab.Tryz
namespace Go.Ab
def ZQ (h0 h:H)(x:V)(ls:List (List (List V))):Prop:=∃xs:List V,ZG h0 h x 1 (xs.map fun v=>[v])∧xs.length=ls.length∧
 ∀i (hi:i<xs.length) (hj:i<ls.length),ZG h0 h xs[i] 1 ls[i]∧∀b,Zk xs[i] b→¬Zk x b
theorem ZQ.nil {h0 h:H}(s:h0.Sub h):ZQ h0 h .nils []:=⟨[],(Zq.nil s 1).c,rfl,fun i hi=>by simp at hi⟩
theorem ZQ.mono {h0 h h':H}{x:V}{ls:List (List (List V))}(a:ZQ h0 h x ls)(s:h.Sub h'):ZQ h0 h' x ls:=by
 obtain⟨xs,a1,a2,a3⟩:=a
 exact⟨xs,a1.mono s,a2,fun i hi hj=>⟨(a3 i hi hj).1.mono s,(a3 i hi hj).2⟩⟩
theorem ZQ.keep {h0 h h':H}{S:Nat→Prop}{x:V}{ls:List (List (List V))}(a:ZQ h0 h x ls)(k:Zi S h h')(s:h0.Sub h')(n:∀b,h0.next≤b→b<h.next→¬S b):ZQ h0 h' x ls:=by
 obtain⟨xs,a1,a2,a3⟩:=a
 refine⟨xs,a1.keep k s fun b hb=>n b (a1.blk hb).1 (a1.blk hb).2.1,a2,fun i hi hj=>⟨(a3 i hi hj).1.keep k s fun b hb=>n b ((a3 i hi hj).1.blk hb).1 ((a3 i hi hj).1.blk hb).2.1,(a3 i hi hj).2⟩⟩
theorem ZQ.base {h0 h1 h:H}{x:V}{ls:List (List (List V))}(a:ZQ h1 h x ls)(s:h0.Sub h1):ZQ h0 h x ls:=by
 obtain⟨xs,a1,a2,a3⟩:=a
 exact⟨xs,a1.base s,a2,fun i hi hj=>⟨(a3 i hi hj).1.base s,(a3 i hi hj).2⟩⟩
theorem ZQ.push {h0 h:H}{x y v:V}{ls:List (List (List V))}{l:List (List V)}{Q:V→H→Prop}(a:ZQ h0 h x ls)(hw0:h0.wf)(hl:ls.length≤1000)(ov:ZG h0 h v 1 l)(dv:∀b,Zk v b→¬Zk x b)(hy:Zg h y 1 [[v]])
  (q:∀x' h',ZQ h0 h' x' (ls++[l])→Zi (Zk x) h h'→Q x' h'):P2 (Z8 h 1 24 x y) Q:=by
 obtain⟨xs,a1,a2,a3⟩:=a
 have hone:ZF [v]=true:=by simp[allOne_cons,ov.one,allOne_nil]
 refine a1.app1 (by_:=24) (r:=[v]) hw0 rfl ybc hy hone ybd ybd fun x' h' o' nb k=>?_
 refine q x' h' ⟨xs++[v],by rw[List.map_append];exact o',by simp[a2],fun i hi hj=>?_⟩ k
 rw[List.length_append,List.length_singleton] at hi hj
 by_cases hlt:i<xs.length
 ·rw[List.getElem_append_left hlt,List.getElem_append_left ybc]
  obtain⟨c1,c2⟩:=a3 i hlt ybc
  refine⟨c1.keep k o'.1 c2,fun b hb hx=>?_⟩
  rcases nb b hx with h1|h1
  ·exact c2 b hb h1
  ·have:=(c1.blk hb).2.1;omega
 ·have e:i=xs.length:=by omega
  have e1:(xs++[v])[i]=v:=by subst e;simp
  have e2:(ls++[l])[i]=l:=by
    have:i=ls.length:=by omega
    subst this;simp
  rw[e1,e2]
  refine⟨ov.keep k o'.1 dv,fun b hb hx=>?_⟩
  rcases nb b hx with h1|h1
  ·exact dv b hb h1
  ·have:=(ov.blk hb).2.1;omega
namespace Tryz
noncomputable def rch (t:Tb)(p q:Nat):Bool:= @decide (∃k,Wk t.pieces.length (MM t) k p q) (Classical.propDecidable _)
theorem VQ {t:Tb}{p q:Nat}:rch t p q=true↔∃k,Wk t.pieces.length (MM t) k p q:=by simp[rch]
theorem IsD.rch {t:Tb}{p q:Nat}{f:Nat→Option Nat}(a:IsD t.pieces.length (MM t) p f)(hq:q<t.pieces.length):(f q).isSome=rch t p q:=by
 rw[Bool.eq_iff_iff,VQ]
 constructor
 ·intro h
  obtain⟨k,e⟩:=Option.isSome_iff_exists.1 h
  exact⟨k,a.walk k q e⟩
 ·rintro⟨k,hk⟩
  obtain⟨j,e,_⟩:=a.le k q hq hk
  rw[e];rfl
theorem Wk.trans {n:Nat}{M:Nat→Nat→Bool}{p q:Nat}:∀{k j r},Wk n M j p q→Wk n M k q r→∃i,Wk n M i p r
 |0,j,r,h1,h2=>⟨j,by rw[←(show q=r from h2)];exact h1⟩
 |k+1,j,r,h1,⟨x,hx,h2,h3⟩=>by
  obtain⟨i,h4⟩:=Wk.trans h1 h2
  exact⟨i+1,x,hx,h4,h3⟩
theorem rch_refl (t:Tb)(p:Nat):rch t p p=true:=VQ.2 ⟨0,rfl⟩
theorem rch_symm {t:Tb}(g:Good t){p q:Nat}(hq:q<t.pieces.length)(h:rch t p q=true):rch t q p=true:=by
 obtain⟨k,hk⟩:=VQ.1 h
 exact VQ.2 ⟨k,Wk.rev (MM_comm g) hq hk⟩
theorem rch_trans {t:Tb}{p q r:Nat}(h1:rch t p q=true)(h2:rch t q r=true):rch t p r=true:=by
 obtain⟨k,hk⟩:=VQ.1 h1
 obtain⟨j,hj⟩:=VQ.1 h2
 exact VQ.2 (Wk.trans hk hj)
noncomputable def Xd (t:Tb)(p:Nat):Nat→List Int
 |0=>[]
 |n+1=>Xd t p n++if rch t p n=true then[(n:Int)] else[]
theorem Vt (t:Tb)(p:Nat):∀n,(Xd t p n).length≤n
 |0=>Nat.le_refl _
 |n+1=>by
  have:=Vt t p n
  simp only[Xd,List.length_append]
  split<;>simp<;>omega
theorem WC {t:Tb}{p q:Nat}:∀{n},(q:Int)∈Xd t p n↔q<n∧rch t p q=true
 |0=>by simp[Xd]
 |n+1=>by
  have ih:=WC (t:=t) (p:=p) (q:=q) (n:=n)
  simp only[Xd,List.mem_append,ih]
  constructor
  ·rintro(⟨h1,h2⟩|h)
   ·exact⟨by omega,h2⟩
   ·by_cases c:rch t p n=true
    ·rw[if_pos c,List.mem_singleton] at h
     have:q=n:=by omega
     subst this;exact⟨by omega,c⟩
    ·rw[if_neg c] at h;simp at h
  ·rintro⟨h1,h2⟩
   by_cases e:q=n
   ·subst e;right;rw[if_pos h2];simp
   ·exact .inl ⟨by omega,h2⟩
noncomputable def before (t:Tb)(c:Nat):Bool:=(List.range c).any fun p=>rch t p c
noncomputable def W0 (t:Tb):Nat→List (List Int)
 |0=>[]
 |c+1=>W0 t c++if before t c=true then[] else[Xd t c t.pieces.length]
theorem kinK_len (t:Tb):∀n,(W0 t n).length≤n
 |0=>Nat.le_refl _
 |n+1=>by
  have:=kinK_len t n
  simp only[W0,List.length_append]
  split<;>simp<;>omega
theorem Vv {t:Tb}:∀{c l},l∈W0 t c→∃r,r<c∧l=Xd t r t.pieces.length
 |0,l,h=>by simp[W0] at h
 |c+1,l,h=>by
  simp only[W0,List.mem_append] at h
  rcases h with h|h
  ·obtain⟨r,h1,h2⟩:=Vv h;exact⟨r,by omega,h2⟩
  ·by_cases cb:before t c=true
   ·rw[if_pos cb] at h;simp at h
   ·rw[if_neg cb,List.mem_singleton] at h;exact⟨c,by omega,h⟩
theorem kinK_cov {t:Tb}(g:Good t):∀{c p},c≤t.pieces.length→p<c→∃l∈W0 t c,(p:Int)∈l
 |0,p,_,h=>by omega
 |c+1,p,hc,h=>by
  by_cases e:p<c
  ·obtain⟨l,h1,h2⟩:=kinK_cov g ybc e
   exact⟨l,by simp only[W0];exact List.mem_append_left _ h1,h2⟩
  ·have e':p=c:=by omega
   subst e'
   by_cases cb:before t p=true
   ·obtain⟨r,hr,h3⟩:=List.any_eq_true.1 cb
    have hr:=List.mem_range.1 hr
    obtain⟨l,h1,h2⟩:=kinK_cov g ybc hr
    obtain⟨r',h4,rfl⟩:=Vv h1
    have h5:=(WC.1 h2).2
    exact⟨_,by simp only[W0];exact List.mem_append_left _ h1,WC.2 ⟨by omega,rch_trans h5 h3⟩⟩
   ·exact⟨Xd t p t.pieces.length,by simp only[W0,if_neg cb];simp,WC.2 ⟨by omega,rch_refl t p⟩⟩
theorem kinK_has {t:Tb}(g:Good t){c:Nat}(hc:c<t.pieces.length):((W0 t c).any fun l=>l.any fun r=>decide ((c:Int)=r))=before t c:=by
 rw[Bool.eq_iff_iff,List.any_eq_true]
 constructor
 ·rintro⟨l,hl,h⟩
  obtain⟨r,hr,h1⟩:=List.any_eq_true.1 h
  rw[←of_decide_eq_true h1] at hr
  obtain⟨p,hp,rfl⟩:=Vv hl
  exact List.any_eq_true.2 ⟨p,List.mem_range.2 hp,(WC.1 hr).2⟩
 ·intro h
  obtain⟨p,hp,h1⟩:=List.any_eq_true.1 h
  have hp:=List.mem_range.1 hp
  obtain⟨l,hl,h2⟩:=kinK_cov g (show c≤_ by omega) hp
  obtain⟨r,hr,rfl⟩:=Vv hl
  exact⟨_,hl,List.any_eq_true.2 ⟨_,WC.2 ⟨hc,rch_trans (WC.1 h2).2 h1⟩,by simp⟩⟩
end Tryz
end Go.Ab
namespace Go.Ab.Tryz
theorem indexFuncLs_ev {α:Type}{w:α→V}{l:List α}{p:α→Bool}{h:H}{x f:V}(hw:h.wf)(hx:Zg h x 1 (l.map fun a=>[w a]))(hp:∀a∈l,Y5 h f [w a] (.bool (p a))):
  E (.fn 52 [] []) [x,f] h fun v h'=>v=.ii (Y9 p l 0)∧h.Sub h':=by
 have hb:=hx.boundE
 refine Zd (fd:=c52) rfl rfl rfl ?_
 simp(disch:=omega)only[c52,go_sem,hx.lenE]
 refine Zh l.length (fun i s=>∃tm h',s=⟨tm,h',[]⟩∧h.Sub h'∧tm.E 0=x∧tm.E 1=f∧tm.E 7=.ii (l.length:Int)∧tm.E 8=.ii (i:Int)∧Y9 p l 0=Y9 p (l.drop i) i)
  ?_ ?_ (i:=0) (Nat.zero_le _) ⟨_,_,rfl,H.Sub.refl hw,ybe,ybe,ybe,(by simp only[Xj];rfl),rfl⟩
 ·rintro i s hi ⟨tm,h',rfl,hs,e0,e1,e7,e8,e9⟩
  have hi':(i:Int)<(l.length:Int):=by omega
  obtain⟨b,o,c,cs,rfl,hc,hq,hg,hn,hn0⟩:=(hx.mono hs).at hi
  simp(disch:=omega)only[go_sem,e0,e1,e7,e8,hi',hq (Ze i),hc,hn0 ybc]
  refine(hp _ (List.getElem_mem hi)).use hs fun h2 hs2=>?_
  cases hpr:p l[i] with
  |true=>
   simp(disch:=omega)only[go_sem,e0,e1,e7,e8]
   exact⟨by rw[e9,WG hi hpr],hs.trans hs2⟩
  |false=>
   simp(disch:=omega)only[go_sem,e0,e1,e7,e8,Zc]
   exact⟨_,_,rfl,hs.trans hs2,(by simp[e0]<;>rfl),(by simp[e1]<;>rfl),(by simp[e7]<;>rfl),ybe,by rw[e9,Ww hi hpr]⟩
 ·rintro s ⟨tm,h',rfl,hs,e0,e1,e7,e8,e9⟩
  simp(disch:=omega)only[go_sem,e0,e1,e7,e8,Int.lt_irrefl]
  exact⟨by rw[e9];simp[Y9],hs⟩
theorem containsFuncLs_ev {α:Type}{w:α→V}{l:List α}{p:α→Bool}{h:H}{x f:V}(hw:h.wf)(hx:Zg h x 1 (l.map fun a=>[w a]))(hp:∀a∈l,Y5 h f [w a] (.bool (p a))):
  E (.fn 43 [] []) [x,f] h fun v h'=>v=.bool (l.any p)∧h.Sub h':=by
 refine Zd (fd:=c43) rfl rfl rfl ?_
 simp(disch:=omega)only[c43,go_sem]
 refine(indexFuncLs_ev hw hx hp).mono fun v h' hv=>?_
 obtain⟨rfl,hs⟩:=hv
 simp(disch:=omega)only[go_sem]
 exact⟨by rw[WH],hs⟩
theorem indexInt_ev {l:List Int}{h:H}{x:V}(hw:h.wf)(hx:Zg h x 1 (l.map encI))(e:Int):
  E (.fn 111 [] []) [x,.ii e] h fun v h'=>v=.ii (Y9 (fun r=>decide (e=r)) l 0)∧h.Sub h':=by
 have hb:=hx.boundE
 refine Zd (fd:=c111) rfl rfl rfl ?_
 simp(disch:=omega)only[c111,go_sem,hx.lenE]
 refine Zh l.length (fun i s=>∃tm h',s=⟨tm,h',[]⟩∧h.Sub h'∧tm.E 0=x∧tm.E 1=.ii e∧tm.E 7=.ii (l.length:Int)∧tm.E 8=.ii (i:Int)∧Y9 (fun r=>decide (e=r)) l 0=Y9 (fun r=>decide (e=r)) (l.drop i) i)
  ?_ ?_ (i:=0) (Nat.zero_le _) ⟨_,_,rfl,H.Sub.refl hw,ybe,ybe,ybe,ybe,rfl⟩
 ·rintro i s hi ⟨tm,h',rfl,hs,e0,e1,e7,e8,e9⟩
  have hi':(i:Int)<(l.length:Int):=by omega
  obtain⟨b,o,c,cs,rfl,hc,hq,hg,hn,hn0⟩:=(hx.mono hs).at hi
  have hv:=hn0 ybc
  simp only[encI] at hv
  simp(disch:=omega)only[go_sem,e0,e1,e7,e8,hi',hq (Ze i),hc,hv]
  by_cases hpr:e=l[i]
  ·have hd:decide (e=l[i])=true:=decide_eq_true hpr
   simp(disch:=omega)only[go_sem,e0,e1,e7,e8,hd,hpr]
   exact⟨by first|rw[e9,WG hi hd]|(rw[←hpr];rw[e9,WG hi hd]),hs⟩
  ·have hd:decide (e=l[i])=false:=decide_eq_false hpr
   simp(disch:=omega)only[go_sem,e0,e1,e7,e8,hd,hpr,Zc]
   exact⟨_,_,rfl,hs,(by simp[e0]<;>rfl),(by simp[e1]<;>rfl),(by simp[e7]<;>rfl),ybe,by rw[e9,Ww hi hd]⟩
 ·rintro s ⟨tm,h',rfl,hs,e0,e1,e7,e8,e9⟩
  simp(disch:=omega)only[go_sem,e0,e1,e7,e8,Int.lt_irrefl]
  exact⟨by rw[e9];simp[Y9],hs⟩
theorem hasInt_ev {l:List Int}{h:H}{x:V}(hw:h.wf)(hx:Zg h x 1 (l.map encI))(e:Int)(Q:V→H→Prop)(q:∀h',h.Sub h'→Q (.bool (l.any fun r=>decide (e=r))) h'):
  Ev fnG Zm (.fn 42 [] []) [x,.ii e] h Q:=by
 refine Zd (fd:=c42) rfl rfl rfl ?_
 simp(disch:=omega)only[c42,go_sem]
 refine(indexInt_ev hw hx e).mono fun v h' hv=>?_
 obtain⟨rfl,hs⟩:=hv
 simp(disch:=omega)only[go_sem]
 rw[WH]
 exact q _ hs
theorem kin1_ev {l:List Int}{h:H}{v:V}{b:Nat}{c:Int}(hb:h.cells b=some [.ii c])(hv:Zg h v 1 (l.map encI)):Y5 h (.fn 125 [] [.ptr b 0]) [v] (.bool (l.any fun r=>decide (c=r))):=by
 intro h1 hs
 refine Ev.gen fun Q q=>?_
 refine Zd (fd:=c125) rfl rfl rfl ?_
 simp(disch:=omega)only[c125,go_sem,hs.cells hb]
 refine hasInt_ev hs.wf (hv.mono hs) c _ fun h2 s2=>?_
 simp(disch:=omega)only[go_sem]
 exact q _ _ ⟨rfl,s2⟩
theorem anyHas_ev {h0 h:H}{x:V}{ls:List (List Int)}{b:Nat}{c:Int}(a:ZQ h0 h x (ls.map fun l=>l.map encI))(hl:ls.length≤1000)(hll:∀l∈ls,l.length≤1000)(hb:h.cells b=some [.ii c])(Q:V→H→Prop)(q:∀h',h.Sub h'→Q (.bool (ls.any fun l=>l.any fun r=>decide (c=r))) h'):
  Ev fnG Zm (.fn 43 [] []) [x,.fn 125 [] [.ptr b 0]] h Q:=by
 obtain⟨xs,a1,a2,a3⟩:=a
 rw[List.length_map] at a2
 have ez:xs.map (fun v=>[v])=(xs.zip ls).map fun e=>[e.1]:=by
  conv=>lhs;rw[←List.map_fst_zip (l₁:=xs) (l₂:=ls) ybc,List.map_map]
  rfl
 have sx:=a1.sl ybd
 rw[ez] at sx
 have ea:(ls.any fun l=>l.any fun r=>decide (c=r))=(xs.zip ls).any fun e=>e.2.any fun r=>decide (c=r):=by
  conv=>lhs;rw[←List.map_snd_zip (l₁:=xs) (l₂:=ls) ybc,List.any_map]
  rfl
 refine(containsFuncLs_ev (w:=fun e:V × List Int=>e.1) (p:=fun e=>e.2.any fun r=>decide (c=r)) a1.1.wf sx fun e he=>?_).mono fun u h' hu=>?_
 ·obtain⟨i,hi,rfl⟩:=List.getElem_of_mem he
  rw[List.length_zip] at hi
  rw[List.getElem_zip]
  have h1:=(a3 i ybc (by rw[List.length_map];omega)).1
  rw[List.getElem_map] at h1
  exact kin1_ev hb (h1.sl (by have:=hll _ (List.getElem_mem (show i<ls.length by omega));simp only[List.length_map];omega))
 ·obtain⟨rfl,s⟩:=hu
  rw[←ea];exact q _ s
set_option maxHeartbeats 4000000 in
theorem Kin_ev {h:H}{v:V}{t:Tb}(hw:h.wf)(ht:ZK h v t)(Q:V→H→Prop)(q:∀x h',ZQ h h' x ((if check t=0 then W0 t t.pieces.length else[]).map fun l=>l.map encI)→Q (.tup [x,.ii (check t)]) h'):
  Ev fnG Zm (.fn 63 [] []) [v] h Q:=by
 have ht0:=ht
 obtain⟨E,L,P,rfl,aE,aL,aP⟩:=ht
 refine Zd (fd:=c63) rfl rfl rfl ?_
 have s1:h.Sub (h.add (.bk [E,L,P])):=yba
 have g1:(h.add (.bk [E,L,P])).cells h.next=some [E,L,P]:=Zf rfl
 simp(disch:=omega)only[c63,go_sem]
 refine ZP s1.wf (ht0.mono s1) _ (fun h5 s45 c=>?_) fun h5 d s15 c g hd=>?_
 ·simp(disch:=omega)only[go_sem,ne_eq,c,not_false_eq_true]
  exact q _ _ (by rw[if_neg c];exact ZQ.nil (s1.trans s45))
 rw[if_pos c] at q
 rw[c] at q
 have s5:=s1.trans s15
 have gp:=g.pieces
 have hlP:=aP.lenE
 have g5:=s15.cells g1
 simp(disch:=omega)only[go_sem,ne_eq,not_true_eq_false,g5,hlP]
 refine Zh t.pieces.length (fun c s=>∃tm hh y,s=⟨tm,hh,[]⟩∧h5.Sub hh∧ZQ h5 hh y ((W0 t c).map fun l=>l.map encI)∧tm.E 1=.ptr h.next 0∧tm.E 4=.ptr d 0∧tm.E 6=y∧tm.E 23=.ii (t.pieces.length:Int)∧tm.E 24=.ii (c:Int))
  ?_ ?_ (i:=0) (Nat.zero_le _) ⟨_,_,.nils,rfl,H.Sub.refl s15.wf,ZQ.nil (H.Sub.refl s15.wf),ybe,ybe,ybe,ybe,ybe⟩
 ·rintro c s hc ⟨tm,hh,y,rfl,sh,oy,t1,t4,t6,t23,t24⟩
  have hc':(c:Int)<(t.pieces.length:Int):=by omega
  have hkl:=kinK_len t c
  have hkm:∀l∈W0 t c,l.length≤1000:=fun l hl=>by
   obtain⟨r,_,rfl⟩:=Vv hl
   have:=Vt t r t.pieces.length;omega
  have sB:=(H.Sub.refl sh.wf).add (.bk [.ii (c:Int)])
  have gB:(hh.add (.bk [.ii (c:Int)])).cells hh.next=some [.ii (c:Int)]:=Zf rfl
  have oB:=oy.mono sB
  have hah:=anyHas_ev oB ybc hkm gB
  rw[kinK_has g hc] at hah
  simp(disch:=omega)only[go_sem,t1,t4,t6,t23,t24,hc']
  generalize(hh.add (.bk [.ii (c:Int)]))=hB at sB gB oB hah⊢
  generalize hh.next=bB at gB hah⊢
  refine hah _ fun h6 s6=>?_
  have o6:=oB.mono s6
  have sh6:=sh.trans (sB.trans s6)
  cases hbf:before t c
  case true=>
   simp(disch:=omega)only[go_sem,t1,t4,t6,t23,t24,Zc]
   exact⟨_,_,y,rfl,sh6,by simpa[W0,hbf] using o6,ybr,ybs,ybv,ybq,ybe⟩
  simp(disch:=omega)only[go_sem,t1,t4,t6,t23,t24,s6.cells gB]
  refine steps_ev sh6.wf (hd.mono sh6) g hc _ fun bm es h7 s7 lbm gm hD=>?_
  have o7:=o6.mono s7
  have sh7:=sh6.trans s7
  simp(disch:=omega)only[go_sem,t1,t4,t6,t23,t24,sh7.cells g5,hlP]
  refine W.mono (Q:=fun x1 s=>x1=.ext 2∧∃tm hh z,s=⟨tm,hh,[]⟩∧Zq h7 hh z 1 ((Xd t c t.pieces.length).map encI)∧tm.E 1=.ptr h.next 0∧tm.E 4=.ptr d 0∧tm.E 6=y∧tm.E 8=z∧tm.E 23=.ii (t.pieces.length:Int)∧tm.E 24=.ii (c:Int))
   (Zh t.pieces.length (fun k s=>∃tm hh z,s=⟨tm,hh,[]⟩∧Zq h7 hh z 1 ((Xd t c k).map encI)∧tm.E 1=.ptr h.next 0∧tm.E 4=.ptr d 0∧tm.E 6=y∧tm.E 23=.ii (t.pieces.length:Int)∧tm.E 24=.ii (c:Int)∧tm.E 8=z∧tm.E 9=.map bm∧tm.E 35=.ii (t.pieces.length:Int)∧tm.E 36=.ii (k:Int))
   ?_ ?_ (i:=0) (Nat.zero_le _) ⟨_,_,.nils,rfl,Zq.nil (H.Sub.refl s7.wf) 1,ybr,ybs,ybv,ybq,(by simp[t24]<;>rfl),ybe,ybe,ybe,ybe⟩) fun x1 s hx1=>?_
  ·rintro k s hk ⟨tm,hh,z,rfl,oz,t1,t4,t6,t23,t24,t8,t9,t35,t36⟩
   have hk':(k:Int)<(t.pieces.length:Int):=by omega
   have gmh:=oz.1.get gm
   have hr:=hD.rch hk
   have hml:=Vt t c k
   cases hlk:lk k es with
   |none=>
    rw[hlk] at hr
    have hr:rch t c k=false:=hr.symm
    have hF:=lkC_none hlk
    simp(disch:=omega)only[go_sem,t1,t4,t6,t23,t24,t8,t9,t35,t36,hk',gmh,hF,Zc]
    exact⟨_,_,z,rfl,by simpa[Xd,hr] using oz,ybr,ybs,ybv,ybq,(by simp[t24]<;>rfl),(by simp[t8]<;>rfl),(by simp[t9]<;>rfl),(by simp[t35]<;>rfl),ybe⟩
   |some kk=>
    rw[hlk] at hr
    have hr:rch t c k=true:=hr.symm
    have hF:=lkC_some hlk
    have sC:=(H.Sub.refl oz.1.wf).add (.bk [.ii (k:Int)])
    simp(disch:=omega)only[go_sem,t1,t4,t6,t23,t24,t8,t9,t35,t36,hk',gmh,hF]
    refine(oz.mono sC).app1 (by_:=8) (r:=encI (k:Int)) s7.wf rfl ybc Ye rfl ybd ybd fun h9 o9 k9 n9=>?_
    simp(disch:=omega)only[go_sem,t1,t4,t6,t23,t24,t8,t9,t35,t36,Zc]
    refine⟨_,_,_,rfl,?_,ybr,ybs,ybv,ybq,(by simp[t24]<;>rfl),ybe,(by simp[t9]<;>rfl),(by simp[t35]<;>rfl),ybe⟩
    have e:(Xd t c (k+1)).map encI=(Xd t c k).map encI++[encI (k:Int)]:=by simp[Xd,hr]
    rw[H.next_add,List.length_map] at o9
    rw[e];exact o9
  ·rintro s ⟨tm,hh,z,rfl,oz,t1,t4,t6,t23,t24,t8,t9,t35,t36⟩
   simp(disch:=omega)only[go_sem,t1,t4,t6,t23,t24,t8,t9,t35,t36,Int.lt_irrefl]
   exact⟨_,_,z,rfl,oz,ybr,ybs,ybv,(by simp[t8]<;>rfl),ybq,(by simp[t24]<;>rfl)⟩
  obtain⟨rfl,tm,hh,z,rfl,oz,t1,t4,t6,t8,t23,t24⟩:=hx1
  have s8:=oz.1
  have oz1:=ZG.one oz.c
  have sC:=(H.Sub.refl s8.wf).add (.bk [z])
  have own1:Zg (hh.add (.bk [z])) (.sl hh.next 0 1 (.fix 1)) 1 [[z]]:=Zg.new _ rfl rfl ybb ybb ybb
  simp(disch:=omega)only[go_sem,t1,t4,t6,t8,t23,t24,oz1,cells_one oz1]
  have dvz:∀b,Zk z b→¬Zk y b:=fun b hb hy=>by
   have h1:=(oz.blk hb).1
   obtain⟨xs,a1,_⟩:=o7
   have h2:=(a1.blk hy).2.1
   omega
  refine((o7.mono s8).mono sC).push s15.wf ybd ((oz.c.base sh7).mono sC) dvz own1 fun y' h9 o9 k9=>?_
  have sh9:h5.Sub h9:=by
   obtain⟨_,a1,_⟩:=o9
   exact a1.1
  simp(disch:=omega)only[go_sem,t1,t4,t6,t8,t23,t24,Zc]
  exact⟨_,_,y',rfl,sh9,by simpa[W0,hbf] using o9,ybr,ybs,ybe,ybq,ybe⟩
 ·rintro s ⟨tm,hh,y,rfl,sh,oy,t1,t4,t6,t23,t24⟩
  simp(disch:=omega)only[go_sem,t1,t4,t6,t23,t24,Int.lt_irrefl]
  exact q y _ (oy.base s5)
end Go.Ab.Tryz
namespace Go.Ab
theorem least {P:Nat→Prop}(h:∃k,P k):∃k,P k∧∀j,P j→k≤j:=by
 obtain⟨k,hk⟩:=h
 induction k using Nat.strongRecOn with
 |ind k ih=>
  by_cases c:∃j,j<k∧P j
  ·obtain⟨j,hj,hp⟩:=c;exact ih j hj hp
  ·exact⟨k,hk,fun j hj=>Nat.le_of_not_lt fun hlt=>c ⟨j,hlt,hj⟩⟩
def rowB (f:Nat→Bool)(n:Nat):List V:=(List.range n).map fun j=>.bool (f j)
theorem Vn (f:Nat→Bool)(n:Nat):(rowB f n).length=n:=by simp[rowB]
theorem rowB_nth {f:Nat→Bool}{n j:Nat}(h:j<n):nth j (rowB f n)=some (.bool (f j)):=by
 rw[nth_get];simp[rowB,h]
theorem rowB_put {f:Nat→Bool}{n j:Nat}(h:j<n)(b:Bool):Z0 j [.bool b] (rowB f n)=some (rowB (fun i=>if i=j then b else f i) n):=by
 have hl:=Vn f n
 have e:(rowB f n).set j (.bool b)=(rowB f n).take j++[.bool b]++(rowB f n).drop (j+1):=by
  rw[List.set_eq_take_append_cons_drop,if_pos ybc,List.append_assoc];rfl
 refine(putN_eq ybb).2 ⟨?_,by rw[hl];exact h⟩
 show _=(rowB f n).take j++[.bool b]++(rowB f n).drop (j+1)
 rw[←e]
 refine List.ext_getElem (by simp[rowB]) fun i h1 h2=>?_
 rw[List.getElem_set]
 simp only[rowB,List.getElem_map,List.getElem_range]
 by_cases c:j=i
 ·subst c;simp
 ·rw[if_neg (fun e=>c e.symm),if_neg c]
theorem repN_false (n:Nat):ZH n [.bool false]=rowB (fun _=>false) n:=by
 induction n with
 |zero=>rfl
 |succ n ih=>
  have:rowB (fun _=>false) (n+1)=[.bool false]++rowB (fun _=>false) n:=by
   simp only[rowB,List.range_succ_eq_map,List.map_cons,List.map_map];rfl
  rw[this,←ih];simp only[ZH,ZY]
theorem a_msl_nn {h:H}{by_ n:Nat}{z:List V}(h1:n*by_≤1099511627776)(h2:n≤1099511627776):
  WV h by_ z (.ii (n:Int)) (.ii (n:Int))=some (.sl h.next 0 n (.fix n),h.add (.bk (ZH n z))):=by
 have e1:Nat.ble (n*by_) 1099511627776=true:=by simpa using h1
 have e2:Nat.ble n 1099511627776=true:=by simpa using h2
 have e3:Nat.ble n n=true:=by simp
 simp only[WV,Ze,e1,e2,e3,Zy,lf_eq]
namespace Tryz
noncomputable def dst (t:Tb)(s p:Nat):Option Nat:= @dite _ (p<t.pieces.length∧∃k,Wk t.pieces.length (MM t) k s p) (Classical.propDecidable _) (fun h=>some (Classical.choose (least h.2))) fun _=>none
theorem dst_some {t:Tb}{s p k:Nat}(h:dst t s p=some k):p<t.pieces.length∧Wk t.pieces.length (MM t) k s p∧∀j,Wk t.pieces.length (MM t) j s p→k≤j:=by
 unfold dst at h
 split at h
 ·rename_i hc
  have:=Classical.choose_spec (least hc.2)
  cases h
  exact⟨hc.1,this⟩
 ·cases h
theorem dst_of {t:Tb}{s p k:Nat}(hp:p<t.pieces.length)(h:Wk t.pieces.length (MM t) k s p):∃j,dst t s p=some j∧j≤k:=by
 unfold dst
 split
 ·rename_i hc
  exact⟨_,rfl,(Classical.choose_spec (least hc.2)).2 k h⟩
 ·rename_i hc
  exact absurd ⟨hp,k,h⟩ hc
theorem Y2 {t:Tb}{s:Nat}(hs:s<t.pieces.length):IsD t.pieces.length (MM t) s (dst t s):=by
 refine⟨?_,fun p h=>((dst_some h).2.1:s=p).symm,fun p k h=>?_,fun p q k hp h hM=>?_,fun p k h=>(dst_some h).1⟩
 ·obtain⟨j,e,l⟩:=dst_of (k:=0) hs rfl
  rw[e,show j=0 by omega]
 ·obtain⟨h1,⟨r,hr,h2,h3⟩,h4⟩:=dst_some h
  obtain⟨j,e,l⟩:=dst_of hr h2
  have h5:=(dst_some e).2.1
  have h6:=h4 (j+1) ⟨r,hr,h5,h3⟩
  exact⟨r,hr,by rw[e,show j=k by omega],h3⟩
 ·obtain⟨h1,h2,_⟩:=dst_some h
  exact dst_of hp ⟨q,h1,h2,hM⟩
theorem dst_comm {t:Tb}(g:Good t){s p:Nat}(hs:s<t.pieces.length)(hp:p<t.pieces.length):dst t s p=dst t p s:=(Y2 hs).symm (MM_comm g) (Y2 hp)
def mats (t:Tb)(n:Nat):List (List (List V)):=(List.range n).map fun p=>(rowB (fun q=>MM t p q) t.pieces.length).map fun v=>[v]
theorem map_sing (l:List V):(l.map fun v=>[v]).flatten=l:=by
 induction l with
 |nil=>rfl
 |cons a l ih=>simp[ih]
set_option maxHeartbeats 2000000 in
theorem WX {h:H}{v:V}{t:Tb}(hw:h.wf)(ht:ZK h v t)(g:Good t)(Q:V→H→Prop)(q:∀x h',ZQ h h' x (mats t t.pieces.length)→Q x h'):Ev fnG Zm (.fn 69 [] []) [v] h Q:=by
 have ht0:=ht
 obtain⟨E,L,P,rfl,aE,aL,aP⟩:=ht
 have hlP:=aP.lenE
 have gp:=g.pieces
 refine Zd (fd:=c69) rfl rfl rfl ?_
 have s1:h.Sub (h.add (.bk [E,L,P])):=yba
 have g1:(h.add (.bk [E,L,P])).cells h.next=some [E,L,P]:=Zf rfl
 simp(disch:=omega)only[c69,go_sem]
 generalize h.add (.bk [E,L,P])=h5 at s1 g1⊢
 refine Zh t.pieces.length (fun c s=>∃tm hh y,s=⟨tm,hh,[]⟩∧ZQ h5 hh y (mats t c)∧h5.Sub hh∧tm.E 1=.ptr h.next 0∧tm.E 3=y∧tm.E 4=.ii (c:Int))
  ?_ ?_ (i:=0) (Nat.zero_le _) ⟨_,_,.nils,rfl,ZQ.nil (H.Sub.refl s1.wf),H.Sub.refl s1.wf,ybb,ybb,ybb⟩
 ·rintro c s hc ⟨tm,hh,y,rfl,oy,sh,t1,t3,t4⟩
  have hc':(c:Int)<(t.pieces.length:Int):=by omega
  have hm:=a_msl_nn (h:=hh) (by_:=1) (n:=t.pieces.length) (z:=[.bool false]) ybc ybc
  rw[repN_false] at hm
  have sB:=(H.Sub.refl sh.wf).add (.bk (rowB (fun _=>false) t.pieces.length))
  have gB:(hh.add (.bk (rowB (fun _=>false) t.pieces.length))).get hh.next=some (.bk (rowB (fun _=>false) t.pieces.length)):=Zn rfl
  have oB:=oy.mono sB
  have shB:=sh.trans sB
  have lh:=sh.next
  have nB:=H.next_add hh (.bk (rowB (fun _=>false) t.pieces.length))
  simp(disch:=omega)only[go_sem,t1,t3,t4,hc',sh.cells g1,hlP,hm]
  generalize(hh.add (.bk (rowB (fun _=>false) t.pieces.length)))=hB at sB gB oB shB nB⊢
  obtain⟨bB,ebB⟩:∃bB,bB=hh.next:=⟨_,rfl⟩
  rw[←ebB] at gB⊢
  refine W.mono (Q:=fun x1 s=>x1=.ext 2∧∃tm hz,s=⟨tm,hz,[]⟩∧Zi (fun b=>b=bB) hB hz∧h5.Sub hz∧hz.get bB=some (.bk (rowB (fun q=>MM t c q) t.pieces.length))∧tm.E 1=.ptr h.next 0∧tm.E 3=y∧tm.E 4=.ii (c:Int)∧tm.E 5=.sl bB 0 t.pieces.length (.fix t.pieces.length))
   (Zh t.pieces.length (fun k s=>∃tm hz,s=⟨tm,hz,[]⟩∧Zi (fun b=>b=bB) hB hz∧h5.Sub hz∧hz.get bB=some (.bk (rowB (fun q=>decide (q<k)&&MM t c q) t.pieces.length))∧tm.E 1=.ptr h.next 0∧tm.E 3=y∧tm.E 4=.ii (c:Int)∧tm.E 5=.sl bB 0 t.pieces.length (.fix t.pieces.length)∧tm.E 6=.ii (k:Int))
   ?_ ?_ (i:=0) (Nat.zero_le _) ⟨_,_,rfl,Zi.refl _ _,shB,by rw[gB];simp[rowB],(by simp[t1]),ybf,ybj,ybb,ybb⟩) fun x1 s hx1=>?_
  ·rintro k s hk ⟨tm,hz,rfl,kz,sh,gb,t1,t3,t4,t5,t6⟩
   have hk':(k:Int)<(t.pieces.length:Int):=by omega
   have ge1:=sh.cells g1
   obtain⟨bP,oP,cP,csP,eP,hcP,hqP,hgP,_,_⟩:=(aP.mono (s1.trans sh)).at hc
   obtain⟨bR,oR,cR,csR,eR,hcR,hqR,hgR,_,_⟩:=(aP.mono (s1.trans sh)).at hk
   have hal:=X3 (h:=hz) sh.wf (ht0.mono (s1.trans sh)) g (g.piece _ (List.getElem_mem hc)) (g.piece _ (List.getElem_mem hk))
   simp only[Zj] at hal hgP hgR
   simp(disch:=omega)only[go_sem,t1,t3,t4,t5,t6,hk',ge1,hqP (Ze c),hcP,hgP,hqR (Ze k),hcR,hgR,Zv]
   refine hal _ fun h9 s9=>?_
   have emm:alike t t.pieces[c] t.pieces[k]=MM t c k:=by
    rw[alike_comm g];unfold MM XC;rw[List.getElem?_eq_getElem hk,List.getElem?_eq_getElem hc]
   rw[emm]
   have gb9:=s9.get gb
   have hiad:ZS 1 (.sl bB 0 t.pieces.length (.fix t.pieces.length)) (.ii (k:Int))=some (.ptr bB k):=by
    have e:Nat.blt k t.pieces.length=true:=by rw[Nat.blt_eq];exact hk
    simp only[ZS,Ze,e,Zy,Nat.mul_one,Nat.zero_add]
   have hput:=rowB_put (f:=fun q=>decide (q<k)&&MM t c q) hk (MM t c k)
   have er:rowB (fun i=>if i=k then MM t c k else decide (i<k)&&MM t c i) t.pieces.length=rowB (fun q=>decide (q<k+1)&&MM t c q) t.pieces.length:=by
    unfold rowB
    refine List.map_congr_left fun j hj=>?_
    congr 1
    dsimp only
    by_cases e:j=k
    ·subst e;rw[if_pos rfl];simp
    ·rw[if_neg e]
     have:decide (j<k)=decide (j<k+1):=by
      rw[Bool.eq_iff_iff];simp;omega
     rw[this]
   rw[er] at hput
   have lb:=s9.wf _ _ gb9
   have sset:=(sh.trans s9).set (b:=bB) ybc lb s1.wf (.bk (rowB (fun q=>decide (q<k+1)&&MM t c q) t.pieces.length))
   have kset:=((kz.trans (Zi.of s9 (fun _=>False))).trans (Zi.set h9 bB (.bk (rowB (fun q=>decide (q<k+1)&&MM t c q) t.pieces.length)))).mono (T:=fun b=>b=bB) (by
    rintro b ((h|h)|h)
    ·exact h
    ·exact h.elim
    ·exact h)
   simp(disch:=omega)only[go_sem,t1,t3,t4,t5,t6,hk',ge1,hqP (Ze c),hcP,hgP,hqR (Ze k),hcR,hgR,Zv,hiad,gb9,hput,Zc]
   exact⟨_,_,rfl,kset,sset,get_set_same rfl,(by simp[t1]),ybf,ybj,ybk,ybb⟩
  ·rintro s ⟨tm,hz,rfl,kz,sh,gb,t1,t3,t4,t5,t6⟩
   simp(disch:=omega)only[go_sem,t1,t3,t4,t5,t6,Int.lt_irrefl]
   refine⟨_,_,rfl,kz,sh,?_,(by simp[t1]),ybf,ybj,ybk⟩
   rw[gb]
   congr 2
   unfold rowB
   refine List.map_congr_left fun j hj=>?_
   dsimp only
   rw[decide_eq_true (List.mem_range.1 hj),Bool.true_and]
  obtain⟨rfl,tm,hz,rfl,kz,shz,gb,t1,t3,t4,t5⟩:=hx1
  have kO:=(Zi.of sB (fun _=>False)).trans kz
  have oz:=oy.keep kO shz fun b h1 h2 h3=>by
   rcases h3 with h3|h3
   ·exact h3
   ·omega
  have lb:=shz.wf _ _ gb
  have ov:ZG h5 hz (.sl bB 0 t.pieces.length (.fix t.pieces.length)) 1 ((rowB (fun q=>MM t c q) t.pieces.length).map fun v=>[v]):=
   ⟨shz,by simp,.inr (.inr ⟨bB,t.pieces.length,[],by simp[Vn],by omega,lb,by rw[map_sing,List.append_nil];exact gb,by simp[Vn],by simp[Vn]⟩)⟩
  have sC:=(H.Sub.refl shz.wf).add (.bk [.sl bB 0 t.pieces.length (.fix t.pieces.length)])
  have own1:Zg (hz.add (.bk [.sl bB 0 t.pieces.length (.fix t.pieces.length)])) (.sl hz.next 0 1 (.fix 1)) 1 [[.sl bB 0 t.pieces.length (.fix t.pieces.length)]]:=Zg.new _ rfl rfl ybb ybb ybb
  have hlm:(mats t c).length=c:=by simp[mats]
  have dv:∀b,Zk (.sl bB 0 t.pieces.length (.fix t.pieces.length)) b→¬Zk y b:=fun b hb hy=>by
   have e:b=bB:=by obtain⟨_,_,_,e⟩:=hb;cases e;rfl
   obtain⟨xs,a1,_⟩:=oy
   have:=(a1.blk hy).2.1
   omega
  simp(disch:=omega)only[go_sem,t1,t3,t4,t5]
  refine(oz.mono sC).push s1.wf ybc (ov.mono sC) dv own1 fun y' h9 o9 k9=>?_
  have sh9:h5.Sub h9:=by
   obtain⟨_,a1,_⟩:=o9
   exact a1.1
  have em:mats t (c+1)=mats t c++[(rowB (fun q=>MM t c q) t.pieces.length).map fun v=>[v]]:=by
   simp[mats,List.range_succ]
  simp(disch:=omega)only[go_sem,t1,t3,t4,t5,Zc]
  exact⟨_,_,y',rfl,by rw[em];exact o9,sh9,(by simp[t1]),ybb,ybb⟩
 ·rintro s ⟨tm,hh,y,rfl,oy,sh,t1,t3,t4⟩
  simp(disch:=omega)only[go_sem,t1,t3,t4,sh.cells g1,hlP,Int.lt_irrefl]
  exact q y _ (oy.base s1)
end Tryz
end Go.Ab
namespace Go.Ab
def Xx (f:Nat→Int)(n:Nat):List V:=(List.range n).map fun j=>.ii (f j)
theorem rowI_len (f:Nat→Int)(n:Nat):(Xx f n).length=n:=by simp[Xx]
theorem rowI_nth {f:Nat→Int}{n j:Nat}(h:j<n):nth j (Xx f n)=some (.ii (f j)):=by
 rw[nth_get];simp[Xx,h]
theorem rowI_put {f:Nat→Int}{n j:Nat}(h:j<n)(b:Int):Z0 j [.ii b] (Xx f n)=some (Xx (fun i=>if i=j then b else f i) n):=by
 have hl:=rowI_len f n
 have e:(Xx f n).set j (.ii b)=(Xx f n).take j++[.ii b]++(Xx f n).drop (j+1):=by
  rw[List.set_eq_take_append_cons_drop,if_pos ybc,List.append_assoc];rfl
 refine(putN_eq ybb).2 ⟨?_,by rw[hl];exact h⟩
 show _=(Xx f n).take j++[.ii b]++(Xx f n).drop (j+1)
 rw[←e]
 refine List.ext_getElem (by simp[Xx]) fun i h1 h2=>?_
 rw[List.getElem_set]
 simp only[Xx,List.getElem_map,List.getElem_range]
 by_cases c:j=i
 ·subst c;simp
 ·rw[if_neg (fun e=>c e.symm),if_neg c]
theorem repN_zero (n:Nat):ZH n [.ii 0]=Xx (fun _=>0) n:=by
 induction n with
 |zero=>rfl
 |succ n ih=>
  have:Xx (fun _=>0) (n+1)=[.ii 0]++Xx (fun _=>0) n:=by
   simp only[Xx,List.range_succ_eq_map,List.map_cons,List.map_map];rfl
  rw[this,←ih];simp only[ZH,ZY]
theorem rowI_map (f:Nat→Int)(n:Nat):Xx f n=(((List.range n).map f).map fun v=>[V.ii v]).flatten:=by
 unfold Xx
 generalize List.range n=l
 induction l with
 |nil=>rfl
 |cons a l ih=>simp only[List.map_cons,List.flatten_cons,←ih];rfl
namespace Tryz
def WY (t:Tb)(s d p q j:Nat):Prop:=∃p',(p'<p∨(p'=p∧j<q))∧p'<t.pieces.length∧dst t s p'=some d∧MM t p' j=true
structure YK (t:Tb)(s:Nat)(f:Nat→Int)(d p q:Nat):Prop where
 low:∀j k,j<t.pieces.length→dst t s j=some k→k≤d→f j=(k:Int)
 high:∀j k,j<t.pieces.length→dst t s j=some k→d+1<k→f j= -1
 non:∀j,j<t.pieces.length→dst t s j=none→f j= -1
 yes:∀j,j<t.pieces.length→dst t s j=some (d+1)→WY t s d p q j→f j=((d+1:Nat):Int)
 no:∀j,j<t.pieces.length→dst t s j=some (d+1)→¬WY t s d p q j→f j= -1
section
variable {t:Tb} {s:Nat} {f:Nat→Int} {d p q:Nat}
theorem YK.val (a:YK t s f d p q){j:Nat}(hj:j<t.pieces.length):f j=(d:Int)↔dst t s j=some d:=by
 constructor
 ·intro h
  cases hd:dst t s j with
  |none=>have:=a.non j hj hd;omega
  |some k=>
   by_cases h1:k≤d
   ·have:=a.low j k hj hd h1
    have:k=d:=by omega
    rw[this]
   ·by_cases h2:k=d+1
    ·subst h2
     by_cases h3:WY t s d p q j
     ·have:=a.yes j hj hd h3;omega
     ·have:=a.no j hj hd h3;omega
    ·have:=a.high j k hj hd ybc;omega
 ·intro h;exact a.low j d hj h (Nat.le_refl _)
theorem YK.neg (a:YK t s f d p q){j:Nat}(hj:j<t.pieces.length){k:Nat}(h:dst t s j=some k)(hk:k≤d+1)(hn:f j<0):k=d+1∧¬WY t s d p q j:=by
 by_cases h1:k≤d
 ·have:=a.low j k hj h h1;omega
 ·have h2:k=d+1:=by omega
  refine⟨h2,fun h3=>?_⟩
  subst h2
  have:=a.yes j hj h h3;omega
theorem VB {j:Nat}:WY t s d p (q+1) j↔WY t s d p q j∨(j=q∧p<t.pieces.length∧dst t s p=some d∧MM t p j=true):=by
 constructor
 ·rintro⟨p',h1,h2,h3,h4⟩
  rcases h1 with h1|⟨h1,h5⟩
  ·exact .inl ⟨p',.inl h1,h2,h3,h4⟩
  ·by_cases e:j=q
   ·subst h1;exact .inr ⟨e,h2,h3,h4⟩
   ·exact .inl ⟨p',.inr ⟨h1,by omega⟩,h2,h3,h4⟩
 ·rintro(⟨p',h1,h2,h3,h4⟩|⟨h1,h2,h3,h4⟩)
  ·exact⟨p',h1.imp id (fun h=>⟨h.1,by omega⟩),h2,h3,h4⟩
  ·exact⟨p,.inr ⟨rfl,by omega⟩,h2,h3,h4⟩
theorem YK.nohit (a:YK t s f d p q)(hs:s<t.pieces.length)(hq:q<t.pieces.length)(hp:p<t.pieces.length)(h:¬(dst t s p=some d∧f q<0∧MM t p q=true)):YK t s f d p (q+1):=by
 refine⟨a.low,a.high,a.non,fun j hj hd hD=>?_,fun j hj hd hD=>a.no j hj hd fun h'=>hD (VB.2 (.inl h'))⟩
 rcases VB.1 hD with h1|⟨h1,h2,h3,h4⟩
 ·exact a.yes j hj hd h1
 ·subst h1
  have h5:¬f j<0:=fun hn=>h ⟨h3,hn,h4⟩
  by_cases hD':WY t s d p j j
  ·exact a.yes j hj hd hD'
  ·have:=a.no j hj hd hD';omega
theorem YK.hit (a:YK t s f d p q)(hs:s<t.pieces.length)(hq:q<t.pieces.length)(hp:p<t.pieces.length)(h1:dst t s p=some d)(h2:f q<0)(h3:MM t p q=true):
  YK t s (fun i=>if i=q then((d+1:Nat):Int) else f i) d p (q+1):=by
 obtain⟨k,hk,hkd⟩:=(Y2 hs).close q p d hq h1 h3
 obtain⟨hk1,hnd⟩:=a.neg hq hk hkd h2
 subst hk1
 refine⟨fun j k hj hd hkd=>?_,fun j k hj hd hkd=>?_,fun j hj hd=>?_,fun j hj hd hD=>?_,fun j hj hd hD=>?_⟩
 ·by_cases e:j=q
  ·subst e;rw[hk] at hd;cases hd;omega
  ·rw[if_neg e];exact a.low j k hj hd hkd
 ·by_cases e:j=q
  ·subst e;rw[hk] at hd;cases hd;omega
  ·rw[if_neg e];exact a.high j k hj hd hkd
 ·by_cases e:j=q
  ·subst e;rw[hk] at hd;cases hd
  ·rw[if_neg e];exact a.non j hj hd
 ·by_cases e:j=q
  ·rw[if_pos e]
  ·rw[if_neg e]
   rcases VB.1 hD with h4|⟨h4,_⟩
   ·exact a.yes j hj hd h4
   ·exact absurd h4 e
 ·by_cases e:j=q
  ·subst e;exact absurd (VB.2 (.inr ⟨rfl,hp,h1,h3⟩)) hD
  ·rw[if_neg e]
   exact a.no j hj hd fun h'=>hD (VB.2 (.inl h'))
theorem done_next {j:Nat}(hj:j<t.pieces.length):WY t s d p t.pieces.length j↔WY t s d (p+1) 0 j:=by
 constructor
 ·rintro⟨p',h1,h2⟩
  refine⟨p',.inl ?_,h2⟩
  rcases h1 with h1|⟨h1,_⟩<;>omega
 ·rintro⟨p',h1,h2⟩
  refine⟨p',?_,h2⟩
  rcases h1 with h1|⟨_,h1⟩
  ·by_cases e:p'=p
   ·exact .inr ⟨e,hj⟩
   ·exact .inl ybc
  ·omega
theorem YK.nextp (a:YK t s f d p t.pieces.length):YK t s f d (p+1) 0:=
 ⟨a.low,a.high,a.non,fun j hj hd hD=>a.yes j hj hd ((done_next hj).2 hD),fun j hj hd hD=>a.no j hj hd fun h=>hD ((done_next hj).1 h)⟩
theorem YK.nextd (a:YK t s f d t.pieces.length 0)(hs:s<t.pieces.length):YK t s f (d+1) 0 0:=by
 have nd:∀j,¬WY t s (d+1) 0 0 j:=fun j ⟨p',h1,_⟩=>by omega
 refine⟨fun j k hj hd hk=>?_,fun j k hj hd hk=>a.high j k hj hd ybc,a.non,fun j hj hd hD=>absurd hD (nd j),fun j hj hd hD=>a.high j (d+1+1) hj hd ybc⟩
 by_cases h1:k≤d
 ·exact a.low j k hj hd h1
 ·have h2:k=d+1:=by omega
  subst h2
  obtain⟨r,hr,h3,h4⟩:=(Y2 hs).step j d hd
  exact a.yes j hj hd ⟨r,.inl hr,hr,h3,h4⟩
theorem YK.init (hs:s<t.pieces.length)(hf:∀j,j<t.pieces.length→f j=if j=s then 0 else -1):YK t s f 0 0 0:=by
 have nd:∀j,¬WY t s 0 0 0 j:=fun j ⟨p',h1,_⟩=>by omega
 have hz:∀j k,j<t.pieces.length→dst t s j=some k→(k=0↔j=s):=fun j k hj hd=>by
  constructor
  ·intro e;subst e;exact(Y2 hs).zero j hd
  ·intro e;subst e
   rw[(Y2 hs).src] at hd;cases hd;rfl
 refine⟨fun j k hj hd hk=>?_,fun j k hj hd hk=>?_,fun j hj hd=>?_,fun j hj hd hD=>absurd hD (nd j),fun j hj hd hD=>?_⟩
 ·have:k=0:=by omega
  rw[hf j hj,if_pos ((hz j k hj hd).1 this),this];rfl
 ·rw[hf j hj,if_neg fun e=>by have:=(hz j k hj hd).2 e;omega]
 ·rw[hf j hj,if_neg fun e=>by subst e;rw[(Y2 hs).src] at hd;cases hd]
 ·rw[hf j hj,if_neg fun e=>by have:=(hz j _ hj hd).2 e;omega]
end
noncomputable def dstI (t:Tb)(s j:Nat):Int:=match dst t s j with|some k=>(k:Int)|none=> -1
theorem YK.fin {t:Tb}{s:Nat}{f:Nat→Int}(a:YK t s f t.pieces.length 0 0)(hs:s<t.pieces.length){j:Nat}(hj:j<t.pieces.length):f j=dstI t s j:=by
 unfold dstI
 cases hd:dst t s j with
 |none=>exact a.non j hj hd
 |some k=>exact a.low j k hj hd (by have:=(Y2 hs).bd hd;omega)
theorem mats_at {t:Tb}(gp:t.pieces.length≤9){h0 h:H}{x:V}(a:ZQ h0 h x (mats t t.pieces.length)){p q:Nat}(hp:p<t.pieces.length)(hq:q<t.pieces.length):
  ∃b o cs row b2 o2 cs2,ZS 1 x (.ii (p:Int))=some (.ptr b o)∧h.cells b=some cs∧nth o cs=some row∧ZS 1 row (.ii (q:Int))=some (.ptr b2 o2)∧h.cells b2=some cs2∧nth o2 cs2=some (.bool (MM t p q))∧q_len x=some (.ii (t.pieces.length:Int)):=by
 obtain⟨xs,a1,a2,a3⟩:=a
 have hm:(mats t t.pieces.length).length=t.pieces.length:=by simp[mats]
 rw[hm] at a2
 have sx:=a1.sl ybd
 obtain⟨b,o,c,cs,e1,e2,e3,_,_,e4⟩:=sx.at (k:=p) ybc
 have h1:=(a3 p ybc ybc).1
 have hr:(mats t t.pieces.length)[p]' ybc=(rowB (fun q=>MM t p q) t.pieces.length).map fun v=>[v]:=by simp[mats]
 rw[hr] at h1
 have sr:=h1.sl (by simp[Vn];omega)
 obtain⟨b2,o2,c2,cs2,f1,f2,f3,_,_,f4⟩:=sr.at (k:=q) (by rw[Vn];exact hq)
 have f5:=f4 ybc
 have e5:=e4 ybc
 have hl:=sx.lenE
 rw[a2] at hl
 refine⟨b,o+p*1,cs,xs[p],b2,o2+q*1,cs2,e3 (Ze p),e2,e5,f3 (Ze q),f2,?_,hl⟩
 rw[f5]
 simp[rowB]
end Tryz
end Go.Ab
