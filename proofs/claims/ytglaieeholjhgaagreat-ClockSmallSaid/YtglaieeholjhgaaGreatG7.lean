import Derived.Test.YtglaieeholjhgaaGreatG2
import Derived.Test.YtglaieeholjhgaaGreatAc7
import Derived.Test.YtglaieeholjhgaaGreatG4
import Derived.Test.YtglaieeholjhgaaGreatG5
import Derived.Test.YtglaieeholjhgaaGreatG6
set_option linter.unusedSimpArgs false
set_option linter.unusedVariables false
theorem yea {p:Prop}(h:p:=by repeat(first|assumption|exact H.Sub.refl (by assumption)|refine H.Sub.add ?_ _|refine H.Sub.set ?_ (by first|omega|(simp only[H.next_add,H.next_set,H.next_del]<;>omega)) (by first|omega|(simp only[H.next_add,H.next_set,H.next_del]<;>omega)) (by assumption) _)):p:=h
theorem yeb {p:Prop}(h:p:=by simp[Zm,Zd]<;>rfl):p:=h
theorem yec {p:Prop}(h:p:=by omega):p:=h
theorem yed {p:Prop}(h:p:=by simp[Zm,Zd,t3]<;>rfl):p:=h
theorem yee {p:Prop}(h:p:=by simp[Zm,Zd,t2]<;>rfl):p:=h
theorem yef {p:Prop}(h:p:=by simp[Zm,Zd,t14]<;>rfl):p:=h
theorem yeg {p:Prop}(h:p:=by simp[Zm,Zd,t7]<;>rfl):p:=h
theorem yeh {p:Prop}(h:p:=by decide):p:=h
theorem yei {p:Prop}(h:p:=by simp[Zm,Zd,t10]<;>rfl):p:=h
theorem yej {p:Prop}(h:p:=by simp[Zm,Zd,t13]<;>rfl):p:=h
theorem yek {p:Prop}(h:p:=by simp[Zm,Zd,t12]<;>rfl):p:=h
theorem yel {p:Prop}(h:p:=by simp[Zm,Zd,t172]<;>rfl):p:=h
theorem yem {p:Prop}(h:p:=by simp[Zm,Zd,t1]<;>rfl):p:=h
theorem yen {p:Prop}(h:p:=by simp[Zm,Zd,t9]<;>rfl):p:=h
theorem yeo {p:Prop}(h:p:=by simp[Zm,Zd,t11]<;>rfl):p:=h
theorem yep {p:Prop}(h:p:=by simp[Zm,Zd,t358]<;>rfl):p:=h
theorem yeq {p:Prop}(h:p:=by simp[Zm,Zd,t15]<;>rfl):p:=h
theorem yer {p:Prop}(h:p:=by simp[Zm,Zd,t57]<;>rfl):p:=h
theorem yes {p:Prop}(h:p:=by simp[Zm,Zd,t58]<;>rfl):p:=h
theorem yet {p:Prop}(h:p:=by simp[Zm,Zd,t26]<;>rfl):p:=h
theorem yeu {p:Prop}(h:p:=by simp only[Zd];rfl):p:=h
theorem yev {p:Prop}(h:p:=by simp[encI]):p:=h
theorem yew {p:Prop}(h:p:=by simp):p:=h
theorem yex {p:Prop}(h:p:=by simp[Zm,Zd,t411]<;>rfl):p:=h
theorem yey {p:Prop}(h:p:=by simp[Zm,Zd,t412]<;>rfl):p:=h
theorem yez {p:Prop}(h:p:=by simp[Zm,Zd,t59]<;>rfl):p:=h
theorem yeA {p:Prop}(h:p:=by simp[Zm,Zd,t413]<;>rfl):p:=h
theorem yeB {p:Prop}(h:p:=by rw[List.length_map]):p:=h
theorem yeC {p:Prop}(h:p:=by simp[Zm,Zd,t66]<;>rfl):p:=h
theorem yeD {p:Prop}(h:p:=by simp[Zm,Zd,t67]<;>rfl):p:=h
theorem yeE {p:Prop}(h:p:=by show(a.cks.map Z9).length≤100;rw[List.length_map];omega):p:=h
theorem yeF {p:Prop}(h:p:=by show(a.rds.map encR).length≤100;rw[List.length_map];omega):p:=h
theorem yeG {p:Prop}(h:p:=by show(a.gps.map ZF).length≤100;rw[List.length_map];omega):p:=h
theorem yeH {p:Prop}(h:p:=by rw[List.length_map];omega):p:=h
theorem yeI {p:Prop}(h:p:=by show(a.cks.map Z9).length≤_;rw[List.length_map];omega):p:=h
theorem yeJ {p:Prop}(h:p:=by simp[Zm,Zd,t68]<;>rfl):p:=h
theorem yeK {p:Prop}(h:p:=by simp[Zm,Zd,t27]<;>rfl):p:=h
theorem yeL {p:Prop}(h:p:=by simp[Zm,Zd,t28]<;>rfl):p:=h
theorem yeM {p:Prop}(h:p:=by simp[Zm,Zd,t29]<;>rfl):p:=h
theorem yeN {p:Prop}(h:p:=by simp[Zm,Zd,t30]<;>rfl):p:=h
namespace Go.Ab.Tryz
open Go.Proofs
theorem missI_fit {a:At}(ss gg tt:List Int):decide (Vo a ss gg tt=0)=a.rds.all (WX ss gg tt):=by
 rw[Bool.eq_iff_iff,decide_eq_true_eq,List.all_eq_true]
 unfold Vo
 have key:∀n,n≤a.rds.length→(ZG (Xg a ss gg tt) n=0↔∀j (hj:j<a.rds.length),j<n→WX ss gg tt a.rds[j]=true):=fun n hn=>by
  induction n with
  |zero=>simp[ZG]
  |succ n ih=>
   have hb:=WC (Xg a ss gg tt) n
   have hp:(0:Int)<2^n:=Int.pow_pos yeh
   have hm:Xg a ss gg tt n= !WX ss gg tt a.rds[n]:=by
    unfold Xg WX
    rw[List.getElem?_eq_getElem yec]
    simp[Zr]
   rw[ZG,hm]
   have ih:=ih yec
   constructor
   ·intro h j hj hn
    by_cases e:j=n
    ·subst e
     cases hr:WX ss gg tt a.rds[j] with
     |true=>rfl
     |false=>rw[hr] at h;simp at h;omega
    ·refine ih.1 ?_ j hj yec
     split at h<;>omega
   ·intro h
    rw[ih.2 fun j hj hn=>h j hj yec,h n yec yec];rfl
 rw[key _ (Nat.le_refl _)]
 constructor
 ·intro h x hx
  obtain⟨j,hj,rfl⟩:=List.mem_iff_getElem.1 hx
  exact h j hj hj
 ·intro h j hj _
  exact h _ (List.getElem_mem hj)
def rgtB (a:At)(ss gg tt:List Int):Bool:=Wu a ss gg tt&&(YX a ss gg&&WR a tt)
theorem fitB_r (a:At)(ss gg tt:List Int):VV a ss gg tt=(rgtB a ss gg tt&&(gapsB a tt&&decide (Vo a ss gg tt=0))):=by
 rw[missI_fit]
 unfold VV rgtB
 have:gapsB a tt=a.gps.all (gpFit tt):=rfl
 rw[this]
 cases Wu a ss gg tt<;>cases YX a ss gg<;>cases WR a tt<;>cases a.gps.all (gpFit tt)<;>simp
theorem cks_at {a:At}{ss gg:List Int}{i:Nat}(h1:i<a.cks.length)(h2:i<ss.length)(h3:i<gg.length)(h:YX a ss gg=true):XC a.cks[i] (ss[i],gg[i])=true:=by
 unfold YX at h
 rw[List.all_eq_true] at h
 have:=h (a.cks[i],(ss[i],gg[i])) (List.mem_of_getElem? (i:=i) (by rw[List.getElem?_zip_eq_some];exact⟨List.getElem?_eq_getElem h1,Wa.2 ⟨List.getElem?_eq_getElem h2,List.getElem?_eq_getElem h3⟩⟩))
 exact this
theorem cks_all {a:At}{ss gg:List Int}(l1:ss.length=a.cks.length)(l2:gg.length=a.cks.length)(h:∀i (h1:i<a.cks.length),XC a.cks[i] (ss[i],gg[i])=true):YX a ss gg=true:=by
 unfold YX
 rw[List.all_eq_true]
 intro x hx
 obtain⟨i,hi⟩:=List.mem_iff_getElem?.1 hx
 obtain⟨q1,q2⟩:=List.getElem?_zip_eq_some.1 hi
 obtain⟨q3,q4⟩:=Wa.1 q2
 obtain⟨cc,s,g⟩:=x
 simp only at q1 q3 q4
 have hl:=Vf q1
 have:=h i hl
 rw[List.getElem?_eq_getElem hl] at q1
 rw[List.getElem?_eq_getElem yec] at q3 q4
 cases q1;cases q3;cases q4
 exact this
set_option maxHeartbeats 8000000 in
theorem refRight_ev {h:H}(hw:h.wf){a:At}{C R G:V}(x:ZP h C R G a)(r:Zl a){S Ga Tm:V}{ss gg tt:List Int}(t:WF h S Ga Tm ss gg tt)(Q:V→H→Prop)(q:∀h',h.Sub h'→Q (.bool (rgtB a ss gg tt)) h'):
  Ev fnG Zi (.fn 104 [] []) [.agg (atV a C R G),.agg [S,Ga,Tm]] h Q:=by
 have oC:=x.c.one;have oR:=x.r.one;have oG:=x.g.one
 have oS:=t.s.one;have oGa:=t.g.one;have oTm:=t.t.one
 have hlC:=x.c.lenE
 have h1:=t.s.lenE;have h2:=t.g.lenE;have h3:=t.t.lenE
 have rl:=r.lens
 have re:=r.evs
 refine Ze (fd:=c104) rfl rfl rfl ?_
 obtain⟨z,hz⟩:∃z,(h.add (.bk (atV a C R G))).add (.bk [S,Ga,Tm])=z:=⟨_,rfl⟩
 have sz:h.Sub z:=by rw[←hz];exact yea
 have ga:z.get h.next=some (.bk (atV a C R G)):=by rw[←hz];simp -implicitDefEqProofs(disch:=first|omega|simp only[nZ]<;>omega|fail)only[go_sem]
 have gt:z.get (h.next+1)=some (.bk [S,Ga,Tm]):=by rw[←hz];simp -implicitDefEqProofs(disch:=first|omega|simp only[nZ]<;>omega|fail)only[go_sem]
 have no:Wu a ss gg tt=false→Q (.bool false) z:=fun e=>by
  have:=q _ sz
  unfold rgtB at this
  rwa[e,Bool.false_and] at this
 by_cases l1:(ss.length:Int)=(a.cks.length:Int)
 case neg=>
  have e:Wu a ss gg tt=false:=by rw[←Bool.not_eq_true,Y4];omega
  simp(disch:=omega)only[c104,go_sem,oC,oR,oG,oS,oGa,oTm,hz,Za ga,Za gt,hlC,h1,h2,h3,l1,ne_eq,not_false_eq_true]
  try rw[hz]
  exact no e
 by_cases l2:(gg.length:Int)=(a.cks.length:Int)
 case neg=>
  have e:Wu a ss gg tt=false:=by rw[←Bool.not_eq_true,Y4];omega
  simp(disch:=omega)only[c104,go_sem,oC,oR,oG,oS,oGa,oTm,hz,Za ga,Za gt,hlC,h1,h2,h3,l1,l2,ne_eq,not_false_eq_true,not_true_eq_false]
  try rw[hz]
  exact no e
 by_cases l3:(tt.length:Int)=a.evs
 case neg=>
  have e:Wu a ss gg tt=false:=by rw[←Bool.not_eq_true,Y4];omega
  simp(disch:=omega)only[c104,go_sem,oC,oR,oG,oS,oGa,oTm,hz,Za ga,Za gt,hlC,h1,h2,h3,l1,l2,l3,ne_eq,not_false_eq_true,not_true_eq_false]
  try rw[hz]
  exact no e
 have eL:Wu a ss gg tt=true:=Y4.2 ⟨by omega,by omega,l3⟩
 have q':∀h',h.Sub h'→Q (.bool (YX a ss gg&&WR a tt)) h':=fun h' s=>by
  have:=q _ s
  unfold rgtB at this
  rwa[eL,Bool.true_and] at this
 clear no q
 simp(disch:=omega)only[c104,go_sem,oC,oR,oG,oS,oGa,oTm,hz,Za ga,Za gt,hlC,h1,h2,h3,l1,l2,l3,ne_eq,not_true_eq_false]
 try rw[hz]
 clear hz
 refine W.mono (Q:=fun x1 s=>(x1=.ext 0∧YX a ss gg=true∧∃tm,s=⟨tm,z,[]⟩∧tm.E 2=.ptr h.next 0∧tm.E 3=.ptr (h.next+1) 0)∨(x1=.ret∧YX a ss gg=false∧∃tm,s=⟨tm,z,[]⟩∧tm.E 4=.bool false))
  (Zk a.cks.length (fun i s=>∃tm,s=⟨tm,z,[]⟩∧(∀j (hj:j<a.cks.length),j<i→XC a.cks[j] (ss[j],gg[j])=true)∧tm.E 2=.ptr h.next 0∧tm.E 3=.ptr (h.next+1) 0∧tm.E 5=.ii (i:Int))
  ?_ ?_ (i:=0) (Nat.zero_le _) ⟨_,rfl,fun j hj h0=>by omega,yeb,yeb,yeb⟩) fun x1 s hx1=>?_
 ·rintro i s hi ⟨tm,rfl,hall,t2,t3,t5⟩
  have hi':(i:Int)<(a.cks.length:Int):=by omega
  have hiS:i<ss.length:=by omega
  have hiG:i<gg.length:=by omega
  obtain⟨bC,o1,k1,csC,_,hcC,hqC,_,hnC,hn0C⟩:=(x.c.mono sz).at hi
  obtain⟨bS,o2,k2,csS,_,hcS,hqS,_,_,nS'⟩:=(t.s.mono sz).at hiS
  obtain⟨bG,o3,k3,csG,_,hcG,hqG,_,_,nG'⟩:=(t.g.mono sz).at hiG
  have nS':=nS' yeh
  have nG':=nG' yeh
  simp only[encI,List.getElem?_cons_zero] at nS' nG'
  have v0:=hn0C yeh
  have v1:=hnC 1 yeh
  have v2:=hnC 2 yeh
  have v3:=hnC 3 yeh
  have hno:XC a.cks[i] (ss[i],gg[i])=false→YX a ss gg=false:=fun e=>by
   cases hc:YX a ss gg with
   |false=>rfl
   |true=>rw[cks_at hi hiS hiG hc] at e;cases e
  have hok:XC a.cks[i] (ss[i],gg[i])=true→∀j (hj:j<a.cks.length),j<i+1→XC a.cks[j] (ss[j],gg[j])=true:=fun e j hj h0=>by
   by_cases e2:j=i
   ·subst e2;exact e
   ·exact hall j hj yec
  generalize a.cks[i]=c0 at v0 v1 v2 v3 hno hok
  generalize ss[i]=sv at nS' hno hok
  generalize gg[i]=gv at nG' hno hok
  simp only[Z9,List.getElem?_cons_zero,List.getElem?_cons_succ] at v0 v1 v2 v3
  cases b1:inB sv c0.sl c0.sh with
  |false=>
   have e:=hno (by unfold XC;rw[b1,Bool.false_and])
   simp(disch:=omega)only[go_sem,t2,t3,t5,hi',hlC,Za ga,Za gt,hqC (Zb i),hcC,v0,v1,v2,v3,hqS (Zb i),hcS,nS',hqG (Zb i),hcG,nG',Yv,b1]
   first|exact .inr ⟨rfl,e,_,rfl,yeb⟩|exact .inr ⟨e,_,rfl,yeb⟩|exact⟨e,_,rfl,yeb⟩
  |true=>
   cases b2:inB gv c0.gl c0.gh with
   |false=>
    have e:=hno (by unfold XC;rw[b1,b2];rfl)
    simp(disch:=omega)only[go_sem,t2,t3,t5,hi',hlC,Za ga,Za gt,hqC (Zb i),hcC,v0,v1,v2,v3,hqS (Zb i),hcS,nS',hqG (Zb i),hcG,nG',Yv,b1,b2]
    first|exact .inr ⟨rfl,e,_,rfl,yeb⟩|exact .inr ⟨e,_,rfl,yeb⟩|exact⟨e,_,rfl,yeb⟩
   |true=>
    have e:=hok (by unfold XC;rw[b1,b2];rfl)
    simp(disch:=omega)only[go_sem,t2,t3,t5,hi',hlC,Za ga,Za gt,hqC (Zb i),hcC,v0,v1,v2,v3,hqS (Zb i),hcS,nS',hqG (Zb i),hcG,nG',Yv,b1,b2,Zj]
    exact⟨_,rfl,e,yee,yed,yeb⟩
 ·rintro s ⟨tm,rfl,hall,t2,t3,t5⟩
  have e:YX a ss gg=true:=cks_all yec yec fun i h1=>hall i h1 h1
  simp(disch:=omega)only[go_sem,t2,t3,t5,hlC,Za ga,Za gt,Int.lt_irrefl]
  first|exact .inl ⟨rfl,e,_,rfl,yee,yed⟩|exact .inl ⟨e,_,rfl,yee,yed⟩|exact⟨e,_,rfl,yee,yed⟩
 rcases hx1 with⟨rfl,e,tm,rfl,t2,t3⟩|⟨rfl,e,tm,rfl,t4⟩
 ·rw[e,Bool.true_and] at q'
  simp(disch:=omega)only[go_sem,t2,t3]
  refine Zk tt.length (fun i s=>∃tm,s=⟨tm,z,[]⟩∧(tt.take i).all (fun t=>inB t 0 a.mins)=true∧tm.E 2=.ptr h.next 0∧tm.E 3=.ptr (h.next+1) 0∧tm.E 6=.ii (i:Int))
   ?_ ?_ (i:=0) (Nat.zero_le _) ⟨_,rfl,by simp,yee,yed,yeb⟩
  ·clear t2 t3
   rintro i s hi ⟨tm,rfl,hall,t2,t3,t6⟩
   have hi':(i:Int)<a.evs:=by omega
   obtain⟨bT,o2,k2,csT,_,hcT,hqT,_,_,nT'⟩:=(t.t.mono sz).at hi
   have nT':=nT' yeh
   simp only[encI,List.getElem?_cons_zero] at nT'
   have hok:=fun hp=>all_take_ok (p:=fun t=>inB t 0 a.mins) hi hall hp
   have hbad:=fun hp=>all_bad (p:=fun t=>inB t 0 a.mins) hi hp
   generalize tt[i]=tv at nT' hok hbad
   cases b1:inB tv 0 a.mins with
   |false=>
    have e:WR a tt=false:=hbad b1
    rw[e] at q'
    simp(disch:=omega)only[go_sem,t2,t3,t6,hi',Za ga,Za gt,hqT (Zb i),hcT,nT',Yv,b1]
    exact q' _ sz
   |true=>
    simp(disch:=omega)only[go_sem,t2,t3,t6,hi',Za ga,Za gt,hqT (Zb i),hcT,nT',Yv,b1,Zj]
    exact⟨_,rfl,hok b1,yee,yed,yeb⟩
  ·clear t2 t3
   rintro s ⟨tm,rfl,hall,t2,t3,t6⟩
   rw[List.take_length] at hall
   have e:WR a tt=true:=hall
   rw[e] at q'
   have hi':¬(tt.length:Int)<a.evs:=by omega
   simp(disch:=omega)only[go_sem,t2,t3,t6,hi',Za ga,Za gt]
   exact q' _ sz
 ·rw[e,Bool.false_and] at q'
  simp(disch:=omega)only[go_sem,t4]
  exact q' _ sz
set_option maxHeartbeats 4000000 in
theorem refFits_ev {h:H}(hw:h.wf){a:At}{C R G:V}(x:ZP h C R G a)(r:Zl a){S Ga Tm:V}{ss gg tt:List Int}(t:WF h S Ga Tm ss gg tt)(Q:V→H→Prop)(q:∀h',h.Sub h'→Q (.bool (VV a ss gg tt)) h'):
  Ev fnG Zi (.fn 53 [] []) [.agg (atV a C R G),.agg [S,Ga,Tm]] h Q:=by
 have oC:=x.c.one;have oR:=x.r.one;have oG:=x.g.one
 have oS:=t.s.one;have oGa:=t.g.one;have oTm:=t.t.one
 refine Ze (fd:=c53) rfl rfl rfl ?_
 obtain⟨z,hz⟩:∃z,(h.add (.bk (atV a C R G))).add (.bk [S,Ga,Tm])=z:=⟨_,rfl⟩
 have sz:h.Sub z:=by rw[←hz];exact yea
 have ga:z.get h.next=some (.bk (atV a C R G)):=by rw[←hz];simp -implicitDefEqProofs(disch:=first|omega|simp only[nZ]<;>omega|fail)only[go_sem]
 have gt:z.get (h.next+1)=some (.bk [S,Ga,Tm]):=by rw[←hz];simp -implicitDefEqProofs(disch:=first|omega|simp only[nZ]<;>omega|fail)only[go_sem]
 rw[fitB_r] at q
 simp(disch:=omega)only[c53,go_sem,oC,oR,oG,oS,oGa,oTm,hz,Za ga,Za gt]
 try rw[hz]
 clear hz
 refine refRight_ev sz.wf (x.mono sz) r (t.mono sz) _ fun z1 s1=>?_
 have s01:=sz.trans s1
 cases e:rgtB a ss gg tt with
 |false=>
  rw[e] at q
  simp(disch:=omega)only[go_sem]
  exact q _ s01
 |true=>
  rw[e,Bool.true_and] at q
  simp only[rgtB,Bool.and_eq_true,Y4] at e
  obtain⟨⟨l1,l2,l3⟩,e1,e2⟩:=e
  have hm:=r.mins
  have ht:∀t∈tt,0≤t∧t≤240:=fun t ht=>by
   unfold WR at e2
   have:=Zs.1 (List.all_eq_true.1 e2 t ht)
   omega
  have hrun:∀(k:Nat) s g,ss[k]? =some s→gg[k]? =some g→Wy s g:=fun k s g h1 h2=>by
   have lk:=Vf h1
   have lk2:=Vf h2
   have lc:k<a.cks.length:=by omega
   have:=cks_at lc lk lk2 e1
   rw[List.getElem?_eq_getElem lk] at h1
   rw[List.getElem?_eq_getElem lk2] at h2
   cases h1;cases h2
   simp only[XC,Bool.and_eq_true,Zs] at this
   exact(Wn.mk ⟨_,List.getElem?_eq_getElem lc,this.1.1,this.1.2,this.2.1,this.2.2⟩:Wn a k (ss[k],gg[k])).run r
  simp(disch:=omega)only[go_sem,Za (s1.get ga),Za (s1.get gt),oC,oR,oG,oS,oGa,oTm]
  refine refGaps_ev s01.wf (x.mono s01) r (t.t.mono s01) l3 ht _ fun z2 s2=>?_
  have s12:=s1.trans s2
  have s02:=s01.trans s2
  cases e3:gapsB a tt with
  |false=>
   rw[e3] at q
   simp(disch:=omega)only[go_sem]
   exact q _ s02
  |true=>
   rw[e3,Bool.true_and] at q
   simp(disch:=omega)only[go_sem,Za (s12.get ga),Za (s12.get gt),oC,oR,oG,oS,oGa,oTm]
   refine Missed_ev s02.wf (x.mono s02) r (t.mono s02) l1 l2 l3 ht hrun _ fun z3 s3=>?_
   simp(disch:=omega)only[go_sem]
   exact q _ (s02.trans s3)
theorem lawTold_ev {h:H}(hw:h.wf){S Ga Tm:V}{ss gg tt:List Int}(t:WF h S Ga Tm ss gg tt)(l:ss.length≤1000∧gg.length≤1000∧tt.length≤1000)(Q:V→H→Prop)(q:∀S' G' T' h',h.Sub h'→WF h' S' G' T' ss gg tt→Q (.agg [S',G',T']) h'):
  Ev fnG Zi (.fn 54 [] []) [.agg [S,Ga,Tm]] h Q:=by
 obtain⟨l1,l2,l3⟩:=l
 have oS:=t.s.one;have oGa:=t.g.one;have oTm:=t.t.one
 obtain⟨z2,hz2⟩:∃z2,(h.add (.bk [S,Ga,Tm])).add (.bk [.nils,.nils,.nils])=z2:=⟨_,rfl⟩
 have s2:h.Sub z2:=by rw[←hz2];exact yea
 have g1:z2.get h.next=some (.bk [S,Ga,Tm]):=by rw[←hz2];simp -implicitDefEqProofs(disch:=first|omega|simp only[nZ]<;>omega|fail)only[go_sem]
 have g2:z2.get (h.next+1)=some (.bk [.nils,.nils,.nils]):=by rw[←hz2];simp -implicitDefEqProofs(disch:=first|omega|simp only[nZ]<;>omega|fail)only[go_sem]
 have s3:=(H.Sub.refl s2.wf).add (.bk (ss.map encI).flatten)
 have s4:=s3.add (.bk (gg.map encI).flatten)
 have s5:=s4.add (.bk (tt.map encI).flatten)
 have n2':z2.next=h.next+2:=by rw[←hz2];simp only[H.next_add]
 refine Ze (fd:=c54) rfl rfl rfl ?_
 simp(disch:=omega)only[c54,go_sem,oS,oGa,oTm]
 rw[hz2]
 clear hz2
 have w2:=s2.wf
 have w3:=s3.wf
 have w4:=s4.wf
 simp(disch:=omega)only[go_sem,X5 w2 (t.s.mono s2) yec,X5 w3 (t.g.mono (s2.trans s3)) yec,X5 w4 (t.t.mono (s2.trans s4)) yec,Za g1,Za (s3.get g1),Za (s4.get g1),Za (s5.get g1),s5.get g2]
 have n2:z2.next=h.next+2:=n2'
 have lS:∀l:List Int,l.length≤1000→(l.map encI).length≤9223372036854775807:=fun l hl=>by rw[List.length_map];omega
 have a1:Zg (z2.add (.bk (ss.map encI).flatten)) (.sl z2.next 0 ss.length (.fix ss.length)) 1 (ss.map encI):=Zg.new _ rfl yeB rfl yev (lS _ l1)
 have a2:Zg ((z2.add (.bk (ss.map encI).flatten)).add (.bk (gg.map encI).flatten)) (.sl (z2.next+1) 0 gg.length (.fix gg.length)) 1 (gg.map encI):=Zg.new _ (by rw[H.next_add]) yeB rfl yev (lS _ l2)
 have a3:Zg (((z2.add (.bk (ss.map encI).flatten)).add (.bk (gg.map encI).flatten)).add (.bk (tt.map encI).flatten)) (.sl (z2.next+1+1) 0 tt.length (.fix tt.length)) 1 (tt.map encI):=Zg.new _ (by rw[H.next_add,H.next_add]) yeB rfl yev (lS _ l3)
 have b1:=a1.mono (((H.Sub.refl s3.wf).add (.bk (gg.map encI).flatten)).add (.bk (tt.map encI).flatten))
 have b2:=a2.mono ((H.Sub.refl s4.wf).add (.bk (tt.map encI).flatten))
 refine q _ _ _ _ ((s2.trans s5).set yec (by simp only[H.next_add];omega) hw _) ⟨Yb b1 (Up.sl (n:=z2.next) (Nat.le_refl _)) (Zh.set ..) fun b e=>by omega,Yb b2 (Up.sl (n:=z2.next) yec) (Zh.set ..) fun b e=>by omega,Yb a3 (Up.sl (n:=z2.next) yec) (Zh.set ..) fun b e=>by omega⟩
end Go.Ab.Tryz
namespace Go.Ab.Tryz
open Go.Proofs
theorem someT_no {a:At}(h:ZO a false≠0):YY a=([],[],[]):=by
 unfold YY
 split
 ·rfl
 ·rw[if_neg h]
structure TmS (h:H)(b5 b7:Nat)(a:At)(ss gg tt:List Int)(tm:Go.Ab.T V):Prop where
 t2:tm.E 2=.ptr h.next 0
 t3:tm.E 3=.ptr (h.next+1) 0
 t5:tm.E 5=.ptr b5 0
 t6:tm.E 6=.ptr (b5+1) 0
 t7:tm.E 7=.ptr b7 0
 t8:tm.E 8=.ii (Zn a)
set_option maxHeartbeats 16000000 in
theorem ClockTruths_sub {h:H}(hw:h.wf){a:At}{C R G:V}(x:ZP h C R G a){S Ga Tm:V}{ss gg tt:List Int}(t:WF h S Ga Tm ss gg tt):Ev fnG Zi (.fn 11 [] []) [.agg (atV a C R G),.agg [S,Ga,Tm]] h fun v h'=>v=.bool true∧h.Sub h':=by
 refine Ev.gen fun Q q=>?_
 have oC:=x.c.one;have oR:=x.r.one;have oG:=x.g.one
 have oS:=t.s.one;have oGa:=t.g.one;have oTm:=t.t.one
 have h1:=t.s.lenE;have h2:=t.g.lenE;have h3:=t.t.lenE
 refine Ze (fd:=c11) rfl rfl rfl ?_
 obtain⟨z,hz⟩:∃z,(h.add (.bk (atV a C R G))).add (.bk [S,Ga,Tm])=z:=⟨_,rfl⟩
 have sz:h.Sub z:=by rw[←hz];exact yea
 have nz:z.next=h.next+2:=by rw[←hz];simp only[H.next_add]
 have ga:z.get h.next=some (.bk (atV a C R G)):=by rw[←hz];simp -implicitDefEqProofs(disch:=first|omega|simp only[nZ]<;>omega|fail)only[go_sem]
 have gt:z.get (h.next+1)=some (.bk [S,Ga,Tm]):=by rw[←hz];simp -implicitDefEqProofs(disch:=first|omega|simp only[nZ]<;>omega|fail)only[go_sem]
 simp(disch:=omega)only[c11,go_sem,oC,oR,oG,oS,oGa,oTm,hz,Za ga]
 try rw[hz]
 clear hz
 refine wide_ev sz.wf (x.mono sz) _ fun wd z1 s1 hwd=>?_
 cases wd with
 |true=>
  simp(disch:=omega)only[go_sem,Z3]
  exact q _ _ ⟨rfl,sz.trans s1⟩
 |false=>
 obtain⟨hg,hbd⟩:=hwd rfl
 clear hwd
 have hl:a.cks.length≤8∧a.rds.length≤12∧a.gps.length≤9:=by
  simp only[XK,decide_eq_false_iff_not] at hg
  omega
 have sm:YJ a:=⟨by omega,by omega,by omega⟩
 have s01:=sz.trans s1
 by_cases g1:(12:Int)<(ss.length:Int)
 ·simp(disch:=omega)only[go_sem,Za (s1.get gt),h1,g1,Z3]
  exact q _ _ ⟨rfl,s01⟩
 by_cases g2:(12:Int)<(gg.length:Int)
 ·simp(disch:=omega)only[go_sem,Za (s1.get gt),h1,h2,g1,g2,Z3]
  exact q _ _ ⟨rfl,s01⟩
 by_cases g3:(12:Int)<(tt.length:Int)
 ·simp(disch:=omega)only[go_sem,Za (s1.get gt),h1,h2,h3,g1,g2,g3,Z3]
  exact q _ _ ⟨rfl,s01⟩
 simp(disch:=omega)only[go_sem,Za (s1.get gt),Za (s1.get ga),h1,h2,h3,g1,g2,g3,oC,oR,oG]
 refine own_ev s01.wf (x.mono s01) sm _ fun C1 R1 G1 z2 n2=>?_
 have s2:=n2.s
 have s02:=s01.trans s2
 have s12:=s1.trans s2
 simp(disch:=omega)only[go_sem,Za (s1.get ga),Za (s12.get ga),oC,oR,oG]
 refine XY s02.wf (x.mono s02) sm _ fun C2 R2 G2 z3 s3 x3=>?_
 have s03:=s02.trans s3
 have x1:=(n2.at_ sm).mono s3
 have o1C:=x1.c.one;have o1R:=x1.r.one;have o1G:=x1.g.one
 have o2C:=x3.c.one;have o2R:=x3.r.one;have o2G:=x3.g.one
 simp -implicitDefEqProofs(disch:=first|omega|simp only[nZ]<;>omega|fail)only[go_sem,Za (s1.get ga),Za (s12.get ga),Za ((s12.trans s3).get ga),o1C,o1R,o1G,o2C,o2R,o2G,oC,oR,oG]
 obtain⟨z4,hz4⟩:∃z4,((((z3.add (.bk [.ii 0,.ii 0,.nils,.nils,.nils])).add (.bk [.ii 0,.ii 0,.nils,.nils,.nils])).set z3.next (.bk (atV a C1 R1 G1))).set (z3.next+1) (.bk (atV a C2 R2 G2)))=z4:=⟨_,rfl⟩
 have s4:z3.Sub z4:=by have:=s03.wf;rw[←hz4];exact yea
 have g9:z4.get z3.next=some (.bk (atV a C1 R1 G1)):=by rw[←hz4];simp -implicitDefEqProofs(maxSteps:=999999)(disch:=first|with_reducible rfl|omega|(simp only[nA,nS,nD]<;>omega)|fail)only[go_sem]
 have g10:z4.get (z3.next+1)=some (.bk (atV a C2 R2 G2)):=by rw[←hz4];simp -implicitDefEqProofs(maxSteps:=999999)(disch:=first|with_reducible rfl|omega|(simp only[nA,nS,nD]<;>omega)|fail)only[go_sem]
 try rw[hz4]
 have s04:=s03.trans s4
 have gt4:=(s12.trans (s3.trans s4)).get gt
 have w4:=s04.wf
 have sd1:=(H.Sub.refl w4).add (.bk (ss.map encI).flatten)
 have sd2:=sd1.add (.bk (gg.map encI).flatten)
 have sd3:=sd2.add (.bk (tt.map encI).flatten)
 have lS:∀l:List Int,l.length≤1000→(l.map encI).length≤9223372036854775807:=fun l hl=>by rw[List.length_map];omega
 have a1:Zg (z4.add (.bk (ss.map encI).flatten)) (.sl z4.next 0 ss.length (.fix ss.length)) 1 (ss.map encI):=Zg.new _ rfl yeB rfl yev (lS _ yec)
 have a2:Zg ((z4.add (.bk (ss.map encI).flatten)).add (.bk (gg.map encI).flatten)) (.sl (z4.next+1) 0 gg.length (.fix gg.length)) 1 (gg.map encI):=Zg.new _ (by rw[H.next_add]) yeB rfl yev (lS _ yec)
 have a3:Zg (((z4.add (.bk (ss.map encI).flatten)).add (.bk (gg.map encI).flatten)).add (.bk (tt.map encI).flatten)) (.sl (z4.next+1+1) 0 tt.length (.fix tt.length)) 1 (tt.map encI):=Zg.new _ (by rw[H.next_add,H.next_add]) yeB rfl yev (lS _ yec)
 have b1:=a1.mono (((H.Sub.refl sd1.wf).add (.bk (gg.map encI).flatten)).add (.bk (tt.map encI).flatten))
 have b2:=a2.mono ((H.Sub.refl sd2.wf).add (.bk (tt.map encI).flatten))
 simp -implicitDefEqProofs(maxSteps:=999999)(disch:=first|with_reducible rfl|omega|(simp only[nA,nS,nD]<;>omega)|fail)only[go_sem,X5 w4 (t.s.mono s04) yec,X5 sd1.wf (t.g.mono (s04.trans sd1)) yec,X5 sd2.wf (t.t.mono (s04.trans sd2)) yec,Za gt4,Za (sd1.get gt4),Za (sd2.get gt4),Za (sd3.get gt4),Za (sd3.get g10),o2C,o2R,o2G]
 obtain⟨z5,hz5⟩:∃z5,(((z4.add (.bk (ss.map encI).flatten)).add (.bk (gg.map encI).flatten)).add (.bk (tt.map encI).flatten)).add (.bk [.sl z4.next 0 ss.length (.fix ss.length),.sl (z4.next+1) 0 gg.length (.fix gg.length),.sl (z4.next+1+1) 0 tt.length (.fix tt.length)])=z5:=⟨_,rfl⟩
 obtain⟨S',hS⟩:∃S',V.sl z4.next 0 ss.length (.fix ss.length)=S':=⟨_,rfl⟩
 obtain⟨G',hG⟩:∃G',V.sl (z4.next+1) 0 gg.length (.fix gg.length)=G':=⟨_,rfl⟩
 obtain⟨T',hT⟩:∃T',V.sl (z4.next+1+1) 0 tt.length (.fix tt.length)=T':=⟨_,rfl⟩
 have sd4:z4.Sub z5:=by rw[←hz5];exact sd3.add _
 have g7:z5.get (z4.next+1+1+1)=some (.bk [S',G',T']):=by rw[←hz5,←hS,←hG,←hT];exact Zc (by simp only[H.next_add])
 have mine:WF z5 S' G' T' ss gg tt:=by
  rw[←hz5,←hS,←hG,←hT]
  exact⟨b1.mono ((H.Sub.refl sd3.wf).add _),b2.mono ((H.Sub.refl sd3.wf).add _),a3.mono ((H.Sub.refl sd3.wf).add _)⟩
 rw[hS,hG,hT] at hz5
 rw[hS,hG,hT,hz5]
 clear hz5 hS hG hT a1 a2 a3 b1 b2 sd1 sd2 sd3
 have s05:=s04.trans sd4
 have g10':=sd4.get g10
 simp(disch:=omega)only[go_sem,Za g10',o2C,o2R,o2G]
 refine Y2 s05.wf (x3.mono (s4.trans sd4)) sm _ fun z6 s6=>?_
 have s36:=s4.trans (sd4.trans s6)
 have s06:=s05.trans s6
 have x1':=x1.mono s36
 have x3':=x3.mono s36
 have xa:=x.mono s06
 have ga6:=(s12.trans (s3.trans s36)).get ga
 have gt6:=(s12.trans (s3.trans s36)).get gt
 have g95:=(sd4.trans s6).get g9
 have g105:=(sd4.trans s6).get g10
 have g75:=s6.get g7
 have mine6:=mine.mono s6
 clear g9 g10 g10' g7 mine x1 x3 ga gt n2 gt4 hz4
 simp(disch:=omega)only[go_sem]
 obtain⟨K,hK⟩:∃K:St→Prop,∀s,K s↔∃tm z,s=⟨tm,z,[]⟩∧TmS h z3.next (z4.next+1+1+1) a ss gg tt tm∧tm.E 9=.ii (ZO a false)∧tm.E 10=.bool (fitsR a ss gg tt)∧z6.Sub z:=⟨_,fun s=>Iff.rfl⟩
 refine PB_cut (p:=Zn a=0) K ?_ ?_ ?_
 ·intro he
  have r:=Zz.1 he
  obtain⟨hb1,hb2⟩:=wide_bds r (hbd r)
  have hb:=hbd r
  have eF:fitsR a ss gg tt=VV a ss gg tt:=by unfold fitsR;simp[he]
  simp(disch:=omega)only[go_sem,Za g105,Za gt6,o2C,o2R,o2G,oS,oGa,oTm]
  refine lawTold_ev s06.wf (t.mono s06) ⟨by omega,by omega,by omega⟩ _ fun S2 G2' T2 z7 s7 t7=>?_
  have oS2:=t7.s.one;have oG2:=t7.g.one;have oT2:=t7.t.one
  simp(disch:=omega)only[go_sem,Za g105,Za gt6,Za (s7.get g105),Za (s7.get gt6),o2C,o2R,o2G,oS,oGa,oTm,oS2,oG2,oT2]
  refine refFits_ev (s06.trans s7).wf (x3'.mono s7) r t7 _ fun z8 s8=>?_
  have s68:=s7.trans s8
  simp(disch:=omega)only[go_sem,Za g105,Za gt6,Za (s7.get g105),Za (s7.get gt6),Za (s68.get g105),Za (s68.get gt6),o2C,o2R,o2G,oS,oGa,oTm]
  refine All_ev (s06.trans s68).wf (x3'.mono s68) r yec yec yec _ fun yl z9 s9 tr=>?_
  have s69:=s68.trans s9
  simp(disch:=omega)only[go_sem,Za (s68.get g105),Za (s69.get g105),o2C,o2R,o2G,tr.one]
  refine Fitting_ev (s06.trans s69).wf (x3'.mono s69) r tr s9.next (by have:=allT_len a;omega) _ fun yf z10 s10 tf=>?_
  have s6a:=s69.trans s10
  have hlF:=tf.lenE
  by_cases hne:ZR a=[]
  ·have hF0:((Yf a).length:Int)=0:=by rw[(fitT_nil r).2 hne];rfl
   have e7:ZO a false=7:=errT_none r hne
   simp(disch:=omega)only[go_sem,Za (s68.get g105),Za (s69.get g105),Za (s6a.get g105),o2C,o2R,o2G,tr.one,hlF,hF0]
   exact⟨rfl,(hK _).2 ⟨_,_,rfl,⟨yeb,yeb,yeb,yeb,yeb,yeb⟩,by rw[e7];exact yeb,by rw[eF];exact yeb,s6a⟩⟩
  ·have hF0:¬((Yf a).length:Int)=0:=fun q=>fit_ne r hne (List.length_eq_zero_iff.1 yec)
   have e7:ZO a false=Zn a:=by rw[errT_r r,he];unfold er7;rw[if_neg (fun q=>hne q.2)];rfl
   simp(disch:=omega)only[go_sem,Za (s68.get g105),Za (s69.get g105),Za (s6a.get g105),o2C,o2R,o2G,tr.one,hlF,hF0]
   exact⟨rfl,(hK _).2 ⟨_,_,rfl,⟨yeb,yeb,yeb,yeb,yeb,yeb⟩,by rw[e7];exact yeb,by rw[eF];exact yeb,s6a⟩⟩
 ·intro he
  have e7:ZO a false=Zn a:=Uo he false
  have eF:fitsR a ss gg tt=false:=by unfold fitsR;simp[he]
  simp(disch:=omega)only[go_sem]
  exact⟨rfl,(hK _).2 ⟨_,_,rfl,⟨yeb,yeb,yeb,yeb,yeb,yeb⟩,by rw[e7];exact yeb,by rw[eF];exact yeb,H.Sub.refl s06.wf⟩⟩
 ·rintro s hs
  obtain⟨tm,z7,rfl,⟨t2,t3,t5,t6,t7,t8⟩,t9,t10,s7⟩:=(hK s).1 hs
  have s07:=s06.trans s7
  have m7:=mine6.mono s7
  have oS':=m7.s.one;have oG':=m7.g.one;have oT':=m7.t.one
  simp(disch:=omega)only[go_sem,t2,t3,t5,t6,t7,t8,t9,t10,Za (s7.get g95),Za (s7.get g75),o1C,o1R,o1G,oS',oG',oT']
  refine Fits_ev s07.wf (x1'.mono s7) m7 _ fun z8 s8=>?_
  have s78:=s7.trans s8
  simp(disch:=omega)only[go_sem,t2,t3,t5,t6,t7,t8,t9,t10,Za (s78.get g95),o1C,o1R,o1G]
  refine Some_ev (s06.trans s78).wf (x1'.mono s78) _ fun S3 G3 T3 z9 s9 tr=>?_
  have s79:=s78.trans s9
  have oS3:=tr.s.one;have oG3:=tr.g.one;have oT3:=tr.t.one
  obtain⟨zA,hzA⟩:∃zA,z9.add (.bk [S3,G3,T3])=zA:=⟨_,rfl⟩
  have sA:z9.Sub zA:=by rw[←hzA];exact(H.Sub.refl s9.wf).add _
  have g13:zA.get z9.next=some (.bk [S3,G3,T3]):=by rw[←hzA];exact Zc rfl
  have s7A:=s79.trans sA
  have s7B:=s8.trans (s9.trans sA)
  have trA:=tr.mono sA
  have k1:=trA.s.lenE;have k2:=trA.g.lenE;have k3:=trA.t.lenE
  obtain⟨fl,hfl⟩:∃fl,fitsR a ss gg tt=fl:=⟨_,rfl⟩
  rw[hfl] at t10
  by_cases hu:ZO a false=0
  ·have hc0:Zn a=0:=by
    by_cases h:Zn a=0
    ·exact h
    ·rw[Uo h] at hu;exact absurd hu h
   have r:=Zz.1 hc0
   have hne:ZR a≠[]:=fun e=>by rw[errT_none r e] at hu;cases hu
   have hfit:=someT_fit r hne
   have hfb:(!fl==fl)=false:=by cases fl<;>rfl
   obtain⟨runs,y,tu,eS⟩:=someT_spec r hne
   have lens:(YY a).1.length≤1000∧(YY a).2.1.length≤1000∧(YY a).2.2.length≤1000:=by
    have:=tu.len
    have:=r.lens
    have:=r.evs
    rw[eS]
    simp only[List.length_map,List.length_range]
    omega
   simp(disch:=omega)only[go_sem,t2,t3,t5,t6,t7,t8,t9,t10,hzA,hfl,hu,hc0,hfb,Za g13,k1,k2,k3,oS3,oG3,oT3,ne_eq,not_true_eq_false,Za ((s7.trans s7B).get g105),o2C,o2R,o2G]
   try rw[hzA]
   refine lawTold_ev (s07.trans s7B).wf trA lens _ fun S4 G4 T4 zB sB tB=>?_
   have oS4:=tB.s.one;have oG4:=tB.g.one;have oT4:=tB.t.one
   have s7C:=s7B.trans sB
   simp(disch:=omega)only[go_sem,t2,t3,t5,t6,t7,t8,t9,t10,Za g13,Za (sB.get g13),Za ((s7.trans s7B).get g105),Za ((s7.trans s7C).get g105),o2C,o2R,o2G,oS3,oG3,oT3,oS4,oG4,oT4]
   refine refFits_ev (s07.trans s7C).wf (x3'.mono (s7.trans s7C)) r tB _ fun zD sD=>?_
   have s7D:=s7C.trans sD
   rw[hfit]
   simp(disch:=omega)only[go_sem,t2,t3,t5,t6,t7,t8,t9,t10,Za g13,Za (sB.get g13),Za ((sB.trans sD).get g13),Za ((s7.trans s7B).get g105),Za ((s7.trans s7C).get g105),Za ((s7.trans s7D).get g105),Za ((s7.trans s7D).get g95),Za ((s7.trans s7D).get ga6),o1C,o1R,o1G,oC,oR,oG,o2C,o2R,o2G,oS3,oG3,oT3,oS4,oG4,oT4]
   refine Vi (s07.trans s7D).wf (x1'.mono (s7.trans s7D)) (xa.mono (s7.trans s7D)) _ fun zX sX=>?_
   have s7X:=s7D.trans sX
   have q1:=fun R=>Y8 (m7.s.mono s7X) (t.s.mono (s07.trans s7X)) R
   have q2:=fun R=>Y8 (m7.g.mono s7X) (t.g.mono (s07.trans s7X)) R
   have q3:=fun R=>Y8 (m7.t.mono s7X) (t.t.mono (s07.trans s7X)) R
   rw[Xu.2 rfl]
   simp(disch:=omega)only[go_sem,t2,t3,t5,t6,t7,Za ((s7.trans s7X).get g75),Za ((s7.trans s7X).get gt6),q1,q2,q3,Z3]
   exact q _ _ ⟨rfl,(s07.trans s7D).trans sX⟩
  ·have hfb:(!fl==fl)=false:=by cases fl<;>rfl
   have k1:q_len S3=some (.ii 0):=by have:=trA.s.lenE;rw[someT_no hu] at this;exact this
   have k2:q_len G3=some (.ii 0):=by have:=trA.g.lenE;rw[someT_no hu] at this;exact this
   have k3:q_len T3=some (.ii 0):=by have:=trA.t.lenE;rw[someT_no hu] at this;exact this
   have w0:wr .i64 0=0:=rfl
   simp(disch:=omega)only[go_sem,t2,t3,t5,t6,t7,t8,t9,t10,hzA,hfl,hu,hfb,Za g13,k1,k2,k3,w0,Int.add_zero,Int.lt_irrefl,oS3,oG3,oT3,ne_eq,not_true_eq_false,not_false_eq_true,Za ((s7.trans s7B).get g95),Za ((s7.trans s7B).get ga6),o1C,o1R,o1G,oC,oR,oG,o2C,o2R,o2G]
   try rw[hzA]
   refine Vi (s07.trans s7B).wf (x1'.mono (s7.trans s7B)) (xa.mono (s7.trans s7B)) _ fun zX sX=>?_
   have s7X:=s7B.trans sX
   have q1:=fun R=>Y8 (m7.s.mono s7X) (t.s.mono (s07.trans s7X)) R
   have q2:=fun R=>Y8 (m7.g.mono s7X) (t.g.mono (s07.trans s7X)) R
   have q3:=fun R=>Y8 (m7.t.mono s7X) (t.t.mono (s07.trans s7X)) R
   rw[Xu.2 rfl]
   simp(disch:=omega)only[go_sem,t2,t3,t5,t6,t7,Za ((s7.trans s7X).get g75),Za ((s7.trans s7X).get gt6),q1,q2,q3,Z3]
   exact q _ _ ⟨rfl,(s07.trans s7B).trans sX⟩
end Go.Ab.Tryz
namespace Go.Ab.Tryz
open Go.Proofs
theorem Uu {a:At}{n:Int}:a.ckB n=true↔0≤n∧n<(a.cks.length:Int):=by unfold At.ckB;rw[Zs];omega
def erW (a:At)(c:Int):Int:=if a.ckB c=true then 0 else 1
def erS (a:At)(c e:Int):Int:=if a.ckB c=true∧a.evB e=true then 0 else 1
theorem erW_ok {a:At}{c:Int}(h:er7 a (erW a c)=0):a.ckB c=true∧ZR a≠[]:=by
 unfold er7 erW at h
 by_cases hb:a.ckB c=true
 ·rw[if_pos hb] at h
  exact⟨hb,fun e=>by rw[if_pos ⟨rfl,e⟩] at h;cases h⟩
 ·rw[if_neg hb,if_neg yew] at h;cases h
theorem erS_ok {a:At}{c e:Int}(h:er7 a (erS a c e)=0):(a.ckB c=true∧a.evB e=true)∧ZR a≠[]:=by
 unfold er7 erS at h
 by_cases hb:a.ckB c=true∧a.evB e=true
 ·rw[if_pos hb] at h
  exact⟨hb,fun e=>by rw[if_pos ⟨rfl,e⟩] at h;cases h⟩
 ·rw[if_neg hb,if_neg yew] at h;cases h
theorem errT_ck {a:At}(r:Zl a)(c:Int):ZO a (!a.ckB c)=er7 a (erW a c):=by
 rw[errT_r r];unfold erW
 cases a.ckB c<;>simp
theorem errT_cs {a:At}(r:Zl a)(c e:Int):ZO a (!a.ckB c|| !a.evB e)=er7 a (erS a c e):=by
 rw[errT_r r];unfold erS
 cases a.ckB c<;>cases a.evB e<;>simp
def setsF (a:At)(c:Int):List Int:=if er7 a (erW a c)=0 then setsT (Yf a) (fun t=>t.1.getD c.toNat 0) else[]
def setsG (a:At)(c:Int):List Int:=if er7 a (erW a c)=0 then setsT (Yf a) (fun t=>t.2.1.getD c.toNat 0) else[]
theorem setsR_r {a:At}(r:Zl a)(c:Int):WU a c Prod.fst=setsF a c∧WU a c Prod.snd=setsG a c:=by
 unfold WU setsF setsG
 rw[errT_ck r]
 by_cases h:er7 a (erW a c)=0
 ·rw[if_neg (by rw[h];simp),if_pos h,if_neg (by rw[h];simp),if_pos h]
  have hb:=Uu.1 (erW_ok h).1
  obtain⟨q1,q2⟩:=sets_eq r (k:=c.toNat) yec
  exact⟨q1.symm,q2.symm⟩
 ·rw[if_pos h,if_neg h,if_pos h,if_neg h];exact⟨rfl,rfl⟩
theorem shoR_r {a:At}(r:Zl a)(c e:Int):Vv a c e=(if er7 a (erS a c e)=0 then ZX ((Yf a).map fun t=>shw (t.1.getD c.toNat 0) (t.2.1.getD c.toNat 0) (Zr t.2.2 e.toNat)) else(0,0),er7 a (erS a c e)):=by
 unfold Vv
 rw[errT_cs r]
 by_cases h:er7 a (erS a c e)=0
 ·rw[if_neg (by rw[h];simp),if_pos h,h]
  obtain⟨⟨h1,h2⟩,hne⟩:=erS_ok h
  have q1:=Uu.1 h1
  have q2:=ZQ.1 h2
  rw[wide_sho r hne (k:=c.toNat) (e:=e.toNat) yec yec]
 ·rw[if_pos h,if_neg h]
structure TmR (h:H)(b7 n0:Nat)(c e:Int)(tm:Go.Ab.T V):Prop where
 t1:tm.E 1=.ii c
 t2:tm.E 2=.ii e
 t3:tm.E 3=.ptr h.next 0
 t7:tm.E 7=.ptr b7 0
 t9:tm.E 9=.ptr n0 0
 t10:tm.E 10=.ptr (n0+1) 0
 t13:tm.E 13=.ptr (n0+2) 0
set_option maxHeartbeats 16000000 in
theorem ClockRuns_sub {h:H}(hw:h.wf){a:At}{C R G:V}(x:ZP h C R G a)(c e:Int):Ev fnG Zi (.fn 13 [] []) [.agg (atV a C R G),.ii c,.ii e] h fun v h'=>v=.bool true∧h.Sub h':=by
 refine Ev.gen fun Q q=>?_
 have oC:=x.c.one;have oR:=x.r.one;have oG:=x.g.one
 have hlC:=x.c.lenE
 refine Ze (fd:=c13) rfl rfl rfl ?_
 obtain⟨z,hz⟩:∃z,h.add (.bk (atV a C R G))=z:=⟨_,rfl⟩
 have sz:h.Sub z:=by rw[←hz];exact yea
 have nz:z.next=h.next+1:=by rw[←hz];simp only[H.next_add]
 have ga:z.get h.next=some (.bk (atV a C R G)):=by rw[←hz];exact Zc rfl
 simp -implicitDefEqProofs(disch:=first|omega|simp only[nZ]<;>omega|fail)only[c13,go_sem,oC,oR,oG,hz,Za ga]
 try rw[hz]
 clear hz
 refine wide_ev sz.wf (x.mono sz) _ fun wd z1 s1 hwd=>?_
 cases wd with
 |true=>
  simp -implicitDefEqProofs(disch:=first|omega|simp only[nZ]<;>omega|fail)only[go_sem,Z3]
  exact q _ _ ⟨rfl,sz.trans s1⟩
 |false=>
 obtain⟨hg,hbd⟩:=hwd rfl
 clear hwd
 have hl:a.cks.length≤8∧a.rds.length≤12∧a.gps.length≤9:=by
  simp only[XK,decide_eq_false_iff_not] at hg
  omega
 have sm:YJ a:=⟨by omega,by omega,by omega⟩
 have s01:=sz.trans s1
 simp -implicitDefEqProofs(disch:=first|omega|simp only[nZ]<;>omega|fail)only[go_sem,Za (s1.get ga),oC,oR,oG]
 refine own_ev s01.wf (x.mono s01) sm _ fun C1 R1 G1 z2 n2=>?_
 have s2:=n2.s
 have s02:=s01.trans s2
 have s12:=s1.trans s2
 simp -implicitDefEqProofs(disch:=first|omega|simp only[nZ]<;>omega|fail)only[go_sem,Za (s1.get ga),Za (s12.get ga),oC,oR,oG]
 refine XY s02.wf (x.mono s02) sm _ fun C2 R2 G2 z3 s3 x3=>?_
 have s03:=s02.trans s3
 have x1:=(n2.at_ sm).mono s3
 have o1C:=x1.c.one;have o1R:=x1.r.one;have o1G:=x1.g.one
 have o2C:=x3.c.one;have o2R:=x3.r.one;have o2G:=x3.g.one
 simp -implicitDefEqProofs(disch:=first|omega|simp only[nZ]<;>omega|fail)only[go_sem,Za (s1.get ga),Za (s12.get ga),Za ((s12.trans s3).get ga),o1C,o1R,o1G,o2C,o2R,o2G,oC,oR,oG]
 obtain⟨z4,hz4⟩:∃z4,((((z3.add (.bk [.ii 0,.ii 0,.nils,.nils,.nils])).add (.bk [.ii 0,.ii 0,.nils,.nils,.nils])).set z3.next (.bk (atV a C1 R1 G1))).set (z3.next+1) (.bk (atV a C2 R2 G2)))=z4:=⟨_,rfl⟩
 have s4:z3.Sub z4:=by have:=s03.wf;rw[←hz4];exact yea
 have g9:z4.get z3.next=some (.bk (atV a C1 R1 G1)):=by rw[←hz4];simp -implicitDefEqProofs(disch:=first|omega|simp only[nZ]<;>omega|fail)only[go_sem]
 have g10:z4.get (z3.next+1)=some (.bk (atV a C2 R2 G2)):=by rw[←hz4];simp -implicitDefEqProofs(disch:=first|omega|simp only[nZ]<;>omega|fail)only[go_sem]
 rw[hz4]
 clear hz4
 refine Y2 s4.wf (x3.mono s4) sm _ fun z5 s5=>?_
 have s45:=s4.trans s5
 have s05:=s03.trans s45
 have x1':=x1.mono s45
 have x3':=x3.mono s45
 have xa:=x.mono s05
 have ga5:=(s12.trans (s3.trans s45)).get ga
 have g95:=s5.get g9
 have g105:=s5.get g10
 have hw5:=s05.wf
 have l9:=hw5 _ _ g95
 have l10:=hw5 _ _ g105
 clear g9 g10 x1 x3 ga n2
 simp -implicitDefEqProofs(disch:=first|omega|simp only[nZ]<;>omega|fail)only[go_sem]
 obtain⟨J,hJ⟩:∃J:St→Prop,∀s,J s↔∃tm z,s=⟨tm,z,[]⟩∧TmR h z3.next z5.next c e tm∧tm.E 8=.ptr (z3.next+1) 0∧tm.E 11=.nils∧tm.E 12=.nils∧Cs z5.next z5 z [i1 (Zn a),i1 (Zn a),i2 (0,0)]:=⟨_,fun s=>Iff.rfl⟩
 obtain⟨K,hK⟩:∃K:St→Prop,∀s,K s↔∃tm z y1 y2,s=⟨tm,z,[]⟩∧TmR h z3.next z5.next c e tm∧tm.E 11=y1∧tm.E 12=y2∧Zg z y1 1 ((WU a c Prod.fst).map encI)∧Zg z y2 1 ((WU a c Prod.snd).map encI)∧Cs z5.next z5 z [i1 (ZO a (!a.ckB c)),i1 (Vv a c e).2,i2 (Vv a c e).1]:=⟨_,fun s=>Iff.rfl⟩
 refine PBd_st J ((hJ _).2 ⟨_,_,rfl,⟨yeb,yeb,yeb,yeb,yeb,(by simp[Zm,Zd,H.next_add,H.next_set]<;>rfl),(by simp[Zm,Zd,H.next_add,H.next_set]<;>rfl)⟩,yeb,yeb,yeb,?_⟩) fun s hs=>?_
 ·refine⟨yea,Nat.le_refl _,by simp only[H.next_set,H.next_add,List.length_cons,List.length_nil];omega,fun i c hi=>?_⟩
  have hlt:=Vf hi
  simp only[List.length_cons,List.length_nil] at hlt
  rcases(by omega:i=0∨i=1∨i=2) with rfl|rfl|rfl<;>(cases hi;simp -implicitDefEqProofs(disch:=first|omega|simp only[nZ]<;>omega|fail)only[go_sem,i1,i2,Nat.add_zero])
 obtain⟨tm,z6,rfl,k,t8,t11,t12,cs⟩:=(hJ s).1 hs
 have tr_n:z5.next+3≤z6.next:=cs.2.2.1
 refine PB_cut (p:=Zn a=0) K ?_ ?_ ?_
 ·intro he
  have r:=Zz.1 he
  rw[he] at cs
  obtain⟨hb1,hb2⟩:=wide_bds r (hbd r)
  have hb:=hbd r
  obtain⟨t1,t2,t3,t7,t9,t10,t13⟩:=k
  have g10:=cs.1.get g105
  have s06:=s05.trans cs.1
  obtain⟨A,hA⟩:∃A:V→V→V→Int→Int→Int × Int→List Int × List Int→St→Prop,∀yf y1 y2 U V' p LL' s,A yf y1 y2 U V' p LL' s↔∃tm z,s=⟨tm,z,[]⟩∧TmR h z3.next z5.next c e tm∧tm.E 14=yf∧tm.E 11=y1∧tm.E 12=y2∧Cs z5.next z5 z [i1 U,i1 V',i2 p]∧TR (z5.next+3) z yf (Yf a)∧Zg z y1 1 (LL'.1.map encI)∧Zg z y2 1 (LL'.2.map encI)∧Up (z5.next+3) y1∧Up (z5.next+3) y2:=⟨_,fun _ _ _ _ _ _ _ _=>Iff.rfl⟩
  refine ZD (fun s=>∃yf,A yf .nils .nils 0 0 (0,0) ([],[]) s) ?_ ?_
  ·simp -implicitDefEqProofs(disch:=first|omega|simp only[nZ]<;>omega|fail)only[go_sem,t8,Za g10,o2C,o2R,o2G]
   refine All_ev s06.wf (x3'.mono cs.1) r yec yec yec _ fun yl z7 s7 tr=>?_
   simp -implicitDefEqProofs(disch:=first|omega|simp only[nZ]<;>omega|fail)only[go_sem,t8,Za g10,Za (s7.get g10),o2C,o2R,o2G,tr.one]
   refine Fitting_ev (s06.trans s7).wf (x3'.mono (cs.1.trans s7)) r tr s7.next (by have:=allT_len a;omega) _ fun yf z8 s8 tf=>?_
   simp -implicitDefEqProofs(disch:=first|omega|simp only[nZ]<;>omega|fail)only[go_sem,t8,Za g10,Za (s7.get g10),Za ((s7.trans s8).get g10),o2C,o2R,o2G,tr.one]
   exact⟨yf,(hA _ _ _ _ _ _ _ _).2 ⟨_,_,rfl,⟨yem,yee,yed,yeg,yen,yei,yej⟩,yeb,yeo,yek,cs.mono (s7.trans s8),tf.low tr_n,Wp _,Wp _,Up.nils _,Up.nils _⟩⟩
  clear t1 t2 t3 t7 t9 t10 t13 t8 t11 t12 cs
  rintro s ⟨yf,hs⟩
  have hin:=fun u (hu:u∈Yf a)=>fitT_in r hu
  have lenF:(Yf a).length≤100000:=by have:=fitT_len a;omega
  refine ZD (A yf .nils .nils (erW a c) 0 (0,0) ([],[])) ?_ fun s hs=>?_
  ·obtain⟨tm,z,rfl,⟨t1,t2,t3,t7,t9,t10,t13⟩,t14,t11,t12,cs,tf,l11,l12,p11,p12⟩:=(hA _ _ _ _ _ _ _ _).1 hs
   have d0:z.get z5.next=_:=cs.2.2.2 0 _ rfl
   simp only[i1] at d0
   have gz:=cs.1.get ga5
   have csA:=cs.set hw5 (b:=z5.next) (i:=0) rfl yew [.ii 1]
   have gA:=csA.1.get ga5
   have dA:(z.set z5.next (.bk [.ii 1])).get z5.next=_:=csA.2.2.2 0 _ rfl
   by_cases h0:0≤c
   ·by_cases h1:c<(a.cks.length:Int)
    ·have e1:erW a c=0:=if_pos (Uu.2 ⟨h0,h1⟩)
     simp -implicitDefEqProofs(disch:=first|omega|simp only[nZ]<;>omega|fail)only[go_sem,t1,t3,t9,d0,dA,h0,h1,hlC,Za gz,Za gA]
     rw[e1]
     exact(hA _ _ _ _ _ _ _ _).2 ⟨_,_,rfl,⟨yem,yee,yed,yeg,yen,yei,yej⟩,yef,yeo,yek,cs.set hw5 (b:=z5.next) (i:=0) rfl yew [.ii 0],tf.keep (Zh.set ..) fun b e=>by omega,Yb l11 p11 (Zh.set ..) fun b e=>by omega,Yb l12 p12 (Zh.set ..) fun b e=>by omega,p11,p12⟩
    ·have e1:erW a c=1:=if_neg (fun q=>h1 (Uu.1 q).2)
     simp -implicitDefEqProofs(disch:=first|omega|simp only[nZ]<;>omega|fail)only[go_sem,t1,t3,t9,d0,dA,h0,h1,hlC,Za gz,Za gA]
     rw[e1]
     exact(hA _ _ _ _ _ _ _ _).2 ⟨_,_,rfl,⟨yem,yee,yed,yeg,yen,yei,yej⟩,yef,yeo,yek,csA,tf.keep (Zh.set ..) fun b e=>by omega,Yb l11 p11 (Zh.set ..) fun b e=>by omega,Yb l12 p12 (Zh.set ..) fun b e=>by omega,p11,p12⟩
   ·have e1:erW a c=1:=if_neg (fun q=>h0 (Uu.1 q).1)
    simp -implicitDefEqProofs(disch:=first|omega|simp only[nZ]<;>omega|fail)only[go_sem,t1,t3,t9,d0,dA,h0,Za gz,Za gA]
    rw[e1]
    exact(hA _ _ _ _ _ _ _ _).2 ⟨_,_,rfl,⟨yem,yee,yed,yeg,yen,yei,yej⟩,yef,yeo,yek,csA,tf.keep (Zh.set ..) fun b e=>by omega,Yb l11 p11 (Zh.set ..) fun b e=>by omega,Yb l12 p12 (Zh.set ..) fun b e=>by omega,p11,p12⟩
  refine ZD (A yf .nils .nils (erW a c) (erS a c e) (0,0) ([],[])) ?_ fun s hs=>?_
  ·obtain⟨tm,z,rfl,⟨t1,t2,t3,t7,t9,t10,t13⟩,t14,t11,t12,cs,tf,l11,l12,p11,p12⟩:=(hA _ _ _ _ _ _ _ _).1 hs
   have d0:z.get z5.next=_:=cs.2.2.2 0 _ rfl
   have d1:z.get (z5.next+1)=_:=cs.2.2.2 1 _ rfl
   simp only[i1] at d0 d1
   have csA:=cs.set hw5 (b:=z5.next+1) (i:=1) rfl yew [.ii (erW a c)]
   have gA:=csA.1.get ga5
   have dA:(z.set (z5.next+1) (.bk [.ii (erW a c)])).get (z5.next+1)=_:=csA.2.2.2 1 _ rfl
   by_cases h0:e<0
   ·have e1:erS a c e=1:=if_neg (fun q=>by have:=(ZQ.1 q.2).1;omega)
    simp -implicitDefEqProofs(disch:=first|omega|simp only[nZ]<;>omega|fail)only[go_sem,t2,t3,t9,t10,d0,d1,dA,Za d0,h0,Za gA]
    rw[e1]
    exact(hA _ _ _ _ _ _ _ _).2 ⟨_,_,rfl,⟨yem,yee,yed,yeg,yen,yei,yej⟩,yef,yeo,yek,cs.set hw5 (b:=z5.next+1) (i:=1) rfl yew [.ii 1],tf.keep (Zh.set ..) fun b e=>by omega,Yb l11 p11 (Zh.set ..) fun b e=>by omega,Yb l12 p12 (Zh.set ..) fun b e=>by omega,p11,p12⟩
   ·by_cases h1:a.evs≤e
    ·have e1:erS a c e=1:=if_neg (fun q=>by have:=(ZQ.1 q.2).2;omega)
     simp -implicitDefEqProofs(disch:=first|omega|simp only[nZ]<;>omega|fail)only[go_sem,t2,t3,t9,t10,d0,d1,dA,Za d0,h0,h1,Za gA]
     rw[e1]
     exact(hA _ _ _ _ _ _ _ _).2 ⟨_,_,rfl,⟨yem,yee,yed,yeg,yen,yei,yej⟩,yef,yeo,yek,cs.set hw5 (b:=z5.next+1) (i:=1) rfl yew [.ii 1],tf.keep (Zh.set ..) fun b e=>by omega,Yb l11 p11 (Zh.set ..) fun b e=>by omega,Yb l12 p12 (Zh.set ..) fun b e=>by omega,p11,p12⟩
    ·have e1:erS a c e=erW a c:=by
      have:=ZQ (a:=a) (n:=e)
      unfold erS erW
      by_cases hf:a.ckB c=true
      ·rw[if_pos hf,if_pos ⟨hf,ZQ.2 yec⟩]
      ·rw[if_neg hf,if_neg fun q=>hf q.1]
     simp -implicitDefEqProofs(disch:=first|omega|simp only[nZ]<;>omega|fail)only[go_sem,t2,t3,t9,t10,d0,d1,dA,Za d0,h0,h1,Za gA]
     rw[e1]
     exact(hA _ _ _ _ _ _ _ _).2 ⟨_,_,rfl,⟨yem,yee,yed,yeg,yen,yei,yej⟩,yef,yeo,yek,csA,tf.keep (Zh.set ..) fun b e=>by omega,Yb l11 p11 (Zh.set ..) fun b e=>by omega,Yb l12 p12 (Zh.set ..) fun b e=>by omega,p11,p12⟩
  refine ZD (A yf .nils .nils (er7 a (erW a c)) (er7 a (erS a c e)) (0,0) ([],[])) ?_ fun s hs=>?_
  ·obtain⟨tm,z,rfl,⟨t1,t2,t3,t7,t9,t10,t13⟩,t14,t11,t12,cs,tf,l11,l12,p11,p12⟩:=(hA _ _ _ _ _ _ _ _).1 hs
   have hlF:=tf.lenE
   obtain⟨P,hP⟩:∃P:Nat→Int,(∀j,P j=if j=0 then erW a c else erS a c e):=⟨_,fun _=>rfl⟩
   obtain⟨G',hG⟩:∃G:Nat→Nat→Int,∀i j,G i j=if j<i then er7 a (P j) else P j:=⟨_,fun _ _=>rfl⟩
   have cs0:Cs z5.next z5 z [i1 (G' 0 0),i1 (G' 0 1),i2 (0,0)]:=by simp only[hG,hP];exact cs
   obtain⟨zp,hzp⟩:∃zp,z.add (.bk [.ptr z5.next 0,.ptr (z5.next+1) 0])=zp:=⟨_,rfl⟩
   have sp:z.Sub zp:=by rw[←hzp];exact(H.Sub.refl cs.1.wf).add _
   have gp:zp.get z.next=some (.bk [.ptr z5.next 0,.ptr (z5.next+1) 0]):=by rw[←hzp];exact Zc rfl
   have lz:=cs.2.2.1
   simp only[List.length_cons,List.length_nil] at lz
   simp -implicitDefEqProofs(disch:=first|omega|simp only[nZ]<;>omega|fail)only[go_sem,t9,t10,t13,t14]
   try rw[hzp]
   clear hzp
   refine Zk 2 (fun i s=>∃tm z',s=⟨tm,z',[]⟩∧TmR h z3.next z5.next c e tm∧tm.E 14=yf∧tm.E 11=.nils∧tm.E 12=.nils∧Cs z5.next z5 z' [i1 (G' i 0),i1 (G' i 1),i2 (0,0)]∧TR (z5.next+3) z' yf (Yf a)∧z'.get z.next=some (.bk [.ptr z5.next 0,.ptr (z5.next+1) 0])∧
     tm.E 57=.sl z.next 0 2 (.fix 2)∧tm.E 58=.ii 2∧tm.E 59=.ii (i:Int)) ?_ ?_ (i:=0) (Nat.zero_le _)
    ⟨_,_,rfl,⟨yem,yee,yed,yeg,yen,yei,yej⟩,yef,yeo,yek,cs0.mono sp,tf.mono sp,gp,yeb,yeb,yeb⟩
   ·clear t1 t2 t3 t7 t9 t10 t13 t14 t11 t12 cs cs0 tf gp sp
    rintro i s hi ⟨tm,z',rfl,⟨t1,t2,t3,t7,t9,t10,t13⟩,t14,t11,t12,cs,tf,gp,t57,t58,t59⟩
    have hi':(i:Int)<2:=by omega
    have w81:wr .i64 ((i:Int)+1)=((i+1:Nat):Int):=by rw[Zo yec yec];omega
    have gi:z'.get (z5.next+i)=some (.bk [.ii (P i)]):=by
     have:([i1 (G' i 0),i1 (G' i 1),i2 (0,0)]:List (List V))[i]? =some [.ii (P i)]:=by
      rcases(by omega:i=0∨i=1) with rfl|rfl<;>simp[hG,i1]
     exact cs.2.2.2 i _ this
    have hx:Zg z' (.sl z.next 0 2 (.fix 2)) 1 (([z5.next,z5.next+1]:List Nat).map fun b=>[V.ptr b 0]):=⟨by simp,by simp,.inr ⟨_,_,_,_,rfl,.inr (Za gp),ZU.2 ⟨by simp,by simp⟩⟩⟩
    obtain⟨bb,oo,kk,csx,_,hc,hq,_,_,hn⟩:=hx.at (k:=i) (by simpa using hi)
    have hn:=hn yeh
    have hnp:nth (oo+i*1) csx=some (.ptr (z5.next+i) 0):=by
     rw[hn]
     rcases(by omega:i=0∨i=1) with rfl|rfl<;>rfl
    have same:er7 a (P i)=P i→Cs z5.next z5 z' [i1 (G' (i+1) 0),i1 (G' (i+1) 1),i2 (0,0)]:=fun h0=>by
     have:=cs
     rcases(by omega:i=0∨i=1) with rfl|rfl<;>(simp only[hG] at this⊢;simp only[h0] at this⊢;exact this)
    by_cases h0:P i=0
    ·by_cases hne:ZR a=[]
     ·have hF0:((Yf a).length:Int)=0:=by rw[(fitT_nil r).2 hne];rfl
      have e7:er7 a (P i)=7:=by unfold er7;rw[if_pos ⟨h0,hne⟩]
      have csN:Cs z5.next z5 (z'.set (z5.next+i) (.bk [.ii 7])) [i1 (G' (i+1) 0),i1 (G' (i+1) 1),i2 (0,0)]:=by
       have:=cs.set hw5 (b:=z5.next+i) (i:=i) rfl (by simp;omega) [.ii 7]
       rcases(by omega:i=0∨i=1) with rfl|rfl<;>(simp only[hG,e7] at this⊢;exact this)
      simp -implicitDefEqProofs(disch:=first|omega|simp only[nZ]<;>omega|fail)only[go_sem,t57,t58,t59,t14,hi',hq (Zb i),hc,hnp,Za gi,gi,h0,hlF,hF0,w81]
      exact⟨_,_,rfl,⟨yem,yee,yed,yeg,yen,yei,yej⟩,yef,yeo,yek,csN,tf.keep (Zh.set ..) fun b e=>by omega,by rw[get_set_other yec];exact gp,yer,yes,yeb⟩
     ·have e7:er7 a (P i)=P i:=by unfold er7;rw[if_neg (fun q=>hne q.2)]
      have hF0:¬((Yf a).length:Int)=0:=fun q=>fit_ne r hne (List.length_eq_zero_iff.1 yec)
      simp -implicitDefEqProofs(disch:=first|omega|simp only[nZ]<;>omega|fail)only[go_sem,t57,t58,t59,t14,hi',hq (Zb i),hc,hnp,Za gi,h0,hlF,hF0,w81]
      exact⟨_,_,rfl,⟨yem,yee,yed,yeg,yen,yei,yej⟩,yef,yeo,yek,same e7,tf,gp,yer,yes,yeb⟩
    ·have e7:er7 a (P i)=P i:=by unfold er7;rw[if_neg (fun q=>h0 q.1)]
     simp -implicitDefEqProofs(disch:=first|omega|simp only[nZ]<;>omega|fail)only[go_sem,t57,t58,t59,t14,hi',hq (Zb i),hc,hnp,Za gi,h0,w81]
     exact⟨_,_,rfl,⟨yem,yee,yed,yeg,yen,yei,yej⟩,yef,yeo,yek,same e7,tf,gp,yer,yes,yeb⟩
   ·clear t1 t2 t3 t7 t9 t10 t13 t14 t11 t12 cs cs0 tf gp sp
    rintro s ⟨tm,z',rfl,⟨t1,t2,t3,t7,t9,t10,t13⟩,t14,t11,t12,cs,tf,gp,t57,t58,t59⟩
    have hi':¬((2:Nat):Int)<2:=by omega
    simp -implicitDefEqProofs(disch:=first|omega|simp only[nZ]<;>omega|fail)only[go_sem,t57,t58,t59,hi']
    exact(hA _ _ _ _ _ _ _ _).2 ⟨_,_,rfl,⟨yem,yee,yed,yeg,yen,yei,yej⟩,yef,yeo,yek,by simp only[hG,hP] at cs;exact cs,tf,Wp _,Wp _,Up.nils _,Up.nils _⟩
  refine ZD (fun s=>∃y1 y2,A yf y1 y2 (er7 a (erW a c)) (er7 a (erS a c e)) (0,0) (setsF a c,setsG a c) s) ?_ ?_
  ·obtain⟨tm,z,rfl,⟨t1,t2,t3,t7,t9,t10,t13⟩,t14,t11,t12,cs,tf,l11,l12,p11,p12⟩:=(hA _ _ _ _ _ _ _ _).1 hs
   have d0:z.get z5.next=_:=cs.2.2.2 0 _ rfl
   simp only[i1] at d0
   have lz:=cs.2.2.1
   simp only[List.length_cons,List.length_nil] at lz
   unfold setsF setsG
   by_cases h0:er7 a (erW a c)=0
   ·rw[if_pos h0,if_pos h0]
    have hb:=Uu.1 (erW_ok h0).1
    obtain⟨k,hk⟩:∃k:Nat,c=k:=⟨c.toNat,by omega⟩
    have hkt:c.toNat=k:=by omega
    rw[hkt]
    have t1':=t1
    rw[hk] at t1'
    simp -implicitDefEqProofs(disch:=first|omega|simp only[nZ]<;>omega|fail)only[go_sem,t1',t9,t14,Za d0,h0]
    have z6z:z5.next+3≤z.next:=lz
    refine refRuns_ev cs.1.wf tf hin lenF (k:=k) yec _ fun y1 y2 z8 s8 q1 q2 u1 u2=>?_
    have cs8:=cs.mono s8
    rw[h0] at cs8
    simp -implicitDefEqProofs(disch:=first|omega|simp only[nZ]<;>omega|fail)only[go_sem,t1',t9,t14]
    exact⟨y1,y2,(hA _ _ _ _ _ _ _ _).2 ⟨_,_,rfl,⟨yem,yee,yed,yeg,yen,yei,yej⟩,yef,yeb,yeb,cs8,tf.mono s8,q1,q2,u1.low z6z,u2.low z6z⟩⟩
   ·rw[if_neg h0,if_neg h0]
    simp -implicitDefEqProofs(disch:=first|omega|simp only[nZ]<;>omega|fail)only[go_sem,t1,t9,t14,Za d0,h0]
    exact⟨_,_,(hA _ _ _ _ _ _ _ _).2 ⟨_,_,rfl,⟨yem,yee,yed,yeg,yen,yei,yej⟩,yef,yeo,yek,cs,tf,l11,l12,p11,p12⟩⟩
  rintro s ⟨y1,y2,hs⟩
  obtain⟨tm,z,rfl,⟨t1,t2,t3,t7,t9,t10,t13⟩,t14,t11,t12,cs,tf,l11,l12,p11,p12⟩:=(hA _ _ _ _ _ _ _ _).1 hs
  have d0:z.get (z5.next+1)=_:=cs.2.2.2 1 _ rfl
  have d3:z.get (z5.next+2)=_:=cs.2.2.2 2 _ rfl
  simp only[i1,i2] at d0 d3
  obtain⟨q1,q2⟩:=setsR_r r c
  have e2:(Vv a c e).2=er7 a (erS a c e):=by rw[shoR_r r]
  by_cases h0:er7 a (erS a c e)=0
  ·have ew:(Vv a c e).1=ZX ((Yf a).map fun t=>shw (t.1.getD c.toNat 0) (t.2.1.getD c.toNat 0) (Zr t.2.2 e.toNat)):=by rw[shoR_r r,if_pos h0]
   obtain⟨⟨hb,hc⟩,_⟩:=erS_ok h0
   have hf:=Uu.1 hb
   have ht:=ZQ.1 hc
   obtain⟨k,hk⟩:∃k:Nat,c=k:=⟨c.toNat,by omega⟩
   obtain⟨j,hj⟩:∃j:Nat,e=j:=⟨e.toNat,by omega⟩
   have hkt:c.toNat=k:=by omega
   have hjt:e.toNat=j:=by omega
   have t1':=t1
   have t2':=t2
   rw[hk] at t1'
   rw[hj] at t2'
   simp -implicitDefEqProofs(disch:=first|omega|simp only[nZ]<;>omega|fail)only[go_sem,t1',t2',t10,t13,t14,Za d0,h0]
   refine refShows_ev cs.1.wf tf hin lenF (f:=j) (k:=k) yec yec _ fun z8 s8=>?_
   have cs8:=cs.mono s8
   simp -implicitDefEqProofs(disch:=first|omega|simp only[nZ]<;>omega|fail)only[go_sem,t1',t2',t10,t13,t14,s8.get d3]
   refine⟨rfl,(hK _).2 ⟨_,_,y1,y2,rfl,⟨yem,yee,yed,yeg,yen,yei,yej⟩,yeo,yek,?_,?_,?_⟩⟩
   ·rw[q1];exact Yb (l11.mono s8) p11 (Zh.set ..) fun b e=>by omega
   ·rw[q2];exact Yb (l12.mono s8) p12 (Zh.set ..) fun b e=>by omega
   ·rw[e2,errT_ck r,ew,hkt,hjt]
    exact cs8.set hw5 (b:=z5.next+2) (i:=2) rfl yew (i2 _)
  ·have ew:(Vv a c e).1=(0,0):=by rw[shoR_r r,if_neg h0]
   simp -implicitDefEqProofs(disch:=first|omega|simp only[nZ]<;>omega|fail)only[go_sem,t1,t2,t10,t13,t14,Za d0,h0]
   exact⟨rfl,(hK _).2 ⟨_,_,y1,y2,rfl,⟨yem,yee,yed,yeg,yen,yei,yej⟩,yeo,yek,by rw[q1];exact l11,by rw[q2];exact l12,by rw[e2,errT_ck r,ew];exact cs⟩⟩
 ·intro he
  have n1:∀of,WU a c of=[]:=fun of=>by unfold WU;rw[Uo he,if_pos he]
  have n2:Vv a c e=((0,0),Zn a):=by unfold Vv;rw[Uo he,if_pos he]
  simp -implicitDefEqProofs(disch:=first|omega|simp only[nZ]<;>omega|fail)only[go_sem]
  refine⟨rfl,(hK _).2 ⟨_,_,_,_,rfl,k,t11,t12,by rw[n1];exact Wp _,by rw[n1];exact Wp _,by rw[n2,Uo he];exact cs⟩⟩
 ·rintro s hs
  obtain⟨tm,z7,y1,y2,rfl,⟨t1,t2,t3,t7,t9,t10,t13⟩,t11,t12,l11,l12,cs⟩:=(hK s).1 hs
  have d0:z7.get z5.next=_:=cs.2.2.2 0 _ rfl
  have d1:=cs.2.2.2 1 _ rfl
  have d2:=cs.2.2.2 2 _ rfl
  simp only[i1,i2] at d0 d1 d2
  have g9:=cs.1.get g95
  have ga7:=cs.1.get ga5
  have s07:=s05.trans cs.1
  have x7:=x1'.mono cs.1
  simp -implicitDefEqProofs(disch:=first|omega|simp only[nZ]<;>omega|fail)only[go_sem,t1,t2,t3,t7,Za g9,o1C,o1R,o1G]
  refine Sets_ev s07.wf x7 c _ fun w1 z8 s8 k1=>?_
  simp -implicitDefEqProofs(disch:=first|omega|simp only[nZ]<;>omega|fail)only[go_sem,t1,t2,t3,t7,Za (s8.get g9),o1C,o1R,o1G]
  refine Gains_ev (s07.trans s8).wf (x7.mono s8) c _ fun w2 z9 s9 k2=>?_
  have s79:=s8.trans s9
  simp -implicitDefEqProofs(disch:=first|omega|simp only[nZ]<;>omega|fail)only[go_sem,t1,t2,t3,t7,Za (s79.get g9),o1C,o1R,o1G]
  refine Shows_ev (s07.trans s79).wf (x7.mono s79) c e _ fun z10 s10=>?_
  have s7a:=s79.trans s10
  obtain⟨z11,hz11⟩:∃z11,z10.add (.bk [.ii (Vv a c e).1.1,.ii (Vv a c e).1.2])=z11:=⟨_,rfl⟩
  have s11:z10.Sub z11:=by rw[←hz11];exact(H.Sub.refl s10.wf).add _
  have g21:z11.get z10.next=some (.bk [.ii (Vv a c e).1.1,.ii (Vv a c e).1.2]):=by rw[←hz11];exact Zc rfl
  have s7b:=s7a.trans s11
  have q1:=fun R=>Y8 (k1.mono (s9.trans (s10.trans s11))) (l11.mono s7b) R
  have q2:=fun R=>Y8 (k2.mono (s10.trans s11)) (l12.mono s7b) R
  simp -implicitDefEqProofs(disch:=first|omega|simp only[nZ]<;>omega|fail)only[go_sem,t1,t2,t3,t7,t9,t10,t11,t12,t13,hz11,feq_same,Za (s7b.get g9),Za (s7b.get ga7),Za (s7b.get d0),Za (s7b.get d1),Za (s7b.get d2),Za g21,q1,q2,o1C,o1R,o1G,oC,oR,oG]
  try rw[hz11]
  refine Vi (s07.trans s7b).wf (x7.mono s7b) (xa.mono (cs.1.trans s7b)) _ fun zX sX=>?_
  rw[Xu.2 rfl]
  simp -implicitDefEqProofs(disch:=first|omega|simp only[nZ]<;>omega|fail)only[go_sem,Z3]
  exact q _ _ ⟨rfl,(s07.trans s7b).trans sX⟩
end Go.Ab.Tryz
namespace Go.Ab.Tryz
open Go.Proofs
def AC (z6 z:H)(b:Nat)(a:At):Prop:=∃C R G,z.get b=some (.bk (atV a C R G))∧YM z6 z C R G a∧∀b',V5 C R G b'→z6.next+2≤b'
theorem AC.mono {z6 z z':H}{b:Nat}{a:At}(k:AC z6 z b a)(s:z.Sub z'):AC z6 z' b a:=by
 obtain⟨C,R,G,h1,h2,h3⟩:=k
 exact⟨C,R,G,s.get h1,h2.mono s,h3⟩
theorem AC.keep {z6 z z':H}{b:Nat}{a:At}(k:AC z6 z b a){S:Nat→Prop}(kk:Zh S z z')(s:z6.Sub z')(hS:∀b',S b'→b'≠b∧(∀C R G,z.get b=some (.bk (atV a C R G))→¬V5 C R G b')):AC z6 z' b a:=by
 obtain⟨C,R,G,h1,h2,h3⟩:=k
 exact⟨C,R,G,kk.2 _ _ h1 fun q=>(hS _ q).1 rfl,h2.keep kk s fun b' hb q=>(hS _ q).2 _ _ _ h1 hb,h3⟩
structure AI (h:H)(b7 b12:Nat)(tm:Go.Ab.T V):Prop where
 t3:tm.E 3=.ptr h.next 0
 t4:tm.E 4=.ptr (h.next+1) 0
 t5:tm.E 5=.ptr (h.next+2) 0
 t7:tm.E 7=.ptr b7 0
 t12:tm.E 12=.ptr b12 0
 t13:tm.E 13=.ptr (b12+1) 0
set_option maxHeartbeats 8000000 in
theorem ClockAttics_sub {h:H}(hw:h.wf){a:At}{C R G:V}(x:ZP h C R G a)(y:Rd)(g:Gp):Ev fnG Zi (.fn 10 [] []) [.agg (atV a C R G),.agg (encR y),.agg (ZF g)] h fun v h'=>v=.bool true∧h.Sub h':=by
 refine Ev.gen fun Q q=>?_
 have oC:=x.c.one;have oR:=x.r.one;have oG:=x.g.one
 refine Ze (fd:=c10) rfl rfl rfl ?_
 simp -implicitDefEqProofs(disch:=first|omega|simp only[nZ]<;>omega|fail)only[c10,go_sem,encR,ZF]
 obtain⟨z,hz⟩:∃z,((h.add (.bk (atV a C R G))).add (.bk (encR y))).add (.bk (ZF g))=z:=⟨_,rfl⟩
 have sz:h.Sub z:=by rw[←hz];exact yea
 have nz:z.next=h.next+3:=by rw[←hz];simp only[H.next_add]
 have ga:z.get h.next=some (.bk (atV a C R G)):=by rw[←hz];simp -implicitDefEqProofs(maxSteps:=999999)(disch:=first|with_reducible rfl|omega|(simp only[nA,nS,nD]<;>omega)|fail)only[go_sem]
 have gr:z.get (h.next+1)=some (.bk [.ii y.ck,.ii y.ev,.ii y.sh]):=by rw[←hz];simp -implicitDefEqProofs(maxSteps:=999999)(disch:=first|with_reducible rfl|omega|(simp only[nA,nS,nD]<;>omega)|fail)only[go_sem,encR]
 have gg:z.get (h.next+2)=some (.bk [.ii g.fr,.ii g.to,.ii g.lo,.ii g.hi]):=by rw[←hz];simp -implicitDefEqProofs(maxSteps:=999999)(disch:=first|with_reducible rfl|omega|(simp only[nA,nS,nD]<;>omega)|fail)only[go_sem,ZF]
 simp only[encR,ZF] at hz
 try rw[hz]
 rw[show h.next+1+1=h.next+2 from rfl]
 clear hz
 refine great_ev sz.wf (x.mono sz) _ fun z1 s1=>?_
 cases hg:XK a with
 |true=>
  simp(disch:=omega)only[go_sem,Z3]
  exact q _ _ ⟨rfl,sz.trans s1⟩
 |false=>
 have hl:a.cks.length≤8∧a.rds.length≤12∧a.gps.length≤9:=by
  simp only[XK,decide_eq_false_iff_not] at hg
  omega
 have sm:YJ a:=⟨by omega,by omega,by omega⟩
 have s01:=sz.trans s1
 simp(disch:=omega)only[go_sem,Za (s1.get ga)]
 refine own_ev s01.wf (x.mono s01) sm _ fun C1 R1 G1 z2 n2=>?_
 have ow2:=n2.ow
 have s2:=n2.s
 have s02:=s01.trans s2
 have s12:=s1.trans s2
 simp(disch:=omega)only[go_sem,Za (s1.get ga),Za (s12.get ga)]
 refine XY s02.wf (x.mono s02) sm _ fun C2 R2 G2 z3 s3 x3=>?_
 have s03:=s02.trans s3
 have o1C:=ow2.c.one;have o1R:=ow2.r.one;have o1G:=ow2.g.one
 have o2C:=x3.c.one;have o2R:=x3.r.one;have o2G:=x3.g.one
 simp -implicitDefEqProofs(disch:=first|omega|simp only[nZ]<;>omega|fail)only[go_sem,Za (s1.get ga),Za (s12.get ga),Za ((s12.trans s3).get ga),o1C,o1R,o1G,o2C,o2R,o2G]
 obtain⟨z4,hz4⟩:∃z4,((((z3.add (.bk [.ii 0,.ii 0,.nils,.nils,.nils])).add (.bk [.ii 0,.ii 0,.nils,.nils,.nils])).set z3.next (.bk (atV a C1 R1 G1))).set (z3.next+1) (.bk (atV a C2 R2 G2)))=z4:=⟨_,rfl⟩
 have w3:=s03.wf
 have s4:z3.Sub z4:=by rw[←hz4];exact yea
 have g7:z4.get z3.next=some (.bk (atV a C1 R1 G1)):=by rw[←hz4];simp -implicitDefEqProofs(maxSteps:=999999)(disch:=first|with_reducible rfl|omega|(simp only[nA,nS,nD]<;>omega)|fail)only[go_sem]
 have n4:z4.next=z3.next+2:=by rw[←hz4];simp only[H.next_set,H.next_add]
 rw[hz4]
 clear hz4
 refine Y2 s4.wf (x3.mono s4) sm _ fun z5 s5=>?_
 have s45:=s4.trans s5
 have s25:=s3.trans s45
 have x1:=ow2.at_ sm
 simp(disch:=omega)only[go_sem,Za (s5.get g7)]
 refine Y9 s5.wf ⟨C1,R1,G1,rfl,x1.mono s25⟩ _ fun z6 s6=>?_
 have s46:=s45.trans s6
 have l6:=s46.next
 have s06:=s03.trans s46
 have g76:=(s5.trans s6).get g7
 have hw6:=s06.wf
 simp(disch:=omega)only[go_sem,ne_eq,not_true_eq_false]
 obtain⟨z7,hz7⟩:∃z7,((z6.add (.bk [.ii 0,.ii 0,.nils,.nils,.nils])).add (.bk [.ii 0,.ii 0,.nils,.nils,.nils]))=z7:=⟨_,rfl⟩
 have s7:z6.Sub z7:=by rw[←hz7];exact yea
 have n7:z7.next=z6.next+2:=by rw[←hz7];simp only[H.next_add]
 have a12:AC z6 z7 z6.next At.none:=⟨.nils,.nils,.nils,by rw[←hz7];simp -implicitDefEqProofs(disch:=first|omega|simp only[nZ]<;>omega|fail)only[go_sem,At.none],YM.none s7,fun b hb=>by rcases hb with hb|hb|hb<;>exact(Zy hb).elim⟩
 have g13:z7.get (z6.next+1)=some (.bk (atV At.none .nils .nils .nils)):=by rw[←hz7];simp -implicitDefEqProofs(disch:=first|omega|simp only[nZ]<;>omega|fail)only[go_sem,At.none]
 have a13:AC z6 z7 (z6.next+1) At.none:=⟨.nils,.nils,.nils,g13,YM.none s7,fun b hb=>by rcases hb with hb|hb|hb<;>exact(Zy hb).elim⟩
 rw[hz7]
 clear hz7
 have sz7:=s12.trans (s3.trans (s46.trans s7))
 obtain⟨I,hI⟩:∃I:St→Prop,∀s,I s↔∃tm z,s=⟨tm,z,[]⟩∧AI h z3.next z6.next tm∧z6.Sub z∧tm.E 10=.ii (VJ a y)∧tm.E 11=.ii (knowE a g)∧AC z6 z z6.next (readA a y)∧AC z6 z (z6.next+1) (knowA a g):=⟨_,fun s=>Iff.rfl⟩
 refine PB_cut (p:=Zn a=0) I ?_ ?_ ?_
 ·intro he
  have r:=Zz.1 he
  obtain⟨J,hJ⟩:∃J:St→Prop,∀s,J s↔∃tm z,s=⟨tm,z,[]⟩∧AI h z3.next z6.next tm∧z6.Sub z∧tm.E 10=.ii (VJ a y)∧AC z6 z z6.next (readA a y)∧z.get (z6.next+1)=some (.bk (atV At.none .nils .nils .nils)):=⟨_,fun s=>Iff.rfl⟩
  refine ZD J ?_ ?_
  ·have hlR:=x.r.lenE
   have hl:=r.lens
   by_cases h8:(a.rds.length:Int)<8
   case neg=>
    have h8':a.rds.length=8:=by omega
    have e1:VJ a y=9:=by unfold VJ;rw[if_neg (by rw[he];simp),if_pos h8']
    have e2:readA a y=At.none:=if_neg (by rw[e1];decide)
    simp(disch:=omega)only[go_sem,Za (sz7.get ga),hlR,h8]
    exact(hJ _).2 ⟨_,_,rfl,⟨yeb,yeb,yeb,yeb,yeb,yeb⟩,s7,by rw[e1];exact yeb,by rw[e2];exact a12,g13⟩
   have h8':¬a.rds.length=8:=by omega
   have e1:VJ a y=Zn (a.addR y):=by unfold VJ;rw[if_neg (by rw[he];simp),if_neg h8']
   simp(disch:=omega)only[go_sem,Za (sz7.get ga),hlR,h8]
   have s07:=s06.trans s7
   refine own_ev s07.wf (x.mono s07) sm _ fun C5 R5 G5 z8 n8=>?_
   have ow8:=n8.ow
   have s8:=n8.s
   have l8:=s8.next
   have s78:=s7.trans s8
   obtain⟨C6,R6,G6,g12,_,_⟩:=id a12
   have o5C:=ow8.c.one;have o5R:=ow8.r.one;have o5G:=ow8.g.one
   have b8:∀b,V5 C5 R5 G5 b→z7.next≤b∧b<z8.next:=fun b hb=>ow8.blk hb
   simp(disch:=omega)only[go_sem,s8.get g12,o5C,o5R,o5G,Za ((sz7.trans s8).get gr)]
   have s9:z6.Sub (z8.set z6.next (.bk (atV a C5 R5 G5))):=s78.set yec yec hw6 _
   have k9:=Zh.set z8 z6.next (.bk (atV a C5 R5 G5))
   have ow9:=(ow8.base s7).keep k9 s9 fun b hb=>by have:=b8 b hb;omega
   have g9:(z8.set z6.next (.bk (atV a C5 R5 G5))).get z6.next=some (.bk (atV a C5 R5 G5)):=get_set_same rfl
   have n9:=H.next_set z8 z6.next (.bk (atV a C5 R5 G5))
   have g13':=k9.2 _ _ (s8.get g13) yec
   obtain⟨z9,hz9⟩:∃z9,z8.set z6.next (.bk (atV a C5 R5 G5))=z9:=⟨_,rfl⟩
   rw[hz9] at s9 k9 ow9 g9 n9 g13'
   try rw[hz9]
   have lz:h.next+3≤z6.next:=by have:=(s12.trans (s3.trans s46)).next;omega
   have gr9:=k9.2 _ _ ((sz7.trans s8).get gr) yec
   simp(disch:=omega)only[go_sem,Za gr9]
   have sB:=(H.Sub.refl s9.wf).add (.bk [.ii y.ck,.ii y.ev,.ii y.sh])
   have gB:=sB.get g9
   have nB:=H.next_add z9 (.bk [.ii y.ck,.ii y.ev,.ii y.sh])
   have owB:=ow9.mono sB
   have lr:=sm.r
   refine owB.r.app1 (by_:=24) (r:=encR y) hw6 rfl yec (Zg.new _ (by first|rfl|(rw[n9];rfl)|omega) rfl rfl (by simp[encR]) yew) rfl yeH yeH fun R7 zA oA bA kA=>?_
   have b9:∀b,Zq R5 b→z6.next+2≤b:=fun b hb=>by have:=b8 b (.inr (.inl hb));omega
   have gA:=kA.2 _ _ gB fun hb=>by have:=b9 _ hb;omega
   have lA:=kA.1
   have owA:=owB.appR oA bA kA
   have o7R:=owA.r.one
   have sA:=owA.sub
   have bA':∀b,V5 C5 R7 G5 b→z6.next+2≤b:=fun b hb=>by
    rcases hb with hb|hb|hb
    ·have:=b8 b (.inl hb);omega
    ·rcases bA b hb with q|q
     ·exact b9 b q
     ·omega
    ·have:=b8 b (.inr (.inr hb));omega
   have g13A:=kA.2 _ _ (sB.get g13') fun hb=>by have:=b9 _ hb;omega
   have s10:z6.Sub (zA.set z6.next (.bk (atV a C5 R7 G5))):=sA.set yec yec hw6 _
   have k10:=Zh.set zA z6.next (.bk (atV a C5 R7 G5))
   have ow10:=owA.keep k10 s10 fun b hb=>by have:=bA' b hb;omega
   have g10:(zA.set z6.next (.bk (atV a C5 R7 G5))).get z6.next=some (.bk (atV (a.addR y) C5 R7 G5)):=get_set_same rfl
   have g1310:=k10.2 _ _ g13A yec
   have n10:=H.next_set zA z6.next (.bk (atV a C5 R7 G5))
   simp(disch:=omega)only[go_sem,gA,o7R,cells_one o7R]
   obtain⟨zB,hzB⟩:∃zB,zA.set z6.next (.bk (atV a C5 R7 G5))=zB:=⟨_,rfl⟩
   rw[hzB] at s10 k10 ow10 g10 g1310 n10
   try rw[hzB]
   have smA:YJ (a.addR y):=⟨sm.c,by simp[At.addR];omega,sm.g⟩
   have x10:=ow10.at_ smA
   refine XY s10.wf x10 smA _ fun C8 R8 G8 zC sC xC=>?_
   simp(disch:=omega)only[go_sem]
   refine Y2 sC.wf xC smA _ fun zD sD=>?_
   have sBD:=sC.trans sD
   have lD:=sBD.next
   by_cases hu:Zn (a.addR y)=0
   ·have e2:readA a y=a.addR y:=if_pos (by rw[e1,hu])
    simp(disch:=omega)only[go_sem,hu,ne_eq,not_true_eq_false]
    exact(hJ _).2 ⟨_,_,rfl,⟨yeb,yeb,yeb,yeb,yeb,yeb⟩,s10.trans sBD,by rw[e1,hu];exact yeb,by rw[e2];exact⟨C5,R7,G5,sBD.get g10,ow10.mono sBD,bA'⟩,sBD.get g1310⟩
   ·have e2:readA a y=At.none:=if_neg (by rw[e1];exact hu)
    have s11:=(s10.trans sBD).set (b:=z6.next) (Nat.le_refl _) yec hw6 (.bk (atV At.none .nils .nils .nils))
    simp(disch:=omega)only[go_sem,hu,ne_eq,not_false_eq_true,sBD.get g10]
    exact(hJ _).2 ⟨_,_,rfl,⟨yeb,yeb,yeb,yeb,yeb,yeb⟩,s11,by rw[e1];exact yeb,by rw[e2];exact⟨.nils,.nils,.nils,get_set_same rfl,YM.none s11,fun b hb=>by rcases hb with hb|hb|hb<;>exact(Zy hb).elim⟩,by rw[get_set_other yec];exact sBD.get g1310⟩
  ·intro s hs
   obtain⟨tm,zJ,rfl,⟨t3,t4,t5,t7,t12,t13⟩,sJ,t10,k12,g13⟩:=(hJ s).1 hs
   have hlG:=x.g.lenE
   have hl:=r.lens
   have lz:h.next+3≤z6.next:=by have:=(s12.trans (s3.trans s46)).next;omega
   have szJ:=s12.trans (s3.trans (s46.trans sJ))
   have e0:knowE a g=if a.gps.length=4 then 9 else Zn (a.addG g):=by unfold knowE;rw[if_neg (by rw[he];simp)]
   obtain⟨C9,R9,G9,q1,q2,q3⟩:=k12
   have q4:∀b,V5 C9 R9 G9 b→b<zJ.next:=fun b hb=>(q2.blk hb).2
   have lJ:=zJ.next
   have l13:=sJ.wf _ _ g13
   have hwJ:=sJ.wf
   have keep12:∀z':H,z6.Sub z'→Zh (fun b=>b=z6.next+1∨zJ.next≤b) zJ z'→AC z6 z' z6.next (readA a y):=fun z' s k=>⟨C9,R9,G9,k.2 _ _ q1 yec,q2.keep k s fun b hb q=>by have:=q3 b hb;have:=q4 b hb;omega,q3⟩
   by_cases h8:(a.gps.length:Int)<4
   case neg=>
    have h8':a.gps.length=4:=by omega
    have e1:knowE a g=9:=by rw[e0,if_pos h8']
    have e2:knowA a g=At.none:=if_neg (by rw[e1];decide)
    simp(disch:=omega)only[go_sem,t3,t4,t5,t7,t12,t13,t10,Za (szJ.get ga),hlG,h8]
    exact⟨rfl,(hI _).2 ⟨_,_,rfl,⟨yed,(by simp[Zm,Zd,t4]<;>rfl),(by simp[Zm,Zd,t5]<;>rfl),yeg,yek,yej⟩,sJ,yei,by rw[e1];exact yeb,⟨C9,R9,G9,q1,q2,q3⟩,by rw[e2];exact⟨.nils,.nils,.nils,g13,YM.none sJ,fun b hb=>by rcases hb with hb|hb|hb<;>exact(Zy hb).elim⟩⟩⟩
   have h8':¬a.gps.length=4:=by omega
   have e1:knowE a g=Zn (a.addG g):=by rw[e0,if_neg h8']
   simp(disch:=omega)only[go_sem,t3,t4,t5,t7,t12,t13,t10,Za (szJ.get ga),hlG,h8]
   have s0J:=s06.trans sJ
   refine own_ev s0J.wf (x.mono s0J) sm _ fun C5 R5 G5 z8 n8=>?_
   have ow8:=n8.ow
   have s8:=n8.s
   have l8:=s8.next
   have s78:=sJ.trans s8
   have o5C:=ow8.c.one;have o5R:=ow8.r.one;have o5G:=ow8.g.one
   have b8:∀b,V5 C5 R5 G5 b→zJ.next≤b∧b<z8.next:=fun b hb=>ow8.blk hb
   have g13':=s8.get g13
   simp only[At.none] at g13'
   have s9:z6.Sub (z8.set (z6.next+1) (.bk (atV a C5 R5 G5))):=s78.set yec yec hw6 _
   have k9:=Zh.set z8 (z6.next+1) (.bk (atV a C5 R5 G5))
   have ow9:=(ow8.base sJ).keep k9 s9 fun b hb=>by have:=b8 b hb;omega
   have g9:(z8.set (z6.next+1) (.bk (atV a C5 R5 G5))).get (z6.next+1)=some (.bk (atV a C5 R5 G5)):=get_set_same rfl
   have n9:=H.next_set z8 (z6.next+1) (.bk (atV a C5 R5 G5))
   have kJ9:Zh (fun b=>b=z6.next+1∨zJ.next≤b) zJ (z8.set (z6.next+1) (.bk (atV a C5 R5 G5))):=((Zh.of s8 (fun _=>False)).trans k9).mono fun c hc=>by rcases hc with hc|hc;exact hc.elim;exact .inl hc
   have gr9:=k9.2 _ _ ((szJ.trans s8).get gg) yec
   simp(disch:=omega)only[go_sem,t3,t4,t5,t7,t12,t13,t10,g13',o5C,o5R,o5G,Za ((szJ.trans s8).get gg)]
   obtain⟨z9,hz9⟩:∃z9,z8.set (z6.next+1) (.bk (atV a C5 R5 G5))=z9:=⟨_,rfl⟩
   rw[hz9] at s9 k9 ow9 g9 n9 kJ9 gr9
   try rw[hz9]
   have sB:=(H.Sub.refl s9.wf).add (.bk [.ii g.fr,.ii g.to,.ii g.lo,.ii g.hi])
   have gB:=sB.get g9
   have nB:=H.next_add z9 (.bk [.ii g.fr,.ii g.to,.ii g.lo,.ii g.hi])
   have owB:=ow9.mono sB
   have lr:=sm.g
   refine owB.g.app1 (by_:=32) (r:=ZF g) hw6 rfl yec (Zg.new _ (by first|rfl|(rw[n9];rfl)|omega) rfl rfl (by simp[ZF]) yew) rfl yeH yeH fun G7 zA oA bA kA=>?_
   have b9:∀b,Zq G5 b→zJ.next≤b:=fun b hb=>(b8 b (.inr (.inr hb))).1
   have gA:=kA.2 _ _ gB fun hb=>by have:=b9 _ hb;omega
   have lA:=kA.1
   have owA:=owB.appG oA bA kA
   have o7G:=owA.g.one
   have sA:=owA.sub
   have bA':∀b,V5 C5 R5 G7 b→zJ.next≤b:=fun b hb=>by
    rcases hb with hb|hb|hb
    ·have:=b8 b (.inl hb);omega
    ·have:=b8 b (.inr (.inl hb));omega
    ·rcases bA b hb with q|q
     ·exact b9 b q
     ·omega
   have kJA:Zh (fun b=>b=z6.next+1∨zJ.next≤b) zJ zA:=((kJ9.trans (Zh.of sB (fun _=>False))).trans kA).mono fun c hc=>by
    rcases hc with(hc|hc)|hc
    ·exact hc
    ·exact hc.elim
    ·exact .inr (b9 _ hc)
   have s10:z6.Sub (zA.set (z6.next+1) (.bk (atV a C5 R5 G7))):=sA.set yec yec hw6 _
   have k10:=Zh.set zA (z6.next+1) (.bk (atV a C5 R5 G7))
   have ow10:=owA.keep k10 s10 fun b hb=>by have:=bA' b hb;omega
   have g10:(zA.set (z6.next+1) (.bk (atV a C5 R5 G7))).get (z6.next+1)=some (.bk (atV (a.addG g) C5 R5 G7)):=get_set_same rfl
   have kJ10:Zh (fun b=>b=z6.next+1∨zJ.next≤b) zJ (zA.set (z6.next+1) (.bk (atV a C5 R5 G7))):=(kJA.trans k10).mono fun c hc=>by rcases hc with hc|hc;exact hc;exact .inl hc
   have n10:=H.next_set zA (z6.next+1) (.bk (atV a C5 R5 G7))
   simp(disch:=omega)only[go_sem,t3,t4,t5,t7,t12,t13,t10,gA,o7G,cells_one o7G]
   obtain⟨zB,hzB⟩:∃zB,zA.set (z6.next+1) (.bk (atV a C5 R5 G7))=zB:=⟨_,rfl⟩
   rw[hzB] at s10 k10 ow10 g10 n10 kJ10
   try rw[hzB]
   have smA:YJ (a.addG g):=⟨sm.c,sm.r,by simp[At.addG];omega⟩
   have x10:=ow10.at_ smA
   refine XY s10.wf x10 smA _ fun C8 R8 G8 zC sC xC=>?_
   simp(disch:=omega)only[go_sem]
   refine Y2 sC.wf xC smA _ fun zD sD=>?_
   have sBD:=sC.trans sD
   have lD:=sBD.next
   have kJD:Zh (fun b=>b=z6.next+1∨zJ.next≤b) zJ zD:=(kJ10.trans (Zh.of sBD (fun _=>False))).mono fun c hc=>by rcases hc with hc|hc;exact hc;exact hc.elim
   by_cases hu:Zn (a.addG g)=0
   ·have e2:knowA a g=a.addG g:=if_pos (by rw[e1,hu])
    simp(disch:=omega)only[go_sem,t3,t4,t5,t7,t12,t13,t10,hu,ne_eq,not_true_eq_false]
    exact⟨rfl,(hI _).2 ⟨_,_,rfl,⟨yed,(by simp[Zm,Zd,t4]<;>rfl),(by simp[Zm,Zd,t5]<;>rfl),yeg,yek,yej⟩,s10.trans sBD,yei,by rw[e1,hu];exact yeb,keep12 _ (s10.trans sBD) kJD,by rw[e2];exact⟨C5,R5,G7,sBD.get g10,ow10.mono sBD,fun b hb=>by have:=bA' b hb;omega⟩⟩⟩
   ·have e2:knowA a g=At.none:=if_neg (by rw[e1];exact hu)
    have s11:=(s10.trans sBD).set (b:=z6.next+1) yec yec hw6 (.bk (atV At.none .nils .nils .nils))
    have k11:=Zh.set zD (z6.next+1) (.bk (atV At.none .nils .nils .nils))
    have kJ11:Zh (fun b=>b=z6.next+1∨zJ.next≤b) zJ (zD.set (z6.next+1) (.bk (atV At.none .nils .nils .nils))):=(kJD.trans k11).mono fun c hc=>by rcases hc with hc|hc;exact hc;exact .inl hc
    simp(disch:=omega)only[go_sem,t3,t4,t5,t7,t12,t13,t10,hu,ne_eq,not_false_eq_true,sBD.get g10]
    exact⟨rfl,(hI _).2 ⟨_,_,rfl,⟨yed,(by simp[Zm,Zd,t4]<;>rfl),(by simp[Zm,Zd,t5]<;>rfl),yeg,yek,yej⟩,s11,yei,by rw[e1];exact yeb,keep12 _ s11 kJ11,by rw[e2];exact⟨.nils,.nils,.nils,get_set_same rfl,YM.none s11,fun b hb=>by rcases hb with hb|hb|hb<;>exact(Zy hb).elim⟩⟩⟩
 ·intro he
  have e1:VJ a y=Zn a:=if_pos he
  have e2:readA a y=At.none:=if_neg (by rw[e1];exact he)
  have e3:knowE a g=Zn a:=if_pos he
  have e4:knowA a g=At.none:=if_neg (by rw[e3];exact he)
  simp(disch:=omega)only[go_sem]
  exact⟨rfl,(hI _).2 ⟨_,_,rfl,⟨yeb,yeb,yeb,yeb,yeb,yeb⟩,s7,by rw[e1];exact yeb,by rw[e3];exact yeb,by rw[e2];exact a12,by rw[e4];exact a13⟩⟩
 ·intro s hs
  obtain⟨tm,z8,rfl,⟨t3,t4,t5,t7,t12,t13⟩,s8,t10,t11,k12,k13⟩:=(hI s).1 hs
  have hwz:=s8.wf
  have szz:=s12.trans (s3.trans (s46.trans s8))
  have g7z:=s8.get g76
  have x1z:=x1.mono (s25.trans (s6.trans s8))
  have grz:=szz.get gr
  have ggz:=szz.get gg
  have smR:YJ (readA a y):=by
   unfold readA
   split
   ·exact⟨sm.c,by simp[At.addR];omega,sm.g⟩
   ·exact small_none
  have smK:YJ (knowA a g):=by
   unfold knowA
   split
   ·exact⟨sm.c,sm.r,by simp[At.addG];omega⟩
   ·exact small_none
  simp(disch:=omega)only[go_sem,t3,t4,t5,t7,t12,t13,t10,t11,Za g7z,Za grz]
  refine Read_ev (y:=y) hwz x1z sm _ fun C3 R3 G3 z9 ow9=>?_
  have s9:=ow9.sub
  have o3C:=ow9.c.one;have o3R:=ow9.r.one;have o3G:=ow9.g.one
  simp(disch:=omega)only[go_sem,t3,t4,t5,t7,t12,t13,t10,t11,o3C,o3R,o3G,Za (s9.get g7z),Za (s9.get ggz)]
  obtain⟨pR,hpR⟩:∃pR,readA a y=pR:=⟨_,rfl⟩
  obtain⟨pK,hpK⟩:∃pK,knowA a g=pK:=⟨_,rfl⟩
  rw[hpR] at k12 smR ow9
  rw[hpK] at k13 smK
  rw[hpR]
  have sA:=(H.Sub.refl s9.wf).add (.bk (atV pR C3 R3 G3))
  have gA:(z9.add (.bk (atV pR C3 R3 G3))).get z9.next=some (.bk (atV pR C3 R3 G3)):=Zc rfl
  have nA':=H.next_add z9 (.bk (atV pR C3 R3 G3))
  obtain⟨zA,hzA⟩:∃zA,z9.add (.bk (atV pR C3 R3 G3))=zA:=⟨_,rfl⟩
  rw[hzA] at sA gA nA'
  try rw[hzA]
  have s8A:=s9.trans sA
  simp(disch:=omega)only[go_sem,t3,t4,t5,t7,t12,t13,t10,t11,Za (s8A.get g7z),Za (s8A.get ggz)]
  refine Know_ev (y:=g) s8A.wf (x1z.mono s8A) sm _ fun C4 R4 G4 zB owB=>?_
  rw[hpK] at owB⊢
  have sB:=owB.sub
  have o4C:=owB.c.one;have o4R:=owB.r.one;have o4G:=owB.g.one
  have lA:=sA.next
  have lB:=sB.next
  have s8B:=s8A.trans sB
  have l8B:=s8B.next
  obtain⟨C9,R9,G9,q1,q2,q3⟩:=k12
  obtain⟨C10,R10,G10,u1,u2,u3⟩:=k13
  have sC:=(H.Sub.refl s8B.wf).add (.bk (atV pK C4 R4 G4))
  have gC:(zB.add (.bk (atV pK C4 R4 G4))).get zB.next=some (.bk (atV pK C4 R4 G4)):=Zc rfl
  have nC':=H.next_add zB (.bk (atV pK C4 R4 G4))
  simp(disch:=omega)only[go_sem,t3,t4,t5,t7,t12,t13,t10,t11,o4C,o4R,o4G,ne_eq,not_true_eq_false,Za (sB.get gA),Za (s8B.get q1)]
  obtain⟨zC,hzC⟩:∃zC,zB.add (.bk (atV pK C4 R4 G4))=zC:=⟨_,rfl⟩
  rw[hzC] at sC gC nC'
  try rw[hzC]
  have s8C:=s8B.trans sC
  have gp:=(sB.trans sC).get gA
  simp(disch:=omega)only[go_sem,t3,t4,t5,t7,t12,t13,t10,t11,Za (s8C.get q1)]
  refine Vi s8C.wf ((ow9.at_ smR).mono (sA.trans (sB.trans sC))) ((q2.at_ smR).mono s8C) _ fun zD sD=>?_
  rw[Xu.2 rfl]
  simp(disch:=omega)only[go_sem,t3,t4,t5,t7,t12,t13,t10,t11,Za (sD.get gC),Za ((s8C.trans sD).get u1)]
  refine Vi (s8C.trans sD).wf ((owB.at_ smK).mono (sC.trans sD)) ((u2.at_ smK).mono (s8C.trans sD)) _ fun zE sE=>?_
  rw[Xu.2 rfl]
  have sDE:=sD.trans sE
  have s8E:=s8C.trans sDE
  have lE:=s8E.next
  have lDE:=sDE.next
  simp(disch:=omega)only[go_sem,t3,t4,t5,t7,t12,t13,t10,t11,Za (sDE.get gp),Za (sDE.get gC),o3C,o3R,o3G,o4C,o4R,o4G]
  have sF:=(H.Sub.refl s8E.wf).add (.bk (atV pR C3 R3 G3++atV pK C4 R4 G4))
  have gF:(zE.add (.bk (atV pR C3 R3 G3++atV pK C4 R4 G4))).get zE.next=some (.bk (atV pR C3 R3 G3++atV pK C4 R4 G4)):=Zc rfl
  have nF:=H.next_add zE (.bk (atV pR C3 R3 G3++atV pK C4 R4 G4))
  obtain⟨zF,hzF⟩:∃zF,zE.add (.bk [.ii pR.mins,.ii pR.evs,C3,R3,G3,.ii pK.mins,.ii pK.evs,C4,R4,G4])=zF:=⟨_,rfl⟩
  have gF':zF.get zE.next=some (.bk [.ii pR.mins,.ii pR.evs,C3,R3,G3,.ii pK.mins,.ii pK.evs,C4,R4,G4]):=by rw[←hzF];exact gF
  have sF':zE.Sub zF:=by rw[←hzF];exact sF
  have nF':zF.next=zE.next+1:=by rw[←hzF];exact nF
  rw[hzF]
  clear gF sF nF hzF
  have s8F:=s8E.trans sF'
  have i0:Yw 5 (.sl zE.next 0 2 (.fix 2)) (.ii ((0:Nat):Int))=some (.ptr zE.next 0):=by rw[YR (Zb 0) yec]
  have i1:Yw 5 (.sl zE.next 0 2 (.fix 2)) (.ii ((1:Nat):Int))=some (.ptr zE.next 5):=by rw[YR (Zb 1) yec]
  have b3:∀b,V5 C3 R3 G3 b→z8.next≤b∧b<z9.next:=fun b hb=>ow9.blk hb
  have b4:∀b,V5 C4 R4 G4 b→zA.next≤b∧b<zB.next:=fun b hb=>owB.blk hb
  have lsC:=sC.next
  have l9:=s9.next
  have h02:((0:Nat):Int)<((2:Nat):Int):=by decide
  have h12:((1:Nat):Int)<((2:Nat):Int):=by decide
  have w01:wr .i64 (((0:Nat):Int)+1)=((1:Nat):Int):=by rw[Zo yec yec];rfl
  have w12:wr .i64 (((1:Nat):Int)+1)=((2:Nat):Int):=by rw[Zo yec yec];rfl
  have owR:=ow9.mono (sA.trans (sB.trans (sC.trans (sDE.trans sF'))))
  have owK:=(owB.base s8A).mono (sC.trans (sDE.trans sF'))
  refine Zk 2 (fun i s=>∃tm z',s=⟨tm,z',[]⟩∧z8.Sub z'∧zE.next<z'.next∧z'.get zE.next=some (.bk [.ii pR.mins,.ii pR.evs,C3,R3,G3,.ii pK.mins,.ii pK.evs,C4,R4,G4])∧(i=0→YM z8 z' C3 R3 G3 pR)∧(i≤1→YM z8 z' C4 R4 G4 pK)∧
   tm.E 3=.ptr h.next 0∧tm.E 7=.ptr z3.next 0∧tm.E 107=.sl zE.next 0 2 (.fix 2)∧tm.E 108=.ii ((2:Nat):Int)∧tm.E 109=.ii (i:Int)) ?_ ?_ (i:=0) yec
   ⟨_,_,rfl,s8F,by omega,gF',fun _=>owR,fun _=>owK,yed,yeg,yeb,yeb,yeb⟩
  ·clear t3 t4 t5 t7 t12 t13 t10 t11
   rintro i s hi ⟨tm,z',rfl,sz',lz',gz',oR',oK',t3,t7,t107,t108,t109⟩
   rcases(by omega:i=0∨i=1) with rfl|rfl
   ·have oR'':=oR' rfl
    have oK'':=oK' yec
    have s1':=(H.Sub.refl sz'.wf).add (.bk [.ii pR.mins,.ii pR.evs,C3,R3,G3])
    have gN:=Zc (h:=z') (x:=.bk [.ii pR.mins,.ii pR.evs,C3,R3,G3]) rfl
    have nN:=H.next_add z' (.bk [.ii pR.mins,.ii pR.evs,C3,R3,G3])
    simp(disch:=omega)only[go_sem,t3,t7,t107,t108,t109,h02,i0,Za gz',o3C,o3R,o3G]
    obtain⟨zN,hzN⟩:∃zN,z'.add (.bk [.ii pR.mins,.ii pR.evs,C3,R3,G3])=zN:=⟨_,rfl⟩
    rw[hzN] at s1' gN nN
    try rw[hzN]
    have oRN:=oR''.mono s1'
    have oKN:=oK''.mono s1'
    refine ZW.clr oRN.c hwz rfl rfl fun zP sP kP=>?_
    have lP:=kP.1
    have gNP:=kP.2 _ _ gN fun hb=>by have:=b3 _ (.inl hb);omega
    have gzP:=kP.2 _ _ (s1'.get gz') fun hb=>by have:=b3 _ (.inl hb);omega
    have oRP:=oRN.r.keep kP sP fun b hb hc=>oRN.cr b hc hb
    have oGP:=oRN.g.keep kP sP fun b hb hc=>oRN.cg b hc hb
    have oKP:=oKN.keep kP sP fun b hb hc=>by have:=b3 _ (.inl hc);have:=b4 _ hb;omega
    simp(disch:=omega)only[go_sem,t3,t7,t107,t108,t109,Za gNP]
    refine ZW.clr oRP hwz rfl rfl fun zQ sQ kQ=>?_
    have lQ:=kQ.1
    have gNQ:=kQ.2 _ _ gNP fun hb=>by have:=b3 _ (.inr (.inl hb));omega
    have gzQ:=kQ.2 _ _ gzP fun hb=>by have:=b3 _ (.inr (.inl hb));omega
    have oGQ:=oGP.keep kQ sQ fun b hb hc=>oRN.rg b hc hb
    have oKQ:=oKP.keep kQ sQ fun b hb hc=>by have:=b3 _ (.inr (.inl hc));have:=b4 _ hb;omega
    simp(disch:=omega)only[go_sem,t3,t7,t107,t108,t109,Za gNQ]
    refine ZW.clr oGQ hwz rfl rfl fun zS sS kS=>?_
    have lS:=kS.1
    have gzS:=kS.2 _ _ gzQ fun hb=>by have:=b3 _ (.inr (.inr hb));omega
    have oKS:=oKQ.keep kS sS fun b hb hc=>by have:=b3 _ (.inr (.inr hc));have:=b4 _ hb;omega
    simp(disch:=omega)only[go_sem,t3,t7,t107,t108,t109,w01]
    exact⟨_,_,rfl,sS,by omega,gzS,fun hc=>(by exfalso;omega),fun _=>oKS,yed,yeg,(by simp[Zm,Zd,t107]<;>rfl),(by simp[Zm,Zd,t108]<;>rfl),yeb⟩
   ·have oK'':=oK' yec
    have s1':=(H.Sub.refl sz'.wf).add (.bk [.ii pK.mins,.ii pK.evs,C4,R4,G4])
    have gN:=Zc (h:=z') (x:=.bk [.ii pK.mins,.ii pK.evs,C4,R4,G4]) rfl
    have nN:=H.next_add z' (.bk [.ii pK.mins,.ii pK.evs,C4,R4,G4])
    simp(disch:=omega)only[go_sem,t3,t7,t107,t108,t109,h12,i1,Za gz',o4C,o4R,o4G]
    obtain⟨zN,hzN⟩:∃zN,z'.add (.bk [.ii pK.mins,.ii pK.evs,C4,R4,G4])=zN:=⟨_,rfl⟩
    rw[hzN] at s1' gN nN
    try rw[hzN]
    have oKN:=oK''.mono s1'
    refine ZW.clr oKN.c hwz rfl rfl fun zP sP kP=>?_
    have lP:=kP.1
    have gNP:=kP.2 _ _ gN fun hb=>by have:=b4 _ (.inl hb);omega
    have gzP:=kP.2 _ _ (s1'.get gz') fun hb=>by have:=b4 _ (.inl hb);omega
    have oRP:=oKN.r.keep kP sP fun b hb hc=>oKN.cr b hc hb
    have oGP:=oKN.g.keep kP sP fun b hb hc=>oKN.cg b hc hb
    simp(disch:=omega)only[go_sem,t3,t7,t107,t108,t109,Za gNP]
    refine ZW.clr oRP hwz rfl rfl fun zQ sQ kQ=>?_
    have lQ:=kQ.1
    have gNQ:=kQ.2 _ _ gNP fun hb=>by have:=b4 _ (.inr (.inl hb));omega
    have gzQ:=kQ.2 _ _ gzP fun hb=>by have:=b4 _ (.inr (.inl hb));omega
    have oGQ:=oGP.keep kQ sQ fun b hb hc=>oKN.rg b hc hb
    simp(disch:=omega)only[go_sem,t3,t7,t107,t108,t109,Za gNQ]
    refine ZW.clr oGQ hwz rfl rfl fun zS sS kS=>?_
    have lS:=kS.1
    have gzS:=kS.2 _ _ gzQ fun hb=>by have:=b4 _ (.inr (.inr hb));omega
    simp(disch:=omega)only[go_sem,t3,t7,t107,t108,t109,w12]
    exact⟨_,_,rfl,sS,by omega,gzS,fun hc=>(by exfalso;omega),fun hc=>(by exfalso;omega),yed,yeg,(by simp[Zm,Zd,t107]<;>rfl),(by simp[Zm,Zd,t108]<;>rfl),yeb⟩
  ·clear t3 t4 t5 t7 t12 t13 t10 t11
   rintro s ⟨tm,z',rfl,sz',lz',gz',oR',oK',t3,t7,t107,t108,t109⟩
   simp(disch:=omega)only[go_sem,t3,t7,t107,t108,t109,Int.lt_irrefl,Za (sz'.get g7z),Za (sz'.get (szz.get ga))]
   refine Vi sz'.wf (x1z.mono sz') (x.mono (s06.trans (s8.trans sz'))) _ fun zX sX=>?_
   rw[Xu.2 rfl]
   simp(disch:=omega)only[go_sem,Z3]
   exact q _ _ ⟨rfl,(s06.trans (s8.trans sz')).trans sX⟩
end Go.Ab.Tryz
namespace Go.Ab.Tryz
open Go.Proofs
theorem when_ref {set gain:Int}(h:Xj set gain=true)(s:Int):Ww set gain s=(if(whf set gain s 241).2.2=true then 0 else 6)∧(XT set gain s).1=(whf set gain s 241).1∧(XT set gain s).2=(whf set gain s 241).2.1:=by
 by_cases h1:(whn set gain s 241).2<(whn set gain s 241).1
 ·have e1:Ww set gain s=6:=by rw[Ww,if_pos h,whnG,if_pos h1]
  have e2:whf set gain s 241=(0,0,false):=by simp only[whf,if_pos h1]
  rw[e1,e2];simp[XT,e1]
 ·have e1:Ww set gain s=0:=by rw[Ww,if_pos h,whnG,if_neg h1]
  have e2:whf set gain s 241=((whn set gain s 241).1,(whn set gain s 241).2,true):=by simp only[whf,if_neg h1]
  rw[e1,e2];simp[XT,e1,whnG]
theorem when_bad {set gain:Int}(h:Xj set gain=false)(s:Int):Ww set gain s=3∧XT set gain s=(0,0):=by
 have e:Ww set gain s=3:=by simp[Ww,h]
 exact⟨e,by simp[XT,e]⟩
theorem right_no {set gain:Int}(h:Xj set gain=false):(¬ -60≤set)∨(-60≤set∧¬set≤60)∨(-60≤set∧set≤60∧¬ -30≤gain)∨(-60≤set∧set≤60∧ -30≤gain∧¬gain≤30):=by
 have:¬Wy set gain:=fun r=>by rw[Uf.2 r] at h;cases h
 by_cases h1: -60≤set
 ·by_cases h2:set≤60
  ·by_cases h3: -30≤gain
   ·by_cases h4:gain≤30
    ·exact absurd ⟨h1,h2,h3,h4⟩ this
    ·exact .inr (.inr (.inr ⟨h1,h2,h3,h4⟩))
   ·exact .inr (.inr (.inl ⟨h1,h2,h3⟩))
  ·exact .inr (.inl ⟨h1,h2⟩)
 ·exact .inl h1
theorem inB_no {n lo hi:Int}(h:inB n lo hi=false):(¬lo≤n)∨(lo≤n∧¬n≤hi):=by
 have:¬(lo≤n∧n≤hi):=fun r=>by rw[Zs.2 r] at h;cases h
 by_cases h1:lo≤n
 ·exact .inr ⟨h1,fun h2=>this ⟨h1,h2⟩⟩
 ·exact .inl h1
theorem feq2 (a b c d:Int)(h1:a=c)(h2:b=d):q_feq false 2 (.agg [.ii a,.ii b]) (.agg [.ii c,.ii d])=some (.bool true):=by
 subst h1;subst h2
 have:=X2 (n:=2) [a,b] [a,b] rfl rfl false
 simpa[iv,ngB] using this
set_option maxHeartbeats 4000000 in
theorem ClockShown_sub {h:H}(hw:h.wf)(set gain m s:Int):E (.fn 7 [] []) [.ii set,.ii gain,.ii m,.ii s] h fun v h'=>v=.bool true∧h.Sub h':=by
 refine Ev.gen fun Q q=>?_
 refine Ze (fd:=c7) rfl rfl rfl ?_
 have sA:h.Sub (h.add (.bk [.ii 0,.ii 0])):=(H.Sub.refl hw).add _
 have gA:(h.add (.bk [.ii 0,.ii 0])).get h.next=some (.bk [.ii 0,.ii 0]):=Zc rfl
 have nA:(h.add (.bk [.ii 0,.ii 0])).next=h.next+1:=H.next_add _ _
 cases hr:Xj set gain with
 |false=>
  obtain⟨b1,b2⟩:=when_bad hr s
  have c1:X1 set gain m=3:=by simp[X1,hr]
  have c2:X0 set gain m=0:=by simp[X0,hr]
  have hf:=feq2 (XT set gain s).1 (XT set gain s).2 0 0 (by rw[b2]) (by rw[b2])
  rcases right_no hr with hA|hA|hA|hA
  all_goals
   simp(disch:=omega)only[c7,go_sem,hA]
   refine Shown_ev sA.wf set gain m _ fun h1 s1=>?_
   have g1:=s1.get gA
   simp(disch:=omega)only[go_sem]
   refine When_ev s1.wf set gain s _ fun h2 s2=>?_
   have g2:=s2.get g1
   have l1:=s1.next
   have l2:=s2.next
   simp(disch:=omega)only[go_sem,c1,c2,b1,hf,Za g2,Z3]
   exact q _ _ ⟨rfl,(sA.trans (s1.trans s2)).add _⟩
 |true=>
  obtain⟨b1,b2,b3⟩:=when_ref hr s
  have r:=Uf.1 hr
  have hA: -60≤set∧set≤60∧ -30≤gain∧gain≤30:=⟨r.s0,r.s1,r.g0,r.g1⟩
  have hf:=feq2 (XT set gain s).1 (XT set gain s).2 _ _ b2 b3
  have hm:(∃e w:Int,X1 set gain m=e∧X0 set gain m=w∧((¬0≤m∧e=3∧w=0)∨(0≤m∧¬m≤240∧e=3∧w=0)∨(0≤m∧m≤240∧e=0∧w=shw set gain m))):=by
   refine⟨_,_,rfl,rfl,?_⟩
   cases hi:inB m 0 240 with
   |false=>
    have c1:X1 set gain m=3:=by simp[X1,hi]
    have c2:X0 set gain m=0:=by simp[X0,hi]
    rcases inB_no hi with h1|⟨h1,h2⟩
    ·exact .inl ⟨h1,c1,c2⟩
    ·exact .inr (.inl ⟨h1,h2,c1,c2⟩)
   |true=>
    have h1:=Zs.1 hi
    exact .inr (.inr ⟨h1.1,h1.2,by simp[X1,hi,hr],by simp[X0,hi,hr]⟩)
  obtain⟨e,w,c1,c2,hm|hm|hm⟩:=hm
  case inl|inr.inl=>
   simp(disch:=omega)only[c7,go_sem,hA,hm]
   refine refWhen_ev sA.wf r s _ fun h0 s0=>?_
   have g0:=s0.get gA
   have l0:=s0.next
   have sB:=(sA.trans s0).set (b:=h.next) yec yec hw (.bk [.ii (whf set gain s 241).1,.ii (whf set gain s 241).2.1])
   have gB:(h0.set h.next (.bk [.ii (whf set gain s 241).1,.ii (whf set gain s 241).2.1])).get h.next=some (.bk [.ii (whf set gain s 241).1,.ii (whf set gain s 241).2.1]):=get_set_same rfl
   cases hfl:(whf set gain s 241).2.2
   all_goals
    rw[hfl] at b1
    simp(disch:=omega)only[go_sem,g0]
    refine Shown_ev sB.wf set gain m _ fun h1 s1=>?_
    have g1:=s1.get gB
    simp(disch:=omega)only[go_sem]
    refine When_ev s1.wf set gain s _ fun h2 s2=>?_
    have g2:=s2.get g1
    have l1:=s1.next
    have l2:=s2.next
    rw[H.next_set] at l1
    simp(disch:=omega)only[go_sem,c1,c2,hm,b1,hf,Za g2,Z3,Bool.false_eq_true]
    exact q _ _ ⟨rfl,(sB.trans (s1.trans s2)).add _⟩
  case inr.inr=>
   simp(disch:=omega)only[c7,go_sem,hA,hm]
   refine Vj sA.wf r hm.1 hm.2.1 _ ?_
   simp(disch:=omega)only[go_sem]
   refine refWhen_ev sA.wf r s _ fun h0 s0=>?_
   have g0:=s0.get gA
   have l0:=s0.next
   have sB:=(sA.trans s0).set (b:=h.next) yec yec hw (.bk [.ii (whf set gain s 241).1,.ii (whf set gain s 241).2.1])
   have gB:(h0.set h.next (.bk [.ii (whf set gain s 241).1,.ii (whf set gain s 241).2.1])).get h.next=some (.bk [.ii (whf set gain s 241).1,.ii (whf set gain s 241).2.1]):=get_set_same rfl
   cases hfl:(whf set gain s 241).2.2
   all_goals
    rw[hfl] at b1
    simp(disch:=omega)only[go_sem,g0]
    refine Shown_ev sB.wf set gain m _ fun h1 s1=>?_
    have g1:=s1.get gB
    simp(disch:=omega)only[go_sem]
    refine When_ev s1.wf set gain s _ fun h2 s2=>?_
    have g2:=s2.get g1
    have l1:=s1.next
    have l2:=s2.next
    rw[H.next_set] at l1
    simp(disch:=omega)only[go_sem,c1,c2,hm,b1,hf,Za g2,Z3,Bool.false_eq_true]
    exact q _ _ ⟨rfl,(sB.trans (s1.trans s2)).add _⟩
end Go.Ab.Tryz
namespace Go.Ab.Tryz
open Go.Proofs
theorem asked_ev {h:H}(hw:h.wf){a:At}{C R G:V}(x:ZP h C R G a)(y:Rd)(g:Gp){S Ga Tm:V}{ss gg tt:List Int}(t:WF h S Ga Tm ss gg tt)(f e pay:Int){v:V}{l:List Int}(hv:Zg h v 1 (l.map encI))(Q:V→H→Prop)(q:∀h',h.Sub h'→Q (.bool true) h'):
  Ev fnG Zi (.fn 5 [] []) [.agg (atV a C R G),.agg (encR y),.agg (ZF g),.agg [S,Ga,Tm],.ii f,.ii e,.ii pay,v] h Q:=by
 have oC:=x.c.one;have oR:=x.r.one;have oG:=x.g.one
 have oS:=t.s.one;have oA:=t.g.one;have oT:=t.t.one
 refine Ze (fd:=c5) rfl rfl rfl ?_
 obtain⟨z,hz⟩:∃z,(((h.add (.bk (atV a C R G))).add (.bk (encR y))).add (.bk (ZF g))).add (.bk [S,Ga,Tm])=z:=⟨_,rfl⟩
 have s:h.Sub z:=by rw[←hz];exact yea
 have g0:z.cells h.next=some (atV a C R G):=by rw[←hz];simp -implicitDefEqProofs(disch:=first|omega|simp only[nZ]<;>omega|fail)only[go_sem]
 have g1:z.cells (h.next+1)=some (encR y):=by rw[←hz];simp -implicitDefEqProofs(disch:=first|omega|simp only[nZ]<;>omega|fail)only[go_sem]
 have g2:z.cells (h.next+1+1)=some (ZF g):=by rw[←hz];simp -implicitDefEqProofs(disch:=first|omega|simp only[nZ]<;>omega|fail)only[go_sem]
 have g3:z.cells (h.next+1+1+1)=some [S,Ga,Tm]:=by rw[←hz];simp -implicitDefEqProofs(disch:=first|omega|simp only[nZ]<;>omega|fail)only[go_sem]
 simp only[encR] at hz g1
 simp only[ZF] at hz g2
 simp -implicitDefEqProofs(disch:=first|omega|simp only[nZ]<;>omega|fail)only[c5,go_sem,oC,oR,oG,oS,oA,oT,encR,ZF]
 rw[hz]
 clear hz
 refine(ClockAttics_sub s.wf (x.mono s) y g).mono fun u h1 hu=>?_
 obtain⟨rfl,s1⟩:=hu
 have r1:=s.trans s1
 simp(disch:=omega)only[go_sem,s1.cells g0,s1.cells g3]
 refine(ClockTruths_sub r1.wf (x.mono r1) (t.mono r1)).mono fun u h2 hu=>?_
 obtain⟨rfl,s2⟩:=hu
 have r2:=r1.trans s2
 simp(disch:=omega)only[go_sem,(s1.trans s2).cells g0]
 refine(ClockTimes_sub r2.wf (x.mono r2) f e pay).mono fun u h3 hu=>?_
 obtain⟨rfl,s3⟩:=hu
 have r3:=r2.trans s3
 simp(disch:=omega)only[go_sem,(s1.trans (s2.trans s3)).cells g0]
 refine(ClockRuns_sub r3.wf (x.mono r3) f e).mono fun u h4 hu=>?_
 obtain⟨rfl,s4⟩:=hu
 have r4:=r3.trans s4
 simp(disch:=omega)only[go_sem,(s1.trans (s2.trans (s3.trans s4))).cells g0]
 refine(ClockAgrees_sub r4.wf (x.mono r4) (hv.mono r4)).mono fun u h5 hu=>?_
 obtain⟨rfl,s5⟩:=hu
 simp(disch:=omega)only[go_sem]
 exact q _ (r4.trans s5)
theorem Zg.blk {h:H}{b n sz:Nat}{k:Kd}{cs:List V}(rows:List (List V))(g:h.get b=some (.cells k cs))(e:cs=rows.flatten)(hn:n=rows.length)(hz:∀r∈rows,r.length=sz)(hl:rows.length≤9223372036854775807):Zg h (.sl b 0 n (.fix n)) sz rows:=by
 subst hn;subst e
 exact⟨hz,hl,.inr ⟨b,0,_,_,rfl,.inr (Za g),by
  refine ZU.2 ⟨?_,by rw[ZA hz];omega⟩
  rw[List.drop_zero,←ZA hz,List.take_length]⟩⟩
def smA:At:=⟨12,2,[⟨2,3,9,11⟩],[⟨0,0,5⟩,⟨0,1,13⟩],[⟨0,1,5,9⟩]⟩
abbrev smC (n:Nat):List V:=[.ii 12,.ii 2,.sl (n+1) 0 1 (.fix 1),.sl (n+2) 0 2 (.fix 2),.sl (n+3) 0 1 (.fix 1)]
def smB (n:Nat):List (List V):=[smC n,Z9 ⟨2,3,9,11⟩,encR ⟨0,0,5⟩++encR ⟨0,1,13⟩,ZF ⟨0,1,5,9⟩]
theorem small_ev {h:H}(hw:h.wf)(Q:V→H→Prop)(q:∀z,Cs h.next h z (smB h.next)→z.next=h.next+4→Q (.agg (smC h.next)) z):Ev fnG Zi (.fn 4 [] []) [.nils] h Q:=by
 refine Ze (fd:=c4) rfl rfl rfl ?_
 have ap:∀z:H,Z2 z 3 24 (.sl (h.next+1+1) 0 2 (.fix 2)) .nils=some (.sl (h.next+1+1) 0 2 (.fix 2),z):=fun z=>rfl
 simp -implicitDefEqProofs(disch:=first|omega|simp only[nZ]<;>omega|fail)only[c4,go_sem,ap]
 refine q _ ⟨yea,Nat.le_refl _,by simp -implicitDefEqProofs(maxSteps:=999999)(disch:=first|with_reducible rfl|omega|(simp only[nA,nS,nD]<;>omega)|fail)only[go_sem,smB,List.length_cons,List.length_nil],fun i c hc=>?_⟩ (by simp -implicitDefEqProofs(maxSteps:=999999)(disch:=first|with_reducible rfl|omega|(simp only[nA,nS,nD]<;>omega)|fail)only[go_sem])
 simp only[smB,Z9,encR,ZF] at hc
 rcases(by omega:i=0∨i=1∨i=2∨i=3∨4≤i) with rfl|rfl|rfl|rfl|h4
 ·cases hc;simp(disch:=omega)only[go_sem]
 ·cases hc;simp -implicitDefEqProofs(disch:=first|omega|simp only[nZ]<;>omega|fail)only[go_sem]
 ·cases hc;simp -implicitDefEqProofs(disch:=first|omega|simp only[nZ]<;>omega|fail)only[go_sem]
 ·cases hc;simp -implicitDefEqProofs(disch:=first|omega|simp only[nZ]<;>omega|fail)only[go_sem]
 ·rw[List.getElem?_eq_none (by simpa using h4)] at hc;cases hc
def LikeV:V→V→Prop
 |.int k _,v=>∃n,v=.int k n
 |u,v=>v=u
def X9:List V→List V→Prop
 |[],m=>m=[]
 |u::l,m=>∃v m',m=v::m'∧LikeV u v∧X9 l m'
def V8:List (List V)→List (List V)→Prop
 |[],m=>m=[]
 |u::l,m=>∃v m',m=v::m'∧X9 u v∧V8 l m'
theorem LikeV.refl:∀u,LikeV u u
 |.int _ n=>⟨n,rfl⟩
 |.bool _|.ptr _ _|.nilp|.sl _ _ _ _|.nils|.map _|.nilm|.fn _ _ _|.nilf|.yld _|.agg _|.tup _|.sl0 _=>rfl
theorem X9.refl:∀u,X9 u u
 |[]=>rfl
 |u::l=>⟨u,l,rfl,LikeV.refl u,X9.refl l⟩
theorem V8.refl:∀u,V8 u u
 |[]=>rfl
 |u::l=>⟨u,l,rfl,X9.refl u,V8.refl l⟩
theorem X9.put {k:IntKind}{a n:Int}:∀{o:Nat} {cs:List V},cs[o]? =some (.int k a)→∃cs',Ye o [.int k n] cs=some cs'∧X9 cs cs'
 |o,[],h=>by cases h
 |0,u::l,h=>by
  cases h
  exact⟨.int k n::l,by simp only[putN_0,over_s,over_0,Us],_,_,rfl,⟨n,rfl⟩,X9.refl l⟩
 |o+1,u::l,h=>by
  obtain⟨cs',e,lk⟩:=X9.put (o:=o) (cs:=l) (k:=k) (a:=a) (n:=n) (by simpa using h)
  exact⟨u::cs',by simp only[putN_s,e,Us],_,_,rfl,LikeV.refl u,lk⟩
theorem V8.set:∀{i:Nat} {cs:List (List V)} {c c':List V},cs[i]? =some c→X9 c c'→V8 cs (cs.set i c')
 |_,[],_,_,h,_=>by cases h
 |0,u::l,_,_,h,k=>by cases h;exact⟨_,_,rfl,k,V8.refl l⟩
 |i+1,u::l,_,_,h,k=>⟨_,_,rfl,X9.refl u,V8.set (by simpa using h) k⟩
theorem Cs.sto {z5 z:H}{cs:List (List V)}{n0 i o:Nat}(k:Cs n0 z5 z cs)(hw:z5.wf){c:List V}{a:Int}(hc:cs[i]? =some c)(ho:c[o]? =some (.ii a))(n:Int):
  ∃z' cs',z.get (n0+i)=some (.bk c)∧putC (some (.bk c)) z (n0+i) o [.ii n]=some z'∧V8 cs cs'∧Cs n0 z5 z' cs':=by
 obtain⟨c',e,lk⟩:=X9.put (n:=n) ho
 have hi:i<cs.length:=by
  rcases Nat.lt_or_ge i cs.length with q|q
  ·exact q
  ·rw[List.getElem?_eq_none q] at hc;cases hc
 exact⟨_,_,k.2.2.2 i c hc,by simp only[putC_rw,e,setO_some],V8.set hc lk,k.set hw rfl hi c'⟩
end Go.Ab.Tryz
namespace Go.Ab
def Z5:List Bool→C→C
 |[],c=>c
 |b::p,.seq x y=>match b with|true=>Z5 p y|false=>Z5 p x
 |b::p,.cond _ x y=>match b with|true=>Z5 p y|false=>Z5 p x
 |_::p,.block _ x=>Z5 p x
 |_::p,.loop x=>Z5 p x
 |_::p,.scope x=>Z5 p x
 |_::_,c=>c
namespace Tryz
open Go.Proofs
theorem V8.at:∀{i:Nat} {cs cs':List (List V)} {c:List V},V8 cs cs'→cs[i]? =some c→∃c',cs'[i]? =some c'∧X9 c c'
 |_,[],_,_,_,h=>by cases h
 |0,u::l,_,_,⟨v,m,rfl,k,_⟩,h=>by cases h;exact⟨v,rfl,k⟩
 |i+1,u::l,_,_,⟨v,m,rfl,_,k⟩,h=>V8.at (i:=i) k (by simpa using h)
theorem X9.i {k:IntKind}{a:Int}{l m:List V}(h:X9 (.int k a::l) m):∃n m',m=.int k n::m'∧X9 l m':=by
 obtain⟨v,m',e,⟨n,rfl⟩,q⟩:=h
 exact⟨n,m',e,q⟩
theorem X9.s {b o n:Nat}{c:Cap}{l m:List V}(h:X9 (.sl b o n c::l) m):∃m',m=.sl b o n c::m'∧X9 l m':=by
 obtain⟨v,m',e,rfl,q⟩:=h
 exact⟨m',e,q⟩
theorem like1 {a:Int}{m:List V}(h:X9 [.ii a] m):∃a,m=encI a:=by
 obtain⟨a,_,rfl,q⟩:=h.i;cases q;exact⟨a,rfl⟩
theorem like2 {a b:Int}{m:List V}(h:X9 [.ii a,.ii b] m):∃a b,m=encI a++encI b:=by
 obtain⟨a,_,rfl,q⟩:=h.i;obtain⟨b,rfl⟩:=like1 q;exact⟨a,b,rfl⟩
theorem like3 {r:Rd}{l m:List V}(h:X9 (encR r++l) m):∃r m',m=encR r++m'∧X9 l m':=by
 obtain⟨a,_,rfl,q⟩:=h.i;obtain⟨b,_,rfl,p⟩:=q.i;obtain⟨c,m',rfl,s⟩:=p.i;exact⟨⟨a,b,c⟩,m',rfl,s⟩
theorem like4 {c:Ck}{m:List V}(h:X9 (Z9 c) m):∃c,m=Z9 c:=by
 obtain⟨a,_,rfl,q⟩:=h.i;obtain⟨b,_,rfl,p⟩:=q.i;obtain⟨c,_,rfl,s⟩:=p.i;obtain⟨d,_,rfl,r⟩:=s.i;cases r;exact⟨⟨a,b,c,d⟩,rfl⟩
theorem like4g {c:Gp}{m:List V}(h:X9 (ZF c) m):∃c,m=ZF c:=by
 obtain⟨a,_,rfl,q⟩:=h.i;obtain⟨b,_,rfl,p⟩:=q.i;obtain⟨c,_,rfl,s⟩:=p.i;obtain⟨d,_,rfl,r⟩:=s.i;cases r;exact⟨⟨a,b,c,d⟩,rfl⟩
theorem likeS {b o n b2 o2 n2 b3 o3 n3:Nat}{c c2 c3:Cap}{m:List V}(h:X9 [.sl b o n c,.sl b2 o2 n2 c2,.sl b3 o3 n3 c3] m):m=[.sl b o n c,.sl b2 o2 n2 c2,.sl b3 o3 n3 c3]:=by
 obtain⟨_,rfl,q⟩:=h.s;obtain⟨_,rfl,p⟩:=q.s;obtain⟨_,rfl,s⟩:=p.s;cases s;rfl
def limB (n:Nat):List (List V):=smB n++[smC n,encR ⟨0,1,12⟩,ZF ⟨1,0, -8, -6⟩,encI 2,encI 9,encI 3++encI 10,[.sl (n+7) 0 1 (.fix 1),.sl (n+8) 0 1 (.fix 1),.sl (n+9) 0 2 (.fix 2)],encI 1++encI 0,encI 0,encI 1,encI 20]
set_option maxRecDepth 8000 in
set_option maxHeartbeats 8000000 in
theorem lim1_ev {h z:H}(hw:h.wf){n i:Nat}(k:Cs n h z (limB n))(hi:i<22)(tm:Go.Ab.T V){v57 v58 v59 v66 v67 v68:V}{x:Int}
  (t2:(Opd.t 2).ev tm=.int .i64 (i:Int)) (t5:(Opd.t 5).ev tm=.int .i64 x) (t6:(Opd.t 6).ev tm=.ptr (n+4) 0) (t7:(Opd.t 7).ev tm=.ptr (n+5) 0) (t8:(Opd.t 8).ev tm=.ptr (n+6) 0) (t9:(Opd.t 9).ev tm=.ptr (n+10) 0) (t10:(Opd.t 10).ev tm=.ptr (n+12) 0) (t11:(Opd.t 11).ev tm=.ptr (n+13) 0) (t12:(Opd.t 12).ev tm=.ptr (n+14) 0) (t13:(Opd.t 13).ev tm=.sl (n+11) 0 2 (.fix 2))
  (t57:(Opd.t 57).ev tm=v57) (t58:(Opd.t 58).ev tm=v58) (t59:(Opd.t 59).ev tm=v59) (t66:(Opd.t 66).ev tm=v66) (t67:(Opd.t 67).ev tm=v67) (t68:(Opd.t 68).ev tm=v68):
  W fnG Zi 451 3 none (Z5 [true,true,false,true,true,true,true,true,false,true,true,true,true,true,true,true,false,true,true,true,true,true] c3.body) ⟨tm,z,[]⟩ fun x1 s=>x1=.nrm∧∃tm' z',s=⟨tm',z',[]⟩∧h.Sub z'∧
   (Opd.t 2).ev tm'=.int .i64 (i:Int)∧(Opd.t 57).ev tm'=v57∧(Opd.t 58).ev tm'=v58∧(Opd.t 59).ev tm'=v59∧(Opd.t 66).ev tm'=v66∧(Opd.t 67).ev tm'=v67∧(Opd.t 68).ev tm'=v68:=by
 have i1:∀b,Yw 4 (.sl b 0 1 (.fix 1)) (.int .i64 0)=some (.ptr b 0):=fun b=>rfl
 have i2:∀b,Yw 3 (.sl b 0 2 (.fix 2)) (.int .i64 0)=some (.ptr b 0):=fun b=>rfl
 have i3:∀b,Yw 3 (.sl b 0 2 (.fix 2)) (.int .i64 1)=some (.ptr b 3):=fun b=>rfl
 have i4:∀b,Yw 1 (.sl b 0 2 (.fix 2)) (.int .i64 1)=some (.ptr b 1):=fun b=>rfl
 obtain⟨P,hP⟩:∃P,[V.ptr (n+4) 0,.ptr (n+4) 1,.ptr (n+1) 0,.ptr (n+1) 1,.ptr (n+1) 2,.ptr (n+1) 3,.ptr (n+2) 0,.ptr (n+2) 4,.ptr (n+2) 2,.ptr (n+3) 0,.ptr (n+3) 1,.ptr (n+3) 2,.ptr (n+3) 3,.ptr (n+5) 1,.ptr (n+5) 0,.ptr (n+5) 2,.ptr (n+6) 0,.ptr (n+12) 0,.ptr (n+14) 0,.ptr (n+13) 0,.ptr (n+11) 1,.ptr (n+9) 1]=P:=⟨_,rfl⟩
 obtain⟨kk,o,c,a,hn,hc,ho⟩:∃kk o c a,nth i P=some (.ptr (n+kk) o)∧(limB n)[kk]? =some c∧c[o]? =some (.int .i64 a):=by
  rw[←hP]
  match i,hi with
  |0,_=>exact⟨4,0,_,_,rfl,rfl,rfl⟩|1,_=>exact⟨4,1,_,_,rfl,rfl,rfl⟩|2,_=>exact⟨1,0,_,_,rfl,rfl,rfl⟩|3,_=>exact⟨1,1,_,_,rfl,rfl,rfl⟩|4,_=>exact⟨1,2,_,_,rfl,rfl,rfl⟩|5,_=>exact⟨1,3,_,_,rfl,rfl,rfl⟩|6,_=>exact⟨2,0,_,_,rfl,rfl,rfl⟩|7,_=>exact⟨2,4,_,_,rfl,rfl,rfl⟩|8,_=>exact⟨2,2,_,_,rfl,rfl,rfl⟩|9,_=>exact⟨3,0,_,_,rfl,rfl,rfl⟩|10,_=>exact⟨3,1,_,_,rfl,rfl,rfl⟩
  |11,_=>exact⟨3,2,_,_,rfl,rfl,rfl⟩|12,_=>exact⟨3,3,_,_,rfl,rfl,rfl⟩|13,_=>exact⟨5,1,_,_,rfl,rfl,rfl⟩|14,_=>exact⟨5,0,_,_,rfl,rfl,rfl⟩|15,_=>exact⟨5,2,_,_,rfl,rfl,rfl⟩|16,_=>exact⟨6,0,_,_,rfl,rfl,rfl⟩|17,_=>exact⟨12,0,_,_,rfl,rfl,rfl⟩|18,_=>exact⟨14,0,_,_,rfl,rfl,rfl⟩|19,_=>exact⟨13,0,_,_,rfl,rfl,rfl⟩|20,_=>exact⟨11,1,_,_,rfl,rfl,rfl⟩|21,_=>exact⟨9,1,_,_,rfl,rfl,rfl⟩|j+22,hj=>exact absurd hj yec
 have sP:=(H.Sub.refl k.1.wf).add (.cells .rw P)
 have b4:z.cells (n+4)=some (smC n):=Za (k.2.2.2 4 _ rfl)
 have b10:z.cells (n+10)=some [.sl (n+7) 0 1 (.fix 1),.sl (n+8) 0 1 (.fix 1),.sl (n+9) 0 2 (.fix 2)]:=Za (k.2.2.2 10 _ rfl)
 have gP:(z.add (.cells .rw P)).cells z.next=some P:=Zu rfl
 have iP:Yw 1 (.sl z.next 0 22 (.fix 22)) (.int .i64 (i:Int))=some (.ptr z.next i):=by rw[YR (Zb i) hi];simp
 obtain⟨z',B',g,hp,lk,k'⟩:=(k.mono sP).sto hw hc ho x
 simp -implicitDefEqProofs(maxSteps:=999999)(disch:=first|with_reducible rfl|omega|(simp only[nA,nS,nD]<;>omega)|fail)only[Z5,c3,go_sem,t2,t5,t6,t7,t8,t9,t10,t11,t12,t13,i1,i2,i3,i4,b4,b10,hP,gP,iP,hn,sP.cells b4,sP.cells b10,g,hp,Nat.reduceLT]
 obtain⟨c1,e1,l1⟩:=lk.at (i:=1) rfl
 obtain⟨ck,rfl⟩:=like4 (c:=⟨2,3,9,11⟩) l1
 obtain⟨c2,e2,l2⟩:=lk.at (i:=2) rfl
 obtain⟨r1,m2,rfl,q2⟩:=like3 (r:=⟨0,0,5⟩) (l:=encR ⟨0,1,13⟩) l2
 obtain⟨r2,m3,rfl,q3⟩:=like3 (r:=⟨0,1,13⟩) (l:=[]) q2
 cases q3
 obtain⟨c3,e3,l3⟩:=lk.at (i:=3) rfl
 obtain⟨gp,rfl⟩:=like4g (c:=⟨0,1,5,9⟩) l3
 obtain⟨c4,e4,l4⟩:=lk.at (i:=4) rfl
 obtain⟨mi,m4,rfl,q4⟩:=l4.i
 obtain⟨ev,m5,rfl,q5⟩:=q4.i
 cases likeS q5
 obtain⟨c5,e5,l5⟩:=lk.at (i:=5) rfl
 obtain⟨rd,m6,rfl,q6⟩:=like3 (r:=⟨0,1,12⟩) (l:=[]) l5
 cases q6
 obtain⟨c6,e6,l6⟩:=lk.at (i:=6) rfl
 obtain⟨gq,rfl⟩:=like4g (c:=⟨1,0, -8, -6⟩) l6
 obtain⟨c7,e7,l7⟩:=lk.at (i:=7) rfl
 obtain⟨s7,rfl⟩:=like1 (a:=2) l7
 obtain⟨c8,e8,l8⟩:=lk.at (i:=8) rfl
 obtain⟨s8,rfl⟩:=like1 (a:=9) l8
 obtain⟨c9,e9,l9⟩:=lk.at (i:=9) rfl
 obtain⟨s9,u9,rfl⟩:=like2 (a:=3) (b:=10) l9
 obtain⟨c10,e10,l10⟩:=lk.at (i:=10) rfl
 cases likeS l10
 obtain⟨c11,e11,l11⟩:=lk.at (i:=11) rfl
 obtain⟨s11,u11,rfl⟩:=like2 (a:=1) (b:=0) l11
 obtain⟨c12,e12,l12⟩:=lk.at (i:=12) rfl
 obtain⟨s12,rfl⟩:=like1 (a:=0) l12
 obtain⟨c13,e13,l13⟩:=lk.at (i:=13) rfl
 obtain⟨s13,rfl⟩:=like1 (a:=1) l13
 obtain⟨c14,e14,l14⟩:=lk.at (i:=14) rfl
 obtain⟨s14,rfl⟩:=like1 (a:=20) l14
 have G:=k'.2.2.2
 have g4:z'.cells (n+4)=some [.int .i64 mi,.int .i64 ev,.sl (n+1) 0 1 (.fix 1),.sl (n+2) 0 2 (.fix 2),.sl (n+3) 0 1 (.fix 1)]:=Za (G 4 _ e4)
 have g5:z'.cells (n+5)=some [.int .i64 rd.ck,.int .i64 rd.ev,.int .i64 rd.sh]:=Za (G 5 _ e5)
 have g6:z'.cells (n+6)=some [.int .i64 gq.fr,.int .i64 gq.to,.int .i64 gq.lo,.int .i64 gq.hi]:=Za (G 6 _ e6)
 have g10:z'.cells (n+10)=some [.sl (n+7) 0 1 (.fix 1),.sl (n+8) 0 1 (.fix 1),.sl (n+9) 0 2 (.fix 2)]:=Za (G 10 _ e10)
 have g12:z'.cells (n+12)=some [.int .i64 s12]:=Za (G 12 _ e12)
 have g13:z'.cells (n+13)=some [.int .i64 s13]:=Za (G 13 _ e13)
 have g14:z'.cells (n+14)=some [.int .i64 s14]:=Za (G 14 _ e14)
 have xx:ZP z' (.sl (n+1) 0 1 (.fix 1)) (.sl (n+2) 0 2 (.fix 2)) (.sl (n+3) 0 1 (.fix 1)) ⟨mi,ev,[ck],[r1,r2],[gp]⟩:=
  ⟨Zg.blk _ (G 1 _ e1) rfl rfl (by simp[Z9]) yew,Zg.blk _ (G 2 _ e2) rfl rfl (by simp[encR]) yew,Zg.blk _ (G 3 _ e3) rfl rfl (by simp[ZF]) yew⟩
 have tr:WF z' (.sl (n+7) 0 1 (.fix 1)) (.sl (n+8) 0 1 (.fix 1)) (.sl (n+9) 0 2 (.fix 2)) [s7] [s8] [s9,u9]:=
  ⟨Zg.blk _ (G 7 _ e7) rfl rfl yev yew,Zg.blk _ (G 8 _ e8) rfl rfl yev yew,Zg.blk _ (G 9 _ e9) rfl rfl yev yew⟩
 have hv:Zg z' (.sl (n+11) 0 2 (.fix 2)) 1 ([s11,u11].map encI):=Zg.blk _ (G 11 _ e11) rfl rfl yev yew
 have w':=k'.1.wf
 clear G lk hp g
 simp -implicitDefEqProofs(maxSteps:=999999)(disch:=first|with_reducible rfl|omega|(simp only[nA,nS,nD]<;>omega)|fail)only[go_sem,t2,t5,t6,t7,t8,t9,t10,t11,t12,t13,g4,g5,g6,g10,g12,g13,g14]
 refine asked_ev w' xx rd gq tr s12 s13 s14 hv _ fun z2 s2=>?_
 simp -implicitDefEqProofs(maxSteps:=999999)(disch:=first|with_reducible rfl|omega|(simp only[nA,nS,nD]<;>omega)|fail)only[go_sem,t2,t5,t6,t7,t8,t9,t10,t11,t12,t13,s2.cells g4,s2.cells g5,s2.cells g6,s2.cells g10,s2.cells g12,s2.cells g13,s2.cells g14]
 refine asked_ev s2.wf (xx.mono s2) rd gq (tr.mono s2) s13 s12 s14 (hv.mono s2) _ fun z3 s3=>?_
 simp -implicitDefEqProofs(maxSteps:=999999)(disch:=first|with_reducible rfl|omega|(simp only[nA,nS,nD]<;>omega)|fail)only[go_sem]
 have sE:=k'.1.trans (s2.trans s3)
 first|exact⟨rfl,_,_,rfl,sE,yee,yer,yes,yez,yeC,yeD,yeJ⟩|exact⟨_,_,rfl,sE,yee,yer,yes,yez,yeC,yeD,yeJ⟩
end Tryz
end Go.Ab
namespace Go.Ab.Tryz
open Go.Proofs
theorem app_lit {h:H}(hw:h.wf){a:Nat}{p q:Int}{y:V}{l:List Int}{Q:V→H→Prop}(g:h.get a=some (.bk [.ii p,.ii q]))(hy:Zg h y 1 (l.map encI))(h1:l≠[])(hl:l.length≤100)(r:∀x' h',h.Sub h'→Zg h' x' 1 ((p::q::l).map encI)→Q x' h'):
  P2 (Z2 h 1 8 (.sl a 0 2 (.fix 2)) y) Q:=by
 have hs:Zg h (.sl a 0 2 (.fix 2)) 1 ([p,q].map encI):=Zg.blk _ g rfl rfl yev yew
 have he:=hy.elems
 cases l with
 |nil=>exact absurd rfl h1
 |cons b l=>
  simp only[List.length_cons] at hl
  rw[W6,he.1,he.2,List.length_map]
  simp only[WA,List.length_cons]
  rw[W5 yec hs.elems.1 yec yec,VS,YE]
  exact r _ _ ((H.Sub.refl hw).add _) (Zg.new _ rfl (by simp only[List.length_map,List.length_cons];omega) (by rw[List.map_cons,List.map_cons,List.flatten_cons,List.flatten_cons];rfl) yev (by simp only[List.length_map,List.length_cons];omega))
set_option maxRecDepth 8000 in
set_option maxHeartbeats 8000000 in
theorem lim2_ev {h hq:H}(hw:h.wf)(sq:h.Sub hq){i:Nat}(hi:i<22){y:V}{l:List Int}(hy:Zg h y 1 (l.map encI))(h1:l≠[])(hl:l.length≤100)(tm:Go.Ab.T V){v57 v58 v59:V}
  (t3:(Opd.t 3).ev tm=y) (t2:(Opd.t 2).ev tm=.int .i64 (i:Int)) (t57:(Opd.t 57).ev tm=v57) (t58:(Opd.t 58).ev tm=v58) (t59:(Opd.t 59).ev tm=v59):
  W fnG Zi 451 3 none (Z5 [true,true,false,true,true,true,true,true,false,true,true] c3.body) ⟨tm,hq,[]⟩ fun x1 s=>x1=.nrm∧∃tm' z',s=⟨tm',z',[]⟩∧h.Sub z'∧
   (Opd.t 57).ev tm'=v57∧(Opd.t 58).ev tm'=v58∧(Opd.t 59).ev tm'=v59:=by
 obtain⟨R,hR⟩:∃R,Z5 [true,true,false,true,true,true,true,true,false,true,true,true,true,true,true,true,false,true,true,true,true,true] c3.body=R:=⟨_,rfl⟩
 have r1:= @lim1_ev
 rw[hR] at r1
 simp only[Z5,c3] at hR
 simp only[Z5,c3]
 rw[hR]
 clear hR
 simp -implicitDefEqProofs(maxSteps:=999999)(disch:=first|with_reducible rfl|omega|(simp only[nA,nS,nD]<;>omega)|fail)only[go_sem,t3]
 refine app_lit (h:=hq.add (.cells .rw [.int .i64 9223372036854775807,.int .i64 (-9223372036854775808)])) (((H.Sub.refl sq.wf).add _).wf) (Zc rfl) (hy.mono (sq.add _)) h1 hl fun x' h2 s2 hx'=>?_
 have s02:=(sq.add (.cells .rw [.int .i64 9223372036854775807,.int .i64 (-9223372036854775808)])).trans s2
 obtain⟨L,hL⟩:∃L,(9223372036854775807:Int):: -9223372036854775808::l=L:=⟨_,rfl⟩
 have hLl:L.length≤102:=by rw[←hL];simp only[List.length_cons];omega
 rw[hL] at hx'
 have hlx:=hx'.lenE
 simp -implicitDefEqProofs(maxSteps:=999999)(disch:=first|with_reducible rfl|omega|(simp only[nA,nS,nD]<;>omega)|fail)only[go_sem,hlx]
 refine Zk L.length (fun j s=>∃tm z,s=⟨tm,z,[]⟩∧h2.Sub z∧(Opd.t 2).ev tm=.int .i64 (i:Int)∧(Opd.t 57).ev tm=v57∧(Opd.t 58).ev tm=v58∧(Opd.t 59).ev tm=v59∧(Opd.t 66).ev tm=x'∧(Opd.t 67).ev tm=.int .i64 (L.length:Int)∧(Opd.t 68).ev tm=.int .i64 (j:Int)) ?_ ?_ (i:=0) (Nat.zero_le _)
  ⟨_,_,rfl,H.Sub.refl s2.wf,yee,yer,yes,yez,yeb,yeb,yeu⟩
 ·clear t2 t3 t57 t58 t59
  rintro j s hj ⟨tm,z,rfl,sz,t2,t57,t58,t59,t66,t67,t68⟩
  have hj':(j:Int)<(L.length:Int):=by omega
  obtain⟨b,o,c,cs,_,e2,e3,_,e5,e4⟩:=(hx'.mono sz).at hj
  have hv:nth (o+j*1) cs=some (.int .i64 L[j]):=e4 yev
  simp -implicitDefEqProofs(maxSteps:=999999)(disch:=first|with_reducible rfl|omega|(simp only[nA,nS,nD]<;>omega)|fail)only[go_sem,t66,t67,t68,hj',e3 (Zb j),e2,hv]
  refine small_ev sz.wf _ fun z0 k0 nz=>?_
  simp -implicitDefEqProofs(maxSteps:=999999)(disch:=first|with_reducible rfl|omega|(simp only[nA,nS,nD]<;>omega)|fail)only[go_sem,nz]
  generalize hz:H.set _ _ _=zE
  have wz:=sz.wf
  have s0:=k0.1
  have k:Cs z.next z zE (limB z.next):=by
   have g0:z0.get z.next=some (.cells .rw (smC z.next)):=k0.2.2.2 0 _ rfl
   have g1:z0.get (z.next+1)=some (.cells .rw (Z9 ⟨2,3,9,11⟩)):=k0.2.2.2 1 _ rfl
   have g2:z0.get (z.next+2)=some (.cells .rw (encR ⟨0,0,5⟩++encR ⟨0,1,13⟩)):=k0.2.2.2 2 _ rfl
   have g3:z0.get (z.next+3)=some (.cells .rw (ZF ⟨0,1,5,9⟩)):=k0.2.2.2 3 _ rfl
   rw[←hz]
   refine⟨yea,Nat.le_refl _,by simp -implicitDefEqProofs(maxSteps:=999999)(disch:=first|with_reducible rfl|omega|(simp only[nA,nS,nD]<;>omega)|fail)only[go_sem,nz,limB,smB,List.length_cons,List.length_nil],fun i c hc=>?_⟩
   rcases(by omega:i=0∨i=1∨i=2∨i=3∨i=4∨i=5∨i=6∨i=7∨i=8∨i=9∨i=10∨i=11∨i=12∨i=13∨i=14∨15≤i) with rfl|rfl|rfl|rfl|rfl|rfl|rfl|rfl|rfl|rfl|rfl|rfl|rfl|rfl|rfl|hh
   all_goals first|(cases(show some _=some c from hc);simp -implicitDefEqProofs(maxSteps:=999999)(disch:=first|with_reducible rfl|omega|(simp only[nA,nS,nD]<;>omega)|fail)only[go_sem,g0,g1,g2,g3,nz,encR,ZF,encI];done)|(rw[List.getElem?_eq_none (by simpa[limB,smB] using hh)] at hc;cases hc)
  refine(r1 wz k hi _ (v57:=v57) (v58:=v58) (v59:=v59) (v66:=x') (v67:=.int .i64 (L.length:Int)) (v68:=.int .i64 (j:Int)) yee yeb yeb yeb yeb yeb yeb yeb yeb yeb yer yes yez yeC yeD yeJ).mono fun x1 s hx1=>?_
  clear t2 t57 t58 t59 t66 t67 t68
  obtain⟨rfl,tm,z2,rfl,s2z,t2,t57,t58,t59,t66,t67,t68⟩:=hx1
  have v1:wr .i64 ((j:Int)+1)=((j+1:Nat):Int):=Zj yec
  simp -implicitDefEqProofs(maxSteps:=999999)(disch:=first|with_reducible rfl|omega|(simp only[nA,nS,nD]<;>omega)|fail)only[go_sem,t68,v1]
  exact⟨_,_,rfl,sz.trans s2z,yee,yer,yes,yez,yeC,yeD,yeb⟩
 ·clear t2 t3 t57 t58 t59
  rintro s ⟨tm,z,rfl,sz,t2,t57,t58,t59,t66,t67,t68⟩
  simp -implicitDefEqProofs(maxSteps:=999999)(disch:=first|with_reducible rfl|omega|(simp only[nA,nS,nD]<;>omega)|fail)only[go_sem,t67,t68,Int.lt_irrefl]
  exact⟨_,_,rfl,s02.trans sz,yer,yes,yez⟩
def Rws (h:H)(x:V)(S:List (List Int)):Prop:=∃xs:List V,Zg h x 1 (xs.map fun v=>[v])∧xs.length=S.length∧∀(i:Nat) v l,xs[i]? =some v→S[i]? =some l→Zg h v 1 (l.map encI)
set_option maxRecDepth 8000 in
set_option maxHeartbeats 8000000 in
theorem lims_ev {h:H}(hw:h.wf){x:V}{S:List (List Int)}(hx:Rws h x S)(hS:S.length=22)(hl:∀l∈S,l≠[]∧l.length≤100)(tm:Go.Ab.T V)(t1:tm.E 1=x):
  W fnG Zi 451 3 none (Z5 [true,true,false] c3.body) ⟨tm,h,[]⟩ fun x1 s=>x1=.nrm∧∃tm' z',s=⟨tm',z',[]⟩∧h.Sub z':=by
 obtain⟨R,hR⟩:∃R,Z5 [true,true,false,true,true,true,true,true,false,true,true] c3.body=R:=⟨_,rfl⟩
 have r1:= @lim2_ev
 rw[hR] at r1
 simp only[Z5,c3] at hR
 simp only[Z5,c3]
 rw[hR]
 clear hR
 obtain⟨xs,ax,e1,e2⟩:=hx
 have hlx:=ax.lenE
 rw[e1,hS] at hlx
 simp(disch:=omega)only[go_sem,t1,hlx]
 refine Zk 22 (fun i s=>∃tm z,s=⟨tm,z,[]⟩∧h.Sub z∧tm.E 57=x∧tm.E 58=.ii 22∧tm.E 59=.ii (i:Int)) ?_ ?_ (i:=0) (Nat.zero_le _)
  ⟨_,_,rfl,H.Sub.refl hw,yeb,yeb,yeu⟩
 ·clear t1
  rintro i s hi ⟨tm,z,rfl,sz,t57,t58,t59⟩
  have hi':(i:Int)<22:=by omega
  obtain⟨b,o,c,cs,_,e5,e3,_,_,e4⟩:=(ax.mono sz).at (k:=i) yec
  have e4:=e4 yec
  have hlS:i<S.length:=by omega
  have hm:=hl _ (List.getElem_mem hlS)
  have av:=e2 i _ _ (List.getElem?_eq_getElem yec) (List.getElem?_eq_getElem hlS)
  simp(disch:=omega)only[go_sem,t57,t58,t59,hi',e3 (Zb i),e5,e4]
  refine(r1 hw sz hi av hm.1 hm.2 _ yeb yeb yer yes yez).mono fun x1 s hx1=>?_
  clear t57 t58 t59
  obtain⟨rfl,tm,z2,rfl,s2,t57,t58,t59⟩:=hx1
  have v1:wr .i64 ((i:Int)+1)=((i+1:Nat):Int):=Zj yec
  simp(disch:=omega)only[go_sem,t59,v1]
  exact⟨_,_,rfl,s2,yer,yes,yeb⟩
 ·rintro s ⟨tm,z,rfl,sz,t57,t58,t59⟩
  have t59:tm.E 59=.ii 22:=t59
  simp(disch:=omega)only[go_sem,t58,t59,Int.lt_irrefl]
  exact⟨_,_,rfl,sz⟩
end Go.Ab.Tryz
namespace Go.Ab
theorem ZW.putAt {h0 h:H}{R:V}{sz:Nat}{rows:List (List V)}(o:ZW h0 h R sz rows)(hw0:h0.wf){k:Nat}{row:List V}(hk:rows[k]? =some row){j:Nat}{pre post:List V}{old v:V}(hrow:row=pre++old::post)(hj:pre.length=j)(hv:v.one=true):
  ∃b h',Zq R b∧h.put b (k*sz+j) [v]=some h'∧ZW h0 h' R sz (rows.set k (pre++v::post))∧Zh (fun c=>c=b) h h'∧h'.next=h.next∧(∀{u:V},nat? u=some k→Yw sz R u=some (.ptr b (k*sz)))∧∃cs,h.cells b=some cs∧nth (k*sz+j) cs=some old:=by
 obtain⟨s0,hsz,o⟩:=o
 have hkl:k<rows.length:=by
  rcases Nat.lt_or_ge k rows.length with q|q
  ·exact q
  ·rw[List.getElem?_eq_none q] at hk;cases hk
 have hrl:row.length=sz:=hsz _ (List.mem_of_getElem? hk)
 have hal:(pre++v::post).length=sz:=by rw[←hrl,hrow];simp
 have hall:∀r∈rows.set k (pre++v::post),r.length=sz:=fun r hr=>by
  rcases List.mem_or_eq_of_mem_set hr with hr|hr
  ·exact hsz r hr
  ·rw[hr];exact hal
 have e0:rows=rows.take k++row::rows.drop (k+1):=by
  have h2:=(List.take_append_drop k rows).symm
  rw[List.drop_eq_getElem_cons hkl] at h2
  rw[List.getElem?_eq_getElem hkl] at hk
  cases hk;exact h2
 have e1:rows.set k (pre++v::post)=rows.take k++(pre++v::post)::rows.drop (k+1):=by rw[List.set_eq_take_append_cons_drop,if_pos hkl]
 have hl:(rows.take k).flatten.length=k*sz:=by
  rw[ZA (sz:=sz) (rows:=rows.take k) fun r hr=>hsz r (List.mem_of_mem_take hr),List.length_take,Nat.min_eq_left yec]
 have f0:rows.flatten=((rows.take k).flatten++pre)++[old]++(post++(rows.drop (k+1)).flatten):=by
  have:=congrArg List.flatten e0
  rw[List.flatten_append,List.flatten_cons,hrow] at this
  simpa using this
 have f1:(rows.set k (pre++v::post)).flatten=((rows.take k).flatten++pre)++[v]++(post++(rows.drop (k+1)).flatten):=by
  have:=congrArg List.flatten e1
  rw[List.flatten_append,List.flatten_cons] at this
  simpa using this
 have hpl:((rows.take k).flatten++pre).length=k*sz+j:=by rw[List.length_append,hl,hj]
 have hput:∀rest:List V,Ye (k*sz+j) [v] (rows.flatten++rest)=some ((rows.set k (pre++v::post)).flatten++rest):=fun rest=>by
  have:=WZ (pre:=(rows.take k).flatten++pre) (new:=[v]) (old:=[old]) (rest:=post++(rows.drop (k+1)).flatten++rest) rfl
  rw[hpl] at this
  rw[f0,f1]
  simpa using this
 have hnth:∀rest:List V,nth (k*sz+j) (rows.flatten++rest)=some old:=fun rest=>by
  rw[Vx,f0,List.append_assoc,List.append_assoc,←hpl,List.getElem?_append_right (Nat.le_refl _),Nat.sub_self]
  rfl
 have hone:ZB [v]=true:=by rw[Yz,hv];rfl
 have hls:(rows.set k (pre++v::post)).length=rows.length:=List.length_set ..
 rcases o with⟨rfl,e⟩|⟨b,rfl,l1,l2,hb⟩|⟨b,c,rest,rfl,l1,l2,hb,hc,hle⟩
 ·rw[e] at hkl;exact absurd hkl (Nat.not_lt_zero _)
 ·have hp:=hput []
  rw[List.append_nil,List.append_nil] at hp
  refine⟨b,_,⟨_,_,_,rfl⟩,H.put_gr hone hb hp,⟨s0.set l1 l2 hw0 _,hall,.inr (.inl ⟨b,by rw[hls],l1,by rw[H.next_set];exact l2,get_set_same rfl⟩)⟩,Zh.set h b _,H.next_set _ _ _,fun hu=>by rw[YR hu hkl];simp,_,Za hb,by have:=hnth [];rwa[List.append_nil] at this⟩
 ·refine⟨b,_,⟨_,_,_,rfl⟩,H.put_rw hone hb (hput rest),⟨s0.set l1 l2 hw0 _,hall,.inr (.inr ⟨b,c,rest,by rw[hls],l1,by rw[H.next_set];exact l2,get_set_same rfl,by rw[hls];exact hc,by rw[hls];exact hle⟩)⟩,Zh.set h b _,H.next_set _ _ _,fun hu=>by rw[YR hu hkl];simp,_,Za hb,hnth rest⟩
end Go.Ab
namespace Go.Ab.Tryz
open Go.Proofs
theorem remN (n m:Nat)(h:0<m):Yc .rem (.ii (n:Int)) (.ii (m:Int))=some (.ii ((n%m:Nat):Int)):=by
 rw[Z1 .i64 yec,Int.tmod_eq_emod_of_nonneg yec];rfl
theorem quoN (n m:Nat)(h:0<m)(hn:n≤1000000):Yc .quo (.ii (n:Int)) (.ii (m:Int))=some (.ii ((n/m:Nat):Int)):=by
 have:n/m≤n:=Nat.div_le_self n m
 rw[Yx .i64 yec,Int.tdiv_eq_ediv_of_nonneg yec,←Int.natCast_ediv]
 generalize n/m=d at this⊢
 rw[Zo yec yec]
structure Bx (h0 z:H)(p:Nat)(v:Nat→V)(a:At):Prop where
 s:h0.Sub z
 sl:Sl6 h0 z (p+1) v sz6 (ZE a [] [] [])
 g:z.get p=some (.bk [.ii a.mins,.ii a.evs,v 0,v 1,v 2])
 lo:h0.next≤p
 nx:p+1≤z.next
section
variable {h0 z z':H} {p:Nat} {v:Nat→V} {a a':At}
theorem Bx.mono (k:Bx h0 z p v a)(s:z.Sub z'):Bx h0 z' p v a:=⟨k.s.trans s,k.sl.mono s,s.get k.g,k.lo,Nat.le_trans k.nx s.next⟩
theorem Bx.at (k:Bx h0 z p v a)(l1:a.cks.length≤100)(l2:a.rds.length≤100)(l3:a.gps.length≤100):ZP z (v 0) (v 1) (v 2) a:=
 ⟨(k.sl.o 0 yeh).sl yeI,(k.sl.o 1 yeh).sl (by show(a.rds.map encR).length≤_;rw[List.length_map];omega),(k.sl.o 2 yeh).sl (by show(a.gps.map ZF).length≤_;rw[List.length_map];omega)⟩
theorem Sl6.grow {n1:Nat}(k:Sl6 h0 z n1 v sz6 (ZE a [] [] []))(hw:h0.wf)(hn:n1≤z.next){i:Nat}(hi:i<3){by_:Nat}(hb:by_≤32){r:List V}(e:∀j,j<6→Ys (ZE a [] [] []) i (ZE a [] [] [] i++[r]) j=ZE a' [] [] [] j)(hr:r.length=sz6 i)(ho:ZB r=true)(hl:(ZE a [] [] [] i).length≤100){Q:V→H→Prop}
  (q:∀w z5,w.one=true→Zh (fun c=>n1≤c) z z5→n1≤z5.next→Sl6 h0 z5 n1 (Ys v i w) sz6 (ZE a' [] [] [])→Q w z5):
  P2 (Z2 (z.add (.bk r)) (sz6 i) by_ (v i) (.sl z.next 0 1 (.fix 1))) Q:=by
 have sA:=(H.Sub.refl (k.o i yec).1.wf).add (.bk r)
 have kA:=k.mono sA
 have hz:0<sz6 i:=by rcases(by omega:i=0∨i=1∨i=2) with rfl|rfl|rfl<;>decide
 have sn:Zg (z.add (.bk r)) (.sl z.next 0 1 (.fix 1)) (sz6 i) [r]:=Zg.new _ rfl rfl yew (by simpa using hr) yew
 have hm:((ZE a [] [] [] i).length+1)*by_≤101*32:=Nat.mul_le_mul yec hb
 have ln:=sA.next
 refine(kA.o i yec).app1 (by_:=by_) (r:=r) hw hr hz sn ho yec yec fun w z5 o5 n5 k5=>?_
 exact q w z5 o5.one (((Zh.of sA (fun c=>n1≤c)).trans k5).mono fun c hc=>hc.elim id fun hb=>k.lo i yec c hb) (by have:=k5.1;omega) ((kA.app yec o5 n5 yec k5).rw e)
theorem Bx.app (k:Bx h0 z p v a)(hw:h0.wf){i:Nat}(hi:i<3){by_:Nat}(hb:by_≤32){r:List V}(e:∀j,j<6→Ys (ZE a [] [] []) i (ZE a [] [] [] i++[r]) j=ZE a' [] [] [] j)(e1:a'.mins=a.mins)(e2:a'.evs=a.evs)(hr:r.length=sz6 i)(ho:ZB r=true)(hl:(ZE a [] [] [] i).length≤100){Q:V→H→Prop}
  (q:∀w z5,w.one=true→z5.get p=some (.bk [.ii a.mins,.ii a.evs,v 0,v 1,v 2])→Bx h0 (z5.set p (.bk [.ii a.mins,.ii a.evs,Ys v i w 0,Ys v i w 1,Ys v i w 2])) p (Ys v i w) a'→Q w z5):
  P2 (Z2 (z.add (.bk r)) (sz6 i) by_ (v i) (.sl z.next 0 1 (.fix 1))) Q:=by
 refine Sl6.grow k.sl hw k.nx hi hb e hr ho hl fun w z5 ow k5 n5 sl5=>?_
 have g5:=k5.2 _ _ k.g yec
 have s5:=(sl5.o 0 yeh).1.set (b:=p) k.lo yec hw (.bk [.ii a.mins,.ii a.evs,Ys v i w 0,Ys v i w 1,Ys v i w 2])
 exact q w z5 ow g5 ⟨s5,sl5.keep (Zh.set z5 p _) s5 fun b hb=>by omega,by rw[get_set_same rfl,e1,e2],k.lo,by rw[H.next_set];omega⟩
theorem Bx.appC (k:Bx h0 z p v a)(hw:h0.wf){x0 x1 x2 x3:Int}(hl:a.cks.length≤100){Q:V→H→Prop}
  (q:∀w z5,w.one=true→z5.get p=some (.bk [.ii a.mins,.ii a.evs,v 0,v 1,v 2])→Bx h0 (z5.set p (.bk [.ii a.mins,.ii a.evs,Ys v 0 w 0,Ys v 0 w 1,Ys v 0 w 2])) p (Ys v 0 w) {a with cks:=a.cks++[⟨x0,x1,x2,x3⟩]}→Q w z5):
  P2 (Z2 (z.add (.bk [.ii x0,.ii x1,.ii x2,.ii x3])) 4 32 (v 0) (.sl z.next 0 1 (.fix 1))) Q:=
 k.app hw (i:=0) yeh (by_:=32) yeh (r:=Z9 ⟨x0,x1,x2,x3⟩) rows0 rfl rfl rfl rfl yeE q
theorem Bx.appR (k:Bx h0 z p v a)(hw:h0.wf){x0 x1 x2:Int}(hl:a.rds.length≤100){Q:V→H→Prop}
  (q:∀w z5,w.one=true→z5.get p=some (.bk [.ii a.mins,.ii a.evs,v 0,v 1,v 2])→Bx h0 (z5.set p (.bk [.ii a.mins,.ii a.evs,Ys v 1 w 0,Ys v 1 w 1,Ys v 1 w 2])) p (Ys v 1 w) {a with rds:=a.rds++[⟨x0,x1,x2⟩]}→Q w z5):
  P2 (Z2 (z.add (.bk [.ii x0,.ii x1,.ii x2])) 3 24 (v 1) (.sl z.next 0 1 (.fix 1))) Q:=
 k.app hw (i:=1) yeh (by_:=24) yeh (r:=encR ⟨x0,x1,x2⟩) rows1 rfl rfl rfl rfl yeF q
theorem Bx.appG (k:Bx h0 z p v a)(hw:h0.wf){x0 x1 x2 x3:Int}(hl:a.gps.length≤100){Q:V→H→Prop}
  (q:∀w z5,w.one=true→z5.get p=some (.bk [.ii a.mins,.ii a.evs,v 0,v 1,v 2])→Bx h0 (z5.set p (.bk [.ii a.mins,.ii a.evs,Ys v 2 w 0,Ys v 2 w 1,Ys v 2 w 2])) p (Ys v 2 w) {a with gps:=a.gps++[⟨x0,x1,x2,x3⟩]}→Q w z5):
  P2 (Z2 (z.add (.bk [.ii x0,.ii x1,.ii x2,.ii x3])) 4 32 (v 2) (.sl z.next 0 1 (.fix 1))) Q:=
 k.app hw (i:=2) yeh (by_:=32) yeh (r:=ZF ⟨x0,x1,x2,x3⟩) rows2 rfl rfl rfl rfl yeG q
end
set_option maxRecDepth 8000 in
set_option maxHeartbeats 8000000 in
theorem cl_ev {h0 h:H}(hw:h0.wf){p n:Nat}(hn:n<60){v:Nat→V}{E:Int}{M:Int}(k:Bx h0 h p v ⟨M,E,[],[],[]⟩)(tm:Go.Ab.T V){v172:V}(t14:(Opd.t 14).ev tm=.int .i64 (n:Int))(t15:(Opd.t 15).ev tm=.ptr p 0)(t172:(Opd.t 172).ev tm=v172):
  W fnG Zi 451 3 none (Z5 [true,true,true,false,true,true,true,true,true,false,true,true,true,false] c3.body) ⟨tm,h,[]⟩ fun x1 s=>x1=.nrm∧∃tm' z v a,s=⟨tm',z,[]⟩∧Bx h0 z p v a∧a.evs=E∧a.cks.length≤2∧a.rds=[]∧a.gps=[]∧
   (Opd.t 14).ev tm'=.int .i64 (n:Int)∧(Opd.t 15).ev tm'=.ptr p 0∧(Opd.t 172).ev tm'=v172:=by
 have q3:Yc .quo (.int .i64 (n:Int)) (.int .i64 3)=some (.int .i64 ((n/3:Nat):Int)):=quoN n 3 yeh yec
 have r3:Yc .rem (.int .i64 ((n/3:Nat):Int)) (.int .i64 3)=some (.int .i64 ((n/3%3:Nat):Int)):=remN (n/3) 3 yeh
 have r5:∀a,Yc .rem (.int .i64 a) (.int .i64 5)=some (.int .i64 (a.tmod 5)):=fun a=>Z1 .i64 yeh
 have r2:∀a,Yc .rem (.int .i64 a) (.int .i64 2)=some (.int .i64 (a.tmod 2)):=fun a=>Z1 .i64 yeh
 have hc:n/3%3≤2:=by have:=Nat.mod_lt (n/3) (show 3>0 by decide);omega
 generalize n/3%3=c at r3 hc
 simp -implicitDefEqProofs(maxSteps:=999999)(disch:=first|with_reducible rfl|omega|(simp only[nA,nS,nD]<;>omega)|fail)only[Z5,c3,go_sem,t14,q3,r3]
 refine Zk c (fun i s=>∃tm z v a,s=⟨tm,z,[]⟩∧Bx h0 z p v a∧a.evs=E∧a.cks.length=i∧a.rds=[]∧a.gps=[]∧(Opd.t 14).ev tm=.int .i64 (n:Int)∧(Opd.t 15).ev tm=.ptr p 0∧(Opd.t 172).ev tm=v172∧(Opd.t 184).ev tm=.int .i64 (c:Int)∧(Opd.t 185).ev tm=.int .i64 (i:Int)) ?_ ?_ (i:=0) (Nat.zero_le _)
  ⟨_,_,_,_,rfl,k,rfl,rfl,rfl,rfl,yef,yeq,yel,yeb,yeu⟩
 ·clear t14 t15 t172 k
  rintro i s hi ⟨tm,z,v,a,rfl,k,e1,e2,e3,e4,t14,t15,t172,t184,t185⟩
  have hi':(i:Int)<(c:Int):=by omega
  have v1:wr .i64 ((i:Int)+1)=((i+1:Nat):Int):=Zj yec
  simp -implicitDefEqProofs(maxSteps:=999999)(disch:=first|with_reducible rfl|omega|(simp only[nA,nS,nD]<;>omega)|fail)only[go_sem,t14,t15,t184,t185,hi',r5,r2,Za k.g]
  refine k.appC hw yec fun w z5 ow g5 kb=>?_
  simp -implicitDefEqProofs(maxSteps:=999999)(disch:=first|with_reducible rfl|omega|(simp only[nA,nS,nD]<;>omega)|fail)only[go_sem,t14,t15,t184,t185,ow,cells_one ow,g5,v1]
  exact⟨_,_,_,_,rfl,kb,e1,by simp[e2],e3,e4,yef,yeq,yel,(by simp[Zm,Zd,t184]<;>rfl),yeb⟩
 ·clear t14 t15 t172 k
  rintro s ⟨tm,z,v,a,rfl,k,e1,e2,e3,e4,t14,t15,t172,t184,t185⟩
  simp -implicitDefEqProofs(maxSteps:=999999)(disch:=first|with_reducible rfl|omega|(simp only[nA,nS,nD]<;>omega)|fail)only[go_sem,t184,t185,Int.lt_irrefl]
  exact⟨_,_,_,_,rfl,k,e1,by omega,e3,e4,yef,yeq,yel⟩
set_option maxRecDepth 8000 in
set_option maxHeartbeats 8000000 in
theorem rl_ev {h0 h:H}(hw:h0.wf){p n:Nat}(hn:n<60){v:Nat→V}{a0:At}(k:Bx h0 h p v a0)(e1:a0.evs≠0)(e2:a0.cks.length≤2)(e3:a0.rds=[])(e4:a0.gps=[])(tm:Go.Ab.T V){v172:V}(t14:(Opd.t 14).ev tm=.int .i64 (n:Int))(t15:(Opd.t 15).ev tm=.ptr p 0)(t172:(Opd.t 172).ev tm=v172):
  W fnG Zi 451 3 none (Z5 [true,true,true,false,true,true,true,true,true,false,true,true,true,true,false] c3.body) ⟨tm,h,[]⟩ fun x1 s=>x1=.nrm∧∃tm' z v a,s=⟨tm',z,[]⟩∧Bx h0 z p v a∧a.evs≠0∧a.cks.length≤2∧a.rds.length≤5∧a.gps=[]∧
   (Opd.t 14).ev tm'=.int .i64 (n:Int)∧(Opd.t 15).ev tm'=.ptr p 0∧(Opd.t 172).ev tm'=v172:=by
 have r5:Yc .rem (.int .i64 (n:Int)) (.int .i64 5)=some (.int .i64 ((n%5:Nat):Int)):=remN n 5 yeh
 have r9:∀a,Yc .rem (.int .i64 a) (.int .i64 9)=some (.int .i64 (a.tmod 9)):=fun a=>Z1 .i64 yeh
 have hc:n%5≤4:=by omega
 generalize n%5=c at r5 hc
 simp -implicitDefEqProofs(maxSteps:=999999)(disch:=first|with_reducible rfl|omega|(simp only[nA,nS,nD]<;>omega)|fail)only[Z5,c3,go_sem,t14,r5]
 refine Zk c (fun i s=>∃tm z v a,s=⟨tm,z,[]⟩∧Bx h0 z p v a∧a.evs≠0∧a.cks.length≤2∧a.rds.length≤i∧a.gps=[]∧(Opd.t 14).ev tm=.int .i64 (n:Int)∧(Opd.t 15).ev tm=.ptr p 0∧(Opd.t 172).ev tm=v172∧(Opd.t 222).ev tm=.int .i64 (c:Int)∧(Opd.t 223).ev tm=.int .i64 (i:Int)) ?_ ?_ (i:=0) (Nat.zero_le _)
  ⟨_,_,_,_,rfl,k,e1,e2,by rw[e3];exact Nat.le_refl _,e4,yef,yeq,yel,yeb,yeu⟩
 ·clear t14 t15 t172 k e1 e2 e3 e4
  rintro i s hi ⟨tm,z,v,a,rfl,k,e1,e2,e3,e4,t14,t15,t172,t222,t223⟩
  have hi':(i:Int)<(c:Int):=by omega
  have v1:wr .i64 ((i:Int)+1)=((i+1:Nat):Int):=Zj yec
  have lc:=((k.sl.o 0 yeh).sl yeI).lenE
  have lc:q_len (v 0)=some (.int .i64 (a.cks.length:Int)):=by simpa[ZE] using lc
  by_cases h0c:0<a.cks.length
  ·have hgt:0<(a.cks.length:Int):=by omega
   have rl:Yc .rem (.int .i64 (i:Int)) (.int .i64 (a.cks.length:Int))=some (.int .i64 _):=Z1 .i64 yec
   have qi:Yc .quo (.int .i64 (n:Int)) (.int .i64 ((i+1:Nat):Int))=some (.int .i64 _):=Yx .i64 yec
   have re:∀x,Yc .rem (.int .i64 x) (.int .i64 a.evs)=some (.int .i64 (x.tmod a.evs)):=fun x=>Z1 .i64 e1
   have lz:=k.nx
   simp -implicitDefEqProofs(maxSteps:=999999)(disch:=first|with_reducible rfl|omega|(simp only[nA,nS,nD]<;>omega)|fail)only[go_sem,t14,t15,t222,t223,hi',Za k.g,lc,hgt,rl,v1,qi,re,r9]
   refine k.appR hw yec fun w z5 ow g5 kb=>?_
   simp -implicitDefEqProofs(maxSteps:=999999)(disch:=first|with_reducible rfl|omega|(simp only[nA,nS,nD]<;>omega)|fail)only[go_sem,t14,t15,t222,t223,ow,cells_one ow,g5,v1,Za g5,Za k.g,lc,hgt,rl,qi,re,r9]
   exact⟨_,_,_,_,rfl,kb,e1,e2,by simp;omega,e4,yef,yeq,yel,(by simp[Zm,Zd,t222]<;>rfl),yeb⟩
  ·have hgt:¬0<(a.cks.length:Int):=by omega
   simp -implicitDefEqProofs(maxSteps:=999999)(disch:=first|with_reducible rfl|omega|(simp only[nA,nS,nD]<;>omega)|fail)only[go_sem,t14,t15,t222,t223,hi',Za k.g,lc,hgt,v1]
   exact⟨_,_,_,_,rfl,k,e1,e2,by omega,e4,yef,yeq,yel,(by simp[Zm,Zd,t222]<;>rfl),yeb⟩
 ·clear t14 t15 t172 k e1 e2 e3 e4
  rintro s ⟨tm,z,v,a,rfl,k,e1,e2,e3,e4,t14,t15,t172,t222,t223⟩
  simp -implicitDefEqProofs(maxSteps:=999999)(disch:=first|with_reducible rfl|omega|(simp only[nA,nS,nD]<;>omega)|fail)only[go_sem,t222,t223,Int.lt_irrefl]
  exact⟨_,_,_,_,rfl,k,e1,e2,by omega,e4,yef,yeq,yel⟩
set_option maxRecDepth 8000 in
set_option maxHeartbeats 8000000 in
theorem gl_ev {h0 h:H}(hw:h0.wf){p n:Nat}(hn:n<60){v:Nat→V}{a0:At}(k:Bx h0 h p v a0)(e1:a0.evs≠0)(e2:a0.cks.length≤2)(e3:a0.rds.length≤5)(e4:a0.gps=[])(tm:Go.Ab.T V){v172:V}(t14:(Opd.t 14).ev tm=.int .i64 (n:Int))(t15:(Opd.t 15).ev tm=.ptr p 0)(t172:(Opd.t 172).ev tm=v172):
  W fnG Zi 451 3 none (Z5 [true,true,true,false,true,true,true,true,true,false,true,true,true,true,true,false] c3.body) ⟨tm,h,[]⟩ fun x1 s=>x1=.nrm∧∃tm' z v a,s=⟨tm',z,[]⟩∧Bx h0 z p v a∧a.cks.length≤2∧a.rds.length≤5∧a.gps.length≤2∧
   (Opd.t 14).ev tm'=.int .i64 (n:Int)∧(Opd.t 15).ev tm'=.ptr p 0∧(Opd.t 172).ev tm'=v172:=by
 have q2:Yc .quo (.int .i64 (n:Int)) (.int .i64 2)=some (.int .i64 ((n/2:Nat):Int)):=quoN n 2 yeh yec
 have r3:Yc .rem (.int .i64 ((n/2:Nat):Int)) (.int .i64 3)=some (.int .i64 ((n/2%3:Nat):Int)):=remN (n/2) 3 yeh
 have r5:∀a,Yc .rem (.int .i64 a) (.int .i64 5)=some (.int .i64 (a.tmod 5)):=fun a=>Z1 .i64 yeh
 have hc:n/2%3≤2:=by have:=Nat.mod_lt (n/2) (show 3>0 by decide);omega
 generalize n/2%3=c at r3 hc
 simp -implicitDefEqProofs(maxSteps:=999999)(disch:=first|with_reducible rfl|omega|(simp only[nA,nS,nD]<;>omega)|fail)only[Z5,c3,go_sem,t14,q2,r3]
 refine Zk c (fun i s=>∃tm z v a,s=⟨tm,z,[]⟩∧Bx h0 z p v a∧a.evs≠0∧a.cks.length≤2∧a.rds.length≤5∧a.gps.length≤i∧(Opd.t 14).ev tm=.int .i64 (n:Int)∧(Opd.t 15).ev tm=.ptr p 0∧(Opd.t 172).ev tm=v172∧(Opd.t 257).ev tm=.int .i64 (c:Int)∧(Opd.t 258).ev tm=.int .i64 (i:Int)) ?_ ?_ (i:=0) (Nat.zero_le _)
  ⟨_,_,_,_,rfl,k,e1,e2,e3,by rw[e4];exact Nat.le_refl _,yef,yeq,yel,yeb,yeu⟩
 ·clear t14 t15 t172 k e1 e2 e3 e4
  rintro i s hi ⟨tm,z,v,a,rfl,k,e1,e2,e3,e4,t14,t15,t172,t257,t258⟩
  have hi':(i:Int)<(c:Int):=by omega
  have v1:wr .i64 ((i:Int)+1)=((i+1:Nat):Int):=Zj yec
  have re:∀x,Yc .rem (.int .i64 x) (.int .i64 a.evs)=some (.int .i64 (x.tmod a.evs)):=fun x=>Z1 .i64 e1
  have lz:=k.nx
  simp -implicitDefEqProofs(maxSteps:=999999)(disch:=first|with_reducible rfl|omega|(simp only[nA,nS,nD]<;>omega)|fail)only[go_sem,t14,t15,t257,t258,hi',Za k.g,re,r5]
  refine k.appG hw yec fun w z5 ow g5 kb=>?_
  simp -implicitDefEqProofs(maxSteps:=999999)(disch:=first|with_reducible rfl|omega|(simp only[nA,nS,nD]<;>omega)|fail)only[go_sem,t14,t15,t257,t258,ow,cells_one ow,g5,v1,Za g5,Za k.g,re,r5]
  exact⟨_,_,_,_,rfl,kb,e1,e2,e3,by simp;omega,yef,yeq,yel,(by simp[Zm,Zd,t257]<;>rfl),yeb⟩
 ·clear t14 t15 t172 k e1 e2 e3 e4
  rintro s ⟨tm,z,v,a,rfl,k,e1,e2,e3,e4,t14,t15,t172,t257,t258⟩
  simp -implicitDefEqProofs(maxSteps:=999999)(disch:=first|with_reducible rfl|omega|(simp only[nA,nS,nD]<;>omega)|fail)only[go_sem,t257,t258,Int.lt_irrefl]
  exact⟨_,_,_,_,rfl,k,e2,e3,by omega,yef,yeq,yel⟩
end Go.Ab.Tryz
namespace Go.Ab.Tryz
open Go.Proofs
set_option maxRecDepth 8000 in
set_option maxHeartbeats 8000000 in
theorem ask2_ev {z:H}(hw:z.wf){p q n:Nat}(hn:n<60){a:At}{C R G S Ga Tm:V}{ss gg tt:List Int}(xx:ZP z C R G a)(tr:WF z S Ga Tm ss gg tt)(gp:z.cells p=some (atV a C R G))(gq:z.cells q=some [S,Ga,Tm])(tm:Go.Ab.T V){v172:V}(t14:(Opd.t 14).ev tm=.int .i64 (n:Int))(t15:(Opd.t 15).ev tm=.ptr p 0)(t21:(Opd.t 21).ev tm=.ptr q 0)(t172:(Opd.t 172).ev tm=v172):
  W fnG Zi 451 3 none (Z5 [true,true,true,false,true,true,true,true,true,false,true,true,true,true,true,true,true,true] c3.body) ⟨tm,z,[]⟩ fun x1 s=>x1=.nrm∧∃tm' z',s=⟨tm',z',[]⟩∧z.Sub z'∧(Opd.t 172).ev tm'=v172:=by
 have r3:∀n:Nat,Yc .rem (.int .i64 (n:Int)) (.int .i64 3)=some (.int .i64 ((n%3:Nat):Int)):=fun n=>remN n 3 yeh
 have r4:Yc .rem (.int .i64 (n:Int)) (.int .i64 4)=some (.int .i64 ((n%4:Nat):Int)):=remN n 4 yeh
 have r7:Yc .rem (.int .i64 (n:Int)) (.int .i64 7)=some (.int .i64 ((n%7:Nat):Int)):=remN n 7 yeh
 have q2:Yc .quo (.int .i64 (n:Int)) (.int .i64 2)=some (.int .i64 ((n/2:Nat):Int)):=quoN n 2 yeh yec
 have hm:n%4<4:=Nat.mod_lt _ yeh
 generalize n%4=m at r4 hm
 have lt:∀{b cs},z.cells b=some cs→b<z.next:=fun e=>(H.cells_eq e).elim fun kd e=>hw _ _ e
 have lp:=lt gp
 have lq:=lt gq
 obtain⟨z4,hz4⟩:∃z4,(((z.add (.cells .rw [.int .i64 0])).add (.cells .rw [.int .i64 1,.int .i64 0])).add (.cells .rw [.int .i64 2,.int .i64 2])).add (.cells .rw [.nils,.sl z.next 0 1 (.fix 1),.sl (z.next+1) 0 2 (.fix 2),.sl (z.next+1+1) 0 2 (.fix 2)])=z4:=⟨_,rfl⟩
 have s4:z.Sub z4:=by rw[←hz4];exact yea
 have e0:z4.get z.next=some (.cells .rw [.int .i64 0]):=by rw[←hz4];simp -implicitDefEqProofs(maxSteps:=999999)(disch:=first|with_reducible rfl|omega|(simp only[nA,nS,nD]<;>omega)|fail)only[go_sem]
 have e1:z4.get (z.next+1)=some (.cells .rw [.int .i64 1,.int .i64 0]):=by rw[←hz4];simp -implicitDefEqProofs(maxSteps:=999999)(disch:=first|with_reducible rfl|omega|(simp only[nA,nS,nD]<;>omega)|fail)only[go_sem]
 have e3:z4.cells (z.next+1+1+1)=some [.nils,.sl z.next 0 1 (.fix 1),.sl (z.next+1) 0 2 (.fix 2),.sl (z.next+1+1) 0 2 (.fix 2)]:=by rw[←hz4];simp -implicitDefEqProofs(maxSteps:=999999)(disch:=first|with_reducible rfl|omega|(simp only[nA,nS,nD]<;>omega)|fail)only[go_sem]
 have e2:z4.get (z.next+1+1)=some (.cells .rw [.int .i64 2,.int .i64 2]):=by rw[←hz4];simp -implicitDefEqProofs(maxSteps:=999999)(disch:=first|with_reducible rfl|omega|(simp only[nA,nS,nD]<;>omega)|fail)only[go_sem]
 obtain⟨w,l,hv,hs⟩:∃(w:V) (l:List Int),nth m [V.nils,.sl z.next 0 1 (.fix 1),.sl (z.next+1) 0 2 (.fix 2),.sl (z.next+1+1) 0 2 (.fix 2)]=some w∧Zg z4 w 1 (l.map encI):=by
  rcases(by omega:m=0∨m=1∨m=2∨m=3) with rfl|rfl|rfl|rfl
  ·exact⟨_,[],rfl,(tr_nil z4).s⟩
  ·exact⟨_,[0],rfl,Zg.blk _ e0 rfl rfl yev yew⟩
  ·exact⟨_,[1,0],rfl,Zg.blk _ e1 rfl rfl yev yew⟩
  ·exact⟨_,[2,2],rfl,Zg.blk _ e2 rfl rfl yev yew⟩
 have im:∀b,Yw 1 (.sl b 0 4 (.fix 4)) (.int .i64 (m:Int))=some (.ptr b m):=fun b=>by rw[YR (Zb m) hm];simp
 simp -implicitDefEqProofs(maxSteps:=999999)(disch:=first|with_reducible rfl|omega|(simp only[nA,nS,nD]<;>omega)|fail)only[Z5,c3,go_sem,t14,t15,t21,r3,r4,r7,q2,im,hv,gp,gq]
 rw[hz4]
 refine asked_ev s4.wf (xx.mono s4) ⟨_,_,_⟩ ⟨_,_,_,_⟩ (tr.mono s4) _ _ _ hs _ fun z5 s5=>?_
 have s45:=s4.trans s5
 simp -implicitDefEqProofs(maxSteps:=999999)(disch:=first|with_reducible rfl|omega|(simp only[nA,nS,nD]<;>omega)|fail)only[go_sem,t15,t21,e3,hv,s4.cells gp,s4.cells gq]
 first|exact⟨rfl,_,_,rfl,s45,yel⟩|exact⟨_,_,rfl,s45,yel⟩
set_option maxRecDepth 8000 in
set_option maxHeartbeats 8000000 in
theorem end2_ev {h0 h:H}{p n:Nat}(hn:n<60){v:Nat→V}{a:At}(k:Bx h0 h p v a)(l1:a.cks.length≤2)(l2:a.rds.length≤5)(l3:a.gps.length≤2)(tm:Go.Ab.T V){v172:V}(t14:(Opd.t 14).ev tm=.int .i64 (n:Int))(t15:(Opd.t 15).ev tm=.ptr p 0)(t172:(Opd.t 172).ev tm=v172):
  W fnG Zi 451 3 none (Z5 [true,true,true,false,true,true,true,true,true,false,true,true,true,true,true,true] c3.body) ⟨tm,h,[]⟩ fun x1 s=>x1=.nrm∧∃tm' z',s=⟨tm',z',[]⟩∧h0.Sub z'∧(Opd.t 172).ev tm'=v172:=by
 obtain⟨R,hR⟩:∃R,Z5 [true,true,true,false,true,true,true,true,true,false,true,true,true,true,true,true,true,true] c3.body=R:=⟨_,rfl⟩
 have r1:= @ask2_ev
 rw[hR] at r1
 simp only[Z5,c3] at hR
 simp only[Z5,c3]
 rw[hR]
 clear hR
 have w:=k.s.wf
 have xx:=k.at yec yec yec
 have np:=k.nx
 simp -implicitDefEqProofs(maxSteps:=999999)(disch:=first|with_reducible rfl|omega|(simp only[nA,nS,nD]<;>omega)|fail)only[go_sem,t15,Za k.g]
 refine Some_own w xx _ fun S Ga Tm h1 s1 tr oT dj=>?_
 have oS:=tr.s.one;have oA:=tr.g.one;have o1:=tr.t.one
 have s2:=(H.Sub.refl s1.wf).add (.cells .rw [S,Ga,Tm])
 have g21:(h1.add (.cells .rw [S,Ga,Tm])).cells h1.next=some [S,Ga,Tm]:=Zu rfl
 have r3:Yc .rem (.int .i64 (n:Int)) (.int .i64 3)=some (.int .i64 ((n%3:Nat):Int)):=remN n 3 yeh
 simp -implicitDefEqProofs(maxSteps:=999999)(disch:=first|with_reducible rfl|omega|(simp only[nA,nS,nD]<;>omega)|fail)only[go_sem,t14,t15,oS,oA,o1,r3]
 generalize h1.add (.cells .rw [S,Ga,Tm])=h2 at s2 g21⊢
 have s12:=s1.trans s2
 generalize(YY a).1=ss at tr oT
 generalize(YY a).2.1=gg at tr oT
 generalize(YY a).2.2=tt at tr oT
 have tr2:=tr.mono s2
 have lT:=tr2.t.lenE
 have ln:=s1.next
 have noq:∀(tm:Go.Ab.T V),(Opd.t 14).ev tm=.int .i64 (n:Int)→(Opd.t 15).ev tm=.ptr p 0→(Opd.t 21).ev tm=.ptr h1.next 0→(Opd.t 172).ev tm=v172→W fnG Zi 451 3 none R ⟨tm,h2,[]⟩ fun x1 s=>x1=.nrm∧∃tm' z',s=⟨tm',z',[]⟩∧h0.Sub z'∧(Opd.t 172).ev tm'=v172:=fun tm t14 t15 t21 t172=>
  (r1 s12.wf hn (xx.mono s12) tr2 (s12.cells (Za k.g)) g21 tm t14 t15 t21 t172).mono fun x1 s hx1=>by
   obtain⟨rfl,tm,z2,rfl,s3,t⟩:=hx1
   exact⟨rfl,_,_,rfl,k.s.trans (s12.trans s3),t⟩
 by_cases c3:((n%3:Nat):Int)=0
 ·cases tt with
  |nil=>
   have lT:q_len Tm=some (.int .i64 0):=lT
   simp -implicitDefEqProofs(maxSteps:=999999)(disch:=first|with_reducible rfl|omega|(simp only[nA,nS,nD]<;>omega)|fail)only[go_sem,c3,g21,lT,Int.lt_irrefl]
   exact noq _ yef yeq yeb yel
  |cons t0 ts=>
   have lp:0<((ts.length+1:Nat):Int):=by omega
   have lT:q_len Tm=some (.int .i64 ((ts.length+1:Nat):Int)):=lT
   obtain⟨b,z',hb,hput,o',k',n',hq',cs,hcs,hnth⟩:=(oT.mono s2).putAt (k:=0) (row:=encI t0) (j:=0) (pre:=[]) (post:=[]) (old:=.int .i64 t0) (v:=.int .i64 (wr .i64 (t0+1))) w rfl rfl rfl rfl
   simp only[Nat.zero_mul,Nat.add_zero] at hput hq' hnth
   have lb:=(oT.blk hb).2.1
   have kb:Zh (Zq Tm) h2 z':=k'.mono fun c e=>e▸hb
   have ot:((t0::ts).map encI).set 0 ([]++ .int .i64 (wr .i64 (t0+1))::[])=(wr .i64 (t0+1)::ts).map encI:=rfl
   rw[ot] at o'
   have l4:=o'.sl (by have:=tr.t.2.1;simpa using this)
   have tr3:WF z' S Ga Tm ss gg (wr .i64 (t0+1)::ts):=⟨Xf tr2.s kb fun c h1 h2=>(dj c h2).1 h1,Xf tr2.g kb fun c h1 h2=>(dj c h2).2 h1,l4⟩
   have g21':=k'.cells g21 yec
   simp -implicitDefEqProofs(maxSteps:=999999)(disch:=first|with_reducible rfl|omega|(simp only[nA,nS,nD]<;>omega)|fail)only[go_sem,c3,g21,lT,lp,hq' nat_zero,hcs,hnth,hput]
   refine(r1 o'.1.wf hn (xx.mono o'.1) tr3 (o'.1.cells (Za k.g)) g21' _ yef yeq yeb yel).mono fun x1 s hx1=>?_
   obtain⟨rfl,tm,z2,rfl,s3,t⟩:=hx1
   exact⟨rfl,_,_,rfl,k.s.trans (o'.1.trans s3),t⟩
 ·simp -implicitDefEqProofs(maxSteps:=999999)(disch:=first|with_reducible rfl|omega|(simp only[nA,nS,nD]<;>omega)|fail)only[go_sem,c3]
  exact noq _ yef yeq yeb yel
end Go.Ab.Tryz
namespace Go.Ab.Tryz
open Go.Proofs
set_option maxRecDepth 8000 in
set_option maxHeartbeats 8000000 in
theorem loop2_ev {h:H}(hw:h.wf)(tm:Go.Ab.T V):
  W fnG Zi 451 3 none (Z5 [true,true,true,false] c3.body) ⟨tm,h,[]⟩ fun x1 s=>x1=.nrm∧∃tm' z',s=⟨tm',z',[]⟩∧h.Sub z':=by
 obtain⟨R1,hR1⟩:∃R,Z5 [true,true,true,false,true,true,true,true,true,false,true,true,true,false] c3.body=R:=⟨_,rfl⟩
 obtain⟨R2,hR2⟩:∃R,Z5 [true,true,true,false,true,true,true,true,true,false,true,true,true,true,false] c3.body=R:=⟨_,rfl⟩
 obtain⟨R3,hR3⟩:∃R,Z5 [true,true,true,false,true,true,true,true,true,false,true,true,true,true,true,false] c3.body=R:=⟨_,rfl⟩
 obtain⟨R4,hR4⟩:∃R,Z5 [true,true,true,false,true,true,true,true,true,false,true,true,true,true,true,true] c3.body=R:=⟨_,rfl⟩
 have r1:= @cl_ev
 have r2:= @rl_ev
 have r3:= @gl_ev
 have r4:= @end2_ev
 rw[hR1] at r1;rw[hR2] at r2;rw[hR3] at r3;rw[hR4] at r4
 simp only[Z5,c3] at hR1 hR2 hR3 hR4
 simp only[Z5,c3]
 rw[hR1,hR2,hR3,hR4]
 clear hR1 hR2 hR3 hR4
 simp(disch:=omega)only[go_sem]
 refine Zk 60 (fun n s=>∃tm z,s=⟨tm,z,[]⟩∧h.Sub z∧tm.E 172=.ii (n:Int)) ?_ ?_ (i:=0) (Nat.zero_le _) ⟨_,_,rfl,H.Sub.refl hw,yeu⟩
 ·rintro n s hn ⟨tm,z,rfl,sz,t172⟩
  have hn':(n:Int)<60:=by omega
  have v1:wr .i64 ((n:Int)+1)=((n+1:Nat):Int):=Zj yec
  have m6:Yc .rem (.ii (n:Int)) (.ii 6)=some (.ii ((n%6:Nat):Int)):=remN n 6 yeh
  have m3:Yc .rem (.ii (n:Int)) (.ii 3)=some (.ii ((n%3:Nat):Int)):=remN n 3 yeh
  have w3:wr .i64 (1+((n%3:Nat):Int))=1+((n%3:Nat):Int):=Zo yec yec
  simp(disch:=omega)only[go_sem,t172,hn',m6,m3,w3]
  generalize wr .i64 (3+((n%6:Nat):Int))=M
  have k0:Bx z (z.add (.bk [.ii M,.ii (1+((n%3:Nat):Int)),.nils,.nils,.nils])) z.next (fun _=>.nils) ⟨M,1+((n%3:Nat):Int),[],[],[]⟩:=
   ⟨(H.Sub.refl sz.wf).add _,⟨fun i hi=>by
    have e:ZE ⟨M,1+((n%3:Nat):Int),[],[],[]⟩ [] [] [] i=[]:=by rcases(by omega:i=0∨i=1∨i=2∨i=3∨i=4∨i=5) with rfl|rfl|rfl|rfl|rfl|rfl<;>rfl
    rw[e];exact(Zx.nil ((H.Sub.refl sz.wf).add _) _).c,fun i hi b hb=>(Zy hb).elim,fun i j _ _ _ b hb=>(Zy hb).elim⟩,Zc rfl,Nat.le_refl _,by rw[H.next_add];exact Nat.le_refl _⟩
  refine(r1 sz.wf hn k0 _ (v172:=.ii (n:Int)) yeb yeb yel).mono fun x1 s hx1=>?_
  obtain⟨rfl,tm,z1,v1',a1,rfl,k1,e1,e2,e3,e4,t14,t15,t172⟩:=hx1
  simp(disch:=omega)only[go_sem]
  refine(r2 sz.wf hn k1 (by rw[e1];omega) e2 e3 e4 _ t14 t15 t172).mono fun x1 s hx1=>?_
  obtain⟨rfl,tm,z2,v2,a2,rfl,k2,e1,e2,e3,e4,t14,t15,t172⟩:=hx1
  simp(disch:=omega)only[go_sem]
  refine(r3 sz.wf hn k2 e1 e2 e3 e4 _ t14 t15 t172).mono fun x1 s hx1=>?_
  obtain⟨rfl,tm,z3,v3,a3,rfl,k3,e2,e3,e4,t14,t15,t172⟩:=hx1
  simp(disch:=omega)only[go_sem]
  refine(r4 hn k3 e2 e3 e4 _ t14 t15 t172).mono fun x1 s hx1=>?_
  obtain⟨rfl,tm,z4,rfl,s4,t172⟩:=hx1
  simp(disch:=omega)only[go_sem,t172,v1]
  exact⟨_,_,rfl,sz.trans s4,yeb⟩
 ·rintro s ⟨tm,z,rfl,sz,t172⟩
  have t172:tm.E 172=.ii 60:=t172
  simp(disch:=omega)only[go_sem,t172,Int.lt_irrefl]
  exact⟨_,_,rfl,sz⟩
set_option maxRecDepth 8000 in
set_option maxHeartbeats 8000000 in
theorem loop3_ev {h:H}(hw:h.wf)(tm:Go.Ab.T V):
  W fnG Zi 451 3 none (Z5 [true,true,true,true,false] c3.body) ⟨tm,h,[]⟩ fun x1 s=>x1=.nrm∧∃tm' z',s=⟨tm',z',[]⟩∧h.Sub z':=by
 have r7:∀a,Yc .rem (.ii a) (.ii 7)=some (.ii (a.tmod 7)):=fun a=>Z1 .i64 yeh
 have r3:∀a,Yc .rem (.ii a) (.ii 3)=some (.ii (a.tmod 3)):=fun a=>Z1 .i64 yeh
 simp(disch:=omega)only[Z5,c3,go_sem]
 refine Zk 63 (fun n s=>∃tm z,s=⟨tm,z,[]⟩∧h.Sub z∧tm.E 23=.ii ((n:Int)-31)) ?_ ?_ (i:=0) (Nat.zero_le _) ⟨_,_,rfl,H.Sub.refl hw,yeu⟩
 ·rintro n s hn ⟨tm,z,rfl,sz,t23⟩
  have hn':(n:Int)-31≤31:=by omega
  have v1:wr .i64 ((n:Int)-31+1)=((n+1:Nat):Int)-31:=by rw[Zo yec yec];omega
  obtain⟨z1,hz1⟩:∃z1,z.add (.bk [.ii (-1),.ii 0,.ii 1,.ii 2,.ii 59,.ii 60,.ii 61,.ii 119,.ii 120,.ii 239,.ii 240,.ii 241])=z1:=⟨_,rfl⟩
  have s1:z.Sub z1:=by rw[←hz1];exact(H.Sub.refl sz.wf).add _
  obtain⟨L,hL,ax⟩:∃L:List Int,L.length=12∧Zg z1 (.sl z.next 0 12 (.fix 12)) 1 (L.map encI):=⟨[-1,0,1,2,59,60,61,119,120,239,240,241],rfl,Zg.blk _ (by rw[←hz1];exact Zc rfl) rfl rfl yev yew⟩
  simp(disch:=omega)only[go_sem,t23,hn']
  rw[hz1]
  clear hz1
  refine Zk 12 (fun j s=>∃tm z2,s=⟨tm,z2,[]⟩∧z1.Sub z2∧tm.E 23=.ii ((n:Int)-31)∧tm.E 341=.sl z.next 0 12 (.fix 12)∧tm.E 342=.ii 12∧tm.E 343=.ii (j:Int)) ?_ ?_ (i:=0) (Nat.zero_le _) ⟨_,_,rfl,H.Sub.refl s1.wf,(by simp[Zm,Zd,t23]<;>rfl),yeb,yeb,yeu⟩
  ·clear t23
   rintro j s hj ⟨tm,z2,rfl,s2,t23,t341,t342,t343⟩
   have hj':(j:Int)<12:=by omega
   have v2:wr .i64 ((j:Int)+1)=((j+1:Nat):Int):=Zj yec
   obtain⟨b,o,c,cs,e,hc,hq,_,_,hn0⟩:=(ax.mono s2).at (k:=j) yec
   have hv:nth (o+j*1) cs=some (.ii L[j]):=hn0 yev
   simp(disch:=omega)only[go_sem,t23,t341,t342,t343,hj',hq (Zb j),hc,hv,r7,r3]
   refine(ClockShown_sub s2.wf _ _ _ _).mono fun u z3 hu=>?_
   obtain⟨rfl,s3⟩:=hu
   simp(disch:=omega)only[go_sem,t343,v2]
   exact⟨_,_,rfl,s2.trans s3,(by simp[Zm,Zd,t23]<;>rfl),(by simp[Zm,Zd,t341]<;>rfl),(by simp[Zm,Zd,t342]<;>rfl),yeb⟩
  ·clear t23
   rintro s ⟨tm,z2,rfl,s2,t23,t341,t342,t343⟩
   have t343:tm.E 343=.ii 12:=t343
   simp(disch:=omega)only[go_sem,t23,t342,t343,Int.lt_irrefl,v1]
   exact⟨_,_,rfl,sz.trans (s1.trans s2),yeb⟩
 ·rintro s ⟨tm,z,rfl,sz,t23⟩
  have t23:tm.E 23=.ii 32:=t23
  have n31:¬(32:Int)≤31:=by decide
  simp(disch:=omega)only[go_sem,t23,n31]
  exact⟨_,_,rfl,sz⟩
end Go.Ab.Tryz
namespace Go.Ab.Tryz
open Go.Proofs
def upC (i:Nat):Ck:=⟨i,i,0,0⟩
def upR (i:Nat):Rd:=⟨0,(i%2:Nat),4+(i%3:Nat)⟩
def upG (i:Nat):Gp:=⟨(i%2:Nat),1, -i,9⟩
def upA (n:Nat):At:=⟨0,0,(List.range n).map upC,(List.range n).map upR,(List.range n).map upG⟩
def atS (n:Nat):Nat→At
 |0=>⟨12,n,smA.cks,smA.rds,smA.gps⟩
 |1=>⟨12,2,(upA n).cks,[],smA.gps⟩
 |2=>⟨12,2,smA.cks,(upA n).rds,smA.gps⟩
 |_=>⟨12,2,smA.cks,smA.rds,(upA n).gps⟩
def okS (n:Nat):Nat→Bool
 |0=>decide (1<(n:Int))&&decide ((n:Int)<5)
 |1=>decide ((n:Int)<4)
 |2=>decide ((n:Int)<9)
 |_=>decide ((n:Int)<5)
set_option maxRecDepth 8000 in
theorem okS_eq:∀n,n<11→∀j,j<4→decide (Zn (atS n j)=0)=okS n j:=by decide
set_option maxRecDepth 8000 in
set_option maxHeartbeats 8000000 in
theorem one4_ev {z:H}(hw:z.wf){p n j:Nat}(hn:n<11)(hj:j<4){C R G:V}(xx:ZP z C R G (atS n j))(gp:z.cells p=some (atV (atS n j) C R G))(tm:Go.Ab.T V){v358 v411 v412 v413:V}(t26:(Opd.t 26).ev tm=.int .i64 (n:Int))(t32:(Opd.t 32).ev tm=.int .i64 (j:Int))(t33:(Opd.t 33).ev tm=.ptr p 0)(t358:(Opd.t 358).ev tm=v358)(t411:(Opd.t 411).ev tm=v411)(t412:(Opd.t 412).ev tm=v412)(t413:(Opd.t 413).ev tm=v413):
  W fnG Zi 451 3 none (Z5 [true,true,true,true,true,false,true,true,true,true,true,false,true,true,true,true,true,true,true,true,true,true,true,false,true,true] c3.body) ⟨tm,z,[]⟩ fun x1 s=>x1=.nrm∧∃tm' z',s=⟨tm',z',[]⟩∧z.Sub z'∧
   (Opd.t 26).ev tm'=.int .i64 (n:Int)∧(Opd.t 358).ev tm'=v358∧(Opd.t 411).ev tm'=v411∧(Opd.t 412).ev tm'=v412∧(Opd.t 413).ev tm'=v413:=by
 have tn:=tr_nil z
 have ie:∀b,Yw 1 (.sl b 0 4 (.fix 4)) (.int .i64 (j:Int))=some (.ptr b j):=fun b=>by rw[YR (Zb j) hj];simp
 have bb:∀b:Bool,(!(b==b))=false:=fun b=>by cases b<;>rfl
 have ok:=okS_eq n hn j hj
 have fin:∀z2,z.Sub z2→∀Q:V→H→Prop,(∀h',z2.Sub h'→Q (.int .i64 (Zn (atS n j))) h')→Ev fnG Zi (.fn 8 [] []) [.agg (atV (atS n j) C R G)] z2 Q:=fun z2 s2 Q q=>Y9 s2.wf ⟨C,R,G,rfl,xx.mono s2⟩ Q q
 have ask:=fun Q q=>asked_ev hw xx ⟨0,0,0⟩ ⟨0,0,0,0⟩ tn 0 1 5 tn.s Q q
 generalize atS n j=a at *
 have rest:∀(h1:Bool) (l0:V),(decide (1<(n:Int))=h1)→l0=.bool (h1&&decide ((n:Int)<5))→nth j [l0,.bool (decide ((n:Int)<4)),.bool (decide ((n:Int)<9)),.bool (decide ((n:Int)<5))]=some (.bool (decide (Zn a=0))):=fun h1 l0 e1 e2=>by
  subst e2;subst e1
  rw[ok]
  rcases(by omega:j=0∨j=1∨j=2∨j=3) with rfl|rfl|rfl|rfl<;>rfl
 by_cases h1:1<(n:Int)
 ·have r:=rest true _ (decide_eq_true h1) rfl
  rw[Bool.true_and] at r
  by_cases h10:(n:Int)<10
  ·simp -implicitDefEqProofs(maxSteps:=999999)(disch:=first|with_reducible rfl|omega|(simp only[nA,nS,nD]<;>omega)|fail)only[Z5,c3,go_sem,t26,t32,t33,h10,gp]
   refine ask _ fun z2 s2=>?_
   simp -implicitDefEqProofs(maxSteps:=999999)(disch:=first|with_reducible rfl|omega|(simp only[nA,nS,nD]<;>omega)|fail)only[go_sem,t26,t32,t33,s2.cells gp]
   refine fin z2 s2 _ fun z3 s3=>?_
   have sE:=s2.trans s3
   simp -implicitDefEqProofs(maxSteps:=999999)(disch:=first|with_reducible rfl|omega|(simp only[nA,nS,nD]<;>omega)|fail)only[go_sem,t26,t32,t33,h1,ie,r,bb]
   first|exact⟨rfl,_,_,rfl,yea,yet,yep,yex,yey,yeA⟩|exact⟨_,_,rfl,yea,yet,yep,yex,yey,yeA⟩
  ·simp -implicitDefEqProofs(maxSteps:=999999)(disch:=first|with_reducible rfl|omega|(simp only[nA,nS,nD]<;>omega)|fail)only[Z5,c3,go_sem,t26,t32,t33,h10,gp]
   refine fin z (H.Sub.refl hw) _ fun z3 s3=>?_
   simp -implicitDefEqProofs(maxSteps:=999999)(disch:=first|with_reducible rfl|omega|(simp only[nA,nS,nD]<;>omega)|fail)only[go_sem,t26,t32,t33,h1,ie,r,bb]
   first|exact⟨rfl,_,_,rfl,yea,yet,yep,yex,yey,yeA⟩|exact⟨_,_,rfl,yea,yet,yep,yex,yey,yeA⟩
 ·have r:=rest false _ (decide_eq_false h1) rfl
  rw[Bool.false_and] at r
  have h10:(n:Int)<10:=by omega
  simp -implicitDefEqProofs(maxSteps:=999999)(disch:=first|with_reducible rfl|omega|(simp only[nA,nS,nD]<;>omega)|fail)only[Z5,c3,go_sem,t26,t32,t33,h10,gp]
  refine ask _ fun z2 s2=>?_
  simp -implicitDefEqProofs(maxSteps:=999999)(disch:=first|with_reducible rfl|omega|(simp only[nA,nS,nD]<;>omega)|fail)only[go_sem,t26,t32,t33,s2.cells gp]
  refine fin z2 s2 _ fun z3 s3=>?_
  have sE:=s2.trans s3
  simp -implicitDefEqProofs(maxSteps:=999999)(disch:=first|with_reducible rfl|omega|(simp only[nA,nS,nD]<;>omega)|fail)only[go_sem,t26,t32,t33,h1,ie,r,bb]
  first|exact⟨rfl,_,_,rfl,yea,yet,yep,yex,yey,yeA⟩|exact⟨_,_,rfl,yea,yet,yep,yex,yey,yeA⟩
structure B3 (zA z:H)(n:Int)(m:Nat)(v:Nat→V)(a:At):Prop where
 sl:Sl6 zA z (m+20) v sz6 (ZE a [] [] [])
 g0:z.get (m+16)=some (.bk [.ii 12,.ii n,.sl (m+1) 0 1 (.fix 1),.sl (m+2) 0 2 (.fix 2),.sl (m+3) 0 1 (.fix 1)])
 g1:z.get (m+17)=some (.bk [.ii 12,.ii 2,v 0,.nils,.sl (m+7) 0 1 (.fix 1)])
 g2:z.get (m+18)=some (.bk [.ii 12,.ii 2,.sl (m+9) 0 1 (.fix 1),v 1,.sl (m+11) 0 1 (.fix 1)])
 g3:z.get (m+19)=some (.bk [.ii 12,.ii 2,.sl (m+13) 0 1 (.fix 1),.sl (m+14) 0 2 (.fix 2),v 2])
 nx:m+20≤z.next
section
variable {zA z:H} {n:Int} {m:Nat} {v:Nat→V} {a:At}
theorem B3.app0 (k:B3 zA z n m v a)(hw:zA.wf)(lo:zA.next=m+16){x0 x1 x2 x3:Int}(hl:a.cks.length≤100){Q:V→H→Prop}
  (q:∀w z5,w.one=true→z5.get (m+17)=some (.bk [.ii 12,.ii 2,v 0,.nils,.sl (m+7) 0 1 (.fix 1)])→B3 zA (z5.set (m+17) (.bk [.ii 12,.ii 2,w,.nils,.sl (m+7) 0 1 (.fix 1)])) n m (Ys v 0 w) {a with cks:=a.cks++[⟨x0,x1,x2,x3⟩]}→Q w z5):
  P2 (Z2 (z.add (.bk [.ii x0,.ii x1,.ii x2,.ii x3])) 4 32 (v 0) (.sl z.next 0 1 (.fix 1))) Q:=by
 refine Sl6.grow k.sl hw k.nx (i:=0) yeh (by_:=32) yeh (r:=Z9 ⟨x0,x1,x2,x3⟩) rows0 rfl rfl yeE fun w z5 ow k5 n5 sl5=>?_
 have kb:=Zh.set z5 (m+17) (.bk [.ii 12,.ii 2,w,.nils,.sl (m+7) 0 1 (.fix 1)])
 have s5:=(sl5.o 0 yeh).1.set (b:=m+17) yec yec hw (.bk [.ii 12,.ii 2,w,.nils,.sl (m+7) 0 1 (.fix 1)])
 exact q w z5 ow (k5.2 _ _ k.g1 yec) ⟨sl5.keep kb s5 fun b hb=>by omega,kb.2 _ _ (k5.2 _ _ k.g0 yec) yec,get_set_same rfl,kb.2 _ _ (k5.2 _ _ k.g2 yec) yec,kb.2 _ _ (k5.2 _ _ k.g3 yec) yec,by rw[H.next_set];exact n5⟩
theorem B3.app1 (k:B3 zA z n m v a)(hw:zA.wf)(lo:zA.next=m+16){x0 x1 x2:Int}(hl:a.rds.length≤100){Q:V→H→Prop}
  (q:∀w z5,w.one=true→z5.get (m+18)=some (.bk [.ii 12,.ii 2,.sl (m+9) 0 1 (.fix 1),v 1,.sl (m+11) 0 1 (.fix 1)])→B3 zA (z5.set (m+18) (.bk [.ii 12,.ii 2,.sl (m+9) 0 1 (.fix 1),w,.sl (m+11) 0 1 (.fix 1)])) n m (Ys v 1 w) {a with rds:=a.rds++[⟨x0,x1,x2⟩]}→Q w z5):
  P2 (Z2 (z.add (.bk [.ii x0,.ii x1,.ii x2])) 3 24 (v 1) (.sl z.next 0 1 (.fix 1))) Q:=by
 refine Sl6.grow k.sl hw k.nx (i:=1) yeh (by_:=24) yeh (r:=encR ⟨x0,x1,x2⟩) rows1 rfl rfl yeF fun w z5 ow k5 n5 sl5=>?_
 have kb:=Zh.set z5 (m+18) (.bk [.ii 12,.ii 2,.sl (m+9) 0 1 (.fix 1),w,.sl (m+11) 0 1 (.fix 1)])
 have s5:=(sl5.o 0 yeh).1.set (b:=m+18) yec yec hw (.bk [.ii 12,.ii 2,.sl (m+9) 0 1 (.fix 1),w,.sl (m+11) 0 1 (.fix 1)])
 exact q w z5 ow (k5.2 _ _ k.g2 yec) ⟨sl5.keep kb s5 fun b hb=>by omega,kb.2 _ _ (k5.2 _ _ k.g0 yec) yec,kb.2 _ _ (k5.2 _ _ k.g1 yec) yec,get_set_same rfl,kb.2 _ _ (k5.2 _ _ k.g3 yec) yec,by rw[H.next_set];exact n5⟩
theorem B3.app2 (k:B3 zA z n m v a)(hw:zA.wf)(lo:zA.next=m+16){x0 x1 x2 x3:Int}(hl:a.gps.length≤100){Q:V→H→Prop}
  (q:∀w z5,w.one=true→z5.get (m+19)=some (.bk [.ii 12,.ii 2,.sl (m+13) 0 1 (.fix 1),.sl (m+14) 0 2 (.fix 2),v 2])→B3 zA (z5.set (m+19) (.bk [.ii 12,.ii 2,.sl (m+13) 0 1 (.fix 1),.sl (m+14) 0 2 (.fix 2),w])) n m (Ys v 2 w) {a with gps:=a.gps++[⟨x0,x1,x2,x3⟩]}→Q w z5):
  P2 (Z2 (z.add (.bk [.ii x0,.ii x1,.ii x2,.ii x3])) 4 32 (v 2) (.sl z.next 0 1 (.fix 1))) Q:=by
 refine Sl6.grow k.sl hw k.nx (i:=2) yeh (by_:=32) yeh (r:=ZF ⟨x0,x1,x2,x3⟩) rows2 rfl rfl yeG fun w z5 ow k5 n5 sl5=>?_
 have kb:=Zh.set z5 (m+19) (.bk [.ii 12,.ii 2,.sl (m+13) 0 1 (.fix 1),.sl (m+14) 0 2 (.fix 2),w])
 have s5:=(sl5.o 0 yeh).1.set (b:=m+19) yec yec hw (.bk [.ii 12,.ii 2,.sl (m+13) 0 1 (.fix 1),.sl (m+14) 0 2 (.fix 2),w])
 exact q w z5 ow (k5.2 _ _ k.g3 yec) ⟨sl5.keep kb s5 fun b hb=>by omega,kb.2 _ _ (k5.2 _ _ k.g0 yec) yec,kb.2 _ _ (k5.2 _ _ k.g1 yec) yec,kb.2 _ _ (k5.2 _ _ k.g2 yec) yec,get_set_same rfl,by rw[H.next_set];exact n5⟩
end
theorem upA_succ (i:Nat):upA (i+1)=⟨0,0,(upA i).cks++[upC i],(upA i).rds++[upR i],(upA i).gps++[upG i]⟩:=by simp[upA,List.range_succ]
set_option maxRecDepth 8000 in
set_option maxHeartbeats 8000000 in
theorem up_ev {zA z:H}(hw:zA.wf){n m:Nat}(lo:zA.next=m+16)(hn:n<11)(k:B3 zA z n m (fun _=>.nils) (upA 0))(tm:Go.Ab.T V){v358:V}(t26:(Opd.t 26).ev tm=.int .i64 (n:Int))(t27:(Opd.t 27).ev tm=.ptr (m+16) 0)(t28:(Opd.t 28).ev tm=.ptr (m+17) 0)(t29:(Opd.t 29).ev tm=.ptr (m+18) 0)(t30:(Opd.t 30).ev tm=.ptr (m+19) 0)(t358:(Opd.t 358).ev tm=v358):
  W fnG Zi 451 3 none (Z5 [true,true,true,true,true,false,true,true,true,true,true,false,true,true,true,true,true,false] c3.body) ⟨tm,z,[]⟩ fun x1 s=>x1=.nrm∧∃tm' z' v,s=⟨tm',z',[]⟩∧B3 zA z' n m v (upA n)∧
   (Opd.t 26).ev tm'=.int .i64 (n:Int)∧(Opd.t 27).ev tm'=.ptr (m+16) 0∧(Opd.t 28).ev tm'=.ptr (m+17) 0∧(Opd.t 29).ev tm'=.ptr (m+18) 0∧(Opd.t 30).ev tm'=.ptr (m+19) 0∧(Opd.t 358).ev tm'=v358:=by
 simp -implicitDefEqProofs(maxSteps:=999999)(disch:=first|with_reducible rfl|omega|(simp only[nA,nS,nD]<;>omega)|fail)only[Z5,c3,go_sem,t26]
 refine Zk n (fun i s=>∃tm z v,s=⟨tm,z,[]⟩∧B3 zA z n m v (upA i)∧(Opd.t 26).ev tm=.int .i64 (n:Int)∧(Opd.t 27).ev tm=.ptr (m+16) 0∧(Opd.t 28).ev tm=.ptr (m+17) 0∧(Opd.t 29).ev tm=.ptr (m+18) 0∧(Opd.t 30).ev tm=.ptr (m+19) 0∧(Opd.t 358).ev tm=v358∧(Opd.t 371).ev tm=.int .i64 (n:Int)∧(Opd.t 372).ev tm=.int .i64 (i:Int)) ?_ ?_ (i:=0) (Nat.zero_le _)
  ⟨_,_,_,rfl,k,yet,yeK,yeL,yeM,yeN,yep,yeb,yeu⟩
 ·clear t26 t27 t28 t29 t30 t358 k
  rintro i s hi ⟨tm,z,v,rfl,k,t26,t27,t28,t29,t30,t358,t371,t372⟩
  have hi':(i:Int)<(n:Int):=by omega
  have v1:wr .i64 ((i:Int)+1)=((i+1:Nat):Int):=Zj yec
  have m2:Yc .rem (.int .i64 (i:Int)) (.int .i64 2)=some (.int .i64 ((i%2:Nat):Int)):=remN i 2 yeh
  have m3:Yc .rem (.int .i64 (i:Int)) (.int .i64 3)=some (.int .i64 ((i%3:Nat):Int)):=remN i 3 yeh
  have w4:wr .i64 (4+((i%3:Nat):Int))=4+((i%3:Nat):Int):=Zo yec yec
  have wn:wr .i64 (0-(i:Int))= -(i:Int):=by rw[Zo yec yec];omega
  have lc:(upA i).cks.length=i:=by simp[upA]
  have lr:(upA i).rds.length=i:=by simp[upA]
  have lg:(upA i).gps.length=i:=by simp[upA]
  simp -implicitDefEqProofs(maxSteps:=999999)(disch:=first|with_reducible rfl|omega|(simp only[nA,nS,nD]<;>omega)|fail)only[go_sem,t26,t27,t28,t29,t30,t371,t372,hi',Za k.g1]
  refine k.app0 hw lo yec fun w0 y0 o0 h0 k0=>?_
  have g2:y0.cells (m+18)=_:=Za (by have:=k0.g2;rw[get_set_other yec] at this;exact this)
  simp -implicitDefEqProofs(maxSteps:=999999)(disch:=first|with_reducible rfl|omega|(simp only[nA,nS,nD]<;>omega)|fail)only[go_sem,t26,t27,t28,t29,t30,t371,t372,o0,cells_one o0,h0,g2,m2,m3,w4]
  have e0:=H.next_set y0 (m+17) (.cells .rw [.int .i64 12,.int .i64 2,w0,.nils,.sl (m+7) 0 1 (.fix 1)])
  generalize y0.set (m+17) (.cells .rw [.int .i64 12,.int .i64 2,w0,.nils,.sl (m+7) 0 1 (.fix 1)])=z0 at k0 e0⊢
  rw[←e0]
  refine k0.app1 hw lo (by show(upA i).rds.length≤100;omega) fun w1 y1 o1 h1 k1=>?_
  have g3:y1.cells (m+19)=_:=Za (by have:=k1.g3;rw[get_set_other yec] at this;exact this)
  simp -implicitDefEqProofs(maxSteps:=999999)(disch:=first|with_reducible rfl|omega|(simp only[nA,nS,nD]<;>omega)|fail)only[go_sem,t26,t27,t28,t29,t30,t371,t372,o1,cells_one o1,h1,g3,m2,wn]
  have e1:=H.next_set y1 (m+18) (.cells .rw [.int .i64 12,.int .i64 2,.sl (m+9) 0 1 (.fix 1),w1,.sl (m+11) 0 1 (.fix 1)])
  generalize y1.set (m+18) (.cells .rw [.int .i64 12,.int .i64 2,.sl (m+9) 0 1 (.fix 1),w1,.sl (m+11) 0 1 (.fix 1)])=z1 at k1 e1⊢
  rw[←e1]
  refine k1.app2 hw lo (by show(upA i).gps.length≤100;omega) fun w2 y2 o2 h2 k2=>?_
  simp -implicitDefEqProofs(maxSteps:=999999)(disch:=first|with_reducible rfl|omega|(simp only[nA,nS,nD]<;>omega)|fail)only[go_sem,t26,t27,t28,t29,t30,t371,t372,o2,cells_one o2,h2,v1]
  exact⟨_,_,_,rfl,by rw[upA_succ];exact k2,yet,yeK,yeL,yeM,yeN,yep,(by simp[Zm,Zd,t371]<;>rfl),yeb⟩
 ·clear t26 t27 t28 t29 t30 t358 k
  rintro s ⟨tm,z,v,rfl,k,t26,t27,t28,t29,t30,t358,t371,t372⟩
  simp -implicitDefEqProofs(maxSteps:=999999)(disch:=first|with_reducible rfl|omega|(simp only[nA,nS,nD]<;>omega)|fail)only[go_sem,t371,t372,Int.lt_irrefl]
  exact⟨_,_,_,rfl,k,yet,yeK,yeL,yeM,yeN,yep⟩
end Go.Ab.Tryz
namespace Go.Ab.Tryz
open Go.Proofs
set_option maxRecDepth 8000 in
set_option maxHeartbeats 8000000 in
theorem four_ev {h zA z:H}{n m:Nat}(hn:n<11)(kA:Cs m h zA (smB m++(smB (m+4)++(smB (m+8)++smB (m+12))))){v:Nat→V}(k:B3 zA z n m v (upA n))(tm:Go.Ab.T V){v358:V}(t26:(Opd.t 26).ev tm=.int .i64 (n:Int))(t27:(Opd.t 27).ev tm=.ptr (m+16) 0)(t28:(Opd.t 28).ev tm=.ptr (m+17) 0)(t29:(Opd.t 29).ev tm=.ptr (m+18) 0)(t30:(Opd.t 30).ev tm=.ptr (m+19) 0)(t358:(Opd.t 358).ev tm=v358):
  W fnG Zi 451 3 none (Z5 [true,true,true,true,true,false,true,true,true,true,true,false,true,true,true,true,true,true] c3.body) ⟨tm,z,[]⟩ fun x1 s=>x1=.nrm∧∃tm' z',s=⟨tm',z',[]⟩∧z.Sub z'∧(Opd.t 358).ev tm'=v358:=by
 obtain⟨R,hR⟩:∃R,Z5 [true,true,true,true,true,false,true,true,true,true,true,false,true,true,true,true,true,true,true,true,true,true,true,false,true,true] c3.body=R:=⟨_,rfl⟩
 have r1:= @one4_ev
 rw[hR] at r1
 simp only[Z5,c3] at hR
 simp only[Z5,c3]
 rw[hR]
 clear hR
 have sA:=(k.sl.o 0 yeh).1
 have lu:(upA n).cks.length=n∧(upA n).rds.length=n∧(upA n).gps.length=n:=by simp[upA]
 have G:∀i c,(smB m++(smB (m+4)++(smB (m+8)++smB (m+12))))[i]? =some c→z.get (m+i)=some (.cells .rw c):=fun i c e=>sA.get (kA.2.2.2 i c e)
 have fC:∀i,z.get i=some (.cells .rw (Z9 ⟨2,3,9,11⟩))→Zg z (.sl i 0 1 (.fix 1)) 4 (smA.cks.map Z9):=fun i g=>Zg.blk _ g rfl rfl (by simp[smA,Z9]) (by simp[smA])
 have fR:∀i,z.get i=some (.cells .rw (encR ⟨0,0,5⟩++encR ⟨0,1,13⟩))→Zg z (.sl i 0 2 (.fix 2)) 3 (smA.rds.map encR):=fun i g=>Zg.blk _ g rfl rfl (by simp[smA,encR]) (by simp[smA])
 have fG:∀i,z.get i=some (.cells .rw (ZF ⟨0,1,5,9⟩))→Zg z (.sl i 0 1 (.fix 1)) 4 (smA.gps.map ZF):=fun i g=>Zg.blk _ g rfl rfl (by simp[smA,ZF]) (by simp[smA])
 have x0:ZP z (.sl (m+1) 0 1 (.fix 1)) (.sl (m+2) 0 2 (.fix 2)) (.sl (m+3) 0 1 (.fix 1)) (atS n 0):=⟨fC _ (G 1 _ rfl),fR _ (G 2 _ rfl),fG _ (G 3 _ rfl)⟩
 have x1:ZP z (v 0) .nils (.sl (m+7) 0 1 (.fix 1)) (atS n 1):=⟨(k.sl.o 0 yeh).sl (by show((upA n).cks.map Z9).length≤_;rw[List.length_map];omega),⟨by simp[atS],by simp[atS],.inl ⟨rfl,rfl⟩⟩,fG _ (G 7 _ rfl)⟩
 have x2:ZP z (.sl (m+9) 0 1 (.fix 1)) (v 1) (.sl (m+11) 0 1 (.fix 1)) (atS n 2):=⟨fC _ (G 9 _ rfl),(k.sl.o 1 yeh).sl (by show((upA n).rds.map encR).length≤_;rw[List.length_map];omega),fG _ (G 11 _ rfl)⟩
 have x3:ZP z (.sl (m+13) 0 1 (.fix 1)) (.sl (m+14) 0 2 (.fix 2)) (v 2) (atS n 3):=⟨fC _ (G 13 _ rfl),fR _ (G 14 _ rfl),(k.sl.o 2 yeh).sl (by show((upA n).gps.map ZF).length≤_;rw[List.length_map];omega)⟩
 have o0:=(k.sl.o 0 yeh).one
 have o1:=(k.sl.o 1 yeh).one
 have o2:=(k.sl.o 2 yeh).one
 have w:=sA.wf
 obtain⟨L,hL⟩:∃L,[V.int .i64 12,.int .i64 n,.sl (m+1) 0 1 (.fix 1),.sl (m+2) 0 2 (.fix 2),.sl (m+3) 0 1 (.fix 1),.int .i64 12,.int .i64 2,v 0,.nils,.sl (m+7) 0 1 (.fix 1),.int .i64 12,.int .i64 2,.sl (m+9) 0 1 (.fix 1),v 1,.sl (m+11) 0 1 (.fix 1),.int .i64 12,.int .i64 2,.sl (m+13) 0 1 (.fix 1),.sl (m+14) 0 2 (.fix 2),v 2]=L:=⟨_,rfl⟩
 have sL:=(H.Sub.refl w).add (.cells .rw L)
 have gL:(z.add (.cells .rw L)).cells z.next=some L:=Zu rfl
 simp -implicitDefEqProofs(maxSteps:=999999)(disch:=first|with_reducible rfl|omega|(simp only[nA,nS,nD]<;>omega)|fail)only[go_sem,t27,t28,t29,t30,Za k.g0,Za k.g1,Za k.g2,Za k.g3,o0,o1,o2,hL]
 generalize z.add (.cells .rw L)=z1 at sL gL⊢
 generalize z.next=b at gL⊢
 refine Zk 4 (fun j s=>∃tm z2,s=⟨tm,z2,[]⟩∧z1.Sub z2∧(Opd.t 26).ev tm=.int .i64 (n:Int)∧(Opd.t 358).ev tm=v358∧(Opd.t 411).ev tm=.sl b 0 4 (.fix 4)∧(Opd.t 412).ev tm=.int .i64 4∧(Opd.t 413).ev tm=.int .i64 (j:Int)) ?_ ?_ (i:=0) (Nat.zero_le _)
  ⟨_,_,rfl,H.Sub.refl sL.wf,yet,yep,yeb,yeb,yeu⟩
 ·clear t26 t27 t28 t29 t30 t358
  rintro j s hj ⟨tm,z2,rfl,s2,t26,t358,t411,t412,t413⟩
  have hj':(j:Int)<4:=by omega
  have v1:wr .i64 ((j:Int)+1)=((j+1:Nat):Int):=Zj yec
  have ij:Yw 5 (.sl b 0 4 (.fix 4)) (.int .i64 (j:Int))=some (.ptr b (0+j*5)):=YR (Zb j) hj
  have gL2:=s2.cells gL
  rw[←hL] at gL2
  have s02:=sL.trans s2
  have fin:∀C R' G',ZP z C R' G' (atS n j)→∀(Y:List V),Y=atV (atS n j) C R' G'→∀tm:Go.Ab.T V,(Opd.t 26).ev tm=.int .i64 (n:Int)→(Opd.t 32).ev tm=.int .i64 (j:Int)→(Opd.t 33).ev tm=.ptr z2.next 0→(Opd.t 358).ev tm=v358→(Opd.t 411).ev tm=.sl b 0 4 (.fix 4)→(Opd.t 412).ev tm=.int .i64 4→(Opd.t 413).ev tm=.int .i64 (j:Int)→
    W fnG Zi 451 3 none R ⟨tm,z2.add (.cells .rw Y),[]⟩ fun x1 s=>x1=.nrm∧∃tm' z',s=⟨tm',z',[]⟩∧(z2.add (.cells .rw Y)).Sub z'∧(Opd.t 26).ev tm'=.int .i64 (n:Int)∧(Opd.t 358).ev tm'=v358∧(Opd.t 411).ev tm'=.sl b 0 4 (.fix 4)∧(Opd.t 412).ev tm'=.int .i64 4∧(Opd.t 413).ev tm'=.int .i64 (j:Int):=fun C R' G' x Y e tm t26 t32 t33 t358 t411 t412 t413=>by
   subst e
   have s3:=(H.Sub.refl s2.wf).add (.cells .rw (atV (atS n j) C R' G'))
   exact r1 s3.wf hn hj ((x.mono s02).mono s3) (Zu rfl) tm t26 t32 t33 t358 t411 t412 t413
  have en:∀Y,z1.Sub (z2.add (.cells .rw Y)):=fun Y=>s2.add _
  rcases(by omega:j=0∨j=1∨j=2∨j=3) with rfl|rfl|rfl|rfl
  all_goals
   simp -implicitDefEqProofs(maxSteps:=999999)(disch:=first|with_reducible rfl|omega|(simp only[nA,nS,nD]<;>omega)|fail)only[go_sem,t26,t358,t411,t412,t413,hj',ij,gL2,o0,o1,o2]
   refine W.mono (by first|exact fin _ _ _ x0 _ rfl _ (by simp[Zm,Zd,t26]<;>rfl) (by simp[Zm,Zd]<;>rfl) (by simp[Zm,Zd]<;>rfl) (by simp[Zm,Zd,t358]<;>rfl) (by simp[Zm,Zd,t411]<;>rfl) (by simp[Zm,Zd,t412]<;>rfl) (by simp[Zm,Zd,t413]<;>rfl)|exact fin _ _ _ x1 _ rfl _ (by simp[Zm,Zd,t26]<;>rfl) (by simp[Zm,Zd]<;>rfl) (by simp[Zm,Zd]<;>rfl) (by simp[Zm,Zd,t358]<;>rfl) (by simp[Zm,Zd,t411]<;>rfl) (by simp[Zm,Zd,t412]<;>rfl) (by simp[Zm,Zd,t413]<;>rfl)|exact fin _ _ _ x2 _ rfl _ (by simp[Zm,Zd,t26]<;>rfl) (by simp[Zm,Zd]<;>rfl) (by simp[Zm,Zd]<;>rfl) (by simp[Zm,Zd,t358]<;>rfl) (by simp[Zm,Zd,t411]<;>rfl) (by simp[Zm,Zd,t412]<;>rfl) (by simp[Zm,Zd,t413]<;>rfl)|exact fin _ _ _ x3 _ rfl _ (by simp[Zm,Zd,t26]<;>rfl) (by simp[Zm,Zd]<;>rfl) (by simp[Zm,Zd]<;>rfl) (by simp[Zm,Zd,t358]<;>rfl) (by simp[Zm,Zd,t411]<;>rfl) (by simp[Zm,Zd,t412]<;>rfl) (by simp[Zm,Zd,t413]<;>rfl)) fun x1 s hx1=>?_
   obtain⟨rfl,tm,z3,rfl,s3,t26,t358,t411,t412,t413⟩:=hx1
   simp -implicitDefEqProofs(maxSteps:=999999)(disch:=first|with_reducible rfl|omega|(simp only[nA,nS,nD]<;>omega)|fail)only[go_sem,t413,v1]
   exact⟨_,_,rfl,(en _).trans s3,yet,yep,yex,yey,yeb⟩
 ·clear t26 t27 t28 t29 t30 t358
  rintro s ⟨tm,z2,rfl,s2,t26,t358,t411,t412,t413⟩
  have t413:(Opd.t 413).ev tm=.int .i64 4:=t413
  simp -implicitDefEqProofs(maxSteps:=999999)(disch:=first|with_reducible rfl|omega|(simp only[nA,nS,nD]<;>omega)|fail)only[go_sem,t412,t413,Int.lt_irrefl]
  exact⟨_,_,rfl,sL.trans s2,yep⟩
end Go.Ab.Tryz
namespace Go.Ab.Tryz
open Go.Proofs
theorem Cs.app {h z z':H}{n0 n1:Nat}{c1 c2:List (List V)}(k:Cs n0 h z c1)(k2:Cs n1 z z' c2)(e:n1=n0+c1.length):Cs n0 h z' (c1++c2):=by
 subst e
 refine⟨k.1.trans k2.1,k.2.1,by rw[List.length_append];have:=k2.2.2.1;omega,fun i c hc=>?_⟩
 by_cases hi:i<c1.length
 ·rw[List.getElem?_append_left hi] at hc
  exact k2.1.get (k.2.2.2 i c hc)
 ·rw[List.getElem?_append_right yec] at hc
  have:=k2.2.2.2 _ c hc
  rwa[show n0+c1.length+(i-c1.length)=n0+i by omega] at this
set_option maxRecDepth 8000 in
set_option maxHeartbeats 8000000 in
theorem loop4_ev {h:H}(hw:h.wf)(tm:Go.Ab.T V):
  W fnG Zi 451 3 none (Z5 [true,true,true,true,true,false] c3.body) ⟨tm,h,[]⟩ fun x1 s=>x1=.nrm∧∃tm' z',s=⟨tm',z',[]⟩∧h.Sub z':=by
 obtain⟨R1,hR1⟩:∃R,Z5 [true,true,true,true,true,false,true,true,true,true,true,false,true,true,true,true,true,false] c3.body=R:=⟨_,rfl⟩
 obtain⟨R2,hR2⟩:∃R,Z5 [true,true,true,true,true,false,true,true,true,true,true,false,true,true,true,true,true,true] c3.body=R:=⟨_,rfl⟩
 have r1:= @up_ev
 have r2:= @four_ev
 rw[hR1] at r1;rw[hR2] at r2
 simp only[Z5,c3] at hR1 hR2
 simp only[Z5,c3]
 rw[hR1,hR2]
 clear hR1 hR2
 simp(disch:=omega)only[go_sem]
 refine Zk 11 (fun n s=>∃tm z,s=⟨tm,z,[]⟩∧h.Sub z∧tm.E 358=.ii (n:Int)) ?_ ?_ (i:=0) (Nat.zero_le _) ⟨_,_,rfl,H.Sub.refl hw,yeu⟩
 ·rintro n s hn ⟨tm,z,rfl,sz,t358⟩
  have hn':(n:Int)<11:=by omega
  have v1:wr .i64 ((n:Int)+1)=((n+1:Nat):Int):=Zj yec
  obtain⟨m,hm⟩:∃m,z.next=m:=⟨_,rfl⟩
  simp(disch:=omega)only[go_sem,t358,hn']
  refine small_ev sz.wf _ fun z1 k1 n1=>?_
  rw[hm] at k1 n1⊢
  simp(disch:=omega)only[go_sem]
  refine small_ev k1.1.wf _ fun z2 k2 n2=>?_
  rw[n1] at k2 n2⊢
  simp(disch:=omega)only[go_sem]
  refine small_ev k2.1.wf _ fun z3 k3 n3=>?_
  rw[n2] at k3 n3⊢
  simp(disch:=omega)only[go_sem]
  refine small_ev k3.1.wf _ fun z4 k4 n4=>?_
  rw[n3] at k4 n4⊢
  have kA:Cs m z z4 (smB m++(smB (m+4)++(smB (m+8)++smB (m+12)))):=k1.app (k2.app (k3.app k4 rfl) rfl) rfl
  have lo:z4.next=m+16:=n4
  have sA:=kA.1
  have w4:=sA.wf
  simp -implicitDefEqProofs(disch:=first|omega|simp only[nZ]<;>omega|fail)only[go_sem,lo]
  generalize hz:H.set _ _ _=zE
  have k0:B3 z4 zE n m (fun _=>.nils) (upA 0):=by
   have hs:z4.Sub zE:=by rw[←hz];exact yea
   refine⟨⟨fun i hi=>?_,fun i hi b hb=>(Zy hb).elim,fun i j _ _ _ b hb=>(Zy hb).elim⟩,by rw[←hz];simp(disch:=omega)only[go_sem,lo],by rw[←hz];simp(disch:=omega)only[go_sem,lo],by rw[←hz];simp(disch:=omega)only[go_sem,lo],by rw[←hz];simp(disch:=omega)only[go_sem,lo],by rw[←hz];simp only[H.next_set,H.next_add];omega⟩
   have e:ZE (upA 0) [] [] [] i=[]:=by rcases(by omega:i=0∨i=1∨i=2∨i=3∨i=4∨i=5) with rfl|rfl|rfl|rfl|rfl|rfl<;>rfl
   rw[e];exact(Zx.nil hs _).c
  refine(r1 w4 lo hn k0 _ (v358:=.ii (n:Int)) yeb yeb yeb yeb yeb yep).mono fun x1 s hx1=>?_
  obtain⟨rfl,tm,z5,v,rfl,k5,t26,t27,t28,t29,t30,t358⟩:=hx1
  simp(disch:=omega)only[go_sem]
  refine(r2 hn kA k5 _ t26 t27 t28 t29 t30 t358).mono fun x1 s hx1=>?_
  obtain⟨rfl,tm,z6,rfl,s6,t358⟩:=hx1
  simp(disch:=omega)only[go_sem,t358,v1]
  exact⟨_,_,rfl,sz.trans (sA.trans ((k5.sl.o 0 yeh).1.trans s6)),yeb⟩
 ·rintro s ⟨tm,z,rfl,sz,t358⟩
  have t358:tm.E 358=.ii 11:=t358
  simp(disch:=omega)only[go_sem,t358,Int.lt_irrefl]
  exact⟨_,_,rfl,sz⟩
noncomputable def addL (h:H):List (List Int)→H
 |[]=>h
 |l::S=>addL (h.add (.bk (l.map (V.int .i64)))) S
def slL (b:Nat):List (List Int)→List V
 |[]=>[]
 |l::S=>.sl b 0 l.length (.fix l.length)::slL (b+1) S
theorem addL_sub:∀(S:List (List Int)) {h0 h:H},h0.Sub h→h0.Sub (addL h S)
 |[],_,_,s=>s
 |_::S,_,_,s=>addL_sub S (s.add _)
theorem addL_get:∀(S:List (List Int)) {h:H} (i:Nat) {l:List Int},h.wf→S[i]? =some l→(addL h S).get (h.next+i)=some (.bk (l.map (V.int .i64)))
 |[],_,_,_,_,e=>by cases e
 |a::S,h,0,l,w,e=>by
  cases e
  exact(addL_sub S (H.Sub.refl ((H.Sub.refl w).add _).wf)).get (Zc rfl)
 |a::S,h,i+1,l,w,e=>by
  have:=addL_get S (h:=h.add (.bk (a.map (V.int .i64)))) i ((H.Sub.refl w).add _).wf (by simpa using e)
  rw[H.next_add] at this
  rw[←this,show h.next+1+i=h.next+(i+1) by omega];rfl
theorem slL_len:∀(S:List (List Int)) (b:Nat),(slL b S).length=S.length
 |[],_=>rfl
 |_::S,b=>by simp only[slL,List.length_cons,slL_len S]
theorem slL_get:∀(S:List (List Int)) (b i:Nat) {l:List Int},S[i]? =some l→(slL b S)[i]? =some (.sl (b+i) 0 l.length (.fix l.length))
 |[],_,_,_,e=>by cases e
 |a::S,b,0,l,e=>by cases e;rfl
 |a::S,b,i+1,l,e=>by
  have:=slL_get S (b+1) i (l:=l) (by simpa using e)
  rw[show b+(i+1)=b+1+i by omega];exact this
theorem rws_lit {h:H}(hw:h.wf)(S:List (List Int))(hl:S.length≤1000)(hll:∀l∈S,l.length≤1000):Rws ((addL h S).add (.bk (slL h.next S))) (.sl (addL h S).next 0 S.length (.fix S.length)) S:=by
 have sA:=(addL_sub S (H.Sub.refl hw)).add (.bk (slL h.next S))
 have f1:∀l:List V,(l.map fun v=>[v]).flatten=l:=fun l=>by induction l with|nil=>rfl|cons a l ih=>simp[ih]
 have f2:∀l:List Int,(l.map encI).flatten=l.map (V.int .i64):=fun l=>by induction l with|nil=>rfl|cons a l ih=>rw[List.map_cons,List.flatten_cons,ih];rfl
 refine⟨slL h.next S,Zg.blk _ (Zc rfl) (f1 _).symm (by rw[List.length_map,slL_len]) yew (by rw[List.length_map,slL_len];omega),slL_len _ _,fun i v l e1 e2=>?_⟩
 rw[slL_get S _ i e2] at e1
 cases e1
 have g:=((H.Sub.refl (addL_sub S (H.Sub.refl hw)).wf).add (.bk (slL h.next S))).get (addL_get S i hw e2)
 have:=hll l (List.mem_of_getElem? e2)
 exact Zg.blk _ g (f2 l).symm yew yev (by simp only[List.length_map];omega)
def limS:List (List Int):=[[0,1,11,240,241],[-1,0,1,2,4,5],[-61, -60, -2,0,2,3,4],[1,2,6,7,60,61],[-31, -30,7,9,11,12],[8,9,13,14,30,31],[-1,0,1],[-1,0,1,2],[-1000, -999,5,6,999,1000],[-1,0,1,2],[-1,0,1,2],[-241, -240,4,9,10],[4,5,6,9,240,241],[-1,0,1,2],[-1,0,1],[-1000,7,1000],[-1,0,1,2],[-1,0,1,2],[-1,0,600,601],[-1,0,1,2],[-1,0,1,2,3],[-1,0,2,11,12,13]]
set_option maxRecDepth 8000 in
set_option maxHeartbeats 8000000 in
theorem ClockSmall_ev {h:H}(hw:h.wf):Ev fnG Zi (.fn 3 [] []) [] h (fun u _=>u=.bool true):=by
 refine Ze (fd:=c3) rfl rfl rfl ?_
 obtain⟨R1,hR1⟩:∃R,Z5 [true,true,false] c3.body=R:=⟨_,rfl⟩
 obtain⟨R2,hR2⟩:∃R,Z5 [true,true,true,false] c3.body=R:=⟨_,rfl⟩
 obtain⟨R3,hR3⟩:∃R,Z5 [true,true,true,true,false] c3.body=R:=⟨_,rfl⟩
 obtain⟨R4,hR4⟩:∃R,Z5 [true,true,true,true,true,false] c3.body=R:=⟨_,rfl⟩
 have r1:= @lims_ev
 have r2:= @loop2_ev
 have r3:= @loop3_ev
 have r4:= @loop4_ev
 rw[hR1] at r1;rw[hR2] at r2;rw[hR3] at r3;rw[hR4] at r4
 simp only[Z5,c3] at hR1 hR2 hR3 hR4
 simp only[c3]
 rw[hR1,hR2,hR3,hR4]
 clear hR1 hR2 hR3 hR4
 simp -implicitDefEqProofs(disch:=first|omega|simp only[nZ]<;>omega|fail)only[go_sem]
 generalize hz:H.add _ _=zE
 have k:Rws zE (.sl (h.next+22) 0 22 (.fix 22)) limS:=by
  have k:=rws_lit hw limS yeh yeh
  rw[←hz]
  simp only[limS,addL,slL,List.map_cons,List.map_nil,List.length_cons,List.length_nil,H.next_add,Nat.reduceAdd] at k⊢
  exact k
 have s1:h.Sub zE:=by rw[←hz];exact yea
 refine(r1 s1.wf k rfl yeh _ yeb).mono fun x1 s hx1=>?_
 obtain⟨rfl,tm,z1,rfl,s2⟩:=hx1
 simp(disch:=omega)only[go_sem]
 refine(r2 s2.wf tm).mono fun x1 s hx1=>?_
 obtain⟨rfl,tm,z1,rfl,s2⟩:=hx1
 simp(disch:=omega)only[go_sem]
 refine(r3 s2.wf tm).mono fun x1 s hx1=>?_
 obtain⟨rfl,tm,z1,rfl,s2⟩:=hx1
 simp(disch:=omega)only[go_sem]
 refine(r4 s2.wf tm).mono fun x1 s hx1=>?_
 obtain⟨rfl,tm,z1,rfl,s2⟩:=hx1
 simp(disch:=omega)only[go_sem,Z3]
end Go.Ab.Tryz
