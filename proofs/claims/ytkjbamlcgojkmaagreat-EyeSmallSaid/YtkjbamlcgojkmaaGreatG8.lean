/- EyeSmall: small tables with all kinds of eyes and lights. EyeSets. The reference: Enough, Fewest, Witness, Needed. The reference: Fewest, Witness, Needed. The reference: Witness, Needed. EyeEnough. asked, Two. EyeSmall: as many eyes, lights and pieces as there may be, and one more. EyeSmall: the examples with each number at its limits. EyeSmall: tables of its second loop, and sortings that are changed (memory). -/
import Derived.Test.YtkjbamlcgojkmaaGreatG5
import Derived.Test.YtkjbamlcgojkmaaGreatG7
set_option linter.unusedSimpArgs false
set_option linter.unusedVariables false
theorem yga {p:Prop}(h:p:=by repeat(first|assumption|exact H.Sub.refl (by assumption)|refine H.Sub.add ?_ _|refine H.Sub.set ?_ (by first|omega|(simp only[H.next_add,H.next_set,H.next_del]<;>omega)) (by first|omega|(simp only[H.next_add,H.next_set,H.next_del]<;>omega)) (by assumption) _)):p:=h
theorem ygb {p:Prop}(h:p:=by simp):p:=h
theorem ygc {p:Prop}(h:p:=by omega):p:=h
theorem ygd {p:Prop}(h:p:=by first|omega|(rw[List.length_append,List.length_singleton];omega)):p:=h
theorem yge {p:Prop}(h:p:=by simp only[List.length_map];omega):p:=h
theorem ygf {p:Prop}(h:p:=by simp only[List.length_map,YF];omega):p:=h
theorem ygg {p:Prop}(h:p:=by simp[t1]):p:=h
theorem ygh {p:Prop}(h:p:=by simp<;>rfl):p:=h
theorem ygi {p:Prop}(h:p:=by simp[t2]):p:=h
theorem ygj {p:Prop}(h:p:=by simp[t7]):p:=h
theorem ygk {p:Prop}(h:p:=by rw[List.length_map];omega):p:=h
theorem ygl {p:Prop}(h:p:=by simp[t129]):p:=h
theorem ygm {p:Prop}(h:p:=by simp[t3]):p:=h
theorem ygn {p:Prop}(h:p:=by simp(disch:=first|omega|simp only[nZ]<;>omega|fail)only[go_sem]):p:=h
theorem ygo {p:Prop}(h:p:=by simp[t15]):p:=h
theorem ygp {p:Prop}(h:p:=by simp[Zj]):p:=h
theorem ygq {p:Prop}(h:p:=by simp[t1]<;>rfl):p:=h
theorem ygr {p:Prop}(h:p:=by simp[t2]<;>rfl):p:=h
theorem ygs {p:Prop}(h:p:=by simp[t16]):p:=h
theorem ygt {p:Prop}(h:p:=by simp[t5]<;>rfl):p:=h
theorem ygu {p:Prop}(h:p:=by rw[c];exact(by simp[t10])):p:=h
theorem ygv {p:Prop}(h:p:=by simp only[eS,List.length_set,List.length_map,List.length_cons];omega):p:=h
theorem ygw {p:Prop}(h:p:=by simp[t9]):p:=h
theorem ygx {p:Prop}(h:p:=by simp only[List.length_cons];omega):p:=h
theorem ygy {p:Prop}(h:p:=by simp[t282]):p:=h
theorem ygz {p:Prop}(h:p:=by rw[List.length_map]):p:=h
theorem ygA {p:Prop}(h:p:=by simp[t6]<;>rfl):p:=h
theorem ygB {p:Prop}(h:p:=by simp[Yx]):p:=h
namespace Go.Ab.Tryz
theorem putR_hd {T:Int→Int→Bool}{most:Nat}:∀{k p:Nat} {S r:List (List Int)},(∀l∈S,l≠[])→(S.map fun l=>l.headD 0).Pairwise (· < ·)→(∀x∈S.map fun l=>l.headD 0,x<(p:Int))→XR T most k p S=some r→(r.map fun l=>l.headD 0).Pairwise (· < ·)
 |0,p,S,r,_,hp,_,h=>by
  simp only[XR,Option.some.injEq] at h
  subst h;exact hp
 |k+1,p,S,r,hne,hp,hlt,h=>by
  simp only[XR] at h
  cases hf:(List.range S.length).findSome? fun i=>if((S.getD i []).all fun x=>T x (p:Int))=true then XR T most k (p+1) (S.set i (S.getD i []++[(p:Int)])) else none with
  |some r'=>
   rw[hf] at h
   simp only[Option.some.injEq] at h
   subst h
   obtain⟨i,hi,h2⟩:=List.exists_of_findSome?_eq_some hf
   have hi:=List.mem_range.1 hi
   split at h2
   ·have eg:S.getD i []=S[i]:=by rw[List.getD_eq_getElem?_getD,List.getElem?_eq_getElem hi,Option.getD_some]
    rw[eg] at h2
    have hni:=hne _ (List.getElem_mem hi)
    have em:(S.set i (S[i]++[(p:Int)])).map (fun l=>l.headD 0)=S.map fun l=>l.headD 0:=by
     refine List.ext_getElem ygb fun j h1 h3=>?_
     rw[List.getElem_map,List.getElem_map,List.getElem_set]
     split
     ·rename_i e;subst e
      cases hc:S[i] with
      |nil=>exact absurd hc hni
      |cons a b=>rfl
     ·rfl
    refine putR_hd (fun l hl=>?_) (by rw[em];exact hp) (fun x hx=>by rw[em] at hx;have:=hlt x hx;omega) h2
    rcases List.mem_or_eq_of_mem_set hl with h4|h4
    ·exact hne l h4
    ·rw[h4];simp
   ·cases h2
  |none=>
   rw[hf] at h
   simp only at h
   split at h
   ·cases h
   ·refine putR_hd (fun l hl=>?_) ?_ (fun x hx=>?_) h
    ·rcases List.mem_append.1 hl with h4|h4
     ·exact hne l h4
     ·rw[List.mem_singleton] at h4;rw[h4];simp
    ·rw[List.map_append]
     refine List.pairwise_append.2 ⟨hp,by simp,fun a ha b hb=>?_⟩
     simp only[List.map_cons,List.map_nil,List.mem_singleton,List.headD_cons] at hb
     subst hb;exact hlt a ha
    ·rw[List.map_append] at hx
     rcases List.mem_append.1 hx with h4|h4
     ·have:=hlt x h4;omega
     ·simp only[List.map_cons,List.map_nil,List.mem_singleton,List.headD_cons] at h4
      omega
theorem sortR_hd {T:Int→Int→Bool}{n:Nat}{S:List (List Int)}(h:sortR T n=some S):(S.map fun l=>l.headD 0).Pairwise (· < ·):=by
 unfold sortR at h
 obtain⟨m,_,h2⟩:=List.exists_of_findSome?_eq_some h
 exact putR_hd (k:=n) (p:=0) (S:=[]) ygb ygb ygb h2
theorem chi_bd2 (T:Int→Int→Bool)(n:Nat):chi T n≤n:=
 chi_le (g:=fun x=>x.toNat) ⟨fun x h0 h1=>by dsimp only;omega,fun x y a0 a1 b0 b1 hne he=>by dsimp only at he;omega⟩
def Pos1 (i:Nat):Prop:=1≤i
def grL (t:Tb)(p:Int):List Int:=(grR t p).getD []
def strL (t:Tb):List Int:=if check t=0 then(strR t).getD [] else[]
theorem LsOut.slI {h':H}{y:V}{r:Option (List Int)}(a:LsOut h' y r)(hw:h'.wf):Zg h' y 1 ((r.getD []).map encI):=by
 cases r with
 |some c=>exact a.sl
 |none=>
  have:y=.nils:=a
  rw[this];exact(Zq.nil (H.Sub.refl hw) 1).sl ygb
theorem OutAt.slI {h':H}{y:V}{r:Option (List Int)}(a:OutAt h' y r)(hw:h'.wf):Zg h' y 1 ((r.getD []).map encI):=by
 cases r with
 |some c=>exact a.1
 |none=>
  have:y=.nils:=a
  rw[this];exact(Zq.nil (H.Sub.refl hw) 1).sl ygb
theorem hasP_pos {p:Int}(h:0≤p):X6 p=fun l=>l.any fun r=>decide (p=r):=by
 funext l;unfold X6;rw[decide_eq_false ygc,Bool.false_or]
theorem hasP_neg:X6 (-1)=fun _=>true:=by funext l;rfl
noncomputable def srtC (t:Tb)(S:List (List Int)):Bool:= @decide (check t=0∧SrtP t S) (Classical.propDecidable _)
theorem srtC_ok {t:Tb}(c:check t=0)(S:List (List Int)):srtC t S=srtB t S:=by
 unfold srtC srtB
 by_cases h:SrtP t S
 ·rw[@decide_eq_true _ (Classical.propDecidable _) h, @decide_eq_true _ (Classical.propDecidable _) ⟨c,h⟩]
 ·rw[@decide_eq_false _ (Classical.propDecidable _) h, @decide_eq_false _ (Classical.propDecidable _) (fun a=>h a.2)]
theorem srtC_no {t:Tb}(c:check t≠0)(S:List (List Int)):srtC t S=false:=by
 unfold srtC
 rw[@decide_eq_false _ (Classical.propDecidable _) (fun a=>c a.1)]
def chiC (t:Tb):Int:=if check t=0 then(chi (mT t) t.pieces.length:Int) else 0
set_option maxRecDepth 4000 in
set_option maxHeartbeats 8000000 in
theorem EyeSets_sub {h:H}{v y:V}{t:Tb}{S:List (List Int)}(hw:h.wf)(ht:ZK h v t)(hS:RdI h y S)(p:Int):
  Ev fnG Zm (.fn 3 [] []) [v,.ii p,y] h (fun u h'=>u=.bool true∧h.Sub h'):=by
 have ht0:=ht
 obtain⟨E,L,P,rfl,aE,aL,aP⟩:=ht
 refine Zd (fd:=c3) rfl rfl rfl ?_
 have s3:h.Sub (h.add (.bk [E,L,P])):=yga
 have q3:(h.add (.bk [E,L,P])).cells h.next=some [E,L,P]:=Zf rfl
 simp(disch:=first|omega|simp only[nZ]<;>omega|fail)only[c3,go_sem]
 generalize(h.add (.bk [E,L,P]))=h3 at s3 q3⊢
 refine wide_ev s3.wf (ht0.mono s3) _ fun h4 s34=>?_
 cases hwd:wideB t
 case true=>
  simp(disch:=first|omega|simp only[nZ]<;>omega|fail)only[go_sem,YC]
  first|exact⟨rfl,s3.trans s34⟩|exact s3.trans s34
 have hg:YO t=false:=by unfold wideB at hwd;rw[Bool.or_eq_false_iff] at hwd;exact hwd.1
 have hsm:=Small_of hg
 simp(disch:=first|omega|simp only[nZ]<;>omega|fail)only[go_sem]
 refine long_ev s34.wf (hS.mono (s3.trans s34)) _ ?_
 cases hlg:longB S
 case true=>
  simp(disch:=first|omega|simp only[nZ]<;>omega|fail)only[go_sem,YC]
  first|exact⟨rfl,s3.trans s34⟩|exact s3.trans s34
 obtain⟨hl15,hll15⟩:=longB_of hlg
 simp(disch:=first|omega|simp only[nZ]<;>omega|fail)only[go_sem,s34.cells q3]
 refine own_ev s34.wf (ht0.mono (s3.trans s34)) hsm _ fun u h5 s45 hu=>?_
 have s35:=s34.trans s45
 simp(disch:=first|omega|simp only[nZ]<;>omega|fail)only[go_sem,s34.cells q3,s35.cells q3]
 refine Vm s45.wf (ht0.mono (s3.trans s35)) hsm _ fun o h6 s56 ho=>?_
 have s36:=s35.trans s56
 have hu0:=hu.is hsm
 have ho0:=ho
 obtain⟨a1,a2,a3,rfl,hu⟩:=hu
 obtain⟨E2,L2,P2,rfl,o1,o2,o3⟩:=ho
 have n1:=o1.one
 have n2:=o2.one
 have n3:=o3.one
 simp(disch:=first|omega|simp only[nZ]<;>omega|fail)only[go_sem,s34.cells q3,s35.cells q3,s36.cells q3,n1,n2,n3]
 refine dupRows_ev s56.wf (hS.mono (s3.trans s36)) ygc (fun l hl=>by have:=hll15 l hl;omega) _ fun y9 hm s6m y91 hy9=>?_
 have s67:hm.Sub ((((hm.add (.bk [.nils,.nils,.nils])).add (.bk [.nils,.nils,.nils])).set hm.next (.bk [.sl a1 0 t.eyes.length (.fix t.eyes.length),.sl a2 0 t.lights.length (.fix t.lights.length),.sl a3 0 t.pieces.length (.fix t.pieces.length)])).set (hm.next+1) (.bk [E2,L2,P2])):=((((H.Sub.refl s6m.wf).add _).add _).set (b:=hm.next) (Nat.le_refl _) (by simp only[H.next_add];omega) s6m.wf _).set (b:=hm.next+1) ygc (by simp only[H.next_set,H.next_add];omega) s6m.wf _
 have c7:((((hm.add (.bk [.nils,.nils,.nils])).add (.bk [.nils,.nils,.nils])).set hm.next (.bk [.sl a1 0 t.eyes.length (.fix t.eyes.length),.sl a2 0 t.lights.length (.fix t.lights.length),.sl a3 0 t.pieces.length (.fix t.pieces.length)])).set (hm.next+1) (.bk [E2,L2,P2])).cells hm.next=some [.sl a1 0 t.eyes.length (.fix t.eyes.length),.sl a2 0 t.lights.length (.fix t.lights.length),.sl a3 0 t.pieces.length (.fix t.pieces.length)]:=by simp(disch:=first|omega|simp only[nZ]<;>omega|fail)only[go_sem]
 have c8:((((hm.add (.bk [.nils,.nils,.nils])).add (.bk [.nils,.nils,.nils])).set hm.next (.bk [.sl a1 0 t.eyes.length (.fix t.eyes.length),.sl a2 0 t.lights.length (.fix t.lights.length),.sl a3 0 t.pieces.length (.fix t.pieces.length)])).set (hm.next+1) (.bk [E2,L2,P2])).cells (hm.next+1)=some [E2,L2,P2]:=by simp(disch:=first|omega|simp only[nZ]<;>omega|fail)only[go_sem]
 have q3m:=(s36.trans s6m).cells q3
 simp(disch:=first|omega|simp only[nZ]<;>omega|fail)only[go_sem,s34.cells q3,s35.cells q3,s36.cells q3,q3m,n1,n2,n3,y91]
 generalize(((hm.add (.bk [.nils,.nils,.nils])).add (.bk [.nils,.nils,.nils])).set hm.next (.bk [.sl a1 0 t.eyes.length (.fix t.eyes.length),.sl a2 0 t.lights.length (.fix t.lights.length),.sl a3 0 t.pieces.length (.fix t.pieces.length)])).set (hm.next+1) (.bk [E2,L2,P2])=h7 at s67 c7 c8⊢
 have s57:=s6m.trans s67
 have s37:=s36.trans s57
 have s7:=s3.trans s37
 have hS7:=hS.mono s7
 have hy7:=hy9.mono s67
 refine X2 s7.wf (ho0.mono s57) _ fun h8 s78=>?_
 simp(disch:=first|omega|simp only[nZ]<;>omega|fail)only[go_sem]
 refine Wc (R:=fun x1 s=>x1=.nrm∧∃tm h' y12 y13,s=⟨tm,h',[]⟩∧h7.Sub h'∧Zg h' y12 1 ((grL t p).map encI)∧Zg h' y13 1 ((strL t).map encI)∧tm.E 1=.ii p∧tm.E 2=y∧tm.E 3=.ptr h.next 0∧tm.E 7=.ptr hm.next 0∧tm.E 8=.ptr (hm.next+1) 0∧tm.E 9=y9∧tm.E 10=.ii (check t)∧tm.E 11=.ii (grE t p)∧tm.E 12=y12∧tm.E 13=y13∧tm.E 14=.ii (chiC t)∧tm.E 15=.bool (srtC t S)) ?_ fun x1 s hx1=>?_
 ·by_cases c:check t=0
  case neg=>
   have w1:grE t p=check t:=by unfold grE;rw[if_pos c]
   have w2:grL t p=[]:=by unfold grL grR;rw[w1,if_neg c];rfl
   have w3:strL t=[]:=if_neg c
   have w4:chiC t=0:=if_neg c
   rw[w1,w2,w3,w4,srtC_no c]
   simp(disch:=first|omega|simp only[nZ]<;>omega|fail)only[go_sem,c]
   exact⟨_,_,.nils,.nils,rfl,s78,(Zq.nil s78 1).sl ygb,(Zq.nil s78 1).sl ygb,ygb,ygb,ygb,ygb,ygb,ygb,ygb,ygb,ygb,ygb,ygb,ygb⟩
  have g:=Z5.1 c
  have cd:decide (check t=0)=true:=decide_eq_true c
  rw[cd]
  have gp:=g.pieces
  have pc:(if 0≤p∧p<(t.pieces.length:Int) then(0:Int) else 1)=grE t p:=by
   have e:Y0 t p=decide (0≤p∧p<(t.pieces.length:Int)):=rfl
   have e2:grE t p=if Y0 t p=false then 1 else 0:=by unfold grE;rw[if_neg (by simp[c])]
   rw[e2,e]
   by_cases h:0≤p∧p<(t.pieces.length:Int)
   ·rw[if_pos h,decide_eq_true h];rfl
   ·rw[if_neg h,decide_eq_false h];rfl
  simp(disch:=first|omega|simp only[nZ]<;>omega|fail)only[go_sem,s78.cells c8]
  refine X0 s78.wf (ho0.mono (s57.trans s78)) p _ fun h9 s89=>?_
  rw[pc]
  have s79:=s78.trans s89
  simp(disch:=first|omega|simp only[nZ]<;>omega|fail)only[go_sem]
  refine Wc (R:=fun x1 s=>x1=.nrm∧∃tm h' y12,s=⟨tm,h',[]⟩∧h7.Sub h'∧Zg h' y12 1 ((grL t p).map encI)∧tm.E 1=.ii p∧tm.E 2=y∧tm.E 3=.ptr h.next 0∧tm.E 7=.ptr hm.next 0∧tm.E 8=.ptr (hm.next+1) 0∧tm.E 9=y9∧tm.E 10=.ii 0∧tm.E 11=.ii (grE t p)∧tm.E 12=y12) ?_ fun x1 s hx1=>?_
  ·by_cases cg:grE t p=0
   ·rw[decide_eq_true cg]
    have hp0:0≤p:=by
     unfold grE Y0 at cg
     rw[if_neg (by simp[c])] at cg
     by_cases h:0≤p∧p<(t.pieces.length:Int)
     ·exact h.1
     ·rw[decide_eq_false h] at cg;simp at cg
    simp(disch:=first|omega|simp only[nZ]<;>omega|fail)only[go_sem,s79.cells c8]
    refine refMost_ev s79.wf (ho0.mono (s57.trans s79)) g true p _ fun y12 hA sA oA=>?_
    have e1:grL t p=(lastOf (Yv (mB t true) (X6 p)) t.pieces.length t.pieces.length).getD []:=by unfold grL grR;rw[if_pos cg,mB_true,hasP_pos hp0]
    simp(disch:=first|omega|simp only[nZ]<;>omega|fail)only[go_sem]
    exact⟨_,_,y12,rfl,s79.trans sA,by rw[e1];exact oA.slI sA.wf,ygb,ygb,ygb,ygb,ygb,ygb,(by rw[←c];exact(by simp)),ygb,ygb⟩
   ·rw[decide_eq_false cg]
    have e1:grL t p=[]:=by unfold grL grR;rw[if_neg cg];rfl
    rw[e1]
    simp(disch:=first|omega|simp only[nZ]<;>omega|fail)only[go_sem]
    exact⟨_,_,.nils,rfl,s79,(Zq.nil s79 1).sl ygb,ygb,ygb,ygb,ygb,ygb,ygb,(by rw[←c];exact(by simp)),ygb,ygb⟩
  obtain⟨rfl,tm,hA,y12,rfl,s7A,a12,t1,t2,t3,t7,t8,t9,t10,t11,t12⟩:=hx1
  simp(disch:=first|omega|simp only[nZ]<;>omega|fail)only[go_sem,t1,t2,t3,t7,t8,t9,t10,t11,t12,s7A.cells c8]
  refine refMost_ev s7A.wf (ho0.mono (s57.trans s7A)) g false (-1) _ fun y13 hB sB oB=>?_
  have s7B:=s7A.trans sB
  simp(disch:=first|omega|simp only[nZ]<;>omega|fail)only[go_sem,t1,t2,t3,t7,t8,t9,t10,t11,t12,s7A.cells c8,s7B.cells c8]
  refine refSort_ev s7B.wf (ho0.mono (s57.trans s7B)) g _ fun hC sC=>?_
  have s7C:=s7B.trans sC
  simp(disch:=first|omega|simp only[nZ]<;>omega|fail)only[go_sem,t1,t2,t3,t7,t8,t9,t10,t11,t12,s7A.cells c8,s7B.cells c8,s7C.cells c8]
  refine refSorted_ev s7C.wf (ho0.mono (s57.trans s7C)) g (hS7.mono s7C) _ fun hD sD=>?_
  have s7D:=s7C.trans sD
  have e3:strL t=(lastOf (Yv (mB t false) (X6 (-1))) t.pieces.length t.pieces.length).getD []:=by unfold strL strR;rw[if_pos c,mB_false,hasP_neg]
  have e4:chiC t=(chi (mT t) t.pieces.length:Int):=if_pos c
  rw[srtC_ok c,e4]
  simp(disch:=first|omega|simp only[nZ]<;>omega|fail)only[go_sem,t1,t2,t3,t7,t8,t9,t10,t11,t12,s7A.cells c8,s7B.cells c8,s7C.cells c8]
  exact⟨_,_,y12,y13,rfl,s7D,a12.mono (sB.trans (sC.trans sD)),by rw[e3];exact(oB.mono (sC.trans sD)).slI sD.wf,ygg,ygi,ygm,ygj,(by simp[t8]),ygw,ygu,(by simp[t11]),(by simp[t12]),ygb,ygb,ygb⟩
 obtain⟨rfl,tm,h',y12,y13,rfl,sM,a12,a13,t1,t2,t3,t7,t8,t9,t10,t11,t12,t13,t14,t15⟩:=hx1
 have sX:=s56.trans (s57.trans sM)
 have s3M:=s37.trans sM
 have nn:∀n:Int,decide (n≠n)=false:=fun n=>by simp
 have bb:∀b:Bool,(!(b==b))=false:=fun b=>by cases b<;>rfl
 simp(disch:=first|omega|simp only[nZ]<;>omega|fail)only[go_sem,t1,t2,t3,t7,t8,t9,t10,t11,t12,t13,t14,t15,sM.cells c7]
 refine Greatest_ev sM.wf (hu0.mono sX) p _ fun y16 hA sA o16=>?_
 simp(disch:=first|omega|simp only[nZ]<;>omega|fail)only[go_sem,t1,t2,t3,t7,t8,t9,t10,t11,t12,t13,t14,t15,(sM.trans sA).cells c7]
 refine Sort_ev sA.wf (hu0.mono (sX.trans sA)) _ fun y18 hB sB o18=>?_
 have sAB:=sA.trans sB
 simp(disch:=first|omega|simp only[nZ]<;>omega|fail)only[go_sem,t1,t2,t3,t7,t8,t9,t10,t11,t12,t13,t14,t15,(sM.trans sAB).cells c7]
 refine Sorted_ev sB.wf (hu0.mono (sX.trans sAB)) (hy7.mono (sM.trans sAB)) ygc (fun l hl=>by have:=hll15 l hl;omega) _ fun hC sC=>?_
 have sAC:=sAB.trans sC
 rw[show @decide (check t=0∧SrtP t S) (Classical.propDecidable _)=srtC t S from rfl]
 simp(disch:=first|omega|simp only[nZ]<;>omega|fail)only[go_sem,t1,t2,t3,t7,t8,t9,t10,t11,t12,t13,t14,t15,(sM.trans sAC).cells c7]
 refine Strangers_ev sC.wf (hu0.mono (sX.trans sAC)) _ fun y22 hD sD o22=>?_
 have sAD:=sAC.trans sD
 have a16:Zg hD y16 1 ((grL t p).map encI):=(o16.slI sA.wf).mono (sB.trans (sC.trans sD))
 have a22:Zg hD y22 1 ((strL t).map encI):=by
  have:=o22.slI sD.wf
  unfold strL
  by_cases c:check t=0
  ·rw[if_pos c] at this⊢;exact this
  ·rw[if_neg c] at this⊢;exact this
 have e1:=fun R=>WN a16 (a12.mono sAD) R
 have e2:=fun R=>WN a22 (a13.mono sAD) R
 simp only[decide_eq_true rfl] at e1 e2
 obtain⟨S0,eS1,aS,_⟩:=VO (mT t) t.pieces.length
 have hSl:S0.length=chi (mT t) t.pieces.length:=by unfold chi;rw[eS1];rfl
 obtain⟨S1,hS1⟩:∃S1,(if check t=0 then(sortR (mT t) t.pieces.length).getD [] else[])=S1:=⟨_,rfl⟩
 rw[hS1] at o18
 have hsm3:=hsm.2.2
 have hS1l:S1.length≤1000∧((S1.length:Int)=chiC t)∧(∀l∈S1,l≠[]∧l.length≤1000)∧(S1.map fun l=>l.headD 0).Pairwise (· < ·)∧(check t=0→srtB t S1=true):=by
  by_cases c:check t=0
  ·rw[if_pos c,eS1] at hS1
   have hS1:S0=S1:=hS1
   subst hS1
   have:=chi_bd2 (mT t) t.pieces.length
   refine⟨by omega,by unfold chiC;rw[if_pos c,hSl],fun l hl=>⟨aS.ne l hl,?_⟩,sortR_hd eS1,fun _=>srt_srtB aS⟩
   have h1:=nodup_len ((aS.up l hl).imp fun h=>by omega) fun x hx=>aS.mem hl hx
   omega
  ·rw[if_neg c] at hS1
   subst hS1
   exact⟨by simp,by unfold chiC;rw[if_neg c];rfl,by simp,by simp,fun h=>absurd h c⟩
 obtain⟨k1,k2,k3,k4,k5⟩:=hS1l
 have rd:=ZL.rdI o18 k1 fun l hl=>(k3 l hl).2
 have lS:=rd.len
 rw[k2] at lS
 have sBD:=sC.trans sD
 obtain⟨R,hR⟩:∃R:C,Xz [true,true,true,true,true,true,true,true,true,true,true,true,true,true] c3.body=R:=⟨_,rfl⟩
 have tail:∀(tm:Go.Ab.T V) (hh:H),hD.Sub hh→tm.E 2=y→tm.E 3=.ptr h.next 0→tm.E 7=.ptr hm.next 0→tm.E 9=y9→tm.E 18=y18→
   W fnG Zm 160 3 none R ⟨tm,hh,[]⟩ fun x1 s=>x1=.ret∧∃tm hz,s=⟨tm,hz,[]⟩∧hD.Sub hz∧tm.E 6=.bool true:=by
  clear t1 t2 t3 t7 t8 t9 t10 t11 t12 t13 t14 t15
  intro tm hh sh t2 t3 t7 t9 t18
  subst hR
  have rdh:=(rd.mono sBD).mono sh
  have lSh:=rdh.len
  have sMh:=sM.trans (sAD.trans sh)
  simp(disch:=first|omega|simp only[nZ]<;>omega|fail)only[Xz,c3,go_sem,t2,t3,t7,t9,t18]
  refine W.mono (Q:=fun x1 s=>x1=.ext 0∧∃tm,s=⟨tm,hh,[]⟩∧tm.E 2=y∧tm.E 3=.ptr h.next 0∧tm.E 7=.ptr hm.next 0∧tm.E 9=y9)
   (Zh (max S1.length 1) (fun i s=>∃tm,s=⟨tm,hh,[]⟩∧Pos1 i∧tm.E 2=y∧tm.E 3=.ptr h.next 0∧tm.E 7=.ptr hm.next 0∧tm.E 9=y9∧tm.E 18=y18∧tm.E 24=.ii (i:Int))
   ?_ ?_ (i:=1) ygc ⟨_,rfl,Nat.le_refl 1,ygi,ygm,ygj,ygw,(by simp[t18]),ygb⟩) fun x1 s hx1=>?_
  ·clear t2 t3 t7 t9 t18
   rintro i s hi ⟨tm,rfl,hp1,t2,t3,t7,t9,t18,t24⟩
   have hp1:1≤i:=hp1
   obtain⟨i,rfl⟩:∃k,i=k+1:=⟨i-1,by omega⟩
   have hil:i+1<S1.length:=by omega
   have hi':((i+1:Nat):Int)<(S1.length:Int):=by omega
   have w1:wr .i64 (((i+1:Nat):Int)-1)=(i:Int):=by rw[ZC ygc ygc];omega
   obtain⟨b1,o1',cs1,v1,r1,r2,r3,r4⟩:=rdh.row hil
   obtain⟨b2,o2',cs2,v2,r5,r6,r7,r8⟩:=rdh.row (show i<S1.length by omega)
   have n1:=(k3 _ (List.getElem_mem hil)).1
   have n2:=(k3 _ (List.getElem_mem (show i<S1.length by omega))).1
   have l1:0<(S1[i+1]).length:=List.length_pos_iff.2 n1
   have l2:0<(S1[i]).length:=List.length_pos_iff.2 n2
   obtain⟨b3,o3',cs3,f1,f2,f3⟩:=Zg.elemF (r4.sl n1) l1
   obtain⟨b4,o4',cs4,f4,f5,f6⟩:=Zg.elemF (r8.sl n2) l2
   have hlt:S1[i][0]<S1[i+1][0]:=by
    have:=List.pairwise_iff_getElem.1 k4 i (i+1) ygk ygk ygc
    rw[List.getElem_map,List.getElem_map,List.headD_eq_head?_getD,List.headD_eq_head?_getD,List.head?_eq_getElem?,List.head?_eq_getElem?,List.getElem?_eq_getElem l1,List.getElem?_eq_getElem l2] at this
    exact this
   have hnle:¬S1[i+1][0]≤S1[i][0]:=by omega
   have f1':ZS 1 v1 (.ii 0)=some (.ptr b3 o3'):=f1
   have f4':ZS 1 v2 (.ii 0)=some (.ptr b4 o4'):=f4
   simp(disch:=first|omega|simp only[nZ]<;>omega|fail)only[go_sem,t2,t3,t7,t9,t18,t24,lSh,hi',w1,r1,r2,r3,r5,r6,r7,f1',f2,f3,f4',f5,f6,hnle,Zc]
   exact⟨_,rfl,(by show 1≤i+1+1;omega),ygi,ygm,ygj,ygw,(by simp[t18]),ygb⟩
  ·clear t2 t3 t7 t9 t18
   rintro s ⟨tm,rfl,hp1,t2,t3,t7,t9,t18,t24⟩
   have hnl:¬((max S1.length 1:Nat):Int)<(S1.length:Int):=by omega
   simp(disch:=first|omega|simp only[nZ]<;>omega|fail)only[go_sem,t2,t3,t7,t9,t18,t24,lSh,hnl]
   exact⟨_,rfl,ygi,ygm,ygj,ygw⟩
  clear t2 t3 t7 t9 t18
  obtain⟨rfl,tm,rfl,t2,t3,t7,t9⟩:=hx1
  have c7h:=sMh.cells c7
  have q3h:=(s37.trans sMh).cells q3
  simp(disch:=first|omega|simp only[nZ]<;>omega|fail)only[go_sem,t2,t3,t7,t9,c7h,q3h]
  refine same_ev sh.wf (hu0.mono (sX.trans (sAD.trans sh))) (ht0.mono (s3.trans (s37.trans sMh))) _ fun hE sE=>?_
  rw[decide_eq_true rfl]
  simp(disch:=first|omega|simp only[nZ]<;>omega|fail)only[go_sem,t2,t3,t7,t9,c7h,q3h]
  refine eqRowsI_ev sE.wf (hy7.mono (sMh.trans sE)) (hS7.mono (sMh.trans sE)) _ fun hF sF=>?_
  simp(disch:=first|omega|simp only[nZ]<;>omega|fail)only[go_sem,t2,t3,t7,t9,YC]
  first|exact⟨_,_,rfl,sh.trans (sE.trans sF),ygb⟩|exact⟨rfl,_,_,rfl,sh.trans (sE.trans sF),ygb⟩
 simp only[Xz,c3] at hR
 rw[hR]
 by_cases c:check t=0
 ·have dc:decide (check t=0)=true:=decide_eq_true c
  have g:=Z5.1 c
  have k5':=k5 c
  simp(disch:=first|omega|simp only[nZ]<;>omega|fail)only[go_sem,t1,t2,t3,t7,t8,t9,t10,t11,t12,t13,t14,t15,nn,bb,e1,e2,lS,Bool.not_true,dc,(sM.trans sAD).cells c8]
  refine refSorted_ev sD.wf (ho0.mono (s57.trans (sM.trans sAD))) g (rd.mono sBD) _ fun hE sE=>?_
  rw[k5']
  simp(disch:=first|omega|simp only[nZ]<;>omega|fail)only[go_sem,t1,t2,t3,t7,t8,t9,t10,t11,t12,t13,t14,t15,Bool.not_true]
  refine(tail _ hE sE ygi ygm ygj ygw ygb).mono fun x1 s hx1=>?_
  obtain⟨rfl,tm,hz,rfl,sz,t6⟩:=hx1
  simp(disch:=first|omega|simp only[nZ]<;>omega|fail)only[go_sem,t6]
  first|exact⟨rfl,s3.trans (s37.trans (sM.trans (sAD.trans sz)))⟩|exact s3.trans (s37.trans (sM.trans (sAD.trans sz)))
 ·have dc:decide (check t=0)=false:=decide_eq_false c
  simp(disch:=first|omega|simp only[nZ]<;>omega|fail)only[go_sem,t1,t2,t3,t7,t8,t9,t10,t11,t12,t13,t14,t15,nn,bb,e1,e2,lS,Bool.not_true,dc]
  refine(tail _ hD (H.Sub.refl sD.wf) ygi ygm ygj ygw ygb).mono fun x1 s hx1=>?_
  obtain⟨rfl,tm,hz,rfl,sz,t6⟩:=hx1
  simp(disch:=first|omega|simp only[nZ]<;>omega|fail)only[go_sem,t6]
  first|exact⟨rfl,s3.trans (s37.trans (sM.trans (sAD.trans sz)))⟩|exact s3.trans (s37.trans (sM.trans (sAD.trans sz)))
end Go.Ab.Tryz
namespace Go.Ab.Tryz
open Go.Ab.Silk (Inc Zo ZI before VK Z4 Yb)
def Wm (t:Tb)(a b:Sd)(n:Nat):Bool:=(List.range n).any fun k=>ZO t k a b
def XX (t:Tb)(l:List Int)(a b:Sd)(n:Nat):Bool:=(List.range n).any fun k=>ZO t k a b&&l.any fun r=>decide (r=(k:Int))
theorem okPair_AS {t:Tb}{l:List Int}{r p:Nat}(hr:r<t.pieces.length)(hp:p<t.pieces.length):Xi t l r p= !(Wm t t.pieces[p] t.pieces[r] t.eyes.length&& !XX t l t.pieces[p] t.pieces[r] t.eyes.length):=by
 unfold Xi
 rw[tellP_at hr hp,tellK_comm]
 cases hA:Wm t t.pieces[p] t.pieces[r] t.eyes.length
 ·have:Yc t t.pieces[p] t.pieces[r] t.eyes.length=[]:=tellK_nil.2 fun i hi=>by
   unfold Wm at hA
   rw[List.any_eq_false] at hA
   simpa using hA i (List.mem_range.2 hi)
  rw[this];rfl
 ·have hne:¬(Yc t t.pieces[p] t.pieces[r] t.eyes.length).length=0:=fun h=>by
   have h:=tellK_nil.1 (List.length_eq_zero_iff.1 h)
   unfold Wm at hA
   obtain⟨k,hk,e⟩:=List.any_eq_true.1 hA
   rw[h k (List.mem_range.1 hk)] at e;cases e
  rw[decide_eq_false hne,Bool.false_or,Bool.true_and,Bool.not_not,Bool.eq_iff_iff]
  unfold XX
  rw[List.any_eq_true,List.any_eq_true]
  constructor
  ·rintro⟨x,hx,h⟩
   obtain⟨j,hj,rfl,e⟩:=XT.1 hx
   refine⟨j,List.mem_range.2 hj,?_⟩
   rw[e,Bool.true_and]
   obtain⟨z,hz,ez⟩:=List.any_eq_true.1 h
   exact List.any_eq_true.2 ⟨z,hz,by simpa using(of_decide_eq_true ez).symm⟩
  ·rintro⟨j,hj,h⟩
   rw[Bool.and_eq_true] at h
   obtain⟨z,hz,ez⟩:=List.any_eq_true.1 h.2
   exact⟨(j:Int),XT.2 ⟨j,List.mem_range.1 hj,rfl,h.1⟩,List.any_eq_true.2 ⟨z,hz,by simpa using(of_decide_eq_true ez).symm⟩⟩
set_option maxHeartbeats 2000000 in
theorem refEnough_ev {h:H}{v x:V}{t:Tb}{l:List Int}(hw:h.wf)(ht:ZK h v t)(g:Good t)(hx:Zg h x 1 (l.map encI))(Q:V→H→Prop)(q:∀h',h.Sub h'→Q (.bool (Zw t l)) h'):Ev fnG Zm (.fn 28 [] []) [v,x] h Q:=by
 have ht0:=ht
 obtain⟨E,L,P,rfl,aE,aL,aP⟩:=ht
 have hlE:=aE.lenE
 have hlP:=aP.lenE
 have gE:=g.eyes
 have gp:=g.pieces
 have s1:h.Sub (h.add (.bk [E,L,P])):=yga
 have g1:(h.add (.bk [E,L,P])).cells h.next=some [E,L,P]:=Zf rfl
 refine Zd (fd:=c28) rfl rfl rfl ?_
 simp(disch:=omega)only[c28,go_sem]
 generalize h.add (.bk [E,L,P])=h1 at s1 g1⊢
 refine Zh t.pieces.length (fun a s=>∃tm h',s=⟨tm,h',[]⟩∧h1.Sub h'∧(∀p,p<a→∀r,r<p→Xi t l r p=true)∧tm.E 1=x∧tm.E 2=.ptr h.next 0∧tm.E 5=.ii (a:Int))
  ?_ ?_ (i:=0) (Nat.zero_le _) ⟨_,_,rfl,H.Sub.refl s1.wf,fun p hp=>by omega,ygh,ygh,ygh⟩
 ·rintro a s ha ⟨tm,h',rfl,hs,hok,t1,t2,t5⟩
  have ha':(a:Int)<(t.pieces.length:Int):=by omega
  simp(disch:=omega)only[go_sem,t1,t2,t5,hs.cells g1,hlP,ha']
  refine Zh a (fun b s=>∃tm h',s=⟨tm,h',[]⟩∧h1.Sub h'∧(∀r,r<b→Xi t l r a=true)∧tm.E 1=x∧tm.E 2=.ptr h.next 0∧tm.E 5=.ii (a:Int)∧tm.E 6=.ii (b:Int))
   ?_ ?_ (i:=0) (Nat.zero_le _) ⟨_,_,rfl,hs,fun r hr=>by omega,ygq,ygr,ygt,ygh⟩
  ·clear t1 t2 t5 hs
   rintro b s hb ⟨tm,h',rfl,hs,hok2,t1,t2,t5,t6⟩
   have hb':(b:Int)<(a:Int):=by omega
   have hbp:b<t.pieces.length:=by omega
   have ia:=g.piece _ (List.getElem_mem ha)
   have ib:=g.piece _ (List.getElem_mem hbp)
   simp(disch:=omega)only[go_sem,t1,t2,t5,t6,hb']
   refine W.mono (Q:=fun x1 s=>x1=.ext 4∧∃tm h',s=⟨tm,h',[]⟩∧h1.Sub h'∧tm.E 1=x∧tm.E 2=.ptr h.next 0∧tm.E 5=.ii (a:Int)∧tm.E 6=.ii (b:Int)∧tm.E 7=.bool (XX t l t.pieces[a] t.pieces[b] t.eyes.length)∧tm.E 8=.bool (Wm t t.pieces[a] t.pieces[b] t.eyes.length))
    (Zh t.eyes.length (fun i s=>∃tm h',s=⟨tm,h',[]⟩∧h1.Sub h'∧tm.E 1=x∧tm.E 2=.ptr h.next 0∧tm.E 5=.ii (a:Int)∧tm.E 6=.ii (b:Int)∧tm.E 7=.bool (XX t l t.pieces[a] t.pieces[b] i)∧tm.E 8=.bool (Wm t t.pieces[a] t.pieces[b] i)∧tm.E 9=.ii (i:Int))
    ?_ ?_ (i:=0) (Nat.zero_le _) ⟨_,_,rfl,hs,ygq,ygr,ygt,ygA,ygh,ygh,ygh⟩) fun x1 s hx1=>?_
   ·clear t1 t2 t5 t6 hs
    rintro i s hi ⟨tm,h',rfl,hs,t1,t2,t5,t6,t7,t8,t9⟩
    have hi':(i:Int)<(t.eyes.length:Int):=by omega
    obtain⟨bA,oA,cA,csA,eA,hcA,hqA,hgA,_,_⟩:=(aP.mono (s1.trans hs)).at ha
    obtain⟨bB,oB,cB,csB,eB,hcB,hqB,hgB,_,_⟩:=(aP.mono (s1.trans hs)).at hbp
    simp only[Zj] at hgA hgB
    have htl:=refTells_ev (h:=h') hs.wf (ht0.mono (s1.trans hs)) g hi ia ib
    simp only[Zj] at htl
    simp(disch:=omega)only[go_sem,t1,t2,t5,t6,t7,t8,t9,hs.cells g1,hlE,hi',hqA (Ze a),hcA,hgA,hqB (Ze b),hcB,hgB]
    refine htl _ fun h2 s2=>?_
    have hs2:=hs.trans s2
    have stA:Wm t t.pieces[a] t.pieces[b] (i+1)=(Wm t t.pieces[a] t.pieces[b] i||ZO t i t.pieces[a] t.pieces[b]):=XL i
    have stS:XX t l t.pieces[a] t.pieces[b] (i+1)=(XX t l t.pieces[a] t.pieces[b] i||(ZO t i t.pieces[a] t.pieces[b]&&l.any fun r=>decide (r=(i:Int)))):=XL i
    cases hT:ZO t i t.pieces[a] t.pieces[b]
    ·rw[hT,Bool.or_false] at stA
     rw[hT,Bool.false_and,Bool.or_false] at stS
     simp(disch:=omega)only[go_sem,t1,t2,t5,t6,t7,t8,t9,hs.cells g1,hqA (Ze a),hcA,hgA,hqB (Ze b),hcB,hgB,Zc]
     exact⟨_,_,rfl,hs2,ygq,ygr,ygt,ygA,by rw[stS];exact(by simp[t7]<;>rfl),by rw[stA];exact(by simp[t8]<;>rfl),ygh⟩
    ·rw[hT,Bool.or_true] at stA
     rw[hT,Bool.true_and] at stS
     cases hS:XX t l t.pieces[a] t.pieces[b] i
     ·rw[hS,Bool.false_or] at stS
      rw[hS] at t7
      simp(disch:=omega)only[go_sem,t1,t2,t5,t6,t7,t8,t9,hs.cells g1,hqA (Ze a),hcA,hgA,hqB (Ze b),hcB,hgB]
      refine hasR_ev hs2.wf (hx.mono (s1.trans hs2)) (i:Int) _ fun h3 s3=>?_
      simp(disch:=omega)only[go_sem,t1,t2,t5,t6,t7,t8,t9,Zc]
      exact⟨_,_,rfl,hs2.trans s3,ygq,ygr,ygt,ygA,by rw[stS];exact ygh,by rw[stA];exact ygh,ygh⟩
     ·rw[hS,Bool.true_or] at stS
      rw[hS] at t7
      simp(disch:=omega)only[go_sem,t1,t2,t5,t6,t7,t8,t9,hs.cells g1,hqA (Ze a),hcA,hgA,hqB (Ze b),hcB,hgB,Zc]
      exact⟨_,_,rfl,hs2,ygq,ygr,ygt,ygA,by rw[stS];exact ygh,by rw[stA];exact ygh,ygh⟩
   ·clear t1 t2 t5 t6 hs
    rintro s ⟨tm,h',rfl,hs,t1,t2,t5,t6,t7,t8,t9⟩
    simp(disch:=omega)only[go_sem,t1,t2,t5,t6,t7,t8,t9,hs.cells g1,hlE,Int.lt_irrefl]
    exact⟨_,_,rfl,hs,ygq,ygr,ygt,ygA,(by simp[t7]<;>rfl),(by simp[t8]<;>rfl)⟩
   clear t1 t2 t5 t6 hs
   obtain⟨rfl,tm,h',rfl,hs,t1,t2,t5,t6,t7,t8⟩:=hx1
   have hAS:=okPair_AS (l:=l) hbp ha
   cases hA:Wm t t.pieces[a] t.pieces[b] t.eyes.length
   ·rw[hA,Bool.false_and,Bool.not_false] at hAS
    rw[hA] at t8
    simp(disch:=omega)only[go_sem,t1,t2,t5,t6,t7,t8,Zc]
    exact⟨_,_,rfl,hs,fun r hr=>by
     by_cases e:r=b
     ·subst e;exact hAS
     ·exact hok2 r ygc,ygq,ygr,ygt,ygh⟩
   ·rw[hA,Bool.true_and,Bool.not_not] at hAS
    rw[hA] at t8
    cases hS:XX t l t.pieces[a] t.pieces[b] t.eyes.length
    ·rw[hS] at hAS t7
     have e:Zw t l=false:=by
      unfold Zw
      rw[List.all_eq_false]
      refine⟨a,List.mem_range.2 ha,?_⟩
      rw[Bool.not_eq_true,List.all_eq_false]
      exact⟨b,List.mem_range.2 hb,by rw[hAS];simp⟩
     rw[e] at q
     simp(disch:=omega)only[go_sem,t1,t2,t5,t6,t7,t8]
     exact q _ (s1.trans hs)
    ·rw[hS] at hAS t7
     simp(disch:=omega)only[go_sem,t1,t2,t5,t6,t7,t8,Zc]
     exact⟨_,_,rfl,hs,fun r hr=>by
      by_cases e:r=b
      ·subst e;exact hAS
      ·exact hok2 r ygc,ygq,ygr,ygt,ygh⟩
  ·clear t1 t2 t5 hs
   rintro s ⟨tm,h',rfl,hs,hok2,t1,t2,t5,t6⟩
   simp(disch:=omega)only[go_sem,t1,t2,t5,t6,Int.lt_irrefl,Zc]
   exact⟨_,_,rfl,hs,fun p hp r hr=>by
    by_cases e:p=a
    ·subst e;exact hok2 r hr
    ·exact hok p ygc r hr,ygq,ygr,ygh⟩
 ·rintro s ⟨tm,h',rfl,hs,hok,t1,t2,t5⟩
  have e:Zw t l=true:=by
   unfold Zw
   rw[List.all_eq_true]
   intro p hp
   rw[List.all_eq_true]
   intro r hr
   exact hok p (List.mem_range.1 hp) r (List.mem_range.1 hr)
  rw[e] at q
  simp(disch:=omega)only[go_sem,t1,t2,t5,hs.cells g1,hlP,Int.lt_irrefl]
  exact q _ (s1.trans hs)
end Go.Ab.Tryz
namespace Go.Ab.Tryz
open Go.Ab.Silk (Inc Zo ZI before VK Z4 Yb)
def FoundAt (h:H)(y:V)(f:Bool)(b:Option (List Int)):Prop:=match b with
 |none=>y=.nils∧f=false
 |some c=>Zg h y 1 (c.map encI)∧f=true∧c.length≤10
theorem FoundAt.mono {h h':H}{y:V}{f:Bool}{b:Option (List Int)}(a:FoundAt h y f b)(s:h.Sub h'):FoundAt h' y f b:=by
 cases b with
 |none=>exact a
 |some c=>exact⟨a.1.mono s,a.2⟩
set_option maxHeartbeats 2000000 in
theorem refFewest_ev {h:H}{v:V}{t:Tb}(hw:h.wf)(ht:ZK h v t)(g:Good t)(Q:V→H→Prop)(q:∀y h' c,h.Sub h'→few t=some c→Zg h' y 1 (c.map encI)→Q y h'):Ev fnG Zm (.fn 29 [] []) [v] h Q:=by
 have ht0:=ht
 obtain⟨E,L,P,rfl,aE,aL,aP⟩:=ht
 have hlE:=aE.lenE
 have gE:=g.eyes
 have s1:h.Sub (h.add (.bk [E,L,P])):=yga
 have g1:(h.add (.bk [E,L,P])).cells h.next=some [E,L,P]:=Zf rfl
 refine Zd (fd:=c29) rfl rfl rfl ?_
 simp(disch:=omega)only[c29,go_sem]
 generalize h.add (.bk [E,L,P])=h1 at s1 g1⊢
 have h2p:(2:Int)^t.eyes.length=((2^t.eyes.length:Nat):Int):=by simp
 have hset:=fun(hh:H) (R:V→H→Prop)=>sets_ev (h:=hh) (n:=t.eyes.length) ygc R
 have hp:=pow_le (i:=t.eyes.length) ygc
 refine Zh (2^t.eyes.length) (fun i s=>∃tm h' y f best,s=⟨tm,h',[]⟩∧h1.Sub h'∧Z4 (Zw t) t.eyes.length 0 (i:Int) best∧FoundAt h' y f best∧tm.E 1=.ptr h.next 0∧tm.E 3=y∧tm.E 4=.bool f∧tm.E 5=.ii (i:Int))
  ?_ ?_ (i:=0) (Nat.zero_le _) ⟨_,_,.nils,false,none,rfl,H.Sub.refl s1.wf,Z4.zero _ _ _,⟨rfl,rfl⟩,ygb,ygb,ygb,ygb⟩
 ·rintro i s hi ⟨tm,h',y,f,best,rfl,hs,hb,fy,t1,t3,t4,t5⟩
  have hi':(i:Int)<((2^t.eyes.length:Nat):Int):=by omega
  have es:((i+1:Nat):Int)=(i:Int)+1:=by omega
  simp(disch:=omega)only[go_sem,t1,t3,t4,t5,hs.cells g1,hlE,hset,h2p,hi']
  refine VS (n:=t.eyes.length) hs.wf ygc ygc (by rw[h2p];exact hi') _ fun z h2 oz=>?_
  have hlz:(Zo t.eyes.length (i:Int) 0).length≤6:=by have:=(Xq t.eyes.length (i:Int)).len ygc;omega
  have az:=oz.sl yge
  have lz:=az.lenE
  have hs2:=hs.trans oz.1
  have en:=fun R=>refEnough_ev (h:=h2) hs2.wf (ht0.mono (s1.trans hs2)) g az R
  have fy2:=fy.mono oz.1
  cases best with
  |none=>
   obtain⟨rfl,rfl⟩:=fy
   simp(disch:=omega)only[go_sem,t1,t3,t4,t5,hs2.cells g1]
   refine en _ fun h3 s3=>?_
   cases hP:Zw t (Zo t.eyes.length (i:Int) 0)
   ·simp(disch:=omega)only[go_sem,t1,t3,t4,t5,Zc]
    exact⟨_,_,_,_,none,rfl,hs2.trans s3,by rw[es];exact hb.skip (.inl hP),⟨rfl,rfl⟩,ygg,ygm,(by simp[t4]),ygb⟩
   ·simp(disch:=omega)only[go_sem,t1,t3,t4,t5,Zc]
    exact⟨_,_,_,_,some _,rfl,hs2.trans s3,by rw[es];exact hb.take hP (fun c e=>by cases e),⟨az.mono s3,rfl,by omega⟩,ygg,ygb,ygb,ygb⟩
  |some c=>
   obtain⟨ac,rfl,hc⟩:=fy
   have ac2:=ac.mono oz.1
   have lc:=ac2.lenE
   by_cases c1:(Zo t.eyes.length (i:Int) 0).length<c.length
   ·have hbf:Silk.before (Zo t.eyes.length (i:Int) 0) c=true:=by unfold Silk.before;rw[if_neg ygc];simpa using c1
    have c1':((Zo t.eyes.length (i:Int) 0).length:Int)<(c.length:Int):=by omega
    simp(disch:=omega)only[go_sem,t1,t3,t4,t5,hs2.cells g1,lz,lc,c1']
    refine en _ fun h3 s3=>?_
    cases hP:Zw t (Zo t.eyes.length (i:Int) 0)
    ·simp(disch:=omega)only[go_sem,t1,t3,t4,t5,Zc]
     exact⟨_,_,_,_,some c,rfl,hs2.trans s3,by rw[es];exact hb.skip (.inl hP),⟨ac2.mono s3,rfl,hc⟩,ygg,ygm,(by simp[t4]),ygb⟩
    ·simp(disch:=omega)only[go_sem,t1,t3,t4,t5,Zc]
     exact⟨_,_,_,_,some _,rfl,hs2.trans s3,by rw[es];exact hb.take hP (fun c' e=>by cases e;exact hbf),⟨az.mono s3,rfl,by omega⟩,ygg,ygb,ygb,ygb⟩
   ·have c1':¬((Zo t.eyes.length (i:Int) 0).length:Int)<(c.length:Int):=by omega
    by_cases c2:(Zo t.eyes.length (i:Int) 0).length=c.length
    ·have c2':((Zo t.eyes.length (i:Int) 0).length:Int)=(c.length:Int):=by omega
     have hbf:Silk.before (Zo t.eyes.length (i:Int) 0) c=ZI (Zo t.eyes.length (i:Int) 0) c:=by unfold Silk.before;rw[if_pos c2]
     have hfi:=fun R=>first_ev az ac2 c2 R
     cases hlx:ZI (Zo t.eyes.length (i:Int) 0) c
     ·rw[hlx] at hbf hfi
      simp(disch:=omega)only[go_sem,t1,t3,t4,t5,hs2.cells g1,lz,lc,c1',c2',Int.lt_irrefl,hfi,Zc]
      exact⟨_,_,_,_,some c,rfl,hs2,by rw[es];exact hb.skip (.inr ⟨c,rfl,hbf⟩),⟨ac2,rfl,hc⟩,ygg,ygm,(by simp[t4]),ygb⟩
     ·rw[hlx] at hbf hfi
      simp(disch:=omega)only[go_sem,t1,t3,t4,t5,hs2.cells g1,lz,lc,c1',c2',Int.lt_irrefl,hfi]
      refine en _ fun h3 s3=>?_
      cases hP:Zw t (Zo t.eyes.length (i:Int) 0)
      ·simp(disch:=omega)only[go_sem,t1,t3,t4,t5,Zc]
       exact⟨_,_,_,_,some c,rfl,hs2.trans s3,by rw[es];exact hb.skip (.inl hP),⟨ac2.mono s3,rfl,hc⟩,ygg,ygm,(by simp[t4]),ygb⟩
      ·simp(disch:=omega)only[go_sem,t1,t3,t4,t5,Zc]
       exact⟨_,_,_,_,some _,rfl,hs2.trans s3,by rw[es];exact hb.take hP (fun c' e=>by cases e;exact hbf),⟨az.mono s3,rfl,by omega⟩,ygg,ygb,ygb,ygb⟩
    ·have c2':¬((Zo t.eyes.length (i:Int) 0).length:Int)=(c.length:Int):=by omega
     have hbf:Silk.before (Zo t.eyes.length (i:Int) 0) c=false:=by unfold Silk.before;rw[if_neg c2];simpa using c1
     simp(disch:=omega)only[go_sem,t1,t3,t4,t5,hs2.cells g1,lz,lc,c1',c2',Zc]
     exact⟨_,_,_,_,some c,rfl,hs2,by rw[es];exact hb.skip (.inr ⟨c,rfl,hbf⟩),⟨ac2,rfl,hc⟩,ygg,ygm,(by simp[t4]),ygb⟩
 ·rintro s ⟨tm,h',y,f,best,rfl,hs,hb,fy,t1,t3,t4,t5⟩
  have hbl:best=few t:=by
   rw[←h2p] at hb
   exact Z4.last (Int.le_refl _) hb fun t0 a b=>by omega
  obtain⟨c,hc,_⟩:=few_some t
  simp(disch:=omega)only[go_sem,t1,t3,t4,t5,hs.cells g1,hlE,hset,h2p,Int.lt_irrefl]
  rw[hbl,hc] at fy
  exact q _ _ c (s1.trans hs) hc fy.1
end Go.Ab.Tryz
namespace Go.Ab.Tryz
open Go.Ab.Silk (Inc Zo ZI before VK Z4 Yb)
theorem tellK_pw (t:Tb)(a b:Sd):∀n,(Yc t a b n).Pairwise (· < ·)
 |0=>List.Pairwise.nil
 |n+1=>by
  simp only[Yc]
  refine List.pairwise_append.2 ⟨tellK_pw t a b n,by split<;>simp,fun x hx y hy=>?_⟩
  obtain⟨j,hj,rfl,_⟩:=XT.1 hx
  split at hy
  ·rw[List.mem_singleton] at hy;subst hy;omega
  ·cases hy
def XW (t:Tb)(e:Nat)(a b:Sd)(n:Nat):Bool:=ZO t e a b&&(List.range n).all fun k=>decide (k=e)|| !ZO t k a b
theorem alone_step (t:Tb)(e:Nat)(a b:Sd)(n:Nat):XW t e a b (n+1)=(XW t e a b n&&(decide (n=e)|| !ZO t n a b)):=by
 unfold XW
 rw[List.range_succ,List.all_append,Bool.and_assoc]
 simp
theorem alone_all {t:Tb}{e:Nat}{a b:Sd}(he:e<t.eyes.length):XW t e a b t.eyes.length=decide (Yc t a b t.eyes.length=[(e:Int)]):=by
 rw[Bool.eq_iff_iff,decide_eq_true_eq]
 unfold XW
 rw[Bool.and_eq_true,List.all_eq_true]
 constructor
 ·rintro⟨h1,h2⟩
  refine inc_ext (tellK_pw ..) ygb fun x=>?_
  rw[XT,List.mem_singleton]
  constructor
  ·rintro⟨j,hj,rfl,h3⟩
   have:=h2 j (List.mem_range.2 hj)
   rw[h3] at this
   have:j=e:=by simpa using this
   omega
  ·rintro rfl
   exact⟨e,he,rfl,h1⟩
 ·intro h
  have h1:(e:Int)∈Yc t a b t.eyes.length:=by rw[h];simp
  obtain⟨j,hj,ej,h2⟩:=XT.1 h1
  have:j=e:=by omega
  subst this
  refine⟨h2,fun k hk=>?_⟩
  cases c:ZO t k a b
  ·simp
  ·have:(k:Int)∈Yc t a b t.eyes.length:=XT.2 ⟨k,List.mem_range.1 hk,rfl,c⟩
   rw[h,List.mem_singleton] at this
   simp;omega
set_option maxHeartbeats 4000000 in
theorem refWitness_ev {h:H}{v:V}{t:Tb}(hw:h.wf)(ht:ZK h v t)(g:Good t){e:Nat}(he:e<t.eyes.length)(Q:V→H→Prop)(q:∀h',h.Sub h'→Q (witV (wit t (e:Int))) h'):Ev fnG Zm (.fn 31 [] []) [v,.ii (e:Int)] h Q:=by
 have ht0:=ht
 obtain⟨E,L,P,rfl,aE,aL,aP⟩:=ht
 have hlE:=aE.lenE
 have hlP:=aP.lenE
 have gE:=g.eyes
 have gp:=g.pieces
 have s1:h.Sub (h.add (.bk [E,L,P])):=yga
 have g1:(h.add (.bk [E,L,P])).cells h.next=some [E,L,P]:=Zf rfl
 refine Zd (fd:=c31) rfl rfl rfl ?_
 simp(disch:=omega)only[c31,go_sem]
 generalize h.add (.bk [E,L,P])=h1 at s1 g1⊢
 refine Zh t.pieces.length (fun a s=>∃tm h',s=⟨tm,h',[]⟩∧h1.Sub h'∧(∀a',a'<a→((List.range t.pieces.length).findSome? fun b=>witF t (e:Int) a' b)=none)∧tm.E 1=.ii (e:Int)∧tm.E 2=.ptr h.next 0∧tm.E 7=.ii (a:Int))
  ?_ ?_ (i:=0) (Nat.zero_le _) ⟨_,_,rfl,H.Sub.refl s1.wf,fun a' h0=>by omega,ygb,ygb,ygb⟩
 ·rintro a s ha ⟨tm,h',rfl,hs,hno,t1,t2,t7⟩
  have ha':(a:Int)<(t.pieces.length:Int):=by omega
  simp(disch:=omega)only[go_sem,t1,t2,t7,hs.cells g1,hlP,ha',Zc]
  refine Wi (fun kk s=>∃tm h' b,s=⟨tm,h',[]⟩∧kk=t.pieces.length-b∧a<b∧b≤t.pieces.length∧h1.Sub h'∧(∀b',b'<b→witF t (e:Int) a b'=none)∧tm.E 1=.ii (e:Int)∧tm.E 2=.ptr h.next 0∧tm.E 7=.ii (a:Int)∧tm.E 8=.ii (b:Int)) ?_ (t.pieces.length-(a+1)) _
   ⟨_,_,a+1,rfl,rfl,by omega,by omega,hs,fun b' hb'=>by unfold witF;rw[if_neg ygc],ygg,ygi,ygj,ygb⟩
  clear t1 t2 t7 hs
  rintro kk s ⟨tm,h',b,rfl,hkk,hab,hbn,hs,hnb,t1,t2,t7,t8⟩
  by_cases hb:b<t.pieces.length
  ·have hb':(b:Int)<(t.pieces.length:Int):=by omega
   have ia:=g.piece _ (List.getElem_mem ha)
   have ib:=g.piece _ (List.getElem_mem hb)
   obtain⟨bA,oA,cA,csA,eA,hcA,hqA,hgA,_,_⟩:=(aP.mono (s1.trans hs)).at ha
   obtain⟨bB,oB,cB,csB,eB,hcB,hqB,hgB,_,_⟩:=(aP.mono (s1.trans hs)).at hb
   simp only[Zj] at hgA hgB
   have htl:=fun(hh:H) (ss:h'.Sub hh) (k:Nat) (hk:k<t.eyes.length)=>refTells_ev (h:=hh) (v:=.agg [E,L,P]) (t:=t) ss.wf (ht0.mono (s1.trans (hs.trans ss))) g hk ia ib
   simp only[Zj] at htl
   simp(disch:=omega)only[go_sem,t1,t2,t7,t8,hs.cells g1,hlP,hb',hqA (Ze a),hcA,hgA,hqB (Ze b),hcB,hgB]
   refine htl h' (H.Sub.refl hs.wf) e he _ fun h2 s2=>?_
   have hs2:=hs.trans s2
   simp(disch:=omega)only[go_sem,t1,t2,t7,t8,hs.cells g1,hs2.cells g1,hlP,hqA (Ze a),hcA,hgA,hqB (Ze b),hcB,hgB]
   have tz:XW t e t.pieces[a] t.pieces[b] 0=ZO t e t.pieces[a] t.pieces[b]:=by simp[XW]
   refine W.mono (Q:=fun x1 s=>x1=.ext 4∧∃tm h',s=⟨tm,h',[]⟩∧h1.Sub h'∧tm.E 1=.ii (e:Int)∧tm.E 2=.ptr h.next 0∧tm.E 7=.ii (a:Int)∧tm.E 8=.ii (b:Int)∧tm.E 9=.bool (XW t e t.pieces[a] t.pieces[b] t.eyes.length))
    (Zh t.eyes.length (fun i s=>∃tm hh,s=⟨tm,hh,[]⟩∧h'.Sub hh∧tm.E 1=.ii (e:Int)∧tm.E 2=.ptr h.next 0∧tm.E 7=.ii (a:Int)∧tm.E 8=.ii (b:Int)∧tm.E 9=.bool (XW t e t.pieces[a] t.pieces[b] i)∧tm.E 10=.ii (i:Int))
    ?_ ?_ (i:=0) (Nat.zero_le _) ⟨_,_,rfl,s2,ygg,ygi,ygj,(by simp[t8]),by rw[tz];exact ygb,ygb⟩) fun x1 s hx1=>?_
   ·clear t1 t2 t7 t8
    rintro i s hi ⟨tm,hh,rfl,sh,t1,t2,t7,t8,t9,t10⟩
    have hi':(i:Int)<(t.eyes.length:Int):=by omega
    have gh:=(hs.trans sh).cells g1
    have hcA':=sh.cells hcA
    have hcB':=sh.cells hcB
    have hst:=alone_step t e t.pieces[a] t.pieces[b] i
    cases hal:XW t e t.pieces[a] t.pieces[b] i
    ·rw[hal] at t9 hst
     rw[Bool.false_and] at hst
     simp(disch:=omega)only[go_sem,t1,t2,t7,t8,t9,t10,gh,hlE,hi',Zc]
     exact⟨_,_,rfl,sh,ygg,ygi,ygj,(by simp[t8]),by rw[hst];exact ygb,ygb⟩
    ·rw[hal] at t9 hst
     rw[Bool.true_and] at hst
     by_cases hie:i=e
     ·subst hie
      rw[decide_eq_true rfl,Bool.true_or] at hst
      simp(disch:=omega)only[go_sem,t1,t2,t7,t8,t9,t10,gh,hlE,hi',Zc]
      exact⟨_,_,rfl,sh,ygg,ygi,ygj,(by simp[t8]),by rw[hst];exact ygb,ygb⟩
     ·have hne:¬(i:Int)=(e:Int):=by omega
      rw[decide_eq_false hie,Bool.false_or] at hst
      simp(disch:=omega)only[go_sem,t1,t2,t7,t8,t9,t10,gh,hlE,hi',hne,hqA (Ze a),hcA',hgA,hqB (Ze b),hcB',hgB]
      refine htl hh sh i hi _ fun h3 s3=>?_
      simp(disch:=omega)only[go_sem,t1,t2,t7,t8,t9,t10,gh,hlE,hi',hne,hqA (Ze a),hcA',hgA,hqB (Ze b),hcB',hgB,Zc]
      exact⟨_,_,rfl,sh.trans s3,ygg,ygi,ygj,(by simp[t8]),by rw[hst];exact ygb,ygb⟩
   ·clear t1 t2 t7 t8
    rintro s ⟨tm,hh,rfl,sh,t1,t2,t7,t8,t9,t10⟩
    simp(disch:=omega)only[go_sem,t1,t2,t7,t8,t9,t10,(hs.trans sh).cells g1,hlE,Int.lt_irrefl]
    exact⟨_,_,rfl,hs.trans sh,ygg,ygi,ygj,(by simp[t8]),ygw⟩
   clear t1 t2 t7 t8
   obtain⟨rfl,tm,h3,rfl,hs3,t1,t2,t7,t8,t9⟩:=hx1
   rw[alone_all he] at t9
   have etp:Yt t a b=Yc t t.pieces[a] t.pieces[b] t.eyes.length:=tellP_at ha hb
   by_cases hE:Yc t t.pieces[a] t.pieces[b] t.eyes.length=[(e:Int)]
   ·rw[decide_eq_true hE] at t9
    have hw1:witF t (e:Int) a b=some (a,b):=by unfold witF;rw[if_pos ⟨hab,by rw[etp];exact hE⟩]
    have:wit t (e:Int)=some (a,b):=YG (YG hw1 hnb _ hb) hno _ ha
    rw[this] at q
    simp(disch:=omega)only[go_sem,t1,t2,t7,t8,t9]
    exact q _ (s1.trans hs3)
   ·rw[decide_eq_false hE] at t9
    simp(disch:=omega)only[go_sem,t1,t2,t7,t8,t9,Zc]
    exact⟨_,by omega,_,_,b+1,rfl,rfl,by omega,by omega,hs3,fun b' hb'=>by
     by_cases e1:b'=b
     ·subst e1;unfold witF;rw[if_neg (fun h=>hE (by rw[←etp];exact h.2))]
     ·exact hnb b' ygc,ygg,ygi,ygj,ygb⟩
  ·have hb':¬(b:Int)<(t.pieces.length:Int):=by omega
   simp(disch:=omega)only[go_sem,t1,t2,t7,t8,hs.cells g1,hlP,hb',Zc]
   exact⟨_,_,rfl,hs,fun a' h0=>by
    by_cases e1:a'=a
    ·subst e1;exact Vr fun b' hb'=>hnb b' ygc
    ·exact hno a' ygc,ygg,ygi,ygb⟩
 ·rintro s ⟨tm,h',rfl,hs,hno,t1,t2,t7⟩
  have:wit t (e:Int)=none:=Vr hno
  rw[this] at q
  simp(disch:=omega)only[go_sem,t1,t2,t7,hs.cells g1,hlP,Int.lt_irrefl]
  exact q _ (s1.trans hs)
set_option maxHeartbeats 1000000 in
theorem refNeeded_ev {h:H}{v:V}{t:Tb}(hw:h.wf)(ht:ZK h v t)(g:Good t)(Q:V→H→Prop)(q:∀y h',h.Sub h'→Zg h' y 1 ((Y3 t t.eyes.length).map encI)→Q y h'):Ev fnG Zm (.fn 30 [] []) [v] h Q:=by
 have ht0:=ht
 obtain⟨E,L,P,rfl,aE,aL,aP⟩:=ht
 have hlE:=aE.lenE
 have gE:=g.eyes
 have s1:h.Sub (h.add (.bk [E,L,P])):=yga
 have g1:(h.add (.bk [E,L,P])).cells h.next=some [E,L,P]:=Zf rfl
 refine Zd (fd:=c30) rfl rfl rfl ?_
 simp(disch:=omega)only[c30,go_sem]
 generalize h.add (.bk [E,L,P])=h1 at s1 g1⊢
 refine Zh t.eyes.length (fun i s=>∃tm h' y,s=⟨tm,h',[]⟩∧ZG h1 h' y 1 ((Y3 t i).map encI)∧tm.E 1=.ptr h.next 0∧tm.E 3=y∧tm.E 4=.ii (i:Int))
  ?_ ?_ (i:=0) (Nat.zero_le _) ⟨_,_,.nils,rfl,⟨H.Sub.refl s1.wf,by simp[Y3],.inl ⟨rfl,rfl⟩⟩,ygb,ygb,ygb⟩
 ·rintro i s hi ⟨tm,h',y,rfl,oy,t1,t3,t4⟩
  have hi':(i:Int)<(t.eyes.length:Int):=by omega
  have hs:=oy.1
  have hln:=Vs t i
  simp(disch:=omega)only[go_sem,t1,t3,t4,hs.cells g1,hlE,hi']
  refine refWitness_ev hs.wf (ht0.mono (s1.trans hs)) g hi _ fun h2 s2=>?_
  have sA:=(H.Sub.refl s2.wf).add (.bk [.ii (i:Int)])
  cases hwt:wit t (i:Int) with
  |none=>
   have e1:Y3 t (i+1)=Y3 t i:=by simp[Y3,hwt]
   simp(disch:=omega)only[go_sem,t1,t3,t4,witV,Zc]
   exact⟨_,_,y,rfl,by rw[e1];exact oy.mono s2,ygg,ygm,ygb⟩
  |some p=>
   have e1:Y3 t (i+1)=Y3 t i++[(i:Int)]:=by simp[Y3,hwt]
   simp(disch:=omega)only[go_sem,t1,t3,t4,witV]
   refine((oy.mono s2).mono sA).app1 (by_:=8) (r:=encI (i:Int)) s1.wf rfl ygc Ye rfl yge yge fun y2 h3 oy2 dy2 ky2=>?_
   simp(disch:=omega)only[go_sem,t1,t3,t4,Zc]
   exact⟨_,_,y2,rfl,by rw[e1];simpa using oy2,ygg,ygb,ygb⟩
 ·rintro s ⟨tm,h',y,rfl,oy,t1,t3,t4⟩
  have hln:=Vs t t.eyes.length
  simp(disch:=omega)only[go_sem,t1,t3,t4,oy.1.cells g1,hlE,Int.lt_irrefl]
  exact q _ _ (s1.trans oy.1) (oy.sl yge)
end Go.Ab.Tryz
namespace Go.Ab.Tryz
open Go.Ab.Silk (Inc Zo ZI before VK Z4 Yb)
def fewL (t:Tb):List Int:=if check t=0 then(few t).getD [] else[]
def needL (t:Tb):List Int:=if check t=0 then Y3 t t.eyes.length else[]
set_option maxHeartbeats 4000000 in
theorem EyeEnough_sub {h:H}{v x:V}{t:Tb}{l:List Int}(hw:h.wf)(ht:ZK h v t)(hx:Zg h x 1 (l.map encI))(e:Int):
  Ev fnG Zm (.fn 4 [] []) [v,x,.ii e] h (fun u h'=>u=.bool true∧h.Sub h'):=by
 have ht0:=ht
 obtain⟨E,L,P,rfl,aE,aL,aP⟩:=ht
 have hlE:=aE.lenE
 have hlx:=hx.lenE
 have hbx:=hx.boundE
 refine Zd (fd:=c4) rfl rfl rfl ?_
 have s3:h.Sub (h.add (.bk [E,L,P])):=yga
 have q3:(h.add (.bk [E,L,P])).cells h.next=some [E,L,P]:=Zf rfl
 have nx:(h.add (.bk [E,L,P])).next=h.next+1:=H.next_add _ _
 simp(disch:=first|omega|simp only[nZ]<;>omega|fail)only[c4,go_sem]
 generalize(h.add (.bk [E,L,P]))=h3 at s3 q3 nx⊢
 refine great_ev s3.wf (ht0.mono s3) _ fun h4 s34=>?_
 cases hg:YO t
 case true=>
  simp(disch:=first|omega|simp only[nZ]<;>omega|fail)only[go_sem,YC]
  first|exact⟨rfl,s3.trans s34⟩|exact s3.trans s34
 have hsm:=Small_of hg
 by_cases hl15:(15:Int)<(l.length:Int)
 ·simp(disch:=first|omega|simp only[nZ]<;>omega|fail)only[go_sem,hlx,hl15,YC]
  first|exact⟨rfl,s3.trans s34⟩|exact s3.trans s34
 simp(disch:=first|omega|simp only[nZ]<;>omega|fail)only[go_sem,hlx,hl15,s34.cells q3]
 refine own_ev s34.wf (ht0.mono (s3.trans s34)) hsm _ fun u h5 s45 hu=>?_
 have s35:=s34.trans s45
 simp(disch:=first|omega|simp only[nZ]<;>omega|fail)only[go_sem,s34.cells q3,s35.cells q3]
 refine Vm s45.wf (ht0.mono (s3.trans s35)) hsm _ fun o h6 s56 ho=>?_
 have s36:=s35.trans s56
 have hu0:=hu.is hsm
 have ho0:=ho
 obtain⟨a1,a2,a3,rfl,hu⟩:=hu
 obtain⟨E2,L2,P2,rfl,o1,o2,o3⟩:=ho
 have n1:=o1.one
 have n2:=o2.one
 have n3:=o3.one
 have hx6:=hx.mono (s3.trans s36)
 have sD:=(H.Sub.refl s56.wf).add (.bk (l.map encI).flatten)
 have hm6:Zg (h6.add (.bk (l.map encI).flatten)) (.sl h6.next 0 l.length (.fix l.length)) 1 (l.map encI):=Zg.full ygz (Zn rfl) (by simp[encI]) ygk
 have s67:h6.Sub (((((h6.add (.bk (l.map encI).flatten)).add (.bk [.nils,.nils,.nils])).add (.bk [.nils,.nils,.nils])).set (h6.next+1) (.bk [.sl a1 0 t.eyes.length (.fix t.eyes.length),.sl a2 0 t.lights.length (.fix t.lights.length),.sl a3 0 t.pieces.length (.fix t.pieces.length)])).set (h6.next+1+1) (.bk [E2,L2,P2])):=((((((H.Sub.refl s56.wf).add _).add _).add _).set (b:=h6.next+1) ygc (by simp only[H.next_add];omega) s56.wf _).set (b:=h6.next+1+1) ygc (by simp only[H.next_set,H.next_add];omega) s56.wf _)
 have c7:(((((h6.add (.bk (l.map encI).flatten)).add (.bk [.nils,.nils,.nils])).add (.bk [.nils,.nils,.nils])).set (h6.next+1) (.bk [.sl a1 0 t.eyes.length (.fix t.eyes.length),.sl a2 0 t.lights.length (.fix t.lights.length),.sl a3 0 t.pieces.length (.fix t.pieces.length)])).set (h6.next+1+1) (.bk [E2,L2,P2])).cells (h6.next+1)=some [.sl a1 0 t.eyes.length (.fix t.eyes.length),.sl a2 0 t.lights.length (.fix t.lights.length),.sl a3 0 t.pieces.length (.fix t.pieces.length)]:=by simp(disch:=first|omega|simp only[nZ]<;>omega|fail)only[go_sem]
 have c8:(((((h6.add (.bk (l.map encI).flatten)).add (.bk [.nils,.nils,.nils])).add (.bk [.nils,.nils,.nils])).set (h6.next+1) (.bk [.sl a1 0 t.eyes.length (.fix t.eyes.length),.sl a2 0 t.lights.length (.fix t.lights.length),.sl a3 0 t.pieces.length (.fix t.pieces.length)])).set (h6.next+1+1) (.bk [E2,L2,P2])).cells (h6.next+1+1)=some [E2,L2,P2]:=by simp(disch:=first|omega|simp only[nZ]<;>omega|fail)only[go_sem]
 have c9:(((((h6.add (.bk (l.map encI).flatten)).add (.bk [.nils,.nils,.nils])).add (.bk [.nils,.nils,.nils])).set (h6.next+1) (.bk [.sl a1 0 t.eyes.length (.fix t.eyes.length),.sl a2 0 t.lights.length (.fix t.lights.length),.sl a3 0 t.pieces.length (.fix t.pieces.length)])).set (h6.next+1+1) (.bk [E2,L2,P2])).get h6.next=some (.bk (l.map encI).flatten):=by simp(disch:=first|omega|simp only[nZ]<;>omega|fail)only[go_sem]
 have hm7:Zg (((((h6.add (.bk (l.map encI).flatten)).add (.bk [.nils,.nils,.nils])).add (.bk [.nils,.nils,.nils])).set (h6.next+1) (.bk [.sl a1 0 t.eyes.length (.fix t.eyes.length),.sl a2 0 t.lights.length (.fix t.lights.length),.sl a3 0 t.pieces.length (.fix t.pieces.length)])).set (h6.next+1+1) (.bk [E2,L2,P2])) (.sl h6.next 0 l.length (.fix l.length)) 1 (l.map encI):=Zg.full ygz c9 (by simp[encI]) ygk
 simp(disch:=first|omega|simp only[nZ]<;>omega|fail)only[go_sem,s34.cells q3,s35.cells q3,s36.cells q3,n1,n2,n3,dupInt_ev s56.wf hx6 ygc]
 generalize((((h6.add (.bk (l.map encI).flatten)).add (.bk [.nils,.nils,.nils])).add (.bk [.nils,.nils,.nils])).set (h6.next+1) (.bk [.sl a1 0 t.eyes.length (.fix t.eyes.length),.sl a2 0 t.lights.length (.fix t.lights.length),.sl a3 0 t.pieces.length (.fix t.pieces.length)])).set (h6.next+1+1) (.bk [E2,L2,P2])=h7 at s67 c7 c8 c9 hm7⊢
 have s37:=s36.trans s67
 have s7:=s3.trans s37
 have hx7:=hx.mono s7
 refine X2 s7.wf (ho0.mono s67) _ fun h8 s78=>?_
 simp(disch:=first|omega|simp only[nZ]<;>omega|fail)only[go_sem]
 refine Wc (R:=fun x1 s=>x1=.nrm∧∃tm h' y16 y17,s=⟨tm,h',[]⟩∧h7.Sub h'∧Zg h' y16 1 ((fewL t).map encI)∧Zg h' y17 1 ((needL t).map encI)∧tm.E 1=x∧tm.E 2=.ii e∧tm.E 3=.ptr h.next 0∧tm.E 7=.ptr (h6.next+1) 0∧tm.E 9=.sl h6.next 0 l.length (.fix l.length)∧tm.E 10=.ii (check t)∧tm.E 11=.ii (lstE t l)∧tm.E 12=.ii (witE t e)∧tm.E 13=.bool (enR t l)∧tm.E 14=.ii ((witA t e).1:Int)∧tm.E 15=.ii ((witA t e).2:Int)∧tm.E 16=y16∧tm.E 17=y17) ?_ fun x1 s hx1=>?_
 ·by_cases c:check t=0
  case neg=>
   have w1:lstE t l=check t:=by unfold lstE;rw[if_pos c]
   have w2:witE t e=check t:=by unfold witE;rw[if_pos c]
   have w3:enR t l=false:=by unfold enR;rw[w1,decide_eq_false c];rfl
   have w4:witA t e=(0,0):=by unfold witA;rw[w2,if_neg c]
   have w5:fewL t=[]:=if_neg c
   have w6:needL t=[]:=if_neg c
   rw[w1,w2,w3,w4,w5,w6]
   simp(disch:=first|omega|simp only[nZ]<;>omega|fail)only[go_sem,c]
   exact⟨_,_,.nils,.nils,rfl,s78,(Zq.nil s78 1).sl ygb,(Zq.nil s78 1).sl ygb,ygb,ygb,ygb,ygb,ygb,ygb,ygb,ygb,ygb,ygb,ygb,ygb,ygb⟩
  have g:=Z5.1 c
  have cd:decide (check t=0)=true:=decide_eq_true c
  rw[cd]
  have gE:=g.eyes
  simp(disch:=first|omega|simp only[nZ]<;>omega|fail)only[go_sem,s78.cells c8]
  refine refListed_ev s78.wf (ho0.mono (s67.trans s78)) (hx7.mono s78) ygc ygc _ fun h9 s89=>?_
  have s79:=s78.trans s89
  have el:=lstR_le t l c
  rw[←el]
  simp(disch:=first|omega|simp only[nZ]<;>omega|fail)only[go_sem]
  refine Wc (R:=fun x1 s=>x1=.nrm∧∃tm h',s=⟨tm,h',[]⟩∧h7.Sub h'∧tm.E 1=x∧tm.E 2=.ii e∧tm.E 3=.ptr h.next 0∧tm.E 7=.ptr (h6.next+1) 0∧tm.E 8=.ptr (h6.next+1+1) 0∧tm.E 9=.sl h6.next 0 l.length (.fix l.length)∧tm.E 10=.ii 0∧tm.E 11=.ii (lstE t l)∧tm.E 13=.bool (enR t l)∧tm.E 14=.ii 0∧tm.E 15=.ii 0) ?_ fun x1 s hx1=>?_
  ·by_cases cl:lstE t l=0
   ·rw[decide_eq_true cl]
    simp(disch:=first|omega|simp only[nZ]<;>omega|fail)only[go_sem,s79.cells c8]
    refine refEnough_ev s79.wf (ho0.mono (s67.trans s79)) g (hx7.mono s79) _ fun hA sA=>?_
    have e1:enR t l=Zw t l:=by unfold enR;rw[cl];rfl
    rw[e1]
    simp(disch:=first|omega|simp only[nZ]<;>omega|fail)only[go_sem]
    exact⟨_,_,rfl,s79.trans sA,ygb,ygb,ygb,ygb,ygb,ygb,(by simp[c]),ygb,ygb,ygb,ygb⟩
   ·rw[decide_eq_false cl]
    have e1:enR t l=false:=by unfold enR;rw[decide_eq_false cl];rfl
    rw[e1]
    simp(disch:=first|omega|simp only[nZ]<;>omega|fail)only[go_sem]
    exact⟨_,_,rfl,s79,ygb,ygb,ygb,ygb,ygb,ygb,(by simp[c]),ygb,ygb,ygb,ygb⟩
  obtain⟨rfl,tm,hA,rfl,s7A,t1,t2,t3,t7,t8,t9,t10,t11,t13,t14,t15⟩:=hx1
  have w5:fewL t=(few t).getD []:=if_pos c
  have w6:needL t=Y3 t t.eyes.length:=if_pos c
  simp(disch:=first|omega|simp only[nZ]<;>omega|fail)only[go_sem,t1,t2,t3,t7,t8,t9,t10,t11,t13,t14,t15,s7A.cells c8]
  refine refFewest_ev s7A.wf (ho0.mono (s67.trans s7A)) g _ fun y16 hB cf sB hcf ay16=>?_
  have s7B:=s7A.trans sB
  simp(disch:=first|omega|simp only[nZ]<;>omega|fail)only[go_sem,t1,t2,t3,t7,t8,t9,t10,t11,t13,t14,t15,s7A.cells c8,s7B.cells c8]
  refine refNeeded_ev s7B.wf (ho0.mono (s67.trans s7B)) g _ fun y17 hC sC ay17=>?_
  have s7C:=s7B.trans sC
  have ay16C:Zg hC y16 1 ((fewL t).map encI):=by rw[w5,hcf];exact ay16.mono sC
  have ay17C:Zg hC y17 1 ((needL t).map encI):=by rw[w6];exact ay17
  have q3C:=(s37.trans s7C).cells q3
  by_cases ce:0≤e∧e<(t.eyes.length:Int)
  ·obtain⟨i,rfl⟩:=Int.eq_ofNat_of_zero_le ce.1
   have hi:i<t.eyes.length:=by omega
   have ce1:=ce.1
   have ce2:=ce.2
   have ie:Vh t (i:Int)=true:=by unfold Vh;exact decide_eq_true ce
   simp(disch:=first|omega|simp only[nZ]<;>omega|fail)only[go_sem,t1,t2,t3,t7,t8,t9,t10,t11,t13,t14,t15,s7A.cells c8,s7B.cells c8,s7C.cells c8,q3C,hlE,ce1,ce2]
   refine refWitness_ev s7C.wf (ho0.mono (s67.trans s7C)) g hi _ fun hD sD=>?_
   cases hwt:wit t (i:Int) with
   |none=>
    have w2:witE t (i:Int)=6:=by unfold witE;rw[if_neg (by simp[c]),if_neg (by simp[ie]),hwt];rfl
    have w4:witA t (i:Int)=(0,0):=by unfold witA;rw[w2];rfl
    rw[w2,w4]
    simp(disch:=first|omega|simp only[nZ]<;>omega|fail)only[go_sem,t1,t2,t3,t7,t8,t9,t10,t11,t13,t14,t15,witV]
    exact⟨_,_,y16,y17,rfl,s7C.trans sD,ay16C.mono sD,ay17C.mono sD,ygg,ygi,ygm,ygj,ygw,ygu,(by simp[t11]),ygb,(by simp[t13]),ygb,ygb,ygb,ygb⟩
   |some pr=>
    have w2:witE t (i:Int)=0:=by unfold witE;rw[if_neg (by simp[c]),if_neg (by simp[ie]),hwt];rfl
    have w4:witA t (i:Int)=pr:=by unfold witA;rw[w2,hwt];rfl
    rw[w2,w4]
    simp(disch:=first|omega|simp only[nZ]<;>omega|fail)only[go_sem,t1,t2,t3,t7,t8,t9,t10,t11,t13,t14,t15,witV]
    exact⟨_,_,y16,y17,rfl,s7C.trans sD,ay16C.mono sD,ay17C.mono sD,ygg,ygi,ygm,ygj,ygw,ygu,(by simp[t11]),ygb,(by simp[t13]),ygb,ygb,ygb,ygb⟩
  ·have ie:Vh t e=false:=by unfold Vh;exact decide_eq_false ce
   have w2:witE t e=1:=by unfold witE;rw[if_neg (by simp[c]),if_pos ie]
   have w4:witA t e=(0,0):=by unfold witA;rw[w2];rfl
   rw[w2,w4]
   by_cases ce1:0≤e
   ·have ce2:¬e<(t.eyes.length:Int):=by omega
    simp(disch:=first|omega|simp only[nZ]<;>omega|fail)only[go_sem,t1,t2,t3,t7,t8,t9,t10,t11,t13,t14,t15,s7A.cells c8,s7B.cells c8,s7C.cells c8,q3C,hlE,ce1,ce2]
    exact⟨_,_,y16,y17,rfl,s7C,ay16C,ay17C,ygg,ygi,ygm,ygj,ygw,ygu,(by simp[t11]),ygb,(by simp[t13]),(by simp[t14]),ygo,ygb,ygb⟩
   ·simp(disch:=first|omega|simp only[nZ]<;>omega|fail)only[go_sem,t1,t2,t3,t7,t8,t9,t10,t11,t13,t14,t15,s7A.cells c8,s7B.cells c8,s7C.cells c8,q3C,hlE,ce1]
    exact⟨_,_,y16,y17,rfl,s7C,ay16C,ay17C,ygg,ygi,ygm,ygj,ygw,ygu,(by simp[t11]),ygb,(by simp[t13]),(by simp[t14]),ygo,ygb,ygb⟩
 obtain⟨rfl,tm,h',y16,y17,rfl,sM,a16,a17,t1,t2,t3,t7,t9,t10,t11,t12,t13,t14,t15,t16,t17⟩:=hx1
 have sX:=s56.trans (s67.trans sM)
 have s3M:=s37.trans sM
 have ee:∀n:Int,decide (n=n)=true:=fun n=>by simp
 have bb:∀b:Bool,(b==b)=true:=fun b=>by cases b<;>rfl
 have hm:=fun hh (s:h'.Sub hh)=>hm7.mono (sM.trans s)
 simp(disch:=first|omega|simp only[nZ]<;>omega|fail)only[go_sem,t1,t2,t3,t7,t9,t10,t11,t12,t13,t14,t15,t16,t17,sM.cells c7]
 refine Enough_ev sM.wf (hu0.mono sX) (hm7.mono sM) ygc _ fun hA sA=>?_
 simp(disch:=first|omega|simp only[nZ]<;>omega|fail)only[go_sem,t1,t2,t3,t7,t9,t10,t11,t12,t13,t14,t15,t16,t17,(sM.trans sA).cells c7]
 refine Fewest_ev sA.wf (hu0.mono (sX.trans sA)) _ fun y21 hB sB hy1 hy2=>?_
 have a21:Zg hB y21 1 ((fewL t).map encI):=by
  by_cases c:check t=0
  ·obtain⟨cf,hcf,_⟩:=few_some t
   have:=hy1 cf c hcf
   rw[show fewL t=cf by unfold fewL;rw[if_pos c,hcf];rfl];exact this
  ·rw[hy2 c,show fewL t=[] from if_neg c]
   exact(Zq.nil (H.Sub.refl sB.wf) 1).sl ygb
 have sAB:=sA.trans sB
 simp(disch:=first|omega|simp only[nZ]<;>omega|fail)only[go_sem,t1,t2,t3,t7,t9,t10,t11,t12,t13,t14,t15,t16,t17,(sM.trans sAB).cells c7]
 refine Needed_ev sB.wf (hu0.mono (sX.trans sAB)) _ fun y23 hC sC a23=>?_
 have sAC:=sAB.trans sC
 simp(disch:=first|omega|simp only[nZ]<;>omega|fail)only[go_sem,t1,t2,t3,t7,t9,t10,t11,t12,t13,t14,t15,t16,t17,(sM.trans sAC).cells c7]
 refine Witness_ev sC.wf (hu0.mono (sX.trans sAC)) e _ fun hD sD=>?_
 have sAD:=sAC.trans sD
 have e1:=fun R=>WN (a21.mono (sC.trans sD)) (a16.mono sAD) R
 have e2:=fun R=>WN (l:=needL t) (a23.mono sD) (a17.mono sAD) R
 have e3:=fun hh (ss:hD.Sub hh) R=>WN (hm7.mono (sM.trans (sAD.trans ss))) (hx7.mono (sM.trans (sAD.trans ss))) R
 simp only[decide_eq_true rfl] at e1 e2 e3
 simp(disch:=first|omega|simp only[nZ]<;>omega|fail)only[go_sem,t1,t2,t3,t7,t9,t10,t11,t12,t13,t14,t15,t16,t17,ee,bb,e1,e2,(sM.trans sAD).cells c7,(s3M.trans sAD).cells q3]
 refine same_ev sD.wf (hu0.mono (sX.trans sAD)) (ht0.mono (s3.trans (s3M.trans sAD))) _ fun hE sE=>?_
 rw[decide_eq_true rfl]
 have e3E:=fun R=>e3 hE sE R
 simp(disch:=first|omega|simp only[nZ]<;>omega|fail)only[go_sem,t1,t2,t3,t7,t9,t10,t11,t12,t13,t14,t15,t16,t17,e3E,YC]
 first|exact⟨rfl,s3.trans (s3M.trans (sAD.trans sE))⟩|exact s3.trans (s3M.trans (sAD.trans sE))
end Go.Ab.Tryz
namespace Go.Ab.Tryz
set_option maxHeartbeats 4000000 in
theorem asked_ev {h:H}{v x y:V}{t:Tb}{l:List Int}{S:List (List Int)}{l1 l2 p q r:Int}{a b:Sd}(hw:h.wf)(ht:ZK h v t)(hx:Zg h x 1 (l.map encI))(hS:RdI h y S)(Q:V→H→Prop)(q':∀h',h.Sub h'→Q (.bool true) h'):
  Ev fnG Zm (.fn 37 [] []) [v,.agg [.ii l1,.ii l2],.agg (Zj a),.agg (Zj b),.ii p,.ii q,.ii r,x,y] h Q:=by
 have ht0:=ht
 obtain⟨E,L,P,rfl,aE,aL,aP⟩:=ht
 refine Zd (fd:=c37) rfl rfl rfl ?_
 have s4:h.Sub ((((h.add (.bk [E,L,P])).add (.bk [.ii l1,.ii l2])).add (.bk [.ii a.x,.ii a.y,.ii a.z])).add (.bk [.ii b.x,.ii b.y,.ii b.z])):=yga
 have g0:((((h.add (.bk [E,L,P])).add (.bk [.ii l1,.ii l2])).add (.bk [.ii a.x,.ii a.y,.ii a.z])).add (.bk [.ii b.x,.ii b.y,.ii b.z])).cells h.next=some [E,L,P]:=by simp(disch:=first|omega|simp only[nZ]<;>omega|fail)only[go_sem]
 have g2:((((h.add (.bk [E,L,P])).add (.bk [.ii l1,.ii l2])).add (.bk [.ii a.x,.ii a.y,.ii a.z])).add (.bk [.ii b.x,.ii b.y,.ii b.z])).cells (h.next+1+1)=some [.ii a.x,.ii a.y,.ii a.z]:=by simp(disch:=first|omega|simp only[nZ]<;>omega|fail)only[go_sem]
 have g3:((((h.add (.bk [E,L,P])).add (.bk [.ii l1,.ii l2])).add (.bk [.ii a.x,.ii a.y,.ii a.z])).add (.bk [.ii b.x,.ii b.y,.ii b.z])).cells (h.next+1+1+1)=some [.ii b.x,.ii b.y,.ii b.z]:=by simp(disch:=first|omega|simp only[nZ]<;>omega|fail)only[go_sem]
 have T1:=fun hh (s:h.Sub hh)=>EyeTables_sub s.wf (ht0.mono s) l1 l2 a b
 have T2:=fun hh (s:h.Sub hh)=>EyeMatches_sub s.wf (ht0.mono s) a b p q r
 simp only[Zj] at T1 T2
 simp(disch:=first|omega|simp only[nZ]<;>omega|fail)only[c37,go_sem,Zj]
 generalize((((h.add (.bk [E,L,P])).add (.bk [.ii l1,.ii l2])).add (.bk [.ii a.x,.ii a.y,.ii a.z])).add (.bk [.ii b.x,.ii b.y,.ii b.z]))=h4 at s4 g0 g2 g3⊢
 refine(T1 h4 s4).mono fun u h5 hu=>?_
 obtain⟨rfl,s45⟩:=hu
 have s5:=s4.trans s45
 simp(disch:=first|omega|simp only[nZ]<;>omega|fail)only[go_sem,s45.cells g0,s45.cells g2,s45.cells g3]
 refine(T2 h5 s5).mono fun u h6 hu=>?_
 obtain⟨rfl,s56⟩:=hu
 have s46:=s45.trans s56
 have s6:=s5.trans s56
 simp(disch:=first|omega|simp only[nZ]<;>omega|fail)only[go_sem,s46.cells g0]
 refine(EyeEnough_sub s6.wf (ht0.mono s6) (hx.mono s6) q).mono fun u h7 hu=>?_
 obtain⟨rfl,s67⟩:=hu
 have s47:=s46.trans s67
 have s7:=s6.trans s67
 simp(disch:=first|omega|simp only[nZ]<;>omega|fail)only[go_sem,s47.cells g0]
 refine(EyeSets_sub s7.wf (ht0.mono s7) (hS.mono s7) p).mono fun u h8 hu=>?_
 obtain⟨rfl,s78⟩:=hu
 have s48:=s47.trans s78
 have s8:=s7.trans s78
 simp(disch:=first|omega|simp only[nZ]<;>omega|fail)only[go_sem,s48.cells g0]
 refine(EyeChains_sub s8.wf (ht0.mono s8) p q).mono fun u h9 hu=>?_
 obtain⟨rfl,s89⟩:=hu
 simp(disch:=first|omega|simp only[nZ]<;>omega|fail)only[go_sem]
 exact q' _ (s8.trans s89)
theorem Two_ev {h:H}(hw:h.wf)(Q:V→H→Prop)
  (q:∀a b c h',h.Sub h'→(h.next≤a∧a<b∧b<c∧c<h'.next)→h'.get a=some (.bk [.ii 2,.ii 1,.ii 0,.ii 6,.ii 0,.ii 1,.ii 3,.ii 6])→h'.get b=some (.bk [.ii 1,.ii 1,.ii 1,.ii 2,.ii 0,.ii 1])→
   h'.get c=some (.bk [.ii 5,.ii 5,.ii 5,.ii 6,.ii 6,.ii 5,.ii 8,.ii 5,.ii 5,.ii 5,.ii 5,.ii 7,.ii 6,.ii 7,.ii 5,.ii 5,.ii 5,.ii 6])→Q (.agg [.sl a 0 2 (.fix 2),.sl b 0 2 (.fix 2),.sl c 0 6 (.fix 6)]) h'):
  Ev fnG Zm (.fn 36 [] []) [] h Q:=by
 refine Zd (fd:=c36) rfl rfl rfl ?_
 simp(disch:=first|omega|simp only[nZ]<;>omega|fail)only[c36,go_sem]
 refine q (h.next+1) (h.next+1+1) (h.next+1+1+1) _ (yga) ⟨by omega,by omega,by omega,by simp only[H.next_set,H.next_add];omega⟩ ?_ ?_ ?_
 all_goals simp(disch:=first|omega|simp only[nZ]<;>omega|fail)only[go_sem]
end Go.Ab.Tryz
namespace Go.Ab.Tryz
def mkE (j:Nat):Ey:=⟨⟨(j:Int).tmod 5,(j:Int).tmod 3,1⟩,3+(j:Int)⟩
def mkL (j:Nat):Sd:=⟨(j:Int).tmod 4,(j:Int).tmod 3,(j:Int).tmod 2⟩
def mkP (j:Nat):Sd:=⟨(j:Int),(2*(j:Int)).tmod 7,(j:Int).tmod 3⟩
def upL {α:Type}(f:Nat→α)(n:Nat):List α:=(List.range n).map f
theorem upL_succ {α:Type}(f:Nat→α)(n:Nat):upL f (n+1)=upL f n++[f n]:=by unfold upL;rw[List.range_succ,List.map_append];rfl
theorem YF {α:Type}(f:Nat→α)(n:Nat):(upL f n).length=n:=by simp[upL]
theorem upL_mem {α:Type}{f:Nat→α}{n:Nat}{x:α}(h:x∈upL f n):∃j,j<n∧x=f j:=by
 obtain⟨j,hj,rfl⟩:=List.mem_map.1 h
 exact⟨j,List.mem_range.1 hj,rfl⟩
theorem tm_bd {a k:Int}(ha:0≤a)(hk:0<k):0≤a.tmod k∧a.tmod k≤k-1:=by
 rw[Int.tmod_eq_emod_of_nonneg ha]
 have h1:=Int.emod_nonneg a (show k≠0 by omega)
 have h2:=Int.emod_lt_of_pos a hk
 omega
def exE:List Ey:=[⟨⟨2,1,0⟩,6⟩,⟨⟨0,1,3⟩,6⟩]
def exL:List Sd:=[⟨1,1,1⟩,⟨2,0,1⟩]
def exP:List Sd:=[⟨5,5,5⟩,⟨6,6,5⟩,⟨8,5,5⟩,⟨5,5,7⟩,⟨6,7,5⟩,⟨5,5,6⟩]
theorem exE_ok:∀e∈exE,InS e.s 4∧1≤e.frm∧e.frm≤400:=by
 intro e he
 simp only[exE,List.mem_cons,List.not_mem_nil,or_false] at he
 rcases he with rfl|rfl<;>exact⟨⟨by decide,by decide,by decide⟩,by decide,by decide⟩
theorem exL_ok:∀e∈exL,InS e 3:=by
 intro e he
 simp only[exL,List.mem_cons,List.not_mem_nil,or_false] at he
 rcases he with rfl|rfl<;>exact⟨by decide,by decide,by decide⟩
theorem exP_ok:∀e∈exP,InS e 20:=by
 intro e he
 simp only[exP,List.mem_cons,List.not_mem_nil,or_false] at he
 rcases he with rfl|rfl|rfl|rfl|rfl|rfl<;>exact⟨by decide,by decide,by decide⟩
theorem chkE (n:Nat)(hn:n<11):decide (check ⟨upL mkE n,exL,exP⟩=0)=decide (0<n∧n<7):=by
 rw[decide_eq_decide,Z5]
 constructor
 ·intro g
  have:=g.eyes
  simp only[YF] at this;omega
 ·intro h
  refine⟨by simp only[YF];omega,(show 1≤exL.length∧exL.length≤4 from by decide),(show exP.length≤9 from by decide),fun e he=>?_,exL_ok,exP_ok⟩
  obtain⟨j,hj,rfl⟩:=upL_mem he
  have h1:=tm_bd (a:=(j:Int)) (k:=5) ygc ygc
  have h2:=tm_bd (a:=(j:Int)) (k:=3) ygc ygc
  exact⟨⟨by simp only[mkE];omega,by simp only[mkE];omega,by simp only[mkE];omega⟩,by simp only[mkE];omega,by simp only[mkE];omega⟩
theorem chkL (n:Nat)(hn:n<11):decide (check ⟨exE,upL mkL n,exP⟩=0)=decide (0<n∧n<5):=by
 rw[decide_eq_decide,Z5]
 constructor
 ·intro g
  have:=g.lights
  simp only[YF] at this;omega
 ·intro h
  refine⟨(show 1≤exE.length∧exE.length≤6 from by decide),by simp only[YF];omega,(show exP.length≤9 from by decide),exE_ok,fun e he=>?_,exP_ok⟩
  obtain⟨j,hj,rfl⟩:=upL_mem he
  have h1:=tm_bd (a:=(j:Int)) (k:=4) ygc ygc
  have h2:=tm_bd (a:=(j:Int)) (k:=3) ygc ygc
  have h3:=tm_bd (a:=(j:Int)) (k:=2) ygc ygc
  exact⟨by simp only[mkL];omega,by simp only[mkL];omega,by simp only[mkL];omega⟩
theorem chkP (n:Nat)(hn:n<11):decide (check ⟨exE,exL,upL mkP n⟩=0)=decide (n<10):=by
 rw[decide_eq_decide,Z5]
 constructor
 ·intro g
  have:=g.pieces
  simp only[YF] at this;omega
 ·intro h
  refine⟨(show 1≤exE.length∧exE.length≤6 from by decide),(show 1≤exL.length∧exL.length≤4 from by decide),by simp only[YF];omega,exE_ok,exL_ok,fun e he=>?_⟩
  obtain⟨j,hj,rfl⟩:=upL_mem he
  have h1:=tm_bd (a:=2*(j:Int)) (k:=7) ygc ygc
  have h2:=tm_bd (a:=(j:Int)) (k:=3) ygc ygc
  exact⟨by simp only[mkP];omega,by simp only[mkP];omega,by simp only[mkP];omega⟩
structure ThrAt (h0 h:H)(b1 b2 b3:Nat)(A2 A3 B1 B3 C1 C2 X Y Z:V)(n1 n2 n3:Nat):Prop where
 s:h0.Sub h
 g1:h.get b1=some (.bk [X,B1,C1])
 g2:h.get b2=some (.bk [A2,Y,C2])
 g3:h.get b3=some (.bk [A3,B3,Z])
 ox:ZG h0 h X 4 ((upL mkE n1).map Yx)
 oy:ZG h0 h Y 3 ((upL mkL n2).map Zj)
 oz:ZG h0 h Z 3 ((upL mkP n3).map Zj)
 nx:∀b,Zk X b→b≠b1∧b≠b2∧b≠b3
 ny:∀b,Zk Y b→b≠b1∧b≠b2∧b≠b3
 nz:∀b,Zk Z b→b≠b1∧b≠b2∧b≠b3
 xy:∀b,Zk X b→¬Zk Y b
 xz:∀b,Zk X b→¬Zk Z b
 yz:∀b,Zk Y b→¬Zk Z b
section
variable {h0 h hA h':H} {b1 b2 b3:Nat} {A2 A3 B1 B3 C1 C2 X Y Z X':V} {n1 n2 n3:Nat}
theorem ThrAt.stepX (a:ThrAt h0 h b1 b2 b3 A2 A3 B1 B3 C1 C2 X Y Z n1 n2 n3)(hw0:h0.wf)(lb:h0.next≤b1∧b1<b2∧b2<b3)(sA:h.Sub hA)(o:ZG h0 h' X' 4 ((upL mkE n1).map Yx++[Yx (mkE n1)]))(nX:∀b,Zk X' b→Zk X b∨hA.next≤b)(k:Zi (Zk X) hA h'):
  ThrAt h0 (h'.set b1 (.bk [X',B1,C1])) b1 b2 b3 A2 A3 B1 B3 C1 C2 X' Y Z (n1+1) n2 n3:=by
 have l1:=a.s.wf _ _ a.g1
 have l2:=a.s.wf _ _ a.g2
 have l3:=a.s.wf _ _ a.g3
 have ln:=sA.next
 have lk:=k.1
 have kb:=Zi.set h' b1 (.bk [X',B1,C1])
 have s2:=o.1.set (b:=b1) lb.1 ygc hw0 (.bk [X',B1,C1])
 have sS:=a.s.trans sA
 have g2:=k.2 _ _ (sA.get a.g2) fun hb=>(a.nx _ hb).2.1 rfl
 have g3:=k.2 _ _ (sA.get a.g3) fun hb=>(a.nx _ hb).2.2 rfl
 have oy:=(a.oy.mono sA).keep k o.1 fun b hb hx=>a.xy b hx hb
 have oz:=(a.oz.mono sA).keep k o.1 fun b hb hx=>a.xz b hx hb
 have nX':∀b,Zk X' b→b≠b1∧b≠b2∧b≠b3:=fun b hb=>(nX b hb).elim (a.nx b) fun h=>by omega
 rw[←List.map_singleton (f:=Yx),←List.map_append,←upL_succ] at o
 exact⟨s2,get_set_same rfl,kb.2 _ _ g2 ygc,kb.2 _ _ g3 ygc,o.keep kb s2 fun b hb=>(nX' b hb).1,oy.keep kb s2 fun b hb=>(a.ny b hb).1,oz.keep kb s2 fun b hb=>(a.nz b hb).1,nX',a.ny,a.nz,
  fun b hb hy=>(nX b hb).elim (fun h=>a.xy b h hy) fun h=>by have:=(a.oy.blk hy).2.1;omega,fun b hb hz=>(nX b hb).elim (fun h=>a.xz b h hz) fun h=>by have:=(a.oz.blk hz).2.1;omega,a.yz⟩
theorem ThrAt.stepY (a:ThrAt h0 h b1 b2 b3 A2 A3 B1 B3 C1 C2 X Y Z n1 n2 n3)(hw0:h0.wf)(lb:h0.next≤b1∧b1<b2∧b2<b3)(sA:h.Sub hA)(o:ZG h0 h' X' 3 ((upL mkL n2).map Zj++[Zj (mkL n2)]))(nX:∀b,Zk X' b→Zk Y b∨hA.next≤b)(k:Zi (Zk Y) hA h'):
  ThrAt h0 (h'.set b2 (.bk [A2,X',C2])) b1 b2 b3 A2 A3 B1 B3 C1 C2 X X' Z n1 (n2+1) n3:=by
 have l1:=a.s.wf _ _ a.g1
 have l2:=a.s.wf _ _ a.g2
 have l3:=a.s.wf _ _ a.g3
 have ln:=sA.next
 have lk:=k.1
 have kb:=Zi.set h' b2 (.bk [A2,X',C2])
 have s2:=o.1.set (b:=b2) ygc ygc hw0 (.bk [A2,X',C2])
 have g1:=k.2 _ _ (sA.get a.g1) fun hb=>(a.ny _ hb).1 rfl
 have g3:=k.2 _ _ (sA.get a.g3) fun hb=>(a.ny _ hb).2.2 rfl
 have ox:=(a.ox.mono sA).keep k o.1 fun b hb hy=>a.xy b hb hy
 have oz:=(a.oz.mono sA).keep k o.1 fun b hb hy=>a.yz b hy hb
 have nX':∀b,Zk X' b→b≠b1∧b≠b2∧b≠b3:=fun b hb=>(nX b hb).elim (a.ny b) fun h=>by omega
 rw[←List.map_singleton (f:=Zj),←List.map_append,←upL_succ] at o
 exact⟨s2,kb.2 _ _ g1 ygc,get_set_same rfl,kb.2 _ _ g3 ygc,ox.keep kb s2 fun b hb=>(a.nx b hb).2.1,o.keep kb s2 fun b hb=>(nX' b hb).2.1,oz.keep kb s2 fun b hb=>(a.nz b hb).2.1,a.nx,nX',a.nz,
  fun b hb hy=>(nX b hy).elim (fun h=>a.xy b hb h) fun h=>by have:=(a.ox.blk hb).2.1;omega,a.xz,fun b hb hz=>(nX b hb).elim (fun h=>a.yz b h hz) fun h=>by have:=(a.oz.blk hz).2.1;omega⟩
theorem ThrAt.stepZ (a:ThrAt h0 h b1 b2 b3 A2 A3 B1 B3 C1 C2 X Y Z n1 n2 n3)(hw0:h0.wf)(lb:h0.next≤b1∧b1<b2∧b2<b3)(sA:h.Sub hA)(o:ZG h0 h' X' 3 ((upL mkP n3).map Zj++[Zj (mkP n3)]))(nX:∀b,Zk X' b→Zk Z b∨hA.next≤b)(k:Zi (Zk Z) hA h'):
  ThrAt h0 (h'.set b3 (.bk [A3,B3,X'])) b1 b2 b3 A2 A3 B1 B3 C1 C2 X Y X' n1 n2 (n3+1):=by
 have l1:=a.s.wf _ _ a.g1
 have l2:=a.s.wf _ _ a.g2
 have l3:=a.s.wf _ _ a.g3
 have ln:=sA.next
 have lk:=k.1
 have kb:=Zi.set h' b3 (.bk [A3,B3,X'])
 have s2:=o.1.set (b:=b3) ygc ygc hw0 (.bk [A3,B3,X'])
 have g1:=k.2 _ _ (sA.get a.g1) fun hb=>(a.nz _ hb).1 rfl
 have g2:=k.2 _ _ (sA.get a.g2) fun hb=>(a.nz _ hb).2.1 rfl
 have ox:=(a.ox.mono sA).keep k o.1 fun b hb hz=>a.xz b hb hz
 have oy:=(a.oy.mono sA).keep k o.1 fun b hb hz=>a.yz b hb hz
 have nX':∀b,Zk X' b→b≠b1∧b≠b2∧b≠b3:=fun b hb=>(nX b hb).elim (a.nz b) fun h=>by omega
 rw[←List.map_singleton (f:=Zj),←List.map_append,←upL_succ] at o
 exact⟨s2,kb.2 _ _ g1 ygc,kb.2 _ _ g2 ygc,get_set_same rfl,ox.keep kb s2 fun b hb=>(a.nx b hb).2.2,oy.keep kb s2 fun b hb=>(a.ny b hb).2.2,o.keep kb s2 fun b hb=>(nX' b hb).2.2,a.nx,a.ny,nX',
  a.xy,fun b hb hz=>(nX b hz).elim (fun h=>a.xz b hb h) fun h=>by have:=(a.ox.blk hb).2.1;omega,fun b hb hz=>(nX b hz).elim (fun h=>a.yz b hb h) fun h=>by have:=(a.oy.blk hb).2.1;omega⟩
end
set_option maxRecDepth 4000 in
set_option maxHeartbeats 8000000 in
theorem small3_ev {h:H}(hw:h.wf)(tm:Go.Ab.T V):
  W fnG Zm 374 5 none (Xz [true,true,true,true,false] c5.body) ⟨tm,h,[]⟩ fun x s=>x=.nrm∧∃tm' h',s=⟨tm',h',[]⟩∧h.Sub h':=by
 simp(disch:=first|omega|simp only[nZ]<;>omega|fail)only[Xz,c5,go_sem]
 refine W.mono (Q:=fun x1 s=>x1=.ext 12∧∃tm h',s=⟨tm,h',[]⟩∧h.Sub h')
  (Zh 11 (fun n s=>∃tm h',s=⟨tm,h',[]⟩∧h.Sub h'∧tm.E 282=.ii (n:Int))
  ?_ ?_ (i:=0) (Nat.zero_le _) ⟨_,_,rfl,H.Sub.refl hw,ygb⟩) fun x1 s hx1=>?_
 ·rintro n s hn ⟨tm,hh,rfl,sh,t282⟩
  have hn':(n:Int)<11:=by omega
  simp(disch:=first|omega|simp only[nZ]<;>omega|fail)only[go_sem,t282,hn']
  refine Two_ev sh.wf _ fun a1 b1 c1 h1 s1 l1 ga1 gb1 gc1=>?_
  simp(disch:=first|omega|simp only[nZ]<;>omega|fail)only[go_sem,t282]
  refine Two_ev s1.wf _ fun a2 b2 c2 h2 s2 l2 ga2 gb2 gc2=>?_
  simp(disch:=first|omega|simp only[nZ]<;>omega|fail)only[go_sem,t282]
  refine Two_ev s2.wf _ fun a3 b3 c3 h3 s3 l3 ga3 gb3 gc3=>?_
  simp(disch:=first|omega|simp only[nZ]<;>omega|fail)only[go_sem,t282]
  have w3:=s3.wf
  have lb:h3.next≤h3.next∧h3.next<h3.next+1∧h3.next+1<h3.next+1+1:=by omega
  have nilB:∀b,¬Zk (.nils) b:=fun b ⟨_,_,_,e⟩=>by cases e
  refine W.mono (Q:=fun x1 s=>x1=.ext 14∧∃tm hq X Y Z,s=⟨tm,hq,[]⟩∧ThrAt h3 hq h3.next (h3.next+1) (h3.next+1+1) (.sl a2 0 2 (.fix 2)) (.sl a3 0 2 (.fix 2)) (.sl b1 0 2 (.fix 2)) (.sl b3 0 2 (.fix 2)) (.sl c1 0 6 (.fix 6)) (.sl c2 0 6 (.fix 6)) X Y Z n n n∧tm.E 22=.ii (n:Int)∧tm.E 23=.ptr h3.next 0∧tm.E 24=.ptr (h3.next+1) 0∧tm.E 25=.ptr (h3.next+1+1) 0∧tm.E 282=.ii (n:Int))
   (Zh n (fun i s=>∃tm hq X Y Z,s=⟨tm,hq,[]⟩∧ThrAt h3 hq h3.next (h3.next+1) (h3.next+1+1) (.sl a2 0 2 (.fix 2)) (.sl a3 0 2 (.fix 2)) (.sl b1 0 2 (.fix 2)) (.sl b3 0 2 (.fix 2)) (.sl c1 0 6 (.fix 6)) (.sl c2 0 6 (.fix 6)) X Y Z i i i∧tm.E 22=.ii (n:Int)∧tm.E 23=.ptr h3.next 0∧tm.E 24=.ptr (h3.next+1) 0∧tm.E 25=.ptr (h3.next+1+1) 0∧tm.E 282=.ii (n:Int)∧tm.E 291=.ii (n:Int)∧tm.E 292=.ii (i:Int))
   ?_ ?_ (i:=0) (Nat.zero_le _) ⟨_,_,.nils,.nils,.nils,rfl,⟨(yga),ygn,ygn,ygn,⟨(yga),by simp[upL],.inl ⟨rfl,rfl⟩⟩,⟨(yga),by simp[upL],.inl ⟨rfl,rfl⟩⟩,⟨(yga),by simp[upL],.inl ⟨rfl,rfl⟩⟩,fun b hb=>absurd hb (nilB b),fun b hb=>absurd hb (nilB b),fun b hb=>absurd hb (nilB b),fun b hb=>absurd hb (nilB b),fun b hb=>absurd hb (nilB b),fun b hb=>absurd hb (nilB b)⟩,ygb,ygb,ygb,ygb,ygy,ygb,ygb⟩) fun x1 s hx1=>?_
  ·clear t282
   rintro i s hi ⟨tm,hq,X,Y,Z,rfl,a,t22,t23,t24,t25,t282,t291,t292⟩
   have hi':(i:Int)<(n:Int):=by omega
   have q5:¬(5:Int)=0:=by omega
   have q3:¬(3:Int)=0:=by omega
   have q4:¬(4:Int)=0:=by omega
   have q2:¬(2:Int)=0:=by omega
   have q7:¬(7:Int)=0:=by omega
   have w1:wr .i64 (3+(i:Int))=3+(i:Int):=ZC ygc ygc
   have w2:wr .i64 (2*(i:Int))=2*(i:Int):=ZC ygc ygc
   have X1:=a.ox.one
   have sA:=(H.Sub.refl a.s.wf).add (.bk [.ii ((i:Int).tmod 5),.ii ((i:Int).tmod 3),.ii 1,.ii (3+(i:Int))])
   simp(disch:=first|omega|simp only[nZ]<;>omega|fail)only[go_sem,t22,t23,t24,t25,t282,t291,t292,hi',Zb a.g1,Zu .i64 q5,Zu .i64 q3,w1]
   have own4:Zg (hq.add (.bk [.ii ((i:Int).tmod 5),.ii ((i:Int).tmod 3),.ii 1,.ii (3+(i:Int))])) (.sl hq.next 0 1 (.fix 1)) 4 [Yx (mkE i)]:=Zg.new _ rfl rfl (by simp[Yx,mkE]) ygB ygb
   generalize hq.add (.bk [.ii ((i:Int).tmod 5),.ii ((i:Int).tmod 3),.ii 1,.ii (3+(i:Int))])=hA at sA own4⊢
   refine(a.ox.mono sA).app1 (by_:=32) (r:=Yx (mkE i)) w3 rfl ygc own4 rfl ygf ygf fun X' h5 oX nX kX=>?_
   have a5:=a.stepX w3 lb sA oX nX kX
   have gX:=kX.2 _ _ (sA.get a.g1) fun hb=>(a.nx _ hb).1 rfl
   have X1':=oX.one
   have gY:=kX.2 _ _ (sA.get a.g2) fun hb=>(a.nx _ hb).2.1 rfl
   simp(disch:=first|omega|simp only[nZ]<;>omega|fail)only[go_sem,t22,t23,t24,t25,t282,t291,t292,gX,X1',cells_one X1',Zb gY,Zu .i64 q4,Zu .i64 q3,Zu .i64 q2]
   have n6:(h5.set h3.next (.bk [X',.sl b1 0 2 (.fix 2),.sl c1 0 6 (.fix 6)])).next=h5.next:=H.next_set _ _ _
   generalize h5.set h3.next (.bk [X',.sl b1 0 2 (.fix 2),.sl c1 0 6 (.fix 6)])=h6 at a5 n6⊢
   have sB:=(H.Sub.refl a5.s.wf).add (.bk [.ii ((i:Int).tmod 4),.ii ((i:Int).tmod 3),.ii ((i:Int).tmod 2)])
   have ownL:Zg (h6.add (.bk [.ii ((i:Int).tmod 4),.ii ((i:Int).tmod 3),.ii ((i:Int).tmod 2)])) (.sl h5.next 0 1 (.fix 1)) 3 [Zj (mkL i)]:=Zg.new _ n6.symm rfl (by simp[Zj,mkL]) ygp ygb
   generalize h6.add (.bk [.ii ((i:Int).tmod 4),.ii ((i:Int).tmod 3),.ii ((i:Int).tmod 2)])=hB at sB ownL⊢
   refine(a5.oy.mono sB).app1 (by_:=24) (r:=Zj (mkL i)) w3 rfl ygc ownL rfl ygf ygf fun Y' h7 oY nY kY=>?_
   have a7:=a5.stepY w3 lb sB oY nY kY
   have gY':=kY.2 _ _ (sB.get a5.g2) fun hb=>(a5.ny _ hb).2.1 rfl
   have Y1':=oY.one
   have gZ:=kY.2 _ _ (sB.get a5.g3) fun hb=>(a5.ny _ hb).2.2 rfl
   simp(disch:=first|omega|simp only[nZ]<;>omega|fail)only[go_sem,t22,t23,t24,t25,t282,t291,t292,gY',Y1',cells_one Y1',Zb gZ,Zu .i64 q7,Zu .i64 q3,w2]
   have n8:(h7.set (h3.next+1) (.bk [.sl a2 0 2 (.fix 2),Y',.sl c2 0 6 (.fix 6)])).next=h7.next:=H.next_set _ _ _
   generalize h7.set (h3.next+1) (.bk [.sl a2 0 2 (.fix 2),Y',.sl c2 0 6 (.fix 6)])=h8 at a7 n8⊢
   have sC:=(H.Sub.refl a7.s.wf).add (.bk [.ii (i:Int),.ii ((2*(i:Int)).tmod 7),.ii ((i:Int).tmod 3)])
   have ownP:Zg (h8.add (.bk [.ii (i:Int),.ii ((2*(i:Int)).tmod 7),.ii ((i:Int).tmod 3)])) (.sl h7.next 0 1 (.fix 1)) 3 [Zj (mkP i)]:=Zg.new _ n8.symm rfl (by simp[Zj,mkP]) ygp ygb
   generalize h8.add (.bk [.ii (i:Int),.ii ((2*(i:Int)).tmod 7),.ii ((i:Int).tmod 3)])=hC at sC ownP⊢
   refine(a7.oz.mono sC).app1 (by_:=24) (r:=Zj (mkP i)) w3 rfl ygc ownP rfl ygf ygf fun Z' h9 oZ nZ kZ=>?_
   have a9:=a7.stepZ w3 lb sC oZ nZ kZ
   have gZ':=kZ.2 _ _ (sC.get a7.g3) fun hb=>(a7.nz _ hb).2.2 rfl
   have Z1':=oZ.one
   simp(disch:=first|omega|simp only[nZ]<;>omega|fail)only[go_sem,t22,t23,t24,t25,t282,t291,t292,gZ',Z1',cells_one Z1',Zc]
   exact⟨_,_,X',Y',Z',rfl,a9,(by simp[t22]),(by simp[t23]),(by simp[t24]),(by simp[t25]),ygy,(by simp[t291]),ygb⟩
  ·clear t282
   rintro s ⟨tm,hq,X,Y,Z,rfl,a,t22,t23,t24,t25,t282,t291,t292⟩
   simp(disch:=first|omega|simp only[nZ]<;>omega|fail)only[go_sem,t22,t23,t24,t25,t282,t291,t292,Int.lt_irrefl]
   exact⟨_,_,X,Y,Z,rfl,a,(by simp[t22]),(by simp[t23]),(by simp[t24]),(by simp[t25]),ygy⟩
  clear t282
  obtain⟨rfl,tm,hq,X,Y,Z,rfl,a,t22,t23,t24,t25,t282⟩:=hx1
  have X1:=a.ox.one
  have Y1:=a.oy.one
  have Z1:=a.oz.one
  simp(disch:=first|omega|simp only[nZ]<;>omega|fail)only[go_sem,t22,t23,t24,t25,t282,Zb a.g1,Zb a.g2,Zb a.g3,X1,Y1,Z1,cells_one X1,cells_one Y1,cells_one Z1]
  have sK:=(H.Sub.refl a.s.wf).add (.bk [X,.sl b1 0 2 (.fix 2),.sl c1 0 6 (.fix 6),.sl a2 0 2 (.fix 2),Y,.sl c2 0 6 (.fix 6),.sl a3 0 2 (.fix 2),.sl b3 0 2 (.fix 2),Z])
  have gK:(hq.add (.bk [X,.sl b1 0 2 (.fix 2),.sl c1 0 6 (.fix 6),.sl a2 0 2 (.fix 2),Y,.sl c2 0 6 (.fix 6),.sl a3 0 2 (.fix 2),.sl b3 0 2 (.fix 2),Z])).cells hq.next=some [X,.sl b1 0 2 (.fix 2),.sl c1 0 6 (.fix 6),.sl a2 0 2 (.fix 2),Y,.sl c2 0 6 (.fix 6),.sl a3 0 2 (.fix 2),.sl b3 0 2 (.fix 2),Z]:=Zf rfl
  have s1q:=s2.trans (s3.trans a.s)
  have s2q:=s3.trans a.s
  have hB1:Zg hq (.sl b1 0 2 (.fix 2)) 3 (exL.map Zj):=Zg.full rfl (s1q.get gb1) ygp (by simp[exL])
  have hC1:Zg hq (.sl c1 0 6 (.fix 6)) 3 (exP.map Zj):=Zg.full rfl (s1q.get gc1) ygp (by simp[exP])
  have hA2:Zg hq (.sl a2 0 2 (.fix 2)) 4 (exE.map Yx):=Zg.full rfl (s2q.get ga2) ygB (by simp[exE])
  have hC2:Zg hq (.sl c2 0 6 (.fix 6)) 3 (exP.map Zj):=Zg.full rfl (s2q.get gc2) ygp (by simp[exP])
  have hA3:Zg hq (.sl a3 0 2 (.fix 2)) 4 (exE.map Yx):=Zg.full rfl (a.s.get ga3) ygB (by simp[exE])
  have hB3:Zg hq (.sl b3 0 2 (.fix 2)) 3 (exL.map Zj):=Zg.full rfl (a.s.get gb3) ygp (by simp[exL])
  have hX:=a.ox.sl ygf
  have hY:=a.oy.sl ygf
  have hZ:=a.oz.sl ygf
  have hk3:∀k,k<3→∃P1 P2 P3 t,X7 (k*3) 3 [X,.sl b1 0 2 (.fix 2),.sl c1 0 6 (.fix 6),.sl a2 0 2 (.fix 2),Y,.sl c2 0 6 (.fix 6),.sl a3 0 2 (.fix 2),.sl b3 0 2 (.fix 2),Z]=some [P1,P2,P3]∧(P1.one=true∧P2.one=true∧P3.one=true)∧ZK hq (.agg [P1,P2,P3]) t∧nth k [.bool (decide (0<n∧n<7)),.bool (decide (0<n∧n<5)),.bool (decide (n<10))]=some (.bool (decide (check t=0))):=fun k hk=>by
   have:k=0∨k=1∨k=2:=by omega
   rcases this with rfl|rfl|rfl
   ·exact⟨_,_,_,⟨upL mkE n,exL,exP⟩,rfl,⟨X1,rfl,rfl⟩,⟨_,_,_,rfl,hX,hB1,hC1⟩,by rw[chkE n hn];rfl⟩
   ·exact⟨_,_,_,⟨exE,upL mkL n,exP⟩,rfl,⟨rfl,Y1,rfl⟩,⟨_,_,_,rfl,hA2,hY,hC2⟩,by rw[chkL n hn];rfl⟩
   ·exact⟨_,_,_,⟨exE,exL,upL mkP n⟩,rfl,⟨rfl,rfl,Z1⟩,⟨_,_,_,rfl,hA3,hB3,hZ⟩,by rw[chkP n hn];rfl⟩
  generalize hq.add (.bk [X,.sl b1 0 2 (.fix 2),.sl c1 0 6 (.fix 6),.sl a2 0 2 (.fix 2),Y,.sl c2 0 6 (.fix 6),.sl a3 0 2 (.fix 2),.sl b3 0 2 (.fix 2),Z])=hK at sK gK⊢
  have shK:=sh.trans (s1.trans (s1q.trans sK))
  refine W.mono (Q:=fun x1 s=>x1=.ext 16∧∃tm hz,s=⟨tm,hz,[]⟩∧hK.Sub hz∧tm.E 282=.ii (n:Int))
   (Zh 3 (fun k s=>∃tm hz,s=⟨tm,hz,[]⟩∧hK.Sub hz∧tm.E 22=.ii (n:Int)∧tm.E 282=.ii (n:Int)∧tm.E 336=.sl hq.next 0 3 (.fix 3)∧tm.E 337=.ii 3∧tm.E 338=.ii (k:Int))
   ?_ ?_ (i:=0) (Nat.zero_le _) ⟨_,_,rfl,H.Sub.refl sK.wf,(by simp[t22]),ygy,ygb,ygb,ygb⟩) fun x1 s hx1=>?_
  ·clear t22 t23 t24 t25 t282
   rintro k s hk ⟨tm,hz,rfl,sz,t22,t282,t336,t337,t338⟩
   have hk':(k:Int)<3:=by omega
   obtain⟨P1,P2,P3,t,hg9,⟨p1,p2,p3⟩,hT,hnth⟩:=hk3 k hk
   have gz:=sz.cells gK
   have sB:=(H.Sub.refl sz.wf).add (.bk [P1,P2,P3])
   have gB:(hz.add (.bk [P1,P2,P3])).cells hz.next=some [P1,P2,P3]:=Zf rfl
   simp(disch:=first|omega|simp only[nZ]<;>omega|fail)only[go_sem,t22,t282,t336,t337,t338,hk',ZZ (Ze k) hk,gz,hg9,p1,p2,p3,cells_one p1,cells_one p2,cells_one p3]
   have hTB:=hT.mono (sK.trans (sz.trans sB))
   have AK:=fun Q q'=>asked_ev (l:=[]) (S:=[]) (l1:=0) (l2:=0) (p:=0) (q:=1) (r:=1) (a:=⟨0,0,0⟩) (b:=⟨0,0,0⟩) (x:=.nils) (y:=.nils) sB.wf hTB ⟨by simp,by simp,.inl ⟨rfl,rfl⟩⟩ ⟨[],⟨by simp,by simp,.inl ⟨rfl,rfl⟩⟩,rfl,fun i hi=>by simp at hi⟩ Q q'
   simp only[Zj] at AK
   refine AK _ fun h5 s5=>?_
   simp(disch:=first|omega|simp only[nZ]<;>omega|fail)only[go_sem,t22,t282,t336,t337,t338,Bool.not_true,s5.cells gB]
   refine(check_ev s5.wf (hTB.mono s5)).mono fun u h6 hu=>?_
   obtain⟨rfl,s6⟩:=hu
   have sz6:=sz.trans (sB.trans (s5.trans s6))
   have e10:decide ((n:Int)<10)=decide (n<10):=by rw[decide_eq_decide];omega
   have bb:∀b:Bool,(!(b==b))=false:=fun b=>by cases b<;>rfl
   by_cases n0:n=0
   ·have d0:decide ((0:Int)<(n:Int))=false:=decide_eq_false ygc
    have m1:decide (0<n∧n<7)=false:=decide_eq_false ygc
    have m2:decide (0<n∧n<5)=false:=decide_eq_false ygc
    rw[m1,m2] at hnth
    simp(disch:=first|omega|simp only[nZ]<;>omega|fail)only[go_sem,t22,t282,t336,t337,t338,d0,e10,ZZ (Ze k) hk,Nat.mul_one,hnth,bb,Zc]
    exact⟨_,_,rfl,sz6.add _,(by simp[t22]),ygy,(by simp[t336]),(by simp[t337]),ygb⟩
   ·have d0:decide ((0:Int)<(n:Int))=true:=decide_eq_true ygc
    have d7:decide ((n:Int)<7)=decide (0<n∧n<7):=by rw[decide_eq_decide];omega
    have d5:decide ((n:Int)<5)=decide (0<n∧n<5):=by rw[decide_eq_decide];omega
    simp(disch:=first|omega|simp only[nZ]<;>omega|fail)only[go_sem,t22,t282,t336,t337,t338,d0,d7,d5,e10,ZZ (Ze k) hk,Nat.mul_one,hnth,bb,Zc]
    exact⟨_,_,rfl,sz6.add _,(by simp[t22]),ygy,(by simp[t336]),(by simp[t337]),ygb⟩
  ·clear t22 t23 t24 t25 t282
   rintro s ⟨tm,hz,rfl,sz,t22,t282,t336,t337,t338⟩
   have hnl:¬((3:Nat):Int)<3:=by omega
   simp(disch:=first|omega|simp only[nZ]<;>omega|fail)only[go_sem,t22,t282,t336,t337,t338,hnl]
   exact⟨_,_,rfl,sz,ygy⟩
  clear t22 t23 t24 t25 t282
  obtain⟨rfl,tm,hz,rfl,sz,t282⟩:=hx1
  simp(disch:=first|omega|simp only[nZ]<;>omega|fail)only[go_sem,t282,Zc]
  exact⟨_,_,rfl,shK.trans sz,ygb⟩
 ·rintro s ⟨tm,hh,rfl,sh,t282⟩
  have hnl:¬((11:Nat):Int)<11:=by omega
  simp(disch:=first|omega|simp only[nZ]<;>omega|fail)only[go_sem,t282,hnl]
  exact⟨_,_,rfl,sh⟩
 obtain⟨rfl,tm,h',rfl,sh⟩:=hx1
 simp(disch:=first|omega|simp only[nZ]<;>omega|fail)only[go_sem]
 exact⟨_,_,rfl,sh⟩
end Go.Ab.Tryz
namespace Go.Ab.Tryz
theorem iv_sd:∀(m:Nat) (cs:List Int),cs.length=m*3→∃ps:List Sd,ps.length=m∧cs.map iv=(ps.map Zj).flatten
 |0,cs,h=>⟨[],rfl,by have:cs=[]:=List.length_eq_zero_iff.1 ygc;rw[this];rfl⟩
 |m+1,cs,h=>by
  match cs,h with
  |x::y::z::cs,h=>
   obtain⟨ps,h1,h2⟩:=iv_sd m cs (by simp only[List.length_cons] at h;omega)
   exact⟨⟨x,y,z⟩::ps,by simp[h1],by simp only[List.map_cons,List.flatten_cons,h2];rfl⟩
  |[_,_],h=>simp at h;omega
  |[_],h=>simp at h;omega
  |[],h=>simp at h
theorem iv_ey:∀(m:Nat) (cs:List Int),cs.length=m*4→∃ps:List Ey,ps.length=m∧cs.map iv=(ps.map Yx).flatten
 |0,cs,h=>⟨[],rfl,by have:cs=[]:=List.length_eq_zero_iff.1 ygc;rw[this];rfl⟩
 |m+1,cs,h=>by
  match cs,h with
  |x::y::z::u::cs,h=>
   obtain⟨ps,h1,h2⟩:=iv_ey m cs (by simp only[List.length_cons] at h;omega)
   exact⟨⟨⟨x,y,z⟩,u⟩::ps,by simp[h1],by simp only[List.map_cons,List.flatten_cons,h2];rfl⟩
  |[_,_,_],h=>simp at h;omega
  |[_,_],h=>simp at h;omega
  |[_],h=>simp at h;omega
  |[],h=>simp at h
theorem iv_int:∀(cs:List Int),cs.map iv=(cs.map encI).flatten
 |[]=>rfl
 |c::cs=>by simp only[List.map_cons,List.flatten_cons,iv_int cs];rfl
def Zx (h:H)(b k:Nat):Prop:=∃cs:List Int,cs.length=k∧h.get b=some (.bk (cs.map iv))
theorem Zx.mono {h h':H}{b k:Nat}(a:Zx h b k)(s:h.Sub h'):Zx h' b k:=by
 obtain⟨cs,h1,h2⟩:=a
 exact⟨cs,h1,s.get h2⟩
theorem Zx.one {h:H}{b:Nat}(a:Zx h b 1):∃u,h.get b=some (.bk [.ii u]):=by
 obtain⟨cs,h1,h2⟩:=a
 match cs,h1,h2 with
 |[u],_,h2=>exact⟨u,h2⟩
theorem Zx.two {h:H}{b:Nat}(a:Zx h b 2):∃u v,h.get b=some (.bk [.ii u,.ii v]):=by
 obtain⟨cs,h1,h2⟩:=a
 match cs,h1,h2 with
 |[u,v],_,h2=>exact⟨u,v,h2⟩
theorem Zx.three {h:H}{b:Nat}(a:Zx h b 3):∃u v w,h.get b=some (.bk [.ii u,.ii v,.ii w]):=by
 obtain⟨cs,h1,h2⟩:=a
 match cs,h1,h2 with
 |[u,v,w],_,h2=>exact⟨u,v,w,h2⟩
theorem Zx.slI {h:H}{b k:Nat}(a:Zx h b k)(hk:k≤1000):∃l:List Int,Zg h (.sl b 0 k (.fix k)) 1 (l.map encI):=by
 obtain⟨cs,h1,h2⟩:=a
 exact⟨cs,Zg.full (by rw[List.length_map,h1]) (by rw[←iv_int];exact h2) (by simp[encI]) ygk⟩
theorem Zx.set {h:H}{b k c m:Nat}(a:Zx h b k){cs:List Int}(hc:h.get c=some (.bk (cs.map iv)))(hm:cs.length=m){ds:List Int}(hd:ds.length=m):Zx (h.set c (.bk (ds.map iv))) b k:=by
 obtain⟨es,h1,h2⟩:=a
 by_cases e:b=c
 ·subst e
  rw[h2] at hc
  have:es.length=cs.length:=by
   have:=congrArg (fun x=>match x with|some (Blk.cells _ l)=>l.length|_=>0) hc
   simpa using this
  exact⟨ds,by omega,get_set_same rfl⟩
 ·exact⟨es,h1,by rw[get_set_other e];exact h2⟩
theorem Zx.ne {h:H}{b k d:Nat}(a:Zx h b k){vs:List V}(hd:h.get d=some (.bk vs))(hv:∀v∈vs.head?,∀n,v≠.ii n)(hk:0<k):d≠b:=fun e=>by
 subst e
 obtain⟨cs,h1,h2⟩:=a
 rw[h2] at hd
 cases hd
 cases cs with
 |nil=>simp at h1;omega
 |cons c cs=>exact hv (iv c) ygb c rfl
theorem app_many {h:H}{a n:Nat}{y:V}{rows l:List Int}{Q:V→H→Prop}(hw:h.wf)(hg:h.get a=some (.bk (rows.map encI).flatten))(hn:n=rows.length)(hy:YY h y l)(hl:rows.length+l.length≤1000)
  (q:∀x' h',h.Sub h'→Zg h' x' 1 ((rows++l).map encI)→Q x' h'):P2 (Z8 h 1 8 (.sl a 0 n (.fix n)) y) Q:=by
 subst hn
 have hs:Zg h (.sl a 0 rows.length (.fix rows.length)) 1 (rows.map encI):=Zg.full ygz hg (by simp[encI]) ygk
 have hy2:elems h 1 y=some (l.map encI).flatten∧lenV y=some l.length:=by
  rcases hy with hy|⟨rfl,a,rfl⟩
  ·have:=hy.elems;rwa[List.length_map] at this
  ·exact⟨rfl,rfl⟩
 rw[Yy,hy2.1,hy2.2]
 simp only[YI]
 cases l with
 |nil=>
  simp only[List.length_nil,List.map_nil,List.flatten_nil]
  rw[WP,show Nat.ble rows.length rows.length=true by simp]
  rw[Zy,ZN]
  exact q _ _ (H.Sub.refl hw) (by rw[List.append_nil];exact hs)
 |cons b l=>
  simp only[List.length_cons] at hl⊢
  rw[Xl ygc hs.elems.1 ygc ygc,XD,ZN]
  have sA:=(H.Sub.refl hw).add (.cells (.gr 1) ((rows.map encI).flatten++((b::l).map encI).flatten))
  refine q _ _ sA (Zg.new _ rfl ?_ ?_ (fun r hr=>by obtain⟨_,_,rfl⟩:=List.mem_map.1 hr;rfl) (by simp only[List.length_map,List.length_append,List.length_cons];omega))
  ·simp only[List.length_map,List.length_append,List.length_cons]
  ·rw[List.map_append,List.flatten_append]
set_option maxRecDepth 4000 in
set_option maxHeartbeats 8000000 in
theorem small1_ev {h:H}(hw:h.wf)(tm:Go.Ab.T V){x:V}{S:List (List Int)}(hS:RdI h x S)(h16:S.length=16)(hll:∀l∈S,l.length≤100)(t1:tm.E 1=x):
  W fnG Zm 374 5 none (Xz [true,true,false] c5.body) ⟨tm,h,[]⟩ fun x s=>x=.nrm∧∃tm' h',s=⟨tm',h',[]⟩∧h.Sub h':=by
 have hlx:=hS.len
 rw[h16] at hlx
 simp(disch:=first|omega|simp only[nZ]<;>omega|fail)only[Xz,c5,go_sem,t1,hlx]
 refine W.mono (Q:=fun x1 s=>x1=.ext 0∧∃tm h',s=⟨tm,h',[]⟩∧h.Sub h')
  (Zh 16 (fun i s=>∃tm h',s=⟨tm,h',[]⟩∧h.Sub h'∧tm.E 46=x∧tm.E 47=.ii ((16:Nat):Int)∧tm.E 48=.ii (i:Int))
  ?_ ?_ (i:=0) (Nat.zero_le _) ⟨_,_,rfl,H.Sub.refl hw,ygb,ygb,ygb⟩) fun x1 s hx1=>?_
 ·clear t1
  rintro i s hi ⟨tm,hh,rfl,sh,t46,t47,t48⟩
  have hi':(i:Int)<((16:Nat):Int):=by omega
  obtain⟨bR,oR,csR,vR,r1,r2,r3,r4⟩:=(hS.mono sh).row (show i<S.length by omega)
  obtain⟨l,el⟩:∃l,S[i]' ygc=l:=⟨_,rfl⟩
  have hll':=hll _ (List.getElem_mem (show i<S.length by omega))
  rw[el] at r4 hll'
  have vR1:=r4.one
  have sA:=(H.Sub.refl sh.wf).add (.bk [.ii 9223372036854775807,.ii (-9223372036854775808)])
  have gA:(hh.add (.bk [.ii 9223372036854775807,.ii (-9223372036854775808)])).get hh.next=some (.bk (([9223372036854775807, -9223372036854775808]:List Int).map encI).flatten):=Zn rfl
  simp(disch:=first|omega|simp only[nZ]<;>omega|fail)only[go_sem,t46,t47,t48,hi',r1,r2,r3]
  generalize hh.add (.bk [.ii 9223372036854775807,.ii (-9223372036854775808)])=hA at sA gA⊢
  refine app_many sA.wf gA rfl (r4.mono sA) (by simp only[List.length_cons,List.length_nil];omega) fun y hB sB hy=>?_
  obtain⟨L,eL⟩:∃L:List Int,[9223372036854775807, -9223372036854775808]++l=L:=⟨_,rfl⟩
  rw[eL] at hy
  have lL:L.length≤200:=by rw[←eL];simp only[List.length_append,List.length_cons,List.length_nil];omega
  have lyE:=hy.lenE
  have s0B:=sh.trans (sA.trans sB)
  simp(disch:=first|omega|simp only[nZ]<;>omega|fail)only[go_sem,t46,t47,t48,lyE]
  refine W.mono (Q:=fun x1 s=>x1=.ext 2∧∃tm h',s=⟨tm,h',[]⟩∧h.Sub h'∧tm.E 46=x∧tm.E 47=.ii ((16:Nat):Int)∧tm.E 48=.ii (i:Int))
   (Zh L.length (fun j s=>∃tm hz,s=⟨tm,hz,[]⟩∧hB.Sub hz∧tm.E 2=.ii (i:Int)∧tm.E 46=x∧tm.E 47=.ii ((16:Nat):Int)∧tm.E 48=.ii (i:Int)∧tm.E 55=y∧tm.E 56=.ii (L.length:Int)∧tm.E 57=.ii (j:Int))
   ?_ ?_ (i:=0) (Nat.zero_le _) ⟨_,_,rfl,H.Sub.refl sB.wf,ygb,(by simp[t46]),(by simp[t47]),(by simp[t48]),ygb,ygb,ygb⟩) fun x1 s hx1=>?_
  ·clear t46 t47 t48
   rintro j s hj ⟨tm,hz,rfl,sz,t2,t46,t47,t48,t55,t56,t57⟩
   have hj':(j:Int)<(L.length:Int):=by omega
   obtain⟨bN,oN,csN,f1,f2,f3⟩:=Zg.elemF (hy.mono sz) hj
   obtain⟨n,en⟩:∃n,L[j]=n:=⟨_,rfl⟩
   rw[en] at f3
   simp(disch:=first|omega|simp only[nZ]<;>omega|fail)only[go_sem,t2,t46,t47,t48,t55,t56,t57,hj',f1,f2,f3]
   refine Two_ev sz.wf _ fun a b c h1 s1 lab ga gb gc=>?_
   simp(disch:=first|omega|simp only[nZ]<;>omega|fail)only[go_sem,t2,t46,t47,t48,t55,t56,t57]
   have w1:=s1.wf
   obtain⟨H2,eH2⟩:∃H2,(((((((((((((((((((h1.add (.bk [.nils,.nils,.nils])).add (.bk [.ii 0,.ii 0])).add (.bk [.ii 0,.ii 0,.ii 0])).add (.bk [.ii 0,.ii 0,.ii 0])).set h1.next (.bk [.sl a 0 2 (.fix 2),.sl b 0 2 (.fix 2),.sl c 0 6 (.fix 6)])).set (h1.next+1) (.bk [.ii 1,.ii 0])).set (h1.next+1+1) (.bk [.ii 5,.ii 5,.ii 6])).set (h1.next+1+1+1) (.bk [.ii 7,.ii 5,.ii 7])).add (.bk [.ii 0,.ii 1])).add (.bk [.ii 0,.ii 1,.ii 4])).add (.bk [.ii 2])).add (.bk [.ii 3,.ii 5])).add (.bk [.sl (h1.next+1+1+1+1+1) 0 3 (.fix 3),.sl (h1.next+1+1+1+1+1+1) 0 1 (.fix 1),.sl (h1.next+1+1+1+1+1+1+1) 0 2 (.fix 2)])).add (.bk [.ii 0])).add (.bk [.ii 0])).add (.bk [.ii 0])).set (h1.next+1+1+1+1+1+1+1+1+1) (.bk [.ii 0])).set (h1.next+1+1+1+1+1+1+1+1+1+1) (.bk [.ii 1])).set (h1.next+1+1+1+1+1+1+1+1+1+1+1) (.bk [.ii 0]))=H2:=⟨_,rfl⟩
   have sH:h1.Sub H2:=by rw[←eH2];exact yga
   have g0:H2.get h1.next=some (.bk [.sl a 0 2 (.fix 2),.sl b 0 2 (.fix 2),.sl c 0 6 (.fix 6)]):=by rw[←eH2];simp(disch:=first|omega|simp only[nZ]<;>omega|fail)only[go_sem]
   have g8:H2.get (h1.next+1+1+1+1+1+1+1+1)=some (.bk [.sl (h1.next+1+1+1+1+1) 0 3 (.fix 3),.sl (h1.next+1+1+1+1+1+1) 0 1 (.fix 1),.sl (h1.next+1+1+1+1+1+1+1) 0 2 (.fix 2)]):=by rw[←eH2];simp(disch:=first|omega|simp only[nZ]<;>omega|fail)only[go_sem]
   have i1:Zx H2 (h1.next+1) 2:=⟨[1,0],rfl,by rw[←eH2];show _=some (Blk.bk [.ii 1,.ii 0]);simp(disch:=first|omega|simp only[nZ]<;>omega|fail)only[go_sem]⟩
   have i2:Zx H2 (h1.next+1+1) 3:=⟨[5,5,6],rfl,by rw[←eH2];show _=some (Blk.bk [.ii 5,.ii 5,.ii 6]);simp(disch:=first|omega|simp only[nZ]<;>omega|fail)only[go_sem]⟩
   have i3:Zx H2 (h1.next+1+1+1) 3:=⟨[7,5,7],rfl,by rw[←eH2];show _=some (Blk.bk [.ii 7,.ii 5,.ii 7]);simp(disch:=first|omega|simp only[nZ]<;>omega|fail)only[go_sem]⟩
   have i4:Zx H2 (h1.next+1+1+1+1) 2:=⟨[0,1],rfl,by rw[←eH2];show _=some (Blk.bk [.ii 0,.ii 1]);simp(disch:=first|omega|simp only[nZ]<;>omega|fail)only[go_sem]⟩
   have i5:Zx H2 (h1.next+1+1+1+1+1) 3:=⟨[0,1,4],rfl,by rw[←eH2];show _=some (Blk.bk [.ii 0,.ii 1,.ii 4]);simp(disch:=first|omega|simp only[nZ]<;>omega|fail)only[go_sem]⟩
   have i6:Zx H2 (h1.next+1+1+1+1+1+1) 1:=⟨[2],rfl,by rw[←eH2];show _=some (Blk.bk [.ii 2]);simp(disch:=first|omega|simp only[nZ]<;>omega|fail)only[go_sem]⟩
   have i7:Zx H2 (h1.next+1+1+1+1+1+1+1) 2:=⟨[3,5],rfl,by rw[←eH2];show _=some (Blk.bk [.ii 3,.ii 5]);simp(disch:=first|omega|simp only[nZ]<;>omega|fail)only[go_sem]⟩
   have i9:Zx H2 (h1.next+1+1+1+1+1+1+1+1+1) 1:=⟨[0],rfl,by rw[←eH2];show _=some (Blk.bk [.ii 0]);simp(disch:=first|omega|simp only[nZ]<;>omega|fail)only[go_sem]⟩
   have i10:Zx H2 (h1.next+1+1+1+1+1+1+1+1+1+1) 1:=⟨[1],rfl,by rw[←eH2];show _=some (Blk.bk [.ii 1]);simp(disch:=first|omega|simp only[nZ]<;>omega|fail)only[go_sem]⟩
   have i11:Zx H2 (h1.next+1+1+1+1+1+1+1+1+1+1+1) 1:=⟨[0],rfl,by rw[←eH2];show _=some (Blk.bk [.ii 0]);simp(disch:=first|omega|simp only[nZ]<;>omega|fail)only[go_sem]⟩
   have ia:Zx H2 a 8:=(show Zx h1 a 8 from⟨[2,1,0,6,0,1,3,6],rfl,ga⟩).mono sH
   have ib:Zx H2 b 6:=(show Zx h1 b 6 from⟨[1,1,1,2,0,1],rfl,gb⟩).mono sH
   have ic:Zx H2 c 18:=(show Zx h1 c 18 from⟨[5,5,5,6,6,5,8,5,5,5,5,7,6,7,5,5,5,6],rfl,gc⟩).mono sH
   have lH:h1.next+1+1+1+1+1+1+1+1+1+1+1<H2.next:=by rw[←eH2];simp only[H.next_set,H.next_add];omega
   rw[eH2]
   have e1:ZS 4 (.sl a 0 2 (.fix 2)) (.ii 0)=some (.ptr a 0):=rfl
   have e2:ZS 4 (.sl a 0 2 (.fix 2)) (.ii 1)=some (.ptr a 4):=rfl
   have e3:ZS 3 (.sl b 0 2 (.fix 2)) (.ii 0)=some (.ptr b 0):=rfl
   have e4:ZS 3 (.sl b 0 2 (.fix 2)) (.ii 1)=some (.ptr b 3):=rfl
   have e5:ZS 3 (.sl c 0 6 (.fix 6)) (.ii 0)=some (.ptr c 0):=rfl
   have e6:ZS 3 (.sl c 0 6 (.fix 6)) (.ii 5)=some (.ptr c 15):=rfl
   have e7:ZS 1 (.sl (h1.next+1+1+1+1) 0 2 (.fix 2)) (.ii 1)=some (.ptr (h1.next+1+1+1+1) 1):=rfl
   have e8:ZS 1 (.sl (h1.next+1+1+1+1+1+1+1+1) 0 3 (.fix 3)) (.ii 2)=some (.ptr (h1.next+1+1+1+1+1+1+1+1) 2):=rfl
   have e9:ZS 1 (.sl (h1.next+1+1+1+1+1+1+1) 0 2 (.fix 2)) (.ii 1)=some (.ptr (h1.next+1+1+1+1+1+1+1) 1):=rfl
   have j0:∀bb o,W8 3 1 (.ptr bb o) (.ii 0)=some (.ptr bb (o+0*1)):=fun _ _=>rfl
   have j1:∀bb o,W8 3 1 (.ptr bb o) (.ii 1)=some (.ptr bb (o+1*1)):=fun _ _=>rfl
   have j2:∀bb o,W8 3 1 (.ptr bb o) (.ii 2)=some (.ptr bb (o+2*1)):=fun _ _=>rfl
   simp(disch:=first|omega|simp only[nZ]<;>omega|fail)only[go_sem,t2,t46,t47,t48,t55,t56,t57,Zb g0,Zb g8,j0,j1,j2,Nat.reduceAdd,Nat.reduceMul,Nat.zero_mul,Nat.add_zero,e1,e2,e3,e4,e5,e6,e7,e8,e9]
   have sP:=(H.Sub.refl sH.wf).add (.bk [.ptr a 0,.ptr a 6,.ptr a 3,.ptr b 1,.ptr b 3,.ptr c 0,.ptr c 17,.ptr (h1.next+1) 0,.ptr (h1.next+1) 1,.ptr (h1.next+1+1) 0,.ptr (h1.next+1+1+1) 2,.ptr (h1.next+1+1+1+1+1+1+1+1+1) 0,.ptr (h1.next+1+1+1+1+1+1+1+1+1+1) 0,.ptr (h1.next+1+1+1+1+1+1+1+1+1+1+1) 0,.ptr (h1.next+1+1+1+1) 1,.ptr (h1.next+1+1+1+1+1+1+1) 1])
   have gP:(H2.add (.bk [.ptr a 0,.ptr a 6,.ptr a 3,.ptr b 1,.ptr b 3,.ptr c 0,.ptr c 17,.ptr (h1.next+1) 0,.ptr (h1.next+1) 1,.ptr (h1.next+1+1) 0,.ptr (h1.next+1+1+1) 2,.ptr (h1.next+1+1+1+1+1+1+1+1+1) 0,.ptr (h1.next+1+1+1+1+1+1+1+1+1+1) 0,.ptr (h1.next+1+1+1+1+1+1+1+1+1+1+1) 0,.ptr (h1.next+1+1+1+1) 1,.ptr (h1.next+1+1+1+1+1+1+1) 1])).get H2.next=some (.bk [.ptr a 0,.ptr a 6,.ptr a 3,.ptr b 1,.ptr b 3,.ptr c 0,.ptr c 17,.ptr (h1.next+1) 0,.ptr (h1.next+1) 1,.ptr (h1.next+1+1) 0,.ptr (h1.next+1+1+1) 2,.ptr (h1.next+1+1+1+1+1+1+1+1+1) 0,.ptr (h1.next+1+1+1+1+1+1+1+1+1+1) 0,.ptr (h1.next+1+1+1+1+1+1+1+1+1+1+1) 0,.ptr (h1.next+1+1+1+1) 1,.ptr (h1.next+1+1+1+1+1+1+1) 1]):=Zn rfl
   have l0z:=s1.next
   have hptr:∀k,k<16→∃bb o m,nth k [.ptr a 0,.ptr a 6,.ptr a 3,.ptr b 1,.ptr b 3,.ptr c 0,.ptr c 17,.ptr (h1.next+1) 0,.ptr (h1.next+1) 1,.ptr (h1.next+1+1) 0,.ptr (h1.next+1+1+1) 2,.ptr (h1.next+1+1+1+1+1+1+1+1+1) 0,.ptr (h1.next+1+1+1+1+1+1+1+1+1+1) 0,.ptr (h1.next+1+1+1+1+1+1+1+1+1+1+1) 0,.ptr (h1.next+1+1+1+1) 1,.ptr (h1.next+1+1+1+1+1+1+1) 1]=some (.ptr bb o)∧o<m∧Zx H2 bb m∧hz.next≤bb:=fun k hk=>by
    have hc:k=0∨k=1∨k=2∨k=3∨k=4∨k=5∨k=6∨k=7∨k=8∨k=9∨k=10∨k=11∨k=12∨k=13∨k=14∨k=15:=by omega
    rcases hc with rfl|rfl|rfl|rfl|rfl|rfl|rfl|rfl|rfl|rfl|rfl|rfl|rfl|rfl|rfl|rfl
    ·exact⟨_,_,_,rfl,by decide,ia,by omega⟩
    ·exact⟨_,_,_,rfl,by decide,ia,by omega⟩
    ·exact⟨_,_,_,rfl,by decide,ia,by omega⟩
    ·exact⟨_,_,_,rfl,by decide,ib,by omega⟩
    ·exact⟨_,_,_,rfl,by decide,ib,by omega⟩
    ·exact⟨_,_,_,rfl,by decide,ic,by omega⟩
    ·exact⟨_,_,_,rfl,by decide,ic,by omega⟩
    ·exact⟨_,_,_,rfl,by decide,i1,by omega⟩
    ·exact⟨_,_,_,rfl,by decide,i1,by omega⟩
    ·exact⟨_,_,_,rfl,by decide,i2,by omega⟩
    ·exact⟨_,_,_,rfl,by decide,i3,by omega⟩
    ·exact⟨_,_,_,rfl,by decide,i9,by omega⟩
    ·exact⟨_,_,_,rfl,by decide,i10,by omega⟩
    ·exact⟨_,_,_,rfl,by decide,i11,by omega⟩
    ·exact⟨_,_,_,rfl,by decide,i4,by omega⟩
    ·exact⟨_,_,_,rfl,by decide,i7,by omega⟩
   have l1z:=s1.next
   obtain⟨bb,o,m,hn1,hom,hI,hbz⟩:=hptr i hi
   generalize hPT:([.ptr a 0,.ptr a 6,.ptr a 3,.ptr b 1,.ptr b 3,.ptr c 0,.ptr c 17,.ptr (h1.next+1) 0,.ptr (h1.next+1) 1,.ptr (h1.next+1+1) 0,.ptr (h1.next+1+1+1) 2,.ptr (h1.next+1+1+1+1+1+1+1+1+1) 0,.ptr (h1.next+1+1+1+1+1+1+1+1+1+1) 0,.ptr (h1.next+1+1+1+1+1+1+1+1+1+1+1) 0,.ptr (h1.next+1+1+1+1) 1,.ptr (h1.next+1+1+1+1+1+1+1) 1]:List V)=PT at sP gP hn1⊢
   generalize H2.add (.bk PT)=H3 at sP gP⊢
   obtain⟨cs,hcl,hcg⟩:=hI.mono sP
   have g03:=sP.get g0
   have g83:=sP.get g8
   have hI3:=hI.mono sP
   have nb0:h1.next≠bb:=hI3.ne g03 (by intro v hv n e;simp at hv;subst hv;cases e) ygc
   have nb8:(h1.next+1+1+1+1+1+1+1+1)≠bb:=hI3.ne g83 (by intro v hv n e;simp at hv;subst hv;cases e) ygc
   have nbP:H2.next≠bb:=hI3.ne gP (by intro v hv n e;rw[←hPT] at hv;simp at hv;subst hv;cases e) ygc
   have hput:=ints_put cs o n ygc
   have hds:(cs.set o n).length=m:=by rw[List.length_set];exact hcl
   have s23:=sz.trans (s1.trans (sH.trans sP))
   have bge:hB.next≤bb:=by
    have:=sz.next
    omega
   simp(disch:=first|omega|simp only[nZ]<;>omega|fail)only[go_sem,t2,t46,t47,t48,t55,t56,t57,ZZ (Ze i) hi,Nat.mul_one,Zb gP,hn1,hcg,hput,Zb g03,Zb g83]
   have K4:∀{b k:Nat},Zx H2 b k→Zx (H3.set bb (.bk ((cs.set o n).map iv))) b k:=fun a=>(a.mono sP).set hcg hcl hds
   have k1:=K4 i1
   have k2:=K4 i2
   have k3:=K4 i3
   have k4:=K4 i4
   have k5:=K4 i5
   have k6:=K4 i6
   have k7:=K4 i7
   have k9:=K4 i9
   have k10:=K4 i10
   have k11:=K4 i11
   have ka:=K4 ia
   have kb:=K4 ib
   have kc:=K4 ic
   have g04:(H3.set bb (.bk ((cs.set o n).map iv))).get h1.next=some (.bk [.sl a 0 2 (.fix 2),.sl b 0 2 (.fix 2),.sl c 0 6 (.fix 6)]):=by rw[get_set_other nb0];exact g03
   have g84:(H3.set bb (.bk ((cs.set o n).map iv))).get (h1.next+1+1+1+1+1+1+1+1)=some (.bk [.sl (h1.next+1+1+1+1+1) 0 3 (.fix 3),.sl (h1.next+1+1+1+1+1+1) 0 1 (.fix 1),.sl (h1.next+1+1+1+1+1+1+1) 0 2 (.fix 2)]):=by rw[get_set_other nb8];exact g83
   have s4:=s23.set (b:=bb) bge (s23.wf _ _ hcg) sB.wf (.bk ((cs.set o n).map iv))
   generalize H3.set bb (.bk ((cs.set o n).map iv))=H4 at k1 k2 k3 k4 k5 k6 k7 k9 k10 k11 ka kb kc g04 g84 s4⊢
   clear K4
   obtain⟨u1,v1,p1⟩:=k1.two
   obtain⟨u2,v2,w2,p2⟩:=k2.three
   obtain⟨u3,v3,w3,p3⟩:=k3.three
   obtain⟨u9,p9⟩:=k9.one
   obtain⟨u10,p10⟩:=k10.one
   obtain⟨u11,p11⟩:=k11.one
   obtain⟨l4,a4⟩:=k4.slI ygc
   obtain⟨l5,a5⟩:=k5.slI ygc
   obtain⟨l6,a6⟩:=k6.slI ygc
   obtain⟨l7,a7⟩:=k7.slI ygc
   obtain⟨ca,ca1,ca2⟩:=ka
   obtain⟨cb,cb1,cb2⟩:=kb
   obtain⟨cc,cc1,cc2⟩:=kc
   obtain⟨es,es1,es2⟩:=iv_ey 2 ca ca1
   obtain⟨ls,ls1,ls2⟩:=iv_sd 2 cb cb1
   obtain⟨ps,ps1,ps2⟩:=iv_sd 6 cc cc1
   rw[es2] at ca2;rw[ls2] at cb2;rw[ps2] at cc2
   have tb:ZK H4 (.agg [.sl a 0 2 (.fix 2),.sl b 0 2 (.fix 2),.sl c 0 6 (.fix 6)]) ⟨es,ls,ps⟩:=⟨_,_,_,rfl,Zg.full (by rw[List.length_map,es1]) ca2 ygB (by rw[List.length_map];show es.length≤_;omega),Zg.full (by rw[List.length_map,ls1]) cb2 ygp (by rw[List.length_map];show ls.length≤_;omega),Zg.full (by rw[List.length_map,ps1]) cc2 ygp (by rw[List.length_map];show ps.length≤_;omega)⟩
   have rd:RdI H4 (.sl (h1.next+1+1+1+1+1+1+1+1) 0 3 (.fix 3)) [l5,l6,l7]:=⟨[.sl (h1.next+1+1+1+1+1) 0 3 (.fix 3),.sl (h1.next+1+1+1+1+1+1) 0 1 (.fix 1),.sl (h1.next+1+1+1+1+1+1+1) 0 2 (.fix 2)],Zg.full rfl g84 ygb ygb,rfl,fun i hi hj=>by
    match i,hi with
    |0,_=>exact .inl a5
    |1,_=>exact .inl a6
    |2,_=>exact .inl a7⟩
   simp(disch:=first|omega|simp only[nZ]<;>omega|fail)only[go_sem,t2,t46,t47,t48,t55,t56,t57,Zb g04,Zb p1,Zb p2,Zb p3,Zb p9,Zb p10,Zb p11]
   refine asked_ev (l1:=u1) (l2:=v1) (a:=⟨u2,v2,w2⟩) (b:=⟨u3,v3,w3⟩) s4.wf tb a4 rd _ fun h5 s5=>?_
   have jj:wr .i64 ((j:Int)+1)=((j+1:Nat):Int):=Zc ygc
   simp(disch:=first|omega|simp only[nZ]<;>omega|fail)only[go_sem,Bool.not_true,t2,t46,t47,t48,t55,t56,t57,jj]
   exact⟨_,_,rfl,s4.trans s5,ygi,(by simp[t46]),(by simp[t47]),(by simp[t48]),(by simp[t55]),(by simp[t56]),ygb⟩
  ·rintro s ⟨tm,hz,rfl,sz,t2,t46,t47,t48,t55,t56,t57⟩
   simp(disch:=first|omega|simp only[nZ]<;>omega|fail)only[go_sem,t56,t57,Int.lt_irrefl]
   exact⟨_,_,rfl,s0B.trans sz,(by simp[t46]),(by simp[t47]),(by simp[t48])⟩
  obtain⟨rfl,tm,hz,rfl,sz,t46,t47,t48⟩:=hx1
  have ii:wr .i64 ((i:Int)+1)=((i+1:Nat):Int):=Zc ygc
  simp(disch:=first|omega|simp only[nZ]<;>omega|fail)only[go_sem,t46,t47,t48,ii]
  exact⟨_,_,rfl,sz,(by simp[t46]),(by simp[t47]),ygb⟩
 ·rintro s ⟨tm,hz,rfl,sz,t46,t47,t48⟩
  simp(disch:=first|omega|simp only[nZ]<;>omega|fail)only[go_sem,t46,t47,t48,Int.lt_irrefl]
  exact⟨_,_,rfl,sz⟩
 obtain⟨rfl,tm,hz,rfl,sz⟩:=hx1
 simp(disch:=first|omega|simp only[nZ]<;>omega|fail)only[go_sem]
 exact⟨_,_,rfl,sz⟩
end Go.Ab.Tryz
namespace Go.Ab
theorem fl1 (l:List V):(l.map fun v=>[v]).flatten=l:=by induction l with|nil=>rfl|cons a l ih=>simp[ih]
theorem one_len (l:List V):∀r∈l.map fun v=>[v],r.length=1:=fun r hr=>by obtain⟨_,_,rfl⟩:=List.mem_map.1 hr;rfl
theorem cut_many {F:Nat→Prop}{h:H}{x u0 u1:V}{us:List V}(hw:h.wf)(a:Yo F h x 1 ((u0::u1::us).map fun v=>[v]))(hl:us.length≤1000)(ho:ZF us=true):
  ∃y z,W6 h 1 x (.ii ((1:Nat):Int))=some y∧XU h 1 x (.ii ((2:Nat):Int))=some z∧
   ∀Q:V→H→Prop,(∀x' h',Zi (Zk x) h h'→h'.wf→Yo F h' x' 1 ((u0::us).map fun v=>[v])→Q x' h')→P2 (Z8 h 1 24 y z) Q:=by
 have hi:∀(tm:T V) (n:Nat),(Opd.c (.ii (n:Int))).ev tm=.ii (n:Int):=fun _ _=>rfl
 obtain⟨a1,a2⟩:=a
 simp only[List.length_map,List.length_cons] at a2
 rw[fl1] at a2
 have put1:∀(v:V) (vs rest:List V),Z0 1 (v::vs) (u0::u1::v::vs++rest)=some (u0::v::vs++(u1::v::vs++rest).drop (vs.length+1)):=fun v vs rest=>by
  refine(putN_eq ygb).2 ⟨?_,by simp only[List.length_append,List.length_cons];omega⟩
  have:1+(v::vs).length=(vs.length+1)+1:=by simp only[List.length_cons];omega
  rw[this];rfl
 rcases a2 with⟨_,e⟩|⟨b,rest,j,rfl,l1,l2,hb,hrest⟩|⟨b,c,rest,rfl,l1,l2,hb,hc,hlc⟩
 ·simp at e
 ·have hlen:(u0::u1::us++rest).length=us.length+1+1+j:=by simp only[List.length_append,List.length_cons,hrest];omega
  have e8:Yj h b 0 1=us.length+1+1+j:=by simp only[Yj,hb,ZE,hlen,Nat.sub_zero,Nat.div_one]
  have ok:W5 h b 0 0 (us.length+1+1) 1=true:=by
   simp only[W5,hb,ZE,hlen]
   have:Nat.ble (0+(us.length+1+1)*1) (us.length+1+1+j)=true:=by rw[Nat.ble_eq];omega
   rw[this]
  have b1:Nat.ble 0 1=true:=rfl
  have b2:Nat.ble 1 (us.length+1+1+j)=true:=by rw[Nat.ble_eq];omega
  have b3:Nat.ble (us.length+1+1+j) (us.length+1+1+j)=true:=by simp
  have b4:Nat.ble 2 (us.length+1+1)=true:=by rw[Nat.ble_eq];omega
  have b5:Nat.ble (us.length+1+1) (us.length+1+1+j)=true:=by rw[Nat.ble_eq];omega
  have b6:Nat.blt 0 (us.length+1+1+1)=true:=by rw[Nat.blt_eq];omega
  have b7:Nat.blt 0 (us.length+1+1+(us.length+1+1))=true:=by rw[Nat.blt_eq];omega
  refine⟨.sl b (0+0*1) 1 (.slk (0+0) 0),.sl b (0+2*1) (us.length+1+1-2) (.slk (0+2) 0),?_,?_,fun Q q=>?_⟩
  ·simp only[W6,YD,ok,Zy,XI,XA,hi,Xc,bnds,e8,b1,b2,b3,subS,b6,Nat.sub_zero]
  ·simp only[XU,YD,ok,Zy,XI,XA,hi,Xc,bnds,e8,b3,b4,b5,subS,b7]
  ·have en:us.length+1+1-2=us.length:=by omega
   rw[en]
   cases us with
   |nil=>
    have ok1:W5 h b (0+0) (0+0*1) 1 1=true:=by
     simp only[W5,hb,ZE,hlen]
     have:Nat.ble (0+0*1+1*1) (([]:List V).length+1+1+j)=true:=by rw[Nat.ble_eq];omega
     simp only[this]
    rw[Yy,List.length_nil,elems_0,lenV_sl]
    simp only[YI,XF,ok1,Zy]
    exact q _ _ (Zi.refl _ _) hw ⟨one_len _,.inr (.inl ⟨b,u1::rest,j+1,rfl,l1,l2,by rw[hb];rfl,by simp[hrest]⟩)⟩
   |cons v vs=>
    have hel:elems h 1 (.sl b (0+2*1) (vs.length+1) (.slk (0+2) 0))=some (v::vs):=by
     rw[elems_s,Zb hb,elC_some]
     refine Z2.2 ⟨?_,by simp only[List.length_append,List.length_cons];omega⟩
     have:(v::vs++rest).take (vs.length+1)=v::vs:=by
      have:=List.take_left' (l₁:=v::vs) (l₂:=rest) (i:=vs.length+1) rfl
      exact this
     rw[Nat.mul_one];exact this.symm
    have b9:Nat.ble (0+(1+(vs.length+1))*1) (u0::u1::v::vs++rest).length=true:=by rw[Nat.ble_eq];simp only[List.length_append,List.length_cons];omega
    have t1:Nat.beq 1 1=true:=rfl
    have t0:Nat.beq 0 (0*1)=true:=rfl
    rw[Yy,List.length_cons,hel,lenV_sl]
    simp only[YI,XF,appSlk,Nat.zero_mul,Nat.add_zero,hb,t1,t0,Zy,ZE,b9]
    rw[H.put_gr ho hb (by simpa using put1 v vs rest),Z6,ZN]
    refine q _ _ ((Zi.set h b _).mono fun c e=>by subst e;exact⟨_,_,_,rfl⟩) (H.wf_set hw _ hb) ⟨one_len _,.inr (.inl ⟨b,(u1::v::vs++rest).drop (vs.length+1),j+1,?_,l1,by rw[H.next_set];exact l2,by rw[get_set_same rfl,fl1];rfl,by rw[List.length_drop];simp only[List.length_append,List.length_cons,hrest];omega⟩)⟩
    simp only[List.length_map,List.length_cons];congr 1;omega
 ·have b1:Nat.ble 0 1=true:=rfl
  have b2:Nat.ble 1 c=true:=by rw[Nat.ble_eq];omega
  have b3:Nat.ble c c=true:=by simp
  have b4:Nat.ble 2 (us.length+1+1)=true:=by rw[Nat.ble_eq];omega
  have b5:Nat.ble (us.length+1+1) c=true:=by rw[Nat.ble_eq];omega
  have z0:∀t:Bool,YU t 0 (0+0*1)=0:=fun t=>by cases t<;>rfl
  refine⟨.sl b 0 1 (.fix c),.sl b (YU (Nat.beq c 2) 0 (0+2*1)) (us.length+1+1-2) (.fix (c-2)),?_,?_,fun Q q=>?_⟩
  ·simp only[W6,YD,Zy,XI,XA,hi,Xc,bnds,b1,b2,b3,subO,sub,Nat.sub_zero,z0]
  ·simp only[XU,YD,Zy,XI,XA,hi,Xc,bnds,b3,b4,b5,subO,sub]
  ·have en:us.length+1+1-2=us.length:=by omega
   rw[en]
   cases us with
   |nil=>
    rw[Yy,List.length_nil,elems_0,lenV_sl]
    simp only[YI]
    rw[WP,b2,Zy,ZN]
    exact q _ _ (Zi.refl _ _) hw ⟨one_len _,.inr (.inr ⟨b,c,u1::rest,rfl,l1,l2,by rw[hb];rfl,by simp only[List.length_map,List.length_cons,List.length_nil] at hc⊢;omega,by simp only[List.length_map,List.length_cons,List.length_nil];omega⟩)⟩
   |cons v vs=>
    simp only[List.length_cons] at hlc hc
    have hc2:Nat.beq c 2=false:=by
     cases hb:Nat.beq c 2 with
     |false=>rfl
     |true=>have:=Nat.eq_of_beq_eq_true hb;omega
    have hel:elems h 1 (.sl b (YU (Nat.beq c 2) 0 (0+2*1)) (vs.length+1) (.fix (c-2)))=some (v::vs):=by
     rw[elems_s,Zb hb,elC_some,hc2]
     refine Z2.2 ⟨?_,by simp only[List.length_append,List.length_cons,YU];omega⟩
     have:(v::vs++rest).take (vs.length+1)=v::vs:=List.take_left' (l₁:=v::vs) (l₂:=rest) (i:=vs.length+1) rfl
     rw[Nat.mul_one];exact this.symm
    rw[Yy,List.length_cons,hel,lenV_sl]
    simp only[YI]
    rw[e_app_fix ygc,H.put_rw ho hb (by simpa using put1 v vs rest),Z6,ZN]
    refine q _ _ ((Zi.set h b _).mono fun c e=>by subst e;exact⟨_,_,_,rfl⟩) (H.wf_set hw _ hb) ⟨one_len _,.inr (.inr ⟨b,c,(u1::v::vs++rest).drop (vs.length+1),?_,l1,by rw[H.next_set];exact l2,by rw[get_set_same rfl,fl1];rfl,?_,by simp only[List.length_map,List.length_cons];omega⟩)⟩
    ·simp only[List.length_map,List.length_cons];congr 1;omega
    ·rw[List.length_drop];simp only[List.length_append,List.length_cons,List.length_map];omega
namespace Tryz
theorem app_own {F:Nat→Prop}{h:H}{a n:Nat}{y:V}{rows l:List Int}{Q:V→H→Prop}(hw:h.wf)(hg:h.get a=some (.bk (rows.map encI).flatten))(hn:n=rows.length)(hy:Zg h y 1 (l.map encI))(hl:rows.length+l.length≤1000)(Fa:F a)(Fn:F h.next)
  (q:∀x' h',h.Sub h'→Yo F h' x' 1 ((rows++l).map encI)→(∀b,Zk x' b→b=a∨h.next≤b)→Q x' h'):P2 (Z8 h 1 8 (.sl a 0 n (.fix n)) y) Q:=by
 subst hn
 have hs:Zg h (.sl a 0 rows.length (.fix rows.length)) 1 (rows.map encI):=Zg.full ygz hg (by simp[encI]) ygk
 have he:=hy.elems
 rw[Yy,he.1,he.2,List.length_map]
 simp only[YI]
 have h1:∀l:List Int,∀r∈l.map encI,r.length=1:=fun l r hr=>by obtain⟨_,_,rfl⟩:=List.mem_map.1 hr;rfl
 cases l with
 |nil=>
  simp only[List.length_nil,List.map_nil,List.flatten_nil]
  rw[WP,show Nat.ble rows.length rows.length=true by simp]
  rw[Zy,ZN]
  refine q _ _ (H.Sub.refl hw) ⟨h1 _,.inr (.inr ⟨a,rows.length,[],by rw[List.append_nil,List.length_map],Fa,hw _ _ hg,by rw[List.append_nil,List.append_nil];exact hg,by rw[List.append_nil,List.length_map];simp,by rw[List.append_nil,List.length_map];exact Nat.le_refl _⟩)⟩ fun b ⟨_,_,_,e⟩=>by cases e;exact .inl rfl
 |cons b l=>
  simp only[List.length_cons] at hl⊢
  rw[Xl ygc hs.elems.1 ygc ygc,XD,ZN]
  refine q _ _ ((H.Sub.refl hw).add (.cells (.gr 1) ((rows.map encI).flatten++((b::l).map encI).flatten))) ⟨h1 _,.inr (.inl ⟨h.next,[],0,by simp only[List.length_map,List.length_append,List.length_cons],Fn,by rw[H.next_add];omega,by rw[Zn rfl,List.map_append,List.flatten_append,List.append_nil],by simp⟩)⟩ fun b ⟨_,_,_,e⟩=>by cases e;exact .inr (Nat.le_refl _)
structure TqAt (h0 h:H)(b:Nat)(X Y Z:V)(es:List Ey)(ls ps:List Sd):Prop where
 s:h0.Sub h
 g:h.get b=some (.bk [X,Y,Z])
 ox:ZG h0 h X 4 (es.map Yx)
 oy:ZG h0 h Y 3 (ls.map Zj)
 oz:ZG h0 h Z 3 (ps.map Zj)
 nx:∀c,Zk X c→c≠b
 ny:∀c,Zk Y c→c≠b
 nz:∀c,Zk Z c→c≠b
 xy:∀c,Zk X c→¬Zk Y c
 xz:∀c,Zk X c→¬Zk Z c
 yz:∀c,Zk Y c→¬Zk Z c
section
variable {h0 h:H} {b:Nat} {X Y Z:V} {es:List Ey} {ls ps:List Sd}
theorem TqAt.tb (a:TqAt h0 h b X Y Z es ls ps)(h1:es.length≤1000)(h2:ls.length≤1000)(h3:ps.length≤1000):ZK h (.agg [X,Y,Z]) ⟨es,ls,ps⟩:=
 ⟨_,_,_,rfl,a.ox.sl yge,a.oy.sl yge,a.oz.sl yge⟩
theorem TqAt.appX (a:TqAt h0 h b X Y Z es ls ps)(hw0:h0.wf)(hb:h0.next≤b)(hl:es.length≤1000){A B C D:Int}{Q:V→H→Prop}
  (q:∀X' h',X'.one=true→h'.get b=some (.bk [X,Y,Z])→TqAt h0 (h'.set b (.bk [X',Y,Z])) b X' Y Z (es++[⟨⟨A,B,C⟩,D⟩]) ls ps→Q X' h'):
  P2 (Z8 (h.add (.bk [.ii A,.ii B,.ii C,.ii D])) 4 32 X (.sl h.next 0 1 (.fix 1))) Q:=by
 have sA:=(H.Sub.refl a.s.wf).add (.bk [.ii A,.ii B,.ii C,.ii D])
 have own:Zg (h.add (.bk [.ii A,.ii B,.ii C,.ii D])) (.sl h.next 0 1 (.fix 1)) 4 [Yx ⟨⟨A,B,C⟩,D⟩]:=Zg.new _ rfl rfl ygB ygB ygb
 refine(a.ox.mono sA).app1 (by_:=32) (r:=Yx ⟨⟨A,B,C⟩,D⟩) hw0 rfl ygc own rfl yge yge fun X' h' o nX k=>?_
 have lb:=a.s.wf _ _ a.g
 have ln:=sA.next
 have lk:=k.1
 have kb:=Zi.set h' b (.bk [X',Y,Z])
 have s2:=o.1.set (b:=b) hb ygc hw0 (.bk [X',Y,Z])
 have oy:=(a.oy.mono sA).keep k o.1 fun c hc hx=>a.xy c hx hc
 have oz:=(a.oz.mono sA).keep k o.1 fun c hc hx=>a.xz c hx hc
 have nX':∀c,Zk X' c→c≠b:=fun c hc=>(nX c hc).elim (a.nx c) fun h=>by omega
 refine q X' h' o.one (k.2 _ _ (sA.get a.g) fun hc=>a.nx _ hc rfl) ?_
 rw[←List.map_singleton (f:=Yx),←List.map_append] at o
 exact⟨s2,get_set_same rfl,o.keep kb s2 fun c hc=>nX' c hc,oy.keep kb s2 fun c hc=>a.ny c hc,oz.keep kb s2 fun c hc=>a.nz c hc,nX',a.ny,a.nz,
  fun c hc hy=>(nX c hc).elim (fun h=>a.xy c h hy) fun h=>by have:=(a.oy.blk hy).2.1;omega,fun c hc hz=>(nX c hc).elim (fun h=>a.xz c h hz) fun h=>by have:=(a.oz.blk hz).2.1;omega,a.yz⟩
theorem TqAt.appY (a:TqAt h0 h b X Y Z es ls ps)(hw0:h0.wf)(hb:h0.next≤b)(hl:ls.length≤1000){A B C:Int}{Q:V→H→Prop}
  (q:∀X' h',X'.one=true→h'.get b=some (.bk [X,Y,Z])→TqAt h0 (h'.set b (.bk [X,X',Z])) b X X' Z es (ls++[⟨A,B,C⟩]) ps→Q X' h'):
  P2 (Z8 (h.add (.bk [.ii A,.ii B,.ii C])) 3 24 Y (.sl h.next 0 1 (.fix 1))) Q:=by
 have sA:=(H.Sub.refl a.s.wf).add (.bk [.ii A,.ii B,.ii C])
 have own:Zg (h.add (.bk [.ii A,.ii B,.ii C])) (.sl h.next 0 1 (.fix 1)) 3 [Zj ⟨A,B,C⟩]:=Zg.new _ rfl rfl ygp ygp ygb
 refine(a.oy.mono sA).app1 (by_:=24) (r:=Zj ⟨A,B,C⟩) hw0 rfl ygc own rfl yge yge fun X' h' o nX k=>?_
 have lb:=a.s.wf _ _ a.g
 have ln:=sA.next
 have lk:=k.1
 have kb:=Zi.set h' b (.bk [X,X',Z])
 have s2:=o.1.set (b:=b) hb ygc hw0 (.bk [X,X',Z])
 have ox:=(a.ox.mono sA).keep k o.1 fun c hc hy=>a.xy c hc hy
 have oz:=(a.oz.mono sA).keep k o.1 fun c hc hy=>a.yz c hy hc
 have nX':∀c,Zk X' c→c≠b:=fun c hc=>(nX c hc).elim (a.ny c) fun h=>by omega
 refine q X' h' o.one (k.2 _ _ (sA.get a.g) fun hc=>a.ny _ hc rfl) ?_
 rw[←List.map_singleton (f:=Zj),←List.map_append] at o
 exact⟨s2,get_set_same rfl,ox.keep kb s2 fun c hc=>a.nx c hc,o.keep kb s2 fun c hc=>nX' c hc,oz.keep kb s2 fun c hc=>a.nz c hc,a.nx,nX',a.nz,
  fun c hc hy=>(nX c hy).elim (fun h=>a.xy c hc h) fun h=>by have:=(a.ox.blk hc).2.1;omega,a.xz,fun c hc hz=>(nX c hc).elim (fun h=>a.yz c h hz) fun h=>by have:=(a.oz.blk hz).2.1;omega⟩
theorem TqAt.appZ (a:TqAt h0 h b X Y Z es ls ps)(hw0:h0.wf)(hb:h0.next≤b)(hl:ps.length≤1000){A B C:Int}{Q:V→H→Prop}
  (q:∀X' h',X'.one=true→h'.get b=some (.bk [X,Y,Z])→TqAt h0 (h'.set b (.bk [X,Y,X'])) b X Y X' es ls (ps++[⟨A,B,C⟩])→Q X' h'):
  P2 (Z8 (h.add (.bk [.ii A,.ii B,.ii C])) 3 24 Z (.sl h.next 0 1 (.fix 1))) Q:=by
 have sA:=(H.Sub.refl a.s.wf).add (.bk [.ii A,.ii B,.ii C])
 have own:Zg (h.add (.bk [.ii A,.ii B,.ii C])) (.sl h.next 0 1 (.fix 1)) 3 [Zj ⟨A,B,C⟩]:=Zg.new _ rfl rfl ygp ygp ygb
 refine(a.oz.mono sA).app1 (by_:=24) (r:=Zj ⟨A,B,C⟩) hw0 rfl ygc own rfl yge yge fun X' h' o nX k=>?_
 have lb:=a.s.wf _ _ a.g
 have ln:=sA.next
 have lk:=k.1
 have kb:=Zi.set h' b (.bk [X,Y,X'])
 have s2:=o.1.set (b:=b) hb ygc hw0 (.bk [X,Y,X'])
 have ox:=(a.ox.mono sA).keep k o.1 fun c hc hz=>a.xz c hc hz
 have oy:=(a.oy.mono sA).keep k o.1 fun c hc hz=>a.yz c hc hz
 have nX':∀c,Zk X' c→c≠b:=fun c hc=>(nX c hc).elim (a.nz c) fun h=>by omega
 refine q X' h' o.one (k.2 _ _ (sA.get a.g) fun hc=>a.nz _ hc rfl) ?_
 rw[←List.map_singleton (f:=Zj),←List.map_append] at o
 exact⟨s2,get_set_same rfl,ox.keep kb s2 fun c hc=>a.nx c hc,oy.keep kb s2 fun c hc=>a.ny c hc,o.keep kb s2 fun c hc=>nX' c hc,a.nx,a.ny,nX',
  a.xy,fun c hc hz=>(nX c hz).elim (fun h=>a.xz c hc h) fun h=>by have:=(a.ox.blk hc).2.1;omega,fun c hc hz=>(nX c hz).elim (fun h=>a.yz c hc h) fun h=>by have:=(a.oy.blk hc).2.1;omega⟩
end
end Tryz
end Go.Ab
namespace Go.Ab.Tryz
theorem flat_ge:∀{S:List (List Int)},(∀l∈S,l≠[])→S.length≤S.flatten.length
 |[],_=>Nat.le_refl _
 |l::S,h=>by
  have h1:=flat_ge (S:=S) fun l hl=>h l (List.mem_cons_of_mem _ hl)
  have h2:=List.length_pos_iff.2 (h l List.mem_cons_self)
  simp only[List.length_cons,List.flatten_cons,List.length_append];omega
theorem len_flat:∀{S:List (List Int)} {l:List Int},l∈S→l.length≤S.flatten.length
 |a::S,l,h=>by
  simp only[List.flatten_cons,List.length_append]
  rcases List.mem_cons.1 h with rfl|h
  ·omega
  ·have:=len_flat h;omega
theorem rem_nat (n k:Nat):(n:Int).tmod (k:Int)=((n%k:Nat):Int):=rfl
theorem quo_nat (n k:Nat):(n:Int).tdiv (k:Int)=((n/k:Nat):Int):=rfl
set_option maxRecDepth 4000 in
set_option maxHeartbeats 8000000 in
theorem small2_ev {h:H}(hw:h.wf)(tm:Go.Ab.T V):
  W fnG Zm 374 5 none (Xz [true,true,true,false] c5.body) ⟨tm,h,[]⟩ fun x s=>x=.nrm∧∃tm' h',s=⟨tm',h',[]⟩∧h.Sub h':=by
 simp(disch:=first|omega|simp only[nZ]<;>omega|fail)only[Xz,c5,go_sem]
 refine W.mono (Q:=fun x1 s=>x1=.ext 4∧∃tm h',s=⟨tm,h',[]⟩∧h.Sub h')
  (Zh 80 (fun n s=>∃tm h',s=⟨tm,h',[]⟩∧h.Sub h'∧tm.E 129=.ii (n:Int))
  ?_ ?_ (i:=0) (Nat.zero_le _) ⟨_,_,rfl,H.Sub.refl hw,ygb⟩) fun x1 s hx1=>?_
 ·rintro n s hn ⟨tm,h0,rfl,sh,t129⟩
  have hn':(n:Int)<80:=by omega
  have w0:=sh.wf
  have q3:¬(3:Int)=0:=by omega
  have q2:¬(2:Int)=0:=by omega
  have q7:¬(7:Int)=0:=by omega
  have q4:¬(4:Int)=0:=by omega
  have q5:¬(5:Int)=0:=by omega
  have q6:¬(6:Int)=0:=by omega
  have r3:(n:Int).tmod 3=((n%3:Nat):Int):=rem_nat n 3
  have wE:wr .i64 (1+((n%3:Nat):Int))=((1+n%3:Nat):Int):=by rw[ZC ygc ygc];omega
  simp(disch:=first|omega|simp only[nZ]<;>omega|fail)only[go_sem,t129,hn',Zu .i64 q3,r3,wE]
  have sT:h0.Sub (h0.add (.bk [.nils,.nils,.nils])):=yga
  have nilB:∀c,¬Zk (.nils) c:=fun c ⟨_,_,_,e⟩=>by cases e
  have a0:TqAt h0 (h0.add (.bk [.nils,.nils,.nils])) h0.next .nils .nils .nils [] [] []:=⟨sT,Zn rfl,⟨sT,by simp,.inl ⟨rfl,rfl⟩⟩,⟨sT,by simp,.inl ⟨rfl,rfl⟩⟩,⟨sT,by simp,.inl ⟨rfl,rfl⟩⟩,fun c hc=>absurd hc (nilB c),fun c hc=>absurd hc (nilB c),fun c hc=>absurd hc (nilB c),fun c hc=>absurd hc (nilB c),fun c hc=>absurd hc (nilB c),fun c hc=>absurd hc (nilB c)⟩
  generalize hC:1+n%3=C
  have hC9:C≤9:=by omega
  refine W.mono (Q:=fun x1 s=>x1=.ext 6∧∃tm hq X Y Z es ls ps,s=⟨tm,hq,[]⟩∧TqAt h0 hq h0.next X Y Z es ls ps∧es.length≤9∧ls.length≤0∧ps.length≤0∧tm.E 129=.ii (n:Int)∧tm.E 15=.ii (n:Int)∧tm.E 16=.ptr h0.next 0)
   (Zh C (fun i s=>∃tm hq X Y Z es ls ps,s=⟨tm,hq,[]⟩∧TqAt h0 hq h0.next X Y Z es ls ps∧es.length≤i∧ls.length≤0∧ps.length≤0∧tm.E 129=.ii (n:Int)∧tm.E 15=.ii (n:Int)∧tm.E 16=.ptr h0.next 0∧tm.E 134=.ii (C:Int)∧tm.E 135=.ii (i:Int))
   ?_ ?_ (i:=0) (Nat.zero_le _) ⟨_,_,_,_,_,_,_,_,rfl,a0,by simp,by simp,by simp,ygl,ygb,ygb,ygb,ygb⟩) fun x1 s hx1=>?_
  ·clear t129
   rintro i s hi ⟨tm,hq,X,Y,Z,es,ls,ps,rfl,a,b1,b2,b3,t129,t15,t16,tc,ti⟩
   have hi':(i:Int)<(C:Int):=by omega
   have v1:wr .i64 ((i:Int)+1)=((i+1:Nat):Int):=Zc ygc
   have d1:=fun a:Int=>YS .i64 (a:=a) (b:=((i+1:Nat):Int)) ygc
   have cA:∀B,(hq.add B).cells h0.next=some [X,Y,Z]:=fun B=>by rw[XV (a.s.wf _ _ a.g)];exact Zb a.g
   simp(disch:=first|omega|simp only[nZ]<;>omega|fail)only[go_sem,t129,t15,t16,tc,ti,hi',Zb a.g,cA,v1,d1,Zu .i64 q2,Zu .i64 q3,Zu .i64 q4,Zu .i64 q5,YS .i64 q2]
   refine a.appX w0 (Nat.le_refl _) ygc fun X' h5 o5 g5 a5=>?_
   have w1:wr .i64 ((i:Int)+1)=((i+1:Nat):Int):=Zc ygc
   simp(disch:=first|omega|simp only[nZ]<;>omega|fail)only[go_sem,t129,t15,t16,tc,ti,hi',Zb a.g,cA,g5,Zb g5,o5,cells_one o5,w1]
   exact⟨_,_,_,_,_,_,_,_,rfl,a5,ygd,ygd,ygd,ygl,ygo,ygs,(by simp[tc]),ygb⟩
  ·rintro s ⟨tm,hq,X,Y,Z,es,ls,ps,rfl,a,b1,b2,b3,t129,t15,t16,tc,ti⟩
   simp(disch:=first|omega|simp only[nZ]<;>omega|fail)only[go_sem,tc,ti,Int.lt_irrefl]
   exact⟨_,_,_,_,_,_,_,_,rfl,a,by omega,by omega,by omega,ygl,ygo,ygs⟩
  clear hC hC9
  obtain⟨rfl,tm,hq,X,Y,Z,es,ls,ps,rfl,a,b1,b2,b3,t129,t15,t16⟩:=hx1
  have r2:wr .i64 ((n:Int).tdiv 2)=((n/2:Nat):Int):=by rw[show(n:Int).tdiv 2=((n/2:Nat):Int) from quo_nat n 2];exact ZC ygc ygc
  have r2':((n/2:Nat):Int).tmod 2=((n/2%2:Nat):Int):=rem_nat (n/2) 2
  have wL:wr .i64 (1+((n/2%2:Nat):Int))=((1+n/2%2:Nat):Int):=by rw[ZC ygc ygc];omega
  simp(disch:=first|omega|simp only[nZ]<;>omega|fail)only[go_sem,t129,t15,t16,Zu .i64 q2,YS .i64 q2,r2,r2',wL]
  generalize hC:1+n/2%2=C
  have hC9:C≤9:=by omega
  refine W.mono (Q:=fun x1 s=>x1=.ext 8∧∃tm hq X Y Z es ls ps,s=⟨tm,hq,[]⟩∧TqAt h0 hq h0.next X Y Z es ls ps∧es.length≤9∧ls.length≤9∧ps.length≤0∧tm.E 129=.ii (n:Int)∧tm.E 15=.ii (n:Int)∧tm.E 16=.ptr h0.next 0)
   (Zh C (fun i s=>∃tm hq X Y Z es ls ps,s=⟨tm,hq,[]⟩∧TqAt h0 hq h0.next X Y Z es ls ps∧es.length≤9∧ls.length≤i∧ps.length≤0∧tm.E 129=.ii (n:Int)∧tm.E 15=.ii (n:Int)∧tm.E 16=.ptr h0.next 0∧tm.E 166=.ii (C:Int)∧tm.E 167=.ii (i:Int))
   ?_ ?_ (i:=0) (Nat.zero_le _) ⟨_,_,_,_,_,_,_,_,rfl,a,b1,by omega,b3,ygl,ygo,ygs,ygb,ygb⟩) fun x1 s hx1=>?_
  ·clear t129 t15 t16
   rintro i s hi ⟨tm,hq,X,Y,Z,es,ls,ps,rfl,a,b1,b2,b3,t129,t15,t16,tc,ti⟩
   have hi':(i:Int)<(C:Int):=by omega
   have v1:wr .i64 ((i:Int)+3)=((i+3:Nat):Int):=by rw[ZC ygc ygc];omega
   have d1:=fun a:Int=>YS .i64 (a:=a) (b:=((i+3:Nat):Int)) ygc
   have cA:∀B,(hq.add B).cells h0.next=some [X,Y,Z]:=fun B=>by rw[XV (a.s.wf _ _ a.g)];exact Zb a.g
   simp(disch:=first|omega|simp only[nZ]<;>omega|fail)only[go_sem,t129,t15,t16,tc,ti,hi',Zb a.g,cA,v1,d1,Zu .i64 q2,Zu .i64 q3,Zu .i64 q4,Zu .i64 q5,YS .i64 q2]
   refine a.appY w0 (Nat.le_refl _) ygc fun X' h5 o5 g5 a5=>?_
   have w1:wr .i64 ((i:Int)+1)=((i+1:Nat):Int):=Zc ygc
   simp(disch:=first|omega|simp only[nZ]<;>omega|fail)only[go_sem,t129,t15,t16,tc,ti,hi',Zb a.g,cA,g5,Zb g5,o5,cells_one o5,w1]
   exact⟨_,_,_,_,_,_,_,_,rfl,a5,ygd,ygd,ygd,ygl,ygo,ygs,(by simp[tc]),ygb⟩
  ·rintro s ⟨tm,hq,X,Y,Z,es,ls,ps,rfl,a,b1,b2,b3,t129,t15,t16,tc,ti⟩
   simp(disch:=first|omega|simp only[nZ]<;>omega|fail)only[go_sem,tc,ti,Int.lt_irrefl]
   exact⟨_,_,_,_,_,_,_,_,rfl,a,by omega,by omega,by omega,ygl,ygo,ygs⟩
  clear hC hC9
  obtain⟨rfl,tm,hq,X,Y,Z,es,ls,ps,rfl,a,b1,b2,b3,t129,t15,t16⟩:=hx1
  have r7:(n:Int).tmod 7=((n%7:Nat):Int):=rem_nat n 7
  simp(disch:=first|omega|simp only[nZ]<;>omega|fail)only[go_sem,t129,t15,t16,Zu .i64 q7,r7]
  generalize hC:n%7=C
  have hC9:C≤9:=by omega
  refine W.mono (Q:=fun x1 s=>x1=.ext 10∧∃tm hq X Y Z es ls ps,s=⟨tm,hq,[]⟩∧TqAt h0 hq h0.next X Y Z es ls ps∧es.length≤9∧ls.length≤9∧ps.length≤9∧tm.E 129=.ii (n:Int)∧tm.E 15=.ii (n:Int)∧tm.E 16=.ptr h0.next 0)
   (Zh C (fun i s=>∃tm hq X Y Z es ls ps,s=⟨tm,hq,[]⟩∧TqAt h0 hq h0.next X Y Z es ls ps∧es.length≤9∧ls.length≤9∧ps.length≤i∧tm.E 129=.ii (n:Int)∧tm.E 15=.ii (n:Int)∧tm.E 16=.ptr h0.next 0∧tm.E 192=.ii (C:Int)∧tm.E 193=.ii (i:Int))
   ?_ ?_ (i:=0) (Nat.zero_le _) ⟨_,_,_,_,_,_,_,_,rfl,a,b1,b2,by omega,ygl,ygo,ygs,ygb,ygb⟩) fun x1 s hx1=>?_
  ·clear t129 t15 t16
   rintro i s hi ⟨tm,hq,X,Y,Z,es,ls,ps,rfl,a,b1,b2,b3,t129,t15,t16,tc,ti⟩
   have hi':(i:Int)<(C:Int):=by omega
   have v1:wr .i64 ((i:Int)+1)=((i+1:Nat):Int):=Zc ygc
   have d1:=fun a:Int=>YS .i64 (a:=a) (b:=((i+1:Nat):Int)) ygc
   have cA:∀B,(hq.add B).cells h0.next=some [X,Y,Z]:=fun B=>by rw[XV (a.s.wf _ _ a.g)];exact Zb a.g
   simp(disch:=first|omega|simp only[nZ]<;>omega|fail)only[go_sem,t129,t15,t16,tc,ti,hi',Zb a.g,cA,v1,d1,Zu .i64 q2,Zu .i64 q3,Zu .i64 q4,Zu .i64 q5,YS .i64 q2]
   refine a.appZ w0 (Nat.le_refl _) ygc fun X' h5 o5 g5 a5=>?_
   have w1:wr .i64 ((i:Int)+1)=((i+1:Nat):Int):=Zc ygc
   simp(disch:=first|omega|simp only[nZ]<;>omega|fail)only[go_sem,t129,t15,t16,tc,ti,hi',Zb a.g,cA,g5,Zb g5,o5,cells_one o5,w1]
   exact⟨_,_,_,_,_,_,_,_,rfl,a5,ygd,ygd,ygd,ygl,ygo,ygs,(by simp[tc]),ygb⟩
  ·rintro s ⟨tm,hq,X,Y,Z,es,ls,ps,rfl,a,b1,b2,b3,t129,t15,t16,tc,ti⟩
   simp(disch:=first|omega|simp only[nZ]<;>omega|fail)only[go_sem,tc,ti,Int.lt_irrefl]
   exact⟨_,_,_,_,_,_,_,_,rfl,a,by omega,by omega,by omega,ygl,ygo,ygs⟩
  clear hC hC9
  obtain⟨rfl,tm,hq,X,Y,Z,es,ls,ps,rfl,a,b1,b2,b3,t129,t15,t16⟩:=hx1
  have tb:=a.tb ygc ygc ygc
  have r4:(n:Int).tmod 4=((n%4:Nat):Int):=rem_nat n 4
  have r5:(n:Int).tmod 5=((n%5:Nat):Int):=rem_nat n 5
  have wq:=a.s.wf
  obtain⟨R,hR⟩:∃R:Ab.C,Xz [true,true,true,false,true,false,false,true,true,false,false,true,true,true,true,true,true,true] c5.body=R:=⟨_,rfl⟩
  have tail:∀(tm:Go.Ab.T V) (hz:H) (y:V) (S:List (List Int)),hq.Sub hz→RdI hz y S→tm.E 129=.ii (n:Int)→tm.E 15=.ii (n:Int)→tm.E 16=.ptr h0.next 0→tm.E 20=y→
    W fnG Zm 374 5 none R ⟨tm,hz,[]⟩ fun x1 s=>x1=.nrm∧∃tm h',s=⟨tm,h',[]⟩∧hz.Sub h'∧tm.E 129=.ii (n:Int):=by
   clear t129 t15 t16
   intro tm hz y S sz rd t129 t15 t16 t20
   subst hR
   have g:=sz.get a.g
   have wz:=sz.wf
   have k5:n%5<5:=Nat.mod_lt _ ygc
   obtain⟨HA,eHA⟩:∃HA,((((hz.add (.bk [.ii 0])).add (.bk [.ii 0,.ii 1])).add (.bk [.ii 1,.ii 0])).add (.bk [.ii 2])).add (.bk [.nils,.sl hz.next 0 1 (.fix 1),.sl (hz.next+1) 0 2 (.fix 2),.sl (hz.next+1+1) 0 2 (.fix 2),.sl (hz.next+1+1+1) 0 1 (.fix 1)])=HA:=⟨_,rfl⟩
   have sA:hz.Sub HA:=by rw[←eHA];exact yga
   have i1:Zx HA hz.next 1:=⟨[0],rfl,by rw[←eHA];show _=some (Blk.bk [.ii 0]);simp(disch:=first|omega|simp only[nZ]<;>omega|fail)only[go_sem]⟩
   have i2:Zx HA (hz.next+1) 2:=⟨[0,1],rfl,by rw[←eHA];show _=some (Blk.bk [.ii 0,.ii 1]);simp(disch:=first|omega|simp only[nZ]<;>omega|fail)only[go_sem]⟩
   have i3:Zx HA (hz.next+1+1) 2:=⟨[1,0],rfl,by rw[←eHA];show _=some (Blk.bk [.ii 1,.ii 0]);simp(disch:=first|omega|simp only[nZ]<;>omega|fail)only[go_sem]⟩
   have i4:Zx HA (hz.next+1+1+1) 1:=⟨[2],rfl,by rw[←eHA];show _=some (Blk.bk [.ii 2]);simp(disch:=first|omega|simp only[nZ]<;>omega|fail)only[go_sem]⟩
   obtain⟨v,l,hv,hvl⟩:∃(v:V) (l:List Int),nth (n%5) [.nils,.sl hz.next 0 1 (.fix 1),.sl (hz.next+1) 0 2 (.fix 2),.sl (hz.next+1+1) 0 2 (.fix 2),.sl (hz.next+1+1+1) 0 1 (.fix 1)]=some v∧Zg HA v 1 (l.map encI):=by
    have hc:n%5=0∨n%5=1∨n%5=2∨n%5=3∨n%5=4:=by omega
    rcases hc with e|e|e|e|e<;>rw[e]
    ·exact⟨_,[],rfl,by simp,by simp,.inl ⟨rfl,rfl⟩⟩
    ·obtain⟨l,hl⟩:=i1.slI ygc;exact⟨_,l,rfl,hl⟩
    ·obtain⟨l,hl⟩:=i2.slI ygc;exact⟨_,l,rfl,hl⟩
    ·obtain⟨l,hl⟩:=i3.slI ygc;exact⟨_,l,rfl,hl⟩
    ·obtain⟨l,hl⟩:=i4.slI ygc;exact⟨_,l,rfl,hl⟩
   simp(disch:=first|omega|simp only[nZ]<;>omega|fail)only[Xz,c5,go_sem,t129,t15,t16,t20,Zb g,Zu .i64 q2,Zu .i64 q3,Zu .i64 q4,Zu .i64 q5,Zu .i64 q6,Zu .i64 q7,YS .i64 q3,r5,ZZ (Ze (n%5)) k5,Nat.mul_one,hv]
   have gL:HA.cells (hz.next+1+1+1+1)=some [.nils,.sl hz.next 0 1 (.fix 1),.sl (hz.next+1) 0 2 (.fix 2),.sl (hz.next+1+1) 0 2 (.fix 2),.sl (hz.next+1+1+1) 0 1 (.fix 1)]:=by rw[←eHA];simp(disch:=first|omega|simp only[nZ]<;>omega|fail)only[go_sem]
   rw[eHA]
   refine asked_ev (a:=⟨_,_,_⟩) (b:=⟨_,_,_⟩) sA.wf ((tb.mono sz).mono sA) hvl (rd.mono sA) _ fun h5 s5=>?_
   simp(disch:=first|omega|simp only[nZ]<;>omega|fail)only[go_sem,t129,t15,t16,t20,Bool.not_true,Zb g,Zb (sA.get g),gL,hv]
   first|exact⟨rfl,_,_,rfl,sA.trans s5,ygl⟩|exact⟨_,_,rfl,sA.trans s5,ygl⟩
  simp only[Xz,c5] at hR
  rw[hR]
  simp(disch:=first|omega|simp only[nZ]<;>omega|fail)only[go_sem,t129,t15,t16,Zb a.g]
  refine Sort_ev wq tb _ fun y hS sS o=>?_
  obtain⟨S1,hS1⟩:∃S1,(if check ⟨es,ls,ps⟩=0 then(sortR (mT ⟨es,ls,ps⟩) ps.length).getD [] else[])=S1:=⟨_,rfl⟩
  obtain⟨S0,eS1,aS,_⟩:=VO (mT ⟨es,ls,ps⟩) ps.length
  have k1:S1.length≤9∧∀l∈S1,l.length≤9:=by
   by_cases c:check ⟨es,ls,ps⟩=0
   ·rw[if_pos c,eS1] at hS1
    have hS1:S0=S1:=hS1
    subst hS1
    refine⟨?_,fun l hl=>?_⟩
    ·have:=flat_ge aS.ne;rw[aS.len] at this;omega
    ·have:=len_flat hl;rw[aS.len] at this;omega
   ·rw[if_neg c] at hS1
    subst hS1
    exact⟨by simp,by simp⟩
  have hS1':(if check ⟨es,ls,ps⟩=0 then(sortR (mT ⟨es,ls,ps⟩) (Tb.mk es ls ps).pieces.length).getD [] else[])=S1:=hS1
  rw[hS1'] at o
  have lS:q_len y=some (.ii (S1.length:Int)):=by have:=o.len (by simp only[eS,List.length_map];omega);simpa[eS] using this
  have gS:=sS.get a.g
  have sh0:=sh.trans (a.s.trans sS)
  have rd:=ZL.rdI o ygc fun l hl=>by have:=k1.2 l hl;omega
  by_cases c4:n%4=0
  case neg=>
   have d4:decide (((n%4:Nat):Int)=0)=false:=decide_eq_false ygc
   simp(disch:=first|omega|simp only[nZ]<;>omega|fail)only[go_sem,t129,t15,t16,Zu .i64 q4,r4,d4]
   refine(tail _ hS y S1 sS rd ygl ygo ygs ygb).mono fun x1 s hx1=>?_
   obtain⟨rfl,tm,hz,rfl,sz,t129⟩:=hx1
   have wn:wr .i64 ((n:Int)+1)=((n+1:Nat):Int):=Zc ygc
   simp(disch:=first|omega|simp only[nZ]<;>omega|fail)only[go_sem,t129,wn]
   exact⟨_,_,rfl,sh0.trans sz,ygb⟩
  have d4:decide (((n%4:Nat):Int)=0)=true:=decide_eq_true ygc
  by_cases c1:S1.length≤1
  ·have d1:decide ((S1.length:Int)>1)=false:=decide_eq_false ygc
   simp(disch:=first|omega|simp only[nZ]<;>omega|fail)only[go_sem,t129,t15,t16,Zu .i64 q4,r4,d4,lS,d1]
   refine(tail _ hS y S1 sS rd ygl ygo ygs ygb).mono fun x1 s hx1=>?_
   obtain⟨rfl,tm,hz,rfl,sz,t129⟩:=hx1
   have wn:wr .i64 ((n:Int)+1)=((n+1:Nat):Int):=Zc ygc
   simp(disch:=first|omega|simp only[nZ]<;>omega|fail)only[go_sem,t129,wn]
   exact⟨_,_,rfl,sh0.trans sz,ygb⟩
  have d1:decide ((S1.length:Int)>1)=true:=decide_eq_true ygc
  simp(disch:=first|omega|simp only[nZ]<;>omega|fail)only[go_sem,t129,t15,t16,Zu .i64 q4,r4,d4,lS,d1]
  obtain⟨s0,s1,ss,rfl⟩:∃s0 s1 ss,S1=s0::s1::ss:=by
   match S1,c1 with
   |s0::s1::ss,_=>exact⟨_,_,_,rfl⟩
   |[_],h=>simp at h
   |[],h=>simp at h
  have n0:=k1.2 s0 ygb
  have n1:=k1.2 s1 ygb
  have nss:=k1.1
  simp only[List.length_cons] at nss
  obtain⟨b0,o0,kd0,cs0,v0,e1,e2,e3,e4,cv0,bx0,nbv0,Fb0,cont⟩:=o.at (by simp only[eS,List.length_map,List.length_cons];omega) (i:=0) (by simp[eS])
  obtain⟨b1',o1,kd1,cs1,v1,f1,f2,f3,f4,cv1,bx1,nbv1,Fb1,_⟩:=o.at (by simp only[eS,List.length_map,List.length_cons];omega) (i:=1) (by simp[eS])
  have cv0:Yo (fun b=>hq.next≤b) hS v0 1 (s0.map encI):=cv0
  have cv1:Yo (fun b=>hq.next≤b) hS v1 1 (s1.map encI):=cv1
  have e1':ZS 1 y (.ii 0)=some (.ptr b0 o0):=e1
  have f1':ZS 1 y (.ii 1)=some (.ptr b1' o1):=f1
  have wS:=sS.wf
  have sD:hS.Sub (hS.add (.bk (s0.map encI).flatten)):=yga
  have gD:(hS.add (.bk (s0.map encI).flatten)).get hS.next=some (.bk (s0.map encI).flatten):=Zn rfl
  have nD:(hS.add (.bk (s0.map encI).flatten)).next=hS.next+1:=H.next_add _ _
  simp(disch:=first|omega|simp only[nZ]<;>omega|fail)only[go_sem,e1',Zb e2,e4]
  rw[dupInt_ev wS (cv0.sl yge) ygc]
  simp(disch:=first|omega|simp only[nZ]<;>omega|fail)only[go_sem,f1',sD.cells (Zb f2),f4]
  generalize hS.add (.bk (s0.map encI).flatten)=hD at sD gD nD⊢
  refine app_own (F:=fun b=>hq.next≤b) sD.wf gD rfl ((cv1.sl yge).mono sD) ygc (by show hq.next≤hS.next;exact sS.next) (by show hq.next≤hD.next;have:=sS.next;have:=sD.next;omega) fun x' h5 s5 c5 b5=>?_
  obtain⟨cs',put0,o6⟩:=cont x' ((s0++s1).map encI) h5 (Zi.of (sD.trans s5) _) c5 fun c hc=>.inr (by have:=b5 c hc;omega)
  have e25:=(sD.trans s5).get e2
  have hpc:putC (some (.cells kd0 cs0)) h5 b0 o0 [x']=some (h5.set b0 (.cells kd0 cs')):=by rcases e3 with rfl|rfl<;>simp only[putC_rw,putC_gr,put0,setO_some]
  have x1':=c5.one
  simp(disch:=first|omega|simp only[nZ]<;>omega|fail)only[go_sem,e1',Zb e2,e4,f1',sD.cells (Zb f2),Zb f2,f4,x1',cells_one x1',e25,hpc,sD.cells (Zb e2)]
  have s6:=(sS.trans (sD.trans s5)).set (b:=b0) Fb0 ((sD.trans s5).wf _ _ e25) wq (.cells kd0 cs')
  generalize h5.set b0 (.cells kd0 cs')=h6 at o6 s6⊢
  obtain⟨xs,a1,a2,a3,_⟩:=o6
  have a2:xs.length=ss.length+1+1:=by rw[a2];simp[eS]
  obtain⟨u0,u1,us,rfl⟩:∃u0 u1 us,xs=u0::u1::us:=by
   match xs,a2 with
   |u0::u1::us,_=>exact⟨_,_,_,rfl⟩
  simp only[List.length_cons] at a2
  have ho:ZF us=true:=by
   rw[Xr]
   intro v hv
   obtain⟨i,hi,rfl⟩:=List.mem_iff_getElem.1 hv
   exact(a3 (i+1+1) ygx ygv).1.one
  obtain⟨y1,z1,fT,fF,app⟩:=cut_many s6.wf a1 ygc ho
  have fT':W6 h6 1 y (.ii 1)=some y1:=fT
  have fF':XU h6 1 y (.ii 2)=some z1:=fF
  simp(disch:=first|omega|simp only[nZ]<;>omega|fail)only[go_sem,q_slc_to,WB,evQ_slc,fT',fF']
  refine app _ fun x3 h7 k7 w7 c7=>?_
  have s7:=k7.sub s6 wq (fun c hc=>(a1.blk hc).1) w7
  have rd7:RdI h7 x3 ((s0++s1)::ss):=by
   refine⟨u0::us,c7.sl (by simp only[List.length_map,List.length_cons];omega),by simp only[List.length_cons];omega,fun i hi hj=>.inl ?_⟩
   have kp:∀(j:Nat) (hj1:j<(u0::u1::us).length) (l:List Int) (hl:l.length≤1000),Yo (fun b=>hq.next≤b) h6 (u0::u1::us)[j] 1 (l.map encI)→Zg h7 (u0::u1::us)[j] 1 (l.map encI):=fun j hj1 l hl c=>(c.keep k7 fun b hb=>(a3 j hj1 (by simp only[eS,List.length_set,List.length_map,List.length_cons] at hj1⊢;omega)).2 b hb).sl yge
   cases i with
   |zero=>exact kp 0 ygb (s0++s1) (by rw[List.length_append];omega) (a3 0 ygb (by simp[eS])).1
   |succ i=>
    simp only[List.length_cons] at hi hj
    have hi2:i<ss.length:=by omega
    have:=k1.2 ss[i] (List.mem_cons_of_mem _ (List.mem_cons_of_mem _ (List.getElem_mem hi2)))
    refine kp (i+1+1) ygx ss[i] ygc ?_
    have h3:=(a3 (i+1+1) ygx ygv).1
    simpa[eS] using h3
  simp(disch:=first|omega|simp only[nZ]<;>omega|fail)only[go_sem,t129,q_slc_to,WB,evQ_slc,fT',fF']
  refine(tail _ h7 x3 _ s7 rd7 ygl ygo ygs ygb).mono fun x1 s hx1=>?_
  obtain⟨rfl,tm,hz,rfl,sz,t129⟩:=hx1
  have wn:wr .i64 ((n:Int)+1)=((n+1:Nat):Int):=Zc ygc
  simp(disch:=first|omega|simp only[nZ]<;>omega|fail)only[go_sem,t129,wn]
  exact⟨_,_,rfl,(sh.trans a.s).trans (s7.trans sz),ygb⟩
 ·rintro s ⟨tm,hz,rfl,sz,t129⟩
  have hnl:¬((80:Nat):Int)<80:=by omega
  simp(disch:=first|omega|simp only[nZ]<;>omega|fail)only[go_sem,t129,hnl]
  first|exact⟨_,_,rfl,sz⟩|exact⟨rfl,_,_,rfl,sz⟩
 obtain⟨rfl,tm,hz,rfl,sz⟩:=hx1
 simp(disch:=first|omega|simp only[nZ]<;>omega|fail)only[go_sem]
 first|exact⟨_,_,rfl,sz⟩|exact⟨rfl,_,_,rfl,sz⟩
end Go.Ab.Tryz
