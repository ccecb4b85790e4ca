import Derived.Test.YtglaieeholjhgaaGreatG4
import Derived.Test.YtglaieeholjhgaaGreatG5
set_option linter.unusedSimpArgs false
set_option linter.unusedVariables false
theorem yda {p:Prop}(h:p:=by simp[Zm,Zd]<;>rfl):p:=h
theorem ydb {p:Prop}(h:p:=by repeat(first|assumption|exact H.Sub.refl (by assumption)|refine H.Sub.add ?_ _|refine H.Sub.set ?_ (by first|omega|(simp only[H.next_add,H.next_set,H.next_del]<;>omega)) (by first|omega|(simp only[H.next_add,H.next_set,H.next_del]<;>omega)) (by assumption) _)):p:=h
theorem ydc {p:Prop}(h:p:=by simp[Zm,Zd,t1]<;>rfl):p:=h
theorem ydd {p:Prop}(h:p:=by simp[Zm,Zd,t3]<;>rfl):p:=h
theorem yde {p:Prop}(h:p:=by omega):p:=h
theorem ydf {p:Prop}(h:p:=by simp[Zm,Zd,t2]<;>rfl):p:=h
theorem ydg {p:Prop}(h:p:=by simp[Zm,Zd,t12]<;>rfl):p:=h
theorem ydh {p:Prop}(h:p:=by simp[Zm,Zd,t9]<;>rfl):p:=h
theorem ydi {p:Prop}(h:p:=by simp[Zm,Zd,t4]<;>rfl):p:=h
theorem ydj {p:Prop}(h:p:=by simp[Zm,Zd,t14]<;>rfl):p:=h
theorem ydk {p:Prop}(h:p:=by simp[Zm,Zd,t13]<;>rfl):p:=h
theorem ydl {p:Prop}(h:p:=by simp[Zm,Zd,t15]<;>rfl):p:=h
theorem ydm {p:Prop}(h:p:=by simp[Zm,Zd,t16]<;>rfl):p:=h
theorem ydn {p:Prop}(h:p:=by simp[Zm,Zd,t17]<;>rfl):p:=h
theorem ydo {p:Prop}(h:p:=by simp[Zm,Zd,t18]<;>rfl):p:=h
theorem ydp {p:Prop}(h:p:=by simp[Zm,Zd,t19]<;>rfl):p:=h
theorem ydq {p:Prop}(h:p:=by simp[Zm,Zd,t7]<;>rfl):p:=h
theorem ydr {p:Prop}(h:p:=by simp[Zm,Zd,t8]<;>rfl):p:=h
theorem yds {p:Prop}(h:p:=by simp[Zm,Zd,t11]<;>rfl):p:=h
theorem ydt {p:Prop}(h:p:=by simp[Zm,Zd,e0]<;>rfl):p:=h
theorem ydu {p:Prop}(h:p:=by simp[Zm,Zd,e1]<;>rfl):p:=h
theorem ydv {p:Prop}(h:p:=by simp[Zm,Zd,t10]<;>rfl):p:=h
theorem ydw {p:Prop}(h:p:=by rw[List.length_map];omega):p:=h
theorem ydx {p:Prop}(h:p:=by simp[Zm,Zd,t5]<;>rfl):p:=h
theorem ydy {p:Prop}(h:p:=by decide):p:=h
theorem ydz {p:Prop}(h:p:=by simp[Zm,Zd,H.next_add,H.next_set]<;>rfl):p:=h
theorem ydA {p:Prop}(h:p:=by simp):p:=h
theorem ydB {p:Prop}(h:p:=by rw[List.length_map,List.length_append,List.length_take];simp only[List.length_singleton];omega):p:=h
theorem ydC {p:Prop}(h:p:=by simp[Zm,Zd,t24]<;>rfl):p:=h
theorem ydD {p:Prop}(h:p:=by simp[Zm,Zd,t25]<;>rfl):p:=h
theorem ydE {p:Prop}(h:p:=by simp[Zm,Zd,t26]<;>rfl):p:=h
theorem ydF {p:Prop}(h:p:=by simp[Zm,Zd,t6]<;>rfl):p:=h
theorem ydG {p:Prop}(h:p:=by simp[Zm,Zd,e2]<;>rfl):p:=h
theorem ydH {p:Prop}(h:p:=by simp[Zm,Zd,e7]<;>rfl):p:=h
theorem ydI {p:Prop}(h:p:=by unfold facI;rw[if_neg (by simp only;omega)]):p:=h
theorem ydJ {p:Prop}(h:p:=by simp[Zm,Zd,t34]<;>rfl):p:=h
theorem ydK {p:Prop}(h:p:=by simp[Zm,Zd,t35]<;>rfl):p:=h
theorem ydL {p:Prop}(h:p:=by simp[Zm,Zd,er]<;>rfl):p:=h
theorem ydM {p:Prop}(h:p:=by simp[Zm,Zd,eo]<;>rfl):p:=h
theorem ydN {p:Prop}(h:p:=by simp[Zm,Zd,e6]<;>rfl):p:=h
theorem ydO {p:Prop}(h:p:=by rw[Zz.2 r];simp):p:=h
theorem ydP {p:Prop}(h:p:=by simp only[H.next_add];omega):p:=h
theorem ydQ {p:Prop}(h:p:=by rw[h];simp):p:=h
namespace Go.Ab.Tryz
open Go.Proofs
abbrev V3:=V × V × V
def row3 (v:V3):List V:=[v.1,v.2.1,v.2.2]
def TrT (h:H)(v:V3)(t:TT):Prop:=WF h v.1 v.2.1 v.2.2 t.1 t.2.1 t.2.2
def Up3 (n:Nat)(v:V3):Prop:=Up n v.1∧Up n v.2.1∧Up n v.2.2
structure TL (n:Nat)(h0 h:H)(y:V)(L:List TT)(vs:List V3):Prop where
 o:Zx h0 h y 3 (vs.map row3)
 len:vs.length=L.length
 e:∀(i:Nat) (v:V3) (t:TT),vs[i]? =some v→L[i]? =some t→TrT h v t
 u:∀v∈vs,Up3 n v
variable {h0 h h':H} {y:V} {L:List TT} {vs:List V3} {n n':Nat}
theorem TrT.mono {v:V3}{t:TT}(k:TrT h v t)(s:h.Sub h'):TrT h' v t:=WF.mono k s
theorem TrT.one {v:V3}{t:TT}(k:TrT h v t):ZB (row3 v)=true:=by
 have h1:=k.s.one;have h2:=k.g.one;have h3:=k.t.one
 unfold row3
 rw[Yz,Yz,Yz,h1,h2,h3];rfl
theorem TrT.noInt {v:V3}{t:TT}(k:TrT h v t)(m:Int):V.ii m ∉row3 v:=by
 unfold row3
 simp only[List.mem_cons,List.not_mem_nil,or_false,not_or]
 exact⟨fun e=>sl_noInt k.s _ m e.symm,fun e=>sl_noInt k.g _ m e.symm,fun e=>sl_noInt k.t _ m e.symm⟩
theorem TrT.keep {S:Nat→Prop}{v:V3}{t:TT}(w:TrT h v t)(k:Zh S h h')(n:∀b cs,S b→h.cells b=some cs→∀m,V.ii m ∉cs):TrT h' v t:=⟨VR w.s k n,VR w.g k n,VR w.t k n⟩
theorem TL.mono (k:TL n h0 h y L vs)(s:h.Sub h'):TL n h0 h' y L vs:=⟨k.o.mono s,k.len,fun i v l h1 h2=>(k.e i v l h1 h2).mono s,k.u⟩
theorem TL.nil (s:h0.Sub h):TL n h0 h .nils [] []:=⟨Zx.nil s 3,rfl,fun i v l h1 _=>by simp at h1,fun v hv=>by cases hv⟩
theorem TL.at0 (k:TL n h0 h y L vs){v:V3}(hv:v∈vs):∃t,TrT h v t:=by
 obtain⟨i,hi,e⟩:=List.getElem_of_mem hv
 have h1:vs[i]? =some v:=by rw[List.getElem?_eq_getElem hi,e]
 have hi2:i<L.length:=by rw[←k.len];exact hi
 exact⟨_,k.e i v _ h1 (List.getElem?_eq_getElem hi2)⟩
theorem TL.push (k:TL n h0 h y L vs)(hw0:h0.wf)(hl:L.length≤1000000){x:V}{v:V3}{t:TT}(hx:Zg h x 3 [row3 v])(hv:TrT h v t)(hu:Up3 n v){Q:V→H→Prop}(q:∀y' h',TL n h0 h' y' (L++[t]) (vs++[v])→Zh (Zq y) h h'→Q y' h'):
  P2 (Z2 h 3 72 y x) Q:=by
 have hlen:=k.len
 refine k.o.app1 (by_:=72) (r:=row3 v) hw0 rfl yde hx hv.one ydw ydw fun h' o' kk _=>q _ _ ⟨by rw[List.map_append];exact o',by simp[hlen],fun i v' l' e1 e2=>?_,fun v' hv'=>?_⟩ kk
 rotate_left
 ·rcases List.mem_append.1 hv' with hv'|hv'
  ·exact k.u v' hv'
  ·rw[List.mem_singleton] at hv';rw[hv'];exact hu
 have hno:∀b cs,Zq y b→h.cells b=some cs→∀m,V.ii m ∉cs:=fun b cs hb hc=>by
  rcases k.o.2.2 with⟨e,_⟩|⟨b2,e,_,_,g⟩
  ·rw[e] at hb;exact(Zy hb).elim
  ·obtain⟨o,n,c,e2⟩:=hb
   rw[e] at e2;cases e2
   rw[Za g] at hc;cases hc
   intro m hm
   obtain⟨r,hr,hm⟩:=List.mem_flatten.1 hm
   obtain⟨u,hu,rfl⟩:=List.mem_map.1 hr
   obtain⟨t',ht'⟩:=k.at0 hu
   exact ht'.noInt m hm
 rcases Xw.1 e1 with e1|⟨q1,rfl⟩
 ·rcases Xw.1 e2 with e2|⟨q2,_⟩
  ·exact(k.e i v' l' e1 e2).keep kk hno
  ·have:=Vf e1;omega
 ·rcases Xw.1 e2 with e2|⟨_,rfl⟩
  ·have:=Vf e2;omega
  ·exact hv.keep kk hno
def TR (n:Nat)(h:H)(y:V)(L:List TT):Prop:=∃vs:List V3,Zg h y 3 (vs.map row3)∧vs.length=L.length∧(∀(i:Nat) (v:V3) (t:TT),vs[i]? =some v→L[i]? =some t→TrT h v t)∧Up n y∧∀v∈vs,Up3 n v
theorem TL.rd (k:TL n h0 h y L vs)(hl:L.length≤1000000)(hn:n≤h0.next):TR n h y L:=⟨vs,k.o.c.sl (by rw[List.length_map,k.len];omega),k.len,k.e,(ownUp k.o).low hn,k.u⟩
theorem TR.mono (k:TR n h y L)(s:h.Sub h'):TR n h' y L:=by
 obtain⟨vs,k1,k2,k3,k4⟩:=k
 exact⟨vs,k1.mono s,k2,fun i v l h1 h2=>(k3 i v l h1 h2).mono s,k4⟩
theorem TR.low (k:TR n h y L)(s:n'≤n):TR n' h y L:=by
 obtain⟨vs,k1,k2,k3,k4,k5⟩:=k
 exact⟨vs,k1,k2,k3,k4.low s,fun v hv=>⟨(k5 v hv).1.low s,(k5 v hv).2.1.low s,(k5 v hv).2.2.low s⟩⟩
theorem TR.keep {S:Nat→Prop}(k:TR n h y L)(kk:Zh S h h')(hS:∀b,S b→b<n):TR n h' y L:=by
 obtain⟨vs,k1,k2,k3,k4,k5⟩:=k
 refine⟨vs,Yb k1 k4 kk hS,k2,fun i v l h1 h2=>?_,k4,k5⟩
 have t:=k3 i v l h1 h2
 obtain⟨u1,u2,u3⟩:=k5 v (List.mem_of_getElem? h1)
 exact⟨Yb t.s u1 kk hS,Yb t.g u2 kk hS,Yb t.t u3 kk hS⟩
theorem TR.lenE (k:TR n h y L):q_len y=some (.ii (L.length:Int)):=by
 obtain⟨vs,k1,k2,k3⟩:=k
 have:=k1.lenE
 rw[←k2];exact this
theorem TR.one (k:TR n h y L):y.one=true:=by
 obtain⟨vs,k1,k2,k3⟩:=k
 exact k1.one
theorem TR.at_ (k:TR n h y L){i:Nat}(hi:i<L.length):∃b o cs v,h.cells b=some cs∧(∀{u:V},nat? u=some i→Yw 3 y u=some (.ptr b o))∧Y6 o 3 cs=some (row3 v)∧nth o cs=some v.1∧nth (o+1) cs=some v.2.1∧nth (o+2) cs=some v.2.2∧TrT h v L[i]∧Up3 n v:=by
 obtain⟨vs,k1,k2,k3,k4,k5⟩:=k
 have hi2:i<vs.length:=by rw[k2];exact hi
 obtain⟨b,o,c,cs,_,hc,hq,hg,hn,hn0⟩:=k1.at hi2
 refine⟨b,_,cs,vs[i],hc,hq,hg,hn0 ydy,hn 1 ydy,hn 2 ydy,k3 i _ _ (List.getElem?_eq_getElem hi2) (List.getElem?_eq_getElem hi),k5 _ (List.getElem_mem hi2)⟩
end Go.Ab.Tryz
namespace Go.Ab.Tryz
open Go.Proofs
theorem evens_at:∀{l:List Int} {j:Nat},2*j+1<l.length→(XU l)[j]? =l[2*j]? ∧(odds l)[j]? =l[2*j+1]?
 |[],j,h=>by simp at h
 |[x],j,h=>by simp at h
 |x::y::l,0,h=>by simp[XU,odds]
 |x::y::l,j+1,h=>by
  have:=evens_at (l:=l) (j:=j) (by simp only[List.length_cons] at h;omega)
  rw[XU,odds,List.getElem?_cons_succ,List.getElem?_cons_succ,this.1,this.2,show 2*(j+1)=2*j+1+1 from rfl,show 2*j+1+1+1=(2*j+1)+1+1 from rfl]
  simp only[List.getElem?_cons_succ,and_self]
theorem evens_len:∀l:List Int,(XU l).length=l.length/2∧(odds l).length=l.length/2
 |[]=>⟨rfl,rfl⟩
 |[x]=>⟨by simp[XU],by simp[odds]⟩
 |x::y::l=>by
  have:=evens_len l
  simp only[XU,odds,List.length_cons,this.1,this.2]
  omega
def ofT (RR:List (List Int))(tt:List Int):List TT:=RR.map fun l=>(XU l,odds l,tt)
def uptoT (a:At)(T RR:List (List Int))(i:Nat):List TT:=((T.take i).filter (gapsB a)).flatMap (ofT RR)
theorem uptoT_step {a:At}{T:List (List Int)}(RR:List (List Int)){i:Nat}(hi:i<T.length):uptoT a T RR (i+1)=uptoT a T RR i++if gapsB a T[i]=true then ofT RR T[i] else[]:=by
 unfold uptoT
 rw[List.take_add_one,List.getElem?_eq_getElem hi,List.filter_append,List.flatMap_append]
 congr 1
 simp only[Option.toList_some,List.filter_cons,List.filter_nil]
 split<;>simp
theorem uptoT_len {a:At}{T RR:List (List Int)}(i:Nat):(uptoT a T RR i).length≤T.length*RR.length:=by
 unfold uptoT
 rw[XM (c:=RR.length) fun x _=>by unfold ofT;rw[List.length_map]]
 refine Nat.mul_le_mul_right _ (Nat.le_trans (List.length_filter_le ..) ?_)
 rw[List.length_take];omega
theorem uptoT_all (a:At):uptoT a (ZN a a.evs.toNat) (Xv a.cks) (ZN a a.evs.toNat).length=allT a:=by
 unfold uptoT allT
 rw[List.take_length];rfl
theorem Ug {h0 h:H}(hw0:h0.wf){S:V}{l:List Int}(o:Zx h0 h S 1 (l.map encI))(hl:l.length≤1000000){n:Int}{Q:V→H→Prop}(q:∀S' h',Zx h0 h' S' 1 ((l++[n]).map encI)→(∀b,Zq S' b→h.next≤b)→Zh (Zq S) h h'→Q S' h'):
  P2 (Z2 (h.add (.bk [.ii n])) 1 8 S (.sl h.next 0 1 (.fix 1))) Q:=by
 have s:=(H.Sub.refl o.1.wf).add (.bk [.ii n])
 refine(o.mono s).app1 (by_:=8) (r:=encI n) hw0 rfl yde (Zg.new _ rfl rfl (by simp[encI]) (by simp[encI]) ydA) rfl ydw ydw fun h' o' kk _=>q _ _ (by rw[List.map_append];exact o') (fun b hb=>?_) ((Zh.of s (fun _=>False)).trans kk |>.mono fun c hc=>hc.elim (fun f=>f.elim) id)
 obtain⟨_,_,_,e⟩:=hb
 cases e
 rw[H.next_add];omega
set_option maxHeartbeats 8000000 in
theorem All_ev {h:H}(hw:h.wf){a:At}{C R G:V}(x:ZP h C R G a)(r:Zl a)(hb:(a.mins.toNat+1)^a.evs.toNat*Yh a.cks≤100000)(hb1:(a.mins.toNat+1)^a.evs.toNat≤100000)(hb2:Yh a.cks≤100000)(Q:V→H→Prop)(q:∀y h',h.Sub h'→TR h.next h' y (allT a)→Q y h'):
  Ev fnG Zi (.fn 56 [] []) [.agg (atV a C R G)] h Q:=by
 have oC:=x.c.one;have oR:=x.r.one;have oG:=x.g.one
 have hev:=r.evs
 have hmn:=r.mins
 have rl:=r.lens
 refine Ze (fd:=c56) rfl rfl rfl ?_
 obtain⟨z,hz⟩:∃z,h.add (.bk (atV a C R G))=z:=⟨_,rfl⟩
 have sz:h.Sub z:=by rw[←hz];exact ydb
 have ga:z.get h.next=some (.bk (atV a C R G)):=by rw[←hz];exact Zc rfl
 simp(disch:=omega)only[c56,go_sem,oC,oR,oG,hz,Za ga]
 try rw[hz]
 clear hz
 refine times_ev r a.evs.toNat sz.wf (x.mono sz) (e:=0) yde hb1 _ fun yl z1 s1 kl=>?_
 have s01:=sz.trans s1
 simp(disch:=omega)only[go_sem,Za ga,Za (s1.get ga),oC,oR,oG]
 refine runs_ev r a.cks.length s01.wf (x.mono s01) (e:=0) yde (by simpa using hb2) _ fun yc z2 s2 kc=>?_
 rw[List.drop_zero] at kc
 have s02:=s01.trans s2
 have ga2:=(s1.trans s2).get ga
 have kl2:=kl.mono s2
 have hT:∀tt∈ZN a a.evs.toNat,(tt.length:Int)=a.evs∧∀t∈tt,0≤t∧t≤240:=fun tt ht=>by
  obtain⟨h1,h2⟩:=XW.1 ht
  exact⟨by omega,fun t ht=>by have:=h2 t ht;omega⟩
 have hTl:=XX a a.evs.toNat
 have hRl:=runsL_len a.cks
 have hrow:∀l∈Xv a.cks,l.length=2*a.cks.length:=fun l hl=>runsL_row hl
 have hall:=uptoT_all a
 have hlen:∀i,(uptoT a (ZN a a.evs.toNat) (Xv a.cks) i).length≤100000:=fun i=>Nat.le_trans (uptoT_len i) (by rw[hTl,hRl];exact hb)
 have hlen2:∀tt,(ofT (Xv a.cks) tt).length≤100000:=fun tt=>by unfold ofT;rw[List.length_map,hRl];exact hb2
 have hl1:(ZN a a.evs.toNat).length≤100000:=by rw[hTl];exact hb1
 have hl2:(Xv a.cks).length≤100000:=by rw[hRl];exact hb2
 generalize ZN a a.evs.toNat=T at *
 generalize Xv a.cks=RR at *
 have hlT:=kl2.lenE
 have hlR:=kc.lenE
 have hw2:=s02.wf
 simp(disch:=omega)only[go_sem,Za ga,Za (s1.get ga),Za ga2,oC,oR,oG]
 refine Zk T.length (fun i s=>∃tm z3 y vs,s=⟨tm,z3,[]⟩∧TL h.next z2 z3 y (uptoT a T RR i) vs∧tm.E 1=.ptr h.next 0∧tm.E 3=yl∧tm.E 4=yc∧tm.E 5=y∧tm.E 6=.ii (i:Int)) ?_ ?_ (i:=0) (Nat.zero_le _)
  ⟨_,_,_,_,rfl,TL.nil (H.Sub.refl hw2),yda,yda,yda,yda,yda⟩
 ·rintro i s hi ⟨tm,z3,y,vs,rfl,tl,t1,t3,t4,t5,t6⟩
  have hi':(i:Int)<(T.length:Int):=by omega
  have s3:=tl.o.1
  have s03:=s02.trans s3
  obtain⟨bb,o,cs,w,hc,hq,hn,hwt,uw⟩:=kl2.at_ hi
  obtain⟨ht1,ht2⟩:=hT _ (List.getElem_mem hi)
  have hstep:=uptoT_step (a:=a) RR hi
  have hli:=hlen i
  generalize T[i]=tt at hwt ht1 ht2 hstep
  have ow:=hwt.one
  simp(disch:=omega)only[go_sem,t1,t3,t4,t5,t6,hlT,hi',hq (Zb i),s3.cells hc,hn,Za (s3.get ga2),oC,oR,oG]
  refine refGaps_ev s03.wf (x.mono s03) r (hwt.mono s3) ht1 ht2 _ fun z4 s4=>?_
  have tl4:=tl.mono s4
  have s24:=s3.trans s4
  cases hg:gapsB a tt with
  |false=>
   rw[hg] at hstep
   simp(disch:=omega)only[go_sem,t1,t3,t4,t5,t6,hq (Zb i),s3.cells hc,s24.cells hc,hn,Za (s24.get ga2),Za (s3.get ga2),oC,oR,oG,Zj]
   exact⟨_,_,_,_,rfl,by rw[hstep];simpa using tl4,ydc,ydd,ydi,ydx,yda⟩
  |true=>
   rw[hg,if_pos rfl] at hstep
   simp(disch:=omega)only[go_sem,t1,t3,t4,t5,t6,hq (Zb i),s3.cells hc,s24.cells hc,hn,Za (s24.get ga2),Za (s3.get ga2),oC,oR,oG]
   clear tl
   refine Zk RR.length (fun k s=>∃tm z5 y vs,s=⟨tm,z5,[]⟩∧TL h.next z2 z5 y (uptoT a T RR i++(ofT RR tt).take k) vs∧tm.E 1=.ptr h.next 0∧tm.E 3=yl∧tm.E 4=yc∧tm.E 5=y∧tm.E 6=.ii (i:Int)∧tm.E 7=.ii (k:Int)) ?_ ?_ (i:=0) (Nat.zero_le _)
    ⟨_,_,_,_,rfl,by simpa using tl4,ydc,ydd,ydi,ydx,ydF,yda⟩
   ·clear tl4 t1 t3 t4 t5 t6
    rintro k s hk ⟨tm,z5,y,vs,rfl,tl,t1,t3,t4,t5,t6,t7⟩
    have hk':(k:Int)<(RR.length:Int):=by omega
    have s25:=tl.o.1
    have hw5:=s25.wf
    obtain⟨bb2,o2,cs2,w2,hc2,hq2,hn2,hwr,_⟩:=(kc.mono s25).at_ hk
    have hrl:=hrow _ (List.getElem_mem hk)
    have hst:(ofT RR tt)[k]? =some (XU RR[k],odds RR[k],tt):=by unfold ofT;rw[List.getElem?_map,List.getElem?_eq_getElem hk];rfl
    generalize RR[k]=row at hwr hrl hst
    have hlr:=hwr.lenE
    have e1:=evens_len row
    have hw5t:=hwt.mono s25
    have o5:=hw5t.one
    obtain⟨z6,hz6⟩:∃z6,z5.add (.bk [.nils,.nils,w])=z6:=⟨_,rfl⟩
    have s6:z5.Sub z6:=by rw[←hz6];exact ydb
    have g6:z6.get z5.next=some (.bk [.nils,.nils,w]):=by rw[←hz6];exact Zc rfl
    simp(disch:=omega)only[go_sem,t1,t3,t4,t5,t6,t7,hlR,hk',hq (Zb i),s25.cells hc,hn,o5,cells_one o5]
    try rw[hz6]
    clear hz6
    refine Zk a.cks.length (fun j s=>∃tm z7 S Ga,s=⟨tm,z7,[]⟩∧Zx z5 z7 S 1 (((XU row).take j).map encI)∧Zx z5 z7 Ga 1 (((odds row).take j).map encI)∧(∀b,Zq S b→¬Zq Ga b)∧z7.get z5.next=some (.bk [S,Ga,w])∧
      tm.E 1=.ptr h.next 0∧tm.E 3=yl∧tm.E 4=yc∧tm.E 5=y∧tm.E 6=.ii (i:Int)∧tm.E 7=.ii (k:Int)∧tm.E 8=.ptr z5.next 0∧tm.E 9=.ii ((2*j:Nat):Int)) ?_ ?_ (i:=0) (Nat.zero_le _)
     ⟨_,_,_,_,rfl,Zx.nil s6 1,Zx.nil s6 1,fun b hb=>(Zy hb).elim,g6,ydc,ydd,ydi,ydx,ydF,ydq,yda,yda⟩
    ·clear t1 t3 t4 t5 t6 t7 g6 s6
     rintro j s hj ⟨tm,z7,S,Ga,rfl,oS,oG',dj,g8,t1,t3,t4,t5,t6,t7,t8,t9⟩
     have s7:=oS.1
     have hj':((2*j:Nat):Int)<(row.length:Int):=by omega
     have hp:2*j+1<row.length:=by omega
     obtain⟨v1,v2⟩:=evens_at hp
     have h2j:2*j<row.length:=by omega
     rw[List.getElem?_eq_getElem h2j] at v1
     rw[List.getElem?_eq_getElem hp] at v2
     obtain⟨b3,o3,m3,cs3,ex3,hc3,hq3,_,_,n3⟩:=hwr.at h2j
     obtain⟨b4,o4,m4,cs4,ex4,hc4',hq4,_,_,n4⟩:=hwr.at hp
     have n3:=n3 ydy
     have n4:=n4 ydy
     simp only[encI,List.getElem?_cons_zero] at n3 n4
     generalize row[2*j]=u1 at n3 v1
     generalize row[2*j+1]=u2 at n4 v2
     have a1:(XU row).take (j+1)=(XU row).take j++[u1]:=by rw[List.take_add_one,v1];rfl
     have a2:(odds row).take (j+1)=(odds row).take j++[u2]:=by rw[List.take_add_one,v2];rfl
     have w4:wr .i64 (((2*j:Nat):Int)+1)=((2*j+1:Nat):Int):=by rw[Zo yde yde];omega
     have w9:wr .i64 (((2*j:Nat):Int)+2)=((2*(j+1):Nat):Int):=by rw[Zo yde yde];omega
     have s7c:=s7.cells hc2
     have s73:=s7.cells hc3
     have s74:=s7.cells hc4'
     have oneS:=(oS.c.sl (by rw[List.length_map,List.length_take];omega)).one
     have oneG:=(oG'.c.sl (by rw[List.length_map,List.length_take];omega)).one
     have s8:=(H.Sub.refl s7.wf).add (.bk [.ii u1])
     simp(disch:=omega)only[go_sem,t1,t3,t4,t5,t6,t7,t8,t9,hlR,hq2 (Zb k),s7c,hn2,hlr,hj',Za g8,hq3 (Zb (2*j)),s73,n3,s8.cells s7c,Za (s8.get g8),s8.cells s73]
     refine Ug hw5 oS (by rw[List.length_take];omega) fun S' z9 oS' nb kk=>?_
     have oG2:=oG'.keep kk oS'.1 fun b hb hs=>dj b hs hb
     have g9:=kk.2 _ _ g8 (oS.ne g8)
     have s9:=oS'.1
     have dj2:∀b,Zq S' b→¬Zq Ga b:=fun b hb hg=>by have:=nb b hb;have:=(oG'.blk hg).2.1;omega
     have l9:=s9.wf _ _ g9
     have s10:z5.Sub (z9.set z5.next (.bk [S',Ga,w])):=s9.set (Nat.le_refl _) yde hw5 _
     have k10:=Zh.set z9 z5.next (.bk [S',Ga,w])
     have oS3:=oS'.keep k10 s10 fun b hb e=>by subst e;exact oS'.ne g9 hb
     have oG3:=oG2.keep k10 s10 fun b hb e=>by subst e;exact oG2.ne g9 hb
     have g10:(z9.set z5.next (.bk [S',Ga,w])).get z5.next=some (.bk [S',Ga,w]):=get_set_same rfl
     have oneS':=(oS'.c.sl ydB).one
     simp(disch:=omega)only[go_sem,t1,t3,t4,t5,t6,t7,t8,t9,hlR,hq2 (Zb k),hn2,hq3 (Zb (2*j)),n3,s8.cells s7c,s8.cells s73,Za (s8.get g8),s9.cells hc2,s9.cells hc3,Za g9,g9,oneS',cells_one oneS']
     obtain⟨z10,hz10⟩:∃z10,z9.set z5.next (.bk [S',Ga,w])=z10:=⟨_,rfl⟩
     rw[hz10] at s10 k10 oS3 oG3 g10
     try rw[hz10]
     clear hz10
     have s11:=(H.Sub.refl s10.wf).add (.bk [.ii u2])
     simp(disch:=omega)only[go_sem,t1,t3,t4,t5,t6,t7,t8,t9,hlR,hq2 (Zb k),hn2,s10.cells hc2,Za g10,w4,hq4 (Zb (2*j+1)),s10.cells hc4',n4,(s10.trans s11).cells hc2,(s10.trans s11).cells hc4',Za (s11.get g10)]
     refine Ug hw5 oG3 (by rw[List.length_take];omega) fun G2 z11 oG4 nb2 kk2=>?_
     have oS4:=oS3.keep kk2 oG4.1 fun b hb hs=>dj2 b hb hs
     have g11:=kk2.2 _ _ g10 (oG3.ne g10)
     have s11':=oG4.1
     have dj3:∀b,Zq S' b→¬Zq G2 b:=fun b hb hg=>by have:=nb2 b hg;have:=(oS3.blk hb).2.1;omega
     have l11:=s11'.wf _ _ g11
     have s12:z5.Sub (z11.set z5.next (.bk [S',G2,w])):=s11'.set (Nat.le_refl _) yde hw5 _
     have k12:=Zh.set z11 z5.next (.bk [S',G2,w])
     have oS5:=oS4.keep k12 s12 fun b hb e=>by subst e;exact oS4.ne g11 hb
     have oG5:=oG4.keep k12 s12 fun b hb e=>by subst e;exact oG4.ne g11 hb
     have oneG':=(oG4.c.sl ydB).one
     simp(disch:=omega)only[go_sem,t1,t3,t4,t5,t6,t7,t8,t9,hlR,hq2 (Zb k),hn2,(s10.trans s11).cells hc2,(s10.trans s11).cells hc4',Za (s11.get g10),s11'.cells hc2,s11'.cells hc4',hq4 (Zb (2*j+1)),w4,n4,Za g11,g11,oneG',cells_one oneG',w9]
     exact⟨_,_,S',G2,rfl,by rw[a1];exact oS5,by rw[a2];exact oG5,dj3,get_set_same rfl,ydc,ydd,ydi,ydx,ydF,ydq,ydr,yda⟩
    ·clear t1 t3 t4 t5 t6 t7 g6 s6
     rintro s ⟨tm,z7,S,Ga,rfl,oS,oG',dj,g8,t1,t3,t4,t5,t6,t7,t8,t9⟩
     have s7:=oS.1
     have hj':¬((2*a.cks.length:Nat):Int)<(row.length:Int):=by omega
     rw[List.take_of_length_le yde] at oS oG'
     have sS:=oS.c.sl ydw
     have sG:=oG'.c.sl ydw
     have oneS:=sS.one
     have oneG:=sG.one
     have hv:TrT z7 (S,Ga,w) (XU row,odds row,tt):=⟨sS,sG,hw5t.mono s7⟩
     have sA:=(H.Sub.refl s7.wf).add (.bk [S,Ga,w])
     simp(disch:=omega)only[go_sem,t1,t3,t4,t5,t6,t7,t8,t9,hlR,hq2 (Zb k),s7.cells hc2,hn2,hlr,hj',Za g8,oneS,oneG,o5]
     have hw5n:=s25.next
     have lz2:=s02.next
     refine(tl.mono (s7.trans sA)).push hw2 (by have:=hlen2 tt;rw[List.length_append,List.length_take];omega) (v:=(S,Ga,w)) (t:=(XU row,odds row,tt)) (Zg.new _ rfl rfl (by simp[row3]) (by simp[row3]) ydA) (hv.mono sA) ⟨(ownUp oS).low yde,(ownUp oG').low yde,uw.low sz.next⟩ fun y5 z9 l5 _=>?_
     simp(disch:=omega)only[go_sem,t1,t3,t4,t5,t6,t7,t8,t9,Zj]
     have e2:(ofT RR tt).take (k+1)=(ofT RR tt).take k++[(XU row,odds row,tt)]:=by rw[List.take_add_one,hst];rfl
     exact⟨_,_,_,_,rfl,by rw[e2,←List.append_assoc];exact l5,ydc,ydd,ydi,yda,ydF,yda⟩
   ·clear tl4 t1 t3 t4 t5 t6
    rintro s ⟨tm,z5,y,vs,rfl,tl,t1,t3,t4,t5,t6,t7⟩
    have hk':¬(RR.length:Int)<(RR.length:Int):=by omega
    have hlo:(ofT RR tt).take RR.length=ofT RR tt:=List.take_of_length_le (by unfold ofT;rw[List.length_map];exact Nat.le_refl _)
    rw[hlo,←hstep] at tl
    simp(disch:=omega)only[go_sem,t1,t3,t4,t5,t6,t7,hlR,hk',Zj]
    exact⟨_,_,_,_,rfl,tl,ydc,ydd,ydi,ydx,yda⟩
 ·rintro s ⟨tm,z3,y,vs,rfl,tl,t1,t3,t4,t5,t6⟩
  rw[hall] at tl
  have s3:=tl.o.1
  simp(disch:=omega)only[go_sem,t1,t3,t4,t5,t6,hlT,Int.lt_irrefl]
  exact q _ _ (s02.trans s3) (tl.rd (by rw[←hall];have:=hlen T.length;omega) s02.next)
end Go.Ab.Tryz
namespace Go.Ab.Tryz
open Go.Proofs
structure InT (a:At)(t:TT):Prop where
 l:LenT a t
 m:∀x∈t.2.2,0≤x∧x≤240
 r:∀(k:Nat) s g,t.1[k]? =some s→t.2.1[k]? =some g→Wy s g
theorem allT_in {a:At}(r:Zl a){t:TT}(h:t∈allT a):InT a t:=by
 obtain⟨l,tr⟩:=(allT_mem r).1 h
 have he:=r.evs
 have hm:=r.mins
 refine⟨l,fun x hx=>?_,fun k s g h1 h2=>(tr.run k (s,g) (Wa.2 ⟨h1,h2⟩)).run r⟩
 obtain⟨i,hi,rfl⟩:=List.mem_iff_getElem.1 hx
 have l3:=l.2.2
 have:=tr.mins i yde
 rw[XG (List.getElem?_eq_getElem hi)] at this
 omega
theorem fitT_in {a:At}(r:Zl a){t:TT}(h:t∈Yf a):InT a t:=allT_in r (List.mem_filter.1 h).1
theorem allT_len (a:At):(allT a).length≤(a.mins.toNat+1)^a.evs.toNat*Yh a.cks:=by
 have:=uptoT_len (a:=a) (T:=ZN a a.evs.toNat) (RR:=Xv a.cks) (ZN a a.evs.toNat).length
 rw[uptoT_all,XX,runsL_len] at this
 exact this
theorem fitT_len (a:At):(Yf a).length≤(a.mins.toNat+1)^a.evs.toNat*Yh a.cks:=Nat.le_trans (List.length_filter_le ..) (allT_len a)
set_option maxHeartbeats 4000000 in
theorem Fitting_ev {h:H}(hw:h.wf){a:At}{C R G:V}(x:ZP h C R G a)(r:Zl a){y0:V}{n:Nat}(ty:TR n h y0 (allT a))(hn:n≤h.next)(hl:(allT a).length≤100000)(Q:V→H→Prop)(q:∀y h',h.Sub h'→TR n h' y (Yf a)→Q y h'):
  Ev fnG Zi (.fn 55 [] []) [.agg (atV a C R G),y0] h Q:=by
 have oC:=x.c.one;have oR:=x.r.one;have oG:=x.g.one
 have oy:=ty.one
 refine Ze (fd:=c55) rfl rfl rfl ?_
 obtain⟨z,hz⟩:∃z,h.add (.bk (atV a C R G))=z:=⟨_,rfl⟩
 have sz:h.Sub z:=by rw[←hz];exact ydb
 have ga:z.get h.next=some (.bk (atV a C R G)):=by rw[←hz];exact Zc rfl
 simp(disch:=omega)only[c55,go_sem,oC,oR,oG]
 rw[hz]
 clear hz
 have hlA:=ty.lenE
 have hin:=fun t (ht:t∈allT a)=>allT_in r ht
 have hst:∀i (hi:i<(allT a).length),((allT a).take (i+1)).filter (fun t=>decide (Xo a t=0))=((allT a).take i).filter (fun t=>decide (Xo a t=0))++if Xo a (allT a)[i]=0 then[(allT a)[i]] else[]:=fun i hi=>by
  rw[List.take_add_one,List.getElem?_eq_getElem hi,List.filter_append]
  congr 1
  simp only[Option.toList_some,List.filter_cons,List.filter_nil,decide_eq_true_eq]
 have hfl:∀i,(((allT a).take i).filter (fun t=>decide (Xo a t=0))).length≤100000:=fun i=>Nat.le_trans (List.length_filter_le ..) (by rw[List.length_take];omega)
 have hfin:((allT a).take (allT a).length).filter (fun t=>decide (Xo a t=0))=Yf a:=by rw[List.take_length];rfl
 generalize allT a=A at *
 refine Zk A.length (fun i s=>∃tm z2 y vs,s=⟨tm,z2,[]⟩∧TL n z z2 y ((A.take i).filter fun t=>decide (Xo a t=0)) vs∧tm.E 1=y0∧tm.E 2=.ptr h.next 0∧tm.E 5=y∧tm.E 6=.ii (i:Int)) ?_ ?_ (i:=0) (Nat.zero_le _)
  ⟨_,_,_,_,rfl,TL.nil (H.Sub.refl sz.wf),yda,yda,yda,yda⟩
 ·rintro i s hi ⟨tm,z2,y,vs,rfl,tl,t1,t2,t5,t6⟩
  have hi':(i:Int)<(A.length:Int):=by omega
  have s2:=tl.o.1
  have s02:=sz.trans s2
  obtain⟨bb,o,cs,v,hc,hq,hg,hn0,hn1,hn2,hv,hu⟩:=(ty.mono s02).at_ hi
  have hti:=hin _ (List.getElem_mem hi)
  have hs:=hst i hi
  have hfi:=hfl i
  generalize A[i]=t at hv hti hs
  obtain⟨ss,gg,tt⟩:=t
  obtain⟨S,Ga,Tm⟩:=v
  obtain⟨l1,l2,l3⟩:=hti.l
  simp only[row3] at hg
  have oS:=hv.s.one;have oGa:=hv.g.one;have oT:=hv.t.one
  simp only at oS oGa oT
  have hrow:=hv.one
  simp(disch:=omega)only[go_sem,t1,t2,t5,t6,hlA,hi',hq (Zb i),hc,hg,Za (s2.get ga),oC,oR,oG]
  refine Missed_ev s02.wf (x.mono s02) r hv l1 l2 l3 hti.m hti.r _ fun z3 s3=>?_
  have tl3:=tl.mono s3
  have hv3:=hv.mono s3
  by_cases hm:Vo a ss gg tt=0
  ·rw[show Xo a (ss,gg,tt)=Vo a ss gg tt from rfl,if_pos hm] at hs
   simp(disch:=omega)only[go_sem,t1,t2,t5,t6,hm,hq (Zb i),hc,s3.cells hc,hg,Za (s2.get ga),Za ((s2.trans s3).get ga),oC,oR,oG,oS,oGa,oT]
   have sA:=(H.Sub.refl s3.wf).add (.bk [S,Ga,Tm])
   refine(tl3.mono sA).push sz.wf yde (v:=(S,Ga,Tm)) (t:=(ss,gg,tt)) (Zg.new _ rfl rfl (by simp[row3]) (by simp[row3]) ydA) (hv3.mono sA) hu fun y5 z5 l5 _=>?_
   simp(disch:=omega)only[go_sem,t1,t2,t5,t6,Zj]
   exact⟨_,_,_,_,rfl,by rw[hs];exact l5,ydc,ydf,yda,yda⟩
  ·rw[show Xo a (ss,gg,tt)=Vo a ss gg tt from rfl,if_neg hm] at hs
   simp(disch:=omega)only[go_sem,t1,t2,t5,t6,hm,hq (Zb i),hc,s3.cells hc,hg,Za (s2.get ga),Za ((s2.trans s3).get ga),oC,oR,oG,Zj]
   exact⟨_,_,_,_,rfl,by rw[hs];simpa using tl3,ydc,ydf,ydx,yda⟩
 ·rintro s ⟨tm,z2,y,vs,rfl,tl,t1,t2,t5,t6⟩
  rw[hfin] at tl
  have s2:=tl.o.1
  simp(disch:=omega)only[go_sem,t1,t2,t5,t6,hlA,Int.lt_irrefl]
  exact q _ _ (sz.trans s2) (tl.rd (by rw[←hfin];have:=hfl A.length;omega) (Nat.le_trans hn sz.next))
end Go.Ab.Tryz
namespace Go.Ab.Tryz
open Go.Proofs
theorem dec_nat0 (i:Nat):decide ((i:Int)=0)=decide (i=0):=by
 rw[Bool.eq_iff_iff];simp only[decide_eq_true_eq];omega
theorem Vg {a:At}{t:TT}(k:InT a t){e:Nat}(he:(e:Int)<a.evs):∃he':e<t.2.2.length,Zr t.2.2 e=t.2.2[e]∧0≤t.2.2[e]∧t.2.2[e]≤240:=by
 have:=k.l.2.2
 have h1:e<t.2.2.length:=by omega
 exact⟨h1,XG (List.getElem?_eq_getElem h1),k.m _ (List.getElem_mem h1)⟩
set_option maxHeartbeats 4000000 in
theorem refTime_ev {h:H}(hw:h.wf){a:At}{y0:V}{n:Nat}{L:List TT}(ty:TR n h y0 L)(hL:∀t∈L,InT a t)(hl:L.length≤100000){f:Nat}(hf:(f:Int)<a.evs)(Q:V→H→Prop)
  (q:∀h',h.Sub h'→Q (spV (ZX (L.map fun x=>Zr x.2.2 f))) h'):Ev fnG Zi (.fn 58 [] []) [y0,.ii (f:Int)] h Q:=by
 have hlL:=ty.lenE
 obtain⟨Wd,hWd⟩:∃Wd:List Int,L.map (fun x=>Zr x.2.2 f)=Wd:=⟨_,rfl⟩
 have hWl:Wd.length=L.length:=by rw[←hWd,List.length_map]
 have s1:h.Sub (h.add (.bk [.ii 0,.ii 0])):=(H.Sub.refl hw).add _
 have s2:h.Sub ((h.add (.bk [.ii 0,.ii 0])).add (.bk [.ii 0,.ii 0])):=s1.add _
 refine Ze (fd:=c58) rfl rfl rfl ?_
 simp(disch:=omega)only[c58,go_sem]
 refine Zk L.length (fun i s=>∃tm h',s=⟨tm,h',[]⟩∧h.Sub h'∧h.next+1<h'.next∧h'.get h.next=some (.bk [.ii 0,.ii 0])∧h'.get (h.next+1)=some (.bk [.ii (ZX (Wd.take i)).1,.ii (ZX (Wd.take i)).2])∧
   tm.E 0=y0∧tm.E 1=.ii (f:Int)∧tm.E 4=.ptr h.next 0∧tm.E 5=.ptr (h.next+1) 0∧tm.E 6=.ii (i:Int)) ?_ ?_ (i:=0) (Nat.zero_le _)
  ⟨_,_,rfl,ydb,by simp only[H.next_add];omega,by simp -implicitDefEqProofs(disch:=first|omega|simp only[nZ]<;>omega|fail)only[go_sem],by rw[List.take_zero];simp -implicitDefEqProofs(disch:=first|omega|simp only[nZ]<;>omega|fail)only[go_sem,ZX],yda,yda,yda,yda,yda⟩
 ·rintro i s hi ⟨tm,h1,rfl,sh,nx,g6,g7,e0,e1,er,eo,ei⟩
  have hi':(i:Int)<(L.length:Int):=by omega
  have hw1:=sh.wf
  have hiW:i<Wd.length:=by omega
  obtain⟨bb,oo,cs,v,hc,hq,hg,hn0,hn1,hn2,hv,_⟩:=(ty.mono sh).at_ hi
  have hti:=hL _ (List.getElem_mem hi)
  have hst:=Ua hiW
  have hWi:Wd[i]=(fun x:TT=>Zr x.2.2 f) L[i]:=by simp only[←hWd,List.getElem_map]
  rw[hWi] at hst
  generalize L[i]=t at hv hti hst
  simp only at hst
  obtain⟨l1,v1,lo1,hi1⟩:=Vg hti hf
  obtain⟨b1,o1,k1,cs1,_,hc1,hq1,_,_,m1⟩:=(hv.t.mono (H.Sub.refl hw1)).at l1
  have m1:=m1 ydy
  simp only[encI,List.getElem?_cons_zero] at m1
  rw[v1] at hst
  generalize t.2.2[f]=x1 at m1 hst lo1 hi1
  simp(disch:=omega)only[go_sem,e0,e1,er,eo,ei,hlL,hi',hq (Zb i),hc,hn0,hn1,hn2,Za g7,hq1 (Zb f),hc1,m1]
  refine wider_ev sh.wf (ZX (Wd.take i)) _ _ _ fun h2 s2'=>?_
  have s12:=s2'
  have n2:=s12.next
  rw[dec_nat0,←hst]
  simp(disch:=omega)only[go_sem,e0,e1,er,eo,ei,hlL,hq (Zb i),hc,s12.cells hc,hn0,hn1,hn2,Za g7,Za (s12.get g7),s12.get g7,hq1 (Zb f),hc1,m1,Zj]
  exact⟨_,_,rfl,(sh.trans s12).set yde yde hw _,by rw[H.next_set];omega,by rw[get_set_other yde];exact s12.get g6,by rw[get_set_same rfl],ydt,ydu,ydL,ydM,yda⟩
 ·rintro s ⟨tm,h1,rfl,sh,nx,g6,g7,e0,e1,er,eo,ei⟩
  rw[←hWl,List.take_length,←hWd] at g7
  simp(disch:=omega)only[go_sem,e0,e1,er,eo,ei,hlL,Int.lt_irrefl,Za g6,Za g7,g6,g7]
  exact q _ (sh.set (Nat.le_refl _) yde hw _)
set_option maxHeartbeats 4000000 in
theorem refBetween_ev {h:H}(hw:h.wf){a:At}{y0:V}{n:Nat}{L:List TT}(ty:TR n h y0 L)(hL:∀t∈L,InT a t)(hl:L.length≤100000){f t0:Nat}(hf:(f:Int)<a.evs)(ht:(t0:Int)<a.evs)(Q:V→H→Prop)
  (q:∀h',h.Sub h'→Q (spV (ZX (L.map fun x=>Zr x.2.2 t0-Zr x.2.2 f))) h'):Ev fnG Zi (.fn 59 [] []) [y0,.ii (f:Int),.ii (t0:Int)] h Q:=by
 have hlL:=ty.lenE
 obtain⟨Wd,hWd⟩:∃Wd:List Int,L.map (fun x=>Zr x.2.2 t0-Zr x.2.2 f)=Wd:=⟨_,rfl⟩
 have hWl:Wd.length=L.length:=by rw[←hWd,List.length_map]
 have s1:h.Sub (h.add (.bk [.ii 0,.ii 0])):=(H.Sub.refl hw).add _
 have s2:h.Sub ((h.add (.bk [.ii 0,.ii 0])).add (.bk [.ii 0,.ii 0])):=s1.add _
 refine Ze (fd:=c59) rfl rfl rfl ?_
 simp(disch:=omega)only[c59,go_sem]
 refine Zk L.length (fun i s=>∃tm h',s=⟨tm,h',[]⟩∧h.Sub h'∧h.next+1<h'.next∧h'.get h.next=some (.bk [.ii 0,.ii 0])∧h'.get (h.next+1)=some (.bk [.ii (ZX (Wd.take i)).1,.ii (ZX (Wd.take i)).2])∧
   tm.E 0=y0∧tm.E 1=.ii (f:Int)∧tm.E 2=.ii (t0:Int)∧tm.E 6=.ptr h.next 0∧tm.E 7=.ptr (h.next+1) 0∧tm.E 8=.ii (i:Int)) ?_ ?_ (i:=0) (Nat.zero_le _)
  ⟨_,_,rfl,ydb,by simp only[H.next_add];omega,by simp -implicitDefEqProofs(disch:=first|omega|simp only[nZ]<;>omega|fail)only[go_sem],by rw[List.take_zero];simp -implicitDefEqProofs(disch:=first|omega|simp only[nZ]<;>omega|fail)only[go_sem,ZX],yda,yda,yda,yda,yda,yda⟩
 ·rintro i s hi ⟨tm,h1,rfl,sh,nx,g6,g7,e0,e1,e2,er,eo,ei⟩
  have hi':(i:Int)<(L.length:Int):=by omega
  have hw1:=sh.wf
  have hiW:i<Wd.length:=by omega
  obtain⟨bb,oo,cs,v,hc,hq,hg,hn0,hn1,hn2,hv,_⟩:=(ty.mono sh).at_ hi
  have hti:=hL _ (List.getElem_mem hi)
  have hst:=Ua hiW
  have hWi:Wd[i]=(fun x:TT=>Zr x.2.2 t0-Zr x.2.2 f) L[i]:=by simp only[←hWd,List.getElem_map]
  rw[hWi] at hst
  generalize L[i]=t at hv hti hst
  simp only at hst
  obtain⟨l1,v1,lo1,hi1⟩:=Vg hti hf
  obtain⟨b1,o1,k1,cs1,_,hc1,hq1,_,_,m1⟩:=(hv.t.mono (H.Sub.refl hw1)).at l1
  have m1:=m1 ydy
  simp only[encI,List.getElem?_cons_zero] at m1
  rw[v1] at hst
  generalize t.2.2[f]=x1 at m1 hst lo1 hi1
  obtain⟨l2,v2,lo2,hi2⟩:=Vg hti ht
  obtain⟨b2,o2,k2,cs2,_,hc2,hq2,_,_,m2⟩:=(hv.t.mono (H.Sub.refl hw1)).at l2
  have m2:=m2 ydy
  simp only[encI,List.getElem?_cons_zero] at m2
  rw[v2] at hst
  generalize t.2.2[t0]=x2 at m2 hst lo2 hi2
  have w1:wr .i64 (x2-x1)=x2-x1:=Zo yde yde
  simp(disch:=omega)only[go_sem,e0,e1,e2,er,eo,ei,hlL,hi',hq (Zb i),hc,hn0,hn1,hn2,Za g7,hq1 (Zb f),hc1,m1,hq2 (Zb t0),hc2,m2,w1]
  refine wider_ev sh.wf (ZX (Wd.take i)) _ _ _ fun h2 s2'=>?_
  have s12:=s2'
  have n2:=s12.next
  rw[dec_nat0,←hst]
  simp(disch:=omega)only[go_sem,e0,e1,e2,er,eo,ei,hlL,hq (Zb i),hc,s12.cells hc,hn0,hn1,hn2,Za g7,Za (s12.get g7),s12.get g7,hq1 (Zb f),hc1,m1,hq2 (Zb t0),hc2,m2,w1,Zj]
  exact⟨_,_,rfl,(sh.trans s12).set yde yde hw _,by rw[H.next_set];omega,by rw[get_set_other yde];exact s12.get g6,by rw[get_set_same rfl],ydt,ydu,ydG,ydL,ydM,yda⟩
 ·rintro s ⟨tm,h1,rfl,sh,nx,g6,g7,e0,e1,e2,er,eo,ei⟩
  rw[←hWl,List.take_length,←hWd] at g7
  simp(disch:=omega)only[go_sem,e0,e1,e2,er,eo,ei,hlL,Int.lt_irrefl,Za g6,Za g7,g6,g7]
  exact q _ (sh.set (Nat.le_refl _) yde hw _)
set_option maxHeartbeats 4000000 in
theorem refWages_ev {h:H}(hw:h.wf){a:At}{y0:V}{n:Nat}{L:List TT}(ty:TR n h y0 L)(hL:∀t∈L,InT a t)(hl:L.length≤100000){f t0:Nat}(hf:(f:Int)<a.evs)(ht:(t0:Int)<a.evs){pay:Int}(hp:0≤pay∧pay≤600)(Q:V→H→Prop)
  (q:∀h',h.Sub h'→Q (spV (ZX (L.map fun x=>VC (Zr x.2.2 t0-Zr x.2.2 f) pay))) h'):Ev fnG Zi (.fn 61 [] []) [y0,.ii (f:Int),.ii (t0:Int),.ii pay] h Q:=by
 have hlL:=ty.lenE
 obtain⟨Wd,hWd⟩:∃Wd:List Int,L.map (fun x=>VC (Zr x.2.2 t0-Zr x.2.2 f) pay)=Wd:=⟨_,rfl⟩
 have hWl:Wd.length=L.length:=by rw[←hWd,List.length_map]
 have s1:h.Sub (h.add (.bk [.ii 0,.ii 0])):=(H.Sub.refl hw).add _
 have s2:h.Sub ((h.add (.bk [.ii 0,.ii 0])).add (.bk [.ii 0,.ii 0])):=s1.add _
 refine Ze (fd:=c61) rfl rfl rfl ?_
 simp(disch:=omega)only[c61,go_sem]
 refine Zk L.length (fun i s=>∃tm h',s=⟨tm,h',[]⟩∧h.Sub h'∧h.next+1<h'.next∧h'.get h.next=some (.bk [.ii 0,.ii 0])∧h'.get (h.next+1)=some (.bk [.ii (ZX (Wd.take i)).1,.ii (ZX (Wd.take i)).2])∧
   tm.E 0=y0∧tm.E 1=.ii (f:Int)∧tm.E 2=.ii (t0:Int)∧tm.E 3=.ii pay∧tm.E 8=.ptr h.next 0∧tm.E 9=.ptr (h.next+1) 0∧tm.E 10=.ii (i:Int)) ?_ ?_ (i:=0) (Nat.zero_le _)
  ⟨_,_,rfl,ydb,by simp only[H.next_add];omega,by simp -implicitDefEqProofs(disch:=first|omega|simp only[nZ]<;>omega|fail)only[go_sem],by rw[List.take_zero];simp -implicitDefEqProofs(disch:=first|omega|simp only[nZ]<;>omega|fail)only[go_sem,ZX],yda,yda,yda,yda,yda,yda,yda⟩
 ·rintro i s hi ⟨tm,h1,rfl,sh,nx,g6,g7,e0,e1,e2,e3,er,eo,ei⟩
  have hi':(i:Int)<(L.length:Int):=by omega
  have hw1:=sh.wf
  have hiW:i<Wd.length:=by omega
  obtain⟨bb,oo,cs,v,hc,hq,hg,hn0,hn1,hn2,hv,_⟩:=(ty.mono sh).at_ hi
  have hti:=hL _ (List.getElem_mem hi)
  have hst:=Ua hiW
  have hWi:Wd[i]=(fun x:TT=>VC (Zr x.2.2 t0-Zr x.2.2 f) pay) L[i]:=by simp only[←hWd,List.getElem_map]
  rw[hWi] at hst
  generalize L[i]=t at hv hti hst
  simp only at hst
  obtain⟨l1,v1,lo1,hi1⟩:=Vg hti hf
  obtain⟨b1,o1,k1,cs1,_,hc1,hq1,_,_,m1⟩:=(hv.t.mono (H.Sub.refl hw1)).at l1
  have m1:=m1 ydy
  simp only[encI,List.getElem?_cons_zero] at m1
  rw[v1] at hst
  generalize t.2.2[f]=x1 at m1 hst lo1 hi1
  obtain⟨l2,v2,lo2,hi2⟩:=Vg hti ht
  obtain⟨b2,o2,k2,cs2,_,hc2,hq2,_,_,m2⟩:=(hv.t.mono (H.Sub.refl hw1)).at l2
  have m2:=m2 ydy
  simp only[encI,List.getElem?_cons_zero] at m2
  rw[v2] at hst
  generalize t.2.2[t0]=x2 at m2 hst lo2 hi2
  have w1:wr .i64 (x2-x1)=x2-x1:=Zo yde yde
  have hM0:0≤max 0 (x2-x1)∧max 0 (x2-x1)≤240:=by omega
  have hM:0≤max 0 (x2-x1)*pay∧max 0 (x2-x1)*pay≤144000:=⟨Int.mul_nonneg hM0.1 hp.1,Int.le_trans (Int.mul_le_mul hM0.2 hp.2 hp.1 ydy) ydy⟩
  have w2:wr .i64 (max 0 (x2-x1)*pay)=max 0 (x2-x1)*pay:=Zo yde yde
  have hQ:=Int.tdiv_eq_ediv_of_nonneg (b:=60) hM.1
  have w3:wr .i64 ((max 0 (x2-x1)*pay).tdiv 60)=VC (x2-x1) pay:=by unfold VC;exact Zo yde yde
  simp(disch:=omega)only[go_sem,e0,e1,e2,e3,er,eo,ei,hlL,hi',hq (Zb i),hc,hn0,hn1,hn2,Za g7,hq1 (Zb f),hc1,m1,hq2 (Zb t0),hc2,m2,w1,w2,w3,Yx .i64 (show(60:Int)≠0 by decide)]
  refine wider_ev sh.wf (ZX (Wd.take i)) _ _ _ fun h2 s2'=>?_
  have s12:=s2'
  have n2:=s12.next
  rw[dec_nat0,←hst]
  simp(disch:=omega)only[go_sem,e0,e1,e2,e3,er,eo,ei,hlL,hq (Zb i),hc,s12.cells hc,hn0,hn1,hn2,Za g7,Za (s12.get g7),s12.get g7,hq1 (Zb f),hc1,m1,hq2 (Zb t0),hc2,m2,w1,w2,w3,Yx .i64 (show(60:Int)≠0 by decide),Zj]
  exact⟨_,_,rfl,(sh.trans s12).set yde yde hw _,by rw[H.next_set];omega,by rw[get_set_other yde];exact s12.get g6,by rw[get_set_same rfl],ydt,ydu,ydG,(by simp[Zm,Zd,e3]<;>rfl),ydL,ydM,yda⟩
 ·rintro s ⟨tm,h1,rfl,sh,nx,g6,g7,e0,e1,e2,e3,er,eo,ei⟩
  rw[←hWl,List.take_length,←hWd] at g7
  simp(disch:=omega)only[go_sem,e0,e1,e2,e3,er,eo,ei,hlL,Int.lt_irrefl,Za g6,Za g7,g6,g7]
  exact q _ (sh.set (Nat.le_refl _) yde hw _)
set_option maxHeartbeats 4000000 in
theorem refShows_ev {h:H}(hw:h.wf){a:At}{y0:V}{n:Nat}{L:List TT}(ty:TR n h y0 L)(hL:∀t∈L,InT a t)(hl:L.length≤100000){f k:Nat}(hf:(f:Int)<a.evs)(hk:k<a.cks.length)(Q:V→H→Prop)
  (q:∀h',h.Sub h'→Q (spV (ZX (L.map fun x=>shw (x.1.getD k 0) (x.2.1.getD k 0) (Zr x.2.2 f)))) h'):Ev fnG Zi (.fn 64 [] []) [y0,.ii (k:Int),.ii (f:Int)] h Q:=by
 have hlL:=ty.lenE
 obtain⟨Wd,hWd⟩:∃Wd:List Int,L.map (fun x=>shw (x.1.getD k 0) (x.2.1.getD k 0) (Zr x.2.2 f))=Wd:=⟨_,rfl⟩
 have hWl:Wd.length=L.length:=by rw[←hWd,List.length_map]
 have s1:h.Sub (h.add (.bk [.ii 0,.ii 0])):=(H.Sub.refl hw).add _
 have s2:h.Sub ((h.add (.bk [.ii 0,.ii 0])).add (.bk [.ii 0,.ii 0])):=s1.add _
 refine Ze (fd:=c64) rfl rfl rfl ?_
 simp(disch:=omega)only[c64,go_sem]
 refine Zk L.length (fun i s=>∃tm h',s=⟨tm,h',[]⟩∧h.Sub h'∧h.next+1<h'.next∧h'.get h.next=some (.bk [.ii 0,.ii 0])∧h'.get (h.next+1)=some (.bk [.ii (ZX (Wd.take i)).1,.ii (ZX (Wd.take i)).2])∧
   tm.E 0=y0∧tm.E 1=.ii (k:Int)∧tm.E 2=.ii (f:Int)∧tm.E 6=.ptr h.next 0∧tm.E 7=.ptr (h.next+1) 0∧tm.E 8=.ii (i:Int)) ?_ ?_ (i:=0) (Nat.zero_le _)
  ⟨_,_,rfl,ydb,by simp only[H.next_add];omega,by simp -implicitDefEqProofs(disch:=first|omega|simp only[nZ]<;>omega|fail)only[go_sem],by rw[List.take_zero];simp -implicitDefEqProofs(disch:=first|omega|simp only[nZ]<;>omega|fail)only[go_sem,ZX],yda,yda,yda,yda,yda,yda⟩
 ·rintro i s hi ⟨tm,h1,rfl,sh,nx,g6,g7,e0,e1,e2,er,eo,ei⟩
  have hi':(i:Int)<(L.length:Int):=by omega
  have hw1:=sh.wf
  have hiW:i<Wd.length:=by omega
  obtain⟨bb,oo,cs,v,hc,hq,hg,hn0,hn1,hn2,hv,_⟩:=(ty.mono sh).at_ hi
  have hti:=hL _ (List.getElem_mem hi)
  have hst:=Ua hiW
  have hWi:Wd[i]=(fun x:TT=>shw (x.1.getD k 0) (x.2.1.getD k 0) (Zr x.2.2 f)) L[i]:=by simp only[←hWd,List.getElem_map]
  rw[hWi] at hst
  generalize L[i]=t at hv hti hst
  simp only at hst
  obtain⟨l1,v1,lo1,hi1⟩:=Vg hti hf
  obtain⟨b1,o1,k1,cs1,_,hc1,hq1,_,_,m1⟩:=(hv.t.mono (H.Sub.refl hw1)).at l1
  have m1:=m1 ydy
  simp only[encI,List.getElem?_cons_zero] at m1
  rw[v1] at hst
  generalize t.2.2[f]=x1 at m1 hst lo1 hi1
  obtain⟨l1',l2',l3'⟩:=hti.l
  have lkS:k<t.1.length:=by omega
  have lkG:k<t.2.1.length:=by omega
  have hrn:=hti.r k _ _ (List.getElem?_eq_getElem lkS) (List.getElem?_eq_getElem lkG)
  obtain⟨b2,o2,k2,cs2,_,hc2,hq2,_,_,m2⟩:=(hv.s.mono (H.Sub.refl hw1)).at lkS
  obtain⟨b3,o3,k3,cs3,_,hc3,hq3,_,_,m3⟩:=(hv.g.mono (H.Sub.refl hw1)).at lkG
  have m2:=m2 ydy
  have m3:=m3 ydy
  simp only[encI,List.getElem?_cons_zero] at m2 m3
  rw[getD_at lkS,getD_at lkG] at hst
  generalize t.1[k]=x2 at m2 hst hrn
  generalize t.2.1[k]=x3 at m3 hst hrn
  simp(disch:=omega)only[go_sem,e0,e1,e2,er,eo,ei,hlL,hi',hq (Zb i),hc,hn0,hn1,hn2,Za g7,hq1 (Zb f),hc1,m1,hq2 (Zb k),hc2,m2,hq3 (Zb k),hc3,m3]
  refine Vj hw1 hrn lo1 hi1 _ ?_
  simp(disch:=omega)only[go_sem,e0,e1,e2,er,eo,ei,hlL,hq (Zb i),hc,hn0,hn1,hn2,Za g7,hq1 (Zb f),hc1,m1,hq2 (Zb k),hc2,m2,hq3 (Zb k),hc3,m3]
  refine wider_ev sh.wf (ZX (Wd.take i)) _ _ _ fun h2 s2'=>?_
  have s12:=s2'
  have n2:=s12.next
  rw[dec_nat0,←hst]
  simp(disch:=omega)only[go_sem,e0,e1,e2,er,eo,ei,hlL,hq (Zb i),hc,s12.cells hc,hn0,hn1,hn2,Za g7,Za (s12.get g7),s12.get g7,hq1 (Zb f),hc1,m1,hq2 (Zb k),hc2,m2,hq3 (Zb k),hc3,m3,Zj]
  exact⟨_,_,rfl,(sh.trans s12).set yde yde hw _,by rw[H.next_set];omega,by rw[get_set_other yde];exact s12.get g6,by rw[get_set_same rfl],ydt,ydu,ydG,ydL,ydM,yda⟩
 ·rintro s ⟨tm,h1,rfl,sh,nx,g6,g7,e0,e1,e2,er,eo,ei⟩
  rw[←hWl,List.take_length,←hWd] at g7
  simp(disch:=omega)only[go_sem,e0,e1,e2,er,eo,ei,hlL,Int.lt_irrefl,Za g6,Za g7,g6,g7]
  exact q _ (sh.set (Nat.le_refl _) yde hw _)
end Go.Ab.Tryz
namespace Go.Ab.Tryz
open Go.Proofs
set_option maxHeartbeats 4000000 in
theorem refBefore_ev {h:H}(hw:h.wf){a:At}{y0:V}{n:Nat}{L:List TT}(ty:TR n h y0 L)(hL:∀t∈L,InT a t)(hl:L.length≤100000){f t0:Nat}(hf:(f:Int)<a.evs)(ht:(t0:Int)<a.evs)(Q:V→H→Prop)(q:Q (.ii (befT L f t0)) h):
  Ev fnG Zi (.fn 60 [] []) [y0,.ii (f:Int),.ii (t0:Int)] h Q:=by
 have hlL:=ty.lenE
 refine Ze (fd:=c60) rfl rfl rfl ?_
 simp(disch:=omega)only[c60,go_sem]
 refine Zk L.length (fun i s=>∃tm,s=⟨tm,h,[]⟩∧tm.E 0=y0∧tm.E 1=.ii (f:Int)∧tm.E 2=.ii (t0:Int)∧tm.E 7=.ii (((L.take i).countP (fun x=>decide (Zr x.2.2 f<Zr x.2.2 t0)):Nat):Int)∧tm.E 8=.ii (i:Int)) ?_ ?_ (i:=0) (Nat.zero_le _)
  ⟨_,rfl,yda,yda,yda,by rw[List.take_zero,List.countP_nil];exact yda,yda⟩
 ·rintro i s hi ⟨tm,rfl,e0,e1,e2,e7,e8⟩
  have hi':(i:Int)<(L.length:Int):=by omega
  obtain⟨bb,oo,cs,v,hc,hq,hg,hn0,hn1,hn2,hv,_⟩:=ty.at_ hi
  have hti:=hL _ (List.getElem_mem hi)
  have hst:(L.take (i+1)).countP (fun x=>decide (Zr x.2.2 f<Zr x.2.2 t0))=(L.take i).countP (fun x=>decide (Zr x.2.2 f<Zr x.2.2 t0))+if Zr L[i].2.2 f<Zr L[i].2.2 t0 then 1 else 0:=by
   rw[take_at hi,List.countP_append]
   congr 1
   simp only[List.countP_cons,List.countP_nil,decide_eq_true_eq]
   omega
  have hcl:=List.countP_le_length (p:=fun x:TT=>decide (Zr x.2.2 f<Zr x.2.2 t0)) (l:=L.take i)
  rw[List.length_take] at hcl
  generalize L[i]=t at hv hti hst
  generalize(L.take i).countP (fun x=>decide (Zr x.2.2 f<Zr x.2.2 t0))=n at hst hcl e7
  obtain⟨l1,v1,lo1,hi1⟩:=Vg hti hf
  obtain⟨b1,o1,k1,cs1,_,hc1,hq1,_,_,m1⟩:=hv.t.at l1
  have m1:=m1 ydy
  obtain⟨l2,v2,lo2,hi2⟩:=Vg hti ht
  obtain⟨b2,o2,k2,cs2,_,hc2,hq2,_,_,m2⟩:=hv.t.at l2
  have m2:=m2 ydy
  simp only[encI,List.getElem?_cons_zero] at m1 m2
  rw[v1,v2] at hst
  generalize t.2.2[f]=x1 at m1 hst
  generalize t.2.2[t0]=x2 at m2 hst
  have wn:wr .i64 ((n:Int)+1)=((n+1:Nat):Int):=by rw[Zo yde yde];omega
  by_cases hx:x1<x2
  ·rw[if_pos hx] at hst
   simp(disch:=omega)only[go_sem,e0,e1,e2,e7,e8,hlL,hi',hq (Zb i),hc,hn0,hn1,hn2,hq1 (Zb f),hc1,m1,hq2 (Zb t0),hc2,m2,hx,wn,Zj]
   exact⟨_,rfl,ydt,ydu,ydG,by rw[hst];exact yda,yda⟩
  ·rw[if_neg hx] at hst
   simp(disch:=omega)only[go_sem,e0,e1,e2,e7,e8,hlL,hi',hq (Zb i),hc,hn0,hn1,hn2,hq1 (Zb f),hc1,m1,hq2 (Zb t0),hc2,m2,hx,Zj]
   exact⟨_,rfl,ydt,ydu,ydG,by rw[hst];exact ydH,yda⟩
 ·rintro s ⟨tm,rfl,e0,e1,e2,e7,e8⟩
  rw[List.take_length] at e7
  unfold befT at q
  generalize L.countP (fun x=>decide (Zr x.2.2 f<Zr x.2.2 t0))=n at q e7
  by_cases h1:n=L.length
  ·rw[if_pos h1] at q
   have h1':(n:Int)=(L.length:Int):=by omega
   simp(disch:=omega)only[go_sem,e0,e1,e2,e7,e8,hlL,Int.lt_irrefl,h1']
   exact q
  ·rw[if_neg h1] at q
   have h1':¬(n:Int)=(L.length:Int):=by omega
   by_cases h2:n=0
   ·rw[if_pos h2] at q
    have h2':(n:Int)=0:=by omega
    rw[h2'] at h1' e7
    simp(disch:=omega)only[go_sem,e0,e1,e2,e7,e8,hlL,Int.lt_irrefl,h1',decide_true]
    exact q
   ·rw[if_neg h2] at q
    have h2':¬(n:Int)=0:=by omega
    simp(disch:=omega)only[go_sem,e0,e1,e2,e7,e8,hlL,Int.lt_irrefl,h1',h2']
    exact q
theorem setsN_step (l:List TT)(of:TT→Int)(i:Nat):setsN l of (i+1)=setsN l of i++if(l.any fun t=>decide (of t=(i:Int)-60))=true then[(i:Int)-60] else[]:=by
 unfold setsN
 rw[List.range_succ,List.map_append,List.filter_append]
 congr 1
 simp only[List.map_cons,List.map_nil,List.filter_cons,List.filter_nil]
theorem setsN_len (l:List TT)(of:TT→Int)(i:Nat):(setsN l of i).length≤i:=by
 unfold setsN
 refine Nat.le_trans (List.length_filter_le ..) ?_
 rw[List.length_map,List.length_range];exact Nat.le_refl _
theorem any_take {α:Type}{l:List α}{p:α→Bool}{j:Nat}(h:j<l.length):(l.take (j+1)).any p=((l.take j).any p||p l[j]):=by
 rw[take_at h,List.any_append];simp
set_option maxHeartbeats 8000000 in
theorem refRuns_ev {h:H}(hw:h.wf){a:At}{y0:V}{n:Nat}{L:List TT}(ty:TR n h y0 L)(hL:∀t∈L,InT a t)(hl:L.length≤100000){k:Nat}(hk:k<a.cks.length)(Q:V→H→Prop)
  (q:∀y1 y2 h',h.Sub h'→Zg h' y1 1 ((setsT L fun t=>t.1.getD k 0).map encI)→Zg h' y2 1 ((setsT L fun t=>t.2.1.getD k 0).map encI)→Up h.next y1→Up h.next y2→Q (.tup [y1,y2]) h'):
  Ev fnG Zi (.fn 63 [] []) [y0,.ii (k:Int)] h Q:=by
 have hlL:=ty.lenE
 obtain⟨p1,hp1⟩:∃p1:TT→Int,(fun t:TT=>t.1.getD k 0)=p1:=⟨_,rfl⟩
 obtain⟨p2,hp2⟩:∃p2:TT→Int,(fun t:TT=>t.2.1.getD k 0)=p2:=⟨_,rfl⟩
 rw[hp1,hp2] at q
 refine Ze (fd:=c63) rfl rfl rfl ?_
 simp(disch:=omega)only[c63,go_sem]
 refine Zk 121 (fun i s=>∃tm z S G,s=⟨tm,z,[]⟩∧Zx h z S 1 ((setsN L p1 i).map encI)∧Zx h z G 1 ((setsN L p2 i).map encI)∧(∀b,Zq S b→¬Zq G b)∧
   tm.E 0=y0∧tm.E 1=.ii (k:Int)∧tm.E 6=S∧tm.E 7=G∧tm.E 8=.ii ((i:Int)-60)) ?_ ?_ (i:=0) (Nat.zero_le _)
  ⟨_,_,_,_,rfl,Zx.nil (H.Sub.refl hw) 1,Zx.nil (H.Sub.refl hw) 1,fun b hb=>(Zy hb).elim,yda,yda,yda,yda,yda⟩
 ·rintro i s hi ⟨tm,z,S,G,rfl,oS,oG,dj,e0,e1,e6,e7,e8⟩
  have hi':(i:Int)-60≤60:=by omega
  have sz:=oS.1
  simp(disch:=omega)only[go_sem,e0,e1,e6,e7,e8,hi']
  refine Zk L.length (fun j s=>∃tm,s=⟨tm,z,[]⟩∧tm.E 0=y0∧tm.E 1=.ii (k:Int)∧tm.E 6=S∧tm.E 7=G∧tm.E 8=.ii ((i:Int)-60)∧
    tm.E 9=.bool ((L.take j).any fun t=>decide (p1 t=(i:Int)-60))∧tm.E 10=.bool ((L.take j).any fun t=>decide (p2 t=(i:Int)-60))∧tm.E 11=.ii (j:Int)) ?_ ?_ (i:=0) (Nat.zero_le _)
   ⟨_,rfl,ydt,ydu,ydN,ydH,(by simp[Zm,Zd,e8]<;>rfl),by rw[List.take_zero,List.any_nil];exact yda,by rw[List.take_zero,List.any_nil];exact yda,yda⟩
  ·clear e0 e1 e6 e7 e8
   rintro j s hj ⟨tm,rfl,e0,e1,e6,e7,e8,e9,e10,e11⟩
   have hj':(j:Int)<(L.length:Int):=by omega
   obtain⟨bb,oo,cs,v,hc,hq,hg,hn0,hn1,hn2,hv,_⟩:=(ty.mono sz).at_ hj
   have hti:=hL _ (List.getElem_mem hj)
   have st1:=any_take (p:=fun t:TT=>decide (p1 t=(i:Int)-60)) hj
   have st2:=any_take (p:=fun t:TT=>decide (p2 t=(i:Int)-60)) hj
   simp only[←hp1] at st1 e9
   simp only[←hp2] at st2 e10
   generalize L[j]=t at hv hti st1 st2
   obtain⟨l1,l2,l3⟩:=hti.l
   have lkS:k<t.1.length:=by omega
   have lkG:k<t.2.1.length:=by omega
   obtain⟨b2,o2,k2,cs2,_,hc2,hq2,_,_,m2⟩:=hv.s.at lkS
   obtain⟨b3,o3,k3,cs3,_,hc3,hq3,_,_,m3⟩:=hv.g.at lkG
   have m2:=m2 ydy
   have m3:=m3 ydy
   simp only[encI,List.getElem?_cons_zero] at m2 m3
   rw[getD_at lkS] at st1
   rw[getD_at lkG] at st2
   generalize t.1[k]=x2 at m2 st1
   generalize t.2.1[k]=x3 at m3 st2
   simp only[←hp1,←hp2]
   rw[st1,st2]
   generalize((L.take j).any fun t=>decide (t.1.getD k 0=(i:Int)-60))=f1 at e9 st1
   generalize((L.take j).any fun t=>decide (t.2.1.getD k 0=(i:Int)-60))=f2 at e10 st2
   cases f1<;>cases f2<;>
   ·simp(disch:=omega)only[go_sem,e0,e1,e6,e7,e8,e9,e10,e11,hlL,hj',hq (Zb j),hc,hn0,hn1,hn2,hq2 (Zb k),hc2,m2,hq3 (Zb k),hc3,m3,Zj]
    exact⟨_,rfl,ydt,ydu,ydN,ydH,(by simp[Zm,Zd,e8]<;>rfl),by simp only[Bool.false_or,Bool.true_or];exact yda,by simp only[Bool.false_or,Bool.true_or];exact yda,yda⟩
  ·clear e0 e1 e6 e7 e8
   rintro s ⟨tm,rfl,e0,e1,e6,e7,e8,e9,e10,e11⟩
   rw[List.take_length] at e9 e10
   have t1:=setsN_step L p1 i
   have t2:=setsN_step L p2 i
   have u1:=setsN_len L p1 i
   have u2:=setsN_len L p2 i
   generalize(L.any fun t=>decide (p1 t=(i:Int)-60))=f1 at e9 t1
   generalize(L.any fun t=>decide (p2 t=(i:Int)-60))=f2 at e10 t2
   have w8:wr .i64 ((i:Int)-60+1)=((i+1:Nat):Int)-60:=by rw[Zo yde yde];omega
   rw[t1,t2]
   cases f1 with
   |false=>
    cases f2 with
    |false=>
     simp(disch:=omega)only[go_sem,e0,e1,e6,e7,e8,e9,e10,e11,hlL,Int.lt_irrefl,w8]
     exact⟨_,_,S,G,rfl,by simpa using oS,by simpa using oG,dj,ydt,ydu,ydN,ydH,yda⟩
    |true=>
     simp(disch:=omega)only[go_sem,e0,e1,e6,e7,e8,e9,e10,e11,hlL,Int.lt_irrefl]
     refine Ug hw oG yde fun G' z' oG' nb kk=>?_
     have oS':=oS.keep kk oG'.1 fun b hb hg=>dj b hb hg
     simp(disch:=omega)only[go_sem,e0,e1,e6,e7,e8,e9,e10,e11,w8]
     exact⟨_,_,S,G',rfl,by simpa using oS',by simpa using oG',fun b hb hg=>by have:=nb b hg;have:=(oS.blk hb).2.1;omega,ydt,ydu,ydN,yda,yda⟩
   |true=>
    simp(disch:=omega)only[go_sem,e0,e1,e6,e7,e8,e9,e10,e11,hlL,Int.lt_irrefl]
    refine Ug hw oS yde fun S' z' oS' nb kk=>?_
    have oG':=oG.keep kk oS'.1 fun b hb hg=>dj b hg hb
    have dj':∀b,Zq S' b→¬Zq G b:=fun b hb hg=>by have:=nb b hb;have:=(oG.blk hg).2.1;omega
    cases f2 with
    |false=>
     simp(disch:=omega)only[go_sem,e0,e1,e6,e7,e8,e9,e10,e11,w8]
     exact⟨_,_,S',G,rfl,by simpa using oS',by simpa using oG',dj',ydt,ydu,yda,ydH,yda⟩
    |true=>
     simp(disch:=omega)only[go_sem,e0,e1,e6,e7,e8,e9,e10,e11]
     refine Ug hw oG' yde fun G' z2 oG2 nb2 kk2=>?_
     have oS2:=oS'.keep kk2 oG2.1 fun b hb hg=>dj' b hb hg
     simp(disch:=omega)only[go_sem,e0,e1,e6,e7,e8,e9,e10,e11,w8]
     exact⟨_,_,S',G',rfl,by simpa using oS2,by simpa using oG2,fun b hb hg=>by have:=nb2 b hg;have:=(oS'.blk hb).2.1;omega,ydt,ydu,yda,yda,yda⟩
 ·rintro s ⟨tm,z,S,G,rfl,oS,oG,dj,e0,e1,e6,e7,e8⟩
  have hi':¬((121:Nat):Int)-60≤60:=by omega
  have u1:=setsN_len L p1 121
  have u2:=setsN_len L p2 121
  simp(disch:=omega)only[go_sem,e0,e1,e6,e7,e8,hi']
  exact q _ _ _ oS.1 (oS.c.sl ydw) (oG.c.sl ydw) (ownUp oS) (ownUp oG)
end Go.Ab.Tryz
namespace Go.Ab
def rowB (f:Nat→Bool)(n:Nat):List V:=(List.range n).map fun j=>.bool (f j)
theorem rowB_len (f:Nat→Bool)(n:Nat):(rowB f n).length=n:=by simp[rowB]
theorem rowB_nth {f:Nat→Bool}{n j:Nat}(h:j<n):nth j (rowB f n)=some (.bool (f j)):=by
 rw[nth_get];simp[rowB,h]
theorem rowB_put {f:Nat→Bool}{n j:Nat}(h:j<n)(b:Bool):Ye j [.bool b] (rowB f n)=some (rowB (fun i=>if i=j then b else f i) n):=by
 have hl:=rowB_len f n
 have e:(rowB f n).set j (.bool b)=(rowB f n).take j++[.bool b]++(rowB f n).drop (j+1):=by
  rw[List.set_eq_take_append_cons_drop,if_pos yde,List.append_assoc];rfl
 refine(putN_eq ydA).2 ⟨?_,by rw[hl];exact h⟩
 show _=(rowB f n).take j++[.bool b]++(rowB f n).drop (j+1)
 rw[←e]
 refine List.ext_getElem (by simp[rowB]) fun i h1 h2=>?_
 rw[List.getElem_set]
 simp only[rowB,List.getElem_map,List.getElem_range]
 by_cases c:j=i
 ·subst c;simp
 ·rw[if_neg (fun e=>c e.symm),if_neg c]
theorem repN_false (n:Nat):YB n [.bool false]=rowB (fun _=>false) n:=by
 induction n with
 |zero=>rfl
 |succ n ih=>
  have:rowB (fun _=>false) (n+1)=[.bool false]++rowB (fun _=>false) n:=by
   simp only[rowB,List.range_succ_eq_map,List.map_cons,List.map_map];rfl
  rw[this,←ih];simp only[YB,Ym]
namespace Tryz
open Go.Proofs
open Go.Ab.Silk (Inc ZM WN Xs YS before Z8 Vd)
theorem sAt_far {s:Int}(h0:0≤s)(h1:s<256){i:Nat}(h:8≤i):sAt s i=0:=by
 have:=sAt_zero 8 h0 (by simpa using h1)
 exact(VP this i h).2
theorem bit_far {a:Int}{i j:Nat}(h:sAt a i=0)(hij:i≤j):ZV a j=false:=by
 unfold ZV
 rw[(VP h j hij).2];rfl
theorem bitI_stop {f:Nat→Bool}{i:Nat}(h:∀j,i≤j→f j=false):∀{n:Nat},i≤n→ZG f n=ZG f i
 |0,hn=>by rw[show i=0 by omega]
 |n+1,hn=>by
  by_cases e:i=n+1
  ·rw[e]
  ·rw[ZG,h n yde,bitI_stop h yde];simp
set_option maxHeartbeats 4000000 in
theorem common_ev {h:H}{a b:Int}(a0:0≤a)(a1:a<256)(b0:0≤b)(b1:b<256)(Q:V→H→Prop):Ev fnG Zi (.fn 150 [] []) [.ii a,.ii b] h Q=Q (.ii (commI a b)) h:=by
 refine Ev.det (Ze (fd:=c150) rfl rfl rfl ?_) Q
 simp(disch:=omega)only[c150,go_sem]
 refine W_loop (fun k s=>∃tm i,s=⟨tm,h,[]⟩∧k=(sAt a i).toNat∧i≤8∧tm.E 0=.ii (sAt a i)∧tm.E 1=.ii (sAt b i)∧tm.E 5=.ii (ZG (fun k=>ZV a k&&ZV b k) i)∧tm.E 6=.ii (2^i)) ?_ (sAt a 0).toNat _
  ⟨_,0,rfl,rfl,by omega,yda,yda,yda,yda⟩
 rintro k s ⟨tm,i,rfl,rfl,hi8,t0,t1,t5,t6⟩
 have n0:=sAt_nn a0 i
 have n1:=sAt_le a0 i
 have m0:=sAt_nn b0 i
 have m1:=sAt_le b0 i
 have fin:sAt a i=0∨sAt b i=0→ZG (fun k=>ZV a k&&ZV b k) i=commI a b:=fun hz=>by
  unfold commI
  refine(bitI_stop (fun j hj=>?_) hi8).symm
  rcases hz with hz|hz
  ·rw[bit_far hz hj];rfl
  ·rw[bit_far hz hj];simp
 by_cases hz:sAt a i=0
 ·have hnl:¬(0:Int)<sAt a i:=by omega
  simp(disch:=omega)only[go_sem,t0,t1,t5,t6,hnl]
  rw[fin (.inl hz)]
  try exact⟨rfl,rfl⟩
 have hp:(0:Int)<sAt a i:=by omega
 by_cases hy:sAt b i=0
 ·have hnl:¬(0:Int)<sAt b i:=by omega
  simp(disch:=omega)only[go_sem,t0,t1,t5,t6,hp,hnl]
  rw[fin (.inr hy)]
  try exact⟨rfl,rfl⟩
 have hq:(0:Int)<sAt b i:=by omega
 have hi:i<8:=Nat.lt_of_not_le fun hc=>hz (sAt_far a0 a1 hc)
 have e1:(sAt a i).tmod 2=sAt a i%2:=Int.tmod_eq_emod_of_nonneg n0
 have e2:(sAt b i).tmod 2=sAt b i%2:=Int.tmod_eq_emod_of_nonneg m0
 have d1:wr .i64 ((sAt a i).tdiv 2)=sAt a (i+1):=by
  rw[Int.tdiv_eq_ediv_of_nonneg n0,Zo yde yde];rfl
 have d2:wr .i64 ((sAt b i).tdiv 2)=sAt b (i+1):=by
  rw[Int.tdiv_eq_ediv_of_nonneg m0,Zo yde yde];rfl
 have hlt:(sAt a (i+1)).toNat<(sAt a i).toNat:=by simp only[sAt];omega
 have hpw:=pow8 (i:=i) yde
 have e3:(2:Int)^(i+1)=2*2^i:=by rw[Int.pow_succ];omega
 have w6:wr .i64 (2*2^i)=2^(i+1):=by rw[e3];exact Zo yde yde
 have hbd:=WC (fun k=>ZV a k&&ZV b k) i
 have w5:wr .i64 (ZG (fun k=>ZV a k&&ZV b k) i+2^i)=ZG (fun k=>ZV a k&&ZV b k) i+2^i:=Zo yde yde
 have q2:=Z1 .i64 (a:=sAt a i) (show(2:Int)≠0 by decide)
 have st:ZG (fun k=>ZV a k&&ZV b k) (i+1)=ZG (fun k=>ZV a k&&ZV b k) i+if(ZV a i&&ZV b i)=true then 2^i else 0:=rfl
 cases ha:ZV a i with
 |false=>
  have hc:¬sAt a i%2=1:=by unfold ZV at ha;simpa using ha
  rw[ha] at st
  simp(disch:=omega)only[go_sem,t0,t1,t5,t6,hp,hq,Z1 .i64 (show(2:Int)≠0 by decide),Yx .i64 (show(2:Int)≠0 by decide),e1,e2,hc,d1,d2,w6]
  exact⟨_,hlt,_,i+1,rfl,rfl,hi,yda,yda,by rw[st];simpa using ydx,yda⟩
 |true=>
  have hc:sAt a i%2=1:=by unfold ZV at ha;simpa using ha
  cases hb:ZV b i with
  |false=>
   have hd:¬sAt b i%2=1:=by unfold ZV at hb;simpa using hb
   rw[ha,hb] at st
   simp(disch:=omega)only[go_sem,t0,t1,t5,t6,hp,hq,Z1 .i64 (show(2:Int)≠0 by decide),Yx .i64 (show(2:Int)≠0 by decide),e1,e2,hc,hd,d1,d2,w6]
   exact⟨_,hlt,_,i+1,rfl,rfl,hi,yda,yda,by rw[st];simpa using ydx,yda⟩
  |true=>
   have hd:sAt b i%2=1:=by unfold ZV at hb;simpa using hb
   rw[ha,hb] at st
   simp(disch:=omega)only[go_sem,t0,t1,t5,t6,hp,hq,Z1 .i64 (show(2:Int)≠0 by decide),Yx .i64 (show(2:Int)≠0 by decide),e1,e2,hc,hd,d1,d2,w5,w6]
   exact⟨_,hlt,_,i+1,rfl,rfl,hi,yda,yda,by rw[st];exact yda,yda⟩
set_option maxHeartbeats 1000000 in
theorem Vw {h:H}{y:V}{ms:List Int}(hy:Zg h y 1 (ms.map encI))(hl:ms.length≤100000)(hb:∀m∈ms,0≤m∧m<256){s:Int}(s0:0≤s)(s1:s<256)(Q:V→H→Prop):Ev fnG Zi (.fn 121 [] []) [y,.ii s] h Q=Q (.bool (agrS ms s)) h:=by
 have hlM:=hy.lenE
 refine Ev.det (Ze (fd:=c121) rfl rfl rfl ?_) Q
 simp(disch:=omega)only[c121,go_sem]
 refine Zk ms.length (fun i st=>∃tm,st=⟨tm,h,[]⟩∧(ms.take i).any (fun m=>decide (commI m s=0))=false∧tm.E 0=y∧tm.E 1=.ii s∧tm.E 5=.ii (i:Int)) ?_ ?_ (i:=0) (Nat.zero_le _)
  ⟨_,rfl,by simp,yda,yda,yda⟩
 ·rintro i st hi ⟨tm,rfl,hno,t0,t1,t5⟩
  have hi':(i:Int)<(ms.length:Int):=by omega
  obtain⟨b,o,k,cs,_,hc,hq,_,_,hn⟩:=hy.at hi
  have hn:=hn ydy
  simp only[encI,List.getElem?_cons_zero] at hn
  have hbi:=hb _ (List.getElem_mem hi)
  have hany:=any_take (p:=fun m=>decide (commI m s=0)) hi
  rw[hno,Bool.false_or] at hany
  have hin:=List.getElem_mem hi
  generalize ms[i]=m at hn hbi hany hin
  by_cases e:commI m s=0
  ·have e2:agrS ms s=true:=List.any_eq_true.2 ⟨m,hin,decide_eq_true e⟩
   simp(disch:=omega)only[go_sem,t0,t1,t5,hlM,hi',hq (Zb i),hc,hn,common_ev hbi.1 hbi.2 s0 s1,e]
   rw[e2]
   try exact⟨rfl,rfl⟩
  ·simp(disch:=omega)only[go_sem,t0,t1,t5,hlM,hi',hq (Zb i),hc,hn,common_ev hbi.1 hbi.2 s0 s1,e,Zj]
   exact⟨_,rfl,by rw[hany];exact decide_eq_false e,(by simp[Zm,Zd,t0]<;>rfl),ydc,yda⟩
 ·rintro st ⟨tm,rfl,hno,t0,t1,t5⟩
  rw[List.take_length] at hno
  have e2:agrS ms s=false:=hno
  simp(disch:=omega)only[go_sem,t0,t1,t5,hlM,Int.lt_irrefl]
  rw[e2]
  try exact⟨rfl,rfl⟩
theorem lexlt_drop {a b:List Int}{i:Nat}(h1:i<a.length)(h2:i<b.length):YS (a.drop i) (b.drop i)=if a[i]=b[i] then YS (a.drop (i+1)) (b.drop (i+1)) else decide (a[i]<b[i]):=by
 rw[List.drop_eq_getElem_cons h1,List.drop_eq_getElem_cons h2];rfl
set_option maxHeartbeats 1000000 in
theorem ahead_ev {h:H}{x y:V}{a b:List Int}(hx:Zg h x 1 (a.map encI))(hy:Zg h y 1 (b.map encI))(Q:V→H→Prop):Ev fnG Zi (.fn 120 [] []) [x,y] h Q=Q (.bool (before a b)) h:=by
 have hlx:=hx.lenE
 have hly:=hy.lenE
 refine Ev.det (Ze (fd:=c120) rfl rfl rfl ?_) Q
 by_cases e:a.length=b.length
 case neg=>
  have e':¬(a.length:Int)=(b.length:Int):=by omega
  have eb:before a b=decide ((a.length:Int)<(b.length:Int)):=by
   unfold before;rw[if_neg e,Bool.eq_iff_iff];simp only[decide_eq_true_eq];omega
  simp(disch:=omega)only[c120,go_sem,hlx,hly,e',ne_eq,not_false_eq_true]
  rw[eb]
  try exact⟨rfl,rfl⟩
 have e':(a.length:Int)=(b.length:Int):=by omega
 have eb:before a b=YS a b:=by unfold before;rw[if_pos e]
 simp(disch:=omega)only[c120,go_sem,hlx,hly,e',ne_eq,not_true_eq_false]
 refine Zk a.length (fun i s=>∃tm,s=⟨tm,h,[]⟩∧YS a b=YS (a.drop i) (b.drop i)∧tm.E 0=x∧tm.E 1=y∧tm.E 5=.ii (i:Int))
  ?_ ?_ (i:=0) (Nat.zero_le _) ⟨_,rfl,rfl,yda,yda,yda⟩
 ·rintro i s hi ⟨tm,rfl,hd,t0,t1,t5⟩
  have hbx:=hx.boundE
  have hi':(i:Int)<(b.length:Int):=by omega
  have hib:i<b.length:=by omega
  obtain⟨b1,o1,k1,cs1,ex1,hc1,hq1,hg1,hn1,hn01⟩:=hx.at hi
  obtain⟨b2,o2,k2,cs2,ex2,hc2,hq2,hg2,hn2,hn02⟩:=hy.at hib
  have hn01:=hn01 ydy
  have hn02:=hn02 ydy
  simp only[encI,List.getElem?_cons_zero] at hn01 hn02
  have hst:=lexlt_drop hi hib
  generalize a[i]=u at hn01 hst
  generalize b[i]=v at hn02 hst
  by_cases he:u=v
  ·rw[if_pos he] at hst
   simp(disch:=omega)only[go_sem,t0,t1,t5,hlx,hly,e',hi',hq1 (Zb i),hc1,hn01,hq2 (Zb i),hc2,hn02,he,ne_eq,not_true_eq_false,Zj]
   exact⟨_,rfl,by rw[hd,hst],(by simp[Zm,Zd,t0]<;>rfl),ydc,yda⟩
  ·rw[if_neg he] at hst
   simp(disch:=omega)only[go_sem,t0,t1,t5,hlx,hly,e',hi',hq1 (Zb i),hc1,hn01,hq2 (Zb i),hc2,hn02,he,ne_eq,not_false_eq_true]
   rw[eb,hd,hst]
   try exact⟨rfl,rfl⟩
 ·rintro s ⟨tm,rfl,hd,t0,t1,t5⟩
  have hi':¬(a.length:Int)<(b.length:Int):=by omega
  simp(disch:=omega)only[go_sem,t0,t1,t5,hlx,hly,hi',Int.lt_irrefl]
  rw[eb,hd,List.drop_length,show b.drop a.length=[] by rw[e,List.drop_length]]
  first|exact⟨rfl,rfl⟩|rfl
set_option maxHeartbeats 1000000 in
theorem members_ev {h:H}{n:Nat}{s:Int}(hw:h.wf)(hn:n≤8)(h0:0≤s)(h1:s<2^n)(Q:V→H→Prop)(q:∀y h',h.Sub h'→Zg h' y 1 ((ZM n s 0).map encI)→Q y h'):Ev fnG Zi (.fn 119 [] []) [.ii s] h Q:=by
 have hb:=(pow8 hn).2
 refine Ze (fd:=c119) rfl rfl rfl ?_
 simp(disch:=omega)only[c119,go_sem]
 refine W_loop (fun k st=>∃tm h' y i,st=⟨tm,h',[]⟩∧k=(sAt s i).toNat∧i≤n∧Zx h h' y 1 ((lst (ZV s) i).map encI)∧tm.E 0=.ii (sAt s i)∧tm.E 3=y∧tm.E 4=.ii (i:Int)) ?_ (sAt s 0).toNat _
  ⟨_,_,.nils,0,rfl,rfl,Nat.zero_le _,Zx.nil (H.Sub.refl hw) 1,yda,yda,yda⟩
 rintro k st ⟨tm,h',y,i,rfl,rfl,hin,oy,t0,t3,t4⟩
 have n0:=sAt_nn h0 i
 have n1:=sAt_le h0 i
 have hln:=lst_len (ZV s) i
 by_cases hz:sAt s i=0
 ·have hnl:¬(0:Int)<sAt s i:=by omega
  simp(disch:=omega)only[go_sem,t0,t3,t4,hnl]
  refine q _ _ oy.1 ?_
  rw[←lst_all h0 h1 hz];exact oy.c.sl ydw
 ·have hp:(0:Int)<sAt s i:=by omega
  have hin':i<n:=by
   have:=sAt_zero n h0 h1
   refine Nat.lt_of_not_le fun hc=>hz ?_
   exact(VP this i hc).2
  have e1:(sAt s i).tmod 2=sAt s i%2:=Int.tmod_eq_emod_of_nonneg n0
  have e2:wr .i64 ((sAt s i).tdiv 2)=sAt s (i+1):=by
   rw[Int.tdiv_eq_ediv_of_nonneg n0,Zo yde yde];rfl
  have hlt:(sAt s (i+1)).toNat<(sAt s i).toNat:=by simp only[sAt];omega
  have wi:wr .i64 ((i:Int)+1)=((i+1:Nat):Int):=by rw[Zo yde yde];omega
  cases hbt:ZV s i
  ·have hc:¬sAt s i%2=1:=by unfold ZV at hbt;simpa using hbt
   have e3:lst (ZV s) (i+1)=lst (ZV s) i:=by simp[lst,hbt]
   simp(disch:=omega)only[go_sem,t0,t3,t4,hp,Z1 .i64 (show(2:Int)≠0 by decide),Yx .i64 (show(2:Int)≠0 by decide),e1,e2,hc,wi]
   exact⟨_,hlt,_,_,y,i+1,rfl,rfl,hin',by rw[e3];exact oy,yda,ydd,yda⟩
  ·have hc:sAt s i%2=1:=by unfold ZV at hbt;simpa using hbt
   have e3:lst (ZV s) (i+1)=lst (ZV s) i++[(i:Int)]:=by simp[lst,hbt]
   simp(disch:=omega)only[go_sem,t0,t3,t4,hp,Z1 .i64 (show(2:Int)≠0 by decide),Yx .i64 (show(2:Int)≠0 by decide),e1,e2,hc,wi]
   refine Ug hw oy yde fun y2 h2 oy2 _ _=>?_
   simp(disch:=omega)only[go_sem,t0,t3,t4,Z1 .i64 (show(2:Int)≠0 by decide),Yx .i64 (show(2:Int)≠0 by decide),e2,wi]
   exact⟨_,hlt,_,_,y2,i+1,rfl,rfl,hin',by rw[e3];exact oy2,yda,yda,yda⟩
end Tryz
end Go.Ab
namespace Go.Ab.Tryz
open Go.Proofs
open Go.Ab.Silk (Inc ZM WN Xs YS before Z8 Yl Vd ZT)
theorem missT_bd {a:At}(r:Zl a)(t:TT):0≤Xo a t∧Xo a t<256:=by
 have h:=WC (Xg a t.1 t.2.1 t.2.2) a.rds.length
 have hp:=pow8 r.lens.2.1
 unfold Xo Vo
 omega
theorem dduS_len (o:List Int)(m:Int):(dduS o m).length≤o.length+1:=by
 unfold dduS
 split
 ·omega
 ·rw[List.length_append,List.length_singleton];exact Nat.le_refl _
theorem foldl_step {l:List Int}{i:Nat}{x:Int}(h:l[i]? =some x):(l.take (i+1)).foldl dduS []=dduS ((l.take i).foldl dduS []) x:=by
 rw[List.take_add_one,h,List.foldl_append];rfl
theorem ddu_len:∀(l o:List Int),(l.foldl dduS o).length≤o.length+l.length
 |[],o=>by simp
 |x::l,o=>by
  have h1:=ddu_len l (dduS o x)
  have h2:=dduS_len o x
  rw[List.foldl_cons,List.length_cons];omega
theorem missL_bd {a:At}(r:Zl a):∀m∈Vn a,0≤m∧m<256:=fun m hm=>by
 unfold Vn at hm
 rw[ddu_mem,List.mem_map] at hm
 obtain⟨t,_,rfl⟩:=hm
 exact missT_bd r t
set_option maxHeartbeats 8000000 in
theorem misses_ev {h:H}(hw:h.wf){a:At}{C R G:V}(x:ZP h C R G a)(r:Zl a){y0:V}{n:Nat}(ty:TR n h y0 (allT a))(hl:(allT a).length≤100000)(Q:V→H→Prop)(q:∀y h',h.Sub h'→Zg h' y 1 ((Vn a).map encI)→Q y h'):
  Ev fnG Zi (.fn 118 [] []) [.agg (atV a C R G),y0] h Q:=by
 have oC:=x.c.one;have oR:=x.r.one;have oG:=x.g.one
 have hlA:=ty.lenE
 refine Ze (fd:=c118) rfl rfl rfl ?_
 obtain⟨z,hz⟩:∃z,h.add (.bk (atV a C R G))=z:=⟨_,rfl⟩
 have sz:h.Sub z:=by rw[←hz];exact ydb
 have ga:z.get h.next=some (.bk (atV a C R G)):=by rw[←hz];exact Zc rfl
 have hm:=a_msl_nn (h:=z) (by_:=1) (n:=256) (z:=[.bool false]) yde yde
 rw[repN_false] at hm
 have hm':V7 z 1 [.bool false] (.ii 256) (.ii 256)=_:=hm
 obtain⟨rw0,hrw0⟩:∃rw0,rowB (fun _=>false) 256=rw0:=⟨_,rfl⟩
 rw[hrw0] at hm'
 simp(disch:=omega)only[c118,go_sem,oC,oR,oG,hz,hm']
 obtain⟨z1,hz1⟩:∃z1,z.add (.bk rw0)=z1:=⟨_,rfl⟩
 have s1:z.Sub z1:=by rw[←hz1];exact(H.Sub.refl sz.wf).add _
 have gB:z1.get z.next=some (.bk (rowB (fun _=>false) 256)):=by rw[hrw0,←hz1];exact Zc rfl
 rw[hz1]
 clear hz hz1 hm hm'
 have hwz:=sz.wf
 obtain⟨M,hM⟩:∃M:List Int,(allT a).map (Xo a)=M:=⟨_,rfl⟩
 have hMl:M.length=(allT a).length:=by rw[←hM,List.length_map]
 have hin:=fun t (ht:t∈allT a)=>allT_in r ht
 have hfin:M.foldl dduS []=Vn a:=by rw[←hM];rfl
 have hMg:∀(i:Nat) t,(allT a)[i]? =some t→M[i]? =some (Xo a t):=fun i t ht=>by rw[←hM,List.getElem?_map,ht];rfl
 generalize allT a=A at *
 refine Zk A.length (fun i s=>∃tm z2 y,s=⟨tm,z2,[]⟩∧Zx z z2 y 1 (((M.take i).foldl dduS []).map encI)∧z2.get z.next=some (.bk (rowB (fun q=>decide ((q:Int)∈(M.take i).foldl dduS [])) 256))∧
   tm.E 1=y0∧tm.E 2=.ptr h.next 0∧tm.E 5=.sl z.next 0 256 (.fix 256)∧tm.E 6=y∧tm.E 7=.ii (i:Int)) ?_ ?_ (i:=0) (Nat.zero_le _)
  ⟨_,_,_,rfl,Zx.nil s1 1,by rw[gB];simp[rowB],yda,yda,yda,yda,yda⟩
 ·rintro i s hi ⟨tm,z2,y,rfl,oy,gb,t1,t2,t5,t6,t7⟩
  have hi':(i:Int)<(A.length:Int):=by omega
  have s2:=oy.1
  have s02:=sz.trans s2
  obtain⟨bb,o,cs,v,hc,hq,hg,hn0,hn1,hn2,hv,hu⟩:=(ty.mono s02).at_ hi
  have hti:=hin _ (List.getElem_mem hi)
  have hst:=foldl_step (hMg i _ (List.getElem?_eq_getElem hi))
  have hlo:=ddu_len (M.take i) []
  rw[List.length_take,List.length_nil] at hlo
  generalize A[i]=t at hv hti hst
  generalize(M.take i).foldl dduS []=O at oy gb hst hlo
  have hmb:=missT_bd r t
  obtain⟨ss,gg,tt⟩:=t
  obtain⟨S,Ga,Tm⟩:=v
  obtain⟨l1,l2,l3⟩:=hti.l
  simp only[row3] at hg
  have oS:=hv.s.one;have oGa:=hv.g.one;have oT:=hv.t.one
  simp only at oS oGa oT
  simp(disch:=omega)only[go_sem,t1,t2,t5,t6,t7,hlA,hi',hq (Zb i),hc,hg,Za (s2.get ga),oC,oR,oG]
  refine Missed_ev s02.wf (x.mono s02) r hv l1 l2 l3 hti.m hti.r _ fun z3 s3=>?_
  have oy3:=oy.mono s3
  have gb3:=s3.get gb
  have hmm:Xo a (ss,gg,tt)=Vo a ss gg tt:=rfl
  rw[hmm] at hmb hst
  generalize Vo a ss gg tt=m0 at hmb hst
  obtain⟨m,hm⟩:∃m:Nat,m0=m:=⟨m0.toNat,by omega⟩
  subst hm
  have hm256:m<256:=by omega
  have hiad:Yw 1 (.sl z.next 0 256 (.fix 256)) (.ii (m:Int))=some (.ptr z.next m):=by
   have e:Nat.blt m 256=true:=by rw[Nat.blt_eq];exact hm256
   simp only[Yw,Zb,e,YP,Nat.mul_one,Nat.zero_add]
  have hnth:=rowB_nth (f:=fun q=>decide ((q:Int)∈O)) hm256
  have lb:=s3.next
  by_cases hmem:(m:Int)∈O
  ·have e:dduS O m=O:=if_pos hmem
   have hn:=hnth
   simp only[hmem,decide_true] at hn
   simp(disch:=omega)only[go_sem,t1,t2,t5,t6,t7,hq (Zb i),hc,s3.cells hc,hg,Za (s2.get ga),Za ((s2.trans s3).get ga),oC,oR,oG,oS,oGa,oT,hiad,Za gb3,hn,Zj]
   exact⟨_,_,y,rfl,by rw[hst,e];exact oy3,by rw[hst,e];exact gb3,ydc,ydf,ydx,ydF,yda⟩
  ·have e:dduS O m=O++[(m:Int)]:=if_neg hmem
   have hn:=hnth
   simp only[hmem,decide_false] at hn
   have hput:=rowB_put (f:=fun q=>decide ((q:Int)∈O)) hm256 true
   have er:rowB (fun j=>if j=m then true else decide ((j:Int)∈O)) 256=rowB (fun q=>decide ((q:Int)∈O++[(m:Int)])) 256:=by
    unfold rowB
    refine List.map_congr_left fun j hj=>?_
    congr 1
    dsimp only
    rw[Bool.eq_iff_iff]
    by_cases e2:j=m
    ·subst e2;simp
    ·have:¬(j:Int)=(m:Int):=by omega
     rw[if_neg e2];simp[this]
   rw[er] at hput
   have lb3:=(s2.trans s3).wf _ _ gb3
   have sset:z.Sub (z3.set z.next (.bk (rowB (fun q=>decide ((q:Int)∈O++[(m:Int)])) 256))):=(s2.trans s3).set (Nat.le_refl _) lb3 hwz _
   have oyS:=oy3.keep (Zh.set z3 z.next (.bk (rowB (fun q=>decide ((q:Int)∈O++[(m:Int)])) 256))) sset fun b hb e=>by subst e;exact oy3.ne gb3 hb
   have gbS:(z3.set z.next (.bk (rowB (fun q=>decide ((q:Int)∈O++[(m:Int)])) 256))).get z.next=some (.bk (rowB (fun q=>decide ((q:Int)∈O++[(m:Int)])) 256)):=get_set_same rfl
   simp(disch:=omega)only[go_sem,t1,t2,t5,t6,t7,hq (Zb i),hc,s3.cells hc,hg,Za (s2.get ga),Za ((s2.trans s3).get ga),oC,oR,oG,oS,oGa,oT,hiad,Za gb3,gb3,hn,hput]
   obtain⟨zs,hzs⟩:∃zs,z3.set z.next (.bk (rowB (fun q=>decide ((q:Int)∈O++[(m:Int)])) 256))=zs:=⟨_,rfl⟩
   have nzs:zs.next=z3.next:=by rw[←hzs,H.next_set]
   rw[hzs] at oyS gbS
   try rw[hzs]
   rw[←nzs]
   clear hzs
   refine Ug hwz oyS yde fun y' z4 oy4 _ kk=>?_
   have gb4:=kk.2 _ _ gbS (oyS.ne gbS)
   simp(disch:=omega)only[go_sem,t1,t2,t5,t6,t7,Zj]
   exact⟨_,_,y',rfl,by rw[hst,e];exact oy4,by rw[hst,e];exact gb4,ydc,ydf,ydx,yda,yda⟩
 ·rintro s ⟨tm,z2,y,rfl,oy,gb,t1,t2,t5,t6,t7⟩
  rw[←hMl,List.take_length,hfin] at oy
  simp(disch:=omega)only[go_sem,t1,t2,t5,t6,t7,hlA,Int.lt_irrefl]
  have hlm:=ddu_len M []
  rw[hfin,List.length_nil] at hlm
  exact q _ _ (sz.trans oy.1) (oy.c.sl ydw)
def X3 (l:List Int)(j:Nat):Bool:=decide ((j:Int)∈l)
theorem memF_lst (l:List Int):ZG (X3 l) 8=ZG (Wt l) 8:=bitI_congr fun j _=>by
 rw[Bool.eq_iff_iff,lstF_mem];simp[X3]
set_option maxHeartbeats 8000000 in
theorem Listed_ev {h:H}(hw:h.wf){a:At}{C R G:V}(x:ZP h C R G a)(r:Zl a){y:V}{l:List Int}(hy:Zg h y 1 (l.map encI))(hl:l.length≤1000)(Q:V→H→Prop)(q:∀h',h.Sub h'→Q (.tup [.ii (lisS a l),.ii (lisE a l)]) h'):
  Ev fnG Zi (.fn 67 [] []) [.agg (atV a C R G),y] h Q:=by
 have oC:=x.c.one;have oR:=x.r.one;have oG:=x.g.one
 have hlR:=x.r.lenE
 have hlY:=hy.lenE
 have rl:=r.lens
 have wm:wr .i64 ((a.rds.length:Int)-1)=(a.rds.length:Int)-1:=Zo yde yde
 refine Ze (fd:=c67) rfl rfl rfl ?_
 obtain⟨z,hz⟩:∃z,h.add (.bk (atV a C R G))=z:=⟨_,rfl⟩
 have sz:h.Sub z:=by rw[←hz];exact ydb
 have ga:z.get h.next=some (.bk (atV a C R G)):=by rw[←hz];exact Zc rfl
 simp(disch:=omega)only[c67,go_sem,oC,oR,oG]
 rw[hz]
 clear hz
 have hyz:=hy.mono sz
 obtain⟨ok,hok⟩:∃ok:Int→Bool,ok=fun i=>inB i 0 ((a.rds.length:Int)-1):=⟨_,rfl⟩
 have q1:l.all ok=false→Q (.tup [.ii 0,.ii 1]) z:=fun e=>by
  have e1:lisE a l=1:=by unfold lisE;rw[←hok,if_pos e]
  have e2:lisS a l=0:=by unfold lisS;rw[if_neg (by rw[e1];simp)]
  have:=q _ sz
  rwa[e1,e2] at this
 refine W.mono (Q:=fun x1 s=>(x1=.ext 0∧l.all ok=true∧∃tm,s=⟨tm,z,[]⟩∧tm.E 1=y∧tm.E 2=.ptr h.next 0)∨(x1=.ret∧l.all ok=false∧∃tm,s=⟨tm,z,[]⟩∧tm.E 4=.ii 0∧tm.E 5=.ii 1))
  (Zk l.length (fun i s=>∃tm,s=⟨tm,z,[]⟩∧(l.take i).all ok=true∧tm.E 1=y∧tm.E 2=.ptr h.next 0∧tm.E 6=.ii (i:Int))
  ?_ ?_ (i:=0) (Nat.zero_le _) ⟨_,rfl,by simp,yda,yda,yda⟩) fun x1 s hx1=>?_
 ·rintro i s hi ⟨tm,rfl,hall,t1,t2,t6⟩
  have hi':(i:Int)<(l.length:Int):=by omega
  obtain⟨b,o,k,cs,_,hc,hq,_,_,hn⟩:=hyz.at hi
  have hn:=hn ydy
  simp only[encI,List.getElem?_cons_zero] at hn
  have h1:=fun hp=>all_take_ok (p:=ok) hi hall hp
  have h2:=fun hp=>all_bad (p:=ok) hi hp
  generalize l[i]=u at hn h1 h2
  rw[hok] at h1 h2
  simp only at h1 h2
  rw[←hok] at h1 h2
  cases b1:inB u 0 ((a.rds.length:Int)-1) with
  |false=>
   have e:=h2 b1
   simp(disch:=omega)only[go_sem,t1,t2,t6,hlY,hi',hq (Zb i),hc,hn,Za ga,hlR,wm,Yv,b1]
   first|exact .inr ⟨rfl,e,_,rfl,yda,yda⟩|exact .inr ⟨e,_,rfl,yda,yda⟩|exact⟨e,_,rfl,yda,yda⟩
  |true=>
   simp(disch:=omega)only[go_sem,t1,t2,t6,hlY,hi',hq (Zb i),hc,hn,Za ga,hlR,wm,Yv,b1,Zj]
   exact⟨_,rfl,h1 b1,ydc,ydf,yda⟩
 ·rintro s ⟨tm,rfl,hall,t1,t2,t6⟩
  rw[List.take_length] at hall
  simp(disch:=omega)only[go_sem,t1,t2,t6,hlY,Int.lt_irrefl]
  first|exact .inl ⟨rfl,hall,_,rfl,ydc,ydf⟩|exact .inl ⟨hall,_,rfl,ydc,ydf⟩|exact⟨hall,_,rfl,ydc,ydf⟩
 rcases hx1 with⟨rfl,ha,tm,rfl,t1,t2⟩|⟨rfl,ha,tm,rfl,t4,t5⟩
 case inr=>
  simp(disch:=omega)only[go_sem,t4,t5]
  exact q1 ha
 clear q1
 have hall:∀u∈l,0≤u∧u<8:=fun u hu=>by
  have:=List.all_eq_true.1 ha u hu
  rw[hok] at this
  have:=Zs.1 this
  omega
 have e0:lisE a l=if(WW l).length<l.length then 5 else 0:=by unfold lisE;rw[←hok,if_neg (by rw[ha];simp)]
 simp(disch:=omega)only[go_sem,t1,t2]
 refine Zk l.length (fun i s=>∃tm,s=⟨tm,z,[]⟩∧(∀j (hj:j<l.length),j<i→l[j] ∉l.take j)∧tm.E 1=y∧tm.E 7=.ii (ZG (X3 (l.take i)) 8)∧tm.E 8=.ii (i:Int))
  ?_ ?_ (i:=0) (Nat.zero_le _) ⟨_,rfl,fun j hj h0=>by omega,ydc,by rw[List.take_zero,show ZG (X3 []) 8=0 from V2.2 fun j _=>by simp[X3]];exact yda,yda⟩
 ·clear t1 t2
  rintro i s hi ⟨tm,rfl,hno,t1,t7,t8⟩
  have hi':(i:Int)<(l.length:Int):=by omega
  obtain⟨b,o,kk,cs,_,hc,hq,_,_,hn⟩:=hyz.at hi
  have hn:=hn ydy
  simp only[encI,List.getElem?_cons_zero] at hn
  have hu:=hall _ (List.getElem_mem hi)
  have htk:=take_at hi
  have hdb:=fun hm=>ris_dbl hi hm
  have hnx:l[i] ∉l.take i→∀j (hj:j<l.length),j<i+1→l[j] ∉l.take j:=fun hm j hj h0=>by
   by_cases e:j=i
   ·subst e;exact hm
   ·exact hno j hj yde
  generalize l[i]=u at hn hu htk hdb hnx
  obtain⟨k,rfl⟩:∃k:Nat,u=k:=⟨u.toNat,by omega⟩
  have hk8:k<8:=by omega
  simp(disch:=omega)only[go_sem,t1,t7,t8,hlY,hi']
  refine Zk k (fun j s=>∃tm,s=⟨tm,z,[]⟩∧tm.E 1=y∧tm.E 7=.ii (ZG (X3 (l.take i)) 8)∧tm.E 8=.ii (i:Int)∧tm.E 9=.ii (2^j)∧tm.E 10=.ii (j:Int))
   ?_ ?_ (i:=0) (Nat.zero_le _) ⟨_,rfl,ydc,ydq,ydr,yda,yda⟩
  ·clear t1 t7 t8
   rintro j s hj ⟨tm,rfl,t1,t7,t8,t9,t10⟩
   have hj':(j:Int)<(k:Int):=by omega
   have hp:=pow8 (i:=j) yde
   have e3:(2:Int)^(j+1)=2*2^j:=by rw[Int.pow_succ];omega
   have w2:wr .i64 (2*2^j)=2^(j+1):=by rw[e3];exact Zo yde yde
   simp(disch:=omega)only[go_sem,t1,t7,t8,t9,t10,hq (Zb i),hc,hn,hj',w2,Zj]
   exact⟨_,rfl,ydc,ydq,ydr,yda,yda⟩
  ·clear t1 t7 t8
   rintro s ⟨tm,rfl,t1,t7,t8,t9,t10⟩
   have hp:=pow8 (i:=k) yde
   have hbd:=WC (X3 (l.take i)) 8
   have h256:(2:Int)^8=256:=by decide
   have hne:(2:Int)^k≠0:=by omega
   have hbit:ZV (ZG (X3 (l.take i)) 8) k=X3 (l.take i) k:=by rw[V4];simp[hk8]
   have hsA:sAt (ZG (X3 (l.take i)) 8) k=ZG (X3 (l.take i)) 8/2^k:=sAt_div k _
   have hn0:=sAt_nn hbd.1 k
   have hn1:=sAt_le hbd.1 k
   have d1:wr .i64 ((ZG (X3 (l.take i)) 8).tdiv (2^k))=sAt (ZG (X3 (l.take i)) 8) k:=by
    rw[Int.tdiv_eq_ediv_of_nonneg hbd.1,←hsA,Zo yde yde]
   have d2:(sAt (ZG (X3 (l.take i)) 8) k).tmod 2=sAt (ZG (X3 (l.take i)) 8) k%2:=Int.tmod_eq_emod_of_nonneg hn0
   by_cases hm:(k:Int)∈l.take i
   ·have hm1:X3 (l.take i) k=true:=decide_eq_true hm
    rw[hm1] at hbit
    have hc1:sAt (ZG (X3 (l.take i)) 8) k%2=1:=by unfold ZV at hbit;simpa using hbit
    have e1:lisE a l=5:=by rw[e0,if_pos (hdb hm)]
    have e2:lisS a l=0:=by unfold lisS;rw[if_neg (by rw[e1];simp)]
    rw[e1,e2] at q
    simp(disch:=omega)only[go_sem,t1,t7,t8,t9,t10,hq (Zb i),hc,hn,Int.lt_irrefl,Yx .i64 hne,Z1 .i64 (show(2:Int)≠0 by decide),d1,d2,hc1]
    exact q _ sz
   ·have hm1:X3 (l.take i) k=false:=decide_eq_false hm
    rw[hm1] at hbit
    have hc1:¬sAt (ZG (X3 (l.take i)) 8) k%2=1:=by unfold ZV at hbit;simpa using hbit
    have up:ZG (X3 (l.take (i+1))) 8=ZG (X3 (l.take i)) 8+2^k:=by
     rw[htk]
     refine bitI_upd (fun j hj=>?_) hm1 (by simp[X3]) hk8
     have:¬(j:Int)=(k:Int):=by omega
     simp[X3,this]
    have hbd2:=WC (X3 (l.take (i+1))) 8
    have w7:wr .i64 (ZG (X3 (l.take i)) 8+2^k)=ZG (X3 (l.take (i+1))) 8:=by rw[up];exact Zo yde yde
    simp(disch:=omega)only[go_sem,t1,t7,t8,t9,t10,hq (Zb i),hc,hn,Int.lt_irrefl,Yx .i64 hne,Z1 .i64 (show(2:Int)≠0 by decide),d1,d2,hc1,w7,Zj]
    exact⟨_,rfl,hnx hm,ydc,yda,yda⟩
 ·clear t1 t2
  rintro s ⟨tm,rfl,hno,t1,t7,t8⟩
  have e1:lisE a l=0:=by rw[e0,if_neg (ris_take fun i hi=>hno i hi hi)]
  have e2:lisS a l=ZG (X3 l) 8:=by unfold lisS;rw[if_pos e1,memF_lst]
  rw[List.take_length] at t7
  rw[e1,e2] at q
  simp(disch:=omega)only[go_sem,t1,t7,t8,hlY,Int.lt_irrefl]
  exact q _ sz
end Go.Ab.Tryz
namespace Go.Ab.Tryz
open Go.Proofs
open Go.Ab.Silk (Inc ZM WN Xs YS before Z8 Yl Vd ZT)
theorem best0 (P:List Int→Bool)(W:Nat):ZT P W 0 0 none:=ZT.zero P W 0
structure TmA (h:H)(a:At)(y2:Int)(ym:V)(tm:Go.Ab.T V):Prop where
 t2:tm.E 2=.ii y2
 t3:tm.E 3=.ptr h.next 0
 t11:tm.E 11=ym
 t12:tm.E 12=.ii (2^a.rds.length)
set_option maxHeartbeats 16000000 in
theorem Sets10_ev {h:H}(hw:h.wf){a:At}{C R G:V}(x:ZP h C R G a)(r:Zl a){y0:V}{n:Nat}(ty:TR n h y0 (allT a))(hl:(allT a).length≤100000){st:Int}(st0:0≤st)(st1:st<256)(Q:V→H→Prop)
  (q:∀yc yw h',h.Sub h'→Zg h' yc 1 (((VB a).getD []).map encI)→Zg h' yw 1 (((V9 a).getD []).map encI)→Q (.tup [.bool (agrS (Vn a) st),yc,.bool (VB a).isSome,yw,.bool (V9 a).isSome]) h'):
  Ev fnG Zi (.fn 68 [] []) [.agg (atV a C R G),y0,.int .i64 st] h Q:=by
 have oC:=x.c.one;have oR:=x.r.one;have oG:=x.g.one
 have hlR:=x.r.lenE
 have rl:=r.lens
 have oy:=ty.one
 refine Ze (fd:=c68) rfl rfl rfl ?_
 obtain⟨z,hz⟩:∃z,h.add (.cells .rw (atV a C R G))=z:=⟨_,rfl⟩
 have sz:h.Sub z:=by rw[←hz];exact ydb
 have ga:z.get h.next=some (.cells .rw (atV a C R G)):=by rw[←hz];exact Zc rfl
 simp -implicitDefEqProofs(maxSteps:=999999)(disch:=first|with_reducible rfl|omega|(simp only[nA,nS,nD]<;>omega)|fail)only[c68,go_sem,oC,oR,oG,hz,Za ga]
 try rw[hz]
 clear hz
 refine misses_ev sz.wf (x.mono sz) r (ty.mono sz) hl _ fun ym z1 s1 hm=>?_
 have s01:=sz.trans s1
 have ga1:=s1.get ga
 have hmb:=missL_bd r
 have hml:(Vn a).length≤100000:=by
  have:=ddu_len ((allT a).map (Xo a)) []
  rw[List.length_map,List.length_nil] at this
  unfold Vn ddu;omega
 have hp8:=pow8 (i:=a.rds.length) rl.2.1
 have pc:=clashP_bits r
 have pw:=fun{s:Int}=>wrongP_bits (s:=s) r
 generalize Vn a=ms at hm hmb hml pc pw q
 simp -implicitDefEqProofs(maxSteps:=999999)(disch:=first|with_reducible rfl|omega|(simp only[nA,nS,nD]<;>omega)|fail)only[go_sem]
 refine Zk a.rds.length (fun i s=>∃tm,s=⟨tm,z1,[]⟩∧(Opd.t 2).ev tm=.int .i64 st∧(Opd.t 3).ev tm=.ptr h.next 0∧(Opd.t 7).ev tm=.nils∧(Opd.t 8).ev tm=.bool false∧(Opd.t 9).ev tm=.nils∧(Opd.t 10).ev tm=.bool false∧(Opd.t 11).ev tm=ym∧(Opd.t 12).ev tm=.int .i64 (2^i)∧(Opd.t 13).ev tm=.int .i64 (i:Int)) ?_ ?_ (i:=0) (Nat.zero_le _)
  ⟨_,rfl,yda,yda,yda,yda,yda,yda,yda,yda,yda⟩
 ·rintro i s hi ⟨tm,rfl,t2,t3,t7,t8,t9,t10,t11,t12,t13⟩
  have hi':(i:Int)<(a.rds.length:Int):=by omega
  have hp:=pow8 (i:=i) yde
  have e3:(2:Int)^(i+1)=2*2^i:=by rw[Int.pow_succ];omega
  have w2:wr .i64 (2*2^i)=2^(i+1):=by rw[e3];exact Zo yde yde
  simp -implicitDefEqProofs(maxSteps:=999999)(disch:=first|with_reducible rfl|omega|(simp only[nA,nS,nD]<;>omega)|fail)only[go_sem,t2,t3,t7,t8,t9,t10,t11,t12,t13,Za ga1,hlR,hi',w2,Zj]
  exact⟨_,rfl,ydf,ydd,ydq,ydr,ydh,ydv,yds,yda,yda⟩
 ·rintro s ⟨tm,rfl,t2,t3,t7,t8,t9,t10,t11,t12,t13⟩
  simp -implicitDefEqProofs(maxSteps:=999999)(disch:=first|with_reducible rfl|omega|(simp only[nA,nS,nD]<;>omega)|fail)only[go_sem,t2,t3,t7,t8,t9,t10,t11,t12,t13,Za ga1,hlR,Int.lt_irrefl]
  obtain⟨N,hN⟩:∃N:Nat,(2:Int)^a.rds.length=N:=⟨2^a.rds.length,by simp⟩
  obtain⟨A,hA⟩:∃A:Nat→Option (List Int)→Option (List Int)→St→Prop,∀i bc bw s,A i bc bw s↔∃tm z' yc yw,s=⟨tm,z',[]⟩∧z1.Sub z'∧TmA h a st ym tm∧Zg z' yc 1 ((bc.getD []).map encI)∧Zg z' yw 1 ((bw.getD []).map encI)∧
    (Opd.t 7).ev tm=yc∧(Opd.t 8).ev tm=.bool bc.isSome∧(Opd.t 9).ev tm=yw∧(Opd.t 10).ev tm=.bool bw.isSome∧(Opd.t 14).ev tm=.int .i64 (i:Int):=⟨_,fun _ _ _ _=>Iff.rfl⟩
  refine Zk N (fun i s=>∃bc bw,A i bc bw s∧ZT (Xr a) a.rds.length 0 (i:Int) bc∧ZT (Vt a) a.rds.length 0 (i:Int) bw) ?_ ?_ (i:=0) (Nat.zero_le _)
   ⟨none,none,(hA _ _ _ _).2 ⟨_,_,_,_,rfl,H.Sub.refl s1.wf,⟨ydf,ydd,yds,ydg⟩,Wp _,Wp _,ydq,ydr,ydh,ydv,yda⟩,best0 _ _,best0 _ _⟩
  ·clear t2 t3 t7 t8 t9 t10 t11 t12 t13
   rintro i s hi ⟨bc,bw,hs,b1,b2⟩
   have hiN:(i:Int)<2^a.rds.length:=by omega
   have hi256:(i:Int)<256:=by omega
   have i0:(0:Int)≤(i:Int):=by omega
   obtain⟨tm,z',yc,yw,rfl,s',⟨t2,t3,t11,t12⟩,kc,kw,t7,t8,t9,t10,t14⟩:=(hA _ _ _ _).1 hs
   simp -implicitDefEqProofs(maxSteps:=999999)(disch:=first|with_reducible rfl|omega|(simp only[nA,nS,nD]<;>omega)|fail)only[go_sem,t12,t14,hiN]
   obtain⟨L,hL⟩:∃L,ZM a.rds.length (i:Int) 0=L:=⟨_,rfl⟩
   refine members_ev s'.wf rl.2.1 i0 hiN _ fun y15 z2 s2 k15=>?_
   simp only[Kput_app,putD_some,WO_cons,WI_mv,WO_nil,Kops_app,Kseq_nrm]
   have s12:=s'.trans s2
   have hm2:=hm.mono s12
   have kc2:=kc.mono s2
   have kw2:=kw.mono s2
   have eA:=fun R=>Vw hm2 hml hmb i0 hi256 R
   refine ZD (fun s=>∃tm yc bc',s=⟨tm,z2,[]⟩∧TmA h a st ym tm∧Zg z2 yc 1 ((bc'.getD []).map encI)∧(Opd.t 7).ev tm=yc∧(Opd.t 8).ev tm=.bool bc'.isSome∧(Opd.t 9).ev tm=yw∧(Opd.t 10).ev tm=.bool bw.isSome∧(Opd.t 14).ev tm=.int .i64 (i:Int)∧(Opd.t 15).ev tm=y15∧ZT (Xr a) a.rds.length 0 ((i:Int)+1) bc') ?_ ?_
   ·have pci:=pc (i:Int)
    have tk:=fun hp hb=>b1.take hp hb
    have sk:=fun hp=>b1.skip hp
    rw[hL] at k15
    cases bc with
    |none=>
     cases hag:agrS ms (i:Int) with
     |true=>
      rw[hag] at pci
      have:=sk (.inl pci)
      simp -implicitDefEqProofs(maxSteps:=999999)(disch:=first|with_reducible rfl|omega|(simp only[nA,nS,nD]<;>omega)|fail)only[go_sem,t2,t3,t7,t8,t9,t10,t11,t12,t14,Option.isSome_none,Option.isSome_some,eA,hag]
      exact⟨_,_,none,rfl,⟨ydf,ydd,yds,ydg⟩,kc2,ydq,ydr,ydh,ydv,ydj,yda,this⟩
     |false=>
      rw[hag] at pci
      have:=tk pci fun c hc=>by cases hc
      rw[hL] at this
      simp -implicitDefEqProofs(maxSteps:=999999)(disch:=first|with_reducible rfl|omega|(simp only[nA,nS,nD]<;>omega)|fail)only[go_sem,t2,t3,t7,t8,t9,t10,t11,t12,t14,Option.isSome_none,Option.isSome_some,eA,hag]
      exact⟨_,_,some L,rfl,⟨ydf,ydd,yds,ydg⟩,k15,yda,yda,ydh,ydv,ydj,yda,this⟩
    |some c=>
     have eB:=fun R=>ahead_ev k15 kc2 R
     simp only[Option.getD_some] at eB
     cases hbf:before L c with
     |false=>
      have:=sk (.inr ⟨c,rfl,by rw[hL];exact hbf⟩)
      simp -implicitDefEqProofs(maxSteps:=999999)(disch:=first|with_reducible rfl|omega|(simp only[nA,nS,nD]<;>omega)|fail)only[go_sem,t2,t3,t7,t8,t9,t10,t11,t12,t14,Option.isSome_none,Option.isSome_some,eA,eB,hbf]
      exact⟨_,_,some c,rfl,⟨ydf,ydd,yds,ydg⟩,kc2,ydq,ydr,ydh,ydv,ydj,yda,this⟩
     |true=>
      cases hag:agrS ms (i:Int) with
      |true=>
       rw[hag] at pci
       have:=sk (.inl pci)
       simp -implicitDefEqProofs(maxSteps:=999999)(disch:=first|with_reducible rfl|omega|(simp only[nA,nS,nD]<;>omega)|fail)only[go_sem,t2,t3,t7,t8,t9,t10,t11,t12,t14,Option.isSome_none,Option.isSome_some,eA,eB,hbf,hag]
       exact⟨_,_,some c,rfl,⟨ydf,ydd,yds,ydg⟩,kc2,ydq,ydr,ydh,ydv,ydj,yda,this⟩
      |false=>
       rw[hag] at pci
       have:=tk pci fun c' hc'=>by cases hc';rw[hL];exact hbf
       rw[hL] at this
       simp -implicitDefEqProofs(maxSteps:=999999)(disch:=first|with_reducible rfl|omega|(simp only[nA,nS,nD]<;>omega)|fail)only[go_sem,t2,t3,t7,t8,t9,t10,t11,t12,t14,Option.isSome_none,Option.isSome_some,eA,eB,hbf,hag]
       exact⟨_,_,some L,rfl,⟨ydf,ydd,yds,ydg⟩,k15,yda,yda,ydh,ydv,ydj,yda,this⟩
   ·clear t2 t3 t11 t12 t7 t8 t9 t10 t14 kc2 kc b1 hs
    rintro s ⟨tm,yc,bc',rfl,⟨t2,t3,t11,t12⟩,kc2,t7,t8,t9,t10,t14,t15,b1⟩
    have pwi:=pw i0 hiN
    have j0:(0:Int)≤2^a.rds.length-1-(i:Int):=by omega
    have j256:2^a.rds.length-1-(i:Int)<256:=by omega
    have eA:=fun R=>Vw hm2 hml hmb j0 j256 R
    have w1:wr .i64 (2^a.rds.length-1)=2^a.rds.length-1:=Zo yde yde
    have w2:wr .i64 (2^a.rds.length-1-(i:Int))=2^a.rds.length-1-(i:Int):=Zo yde yde
    have w14:wr .i64 ((i:Int)+1)=((i+1:Nat):Int):=by rw[Zo yde yde];omega
    have ei:(i:Int)+1=((i+1:Nat):Int):=by omega
    rw[ei] at b1
    have tk:=fun hp hb=>b2.take hp hb
    have sk:=fun hp=>b2.skip hp
    rw[ei] at tk sk
    rw[hL] at k15
    have fin:∀tm' bw' yw',TmA h a st ym tm'→Zg z2 yw' 1 ((bw'.getD []).map encI)→(Opd.t 7).ev tm'=yc→(Opd.t 8).ev tm'=.bool bc'.isSome→(Opd.t 9).ev tm'=yw'→(Opd.t 10).ev tm'=.bool bw'.isSome→(Opd.t 14).ev tm'=.int .i64 ((i+1:Nat):Int)→ZT (Vt a) a.rds.length 0 ((i+1:Nat):Int) bw'→
      ∃bc bw,A (i+1) bc bw ⟨tm',z2,[]⟩∧ZT (Xr a) a.rds.length 0 ((i+1:Nat):Int) bc∧ZT (Vt a) a.rds.length 0 ((i+1:Nat):Int) bw:=fun tm' bw' yw' u k u7 u8 u9 u10 u14 b=>
     ⟨bc',bw',(hA _ _ _ _).2 ⟨_,_,_,_,rfl,s12,u,kc2,k,u7,u8,u9,u10,u14⟩,b1,b⟩
    cases bw with
    |none=>
     cases hag:agrS ms (2^a.rds.length-1-(i:Int)) with
     |false=>
      rw[hag] at pwi
      have:=sk (.inl pwi)
      simp -implicitDefEqProofs(maxSteps:=999999)(disch:=first|with_reducible rfl|omega|(simp only[nA,nS,nD]<;>omega)|fail)only[go_sem,t2,t3,t7,t8,t9,t10,t11,t12,t14,t15,Option.isSome_none,Option.isSome_some,eA,hag,w1,w2,w14]
      exact fin _ none yw ⟨ydf,ydd,yds,ydg⟩ kw2 ydq ydr ydh ydv yda this
     |true=>
      rw[hag] at pwi
      have:=tk pwi fun c hc=>by cases hc
      rw[hL] at this
      simp -implicitDefEqProofs(maxSteps:=999999)(disch:=first|with_reducible rfl|omega|(simp only[nA,nS,nD]<;>omega)|fail)only[go_sem,t2,t3,t7,t8,t9,t10,t11,t12,t14,t15,Option.isSome_none,Option.isSome_some,eA,hag,w1,w2,w14]
      exact fin _ (some L) y15 ⟨ydf,ydd,yds,ydg⟩ k15 ydq ydr yda yda yda this
    |some c=>
     have eB:=fun R=>ahead_ev k15 kw2 R
     simp only[Option.getD_some] at eB
     cases hbf:before L c with
     |false=>
      have:=sk (.inr ⟨c,rfl,by rw[hL];exact hbf⟩)
      simp -implicitDefEqProofs(maxSteps:=999999)(disch:=first|with_reducible rfl|omega|(simp only[nA,nS,nD]<;>omega)|fail)only[go_sem,t2,t3,t7,t8,t9,t10,t11,t12,t14,t15,Option.isSome_none,Option.isSome_some,eA,eB,hbf,w1,w2,w14]
      exact fin _ (some c) yw ⟨ydf,ydd,yds,ydg⟩ kw2 ydq ydr ydh ydv yda this
     |true=>
      cases hag:agrS ms (2^a.rds.length-1-(i:Int)) with
      |false=>
       rw[hag] at pwi
       have:=sk (.inl pwi)
       simp -implicitDefEqProofs(maxSteps:=999999)(disch:=first|with_reducible rfl|omega|(simp only[nA,nS,nD]<;>omega)|fail)only[go_sem,t2,t3,t7,t8,t9,t10,t11,t12,t14,t15,Option.isSome_none,Option.isSome_some,eA,eB,hbf,hag,w1,w2,w14]
       exact fin _ (some c) yw ⟨ydf,ydd,yds,ydg⟩ kw2 ydq ydr ydh ydv yda this
      |true=>
       rw[hag] at pwi
       have:=tk pwi fun c' hc'=>by cases hc';rw[hL];exact hbf
       rw[hL] at this
       simp -implicitDefEqProofs(maxSteps:=999999)(disch:=first|with_reducible rfl|omega|(simp only[nA,nS,nD]<;>omega)|fail)only[go_sem,t2,t3,t7,t8,t9,t10,t11,t12,t14,t15,Option.isSome_none,Option.isSome_some,eA,eB,hbf,hag,w1,w2,w14]
       exact fin _ (some L) y15 ⟨ydf,ydd,yds,ydg⟩ k15 ydq ydr yda yda yda this
  ·clear t2 t3 t7 t8 t9 t10 t11 t12 t13
   rintro s ⟨bc,bw,hs,b1,b2⟩
   obtain⟨tm,z',yc,yw,rfl,s',⟨t2,t3,t11,t12⟩,kc,kw,t7,t8,t9,t10,t14⟩:=(hA _ _ _ _).1 hs
   rw[←hN] at b1 b2 t14
   have ec:=b1.last (Int.le_refl _) fun t h1 h2=>by omega
   have ew:=b2.last (Int.le_refl _) fun t h1 h2=>by omega
   subst ec
   subst ew
   have eA:=fun R=>Vw (hm.mono s') hml hmb st0 st1 R
   simp -implicitDefEqProofs(maxSteps:=999999)(disch:=first|with_reducible rfl|omega|(simp only[nA,nS,nD]<;>omega)|fail)only[go_sem,t2,t3,t7,t8,t9,t10,t11,t12,t14,Int.lt_irrefl,eA]
   exact q _ _ _ (s01.trans s') kc kw
end Go.Ab.Tryz
namespace Go.Ab.Tryz
open Go.Proofs
def facI (s:Int × Int):Int:=if -60≤s.1∧s.2≤60∧s.1≤s.2 then min (s.2-s.1+1) 100 else 1
theorem facI_bd (s:Int × Int):1≤facI s∧facI s≤100:=by unfold facI;split<;>omega
theorem mul_in {n p:Int}(h1:1≤n∧n≤2500)(h2:1≤p∧p≤1000):1≤n*p∧n*p≤2500000:=by
 have a:=Int.mul_le_mul h1.2 h2.2 yde ydy
 have b:=Int.mul_le_mul h1.1 h2.1 ydy yde
 omega
def remC (c:Ck)(R:Nat):Nat→Nat
 |0=>c.ns*(c.ng*R)
 |1=>c.ng*R
 |_=>R
def cntC (c:Ck):Nat→Nat
 |0=>c.ns
 |_=>c.ng
theorem remC_step (c:Ck)(R:Nat){j:Nat}(h:j<2):remC c R j=cntC c j*remC c R (j+1):=by
 rcases(by omega:j=0∨j=1) with rfl|rfl<;>rfl
theorem fac_cnt {a:At}(r:Zl a){c:Ck}(hc:c∈a.cks){j:Nat}(h:j<2):facI (([(c.sl,c.sh),(c.gl,c.gh)]:ZZ)[j]'h)=(cntC c j:Int):=by
 have hcb:=r.cb _ hc
 have hco:=r.co _ hc
 have hcs:=r.cs _ hc
 simp only[Ck.bd,within,Bool.and_eq_true,Zs] at hcb
 simp only[Ck.ord,Bool.and_eq_true,decide_eq_true_eq] at hco
 simp only[Ck.sm,Bool.and_eq_true,decide_eq_true_eq] at hcs
 rcases(by omega:j=0∨j=1) with rfl|rfl
 ·show facI (c.sl,c.sh)=(c.ns:Int)
  unfold facI Ck.ns
  rw[if_pos (by simp only;omega)]
  simp only;omega
 ·show facI (c.gl,c.gh)=(c.ng:Int)
  unfold facI Ck.ng
  rw[if_pos (by simp only;omega)]
  simp only;omega
set_option maxHeartbeats 8000000 in
theorem wide_ev {h:H}(hw:h.wf){a:At}{C R G:V}(x:ZP h C R G a)(Q:V→H→Prop)(q:∀b h',h.Sub h'→(b=false→XK a=false∧(Zl a→(a.mins.toNat+1)^a.evs.toNat*Yh a.cks≤2500))→Q (.bool b) h'):
  Ev fnG Zi (.fn 51 [] []) [.agg (atV a C R G)] h Q:=by
 have oC:=x.c.one;have oR:=x.r.one;have oG:=x.g.one
 have hlC:=x.c.lenE
 refine Ze (fd:=c51) rfl rfl rfl ?_
 obtain⟨z,hz⟩:∃z,h.add (.cells .rw (atV a C R G))=z:=⟨_,rfl⟩
 have sz:h.Sub z:=by rw[←hz];exact ydb
 have ga:z.get h.next=some (.cells .rw (atV a C R G)):=by rw[←hz];exact Zc rfl
 obtain⟨P,hP⟩:∃P,min (max 1 (wr .i64 (a.mins+1))) 1000=P:=⟨_,rfl⟩
 have hPb:1≤P∧P≤1000:=by omega
 have hPr:Zl a→P=((a.mins.toNat+1:Nat):Int):=fun r=>by
  have:=r.mins
  rw[←hP,Zo yde yde];omega
 simp -implicitDefEqProofs(maxSteps:=999999)(disch:=first|with_reducible rfl|omega|(simp only[nA,nS,nD]<;>omega)|fail)only[c51,go_sem,oC,oR,oG]
 rw[hz]
 clear hz
 refine Zk (min a.evs 4).toNat (fun i s=>∃tm,s=⟨tm,z,[]⟩∧(1≤P^i∧P^i≤2500)∧(Opd.t 1).ev tm=.ptr h.next 0∧(Opd.t 3).ev tm=.int .i64 (P^i)∧(Opd.t 10).ev tm=.int .i64 (min a.evs 4)∧(Opd.t 11).ev tm=.int .i64 (i:Int)) ?_ ?_ (i:=0) (Nat.zero_le _)
  ⟨_,rfl,by simp,yda,yda,yda,yda⟩
 ·rintro i s hi ⟨tm,rfl,hn,t1,t3,t10,t11⟩
  have hi':(i:Int)<min a.evs 4:=by omega
  have hm:=mul_in hn hPb
  have w1:wr .i64 (P^i*P)=P^(i+1):=by rw[Int.pow_succ];exact Zo yde yde
  have w2:wr .i64 ((i:Int)+1)=((i+1:Nat):Int):=by rw[Zo yde yde];omega
  rw[←Int.pow_succ] at hm
  by_cases hc:(2500:Int)<P^(i+1)
  ·simp -implicitDefEqProofs(maxSteps:=999999)(disch:=first|with_reducible rfl|omega|(simp only[nA,nS,nD]<;>omega)|fail)only[go_sem,t1,t3,t10,t11,hi',Za ga,hP,w1,hc]
   exact q _ _ sz fun h=>by cases h
  ·simp -implicitDefEqProofs(maxSteps:=999999)(disch:=first|with_reducible rfl|omega|(simp only[nA,nS,nD]<;>omega)|fail)only[go_sem,t1,t3,t10,t11,hi',Za ga,hP,w1,w2,hc]
   exact⟨_,rfl,⟨hm.1,Int.not_lt.1 hc⟩,ydc,yda,ydv,yda⟩
 ·rintro s ⟨tm,rfl,hn,t1,t3,t10,t11⟩
  have hi':¬((min a.evs 4).toNat:Int)<min a.evs 4:=by omega
  obtain⟨N0,hN0⟩:∃N0,P^(min a.evs 4).toNat=N0:=⟨_,rfl⟩
  rw[hN0] at hn t3
  have hNr:Zl a→N0=(((a.mins.toNat+1)^a.evs.toNat:Nat):Int):=fun r=>by
   have he:=r.evs
   rw[←hN0,hPr r,show(min a.evs 4).toNat=a.evs.toNat by omega]
   simp
  simp -implicitDefEqProofs(maxSteps:=999999)(disch:=first|with_reducible rfl|omega|(simp only[nA,nS,nD]<;>omega)|fail)only[go_sem,t1,t3,t10,t11,hi',Za ga,hlC]
  refine Zk a.cks.length (fun k s=>∃tm z2 n,s=⟨tm,z2,[]⟩∧z.Sub z2∧(1≤n∧n≤2500)∧(Zl a→n*(Yh (a.cks.drop k):Int)=(((a.mins.toNat+1)^a.evs.toNat*Yh a.cks:Nat):Int))∧
    (Opd.t 1).ev tm=.ptr h.next 0∧(Opd.t 3).ev tm=.int .i64 n∧(Opd.t 24).ev tm=C∧(Opd.t 25).ev tm=.int .i64 (a.cks.length:Int)∧(Opd.t 26).ev tm=.int .i64 (k:Int)) ?_ ?_ (i:=0) (Nat.zero_le _)
   ⟨_,_,N0,rfl,H.Sub.refl sz.wf,hn,fun r=>by rw[hNr r,List.drop_zero,Int.natCast_mul],ydc,ydd,yda,yda,yda⟩
  ·clear t1 t3 t10 t11 hn hi'
   rintro k s hk ⟨tm,z2,n,rfl,s2,hn,hr,t1,t3,t24,t25,t26⟩
   have hk':(k:Int)<(a.cks.length:Int):=by omega
   have s02:=sz.trans s2
   obtain⟨bC,oCC,cC,csC,_,hcC,hqC,hgC,_,_⟩:=(x.c.mono s02).at hk
   have hmem:=List.getElem_mem hk
   have hdrop:a.cks.drop k=a.cks[k]::a.cks.drop (k+1):=List.drop_eq_getElem_cons hk
   rw[hdrop,Yh] at hr
   generalize a.cks[k]=c at hgC hmem hr
   simp only[Z9] at hgC
   obtain⟨z3,hz3⟩:∃z3,z2.add (.cells .rw [.int .i64 c.sl,.int .i64 c.sh,.int .i64 c.gl,.int .i64 c.gh])=z3:=⟨_,rfl⟩
   have s3:z2.Sub z3:=by rw[←hz3];exact(H.Sub.refl s02.wf).add _
   have g5:z3.get z2.next=some (.cells .rw [.int .i64 c.sl,.int .i64 c.sh,.int .i64 c.gl,.int .i64 c.gh]):=by rw[←hz3];exact Zc rfl
   simp -implicitDefEqProofs(maxSteps:=999999)(disch:=first|with_reducible rfl|omega|(simp only[nA,nS,nD]<;>omega)|fail)only[go_sem,t1,t3,t24,t25,t26,hk',hqC (Zb k),hcC,hgC,hz3,Za g5]
   obtain⟨z4,hz4⟩:∃z4,z3.add (.cells .rw [.int .i64 c.sl,.int .i64 c.sh,.int .i64 c.gl,.int .i64 c.gh])=z4:=⟨_,rfl⟩
   have s4:z3.Sub z4:=by rw[←hz4];exact(H.Sub.refl s3.wf).add _
   have xx:Zg z4 (.sl z3.next 0 2 (.fix 2)) 2 (([(c.sl,c.sh),(c.gl,c.gh)]:ZZ).map XP):=by rw[←hz4];exact Zg.new _ rfl rfl rfl (by simp[XP]) ydA
   try rw[hz4]
   clear hz4
   have s24:=s2.trans (s3.trans s4)
   have hr0:Zl a→n*(remC c (Yh (a.cks.drop (k+1))) 0:Int)=(((a.mins.toNat+1)^a.evs.toNat*Yh a.cks:Nat):Int):=hr
   generalize Yh (a.cks.drop (k+1))=RR at hr0
   refine Zk 2 (fun j s=>∃tm z5 n,s=⟨tm,z5,[]⟩∧z4.Sub z5∧(1≤n∧n≤2500)∧(Zl a→n*(remC c RR j:Int)=(((a.mins.toNat+1)^a.evs.toNat*Yh a.cks:Nat):Int))∧
     (Opd.t 1).ev tm=.ptr h.next 0∧(Opd.t 3).ev tm=.int .i64 n∧(Opd.t 24).ev tm=C∧(Opd.t 25).ev tm=.int .i64 (a.cks.length:Int)∧(Opd.t 26).ev tm=.int .i64 (k:Int)∧(Opd.t 34).ev tm=.sl z3.next 0 2 (.fix 2)∧(Opd.t 35).ev tm=.int .i64 2∧(Opd.t 36).ev tm=.int .i64 (j:Int)) ?_ ?_ (i:=0) (Nat.zero_le _)
    ⟨_,_,n,rfl,H.Sub.refl s4.wf,hn,hr0,ydc,ydd,ydC,ydD,ydE,yda,yda,yda⟩
   ·clear t1 t3 t24 t25 t26 hn hr hr0
    rintro j s hj ⟨tm,z5,n,rfl,s5,hn,hr,t1,t3,t24,t25,t26,t34,t35,t36⟩
    have hj':(j:Int)<2:=by omega
    have hf:=fun r=>fac_cnt r hmem hj
    obtain⟨bX,oX,cX,csX,_,hcX,hqX,hgX,_,_⟩:=(xx.mono s5).at hj
    have hrem:=remC_step c RR hj
    generalize([(c.sl,c.sh),(c.gl,c.gh)]:ZZ)[j]=sp at hgX hf
    obtain⟨lo,hi⟩:=sp
    simp only[XP] at hgX
    obtain⟨z6,hz6⟩:∃z6,z5.add (.cells .rw [.int .i64 lo,.int .i64 hi])=z6:=⟨_,rfl⟩
    have s6:z5.Sub z6:=by rw[←hz6];exact(H.Sub.refl s5.wf).add _
    have g7:z6.get z5.next=some (.cells .rw [.int .i64 lo,.int .i64 hi]):=by rw[←hz6];exact Zc rfl
    have s06:=sz.trans (s24.trans (s5.trans s6))
    have w36:wr .i64 ((j:Int)+1)=((j+1:Nat):Int):=by rw[Zo yde yde];omega
    have hb:=facI_bd (lo,hi)
    have hm:=mul_in hn ⟨hb.1,Int.le_trans hb.2 ydy⟩
    have hr':Zl a→n*facI (lo,hi)*(remC c RR (j+1):Int)=(((a.mins.toNat+1)^a.evs.toNat*Yh a.cks:Nat):Int):=fun r=>by
     rw[←hr r,hrem,hf r,Int.natCast_mul,Int.mul_assoc]
    have no:facI (lo,hi)=1→n*facI (lo,hi)=n:=fun e=>by rw[e,Int.mul_one]
    have fin:∀m tm',n*facI (lo,hi)=m→(Opd.t 1).ev tm'=.ptr h.next 0→(Opd.t 3).ev tm'=.int .i64 m→(Opd.t 24).ev tm'=C→(Opd.t 25).ev tm'=.int .i64 (a.cks.length:Int)→(Opd.t 26).ev tm'=.int .i64 (k:Int)→(Opd.t 34).ev tm'=.sl z3.next 0 2 (.fix 2)→(Opd.t 35).ev tm'=.int .i64 2→(Opd.t 36).ev tm'=.int .i64 ((j+1:Nat):Int)→m≤2500→
      ∃tm z5 n,(⟨tm',z6,[]⟩:St)=⟨tm,z5,[]⟩∧z4.Sub z5∧(1≤n∧n≤2500)∧(Zl a→n*(remC c RR (j+1):Int)=(((a.mins.toNat+1)^a.evs.toNat*Yh a.cks:Nat):Int))∧
       (Opd.t 1).ev tm=.ptr h.next 0∧(Opd.t 3).ev tm=.int .i64 n∧(Opd.t 24).ev tm=C∧(Opd.t 25).ev tm=.int .i64 (a.cks.length:Int)∧(Opd.t 26).ev tm=.int .i64 (k:Int)∧(Opd.t 34).ev tm=.sl z3.next 0 2 (.fix 2)∧(Opd.t 35).ev tm=.int .i64 2∧(Opd.t 36).ev tm=.int .i64 ((j+1:Nat):Int):=fun m tm' e1 u1 u3 u24 u25 u26 u34 u35 u36 hle=>by
     subst e1
     exact⟨tm',z6,_,rfl,s5.trans s6,⟨hm.1,hle⟩,hr',u1,u3,u24,u25,u26,u34,u35,u36⟩
    have nn:¬(2500:Int)<n:=by omega
    by_cases d1: -60≤lo
    case neg=>
     have e:=no ydI
     simp -implicitDefEqProofs(maxSteps:=999999)(disch:=first|with_reducible rfl|omega|(simp only[nA,nS,nD]<;>omega)|fail)only[go_sem,t1,t3,t24,t25,t26,t34,t35,t36,hj',hqX (Zb j),hcX,hgX,hz6,Za g7,d1,nn,w36]
     exact fin _ _ e ydc ydd ydC ydD ydE ydJ ydK yda yde
    by_cases d2:hi≤60
    case neg=>
     have e:=no ydI
     simp -implicitDefEqProofs(maxSteps:=999999)(disch:=first|with_reducible rfl|omega|(simp only[nA,nS,nD]<;>omega)|fail)only[go_sem,t1,t3,t24,t25,t26,t34,t35,t36,hj',hqX (Zb j),hcX,hgX,hz6,Za g7,d1,d2,nn,w36]
     exact fin _ _ e ydc ydd ydC ydD ydE ydJ ydK yda yde
    by_cases d3:lo≤hi
    case neg=>
     have e:=no ydI
     simp -implicitDefEqProofs(maxSteps:=999999)(disch:=first|with_reducible rfl|omega|(simp only[nA,nS,nD]<;>omega)|fail)only[go_sem,t1,t3,t24,t25,t26,t34,t35,t36,hj',hqX (Zb j),hcX,hgX,hz6,Za g7,d1,d2,d3,nn,w36]
     exact fin _ _ e ydc ydd ydC ydD ydE ydJ ydK yda yde
    have ef:facI (lo,hi)=min (hi-lo+1) 100:=by unfold facI;rw[if_pos ⟨d1,d2,d3⟩]
    have w1:wr .i64 (hi-lo)=hi-lo:=Zo yde yde
    have w2:wr .i64 (hi-lo+1)=hi-lo+1:=Zo yde yde
    have w3:wr .i64 (n*min (hi-lo+1) 100)=n*facI (lo,hi):=by rw[ef];rw[ef] at hm;exact Zo yde yde
    by_cases hc:(2500:Int)<n*facI (lo,hi)
    ·simp -implicitDefEqProofs(maxSteps:=999999)(disch:=first|with_reducible rfl|omega|(simp only[nA,nS,nD]<;>omega)|fail)only[go_sem,t1,t3,t24,t25,t26,t34,t35,t36,hj',hqX (Zb j),hcX,hgX,hz6,Za g7,d1,d2,d3,w1,w2,w3,hc]
     exact q _ _ s06 fun h=>by cases h
    ·simp -implicitDefEqProofs(maxSteps:=999999)(disch:=first|with_reducible rfl|omega|(simp only[nA,nS,nD]<;>omega)|fail)only[go_sem,t1,t3,t24,t25,t26,t34,t35,t36,hj',hqX (Zb j),hcX,hgX,hz6,Za g7,d1,d2,d3,w1,w2,w3,hc,w36]
     exact fin _ _ rfl ydc yda ydC ydD ydE ydJ ydK yda yde
   ·clear t1 t3 t24 t25 t26 hn hr hr0
    rintro s ⟨tm,z5,n,rfl,s5,hn,hr,t1,t3,t24,t25,t26,t34,t35,t36⟩
    have hj':¬((2:Nat):Int)<2:=by omega
    have w26:wr .i64 ((k:Int)+1)=((k+1:Nat):Int):=by rw[Zo yde (by have:=x.c.2.1;rw[List.length_map] at this;omega)];omega
    simp -implicitDefEqProofs(maxSteps:=999999)(disch:=first|with_reducible rfl|omega|(simp only[nA,nS,nD]<;>omega)|fail)only[go_sem,t1,t3,t24,t25,t26,t34,t35,t36,hj',w26]
    exact⟨_,_,n,rfl,s24.trans s5,hn,hr,ydc,ydd,ydC,ydD,yda⟩
  ·clear t1 t3 t10 t11 hn hi'
   rintro s ⟨tm,z2,n,rfl,s2,hn,hr,t1,t3,t24,t25,t26⟩
   rw[List.drop_length,Yh] at hr
   have s02:=sz.trans s2
   simp -implicitDefEqProofs(maxSteps:=999999)(disch:=first|with_reducible rfl|omega|(simp only[nA,nS,nD]<;>omega)|fail)only[go_sem,t1,t3,t24,t25,t26,Int.lt_irrefl,Za (s2.get ga),oC,oR,oG]
   refine great_ev s02.wf (x.mono s02) _ fun z3 s3=>?_
   simp -implicitDefEqProofs(maxSteps:=999999)(disch:=first|with_reducible rfl|omega|(simp only[nA,nS,nD]<;>omega)|fail)only[go_sem]
   refine q _ _ (s02.trans s3) fun hg=>⟨hg,fun r=>?_⟩
   have:=hr r
   omega
end Go.Ab.Tryz
namespace Go.Ab.Tryz
open Go.Proofs
def Cs (n0:Nat)(z5 z:H)(cs:List (List V)):Prop:=z5.Sub z∧z5.next≤n0∧n0+cs.length≤z.next∧∀(i:Nat) (c:List V),cs[i]? =some c→z.get (n0+i)=some (.bk c)
variable {z5 z z':H} {cs:List (List V)} {n0:Nat}
theorem Cs.mono (k:Cs n0 z5 z cs)(s:z.Sub z'):Cs n0 z5 z' cs:=⟨k.1.trans s,k.2.1,Nat.le_trans k.2.2.1 s.next,fun i c h=>s.get (k.2.2.2 i c h)⟩
theorem Cs.set (k:Cs n0 z5 z cs)(hw:z5.wf){b i:Nat}(hb:b=n0+i)(hi:i<cs.length)(c:List V):Cs n0 z5 (z.set b (.bk c)) (cs.set i c):=by
 obtain⟨s,l0,l1,g⟩:=k
 subst hb
 refine⟨s.set yde yde hw _,l0,by rw[List.length_set,H.next_set];exact l1,fun j c' hj=>?_⟩
 rw[List.getElem?_set] at hj
 by_cases e:i=j
 ·subst e
  rw[if_pos rfl,if_pos hi] at hj
  cases hj
  exact get_set_same rfl
 ·rw[if_neg e] at hj
  rw[get_set_other yde]
  exact g j c' hj
theorem ZQ {a:At}{n:Int}:a.evB n=true↔0≤n∧n<a.evs:=by unfold At.evB;rw[Zs];omega
def erU (a:At)(f:Int):Int:=if a.evB f=true then 0 else 1
def erV (a:At)(f t:Int):Int:=if a.evB f=true∧a.evB t=true then 0 else 1
def erZ (a:At)(f t pay:Int):Int:=if erV a f t≠0 then 1 else if inB pay 0 600=true then 0 else 3
def er7 (a:At)(e:Int):Int:=if e=0∧ZR a=[] then 7 else e
theorem errT_r {a:At}(r:Zl a)(b:Bool):ZO a b=er7 a (if b=true then 1 else 0):=by
 unfold ZO er7
 rw[if_neg ydO]
 cases b with
 |true=>simp
 |false=>
  by_cases h:ZR a=[]<;>simp[h]
theorem timeR_r {a:At}(r:Zl a){f:Int}:Xt a f=(if er7 a (erU a f)=0 then ZX ((Yf a).map fun x=>Zr x.2.2 f.toNat) else(0,0),er7 a (erU a f)):=by
 have e:ZO a (!a.evB f)=er7 a (erU a f):=by
  rw[errT_r r];unfold erU
  cases a.evB f<;>simp
 unfold Xt
 rw[e]
 by_cases h:er7 a (erU a f)=0
 ·rw[if_neg ydQ,if_pos h]
  have h0:=h
  unfold er7 erU at h
  by_cases hb:a.evB f=true
  ·rw[if_pos hb] at h
   have hne:ZR a≠[]:=fun e=>by rw[if_pos ⟨rfl,e⟩] at h;cases h
   obtain⟨k,rfl,hk⟩:=Xc r hb
   have:=ZQ.1 hb
   rw[Int.toNat_natCast,wide_time r hne yde,h0]
  ·rw[if_neg hb,if_neg ydA] at h;cases h
 ·rw[if_pos h,if_neg h]
theorem evV_ok {a:At}{f t:Int}(h:er7 a (erV a f t)=0):(a.evB f=true∧a.evB t=true)∧ZR a≠[]:=by
 unfold er7 erV at h
 by_cases hb:a.evB f=true∧a.evB t=true
 ·rw[if_pos hb] at h
  exact⟨hb,fun e=>by rw[if_pos ⟨rfl,e⟩] at h;cases h⟩
 ·rw[if_neg hb,if_neg ydA] at h;cases h
theorem btwR_e {a:At}(r:Zl a){f t:Int}:ZO a (!a.evB f|| !a.evB t)=er7 a (erV a f t):=by
 rw[errT_r r];unfold erV
 cases a.evB f<;>cases a.evB t<;>simp
theorem btwR_r {a:At}(r:Zl a){f t:Int}:Yd a f t=(if er7 a (erV a f t)=0 then ZX ((Yf a).map fun x=>Zr x.2.2 t.toNat-Zr x.2.2 f.toNat) else(0,0),er7 a (erV a f t)):=by
 unfold Yd
 rw[btwR_e r]
 by_cases h:er7 a (erV a f t)=0
 ·rw[if_neg ydQ,if_pos h,h]
  obtain⟨⟨h1,h2⟩,hne⟩:=evV_ok h
  obtain⟨k,rfl,hk⟩:=Xc r h1
  obtain⟨j,rfl,hj⟩:=Xc r h2
  have q1:=ZQ.1 h1
  have q2:=ZQ.1 h2
  rw[Int.toNat_natCast,Int.toNat_natCast,wide_betw r hne (.inl yde) (.inl yde)]
 ·rw[if_pos h,if_neg h]
theorem beforeR_r {a:At}(r:Zl a){f t:Int}:XR a f t=(if er7 a (erV a f t)=0 then befT (Yf a) f.toNat t.toNat else 0,er7 a (erV a f t)):=by
 unfold XR
 have e2:(Yd a f t).2=er7 a (erV a f t):=by rw[btwR_r r]
 rw[e2]
 by_cases h:er7 a (erV a f t)=0
 ·rw[if_neg ydQ,if_pos h,h]
  obtain⟨⟨h1,h2⟩,hne⟩:=evV_ok h
  have e1:(Yd a f t).1=Xe f.toNat t.toNat (allM a):=by
   unfold Yd
   rw[btwR_e r,if_neg ydQ]
  obtain⟨k,rfl,hk⟩:=Xc r h1
  obtain⟨j,rfl,hj⟩:=Xc r h2
  have q1:=ZQ.1 h1
  have q2:=ZQ.1 h2
  rw[e1]
  rw[Int.toNat_natCast,Int.toNat_natCast,bef_betw r hne yde yde]
  split
  ·rfl
  ·split<;>rfl
 ·rw[if_pos h,if_neg h]
theorem wagesR_r {a:At}(r:Zl a){f t pay:Int}:YV a f t pay=(if er7 a (erZ a f t pay)=0 then ZX ((Yf a).map fun x=>VC (Zr x.2.2 t.toNat-Zr x.2.2 f.toNat) pay) else(0,0),er7 a (erZ a f t pay)):=by
 unfold YV
 have e2:(Yd a f t).2=er7 a (erV a f t):=by rw[btwR_r r]
 rw[if_neg ydO,e2]
 by_cases hb:a.evB f=true∧a.evB t=true
 ·have ev:erV a f t=0:=if_pos hb
  rw[if_neg (by rw[hb.1,hb.2];simp)]
  cases hp:inB pay 0 600 with
  |false=>
   have ez:erZ a f t pay=3:=by unfold erZ;rw[if_neg (by rw[ev];simp),hp];rfl
   have e7:er7 a 3=3:=by unfold er7;rw[if_neg ydA]
   rw[ez,e7];rfl
  |true=>
   have ez:erZ a f t pay=0:=by unfold erZ;rw[if_neg (by rw[ev];simp),hp];rfl
   rw[ez,ev]
   by_cases h:er7 a 0=0
   ·rw[if_neg ydA,if_neg ydQ,if_pos h,h]
    have hne:ZR a≠[]:=(evV_ok (f:=f) (t:=t) (by rw[ev];exact h)).2
    have e1:(Yd a f t).1=Xe f.toNat t.toNat (allM a):=by
     unfold Yd
     rw[btwR_e r,ev,if_neg ydQ]
    obtain⟨k,rfl,hk⟩:=Xc r hb.1
    obtain⟨j,rfl,hj⟩:=Xc r hb.2
    have q1:=ZQ.1 hb.1
    have q2:=ZQ.1 hb.2
    rw[e1,Int.toNat_natCast,Int.toNat_natCast,wide_wage r hne yde yde ((Zs ..).1 hp).1]
   ·rw[if_neg ydA,if_pos h,if_neg h]
 ·have ev:erV a f t=1:=if_neg hb
  have ez:erZ a f t pay=1:=by unfold erZ;rw[if_pos (by rw[ev];simp)]
  have e7:er7 a 1=1:=by unfold er7;rw[if_neg ydA]
  have hb':(!a.evB f|| !a.evB t)=true:=by
   cases h1:a.evB f<;>cases h2:a.evB t<;>simp_all
  rw[if_pos hb',ez,e7];rfl
end Go.Ab.Tryz
namespace Go.Ab
theorem PBd_st {Fn:Nat→Option FD}{fast:Nat→Option (List V→H→Option (V × H))}{N:Nat}{fn:FuncId}{ro:Option Nat}{b:Bool}{a c:C}{s:St}{K:X→St→Prop}(P:St→Prop)(hp:P s)(f:∀s',P s'→PBd (.bool b) (W Fn fast N fn ro a s' K) (W Fn fast N fn ro c s' K) ⟨⟩):PBd (.bool b) (W Fn fast N fn ro a s K) (W Fn fast N fn ro c s K) ⟨⟩:=f s hp
end Go.Ab
namespace Go.Ab.Tryz
open Go.Proofs
theorem Uo {a:At}(h:Zn a≠0)(b:Bool):ZO a b=Zn a:=if_pos h
theorem timeR_no {a:At}(h:Zn a≠0)(f:Int):Xt a f=((0,0),Zn a):=by unfold Xt;rw[Uo h,if_pos h]
theorem btwR_no {a:At}(h:Zn a≠0)(f t:Int):Yd a f t=((0,0),Zn a):=by unfold Yd;rw[Uo h,if_pos h]
theorem beforeR_no {a:At}(h:Zn a≠0)(f t:Int):XR a f t=(0,Zn a):=by unfold XR;rw[btwR_no h,if_pos h]
theorem wagesR_no {a:At}(h:Zn a≠0)(f t pay:Int):YV a f t pay=((0,0),Zn a):=by unfold YV;rw[if_pos h]
theorem runsN_pos:∀{cs:List Ck},(∀c∈cs,1≤c.ns∧1≤c.ng)→1≤Yh cs
 |[],_=>Nat.le_refl _
 |c::cs,h=>by
  have h0:=h c (List.mem_cons_self ..)
  exact Nat.le_trans (runsN_pos fun c hc=>h c (List.mem_cons_of_mem _ hc)) (runsN_le h0.1 h0.2)
theorem wide_bds {a:At}(r:Zl a)(h:(a.mins.toNat+1)^a.evs.toNat*Yh a.cks≤2500):(a.mins.toNat+1)^a.evs.toNat≤2500∧Yh a.cks≤2500:=by
 have h1:1≤Yh a.cks:=runsN_pos fun c hc=>by
  have hco:=r.co _ hc
  simp only[Ck.ord,Bool.and_eq_true,decide_eq_true_eq] at hco
  unfold Ck.ns Ck.ng
  omega
 have h2:1≤(a.mins.toNat+1)^a.evs.toNat:=Nat.one_le_pow _ _ yde
 exact⟨Nat.le_trans (Nat.le_mul_of_pos_right _ h1) h,Nat.le_trans (Nat.le_mul_of_pos_left _ h2) h⟩
theorem before_err (a:At)(f t:Int):(XR a f t).2=(Yd a f t).2:=by
 unfold XR
 by_cases h:(Yd a f t).2≠0
 ·rw[if_pos h]
 ·rw[if_neg h,Decidable.not_not.1 h]
  split
  ·rfl
  ·split<;>rfl
theorem feq_same (a b:Int):q_feq false 2 (.agg [.ii a,.ii b]) (.agg [.ii a,.ii b])=some (.bool true):=by
 have:=X2 (n:=2) [a,b] [a,b] rfl rfl false
 simpa[iv,ngB] using this
structure TmT (h:H)(b9 n0:Nat)(f t pay:Int)(tm:Go.Ab.T V):Prop where
 t1:tm.E 1=.ii f
 t2:tm.E 2=.ii t
 t3:tm.E 3=.ii pay
 t4:tm.E 4=.ptr h.next 0
 t9:tm.E 9=.ptr b9 0
 t12:tm.E 12=.ptr n0 0
 t13:tm.E 13=.ptr (n0+1) 0
 t14:tm.E 14=.ptr (n0+2) 0
 t15:tm.E 15=.ptr (n0+3) 0
 t16:tm.E 16=.ptr (n0+4) 0
 t17:tm.E 17=.ptr (n0+5) 0
def i1 (n:Int):List V:=[.ii n]
def i2 (s:Int × Int):List V:=[.ii s.1,.ii s.2]
set_option maxHeartbeats 16000000 in
theorem ClockTimes_sub {h:H}(hw:h.wf){a:At}{C R G:V}(x:ZP h C R G a)(f t pay:Int):Ev fnG Zi (.fn 12 [] []) [.agg (atV a C R G),.ii f,.ii t,.ii pay] h fun v h'=>v=.bool true∧h.Sub h':=by
 refine Ev.gen fun Q q=>?_
 have oC:=x.c.one;have oR:=x.r.one;have oG:=x.g.one
 refine Ze (fd:=c12) rfl rfl rfl ?_
 obtain⟨z,hz⟩:∃z,h.add (.bk (atV a C R G))=z:=⟨_,rfl⟩
 have sz:h.Sub z:=by rw[←hz];exact ydb
 have nz:z.next=h.next+1:=by rw[←hz];simp only[H.next_add]
 have ga:z.get h.next=some (.bk (atV a C R G)):=by rw[←hz];exact Zc rfl
 simp -implicitDefEqProofs(disch:=first|omega|simp only[nZ]<;>omega|fail)only[c12,go_sem,oC,oR,oG,hz,Za ga]
 try rw[hz]
 clear hz
 refine wide_ev sz.wf (x.mono sz) _ fun wd z1 s1 hwd=>?_
 cases wd with
 |true=>
  simp -implicitDefEqProofs(disch:=first|omega|simp only[nZ]<;>omega|fail)only[go_sem,Z3]
  exact q _ _ ⟨rfl,sz.trans s1⟩
 |false=>
 obtain⟨hg,hbd⟩:=hwd rfl
 clear hwd
 have hl:a.cks.length≤8∧a.rds.length≤12∧a.gps.length≤9:=by
  simp only[XK,decide_eq_false_iff_not] at hg
  omega
 have sm:YJ a:=⟨by omega,by omega,by omega⟩
 have s01:=sz.trans s1
 simp -implicitDefEqProofs(disch:=first|omega|simp only[nZ]<;>omega|fail)only[go_sem,Za (s1.get ga),oC,oR,oG]
 refine own_ev s01.wf (x.mono s01) sm _ fun C1 R1 G1 z2 n2=>?_
 have s2:=n2.s
 have s02:=s01.trans s2
 have s12:=s1.trans s2
 simp -implicitDefEqProofs(disch:=first|omega|simp only[nZ]<;>omega|fail)only[go_sem,Za (s1.get ga),Za (s12.get ga),oC,oR,oG]
 refine XY s02.wf (x.mono s02) sm _ fun C2 R2 G2 z3 s3 x3=>?_
 have s03:=s02.trans s3
 have x1:=(n2.at_ sm).mono s3
 have o1C:=x1.c.one;have o1R:=x1.r.one;have o1G:=x1.g.one
 have o2C:=x3.c.one;have o2R:=x3.r.one;have o2G:=x3.g.one
 simp -implicitDefEqProofs(disch:=first|omega|simp only[nZ]<;>omega|fail)only[go_sem,Za (s1.get ga),Za (s12.get ga),Za ((s12.trans s3).get ga),o1C,o1R,o1G,o2C,o2R,o2G,oC,oR,oG]
 obtain⟨z4,hz4⟩:∃z4,((((z3.add (.bk [.ii 0,.ii 0,.nils,.nils,.nils])).add (.bk [.ii 0,.ii 0,.nils,.nils,.nils])).set z3.next (.bk (atV a C1 R1 G1))).set (z3.next+1) (.bk (atV a C2 R2 G2)))=z4:=⟨_,rfl⟩
 have s4:z3.Sub z4:=by have:=s03.wf;rw[←hz4];exact ydb
 have g9:z4.get z3.next=some (.bk (atV a C1 R1 G1)):=by rw[←hz4];simp -implicitDefEqProofs(disch:=first|omega|simp only[nZ]<;>omega|fail)only[go_sem]
 have g10:z4.get (z3.next+1)=some (.bk (atV a C2 R2 G2)):=by rw[←hz4];simp -implicitDefEqProofs(disch:=first|omega|simp only[nZ]<;>omega|fail)only[go_sem]
 rw[hz4]
 clear hz4
 refine Y2 s4.wf (x3.mono s4) sm _ fun z5 s5=>?_
 have s45:=s4.trans s5
 have s05:=s03.trans s45
 have x1':=x1.mono s45
 have x3':=x3.mono s45
 have xa:=x.mono s05
 have ga5:=(s12.trans (s3.trans s45)).get ga
 have g95:=s5.get g9
 have g105:=s5.get g10
 have hw5:=s05.wf
 have l9:=hw5 _ _ g95
 have l10:=hw5 _ _ g105
 clear g9 g10 x1 x3 ga n2
 simp -implicitDefEqProofs(disch:=first|omega|simp only[nZ]<;>omega|fail)only[go_sem]
 obtain⟨J,hJ⟩:∃J:St→Prop,∀s,J s↔∃tm z,s=⟨tm,z,[]⟩∧TmT h z3.next z5.next f t pay tm∧tm.E 10=.ptr (z3.next+1) 0∧tm.E 18=.ii 0∧Cs z5.next z5 z [i1 (Zn a),i1 (Zn a),i1 (Zn a),i2 (0,0),i2 (0,0),i2 (0,0)]:=⟨_,fun s=>Iff.rfl⟩
 obtain⟨K,hK⟩:∃K:St→Prop,∀s,K s↔∃tm z,s=⟨tm,z,[]⟩∧TmT h z3.next z5.next f t pay tm∧tm.E 18=.ii (XR a f t).1∧Cs z5.next z5 z [i1 (Xt a f).2,i1 (Yd a f t).2,i1 (YV a f t pay).2,i2 (Xt a f).1,i2 (Yd a f t).1,i2 (YV a f t pay).1]:=⟨_,fun s=>Iff.rfl⟩
 refine PBd_st J ((hJ _).2 ⟨_,_,rfl,⟨yda,yda,yda,yda,yda,yda,ydz,ydz,ydz,ydz,ydz⟩,yda,yda,?_⟩) fun s hs=>?_
 ·refine⟨ydb,Nat.le_refl _,by simp only[H.next_set,H.next_add,List.length_cons,List.length_nil];omega,fun i c hi=>?_⟩
  have hlt:=Vf hi
  simp only[List.length_cons,List.length_nil] at hlt
  rcases(by omega:i=0∨i=1∨i=2∨i=3∨i=4∨i=5) with rfl|rfl|rfl|rfl|rfl|rfl<;>(cases hi;simp -implicitDefEqProofs(disch:=first|omega|simp only[nZ]<;>omega|fail)only[go_sem,i1,i2,Nat.add_zero])
 obtain⟨tm,z6,rfl,k,t10,t18,cs⟩:=(hJ s).1 hs
 have tr_n:z5.next+6≤z6.next:=cs.2.2.1
 refine PB_cut (p:=Zn a=0) K ?_ ?_ ?_
 ·intro he
  have r:=Zz.1 he
  rw[he] at cs
  obtain⟨hb1,hb2⟩:=wide_bds r (hbd r)
  have hb:=hbd r
  obtain⟨t1,t2,t3,t4,t9,t12,t13,t14,t15,t16,t17⟩:=k
  have g10:=cs.1.get g105
  have s06:=s05.trans cs.1
  obtain⟨A,hA⟩:∃A:V→Int→Int→Int→Int × Int→Int × Int→Int × Int→Int→St→Prop,∀yf U V' Z p1 p2 p3 bf s,A yf U V' Z p1 p2 p3 bf s↔∃tm z,s=⟨tm,z,[]⟩∧TmT h z3.next z5.next f t pay tm∧tm.E 19=yf∧tm.E 18=.ii bf∧Cs z5.next z5 z [i1 U,i1 V',i1 Z,i2 p1,i2 p2,i2 p3]∧TR z6.next z yf (Yf a):=⟨_,fun _ _ _ _ _ _ _ _ _=>Iff.rfl⟩
  refine ZD (fun s=>∃yf,A yf 0 0 0 (0,0) (0,0) (0,0) 0 s) ?_ ?_
  ·simp -implicitDefEqProofs(disch:=first|omega|simp only[nZ]<;>omega|fail)only[go_sem,t10,Za g10,o2C,o2R,o2G]
   refine All_ev s06.wf (x3'.mono cs.1) r yde yde yde _ fun yl z7 s7 tr=>?_
   simp -implicitDefEqProofs(disch:=first|omega|simp only[nZ]<;>omega|fail)only[go_sem,t10,Za g10,Za (s7.get g10),o2C,o2R,o2G,tr.one]
   refine Fitting_ev (s06.trans s7).wf (x3'.mono (cs.1.trans s7)) r tr s7.next (by have:=allT_len a;omega) _ fun yf z8 s8 tf=>?_
   simp -implicitDefEqProofs(disch:=first|omega|simp only[nZ]<;>omega|fail)only[go_sem,t10,Za g10,Za (s7.get g10),Za ((s7.trans s8).get g10),o2C,o2R,o2G,tr.one]
   exact⟨yf,(hA _ _ _ _ _ _ _ _ _).2 ⟨_,_,rfl,⟨ydc,ydf,ydd,ydi,ydh,ydg,ydk,ydj,ydl,ydm,ydn⟩,yda,ydo,cs.mono (s7.trans s8),tf⟩⟩
  clear t1 t2 t3 t4 t9 t12 t13 t14 t15 t16 t17 t10 t18 cs
  rintro s ⟨yf,hs⟩
  have hin:=fun u (hu:u∈Yf a)=>fitT_in r hu
  have lenF:(Yf a).length≤100000:=by have:=fitT_len a;omega
  refine ZD (A yf (erU a f) 0 0 (0,0) (0,0) (0,0) 0) ?_ fun s hs=>?_
  ·obtain⟨tm,z,rfl,⟨t1,t2,t3,t4,t9,t12,t13,t14,t15,t16,t17⟩,t19,t18,cs,tf⟩:=(hA _ _ _ _ _ _ _ _ _).1 hs
   have d0:z.get z5.next=_:=cs.2.2.2 0 _ rfl
   simp only[i1] at d0
   have gz:=cs.1.get ga5
   have csA:=cs.set hw5 (b:=z5.next) (i:=0) rfl ydA [.ii 1]
   have gA:=csA.1.get ga5
   have dA:(z.set z5.next (.bk [.ii 1])).get z5.next=_:=csA.2.2.2 0 _ rfl
   have kA:TR z6.next (z.set z5.next (.bk [.ii 1])) yf (Yf a):=tf.keep (Zh.set ..) fun b e=>by omega
   by_cases h0:0≤f
   ·by_cases h1:f<a.evs
    ·have e:erU a f=0:=if_pos (ZQ.2 ⟨h0,h1⟩)
     simp -implicitDefEqProofs(disch:=first|omega|simp only[nZ]<;>omega|fail)only[go_sem,t1,t4,t12,d0,dA,h0,h1,Za gz,Za gA]
     rw[e]
     exact(hA _ _ _ _ _ _ _ _ _).2 ⟨_,_,rfl,⟨ydc,ydf,ydd,ydi,ydh,ydg,ydk,ydj,ydl,ydm,ydn⟩,ydp,ydo,cs.set hw5 (b:=z5.next) (i:=0) rfl ydA [.ii 0],tf.keep (Zh.set ..) fun b e=>by omega⟩
    ·have e:erU a f=1:=if_neg (fun q=>h1 (ZQ.1 q).2)
     simp -implicitDefEqProofs(disch:=first|omega|simp only[nZ]<;>omega|fail)only[go_sem,t1,t4,t12,d0,dA,h0,h1,Za gz,Za gA]
     rw[e]
     exact(hA _ _ _ _ _ _ _ _ _).2 ⟨_,_,rfl,⟨ydc,ydf,ydd,ydi,ydh,ydg,ydk,ydj,ydl,ydm,ydn⟩,ydp,ydo,csA,kA⟩
   ·have e:erU a f=1:=if_neg (fun q=>h0 (ZQ.1 q).1)
    simp -implicitDefEqProofs(disch:=first|omega|simp only[nZ]<;>omega|fail)only[go_sem,t1,t4,t12,d0,dA,h0,Za gz,Za gA]
    rw[e]
    exact(hA _ _ _ _ _ _ _ _ _).2 ⟨_,_,rfl,⟨ydc,ydf,ydd,ydi,ydh,ydg,ydk,ydj,ydl,ydm,ydn⟩,ydp,ydo,csA,kA⟩
  refine ZD (A yf (erU a f) (erV a f t) 0 (0,0) (0,0) (0,0) 0) ?_ fun s hs=>?_
  ·obtain⟨tm,z,rfl,⟨t1,t2,t3,t4,t9,t12,t13,t14,t15,t16,t17⟩,t19,t18,cs,tf⟩:=(hA _ _ _ _ _ _ _ _ _).1 hs
   have d0:z.get z5.next=_:=cs.2.2.2 0 _ rfl
   have d1:z.get (z5.next+1)=_:=cs.2.2.2 1 _ rfl
   simp only[i1] at d0 d1
   have csA:=cs.set hw5 (b:=z5.next+1) (i:=1) rfl ydA [.ii (erU a f)]
   have gA:=csA.1.get ga5
   have dA:(z.set (z5.next+1) (.bk [.ii (erU a f)])).get (z5.next+1)=_:=csA.2.2.2 1 _ rfl
   have kA:TR z6.next (z.set (z5.next+1) (.bk [.ii (erU a f)])) yf (Yf a):=tf.keep (Zh.set ..) fun b e=>by omega
   by_cases h0:t<0
   ·have e:erV a f t=1:=if_neg (fun q=>by have:=(ZQ.1 q.2).1;omega)
    simp -implicitDefEqProofs(disch:=first|omega|simp only[nZ]<;>omega|fail)only[go_sem,t2,t4,t12,t13,d0,d1,dA,Za d0,h0,Za gA]
    rw[e]
    exact(hA _ _ _ _ _ _ _ _ _).2 ⟨_,_,rfl,⟨ydc,ydf,ydd,ydi,ydh,ydg,ydk,ydj,ydl,ydm,ydn⟩,ydp,ydo,cs.set hw5 (b:=z5.next+1) (i:=1) rfl ydA [.ii 1],tf.keep (Zh.set ..) fun b e=>by omega⟩
   ·by_cases h1:a.evs≤t
    ·have e:erV a f t=1:=if_neg (fun q=>by have:=(ZQ.1 q.2).2;omega)
     simp -implicitDefEqProofs(disch:=first|omega|simp only[nZ]<;>omega|fail)only[go_sem,t2,t4,t12,t13,d0,d1,dA,Za d0,h0,h1,Za gA]
     rw[e]
     exact(hA _ _ _ _ _ _ _ _ _).2 ⟨_,_,rfl,⟨ydc,ydf,ydd,ydi,ydh,ydg,ydk,ydj,ydl,ydm,ydn⟩,ydp,ydo,cs.set hw5 (b:=z5.next+1) (i:=1) rfl ydA [.ii 1],tf.keep (Zh.set ..) fun b e=>by omega⟩
    ·have e:erV a f t=erU a f:=by
      have:=ZQ (a:=a) (n:=t)
      unfold erV erU
      by_cases hf:a.evB f=true
      ·rw[if_pos hf,if_pos ⟨hf,ZQ.2 yde⟩]
      ·rw[if_neg hf,if_neg fun q=>hf q.1]
     simp -implicitDefEqProofs(disch:=first|omega|simp only[nZ]<;>omega|fail)only[go_sem,t2,t4,t12,t13,d0,d1,dA,Za d0,h0,h1,Za gA]
     rw[e]
     exact(hA _ _ _ _ _ _ _ _ _).2 ⟨_,_,rfl,⟨ydc,ydf,ydd,ydi,ydh,ydg,ydk,ydj,ydl,ydm,ydn⟩,ydp,ydo,csA,kA⟩
  refine ZD (A yf (erU a f) (erV a f t) (erZ a f t pay) (0,0) (0,0) (0,0) 0) ?_ fun s hs=>?_
  ·obtain⟨tm,z,rfl,⟨t1,t2,t3,t4,t9,t12,t13,t14,t15,t16,t17⟩,t19,t18,cs,tf⟩:=(hA _ _ _ _ _ _ _ _ _).1 hs
   have d1:z.get (z5.next+1)=_:=cs.2.2.2 1 _ rfl
   have d2:z.get (z5.next+2)=_:=cs.2.2.2 2 _ rfl
   simp only[i1] at d1 d2
   have csA:=cs.set hw5 (b:=z5.next+2) (i:=2) rfl ydA [.ii (erV a f t)]
   have dA:(z.set (z5.next+2) (.bk [.ii (erV a f t)])).get (z5.next+2)=_:=csA.2.2.2 2 _ rfl
   have dB:(z.set (z5.next+2) (.bk [.ii (erV a f t)])).get (z5.next+1)=_:=csA.2.2.2 1 _ rfl
   have kA:TR z6.next (z.set (z5.next+2) (.bk [.ii (erV a f t)])) yf (Yf a):=tf.keep (Zh.set ..) fun b e=>by omega
   simp only[i1] at dB
   by_cases hv:erV a f t=0
   ·by_cases h0:pay<0
    ·have e:erZ a f t pay=3:=by unfold erZ;rw[if_neg (by rw[hv];simp),if_neg (fun q=>by have:=(Zs ..).1 q;omega)]
     simp -implicitDefEqProofs(disch:=first|omega|simp only[nZ]<;>omega|fail)only[go_sem,t3,t4,t13,t14,d1,d2,dA,dB,Za d1,Za dB,h0,hv]
     rw[e]
     exact(hA _ _ _ _ _ _ _ _ _).2 ⟨_,_,rfl,⟨ydc,ydf,ydd,ydi,ydh,ydg,ydk,ydj,ydl,ydm,ydn⟩,ydp,ydo,by rw[hv] at cs;exact cs.set hw5 (b:=z5.next+2) (i:=2) rfl ydA [.ii 3],tf.keep (Zh.set ..) fun b e=>by omega⟩
    ·by_cases h1:600<pay
     ·have e:erZ a f t pay=3:=by unfold erZ;rw[if_neg (by rw[hv];simp),if_neg (fun q=>by have:=(Zs ..).1 q;omega)]
      simp -implicitDefEqProofs(disch:=first|omega|simp only[nZ]<;>omega|fail)only[go_sem,t3,t4,t13,t14,d1,d2,dA,dB,Za d1,Za dB,h0,h1,hv]
      rw[e]
      exact(hA _ _ _ _ _ _ _ _ _).2 ⟨_,_,rfl,⟨ydc,ydf,ydd,ydi,ydh,ydg,ydk,ydj,ydl,ydm,ydn⟩,ydp,ydo,by rw[hv] at cs;exact cs.set hw5 (b:=z5.next+2) (i:=2) rfl ydA [.ii 3],tf.keep (Zh.set ..) fun b e=>by omega⟩
     ·have e:erZ a f t pay=0:=by unfold erZ;rw[if_neg (by rw[hv];simp),if_pos ((Zs ..).2 yde)]
      simp -implicitDefEqProofs(disch:=first|omega|simp only[nZ]<;>omega|fail)only[go_sem,t3,t4,t13,t14,d1,d2,dA,dB,Za d1,Za dB,h0,h1,hv]
      rw[e]
      exact(hA _ _ _ _ _ _ _ _ _).2 ⟨_,_,rfl,⟨ydc,ydf,ydd,ydi,ydh,ydg,ydk,ydj,ydl,ydm,ydn⟩,ydp,ydo,by rw[hv] at csA;exact csA,by rw[hv] at kA;exact kA⟩
   ·have v1:erV a f t=1:=by
     unfold erV at hv⊢
     by_cases hq:a.evB f=true∧a.evB t=true
     ·rw[if_pos hq] at hv;exact absurd rfl hv
     ·rw[if_neg hq]
    have e:erZ a f t pay=erV a f t:=by unfold erZ;rw[if_pos hv,v1]
    simp -implicitDefEqProofs(disch:=first|omega|simp only[nZ]<;>omega|fail)only[go_sem,t3,t4,t13,t14,d1,d2,dA,dB,Za d1,Za dB,hv]
    rw[e]
    exact(hA _ _ _ _ _ _ _ _ _).2 ⟨_,_,rfl,⟨ydc,ydf,ydd,ydi,ydh,ydg,ydk,ydj,ydl,ydm,ydn⟩,ydp,ydo,csA,kA⟩
  refine ZD (A yf (er7 a (erU a f)) (er7 a (erV a f t)) (er7 a (erZ a f t pay)) (0,0) (0,0) (0,0) 0) ?_ fun s hs=>?_
  ·obtain⟨tm,z,rfl,⟨t1,t2,t3,t4,t9,t12,t13,t14,t15,t16,t17⟩,t19,t18,cs,tf⟩:=(hA _ _ _ _ _ _ _ _ _).1 hs
   have hlF:=tf.lenE
   by_cases hne:ZR a=[]
   ·have hF:Yf a=[]:=(fitT_nil r).2 hne
    have e7:∀n,er7 a n=if n=0 then 7 else n:=fun n=>by unfold er7;by_cases h:n=0<;>simp[h,hne]
    have hlF0:((Yf a).length:Int)=0:=by rw[hF];rfl
    rw[hlF0] at hlF
    obtain⟨P,hP⟩:∃P:Nat→Int,(∀j,P j=if j=0 then erU a f else if j=1 then erV a f t else erZ a f t pay):=⟨_,fun _=>rfl⟩
    obtain⟨G,hG⟩:∃G:Nat→Nat→Int,∀i j,G i j=if j<i then er7 a (P j) else P j:=⟨_,fun _ _=>rfl⟩
    have cs0:Cs z5.next z5 z [i1 (G 0 0),i1 (G 0 1),i1 (G 0 2),i2 (0,0),i2 (0,0),i2 (0,0)]:=by simp only[hG,hP];exact cs
    obtain⟨zp,hzp⟩:∃zp,z.add (.bk [.ptr z5.next 0,.ptr (z5.next+1) 0,.ptr (z5.next+2) 0])=zp:=⟨_,rfl⟩
    have sp:z.Sub zp:=by rw[←hzp];exact(H.Sub.refl cs.1.wf).add _
    have gp:zp.get z.next=some (.bk [.ptr z5.next 0,.ptr (z5.next+1) 0,.ptr (z5.next+2) 0]):=by rw[←hzp];exact Zc rfl
    have lz:=cs.2.2.1
    simp only[List.length_cons,List.length_nil] at lz
    simp -implicitDefEqProofs(disch:=first|omega|simp only[nZ]<;>omega|fail)only[go_sem,t12,t13,t14,t19,hlF]
    try rw[hzp]
    clear hzp
    refine Zk 3 (fun i s=>∃tm z',s=⟨tm,z',[]⟩∧TmT h z3.next z5.next f t pay tm∧tm.E 19=yf∧tm.E 18=.ii 0∧Cs z5.next z5 z' [i1 (G i 0),i1 (G i 1),i1 (G i 2),i2 (0,0),i2 (0,0),i2 (0,0)]∧TR z6.next z' yf (Yf a)∧z'.get z.next=some (.bk [.ptr z5.next 0,.ptr (z5.next+1) 0,.ptr (z5.next+2) 0])∧
      tm.E 79=.sl z.next 0 3 (.fix 3)∧tm.E 80=.ii 3∧tm.E 81=.ii (i:Int)) ?_ ?_ (i:=0) (Nat.zero_le _)
     ⟨_,_,rfl,⟨ydc,ydf,ydd,ydi,ydh,ydg,ydk,ydj,ydl,ydm,ydn⟩,ydp,ydo,cs0.mono sp,tf.mono sp,gp,yda,yda,yda⟩
    ·clear t1 t2 t3 t4 t9 t12 t13 t14 t15 t16 t17 t19 t18 cs cs0 tf gp sp
     rintro i s hi ⟨tm,z',rfl,⟨t1,t2,t3,t4,t9,t12,t13,t14,t15,t16,t17⟩,t19,t18,cs,tf,gp,t79,t80,t81⟩
     have hi':(i:Int)<3:=by omega
     have w81:wr .i64 ((i:Int)+1)=((i+1:Nat):Int):=by rw[Zo yde yde];omega
     have gi:z'.get (z5.next+i)=some (.bk [.ii (P i)]):=by
      have:([i1 (G i 0),i1 (G i 1),i1 (G i 2),i2 (0,0),i2 (0,0),i2 (0,0)]:List (List V))[i]? =some [.ii (P i)]:=by
       rcases(by omega:i=0∨i=1∨i=2) with rfl|rfl|rfl<;>simp[hG,i1]
      exact cs.2.2.2 i _ this
     have hx:Zg z' (.sl z.next 0 3 (.fix 3)) 1 (([z5.next,z5.next+1,z5.next+2]:List Nat).map fun b=>[V.ptr b 0]):=⟨by simp,by simp,.inr ⟨_,_,_,_,rfl,.inr (Za gp),ZU.2 ⟨by simp,by simp⟩⟩⟩
     obtain⟨bb,oo,kk,csx,_,hc,hq,_,_,hn⟩:=hx.at (k:=i) (by simpa using hi)
     have hn:=hn ydy
     have hnp:nth (oo+i*1) csx=some (.ptr (z5.next+i) 0):=by
      rw[hn]
      rcases(by omega:i=0∨i=1∨i=2) with rfl|rfl|rfl<;>rfl
     by_cases h0:P i=0
     ·have csN:Cs z5.next z5 (z'.set (z5.next+i) (.bk [.ii 7])) [i1 (G (i+1) 0),i1 (G (i+1) 1),i1 (G (i+1) 2),i2 (0,0),i2 (0,0),i2 (0,0)]:=by
       have:=cs.set hw5 (b:=z5.next+i) (i:=i) rfl (by simp;omega) [.ii 7]
       rcases(by omega:i=0∨i=1∨i=2) with rfl|rfl|rfl<;>(simp only[hG,e7,h0] at this⊢;exact this)
      simp -implicitDefEqProofs(disch:=first|omega|simp only[nZ]<;>omega|fail)only[go_sem,t79,t80,t81,hi',hq (Zb i),hc,hnp,Za gi,gi,h0,w81]
      exact⟨_,_,rfl,⟨ydc,ydf,ydd,ydi,ydh,ydg,ydk,ydj,ydl,ydm,ydn⟩,ydp,ydo,csN,tf.keep (Zh.set ..) fun b e=>by omega,by rw[get_set_other yde];exact gp,(by simp[Zm,Zd,t79]<;>rfl),(by simp[Zm,Zd,t80]<;>rfl),yda⟩
     ·have csN:Cs z5.next z5 z' [i1 (G (i+1) 0),i1 (G (i+1) 1),i1 (G (i+1) 2),i2 (0,0),i2 (0,0),i2 (0,0)]:=by
       have:=cs
       rcases(by omega:i=0∨i=1∨i=2) with rfl|rfl|rfl<;>(simp only[hG,e7,h0] at this⊢;exact this)
      simp -implicitDefEqProofs(disch:=first|omega|simp only[nZ]<;>omega|fail)only[go_sem,t79,t80,t81,hi',hq (Zb i),hc,hnp,Za gi,h0,w81]
      exact⟨_,_,rfl,⟨ydc,ydf,ydd,ydi,ydh,ydg,ydk,ydj,ydl,ydm,ydn⟩,ydp,ydo,csN,tf,gp,(by simp[Zm,Zd,t79]<;>rfl),(by simp[Zm,Zd,t80]<;>rfl),yda⟩
    ·clear t1 t2 t3 t4 t9 t12 t13 t14 t15 t16 t17 t19 t18 cs cs0 tf gp sp
     rintro s ⟨tm,z',rfl,⟨t1,t2,t3,t4,t9,t12,t13,t14,t15,t16,t17⟩,t19,t18,cs,tf,gp,t79,t80,t81⟩
     have hi':¬((3:Nat):Int)<3:=by omega
     simp -implicitDefEqProofs(disch:=first|omega|simp only[nZ]<;>omega|fail)only[go_sem,t79,t80,t81,hi']
     exact(hA _ _ _ _ _ _ _ _ _).2 ⟨_,_,rfl,⟨ydc,ydf,ydd,ydi,ydh,ydg,ydk,ydj,ydl,ydm,ydn⟩,ydp,ydo,by simp only[hG,hP] at cs;exact cs,tf⟩
   ·have e7:∀n,er7 a n=n:=fun n=>by unfold er7;rw[if_neg (fun q=>hne q.2)]
    have hF:¬((Yf a).length:Int)=0:=fun q=>fit_ne r hne (List.length_eq_zero_iff.1 yde)
    simp -implicitDefEqProofs(disch:=first|omega|simp only[nZ]<;>omega|fail)only[go_sem,t12,t13,t14,t19,hlF,hF]
    rw[e7,e7,e7]
    exact(hA _ _ _ _ _ _ _ _ _).2 ⟨_,_,rfl,⟨ydc,ydf,ydd,ydi,ydh,ydg,ydk,ydj,ydl,ydm,ydn⟩,ydp,ydo,cs,tf⟩
  refine ZD (A yf (er7 a (erU a f)) (er7 a (erV a f t)) (er7 a (erZ a f t pay)) (Xt a f).1 (0,0) (0,0) 0) ?_ fun s hs=>?_
  ·obtain⟨tm,z,rfl,⟨t1,t2,t3,t4,t9,t12,t13,t14,t15,t16,t17⟩,t19,t18,cs,tf⟩:=(hA _ _ _ _ _ _ _ _ _).1 hs
   have d0:z.get z5.next=_:=cs.2.2.2 0 _ rfl
   have d3:z.get (z5.next+3)=_:=cs.2.2.2 3 _ rfl
   simp only[i1,i2] at d0 d3
   rw[timeR_r r]
   by_cases h0:er7 a (erU a f)=0
   ·rw[if_pos h0]
    have hb:a.evB f=true:=by
     unfold er7 erU at h0
     by_cases hb:a.evB f=true
     ·exact hb
     ·rw[if_neg hb,if_neg ydA] at h0;cases h0
    have hf:=ZQ.1 hb
    obtain⟨k,hk⟩:∃k:Nat,f=k:=⟨f.toNat,by omega⟩
    have hkt:f.toNat=k:=by omega
    rw[hkt]
    have t1':=t1
    rw[hk] at t1' hf
    simp -implicitDefEqProofs(disch:=first|omega|simp only[nZ]<;>omega|fail)only[go_sem,t1',t12,t15,t19,Za d0,h0]
    refine refTime_ev cs.1.wf tf hin lenF hf.2 _ fun z8 s8=>?_
    have cs8:=cs.mono s8
    rw[h0] at cs8
    simp -implicitDefEqProofs(disch:=first|omega|simp only[nZ]<;>omega|fail)only[go_sem,t1',t12,t15,t19,s8.get d3]
    exact(hA _ _ _ _ _ _ _ _ _).2 ⟨_,_,rfl,⟨ydc,ydf,ydd,ydi,ydh,ydg,ydk,ydj,ydl,ydm,ydn⟩,ydp,ydo,cs8.set hw5 (b:=z5.next+3) (i:=3) rfl ydA (i2 _),(tf.mono s8).keep (Zh.set ..) fun b e=>by omega⟩
   ·rw[if_neg h0]
    simp -implicitDefEqProofs(disch:=first|omega|simp only[nZ]<;>omega|fail)only[go_sem,t1,t12,t15,t19,Za d0,h0]
    exact(hA _ _ _ _ _ _ _ _ _).2 ⟨_,_,rfl,⟨ydc,ydf,ydd,ydi,ydh,ydg,ydk,ydj,ydl,ydm,ydn⟩,ydp,ydo,cs,tf⟩
  refine ZD (A yf (er7 a (erU a f)) (er7 a (erV a f t)) (er7 a (erZ a f t pay)) (Xt a f).1 (Yd a f t).1 (0,0) (XR a f t).1) ?_ fun s hs=>?_
  ·obtain⟨tm,z,rfl,⟨t1,t2,t3,t4,t9,t12,t13,t14,t15,t16,t17⟩,t19,t18,cs,tf⟩:=(hA _ _ _ _ _ _ _ _ _).1 hs
   have d0:z.get (z5.next+1)=_:=cs.2.2.2 1 _ rfl
   have d3:z.get (z5.next+4)=_:=cs.2.2.2 4 _ rfl
   simp only[i1,i2] at d0 d3
   rw[btwR_r r,beforeR_r r]
   by_cases h0:er7 a (erV a f t)=0
   ·rw[if_pos h0,if_pos h0]
    obtain⟨⟨hb,hc⟩,_⟩:=evV_ok h0
    have hf:=ZQ.1 hb
    have ht:=ZQ.1 hc
    obtain⟨k,hk⟩:∃k:Nat,f=k:=⟨f.toNat,by omega⟩
    obtain⟨j,hj⟩:∃j:Nat,t=j:=⟨t.toNat,by omega⟩
    have hkt:f.toNat=k:=by omega
    have hjt:t.toNat=j:=by omega
    rw[hkt,hjt]
    have t1':=t1
    have t2':=t2
    rw[hk] at t1' hf
    rw[hj] at t2' ht
    simp -implicitDefEqProofs(disch:=first|omega|simp only[nZ]<;>omega|fail)only[go_sem,t1',t2',t13,t16,t19,Za d0,h0]
    refine refBetween_ev cs.1.wf tf hin lenF hf.2 ht.2 _ fun z8 s8=>?_
    have cs8:=cs.mono s8
    rw[h0] at cs8
    simp -implicitDefEqProofs(disch:=first|omega|simp only[nZ]<;>omega|fail)only[go_sem,t1',t2',t13,t16,t19]
    refine refBefore_ev cs8.1.wf (tf.mono s8) hin lenF hf.2 ht.2 _ ?_
    simp -implicitDefEqProofs(disch:=first|omega|simp only[nZ]<;>omega|fail)only[go_sem,t1',t2',t13,t16,t19,s8.get d3]
    exact(hA _ _ _ _ _ _ _ _ _).2 ⟨_,_,rfl,⟨ydc,ydf,ydd,ydi,ydh,ydg,ydk,ydj,ydl,ydm,ydn⟩,ydp,yda,cs8.set hw5 (b:=z5.next+4) (i:=4) rfl ydA (i2 _),(tf.mono s8).keep (Zh.set ..) fun b e=>by omega⟩
   ·rw[if_neg h0,if_neg h0]
    simp -implicitDefEqProofs(disch:=first|omega|simp only[nZ]<;>omega|fail)only[go_sem,t1,t2,t13,t16,t19,Za d0,h0]
    exact(hA _ _ _ _ _ _ _ _ _).2 ⟨_,_,rfl,⟨ydc,ydf,ydd,ydi,ydh,ydg,ydk,ydj,ydl,ydm,ydn⟩,ydp,ydo,cs,tf⟩
  obtain⟨tm,z,rfl,⟨t1,t2,t3,t4,t9,t12,t13,t14,t15,t16,t17⟩,t19,t18,cs,tf⟩:=(hA _ _ _ _ _ _ _ _ _).1 hs
  have d0:z.get (z5.next+2)=_:=cs.2.2.2 2 _ rfl
  have d3:z.get (z5.next+5)=_:=cs.2.2.2 5 _ rfl
  simp only[i1,i2] at d0 d3
  have e2:(Xt a f).2=er7 a (erU a f):=by rw[timeR_r r]
  have e3:(Yd a f t).2=er7 a (erV a f t):=by rw[btwR_r r]
  have e4:(YV a f t pay).2=er7 a (erZ a f t pay):=by rw[wagesR_r r]
  by_cases h0:er7 a (erZ a f t pay)=0
  ·have ew:(YV a f t pay).1=ZX ((Yf a).map fun x=>VC (Zr x.2.2 t.toNat-Zr x.2.2 f.toNat) pay):=by rw[wagesR_r r,if_pos h0]
   have hv:erV a f t=0∧0≤pay∧pay≤600:=by
    have hZ:erZ a f t pay=0:=by
     unfold er7 at h0
     by_cases h7:erZ a f t pay=0∧ZR a=[]
     ·exact h7.1
     ·rw[if_neg h7] at h0;exact h0
    unfold erZ at hZ
    by_cases hv:erV a f t=0
    ·rw[if_neg (by rw[hv];simp)] at hZ
     by_cases hp:inB pay 0 600=true
     ·exact⟨hv,(Zs ..).1 hp⟩
     ·rw[if_neg hp] at hZ;cases hZ
    ·rw[if_pos hv] at hZ;cases hZ
   have hbb:a.evB f=true∧a.evB t=true:=by
    have:=hv.1
    unfold erV at this
    by_cases hb:a.evB f=true∧a.evB t=true
    ·exact hb
    ·rw[if_neg hb] at this;cases this
   have hf:=ZQ.1 hbb.1
   have ht:=ZQ.1 hbb.2
   obtain⟨k,hk⟩:∃k:Nat,f=k:=⟨f.toNat,by omega⟩
   obtain⟨j,hj⟩:∃j:Nat,t=j:=⟨t.toNat,by omega⟩
   have t1':=t1
   have t2':=t2
   rw[hk] at t1' hf
   rw[hj] at t2' ht
   simp -implicitDefEqProofs(disch:=first|omega|simp only[nZ]<;>omega|fail)only[go_sem,t1',t2',t3,t14,t17,t19,Za d0,h0]
   refine refWages_ev cs.1.wf tf hin lenF hf.2 ht.2 hv.2 _ fun z8 s8=>?_
   have cs8:=cs.mono s8
   simp -implicitDefEqProofs(disch:=first|omega|simp only[nZ]<;>omega|fail)only[go_sem,t1',t2',t3,t14,t17,t19,s8.get d3]
   refine⟨rfl,(hK _).2 ⟨_,_,rfl,⟨ydc,ydf,ydd,ydi,ydh,ydg,ydk,ydj,ydl,ydm,ydn⟩,ydo,?_⟩⟩
   have hkt:f.toNat=k:=by omega
   have hjt:t.toNat=j:=by omega
   rw[e2,e3,e4,ew,hkt,hjt]
   exact cs8.set hw5 (b:=z5.next+5) (i:=5) rfl ydA (i2 _)
  ·have ew:(YV a f t pay).1=(0,0):=by rw[wagesR_r r,if_neg h0]
   simp -implicitDefEqProofs(disch:=first|omega|simp only[nZ]<;>omega|fail)only[go_sem,t1,t2,t3,t14,t17,t19,Za d0,h0]
   exact⟨rfl,(hK _).2 ⟨_,_,rfl,⟨ydc,ydf,ydd,ydi,ydh,ydg,ydk,ydj,ydl,ydm,ydn⟩,ydo,by rw[e2,e3,e4,ew];exact cs⟩⟩
 ·intro he
  simp -implicitDefEqProofs(disch:=first|omega|simp only[nZ]<;>omega|fail)only[go_sem]
  refine⟨rfl,(hK _).2 ⟨_,_,rfl,k,?_,?_⟩⟩
  ·rw[beforeR_no he];exact t18
  ·rw[timeR_no he,btwR_no he,wagesR_no he];exact cs
 ·rintro s hs
  obtain⟨tm,z7,rfl,⟨t1,t2,t3,t4,t9,t12,t13,t14,t15,t16,t17⟩,t18,cs⟩:=(hK s).1 hs
  have d0:z7.get z5.next=_:=cs.2.2.2 0 _ rfl
  have d1:=cs.2.2.2 1 _ rfl
  have d2:=cs.2.2.2 2 _ rfl
  have d3:=cs.2.2.2 3 _ rfl
  have d4:=cs.2.2.2 4 _ rfl
  have d5:=cs.2.2.2 5 _ rfl
  simp only[i1,i2] at d0 d1 d2 d3 d4 d5
  have g9:=cs.1.get g95
  have ga7:=cs.1.get ga5
  have s07:=s05.trans cs.1
  have x7:=x1'.mono cs.1
  simp -implicitDefEqProofs(disch:=first|omega|simp only[nZ]<;>omega|fail)only[go_sem,t1,t2,t3,t4,t9,Za g9,o1C,o1R,o1G]
  refine time_ev s07.wf x7 f _ fun z8 s8=>?_
  obtain⟨z9,hz9⟩:∃z9,z8.add (.bk [.ii (Xt a f).1.1,.ii (Xt a f).1.2])=z9:=⟨_,rfl⟩
  have s9:z8.Sub z9:=by rw[←hz9];exact(H.Sub.refl s8.wf).add _
  have g22:z9.get z8.next=some (.bk [.ii (Xt a f).1.1,.ii (Xt a f).1.2]):=by rw[←hz9];exact Zc rfl
  have s79:=s8.trans s9
  simp -implicitDefEqProofs(disch:=first|omega|simp only[nZ]<;>omega|fail)only[go_sem,t1,t2,t3,t4,t9,hz9,Za (s79.get g9),o1C,o1R,o1G]
  try rw[hz9]
  clear hz9
  refine btw_ev (s07.trans s79).wf (x7.mono s79) f t _ fun z10 s10=>?_
  have s7a:=s79.trans s10
  obtain⟨z11,hz11⟩:∃z11,z10.add (.bk [.ii (Yd a f t).1.1,.ii (Yd a f t).1.2])=z11:=⟨_,rfl⟩
  have s11:z10.Sub z11:=by rw[←hz11];exact(H.Sub.refl s10.wf).add _
  have g24:z11.get z10.next=some (.bk [.ii (Yd a f t).1.1,.ii (Yd a f t).1.2]):=by rw[←hz11];exact Zc rfl
  have s7b:=s7a.trans s11
  simp -implicitDefEqProofs(disch:=first|omega|simp only[nZ]<;>omega|fail)only[go_sem,t1,t2,t3,t4,t9,hz11,Za (s7b.get g9),o1C,o1R,o1G]
  try rw[hz11]
  clear hz11
  refine before_ev (s07.trans s7b).wf (x7.mono s7b) f t _ fun z12 s12=>?_
  have s7c:=s7b.trans s12
  simp -implicitDefEqProofs(disch:=first|omega|simp only[nZ]<;>omega|fail)only[go_sem,t1,t2,t3,t4,t9,Za (s7c.get g9),o1C,o1R,o1G]
  refine wages_ev (s07.trans s7c).wf (x7.mono s7c) f t pay _ fun z13 s13=>?_
  have s7d:=s7c.trans s13
  obtain⟨z14,hz14⟩:∃z14,z13.add (.bk [.ii (YV a f t pay).1.1,.ii (YV a f t pay).1.2])=z14:=⟨_,rfl⟩
  have s14:z13.Sub z14:=by rw[←hz14];exact(H.Sub.refl s13.wf).add _
  have g28:z14.get z13.next=some (.bk [.ii (YV a f t pay).1.1,.ii (YV a f t pay).1.2]):=by rw[←hz14];exact Zc rfl
  have s7e:=s7d.trans s14
  have b2:=before_err a f t
  simp -implicitDefEqProofs(disch:=first|omega|simp only[nZ]<;>omega|fail)only[go_sem,t1,t2,t3,t4,t9,t12,t13,t14,t15,t16,t17,t18,hz14,b2,feq_same,Za (s7e.get g9),Za (s7e.get ga7),Za (s7e.get d0),Za (s7e.get d1),Za (s7e.get d2),Za (s7e.get d3),Za (s7e.get d4),Za (s7e.get d5),Za g28,Za ((s12.trans (s13.trans s14)).get g24),Za ((s10.trans (s11.trans (s12.trans (s13.trans s14)))).get g22),o1C,o1R,o1G,oC,oR,oG]
  try rw[hz14]
  refine Vi (s07.trans s7e).wf (x7.mono s7e) (xa.mono (cs.1.trans s7e)) _ fun zX sX=>?_
  rw[Xu.2 rfl]
  simp -implicitDefEqProofs(disch:=first|omega|simp only[nZ]<;>omega|fail)only[go_sem,Z3]
  exact q _ _ ⟨rfl,(s07.trans s7e).trans sX⟩
end Go.Ab.Tryz
namespace Go.Ab.Tryz
open Go.Proofs
theorem clashR_r {a:At}(r:Zl a):VA a=((VB a).getD [],if(VB a).isSome=true then 0 else 6):=by
 unfold VA
 rw[if_neg ydO]
 by_cases h:ZR a=[]
 ·obtain⟨c,e,_⟩:=clashO_spec r h
  rw[if_neg (by simp[h]),e];rfl
 ·rw[if_pos h,clashO_none r h];rfl
theorem wrongR_r {a:At}(r:Zl a):Vs a=((V9 a).getD [],if(V9 a).isSome=true then 0 else 7):=by
 unfold Vs
 rw[if_neg ydO]
 cases V9 a<;>rfl
theorem lisS_bd (a:At)(l:List Int):0≤lisS a l∧lisS a l<256:=by
 unfold lisS
 split
 ·have:=WC (Wt l) 8
  have h:(2:Int)^8=256:=by decide
  omega
 ·omega
structure TmG (h:H)(b5:Nat)(y y7:V)(tm:Go.Ab.T V):Prop where
 t1:tm.E 1=y
 t2:tm.E 2=.ptr h.next 0
 t5:tm.E 5=.ptr b5 0
 t7:tm.E 7=y7
set_option maxHeartbeats 16000000 in
theorem ClockAgrees_sub {h:H}(hw:h.wf){a:At}{C R G:V}(x:ZP h C R G a){y:V}{l:List Int}(hy:Zg h y 1 (l.map encI)):Ev fnG Zi (.fn 14 [] []) [.agg (atV a C R G),y] h fun v h'=>v=.bool true∧h.Sub h':=by
 refine Ev.gen fun Q q=>?_
 have oC:=x.c.one;have oR:=x.r.one;have oG:=x.g.one
 have oy:=hy.one
 have h1:=hy.lenE
 refine Ze (fd:=c14) rfl rfl rfl ?_
 obtain⟨z,hz⟩:∃z,h.add (.cells .rw (atV a C R G))=z:=⟨_,rfl⟩
 have sz:h.Sub z:=by rw[←hz];exact ydb
 have nz:z.next=h.next+1:=by rw[←hz];simp only[H.next_add]
 have ga:z.get h.next=some (.cells .rw (atV a C R G)):=by rw[←hz];exact Zc rfl
 simp -implicitDefEqProofs(maxSteps:=999999)(disch:=first|with_reducible rfl|omega|(simp only[nA,nS,nD]<;>omega)|fail)only[c14,go_sem,oC,oR,oG,hz,Za ga]
 try rw[hz]
 clear hz
 refine wide_ev sz.wf (x.mono sz) _ fun wd z1 s1 hwd=>?_
 cases wd with
 |true=>
  simp -implicitDefEqProofs(maxSteps:=999999)(disch:=first|with_reducible rfl|omega|(simp only[nA,nS,nD]<;>omega)|fail)only[go_sem,Z3]
  exact q _ _ ⟨rfl,sz.trans s1⟩
 |false=>
 obtain⟨hg,hbd⟩:=hwd rfl
 clear hwd
 have hl:a.cks.length≤8∧a.rds.length≤12∧a.gps.length≤9:=by
  simp only[XK,decide_eq_false_iff_not] at hg
  omega
 have sm:YJ a:=⟨by omega,by omega,by omega⟩
 have s01:=sz.trans s1
 by_cases g1:(12:Int)<(l.length:Int)
 ·simp -implicitDefEqProofs(maxSteps:=999999)(disch:=first|with_reducible rfl|omega|(simp only[nA,nS,nD]<;>omega)|fail)only[go_sem,h1,g1,Z3]
  exact q _ _ ⟨rfl,s01⟩
 simp -implicitDefEqProofs(maxSteps:=999999)(disch:=first|with_reducible rfl|omega|(simp only[nA,nS,nD]<;>omega)|fail)only[go_sem,Za (s1.get ga),h1,g1,oC,oR,oG]
 refine own_ev s01.wf (x.mono s01) sm _ fun C1 R1 G1 z2 n2=>?_
 have s2:=n2.s
 have s02:=s01.trans s2
 have s12:=s1.trans s2
 simp -implicitDefEqProofs(maxSteps:=999999)(disch:=first|with_reducible rfl|omega|(simp only[nA,nS,nD]<;>omega)|fail)only[go_sem,Za (s1.get ga),Za (s12.get ga),oC,oR,oG]
 refine XY s02.wf (x.mono s02) sm _ fun C2 R2 G2 z3 s3 x3=>?_
 have s03:=s02.trans s3
 have x1:=(n2.at_ sm).mono s3
 have o1C:=x1.c.one;have o1R:=x1.r.one;have o1G:=x1.g.one
 have o2C:=x3.c.one;have o2R:=x3.r.one;have o2G:=x3.g.one
 have w3:=s03.wf
 have sd:=(H.Sub.refl w3).add (.cells .rw (l.map encI).flatten)
 have a1:Zg (z3.add (.cells .rw (l.map encI).flatten)) (.sl z3.next 0 l.length (.fix l.length)) 1 (l.map encI):=Zg.new _ rfl (by rw[List.length_map]) rfl (by simp[encI]) ydw
 simp -implicitDefEqProofs(maxSteps:=999999)(disch:=first|with_reducible rfl|omega|(simp only[nA,nS,nD]<;>omega)|fail)only[go_sem,Za (s1.get ga),Za (s12.get ga),Za ((s12.trans s3).get ga),Za (sd.get ((s12.trans s3).get ga)),X5 w3 (hy.mono s03) yde,o1C,o1R,o1G,o2C,o2R,o2G,oC,oR,oG]
 obtain⟨y7,hy7⟩:∃y7,V.sl z3.next 0 l.length (.fix l.length)=y7:=⟨_,rfl⟩
 obtain⟨z4,hz4⟩:∃z4,(((((z3.add (.cells .rw (l.map encI).flatten)).add (.cells .rw [.int .i64 0,.int .i64 0,.nils,.nils,.nils])).add (.cells .rw [.int .i64 0,.int .i64 0,.nils,.nils,.nils])).set (z3.next+1) (.cells .rw (atV a C1 R1 G1))).set (z3.next+1+1) (.cells .rw (atV a C2 R2 G2)))=z4:=⟨_,rfl⟩
 have sd4:(z3.add (.cells .rw (l.map encI).flatten)).Sub z4:=by
  rw[←hz4]
  have hwd:=sd.wf
  exact(((((H.Sub.refl hwd).add _).add _).set ydP ydP hwd _).set ydP (by simp only[H.next_set,H.next_add];omega) hwd _)
 have s4:z3.Sub z4:=sd.trans sd4
 have g9:z4.get (z3.next+1)=some (.cells .rw (atV a C1 R1 G1)):=by rw[←hz4];simp -implicitDefEqProofs(maxSteps:=999999)(disch:=first|with_reducible rfl|omega|(simp only[nA,nS,nD]<;>omega)|fail)only[go_sem]
 have g10:z4.get (z3.next+1+1)=some (.cells .rw (atV a C2 R2 G2)):=by rw[←hz4];simp -implicitDefEqProofs(maxSteps:=999999)(disch:=first|with_reducible rfl|omega|(simp only[nA,nS,nD]<;>omega)|fail)only[go_sem]
 have mine:=a1.mono sd4
 rw[hy7] at mine
 try rw[hz4]
 try rw[hy7]
 clear hz4 a1 sd sd4
 have s04:=s03.trans s4
 refine Y2 s04.wf (x3.mono s4) sm _ fun z6 s6=>?_
 have s36:=s4.trans s6
 have s06:=s03.trans s36
 have x1':=x1.mono s36
 have x3':=x3.mono s36
 have xa:=x.mono s06
 have ga6:=(s12.trans (s3.trans s36)).get ga
 have g95:=s6.get g9
 have g105:=s6.get g10
 have mine6:=mine.mono s6
 have yy6:=hy.mono s06
 clear g9 g10 mine x1 x3 ga n2
 simp -implicitDefEqProofs(maxSteps:=999999)(disch:=first|with_reducible rfl|omega|(simp only[nA,nS,nD]<;>omega)|fail)only[go_sem]
 obtain⟨K,hK⟩:∃K:St→Prop,∀s,K s↔∃tm z yc yw,s=⟨tm,z,[]⟩∧TmG h (z3.next+1) y y7 tm∧(Opd.t 8).ev tm=.int .i64 (X8 a l).2∧(Opd.t 9).ev tm=.int .i64 (VA a).2∧(Opd.t 10).ev tm=.int .i64 (Vs a).2∧(Opd.t 11).ev tm=yc∧(Opd.t 12).ev tm=yw∧(Opd.t 13).ev tm=.bool (X8 a l).1∧z6.Sub z∧Zg z yc 1 ((VA a).1.map encI)∧Zg z yw 1 ((Vs a).1.map encI):=⟨_,fun s=>Iff.rfl⟩
 refine PB_cut (p:=Zn a=0) K ?_ ?_ ?_
 ·intro he
  have r:=Zz.1 he
  obtain⟨hb1,hb2⟩:=wide_bds r (hbd r)
  have hb:=hbd r
  have eA:=agreeR_lis r l
  have eC:=clashR_r r
  have eW:=wrongR_r r
  have lb:=lisS_bd a l
  rw[he]
  simp -implicitDefEqProofs(maxSteps:=999999)(disch:=first|with_reducible rfl|omega|(simp only[nA,nS,nD]<;>omega)|fail)only[go_sem,Za g105,o2C,o2R,o2G]
  refine Listed_ev s06.wf x3' r yy6 yde _ fun z7 s7=>?_
  simp -implicitDefEqProofs(maxSteps:=999999)(disch:=first|with_reducible rfl|omega|(simp only[nA,nS,nD]<;>omega)|fail)only[go_sem,Za (s7.get g105),o2C,o2R,o2G]
  refine All_ev (s06.trans s7).wf (x3'.mono s7) r yde yde yde _ fun yl z8 s8 tr=>?_
  have s68:=s7.trans s8
  simp -implicitDefEqProofs(maxSteps:=999999)(disch:=first|with_reducible rfl|omega|(simp only[nA,nS,nD]<;>omega)|fail)only[go_sem,Za (s7.get g105),Za (s68.get g105),o2C,o2R,o2G,tr.one]
  refine Sets10_ev (s06.trans s68).wf (x3'.mono s68) r tr (by have:=allT_len a;omega) lb.1 lb.2 _ fun yc yw z9 s9 kc kw=>?_
  have s69:=s68.trans s9
  have oyc:=kc.one
  have oyw:=kw.one
  simp only[eA,eC,eW] at hK
  generalize agrS (Vn a) (lisS a l)=ag at hK
  generalize lisE a l=er at hK
  generalize VB a=oc at hK kc
  generalize V9 a=ow at hK kw
  have fin:∀tm' e u v ag',TmG h (z3.next+1) y y7 tm'→(Opd.t 8).ev tm'=.int .i64 e→(Opd.t 9).ev tm'=.int .i64 u→(Opd.t 10).ev tm'=.int .i64 v→(Opd.t 11).ev tm'=yc→(Opd.t 12).ev tm'=yw→(Opd.t 13).ev tm'=.bool ag'→e=er→u=(if oc.isSome=true then 0 else 6)→v=(if ow.isSome=true then 0 else 7)→ag'=(if er≠0 then false else ag)→K ⟨tm',z9,[]⟩:=fun tm' e u v ag' k k8 k9 k10 k11 k12 k13 e1 e2 e3 e4=>by
   subst e1;subst e2;subst e3;subst e4
   exact(hK _).2 ⟨_,_,yc,yw,rfl,k,k8,k9,k10,k11,k12,k13,s69,kc,kw⟩
  have nn:∀n:Int,((if(true:Bool)=true then(0:Int) else n)=0)∧((if(false:Bool)=true then(0:Int) else n)=n):=fun n=>⟨rfl,rfl⟩
  by_cases h0:er=0
  ·cases hc:oc.isSome<;>cases hw2:ow.isSome<;>
   ·simp -implicitDefEqProofs(maxSteps:=999999)(disch:=first|with_reducible rfl|omega|(simp only[nA,nS,nD]<;>omega)|fail)only[go_sem,Za (s7.get g105),Za (s68.get g105),Za (s69.get g105),o2C,o2R,o2G,tr.one,oyc,oyw,h0,hc,hw2,ne_eq,not_true_eq_false]
    exact⟨rfl,fin _ _ _ _ _ ⟨yda,yda,yda,yda⟩ yda yda yda yda yda yda h0.symm (by rw[hc];rfl) (by rw[hw2];rfl) (by rw[h0];rfl)⟩
  ·cases hc:oc.isSome<;>cases hw2:ow.isSome<;>
   ·simp -implicitDefEqProofs(maxSteps:=999999)(disch:=first|with_reducible rfl|omega|(simp only[nA,nS,nD]<;>omega)|fail)only[go_sem,Za (s7.get g105),Za (s68.get g105),Za (s69.get g105),o2C,o2R,o2G,tr.one,oyc,oyw,h0,hc,hw2,ne_eq,not_false_eq_true]
    exact⟨rfl,fin _ _ _ _ _ ⟨yda,yda,yda,yda⟩ yda yda yda yda yda yda rfl (by rw[hc];rfl) (by rw[hw2];rfl) (by rw[if_pos h0])⟩
 ·intro he
  have eA:X8 a l=(false,Zn a):=by unfold X8;rw[if_pos he]
  have eC:VA a=([],Zn a):=by unfold VA;rw[if_pos he]
  have eW:Vs a=([],Zn a):=by unfold Vs;rw[if_pos he]
  simp -implicitDefEqProofs(maxSteps:=999999)(disch:=first|with_reducible rfl|omega|(simp only[nA,nS,nD]<;>omega)|fail)only[go_sem]
  exact⟨rfl,(hK _).2 ⟨_,_,.nils,.nils,rfl,⟨yda,yda,yda,yda⟩,by rw[eA];exact yda,by rw[eC];exact yda,by rw[eW];exact yda,yda,yda,by rw[eA];exact yda,H.Sub.refl s06.wf,by rw[eC];exact Wp _,by rw[eW];exact Wp _⟩⟩
 ·rintro s hs
  obtain⟨tm,z7,yc,yw,rfl,⟨t1,t2,t5,t7⟩,t8,t9,t10,t11,t12,t13,s7,kc,kw⟩:=(hK s).1 hs
  have s07:=s06.trans s7
  have m7:=mine6.mono s7
  have y7':=yy6.mono s7
  simp -implicitDefEqProofs(maxSteps:=999999)(disch:=first|with_reducible rfl|omega|(simp only[nA,nS,nD]<;>omega)|fail)only[go_sem,t1,t2,t5,t7,t8,t9,t10,t11,t12,t13,Za (s7.get g95),o1C,o1R,o1G]
  refine Agree_ev s07.wf (x1'.mono s7) m7 yde _ fun z8 s8=>?_
  have s78:=s7.trans s8
  simp -implicitDefEqProofs(maxSteps:=999999)(disch:=first|with_reducible rfl|omega|(simp only[nA,nS,nD]<;>omega)|fail)only[go_sem,t1,t2,t5,t7,t8,t9,t10,t11,t12,t13,Za (s78.get g95),o1C,o1R,o1G]
  refine Clash_ev (s06.trans s78).wf (x1'.mono s78) _ fun w1 z9 s9 k1=>?_
  have s79:=s78.trans s9
  simp -implicitDefEqProofs(maxSteps:=999999)(disch:=first|with_reducible rfl|omega|(simp only[nA,nS,nD]<;>omega)|fail)only[go_sem,t1,t2,t5,t7,t8,t9,t10,t11,t12,t13,Za (s79.get g95),o1C,o1R,o1G]
  refine Wrong_ev (s06.trans s79).wf (x1'.mono s79) _ fun w2 zA sA k2=>?_
  have s7A:=s79.trans sA
  have s8A:=s8.trans (s9.trans sA)
  have q1:=fun R=>Y8 (k1.mono sA) (kc.mono s8A) R
  have q2:=fun R=>Y8 k2 (kw.mono s8A) R
  have hbq:∀b:Bool,(b==b)=true:=fun b=>by cases b<;>rfl
  simp -implicitDefEqProofs(maxSteps:=999999)(disch:=first|with_reducible rfl|omega|(simp only[nA,nS,nD]<;>omega)|fail)only[go_sem,t1,t2,t5,t7,t8,t9,t10,t11,t12,t13,hbq,q1,q2,Za (s7A.get g95),Za (s7A.get ga6),o1C,o1R,o1G,oC,oR,oG]
  refine Vi (s06.trans s7A).wf (x1'.mono s7A) (xa.mono s7A) _ fun zX sX=>?_
  have s7X:=s7A.trans sX
  have q3:=fun R=>Y8 (mine6.mono s7X) (yy6.mono s7X) R
  rw[Xu.2 rfl]
  simp -implicitDefEqProofs(maxSteps:=999999)(disch:=first|with_reducible rfl|omega|(simp only[nA,nS,nD]<;>omega)|fail)only[go_sem,t1,t7,q3,Z3]
  exact q _ _ ⟨rfl,(s06.trans s7A).trans sX⟩
end Go.Ab.Tryz
