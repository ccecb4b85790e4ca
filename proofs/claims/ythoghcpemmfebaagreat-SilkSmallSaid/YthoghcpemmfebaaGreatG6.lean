import Derived.Test.YthoghcpemmfebaaGreatGP
import Derived.Test.YthoghcpemmfebaaGreatG5
set_option linter.unusedSimpArgs false
set_option linter.unusedVariables false
theorem yea {p:Prop}(h:p:=by repeat(first|assumption|exact H.Sub.refl (by assumption)|refine H.Sub.add ?_ _|refine H.Sub.set ?_ (by first|omega|(simp only[H.next_add,H.next_set,H.next_del]<;>omega)) (by first|omega|(simp only[H.next_add,H.next_set,H.next_del]<;>omega)) (by assumption) _)):p:=h
theorem yeb {p:Prop}(h:p:=by simp[Zn,Zd]<;>rfl):p:=h
theorem yec {p:Prop}(h:p:=by simp[Zn,Zd,t1]<;>rfl):p:=h
theorem yed {p:Prop}(h:p:=by omega):p:=h
theorem yee {p:Prop}(h:p:=by simp[Zn,Zd,t3]<;>rfl):p:=h
theorem yef {p:Prop}(h:p:=by simp[Zn,Zd,t4]<;>rfl):p:=h
theorem yeg {p:Prop}(h:p:=by simp[Zn,Zd,t11]<;>rfl):p:=h
theorem yeh {p:Prop}(h:p:=by simp[Zn,Zd,t10]<;>rfl):p:=h
theorem yei {p:Prop}(h:p:=by simp[Zn,Zd,t2]<;>rfl):p:=h
theorem yej {p:Prop}(h:p:=by simp[Zn,Zd,t12]<;>rfl):p:=h
theorem yek {p:Prop}(h:p:=by simp[Zn,Zd,t13]<;>rfl):p:=h
theorem yel {p:Prop}(h:p:=by simp[Zn,Zd,t14]<;>rfl):p:=h
theorem yem {p:Prop}(h:p:=by simp only[Zn,Zd, ↓reduceIte,Nat.reduceEqDiff]<;>rfl):p:=h
theorem yen {p:Prop}(h:p:=by simp[Zn,Zd,t16]<;>rfl):p:=h
theorem yeo {p:Prop}(h:p:=by simp[Zn,Zd,t6]<;>rfl):p:=h
theorem yep {p:Prop}(h:p:=by simp[Zn,Zd,t17]<;>rfl):p:=h
theorem yeq {p:Prop}(h:p:=by simp[Zn,Zd,t18]<;>rfl):p:=h
theorem yer {p:Prop}(h:p:=by simp[Zn,Zd,t19]<;>rfl):p:=h
theorem yes {p:Prop}(h:p:=by simp[Zn,Zd,t20]<;>rfl):p:=h
theorem yet {p:Prop}(h:p:=by simp[Zn,Zd,t5]<;>rfl):p:=h
theorem yeu {p:Prop}(h:p:=by simp[Zn,Zd,t21]<;>rfl):p:=h
theorem yev {p:Prop}(h:p:=by simp[Zn,Zd,t0]<;>rfl):p:=h
theorem yew {p:Prop}(h:p:=by simp;omega):p:=h
theorem yex {p:Prop}(h:p:=by simp[Zn,Zd,t7]<;>rfl):p:=h
theorem yey {p:Prop}(h:p:=by rw[List.length_drop,fl];omega):p:=h
theorem yez {p:Prop}(h:p:=by simp):p:=h
theorem yeA {p:Prop}(h:p:=by rw[Xd];omega):p:=h
theorem yeB {p:Prop}(h:p:=by rw[eps];exact hpe):p:=h
namespace Go.Ab
theorem subO_to {b o sz n c k:Nat}{tm:T V}{x:Opd}{kd:IntKind}(hx:x.ev tm=.int kd (k:Int))(hk:k≤n)(hc:n≤c):subO b o sz (Vl tm n c none (some x) none)=some (.sl b (X5 (Nat.beq c 0) o (o+0*sz)) k (.fix c)):=by
 have e1:Nat.ble 0 k=true:=by simp
 have e2:Nat.ble k c=true:=by simp;omega
 have e3:Nat.ble c c=true:=by simp
 simp only[Vl,Vd,hx,VI,bnds,e1,e2,e3,YJ,subO,sub,Nat.sub_zero]
noncomputable def slcTo (h:H)(sz:Nat)(x k:V):Option V:=XP .nil h sz x none (some (.c k)) none
theorem q_slc_to (tm:T V)(h:H)(sz:Nat)(x:V)(y:Opd):XP tm h sz x none (some y) none=slcTo h sz x (y.ev tm):=rfl
theorem ZK.to {h0 h:H}{x:V}{sz k:Nat}{kd:IntKind}{rows:List (List V)}(a:ZK h0 h x sz rows)(hl:rows.length≤1000000)(hk:k≤rows.length)(hk0:0<rows.length)(h00:0<sz:=by omega):
  ∃y,slcTo h sz x (.int kd (k:Int))=some y∧Zk h y sz (rows.take k):=by
 have hi:∀tm,(Opd.c (.int kd (k:Int))).ev tm=.int kd (k:Int):=fun _=>rfl
 obtain⟨a0,a1,a2⟩:=a
 have hr:∀r∈rows.take k,r.length=sz:=fun r hr=>a1 r (List.mem_of_mem_take hr)
 have hlt:(rows.take k).length=k:=by rw[List.length_take];omega
 have hfl:(rows.take k).flatten=rows.flatten.take (k*sz):=by
  have h1:=Zp hr
  rw[hlt] at h1
  have e:rows.flatten=(rows.take k).flatten++(rows.drop k).flatten:=by rw[←List.flatten_append,List.take_append_drop]
  rw[e,List.take_left' h1]
 rcases a2 with⟨rfl,rfl⟩|⟨b,rfl,l1,l2,hb⟩|⟨b,c,rest,rfl,l1,l2,hb,hc,hlc⟩
 ·simp at hk0
 ·have fl:=Zp a1
  have e1:Nat.ble 0 k=true:=by simp
  have e2:Nat.ble k rows.length=true:=by simpa using hk
  have e3:Nat.ble rows.length rows.length=true:=by simp
  have e4:Nat.blt 0 (rows.length+k)=true:=by rw[Nat.blt_eq];omega
  have e5:Nat.beq sz sz=true:=by simp
  have e6:Nat.beq 0 (0*sz)=true:=by simp
  have e7:Nat.ble (0+rows.length*sz) rows.flatten.length=true:=by rw[fl];simp
  have e8:Xu h b 0 sz=rows.length:=by simp only[Xu,hb,Yq,fl,Nat.sub_zero];exact Nat.mul_div_cancel _ h00
  refine⟨.sl b (0+0*sz) k (.slk (0+0) 0),?_,?_⟩
  ·simp only[slcTo,XP,slkOk,hb,e5,e6,Yq,e7,YJ,Vl,Vd,hi,VI,bnds,e1,e2,e3,subS,e4,e8,Nat.sub_zero]
  ·refine⟨hr,by rw[hlt];omega,.inr ⟨b,0+0*sz,_,_,by rw[hlt],.inr (Za hb),?_⟩⟩
   refine Z9.2 ⟨by rw[hlt];simp[hfl],?_⟩
   rw[hlt,fl]
   have:=Nat.mul_le_mul_right sz hk;omega
 ·have fl:=Zp a1
  have hz:X5 (Nat.beq c 0) 0 (0+0*sz)=0:=by cases Nat.beq c 0<;>simp[X5]
  refine⟨.sl b 0 k (.fix c),?_,?_⟩
  ·simp only[slcTo,XP]
   rw[subO_to (hi _) hk hlc,hz]
  ·refine⟨hr,by rw[hlt];omega,.inr ⟨b,0,_,_,by rw[hlt],.inr (Za hb),?_⟩⟩
   have:=Nat.mul_le_mul_right sz hk
   refine Z9.2 ⟨?_,by rw[hlt,List.length_append,fl];omega⟩
   rw[hlt,List.drop_zero,hfl,List.take_append_of_le_length (by rw[fl];omega)]
def CutC (h:H)(x:V)(sz:Nat)(rows:List (List V)):Prop:=Zk h x sz rows∧((x=.nils∧rows=[])∨(∃b rest j,x=.sl b 0 rows.length (.slk 0 0)∧h.get b=some (.cells (.gr sz) (rows.flatten++rest))∧rest.length=j*sz)∨∃b o c,x=.sl b o rows.length (.fix c)∧rows.length≤c)
theorem CutC.keep {h h':H}{S:Nat→Prop}{x:V}{sz:Nat}{rows:List (List V)}(a:CutC h x sz rows)(k:Zq S h h')(n:∀b,Zs x b→¬S b):CutC h' x sz rows:=by
 refine⟨YD a.1 k n,?_⟩
 rcases a.2 with a2|⟨b,rest,j,e,hb,hr⟩|a2
 ·exact .inl a2
 ·exact .inr (.inl ⟨b,rest,j,e,k.2 b _ hb (n b ⟨_,_,_,e⟩),hr⟩)
 ·exact .inr (.inr a2)
theorem CutC.mono {h h':H}{x:V}{sz:Nat}{rows:List (List V)}(a:CutC h x sz rows)(s:h.Sub h'):CutC h' x sz rows:=a.keep (Zq.of s fun _=>False) fun _ _=>id
theorem ZK.cut {h0 h:H}{x:V}{sz:Nat}{rows:List (List V)}(a:ZK h0 h x sz rows)(hl:rows.length≤1000000):CutC h x sz rows:=by
 refine⟨a.sl yed,?_⟩
 rcases a.2.2 with a2|⟨b,e,_,_,hb⟩|⟨b,c,rest,e,_,_,hb,_,hc⟩
 ·exact .inl a2
 ·exact .inr (.inl ⟨b,[],0,e,by rw[List.append_nil];exact hb,by simp⟩)
 ·exact .inr (.inr ⟨b,0,c,e,hc⟩)
theorem CutC.to {h:H}{x:V}{sz k:Nat}{kd:IntKind}{rows:List (List V)}(a:CutC h x sz rows)(hl:rows.length≤1000000)(hk:k≤rows.length)(hk0:0<rows.length)(h00:0<sz:=by omega):
  ∃y,slcTo h sz x (.int kd (k:Int))=some y∧Zk h y sz (rows.take k):=by
 have hi:∀tm,(Opd.c (.int kd (k:Int))).ev tm=.int kd (k:Int):=fun _=>rfl
 obtain⟨⟨a1,_,a0⟩,a2⟩:=a
 have hr:∀r∈rows.take k,r.length=sz:=fun r hr=>a1 r (List.mem_of_mem_take hr)
 have hlt:(rows.take k).length=k:=by rw[List.length_take];omega
 have fl:=Zp a1
 have hml:=Nat.mul_le_mul_right sz hk
 have hfl:(rows.take k).flatten=rows.flatten.take (k*sz):=by
  have h1:=Zp hr
  rw[hlt] at h1
  have e:rows.flatten=(rows.take k).flatten++(rows.drop k).flatten:=by rw[←List.flatten_append,List.take_append_drop]
  rw[e,List.take_left' h1]
 rcases a0 with⟨rfl,rfl⟩|⟨b,o,c,cs,rfl,hc,hg⟩
 ·simp at hk0
 have hc:h.cells b=some cs:=hc.resolve_left (fun e=>by rw[e] at hk0;simp at hk0)
 obtain⟨g1,g2⟩:=Z9.1 hg
 have fin:∀c',Zk h (.sl b o k c') sz (rows.take k):=fun c'=>⟨hr,by rw[hlt];omega,.inr ⟨b,o,c',cs,by rw[hlt],.inr hc,Z9.2 ⟨by rw[hlt,hfl,g1,List.take_take,Nat.min_eq_left hml],by rw[hlt];omega⟩⟩⟩
 rcases a2 with⟨e,_⟩|⟨b',rest,j,e,hb,hr'⟩|⟨b',o',c',e,hcc⟩
 ·cases e
 ·injection e with x1 x2 x3 x4
  subst x1;subst x2;subst x4
  have e1:Nat.ble 0 k=true:=by simp
  have e2:Nat.ble k (rows.length+j)=true:=by simp;omega
  have e3:Nat.ble (rows.length+j) (rows.length+j)=true:=by simp
  have e4:Nat.blt 0 (rows.length+k)=true:=by rw[Nat.blt_eq];omega
  have e5:Nat.beq sz sz=true:=by simp
  have e6:Nat.beq 0 (0*sz)=true:=by simp
  have hall:(rows.flatten++rest).length=(rows.length+j)*sz:=by rw[List.length_append,fl,hr',Nat.add_mul]
  have e7:Nat.ble (0+rows.length*sz) (rows.flatten++rest).length=true:=by rw[hall,Nat.add_mul];simp
  have e8:Xu h b 0 sz=rows.length+j:=by simp only[Xu,hb,Yq,hall,Nat.sub_zero];exact Nat.mul_div_cancel _ h00
  have hfin:=fin (.slk (0+0) 0)
  refine⟨.sl b (0+0*sz) k (.slk (0+0) 0),?_,by rw[Nat.zero_mul];exact hfin⟩
  simp only[slcTo,XP,slkOk,hb,e5,e6,Yq,e7,YJ,Vl,Vd,hi,VI,bnds,e1,e2,e3,subS,e4,e8,Nat.sub_zero]
 ·injection e with x1 x2 x3 x4
  subst x1;subst x2;subst x4
  refine⟨.sl b (X5 (Nat.beq c' 0) o (o+0*sz)) k (.fix c'),?_,?_⟩
  ·simp only[slcTo,XP]
   rw[subO_to (hi _) hk hcc]
  ·have:X5 (Nat.beq c' 0) o (o+0*sz)=o:=by cases Nat.beq c' 0<;>simp[X5]
   rw[this];exact fin _
noncomputable def slcFrom (h:H)(sz:Nat)(x k:V):Option V:=XP .nil h sz x (some (.c k)) none none
theorem ZK.from {h0 h:H}{x:V}{sz k:Nat}{kd:IntKind}{rows:List (List V)}(a:ZK h0 h x sz rows)(hl:rows.length≤1000000)(hk:k≤rows.length)(hk0:0<rows.length)(h00:0<sz:=by omega):
  ∃y,slcFrom h sz x (.int kd (k:Int))=some y∧Zk h y sz (rows.drop k):=by
 have hi:∀tm,(Opd.c (.int kd (k:Int))).ev tm=.int kd (k:Int):=fun _=>rfl
 obtain⟨a0,a1,a2⟩:=a
 have hr:∀r∈rows.drop k,r.length=sz:=fun r hr=>a1 r (List.mem_of_mem_drop hr)
 have hld:(rows.drop k).length=rows.length-k:=List.length_drop
 have hlt:(rows.take k).length=k:=by rw[List.length_take];omega
 have hfl:(rows.drop k).flatten=rows.flatten.drop (k*sz):=by
  have h1:=Zp (sz:=sz) (rows:=rows.take k) fun r hr=>a1 r (List.mem_of_mem_take hr)
  rw[hlt] at h1
  have e:rows.flatten=(rows.take k).flatten++(rows.drop k).flatten:=by rw[←List.flatten_append,List.take_append_drop]
  rw[e,List.drop_left' h1]
 have hmul:(rows.length-k)*sz+k*sz=rows.length*sz:=by rw[←Nat.add_mul,Nat.sub_add_cancel hk]
 have e1:Nat.ble k rows.length=true:=by simpa using hk
 have e3:Nat.ble rows.length rows.length=true:=by simp
 rcases a2 with⟨rfl,rfl⟩|⟨b,rfl,l1,l2,hb⟩|⟨b,c,rest,rfl,l1,l2,hb,hc,hlc⟩
 ·simp at hk0
 ·have fl:=Zp a1
  have e4:Nat.blt 0 (rows.length+rows.length)=true:=by rw[Nat.blt_eq];omega
  have e5:Nat.beq sz sz=true:=by simp
  have e6:Nat.beq 0 (0*sz)=true:=by simp
  have e7:Nat.ble (0+rows.length*sz) rows.flatten.length=true:=by rw[fl];simp
  have e8:Xu h b 0 sz=rows.length:=by simp only[Xu,hb,Yq,fl,Nat.sub_zero];exact Nat.mul_div_cancel _ h00
  refine⟨.sl b (0+k*sz) (rows.length-k) (.slk (0+k) 0),?_,?_⟩
  ·simp only[slcFrom,XP,slkOk,hb,e5,e6,Yq,e7,YJ,Vl,Vd,hi,VI,bnds,e1,e3,subS,e4,e8]
  ·refine⟨hr,by rw[hld];omega,.inr ⟨b,0+k*sz,_,_,by rw[hld],.inr (Za hb),?_⟩⟩
   refine Z9.2 ⟨?_,by rw[hld,fl];omega⟩
   rw[hld,hfl,Nat.zero_add,List.take_of_length_le yey]
 ·have fl:=Zp a1
  have e2:Nat.ble rows.length c=true:=by simpa using hlc
  have e4:Nat.ble c c=true:=by simp
  refine⟨.sl b (X5 (Nat.beq c k) 0 (0+k*sz)) (rows.length-k) (.fix (c-k)),?_,?_⟩
  ·simp only[slcFrom,XP,Vl,Vd,hi,VI,bnds,e1,e2,e4,YJ,subO,sub]
  ·refine⟨hr,by rw[hld];omega,.inr ⟨b,_,_,_,by rw[hld],.inr (Za hb),?_⟩⟩
   cases hb2:Nat.beq c k with
   |true=>
    have:=Nat.eq_of_beq_eq_true hb2
    have hz:rows.drop k=[]:=List.drop_eq_nil_of_le yed
    rw[hz]
    exact Z9.2 ⟨by simp,by simp⟩
   |false=>
    show WQ (0+k*sz) _ _=_
    refine Z9.2 ⟨?_,by rw[hld,List.length_append,fl];omega⟩
    rw[hld,hfl,Nat.zero_add,List.drop_append_of_le_length (by rw[fl];omega),List.take_append_of_le_length yey,List.take_of_length_le yey]
namespace Tryz
open Go.Ab.Silk
theorem index_ev {h:H}{x:V}{l:List Int}(hx:Zk h x 1 (l.map encI))(n:Int):Ev fnG Zm (.fn 144 [] []) [x,.ii n] h fun v h'=>v=.ii (XA (fun a=>decide (n=a)) l 0)∧h'=h:=by
 have hb:=hx.boundE
 refine Zf (fd:=c144) rfl rfl rfl ?_
 simp(disch:=omega)only[c144,go_sem,hx.lenE]
 refine Zi l.length (fun i s=>∃tm,s=⟨tm,h,[]⟩∧tm.E 0=x∧tm.E 1=.ii n∧tm.E 7=.ii (l.length:Int)∧tm.E 8=.ii (i:Int)∧XA (fun a=>decide (n=a)) l 0=XA (fun a=>decide (n=a)) (l.drop i) i)
  ?_ ?_ (i:=0) (Nat.zero_le _) ⟨_,rfl,yeb,yeb,yeb,yeb,rfl⟩
 ·rintro i s hi ⟨tm,rfl,t0,t1,t7,t8,e9⟩
  have hi':(i:Int)<(l.length:Int):=by omega
  obtain⟨b,o,c,cs,rfl,hc,hq,hg,hn,hn0⟩:=hx.at hi
  by_cases he:n=l[i]
  ·simp(disch:=omega)only[go_sem,t0,t1,t7,t8,hi',hq (Zb i),hc,hn0 yed,encI,he]
   rw[VP (p:=fun a=>decide (n=a)) hi (by simp[he])] at e9
   rw[←he,e9]
  ·simp(disch:=omega)only[go_sem,t0,t1,t7,t8,hi',hq (Zb i),hc,hn0 yed,encI,he,Ze]
   exact⟨_,rfl,yev,yec,yex,yeb,by rw[e9,W7 hi (by simp[he])]⟩
 ·rintro s ⟨tm,rfl,t0,t1,t7,t8,e9⟩
  simp(disch:=omega)only[go_sem,t0,t1,t7,t8,Int.lt_irrefl]
  rw[e9];simp[XA]
theorem YX {h:H}{x:V}{l:List Int}(hx:Zk h x 1 (l.map encI))(n:Int)(Q:V→H→Prop):Ev fnG Zm (.fn 86 [] []) [x,.ii n] h Q=Q (.bool (decide (n∈l))) h:=by
 refine Ev.det (Zf (fd:=c86) rfl rfl rfl ?_) Q
 simp(disch:=omega)only[c86,go_sem]
 refine(index_ev hx n).mono fun v h' hv=>?_
 obtain⟨rfl,rfl⟩:=hv
 simp(disch:=omega)only[go_sem]
 congr 1
 rw[Vf,Bool.eq_iff_iff,List.any_eq_true,decide_eq_true_eq]
 exact⟨fun⟨a,ha,e⟩=>by(have:=of_decide_eq_true e;subst this;exact ha),fun ha=>⟨n,ha,by simp⟩⟩
def inL (l:List Int)(o:Bool):Nat→Bool:=fun i=> !(decide ((i:Int)∈l)==o)
theorem agree1_pure {h:H}{a b:Nat}{x:V}{l:List Int}{o:Bool}(ha:h.cells a=some [x])(hx:Zk h x 1 (l.map encI))(hb:h.cells b=some [.bool o])(i:Nat):Yy h (.fn 145 [] [.ptr a 0,.ptr b 0]) [.ii (i:Int)] (.bool (inL l o i)):=fun h1 hs=>by
 have ha1:=hs.cells ha
 have hb1:=hs.cells hb
 refine Zf (fd:=c145) rfl rfl rfl ?_
 simp(disch:=omega)only[c145,go_sem,ha1,YX (hx.mono hs),hb1]
 exact⟨rfl,H.Sub.refl hs.wf⟩
noncomputable def Y5 (m:Ml)(c:Nat→Bool):Bool:= @decide (∃w,ZC m c w) (Classical.propDecidable _)
theorem XN {m:Ml}{c:Nat→Bool}{t:Bool}(h:t=true↔∃w,ZC m c w):t=Y5 m c:=by
 by_cases e:∃w,ZC m c w
 ·rw[h.2 e];exact(@decide_eq_true _ (Classical.propDecidable _) e).symm
 ·have ht:t=false:=by
   cases t with
   |false=>rfl
   |true=>exact absurd (h.1 rfl) e
  rw[ht];exact(@decide_eq_false _ (Classical.propDecidable _) e).symm
theorem Un {m:Ml}{c c':Nat→Bool}(h:∀j,j<m.wgs.length→c j=c' j):Y5 m c=Y5 m c':=by
 unfold Y5 ZC
 rw[ownB_congr h]
theorem agree_ev {h:H}{d:Nat}{m:Ml}{x:V}{l:List Int}(hw:h.wf)(hd:WL h d m)(g:Good m)(hx:Zk h x 1 (l.map encI))(o:Bool)(Q:V→H→Prop)(q:∀h',h.Sub h'→Q (.bool (Y5 m (inL l o))) h'):
  Ev fnG Zm (.fn 87 [] []) [.ptr d 0,x,.bool o] h Q:=by
 have gl:=g.lots
 refine Zf (fd:=c87) rfl rfl rfl ?_
 have s2:h.Sub ((h.add (.bk [x])).add (.bk [.bool o])):=yea
 have hx1:=hx.one
 have ga:((h.add (.bk [x])).add (.bk [.bool o])).cells h.next=some [x]:=by simp -implicitDefEqProofs(disch:=first|omega|simp only[nZ]<;>omega|fail)only[go_sem]
 have gb:((h.add (.bk [x])).add (.bk [.bool o])).cells (h.next+1)=some [.bool o]:=by simp -implicitDefEqProofs(disch:=first|omega|simp only[nZ]<;>omega|fail)only[go_sem]
 simp(disch:=omega)only[c87,go_sem,hx1,cells_one hx1,Yf]
 refine bounds_ev (c:=inL l o) s2.wf (hd.mono s2) g rfl (fun i _=>agree1_pure ga (hx.mono s2) gb i) _ fun r h3 s23 hr=>?_
 have hz:(h3.add (.bk (Zt Zw))).get h3.next=some (.bk (Zt Zw)):=Zo rfl
 have s3:=s2.trans s23
 rcases tightR_sem g hr with⟨rfl,hno⟩|⟨b,rfl,hex,ht⟩
 ·simp(disch:=omega)only[go_sem,Ws,Yf,Ve,Y8 Zw Zw hz]
  have:=q _ (s3.add (.bk (Zt Zw)))
  rw[←XN (t:=false) (by simpa using hno)] at this;exact this
 ·simp(disch:=omega)only[go_sem,Ws,Yf,Ve,Y8 b Zw hz]
  have:=q _ (s3.add (.bk (Zt b)))
  rw[←XN (t:=true) (by simpa using hex.feas g)] at this;exact this
def dupAt (l:List Int):Nat→Bool
 |0=>false
 |k+1=>dupAt l k||(match l[k]? with|some n=>decide (n∈l.take k)|none=>false)
theorem dupAt_step {l:List Int}{k:Nat}(h:k<l.length):dupAt l (k+1)=(dupAt l k||decide (l[k]∈l.take k)):=by
 simp only[dupAt]
 rw[List.getElem?_eq_getElem h]
theorem dupAt_up {l:List Int}{k:Nat}(h:dupAt l k=true):∀j,k≤j→dupAt l j=true:=by
 intro j hj
 induction j with
 |zero=>rw[show k=0 by omega] at h;exact h
 |succ j ih=>
  by_cases e:k=j+1
  ·rw[←e];exact h
  ·simp only[dupAt,ih yed,Bool.true_or]
def knownB (m:Ml)(l:List Int):Bool:=l.all fun n=>inB n 0 ((m.wgs.length:Int)-1)
def Wc (m:Ml)(l:List Int):Int:=if check m≠0 then check m else if knownB m l=false then 1 else if dupAt l l.length=true then 5 else 0
set_option maxHeartbeats 2000000 in
theorem Agree_cut {h:H}{v x:V}{m:Ml}{l:List Int}(hw:h.wf)(hm:ZF h v m)(hx:CutC h x 1 (l.map encI))(hl:l.length≤1000):Ev fnG Zm (.fn 25 [] []) [v,x] h fun u h'=>h.Sub h'∧∃t,u=.tup [.bool t,.ii (Wc m l)]∧
  ((Wc m l≠0∧t=false)∨(Wc m l=0∧t=Y5 m (inL l false))):=by
 refine Ev.gen fun Q q=>?_
 have hm0:=hm
 have aX:=hx.1
 obtain⟨L,W,rfl,aL,aW⟩:=hm
 have hlenX:=aX.lenE
 refine Zf (fd:=c25) rfl rfl rfl ?_
 have s2:h.Sub (h.add (.bk [.ii m.errs,L,W])):=yea
 simp(disch:=omega)only[c25,go_sem]
 refine(XQ s2.wf (hm0.mono s2)).mono fun u h3 hu=>?_
 obtain⟨s23,hu⟩:=hu
 have s3:=s2.trans s23
 have g1:h3.cells h.next=some [.ii m.errs,L,W]:=s23.cells (Zh rfl)
 rcases hu with⟨c,rfl⟩|⟨c,d,rfl,hd⟩
 ·have e1:Wc m l=check m:=by simp[Wc,c]
  simp(disch:=omega)only[go_sem,ne_eq,c,not_false_eq_true]
  exact q _ _ ⟨s3,false,by rw[e1],.inl ⟨by rw[e1];exact c,rfl⟩⟩
 have g:=ZJ c
 simp(disch:=omega)only[go_sem,ne_eq,not_true_eq_false,g1]
 refine(Xp (p:=fun n=>inB n 0 ((m.wgs.length:Int)-1)) s3.wf (aX.mono s3) fun n _ h1 hs=>by
  rw[Ev_fn]
  exact weighing_ev ((hm0.mono s3).mono hs) n _ (fun h' s=>⟨rfl,s⟩) hs.wf).mono fun u h4 hu=>?_
 obtain⟨rfl,s34⟩:=hu
 have s4:=s3.trans s34
 cases ck:l.all fun n=>inB n 0 ((m.wgs.length:Int)-1)
 ·have e1:Wc m l=1:=by simp only[Wc,c,ne_eq,not_true_eq_false, ↓reduceIte,knownB,ck]
  simp(disch:=omega)only[go_sem,Bool.not_false]
  exact q _ _ ⟨s4,false,by rw[e1],.inl ⟨by rw[e1];omega,rfl⟩⟩
 have aX4:=aX.mono s4
 simp(disch:=omega)only[go_sem,Bool.not_true,hlenX]
 refine Zi l.length (fun i s=>∃tm,s=⟨tm,h4,[]⟩∧dupAt l i=false∧tm.E 1=x∧tm.E 6=.ptr d 0∧tm.E 25=x∧tm.E 26=.ii (l.length:Int)∧tm.E 27=.ii (i:Int))
  ?_ ?_ (i:=0) (Nat.zero_le _) ⟨_,rfl,rfl,yeb,yeb,yeb,yeb,yeb⟩
 ·rintro i s hi ⟨tm,rfl,hdup,t1,t6,t25,t26,t27⟩
  have hi':(i:Int)<(l.length:Int):=by omega
  obtain⟨b,o,cc,cs,rfl,hc,hq,hg,hn,hn0⟩:=aX4.at hi
  have hst:=dupAt_step hi
  rw[hdup,Bool.false_or] at hst
  obtain⟨y,hy,aY⟩:=(hx.mono s4).to (kd:=.i64) (k:=i) yew yew yew
  rw[←List.map_take] at aY
  simp(disch:=omega)only[go_sem,t1,t6,t25,t26,t27,hi',hq (Zb i),hc,hn0 yed,encI,q_slc_to,hy,YX aY]
  by_cases hd2:l[i]∈l.take i
  ·have e1:Wc m l=5:=by
    have:=dupAt_up (l:=l) (k:=i+1) (by rw[hst];simp[hd2]) l.length yed
    simp only[Wc,c,ne_eq,not_true_eq_false, ↓reduceIte,knownB,ck,this,Bool.true_eq_false]
   simp(disch:=omega)only[go_sem,hd2]
   exact q _ _ ⟨s4,false,by rw[e1],.inl ⟨by rw[e1];omega,rfl⟩⟩
  ·simp(disch:=omega)only[go_sem,hd2,t27,Ze]
   exact⟨_,rfl,by rw[hst];simp[hd2],yec,yeo,(by simp[Zn,Zd,t25]<;>rfl),(by simp[Zn,Zd,t26]<;>rfl),yeb⟩
 ·rintro s ⟨tm,rfl,hdup,t1,t6,t25,t26,t27⟩
  have e1:Wc m l=0:=by simp only[Wc,c,ne_eq,not_true_eq_false, ↓reduceIte,knownB,ck,hdup,Bool.true_eq_false,Bool.false_eq_true]
  simp(disch:=omega)only[go_sem,t1,t6,t25,t26,t27,Int.lt_irrefl]
  refine agree_ev s4.wf (hd.mono s34) g aX4 false _ fun h5 s45=>?_
  simp(disch:=omega)only[go_sem]
  exact q _ _ ⟨s4.trans s45,_,by rw[e1],.inr ⟨e1,rfl⟩⟩
theorem Agree_ev {h h0:H}{v x:V}{m:Ml}{l:List Int}(hw:h.wf)(hm:ZF h v m)(hx:ZK h0 h x 1 (l.map encI))(hl:l.length≤1000):Ev fnG Zm (.fn 25 [] []) [v,x] h fun u h'=>h.Sub h'∧∃t,u=.tup [.bool t,.ii (Wc m l)]∧
  ((Wc m l≠0∧t=false)∨(Wc m l=0∧t=Y5 m (inL l false))):=
 Agree_cut hw hm (hx.cut yew) hl
end Tryz
end Go.Ab
namespace Go.Ab.Tryz
open Go.Ab.Silk
theorem find_step (P:List Int→Bool)(l:List Int)(k f:Nat)(j:Int):(X4 (k+1) (f+1) j).find? (fun c=>P (l++c))=
  match(X4 k f (j+1)).find? (fun c=>P ((l++[j])++c)) with|some c=>some (j::c)|none=>(X4 (k+1) f (j+1)).find? (fun c=>P (l++c)):=by
 simp only[X4,List.find?_append,List.find?_map]
 have e:(fun c=>P (l++c))∘ (fun l'=>j::l')=fun c=>P ((l++[j])++c):=by
  funext c;simp
 rw[e]
 cases(X4 k f (j+1)).find? (fun c=>P ((l++[j])++c))<;>simp
def Uu (hb:H)(hv:V)(P:List Int→Bool):Prop:=∀(l:List Int) (x:V) (h1:H),hb.Sub h1→Zk h1 x 1 (l.map encI)→∀R:V→H→Prop,(∀h2,h1.Sub h2→R (.bool (P l)) h2)→Ev fnG Zm hv [x] h1 R
def MoreRes (P:List Int→Bool)(l:List Int)(oC:Nat)(r:Option (List Int))(t:Bool)(h':H):Prop:=match r with
 |some c=>t=true∧∃y,h'.get oC=some (.bk [y])∧CutC h' y 1 ((l++c).map encI)
 |none=>t=false∧∃y,h'.get oC=some (.bk [y])
set_option maxHeartbeats 2000000 in
theorem more_ev {hb:H}(hwb:hb.wf){d:Nat}{m:Ml}(hd:WL hb d m)(g:Good m){hv:V}{P:List Int→Bool}(hP:Uu hb hv P){mC oC hC dC fC:Nat}(ho:hb.next≤oC)(n1:mC≠oC)(n2:hC≠oC)(n3:dC≠oC)(n4:fC≠oC){many:Nat}(hmany:many≤11):
  ∀(k:Nat) (h:H) (x:V) (l:List Int) (i:Nat),l.length+k=many→hb.Sub h→h.cells mC=some [.ii (many:Int)]→h.cells hC=some [hv]→h.cells dC=some [.ptr d 0]→h.cells fC=some [.fn 156 [] [.ptr mC 0,.ptr oC 0,.ptr hC 0,.ptr dC 0,.ptr fC 0]]→
   (∃y,h.get oC=some (.bk [y]))→CutC h x 1 (l.map encI)→(∀b,Zs x b→b≠oC)→i≤m.wgs.length→∀(Q:V→H→Prop),(∀t h',Zq (fun c=>c=oC) h h'→h'.wf→MoreRes P l oC ((X4 k (m.wgs.length-i) (i:Int)).find? fun c=>P (l++c)) t h'→Q (.bool t) h')→
   Ev fnG Zm (.fn 156 [] [.ptr mC 0,.ptr oC 0,.ptr hC 0,.ptr dC 0,.ptr fC 0]) [x,.ii (i:Int)] h Q:=by
 obtain⟨pm,ll,L',W',k1,k2,aL',aW',_⟩:=id hd
 have hlenW:=aW'.lenE
 have gw:=g.wgs
 intro k
 induction k with
 |zero=>
  intro h x l i hk hs cm ch cd cf ⟨y0,go⟩ ax0 nx hi Q q
  have ax:=ax0.1
  have hlx:=ax.lenE
  have hll:(l.length:Int)=(many:Int):=by omega
  have hlo:=hs.wf _ _ go
  refine Zf (fd:=c156) rfl rfl rfl ?_
  have hx1:=ax.one
  have kS:=Zq.set h oC (.bk [x])
  have wS:=H.wf_set hs.wf (.bk [x]) go
  have sS:hb.Sub (h.set oC (.bk [x])):=kS.sub hs hwb (fun c hc=>by omega) wS
  have axS:Zk (h.set oC (.bk [x])) x 1 (l.map encI):=YD ax kS nx
  simp(disch:=omega)only[c156,go_sem,hlx,hll,cm,go,hx1,cells_one hx1,ch]
  refine hP l x _ sS axS _ fun h2 s2=>?_
  simp(disch:=omega)only[go_sem]
  refine q _ _ ((kS.trans (Zq.of s2 fun c=>c=oC)).mono fun c h=>by rcases h with h|h<;>exact h) s2.wf ?_
  have e:(X4 0 (m.wgs.length-i) (i:Int)).find? (fun c=>P (l++c))=if P l=true then some [] else none:=by
   simp only[X4,List.find?_cons,List.find?_nil,List.append_nil]
   cases P l<;>rfl
  rw[e]
  have go2:h2.get oC=some (.bk [x]):=s2.get (get_set_same rfl)
  cases hp:P l
  ·exact⟨rfl,x,go2⟩
  ·exact⟨rfl,x,go2,by rw[List.append_nil];exact(ax0.keep kS nx).mono s2⟩
 |succ k ih=>
  intro h x l i hk hs cm ch cd cf hgo ax0 nx hi Q q
  have ax:=ax0.1
  have hlx:=ax.lenE
  have hll:¬(l.length:Int)=(many:Int):=by omega
  refine Zf (fd:=c156) rfl rfl rfl ?_
  simp(disch:=omega)only[c156,go_sem,hlx,hll,cm]
  refine Zi m.wgs.length (fun j s=>∃tm h',s=⟨tm,h',[]⟩∧Zq (fun c=>c=oC) h h'∧h'.wf∧(∃y,h'.get oC=some (.bk [y]))∧((X4 (k+1) (m.wgs.length-i) (i:Int)).find? fun c=>P (l++c))=((X4 (k+1) (m.wgs.length-j) (j:Int)).find? fun c=>P (l++c))∧
    tm.E 0=x∧tm.E 5=.ptr dC 0∧tm.E 6=.ptr fC 0∧tm.E 10=.ii (j:Int))
   ?_ ?_ (i:=i) hi ⟨_,_,rfl,Zq.refl _ _,hs.wf,hgo,rfl,yeb,yeb,yeb,yeb⟩
  ·rintro j s hj ⟨tm,h',rfl,kh,wh,⟨y0,go⟩,hfind,t0,t5,t6,t10⟩
   have hj':(j:Int)<(m.wgs.length:Int):=by omega
   have hs':hb.Sub h':=kh.sub hs hwb (fun c hc=>by omega) wh
   have cm':=kh.cells cm n1
   have ch':=kh.cells ch n2
   have cd':=kh.cells cd n3
   have cf':=kh.cells cf n4
   have ax':=YD ax kh nx
   have hlo:=wh _ _ go
   have hll2:(l.map encI).length≤12:=by simp;omega
   simp(disch:=omega)only[go_sem,t0,t5,t6,t10,cd',Za (hs'.get k1),hlenW,hj',cf']
   refine cloneInt_ev wh ax' yed _ fun v h1 ov=>?_
   have s01:=ov.1
   have cf1:=s01.cells cf'
   simp(disch:=omega)only[go_sem,t0,t5,t6,t10]
   have s12:=(H.Sub.refl s01.wf).add (.bk [.ii (j:Int)])
   refine(ov.mono s12).app1 (r:=encI (j:Int)) wh rfl yed (own1_lit _) rfl yed yed fun x2 h2 ox2 dx2 kx2=>?_
   have s02:=ox2.1
   have cf2:=s02.cells cf'
   have ax2:=ox2.cut yew
   have e2:l.map encI++[encI (j:Int)]=(l++[(j:Int)]).map encI:=by simp
   rw[e2] at ax2
   simp(disch:=omega)only[go_sem,t0,t5,t6,t10,Ze]
   refine ih h2 x2 (l++[(j:Int)]) (j+1) yew (hs'.trans s02) (s02.cells cm') (s02.cells ch') (s02.cells cd') cf2 ⟨y0,s02.get go⟩ ax2 (fun b hb=>by have:=(ox2.blk hb).1;omega) yed _ fun t h3 k23 w3 hres=>?_
   have k03:Zq (fun c=>c=oC) h h3:=((kh.trans (Zq.of s02 fun c=>c=oC)).trans k23).mono fun c h=>by rcases h with(h|h)|h<;>exact h
   have hst:=find_step P l k (m.wgs.length-(j+1)) (j:Int)
   have ef:m.wgs.length-j=(m.wgs.length-(j+1))+1:=by omega
   have ej:((j:Int)+1)=((j+1:Nat):Int):=by omega
   rw[ef,hst,ej] at hfind
   cases hr:(X4 k (m.wgs.length-(j+1)) ((j+1:Nat):Int)).find? (fun c=>P ((l++[(j:Int)])++c)) with
   |some c=>
    rw[hr] at hres hfind
    obtain⟨rfl,y,gy,ay⟩:=hres
    simp(disch:=omega)only[go_sem,t0,t5,t6,t10,cf',cf1,s12.cells cf1,cf2]
    refine q _ _ k03 w3 ?_
    rw[hfind]
    exact⟨rfl,y,gy,by rw[List.append_assoc] at ay;exact ay⟩
   |none=>
    rw[hr] at hres hfind
    obtain⟨rfl,y,gy⟩:=hres
    simp(disch:=omega)only[go_sem,t0,t5,t6,t10,cf',cf1,s12.cells cf1,cf2,Ze]
    exact⟨_,_,rfl,k03,w3,⟨y,gy⟩,hfind,yev,yet,yeo,yeb⟩
  ·rintro s ⟨tm,h',rfl,kh,wh,hgo',hfind,t0,t5,t6,t10⟩
   have hs':hb.Sub h':=kh.sub hs hwb (fun c hc=>by omega) wh
   have cd':=kh.cells cd n3
   simp(disch:=omega)only[go_sem,t0,t5,t6,t10,cd',Za (hs'.get k1),hlenW,Int.lt_irrefl]
   refine q _ _ kh wh ?_
   rw[hfind,Nat.sub_self]
   exact⟨rfl,hgo'⟩
theorem Uu.mono {hb h:H}{hv:V}{P:List Int→Bool}(a:Uu hb hv P)(s:hb.Sub h):Uu h hv P:=fun l x h1 s1 ax R r=>a l x h1 (s.trans s1) ax R r
set_option maxHeartbeats 2000000 in
theorem first_ev {h:H}{d:Nat}{m:Ml}{hv:V}{P:List Int→Bool}(hw:h.wf)(hd:WL h d m)(g:Good m)(hv1:hv.one=true)(hP:Uu h hv P)(Q:V→H→Prop)
  (q:∀y t h',h.Sub h'→(match ZX P m.wgs.length (m.wgs.length+1) 0 with|some c=>t=true∧CutC h' y 1 (c.map encI)|none=>t=false)→Q (.tup [y,.bool t]) h'):Ev fnG Zm (.fn 117 [] []) [.ptr d 0,hv] h Q:=by
 obtain⟨pm,ll,L',W',k1,k2,aL',aW',_⟩:=id hd
 have hlenW:=aW'.lenE
 have gw:=g.wgs
 have hld:=hw _ _ k1
 refine Zf (fd:=c117) rfl rfl rfl ?_
 have s2:h.Sub (((h.add (.bk [.ptr d 0])).add (.bk [hv])).add (.bk [.nils])):=yea
 simp -implicitDefEqProofs(disch:=first|omega|simp only[nZ]<;>omega|fail)only[c117,go_sem,hv1,cells_one hv1,Za k1,hlenW,Ze]
 refine Zi (m.wgs.length+1) (fun k s=>∃tm h',s=⟨tm,h',[]⟩∧h.Sub h'∧h.next+2<h'.next∧h'.cells h.next=some [.ptr d 0]∧h'.cells (h.next+1)=some [hv]∧(∃y,h'.get (h.next+1+1)=some (.bk [y]))∧ZX P m.wgs.length (m.wgs.length+1) 0=ZX P m.wgs.length (m.wgs.length+1-k) k∧
   tm.E 2=.ptr h.next 0∧tm.E 3=.ptr (h.next+1) 0∧tm.E 6=.ptr (h.next+1+1) 0∧tm.E 7=.bool false∧tm.E 16=.ii ((m.wgs.length+1:Nat):Int)∧tm.E 17=.ii (k:Int))
  ?_ ?_ (i:=0) (Nat.zero_le _) ⟨_,_,rfl,s2,by simp only[H.next_add];omega,by simp -implicitDefEqProofs(maxSteps:=999999)(disch:=first|with_reducible rfl|omega|(simp only[nA,nS,nD]<;>omega)|fail)only[go_sem],by simp -implicitDefEqProofs(maxSteps:=999999)(disch:=first|with_reducible rfl|omega|(simp only[nA,nS,nD]<;>omega)|fail)only[go_sem],⟨.nils,by simp -implicitDefEqProofs(maxSteps:=999999)(disch:=first|with_reducible rfl|omega|(simp only[nA,nS,nD]<;>omega)|fail)only[go_sem]⟩,rfl,yem,yem,yem,yem,yem,yem⟩
 ·rintro k s hk ⟨tm,h',rfl,hs,lt,gd,gh,⟨y0,go⟩,hfirst,t2,t3,t6,t7,t16,t17⟩
  have hk':(k:Int)<((m.wgs.length+1:Nat):Int):=by omega
  have sA:=((H.Sub.refl hs.wf).add (.bk [.ii (k:Int)])).add (.bk [.fn 156 [] [.ptr h'.next 0,.ptr (h.next+1+1) 0,.ptr (h.next+1) 0,.ptr h.next 0,.ptr (h'.next+1) 0]])
  have hsA:=hs.trans sA
  have gm:((h'.add (.bk [.ii (k:Int)])).add (.bk [.fn 156 [] [.ptr h'.next 0,.ptr (h.next+1+1) 0,.ptr (h.next+1) 0,.ptr h.next 0,.ptr (h'.next+1) 0]])).cells h'.next=some [.ii (k:Int)]:=by simp -implicitDefEqProofs(disch:=first|omega|simp only[nZ]<;>omega|fail)only[go_sem]
  have gf:((h'.add (.bk [.ii (k:Int)])).add (.bk [.fn 156 [] [.ptr h'.next 0,.ptr (h.next+1+1) 0,.ptr (h.next+1) 0,.ptr h.next 0,.ptr (h'.next+1) 0]])).cells (h'.next+1)=some [.fn 156 [] [.ptr h'.next 0,.ptr (h.next+1+1) 0,.ptr (h.next+1) 0,.ptr h.next 0,.ptr (h'.next+1) 0]]:=by simp -implicitDefEqProofs(disch:=first|omega|simp only[nZ]<;>omega|fail)only[go_sem]
  simp -implicitDefEqProofs(disch:=first|omega|simp only[nZ]<;>omega|fail)only[go_sem,t2,t3,t6,t7,t16,t17,hk']
  refine more_ev hw hd g hP yed yed yed yed yed (many:=k) yed k _ .nils [] 0 yez hsA gm (sA.cells gh) (sA.cells gd) gf ⟨y0,sA.get go⟩ ((Zr.nil (H.Sub.refl hsA.wf) 1).c.cut yez) (fun b hb=>(ZE hb).elim) (Nat.zero_le _) _ fun t h3 k3 w3 hres=>?_
  have s3:h.Sub h3:=k3.sub hsA hw (fun c hc=>by omega) w3
  have l3:=k3.1
  simp only[H.next_add] at l3
  have hst:ZX P m.wgs.length (m.wgs.length+1-k) k=(match(X4 k m.wgs.length 0).find? P with|some c=>some c|none=>ZX P m.wgs.length (m.wgs.length-k) (k+1)):=by
   rw[show m.wgs.length+1-k=(m.wgs.length-k)+1 by omega];rfl
  have hres':MoreRes P [] (h.next+1+1) ((X4 k m.wgs.length 0).find? P) t h3:=hres
  cases hr:(X4 k m.wgs.length 0).find? P with
  |some c=>
   rw[hr] at hres' hst
   obtain⟨rfl,y,gy,ay⟩:=hres'
   have ay1:=ay.1.one
   simp(disch:=omega)only[go_sem,t2,t3,t6,t7,t16,t17,Za gy]
   refine q _ _ _ s3 ?_
   rw[hfirst,hst]
   exact⟨rfl,ay⟩
  |none=>
   rw[hr] at hres' hst
   obtain⟨rfl,y,gy⟩:=hres'
   simp(disch:=omega)only[go_sem,t2,t3,t6,t7,t16,t17,Ze]
   exact⟨_,_,rfl,s3,by omega,k3.cells (sA.cells gd) yed,k3.cells (sA.cells gh) yed,⟨y,gy⟩,by rw[hfirst,hst,show m.wgs.length+1-(k+1)=m.wgs.length-k by omega],yei,yee,yeo,yeb,yen,yem⟩
 ·rintro s ⟨tm,h',rfl,hs,lt,gd,gh,⟨y0,go⟩,hfirst,t2,t3,t6,t7,t16,t17⟩
  simp(disch:=omega)only[go_sem,t2,t3,t6,t7,t16,t17,Int.lt_irrefl,Za go]
  refine q _ _ _ hs ?_
  rw[hfirst,Nat.sub_self]
  rfl
noncomputable def XB (m:Ml):List Int→Bool:=fun l=> !Y5 m (inL l false)
noncomputable def XL (m:Ml):List Int→Bool:=fun l=>Y5 m (inL l true)
theorem clash1_holds {h:H}{d a:Nat}{m:Ml}(hd:WL h d m)(g:Good m)(ha:h.cells a=some [.ptr d 0]):Uu h (.fn 118 [] [.ptr a 0]) (XB m):=fun l x h1 s1 ax R r=>by
 have ha1:=s1.cells ha
 refine Zf (fd:=c118) rfl rfl rfl ?_
 simp(disch:=omega)only[c118,go_sem,ha1]
 refine agree_ev s1.wf (hd.mono s1) g ax false _ fun h2 s2=>?_
 simp(disch:=omega)only[go_sem]
 exact r _ s2
theorem wrong1_holds {h:H}{d a:Nat}{m:Ml}(hd:WL h d m)(g:Good m)(ha:h.cells a=some [.ptr d 0]):Uu h (.fn 119 [] [.ptr a 0]) (XL m):=fun l x h1 s1 ax R r=>by
 have ha1:=s1.cells ha
 refine Zf (fd:=c119) rfl rfl rfl ?_
 simp(disch:=omega)only[c119,go_sem,ha1]
 refine agree_ev s1.wf (hd.mono s1) g ax true _ fun h2 s2=>?_
 simp(disch:=omega)only[go_sem]
 exact r _ s2
theorem Clash_cut {h:H}{v:V}{m:Ml}(hw:h.wf)(hm:ZF h v m):Ev fnG Zm (.fn 67 [] []) [v] h fun u h'=>h.Sub h'∧∃x l e,u=.tup [x,.ii e]∧CutC h' x 1 (l.map encI)∧((check m≠0∧e=check m∧l=[])∨
  (check m=0∧ZX (XB m) m.wgs.length (m.wgs.length+1) 0=none∧e=6∧l=[])∨(check m=0∧ZX (XB m) m.wgs.length (m.wgs.length+1) 0=some l∧e=0)):=by
 refine Ev.gen fun Q q=>?_
 have hm0:=hm
 obtain⟨L,W,rfl,aL,aW⟩:=hm
 refine Zf (fd:=c67) rfl rfl rfl ?_
 have s2:h.Sub (h.add (.bk [.ii m.errs,L,W])):=yea
 simp(disch:=omega)only[c67,go_sem]
 refine(XQ s2.wf (hm0.mono s2)).mono fun u h3 hu=>?_
 obtain⟨s23,hu⟩:=hu
 have s3:=s2.trans s23
 rcases hu with⟨c,rfl⟩|⟨c,d,rfl,hd⟩
 ·simp(disch:=omega)only[go_sem,ne_eq,c,not_false_eq_true]
  exact q _ _ ⟨s3.add _,.nils,[],check m,rfl,(Zr.nil (s3.add _) 1).c.cut yez,.inl ⟨c,rfl,rfl⟩⟩
 have g:=ZJ c
 have s34:=(H.Sub.refl s3.wf).add (.bk [.ptr d 0])
 have gd:(h3.add (.bk [.ptr d 0])).cells h3.next=some [.ptr d 0]:=Zh rfl
 simp(disch:=omega)only[go_sem,ne_eq,not_true_eq_false]
 refine first_ev (P:=XB m) s34.wf (hd.mono s34) g rfl (clash1_holds (hd.mono s34) g gd) _ fun y t h5 s45 hr=>?_
 have s5:=s3.trans (s34.trans s45)
 cases hf:ZX (XB m) m.wgs.length (m.wgs.length+1) 0 with
 |none=>
  rw[hf] at hr
  have hr':t=false:=hr
  subst hr'
  simp(disch:=omega)only[go_sem,Bool.not_false]
  exact q _ _ ⟨s5,.nils,[],6,rfl,(Zr.nil s5 1).c.cut yez,.inr (.inl ⟨c,hf,rfl,rfl⟩)⟩
 |some l=>
  rw[hf] at hr
  obtain⟨rfl,ay⟩:=hr
  simp(disch:=omega)only[go_sem,Bool.not_true]
  exact q _ _ ⟨s5,y,l,0,rfl,ay,.inr (.inr ⟨c,hf,rfl⟩)⟩
theorem Clash_ev {h:H}{v:V}{m:Ml}(hw:h.wf)(hm:ZF h v m):Ev fnG Zm (.fn 67 [] []) [v] h fun u h'=>h.Sub h'∧∃x l e,u=.tup [x,.ii e]∧Zk h' x 1 (l.map encI)∧((check m≠0∧e=check m∧l=[])∨
  (check m=0∧ZX (XB m) m.wgs.length (m.wgs.length+1) 0=none∧e=6∧l=[])∨(check m=0∧ZX (XB m) m.wgs.length (m.wgs.length+1) 0=some l∧e=0)):=
 (Clash_cut hw hm).mono fun u h' hu=>by
  obtain⟨s,x,l,e,a,b,c⟩:=hu
  exact⟨s,x,l,e,a,b.1,c⟩
theorem wrong_some {m:Ml}(g:Good m):∃l,ZX (XL m) m.wgs.length (m.wgs.length+1) 0=some l∧IsMin (XL m) m.wgs.length l:=by
 rcases Uf (XL m) m.wgs.length (m.wgs.length+1) 0 yed (fun d _ h=>by omega) with h|⟨_,h⟩
 ·exact h
 ·exfalso
  have hb:∀(n:Nat) (i:Int),Inc (i+n) i ((List.range n).map fun(k:Nat)=>i+(k:Int))∧∀k:Nat,k<n→i+(k:Int)∈(List.range n).map fun(k:Nat)=>i+(k:Int):=fun n=>by
   induction n with
   |zero=>intro i;exact⟨trivial,fun k hk=>by omega⟩
   |succ n ih=>
    intro i
    refine⟨?_,fun k hk=>List.mem_map.2 ⟨k,List.mem_range.2 hk,rfl⟩⟩
    have h1:=(ih (i+1)).1
    rw[List.range_succ_eq_map,List.map_cons,List.map_map]
    refine⟨by simp,by simp;omega,?_⟩
    have e:(fun k:Nat=>i+(k:Int))∘ Nat.succ=fun k:Nat=>i+1+(k:Int):=by funext k;simp only[Function.comp];omega
    rw[e]
    simp only[Int.ofNat_zero,Int.add_zero]
    rw[show i+((n+1:Nat):Int)=i+1+(n:Int) by omega]
    simpa using h1
  have hh:=h _ (by have:=(hb m.wgs.length 0).1;rwa[Int.zero_add] at this)
  have:Y5 m (inL ((List.range m.wgs.length).map fun(k:Nat)=>(0:Int)+(k:Int)) true)=true:=by
   rw[←XN (t:=true)]
   simp only[true_iff]
   refine⟨fun _=>0,(own_iff g).2 ⟨fun i _ _=>by omega,fun k hk hc=>?_⟩,fun i _ _ _=>?_⟩
   ·have hm:=(hb m.wgs.length 0).2 k hk
    rw[Int.zero_add] at hm
    unfold inL at hc
    rw[decide_eq_true hm] at hc
    cases hc
   ·have e0:∀l:List Int,Zg (fun _=>(0:Int)) l=0:=fun l=>by
     induction l with
     |nil=>rfl
     |cons a l ih=>simp only[Zg,ih];omega
    exact(e0 _).symm
  unfold XL at hh
  rw[this] at hh;cases hh
theorem Wrong_ev {h:H}{v:V}{m:Ml}(hw:h.wf)(hm:ZF h v m):Ev fnG Zm (.fn 68 [] []) [v] h fun u h'=>h.Sub h'∧∃x l e,u=.tup [x,.ii e]∧Zk h' x 1 (l.map encI)∧((check m≠0∧e=check m∧l=[])∨
  (check m=0∧ZX (XL m) m.wgs.length (m.wgs.length+1) 0=some l∧e=0)):=by
 refine Ev.gen fun Q q=>?_
 have hm0:=hm
 obtain⟨L,W,rfl,aL,aW⟩:=hm
 refine Zf (fd:=c68) rfl rfl rfl ?_
 have s2:h.Sub (h.add (.bk [.ii m.errs,L,W])):=yea
 simp(disch:=omega)only[c68,go_sem]
 refine(XQ s2.wf (hm0.mono s2)).mono fun u h3 hu=>?_
 obtain⟨s23,hu⟩:=hu
 have s3:=s2.trans s23
 rcases hu with⟨c,rfl⟩|⟨c,d,rfl,hd⟩
 ·simp(disch:=omega)only[go_sem,ne_eq,c,not_false_eq_true]
  exact q _ _ ⟨s3.add _,.nils,[],check m,rfl,(Zr.nil (s3.add _) 1).sl yez,.inl ⟨c,rfl,rfl⟩⟩
 have g:=ZJ c
 have s34:=(H.Sub.refl s3.wf).add (.bk [.ptr d 0])
 have gd:(h3.add (.bk [.ptr d 0])).cells h3.next=some [.ptr d 0]:=Zh rfl
 simp(disch:=omega)only[go_sem,ne_eq,not_true_eq_false]
 refine first_ev (P:=XL m) s34.wf (hd.mono s34) g rfl (wrong1_holds (hd.mono s34) g gd) _ fun y t h5 s45 hr=>?_
 have s5:=s3.trans (s34.trans s45)
 obtain⟨l,hf,_⟩:=wrong_some g
 rw[hf] at hr
 obtain⟨rfl,ay⟩:=hr
 simp(disch:=omega)only[go_sem]
 exact q _ _ ⟨s5,y,l,0,rfl,ay.1,.inr ⟨c,hf,rfl⟩⟩
end Go.Ab.Tryz
namespace Go.Ab.Tryz
open Go.Ab.Silk
def sAt (s:Int):Nat→Int
 |0=>s
 |k+1=>sAt s k/2
theorem sAt_nn {s:Int}(h:0≤s):∀k,0≤sAt s k
 |0=>h
 |k+1=>by have:=sAt_nn h k;simp only[sAt];omega
theorem sAt_le {s:Int}(h:0≤s):∀k,sAt s k≤s
 |0=>Int.le_refl _
 |k+1=>by have:=sAt_le h k;have:=sAt_nn h k;simp only[sAt];omega
theorem sAt_half (s:Int):∀k,sAt (s/2) k=sAt s (k+1)
 |0=>rfl
 |k+1=>by have:=sAt_half s k;simp only[sAt] at *;omega
def bitC (s:Int):Nat→Bool:=fun k=>decide (sAt s k%2=1)
def lst (c:Nat→Bool):Nat→List Int
 |0=>[]
 |n+1=>lst c n++if c n=true then[(n:Int)] else[]
theorem lst_len (c:Nat→Bool):∀n,(lst c n).length≤n
 |0=>Nat.le_refl _
 |n+1=>by have:=lst_len c n;simp only[lst,List.length_append];split<;>simp<;>omega
theorem mem_lst (c:Nat→Bool)(i:Nat):∀n,(i:Int)∈lst c n↔i<n∧c i=true
 |0=>by simp[lst]
 |n+1=>by
  simp only[lst,List.mem_append,mem_lst c i n]
  by_cases e:i=n
  ·subst e
   cases c i<;>simp
  ·constructor
   ·rintro(⟨h1,h2⟩|h)
    ·exact⟨by omega,h2⟩
    ·split at h
     ·simp at h;omega
     ·cases h
   ·rintro⟨h1,h2⟩
    exact .inl ⟨by omega,h2⟩
theorem lst_congr {c d:Nat→Bool}:∀{n:Nat},(∀i,i<n→c i=d i)→lst c n=lst d n
 |0,_=>rfl
 |n+1,h=>by
  have ih:=lst_congr (c:=c) (d:=d) (n:=n) fun i hi=>h i yed
  simp only[lst,ih,h n yed]
theorem bitsL_snoc:∀(k:Nat) (s i:Int),ZQ (k+1) s i=ZQ k s i++if bitC s k=true then[i+(k:Int)] else[]
 |0,s,i=>by
  by_cases h:s%2=1<;>simp[ZQ,bitC,sAt,h]
 |k+1,s,i=>by
  have ih:=bitsL_snoc k (s/2) (i+1)
  have e:bitC (s/2) k=bitC s (k+1):=by unfold bitC;rw[sAt_half]
  have e2:i+1+(k:Int)=i+((k+1:Nat):Int):=by omega
  rw[e,e2] at ih
  rw[show ZQ (k+1+1) s i=if s%2=1 then i::ZQ (k+1) (s/2) (i+1) else ZQ (k+1) (s/2) (i+1) from rfl,show ZQ (k+1) s i=if s%2=1 then i::ZQ k (s/2) (i+1) else ZQ k (s/2) (i+1) from rfl,ih]
  split<;>simp
theorem lst_bits (s:Int):∀n,lst (bitC s) n=ZQ n s 0
 |0=>rfl
 |n+1=>by rw[bitsL_snoc,←lst_bits s n];simp[lst]
theorem inL_bits {s:Int}{W i:Nat}(h:i<W):inL (ZQ W s 0) false i=bitC s i:=by
 rw[←lst_bits]
 unfold inL
 have:=mem_lst (bitC s) i W
 cases hc:bitC s i
 ·rw[hc] at this;rw[decide_eq_false (fun hm=>by simpa using this.1 hm)];rfl
 ·rw[hc] at this;rw[decide_eq_true (this.2 ⟨h,rfl⟩)];rfl
theorem inL_not (l:List Int)(i:Nat):inL l true i= !inL l false i:=by
 unfold inL;cases decide ((i:Int)∈l)<;>rfl
theorem pow_le {i:Nat}(h:i≤10):2^i≤1024:=Nat.le_trans (Nat.pow_le_pow_right yed h) (by decide)
theorem sets_ev {h:H}{v:V}{m:Ml}(hw:h.wf)(hm:ZF h v m)(hl:m.wgs.length≤10)(Q:V→H→Prop)(q:∀h',h.Sub h'→Q (.ii ((2^m.wgs.length:Nat):Int)) h'):Ev fnG Zm (.fn 113 [] []) [v] h Q:=by
 obtain⟨L,W,rfl,aL,aW⟩:=hm
 refine Zf (fd:=c113) rfl rfl rfl ?_
 have hlenW:=aW.lenE
 have s2:h.Sub (h.add (.bk [.ii m.errs,L,W])):=yea
 have g1:(h.add (.bk [.ii m.errs,L,W])).cells h.next=some [.ii m.errs,L,W]:=Zh rfl
 simp(disch:=omega)only[c113,go_sem]
 generalize h.add (.bk [.ii m.errs,L,W])=h1 at s2 g1⊢
 refine Zi m.wgs.length (fun i s=>∃tm,s=⟨tm,h1,[]⟩∧tm.E 1=.ptr h.next 0∧tm.E 3=.ii ((2^i:Nat):Int)∧tm.E 4=.ii (i:Int))
  ?_ ?_ (i:=0) (Nat.zero_le _) ⟨_,rfl,yeb,yeb,yeb⟩
 ·rintro i s hi ⟨tm,rfl,t1,t3,t4⟩
  have hi':(i:Int)<(m.wgs.length:Int):=by omega
  have hp:=pow_le (i:=i) yed
  have hw2:wr .i64 (2*((2^i:Nat):Int))=((2^(i+1):Nat):Int):=by
   rw[Nat.pow_succ]
   generalize 2^i=p at hp⊢
   rw[ZD yed yed];omega
  simp(disch:=omega)only[go_sem,t1,t3,t4,g1,hlenW,hi',hw2,Ze]
  exact⟨_,rfl,yec,yeb,yeb⟩
 ·rintro s ⟨tm,rfl,t1,t3,t4⟩
  simp(disch:=omega)only[go_sem,t1,t3,t4,g1,hlenW,Int.lt_irrefl]
  exact q _ s2
def Ww (s:Int)(n i:Nat):List Bool:=(List.range n).map fun j=>decide (j<i)&&bitC s j
theorem bitsTo_len (s:Int)(n i:Nat):(Ww s n i).length=n:=by simp[Ww]
theorem bitsTo_zero (s:Int)(n:Nat):Ww s n 0=List.replicate n false:=by
 refine List.ext_getElem (by simp[Ww]) fun i h1 h2=>?_
 simp[Ww]
theorem bitsTo_step {s:Int}{n i:Nat}(h:i<n):(Ww s n i).set i (bitC s i)=Ww s n (i+1):=by
 refine List.ext_getElem (by simp[Ww]) fun k h1 h2=>?_
 rw[List.getElem_set]
 by_cases e:i=k
 ·subst e;simp[Ww]
 ·rw[if_neg e]
  simp only[Ww,List.getElem_map,List.getElem_range]
  congr 1
  rw[Bool.eq_iff_iff];simp;omega
def Xk (s:Int)(n:Nat):List Bool:=(List.range n).map (bitC s)
theorem Xd (s:Int)(n:Nat):(Xk s n).length=n:=by simp[Xk]
theorem bitsTo_all (s:Int)(n:Nat):Ww s n n=Xk s n:=by
 refine List.map_congr_left fun i hi=>?_
 rw[decide_eq_true (List.mem_range.1 hi),Bool.true_and]
theorem cOf_bitsA {s:Int}{n i:Nat}(h:i<n):cOf (Xk s n) i=bitC s i:=by
 rw[cOf_at (by rw[Xd];exact h)];simp[Xk]
theorem choice_ev {h:H}{v:V}{m:Ml}{s:Int}(hw:h.wf)(hm:ZF h v m)(hl:m.wgs.length≤10)(s0:0≤s)(s1:s≤1024)(Q:V→H→Prop)
  (q:∀b h',h.Sub h'→h.next≤b→b<h'.next→h'.get b=some (.bk ((Xk s m.wgs.length).map V.bool))→Q (.sl b 0 m.wgs.length (.fix m.wgs.length)) h'):Ev fnG Zm (.fn 114 [] []) [v,.ii s] h Q:=by
 obtain⟨L,W,rfl,aL,aW⟩:=hm
 refine Zf (fd:=c114) rfl rfl rfl ?_
 have hlenW:=aW.lenE
 have s2:h.Sub ((h.add (.bk [.ii m.errs,L,W])).add (.bk (Yp m.wgs.length [.bool false]))):=yea
 simp(disch:=omega)only[c114,go_sem,hlenW,VX]
 refine Zi m.wgs.length (fun i st=>∃tm h',st=⟨tm,h',[]⟩∧h.Sub h'∧h.next+1<h'.next∧h'.get (h.next+1)=some (.bk ((Ww s m.wgs.length i).map V.bool))∧tm.E 1=.ii (sAt s i)∧tm.E 5=.sl (h.next+1) 0 m.wgs.length (.fix m.wgs.length)∧tm.E 6=.ii (i:Int))
  ?_ ?_ (i:=0) (Nat.zero_le _) ⟨_,_,rfl,s2,by simp only[H.next_add];omega,by rw[Zo (by rw[H.next_add]),repN_bools,bitsTo_zero],yeb,yeb,yeb⟩
 ·rintro i st hi ⟨tm,h',rfl,hs,lt,gb,t1,t5,t6⟩
  have hi':(i:Int)<(m.wgs.length:Int):=by omega
  have n0:=sAt_nn s0 i
  have n1:=sAt_le s0 i
  have hput:=VV (Ww s m.wgs.length i) i (bitC s i) (by rw[bitsTo_len];exact hi)
  rw[bitsTo_step hi] at hput
  have e1:(sAt s i).tmod 2=sAt s i%2:=Int.tmod_eq_emod_of_nonneg n0
  have e2:wr .i64 ((sAt s i).tdiv 2)=sAt s (i+1):=by
   rw[Int.tdiv_eq_ediv_of_nonneg n0,ZD yed yed];rfl
  have e3:decide (sAt s i%2=1)=bitC s i:=rfl
  simp(disch:=omega)only[go_sem,t1,t5,t6,hi',ZY .i64 (show(2:Int)≠0 by decide),YO .i64 (show(2:Int)≠0 by decide),e1,e2,e3,Zz (Zb i) hi,Nat.mul_one,gb,hput,Ze]
  exact⟨_,_,rfl,hs.set yed lt hw _,by rw[H.next_set];exact lt,get_set_same rfl,yeb,yet,yeb⟩
 ·rintro st ⟨tm,h',rfl,hs,lt,gb,t1,t5,t6⟩
  simp(disch:=omega)only[go_sem,t1,t5,t6,Int.lt_irrefl]
  rw[bitsTo_all] at gb
  exact q _ _ hs yed lt gb
theorem list_ev {h:H}{x:V}{cl:List Bool}(hw:h.wf)(hx:Zk h x 1 (cl.map Wq))(hl:cl.length≤20)(Q:V→H→Prop)(q:∀y h',ZK h h' y 1 ((lst (cOf cl) cl.length).map encI)→(y=.nils↔lst (cOf cl) cl.length=[])→Zk h' y 1 ((lst (cOf cl) cl.length).map encI)→Q y h'):
  Ev fnG Zm (.fn 115 [] []) [x] h Q:=by
 have hlx:=hx.lenE
 refine Zf (fd:=c115) rfl rfl rfl ?_
 simp(disch:=omega)only[c115,go_sem]
 refine Zi cl.length (fun i s=>∃tm h' y,s=⟨tm,h',[]⟩∧ZK h h' y 1 ((lst (cOf cl) i).map encI)∧(y=.nils↔lst (cOf cl) i=[])∧tm.E 0=x∧tm.E 3=y∧tm.E 4=.ii (i:Int))
  ?_ ?_ (i:=0) (Nat.zero_le _) ⟨_,_,.nils,rfl,⟨H.Sub.refl hw,by simp[lst],.inl ⟨rfl,rfl⟩⟩,by simp[lst],yeb,yeb,yeb⟩
 ·rintro i s hi ⟨tm,h',y,rfl,oy,en,t0,t3,t4⟩
  have hi':(i:Int)<(cl.length:Int):=by omega
  have hs:=oy.1
  have hln:=lst_len (cOf cl) i
  obtain⟨b,o,c,cs,rfl,hc,hq,hg,hn,hn0⟩:=(hx.mono hs).at hi
  have hc0:=cOf_at hi
  cases hb:cl[i]
  ·rw[hb] at hc0
   have e1:lst (cOf cl) (i+1)=lst (cOf cl) i:=by simp[lst,hc0]
   simp(disch:=omega)only[go_sem,t0,t3,t4,hlx,hi',hq (Zb i),hc,hn0 yed,Wq,hb,Ze]
   exact⟨_,_,y,rfl,by rw[e1];exact oy,by rw[e1];exact en,yev,yee,yeb⟩
  ·rw[hb] at hc0
   have e1:lst (cOf cl) (i+1)=lst (cOf cl) i++[(i:Int)]:=by simp[lst,hc0]
   simp(disch:=omega)only[go_sem,t0,t3,t4,hlx,hi',hq (Zb i),hc,hn0 yed,Wq,hb]
   have sA:=(H.Sub.refl hs.wf).add (.bk [.ii (i:Int)])
   refine(oy.mono sA).app1 (r:=encI (i:Int)) hw rfl yed (own1_lit _) rfl yew yew fun y2 h2 oy2 dy2 ky2=>?_
   have hne:¬y2=.nils:=by
    rintro rfl
    have:=oy2.2.2
    rcases this with⟨_,e⟩|⟨_,e,_⟩|⟨_,_,_,e,_⟩
    ·simp at e
    ·cases e
    ·cases e
   simp(disch:=omega)only[go_sem,t0,t3,t4,Ze]
   exact⟨_,_,y2,rfl,by rw[e1];simpa using oy2,by rw[e1];simp[hne],yev,yeb,yeb⟩
 ·rintro s ⟨tm,h',y,rfl,oy,en,t0,t3,t4⟩
  have hln:=lst_len (cOf cl) cl.length
  simp(disch:=omega)only[go_sem,t0,t3,t4,hlx,Int.lt_irrefl]
  exact q _ _ oy en (oy.sl yew)
theorem lexlt_drop {a b:List Int}{i:Nat}(h1:i<a.length)(h2:i<b.length):Xy (a.drop i) (b.drop i)=if a[i]=b[i] then Xy (a.drop (i+1)) (b.drop (i+1)) else decide (a[i]<b[i]):=by
 rw[List.drop_eq_getElem_cons h1,List.drop_eq_getElem_cons h2];rfl
theorem before_ev {h:H}{x y:V}{a b:List Int}(hx:Zk h x 1 (a.map encI))(hy:Zk h y 1 (b.map encI))(ha:a.length≤20)(hb:b.length≤20)(Q:V→H→Prop):Ev fnG Zm (.fn 116 [] []) [x,y] h Q=Q (.bool (before a b)) h:=by
 have hlx:=hx.lenE
 have hly:=hy.lenE
 refine Ev.det (Zf (fd:=c116) rfl rfl rfl ?_) Q
 by_cases e:a.length=b.length
 ·have e':(a.length:Int)=(b.length:Int):=by omega
  simp(disch:=omega)only[c116,go_sem,hlx,hly,e',ne_eq,not_true_eq_false]
  have hbf:before a b=Xy a b:=by unfold before;rw[if_pos e]
  refine Zi a.length (fun i s=>∃tm,s=⟨tm,h,[]⟩∧Xy a b=Xy (a.drop i) (b.drop i)∧tm.E 0=x∧tm.E 1=y∧tm.E 5=.ii (i:Int))
   ?_ ?_ (i:=0) (Nat.zero_le _) ⟨_,rfl,rfl,yeb,yeb,yeb⟩
  ·rintro i s hi ⟨tm,rfl,hd,t0,t1,t5⟩
   have hi':(i:Int)<(b.length:Int):=by omega
   have hib:i<b.length:=by omega
   obtain⟨b1,o1,c1,cs1,rfl,hc1,hq1,hg1,hn1,hn01⟩:=hx.at hi
   obtain⟨b2,o2,c2,cs2,rfl,hc2,hq2,hg2,hn2,hn02⟩:=hy.at hib
   have hst:=lexlt_drop hi hib
   by_cases he:a[i]=b[i]
   ·rw[if_pos he] at hst
    simp(disch:=omega)only[go_sem,t0,t1,t5,hlx,e',hi',hq1 (Zb i),hc1,hn01 yed,hq2 (Zb i),hc2,hn02 yed,encI,he,ne_eq,not_true_eq_false,Ze]
    exact⟨_,rfl,by rw[hd,hst],yev,yec,yeb⟩
   ·rw[if_neg he] at hst
    simp(disch:=omega)only[go_sem,t0,t1,t5,hlx,e',hi',hq1 (Zb i),hc1,hn01 yed,hq2 (Zb i),hc2,hn02 yed,encI,he,ne_eq,not_false_eq_true]
    rw[hbf,hd,hst]
  ·rintro s ⟨tm,rfl,hd,t0,t1,t5⟩
   simp(disch:=omega)only[go_sem,t0,t1,t5,hlx,e',Int.lt_irrefl]
   rw[hbf,hd,List.drop_length]
   rfl
 ·have e':¬(a.length:Int)=(b.length:Int):=by omega
  have hbf:before a b=decide ((a.length:Int)<(b.length:Int)):=by unfold before;rw[if_neg e,Bool.eq_iff_iff];simp
  simp(disch:=omega)only[c116,go_sem,hlx,hly,e',ne_eq,not_false_eq_true]
  rw[hbf]
end Go.Ab.Tryz
namespace Go.Ab.Tryz
open Go.Ab.Silk
theorem agree_none {m:Ml}(g:Good m){c:Nat→Bool}(hc:∀k,k<m.wgs.length→c k=false):Y5 m c=true:=by
 rw[←XN (t:=true)]
 simp only[true_iff]
 refine⟨fun _=>0,(own_iff g).2 ⟨fun i _ _=>by omega,fun k hk hc1=>?_⟩,fun i _ _ _=>?_⟩
 ·rw[hc k hk] at hc1;cases hc1
 ·have e0:∀l:List Int,Zg (fun _=>(0:Int)) l=0:=fun l=>by
   induction l with
   |nil=>rfl
   |cons a l ih=>simp only[Zg,ih];omega
  exact(e0 _).symm
theorem bitsL_nil:∀(k:Nat) (s i:Int),0≤s→s<2^k→ZQ k s i=[]→s=0
 |0,s,i,h0,h1,_=>by have:(2:Int)^0=1:=rfl;omega
 |k+1,s,i,h0,h1,h=>by
  have p2:(2:Int)^(k+1)=2^k*2:=Int.pow_succ 2 k
  simp only[ZQ] at h
  split at h
  ·cases h
  ·have:=bitsL_nil k (s/2) (i+1) yed yed h
   omega
theorem bits_zero:∀(k:Nat) (i:Int),ZQ k 0 i=[]
 |0,_=>rfl
 |k+1,i=>by simp[ZQ,bits_zero k (i+1)]
theorem choiceA {m:Ml}{s:Int}:Y5 m (cOf (Xk s m.wgs.length))=Y5 m (inL (ZQ m.wgs.length s 0) false):=
 Un fun j hj=>by rw[cOf_bitsA hj,inL_bits hj]
theorem lst_choice (s:Int)(n:Nat):lst (cOf (Xk s n)) (Xk s n).length=ZQ n s 0:=by
 rw[Xd,←lst_bits]
 exact lst_congr fun i hi=>cOf_bitsA hi
def Pos (i:Nat):Prop:=1≤i
theorem Pos.succ (i:Nat):Pos (i+1):=Nat.succ_le_succ (Nat.zero_le i)
def OptAt (h:H)(y:V)(b:Option (List Int)):Prop:=match b with
 |none=>y=.nils
 |some c=>Zk h y 1 (c.map encI)∧¬y=.nils∧c.length≤20
theorem OptAt.mono {h h':H}{y:V}{b:Option (List Int)}(a:OptAt h y b)(s:h.Sub h'):OptAt h' y b:=by
 cases b with
 |none=>exact a
 |some c=>exact⟨a.1.mono s,a.2⟩
set_option maxHeartbeats 2000000 in
theorem refClash_ev {h:H}{v:V}{m:Ml}(hw:h.wf)(hm:ZF h v m)(g:Good m)(hl:m.wgs.length≤10)(Q:V→H→Prop)
  (q:∀y h',h.Sub h'→OptAt h' y (ZX (XB m) m.wgs.length (m.wgs.length+1) 0)→Q (.tup [y,.bool (ZX (XB m) m.wgs.length (m.wgs.length+1) 0).isSome]) h'):Ev fnG Zm (.fn 65 [] []) [v] h Q:=by
 have hm0:=hm
 obtain⟨L,W,rfl,aL,aW⟩:=hm
 refine Zf (fd:=c65) rfl rfl rfl ?_
 have s2:h.Sub (h.add (.bk [.ii m.errs,L,W])):=yea
 have g1:(h.add (.bk [.ii m.errs,L,W])).cells h.next=some [.ii m.errs,L,W]:=Zh rfl
 have hp:=pow_le hl
 have hp1:1≤2^m.wgs.length:=Nat.one_le_two_pow
 have h2p:(2:Int)^m.wgs.length=((2^m.wgs.length:Nat):Int):=by simp
 simp(disch:=omega)only[c65,go_sem]
 refine Zi (2^m.wgs.length) (fun i s=>∃tm h' y best,s=⟨tm,h',[]⟩∧(h.add (.bk [.ii m.errs,L,W])).Sub h'∧Pos i∧Yn (XB m) m.wgs.length 1 (i:Int) best∧OptAt h' y best∧tm.E 1=.ptr h.next 0∧tm.E 4=y∧tm.E 5=.ii (i:Int))
  ?_ ?_ (i:=1) hp1 ⟨_,_,.nils,none,rfl,H.Sub.refl s2.wf,Nat.le_refl _,Yn.zero _ _ _,rfl,yeb,yeb,yeb⟩
 ·rintro i s hi ⟨tm,h',y,best,rfl,hs1,i1,hbest,oy,t1,t4,t5⟩
  have hi':(i:Int)<((2^m.wgs.length:Nat):Int):=by omega
  have i1':1≤i:=i1
  have hs:=s2.trans hs1
  have gm:=hs1.cells g1
  simp(disch:=omega)only[go_sem,t1,t4,t5,gm]
  refine sets_ev hs.wf (hm0.mono hs) hl _ fun h2 k2=>?_
  simp(disch:=omega)only[go_sem,t1,t4,t5,k2.cells gm,hi']
  have hs2:=hs.trans k2
  refine choice_ev hs2.wf (hm0.mono hs2) hl yed yed _ fun b h3 k3 nb nb2 gb=>?_
  simp(disch:=omega)only[go_sem,t1,t4,t5]
  have hs3:=hs2.trans k3
  have aC:Zk h3 (.sl b 0 m.wgs.length (.fix m.wgs.length)) 1 ((Xk (i:Int) m.wgs.length).map Wq):=bools_sl (Za gb) (Xd _ _).symm yeA
  refine list_ev hs3.wf aC yeA _ fun z h4 oz zn az=>?_
  have k4:=oz.1
  rw[lst_choice] at zn az
  have hs4:=hs3.trans k4
  have k14:=k2.trans (k3.trans k4)
  have gm4:=k14.cells gm
  have oy4:=oy.mono k14
  have hz0:¬z=.nils:=fun e=>by
   have:=bitsL_nil m.wgs.length (i:Int) 0 yed (by rw[h2p];omega) (zn.1 e)
   omega
  have hzl:(ZQ m.wgs.length (i:Int) 0).length≤20:=by rw[←lst_bits];have:=lst_len (bitC (i:Int)) m.wgs.length;omega
  have fin:∀(h5:H) (t:Bool),h4.Sub h5→(t=true↔∃w,ZC m (cOf (Xk (i:Int) m.wgs.length)) w)→XB m (ZQ m.wgs.length (i:Int) 0)= !t:=fun h5 t k5 ht=>by
   unfold XB;rw[←choiceA,←XN ht]
  have take:∀h5,h4.Sub h5→OptAt h5 z (some (ZQ m.wgs.length (i:Int) 0)):=fun h5 k5=>⟨az.mono k5,hz0,hzl⟩
  cases best with
  |none=>
   have hy:y=.nils:=oy
   subst hy
   simp(disch:=omega)only[go_sem,t1,t4,t5,gm4]
   refine(YV hs4.wf (hm0.mono hs4) g (aC.mono k4) (Xd _ _)).mono fun u h5 hu=>?_
   obtain⟨k5,t,rfl,ht⟩:=hu
   have hcl:=fin h5 t k5 ht
   cases t
   ·simp(disch:=omega)only[go_sem,Bool.not_false,t1,t4,t5,Ze]
    exact⟨_,_,z,_,rfl,hs1.trans (k14.trans k5),Pos.succ i,hbest.take (by rw[hcl];rfl) (fun c hc=>by cases hc),take _ k5,yec,yeb,yeb⟩
   ·simp(disch:=omega)only[go_sem,Bool.not_true,t1,t4,t5,Ze]
    exact⟨_,_,.nils,none,rfl,hs1.trans (k14.trans k5),Pos.succ i,hbest.skip (.inl (by rw[hcl];rfl)),rfl,yec,yef,yeb⟩
  |some c=>
   obtain⟨ay,hyn,hcl20⟩:=id oy4
   have hisn:q_isn false y=some (.bool false):=by
    rcases ay.2.2 with⟨e,_⟩|⟨b',o',c',cs',e,_⟩
    ·exact absurd e hyn
    ·rw[e];simp only[go_sem]
   simp(disch:=omega)only[go_sem,t1,t4,t5,hisn,before_ev az ay hzl hcl20]
   cases hbf:before (ZQ m.wgs.length (i:Int) 0) c
   ·simp(disch:=omega)only[go_sem,t1,t4,t5,Ze]
    exact⟨_,_,y,some c,rfl,hs1.trans k14,Pos.succ i,hbest.skip (.inr ⟨c,rfl,hbf⟩),oy4,yec,yef,yeb⟩
   ·simp(disch:=omega)only[go_sem,t1,t4,t5,gm4]
    refine(YV hs4.wf (hm0.mono hs4) g (aC.mono k4) (Xd _ _)).mono fun u h5 hu=>?_
    obtain⟨k5,t,rfl,ht⟩:=hu
    have hcl:=fin h5 t k5 ht
    cases t
    ·simp(disch:=omega)only[go_sem,Bool.not_false,t1,t4,t5,Ze]
     exact⟨_,_,z,_,rfl,hs1.trans (k14.trans k5),Pos.succ i,hbest.take (by rw[hcl];rfl) (fun c' hc=>by cases hc;exact hbf),take _ k5,yec,yeb,yeb⟩
    ·simp(disch:=omega)only[go_sem,Bool.not_true,t1,t4,t5,Ze]
     exact⟨_,_,y,some c,rfl,hs1.trans (k14.trans k5),Pos.succ i,hbest.skip (.inl (by rw[hcl];rfl)),oy4.mono k5,yec,yef,yeb⟩
 ·rintro s ⟨tm,h',y,best,rfl,hs1,i1,hbest,oy,t1,t4,t5⟩
  have hs:=s2.trans hs1
  have gm:=hs1.cells g1
  have hlast:=Yn.last (s0:=1) yed (by rw[h2p];exact hbest) fun t t0 t1=>by
   have:t=0:=by omega
   subst this
   rw[bits_zero]
   unfold XB
   rw[agree_none g fun k hk=>by simp[inL]]
   rfl
  simp(disch:=omega)only[go_sem,t1,t4,t5,gm]
  refine sets_ev hs.wf (hm0.mono hs) hl _ fun h2 k2=>?_
  simp(disch:=omega)only[go_sem,t1,t4,t5,Int.lt_irrefl]
  have hq:=q y h2 (hs.trans k2)
  rw[←hlast] at hq
  have hisn:q_isn true y=some (.bool best.isSome):=by
   cases best with
   |none=>have hy:y=.nils:=oy;rw[hy];simp only[go_sem];rfl
   |some c=>
    obtain⟨ay,hyn,_⟩:=oy
    rcases ay.2.2 with⟨e,_⟩|⟨b',o',c',cs',e,_⟩
    ·exact absurd e hyn
    ·rw[e];simp only[go_sem];rfl
  simp(disch:=omega)only[go_sem,t1,t4,t5,hisn]
  exact hq (oy.mono k2)
end Go.Ab.Tryz
namespace Go.Ab.Tryz
open Go.Ab.Silk
def flip (l:List Bool)(i:Nat):List Bool:=(l.take i).map (fun b=> !b)++l.drop i
theorem flip_len (l:List Bool)(i:Nat):(flip l i).length=l.length:=by simp[flip];omega
theorem flip_at {l:List Bool}{i:Nat}(h:i<l.length):(flip l i)[i]'(by rw[flip_len];exact h)=l[i]:=by
 simp only[flip]
 rw[List.getElem_append_right yew]
 simp[List.getElem_drop,Nat.min_eq_left (Nat.le_of_lt h)]
theorem flip_step {l:List Bool}{i:Nat}(h:i<l.length):(flip l i).set i (!l[i])=flip l (i+1):=by
 have h1:((l.take i).map (fun b=> !b)).length=i:=by simp;omega
 simp only[flip]
 rw[List.set_append_right _ _ yed,h1,Nat.sub_self,List.drop_eq_getElem_cons h,List.set_cons_zero,List.take_succ_eq_append_getElem h]
 simp only[List.map_append,List.map_cons,List.map_nil,List.append_assoc,List.cons_append,List.nil_append]
theorem flip_all (l:List Bool):flip l l.length=l.map (fun b=> !b):=by simp[flip]
theorem choiceN {m:Ml}{s:Int}:Y5 m (cOf ((Xk s m.wgs.length).map fun b=> !b))=Y5 m (inL (ZQ m.wgs.length s 0) true):=
 Un fun j hj=>by
  rw[inL_not,inL_bits hj,←cOf_bitsA hj,cOf_at (by simp[Xd];exact hj),cOf_at (by simp[Xd];exact hj)];simp
set_option maxHeartbeats 2000000 in
theorem refWrong_ev {h:H}{v:V}{m:Ml}(hw:h.wf)(hm:ZF h v m)(g:Good m)(hl:m.wgs.length≤10)(Q:V→H→Prop)
  (q:∀y h',h.Sub h'→((ZX (XL m) m.wgs.length (m.wgs.length+1) 0=none→y=.nils)∧∀c,ZX (XL m) m.wgs.length (m.wgs.length+1) 0=some c→Zk h' y 1 (c.map encI))→Q y h'):Ev fnG Zm (.fn 66 [] []) [v] h Q:=by
 have hm0:=hm
 obtain⟨L,W,rfl,aL,aW⟩:=hm
 refine Zf (fd:=c66) rfl rfl rfl ?_
 have s2:h.Sub (h.add (.bk [.ii m.errs,L,W])):=yea
 have g1:(h.add (.bk [.ii m.errs,L,W])).cells h.next=some [.ii m.errs,L,W]:=Zh rfl
 have hp:=pow_le hl
 have h2p:(2:Int)^m.wgs.length=((2^m.wgs.length:Nat):Int):=by simp
 simp(disch:=omega)only[c66,go_sem]
 refine Zi (2^m.wgs.length) (fun i s=>∃tm h' y best,s=⟨tm,h',[]⟩∧(h.add (.bk [.ii m.errs,L,W])).Sub h'∧Yn (XL m) m.wgs.length 0 (i:Int) best∧((best=none→y=.nils)∧∀c,best=some c→Zk h' y 1 (c.map encI)∧c.length≤20)∧tm.E 1=.ptr h.next 0∧tm.E 3=y∧tm.E 4=.bool best.isSome∧tm.E 5=.ii (i:Int))
  ?_ ?_ (i:=0) (Nat.zero_le _) ⟨_,_,.nils,none,rfl,H.Sub.refl s2.wf,Yn.zero _ _ _,⟨fun _=>rfl,fun c hc=>by cases hc⟩,yeb,yeb,yeb,yeb⟩
 ·rintro i s hi ⟨tm,h',y,best,rfl,hs1,hbest,⟨oy0,oy⟩,t1,t3,t4,t5⟩
  have hi':(i:Int)<((2^m.wgs.length:Nat):Int):=by omega
  have hs:=s2.trans hs1
  have gm:=hs1.cells g1
  simp(disch:=omega)only[go_sem,t1,t3,t4,t5,gm]
  refine sets_ev hs.wf (hm0.mono hs) hl _ fun h2 k2=>?_
  simp(disch:=omega)only[go_sem,t1,t3,t4,t5,k2.cells gm,hi']
  have hs2:=hs.trans k2
  refine choice_ev hs2.wf (hm0.mono hs2) hl yed yed _ fun b h3 k3 nb nb2 gb=>?_
  simp(disch:=omega)only[go_sem,t1,t3,t4,t5]
  have hs3:=hs2.trans k3
  have aC:Zk h3 (.sl b 0 m.wgs.length (.fix m.wgs.length)) 1 ((Xk (i:Int) m.wgs.length).map Wq):=bools_sl (Za gb) (Xd _ _).symm yeA
  refine list_ev hs3.wf aC yeA _ fun z h4 oz zn az=>?_
  have k4:=oz.1
  rw[lst_choice] at zn az oz
  have hs4:=hs3.trans k4
  have k14:=k2.trans (k3.trans k4)
  have gm4:=k14.cells gm
  have gb4:=k4.get gb
  have lb4:b<h4.next:=by have:=k4.next;omega
  have hnb:h'.next≤b:=by have:=k2.next;omega
  have hzl:(ZQ m.wgs.length (i:Int) 0).length≤20:=by rw[←lst_bits];have:=lst_len (bitC (i:Int)) m.wgs.length;omega
  have az1:=az.one
  have hlB:(Xk (i:Int) m.wgs.length).length=m.wgs.length:=Xd _ _
  have oz2:=oz.base k3
  have hzb:∀c,Zs z c→¬c=b:=fun c hc=>by have:=(oz.blk hc).1;omega
  by_cases hskip:∃c,best=some c∧before (ZQ m.wgs.length (i:Int) 0) c=false
  ·obtain⟨c,rfl,hbf⟩:=hskip
   obtain⟨ay,hc20⟩:=oy c rfl
   have t4':tm.E 4=.bool true:=t4
   simp(disch:=omega)only[go_sem,t1,t3,t4',t5,before_ev az (ay.mono k14) hzl hc20,hbf,Bool.not_false,Ze]
   exact⟨_,_,y,some c,rfl,hs1.trans k14,hbest.skip (.inr ⟨c,rfl,hbf⟩),⟨fun e=>by(cases e),fun c' hc=>by cases hc;exact⟨ay.mono k14,hc20⟩⟩,yec,yee,(by simp[Zn,Zd,t4']<;>rfl),yeb⟩
  have htk:∀c,best=some c→before (ZQ m.wgs.length (i:Int) 0) c=true:=fun c hc=>by
   cases hbf:before (ZQ m.wgs.length (i:Int) 0) c
   ·exact absurd ⟨c,hc,hbf⟩ hskip
   ·rfl
  rcases hbb:best with _|c
  case' none=>
   have t4':tm.E 4=.bool false:=by rw[hbb] at t4;exact t4
   simp(disch:=omega)only[go_sem,t1,t3,t4',t5]
  case' some=>
   have t4':tm.E 4=.bool true:=by rw[hbb] at t4;exact t4
   obtain⟨ay,hc20⟩:=oy c hbb
   simp(disch:=omega)only[go_sem,t1,t3,t4',t5,before_ev az (ay.mono k14) hzl hc20,htk c hbb,Bool.not_true]
  all_goals
   refine Zi m.wgs.length (fun j s=>∃tm h5,s=⟨tm,h5,[]⟩∧h2.Sub h5∧Zq (fun c=>c=b) h4 h5∧h5.wf∧h5.get b=some (.bk ((flip (Xk (i:Int) m.wgs.length) j).map V.bool))∧tm.E 1=.ptr h.next 0∧tm.E 3=y∧tm.E 4=.bool best.isSome∧tm.E 5=.ii (i:Int)∧tm.E 6=.sl b 0 m.wgs.length (.fix m.wgs.length)∧tm.E 7=z∧tm.E 8=.ii (j:Int))
    ?_ ?_ (i:=0) (Nat.zero_le _) ⟨_,_,rfl,k3.trans k4,Zq.refl _ _,hs4.wf,by simpa[flip] using gb4,yec,yee,yef,yet,yeb,yeb,yeb⟩
   ·rintro j s hj ⟨tm,h5,rfl,k25,k45,w5,g5,t1,t3,t4,t5,t6,t7,t8⟩
    have hj':(j:Int)<(m.wgs.length:Int):=by omega
    have l5:=w5 _ _ g5
    have hjl:j<(Xk (i:Int) m.wgs.length).length:=by omega
    have hjf:j<(flip (Xk (i:Int) m.wgs.length) j).length:=by rw[flip_len];exact hjl
    have hnth:=bools_nth (flip (Xk (i:Int) m.wgs.length) j) j hjf
    rw[flip_at hjl] at hnth
    have hput:=VV (flip (Xk (i:Int) m.wgs.length) j) j (!(Xk (i:Int) m.wgs.length)[j]) hjf
    rw[flip_step hjl] at hput
    simp(disch:=omega)only[go_sem,t1,t3,t4,t5,t6,t7,t8,hj',Zz (Zb j) hj,Nat.mul_one,g5,Za g5,hnth,hput,Ze]
    have kS:=Zq.set h5 b (.bk ((flip (Xk (i:Int) m.wgs.length) (j+1)).map V.bool))
    have wS:=H.wf_set w5 (.bk ((flip (Xk (i:Int) m.wgs.length) (j+1)).map V.bool)) g5
    exact⟨_,_,rfl,kS.sub k25 hs2.wf (fun c hc=>by omega) wS,(k45.trans kS).mono fun c h=>by(rcases h with h|h<;>exact h),wS,get_set_same rfl,yec,yee,yef,yet,yeo,yex,yeb⟩
   ·rintro s ⟨tm,h5,rfl,k25,k45,w5,g5,t1,t3,t4,t5,t6,t7,t8⟩
    have hs5:=hs2.trans k25
    have gm5:=(k2.trans k25).cells gm
    have hfa:=flip_all (Xk (i:Int) m.wgs.length)
    rw[hlB] at hfa
    rw[hfa] at g5
    have aN:Zk h5 (.sl b 0 m.wgs.length (.fix m.wgs.length)) 1 (((Xk (i:Int) m.wgs.length).map fun b=> !b).map Wq):=bools_sl (Za g5) (by simp[hlB]) (by simp[hlB];omega)
    simp(disch:=omega)only[go_sem,t1,t3,t4,t5,t6,t7,t8,Int.lt_irrefl,gm5]
    refine(YV hs5.wf (hm0.mono hs5) g aN (by simp[hlB])).mono fun u h6 hu=>?_
    obtain⟨k6,t,rfl,ht⟩:=hu
    have hcl:XL m (ZQ m.wgs.length (i:Int) 0)=t:=by
     unfold XL;rw[←choiceN,←XN ht]
    have k16:=k2.trans (k25.trans k6)
    cases t
    ·simp(disch:=omega)only[go_sem,t1,t3,t4,t5,t6,t7,Ze]
     exact⟨_,_,y,best,rfl,hs1.trans k16,hbest.skip (.inl hcl),⟨oy0,fun c hc=>⟨(oy c hc).1.mono k16,(oy c hc).2⟩⟩,yec,yee,yef,yeb⟩
    ·simp(disch:=omega)only[go_sem,t1,t3,t4,t5,t6,t7,Ze]
     have az5:=(oz2.keep k45 k25 hzb).sl yew
     exact⟨_,_,z,some _,rfl,hs1.trans k16,hbest.take hcl htk,⟨fun e=>by(cases e),fun c' hc=>by cases hc;exact⟨az5.mono k6,hzl⟩⟩,yec,yeb,yeb,yeb⟩
 ·rintro s ⟨tm,h',y,best,rfl,hs1,hbest,⟨oy0,oy⟩,t1,t3,t4,t5⟩
  have hs:=s2.trans hs1
  have gm:=hs1.cells g1
  have hlast:=Yn.last (s0:=0) yed (by rw[h2p];exact hbest) fun t t0 t1=>by omega
  simp(disch:=omega)only[go_sem,t1,t3,t4,t5,gm]
  refine sets_ev hs.wf (hm0.mono hs) hl _ fun h2 k2=>?_
  simp(disch:=omega)only[go_sem,t1,t3,t4,t5,Int.lt_irrefl]
  have hq:=q y h2 (hs.trans k2)
  rw[←hlast] at hq
  exact hq ⟨oy0,fun c hc=>(oy c hc).1.mono k2⟩
end Go.Ab.Tryz
namespace Go.Ab.Tryz
open Go.Ab.Silk
def marks (l:List Int)(n i:Nat):List Bool:=(List.range n).map fun(j:Nat)=>decide ((j:Int)∈l.take i)
theorem Wv (l:List Int)(n i:Nat):(marks l n i).length=n:=by simp[marks]
theorem marks_zero (l:List Int)(n:Nat):marks l n 0=List.replicate n false:=by
 refine List.ext_getElem (by simp[marks]) fun i h1 h2=>?_
 simp[marks]
theorem marks_at {l:List Int}{n i k:Nat}(h:k<n):(marks l n i)[k]'(by rw[Wv];exact h)=decide ((k:Int)∈l.take i):=by simp[marks]
theorem marks_step {l:List Int}{n i k:Nat}(h:i<l.length)(hk:l[i]=(k:Int))(hn:k<n):(marks l n i).set k true=marks l n (i+1):=by
 refine List.ext_getElem (by simp[marks]) fun j h1 h2=>?_
 rw[List.getElem_set]
 by_cases e:k=j
 ·subst e;simp[marks,List.take_succ_eq_append_getElem h,hk]
 ·rw[if_neg e]
  simp only[marks,List.getElem_map,List.getElem_range,List.take_succ_eq_append_getElem h,hk,List.mem_append,List.mem_singleton]
  rw[Bool.eq_iff_iff];simp;omega
theorem marksA {m:Ml}{l:List Int}:Y5 m (cOf (marks l m.wgs.length l.length))=Y5 m (inL l false):=
 Un fun j hj=>by
  rw[cOf_at (by rw[Wv];exact hj),marks_at hj,List.take_length]
  unfold inL;cases decide ((j:Int)∈l)<;>rfl
theorem all_take {l:List Int}{p:Int→Bool}{i:Nat}(h:i<l.length):(l.take (i+1)).all p=((l.take i).all p&&p l[i]):=by
 rw[List.take_succ_eq_append_getElem h,List.all_append];simp
theorem all_no {l:List Int}{p:Int→Bool}{i:Nat}(h:i<l.length)(hp:p l[i]=false):l.all p=false:=by
 rw[List.all_eq_false]
 exact⟨l[i],List.getElem_mem h,by rw[hp];simp⟩
def X9 (m:Ml)(l:List Int):Int:=if knownB m l=false then 1 else if dupAt l l.length=true then 5 else 0
set_option maxHeartbeats 2000000 in
theorem Listed_ev {h:H}{v K:V}{m:Ml}{ws:List Int}(hw:h.wf)(hm:ZF h v m)(g:Good m)(hK:Zk h K 1 (ws.map encI))(hl:ws.length≤100)(Q:V→H→Prop)
  (q:∀x h',h.Sub h'→x.one=true→(X9 m ws=0→Zk h' x 1 ((marks ws m.wgs.length ws.length).map Wq))→Q (.tup [x,.ii (X9 m ws)]) h'):Ev fnG Zm (.fn 64 [] []) [v,K] h Q:=by
 obtain⟨L,W,rfl,aL,aW⟩:=hm
 refine Zf (fd:=c64) rfl rfl rfl ?_
 have hlenW:=aW.lenE
 have hlenK:=hK.lenE
 have gw:=g.wgs
 have hwr:wr .i64 ((m.wgs.length:Int)-1)=(m.wgs.length:Int)-1:=ZD yed yed
 have s2:h.Sub ((h.add (.bk [.ii m.errs,L,W])).add (.bk (Yp m.wgs.length [.bool false]))):=yea
 have gb:((h.add (.bk [.ii m.errs,L,W])).add (.bk (Yp m.wgs.length [.bool false]))).get (h.next+1)=some (.bk ((marks ws m.wgs.length 0).map V.bool)):=by rw[Zo (by rw[H.next_add]),repN_bools,marks_zero]
 have lt2:h.next+1<((h.add (.bk [.ii m.errs,L,W])).add (.bk (Yp m.wgs.length [.bool false]))).next:=by simp only[H.next_add];omega
 simp(disch:=omega)only[c64,go_sem,hlenW,VX]
 generalize((h.add (.bk [.ii m.errs,L,W])).add (.bk (Yp m.wgs.length [.bool false])))=h2 at s2 gb lt2⊢
 refine Zi ws.length (fun i s=>∃tm,s=⟨tm,h2,[]⟩∧(ws.take i).all (fun n=>inB n 0 ((m.wgs.length:Int)-1))=true∧tm.E 1=K∧tm.E 6=.sl (h.next+1) 0 m.wgs.length (.fix m.wgs.length)∧tm.E 7=.ii (i:Int))
  ?_ ?_ (i:=0) (Nat.zero_le _) ⟨_,rfl,rfl,yeb,yeb,yeb⟩
 ·rintro i s hi ⟨tm,rfl,hall,t1,t6,t7⟩
  have hi':(i:Int)<(ws.length:Int):=by omega
  obtain⟨b,o,c,cs,rfl,hc,hq,hg,hn,hn0⟩:=(hK.mono s2).at hi
  cases hin:inB ws[i] 0 ((m.wgs.length:Int)-1)
  ·have hk0:knownB m ws=false:=all_no (p:=fun n=>inB n 0 ((m.wgs.length:Int)-1)) hi hin
   have e1:X9 m ws=1:=by unfold X9;rw[if_pos hk0]
   simp(disch:=omega)only[go_sem,t1,t6,t7,hi',hq (Zb i),hc,hn0 yed,encI,hwr,YC,hin,Bool.not_false]
   have:=q .nils h2 s2 rfl
   rw[e1] at this
   exact this fun e=>by omega
  ·simp(disch:=omega)only[go_sem,t1,t6,t7,hi',hq (Zb i),hc,hn0 yed,encI,hwr,YC,hin,Bool.not_true,Ze]
   exact⟨_,rfl,by rw[all_take hi,hall,hin];rfl,yec,yeo,yeb⟩
 ·rintro s ⟨tm,rfl,hall,t1,t6,t7⟩
  rw[List.take_length] at hall
  simp(disch:=omega)only[go_sem,t1,t6,t7,hlenK,Int.lt_irrefl]
  refine Zi ws.length (fun i s=>∃tm h',s=⟨tm,h',[]⟩∧h.Sub h'∧h.next+1<h'.next∧h'.get (h.next+1)=some (.bk ((marks ws m.wgs.length i).map V.bool))∧dupAt ws i=false∧tm.E 1=K∧tm.E 6=.sl (h.next+1) 0 m.wgs.length (.fix m.wgs.length)∧tm.E 8=.ii (i:Int))
   ?_ ?_ (i:=0) (Nat.zero_le _) ⟨_,_,rfl,s2,lt2,gb,rfl,yec,yeo,yeb⟩
  ·rintro i s hi ⟨tm,h',rfl,hs,lt,gb,hdup,t1,t6,t8⟩
   have hi':(i:Int)<(ws.length:Int):=by omega
   obtain⟨b,o,c,cs,rfl,hc,hq,hg,hn,hn0⟩:=(hK.mono hs).at hi
   have hst:=dupAt_step hi
   rw[hdup,Bool.false_or] at hst
   have hin:inB ws[i] 0 ((m.wgs.length:Int)-1)=true:=List.all_eq_true.1 hall _ (List.getElem_mem hi)
   have hn00:=hn0 yed
   obtain⟨k,hk,hkn⟩:∃k:Nat,ws[i]=(k:Int)∧k<m.wgs.length:=by
    simp only[inB,decide_eq_true_eq] at hin
    exact⟨ws[i].toNat,by omega,by omega⟩
   have hn1:nth (o+i) cs=some (.ii (k:Int)):=by rw[Nat.mul_one] at hn00;rw[hn00,←hk];rfl
   have hnth:=bools_nth (marks ws m.wgs.length i) k (by rw[Wv];exact hkn)
   rw[marks_at hkn] at hnth
   have hput:=VV (marks ws m.wgs.length i) k true (by rw[Wv];exact hkn)
   rw[marks_step hi hk hkn] at hput
   by_cases hd:(k:Int)∈ws.take i
   ·have e1:X9 m ws=5:=by
     have:=dupAt_up (l:=ws) (k:=i+1) (by rw[hst,hk];simp[hd]) ws.length yed
     unfold X9 knownB
     rw[hall,if_neg yez,if_pos this]
    have hd':decide ((k:Int)∈ws.take i)=true:=decide_eq_true hd
    rw[hd'] at hnth
    simp(disch:=omega)only[go_sem,t1,t6,t8,hi',hq (Zb i),hc,hn1,Zz (Zb k) hkn,Nat.mul_one,Za gb,hnth]
    have:=q .nils h' hs rfl
    rw[e1] at this
    exact this fun e=>by omega
   ·have hd':decide ((k:Int)∈ws.take i)=false:=decide_eq_false hd
    rw[hd'] at hnth
    simp(disch:=omega)only[go_sem,t1,t6,t8,hi',hq (Zb i),hc,hn1,Zz (Zb k) hkn,Nat.mul_one,gb,Za gb,hnth,hput,Ze]
    exact⟨_,_,rfl,hs.set yed lt hw _,by rw[H.next_set];exact lt,get_set_same rfl,by rw[hst,hk];exact hd',yec,yeo,yeb⟩
  ·rintro s ⟨tm,h',rfl,hs,lt,gb,hdup,t1,t6,t8⟩
   have e1:X9 m ws=0:=by
    unfold X9 knownB
    rw[hall,if_neg yez,if_neg (by rw[hdup];simp)]
   simp(disch:=omega)only[go_sem,t1,t6,t8,hlenK,Int.lt_irrefl]
   have:=q (.sl (h.next+1) 0 m.wgs.length (.fix m.wgs.length)) h' hs rfl
   rw[e1] at this
   exact this fun _=>bools_sl (Za gb) (by rw[Wv]) (by rw[Wv];omega)
end Go.Ab.Tryz
namespace Go.Ab.Tryz
open Go.Ab.Silk
set_option maxHeartbeats 4000000 in
theorem SilkClashes_sub {h:H}{v K:V}{m:Ml}{ws:List Int}(hw:h.wf)(hm:ZF h v m)(hk:Zk h K 1 (ws.map encI)):Ev fnG Zm (.fn 14 [] []) [v,K] h fun u h'=>u=.bool true∧h.Sub h':=by
 refine Ev.gen fun Q q=>?_
 have hm0:=hm
 obtain⟨L,W,rfl,aL,aW⟩:=hm
 refine Zf (fd:=c14) rfl rfl rfl ?_
 have s1:h.Sub (h.add (.bk [.ii m.errs,L,W])):=yea
 simp(disch:=omega)only[c14,go_sem]
 refine VK s1.wf (hm0.mono s1) _ fun h2 s12=>?_
 have s2:=s1.trans s12
 have l2:=s12.next
 simp only[H.next_add] at l2
 have g2:h2.cells h.next=some [.ii m.errs,L,W]:=s12.cells (by simp(disch:=omega)only[go_sem])
 have hlk:=hk.lenE
 have hlenW:=aW.lenE
 cases hgr:Xo m
 case true=>
  simp(disch:=omega)only[go_sem,Z4]
  exact q _ _ ⟨rfl,by first|assumption|exact H.Sub.refl hw|exact yea⟩
 by_cases hk14:14<(ws.length:Int)
 case pos=>
  simp(disch:=omega)only[go_sem,hlk,hk14,Z4]
  exact q _ _ ⟨rfl,by first|assumption|exact H.Sub.refl hw|exact yea⟩
 by_cases hsk:7<(m.wgs.length:Int)∧(m.wgs.length:Int)≤10
 case pos=>
  simp(disch:=omega)only[go_sem,hlk,hk14,g2,hlenW,hsk.1,hsk.2,Z4]
  exact q _ _ ⟨rfl,by first|assumption|exact H.Sub.refl hw|exact yea⟩
 have hle:m.lots.length≤1000∧m.wgs.length≤1000:=by
  simp only[Xo,decide_eq_false_iff_not] at hgr
  omega
 by_cases w7:7<(m.wgs.length:Int)
 case' pos=>
  have w10:¬(m.wgs.length:Int)≤10:=fun h=>hsk ⟨w7,h⟩
  simp(disch:=omega)only[go_sem,hlk,hk14,g2,hlenW,w7,w10]
 case' neg=>
  simp(disch:=omega)only[go_sem,hlk,hk14,g2,hlenW,w7]
 all_goals
  clear hsk w7 hgr
  refine Ut s2.wf (hm0.mono s2) hle _ fun A B h3 s23 oOwn hA hB=>?_
  have s3:=s2.trans s23
  have g3:=s23.cells g2
  have l3:=s23.next
  simp(disch:=omega)only[go_sem,g3]
  refine W3 s3.wf (hm0.mono s3) hle _ fun x h4 s34 hx=>?_
  have s4:=s3.trans s34
  have g4:=s34.cells g3
  have l4:=s34.next
  obtain⟨X,Y,rfl,aX,aY⟩:=id hx
  have oX1:=aX.one
  have oY1:=aY.one
  simp -implicitDefEqProofs(disch:=first|omega|simp only[nZ]<;>omega|fail)only[go_sem,dupInt_ev s4.wf (hk.mono s4) yed,oX1,oY1,hA,hB,cells_one oX1,cells_one oY1,cells_one hA,cells_one hB,g2,g3,g4,hlk]
  have s45:h4.Sub (((((h4.add (.bk (ws.map encI).flatten)).add (.bk [.ii 0,.nils,.nils])).add (.bk [.ii 0,.nils,.nils])).set (h4.next+1) (.bk [.ii m.errs,A,B])).set (h4.next+1+1) (.bk [.ii m.errs,X,Y])):=by
   have w4:=s4.wf
   exact yea
  have gM:(((((h4.add (.bk (ws.map encI).flatten)).add (.bk [.ii 0,.nils,.nils])).add (.bk [.ii 0,.nils,.nils])).set (h4.next+1) (.bk [.ii m.errs,A,B])).set (h4.next+1+1) (.bk [.ii m.errs,X,Y])).get h4.next=some (.bk (ws.map encI).flatten):=by simp -implicitDefEqProofs(maxSteps:=999999)(disch:=first|with_reducible rfl|omega|(simp only[nA,nS,nD]<;>omega)|fail)only[go_sem]
  have c9:(((((h4.add (.bk (ws.map encI).flatten)).add (.bk [.ii 0,.nils,.nils])).add (.bk [.ii 0,.nils,.nils])).set (h4.next+1) (.bk [.ii m.errs,A,B])).set (h4.next+1+1) (.bk [.ii m.errs,X,Y])).cells (h4.next+1)=some [.ii m.errs,A,B]:=by simp -implicitDefEqProofs(maxSteps:=999999)(disch:=first|with_reducible rfl|omega|(simp only[nA,nS,nD]<;>omega)|fail)only[go_sem]
  have c10:(((((h4.add (.bk (ws.map encI).flatten)).add (.bk [.ii 0,.nils,.nils])).add (.bk [.ii 0,.nils,.nils])).set (h4.next+1) (.bk [.ii m.errs,A,B])).set (h4.next+1+1) (.bk [.ii m.errs,X,Y])).cells (h4.next+1+1)=some [.ii m.errs,X,Y]:=by simp -implicitDefEqProofs(maxSteps:=999999)(disch:=first|with_reducible rfl|omega|(simp only[nA,nS,nD]<;>omega)|fail)only[go_sem]
  have l45':h4.next+3=(((((h4.add (.bk (ws.map encI).flatten)).add (.bk [.ii 0,.nils,.nils])).add (.bk [.ii 0,.nils,.nils])).set (h4.next+1) (.bk [.ii m.errs,A,B])).set (h4.next+1+1) (.bk [.ii m.errs,X,Y])).next:=by simp only[H.next_set,H.next_add]
  generalize(((((h4.add (.bk (ws.map encI).flatten)).add (.bk [.ii 0,.nils,.nils])).add (.bk [.ii 0,.nils,.nils])).set (h4.next+1) (.bk [.ii m.errs,A,B])).set (h4.next+1+1) (.bk [.ii m.errs,X,Y]))=h5 at s45 gM c9 c10 l45'⊢
  have s5:=s4.trans s45
  have l45:=s45.next
  have hown5:=(oOwn.mono (s34.trans s45)).is hle
  have hfl:=Zp hk.1
  have oMine:ZK h4 h5 (.sl h4.next 0 ws.length (.fix ws.length)) 1 (ws.map encI):=by
   refine⟨s45,hk.1,.inr (.inr ⟨h4.next,ws.length,[],by rw[List.length_map],Nat.le_refl _,by omega,by rw[List.append_nil];exact gM,by simp,by simp⟩)⟩
  have hmine5:=oMine.sl yew
  refine(Xn s5.wf (hx.mono s45)).mono fun u h6 hu=>?_
  obtain⟨rfl,s56⟩:=hu
  have s6:=s5.trans s56
  have l56:=s56.next
  have d9:=s56.cells c9
  have d10:=s56.cells c10
  simp(disch:=omega)only[go_sem]
  have hx6:=hx.mono (s45.trans s56)
  obtain⟨I,hI⟩:∃I:St→Prop,∀s,I s↔∃tm h8 isA uE vE clV wrV cl wr,s=⟨tm,h8,[]⟩∧h6.Sub h8∧tm.E 1=K∧tm.E 2=.ptr h.next 0∧tm.E 5=.ptr (h4.next+1) 0∧tm.E 6=.ptr (h4.next+1+1) 0∧tm.E 7=.sl h4.next 0 ws.length (.fix ws.length)∧tm.E 8=.ii (check m)∧
    tm.E 9=.ii uE∧tm.E 10=.ii vE∧tm.E 11=.bool isA∧tm.E 12=clV∧tm.E 13=wrV∧Zk h8 clV 1 (cl.map encI)∧Zk h8 wrV 1 (wr.map encI)∧
    ((check m≠0∧uE=check m∧vE=check m∧isA=false∧cl=[]∧wr=[])∨
     (check m=0∧uE=X9 m ws∧((X9 m ws≠0∧isA=false)∨(X9 m ws=0∧isA=Y5 m (inL ws false)))∧
      ((ZX (XB m) m.wgs.length (m.wgs.length+1) 0=none∧vE=6∧cl=[])∨(ZX (XB m) m.wgs.length (m.wgs.length+1) 0=some cl∧vE=0))∧ZX (XL m) m.wgs.length (m.wgs.length+1) 0=some wr)):=⟨_,fun s=>Iff.rfl⟩
  have nil6:Zk h6 .nils 1 (([]:List Int).map encI):=(Zr.nil (H.Sub.refl s6.wf) 1).sl yez
  refine Us (p:=check m=0) I ?_ ?_ ?_
  ·intro c
   have g:=ZJ c
   rw[Up,W_seq]
   obtain⟨J,hJ⟩:∃J:St→Prop,∀s,J s↔∃tm h8 isA,s=⟨tm,h8,[]⟩∧h6.Sub h8∧tm.E 1=K∧tm.E 2=.ptr h.next 0∧tm.E 5=.ptr (h4.next+1) 0∧tm.E 6=.ptr (h4.next+1+1) 0∧tm.E 7=.sl h4.next 0 ws.length (.fix ws.length)∧tm.E 8=.ii (check m)∧
     tm.E 9=.ii (X9 m ws)∧tm.E 10=.ii 0∧tm.E 11=.bool isA∧((X9 m ws≠0∧isA=false)∨(X9 m ws=0∧isA=Y5 m (inL ws false))):=⟨_,fun s=>Iff.rfl⟩
   refine W_cut J ?_ ?_
   ·simp(disch:=omega)only[go_sem,d10]
    refine Listed_ev s6.wf hx6 g (hk.mono s6) yed _ fun y h7 s67 y1 hy=>?_
    have k10:=s67.cells d10
    by_cases e0:X9 m ws=0
    ·have aC:=hy e0
     simp(disch:=omega)only[go_sem,e0,k10]
     refine(YV (s6.trans s67).wf (hx6.mono s67) g aC (by rw[Wv])).mono fun u h8 hu=>?_
     obtain⟨s78,t,rfl,ht⟩:=hu
     simp(disch:=omega)only[go_sem]
     exact⟨rfl,(hJ _).2 ⟨_,_,t,rfl,s67.trans s78,yeb,yeb,yeb,yeb,yeb,yeb,by rw[e0];exact yeb,by rw[←c];exact yeb,yeb,.inr ⟨e0,by rw[←marksA,←XN ht]⟩⟩⟩
    ·simp(disch:=omega)only[go_sem,e0]
     exact⟨rfl,(hJ _).2 ⟨_,_,false,rfl,s67,yeb,yeb,yeb,yeb,yeb,yeb,yeb,by rw[←c];exact yeb,yeb,.inl ⟨e0,rfl⟩⟩⟩
   ·intro s hs
    obtain⟨tm,h8,isA,rfl,s68,t1,t2,t5,t6,t7,t8,t9,t10,t11,spec⟩:=(hJ s).1 hs
    have k10:=s68.cells d10
    have s8:=s6.trans s68
    have hx8:=hx6.mono s68
    simp(disch:=omega)only[go_sem,t1,t2,t5,t6,t7,t8,t9,t10,t11,k10]
    refine refClash_ev s8.wf hx8 g g.wgs _ fun y h9 s89 hy=>?_
    have s9:=s8.trans s89
    obtain⟨wl,hwl,_⟩:=wrong_some g
    have wfin:∀(z:V) (hz:H),((ZX (XL m) m.wgs.length (m.wgs.length+1) 0=none→z=.nils)∧∀c,ZX (XL m) m.wgs.length (m.wgs.length+1) 0=some c→Zk hz z 1 (c.map encI))→Zk hz z 1 (wl.map encI):=fun z hz a=>a.2 wl hwl
    cases hcl:ZX (XB m) m.wgs.length (m.wgs.length+1) 0 with
    |none=>
     rw[hcl] at hy
     have hy':y=.nils:=hy
     subst hy'
     simp(disch:=omega)only[go_sem,t1,t2,t5,t6,t7,t8,t9,t10,t11,s89.cells k10,Option.isSome_none,Bool.not_false]
     refine refWrong_ev s9.wf (hx8.mono s89) g g.wgs _ fun z h10 s910 hz=>?_
     simp(disch:=omega)only[go_sem,t1,t2,t5,t6,t7,t8,t9,t10,t11]
     exact⟨rfl,(hI _).2 ⟨_,_,isA,X9 m ws,6,.nils,z,[],wl,rfl,s68.trans (s89.trans s910),yec,yei,yet,yeo,yex,(by simp[Zn,Zd,t8]<;>rfl),(by simp[Zn,Zd,t9]<;>rfl),yeb,yeg,yeb,yeb,nil6.mono (s68.trans (s89.trans s910)),wfin _ _ hz,.inr ⟨c,rfl,spec,.inl ⟨hcl,rfl,rfl⟩,hwl⟩⟩⟩
    |some l=>
     rw[hcl] at hy
     obtain⟨ay,_,_⟩:=hy
     have ay1:=ay.one
     simp(disch:=omega)only[go_sem,t1,t2,t5,t6,t7,t8,t9,t10,t11,s89.cells k10,Option.isSome_some,Bool.not_true]
     refine refWrong_ev s9.wf (hx8.mono s89) g g.wgs _ fun z h10 s910 hz=>?_
     simp(disch:=omega)only[go_sem,t1,t2,t5,t6,t7,t8,t9,t10,t11]
     exact⟨rfl,(hI _).2 ⟨_,_,isA,X9 m ws,0,y,z,l,wl,rfl,s68.trans (s89.trans s910),yec,yei,yet,yeo,yex,(by simp[Zn,Zd,t8]<;>rfl),(by simp[Zn,Zd,t9]<;>rfl),yeh,yeg,yeb,yeb,ay.mono s910,wfin _ _ hz,.inr ⟨c,rfl,spec,.inr ⟨hcl,rfl⟩,hwl⟩⟩⟩
  ·intro c
   simp(disch:=omega)only[go_sem]
   exact⟨rfl,(hI _).2 ⟨_,_,false,check m,check m,.nils,.nils,[],[],rfl,H.Sub.refl s6.wf,yeb,yeb,yeb,yeb,yeb,yeb,yeb,yeb,yeb,yeb,yeb,nil6,nil6,.inl ⟨c,rfl,rfl,rfl,rfl,rfl⟩⟩⟩
  ·intro s hs
   obtain⟨tm,h8,isA,uE,vE,clV,wrV,cl,wr,rfl,s68,t1,t2,t5,t6,t7,t8,t9,t10,t11,t12,t13,aCl,aWr,spec⟩:=(hI s).1 hs
   have s8:=s6.trans s68
   have n9:=s68.cells d9
   have s58:=s56.trans s68
   have hown8:=hown5.mono s58
   have hmine8:=hmine5.mono s58
   simp(disch:=omega)only[go_sem,t1,t2,t5,t6,t7,t8,t9,t10,t11,t12,t13,n9]
   refine(Agree_ev s8.wf hown8 (oMine.mono s58) yed).mono fun u hA hu=>?_
   obtain⟨s8A,tA,rfl,specA⟩:=hu
   simp(disch:=omega)only[go_sem,t1,t2,t5,t6,t7,t8,t9,t10,t11,t12,t13,s8A.cells n9]
   refine(Clash_ev (s8.trans s8A).wf (hown8.mono s8A)).mono fun u hB hu=>?_
   obtain⟨sAB,xC,lC,eC,rfl,aC,specC⟩:=hu
   have s8B:=s8A.trans sAB
   simp(disch:=omega)only[go_sem,t1,t2,t5,t6,t7,t8,t9,t10,t11,t12,t13,s8B.cells n9]
   refine(Wrong_ev (s8.trans s8B).wf (hown8.mono s8B)).mono fun u hD hu=>?_
   obtain⟨sBD,xW,lW,eW,rfl,aW2,specW⟩:=hu
   have s8D:=s8B.trans sBD
   have sD:=s8.trans s8D
   have eqA:Wc m ws=uE∧tA=isA:=by
    rcases spec with⟨a',b',_,e',_⟩|⟨a',b',e',_⟩
    ·have e:Wc m ws=check m:=by simp[Wc,a']
     refine⟨by omega,?_⟩
     rcases specA with⟨_,h⟩|⟨h,_⟩
     ·rw[h,e']
     ·exact absurd (e▸h) a'
    ·have e:Wc m ws=X9 m ws:=by unfold Wc X9;rw[if_neg (by rw[a'];simp)]
     refine⟨by omega,?_⟩
     rw[e] at specA
     rcases specA with⟨h0,h⟩|⟨h0,h⟩<;>rcases e' with⟨k0,k⟩|⟨k0,k⟩
     ·rw[h,k]
     ·exact absurd k0 h0
     ·exact absurd h0 k0
     ·rw[h,k]
   have eqC:eC=vE∧lC=cl:=by
    rcases specC with⟨a,b,d⟩|⟨a,b,d,e⟩|⟨a,b,d⟩<;>rcases spec with⟨a',_,b',_,d',_⟩|⟨a',_,_,(⟨b',d',e'⟩|⟨b',d'⟩),_⟩
    ·exact⟨by omega,by rw[d,d']⟩
    ·exact absurd a' a
    ·exact absurd a' a
    ·exact absurd a a'
    ·exact⟨by omega,by rw[e,e']⟩
    ·rw[b] at b';cases b'
    ·exact absurd a a'
    ·rw[b] at b';cases b'
    ·rw[b] at b';exact⟨by omega,by injection b'⟩
   have eqW:eW=check m∧lW=wr:=by
    rcases specW with⟨a,b,d⟩|⟨a,b,d⟩<;>rcases spec with⟨a',_,_,_,_,d'⟩|⟨a',_,_,_,d'⟩
    ·exact⟨b,by rw[d,d']⟩
    ·exact absurd a' a
    ·exact absurd a a'
    ·rw[b] at d';exact⟨by omega,by injection d'⟩
   obtain⟨hl0,rfl⟩:=eqA
   obtain⟨rfl,rfl⟩:=eqC
   obtain⟨rfl,rfl⟩:=eqW
   clear spec specA specC specW hI
   have i1:=XF (aC.mono sBD) (aCl.mono s8D)
   have i2:=XF aW2 (aWr.mono s8D)
   have gN9:=s8D.cells n9
   have gN2:=((s34.trans s45).trans (s56.trans (s68.trans s8D))).cells g3
   simp(disch:=omega)only[go_sem,t1,t2,t5,t6,t7,t8,t9,t10,t11,t12,t13,hl0,i1,i2,decide_eq_true rfl,beq_self_eq_true,gN9,gN2]
   refine WW sD.wf (hown8.mono s8D) (hm0.mono sD) _ fun hF sDF=>?_
   have i3:=XF (hmine8.mono (s8D.trans sDF)) (hk.mono (sD.trans sDF))
   simp(disch:=omega)only[go_sem,t1,t2,t5,t6,t7,t8,t9,t10,t11,t12,t13,decide_eq_true rfl,i3,Z4]
   exact q _ _ ⟨rfl,sD.trans sDF⟩
end Go.Ab.Tryz
namespace Go.Ab.Tryz
open Go.Ab.Silk
def kindAt (m:Ml)(i:Int):Int:=if h:i.toNat<m.lots.length then m.lots[i.toNat].kind else 0
theorem kindAt_at {m:Ml}{i:Nat}(h:i<m.lots.length):kindAt m (i:Int)=m.lots[i].kind:=by unfold kindAt;simp[h]
def chK (m:Ml)(p:Int→Bool):Int→Bool:=fun i=>p (kindAt m i)
def shM (m:Ml)(b:Box)(p:Int→Bool):Box:=sh m.lots.length (parts m) b (chK m p)
theorem conB {m:Ml}(g:Good m){b:Box}(h:Xs m Zj b)(t:Tight m.lots.length (parts m) b):Con m.lots.length (parts m) b:=⟨fun i _ _=>(h.bd g i).1,t.ne,t.node⟩
theorem conU {m:Ml}(g:Good m)(h:∃w,ZC m Zj w):Con m.lots.length (parts m) (Um m Zj):=by
 refine⟨fun i i0 i1=>(Um_bd g Zj i0 i1).1,(Wx g).1 h,fun i i0 i1 hp=>?_⟩
 unfold Um
 rw[Wz (Zv g) (ownB m Zj) i0 i1 hp]
 simp only;omega
theorem feasU {m:Ml}(g:Good m)(w:Int→Int):WS m.lots.length (parts m) (Um m Zj) w↔ZC m Zj w:=by
 constructor
 ·rintro⟨h1,h2⟩
  refine⟨fun i i0 i1=>?_,h2⟩
  have:=Uo_own (Zv g) (ownB m Zj) i0 i1
  have:=h1 i i0 i1
  unfold Um at this;omega
 ·exact fun f=>⟨fun i i0 i1=>Uo_sound (Zv g) f i i0 i1,f.2⟩
theorem feasB {m:Ml}{b:Box}(h:Xs m Zj b)(w:Int→Int):WS m.lots.length (parts m) b w↔ZC m Zj w:=by
 constructor
 ·rintro⟨h1,h2⟩
  refine⟨fun i i0 i1=>?_,h2⟩
  have hn:=h.1.ne i i0 i1
  obtain⟨w1,f1,e1⟩:=h.1.full i _ i0 i1 (Int.le_refl _) hn
  obtain⟨w2,f2,e2⟩:=h.1.full i _ i0 i1 hn (Int.le_refl _)
  have a1:=f1.1 i i0 i1
  have a2:=f2.1 i i0 i1
  have:=h1 i i0 i1
  omega
 ·exact fun f=>⟨fun i i0 i1=>h.1.sound w f i i0 i1,f.2⟩
theorem sh_same {m:Ml}(g:Good m){b:Box}(h:Xs m Zj b)(t:Tight m.lots.length (parts m) b)(p:Int→Bool){i:Int}(i0:0≤i)(i1:i<m.lots.length)(hf:ZS m i<0):shM m b p i=shM m (Um m Zj) p i:=
 sh_root_eq (Zv g) _ (conB g h t) (conU g (h.feas g)) (fun w=>(feasB h w).trans (feasU g w).symm) i0 i1 hf
theorem sum10k:∀{x:Int→Int} {l:List Int},(∀p∈l,0≤x p∧x p≤10000)→(l.length:Int)≤12→0≤Zg x l∧Zg x l≤120000:=fun{x l} h hl=>by
 have e1:∀(l:List Int),Zg (fun _=>(10000:Int)) l=l.length*10000:=fun l=>by
  induction l with
  |nil=>simp[Zg]
  |cons a l ih=>simp only[Zg,ih,List.length_cons,Int.natCast_add];omega
 have a1:=Z7 (x:=x) (l:=l) fun p hp=>(h p hp).1
 have a2:=ZU (x:=x) (y:=fun _=>10000) (l:=l) fun p hp=>(h p hp).2
 rw[e1] at a2
 omega
set_option maxHeartbeats 2000000 in
theorem shares_ev {m:Ml}(g:Good m){b:Box}(cb:Con m.lots.length (parts m) b)(hbd:∀i:Int,0≤i→i<m.lots.length→(b i).2≤10000){f:V}{p:Int→Bool}{h0:H}(hf1:f.one=true)(hf:∀a,Yy h0 f [.ii a] (.bool (p a))):
  ∀(k:Nat) {h:H} {d:Nat} (lot:Nat),m.lots.length-lot≤k→lot<m.lots.length→h0.Sub h→WL h d m→∀(Q:V→H→Prop),
   (∀h',h.Sub h'→Q (.tup [.ii (shM m b p (lot:Int)).1,.ii (shM m b p (lot:Int)).2]) h')→Ev fnG Zm (.fn 123 [] []) [.ptr d 0,.agg (Zt b),.ii (lot:Int),f] h Q:=by
 intro k
 induction k with
 |zero=>intro h d lot h1 h2;omega
 |succ k ih=>
  intro h d lot hk hlot h0s hd Q q
  have F:=Zv g
  have gl:=g.lots
  have hw:=h0s.wf
  have hd0:=hd
  obtain⟨pm,l,L,W,g1,g2,aL,aW,ap⟩:=hd
  have hl0:(0:Int)≤(lot:Int):=by omega
  have hl1:(lot:Int)<(m.lots.length:Int):=by omega
  have h12:lot<12:=by omega
  obtain⟨n1,n2,n3⟩:=Xx b h12
  refine Zf (fd:=c123) rfl rfl rfl ?_
  have s2:h.Sub (h.add (.bk (Zt b))):=yea
  have gb:(h.add (.bk (Zt b))).cells h.next=some (Zt b):=Zh rfl
  have hSh:=sh_eq F b (chK m p) hl0 hl1
  have hsb:=cb.sh F (chK m p)
  have hap:=(ap (lot:Int)).mono s2
  have hlp:=ZV m (lot:Int)
  have hlenP:=hap.lenE
  obtain⟨ps,eps⟩:∃ps,parts m (lot:Int)=ps:=⟨_,rfl⟩
  obtain⟨X,eX⟩:∃X,found .nils false (lkA (lot:Int) l)=X:=⟨_,rfl⟩
  rw[eX] at hlenP hap
  rw[eps] at hlp hlenP hap hSh
  have hpsm:∀p∈ps,0≤p∧p<m.lots.length∧(lot:Int)<p:=fun p hp=>by
   obtain⟨p0,p1,pf⟩:=(F.mem (lot:Int) p).1 (by rw[eps];exact hp)
   have:=F.lt p p0 p1
   omega
  by_cases hps:ps=[]
  ·have h00:(ps.length:Int)=0:=by rw[hps];rfl
   rw[if_pos hps] at hSh
   obtain⟨bb,o,cc,cs,eb,hcs,hq,hgg,hn,hn0⟩:=(aL.mono s2).at hlot
   have hkind:=kindAt_at hlot
   simp(disch:=omega)only[c123,go_sem,Za (s2.get g1),s2.get g2,eX,hlenP,h00,hq (Zb lot),hcs,hn 1 yed,ZO]
   refine((hf m.lots[lot].kind) _ (h0s.trans s2)).mono fun u h3 hu=>?_
   obtain⟨rfl,s23⟩:=hu
   have gb3:=s23.cells gb
   have e:chK m p (lot:Int)=p m.lots[lot].kind:=by unfold chK;rw[hkind]
   rw[e] at hSh
   have hq1:=q h3 (s2.trans s23)
   unfold shM at hq1
   rw[hSh] at hq1
   cases hp:p m.lots[lot].kind
   ·rw[hp] at hq1
    simp(disch:=omega)only[go_sem,ZH (Zb lot) h12,gb3,n1,n2]
    exact hq1
   ·rw[hp] at hq1
    simp(disch:=omega)only[go_sem,ZH (Zb lot) h12,gb3,n1,n2]
    exact hq1
  ·have h00:¬(ps.length:Int)=0:=by have:=List.length_pos_iff.2 hps;omega
   rw[if_neg hps] at hSh
   have bS:∀j,(0≤Zg (lo1 (shM m b p)) (ps.take j)∧Zg (lo1 (shM m b p)) (ps.take j)≤120000)∧(0≤Zg (hi1 (shM m b p)) (ps.take j)∧Zg (hi1 (shM m b p)) (ps.take j)≤120000):=fun j=>by
    have hb:∀q∈ps.take j,(0≤(shM m b p q).1∧(shM m b p q).1≤10000)∧(0≤(shM m b p q).2∧(shM m b p q).2≤10000):=fun q hq=>by
     obtain⟨p0,p1,_⟩:=hpsm q (List.mem_of_mem_take hq)
     have a1:=hsb q p0 p1
     have a2:=cb.ne q p0 p1
     have a3:=hbd q p0 p1
     unfold shM;omega
    have hl:((ps.take j).length:Int)≤12:=by simp only[List.length_take];omega
    exact⟨sum10k (fun q hq=>(hb q hq).1) hl,sum10k (fun q hq=>(hb q hq).2) hl⟩
   simp(disch:=omega)only[c123,go_sem,Za (s2.get g1),s2.get g2,eX,hlenP,h00]
   refine Zi ps.length (fun j s=>∃tm h',s=⟨tm,h',[]⟩∧(h.add (.bk (Zt b))).Sub h'∧tm.E 0=.ptr d 0∧tm.E 2=.ii (lot:Int)∧tm.E 3=f∧tm.E 5=.ptr h.next 0∧tm.E 8=.ii (Zg (lo1 (shM m b p)) (ps.take j))∧
     tm.E 9=.ii (Zg (hi1 (shM m b p)) (ps.take j))∧tm.E 46=X∧tm.E 47=.ii (ps.length:Int)∧tm.E 48=.ii (j:Int))
    ?_ ?_ (i:=0) (Nat.zero_le _) ⟨_,_,rfl,H.Sub.refl s2.wf,yeb,yeb,yeb,yeb,yeb,yeb,yeb,yeb,yeb⟩
   ·rintro j s hj ⟨tm,h',rfl,hs,t0,t2,t3,t5,t8,t9,t46,t47,t48⟩
    have hj':(j:Int)<(ps.length:Int):=by omega
    have hsh:=s2.trans hs
    have gb':=hs.cells gb
    obtain⟨b2,o2,c2,cs2,eb,hcs2,hq2,hgg2,hn2,hn02⟩:=(hap.mono hs).at hj
    subst eb
    obtain⟨p0,p1,p2⟩:=hpsm _ (List.getElem_mem hj)
    obtain⟨pp,ep⟩:=Int.eq_ofNat_of_zero_le p0
    have e1:=Yu (lo1 (shM m b p)) hj
    have e2:=Yu (hi1 (shM m b p)) hj
    rw[ep] at e1 e2
    have f1:lo1 (shM m b p) (pp:Int)=(shM m b p (pp:Int)).1:=rfl
    have f2:hi1 (shM m b p) (pp:Int)=(shM m b p (pp:Int)).2:=rfl
    rw[f1] at e1
    rw[f2] at e2
    have bj:=bS j
    have bj1:=bS (j+1)
    simp(disch:=omega)only[go_sem,t0,t2,t3,t5,t8,t9,t46,t47,t48,hj',hq2 (Zb j),hcs2,hn02 yed,encI,ep,gb',ld_B]
    refine ih pp yed yed (h0s.trans hsh) (hd0.mono hsh) _ fun h5 s45=>?_
    simp(disch:=omega)only[go_sem,t0,t2,t3,t5,t8,t9,t46,t47,t48,ZD,Ze]
    exact⟨_,_,rfl,hs.trans s45,yev,yei,yee,yet,by rw[e1];exact yeb,by rw[e2];exact yeb,(by simp[Zn,Zd,t46]<;>rfl),(by simp[Zn,Zd,t47]<;>rfl),yeb⟩
   ·rintro s ⟨tm,h',rfl,hs,t0,t2,t3,t5,t8,t9,t46,t47,t48⟩
    rw[List.take_length] at t8 t9
    have gb':=hs.cells gb
    have bl:=bS ps.length
    rw[List.take_length] at bl
    have bb0:=cb.nn _ hl0 hl1
    have bb1:=cb.ne _ hl0 hl1
    have bb2:=hbd _ hl0 hl1
    have hSh':shM m b p (lot:Int)=(max (Zg (lo1 (shM m b p)) ps) ((b (lot:Int)).1-Zg (hi1 (shM m b p)) ps),min (Zg (hi1 (shM m b p)) ps) ((b (lot:Int)).2-Zg (lo1 (shM m b p)) ps)):=hSh
    simp(disch:=omega)only[go_sem,t0,t2,t3,t5,t8,t9,t46,t47,t48,Int.lt_irrefl,ZH (Zb lot) h12,gb',n1,n2,ZD]
    refine least_use (l:=[(b (lot:Int)).2-Zg (lo1 (shM m b p)) ps]) (Zk.new _ rfl (by rfl) (by rfl) (by simp[encI]) yez) ?_
    have s6:h'.Sub (h'.add (.bk [.ii ((b (lot:Int)).2-Zg (lo1 (shM m b p)) ps)])):=(H.Sub.refl (H.Sub.wf hs)).add _
    simp(disch:=omega)only[go_sem,List.foldl,gb',n1,n2,s6.cells gb']
    have hq1:=q _ ((s2.trans hs).trans s6)
    rw[hSh'] at hq1
    exact hq1
end Go.Ab.Tryz
namespace Go.Ab.Tryz
open Go.Ab.Silk
def tab (f:Int→Int)(n:Nat):List V:=(List.range n).map fun(i:Nat)=>iv (f (i:Int))
def VL (f:Int→Int)(i x:Int):Int→Int:=fun k=>if k=i then x else f k
theorem tab_len (f:Int→Int)(n:Nat):(tab f n).length=n:=by simp[tab]
theorem tab_nth (f:Int→Int){n i:Nat}(h:i<n):nth i (tab f n)=some (.ii (f (i:Int))):=by
 rw[nth_get,List.getElem?_eq_getElem (by rw[tab_len];exact h)]
 simp[tab,iv]
theorem ints_put:∀(l:List Int) (i:Nat) (x:Int),i<l.length→Yl i [.ii x] (l.map iv)=some ((l.set i x).map iv)
 |[],i,b,h=>by simp at h
 |a::l,0,b,_=>by simp[V7,over_s,over_0,Xq,iv]
 |a::l,i+1,b,h=>by
  have ih:=ints_put l i b (by simpa using h)
  simp only[List.map_cons,putN_s,ih,Xq,List.set_cons_succ]
theorem tab_put (f:Int→Int){n i:Nat}(h:i<n)(x:Int):Yl i [.ii x] (tab f n)=some (tab (VL f (i:Int) x) n):=by
 have e:∀g:Int→Int,tab g n=((List.range n).map fun(i:Nat)=>g (i:Int)).map iv:=fun g=>by simp[tab]
 rw[e,e,ints_put _ _ _ (by simpa using h)]
 congr 2
 refine List.ext_getElem yez fun k h1 h2=>?_
 rw[List.getElem_set]
 simp only[List.getElem_map,List.getElem_range,VL]
 by_cases c:i=k
 ·subst c;simp
 ·rw[if_neg c,if_neg yed]
theorem Wt {f g:Int→Int}{n:Nat}(h:∀k:Int,0≤k→k<n→f k=g k):tab f n=tab g n:=by
 unfold tab
 refine List.map_congr_left fun i hi=>?_
 have:i<n:=List.mem_range.1 hi
 rw[h (i:Int) yed yed]
theorem tab_zero:∀n:Nat,Yp n [V.ii 0]=tab (fun _=>0) n:=fun n=>by
 have:∀n,Yp n [V.ii 0]=List.replicate n (iv 0):=fun n=>by
  induction n with
  |zero=>rfl
  |succ n ih=>rw[Yp,YG,ih];rfl
 rw[this]
 refine List.ext_getElem (by simp[tab]) fun k h1 h2=>?_
 simp[tab]
def pK (kind:Int):Int→Bool:=fun k=>decide (k=kind)
def nK (kind:Int):Int→Bool:=fun k=>decide (k≠kind)
def Ua (m:Ml):Box:=Um m Zj
def sK (m:Ml)(kind:Int):Box:=shM m (Ua m) (pK kind)
def sN (m:Ml)(kind:Int):Box:=shM m (Ua m) (nK kind)
def TL (m:Ml)(kind p n:Int):Int:=tabL (sK m kind p).1 (sK m kind p).2 (Ua m p).1 (Ua m p).2 n
def TG (m:Ml)(kind p n:Int):Int:=tabG (sN m kind p).1 (sN m kind p).2 (Ua m p).1 (Ua m p).2 n
def TLs (m:Ml)(kind:Int)(ps:List Int)(n:Int):Int:=tabL (Zg (lo1 (sK m kind)) ps) (Zg (hi1 (sK m kind)) ps) (Zg (lo1 (Ua m)) ps) (Zg (hi1 (Ua m)) ps) n
def TGs (m:Ml)(kind:Int)(ps:List Int)(n:Int):Int:=tabG (Zg (lo1 (sN m kind)) ps) (Zg (hi1 (sN m kind)) ps) (Zg (lo1 (Ua m)) ps) (Zg (hi1 (Ua m)) ps) n
section
variable {m:Ml} {kind:Int}
theorem sK_quad (g:Good m)(h:∃w,ZC m Zj w){i:Int}(i0:0≤i)(i1:i<m.lots.length):Ur (sK m kind i).1 (sK m kind i).2 (Ua m i).1 (Ua m i).2:=(conU g h).quad (Zv g) _ i0 i1
theorem sN_quad (g:Good m)(h:∃w,ZC m Zj w){i:Int}(i0:0≤i)(i1:i<m.lots.length):Ur (sN m kind i).1 (sN m kind i).2 (Ua m i).1 (Ua m i).2:=(conU g h).quad (Zv g) _ i0 i1
theorem sK_quads (g:Good m)(h:∃w,ZC m Zj w){l:List Int}(hl:∀p∈l,0≤p∧p<m.lots.length):Ur (Zg (lo1 (sK m kind)) l) (Zg (hi1 (sK m kind)) l) (Zg (lo1 (Ua m)) l) (Zg (hi1 (Ua m)) l):=(conU g h).quads (Zv g) _ hl
theorem sN_quads (g:Good m)(h:∃w,ZC m Zj w){l:List Int}(hl:∀p∈l,0≤p∧p<m.lots.length):Ur (Zg (lo1 (sN m kind)) l) (Zg (hi1 (sN m kind)) l) (Zg (lo1 (Ua m)) l) (Zg (hi1 (Ua m)) l):=(conU g h).quads (Zv g) _ hl
theorem ch_at {p:Int→Bool}{i:Nat}(h:i<m.lots.length):chK m p (i:Int)=p m.lots[i].kind:=by unfold chK;rw[kindAt_at h]
theorem leaf_L (g:Good m){i:Nat}(h:i<m.lots.length)(hp:parts m (i:Int)=[]){n:Int}(n0:0≤n):
  (if(ownB m Zj (i:Int)).1≤n∧n≤(ownB m Zj (i:Int)).2 then(if m.lots[i].kind=kind then n else 0) else -1)=TL m kind (i:Int) n:=by
 have i0:(0:Int)≤(i:Int):=by omega
 have i1:(i:Int)<m.lots.length:=by omega
 have e:Ua m (i:Int)=ownB m Zj (i:Int):=Vu (Zv g) _ i0 i1 hp
 have e2:sK m kind (i:Int)=_:=sh_eq (Zv g) (Ua m) (chK m (pK kind)) i0 i1
 rw[if_pos hp,ch_at h] at e2
 unfold TL tabL
 rw[e2,e]
 by_cases c:(ownB m Zj (i:Int)).1≤n∧n≤(ownB m Zj (i:Int)).2
 ·rw[if_pos c,if_pos c]
  by_cases k:m.lots[i].kind=kind
  ·simp only[pK,k,decide_true,if_true];omega
  ·simp only[pK,k,decide_false,if_false];simp only[Bool.false_eq_true,if_false];omega
 ·rw[if_neg c,if_neg c]
theorem leaf_G (g:Good m){i:Nat}(h:i<m.lots.length)(hp:parts m (i:Int)=[]){n:Int}(n0:0≤n):
  (if(ownB m Zj (i:Int)).1≤n∧n≤(ownB m Zj (i:Int)).2 then(if m.lots[i].kind=kind then n else 0) else -1)=TG m kind (i:Int) n:=by
 have i0:(0:Int)≤(i:Int):=by omega
 have i1:(i:Int)<m.lots.length:=by omega
 have e:Ua m (i:Int)=ownB m Zj (i:Int):=Vu (Zv g) _ i0 i1 hp
 have e2:sN m kind (i:Int)=_:=sh_eq (Zv g) (Ua m) (chK m (nK kind)) i0 i1
 rw[if_pos hp,ch_at h] at e2
 unfold TG tabG
 rw[e2,e]
 by_cases c:(ownB m Zj (i:Int)).1≤n∧n≤(ownB m Zj (i:Int)).2
 ·rw[if_pos c,if_pos c]
  by_cases k:m.lots[i].kind=kind
  ·simp only[nK,k,ne_eq,not_true_eq_false,decide_false,if_true,Bool.false_eq_true,if_false];omega
  ·simp only[nK,k,ne_eq,not_false_eq_true,decide_true,if_false,if_true];omega
 ·rw[if_neg c,if_neg c]
theorem node_L (g:Good m)(hf:∃w,ZC m Zj w){i:Int}(i0:0≤i)(i1:i<m.lots.length)(hp:parts m i≠[]){n:Int}(n0:0≤n):
  (if(ownB m Zj i).1≤n∧n≤(ownB m Zj i).2 then TLs m kind (parts m i) n else -1)=TL m kind i n:=by
 have e:Ua m i=(max (ownB m Zj i).1 (Zg (lo1 (Ua m)) (parts m i)),min (ownB m Zj i).2 (Zg (hi1 (Ua m)) (parts m i))):=Wz (Zv g) (ownB m Zj) i0 i1 hp
 have e2:sK m kind i=_:=sh_eq (Zv g) (Ua m) (chK m (pK kind)) i0 i1
 rw[if_neg hp] at e2
 have Q:=sK_quads (kind:=kind) g hf (l:=parts m i) fun p hp=>by
  obtain⟨p0,p1,_⟩:=((Zv g).mem _ _).1 hp;exact⟨p0,p1⟩
 have f:sh m.lots.length (parts m) (Ua m) (chK m (pK kind))=sK m kind:=rfl
 rw[f] at e2
 unfold TL TLs
 rw[e2,e]
 generalize Zg (lo1 (sK m kind)) (parts m i)=s at Q⊢
 generalize Zg (hi1 (sK m kind)) (parts m i)=r at Q⊢
 generalize Zg (lo1 (Ua m)) (parts m i)=lo at Q⊢
 generalize Zg (hi1 (Ua m)) (parts m i)=hi at Q⊢
 obtain⟨q1,q2,q3,q4,q5⟩:=Q
 unfold tabL
 simp only
 by_cases c:(ownB m Zj i).1≤n∧n≤(ownB m Zj i).2
 ·rw[if_pos c]
  by_cases k:lo≤n∧n≤hi
  ·rw[if_pos k,if_pos yed];omega
  ·rw[if_neg k,if_neg yed]
 ·rw[if_neg c,if_neg yed]
theorem node_G (g:Good m)(hf:∃w,ZC m Zj w){i:Int}(i0:0≤i)(i1:i<m.lots.length)(hp:parts m i≠[]){n:Int}(n0:0≤n):
  (if(ownB m Zj i).1≤n∧n≤(ownB m Zj i).2 then TGs m kind (parts m i) n else -1)=TG m kind i n:=by
 have e:Ua m i=(max (ownB m Zj i).1 (Zg (lo1 (Ua m)) (parts m i)),min (ownB m Zj i).2 (Zg (hi1 (Ua m)) (parts m i))):=Wz (Zv g) (ownB m Zj) i0 i1 hp
 have e2:sN m kind i=_:=sh_eq (Zv g) (Ua m) (chK m (nK kind)) i0 i1
 rw[if_neg hp] at e2
 have Q:=sN_quads (kind:=kind) g hf (l:=parts m i) fun p hp=>by
  obtain⟨p0,p1,_⟩:=((Zv g).mem _ _).1 hp;exact⟨p0,p1⟩
 have f:sh m.lots.length (parts m) (Ua m) (chK m (nK kind))=sN m kind:=rfl
 rw[f] at e2
 unfold TG TGs
 rw[e2,e]
 generalize Zg (lo1 (sN m kind)) (parts m i)=s at Q⊢
 generalize Zg (hi1 (sN m kind)) (parts m i)=r at Q⊢
 generalize Zg (lo1 (Ua m)) (parts m i)=lo at Q⊢
 generalize Zg (hi1 (Ua m)) (parts m i)=hi at Q⊢
 obtain⟨q1,q2,q3,q4,q5⟩:=Q
 unfold tabG
 simp only
 by_cases c:(ownB m Zj i).1≤n∧n≤(ownB m Zj i).2
 ·rw[if_pos c]
  by_cases k:lo≤n∧n≤hi
  ·rw[if_pos k,if_pos yed];omega
  ·rw[if_neg k,if_neg yed]
 ·rw[if_neg c,if_neg yed]
theorem zero_L {n:Int}(n0:0≤n):(if n=0 then 0 else -1)=TLs m kind [] n:=by
 have e:TLs m kind [] n=tabL 0 0 0 0 n:=rfl
 rw[e];unfold tabL
 by_cases c:n=0
 ·subst c;simp
 ·rw[if_neg c,if_neg yed]
theorem zero_G {n:Int}(n0:0≤n):(if n=0 then 0 else -1)=TGs m kind [] n:=by
 have e:TGs m kind [] n=tabG 0 0 0 0 n:=rfl
 rw[e];unfold tabG
 by_cases c:n=0
 ·subst c;simp
 ·rw[if_neg c,if_neg yed]
theorem min_congr {val val':Int→Int}{ok ok':Int→Prop}{k x:Int}(h:Yg val ok k x)(h1:∀j,0≤j→j<k→(ok j↔ok' j))(h2:∀j,0≤j→j<k→ok j→val j=val' j):Yg val' ok' k x:=by
 rcases h with⟨a,b⟩|⟨a,⟨j,j0,j1,j2,j3⟩,b⟩
 ·exact .inl ⟨a,fun j j0 j1 c=>b j j0 j1 ((h1 j j0 j1).2 c)⟩
 ·exact .inr ⟨a,⟨j,j0,j1,(h1 j j0 j1).1 j2,by rw[j3];exact h2 j j0 j1 j2⟩,fun i i0 i1 hi=>by have hi':=(h1 i i0 i1).2 hi;rw[←h2 i i0 i1 hi'];exact b i i0 i1 hi'⟩
theorem max_congr {val val':Int→Int}{ok ok':Int→Prop}{k x:Int}(h:Ys val ok k x)(h1:∀j,0≤j→j<k→(ok j↔ok' j))(h2:∀j,0≤j→j<k→ok j→val j=val' j):Ys val' ok' k x:=by
 rcases h with⟨a,b⟩|⟨a,⟨j,j0,j1,j2,j3⟩,b⟩
 ·exact .inl ⟨a,fun j j0 j1 c=>b j j0 j1 ((h1 j j0 j1).2 c)⟩
 ·exact .inr ⟨a,⟨j,j0,j1,(h1 j j0 j1).1 j2,by rw[j3];exact h2 j j0 j1 j2⟩,fun i i0 i1 hi=>by have hi':=(h1 i i0 i1).2 hi;rw[←h2 i i0 i1 hi'];exact b i i0 i1 hi'⟩
theorem max_neg {val:Int→Int}{ok:Int→Prop}{k x:Int}(h:Ys val ok k x): -1≤x:=by
 rcases h with⟨a,_⟩|⟨a,_⟩<;>omega
theorem Wy {s r lo hi n:Int}(hs:0≤s):0≤tabL s r lo hi n↔(lo≤n∧n≤hi):=by
 have:=tabL_neg (s:=s) (r:=r) (lo:=lo) (hi:=hi) (n:=n) hs
 constructor
 ·intro h
  by_cases c:lo≤n∧n≤hi
  ·exact c
  ·have:=this.2 c;omega
 ·intro c
  by_cases h:0≤tabL s r lo hi n
  ·exact h
  ·exact absurd c (this.1 yed)
def okC (m:Ml)(kind:Int)(ps:List Int)(p n j:Int):Prop:=0≤TLs m kind ps (n-j)∧0≤TL m kind p j
theorem conv_L (g:Good m)(hf:∃w,ZC m Zj w){ps:List Int}{p n x:Int}(hl:∀p∈ps,0≤p∧p<m.lots.length)(hp:0≤p∧p<m.lots.length)
  (h:Yg (fun j=>TLs m kind ps (n-j)+TL m kind p j) (okC m kind ps p n) (n+1) x):x=TLs m kind (ps++[p]) n:=by
 have Q:=sK_quads (kind:=kind) g hf hl
 have R:=sK_quad (kind:=kind) g hf hp.1 hp.2
 have l0:0≤Zg (lo1 (Ua m)) ps:=by obtain⟨a,b,c,d,e⟩:=Q;omega
 have l1:0≤(Ua m p).1:=by obtain⟨a,b,c,d,e⟩:=R;omega
 have e:TLs m kind (ps++[p]) n=tabL (Zg (lo1 (sK m kind)) ps+(sK m kind p).1) (Zg (hi1 (sK m kind)) ps+(sK m kind p).2) (Zg (lo1 (Ua m)) ps+(Ua m p).1) (Zg (hi1 (Ua m)) ps+(Ua m p).2) n:=by
  unfold TLs;simp[XO,Zg,lo1,hi1]
 rw[e]
 refine conv_min l0 l1 ⟨Q.m1,Q.m2⟩ ⟨R.m1,R.m2⟩ (min_congr h (fun j j0 j1=>?_) fun j j0 j1 hj=>?_)
 ·unfold okC TLs TL;rw[Wy Q.s0,Wy R.s0]
 ·unfold okC TLs TL at hj
  rw[Wy Q.s0,Wy R.s0] at hj
  unfold TLs TL
  rw[tabL_in hj.1,tabL_in hj.2]
theorem conv_G (g:Good m)(hf:∃w,ZC m Zj w){ps:List Int}{p n x:Int}(hl:∀p∈ps,0≤p∧p<m.lots.length)(hp:0≤p∧p<m.lots.length)
  (h:Ys (fun j=>TGs m kind ps (n-j)+TG m kind p j) (okC m kind ps p n) (n+1) x):x=TGs m kind (ps++[p]) n:=by
 have Q:=sK_quads (kind:=kind) g hf hl
 have R:=sK_quad (kind:=kind) g hf hp.1 hp.2
 have Q':=sN_quads (kind:=kind) g hf hl
 have R':=sN_quad (kind:=kind) g hf hp.1 hp.2
 have l0:0≤Zg (lo1 (Ua m)) ps:=by obtain⟨a,b,c,d,e⟩:=Q;omega
 have l1:0≤(Ua m p).1:=by obtain⟨a,b,c,d,e⟩:=R;omega
 have e:TGs m kind (ps++[p]) n=tabG (Zg (lo1 (sN m kind)) ps+(sN m kind p).1) (Zg (hi1 (sN m kind)) ps+(sN m kind p).2) (Zg (lo1 (Ua m)) ps+(Ua m p).1) (Zg (hi1 (Ua m)) ps+(Ua m p).2) n:=by
  unfold TGs;simp[XO,Zg,lo1,hi1]
 rw[e]
 refine conv_max l0 l1 ⟨Q'.m1,Q'.m2⟩ ⟨R'.m1,R'.m2⟩ (max_congr h (fun j j0 j1=>?_) fun j j0 j1 hj=>?_)
 ·unfold okC TLs TL;rw[Wy Q.s0,Wy R.s0]
 ·unfold okC TLs TL at hj
  rw[Wy Q.s0,Wy R.s0] at hj
  unfold TGs TG
  rw[V0 hj.1,V0 hj.2]
theorem okC_G (g:Good m)(hf:∃w,ZC m Zj w){ps:List Int}{p n j:Int}(hl:∀p∈ps,0≤p∧p<m.lots.length)(hp:0≤p∧p<m.lots.length)(h:okC m kind ps p n j):0≤TGs m kind ps (n-j)∧0≤TG m kind p j:=by
 have Q:=sK_quads (kind:=kind) g hf hl
 have R:=sK_quad (kind:=kind) g hf hp.1 hp.2
 obtain⟨a1,a2,a3,a4,a5⟩:=sN_quads (kind:=kind) g hf hl
 obtain⟨b1,b2,b3,b4,b5⟩:=sN_quad (kind:=kind) g hf hp.1 hp.2
 unfold okC TLs TL at h
 rw[Wy Q.s0,Wy R.s0] at h
 unfold TGs TG
 rw[V0 h.1,V0 h.2]
 omega
end
end Go.Ab.Tryz
namespace Go.Ab.Tryz
open Go.Ab.Silk
theorem Xm {n i:Nat}(h:i<n)(f:Int→Int):nth i (tab f n)=some (.ii (f (i:Int))):=tab_nth f h
theorem tab_st {n i:Nat}(h:i<n)(f:Int→Int)(x:Int):Yl i [.ii x] (tab f n)=some (tab (VL f (i:Int) x) n):=tab_put f h x
theorem YQ (f:Int→Int)(i x y:Int):VL (VL f i x) i y=VL f i y:=by
 funext k;unfold VL;split<;>rfl
theorem fset_at (f:Int→Int)(i x:Int):VL f i x i=x:=by unfold VL;rw[if_pos rfl]
def upI (f:Int→Int)(i:Nat):Int→Int:=fun n=>if n<(i:Int) then f n else 0
theorem WA (f:Int→Int)(i:Nat){x:Int}(h:x=f (i:Int)):VL (upI f i) (i:Int) x=upI f (i+1):=by
 subst h
 funext k;unfold VL upI
 by_cases c:k=(i:Int)
 ·subst c;rw[if_pos rfl,if_pos yed]
 ·rw[if_neg c]
  by_cases d:k<(i:Int)
  ·rw[if_pos d,if_pos yed]
  ·rw[if_neg d,if_neg yed]
theorem upI_zero (f:Int→Int)(n:Nat):tab (fun _=>0) n=tab (upI f 0) n:=Wt fun k k0 _=>by unfold upI;rw[if_neg yed]
theorem upI_all (f:Int→Int)(n:Nat):tab (upI f n) n=tab f n:=Wt fun k _ k1=>by unfold upI;rw[if_pos k1]
def cutI (lo hi:Int)(f:Int→Int)(i:Nat):Int→Int:=fun n=>if n<(i:Int) then(if lo≤n∧n≤hi then f n else -1) else f n
theorem cutI_off {lo hi:Int}(f:Int→Int)(i:Nat)(h:¬(lo≤(i:Int)∧(i:Int)≤hi)):VL (cutI lo hi f i) (i:Int) (-1)=cutI lo hi f (i+1):=by
 funext k;unfold VL cutI
 by_cases c:k=(i:Int)
 ·subst c;rw[if_pos rfl,if_pos yed,if_neg h]
 ·rw[if_neg c]
  by_cases d:k<(i:Int)
  ·have d':k<((i+1:Nat):Int):=by omega
   rw[if_pos d,if_pos d']
  ·have d':¬k<((i+1:Nat):Int):=by omega
   rw[if_neg d,if_neg d']
theorem cutI_in {lo hi:Int}(f:Int→Int)(i:Nat)(h:lo≤(i:Int)∧(i:Int)≤hi):cutI lo hi f i=cutI lo hi f (i+1):=by
 funext k;unfold cutI
 by_cases c:k=(i:Int)
 ·subst c;rw[if_neg yed,if_pos yed,if_pos h]
 ·by_cases d:k<(i:Int)
  ·have d':k<((i+1:Nat):Int):=by omega
   rw[if_pos d,if_pos d']
  ·have d':¬k<((i+1:Nat):Int):=by omega
   rw[if_neg d,if_neg d']
theorem cutI_zero (lo hi:Int)(f:Int→Int)(n:Nat):tab (cutI lo hi f 0) n=tab f n:=Wt fun k k0 _=>by unfold cutI;rw[if_neg yed]
def ini (m:Ml)(kind:Int)(lot:Int):Int→Int:=fun n=>if parts m lot=[] then(if kindAt m lot=kind then n else 0) else -1
def contL (m:Ml)(kind lot:Int)(j:Nat):Int→Int:=if parts m lot=[] then ini m kind lot else TLs m kind ((parts m lot).take j)
def contG (m:Ml)(kind lot:Int)(j:Nat):Int→Int:=if parts m lot=[] then ini m kind lot else TGs m kind ((parts m lot).take j)
theorem over_tab {n:Nat}(h:0<n)(f:Int→Int)(x:Int):over [.ii x] (tab f n)=some (tab (VL f 0 x) n):=by
 rw[←V7];exact tab_put f h x
set_option maxRecDepth 4000 in
set_option maxHeartbeats 8000000 in
theorem table_ev {m:Ml}(g:Good m)(hag:∃w,ZC m Zj w){kind:Int}{M:Nat}(hM:M≤1000):∀(k:Nat) {h:H} {v:V} (lot:Nat),m.lots.length-lot≤k→lot<m.lots.length→h.wf→ZF h v m→∀(Q:V→H→Prop),
  (∀h' b1 b2,h.Sub h'→h'.get b1=some (.bk (tab (TL m kind (lot:Int)) (M+1)))→h'.get b2=some (.bk (tab (TG m kind (lot:Int)) (M+1)))→Q (.tup [.sl b1 0 (M+1) (.fix (M+1)),.sl b2 0 (M+1) (.fix (M+1))]) h')→
  Ev fnG Zm (.fn 147 [] []) [v,.ii (lot:Int),.ii kind,.ii (M:Int)] h Q:=by
 intro k
 induction k with
 |zero=>intro h v lot h1 h2;omega
 |succ k ih=>
  intro h v lot hk hlot hw hm Q q
  have F:=Zv g
  have gl:=g.lots
  have gw:=g.wgs
  have hm0:=hm
  obtain⟨L,W,rfl,aL,aW⟩:=hm
  have hl0:(0:Int)≤(lot:Int):=by omega
  have hl1:(lot:Int)<(m.lots.length:Int):=by omega
  refine Zf (fd:=c147) rfl rfl rfl ?_
  have s1:h.Sub (h.add (.bk [.ii m.errs,L,W])):=yea
  have g1:(h.add (.bk [.ii m.errs,L,W])).cells h.next=some [.ii m.errs,L,W]:=Zh rfl
  have l1:(h.add (.bk [.ii m.errs,L,W])).next=h.next+1:=H.next_add _ _
  simp(disch:=omega)only[c147,go_sem]
  generalize h.add (.bk [.ii m.errs,L,W])=h1 at s1 g1 l1⊢
  have w1:=s1.wf
  refine All_ev s1.wf (hm0.mono s1) yed _ fun C h3 s13 aC=>?_
  have s3:=s1.trans s13
  simp(disch:=omega)only[go_sem,s13.cells g1]
  refine refOwn_ev s3.wf (hm0.mono s3) g aC yez (lot:Int) _ fun h4 s34=>?_
  have own:YZ m (cOf (List.replicate m.wgs.length true)) (lot:Int) m.wgs.length=ownB m Zj (lot:Int):=by
   rw[←ownB_at hl0 hl1,own_all]
  rw[own]
  have s14:=s13.trans s34
  have s4:=s1.trans s14
  have w4:=s4.wf
  have l4:=s14.next
  simp -implicitDefEqProofs(disch:=first|omega|simp only[nZ]<;>omega|fail)only[go_sem,Ze,VX,g1,s13.cells g1,s14.cells g1]
  have z:=tab_zero (M+1)
  rw[z]
  have s15:h1.Sub ((h4.add (.bk (tab (fun _=>0) (M+1)))).add (.bk (tab (fun _=>0) (M+1)))):=s14.trans (((H.Sub.refl w4).add _).add _)
  have e5:((h4.add (.bk (tab (fun _=>0) (M+1)))).add (.bk (tab (fun _=>0) (M+1)))).get h4.next=some (.bk (tab (fun _=>0) (M+1))):=by simp -implicitDefEqProofs(maxSteps:=999999)(disch:=first|with_reducible rfl|omega|(simp only[nA,nS,nD]<;>omega)|fail)only[go_sem]
  have f5:((h4.add (.bk (tab (fun _=>0) (M+1)))).add (.bk (tab (fun _=>0) (M+1)))).get (h4.next+1)=some (.bk (tab (fun _=>0) (M+1))):=by simp -implicitDefEqProofs(maxSteps:=999999)(disch:=first|with_reducible rfl|omega|(simp only[nA,nS,nD]<;>omega)|fail)only[go_sem]
  have l5:((h4.add (.bk (tab (fun _=>0) (M+1)))).add (.bk (tab (fun _=>0) (M+1)))).next=h4.next+2:=by simp only[H.next_add]
  generalize((h4.add (.bk (tab (fun _=>0) (M+1)))).add (.bk (tab (fun _=>0) (M+1))))=h5 at s15 e5 f5 l5⊢
  have s5:=s1.trans s15
  refine YU s5.wf (hm0.mono s5) g hlot _ fun P h6 oP=>?_
  have s56:=oP.1
  have s16:=s15.trans s56
  have l6:=s56.next
  have hpl:=ZV m (lot:Int)
  have aP:=oP.sl (by simp only[List.length_map];omega)
  have hlenP:=aP.lenE
  have e6:=s56.get e5
  have f6:=s56.get f5
  have hP:∀b,Zs P b→h5.next≤b:=fun b hb=>(oP.blk hb).1
  clear oP
  have gm6:=s16.cells g1
  obtain⟨ps,eps⟩:∃ps,parts m (lot:Int)=ps:=⟨_,rfl⟩
  have hpsm:∀p∈ps,0≤p∧p<m.lots.length∧(lot:Int)<p:=fun p hp=>by
   obtain⟨p0,p1,pf⟩:=(F.mem (lot:Int) p).1 (by rw[eps];exact hp)
   have:=F.lt p p0 p1
   omega
  rw[eps] at aP hlenP hpl
  have kp1:∀(h':H) (x:Blk),Zk h' P 1 (ps.map encI)→Zk (h'.set h4.next x) P 1 (ps.map encI):=fun h' x a=>YD a (Zq.set _ _ _) fun b hb e=>by have:=hP b hb;omega
  have kp2:∀(h':H) (x:Blk),Zk h' P 1 (ps.map encI)→Zk (h'.set (h4.next+1) x) P 1 (ps.map encI):=fun h' x a=>YD a (Zq.set _ _ _) fun b hb e=>by have:=hP b hb;omega
  have kd:=kindAt_at hlot
  simp(disch:=omega)only[go_sem]
  refine Zi (M+1) (fun i s=>∃tm h',s=⟨tm,h',[]⟩∧h1.Sub h'∧h4.next+1<h'.next∧Zk h' P 1 (ps.map encI)∧h'.get h4.next=some (.bk (tab (upI (ini m kind (lot:Int)) i) (M+1)))∧h'.get (h4.next+1)=some (.bk (tab (upI (ini m kind (lot:Int)) i) (M+1)))∧
    tm.E 1=.ii (lot:Int)∧tm.E 2=.ii kind∧tm.E 3=.ii (M:Int)∧tm.E 4=.ptr h.next 0∧tm.E 10=.ii (ownB m Zj (lot:Int)).1∧tm.E 11=.ii (ownB m Zj (lot:Int)).2∧
    tm.E 12=.sl h4.next 0 (M+1) (.fix (M+1))∧tm.E 13=.sl (h4.next+1) 0 (M+1) (.fix (M+1))∧tm.E 14=P∧tm.E 15=.ii (i:Int))
   ?_ ?_ (i:=0) (Nat.zero_le _) ⟨_,_,rfl,s16,by omega,aP,by rw[←upI_zero];exact e6,by rw[←upI_zero];exact f6,yeb,yeb,yeb,yeb,yeb,yeb,yeb,yeb,yeb,yeb⟩
  ·rintro i s hi ⟨tm,h',rfl,hs,lt,aP',e',f',t1,t2,t3,t4,t10,t11,t12,t13,t14,t15⟩
   have hi':(i:Int)≤(M:Int):=by omega
   by_cases hpe:ps=[]
   ·have h00:(ps.length:Int)=0:=by rw[hpe];rfl
    obtain⟨bb,o,cc,cs,eb,hcs,hq,hgg,hn,hn0⟩:=(aL.mono (s1.trans hs)).at hlot
    have hbb:bb<h.next:=Vv hw aL (by intro e;rw[List.map_eq_nil_iff] at e;rw[e] at hlot;simp at hlot) bb ⟨_,_,_,eb⟩
    subst eb
    by_cases hkd:m.lots[lot].kind=kind
    ·have hini:(i:Int)=ini m kind (lot:Int) (i:Int):=by unfold ini;rw[eps,if_pos hpe,kd,if_pos hkd]
     simp(disch:=omega)only[go_sem,t1,t2,t3,t4,t10,t11,t12,t13,t14,t15,hi',Zz (Zb i) hi,Nat.mul_one,e',f',tab_st hi,hlenP,h00,hs.cells g1,hq (Zb lot),hcs,hn 1 yed,ZO,hkd,Ze]
     exact⟨_,_,rfl,yea,by simp only[H.next_set];exact lt,kp2 _ _ (kp1 _ _ (kp2 _ _ (kp1 _ _ (kp2 _ _ (kp1 _ _ aP'))))),by simp(disch:=omega)only[go_sem,YQ];rw[WA _ _ hini],by simp(disch:=omega)only[go_sem,YQ];rw[WA _ _ hini],yec,yei,yee,yef,yeh,yeg,yej,yek,yel,yeb⟩
    ·have hini:0=ini m kind (lot:Int) (i:Int):=by unfold ini;rw[eps,if_pos hpe,kd,if_neg hkd]
     simp(disch:=omega)only[go_sem,t1,t2,t3,t4,t10,t11,t12,t13,t14,t15,hi',Zz (Zb i) hi,Nat.mul_one,e',f',tab_st hi,hlenP,h00,hs.cells g1,hq (Zb lot),hcs,hn 1 yed,ZO,hkd,Ze]
     exact⟨_,_,rfl,yea,by simp only[H.next_set];exact lt,kp2 _ _ (kp1 _ _ (kp2 _ _ (kp1 _ _ aP'))),by simp(disch:=omega)only[go_sem,YQ];rw[WA _ _ hini],by simp(disch:=omega)only[go_sem,YQ];rw[WA _ _ hini],yec,yei,yee,yef,yeh,yeg,yej,yek,yel,yeb⟩
   ·have h00:¬(ps.length:Int)=0:=by have:=List.length_pos_iff.2 hpe;omega
    have hini: -1=ini m kind (lot:Int) (i:Int):=by unfold ini;rw[eps,if_neg hpe]
    simp(disch:=omega)only[go_sem,t1,t2,t3,t4,t10,t11,t12,t13,t14,t15,hi',Zz (Zb i) hi,Nat.mul_one,e',f',tab_st hi,hlenP,h00,Ze]
    exact⟨_,_,rfl,yea,by simp only[H.next_set];exact lt,kp2 _ _ (kp1 _ _ aP'),by simp(disch:=omega)only[go_sem,YQ];rw[WA _ _ hini],by simp(disch:=omega)only[go_sem,YQ];rw[WA _ _ hini],yec,yei,yee,yef,yeh,yeg,yej,yek,yel,yeb⟩
  ·rintro s ⟨tm,h',rfl,hs,lt,aP',e',f',t1,t2,t3,t4,t10,t11,t12,t13,t14,t15⟩
   rw[upI_all] at e' f'
   have hM1:¬((M+1:Nat):Int)≤(M:Int):=by omega
   simp(disch:=omega)only[go_sem,t1,t2,t3,t4,t10,t11,t12,t13,t14,t15,hM1,hlenP]
   obtain⟨J,hJ⟩:∃J:St→Prop,∀s,J s↔∃tm h' bl bg,s=⟨tm,h',[]⟩∧h1.Sub h'∧Zk h' P 1 (ps.map encI)∧h1.next≤bl∧h1.next≤bg∧bl≠bg∧h'.get bl=some (.bk (tab (contL m kind (lot:Int) 0) (M+1)))∧h'.get bg=some (.bk (tab (contG m kind (lot:Int) 0) (M+1)))∧
     tm.E 1=.ii (lot:Int)∧tm.E 2=.ii kind∧tm.E 3=.ii (M:Int)∧tm.E 4=.ptr h.next 0∧tm.E 10=.ii (ownB m Zj (lot:Int)).1∧tm.E 11=.ii (ownB m Zj (lot:Int)).2∧
     tm.E 12=.sl bl 0 (M+1) (.fix (M+1))∧tm.E 13=.sl bg 0 (M+1) (.fix (M+1))∧tm.E 14=P:=⟨_,fun s=>Iff.rfl⟩
   refine Us (p:=0<(ps.length:Int)) J ?_ ?_ ?_
   ·intro c
    have hpe:¬ps=[]:=fun e=>by rw[e] at c;simp at c
    have M1:0<M+1:=Nat.succ_pos M
    have c1:tab (VL (ini m kind (lot:Int)) 0 0) (M+1)=tab (contL m kind (lot:Int) 0) (M+1):=Wt fun k k0 _=>by
     unfold contL VL ini;rw[eps,if_neg hpe,if_neg hpe,List.take_zero,←zero_L k0]
    have c2:tab (VL (ini m kind (lot:Int)) 0 0) (M+1)=tab (contG m kind (lot:Int) 0) (M+1):=Wt fun k k0 _=>by
     unfold contG VL ini;rw[eps,if_neg hpe,if_neg hpe,List.take_zero,←zero_G k0]
    simp(disch:=omega)only[go_sem,t1,t2,t3,t4,t10,t11,t12,t13,t14,t15,Zz nat_zero M1,Nat.zero_mul,e',f',over_tab M1]
    exact⟨rfl,(hJ _).2 ⟨_,_,h4.next,h4.next+1,rfl,yea,kp2 _ _ (kp1 _ _ aP'),by omega,by omega,by omega,by rw[←c1];simp(disch:=omega)only[go_sem],by rw[←c2];simp(disch:=omega)only[go_sem],yec,yei,yee,yef,yeh,yeg,yej,yek,yel⟩⟩
   ·intro c
    have hpe:ps=[]:=List.length_eq_zero_iff.1 yed
    have c1:contL m kind (lot:Int) 0=ini m kind (lot:Int):=by unfold contL;rw[eps,if_pos hpe]
    have c2:contG m kind (lot:Int) 0=ini m kind (lot:Int):=by unfold contG;rw[eps,if_pos hpe]
    simp(disch:=omega)only[go_sem]
    exact⟨rfl,(hJ _).2 ⟨_,_,h4.next,h4.next+1,rfl,hs,aP',by omega,by omega,by omega,by rw[c1];exact e',by rw[c2];exact f',yec,yei,yee,yef,yeh,yeg,yej,yek,yel⟩⟩
   clear hs lt aP' e' f' t1 t2 t3 t4 t10 t11 t12 t13 t14 t15 hM1
   intro s hs
   obtain⟨tm,h',bl,bg,rfl,hs,aP',nl,ng,nlg,e',f',t1,t2,t3,t4,t10,t11,t12,t13,t14⟩:=(hJ s).1 hs
   simp(disch:=omega)only[go_sem]
   refine Zi ps.length (fun j s=>∃tm h' bl bg,s=⟨tm,h',[]⟩∧h1.Sub h'∧Zk h' P 1 (ps.map encI)∧h1.next≤bl∧h1.next≤bg∧bl≠bg∧h'.get bl=some (.bk (tab (contL m kind (lot:Int) j) (M+1)))∧h'.get bg=some (.bk (tab (contG m kind (lot:Int) j) (M+1)))∧
     tm.E 1=.ii (lot:Int)∧tm.E 2=.ii kind∧tm.E 3=.ii (M:Int)∧tm.E 4=.ptr h.next 0∧tm.E 10=.ii (ownB m Zj (lot:Int)).1∧tm.E 11=.ii (ownB m Zj (lot:Int)).2∧
     tm.E 12=.sl bl 0 (M+1) (.fix (M+1))∧tm.E 13=.sl bg 0 (M+1) (.fix (M+1))∧tm.E 14=P∧tm.E 16=.ii (j:Int))
    ?_ ?_ (i:=0) (Nat.zero_le _) ⟨_,_,bl,bg,rfl,hs,aP',nl,ng,nlg,e',f',yec,yei,yee,yef,yeh,yeg,yej,yek,yel,yeb⟩
   ·clear hs aP' nl ng nlg e' f' t1 t2 t3 t4 t10 t11 t12 t13 t14 e6 f6 e5 f5 kp1 kp2 z own s13 s34 s14 s15 s56 s16 aC l4 l5 l6 hP gm6
    rintro j s hj ⟨tm,h',bl,bg,rfl,hs,aP',nl,ng,nlg,e',f',t1,t2,t3,t4,t10,t11,t12,t13,t14,t16⟩
    have hj':(j:Int)<(ps.length:Int):=by omega
    have hpe:ps≠[]:=fun e=>by rw[e] at hj;simp at hj
    have cL:∀j,contL m kind (lot:Int) j=TLs m kind (ps.take j):=fun j=>by unfold contL;rw[eps,if_neg hpe]
    have cG:∀j,contG m kind (lot:Int) j=TGs m kind (ps.take j):=fun j=>by unfold contG;rw[eps,if_neg hpe]
    rw[cL] at e'
    rw[cG] at f'
    have hs0:=s1.trans hs
    have gm:=hs.cells g1
    obtain⟨b2,o2,c2,cs2,eb,hcs2,hq2,hgg2,hn2,hn02⟩:=aP'.at hj
    obtain⟨p0,p1,p2⟩:=hpsm _ (List.getElem_mem hj)
    obtain⟨p,ep⟩:=Int.eq_ofNat_of_zero_le p0
    have hpt:ps.take (j+1)=ps.take j++[(p:Int)]:=by rw[List.take_succ_eq_append_getElem hj,ep]
    subst eb
    simp(disch:=omega)only[go_sem,t1,t2,t3,t4,t10,t11,t12,t13,t14,t16,hlenP,hj',gm,hq2 (Zb j),hcs2,hn02 yed,encI,ep]
    refine ih p yed yed hs0.wf (hm0.mono hs0) _ fun h8 b3 b4 s8 e8 f8=>?_
    have s18:=hs.trans s8
    simp(disch:=omega)only[go_sem,t1,t2,t3,t4,t10,t11,t12,t13,t14,t16,gm,s18.cells g1,hcs2,s8.cells hcs2,hn02 yed,encI,ep,Ze,VX,tab_zero]
    have hq3:=aP'.mono s8
    have e8':=s8.get e'
    have f8':=s8.get f'
    have w8:=s8.wf
    have n3:=w8 _ _ e8
    have n4:=w8 _ _ f8
    have n5:=w8 _ _ e8'
    have n6:=w8 _ _ f8'
    have hpl':∀q∈ps.take j,0≤q∧q<m.lots.length:=fun q hq=>by have:=hpsm q (List.mem_of_mem_take hq);omega
    have hpp:0≤(p:Int)∧(p:Int)<m.lots.length:=⟨by omega,by omega⟩
    have QA:=sK_quads (kind:=kind) g hag hpl'
    have QB:=sK_quad (kind:=kind) g hag hpp.1 hpp.2
    have QC:=sN_quads (kind:=kind) g hag hpl'
    have QD:=sN_quad (kind:=kind) g hag hpp.1 hpp.2
    refine Zi (M+1) (fun n s=>∃tm h'',s=⟨tm,h'',[]⟩∧h8.Sub h''∧h8.next+1<h''.next∧h''.get h8.next=some (.bk (tab (upI (TLs m kind (ps.take (j+1))) n) (M+1)))∧h''.get (h8.next+1)=some (.bk (tab (upI (TGs m kind (ps.take (j+1))) n) (M+1)))∧
      tm.E 1=.ii (lot:Int)∧tm.E 2=.ii kind∧tm.E 3=.ii (M:Int)∧tm.E 4=.ptr h.next 0∧tm.E 10=.ii (ownB m Zj (lot:Int)).1∧tm.E 11=.ii (ownB m Zj (lot:Int)).2∧
      tm.E 12=.sl bl 0 (M+1) (.fix (M+1))∧tm.E 13=.sl bg 0 (M+1) (.fix (M+1))∧tm.E 14=.sl b2 o2 ps.length c2∧tm.E 16=.ii (j:Int)∧tm.E 17=.sl b3 0 (M+1) (.fix (M+1))∧tm.E 18=.sl b4 0 (M+1) (.fix (M+1))∧
      tm.E 19=.sl h8.next 0 (M+1) (.fix (M+1))∧tm.E 20=.sl (h8.next+1) 0 (M+1) (.fix (M+1))∧tm.E 21=.ii (n:Int))
     ?_ ?_ (i:=0) (Nat.zero_le _) ⟨_,_,rfl,yea,by simp only[H.next_add];omega,by rw[←upI_zero];simp -implicitDefEqProofs(disch:=first|omega|simp only[nZ]<;>omega|fail)only[go_sem],by rw[←upI_zero];simp -implicitDefEqProofs(disch:=first|omega|simp only[nZ]<;>omega|fail)only[go_sem],yec,yei,yee,yef,yeh,yeg,yej,yek,yel,yen,yeb,yeb,yeb,yeb,yeb⟩
    ·clear t1 t2 t3 t4 t10 t11 t12 t13 t14 t16
     rintro n s hn ⟨tm,h'',rfl,hs2,lt2,x2,y2,t1,t2,t3,t4,t10,t11,t12,t13,t14,t16,t17,t18,t19,t20,t21⟩
     have hn':(n:Int)≤(M:Int):=by omega
     simp(disch:=omega)only[go_sem,t1,t2,t3,t4,t10,t11,t12,t13,t14,t16,t17,t18,t19,t20,t21,hn',Zz (Zb n) hn,Nat.mul_one,x2,y2,tab_st hn]
     refine Zi (n+1) (fun k s=>∃tm h'' x y,s=⟨tm,h'',[]⟩∧h8.Sub h''∧h8.next+1<h''.next∧h''.get h8.next=some (.bk (tab (VL (upI (TLs m kind (ps.take (j+1))) n) (n:Int) x) (M+1)))∧h''.get (h8.next+1)=some (.bk (tab (VL (upI (TGs m kind (ps.take (j+1))) n) (n:Int) y) (M+1)))∧
       Yg (fun j'=>TLs m kind (ps.take j) ((n:Int)-j')+TL m kind (p:Int) j') (okC m kind (ps.take j) (p:Int) (n:Int)) (k:Int) x∧Ys (fun j'=>TGs m kind (ps.take j) ((n:Int)-j')+TG m kind (p:Int) j') (okC m kind (ps.take j) (p:Int) (n:Int)) (k:Int) y∧
       tm.E 1=.ii (lot:Int)∧tm.E 2=.ii kind∧tm.E 3=.ii (M:Int)∧tm.E 4=.ptr h.next 0∧tm.E 10=.ii (ownB m Zj (lot:Int)).1∧tm.E 11=.ii (ownB m Zj (lot:Int)).2∧
       tm.E 12=.sl bl 0 (M+1) (.fix (M+1))∧tm.E 13=.sl bg 0 (M+1) (.fix (M+1))∧tm.E 14=.sl b2 o2 ps.length c2∧tm.E 16=.ii (j:Int)∧tm.E 17=.sl b3 0 (M+1) (.fix (M+1))∧tm.E 18=.sl b4 0 (M+1) (.fix (M+1))∧
       tm.E 19=.sl h8.next 0 (M+1) (.fix (M+1))∧tm.E 20=.sl (h8.next+1) 0 (M+1) (.fix (M+1))∧tm.E 21=.ii (n:Int)∧tm.E 22=.ii (k:Int))
      ?_ ?_ (i:=0) (Nat.zero_le _) ⟨_,_, -1, -1,rfl,yea,by simp only[H.next_set];exact lt2,by simp(disch:=omega)only[go_sem],by simp(disch:=omega)only[go_sem],Yg.zero _ _,Ys.zero _ _,yec,yei,yee,yef,yeh,yeg,yej,yek,yel,yen,yep,yeq,yer,yes,yeu,yeb⟩
     ·clear t1 t2 t3 t4 t10 t11 t12 t13 t14 t16 t17 t18 t19 t20 t21 hs2 lt2 x2 y2
      rintro k s hk2 ⟨tm,h'',x,y,rfl,hs2,lt2,x2,y2,mn,mx,t1,t2,t3,t4,t10,t11,t12,t13,t14,t16,t17,t18,t19,t20,t21,t22⟩
      have hk':(k:Int)≤(n:Int):=by omega
      have hkM:k<M+1:=by omega
      have hdM:n-k<M+1:=by omega
      have ee:(n:Int)-(k:Int)=((n-k:Nat):Int):=by omega
      have cA:=Za (hs2.get e8')
      have cB:=Za (hs2.get e8)
      have cC:=Za (hs2.get f8')
      have cD:=Za (hs2.get f8)
      have bA: -1≤TLs m kind (ps.take j) ((n-k:Nat):Int)∧TLs m kind (ps.take j) ((n-k:Nat):Int)≤((n-k:Nat):Int):=QA.bdL yed
      have bB: -1≤TL m kind (p:Int) (k:Int)∧TL m kind (p:Int) (k:Int)≤(k:Int):=QB.bdL yed
      have bC: -1≤TGs m kind (ps.take j) ((n-k:Nat):Int)∧TGs m kind (ps.take j) ((n-k:Nat):Int)≤((n-k:Nat):Int):=QC.bdG yed
      have bD: -1≤TG m kind (p:Int) (k:Int)∧TG m kind (p:Int) (k:Int)≤(k:Int):=QD.bdG yed
      by_cases hA:TLs m kind (ps.take j) ((n-k:Nat):Int)<0
      ·have hno:¬okC m kind (ps.take j) (p:Int) (n:Int) (k:Int):=fun h=>by unfold okC at h;rw[ee] at h;omega
       simp(disch:=omega)only[go_sem,t1,t2,t3,t4,t10,t11,t12,t13,t14,t16,t17,t18,t19,t20,t21,t22,hk',ZD,ee,Zz (Zb k) hkM,Zz (Zb (n-k)) hdM,Nat.mul_one,cA,cB,Xm hkM,Xm hdM,hA,Ze]
       exact⟨_,_,x,y,rfl,hs2,lt2,x2,y2,mn.skip hno,mx.skip hno,yec,yei,yee,yef,yeh,yeg,yej,yek,yel,yen,yep,yeq,yer,yes,yeu,yeb⟩
      by_cases hB:TL m kind (p:Int) (k:Int)<0
      ·have hno:¬okC m kind (ps.take j) (p:Int) (n:Int) (k:Int):=fun h=>by unfold okC at h;omega
       simp(disch:=omega)only[go_sem,t1,t2,t3,t4,t10,t11,t12,t13,t14,t16,t17,t18,t19,t20,t21,t22,hk',ZD,ee,Zz (Zb k) hkM,Zz (Zb (n-k)) hdM,Nat.mul_one,cA,cB,Xm hkM,Xm hdM,hA,hB,Ze]
       exact⟨_,_,x,y,rfl,hs2,lt2,x2,y2,mn.skip hno,mx.skip hno,yec,yei,yee,yef,yeh,yeg,yej,yek,yel,yen,yep,yeq,yer,yes,yeu,yeb⟩
      have hok:okC m kind (ps.take j) (p:Int) (n:Int) (k:Int):=by unfold okC;rw[ee];omega
      have hoG:=okC_G g hag hpl' hpp hok
      have k0:(0:Int)≤(k:Int):=by omega
      have hv1:0≤TLs m kind (ps.take j) ((n:Int)-(k:Int))+TL m kind (p:Int) (k:Int):=by rw[ee];omega
      have hv2:0≤TGs m kind (ps.take j) ((n:Int)-(k:Int))+TG m kind (p:Int) (k:Int):=by omega
      have mx':Ys (fun j'=>TGs m kind (ps.take j) ((n:Int)-j')+TG m kind (p:Int) j') (okC m kind (ps.take j) (p:Int) (n:Int)) ((k:Int)+1) (max y (TGs m kind (ps.take j) ((n-k:Nat):Int)+TG m kind (p:Int) (k:Int))):=by rw[←ee];exact mx.take k0 hok hv2
      have mn':(x<0∨TLs m kind (ps.take j) ((n-k:Nat):Int)+TL m kind (p:Int) (k:Int)<x)→Yg (fun j'=>TLs m kind (ps.take j) ((n:Int)-j')+TL m kind (p:Int) j') (okC m kind (ps.take j) (p:Int) (n:Int)) ((k:Int)+1) (TLs m kind (ps.take j) ((n-k:Nat):Int)+TL m kind (p:Int) (k:Int)):=by
       rw[←ee];exact fun hx=>mn.take k0 hok hv1 hx
      have cx:=Za x2
      have cy:=Za y2
      by_cases hx:x<0
      ·simp(disch:=omega)only[go_sem,t1,t2,t3,t4,t10,t11,t12,t13,t14,t16,t17,t18,t19,t20,t21,t22,hk',ZD,ee,Zz (Zb k) hkM,Zz (Zb n) hn,Zz (Zb (n-k)) hdM,Nat.mul_one,cA,cB,cC,cD,cx,cy,x2,y2,Xm hkM,Xm hdM,Xm hn,tab_st hn,fset_at,hA,hB,hx,Ze]
       exact⟨_,_,_,_,rfl,yea,by simp only[H.next_set];exact lt2,by simp(disch:=omega)only[go_sem,YQ],by simp(disch:=omega)only[go_sem,YQ],mn' (.inl hx),mx',yec,yei,yee,yef,yeh,yeg,yej,yek,yel,yen,yep,yeq,yer,yes,yeu,yeb⟩
      by_cases hv:TLs m kind (ps.take j) ((n-k:Nat):Int)+TL m kind (p:Int) (k:Int)<x
      ·simp(disch:=omega)only[go_sem,t1,t2,t3,t4,t10,t11,t12,t13,t14,t16,t17,t18,t19,t20,t21,t22,hk',ZD,ee,Zz (Zb k) hkM,Zz (Zb n) hn,Zz (Zb (n-k)) hdM,Nat.mul_one,cA,cB,cC,cD,cx,cy,x2,y2,Xm hkM,Xm hdM,Xm hn,tab_st hn,fset_at,hA,hB,hx,hv,Ze]
       exact⟨_,_,_,_,rfl,yea,by simp only[H.next_set];exact lt2,by simp(disch:=omega)only[go_sem,YQ],by simp(disch:=omega)only[go_sem,YQ],mn' (.inr hv),mx',yec,yei,yee,yef,yeh,yeg,yej,yek,yel,yen,yep,yeq,yer,yes,yeu,yeb⟩
      ·have hl:¬(x<0∨TLs m kind (ps.take j) ((n:Int)-(k:Int))+TL m kind (p:Int) (k:Int)<x):=by rw[ee];omega
       simp(disch:=omega)only[go_sem,t1,t2,t3,t4,t10,t11,t12,t13,t14,t16,t17,t18,t19,t20,t21,t22,hk',ZD,ee,Zz (Zb k) hkM,Zz (Zb n) hn,Zz (Zb (n-k)) hdM,Nat.mul_one,cA,cB,cC,cD,cx,cy,x2,y2,Xm hkM,Xm hdM,Xm hn,tab_st hn,fset_at,hA,hB,hx,hv,Ze]
       exact⟨_,_,x,_,rfl,yea,by simp only[H.next_set];exact lt2,by simp(disch:=omega)only[go_sem];exact x2,by simp(disch:=omega)only[go_sem,YQ],mn.leave hl,mx',yec,yei,yee,yef,yeh,yeg,yej,yek,yel,yen,yep,yeq,yer,yes,yeu,yeb⟩
     ·clear t1 t2 t3 t4 t10 t11 t12 t13 t14 t16 t17 t18 t19 t20 t21 hs2 lt2 x2 y2
      rintro s ⟨tm,h'',x,y,rfl,hs2,lt2,x2,y2,mn,mx,t1,t2,t3,t4,t10,t11,t12,t13,t14,t16,t17,t18,t19,t20,t21,t22⟩
      have hn1:¬((n+1:Nat):Int)≤(n:Int):=by omega
      have ex:x=TLs m kind (ps.take (j+1)) (n:Int):=by rw[hpt];exact conv_L g hag hpl' hpp mn
      have ey:y=TGs m kind (ps.take (j+1)) (n:Int):=by rw[hpt];exact conv_G g hag hpl' hpp mx
      rw[WA _ _ ex] at x2
      rw[WA _ _ ey] at y2
      simp(disch:=omega)only[go_sem,t1,t2,t3,t4,t10,t11,t12,t13,t14,t16,t17,t18,t19,t20,t21,t22,hn1,Ze]
      exact⟨_,_,rfl,hs2,lt2,x2,y2,yec,yei,yee,yef,yeh,yeg,yej,yek,yel,yen,yep,yeq,yer,yes,yeb⟩
    ·clear t1 t2 t3 t4 t10 t11 t12 t13 t14 t16
     rintro s ⟨tm,h'',rfl,hs2,lt2,x2,y2,t1,t2,t3,t4,t10,t11,t12,t13,t14,t16,t17,t18,t19,t20,t21⟩
     have hn1:¬((M+1:Nat):Int)≤(M:Int):=by omega
     rw[upI_all] at x2 y2
     have l18:=s18.next
     simp(disch:=omega)only[go_sem,t1,t2,t3,t4,t10,t11,t12,t13,t14,t16,t17,t18,t19,t20,t21,hn1,Ze]
     exact⟨_,_,h8.next,h8.next+1,rfl,s18.trans hs2,hq3.mono hs2,by omega,by omega,by omega,by rw[cL];exact x2,by rw[cG];exact y2,yec,yei,yee,yef,yeh,yeg,yeb,yeb,yel,yeb⟩
   ·clear hs aP' nl ng nlg e' f' t1 t2 t3 t4 t10 t11 t12 t13 t14 e6 f6 e5 f5 kp1 kp2 z own s13 s34 s14 s15 s56 s16 aC l4 l5 l6 hP gm6
    rintro s ⟨tm,h',bl,bg,rfl,hs,aP',nl,ng,nlg,e',f',t1,t2,t3,t4,t10,t11,t12,t13,t14,t16⟩
    have hL:tab (cutI (ownB m Zj (lot:Int)).1 (ownB m Zj (lot:Int)).2 (contL m kind (lot:Int) ps.length) (M+1)) (M+1)=tab (TL m kind (lot:Int)) (M+1):=Wt fun n n0 n1=>by
     unfold cutI contL
     rw[if_pos yed]
     by_cases hpe:ps=[]
     ·rw[←leaf_L g hlot yeB n0,eps,if_pos hpe]
      unfold ini;rw[eps,if_pos hpe,kd]
     ·rw[←node_L g hag hl0 hl1 yeB n0,eps,if_neg hpe,List.take_length]
    have hG:tab (cutI (ownB m Zj (lot:Int)).1 (ownB m Zj (lot:Int)).2 (contG m kind (lot:Int) ps.length) (M+1)) (M+1)=tab (TG m kind (lot:Int)) (M+1):=Wt fun n n0 n1=>by
     unfold cutI contG
     rw[if_pos yed]
     by_cases hpe:ps=[]
     ·rw[←leaf_G g hlot yeB n0,eps,if_pos hpe]
      unfold ini;rw[eps,if_pos hpe,kd]
     ·rw[←node_G g hag hl0 hl1 yeB n0,eps,if_neg hpe,List.take_length]
    have hne:¬(ps.length:Int)<(ps.length:Int):=Int.lt_irrefl _
    have hs0:=s1.trans hs
    have b0:=hs0.wf _ _ e'
    have b1:=hs0.wf _ _ f'
    simp(disch:=omega)only[go_sem,t1,t2,t3,t4,t10,t11,t12,t13,t14,t16,hlenP,hne]
    refine Zi (M+1) (fun n s=>∃tm h',s=⟨tm,h',[]⟩∧h.Sub h'∧bl<h'.next∧bg<h'.next∧h'.get bl=some (.bk (tab (cutI (ownB m Zj (lot:Int)).1 (ownB m Zj (lot:Int)).2 (contL m kind (lot:Int) ps.length) n) (M+1)))∧h'.get bg=some (.bk (tab (cutI (ownB m Zj (lot:Int)).1 (ownB m Zj (lot:Int)).2 (contG m kind (lot:Int) ps.length) n) (M+1)))∧
      tm.E 3=.ii (M:Int)∧tm.E 10=.ii (ownB m Zj (lot:Int)).1∧tm.E 11=.ii (ownB m Zj (lot:Int)).2∧
      tm.E 12=.sl bl 0 (M+1) (.fix (M+1))∧tm.E 13=.sl bg 0 (M+1) (.fix (M+1))∧tm.E 23=.ii (n:Int))
     ?_ ?_ (i:=0) (Nat.zero_le _) ⟨_,_,rfl,hs0,b0,b1,by rw[cutI_zero];exact e',by rw[cutI_zero];exact f',yee,yeh,yeg,yej,yek,yeb⟩
    ·clear t1 t2 t3 t4 t10 t11 t12 t13 t14 t16 e' f' b0 b1 hs0 hs
     rintro n s hn ⟨tm,h',rfl,hs,b0,b1,e',f',t3,t10,t11,t12,t13,t23⟩
     have hn':(n:Int)≤(M:Int):=by omega
     by_cases ho:(ownB m Zj (lot:Int)).1≤(n:Int)∧(n:Int)≤(ownB m Zj (lot:Int)).2
     ·have hib:inB (n:Int) (ownB m Zj (lot:Int)).1 (ownB m Zj (lot:Int)).2=true:=by unfold inB;exact decide_eq_true ho
      rw[cutI_in _ _ ho] at e' f'
      simp(disch:=omega)only[go_sem,t3,t10,t11,t12,t13,t23,hn',YC,hib,Ze]
      exact⟨_,_,rfl,hs,b0,b1,e',f',yee,yeh,yeg,yej,yek,yeb⟩
     ·have hib:inB (n:Int) (ownB m Zj (lot:Int)).1 (ownB m Zj (lot:Int)).2=false:=by unfold inB;exact decide_eq_false ho
      simp(disch:=omega)only[go_sem,t3,t10,t11,t12,t13,t23,hn',YC,hib,Ze,Zz (Zb n) hn,Nat.mul_one,e',f',tab_st hn]
      exact⟨_,_,rfl,yea,by simp only[H.next_set];exact b0,by simp only[H.next_set];exact b1,by rw[←cutI_off _ _ ho];simp(disch:=omega)only[go_sem],by rw[←cutI_off _ _ ho];simp(disch:=omega)only[go_sem],yee,yeh,yeg,yej,yek,yeb⟩
    ·clear t1 t2 t3 t4 t10 t11 t12 t13 t14 t16 e' f' b0 b1 hs0 hs
     rintro s ⟨tm,h',rfl,hs,b0,b1,e',f',t3,t10,t11,t12,t13,t23⟩
     have hn1:¬((M+1:Nat):Int)≤(M:Int):=by omega
     rw[hL] at e'
     rw[hG] at f'
     simp(disch:=omega)only[go_sem,t3,t10,t11,t12,t13,t23,hn1]
     exact q _ _ _ hs e' f'
end Go.Ab.Tryz
