/- The reference's Most. slices.Compact, rising, Enough. Witness, Needed. Tellers. Plain. The reference's searches: sets, members, first, Listed. The reference's Most. Whether lists are a sorting, as the reference finds it. Tables of integers as blocks; rows that are stored. Sorted. Rows of integers: copies, comparison; which tables and lists are too great. Into how few sets, as the reference finds it. Plain. The reference's Sort. -/
import Derived.Test.YtkjbamlcgojkmaaGreatG5
import Derived.Test.YtkjbamlcgojkmaaGreatG6
set_option linter.unusedSimpArgs false
set_option linter.unusedVariables false
theorem yfa {p:Prop}(h:p:=by repeat(first|assumption|exact H.Sub.refl (by assumption)|refine H.Sub.add ?_ _|refine H.Sub.set ?_ (by first|omega|(simp only[H.next_add,H.next_set,H.next_del]<;>omega)) (by first|omega|(simp only[H.next_add,H.next_set,H.next_del]<;>omega)) (by assumption) _)):p:=h
theorem yfb {p:Prop}(h:p:=by omega):p:=h
theorem yfc {p:Prop}(h:p:=by simp<;>rfl):p:=h
theorem yfd {p:Prop}(h:p:=by simp[t1]<;>rfl):p:=h
theorem yfe {p:Prop}(h:p:=by simp):p:=h
theorem yff {p:Prop}(h:p:=by simp[t3]<;>rfl):p:=h
theorem yfg {p:Prop}(h:p:=by simp[t7]<;>rfl):p:=h
theorem yfh {p:Prop}(h:p:=by simp[t8]<;>rfl):p:=h
theorem yfi {p:Prop}(h:p:=by simp only[List.length_map];omega):p:=h
theorem yfj {p:Prop}(h:p:=by simp[t2]<;>rfl):p:=h
theorem yfk {p:Prop}(h:p:=by simp[t9]<;>rfl):p:=h
theorem yfl {p:Prop}(h:p:=by simp[t6]):p:=h
theorem yfm {p:Prop}(h:p:=by simp[t2]):p:=h
theorem yfn {p:Prop}(h:p:=by simp[t1]):p:=h
theorem yfo {p:Prop}(h:p:=by simp[t8]):p:=h
theorem yfp {p:Prop}(h:p:=by simp[t5]):p:=h
theorem yfq {p:Prop}(h:p:=by simp[t4]<;>rfl):p:=h
theorem yfr {p:Prop}(h:p:=by simp[t7]):p:=h
theorem yfs {p:Prop}(h:p:=by simp[t5]<;>rfl):p:=h
theorem yft {p:Prop}(h:p:=by simp[t9]):p:=h
theorem yfu {p:Prop}(h:p:=by simp[t6]<;>rfl):p:=h
theorem yfv {p:Prop}(h:p:=by simp[t4]):p:=h
theorem yfw {p:Prop}(h:p:=by simp[t11]<;>rfl):p:=h
theorem yfx {p:Prop}(h:p:=by simp[t12]<;>rfl):p:=h
theorem yfy {p:Prop}(h:p:=by simp[t0]):p:=h
theorem yfz {p:Prop}(h:p:=by simp[t10]<;>rfl):p:=h
namespace Go.Ab
theorem nth_iv {L:List Int}{i:Nat}(h:i<L.length):nth i (L.map iv)=some (.ii L[i]):=by
 rw[nth_eq,List.getElem?_map,List.getElem?_eq_getElem h];rfl
theorem put_iv {L:List Int}{i:Nat}(h:i<L.length)(v:Int):Z0 i [.ii v] (L.map iv)=some ((L.set i v).map iv):=by
 have e:L=L.take i++L[i]::L.drop (i+1):=by rw[←List.drop_eq_getElem_cons h,List.take_append_drop]
 have:=Xy (pre:=(L.take i).map iv) (new:=[iv v]) (old:=[iv L[i]]) (rest:=(L.drop (i+1)).map iv) rfl
 rw[List.length_map,List.length_take,Nat.min_eq_left yfb] at this
 have e2:L.map iv=(L.take i).map iv++[iv L[i]]++(L.drop (i+1)).map iv:=by
  rw[show[iv L[i]]=[L[i]].map iv from rfl,←List.map_append,←List.map_append,List.append_assoc]
  exact congrArg (List.map iv) e
 have e3:(L.set i v).map iv=(L.take i).map iv++[iv v]++(L.drop (i+1)).map iv:=by
  rw[List.set_eq_take_append_cons_drop,if_pos h];simp
 rw[e2,e3];exact this
theorem slcFrom_gr {h:H}{b k:Nat}{L:List Int}(hb:h.get b=some (.cells (.gr 1) (L.map iv)))(h0:0<L.length)(hk:k≤L.length):XU h 1 (.sl b 0 L.length (.slk 0 0)) (.ii (k:Int))=some (.sl b k (L.length-k) (.slk k 0)):=by
 have hi:∀tm:T V,(Opd.c (.ii (k:Int))).ev tm=.ii (k:Int):=fun _=>rfl
 have e1:Nat.ble k L.length=true:=by simp;exact hk
 have e2:Nat.ble L.length L.length=true:=by simp
 have e4:Nat.blt 0 (L.length+L.length)=true:=by rw[Nat.blt_eq];omega
 have e5:Nat.beq 1 1=true:=rfl
 have e6:Nat.beq 0 (0*1)=true:=rfl
 have e7:Nat.ble L.length (L.map iv).length=true:=by simp
 have e8:Yj h b 0 1=L.length:=by simp[Yj,hb,ZE]
 simp only[XU,YD,W5,hb,ZE,e5,e6,e7,Zy,e8,XI,XA,hi,Xc,bnds,e1,e2,subS,e4,Nat.mul_one,Nat.zero_add]
namespace Tryz
open Go.Ab.Silk (Inc ZI)
def Adj (l:List Int):Prop:=∀i (h:i+1<l.length),l[i]≠l[i+1]
set_option maxHeartbeats 2000000 in
theorem compact_ev {h:H}{b:Nat}{l:List Int}(hw:h.wf)(hb:h.get b=some (.cells (.gr 1) (l.map iv)))(h2:2≤l.length)(hl:l.length≤1000)(Q:V→H→Prop)
  (q:∀y h' (m:Nat),q_len y=some (.ii (m:Int))→(Adj l→m=l.length)→(¬Adj l→m<l.length)→Zi (fun c=>c=b) h h'→h'.wf→Q y h'):Ev fnG Zm (.fn 133 [] []) [.sl b 0 l.length (.slk 0 0)] h Q:=by
 refine Zd (fd:=c133) rfl rfl rfl ?_
 have hn2:¬(l.length:Int)<2:=by omega
 have hiad:∀k:Nat,k<l.length→ZS 1 (.sl b 0 l.length (.slk 0 0)) (.ii (k:Int))=some (.ptr b k):=fun k hk=>by
  rw[ZZ (Ze k) hk,Nat.mul_one,Nat.zero_add]
 simp(disch:=omega)only[c133,go_sem,hn2]
 refine Wi (fun kk s=>∃tm i,s=⟨tm,h,[]⟩∧kk=l.length-i∧1≤i∧i≤l.length∧(∀j (hj:j+1<l.length),j+1<i→l[j]≠l[j+1])∧tm.E 0=.sl b 0 l.length (.slk 0 0)∧tm.E 3=.ii (i:Int)) ?_ (l.length-1) _ ⟨_,1,rfl,rfl,Nat.le_refl _,by omega,fun j hj h0=>by omega,yfe,yfe⟩
 rintro kk s ⟨tm,i,rfl,hkk,i1,i2,hadj,t0,t3⟩
 by_cases hi:i<l.length
 ·have hi':(i:Int)<(l.length:Int):=by omega
  have e1:(i:Int)-1=((i-1:Nat):Int):=by omega
  have n1:=nth_iv hi
  have n2:=nth_iv (L:=l) (i:=i-1) yfb
  by_cases heq:l[i]=l[i-1]
  ·have hna:¬Adj l:=fun ha=>by
    have:=ha (i-1) yfb
    simp only[show i-1+1=i by omega] at this
    exact this heq.symm
   have deq:decide (l[i]=l[i-1])=true:=decide_eq_true heq
   have hfrom:=slcFrom_gr hb yfb (k:=i) yfb
   have lb:=hw _ _ hb
   simp(disch:=omega)only[go_sem,t0,t3,hi',ZC,e1,hiad i hi,hiad (i-1) yfb,Zb hb,n1,n2,deq,WB,hfrom]
   refine W.mono (Q:=fun x1 s=>x1=.ext 2∧∃(tm:Go.Ab.T V) (hh:H) (L:List Int) (m:Nat),s=⟨tm,hh,[]⟩∧Zi (fun c=>c=b) h hh∧hh.wf∧hh.get b=some (.cells (.gr 1) (L.map iv))∧L.length=l.length∧m<l.length∧tm.E 0=.sl b 0 l.length (.slk 0 0)∧tm.E 3=.ii (m:Int))
    (Wi (fun kk s=>∃(tm:Go.Ab.T V) (hh:H) (L:List Int) (m k2:Nat),s=⟨tm,hh,[]⟩∧kk=l.length-i-k2∧1≤k2∧i+k2≤l.length∧m+1≤i+k2∧Zi (fun c=>c=b) h hh∧hh.wf∧hh.get b=some (.cells (.gr 1) (L.map iv))∧L.length=l.length∧
     tm.E 0=.sl b 0 l.length (.slk 0 0)∧tm.E 3=.ii (m:Int)∧tm.E 4=.sl b i (l.length-i) (.slk i 0)∧tm.E 5=.ii (k2:Int)) ?_ (l.length-i-1) _
     ⟨_,_,l,i,1,rfl,rfl,Nat.le_refl _,by omega,by omega,Zi.refl _ _,hw,hb,rfl,yfy,(by simp[t3]),yfe,yfe⟩) fun x1 s hx1=>?_
   ·rintro kk s ⟨tm,hh,L,m,k2,rfl,hkk,k1,k3,k4,kp,wh,gL,hL,t0,t3,t4,t5⟩
    by_cases hk:k2<l.length-i
    ·have hk':(k2:Int)<((l.length-i:Nat):Int):=by omega
     have e2:(k2:Int)-1=((k2-1:Nat):Int):=by omega
     have a1:ZS 1 (.sl b i (l.length-i) (.slk i 0)) (.ii (k2:Int))=some (.ptr b (i+k2)):=by rw[ZZ (Ze k2) hk,Nat.mul_one]
     have a2:ZS 1 (.sl b i (l.length-i) (.slk i 0)) (.ii ((k2-1:Nat):Int))=some (.ptr b (i+(k2-1))):=by rw[ZZ (Ze (k2-1)) yfb,Nat.mul_one]
     have a3:=hiad m yfb
     have v1:=nth_iv (L:=L) (i:=i+k2) yfb
     have v2:=nth_iv (L:=L) (i:=i+(k2-1)) yfb
     cases hd:decide (L[i+k2]' yfb≠L[i+(k2-1)]' yfb) with
     |false=>
      simp(disch:=omega)only[go_sem,t0,t3,t4,t5,hk',ZC,e2,a1,a2,Zb gL,v1,v2,hd,Zc]
      exact⟨_,by omega,_,_,L,m,k2+1,rfl,rfl,by omega,by omega,by omega,kp,wh,gL,hL,yfy,(by simp[t3]),yfv,yfe⟩
     |true=>
      have hp:=put_iv (L:=L) (i:=m) yfb (L[i+k2]' yfb)
      simp(disch:=omega)only[go_sem,t0,t3,t4,t5,hk',ZC,e2,a1,a2,a3,Zb gL,gL,v1,v2,hd,hp,Zc]
      exact⟨_,by omega,_,_,_,m+1,k2+1,rfl,rfl,by omega,by omega,by omega,(kp.trans (Zi.set hh b _)).mono fun c h=>h.elim id id,H.wf_set wh _ gL,get_set_same rfl,by rw[List.length_set];exact hL,yfy,yfe,yfv,yfe⟩
    ·have hk':¬(k2:Int)<((l.length-i:Nat):Int):=by omega
     simp(disch:=omega)only[go_sem,t0,t3,t4,t5,hk']
     exact⟨_,_,L,m,rfl,kp,wh,gL,hL,by omega,yfy,(by simp[t3])⟩
   clear t0 t3
   obtain⟨rfl,tm,hh,L,m,rfl,kp,wh,gL,hL,hm,t0,t3⟩:=hx1
   have f1:=slcFrom_gr gL yfb (k:=m) yfb
   rw[hL] at f1
   obtain⟨n,hn⟩:∃n,l.length-m=n+1:=⟨l.length-m-1,by omega⟩
   have hrep:∀n,ZH n [V.ii 0]=(List.replicate n (0:Int)).map iv:=fun n=>by
    induction n with
    |zero=>rfl
    |succ n ih=>simp only[ZH,ZY,ih,List.replicate_succ,List.map_cons];rfl
   have hp:Z0 m ((List.replicate (n+1) (0:Int)).map iv) (L.map iv)=some ((L.take m++List.replicate (n+1) 0).map iv):=by
    have:=Xy (pre:=(L.take m).map iv) (new:=(List.replicate (n+1) (0:Int)).map iv) (old:=(L.drop m).map iv) (rest:=[]) (by simp;omega)
    rw[List.length_map,List.length_take,Nat.min_eq_left yfb,List.append_nil,List.append_nil,←List.map_append,List.take_append_drop,←List.map_append] at this
    exact this
   have ho:ZF ((List.replicate (n+1) (0:Int)).map iv)=true:=by
    rw[Xr]
    intro v hv
    obtain⟨_,_,rfl⟩:=List.mem_map.1 hv;rfl
   have hclr:e_clr hh [V.ii 0] (.sl b m (l.length-m) (.slk m 0))=some (.und,hh.set b (.cells (.gr 1) ((L.take m++List.replicate (n+1) 0).map iv))):=by
    rw[e_clr_sl,hn,hrep]
    rw[List.replicate_succ,List.map_cons] at hp ho⊢
    rw[H.put_gr ho gL hp,Z6]
   have wS:=H.wf_set wh (.cells (.gr 1) ((L.take m++List.replicate (n+1) 0).map iv)) gL
   have gS:(hh.set b (.cells (.gr 1) ((L.take m++List.replicate (n+1) 0).map iv))).get b=some (.cells (.gr 1) ((L.take m++List.replicate (n+1) 0).map iv)):=get_set_same rfl
   have ll:(L.take m++List.replicate (n+1) (0:Int)).length=l.length:=by simp;omega
   have lbS:b<(hh.set b (.cells (.gr 1) ((L.take m++List.replicate (n+1) 0).map iv))).next:=wS _ _ gS
   have ct:Yo (fun _=>True) (hh.set b (.cells (.gr 1) ((L.take m++List.replicate (n+1) 0).map iv))) (.sl b 0 l.length (.slk 0 0)) 1 ((L.take m++List.replicate (n+1) (0:Int)).map encI):=
    ⟨fun r hr=>by obtain⟨_,_,rfl⟩:=List.mem_map.1 hr;rfl,.inr (.inl ⟨b,[],0,by rw[List.length_map,ll],trivial,lbS,by rw[List.append_nil,map_flat];exact gS,by simp⟩)⟩
   obtain⟨y,hy1,hy2,hy3⟩:=ct.to (k:=m) yfb (by rw[List.length_map,ll];omega) (by rw[List.length_map,ll];omega)
   have ly:q_len y=some (.ii (m:Int)):=by
    have:=(hy2.sl (by rw[List.length_take,List.length_map,ll];omega)).len
    rw[this,List.length_take,List.length_map,ll,Nat.min_eq_left yfb]
   simp(disch:=omega)only[go_sem,t0,t3,WB,f1,WI_clr,hclr,q_slc_to,hy1]
   exact q y _ m ly (fun ha=>absurd ha hna) (fun _=>hm) ((kp.trans (Zi.set hh b _)).mono fun c h=>h.elim id id) wS
  ·have deq:decide (l[i]=l[i-1])=false:=decide_eq_false heq
   simp(disch:=omega)only[go_sem,t0,t3,hi',ZC,e1,hiad i hi,hiad (i-1) yfb,Zb hb,n1,n2,deq,Zc]
   exact⟨_,by omega,_,i+1,rfl,rfl,by omega,by omega,fun j hj h0=>by
    by_cases e:j+1=i
    ·subst e;exact fun h=>heq h.symm
    ·exact hadj j hj yfb,yfy,yfe⟩
 ·have hi':¬(i:Int)<(l.length:Int):=by omega
  simp(disch:=omega)only[go_sem,t0,t3,hi']
  exact q _ _ l.length rfl (fun _=>rfl) (fun hna=>absurd (fun j hj=>hadj j hj yfb) hna) (Zi.refl _ _) hw
theorem cloneGr_ev {h:H}{x:V}{l:List Int}(hw:h.wf)(hx:Zg h x 1 (l.map encI))(hl:l.length≤1000000)(h0:0<l.length)(Q:V→H→Prop)(q:∀b h',h.Sub h'→h.next≤b→h'.get b=some (.cells (.gr 1) (l.map iv))→Q (.sl b 0 l.length (.slk 0 0)) h'):Ev fnG Zm (.fn 134 [] []) [x] h Q:=by
 refine Zd (fd:=c134) rfl rfl rfl ?_
 rcases hx.2.2 with⟨rfl,e⟩|⟨b,o,c,cs,rfl,_⟩
 ·have:=congrArg List.length e;simp at this;rw[this] at h0;simp at h0
 ·simp(disch:=omega)only[c134,go_sem]
  have s1:h.Sub (h.add (.bk [])):=(H.Sub.refl hw).add _
  have hx1:=(hx.mono s1).elems
  rw[map_flat,List.length_map] at hx1
  rw[List.length_map]
  obtain⟨k,hk⟩:∃k,l.length=k+1:=⟨l.length-1,by omega⟩
  rw[Yy,hx1.1,hx1.2]
  simp only[YI]
  rw[hk,Xl yfb (elems_0 _ _ _ _ _) (by simp only[Nat.zero_add];omega) yfb,XD,ZN]
  simp(disch:=omega)only[go_sem]
  have:=q (h.next+1) ((h.add (.bk [])).add (.cells (.gr 1) (l.map iv))) (s1.add _) yfb (Zn (by rw[H.next_add]))
  rw[hk] at this
  simpa using this
theorem lt_iff {l:List Int}:l.Pairwise (· < ·)↔l.Pairwise (· ≤ ·)∧Adj l:=by
 constructor
 ·intro h
  exact⟨h.imp fun h=>by omega,fun i hi=>by
   have:=List.pairwise_iff_getElem.1 h i (i+1) yfb hi yfb;omega⟩
 ·rintro⟨h1,h2⟩
  refine adj_pw (R:=fun a b=>a<b) (fun a b c h1 h2=>Int.lt_trans h1 h2) fun i hi=>?_
  have:=List.pairwise_iff_getElem.1 h1 i (i+1) yfb hi yfb
  have:=h2 i hi
  show l[i]<l[i+1]
  omega
theorem rising_ev {h:H}{x:V}{l:List Int}(hw:h.wf)(hx:Zg h x 1 (l.map encI))(hl:l.length≤1000)(Q:V→H→Prop)(q:∀h',h.Sub h'→Q (.bool (decide (l.Pairwise (· < ·)))) h'):Ev fnG Zm (.fn 80 [] []) [x] h Q:=by
 have hlx:=hx.lenE
 refine Zd (fd:=c80) rfl rfl rfl ?_
 by_cases h1:l.Pairwise (· ≤ ·)
 ·have d1:decide (l.Pairwise (· ≤ ·))=true:=decide_eq_true h1
  by_cases h2:2≤l.length
  ·simp(disch:=omega)only[c80,go_sem,isSorted_ev hx,d1]
   refine cloneGr_ev hw hx yfb yfb _ fun b h3 s3 nb g3=>?_
   simp(disch:=omega)only[go_sem]
   refine compact_ev s3.wf g3 h2 hl _ fun y h4 m ly m1 m2 k4 w4=>?_
   have e:decide ((m:Int)=(l.length:Int))=decide (l.Pairwise (· < ·)):=by
    rw[decide_eq_decide,lt_iff]
    constructor
    ·intro he
     refine⟨h1,Classical.byContradiction fun hna=>?_⟩
     have:=m2 hna;omega
    ·rintro⟨_,ha⟩
     rw[m1 ha]
   simp(disch:=omega)only[go_sem,ly,hlx,e]
   exact q _ (k4.sub s3 hw (fun c hc=>by omega) w4)
  ·have hp:decide (l.Pairwise (· < ·))=true:=decide_eq_true (lt_iff.2 ⟨h1,fun i hi=>by omega⟩)
   rw[hp] at q
   simp(disch:=omega)only[c80,go_sem,isSorted_ev hx,d1]
   refine cloneInt_ev hw hx (by rw[List.length_map];omega) _ fun v h3 ov=>?_
   have lv:=(ov.sl yfi).lenE
   simp(disch:=omega)only[go_sem]
   refine Zd (fd:=c133) rfl rfl rfl ?_
   have hn2:(l.length:Int)<2:=by omega
   have ee:decide ((l.length:Int)=(l.length:Int))=true:=decide_eq_true rfl
   simp(disch:=omega)only[c133,go_sem,lv,hn2,hlx,ee]
   exact q _ ov.1
 ·have d1:decide (l.Pairwise (· ≤ ·))=false:=decide_eq_false h1
  have d2:decide (l.Pairwise (· < ·))=false:=decide_eq_false fun h=>h1 (lt_iff.1 h).1
  rw[d2] at q
  simp(disch:=omega)only[c80,go_sem,isSorted_ev hx,d1]
  exact q _ (H.Sub.refl hw)
def Vh (t:Tb)(p:Int):Bool:=decide (0≤p∧p<(t.eyes.length:Int))
theorem eye_ev {h:H}{E L P:V}{t:Tb}(hw:h.wf)(ht:ZK h (.agg [E,L,P]) t)(p:Int)(Q:V→H→Prop)(q:∀h',h.Sub h'→Q (.bool (Vh t p)) h'):Ev fnG Zm (.fn 92 [] []) [.agg [E,L,P],.ii p] h Q:=by
 obtain⟨E',L',P',e,aE,aL,aP⟩:=ht
 cases e
 have hlE:=aE.lenE
 have bE:=aE.boundE
 refine Zd (fd:=c92) rfl rfl rfl ?_
 have e:inB p 0 ((t.eyes.length:Int)-1)=Vh t p:=by unfold inB Vh;rw[Bool.eq_iff_iff];simp;omega
 simp(disch:=omega)only[c92,go_sem,hlE,ZC,in_ev,e]
 exact q _ (yfa)
def lstE (t:Tb)(l:List Int):Int:=if check t≠0 then check t else if l.all (Vh t)=false then 1 else if decide (l.Pairwise (· < ·))=false then 4 else 0
def enR (t:Tb)(l:List Int):Bool:=decide (lstE t l=0)&&Zw t l
theorem Enough_ev {h:H}{v x:V}{t:Tb}{l:List Int}(hw:h.wf)(ht:ZK h v t)(hx:Zg h x 1 (l.map encI))(hl:l.length≤1000)(Q:V→H→Prop)(q:∀h',h.Sub h'→Q (.tup [.bool (enR t l),.ii (lstE t l)]) h'):Ev fnG Zm (.fn 32 [] []) [v,x] h Q:=by
 have ht0:=ht
 obtain⟨E,L,P,rfl,aE,aL,aP⟩:=ht
 refine Zd (fd:=c32) rfl rfl rfl ?_
 have s1:h.Sub (h.add (.bk [E,L,P])):=yfa
 have g1:(h.add (.bk [E,L,P])).cells h.next=some [E,L,P]:=Zf rfl
 have bad:∀h',h.Sub h'→∀e:Int,e≠0→lstE t l=e→Q (.tup [.bool false,.ii e]) h':=fun h' s e he e1=>by
  have q':=q _ s
  have:enR t l=false:=by unfold enR;rw[e1,decide_eq_false he];rfl
  rw[this,e1] at q';exact q'
 simp(disch:=omega)only[c32,go_sem]
 refine ZP s1.wf (ht0.mono s1) _ (fun h5 s45 c=>?_) fun h5 d s15 c g hd=>?_
 ·simp(disch:=omega)only[go_sem,ne_eq,c,not_false_eq_true]
  exact bad _ (s1.trans s45) _ c (by unfold lstE;rw[if_pos c])
 have s5:=s1.trans s15
 simp(disch:=omega)only[go_sem,ne_eq,not_true_eq_false,s15.cells g1]
 refine(YE (p:=Vh t) s15.wf (hx.mono s5) fun a _=>fun h6 s6=>Ev.gen fun Q q=>Ev_bound (eye_ev s6.wf (ht0.mono (s5.trans s6)) a _ fun h7 s7=>q _ _ ⟨rfl,s7⟩)).mono fun u h8 hu=>?_
 obtain⟨rfl,s8⟩:=hu
 have s58:=s5.trans s8
 cases ha:l.all (Vh t)
 ·simp(disch:=omega)only[go_sem,Bool.not_false]
  exact bad _ s58 1 (by decide) (by unfold lstE;rw[if_neg (by simp[c]),if_pos ha])
 simp(disch:=omega)only[go_sem,Bool.not_true]
 refine rising_ev s8.wf (hx.mono s58) hl _ fun h9 s9=>?_
 have s59:=s58.trans s9
 cases hr:decide (l.Pairwise (· < ·))
 ·simp(disch:=omega)only[go_sem,Bool.not_false]
  exact bad _ s59 4 (by decide) (by unfold lstE;rw[if_neg (by simp[c]),if_neg (by simp[ha]),if_pos hr])
 have e0:lstE t l=0:=by unfold lstE;rw[if_neg (by simp[c]),if_neg (by simp[ha]),if_neg (by rw[hr];simp)]
 simp(disch:=omega)only[go_sem,Bool.not_true]
 refine enough_ev s9.wf (hd.mono (s8.trans s9)) g (hx.mono s59) _ fun hA sA=>?_
 have q':=q _ (s59.trans sA)
 have:enR t l=Zw t l:=by unfold enR;rw[e0];simp
 rw[this,e0] at q'
 simp(disch:=omega)only[go_sem]
 exact q'
end Tryz
end Go.Ab
namespace Go.Ab.Tryz
open Go.Ab.Silk (Inc ZI VK)
def witF (t:Tb)(e:Int)(a b:Nat):Option (Nat × Nat):=if a<b∧Yt t a b=[e] then some (a,b) else none
def wit (t:Tb)(e:Int):Option (Nat × Nat):=(List.range t.pieces.length).findSome? fun a=>(List.range t.pieces.length).findSome? fun b=>witF t e a b
def witV (r:Option (Nat × Nat)):V:=match r with|some p=>.tup [.ii (p.1:Int),.ii (p.2:Int),.bool true]|none=>.tup [.ii 0,.ii 0,.bool false]
theorem tellP_len {t:Tb}(g:Good t)(r p:Nat):(Yt t r p).length≤6:=by
 have:=g.eyes
 unfold Yt
 split
 ·exact Nat.le_trans (tellK_len _ _ _ _) yfb
 ·simp
set_option maxHeartbeats 1000000 in
theorem witness_ev {h:H}{d:Nat}{t:Tb}(hw:h.wf)(hd:Ws h d t)(g:Good t)(e:Int)(Q:V→H→Prop)(q:∀h',h.Sub h'→Q (witV (wit t e)) h'):Ev fnG Zm (.fn 96 [] []) [.ptr d 0,.ii e] h Q:=by
 obtain⟨E,L,P,gd,aE,aL,aP⟩:=id hd
 have gp:=g.pieces
 have hlP:=aP.lenE
 refine Zd (fd:=c96) rfl rfl rfl ?_
 simp(disch:=omega)only[c96,go_sem,Zb gd,hlP]
 refine Zh t.pieces.length (fun a s=>∃tm h',s=⟨tm,h',[]⟩∧h.Sub h'∧(∀a',a'<a→((List.range t.pieces.length).findSome? fun b=>witF t e a' b)=none)∧tm.E 0=.ptr d 0∧tm.E 1=.ii e∧tm.E 14=.ii (t.pieces.length:Int)∧tm.E 15=.ii (a:Int))
  ?_ ?_ (i:=0) (Nat.zero_le _) ⟨_,_,rfl,H.Sub.refl hw,fun a' h0=>by omega,yfe,yfe,yfe,yfe⟩
 ·rintro a s ha ⟨tm,h',rfl,hs,hno,t0,t1,t14,t15⟩
  have ha':(a:Int)<(t.pieces.length:Int):=by omega
  simp(disch:=omega)only[go_sem,t0,t1,t14,t15,ha',Zc]
  refine Wi (fun kk s=>∃tm h' b,s=⟨tm,h',[]⟩∧kk=t.pieces.length-b∧a<b∧b≤t.pieces.length∧h.Sub h'∧(∀b',b'<b→witF t e a b'=none)∧tm.E 0=.ptr d 0∧tm.E 1=.ii e∧tm.E 7=.ii (a:Int)∧tm.E 8=.ii (b:Int)∧tm.E 14=.ii (t.pieces.length:Int)∧tm.E 15=.ii (a:Int)) ?_ (t.pieces.length-(a+1)) _
   ⟨_,_,a+1,rfl,rfl,by omega,by omega,hs,fun b' hb'=>by unfold witF;rw[if_neg yfb],yfy,yfn,yfe,yfe,(by simp[t14]),(by simp[t15])⟩
  clear t0 t1 t14 t15 hs
  rintro kk s ⟨tm,h',b,rfl,hkk,hab,hbn,hs,hnb,t0,t1,t7,t8,t14,t15⟩
  have gd':=hs.cells (Zb gd)
  by_cases hb:b<t.pieces.length
  ·have hb':(b:Int)<(t.pieces.length:Int):=by omega
   simp(disch:=omega)only[go_sem,t0,t1,t7,t8,t14,t15,gd',hlP,hb']
   refine dtellers_ev hs.wf (hd.mono hs) g ha hb _ fun y h2 oy=>?_
   have ll:=tellP_len g a b
   have sB:=(H.Sub.refl oy.1.wf).add (.bk [.ii e])
   have s2:=hs.trans (oy.1.trans sB)
   simp(disch:=omega)only[go_sem,t0,t1,t7,t8,t14,t15]
   refine(Vb (l:=Yt t a b) (r:=[e]) (((oy.sl yfi).mono sB)) Ye).mono fun u h3 hu=>?_
   obtain⟨rfl,rfl⟩:=hu
   by_cases he:Yt t a b=[e]
   ·have hd1:decide (Yt t a b=[e])=true:=decide_eq_true he
    have hw1:witF t e a b=some (a,b):=by unfold witF;rw[if_pos ⟨hab,he⟩]
    have:wit t e=some (a,b):=YG (YG hw1 hnb _ hb) hno _ ha
    rw[this] at q
    rw[hd1]
    simp(disch:=omega)only[go_sem,t0,t1,t7,t8,t14,t15]
    exact q _ s2
   ·have hd1:decide (Yt t a b=[e])=false:=decide_eq_false he
    rw[hd1]
    simp(disch:=omega)only[go_sem,t0,t1,t7,t8,t14,t15,Zc]
    exact⟨_,by omega,_,_,b+1,rfl,rfl,by omega,by omega,s2,fun b' hb'=>by
     by_cases e1:b'=b
     ·subst e1;unfold witF;rw[if_neg (fun h=>he h.2)]
     ·exact hnb b' yfb,yfy,yfn,yfr,yfe,(by simp[t14]),(by simp[t15])⟩
  ·have hb':¬(b:Int)<(t.pieces.length:Int):=by omega
   simp(disch:=omega)only[go_sem,t0,t1,t7,t8,t14,t15,gd',hlP,hb',Zc]
   exact⟨_,_,rfl,hs,fun a' h0=>by
    by_cases e1:a'=a
    ·subst e1;exact Vr fun b' hb'=>hnb b' yfb
    ·exact hno a' yfb,yfy,yfn,(by simp[t14]),yfe⟩
 ·rintro s ⟨tm,h',rfl,hs,hno,t0,t1,t14,t15⟩
  have:wit t e=none:=Vr hno
  rw[this] at q
  simp(disch:=omega)only[go_sem,t0,t1,t14,t15,Int.lt_irrefl]
  exact q _ hs
def witE (t:Tb)(e:Int):Int:=if check t≠0 then check t else if Vh t e=false then 1 else if(wit t e).isSome=false then 6 else 0
def witA (t:Tb)(e:Int):Nat × Nat:=if witE t e=0 then(wit t e).getD (0,0) else(0,0)
theorem Witness_ev {h:H}{v:V}{t:Tb}(hw:h.wf)(ht:ZK h v t)(e:Int)(Q:V→H→Prop)(q:∀h',h.Sub h'→Q (.tup [.ii ((witA t e).1:Int),.ii ((witA t e).2:Int),.ii (witE t e)]) h'):Ev fnG Zm (.fn 35 [] []) [v,.ii e] h Q:=by
 have ht0:=ht
 obtain⟨E,L,P,rfl,aE,aL,aP⟩:=ht
 refine Zd (fd:=c35) rfl rfl rfl ?_
 have s1:h.Sub (h.add (.bk [E,L,P])):=yfa
 have g1:(h.add (.bk [E,L,P])).cells h.next=some [E,L,P]:=Zf rfl
 have bad:∀h',h.Sub h'→∀e1:Int,e1≠0→witE t e=e1→Q (.tup [.ii 0,.ii 0,.ii e1]) h':=fun h' s e1 he e2=>by
  have q':=q _ s
  have:witA t e=(0,0):=by unfold witA;rw[e2,if_neg he]
  rw[this,e2] at q';exact q'
 simp(disch:=omega)only[c35,go_sem]
 refine ZP s1.wf (ht0.mono s1) _ (fun h5 s45 c=>?_) fun h5 d s15 c g hd=>?_
 ·simp(disch:=omega)only[go_sem,ne_eq,c,not_false_eq_true]
  exact bad _ (s1.trans s45) _ c (by unfold witE;rw[if_pos c])
 have s5:=s1.trans s15
 simp(disch:=omega)only[go_sem,ne_eq,not_true_eq_false,s15.cells g1]
 refine eye_ev s15.wf (ht0.mono s5) e _ fun h6 s6=>?_
 have s16:=s5.trans s6
 cases ce:Vh t e
 ·simp(disch:=omega)only[go_sem,Bool.not_false]
  exact bad _ s16 1 (by decide) (by unfold witE;rw[if_neg (by simp[c]),if_pos ce])
 simp(disch:=omega)only[go_sem,Bool.not_true]
 refine witness_ev s6.wf (hd.mono s6) g e _ fun h7 s7=>?_
 have s17:=s16.trans s7
 cases hw1:wit t e with
 |none=>
  simp(disch:=omega)only[go_sem,witV,Bool.not_false]
  exact bad _ s17 6 (by decide) (by unfold witE;rw[if_neg (by simp[c]),if_neg (by simp[ce]),hw1,if_pos (by rfl)])
 |some p=>
  have e0:witE t e=0:=by unfold witE;rw[if_neg (by simp[c]),if_neg (by simp[ce]),hw1,if_neg yfe]
  have ea:witA t e=p:=by unfold witA;rw[if_pos e0,hw1];rfl
  simp(disch:=omega)only[go_sem,witV,Bool.not_true]
  have q':=q _ s17
  rw[e0,ea] at q';exact q'
def Y3 (t:Tb):Nat→List Int
 |0=>[]
 |n+1=>Y3 t n++if(wit t (n:Int)).isSome=true then[(n:Int)] else[]
theorem Vs (t:Tb):∀n,(Y3 t n).length≤n
 |0=>Nat.le_refl _
 |n+1=>by have:=Vs t n;simp only[Y3,List.length_append];split<;>simp<;>omega
theorem Needed_ev {h:H}{v:V}{t:Tb}(hw:h.wf)(ht:ZK h v t)(Q:V→H→Prop)(q:∀y h',h.Sub h'→Zg h' y 1 ((if check t=0 then Y3 t t.eyes.length else[]).map encI)→Q (.tup [y,.ii (check t)]) h'):Ev fnG Zm (.fn 34 [] []) [v] h Q:=by
 have ht0:=ht
 obtain⟨E,L,P,rfl,aE,aL,aP⟩:=ht
 refine Zd (fd:=c34) rfl rfl rfl ?_
 have s1:h.Sub (h.add (.bk [E,L,P])):=yfa
 have g1:(h.add (.bk [E,L,P])).cells h.next=some [E,L,P]:=Zf rfl
 simp(disch:=omega)only[c34,go_sem]
 refine ZP s1.wf (ht0.mono s1) _ (fun h5 s45 c=>?_) fun h5 d s15 c g hd=>?_
 ·simp(disch:=omega)only[go_sem,ne_eq,c,not_false_eq_true]
  exact q _ _ (s1.trans s45) (by rw[if_neg c];exact(Zq.nil s45 1).sl (by simp))
 have s5:=s1.trans s15
 have ge:=g.eyes
 have hlE:=aE.lenE
 rw[c,if_pos rfl] at q
 simp(disch:=omega)only[go_sem,ne_eq,not_true_eq_false,s15.cells g1,hlE]
 refine Zh t.eyes.length (fun i s=>∃tm h' y,s=⟨tm,h',[]⟩∧Zq h5 h' y 1 ((Y3 t i).map encI)∧tm.E 4=.ptr d 0∧tm.E 6=y∧tm.E 21=.ii (t.eyes.length:Int)∧tm.E 22=.ii (i:Int))
  ?_ ?_ (i:=0) (Nat.zero_le _) ⟨_,_,.nils,rfl,Zq.nil (H.Sub.refl s15.wf) 1,yfe,yfe,yfe,yfe⟩
 ·rintro i s hi ⟨tm,h',y,rfl,oy,t4,t6,t21,t22⟩
  have hi':(i:Int)<(t.eyes.length:Int):=by omega
  have hs:=oy.1
  have hl:=Vs t i
  simp(disch:=omega)only[go_sem,t4,t6,t21,t22,hi']
  refine witness_ev hs.wf (hd.mono hs) g (i:Int) _ fun h6 s6=>?_
  cases hw1:wit t (i:Int) with
  |none=>
   have e1:Y3 t (i+1)=Y3 t i:=by simp[Y3,hw1]
   simp(disch:=omega)only[go_sem,t4,t6,t21,t22,witV,Zc]
   exact⟨_,_,y,rfl,by rw[e1];exact oy.mono s6,yfv,yfl,(by simp[t21]),yfe⟩
  |some p=>
   have e1:Y3 t (i+1)=Y3 t i++[(i:Int)]:=by simp[Y3,hw1]
   have sC:=(H.Sub.refl s6.wf).add (.bk [.ii (i:Int)])
   simp(disch:=omega)only[go_sem,t4,t6,t21,t22,witV]
   refine((oy.mono s6).mono sC).app1 (by_:=8) (r:=encI (i:Int)) s15.wf rfl yfb Ye rfl yfi yfi fun h9 o9 k9 n9=>?_
   rw[H.next_add,List.length_map] at o9
   simp(disch:=omega)only[go_sem,t4,t6,t21,t22,Zc]
   exact⟨_,_,_,rfl,by rw[e1,List.map_append];exact o9,yfv,yfe,(by simp[t21]),yfe⟩
 ·rintro s ⟨tm,h',y,rfl,oy,t4,t6,t21,t22⟩
  have hl:=Vs t t.eyes.length
  simp(disch:=omega)only[go_sem,t4,t6,t21,t22,Int.lt_irrefl]
  exact q y _ (s5.trans oy.1) (oy.sl yfi)
end Go.Ab.Tryz
namespace Go.Ab.Tryz
theorem XT {t:Tb}{a b:Sd}{x:Int}:∀{n:Nat},x∈Yc t a b n↔∃j:Nat,j<n∧x=(j:Int)∧ZO t j a b=true
 |0=>by simp[Yc]
 |n+1=>by
  simp only[Yc,List.mem_append,XT (n:=n)]
  by_cases c:ZO t n a b=true
  ·rw[if_pos c,List.mem_singleton]
   constructor
   ·rintro(⟨j,h1,h2,h3⟩|rfl)
    ·exact⟨j,by omega,h2,h3⟩
    ·exact⟨n,by omega,rfl,c⟩
   ·rintro⟨j,h1,rfl,h3⟩
    by_cases e:j=n
    ·exact .inr (by rw[e])
    ·exact .inl ⟨j,by omega,rfl,h3⟩
  ·rw[if_neg c]
   constructor
   ·rintro(⟨j,h1,h2,h3⟩|h)
    ·exact⟨j,by omega,h2,h3⟩
    ·cases h
   ·rintro⟨j,h1,rfl,h3⟩
    by_cases e:j=n
    ·subst e;exact absurd h3 c
    ·exact .inl ⟨j,by omega,rfl,h3⟩
theorem tellK_comm (t:Tb)(a b:Sd):∀n,Yc t a b n=Yc t b a n
 |0=>rfl
 |n+1=>by
  have e:ZO t n a b=ZO t n b a:=by unfold ZO;simp only[tellsAt_comm t a b]
  simp only[Yc,tellK_comm t a b n,e]
theorem tellP_at {t:Tb}{r p:Nat}(hr:r<t.pieces.length)(hp:p<t.pieces.length):Yt t r p=Yc t t.pieces[r] t.pieces[p] t.eyes.length:=by
 unfold Yt;rw[List.getElem?_eq_getElem hr,List.getElem?_eq_getElem hp]
end Go.Ab.Tryz
namespace Go.Ab.Tryz
open Go.Ab.Silk (Inc Zo ZI before VK)
theorem dupInt_ev {h:H}{x:V}{l:List Int}(hw:h.wf)(hx:Zg h x 1 (l.map encI))(hl:l.length≤1000000)(Q:V→H→Prop):
  Ev fnG Zm (.fn 26 [] []) [x] h Q=Q (.sl h.next 0 l.length (.fix l.length)) (h.add (.bk (l.map encI).flatten)):=by
 refine Ev.det (Zd (fd:=c26) rfl rfl rfl ?_) Q
 simp(disch:=omega)only[c26,go_sem,hx.lenE,VJ]
 have:=dup_core (by_:=8) (z:=[.ii 0]) hx hw rfl yfb (Wb (fun a=>rfl) l)
 rw[List.length_map] at this
 simp(disch:=omega)only[go_sem,this]
theorem sets_ev {h:H}{n:Nat}(hn:n≤10)(Q:V→H→Prop):Ev fnG Zm (.fn 70 [] []) [.ii (n:Int)] h Q=Q (.ii ((2:Int)^n)) h:=by
 refine Ev.det (Zd (fd:=c70) rfl rfl rfl ?_) Q
 simp(disch:=omega)only[c70,go_sem]
 refine Zh n (fun i s=>∃tm,s=⟨tm,h,[]⟩∧tm.E 0=.ii (n:Int)∧tm.E 3=.ii ((2:Int)^i)∧tm.E 4=.ii (i:Int))
  ?_ ?_ (i:=0) (Nat.zero_le _) ⟨_,rfl,yfc,yfc,yfc⟩
 ·rintro i s hi ⟨tm,rfl,t0,t3,t4⟩
  have hi':(i:Int)<(n:Int):=by omega
  have hp:=pow_le (i:=i) yfb
  have hw2:wr .i64 (2*((2:Int)^i))=(2:Int)^(i+1):=by
   have e1:(2:Int)^i=((2^i:Nat):Int):=by simp
   have e2:(2:Int)^(i+1)=((2^(i+1):Nat):Int):=by simp
   rw[e1,e2,Nat.pow_succ]
   generalize 2^i=p at hp⊢
   rw[ZC yfb yfb];omega
  simp(disch:=omega)only[go_sem,t0,t3,t4,hi',hw2,Zc]
  exact⟨_,rfl,(by simp[t0]<;>rfl),yfc,yfc⟩
 ·rintro s ⟨tm,rfl,t0,t3,t4⟩
  simp(disch:=omega)only[go_sem,t0,t3,t4,Int.lt_irrefl]
theorem pow_int_le {n:Nat}(h:n≤10):(2:Int)^n≤1024:=by
 have:=pow_le h
 have e1:(2:Int)^n=((2^n:Nat):Int):=by simp
 omega
set_option maxHeartbeats 1000000 in
theorem VS {h:H}{n:Nat}{s:Int}(hw:h.wf)(hn:n≤10)(h0:0≤s)(h1:s<2^n)(Q:V→H→Prop)(q:∀y h',ZG h h' y 1 ((Zo n s 0).map encI)→Q y h'):Ev fnG Zm (.fn 71 [] []) [.ii s] h Q:=by
 have hb:=pow_int_le hn
 refine Zd (fd:=c71) rfl rfl rfl ?_
 simp(disch:=omega)only[c71,go_sem]
 refine Wi (fun k st=>∃tm h' y i,st=⟨tm,h',[]⟩∧k=(sAt s i).toNat∧i≤n∧ZG h h' y 1 ((lst (VF s) i).map encI)∧tm.E 0=.ii (sAt s i)∧tm.E 3=y∧tm.E 4=.ii (i:Int)) ?_ (sAt s 0).toNat _
  ⟨_,_,.nils,0,rfl,rfl,Nat.zero_le _,⟨H.Sub.refl hw,by simp[lst],.inl ⟨rfl,rfl⟩⟩,yfc,yfc,yfc⟩
 rintro k st ⟨tm,h',y,i,rfl,rfl,hin,oy,t0,t3,t4⟩
 have n0:=sAt_nn h0 i
 have n1:=sAt_le h0 i
 by_cases hz:sAt s i=0
 ·have hnl:¬(0:Int)<sAt s i:=by omega
  simp(disch:=omega)only[go_sem,t0,t3,t4,hnl]
  refine q _ _ ?_
  rw[←lst_all h0 h1 hz];exact oy
 ·have hp:(0:Int)<sAt s i:=by omega
  have hin':i<n:=by
   have:=sAt_zero n h0 h1
   refine Nat.lt_of_not_le fun hc=>hz ?_
   exact(lst_stop this i hc).2
  have e1:(sAt s i).tmod 2=sAt s i%2:=Int.tmod_eq_emod_of_nonneg n0
  have e2:wr .i64 ((sAt s i).tdiv 2)=sAt s (i+1):=by
   rw[Int.tdiv_eq_ediv_of_nonneg n0,ZC yfb yfb];rfl
  have hlt:(sAt s (i+1)).toNat<(sAt s i).toNat:=by simp only[sAt];omega
  have hln:=lst_len (VF s) i
  have ei:(i:Int)+1=((i+1:Nat):Int):=by omega
  have wi:wr .i64 ((i:Int)+1)=((i+1:Nat):Int):=by rw[ZC yfb yfb];omega
  cases hbt:VF s i
  ·have hc:¬sAt s i%2=1:=by unfold VF at hbt;simpa using hbt
   have e3:lst (VF s) (i+1)=lst (VF s) i:=by simp[lst,hbt]
   simp(disch:=omega)only[go_sem,t0,t3,t4,hp,Zu .i64 (show(2:Int)≠0 by decide),YS .i64 (show(2:Int)≠0 by decide),e1,e2,hc,wi]
   exact⟨_,hlt,_,_,y,i+1,rfl,rfl,hin',by rw[e3];exact oy,yfc,yff,yfc⟩
  ·have hc:sAt s i%2=1:=by unfold VF at hbt;simpa using hbt
   have e3:lst (VF s) (i+1)=lst (VF s) i++[(i:Int)]:=by simp[lst,hbt]
   have sA:=(H.Sub.refl oy.1.wf).add (.bk [.ii (i:Int)])
   simp(disch:=omega)only[go_sem,t0,t3,t4,hp,Zu .i64 (show(2:Int)≠0 by decide),YS .i64 (show(2:Int)≠0 by decide),e1,e2,hc,wi]
   refine(oy.mono sA).app1 (by_:=8) (r:=encI (i:Int)) hw rfl yfb Ye rfl yfi yfi fun y2 h2 oy2 dy2 ky2=>?_
   simp(disch:=omega)only[go_sem,t0,t3,t4,Zu .i64 (show(2:Int)≠0 by decide),YS .i64 (show(2:Int)≠0 by decide),e2,wi]
   exact⟨_,hlt,_,_,y2,i+1,rfl,rfl,hin',by rw[e3];simpa using oy2,yfc,yfc,yfc⟩
theorem lexlt_drop {a b:List Int}{i:Nat}(h1:i<a.length)(h2:i<b.length):ZI (a.drop i) (b.drop i)=if a[i]=b[i] then ZI (a.drop (i+1)) (b.drop (i+1)) else decide (a[i]<b[i]):=by
 rw[List.drop_eq_getElem_cons h1,List.drop_eq_getElem_cons h2];rfl
theorem first_ev {h:H}{x y:V}{a b:List Int}(hx:Zg h x 1 (a.map encI))(hy:Zg h y 1 (b.map encI))(e:a.length=b.length)(Q:V→H→Prop):Ev fnG Zm (.fn 72 [] []) [x,y] h Q=Q (.bool (ZI a b)) h:=by
 have hlx:=hx.lenE
 refine Ev.det (Zd (fd:=c72) rfl rfl rfl ?_) Q
 simp(disch:=omega)only[c72,go_sem]
 refine Zh a.length (fun i s=>∃tm,s=⟨tm,h,[]⟩∧ZI a b=ZI (a.drop i) (b.drop i)∧tm.E 0=x∧tm.E 1=y∧tm.E 5=.ii (i:Int))
  ?_ ?_ (i:=0) (Nat.zero_le _) ⟨_,rfl,rfl,yfc,yfc,yfc⟩
 ·rintro i s hi ⟨tm,rfl,hd,t0,t1,t5⟩
  have hbx:=hx.boundE
  have hi':(i:Int)<(a.length:Int):=by omega
  have hib:i<b.length:=by omega
  obtain⟨b1,o1,c1,cs1,rfl,hc1,hq1,hg1,hn1,hn01⟩:=hx.at hi
  obtain⟨b2,o2,c2,cs2,rfl,hc2,hq2,hg2,hn2,hn02⟩:=hy.at hib
  have hst:=lexlt_drop hi hib
  by_cases he:a[i]=b[i]
  ·rw[if_pos he] at hst
   simp(disch:=omega)only[go_sem,t0,t1,t5,hlx,hi',hq1 (Ze i),hc1,hn01 yfb,hq2 (Ze i),hc2,hn02 yfb,encI,he,ne_eq,not_true_eq_false,Zc]
   exact⟨_,rfl,by rw[hd,hst],(by simp[t0]<;>rfl),yfd,yfc⟩
  ·rw[if_neg he] at hst
   simp(disch:=omega)only[go_sem,t0,t1,t5,hlx,hi',hq1 (Ze i),hc1,hn01 yfb,hq2 (Ze i),hc2,hn02 yfb,encI,he,ne_eq,not_false_eq_true]
   rw[hd,hst]
 ·rintro s ⟨tm,rfl,hd,t0,t1,t5⟩
  simp(disch:=omega)only[go_sem,t0,t1,t5,hlx,Int.lt_irrefl]
  rw[hd,List.drop_length,show b.drop a.length=[] by rw[e,List.drop_length]]
  rfl
def lstR (t:Tb)(l:List Int):Int:=if l.all (Vh t)=false then 1 else if decide (l.Pairwise (· < ·))=false then 4 else 0
theorem lstR_le (t:Tb)(l:List Int)(c:check t=0):lstE t l=lstR t l:=by unfold lstE lstR;rw[if_neg (by simp[c])]
def AdjTo (l:List Int)(i:Nat):Prop:=1≤i∧∀j (hj:j+1<l.length),j+1<i→l[j]<l[j+1]
set_option maxHeartbeats 1000000 in
theorem refListed_ev {h:H}{v x:V}{t:Tb}{l:List Int}(hw:h.wf)(ht:ZK h v t)(hx:Zg h x 1 (l.map encI))(hl:l.length≤1000)(he:t.eyes.length≤1000)(Q:V→H→Prop)(q:∀h',h.Sub h'→Q (.ii (lstR t l)) h'):Ev fnG Zm (.fn 27 [] []) [v,x] h Q:=by
 obtain⟨E,L,P,rfl,aE,aL,aP⟩:=ht
 have hlE:=aE.lenE
 have hlx:=hx.lenE
 have s1:h.Sub (h.add (.bk [E,L,P])):=yfa
 have g1:(h.add (.bk [E,L,P])).cells h.next=some [E,L,P]:=Zf rfl
 refine Zd (fd:=c27) rfl rfl rfl ?_
 have hx1:=hx.mono s1
 simp(disch:=omega)only[c27,go_sem]
 generalize h.add (.bk [E,L,P])=h1 at s1 g1 hx1⊢
 have wm:wr .i64 ((t.eyes.length:Int)-1)=(t.eyes.length:Int)-1:=ZC yfb yfb
 refine W.mono (Q:=fun x1 s=>(x1=.ext 0∧l.all (Vh t)=true∧∃tm,s=⟨tm,h1,[]⟩∧tm.E 1=x)∨(x1=.ret∧l.all (Vh t)=false∧∃tm,s=⟨tm,h1,[]⟩∧tm.E 4=.ii 1))
  (Zh l.length (fun i s=>∃tm,s=⟨tm,h1,[]⟩∧(∀j (hj:j<l.length),j<i→Vh t l[j]=true)∧tm.E 1=x∧tm.E 2=.ptr h.next 0∧tm.E 5=.ii (i:Int))
  ?_ ?_ (i:=0) (Nat.zero_le _) ⟨_,rfl,fun j hj h0=>by omega,yfc,yfc,yfc⟩) fun x1 s hx1'=>?_
 ·rintro i s hi ⟨tm,rfl,hno,t1,t2,t5⟩
  have hi':(i:Int)<(l.length:Int):=by omega
  obtain⟨b,o,c,cs,ex,hc,hq,hg,hn,hn0⟩:=hx1.at hi
  have hv:=hn0 yfb
  simp only[encI] at hv
  have eb:inB l[i] 0 ((t.eyes.length:Int)-1)=Vh t l[i]:=by
   unfold inB Vh;rw[Bool.eq_iff_iff];simp only[decide_eq_true_eq];omega
  cases hb:Vh t l[i]
  ·simp(disch:=omega)only[go_sem,t1,t2,t5,hlx,hi',hq (Ze i),hc,hv,g1,hlE,wm,YM,eb,hb,Bool.not_false]
   have ha:l.all (Vh t)=false:=by rw[List.all_eq_false];exact⟨_,List.getElem_mem hi,by rw[hb];simp⟩
   first|exact .inr ⟨rfl,ha,_,rfl,yfc⟩|exact .inr ⟨ha,_,rfl,yfc⟩|exact⟨ha,_,rfl,yfc⟩
  ·simp(disch:=omega)only[go_sem,t1,t2,t5,hlx,hi',hq (Ze i),hc,hv,g1,hlE,wm,YM,eb,hb,Bool.not_true,Zc]
   exact⟨_,rfl,fun j hj h0=>by
    by_cases e:j=i
    ·subst e;exact hb
    ·exact hno j hj yfb,yfd,yfj,yfc⟩
 ·rintro s ⟨tm,rfl,hno,t1,t2,t5⟩
  simp(disch:=omega)only[go_sem,t1,t2,t5,hlx,Int.lt_irrefl]
  have ha:l.all (Vh t)=true:=by
   rw[List.all_eq_true]
   intro y hy
   obtain⟨j,hj,rfl⟩:=List.getElem_of_mem hy
   exact hno j hj hj
  first|exact .inl ⟨rfl,ha,_,rfl,yfd⟩|exact .inl ⟨ha,_,rfl,yfd⟩|exact⟨ha,_,rfl,yfd⟩
 rcases hx1' with⟨rfl,ha,tm,rfl,t1⟩|⟨rfl,ha,tm,rfl,t4⟩
 ·simp(disch:=omega)only[go_sem,t1]
  refine Zh (max l.length 1) (fun i s=>∃tm,s=⟨tm,h1,[]⟩∧AdjTo l i∧tm.E 1=x∧tm.E 6=.ii (i:Int))
   ?_ ?_ (i:=1) yfb ⟨_,rfl,⟨Nat.le_refl _,fun j hj h0=>by omega⟩,yfd,yfc⟩
  ·clear t1
   rintro i s hi ⟨tm,rfl,⟨h1i,hno⟩,t1,t6⟩
   obtain⟨i,rfl⟩:∃k,i=k+1:=⟨i-1,by omega⟩
   have hil:i+1<l.length:=by omega
   have hi':((i+1:Nat):Int)<(l.length:Int):=by omega
   obtain⟨b,o,c,cs,ex,hc,hq,hg,hn,hn0⟩:=hx1.at hil
   obtain⟨b',o',c',cs',ex',hc',hq',hg',hn',hn0'⟩:=hx1.at (show i<l.length by omega)
   have hv:=hn0 yfb
   have hv':=hn0' yfb
   simp only[encI] at hv hv'
   have w1:wr .i64 (((i+1:Nat):Int)-1)=(i:Int):=by rw[ZC yfb yfb];omega
   by_cases hle:l[i+1]≤l[i]
   ·have hp:decide (l.Pairwise (· < ·))=false:=decide_eq_false fun hp=>by
     have:=List.pairwise_iff_getElem.1 hp i (i+1) yfb hil yfb;omega
    have e:lstR t l=4:=by unfold lstR;rw[if_neg (by simp[ha]),if_pos hp]
    rw[e] at q
    simp(disch:=omega)only[go_sem,t1,t6,hlx,hi',hq (Ze (i+1)),hc,hv,w1,hq' (Ze i),hc',hv',hle]
    exact q _ s1
   ·simp(disch:=omega)only[go_sem,t1,t6,hlx,hi',hq (Ze (i+1)),hc,hv,w1,hq' (Ze i),hc',hv',hle,Zc]
    exact⟨_,rfl,⟨by omega,fun j hj h0=>by
     by_cases e:j=i
     ·subst e;omega
     ·exact hno j hj yfb⟩,yfd,yfc⟩
  ·clear t1
   rintro s ⟨tm,rfl,⟨h1i,hno⟩,t1,t6⟩
   have hnl:¬((max l.length 1:Nat):Int)<(l.length:Int):=by omega
   have hp:decide (l.Pairwise (· < ·))=true:=decide_eq_true (adj_pw (fun a b c h1 h2=>by omega) fun j hj=>hno j hj yfb)
   have e:lstR t l=0:=by unfold lstR;rw[if_neg (by simp[ha]),if_neg (by simp[hp])]
   rw[e] at q
   simp(disch:=omega)only[go_sem,t1,t6,hlx,hnl]
   exact q _ s1
 ·have e:lstR t l=1:=by unfold lstR;rw[if_pos ha]
  rw[e] at q
  simp(disch:=omega)only[go_sem,t4]
  exact q _ s1
end Go.Ab.Tryz
namespace Go.Ab.Tryz
open Go.Ab.Silk (Inc Zo ZI Wp X5 Va)
def Xz:List Bool→C→C
 |[],c=>c
 |b::p,.seq x y=>match b with|true=>Xz p y|false=>Xz p x
 |b::p,.cond _ x y=>match b with|true=>Xz p y|false=>Xz p x
 |_::p,.block _ x=>Xz p x
 |_::p,.loop x=>Xz p x
 |_::p,.scope x=>Xz p x
 |_::_,c=>c
def BestM (P:List Int→Bool)(n:Nat)(s:Int)(best:Option (List Int)):Prop:=1≤s∧match best with
 |none=>∀u,1≤u→u<s→P (Zo n u 0)=false
 |some c=>Inc n 0 c∧P c=true∧0<c.length∧∀u,1≤u→u<s→P (Zo n u 0)=true→(Zo n u 0).length<c.length∨((Zo n u 0).length=c.length∧(Zo n u 0=c∨ZI c (Zo n u 0)=true))
theorem bits_zero:∀(k:Nat) (i:Int),Zo k 0 i=[]
 |0,_=>rfl
 |k+1,i=>by
  have:=bits_zero k (i+1)
  rw[show Zo (k+1) 0 i=if(0:Int)%2=1 then i::Zo k (0/2) (i+1) else Zo k (0/2) (i+1) from rfl]
  simpa using this
theorem bits_pos {n:Nat}{s:Int}(h0:1≤s)(h1:s<2^n):0<(Zo n s 0).length:=by
 have:=bits_val0 (n:=n) (s:=s) yfb h1
 cases h:Zo n s 0 with
 |nil=>rw[h] at this;simp[val] at this;omega
 |cons a l=>simp
theorem BestM.skip {P:List Int→Bool}{n:Nat}{s:Int}{best:Option (List Int)}(h:BestM P n s best)(hp:P (Zo n s 0)=false∨∃c,best=some c∧((Zo n s 0).length<c.length∨((Zo n s 0).length=c.length∧ZI (Zo n s 0) c=false))):BestM P n (s+1) best:=by
 obtain⟨h0,h⟩:=h
 refine⟨by omega,?_⟩
 cases best with
 |none=>
  intro u u0 u1
  by_cases e:u=s
  ·subst e
   rcases hp with hp|⟨c,hc,_⟩
   ·exact hp
   ·cases hc
  ·exact h u u0 yfb
 |some c=>
  obtain⟨h1,h2,h3,h4⟩:=h
  refine⟨h1,h2,h3,fun u u0 u1 hu=>?_⟩
  by_cases e:u=s
  ·subst e
   rcases hp with hp|⟨c',hc,hb⟩
   ·rw[hp] at hu;cases hu
   ·cases hc
    rcases hb with hb|⟨hb,hl⟩
    ·exact .inl hb
    ·exact .inr ⟨hb,Va hb hl⟩
  ·exact h4 u u0 yfb hu
theorem BestM.take {P:List Int→Bool}{n:Nat}{s:Int}{best:Option (List Int)}(h:BestM P n s best)(h1:s<2^n)(hp:P (Zo n s 0)=true)(hb:∀c,best=some c→¬(Zo n s 0).length<c.length∧((Zo n s 0).length=c.length→ZI (Zo n s 0) c=true)):BestM P n (s+1) (some (Zo n s 0)):=by
 obtain⟨h0,h⟩:=h
 refine⟨by omega,Xq n s,hp,bits_pos h0 h1,fun u u0 u1 hu=>?_⟩
 by_cases e:u=s
 ·subst e;exact .inr ⟨rfl,.inl rfl⟩
 ·cases best with
  |none=>rw[h u u0 yfb] at hu;cases hu
  |some c=>
   obtain⟨b1,b2⟩:=hb c rfl
   rcases h.2.2.2 u u0 yfb hu with a|⟨a,a2⟩
   ·exact .inl yfb
   ·by_cases el:(Zo n s 0).length=c.length
    ·have hl:=b2 el
     refine .inr ⟨by omega,.inr ?_⟩
     rcases a2 with a2|a2
     ·rw[a2];exact hl
     ·exact X5 hl a2
    ·exact .inl yfb
theorem BestM.last {P:List Int→Bool}{n:Nat}{best:Option (List Int)}(h:BestM P n (2^n) best):best=lastOf P n n:=by
 obtain⟨_,h⟩:=h
 have onto:∀d,Inc n 0 d→0<d.length→∃u:Int,1≤u∧u<2^n∧Zo n u 0=d:=fun d hd hp=>by
  obtain⟨u,u0,u1,e⟩:=Silk.YV n 0 d (by rw[Int.zero_add];exact hd)
  refine⟨u,?_,u1,e⟩
  by_cases hz:u=0
  ·subst hz;rw[bits_zero] at e;rw[←e] at hp;simp at hp
  ·omega
 rcases lastOf_spec P n n with⟨c,e,m⟩|⟨e,m⟩
 ·rw[e]
  obtain⟨u,u0,u1,rfl⟩:=onto c m.inc m.pos
  cases best with
  |none=>have:=m.holds;rw[h u u0 u1] at this;cases this
  |some d=>
   obtain⟨h1,h2,h3,h4⟩:=h
   have a:=h4 u u0 u1 m.holds
   have hd:=h1.len yfb
   have b:=m.max d h1 h2 yfb
   rcases a with a|⟨a,a2⟩
   ·omega
   ·rcases b with b|⟨b,b2⟩
    ·omega
    ·rcases a2 with a2|a2
     ·rw[a2]
     ·rcases b2 with b2|b2
      ·rw[b2]
      ·have:=X5 a2 b2
       rw[Wp] at this;cases this
 ·rw[e]
  cases best with
  |none=>rfl
  |some d=>
   obtain⟨h1,h2,h3,h4⟩:=h
   have hd:=h1.len yfb
   have:=m d h1 h2 yfb
   rw[this] at h3;simp at h3
def XQ (T:Int→Int→Bool)(l:List Int)(i k:Nat):Bool:=(List.range k).all fun j=>T (l.getD i 0) (l.getD j 0)
def XS (T:Int→Int→Bool)(l:List Int)(n:Nat):Bool:=(List.range n).all fun i=>XQ T l i i
theorem Zg.elemF {h:H}{v:V}{l:List Int}(a:Zg h v 1 (l.map encI)){j:Nat}(hj:j<l.length):∃b o cs,ZS 1 v (.ii (j:Int))=some (.ptr b o)∧h.cells b=some cs∧nth o cs=some (.ii l[j]):=by
 obtain⟨b,o,c,cs,e1,e2,e3,_,_,e4⟩:=a.at hj
 have e5:=e4 yfb
 exact⟨b,o+j*1,cs,e3 (Ze j),e2,by rw[e5];rfl⟩
theorem okRow_step (T:Int→Int→Bool)(l:List Int)(i k:Nat):XQ T l i (k+1)=(XQ T l i k&&T (l.getD i 0) (l.getD k 0)):=by
 unfold XQ;rw[List.range_succ,List.all_append];simp
theorem okTo_step (T:Int→Int→Bool)(l:List Int)(n:Nat):XS T l (n+1)=(XS T l n&&XQ T l n n):=by
 unfold XS;rw[List.range_succ,List.all_append];simp
theorem getD_at {l:List Int}{i:Nat}(h:i<l.length):l.getD i 0=l[i]:=by rw[List.getD_eq_getElem?_getD,List.getElem?_eq_getElem h,Option.getD_some]
theorem okTo_clq {T:Int→Int→Bool}(sy:∀x y,T x y=T y x){l:List Int}(nd:l.Pairwise (· < ·)):XS T l l.length=true↔Clq T l:=by
 unfold XS XQ
 simp only[List.all_eq_true,List.mem_range]
 constructor
 ·intro h x hx y hy hne
  obtain⟨i,hi,rfl⟩:=List.getElem_of_mem hx
  obtain⟨j,hj,rfl⟩:=List.getElem_of_mem hy
  rcases Nat.lt_trichotomy i j with c|c|c
  ·have:=h j hj i c
   rw[getD_at hi,getD_at hj,sy] at this;exact this
  ·subst c;exact absurd rfl hne
  ·have:=h i hi j c
   rwa[getD_at hi,getD_at hj] at this
 ·intro h i hi j hj
  rw[getD_at hi,getD_at yfb]
  have:=List.pairwise_iff_getElem.1 nd j i yfb hi hj
  exact h _ (List.getElem_mem hi) _ (List.getElem_mem _) yfb
def X6 (pc:Int)(l:List Int):Bool:=decide (pc<0)||l.any fun r=>decide (pc=r)
def mB (t:Tb)(mt:Bool)(a b:Int):Bool:=mT t a b==mt
theorem mostP_ok {t:Tb}(g:Good t){mt:Bool}{pc:Int}{l:List Int}(nd:l.Pairwise (· < ·)):Yv (mB t mt) (X6 pc) l=(X6 pc l&&XS (mB t mt) l l.length):=by
 have sy:∀x y,mB t mt x y=mB t mt y x:=fun x y=>by unfold mB;rw[mT_comm g]
 have h1:Yv (mB t mt) (X6 pc) l=(X6 pc l&&Yv (mB t mt) (fun _=>true) l):=by unfold Yv;simp
 rw[h1];congr 1
 rw[Bool.eq_iff_iff,mostP_iff,okTo_clq sy nd]
theorem mB_true (t:Tb):mB t true=mT t:=by funext a b;unfold mB;simp
theorem mB_false (t:Tb):mB t false=fun a b=> !mT t a b:=by funext a b;unfold mB;cases mT t a b<;>rfl
def OutAt (h:H)(y:V)(b:Option (List Int)):Prop:=match b with
 |none=>y=.nils
 |some c=>Zg h y 1 (c.map encI)∧c.length≤10
theorem OutAt.mono {h h':H}{y:V}{b:Option (List Int)}(a:OutAt h y b)(s:h.Sub h'):OutAt h' y b:=by
 cases b with
 |none=>exact a
 |some c=>exact⟨a.1.mono s,a.2⟩
theorem mats_int {t:Tb}(g:Good t)(gp:t.pieces.length≤9){h0 h:H}{x:V}(a:ZQ h0 h x (mats t t.pieces.length)){p q:Int}(hp:0≤p∧p<(t.pieces.length:Int))(hq:0≤q∧q<(t.pieces.length:Int)):
  ∃b o cs row b2 o2 cs2,ZS 1 x (.ii p)=some (.ptr b o)∧h.cells b=some cs∧nth o cs=some row∧ZS 1 row (.ii q)=some (.ptr b2 o2)∧h.cells b2=some cs2∧nth o2 cs2=some (.bool (mT t p q)):=by
 obtain⟨i,rfl⟩:=Int.eq_ofNat_of_zero_le hp.1
 obtain⟨k,rfl⟩:=Int.eq_ofNat_of_zero_le hq.1
 obtain⟨b,o,cs,row,b2,o2,cs2,m1,m2,m3,m4,m5,m6,_⟩:=mats_at gp a (show i<t.pieces.length by omega) (show k<t.pieces.length by omega)
 exact⟨b,o,cs,row,b2,o2,cs2,m1,m2,m3,m4,m5,by rw[m6,mT_comm g];unfold mT MM;rw[Int.toNat_natCast,Int.toNat_natCast]⟩
end Go.Ab.Tryz
namespace Go.Ab.Tryz
def YY (h:H)(v:V)(l:List Int):Prop:=Zg h v 1 (l.map encI)∨(l=[]∧∃a,v=.sl0 a)
theorem YY.mono {h h':H}{v:V}{l:List Int}(a:YY h v l)(s:h.Sub h'):YY h' v l:=a.imp (fun a=>a.mono s) id
theorem YY.sl {h:H}{v:V}{l:List Int}(a:YY h v l)(hn:l≠[]):Zg h v 1 (l.map encI):=a.resolve_right fun h=>hn h.1
theorem YY.lenE {h:H}{v:V}{l:List Int}(a:YY h v l):q_len v=some (.ii (l.length:Int)):=by
 rcases a with a|⟨rfl,x,rfl⟩
 ·exact a.lenE
 ·rfl
theorem YY.one {h:H}{v:V}{l:List Int}(a:YY h v l):v.one=true:=by
 rcases a with a|⟨rfl,x,rfl⟩
 ·exact a.one
 ·rfl
theorem YY.boundE {h:H}{v:V}{l:List Int}(a:YY h v l):l.length≤9223372036854775807:=by
 rcases a with a|⟨rfl,x,rfl⟩
 ·exact a.boundE
 ·simp
def RdI (h:H)(x:V)(S:List (List Int)):Prop:=∃xs:List V,Zg h x 1 (xs.map fun v=>[v])∧xs.length=S.length∧∀i (hi:i<xs.length) (hj:i<S.length),YY h xs[i] S[i]
theorem RdI.mono {h h':H}{x:V}{S:List (List Int)}(a:RdI h x S)(s:h.Sub h'):RdI h' x S:=by
 obtain⟨xs,a1,a2,a3⟩:=a
 exact⟨xs,a1.mono s,a2,fun i hi hj=>(a3 i hi hj).mono s⟩
theorem RdI.len {h:H}{x:V}{S:List (List Int)}(a:RdI h x S):q_len x=some (.ii (S.length:Int)):=by
 obtain⟨xs,a1,a2,_⟩:=a
 rw[a1.lenE,a2]
theorem RdI.bound {h:H}{x:V}{S:List (List Int)}(a:RdI h x S):S.length≤9223372036854775807:=by
 obtain⟨xs,a1,a2,_⟩:=a
 rw[←a2];exact a1.boundE
theorem RdI.row {h:H}{x:V}{S:List (List Int)}(a:RdI h x S){i:Nat}(hi:i<S.length):∃b o cs v,ZS 1 x (.ii (i:Int))=some (.ptr b o)∧h.cells b=some cs∧nth o cs=some v∧YY h v S[i]:=by
 obtain⟨xs,a1,a2,a3⟩:=a
 obtain⟨b,o,c,cs,e1,e2,e3,_,_,e4⟩:=a1.at (k:=i) yfb
 have e5:=e4 yfb
 exact⟨b,o+i*1,cs,xs[i],e3 (Ze i),e2,e5,a3 i yfb hi⟩
structure OkP (t:Tb)(l:List Int):Prop where
 up:l.Pairwise (· < ·)
 pc:∀x∈l,0≤x∧x<(t.pieces.length:Int)
 go:l.Pairwise fun a b=>mT t a b=true
structure SrtP (t:Tb)(S:List (List Int)):Prop where
 ne:∀l∈S,l≠[]
 ok:∀l∈S,OkP t l
 nd:S.flatten.Nodup
 len:S.flatten.length=t.pieces.length
noncomputable def srtB (t:Tb)(S:List (List Int)):Bool:= @decide (SrtP t S) (Classical.propDecidable _)
theorem srtB_true {t:Tb}{S:List (List Int)}(h:SrtP t S):srtB t S=true:=by unfold srtB;exact @decide_eq_true _ (Classical.propDecidable _) h
theorem srtB_false {t:Tb}{S:List (List Int)}(h:¬SrtP t S):srtB t S=false:=by unfold srtB;exact @decide_eq_false _ (Classical.propDecidable _) h
theorem srt_srtB {t:Tb}{S:List (List Int)}(a:Srt (mT t) t.pieces.length S):srtB t S=true:=
 srtB_true ⟨fun l hl=>a.ne l hl,fun l hl=>⟨a.up l hl,fun x hx=>a.mem hl hx,a.go l hl⟩,a.all.nodup_iff.2 (upto_nodup _),a.len⟩
theorem OkP.nil (t:Tb):OkP t []:=⟨List.Pairwise.nil,(fun x h=>by cases h),List.Pairwise.nil⟩
theorem OkP.snoc {t:Tb}(g:Good t){l:List Int}{i:Nat}(hi:i<l.length)(a:OkP t (l.take i))(h1:0≤l[i]∧l[i]<(t.pieces.length:Int))(h2:∀j (hj:j<l.length),j+1=i→l[j]<l[i])(h3:∀j (hj:j<l.length),j<i→mT t l[i] l[j]=true):OkP t (l.take (i+1)):=by
 rw[List.take_succ_eq_append_getElem hi]
 have hmem:∀x∈l.take i,∃j,∃hj:j<l.length,j<i∧x=l[j]:=fun x hx=>by
  obtain⟨j,hj,rfl⟩:=List.getElem_of_mem hx
  rw[List.length_take] at hj
  exact⟨j,by omega,by omega,List.getElem_take⟩
 refine⟨List.pairwise_append.2 ⟨a.up,by simp,fun x hx y hy=>?_⟩,fun x hx=>?_,List.pairwise_append.2 ⟨a.go,by simp,fun x hx y hy=>?_⟩⟩
 ·rw[List.mem_singleton] at hy;subst hy
  obtain⟨j,hj,hji,rfl⟩:=hmem x hx
  by_cases e:j+1=i
  ·exact h2 j hj e
  ·have h5:=List.pairwise_iff_getElem.1 a.up j (i-1) (by rw[List.length_take];omega) (by rw[List.length_take];omega) yfb
   rw[List.getElem_take,List.getElem_take] at h5
   have:=h2 (i-1) yfb yfb
   omega
 ·rcases List.mem_append.1 hx with h|h
  ·exact a.pc x h
  ·rw[List.mem_singleton] at h;subst h;exact h1
 ·rw[List.mem_singleton] at hy;subst hy
  obtain⟨j,hj,hji,rfl⟩:=hmem x hx
  rw[mT_comm g];exact h3 j hj hji
def XP (pre:List Int)(n:Nat):List V:=rowB (fun p=>decide ((p:Int)∈pre)) n
theorem seenB_put {pre:List Int}{n k:Nat}(h:k<n):Z0 k [.bool true] (XP pre n)=some (XP (pre++[(k:Int)]) n):=by
 unfold XP
 rw[rowB_put h]
 congr 1
 unfold rowB
 refine List.map_congr_left fun j hj=>?_
 dsimp only
 congr 1
 by_cases e:j=k
 ·subst e;simp
 ·rw[if_neg e,decide_eq_decide,List.mem_append,List.mem_singleton]
  exact⟨.inl,fun h=>h.elim id fun h=>by omega⟩
theorem flat_split {S:List (List Int)}{k:Nat}(hk:k<S.length):S.flatten=(S.take k).flatten++(S[k]++(S.drop (k+1)).flatten):=by
 have e:S=S.take k++S[k]::S.drop (k+1):=by rw[List.getElem_cons_drop,List.take_append_drop]
 have f:=congrArg List.flatten e
 rw[List.flatten_append,List.flatten_cons] at f
 exact f
theorem flat_take {S:List (List Int)}{k:Nat}(hk:k<S.length):(S.take (k+1)).flatten=(S.take k).flatten++S[k]:=by
 rw[List.take_succ_eq_append_getElem hk,List.flatten_append];simp
set_option maxRecDepth 4000 in
set_option maxHeartbeats 8000000 in
theorem refSorted_ev {h:H}{v y:V}{t:Tb}{S:List (List Int)}(hw:h.wf)(ht:ZK h v t)(g:Good t)(hS:RdI h y S)(Q:V→H→Prop)
  (q:∀h',h.Sub h'→Q (.bool (srtB t S)) h'):Ev fnG Zm (.fn 17 [] []) [v,y] h Q:=by
 have ht0:=ht
 obtain⟨E,L,P,rfl,aE,aL,aP⟩:=ht
 have hlP:=aP.lenE
 have gp:=g.pieces
 have hlS:=hS.len
 have hbS:=hS.bound
 have s1:h.Sub (h.add (.bk [E,L,P])):=yfa
 have g1:(h.add (.bk [E,L,P])).cells h.next=some [E,L,P]:=Zf rfl
 refine Zd (fd:=c17) rfl rfl rfl ?_
 simp(disch:=omega)only[c17,go_sem]
 generalize h.add (.bk [E,L,P])=h1 at s1 g1⊢
 refine WX s1.wf (ht0.mono s1) g _ fun x hM oM=>?_
 have s1M:h1.Sub hM:=by obtain⟨_,a1,_⟩:=oM;exact a1.1
 have gM:=s1M.cells g1
 have sM:=s1.trans s1M
 have hz:ZH t.pieces.length [V.bool false]=XP [] t.pieces.length:=by rw[repN_false];unfold XP;simp
 have sF:=(H.Sub.refl s1M.wf).add (.bk (XP [] t.pieces.length))
 have gF:(hM.add (.bk (XP [] t.pieces.length))).get hM.next=some (.bk (XP [] t.pieces.length)):=Zn rfl
 simp(disch:=omega)only[go_sem,gM,hlP,a_msl_nn,hz]
 generalize hM.add (.bk (XP [] t.pieces.length))=hF at sF gF⊢
 obtain⟨bS,eb⟩:∃bS,hM.next=bS:=⟨_,rfl⟩
 rw[eb] at gF⊢
 have bad:∀hh,hM.Sub hh→¬SrtP t S→Q (.bool false) hh:=fun hh sh hn=>by
  have:=q hh (sM.trans sh)
  rwa[srtB_false hn] at this
 refine Zh S.length (fun k s=>∃tm hh,s=⟨tm,hh,[]⟩∧hM.Sub hh∧hh.get bS=some (.bk (XP (S.take k).flatten t.pieces.length))∧(∀a (ha:a<S.length),a<k→S[a]≠[]∧OkP t S[a])∧(S.take k).flatten.Nodup∧tm.E 1=y∧tm.E 2=.ptr h.next 0∧tm.E 5=x∧tm.E 6=.sl bS 0 t.pieces.length (.fix t.pieces.length)∧tm.E 7=.ii ((S.take k).flatten.length:Int)∧tm.E 8=.ii (k:Int))
  ?_ ?_ (i:=0) (Nat.zero_le _) ⟨_,_,rfl,sF,gF,fun a ha h0=>by omega,by simp,yfe,yfe,yfe,yfe,yfe,yfe⟩
 ·rintro k s hk ⟨tm,hh,rfl,sh,gB,hdone,hnd,t1,t2,t5,t6,t7,t8⟩
  have hk':(k:Int)<(S.length:Int):=by omega
  obtain⟨l,el⟩:∃l,S[k]=l:=⟨_,rfl⟩
  have hlS':l∈S:=by rw[←el];exact List.getElem_mem hk
  obtain⟨bR,oR,csR,vR,r1,r2,r3,r4⟩:=(hS.mono sM).row hk
  rw[el] at r4
  have lR:=r4.lenE
  have bl:=r4.boundE
  obtain⟨pre,epre⟩:∃pre,(S.take k).flatten=pre:=⟨_,rfl⟩
  have hfl:=flat_split hk
  have hft:=flat_take hk
  rw[epre,el] at hfl hft
  rw[epre] at gB hnd t7
  have hpre:∀z∈pre,0≤z∧z<(t.pieces.length:Int):=fun z hz=>by
   rw[←epre] at hz
   obtain⟨m,hm,hzm⟩:=List.mem_flatten.1 hz
   obtain⟨a,ha,rfl⟩:=List.getElem_of_mem hm
   rw[List.length_take] at ha
   rw[List.getElem_take] at hzm
   exact(hdone a yfb yfb).2.pc z hzm
  by_cases hl0:l.length=0
  ·have hl0':(l.length:Int)=0:=by omega
   simp(disch:=omega)only[go_sem,t1,t2,t5,t6,t7,t8,hlS,hk',r1,sh.cells r2,r3,lR,hl0']
   exact bad _ sh fun a=>a.ne l hlS' (List.length_eq_zero_iff.1 hl0)
  ·have hl0':¬(l.length:Int)=0:=by omega
   have r4:=r4.sl fun h=>hl0 (by rw[h];rfl)
   simp(disch:=omega)only[go_sem,t1,t2,t5,t6,t7,t8,hlS,hk',r1,sh.cells r2,r3,lR,hl0']
   refine W.mono (Q:=fun x1 s=>(x1=.ret∧¬SrtP t S∧∃tm hq,s=⟨tm,hq,[]⟩∧hM.Sub hq∧tm.E 4=.bool false)∨(x1=.ext 2∧OkP t l∧(pre++l).Nodup∧∃tm hq,s=⟨tm,hq,[]⟩∧hM.Sub hq∧hq.get bS=some (.bk (XP (pre++l) t.pieces.length))∧tm.E 1=y∧tm.E 2=.ptr h.next 0∧tm.E 5=x∧tm.E 6=.sl bS 0 t.pieces.length (.fix t.pieces.length)∧tm.E 7=.ii ((pre++l).length:Int)∧tm.E 8=.ii (k:Int)))
    (Zh l.length (fun i s=>∃tm hq,s=⟨tm,hq,[]⟩∧hM.Sub hq∧hq.get bS=some (.bk (XP (pre++l.take i) t.pieces.length))∧OkP t (l.take i)∧(pre++l.take i).Nodup∧tm.E 1=y∧tm.E 2=.ptr h.next 0∧tm.E 5=x∧tm.E 6=.sl bS 0 t.pieces.length (.fix t.pieces.length)∧tm.E 7=.ii ((pre++l.take i).length:Int)∧tm.E 8=.ii (k:Int)∧tm.E 9=.ii (i:Int))
    ?_ ?_ (i:=0) (Nat.zero_le _) ⟨_,_,rfl,sh,by simpa using gB,by simpa using OkP.nil t,by simpa using hnd,yfn,yfm,yfp,yfl,by rw[List.take_zero,List.append_nil];exact yfr,yfo,yfe⟩) fun x1 s hx1=>?_
   ·clear t1 t2 t5 t6 t7 t8 gB sh
    rintro i s hi ⟨tm,hq,rfl,sq,gB,ok,nd,t1,t2,t5,t6,t7,t8,t9⟩
    have hi':(i:Int)<(l.length:Int):=by omega
    have r2q:=sq.cells r2
    have r4q:=r4.mono sq
    obtain⟨bA,oA,csA,f1,f2,f3⟩:=Zg.elemF r4q hi
    have lcnt:(pre++l.take i).length≤t.pieces.length:=nodup_len nd fun z hz=>(List.mem_append.1 hz).elim (hpre z) (ok.pc z)
    have wm:wr .i64 ((t.pieces.length:Int)-1)=(t.pieces.length:Int)-1:=ZC yfb yfb
    have wc:wr .i64 (((pre++l.take i).length:Int)+1)=(((pre++l.take i).length+1:Nat):Int):=by rw[ZC yfb yfb];omega
    have hlm:l[i]∈l:=List.getElem_mem hi
    by_cases hin:0≤l[i]∧l[i]<(t.pieces.length:Int)
    ·have eb:inB l[i] 0 ((t.pieces.length:Int)-1)=true:=by unfold inB;rw[decide_eq_true_eq];omega
     obtain⟨p,ep⟩:=Int.eq_ofNat_of_zero_le hin.1
     have hp:p<t.pieces.length:=by omega
     rw[ep] at f3 eb
     have hsn:nth p (XP (pre++l.take i) t.pieces.length)=some (.bool (decide ((p:Int)∈pre++l.take i))):=rowB_nth hp
     cases hse:decide ((p:Int)∈pre++l.take i)
     ·rw[hse] at hsn
      have hns:(p:Int) ∉pre++l.take i:=of_decide_eq_false hse
      have hput:=seenB_put (pre:=pre++l.take i) hp
      rw[List.append_assoc,←ep,←List.take_succ_eq_append_getElem hi] at hput
      have nd2:(pre++l.take (i+1)).Nodup:=by
       rw[List.take_succ_eq_append_getElem hi,←List.append_assoc,ep]
       refine List.nodup_append.2 ⟨nd,by simp,fun a ha b hb=>?_⟩
       rw[List.mem_singleton] at hb
       rintro rfl
       rw[hb] at ha;exact hns ha
      have lc2:(pre++l.take (i+1)).length=(pre++l.take i).length+1:=by
       rw[List.take_succ_eq_append_getElem hi,←List.append_assoc,List.length_append (bs:=[l[i]])];rfl
      obtain⟨R,hR⟩:∃R:C,Xz [true,true,true,true,false,true,true,true,true,false,true,true,true,true,true,true,false,true,true,true] c17.body=R:=⟨_,rfl⟩
      have tail:(∀j (hj:j<l.length),j+1=i→l[j]<l[i])→∀tm:Go.Ab.T V,tm.E 1=y→tm.E 2=.ptr h.next 0→tm.E 5=x→tm.E 6=.sl bS 0 t.pieces.length (.fix t.pieces.length)→tm.E 7=.ii ((pre++l.take i).length:Int)→tm.E 8=.ii (k:Int)→tm.E 9=.ii (i:Int)→tm.E 10=.ii (p:Int)→
        W fnG Zm 101 17 none R ⟨tm,hq,[]⟩ fun x1 s=>(x1=.ret∧¬SrtP t S∧∃tm hz,s=⟨tm,hz,[]⟩∧hM.Sub hz∧tm.E 4=.bool false)∨(x1=.nrm∧OkP t (l.take (i+1))∧∃tm hz,s=⟨tm,hz,[]⟩∧hM.Sub hz∧hz.get bS=some (.bk (XP (pre++l.take (i+1)) t.pieces.length))∧tm.E 1=y∧tm.E 2=.ptr h.next 0∧tm.E 5=x∧tm.E 6=.sl bS 0 t.pieces.length (.fix t.pieces.length)∧tm.E 7=.ii ((pre++l.take (i+1)).length:Int)∧tm.E 8=.ii (k:Int)∧tm.E 9=.ii (i:Int)):=by
       clear t1 t2 t5 t6 t7 t8 t9
       intro hup tm t1 t2 t5 t6 t7 t8 t9 t10
       subst hR
       have ltb:=sq.wf _ _ gB
       have sZ:=sq.set (b:=bS) yfb ltb s1M.wf (.bk (XP (pre++l.take (i+1)) t.pieces.length))
       have gZ:(hq.set bS (.bk (XP (pre++l.take (i+1)) t.pieces.length))).get bS=some (.bk (XP (pre++l.take (i+1)) t.pieces.length)):=get_set_same rfl
       simp(disch:=omega)only[Xz,c17,go_sem,t1,t2,t5,t6,t7,t8,t9,t10,ZZ (Ze p) hp,Nat.mul_one,gB,hput,wc,←lc2]
       generalize hq.set bS (.bk (XP (pre++l.take (i+1)) t.pieces.length))=hz at sZ gZ⊢
       have r2z:=sZ.cells r2
       have r4z:=r4.mono sZ
       have oMz:=oM.mono sZ
       refine W.mono (Q:=fun x1 s=>(x1=.ret∧¬SrtP t S∧∃tm,s=⟨tm,hz,[]⟩∧tm.E 4=.bool false)∨(x1=.ext 4∧(∀m (hm:m<l.length),m<i→mT t l[i] l[m]=true)∧∃tm,s=⟨tm,hz,[]⟩∧tm.E 1=y∧tm.E 2=.ptr h.next 0∧tm.E 5=x∧tm.E 6=.sl bS 0 t.pieces.length (.fix t.pieces.length)∧tm.E 7=.ii ((pre++l.take (i+1)).length:Int)∧tm.E 8=.ii (k:Int)∧tm.E 9=.ii (i:Int)))
        (Zh i (fun m s=>∃tm,s=⟨tm,hz,[]⟩∧(∀m' (hm:m'<l.length),m'<m→mT t l[i] l[m']=true)∧tm.E 1=y∧tm.E 2=.ptr h.next 0∧tm.E 5=x∧tm.E 6=.sl bS 0 t.pieces.length (.fix t.pieces.length)∧tm.E 7=.ii ((pre++l.take (i+1)).length:Int)∧tm.E 8=.ii (k:Int)∧tm.E 9=.ii (i:Int)∧tm.E 10=.ii (p:Int)∧tm.E 11=.ii (m:Int))
        ?_ ?_ (i:=0) (Nat.zero_le _) ⟨_,rfl,fun m hm h0=>by omega,yfn,yfm,yfp,yfl,yfe,yfo,yft,(by simp[t10]),yfe⟩) fun x1 s hx1=>?_
       ·clear t1 t2 t5 t6 t7 t8 t9 t10
        rintro m s hm ⟨tm,rfl,hall,t1,t2,t5,t6,t7,t8,t9,t10,t11⟩
        have hm':(m:Int)<(i:Int):=by omega
        have hml:m<l.length:=by omega
        obtain⟨bM,oM',csM,f4,f5,f6⟩:=Zg.elemF r4z hml
        have mm:0≤l[m]∧l[m]<(t.pieces.length:Int):=ok.pc _ (by
         have:(l.take i)[m]'(by rw[List.length_take];omega)=l[m]:=List.getElem_take
         rw[←this];exact List.getElem_mem _)
        obtain⟨b,o,cs,row,b2,o2,cs2,m1,m2,m3,m4,m5,m6⟩:=mats_int g gp oMz (p:=l[i]) (q:=l[m]) hin mm
        rw[ep] at m1
        cases hmt:mT t l[i] l[m]
        ·rw[hmt] at m6
         have hno:¬SrtP t S:=fun a=>by
          have:=List.pairwise_iff_getElem.1 (a.ok l hlS').go m i hml hi hm
          rw[mT_comm g,hmt] at this;cases this
         simp(disch:=omega)only[go_sem,t1,t2,t5,t6,t7,t8,t9,t10,t11,hm',m1,m2,m3,r1,r2z,r3,f4,f5,f6,m4,m5,m6]
         first|exact .inl ⟨rfl,hno,_,rfl,yfe⟩|exact .inl ⟨hno,_,rfl,yfe⟩|exact⟨hno,_,rfl,yfe⟩
        ·rw[hmt] at m6
         simp(disch:=omega)only[go_sem,t1,t2,t5,t6,t7,t8,t9,t10,t11,hm',m1,m2,m3,r1,r2z,r3,f4,f5,f6,m4,m5,m6,Zc]
         exact⟨_,rfl,fun m' hm2 h0=>by
          by_cases e:m'=m
          ·subst e;exact hmt
          ·exact hall m' hm2 yfb,yfn,yfm,yfp,yfl,yfr,yfo,yft,(by simp[t10]),yfe⟩
       ·clear t1 t2 t5 t6 t7 t8 t9 t10
        rintro s ⟨tm,rfl,hall,t1,t2,t5,t6,t7,t8,t9,t10,t11⟩
        simp(disch:=omega)only[go_sem,t1,t2,t5,t6,t7,t8,t9,t10,t11,Int.lt_irrefl]
        first|exact .inr ⟨rfl,hall,_,rfl,yfn,yfm,yfp,yfl,yfr,yfo,yft⟩|exact .inr ⟨hall,_,rfl,yfn,yfm,yfp,yfl,yfr,yfo,yft⟩|exact⟨hall,_,rfl,yfn,yfm,yfp,yfl,yfr,yfo,yft⟩
       clear t1 t2 t5 t6 t7 t8 t9 t10
       rcases hx1 with⟨rfl,hno,tm,rfl,t4⟩|⟨rfl,hall,tm,rfl,t1,t2,t5,t6,t7,t8,t9⟩
       ·simp(disch:=omega)only[go_sem,t4]
        first|exact .inl ⟨rfl,hno,_,_,rfl,sZ,yfv⟩|exact .inl ⟨hno,_,_,rfl,sZ,yfv⟩|exact⟨hno,_,_,rfl,sZ,yfv⟩
       ·simp(disch:=omega)only[go_sem,t1,t2,t5,t6,t7,t8,t9]
        have ok2:=ok.snoc g hi hin hup hall
        first|exact .inr ⟨rfl,ok2,_,_,rfl,sZ,gZ,yfn,yfm,yfp,yfl,yfr,yfo,yft⟩|exact .inr ⟨ok2,_,_,rfl,sZ,gZ,yfn,yfm,yfp,yfl,yfr,yfo,yft⟩|exact⟨ok2,_,_,rfl,sZ,gZ,yfn,yfm,yfp,yfl,yfr,yfo,yft⟩
      simp only[Xz,c17] at hR
      rw[hR]
      cases i with
      |zero=>
       have z1:¬(0:Int)<((0:Nat):Int):=by omega
       simp(disch:=omega)only[go_sem,t1,t2,t5,t6,t7,t8,t9,hi',r1,r2q,r3,lR,f1,f2,f3,YM,wm,eb,ZZ (Ze p) hp,Nat.mul_one,Zb gB,hsn,z1]
       refine(tail (fun j hj h0=>by omega) _ yfn yfm yfp yfl yfr yfo yft yfe).mono fun x1 s hx1=>?_
       rcases hx1 with⟨rfl,hno,tm,hz,rfl,sz,t4⟩|⟨rfl,ok2,tm,hz,rfl,sz,gz,t1,t2,t5,t6,t7,t8,t9⟩
       ·simp(disch:=omega)only[go_sem,t4]
        first|exact .inl ⟨rfl,hno,_,_,rfl,sz,yfv⟩|exact .inl ⟨hno,_,_,rfl,sz,yfv⟩|exact⟨hno,_,_,rfl,sz,yfv⟩
       ·simp(disch:=omega)only[go_sem,t1,t2,t5,t6,t7,t8,t9,Zc]
        exact⟨_,_,rfl,sz,gz,ok2,nd2,yfn,yfm,yfp,yfl,yfr,yfo,yfe⟩
      |succ j=>
       have z1:(0:Int)<((j+1:Nat):Int):=by omega
       have z4:wr .i64 (((j+1:Nat):Int)-1)=(j:Int):=by rw[ZC yfb yfb];omega
       obtain⟨b2,o2,cs2,u1,u2,u3⟩:=Zg.elemF r4q (show j<l.length by omega)
       by_cases hle:l[j+1]≤l[j]
       ·have hno:¬SrtP t S:=fun a=>by
         have:=List.pairwise_iff_getElem.1 (a.ok l hlS').up j (j+1) yfb hi yfb;omega
        rw[ep] at hle
        simp(disch:=omega)only[go_sem,t1,t2,t5,t6,t7,t8,t9,hi',r1,r2q,r3,lR,f1,f2,f3,YM,wm,eb,ZZ (Ze p) hp,Nat.mul_one,Zb gB,hsn,z1,z4,u1,u2,u3,hle]
        first|exact .inl ⟨rfl,hno,_,_,rfl,sq,yfe⟩|exact .inl ⟨hno,_,_,rfl,sq,yfe⟩|exact⟨hno,_,_,rfl,sq,yfe⟩
       ·have hup:∀j' (hj:j'<l.length),j'+1=j+1→l[j']<l[j+1]:=fun j' hj h0=>by
         have:j'=j:=by omega
         subst this;omega
        rw[ep] at hle
        simp(disch:=omega)only[go_sem,t1,t2,t5,t6,t7,t8,t9,hi',r1,r2q,r3,lR,f1,f2,f3,YM,wm,eb,ZZ (Ze p) hp,Nat.mul_one,Zb gB,hsn,z1,z4,u1,u2,u3,hle]
        refine(tail hup _ yfn yfm yfp yfl yfr yfo yft yfe).mono fun x1 s hx1=>?_
        rcases hx1 with⟨rfl,hno,tm,hz,rfl,sz,t4⟩|⟨rfl,ok2,tm,hz,rfl,sz,gz,t1,t2,t5,t6,t7,t8,t9⟩
        ·simp(disch:=omega)only[go_sem,t4]
         first|exact .inl ⟨rfl,hno,_,_,rfl,sz,yfv⟩|exact .inl ⟨hno,_,_,rfl,sz,yfv⟩|exact⟨hno,_,_,rfl,sz,yfv⟩
        ·simp(disch:=omega)only[go_sem,t1,t2,t5,t6,t7,t8,t9,Zc]
         exact⟨_,_,rfl,sz,gz,ok2,nd2,yfn,yfm,yfp,yfl,yfr,yfo,yfe⟩
     ·rw[hse] at hsn
      have hps:=of_decide_eq_true hse
      have hno:¬SrtP t S:=fun a=>by
       have h1:=a.nd
       rw[hfl,←List.append_assoc] at h1
       have h2:=(List.nodup_append.1 h1).1
       have h3:l=l.take i++(l[i]::l.drop (i+1)):=by rw[List.getElem_cons_drop,List.take_append_drop]
       rw[h3,←List.append_assoc] at h2
       exact(List.nodup_append.1 h2).2.2 _ hps l[i] (List.mem_cons_self ..) ep.symm
      simp(disch:=omega)only[go_sem,t1,t2,t5,t6,t7,t8,t9,hi',r1,r2q,r3,lR,f1,f2,f3,YM,wm,eb,ZZ (Ze p) hp,Nat.mul_one,Zb gB,hsn]
      first|exact .inl ⟨rfl,hno,_,_,rfl,sq,yfe⟩|exact .inl ⟨hno,_,_,rfl,sq,yfe⟩|exact⟨hno,_,_,rfl,sq,yfe⟩
    ·have eb:inB l[i] 0 ((t.pieces.length:Int)-1)=false:=by unfold inB;rw[decide_eq_false_iff_not];omega
     have hno:¬SrtP t S:=fun a=>hin ((a.ok l hlS').pc _ hlm)
     simp(disch:=omega)only[go_sem,t1,t2,t5,t6,t7,t8,t9,hi',r1,r2q,r3,lR,f1,f2,f3,YM,wm,eb]
     first|exact .inl ⟨rfl,hno,_,_,rfl,sq,yfe⟩|exact .inl ⟨hno,_,_,rfl,sq,yfe⟩|exact⟨hno,_,_,rfl,sq,yfe⟩
   ·clear t1 t2 t5 t6 t7 t8 gB sh
    rintro s ⟨tm,hq,rfl,sq,gB,ok,nd,t1,t2,t5,t6,t7,t8,t9⟩
    rw[List.take_length] at gB ok nd t7
    simp(disch:=omega)only[go_sem,t1,t2,t5,t6,t7,t8,t9,r1,sq.cells r2,r3,lR,Int.lt_irrefl]
    first|exact .inr ⟨rfl,ok,nd,_,_,rfl,sq,gB,yfn,yfm,yfp,yfl,yfr,yfo⟩|exact .inr ⟨ok,nd,_,_,rfl,sq,gB,yfn,yfm,yfp,yfl,yfr,yfo⟩|exact⟨ok,nd,_,_,rfl,sq,gB,yfn,yfm,yfp,yfl,yfr,yfo⟩
   clear t1 t2 t5 t6 t7 t8 gB sh
   rcases hx1 with⟨rfl,hno,tm,hq,rfl,sq,t4⟩|⟨rfl,ok,nd,tm,hq,rfl,sq,gB,t1,t2,t5,t6,t7,t8⟩
   ·simp(disch:=omega)only[go_sem,t4]
    exact bad _ sq hno
   ·simp(disch:=omega)only[go_sem,t1,t2,t5,t6,t7,t8,Zc]
    exact⟨_,_,rfl,sq,by rw[hft];exact gB,fun a ha h0=>by
     by_cases e:a=k
     ·subst e;rw[el];exact⟨fun h=>hl0 (by rw[h];rfl),ok⟩
     ·exact hdone a ha yfb,by rw[hft];exact nd,yfn,yfm,yfp,yfl,by rw[hft];exact yfr,yfe⟩
 ·rintro s ⟨tm,hh,rfl,sh,gB,hdone,hnd,t1,t2,t5,t6,t7,t8⟩
  rw[List.take_length] at gB hnd t7
  have e:srtB t S=decide ((S.flatten.length:Int)=(t.pieces.length:Int)):=by
   by_cases c:S.flatten.length=t.pieces.length
   ·rw[decide_eq_true yfb]
    exact srtB_true ⟨fun l hl=>by obtain⟨a,ha,rfl⟩:=List.getElem_of_mem hl;exact(hdone a ha ha).1,fun l hl=>by obtain⟨a,ha,rfl⟩:=List.getElem_of_mem hl;exact(hdone a ha ha).2,hnd,c⟩
   ·rw[decide_eq_false yfb]
    exact srtB_false fun a=>c a.len
  rw[e] at q
  simp(disch:=omega)only[go_sem,t1,t2,t5,t6,t7,t8,hlS,Int.lt_irrefl]
  exact q _ (sM.trans sh)
end Go.Ab.Tryz
namespace Go.Ab
theorem a_msl_nm {h:H}{by_ n m:Nat}{z:List V}(h0:n≤m)(h1:m*by_≤1099511627776)(h2:m≤1099511627776):
  WV h by_ z (.ii (n:Int)) (.ii (m:Int))=some (.sl h.next 0 n (.fix m),h.add (.bk (ZH m z))):=by
 have e1:Nat.ble (m*by_) 1099511627776=true:=by simpa using h1
 have e2:Nat.ble m 1099511627776=true:=by simpa using h2
 have e3:Nat.ble n m=true:=by simpa using h0
 simp only[WV,Ze,e1,e2,e3,Zy,lf_eq]
namespace Tryz
def tab (f:Int→Int)(n:Nat):List V:=(List.range n).map fun(i:Nat)=>iv (f (i:Int))
def fset (f:Int→Int)(i x:Int):Int→Int:=fun k=>if k=i then x else f k
theorem tab_len (f:Int→Int)(n:Nat):(tab f n).length=n:=by simp[tab]
theorem tab_nth (f:Int→Int){n i:Nat}(h:i<n):nth i (tab f n)=some (.ii (f (i:Int))):=by
 rw[nth_get,List.getElem?_eq_getElem (by rw[tab_len];exact h)]
 simp[tab,iv]
theorem ints_put:∀(l:List Int) (i:Nat) (x:Int),i<l.length→Z0 i [.ii x] (l.map iv)=some ((l.set i x).map iv)
 |[],i,b,h=>by simp at h
 |a::l,0,b,_=>by simp[putN_0,over_s,over_0,VZ,iv]
 |a::l,i+1,b,h=>by
  have ih:=ints_put l i b (by simpa using h)
  simp only[List.map_cons,putN_s,ih,VZ,List.set_cons_succ]
theorem tab_put (f:Int→Int){n i:Nat}(h:i<n)(x:Int):Z0 i [.ii x] (tab f n)=some (tab (fset f (i:Int) x) n):=by
 have e:∀g:Int→Int,tab g n=((List.range n).map fun(i:Nat)=>g (i:Int)).map iv:=fun g=>by simp[tab]
 rw[e,e,ints_put _ _ _ (by simpa using h)]
 congr 2
 refine List.ext_getElem yfe fun k h1 h2=>?_
 rw[List.getElem_set]
 simp only[List.getElem_map,List.getElem_range,fset]
 by_cases c:i=k
 ·subst c;simp
 ·rw[if_neg c,if_neg yfb]
theorem tab_zero:∀n:Nat,ZH n [V.ii 0]=tab (fun _=>0) n:=fun n=>by
 have:∀n,ZH n [V.ii 0]=List.replicate n (iv 0):=fun n=>by
  induction n with
  |zero=>rfl
  |succ n ih=>rw[ZH,ZY,ih];rfl
 rw[this]
 refine List.ext_getElem (by simp[tab]) fun k h1 h2=>?_
 simp[tab]
theorem tab_at2 {n i:Nat}(h:i<n)(f:Int→Int):nth i (tab f n)=some (.ii (f (i:Int))):=tab_nth f h
theorem tab_st2 {n i:Nat}(h:i<n)(f:Int→Int)(x:Int):Z0 i [.ii x] (tab f n)=some (tab (fset f (i:Int) x) n):=tab_put f h x
end Tryz
end Go.Ab
namespace Go.Ab
theorem lenE_A (l:List (Int × V)):lenE (Z7 l)=l.length:=by rw[lenE_eq];simp[Z7]
theorem putA_keys (i:Int)(x:V):∀l:List (Int × V),(putA i x l).map Prod.fst=if i∈l.map Prod.fst then l.map Prod.fst else l.map Prod.fst++[i]
 |[]=>rfl
 |p::l=>by
  have ih:=putA_keys i x l
  simp only[putA]
  by_cases h:i=p.1
  ·simp[h]
  ·rw[if_neg h,List.map_cons,ih]
   by_cases h2:i∈l.map Prod.fst
   ·rw[if_pos h2,if_pos (by rw[List.map_cons];exact List.mem_cons_of_mem _ h2),List.map_cons]
   ·rw[if_neg h2,if_neg (by rw[List.map_cons,List.mem_cons];rintro(h3|h3);exact h h3;exact h2 h3),List.map_cons];rfl
theorem perm_of_sub {α:Type}[DecidableEq α]:∀(ks pre:List α),ks.Nodup→(∀x∈ks,x∈pre)→ks.length=pre.length→pre.Perm ks
 |[],pre,_,_,h=>by
  have:pre=[]:=List.length_eq_zero_iff.1 h.symm
  rw[this]
 |k::ks,pre,nd,hs,h=>by
  rw[List.nodup_cons] at nd
  have hk:=hs k yfe
  have h1:=List.length_erase_of_mem hk
  have h2:=List.length_pos_of_mem hk
  have:=perm_of_sub ks (pre.erase k) nd.2 (fun x hx=>(List.mem_erase_of_ne (by rintro rfl;exact nd.1 hx)).2 (hs x (by simp[hx]))) (by simp only[List.length_cons] at h;omega)
  exact(List.perm_cons_erase hk).trans (this.cons k)
def SetAt (h:H)(b:Nat)(pre:List Int):Prop:=∃es:List (Int × V),h.get b=some (.map (Z7 es))∧(es.map Prod.fst).Nodup∧∀z,z∈es.map Prod.fst↔z∈pre
theorem SetAt.mono {h h':H}{b:Nat}{pre:List Int}(a:SetAt h b pre)(s:h.Sub h'):SetAt h' b pre:=by
 obtain⟨es,e,nd,hm⟩:=a
 exact⟨es,s.get e,nd,hm⟩
theorem SetAt.cnt {h:H}{b:Nat}{pre:List Int}(a:SetAt h b pre):∃n:Nat,q_lnm h (.map b)=some (.ii (n:Int))∧(n=pre.length↔pre.Nodup):=by
 obtain⟨es,e,nd,hm⟩:=a
 refine⟨es.length,by simp only[q_lnm,e,lenE_A];rfl,?_⟩
 constructor
 ·intro h
  exact(perm_of_sub (es.map Prod.fst) pre nd (fun x hx=>(hm x).1 hx) (by rw[List.length_map];exact h)).nodup_iff.2 nd
 ·intro h
  have:=((List.perm_ext_iff_of_nodup nd h).2 hm).length_eq
  rw[List.length_map] at this;exact this
theorem SetAt.put {h:H}{b:Nat}{pre:List Int}(a:SetAt h b pre)(i:Int)(x:V){Q:V→H→Prop}(q:∀es,SetAt (h.set b (.map es)) b (pre++[i])→Q .und (h.set b (.map es))):P2 (muC (h.get b) h b (.ii i) x) Q:=by
 obtain⟨es,e,nd,hm⟩:=a
 rw[←e_mup_map,e_mup_A e,ZN]
 refine q _ ⟨_,get_set_same rfl,?_,fun z=>?_⟩
 ·rw[putA_keys]
  split
  ·exact nd
  ·rename_i hn
   exact List.nodup_append.2 ⟨nd,by simp,fun a ha b hb=>by
    rw[List.mem_singleton] at hb;subst hb
    rintro rfl;exact hn ha⟩
 ·rw[putA_keys]
  split
  ·rename_i hi
   rw[hm,List.mem_append,List.mem_singleton]
   exact⟨.inl,fun h=>h.elim id fun h=>by subst h;exact(hm z).1 hi⟩
  ·rw[List.mem_append,List.mem_append,hm]
namespace Tryz
theorem go_iff {t:Tb}(g:Good t){l:List Int}(hp:∀x∈l,0≤x∧x<(t.pieces.length:Int)):(l.all fun p=>l.all fun r=>mT t p r)=true↔l.Pairwise fun a b=>mT t a b=true:=by
 simp only[List.all_eq_true]
 constructor
 ·intro h
  exact List.pairwise_iff_getElem.2 fun i j hi hj _=>h _ (List.getElem_mem hi) _ (List.getElem_mem hj)
 ·intro h x hx y hy
  obtain⟨i,hi,rfl⟩:=List.getElem_of_mem hx
  obtain⟨j,hj,rfl⟩:=List.getElem_of_mem hy
  have h':=List.pairwise_iff_getElem.1 h
  rcases Nat.lt_trichotomy i j with c|c|c
  ·exact h' i j hi hj c
  ·subst c
   have:=hp _ hx
   unfold mT XC
   rw[List.getElem?_eq_getElem (show l[i].toNat<t.pieces.length by omega)]
   exact alike_self g _
  ·rw[mT_comm g];exact h' j i hj hi c
theorem sorted11_ev {h:H}{b6 bP d:Nat}{t:Tb}(g:Good t)(g6:h.cells b6=some [.ptr d 0]){p:Int}(hP:h.cells bP=some [.ii p])(hd:Ws h d t)(hp:0≤p∧p<(t.pieces.length:Int)){r:Int}(hr:0≤r∧r<(t.pieces.length:Int)):
  Y5 h (.fn 83 [] [.ptr b6 0,.ptr bP 0]) [.ii r] (.bool (mT t p r)):=by
 intro h1 hs
 obtain⟨i,rfl⟩:=Int.eq_ofNat_of_zero_le hp.1
 obtain⟨k,rfl⟩:=Int.eq_ofNat_of_zero_le hr.1
 refine Ev.gen fun Q q=>?_
 refine Zd (fd:=c83) rfl rfl rfl ?_
 simp(disch:=omega)only[c83,go_sem,hs.cells g6,hs.cells hP]
 refine WE hs.wf (hd.mono hs) g (show i<t.pieces.length by omega) (show k<t.pieces.length by omega) _ fun h2 s2=>?_
 simp(disch:=omega)only[go_sem]
 exact q _ _ ⟨rfl,s2⟩
theorem sorted1_ev {h:H}{b6 bL d:Nat}{vL:V}{l:List Int}{t:Tb}(g:Good t)(g6:h.cells b6=some [.ptr d 0])(gL:h.cells bL=some [vL])(aL:Zg h vL 1 (l.map encI))(hd:Ws h d t)(hp:∀x∈l,0≤x∧x<(t.pieces.length:Int)){p:Int}(hpp:0≤p∧p<(t.pieces.length:Int)):
  Y5 h (.fn 82 [] [.ptr bL 0,.ptr b6 0]) [.ii p] (.bool (l.all fun r=>mT t p r)):=by
 intro h1 hs
 refine Ev.gen fun Q q=>?_
 refine Zd (fd:=c82) rfl rfl rfl ?_
 have sA:=(H.Sub.refl hs.wf).add (.bk [.ii p])
 have gP:(h1.add (.bk [.ii p])).cells h1.next=some [.ii p]:=Zf rfl
 have s1A:=hs.trans sA
 simp(disch:=omega)only[c82,go_sem,hs.cells gL,s1A.cells gL]
 refine(YE (p:=fun r=>mT t p r) sA.wf (aL.mono s1A) fun r hr=>sorted11_ev g (s1A.cells g6) gP (hd.mono s1A) hpp (hp r hr)).mono fun u h3 hu=>?_
 obtain⟨rfl,s3⟩:=hu
 simp(disch:=omega)only[go_sem]
 exact q _ _ ⟨rfl,sA.trans s3⟩
set_option maxRecDepth 4000 in
set_option maxHeartbeats 8000000 in
theorem Sorted_ev {h:H}{v y:V}{t:Tb}{S:List (List Int)}(hw:h.wf)(ht:ZK h v t)(hS:RdI h y S)(hl:S.length≤1000)(hll:∀l∈S,l.length≤1000)(Q:V→H→Prop)
  (q:∀h',h.Sub h'→Q (.tup [.bool (@decide (check t=0∧SrtP t S) (Classical.propDecidable _)),.ii (check t)]) h'):Ev fnG Zm (.fn 20 [] []) [v,y] h Q:=by
 have ht0:=ht
 obtain⟨E,L,P,rfl,aE,aL,aP⟩:=ht
 have hlP:=aP.lenE
 have hlS:=hS.len
 refine Zd (fd:=c20) rfl rfl rfl ?_
 have s1:h.Sub (h.add (.bk [E,L,P])):=yfa
 have g1:(h.add (.bk [E,L,P])).cells h.next=some [E,L,P]:=Zf rfl
 simp(disch:=omega)only[c20,go_sem]
 generalize h.add (.bk [E,L,P])=h1 at s1 g1⊢
 refine ZP s1.wf (ht0.mono s1) _ (fun h5 s15 c=>?_) fun h5 d s15 c g hd=>?_
 ·have q':=fun hh (ss:h5.Sub hh)=>q hh ((s1.trans s15).trans ss)
  rw[@decide_eq_false _ (Classical.propDecidable _) (fun a=>c a.1)] at q'
  have ss:h5.Sub ((h5.add (.bk [.nilp])).set h5.next (.bk [.nilp])):=((H.Sub.refl s15.wf).add _).set (b:=h5.next) (Nat.le_refl _) (by rw[H.next_add];omega) s15.wf _
  have ss2:h5.Sub (h5.add (.bk [.nilp])):=(H.Sub.refl s15.wf).add _
  simp(disch:=omega)only[go_sem,ne_eq,c,not_false_eq_true]
  first|exact q' _ ss|exact q' _ ss2
 have gp:=g.pieces
 have s5:=s1.trans s15
 have s56:h5.Sub (h5.add (.bk [.ptr d 0])):=(H.Sub.refl s15.wf).add _
 have g6:(h5.add (.bk [.ptr d 0])).cells h5.next=some [.ptr d 0]:=Zf rfl
 simp(disch:=omega)only[go_sem,ne_eq,not_true_eq_false,hlS]
 have n6:(h5.add (.bk [.ptr d 0])).next=h5.next+1:=H.next_add _ _
 generalize h5.add (.bk [.ptr d 0])=h6 at s56 g6 n6⊢
 have s6:=s5.trans s56
 have s16:=s15.trans s56
 rw[c] at q
 have bad:∀hh,h6.Sub hh→¬SrtP t S→Q (.tup [.bool false,.ii 0]) hh:=fun hh sh hn=>by
  have:=q hh (s6.trans sh)
  rwa[@decide_eq_false _ (Classical.propDecidable _) (fun a=>hn a.2)] at this
 have sF:=(H.Sub.refl s56.wf).add (.map [])
 have gF:SetAt (h6.add (.map [])) h6.next []:=⟨[],Zn rfl,by simp,fun z=>by simp⟩
 have lF:h6.next<(h6.add (.map [])).next:=by rw[H.next_add];omega
 generalize h6.add (.map [])=hF at sF gF lF⊢
 obtain⟨bS,eb⟩:∃bS,h5.next+1=bS:=⟨_,rfl⟩
 rw[n6,eb] at gF lF
 rw[eb]
 refine Zh S.length (fun k s=>∃tm hh,s=⟨tm,hh,[]⟩∧h6.Sub hh∧bS<hh.next∧SetAt hh bS (S.take k).flatten∧(∀a (ha:a<S.length),a<k→S[a]≠[]∧OkP t S[a])∧(S.take k).flatten.length≤10*k∧tm.E 2=.ptr h.next 0∧tm.E 6=.ptr h5.next 0∧tm.E 8=.ii ((S.take k).flatten.length:Int)∧tm.E 9=.map bS∧tm.E 23=y∧tm.E 24=.ii (S.length:Int)∧tm.E 25=.ii (k:Int))
  ?_ ?_ (i:=0) (Nat.zero_le _) ⟨_,_,rfl,sF,lF,gF,fun a ha h0=>by omega,by simp,yfe,yfe,yfe,yfe,yfe,yfe,yfe⟩
 ·rintro k s hk ⟨tm,hh,rfl,sh,lh,gB,hdone,hcnt,t2,t6,t8,t9,t23,t24,t25⟩
  have hk':(k:Int)<(S.length:Int):=by omega
  obtain⟨l,el⟩:∃l,S[k]=l:=⟨_,rfl⟩
  have hlS':l∈S:=by rw[←el];exact List.getElem_mem hk
  have hl1000:=hll l hlS'
  obtain⟨bR,oR,csR,vR,r1,r2,r3,r4⟩:=(hS.mono (s6.trans sh)).row hk
  rw[el] at r4
  have lR:=r4.lenE
  have vR1:=r4.one
  obtain⟨pre,epre⟩:∃pre,(S.take k).flatten=pre:=⟨_,rfl⟩
  have hft:=flat_take hk
  rw[epre,el] at hft
  rw[epre] at gB t8 hcnt
  have sA:=(H.Sub.refl sh.wf).add (.bk [vR])
  have gA:(hh.add (.bk [vR])).cells hh.next=some [vR]:=Zf rfl
  simp(disch:=omega)only[go_sem,t2,t6,t8,t9,t23,t24,t25,hk',r1,r2,r3,vR1,cells_one vR1,lR]
  generalize hh.add (.bk [vR])=hA at sA gA⊢
  have s6A:=sh.trans sA
  have s1A:=s16.trans s6A
  have g1A:=s1A.cells g1
  by_cases hl0:l.length=0
  ·have hl0':decide ((l.length:Int)=0)=true:=decide_eq_true yfb
   simp(disch:=omega)only[go_sem,t2,t6,t8,t9,t23,t24,t25,hl0',gA,g1A]
   exact bad _ s6A fun a=>a.ne l hlS' (List.length_eq_zero_iff.1 hl0)
  have hl0':decide ((l.length:Int)=0)=false:=decide_eq_false yfb
  have r4:=r4.sl fun h=>hl0 (by rw[h];rfl)
  simp(disch:=omega)only[go_sem,t2,t6,t8,t9,t23,t24,t25,hl0',gA,g1A]
  refine rising_ev sA.wf (r4.mono sA) hl1000 _ fun hB sB=>?_
  have s6B:=s6A.trans sB
  have gAB:=sB.cells gA
  have g1B:=sB.cells g1A
  cases hup:decide (l.Pairwise (· < ·))
  ·simp(disch:=omega)only[go_sem,t2,t6,t8,t9,t23,t24,t25,Bool.not_false,gAB,g1B]
   exact bad _ s6B fun a=>of_decide_eq_false hup (a.ok l hlS').up
  have pw:=of_decide_eq_true hup
  simp(disch:=omega)only[go_sem,t2,t6,t8,t9,t23,t24,t25,Bool.not_true,gAB,g1B]
  refine(YE (p:=Y0 t) sB.wf (r4.mono (sA.trans sB)) fun a _=>fun h7 s7=>Ev.gen fun Q q=>Ev_bound (Vp s7.wf (ht0.mono (s6.trans (s6B.trans s7))) a _ fun h8 s8=>q _ _ ⟨rfl,s8⟩)).mono fun u hC hu=>?_
  obtain⟨rfl,sC⟩:=hu
  have s6C:=s6B.trans sC
  have gAC:=sC.cells gAB
  have g1C:=sC.cells g1B
  cases hpc:l.all (Y0 t)
  ·simp(disch:=omega)only[go_sem,t2,t6,t8,t9,t23,t24,t25,Bool.not_false,gAC,g1C]
   exact bad _ s6C fun a=>by
    rw[List.all_eq_false] at hpc
    obtain⟨x,hx,h2⟩:=hpc
    have:=(a.ok l hlS').pc x hx
    exact h2 (by unfold Y0;exact decide_eq_true this)
  have hin:∀x∈l,0≤x∧x<(t.pieces.length:Int):=fun x hx=>by
   have:=List.all_eq_true.1 hpc x hx
   unfold Y0 at this;exact of_decide_eq_true this
  simp(disch:=omega)only[go_sem,t2,t6,t8,t9,t23,t24,t25,Bool.not_true,gAC,g1C]
  refine(YE (p:=fun p=>l.all fun r=>mT t p r) sC.wf (r4.mono (sA.trans (sB.trans sC))) fun a ha=>sorted1_ev g (s6C.cells g6) gAC (r4.mono (sA.trans (sB.trans sC))) (hd.mono (s56.trans s6C)) hin (hin a ha)).mono fun u hD hu=>?_
  obtain⟨rfl,sD⟩:=hu
  have s6D:=s6C.trans sD
  have sAD:=sB.trans (sC.trans sD)
  have gAD:=sD.cells gAC
  cases hgo:l.all fun p=>l.all fun r=>mT t p r
  ·simp(disch:=omega)only[go_sem,t2,t6,t8,t9,t23,t24,t25,Bool.not_false,gAD]
   exact bad _ s6D fun a=>by
    have:=(go_iff g hin).2 (a.ok l hlS').go
    rw[hgo] at this;cases this
  have okl:OkP t l:=⟨pw,hin,(go_iff g hin).1 hgo⟩
  have l9:l.length≤t.pieces.length:=nodup_len (pw.imp fun h=>by omega) hin
  simp(disch:=omega)only[go_sem,t2,t6,t8,t9,t23,t24,t25,Bool.not_true,gAD,lR]
  have gBD:=gB.mono (sA.trans sAD)
  have lD:=(sA.trans sAD).next
  have r4D:=r4.mono (sA.trans sAD)
  refine W.mono (Q:=fun x1 s=>x1=.ext 2∧∃tm hq,s=⟨tm,hq,[]⟩∧h6.Sub hq∧bS<hq.next∧SetAt hq bS (pre++l)∧tm.E 2=.ptr h.next 0∧tm.E 6=.ptr h5.next 0∧tm.E 8=.ii ((pre++l).length:Int)∧tm.E 9=.map bS∧tm.E 23=y∧tm.E 24=.ii (S.length:Int)∧tm.E 25=.ii (k:Int))
   (Zh l.length (fun i s=>∃tm hq,s=⟨tm,hq,[]⟩∧h6.Sub hq∧bS<hq.next∧SetAt hq bS (pre++l.take i)∧Zg hq vR 1 (l.map encI)∧tm.E 2=.ptr h.next 0∧tm.E 6=.ptr h5.next 0∧tm.E 8=.ii ((pre++l.take i).length:Int)∧tm.E 9=.map bS∧tm.E 23=y∧tm.E 24=.ii (S.length:Int)∧tm.E 25=.ii (k:Int)∧tm.E 50=vR∧tm.E 51=.ii (l.length:Int)∧tm.E 52=.ii (i:Int))
   ?_ ?_ (i:=0) (Nat.zero_le _) ⟨_,_,rfl,s6D,by omega,by simpa using gBD,r4D,yfm,yfl,by rw[List.take_zero,List.append_nil];exact yfo,yft,(by simp[t23]),(by simp[t24]),(by simp[t25]),yfe,yfe,yfe⟩) fun x1 s hx1=>?_
  ·clear t2 t6 t8 t9 t23 t24 t25
   rintro i s hi ⟨tm,hq,rfl,sq,lq,gq,aq,t2,t6,t8,t9,t23,t24,t25,t50,t51,t52⟩
   have hi':(i:Int)<(l.length:Int):=by omega
   obtain⟨b1,o1,cs1,f1,f2,f3⟩:=Zg.elemF aq hi
   have lc:(pre++l.take (i+1)).length=(pre++l.take i).length+1:=by
    rw[List.take_succ_eq_append_getElem hi,←List.append_assoc,List.length_append (bs:=[l[i]])];rfl
   have lb:(pre++l.take i).length≤20000:=by rw[List.length_append,List.length_take];omega
   have wc:wr .i64 (((pre++l.take i).length:Int)+1)=((pre++l.take (i+1)).length:Int):=by rw[ZC yfb yfb];omega
   have nb:∀b,Zk vR b→b≠bS:=fun b hb e=>by
    rcases aq.2.2 with⟨rfl,_⟩|⟨b',o',c',cs',e1,e2,e3⟩
    ·obtain⟨_,_,_,e⟩:=hb;cases e
    ·obtain⟨_,_,_,e4⟩:=hb
     rw[e1] at e4;cases e4
     subst e
     rcases e2 with e2|e2
     ·rw[List.map_eq_nil_iff] at e2;rw[e2] at hi;simp at hi
     ·obtain⟨es,ge,_⟩:=gq
      obtain⟨kd,hk2⟩:=H.cells_eq e2
      rw[ge] at hk2;cases hk2
   simp(disch:=omega)only[go_sem,t2,t6,t8,t9,t23,t24,t25,t50,t51,t52,hi',f1,f2,f3,wc]
   refine gq.put l[i] (.bool true) fun es gq2=>?_
   rw[List.append_assoc,←List.take_succ_eq_append_getElem hi] at gq2
   have k2:=Zi.set hq bS (.map es)
   have aq2:=SlAt_keep2 aq k2 fun _ b hb=>nb b hb
   have sq2:=sq.set (b:=bS) yfb lq s56.wf (.map es)
   have lq2:bS<(hq.set bS (.map es)).next:=by rw[H.next_set];exact lq
   simp(disch:=omega)only[go_sem,t2,t6,t8,t9,t23,t24,t25,t50,t51,t52,Zc]
   exact⟨_,_,rfl,sq2,lq2,gq2,aq2,yfm,yfl,yfe,yft,(by simp[t23]),(by simp[t24]),(by simp[t25]),(by simp[t50]),(by simp[t51]),yfe⟩
  ·clear t2 t6 t8 t9 t23 t24 t25
   rintro s ⟨tm,hq,rfl,sq,lq,gq,aq,t2,t6,t8,t9,t23,t24,t25,t50,t51,t52⟩
   rw[List.take_length] at gq t8
   simp(disch:=omega)only[go_sem,t2,t6,t8,t9,t23,t24,t25,t50,t51,t52,Int.lt_irrefl]
   exact⟨_,_,rfl,sq,lq,gq,yfm,yfl,yfo,yft,(by simp[t23]),(by simp[t24]),(by simp[t25])⟩
  clear t2 t6 t8 t9 t23 t24 t25
  obtain⟨rfl,tm,hq,rfl,sq,lq,gq,t2,t6,t8,t9,t23,t24,t25⟩:=hx1
  simp(disch:=omega)only[go_sem,t2,t6,t8,t9,t23,t24,t25,Zc]
  exact⟨_,_,rfl,sq,lq,by rw[hft];exact gq,fun a ha h0=>by
   by_cases e:a=k
   ·subst e;rw[el];exact⟨fun h=>hl0 (by rw[h];rfl),okl⟩
   ·exact hdone a ha yfb,by rw[hft,List.length_append];omega,yfm,yfl,by rw[hft];exact yfo,yft,(by simp[t23]),(by simp[t24]),yfe⟩
 ·rintro s ⟨tm,hh,rfl,sh,lh,gB,hdone,hcnt,t2,t6,t8,t9,t23,t24,t25⟩
  rw[List.take_length] at gB t8 hcnt
  obtain⟨m,hm1,hm2⟩:=gB.cnt
  have g1h:=(s16.trans sh).cells g1
  have hok:(∀l∈S,l≠[])∧(∀l∈S,OkP t l):=⟨fun l hl=>by obtain⟨a,ha,rfl⟩:=List.getElem_of_mem hl;exact(hdone a ha ha).1,fun l hl=>by obtain⟨a,ha,rfl⟩:=List.getElem_of_mem hl;exact(hdone a ha ha).2⟩
  by_cases c1:S.flatten.length=t.pieces.length
  ·have d1:decide ((S.flatten.length:Int)=(t.pieces.length:Int))=true:=decide_eq_true yfb
   by_cases c2:S.flatten.Nodup
   ·have d2:decide ((m:Int)=(S.flatten.length:Int))=true:=decide_eq_true (by have:=hm2.2 c2;omega)
    have q':=q hh (s6.trans sh)
    rw[@decide_eq_true _ (Classical.propDecidable _) ⟨rfl,⟨hok.1,hok.2,c2,c1⟩⟩] at q'
    simp(disch:=omega)only[go_sem,t2,t6,t8,t9,t23,t24,t25,Int.lt_irrefl,g1h,hlP,d1,hm1,d2]
    exact q'
   ·have d2:decide ((m:Int)=(S.flatten.length:Int))=false:=decide_eq_false (by intro h;exact c2 (hm2.1 (by omega)))
    simp(disch:=omega)only[go_sem,t2,t6,t8,t9,t23,t24,t25,Int.lt_irrefl,g1h,hlP,d1,hm1,d2]
    exact bad _ sh fun a=>c2 a.nd
  ·have d1:decide ((S.flatten.length:Int)=(t.pieces.length:Int))=false:=decide_eq_false yfb
   simp(disch:=omega)only[go_sem,t2,t6,t8,t9,t23,t24,t25,Int.lt_irrefl,g1h,hlP,d1]
   exact bad _ sh fun a=>c1 a.len
end Tryz
end Go.Ab
namespace Go.Ab.Tryz
theorem ZQ.rdI {h0 h:H}{x:V}{S:List (List Int)}(a:ZQ h0 h x (S.map fun l=>l.map encI))(hl:S.length≤1000)(hll:∀l∈S,l.length≤1000):RdI h x S:=by
 obtain⟨xs,a1,a2,a3⟩:=a
 rw[List.length_map] at a2
 refine⟨xs,a1.sl yfi,a2,fun i hi hj=>?_⟩
 have h1:=(a3 i hi (by rw[List.length_map];exact hj)).1
 rw[List.getElem_map] at h1
 have:=hll _ (List.getElem_mem hj)
 exact .inl (h1.sl yfi)
theorem ZL.rdI {F:Nat→Prop}{h:H}{x:V}{S:List (List Int)}(a:ZL F h x (S.map fun l=>l.map encI))(hl:S.length≤1000)(hll:∀l∈S,l.length≤1000):RdI h x S:=by
 obtain⟨xs,a1,a2,a3,_⟩:=a
 rw[List.length_map] at a2
 refine⟨xs,a1.sl yfi,a2,fun i hi hj=>?_⟩
 have h1:=(a3 i hi (by rw[List.length_map];exact hj)).1
 rw[List.getElem_map] at h1
 have:=hll _ (List.getElem_mem hj)
 exact .inl (h1.sl yfi)
theorem equal0_ev {h:H}{x y:V}(hx:q_len x=some (.ii 0))(hy:q_len y=some (.ii 0)):Ev fnG Zm (.fn 86 [] []) [x,y] h fun v h'=>v=.bool true∧h'=h:=by
 refine Zd (fd:=c86) rfl rfl rfl ?_
 have nn:∀n:Int,decide (n≠n)=false:=fun n=>by simp
 simp(disch:=omega)only[c86,go_sem,hx,hy,nn]
 refine Zh 0 (fun i s=>∃tm,s=⟨tm,h,[]⟩∧tm.E 12=.ii 0∧tm.E 13=.ii 0) (fun i s hi=>by omega) ?_ (i:=0) (Nat.le_refl _) ⟨_,rfl,yfe,yfe⟩
 rintro s ⟨tm,rfl,t12,t13⟩
 simp(disch:=omega)only[go_sem,t12,t13,Int.lt_irrefl]
theorem equalI_ev {h:H}{x y:V}{l:List Int}(hx:YY h x l)(hy:YY h y l):Ev fnG Zm (.fn 86 [] []) [x,y] h fun v h'=>v=.bool true∧h'=h:=by
 by_cases c:l=[]
 ·have l1:=hx.lenE
  have l2:=hy.lenE
  rw[c] at l1 l2
  exact equal0_ev l1 l2
 ·refine(Vb (hx.sl c) (hy.sl c)).mono fun u h' hu=>?_
  rw[decide_eq_true rfl] at hu
  exact hu
theorem dupI_ev {h:H}{x:V}{l:List Int}(hw:h.wf)(hx:YY h x l)(hl:l.length≤1000000)(Q:V→H→Prop):
  Ev fnG Zm (.fn 26 [] []) [x] h Q=Q (.sl h.next 0 l.length (.fix l.length)) (h.add (.bk (l.map encI).flatten)):=by
 rcases hx with hx|⟨rfl,a,rfl⟩
 ·exact dupInt_ev hw hx hl Q
 ·refine Ev.det (Zd (fd:=c26) rfl rfl rfl ?_) Q
  have e1:q_len (V.sl0 a)=some (.ii ((0:Nat):Int)):=rfl
  have e2:∀hh:H,Z8 hh 1 8 (.sl h.next 0 0 (.fix 0)) (.sl0 a)=some (.sl h.next 0 0 (.fix 0),hh):=fun hh=>rfl
  simp(disch:=omega)only[c26,go_sem,e1,VJ,e2]
  first|rfl|simp[ZH]
set_option maxHeartbeats 2000000 in
theorem eqRowsI_ev {h:H}{x y:V}{S:List (List Int)}(hw:h.wf)(hx:RdI h x S)(hy:RdI h y S)(Q:V→H→Prop)(q:∀h',h.Sub h'→Q (.bool true) h'):
  Ev fnG Zm (.fn 24 [] []) [x,y] h Q:=by
 have lx:=hx.len
 have ly:=hy.len
 have hb:=hx.bound
 refine Zd (fd:=c24) rfl rfl rfl ?_
 simp(disch:=omega)only[c24,go_sem]
 refine Zd (fd:=c90) rfl rfl rfl ?_
 have nn:∀n:Int,decide (n≠n)=false:=fun n=>by simp
 simp(disch:=omega)only[c90,go_sem,lx,ly,nn]
 refine Zh S.length (fun i s=>∃tm h',s=⟨tm,h',[]⟩∧h.Sub h'∧tm.E 0=x∧tm.E 1=y∧tm.E 2=.fn 86 [] []∧tm.E 15=x∧tm.E 16=.ii (S.length:Int)∧tm.E 17=.ii (i:Int))
  ?_ ?_ (i:=0) (Nat.zero_le _) ⟨_,_,rfl,H.Sub.refl hw,yfe,yfe,yfe,yfe,yfe,yfe⟩
 ·rintro i s hi ⟨tm,h',rfl,hs,t0,t1,t2,t15,t16,t17⟩
  have hi':(i:Int)<(S.length:Int):=by omega
  obtain⟨b,o,cs,v,e1,e2,e3,e4⟩:=(hx.mono hs).row hi
  obtain⟨b',o',cs',v',f1,f2,f3,f4⟩:=(hy.mono hs).row hi
  have eq:=equalI_ev e4 f4
  simp(disch:=omega)only[go_sem,t0,t1,t2,t15,t16,t17,hi',e1,e2,e3,f1,f2,f3]
  refine eq.mono fun u h2 hu=>?_
  obtain⟨rfl,rfl⟩:=hu
  simp(disch:=omega)only[go_sem,t0,t1,t2,t15,t16,t17,Bool.not_true,Zc]
  exact⟨_,_,rfl,hs,yfy,yfn,yfm,(by simp[t15]),(by simp[t16]),yfe⟩
 ·rintro s ⟨tm,h',rfl,hs,t0,t1,t2,t15,t16,t17⟩
  simp(disch:=omega)only[go_sem,t0,t1,t2,t15,t16,t17,Int.lt_irrefl]
  exact q _ hs
set_option maxHeartbeats 2000000 in
theorem dupRows_ev {h:H}{y:V}{S:List (List Int)}(hw:h.wf)(hS:RdI h y S)(hl:S.length≤1000)(hll:∀l∈S,l.length≤1000)(Q:V→H→Prop)(q:∀x h',h.Sub h'→x.one=true→RdI h' x S→Q x h'):
  Ev fnG Zm (.fn 12 [] []) [y] h Q:=by
 have ly:=hS.len
 refine Zd (fd:=c12) rfl rfl rfl ?_
 have sA:=(H.Sub.refl hw).add (.bk (ZH S.length [.nils]))
 have gA:(h.add (.bk (ZH S.length [.nils]))).get h.next=some (.bk (ZH S.length [.nils])):=Zn rfl
 have lA:(h.add (.bk (ZH S.length [.nils]))).next=h.next+1:=H.next_add _ _
 simp(disch:=omega)only[c12,go_sem,ly,VJ]
 generalize h.add (.bk (ZH S.length [.nils]))=hA at sA gA lA⊢
 have o0:ZQ h hA (.sl h.next 0 0 (.fix S.length)) (((S.take 0).map fun l=>l.map encI)):=⟨[],⟨sA,by simp,.inr (.inr ⟨h.next,S.length,ZH S.length [.nils],rfl,Nat.le_refl _,by omega,by simpa using gA,by simp[XZ],by simp⟩)⟩,by simp,fun i hi=>by simp at hi⟩
 refine Zh S.length (fun i s=>∃tm h' x,s=⟨tm,h',[]⟩∧ZQ h h' x ((S.take i).map fun l=>l.map encI)∧tm.E 3=x∧tm.E 9=y∧tm.E 10=.ii (S.length:Int)∧tm.E 11=.ii (i:Int))
  ?_ ?_ (i:=0) (Nat.zero_le _) ⟨_,_,_,rfl,o0,yfe,yfe,yfe,yfe⟩
 ·rintro i s hi ⟨tm,h',x,rfl,o,t3,t9,t10,t11⟩
  have hi':(i:Int)<(S.length:Int):=by omega
  have hs:h.Sub h':=by obtain⟨_,a1,_⟩:=id o;exact a1.1
  obtain⟨b,oo,cs,v,e1,e2,e3,e4⟩:=(hS.mono hs).row hi
  have hli:=hll _ (List.getElem_mem hi)
  simp(disch:=omega)only[go_sem,t3,t9,t10,t11,hi',e1,e2,e3,dupI_ev hs.wf e4 yfb]
  have sD:=(H.Sub.refl hs.wf).add (.bk (S[i].map encI).flatten)
  have ov:ZG h (h'.add (.bk (S[i].map encI).flatten)) (.sl h'.next 0 S[i].length (.fix S[i].length)) 1 (S[i].map encI):=⟨hs.trans sD,by simp[encI],.inr (.inr ⟨h'.next,S[i].length,[],by simp,hs.next,by rw[H.next_add];omega,by rw[List.append_nil];exact Zn rfl,by simp,by simp⟩)⟩
  have dv:∀b,Zk (.sl h'.next 0 S[i].length (.fix S[i].length)) b→¬Zk x b:=fun b hb hx=>by
   obtain⟨_,_,_,e⟩:=hb
   cases e
   obtain⟨_,a1,_⟩:=id o
   have:=(a1.blk hx).2.1;omega
  have sE:=sD.add (.bk [.sl h'.next 0 S[i].length (.fix S[i].length)])
  have sDE:=(H.Sub.refl sD.wf).add (.bk [.sl h'.next 0 S[i].length (.fix S[i].length)])
  have own1:Zg ((h'.add (.bk (S[i].map encI).flatten)).add (.bk [.sl h'.next 0 S[i].length (.fix S[i].length)])) (.sl (h'.next+1) 0 1 (.fix 1)) 1 [[.sl h'.next 0 S[i].length (.fix S[i].length)]]:=Zg.new _ (by rw[H.next_add]) rfl yfe yfe yfe
  refine ZQ.push (o.mono sE) hw (by simp only[List.length_map,List.length_take];omega) (ov.mono sDE) dv own1 fun x' h3 o3 k3=>?_
  have eS:(S.take i).map (fun l=>l.map encI)++[S[i].map encI]=(S.take (i+1)).map fun l=>l.map encI:=by rw[List.take_succ_eq_append_getElem hi,List.map_append];rfl
  rw[eS] at o3
  simp(disch:=omega)only[go_sem,t3,t9,t10,t11,Zc]
  exact⟨_,_,x',rfl,o3,yfe,yft,(by simp[t10]),yfe⟩
 ·rintro s ⟨tm,h',x,rfl,o,t3,t9,t10,t11⟩
  rw[List.take_length] at o
  have hs:h.Sub h':=by obtain⟨_,a1,_⟩:=id o;exact a1.1
  have x1:x.one=true:=by obtain⟨_,a1,_⟩:=id o;exact a1.one
  simp(disch:=omega)only[go_sem,t3,t9,t10,t11,Int.lt_irrefl]
  exact q _ _ hs x1 (ZQ.rdI o hl hll)
def longB (S:List (List Int)):Bool:=(S.any fun l=>decide (15<l.length))||decide (15<S.length)
theorem long_ev {h:H}{y:V}{S:List (List Int)}(hw:h.wf)(hS:RdI h y S)(Q:V→H→Prop)(q:Q (.bool (longB S)) h):
  Ev fnG Zm (.fn 8 [] []) [y] h Q:=by
 have ly:=hS.len
 have hb:=hS.bound
 refine Zd (fd:=c8) rfl rfl rfl ?_
 simp(disch:=omega)only[c8,go_sem,ly]
 refine Zh S.length (fun i s=>∃tm,s=⟨tm,h,[]⟩∧(∀j (hj:j<S.length),j<i→¬15<S[j].length)∧tm.E 0=y∧tm.E 5=y∧tm.E 6=.ii (S.length:Int)∧tm.E 7=.ii (i:Int))
  ?_ ?_ (i:=0) (Nat.zero_le _) ⟨_,rfl,fun j hj h0=>by omega,yfe,yfe,yfe,yfe⟩
 ·rintro i s hi ⟨tm,rfl,hno,t0,t5,t6,t7⟩
  have hi':(i:Int)<(S.length:Int):=by omega
  obtain⟨b,oo,cs,v,e1,e2,e3,e4⟩:=hS.row hi
  have lv:=e4.lenE
  by_cases c:15<S[i].length
  ·have c':(15:Int)<(S[i].length:Int):=by omega
   have e:longB S=true:=by
    unfold longB
    rw[Bool.or_eq_true,List.any_eq_true]
    exact .inl ⟨_,List.getElem_mem hi,decide_eq_true c⟩
   rw[e] at q
   simp(disch:=omega)only[go_sem,t0,t5,t6,t7,hi',e1,e2,e3,lv,c']
   exact q
  ·have c':¬(15:Int)<(S[i].length:Int):=by omega
   simp(disch:=omega)only[go_sem,t0,t5,t6,t7,hi',e1,e2,e3,lv,c',Zc]
   exact⟨_,rfl,fun j hj h0=>by
    by_cases e:j=i
    ·subst e;exact c
    ·exact hno j hj yfb,yfy,yfp,yfl,yfe⟩
 ·rintro s ⟨tm,rfl,hno,t0,t5,t6,t7⟩
  have e:longB S=decide ((15:Int)<(S.length:Int)):=by
   unfold longB
   have:(S.any fun l=>decide (15<l.length))=false:=by
    rw[List.any_eq_false]
    intro l hl
    obtain⟨j,hj,rfl⟩:=List.getElem_of_mem hl
    simpa using hno j hj hj
   rw[this,Bool.false_or,decide_eq_decide];omega
  rw[e] at q
  simp(disch:=omega)only[go_sem,t0,t5,t6,t7,Int.lt_irrefl,ly]
  exact q
theorem longB_of {S:List (List Int)}(h:longB S=false):S.length≤15∧∀l∈S,l.length≤15:=by
 unfold longB at h
 rw[Bool.or_eq_false_iff,List.any_eq_false] at h
 refine⟨by have:=of_decide_eq_false h.2;omega,fun l hl=>by have:=h.1 l hl;simp at this;omega⟩
def wideB (t:Tb):Bool:=YO t||(decide (7<t.pieces.length)&&decide (t.pieces.length≤9))
theorem wide_ev {h:H}{v:V}{t:Tb}(hw:h.wf)(ht:ZK h v t)(Q:V→H→Prop)(q:∀h',h.Sub h'→Q (.bool (wideB t)) h'):Ev fnG Zm (.fn 7 [] []) [v] h Q:=by
 have ht0:=ht
 obtain⟨E,L,P,rfl,aE,aL,aP⟩:=ht
 have hlP:=aP.lenE
 refine Zd (fd:=c7) rfl rfl rfl ?_
 have s1:h.Sub (h.add (.bk [E,L,P])):=yfa
 have g1:(h.add (.bk [E,L,P])).cells h.next=some [E,L,P]:=Zf rfl
 simp(disch:=omega)only[c7,go_sem]
 generalize h.add (.bk [E,L,P])=h1 at s1 g1⊢
 refine great_ev s1.wf (ht0.mono s1) _ fun h2 s2=>?_
 have s12:=s1.trans s2
 have q':=q _ s12
 unfold wideB at q'
 cases hg:YO t
 ·rw[hg,Bool.false_or] at q'
  by_cases c1:7<t.pieces.length
  ·have c1':decide ((7:Int)<(t.pieces.length:Int))=true:=decide_eq_true yfb
   rw[decide_eq_true c1,Bool.true_and] at q'
   have e:decide (t.pieces.length≤9)=decide ((t.pieces.length:Int)≤9):=by rw[decide_eq_decide];omega
   rw[e] at q'
   simp(disch:=omega)only[go_sem,s2.cells g1,hlP,c1']
   exact q'
  ·have c1':decide ((7:Int)<(t.pieces.length:Int))=false:=decide_eq_false yfb
   rw[decide_eq_false c1,Bool.false_and] at q'
   simp(disch:=omega)only[go_sem,s2.cells g1,hlP,c1']
   exact q'
 ·rw[hg,Bool.true_or] at q'
  simp(disch:=omega)only[go_sem]
  exact q'
end Go.Ab.Tryz
namespace Go.Ab.Tryz
open Go.Ab.Silk (Inc Zo YV)
theorem zero_bits:∀{k:Nat} {s:Int},0<k→((0:Int)∈Zo k s 0↔s%2=1)
 |0,_,h=>by omega
 |k+1,s,_=>by
  rw[show Zo (k+1) s 0=if s%2=1 then 0::Zo k (s/2) (0+1) else Zo k (s/2) (0+1) from rfl]
  have hn:(0:Int) ∉Zo k (s/2) (0+1):=fun h=>by have:=(Silk.VE k (s/2) (0+1)).mem 0 h;omega
  split
  ·rename_i c
   exact⟨fun _=>c,fun _=>by simp⟩
  ·rename_i c
   exact⟨fun h=>absurd h hn,fun h=>absurd h c⟩
section
variable {T:Int→Int→Bool} {n:Nat} {l:List Int}
def pkS (l:List Int)(s:Int):List Int:=pickI l (Zo l.length s 0)
def okS (T:Int→Int→Bool)(l:List Int)(s:Int):Bool:=XS T (pkS l s) (pkS l s).length
def rlS (l:List Int)(s:Int):List Int:=l.filter fun x=> !decide (x∈pkS l s)
theorem pkS_pw (pw:l.Pairwise (· < ·))(s:Int):(pkS l s).Pairwise (· < ·):=pick_pw pw (Xq _ _)
theorem pkS_filter (pw:l.Pairwise (· < ·))(s:Int):pkS l s=l.filter fun x=>decide (x∈pkS l s):=pick_filter pw (Xq _ _)
theorem rlS_val (pw:l.Pairwise (· < ·))(s:Int):val l=val (pkS l s)+val (rlS l s):=by
 have:=val_filter (fun x=>decide (x∈pkS l s)) l
 rw[←pkS_filter pw] at this;exact this
theorem rlS_inc (inc:Inc n 0 l)(s:Int):Inc n 0 (rlS l s):=Inc.filt inc _
theorem pkS_first (hl:0<l.length){s:Int}(odd:s%2=1):l[0]∈pkS l s:=by
 have:(0:Int)∈Zo l.length s 0:=(zero_bits hl).2 odd
 unfold pkS pickI
 refine List.mem_map.2 ⟨0,this,?_⟩
 rw[show(0:Int).toNat=0 from rfl,getD_at hl]
theorem dp_iff (sy:∀x y,T x y=T y x)(inc:Inc n 0 l)(hl:0<l.length)(m:Nat):
  ColL T l m↔(n+1≤m∨∃j:Nat,j<2^(l.length-1)∧okS T l (2*(j:Int)+1)=true∧1≤m∧ColL T (rlS l (2*(j:Int)+1)) (m-1)):=by
 have pw:=Inc.pw inc
 have h0:=List.getElem_mem hl
 constructor
 ·intro h
  right
  obtain⟨c,c1,c2,c3,c4⟩:=(colL_step h0 m).1 h
  obtain⟨one,i1,i2,i3⟩:=filter_pick pw c
  obtain⟨s,s0,s1,e⟩:=YV l.length 0 one (by rw[Int.zero_add];exact i1)
  have hz:(0:Int)∈one:=(i3 0 hl).2 c1
  rw[←e] at hz
  have odd:=(zero_bits hl).1 hz
  have hp:(2:Int)^l.length=2*((2^(l.length-1):Nat):Int):=by
   obtain⟨k,ek⟩:∃k,l.length=k+1:=⟨l.length-1,by omega⟩
   rw[ek,Int.pow_succ];simp;omega
  have es:s=2*(((s/2).toNat:Nat):Int)+1:=by omega
  have epk:pkS l s=l.filter c:=by unfold pkS;rw[e,i2]
  have erl:rlS l s=l.filter fun x=> !c x:=by
   unfold rlS;rw[epk]
   refine List.filter_congr fun x hx=>?_
   congr 1
   rw[Bool.eq_iff_iff,decide_eq_true_eq,List.mem_filter]
   exact⟨fun h=>h.2,fun h=>⟨hx,h⟩⟩
  refine⟨(s/2).toNat,by omega,?_,c3,?_⟩
  ·rw[←es];unfold okS
   rw[okTo_clq sy (pkS_pw pw s),epk];exact c2
  ·rw[←es,erl];exact c4
 ·rintro(h|⟨j,hj,h1,h2,h3⟩)
  ·exact colL_big inc yfb
  ·refine(colL_step h0 m).2 ⟨fun x=>decide (x∈pkS l (2*(j:Int)+1)),?_,?_,h2,h3⟩
   ·exact decide_eq_true (pkS_first hl yfb)
   ·rw[←pkS_filter pw]
    unfold okS at h1
    exact(okTo_clq sy (pkS_pw pw _)).1 h1
def VL (T:Int→Int→Bool)(n:Nat)(F:Int→Int)(s:Int):Prop:=∀u,0≤u→u<s→∃k:Nat,F u=(k:Int)∧∀m,k≤m↔ColL T (Zo n u 0) m
def VOk (T:Int→Int→Bool)(n:Nat)(l:List Int)(v:Int)(j:Nat):Prop:=∃k:Nat,v=(k:Int)∧k≤n+1∧∀m,k≤m↔(n+1≤m∨∃j':Nat,j'<j∧okS T l (2*(j':Int)+1)=true∧1≤m∧ColL T (rlS l (2*(j':Int)+1)) (m-1))
theorem VOk.zero:VOk T n l ((n+1:Nat):Int) 0:=⟨n+1,rfl,Nat.le_refl _,fun m=>⟨.inl,fun h=>h.elim id fun⟨_,h,_⟩=>by omega⟩⟩
theorem VOk.skip {v:Int}{j:Nat}(a:VOk T n l v j)(h:okS T l (2*(j:Int)+1)=false):VOk T n l v (j+1):=by
 obtain⟨k,e,hk,a⟩:=a
 refine⟨k,e,hk,fun m=>?_⟩
 rw[a]
 constructor
 ·rintro(h1|⟨j',h1,h2⟩)
  ·exact .inl h1
  ·exact .inr ⟨j',by omega,h2⟩
 ·rintro(h1|⟨j',h1,h2⟩)
  ·exact .inl h1
  ·by_cases e:j'=j
   ·subst e;rw[h] at h2;cases h2.1
   ·exact .inr ⟨j',by omega,h2⟩
theorem VOk.take {v:Int}{j:Nat}(a:VOk T n l v j)(h:okS T l (2*(j:Int)+1)=true){r:Nat}(hr:∀m,r≤m↔ColL T (rlS l (2*(j:Int)+1)) m):VOk T n l (min v ((r:Int)+1)) (j+1):=by
 obtain⟨k,rfl,hk,a⟩:=a
 refine⟨min k (r+1),by omega,by omega,fun m=>?_⟩
 have e:min k (r+1)≤m↔k≤m∨(1≤m∧r≤m-1):=by omega
 rw[e,a,hr]
 constructor
 ·rintro((h1|⟨j',h1,h2⟩)|h1)
  ·exact .inl h1
  ·exact .inr ⟨j',by omega,h2⟩
  ·exact .inr ⟨j,by omega,h,h1⟩
 ·rintro(h1|⟨j',h1,h2⟩)
  ·exact .inl (.inl h1)
  ·by_cases e:j'=j
   ·subst e;exact .inr h2.2
   ·exact .inl (.inr ⟨j',by omega,h2⟩)
theorem VOk.all {v:Int}(sy:∀x y,T x y=T y x)(inc:Inc n 0 l)(hl:0<l.length)(a:VOk T n l v (2^(l.length-1))):∃k:Nat,v=(k:Int)∧∀m,k≤m↔ColL T l m:=by
 obtain⟨k,e,_,a⟩:=a
 exact⟨k,e,fun m=>by rw[a,dp_iff sy inc hl]⟩
theorem VL.rest {F:Int→Int}{s:Int}(a:VL T n F s)(h1:s<2^n)(h0:0<s){j:Nat}(hl:0<(Zo n s 0).length)(el:Zo n s 0=l):
  ∃r:Nat,s-val (pkS l (2*(j:Int)+1))=val (rlS l (2*(j:Int)+1))∧(0≤val (rlS l (2*(j:Int)+1))∧val (rlS l (2*(j:Int)+1))<s)∧F (val (rlS l (2*(j:Int)+1)))=(r:Int)∧∀m,r≤m↔ColL T (rlS l (2*(j:Int)+1)) m:=by
 have inc:Inc n 0 l:=by rw[←el];exact Xq n s
 have pw:=Inc.pw inc
 have ev:val l=s:=by rw[←el];exact bits_val0 yfb h1
 have e1:=rlS_val pw (2*(j:Int)+1)
 have nn:=val_nn (rlS l (2*(j:Int)+1))
 rw[el] at hl
 have hf:=pkS_first hl (s:=2*(j:Int)+1) yfb
 have hpos:0<val (pkS l (2*(j:Int)+1)):=by
  cases hc:pkS l (2*(j:Int)+1) with
  |nil=>rw[hc] at hf;cases hf
  |cons a b=>
   have:=val_nn b
   have:(0:Int)<2^a.toNat:=Int.pow_pos (by decide)
   simp only[val];omega
 obtain⟨r,hr1,hr2⟩:=a (val (rlS l (2*(j:Int)+1))) nn yfb
 rw[(val_bits (rlS_inc inc _)).2] at hr2
 exact⟨r,by omega,⟨nn,by omega⟩,hr1,hr2⟩
theorem VL.last {F:Int→Int}(sy:∀x y,T x y=T y x)(a:VL T n F (2^n)):F (2^n-1)=(chi T n:Int):=by
 have hp:(0:Int)<2^n:=Int.pow_pos (by decide)
 obtain⟨k,h1,h2⟩:=a (2^n-1) yfb yfb
 rw[bits_full] at h2
 have e:∀m,k≤m↔chi T n≤m:=fun m=>by rw[h2,colL_chi sy]
 have a1:=(e k).1 (Nat.le_refl _)
 have a2:=(e (chi T n)).2 (Nat.le_refl _)
 rw[h1];omega
end
end Go.Ab.Tryz
namespace Go.Ab.Tryz
open Go.Ab.Silk (Inc Zo ZI)
theorem fset_ne {f:Int→Int}{i x k:Int}(h:k≠i):fset f i x k=f k:=if_neg h
theorem fset_eq (f:Int→Int)(i x:Int):fset f i x i=x:=if_pos rfl
theorem VL.set {T:Int→Int→Bool}{n:Nat}{F:Int→Int}{s:Int}(a:VL T n F s)(v:Int):VL T n (fset F s v) s:=fun u u0 u1=>by
 rw[fset_ne yfb];exact a u u0 u1
theorem VL.next {T:Int→Int→Bool}{n:Nat}{F:Int→Int}{s:Int}(a:VL T n F s)(h:∃k:Nat,F s=(k:Int)∧∀m,k≤m↔ColL T (Zo n s 0) m):VL T n F (s+1):=fun u u0 u1=>by
 by_cases e:u=s
 ·subst e;exact h
 ·exact a u u0 yfb
structure DpAt (T:Int→Int→Bool)(n N:Nat)(h0 h:H)(b:Nat)(F:Int→Int)(s:Int):Prop where
 sub:h0.Sub h
 get:h.get b=some (.bk (tab F N))
 few:VL T n F s
 pos:1≤s
theorem DpAt.mono {T:Int→Int→Bool}{n N:Nat}{h0 h h':H}{b:Nat}{F:Int→Int}{s:Int}(a:DpAt T n N h0 h b F s)(k:h.Sub h'):DpAt T n N h0 h' b F s:=⟨a.sub.trans k,k.get a.get,a.few,a.pos⟩
theorem DpAt.put {T:Int→Int→Bool}{n N:Nat}{h0 h:H}{b:Nat}{F:Int→Int}{s:Int}(a:DpAt T n N h0 h b F s)(hb:h0.next≤b)(hw0:h0.wf)(v:Int):DpAt T n N h0 (h.set b (.bk (tab (fset F s v) N))) b (fset F s v) s:=
 ⟨a.sub.set hb (a.sub.wf _ _ a.get) hw0 _,get_set_same rfl,a.few.set v,a.pos⟩
set_option maxRecDepth 4000 in
set_option maxHeartbeats 8000000 in
theorem refSort_ev {h:H}{v:V}{t:Tb}(hw:h.wf)(ht:ZK h v t)(g:Good t)(Q:V→H→Prop)
  (q:∀h',h.Sub h'→Q (.ii (chi (mT t) t.pieces.length:Int)) h'):Ev fnG Zm (.fn 16 [] []) [v] h Q:=by
 have ht0:=ht
 obtain⟨E,L,P,rfl,aE,aL,aP⟩:=ht
 have hlP:=aP.lenE
 have gp:=g.pieces
 have sy:=mT_comm g
 have s1:h.Sub (h.add (.bk [E,L,P])):=yfa
 have g1:(h.add (.bk [E,L,P])).cells h.next=some [E,L,P]:=Zf rfl
 refine Zd (fd:=c16) rfl rfl rfl ?_
 simp(disch:=omega)only[c16,go_sem]
 generalize h.add (.bk [E,L,P])=h1 at s1 g1⊢
 refine WX s1.wf (ht0.mono s1) g _ fun x hM oM=>?_
 have s1M:h1.Sub hM:=by obtain⟨_,a1,_⟩:=oM;exact a1.1
 have gM:=s1M.cells g1
 have h2p:(2:Int)^t.pieces.length=((2^t.pieces.length:Nat):Int):=by simp
 have hset:=fun(hh:H) (R:V→H→Prop)=>sets_ev (h:=hh) (n:=t.pieces.length) yfb R
 have hp10:=pow_le (i:=t.pieces.length) yfb
 have hp1:1≤2^t.pieces.length:=Nat.one_le_two_pow
 obtain⟨N,eN⟩:∃N,2^t.pieces.length=N:=⟨_,rfl⟩
 rw[eN] at h2p hp10 hp1
 have sF:=(H.Sub.refl s1M.wf).add (.bk (tab (fun _=>0) N))
 have gF:(hM.add (.bk (tab (fun _=>0) N))).get hM.next=some (.bk (tab (fun _=>0) N)):=Zn rfl
 simp(disch:=omega)only[go_sem,gM,hlP,hset,h2p,a_msl_nm,tab_zero]
 have D0:DpAt (mT t) t.pieces.length N hM (hM.add (.bk (tab (fun _=>0) N))) hM.next (fun _=>0) ((1:Nat):Int):=⟨sF,gF,fun u u0 u1=>⟨0,rfl,fun m=>⟨fun _=>by
   have:u=0:=by omega
   rw[this,bits_zero];exact colL_nil _ _,fun _=>Nat.zero_le _⟩⟩,by omega⟩
 generalize hM.add (.bk (tab (fun _=>0) N))=hF at D0⊢
 clear sF gF
 obtain⟨bF,eb⟩:∃bF,hM.next=bF:=⟨_,rfl⟩
 rw[eb] at D0⊢
 refine Zh N (fun i s=>∃tm hh F,s=⟨tm,hh,[]⟩∧DpAt (mT t) t.pieces.length N hM hh bF F (i:Int)∧tm.E 1=.ptr h.next 0∧tm.E 3=x∧tm.E 4=.sl bF 0 N (.fix N)∧tm.E 5=.ii (i:Int))
  ?_ ?_ (i:=1) hp1 ⟨_,_,_,rfl,D0,yfc,yfc,yfc,yfc⟩
 ·rintro i s hi ⟨tm,hh,F,rfl,D,t1,t3,t4,t5⟩
  have hi':(i:Int)<(N:Int):=by omega
  have hi2:(i:Int)<2^t.pieces.length:=by rw[h2p];exact hi'
  have hi1:=D.pos
  have es:((i+1:Nat):Int)=(i:Int)+1:=by omega
  have gB:=D.get
  have D1:=D.put yfb s1M.wf ((t.pieces.length+1:Nat):Int)
  have np1:((t.pieces.length:Nat):Int)+1=((t.pieces.length+1:Nat):Int):=by omega
  have ltb:=D.sub.wf _ _ gB
  have ltb1:bF<(hh.set bF (.bk (tab (fset F (i:Int) ((t.pieces.length+1:Nat):Int)) N))).next:=by rw[H.next_set];exact ltb
  simp(disch:=omega)only[go_sem,t1,t3,t4,t5,hi',D.sub.cells gM,hlP,Zc,ZZ (Ze i) hi,Nat.mul_one,gB,tab_st2 hi]
  generalize hh.set bF (.bk (tab (fset F (i:Int) ((t.pieces.length+1:Nat):Int)) N))=h2 at D1 ltb1⊢
  refine VS (n:=t.pieces.length) D1.sub.wf yfb yfb hi2 _ fun z h3 oz=>?_
  have incl:=Xq t.pieces.length (i:Int)
  have hlz:(Zo t.pieces.length (i:Int) 0).length≤9:=by have:=incl.len yfb;omega
  have hlp:=bits_pos hi1 hi2
  have pw:=Inc.pw incl
  have hmem:=fun x hx=>incl.mem x hx
  have hrest:=fun(F':Int→Int) (a:VL (mT t) t.pieces.length F' (i:Int)) (j:Nat)=>a.rest (j:=j) hi2 yfb hlp rfl
  have hall:=fun v=>VOk.all (T:=mT t) (v:=v) sy incl hlp
  have hvl:val (Zo t.pieces.length (i:Int) 0)=(i:Int):=bits_val0 yfb hi2
  obtain⟨l,el⟩:∃l,Zo t.pieces.length (i:Int) 0=l:=⟨_,rfl⟩
  rw[el] at oz hlz hlp pw hmem hall hvl incl
  have hrest':∀(F':Int→Int) (a:VL (mT t) t.pieces.length F' (i:Int)) (j:Nat),∃r:Nat,(i:Int)-val (pkS l (2*(j:Int)+1))=val (rlS l (2*(j:Int)+1))∧(0≤val (rlS l (2*(j:Int)+1))∧val (rlS l (2*(j:Int)+1))<(i:Int))∧F' (val (rlS l (2*(j:Int)+1)))=(r:Int)∧∀m,r≤m↔ColL (mT t) (rlS l (2*(j:Int)+1)) m:=fun F' a j=>by
   have:=hrest F' a j;rw[el] at this;exact this
  clear hrest
  have az:=oz.sl yfi
  have lz:=az.lenE
  have bz:∀b,Zk z b→b≠bF:=fun b hb e=>by have:=(oz.blk hb).1;omega
  have D3:=D1.mono oz.1
  have k2p:(2:Int)^l.length=2*((2^(l.length-1):Nat):Int):=by
   obtain⟨k,ek⟩:∃k,l.length=k+1:=⟨l.length-1,by omega⟩
   rw[ek,Int.pow_succ];simp;omega
  have kp10:=pow_le (i:=l.length-1) yfb
  have hset2:=fun(hh:H) (R:V→H→Prop)=>sets_ev (h:=hh) (n:=l.length) yfb R
  have V0:VOk (mT t) t.pieces.length l (fset F (i:Int) ((t.pieces.length+1:Nat):Int) (i:Int)) 0:=by rw[fset_eq];exact VOk.zero
  simp(disch:=omega)only[go_sem,t1,t3,t4,t5]
  refine W.mono (Q:=fun x1 s=>x1=.ext 2∧∃tm h4 F',s=⟨tm,h4,[]⟩∧DpAt (mT t) t.pieces.length N hM h4 bF F' (i:Int)∧VOk (mT t) t.pieces.length l (F' (i:Int)) (2^(l.length-1))∧tm.E 1=.ptr h.next 0∧tm.E 3=x∧tm.E 4=.sl bF 0 N (.fix N)∧tm.E 5=.ii (i:Int))
   (Zh (2^(l.length-1)) (fun j s=>∃tm h4 F',s=⟨tm,h4,[]⟩∧DpAt (mT t) t.pieces.length N hM h4 bF F' (i:Int)∧VOk (mT t) t.pieces.length l (F' (i:Int)) j∧Zg h4 z 1 (l.map encI)∧tm.E 1=.ptr h.next 0∧tm.E 3=x∧tm.E 4=.sl bF 0 N (.fix N)∧tm.E 5=.ii (i:Int)∧tm.E 6=z∧tm.E 7=.ii (2*(j:Int)+1))
   ?_ ?_ (i:=0) (Nat.zero_le _) ⟨_,_,_,rfl,D3,V0,az,yfd,yff,yfq,yfs,yfc,yfc⟩) fun x1 s hx1=>?_
  ·clear t1 t3 t4 t5 az D D1 D3 V0 gB
   rintro j s hj ⟨tm,h4,F',rfl,D,vo,az,t1,t3,t4,t5,t6,t7⟩
   have hj':2*(j:Int)+1<2*((2^(l.length-1):Nat):Int):=by omega
   simp(disch:=omega)only[go_sem,t1,t3,t4,t5,t6,t7,lz,hset2,k2p,hj']
   refine VS (n:=l.length) D.sub.wf yfb yfb (by rw[k2p];exact hj') _ fun z2 h5 oz2=>?_
   have s45:=oz2.1
   obtain⟨one,eone⟩:∃one,Zo l.length (2*(j:Int)+1) 0=one:=⟨_,rfl⟩
   have inc1:=Xq l.length (2*(j:Int)+1)
   have epk:pkS l (2*(j:Int)+1)=pickI l one:=by unfold pkS;rw[eone]
   rw[eone] at oz2 inc1
   have l1:=inc1.len yfb
   have az2:=oz2.sl yfi
   have lz2:=az2.lenE
   have az5:=az.mono s45
   have D5:=D.mono s45
   have oM5:=oM.mono D5.sub
   obtain⟨pk,hpk⟩:∃pk,pickI l one=pk:=⟨_,rfl⟩
   have lpk:pk.length=one.length:=by rw[←hpk];simp[pickI]
   have pkm:∀y∈pk,y∈l:=fun y hy=>by rw[←hpk] at hy;exact pick_mem inc1 hy
   have pka:∀a (ha:a<one.length),∃ia:Nat,∃hia:ia<l.length,one[a]=(ia:Int)∧pk.getD a 0=l[ia]:=fun a ha=>by
    have h1:=inc1.mem _ (List.getElem_mem ha)
    refine⟨one[a].toNat,by omega,by omega,?_⟩
    rw[getD_at yfb]
    subst hpk
    unfold pickI
    rw[List.getElem_map,getD_at yfb]
   have hvp:∀a,0≤val (pk.take a)∧val (pk.take a)≤1024:=fun a=>by
    refine⟨val_nn _,?_⟩
    have h1:val pk=val (pk.take a)+val (pk.drop a):=by rw[←val_app,List.take_append_drop]
    have h2:=val_nn (pk.drop a)
    have h3:=rlS_val pw (2*(j:Int)+1)
    have h4:=val_nn (rlS l (2*(j:Int)+1))
    rw[epk,hpk] at h3
    omega
   rw[hpk] at epk
   simp(disch:=omega)only[go_sem,t1,t3,t4,t5,t6,t7]
   refine W.mono (Q:=fun x1 s=>x1=.ext 4∧∃tm,s=⟨tm,h5,[]⟩∧tm.E 1=.ptr h.next 0∧tm.E 3=x∧tm.E 4=.sl bF 0 N (.fix N)∧tm.E 5=.ii (i:Int)∧tm.E 6=z∧tm.E 7=.ii (2*(j:Int)+1)∧tm.E 9=.bool (XS (mT t) pk pk.length)∧tm.E 11=.ii (val pk))
    (Zh one.length (fun a s=>∃tm,s=⟨tm,h5,[]⟩∧tm.E 1=.ptr h.next 0∧tm.E 3=x∧tm.E 4=.sl bF 0 N (.fix N)∧tm.E 5=.ii (i:Int)∧tm.E 6=z∧tm.E 7=.ii (2*(j:Int)+1)∧tm.E 8=z2∧tm.E 9=.bool (XS (mT t) pk a)∧tm.E 11=.ii (val (pk.take a))∧tm.E 12=.ii (a:Int))
    ?_ ?_ (i:=0) (Nat.zero_le _) ⟨_,rfl,yfd,yff,yfq,yfs,yfu,yfg,yfc,yfc,yfc,yfc⟩) fun x1 s hx1=>?_
   ·clear t1 t3 t4 t5 t6 t7
    rintro a s ha ⟨tm,rfl,t1,t3,t4,t5,t6,t7,t8,t9,t11,t12⟩
    have ha':(a:Int)<(one.length:Int):=by omega
    obtain⟨ia,hia,ea1,ea2⟩:=pka a ha
    obtain⟨bA,oA,csA,f1,f2,f3⟩:=Zg.elemF az2 ha
    rw[ea1] at f3
    obtain⟨bA2,oA2,csA2,f4,f5,f6⟩:=Zg.elemF az5 hia
    have ma:=hmem _ (List.getElem_mem hia)
    have ez:XS (mT t) pk a=(XS (mT t) pk a&&XQ (mT t) pk a 0):=by simp[XQ]
    have hseta:=fun(hh:H) (R:V→H→Prop)=>sets_ev (h:=hh) (n:=l[ia].toNat) yfb R
    have etn:((l[ia].toNat:Nat):Int)=l[ia]:=by omega
    rw[etn] at hseta
    have hva:=hvp a
    have hva1:=hvp (a+1)
    have ev1:val (pk.take (a+1))=val (pk.take a)+2^l[ia].toNat:=by
     rw[List.take_succ_eq_append_getElem yfb,val_app]
     have:pk[a]=l[ia]:=by rw[←ea2,getD_at yfb]
     rw[this];simp[val]
    have wv:wr .i64 (val (pk.take a)+2^l[ia].toNat)=val (pk.take (a+1)):=by rw[←ev1,ZC yfb yfb]
    simp(disch:=omega)only[go_sem,t1,t3,t4,t5,t6,t7,t8,t9,t11,t12,lz2,ha']
    refine W.mono (Q:=fun x1 s=>x1=.ext 6∧∃tm,s=⟨tm,h5,[]⟩∧tm.E 1=.ptr h.next 0∧tm.E 3=x∧tm.E 4=.sl bF 0 N (.fix N)∧tm.E 5=.ii (i:Int)∧tm.E 6=z∧tm.E 7=.ii (2*(j:Int)+1)∧tm.E 8=z2∧tm.E 9=.bool (XS (mT t) pk (a+1))∧tm.E 11=.ii (val (pk.take a))∧tm.E 12=.ii (a:Int))
     (Zh a (fun k s=>∃tm,s=⟨tm,h5,[]⟩∧tm.E 1=.ptr h.next 0∧tm.E 3=x∧tm.E 4=.sl bF 0 N (.fix N)∧tm.E 5=.ii (i:Int)∧tm.E 6=z∧tm.E 7=.ii (2*(j:Int)+1)∧tm.E 8=z2∧tm.E 9=.bool (XS (mT t) pk a&&XQ (mT t) pk a k)∧tm.E 11=.ii (val (pk.take a))∧tm.E 12=.ii (a:Int)∧tm.E 13=.ii (k:Int))
     ?_ ?_ (i:=0) (Nat.zero_le _) ⟨_,rfl,yfd,yff,yfq,yfs,yfu,yfg,yfh,by rw[←ez];exact yfk,yfw,yfx,yfc⟩) fun x1 s hx1=>?_
    ·clear t1 t3 t4 t5 t6 t7 t8 t9 t11 t12
     rintro k s hk ⟨tm,rfl,t1,t3,t4,t5,t6,t7,t8,t9,t11,t12,t13⟩
     have hk':(k:Int)<(a:Int):=by omega
     have hst:=okRow_step (mT t) pk a k
     cases hok1:(XS (mT t) pk a&&XQ (mT t) pk a k)
     ·rw[hok1] at t9
      have e2:(XS (mT t) pk a&&XQ (mT t) pk a (k+1))=false:=by rw[hst,←Bool.and_assoc,hok1];rfl
      simp(disch:=omega)only[go_sem,t1,t3,t4,t5,t6,t7,t8,t9,t11,t12,t13,hk',Zc]
      exact⟨_,rfl,yfd,yff,yfq,yfs,yfu,yfg,yfh,by rw[e2];exact yfc,yfw,yfx,yfc⟩
     ·rw[hok1] at t9
      obtain⟨ik,hik,ek1,ek2⟩:=pka k yfb
      obtain⟨bK,oK,csK,f7,f8,f9⟩:=Zg.elemF az2 (show k<one.length by omega)
      rw[ek1] at f9
      obtain⟨bK2,oK2,csK2,f10,f11,f12⟩:=Zg.elemF az5 hik
      have mk:=hmem _ (List.getElem_mem hik)
      obtain⟨b,o,cs,row,b2,o2,cs2,m1,m2,m3,m4,m5,m6⟩:=mats_int g gp oM5 (p:=l[ia]) (q:=l[ik]) ma mk
      have e2:(XS (mT t) pk a&&XQ (mT t) pk a (k+1))=mT t l[ia] l[ik]:=by rw[hst,←Bool.and_assoc,hok1,Bool.true_and,ea2,ek2]
      simp(disch:=omega)only[go_sem,t1,t3,t4,t5,t6,t7,t8,t9,t11,t12,t13,hk',f1,f2,f3,f4,f5,f6,f7,f8,f9,f10,f11,f12,m1,m2,m3,m4,m5,m6,Zc]
      exact⟨_,rfl,yfd,yff,yfq,yfs,yfu,yfg,yfh,by rw[e2];exact yfc,yfw,yfx,yfc⟩
    ·clear t1 t3 t4 t5 t6 t7 t8 t9 t11 t12
     rintro s ⟨tm,rfl,t1,t3,t4,t5,t6,t7,t8,t9,t11,t12,t13⟩
     simp(disch:=omega)only[go_sem,t1,t3,t4,t5,t6,t7,t8,t9,t11,t12,t13,Int.lt_irrefl]
     exact⟨_,rfl,yfd,yff,yfq,yfs,yfu,yfg,yfh,by rw[okTo_step];exact yfk,yfw,yfx⟩
    clear t1 t3 t4 t5 t6 t7 t8 t9 t11 t12
    obtain⟨rfl,tm,rfl,t1,t3,t4,t5,t6,t7,t8,t9,t11,t12⟩:=hx1
    simp(disch:=omega)only[go_sem,t1,t3,t4,t5,t6,t7,t8,t9,t11,t12,f1,f2,f3,f4,f5,f6,hseta,wv,Zc]
    exact⟨_,rfl,yfd,yff,yfq,yfs,yfu,yfg,yfh,yfk,yfc,yfc⟩
   ·clear t1 t3 t4 t5 t6 t7
    rintro s ⟨tm,rfl,t1,t3,t4,t5,t6,t7,t8,t9,t11,t12⟩
    rw[←lpk,List.take_length] at t11
    simp(disch:=omega)only[go_sem,t1,t3,t4,t5,t6,t7,t8,t9,t11,t12,lz2,Int.lt_irrefl]
    exact⟨_,rfl,yfd,yff,yfq,yfs,yfu,yfg,by rw[lpk];exact yfk,yfw⟩
   clear t1 t3 t4 t5 t6 t7
   obtain⟨rfl,tm,rfl,t1,t3,t4,t5,t6,t7,t9,t11⟩:=hx1
   obtain⟨r,hr1,hr2,hr3,hr4⟩:=hrest' F' D.few j
   rw[epk] at hr1
   have eok:okS (mT t) l (2*(j:Int)+1)=XS (mT t) pk pk.length:=by unfold okS;rw[epk]
   have wsub:wr .i64 ((i:Int)-val pk)=val (rlS l (2*(j:Int)+1)):=by rw[hr1,ZC yfb yfb]
   have w2:wr .i64 (2*(j:Int)+1+2)=2*((j+1:Nat):Int)+1:=by rw[ZC yfb yfb];omega
   cases hfin:XS (mT t) pk pk.length
   ·rw[hfin] at t9 eok
    simp(disch:=omega)only[go_sem,t1,t3,t4,t5,t6,t7,t9,t11,wsub,w2]
    exact⟨_,_,F',rfl,D5,vo.skip eok,az5,yfd,yff,yfq,yfs,yfu,yfc⟩
   ·rw[hfin] at t9 eok
    obtain⟨rN,erN⟩:=Int.eq_ofNat_of_zero_le hr2.1
    rw[erN] at hr2 hr3 wsub
    have hrN:rN<N:=by omega
    have hvo:=vo.take eok hr4
    obtain⟨kk,hkk,hkb,_⟩:=id vo
    have gB:=D5.get
    have hr16:r≤9+1:=by
     have h1:=(hr4 (t.pieces.length)).2 (colL_big (rlS_inc incl _) (Nat.le_refl _))
     omega
    have wr1:wr .i64 ((r:Int)+1)=(r:Int)+1:=ZC yfb yfb
    have D6:=D5.put yfb s1M.wf (min (F' (i:Int)) ((r:Int)+1))
    have k6:=Zi.set h5 bF (.bk (tab (fset F' (i:Int) (min (F' (i:Int)) ((r:Int)+1))) N))
    have az6:=SlAt_keep2 az5 k6 fun _ b hb=>bz b hb
    have ni:=tab_at2 hi F'
    have nr:=tab_at2 hrN F'
    rw[hr3] at nr
    simp(disch:=omega)only[go_sem,t1,t3,t4,t5,t6,t7,t9,t11,wsub,w2,ZZ (Ze i) hi,ZZ (Ze rN) hrN,Nat.mul_one,Zb gB,gB,ni,nr,wr1,tab_st2 hi]
    exact⟨_,_,_,rfl,D6,by rw[fset_eq];exact hvo,az6,yfd,yff,yfq,yfs,yfu,yfc⟩
  ·clear t1 t3 t4 t5 az D D1 D3 V0 gB
   rintro s ⟨tm,h4,F',rfl,D,vo,az,t1,t3,t4,t5,t6,t7⟩
   have hnl:¬2*((2^(l.length-1):Nat):Int)+1<2*((2^(l.length-1):Nat):Int):=by omega
   simp(disch:=omega)only[go_sem,t1,t3,t4,t5,t6,t7,lz,hset2,k2p,hnl]
   exact⟨_,_,F',rfl,D,vo,yfd,yff,yfq,yfs⟩
  clear t1 t3 t4 t5 az D D1 D3 V0 gB
  obtain⟨rfl,tm,h4,F',rfl,D,vo,t1,t3,t4,t5⟩:=hx1
  simp(disch:=omega)only[go_sem,t1,t3,t4,t5,Zc]
  exact⟨_,_,F',rfl,⟨D.sub,D.get,by rw[es];exact D.few.next (by rw[el];exact hall _ vo),by omega⟩,yfd,yff,yfq,yfc⟩
 ·rintro s ⟨tm,hh,F,rfl,D,t1,t3,t4,t5⟩
  have hf:=D.few
  rw[←h2p] at hf
  have hch:=hf.last sy
  have eN1:(2:Int)^t.pieces.length-1=((N-1:Nat):Int):=by omega
  rw[eN1] at hch
  have wN:wr .i64 ((N:Int)-1)=((N-1:Nat):Int):=by rw[ZC yfb yfb];omega
  have nN:=tab_at2 (show N-1<N by omega) F
  rw[hch] at nN
  simp(disch:=omega)only[go_sem,t1,t3,t4,t5,Int.lt_irrefl,wN,ZZ (Ze (N-1)) (show N-1<N by omega),Nat.mul_one,Zb D.get,nN]
  exact q _ (s1.trans (s1M.trans D.sub))
end Go.Ab.Tryz
namespace Go.Ab.Tryz
open Go.Ab.Silk (Inc Zo ZI)
set_option maxHeartbeats 4000000 in
theorem refMost_ev {h:H}{v:V}{t:Tb}(hw:h.wf)(ht:ZK h v t)(g:Good t)(mt:Bool)(pc:Int)(Q:V→H→Prop)
  (q:∀y h',h.Sub h'→OutAt h' y (lastOf (Yv (mB t mt) (X6 pc)) t.pieces.length t.pieces.length)→Q y h'):Ev fnG Zm (.fn 15 [] []) [v,.bool mt,.ii pc] h Q:=by
 have ht0:=ht
 obtain⟨E,L,P,rfl,aE,aL,aP⟩:=ht
 have hlP:=aP.lenE
 have gp:=g.pieces
 have s1:h.Sub (h.add (.bk [E,L,P])):=yfa
 have g1:(h.add (.bk [E,L,P])).cells h.next=some [E,L,P]:=Zf rfl
 refine Zd (fd:=c15) rfl rfl rfl ?_
 simp(disch:=omega)only[c15,go_sem]
 generalize h.add (.bk [E,L,P])=h1 at s1 g1⊢
 refine WX s1.wf (ht0.mono s1) g _ fun x h2 oM=>?_
 have s12:h1.Sub h2:=by obtain⟨_,a1,_⟩:=oM;exact a1.1
 have g2:=s12.cells g1
 have h2p:(2:Int)^t.pieces.length=((2^t.pieces.length:Nat):Int):=by simp
 have hset:=fun(hh:H) (R:V→H→Prop)=>sets_ev (h:=hh) (n:=t.pieces.length) yfb R
 have hp1:1≤2^t.pieces.length:=Nat.one_le_two_pow
 have hp10:=pow_le (i:=t.pieces.length) yfb
 simp(disch:=omega)only[go_sem]
 refine Zh (2^t.pieces.length) (fun i s=>∃tm h' y best,s=⟨tm,h',[]⟩∧h2.Sub h'∧BestM (Yv (mB t mt) (X6 pc)) t.pieces.length (i:Int) best∧OutAt h' y best∧tm.E 1=.bool mt∧tm.E 2=.ii pc∧tm.E 3=.ptr h.next 0∧tm.E 7=x∧tm.E 8=y∧tm.E 9=.ii (i:Int))
  ?_ ?_ (i:=1) hp1 ⟨_,_,.nils,none,rfl,H.Sub.refl s12.wf,⟨Int.le_refl _,fun u a b=>by omega⟩,rfl,yfc,yfc,yfc,yfc,yfc,yfc⟩
 ·rintro i s hi ⟨tm,h',y,best,rfl,hs,hb,oy,t1,t2,t3,t7,t8,t9⟩
  have hi':(i:Int)<((2^t.pieces.length:Nat):Int):=by omega
  have hi2:(i:Int)<2^t.pieces.length:=by rw[h2p];exact hi'
  have hi1:=hb.1
  have es:((i+1:Nat):Int)=(i:Int)+1:=by omega
  simp(disch:=omega)only[go_sem,t1,t2,t3,t7,t8,t9,hs.cells g2,hlP,hset,h2p,hi']
  refine VS (n:=t.pieces.length) hs.wf yfb yfb hi2 _ fun z h3 oz=>?_
  have incl:=Xq t.pieces.length (i:Int)
  have hlz:(Zo t.pieces.length (i:Int) 0).length≤9:=by have:=incl.len yfb;omega
  have hlp:=bits_pos hi1 hi2
  have pw:=Inc.pw incl
  have hmem:=fun x hx=>incl.mem x hx
  obtain⟨l,el⟩:∃l,Zo t.pieces.length (i:Int) 0=l:=⟨_,rfl⟩
  have bsk:=hb.skip
  have btk:=hb.take hi2
  have hok:=mostP_ok (mt:=mt) (pc:=pc) g pw
  rw[el] at oz hlz hlp pw hmem bsk btk hok
  rw[←es] at bsk btk
  have az:=oz.sl yfi
  have lz:=az.lenE
  have hs3:=hs.trans oz.1
  have oy3:=oy.mono oz.1
  have pos0:¬(l.length:Int)<0:=by omega
  have pos1:¬(l.length:Int)=0:=by omega
  obtain⟨R,hR⟩:∃R:C,Xz [true,true,true,false,true,true,true,true,false,true,true,true] c15.body=R:=⟨_,rfl⟩
  have tail:∀(tm:Go.Ab.T V) (h4:H),h3.Sub h4→X6 pc l=true→(∀c,best=some c→¬l.length<c.length∧(l.length=c.length→ZI l c=true))→tm.E 1=.bool mt→tm.E 2=.ii pc→tm.E 3=.ptr h.next 0→tm.E 7=x→tm.E 8=y→tm.E 9=.ii (i:Int)→tm.E 10=z→
    W fnG Zm 86 15 none R ⟨tm,h4,[]⟩ fun x1 s=>x1=.nrm∧∃tm y best,s=⟨tm,h4,[]⟩∧BestM (Yv (mB t mt) (X6 pc)) t.pieces.length ((i+1:Nat):Int) best∧OutAt h4 y best∧tm.E 1=.bool mt∧tm.E 2=.ii pc∧tm.E 3=.ptr h.next 0∧tm.E 7=x∧tm.E 8=y∧tm.E 9=.ii (i:Int):=by
   clear t1 t2 t3 t7 t8 t9
   intro tm h4 s34 hhp hbt t1 t2 t3 t7 t8 t9 t10
   subst hR
   have az4:=az.mono s34
   have oM4:=oM.mono (hs3.trans s34)
   simp(disch:=omega)only[Xz,c15,go_sem,t1,t2,t3,t7,t8,t9,t10]
   refine W.mono (Q:=fun x1 s=>x1=.ext 2∧∃tm,s=⟨tm,h4,[]⟩∧tm.E 1=.bool mt∧tm.E 2=.ii pc∧tm.E 3=.ptr h.next 0∧tm.E 7=x∧tm.E 8=y∧tm.E 9=.ii (i:Int)∧tm.E 10=z∧tm.E 11=.bool (XS (mB t mt) l l.length))
    (Zh l.length (fun a s=>∃tm,s=⟨tm,h4,[]⟩∧tm.E 1=.bool mt∧tm.E 2=.ii pc∧tm.E 3=.ptr h.next 0∧tm.E 7=x∧tm.E 8=y∧tm.E 9=.ii (i:Int)∧tm.E 10=z∧tm.E 11=.bool (XS (mB t mt) l a)∧tm.E 12=.ii (a:Int))
    ?_ ?_ (i:=0) (Nat.zero_le _) ⟨_,rfl,yfd,yfj,yff,yfg,yfh,yfk,yfz,yfc,yfc⟩) fun x1 s hx1=>?_
   ·clear t1 t2 t3 t7 t8 t9 t10
    rintro a s ha ⟨tm,rfl,t1,t2,t3,t7,t8,t9,t10,t11,t12⟩
    have ha':(a:Int)<(l.length:Int):=by omega
    have ez:XS (mB t mt) l a=(XS (mB t mt) l a&&XQ (mB t mt) l a 0):=by simp[XQ]
    simp(disch:=omega)only[go_sem,t1,t2,t3,t7,t8,t9,t10,t11,t12,lz,ha']
    refine Zh a (fun k s=>∃tm,s=⟨tm,h4,[]⟩∧tm.E 1=.bool mt∧tm.E 2=.ii pc∧tm.E 3=.ptr h.next 0∧tm.E 7=x∧tm.E 8=y∧tm.E 9=.ii (i:Int)∧tm.E 10=z∧tm.E 11=.bool (XS (mB t mt) l a&&XQ (mB t mt) l a k)∧tm.E 12=.ii (a:Int)∧tm.E 13=.ii (k:Int))
     ?_ ?_ (i:=0) (Nat.zero_le _) ⟨_,rfl,yfd,yfj,yff,yfg,yfh,yfk,yfz,by rw[←ez];exact yfw,yfx,yfc⟩
    ·clear t1 t2 t3 t7 t8 t9 t10 t11 t12
     rintro k s hk ⟨tm,rfl,t1,t2,t3,t7,t8,t9,t10,t11,t12,t13⟩
     have hk':(k:Int)<(a:Int):=by omega
     have hst:=okRow_step (mB t mt) l a k
     cases hok1:(XS (mB t mt) l a&&XQ (mB t mt) l a k)
     ·rw[hok1] at t11
      have e2:(XS (mB t mt) l a&&XQ (mB t mt) l a (k+1))=false:=by rw[hst,←Bool.and_assoc,hok1];rfl
      simp(disch:=omega)only[go_sem,t1,t2,t3,t7,t8,t9,t10,t11,t12,t13,hk',Zc]
      exact⟨_,rfl,yfd,yfj,yff,yfg,yfh,yfk,yfz,by rw[e2];exact yfc,yfx,yfc⟩
     ·rw[hok1] at t11
      obtain⟨bA,oA,csA,f1,f2,f3⟩:=Zg.elemF az4 ha
      obtain⟨bK,oK,csK,f4,f5,f6⟩:=Zg.elemF az4 (show k<l.length by omega)
      have ma:=hmem _ (List.getElem_mem ha)
      have mk:=hmem _ (List.getElem_mem (show k<l.length by omega))
      obtain⟨b,o,cs,row,b2,o2,cs2,m1,m2,m3,m4,m5,m6⟩:=mats_int g gp oM4 (p:=l[a]) (q:=l[k]) ma mk
      have e2:(XS (mB t mt) l a&&XQ (mB t mt) l a (k+1))=(mT t l[a] l[k]==mt):=by rw[hst,←Bool.and_assoc,hok1,Bool.true_and,getD_at ha,getD_at (show k<l.length by omega)];rfl
      simp(disch:=omega)only[go_sem,t1,t2,t3,t7,t8,t9,t10,t11,t12,t13,hk',f1,f2,f3,f4,f5,f6,m1,m2,m3,m4,m5,m6,Zc]
      exact⟨_,rfl,yfd,yfj,yff,yfg,yfh,yfk,yfz,by rw[e2];exact yfc,yfx,yfc⟩
    ·clear t1 t2 t3 t7 t8 t9 t10 t11 t12
     rintro s ⟨tm,rfl,t1,t2,t3,t7,t8,t9,t10,t11,t12,t13⟩
     simp(disch:=omega)only[go_sem,t1,t2,t3,t7,t8,t9,t10,t11,t12,t13,Int.lt_irrefl,Zc]
     exact⟨_,rfl,yfd,yfj,yff,yfg,yfh,yfk,yfz,by rw[okTo_step];exact yfw,yfc⟩
   ·clear t1 t2 t3 t7 t8 t9 t10
    rintro s ⟨tm,rfl,t1,t2,t3,t7,t8,t9,t10,t11,t12⟩
    simp(disch:=omega)only[go_sem,t1,t2,t3,t7,t8,t9,t10,t11,t12,lz,Int.lt_irrefl]
    exact⟨_,rfl,yfd,yfj,yff,yfg,yfh,yfk,yfz,yfw⟩
   clear t1 t2 t3 t7 t8 t9 t10
   obtain⟨rfl,tm,rfl,t1,t2,t3,t7,t8,t9,t10,t11⟩:=hx1
   rw[hhp,Bool.true_and] at hok
   cases hfin:XS (mB t mt) l l.length
   ·rw[hfin] at t11 hok
    simp(disch:=omega)only[go_sem,t1,t2,t3,t7,t8,t9,t10,t11]
    exact⟨_,y,best,rfl,bsk (.inl hok),oy3.mono s34,yfd,yfj,yff,yfg,yfh,yfk⟩
   ·rw[hfin] at t11 hok
    simp(disch:=omega)only[go_sem,t1,t2,t3,t7,t8,t9,t10,t11]
    exact⟨_,z,some l,rfl,btk hok hbt,⟨az4,by omega⟩,yfd,yfj,yff,yfg,yfc,yfk⟩
  simp only[Xz,c15] at hR
  rw[hR]
  have eP:X6 pc l=(decide (pc<0)||l.any fun r=>decide (r=pc)):=by
   unfold X6;congr 1
   rw[Bool.eq_iff_iff,List.any_eq_true,List.any_eq_true]
   exact⟨fun⟨x,h1,h2⟩=>⟨x,h1,by simpa using(of_decide_eq_true h2).symm⟩,fun⟨x,h1,h2⟩=>⟨x,h1,by simpa using(of_decide_eq_true h2).symm⟩⟩
  have c0:¬l.length<0:=by omega
  have skipP:X6 pc l=false→Yv (mB t mt) (X6 pc) l=false:=fun h=>by rw[hok,h];rfl
  cases best with
  |none=>
   have ey:y=.nils:=oy
   subst ey
   by_cases cp:0≤pc
   ·have e0:X6 pc l=l.any fun r=>decide (r=pc):=by rw[eP,decide_eq_false yfb,Bool.false_or]
    simp(disch:=omega)only[go_sem,t1,t2,t3,t7,t8,t9,lz,pos0,pos1,cp]
    refine hasR_ev oz.1.wf az pc _ fun h4 s4=>?_
    rw[←e0]
    cases hh:X6 pc l
    ·simp(disch:=omega)only[go_sem,t1,t2,t3,t7,t8,t9,Zc]
     exact⟨_,_,.nils,none,rfl,hs3.trans s4,bsk (.inl (skipP hh)),rfl,yfd,yfj,yff,yfg,yfh,yfc⟩
    ·simp(disch:=omega)only[go_sem,t1,t2,t3,t7,t8,t9]
     refine(tail _ h4 s4 hh (fun c e=>by cases e) yfd yfj yff yfg yfh yfk yfc).mono fun x1 s hx1=>?_
     obtain⟨rfl,tm,y,best,rfl,hbm,hoa,t1,t2,t3,t7,t8,t9⟩:=hx1
     simp(disch:=omega)only[go_sem,t1,t2,t3,t7,t8,t9,Zc]
     exact⟨_,_,y,best,rfl,hs3.trans s4,hbm,hoa,yfd,yfj,yff,yfg,yfh,yfc⟩
   ·have hh:X6 pc l=true:=by rw[eP,decide_eq_true yfb,Bool.true_or]
    simp(disch:=omega)only[go_sem,t1,t2,t3,t7,t8,t9,lz,pos0,pos1,cp]
    refine(tail _ h3 (H.Sub.refl oz.1.wf) hh (fun c e=>by cases e) yfd yfj yff yfg yfh yfk yfc).mono fun x1 s hx1=>?_
    obtain⟨rfl,tm,y,best,rfl,hbm,hoa,t1,t2,t3,t7,t8,t9⟩:=hx1
    simp(disch:=omega)only[go_sem,t1,t2,t3,t7,t8,t9,Zc]
    exact⟨_,_,y,best,rfl,hs3,hbm,hoa,yfd,yfj,yff,yfg,yfh,yfc⟩
  |some c=>
   obtain⟨ac,hc10⟩:=oy3
   have lc:=ac.lenE
   by_cases c1:l.length<c.length
   ·have c1':(l.length:Int)<(c.length:Int):=by omega
    simp(disch:=omega)only[go_sem,t1,t2,t3,t7,t8,t9,lz,lc,c1',Zc]
    exact⟨_,_,y,some c,rfl,hs3,bsk (.inr ⟨c,rfl,.inl c1⟩),⟨ac,hc10⟩,yfd,yfj,yff,yfg,yfh,yfc⟩
   ·have c1':¬(l.length:Int)<(c.length:Int):=by omega
    by_cases c2:l.length=c.length
    ·have c2':(l.length:Int)=(c.length:Int):=by omega
     have hfi:=fun R=>first_ev az ac c2 R
     cases hlx:ZI l c
     ·rw[hlx] at hfi
      simp(disch:=omega)only[go_sem,t1,t2,t3,t7,t8,t9,lz,lc,c1',c2',Int.lt_irrefl,hfi,Zc]
      exact⟨_,_,y,some c,rfl,hs3,bsk (.inr ⟨c,rfl,.inr ⟨c2,hlx⟩⟩),⟨ac,hc10⟩,yfd,yfj,yff,yfg,yfh,yfc⟩
     ·rw[hlx] at hfi
      have hbt:(∀c',some c=some c'→¬l.length<c'.length∧(l.length=c'.length→ZI l c'=true)):=fun c' e=>by cases e;exact⟨c1,fun _=>hlx⟩
      by_cases cp:0≤pc
      ·have e0:X6 pc l=l.any fun r=>decide (r=pc):=by rw[eP,decide_eq_false yfb,Bool.false_or]
       simp(disch:=omega)only[go_sem,t1,t2,t3,t7,t8,t9,lz,lc,c1',c2',Int.lt_irrefl,hfi,cp]
       refine hasR_ev oz.1.wf az pc _ fun h4 s4=>?_
       rw[←e0]
       cases hh:X6 pc l
       ·simp(disch:=omega)only[go_sem,t1,t2,t3,t7,t8,t9,Zc]
        exact⟨_,_,y,some c,rfl,hs3.trans s4,bsk (.inl (skipP hh)),⟨ac.mono s4,hc10⟩,yfd,yfj,yff,yfg,yfh,yfc⟩
       ·simp(disch:=omega)only[go_sem,t1,t2,t3,t7,t8,t9]
        refine(tail _ h4 s4 hh hbt yfd yfj yff yfg yfh yfk yfc).mono fun x1 s hx1=>?_
        obtain⟨rfl,tm,y,best,rfl,hbm,hoa,t1,t2,t3,t7,t8,t9⟩:=hx1
        simp(disch:=omega)only[go_sem,t1,t2,t3,t7,t8,t9,Zc]
        exact⟨_,_,y,best,rfl,hs3.trans s4,hbm,hoa,yfd,yfj,yff,yfg,yfh,yfc⟩
      ·have hh:X6 pc l=true:=by rw[eP,decide_eq_true yfb,Bool.true_or]
       simp(disch:=omega)only[go_sem,t1,t2,t3,t7,t8,t9,lz,lc,c1',c2',Int.lt_irrefl,hfi,cp]
       refine(tail _ h3 (H.Sub.refl oz.1.wf) hh hbt yfd yfj yff yfg yfh yfk yfc).mono fun x1 s hx1=>?_
       obtain⟨rfl,tm,y,best,rfl,hbm,hoa,t1,t2,t3,t7,t8,t9⟩:=hx1
       simp(disch:=omega)only[go_sem,t1,t2,t3,t7,t8,t9,Zc]
       exact⟨_,_,y,best,rfl,hs3,hbm,hoa,yfd,yfj,yff,yfg,yfh,yfc⟩
    ·have c2':¬(l.length:Int)=(c.length:Int):=by omega
     have hbt:(∀c',some c=some c'→¬l.length<c'.length∧(l.length=c'.length→ZI l c'=true)):=fun c' e=>by cases e;exact⟨c1,fun h=>absurd h c2⟩
     by_cases cp:0≤pc
     ·have e0:X6 pc l=l.any fun r=>decide (r=pc):=by rw[eP,decide_eq_false yfb,Bool.false_or]
      simp(disch:=omega)only[go_sem,t1,t2,t3,t7,t8,t9,lz,lc,c1',c2',cp]
      refine hasR_ev oz.1.wf az pc _ fun h4 s4=>?_
      rw[←e0]
      cases hh:X6 pc l
      ·simp(disch:=omega)only[go_sem,t1,t2,t3,t7,t8,t9,Zc]
       exact⟨_,_,y,some c,rfl,hs3.trans s4,bsk (.inl (skipP hh)),⟨ac.mono s4,hc10⟩,yfd,yfj,yff,yfg,yfh,yfc⟩
      ·simp(disch:=omega)only[go_sem,t1,t2,t3,t7,t8,t9]
       refine(tail _ h4 s4 hh hbt yfd yfj yff yfg yfh yfk yfc).mono fun x1 s hx1=>?_
       obtain⟨rfl,tm,y,best,rfl,hbm,hoa,t1,t2,t3,t7,t8,t9⟩:=hx1
       simp(disch:=omega)only[go_sem,t1,t2,t3,t7,t8,t9,Zc]
       exact⟨_,_,y,best,rfl,hs3.trans s4,hbm,hoa,yfd,yfj,yff,yfg,yfh,yfc⟩
     ·have hh:X6 pc l=true:=by rw[eP,decide_eq_true yfb,Bool.true_or]
      simp(disch:=omega)only[go_sem,t1,t2,t3,t7,t8,t9,lz,lc,c1',c2',cp]
      refine(tail _ h3 (H.Sub.refl oz.1.wf) hh hbt yfd yfj yff yfg yfh yfk yfc).mono fun x1 s hx1=>?_
      obtain⟨rfl,tm,y,best,rfl,hbm,hoa,t1,t2,t3,t7,t8,t9⟩:=hx1
      simp(disch:=omega)only[go_sem,t1,t2,t3,t7,t8,t9,Zc]
      exact⟨_,_,y,best,rfl,hs3,hbm,hoa,yfd,yfj,yff,yfg,yfh,yfc⟩
 ·rintro s ⟨tm,h',y,best,rfl,hs,hb,oy,t1,t2,t3,t7,t8,t9⟩
  simp(disch:=omega)only[go_sem,t1,t2,t3,t7,t8,t9,hs.cells g2,hlP,hset,h2p,Int.lt_irrefl]
  rw[←h2p] at hb
  rw[hb.last] at oy
  exact q _ _ (s1.trans (s12.trans hs)) oy
end Go.Ab.Tryz
