/- The law EyeSorted. slices.Compact, rising, Enough. Witness, Needed. The law's own sorting. Closures of the law EyeSorted; lists of rows in which one is looked for. Numbers as sets by bits; into how few sets, of each set from smaller ones. Plain. The reference's searches: sets, members, first, Listed. The reference's Most. Whether lists are a sorting, as the reference finds it. Plain facts of the law EyeSorted: a set that grows as pieces come; pieces that go to the first set in which all match. The first row of which something holds; whether there is one. Where the first is of which something holds, as the code says it and as a list says it. Plain. Tables of integers as blocks; rows that are stored. Sorted. Rows of integers: copies, comparison; which tables and lists are too great. Rows of lists that are changed in place: put in order, one number stored; rows that are looked for. Numbers of which no two are alike meet each number. Plain. Order of a spool; rows that are stored. slices.Compare. The law EyeSorted: a set that grows as pieces come is no better than the greatest. Into how few sets, as the reference finds it. Plain. The reference's Sort. The reference's Most. EyeSets. The greatest set: that there is one, and that its memory is not the spool's. The law EyeSorted: four sets that grow. The law EyeSorted: the greatest set rises, and all in it match. The law EyeSorted: pieces that go to the first set in which all match. The law's own look at a sorting and the reference's are the same. Plain. The law EyeSorted: lists that are put in order, of which one may be torn; whether they are a sorting. The law EyeSorted: lists that are tried, four times. -/
import Derived.Test.YtkjbamlcgojkmaaGreatAcA
import Derived.Test.YtkjbamlcgojkmaaGreatG2
import Derived.Test.YtkjbamlcgojkmaaGreatG5
import Derived.Test.YtkjbamlcgojkmaaGreatG6
set_option linter.unusedSimpArgs false
set_option linter.unusedVariables false
namespace Go.Ab
theorem nth_iv {L:List Int}{i:Nat}(h:i<L.length):nth i (L.map iv)=some (.int .i64 L[i]):=by
 rw[nth_eq,List.getElem?_map,List.getElem?_eq_getElem h];rfl
theorem put_iv {L:List Int}{i:Nat}(h:i<L.length)(v:Int):putN i [.int .i64 v] (L.map iv)=some ((L.set i v).map iv):=by
 have e:L=L.take i++L[i]::L.drop (i+1):=by rw[←List.drop_eq_getElem_cons h,List.take_append_drop]
 have:=putN_app (pre:=(L.take i).map iv) (new:=[iv v]) (old:=[iv L[i]]) (rest:=(L.drop (i+1)).map iv) rfl
 rw[List.length_map,List.length_take,Nat.min_eq_left (by omega)] at this
 have e2:L.map iv=(L.take i).map iv++[iv L[i]]++(L.drop (i+1)).map iv:=by
  rw[show[iv L[i]]=[L[i]].map iv from rfl,←List.map_append,←List.map_append,List.append_assoc]
  exact congrArg (List.map iv) e
 have e3:(L.set i v).map iv=(L.take i).map iv++[iv v]++(L.drop (i+1)).map iv:=by
  rw[List.set_eq_take_append_cons_drop,if_pos h];simp
 rw[e2,e3];exact this
theorem slcFrom_gr {h:H}{b k:Nat}{L:List Int}(hb:h.get b=some (.cells (.gr 1) (L.map iv)))(h0:0<L.length)(hk:k≤L.length):slcFrom h 1 (.sl b 0 L.length (.slk 0 0)) (.int .i64 (k:Int))=some (.sl b k (L.length-k) (.slk k 0)):=by
 have hi:∀tm:T V,(Opd.c (.int .i64 (k:Int))).ev tm=.int .i64 (k:Int):=fun _=>rfl
 have e1:Nat.ble k L.length=true:=by simp;exact hk
 have e2:Nat.ble L.length L.length=true:=by simp
 have e4:Nat.blt 0 (L.length+L.length)=true:=by rw[Nat.blt_eq];omega
 have e5:Nat.beq 1 1=true:=rfl
 have e6:Nat.beq 0 (0*1)=true:=rfl
 have e7:Nat.ble L.length (L.map iv).length=true:=by simp
 have e8:slkRoom h b 0 1=L.length:=by simp[slkRoom,hb,lenN_eq]
 simp only[slcFrom,q_slc,slkOk,hb,lenN_eq,e5,e6,e7,og_true,e8,bnd3,natO,hi,natk_cst,bnds,e1,e2,subS,e4,Nat.mul_one,Nat.zero_add]
namespace Tryz
open Go.Ab.Silk (Inc lexlt)
def Adj (l:List Int):Prop:=∀i (h:i+1<l.length),l[i]≠l[i+1]
set_option maxHeartbeats 2000000 in
theorem compact_ev {h:H}{b:Nat}{l:List Int}(hw:h.wf)(hb:h.get b=some (.cells (.gr 1) (l.map iv)))(h2:2≤l.length)(hl:l.length≤1000)(Q:V→H→Prop)
  (q:∀y h' (m:Nat),q_len y=some (.int .i64 (m:Int))→(Adj l→m=l.length)→(¬Adj l→m<l.length)→Keeps (fun c=>c=b) h h'→h'.wf→Q y h'):Ev fnG fastA (.fn 133 [] []) [.sl b 0 l.length (.slk 0 0)] h Q:=by
 refine Ev_body (fd:=c133) rfl rfl rfl ?_
 have hn2:¬(l.length:Int)<2:=by omega
 have hiad:∀k:Nat,k<l.length→q_iad 1 (.sl b 0 l.length (.slk 0 0)) (.int .i64 (k:Int))=some (.ptr b k):=fun k hk=>by
  rw[q_iad_sl (nat_cst k) hk,Nat.mul_one,Nat.zero_add]
 simp(disch:=first|omega|simp only[nZ]<;>omega|fail)only[c133,go_sem,hn2]
 refine W_loop (fun kk s=>∃tm i,s=⟨tm,h,[]⟩∧kk=l.length-i∧1≤i∧i≤l.length∧(∀j (hj:j+1<l.length),j+1<i→l[j]≠l[j+1])∧(Opd.t 0).ev tm=.sl b 0 l.length (.slk 0 0)∧(Opd.t 3).ev tm=.int .i64 (i:Int)) ?_ (l.length-1) _ ⟨_,1,rfl,rfl,Nat.le_refl _,by omega,fun j hj h0=>by omega,(by simp),(by simp)⟩
 rintro kk s ⟨tm,i,rfl,hkk,i1,i2,hadj,t0,t3⟩
 by_cases hi:i<l.length
 ·have hi':(i:Int)<(l.length:Int):=by omega
  have e1:(i:Int)-1=((i-1:Nat):Int):=by omega
  have n1:=nth_iv hi
  have n2:=nth_iv (L:=l) (i:=i-1) (by omega)
  by_cases heq:l[i]=l[i-1]
  ·have hna:¬Adj l:=fun ha=>by
    have:=ha (i-1) (by omega)
    simp only[show i-1+1=i by omega] at this
    exact this heq.symm
   have deq:decide (l[i]=l[i-1])=true:=decide_eq_true heq
   have hfrom:=slcFrom_gr hb (by omega) (k:=i) (by omega)
   have lb:=hw _ _ hb
   simp(disch:=first|omega|simp only[nZ]<;>omega|fail)only[go_sem,t0,t3,hi',wr_in,e1,hiad i hi,hiad (i-1) (by omega),cells_of hb,n1,n2,deq,q_slc_from,hfrom]
   refine W.mono (Q:=fun x1 s=>x1=.ext 2∧∃(tm:Go.Ab.T V) (hh:H) (L:List Int) (m:Nat),s=⟨tm,hh,[]⟩∧Keeps (fun c=>c=b) h hh∧hh.wf∧hh.get b=some (.cells (.gr 1) (L.map iv))∧L.length=l.length∧m<l.length∧(Opd.t 0).ev tm=.sl b 0 l.length (.slk 0 0)∧(Opd.t 3).ev tm=.int .i64 (m:Int))
    (W_loop (fun kk s=>∃(tm:Go.Ab.T V) (hh:H) (L:List Int) (m k2:Nat),s=⟨tm,hh,[]⟩∧kk=l.length-i-k2∧1≤k2∧i+k2≤l.length∧m+1≤i+k2∧Keeps (fun c=>c=b) h hh∧hh.wf∧hh.get b=some (.cells (.gr 1) (L.map iv))∧L.length=l.length∧
     (Opd.t 0).ev tm=.sl b 0 l.length (.slk 0 0)∧(Opd.t 3).ev tm=.int .i64 (m:Int)∧(Opd.t 4).ev tm=.sl b i (l.length-i) (.slk i 0)∧(Opd.t 5).ev tm=.int .i64 (k2:Int)) ?_ (l.length-i-1) _
     ⟨_,_,l,i,1,rfl,rfl,Nat.le_refl _,by omega,by omega,Keeps.refl _ _,hw,hb,rfl,(by simp[t0]),(by simp[t3]),(by simp),(by simp)⟩) fun x1 s hx1=>?_
   ·rintro kk s ⟨tm,hh,L,m,k2,rfl,hkk,k1,k3,k4,kp,wh,gL,hL,t0,t3,t4,t5⟩
    by_cases hk:k2<l.length-i
    ·have hk':(k2:Int)<((l.length-i:Nat):Int):=by omega
     have e2:(k2:Int)-1=((k2-1:Nat):Int):=by omega
     have a1:q_iad 1 (.sl b i (l.length-i) (.slk i 0)) (.int .i64 (k2:Int))=some (.ptr b (i+k2)):=by rw[q_iad_sl (nat_cst k2) hk,Nat.mul_one]
     have a2:q_iad 1 (.sl b i (l.length-i) (.slk i 0)) (.int .i64 ((k2-1:Nat):Int))=some (.ptr b (i+(k2-1))):=by rw[q_iad_sl (nat_cst (k2-1)) (by omega),Nat.mul_one]
     have a3:=hiad m (by omega)
     have v1:=nth_iv (L:=L) (i:=i+k2) (by omega)
     have v2:=nth_iv (L:=L) (i:=i+(k2-1)) (by omega)
     cases hd:decide (L[i+k2]'(by omega)≠L[i+(k2-1)]'(by omega)) with
     |false=>
      simp(disch:=first|omega|simp only[nZ]<;>omega|fail)only[go_sem,t0,t3,t4,t5,hk',wr_in,e2,a1,a2,cells_of gL,v1,v2,hd,wr_succ]
      exact⟨_,by omega,_,_,L,m,k2+1,rfl,rfl,by omega,by omega,by omega,kp,wh,gL,hL,(by simp[t0]),(by simp[t3]),(by simp[t4]),(by simp)⟩
     |true=>
      have hp:=put_iv (L:=L) (i:=m) (by omega) (L[i+k2]'(by omega))
      simp(disch:=first|omega|simp only[nZ]<;>omega|fail)only[go_sem,t0,t3,t4,t5,hk',wr_in,e2,a1,a2,a3,cells_of gL,gL,v1,v2,hd,hp,wr_succ]
      exact⟨_,by omega,_,_,_,m+1,k2+1,rfl,rfl,by omega,by omega,by omega,(kp.trans (Keeps.set hh b _)).mono fun c h=>h.elim id id,H.wf_set wh _ gL,get_set_same rfl,by rw[List.length_set];exact hL,(by simp[t0]),(by simp),(by simp[t4]),(by simp)⟩
    ·have hk':¬(k2:Int)<((l.length-i:Nat):Int):=by omega
     simp(disch:=first|omega|simp only[nZ]<;>omega|fail)only[go_sem,t0,t3,t4,t5,hk']
     exact⟨_,_,L,m,rfl,kp,wh,gL,hL,by omega,(by simp[t0]),(by simp[t3])⟩
   clear t0 t3
   obtain⟨rfl,tm,hh,L,m,rfl,kp,wh,gL,hL,hm,t0,t3⟩:=hx1
   have f1:=slcFrom_gr gL (by omega) (k:=m) (by omega)
   rw[hL] at f1
   obtain⟨n,hn⟩:∃n,l.length-m=n+1:=⟨l.length-m-1,by omega⟩
   have hrep:∀n,repN n [V.int .i64 0]=(List.replicate n (0:Int)).map iv:=fun n=>by
    induction n with
    |zero=>rfl
    |succ n ih=>simp only[repN,appN_eq,ih,List.replicate_succ,List.map_cons];rfl
   have hp:putN m ((List.replicate (n+1) (0:Int)).map iv) (L.map iv)=some ((L.take m++List.replicate (n+1) 0).map iv):=by
    have:=putN_app (pre:=(L.take m).map iv) (new:=(List.replicate (n+1) (0:Int)).map iv) (old:=(L.drop m).map iv) (rest:=[]) (by simp;omega)
    rw[List.length_map,List.length_take,Nat.min_eq_left (by omega),List.append_nil,List.append_nil,←List.map_append,List.take_append_drop,←List.map_append] at this
    exact this
   have ho:allOne ((List.replicate (n+1) (0:Int)).map iv)=true:=by
    rw[allOne_eq]
    intro v hv
    obtain⟨_,_,rfl⟩:=List.mem_map.1 hv;rfl
   have hclr:e_clr hh [V.int .i64 0] (.sl b m (l.length-m) (.slk m 0))=some (.und,hh.set b (.cells (.gr 1) ((L.take m++List.replicate (n+1) 0).map iv))):=by
    rw[e_clr_sl,hn,hrep]
    rw[List.replicate_succ,List.map_cons] at hp ho⊢
    rw[H.put_gr ho gL hp,withV_some]
   have wS:=H.wf_set wh (.cells (.gr 1) ((L.take m++List.replicate (n+1) 0).map iv)) gL
   have gS:(hh.set b (.cells (.gr 1) ((L.take m++List.replicate (n+1) 0).map iv))).get b=some (.cells (.gr 1) ((L.take m++List.replicate (n+1) 0).map iv)):=get_set_same rfl
   have ll:(L.take m++List.replicate (n+1) (0:Int)).length=l.length:=by simp;omega
   have lbS:b<(hh.set b (.cells (.gr 1) ((L.take m++List.replicate (n+1) 0).map iv))).next:=wS _ _ gS
   have ct:CutO (fun _=>True) (hh.set b (.cells (.gr 1) ((L.take m++List.replicate (n+1) 0).map iv))) (.sl b 0 l.length (.slk 0 0)) 1 ((L.take m++List.replicate (n+1) (0:Int)).map encI):=
    ⟨fun r hr=>by obtain⟨_,_,rfl⟩:=List.mem_map.1 hr;rfl,.inr (.inl ⟨b,[],0,by rw[List.length_map,ll],trivial,lbS,by rw[List.append_nil,map_flat];exact gS,by simp⟩)⟩
   obtain⟨y,hy1,hy2,hy3⟩:=ct.to (k:=m) (by omega) (by rw[List.length_map,ll];omega) (by rw[List.length_map,ll];omega)
   have ly:q_len y=some (.int .i64 (m:Int)):=by
    have:=(hy2.sl (by rw[List.length_take,List.length_map,ll];omega)).len
    rw[this,List.length_take,List.length_map,ll,Nat.min_eq_left (by omega)]
   simp(disch:=first|omega|simp only[nZ]<;>omega|fail)only[go_sem,t0,t3,q_slc_from,f1,WI_clr,hclr,q_slc_to,hy1]
   exact q y _ m ly (fun ha=>absurd ha hna) (fun _=>hm) ((kp.trans (Keeps.set hh b _)).mono fun c h=>h.elim id id) wS
  ·have deq:decide (l[i]=l[i-1])=false:=decide_eq_false heq
   simp(disch:=first|omega|simp only[nZ]<;>omega|fail)only[go_sem,t0,t3,hi',wr_in,e1,hiad i hi,hiad (i-1) (by omega),cells_of hb,n1,n2,deq,wr_succ]
   exact⟨_,by omega,_,i+1,rfl,rfl,by omega,by omega,fun j hj h0=>by
    by_cases e:j+1=i
    ·subst e;exact fun h=>heq h.symm
    ·exact hadj j hj (by omega),(by simp[t0]),(by simp)⟩
 ·have hi':¬(i:Int)<(l.length:Int):=by omega
  simp(disch:=first|omega|simp only[nZ]<;>omega|fail)only[go_sem,t0,t3,hi']
  exact q _ _ l.length rfl (fun _=>rfl) (fun hna=>absurd (fun j hj=>hadj j hj (by omega)) hna) (Keeps.refl _ _) hw
theorem cloneGr_ev {h:H}{x:V}{l:List Int}(hw:h.wf)(hx:SlAt h x 1 (l.map encI))(hl:l.length≤1000000)(h0:0<l.length)(Q:V→H→Prop)(q:∀b h',h.Sub h'→h.next≤b→h'.get b=some (.cells (.gr 1) (l.map iv))→Q (.sl b 0 l.length (.slk 0 0)) h'):Ev fnG fastA (.fn 134 [] []) [x] h Q:=by
 refine Ev_body (fd:=c134) rfl rfl rfl ?_
 rcases hx.2.2 with⟨rfl,e⟩|⟨b,o,c,cs,rfl,_⟩
 ·have:=congrArg List.length e;simp at this;rw[this] at h0;simp at h0
 ·simp(disch:=first|omega|simp only[nZ]<;>omega|fail)only[c134,go_sem]
  have s1:h.Sub (h.add (.cells .rw [])):=(H.Sub.refl hw).add _
  have hx1:=(hx.mono s1).elems
  rw[map_flat,List.length_map] at hx1
  rw[List.length_map]
  obtain⟨k,hk⟩:∃k,l.length=k+1:=⟨l.length-1,by omega⟩
  rw[e_app_eq,hx1.1,hx1.2]
  simp only[ob_some]
  rw[hk,e_app_full (by omega) (elems_0 _ _ _ _ _) (by simp only[Nat.zero_add];omega) (by omega),grown_eq,P2_some]
  simp(disch:=first|omega|simp only[nZ]<;>omega|fail)only[go_sem]
  have:=q (h.next+1) ((h.add (.cells .rw [])).add (.cells (.gr 1) (l.map iv))) (s1.add _) (by omega) (get_add_new (by rw[H.next_add]))
  rw[hk] at this
  simpa using this
theorem lt_iff {l:List Int}:l.Pairwise (· < ·)↔l.Pairwise (· ≤ ·)∧Adj l:=by
 constructor
 ·intro h
  exact⟨h.imp fun h=>by omega,fun i hi=>by
   have:=List.pairwise_iff_getElem.1 h i (i+1) (by omega) hi (by omega);omega⟩
 ·rintro⟨h1,h2⟩
  refine adj_pw (R:=fun a b=>a<b) (fun a b c h1 h2=>Int.lt_trans h1 h2) fun i hi=>?_
  have:=List.pairwise_iff_getElem.1 h1 i (i+1) (by omega) hi (by omega)
  have:=h2 i hi
  show l[i]<l[i+1]
  omega
theorem rising_ev {h:H}{x:V}{l:List Int}(hw:h.wf)(hx:SlAt h x 1 (l.map encI))(hl:l.length≤1000)(Q:V→H→Prop)(q:∀h',h.Sub h'→Q (.bool (decide (l.Pairwise (· < ·)))) h'):Ev fnG fastA (.fn 80 [] []) [x] h Q:=by
 have hlx:=hx.lenE
 refine Ev_body (fd:=c80) rfl rfl rfl ?_
 by_cases h1:l.Pairwise (· ≤ ·)
 ·have d1:decide (l.Pairwise (· ≤ ·))=true:=decide_eq_true h1
  by_cases h2:2≤l.length
  ·simp(disch:=first|omega|simp only[nZ]<;>omega|fail)only[c80,go_sem,isSorted_ev hx,d1]
   refine cloneGr_ev hw hx (by omega) (by omega) _ fun b h3 s3 nb g3=>?_
   simp(disch:=first|omega|simp only[nZ]<;>omega|fail)only[go_sem]
   refine compact_ev s3.wf g3 h2 hl _ fun y h4 m ly m1 m2 k4 w4=>?_
   have e:decide ((m:Int)=(l.length:Int))=decide (l.Pairwise (· < ·)):=by
    rw[decide_eq_decide,lt_iff]
    constructor
    ·intro he
     refine⟨h1,Classical.byContradiction fun hna=>?_⟩
     have:=m2 hna;omega
    ·rintro⟨_,ha⟩
     rw[m1 ha]
   simp(disch:=first|omega|simp only[nZ]<;>omega|fail)only[go_sem,ly,hlx,e]
   exact q _ (k4.sub s3 hw (fun c hc=>by omega) w4)
  ·have hp:decide (l.Pairwise (· < ·))=true:=decide_eq_true (lt_iff.2 ⟨h1,fun i hi=>by omega⟩)
   rw[hp] at q
   simp(disch:=first|omega|simp only[nZ]<;>omega|fail)only[c80,go_sem,isSorted_ev hx,d1]
   refine cloneInt_ev hw hx (by rw[List.length_map];omega) _ fun v h3 ov=>?_
   have lv:=(ov.sl (by simp only[List.length_map];omega)).lenE
   simp(disch:=first|omega|simp only[nZ]<;>omega|fail)only[go_sem]
   refine Ev_body (fd:=c133) rfl rfl rfl ?_
   have hn2:(l.length:Int)<2:=by omega
   have ee:decide ((l.length:Int)=(l.length:Int))=true:=decide_eq_true rfl
   simp(disch:=first|omega|simp only[nZ]<;>omega|fail)only[c133,go_sem,lv,hn2,hlx,ee]
   exact q _ ov.1
 ·have d1:decide (l.Pairwise (· ≤ ·))=false:=decide_eq_false h1
  have d2:decide (l.Pairwise (· < ·))=false:=decide_eq_false fun h=>h1 (lt_iff.1 h).1
  rw[d2] at q
  simp(disch:=first|omega|simp only[nZ]<;>omega|fail)only[c80,go_sem,isSorted_ev hx,d1]
  exact q _ (H.Sub.refl hw)
end Tryz
end Go.Ab
namespace Go.Ab.Tryz
open Go.Ab.Silk (Inc lexlt IsMin)
end Go.Ab.Tryz
namespace Go.Ab
theorem OwnSl.app0 {h0 h:H}{x y:V}{sz by_:Nat}{rows:List (List V)}(a:OwnSl h0 h x sz rows)(hp:0<sz)(hy:SlAt h y sz []):e_app' h sz by_ x y=some (x,h):=by
 obtain⟨he,hl⟩:=hy.elems
 obtain⟨a0,a1,a2⟩:=a
 rw[e_app_eq,he,hl]
 simp only[ob_some,List.length_nil]
 rcases a2 with⟨rfl,rfl⟩|⟨b,rfl,l1,l2,hb⟩
 ·rw[e_app_nils0]
 ·have e1:Nat.beq sz sz=true:=by simp
  have e2:Nat.beq 0 (0*sz)=true:=by simp
  have e3:Nat.ble (0+rows.length*sz) rows.flatten.length=true:=by rw[flatten_len a1];simp
  simp only[e_app,slkOk,hb,e1,e2,lenN_eq,e3,og_true]
namespace Tryz
open Go.Ab.Silk (Inc lexlt IsMin)
def LsRd (h:H)(x:V)(S:List (List Int)):Prop:=∃(F:Nat→Prop) (xs:List V),SlAt h x 1 (xs.map fun v=>[v])∧xs.length=S.length∧∀i (hi:i<xs.length) (hj:i<S.length),CutO F h xs[i] 1 (S[i].map encI)
theorem LsRd.mono {h h':H}{x:V}{S:List (List Int)}(a:LsRd h x S)(s:h.Sub h'):LsRd h' x S:=by
 obtain⟨F,xs,a1,a2,a3⟩:=a
 exact⟨F,xs,a1.mono s,a2,fun i hi hj=>(a3 i hi hj).mono s⟩
theorem LsCut.rd {F:Nat→Prop}{h:H}{x:V}{S:List (List Int)}(a:LsCut F h x (S.map fun l=>l.map encI))(hl:S.length≤1000):LsRd h x S:=by
 obtain⟨xs,a1,a2,a3,_⟩:=a
 rw[List.length_map] at a2
 exact⟨F,xs,a1.sl (by simp only[List.length_map];omega),a2,fun i hi hj=>by have:=(a3 i hi (by rw[List.length_map];exact hj)).1;rwa[List.getElem_map] at this⟩
theorem LsRd.len {h:H}{x:V}{S:List (List Int)}(a:LsRd h x S):q_len x=some (.int .i64 (S.length:Int)):=by
 obtain⟨F,xs,a1,a2,_⟩:=a
 rw[a1.lenE,a2]
theorem LsRd.row {h:H}{x:V}{S:List (List Int)}(a:LsRd h x S){i:Nat}(hi:i<S.length):∃F b o cs v,q_iad 1 x (.int .i64 (i:Int))=some (.ptr b o)∧h.cells b=some cs∧nth o cs=some v∧CutO F h v 1 (S[i].map encI):=by
 obtain⟨F,xs,a1,a2,a3⟩:=a
 obtain⟨b,o,c,cs,e1,e2,e3,_,_,e4⟩:=a1.at (k:=i) (by omega)
 have e5:=e4 (by omega)
 exact⟨F,b,o+i*1,cs,xs[i],e3 (nat_cst i),e2,e5,a3 i (by omega) hi⟩
def rowOk (t:Tb)(seen l:List Int)(i:Nat):Bool:=match l[i]? with
 |some p=>decide (0≤p∧p<(t.pieces.length:Int))&&(decide (i=0)||decide (l.getD (i-1) 0<p))&&(!(seen.any fun r=>decide (p=r))&&(l.take i).all fun q=>mT t p q)
 |none=>false
def lsR (t:Tb):List Int→List (List Int)→Bool
 |seen,[]=>decide ((seen.length:Int)=(t.pieces.length:Int))
 |seen,l::S=>(List.range l.length).all (rowOk t seen l)&& !l.isEmpty&&lsR t (seen++l) S
theorem lsR_bad {t:Tb}{seen l:List Int}{S:List (List Int)}{i:Nat}(hi:i<l.length)(h:rowOk t seen l i=false):lsR t seen (l::S)=false:=by
 have:(List.range l.length).all (rowOk t seen l)=false:=List.all_eq_false.2 ⟨i,List.mem_range.2 hi,by rw[h];simp⟩
 unfold lsR
 rw[this];rfl
theorem sorting1_ev {h:H}{bT bP:Nat}{E L P:V}{t:Tb}(g:Good t)(gT:h.cells bT=some [E,L,P])(ht:TbIs h (.agg [E,L,P]) t){p:Int}(gP:h.cells bP=some [.int .i64 p])(hp:0≤p∧p<(t.pieces.length:Int)){r:Int}(hr:0≤r∧r<(t.pieces.length:Int)):
  PureA h (.fn 110 [] [.ptr bT 0,.ptr bP 0]) [.int .i64 r] (.bool (!mT t p r)):=by
 intro h1 hs
 obtain⟨i,rfl⟩:=Int.eq_ofNat_of_zero_le hp.1
 obtain⟨k,rfl⟩:=Int.eq_ofNat_of_zero_le hr.1
 refine Ev.gen fun Q q=>?_
 refine Ev_body (fd:=c110) rfl rfl rfl ?_
 simp(disch:=first|omega|simp only[nZ]<;>omega|fail)only[c110,go_sem,hs.cells gT,hs.cells gP]
 refine lmatch_ev hs.wf (ht.mono hs) g (show i<t.pieces.length by omega) (show k<t.pieces.length by omega) _ fun h2 s2=>?_
 simp(disch:=first|omega|simp only[nZ]<;>omega|fail)only[go_sem]
 refine q _ _ ⟨?_,s2⟩
 have:mT t (i:Int) (k:Int)=MM t i k:=by simp only[mT,Int.toNat_natCast];exact MM_comm g k i
 rw[this]
set_option maxHeartbeats 4000000 in
theorem lsorting_ev {h:H}{E L P x:V}{t:Tb}{S:List (List Int)}(hw:h.wf)(ht:TbIs h (.agg [E,L,P]) t)(g:Good t)(hx:LsRd h x S)(hl:S.length≤1000)(hll:∀l∈S,l.length≤1000)(Q:V→H→Prop)(q:∀h',h.Sub h'→Q (.bool (lsR t [] S)) h'):
  Ev fnG fastA (.fn 41 [] []) [.agg [E,L,P],x] h Q:=by
 have ht0:=ht
 obtain⟨_,_,_,e0,aE,aL,aP⟩:=ht
 cases e0
 have gp:=g.pieces
 have hlP:=aP.lenE
 have hlx:=hx.len
 refine Ev_body (fd:=c41) rfl rfl rfl ?_
 have s1:h.Sub (h.add (.cells .rw [E,L,P])):=(H.Sub.refl hw).add _
 have g2:(h.add (.cells .rw [E,L,P])).cells h.next=some [E,L,P]:=cells_add_new rfl
 simp(disch:=first|omega|simp only[nZ]<;>omega|fail)only[c41,go_sem,hlx]
 generalize h.add (.cells .rw [E,L,P])=h5 at s1 g2⊢
 have flen:∀k,((S.take k).flatten).length≤1000000:=fun k=>by
  have:∀(T:List (List Int)),(∀l∈T,l.length≤1000)→T.flatten.length≤T.length*1000:=fun T=>by
   induction T with
   |nil=>simp
   |cons a T ih=>
    intro hT
    have h1:=ih fun l hl=>hT l (by simp[hl])
    have h2:=hT a (by simp)
    simp only[List.flatten_cons,List.length_append,List.length_cons,Nat.add_mul];omega
  have h1:=this (S.take k) fun l hl=>hll l (List.mem_of_mem_take hl)
  have h2:(S.take k).length≤1000:=by rw[List.length_take];omega
  have:=Nat.mul_le_mul_right 1000 h2
  omega
 refine W_count S.length (fun k s=>∃tm h' y,s=⟨tm,h',[]⟩∧OwnSl h5 h' y 1 ((S.take k).flatten.map encI)∧lsR t [] S=lsR t (S.take k).flatten (S.drop k)∧(Opd.t 2).ev tm=.ptr h.next 0∧(Opd.t 5).ev tm=y∧(Opd.t 10).ev tm=x∧(Opd.t 11).ev tm=.int .i64 (S.length:Int)∧(Opd.t 12).ev tm=.int .i64 (k:Int))
  ?_ ?_ (i:=0) (Nat.zero_le _) ⟨_,_,.nils,rfl,OwnSl.nil (H.Sub.refl s1.wf) 1,rfl,(by simp),(by simp),(by simp),(by simp),(by simp)⟩
 ·rintro k s hk ⟨tm,h',y,rfl,oy,hR,t2,t5,t10,t11,t12⟩
  have hk':(k:Int)<(S.length:Int):=by omega
  have hs:=oy.1
  have sh:=s1.trans hs
  obtain⟨F,b,o,cs,v,m1,m2,m3,cv⟩:=(hx.mono sh).row hk
  have hml:=hll _ (List.getElem_mem hk)
  obtain⟨l,el⟩:∃l,S[k]=l:=⟨_,rfl⟩
  have edr:S.drop k=l::S.drop (k+1):=by rw[List.drop_eq_getElem_cons hk,el]
  have etk:(S.take (k+1)).flatten=(S.take k).flatten++l:=by rw[List.take_add_one,List.getElem?_eq_getElem hk,el];simp
  rw[el] at cv hml
  rw[edr] at hR
  have hfl:=flen k
  generalize(S.take k).flatten=seen at oy hR etk hfl
  have sv:=cv.sl (by simp only[List.length_map];omega)
  have lv:=sv.lenE
  have osl:=oy.sl (by simp only[List.length_map];omega)
  simp(disch:=first|omega|simp only[nZ]<;>omega|fail)only[go_sem,t2,t5,t10,t11,t12,hk',m1,m2,m3,lv]
  refine W_count l.length (fun i s=>∃tm hq,s=⟨tm,hq,[]⟩∧h'.Sub hq∧(∀i',i'<i→rowOk t seen l i'=true)∧(Opd.t 2).ev tm=.ptr h.next 0∧(Opd.t 5).ev tm=y∧(Opd.t 7).ev tm=v∧(Opd.t 10).ev tm=x∧(Opd.t 11).ev tm=.int .i64 (S.length:Int)∧(Opd.t 12).ev tm=.int .i64 (k:Int)∧(Opd.t 16).ev tm=v∧(Opd.t 17).ev tm=.int .i64 (l.length:Int)∧(Opd.t 18).ev tm=.int .i64 (i:Int))
   ?_ ?_ (i:=0) (Nat.zero_le _) ⟨_,_,rfl,H.Sub.refl hs.wf,fun i' h0=>by omega,(by simp[t2]),(by simp[t5]),(by simp),(by simp[t10]),(by simp[t11]),(by simp[t12]),(by simp),(by simp),(by simp)⟩
  ·clear t2 t5 t10 t11 t12
   rintro i s hi ⟨tm,hq,rfl,sq,hok,t2,t5,t7,t10,t11,t12,t16,t17,t18⟩
   have hi':(i:Int)<(l.length:Int):=by omega
   obtain⟨b1,o1,cs1,f1,f2,f3⟩:∃b o cs,q_iad 1 v (.int .i64 (i:Int))=some (.ptr b o)∧hq.cells b=some cs∧nth o cs=some (.int .i64 l[i]):=by
    obtain⟨b,o,c,cs,e1,e2,e3,_,_,e4⟩:=(sv.mono sq).at hi
    have e5:=e4 (by omega)
    exact⟨b,o+i*1,cs,e3 (nat_cst i),e2,by rw[e5];rfl⟩
   have sB:=(H.Sub.refl sq.wf).add (.cells .rw [.int .i64 l[i]])
   have g9:(hq.add (.cells .rw [.int .i64 l[i]])).cells hq.next=some [.int .i64 l[i]]:=cells_add_new rfl
   have s5q:=hs.trans (sq.trans sB)
   have g2B:=s5q.cells g2
   have f2B:=sB.cells f2
   have rbad:rowOk t seen l i=false→lsR t [] S=false:=fun h0=>by rw[hR];exact lsR_bad hi h0
   have rdef:rowOk t seen l i=(decide (0≤l[i]∧l[i]<(t.pieces.length:Int))&&(decide (i=0)||decide (l.getD (i-1) 0<l[i]))&&(!(seen.any fun r=>decide (l[i]=r))&&(l.take i).all fun q=>mT t l[i] q)):=by
    unfold rowOk;rw[List.getElem?_eq_getElem hi]
   have hadd:∀hz,(hq.add (.cells .rw [.int .i64 l[i]])).Sub hz→h.Sub hz:=fun hz s=>s1.trans (s5q.trans s)
   simp(disch:=first|omega|simp only[nZ]<;>omega|fail)only[go_sem,t2,t5,t7,t10,t11,t12,t16,t17,t18,hi',f1,f2,f3]
   generalize hq.add (.cells .rw [.int .i64 l[i]])=hB at sB g9 s5q g2B f2B hadd⊢
   by_cases r0:l[i]<0
   ·have hb:rowOk t seen l i=false:=by rw[rdef,decide_eq_false (by omega)];rfl
    have d0:decide (l[i]<0)=true:=decide_eq_true r0
    have q':=q hB (hadd _ (H.Sub.refl sB.wf))
    rw[rbad hb] at q'
    simp(disch:=first|omega|simp only[nZ]<;>omega|fail)only[go_sem,t2,t5,t7,t10,t11,t12,t16,t17,t18,g9,d0]
    exact q'
   by_cases r1:(t.pieces.length:Int)≤l[i]
   ·have hb:rowOk t seen l i=false:=by rw[rdef,decide_eq_false (by omega)];rfl
    have q':=q hB (hadd _ (H.Sub.refl sB.wf))
    rw[rbad hb] at q'
    simp(disch:=first|omega|simp only[nZ]<;>omega|fail)only[go_sem,t2,t5,t7,t10,t11,t12,t16,t17,t18,g9,r0,r1,g2B,hlP]
    exact q'
   rw[decide_eq_true (show 0≤l[i]∧l[i]<(t.pieces.length:Int) by omega),Bool.true_and] at rdef
   obtain⟨up,hup,hst⟩:∃up:Bool,(decide (i=0)||decide (l.getD (i-1) 0<l[i]))=up∧((i=0∧up=true)∨∃j,i=j+1∧∃hj:j<l.length,up=decide (l[j]<l[i])):=by
    cases i with
    |zero=>exact⟨true,rfl,.inl ⟨rfl,rfl⟩⟩
    |succ j=>exact⟨_,rfl,.inr ⟨j,rfl,by omega,by
      have:l.getD (j+1-1) 0=l[j]'(by omega):=by rw[Nat.add_sub_cancel,List.getD_eq_getElem?_getD,List.getElem?_eq_getElem (by omega)];rfl
      rw[this];simp⟩⟩
   rw[hup] at rdef
   have hin:∀a∈l.take i,0≤a∧a<(t.pieces.length:Int):=fun a ha=>by
    obtain⟨j,hj,rfl⟩:=List.getElem_of_mem ha
    rw[List.length_take] at hj
    rw[List.getElem_take]
    have:=hok j (by omega)
    unfold rowOk at this
    rw[List.getElem?_eq_getElem (by omega)] at this
    simp only[Bool.and_eq_true,decide_eq_true_eq] at this
    exact this.1.1
   rcases hst with⟨rfl,rfl⟩|⟨j,rfl,hj,hud⟩
   ·have z1:¬(0:Int)<((0:Nat):Int):=by omega
    simp(disch:=first|omega|simp only[nZ]<;>omega|fail)only[go_sem,t2,t5,t7,t10,t11,t12,t16,t17,t18,g9,r0,r1,g2B,hlP,z1]
    refine hasInt_ev sB.wf ((osl.mono sq).mono sB) l[0] _ fun hC sC=>?_
    cases hs1:seen.any fun r=>decide (l[0]=r) with
    |true=>
     have hb:rowOk t seen l 0=false:=by rw[rdef,hs1];simp
     have q':=q hC (hadd _ sC)
     rw[rbad hb] at q'
     simp(disch:=first|omega|simp only[nZ]<;>omega|fail)only[go_sem,t2,t5,t7,t10,t11,t12,t16,t17,t18,g9,g2B]
     exact q'
    |false=>
     rw[hs1] at rdef
     have sBC:=sB.trans sC
     obtain⟨ys,hys,cys,_⟩:=((cv.mono sq).mono sBC).to (k:=0) (by omega) (by simp only[List.length_map];omega) (by simp only[List.length_map];omega)
     rw[←List.map_take] at cys
     have s5C:=s5q.trans sC
     simp(disch:=first|omega|simp only[nZ]<;>omega|fail)only[go_sem,t2,t5,t7,t10,t11,t12,t16,t17,t18,g9,sC.cells g9,g2B,evQ_slc,q_slc_to,hys]
     refine(containsFuncInt_ev (p:=fun q=> !mT t l[0] q) sC.wf (cys.sl (by simp only[List.length_map,List.length_take];omega)) fun a ha=>sorting1_ev g (sC.cells g2B) (ht0.mono (s1.trans s5C)) (sC.cells g9) (by omega) (hin a ha)).mono fun u hD hu=>?_
     obtain⟨rfl,sD⟩:=hu
     have eall:((l.take (0)).all fun q=>mT t l[0] q)= !((l.take (0)).any fun q=> !mT t l[0] q):=List.all_eq_not_any_not
     rw[eall] at rdef
     cases hs2:(l.take (0)).any fun q=> !mT t l[0] q with
     |true=>
      rw[hs2] at rdef
      have q':=q hD (hadd _ (sC.trans sD))
      rw[rbad (by rw[rdef];simp)] at q'
      simp(disch:=first|omega|simp only[nZ]<;>omega|fail)only[go_sem,t2,t5,t7,t10,t11,t12,t16,t17,t18,sC.cells g9,g9,g2B,sC.cells g2B,hys,evQ_slc,q_slc_to]
      exact q'
     |false=>
      rw[hs2] at rdef
      simp(disch:=first|omega|simp only[nZ]<;>omega|fail)only[go_sem,t2,t5,t7,t10,t11,t12,t16,t17,t18,sC.cells g9,g9,g2B,sC.cells g2B,hys,evQ_slc,q_slc_to,wr_succ]
      exact⟨_,_,rfl,(sq.trans sBC).trans sD,fun i' h1=>by
       by_cases e:i'=0
       ·rw[e,rdef];rfl
       ·exact hok i' (by omega),(by simp[t2]),(by simp[t5]),(by simp[t7]),(by simp[t10]),(by simp[t11]),(by simp[t12]),(by simp[t16]),(by simp[t17]),(by simp)⟩
   ·have z1:(0:Int)<((j+1:Nat):Int):=by omega
    have z4:((j+1:Nat):Int)-1=(j:Int):=by omega
    obtain⟨b3,o3,cs3,u1,u2,u3⟩:∃b o cs,q_iad 1 v (.int .i64 (j:Int))=some (.ptr b o)∧hB.cells b=some cs∧nth o cs=some (.int .i64 l[j]):=by
     obtain⟨b,o,c,cs,e1,e2,e3,_,_,e4⟩:=((sv.mono sq).mono sB).at hj
     have e5:=e4 (by omega)
     exact⟨b,o+j*1,cs,e3 (nat_cst j),e2,by rw[e5];rfl⟩
    cases up with
    |false=>
     have hb:rowOk t seen l (j+1)=false:=by rw[rdef];rfl
     have hle:l[j+1]≤l[j]:=by have:=of_decide_eq_false hud.symm;omega
     have q':=q hB (hadd _ (H.Sub.refl sB.wf))
     rw[rbad hb] at q'
     simp(disch:=first|omega|simp only[nZ]<;>omega|fail)only[go_sem,t2,t5,t7,t10,t11,t12,t16,t17,t18,g9,r0,r1,g2B,hlP,z1,z4,wr_in,u1,u2,u3,hle]
     exact q'
    |true=>
     have hle:¬l[j+1]≤l[j]:=by have:=of_decide_eq_true hud.symm;omega
     simp(disch:=first|omega|simp only[nZ]<;>omega|fail)only[go_sem,t2,t5,t7,t10,t11,t12,t16,t17,t18,g9,r0,r1,g2B,hlP,z1,z4,wr_in,u1,u2,u3,hle]
     refine hasInt_ev sB.wf ((osl.mono sq).mono sB) l[j+1] _ fun hC sC=>?_
     cases hs1:seen.any fun r=>decide (l[j+1]=r) with
     |true=>
      have hb:rowOk t seen l (j+1)=false:=by rw[rdef,hs1];simp
      have q':=q hC (hadd _ sC)
      rw[rbad hb] at q'
      simp(disch:=first|omega|simp only[nZ]<;>omega|fail)only[go_sem,t2,t5,t7,t10,t11,t12,t16,t17,t18,g9,g2B,u2,u3]
      exact q'
     |false=>
      rw[hs1] at rdef
      have sBC:=sB.trans sC
      obtain⟨ys,hys,cys,_⟩:=((cv.mono sq).mono sBC).to (k:=j+1) (by omega) (by simp only[List.length_map];omega) (by simp only[List.length_map];omega)
      rw[←List.map_take] at cys
      have s5C:=s5q.trans sC
      simp(disch:=first|omega|simp only[nZ]<;>omega|fail)only[go_sem,t2,t5,t7,t10,t11,t12,t16,t17,t18,g9,sC.cells g9,g2B,u2,u3,evQ_slc,q_slc_to,hys]
      refine(containsFuncInt_ev (p:=fun q=> !mT t l[j+1] q) sC.wf (cys.sl (by simp only[List.length_map,List.length_take];omega)) fun a ha=>sorting1_ev g (sC.cells g2B) (ht0.mono (s1.trans s5C)) (sC.cells g9) (by omega) (hin a ha)).mono fun u hD hu=>?_
      obtain⟨rfl,sD⟩:=hu
      have eall:((l.take (j+1)).all fun q=>mT t l[j+1] q)= !((l.take (j+1)).any fun q=> !mT t l[j+1] q):=List.all_eq_not_any_not
      rw[eall] at rdef
      cases hs2:(l.take (j+1)).any fun q=> !mT t l[j+1] q with
      |true=>
       rw[hs2] at rdef
       have q':=q hD (hadd _ (sC.trans sD))
       rw[rbad (by rw[rdef];simp)] at q'
       simp(disch:=first|omega|simp only[nZ]<;>omega|fail)only[go_sem,t2,t5,t7,t10,t11,t12,t16,t17,t18,sC.cells g9,g9,g2B,sC.cells g2B,u2,u3,hys,evQ_slc,q_slc_to]
       exact q'
      |false=>
       rw[hs2] at rdef
       simp(disch:=first|omega|simp only[nZ]<;>omega|fail)only[go_sem,t2,t5,t7,t10,t11,t12,t16,t17,t18,sC.cells g9,g9,g2B,sC.cells g2B,u2,u3,hys,evQ_slc,q_slc_to,wr_succ]
       exact⟨_,_,rfl,(sq.trans sBC).trans sD,fun i' h1=>by
        by_cases e:i'=j+1
        ·rw[e,rdef];rfl
        ·exact hok i' (by omega),(by simp[t2]),(by simp[t5]),(by simp[t7]),(by simp[t10]),(by simp[t11]),(by simp[t12]),(by simp[t16]),(by simp[t17]),(by simp)⟩
  ·clear t2 t5 t10 t11 t12
   rintro s ⟨tm,hq,rfl,sq,hok,t2,t5,t7,t10,t11,t12,t16,t17,t18⟩
   have hall:(List.range l.length).all (rowOk t seen l)=true:=List.all_eq_true.2 fun i hi=>hok i (List.mem_range.1 hi)
   have oyq:=oy.mono sq
   cases hl0:l with
   |nil=>
    have hb:lsR t [] S=false:=by rw[hR,hl0];unfold lsR;simp
    have e0:(l.length:Int)=0:=by rw[hl0];rfl
    have hap:=oyq.app0 (by_:=8) (by omega) (y:=v) (by have:=sv.mono sq;rw[hl0] at this;exact this)
    have d0:decide ((0:Int)=0)=true:=rfl
    rw[e0] at t17 lv
    have hlt:¬((l.length:Nat):Int)<0:=by omega
    have q':=q hq (s1.trans (hs.trans sq))
    rw[hb] at q'
    rw[hl0] at t18
    simp(disch:=first|omega|simp only[nZ]<;>omega|fail)only[go_sem,t2,t5,t7,t10,t11,t12,t16,t17,t18,lv,Int.lt_irrefl,hap,d0,List.length_nil,Int.natCast_zero]
    exact q'
   |cons a0 l0=>
    have h0:0<l.length:=by rw[hl0];simp
    have hne:decide ((l.length:Int)=0)=false:=decide_eq_false (by omega)
    obtain⟨he,hle⟩:=(sv.mono sq).elems
    have hone:allOne (l.map encI).flatten=true:=by
     rw[allOne_eq]
     intro v hv
     obtain⟨r,hr,hv⟩:=List.mem_flatten.1 hv
     obtain⟨e,_,rfl⟩:=List.mem_map.1 hr
     simp only[encI,List.mem_singleton] at hv
     subst hv;rfl
    simp(disch:=first|omega|simp only[nZ]<;>omega|fail)only[go_sem,t2,t5,t7,t10,t11,t12,t16,t17,t18,Int.lt_irrefl]
    refine oyq.app (by_:=8) s1.wf (new:=l.map encI) (by rw[hl0];simp) (fun r hr=>by obtain⟨_,_,rfl⟩:=List.mem_map.1 hr;rfl) he hle hone (by simp only[List.length_map];omega) (by simp only[List.length_map];omega) fun h2 o2 k2 n2=>?_
    rw[←List.map_append,←etk] at o2
    simp(disch:=first|omega|simp only[nZ]<;>omega|fail)only[go_sem,t2,t5,t7,t10,t11,t12,t16,t17,t18,lv,hne,wr_succ]
    refine⟨_,_,_,rfl,o2,?_,(by simp[t2]),(by simp),(by simp[t10]),(by simp[t11]),(by simp)⟩
    rw[hR,etk]
    conv=>lhs;unfold lsR
    rw[hall,hl0];rfl
 ·rintro s ⟨tm,h',y,rfl,oy,hR,t2,t5,t10,t11,t12⟩
  have hs:=oy.1
  have hfl:=flen S.length
  have ly:=(oy.sl (by simp only[List.length_map];omega)).lenE
  rw[List.drop_length] at hR
  simp only[lsR] at hR
  rw[hR] at q
  simp(disch:=first|omega|simp only[nZ]<;>omega|fail)only[go_sem,t2,t5,t10,t11,t12,Int.lt_irrefl,ly,hs.cells g2,hlP]
  exact q _ (s1.trans hs)
end Tryz
end Go.Ab
namespace Go.Ab.Tryz
open Go.Proofs
theorem es2_ok {h:H}{bT bP:Nat}{E L P:V}{t:Tb}(g:Good t)(gT:h.cells bT=some [E,L,P])(ht:TbIs h (.agg [E,L,P]) t){p:Int}(gP:h.cells bP=some [.int .i64 p])(hp:0≤p∧p<(t.pieces.length:Int)){r:Int}(hr:0≤r∧r<(t.pieces.length:Int)):
  PureA h (.fn 46 [] [.ptr bT 0,.ptr bP 0]) [.int .i64 r] (.bool (!mT t p r)):=by
 intro h1 hs
 obtain⟨i,rfl⟩:=Int.eq_ofNat_of_zero_le hp.1
 obtain⟨k,rfl⟩:=Int.eq_ofNat_of_zero_le hr.1
 refine Ev.gen fun Q q=>?_
 refine Ev_body (fd:=c46) rfl rfl rfl ?_
 simp(disch:=first|omega|simp only[nZ]<;>omega|fail)only[c46,go_sem,hs.cells gT,hs.cells gP]
 refine lmatch_ev hs.wf (ht.mono hs) g (show i<t.pieces.length by omega) (show k<t.pieces.length by omega) _ fun h2 s2=>?_
 simp(disch:=first|omega|simp only[nZ]<;>omega|fail)only[go_sem]
 refine q _ _ ⟨?_,s2⟩
 have:mT t (i:Int) (k:Int)=MM t i k:=by simp only[mT,Int.toNat_natCast];exact MM_comm g k i
 rw[this]
theorem es3_ok {h:H}{bT bP:Nat}{E L P:V}{t:Tb}(g:Good t)(gT:h.cells bT=some [E,L,P])(ht:TbIs h (.agg [E,L,P]) t){p:Int}(gP:h.cells bP=some [.int .i64 p])(hp:0≤p∧p<(t.pieces.length:Int)){r:Int}(hr:0≤r∧r<(t.pieces.length:Int)):
  PureA h (.fn 49 [] [.ptr bT 0,.ptr bP 0]) [.int .i64 r] (.bool (!mT t p r)):=by
 intro h1 hs
 obtain⟨i,rfl⟩:=Int.eq_ofNat_of_zero_le hp.1
 obtain⟨k,rfl⟩:=Int.eq_ofNat_of_zero_le hr.1
 refine Ev.gen fun Q q=>?_
 refine Ev_body (fd:=c49) rfl rfl rfl ?_
 simp(disch:=first|omega|simp only[nZ]<;>omega|fail)only[c49,go_sem,hs.cells gT,hs.cells gP]
 refine lmatch_ev hs.wf (ht.mono hs) g (show i<t.pieces.length by omega) (show k<t.pieces.length by omega) _ fun h2 s2=>?_
 simp(disch:=first|omega|simp only[nZ]<;>omega|fail)only[go_sem]
 refine q _ _ ⟨?_,s2⟩
 have:mT t (i:Int) (k:Int)=MM t i k:=by simp only[mT,Int.toNat_natCast];exact MM_comm g k i
 rw[this]
theorem es41_ok {h:H}{bT bP:Nat}{E L P:V}{t:Tb}(g:Good t)(gT:h.cells bT=some [E,L,P])(ht:TbIs h (.agg [E,L,P]) t){p:Int}(gP:h.cells bP=some [.int .i64 p])(hp:0≤p∧p<(t.pieces.length:Int)){r:Int}(hr:0≤r∧r<(t.pieces.length:Int)):
  PureA h (.fn 54 [] [.ptr bT 0,.ptr bP 0]) [.int .i64 r] (.bool (!mT t p r)):=by
 intro h1 hs
 obtain⟨i,rfl⟩:=Int.eq_ofNat_of_zero_le hp.1
 obtain⟨k,rfl⟩:=Int.eq_ofNat_of_zero_le hr.1
 refine Ev.gen fun Q q=>?_
 refine Ev_body (fd:=c54) rfl rfl rfl ?_
 simp(disch:=first|omega|simp only[nZ]<;>omega|fail)only[c54,go_sem,hs.cells gT,hs.cells gP]
 refine lmatch_ev hs.wf (ht.mono hs) g (show i<t.pieces.length by omega) (show k<t.pieces.length by omega) _ fun h2 s2=>?_
 simp(disch:=first|omega|simp only[nZ]<;>omega|fail)only[go_sem]
 refine q _ _ ⟨?_,s2⟩
 have:mT t (i:Int) (k:Int)=MM t i k:=by simp only[mT,Int.toNat_natCast];exact MM_comm g k i
 rw[this]
theorem es1_ok {h:H}{bP bL:Nat}{p:Int}{vL:V}{c:List Int}(gP:h.cells bP=some [.int .i64 p])(gL:h.cells bL=some [vL])(aL:SlAt h vL 1 (c.map encI)){x:V}{l:List Int}(ax:SlAt h x 1 (l.map encI)):
  PureA h (.fn 44 [] [.ptr bP 0,.ptr bL 0]) [x] (.bool ((l.any fun r=>decide (p=r))&&decide (c.length<l.length))):=by
 intro h1 hs
 refine Ev.gen fun Q q=>?_
 refine Ev_body (fd:=c44) rfl rfl rfl ?_
 simp(disch:=first|omega|simp only[nZ]<;>omega|fail)only[c44,go_sem,hs.cells gP]
 refine hasInt_ev hs.wf (ax.mono hs) p _ fun h2 s2=>?_
 have g2:=s2.cells (hs.cells gL)
 cases e:l.any fun r=>decide (p=r) with
 |false=>
  simp(disch:=first|omega|simp only[nZ]<;>omega|fail)only[go_sem]
  exact q _ _ ⟨by rw[e];rfl,s2⟩
 |true=>
  simp(disch:=first|omega|simp only[nZ]<;>omega|fail)only[go_sem,g2,ax.lenE,aL.lenE]
  refine q _ _ ⟨?_,s2⟩
  rw[e,Bool.true_and]
  congr 1
  exact decide_eq_decide.2 (by omega)
theorem es4_ok {h:H}(hw:h.wf){bT bP:Nat}{E L P:V}{t:Tb}(g:Good t)(gT:h.cells bT=some [E,L,P])(ht:TbIs h (.agg [E,L,P]) t){p:Int}(gP:h.cells bP=some [.int .i64 p])(hp:0≤p∧p<(t.pieces.length:Int)){x:V}{l:List Int}(ax:SlAt h x 1 (l.map encI))(hl:∀r∈l,0≤r∧r<(t.pieces.length:Int)):
  PureA h (.fn 53 [] [.ptr bT 0,.ptr bP 0]) [x] (.bool (l.all fun r=>mT t p r)):=by
 intro h1 hs
 refine Ev.gen fun Q q=>?_
 refine Ev_body (fd:=c53) rfl rfl rfl ?_
 simp(disch:=first|omega|simp only[nZ]<;>omega|fail)only[c53,go_sem]
 refine(containsFuncInt_ev (p:=fun r=> !mT t p r) hs.wf (ax.mono hs) fun r hr=>es41_ok g (hs.cells gT) (ht.mono hs) (hs.cells gP) hp (hl r hr)).mono fun v h2 hv=>?_
 obtain⟨rfl,s2⟩:=hv
 simp(disch:=first|omega|simp only[nZ]<;>omega|fail)only[go_sem]
 exact q _ _ ⟨by rw[any_not],s2⟩
end Go.Ab.Tryz
namespace Go.Ab.Tryz
open Go.Ab.Silk (Inc bitsL bitsL_inc bitsL_onto)
def val:List Int→Int
 |[]=>0
 |x::l=>2^x.toNat+val l
theorem upto_succ (n:Nat):upto (n+1)=upto n++[(n:Int)]:=by unfold upto;rw[List.range_succ,List.map_append];rfl
end Go.Ab.Tryz
namespace Go.Ab.Tryz
open Go.Ab.Silk (Inc bitsL lexlt before IsMin)
end Go.Ab.Tryz
namespace Go.Ab.Tryz
open Go.Ab.Silk (Inc bitsL lexlt lexlt_irrefl lexlt_trans lexlt_total)
def navK:List Bool→C→C
 |[],c=>c
 |b::p,.seq x y=>match b with|true=>navK p y|false=>navK p x
 |b::p,.cond _ x y=>match b with|true=>navK p y|false=>navK p x
 |_::p,.block _ x=>navK p x
 |_::p,.loop x=>navK p x
 |_::p,.scope x=>navK p x
 |_::_,c=>c
theorem SlAt.elemF {h:H}{v:V}{l:List Int}(a:SlAt h v 1 (l.map encI)){j:Nat}(hj:j<l.length):∃b o cs,q_iad 1 v (.int .i64 (j:Int))=some (.ptr b o)∧h.cells b=some cs∧nth o cs=some (.int .i64 l[j]):=by
 obtain⟨b,o,c,cs,e1,e2,e3,_,_,e4⟩:=a.at hj
 have e5:=e4 (by omega)
 exact⟨b,o+j*1,cs,e3 (nat_cst j),e2,by rw[e5];rfl⟩
def hasP (pc:Int)(l:List Int):Bool:=decide (pc<0)||l.any fun r=>decide (pc=r)
end Go.Ab.Tryz
namespace Go.Ab.Tryz
def RowI (h:H)(v:V)(l:List Int):Prop:=SlAt h v 1 (l.map encI)∨(l=[]∧∃a,v=.sl0 a)
theorem RowI.mono {h h':H}{v:V}{l:List Int}(a:RowI h v l)(s:h.Sub h'):RowI h' v l:=a.imp (fun a=>a.mono s) id
theorem RowI.sl {h:H}{v:V}{l:List Int}(a:RowI h v l)(hn:l≠[]):SlAt h v 1 (l.map encI):=a.resolve_right fun h=>hn h.1
theorem RowI.lenE {h:H}{v:V}{l:List Int}(a:RowI h v l):q_len v=some (.int .i64 (l.length:Int)):=by
 rcases a with a|⟨rfl,x,rfl⟩
 ·exact a.lenE
 ·rfl
theorem RowI.one {h:H}{v:V}{l:List Int}(a:RowI h v l):v.one=true:=by
 rcases a with a|⟨rfl,x,rfl⟩
 ·exact a.one
 ·rfl
theorem RowI.boundE {h:H}{v:V}{l:List Int}(a:RowI h v l):l.length≤9223372036854775807:=by
 rcases a with a|⟨rfl,x,rfl⟩
 ·exact a.boundE
 ·simp
def RdI (h:H)(x:V)(S:List (List Int)):Prop:=∃xs:List V,SlAt h x 1 (xs.map fun v=>[v])∧xs.length=S.length∧∀i (hi:i<xs.length) (hj:i<S.length),RowI h xs[i] S[i]
theorem RdI.mono {h h':H}{x:V}{S:List (List Int)}(a:RdI h x S)(s:h.Sub h'):RdI h' x S:=by
 obtain⟨xs,a1,a2,a3⟩:=a
 exact⟨xs,a1.mono s,a2,fun i hi hj=>(a3 i hi hj).mono s⟩
theorem RdI.len {h:H}{x:V}{S:List (List Int)}(a:RdI h x S):q_len x=some (.int .i64 (S.length:Int)):=by
 obtain⟨xs,a1,a2,_⟩:=a
 rw[a1.lenE,a2]
theorem RdI.bound {h:H}{x:V}{S:List (List Int)}(a:RdI h x S):S.length≤9223372036854775807:=by
 obtain⟨xs,a1,a2,_⟩:=a
 rw[←a2];exact a1.boundE
theorem RdI.row {h:H}{x:V}{S:List (List Int)}(a:RdI h x S){i:Nat}(hi:i<S.length):∃b o cs v,q_iad 1 x (.int .i64 (i:Int))=some (.ptr b o)∧h.cells b=some cs∧nth o cs=some v∧RowI h v S[i]:=by
 obtain⟨xs,a1,a2,a3⟩:=a
 obtain⟨b,o,c,cs,e1,e2,e3,_,_,e4⟩:=a1.at (k:=i) (by omega)
 have e5:=e4 (by omega)
 exact⟨b,o+i*1,cs,xs[i],e3 (nat_cst i),e2,e5,a3 i (by omega) hi⟩
structure OkP (t:Tb)(l:List Int):Prop where
 up:l.Pairwise (· < ·)
 pc:∀x∈l,0≤x∧x<(t.pieces.length:Int)
 go:l.Pairwise fun a b=>mT t a b=true
structure SrtP (t:Tb)(S:List (List Int)):Prop where
 ne:∀l∈S,l≠[]
 ok:∀l∈S,OkP t l
 nd:S.flatten.Nodup
 len:S.flatten.length=t.pieces.length
noncomputable def srtB (t:Tb)(S:List (List Int)):Bool:= @decide (SrtP t S) (Classical.propDecidable _)
theorem srtB_true {t:Tb}{S:List (List Int)}(h:SrtP t S):srtB t S=true:=by unfold srtB;exact @decide_eq_true _ (Classical.propDecidable _) h
theorem srtB_false {t:Tb}{S:List (List Int)}(h:¬SrtP t S):srtB t S=false:=by unfold srtB;exact @decide_eq_false _ (Classical.propDecidable _) h
theorem srt_srtB {t:Tb}{S:List (List Int)}(a:Srt (mT t) t.pieces.length S):srtB t S=true:=
 srtB_true ⟨fun l hl=>a.ne l hl,fun l hl=>⟨a.up l hl,fun x hx=>a.mem hl hx,a.go l hl⟩,a.all.nodup_iff.2 (upto_nodup _),a.len⟩
theorem OkP.nil (t:Tb):OkP t []:=⟨List.Pairwise.nil,(fun x h=>by cases h),List.Pairwise.nil⟩
theorem flat_take {S:List (List Int)}{k:Nat}(hk:k<S.length):(S.take (k+1)).flatten=(S.take k).flatten++S[k]:=by
 rw[List.take_succ_eq_append_getElem hk,List.flatten_append];simp
end Go.Ab.Tryz
namespace Go.Ab.Tryz
open Go.Ab.Silk (Inc lexlt)
def growS (T:Int→Int→Bool)(l:List Int)(a:Int):List Int:=if l.contains a=false∧(l.all fun b=>T a b)=true then l++[a] else l
def growL (T:Int→Int→Bool)(l o:List Int):List Int:=o.foldl (growS T) l
structure Grown (T:Int→Int→Bool)(n:Nat)(p:Int)(l:List Int):Prop where
 nd:l.Nodup
 rg:∀x∈l,0≤x∧x<(n:Int)
 cl:Clq T l
 has:p∈l
theorem Grown.one {T:Int→Int→Bool}{n:Nat}{p:Int}(h:0≤p∧p<(n:Int)):Grown T n p [p]:=
 ⟨by simp,fun x hx=>by rw[List.mem_singleton] at hx;subst hx;exact h,fun x hx y hy ne=>by rw[List.mem_singleton] at hx hy;exact absurd (hx.trans hy.symm) ne,by simp⟩
theorem Grown.step {T:Int→Int→Bool}(sy:∀x y,T x y=T y x){n:Nat}{p:Int}{l:List Int}(g:Grown T n p l){a:Int}(h:0≤a∧a<(n:Int)):Grown T n p (growS T l a):=by
 unfold growS
 split
 ·rename_i c
  obtain⟨c1,c2⟩:=c
  have hn:a ∉l:=fun hm=>by rw[List.contains_iff_mem.2 hm] at c1;cases c1
  have hT:∀b∈l,T a b=true:=fun b hb=>List.all_eq_true.1 c2 b hb
  refine⟨?_,fun x hx=>?_,fun x hx y hy ne=>?_,List.mem_append_left _ g.has⟩
  ·rw[List.nodup_append]
   exact⟨g.nd,by simp,fun x hx y hy=>by rw[List.mem_singleton] at hy;subst hy;exact fun e=>hn (e▸hx)⟩
  ·rcases List.mem_append.1 hx with hx|hx
   ·exact g.rg x hx
   ·rw[List.mem_singleton] at hx;subst hx;exact h
  ·rcases List.mem_append.1 hx with k|k<;>rcases List.mem_append.1 hy with j|j
   ·exact g.cl x k y j ne
   ·rw[List.mem_singleton.1 j,sy];exact hT x k
   ·rw[List.mem_singleton.1 k];exact hT y j
   ·exact absurd ((List.mem_singleton.1 k).trans (List.mem_singleton.1 j).symm) ne
 ·exact g
theorem Grown.all {T:Int→Int→Bool}(sy:∀x y,T x y=T y x){n:Nat}{p:Int}:∀(o:List Int) {l:List Int},Grown T n p l→(∀a∈o,0≤a∧a<(n:Int))→Grown T n p (growL T l o)
 |[],_,g,_=>g
 |a::o,_,g,h=>Grown.all sy o (g.step sy (h a (by simp))) fun x hx=>h x (by simp[hx])
theorem Grown.sort {T:Int→Int→Bool}{n:Nat}{p:Int}{l:List Int}(g:Grown T n p l):Inc n 0 (sortI l)∧Clq T (sortI l)∧p∈sortI l:=by
 have pm:=sortI_perm l
 have nd:(sortI l).Nodup:=pm.nodup_iff.2 g.nd
 refine⟨Inc.of ?_ fun x hx=>g.rg x (pm.mem_iff.1 hx),fun x hx y hy=>g.cl x (pm.mem_iff.1 hx) y (pm.mem_iff.1 hy),pm.mem_iff.2 g.has⟩
 exact((sortI_sorted l).and nd).imp fun h=>by omega
theorem Grown.len {T:Int→Int→Bool}{n:Nat}{p:Int}{l:List Int}(g:Grown T n p l):l.length≤n:=by
 have:=g.sort.1.len (by omega)
 rw[(sortI_perm l).length_eq] at this
 omega
theorem gr_best {T:Int→Int→Bool}{n:Nat}{p:Int}{c l:List Int}(hc:LastIs (mostP T fun l=>l.any fun r=>decide (p=r)) n n c)(g:Grown T n p l):
  (sortI l).length<c.length∨((sortI l).length=c.length∧(sortI l=c∨lexlt c (sortI l)=true)):=by
 obtain⟨h1,h2,h3⟩:=g.sort
 refine hc.max _ h1 ?_ (by rw[(sortI_perm l).length_eq];exact g.len)
 have:=mostP_iff.2 h2
 unfold mostP at this⊢
 rw[Bool.true_and] at this
 rw[this,Bool.and_true]
 exact List.any_eq_true.2 ⟨p,h3,decide_eq_true rfl⟩
theorem gr_set {T:Int→Int→Bool}(sy:∀x y,T x y=T y x){n:Nat}{p:Int}{c x:List Int}{S:List (List Int)}(hc:LastIs (mostP T fun l=>l.any fun r=>decide (p=r)) n n c)(a:Srt T n S)(hx:x∈S)(hp:p∈x):x.length≤c.length:=by
 have hi:Inc n 0 x:=Inc.of (a.up x hx) fun y hy=>a.mem hx hy
 have hq:Clq T x:=fun u hu v hv ne=>by
  obtain⟨i,hi,rfl⟩:=List.getElem_of_mem hu
  obtain⟨k,hk,rfl⟩:=List.getElem_of_mem hv
  have pw:=List.pairwise_iff_getElem.1 (a.go x hx)
  rcases Nat.lt_trichotomy i k with h|h|h
  ·exact pw i k hi hk h
  ·subst h;exact absurd rfl ne
  ·rw[sy];exact pw k i hk hi h
 have:=hc.max x hi (by
  have:=mostP_iff.2 hq
  unfold mostP at this⊢
  rw[Bool.true_and] at this
  rw[this,Bool.and_true]
  exact List.any_eq_true.2 ⟨p,hp,decide_eq_true rfl⟩) (by have:=hi.len (by omega);omega)
 rcases this with h|⟨h, -⟩<;>omega
def fitS (T:Int→Int→Bool)(S:List (List Int))(p:Int):List (List Int):=match S.findIdx? fun x=>x.all fun r=>T p r with
 |none=>S++[[p]]
 |some i=>S.set i (S.getD i []++[p])
structure FitS (T:Int→Int→Bool)(o:List Int)(S:List (List Int)):Prop where
 ne:∀l∈S,l≠[]
 cl:∀l∈S,Clq T l
 all:S.flatten.Perm o
theorem FitS.nil (T:Int→Int→Bool):FitS T [] []:=⟨by simp,by simp,by simp⟩
theorem flat_set {S:List (List Int)}:∀{i:Nat} (hi:i<S.length) (p:Int),(S.set i (S[i]++[p])).flatten.Perm (S.flatten++[p]):=by
 induction S with
 |nil=>intro i hi;simp at hi
 |cons l S ih=>
  intro i hi p
  cases i with
  |zero=>
   simp only[List.set_cons_zero,List.flatten_cons,List.getElem_cons_zero,List.append_assoc]
   exact List.Perm.append_left l List.perm_append_comm
  |succ i=>
   simp only[List.set_cons_succ,List.flatten_cons,List.getElem_cons_succ,List.append_assoc]
   exact List.Perm.append_left l (ih (Nat.lt_of_succ_lt_succ hi) p)
theorem FitS.step {T:Int→Int→Bool}(sy:∀x y,T x y=T y x){o:List Int}{S:List (List Int)}(a:FitS T o S)(p:Int):FitS T (o++[p]) (fitS T S p):=by
 unfold fitS
 cases e:S.findIdx? fun x=>x.all fun r=>T p r with
 |none=>
  dsimp only
  refine⟨fun l hl=>?_,fun l hl=>?_,?_⟩
  ·rcases List.mem_append.1 hl with hl|hl
   ·exact a.ne l hl
   ·rw[List.mem_singleton] at hl;subst hl;simp
  ·rcases List.mem_append.1 hl with hl|hl
   ·exact a.cl l hl
   ·rw[List.mem_singleton] at hl;subst hl
    exact fun x hx y hy ne=>by rw[List.mem_singleton] at hx hy;exact absurd (hx.trans hy.symm) ne
  ·rw[List.flatten_append,List.flatten_singleton];exact List.Perm.append_right [p] a.all
 |some i=>
  obtain⟨hi,h1, -⟩:=List.findIdx?_eq_some_iff_getElem.1 e
  have hT:∀r∈S[i],T p r=true:=fun r hr=>List.all_eq_true.1 h1 r hr
  have hm:=List.getElem_mem hi
  dsimp only
  have eg:S.getD i []=S[i]:=by rw[List.getD_eq_getElem?_getD,List.getElem?_eq_getElem hi];rfl
  rw[eg]
  refine⟨fun l hl=>?_,fun l hl=>?_,(flat_set hi p).trans (List.Perm.append_right [p] a.all)⟩
  ·rcases List.mem_or_eq_of_mem_set hl with h|rfl
   ·exact a.ne l h
   ·simp
  ·rcases List.mem_or_eq_of_mem_set hl with h|rfl
   ·exact a.cl l h
   ·intro x hx y hy ne
    rcases List.mem_append.1 hx with k|k<;>rcases List.mem_append.1 hy with j|j
    ·exact a.cl _ hm x k y j ne
    ·rw[List.mem_singleton.1 j,sy];exact hT x k
    ·rw[List.mem_singleton.1 k];exact hT y j
    ·exact absurd ((List.mem_singleton.1 k).trans (List.mem_singleton.1 j).symm) ne
theorem FitS.fold {T:Int→Int→Bool}(sy:∀x y,T x y=T y x):∀(r:List Int) {o:List Int} {S:List (List Int)},FitS T o S→FitS T (o++r) (r.foldl (fitS T) S)
 |[],o,S,a=>by rw[List.append_nil];exact a
 |p::r,o,S,a=>by
  have:=FitS.fold sy r (a.step sy p)
  rw[List.append_assoc] at this
  exact this
theorem flat_sort:∀S:List (List Int),(S.map sortI).flatten.Perm S.flatten
 |[]=>List.Perm.refl _
 |l::S=>by
  rw[List.map_cons,List.flatten_cons,List.flatten_cons]
  exact(sortI_perm l).append (flat_sort S)
theorem FitS.srt {T:Int→Int→Bool}{n:Nat}{o:List Int}{S:List (List Int)}(a:FitS T o S)(ho:o.Perm (upto n)):Srt T n (S.map sortI):=by
 have al:(S.map sortI).flatten.Perm (upto n):=(flat_sort S).trans (a.all.trans ho)
 have nd:(S.map sortI).flatten.Nodup:=al.nodup_iff.2 (upto_nodup n)
 have up:∀l∈S.map sortI,l.Pairwise (· < ·):=fun l hl=>by
  obtain⟨x,hx,rfl⟩:=List.mem_map.1 hl
  have:(sortI x).Nodup:=(List.pairwise_flatten.1 nd).1 _ hl
  exact((sortI_sorted x).and this).imp fun h=>by omega
 refine⟨fun l hl=>?_,up,fun l hl=>?_,al⟩
 ·obtain⟨x,hx,rfl⟩:=List.mem_map.1 hl
  exact fun e=>a.ne x hx (List.length_eq_zero_iff.1 (by rw[←(sortI_perm x).length_eq,e];rfl))
 ·obtain⟨x,hx,rfl⟩:=List.mem_map.1 hl
  refine List.pairwise_iff_getElem.2 fun i j hi hj hij=>?_
  have:=List.pairwise_iff_getElem.1 (up _ hl) i j hi hj hij
  exact a.cl x hx _ ((sortI_perm x).mem_iff.1 (List.getElem_mem hi)) _ ((sortI_perm x).mem_iff.1 (List.getElem_mem hj)) (by omega)
theorem Srt.least {T:Int→Int→Bool}(sy:∀x y,T x y=T y x){n:Nat}{S:List (List Int)}(a:Srt T n S):chi T n≤S.length:=by
 obtain⟨g,hg, -⟩:=a.col sy
 exact chi_le hg
end Go.Ab.Tryz
namespace Go.Ab.Tryz
open Go.Proofs
theorem indexFuncRows_ev {α:Type}{val:α→V}{l:List α}{p:α→Bool}{h:H}{x f:V}(hw:h.wf)(hx:SlAt h x 1 (l.map fun a=>[val a]))(h1:∀a∈l,(val a).one=true)(hp:∀a∈l,PureA h f [val a] (.bool (p a))):
  E (.fn 52 [] []) [x,f] h fun v h'=>v=.int .i64 (fidx p l 0)∧h.Sub h':=by
 have hb:=hx.boundE
 refine Ev_body (fd:=c52) rfl rfl rfl ?_
 simp(disch:=first|omega|simp only[nZ]<;>omega|fail)only[c52,go_sem,hx.lenE]
 refine W_count l.length (fun i s=>∃tm h',s=⟨tm,h',[]⟩∧h.Sub h'∧(Opd.t 0).ev tm=x∧(Opd.t 1).ev tm=f∧(Opd.t 7).ev tm=.int .i64 (l.length:Int)∧(Opd.t 8).ev tm=.int .i64 (i:Int)∧fidx p l 0=fidx p (l.drop i) i)
  ?_ ?_ (i:=0) (Nat.zero_le _) ⟨_,_,rfl,H.Sub.refl hw,(by simp),(by simp),(by simp),(by simp only[ev_put];rfl),rfl⟩
 ·rintro i s hi ⟨tm,h',rfl,hs,e0,e1,e7,e8,e9⟩
  have hi':(i:Int)<(l.length:Int):=by omega
  obtain⟨b,o,c,cs,rfl,hc,hq,hg,hn,hn0⟩:=(hx.mono hs).at hi
  simp(disch:=first|omega|simp only[nZ]<;>omega|fail)only[go_sem,e0,e1,e7,e8,hi',hq (nat_cst i),hc,hn0 (by simp),h1 _ (List.getElem_mem hi)]
  refine(hp _ (List.getElem_mem hi)).use hs fun h2 hs2=>?_
  cases hpr:p l[i] with
  |true=>
   simp(disch:=first|omega|simp only[nZ]<;>omega|fail)only[go_sem,e0,e1,e7,e8]
   exact⟨by rw[e9,fidx_hit hi hpr],hs.trans hs2⟩
  |false=>
   simp(disch:=first|omega|simp only[nZ]<;>omega|fail)only[go_sem,e0,e1,e7,e8,wr_succ]
   exact⟨_,_,rfl,hs.trans hs2,(by simp[e0]),(by simp[e1]),(by simp[e7]),(by simp),by rw[e9,fidx_miss hi hpr]⟩
 ·rintro s ⟨tm,h',rfl,hs,e0,e1,e7,e8,e9⟩
  simp(disch:=first|omega|simp only[nZ]<;>omega|fail)only[go_sem,e0,e1,e7,e8,Int.lt_irrefl]
  exact⟨by rw[e9];simp[fidx],hs⟩
theorem containsFuncRows_ev {α:Type}{val:α→V}{l:List α}{p:α→Bool}{h:H}{x f:V}(hw:h.wf)(hx:SlAt h x 1 (l.map fun a=>[val a]))(h1:∀a∈l,(val a).one=true)(hp:∀a∈l,PureA h f [val a] (.bool (p a))):
  E (.fn 43 [] []) [x,f] h fun v h'=>v=.bool (l.any p)∧h.Sub h':=by
 refine Ev_body (fd:=c43) rfl rfl rfl ?_
 simp(disch:=first|omega|simp only[nZ]<;>omega|fail)only[c43,go_sem]
 refine(indexFuncRows_ev hw hx h1 hp).mono fun v h' hv=>?_
 obtain⟨rfl,hs⟩:=hv
 simp(disch:=first|omega|simp only[nZ]<;>omega|fail)only[go_sem]
 exact⟨by rw[fidx_any],hs⟩
end Go.Ab.Tryz
namespace Go.Ab.Tryz
theorem fidx_none {α:Type}{p:α→Bool}:∀{l:List α} {k:Nat},l.findIdx? p=none→fidx p l k= -1
 |[],_,_=>rfl
 |a::l,k,h=>by
  rw[List.findIdx?_cons] at h
  cases e:p a with
  |true=>rw[e] at h;cases h
  |false=>
   rw[e] at h
   simp only[fidx,e]
   exact fidx_none (by cases h2:l.findIdx? p with
    |none=>rfl
    |some i=>rw[h2] at h;cases h)
theorem fidx_some {α:Type}{p:α→Bool}:∀{l:List α} {k i:Nat},l.findIdx? p=some i→fidx p l k=((k+i:Nat):Int)
 |[],_,_,h=>by cases h
 |a::l,k,i,h=>by
  rw[List.findIdx?_cons] at h
  cases e:p a with
  |true=>
   rw[e] at h
   cases h
   simp only[fidx,e,if_true]
   rfl
  |false=>
   rw[e] at h
   simp only[fidx,e]
   cases h2:l.findIdx? p with
   |none=>rw[h2] at h;cases h
   |some j=>
    rw[h2] at h
    cases h
    have:=fidx_some (k:=k+1) h2
    show fidx p l (k+1)=_
    rw[this]
    show((k+1+j:Nat):Int)=((k+(j+1):Nat):Int)
    congr 1
    omega
end Go.Ab.Tryz
namespace Go.Ab
theorem a_msl_nm {h:H}{by_ n m:Nat}{z:List V}(h0:n≤m)(h1:m*by_≤1099511627776)(h2:m≤1099511627776):
  a_msl h by_ z (.int .i64 (n:Int)) (.int .i64 (m:Int))=some (.sl h.next 0 n (.fix m),h.add (.cells .rw (repN m z))):=by
 have e1:Nat.ble (m*by_) 1099511627776=true:=by simpa using h1
 have e2:Nat.ble m 1099511627776=true:=by simpa using h2
 have e3:Nat.ble n m=true:=by simpa using h0
 simp only[a_msl,nat_cst,e1,e2,e3,og_true,lf_eq]
namespace Tryz
def tab (f:Int→Int)(n:Nat):List V:=(List.range n).map fun(i:Nat)=>iv (f (i:Int))
def fset (f:Int→Int)(i x:Int):Int→Int:=fun k=>if k=i then x else f k
theorem tab_len (f:Int→Int)(n:Nat):(tab f n).length=n:=by simp[tab]
theorem tab_nth (f:Int→Int){n i:Nat}(h:i<n):nth i (tab f n)=some (.int .i64 (f (i:Int))):=by
 rw[nth_get,List.getElem?_eq_getElem (by rw[tab_len];exact h)]
 simp[tab,iv]
theorem ints_put:∀(l:List Int) (i:Nat) (x:Int),i<l.length→putN i [.int .i64 x] (l.map iv)=some ((l.set i x).map iv)
 |[],i,b,h=>by simp at h
 |a::l,0,b,_=>by simp[putN_0,over_s,over_0,consV_some,iv]
 |a::l,i+1,b,h=>by
  have ih:=ints_put l i b (by simpa using h)
  simp only[List.map_cons,putN_s,ih,consV_some,List.set_cons_succ]
theorem tab_put (f:Int→Int){n i:Nat}(h:i<n)(x:Int):putN i [.int .i64 x] (tab f n)=some (tab (fset f (i:Int) x) n):=by
 have e:∀g:Int→Int,tab g n=((List.range n).map fun(i:Nat)=>g (i:Int)).map iv:=fun g=>by simp[tab]
 rw[e,e,ints_put _ _ _ (by simpa using h)]
 congr 2
 refine List.ext_getElem (by simp) fun k h1 h2=>?_
 rw[List.getElem_set]
 simp only[List.getElem_map,List.getElem_range,fset]
 by_cases c:i=k
 ·subst c;simp
 ·rw[if_neg c,if_neg (by omega)]
theorem tab_zero:∀n:Nat,repN n [V.int .i64 0]=tab (fun _=>0) n:=fun n=>by
 have:∀n,repN n [V.int .i64 0]=List.replicate n (iv 0):=fun n=>by
  induction n with
  |zero=>rfl
  |succ n ih=>rw[repN,appN_eq,ih];rfl
 rw[this]
 refine List.ext_getElem (by simp[tab]) fun k h1 h2=>?_
 simp[tab]
theorem tab_at2 {n i:Nat}(h:i<n)(f:Int→Int):nth i (tab f n)=some (.int .i64 (f (i:Int))):=tab_nth f h
theorem tab_st2 {n i:Nat}(h:i<n)(f:Int→Int)(x:Int):putN i [.int .i64 x] (tab f n)=some (tab (fset f (i:Int) x) n):=tab_put f h x
end Tryz
end Go.Ab
namespace Go.Ab
theorem lenE_A (l:List (Int × V)):lenE (encA l)=l.length:=by rw[lenE_eq];simp[encA]
theorem putA_keys (i:Int)(x:V):∀l:List (Int × V),(putA i x l).map Prod.fst=if i∈l.map Prod.fst then l.map Prod.fst else l.map Prod.fst++[i]
 |[]=>rfl
 |p::l=>by
  have ih:=putA_keys i x l
  simp only[putA]
  by_cases h:i=p.1
  ·simp[h]
  ·rw[if_neg h,List.map_cons,ih]
   by_cases h2:i∈l.map Prod.fst
   ·rw[if_pos h2,if_pos (by rw[List.map_cons];exact List.mem_cons_of_mem _ h2),List.map_cons]
   ·rw[if_neg h2,if_neg (by rw[List.map_cons,List.mem_cons];rintro(h3|h3);exact h h3;exact h2 h3),List.map_cons];rfl
theorem perm_of_sub {α:Type}[DecidableEq α]:∀(ks pre:List α),ks.Nodup→(∀x∈ks,x∈pre)→ks.length=pre.length→pre.Perm ks
 |[],pre,_,_,h=>by
  have:pre=[]:=List.length_eq_zero_iff.1 h.symm
  rw[this]
 |k::ks,pre,nd,hs,h=>by
  rw[List.nodup_cons] at nd
  have hk:=hs k (by simp)
  have h1:=List.length_erase_of_mem hk
  have h2:=List.length_pos_of_mem hk
  have:=perm_of_sub ks (pre.erase k) nd.2 (fun x hx=>(List.mem_erase_of_ne (by rintro rfl;exact nd.1 hx)).2 (hs x (by simp[hx]))) (by simp only[List.length_cons] at h;omega)
  exact(List.perm_cons_erase hk).trans (this.cons k)
def SetAt (h:H)(b:Nat)(pre:List Int):Prop:=∃es:List (Int × V),h.get b=some (.map (encA es))∧(es.map Prod.fst).Nodup∧∀z,z∈es.map Prod.fst↔z∈pre
theorem SetAt.mono {h h':H}{b:Nat}{pre:List Int}(a:SetAt h b pre)(s:h.Sub h'):SetAt h' b pre:=by
 obtain⟨es,e,nd,hm⟩:=a
 exact⟨es,s.get e,nd,hm⟩
theorem SetAt.cnt {h:H}{b:Nat}{pre:List Int}(a:SetAt h b pre):∃n:Nat,q_lnm h (.map b)=some (.int .i64 (n:Int))∧(n=pre.length↔pre.Nodup):=by
 obtain⟨es,e,nd,hm⟩:=a
 refine⟨es.length,by simp only[q_lnm,e,lenE_A];rfl,?_⟩
 constructor
 ·intro h
  exact(perm_of_sub (es.map Prod.fst) pre nd (fun x hx=>(hm x).1 hx) (by rw[List.length_map];exact h)).nodup_iff.2 nd
 ·intro h
  have:=((List.perm_ext_iff_of_nodup nd h).2 hm).length_eq
  rw[List.length_map] at this;exact this
theorem SetAt.put {h:H}{b:Nat}{pre:List Int}(a:SetAt h b pre)(i:Int)(x:V){Q:V→H→Prop}(q:∀es,SetAt (h.set b (.map es)) b (pre++[i])→Q .und (h.set b (.map es))):P2 (muC (h.get b) h b (.int .i64 i) x) Q:=by
 obtain⟨es,e,nd,hm⟩:=a
 rw[←e_mup_map,e_mup_A e,P2_some]
 refine q _ ⟨_,get_set_same rfl,?_,fun z=>?_⟩
 ·rw[putA_keys]
  split
  ·exact nd
  ·rename_i hn
   exact List.nodup_append.2 ⟨nd,by simp,fun a ha b hb=>by
    rw[List.mem_singleton] at hb;subst hb
    rintro rfl;exact hn ha⟩
 ·rw[putA_keys]
  split
  ·rename_i hi
   rw[hm,List.mem_append,List.mem_singleton]
   exact⟨.inl,fun h=>h.elim id fun h=>by subst h;exact(hm z).1 hi⟩
  ·rw[List.mem_append,List.mem_append,hm]
namespace Tryz
theorem go_iff {t:Tb}(g:Good t){l:List Int}(hp:∀x∈l,0≤x∧x<(t.pieces.length:Int)):(l.all fun p=>l.all fun r=>mT t p r)=true↔l.Pairwise fun a b=>mT t a b=true:=by
 simp only[List.all_eq_true]
 constructor
 ·intro h
  exact List.pairwise_iff_getElem.2 fun i j hi hj _=>h _ (List.getElem_mem hi) _ (List.getElem_mem hj)
 ·intro h x hx y hy
  obtain⟨i,hi,rfl⟩:=List.getElem_of_mem hx
  obtain⟨j,hj,rfl⟩:=List.getElem_of_mem hy
  have h':=List.pairwise_iff_getElem.1 h
  rcases Nat.lt_trichotomy i j with c|c|c
  ·exact h' i j hi hj c
  ·subst c
   have:=hp _ hx
   unfold mT matchB
   rw[List.getElem?_eq_getElem (show l[i].toNat<t.pieces.length by omega)]
   exact alike_self g _
  ·rw[mT_comm g];exact h' j i hj hi c
theorem sorted11_ev {h:H}{b6 bP d:Nat}{t:Tb}(g:Good t)(g6:h.cells b6=some [.ptr d 0]){p:Int}(hP:h.cells bP=some [.int .i64 p])(hd:DkAt h d t)(hp:0≤p∧p<(t.pieces.length:Int)){r:Int}(hr:0≤r∧r<(t.pieces.length:Int)):
  PureA h (.fn 83 [] [.ptr b6 0,.ptr bP 0]) [.int .i64 r] (.bool (mT t p r)):=by
 intro h1 hs
 obtain⟨i,rfl⟩:=Int.eq_ofNat_of_zero_le hp.1
 obtain⟨k,rfl⟩:=Int.eq_ofNat_of_zero_le hr.1
 refine Ev.gen fun Q q=>?_
 refine Ev_body (fd:=c83) rfl rfl rfl ?_
 simp(disch:=first|omega|simp only[nZ]<;>omega|fail)only[c83,go_sem,hs.cells g6,hs.cells hP]
 refine match_ev hs.wf (hd.mono hs) g (show i<t.pieces.length by omega) (show k<t.pieces.length by omega) _ fun h2 s2=>?_
 simp(disch:=first|omega|simp only[nZ]<;>omega|fail)only[go_sem]
 exact q _ _ ⟨rfl,s2⟩
theorem sorted1_ev {h:H}{b6 bL d:Nat}{vL:V}{l:List Int}{t:Tb}(g:Good t)(g6:h.cells b6=some [.ptr d 0])(gL:h.cells bL=some [vL])(aL:SlAt h vL 1 (l.map encI))(hd:DkAt h d t)(hp:∀x∈l,0≤x∧x<(t.pieces.length:Int)){p:Int}(hpp:0≤p∧p<(t.pieces.length:Int)):
  PureA h (.fn 82 [] [.ptr bL 0,.ptr b6 0]) [.int .i64 p] (.bool (l.all fun r=>mT t p r)):=by
 intro h1 hs
 refine Ev.gen fun Q q=>?_
 refine Ev_body (fd:=c82) rfl rfl rfl ?_
 have sA:=(H.Sub.refl hs.wf).add (.cells .rw [.int .i64 p])
 have gP:(h1.add (.cells .rw [.int .i64 p])).cells h1.next=some [.int .i64 p]:=cells_add_new rfl
 have s1A:=hs.trans sA
 simp(disch:=first|omega|simp only[nZ]<;>omega|fail)only[c82,go_sem,hs.cells gL,s1A.cells gL]
 refine(everyInt_ev (p:=fun r=>mT t p r) sA.wf (aL.mono s1A) fun r hr=>sorted11_ev g (s1A.cells g6) gP (hd.mono s1A) hpp (hp r hr)).mono fun u h3 hu=>?_
 obtain⟨rfl,s3⟩:=hu
 simp(disch:=first|omega|simp only[nZ]<;>omega|fail)only[go_sem]
 exact q _ _ ⟨rfl,sA.trans s3⟩
set_option maxRecDepth 4000 in
set_option maxHeartbeats 8000000 in
theorem Sorted_ev {h:H}{v y:V}{t:Tb}{S:List (List Int)}(hw:h.wf)(ht:TbIs h v t)(hS:RdI h y S)(hl:S.length≤1000)(hll:∀l∈S,l.length≤1000)(Q:V→H→Prop)
  (q:∀h',h.Sub h'→Q (.tup [.bool (@decide (check t=0∧SrtP t S) (Classical.propDecidable _)),.int .i64 (check t)]) h'):Ev fnG fastA (.fn 20 [] []) [v,y] h Q:=by
 have ht0:=ht
 obtain⟨E,L,P,rfl,aE,aL,aP⟩:=ht
 have hlP:=aP.lenE
 have hlS:=hS.len
 refine Ev_body (fd:=c20) rfl rfl rfl ?_
 have s1:h.Sub (h.add (.cells .rw [E,L,P])):=(by repeat(first|assumption|exact H.Sub.refl (by assumption)|refine H.Sub.add ?_ _|refine H.Sub.set ?_ (by first|omega|(simp only[H.next_add,H.next_set,H.next_del]<;>omega)) (by first|omega|(simp only[H.next_add,H.next_set,H.next_del]<;>omega)) (by assumption) _))
 have g1:(h.add (.cells .rw [E,L,P])).cells h.next=some [E,L,P]:=cells_add_new rfl
 simp(disch:=first|omega|simp only[nZ]<;>omega|fail)only[c20,go_sem]
 generalize h.add (.cells .rw [E,L,P])=h1 at s1 g1⊢
 refine opened_use s1.wf (ht0.mono s1) _ (fun h5 s15 c=>?_) fun h5 d s15 c g hd=>?_
 ·have q':=fun hh (ss:h5.Sub hh)=>q hh ((s1.trans s15).trans ss)
  rw[@decide_eq_false _ (Classical.propDecidable _) (fun a=>c a.1)] at q'
  have ss:h5.Sub ((h5.add (.cells .rw [.nilp])).set h5.next (.cells .rw [.nilp])):=((H.Sub.refl s15.wf).add _).set (b:=h5.next) (Nat.le_refl _) (by rw[H.next_add];omega) s15.wf _
  have ss2:h5.Sub (h5.add (.cells .rw [.nilp])):=(H.Sub.refl s15.wf).add _
  simp(disch:=first|omega|simp only[nZ]<;>omega|fail)only[go_sem,ne_eq,c,not_false_eq_true]
  first|exact q' _ ss|exact q' _ ss2
 have gp:=g.pieces
 have s5:=s1.trans s15
 have s56:h5.Sub (h5.add (.cells .rw [.ptr d 0])):=(H.Sub.refl s15.wf).add _
 have g6:(h5.add (.cells .rw [.ptr d 0])).cells h5.next=some [.ptr d 0]:=cells_add_new rfl
 simp(disch:=first|omega|simp only[nZ]<;>omega|fail)only[go_sem,ne_eq,not_true_eq_false,hlS]
 have n6:(h5.add (.cells .rw [.ptr d 0])).next=h5.next+1:=H.next_add _ _
 generalize h5.add (.cells .rw [.ptr d 0])=h6 at s56 g6 n6⊢
 have s6:=s5.trans s56
 have s16:=s15.trans s56
 rw[c] at q
 have bad:∀hh,h6.Sub hh→¬SrtP t S→Q (.tup [.bool false,.int .i64 0]) hh:=fun hh sh hn=>by
  have:=q hh (s6.trans sh)
  rwa[@decide_eq_false _ (Classical.propDecidable _) (fun a=>hn a.2)] at this
 have sF:=(H.Sub.refl s56.wf).add (.map [])
 have gF:SetAt (h6.add (.map [])) h6.next []:=⟨[],get_add_new rfl,by simp,fun z=>by simp⟩
 have lF:h6.next<(h6.add (.map [])).next:=by rw[H.next_add];omega
 generalize h6.add (.map [])=hF at sF gF lF⊢
 obtain⟨bS,eb⟩:∃bS,h5.next+1=bS:=⟨_,rfl⟩
 rw[n6,eb] at gF lF
 rw[eb]
 refine W_count S.length (fun k s=>∃tm hh,s=⟨tm,hh,[]⟩∧h6.Sub hh∧bS<hh.next∧SetAt hh bS (S.take k).flatten∧(∀a (ha:a<S.length),a<k→S[a]≠[]∧OkP t S[a])∧(S.take k).flatten.length≤10*k∧(Opd.t 2).ev tm=.ptr h.next 0∧(Opd.t 6).ev tm=.ptr h5.next 0∧(Opd.t 8).ev tm=.int .i64 ((S.take k).flatten.length:Int)∧(Opd.t 9).ev tm=.map bS∧(Opd.t 23).ev tm=y∧(Opd.t 24).ev tm=.int .i64 (S.length:Int)∧(Opd.t 25).ev tm=.int .i64 (k:Int))
  ?_ ?_ (i:=0) (Nat.zero_le _) ⟨_,_,rfl,sF,lF,gF,fun a ha h0=>by omega,by simp,(by simp),(by simp),(by simp),(by simp),(by simp),(by simp),(by simp)⟩
 ·rintro k s hk ⟨tm,hh,rfl,sh,lh,gB,hdone,hcnt,t2,t6,t8,t9,t23,t24,t25⟩
  have hk':(k:Int)<(S.length:Int):=by omega
  obtain⟨l,el⟩:∃l,S[k]=l:=⟨_,rfl⟩
  have hlS':l∈S:=by rw[←el];exact List.getElem_mem hk
  have hl1000:=hll l hlS'
  obtain⟨bR,oR,csR,vR,r1,r2,r3,r4⟩:=(hS.mono (s6.trans sh)).row hk
  rw[el] at r4
  have lR:=r4.lenE
  have vR1:=r4.one
  obtain⟨pre,epre⟩:∃pre,(S.take k).flatten=pre:=⟨_,rfl⟩
  have hft:=flat_take hk
  rw[epre,el] at hft
  rw[epre] at gB t8 hcnt
  have sA:=(H.Sub.refl sh.wf).add (.cells .rw [vR])
  have gA:(hh.add (.cells .rw [vR])).cells hh.next=some [vR]:=cells_add_new rfl
  simp(disch:=first|omega|simp only[nZ]<;>omega|fail)only[go_sem,t2,t6,t8,t9,t23,t24,t25,hk',r1,r2,r3,vR1,cells_one vR1,lR]
  generalize hh.add (.cells .rw [vR])=hA at sA gA⊢
  have s6A:=sh.trans sA
  have s1A:=s16.trans s6A
  have g1A:=s1A.cells g1
  by_cases hl0:l.length=0
  ·have hl0':decide ((l.length:Int)=0)=true:=decide_eq_true (by omega)
   simp(disch:=first|omega|simp only[nZ]<;>omega|fail)only[go_sem,t2,t6,t8,t9,t23,t24,t25,hl0',gA,g1A]
   exact bad _ s6A fun a=>a.ne l hlS' (List.length_eq_zero_iff.1 hl0)
  have hl0':decide ((l.length:Int)=0)=false:=decide_eq_false (by omega)
  have r4:=r4.sl fun h=>hl0 (by rw[h];rfl)
  simp(disch:=first|omega|simp only[nZ]<;>omega|fail)only[go_sem,t2,t6,t8,t9,t23,t24,t25,hl0',gA,g1A]
  refine rising_ev sA.wf (r4.mono sA) hl1000 _ fun hB sB=>?_
  have s6B:=s6A.trans sB
  have gAB:=sB.cells gA
  have g1B:=sB.cells g1A
  cases hup:decide (l.Pairwise (· < ·))
  ·simp(disch:=first|omega|simp only[nZ]<;>omega|fail)only[go_sem,t2,t6,t8,t9,t23,t24,t25,Bool.not_false,gAB,g1B]
   exact bad _ s6B fun a=>of_decide_eq_false hup (a.ok l hlS').up
  have pw:=of_decide_eq_true hup
  simp(disch:=first|omega|simp only[nZ]<;>omega|fail)only[go_sem,t2,t6,t8,t9,t23,t24,t25,Bool.not_true,gAB,g1B]
  refine(everyInt_ev (p:=isPc t) sB.wf (r4.mono (sA.trans sB)) fun a _=>fun h7 s7=>Ev.gen fun Q q=>Ev_bound (piece_ev s7.wf (ht0.mono (s6.trans (s6B.trans s7))) a _ fun h8 s8=>q _ _ ⟨rfl,s8⟩)).mono fun u hC hu=>?_
  obtain⟨rfl,sC⟩:=hu
  have s6C:=s6B.trans sC
  have gAC:=sC.cells gAB
  have g1C:=sC.cells g1B
  cases hpc:l.all (isPc t)
  ·simp(disch:=first|omega|simp only[nZ]<;>omega|fail)only[go_sem,t2,t6,t8,t9,t23,t24,t25,Bool.not_false,gAC,g1C]
   exact bad _ s6C fun a=>by
    rw[List.all_eq_false] at hpc
    obtain⟨x,hx,h2⟩:=hpc
    have:=(a.ok l hlS').pc x hx
    exact h2 (by unfold isPc;exact decide_eq_true this)
  have hin:∀x∈l,0≤x∧x<(t.pieces.length:Int):=fun x hx=>by
   have:=List.all_eq_true.1 hpc x hx
   unfold isPc at this;exact of_decide_eq_true this
  simp(disch:=first|omega|simp only[nZ]<;>omega|fail)only[go_sem,t2,t6,t8,t9,t23,t24,t25,Bool.not_true,gAC,g1C]
  refine(everyInt_ev (p:=fun p=>l.all fun r=>mT t p r) sC.wf (r4.mono (sA.trans (sB.trans sC))) fun a ha=>sorted1_ev g (s6C.cells g6) gAC (r4.mono (sA.trans (sB.trans sC))) (hd.mono (s56.trans s6C)) hin (hin a ha)).mono fun u hD hu=>?_
  obtain⟨rfl,sD⟩:=hu
  have s6D:=s6C.trans sD
  have sAD:=sB.trans (sC.trans sD)
  have gAD:=sD.cells gAC
  cases hgo:l.all fun p=>l.all fun r=>mT t p r
  ·simp(disch:=first|omega|simp only[nZ]<;>omega|fail)only[go_sem,t2,t6,t8,t9,t23,t24,t25,Bool.not_false,gAD]
   exact bad _ s6D fun a=>by
    have:=(go_iff g hin).2 (a.ok l hlS').go
    rw[hgo] at this;cases this
  have okl:OkP t l:=⟨pw,hin,(go_iff g hin).1 hgo⟩
  have l9:l.length≤t.pieces.length:=nodup_len (pw.imp fun h=>by omega) hin
  simp(disch:=first|omega|simp only[nZ]<;>omega|fail)only[go_sem,t2,t6,t8,t9,t23,t24,t25,Bool.not_true,gAD,lR]
  have gBD:=gB.mono (sA.trans sAD)
  have lD:=(sA.trans sAD).next
  have r4D:=r4.mono (sA.trans sAD)
  refine W.mono (Q:=fun x1 s=>x1=.ext 2∧∃tm hq,s=⟨tm,hq,[]⟩∧h6.Sub hq∧bS<hq.next∧SetAt hq bS (pre++l)∧(Opd.t 2).ev tm=.ptr h.next 0∧(Opd.t 6).ev tm=.ptr h5.next 0∧(Opd.t 8).ev tm=.int .i64 ((pre++l).length:Int)∧(Opd.t 9).ev tm=.map bS∧(Opd.t 23).ev tm=y∧(Opd.t 24).ev tm=.int .i64 (S.length:Int)∧(Opd.t 25).ev tm=.int .i64 (k:Int))
   (W_count l.length (fun i s=>∃tm hq,s=⟨tm,hq,[]⟩∧h6.Sub hq∧bS<hq.next∧SetAt hq bS (pre++l.take i)∧SlAt hq vR 1 (l.map encI)∧(Opd.t 2).ev tm=.ptr h.next 0∧(Opd.t 6).ev tm=.ptr h5.next 0∧(Opd.t 8).ev tm=.int .i64 ((pre++l.take i).length:Int)∧(Opd.t 9).ev tm=.map bS∧(Opd.t 23).ev tm=y∧(Opd.t 24).ev tm=.int .i64 (S.length:Int)∧(Opd.t 25).ev tm=.int .i64 (k:Int)∧(Opd.t 50).ev tm=vR∧(Opd.t 51).ev tm=.int .i64 (l.length:Int)∧(Opd.t 52).ev tm=.int .i64 (i:Int))
   ?_ ?_ (i:=0) (Nat.zero_le _) ⟨_,_,rfl,s6D,by omega,by simpa using gBD,r4D,(by simp[t2]),(by simp[t6]),by rw[List.take_zero,List.append_nil];exact(by simp[t8]),(by simp[t9]),(by simp[t23]),(by simp[t24]),(by simp[t25]),(by simp),(by simp),(by simp)⟩) fun x1 s hx1=>?_
  ·clear t2 t6 t8 t9 t23 t24 t25
   rintro i s hi ⟨tm,hq,rfl,sq,lq,gq,aq,t2,t6,t8,t9,t23,t24,t25,t50,t51,t52⟩
   have hi':(i:Int)<(l.length:Int):=by omega
   obtain⟨b1,o1,cs1,f1,f2,f3⟩:=SlAt.elemF aq hi
   have lc:(pre++l.take (i+1)).length=(pre++l.take i).length+1:=by
    rw[List.take_succ_eq_append_getElem hi,←List.append_assoc,List.length_append (bs:=[l[i]])];rfl
   have lb:(pre++l.take i).length≤20000:=by rw[List.length_append,List.length_take];omega
   have wc:wr .i64 (((pre++l.take i).length:Int)+1)=((pre++l.take (i+1)).length:Int):=by rw[wr_in (by omega) (by omega)];omega
   have nb:∀b,blkOf vR b→b≠bS:=fun b hb e=>by
    rcases aq.2.2 with⟨rfl,_⟩|⟨b',o',c',cs',e1,e2,e3⟩
    ·obtain⟨_,_,_,e⟩:=hb;cases e
    ·obtain⟨_,_,_,e4⟩:=hb
     rw[e1] at e4;cases e4
     subst e
     rcases e2 with e2|e2
     ·rw[List.map_eq_nil_iff] at e2;rw[e2] at hi;simp at hi
     ·obtain⟨es,ge,_⟩:=gq
      obtain⟨kd,hk2⟩:=H.cells_eq e2
      rw[ge] at hk2;cases hk2
   simp(disch:=first|omega|simp only[nZ]<;>omega|fail)only[go_sem,t2,t6,t8,t9,t23,t24,t25,t50,t51,t52,hi',f1,f2,f3,wc]
   refine gq.put l[i] (.bool true) fun es gq2=>?_
   rw[List.append_assoc,←List.take_succ_eq_append_getElem hi] at gq2
   have k2:=Keeps.set hq bS (.map es)
   have aq2:=SlAt_keep2 aq k2 fun _ b hb=>nb b hb
   have sq2:=sq.set (b:=bS) (by omega) lq s56.wf (.map es)
   have lq2:bS<(hq.set bS (.map es)).next:=by rw[H.next_set];exact lq
   simp(disch:=first|omega|simp only[nZ]<;>omega|fail)only[go_sem,t2,t6,t8,t9,t23,t24,t25,t50,t51,t52,wr_succ]
   exact⟨_,_,rfl,sq2,lq2,gq2,aq2,(by simp[t2]),(by simp[t6]),(by simp),(by simp[t9]),(by simp[t23]),(by simp[t24]),(by simp[t25]),(by simp[t50]),(by simp[t51]),(by simp)⟩
  ·clear t2 t6 t8 t9 t23 t24 t25
   rintro s ⟨tm,hq,rfl,sq,lq,gq,aq,t2,t6,t8,t9,t23,t24,t25,t50,t51,t52⟩
   rw[List.take_length] at gq t8
   simp(disch:=first|omega|simp only[nZ]<;>omega|fail)only[go_sem,t2,t6,t8,t9,t23,t24,t25,t50,t51,t52,Int.lt_irrefl]
   exact⟨_,_,rfl,sq,lq,gq,(by simp[t2]),(by simp[t6]),(by simp[t8]),(by simp[t9]),(by simp[t23]),(by simp[t24]),(by simp[t25])⟩
  clear t2 t6 t8 t9 t23 t24 t25
  obtain⟨rfl,tm,hq,rfl,sq,lq,gq,t2,t6,t8,t9,t23,t24,t25⟩:=hx1
  simp(disch:=first|omega|simp only[nZ]<;>omega|fail)only[go_sem,t2,t6,t8,t9,t23,t24,t25,wr_succ]
  exact⟨_,_,rfl,sq,lq,by rw[hft];exact gq,fun a ha h0=>by
   by_cases e:a=k
   ·subst e;rw[el];exact⟨fun h=>hl0 (by rw[h];rfl),okl⟩
   ·exact hdone a ha (by omega),by rw[hft,List.length_append];omega,(by simp[t2]),(by simp[t6]),by rw[hft];exact(by simp[t8]),(by simp[t9]),(by simp[t23]),(by simp[t24]),(by simp)⟩
 ·rintro s ⟨tm,hh,rfl,sh,lh,gB,hdone,hcnt,t2,t6,t8,t9,t23,t24,t25⟩
  rw[List.take_length] at gB t8 hcnt
  obtain⟨m,hm1,hm2⟩:=gB.cnt
  have g1h:=(s16.trans sh).cells g1
  have hok:(∀l∈S,l≠[])∧(∀l∈S,OkP t l):=⟨fun l hl=>by obtain⟨a,ha,rfl⟩:=List.getElem_of_mem hl;exact(hdone a ha ha).1,fun l hl=>by obtain⟨a,ha,rfl⟩:=List.getElem_of_mem hl;exact(hdone a ha ha).2⟩
  by_cases c1:S.flatten.length=t.pieces.length
  ·have d1:decide ((S.flatten.length:Int)=(t.pieces.length:Int))=true:=decide_eq_true (by omega)
   by_cases c2:S.flatten.Nodup
   ·have d2:decide ((m:Int)=(S.flatten.length:Int))=true:=decide_eq_true (by have:=hm2.2 c2;omega)
    have q':=q hh (s6.trans sh)
    rw[@decide_eq_true _ (Classical.propDecidable _) ⟨rfl,⟨hok.1,hok.2,c2,c1⟩⟩] at q'
    simp(disch:=first|omega|simp only[nZ]<;>omega|fail)only[go_sem,t2,t6,t8,t9,t23,t24,t25,Int.lt_irrefl,g1h,hlP,d1,hm1,d2]
    exact q'
   ·have d2:decide ((m:Int)=(S.flatten.length:Int))=false:=decide_eq_false (by intro h;exact c2 (hm2.1 (by omega)))
    simp(disch:=first|omega|simp only[nZ]<;>omega|fail)only[go_sem,t2,t6,t8,t9,t23,t24,t25,Int.lt_irrefl,g1h,hlP,d1,hm1,d2]
    exact bad _ sh fun a=>c2 a.nd
  ·have d1:decide ((S.flatten.length:Int)=(t.pieces.length:Int))=false:=decide_eq_false (by omega)
   simp(disch:=first|omega|simp only[nZ]<;>omega|fail)only[go_sem,t2,t6,t8,t9,t23,t24,t25,Int.lt_irrefl,g1h,hlP,d1]
   exact bad _ sh fun a=>c1 a.len
end Tryz
end Go.Ab
namespace Go.Ab.Tryz
theorem LsCut.rdI {F:Nat→Prop}{h:H}{x:V}{S:List (List Int)}(a:LsCut F h x (S.map fun l=>l.map encI))(hl:S.length≤1000)(hll:∀l∈S,l.length≤1000):RdI h x S:=by
 obtain⟨xs,a1,a2,a3,_⟩:=a
 rw[List.length_map] at a2
 refine⟨xs,a1.sl (by simp only[List.length_map];omega),a2,fun i hi hj=>?_⟩
 have h1:=(a3 i hi (by rw[List.length_map];exact hj)).1
 rw[List.getElem_map] at h1
 have:=hll _ (List.getElem_mem hj)
 exact .inl (h1.sl (by simp only[List.length_map];omega))
end Go.Ab.Tryz
namespace Go.Ab
theorem LsCut.inrow {F:Nat→Prop}{h:H}{x:V}{ls:List (List (List V))}(a:LsCut F h x ls)(hl:ls.length≤1000){i:Nat}(hi:i<ls.length):
  ∃b o cs v,q_iad 1 x (.int .i64 (i:Int))=some (.ptr b o)∧h.cells b=some cs∧nth o cs=some v∧CutO F h v 1 ls[i]∧(∀c,blkOf v c→¬blkOf x c)∧
   ∀(K:Nat→Prop) (l':List (List V)) (h1:H),Keeps (fun c=>K c∨blkOf v c) h h1→(∀c,F c→¬K c)→CutO F h1 v 1 l'→LsCut F h1 x (ls.set i l'):=by
 obtain⟨xs,a1,a2,a3,a4⟩:=a
 have hi':i<xs.length:=by omega
 have sx:=a1.sl (by simp only[List.length_map];omega)
 obtain⟨b,o,c,cs,e1,e2,e3,_,_,e4⟩:=sx.at hi'
 have e5:=e4 (by omega)
 obtain⟨c1,c2⟩:=a3 i hi' hi
 refine⟨b,o+i*1,cs,xs[i],e3 (nat_cst i),e2,by rw[e5];rfl,c1,c2,fun K l' h1 kk nK cv=>?_⟩
 refine⟨xs,a1.keep kk fun c hc hv=>hv.elim (nK c (a1.blk hc).1) fun hv=>c2 c hv hc,by simp[a2],fun j hj hj'=>?_,a4⟩
 rw[List.length_set] at hj'
 by_cases e:i=j
 ·subst e
  rw[List.getElem_set_self]
  exact⟨cv,c2⟩
 ·rw[List.getElem_set_ne e]
  obtain⟨d1,d2⟩:=a3 j hj hj'
  exact⟨d1.keep kk fun c hc hv=>hv.elim (nK c (d1.blk hc).1) fun hv=>a4 j i hj hi' (fun h=>e h.symm) c hc hv,d2⟩
namespace Tryz
open Go.Proofs
theorem fidx_map {α β:Type}{p:β→Bool}{g:α→β}:∀(l:List α) (k:Nat),fidx (fun a=>p (g a)) l k=fidx p (l.map g) k
 |[],_=>rfl
 |a::l,k=>by
  have ih:=fidx_map (p:=p) (g:=g) l (k+1)
  simp only[fidx,List.map_cons,ih]
theorem LsRd.zs {h:H}{x:V}{S:List (List Int)}(a:LsRd h x S):∃zs:List (V × List Int),zs.map Prod.snd=S∧SlAt h x 1 (zs.map fun a=>[a.1])∧∀a∈zs,∃F,CutO F h a.1 1 (a.2.map encI):=by
 obtain⟨F,xs,a1,a2,a3⟩:=a
 have e1:(xs.zip S).map Prod.fst=xs:=List.map_fst_zip (by omega)
 refine⟨xs.zip S,List.map_snd_zip (by omega),?_,fun z hz=>?_⟩
 ·have:(xs.zip S).map (fun a=>[a.1])=xs.map fun v=>[v]:=by
   rw[←congrArg (List.map fun v=>[v]) e1,List.map_map];rfl
  rw[this];exact a1
 ·obtain⟨i,hi,rfl⟩:=List.getElem_of_mem hz
  rw[List.length_zip] at hi
  rw[List.getElem_zip]
  exact⟨F,a3 i (by omega) (by omega)⟩
theorem LsRd.idx {h:H}{x f:V}{S:List (List Int)}(hw:h.wf)(a:LsRd h x S){p:List Int→Bool}(hp:∀v l F,l∈S→CutO F h v 1 (l.map encI)→PureA h f [v] (.bool (p l))):
  E (.fn 52 [] []) [x,f] h fun v h'=>v=.int .i64 (fidx p S 0)∧h.Sub h':=by
 obtain⟨zs,e,hx,hz⟩:=a.zs
 have:=indexFuncRows_ev (val:=fun a:V × List Int=>a.1) (p:=fun a=>p a.2) hw hx (fun a ha=>by obtain⟨F,c⟩:=hz a ha;exact c.one) fun a ha=>by
  obtain⟨F,c⟩:=hz a ha
  exact hp _ _ F (by rw[←e];exact List.mem_map_of_mem ha) c
 rw[fidx_map (p:=p) (g:=Prod.snd) zs 0,e] at this
 exact this
theorem LsRd.any {h:H}{x f:V}{S:List (List Int)}(hw:h.wf)(a:LsRd h x S){p:List Int→Bool}(hp:∀v l F,l∈S→CutO F h v 1 (l.map encI)→PureA h f [v] (.bool (p l))):
  E (.fn 43 [] []) [x,f] h fun v h'=>v=.bool (S.any p)∧h.Sub h':=by
 obtain⟨zs,e,hx,hz⟩:=a.zs
 have:=containsFuncRows_ev (val:=fun a:V × List Int=>a.1) (p:=fun a=>p a.2) hw hx (fun a ha=>by obtain⟨F,c⟩:=hz a ha;exact c.one) fun a ha=>by
  obtain⟨F,c⟩:=hz a ha
  exact hp _ _ F (by rw[←e];exact List.mem_map_of_mem ha) c
 rw[show(zs.any fun a=>p a.2)=S.any p by rw[←e,List.any_map];rfl] at this
 exact this
theorem sortCut_ev {F:Nat→Prop}{h:H}{x:V}{l:List Int}(hw:h.wf)(o:CutO F h x 1 (l.map encI))(h1:l≠[])(hl:l.length≤100000)(Q:V→H→Prop)
  (q:∀h',CutO F h' x 1 ((sortI l).map encI)→Keeps (blkOf x) h h'→h'.wf→Q (.tup []) h'):Ev fnG fastA (.fn 50 [] []) [x] h Q:=by
 have lp:=List.length_pos_iff.2 h1
 have b1:Nat.blt 0 l.length=true:=by rw[Nat.blt_eq];omega
 have b2:Nat.blt l.length 4611686018427387904=true:=by rw[Nat.blt_eq];omega
 have hi:intsOf (l.map (V.int .i64))=some l:=intsOf_map l
 obtain⟨v,vs,hv⟩:∃v vs,(sortI l).map (V.int .i64)=v::vs:=by
  cases hc:(sortI l).map (V.int .i64) with
  |nil=>have:=congrArg List.length hc;rw[List.length_map,sortI_len,List.length_nil] at this;omega
  |cons v vs=>exact⟨v,vs,rfl⟩
 have ho:allOne (v::vs)=true:=by rw[←hv];exact allOneI _
 have hp:∀rest,putN 0 (v::vs) (l.map (V.int .i64)++rest)=some ((sortI l).map (V.int .i64)++rest):=fun rest=>by
  have:=putN_app (pre:=[]) (new:=(sortI l).map (V.int .i64)) (old:=l.map (V.int .i64)) (rest:=rest) (by rw[List.length_map,List.length_map,sortI_len])
  rw[←hv]
  simpa using this
 have rl:∀r∈(sortI l).map encI,r.length=1:=fun r hr=>by
  obtain⟨i,_,rfl⟩:=List.mem_map.1 hr
  rfl
 obtain⟨_,o⟩:=o
 rcases o with⟨_,e⟩|⟨b,rest,j,e,lb,lt,g,k⟩|⟨b,c,rest,e,lb,lt,g,k,kc⟩
 ·exact absurd (List.map_eq_nil_iff.1 e) h1
 ·subst e
  rw[List.length_map] at *
  rw[flatI] at g
  have hps:=H.put_gr ho g (hp rest)
  refine(Ev.det ⟨1,.tup [],h.set b (.cells (.gr 1) ((sortI l).map (V.int .i64)++rest)),?_,rfl,rfl⟩ Q).mpr ?_
  ·show sortF [.sl b 0 l.length (.slk 0 0)] h=_
   simp only[sortF,b1,b2,og_true,cells_of g,getNI l rest,hi,hv,hps,withV_some]
  ·refine q _ ⟨rl,.inr (.inl ⟨b,rest,j,by rw[List.length_map,sortI_len],lb,by rw[H.next_set];exact lt,?_,k⟩)⟩ ((Keeps.set h b _).mono fun c e=>⟨0,l.length,.slk 0 0,by rw[e]⟩) (H.wf_set hw _ g)
   rw[flatI];exact get_set_same rfl
 ·subst e
  rw[List.length_map] at *
  rw[flatI] at g
  have hps:=H.put_rw ho g (hp rest)
  refine(Ev.det ⟨1,.tup [],h.set b (.cells .rw ((sortI l).map (V.int .i64)++rest)),?_,rfl,rfl⟩ Q).mpr ?_
  ·show sortF [.sl b 0 l.length (.fix c)] h=_
   simp only[sortF,b1,b2,og_true,cells_of g,getNI l rest,hi,hv,hps,withV_some]
  ·refine q _ ⟨rl,.inr (.inr ⟨b,c,rest,by rw[List.length_map,sortI_len],lb,by rw[H.next_set];exact lt,?_,by rw[List.length_map,sortI_len];exact k,by rw[List.length_map,sortI_len];exact kc⟩)⟩ ((Keeps.set h b _).mono fun d e=>⟨0,l.length,.fix c,by rw[e]⟩) (H.wf_set hw _ g)
   rw[flatI];exact get_set_same rfl
theorem CutO.putI {F:Nat→Prop}{h:H}{x:V}{l:List Int}(hw:h.wf)(o:CutO F h x 1 (l.map encI)){j:Nat}(hj:j<l.length)(n:Int):
  ∃b k cs cs',q_iad 1 x (.int .i64 (j:Int))=some (.ptr b j)∧h.get b=some (.cells k cs)∧putC (some (.cells k cs)) h b j [.int .i64 n]=some (h.set b (.cells k cs'))∧(h.set b (.cells k cs')).wf∧CutO F (h.set b (.cells k cs')) x 1 ((l.set j n).map encI)∧Keeps (blkOf x) h (h.set b (.cells k cs')):=by
 have rl:∀r∈(l.set j n).map encI,r.length=1:=fun r hr=>by
  obtain⟨i,_,rfl⟩:=List.mem_map.1 hr
  rfl
 have hp:∀rest,putN j [.int .i64 n] (l.map (V.int .i64)++rest)=some ((l.set j n).map (V.int .i64)++rest):=fun rest=>by
  have e:l=l.take j++l[j]::l.drop (j+1):=by rw[←List.drop_eq_getElem_cons hj,List.take_append_drop]
  have:=putN_app (pre:=(l.take j).map (V.int .i64)) (new:=[V.int .i64 n]) (old:=[V.int .i64 l[j]]) (rest:=(l.drop (j+1)).map (V.int .i64)++rest) rfl
  rw[List.length_map,List.length_take,Nat.min_eq_left (by omega)] at this
  rw[List.set_eq_take_append_cons_drop,if_pos hj]
  have e3:l.map (V.int .i64)++rest=(l.take j).map (V.int .i64)++[V.int .i64 l[j]]++((l.drop (j+1)).map (V.int .i64)++rest):=by
   have e4:=congrArg (List.map (V.int .i64)) e
   rw[List.map_append,List.map_cons] at e4
   rw[e4]
   simp
  rw[e3,this]
  simp
 have sl:l.length=(l.set j n).length:=by simp
 obtain⟨_,o⟩:=o
 rcases o with⟨_,e⟩|⟨b,rest,i,e,lb,lt,g,k⟩|⟨b,c,rest,e,lb,lt,g,k,kc⟩
 ·rw[List.map_eq_nil_iff.1 e] at hj;exact absurd hj (Nat.not_lt_zero _)
 ·subst e
  rw[List.length_map] at *
  rw[flatI] at g
  refine⟨b,.gr 1,_,_,by rw[q_iad_sl (nat_cst j) hj];simp,g,(by simp only[putC_gr,hp rest,setO_some];rfl),H.wf_set hw _ g,⟨rl,.inr (.inl ⟨b,rest,i,by rw[List.length_map,←sl],lb,by rw[H.next_set];exact lt,?_,k⟩)⟩,(Keeps.set h b _).mono fun c e=>⟨0,l.length,.slk 0 0,by rw[e]⟩⟩
  rw[flatI];exact get_set_same rfl
 ·subst e
  rw[List.length_map] at *
  rw[flatI] at g
  refine⟨b,.rw,_,_,by rw[q_iad_sl (nat_cst j) hj];simp,g,(by simp only[putC_rw,hp rest,setO_some];rfl),H.wf_set hw _ g,⟨rl,.inr (.inr ⟨b,c,rest,by rw[List.length_map,←sl],lb,by rw[H.next_set];exact lt,?_,by rw[List.length_map,←sl];exact k,by rw[List.length_map,←sl];exact kc⟩)⟩,(Keeps.set h b _).mono fun d e=>⟨0,l.length,.fix c,by rw[e]⟩⟩
  rw[flatI];exact get_set_same rfl
end Tryz
end Go.Ab
namespace Go.Ab.Tryz
end Go.Ab.Tryz
namespace Go.Ab
namespace Tryz
def PermI (f:Int→Int)(n:Int):Prop:=(∀a:Int,0≤a→a<n→0≤f a∧f a<n)∧∀a b:Int,0≤a→a<n→0≤b→b<n→f a=f b→a=b
theorem PermI.step {f:Int→Int}{i j:Int}(h:PermI f i)(i0:0≤i)(j0:0≤j)(j1:j≤i):PermI (fset (fset f i (f j)) j i) (i+1):=by
 obtain⟨h1,h2⟩:=h
 have hf:∀a:Int,0≤a→a<i+1→fset (fset f i (f j)) j i a=i∧a=j∨fset (fset f i (f j)) j i a=f j∧a=i∧j<i∨fset (fset f i (f j)) j i a=f a∧a≠j∧a<i:=fun a a0 a1=>by
  unfold fset
  by_cases e:a=j
  ·exact .inl ⟨if_pos e,e⟩
  ·by_cases e2:a=i
   ·exact .inr (.inl ⟨by rw[if_neg e,if_pos e2],e2,by omega⟩)
   ·exact .inr (.inr ⟨by rw[if_neg e,if_neg e2],e,by omega⟩)
 refine⟨fun a a0 a1=>?_,fun a b a0 a1 b0 b1 e=>?_⟩
 ·rcases hf a a0 a1 with⟨e,_⟩|⟨e,_,hj⟩|⟨e,_,ha⟩
  ·omega
  ·have:=h1 j j0 hj;omega
  ·have:=h1 a a0 ha;omega
 ·rcases hf a a0 a1 with⟨ea,ha⟩|⟨ea,ha,hj⟩|⟨ea,ha,hai⟩<;>rcases hf b b0 b1 with⟨eb,hb⟩|⟨eb,hb,hj'⟩|⟨eb,hb,hbi⟩
  ·omega
  ·have:=h1 j j0 hj';omega
  ·have:=h1 b b0 hbi;omega
  ·have:=h1 j j0 hj;omega
  ·omega
  ·have:=h2 j b j0 hj b0 hbi (by omega);omega
  ·have:=h1 a a0 hai;omega
  ·have:=h2 a j a0 hai j0 hj' (by omega);omega
  ·exact h2 a b a0 hai b0 hbi (by omega)
theorem Order_ev {h0 h:H}{p:Nat}{x:V}{bs:List Int}{T:Int}(hs:h0.Sub h)(hw0:h0.wf)(hx:SlAt h0 x 1 (bs.map encU8))(hp0:h0.next≤p)(hp:SpAt h p x T)(hT:0≤T∧T≤1000000){n:Nat}(hn:n≤1000)(Q:V→H→Prop)
  (q:∀f b h' T',PermI f n→(0≤T'∧T'≤T+(n:Int))→h0.Sub h'→SpAt h' p x T'→Keeps (fun c=>c=p) h h'→h.next≤b→h'.get b=some (.cells .rw (tab f n))→Q (.sl b 0 n (.fix n)) h'):Ev fnG fastA (.fn 48 [] []) [.ptr p 0,.int .i64 (n:Int)] h Q:=by
 have hw:=hs.wf
 have hlp:=hw _ _ (spGet hp)
 refine Ev_body (fd:=c48) rfl rfl rfl ?_
 have hz:=tab_zero n
 have emx:max 0 (n:Int)=((n:Nat):Int):=by omega
 have sR:=(H.Sub.refl hw).add (.cells .rw (tab (fun _=>0) n))
 have gR:(h.add (.cells .rw (tab (fun _=>0) n))).get h.next=some (.cells .rw (tab (fun _=>0) n)):=get_add_new rfl
 have lR:(h.add (.cells .rw (tab (fun _=>0) n))).next=h.next+1:=H.next_add _ _
 simp(disch:=first|omega|simp only[nZ]<;>omega|fail)only[c48,go_sem,emx,a_msl_nm,hz]
 generalize h.add (.cells .rw (tab (fun _=>0) n))=hR at sR gR lR⊢
 have KR:Keeps (fun c=>c=p∨h.next≤c) h hR:=(Keeps.of sR (fun _=>False)).mono fun c hc=>hc.elim
 refine W_count n (fun i s=>∃(tm:Go.Ab.T V) (h':H) (f:Int→Int) (T':Int),s=⟨tm,h',[]⟩∧PermI f (i:Int)∧h0.Sub h'∧SpAt h' p x T'∧0≤T'∧T'≤T+(i:Int)∧Keeps (fun c=>c=p∨h.next≤c) h h'∧h'.get h.next=some (.cells .rw (tab f n))∧h.next<h'.next∧
   (Opd.t 0).ev tm=.ptr p 0∧(Opd.t 5).ev tm=.sl h.next 0 n (.fix n)∧(Opd.t 12).ev tm=.int .i64 (n:Int)∧(Opd.t 13).ev tm=.int .i64 (i:Int))
  ?_ ?_ (i:=0) (Nat.zero_le _) ⟨_,_,fun _=>0,T,rfl,⟨fun a _ _=>by omega,fun a b _ _ _ _=>by omega⟩,hs.trans sR,hp.mono sR,hT.1,by omega,KR,gR,by omega,(by simp),(by simp),(by simp),(by simp)⟩
 ·rintro i s hi ⟨tm,h',f,T',rfl,hf,s',p',T0,T1,K',g',lt,t0,t5,t12,t13⟩
  have hi':(i:Int)<(n:Int):=by omega
  simp(disch:=first|omega|simp only[nZ]<;>omega|fail)only[go_sem,t0,t5,t12,t13,hi']
  refine Upto_ev s' hw0 hx hp0 p' (by omega) (by omega) _ fun j h2 j0 j1 s2 p2 k2 n2=>?_
  obtain⟨jn,rfl⟩:=Int.eq_ofNat_of_zero_le j0
  have hj:jn<n:=by omega
  have g2:=k2.2 _ _ g' (by omega)
  have hst:=hf.step (j:=(jn:Int)) (by omega) (by omega) (by omega)
  have hst':PermI (fset (fset f (i:Int) (f (jn:Int))) (jn:Int) (i:Int)) ((i+1:Nat):Int):=by rw[show((i+1:Nat):Int)=(i:Int)+1 by omega];exact hst
  have g3:(h2.set h.next (.cells .rw (tab (fset f (i:Int) (f (jn:Int))) n))).get h.next=some (.cells .rw (tab (fset f (i:Int) (f (jn:Int))) n)):=get_set_same rfl
  simp(disch:=first|omega|simp only[nZ]<;>omega|fail)only[go_sem,t0,t5,t12,t13,q_iad_sl (nat_cst jn) hj,q_iad_sl (nat_cst i) hi,Nat.mul_one,cells_of g2,g2,tab_at2 hj,tab_st2 hi,tab_st2 hj,wr_succ]
  have hb:=hs.next
  refine⟨_,_,fset (fset f (i:Int) (f (jn:Int))) (jn:Int) (i:Int),T'+1,rfl,hst',s2.set hb (by omega) hw0 _,p2.keep (Keeps.set _ _ _) (by omega),by omega,by omega,?_,get_set_same rfl,by rw[H.next_set];omega,(by simp[t0]),(by simp[t5]),(by simp[t12]),(by simp)⟩
  refine((K'.trans k2).trans (Keeps.set _ _ _)).mono ?_
  rintro c ((h|h)|h)
  ·exact h
  ·exact .inl h
  ·exact .inr (by omega)
 ·rintro s ⟨tm,h',f,T',rfl,hf,s',p',T0,T1,K',g',lt,t0,t5,t12,t13⟩
  simp(disch:=first|omega|simp only[nZ]<;>omega|fail)only[go_sem,t0,t5,t12,t13,Int.lt_irrefl]
  exact q f _ _ T' hf ⟨T0,T1⟩ s' p' (Keeps.new hw K') (Nat.le_refl _) g'
end Tryz
end Go.Ab
namespace Go.Ab.Tryz
open Go.Ab.Silk (Inc lexlt)
def cmpI (a b:Int):Int:=if a<b then -1 else if b<a then 1 else 0
theorem compare_eq (a b:Int)(h:H)(Q:V→H→Prop):Ev fnG fastA (.fn 116 [] []) [.int .i64 a,.int .i64 b] h Q=Q (.int .i64 (cmpI a b)) h:=by
 refine Ev.det (Ev_body (fd:=c116) rfl rfl rfl ?_) Q
 unfold cmpI
 by_cases h1:a<b
 ·rw[if_pos h1]
  simp(disch:=first|omega|simp only[nZ]<;>omega|fail)only[c116,go_sem,isNaN_eq,h1]
 ·rw[if_neg h1]
  by_cases h2:b<a
  ·rw[if_pos h2]
   simp(disch:=first|omega|simp only[nZ]<;>omega|fail)only[c116,go_sem,isNaN_eq,h1,h2]
  ·rw[if_neg h2]
   simp(disch:=first|omega|simp only[nZ]<;>omega|fail)only[c116,go_sem,isNaN_eq,h1,h2]
def cmpL:List Int→List Int→Int
 |[],[]=>0
 |[],_::_=> -1
 |_::_,[]=>1
 |a::l,b::r=>if cmpI a b≠0 then cmpI a b else cmpL l r
theorem cmpL_lex:∀{l r:List Int},l.length=r.length→(cmpL l r<0↔lexlt l r=true)
 |[],[],_=>by simp[cmpL,lexlt]
 |[],_::_,h=>by simp at h
 |_::_,[],h=>by simp at h
 |a::l,b::r,h=>by
  have ih:=cmpL_lex (l:=l) (r:=r) (by simpa using h)
  simp only[cmpL,lexlt]
  by_cases e:a=b
  ·subst e
   have:cmpI a a=0:=by unfold cmpI;rw[if_neg (by omega),if_neg (by omega)]
   rw[this,if_neg (by omega),if_pos rfl];exact ih
  ·rw[if_neg e,decide_eq_true_eq]
   unfold cmpI
   by_cases h1:a<b
   ·rw[if_pos h1,if_pos (by omega)];omega
   ·rw[if_neg h1,if_pos (show b<a by omega),if_pos (by omega)];omega
theorem Compare_ev {h:H}{x y:V}{l r:List Int}(hx:SlAt h x 1 (l.map encI))(hy:SlAt h y 1 (r.map encI))(Q:V→H→Prop):Ev fnG fastA (.fn 51 [] []) [x,y] h Q=Q (.int .i64 (cmpL l r)) h:=by
 have hlx:=hx.lenE
 have hly:=hy.lenE
 have hbx:=hx.boundE
 refine Ev.det (Ev_body (fd:=c51) rfl rfl rfl ?_) Q
 simp(disch:=first|omega|simp only[nZ]<;>omega|fail)only[c51,go_sem,hlx]
 refine W_count l.length (fun i s=>∃tm,s=⟨tm,h,[]⟩∧cmpL l r=cmpL (l.drop i) (r.drop i)∧i≤r.length∧(Opd.t 0).ev tm=x∧(Opd.t 1).ev tm=y∧(Opd.t 9).ev tm=x∧(Opd.t 10).ev tm=.int .i64 (l.length:Int)∧(Opd.t 11).ev tm=.int .i64 (i:Int))
  ?_ ?_ (i:=0) (Nat.zero_le _) ⟨_,rfl,rfl,Nat.zero_le _,(by simp),(by simp),(by simp),(by simp),(by simp)⟩
 ·rintro i s hi ⟨tm,rfl,hc,hr,t0,t1,t9,t10,t11⟩
  have hi':(i:Int)<(l.length:Int):=by omega
  obtain⟨b1,o1,cs1,m1,m2,m3⟩:∃b o cs,q_iad 1 x (.int .i64 (i:Int))=some (.ptr b o)∧h.cells b=some cs∧nth o cs=some (.int .i64 l[i]):=by
   obtain⟨b,o,c,cs,e1,e2,e3,_,_,e4⟩:=hx.at hi
   have e5:=e4 (by omega)
   exact⟨b,o+i*1,cs,e3 (nat_cst i),e2,by rw[e5];rfl⟩
  have el:l.drop i=l[i]::l.drop (i+1):=List.drop_eq_getElem_cons hi
  by_cases hir:i<r.length
  ·obtain⟨b2,o2,cs2,p1,p2,p3⟩:∃b o cs,q_iad 1 y (.int .i64 (i:Int))=some (.ptr b o)∧h.cells b=some cs∧nth o cs=some (.int .i64 r[i]):=by
    obtain⟨b,o,c,cs,e1,e2,e3,_,_,e4⟩:=hy.at hir
    have e5:=e4 (by omega)
    exact⟨b,o+i*1,cs,e3 (nat_cst i),e2,by rw[e5];rfl⟩
   have er:r.drop i=r[i]::r.drop (i+1):=List.drop_eq_getElem_cons hir
   have c1:¬(r.length:Int)≤(i:Int):=by omega
   rw[el,er] at hc
   simp only[cmpL] at hc
   by_cases hz:cmpI l[i] r[i]=0
   ·rw[if_neg (by simp[hz])] at hc
    have dz:decide (cmpI l[i] r[i]≠0)=false:=by simp[hz]
    simp(disch:=first|omega|simp only[nZ]<;>omega|fail)only[go_sem,t0,t1,t9,t10,t11,hi',m1,m2,m3,hly,c1,p1,p2,p3,compare_eq,dz,wr_succ]
    exact⟨_,rfl,hc,by omega,(by simp[t0]),(by simp[t1]),(by simp[t9]),(by simp[t10]),(by simp)⟩
   ·rw[if_pos hz] at hc
    have dz:decide (cmpI l[i] r[i]≠0)=true:=decide_eq_true hz
    simp(disch:=first|omega|simp only[nZ]<;>omega|fail)only[go_sem,t0,t1,t9,t10,t11,hi',m1,m2,m3,hly,c1,p1,p2,p3,compare_eq,dz,hc]
  ·have c1:(r.length:Int)≤(i:Int):=by omega
   have er:r.drop i=[]:=List.drop_eq_nil_of_le (by omega)
   rw[el,er] at hc
   simp only[cmpL] at hc
   simp(disch:=first|omega|simp only[nZ]<;>omega|fail)only[go_sem,t0,t1,t9,t10,t11,hi',m1,m2,m3,hly,c1,hc]
 ·rintro s ⟨tm,rfl,hc,hr,t0,t1,t9,t10,t11⟩
  have el:l.drop l.length=[]:=List.drop_eq_nil_of_le (Nat.le_refl _)
  rw[el] at hc
  by_cases hlt:(l.length:Int)<(r.length:Int)
  ·have er:r.drop l.length=r[l.length]'(by omega)::r.drop (l.length+1):=List.drop_eq_getElem_cons (by omega)
   rw[er] at hc
   simp only[cmpL] at hc
   simp(disch:=first|omega|simp only[nZ]<;>omega|fail)only[go_sem,t0,t1,t9,t10,t11,Int.lt_irrefl,hlx,hly,hlt,hc]
  ·have er:r.drop l.length=[]:=List.drop_eq_nil_of_le (by omega)
   rw[er] at hc
   simp only[cmpL] at hc
   simp(disch:=first|omega|simp only[nZ]<;>omega|fail)only[go_sem,t0,t1,t9,t10,t11,Int.lt_irrefl,hlx,hly,hlt,hc]
end Go.Ab.Tryz
namespace Go.Ab.Tryz
open Go.Proofs
open Go.Ab.Silk (Inc lexlt)
theorem growS_has {T:Int→Int→Bool}{l:List Int}{a:Int}(h:(l.any fun r=>decide (a=r))=true):growS T l a=l:=by
 obtain⟨r,hr,e⟩:=List.any_eq_true.1 h
 have e:=of_decide_eq_true e
 subst e
 unfold growS
 rw[if_neg fun c=>by rw[List.contains_iff_mem.2 hr] at c;cases c.1]
theorem growS_bad {T:Int→Int→Bool}{l:List Int}{a:Int}(h:(l.any fun r=> !T a r)=true):growS T l a=l:=by
 obtain⟨r,hr,e⟩:=List.any_eq_true.1 h
 unfold growS
 rw[if_neg fun c=>by rw[List.all_eq_true.1 c.2 r hr] at e;cases e]
theorem growS_new {T:Int→Int→Bool}{l:List Int}{a:Int}(h1:(l.any fun r=>decide (a=r))=false)(h2:(l.any fun r=> !T a r)=false):growS T l a=l++[a]:=by
 unfold growS
 refine if_pos ⟨?_,List.all_eq_true.2 fun r hr=>?_⟩
 ·cases e:l.contains a with
  |false=>rfl
  |true=>exact absurd (decide_eq_true rfl) (List.any_eq_false.1 h1 a (List.contains_iff_mem.1 e))
 ·have:=List.any_eq_false.1 h2 r hr
  cases e:T a r with
  |true=>rfl
  |false=>rw[e] at this;exact absurd rfl this
theorem growL_succ {T:Int→Int→Bool}{l O:List Int}{i:Nat}(hi:i<O.length):growL T l (O.take (i+1))=growS T (growL T l (O.take i)) O[i]:=by
 rw[List.take_succ_eq_append_getElem hi];unfold growL;rw[List.foldl_append];rfl
set_option maxRecDepth 4000 in
set_option maxHeartbeats 8000000 in
theorem try_ev {h0 h:H}(hw0:h0.wf){bT bP bL sp:Nat}{E L P xs vL ys i46 i47 i106:V}{t:Tb}(g:Good t)(gT:h0.cells bT=some [E,L,P])(ht:TbIs h0 (.agg [E,L,P]) t){bs:List Int}(hx:SlAt h0 xs 1 (bs.map encU8))(hs:h0.Sub h)(hp0:h0.next≤sp){T:Int}(hp:SpAt h sp xs T)(hT:0≤T∧T≤900000)
  {p:Int} (gP:h.cells bP=some [.int .i64 p]) (nP:bP≠sp) (pp:0≤p∧p<(t.pieces.length:Int)) {c:List Int} (gL:h.cells bL=some [vL]) (nL:bL≠sp) (aL:SlAt h vL 1 (c.map encI)) (nL2:∀b,blkOf vL b→b≠sp)
  (best:LastIs (mostP (mT t) fun l=>l.any fun r=>decide (p=r)) t.pieces.length t.pieces.length c) (tm:Go.Ab.T V)
  (t5:(Opd.t 5).ev tm=.ptr bT 0) (t6:(Opd.t 6).ev tm=ys) (t8:(Opd.t 8).ev tm=.ptr sp 0) (t9:(Opd.t 9).ev tm=.ptr bP 0) (t10:(Opd.t 10).ev tm=.ptr bL 0) (t46:(Opd.t 46).ev tm=i46) (t47:(Opd.t 47).ev tm=i47) (t106:(Opd.t 106).ev tm=i106):
  W fnG fastA 248 6 none (navK [true,true,true,true,true,false,true,true,true,true,true,false,true,true,true,true,true,true,true,true,true,true,false,true] c6.body) ⟨tm,h,[]⟩ fun x1 s=>x1=.nrm∧∃tm' h' T',s=⟨tm',h',[]⟩∧h0.Sub h'∧SpAt h' sp xs T'∧(0≤T'∧T'≤T+(t.pieces.length:Int))∧Keeps (fun c=>c=sp) h h'∧
   (Opd.t 5).ev tm'=.ptr bT 0∧(Opd.t 6).ev tm'=ys∧(Opd.t 8).ev tm'=.ptr sp 0∧(Opd.t 9).ev tm'=.ptr bP 0∧(Opd.t 10).ev tm'=.ptr bL 0∧(Opd.t 46).ev tm'=i46∧(Opd.t 47).ev tm'=i47∧(Opd.t 106).ev tm'=i106:=by
 have hw:=hs.wf
 have gp:=g.pieces
 have ht0:=ht
 obtain⟨_,_,_,e0,aE,aL0,aP⟩:=ht
 cases e0
 have hlP:=aP.lenE
 have sA:h.Sub (h.add (.cells .rw [.int .i64 p])):=(by repeat(first|assumption|exact H.Sub.refl (by assumption)|refine H.Sub.add ?_ _|refine H.Sub.set ?_ (by first|omega|(simp only[H.next_add,H.next_set,H.next_del]<;>omega)) (by first|omega|(simp only[H.next_add,H.next_set,H.next_del]<;>omega)) (by assumption) _))
 have gT1:(h.add (.cells .rw [.int .i64 p])).cells bT=some [E,L,P]:=sA.cells (hs.cells gT)
 simp(disch:=first|omega|simp only[nZ]<;>omega|fail)only[navK,c6,go_sem,t5,t8,t9,gP,gT1,hlP]
 refine Order_ev (hs.trans sA) hw0 hx hp0 (hp.mono sA) (by omega) (by omega) _ fun f b h1 T1 pm hT1 s1 sp1 k1 lb g1=>?_
 obtain⟨n,hn⟩:∃n,t.pieces.length=n:=⟨_,rfl⟩
 rw[hn] at pm hT1 g1 pp best gp
 simp only[hn] at hlP⊢
 have w1:=s1.wf
 have lsp:sp<h.next:=by obtain⟨st,gs⟩:=hp;exact hw _ _ gs
 have kA:Keeps (fun c=>c=sp) h h1:=((Keeps.of sA _).trans k1).mono fun c hc=>hc.elim id id
 rw[H.next_add] at lb
 obtain⟨O,hO⟩:∃O,(List.range n).map (fun(i:Nat)=>f (i:Int))=O:=⟨_,rfl⟩
 have lO:O.length=n:=by rw[←hO];simp
 have eO:tab f n=O.map (V.int .i64):=by rw[←hO,List.map_map];rfl
 have mO:∀a∈O,0≤a∧a<(n:Int):=fun a ha=>by
  rw[←hO] at ha
  obtain⟨i,hi,rfl⟩:=List.mem_map.1 ha
  have:=List.mem_range.1 hi
  exact pm.1 _ (by omega) (by omega)
 have aO:∀hq:H,hq.get b=some (.cells .rw (tab f n))→SlAt hq (.sl b 0 n (.fix n)) 1 (O.map encI):=fun hq e=>by
  rw[eO] at e
  have:=getNI O []
  rw[List.append_nil] at this
  refine⟨fun r hr=>?_,by rw[List.length_map,lO];omega,.inr ⟨b,0,.fix n,_,by rw[List.length_map,lO],.inr (cells_of e),by rw[List.length_map,Nat.mul_one,flatI];exact this⟩⟩
  obtain⟨i,_,rfl⟩:=List.mem_map.1 hr
  rfl
 have g0:h1.get h.next=some (.cells .rw [.int .i64 p]):=k1.2 _ _ (get_add_new rfl) (by omega)
 have ox:OwnC h0 h1 (.sl h.next 0 1 (.fix 1)) 1 ((growL (mT t) [p] (O.take 0)).map encI):=⟨s1,fun r hr=>by
  obtain⟨i,_,rfl⟩:=List.mem_map.1 hr
  rfl,.inr (.inr ⟨h.next,1,[],rfl,hs.next,w1 _ _ g0,g0,rfl,Nat.le_refl _⟩)⟩
 have gl1:q_len (.sl b 0 n (.fix n))=some (.int .i64 (n:Int)):=by have:=(aO _ g1).lenE;rw[lO] at this;exact this
 simp(disch:=first|omega|simp only[nZ]<;>omega|fail)only[go_sem,gl1]
 refine W_count n (fun i s=>∃tm hq x,s=⟨tm,hq,[]⟩∧h0.Sub hq∧SpAt hq sp xs T1∧Keeps (fun c=>c=sp) h hq∧hq.get b=some (.cells .rw (tab f n))∧OwnC h0 hq x 1 ((growL (mT t) [p] (O.take i)).map encI)∧(∀c,blkOf x c→h.next≤c∧c≠b)∧
   (Opd.t 5).ev tm=.ptr bT 0∧(Opd.t 6).ev tm=ys∧(Opd.t 8).ev tm=.ptr sp 0∧(Opd.t 9).ev tm=.ptr bP 0∧(Opd.t 10).ev tm=.ptr bL 0∧(Opd.t 46).ev tm=i46∧(Opd.t 47).ev tm=i47∧(Opd.t 106).ev tm=i106∧(Opd.t 14).ev tm=x∧(Opd.t 114).ev tm=.sl b 0 n (.fix n)∧(Opd.t 115).ev tm=.int .i64 (n:Int)∧(Opd.t 116).ev tm=.int .i64 (i:Int))
  ?_ ?_ (i:=0) (Nat.zero_le _) ⟨_,_,_,rfl,s1,sp1,kA,g1,ox,(fun c hc=>by obtain⟨_,_,_,e⟩:=hc;cases e;exact⟨Nat.le_refl _,by omega⟩),(by simp[t5]),(by simp[t6]),(by simp[t8]),(by simp[t9]),(by simp[t10]),(by simp[t46]),(by simp[t47]),(by simp[t106]),(by simp),(by simp),(by simp),(by simp only[ev_put];rfl)⟩
 ·clear t5 t6 t8 t9 t10 t46 t47 t106
  rintro i s hi ⟨tm,hq,x,rfl,sq,spq,kq,gq,oq,nx,t5,t6,t8,t9,t10,t46,t47,t106,t14,t114,t115,t116⟩
  have hi':(i:Int)<(n:Int):=by omega
  have gr:Grown (mT t) n p (growL (mT t) [p] (O.take i)):=Grown.all (mT_comm g) _ (Grown.one pp) fun a ha=>mO a (List.mem_of_mem_take ha)
  have hiO:i<O.length:=by omega
  have ho:=mO _ (List.getElem_mem hiO)
  obtain⟨b',o',c',cs,e,hc,hq',hg,hn1,hn0⟩:=(aO _ gq).at hiO
  cases e
  have v1:wr .i64 ((i:Int)+1)=((i+1:Nat):Int):=wr_succ (by omega)
  have hv:nth (i*1) cs=some (.int .i64 O[i]):=by
   have:=hn0 (by simp[encI])
   simpa[encI] using this
  simp(disch:=first|omega|simp only[nZ]<;>omega|fail)only[go_sem,t5,t14,t114,t115,t116,hi',hq' (nat_cst i),hc,hv]
  obtain⟨l,hl⟩:∃l,growL (mT t) [p] (O.take i)=l:=⟨_,rfl⟩
  rw[hl] at oq gr
  have gs:=growL_succ (T:=mT t) (l:=[p]) hiO
  rw[hl] at gs
  have ll:=gr.len
  have sB:hq.Sub (hq.add (.cells .rw [.int .i64 O[i]])):=(H.Sub.refl sq.wf).add _
  have ax:SlAt hq x 1 (l.map encI):=oq.sl (by rw[List.length_map];omega)
  refine hasInt_ev sB.wf (ax.mono sB) O[i] _ fun h2 s2=>?_
  have sB2:=sB.trans s2
  have g16:h2.cells hq.next=some [.int .i64 O[i]]:=s2.cells (cells_add_new rfl)
  have gT2:h2.cells bT=some [E,L,P]:=sB2.cells (sq.cells gT)
  cases hc1:l.any fun r=>decide (O[i]=r) with
  |true=>
   simp(disch:=first|omega|simp only[nZ]<;>omega|fail)only[go_sem,t116,v1]
   exact⟨_,_,_,rfl,sq.trans sB2,spq.mono sB2,(kq.trans (Keeps.of sB2 (fun c=>c=sp))).mono fun c hc=>hc.elim id id,sB2.get gq,by rw[gs,growS_has hc1];exact oq.mono sB2,nx,(by simp[t5]),(by simp[t6]),(by simp[t8]),(by simp[t9]),(by simp[t10]),(by simp[t46]),(by simp[t47]),(by simp[t106]),(by simp[t14]),(by simp[t114]),(by simp[t115]),(by simp)⟩
  |false=>
   simp(disch:=first|omega|simp only[nZ]<;>omega|fail)only[go_sem,t5,t14]
   refine(containsFuncInt_ev (p:=fun r=> !mT t O[i] r) s2.wf ((ax.mono sB2)) fun r hr=>es3_ok g gT2 (ht0.mono (sq.trans sB2)) g16 (by rw[hn];exact ho) (by rw[hn];exact gr.rg r hr)).mono fun v h3 hv=>?_
   obtain⟨rfl,s3⟩:=hv
   have sB3:=sB2.trans s3
   have g163:=s3.cells g16
   cases hc2:l.any fun r=> !mT t O[i] r with
   |true=>
    simp(disch:=first|omega|simp only[nZ]<;>omega|fail)only[go_sem,t116,v1]
    exact⟨_,_,_,rfl,sq.trans sB3,spq.mono sB3,(kq.trans (Keeps.of sB3 (fun c=>c=sp))).mono fun c hc=>hc.elim id id,sB3.get gq,by rw[gs,growS_bad hc2];exact oq.mono sB3,nx,(by simp[t5]),(by simp[t6]),(by simp[t8]),(by simp[t9]),(by simp[t10]),(by simp[t46]),(by simp[t47]),(by simp[t106]),(by simp[t14]),(by simp[t114]),(by simp[t115]),(by simp)⟩
   |false=>
    simp(disch:=first|omega|simp only[nZ]<;>omega|fail)only[go_sem,t14,g163]
    have sB4:hq.Sub (h3.add (.cells .rw [.int .i64 O[i]])):=sB3.trans ((H.Sub.refl sB3.wf).add _)
    have own:SlAt (h3.add (.cells .rw [.int .i64 O[i]])) (.sl h3.next 0 1 (.fix 1)) 1 [encI O[i]]:=⟨(fun r hr=>by rw[List.mem_singleton.1 hr];rfl),by simp,.inr ⟨h3.next,0,.fix 1,[.int .i64 O[i]],rfl,.inr (cells_add_new rfl),rfl⟩⟩
    refine(oq.mono sB4).app1 (by_:=8) (r:=encI O[i]) hw0 rfl (by omega) own rfl (by rw[List.length_map];omega) (by rw[List.length_map];omega) fun x' h5 o5 n5 k5=>?_
    simp(disch:=first|omega|simp only[nZ]<;>omega|fail)only[go_sem,t116,v1]
    exact⟨_,_,_,rfl,o5.1,(spq.mono sB4).keep k5 (fun hb=>by have:=(nx _ hb).1;omega),⟨Nat.le_trans kq.1 (Nat.le_trans sB4.next k5.1),fun c y e ne=>k5.2 c y (sB4.get (kq.2 c y e ne)) fun hb=>by have:=(nx c hb).1;have:=hw c y e;omega⟩,
     k5.2 _ _ (sB4.get gq) (fun hb=>(nx b hb).2 rfl),by rw[gs,growS_new hc1 hc2,List.map_append];exact o5,(fun c hc=>(n5 c hc).elim (nx c) fun hle=>by
      have h1:=sq.wf _ _ gq
      have h2:=sB3.next
      have h3:=kq.1
      rw[H.next_add] at hle
      exact⟨by omega,by omega⟩),(by simp[t5]),(by simp[t6]),(by simp[t8]),(by simp[t9]),(by simp[t10]),(by simp[t46]),(by simp[t47]),(by simp[t106]),(by simp),(by simp[t114]),(by simp[t115]),(by simp)⟩
 ·clear t5 t6 t8 t9 t10 t46 t47 t106
  rintro s ⟨tm,hq,x,rfl,sq,spq,kq,gq,oq,nx,t5,t6,t8,t9,t10,t46,t47,t106,t14,t114,t115,t116⟩
  have gr:Grown (mT t) n p (growL (mT t) [p] (O.take n)):=Grown.all (mT_comm g) _ (Grown.one pp) fun a ha=>mO a (List.mem_of_mem_take ha)
  obtain⟨l,hl⟩:∃l,growL (mT t) [p] (O.take n)=l:=⟨_,rfl⟩
  rw[hl] at oq gr
  have ll:=gr.len
  simp(disch:=first|omega|simp only[nZ]<;>omega|fail)only[go_sem,t14,t115,t116,Int.lt_irrefl]
  refine sortC_ev oq hw0 (List.ne_nil_of_mem gr.has) (by omega) _ fun h2 o2 k2=>?_
  have lL:∀{b:Nat} {cs:List V},h.cells b=some cs→b<h.next:=fun{b cs} e=>by
   obtain⟨y,hy⟩:∃y,h.get b=some y:=by
    cases k:h.get b with
    |none=>unfold H.cells at e;rw[k] at e;cases e
    |some y=>exact⟨y,rfl⟩
   exact hw _ _ hy
  have k2h:Keeps (fun c=>c=sp) h h2:=⟨Nat.le_trans kq.1 k2.1,fun c y e ne=>k2.2 c y (kq.2 c y e ne) fun hb=>by have:=(nx c hb).1;have:=hw c y e;omega⟩
  have gL2:=k2h.cells gL nL
  have aL2:SlAt h2 vL 1 (c.map encI):=SlAt_keep aL k2h nL2
  have aS:=o2.sl (by rw[List.length_map,sortI_len];omega)
  have sp2:SpAt h2 sp xs T1:=spq.keep k2 fun hb=>by have:=(nx _ hb).1;omega
  have b1:=gr_best best gr
  have d1:decide ((c.length:Int)<((sortI l).length:Int))=false:=decide_eq_false (by rcases b1 with b1|⟨b1, -⟩<;>omega)
  rcases b1 with b1|⟨b1,b2⟩
  ·have d2:decide (((sortI l).length:Int)=(c.length:Int))=false:=decide_eq_false (by omega)
   simp(disch:=first|omega|simp only[nZ]<;>omega|fail)only[go_sem,t14,t10,gL2,aS.lenE,aL2.lenE,d1,d2]
   first|exact⟨rfl,_,_,_,rfl,o2.1,sp2,hT1,k2h,(by simp[t5]),(by simp[t6]),(by simp[t8]),(by simp[t9]),(by simp[t10]),(by simp[t46]),(by simp[t47]),(by simp[t106])⟩|exact⟨_,_,_,rfl,o2.1,sp2,hT1,k2h,(by simp[t5]),(by simp[t6]),(by simp[t8]),(by simp[t9]),(by simp[t10]),(by simp[t46]),(by simp[t47]),(by simp[t106])⟩
  ·have d2:decide (((sortI l).length:Int)=(c.length:Int))=true:=decide_eq_true (by omega)
   have d3:decide (cmpL (sortI l) c<0)=false:=decide_eq_false fun hc=>by
    have h1:=(cmpL_lex b1).1 hc
    rcases b2 with e|e
    ·rw[e,Go.Ab.Silk.lexlt_irrefl] at h1;cases h1
    ·have:=Go.Ab.Silk.lexlt_trans h1 e
     rw[Go.Ab.Silk.lexlt_irrefl] at this;cases this
   simp(disch:=first|omega|simp only[nZ]<;>omega|fail)only[go_sem,t14,t10,gL2,aS.lenE,aL2.lenE,d1,d2,Compare_ev aS aL2,d3]
   first|exact⟨rfl,_,_,_,rfl,o2.1,sp2,hT1,k2h,(by simp[t5]),(by simp[t6]),(by simp[t8]),(by simp[t9]),(by simp[t10]),(by simp[t46]),(by simp[t47]),(by simp[t106])⟩|exact⟨_,_,_,rfl,o2.1,sp2,hT1,k2h,(by simp[t5]),(by simp[t6]),(by simp[t8]),(by simp[t9]),(by simp[t10]),(by simp[t46]),(by simp[t47]),(by simp[t106])⟩
end Go.Ab.Tryz
namespace Go.Ab.Tryz
open Go.Ab.Silk (Inc bitsL bitsL_onto)
section
variable {T:Int→Int→Bool} {n:Nat} {l:List Int}
end
end Go.Ab.Tryz
namespace Go.Ab.Tryz
open Go.Ab.Silk (Inc bitsL lexlt)
end Go.Ab.Tryz
namespace Go.Ab.Tryz
open Go.Ab.Silk (Inc bitsL lexlt)
end Go.Ab.Tryz
namespace Go.Ab.Tryz
theorem chi_bd2 (T:Int→Int→Bool)(n:Nat):chi T n≤n:=
 chi_le (g:=fun x=>x.toNat) ⟨fun x h0 h1=>by dsimp only;omega,fun x y a0 a1 b0 b1 hne he=>by dsimp only at he;omega⟩
noncomputable def srtC (t:Tb)(S:List (List Int)):Bool:= @decide (check t=0∧SrtP t S) (Classical.propDecidable _)
theorem srtC_ok {t:Tb}(c:check t=0)(S:List (List Int)):srtC t S=srtB t S:=by
 unfold srtC srtB
 by_cases h:SrtP t S
 ·rw[@decide_eq_true _ (Classical.propDecidable _) h, @decide_eq_true _ (Classical.propDecidable _) ⟨c,h⟩]
 ·rw[@decide_eq_false _ (Classical.propDecidable _) h, @decide_eq_false _ (Classical.propDecidable _) (fun a=>h a.2)]
end Go.Ab.Tryz
namespace Go.Ab.Tryz
open Go.Proofs
open Go.Ab.Silk (Inc lexlt)
theorem CutI.ne_sp {h h0:H}{y xs:V}{c bs:List Int}{sp:Nat}{T:Int}(a:CutI h y c)(h1:c≠[])(hx:SlAt h0 xs 1 (bs.map encU8))(hp:SpAt h sp xs T):∀b,blkOf y b→b≠sp:=by
 rintro b ⟨o,n,k,e⟩ rfl
 obtain⟨st,hg⟩:=hp
 rcases a.1.2 with⟨e1, -⟩|⟨b',rest,j,e1, -, -,g, -⟩|⟨b',c',rest,e1, -, -,g, -, -⟩
 ·rw[e1] at e;cases e
 ·rw[e1] at e;cases e
  rw[hg] at g;cases g
 ·rw[e1] at e;cases e
  rw[hg] at g
  cases c with
  |nil=>exact h1 rfl
  |cons x c=>
   have g2:([xs,V.int .i64 T,V.int .u64 st]:List V)=V.int .i64 x::((c.map encI).flatten++rest):=by
    injection g with g;injection g with _ g
   injection g2 with g3 _
   subst g3
   rcases hx.2.2 with⟨e, -⟩|⟨_,_,_,_,e, -⟩<;>cases e
theorem grE_ok {t:Tb}(ck:check t=0){i:Nat}(hi:isPc t (i:Int)=true):grE t (i:Int)=0:=by
 unfold grE
 rw[if_neg (by rw[ck];simp),if_neg (by rw[hi];simp)]
theorem gr_some {t:Tb}{i:Nat}(hi:i<t.pieces.length)(he:grE t (i:Int)=0):∃c,grR t (i:Int)=some c∧LastIs (mostP (mT t) fun l=>l.any fun r=>decide ((i:Int)=r)) t.pieces.length t.pieces.length c:=by
 unfold grR
 rw[if_pos he]
 rcases lastOf_spec (mostP (mT t) fun l=>l.any fun r=>decide ((i:Int)=r)) t.pieces.length t.pieces.length with h|⟨-,h⟩
 ·exact h
 ·have:=h [(i:Int)] (Inc.of (by simp) fun x hx=>by rw[List.mem_singleton] at hx;subst hx;omega) (by simp[mostP]) (by simp only[List.length_singleton];omega)
  cases this
theorem LastIs.hasP {T:Int→Int→Bool}{n:Nat}{p:Int}{c:List Int}(a:LastIs (mostP T fun l=>l.any fun r=>decide (p=r)) n n c):(c.any fun r=>decide (p=r))=true:=by
 have:=a.holds
 unfold mostP at this
 rw[Bool.and_eq_true] at this
 exact this.1
theorem LastIs.clq {T:Int→Int→Bool}{n:Nat}{p:Int}{c:List Int}(a:LastIs (mostP T fun l=>l.any fun r=>decide (p=r)) n n c):Clq T c:=by
 have:=a.holds
 unfold mostP at this
 rw[Bool.and_eq_true] at this
 exact mostP_iff.1 (by unfold mostP;rw[Bool.true_and];exact this.2)
theorem no_longer {T:Int→Int→Bool}(sy:∀x y,T x y=T y x){n:Nat}{p:Int}{c:List Int}{S:List (List Int)}(hc:LastIs (mostP T fun l=>l.any fun r=>decide (p=r)) n n c)(a:Srt T n S):
  (S.any fun l=>(l.any fun r=>decide (p=r))&&decide (c.length<l.length))=false:=by
 refine List.any_eq_false.2 fun l hl h=>?_
 rw[Bool.and_eq_true] at h
 obtain⟨r,hr,e⟩:=List.any_eq_true.1 h.1
 have e:=of_decide_eq_true e
 subst e
 have:=gr_set sy hc a hl hr
 have:=of_decide_eq_true h.2
 omega
end Go.Ab.Tryz
namespace Go.Ab.Tryz
open Go.Proofs
open Go.Ab.Silk (Inc lexlt)
set_option maxRecDepth 4000 in
set_option maxHeartbeats 8000000 in
theorem tries_ev {h0 h:H}(hw0:h0.wf){bT bP bL sp:Nat}{E L P xs vL ys i46 i47:V}{t:Tb}(g:Good t)(gT:h0.cells bT=some [E,L,P])(ht:TbIs h0 (.agg [E,L,P]) t){bs:List Int}(hx:SlAt h0 xs 1 (bs.map encU8))(hs:h0.Sub h)(hp0:h0.next≤sp){T:Int}(hp:SpAt h sp xs T)(hT:0≤T∧T≤800000)
  {p:Int} (gP:h.cells bP=some [.int .i64 p]) (nP:bP≠sp) (pp:0≤p∧p<(t.pieces.length:Int)) {c:List Int} (gL:h.cells bL=some [vL]) (nL:bL≠sp) (aL:SlAt h vL 1 (c.map encI)) (nL2:∀b,blkOf vL b→b≠sp)
  (best:LastIs (mostP (mT t) fun l=>l.any fun r=>decide (p=r)) t.pieces.length t.pieces.length c) (tm:Go.Ab.T V)
  (t5:(Opd.t 5).ev tm=.ptr bT 0) (t6:(Opd.t 6).ev tm=ys) (t8:(Opd.t 8).ev tm=.ptr sp 0) (t9:(Opd.t 9).ev tm=.ptr bP 0) (t10:(Opd.t 10).ev tm=.ptr bL 0) (t46:(Opd.t 46).ev tm=i46) (t47:(Opd.t 47).ev tm=i47):
  W fnG fastA 248 6 none (navK [true,true,true,true,true,false,true,true,true,true,true,false,true,true,true,true,true] c6.body) ⟨tm,h,[]⟩ fun x1 s=>x1=.nrm∧∃tm' h' T',s=⟨tm',h',[]⟩∧h0.Sub h'∧SpAt h' sp xs T'∧(0≤T'∧T'≤T+4*(t.pieces.length:Int))∧Keeps (fun c=>c=sp) h h'∧
   (Opd.t 5).ev tm'=.ptr bT 0∧(Opd.t 6).ev tm'=ys∧(Opd.t 8).ev tm'=.ptr sp 0∧(Opd.t 9).ev tm'=.ptr bP 0∧(Opd.t 10).ev tm'=.ptr bL 0∧(Opd.t 46).ev tm'=i46∧(Opd.t 47).ev tm'=i47:=by
 have gp:=g.pieces
 obtain⟨R,hR⟩:∃R,navK [true,true,true,true,true,false,true,true,true,true,true,false,true,true,true,true,true,true,true,true,true,true,false,true] c6.body=R:=⟨_,rfl⟩
 have tr:=fun(hq:H) (T1:Int) (sq:h0.Sub hq) (spq:SpAt hq sp xs T1) (hT1:0≤T1∧T1≤900000) (kq:Keeps (fun c=>c=sp) h hq) (i106:V) (tm:Go.Ab.T V)=>try_ev (i106:=i106) (i46:=i46) (i47:=i47) (ys:=ys) hw0 g gT ht hx sq hp0 spq hT1 (kq.cells gP nP) nP pp (kq.cells gL nL) nL (SlAt_keep aL kq nL2) nL2 best tm
 rw[hR] at tr
 simp only[navK,c6] at hR
 simp only[navK,c6]
 rw[hR]
 simp -implicitDefEqProofs(maxSteps:=999999)(disch:=first|with_reducible rfl|omega|(simp only[nA,nS,nD]<;>omega)|fail)only[go_sem]
 refine W_count 4 (fun i s=>∃tm hq T1,s=⟨tm,hq,[]⟩∧h0.Sub hq∧SpAt hq sp xs T1∧(0≤T1∧T1≤T+(i:Int)*(t.pieces.length:Int))∧Keeps (fun c=>c=sp) h hq∧(Opd.t 5).ev tm=.ptr bT 0∧(Opd.t 6).ev tm=ys∧(Opd.t 8).ev tm=.ptr sp 0∧(Opd.t 9).ev tm=.ptr bP 0∧(Opd.t 10).ev tm=.ptr bL 0∧(Opd.t 46).ev tm=i46∧(Opd.t 47).ev tm=i47∧(Opd.t 106).ev tm=.int .i64 (i:Int))
  ?_ ?_ (i:=0) (Nat.zero_le _) ⟨_,_,_,rfl,hs,hp,⟨hT.1,by omega⟩,Keeps.refl _ _,(by simp[ev_c,ev_put,t5]<;>rfl),(by simp[ev_c,ev_put,t6]<;>rfl),(by simp[ev_c,ev_put,t8]<;>rfl),(by simp[ev_c,ev_put,t9]<;>rfl),(by simp[ev_c,ev_put,t10]<;>rfl),(by simp[ev_c,ev_put,t46]<;>rfl),(by simp[ev_c,ev_put,t47]<;>rfl),(by simp only[ev_put];rfl)⟩
 ·clear t5 t6 t8 t9 t10 t46 t47
  rintro i s hi ⟨tm,hq,T1,rfl,sq,spq,hT1,kq,t5,t6,t8,t9,t10,t46,t47,t106⟩
  have hi':(i:Int)<4:=by omega
  have v1:wr .i64 ((i:Int)+1)=((i+1:Nat):Int):=wr_succ (by omega)
  have hb:(i:Int)*(t.pieces.length:Int)≤4*9:=Int.mul_le_mul (by omega) (by omega) (by omega) (by omega)
  simp -implicitDefEqProofs(maxSteps:=999999)(disch:=first|with_reducible rfl|omega|(simp only[nA,nS,nD]<;>omega)|fail)only[go_sem,t106,hi']
  refine(tr hq T1 sq spq (by omega) kq _ _ (by simp[ev_c,ev_put,t5]<;>rfl) (by simp[ev_c,ev_put,t6]<;>rfl) (by simp[ev_c,ev_put,t8]<;>rfl) (by simp[ev_c,ev_put,t9]<;>rfl) (by simp[ev_c,ev_put,t10]<;>rfl) (by simp[ev_c,ev_put,t46]<;>rfl) (by simp[ev_c,ev_put,t47]<;>rfl) (by simp[ev_c,ev_put,t106]<;>rfl)).mono fun x1 s hx1=>?_
  obtain⟨rfl,tm,h5,T5,rfl,s5,sp5,hT5,k5,t5,t6,t8,t9,t10,t46,t47,t106⟩:=hx1
  simp -implicitDefEqProofs(maxSteps:=999999)(disch:=first|with_reducible rfl|omega|(simp only[nA,nS,nD]<;>omega)|fail)only[go_sem,t106,v1]
  exact⟨_,_,_,rfl,s5,sp5,⟨hT5.1,by rw[Int.natCast_succ,Int.add_mul,Int.one_mul];omega⟩,(kq.trans k5).mono fun c hc=>hc.elim id id,(by simp[ev_c,ev_put,t5]<;>rfl),(by simp[ev_c,ev_put,t6]<;>rfl),(by simp[ev_c,ev_put,t8]<;>rfl),(by simp[ev_c,ev_put,t9]<;>rfl),(by simp[ev_c,ev_put,t10]<;>rfl),(by simp[ev_c,ev_put,t46]<;>rfl),(by simp[ev_c,ev_put,t47]<;>rfl),(by simp[ev_c,ev_put]<;>rfl)⟩
 ·rintro s ⟨tm,hq,T1,rfl,sq,spq,hT1,kq,t5,t6,t8,t9,t10,t46,t47,t106⟩
  have t106:(Opd.t 106).ev tm=.int .i64 4:=t106
  simp -implicitDefEqProofs(maxSteps:=999999)(disch:=first|with_reducible rfl|omega|(simp only[nA,nS,nD]<;>omega)|fail)only[go_sem,t106,Int.lt_irrefl]
  exact⟨_,_,_,rfl,sq,spq,⟨hT1.1,by have:=hT1.2;simpa using this⟩,kq,(by simp[ev_c,ev_put,t5]<;>rfl),(by simp[ev_c,ev_put,t6]<;>rfl),(by simp[ev_c,ev_put,t8]<;>rfl),(by simp[ev_c,ev_put,t9]<;>rfl),(by simp[ev_c,ev_put,t10]<;>rfl),(by simp[ev_c,ev_put,t46]<;>rfl),(by simp[ev_c,ev_put,t47]<;>rfl)⟩
end Go.Ab.Tryz
namespace Go.Ab.Tryz
open Go.Proofs
open Go.Ab.Silk (Inc lexlt)
set_option maxRecDepth 4000 in
set_option maxHeartbeats 8000000 in
theorem rise2_ev {h:H}{bT bP bL sp:Nat}{E L P vL ys i46 i47:V}{t:Tb}(hw:h.wf)(g:Good t)(gT:h.cells bT=some [E,L,P])(ht:TbIs h (.agg [E,L,P]) t){c:List Int}(gL:h.cells bL=some [vL])(cv:CutI h vL c)(up:c.Pairwise (· < ·))(rg:∀x∈c,0≤x∧x<(t.pieces.length:Int))(cl:Clq (mT t) c)
  (tm:Go.Ab.T V) (t5:(Opd.t 5).ev tm=.ptr bT 0) (t6:(Opd.t 6).ev tm=ys) (t8:(Opd.t 8).ev tm=.ptr sp 0) (t9:(Opd.t 9).ev tm=.ptr bP 0) (t10:(Opd.t 10).ev tm=.ptr bL 0) (t46:(Opd.t 46).ev tm=i46) (t47:(Opd.t 47).ev tm=i47):
  W fnG fastA 248 6 none (navK [true,true,true,true,true,false,true,true,true,true,true,false,true,true,true,true,false] c6.body) ⟨tm,h,[]⟩ fun x1 s=>x1=.nrm∧∃tm' h',s=⟨tm',h',[]⟩∧h.Sub h'∧(Opd.t 5).ev tm'=.ptr bT 0∧(Opd.t 6).ev tm'=ys∧(Opd.t 8).ev tm'=.ptr sp 0∧(Opd.t 9).ev tm'=.ptr bP 0∧(Opd.t 10).ev tm'=.ptr bL 0∧(Opd.t 46).ev tm'=i46∧(Opd.t 47).ev tm'=i47:=by
 have ht0:=ht
 obtain⟨_,_,_,e0,aE,aL0,aP⟩:=ht
 cases e0
 have hlP:=aP.lenE
 have gp:=g.pieces
 have lc:=cv.2
 have aL:=cv.sl
 have hlL:=aL.lenE
 simp(disch:=first|omega|simp only[nZ]<;>omega|fail)only[navK,c6,go_sem,t10,gL,hlL]
 refine W_count c.length (fun i s=>∃tm hq,s=⟨tm,hq,[]⟩∧h.Sub hq∧(Opd.t 5).ev tm=.ptr bT 0∧(Opd.t 6).ev tm=ys∧(Opd.t 8).ev tm=.ptr sp 0∧(Opd.t 9).ev tm=.ptr bP 0∧(Opd.t 10).ev tm=.ptr bL 0∧(Opd.t 46).ev tm=i46∧(Opd.t 47).ev tm=i47∧(Opd.t 69).ev tm=vL∧(Opd.t 70).ev tm=.int .i64 (c.length:Int)∧(Opd.t 71).ev tm=.int .i64 (i:Int))
  ?_ ?_ (i:=0) (Nat.zero_le _) ⟨_,_,rfl,H.Sub.refl hw,(by simp[t5]),(by simp[t6]),(by simp[t8]),(by simp[t9]),(by simp[t10]),(by simp[t46]),(by simp[t47]),(by simp),(by simp),(by simp only[ev_put];rfl)⟩
 ·clear t5 t6 t8 t9 t10 t46 t47
  rintro i s hi ⟨tm,hq,rfl,sq,t5,t6,t8,t9,t10,t46,t47,t69,t70,t71⟩
  have hi':(i:Int)<(c.length:Int):=by omega
  have v1:wr .i64 ((i:Int)+1)=((i+1:Nat):Int):=wr_succ (by omega)
  obtain⟨b1,o1,cs1,f1,f2,f3⟩:∃b o cs,q_iad 1 vL (.int .i64 (i:Int))=some (.ptr b o)∧hq.cells b=some cs∧nth o cs=some (.int .i64 c[i]):=by
   obtain⟨b,o,k,cs,e1,e2,e3,_,_,e4⟩:=(aL.mono sq).at hi
   have e5:=e4 (by omega)
   exact⟨b,o+i*1,cs,e3 (nat_cst i),e2,by rw[e5];rfl⟩
  have sB:=(H.Sub.refl sq.wf).add (.cells .rw [.int .i64 c[i]])
  have g9:(hq.add (.cells .rw [.int .i64 c[i]])).cells hq.next=some [.int .i64 c[i]]:=cells_add_new rfl
  have g2B:=sB.cells (sq.cells gT)
  have gLB:=sB.cells (sq.cells gL)
  have hr:=rg _ (List.getElem_mem hi)
  have r0:¬c[i]<0:=by omega
  have r1:¬(t.pieces.length:Int)≤c[i]:=by omega
  have hin:∀a∈c.take i,0≤a∧a<(t.pieces.length:Int):=fun a ha=>rg a (List.mem_of_mem_take ha)
  have hno:((c.take i).any fun q=> !mT t c[i] q)=false:=List.any_eq_false.2 fun q hq h=>by
   obtain⟨j,hj,rfl⟩:=List.mem_take_iff_getElem.1 hq
   have hji:j<i:=by omega
   have:=List.pairwise_iff_getElem.1 up j i (by omega) hi hji
   rw[cl _ (List.getElem_mem hi) _ (List.getElem_mem _) (by omega)] at h
   cases h
  simp(disch:=first|omega|simp only[nZ]<;>omega|fail)only[go_sem,t5,t6,t8,t9,t10,t46,t47,t69,t70,t71,hi',f1,f2,f3]
  cases i with
  |zero=>
    have z1:¬(0:Int)<((0:Nat):Int):=by omega
    have f2B:=sB.cells f2
    obtain⟨zs,hzs,czs,_⟩:=((cv.1.mono sq).mono sB).to (k:=0) (by omega) (by simp only[List.length_map];omega) (by simp only[List.length_map];omega)
    rw[←List.map_take] at czs
    simp(disch:=first|omega|simp only[nZ]<;>omega|fail)only[go_sem,t5,t6,t8,t9,t10,t46,t47,t69,t70,t71,g9,g2B,hlP,gLB,r0,r1,evQ_slc,q_slc_to,hzs,z1]
    refine(containsFuncInt_ev (p:=fun q=> !mT t c[0] q) sB.wf (czs.sl (by simp only[List.length_map,List.length_take];omega)) fun a ha=>es2_ok g g2B (ht0.mono (sq.trans sB)) g9 (rg _ (List.getElem_mem hi)) (hin a ha)).mono fun u hD hu=>?_
    obtain⟨rfl,sD⟩:=hu
    rw[hno]
    simp(disch:=first|omega|simp only[nZ]<;>omega|fail)only[go_sem,t5,t6,t8,t9,t10,t46,t47,t69,t70,t71,v1,g9,sD.cells g9,g2B,sD.cells g2B,gLB,sD.cells gLB,hlP,r0,r1,evQ_slc,q_slc_to,hzs,z1]
    exact⟨_,_,rfl,sq.trans (sB.trans sD),(by simp[t5]),(by simp[t6]),(by simp[t8]),(by simp[t9]),(by simp[t10]),(by simp[t46]),(by simp[t47]),(by simp[t69]),(by simp[t70]),(by simp)⟩
  |succ j=>
    have z1:(0:Int)<((j+1:Nat):Int):=by omega
    have z4:((j+1:Nat):Int)-1=(j:Int):=by omega
    obtain⟨b3,o3,cs3,u1,u2,u3⟩:∃b o cs,q_iad 1 vL (.int .i64 (j:Int))=some (.ptr b o)∧(hq.add (.cells .rw [.int .i64 c[j+1]])).cells b=some cs∧nth o cs=some (.int .i64 c[j]):=by
     obtain⟨b,o,k,cs,e1,e2,e3,_,_,e4⟩:=((aL.mono sq).mono sB).at (show j<c.length by omega)
     have e5:=e4 (by omega)
     exact⟨b,o+j*1,cs,e3 (nat_cst j),e2,by rw[e5];rfl⟩
    have hle:¬c[j+1]≤c[j]:=by have:=List.pairwise_iff_getElem.1 up j (j+1) (by omega) hi (by omega);omega
    have f2B:=sB.cells f2
    obtain⟨zs,hzs,czs,_⟩:=((cv.1.mono sq).mono sB).to (k:=j+1) (by omega) (by simp only[List.length_map];omega) (by simp only[List.length_map];omega)
    rw[←List.map_take] at czs
    simp(disch:=first|omega|simp only[nZ]<;>omega|fail)only[go_sem,t5,t6,t8,t9,t10,t46,t47,t69,t70,t71,g9,g2B,hlP,gLB,r0,r1,evQ_slc,q_slc_to,hzs,z1,z4,wr_in,u1,u2,u3,hle]
    refine(containsFuncInt_ev (p:=fun q=> !mT t c[j+1] q) sB.wf (czs.sl (by simp only[List.length_map,List.length_take];omega)) fun a ha=>es2_ok g g2B (ht0.mono (sq.trans sB)) g9 (rg _ (List.getElem_mem hi)) (hin a ha)).mono fun u hD hu=>?_
    obtain⟨rfl,sD⟩:=hu
    rw[hno]
    simp(disch:=first|omega|simp only[nZ]<;>omega|fail)only[go_sem,t5,t6,t8,t9,t10,t46,t47,t69,t70,t71,v1,g9,sD.cells g9,g2B,sD.cells g2B,gLB,sD.cells gLB,hlP,r0,r1,evQ_slc,q_slc_to,hzs,z1,z4,wr_in,u1,u2,sD.cells u2,u3,hle]
    exact⟨_,_,rfl,sq.trans (sB.trans sD),(by simp[t5]),(by simp[t6]),(by simp[t8]),(by simp[t9]),(by simp[t10]),(by simp[t46]),(by simp[t47]),(by simp[t69]),(by simp[t70]),(by simp)⟩
 ·rintro s ⟨tm,hq,rfl,sq,t5,t6,t8,t9,t10,t46,t47,t69,t70,t71⟩
  simp(disch:=first|omega|simp only[nZ]<;>omega|fail)only[go_sem,t70,t71,Int.lt_irrefl]
  exact⟨_,_,rfl,sq,(by simp[t5]),(by simp[t6]),(by simp[t8]),(by simp[t9]),(by simp[t10]),(by simp[t46]),(by simp[t47])⟩
end Go.Ab.Tryz
namespace Go.Ab.Tryz
open Go.Proofs
theorem flat_ge:∀{S:List (List Int)},(∀l∈S,l≠[])→S.length≤S.flatten.length
 |[],_=>Nat.le_refl _
 |l::S,h=>by
  have h1:=flat_ge (S:=S) fun k hk=>h k (by simp[hk])
  have h2:=List.length_pos_iff.2 (h l (by simp))
  simp only[List.flatten_cons,List.length_append,List.length_cons];omega
theorem flat_row:∀{S:List (List Int)} {l:List Int},l∈S→l.length≤S.flatten.length
 |[],_,h=>by cases h
 |k::S,l,h=>by
  simp only[List.flatten_cons,List.length_append]
  rcases List.mem_cons.1 h with rfl|h
  ·omega
  ·have:=flat_row h;omega
theorem FitS.len {T:Int→Int→Bool}{o:List Int}{S:List (List Int)}(a:FitS T o S):S.length≤o.length∧(∀l∈S,l.length≤o.length)∧∀l∈S,∀x∈l,x∈o:=by
 have e:=a.all.length_eq
 refine⟨by have:=flat_ge a.ne;omega,fun l hl=>by have:=flat_row hl;omega,fun l hl x hx=>a.all.mem_iff.1 (List.mem_flatten.2 ⟨l,hl,hx⟩)⟩
theorem tab_perm {f:Int→Int}{n:Nat}(pm:PermI f n):((List.range n).map fun(i:Nat)=>f (i:Int)).Perm (upto n):=by
 have nd:((List.range n).map fun(i:Nat)=>f (i:Int)).Nodup:=by
  rw[List.nodup_iff_pairwise_ne,List.pairwise_map]
  refine(List.nodup_iff_pairwise_ne.1 List.nodup_range).imp_of_mem fun{a b} ha hb ne e=>?_
  have ha:=List.mem_range.1 ha
  have hb:=List.mem_range.1 hb
  have:=pm.2 (a:Int) (b:Int) (by omega) (by omega) (by omega) (by omega) e
  omega
 refine(perm_of_sub _ _ nd (fun x hx=>?_) (by simp[upto])).symm
 obtain⟨i,hi,rfl⟩:=List.mem_map.1 hx
 have hi:=List.mem_range.1 hi
 exact mem_upto.2 (pm.1 _ (by omega) (by omega))
set_option maxRecDepth 4000 in
set_option maxHeartbeats 8000000 in
theorem place_ev {h0 h:H}(hw0:h0.wf){bT sp:Nat}{E L P xs ys i157:V}{t:Tb}(g:Good t)(gT:h0.cells bT=some [E,L,P])(ht:TbIs h0 (.agg [E,L,P]) t){bs:List Int}(hx:SlAt h0 xs 1 (bs.map encU8))(hs:h0.Sub h)(hp0:h0.next≤sp){T:Int}(hp:SpAt h sp xs T)(hT:0≤T∧T≤900000)
  (tm:Go.Ab.T V) (t5:(Opd.t 5).ev tm=.ptr bT 0) (t6:(Opd.t 6).ev tm=ys) (t8:(Opd.t 8).ev tm=.ptr sp 0) (t17:(Opd.t 17).ev tm=.nils) (t157:(Opd.t 157).ev tm=i157):
  W fnG fastA 248 6 none (navK [true,true,true,true,true,true,false,true,true,true,true,true,false,true,true,false] c6.body) ⟨tm,h,[]⟩ fun x1 s=>x1=.nrm∧∃tm' h' T' x S,s=⟨tm',h',[]⟩∧h0.Sub h'∧SpAt h' sp xs T'∧(0≤T'∧T'≤T+(t.pieces.length:Int))∧LsCut (fun c=>h.next≤c) h' x (eS S)∧(∃O,O.Perm (upto t.pieces.length)∧FitS (mT t) O S)∧
   (Opd.t 5).ev tm'=.ptr bT 0∧(Opd.t 6).ev tm'=ys∧(Opd.t 8).ev tm'=.ptr sp 0∧(Opd.t 17).ev tm'=x∧(Opd.t 157).ev tm'=i157:=by
 have hw:=hs.wf
 have gp:=g.pieces
 have ht0:=ht
 obtain⟨_,_,_,e0,aE,aL0,aP⟩:=ht
 cases e0
 have hlP:=aP.lenE
 simp(disch:=first|omega|simp only[nZ]<;>omega|fail)only[navK,c6,go_sem,t5,t8,hs.cells gT,hlP]
 refine Order_ev hs hw0 hx hp0 hp (by omega) (by omega) _ fun f b h1 T1 pm hT1 s1 sp1 k1 lb g1=>?_
 obtain⟨n,hn⟩:∃n,t.pieces.length=n:=⟨_,rfl⟩
 rw[hn] at pm hT1 g1 gp
 simp only[hn] at hlP⊢
 have w1:=s1.wf
 obtain⟨O,hO⟩:∃O,(List.range n).map (fun(i:Nat)=>f (i:Int))=O:=⟨_,rfl⟩
 have pO:O.Perm (upto n):=by rw[←hO];exact tab_perm pm
 have lO:O.length=n:=by rw[←hO];simp
 have eO:tab f n=O.map (V.int .i64):=by rw[←hO,List.map_map];rfl
 have mO:∀a∈O,0≤a∧a<(n:Int):=fun a ha=>mem_upto.1 (pO.mem_iff.1 ha)
 have aO:∀hq:H,hq.get b=some (.cells .rw (tab f n))→SlAt hq (.sl b 0 n (.fix n)) 1 (O.map encI):=fun hq e=>by
  rw[eO] at e
  have:=getNI O []
  rw[List.append_nil] at this
  refine⟨fun r hr=>?_,by rw[List.length_map,lO];omega,.inr ⟨b,0,.fix n,_,by rw[List.length_map,lO],.inr (cells_of e),by rw[List.length_map,Nat.mul_one,flatI];exact this⟩⟩
  obtain⟨i,_,rfl⟩:=List.mem_map.1 hr
  rfl
 have gl1:q_len (.sl b 0 n (.fix n))=some (.int .i64 (n:Int)):=by have:=(aO _ g1).lenE;rw[lO] at this;exact this
 have sy:=mT_comm g
 obtain⟨F,eF⟩:∃F:Nat→Prop,F=fun c=>h1.next≤c:=⟨_,rfl⟩
 have low:∀{hq:H},Keeps F h1 hq→Keeps (fun _=>False) h1 hq:=fun k=>(k.mono fun c hc=>by subst eF;exact .inr hc).low w1 (Nat.le_refl _)
 have sub:∀{hq:H},Keeps (fun _=>False) h1 hq→hq.wf→h0.Sub hq:=fun k w=>k.sub s1 hw0 (fun _ h=>h.elim) w
 simp(disch:=first|omega|simp only[nZ]<;>omega|fail)only[go_sem,gl1]
 refine W_count n (fun i s=>∃tm hq x,s=⟨tm,hq,[]⟩∧hq.wf∧Keeps (fun _=>False) h1 hq∧LsCut F hq x (eS ((O.take i).foldl (fitS (mT t)) []))∧
   (Opd.t 5).ev tm=.ptr bT 0∧(Opd.t 6).ev tm=ys∧(Opd.t 8).ev tm=.ptr sp 0∧(Opd.t 17).ev tm=x∧(Opd.t 157).ev tm=i157∧(Opd.t 163).ev tm=.sl b 0 n (.fix n)∧(Opd.t 164).ev tm=.int .i64 (n:Int)∧(Opd.t 165).ev tm=.int .i64 (i:Int))
  ?_ ?_ (i:=0) (Nat.zero_le _) ⟨_,_,_,rfl,w1,Keeps.refl _ _,LsCut.nil F h1,(by simp[t5]),(by simp[t6]),(by simp[t8]),(by simp[t17]),(by simp[t157]),(by simp),(by simp),(by simp only[ev_put];rfl)⟩
 ·clear t5 t6 t8 t17 t157
  rintro i s hi ⟨tm,hq,x,rfl,wq,kq,lx,t5,t6,t8,t17,t157,t163,t164,t165⟩
  have hi':(i:Int)<(n:Int):=by omega
  have hiO:i<O.length:=by omega
  have ho:=mO _ (List.getElem_mem hiO)
  have hex:(O.take (i+1)).foldl (fitS (mT t)) []=fitS (mT t) ((O.take i).foldl (fitS (mT t)) []) O[i]:=by
   rw[List.take_succ_eq_append_getElem hiO,List.foldl_append];rfl
  obtain⟨S,hS⟩:∃S,(O.take i).foldl (fitS (mT t)) []=S:=⟨_,rfl⟩
  have ft:FitS (mT t) (O.take i) S:=by
   have:=FitS.fold sy (O.take i) (FitS.nil (mT t))
   rw[List.nil_append,hS] at this;exact this
  rw[hS] at lx hex
  obtain⟨lS,lR,lM⟩:=ft.len
  rw[List.length_take] at lS lR
  have gq:=kq.2 _ _ g1 id
  obtain⟨b',o',c',cs,e,hc,hq',hg,hn1,hn0⟩:=(aO _ gq).at hiO
  cases e
  have v1:wr .i64 ((i:Int)+1)=((i+1:Nat):Int):=wr_succ (by omega)
  have hv:nth (i*1) cs=some (.int .i64 O[i]):=by
   have:=hn0 (by simp[encI])
   simpa[encI] using this
  simp(disch:=first|omega|simp only[nZ]<;>omega|fail)only[go_sem,t5,t17,t163,t164,t165,hi',hq' (nat_cst i),hc,hv]
  have s0:=sub kq wq
  have sB:hq.Sub (hq.add (.cells .rw [.int .i64 O[i]])):=(H.Sub.refl wq).add _
  have g19:(hq.add (.cells .rw [.int .i64 O[i]])).cells hq.next=some [.int .i64 O[i]]:=cells_add_new rfl
  have nB:(hq.add (.cells .rw [.int .i64 O[i]])).next=hq.next+1:=H.next_add _ _
  have gTB:=sB.cells (s0.cells gT)
  refine((LsCut.rd (lx.mono sB) (by omega)).idx sB.wf (p:=fun l=>l.all fun r=>mT t O[i] r) fun v l F' hl cv=>es4_ok sB.wf g gTB (ht0.mono (s0.trans sB)) g19 (by rw[hn];exact ho) (cv.sl (by rw[List.length_map];have:=lR l hl;omega)) fun r hr=>by rw[hn];exact mO _ (List.mem_of_mem_take (lM l hl r hr))).mono fun u h2 hu=>?_
  obtain⟨rfl,s2⟩:=hu
  have sB2:=sB.trans s2
  have g192:=s2.cells g19
  have n2:=s2.next
  have n1:=kq.1
  cases hf:S.findIdx? fun l=>l.all fun r=>mT t O[i] r with
  |none=>
   rw[fidx_none hf]
   have hneg:(-1:Int)<0:=by decide
   have eS2:fitS (mT t) S O[i]=S++[[O[i]]]:=by unfold fitS;rw[hf]
   simp(disch:=first|omega|simp only[nZ]<;>omega|fail)only[go_sem,t17,t165,g192,hneg]
   have sA:=(H.Sub.refl s2.wf).add (.cells .rw [.int .i64 O[i]])
   have sD:=sA.add (.cells .rw [.sl h2.next 0 1 (.fix 1)])
   have nA:(h2.add (.cells .rw [.int .i64 O[i]])).next=h2.next+1:=H.next_add _ _
   have Fa:∀c,h2.next≤c→F c:=fun c hc=>by rw[eF];exact Nat.le_trans (by omega) hc
   have ov:CutO F ((h2.add (.cells .rw [.int .i64 O[i]])).add (.cells .rw [.sl h2.next 0 1 (.fix 1)])) (.sl h2.next 0 1 (.fix 1)) 1 [encI O[i]]:=
    ⟨by simp[encI],.inr (.inr ⟨h2.next,1,[],rfl,Fa _ (Nat.le_refl _),by rw[H.next_add,H.next_add];omega,by rw[get_add_old (by omega),get_add_new rfl];rfl,by simp,by simp⟩)⟩
   have hy:SlAt ((h2.add (.cells .rw [.int .i64 O[i]])).add (.cells .rw [.sl h2.next 0 1 (.fix 1)])) (.sl (h2.next+1) 0 1 (.fix 1)) 1 [[.sl h2.next 0 1 (.fix 1)]]:=SlAt.new _ nA.symm rfl rfl (by simp) (by simp)
   refine(lx.mono sB2).push sD (Fa _ (by rw[H.next_add,H.next_add];omega)) (by simp;omega) ov (fun b ⟨_,_,_,e⟩=>by cases e;exact Nat.le_refl _) hy fun x2 h8 l8 k8 nb8 w8=>?_
   have bxF:∀c,blkOf x c→F c:=fun c hc=>by
    obtain⟨xs,a1,_⟩:=lx
    exact(a1.blk hc).1
   have el8:eS S++[[encI O[i]]]=eS (S++[[O[i]]]):=by simp[eS]
   rw[el8] at l8
   have k18:Keeps F h1 h8:=((kq.trans (Keeps.of (sB2.trans sD) fun _=>False)).trans k8).mono fun c h=>by
    rcases h with(h|h)|h
    ·exact h.elim
    ·exact h.elim
    ·exact bxF c h
   simp(disch:=first|omega|simp only[nZ]<;>omega|fail)only[go_sem,t165,v1]
   exact⟨_,_,x2,rfl,w8,low k18,by rw[hex,eS2];exact l8,(by simp[t5]),(by simp[t6]),(by simp[t8]),(by simp),(by simp[t157]),(by simp[t163]),(by simp[t164]),(by simp)⟩
  |some k=>
   obtain⟨hk,hall, -⟩:=List.findIdx?_eq_some_iff_getElem.1 hf
   have hkl:=lR _ (List.getElem_mem hk)
   rw[fidx_some hf,Nat.zero_add]
   have hneg:¬(k:Int)<0:=by omega
   have egd:S.getD k []=S[k]:=by rw[List.getD_eq_getElem?_getD,List.getElem?_eq_getElem hk];rfl
   have eS2:fitS (mT t) S O[i]=S.set k (S[k]++[O[i]]):=by unfold fitS;rw[hf];simp only[egd]
   have lx2:=lx.mono sB2
   have hke:k<(eS S).length:=by simp;exact hk
   obtain⟨b3,o3,kd,cs3,v,e1,e2,e3,e4,cv,bx,nbv,Fb,upd⟩:=lx2.at (by simp;omega) hke
   have eSi:(eS S)[k]=S[k].map encI:=by simp[eS]
   rw[eSi] at cv
   have s7:=(H.Sub.refl s2.wf).add (.cells .rw [.int .i64 O[i]])
   have own1:SlAt (h2.add (.cells .rw [.int .i64 O[i]])) (.sl h2.next 0 1 (.fix 1)) 1 [encI O[i]]:=own1_lit
   have n7:(h2.add (.cells .rw [.int .i64 O[i]])).next=h2.next+1:=H.next_add _ _
   simp(disch:=first|omega|simp only[nZ]<;>omega|fail)only[go_sem,t17,t165,g192,hneg,e1,cells_of e2,e4]
   refine(cv.mono s7).app1 (by_:=8) (r:=encI O[i]) s7.wf (by rw[eF];show h1.next≤_;omega) rfl (by omega) own1 rfl (by simp only[List.length_map];omega) (by simp only[List.length_map];omega) fun v' h8 cv8 nb8 k8 w8=>?_
   have kv8:Keeps (blkOf v) h2 h8:=((Keeps.of s7 (blkOf v)).trans k8).mono fun c h=>by rcases h with h|h<;>exact h
   have ea:S[k].map encI++[encI O[i]]=(S[k]++[O[i]]).map encI:=by simp
   rw[ea] at cv8
   obtain⟨cs',put8,l8⟩:=upd v' _ h8 kv8 cv8 fun c hc=>(nb8 c hc).imp id fun h=>by omega
   rw[eS_set] at l8
   have e28:=kv8.2 _ _ e2 nbv
   have hpc:putC (some (.cells kd cs3)) h8 b3 o3 [v']=some (h8.set b3 (.cells kd cs')):=by rcases e3 with rfl|rfl<;>simp only[putC_rw,putC_gr,put8,setO_some]
   have ov8:=cv8.one
   have bF:∀c,blkOf v c→F c:=fun c hc=>(cv.blk hc).1
   have gb2:=hq.next
   have n19:¬blkOf v hq.next:=fun hb=>by
    have h3:=bF _ hb
    obtain⟨_,hl,kk,cc,hg3,_⟩:=cv.blk hb
    obtain⟨xs3,a1,a2,a3,_⟩:=lx
    have hk2:k<xs3.length:=by rw[a2];simp;exact hk
    obtain⟨b5,o5,c5,cs5,f1,f2,f3,_,_,f4⟩:=(a1.sl (by simp only[List.length_map,a2];omega)).at hk2
    have f5:=f4 (by omega)
    have f6:cs5=cs3∧o5+k*1=o3:=by
     rw[f3 (nat_cst k)] at e1;cases e1
     have:=sB2.cells f2
     rw[cells_of e2] at this;cases this
     exact⟨rfl,rfl⟩
    obtain⟨rfl,rfl⟩:=f6
    rw[f5] at e4;cases e4
    have:=((a3 k hk2 hke).1.blk hb).2.1
    omega
   have g198:=kv8.cells g192 n19
   have kS:Keeps F h1 (h8.set b3 (.cells kd cs')):=(((kq.trans (Keeps.of sB2 fun _=>False)).trans kv8).trans (Keeps.set h8 b3 (.cells kd cs'))).mono fun c h=>by
    rcases h with((h|h)|h)|h
    ·exact h.elim
    ·exact h.elim
    ·exact bF c h
    ·rw[h];exact Fb
   have wS:=H.wf_set w8 (.cells kd cs') e28
   simp(disch:=first|omega|simp only[nZ]<;>omega|fail)only[go_sem,t17,t165,v1,g192,g198,e28,hpc,ov8,cells_one ov8,cells_of e28,e1,e4,cells_of e2,s7.cells (cells_of e2),s7.cells g192]
   exact⟨_,_,x,rfl,wS,low kS,by rw[hex,eS2];exact l8,(by simp[t5]),(by simp[t6]),(by simp[t8]),(by simp[t17]),(by simp[t157]),(by simp[t163]),(by simp[t164]),(by simp)⟩
 ·clear t5 t6 t8 t17 t157
  rintro s ⟨tm,hq,x,rfl,wq,kq,lx,t5,t6,t8,t17,t157,t163,t164,t165⟩
  have ft:FitS (mT t) O (O.foldl (fitS (mT t)) []):=by
   have:=FitS.fold sy O (FitS.nil (mT t))
   rw[List.nil_append] at this;exact this
  rw[show O.take n=O by rw[←lO,List.take_length]] at lx
  have n1:=s1.next
  have n2:=k1.1
  simp(disch:=first|omega|simp only[nZ]<;>omega|fail)only[go_sem,t164,t165,Int.lt_irrefl]
  exact⟨_,_,T1,x,_,rfl,sub kq wq,sp1.keep kq id,hT1,lx.up fun c hc _=>by rw[eF] at hc;exact Nat.le_trans n2 hc,⟨O,pO,ft⟩,(by simp[t5]),(by simp[t6]),(by simp[t8]),(by simp[t17]),(by simp[t157])⟩
end Go.Ab.Tryz
namespace Go.Ab.Tryz
theorem row_iff {t:Tb}(g:Good t){seen l:List Int}:(List.range l.length).all (rowOk t seen l)=true↔OkP t l∧∀x∈l,x ∉seen:=by
 rw[List.all_eq_true]
 constructor
 ·intro h
  have hr:∀i (hi:i<l.length),(0≤l[i]∧l[i]<(t.pieces.length:Int))∧(i=0∨l.getD (i-1) 0<l[i])∧l[i] ∉seen∧∀q∈l.take i,mT t l[i] q=true:=fun i hi=>by
   have:=h i (List.mem_range.2 hi)
   unfold rowOk at this
   rw[List.getElem?_eq_getElem hi] at this
   simp only[Bool.and_eq_true,Bool.or_eq_true,decide_eq_true_eq,Bool.not_eq_true',List.all_eq_true] at this
   obtain⟨⟨h1,h2⟩,h3,h4⟩:=this
   refine⟨h1,h2,fun hm=>?_,h4⟩
   rw[List.any_eq_true.2 ⟨l[i],hm,decide_eq_true rfl⟩] at h3;cases h3
  have st:∀i (hi:i+1<l.length),l[i]<l[i+1]:=fun i hi=>by
   rcases(hr (i+1) hi).2.1 with h|h
   ·omega
   ·have e:l.getD (i+1-1) 0=l[i]:=by rw[List.getD_eq_getElem?_getD,Nat.add_sub_cancel,List.getElem?_eq_getElem (by omega)];rfl
    rwa[e] at h
  have mono:∀k i (hi:i+k+1<l.length),l[i]<l[i+k+1]:=by
   intro k
   induction k with
   |zero=>intro i hi;exact st i hi
   |succ k ih=>intro i hi;exact Int.lt_trans (ih i (by omega)) (st (i+k+1) hi)
  refine⟨⟨List.pairwise_iff_getElem.2 fun i j hi hj hij=>?_,fun x hx=>?_,List.pairwise_iff_getElem.2 fun i j hi hj hij=>?_⟩,fun x hx=>?_⟩
  ·obtain⟨k,rfl⟩:∃k,j=i+k+1:=⟨j-i-1,by omega⟩
   exact mono k i hj
  ·obtain⟨i,hi,rfl⟩:=List.getElem_of_mem hx
   exact(hr i hi).1
  ·rw[mT_comm g]
   exact(hr j hj).2.2.2 _ (List.mem_take_iff_getElem.2 ⟨i,by omega,rfl⟩)
  ·obtain⟨i,hi,rfl⟩:=List.getElem_of_mem hx
   exact(hr i hi).2.2.1
 ·rintro⟨o,hs⟩ i hi
  have hi:=List.mem_range.1 hi
  unfold rowOk
  rw[List.getElem?_eq_getElem hi]
  simp only[Bool.and_eq_true,Bool.or_eq_true,decide_eq_true_eq,Bool.not_eq_true',List.all_eq_true]
  refine⟨⟨o.pc _ (List.getElem_mem hi),?_⟩,?_,?_⟩
  ·rcases Nat.eq_zero_or_pos i with h|h
   ·exact .inl h
   ·right
    rw[List.getD_eq_getElem?_getD,List.getElem?_eq_getElem (by omega:i-1<l.length)]
    exact List.pairwise_iff_getElem.1 o.up (i-1) i (by omega) hi (by omega)
  ·exact List.any_eq_false.2 fun r hr e=>hs _ (List.getElem_mem hi) (by rw[of_decide_eq_true e];exact hr)
  ·intro q hq
   obtain⟨j,hj,rfl⟩:=List.mem_take_iff_getElem.1 hq
   rw[mT_comm g]
   exact List.pairwise_iff_getElem.1 o.go j i (by omega) hi (by omega)
theorem lsR_iff {t:Tb}(g:Good t):∀(S:List (List Int)) (seen:List Int),lsR t seen S=true↔(∀l∈S,l≠[]∧OkP t l)∧(S.flatten.Nodup∧∀x∈S.flatten,x ∉seen)∧seen.length+S.flatten.length=t.pieces.length
 |[],seen=>by
  unfold lsR
  rw[decide_eq_true_eq]
  constructor
  ·intro h
   exact⟨(fun l hl=>by cases hl),⟨List.Pairwise.nil,fun x hx=>by cases hx⟩,by simp only[List.flatten_nil,List.length_nil];omega⟩
  ·rintro⟨-, -,h⟩
   simp only[List.flatten_nil,List.length_nil] at h
   omega
 |l::S,seen=>by
  unfold lsR
  rw[Bool.and_eq_true,Bool.and_eq_true,row_iff g,lsR_iff g S (seen++l),Bool.not_eq_true',List.isEmpty_eq_false_iff]
  simp only[List.flatten_cons,List.length_append]
  constructor
  ·rintro⟨⟨⟨o,h1⟩,h2⟩,h3,⟨h4,h5⟩,h6⟩
   refine⟨fun k hk=>?_,⟨List.nodup_append.2 ⟨o.up.imp fun h=>by omega,h4,fun a ha b hb e=>h5 b hb (List.mem_append_right _ (e▸ha))⟩,fun x hx=>?_⟩,by omega⟩
   ·rcases List.mem_cons.1 hk with rfl|hk
    ·exact⟨h2,o⟩
    ·exact h3 k hk
   ·rcases List.mem_append.1 hx with hx|hx
    ·exact h1 x hx
    ·exact fun hm=>h5 x hx (List.mem_append_left _ hm)
  ·rintro⟨h1,⟨h2,h3⟩,h4⟩
   obtain⟨n1,n2,n3⟩:=List.nodup_append.1 h2
   have hl:=h1 l (by simp)
   refine⟨⟨⟨hl.2,fun x hx=>h3 x (List.mem_append_left _ hx)⟩,hl.1⟩,fun k hk=>h1 k (by simp[hk]),⟨n2,fun x hx hm=>?_⟩,by omega⟩
   rcases List.mem_append.1 hm with hm|hm
   ·exact h3 x (List.mem_append_right _ hx) hm
   ·exact n3 x hm x hx rfl
theorem lsR_srt {t:Tb}(g:Good t)(S:List (List Int)):lsR t [] S=srtB t S:=by
 have h:=lsR_iff g S []
 by_cases k:SrtP t S
 ·rw[srtB_true k]
  exact h.2 ⟨fun l hl=>⟨k.ne l hl,k.ok l hl⟩,⟨k.nd,fun x _ hx=>by cases hx⟩,by simpa using k.len⟩
 ·rw[srtB_false k]
  cases e:lsR t [] S with
  |false=>rfl
  |true=>
   obtain⟨h1,h2,h3⟩:=h.1 e
   exact absurd ⟨fun l hl=>(h1 l hl).1,fun l hl=>(h1 l hl).2,h2.1,by simpa using h3⟩ k
end Go.Ab.Tryz
namespace Go.Ab.Tryz
open Go.Proofs
theorem srt_set {S:List (List Int)}{i:Nat}(hi:i<S.length):((S.take i).map sortI++S.drop i).set i (sortI S[i])=(S.take (i+1)).map sortI++S.drop (i+1):=by
 have e:((S.take i).map sortI).length=i:=by simp;omega
 rw[List.drop_eq_getElem_cons hi,List.set_append_right _ _ (by omega),e,Nat.sub_self,List.set_cons_zero,List.take_succ_eq_append_getElem hi,List.map_append,List.append_assoc]
 rfl
set_option maxRecDepth 4000 in
set_option maxHeartbeats 8000000 in
theorem sorts_ev {F:Nat→Prop}{h:H}(hw:h.wf){x v5 v6 v8 v157:V}{S:List (List Int)}(lx:LsCut F h x (eS S))(hl:S.length≤20)(hll:∀l∈S,l.length≤20)(hne:∀l∈S,l≠[])
  (tm:Go.Ab.T V) (t5:(Opd.t 5).ev tm=v5) (t6:(Opd.t 6).ev tm=v6) (t8:(Opd.t 8).ev tm=v8) (t17:(Opd.t 17).ev tm=x) (t157:(Opd.t 157).ev tm=v157):
  W fnG fastA 248 6 none (navK [true,true,true,true,true,true,false,true,true,true,true,true,false,true,true,true,false] c6.body) ⟨tm,h,[]⟩ fun x1 s=>x1=.nrm∧∃tm' h',s=⟨tm',h',[]⟩∧h'.wf∧Keeps F h h'∧LsCut F h' x (eS (S.map sortI))∧
   (Opd.t 5).ev tm'=v5∧(Opd.t 6).ev tm'=v6∧(Opd.t 8).ev tm'=v8∧(Opd.t 17).ev tm'=x∧(Opd.t 157).ev tm'=v157:=by
 have hlen:=lx.len (by simp;omega)
 rw[List.length_map] at hlen
 simp(disch:=first|omega|simp only[nZ]<;>omega|fail)only[navK,c6,go_sem,t17,hlen]
 refine W_count S.length (fun i s=>∃tm hq,s=⟨tm,hq,[]⟩∧hq.wf∧Keeps F h hq∧LsCut F hq x (eS ((S.take i).map sortI++S.drop i))∧
   (Opd.t 5).ev tm=v5∧(Opd.t 6).ev tm=v6∧(Opd.t 8).ev tm=v8∧(Opd.t 17).ev tm=x∧(Opd.t 157).ev tm=v157∧(Opd.t 190).ev tm=x∧(Opd.t 191).ev tm=.int .i64 (S.length:Int)∧(Opd.t 192).ev tm=.int .i64 (i:Int))
  ?_ ?_ (i:=0) (Nat.zero_le _) ⟨_,_,rfl,hw,Keeps.refl _ _,lx,(by simp[t5]),(by simp[t6]),(by simp[t8]),(by simp[t17]),(by simp[t157]),(by simp),(by simp),(by simp only[ev_put];rfl)⟩
 ·clear t5 t6 t8 t17 t157
  rintro i s hi ⟨tm,hq,rfl,wq,kq,lx,t5,t6,t8,t17,t157,t190,t191,t192⟩
  have hi':(i:Int)<(S.length:Int):=by omega
  have v1:wr .i64 ((i:Int)+1)=((i+1:Nat):Int):=wr_succ (by omega)
  have hli:i<(eS ((S.take i).map sortI++S.drop i)).length:=by simp;omega
  obtain⟨b,o,cs,v,e1,e2,e3,cv,nv,upd⟩:=lx.inrow (by simp;omega) hli
  have es:(eS ((S.take i).map sortI++S.drop i))[i]=S[i].map encI:=by
   have e:((S.take i).map sortI).length=i:=by simp;omega
   rw[List.getElem_map,List.getElem_append_right (by omega)]
   simp only[e,Nat.sub_self,List.getElem_drop,Nat.add_zero]
  rw[es] at cv
  have hm:=List.getElem_mem hi
  have:=hll _ hm
  simp(disch:=first|omega|simp only[nZ]<;>omega|fail)only[go_sem,t190,t191,t192,hi',e1,e2,e3]
  refine sortCut_ev wq cv (hne _ hm) (by omega) _ fun h2 c2 k2 w2=>?_
  have l2:=upd (fun _=>False) _ h2 (k2.mono fun c hc=>.inr hc) (fun _ _ h=>h) c2
  rw[eS_set,srt_set hi] at l2
  simp(disch:=first|omega|simp only[nZ]<;>omega|fail)only[go_sem,t190,t191,t192,v1]
  exact⟨_,_,rfl,w2,(kq.trans k2).mono fun c hc=>hc.elim id fun hb=>(cv.blk hb).1,l2,(by simp[t5]),(by simp[t6]),(by simp[t8]),(by simp[t17]),(by simp[t157]),(by simp[t190]),(by simp[t191]),(by simp)⟩
 ·clear t5 t6 t8 t17 t157
  rintro s ⟨tm,hq,rfl,wq,kq,lx,t5,t6,t8,t17,t157,t190,t191,t192⟩
  rw[List.take_length,List.drop_length,List.append_nil] at lx
  simp(disch:=first|omega|simp only[nZ]<;>omega|fail)only[go_sem,t191,t192,Int.lt_irrefl]
  exact⟨_,_,rfl,wq,kq,lx,(by simp[t5]),(by simp[t6]),(by simp[t8]),(by simp[t17]),(by simp[t157])⟩
set_option maxRecDepth 4000 in
set_option maxHeartbeats 8000000 in
theorem tear_ev {F:Nat→Prop}{h0 h:H}(hw0:h0.wf){bT sp:Nat}{E L P xs v6 x v157:V}{t:Tb}(g:Good t)(gT:h0.cells bT=some [E,L,P])(ht:TbIs h0 (.agg [E,L,P]) t){bs:List Int}(hx:SlAt h0 xs 1 (bs.map encU8))(hs:h0.Sub h)(hp0:h0.next≤sp){T:Int}(hp:SpAt h sp xs T)(hT:0≤T∧T≤900000)(hF:∀c,F c→sp<c)
  {S:List (List Int)} (lx:LsCut F h x (eS S)) (hl:S.length≤20) (hll:∀l∈S,l.length≤20) (hne:∀l∈S,l≠[])
  (tm:Go.Ab.T V) (t5:(Opd.t 5).ev tm=.ptr bT 0) (t6:(Opd.t 6).ev tm=v6) (t8:(Opd.t 8).ev tm=.ptr sp 0) (t17:(Opd.t 17).ev tm=x) (t157:(Opd.t 157).ev tm=v157):
  W fnG fastA 248 6 none (navK [true,true,true,true,true,true,false,true,true,true,true,true,false,true,true,true,true,true,false] c6.body) ⟨tm,h,[]⟩ fun x1 s=>x1=.nrm∧∃tm' h' T' S',s=⟨tm',h',[]⟩∧h0.Sub h'∧SpAt h' sp xs T'∧(0≤T'∧T'≤T+4)∧LsCut F h' x (eS S')∧S'.length≤20∧(∀l∈S',l.length≤20)∧
   (Opd.t 5).ev tm'=.ptr bT 0∧(Opd.t 6).ev tm'=v6∧(Opd.t 8).ev tm'=.ptr sp 0∧(Opd.t 17).ev tm'=x∧(Opd.t 157).ev tm'=v157:=by
 have gp:=g.pieces
 obtain⟨_,_,_,e0,aE,aL0,aP⟩:=ht
 cases e0
 have hlP:=aP.lenE
 have hlen:=lx.len (by simp;omega)
 rw[List.length_map] at hlen
 by_cases h1:0<S.length
 ·have h1':0<(S.length:Int):=by omega
  simp(disch:=first|omega|simp only[nZ]<;>omega|fail)only[navK,c6,go_sem,t5,t8,t17,hlen,h1']
  refine Once_ev hs hw0 hx hp0 hp (by omega) (by omega) _ fun u h2 s2 p2 k2 n2=>?_
  have lx2:=lx.keep k2 fun b hb _=>by have:=hF b hb;omega
  cases u with
  |false=>
   simp(disch:=first|omega|simp only[nZ]<;>omega|fail)only[go_sem]
   first|exact⟨rfl,_,_,_,S,rfl,s2,p2,by omega,lx2,hl,hll,(by simp[t5]),(by simp[t6]),(by simp[t8]),(by simp[t17]),(by simp[t157])⟩|exact⟨_,_,_,S,rfl,s2,p2,by omega,lx2,hl,hll,(by simp[t5]),(by simp[t6]),(by simp[t8]),(by simp[t17]),(by simp[t157])⟩
  |true=>
   have w1:wr .i64 ((S.length:Int)-1)=(S.length:Int)-1:=wr_in (by omega) (by omega)
   simp(disch:=first|omega|simp only[nZ]<;>omega|fail)only[go_sem,t5,t8,t17,hlen,w1]
   refine Upto_ev s2 hw0 hx hp0 p2 (by omega) (by omega) _ fun r h3 r0 r1 s3 p3 k3 n3=>?_
   obtain⟨k,rfl⟩:=Int.eq_ofNat_of_zero_le r0
   have hk:k<S.length:=by omega
   have lx3:=lx2.keep k3 fun b hb _=>by have:=hF b hb;omega
   obtain⟨b,o,cs,v,e1,e2,e3,cv,nv,upd⟩:=lx3.inrow (by simp;omega) (show k<(eS S).length by simp;exact hk)
   have es:(eS S)[k]'(by simp;exact hk)=S[k].map encI:=by simp[eS]
   rw[es] at cv
   have hm:=List.getElem_mem hk
   have hl1:=hll _ hm
   have hl2:=List.length_pos_iff.2 (hne _ hm)
   have cl:=(cv.sl (by simp;omega)).lenE
   have w2:wr .i64 ((S[k].length:Int)-1)=(S[k].length:Int)-1:=wr_in (by omega) (by omega)
   have gT3:=s3.cells gT
   simp(disch:=first|omega|simp only[nZ]<;>omega|fail)only[go_sem,t5,t8,t17,e1,e2,e3,cl,w2]
   refine Upto_ev s3 hw0 hx hp0 p3 (by omega) (by omega) _ fun r h4 r0 r1 s4 p4 k4 n4=>?_
   obtain⟨j,rfl⟩:=Int.eq_ofNat_of_zero_le r0
   have hj:j<S[k].length:=by omega
   have gT4:=s4.cells gT
   simp(disch:=first|omega|simp only[nZ]<;>omega|fail)only[go_sem,t5,t8,t17,gT3,gT4,hlP]
   refine Upto_ev s4 hw0 hx hp0 p4 (by omega) (by omega) _ fun r h5 r0 r1 s5 p5 k5 n5=>?_
   have k35:Keeps (fun c=>c=sp) h3 h5:=(k4.trans k5).mono fun c h=>h.elim id id
   have nsp:∀c,blkOf v c→c≠sp:=fun c hc=>by have:=hF c (cv.blk hc).1;omega
   have cv5:=cv.keep k35 nsp
   obtain⟨b6,kd,cs6,cs7,f1,f2,f3,w6,cv6,k6⟩:=CutO.putI s5.wf cv5 hj r
   have kv:Keeps (fun c=>c=sp∨blkOf v c) h3 (h5.set b6 (.cells kd cs7)):=k35.trans k6
   have l6:=upd (fun c=>c=sp) _ _ kv (fun c hc e=>by have:=hF c hc;omega) cv6
   rw[eS_set] at l6
   have gT5:=s5.cells gT
   have s6:h0.Sub (h5.set b6 (.cells kd cs7)):=kv.sub s3 hw0 (fun c hc=>by
    rcases hc with rfl|hc
    ·exact hp0
    ·have:=hF c (cv.blk hc).1;omega) w6
   have hl6:∀l∈S.set k (S[k].set j r),l.length≤20:=fun l hl=>by
    rcases List.mem_or_eq_of_mem_set hl with h0|rfl
    ·exact hll l h0
    ·rw[List.length_set];exact hl1
   have p6:=p5.keep k6 fun h0=>nsp _ h0 rfl
   simp(disch:=first|omega|simp only[nZ]<;>omega|fail)only[go_sem,t5,t8,t17,gT3,gT4,gT5,hlP,f1,f2,f3]
   first|exact⟨rfl,_,_,_,_,rfl,s6,p6,by omega,l6,by simp;omega,hl6,(by simp[t5]),(by simp[t6]),(by simp[t8]),(by simp[t17]),(by simp[t157])⟩|exact⟨_,_,_,_,rfl,s6,p6,by omega,l6,by simp;omega,hl6,(by simp[t5]),(by simp[t6]),(by simp[t8]),(by simp[t17]),(by simp[t157])⟩
 ·have h1':¬0<(S.length:Int):=by omega
  simp(disch:=first|omega|simp only[nZ]<;>omega|fail)only[navK,c6,go_sem,t5,t8,t17,hlen,h1']
  first|exact⟨rfl,_,_,_,S,rfl,hs,hp,by omega,lx,hl,hll,(by simp[t5]),(by simp[t6]),(by simp[t8]),(by simp[t17]),(by simp[t157])⟩|exact⟨_,_,_,S,rfl,hs,hp,by omega,lx,hl,hll,(by simp[t5]),(by simp[t6]),(by simp[t8]),(by simp[t17]),(by simp[t157])⟩
set_option maxRecDepth 4000 in
set_option maxHeartbeats 8000000 in
theorem isrt_ev {F:Nat→Prop}{h:H}(hw:h.wf){bT:Nat}{E L P v6 v8 x v157:V}{t:Tb}(g:Good t)(gT:h.cells bT=some [E,L,P])(ht:TbIs h (.agg [E,L,P]) t)
  {S:List (List Int)} (lx:LsCut F h x (eS S)) (hl:S.length≤20) (hll:∀l∈S,l.length≤20)
  (tm:Go.Ab.T V) (t5:(Opd.t 5).ev tm=.ptr bT 0) (t6:(Opd.t 6).ev tm=v6) (t8:(Opd.t 8).ev tm=v8) (t17:(Opd.t 17).ev tm=x) (t157:(Opd.t 157).ev tm=v157):
  W fnG fastA 248 6 none (navK [true,true,true,true,true,true,false,true,true,true,true,true,false,true,true,true,true,true,true] c6.body) ⟨tm,h,[]⟩ fun x1 s=>x1=.nrm∧∃tm' h',s=⟨tm',h',[]⟩∧h.Sub h'∧
   (Opd.t 5).ev tm'=.ptr bT 0∧(Opd.t 6).ev tm'=v6∧(Opd.t 8).ev tm'=v8∧(Opd.t 157).ev tm'=v157:=by
 have c0:check t=0:=check_iff.2 g
 have rd:=LsCut.rdI lx (by omega) fun l hl=>by have:=hll l hl;omega
 have nn:∀n:Int,decide (n≠n)=false:=fun n=>by simp
 have bb:∀b:Bool,(!(b==b))=false:=fun b=>by cases b<;>rfl
 simp(disch:=first|omega|simp only[nZ]<;>omega|fail)only[navK,c6,go_sem,t5,t17,gT]
 refine Sorted_ev hw ht rd (by omega) (fun l hl=>by have:=hll l hl;omega) _ fun h2 s2=>?_
 have ec:=srtC_ok c0 S
 unfold srtC at ec
 rw[ec,c0]
 have gT2:=s2.cells gT
 simp(disch:=first|omega|simp only[nZ]<;>omega|fail)only[go_sem,t5,t17,nn,gT,gT2]
 refine lsorting_ev s2.wf (ht.mono s2) g ((LsCut.rd lx (by omega)).mono s2) (by omega) (fun l hl=>by have:=hll l hl;omega) _ fun h3 s3=>?_
 rw[lsR_srt g]
 simp(disch:=first|omega|simp only[nZ]<;>omega|fail)only[go_sem,t5,t17,bb]
 first|exact⟨rfl,_,_,rfl,s2.trans s3,(by simp[t5]),(by simp[t6]),(by simp[t8]),(by simp[t157])⟩|exact⟨_,_,rfl,s2.trans s3,(by simp[t5]),(by simp[t6]),(by simp[t8]),(by simp[t157])⟩
end Go.Ab.Tryz
namespace Go.Ab.Tryz
open Go.Proofs
set_option maxRecDepth 4000 in
set_option maxHeartbeats 8000000 in
theorem iter_ev {h0 h:H}(hw0:h0.wf){bT sp:Nat}{E L P xs ys v157:V}{t:Tb}(g:Good t)(gT:h0.cells bT=some [E,L,P])(ht:TbIs h0 (.agg [E,L,P]) t){bs:List Int}(hx:SlAt h0 xs 1 (bs.map encU8))(hs:h0.Sub h)(hp0:h0.next≤sp){T:Int}(hp:SpAt h sp xs T)(hT:0≤T∧T≤800000)
  (hys:q_len ys=some (.int .i64 (chi (mT t) t.pieces.length:Int)))
  (tm:Go.Ab.T V) (t5:(Opd.t 5).ev tm=.ptr bT 0) (t6:(Opd.t 6).ev tm=ys) (t8:(Opd.t 8).ev tm=.ptr sp 0) (t157:(Opd.t 157).ev tm=v157):
  W fnG fastA 248 6 none (navK [true,true,true,true,true,true,false,true,true,true,true,true,false,true] c6.body) ⟨tm,h,[]⟩ fun x1 s=>x1=.nrm∧∃tm' h' T',s=⟨tm',h',[]⟩∧h0.Sub h'∧SpAt h' sp xs T'∧(0≤T'∧T'≤T+20)∧
   (Opd.t 5).ev tm'=.ptr bT 0∧(Opd.t 6).ev tm'=ys∧(Opd.t 8).ev tm'=.ptr sp 0∧(Opd.t 157).ev tm'=v157:=by
 have gp:=g.pieces
 have sy:=mT_comm g
 obtain⟨R1,hR1⟩:∃R,navK [true,true,true,true,true,true,false,true,true,true,true,true,false,true,true,false] c6.body=R:=⟨_,rfl⟩
 obtain⟨R2,hR2⟩:∃R,navK [true,true,true,true,true,true,false,true,true,true,true,true,false,true,true,true,false] c6.body=R:=⟨_,rfl⟩
 obtain⟨R3,hR3⟩:∃R,navK [true,true,true,true,true,true,false,true,true,true,true,true,false,true,true,true,true,true,false] c6.body=R:=⟨_,rfl⟩
 obtain⟨R4,hR4⟩:∃R,navK [true,true,true,true,true,true,false,true,true,true,true,true,false,true,true,true,true,true,true] c6.body=R:=⟨_,rfl⟩
 have r1:=fun(h:H) (hs:h0.Sub h) (hp:SpAt h sp xs T) tm t5 t6 t8 t17 t157=>place_ev (ys:=ys) (i157:=v157) hw0 g gT ht hx hs hp0 hp (by omega) tm t5 t6 t8 t17 t157
 have r2:= @sorts_ev
 have r3:= @tear_ev
 have r4:= @isrt_ev
 rw[hR1] at r1
 rw[hR2] at r2
 rw[hR3] at r3
 rw[hR4] at r4
 simp only[navK,c6] at hR1 hR2 hR3 hR4
 simp only[navK,c6]
 rw[hR1,hR2,hR3,hR4]
 clear hR1 hR2 hR3 hR4
 simp -implicitDefEqProofs(maxSteps:=999999)(disch:=first|with_reducible rfl|omega|(simp only[nA,nS,nD]<;>omega)|fail)only[go_sem]
 refine(r1 h hs hp _ (by simp[ev_c,ev_put,t5]<;>rfl) (by simp[ev_c,ev_put,t6]<;>rfl) (by simp[ev_c,ev_put,t8]<;>rfl) (by simp[ev_c,ev_put]<;>rfl) (by simp[ev_c,ev_put,t157]<;>rfl)).mono fun x1 s hx1=>?_
 clear r1 t5 t6 t8 t157
 obtain⟨rfl,tm,h1,T1,x,S,rfl,s1,sp1,hT1,lx,⟨O,pO,ft⟩,t5,t6,t8,t17,t157⟩:=hx1
 obtain⟨lS,lR,lM⟩:=ft.len
 have lO:O.length=t.pieces.length:=by rw[pO.length_eq];simp[upto]
 have lsp:sp<h.next:=hs.wf _ _ (spGet hp)
 simp -implicitDefEqProofs(maxSteps:=999999)(disch:=first|with_reducible rfl|omega|(simp only[nA,nS,nD]<;>omega)|fail)only[go_sem]
 refine(r2 s1.wf lx (by omega) (fun l hl=>by have:=lR l hl;omega) ft.ne _ t5 t6 t8 t17 t157).mono fun x1 s hx1=>?_
 clear r2 t5 t6 t8 t17 t157
 obtain⟨rfl,tm,h2,rfl,w2,k2,l2,t5,t6,t8,t17,t157⟩:=hx1
 have sr:=ft.srt pO
 have hle:chi (mT t) t.pieces.length≤S.length:=by have:=Srt.least sy sr;rwa[List.length_map] at this
 have hlen:=l2.len (by simp;omega)
 rw[List.length_map,List.length_map] at hlen
 have nlt:¬(S.length:Int)<(chi (mT t) t.pieces.length:Int):=by omega
 have hsn:=hs.next
 have s2:=k2.sub s1 hw0 (fun c hc=>by omega) w2
 have sp2:=sp1.keep k2 (by omega)
 simp -implicitDefEqProofs(maxSteps:=999999)(disch:=first|with_reducible rfl|omega|(simp only[nA,nS,nD]<;>omega)|fail)only[go_sem,t6,t17,hlen,hys,nlt]
 have rr3:=r3 (F:=fun c=>h.next≤c) (v6:=ys) (v157:=v157) hw0 g gT ht hx s2 hp0 sp2 (by omega) (fun c hc=>by omega) l2 (by simp;omega) (fun l hl=>by
  obtain⟨l',hl',rfl⟩:=List.mem_map.1 hl
  rw[sortI_len];have:=lR l' hl';omega) sr.ne
 refine(rr3 _ (by simp[ev_c,ev_put,t5]<;>rfl) (by simp[ev_c,ev_put,t6]<;>rfl) (by simp[ev_c,ev_put,t8]<;>rfl) (by simp[ev_c,ev_put,t17]<;>rfl) (by simp[ev_c,ev_put,t157]<;>rfl)).mono fun x1 s hx1=>?_
 clear r3 rr3 t5 t6 t8 t17 t157
 obtain⟨rfl,tm,h3,T3,S3,rfl,s3,sp3,hT3,l3,b3,c3,t5,t6,t8,t17,t157⟩:=hx1
 simp -implicitDefEqProofs(maxSteps:=999999)(disch:=first|with_reducible rfl|omega|(simp only[nA,nS,nD]<;>omega)|fail)only[go_sem]
 refine(r4 s3.wf g (s3.cells gT) (ht.mono s3) l3 b3 c3 _ t5 t6 t8 t17 t157).mono fun x1 s hx1=>?_
 clear r4 t5 t6 t8 t17 t157
 obtain⟨rfl,tm,h4,rfl,s4,t5,t6,t8,t157⟩:=hx1
 simp -implicitDefEqProofs(maxSteps:=999999)(disch:=first|with_reducible rfl|omega|(simp only[nA,nS,nD]<;>omega)|fail)only[go_sem]
 first|exact⟨rfl,_,_,_,rfl,s3.trans s4,sp3.mono s4,by omega,t5,t6,t8,t157⟩|exact⟨_,_,_,rfl,s3.trans s4,sp3.mono s4,by omega,t5,t6,t8,t157⟩
set_option maxRecDepth 4000 in
set_option maxHeartbeats 8000000 in
theorem part2_ev {h0 h:H}(hw0:h0.wf){bT sp:Nat}{E L P xs ys:V}{t:Tb}(g:Good t)(gT:h0.cells bT=some [E,L,P])(ht:TbIs h0 (.agg [E,L,P]) t){bs:List Int}(hx:SlAt h0 xs 1 (bs.map encU8))(hs:h0.Sub h)(hp0:h0.next≤sp){T:Int}(hp:SpAt h sp xs T)(hT:0≤T∧T≤700000)
  (hys:q_len ys=some (.int .i64 (chi (mT t) t.pieces.length:Int)))
  (tm:Go.Ab.T V) (t5:(Opd.t 5).ev tm=.ptr bT 0) (t6:(Opd.t 6).ev tm=ys) (t8:(Opd.t 8).ev tm=.ptr sp 0):
  W fnG fastA 248 6 none (navK [true,true,true,true,true,true,false] c6.body) ⟨tm,h,[]⟩ fun x1 s=>x1=.nrm∧∃tm' h',s=⟨tm',h',[]⟩:=by
 obtain⟨R1,hR1⟩:∃R,navK [true,true,true,true,true,true,false,true,true,true,true,true,false,true] c6.body=R:=⟨_,rfl⟩
 have r1:=fun(h:H) (hs:h0.Sub h) T (hp:SpAt h sp xs T) hT v157 tm t5 t6 t8 t157=>iter_ev (ys:=ys) (v157:=v157) hw0 g gT ht hx hs hp0 hp hT hys tm t5 t6 t8 t157
 rw[hR1] at r1
 simp only[navK,c6] at hR1
 simp only[navK,c6]
 rw[hR1]
 clear hR1
 simp -implicitDefEqProofs(maxSteps:=999999)(disch:=first|with_reducible rfl|omega|(simp only[nA,nS,nD]<;>omega)|fail)only[go_sem]
 refine W_count 4 (fun i s=>∃tm hq T1,s=⟨tm,hq,[]⟩∧h0.Sub hq∧SpAt hq sp xs T1∧(0≤T1∧T1≤T+20*(i:Int))∧(Opd.t 5).ev tm=.ptr bT 0∧(Opd.t 6).ev tm=ys∧(Opd.t 8).ev tm=.ptr sp 0∧(Opd.t 157).ev tm=.int .i64 (i:Int))
  ?_ ?_ (i:=0) (Nat.zero_le _) ⟨_,_,_,rfl,hs,hp,by omega,(by simp[ev_c,ev_put,t5]<;>rfl),(by simp[ev_c,ev_put,t6]<;>rfl),(by simp[ev_c,ev_put,t8]<;>rfl),(by simp only[ev_put];rfl)⟩
 ·clear t5 t6 t8
  rintro i s hi ⟨tm,hq,T1,rfl,sq,spq,hT1,t5,t6,t8,t157⟩
  have hi':(i:Int)<4:=by omega
  have v1:wr .i64 ((i:Int)+1)=((i+1:Nat):Int):=wr_succ (by omega)
  simp -implicitDefEqProofs(maxSteps:=999999)(disch:=first|with_reducible rfl|omega|(simp only[nA,nS,nD]<;>omega)|fail)only[go_sem,t157,hi']
  refine(r1 hq sq T1 spq (by omega) _ _ (by simp[ev_c,ev_put,t5]<;>rfl) (by simp[ev_c,ev_put,t6]<;>rfl) (by simp[ev_c,ev_put,t8]<;>rfl) (by simp[ev_c,ev_put,t157]<;>rfl)).mono fun x1 s hx1=>?_
  obtain⟨rfl,tm,h5,T5,rfl,s5,sp5,hT5,t5,t6,t8,t157⟩:=hx1
  simp -implicitDefEqProofs(maxSteps:=999999)(disch:=first|with_reducible rfl|omega|(simp only[nA,nS,nD]<;>omega)|fail)only[go_sem,t157,v1]
  exact⟨_,_,_,rfl,s5,sp5,by omega,(by simp[ev_c,ev_put,t5]<;>rfl),(by simp[ev_c,ev_put,t6]<;>rfl),(by simp[ev_c,ev_put,t8]<;>rfl),(by simp[ev_c,ev_put]<;>rfl)⟩
 ·rintro s ⟨tm,hq,T1,rfl,sq,spq,hT1,t5,t6,t8,t157⟩
  have t157:(Opd.t 157).ev tm=.int .i64 4:=t157
  simp -implicitDefEqProofs(maxSteps:=999999)(disch:=first|with_reducible rfl|omega|(simp only[nA,nS,nD]<;>omega)|fail)only[go_sem,t157,Int.lt_irrefl]
  exact⟨_,_,rfl⟩
end Go.Ab.Tryz
namespace Go.Ab.Tryz
open Go.Proofs
open Go.Ab.Silk (Inc lexlt)
set_option maxRecDepth 4000 in
set_option maxHeartbeats 8000000 in
theorem piece1_ev {h0 h:H}(hw0:h0.wf){bT sp:Nat}{E L P xs ys v46:V}{t:Tb}(g:Good t)(gT:h0.cells bT=some [E,L,P])(ht:TbIs h0 (.agg [E,L,P]) t){bs:List Int}(hx:SlAt h0 xs 1 (bs.map encU8))(hs:h0.Sub h)(hp0:h0.next≤sp){T:Int}(hp:SpAt h sp xs T)(hT:0≤T∧T≤800000)
  {S:List (List Int)} (aS:Srt (mT t) t.pieces.length S) (rd:LsRd h0 ys S) {i:Nat} (hi:i<t.pieces.length)
  (tm:Go.Ab.T V) (t5:(Opd.t 5).ev tm=.ptr bT 0) (t6:(Opd.t 6).ev tm=ys) (t8:(Opd.t 8).ev tm=.ptr sp 0) (t46:(Opd.t 46).ev tm=v46) (t47:(Opd.t 47).ev tm=.int .i64 (i:Int)):
  W fnG fastA 248 6 none (navK [true,true,true,true,true,false,true,true,true,true,true,false,true] c6.body) ⟨tm,h,[]⟩ fun x1 s=>x1=.nrm∧∃tm' h' T',s=⟨tm',h',[]⟩∧h0.Sub h'∧SpAt h' sp xs T'∧(0≤T'∧T'≤T+40)∧
   (Opd.t 5).ev tm'=.ptr bT 0∧(Opd.t 6).ev tm'=ys∧(Opd.t 8).ev tm'=.ptr sp 0∧(Opd.t 46).ev tm'=v46∧(Opd.t 47).ev tm'=.int .i64 (i:Int):=by
 have hw:=hs.wf
 have gp:=g.pieces
 have sy:=mT_comm g
 have c0:check t=0:=check_iff.2 g
 have hi2:isPc t (i:Int)=true:=by simp only[isPc,decide_eq_true_eq];omega
 have ge:=grE_ok c0 hi2
 obtain⟨c,ec,best⟩:=gr_some hi ge
 have hP:=LastIs.hasP best
 have cne:c≠[]:=fun e=>by have:=best.pos;rw[e] at this;simp at this
 have lc:c.length≤9:=by have:=best.le;omega
 obtain⟨R1,hR1⟩:∃R,navK [true,true,true,true,true,false,true,true,true,true,true,false,true,true,true,true,false] c6.body=R:=⟨_,rfl⟩
 obtain⟨R2,hR2⟩:∃R,navK [true,true,true,true,true,false,true,true,true,true,true,false,true,true,true,true,true] c6.body=R:=⟨_,rfl⟩
 have r1:= @rise2_ev
 have r2:= @tries_ev
 rw[hR1] at r1
 rw[hR2] at r2
 simp only[navK,c6] at hR1 hR2
 simp only[navK,c6]
 rw[hR1,hR2]
 clear hR1 hR2
 have lsp:sp<h.next:=hw _ _ (spGet hp)
 have sA:h.Sub (h.add (.cells .rw [.int .i64 (i:Int)])):=(H.Sub.refl hw).add _
 have gP:(h.add (.cells .rw [.int .i64 (i:Int)])).cells h.next=some [.int .i64 (i:Int)]:=cells_add_new rfl
 have s0A:=hs.trans sA
 have nA:(h.add (.cells .rw [.int .i64 (i:Int)])).next=h.next+1:=H.next_add _ _
 have nn:decide ((0:Int)≠0)=false:=by simp
 simp -implicitDefEqProofs(maxSteps:=999999)(disch:=first|with_reducible rfl|omega|(simp only[nA,nS,nD]<;>omega)|fail)only[go_sem,t5,t6,t8,t46,t47,s0A.cells gT,hs.cells gT]
 refine Greatest_ev sA.wf (ht.mono s0A) (i:Int) _ fun y h2 s2 hy=>?_
 rw[ge]
 rw[ec] at hy
 have hy:CutI h2 y c:=hy
 have oy:=hy.one
 have s02:=s0A.trans s2
 have sp2:=(hp.mono sA).mono s2
 have sC:=(H.Sub.refl s2.wf).add (.cells .rw [y])
 have gL:(h2.add (.cells .rw [y])).cells h2.next=some [y]:=cells_add_new rfl
 have gP3:=(s2.trans sC).cells gP
 have gT3:=(s02.trans sC).cells gT
 have cv:=hy.mono sC
 have n2:=s2.next
 simp -implicitDefEqProofs(maxSteps:=999999)(disch:=first|with_reducible rfl|omega|(simp only[nA,nS,nD]<;>omega)|fail)only[go_sem,t5,t6,t8,t46,t47,oy,cells_one oy,nn,s2.cells gP]
 generalize h2.add (.cells .rw [y])=h3 at sC gL gP3 gT3 cv⊢
 refine hasInt_ev sC.wf cv.sl (i:Int) _ fun h4 s4=>?_
 rw[hP]
 have s04:=s02.trans (sC.trans s4)
 have gL4:=s4.cells gL
 have gP4:=s4.cells gP3
 simp -implicitDefEqProofs(maxSteps:=999999)(disch:=first|with_reducible rfl|omega|(simp only[nA,nS,nD]<;>omega)|fail)only[go_sem,t5,t6,t8,t46,t47,gL,gP3,Bool.not_true]
 refine((rd.mono s04).any s04.wf (p:=fun l=>(l.any fun r=>decide ((i:Int)=r))&&decide (c.length<l.length)) fun v l F hl av=>es1_ok gP4 gL4 (cv.mono s4).sl (av.sl (by
  rw[List.length_map]
  have h1:=nodup_len ((aS.up l hl).imp fun h=>by omega) fun x hx=>aS.mem hl hx
  omega))).mono fun u h5 hu=>?_
 obtain⟨rfl,s5⟩:=hu
 rw[no_longer sy best aS]
 have s45:=s4.trans s5
 have s05:=s04.trans s5
 have cv5:=cv.mono s45
 have gL5:=s45.cells gL
 have gP5:=s45.cells gP3
 have up:=Inc.pw best.inc
 have rg:∀x∈c,0≤x∧x<(t.pieces.length:Int):=fun x hx=>best.inc.mem x hx
 simp -implicitDefEqProofs(maxSteps:=999999)(disch:=first|with_reducible rfl|omega|(simp only[nA,nS,nD]<;>omega)|fail)only[go_sem,t5,t6,t8,t46,t47]
 refine(r1 (bP:=h.next) (bL:=h2.next) (sp:=sp) (ys:=ys) (i46:=v46) (i47:=.int .i64 (i:Int)) s5.wf g (s45.cells gT3) (ht.mono s05) gL5 cv5 up rg (LastIs.clq best) _ (by simp[ev_c,ev_put,t5]<;>rfl) (by simp[ev_c,ev_put,t6]<;>rfl) (by simp[ev_c,ev_put,t8]<;>rfl) (by simp[ev_c,ev_put]<;>rfl) (by simp[ev_c,ev_put]<;>rfl) (by simp[ev_c,ev_put,t46]<;>rfl) (by simp[ev_c,ev_put,t47]<;>rfl)).mono fun x1 s hx1=>?_
 clear t5 t6 t8 t46 t47 r1
 obtain⟨rfl,tm,h6,rfl,s6,t5,t6,t8,t9,t10,t46,t47⟩:=hx1
 have cv6:=cv5.mono s6
 have sp6:=(sp2.mono sC).mono (s45.trans s6)
 have nsp:=cv6.ne_sp cne hx sp6
 have s06:=s05.trans s6
 simp -implicitDefEqProofs(maxSteps:=999999)(disch:=first|with_reducible rfl|omega|(simp only[nA,nS,nD]<;>omega)|fail)only[go_sem]
 refine(r2 hw0 g gT ht hx s06 hp0 sp6 (by omega) (s6.cells gP5) (by omega) (by omega) (s6.cells gL5) (by omega) cv6.sl nsp best _ t5 t6 t8 t9 t10 t46 t47).mono fun x1 s hx1=>?_
 obtain⟨rfl,tm,h7,T7,rfl,s7,sp7,hT7,k7,t5,t6,t8,t9,t10,t46,t47⟩:=hx1
 first|exact⟨rfl,_,_,_,rfl,s7,sp7,by omega,t5,t6,t8,t46,t47⟩|exact⟨_,_,_,rfl,s7,sp7,by omega,t5,t6,t8,t46,t47⟩
set_option maxRecDepth 4000 in
set_option maxHeartbeats 8000000 in
theorem EyeSorted_ev {h:H}{x y:V}{bs cs:List Int}(hw:h.wf)(hx:SlAt h x 1 (bs.map encU8))(hy:SlAt h y 1 (cs.map encU8)):
  Ev fnG fastA (.fn 6 [] []) [x,y] h (fun u _=>u=.bool true):=by
 refine Ev_body (fd:=c6) rfl rfl rfl ?_
 obtain⟨R1,hR1⟩:∃R,navK [true,true,true,true,true,false,true,true,true,true,true,false,true] c6.body=R:=⟨_,rfl⟩
 obtain⟨R2,hR2⟩:∃R,navK [true,true,true,true,true,true,false] c6.body=R:=⟨_,rfl⟩
 have r1:= @piece1_ev
 have r2:= @part2_ev
 rw[hR1] at r1
 rw[hR2] at r2
 simp only[navK,c6] at hR1 hR2
 simp only[c6]
 rw[hR1,hR2]
 clear hR1 hR2
 simp -implicitDefEqProofs(maxSteps:=999999)(disch:=first|with_reducible rfl|omega|(simp only[nA,nS,nD]<;>omega)|fail)only[go_sem]
 refine Wound_ev hw hx _ fun h1 s1 sp1 n1=>?_
 simp -implicitDefEqProofs(maxSteps:=999999)(disch:=first|with_reducible rfl|omega|(simp only[nA,nS,nD]<;>omega)|fail)only[go_sem]
 refine Made_ev s1 hw hx (Nat.le_refl _) sp1 (by omega) (by omega) (by omega) (by omega) _ fun X Y Z t hM T g hp7 he6 hl4 hT m=>?_
 obtain⟨sM,iM,pM⟩:=m.is g hw (by omega) (by omega)
 have x1:=OwnC.one m.ox.c
 have y1:=OwnC.one m.oy.c
 have z1:=OwnC.one m.oz.c
 simp -implicitDefEqProofs(maxSteps:=999999)(disch:=first|with_reducible rfl|omega|(simp only[nA,nS,nD]<;>omega)|fail)only[go_sem,x1,y1,z1,cells_one x1,cells_one y1,cells_one z1]
 have nN:(hM.set h1.next (.cells .rw [X,Y,Z])).next=hM.next:=H.next_set _ _ _
 generalize hM.set h1.next (.cells .rw [X,Y,Z])=hN at sM iM pM nN⊢
 have s2:=(H.Sub.refl sM.wf).add (.cells .rw [X,Y,Z])
 have g7:(hN.add (.cells .rw [X,Y,Z])).cells hN.next=some [X,Y,Z]:=cells_add_new rfl
 have i2:=iM.mono s2
 have sN2:=sM.trans s2
 generalize(hN.add (.cells .rw [X,Y,Z]))=h2 at s2 g7 i2 sN2⊢
 rw[nN] at g7
 generalize hM.next=b7 at g7⊢
 have gp:=g.pieces
 have c0:check t=0:=check_iff.2 g
 have nn:decide ((0:Int)≠0)=false:=by simp
 refine Sort_ev s2.wf i2 _ fun ys h3 s3 hys=>?_
 rw[if_pos c0] at hys
 rw[c0]
 obtain⟨S,eS1,aS,hmS⟩:=sortR_spec (mT t) t.pieces.length
 rw[eS1] at hys
 have hSl:S.length=chi (mT t) t.pieces.length:=by unfold chi;rw[eS1];rfl
 have hSb:=chi_bd2 (mT t) t.pieces.length
 have hys:LsCut (fun b=>h2.next≤b) h3 ys (eS S):=hys
 have rd:=LsCut.rd hys (by omega)
 have hlens:∀l∈S,l.length≤1000:=fun l hl=>by
  have h1:=nodup_len ((aS.up l hl).imp fun h=>by omega) fun x hx=>aS.mem hl hx
  omega
 have lys:=rd.len
 rw[hSl] at lys
 simp -implicitDefEqProofs(maxSteps:=999999)(disch:=first|with_reducible rfl|omega|(simp only[nA,nS,nD]<;>omega)|fail)only[go_sem,nn,s3.cells g7]
 refine lsorting_ev s3.wf (i2.mono s3) g rd (by omega) hlens _ fun h4 s4=>?_
 rw[lsR_srt g,srt_srtB aS]
 have s24:=s3.trans s4
 have s04:=sN2.trans s24
 simp -implicitDefEqProofs(maxSteps:=999999)(disch:=first|with_reducible rfl|omega|(simp only[nA,nS,nD]<;>omega)|fail)only[go_sem,Bool.not_true]
 refine Wound_ev s4.wf (hy.mono s04) _ fun h5 s5 sp5 n5=>?_
 have gT5:=s5.cells (s24.cells g7)
 obtain⟨_,_,_,eT,aE,aL,aP⟩:=id i2
 cases eT
 have lP:=aP.lenE
 simp -implicitDefEqProofs(maxSteps:=999999)(disch:=first|with_reducible rfl|omega|(simp only[nA,nS,nD]<;>omega)|fail)only[go_sem,gT5,lP]
 refine W_count t.pieces.length (fun i s=>∃tm hq T1,s=⟨tm,hq,[]⟩∧h4.Sub hq∧SpAt hq h4.next y T1∧(0≤T1∧T1≤40*(i:Int))∧(Opd.t 5).ev tm=.ptr b7 0∧(Opd.t 6).ev tm=ys∧(Opd.t 8).ev tm=.ptr h4.next 0∧(Opd.t 46).ev tm=.int .i64 (t.pieces.length:Int)∧(Opd.t 47).ev tm=.int .i64 (i:Int))
  ?_ ?_ (i:=0) (Nat.zero_le _) ⟨_,_,_,rfl,s5,sp5,by omega,(by simp[ev_c,ev_put]<;>rfl),(by simp[ev_c,ev_put]<;>rfl),(by simp[ev_c,ev_put]<;>rfl),(by simp[ev_c,ev_put]<;>rfl),(by simp only[ev_put];rfl)⟩
 ·rintro i s hi ⟨tm,hq,T1,rfl,sq,spq,hT1,t5,t6,t8,t46,t47⟩
  have hi':(i:Int)<(t.pieces.length:Int):=by omega
  have v1:wr .i64 ((i:Int)+1)=((i+1:Nat):Int):=wr_succ (by omega)
  simp -implicitDefEqProofs(maxSteps:=999999)(disch:=first|with_reducible rfl|omega|(simp only[nA,nS,nD]<;>omega)|fail)only[go_sem,t46,t47,hi']
  refine(r1 s4.wf g (s24.cells g7) (i2.mono s24) (hy.mono s04) sq (Nat.le_refl _) spq (by omega) aS (rd.mono s4) hi _ (by simp[ev_c,ev_put,t5]<;>rfl) (by simp[ev_c,ev_put,t6]<;>rfl) (by simp[ev_c,ev_put,t8]<;>rfl) (by simp[ev_c,ev_put,t46]<;>rfl) (by simp[ev_c,ev_put,t47]<;>rfl)).mono fun x1 s hx1=>?_
  obtain⟨rfl,tm,h6,T6,rfl,s6,sp6,hT6,t5,t6,t8,t46,t47⟩:=hx1
  simp -implicitDefEqProofs(maxSteps:=999999)(disch:=first|with_reducible rfl|omega|(simp only[nA,nS,nD]<;>omega)|fail)only[go_sem,t47,v1]
  exact⟨_,_,_,rfl,s6,sp6,by omega,(by simp[ev_c,ev_put,t5]<;>rfl),(by simp[ev_c,ev_put,t6]<;>rfl),(by simp[ev_c,ev_put,t8]<;>rfl),(by simp[ev_c,ev_put,t46]<;>rfl),(by simp[ev_c,ev_put]<;>rfl)⟩
 ·rintro s ⟨tm,hq,T1,rfl,sq,spq,hT1,t5,t6,t8,t46,t47⟩
  simp -implicitDefEqProofs(maxSteps:=999999)(disch:=first|with_reducible rfl|omega|(simp only[nA,nS,nD]<;>omega)|fail)only[go_sem,t46,t47,Int.lt_irrefl]
  refine(r2 s4.wf g (s24.cells g7) (i2.mono s24) (hy.mono s04) sq (Nat.le_refl _) spq (by omega) lys _ (by simp[ev_c,ev_put,t5]<;>rfl) (by simp[ev_c,ev_put,t6]<;>rfl) (by simp[ev_c,ev_put,t8]<;>rfl)).mono fun x1 s hx1=>?_
  obtain⟨rfl,tm,h6,rfl⟩:=hx1
  simp -implicitDefEqProofs(maxSteps:=999999)(disch:=first|with_reducible rfl|omega|(simp only[nA,nS,nD]<;>omega)|fail)only[go_sem,awake_eq]
end Go.Ab.Tryz
