import Derived.Test.YthoghcpemmfebaaGreatG4
set_option linter.unusedSimpArgs false
set_option linter.unusedVariables false
theorem yda {p:Prop}(h:p:=by simp[Zn,Zd]<;>rfl):p:=h
theorem ydb {p:Prop}(h:p:=by repeat(first|assumption|exact H.Sub.refl (by assumption)|refine H.Sub.add ?_ _|refine H.Sub.set ?_ (by first|omega|(simp only[H.next_add,H.next_set,H.next_del]<;>omega)) (by first|omega|(simp only[H.next_add,H.next_set,H.next_del]<;>omega)) (by assumption) _)):p:=h
theorem ydc {p:Prop}(h:p:=by omega):p:=h
theorem ydd {p:Prop}(h:p:=by simp[Zn,Zd,t1]<;>rfl):p:=h
theorem yde {p:Prop}(h:p:=by simp[Zn,Zd,t2]<;>rfl):p:=h
theorem ydf {p:Prop}(h:p:=by simp[Zn,Zd,t3]<;>rfl):p:=h
theorem ydg {p:Prop}(h:p:=by simp[Zn,Zd,t6]<;>rfl):p:=h
theorem ydh {p:Prop}(h:p:=by simp[Zn,Zd,t4]<;>rfl):p:=h
theorem ydi {p:Prop}(h:p:=by simp[Zn,Zd,t10]<;>rfl):p:=h
theorem ydj {p:Prop}(h:p:=by simp[Zn,Zd,t9]<;>rfl):p:=h
theorem ydk {p:Prop}(h:p:=by simp[Zn,Zd,t11]<;>rfl):p:=h
theorem ydl {p:Prop}(h:p:=by simp[Zn,Zd,t12]<;>rfl):p:=h
theorem ydm {p:Prop}(h:p:=by simp[Zn,Zd,t16]<;>rfl):p:=h
theorem ydn {p:Prop}(h:p:=by simp[Zn,Zd,t13]<;>rfl):p:=h
theorem ydo {p:Prop}(h:p:=by simp[Zn,Zd,t15]<;>rfl):p:=h
theorem ydp {p:Prop}(h:p:=by simp[Zn,Zd,t18]<;>rfl):p:=h
theorem ydq {p:Prop}(h:p:=by simp -implicitDefEqProofs(disch:=first|omega|simp only[nZ]<;>omega|fail)only[go_sem]):p:=h
theorem ydr {p:Prop}(h:p:=by simp[Zn,Zd,t17]<;>rfl):p:=h
theorem yds {p:Prop}(h:p:=by simp only[List.length_map];omega):p:=h
theorem ydt {p:Prop}(h:p:=by simp[Zn,Zd,t5]<;>rfl):p:=h
theorem ydu {p:Prop}(h:p:=by simp[Zn,Zd,t8]<;>rfl):p:=h
theorem ydv {p:Prop}(h:p:=by simp only[List.length_take];omega):p:=h
theorem ydw {p:Prop}(h:p:=by simp[Zn,Zd,t34]<;>rfl):p:=h
theorem ydx {p:Prop}(h:p:=by simp[Zn,Zd,t35]<;>rfl):p:=h
theorem ydy {p:Prop}(h:p:=by simp[Zn,Zd,t14]<;>rfl):p:=h
theorem ydz {p:Prop}(h:p:=by rw[H.next_add];omega):p:=h
theorem ydA {p:Prop}(h:p:=by simp[Zn,Zd,t0]<;>rfl):p:=h
namespace Go.Ab.Tryz
open Go.Ab.Silk
def YZ (m:Ml)(c:Nat→Bool)(lot:Int):Nat→Int × Int
 |0=>(0,10000)
 |k+1=>match m.wgs[k]? with
  |none=>YZ m c lot k
  |some w=>if c k=true∧w.lot=lot then(max (YZ m c lot k).1 (Z8 m w),min (YZ m c lot k).2 (Z1 m w)) else YZ m c lot k
theorem ownK_hit {m:Ml}{c:Nat→Bool}{lot:Int}{k:Nat}(hk:k<m.wgs.length)(hc:c k=true)(hl:m.wgs[k].lot=lot):YZ m c lot (k+1)=(max (YZ m c lot k).1 (Z8 m m.wgs[k]),min (YZ m c lot k).2 (Z1 m m.wgs[k])):=by
 simp only[YZ]
 rw[List.getElem?_eq_getElem hk]
 simp[hc,hl]
theorem Xv {m:Ml}{c:Nat→Bool}{lot:Int}{k:Nat}(hk:k<m.wgs.length)(h:c k=false∨m.wgs[k].lot≠lot):YZ m c lot (k+1)=YZ m c lot k:=by
 simp only[YZ]
 rw[List.getElem?_eq_getElem hk]
 simp only
 rw[if_neg]
 rintro⟨h1,h2⟩
 rcases h with h|h
 ·rw[h] at h1;cases h1
 ·exact h h2
theorem say_bd {m:Ml}(g:Good m){k:Nat}(hk:k<m.wgs.length):0≤Z8 m m.wgs[k]∧Z8 m m.wgs[k]≤20000∧0≤Z1 m m.wgs[k]∧Z1 m m.wgs[k]≤10000:=by
 have w1:=g.wg _ (List.getElem_mem hk)
 have w2:=g.errs
 have q2:=tdiv_le (a:=100*(m.wgs[k].reads+m.errs)) (b:=100+m.wgs[k].lo) ydc ydc
 have h1:=sayLo_nonneg (m:=m) (w:=m.wgs[k]) ydc
 refine⟨h1,?_,?_,?_⟩
 ·rw[sayLo_le ydc ydc]
  have:=Int.mul_le_mul_of_nonneg_left (show(100:Int)≤100+m.wgs[k].hi by omega) (show(0:Int)≤20000 by omega)
  omega
 ·unfold Z1;omega
 ·unfold Z1;omega
theorem ownK_bd {m:Ml}(g:Good m)(c:Nat→Bool)(lot:Int):∀k,0≤(YZ m c lot k).1∧(YZ m c lot k).1≤20000∧0≤(YZ m c lot k).2∧(YZ m c lot k).2≤10000
 |0=>by simp[YZ]
 |k+1=>by
  have ih:=ownK_bd g c lot k
  by_cases hk:k<m.wgs.length
  ·by_cases h:c k=true∧m.wgs[k].lot=lot
   ·have:=say_bd g hk
    rw[ownK_hit hk h.1 h.2];simp only;omega
   ·rw[Xv hk (by
     by_cases h1:c k=true
     ·exact .inr fun h2=>h ⟨h1,h2⟩
     ·exact .inl (by simpa using h1))]
    exact ih
  ·simp only[YZ]
   rw[List.getElem?_eq_none ydc]
   exact ih
def VB (m:Ml)(c:Nat→Bool)(k:Nat):Box:=fun lot=>if 0≤lot∧lot<m.lots.length then YZ m c lot k else(0,0)
def ownB (m:Ml)(c:Nat→Bool):Box:=VB m c m.wgs.length
theorem boxK_out {m:Ml}{c:Nat→Bool}{k:Nat}:∀j:Int,¬(0≤j∧j<m.lots.length)→VB m c k j=(0,0):=fun j h=>by unfold VB;rw[if_neg h]
theorem boxK_inv {m:Ml}(g:Good m)(c:Nat→Bool)(k:Nat):InvB (VB m c k):=fun j=>by
 unfold VB
 split
 ·have:=ownK_bd g c j k;omega
 ·simp
theorem boxK_hit {m:Ml}(g:Good m){c:Nat→Bool}{k:Nat}(hk:k<m.wgs.length)(hc:c k=true):VB m c (k+1)=updB (VB m c k) m.wgs[k].lot (max (VB m c k m.wgs[k].lot).1 (Z8 m m.wgs[k]),min (VB m c k m.wgs[k].lot).2 (Z1 m m.wgs[k])):=by
 have hl:=g.lot _ (List.getElem_mem hk)
 funext lot
 unfold VB updB
 by_cases e:lot=m.wgs[k].lot
 ·subst e
  rw[if_pos ⟨hl.1,by omega⟩,if_pos rfl,if_pos ⟨hl.1,by omega⟩,ownK_hit hk hc rfl]
 ·rw[if_neg e]
  dsimp only
  rw[Xv hk (.inr fun e'=>e e'.symm)]
theorem boxK_miss {m:Ml}{c:Nat→Bool}{k:Nat}(hk:k<m.wgs.length)(hc:c k=false):VB m c (k+1)=VB m c k:=by
 funext lot
 unfold VB
 rw[Xv hk (.inl hc)]
def lotsB (i:Nat):Box:=fun lot=>if 0≤lot∧lot<i then(0,10000) else(0,0)
theorem lotsB_step (i:Nat):lotsB (i+1)=updB (lotsB i) (i:Int) ((lotsB i (i:Int)).1,10000):=by
 funext lot
 unfold lotsB updB
 by_cases e:lot=(i:Int)
 ·subst e
  rw[if_pos ydc,if_pos rfl,if_neg ydc]
 ·rw[if_neg e]
  dsimp only
  by_cases h:0≤lot∧lot<(i:Int)
  ·rw[if_pos ydc,if_pos h]
  ·rw[if_neg ydc,if_neg h]
theorem lotsB_all (m:Ml)(c:Nat→Bool):lotsB m.lots.length=VB m c 0:=rfl
set_option maxHeartbeats 2000000 in
theorem bounds_ev {h:H}{d:Nat}{m:Ml}{f:V}{c:Nat→Bool}(hw:h.wf)(hd:WL h d m)(g:Good m)(hf1:f.one=true)(hf:∀i,i<m.wgs.length→Yy h f [.ii (i:Int)] (.bool (c i)))(Q:V→H→Prop)
  (q:∀r h',h.Sub h'→YR m.lots.length (parts m) (ownB m c) r→Q (Ws r) h'):Ev fnG Zm (.fn 33 [] []) [.ptr d 0,.agg [f]] h Q:=by
 have hd0:=hd
 obtain⟨pm,l,L,W,g1,g2,aL,aW,ap⟩:=hd
 have gl:=g.lots
 have hld:=hw _ _ g1
 have hlenL:=aL.lenE
 have hlenW:=aW.lenE
 refine Zf (fd:=c33) rfl rfl rfl ?_
 have s1:h.Sub (((h.add (.bk [f])).add (.bk (Zt Zw))).add (.bk (Zt Zw))):=ydb
 have ez:Zt Zw=Zt (lotsB 0):=by
  rw[show lotsB 0=Zw from funext fun lot=>by unfold lotsB Zw;rw[if_neg ydc]]
 have gw:=g.wgs
 simp -implicitDefEqProofs(disch:=first|omega|simp only[nZ]<;>omega|fail)only[c33,go_sem,Yf,hf1,Za g1,hlenL]
 refine Zi m.lots.length (fun i s=>∃tm h',s=⟨tm,h',[]⟩∧h.Sub h'∧h.next+2<h'.next∧h'.get h.next=some (.bk [f])∧h'.get (h.next+1)=some (.bk (Zt Zw))∧h'.get (h.next+1+1)=some (.bk (Zt (lotsB i)))∧
   tm.E 0=.ptr d 0∧tm.E 3=.ptr h.next 0∧tm.E 4=.ptr (h.next+1) 0∧tm.E 6=.ptr (h.next+1+1) 0∧tm.E 16=.ii (m.lots.length:Int)∧tm.E 17=.ii (i:Int))
  ?_ ?_ (i:=0) (Nat.zero_le _) ⟨_,_,rfl,s1,by simp only[H.next_add];omega,by simp -implicitDefEqProofs(maxSteps:=999999)(disch:=first|with_reducible rfl|omega|(simp only[nA,nS,nD]<;>omega)|fail)only[go_sem],by simp -implicitDefEqProofs(maxSteps:=999999)(disch:=first|with_reducible rfl|omega|(simp only[nA,nS,nD]<;>omega)|fail)only[go_sem],by rw[←ez];simp -implicitDefEqProofs(maxSteps:=999999)(disch:=first|with_reducible rfl|omega|(simp only[nA,nS,nD]<;>omega)|fail)only[go_sem],yda,yda,yda,yda,yda,yda⟩
 ·rintro i s hi ⟨tm,h',rfl,hs,lt,ga,gb,gc,t0,t3,t4,t6,t16,t17⟩
  have hi':(i:Int)<(m.lots.length:Int):=by omega
  have hi12:i<12:=by omega
  have hput:=encB_put2 (lotsB i) hi12 10000
  rw[←lotsB_step] at hput
  simp(disch:=omega)only[go_sem,t0,t3,t4,t6,t16,t17,hi',ZH (Zb i) hi12,gc,hput,Ze]
  have s2:=hs.set (b:=h.next+1+1) ydc ydc hw (.bk (Zt (lotsB (i+1))))
  exact⟨_,_,rfl,s2,by rw[H.next_set];omega,by rw[get_set_other ydc];exact ga,by rw[get_set_other ydc];exact gb,get_set_same rfl,ydA,ydf,ydh,ydg,ydm,yda⟩
 rintro s ⟨tm,h',rfl,hs,lt,ga,gb,gc,t0,t3,t4,t6,t16,t17⟩
 rw[lotsB_all m c] at gc
 simp(disch:=omega)only[go_sem,t0,t3,t4,t6,t16,t17,Int.lt_irrefl,Za (hs.get g1),hlenW]
 refine Zi m.wgs.length (fun i s=>∃tm h',s=⟨tm,h',[]⟩∧h.Sub h'∧h.next+2<h'.next∧h'.get h.next=some (.bk [f])∧h'.get (h.next+1)=some (.bk (Zt Zw))∧h'.get (h.next+1+1)=some (.bk (Zt (VB m c i)))∧
   tm.E 0=.ptr d 0∧tm.E 3=.ptr h.next 0∧tm.E 4=.ptr (h.next+1) 0∧tm.E 6=.ptr (h.next+1+1) 0∧tm.E 28=W∧tm.E 29=.ii (m.wgs.length:Int)∧tm.E 30=.ii (i:Int))
  ?_ ?_ (i:=0) (Nat.zero_le _) ⟨_,_,rfl,hs,lt,ga,gb,gc,ydA,ydf,ydh,ydg,yda,yda,yda⟩<;>clear t0 t3 t4 t6 t16 t17 ga gb gc lt hs h' tm
 ·rintro i s hi ⟨tm,h',rfl,hs,lt,ga,gb,gc,t0,t3,t4,t6,t28,t29,t30⟩
  have hi':(i:Int)<(m.wgs.length:Int):=by omega
  obtain⟨bb,o,cc,cs,rfl,hcs,hq,hgg,hn,hn0⟩:=(aW.mono hs).at hi
  have hl:=g.lot _ (List.getElem_mem hi)
  obtain⟨lt',elt⟩:=Int.eq_ofNat_of_zero_le hl.1
  have hlt12:lt'<12:=by omega
  have hsay:=say_bd g hi
  have sA:=(H.Sub.refl hs.wf).add (.bk (Zy m.wgs[i]))
  have hsA:=hs.trans sA
  simp(disch:=omega)only[go_sem,t0,t3,t4,t6,t28,t29,t30,hi',hq (Zb i),hcs,hgg,Zy]
  refine(V3 hsA.wf (hd0.mono hsA) g hi).mono fun u h3 hu=>?_
  obtain⟨rfl,s23⟩:=hu
  have hs3:=hsA.trans s23
  have l3:=s23.next
  rw[H.next_add] at l3
  have s34:=(H.Sub.refl hs3.wf).add (.bk [.ii (Z8 m m.wgs[i]),.ii (Z1 m m.wgs[i])])
  have hs4:=hs3.trans s34
  have ga3:=(sA.trans s23).get ga
  have gb3:=(sA.trans s23).get gb
  have gc3:=(sA.trans s23).get gc
  have gw3:h3.cells h'.next=some (Zy m.wgs[i]):=s23.cells (Zh rfl)
  simp(disch:=omega)only[go_sem,t0,t3,t4,t6,t28,t29,t30,Za ga3]
  refine(hf i hi).use hs4 fun h5 s45=>?_
  have hs5:=hs4.trans s45
  have l5:=s45.next
  rw[H.next_add] at l5
  have ga5:=(s34.trans s45).get ga3
  have gb5:=(s34.trans s45).get gb3
  have gc5:=(s34.trans s45).get gc3
  have gw5:=(s34.trans s45).cells gw3
  have gs5:h5.cells h3.next=some [.ii (Z8 m m.wgs[i]),.ii (Z1 m m.wgs[i])]:=s45.cells (Zh rfl)
  cases hc:c i
  ·simp(disch:=omega)only[go_sem,t0,t3,t4,t6,t28,t29,t30,hc,Ze]
   exact⟨_,_,rfl,hs5,by omega,ga5,gb5,by rw[boxK_miss hi hc];exact gc5,ydA,ydf,ydh,ydg,(by simp[Zn,Zd,t28]<;>rfl),(by simp[Zn,Zd,t29]<;>rfl),yda⟩
  ·obtain⟨n1,n2,n3⟩:=Xx (VB m c i) hlt12
   have hput:=fun x y=>encB_put (VB m c i) hlt12 x y
   simp(disch:=omega)only[go_sem,t0,t3,t4,t6,t28,t29,t30,hc,gw5,Zy,gs5,elt,ZH (Zb lt') hlt12,Za gc5,n1,n2]
   refine least_use (l:=[Z1 m m.wgs[i]]) (Zk.new _ rfl (by rfl) (by rfl) (by simp[encI]) (by simp)) ?_
   have s56:=(H.Sub.refl hs5.wf).add (.bk [.ii (Z1 m m.wgs[i])])
   have gc6:=s56.get gc5
   have hhit:=boxK_hit g hi hc
   rw[elt] at hhit
   have hs6:=(hs5.trans s56).set (b:=h.next+1+1) ydc ydz hw (.bk (Zt (VB m c (i+1))))
   simp(disch:=omega)only[go_sem,t0,t3,t4,t6,t28,t29,t30,hc,gw5,Zy,gs5,elt,ZH (Zb lt') hlt12,Za gc5,Za gc6,gc6,n1,n2,List.foldl,hput,←hhit,Ze]
   exact⟨_,_,rfl,hs6,by rw[H.next_set,H.next_add];omega,by rw[get_set_other ydc];exact s56.get ga5,by rw[get_set_other ydc];exact s56.get gb5,get_set_same rfl,ydA,ydf,ydh,ydg,(by simp[Zn,Zd,t28]<;>rfl),(by simp[Zn,Zd,t29]<;>rfl),yda⟩
 ·rintro s ⟨tm,h',rfl,hs,lt,ga,gb,gc,t0,t3,t4,t6,t28,t29,t30⟩
  simp(disch:=omega)only[go_sem,t0,t3,t4,t6,t28,t29,t30,Int.lt_irrefl,Za gc,ld_B]
  refine tight_ev hs.wf (hd0.mono hs) g (boxK_inv g c _) boxK_out _ fun r h2 s12 hr=>?_
  have gb2:=s12.get gb
  have hs2:=hs.trans s12
  have l2:=s12.next
  cases r with
  |none=>
   simp(disch:=omega)only[go_sem,Ws,t0,t3,t4,t6,Ve,Y8 Zw Zw gb2,ld_B]
   exact q none _ (hs2.set ydc ydc hw _) hr
  |some b=>
   simp(disch:=omega)only[go_sem,Ws,t0,t3,t4,t6,Ve,Y8 b Zw gb2,ld_B]
   exact q (some b) _ (hs2.set ydc ydc hw _) hr
end Go.Ab.Tryz
namespace Go.Ab
def slaV (n sz b:Nat)(v:V):Option V:=match natK? v with
 |some e=>og (bnds 0 e n) (og (Nat.ble n n) (some (sub b 0 sz (0,e,n))))
 |none=>none
theorem q_sla_to (tm:T V)(n sz b:Nat)(x:Opd):q_sla tm n sz (.ptr b 0) none (some x) none=slaV n sz b (x.ev tm):=by
 simp only[q_sla,Vl,Vd,slaV]
 cases natK? (x.ev tm) with
 |none=>rfl
 |some e=>
  simp only
  cases bnds 0 e n
  ·rfl
  ·simp only[YJ];cases Nat.ble n n<;>rfl
theorem slaV_int {n sz b k:Nat}(hk:k≤n)(hn:0<n):slaV n sz b (.ii (k:Int))=some (.sl b 0 k (.fix n)):=by
 have e1:Nat.ble 0 k=true:=by simp
 have e2:Nat.ble k n=true:=by simpa using hk
 have e3:Nat.ble n n=true:=by simp
 have e4:Nat.beq n 0=false:=by
  cases hb:Nat.beq n 0 with
  |false=>rfl
  |true=>have:=Nat.eq_of_beq_eq_true hb;omega
 simp only[slaV,VI,bnds,e1,e2,e3,YJ,sub,e4,bsel_false,Nat.zero_mul,Nat.add_zero,Nat.sub_zero]
theorem clone_core {h:H}{x:V}{sz by_:Nat}{rows:List (List V)}{Q:V→H→Prop}(hw:h.wf)(hx:Zk h x sz rows)(hl:rows.length*by_≤1000000000)(hl2:rows.length≤1000000000)(q:∀v h',ZK h h' v sz rows→Q v h'):
  P2 (Xg (h.add (.bk [])) sz by_ (.sl h.next 0 0 (.fix 0)) x) Q:=by
 have s1:h.Sub (h.add (.bk [])):=(H.Sub.refl hw).add _
 have hx1:=(hx.mono s1).elems
 rw[Vi,hx1.1,hx1.2]
 simp only[WZ]
 cases hn:rows.length with
 |zero=>
  have e:rows=[]:=List.length_eq_zero_iff.1 hn
  rw[Uj]
  have:Nat.ble 0 0=true:=rfl
  rw[this,YJ,Xl]
  exact q _ _ (by rw[e];exact⟨s1,by simp,.inr (.inr ⟨h.next,0,[],rfl,Nat.le_refl _,by rw[H.next_add];omega,Zo rfl,by simp,Nat.le_refl _⟩)⟩)
 |succ k=>
  rw[Ui ydc (elems_0 _ _ _ _ _) (by rw[hn] at hl;simp only[Nat.zero_add];omega) ydc,grown_eq,Xl]
  exact q _ _ ⟨s1.add _,hx.1,.inr (.inl ⟨(h.add (.bk [])).next,by rw[hn,Nat.zero_add],by rw[H.next_add];omega,by simp only[H.next_add];omega,by rw[Zo rfl];rfl⟩)⟩
namespace Tryz
open Go.Ab.Silk
theorem cloneSpan_ev {h:H}{x:V}{rows:List (List V)}(hw:h.wf)(hx:Zk h x 2 rows)(hl:rows.length≤1000000)(Q:V→H→Prop)(q:∀v h',ZK h h' v 2 rows→Q v h'):Ev fnG Zm (.fn 31 [] []) [x] h Q:=by
 refine Zf (fd:=c31) rfl rfl rfl ?_
 rcases hx.2.2 with⟨rfl,e⟩|⟨b,o,c,cs,rfl,_⟩
 ·simp(disch:=omega)only[c31,go_sem]
  exact q _ _ (by rw[e];exact(Zr.nil (H.Sub.refl hw) 2).c)
 ·simp(disch:=omega)only[c31,go_sem]
  refine clone_core hw hx ydc ydc fun v h' ov=>?_
  simp(disch:=omega)only[go_sem]
  exact q _ _ ov
theorem cloneInt_ev {h:H}{x:V}{rows:List (List V)}(hw:h.wf)(hx:Zk h x 1 rows)(hl:rows.length≤1000000)(Q:V→H→Prop)(q:∀v h',ZK h h' v 1 rows→Q v h'):Ev fnG Zm (.fn 157 [] []) [x] h Q:=by
 refine Zf (fd:=c157) rfl rfl rfl ?_
 rcases hx.2.2 with⟨rfl,e⟩|⟨b,o,c,cs,rfl,_⟩
 ·simp(disch:=omega)only[c157,go_sem]
  exact q _ _ (by rw[e];exact(Zr.nil (H.Sub.refl hw) 1).c)
 ·simp(disch:=omega)only[c157,go_sem]
  refine clone_core hw hx ydc ydc fun v h' ov=>?_
  simp(disch:=omega)only[go_sem]
  exact q _ _ ov
theorem all_ev (h:H)(Q:V→H→Prop):Ev fnG Zm (.fn 34 [] []) [] h Q=Q (.agg [.fn 93 [] []]) (h.add (.bk [.fn 93 [] []])):=by
 refine Ev.det (Zf (fd:=c34) rfl rfl rfl ?_) Q
 simp(disch:=omega)only[c34,go_sem]
theorem all1_pure (h:H)(x:V):Yy h (.fn 93 [] []) [x] (.bool true):=fun h1 hs=>by
 refine Zf (fd:=c93) rfl rfl rfl ?_
 simp(disch:=omega)only[c93,go_sem]
 exact H.Sub.refl hs.wf
def Zj:Nat→Bool:=fun _=>true
def ZC (m:Ml)(c:Nat→Bool)(w:Int→Int):Prop:=WS m.lots.length (parts m) (ownB m c) w
def Xs (m:Ml)(c:Nat→Bool)(b:Box):Prop:=Exact m.lots.length (parts m) (ownB m c) b∧∀j:Int,¬(0≤j∧j<m.lots.length)→b j=(0,0)
theorem tightR_sem {m:Ml}(g:Good m){c:Nat→Bool}{r:Option Box}(h:YR m.lots.length (parts m) (ownB m c) r):(r=none∧¬∃w,ZC m c w)∨∃b,r=some b∧Xs m c b∧Tight m.lots.length (parts m) b:=by
 have gl:=g.lots
 cases r with
 |none=>exact .inl ⟨rfl,(h.none_iff (Zv g) ydc).1 rfl⟩
 |some b=>exact .inr ⟨b,rfl,⟨h.exact (Zv g),fun j hj=>by rw[h.out (Zv g) j hj];exact boxK_out j hj⟩,h.nrw.2⟩
theorem Xs.feas {m:Ml}(g:Good m){c:Nat→Bool}{b:Box}(h:Xs m c b):∃w,ZC m c w:=by
 have gl:=g.lots
 obtain⟨w,f,_⟩:=h.1.full 0 _ ydc ydc (Int.le_refl _) (h.1.ne 0 ydc ydc)
 exact⟨w,f⟩
theorem Xs.uniq {m:Ml}{c:Nat→Bool}{b b':Box}(h:Xs m c b)(k:Xs m c b'):b=b':=funext fun j=>by
 by_cases hj:0≤j∧j<m.lots.length
 ·exact h.1.uniq k.1 hj.1 hj.2
 ·rw[h.2 j hj,k.2 j hj]
theorem ownB_bd {m:Ml}(g:Good m)(c:Nat→Bool)(j:Int):0≤(ownB m c j).1∧(ownB m c j).2≤10000:=by
 have:=boxK_inv g c m.wgs.length j
 exact⟨this.1,this.2.2.2⟩
theorem Xs.bd {m:Ml}(g:Good m){c:Nat→Bool}{b:Box}(h:Xs m c b)(j:Int):0≤(b j).1∧(b j).1≤10000∧0≤(b j).2∧(b j).2≤10000:=by
 by_cases hj:0≤j∧j<m.lots.length
 ·have hn:=h.1.ne j hj.1 hj.2
  obtain⟨w1,f1,e1⟩:=h.1.full j _ hj.1 hj.2 (Int.le_refl _) hn
  obtain⟨w2,f2,e2⟩:=h.1.full j _ hj.1 hj.2 hn (Int.le_refl _)
  have h1:=f1.1 j hj.1 hj.2
  have h2:=f2.1 j hj.1 hj.2
  have:=ownB_bd g c j
  omega
 ·rw[h.2 j hj];simp
theorem SlAt_keep2 {h h':H}{S:Nat→Prop}{x:V}{sz:Nat}{rows:List (List V)}(a:Zk h x sz rows)(k:Zq S h h')(n:rows≠[]→∀b,Zs x b→¬S b):Zk h' x sz rows:=by
 obtain⟨a1,a0,a2⟩:=a
 refine⟨a1,a0,?_⟩
 rcases a2 with a2|⟨b,o,c,cs,e1,e2,e3⟩
 ·exact .inl a2
 ·refine .inr ⟨b,o,c,cs,e1,?_,e3⟩
  by_cases hr:rows=[]
  ·exact .inl hr
  ·exact .inr (k.cells (e2.resolve_left hr) (n hr b ⟨_,_,_,e1⟩))
theorem Vv {h:H}{x:V}{sz:Nat}{rows:List (List V)}(hw:h.wf)(a:Zk h x sz rows)(hr:rows≠[]):∀b,Zs x b→b<h.next:=by
 rintro b ⟨o',n',c',e⟩
 rcases a.2.2 with⟨rfl,_⟩|⟨b',o,c,cs,e1,e2,e3⟩
 ·cases e
 ·rw[e1] at e;cases e
  obtain⟨k,hk⟩:=H.cells_eq (e2.resolve_left hr)
  exact hw _ _ hk
theorem opened_keep {h0 h:H}{v:V}{m:Ml}(hs:h0.Sub h)(hw0:h0.wf)(hm:ZF h0 v m):Ev fnG Zm (.fn 37 [] []) [v] h fun u h'=>h.Sub h'∧((check m≠0∧u=.tup [.nilp,.ii (check m)])∨
  (check m=0∧∃d,u=.tup [.ptr d 0,.ii 0]∧WL h' d m∧∀(h'':H) (S:Nat→Prop),Zq S h' h''→(∀c,S c→h0.next≤c∧c<h.next)→WL h'' d m)):=by
 refine(opened_ev hs.wf (hm.mono hs)).mono fun u h' hu=>?_
 obtain⟨hs',hu|⟨c,d,pm,l,L,W,e1,ld,lp,e2,g1,g2,pt⟩⟩:=hu
 ·exact⟨hs',.inl hu⟩
 ·obtain⟨L',W',e,aL,aW⟩:=hm
  rw[e2] at e;cases e
  have hgl:=(ZJ c).lots
  have hparts:∀k,Zk h' (found .nils false (lkA k l)) 1 ((parts m k).map encI)∧∀b,Zs (found .nils false (lkA k l)) b→h.next≤b:=fun k=>by
   have hl:=ZV m k
   rcases pt.1 k with⟨f1,f2⟩|⟨s,f1,f2⟩
   ·rw[f1,f2];exact⟨(Zr.nil hs' 1).sl (by simp),fun b hb=>(ZE hb).elim⟩
   ·rw[f1];exact⟨f2.sl yds,fun b hb=>(f2.blk hb).1⟩
  refine⟨hs',.inr ⟨c,d,e1,⟨pm,l,L,W,g1,g2,(aL.mono hs).mono hs',(aW.mono hs).mono hs',fun k=>(hparts k).1⟩,fun h'' S k hS=>⟨pm,l,L,W,k.2 _ _ g1 fun h=>by have:=hS _ h;omega,k.2 _ _ g2 fun h=>by have:=hS _ h;omega,?_,?_,fun j=>?_⟩⟩⟩
  ·exact SlAt_keep2 ((aL.mono hs).mono hs') k fun hr b hb h=>by have:=Vv hw0 aL hr b hb;have:=hS _ h;omega
  ·exact SlAt_keep2 ((aW.mono hs).mono hs') k fun hr b hb h=>by have:=Vv hw0 aW hr b hb;have:=hS _ h;omega
  ·exact SlAt_keep2 (hparts j).1 k fun _ b hb h=>by have:=(hparts j).2 b hb;have:=hS _ h;omega
theorem told_ev {h:H}{v:V}{m:Ml}(hw:h.wf)(hm:ZF h v m):Ev fnG Zm (.fn 30 [] []) [v] h fun u h'=>h.Sub h'∧((check m≠0∧u=.tup [.nilp,.agg (Zt Zw),.ii (check m)])∨
  (check m=0∧(¬∃w,ZC m Zj w)∧u=.tup [.nilp,.agg (Zt Zw),.ii 7])∨
  (check m=0∧∃d b,u=.tup [.ptr d 0,.agg (Zt b),.ii 0]∧WL h' d m∧Xs m Zj b∧Tight m.lots.length (parts m) b)):=by
 refine Ev.gen fun Q q=>?_
 have hm0:=hm
 obtain⟨L,W,rfl,aL,aW⟩:=hm
 refine Zf (fd:=c30) rfl rfl rfl ?_
 have s2:h.Sub ((h.add (.bk [.ii m.errs,L,W])).add (.bk (Zt Zw))):=ydb
 simp -implicitDefEqProofs(disch:=first|omega|simp only[nZ]<;>omega|fail)only[c30,go_sem,Yf]
 refine(opened_keep s2 hw hm0).mono fun u h3 hu=>?_
 obtain⟨s23,hu⟩:=hu
 have l3:=s23.next
 simp only[H.next_add] at l3
 have s3:=s2.trans s23
 have g2:h3.get (h.next+1)=some (.bk (Zt Zw)):=s23.get ydq
 rcases hu with⟨c,rfl⟩|⟨c,d,rfl,hd,hkeep⟩
 ·simp(disch:=omega)only[go_sem,c,ne_eq,not_false_eq_true,Yf,Ve,Y8 Zw Zw g2,ld_B]
  exact q _ _ ⟨s3.set ydc ydc hw _,.inl ⟨c,rfl⟩⟩
 have g:=ZJ c
 have s34:=(H.Sub.refl s3.wf).add (.bk [.fn 93 [] []])
 simp(disch:=omega)only[go_sem,c,ne_eq,not_true_eq_false,all_ev]
 refine bounds_ev (c:=Zj) (H.Sub.wf s34) (hd.mono s34) g rfl (fun i _=>all1_pure _ _) _ fun r h4 s44 hr=>?_
 have s4:=s3.trans (s34.trans s44)
 have l4:=(s34.trans s44).next
 have g4:=(s34.trans s44).get g2
 have hz:(h4.add (.bk (Zt Zw))).get h4.next=some (.bk (Zt Zw)):=Zo rfl
 rcases tightR_sem g hr with⟨rfl,hno⟩|⟨b,rfl,hex,ht⟩
 ·have s45:=(H.Sub.refl s4.wf).add (.bk (Zt Zw))
  have g5:=s45.get g4
  simp(disch:=omega)only[go_sem,Ws,Yf,Ve,Y8 Zw Zw hz,Y8 Zw Zw g5,ld_B]
  exact q _ _ ⟨(s4.trans s45).set ydc ydz hw _,.inr (.inl ⟨c,hno,rfl⟩)⟩
 ·have s45:=(H.Sub.refl s4.wf).add (.bk (Zt b))
  have g5:=s45.get g4
  have e5:(h4.add (.bk (Zt b))).cells h4.next=some (Zt b):=Zh rfl
  simp(disch:=omega)only[go_sem,Ws,Yf,Ve,Y8 b Zw hz,e5,Y8 b Zw g5,ld_B]
  have k6:=(Zq.of (s34.trans (s44.trans s45)) (fun c=>c=h.next+1)).trans (Zq.set (h4.add (.bk (Zt b))) (h.next+1) (.bk (Zt b)))
  exact q _ _ ⟨(s4.trans s45).set ydc ydz hw _,.inr (.inr ⟨c,d,b,rfl,hkeep _ _ k6 (fun c hc=>by simp only[H.next_add];omega),hex,ht⟩)⟩
def Yh (b:Box)(n:Nat):List (List Int):=(List.range n).map fun(i:Nat)=>[(b (i:Int)).1,(b (i:Int)).2]
theorem Yk (b:Box)(n:Nat):(Yh b n).length=n:=by simp[Yh]
theorem take_B (b:Box){n:Nat}(hn:n≤12):WQ 0 (n*2) (Zt b)=some ((Yh b n).map (List.map iv)).flatten:=by
 have:n=0∨n=1∨n=2∨n=3∨n=4∨n=5∨n=6∨n=7∨n=8∨n=9∨n=10∨n=11∨n=12:=by omega
 rcases this with rfl|rfl|rfl|rfl|rfl|rfl|rfl|rfl|rfl|rfl|rfl|rfl|rfl<;>rfl
theorem spans_sl {h:H}{p:Nat}{b:Box}(hp:h.cells p=some (Zt b)){n:Nat}(hn:n≤12):Zk h (.sl p 0 n (.fix 12)) 2 ((Yh b n).map (List.map iv)):=by
 refine⟨fun r hr=>?_,by simp[Yk];omega,.inr ⟨p,0,.fix 12,_,by simp[Yk],.inr hp,?_⟩⟩
 ·obtain⟨s,hs,rfl⟩:=List.mem_map.1 hr
  obtain⟨i,_,rfl⟩:=List.mem_map.1 hs
  rfl
 ·rw[List.length_map,Yk];exact take_B b hn
theorem Bounds_own {h:H}{v:V}{m:Ml}(hw:h.wf)(hm:ZF h v m):Ev fnG Zm (.fn 7 [] []) [v] h fun u h'=>h.Sub h'∧∃x l e,u=.tup [x,.ii e]∧ZK h h' x 2 (l.map (List.map iv))∧l.length≤12∧((check m≠0∧e=check m∧l=[])∨
  (check m=0∧(¬∃w,ZC m Zj w)∧e=7∧l=[])∨(check m=0∧∃b,Xs m Zj b∧e=0∧l=Yh b m.lots.length)):=by
 refine Ev.gen fun Q q=>?_
 have hm0:=hm
 obtain⟨L,W,rfl,aL,aW⟩:=hm
 refine Zf (fd:=c7) rfl rfl rfl ?_
 have hlenL:=aL.lenE
 have s2:h.Sub (h.add (.bk [.ii m.errs,L,W])):=ydb
 simp(disch:=omega)only[c7,go_sem,Yf]
 refine(told_ev s2.wf (hm0.mono s2)).mono fun u h3 hu=>?_
 obtain⟨s23,hu⟩:=hu
 have l3:=s23.next
 simp only[H.next_add] at l3
 have s3:=s2.trans s23
 have g2:h3.cells h.next=some [.ii m.errs,L,W]:=s23.cells (Zh rfl)
 have hz:(h3.add (.bk (Zt Zw))).get h3.next=some (.bk (Zt Zw)):=Zo rfl
 rcases hu with⟨c,rfl⟩|⟨c,hno,rfl⟩|⟨c,d,b,rfl,hd,hex,_⟩
 ·have s4:=s3.add (.bk (Zt Zw))
  simp(disch:=omega)only[go_sem,Yf,Ve,Y8 Zw Zw hz,c,ne_eq,not_false_eq_true]
  exact q _ _ ⟨s4,.nils,[],check m,rfl,(Zr.nil s4 2).c,by simp,.inl ⟨c,rfl,rfl⟩⟩
 ·have s4:=s3.add (.bk (Zt Zw))
  simp(disch:=omega)only[go_sem,Yf,Ve,Y8 Zw Zw hz,ne_eq,Int.reduceEq,not_false_eq_true]
  exact q _ _ ⟨s4,.nils,[],7,rfl,(Zr.nil s4 2).c,by simp,.inr (.inl ⟨c,hno,rfl,rfl⟩)⟩
 ·have g:=ZJ c
  have gl:=g.lots
  have s4:=s3.add (.bk (Zt b))
  have g4:(h3.add (.bk (Zt b))).cells h3.next=some (Zt b):=Zh rfl
  have hsl:=spans_sl g4 (n:=m.lots.length) ydc
  simp(disch:=omega)only[go_sem,Yf,Ve,Y8 b Zw hz,ne_eq,not_true_eq_false,g2,hlenL,q_sla_to,slaV_int]
  refine cloneSpan_ev s4.wf hsl (by simp[Yk];omega) _ fun x h5 ox=>?_
  simp(disch:=omega)only[go_sem]
  exact q _ _ ⟨s4.trans ox.1,x,_,0,rfl,ox.base s4,by rw[Yk];omega,.inr (.inr ⟨c,b,hex,rfl,rfl⟩)⟩
theorem Bounds_ev {h:H}{v:V}{m:Ml}(hw:h.wf)(hm:ZF h v m):Ev fnG Zm (.fn 7 [] []) [v] h fun u h'=>h.Sub h'∧∃x l e,u=.tup [x,.ii e]∧Zk h' x 2 (l.map (List.map iv))∧((check m≠0∧e=check m∧l=[])∨
  (check m=0∧(¬∃w,ZC m Zj w)∧e=7∧l=[])∨(check m=0∧∃b,Xs m Zj b∧e=0∧l=Yh b m.lots.length)):=
 (Bounds_own hw hm).mono fun u h' hu=>by
  obtain⟨hs,x,l,e,rfl,ox,hl,spec⟩:=hu
  exact⟨hs,x,l,e,rfl,ox.sl yds,spec⟩
def Z6 (b:Box):Nat→Nat
 |0=>0
 |k+1=>if(b (Z6 b k:Nat)).2-(b (Z6 b k:Nat)).1<(b (k:Int)).2-(b (k:Int)).1 then k else Z6 b k
theorem Vm (b:Box):∀k,Z6 b k≤k-1
 |0=>Nat.le_refl _
 |k+1=>by
  have:=Vm b k
  simp only[Z6];split<;>omega
theorem Widest_ev {h:H}{v:V}{m:Ml}(hw:h.wf)(hm:ZF h v m):Ev fnG Zm (.fn 57 [] []) [v] h fun u h'=>h.Sub h'∧∃n lo hi e,u=.tup [.ii n,.agg [.ii lo,.ii hi],.ii e]∧((check m≠0∧e=check m∧n=0∧lo=0∧hi=0)∨
  (check m=0∧(¬∃w,ZC m Zj w)∧e=7∧n=0∧lo=0∧hi=0)∨(check m=0∧∃b,Xs m Zj b∧e=0∧n=(Z6 b m.lots.length:Nat)∧lo=(b (Z6 b m.lots.length:Nat)).1∧hi=(b (Z6 b m.lots.length:Nat)).2)):=by
 refine Ev.gen fun Q q=>?_
 have hm0:=hm
 obtain⟨L,W,rfl,aL,aW⟩:=hm
 refine Zf (fd:=c57) rfl rfl rfl ?_
 have hlenL:=aL.lenE
 have s2:h.Sub ((h.add (.bk [.ii m.errs,L,W])).add (.bk [.ii 0,.ii 0])):=ydb
 simp -implicitDefEqProofs(disch:=first|omega|simp only[nZ]<;>omega|fail)only[c57,go_sem,Yf]
 refine(told_ev s2.wf (hm0.mono s2)).mono fun u h3 hu=>?_
 obtain⟨s23,hu⟩:=hu
 have l3:=s23.next
 simp only[H.next_add] at l3
 have s3:=s2.trans s23
 have g2:h3.cells h.next=some [.ii m.errs,L,W]:=s23.cells ydq
 have gr:h3.get (h.next+1)=some (.bk [.ii 0,.ii 0]):=s23.get ydq
 have hz:(h3.add (.bk (Zt Zw))).get h3.next=some (.bk (Zt Zw)):=Zo rfl
 rcases hu with⟨c,rfl⟩|⟨c,hno,rfl⟩|⟨c,d,b,rfl,hd,hex,_⟩
 ·have s4:=s3.add (.bk (Zt Zw))
  simp(disch:=omega)only[go_sem,Yf,Ve,Y8 Zw Zw hz,c,ne_eq,not_false_eq_true,gr]
  exact q _ _ ⟨s4.set ydc ydz hw _,0,0,0,check m,rfl,.inl ⟨c,rfl,rfl,rfl,rfl⟩⟩
 ·have s4:=s3.add (.bk (Zt Zw))
  simp(disch:=omega)only[go_sem,Yf,Ve,Y8 Zw Zw hz,ne_eq,Int.reduceEq,not_false_eq_true,gr]
  exact q _ _ ⟨s4.set ydc ydz hw _,0,0,0,7,rfl,.inr (.inl ⟨c,hno,rfl,rfl,rfl,rfl⟩)⟩
 ·have g:=ZJ c
  have gl:=g.lots
  have s4:=s3.add (.bk (Zt b))
  have g4:(h3.add (.bk (Zt b))).cells h3.next=some (Zt b):=Zh rfl
  have gr4:=((H.Sub.refl s3.wf).add (.bk (Zt b))).get gr
  have l4:(h3.add (.bk (Zt b))).next=h3.next+1:=H.next_add _ _
  simp(disch:=omega)only[go_sem,Yf,Ve,Y8 b Zw hz,ne_eq,not_true_eq_false,g2,hlenL]
  generalize h3.add (.bk (Zt b))=h4 at s4 g4 gr4 l4⊢
  refine Zi m.lots.length (fun i s=>∃tm,s=⟨tm,h4,[]⟩∧tm.E 3=.ptr (h.next+1) 0∧tm.E 6=.ptr h3.next 0∧tm.E 8=.ii ((Z6 b i:Nat):Int)∧tm.E 22=.ii (m.lots.length:Int)∧tm.E 23=.ii (i:Int))
   ?_ ?_ (i:=0) (Nat.zero_le _) ⟨_,rfl,yda,yda,yda,yda,yda⟩
  ·rintro i s hi ⟨tm,rfl,t3,t6,t8,t22,t23⟩
   have hi':(i:Int)<(m.lots.length:Int):=by omega
   have hi12:i<12:=by omega
   have hb12:Z6 b i<12:=by have:=Vm b i;omega
   obtain⟨n1,n2,n3⟩:=Xx b hi12
   obtain⟨m1,m2,m3⟩:=Xx b hb12
   have b1:=hex.bd g (i:Int)
   have b2:=hex.bd g (Z6 b i:Nat)
   by_cases hlt:(b (Z6 b i:Nat)).2-(b (Z6 b i:Nat)).1<(b (i:Int)).2-(b (i:Int)).1
   ·simp(disch:=omega)only[go_sem,t3,t6,t8,t22,t23,hi',ZH (Zb i) hi12,ZH (Zb (Z6 b i)) hb12,g4,n1,n2,m1,m2,ZD,hlt,Ze]
    exact⟨_,rfl,ydf,ydg,by simp only[Z6,if_pos hlt];exact yda,(by simp[Zn,Zd,t22]<;>rfl),yda⟩
   ·simp(disch:=omega)only[go_sem,t3,t6,t8,t22,t23,hi',ZH (Zb i) hi12,ZH (Zb (Z6 b i)) hb12,g4,n1,n2,m1,m2,ZD,hlt,Ze]
    exact⟨_,rfl,ydf,ydg,by simp only[Z6,if_neg hlt];exact ydu,(by simp[Zn,Zd,t22]<;>rfl),yda⟩
  ·rintro s ⟨tm,rfl,t3,t6,t8,t22,t23⟩
   have hb12:Z6 b m.lots.length<12:=by have:=Vm b m.lots.length;omega
   obtain⟨m1,m2,m3⟩:=Xx b hb12
   simp(disch:=omega)only[go_sem,t3,t6,t8,t22,t23,Int.lt_irrefl,ZH (Zb (Z6 b m.lots.length)) hb12,g4,m3,gr4]
   exact q _ _ ⟨s4.set ydc ydc hw _,_,_,_,0,rfl,.inr (.inr ⟨c,b,hex,rfl,rfl,rfl,rfl⟩)⟩
end Tryz
end Go.Ab
namespace Go.Ab.Tryz
open Go.Ab.Silk
def YM (l:List Int):Int→Int:=fun i=>l.getD i.toNat 0
theorem XJ {l:List Int}{i:Nat}(hi:i<l.length):YM l (i:Int)=l[i]:=by
 unfold YM
 rw[Int.toNat_natCast,List.getD_eq_getElem?_getD,List.getElem?_eq_getElem hi];rfl
theorem Feas_congr {n:Nat}{parts:Int→List Int}{B:Box}{w w':Int→Int}(hp:∀i p:Int,p∈parts i→0≤p∧p<n)(f:WS n parts B w)(h:∀i:Int,0≤i→i<n→w' i=w i):WS n parts B w':=
 ⟨fun i i0 i1=>by rw[h i i0 i1];exact f.1 i i0 i1,fun i i0 i1 hne=>by
  rw[h i i0 i1,f.2 i i0 i1 hne]
  exact(ZN fun p hpp=>h p (hp i p hpp).1 (hp i p hpp).2).symm⟩
theorem fix_step {m:Ml}(g:Good m){b:Box}(ht:Tight m.lots.length (parts m) b)(hn:Nrw (ownB m Zj) b){i v:Int}(i0:0≤i)(i1:i<m.lots.length)(v1:(b i).1≤v)(v2:v≤(b i).2){r:Option Box}(hr:YR m.lots.length (parts m) (updB b i (v,v)) r):
  ∃c,r=some c∧Tight m.lots.length (parts m) c∧Nrw (ownB m Zj) c∧c i=(v,v)∧(∀j:Int,¬(0≤j∧j<m.lots.length)→c j=b j)∧∀(j:Int) (u:Int),0≤j→j<m.lots.length→b j=(u,u)→c j=(u,u):=by
 have F:=Zv g
 obtain⟨w,f,e⟩:=tight_full F ht i0 i1 v1 v2
 have f':WS m.lots.length (parts m) (updB b i (v,v)) w:=⟨fun j j0 j1=>by
  by_cases hj:j=i
  ·subst hj;unfold updB;rw[if_pos rfl,e];exact⟨Int.le_refl _,Int.le_refl _⟩
  ·unfold updB;rw[if_neg hj];exact f.1 j j0 j1,f.2⟩
 obtain⟨c,rfl,_⟩:=hr.sound F w f'
 obtain⟨n1,t1⟩:=hr.nrw
 have hup:Nrw b (updB b i (v,v)):=fun j=>by
  by_cases hj:j=i
  ·subst hj;unfold updB;rw[if_pos rfl];exact⟨v1,v2⟩
  ·unfold updB;rw[if_neg hj];exact⟨Int.le_refl _,Int.le_refl _⟩
 have fixed:∀(j:Int) (u:Int),0≤j→j<m.lots.length→updB b i (v,v) j=(u,u)→c j=(u,u):=fun j u j0 j1 h=>by
  have a1:=n1 j
  have a2:=t1.ne j j0 j1
  rw[h] at a1
  simp only at a1
  exact Prod.ext (by simp only;omega) (by simp only;omega)
 refine⟨c,rfl,t1,hn.trans (hup.trans n1),fixed i v i0 i1 (by unfold updB;rw[if_pos rfl]),fun j hj=>?_,fun j u j0 j1 h=>?_⟩
 ·rw[hr.out F j hj];unfold updB;rw[if_neg ydc]
 ·by_cases hj:j=i
  ·subst hj
   have:v=u:=by rw[h] at v1 v2;simp only at v1 v2;omega
   subst this
   exact fixed j v j0 j1 (by unfold updB;rw[if_pos rfl])
  ·exact fixed j u j0 j1 (by unfold updB;rw[if_neg hj];exact h)
theorem InvB.of {m:Ml}(g:Good m){b:Box}(ht:Tight m.lots.length (parts m) b)(hn:Nrw (ownB m Zj) b)(ho:∀j:Int,¬(0≤j∧j<m.lots.length)→b j=(0,0)):∀j:Int,0≤(b j).1∧(b j).1≤10000∧0≤(b j).2∧(b j).2≤10000:=fun j=>by
 by_cases hj:0≤j∧j<m.lots.length
 ·have h1:=ht.ne j hj.1 hj.2
  have h2:=hn j
  have h3:=ownB_bd g Zj j
  omega
 ·rw[ho j hj];simp
theorem upd_inv {b:Box}(h:∀j:Int,0≤(b j).1∧(b j).1≤10000∧0≤(b j).2∧(b j).2≤10000){i v:Int}(hv:0≤v∧v≤10000):InvB (updB b i (v,v)):=fun j=>by
 unfold updB
 split
 ·simp only;omega
 ·have:=h j;omega
theorem upd_out {m:Ml}{b:Box}(ho:∀j:Int,¬(0≤j∧j<m.lots.length)→b j=(0,0)){i v:Int}(i0:0≤i)(i1:i<m.lots.length):∀j:Int,¬(0≤j∧j<m.lots.length)→updB b i (v,v) j=(0,0):=fun j hj=>by
 unfold updB
 rw[if_neg ydc];exact ho j hj
set_option maxHeartbeats 2000000 in
theorem Weights_own {h:H}{v:V}{m:Ml}(hw:h.wf)(hm:ZF h v m)(lot dry:Int):Ev fnG Zm (.fn 8 [] []) [v,.ii lot,.ii dry] h fun u h'=>h.Sub h'∧∃x l e,u=.tup [x,.ii e]∧Zr h h' x 1 (l.map encI)∧l.length≤12∧((check m≠0∧e=check m∧l=[])∨
  (check m=0∧¬(0≤lot∧lot≤(m.lots.length:Int)-1)∧e=1∧l=[])∨(check m=0∧(0≤lot∧lot≤(m.lots.length:Int)-1)∧(¬∃w,ZC m Zj w∧w lot=dry)∧e=6∧l=[])∨
  (check m=0∧(0≤lot∧lot≤(m.lots.length:Int)-1)∧e=0∧l.length=m.lots.length∧ZC m Zj (YM l)∧YM l lot=dry)):=by
 refine Ev.gen fun Q q=>?_
 have hm0:=hm
 obtain⟨L,W,rfl,aL,aW⟩:=hm
 refine Zf (fd:=c8) rfl rfl rfl ?_
 have hlenL:=aL.lenE
 have s2:h.Sub (h.add (.bk [.ii m.errs,L,W])):=ydb
 simp(disch:=omega)only[c8,go_sem,Yf]
 refine(known_ev s2.wf (hm0.mono s2) lot).mono fun u h3 hu=>?_
 obtain⟨s23,hu⟩:=hu
 have s3:=s2.trans s23
 have nil3:Zr h h3 .nils 1 (([]:List Int).map encI):=Zr.nil s3 1
 rcases hu with⟨c,rfl⟩|⟨c,c2,rfl⟩|⟨c,c2,d,rfl,hd⟩
 ·simp(disch:=omega)only[go_sem,ne_eq,c,not_false_eq_true]
  exact q _ _ ⟨s3,.nils,[],check m,rfl,nil3,by simp,.inl ⟨c,rfl,rfl⟩⟩
 ·simp(disch:=omega)only[go_sem,ne_eq,Int.reduceEq,not_false_eq_true]
  exact q _ _ ⟨s3,.nils,[],1,rfl,nil3,by simp,.inr (.inl ⟨c,c2,rfl,rfl⟩)⟩
 have g:=ZJ c
 have gl:=g.lots
 have F:=Zv g
 obtain⟨n,rfl⟩:=Int.eq_ofNat_of_zero_le c2.1
 have hn:n<m.lots.length:=by omega
 have hn12:n<12:=by omega
 have s34:=(H.Sub.refl s3.wf).add (.bk [.fn 93 [] []])
 simp(disch:=omega)only[go_sem,ne_eq,not_true_eq_false,all_ev]
 refine bounds_ev (c:=Zj) (H.Sub.wf s34) (hd.mono s34) g rfl (fun i _=>all1_pure _ _) _ fun r h4 s44 hr=>?_
 have hs34:=s34.trans s44
 have s4:=s3.trans hs34
 have hz:(h4.add (.bk (Zt Zw))).get h4.next=some (.bk (Zt Zw)):=Zo rfl
 have nilz:∀hh,h4.Sub hh→Zr h hh .nils 1 (([]:List Int).map encI):=fun hh hs=>nil3.mono (hs34.trans hs)
 have hnrw:=hr
 rcases tightR_sem g hr with⟨rfl,hno⟩|⟨b,rfl,hex,ht⟩
 ·have s45:=(H.Sub.refl s4.wf).add (.bk (Zt Zw))
  simp(disch:=omega)only[go_sem,Ws,Yf,Ve,Y8 Zw Zw hz]
  exact q _ _ ⟨s4.trans s45,.nils,[],6,rfl,nilz _ s45,by simp,.inr (.inr (.inl ⟨c,c2,fun⟨w,f,_⟩=>hno ⟨w,f⟩,rfl,rfl⟩))⟩
 have hnb:Nrw (ownB m Zj) b:=hr.nrw.1
 obtain⟨n1,n2,n3⟩:=Xx b hn12
 have s45:=(H.Sub.refl s4.wf).add (.bk (Zt b))
 have g5:(h4.add (.bk (Zt b))).get h4.next=some (.bk (Zt b)):=Zo rfl
 have l5:(h4.add (.bk (Zt b))).next=h4.next+1:=H.next_add _ _
 by_cases hdry:(b (n:Int)).1≤dry∧dry≤(b (n:Int)).2
 case neg=>
  simp(disch:=omega)only[go_sem,Ws,Yf,Ve,Y8 b Zw hz,ZH (Zb n) hn12,Za g5,n1,n2,Vr,hdry]
  refine q _ _ ⟨s4.trans s45,.nils,[],6,rfl,nilz _ s45,by simp,.inr (.inr (.inl ⟨c,c2,fun⟨w,f,e⟩=>hdry ?_,rfl,rfl⟩))⟩
  have:=hex.1.sound w f (n:Int) c2.1 ydc
  rw[e] at this;exact this
 have hbB:=InvB.of g ht hnb hex.2
 have hput:=encB_put b hn12 dry dry
 have hbn:=hbB (n:Int)
 simp(disch:=omega)only[go_sem,Ws,Yf,Ve,Y8 b Zw hz,ZH (Zb n) hn12,Za g5,n1,n2,Vr,hdry,g5,hput,ld_B]
 have s4set:∀(hh:H) (x:Blk),h4.Sub hh→h4.next<hh.next→h4.Sub (hh.set h4.next x):=fun hh x s l=>s.set (Nat.le_refl _) l s4.wf x
 have s46:=s45.add (.bk (Zt (updB b (n:Int) (dry,dry))))
 have s4b:h4.Sub (h4.add (.bk (Zt (updB b (n:Int) (dry,dry))))):=(H.Sub.refl s4.wf).add _
 have g6:(h4.add (.bk (Zt (updB b (n:Int) (dry,dry))))).get h4.next=some (.bk (Zt (updB b (n:Int) (dry,dry)))):=Zo rfl
 have l6:(h4.add (.bk (Zt (updB b (n:Int) (dry,dry))))).next=h4.next+1:=H.next_add _ _
 refine tight_ev (s4.trans s4b).wf (hd.mono (hs34.trans s4b)) g (upd_inv hbB ydc) (upd_out hex.2 c2.1 ydc) _ fun r h7 s67 hr7=>?_
 obtain⟨b7,rfl,ht7,hn7,hfix7,ho7,_⟩:=fix_step g ht hnb c2.1 ydc hdry.1 hdry.2 hr7
 have ho7':∀j:Int,¬(0≤j∧j<m.lots.length)→b7 j=(0,0):=fun j hj=>by rw[ho7 j hj];exact hex.2 j hj
 have g7:=s67.get g6
 have l7:=s67.next
 have s47:=s4b.trans s67
 obtain⟨pm,l,L',W',k1,k2,aL',_,_⟩:=id hd
 have hlenL':=aL'.lenE
 simp(disch:=omega)only[go_sem,Ws,Yf,Ve,Y8 b7 _ g7,Za ((hs34.trans s47).get k1)]
 have s48:=s4set h7 (.bk (Zt b7)) s47 ydc
 have kd:(h7.set h4.next (.bk (Zt b7))).cells d=some [.ii m.errs,L',W',.map pm]:=Za ((hs34.trans s48).get k1)
 simp(disch:=omega)only[go_sem,kd,hlenL']
 refine Zi m.lots.length (fun i s=>∃tm h' b' x out,s=⟨tm,h',[]⟩∧h4.Sub h'∧h4.next<h'.next∧Zr h4 h' x 1 (out.map encI)∧(∀y,Zs x y→y≠h4.next)∧out.length=i∧h'.get h4.next=some (.bk (Zt b'))∧Tight m.lots.length (parts m) b'∧Nrw (ownB m Zj) b'∧
   (∀j:Int,¬(0≤j∧j<m.lots.length)→b' j=(0,0))∧b' (n:Int)=(dry,dry)∧(∀(j:Nat) (hj:j<out.length),b' (j:Int)=(out[j],out[j]))∧
   tm.E 8=.ptr d 0∧tm.E 10=.ptr h4.next 0∧tm.E 12=x∧tm.E 60=.ii (m.lots.length:Int)∧tm.E 61=.ii (i:Int))
  ?_ ?_ (i:=0) (Nat.zero_le _) ⟨_,_,b7,.nils,[],rfl,s48,by rw[H.next_set];omega,Zr.nil s48 1,fun y hy=>(ZE hy).elim,rfl,get_set_same rfl,ht7,hn7,ho7',hfix7,fun j hj=>by simp at hj,yda,yda,yda,yda,yda⟩
 ·rintro i s hi ⟨tm,h',b',x,out,rfl,hs,lt,ox,nx,hol,gb,ht',hn',ho',hfix,hout,t8,t10,t12,t60,t61⟩
  have hi':(i:Int)<(m.lots.length:Int):=by omega
  have hi12:i<12:=by omega
  obtain⟨u1,u2,u3⟩:=Xx b' hi12
  have hput':=encB_put2 b' hi12 (b' (i:Int)).1
  have hbB':=InvB.of g ht' hn' ho'
  have hbi:=hbB' (i:Int)
  have hne:=ht'.ne (i:Int) ydc hi'
  simp(disch:=omega)only[go_sem,t8,t10,t12,t60,t61,hi',ZH (Zb i) hi12,Za gb,gb,u1,hput',ld_B]
  have sS:=s4set h' (.bk (Zt (updB b' (i:Int) ((b' (i:Int)).1,(b' (i:Int)).1)))) hs lt
  have kS:=Zq.set h' h4.next (.bk (Zt (updB b' (i:Int) ((b' (i:Int)).1,(b' (i:Int)).1))))
  have gS:(h'.set h4.next (.bk (Zt (updB b' (i:Int) ((b' (i:Int)).1,(b' (i:Int)).1))))).get h4.next=some (.bk (Zt (updB b' (i:Int) ((b' (i:Int)).1,(b' (i:Int)).1)))):=get_set_same rfl
  have lS:(h'.set h4.next (.bk (Zt (updB b' (i:Int) ((b' (i:Int)).1,(b' (i:Int)).1))))).next=h'.next:=H.next_set _ _ _
  refine tight_ev sS.wf (hd.mono (hs34.trans sS)) g (upd_inv hbB' ydc) (upd_out ho' ydc hi') _ fun r h9 s89 hr9=>?_
  obtain⟨b9,rfl,ht9,hn9,hfix9,ho9,hold9⟩:=fix_step g ht' hn' ydc hi' (Int.le_refl _) hne hr9
  have g9:=s89.get gS
  have l9:=s89.next
  have s49:=sS.trans s89
  have ox9:=(ox.keep kS sS nx).mono s89
  obtain⟨w1,w2,w3⟩:=Xx b9 hi12
  have sT:=s4set h9 (.bk (Zt b9)) s49 ydc
  have kT:=Zq.set h9 h4.next (.bk (Zt b9))
  have gT:(h9.set h4.next (.bk (Zt b9))).get h4.next=some (.bk (Zt b9)):=get_set_same rfl
  have oxT:=ox9.keep kT sT nx
  have lT:(h9.set h4.next (.bk (Zt b9))).next=h9.next:=H.next_set _ _ _
  simp(disch:=omega)only[go_sem,Ws,t8,t10,t12,t60,t61,Ve,Y8 b9 _ g9,ZH (Zb i) hi12,w1]
  have sU:=(H.Sub.refl sT.wf).add (.bk [.ii (b9 (i:Int)).1])
  have hl12:(out.map encI).length≤12:=by simp only[List.length_map];omega
  refine(oxT.mono sU).app1 (r:=encI (b9 (i:Int)).1) s4.wf rfl ydc (Zk.new _ (by rw[lT]) rfl rfl (by simp[encI]) (by simp)) rfl ydc ydc fun hV oV kV nV=>?_
  have gV:=kV.2 _ _ (sU.get gT) fun hb=>nx _ hb rfl
  have lV:=kV.1
  rw[H.next_add] at lV
  simp only[H.next_add,H.next_set] at oV
  simp(disch:=omega)only[go_sem,t8,t10,t12,t60,t61,Ze]
  refine⟨_,_,b9,_,out++[(b9 (i:Int)).1],rfl,oV.1,by omega,by rw[List.map_append];exact oV,fun y hy=>by(obtain⟨_,_,_,e⟩:=hy;cases e;omega),by simp;omega,gV,ht9,hn9,fun j hj=>by rw[ho9 j hj];exact ho' j hj,hold9 _ _ c2.1 ydc hfix,fun j hj=>?_,ydu,ydi,yda,(by simp[Zn,Zd,t60]<;>rfl),yda⟩
  by_cases hjl:j<out.length
  ·rw[List.getElem_append_left hjl]
   exact hold9 _ _ ydc ydc (hout j hjl)
  ·have:j=i:=by simp at hj;omega
   subst this
   rw[List.getElem_append_right ydc]
   simp only[hol,Nat.sub_self,List.getElem_cons_zero]
   rw[hfix9]
 ·rintro s ⟨tm,h',b',x,out,rfl,hs,lt,ox,nx,hol,gb,ht',hn',ho',hfix,hout,t8,t10,t12,t60,t61⟩
  simp(disch:=omega)only[go_sem,t8,t10,t12,t60,t61,Int.lt_irrefl]
  obtain⟨w,f,_⟩:=tight_full F ht' (by omega:(0:Int)≤0) ydc (Int.le_refl _) (ht'.ne 0 ydc ydc)
  have hwo:∀i:Int,0≤i→i<m.lots.length→YM out i=w i:=fun i i0 i1=>by
   obtain⟨j,rfl⟩:=Int.eq_ofNat_of_zero_le i0
   have hj:j<out.length:=by omega
   have h1:=f.1 (j:Int) i0 i1
   rw[hout j hj] at h1
   simp only at h1
   rw[XJ hj];omega
  refine q _ _ ⟨s4.trans hs,x,out,0,rfl,⟨s4.trans hs,ox.2.1,ox.2.2.imp id fun⟨b,e,l1,l2,g⟩=>⟨b,e,Nat.le_trans s4.next l1,l2,g⟩⟩,by omega,.inr (.inr (.inr ⟨c,c2,rfl,hol,?_,?_⟩))⟩
  ·exact Feas_congr (fun i p hp=>by have:=(F.mem _ _).1 hp;omega) (f.mono fun i _ _=>hn' i) hwo
  ·rw[hwo _ c2.1 ydc]
   have h1:=f.1 (n:Int) c2.1 ydc
   rw[hfix] at h1
   simp only at h1;omega
theorem Weights_ev {h:H}{v:V}{m:Ml}(hw:h.wf)(hm:ZF h v m)(lot dry:Int):Ev fnG Zm (.fn 8 [] []) [v,.ii lot,.ii dry] h fun u h'=>h.Sub h'∧∃x l e,u=.tup [x,.ii e]∧Zk h' x 1 (l.map encI)∧((check m≠0∧e=check m∧l=[])∨
  (check m=0∧¬(0≤lot∧lot≤(m.lots.length:Int)-1)∧e=1∧l=[])∨(check m=0∧(0≤lot∧lot≤(m.lots.length:Int)-1)∧(¬∃w,ZC m Zj w∧w lot=dry)∧e=6∧l=[])∨
  (check m=0∧(0≤lot∧lot≤(m.lots.length:Int)-1)∧e=0∧l.length=m.lots.length∧ZC m Zj (YM l)∧YM l lot=dry)):=
 (Weights_own hw hm lot dry).mono fun u h' ⟨s,x,l,e,e1,o,ll,r⟩=>⟨s,x,l,e,e1,o.sl (by rw[List.length_map];omega),r⟩
end Go.Ab.Tryz
namespace Go.Ab.Tryz
open Go.Ab.Silk
theorem ownK_iff {m:Ml}{c:Nat→Bool}{lot x:Int}:∀k,k≤m.wgs.length→(((YZ m c lot k).1≤x∧x≤(YZ m c lot k).2)↔(0≤x∧x≤10000)∧∀j (hj:j<m.wgs.length),j<k→c j=true→m.wgs[j].lot=lot→Z8 m m.wgs[j]≤x∧x≤Z1 m m.wgs[j])
 |0,_=>by simp[YZ]
 |k+1,hk=>by
  have ih:=ownK_iff (m:=m) (c:=c) (lot:=lot) (x:=x) k ydc
  have hk':k<m.wgs.length:=by omega
  by_cases h:c k=true∧m.wgs[k].lot=lot
  ·rw[ownK_hit hk' h.1 h.2]
   simp only
   constructor
   ·intro h1
    obtain⟨a1,a2⟩:=ih.1 ⟨by omega,by omega⟩
    refine⟨a1,fun j hj hjk hc hl=>?_⟩
    by_cases e:j=k
    ·subst e;omega
    ·exact a2 j hj ydc hc hl
   ·rintro⟨a1,a2⟩
    have h1:=ih.2 ⟨a1,fun j hj hjk hc hl=>a2 j hj ydc hc hl⟩
    have h2:=a2 k hk' ydc h.1 h.2
    omega
  ·rw[Xv hk' (by
    by_cases h1:c k=true
    ·exact .inr fun h2=>h ⟨h1,h2⟩
    ·exact .inl (by simpa using h1)),ih]
   constructor
   ·rintro⟨a1,a2⟩
    refine⟨a1,fun j hj hjk hc hl=>?_⟩
    by_cases e:j=k
    ·subst e;exact absurd ⟨hc,hl⟩ h
    ·exact a2 j hj ydc hc hl
   ·rintro⟨a1,a2⟩
    exact⟨a1,fun j hj hjk hc hl=>a2 j hj ydc hc hl⟩
theorem own_iff {m:Ml}(g:Good m){c:Nat→Bool}{w:Int→Int}:(∀i:Int,0≤i→i<m.lots.length→(ownB m c i).1≤w i∧w i≤(ownB m c i).2)↔
  (∀i:Int,0≤i→i<m.lots.length→0≤w i∧w i≤10000)∧∀k (hk:k<m.wgs.length),c k=true→Z8 m m.wgs[k]≤w m.wgs[k].lot∧w m.wgs[k].lot≤Z1 m m.wgs[k]:=by
 have e:∀i:Int,0≤i→i<m.lots.length→ownB m c i=YZ m c i m.wgs.length:=fun i i0 i1=>by unfold ownB VB;rw[if_pos ⟨i0,i1⟩]
 constructor
 ·intro h
  refine⟨fun i i0 i1=>?_,fun k hk hc=>?_⟩
  ·have h1:=h i i0 i1
   rw[e i i0 i1] at h1
   exact((ownK_iff m.wgs.length (Nat.le_refl _)).1 h1).1
  ·have hl:=g.lot _ (List.getElem_mem hk)
   have h1:=h _ hl.1 ydc
   rw[e _ hl.1 ydc] at h1
   exact((ownK_iff m.wgs.length (Nat.le_refl _)).1 h1).2 k hk hk hc rfl
 ·rintro⟨h1,h2⟩ i i0 i1
  rw[e i i0 i1]
  exact(ownK_iff m.wgs.length (Nat.le_refl _)).2 ⟨h1 i i0 i1,fun j hj _ hc hl=>by have:=h2 j hj hc;rw[hl] at this;exact this⟩
def FitsP (m:Ml)(ws:List Int):Prop:=ws.length=m.lots.length∧ZC m Zj (YM ws)
theorem XW {m:Ml}(g:Good m){ws:List Int}:FitsP m ws↔ws.length=m.lots.length∧(∀i (hi:i<ws.length),0≤ws[i]∧ws[i]≤10000)∧(∀i (hi:i<ws.length),parts m (i:Int)≠[]→ws[i]=Zg (YM ws) (parts m (i:Int)))∧
  ∀k (hk:k<m.wgs.length),Z8 m m.wgs[k]≤YM ws m.wgs[k].lot∧YM ws m.wgs[k].lot≤Z1 m m.wgs[k]:=by
 unfold FitsP ZC WS
 rw[own_iff g]
 constructor
 ·rintro⟨h0,⟨h1,h2⟩,h3⟩
  refine⟨h0,fun i hi=>?_,fun i hi hne=>?_,fun k hk=>h2 k hk rfl⟩
  ·have:=h1 (i:Int) ydc ydc;rwa[XJ hi] at this
  ·have:=h3 (i:Int) ydc ydc hne;rwa[XJ hi] at this
 ·rintro⟨h0,h1,h2,h3⟩
  refine⟨h0,⟨fun i i0 i1=>?_,fun k hk _=>h3 k hk⟩,fun i i0 i1 hne=>?_⟩
  ·obtain⟨j,rfl⟩:=Int.eq_ofNat_of_zero_le i0
   rw[XJ (by omega:j<ws.length)];exact h1 j ydc
  ·obtain⟨j,rfl⟩:=Int.eq_ofNat_of_zero_le i0
   rw[XJ (by omega:j<ws.length)];exact h2 j ydc hne
theorem fits1_pure (h:H)(n:Int):Yy h (.fn 106 [] []) [.ii n] (.bool (decide (0≤n∧n≤10000))):=fun h1 hs=>by
 refine Zf (fd:=c106) rfl rfl rfl ?_
 simp(disch:=omega)only[c106,go_sem,Vr]
 exact H.Sub.refl hs.wf
set_option maxHeartbeats 2000000 in
theorem Fits_ev {h:H}{v x:V}{m:Ml}{ws:List Int}(hw:h.wf)(hm:ZF h v m)(hx:Zk h x 1 (ws.map encI)):Ev fnG Zm (.fn 56 [] []) [v,x] h fun u h'=>h.Sub h'∧∃t e,u=.tup [.bool t,.ii e]∧((check m≠0∧e=check m∧t=false)∨
  (check m=0∧e=0∧(t=true↔FitsP m ws))):=by
 refine Ev.gen fun Q q=>?_
 have hm0:=hm
 obtain⟨L,W,rfl,aL,aW⟩:=hm
 refine Zf (fd:=c56) rfl rfl rfl ?_
 have hlenL:=aL.lenE
 have hlenW:=aW.lenE
 have hlenX:=hx.lenE
 have s2:h.Sub (h.add (.bk [.ii m.errs,L,W])):=ydb
 simp(disch:=omega)only[c56,go_sem]
 refine(XQ s2.wf (hm0.mono s2)).mono fun u h3 hu=>?_
 obtain⟨s23,hu⟩:=hu
 have s3:=s2.trans s23
 have g1:h3.cells h.next=some [.ii m.errs,L,W]:=s23.cells (Zh rfl)
 rcases hu with⟨c,rfl⟩|⟨c,d,rfl,hd⟩
 ·simp(disch:=omega)only[go_sem,ne_eq,c,not_false_eq_true]
  exact q _ _ ⟨s3,false,check m,rfl,.inl ⟨c,rfl,rfl⟩⟩
 have g:=ZJ c
 have gl:=g.lots
 have gw:=g.wgs
 have F:=Zv g
 by_cases hlen:(ws.length:Int)=(m.lots.length:Int)
 case neg=>
  simp(disch:=omega)only[go_sem,ne_eq,not_true_eq_false,g1,hlenL,hlenX,hlen,not_false_eq_true]
  refine q _ _ ⟨s3,false,0,rfl,.inr ⟨c,rfl,?_⟩⟩
  simp only[Bool.false_eq_true,false_iff]
  exact fun hf=>hlen (by rw[hf.1])
 have hlen':ws.length=m.lots.length:=by omega
 simp(disch:=omega)only[go_sem,ne_eq,not_true_eq_false,g1,hlenL,hlenX,hlen]
 refine(Xp (p:=fun n=>decide (0≤n∧n≤10000)) s3.wf (hx.mono s3) fun n _=>fits1_pure _ n).mono fun u h4 hu=>?_
 obtain⟨rfl,s34⟩:=hu
 have s4:=s3.trans s34
 have hd4:=hd.mono s34
 have g4:=s34.cells g1
 cases hall:ws.all fun n=>decide (0≤n∧n≤10000)
 ·simp(disch:=omega)only[go_sem,Bool.not_false]
  refine q _ _ ⟨s4,false,0,rfl,.inr ⟨c,rfl,?_⟩⟩
  simp only[Bool.false_eq_true,false_iff,XW g]
  rintro⟨_,h1,_⟩
  have:ws.all (fun n=>decide (0≤n∧n≤10000))=true:=List.all_eq_true.2 fun n hn=>by
   obtain⟨i,hi,rfl⟩:=List.getElem_of_mem hn
   simpa using h1 i hi
  rw[hall] at this;cases this
 have hrange:∀i (hi:i<ws.length),0≤ws[i]∧ws[i]≤10000:=fun i hi=>by
  have:=List.all_eq_true.1 hall _ (List.getElem_mem hi)
  simpa using this
 have hwr:∀p:Int,0≤YM ws p∧YM ws p≤10000:=fun p=>by
  unfold YM
  rw[List.getD_eq_getElem?_getD]
  cases e:ws[p.toNat]? with
  |none=>simp
  |some y=>
   obtain⟨hi,rfl⟩:=List.getElem?_eq_some_iff.1 e
   exact hrange _ hi
 have bdS:∀l:List Int,(l.length:Int)≤12→0≤Zg (YM ws) l∧Zg (YM ws) l≤120000:=fun l hl=>by
  have h1:=sum_bd (x:=YM ws) (C:=10000) (l:=l) (fun p=>by have:=hwr p;omega) ydc hl
  have h2:=Z7 (x:=YM ws) (l:=l) fun p _=>(hwr p).1
  omega
 obtain⟨pm,l,L',W',k1,k2,aL',aW',ap⟩:=id hd4
 simp(disch:=omega)only[go_sem,Bool.not_true,hlenX]
 refine Zi ws.length (fun i s=>∃tm,s=⟨tm,h4,[]⟩∧(∀j (hj:j<ws.length),j<i→parts m (j:Int)≠[]→ws[j]=Zg (YM ws) (parts m (j:Int)))∧
   tm.E 1=x∧tm.E 2=.ptr h.next 0∧tm.E 6=.ptr d 0∧tm.E 34=x∧tm.E 35=.ii (ws.length:Int)∧tm.E 36=.ii (i:Int))
  ?_ ?_ (i:=0) (Nat.zero_le _) ⟨_,rfl,fun j hj h0=>by omega,yda,yda,yda,yda,yda,yda⟩
 ·rintro i s hi ⟨tm,rfl,hinv,t1,t2,t6,t34,t35,t36⟩
  have hi':(i:Int)<(ws.length:Int):=by omega
  obtain⟨bb,o,cc,cs,rfl,hcs,hq,hgg,hn,hn0⟩:=(hx.mono s4).at hi
  obtain⟨ps,eps⟩:∃ps,parts m (i:Int)=ps:=⟨_,rfl⟩
  obtain⟨X,eX⟩:∃X,found .nils false (lkA (i:Int) l)=X:=⟨_,rfl⟩
  have hap:=ap (i:Int)
  rw[eX,eps] at hap
  have hlenP:=hap.lenE
  have hlp:=ZV m (i:Int)
  rw[eps] at hlp
  have hwi:=hrange i hi
  have hpsm:∀p∈ps,0≤p∧p<m.lots.length:=fun p hp=>by
   have:=(F.mem (i:Int) p).1 (by rw[eps];exact hp)
   omega
  simp(disch:=omega)only[go_sem,t1,t2,t6,t34,t35,t36,hi',hq (Zb i),hcs,hn0 ydc,encI,Za k1,k2,eX,hlenP]
  refine Zi ps.length (fun j s=>∃tm,s=⟨tm,h4,[]⟩∧tm.E 1=.sl bb o ws.length cc∧tm.E 2=.ptr h.next 0∧tm.E 6=.ptr d 0∧tm.E 8=.ii (i:Int)∧tm.E 9=.ii (ws[i]-Zg (YM ws) (ps.take j))∧
    tm.E 34=.sl bb o ws.length cc∧tm.E 35=.ii (ws.length:Int)∧tm.E 36=.ii (i:Int)∧tm.E 46=X∧tm.E 47=.ii (ps.length:Int)∧tm.E 48=.ii (j:Int))
   ?_ ?_ (i:=0) (Nat.zero_le _) ⟨_,rfl,ydd,yde,ydg,yda,by(simp only[List.take_zero,Zg,Int.sub_zero];exact yda),ydw,ydx,(by simp[Zn,Zd,t36]<;>rfl),yda,yda,yda⟩<;>clear t1 t2 t6 t34 t35 t36 tm
  ·rintro j s hj ⟨tm,rfl,t1,t2,t6,t8,t9,t34,t35,t36,t46,t47,t48⟩
   have hj':(j:Int)<(ps.length:Int):=by omega
   obtain⟨b2,o2,c2,cs2,rfl,hcs2,hq2,hgg2,hn2,hn02⟩:=hap.at hj
   obtain⟨p0,p1⟩:=hpsm _ (List.getElem_mem hj)
   obtain⟨p,ep⟩:=Int.eq_ofNat_of_zero_le p0
   have hp:p<ws.length:=by omega
   obtain⟨b3,o3,c3,cs3,e3,hcs3,hq3,hgg3,hn3,hn03⟩:=(hx.mono s4).at hp
   cases e3
   have hst:=Yu (YM ws) hj
   rw[ep,XJ hp] at hst
   have hb1:=bdS (ps.take j) ydv
   have hwp:=hrange p hp
   simp(disch:=omega)only[go_sem,t1,t2,t6,t8,t9,t34,t35,t36,t46,t47,t48,hj',hq2 (Zb j),hcs2,hn02 ydc,encI,ep,hq3 (Zb p),hcs3,hn03 ydc,ZD,Ze]
   exact⟨_,rfl,ydd,yde,ydg,ydu,by rw[hst,←Int.sub_sub];exact yda,ydw,ydx,(by simp[Zn,Zd,t36]<;>rfl),(by simp[Zn,Zd,t46]<;>rfl),(by simp[Zn,Zd,t47]<;>rfl),yda⟩
  ·rintro s ⟨tm,rfl,t1,t2,t6,t8,t9,t34,t35,t36,t46,t47,t48⟩
   rw[List.take_length] at t9
   by_cases hz:ws[i]-Zg (YM ws) ps=0
   ·simp(disch:=omega)only[go_sem,t1,t2,t6,t8,t9,t34,t35,t36,t46,t47,t48,Int.lt_irrefl,ne_eq,hz,not_true_eq_false,Ze]
    exact⟨_,rfl,fun j hj hji hne=>by
     by_cases e:j=i
     ·subst e;rw[eps];omega
     ·exact hinv j hj ydc hne,ydd,yde,ydg,ydw,ydx,yda⟩
   by_cases hps:0<(ps.length:Int)
   ·simp(disch:=omega)only[go_sem,t1,t2,t6,t8,t9,t34,t35,t36,t46,t47,t48,Int.lt_irrefl,ne_eq,hz,not_false_eq_true,Za k1,k2,eX,hlenP,hps]
    refine q _ _ ⟨s4,false,0,rfl,.inr ⟨c,rfl,?_⟩⟩
    simp only[Bool.false_eq_true,false_iff,XW g]
    rintro⟨_,_,h2,_⟩
    have:=h2 i hi (by rw[eps];intro e;rw[e] at hps;simp at hps)
    rw[eps] at this;omega
   ·simp(disch:=omega)only[go_sem,t1,t2,t6,t8,t9,t34,t35,t36,t46,t47,t48,Int.lt_irrefl,ne_eq,hz,not_false_eq_true,Za k1,k2,eX,hlenP,hps,Ze]
    exact⟨_,rfl,fun j hj hji hne=>by
     by_cases e:j=i
     ·subst e
      rw[eps] at hne
      have:=List.length_pos_iff.2 hne;omega
     ·exact hinv j hj ydc hne,ydd,yde,ydg,ydw,ydx,yda⟩
 rintro s ⟨tm,rfl,hinv,t1,t2,t6,t34,t35,t36⟩
 have hsums:∀j (hj:j<ws.length),parts m (j:Int)≠[]→ws[j]=Zg (YM ws) (parts m (j:Int)):=fun j hj hne=>hinv j hj hj hne
 simp(disch:=omega)only[go_sem,t1,t2,t6,t34,t35,t36,Int.lt_irrefl,g4,hlenW]
 refine Zi m.wgs.length (fun i s=>∃tm h',s=⟨tm,h',[]⟩∧h4.Sub h'∧(∀k (hk:k<m.wgs.length),k<i→Z8 m m.wgs[k]≤YM ws m.wgs[k].lot∧YM ws m.wgs[k].lot≤Z1 m m.wgs[k])∧
   tm.E 1=x∧tm.E 6=.ptr d 0∧tm.E 73=W∧tm.E 74=.ii (m.wgs.length:Int)∧tm.E 75=.ii (i:Int))
  ?_ ?_ (i:=0) (Nat.zero_le _) ⟨_,_,rfl,H.Sub.refl s4.wf,fun k hk h0=>by omega,ydd,ydg,yda,yda,yda⟩<;>clear t1 t2 t6 t34 t35 t36 hinv tm
 ·rintro i s hi ⟨tm,h',rfl,hs,hinv,t1,t6,t73,t74,t75⟩
  have hi':(i:Int)<(m.wgs.length:Int):=by omega
  obtain⟨bb,o,cc,cs,rfl,hcs,hq,hgg,hn,hn0⟩:=(aW.mono (s4.trans hs)).at hi
  have hl:=g.lot _ (List.getElem_mem hi)
  obtain⟨lt',elt⟩:=Int.eq_ofNat_of_zero_le hl.1
  have hlt:lt'<ws.length:=by omega
  have sA:=(H.Sub.refl hs.wf).add (.bk (Zy m.wgs[i]))
  have hsA:=hs.trans sA
  simp(disch:=omega)only[go_sem,t1,t6,t73,t74,t75,hi',hq (Zb i),hcs,hgg,Zy]
  refine(V3 hsA.wf (hd4.mono hsA) g hi).mono fun u h5 hu=>?_
  obtain⟨rfl,s45⟩:=hu
  have hs5:=hsA.trans s45
  have l5:=s45.next
  rw[H.next_add] at l5
  have gw5:h5.cells h'.next=some (Zy m.wgs[i]):=s45.cells (Zh rfl)
  have s56:=(H.Sub.refl hs5.wf).add (.bk [.ii (Z8 m m.wgs[i]),.ii (Z1 m m.wgs[i])])
  have hs6:=hs5.trans s56
  obtain⟨b3,o3,c3,cs3,rfl,hcs3,hq3,hgg3,hn3,hn03⟩:=(hx.mono (s4.trans hs5)).at hlt
  have hcs6:=s56.cells hcs3
  by_cases hin:Z8 m m.wgs[i]≤ws[lt']∧ws[lt']≤Z1 m m.wgs[i]
  ·simp(disch:=omega)only[go_sem,t1,t6,t73,t74,t75,gw5,Zy,elt,hq3 (Zb lt'),hcs6,hcs3,hn03 ydc,encI,Vr,hin,Bool.not_true,and_self,Ze]
   refine⟨_,_,rfl,hs6,fun k hk hki=>?_,ydd,ydg,(by simp[Zn,Zd,t73]<;>rfl),(by simp[Zn,Zd,t74]<;>rfl),yda⟩
   by_cases e:k=i
   ·subst e;rw[elt,XJ hlt];exact hin
   ·exact hinv k hk ydc
  ·simp(disch:=omega)only[go_sem,t1,t6,t73,t74,t75,gw5,Zy,elt,hq3 (Zb lt'),hcs6,hcs3,hn03 ydc,encI,Vr,hin,Bool.not_false]
   refine q _ _ ⟨s4.trans hs6,false,0,rfl,.inr ⟨c,rfl,?_⟩⟩
   simp only[Bool.false_eq_true,false_iff,XW g]
   rintro⟨_,_,_,h3⟩
   have:=h3 i hi
   rw[elt,XJ hlt] at this
   exact hin this
 ·rintro s ⟨tm,h',rfl,hs,hinv,t1,t6,t73,t74,t75⟩
  simp(disch:=omega)only[go_sem,t1,t6,t73,t74,t75,Int.lt_irrefl]
  refine q _ _ ⟨s4.trans hs,true,0,rfl,.inr ⟨c,rfl,?_⟩⟩
  simp only[true_iff,XW g]
  exact⟨hlen',hrange,hsums,fun k hk=>hinv k hk hk⟩
end Go.Ab.Tryz
namespace Go.Ab.Tryz
open Go.Ab.Silk
set_option maxHeartbeats 2000000 in
theorem refFits_ev {h:H}{v x:V}{m:Ml}{ws:List Int}(hw:h.wf)(hm:ZF h v m)(g:Good m)(hx:Zk h x 1 (ws.map encI)):Ev fnG Zm (.fn 52 [] []) [v,x] h fun u h'=>h.Sub h'∧∃t,u=.bool t∧(t=true↔FitsP m ws):=by
 refine Ev.gen fun Q q=>?_
 have hm0:=hm
 obtain⟨L,W,rfl,aL,aW⟩:=hm
 refine Zf (fd:=c52) rfl rfl rfl ?_
 have hlenL:=aL.lenE
 have hlenW:=aW.lenE
 have hlenX:=hx.lenE
 have gl:=g.lots
 have gw:=g.wgs
 have F:=Zv g
 have s2:h.Sub (h.add (.bk [.ii m.errs,L,W])):=ydb
 have g1:(h.add (.bk [.ii m.errs,L,W])).cells h.next=some [.ii m.errs,L,W]:=Zh rfl
 have fin:∀h',h.Sub h'→¬FitsP m ws→Q (.bool false) h':=fun h' hs hn=>q _ _ ⟨hs,false,rfl,by simpa using hn⟩
 by_cases hlen:(ws.length:Int)=(m.lots.length:Int)
 case neg=>
  simp(disch:=omega)only[c52,go_sem,ne_eq,hlenL,hlenX,hlen,not_false_eq_true]
  exact fin _ s2 fun hf=>hlen (by rw[hf.1])
 have hlen':ws.length=m.lots.length:=by omega
 have hgm:∀h',(h.add (.bk [.ii m.errs,L,W])).Sub h'→h'.cells h.next=some [.ii m.errs,L,W]:=fun h' s=>s.cells g1
 simp(disch:=omega)only[c52,go_sem,ne_eq,not_true_eq_false,hlenL,hlenX,hlen]
 by_cases hall:∀i (hi:i<ws.length),0≤ws[i]∧ws[i]≤10000
 case neg=>
  have hbad:∃k,∃hk:k<ws.length,¬(0≤ws[k]∧ws[k]≤10000):=by
   by_cases he:∃k,∃hk:k<ws.length,¬(0≤ws[k]∧ws[k]≤10000)
   ·exact he
   ·exfalso;refine hall fun i hi=>?_
    by_cases h1:0≤ws[i]∧ws[i]≤10000
    ·exact h1
    ·exact absurd ⟨i,hi,h1⟩ he
  obtain⟨k,hk,hbk⟩:=hbad
  have hno:¬FitsP m ws:=fun hf=>hall ((XW g).1 hf).2.1
  refine Zi (k+1) (fun i s=>i≤k∧∃tm h',s=⟨tm,h',[]⟩∧(h.add (.bk [.ii m.errs,L,W])).Sub h'∧tm.E 1=x∧tm.E 2=.ptr h.next 0∧tm.E 5=.ii (i:Int))
   ?_ (fun s hs=>absurd hs.1 ydc) (i:=0) (Nat.zero_le _) ⟨Nat.zero_le _,_,_,rfl,H.Sub.refl s2.wf,yda,yda,yda⟩
  rintro i s hik1 ⟨hik,tm,h',rfl,hs1,t1,t2,t5⟩
  have hi:i<ws.length:=by omega
  have hi':(i:Int)<(ws.length:Int):=by omega
  have hi2:i<m.lots.length:=by omega
  have hs:=s2.trans hs1
  obtain⟨bb,o,cc,cs,rfl,hcs,hq,hgg,hn,hn0⟩:=(hx.mono hs).at hi
  cases hoff:inB ws[i] 0 10000
  ·simp(disch:=omega)only[go_sem,t1,t2,t5,hlenX,hi',hq (Zb i),hcs,hn0 ydc,encI,YC,hoff,Bool.not_false]
   exact fin _ hs hno
  have hik':i<k:=by
   by_cases e:i=k
   ·subst e;simp[inB] at hoff;exact absurd hoff hbk
   ·omega
  have gm:=hgm _ hs1
  simp(disch:=omega)only[go_sem,t1,t2,t5,hlenX,hi',hq (Zb i),hcs,hn0 ydc,encI,YC,hoff,Bool.not_true,gm]
  refine YU hs.wf (hm0.mono hs) g hi2 _ fun P h5 oP=>?_
  have s15:=oP.1
  have hs5:=hs.trans s15
  have hpl:=ZV m (i:Int)
  have aP:=oP.sl yds
  have hlenP:=aP.lenE
  simp(disch:=omega)only[go_sem,t1,t2,t5]
  refine Zi (parts m (i:Int)).length (fun j s=>∃tm z,s=⟨tm,h5,[]⟩∧tm.E 1=.sl bb o ws.length cc∧tm.E 2=.ptr h.next 0∧tm.E 5=.ii (i:Int)∧tm.E 6=P∧tm.E 7=.ii z∧tm.E 8=.ii (j:Int))
   ?_ ?_ (i:=0) (Nat.zero_le _) ⟨_,0,rfl,ydd,yde,ydt,yda,yda,yda⟩<;>clear t1 t2 t5 tm
  ·rintro j s hj ⟨tm,z,rfl,t1,t2,t5,t6,t7,t8⟩
   have hj':(j:Int)<((parts m (i:Int)).length:Int):=by omega
   obtain⟨b2,o2,c2,cs2,e2,hcs2,hq2,hgg2,hn2,hn02⟩:=aP.at hj
   obtain⟨p0,p1,_⟩:=(F.mem (i:Int) _).1 (List.getElem_mem hj)
   obtain⟨p,ep⟩:=Int.eq_ofNat_of_zero_le p0
   have hp:p<ws.length:=by omega
   obtain⟨b3,o3,c3,cs3,e3,hcs3,hq3,hgg3,hn3,hn03⟩:=(hx.mono hs5).at hp
   cases e3
   simp(disch:=omega)only[go_sem,t1,t2,t5,t6,t7,t8,hlenP,hj',hq2 (Zb j),hcs2,hn02 ydc,encI,ep,hq3 (Zb p),hcs3,hn03 ydc,Ze,e2]
   subst e2
   simp(disch:=omega)only[go_sem,t1,t2,t5,t6,t7,t8,hlenP,hj',hq2 (Zb j),hcs2,hn02 ydc,encI,ep,hq3 (Zb p),hcs3,hn03 ydc,Ze]
   exact⟨_,_,rfl,ydd,yde,ydt,ydg,yda,yda⟩
  ·rintro s ⟨tm,z,rfl,t1,t2,t5,t6,t7,t8⟩
   have hcs5:=s15.cells hcs
   by_cases hps:0<((parts m (i:Int)).length:Int)
   ·by_cases hz:z=ws[i]
    ·simp(disch:=omega)only[go_sem,t1,t2,t5,t6,t7,t8,hlenP,Int.lt_irrefl,hps,hq (Zb i),hcs5,hn0 ydc,encI,ne_eq,hz,not_true_eq_false,Ze]
     exact⟨by omega,_,_,rfl,hs1.trans s15,ydd,yde,yda⟩
    ·simp(disch:=omega)only[go_sem,t1,t2,t5,t6,t7,t8,hlenP,Int.lt_irrefl,hps,hq (Zb i),hcs5,hn0 ydc,encI,ne_eq,hz,not_false_eq_true]
     exact fin _ hs5 hno
   ·simp(disch:=omega)only[go_sem,t1,t2,t5,t6,t7,t8,hlenP,Int.lt_irrefl,hps,Ze]
    exact⟨by omega,_,_,rfl,hs1.trans s15,ydd,yde,yda⟩
 have hwr:∀p:Int,0≤YM ws p∧YM ws p≤10000:=fun p=>by
  unfold YM
  rw[List.getD_eq_getElem?_getD]
  cases e:ws[p.toNat]? with
  |none=>simp
  |some y=>
   obtain⟨hi,rfl⟩:=List.getElem?_eq_some_iff.1 e
   exact hall _ hi
 have bdS:∀l:List Int,(l.length:Int)≤12→0≤Zg (YM ws) l∧Zg (YM ws) l≤120000:=fun l hl=>by
  have h1:=sum_bd (x:=YM ws) (C:=10000) (l:=l) (fun p=>by have:=hwr p;omega) ydc hl
  have h2:=Z7 (x:=YM ws) (l:=l) fun p _=>(hwr p).1
  omega
 refine Zi ws.length (fun i s=>∃tm h',s=⟨tm,h',[]⟩∧(h.add (.bk [.ii m.errs,L,W])).Sub h'∧(∀j (hj:j<ws.length),j<i→parts m (j:Int)≠[]→ws[j]=Zg (YM ws) (parts m (j:Int)))∧tm.E 1=x∧tm.E 2=.ptr h.next 0∧tm.E 5=.ii (i:Int))
  ?_ ?_ (i:=0) (Nat.zero_le _) ⟨_,_,rfl,H.Sub.refl s2.wf,fun j hj h0=>by omega,yda,yda,yda⟩
 ·rintro i s hi ⟨tm,h',rfl,hs1,hinv,t1,t2,t5⟩
  have hi':(i:Int)<(ws.length:Int):=by omega
  have hi2:i<m.lots.length:=by omega
  have hs:=s2.trans hs1
  obtain⟨bb,o,cc,cs,rfl,hcs,hq,hgg,hn,hn0⟩:=(hx.mono hs).at hi
  have hwi:=hall i hi
  have hoff:inB ws[i] 0 10000=true:=by simpa[inB] using hwi
  have gm:=hgm _ hs1
  simp(disch:=omega)only[go_sem,t1,t2,t5,hlenX,hi',hq (Zb i),hcs,hn0 ydc,encI,YC,hoff,Bool.not_true,gm]
  refine YU hs.wf (hm0.mono hs) g hi2 _ fun P h5 oP=>?_
  have s15:=oP.1
  have hs5:=hs.trans s15
  have hpl:=ZV m (i:Int)
  have aP:=oP.sl yds
  have hlenP:=aP.lenE
  obtain⟨ps,eps⟩:∃ps,parts m (i:Int)=ps:=⟨_,rfl⟩
  have hpsm:∀p∈ps,0≤p∧p<m.lots.length:=fun p hp=>by
   have:=(F.mem (i:Int) p).1 (by rw[eps];exact hp)
   omega
  rw[eps] at hpl aP hlenP
  simp(disch:=omega)only[go_sem,t1,t2,t5]
  refine Zi ps.length (fun j s=>∃tm,s=⟨tm,h5,[]⟩∧tm.E 1=.sl bb o ws.length cc∧tm.E 2=.ptr h.next 0∧tm.E 5=.ii (i:Int)∧tm.E 6=P∧tm.E 7=.ii (Zg (YM ws) (ps.take j))∧tm.E 8=.ii (j:Int))
   ?_ ?_ (i:=0) (Nat.zero_le _) ⟨_,rfl,ydd,yde,ydt,yda,yda,yda⟩<;>clear t1 t2 t5 tm
  ·rintro j s hj ⟨tm,rfl,t1,t2,t5,t6,t7,t8⟩
   have hj':(j:Int)<(ps.length:Int):=by omega
   obtain⟨b2,o2,c2,cs2,rfl,hcs2,hq2,hgg2,hn2,hn02⟩:=aP.at hj
   obtain⟨p0,p1⟩:=hpsm _ (List.getElem_mem hj)
   obtain⟨p,ep⟩:=Int.eq_ofNat_of_zero_le p0
   have hp:p<ws.length:=by omega
   obtain⟨b3,o3,c3,cs3,e3,hcs3,hq3,hgg3,hn3,hn03⟩:=(hx.mono hs5).at hp
   cases e3
   have hst:=Yu (YM ws) hj
   rw[ep,XJ hp] at hst
   have hb1:=bdS (ps.take j) ydv
   have hwp:=hall p hp
   simp(disch:=omega)only[go_sem,t1,t2,t5,t6,t7,t8,hlenP,hj',hq2 (Zb j),hcs2,hn02 ydc,encI,ep,hq3 (Zb p),hcs3,hn03 ydc,ZD,Ze]
   exact⟨_,rfl,ydd,yde,ydt,ydg,by rw[hst];exact yda,yda⟩
  ·rintro s ⟨tm,rfl,t1,t2,t5,t6,t7,t8⟩
   rw[List.take_length] at t7
   have hcs5:=s15.cells hcs
   by_cases hps:0<(ps.length:Int)
   ·by_cases hz:Zg (YM ws) ps=ws[i]
    ·simp(disch:=omega)only[go_sem,t1,t2,t5,t6,t7,t8,hlenP,Int.lt_irrefl,hps,hq (Zb i),hcs5,hn0 ydc,encI,ne_eq,hz,not_true_eq_false,Ze]
     exact⟨_,_,rfl,hs1.trans s15,fun j hj hji hne=>by
      by_cases e:j=i
      ·subst e;rw[eps];exact hz.symm
      ·exact hinv j hj ydc hne,ydd,yde,yda⟩
    ·simp(disch:=omega)only[go_sem,t1,t2,t5,t6,t7,t8,hlenP,Int.lt_irrefl,hps,hq (Zb i),hcs5,hn0 ydc,encI,ne_eq,hz,not_false_eq_true]
     refine fin _ hs5 fun hf=>hz ?_
     have:=((XW g).1 hf).2.2.1 i hi (by rw[eps];intro e;rw[e] at hps;simp at hps)
     rw[eps] at this;exact this.symm
   ·simp(disch:=omega)only[go_sem,t1,t2,t5,t6,t7,t8,hlenP,Int.lt_irrefl,hps,Ze]
    exact⟨_,_,rfl,hs1.trans s15,fun j hj hji hne=>by
     by_cases e:j=i
     ·subst e
      rw[eps] at hne
      have:=List.length_pos_iff.2 hne;omega
     ·exact hinv j hj ydc hne,ydd,yde,yda⟩
 rintro s ⟨tm,h',rfl,hs1,hinv,t1,t2,t5⟩
 have hsums:∀j (hj:j<ws.length),parts m (j:Int)≠[]→ws[j]=Zg (YM ws) (parts m (j:Int)):=fun j hj hne=>hinv j hj hj hne
 simp(disch:=omega)only[go_sem,t1,t2,t5,hlenX,Int.lt_irrefl]
 refine Zi m.wgs.length (fun i s=>∃tm h2,s=⟨tm,h2,[]⟩∧(h.add (.bk [.ii m.errs,L,W])).Sub h2∧(∀k (hk:k<m.wgs.length),k<i→Z8 m m.wgs[k]≤YM ws m.wgs[k].lot∧YM ws m.wgs[k].lot≤Z1 m m.wgs[k])∧
   tm.E 1=x∧tm.E 2=.ptr h.next 0∧tm.E 9=.ii (i:Int))
  ?_ ?_ (i:=0) (Nat.zero_le _) ⟨_,_,rfl,hs1,fun k hk h0=>by omega,ydd,yde,yda⟩<;>clear t1 t2 t5 hinv hs1 tm h'
 ·rintro i s hi ⟨tm,h2,rfl,hs1,hinv,t1,t2,t9⟩
  have hi':(i:Int)<(m.wgs.length:Int):=by omega
  have hs:=s2.trans hs1
  have gm:=hgm _ hs1
  obtain⟨bb,o,cc,cs,rfl,hcs,hq,hgg,hn,hn0⟩:=(aW.mono hs).at hi
  have hl:=g.lot _ (List.getElem_mem hi)
  have w1:=g.wg _ (List.getElem_mem hi)
  have w2:=g.errs
  obtain⟨lt',elt⟩:=Int.eq_ofNat_of_zero_le hl.1
  have hlt:lt'<ws.length:=by omega
  have hwl:=hall lt' hlt
  obtain⟨b3,o3,c3,cs3,rfl,hcs3,hq3,hgg3,hn3,hn03⟩:=(hx.mono hs).at hlt
  obtain⟨w,ew⟩:∃w,m.wgs[i]=w:=⟨_,rfl⟩
  rw[ew] at hl w1 elt hgg
  have m1:0≤ws[lt']*(100+w.hi)∧ws[lt']*(100+w.hi)≤1600000:=by
   constructor
   ·exact Int.mul_nonneg ydc ydc
   ·have h1:=Int.mul_le_mul_of_nonneg_right hwl.2 (show 0≤100+w.hi by omega);omega
  have m2:0≤ws[lt']*(100+w.lo)∧ws[lt']*(100+w.lo)≤1600000:=by
   constructor
   ·exact Int.mul_nonneg ydc ydc
   ·have h1:=Int.mul_le_mul_of_nonneg_right hwl.2 (show 0≤100+w.lo by omega);omega
  have c1:=sayLo_le (m:=m) (w:=w) (k:=ws[lt']) hwl.1 ydc
  have c2:=le_sayHi (m:=m) (w:=w) (k:=ws[lt']) hwl.2 ydc ydc
  have sA:=(H.Sub.refl hs.wf).add (.bk (Zy w))
  have hcsA:=sA.cells hcs3
  have hb3:b3<h2.next:=by obtain⟨k,hk⟩:=H.cells_eq hcs3;exact hs.wf _ _ hk
  have gmA:=sA.cells gm
  have hnx:=hs1.next
  rw[H.next_add] at hnx
  have hbad:¬(Z8 m w≤ws[lt']∧ws[lt']≤Z1 m w)→¬FitsP m ws:=fun hb hf=>by
   have:=((XW g).1 hf).2.2.2 i hi
   rw[ew,elt,XJ hlt] at this
   exact hb this
  by_cases d1:ws[lt']*(100+w.hi)<100*(w.reads-m.errs)
  ·simp(disch:=omega)only[go_sem,t1,t2,t9,gm,hlenW,hi',hq (Zb i),hcs,hgg,Zy,elt,hq3 (Zb lt'),hcs3,hn03 ydc,encI,ZD,d1]
   exact fin _ (hs.add _) (hbad ydc)
  by_cases d2:100*(w.reads+m.errs)<ws[lt']*(100+w.lo)
  ·simp(disch:=omega)only[go_sem,t1,t2,t9,gm,hlenW,hi',hq (Zb i),hcs,hgg,Zy,elt,hq3 (Zb lt'),hcs3,hn03 ydc,encI,ZD,d1,d2]
   exact fin _ (hs.add _) (hbad ydc)
  simp(disch:=omega)only[go_sem,t1,t2,t9,gm,hlenW,hi',hq (Zb i),hcs,hgg,Zy,elt,hq3 (Zb lt'),hcs3,hn03 ydc,encI,ZD,d1,d2,Ze]
  refine⟨_,_,rfl,hs1.add _,fun k hk hki=>?_,ydd,yde,yda⟩
  by_cases e:k=i
  ·subst e;rw[ew,elt,XJ hlt];omega
  ·exact hinv k hk ydc
 ·rintro s ⟨tm,h2,rfl,hs1,hinv,t1,t2,t9⟩
  have gm:=hgm _ hs1
  simp(disch:=omega)only[go_sem,t1,t2,t9,gm,hlenW,Int.lt_irrefl]
  refine q _ _ ⟨s2.trans hs1,true,rfl,?_⟩
  simp only[true_iff,XW g]
  exact⟨hlen',hall,hsums,fun k hk=>hinv k hk hk⟩
end Go.Ab.Tryz
namespace Go.Ab.Tryz
open Go.Ab.Silk
def Wq (b:Bool):List V:=[.bool b]
theorem bools_flat (l:List Bool):(l.map Wq).flatten=l.map V.bool:=by
 induction l with
 |nil=>rfl
 |cons a l ih=>simp[Wq,ih]
theorem VV:∀(l:List Bool) (i:Nat) (b:Bool),i<l.length→Yl i [.bool b] (l.map V.bool)=some ((l.set i b).map V.bool)
 |[],i,b,h=>by simp at h
 |a::l,0,b,_=>by simp[V7,over_s,over_0,Xq]
 |a::l,i+1,b,h=>by
  have ih:=VV l i b (by simpa using h)
  simp only[List.map_cons,putN_s,ih,Xq,List.set_cons_succ]
theorem bools_nth:∀(l:List Bool) (i:Nat) (h:i<l.length),nth i (l.map V.bool)=some (.bool l[i])
 |[],i,h=>by simp at h
 |a::l,0,_=>rfl
 |a::l,i+1,h=>by
  have ih:=bools_nth l i (by simpa using h)
  simp only[List.map_cons,List.getElem_cons_succ]
  exact ih
theorem repN_bools (n:Nat)(b:Bool):Yp n [V.bool b]=(List.replicate n b).map V.bool:=by
 induction n with
 |zero=>rfl
 |succ n ih=>rw[Yp,YG,ih];rfl
def cOf (l:List Bool):Nat→Bool:=fun k=>l.getD k false
theorem cOf_at {l:List Bool}{k:Nat}(h:k<l.length):cOf l k=l[k]:=by
 unfold cOf
 rw[List.getD_eq_getElem?_getD,List.getElem?_eq_getElem h];rfl
theorem bools_sl {h:H}{b n:Nat}{l:List Bool}(hb:h.cells b=some (l.map V.bool))(hn:n=l.length)(hl:l.length≤1000000):Zk h (.sl b 0 n (.fix n)) 1 (l.map Wq):=by
 subst hn
 refine⟨fun r hr=>by(obtain⟨b,_,rfl⟩:=List.mem_map.1 hr;rfl),by simp;omega,.inr ⟨b,0,.fix l.length,_,by simp,.inr hb,?_⟩⟩
 rw[bools_flat]
 exact W6 (by simp)
def upTo (n i:Nat):List Bool:=(List.range n).map fun j=>decide (j<i)
theorem upTo_len (n i:Nat):(upTo n i).length=n:=by simp[upTo]
theorem upTo_zero (n:Nat):upTo n 0=List.replicate n false:=by
 refine List.ext_getElem (by simp[upTo]) fun i h1 h2=>?_
 simp[upTo]
theorem upTo_step {n i:Nat}(h:i<n):(upTo n i).set i true=upTo n (i+1):=by
 refine List.ext_getElem (by simp[upTo]) fun k h1 h2=>?_
 rw[List.getElem_set]
 by_cases e:i=k
 ·subst e;simp[upTo]
 ·rw[if_neg e]
  simp only[upTo,List.getElem_map,List.getElem_range]
  rw[Bool.eq_iff_iff];simp;omega
theorem upTo_all (n:Nat):upTo n n=List.replicate n true:=by
 refine List.ext_getElem (by simp[upTo]) fun i h1 h2=>?_
 rw[upTo_len] at h1
 simp[upTo];exact h1
theorem All_ev {h:H}{v:V}{m:Ml}(hw:h.wf)(hm:ZF h v m)(hl:m.wgs.length≤1000)(Q:V→H→Prop)(q:∀C h',h.Sub h'→Zk h' C 1 ((List.replicate m.wgs.length true).map Wq)→Q C h'):Ev fnG Zm (.fn 54 [] []) [v] h Q:=by
 obtain⟨L,W,rfl,aL,aW⟩:=hm
 refine Zf (fd:=c54) rfl rfl rfl ?_
 have hlenW:=aW.lenE
 have s2:h.Sub ((h.add (.bk [.ii m.errs,L,W])).add (.bk (Yp m.wgs.length [.bool false]))):=ydb
 simp(disch:=omega)only[c54,go_sem,hlenW,VX]
 refine Zi m.wgs.length (fun i s=>∃tm h',s=⟨tm,h',[]⟩∧h.Sub h'∧h.next+1<h'.next∧h'.get (h.next+1)=some (.bk ((upTo m.wgs.length i).map V.bool))∧tm.E 3=.sl (h.next+1) 0 m.wgs.length (.fix m.wgs.length)∧tm.E 4=.ii (i:Int))
  ?_ ?_ (i:=0) (Nat.zero_le _) ⟨_,_,rfl,s2,by simp only[H.next_add];omega,by rw[Zo (by rw[H.next_add]),repN_bools,upTo_zero],yda,yda⟩
 ·rintro i s hi ⟨tm,h',rfl,hs,lt,gb,t3,t4⟩
  have hi':(i:Int)<(m.wgs.length:Int):=by omega
  have hput:=VV (upTo m.wgs.length i) i true (by rw[upTo_len];exact hi)
  rw[upTo_step hi] at hput
  simp(disch:=omega)only[go_sem,t3,t4,hi',Zz (Zb i) hi,Nat.mul_one,gb,hput,Ze]
  exact⟨_,_,rfl,hs.set ydc lt hw _,by rw[H.next_set];exact lt,get_set_same rfl,ydf,yda⟩
 ·rintro s ⟨tm,h',rfl,hs,lt,gb,t3,t4⟩
  simp(disch:=omega)only[go_sem,t3,t4,Int.lt_irrefl]
  rw[upTo_all] at gb
  exact q _ _ hs (bools_sl (Za gb) (by simp) (by simp;omega))
theorem refOwn_ev {h:H}{v C:V}{m:Ml}{cl:List Bool}(hw:h.wf)(hm:ZF h v m)(g:Good m)(hC:Zk h C 1 (cl.map Wq))(hcl:cl.length=m.wgs.length)(lot:Int)(Q:V→H→Prop)
  (q:∀h',h.Sub h'→Q (.tup [.ii (YZ m (cOf cl) lot m.wgs.length).1,.ii (YZ m (cOf cl) lot m.wgs.length).2]) h'):Ev fnG Zm (.fn 152 [] []) [v,C,.ii lot] h Q:=by
 have hm0:=hm
 obtain⟨L,W,rfl,aL,aW⟩:=hm
 refine Zf (fd:=c152) rfl rfl rfl ?_
 have hlenW:=aW.lenE
 have gw:=g.wgs
 have s2:h.Sub (h.add (.bk [.ii m.errs,L,W])):=ydb
 have g1:(h.add (.bk [.ii m.errs,L,W])).cells h.next=some [.ii m.errs,L,W]:=Zh rfl
 simp(disch:=omega)only[c152,go_sem]
 refine Zi m.wgs.length (fun i s=>∃tm h',s=⟨tm,h',[]⟩∧(h.add (.bk [.ii m.errs,L,W])).Sub h'∧tm.E 1=C∧tm.E 2=.ii lot∧tm.E 3=.ptr h.next 0∧tm.E 8=.ii (YZ m (cOf cl) lot i).1∧tm.E 9=.ii (YZ m (cOf cl) lot i).2∧tm.E 10=.ii (i:Int))
  ?_ ?_ (i:=0) (Nat.zero_le _) ⟨_,_,rfl,H.Sub.refl s2.wf,yda,yda,yda,yda,yda,yda⟩
 ·rintro i s hi ⟨tm,h',rfl,hs1,t1,t2,t3,t8,t9,t10⟩
  have hi':(i:Int)<(m.wgs.length:Int):=by omega
  have hic:i<cl.length:=by omega
  have hs:=s2.trans hs1
  have gm:=hs1.cells g1
  obtain⟨b1,o1,c1,cs1,rfl,hcs1,hq1,hgg1,hn1,hn01⟩:=(hC.mono hs).at hic
  obtain⟨bb,o,cc,cs,rfl,hcs,hq,hgg,hn,hn0⟩:=(aW.mono hs).at hi
  have hc0:=cOf_at hic
  cases hc:cl[i]
  ·rw[hc] at hc0
   simp(disch:=omega)only[go_sem,t1,t2,t3,t8,t9,t10,gm,hlenW,hi',hq1 (Zb i),hcs1,hn01 ydc,Wq,hc,Ze]
   exact⟨_,_,rfl,hs1,ydd,yde,ydf,by rw[Xv hi (.inl hc0)];exact ydu,by rw[Xv hi (.inl hc0)];exact ydj,yda⟩
  ·rw[hc] at hc0
   by_cases hl:m.wgs[i].lot=lot
   ·have hh:=ownK_hit hi hc0 hl
    simp(disch:=omega)only[go_sem,t1,t2,t3,t8,t9,t10,gm,hlenW,hi',hq1 (Zb i),hcs1,hn01 ydc,Wq,hc,hq (Zb i),hcs,hn0 ydc,Zy,hl]
    refine V5 hs.wf (hm0.mono hs) g hi _ fun h5 s15=>?_
    simp(disch:=omega)only[go_sem,t1,t2,t3,t8,t9,t10,Ze]
    exact⟨_,_,rfl,hs1.trans s15,ydd,yde,ydf,by rw[hh];exact yda,by rw[hh];exact yda,yda⟩
   ·simp(disch:=omega)only[go_sem,t1,t2,t3,t8,t9,t10,gm,hlenW,hi',hq1 (Zb i),hcs1,hn01 ydc,Wq,hc,hq (Zb i),hcs,hn0 ydc,Zy,hl,Ze]
    exact⟨_,_,rfl,hs1,ydd,yde,ydf,by rw[Xv hi (.inr hl)];exact ydu,by rw[Xv hi (.inr hl)];exact ydj,yda⟩
 ·rintro s ⟨tm,h',rfl,hs1,t1,t2,t3,t8,t9,t10⟩
  simp(disch:=omega)only[go_sem,t1,t2,t3,t8,t9,t10,hs1.cells g1,hlenW,Int.lt_irrefl]
  exact q _ (s2.trans hs1)
def Um (m:Ml)(c:Nat→Bool):Box:=Uo m.lots.length (parts m) (ownB m c)
def OkB (m:Ml)(c:Nat→Bool)(lot:Int):Prop:=∀j:Int,0≤j→j<m.lots.length→Anc (ZS m) j lot→(Um m c j).1≤(Um m c j).2
theorem OkB_iff {m:Ml}(g:Good m){c:Nat→Bool}{lot:Int}(l0:0≤lot)(l1:lot<m.lots.length):OkB m c lot↔(Um m c lot).1≤(Um m c lot).2∧∀p∈parts m lot,OkB m c p:=by
 have F:=Zv g
 constructor
 ·intro h
  refine⟨h lot l0 l1 .self,fun p hp j j0 j1 ha=>h j j0 j1 ?_⟩
  obtain⟨p0,p1,pf⟩:=(F.mem _ _).1 hp
  rw[←pf];exact .up ha ydc
 ·rintro⟨h1,h2⟩ j j0 j1 ha
  cases ha with
  |self=>exact h1
  | @up k hk h0=>
   have hl:=hk.le F j0 j1
   exact h2 k ((F.mem _ _).2 ⟨hl.1,by omega,rfl⟩) j j0 j1 hk
theorem Um_bd {m:Ml}(g:Good m)(c:Nat→Bool){i:Int}(i0:0≤i)(i1:i<m.lots.length):0≤(Um m c i).1∧(Um m c i).2≤10000:=by
 have h1:=Uo_own (Zv g) (ownB m c) i0 i1
 have h2:=ownB_bd g c i
 unfold Um;omega
theorem ownB_at {m:Ml}{c:Nat→Bool}{i:Int}(i0:0≤i)(i1:i<m.lots.length):ownB m c i=YZ m c i m.wgs.length:=by unfold ownB VB;rw[if_pos ⟨i0,i1⟩]
set_option maxHeartbeats 2000000 in
theorem up_ev {m:Ml}(g:Good m){cl:List Bool}(hcl:cl.length=m.wgs.length):∀(k:Nat) {h:H} {v C:V} (lot:Nat),m.lots.length-lot≤k→lot<m.lots.length→h.wf→ZF h v m→Zk h C 1 (cl.map Wq)→
  Ev fnG Zm (.fn 105 [] []) [v,C,.ii (lot:Int)] h fun u h'=>h.Sub h'∧∃t lo hi,u=.tup [.ii lo,.ii hi,.bool t]∧(t=true↔OkB m (cOf cl) (lot:Int))∧(t=true→lo=(Um m (cOf cl) (lot:Int)).1∧hi=(Um m (cOf cl) (lot:Int)).2):=by
 intro k
 induction k with
 |zero=>intro h v C lot h1 h2;omega
 |succ k ih=>
  intro h v C lot hk hlot hw hm hC
  refine Ev.gen fun Q q=>?_
  have F:=Zv g
  have gl:=g.lots
  have hm0:=hm
  obtain⟨L,W,rfl,aL,aW⟩:=hm
  have hl0:(0:Int)≤(lot:Int):=by omega
  have hl1:(lot:Int)<(m.lots.length:Int):=by omega
  have hOk:=OkB_iff g (c:=cOf cl) hl0 hl1
  refine Zf (fd:=c105) rfl rfl rfl ?_
  have s2:h.Sub (h.add (.bk [.ii m.errs,L,W])):=ydb
  have g1:(h.add (.bk [.ii m.errs,L,W])).cells h.next=some [.ii m.errs,L,W]:=Zh rfl
  simp(disch:=omega)only[c105,go_sem]
  refine refOwn_ev s2.wf (hm0.mono s2) g (hC.mono s2) hcl _ _ fun h3 s23=>?_
  have s3:=s2.trans s23
  simp(disch:=omega)only[go_sem,s23.cells g1]
  refine YU s3.wf (hm0.mono s3) g hlot _ fun P h4 oP=>?_
  have s34:=oP.1
  have s4:=s3.trans s34
  have hpl:=ZV m (lot:Int)
  have aP:=oP.sl yds
  have hlenP:=aP.lenE
  obtain⟨ps,eps⟩:∃ps,parts m (lot:Int)=ps:=⟨_,rfl⟩
  have hps:∀p∈ps,0≤p∧p<m.lots.length∧(lot:Int)<p:=fun p hp=>by
   obtain⟨p0,p1,pf⟩:=(F.mem (lot:Int) p).1 (by rw[eps];exact hp)
   have:=F.lt p p0 p1
   omega
  rw[eps] at aP hlenP hpl hOk
  have hown:=ownB_at (c:=cOf cl) hl0 hl1
  rw[←hown]
  have bdS:∀l:List Int,(∀p∈l,p∈ps∧OkB m (cOf cl) p)→(l.length:Int)≤12→0≤Zg (lo1 (Um m (cOf cl))) l∧Zg (lo1 (Um m (cOf cl))) l≤120000∧0≤Zg (hi1 (Um m (cOf cl))) l∧Zg (hi1 (Um m (cOf cl))) l≤120000:=fun l h1 h2=>by
   have hb:∀p∈l,0≤(Um m (cOf cl) p).1∧(Um m (cOf cl) p).1≤(Um m (cOf cl) p).2∧(Um m (cOf cl) p).2≤10000:=fun p hp=>by
    obtain⟨p0,p1,_⟩:=hps p (h1 p hp).1
    have a:=Um_bd g (cOf cl) p0 p1
    have b:=(h1 p hp).2 p p0 p1 .self
    omega
   have e1:∀(l:List Int),Zg (fun _=>(10000:Int)) l=l.length*10000:=fun l=>by
    induction l with
    |nil=>simp[Zg]
    |cons a l ih=>simp only[Zg,ih,List.length_cons,Int.natCast_add];omega
   have a1:=Z7 (x:=lo1 (Um m (cOf cl))) (l:=l) fun p hp=>(hb p hp).1
   have a2:=ZU (x:=lo1 (Um m (cOf cl))) (y:=fun _=>10000) (l:=l) fun p hp=>by have:=hb p hp;simp only[lo1];omega
   have a3:=Z7 (x:=hi1 (Um m (cOf cl))) (l:=l) fun p hp=>by have:=hb p hp;simp only[hi1];omega
   have a4:=ZU (x:=hi1 (Um m (cOf cl))) (y:=fun _=>10000) (l:=l) fun p hp=>(hb p hp).2.2
   rw[e1] at a2 a4
   omega
  simp(disch:=omega)only[go_sem]
  refine Zi ps.length (fun j s=>∃tm h',s=⟨tm,h',[]⟩∧h4.Sub h'∧(∀p∈ps.take j,OkB m (cOf cl) p)∧tm.E 1=C∧tm.E 3=.ptr h.next 0∧tm.E 9=.ii (ownB m (cOf cl) (lot:Int)).1∧tm.E 10=.ii (ownB m (cOf cl) (lot:Int)).2∧tm.E 11=P∧
    tm.E 12=.ii (Zg (lo1 (Um m (cOf cl))) (ps.take j))∧tm.E 13=.ii (Zg (hi1 (Um m (cOf cl))) (ps.take j))∧tm.E 14=.ii (j:Int))
   ?_ ?_ (i:=0) (Nat.zero_le _) ⟨_,_,rfl,H.Sub.refl s4.wf,fun p hp=>by simp at hp,yda,yda,yda,yda,yda,yda,yda,yda⟩
  ·rintro j s hj ⟨tm,h',rfl,hs,hok,t1,t3,t9,t10,t11,t12,t13,t14⟩
   have hj':(j:Int)<(ps.length:Int):=by omega
   have hs4:=s4.trans hs
   have gm:=(s23.trans (s34.trans hs)).cells g1
   obtain⟨b2,o2,c2,cs2,rfl,hcs2,hq2,hgg2,hn2,hn02⟩:=(aP.mono hs).at hj
   obtain⟨p0,p1,p2⟩:=hps _ (List.getElem_mem hj)
   obtain⟨p,ep⟩:=Int.eq_ofNat_of_zero_le p0
   simp(disch:=omega)only[go_sem,t1,t3,t9,t10,t11,t12,t13,t14,hlenP,hj',gm,hq2 (Zb j),hcs2,hn02 ydc,encI,ep]
   refine(ih p ydc ydc hs4.wf (hm0.mono hs4) (hC.mono hs4)).mono fun u h5 hu=>?_
   obtain⟨s45,t,lo,hi,rfl,hiff,hval⟩:=hu
   cases t
   ·simp(disch:=omega)only[go_sem,t1,t3,t9,t10,t11,t12,t13,t14,gm,hcs2,hn02 ydc,encI,ep,Bool.not_false]
    refine q _ _ ⟨hs4.trans s45,false,0,0,rfl,?_,fun h=>by cases h⟩
    simp only[Bool.false_eq_true,false_iff]
    intro hb
    have h1:=(hOk.1 hb).2 _ (List.getElem_mem hj)
    rw[ep] at h1
    have:=hiff.2 h1
    cases this
   ·obtain⟨rfl,rfl⟩:=hval rfl
    have hokp:=hiff.1 rfl
    have hb1:=bdS (ps.take j) (fun p hp=>⟨List.mem_of_mem_take hp,hok p hp⟩) ydv
    have hup:=Um_bd g (cOf cl) (i:=(p:Int)) ydc ydc
    have hup2:=hokp (p:Int) ydc ydc .self
    have e1:=Yu (lo1 (Um m (cOf cl))) hj
    have e2:=Yu (hi1 (Um m (cOf cl))) hj
    rw[ep] at e1 e2
    have f1:lo1 (Um m (cOf cl)) (p:Int)=(Um m (cOf cl) (p:Int)).1:=rfl
    have f2:hi1 (Um m (cOf cl)) (p:Int)=(Um m (cOf cl) (p:Int)).2:=rfl
    rw[f1] at e1
    rw[f2] at e2
    simp(disch:=omega)only[go_sem,t1,t3,t9,t10,t11,t12,t13,t14,gm,hcs2,hn02 ydc,encI,ep,Bool.not_true,ZD,Ze]
    refine⟨_,_,rfl,hs.trans s45,fun r hr=>?_,ydd,ydf,ydj,ydi,ydk,by rw[e1];exact yda,by rw[e2];exact yda,yda⟩
    rw[List.take_succ_eq_append_getElem hj,List.mem_append,List.mem_singleton] at hr
    rcases hr with hr|rfl
    ·exact hok r hr
    ·rw[ep];exact hokp
  ·rintro s ⟨tm,h',rfl,hs,hok,t1,t3,t9,t10,t11,t12,t13,t14⟩
   rw[List.take_length] at t12 t13 hok
   have hs4:=s4.trans hs
   by_cases hne:ps=[]
   ·have h0:(ps.length:Int)=0:=by rw[hne];rfl
    have hU:Um m (cOf cl) (lot:Int)=ownB m (cOf cl) (lot:Int):=Vu F _ hl0 hl1 (by rw[eps];exact hne)
    have h00:¬(0:Int)<0:=by omega
    have hiff:((ownB m (cOf cl) (lot:Int)).1≤(ownB m (cOf cl) (lot:Int)).2)↔OkB m (cOf cl) (lot:Int):=by
     rw[hOk,hU];exact⟨fun h=>⟨h,fun p hp=>hok p hp⟩,fun h=>h.1⟩
    have h0':¬(0:Int)<(ps.length:Int):=by omega
    simp(disch:=omega)only[go_sem,t1,t3,t9,t10,t11,t12,t13,t14,hlenP,Int.lt_irrefl,h0',h0,h00]
    exact q _ _ ⟨hs4,_,_,_,rfl,by rw[decide_eq_true_eq];exact hiff,fun _=>by rw[hU];exact⟨rfl,rfl⟩⟩
   ·have h0:(0:Int)<(ps.length:Int):=by have:=List.length_pos_iff.2 hne;omega
    have hU:Um m (cOf cl) (lot:Int)=(max (ownB m (cOf cl) (lot:Int)).1 (Zg (lo1 (Um m (cOf cl))) ps),min (ownB m (cOf cl) (lot:Int)).2 (Zg (hi1 (Um m (cOf cl))) ps)):=by
     have:=Wz F (ownB m (cOf cl)) hl0 hl1 (by rw[eps];exact hne)
     rw[eps] at this;exact this
    have hiff:(max (ownB m (cOf cl) (lot:Int)).1 (Zg (lo1 (Um m (cOf cl))) ps)≤min (ownB m (cOf cl) (lot:Int)).2 (Zg (hi1 (Um m (cOf cl))) ps))↔OkB m (cOf cl) (lot:Int):=by
     rw[hOk,hU];exact⟨fun h=>⟨h,fun p hp=>hok p hp⟩,fun h=>h.1⟩
    simp(disch:=omega)only[go_sem,t1,t3,t9,t10,t11,t12,t13,t14,hlenP,Int.lt_irrefl,h0]
    exact q _ _ ⟨hs4,_,_,_,rfl,by rw[decide_eq_true_eq];exact hiff,fun _=>by rw[hU];exact⟨rfl,rfl⟩⟩
theorem OkB_all {m:Ml}{c:Nat→Bool}:(∀i:Int,0≤i→i<m.lots.length→OkB m c i)↔∀i:Int,0≤i→i<m.lots.length→(Um m c i).1≤(Um m c i).2:=
 ⟨fun h i i0 i1=>h i i0 i1 i i0 i1 .self,fun h i _ _ j j0 j1 _=>h j j0 j1⟩
theorem Wx {m:Ml}(g:Good m){c:Nat→Bool}:(∃w,ZC m c w)↔∀i:Int,0≤i→i<m.lots.length→(Um m c i).1≤(Um m c i).2:=by
 have gl:=g.lots
 exact feas_iff (Zv g) (ownB m c) ydc
theorem YV {h:H}{v C:V}{m:Ml}{cl:List Bool}(hw:h.wf)(hm:ZF h v m)(g:Good m)(hC:Zk h C 1 (cl.map Wq))(hcl:cl.length=m.wgs.length):
  Ev fnG Zm (.fn 53 [] []) [v,C] h fun u h'=>h.Sub h'∧∃t,u=.bool t∧(t=true↔∃w,ZC m (cOf cl) w):=by
 refine Ev.gen fun Q q=>?_
 have gl:=g.lots
 have hm0:=hm
 obtain⟨L,W,rfl,aL,aW⟩:=hm
 refine Zf (fd:=c53) rfl rfl rfl ?_
 have hlenL:=aL.lenE
 have s2:h.Sub (h.add (.bk [.ii m.errs,L,W])):=ydb
 have g1:(h.add (.bk [.ii m.errs,L,W])).cells h.next=some [.ii m.errs,L,W]:=Zh rfl
 simp(disch:=omega)only[c53,go_sem]
 refine Zi m.lots.length (fun i s=>∃tm h',s=⟨tm,h',[]⟩∧(h.add (.bk [.ii m.errs,L,W])).Sub h'∧(∀j:Int,0≤j→j<i→OkB m (cOf cl) j)∧tm.E 1=C∧tm.E 2=.ptr h.next 0∧tm.E 5=.ii (i:Int))
  ?_ ?_ (i:=0) (Nat.zero_le _) ⟨_,_,rfl,H.Sub.refl s2.wf,fun j j0 j1=>by omega,yda,yda,yda⟩
 ·rintro i s hi ⟨tm,h',rfl,hs1,hok,t1,t2,t5⟩
  have hi':(i:Int)<(m.lots.length:Int):=by omega
  have hs:=s2.trans hs1
  simp(disch:=omega)only[go_sem,t1,t2,t5,hs1.cells g1,hlenL,hi']
  refine(up_ev g hcl _ i (Nat.le_refl _) hi hs.wf (hm0.mono hs) (hC.mono hs)).mono fun u h5 hu=>?_
  obtain⟨s15,t,lo,hi2,rfl,hiff,hval⟩:=hu
  cases t
  ·simp(disch:=omega)only[go_sem,t1,t2,t5,Bool.not_false]
   refine q _ _ ⟨hs.trans s15,false,rfl,?_⟩
   simp only[Bool.false_eq_true,false_iff,Wx g]
   intro hall
   have:=hiff.2 (OkB_all.2 hall (i:Int) ydc hi')
   cases this
  ·simp(disch:=omega)only[go_sem,t1,t2,t5,Bool.not_true,Ze]
   refine⟨_,_,rfl,hs1.trans s15,fun j j0 j1=>?_,ydd,yde,yda⟩
   by_cases e:j=(i:Int)
   ·subst e;exact hiff.1 rfl
   ·exact hok j j0 ydc
 ·rintro s ⟨tm,h',rfl,hs1,hok,t1,t2,t5⟩
  simp(disch:=omega)only[go_sem,t1,t2,t5,hs1.cells g1,hlenL,Int.lt_irrefl]
  refine q _ _ ⟨s2.trans hs1,true,rfl,?_⟩
  simp only[true_iff,Wx g]
  exact OkB_all.1 hok
theorem cOf_all (m:Ml){k:Nat}(hk:k<m.wgs.length):cOf (List.replicate m.wgs.length true) k=true:=by
 rw[cOf_at (by simpa using hk)];simp
theorem ownK_congr {m:Ml}{c c':Nat→Bool}{lot:Int}:∀k,k≤m.wgs.length→(∀j,j<m.wgs.length→c j=c' j)→YZ m c lot k=YZ m c' lot k
 |0,_,_=>rfl
 |k+1,hk,h=>by
  have ih:=ownK_congr (lot:=lot) k ydc h
  simp only[YZ]
  rw[List.getElem?_eq_getElem (by omega:k<m.wgs.length)]
  simp only
  rw[h k ydc,ih]
theorem ownB_congr {m:Ml}{c c':Nat→Bool}(h:∀j,j<m.wgs.length→c j=c' j):ownB m c=ownB m c':=by
 funext lot
 unfold ownB VB
 rw[ownK_congr m.wgs.length (Nat.le_refl _) h]
theorem own_all (m:Ml):ownB m (cOf (List.replicate m.wgs.length true))=ownB m Zj:=ownB_congr fun j hj=>cOf_all m hj
def Dm (m:Ml):Box:=Do m.lots.length (ZS m) (parts m) (Um m Zj)
theorem Dm_exact {m:Ml}(g:Good m)(h:∃w,ZC m Zj w):Exact m.lots.length (parts m) (ownB m Zj) (Dm m):=exact_ref (Zv g) ((Wx g).1 h)
theorem Dm_eq {m:Ml}(g:Good m){b:Box}(h:Xs m Zj b){i:Int}(i0:0≤i)(i1:i<m.lots.length):Dm m i=b i:=(Dm_exact g (h.feas g)).uniq h.1 i0 i1
theorem sumL_up1_take {x:Int→Int}{i:Int}{l:List Int}{j:Nat}(hj:j<l.length):Zg (up1 x i 0) (l.take (j+1))=Zg (up1 x i 0) (l.take j)+(if l[j]=i then 0 else x l[j]):=by
 rw[Yu _ hj];rfl
set_option maxHeartbeats 2000000 in
theorem V6 {m:Ml}(g:Good m)(hag:∃w,ZC m Zj w):∀(k:Nat) {h:H} {v:V} (lot:Nat),lot<k→lot<m.lots.length→h.wf→ZF h v m→
  ∀(Q:V→H→Prop),(∀h',h.Sub h'→Q (.agg [.ii (Dm m (lot:Int)).1,.ii (Dm m (lot:Int)).2]) h')→Ev fnG Zm (.fn 55 [] []) [v,.ii (lot:Int)] h Q:=by
 intro k
 induction k with
 |zero=>intro h v lot h1;omega
 |succ k ih=>
  intro h v lot hk hlot hw hm Q q
  have F:=Zv g
  have gl:=g.lots
  have gw:=g.wgs
  have hm0:=hm
  obtain⟨L,W,rfl,aL,aW⟩:=hm
  have hl0:(0:Int)≤(lot:Int):=by omega
  have hl1:(lot:Int)<(m.lots.length:Int):=by omega
  have hall:=(Wx g).1 hag
  have hUm:∀i:Int,0≤i→i<m.lots.length→0≤(Um m Zj i).1∧(Um m Zj i).1≤(Um m Zj i).2∧(Um m Zj i).2≤10000:=fun i i0 i1=>by
   have a:=Um_bd g Zj i0 i1
   have b:=hall i i0 i1
   omega
  have hUall:Um m (cOf (List.replicate m.wgs.length true))=Um m Zj:=by unfold Um;rw[own_all]
  have upu:∀{h':H} (lt:Nat),lt<m.lots.length→h.Sub h'→∀{C:V},Zk h' C 1 ((List.replicate m.wgs.length true).map Wq)→∀(R:V→H→Prop),(∀h2,h'.Sub h2→R (.tup [.ii (Um m Zj (lt:Int)).1,.ii (Um m Zj (lt:Int)).2,.bool true]) h2)→
    Ev fnG Zm (.fn 105 [] []) [.agg [.ii m.errs,L,W],C,.ii (lt:Int)] h' R:=fun{h'} lt hlt hs {C} hC R r=>by
   refine(up_ev g (cl:=List.replicate m.wgs.length true) (by simp) _ lt (Nat.le_refl _) hlt hs.wf (hm0.mono hs) hC).mono fun u h2 hu=>?_
   obtain⟨s12,t,lo,hi,rfl,hiff,hval⟩:=hu
   have ht:t=true:=hiff.2 (by
    intro j j0 j1 _
    rw[hUall];exact hall j j0 j1)
   subst ht
   obtain⟨rfl,rfl⟩:=hval rfl
   rw[hUall];exact r h2 s12
  refine Zf (fd:=c55) rfl rfl rfl ?_
  have s2:h.Sub ((h.add (.bk [.ii m.errs,L,W])).add (.bk [.ii 0,.ii 0])):=ydb
  have g1:((h.add (.bk [.ii m.errs,L,W])).add (.bk [.ii 0,.ii 0])).cells h.next=some [.ii m.errs,L,W]:=by simp -implicitDefEqProofs(disch:=first|omega|simp only[nZ]<;>omega|fail)only[go_sem]
  have gr:((h.add (.bk [.ii m.errs,L,W])).add (.bk [.ii 0,.ii 0])).get (h.next+1)=some (.bk [.ii 0,.ii 0]):=by simp -implicitDefEqProofs(disch:=first|omega|simp only[nZ]<;>omega|fail)only[go_sem]
  have l2:((h.add (.bk [.ii m.errs,L,W])).add (.bk [.ii 0,.ii 0])).next=h.next+2:=by simp only[H.next_add]
  simp -implicitDefEqProofs(disch:=first|omega|simp only[nZ]<;>omega|fail)only[c55,go_sem]
  generalize(h.add (.bk [.ii m.errs,L,W])).add (.bk [.ii 0,.ii 0])=h2 at s2 g1 gr l2⊢
  refine All_ev s2.wf (hm0.mono s2) ydc _ fun C h3 s23 aC=>?_
  have s3:=s2.trans s23
  simp(disch:=omega)only[go_sem]
  refine upu lot hlot s3 aC _ fun h4 s34=>?_
  have s24:=s23.trans s34
  have s4:=s2.trans s24
  have l4:=s24.next
  obtain⟨b1,o1,c1,cs1,rfl,hcs1,hq1,hgg1,hn1,hn01⟩:=(aL.mono s4).at hlot
  have hfr:=XV hlot
  have hflt:=F.lt (lot:Int) hl0 hl1
  have hD:=Do_eq F (Um m Zj) hl0 hl1
  by_cases hf:m.lots[lot].frm<0
  ·rw[if_pos ydc] at hD
   simp(disch:=omega)only[go_sem,g1,s23.cells g1,s24.cells g1,hq1 (Zb lot),hcs1,hn01 ydc,ZO,hf,s24.get gr]
   have hq:=q _ (s4.set (b:=h.next+1) ydc ydc hw (.bk [.ii (Um m Zj (lot:Int)).1,.ii (Um m Zj (lot:Int)).2]))
   have e:Dm m (lot:Int)=Um m Zj (lot:Int):=hD
   rw[e] at hq;exact hq
  rw[if_neg ydc] at hD
  obtain⟨fr,efr⟩:=Int.eq_ofNat_of_zero_le (show 0≤m.lots[lot].frm by omega)
  have hfr':ZS m (lot:Int)=(fr:Int):=by rw[hfr,efr]
  rw[hfr'] at hD
  simp(disch:=omega)only[go_sem,g1,s23.cells g1,s24.cells g1,hq1 (Zb lot),hcs1,hn01 ydc,ZO,hf]
  rw[efr]
  refine ih fr ydc ydc s4.wf (hm0.mono s4) _ fun h5 s45=>?_
  have s5:=s4.trans s45
  have s25:=s24.trans s45
  have s56:=(H.Sub.refl s5.wf).add (.bk [.ii (Dm m (fr:Int)).1,.ii (Dm m (fr:Int)).2])
  have s6:=s5.trans s56
  have s26:=s25.trans s56
  have g6:=s26.cells g1
  have l5:=s25.next
  simp(disch:=omega)only[go_sem,g6]
  refine YU s6.wf (hm0.mono s6) g (by omega:fr<m.lots.length) _ fun P h7 oP=>?_
  have s67:=oP.1
  have s7:=s6.trans s67
  have hpl:=ZV m (fr:Int)
  have aP:=oP.sl yds
  have hlenP:=aP.lenE
  obtain⟨ps,eps⟩:∃ps,parts m (fr:Int)=ps:=⟨_,rfl⟩
  have hps:∀p∈ps,0≤p∧p<m.lots.length:=fun p hp=>by
   obtain⟨p0,p1,pf⟩:=(F.mem (fr:Int) p).1 (by rw[eps];exact hp)
   exact⟨p0,p1⟩
  have hmem:(lot:Int)∈ps:=by rw[←eps];exact(F.mem _ _).2 ⟨hl0,hl1,hfr'⟩
  have hnd:ps.Nodup:=by rw[←eps];exact F.nodup _
  have hlo:=Vb (x:=lo1 (Um m Zj)) (v:=0) hnd hmem
  have hhi:=Vb (x:=hi1 (Um m Zj)) (v:=0) hnd hmem
  rw[eps] at aP hlenP hpl hD
  have bdS:∀l:List Int,(∀p∈l,p∈ps)→(l.length:Int)≤12→0≤Zg (up1 (lo1 (Um m Zj)) (lot:Int) 0) l∧Zg (up1 (lo1 (Um m Zj)) (lot:Int) 0) l≤120000∧0≤Zg (up1 (hi1 (Um m Zj)) (lot:Int) 0) l∧Zg (up1 (hi1 (Um m Zj)) (lot:Int) 0) l≤120000:=fun l h1 h2=>by
   have e1:∀(l:List Int),Zg (fun _=>(10000:Int)) l=l.length*10000:=fun l=>by
    induction l with
    |nil=>simp[Zg]
    |cons a l ih=>simp only[Zg,ih,List.length_cons,Int.natCast_add];omega
   have hb:∀p∈l,0≤(up1 (lo1 (Um m Zj)) (lot:Int) 0) p∧(up1 (lo1 (Um m Zj)) (lot:Int) 0) p≤10000∧0≤(up1 (hi1 (Um m Zj)) (lot:Int) 0) p∧(up1 (hi1 (Um m Zj)) (lot:Int) 0) p≤10000:=fun p hp=>by
    obtain⟨p0,p1⟩:=hps p (h1 p hp)
    have:=hUm p p0 p1
    simp only[up1,lo1,hi1]
    split<;>omega
   have a1:=Z7 (l:=l) fun p hp=>(hb p hp).1
   have a2:=ZU (y:=fun _=>10000) (l:=l) fun p hp=>(hb p hp).2.1
   have a3:=Z7 (l:=l) fun p hp=>(hb p hp).2.2.1
   have a4:=ZU (y:=fun _=>10000) (l:=l) fun p hp=>(hb p hp).2.2.2
   rw[e1] at a2 a4
   omega
  have hDf:=Do_in F (Um m Zj) (i:=(fr:Int)) ydc ydc
  have hUf:=hUm (fr:Int) ydc ydc
  have hDm:Dm m (fr:Int)=Do m.lots.length (ZS m) (parts m) (Um m Zj) (fr:Int):=rfl
  rw[←hDm] at hDf hD
  have hDfb:0≤(Dm m (fr:Int)).1∧(Dm m (fr:Int)).1≤10000∧0≤(Dm m (fr:Int)).2∧(Dm m (fr:Int)).2≤10000:=by
   have:=(Dm_exact g hag).ne (fr:Int) ydc ydc
   omega
  simp(disch:=omega)only[go_sem]
  refine Zi ps.length (fun j s=>∃tm h',s=⟨tm,h',[]⟩∧h7.Sub h'∧tm.E 1=.ii (lot:Int)∧tm.E 2=.ptr h.next 0∧tm.E 4=.ptr (h.next+1) 0∧tm.E 5=.ii (Um m Zj (lot:Int)).1∧tm.E 6=.ii (Um m Zj (lot:Int)).2∧
    tm.E 10=.ii ((Dm m (fr:Int)).1-Zg (up1 (hi1 (Um m Zj)) (lot:Int) 0) (ps.take j))∧tm.E 11=.ii ((Dm m (fr:Int)).2-Zg (up1 (lo1 (Um m Zj)) (lot:Int) 0) (ps.take j))∧tm.E 12=P∧tm.E 13=.ii (j:Int))
   ?_ ?_ (i:=0) (Nat.zero_le _) ⟨_,_,rfl,H.Sub.refl s7.wf,yda,yda,yda,yda,yda,by(simp only[List.take_zero,Zg,Int.sub_zero];exact yda),by(simp only[List.take_zero,Zg,Int.sub_zero];exact yda),yda,yda⟩
  ·rintro j s hj ⟨tm,h',rfl,hs,t1,t2,t4,t5,t6,t10,t11,t12,t13⟩
   have hj':(j:Int)<(ps.length:Int):=by omega
   have hs7:=s7.trans hs
   have gm:=(s26.trans (s67.trans hs)).cells g1
   obtain⟨b2,o2,c2,cs2,rfl,hcs2,hq2,hgg2,hn2,hn02⟩:=(aP.mono hs).at hj
   obtain⟨p0,p1⟩:=hps _ (List.getElem_mem hj)
   obtain⟨p,ep⟩:=Int.eq_ofNat_of_zero_le p0
   have e1:=sumL_up1_take (x:=lo1 (Um m Zj)) (i:=(lot:Int)) hj
   have e2:=sumL_up1_take (x:=hi1 (Um m Zj)) (i:=(lot:Int)) hj
   have hb1:=bdS (ps.take j) (fun p hp=>List.mem_of_mem_take hp) ydv
   rw[ep] at e1 e2
   by_cases hpe:(p:Int)=(lot:Int)
   ·rw[if_pos hpe,Int.add_zero] at e1 e2
    simp(disch:=omega)only[go_sem,t1,t2,t4,t5,t6,t10,t11,t12,t13,hlenP,hj',hq2 (Zb j),hcs2,hn02 ydc,encI,ep,ne_eq,hpe,not_true_eq_false,Ze]
    exact⟨_,_,rfl,hs,ydd,yde,ydh,ydt,ydg,by rw[e2];exact ydi,by rw[e1];exact ydk,ydl,yda⟩
   ·rw[if_neg hpe] at e1 e2
    have f1:lo1 (Um m Zj) (p:Int)=(Um m Zj (p:Int)).1:=rfl
    have f2:hi1 (Um m Zj) (p:Int)=(Um m Zj (p:Int)).2:=rfl
    rw[f1] at e1
    rw[f2] at e2
    have hup:=hUm (p:Int) ydc ydc
    simp(disch:=omega)only[go_sem,t1,t2,t4,t5,t6,t10,t11,t12,t13,hlenP,hj',hq2 (Zb j),hcs2,hn02 ydc,encI,ep,ne_eq,hpe,not_false_eq_true,gm]
    refine All_ev hs7.wf (hm0.mono hs7) ydc _ fun C2 h8 s78 aC2=>?_
    have hcs8:=s78.cells hcs2
    have gm8:=s78.cells gm
    simp(disch:=omega)only[go_sem,t1,t2,t4,t5,t6,t10,t11,t12,t13,hq2 (Zb j),hcs8,hn02 ydc,encI,ep]
    refine upu p ydc (hs7.trans s78) aC2 _ fun h9 s89=>?_
    have hcs9:=s89.cells hcs8
    have gm9:=s89.cells gm8
    simp(disch:=omega)only[go_sem,t1,t2,t4,t5,t6,t10,t11,t12,t13,hq2 (Zb j),hcs2,hcs8,hcs9,hn02 ydc,encI,ep,gm,gm8,gm9,ZD,Ze]
    exact⟨_,_,rfl,hs.trans (s78.trans s89),ydd,yde,ydh,ydt,ydg,by rw[e2,←Int.sub_sub];exact yda,by rw[e1,←Int.sub_sub];exact yda,ydl,yda⟩
  ·rintro s ⟨tm,h',rfl,hs,t1,t2,t4,t5,t6,t10,t11,t12,t13⟩
   rw[List.take_length] at t10 t11
   rw[hhi] at t10
   rw[hlo] at t11
   have sAll:=s26.trans (s67.trans hs)
   have lA:=sAll.next
   simp(disch:=omega)only[go_sem,t1,t2,t4,t5,t6,t10,t11,t12,t13,hlenP,Int.lt_irrefl,sAll.get gr]
   have hq:=q _ ((s7.trans hs).set (b:=h.next+1) ydc ydc hw (.bk [.ii (Dm m (lot:Int)).1,.ii (Dm m (lot:Int)).2]))
   have e:Dm m (lot:Int)=(max (Um m Zj (lot:Int)).1 ((Dm m (fr:Int)).1-(Zg (hi1 (Um m Zj)) ps-hi1 (Um m Zj) (lot:Int)+0)),min (Um m Zj (lot:Int)).2 ((Dm m (fr:Int)).2-(Zg (lo1 (Um m Zj)) ps-lo1 (Um m Zj) (lot:Int)+0))):=by
    rw[Int.add_zero,Int.add_zero];exact hD
   rw[e] at hq;exact hq
end Go.Ab.Tryz
namespace Go.Ab.Tryz
open Go.Ab.Silk
theorem V1 (b:Box){n i:Nat}(h:i<(Yh b n).length):(Yh b n)[i]=[(b (i:Int)).1,(b (i:Int)).2]:=by simp[Yh]
theorem spansL_succ (b:Box)(n:Nat):Yh b (n+1)=Yh b n++[[(b (n:Int)).1,(b (n:Int)).2]]:=by simp[Yh,List.range_succ]
theorem spansL_congr {b c:Box}{n:Nat}(h:∀i:Int,0≤i→i<n→b i=c i):Yh b n=Yh c n:=by
 unfold Yh
 refine List.map_congr_left fun i hi=>?_
 have:i<n:=List.mem_range.1 hi
 rw[h (i:Int) ydc ydc]
theorem bestW_congr {b c:Box}:∀{n:Nat},(∀i:Int,0≤i→i<n→b i=c i)→Z6 b n=Z6 c n
 |0,_=>rfl
 |n+1,h=>by
  have ih:=bestW_congr (b:=b) (c:=c) (n:=n) fun i i0 i1=>h i i0 ydc
  have hl:=Vm c n
  simp only[Z6]
  rw[ih,h (n:Int) ydc ydc,h ((Z6 c n:Nat):Int) ydc ydc]
theorem has_iff {m:Ml}(g:Good m)(h:∃w,ZC m Zj w){lot dry:Int}(l0:0≤lot)(l1:lot<m.lots.length):(∃w,ZC m Zj w∧w lot=dry)↔(Dm m lot).1≤dry∧dry≤(Dm m lot).2:=by
 have e:=Dm_exact g h
 constructor
 ·rintro⟨w,f,rfl⟩;exact e.sound w f lot l0 l1
 ·rintro⟨h1,h2⟩;exact e.full lot dry l0 l1 h1 h2
theorem Dm_bd {m:Ml}(g:Good m)(h:∃w,ZC m Zj w){i:Int}(i0:0≤i)(i1:i<m.lots.length):0≤(Dm m i).1∧(Dm m i).1≤(Dm m i).2∧(Dm m i).2≤10000:=by
 have e:=Dm_exact g h
 have hn:=e.ne i i0 i1
 obtain⟨w1,f1,e1⟩:=e.full i _ i0 i1 (Int.le_refl _) hn
 obtain⟨w2,f2,e2⟩:=e.full i _ i0 i1 hn (Int.le_refl _)
 have h1:=f1.1 i i0 i1
 have h2:=f2.1 i i0 i1
 have:=ownB_bd g Zj i
 omega
theorem toNat_lt {a:Int}{k n:Nat}(h0:0≤a)(h1:a≤(n:Int)-1)(hk:k=n):a.toNat<k:=by omega
set_option maxHeartbeats 4000000 in
theorem SilkBounds_sub {h:H}{v K:V}{m:Ml}{ws:List Int}(hw:h.wf)(hm:ZF h v m)(hk:Zk h K 1 (ws.map encI))(lot dry:Int):Ev fnG Zm (.fn 11 [] []) [v,K,.ii lot,.ii dry] h fun u h'=>u=.bool true∧h.Sub h':=by
 refine Ev.gen fun Q q=>?_
 have hm0:=hm
 obtain⟨L,W,rfl,aL,aW⟩:=hm
 refine Zf (fd:=c11) rfl rfl rfl ?_
 have s1:h.Sub (h.add (.bk [.ii m.errs,L,W])):=ydb
 simp(disch:=omega)only[c11,go_sem]
 refine VK s1.wf (hm0.mono s1) _ fun h2 s12=>?_
 have s2:=s1.trans s12
 have l2:=s12.next
 simp only[H.next_add] at l2
 have g2:h2.cells h.next=some [.ii m.errs,L,W]:=s12.cells (by simp(disch:=omega)only[go_sem])
 have hlk:=hk.lenE
 cases hgr:Xo m
 case true=>
  simp(disch:=omega)only[go_sem,Z4]
  exact q _ _ ⟨rfl,by first|assumption|exact H.Sub.refl hw|exact ydb⟩
 by_cases hk24:24<(ws.length:Int)
 case pos=>
  simp(disch:=omega)only[go_sem,hlk,hk24,Z4]
  exact q _ _ ⟨rfl,by first|assumption|exact H.Sub.refl hw|exact ydb⟩
 have hle:m.lots.length≤1000∧m.wgs.length≤1000:=by
  simp only[Xo,decide_eq_false_iff_not] at hgr
  omega
 simp(disch:=omega)only[go_sem,hlk,hk24,g2]
 refine Ut s2.wf (hm0.mono s2) hle _ fun A B h3 s23 oOwn hA hB=>?_
 have s3:=s2.trans s23
 have g3:=s23.cells g2
 have l3:=s23.next
 simp(disch:=omega)only[go_sem,g3]
 refine W3 s3.wf (hm0.mono s3) hle _ fun x h4 s34 hx=>?_
 have s4:=s3.trans s34
 have g4:=s34.cells g3
 have l4:=s34.next
 obtain⟨X,Y,rfl,aX,aY⟩:=id hx
 have oX1:=aX.one
 have oY1:=aY.one
 simp -implicitDefEqProofs(disch:=first|omega|simp only[nZ]<;>omega|fail)only[go_sem,dupInt_ev s4.wf (hk.mono s4) ydc,oX1,oY1,hA,hB,cells_one oX1,cells_one oY1,cells_one hA,cells_one hB,g2,g3,g4,hlk]
 have s45:h4.Sub (((((h4.add (.bk (ws.map encI).flatten)).add (.bk [.ii 0,.nils,.nils])).add (.bk [.ii 0,.nils,.nils])).set (h4.next+1) (.bk [.ii m.errs,A,B])).set (h4.next+1+1) (.bk [.ii m.errs,X,Y])):=by
  have w4:=s4.wf
  exact ydb
 have gM:(((((h4.add (.bk (ws.map encI).flatten)).add (.bk [.ii 0,.nils,.nils])).add (.bk [.ii 0,.nils,.nils])).set (h4.next+1) (.bk [.ii m.errs,A,B])).set (h4.next+1+1) (.bk [.ii m.errs,X,Y])).cells h4.next=some (ws.map encI).flatten:=by simp -implicitDefEqProofs(maxSteps:=999999)(disch:=first|with_reducible rfl|omega|(simp only[nA,nS,nD]<;>omega)|fail)only[go_sem]
 have c9:(((((h4.add (.bk (ws.map encI).flatten)).add (.bk [.ii 0,.nils,.nils])).add (.bk [.ii 0,.nils,.nils])).set (h4.next+1) (.bk [.ii m.errs,A,B])).set (h4.next+1+1) (.bk [.ii m.errs,X,Y])).cells (h4.next+1)=some [.ii m.errs,A,B]:=by simp -implicitDefEqProofs(maxSteps:=999999)(disch:=first|with_reducible rfl|omega|(simp only[nA,nS,nD]<;>omega)|fail)only[go_sem]
 have c10:(((((h4.add (.bk (ws.map encI).flatten)).add (.bk [.ii 0,.nils,.nils])).add (.bk [.ii 0,.nils,.nils])).set (h4.next+1) (.bk [.ii m.errs,A,B])).set (h4.next+1+1) (.bk [.ii m.errs,X,Y])).cells (h4.next+1+1)=some [.ii m.errs,X,Y]:=by simp -implicitDefEqProofs(maxSteps:=999999)(disch:=first|with_reducible rfl|omega|(simp only[nA,nS,nD]<;>omega)|fail)only[go_sem]
 generalize(((((h4.add (.bk (ws.map encI).flatten)).add (.bk [.ii 0,.nils,.nils])).add (.bk [.ii 0,.nils,.nils])).set (h4.next+1) (.bk [.ii m.errs,A,B])).set (h4.next+1+1) (.bk [.ii m.errs,X,Y]))=h5 at s45 gM c9 c10⊢
 have s5:=s4.trans s45
 have l45:=s45.next
 have hown5:=(oOwn.mono (s34.trans s45)).is hle
 have hmine5:Zk h5 (.sl h4.next 0 ws.length (.fix ws.length)) 1 (ws.map encI):=by
  refine⟨hk.1,hk.2.1,.inr ⟨h4.next,0,.fix ws.length,_,by simp,.inr gM,?_⟩⟩
  have hfl:=Zp hk.1
  exact W6 hfl
 refine(Xn s5.wf (hx.mono s45)).mono fun u h6 hu=>?_
 obtain⟨rfl,s56⟩:=hu
 have s6:=s5.trans s56
 have l56:=s56.next
 have d9:=s56.cells c9
 have d10:=s56.cells c10
 have d1:=(s45.trans s56).cells g4
 simp(disch:=omega)only[go_sem]
 have s67:=(H.Sub.refl s6.wf).add (.bk [.ii 0,.ii 0])
 have f18:(h6.add (.bk [.ii 0,.ii 0])).get h6.next=some (.bk [.ii 0,.ii 0]):=Zo rfl
 have l67:(h6.add (.bk [.ii 0,.ii 0])).next=h6.next+1:=H.next_add _ _
 generalize h6.add (.bk [.ii 0,.ii 0])=h7 at s67 f18 l67⊢
 have s7:=s6.trans s67
 have w7:=s7.wf
 have hx7:=hx.mono (s45.trans (s56.trans s67))
 have hm7:=hm0.mono s7
 obtain⟨I,hI⟩:∃I:St→Prop,∀s,I s↔∃tm h8 isB uE vE wd Bv rows flo fhi,s=⟨tm,h8,[]⟩∧h6.Sub h8∧tm.E 1=K∧tm.E 2=.ii lot∧tm.E 3=.ii dry∧tm.E 4=.ptr h.next 0∧tm.E 9=.ptr (h4.next+1) 0∧tm.E 10=.ptr (h4.next+1+1) 0∧tm.E 11=.sl h4.next 0 ws.length (.fix ws.length)∧tm.E 12=.ii (check m)∧
   tm.E 13=.ii uE∧tm.E 14=.ii vE∧tm.E 15=.bool isB∧tm.E 16=.ii wd∧tm.E 17=Bv∧tm.E 18=.ptr h6.next 0∧h8.cells h6.next=some [.ii flo,.ii fhi]∧Zk h8 Bv 2 (rows.map (List.map iv))∧
   ((check m≠0∧uE=check m∧vE=check m∧isB=false∧wd=0∧rows=[]∧flo=0∧fhi=0)∨
    (check m=0∧(isB=true↔FitsP m ws)∧(((¬∃w,ZC m Zj w)∧uE=7∧wd=0∧rows=[]∧flo=0∧fhi=0)∨((∃w,ZC m Zj w)∧uE=0∧wd=(Z6 (Dm m) m.lots.length:Nat)∧rows=Yh (Dm m) m.lots.length∧flo=(Dm m (Z6 (Dm m) m.lots.length:Nat)).1∧fhi=(Dm m (Z6 (Dm m) m.lots.length:Nat)).2))∧
     ((¬(0≤lot∧lot≤(m.lots.length:Int)-1)∧vE=1)∨((0≤lot∧lot≤(m.lots.length:Int)-1)∧(¬∃w,ZC m Zj w∧w lot=dry)∧vE=6)∨((0≤lot∧lot≤(m.lots.length:Int)-1)∧(∃w,ZC m Zj w∧w lot=dry)∧vE=0)))):=⟨_,fun s=>Iff.rfl⟩
 have nil7:Zk h7 .nils 2 (([]:List (List Int)).map (List.map iv)):=(Zr.nil (H.Sub.refl w7) 2).sl (by simp)
 refine Us (p:=check m=0) I ?_ ?_ ?_
 ·intro c
  have g:=ZJ c
  have gl:=g.lots
  have gw:=g.wgs
  have e10:=s67.cells d10
  rw[Up,Up,W_seq]
  obtain⟨J,hJ⟩:∃J:St→Prop,∀s,J s↔∃tm h8 isB uE wd Bv rows flo fhi,(isB=true↔FitsP m ws)∧s=⟨tm,h8,[]⟩∧h6.Sub h8∧tm.E 1=K∧tm.E 2=.ii lot∧tm.E 3=.ii dry∧tm.E 4=.ptr h.next 0∧tm.E 9=.ptr (h4.next+1) 0∧tm.E 10=.ptr (h4.next+1+1) 0∧tm.E 11=.sl h4.next 0 ws.length (.fix ws.length)∧tm.E 12=.ii (check m)∧
    tm.E 13=.ii uE∧tm.E 14=.ii 0∧tm.E 15=.bool isB∧tm.E 16=.ii wd∧tm.E 17=Bv∧tm.E 18=.ptr h6.next 0∧h8.cells h6.next=some [.ii flo,.ii fhi]∧Zk h8 Bv 2 (rows.map (List.map iv))∧
    (((¬∃w,ZC m Zj w)∧uE=7∧wd=0∧rows=[]∧flo=0∧fhi=0)∨((∃w,ZC m Zj w)∧uE=0∧wd=(Z6 (Dm m) m.lots.length:Nat)∧rows=Yh (Dm m) m.lots.length∧flo=(Dm m (Z6 (Dm m) m.lots.length:Nat)).1∧fhi=(Dm m (Z6 (Dm m) m.lots.length:Nat)).2)):=⟨_,fun s=>Iff.rfl⟩
  refine W_cut J ?_ ?_
  ·simp(disch:=omega)only[go_sem,e10]
   refine(refFits_ev w7 hx7 g (hk.mono s7)).mono fun u h8 hu=>?_
   obtain⟨s78,isB,rfl,hisB⟩:=hu
   have s68:=s67.trans s78
   have l78:=s78.next
   have e10':=s78.cells e10
   have f18':=s78.get f18
   simp(disch:=omega)only[go_sem,e10']
   have s8:=s6.trans s68
   have hx8:=hx7.mono s78
   refine All_ev s8.wf hx8 ydc _ fun C h9 s89 aC=>?_
   have s9:=s8.trans s89
   have e9:=s89.cells e10'
   simp(disch:=omega)only[go_sem,e10',e9]
   refine(YV s9.wf (hx8.mono s89) g aC (by simp)).mono fun u hA2 hu=>?_
   obtain⟨s9A,t,rfl,ht⟩:=hu
   have ht':t=true↔∃w,ZC m Zj w:=by rw[ht];unfold ZC;rw[own_all]
   have sA:=s9.trans s9A
   have s8A:=s89.trans s9A
   have s7A:=s78.trans s8A
   have s6A:=s67.trans s7A
   have k1:=s6A.cells d1
   have k10:=s8A.cells e10'
   have k18:=s8A.get f18'
   have hlenL:=aL.lenE
   have lA:=s7A.next
   cases t
   ·have hno:¬∃w,ZC m Zj w:=fun hf=>by have:=ht'.2 hf;cases this
    simp(disch:=omega)only[go_sem,e10',e9]
    exact⟨rfl,(hJ _).2 ⟨_,_,isB,7,0,.nils,[],0,0,hisB,rfl,s6A,yda,yda,yda,yda,yda,yda,yda,yda,yda,by rw[←c];exact yda,yda,yda,yda,yda,Za k18,nil7.mono s7A,.inl ⟨hno,rfl,rfl,rfl,rfl,rfl⟩⟩⟩
   ·have hyes:=ht'.1 rfl
    simp(disch:=omega)only[go_sem,e10',e9,k1,hlenL]
    have hxA:=hx8.mono s8A
    refine Zi m.lots.length (fun i s=>∃tm h' Bv,s=⟨tm,h',[]⟩∧hA2.Sub h'∧Zr hA2 h' Bv 2 ((Yh (Dm m) i).map (List.map iv))∧tm.E 1=K∧tm.E 2=.ii lot∧tm.E 3=.ii dry∧tm.E 4=.ptr h.next 0∧tm.E 9=.ptr (h4.next+1) 0∧tm.E 10=.ptr (h4.next+1+1) 0∧tm.E 11=.sl h4.next 0 ws.length (.fix ws.length)∧tm.E 12=.ii (check m)∧
      tm.E 13=.ii 0∧tm.E 14=.ii 0∧tm.E 15=.bool isB∧tm.E 16=.ii ((Z6 (Dm m) i:Nat):Int)∧tm.E 17=Bv∧tm.E 18=.ptr h6.next 0∧tm.E 58=.ii (m.lots.length:Int)∧tm.E 59=.ii (i:Int))
     ?_ ?_ (i:=0) (Nat.zero_le _) ⟨_,_,.nils,rfl,H.Sub.refl sA.wf,Zr.nil (H.Sub.refl sA.wf) 2,yda,yda,yda,yda,yda,yda,yda,yda,yda,by rw[←c];exact yda,yda,yda,yda,yda,yda,yda⟩
    ·rintro i s hi ⟨tm,h',Bv,rfl,hs,oB,t1,t2,t3,t4,t9,t10,t11,t12,t13,t14,t15,t16,t17,t18,t58,t59⟩
     have hi':(i:Int)<(m.lots.length:Int):=by omega
     have hs':=sA.trans hs
     simp(disch:=omega)only[go_sem,t1,t2,t3,t4,t9,t10,t11,t12,t13,t14,t15,t16,t17,t18,t58,t59,hi',hs.cells k10]
     refine V6 g hyes (i+1) i ydc hi hs'.wf (hxA.mono hs) _ fun hB2 sB=>?_
     have sB':=hs'.trans sB
     have hll:((Yh (Dm m) i).map (List.map iv)).length≤12:=by simp only[List.length_map,Yk];omega
     have sC:=(H.Sub.refl sB'.wf).add (.bk [.ii (Dm m (i:Int)).1,.ii (Dm m (i:Int)).2])
     simp(disch:=omega)only[go_sem]
     refine((oB.mono sB).mono sC).app1 (r:=[iv (Dm m (i:Int)).1,iv (Dm m (i:Int)).2]) sA.wf rfl ydc (Zk.new _ rfl rfl rfl (by simp) (by simp)) rfl ydc ydc fun hV oV kV nV=>?_
     have hsucc:(Yh (Dm m) i).map (List.map iv)++[[iv (Dm m (i:Int)).1,iv (Dm m (i:Int)).2]]=(Yh (Dm m) (i+1)).map (List.map iv):=by rw[spansL_succ,List.map_append];rfl
     rw[hsucc] at oV
     simp only[H.next_add] at oV
     have aB:=oV.sl (by simp[Yk];omega)
     have hbl:Z6 (Dm m) i≤i:=by have:=Vm (Dm m) i;omega
     have hi1:i<(Yh (Dm m) (i+1)).length:=by rw[Yk];omega
     have hi2:Z6 (Dm m) i<(Yh (Dm m) (i+1)).length:=by rw[Yk];omega
     obtain⟨b1,o1,cc1,cs1,e1,hcs1,hq1,hgg1,hn1,hn01⟩:=aB.at hi1
     obtain⟨b2,o2,cc2,cs2,e2,hcs2,hq2,hgg2,hn2,hn02⟩:=aB.at hi2
     have lo1e:=hn01 ydc
     have hi1e:=hn1 1 ydc
     have lo2e:=hn02 ydc
     have hi2e:=hn2 1 ydc
     rw[V1] at lo1e hi1e
     rw[V1] at lo2e hi2e
     have d1':=Dm_bd g hyes (i:=(i:Int)) ydc hi'
     have d2':=Dm_bd g hyes (i:=((Z6 (Dm m) i:Nat):Int)) ydc ydc
     by_cases hlt:(Dm m (Z6 (Dm m) i:Nat)).2-(Dm m (Z6 (Dm m) i:Nat)).1<(Dm m (i:Int)).2-(Dm m (i:Int)).1
     ·simp(disch:=omega)only[go_sem,t1,t2,t3,t4,t9,t10,t11,t12,t13,t14,t15,t16,t17,t18,t58,t59,hq1 (Zb i),hq2 (Zb (Z6 (Dm m) i)),hcs1,hcs2,lo1e,hi1e,lo2e,hi2e,List.map_cons,List.map_nil,iv,ZD,hlt,Ze]
      exact⟨_,_,_,rfl,oV.1,oV,ydd,yde,ydf,ydh,ydj,ydi,ydk,ydl,ydn,ydy,ydo,by simp only[Z6,if_pos hlt];exact yda,yda,ydp,(by simp[Zn,Zd,t58]<;>rfl),yda⟩
     ·simp(disch:=omega)only[go_sem,t1,t2,t3,t4,t9,t10,t11,t12,t13,t14,t15,t16,t17,t18,t58,t59,hq1 (Zb i),hq2 (Zb (Z6 (Dm m) i)),hcs1,hcs2,lo1e,hi1e,lo2e,hi2e,List.map_cons,List.map_nil,iv,ZD,hlt,Ze]
      exact⟨_,_,_,rfl,oV.1,oV,ydd,yde,ydf,ydh,ydj,ydi,ydk,ydl,ydn,ydy,ydo,by simp only[Z6,if_neg hlt];exact ydm,yda,ydp,(by simp[Zn,Zd,t58]<;>rfl),yda⟩
    ·rintro s ⟨tm,h',Bv,rfl,hs,oB,t1,t2,t3,t4,t9,t10,t11,t12,t13,t14,t15,t16,t17,t18,t58,t59⟩
     have aB:=oB.sl (by simp[Yk];omega)
     have hi2:Z6 (Dm m) m.lots.length<(Yh (Dm m) m.lots.length).length:=by rw[Yk];have:=Vm (Dm m) m.lots.length;omega
     obtain⟨b2,o2,cc2,cs2,rfl,hcs2,hq2,hgg2,hn2,hn02⟩:=aB.at hi2
     rw[V1] at hgg2
     have k18':=hs.get k18
     have hnx:=hs.next
     simp(disch:=omega)only[go_sem,t1,t2,t3,t4,t9,t10,t11,t12,t13,t14,t15,t16,t17,t18,t58,t59,Int.lt_irrefl,hq2 (Zb (Z6 (Dm m) m.lots.length)),hcs2,hgg2,List.map_cons,List.map_nil,iv,k18']
     have w6:=s6.wf
     refine⟨rfl,(hJ _).2 ⟨_,_,isB,0,_,_,Yh (Dm m) m.lots.length,_,_,hisB,rfl,(s6A.trans hs).set (Nat.le_refl _) ydc w6 _,ydd,yde,ydf,ydh,ydj,ydi,ydk,ydl,ydn,ydy,ydo,ydm,ydr,ydp,Yx rfl,?_,.inr ⟨hyes,rfl,rfl,rfl,rfl,rfl⟩⟩⟩
     exact YD aB (Zq.set h' h6.next _) fun y hy e=>by have:=(oB.blk hy).1;omega
  ·intro s hs
   obtain⟨tm,hB2,isB,uE,wd,Bv,rows,flo,fhi,hisB,rfl,s6B,t1,t2,t3,t4,t9,t10,t11,t12,t13,t14,t15,t16,t17,t18,k18,aB,spec⟩:=(hJ s).1 hs
   have k1:=s6B.cells d1
   have hlenL:=aL.lenE
   have fin:∀vE tm' hh,tm'.E 1=K→tm'.E 2=.ii lot→tm'.E 3=.ii dry→tm'.E 4=.ptr h.next 0→tm'.E 9=.ptr (h4.next+1) 0→tm'.E 10=.ptr (h4.next+1+1) 0→tm'.E 11=.sl h4.next 0 ws.length (.fix ws.length)→tm'.E 12=.ii (check m)→
     tm'.E 13=.ii uE→tm'.E 14=.ii vE→tm'.E 15=.bool isB→tm'.E 16=.ii wd→tm'.E 17=Bv→tm'.E 18=.ptr h6.next 0→hB2.Sub hh→
     ((¬(0≤lot∧lot≤(m.lots.length:Int)-1)∧vE=1)∨((0≤lot∧lot≤(m.lots.length:Int)-1)∧(¬∃w,ZC m Zj w∧w lot=dry)∧vE=6)∨((0≤lot∧lot≤(m.lots.length:Int)-1)∧(∃w,ZC m Zj w∧w lot=dry)∧vE=0))→I ⟨tm',hh,[]⟩:=
    fun vE tm' hh a1 a2 a3 a4 a9 a10 a11 a12 a13 a14 a15 a16 a17 a18 hsub hv=>(hI _).2 ⟨_,_,isB,uE,vE,wd,Bv,rows,flo,fhi,rfl,s6B.trans hsub,a1,a2,a3,a4,a9,a10,a11,a12,a13,a14,a15,a16,a17,a18,hsub.cells k18,aB.mono hsub,.inr ⟨c,hisB,spec,hv⟩⟩
   have rB:=H.Sub.refl s6B.wf
   by_cases a1:lot<0
   ·simp(disch:=omega)only[go_sem,t1,t2,t3,t4,t9,t10,t11,t12,t13,t14,t15,t16,t17,t18,a1]
    exact⟨rfl,fin 1 _ _ ydd yde ydf ydh ydj ydi ydk ydl ydn yda ydo ydm ydr ydp rB (.inl ⟨by omega,rfl⟩)⟩
   by_cases a2:(m.lots.length:Int)≤lot
   ·simp(disch:=omega)only[go_sem,t1,t2,t3,t4,t9,t10,t11,t12,t13,t14,t15,t16,t17,t18,a1,k1,hlenL,a2]
    exact⟨rfl,fin 1 _ _ ydd yde ydf ydh ydj ydi ydk ydl ydn yda ydo ydm ydr ydp rB (.inl ⟨by omega,rfl⟩)⟩
   have hlr:0≤lot∧lot≤(m.lots.length:Int)-1:=by omega
   obtain⟨n,rfl⟩:=Int.eq_ofNat_of_zero_le hlr.1
   rcases spec with⟨hno,rfl,rfl,rfl,rfl,rfl⟩|⟨hyes,rfl,rfl,rfl,rfl,rfl⟩
   ·simp(disch:=omega)only[go_sem,t1,t2,t3,t4,t9,t10,t11,t12,t13,t14,t15,t16,t17,t18,a1,k1,hlenL,a2,ne_eq,Int.reduceEq,not_false_eq_true]
    exact⟨rfl,fin 6 _ _ ydd yde ydf ydh ydj ydi ydk ydl ydn yda ydo ydm ydr ydp rB (.inr (.inl ⟨hlr,fun⟨w,f,_⟩=>hno ⟨w,f⟩,rfl⟩))⟩
   have hn:n<(Yh (Dm m) m.lots.length).length:=by rw[Yk];omega
   obtain⟨b2,o2,cc2,cs2,rfl,hcs2,hq2,hgg2,hn2,hn02⟩:=aB.at hn
   have lo2e:=hn02 ydc
   have hi2e:=hn2 1 ydc
   rw[V1] at lo2e hi2e
   have hh:=has_iff g hyes (dry:=dry) hlr.1 ydc
   by_cases b1:dry<(Dm m (n:Int)).1
   ·simp(disch:=omega)only[go_sem,t1,t2,t3,t4,t9,t10,t11,t12,t13,t14,t15,t16,t17,t18,a1,k1,hlenL,a2,ne_eq,not_true_eq_false,hq2 (Zb n),hcs2,lo2e,hi2e,List.map_cons,List.map_nil,iv,b1]
    exact⟨rfl,fin 6 _ _ ydd yde ydf ydh ydj ydi ydk ydl ydn yda ydo ydm ydr ydp rB (.inr (.inl ⟨hlr,fun hf=>by have:=hh.1 hf;omega,rfl⟩))⟩
   by_cases b2':(Dm m (n:Int)).2<dry
   ·simp(disch:=omega)only[go_sem,t1,t2,t3,t4,t9,t10,t11,t12,t13,t14,t15,t16,t17,t18,a1,k1,hlenL,a2,ne_eq,not_true_eq_false,hq2 (Zb n),hcs2,lo2e,hi2e,List.map_cons,List.map_nil,iv,b1,b2']
    exact⟨rfl,fin 6 _ _ ydd yde ydf ydh ydj ydi ydk ydl ydn yda ydo ydm ydr ydp rB (.inr (.inl ⟨hlr,fun hf=>by have:=hh.1 hf;omega,rfl⟩))⟩
   ·simp(disch:=omega)only[go_sem,t1,t2,t3,t4,t9,t10,t11,t12,t13,t14,t15,t16,t17,t18,a1,k1,hlenL,a2,ne_eq,not_true_eq_false,hq2 (Zb n),hcs2,lo2e,hi2e,List.map_cons,List.map_nil,iv,b1,b2']
    exact⟨rfl,fin 0 _ _ ydd yde ydf ydh ydj ydi ydk ydl ydn ydy ydo ydm ydr ydp rB (.inr (.inr ⟨hlr,hh.2 ydc,rfl⟩))⟩
 ·intro c
  simp(disch:=omega)only[go_sem]
  exact⟨rfl,(hI _).2 ⟨_,_,false,check m,check m,0,.nils,[],0,0,rfl,s67,yda,yda,yda,yda,yda,yda,yda,yda,yda,yda,yda,yda,yda,yda,Za f18,nil7,.inl ⟨c,rfl,rfl,rfl,rfl,rfl,rfl,rfl⟩⟩⟩
 ·intro s hs
  obtain⟨tm,h8,isB,uE,vE,wd,Bv,rows,flo,fhi,rfl,s68,t1,t2,t3,t4,t9,t10,t11,t12,t13,t14,t15,t16,t17,t18,k18,aBv,spec⟩:=(hI s).1 hs
  have s8:=s6.trans s68
  have n9:=s68.cells d9
  have hown8:=hown5.mono (s56.trans s68)
  have hmine8:=hmine5.mono (s56.trans s68)
  simp(disch:=omega)only[go_sem,t1,t2,t3,t4,t9,t10,t11,t12,t13,t14,t15,t16,t17,t18,n9]
  refine(Fits_ev s8.wf hown8 hmine8).mono fun u hA hu=>?_
  obtain⟨s8A,tF,eF,rfl,specF⟩:=hu
  simp(disch:=omega)only[go_sem,t1,t2,t3,t4,t9,t10,t11,t12,t13,t14,t15,t16,t17,t18,s8A.cells n9]
  refine(Bounds_ev (s8.trans s8A).wf (hown8.mono s8A)).mono fun u hB hu=>?_
  obtain⟨sAB,xB,lB,eB,rfl,aB,specB⟩:=hu
  have s8B:=s8A.trans sAB
  simp(disch:=omega)only[go_sem,t1,t2,t3,t4,t9,t10,t11,t12,t13,t14,t15,t16,t17,t18,s8B.cells n9]
  refine(Weights_ev (s8.trans s8B).wf (hown8.mono s8B) lot dry).mono fun u hC hu=>?_
  obtain⟨sBC,xK,kl,eK,rfl,aK,specK⟩:=hu
  have s8C:=s8B.trans sBC
  simp(disch:=omega)only[go_sem,t1,t2,t3,t4,t9,t10,t11,t12,t13,t14,t15,t16,t17,t18,s8C.cells n9]
  refine(Widest_ev (s8.trans s8C).wf (hown8.mono s8C)).mono fun u hD hu=>?_
  obtain⟨sCD,nX,loX,hiX,eX,rfl,specX⟩:=hu
  have s8D:=s8C.trans sCD
  have sDE:=(H.Sub.refl (s8.trans s8D).wf).add (.bk [.ii loX,.ii hiX])
  have s8E:=s8D.trans sDE
  have sE:=s8.trans s8E
  have eqF:eF=check m∧tF=isB:=by
   rcases specF with⟨a,b,c⟩|⟨a,b,c⟩<;>rcases spec with⟨a',_,_,e',_⟩|⟨a',e',_,_⟩
   ·exact⟨b,by rw[c,e']⟩
   ·exact absurd a' a
   ·exact absurd a a'
   ·exact⟨by omega,by rw[Bool.eq_iff_iff,c,e']⟩
  have hDb:check m=0→∀b,Xs m Zj b→(∀i:Int,0≤i→i<m.lots.length→Dm m i=b i):=fun c b hb i i0 i1=>Dm_eq (ZJ c) hb i0 i1
  have eqB:eB=uE∧lB=rows:=by
   rcases specB with⟨a,b,c⟩|⟨a,b,c,d⟩|⟨a,b,hb,c,d⟩<;>rcases spec with⟨a',b',_,_,_,f',_⟩|⟨a',_,(⟨no,b',_,f',_⟩|⟨yes,b',_,f',_⟩),_⟩
   ·exact⟨by omega,by rw[c,f']⟩
   ·exact absurd a' a
   ·exact absurd a' a
   ·exact absurd a a'
   ·exact⟨by omega,by rw[d,f']⟩
   ·exact absurd yes b
   ·exact absurd a a'
   ·exact absurd (hb.feas (ZJ a)) no
   ·exact⟨by omega,by rw[d,f',spansL_congr (hDb a b hb)]⟩
  have eqX:eX=uE∧nX=wd∧loX=flo∧hiX=fhi:=by
   rcases specX with⟨a,b,c,d,e⟩|⟨a,b,c,d,e,f⟩|⟨a,b,hb,c,d,e,f⟩<;>rcases spec with⟨a',b',_,_,w',_,l',h'⟩|⟨a',_,(⟨no,b',w',_,l',h'⟩|⟨yes,b',w',_,l',h'⟩),_⟩
   ·exact⟨by omega,by omega,by omega,by omega⟩
   ·exact absurd a' a
   ·exact absurd a' a
   ·exact absurd a a'
   ·exact⟨by omega,by omega,by omega,by omega⟩
   ·exact absurd yes b
   ·exact absurd a a'
   ·exact absurd (hb.feas (ZJ a)) no
   ·have hd:=hDb a b hb
    have gl:=(ZJ a).lots
    have hbw:=bestW_congr hd
    have hl:=Vm b m.lots.length
    have hd2:=hd ((Z6 b m.lots.length:Nat):Int) ydc ydc
    rw[hbw,hd2] at l' h'
    rw[hbw] at w'
    exact⟨by omega,by omega,by omega,by omega⟩
  have eqK:eK=vE∧((vE≠0∧kl=[])∨(vE=0∧check m=0∧(0≤lot∧lot≤(m.lots.length:Int)-1)∧kl.length=m.lots.length∧ZC m Zj (YM kl)∧YM kl lot=dry)):=by
   rcases specK with⟨a,b,c⟩|⟨a,b,c,d⟩|⟨a,b,c,d,e⟩|⟨a,b,c,d,e,f⟩<;>rcases spec with⟨a',_,b',_⟩|⟨a',_,_,(⟨x',y'⟩|⟨x',z',y'⟩|⟨x',z',y'⟩)⟩
   ·exact⟨by omega,.inl ⟨by omega,c⟩⟩
   ·exact absurd a' a
   ·exact absurd a' a
   ·exact absurd a' a
   ·exact absurd a a'
   ·exact⟨by omega,.inl ⟨by omega,d⟩⟩
   ·exact absurd x' b
   ·exact absurd x' b
   ·exact absurd a a'
   ·exact absurd b x'
   ·exact⟨by omega,.inl ⟨by omega,e⟩⟩
   ·exact absurd z' c
   ·exact absurd a a'
   ·exact absurd b x'
   ·exact absurd ⟨_,e,f⟩ z'
   ·exact⟨by omega,.inr ⟨y',a,b,d,e,f⟩⟩
  obtain⟨rfl,rfl⟩:=eqF
  obtain⟨rfl,rfl⟩:=eqB
  obtain⟨rfl,rfl,rfl,rfl⟩:=eqX
  obtain⟨rfl,hK⟩:=eqK
  clear spec specF specB specK specX hDb hI
  have i1:=eqSpan_ev (aB.mono ((sBC.trans sCD).trans sDE)) (aBv.mono s8E)
  have hlenK:=aK.lenE
  have gN9:=s8E.cells n9
  have gN4:=(s68.trans s8E).cells d1
  have gN10:=(s68.trans s8E).cells d10
  have i2:=XF (hmine8.mono s8E) (hk.mono sE)
  have k18E:=s8E.cells k18
  have gX:(hD.add (.bk [.ii nX,.ii nX])).next=hD.next+1:=H.next_add _ _
  simp(disch:=omega)only[go_sem,t1,t2,t3,t4,t9,t10,t11,t12,t13,t14,t15,t16,t17,t18,ne_eq,not_true_eq_false,beq_self_eq_true,i1,q_feq_2,ngB,and_self,k18E]
  rcases hK with⟨hv,rfl⟩|⟨hv,c,hlr,hkl,hf,hd⟩
  ·have hl0:(([]:List Int).length:Int)=0:=rfl
   simp(disch:=omega)only[go_sem,t1,t2,t3,t4,t9,t10,t11,t12,t13,t14,t15,t16,t17,t18,hv,not_false_eq_true,hlenK,hl0,gN9,gN4]
   refine WW sE.wf (hown8.mono s8E) (hm0.mono sE) _ fun hF sEF=>?_
   have i3:=XF (hmine8.mono (s8E.trans sEF)) (hk.mono (sE.trans sEF))
   simp(disch:=omega)only[go_sem,t1,t2,t3,t4,t9,t10,t11,t12,t13,t14,t15,t16,t17,t18,decide_eq_true rfl,i3,Z4]
   exact q _ _ ⟨rfl,sE.trans sEF⟩
  ·have g:=ZJ c
   have hn:lot.toNat<kl.length:=toNat_lt hlr.1 hlr.2 hkl
   have hfits:FitsP m kl:=⟨hkl,hf⟩
   have hnl:((lot.toNat:Nat):Int)=lot:=Int.toNat_of_nonneg hlr.1
   have hkn:kl[lot.toNat]=dry:=by rw[←XJ hn,hnl];exact hd
   have z01:0<1:=Nat.zero_lt_one
   have hno:=nat_of hlr.1
   have aKE:=aK.mono (sCD.trans sDE)
   clear hf hd c hkl hlr
   refine PBd_dec (fun h=>absurd hv h) fun _=>?_
   simp(disch:=omega)only[go_sem,t1,t2,t3,t4,t9,t10,t11,t12,t13,t14,t15,t16,t17,t18,gN10]
   refine(refFits_ev sE.wf (hx.mono (s45.trans (s56.trans (s68.trans s8E)))) g aKE).mono fun u hF hu=>?_
   obtain⟨sEF,t,rfl,ht⟩:=hu
   have ht':t=true:=ht.2 hfits
   subst ht'
   obtain⟨b2,o2,cc2,cs2,rfl,hcs2,hq2,hgg2,hn2,hn02⟩:=(aKE.mono sEF).at hn
   simp(disch:=omega)only[go_sem,t1,t2,t3,t4,t9,t10,t11,t12,t13,t14,t15,t16,t17,t18,hq2 hno,hcs2,hn02 z01,encI,hkn,decide_eq_true rfl,sEF.cells gN9,sEF.cells gN4]
   refine WW (sE.trans sEF).wf (hown8.mono (s8E.trans sEF)) (hm0.mono (sE.trans sEF)) _ fun hG sFG=>?_
   have i3:=XF (hmine8.mono (s8E.trans (sEF.trans sFG))) (hk.mono (sE.trans (sEF.trans sFG)))
   simp(disch:=omega)only[go_sem,t1,t2,t3,t4,t9,t10,t11,t12,t13,t14,t15,t16,t17,t18,decide_eq_true rfl,i3,Z4]
   exact q _ _ ⟨rfl,(sE.trans sEF).trans sFG⟩
end Go.Ab.Tryz
