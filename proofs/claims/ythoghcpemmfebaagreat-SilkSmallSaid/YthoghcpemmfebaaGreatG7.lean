import Derived.Test.YthoghcpemmfebaaGreatGP
import Derived.Test.YthoghcpemmfebaaGreatG5
import Derived.Test.YthoghcpemmfebaaGreatG6
import Derived.Test.YthoghcpemmfebaaGreatAc8
set_option linter.unusedSimpArgs false
set_option linter.unusedVariables false
theorem yfa {p:Prop}(h:p:=by repeat(first|assumption|exact H.Sub.refl (by assumption)|refine H.Sub.add ?_ _|refine H.Sub.set ?_ (by first|omega|(simp only[H.next_add,H.next_set,H.next_del]<;>omega)) (by first|omega|(simp only[H.next_add,H.next_set,H.next_del]<;>omega)) (by assumption) _)):p:=h
theorem yfb {p:Prop}(h:p:=by simp[Zn,Zd]<;>rfl):p:=h
theorem yfc {p:Prop}(h:p:=by omega):p:=h
theorem yfd {p:Prop}(h:p:=by simp[Zn,Zd,t1]<;>rfl):p:=h
theorem yfe {p:Prop}(h:p:=by simp only[List.length_map];omega):p:=h
theorem yff {p:Prop}(h:p:=by simp[Zn,Zd,t2]<;>rfl):p:=h
theorem yfg {p:Prop}(h:p:=by simp[Zn,Zd,t3]<;>rfl):p:=h
theorem yfh {p:Prop}(h:p:=by simp[Zn,Zd,t4]<;>rfl):p:=h
theorem yfi {p:Prop}(h:p:=by simp[Zn,Zd,t7]<;>rfl):p:=h
theorem yfj {p:Prop}(h:p:=by simp[Zn,Zd,t6]<;>rfl):p:=h
theorem yfk {p:Prop}(h:p:=by simp[Zn,Zd,t0]<;>rfl):p:=h
theorem yfl {p:Prop}(h:p:=by simp[Zn,Zd,t8]<;>rfl):p:=h
theorem yfm {p:Prop}(h:p:=by simp[Zn,Zd,t5]<;>rfl):p:=h
theorem yfn {p:Prop}(h:p:=by simp[Zn,Zd,t10]<;>rfl):p:=h
theorem yfo {p:Prop}(h:p:=by simp -implicitDefEqProofs(maxSteps:=999999)(disch:=first|with_reducible rfl|omega|(simp only[nA,nS,nD]<;>omega)|fail)only[go_sem]):p:=h
theorem yfp {p:Prop}(h:p:=by simp[Zn,Zd,t9]<;>rfl):p:=h
theorem yfq {p:Prop}(h:p:=by intro e;rw[List.map_eq_nil_iff] at e;rw[e] at hj;simp at hj):p:=h
theorem yfr {p:Prop}(h:p:=by simp[Zn,Zd,t36]<;>rfl):p:=h
theorem yfs {p:Prop}(h:p:=by simp[Zn,Zd,t37]<;>rfl):p:=h
theorem yft {p:Prop}(h:p:=by simp[Zn,Zd,t11]<;>rfl):p:=h
theorem yfu {p:Prop}(h:p:=by simp[Zn,Zd,t13]<;>rfl):p:=h
theorem yfv {p:Prop}(h:p:=by rw[List.length_take];omega):p:=h
theorem yfw {p:Prop}(h:p:=by intro e;rw[List.map_eq_nil_iff] at e;rw[e] at hi;simp at hi):p:=h
theorem yfx {p:Prop}(h:p:=by simp[Zn,Zd,t30]<;>rfl):p:=h
theorem yfy {p:Prop}(h:p:=by simp[Zn,Zd,t31]<;>rfl):p:=h
theorem yfz {p:Prop}(h:p:=by simp):p:=h
theorem yfA {p:Prop}(h:p:=by simp[Zn,Zd,t17]<;>rfl):p:=h
theorem yfB {p:Prop}(h:p:=by simp[Zn,Zd,t20]<;>rfl):p:=h
theorem yfC {p:Prop}(h:p:=by cases h):p:=h
theorem yfD {p:Prop}(h:p:=by simp[Zn,Zd,t12]<;>rfl):p:=h
namespace Go.Ab.Tryz
open Go.Ab.Silk
theorem where1_pure {h:H}{kind:Int}{b:Nat}(hb:h.cells b=some [.ii kind])(a:Int):Yy h (.fn 124 [] [.ptr b 0]) [.ii a] (.bool (pK kind a)):=fun h1 hs=>by
 have hb1:=hs.cells hb
 refine Zf (fd:=c124) rfl rfl rfl ?_
 simp(disch:=omega)only[c124,go_sem,hb1]
 exact⟨rfl,H.Sub.refl hs.wf⟩
theorem where2_pure {h:H}{kind:Int}{b:Nat}(hb:h.cells b=some [.ii kind])(a:Int):Yy h (.fn 125 [] [.ptr b 0]) [.ii a] (.bool (nK kind a)):=fun h1 hs=>by
 have hb1:=hs.cells hb
 refine Zf (fd:=c125) rfl rfl rfl ?_
 simp(disch:=omega)only[c125,go_sem,hb1]
 exact⟨rfl,H.Sub.refl hs.wf⟩
def whLo (m:Ml)(kind:Int)(ps:List Int):Int:=Zg (lo1 (sK m kind)) ps
def whHi (m:Ml)(kind:Int)(ps:List Int):Int:=Zg (hi1 (sN m kind)) ps
def WhereR (m:Ml)(kind lo hi e:Int):Prop:=(check m≠0∧e=check m∧lo=0∧hi=0)∨(check m=0∧((ZA kind=false∧e=3∧lo=0∧hi=0)∨(ZA kind=true∧
 (((¬∃w,ZC m Zj w)∧e=7∧lo=0∧hi=0)∨((∃w,ZC m Zj w)∧e=0∧lo=whLo m kind (parts m (-1))∧hi=whHi m kind (parts m (-1)))))))
theorem roots {m:Ml}(g:Good m):∀p∈parts m (-1),0≤p∧p<m.lots.length∧ZS m p<0:=fun p hp=>by
 obtain⟨p0,p1,pf⟩:=((Zv g).mem (-1) p).1 hp
 exact⟨p0,p1,by omega⟩
theorem sK_bd {m:Ml}(g:Good m)(hag:∃w,ZC m Zj w)(kind:Int){p:Int}(p0:0≤p)(p1:p<m.lots.length):(0≤(sK m kind p).1∧(sK m kind p).1≤10000)∧(0≤(sN m kind p).2∧(sN m kind p).2≤10000):=by
 obtain⟨a1,a2,a3,a4,a5⟩:=sK_quad (kind:=kind) g hag p0 p1
 obtain⟨b1,b2,b3,b4,b5⟩:=sN_quad (kind:=kind) g hag p0 p1
 have:=Um_bd g Zj p0 p1
 unfold Ua at *
 omega
theorem wh_bd {m:Ml}(g:Good m)(hag:∃w,ZC m Zj w)(kind:Int)(j:Nat):(0≤whLo m kind ((parts m (-1)).take j)∧whLo m kind ((parts m (-1)).take j)≤120000)∧(0≤whHi m kind ((parts m (-1)).take j)∧whHi m kind ((parts m (-1)).take j)≤120000):=by
 have hl:(((parts m (-1)).take j).length:Int)≤12:=by have:=ZV m (-1);have:=g.lots;simp only[List.length_take];omega
 have hb:∀p∈(parts m (-1)).take j,(0≤(sK m kind p).1∧(sK m kind p).1≤10000)∧(0≤(sN m kind p).2∧(sN m kind p).2≤10000):=fun p hp=>by
  obtain⟨p0,p1,_⟩:=roots g p (List.mem_of_mem_take hp)
  exact sK_bd g hag kind p0 p1
 exact⟨sum10k (fun p hp=>(hb p hp).1) hl,sum10k (fun p hp=>(hb p hp).2) hl⟩
set_option maxHeartbeats 2000000 in
theorem Where_ev {h:H}{v:V}{m:Ml}(hw:h.wf)(hm:ZF h v m)(kind:Int):Ev fnG Zm (.fn 77 [] []) [v,.ii kind] h fun u h'=>h.Sub h'∧∃lo hi e,u=.tup [.agg [.ii lo,.ii hi],.ii e]∧WhereR m kind lo hi e:=by
 refine Ev.gen fun Q q=>?_
 have hm0:=hm
 obtain⟨L,W,rfl,aL,aW⟩:=hm
 refine Zf (fd:=c77) rfl rfl rfl ?_
 have s1:h.Sub (((h.add (.bk [.ii m.errs,L,W])).add (.bk [.ii kind])).add (.bk [.ii 0,.ii 0])):=yfa
 have g1:(((h.add (.bk [.ii m.errs,L,W])).add (.bk [.ii kind])).add (.bk [.ii 0,.ii 0])).cells h.next=some [.ii m.errs,L,W]:=by simp -implicitDefEqProofs(disch:=first|omega|simp only[nZ]<;>omega|fail)only[go_sem]
 have k1:(((h.add (.bk [.ii m.errs,L,W])).add (.bk [.ii kind])).add (.bk [.ii 0,.ii 0])).cells (h.next+1)=some [.ii kind]:=by simp -implicitDefEqProofs(disch:=first|omega|simp only[nZ]<;>omega|fail)only[go_sem]
 have r1:(((h.add (.bk [.ii m.errs,L,W])).add (.bk [.ii kind])).add (.bk [.ii 0,.ii 0])).get (h.next+1+1)=some (.bk [.ii 0,.ii 0]):=by simp -implicitDefEqProofs(disch:=first|omega|simp only[nZ]<;>omega|fail)only[go_sem]
 have l1:(((h.add (.bk [.ii m.errs,L,W])).add (.bk [.ii kind])).add (.bk [.ii 0,.ii 0])).next=h.next+3:=by simp only[H.next_add]
 simp -implicitDefEqProofs(disch:=first|omega|simp only[nZ]<;>omega|fail)only[c77,go_sem]
 generalize(((h.add (.bk [.ii m.errs,L,W])).add (.bk [.ii kind])).add (.bk [.ii 0,.ii 0]))=h1 at s1 g1 k1 r1 l1⊢
 refine(Vk s1.wf (hm0.mono s1)).mono fun u h2 hu=>?_
 obtain⟨rfl,s12⟩:=hu
 have s2:=s1.trans s12
 have l2:=s12.next
 have r2:=s12.get r1
 by_cases c:check m=0
 case neg=>
  simp(disch:=omega)only[go_sem,c,ne_eq,not_false_eq_true,r2,Za r2]
  exact q _ _ ⟨yfa,0,0,check m,rfl,.inl ⟨c,rfl,rfl,rfl⟩⟩
 have g:=ZJ c
 cases hal:ZA kind
 case false=>
  simp(disch:=omega)only[go_sem,c,ne_eq,not_true_eq_false,s12.cells k1,Ul,hal,r2,Za r2]
  exact q _ _ ⟨yfa,0,0,3,rfl,.inr ⟨c,.inl ⟨hal,rfl,rfl,rfl⟩⟩⟩
 simp(disch:=omega)only[go_sem,c,ne_eq,not_true_eq_false,s12.cells k1,s12.cells g1,Ul,hal]
 refine(told_ev s2.wf (hm0.mono s2)).mono fun u h3 hu=>?_
 obtain⟨s23,hu⟩:=hu
 have s3:=s2.trans s23
 have l3:=s23.next
 have r3:=s23.get r2
 have gz:(h3.add (.bk (Zt Zw))).get h3.next=some (.bk (Zt Zw)):=Zo rfl
 rcases hu with⟨c',_⟩|⟨_,hno,rfl⟩|⟨_,d,b,rfl,hd,hex,ht⟩
 ·exact absurd c c'
 ·have n70:¬(7:Int)=0:=by omega
  simp(disch:=omega)only[go_sem,Yf,Ve,Y8 Zw Zw gz,r3,Za r3,ne_eq,n70,not_false_eq_true]
  exact q _ _ ⟨yfa,0,0,7,rfl,.inr ⟨c,.inr ⟨hal,.inl ⟨hno,rfl,rfl,rfl⟩⟩⟩⟩
 ·have hag:=hex.feas g
  have hd0:=hd
  obtain⟨pm,l,L',W',d1,d2,dL,dW,dp⟩:=hd
  simp(disch:=omega)only[go_sem,Yf,Ve,Y8 b Zw gz,ne_eq,eq_self,not_true_eq_false]
  have s34:h3.Sub ((h3.add (.bk (Zt b))).add (.bk [.ii 0,.ii 0])):=by
   have w3:=s3.wf
   exact yfa
  have b4:((h3.add (.bk (Zt b))).add (.bk [.ii 0,.ii 0])).cells h3.next=some (Zt b):=by simp -implicitDefEqProofs(disch:=first|omega|simp only[nZ]<;>omega|fail)only[go_sem]
  have o4:((h3.add (.bk (Zt b))).add (.bk [.ii 0,.ii 0])).get (h3.next+1)=some (.bk [.ii 0,.ii 0]):=by simp -implicitDefEqProofs(disch:=first|omega|simp only[nZ]<;>omega|fail)only[go_sem]
  have l4:((h3.add (.bk (Zt b))).add (.bk [.ii 0,.ii 0])).next=h3.next+2:=by simp only[H.next_add,H.next_set]
  generalize((h3.add (.bk (Zt b))).add (.bk [.ii 0,.ii 0]))=h4 at s34 b4 o4 l4⊢
  obtain⟨X,eX⟩:∃X,found .nils false (lkA (-1) l)=X:=⟨_,rfl⟩
  have hdp:=(dp (-1)).mono s34
  rw[eX] at hdp
  have hlenP:=hdp.lenE
  have s4:=s3.trans s34
  have w4:=s4.wf
  have kc4:=(s12.trans (s23.trans s34)).cells k1
  obtain⟨ps,eps⟩:∃ps,parts m (-1)=ps:=⟨_,rfl⟩
  have hro:=roots g
  have hbd:=wh_bd g hag kind
  rw[eps] at hdp hlenP hro hbd
  have hpl:=ZV m (-1)
  rw[eps] at hpl
  have gl:=g.lots
  have cb:=conB g hex ht
  have hb10:∀i:Int,0≤i→i<m.lots.length→(b i).2≤10000:=fun i _ _=>(hex.bd g i).2.2.2
  simp(disch:=omega)only[go_sem,Za (s34.get d1),s34.get d2,eX,hlenP]
  refine Zi ps.length (fun j s=>∃tm h',s=⟨tm,h',[]⟩∧h3.Sub h'∧h3.next+1<h'.next∧h'.cells h3.next=some (Zt b)∧h'.get (h3.next+1)=some (.bk [.ii (whLo m kind (ps.take j)),.ii (whHi m kind (ps.take j))])∧
    tm.E 3=.ptr (h.next+1) 0∧tm.E 4=.ptr (h.next+1+1) 0∧tm.E 7=.ptr d 0∧tm.E 8=.ptr h3.next 0∧tm.E 10=.ptr (h3.next+1) 0∧tm.E 41=X∧tm.E 42=.ii (ps.length:Int)∧tm.E 43=.ii (j:Int))
   ?_ ?_ (i:=0) (Nat.zero_le _) ⟨_,_,rfl,s34,by omega,b4,o4,yfb,yfb,yfb,yfb,yfb,yfb,yfb,yfb⟩
  ·rintro j s hj ⟨tm,h',rfl,hs,lt,gb,go,t3,t4,t7,t8,t10,t41,t42,t43⟩
   have hj':(j:Int)<(ps.length:Int):=by omega
   have hdj:=(dp (-1)).mono hs
   rw[eX,eps] at hdj
   obtain⟨b2,o2,c2,cs2,eb,hcs2,hq2,hgg2,hn2,hn02⟩:=hdj.at hj
   subst eb
   obtain⟨p0,p1,p2⟩:=hro _ (List.getElem_mem hj)
   obtain⟨p,ep⟩:=Int.eq_ofNat_of_zero_le p0
   have e1:whLo m kind (ps.take (j+1))=whLo m kind (ps.take j)+(sK m kind (p:Int)).1:=by
    unfold whLo;rw[Yu _ hj,ep];rfl
   have e2:whHi m kind (ps.take (j+1))=whHi m kind (ps.take j)+(sN m kind (p:Int)).2:=by
    unfold whHi;rw[Yu _ hj,ep];rfl
   have bj:=hbd j
   have bj1:=hbd (j+1)
   rw[ep] at p0 p1 p2
   have sm1:=sh_same g hex ht (pK kind) p0 p1 p2
   have sm2:=sh_same g hex ht (nK kind) p0 p1 p2
   have kc:=((s12.trans (s23.trans hs))).cells k1
   simp(disch:=omega)only[go_sem,t3,t4,t7,t8,t10,t41,t42,t43,hj',hq2 (Zb j),hcs2,hn02 yfc,encI,ep,gb,ld_B]
   refine shares_ev g cb hb10 (p:=pK kind) (f:=.fn 124 [] [.ptr (h.next+1) 0]) (h0:=h') rfl (fun a=>where1_pure kc a) m.lots.length p yfc yfc (H.Sub.refl hs.wf) (hd0.mono hs) _ fun h5 s5=>?_
   simp(disch:=omega)only[go_sem,t3,t4,t7,t8,t10,t41,t42,t43,s5.cells gb,ld_B]
   refine shares_ev g cb hb10 (p:=nK kind) (f:=.fn 125 [] [.ptr (h.next+1) 0]) (h0:=h') rfl (fun a=>where2_pure kc a) m.lots.length p yfc yfc s5 (hd0.mono (hs.trans s5)) _ fun h6 s6=>?_
   have s56:=s5.trans s6
   have go6:=s56.get go
   have lt6:=s56.next
   have w6:=(hs.trans s56).wf
   have f1:(shM m b (pK kind) (p:Int)).1=(sK m kind (p:Int)).1:=by rw[sm1];rfl
   have f2:(shM m b (nK kind) (p:Int)).2=(sN m kind (p:Int)).2:=by rw[sm2];rfl
   simp(disch:=omega)only[go_sem,t3,t4,t7,t8,t10,t41,t42,t43,Za go6,f1,f2,ZD,Ze,go6]
   exact⟨_,_,rfl,(hs.trans s56).set yfc yfc s3.wf _,by simp only[H.next_set];omega,by rw[WR yfc];exact s56.cells gb,by rw[get_set_same rfl,e1,e2],yfg,yfh,yfi,yfl,yfn,(by simp[Zn,Zd,t41]<;>rfl),(by simp[Zn,Zd,t42]<;>rfl),yfb⟩
  ·rintro s ⟨tm,h',rfl,hs,lt,gb,go,t3,t4,t7,t8,t10,t41,t42,t43⟩
   rw[List.take_length] at go
   have r4:=hs.get r3
   simp(disch:=omega)only[go_sem,t3,t4,t7,t8,t10,t41,t42,t43,Int.lt_irrefl,Za go,r4]
   have h0h:=s3.trans hs
   exact q _ _ ⟨yfa,_,_,0,rfl,.inr ⟨c,.inr ⟨hal,.inr ⟨hag,rfl,by rw[eps],by rw[eps]⟩⟩⟩⟩
def rp (m:Ml)(i:Nat):List Int:=ZI (-1) (m.lots.take i) 0
theorem rp_step {m:Ml}{i:Nat}(h:i<m.lots.length):rp m (i+1)=rp m i++(if m.lots[i].frm= -1 then[(i:Int)] else[]):=by
 unfold rp
 rw[List.take_succ_eq_append_getElem h,Wu]
 simp only[ZI,List.length_take,Nat.zero_add,Nat.min_eq_left (Nat.le_of_lt h)]
theorem rp_all (m:Ml):rp m m.lots.length=parts m (-1):=by unfold rp parts;rw[List.take_length]
theorem rp_pre (m:Ml)(i:Nat):rp m i=(parts m (-1)).take (rp m i).length:=by
 have e:parts m (-1)=rp m i++ZI (-1) (m.lots.drop i) (0+(m.lots.take i).length):=by
  unfold rp parts
  rw[←Wu,List.take_append_drop]
 rw[e,List.take_left]
theorem whLo_snoc (m:Ml)(kind p:Int)(l:List Int):whLo m kind (l++[p])=whLo m kind l+(sK m kind p).1:=by
 unfold whLo;rw[XO];simp[Zg,lo1]
theorem whHi_snoc (m:Ml)(kind p:Int)(l:List Int):whHi m kind (l++[p])=whHi m kind l+(sN m kind p).2:=by
 unfold whHi;rw[XO];simp[Zg,hi1]
set_option maxRecDepth 4000 in
set_option maxHeartbeats 4000000 in
theorem refWhere_ev {h:H}{v:V}{m:Ml}(hw:h.wf)(hm:ZF h v m)(g:Good m)(hag:∃w,ZC m Zj w){kind:Int}{M:Nat}(hM:M≤1000)(hro:∀p:Int,0≤p→p<m.lots.length→ZS m p= -1→(Ua m p).2≤M)(Q:V→H→Prop)
  (q:∀h',h.Sub h'→Q (.agg [.ii (whLo m kind (parts m (-1))),.ii (whHi m kind (parts m (-1)))]) h'):Ev fnG Zm (.fn 91 [] []) [v,.ii kind,.ii (M:Int)] h Q:=by
 have hm0:=hm
 obtain⟨L,W,rfl,aL,aW⟩:=hm
 have gl:=g.lots
 have hlenL:=aL.lenE
 refine Zf (fd:=c91) rfl rfl rfl ?_
 have s1:h.Sub (((h.add (.bk [.ii m.errs,L,W])).add (.bk [.ii 0,.ii 0])).add (.bk [.ii 0,.ii 0])):=yfa
 have g1:(((h.add (.bk [.ii m.errs,L,W])).add (.bk [.ii 0,.ii 0])).add (.bk [.ii 0,.ii 0])).get h.next=some (.bk [.ii m.errs,L,W]):=by simp -implicitDefEqProofs(disch:=first|omega|simp only[nZ]<;>omega|fail)only[go_sem]
 have r1:(((h.add (.bk [.ii m.errs,L,W])).add (.bk [.ii 0,.ii 0])).add (.bk [.ii 0,.ii 0])).get (h.next+1)=some (.bk [.ii 0,.ii 0]):=by simp -implicitDefEqProofs(disch:=first|omega|simp only[nZ]<;>omega|fail)only[go_sem]
 have o1:(((h.add (.bk [.ii m.errs,L,W])).add (.bk [.ii 0,.ii 0])).add (.bk [.ii 0,.ii 0])).get (h.next+1+1)=some (.bk [.ii 0,.ii 0]):=by simp -implicitDefEqProofs(disch:=first|omega|simp only[nZ]<;>omega|fail)only[go_sem]
 have l1:(((h.add (.bk [.ii m.errs,L,W])).add (.bk [.ii 0,.ii 0])).add (.bk [.ii 0,.ii 0])).next=h.next+3:=by simp only[H.next_add]
 simp(disch:=omega)only[c91,go_sem]
 generalize(((h.add (.bk [.ii m.errs,L,W])).add (.bk [.ii 0,.ii 0])).add (.bk [.ii 0,.ii 0]))=h1 at s1 g1 r1 o1 l1⊢
 refine Zi m.lots.length (fun i s=>∃tm h',s=⟨tm,h',[]⟩∧h.Sub h'∧h.next+1+1<h'.next∧h'.get h.next=some (.bk [.ii m.errs,L,W])∧h'.get (h.next+1)=some (.bk [.ii 0,.ii 0])∧h'.get (h.next+1+1)=some (.bk [.ii (whLo m kind (rp m i)),.ii (whHi m kind (rp m i))])∧
   tm.E 1=.ii kind∧tm.E 2=.ii (M:Int)∧tm.E 3=.ptr h.next 0∧tm.E 6=.ptr (h.next+1) 0∧tm.E 7=.ptr (h.next+1+1) 0∧tm.E 8=.ii (i:Int))
  ?_ ?_ (i:=0) (Nat.zero_le _) ⟨_,_,rfl,s1,by omega,g1,r1,o1,yfb,yfb,yfb,yfb,yfb,yfb⟩
 ·rintro i s hi ⟨tm,h',rfl,hs,lt,gm,gr,go,t1,t2,t3,t6,t7,t8⟩
  have hi':(i:Int)<(m.lots.length:Int):=by omega
  have i0:(0:Int)≤(i:Int):=by omega
  obtain⟨bb,o,cc,cs,rfl,hcs,hq,hgg,hn,hn0⟩:=(aL.mono hs).at hi
  have hf:=g.frm i hi
  have hst:=rp_step hi
  by_cases hr:0≤m.lots[i].frm
  ·rw[if_neg yfc,List.append_nil] at hst
   simp(disch:=omega)only[go_sem,t1,t2,t3,t6,t7,t8,Za gm,hlenL,hi',hq (Zb i),hcs,hn0 yfc,ZO,hr,Ze]
   exact⟨_,_,rfl,hs,lt,gm,gr,by rw[hst];exact go,yfd,yff,yfg,yfj,yfi,yfb⟩
  ·have hfr:m.lots[i].frm= -1:=by omega
   rw[if_pos hfr] at hst
   have hfi:ZS m (i:Int)= -1:=by rw[XV hi];exact hfr
   have hUM:=hro (i:Int) i0 hi' hfi
   have QK:=sK_quad (kind:=kind) g hag i0 hi'
   have QN:=sN_quad (kind:=kind) g hag i0 hi'
   simp(disch:=omega)only[go_sem,t1,t2,t3,t6,t7,t8,Za gm,hlenL,hi',hq (Zb i),hcs,hn0 yfc,ZO,hr]
   refine table_ev g hag hM m.lots.length i yfc hi hs.wf (hm0.mono hs) _ fun h5 b1 b2 s5 e5 f5=>?_
   have c5:=Za e5
   have d5:=Za f5
   simp(disch:=omega)only[go_sem]
   refine Zi (M+1) (fun n s=>∃tm x y,s=⟨tm,h5,[]⟩∧Yg (fun n=>max (sK m kind (i:Int)).1 (n-(sK m kind (i:Int)).2)) (fun n=>(Ua m (i:Int)).1≤n∧n≤(Ua m (i:Int)).2) (n:Int) x∧Ys (fun n=>min (sN m kind (i:Int)).2 (n-(sN m kind (i:Int)).1)) (fun n=>(Ua m (i:Int)).1≤n∧n≤(Ua m (i:Int)).2) (n:Int) y∧
     tm.E 1=.ii kind∧tm.E 2=.ii (M:Int)∧tm.E 3=.ptr h.next 0∧tm.E 6=.ptr (h.next+1) 0∧tm.E 7=.ptr (h.next+1+1) 0∧tm.E 8=.ii (i:Int)∧
     tm.E 9=.sl b1 0 (M+1) (.fix (M+1))∧tm.E 10=.sl b2 0 (M+1) (.fix (M+1))∧tm.E 11=.ii x∧tm.E 12=.ii y∧tm.E 13=.ii (n:Int))
    ?_ ?_ (i:=0) (Nat.zero_le _) ⟨_, -1, -1,rfl,Yg.zero _ _,Ys.zero _ _,yfd,yff,yfg,yfj,yfi,yfl,yfb,yfb,yfb,yfb,yfb⟩
   ·clear t1 t2 t3 t6 t7 t8
    rintro n s hn ⟨tm,x,y,rfl,mn,mx,t1,t2,t3,t6,t7,t8,t9,t10,t11,t12,t13⟩
    have hn':(n:Int)≤(M:Int):=by omega
    have n0:(0:Int)≤(n:Int):=by omega
    by_cases hok:(Ua m (i:Int)).1≤(n:Int)∧(n:Int)≤(Ua m (i:Int)).2
    ·have eL:TL m kind (i:Int) (n:Int)=max (sK m kind (i:Int)).1 ((n:Int)-(sK m kind (i:Int)).2):=by unfold TL;rw[tabL_in hok]
     have eG:TG m kind (i:Int) (n:Int)=min (sN m kind (i:Int)).2 ((n:Int)-(sN m kind (i:Int)).1):=by unfold TG;rw[V0 hok]
     have q1:=QK.s0
     have q2:=QN.r0
     have q3:=QN.sl
     have hv1:0≤max (sK m kind (i:Int)).1 ((n:Int)-(sK m kind (i:Int)).2):=by omega
     have hv2:0≤min (sN m kind (i:Int)).2 ((n:Int)-(sN m kind (i:Int)).1):=by omega
     have hA:0≤TL m kind (i:Int) (n:Int):=by rw[eL];exact hv1
     have mx':=mx.take n0 hok hv2
     by_cases hx:x<0
     ·have mn':=mn.take n0 hok hv1 (.inl hx)
      simp(disch:=omega)only[go_sem,t1,t2,t3,t6,t7,t8,t9,t10,t11,t12,t13,hn',Zz (Zb n) hn,Nat.mul_one,c5,d5,Xm hn,hA,hx,Ze]
      exact⟨_,_,_,rfl,mn',mx',yfd,yff,yfg,yfj,yfi,yfl,yfp,yfn,by rw[←eL];exact yfb,by rw[←eG];exact yfb,yfb⟩
     by_cases hv:TL m kind (i:Int) (n:Int)<x
     ·have mn':=mn.take n0 hok hv1 (.inr (by rw[←eL];exact hv))
      simp(disch:=omega)only[go_sem,t1,t2,t3,t6,t7,t8,t9,t10,t11,t12,t13,hn',Zz (Zb n) hn,Nat.mul_one,c5,d5,Xm hn,hA,hx,hv,Ze]
      exact⟨_,_,_,rfl,mn',mx',yfd,yff,yfg,yfj,yfi,yfl,yfp,yfn,by rw[←eL];exact yfb,by rw[←eG];exact yfb,yfb⟩
     ·have mn':=mn.leave (fun h=>by rw[←eL] at h;rcases h with h|h;exact hx h;exact hv h)
      simp(disch:=omega)only[go_sem,t1,t2,t3,t6,t7,t8,t9,t10,t11,t12,t13,hn',Zz (Zb n) hn,Nat.mul_one,c5,d5,Xm hn,hA,hx,hv,Ze]
      exact⟨_,_,_,rfl,mn',mx',yfd,yff,yfg,yfj,yfi,yfl,yfp,yfn,yft,by rw[←eG];exact yfb,yfb⟩
    ·have eL:TL m kind (i:Int) (n:Int)= -1:=by unfold TL;rw[tabL_out hok]
     have eG:TG m kind (i:Int) (n:Int)= -1:=by unfold TG;rw[tabG_out hok]
     have hA:¬0≤TL m kind (i:Int) (n:Int):=by rw[eL];omega
     have hy:max y (TG m kind (i:Int) (n:Int))=y:=by have:=max_neg mx;rw[eG];omega
     simp(disch:=omega)only[go_sem,t1,t2,t3,t6,t7,t8,t9,t10,t11,t12,t13,hn',Zz (Zb n) hn,Nat.mul_one,c5,d5,Xm hn,hA,hy,Ze]
     exact⟨_,_,_,rfl,mn.skip hok,mx.skip hok,yfd,yff,yfg,yfj,yfi,yfl,yfp,yfn,yft,yfb,yfb⟩
   ·clear t1 t2 t3 t6 t7 t8
    rintro s ⟨tm,x,y,rfl,mn,mx,t1,t2,t3,t6,t7,t8,t9,t10,t11,t12,t13⟩
    have hn1:¬((M+1:Nat):Int)≤(M:Int):=by omega
    have ex:x=(sK m kind (i:Int)).1:=min_all QK hUM mn
    have ey:y=(sN m kind (i:Int)).2:=max_all QN hUM mx
    subst ex
    subst ey
    have bj:=wh_bd g hag kind (rp m i).length
    rw[←rp_pre] at bj
    have bs:=sK_bd g hag kind i0 hi'
    have gm5:=s5.get gm
    have gr5:=s5.get gr
    have go5:=s5.get go
    have l5:=s5.next
    have hs5:=hs.trans s5
    simp(disch:=omega)only[go_sem,t1,t2,t3,t6,t7,t8,t9,t10,t11,t12,t13,hn1,Za go5,go5,ZD,Ze]
    exact⟨_,_,rfl,yfa,by simp only[H.next_set];omega,by simp(disch:=omega)only[go_sem];exact gm5,by simp(disch:=omega)only[go_sem];exact gr5,by rw[get_set_same rfl,hst,whLo_snoc,whHi_snoc],yfd,yff,yfg,yfj,yfi,yfb⟩
 ·rintro s ⟨tm,h',rfl,hs,lt,gm,gr,go,t1,t2,t3,t6,t7,t8⟩
  rw[rp_all] at go
  simp(disch:=omega)only[go_sem,t1,t2,t3,t6,t7,t8,Za gm,hlenL,Int.lt_irrefl,Za go,gr]
  exact q _ yfa
end Go.Ab.Tryz
namespace Go.Ab.Tryz
open Go.Ab.Silk
theorem WhereR.uniq {m:Ml}{kind lo hi e lo' hi' e':Int}(a:WhereR m kind lo hi e)(b:WhereR m kind lo' hi' e'):lo=lo'∧hi=hi'∧e=e':=by
 rcases a with⟨a,a1,a2,a3⟩|⟨a,⟨a',a1,a2,a3⟩|⟨a',⟨a'',a1,a2,a3⟩|⟨a'',a1,a2,a3⟩⟩⟩<;>rcases b with⟨b,b1,b2,b3⟩|⟨b,⟨b',b1,b2,b3⟩|⟨b',⟨b'',b1,b2,b3⟩|⟨b'',b1,b2,b3⟩⟩⟩
 all_goals first
  |exact⟨a2.trans b2.symm,a3.trans b3.symm,a1.trans b1.symm⟩
  |exact absurd a b
  |exact absurd b a
  |exact absurd a'' b''
  |exact absurd b'' a''
  |(rw[a'] at b';cases b')
theorem fld_hi (a b:Int):q_fld false 1 1 (.agg [.ii a,.ii b])=some (.ii b):=rfl
def Big (m:Ml)(i:Int):Prop:=ZS m i= -1∧120<(Dm m i).2
set_option maxHeartbeats 4000000 in
theorem SilkWhere_sub {h:H}{v:V}{m:Ml}(hw:h.wf)(hm:ZF h v m)(kind:Int):Ev fnG Zm (.fn 29 [] []) [v,.ii kind] h fun u h'=>u=.bool true∧h.Sub h':=by
 refine Ev.gen fun Q q=>?_
 have hm0:=hm
 obtain⟨L,W,rfl,aL,aW⟩:=hm
 refine Zf (fd:=c29) rfl rfl rfl ?_
 have s1:h.Sub (h.add (.bk [.ii m.errs,L,W])):=yfa
 simp(disch:=omega)only[c29,go_sem]
 refine VK s1.wf (hm0.mono s1) _ fun h2 s12=>?_
 have s2:=s1.trans s12
 have l2:=s12.next
 simp only[H.next_add] at l2
 have g2:h2.cells h.next=some [.ii m.errs,L,W]:=s12.cells (by simp(disch:=omega)only[go_sem])
 have hlenL:=aL.lenE
 cases hgr:Xo m
 case true=>
  simp(disch:=omega)only[go_sem,Z4]
  exact q _ _ ⟨rfl,by first|assumption|exact H.Sub.refl hw|exact yfa⟩
 have hle:m.lots.length≤1000∧m.wgs.length≤1000:=by
  simp only[Xo,decide_eq_false_iff_not] at hgr
  omega
 clear hgr
 simp(disch:=omega)only[go_sem,g2]
 refine Ut s2.wf (hm0.mono s2) hle _ fun A B h3 s23 oOwn hA hB=>?_
 have s3:=s2.trans s23
 have g3:=s23.cells g2
 have l3:=s23.next
 simp(disch:=omega)only[go_sem,g3]
 refine W3 s3.wf (hm0.mono s3) hle _ fun x h4 s34 hx=>?_
 have s4:=s3.trans s34
 have g4:=s34.cells g3
 have l4:=s34.next
 obtain⟨X,Y,rfl,aX,aY⟩:=id hx
 have oX1:=aX.one
 have oY1:=aY.one
 simp -implicitDefEqProofs(disch:=first|omega|simp only[nZ]<;>omega|fail)only[go_sem,oX1,oY1,hA,hB,cells_one oX1,cells_one oY1,cells_one hA,cells_one hB,g2,g3,g4]
 have s45:h4.Sub ((((h4.add (.bk [.ii 0,.nils,.nils])).add (.bk [.ii 0,.nils,.nils])).set h4.next (.bk [.ii m.errs,A,B])).set (h4.next+1) (.bk [.ii m.errs,X,Y])):=by
  have w4:=s4.wf
  exact yfa
 have c9:((((h4.add (.bk [.ii 0,.nils,.nils])).add (.bk [.ii 0,.nils,.nils])).set h4.next (.bk [.ii m.errs,A,B])).set (h4.next+1) (.bk [.ii m.errs,X,Y])).cells h4.next=some [.ii m.errs,A,B]:=by simp -implicitDefEqProofs(maxSteps:=999999)(disch:=first|with_reducible rfl|omega|(simp only[nA,nS,nD]<;>omega)|fail)only[go_sem]
 have c10:((((h4.add (.bk [.ii 0,.nils,.nils])).add (.bk [.ii 0,.nils,.nils])).set h4.next (.bk [.ii m.errs,A,B])).set (h4.next+1) (.bk [.ii m.errs,X,Y])).cells (h4.next+1)=some [.ii m.errs,X,Y]:=by simp -implicitDefEqProofs(maxSteps:=999999)(disch:=first|with_reducible rfl|omega|(simp only[nA,nS,nD]<;>omega)|fail)only[go_sem]
 generalize((((h4.add (.bk [.ii 0,.nils,.nils])).add (.bk [.ii 0,.nils,.nils])).set h4.next (.bk [.ii m.errs,A,B])).set (h4.next+1) (.bk [.ii m.errs,X,Y]))=h5 at s45 c9 c10⊢
 have s5:=s4.trans s45
 have l45:=s45.next
 have hown5:=(oOwn.mono (s34.trans s45)).is hle
 refine(Xn s5.wf (hx.mono s45)).mono fun u h6 hu=>?_
 obtain⟨rfl,s56⟩:=hu
 have s6:=s5.trans s56
 have l56:=s56.next
 have d9:=s56.cells c9
 have d10:=s56.cells c10
 have d1:=(s45.trans s56).cells g4
 simp(disch:=omega)only[go_sem]
 have s67:=(H.Sub.refl s6.wf).add (.bk [.ii 0,.ii 0])
 have f8:(h6.add (.bk [.ii 0,.ii 0])).get h6.next=some (.bk [.ii 0,.ii 0]):=Zo rfl
 have l67:(h6.add (.bk [.ii 0,.ii 0])).next=h6.next+1:=H.next_add _ _
 generalize h6.add (.bk [.ii 0,.ii 0])=h7 at s67 f8 l67⊢
 have s7:=s6.trans s67
 have w7:=s7.wf
 have hx7:=hx.mono (s45.trans (s56.trans s67))
 have e10:=s67.cells d10
 by_cases hE:check m=0∧ZA kind=true∧(∃w,ZC m Zj w)∧∃i:Int,(0≤i∧i<m.lots.length)∧Big m i
 ·obtain⟨c,hal,hag,i0,⟨i00,i01⟩,hbig⟩:=hE
  have g:=ZJ c
  have gl:=g.lots
  have gw:=g.wgs
  have k1:¬kind<0:=by simp only[ZA,decide_eq_true_eq] at hal;omega
  have k2:¬3<kind:=by simp only[ZA,decide_eq_true_eq] at hal;omega
  simp(disch:=omega)only[go_sem,c,e10]
  refine All_ev w7 hx7 yfc _ fun C h8 s78 aC=>?_
  have e10A:=s78.cells e10
  simp(disch:=omega)only[go_sem,e10,e10A]
  refine(YV (s7.trans s78).wf (hx7.mono s78) g aC yfz).mono fun u h9 hu=>?_
  obtain⟨s89,t,rfl,ht⟩:=hu
  have ht':t=true↔∃w,ZC m Zj w:=by rw[ht];unfold ZC;rw[own_all]
  have s79:=s78.trans s89
  have s9:=s7.trans s79
  have g79:=(s67.trans s79).cells d1
  obtain rfl:t=true:=ht'.2 hag
  simp(disch:=omega)only[go_sem,e10,e10A,s79.cells e10,k1,k2,g79,hlenL,Bool.not_true]
  refine Zi m.lots.length (fun i s=>∃tm h',s=⟨tm,h',[]⟩∧h9.Sub h'∧(∀k:Int,0≤k→k<(i:Int)→¬Big m k)∧tm.E 1=.ii kind∧tm.E 2=.ptr h.next 0∧tm.E 5=.ptr h4.next 0∧tm.E 6=.ptr (h4.next+1) 0∧tm.E 7=.ii 0∧tm.E 8=.ptr h6.next 0∧
    tm.E 30=L∧tm.E 31=.ii (m.lots.length:Int)∧tm.E 32=.ii (i:Int))
   ?_ ?_ (i:=0) (Nat.zero_le _) ⟨_,_,rfl,H.Sub.refl s9.wf,fun k k0 k1=>by omega,yfb,yfb,yfb,yfb,by rw[←c];exact yfb,yfb,yfb,yfb,yfb⟩
  ·rintro i s hi ⟨tm,h',rfl,hs,hno,t1,t2,t5,t6,t7,t8,t30,t31,t32⟩
   have hi':(i:Int)<(m.lots.length:Int):=by omega
   have hs9:=s9.trans hs
   have e10':=(s79.trans hs).cells e10
   obtain⟨bb,o,cc,cs,eb,hcs,hq,hgg,hn,hn0⟩:=(aL.mono hs9).at hi
   have hbb:bb<h'.next:=Vv hs9.wf (aL.mono hs9) yfw bb ⟨_,_,_,eb⟩
   have sA:h'.Sub (h'.add (.bk [.ii m.lots[i].frm,.ii m.lots[i].kind])):=(H.Sub.refl hs9.wf).add _
   have eA:=sA.cells e10'
   have hfi:=XV hi
   have nx:¬Big m (i:Int)→∀k:Int,0≤k→k<((i+1:Nat):Int)→¬Big m k:=fun hn k k0 k1=>by
    by_cases e:k=(i:Int)
    ·rw[e];exact hn
    ·exact hno k k0 yfc
   subst eb
   by_cases hf:m.lots[i].frm= -1
   ·simp(disch:=omega)only[go_sem,t1,t2,t5,t6,t7,t8,t30,t31,t32,hi',hq (Zb i),hcs,hgg,ZO,hf,e10']
    rw[hf] at sA eA
    simp(disch:=omega)only[go_sem,eA]
    refine V6 g hag (i+1) i yfc hi sA.wf (hx7.mono ((s79.trans hs).trans sA)) _ fun hB sB=>?_
    by_cases hb:120<(Dm m (i:Int)).2
    ·simp(disch:=omega)only[go_sem,t1,t2,t5,t6,t7,t8,t30,t31,t32,fld_hi,hb,Z4]
     exact q _ _ ⟨rfl,(hs9.trans sA).trans sB⟩
    ·simp(disch:=omega)only[go_sem,t1,t2,t5,t6,t7,t8,t30,t31,t32,fld_hi,hb,Ze]
     exact⟨_,_,rfl,(hs.trans sA).trans sB,nx fun hb'=>hb hb'.2,yfd,yff,yfm,yfj,yfi,yfl,yfx,yfy,yfb⟩
   ·simp(disch:=omega)only[go_sem,t1,t2,t5,t6,t7,t8,t30,t31,t32,hi',hq (Zb i),hcs,hgg,ZO,hf,Ze]
    exact⟨_,_,rfl,hs.trans sA,nx fun hb'=>hf (by rw[←hfi];exact hb'.1),yfd,yff,yfm,yfj,yfi,yfl,yfx,yfy,yfb⟩
  ·rintro s ⟨tm,h',rfl,hs,hno,t1,t2,t5,t6,t7,t8,t30,t31,t32⟩
   exact absurd hbig (hno i0 i00 i01)
 ·obtain⟨I,hI⟩:∃I:St→Prop,∀s,I s↔∃tm h8 lo hi w,s=⟨tm,h8,[]⟩∧h6.Sub h8∧tm.E 1=.ii kind∧tm.E 2=.ptr h.next 0∧tm.E 5=.ptr h4.next 0∧tm.E 7=.ii w∧tm.E 8=.ptr h6.next 0∧
    h8.cells h6.next=some [.ii lo,.ii hi]∧WhereR m kind lo hi w:=⟨_,fun s=>Iff.rfl⟩
  refine Us (p:=check m=0) I ?_ ?_ ?_
  ·intro c
   have g:=ZJ c
   have gl:=g.lots
   have gw:=g.wgs
   simp(disch:=omega)only[go_sem,e10]
   refine All_ev w7 hx7 yfc _ fun C h8 s78 aC=>?_
   have e10A:=s78.cells e10
   simp(disch:=omega)only[go_sem,e10,e10A]
   refine(YV (s7.trans s78).wf (hx7.mono s78) g aC yfz).mono fun u h9 hu=>?_
   obtain⟨s89,t,rfl,ht⟩:=hu
   have ht':t=true↔∃w,ZC m Zj w:=by rw[ht];unfold ZC;rw[own_all]
   have s79:=s78.trans s89
   have s69:=s67.trans s79
   have s9:=s7.trans s79
   have g79:=s69.cells d1
   have f89:=Za (s79.get f8)
   cases hal:ZA kind
   case false=>
    have spec:WhereR m kind 0 0 3:=.inr ⟨c,.inl ⟨hal,rfl,rfl,rfl⟩⟩
    by_cases k1:kind<0
    ·simp(disch:=omega)only[go_sem,e10,e10A,s79.cells e10,k1]
     exact⟨rfl,(hI _).2 ⟨_,_,0,0,3,rfl,s69,yfb,yfb,yfb,yfb,yfb,f89,spec⟩⟩
    ·have k2:3<kind:=by simp only[ZA,decide_eq_false_iff_not] at hal;omega
     simp(disch:=omega)only[go_sem,e10,e10A,s79.cells e10,k1,k2]
     exact⟨rfl,(hI _).2 ⟨_,_,0,0,3,rfl,s69,yfb,yfb,yfb,yfb,yfb,f89,spec⟩⟩
   have k1:¬kind<0:=by simp only[ZA,decide_eq_true_eq] at hal;omega
   have k2:¬3<kind:=by simp only[ZA,decide_eq_true_eq] at hal;omega
   cases t
   case false=>
    have hno:¬∃w,ZC m Zj w:=fun hf=>by have:=ht'.2 hf;cases this
    simp(disch:=omega)only[go_sem,e10,e10A,s79.cells e10,k1,k2,Bool.not_false]
    exact⟨rfl,(hI _).2 ⟨_,_,0,0,7,rfl,s69,yfb,yfb,yfb,yfb,yfb,f89,.inr ⟨c,.inr ⟨hal,.inl ⟨hno,rfl,rfl,rfl⟩⟩⟩⟩⟩
   have hag:=ht'.1 rfl
   simp(disch:=omega)only[go_sem,e10,e10A,s79.cells e10,k1,k2,g79,hlenL,Bool.not_true]
   refine Zi m.lots.length (fun i s=>∃tm h',s=⟨tm,h',[]⟩∧h9.Sub h'∧(∀k:Int,0≤k→k<(i:Int)→¬Big m k)∧tm.E 1=.ii kind∧tm.E 2=.ptr h.next 0∧tm.E 5=.ptr h4.next 0∧tm.E 6=.ptr (h4.next+1) 0∧tm.E 7=.ii 0∧tm.E 8=.ptr h6.next 0∧
     tm.E 30=L∧tm.E 31=.ii (m.lots.length:Int)∧tm.E 32=.ii (i:Int))
    ?_ ?_ (i:=0) (Nat.zero_le _) ⟨_,_,rfl,H.Sub.refl s9.wf,fun k k0 k1=>by omega,yfb,yfb,yfb,yfb,by rw[←c];exact yfb,yfb,yfb,yfb,yfb⟩
   ·rintro i s hi ⟨tm,h',rfl,hs,hno,t1,t2,t5,t6,t7,t8,t30,t31,t32⟩
    have hi':(i:Int)<(m.lots.length:Int):=by omega
    have hs9:=s9.trans hs
    have e10':=(s79.trans hs).cells e10
    obtain⟨bb,o,cc,cs,eb,hcs,hq,hgg,hn,hn0⟩:=(aL.mono hs9).at hi
    have hbb:bb<h'.next:=Vv hs9.wf (aL.mono hs9) yfw bb ⟨_,_,_,eb⟩
    have sA:h'.Sub (h'.add (.bk [.ii m.lots[i].frm,.ii m.lots[i].kind])):=(H.Sub.refl hs9.wf).add _
    have eA:=sA.cells e10'
    have hfi:=XV hi
    have nx:¬Big m (i:Int)→∀k:Int,0≤k→k<((i+1:Nat):Int)→¬Big m k:=fun hn k k0 k1=>by
     by_cases e:k=(i:Int)
     ·rw[e];exact hn
     ·exact hno k k0 yfc
    subst eb
    by_cases hf:m.lots[i].frm= -1
    ·simp(disch:=omega)only[go_sem,t1,t2,t5,t6,t7,t8,t30,t31,t32,hi',hq (Zb i),hcs,hgg,ZO,hf,e10']
     rw[hf] at sA eA
     simp(disch:=omega)only[go_sem,eA]
     refine V6 g hag (i+1) i yfc hi sA.wf (hx7.mono ((s79.trans hs).trans sA)) _ fun hB sB=>?_
     by_cases hb:120<(Dm m (i:Int)).2
     ·exact absurd ⟨c,hal,hag,(i:Int),⟨by omega,hi'⟩,by rw[hfi];exact hf,hb⟩ hE
     ·simp(disch:=omega)only[go_sem,t1,t2,t5,t6,t7,t8,t30,t31,t32,fld_hi,hb,Ze]
      exact⟨_,_,rfl,(hs.trans sA).trans sB,nx fun hb'=>hb hb'.2,yfd,yff,yfm,yfj,yfi,yfl,yfx,yfy,yfb⟩
    ·simp(disch:=omega)only[go_sem,t1,t2,t5,t6,t7,t8,t30,t31,t32,hi',hq (Zb i),hcs,hgg,ZO,hf,Ze]
     exact⟨_,_,rfl,hs.trans sA,nx fun hb'=>hf (by rw[←hfi];exact hb'.1),yfd,yff,yfm,yfj,yfi,yfl,yfx,yfy,yfb⟩
   ·rintro s ⟨tm,h',rfl,hs,hno,t1,t2,t5,t6,t7,t8,t30,t31,t32⟩
    have hs9:=s9.trans hs
    have e10':=(s79.trans hs).cells e10
    simp(disch:=omega)only[go_sem,t1,t2,t5,t6,t7,t8,t30,t31,t32,Int.lt_irrefl,e10']
    refine refWhere_ev (M:=120) hs9.wf (hx7.mono (s79.trans hs)) g hag yfc (fun p p0 p1 pf=>?_) _ fun hB sB=>?_
    ·have h1:¬120<(Dm m p).2:=fun h=>hno p p0 p1 ⟨pf,h⟩
     have h2:Dm m p=Um m Zj p:=by unfold Dm;rw[Do_eq (Zv g) _ p0 p1,if_pos yfc]
     rw[h2] at h1
     unfold Ua;omega
    ·have f8B:=((s79.trans hs).trans sB).get f8
     have l9:=((s79.trans hs).trans sB).next
     simp(disch:=omega)only[go_sem,t1,t2,t5,t6,t7,t8,t30,t31,t32,f8B]
     exact⟨rfl,(hI _).2 ⟨_,_,_,_,0,rfl,((s69.trans hs).trans sB).set yfc yfc s6.wf _,yfd,yff,yfm,yfi,yfl,Yx rfl,.inr ⟨c,.inr ⟨hal,.inr ⟨hag,rfl,rfl,rfl⟩⟩⟩⟩⟩
  ·intro c
   simp(disch:=omega)only[go_sem]
   exact⟨rfl,(hI _).2 ⟨_,_,0,0,check m,rfl,s67,yfb,yfb,yfb,yfb,yfb,Za f8,.inl ⟨c,rfl,rfl,rfl⟩⟩⟩
  ·intro s hs
   obtain⟨tm,h8,lo,hi,w,rfl,s68,t1,t2,t5,t7,t8,f8',spec⟩:=(hI s).1 hs
   have s8:=s6.trans s68
   have n9:=s68.cells d9
   have hown8:=hown5.mono (s56.trans s68)
   simp(disch:=omega)only[go_sem,t1,t2,t5,t7,t8,n9]
   refine(Where_ev s8.wf hown8 kind).mono fun u hA hu=>?_
   obtain⟨s8A,lo',hi',e',rfl,spec'⟩:=hu
   obtain⟨rfl,rfl,rfl⟩:=spec.uniq spec'
   have sA:=s8.trans s8A
   have sAB:=(H.Sub.refl sA.wf).add (.bk [.ii lo,.ii hi])
   have gN5:=(s8A.trans sAB).cells n9
   have gN2:=((s34.trans s45).trans (s56.trans (s68.trans (s8A.trans sAB)))).cells g3
   have f8N:=(s8A.trans sAB).cells f8'
   have cB:(hA.add (.bk [.ii lo,.ii hi])).cells hA.next=some [.ii lo,.ii hi]:=Zh rfl
   simp(disch:=omega)only[go_sem,t1,t2,t5,t7,t8,decide_eq_true rfl,gN5,gN2,f8N,cB,q_feq_2,ngB,and_self]
   refine WW (sA.trans sAB).wf (hown8.mono (s8A.trans sAB)) (hm0.mono (sA.trans sAB)) _ fun hF sF=>?_
   simp(disch:=omega)only[go_sem,t1,t2,t5,t7,t8,Z4]
   exact q _ _ ⟨rfl,(sA.trans sAB).trans sF⟩
end Go.Ab.Tryz
namespace Go.Ab.Tryz
open Go.Ab.Silk
section
variable {n:Nat} {frm:Int→Int} {parts:Int→List Int}
theorem anc_trans {w a b:Int}(h:Anc frm w a)(k:Anc frm a b):Anc frm w b:=by
 induction k with
 |self=>exact h
 |up _ h0 ih=>exact .up ih h0
theorem anc_chain {w a b:Int}(h:Anc frm w a)(k:Anc frm w b):Anc frm a b∨Anc frm b a:=by
 induction h with
 |self=>exact .inl k
 |up _ h0 ih=>
  rcases ih with ih|ih
  ·rcases ih.down with e|⟨_,e⟩
   ·subst e;exact .inr (.up .self h0)
   ·exact .inl e
  ·exact .inr (.up ih h0)
end
theorem Xa {m:Ml}(g:Good m){j k:Int}(j0:0≤j)(j1:j<m.lots.length):k∈line m j↔Anc (ZS m) j k:=by
 have:∀(f:Nat) (j:Int),j<f→0≤j→j<m.lots.length→(k∈line m j↔Anc (ZS m) j k):=by
  intro f
  induction f with
  |zero=>intro j h1 h2;omega
  |succ f ih=>
   intro j hj j0 j1
   have hf:=VM g j0 j1
   rw[line_cons g j0 j1,List.mem_cons]
   by_cases h:ZS m j<0
   ·rw[line_neg m h]
    constructor
    ·rintro(rfl|h')
     ·exact .self
     ·simp at h'
    ·intro a
     rcases a.down with e|⟨e,_⟩
     ·exact .inl e
     ·omega
   ·rw[ih _ yfc yfc yfc]
    constructor
    ·rintro(rfl|h')
     ·exact .self
     ·exact .of_up yfc h'
    ·intro a
     rcases a.down with e|⟨_,e⟩
     ·exact .inl e
     ·exact .inr e
 exact this m.lots.length j j1 j0 j1
def wl (m:Ml)(a:Int):Int:=if h:a.toNat<m.wgs.length then m.wgs[a.toNat].lot else 0
def wLo (m:Ml)(a:Int):Int:=if h:a.toNat<m.wgs.length then Z8 m m.wgs[a.toNat] else 0
def wHi (m:Ml)(a:Int):Int:=if h:a.toNat<m.wgs.length then Z1 m m.wgs[a.toNat] else 0
section
variable {m:Ml}
theorem wl_at {i:Nat}(h:i<m.wgs.length):wl m (i:Int)=m.wgs[i].lot:=by unfold wl;simp[h]
theorem wLo_at {i:Nat}(h:i<m.wgs.length):wLo m (i:Int)=Z8 m m.wgs[i]:=by unfold wLo;simp[h]
theorem wHi_at {i:Nat}(h:i<m.wgs.length):wHi m (i:Int)=Z1 m m.wgs[i]:=by unfold wHi;simp[h]
theorem wl_in (g:Good m){a:Int}(a0:0≤a)(a1:a<m.wgs.length):0≤wl m a∧wl m a<m.lots.length:=by
 obtain⟨i,rfl⟩:=Int.eq_ofNat_of_zero_le a0
 have hi:i<m.wgs.length:=by omega
 have:=g.lot _ (List.getElem_mem hi)
 rw[wl_at hi];omega
def Apart (m:Ml)(a b:Int):Prop:=¬Anc (ZS m) (wl m a) (wl m b)∧¬Anc (ZS m) (wl m b) (wl m a)
structure Br (m:Ml)(lot:Int)(l:List Int):Prop where
 inw:∀a∈l,0≤a∧a<m.wgs.length
 br:∀a∈l,Anc (ZS m) (wl m a) lot
 ap:l.Pairwise (Apart m)
theorem Br.nil {lot:Int}:Br m lot []:=⟨by simp,by simp,by simp⟩
theorem Br.single {lot:Int}{i:Nat}(h:i<m.wgs.length)(e:wl m (i:Int)=lot):Br m lot [(i:Int)]:=
 ⟨fun a ha=>by rw[List.mem_singleton] at ha;subst ha;omega,fun a ha=>by rw[List.mem_singleton] at ha;subst ha;rw[e];exact .self,by simp⟩
abbrev Sm:=Int × List Int
def Yr:List Sm→Sm
 |[]=>(0,[])
 |s::l=>(s.1+(Yr l).1,s.2++(Yr l).2)
theorem addL_snoc (s:Sm):∀l:List Sm,Yr (l++[s])=((Yr l).1+s.1,(Yr l).2++s.2)
 |[]=>by simp[Yr]
 |a::l=>by
  have ih:=addL_snoc s l
  simp only[List.cons_append,Yr,ih,List.append_assoc]
  rw[Int.add_assoc]
theorem addL_sum (f:Int→Sm):∀l:List Int,(Yr (l.map f)).1=Zg (fun p=>(f p).1) l
 |[]=>rfl
 |a::l=>by simp only[List.map_cons,Yr,Zg,addL_sum f l]
theorem addL_mem (f:Int→Sm){a:Int}:∀{l:List Int},a∈(Yr (l.map f)).2↔∃p∈l,a∈(f p).2
 |[]=>by simp[Yr]
 |b::l=>by
  simp only[List.map_cons,Yr,List.mem_append,addL_mem f (l:=l)]
  simp
theorem addL_of (x:Int→Int)(f:Int→Sm):∀{l:List Int},(∀p∈l,(f p).1=Zg x (f p).2)→(Yr (l.map f)).1=Zg x (Yr (l.map f)).2
 |[],_=>rfl
 |b::l,h=>by
  simp only[List.map_cons,Yr]
  rw[XO,addL_of x f (l:=l) fun p hp=>h p (by simp[hp]),h b yfz]
theorem add_br (g:Good m){lot:Int}(l0:0≤lot){f:Int→Sm}:∀{ps:List Int},ps.Nodup→(∀p∈ps,ZS m p=lot∧Br m p (f p).2)→Br m lot (Yr (ps.map f)).2
 |[],_,_=>Br.nil
 |p::ps,hn,h=>by
  rw[List.nodup_cons] at hn
  have ih:=add_br g l0 (f:=f) (ps:=ps) hn.2 fun q hq=>h q (by simp[hq])
  obtain⟨e,b⟩:=h p yfz
  simp only[List.map_cons,Yr]
  refine⟨fun a ha=>?_,fun a ha=>?_,?_⟩
  ·rw[List.mem_append] at ha
   rcases ha with ha|ha
   ·exact b.inw a ha
   ·exact ih.inw a ha
  ·rw[List.mem_append] at ha
   rcases ha with ha|ha
   ·have:=b.br a ha
    rw[←e];exact .up this yfc
   ·exact ih.br a ha
  ·rw[List.pairwise_append]
   refine⟨b.ap,ih.ap,fun a ha c hc=>?_⟩
   obtain⟨q,hq,hcq⟩:=(addL_mem f).1 hc
   obtain⟨e',b'⟩:=h q (by simp[hq])
   have hpq:p≠q:=fun h=>hn.1 (h▸hq)
   have wa:=wl_in g (b.inw a ha).1 (b.inw a ha).2
   have wc:=wl_in g (b'.inw c hcq).1 (b'.inw c hcq).2
   have F:=Zv g
   exact⟨fun k=>hpq (Anc.one F wa.1 wa.2 (b.br a ha) (anc_trans k (b'.br c hcq)) (by rw[e,e'])),fun k=>hpq (Anc.one F wc.1 wc.2 (anc_trans k (b.br a ha)) (b'.br c hcq) (by rw[e,e']))⟩
def XS (m:Ml)(lot:Int):Nat→Sm→Sm
 |0,s=>s
 |j+1,s=>if wl m (j:Int)=lot∧(XS m lot j s).1<wLo m (j:Int) then(wLo m (j:Int),[(j:Int)]) else XS m lot j s
def mostF (m:Ml):Nat→Int→Sm
 |0,_=>(0,[])
 |k+1,i=>XS m i m.wgs.length (Yr ((parts m i).map (mostF m k)))
theorem mostF_any (g:Good m):∀(k j:Nat) (i:Int),0≤i→i<m.lots.length→(m.lots.length:Int)-i≤k→(m.lots.length:Int)-i≤j→mostF m k i=mostF m j i
 |0,_,i,h0,h1,h,_=>by omega
 |_+1,0,i,h0,h1,_,h=>by omega
 |k+1,j+1,i,h0,h1,h2,h3=>by
  simp only[mostF]
  rw[List.map_congr_left (g:=mostF m j) fun p hp=>by
   obtain⟨p0,p1,pf⟩:=((Zv g).mem _ _).1 hp
   have:=(Zv g).lt p p0 p1
   exact mostF_any g k j p p0 p1 yfc yfc]
def Yb (m:Ml):Int→Sm:=mostF m m.lots.length
theorem mostP_eq (g:Good m){i:Int}(i0:0≤i)(i1:i<m.lots.length):Yb m i=XS m i m.wgs.length (Yr ((parts m i).map (Yb m))):=by
 have e:=mostF_any g m.lots.length (m.lots.length+1) i i0 i1 yfc yfc
 unfold Yb
 rw[e];rfl
theorem own_step {lot:Int}{j:Nat}(hj:j<m.wgs.length):YZ m Zj lot (j+1)=if wl m (j:Int)=lot then(max (YZ m Zj lot j).1 (wLo m (j:Int)),min (YZ m Zj lot j).2 (wHi m (j:Int))) else YZ m Zj lot j:=by
 rw[wl_at hj,wLo_at hj,wHi_at hj]
 by_cases h:m.wgs[j].lot=lot
 ·rw[if_pos h,ownK_hit hj rfl h]
 ·rw[if_neg h,Xv hj (.inr h)]
theorem mostW_val {lot:Int}{s:Sm}(h0:0≤s.1):∀j,j≤m.wgs.length→(XS m lot j s).1=max s.1 (YZ m Zj lot j).1
 |0,_=>by simp only[XS,YZ];omega
 |j+1,h=>by
  have ih:=mostW_val (lot:=lot) h0 j yfc
  rw[own_step yfc]
  simp only[XS]
  by_cases e:wl m (j:Int)=lot
  ·by_cases c:(XS m lot j s).1<wLo m (j:Int)
   ·rw[if_pos ⟨e,c⟩,if_pos e];simp only;omega
   ·rw[if_neg (fun h=>c h.2),if_pos e];simp only;omega
  ·rw[if_neg (fun h=>e h.1),if_neg e];exact ih
theorem mostW_br {lot:Int}{s:Sm}(hb:Br m lot s.2)(hs:s.1=Zg (wLo m) s.2):∀j,j≤m.wgs.length→Br m lot (XS m lot j s).2∧(XS m lot j s).1=Zg (wLo m) (XS m lot j s).2
 |0,_=>⟨hb,hs⟩
 |j+1,h=>by
  simp only[XS]
  by_cases c:wl m (j:Int)=lot∧(XS m lot j s).1<wLo m (j:Int)
  ·rw[if_pos c]
   exact⟨Br.single yfc c.1,by simp[Zg]⟩
  ·rw[if_neg c];exact mostW_br hb hs j yfc
theorem most_ok (g:Good m):∀i:Int,0≤i→i<m.lots.length→(Yb m i).1=(Um m Zj i).1∧(Yb m i).1=Zg (wLo m) (Yb m i).2∧Br m i (Yb m i).2:=by
 have F:=Zv g
 refine up_ind F fun i i0 i1 ih=>?_
 have hpm:∀p∈parts m i,0≤p∧p<m.lots.length∧ZS m p=i:=fun p hp=>(F.mem _ _).1 hp
 have hsum:(Yr ((parts m i).map (Yb m))).1=Zg (lo1 (Um m Zj)) (parts m i):=by
  rw[addL_sum];exact ZN fun p hp=>(ih p hp).1
 have hnn:0≤(Yr ((parts m i).map (Yb m))).1:=by
  rw[hsum]
  exact Z7 fun p hp=>(Um_bd g Zj (hpm p hp).1 (hpm p hp).2.1).1
 have hv:=mostW_val (m:=m) (lot:=i) hnn m.wgs.length (Nat.le_refl _)
 have hb:=mostW_br (m:=m) (lot:=i) (add_br g i0 (F.nodup i) fun p hp=>⟨(hpm p hp).2.2,(ih p hp).2.2⟩) (addL_of (wLo m) _ fun p hp=>(ih p hp).2.1) m.wgs.length (Nat.le_refl _)
 rw[mostP_eq g i0 i1]
 refine⟨?_,hb.2,hb.1⟩
 have hown:=ownB_at (c:=Zj) i0 i1
 have hbd:=ownB_bd g Zj i
 rw[hv,←hown]
 by_cases hp:parts m i=[]
 ·have hU:Um m Zj i=ownB m Zj i:=Vu F _ i0 i1 hp
  rw[hU,hp];simp only[List.map_nil,Yr];omega
 ·have hU:Um m Zj i=(max (ownB m Zj i).1 (Zg (lo1 (Um m Zj)) (parts m i)),min (ownB m Zj i).2 (Zg (hi1 (Um m Zj)) (parts m i))):=Wz F (ownB m Zj) i0 i1 hp
  rw[hsum,hU];simp only;omega
def fewW (m:Ml)(lot:Int):Nat→Sm→Sm
 |0,s=>s
 |j+1,s=>if wl m (j:Int)=lot∧wHi m (j:Int)<(fewW m lot j s).1 then(wHi m (j:Int),[(j:Int)]) else fewW m lot j s
def Vz (l:List Sm):Sm:=if l≠[]∧(∀s∈l,s.2≠[])∧(Yr l).1<10000 then Yr l else(10000,[])
def fewF (m:Ml):Nat→Int→Sm
 |0,_=>(0,[])
 |k+1,i=>fewW m i m.wgs.length (Vz ((parts m i).map (fewF m k)))
theorem fewF_any (g:Good m):∀(k j:Nat) (i:Int),0≤i→i<m.lots.length→(m.lots.length:Int)-i≤k→(m.lots.length:Int)-i≤j→fewF m k i=fewF m j i
 |0,_,i,h0,h1,h,_=>by omega
 |_+1,0,i,h0,h1,_,h=>by omega
 |k+1,j+1,i,h0,h1,h2,h3=>by
  simp only[fewF]
  rw[List.map_congr_left (g:=fewF m j) fun p hp=>by
   obtain⟨p0,p1,pf⟩:=((Zv g).mem _ _).1 hp
   have:=(Zv g).lt p p0 p1
   exact fewF_any g k j p p0 p1 yfc yfc]
def Ya (m:Ml):Int→Sm:=fewF m m.lots.length
theorem fewP_eq (g:Good m){i:Int}(i0:0≤i)(i1:i<m.lots.length):Ya m i=fewW m i m.wgs.length (Vz ((parts m i).map (Ya m))):=by
 have e:=fewF_any g m.lots.length (m.lots.length+1) i i0 i1 yfc yfc
 unfold Ya
 rw[e];rfl
theorem fewW_val {lot:Int}{s:Sm}(h0:s.1≤10000):∀j,j≤m.wgs.length→(fewW m lot j s).1=min s.1 (YZ m Zj lot j).2
 |0,_=>by simp only[fewW,YZ];omega
 |j+1,h=>by
  have ih:=fewW_val (lot:=lot) h0 j yfc
  rw[own_step yfc]
  simp only[fewW]
  by_cases e:wl m (j:Int)=lot
  ·by_cases c:wHi m (j:Int)<(fewW m lot j s).1
   ·rw[if_pos ⟨e,c⟩,if_pos e];simp only;omega
   ·rw[if_neg (fun h=>c h.2),if_pos e];simp only;omega
  ·rw[if_neg (fun h=>e h.1),if_neg e];exact ih
structure Few (m:Ml)(lot:Int)(s:Sm):Prop where
 br:Br m lot s.2
 none:s.2=[]→s.1=10000
 sum:s.2≠[]→s.1=Zg (wHi m) s.2
 all:s.2≠[]→∀w:Int,0≤w→w<m.lots.length→parts m w=[]→Anc (ZS m) w lot→∃a∈s.2,Anc (ZS m) w (wl m a)
theorem Few.nil {lot:Int}:Few m lot (10000,[]):=⟨Br.nil,fun _=>rfl,fun h=>absurd rfl h,fun h=>absurd rfl h⟩
theorem Few.single {lot:Int}{i:Nat}(h:i<m.wgs.length)(e:wl m (i:Int)=lot):Few m lot (wHi m (i:Int),[(i:Int)]):=
 ⟨Br.single h e,fun h=>by simp at h,fun _=>by simp[Zg],fun _ w _ _ _ a=>⟨(i:Int),by simp,by rw[e];exact a⟩⟩
theorem fewW_few {lot:Int}{s:Sm}(hb:Few m lot s):∀j,j≤m.wgs.length→Few m lot (fewW m lot j s)
 |0,_=>hb
 |j+1,h=>by
  simp only[fewW]
  by_cases c:wl m (j:Int)=lot∧wHi m (j:Int)<(fewW m lot j s).1
  ·rw[if_pos c]
   exact Few.single yfc c.1
  ·rw[if_neg c];exact fewW_few hb j yfc
theorem sumL_ge {x:Int→Int}{p:Int}{l:List Int}(h:∀p∈l,0≤x p)(hp:p∈l):x p≤Zg x l:=by
 induction l with
 |nil=>simp at hp
 |cons a l ih=>
  have h0:=h a yfz
  have h1:=Z7 (x:=x) (l:=l) fun p hp=>h p (by simp[hp])
  simp only[Zg]
  rcases List.mem_cons.1 hp with rfl|hp
  ·omega
  ·have:=ih (fun p hp=>h p (by simp[hp])) hp;omega
theorem few_ok (g:Good m):∀i:Int,0≤i→i<m.lots.length→(Ya m i).1=(Um m Zj i).2∧0≤(Ya m i).1∧Few m i (Ya m i):=by
 have F:=Zv g
 refine up_ind F fun i i0 i1 ih=>?_
 have hpm:∀p∈parts m i,0≤p∧p<m.lots.length∧ZS m p=i:=fun p hp=>(F.mem _ _).1 hp
 have hsum:(Yr ((parts m i).map (Ya m))).1=Zg (hi1 (Um m Zj)) (parts m i):=by
  rw[addL_sum];exact ZN fun p hp=>(ih p hp).1
 have hnn:∀p∈parts m i,0≤hi1 (Um m Zj) p:=fun p hp=>by have:=ih p hp;simp only[hi1];omega
 have hown:=ownB_at (c:=Zj) i0 i1
 have hbd:=ownB_bd g Zj i
 have hbk:=ownK_bd g Zj i m.wgs.length
 have h0:(Vz ((parts m i).map (Ya m))).1≤10000∧0≤(Vz ((parts m i).map (Ya m))).1∧Few m i (Vz ((parts m i).map (Ya m)))∧(min (Vz ((parts m i).map (Ya m))).1 (ownB m Zj i).2=(Um m Zj i).2):=by
  by_cases hp:parts m i=[]
  ·have hU:Um m Zj i=ownB m Zj i:=Vu F _ i0 i1 hp
   rw[hU,hp]
   simp only[List.map_nil,Vz,ne_eq,not_true_eq_false,false_and,if_false]
   exact⟨by omega,by omega,Few.nil,by omega⟩
  ·have hU:Um m Zj i=(max (ownB m Zj i).1 (Zg (lo1 (Um m Zj)) (parts m i)),min (ownB m Zj i).2 (Zg (hi1 (Um m Zj)) (parts m i))):=Wz F (ownB m Zj) i0 i1 hp
   have hs0:=Z7 hnn
   by_cases c:(parts m i).map (Ya m)≠[]∧(∀s∈(parts m i).map (Ya m),s.2≠[])∧(Yr ((parts m i).map (Ya m))).1<10000
   ·unfold Vz
    rw[if_pos c,hsum,hU]
    have hall:∀p∈parts m i,(Ya m p).2≠[]:=fun p hp=>c.2.1 _ (List.mem_map.2 ⟨p,hp,rfl⟩)
    have c3:=c.2.2
    rw[hsum] at c3
    refine⟨by omega,hs0,⟨add_br g i0 (F.nodup i) fun p hp=>⟨(hpm p hp).2.2,(ih p hp).2.2.br⟩,fun h=>?_,fun _=>addL_of (wHi m) _ fun p hp=>(ih p hp).2.2.sum (hall p hp),fun _ w w0 w1 hw ha=>?_⟩,by simp only;omega⟩
    ·obtain⟨p,hp'⟩:=List.exists_mem_of_ne_nil _ hp
     obtain⟨a,ha⟩:=List.exists_mem_of_ne_nil _ (hall p hp')
     have:a∈(Yr ((parts m i).map (Ya m))).2:=(addL_mem _).2 ⟨p,hp',ha⟩
     rw[h] at this;simp at this
    ·have hwi:∃p∈parts m i,Anc (ZS m) w p:=by
      cases ha with
      |self=>exact absurd hw hp
      | @up k hk h0=>
       have hl:=hk.le F w0 w1
       exact⟨k,(F.mem _ _).2 ⟨hl.1,by omega,rfl⟩,hk⟩
     obtain⟨p,hp',hwp⟩:=hwi
     obtain⟨a,ha1,ha2⟩:=(ih p hp').2.2.all (hall p hp') w w0 w1 hw hwp
     exact⟨a,(addL_mem _).2 ⟨p,hp',ha1⟩,ha2⟩
   ·unfold Vz
    rw[if_neg c,hU]
    refine⟨by simp,by simp,Few.nil,?_⟩
    have hge:10000≤Zg (hi1 (Um m Zj)) (parts m i):=by
     by_cases k:∀s∈(parts m i).map (Ya m),s.2≠[]
     ·have:¬(Yr ((parts m i).map (Ya m))).1<10000:=fun h=>c ⟨by simpa using hp,k,h⟩
      rw[hsum] at this;omega
     ·obtain⟨p,hp',hs⟩:∃p∈parts m i,(Ya m p).2=[]:=Classical.byContradiction fun hno=>k fun s hs=>by
       obtain⟨p,hp',rfl⟩:=List.mem_map.1 hs
       exact fun e=>hno ⟨p,hp',e⟩
      have h1:=(ih p hp').2.2.none hs
      have h2:=(ih p hp').1
      have h3:=sumL_ge hnn hp'
      simp only[hi1] at h3
      have e:Zg (hi1 (Um m Zj)) (parts m i)=Zg (fun p=>(Um m Zj p).2) (parts m i):=rfl
      rw[e];omega
    simp only;omega
 have hv:=fewW_val (m:=m) (lot:=i) h0.1 m.wgs.length (Nat.le_refl _)
 rw[fewP_eq g i0 i1]
 refine⟨by rw[hv,←hown];exact h0.2.2.2,by rw[hv];omega,fewW_few h0.2.2.1 _ (Nat.le_refl _)⟩
theorem nodup_len:∀(k:Nat) {l:List Int},l.Nodup→(∀a∈l,0≤a∧a<k)→l.length≤k
 |0,l,_,h=>by
  cases l with
  |nil=>simp
  |cons a l=>have:=h a yfz;omega
 |k+1,l,hn,h=>by
  have ih:=nodup_len k (l:=l.erase (k:Int)) (hn.erase _) fun a ha=>by
   rw[hn.mem_erase_iff] at ha
   have:=h a ha.2
   have:=ha.1
   omega
  have:=List.length_erase (a:=(k:Int)) (l:=l)
  split at this<;>omega
theorem Br.len {lot:Int}{l:List Int}(b:Br m lot l):l.length≤m.wgs.length:=by
 refine nodup_len _ ?_ b.inw
 have:=b.ap
 unfold List.Nodup
 exact this.imp fun h e=>by subst e;exact h.1 .self
def Cover (m:Ml)(lot:Int)(high:List Int):Prop:=high=[]∨∀w:Int,0≤w→w<m.lots.length→parts m w=[]→Anc (ZS m) w lot→∃a∈high,Anc (ZS m) w (wl m a)
def Within (m:Ml)(lot:Int)(l:List Int):Prop:=∀a∈l,Anc (ZS m) (wl m a) lot
def InW (m:Ml)(l:List Int):Prop:=∀a∈l,0≤a∧a<m.wgs.length
def sumLow (m:Ml)(low:List Int):Int:=Zg (wLo m) low
def X7 (m:Ml)(high:List Int):Int:=if high=[] then 10000 else Zg (wHi m) high
def WV (m:Ml)(lot:Int)(low high:List Int):Prop:=(Within m lot low∧Within m lot high)∧(low.Pairwise (Apart m)∧high.Pairwise (Apart m))∧Cover m lot high
def ProofR (m:Ml)(lot:Int)(low high:List Int)(n e:Int):Prop:=
 (¬((0≤lot∧lot<m.lots.length)∧InW m low∧InW m high)∧n=0∧e=1)∨
 (((0≤lot∧lot<m.lots.length)∧InW m low∧InW m high)∧
  ((¬WV m lot low high∧n=0∧e=8)∨(WV m lot low high∧
   ((sumLow m low≤X7 m high∧n=0∧e=6)∨(X7 m high<sumLow m low∧n=sumLow m low-X7 m high∧e=0)))))
theorem ProofR.uniq {lot:Int}{low high:List Int}{n e n' e':Int}(a:ProofR m lot low high n e)(b:ProofR m lot low high n' e'):n=n'∧e=e':=by
 rcases a with⟨a,a1,a2⟩|⟨a,⟨a',a1,a2⟩|⟨a',⟨a'',a1,a2⟩|⟨a'',a1,a2⟩⟩⟩<;>rcases b with⟨b,b1,b2⟩|⟨b,⟨b',b1,b2⟩|⟨b',⟨b'',b1,b2⟩|⟨b'',b1,b2⟩⟩⟩
 all_goals first|exact absurd a b|exact absurd b a|exact absurd a' b'|exact absurd b' a'|(constructor<;>omega)
theorem found_holds (g:Good m){lot:Int}(l0:0≤lot)(l1:lot<m.lots.length)(h:(Ya m lot).1<(Yb m lot).1){n e:Int}(r:ProofR m lot (Yb m lot).2 (Ya m lot).2 n e):e=0∧1≤n:=by
 obtain⟨_,m2,m3⟩:=most_ok g lot l0 l1
 obtain⟨_,_,f⟩:=few_ok g lot l0 l1
 have hc:Cover m lot (Ya m lot).2:=by
  by_cases e:(Ya m lot).2=[]
  ·exact .inl e
  ·exact .inr (f.all e)
 have hp:WV m lot (Yb m lot).2 (Ya m lot).2:=⟨⟨m3.br,f.br.br⟩,⟨m3.ap,f.br.ap⟩,hc⟩
 have hs:X7 m (Ya m lot).2=(Ya m lot).1:=by
  unfold X7
  by_cases e:(Ya m lot).2=[]
  ·rw[if_pos e,f.none e]
  ·rw[if_neg e,f.sum e]
 have hl:sumLow m (Yb m lot).2=(Yb m lot).1:=m2.symm
 rcases r with⟨a,_⟩|⟨a,⟨b,_⟩|⟨b,⟨c,_⟩|⟨c,d1,d2⟩⟩⟩
 ·exact absurd ⟨⟨l0,l1⟩,m3.inw,f.br.inw⟩ a
 ·exact absurd hp b
 ·omega
 ·omega
theorem one_count {R:Int→Int→Prop}{p:Int→Bool}(hR:∀a b,p a=true→p b=true→¬R a b):∀{l:List Int},l.Pairwise R→(l.countP p=1↔∃a∈l,p a=true)
 |[],_=>by simp
 |a::l,h=>by
  rw[List.pairwise_cons] at h
  have ih:=one_count hR h.2
  by_cases c:p a=true
  ·have:l.countP p=0:=List.countP_eq_zero.2 fun b hb hp=>hR a b c hp (h.1 b hb)
   rw[List.countP_cons_of_pos c,this]
   simp[c]
  ·rw[List.countP_cons_of_neg c,ih]
   simp[c]
theorem cover_iff (g:Good m){lot:Int}{high:List Int}(hin:InW m high)(hap:high.Pairwise (Apart m)):Cover m lot high↔∀w:Int,0≤w→w<m.lots.length→parts m w=[]→lot∈line m w→high≠[]→high.countP (fun a=>decide (wl m a∈line m w))=1:=by
 have e:∀w:Int,0≤w→w<m.lots.length→(high.countP (fun a=>decide (wl m a∈line m w))=1↔∃a∈high,Anc (ZS m) w (wl m a)):=fun w w0 w1=>by
  rw[one_count (R:=Apart m) (fun a b ha hb hR=>?_) hap]
  ·simp only[decide_eq_true_eq,Xa g w0 w1]
  ·simp only[decide_eq_true_eq,Xa g w0 w1] at ha hb
   rcases anc_chain ha hb with h|h
   ·exact hR.1 h
   ·exact hR.2 h
 constructor
 ·rintro(h|h) w w0 w1 hw hl hne
  ·exact absurd h hne
  ·rw[e w w0 w1];exact h w w0 w1 hw ((Xa g w0 w1).1 hl)
 ·intro h
  by_cases hne:high=[]
  ·exact .inl hne
  ·exact .inr fun w w0 w1 hw ha=>(e w w0 w1).1 (h w w0 w1 hw ((Xa g w0 w1).2 ha) hne)
end
end Go.Ab.Tryz
namespace Go.Ab
theorem Zr.appn {h0 h:H}{x y:V}{sz by_:Nat}{rows new:List (List V)}{Q:V→H→Prop}(a:Zr h0 h x sz rows)(hw0:h0.wf)(hsz:∀r∈new,r.length=sz)
  (he:elems h sz y=some new.flatten) (hl:lenV y=some new.length) (ho:Z5 new.flatten=true) (h1:(rows.length+new.length)*by_≤1099511627776) (h2:rows.length+new.length≤1099511627776)
  (q:∀x' h',Zr h0 h' x' sz (rows++new)→Zq (Zs x) h h'→h.next≤h'.next→Q x' h') (h00:0<sz:=by omega):P2 (Xg h sz by_ x y) Q:=by
 by_cases hn:new=[]
 ·subst hn
  have q':=q x h (by rw[List.append_nil];exact a) (Zq.refl _ _) (Nat.le_refl _)
  have e:Xg h sz by_ x y=some (x,h):=by
   rw[Vi,he,hl]
   simp only[WZ,List.length_nil]
   rcases a.2.2 with⟨rfl,_⟩|⟨b,rfl,_,_,hb⟩
   ·rfl
   ·have hlen:=Zp a.2.1
    simp only[VS,slkOk,hb]
    have e1:Nat.beq sz sz=true:=by simp
    have e2:Nat.beq 0 (0*sz)=true:=by simp
    have e3:Nat.ble (0+rows.length*sz) (Xw rows.flatten)=true:=by rw[Yq,hlen];simp
    rw[e1];simp only
    rw[e2];simp only
    rw[e3];rfl
  rw[e,Xl];exact q'
 ·exact a.app hw0 hn hsz he hl ho h1 h2 fun h' o k n=>q _ _ o k yfc
namespace Tryz
open Go.Ab.Silk
def encS (e:Sm × V):List V:=[.ii e.1.1,e.2]
def SmsAt (h0 h:H)(l:List (Sm × V)):Prop:=∀e∈l,ZK h0 h e.2 1 (e.1.2.map encI)
theorem SmsAt.mono {h0 h h':H}{l:List (Sm × V)}(a:SmsAt h0 h l)(hs:h.Sub h'):SmsAt h0 h' l:=fun e he=>(a e he).mono hs
theorem allOne_ints:∀l:List Int,Z5 ((l.map encI).flatten)=true
 |[]=>rfl
 |a::l=>by simp only[List.map_cons,List.flatten_cons,encI,List.cons_append,List.nil_append];rw[Xr,allOne_ints l];rfl
theorem addL_bd {C:Int}:∀{l:List Sm},(∀s∈l,0≤s.1∧s.1≤C)→0≤(Yr l).1∧(Yr l).1≤(l.length:Int)*C
 |[],_=>by simp[Yr]
 |s::l,h=>by
  have ih:=addL_bd (C:=C) (l:=l) fun s hs=>h s (by simp[hs])
  have:=h s yfz
  simp only[Yr,List.length_cons,Int.natCast_add]
  rw[Int.add_mul];omega
theorem addL_len {k:Nat}:∀{l:List Sm},(∀s∈l,s.2.length≤k)→(Yr l).2.length≤l.length*k
 |[],_=>by simp[Yr]
 |s::l,h=>by
  have ih:=addL_len (k:=k) (l:=l) fun s hs=>h s (by simp[hs])
  have:=h s yfz
  simp only[Yr,List.length_append,List.length_cons]
  rw[Nat.add_mul];omega
theorem addL_take {l:List Sm}{j:Nat}(hj:j<l.length):Yr (l.take (j+1))=((Yr (l.take j)).1+l[j].1,(Yr (l.take j)).2++l[j].2):=by
 rw[List.take_succ_eq_append_getElem hj,addL_snoc]
set_option maxHeartbeats 2000000 in
theorem added_ev {h hb0:H}{x:V}{l:List (Sm × V)}(hw:h.wf)(hx:Zk h x 2 (l.map encS))(ha:SmsAt hb0 h l)(hl:l.length≤12)(hb:∀e∈l,0≤e.1.1∧e.1.1≤200000000000000000)(hn:∀e∈l,e.1.2.length≤10)(Q:V→H→Prop)
  (q:∀h' y,Zr h h' y 1 ((Yr (l.map Prod.fst)).2.map encI)→Q (.agg [.ii (Yr (l.map Prod.fst)).1,y]) h'):Ev fnG Zm (.fn 95 [] []) [x] h Q:=by
 have hlen:=hx.lenE
 refine Zf (fd:=c95) rfl rfl rfl ?_
 have s2:h.Sub ((h.add (.bk [.ii 0,.nils])).add (.bk [.ii 0,.nils])):=yfa
 obtain⟨r,er⟩:∃r,l.map Prod.fst=r:=⟨_,rfl⟩
 have hr:r.length=l.length:=by rw[←er];simp
 have hri:∀j (hj:j<l.length),(r[j]' yfc)=l[j].1:=fun j hj=>by subst er;simp
 have hb':∀s∈r,0≤s.1∧s.1≤200000000000000000:=fun s hs=>by
  rw[←er] at hs
  obtain⟨e,he,rfl⟩:=List.mem_map.1 hs
  exact hb e he
 have hn':∀s∈r,s.2.length≤10:=fun s hs=>by
  rw[←er] at hs
  obtain⟨e,he,rfl⟩:=List.mem_map.1 hs
  exact hn e he
 have bds:∀j,j≤l.length→0≤(Yr (r.take j)).1∧(Yr (r.take j)).1≤12*200000000000000000∧(Yr (r.take j)).2.length≤120:=fun j hj=>by
  have a1:=addL_bd (l:=r.take j) (C:=200000000000000000) fun s hs=>hb' s (List.mem_of_mem_take hs)
  have a2:=addL_len (l:=r.take j) (k:=10) fun s hs=>hn' s (List.mem_of_mem_take hs)
  rw[List.length_take] at a1 a2
  omega
 rw[er] at q
 simp(disch:=omega)only[c95,go_sem,hlen]
 refine Zi l.length (fun j s=>∃tm h' y,s=⟨tm,h',[]⟩∧Zr h h' y 1 ((Yr (r.take j)).2.map encI)∧h.next+1<h'.next∧h'.get h.next=some (.bk [.ii 0,.nils])∧h'.get (h.next+1)=some (.bk [.ii (Yr (r.take j)).1,y])∧
   tm.E 2=.ptr h.next 0∧tm.E 3=.ptr (h.next+1) 0∧tm.E 6=x∧tm.E 7=.ii (l.length:Int)∧tm.E 8=.ii (j:Int))
  ?_ ?_ (i:=0) (Nat.zero_le _) ⟨_,_,.nils,rfl,Zr.nil s2 1,by simp only[H.next_add];omega,by simp -implicitDefEqProofs(disch:=first|omega|simp only[nZ]<;>omega|fail)only[go_sem],by simp -implicitDefEqProofs(disch:=first|omega|simp only[nZ]<;>omega|fail)only[go_sem,List.take_zero,Yr],yfb,yfb,yfb,yfb,yfb⟩
 ·rintro j s hj ⟨tm,h',y,rfl,oy,lt,g2,g3,t2,t3,t6,t7,t8⟩
  have hj':(j:Int)<(l.length:Int):=by omega
  have hs:=oy.1
  have oe:=(ha _ (List.getElem_mem hj)).mono hs
  have o1:=oe.one
  have ay:=oy.sl (by have:=(bds j yfc).2.2;simp only[List.length_map];omega)
  have y1:=ay.one
  obtain⟨b2,o2,c2,cs2,eb,hcs2,hq2,hgg2,hn2,hn02⟩:=(hx.mono hs).at hj
  subst eb
  have hbb:b2<h'.next:=Vv hs.wf (hx.mono hs) yfq b2 ⟨_,_,_,rfl⟩
  have sA:h'.Sub (h'.add (.bk [.ii l[j].1.1,l[j].2])):=(H.Sub.refl hs.wf).add _
  have bj:=bds j yfc
  have bj1:=bds (j+1) yfc
  have e1:=addL_take (l:=r) (j:=j) yfc
  rw[hri j hj] at e1
  rw[e1] at bj1
  simp only[List.length_append] at bj1
  have ae:=(oe.mono sA).sl (by have:=hn _ (List.getElem_mem hj);simp only[List.length_map];omega)
  obtain⟨ae1,ae2⟩:=ae.elems
  simp(disch:=omega)only[go_sem,t2,t3,t6,t7,t8,hj',hq2 (Zb j),hcs2,hgg2,encS,o1,cells_one o1,Za g3,g3,ZD]
  refine(oy.mono sA).appn hw (new:=l[j].1.2.map encI) (fun r hr=>by(obtain⟨a,_,rfl⟩:=List.mem_map.1 hr;rfl)) ae1 ae2 (allOne_ints _) yfe yfe fun y' h5 o5 k5 n5=>?_
  have hg3:=k5.2 _ _ (sA.get g3) ((oy.mono sA).ne (sA.get g3))
  have hg2:=k5.2 _ _ (sA.get g2) ((oy.mono sA).ne (sA.get g2))
  have hgn:(h'.add (.bk [.ii l[j].1.1,l[j].2])).get h'.next=some (.bk [.ii l[j].1.1,l[j].2]):=Zo rfl
  have hgA:=k5.2 _ _ hgn ((oy.mono sA).ne hgn)
  have y1':=ZK.one o5.c
  simp only[H.next_add] at n5
  have lt5:h.next+1<h5.next:=by omega
  simp(disch:=omega)only[go_sem,t2,t3,t6,t7,t8,Za g3,Za hg3,Za hgA,hg3,y1',cells_one y1',Ze]
  exact⟨_,_,y',rfl,by rw[e1,List.map_append];exact o5.keep (Zq.set h5 (h.next+1) _) (o5.1.set yfc lt5 hw _) fun b hb e=>(o5.ne hg3) (e▸hb),by rw[H.next_set];exact lt5,by rw[get_set_other yfc];exact hg2,by rw[get_set_same rfl,e1],yff,yfg,yfj,yfi,yfb⟩
 ·rintro s ⟨tm,h',y,rfl,oy,lt,g2,g3,t2,t3,t6,t7,t8⟩
  rw[←hr,List.take_length] at oy g3
  have y1:=ZK.one oy.c
  simp(disch:=omega)only[go_sem,t2,t3,t6,t7,t8,Int.lt_irrefl,Za g3,g2,y1,cells_one y1]
  exact q _ y (oy.keep (Zq.set h' h.next _) (oy.1.set (Nat.le_refl _) yfc hw _) fun b hb e=>(oy.ne g2) (e▸hb))
def bigN:Nat→Int
 |0=>20000
 |k+1=>12*bigN k
theorem bigN_ge:∀k,20000≤bigN k
 |0=>Int.le_refl _
 |k+1=>by have:=bigN_ge k;simp only[bigN];omega
theorem sum_const (C:Int):∀l:List Int,Zg (fun _=>C) l=(l.length:Int)*C
 |[]=>by simp[Zg]
 |a::l=>by simp only[Zg,sum_const C l,List.length_cons,Int.natCast_add];rw[Int.add_mul];omega
theorem um_bigN {m:Ml}(g:Good m):∀(k:Nat) (i:Int),(m.lots.length:Int)-i≤k→0≤i→i<m.lots.length→(Um m Zj i).1≤bigN k:=by
 intro k
 induction k with
 |zero=>intro i h1 h2 h3;omega
 |succ k ih=>
  intro i hk i0 i1
  have F:=Zv g
  have hown:=ownB_at (c:=Zj) i0 i1
  have hbk:=ownK_bd g Zj i m.wgs.length
  have hge:=bigN_ge (k+1)
  by_cases hp:parts m i=[]
  ·have hU:Um m Zj i=ownB m Zj i:=Vu F _ i0 i1 hp
   rw[hU,hown];omega
  ·have hU:Um m Zj i=(max (ownB m Zj i).1 (Zg (lo1 (Um m Zj)) (parts m i)),min (ownB m Zj i).2 (Zg (hi1 (Um m Zj)) (parts m i))):=Wz F (ownB m Zj) i0 i1 hp
   have h1:Zg (lo1 (Um m Zj)) (parts m i)≤Zg (fun _=>bigN k) (parts m i):=ZU fun p hp=>by
    obtain⟨p0,p1,pf⟩:=(F.mem _ _).1 hp
    have:=F.lt p p0 p1
    exact ih p yfc p0 p1
   rw[sum_const] at h1
   have h2:=bigN_ge k
   have h3:((parts m i).length:Int)*bigN k≤12*bigN k:=Int.mul_le_mul_of_nonneg_right (by have:=ZV m i;have:=g.lots;omega) yfc
   have h4:bigN (k+1)=12*bigN k:=rfl
   rw[hU,hown];simp only;omega
theorem most_bd {m:Ml}(g:Good m){i:Int}(i0:0≤i)(i1:i<m.lots.length):0≤(Yb m i).1∧(Yb m i).1≤200000000000000000∧(Yb m i).2.length≤10:=by
 obtain⟨h1,_,h3⟩:=most_ok g i i0 i1
 have h4:=um_bigN g 12 i (by have:=g.lots;omega) i0 i1
 have h5:bigN 12=178322008965120000:=by decide
 have h6:=Um_bd g Zj i0 i1
 have h7:=h3.len
 have h8:=g.wgs
 rw[h1];omega
theorem few_bd {m:Ml}(g:Good m){i:Int}(i0:0≤i)(i1:i<m.lots.length):0≤(Ya m i).1∧(Ya m i).1≤200000000000000000∧(Ya m i).2.length≤10:=by
 obtain⟨h1,h2,h3⟩:=few_ok g i i0 i1
 have h6:=Um_bd g Zj i0 i1
 have h7:=h3.br.len
 have h8:=g.wgs
 omega
theorem bsl1_own {h0 h:H}(hs:h0.Sub h)(i:Int):ZK h0 (h.add (.bk [.ii i])) (.sl h.next 0 1 (.fix 1)) 1 ([i].map encI):=
 ⟨hs.add _,fun r hr=>by(obtain⟨a,_,rfl⟩:=List.mem_map.1 hr;rfl),.inr (.inr ⟨h.next,1,[],rfl,hs.next,by rw[H.next_add];omega,Zo rfl,rfl,Nat.le_refl _⟩)⟩
set_option maxHeartbeats 4000000 in
theorem most_ev {m:Ml}(g:Good m):∀(k:Nat) {h:H} {d:Nat} (lot:Nat),m.lots.length-lot≤k→lot<m.lots.length→h.wf→WL h d m→∀(Q:V→H→Prop),
  (∀h' x,ZK h h' x 1 ((Yb m (lot:Int)).2.map encI)→Q (.agg [.ii (Yb m (lot:Int)).1,x]) h')→Ev fnG Zm (.fn 38 [] []) [.ptr d 0,.ii (lot:Int)] h Q:=by
 intro k
 induction k with
 |zero=>intro h d lot h1 h2;omega
 |succ k ih=>
  intro h d lot hk hlot hw hd Q q
  have F:=Zv g
  have gl:=g.lots
  have gw:=g.wgs
  have hd0:=hd
  obtain⟨pm,l,L,W,g1,g2,aL,aW,ap⟩:=hd
  have hl0:(0:Int)≤(lot:Int):=by omega
  have hl1:(lot:Int)<(m.lots.length:Int):=by omega
  refine Zf (fd:=c38) rfl rfl rfl ?_
  have s1:h.Sub (h.add (.bk [.ii 0,.nils])):=yfa
  have hap:=ap (lot:Int)
  have hlp:=ZV m (lot:Int)
  have hlenP:=hap.lenE
  obtain⟨ps,eps⟩:∃ps,parts m (lot:Int)=ps:=⟨_,rfl⟩
  obtain⟨X,eX⟩:∃X,found .nils false (lkA (lot:Int) l)=X:=⟨_,rfl⟩
  rw[eX] at hlenP hap
  rw[eps] at hlp hlenP hap
  have hpsm:∀p∈ps,0≤p∧p<m.lots.length∧(lot:Int)<p:=fun p hp=>by
   obtain⟨p0,p1,pf⟩:=(F.mem (lot:Int) p).1 (by rw[eps];exact hp)
   have:=F.lt p p0 p1
   omega
  simp(disch:=omega)only[c38,go_sem,Za (s1.get g1),s1.get g2,eX,hlenP]
  refine Zi ps.length (fun j s=>∃tm h' lv ls,s=⟨tm,h',[]⟩∧Zr h h' lv 2 (ls.map encS)∧SmsAt h h' ls∧ls.map Prod.fst=(ps.take j).map (Yb m)∧h.next<h'.next∧h'.get h.next=some (.bk [.ii 0,.nils])∧
    tm.E 0=.ptr d 0∧tm.E 1=.ii (lot:Int)∧tm.E 4=.ptr h.next 0∧tm.E 5=lv∧tm.E 17=X∧tm.E 18=.ii (ps.length:Int)∧tm.E 19=.ii (j:Int))
   ?_ ?_ (i:=0) (Nat.zero_le _) ⟨_,_,.nils,[],rfl,Zr.nil s1 2,fun e he=>by simp at he,rfl,by simp only[H.next_add];omega,by simp(disch:=omega)only[go_sem],yfb,yfb,yfb,yfb,yfb,yfb,yfb⟩
  ·rintro j s hj ⟨tm,h',lv,ls,rfl,olv,sms,els,lt,g4,t0,t1,t4,t5,t17,t18,t19⟩
   have hj':(j:Int)<(ps.length:Int):=by omega
   have hs:=olv.1
   have hll:ls.length=j:=by have:=congrArg List.length els;simp only[List.length_map,List.length_take] at this;omega
   obtain⟨b2,o2,c2,cs2,eb,hcs2,hq2,hgg2,hn2,hn02⟩:=(hap.mono hs).at hj
   subst eb
   obtain⟨p0,p1,p2⟩:=hpsm _ (List.getElem_mem hj)
   obtain⟨p,ep⟩:=Int.eq_ofNat_of_zero_le p0
   simp(disch:=omega)only[go_sem,t0,t1,t4,t5,t17,t18,t19,hj',hq2 (Zb j),hcs2,hn02 yfc,encI,ep]
   refine ih p yfc yfc hs.wf (hd0.mono hs) _ fun h5 x o5=>?_
   have s5:=o5.1
   have l5:=s5.next
   have x1:=o5.one
   have sA:=(H.Sub.refl s5.wf).add (.bk [.ii (Yb m (p:Int)).1,x])
   have sB:=s5.trans sA
   have ws:∀b,Zs lv b→∀e∈ls,¬Zs e.2 b:=fun b hb e he he2=>by
    obtain⟨_,_,kd,cs,hg,hk⟩:=(sms e he).blk he2
    have hg2:=(olv.blk hb).2.2
    rw[hg2] at hg
    injection hg with hg;injection hg with hg3 _
    rcases hk with rfl|rfl<;>cases hg3
   have wx:∀b,Zs lv b→¬Zs x b:=fun b hb hb2=>by
    have a1:=(olv.blk hb).2.1
    have a2:=(o5.blk hb2).1
    omega
   simp(disch:=omega)only[go_sem,x1,cells_one x1]
   refine(olv.mono sB).app1 (r:=encS (Yb m (p:Int),x)) hw rfl yfc (Zk.new _ rfl rfl (by simp[encS]) (by simp[encS]) yfz) (by simp only[encS];rw[Xr,Xr,x1];rfl) yfe yfe fun h6 o6 k6 n6=>?_
   have g46:=k6.2 _ _ (sB.get g4) ((olv.mono sB).ne (sB.get g4))
   simp(disch:=omega)only[go_sem,t0,t1,t4,t5,t17,t18,t19,Ze]
   simp only[H.next_add] at n6 o6
   refine⟨_,_,_,ls++[(Yb m (p:Int),x)],rfl,by rw[List.map_append];exact o6,?_,?_,by omega,g46,yfk,yfd,yfh,yfb,yfA,(by simp[Zn,Zd,t18]<;>rfl),yfb⟩
   ·intro e he
    rw[List.mem_append,List.mem_singleton] at he
    rcases he with he|rfl
    ·exact((sms e he).mono sB).keep k6 o6.1 fun b hb hb2=>ws b hb2 e he hb
    ·exact((o5.base hs).mono sA).keep k6 o6.1 fun b hb hb2=>wx b hb2 hb
   ·rw[List.map_append,els,List.take_succ_eq_append_getElem hj,List.map_append,ep];rfl
  ·rintro s ⟨tm,h',lv,ls,rfl,olv,sms,els,lt,g4,t0,t1,t4,t5,t17,t18,t19⟩
   rw[List.take_length] at els
   have hs:=olv.1
   have hll:ls.length=ps.length:=by have:=congrArg List.length els;simpa using this
   have hmem:∀e∈ls,∃p∈ps,Yb m p=e.1:=fun e he=>by
    have:e.1∈ls.map Prod.fst:=List.mem_map_of_mem he
    rw[els] at this
    obtain⟨p,hp,e'⟩:=List.mem_map.1 this
    exact⟨p,hp,e'⟩
   have bd:∀e∈ls,0≤e.1.1∧e.1.1≤200000000000000000∧e.1.2.length≤10:=fun e he=>by
    obtain⟨p,hp,e'⟩:=hmem e he
    rw[←e'];exact most_bd g (hpsm p hp).1 (hpsm p hp).2.1
   simp(disch:=omega)only[go_sem,t0,t1,t4,t5,t17,t18,t19,Int.lt_irrefl]
   refine added_ev hs.wf (olv.sl yfe) sms yfc (fun e he=>⟨(bd e he).1,(bd e he).2.1⟩) (fun e he=>(bd e he).2.2) _ fun h5 y o5=>?_
   rw[els]
   rw[els] at o5
   have s5:=o5.1
   have hs5:=hs.trans s5
   have l5:=s5.next
   have g45:=s5.get g4
   have y1:=ZK.one o5.c
   have hP:Yb m (lot:Int)=XS m (lot:Int) m.wgs.length (Yr (ps.map (Yb m))):=by rw[mostP_eq g hl0 hl1,eps]
   obtain⟨S0,eS⟩:∃S0,Yr (ps.map (Yb m))=S0:=⟨_,rfl⟩
   rw[eS] at o5 hP
   rw[eS]
   have s6:h5.Sub (h5.add (.bk [.ii S0.1,y])):=(H.Sub.refl s5.wf).add _
   have sW:=hs5.trans s6
   simp(disch:=omega)only[go_sem,t0,t1,t4,y1,cells_one y1,Za (sW.get g1),aW.lenE]
   refine Zi m.wgs.length (fun j s=>∃tm h' y,s=⟨tm,h',[]⟩∧ZK h h' y 1 ((XS m (lot:Int) j S0).2.map encI)∧(∀b,Zs y b→b≠h5.next∧h.next<b)∧h5.next<h'.next∧h'.get h.next=some (.bk [.ii 0,.nils])∧h'.get h5.next=some (.bk [.ii (XS m (lot:Int) j S0).1,y])∧
     tm.E 0=.ptr d 0∧tm.E 1=.ii (lot:Int)∧tm.E 4=.ptr h.next 0∧tm.E 8=.ptr h5.next 0∧tm.E 36=W∧tm.E 37=.ii (m.wgs.length:Int)∧tm.E 38=.ii (j:Int))
    ?_ ?_ (i:=0) (Nat.zero_le _) ⟨_,_,y,rfl,(o5.c.base hs).mono s6,fun b hb=>by have:=o5.blk hb;omega,by simp only[H.next_add];omega,s6.get g45,by rw[Zo rfl];rfl,yfk,yfd,yfh,yfb,yfb,yfb,yfb⟩
   ·clear t0 t1 t4 t5 t17 t18 t19
    rintro j s hj ⟨tm,h',y,rfl,oy,ny,lt',g4',g8,t0,t1,t4,t8,t36,t37,t38⟩
    have hj':(j:Int)<(m.wgs.length:Int):=by omega
    have hs':=oy.1
    have y1:=oy.one
    obtain⟨b2,o2,c2,cs2,eb,hcs2,hq2,hgg2,hn2,hn02⟩:=(aW.mono hs').at hj
    subst eb
    have hbb:b2<h'.next:=Vv hs'.wf (aW.mono hs') yfq b2 ⟨_,_,_,rfl⟩
    have est:XS m (lot:Int) (j+1) S0=if wl m (j:Int)=(lot:Int)∧(XS m (lot:Int) j S0).1<wLo m (j:Int) then(wLo m (j:Int),[(j:Int)]) else XS m (lot:Int) j S0:=rfl
    rw[wl_at hj,wLo_at hj] at est
    have sA:h'.Sub (h'.add (.bk [.ii m.wgs[j].lot,.ii m.wgs[j].reads,.ii m.wgs[j].lo,.ii m.wgs[j].hi])):=(H.Sub.refl hs'.wf).add _
    have gA:(h'.add (.bk [.ii m.wgs[j].lot,.ii m.wgs[j].reads,.ii m.wgs[j].lo,.ii m.wgs[j].hi])).cells h'.next=some [.ii m.wgs[j].lot,.ii m.wgs[j].reads,.ii m.wgs[j].lo,.ii m.wgs[j].hi]:=Zh rfl
    simp(disch:=omega)only[go_sem,t0,t1,t4,t8,t36,t37,t38,hj',hq2 (Zb j),hcs2,hgg2,Zy]
    refine(V3 (hs'.trans sA).wf (hd0.mono (hs'.trans sA)) g hj).mono fun u h6 hu=>?_
    obtain⟨rfl,s6'⟩:=hu
    have sB:=sA.trans s6'
    have l6:=sB.next
    have l6':=s6'.next
    simp only[H.next_add] at l6'
    have gA6:=s6'.cells gA
    have g86:=sB.get g8
    have g46:=sB.get g4'
    have sC:h6.Sub (h6.add (.bk [.ii (Z8 m m.wgs[j]),.ii (Z1 m m.wgs[j])])):=(H.Sub.refl (hs'.trans sB).wf).add _
    by_cases c1:m.wgs[j].lot=(lot:Int)
    ·by_cases c2:(XS m (lot:Int) j S0).1<Z8 m m.wgs[j]
     ·rw[if_pos ⟨c1,c2⟩] at est
      have w6:=(hs'.trans sB).wf
      have sD:=(sC.add (.bk [.ii (j:Int)]))
      have hsD:=(hs'.trans sB).trans sD
      simp -implicitDefEqProofs(disch:=first|omega|simp only[nZ]<;>omega|fail)only[go_sem,t0,t1,t4,t8,t36,t37,t38,gA6,c1,c2,Za g86,g86,Ze]
      refine⟨_,_,.sl (h6.next+1) 0 1 (.fix 1),rfl,?_,?_,by simp only[H.next_set,H.next_add];omega,by rw[get_set_other yfc];exact sD.get g46,by rw[est,get_set_same rfl],yfk,yfd,yfh,yfl,yfr,yfs,yfb⟩
      ·rw[est]
       have:=(bsl1_own ((hs'.trans sB).trans sC) (j:Int)).keep (Zq.set _ h5.next (.bk [.ii (Z8 m m.wgs[j]),.sl (h6.next+1) 0 1 (.fix 1)])) (H.Sub.set hsD yfc (by simp only[H.next_add];omega) hw _) (fun b hb e=>by obtain⟨_,_,_,e2⟩:=hb;cases e2;simp only[H.next_add] at e;omega)
       rw[H.next_add] at this
       exact this
      ·intro b hb;obtain⟨_,_,_,e2⟩:=hb;cases e2;have:=hs5.next;omega
     ·rw[if_neg (fun h=>c2 h.2)] at est
      simp(disch:=omega)only[go_sem,t0,t1,t4,t8,t36,t37,t38,gA6,c1,c2,Za g86,Ze]
      exact⟨_,_,y,rfl,by rw[est];exact oy.mono (sB.trans sC),ny,by simp only[H.next_add];omega,(sB.trans sC).get g4',by rw[est];exact(sB.trans sC).get g8,yfk,yfd,yfh,yfl,yfr,yfs,yfb⟩
    ·rw[if_neg (fun h=>c1 h.1)] at est
     simp(disch:=omega)only[go_sem,t0,t1,t4,t8,t36,t37,t38,gA6,c1,Ze]
     exact⟨_,_,y,rfl,by rw[est];exact oy.mono (sB.trans sC),ny,by simp only[H.next_add];omega,(sB.trans sC).get g4',by rw[est];exact(sB.trans sC).get g8,yfk,yfd,yfh,yfl,yfr,yfs,yfb⟩
   ·clear t0 t1 t4 t5 t17 t18 t19
    rintro s ⟨tm,h',y,rfl,oy,ny,lt',g4',g8,t0,t1,t4,t8,t36,t37,t38⟩
    have y1:=oy.one
    rw[←hP] at oy g8
    simp(disch:=omega)only[go_sem,t0,t1,t4,t8,t36,t37,t38,Int.lt_irrefl,Za g8,g4',y1,cells_one y1]
    refine q _ y (oy.keep (Zq.set h' h.next _) (oy.1.set (Nat.le_refl _) (by have:=hs5.next;omega) hw _) fun b hb e=>by have:=(ny b hb).2;omega)
theorem few1_pure {h:H}{h1 h2:H}{e:Sm × V}(o:ZK h1 h2 e.2 1 (e.1.2.map encI))(hl:e.1.2.length≤10):Yy h (.fn 97 [] []) [.agg (encS e)] (.bool (decide (0<(e.1.2.length:Int)))):=fun hA hs=>by
 have hlen:=(o.sl yfe).lenE
 refine Zf (fd:=c97) rfl rfl rfl ?_
 simp(disch:=omega)only[c97,go_sem,encS,hlen]
 exact(H.Sub.refl hs.wf).add _
set_option maxHeartbeats 4000000 in
theorem few_ev {m:Ml}(g:Good m):∀(k:Nat) {h:H} {d:Nat} (lot:Nat),m.lots.length-lot≤k→lot<m.lots.length→h.wf→WL h d m→∀(Q:V→H→Prop),
  (∀h' x,ZK h h' x 1 ((Ya m (lot:Int)).2.map encI)→Q (.agg [.ii (Ya m (lot:Int)).1,x]) h')→Ev fnG Zm (.fn 39 [] []) [.ptr d 0,.ii (lot:Int)] h Q:=by
 intro k
 induction k with
 |zero=>intro h d lot h1 h2;omega
 |succ k ih=>
  intro h d lot hk hlot hw hd Q q
  have F:=Zv g
  have gl:=g.lots
  have gw:=g.wgs
  have hd0:=hd
  obtain⟨pm,l,L,W,g1,g2,aL,aW,ap⟩:=hd
  have hl0:(0:Int)≤(lot:Int):=by omega
  have hl1:(lot:Int)<(m.lots.length:Int):=by omega
  refine Zf (fd:=c39) rfl rfl rfl ?_
  have s1:h.Sub ((h.add (.bk [.ii 0,.nils])).add (.bk [.ii 10000,.nils])):=yfa
  have hap:=ap (lot:Int)
  have hlp:=ZV m (lot:Int)
  have hlenP:=hap.lenE
  obtain⟨ps,eps⟩:∃ps,parts m (lot:Int)=ps:=⟨_,rfl⟩
  obtain⟨X,eX⟩:∃X,found .nils false (lkA (lot:Int) l)=X:=⟨_,rfl⟩
  rw[eX] at hlenP hap
  rw[eps] at hlp hlenP hap
  have hpsm:∀p∈ps,0≤p∧p<m.lots.length∧(lot:Int)<p:=fun p hp=>by
   obtain⟨p0,p1,pf⟩:=(F.mem (lot:Int) p).1 (by rw[eps];exact hp)
   have:=F.lt p p0 p1
   omega
  obtain⟨J,hJ⟩:∃J:St→Prop,∀s,J s↔∃tm h' y,s=⟨tm,h',[]⟩∧ZK h h' y 1 ((Vz (ps.map (Ya m))).2.map encI)∧(∀b,Zs y b→b≠h.next+1∧h.next<b)∧h.next+1<h'.next∧h'.get h.next=some (.bk [.ii 0,.nils])∧h'.get (h.next+1)=some (.bk [.ii (Vz (ps.map (Ya m))).1,y])∧
    tm.E 0=.ptr d 0∧tm.E 1=.ii (lot:Int)∧tm.E 4=.ptr h.next 0∧tm.E 5=.ptr (h.next+1) 0:=⟨_,fun s=>Iff.rfl⟩
  simp only[c39]
  rw[Up,Up,Up,Up,W_seq]
  refine W_cut J ?_ ?_
  ·simp -implicitDefEqProofs(disch:=first|omega|simp only[nZ]<;>omega|fail)only[go_sem,Za (s1.get g1),s1.get g2,eX,hlenP]
   refine Zi ps.length (fun j s=>∃tm h' lv ls,s=⟨tm,h',[]⟩∧Zr h h' lv 2 (ls.map encS)∧SmsAt h h' ls∧ls.map Prod.fst=(ps.take j).map (Ya m)∧h.next+1<h'.next∧h'.get h.next=some (.bk [.ii 0,.nils])∧h'.get (h.next+1)=some (.bk [.ii 10000,.nils])∧
     tm.E 0=.ptr d 0∧tm.E 1=.ii (lot:Int)∧tm.E 4=.ptr h.next 0∧tm.E 5=.ptr (h.next+1) 0∧tm.E 6=lv∧tm.E 19=X∧tm.E 20=.ii (ps.length:Int)∧tm.E 21=.ii (j:Int))
    ?_ ?_ (i:=0) (Nat.zero_le _) ⟨_,_,.nils,[],rfl,Zr.nil s1 2,fun e he=>by simp at he,rfl,by simp only[H.next_add];omega,by simp -implicitDefEqProofs(maxSteps:=999999)(disch:=first|with_reducible rfl|omega|(simp only[nA,nS,nD]<;>omega)|fail)only[go_sem],by simp -implicitDefEqProofs(maxSteps:=999999)(disch:=first|with_reducible rfl|omega|(simp only[nA,nS,nD]<;>omega)|fail)only[go_sem],yfb,yfb,yfb,yfb,yfb,yfb,yfb,yfb⟩
   ·rintro j s hj ⟨tm,h',lv,ls,rfl,olv,sms,els,lt,g4,g5,t0,t1,t4,t5,t6,t19,t20,t21⟩
    have hj':(j:Int)<(ps.length:Int):=by omega
    have hs:=olv.1
    have hll:ls.length=j:=by have:=congrArg List.length els;simp only[List.length_map,List.length_take] at this;omega
    obtain⟨b2,o2,c2,cs2,eb,hcs2,hq2,hgg2,hn2,hn02⟩:=(hap.mono hs).at hj
    subst eb
    obtain⟨p0,p1,p2⟩:=hpsm _ (List.getElem_mem hj)
    obtain⟨p,ep⟩:=Int.eq_ofNat_of_zero_le p0
    simp(disch:=omega)only[go_sem,t0,t1,t4,t5,t6,t19,t20,t21,hj',hq2 (Zb j),hcs2,hn02 yfc,encI,ep]
    refine ih p yfc yfc hs.wf (hd0.mono hs) _ fun h5 x o5=>?_
    have s5:=o5.1
    have l5:=s5.next
    have x1:=o5.one
    have sA:=(H.Sub.refl s5.wf).add (.bk [.ii (Ya m (p:Int)).1,x])
    have sB:=s5.trans sA
    have ws:∀b,Zs lv b→∀e∈ls,¬Zs e.2 b:=fun b hb e he he2=>by
     obtain⟨_,_,kd,cs,hg,hk⟩:=(sms e he).blk he2
     have hg2:=(olv.blk hb).2.2
     rw[hg2] at hg
     injection hg with hg;injection hg with hg3 _
     rcases hk with rfl|rfl<;>cases hg3
    have wx:∀b,Zs lv b→¬Zs x b:=fun b hb hb2=>by
     have a1:=(olv.blk hb).2.1
     have a2:=(o5.blk hb2).1
     omega
    simp(disch:=omega)only[go_sem,x1,cells_one x1]
    refine(olv.mono sB).app1 (r:=encS (Ya m (p:Int),x)) hw rfl yfc (Zk.new _ rfl rfl (by simp[encS]) (by simp[encS]) yfz) (by simp only[encS];rw[Xr,Xr,x1];rfl) yfe yfe fun h6 o6 k6 n6=>?_
    have g46:=k6.2 _ _ (sB.get g4) ((olv.mono sB).ne (sB.get g4))
    have g56:=k6.2 _ _ (sB.get g5) ((olv.mono sB).ne (sB.get g5))
    simp(disch:=omega)only[go_sem,t0,t1,t4,t5,t6,t19,t20,t21,Ze]
    simp only[H.next_add] at n6 o6
    refine⟨_,_,_,ls++[(Ya m (p:Int),x)],rfl,by rw[List.map_append];exact o6,?_,?_,by omega,g46,g56,yfk,yfd,yfh,yfm,yfb,(by simp[Zn,Zd,t19]<;>rfl),yfB,yfb⟩
    ·intro e he
     rw[List.mem_append,List.mem_singleton] at he
     rcases he with he|rfl
     ·exact((sms e he).mono sB).keep k6 o6.1 fun b hb hb2=>ws b hb2 e he hb
     ·exact((o5.base hs).mono sA).keep k6 o6.1 fun b hb hb2=>wx b hb2 hb
    ·rw[List.map_append,els,List.take_succ_eq_append_getElem hj,List.map_append,ep];rfl
   ·rintro s ⟨tm,h',lv,ls,rfl,olv,sms,els,lt,g4,g5,t0,t1,t4,t5,t6,t19,t20,t21⟩
    rw[List.take_length] at els
    have hs:=olv.1
    have hll:ls.length=ps.length:=by have:=congrArg List.length els;simpa using this
    have hmem:∀e∈ls,∃p∈ps,Ya m p=e.1:=fun e he=>by
     have:e.1∈ls.map Prod.fst:=List.mem_map_of_mem he
     rw[els] at this
     obtain⟨p,hp,e'⟩:=List.mem_map.1 this
     exact⟨p,hp,e'⟩
    have bd:∀e∈ls,0≤e.1.1∧e.1.1≤200000000000000000∧e.1.2.length≤10:=fun e he=>by
     obtain⟨p,hp,e'⟩:=hmem e he
     rw[←e'];exact few_bd g (hpsm p hp).1 (hpsm p hp).2.1
    have alv:=olv.sl yfe
    have hlenV:=alv.lenE
    simp(disch:=omega)only[go_sem,t0,t1,t4,t5,t6,t19,t20,t21,Int.lt_irrefl]
    refine added_ev hs.wf alv sms yfc (fun e he=>⟨(bd e he).1,(bd e he).2.1⟩) (fun e he=>(bd e he).2.2) _ fun h5 y o5=>?_
    rw[els]
    rw[els] at o5
    have s5:=o5.1
    have hs5:=hs.trans s5
    have l5:=s5.next
    have y1:=ZK.one o5.c
    obtain⟨S0,eS⟩:∃S0,Yr (ps.map (Ya m))=S0:=⟨_,rfl⟩
    rw[eS] at o5
    rw[eS]
    have s6:h5.Sub (h5.add (.bk [.ii S0.1,y])):=(H.Sub.refl s5.wf).add _
    have g9:(h5.add (.bk [.ii S0.1,y])).get h5.next=some (.bk [.ii S0.1,y]):=Zo rfl
    have hne:ps.map (Ya m)≠[]↔0<(ls.length:Int):=by
     rw[hll]
     constructor
     ·intro h
      have:ps≠[]:=fun e=>h (by rw[e];rfl)
      have:=List.length_pos_iff.2 this;omega
     ·intro h e
      rw[List.map_eq_nil_iff] at e;rw[e] at h;simp at h
    have hall:(ls.all fun e=>decide (0<(e.1.2.length:Int)))=true↔∀s∈ps.map (Ya m),s.2≠[]:=by
     rw[←els,List.all_eq_true]
     constructor
     ·intro h s hs
      obtain⟨e,he,rfl⟩:=List.mem_map.1 hs
      have:=h e he
      rw[decide_eq_true_eq] at this
      intro e0;rw[e0] at this;simp at this
     ·intro h e he
      rw[decide_eq_true_eq]
      have:=List.length_pos_iff.2 (h e.1 (List.mem_map_of_mem he));omega
    by_cases c1:0<(ls.length:Int)
    ·simp(disch:=omega)only[go_sem,t0,t1,t4,t5,t6,y1,cells_one y1,hlenV,c1]
     refine(everySum_ev (p:=fun e=>decide (0<(e.1.2.length:Int))) (s5.trans s6).wf (alv.mono (s5.trans s6)) fun e he=>few1_pure (sms e he) (bd e he).2.2).mono fun u h7 hu=>?_
     obtain⟨rfl,s67⟩:=hu
     have s57:=s6.trans s67
     have s7:=hs5.trans s57
     have l7:=s57.next
     have l67:=s67.next
     simp only[H.next_add] at l67
     have g97:=s67.get g9
     have g57:=(s5.trans s57).get g5
     have g47:=(s5.trans s57).get g4
     cases c2:(ls.all fun e=>decide (0<(e.1.2.length:Int)))
     ·have hn:Vz (ps.map (Ya m))=(10000,[]):=by
       unfold Vz;rw[if_neg fun h=>by rw[hall.2 h.2.1] at c2;cases c2]
      simp(disch:=omega)only[go_sem,t0,t1,t4,t5,t6]
      exact⟨rfl,(hJ _).2 ⟨_,_,.nils,rfl,by rw[hn];exact(Zr.nil s7 1).c,fun b hb=>(ZE hb).elim,by omega,g47,by rw[hn];exact g57,yfk,yfd,yfh,yfm⟩⟩
     ·by_cases c3:S0.1<10000
      ·have hn:Vz (ps.map (Ya m))=S0:=by
        unfold Vz;rw[if_pos ⟨hne.2 c1,hall.1 c2,by rw[eS];exact c3⟩,eS]
       simp(disch:=omega)only[go_sem,t0,t1,t4,t5,t6,Za g97,Za g57,c3,y1,cells_one y1,g57]
       have o7:=(o5.c.base hs).mono s57
       have ny:∀b,Zs y b→b≠h.next+1∧h.next<b:=fun b hb=>by have:=(o5.blk hb).1;omega
       exact⟨rfl,(hJ _).2 ⟨_,_,y,rfl,by rw[hn];exact o7.keep (Zq.set h7 (h.next+1) _) (s7.set yfc yfc hw _) fun b hb e=>(ny b hb).1 e,ny,by rw[H.next_set];omega,by rw[get_set_other yfc];exact g47,by rw[hn,get_set_same rfl],yfk,yfd,yfh,yfm⟩⟩
      ·have hn:Vz (ps.map (Ya m))=(10000,[]):=by
        unfold Vz;rw[if_neg fun h=>c3 (by rw[←eS];exact h.2.2)]
       simp(disch:=omega)only[go_sem,t0,t1,t4,t5,t6,Za g97,Za g57,c3]
       exact⟨rfl,(hJ _).2 ⟨_,_,.nils,rfl,by rw[hn];exact(Zr.nil s7 1).c,fun b hb=>(ZE hb).elim,by omega,g47,by rw[hn];exact g57,yfk,yfd,yfh,yfm⟩⟩
    ·have hn:Vz (ps.map (Ya m))=(10000,[]):=by
      unfold Vz;rw[if_neg fun h=>c1 (hne.1 h.1)]
     simp(disch:=omega)only[go_sem,t0,t1,t4,t5,t6,y1,cells_one y1,hlenV,c1]
     exact⟨rfl,(hJ _).2 ⟨_,_,.nils,rfl,by rw[hn];exact(Zr.nil (hs5.trans s6) 1).c,fun b hb=>(ZE hb).elim,by simp only[H.next_add];omega,(s5.trans s6).get g4,by rw[hn];exact(s5.trans s6).get g5,yfk,yfd,yfh,yfm⟩⟩
  ·intro s hs
   obtain⟨tm,h5,y,rfl,oy,ny,lt,g4,g5,t0,t1,t4,t5⟩:=(hJ s).1 hs
   have hP:Ya m (lot:Int)=fewW m (lot:Int) m.wgs.length (Vz (ps.map (Ya m))):=by rw[fewP_eq g hl0 hl1,eps]
   obtain⟨S0,eS⟩:∃S0,Vz (ps.map (Ya m))=S0:=⟨_,rfl⟩
   rw[eS] at oy g5 hP
   have hs5:=oy.1
   simp(disch:=omega)only[go_sem,t0,t1,t4,t5,Za (hs5.get g1),aW.lenE]
   refine Zi m.wgs.length (fun j s=>∃tm h' y,s=⟨tm,h',[]⟩∧ZK h h' y 1 ((fewW m (lot:Int) j S0).2.map encI)∧(∀b,Zs y b→b≠h.next+1∧h.next<b)∧h.next+1<h'.next∧h'.get h.next=some (.bk [.ii 0,.nils])∧h'.get (h.next+1)=some (.bk [.ii (fewW m (lot:Int) j S0).1,y])∧
     tm.E 0=.ptr d 0∧tm.E 1=.ii (lot:Int)∧tm.E 4=.ptr h.next 0∧tm.E 5=.ptr (h.next+1) 0∧tm.E 53=W∧tm.E 54=.ii (m.wgs.length:Int)∧tm.E 55=.ii (j:Int))
    ?_ ?_ (i:=0) (Nat.zero_le _) ⟨_,_,y,rfl,oy,ny,lt,g4,g5,yfk,yfd,yfh,yfm,yfb,yfb,yfb⟩
   ·clear t0 t1 t4 t5 oy ny lt g4 g5
    rintro j s hj ⟨tm,h',y,rfl,oy,ny,lt',g4',g8,t0,t1,t4,t8,t36,t37,t38⟩
    have hj':(j:Int)<(m.wgs.length:Int):=by omega
    have hs':=oy.1
    have y1:=oy.one
    obtain⟨b2,o2,c2,cs2,eb,hcs2,hq2,hgg2,hn2,hn02⟩:=(aW.mono hs').at hj
    subst eb
    have hbb:b2<h'.next:=Vv hs'.wf (aW.mono hs') yfq b2 ⟨_,_,_,rfl⟩
    have est:fewW m (lot:Int) (j+1) S0=if wl m (j:Int)=(lot:Int)∧wHi m (j:Int)<(fewW m (lot:Int) j S0).1 then(wHi m (j:Int),[(j:Int)]) else fewW m (lot:Int) j S0:=rfl
    rw[wl_at hj,wHi_at hj] at est
    have sA:h'.Sub (h'.add (.bk [.ii m.wgs[j].lot,.ii m.wgs[j].reads,.ii m.wgs[j].lo,.ii m.wgs[j].hi])):=(H.Sub.refl hs'.wf).add _
    have gA:(h'.add (.bk [.ii m.wgs[j].lot,.ii m.wgs[j].reads,.ii m.wgs[j].lo,.ii m.wgs[j].hi])).cells h'.next=some [.ii m.wgs[j].lot,.ii m.wgs[j].reads,.ii m.wgs[j].lo,.ii m.wgs[j].hi]:=Zh rfl
    simp(disch:=omega)only[go_sem,t0,t1,t4,t8,t36,t37,t38,hj',hq2 (Zb j),hcs2,hgg2,Zy]
    refine(V3 (hs'.trans sA).wf (hd0.mono (hs'.trans sA)) g hj).mono fun u h6 hu=>?_
    obtain⟨rfl,s6'⟩:=hu
    have sB:=sA.trans s6'
    have l6:=sB.next
    have l6':=s6'.next
    simp only[H.next_add] at l6'
    have gA6:=s6'.cells gA
    have g86:=sB.get g8
    have g46:=sB.get g4'
    have sC:h6.Sub (h6.add (.bk [.ii (Z8 m m.wgs[j]),.ii (Z1 m m.wgs[j])])):=(H.Sub.refl (hs'.trans sB).wf).add _
    by_cases c1:m.wgs[j].lot=(lot:Int)
    ·by_cases c2:Z1 m m.wgs[j]<(fewW m (lot:Int) j S0).1
     ·rw[if_pos ⟨c1,c2⟩] at est
      have w6:=(hs'.trans sB).wf
      have sD:=(sC.add (.bk [.ii (j:Int)]))
      have hsD:=(hs'.trans sB).trans sD
      simp -implicitDefEqProofs(disch:=first|omega|simp only[nZ]<;>omega|fail)only[go_sem,t0,t1,t4,t8,t36,t37,t38,gA6,c1,c2,Za g86,g86,Ze]
      refine⟨_,_,.sl (h6.next+1) 0 1 (.fix 1),rfl,?_,?_,by simp only[H.next_set,H.next_add];omega,by rw[get_set_other yfc];exact sD.get g46,by rw[est,get_set_same rfl],yfk,yfd,yfh,yfl,yfr,yfs,yfb⟩
      ·rw[est]
       have:=(bsl1_own ((hs'.trans sB).trans sC) (j:Int)).keep (Zq.set _ (h.next+1) (.bk [.ii (Z1 m m.wgs[j]),.sl (h6.next+1) 0 1 (.fix 1)])) (H.Sub.set hsD yfc (by simp only[H.next_add];omega) hw _) (fun b hb e=>by obtain⟨_,_,_,e2⟩:=hb;cases e2;simp only[H.next_add] at e;omega)
       rw[H.next_add] at this
       exact this
      ·intro b hb;obtain⟨_,_,_,e2⟩:=hb;cases e2;omega
     ·rw[if_neg (fun h=>c2 h.2)] at est
      simp(disch:=omega)only[go_sem,t0,t1,t4,t8,t36,t37,t38,gA6,c1,c2,Za g86,Ze]
      exact⟨_,_,y,rfl,by rw[est];exact oy.mono (sB.trans sC),ny,by simp only[H.next_add];omega,(sB.trans sC).get g4',by rw[est];exact(sB.trans sC).get g8,yfk,yfd,yfh,yfl,yfr,yfs,yfb⟩
    ·rw[if_neg (fun h=>c1 h.1)] at est
     simp(disch:=omega)only[go_sem,t0,t1,t4,t8,t36,t37,t38,gA6,c1,Ze]
     exact⟨_,_,y,rfl,by rw[est];exact oy.mono (sB.trans sC),ny,by simp only[H.next_add];omega,(sB.trans sC).get g4',by rw[est];exact(sB.trans sC).get g8,yfk,yfd,yfh,yfl,yfr,yfs,yfb⟩
   ·clear t0 t1 t4 t5 oy ny lt g4 g5
    rintro s ⟨tm,h',y,rfl,oy,ny,lt',g4',g8,t0,t1,t4,t8,t36,t37,t38⟩
    have y1:=oy.one
    rw[←hP] at oy g8
    simp(disch:=omega)only[go_sem,t0,t1,t4,t8,t36,t37,t38,Int.lt_irrefl,Za g8,g4',y1,cells_one y1]
    exact q _ y (oy.keep (Zq.set h' h.next _) (oy.1.set (Nat.le_refl _) yfc hw _) fun b hb e=>by have:=(ny b hb).2;omega)
end Go.Ab.Tryz
namespace Go.Ab.Tryz
open Go.Ab.Silk
def ProveR (m:Ml)(lot:Int)(low high:List Int)(e:Int):Prop:=
 (check m≠0∧e=check m∧lot=0∧low=[]∧high=[])∨(check m=0∧
  (((∃w,ZC m Zj w)∧e=6∧lot=0∧low=[]∧high=[])∨((¬∃w,ZC m Zj w)∧e=0∧(0≤lot∧lot<m.lots.length)∧(Ya m lot).1<(Yb m lot).1∧low=(Yb m lot).2∧high=(Ya m lot).2)))
set_option maxHeartbeats 2000000 in
theorem Prove_own {h:H}{v:V}{m:Ml}(hw:h.wf)(hm:ZF h v m):Ev fnG Zm (.fn 9 [] []) [v] h fun u h'=>h.Sub h'∧∃lot x y low high e,u=.tup [.agg [.ii lot,x,y],.ii e]∧ZK h h' x 1 (low.map encI)∧ZK h h' y 1 (high.map encI)∧(low.length≤1000∧high.length≤1000∧∀c,Zs x c→¬Zs y c)∧ProveR m lot low high e:=by
 refine Ev.gen fun Q q=>?_
 have hm0:=hm
 obtain⟨L,W,rfl,aL,aW⟩:=hm
 have hlenL:=aL.lenE
 refine Zf (fd:=c9) rfl rfl rfl ?_
 have s1:h.Sub ((h.add (.bk [.ii m.errs,L,W])).add (.bk [.ii 0,.nils,.nils])):=yfa
 have g1:((h.add (.bk [.ii m.errs,L,W])).add (.bk [.ii 0,.nils,.nils])).cells h.next=some [.ii m.errs,L,W]:=by simp -implicitDefEqProofs(disch:=first|omega|simp only[nZ]<;>omega|fail)only[go_sem]
 have r1:((h.add (.bk [.ii m.errs,L,W])).add (.bk [.ii 0,.nils,.nils])).get (h.next+1)=some (.bk [.ii 0,.nils,.nils]):=by simp -implicitDefEqProofs(disch:=first|omega|simp only[nZ]<;>omega|fail)only[go_sem]
 have l1:((h.add (.bk [.ii m.errs,L,W])).add (.bk [.ii 0,.nils,.nils])).next=h.next+2:=by simp only[H.next_add]
 simp -implicitDefEqProofs(disch:=first|omega|simp only[nZ]<;>omega|fail)only[c9,go_sem]
 generalize((h.add (.bk [.ii m.errs,L,W])).add (.bk [.ii 0,.nils,.nils]))=h1 at s1 g1 r1 l1⊢
 refine(XQ s1.wf (hm0.mono s1)).mono fun u h2 hu=>?_
 obtain⟨s12,hu⟩:=hu
 have s2:=s1.trans s12
 have l2:=s12.next
 have r2:=s12.get r1
 have nl:∀hh:H,h.Sub hh→ZK h hh .nils 1 (([]:List Int).map encI):=fun hh w=>(Zr.nil w 1).c
 rcases hu with⟨c,rfl⟩|⟨c,d,rfl,hd⟩
 ·simp(disch:=omega)only[go_sem,c,ne_eq,not_false_eq_true,r2,Za r2]
  have s3:h.Sub (h2.set (h.next+1) (.bk [.ii 0,.nils,.nils])):=yfa
  exact q _ _ ⟨s3,0,.nils,.nils,[],[],check m,rfl,nl _ s3,nl _ s3,⟨by simp,by simp,fun c hc=>(ZE hc).elim⟩,.inl ⟨c,rfl,rfl,rfl,rfl⟩⟩
 ·have g:=ZJ c
  have gl:=g.lots
  simp(disch:=omega)only[go_sem,ne_eq,eq_self,not_true_eq_false,s12.cells g1,hlenL]
  refine Zi m.lots.length (fun i s=>∃tm h',s=⟨tm,h',[]⟩∧h2.Sub h'∧(∀k:Int,0≤k→k<(i:Int)→(Yb m k).1≤(Ya m k).1)∧tm.E 2=.ptr (h.next+1) 0∧tm.E 4=.ptr d 0∧tm.E 20=.ii (m.lots.length:Int)∧tm.E 21=.ii (i:Int))
   ?_ ?_ (i:=0) (Nat.zero_le _) ⟨_,_,rfl,H.Sub.refl s2.wf,fun k k0 k1=>by omega,yfb,yfb,yfb,yfb⟩
  ·rintro i s hi ⟨tm,h',rfl,hs,hno,t2,t4,t20,t21⟩
   have hi':(i:Int)<(m.lots.length:Int):=by omega
   have i0:(0:Int)≤(i:Int):=by omega
   have hs2:=s2.trans hs
   simp(disch:=omega)only[go_sem,t2,t4,t20,t21,hi']
   refine most_ev g m.lots.length i yfc hi hs2.wf (hd.mono hs) _ fun h5 x o5=>?_
   have s5:=o5.1
   have x1:=o5.one
   simp(disch:=omega)only[go_sem,t2,t4,t20,t21]
   refine few_ev g m.lots.length i yfc hi (hs2.trans s5).wf (hd.mono (hs.trans s5)) _ fun h6 y o6=>?_
   have s6:=o6.1
   have y1:=o6.one
   have s26:=(hs.trans s5).trans s6
   have w6:=s26.wf
   have l6:=s26.next
   have s68:h6.Sub ((((h6.add (.bk [.ii 0,.nils])).add (.bk [.ii 0,.nils])).set h6.next (.bk [.ii (Yb m (i:Int)).1,x])).set (h6.next+1) (.bk [.ii (Ya m (i:Int)).1,y])):=yfa
   have ga:((((h6.add (.bk [.ii 0,.nils])).add (.bk [.ii 0,.nils])).set h6.next (.bk [.ii (Yb m (i:Int)).1,x])).set (h6.next+1) (.bk [.ii (Ya m (i:Int)).1,y])).cells h6.next=some [.ii (Yb m (i:Int)).1,x]:=by simp(disch:=omega)only[go_sem]
   have gb:((((h6.add (.bk [.ii 0,.nils])).add (.bk [.ii 0,.nils])).set h6.next (.bk [.ii (Yb m (i:Int)).1,x])).set (h6.next+1) (.bk [.ii (Ya m (i:Int)).1,y])).cells (h6.next+1)=some [.ii (Ya m (i:Int)).1,y]:=by simp(disch:=omega)only[go_sem]
   simp -implicitDefEqProofs(disch:=first|omega|simp only[nZ]<;>omega|fail)only[go_sem,t2,t4,t20,t21,x1,y1,cells_one x1,cells_one y1]
   generalize((((h6.add (.bk [.ii 0,.nils])).add (.bk [.ii 0,.nils])).set h6.next (.bk [.ii (Yb m (i:Int)).1,x])).set (h6.next+1) (.bk [.ii (Ya m (i:Int)).1,y]))=h8 at s68 ga gb⊢
   have r8:=(s26.trans s68).get r2
   have l8:=(s26.trans s68).next
   have bd1:=most_bd g i0 hi'
   have bd2:=few_bd g i0 hi'
   by_cases hc:(Ya m (i:Int)).1<(Yb m (i:Int)).1
   ·simp -implicitDefEqProofs(maxSteps:=999999)(disch:=first|with_reducible rfl|omega|(simp only[nA,nS,nD]<;>omega)|fail)only[go_sem,t2,t4,t20,t21,x1,y1,cells_one x1,cells_one y1,hc,r8,Za r8,ga,gb]
    have s28:=s2.trans (s26.trans s68)
    have s9:h.Sub (h8.set (h.next+1) (.bk [.ii (i:Int),x,y])):=H.Sub.set s28 yfc yfc hw _
    have l':=hs.next
    have ox:=((o5.base hs2).mono (s6.trans s68)).keep (Zq.set h8 (h.next+1) (.bk [.ii (i:Int),x,y])) s9 fun b hb e=>by have:=(o5.blk hb).1;omega
    have oy:=((o6.base (hs2.trans s5)).mono s68).keep (Zq.set h8 (h.next+1) (.bk [.ii (i:Int),x,y])) s9 fun b hb e=>by have:=(o6.blk hb).1;have:=s5.next;omega
    refine q _ _ ⟨s9,(i:Int),x,y,_,_,0,rfl,ox,oy,⟨by omega,by omega,fun c hx hy=>by have:=(o5.blk hx).2.1;have:=(o6.blk hy).1;omega⟩,.inr ⟨c,.inr ⟨fun hf=>?_,rfl,⟨i0,hi'⟩,hc,rfl,rfl⟩⟩⟩
    have:=(Wx g).1 hf (i:Int) i0 hi'
    rw[←(most_ok g _ i0 hi').1,←(few_ok g _ i0 hi').1] at this
    omega
   ·have hno':∀k:Int,0≤k→k<((i+1:Nat):Int)→(Yb m k).1≤(Ya m k).1:=fun k k0 k1=>by
     by_cases e:k=(i:Int)
     ·rw[e];omega
     ·exact hno k k0 yfc
    simp(disch:=omega)only[go_sem,t2,t4,t20,t21,ga,gb,hc,Ze]
    exact⟨_,_,rfl,s26.trans s68,hno',yff,yfh,yfB,yfb⟩
  ·rintro s ⟨tm,h',rfl,hs,hno,t2,t4,t20,t21⟩
   have r3:=hs.get r2
   have l3:=hs.next
   have s3:h.Sub (h'.set (h.next+1) (.bk [.ii 0,.nils,.nils])):=(s2.trans hs).set yfc yfc hw _
   simp(disch:=omega)only[go_sem,t2,t4,t20,t21,Int.lt_irrefl,r3,Za r3]
   refine q _ _ ⟨s3,0,.nils,.nils,[],[],6,rfl,nl _ s3,nl _ s3,⟨by simp,by simp,fun c hc=>(ZE hc).elim⟩,.inr ⟨c,.inl ⟨(Wx g).2 fun i i0 i1=>?_,rfl,rfl,rfl,rfl⟩⟩⟩
   have:=hno i i0 i1
   rw[(most_ok g i i0 i1).1,(few_ok g i i0 i1).1] at this
   exact this
theorem Prove_ev {h:H}{v:V}{m:Ml}(hw:h.wf)(hm:ZF h v m):Ev fnG Zm (.fn 9 [] []) [v] h fun u h'=>h.Sub h'∧∃lot x y low high e,u=.tup [.agg [.ii lot,x,y],.ii e]∧Zk h' x 1 (low.map encI)∧Zk h' y 1 (high.map encI)∧ProveR m lot low high e:=
 (Prove_own hw hm).mono fun u h' hu=>by
  obtain⟨hs,lot,x,y,low,high,e,rfl,ox,oy,hl,spec⟩:=hu
  exact⟨hs,lot,x,y,low,high,e,rfl,ox.sl yfe,oy.sl yfe,spec⟩
theorem lineF_le (m:Ml):∀(k:Nat) (n:Int),(Wp m k n).length≤k
 |0,_=>by simp[Wp]
 |k+1,n=>by
  have:=lineF_le m k (ZS m n)
  simp only[Wp]
  split<;>simp<;>omega
theorem line_le (m:Ml)(n:Int):(line m n).length≤13:=lineF_le m 13 n
theorem Vx {l:List Int}{i:Nat}(h:i<l.length){a:Int}:a∈l.take (i+1)↔a∈l.take i∨a=l[i]:=by
 rw[List.take_succ_eq_append_getElem h,List.mem_append,List.mem_singleton]
theorem Above_ev {h:H}{v:V}{m:Ml}(hw:h.wf)(hm:ZF h v m)(g:Good m)(a:Int){b:Int}(b0:0≤b)(b1:b<m.lots.length)(Q:V→H→Prop)(q:∀h',h.Sub h'→Q (.bool (decide (a∈line m b))) h'):Ev fnG Zm (.fn 108 [] []) [v,.ii a,.ii b] h Q:=by
 have hm0:=hm
 obtain⟨L,W,rfl,aL,aW⟩:=hm
 refine Zf (fd:=c108) rfl rfl rfl ?_
 have s1:h.Sub (h.add (.bk [.ii m.errs,L,W])):=yfa
 simp(disch:=omega)only[c108,go_sem]
 refine refLine_ev s1.wf (hm0.mono s1) g yfc b1 _ fun P h3 o3=>?_
 have s3:=o3.1
 have hs:=s1.trans s3
 have hle:=line_le m b
 have aP:=o3.sl yfe
 have hlen:=aP.lenE
 simp(disch:=omega)only[go_sem]
 refine Zi (line m b).length (fun i s=>∃tm,s=⟨tm,h3,[]⟩∧a ∉(line m b).take i∧tm.E 1=.ii a∧tm.E 7=P∧tm.E 8=.ii (i:Int))
  ?_ ?_ (i:=0) (Nat.zero_le _) ⟨_,rfl,by simp,yfb,yfb,yfb⟩
 ·rintro i s hi ⟨tm,rfl,hno,t1,t7,t8⟩
  have hi':(i:Int)<((line m b).length:Int):=by omega
  obtain⟨b2,o2,c2,cs2,rfl,hcs2,hq2,hgg2,hn2,hn02⟩:=aP.at hi
  by_cases e:(line m b)[i]=a
  ·have hin:a∈line m b:=by rw[←e];exact List.getElem_mem hi
   simp(disch:=omega)only[go_sem,t1,t7,t8,hlen,hi',hq2 (Zb i),hcs2,hn02 yfc,encI,e]
   have:=q h3 hs
   rw[decide_eq_true hin] at this;exact this
  ·simp(disch:=omega)only[go_sem,t1,t7,t8,hlen,hi',hq2 (Zb i),hcs2,hn02 yfc,encI,e,Ze]
   exact⟨_,rfl,fun h=>by rcases(Vx hi).1 h with h|h;exact hno h;exact e h.symm,yfd,yfi,yfb⟩
 ·rintro s ⟨tm,rfl,hno,t1,t7,t8⟩
  rw[List.take_length] at hno
  simp(disch:=omega)only[go_sem,t1,t7,t8,hlen,Int.lt_irrefl]
  have:=q h3 hs
  rw[decide_eq_false hno] at this;exact this
theorem apart_iff {m:Ml}(g:Good m){l:List Int}(hin:InW m l):l.Pairwise (Apart m)↔∀i j (hi:i<l.length) (hj:j<l.length),i≠j→¬wl m l[i]∈line m (wl m l[j]):=by
 have e:∀i j (hi:i<l.length) (hj:j<l.length),wl m l[i]∈line m (wl m l[j])↔Anc (ZS m) (wl m l[j]) (wl m l[i]):=fun i j hi hj=>by
  have:=hin _ (List.getElem_mem hj)
  have w:=wl_in g this.1 this.2
  exact Xa g w.1 w.2
 rw[List.pairwise_iff_getElem]
 constructor
 ·intro h i j hi hj hij
  rw[e i j hi hj]
  rcases Nat.lt_or_gt_of_ne hij with hl|hl
  ·exact(h i j hi hj hl).2
  ·exact(h j i hj hi hl).1
 ·intro h i j hi hj hij
  refine⟨fun k=>h j i hj hi yfc ((e j i hj hi).2 k),fun k=>h i j hi hj yfc ((e i j hi hj).2 k)⟩
set_option maxHeartbeats 1000000 in
theorem apart_ev {h:H}{v x:V}{m:Ml}{l:List Int}(hw:h.wf)(hm:ZF h v m)(g:Good m)(hx:Zk h x 1 (l.map encI))(hin:InW m l)(Q:V→H→Prop)(q:∀t h',h.Sub h'→(t=true↔l.Pairwise (Apart m))→Q (.bool t) h'):Ev fnG Zm (.fn 109 [] []) [v,x] h Q:=by
 have hm0:=hm
 obtain⟨L,W,rfl,aL,aW⟩:=hm
 have hlen:=hx.lenE
 have hbl:=hx.boundE
 refine Zf (fd:=c109) rfl rfl rfl ?_
 have s1:h.Sub (h.add (.bk [.ii m.errs,L,W])):=yfa
 have g1:(h.add (.bk [.ii m.errs,L,W])).cells h.next=some [.ii m.errs,L,W]:=Zh rfl
 have hap:=apart_iff g hin
 simp(disch:=omega)only[c109,go_sem]
 refine Zi l.length (fun i s=>∃tm h',s=⟨tm,h',[]⟩∧(h.add (.bk [.ii m.errs,L,W])).Sub h'∧(∀i' j (hi:i'<l.length) (hj:j<l.length),i'<i→i'≠j→¬wl m l[i']∈line m (wl m l[j]))∧tm.E 1=x∧tm.E 2=.ptr h.next 0∧tm.E 5=.ii (i:Int))
  ?_ ?_ (i:=0) (Nat.zero_le _) ⟨_,_,rfl,H.Sub.refl s1.wf,fun i' j _ _ h=>by omega,yfb,yfb,yfb⟩
 ·rintro i s hi ⟨tm,h',rfl,hs,hno,t1,t2,t5⟩
  have hi':(i:Int)<(l.length:Int):=by omega
  simp(disch:=omega)only[go_sem,t1,t2,t5,hlen,hi']
  refine Zi l.length (fun k s=>∃tm h',s=⟨tm,h',[]⟩∧(h.add (.bk [.ii m.errs,L,W])).Sub h'∧(∀j (hj:j<l.length),j<k→i≠j→¬wl m l[i]∈line m (wl m l[j]))∧tm.E 1=x∧tm.E 2=.ptr h.next 0∧tm.E 5=.ii (i:Int)∧tm.E 6=.ii (k:Int))
   ?_ ?_ (i:=0) (Nat.zero_le _) ⟨_,_,rfl,hs,fun j _ h=>by omega,yfd,yff,yfm,yfb⟩
  ·clear t1 t2 t5 hs
   rintro k s hk ⟨tm,h',rfl,hs,hnk,t1,t2,t5,t6⟩
   have hk':(k:Int)<(l.length:Int):=by omega
   have nx:(i≠k→¬wl m l[i]∈line m (wl m l[k]))→∀j (hj:j<l.length),j<k+1→i≠j→¬wl m l[i]∈line m (wl m l[j]):=fun hk2 j hj hjk hij=>by
    by_cases e:j=k
    ·subst e;exact hk2 hij
    ·exact hnk j hj yfc hij
   by_cases hik:i=k
   ·subst hik
    simp(disch:=omega)only[go_sem,t1,t2,t5,t6,hlen,hk',ne_eq,eq_self,not_true_eq_false,Ze]
    exact⟨_,_,rfl,hs,nx fun h=>absurd rfl h,yfd,yff,yfm,yfb⟩
   ·have hik':¬(i:Int)=(k:Int):=by omega
    have hs':=s1.trans hs
    have gm:=hs.cells g1
    obtain⟨b1,o1,c1,cs1,e1,hcs1,hq1,hgg1,hn1,hn01⟩:=(hx.mono hs').at hi
    obtain⟨b2,o2,c2,cs2,e2,hcs2,hq2,hgg2,hn2,hn02⟩:=(hx.mono hs').at hk
    have in1:=hin _ (List.getElem_mem hi)
    have in2:=hin _ (List.getElem_mem hk)
    obtain⟨p1,ep1⟩:=Int.eq_ofNat_of_zero_le in1.1
    obtain⟨p2,ep2⟩:=Int.eq_ofNat_of_zero_le in2.1
    have hp1:p1<m.wgs.length:=by omega
    have hp2:p2<m.wgs.length:=by omega
    obtain⟨b3,o3,c3,cs3,e3,hcs3,hq3,hgg3,hn3,hn03⟩:=(aW.mono hs').at hp1
    obtain⟨b4,o4,c4,cs4,e4,hcs4,hq4,hgg4,hn4,hn04⟩:=(aW.mono hs').at hp2
    have v1:=hn01 yfc
    have v2:=hn02 yfc
    simp only[encI,ep1] at v1
    simp only[encI,ep2] at v2
    have w1:wl m l[i]=m.wgs[p1].lot:=by rw[ep1,wl_at hp1]
    have w2:wl m l[k]=m.wgs[p2].lot:=by rw[ep2,wl_at hp2]
    have r2:=wl_in g in2.1 in2.2
    rw[w2] at r2
    simp(disch:=omega)only[go_sem,t1,t2,t5,t6,hlen,hk',hik',ne_eq,not_false_eq_true,gm,hq1 (Zb i),hq2 (Zb k),hcs1,hcs2,v1,v2,hq3 (Zb p1),hq4 (Zb p2),hcs3,hcs4,hn03 yfc,hn04 yfc,Zy]
    refine Above_ev hs'.wf (hm0.mono hs') g _ r2.1 r2.2 _ fun h5 s5=>?_
    have gm5:=s5.cells gm
    have x3:=s5.cells hcs3
    have x4:=s5.cells hcs4
    have x1:=s5.cells hcs1
    have x2:=s5.cells hcs2
    by_cases hb:m.wgs[p1].lot∈line m m.wgs[p2].lot
    ·have hb':wl m l[i]∈line m (wl m l[k]):=by rw[w1,w2];exact hb
     simp(disch:=omega)only[go_sem,t1,t2,t5,t6,hb,decide_true,gm,gm5,hq1 (Zb i),hq2 (Zb k),hcs1,hcs2,x1,x2,v1,v2,hq3 (Zb p1),hq4 (Zb p2),hcs3,hcs4,x3,x4,hn03 yfc,hn04 yfc,Zy]
     exact q false _ (hs'.trans s5) ⟨fun h=>yfC,fun h=>absurd hb' (hap.1 h i k hi hk hik)⟩
    ·simp(disch:=omega)only[go_sem,t1,t2,t5,t6,hb,decide_false,gm,gm5,hq1 (Zb i),hq2 (Zb k),hcs1,hcs2,x1,x2,v1,v2,hq3 (Zb p1),hq4 (Zb p2),hcs3,hcs4,x3,x4,hn03 yfc,hn04 yfc,Zy,Ze]
     exact⟨_,_,rfl,hs.trans s5,nx fun _=>by rw[w1,w2];exact hb,yfd,yff,yfm,yfb⟩
  ·clear t1 t2 t5 hs
   rintro s ⟨tm,h',rfl,hs,hnk,t1,t2,t5,t6⟩
   simp(disch:=omega)only[go_sem,t1,t2,t5,t6,hlen,Int.lt_irrefl,Ze]
   refine⟨_,_,rfl,hs,fun i' j hi2 hj h3 hij=>?_,yfd,yff,yfb⟩
   by_cases e:i'=i
   ·subst e;exact hnk j hj hj hij
   ·exact hno i' j hi2 hj yfc hij
 ·rintro s ⟨tm,h',rfl,hs,hno,t1,t2,t5⟩
  simp(disch:=omega)only[go_sem,t1,t2,t5,hlen,Int.lt_irrefl]
  exact q true _ (s1.trans hs) ⟨fun _=>hap.2 fun i j hi hj hij=>hno i j hi hj hi hij,fun _=>rfl⟩
end Go.Ab.Tryz
namespace Go.Ab.Tryz
open Go.Ab.Silk
structure GenEnv (h0:H)(l:Nat)(I:H→Prop):Prop where
 sub:∀h,I h→h0.Sub h
 mono:∀h h',I h→h.Sub h'→I h'
 lt:∀h,I h→l<h.next
abbrev Kl (l:Nat) (h h':H):Prop:=Zq (fun b=>b=l) h h'
theorem Kl.trans {l:Nat}{h h' h'':H}(a:Kl l h h')(b:Kl l h' h''):Kl l h h'':=(Zq.trans a b).mono fun c hc=>hc.elim id id
def GenE (l:Nat)(I S:H→Prop)(f:V)(a:Int)(p:Prop)(h:H):Prop:=Ev fnG Zm f [.ii a] h fun u h'=>(p∧u=.bool true∧I h'∧Kl l h h')∨(¬p∧u=.bool false∧S h')
def GenN (l:Nat)(I S:H→Prop)(f:V)(a:Int)(p:Prop)(h:H):Prop:=Ev fnG Zm f [.ii a] h fun u h'=>(p∧u=.bool false∧I h'∧Kl l h h')∨(¬p∧u=.bool true∧S h')
section
variable {h0:H} {l:Nat} {I S:H→Prop}
theorem index_gen (g:GenEnv h0 l I){L:List Int}{x f:V}{p:Int→Prop}(hx:Zk h0 x 1 (L.map encI)){h:H}(hI:I h)(hp:∀a∈L,∀h',I h'→Kl l h h'→GenN l I S f a (p a) h'):
  Ev fnG Zm (.fn 159 [] []) [x,f] h fun v h'=>((∀a∈L,p a)∧v=.ii (-1)∧I h'∧Kl l h h')∨((¬∀a∈L,p a)∧(∃k:Nat,v=.ii (k:Int))∧S h'):=by
 have hb:=hx.boundE
 refine Ev.gen fun Q q=>?_
 refine Zf (fd:=c159) rfl rfl rfl ?_
 simp(disch:=omega)only[c159,go_sem,hx.lenE]
 refine Zi L.length (fun i s=>∃tm h',s=⟨tm,h',[]⟩∧I h'∧Kl l h h'∧(∀a∈L.take i,p a)∧tm.E 0=x∧tm.E 1=f∧tm.E 7=.ii (L.length:Int)∧tm.E 8=.ii (i:Int))
  ?_ ?_ (i:=0) (Nat.zero_le _) ⟨_,_,rfl,hI,Zq.refl _ _,fun a ha=>by simp at ha,yfb,yfb,yfb,yfb⟩
 ·rintro i s hi ⟨tm,h',rfl,hI',hk,hall,t0,t1,t7,t8⟩
  have hi':(i:Int)<(L.length:Int):=by omega
  obtain⟨b2,o2,c2,cs2,e2,hcs2,hq2,hgg2,hn2,hn02⟩:=(hx.mono (g.sub _ hI')).at hi
  simp(disch:=omega)only[go_sem,t0,t1,t7,t8,hi',hq2 (Zb i),hcs2,hn02 yfc,encI]
  refine(hp _ (List.getElem_mem hi) h' hI' hk).mono fun u h2 hu=>?_
  rcases hu with⟨hpa,rfl,hI2,hk2⟩|⟨hpa,rfl,hS⟩
  ·simp(disch:=omega)only[go_sem,t0,t1,t7,t8,Ze]
   refine⟨_,_,rfl,hI2,hk.trans hk2,fun a ha=>?_,yfk,yfd,yfi,yfb⟩
   rcases(Vx hi).1 ha with ha|rfl
   ·exact hall a ha
   ·exact hpa
  ·simp(disch:=omega)only[go_sem,t0,t1,t7,t8]
   exact q _ _ (.inr ⟨fun h=>hpa (h _ (List.getElem_mem hi)),⟨i,rfl⟩,hS⟩)
 ·rintro s ⟨tm,h',rfl,hI',hk,hall,t0,t1,t7,t8⟩
  rw[List.take_length] at hall
  simp(disch:=omega)only[go_sem,t0,t1,t7,t8,Int.lt_irrefl]
  exact q _ _ (.inl ⟨hall,rfl,hI',hk⟩)
theorem contains_gen (g:GenEnv h0 l I){L:List Int}{x f:V}{p:Int→Prop}(hx:Zk h0 x 1 (L.map encI)){h:H}(hI:I h)(hp:∀a∈L,∀h',I h'→Kl l h h'→GenN l I S f a (p a) h'):
  Ev fnG Zm (.fn 127 [] []) [x,f] h fun v h'=>((∀a∈L,p a)∧v=.bool false∧I h'∧Kl l h h')∨((¬∀a∈L,p a)∧v=.bool true∧S h'):=by
 refine Ev.gen fun Q q=>?_
 refine Zf (fd:=c127) rfl rfl rfl ?_
 simp(disch:=omega)only[c127,go_sem]
 refine(index_gen g hx hI hp).mono fun v h' hv=>?_
 have n1:¬(0:Int)≤ -1:=by omega
 rcases hv with⟨ha,rfl,hI',hk⟩|⟨ha,⟨k,rfl⟩,hS⟩
 ·simp(disch:=omega)only[go_sem,n1]
  exact q _ _ (.inl ⟨ha,rfl,hI',hk⟩)
 ·have k0:(0:Int)≤(k:Int):=by omega
  simp(disch:=omega)only[go_sem,k0]
  exact q _ _ (.inr ⟨ha,rfl,hS⟩)
theorem every_gen (g:GenEnv h0 l I){L:List Int}{x:V}{f:FuncId}{u w:List V}{p:Int→Prop}(hx:Zk h0 x 1 (L.map encI)){h:H}(hI:I h)(hp:∀a∈L,∀h',I h'→Kl l h h'→GenE l I S (.fn f u w) a (p a) h')(Q:V→H→Prop)
  (q:∀t h',((∀a∈L,p a)∧t=true∧I h'∧Kl l h h')∨((¬∀a∈L,p a)∧t=false∧S h')→Q (.bool t) h'):Ev fnG Zm (.fn 81 [] []) [x,.fn f u w] h Q:=by
 refine Zf (fd:=c81) rfl rfl rfl ?_
 simp(disch:=omega)only[c81,go_sem]
 have s1:h.Sub (h.add (.bk [.fn f u w])):=(H.Sub.refl (g.sub _ hI).wf).add _
 have hl:=g.lt _ hI
 refine(contains_gen g hx (g.mono _ _ hI s1) (p:=p) (S:=S) fun a ha h2 hI2 hk2=>?_).mono fun v h' hv=>?_
 ·have hc:h2.cells h.next=some [.fn f u w]:=hk2.cells (Zh rfl) yfc
  have hlt:h.next<h2.next:=by have:=hk2.1;rw[H.next_add] at this;omega
  unfold GenN
  refine Ev.gen fun Q2 q2=>?_
  refine Zf (fd:=c128) rfl rfl rfl ?_
  simp(disch:=omega)only[c128,go_sem,hc]
  refine(hp a ha h2 hI2 (Kl.trans (Zq.of s1 _) hk2)).mono fun u h3 hu=>?_
  rcases hu with⟨hpa,rfl,hI3,hk3⟩|⟨hpa,rfl,hS⟩
  ·simp(disch:=omega)only[go_sem]
   exact q2 _ _ (.inl ⟨hpa,rfl,hI3,hk3⟩)
  ·simp(disch:=omega)only[go_sem]
   exact q2 _ _ (.inr ⟨hpa,rfl,hS⟩)
 ·rcases hv with⟨ha,rfl,hI',hk⟩|⟨ha,rfl,hS⟩
  ·simp(disch:=omega)only[go_sem]
   exact q true _ (.inl ⟨ha,rfl,hI',Kl.trans (Zq.of s1 _) hk⟩)
  ·simp(disch:=omega)only[go_sem]
   exact q false _ (.inr ⟨ha,rfl,hS⟩)
def AllOk (m:Ml)(ok:Int→Prop)(p:Int):Prop:=∀w:Int,0≤w→w<m.lots.length→parts m w=[]→Anc (ZS m) w p→ok w
theorem AllOk_leaf {m:Ml}(g:Good m){ok:Int→Prop}{p:Int}(p0:0≤p)(p1:p<m.lots.length)(hp:parts m p=[]):AllOk m ok p↔ok p:=by
 constructor
 ·exact fun h=>h p p0 p1 hp .self
 ·intro h w w0 w1 _ ha
  cases ha with
  |self=>exact h
  | @up k hk h0=>
   have hl:=hk.le (Zv g) w0 w1
   have:k∈parts m (ZS m k):=((Zv g).mem _ _).2 ⟨hl.1,by omega,rfl⟩
   rw[hp] at this;simp at this
theorem AllOk_node {m:Ml}(g:Good m){ok:Int→Prop}{p:Int}(p0:0≤p)(hp:parts m p≠[]):AllOk m ok p↔∀q∈parts m p,AllOk m ok q:=by
 constructor
 ·intro h q hq w w0 w1 hw ha
  obtain⟨q0,q1,qf⟩:=((Zv g).mem _ _).1 hq
  refine h w w0 w1 hw ?_
  rw[←qf];exact .up ha yfc
 ·intro h w w0 w1 hw ha
  cases ha with
  |self=>exact absurd hw hp
  | @up k hk h0=>
   have hl:=hk.le (Zv g) w0 w1
   exact h k (((Zv g).mem _ _).2 ⟨hl.1,by omega,rfl⟩) w w0 w1 hw hk
theorem down_gen (e:GenEnv h0 l I){m:Ml}(g:Good m){d:Nat}(hd:WL h0 d m){y:V}{ok:Int→Prop}(hy:∀w:Int,0≤w→w<m.lots.length→parts m w=[]→∀h',I h'→GenE l I S y w (ok w) h')
  {c1 c3 c4:Nat} (n1:c1≠l) (n3:c3≠l) (n4:c4≠l):∀(k:Nat) (lot:Nat) {h:H},m.lots.length-lot≤k→lot<m.lots.length→I h→h.cells c1=some [.ptr d 0]→h.cells c3=some [y]→h.cells c4=some [.fn 161 [] [.ptr c1 0,.ptr c3 0,.ptr c4 0]]→
  GenE l I S (.fn 161 [] [.ptr c1 0,.ptr c3 0,.ptr c4 0]) (lot:Int) (AllOk m ok (lot:Int)) h:=by
 intro k
 induction k with
 |zero=>intro lot h h1 h2;omega
 |succ k ih=>
  intro lot h hk hlot hI e1 e3 e4
  have F:=Zv g
  have hl0:(0:Int)≤(lot:Int):=by omega
  have hl1:(lot:Int)<(m.lots.length:Int):=by omega
  have hs:=e.sub _ hI
  obtain⟨pm,al,L,W,g1,g2,aL,aW,ap⟩:=hd
  have hap:=ap (lot:Int)
  have hlenP:=hap.lenE
  obtain⟨X,eX⟩:∃X,found .nils false (lkA (lot:Int) al)=X:=⟨_,rfl⟩
  rw[eX] at hlenP hap
  unfold GenE
  refine Ev.gen fun Q q=>?_
  refine Zf (fd:=c161) rfl rfl rfl ?_
  by_cases hp:parts m (lot:Int)=[]
  ·have h00:((parts m (lot:Int)).length:Int)=0:=by rw[hp];rfl
   simp(disch:=omega)only[c161,go_sem,e1,e3,Za (hs.get g1),hs.get g2,eX,hlenP,h00]
   refine(hy (lot:Int) hl0 hl1 hp h hI).mono fun u h' hu=>?_
   have hA:=AllOk_leaf g (ok:=ok) hl0 hl1 hp
   simp(disch:=omega)only[go_sem]
   rcases hu with⟨h1,h2,h3,h4⟩|⟨h1,h2,h3⟩
   ·exact q _ _ (.inl ⟨hA.2 h1,h2,h3,h4⟩)
   ·exact q _ _ (.inr ⟨fun h=>h1 (hA.1 h),h2,h3⟩)
  ·have h00:¬((parts m (lot:Int)).length:Int)=0:=by have:=List.length_pos_iff.2 hp;omega
   simp(disch:=omega)only[c161,go_sem,e1,e3,e4,Za (hs.get g1),hs.get g2,eX,hlenP,h00]
   have hA:=AllOk_node g (ok:=ok) hl0 hp
   refine every_gen e hap hI (p:=AllOk m ok) (S:=S) (fun a ha h' hI' hk'=>?_) _ fun t h' ht=>?_
   ·obtain⟨a0,a1,af⟩:=(F.mem _ _).1 ha
    have hlt:=F.lt a a0 a1
    obtain⟨p,rfl⟩:=Int.eq_ofNat_of_zero_le a0
    exact ih p yfc yfc hI' (hk'.cells e1 n1) (hk'.cells e3 n3) (hk'.cells e4 n4)
   ·simp(disch:=omega)only[go_sem,e1,e4,Za (hs.get g1),hs.get g2,eX]
    rcases ht with⟨h1,rfl,h3,h4⟩|⟨h1,rfl,h3⟩
    ·exact q _ _ (.inl ⟨hA.2 h1,rfl,h3,h4⟩)
    ·exact q _ _ (.inr ⟨fun h=>h1 (hA.1 h),rfl,h3⟩)
theorem whole1_gen (e:GenEnv h0 l I){m:Ml}(g:Good m){d:Nat}(hd:WL h0 d m){y:V}(hy1:y.one=true){ok:Int→Prop}(hy:∀w:Int,0≤w→w<m.lots.length→parts m w=[]→∀h',I h'→GenE l I S y w (ok w) h')
  {c1 c2:Nat} (n1:c1≠l) {lot:Nat} (hlot:lot<m.lots.length) {h:H} (hI:I h) (e1:h.cells c1=some [.ptr d 0]) (e2:h.cells c2=some [.ii (lot:Int)]) (Q:V→H→Prop)
  (q:∀u h',((AllOk m ok (lot:Int)∧I h')∨(¬AllOk m ok (lot:Int)∧S h'))→Q u h'):Ev fnG Zm (.fn 160 [] [.ptr c1 0,.ptr c2 0]) [y] h Q:=by
 have hw:=(e.sub _ hI).wf
 have hl:=e.lt _ hI
 obtain⟨_,b1⟩:=H.cells_eq e1
 obtain⟨_,b2⟩:=H.cells_eq e2
 have l1:=hw _ _ b1
 have l2:=hw _ _ b2
 refine Zf (fd:=c160) rfl rfl rfl ?_
 have sA:h.Sub ((h.add (.bk [y])).add (.bk [.fn 161 [] [.ptr c1 0,.ptr h.next 0,.ptr (h.next+1) 0]])):=((H.Sub.refl hw).add _).add _
 simp -implicitDefEqProofs(disch:=first|omega|simp only[nZ]<;>omega|fail)only[c160,go_sem,hy1,cells_one hy1,e1,e2]
 refine(down_gen e g hd hy (c1:=c1) (c3:=h.next) (c4:=h.next+1) n1 yfc yfc m.lots.length lot yfc hlot (e.mono _ _ hI sA) (sA.cells e1) yfo yfo).mono fun u h' hu=>?_
 simp(disch:=omega)only[go_sem]
 rcases hu with⟨h1,h2,h3,h4⟩|⟨h1,h2,h3⟩
 ·exact q _ _ (.inl ⟨h1,h3⟩)
 ·exact q _ _ (.inr ⟨h1,h3⟩)
end
end Go.Ab.Tryz
namespace Go.Ab
theorem app_lit {h0 h:H}{y:V}{b:Nat}{new:List (List V)}{Q:V→H→Prop}(hs:h0.Sub h)(hsz:∀r∈new,r.length=1)(he:elems h 1 y=some new.flatten)(hl:lenV y=some new.length)(h1:new.length≤1000000)
  (q:∀x' h',h.Sub h'→((new=[]∧x'=.sl b 0 0 (.fix 0))∨Zr h0 h' x' 1 new)→Q x' h'):P2 (Xg h 1 8 (.sl b 0 0 (.fix 0)) y) Q:=by
 rw[Vi,he,hl]
 simp only[WZ]
 by_cases hn:new=[]
 ·subst hn
  simp only[List.length_nil,Uj]
  have e:Nat.ble 0 0=true:=rfl
  rw[e,YJ,Xl]
  exact q _ _ (H.Sub.refl hs.wf) (.inl ⟨rfl,rfl⟩)
 ·obtain⟨k,hk⟩:∃k,new.length=k+1:=⟨new.length-1,by have:=List.length_pos_iff.2 hn;omega⟩
  rw[hk,Ui (old:=[]) yfc (elems_0 ..) yfc yfc,grown_eq,Xl]
  refine q _ _ ((H.Sub.refl hs.wf).add _) (.inr ⟨hs.add _,hsz,.inr ⟨h.next,?_,hs.next,by rw[H.next_add];omega,?_⟩⟩)
  ·rw[hk,Nat.zero_add]
  ·rw[Zo rfl,List.nil_append]
theorem Zk.lit0 {h:H}{b:Nat}:Zk h (.sl b 0 0 (.fix 0)) 1 []:=⟨by simp,by simp,.inr ⟨b,0,.fix 0,[],rfl,.inl rfl,rfl⟩⟩
namespace Tryz
open Go.Ab.Silk
theorem take_all_in {P:Int→Prop}{l:List Int}{i:Nat}(h:i<l.length)(a:∀x∈l.take i,P x)(b:P l[i]):∀x∈l.take (i+1),P x:=fun x hx=>by
 rcases(Vx h).1 hx with hx|rfl
 ·exact a x hx
 ·exact b
theorem sumL_bd {x:Int→Int}{C:Int}{l:List Int}(h:∀p∈l,0≤x p∧x p≤C)(hl:l.length≤1000)(hC:0≤C):0≤Zg x l∧Zg x l≤1000*C:=by
 have a1:=Z7 (x:=x) (l:=l) fun p hp=>(h p hp).1
 have a2:=ZU (x:=x) (y:=fun _=>C) (l:=l) fun p hp=>(h p hp).2
 rw[sum_const] at a2
 have a3:(l.length:Int)*C≤1000*C:=Int.mul_le_mul_of_nonneg_right yfc hC
 omega
theorem wLo_bd {m:Ml}(g:Good m){a:Int}(a0:0≤a)(a1:a<m.wgs.length):(0≤wLo m a∧wLo m a≤20000)∧(0≤wHi m a∧wHi m a≤10000):=by
 obtain⟨i,rfl⟩:=Int.eq_ofNat_of_zero_le a0
 have hi:i<m.wgs.length:=by omega
 have:=say_bd g hi
 rw[wLo_at hi,wHi_at hi];omega
set_option maxRecDepth 4000 in
set_option maxHeartbeats 4000000 in
theorem refProof_ev {h:H}{v X Y:V}{m:Ml}{low high:List Int}(hw:h.wf)(hm:ZF h v m)(g:Good m)(lot:Int)(hX:Zk h X 1 (low.map encI))(hY:Zk h Y 1 (high.map encI))(hl:low.length≤1000)(hh:high.length≤1000)(Q:V→H→Prop)
  (q:∀n e h',h.Sub h'→ProofR m lot low high n e→Q (.tup [.ii n,.ii e]) h'):Ev fnG Zm (.fn 59 [] []) [v,.ii lot,X,Y] h Q:=by
 have hm0:=hm
 obtain⟨L,W,rfl,aL,aW⟩:=hm
 have gl:=g.lots
 have gw:=g.wgs
 have hlenL:=aL.lenE
 have hlenW:=aW.lenE
 refine Zf (fd:=c59) rfl rfl rfl ?_
 have s1:h.Sub (h.add (.bk [.ii m.errs,L,W])):=yfa
 have g1:(h.add (.bk [.ii m.errs,L,W])).cells h.next=some [.ii m.errs,L,W]:=Zh rfl
 have hib:∀n k:Int,inB n 0 (k-1)=true↔0≤n∧n<k:=fun n k=>by unfold inB;rw[decide_eq_true_eq];omega
 cases c0:inB lot 0 ((m.lots.length:Int)-1)
 ·have hno:¬(0≤lot∧lot<m.lots.length):=fun h=>by rw[(hib _ _).2 h] at c0;cases c0
  simp(disch:=omega)only[c59,go_sem,hlenL,ZD,YC,c0,Bool.not_false]
  exact q 0 1 _ s1 (.inl ⟨fun h=>hno h.1,rfl,rfl⟩)
 have hlot:=(hib _ _).1 c0
 simp(disch:=omega)only[c59,go_sem,hlenL,ZD,YC,c0,Bool.not_true]
 generalize h.add (.bk [.ii m.errs,L,W])=h1 at s1 g1⊢
 have s2:h1.Sub (h1.add (.bk [])):=(H.Sub.refl s1.wf).add _
 obtain⟨eX1,eX2⟩:=(hX.mono (s1.trans s2)).elems
 refine app_lit (H.Sub.refl (H.Sub.wf s2)) (fun r hr=>by(obtain⟨a,_,rfl⟩:=List.mem_map.1 hr;rfl)) eX1 eX2 yfe fun B1 h3 s23 hB1=>?_
 have s3:=s2.trans s23
 obtain⟨eY1,eY2⟩:=(hY.mono (s1.trans s3)).elems
 have step2:∀R:V→H→Prop,(∀x' h',h1.Sub h'→Zk h' x' 1 ((low++high).map encI)→R x' h')→P2 (Xg h3 1 8 B1 Y) R:=fun R r=>by
  rcases hB1 with⟨e0,rfl⟩|o
  ·have e0':low=[]:=by simpa using e0
   subst e0'
   refine app_lit s3 (fun r hr=>by(obtain⟨a,_,rfl⟩:=List.mem_map.1 hr;rfl)) eY1 eY2 yfe fun x' h' s' hx'=>?_
   rcases hx' with⟨e1,rfl⟩|o'
   ·have e1':high=[]:=by simpa using e1
    subst e1'
    exact r _ _ (s3.trans s') Zk.lit0
   ·exact r _ _ (s3.trans s') (o'.sl yfe)
  ·refine o.appn (H.Sub.wf s2) (fun r hr=>by(obtain⟨a,_,rfl⟩:=List.mem_map.1 hr;rfl)) eY1 eY2 (allOne_ints _) yfe yfe fun x' h' o' _ _=>?_
   refine r _ _ (s2.trans o'.1) ?_
   rw[List.map_append]
   exact o'.sl (by simp only[List.length_append,List.length_map];omega)
 simp(disch:=omega)only[go_sem]
 refine step2 _ fun B h5 s15 aB=>?_
 clear step2 hB1 eX1 eX2 eY1 eY2 s23 s3 s2
 have s5:=s1.trans s15
 have gm5:=s15.cells g1
 have hlenB:=aB.lenE
 have aX:=hX.mono s5
 have aY:=hY.mono s5
 have hlenX:=aX.lenE
 have hlenY:=aY.lenE
 have hlB:(low++high).length≤2000:=by simp only[List.length_append];omega
 obtain⟨lh,elh⟩:∃lh,low++high=lh:=⟨_,rfl⟩
 rw[elh] at aB hlenB hlB
 have hIn:(∀a∈lh,0≤a∧a<m.wgs.length)↔InW m low∧InW m high:=by
  rw[←elh]
  exact⟨fun h=>⟨fun a ha=>h a (List.mem_append_left _ ha),fun a ha=>h a (List.mem_append_right _ ha)⟩,fun h a ha=>(List.mem_append.1 ha).elim (h.1 a) (h.2 a)⟩
 have hWi:(∀a∈lh,Anc (ZS m) (wl m a) lot)↔Within m lot low∧Within m lot high:=by
  rw[←elh]
  exact⟨fun h=>⟨fun a ha=>h a (List.mem_append_left _ ha),fun a ha=>h a (List.mem_append_right _ ha)⟩,fun h a ha=>(List.mem_append.1 ha).elim (h.1 a) (h.2 a)⟩
 simp(disch:=omega)only[go_sem]
 refine Zi lh.length (fun i s=>∃tm,s=⟨tm,h5,[]⟩∧(∀a∈lh.take i,0≤a∧a<m.wgs.length)∧tm.E 1=.ii lot∧tm.E 2=X∧tm.E 3=Y∧tm.E 4=.ptr h.next 0∧tm.E 10=B∧tm.E 11=.ii (i:Int))
  ?_ ?_ (i:=0) (Nat.zero_le _) ⟨_,rfl,fun a ha=>by simp at ha,yfb,yfb,yfb,yfb,yfb,yfb⟩
 ·rintro i s hi ⟨tm,rfl,hok,t1,t2,t3,t4,t10,t11⟩
  have hi':(i:Int)<(lh.length:Int):=by omega
  obtain⟨b2,o2,c2,cs2,e2,hcs2,hq2,hgg2,hn2,hn02⟩:=aB.at hi
  have v2:=hn02 yfc
  simp only[encI] at v2
  cases c1:inB lh[i] 0 ((m.wgs.length:Int)-1)
  ·have hno:¬(InW m low∧InW m high):=fun h=>by
    have:=(hib _ _).2 (hIn.2 h _ (List.getElem_mem hi))
    rw[this] at c1;cases c1
   simp(disch:=omega)only[go_sem,t1,t2,t3,t4,t10,t11,hlenB,hi',hq2 (Zb i),hcs2,v2,gm5,hlenW,ZD,YC,c1,Bool.not_false]
   exact q 0 1 _ s5 (.inl ⟨fun h=>hno h.2,rfl,rfl⟩)
  ·simp(disch:=omega)only[go_sem,t1,t2,t3,t4,t10,t11,hlenB,hi',hq2 (Zb i),hcs2,v2,gm5,hlenW,ZD,YC,c1,Bool.not_true,Ze]
   exact⟨_,rfl,take_all_in (P:=fun a=>0≤a∧a<m.wgs.length) hi hok ((hib _ _).1 c1),yfd,yff,yfg,yfh,yfn,yfb⟩
 ·rintro s ⟨tm,rfl,hok,t1,t2,t3,t4,t10,t11⟩
  rw[List.take_length] at hok
  obtain⟨hi1,hi2⟩:=hIn.1 hok
  have hBase:(0≤lot∧lot<m.lots.length)∧InW m low∧InW m high:=⟨hlot,hi1,hi2⟩
  simp(disch:=omega)only[go_sem,t1,t2,t3,t4,t10,t11,hlenB,Int.lt_irrefl]
  refine Zi lh.length (fun i s=>∃tm h',s=⟨tm,h',[]⟩∧h5.Sub h'∧(∀a∈lh.take i,Anc (ZS m) (wl m a) lot)∧tm.E 1=.ii lot∧tm.E 2=X∧tm.E 3=Y∧tm.E 4=.ptr h.next 0∧tm.E 10=B∧tm.E 12=.ii (i:Int))
   ?_ ?_ (i:=0) (Nat.zero_le _) ⟨_,_,rfl,H.Sub.refl s5.wf,fun a ha=>by simp at ha,yfd,yff,yfg,yfh,yfn,yfb⟩
  ·clear t1 t2 t3 t4 t10 t11
   rintro i s hi ⟨tm,h',rfl,hs,hwi,t1,t2,t3,t4,t10,t12⟩
   have hi':(i:Int)<(lh.length:Int):=by omega
   have hs':=s5.trans hs
   have gm:=hs.cells gm5
   obtain⟨b2,o2,c2,cs2,e2,hcs2,hq2,hgg2,hn2,hn02⟩:=(aB.mono hs).at hi
   have v2:=hn02 yfc
   obtain⟨p0,p1⟩:=hok _ (List.getElem_mem hi)
   obtain⟨p,ep⟩:=Int.eq_ofNat_of_zero_le p0
   have hp:p<m.wgs.length:=by omega
   simp only[encI,ep] at v2
   obtain⟨b3,o3,c3,cs3,e3,hcs3,hq3,hgg3,hn3,hn03⟩:=(aW.mono hs').at hp
   have w2:wl m lh[i]=m.wgs[p].lot:=by rw[ep,wl_at hp]
   have r2:=wl_in g p0 p1
   rw[w2] at r2
   simp(disch:=omega)only[go_sem,t1,t2,t3,t4,t10,t12,hlenB,hi',hq2 (Zb i),hcs2,v2,gm,hq3 (Zb p),hcs3,hn03 yfc,Zy]
   refine Above_ev hs'.wf (hm0.mono hs') g _ r2.1 r2.2 _ fun h7 s7=>?_
   have gm7:=s7.cells gm
   have x2:=s7.cells hcs2
   have x3:=s7.cells hcs3
   by_cases ha:lot∈line m m.wgs[p].lot
   ·simp(disch:=omega)only[go_sem,t1,t2,t3,t4,t10,t12,ha,decide_true,hq2 (Zb i),hcs2,x2,v2,gm,gm7,hq3 (Zb p),hcs3,x3,hn03 yfc,Zy,Bool.not_true,Ze]
    exact⟨_,_,rfl,hs.trans s7,take_all_in (P:=fun a=>Anc (ZS m) (wl m a) lot) hi hwi (by rw[w2];exact(Xa g r2.1 r2.2).1 ha),yfd,yff,yfg,yfh,yfn,yfb⟩
   ·have hno:¬WV m lot low high:=fun hp=>ha (by
     have:=hWi.2 hp.1 _ (List.getElem_mem hi)
     rw[w2] at this;exact(Xa g r2.1 r2.2).2 this)
    simp(disch:=omega)only[go_sem,t1,t2,t3,t4,t10,t12,ha,decide_false,hq2 (Zb i),hcs2,x2,v2,gm,gm7,hq3 (Zb p),hcs3,x3,hn03 yfc,Zy,Bool.not_false]
    exact q 0 8 _ (hs'.trans s7) (.inr ⟨hBase,.inl ⟨hno,rfl,rfl⟩⟩)
  ·clear t1 t2 t3 t4 t10 t11
   rintro s ⟨tm,h6,rfl,s56,hwi,t1,t2,t3,t4,t10,t12⟩
   rw[List.take_length] at hwi
   have hWb:=hWi.1 hwi
   have s6:=s5.trans s56
   have gm6:=s56.cells gm5
   simp(disch:=omega)only[go_sem,t1,t2,t3,t4,t10,t12,hlenB,Int.lt_irrefl,gm6]
   refine apart_ev s6.wf (hm0.mono s6) g (aX.mono s56) hi1 _ fun ta h7 s67 hta=>?_
   have s7:=s6.trans s67
   have gm7:=s67.cells gm6
   cases ta
   ·have hno:¬WV m lot low high:=fun hp=>by have:=hta.2 hp.2.1.1;cases this
    simp(disch:=omega)only[go_sem,t1,t2,t3,t4,t10,t12,Bool.not_false]
    exact q 0 8 _ s7 (.inr ⟨hBase,.inl ⟨hno,rfl,rfl⟩⟩)
   have hA1:=hta.1 rfl
   simp(disch:=omega)only[go_sem,t1,t2,t3,t4,t10,t12,Bool.not_true,gm7]
   refine apart_ev s7.wf (hm0.mono s7) g (aY.mono (s56.trans s67)) hi2 _ fun tb h8 s78 htb=>?_
   have s8:=s7.trans s78
   have gm8:=s78.cells gm7
   cases tb
   ·have hno:¬WV m lot low high:=fun hp=>by have:=htb.2 hp.2.1.2;cases this
    simp(disch:=omega)only[go_sem,t1,t2,t3,t4,t10,t12,Bool.not_false]
    exact q 0 8 _ s8 (.inr ⟨hBase,.inl ⟨hno,rfl,rfl⟩⟩)
   have hA2:=htb.1 rfl
   have hCv:=cover_iff (lot:=lot) g hi2 hA2
   have s58:=(s56.trans s67).trans s78
   simp(disch:=omega)only[go_sem,t1,t2,t3,t4,t10,t12,Bool.not_true]
   refine Zi m.lots.length (fun i s=>∃tm h',s=⟨tm,h',[]⟩∧h8.Sub h'∧(∀w:Int,0≤w→w<(i:Int)→parts m w=[]→lot∈line m w→high≠[]→high.countP (fun a=>decide (wl m a∈line m w))=1)∧
     tm.E 1=.ii lot∧tm.E 2=X∧tm.E 3=Y∧tm.E 4=.ptr h.next 0∧tm.E 13=.ii (i:Int))
    ?_ ?_ (i:=0) (Nat.zero_le _) ⟨_,_,rfl,H.Sub.refl s8.wf,fun w w0 w1=>by omega,yfd,yff,yfg,yfh,yfb⟩
   ·clear t1 t2 t3 t4 t10 t12
    rintro i s hi ⟨tm,h',rfl,hs,hcv,t1,t2,t3,t4,t13⟩
    have hi':(i:Int)<(m.lots.length:Int):=by omega
    have i0:(0:Int)≤(i:Int):=by omega
    have hs':=s8.trans hs
    have gm:=hs.cells gm8
    have nx:(parts m (i:Int)=[]→lot∈line m (i:Int)→high≠[]→high.countP (fun a=>decide (wl m a∈line m (i:Int)))=1)→∀w:Int,0≤w→w<((i+1:Nat):Int)→parts m w=[]→lot∈line m w→high≠[]→high.countP (fun a=>decide (wl m a∈line m w))=1:=fun hn w w0 w1=>by
     by_cases e:w=(i:Int)
     ·subst e;exact hn
     ·exact hcv w w0 yfc
    simp(disch:=omega)only[go_sem,t1,t2,t3,t4,t13,gm,hlenL,hi']
    refine YU hs'.wf (hm0.mono hs') g hi _ fun P h9 oP=>?_
    have s9:=oP.1
    have hs9:=hs'.trans s9
    have gm9:=s9.cells gm
    have aP:=oP.sl (by have:=ZV m (i:Int);simp only[List.length_map];omega)
    have hlenP:=aP.lenE
    by_cases hp:parts m (i:Int)=[]
    ·have hl0:¬0<((parts m (i:Int)).length:Int):=by rw[hp];simp
     simp(disch:=omega)only[go_sem,t1,t2,t3,t4,t13,hlenP,hl0,gm9]
     refine Above_ev hs9.wf (hm0.mono hs9) g lot i0 hi' _ fun hA sA=>?_
     have hsA:=hs9.trans sA
     have gmA:=sA.cells gm9
     have s8A:=(hs.trans s9).trans sA
     by_cases ha:lot∈line m (i:Int)
     ·by_cases hh0:high=[]
      ·have hl1:(high.length:Int)=0:=by rw[hh0];rfl
       simp(disch:=omega)only[go_sem,t1,t2,t3,t4,t13,ha,decide_true,Bool.not_true,hlenY,hl1,Ze]
       exact⟨_,_,rfl,s8A,nx fun _ _ h=>absurd hh0 h,yfd,yff,yfg,yfh,yfb⟩
      ·have hl1:¬(high.length:Int)=0:=by have:=List.length_pos_iff.2 hh0;omega
       simp(disch:=omega)only[go_sem,t1,t2,t3,t4,t13,ha,decide_true,Bool.not_true,hlenY,hl1]
       refine Zi high.length (fun k s=>∃tm h',s=⟨tm,h',[]⟩∧hA.Sub h'∧tm.E 1=.ii lot∧tm.E 2=X∧tm.E 3=Y∧tm.E 4=.ptr h.next 0∧tm.E 13=.ii (i:Int)∧
         tm.E 14=.ii (((high.take k).countP (fun a=>decide (wl m a∈line m (i:Int))):Nat):Int)∧tm.E 15=.ii (k:Int))
        ?_ ?_ (i:=0) (Nat.zero_le _) ⟨_,_,rfl,H.Sub.refl hsA.wf,yfd,yff,yfg,yfh,yfu,yfb,yfb⟩
       ·clear t1 t2 t3 t4 t13
        rintro k s hk ⟨tm,h',rfl,hsk,t1,t2,t3,t4,t13,t14,t15⟩
        have hk':(k:Int)<(high.length:Int):=by omega
        have hs2:=hsA.trans hsk
        have gmk:=hsk.cells gmA
        obtain⟨b2,o2,c2,cs2,e2,hcs2,hq2,hgg2,hn2,hn02⟩:=(hY.mono hs2).at hk
        have v2:=hn02 yfc
        obtain⟨p0,p1⟩:=hi2 _ (List.getElem_mem hk)
        obtain⟨p,ep⟩:=Int.eq_ofNat_of_zero_le p0
        have hp:p<m.wgs.length:=by omega
        simp only[encI,ep] at v2
        obtain⟨b3,o3,c3,cs3,e3,hcs3,hq3,hgg3,hn3,hn03⟩:=(aW.mono hs2).at hp
        have w2:wl m high[k]=m.wgs[p].lot:=by rw[ep,wl_at hp]
        have ct:(high.take (k+1)).countP (fun a=>decide (wl m a∈line m (i:Int)))=(high.take k).countP (fun a=>decide (wl m a∈line m (i:Int)))+(if m.wgs[p].lot∈line m (i:Int) then 1 else 0):=by
         rw[List.take_succ_eq_append_getElem hk,List.countP_append,List.countP_singleton,w2];simp
        have cl:(high.take k).countP (fun a=>decide (wl m a∈line m (i:Int)))≤1000:=Nat.le_trans List.countP_le_length yfv
        simp(disch:=omega)only[go_sem,t1,t2,t3,t4,t13,t14,t15,hlenY,hk',hq2 (Zb k),hcs2,v2,gmk,hq3 (Zb p),hcs3,hn03 yfc,Zy]
        refine Above_ev hs2.wf (hm0.mono hs2) g _ i0 hi' _ fun hB sB=>?_
        have gmB:=sB.cells gmk
        have x2:=sB.cells hcs2
        have x3:=sB.cells hcs3
        by_cases hb:m.wgs[p].lot∈line m (i:Int)
        ·rw[if_pos hb] at ct
         simp(disch:=omega)only[go_sem,t1,t2,t3,t4,t13,t14,t15,hb,decide_true,hq2 (Zb k),hcs2,x2,v2,gmk,gmB,hq3 (Zb p),hcs3,x3,hn03 yfc,Zy,Ze]
         exact⟨_,_,rfl,hsk.trans sB,yfd,yff,yfg,yfh,yfu,by rw[ct];exact yfb,yfb⟩
        ·rw[if_neg hb,Nat.add_zero] at ct
         simp(disch:=omega)only[go_sem,t1,t2,t3,t4,t13,t14,t15,hb,decide_false,hq2 (Zb k),hcs2,x2,v2,gmk,gmB,hq3 (Zb p),hcs3,x3,hn03 yfc,Zy,Ze]
         exact⟨_,_,rfl,hsk.trans sB,yfd,yff,yfg,yfh,yfu,by rw[ct];exact(by simp[Zn,Zd,t14]<;>rfl),yfb⟩
       ·clear t1 t2 t3 t4 t13
        rintro s ⟨tm,h',rfl,hsk,t1,t2,t3,t4,t13,t14,t15⟩
        rw[List.take_length] at t14
        by_cases hc1:high.countP (fun a=>decide (wl m a∈line m (i:Int)))=1
        ·have hc1':((high.countP (fun a=>decide (wl m a∈line m (i:Int))):Nat):Int)=1:=by rw[hc1];rfl
         simp(disch:=omega)only[go_sem,t1,t2,t3,t4,t13,t14,t15,hlenY,Int.lt_irrefl,hc1',ne_eq,eq_self,not_true_eq_false,Ze]
         exact⟨_,_,rfl,s8A.trans hsk,nx fun _ _ _=>hc1,yfd,yff,yfg,yfh,yfb⟩
        ·have hc1':¬((high.countP (fun a=>decide (wl m a∈line m (i:Int))):Nat):Int)=1:=by omega
         have hno:¬WV m lot low high:=fun hp2=>hc1 (hCv.1 hp2.2.2 (i:Int) i0 hi' hp ha hh0)
         simp(disch:=omega)only[go_sem,t1,t2,t3,t4,t13,t14,t15,hlenY,Int.lt_irrefl,hc1',ne_eq,not_false_eq_true]
         exact q 0 8 _ (hsA.trans hsk) (.inr ⟨hBase,.inl ⟨hno,rfl,rfl⟩⟩)
     ·simp(disch:=omega)only[go_sem,t1,t2,t3,t4,t13,ha,decide_false,Bool.not_false,Ze]
      exact⟨_,_,rfl,s8A,nx fun _ h=>absurd h ha,yfd,yff,yfg,yfh,yfb⟩
    ·have hl0:0<((parts m (i:Int)).length:Int):=by have:=List.length_pos_iff.2 hp;omega
     simp(disch:=omega)only[go_sem,t1,t2,t3,t4,t13,hlenP,hl0,Ze]
     exact⟨_,_,rfl,hs.trans s9,nx fun h=>absurd h hp,yfd,yff,yfg,yfh,yfb⟩
   ·clear t1 t2 t3 t4 t10 t12
    rintro s ⟨tm,h9,rfl,s89,hcv,t1,t2,t3,t4,t13⟩
    have hPr:WV m lot low high:=⟨hWb,⟨hA1,hA2⟩,hCv.2 hcv⟩
    have s9:=s8.trans s89
    have gm9:=s89.cells gm8
    simp(disch:=omega)only[go_sem,t1,t2,t3,t4,t13,gm9,hlenL,Int.lt_irrefl]
    have bL:∀k,0≤Zg (wLo m) (low.take k)∧Zg (wLo m) (low.take k)≤1000*20000:=fun k=>sumL_bd (fun p hp=>(wLo_bd g (hi1 p (List.mem_of_mem_take hp)).1 (hi1 p (List.mem_of_mem_take hp)).2).1) yfv yfc
    have bH:∀k,0≤Zg (wHi m) (high.take k)∧Zg (wHi m) (high.take k)≤1000*10000:=fun k=>sumL_bd (fun p hp=>(wLo_bd g (hi2 p (List.mem_of_mem_take hp)).1 (hi2 p (List.mem_of_mem_take hp)).2).2) yfv yfc
    refine Zi low.length (fun k s=>∃tm h',s=⟨tm,h',[]⟩∧h9.Sub h'∧tm.E 2=X∧tm.E 3=Y∧tm.E 4=.ptr h.next 0∧tm.E 16=.ii (Zg (wLo m) (low.take k))∧tm.E 17=.ii 0∧tm.E 18=.ii (k:Int))
     ?_ ?_ (i:=0) (Nat.zero_le _) ⟨_,_,rfl,H.Sub.refl s9.wf,yff,yfg,yfh,yfb,yfb,yfb⟩
    ·clear t1 t2 t3 t4 t13
     rintro k s hk ⟨tm,h',rfl,hsk,t2,t3,t4,t16,t17,t18⟩
     have hk':(k:Int)<(low.length:Int):=by omega
     have hs2:=s9.trans hsk
     have gmk:=hsk.cells gm9
     obtain⟨b2,o2,c2,cs2,e2,hcs2,hq2,hgg2,hn2,hn02⟩:=(hX.mono hs2).at hk
     have v2:=hn02 yfc
     obtain⟨p0,p1⟩:=hi1 _ (List.getElem_mem hk)
     obtain⟨p,ep⟩:=Int.eq_ofNat_of_zero_le p0
     have hp:p<m.wgs.length:=by omega
     simp only[encI,ep] at v2
     have e1:=Yu (wLo m) hk
     rw[ep,wLo_at hp] at e1
     have bk:=bL k
     have bk1:=bL (k+1)
     simp(disch:=omega)only[go_sem,t2,t3,t4,t16,t17,t18,hlenX,hk',hq2 (Zb k),hcs2,v2,gmk]
     refine V5 hs2.wf (hm0.mono hs2) g hp _ fun hB sB=>?_
     simp(disch:=omega)only[go_sem,t2,t3,t4,t16,t17,t18,hq2 (Zb k),hcs2,sB.cells hcs2,v2,gmk,sB.cells gmk,ZD,Ze]
     exact⟨_,_,rfl,hsk.trans sB,yff,yfg,yfh,by rw[e1];exact yfb,yfA,yfb⟩
    ·clear t1 t2 t3 t4 t13
     rintro s ⟨tm,hC,rfl,s9C,t2,t3,t4,t16,t17,t18⟩
     rw[List.take_length] at t16
     have bLl:=bL low.length
     rw[List.take_length] at bLl
     have sC:=s9.trans s9C
     have gmC:=s9C.cells gm9
     simp(disch:=omega)only[go_sem,t2,t3,t4,t16,t17,t18,hlenX,Int.lt_irrefl]
     refine Zi high.length (fun k s=>∃tm h',s=⟨tm,h',[]⟩∧hC.Sub h'∧tm.E 3=Y∧tm.E 4=.ptr h.next 0∧tm.E 16=.ii (Zg (wLo m) low)∧tm.E 17=.ii (Zg (wHi m) (high.take k))∧tm.E 21=.ii (k:Int))
      ?_ ?_ (i:=0) (Nat.zero_le _) ⟨_,_,rfl,H.Sub.refl sC.wf,yfg,yfh,(by simp[Zn,Zd,t16]<;>rfl),yfA,yfb⟩
     ·clear t2 t3 t4 t16 t17 t18
      rintro k s hk ⟨tm,h',rfl,hsk,t3,t4,t16,t17,t21⟩
      have hk':(k:Int)<(high.length:Int):=by omega
      have hs2:=sC.trans hsk
      have gmk:=hsk.cells gmC
      obtain⟨b2,o2,c2,cs2,e2,hcs2,hq2,hgg2,hn2,hn02⟩:=(hY.mono hs2).at hk
      have v2:=hn02 yfc
      obtain⟨p0,p1⟩:=hi2 _ (List.getElem_mem hk)
      obtain⟨p,ep⟩:=Int.eq_ofNat_of_zero_le p0
      have hp:p<m.wgs.length:=by omega
      simp only[encI,ep] at v2
      have e1:=Yu (wHi m) hk
      rw[ep,wHi_at hp] at e1
      have bk:=bH k
      have bk1:=bH (k+1)
      simp(disch:=omega)only[go_sem,t3,t4,t16,t17,t21,hlenY,hk',hq2 (Zb k),hcs2,v2,gmk]
      refine V5 hs2.wf (hm0.mono hs2) g hp _ fun hB sB=>?_
      simp(disch:=omega)only[go_sem,t3,t4,t16,t17,t21,hq2 (Zb k),hcs2,sB.cells hcs2,v2,gmk,sB.cells gmk,ZD,Ze]
      exact⟨_,_,rfl,hsk.trans sB,yfg,yfh,(by simp[Zn,Zd,t16]<;>rfl),by rw[e1];exact yfb,yfb⟩
     ·clear t2 t3 t4 t16 t17 t18
      rintro s ⟨tm,hD,rfl,sCD,t3,t4,t16,t17,t21⟩
      rw[List.take_length] at t17
      have bHl:=bH high.length
      rw[List.take_length] at bHl
      have sD:=sC.trans sCD
      by_cases hh0:high=[]
      ·have hl1:(high.length:Int)=0:=by rw[hh0];rfl
       have eH:X7 m high=10000:=by unfold X7;rw[if_pos hh0]
       have hl2:¬(0:Int)<0:=by omega
       by_cases hc:Zg (wLo m) low≤10000
       ·simp(disch:=omega)only[go_sem,t3,t4,t16,t17,t21,hlenY,hl1,hl2,hc]
        exact q 0 6 _ sD (.inr ⟨hBase,.inr ⟨hPr,.inl ⟨by rw[eH];exact hc,rfl,rfl⟩⟩⟩)
       ·simp(disch:=omega)only[go_sem,t3,t4,t16,t17,t21,hlenY,hl1,hl2,hc,ZD]
        exact q _ 0 _ sD (.inr ⟨hBase,.inr ⟨hPr,.inr ⟨by rw[eH];unfold sumLow;omega,by rw[eH];rfl,rfl⟩⟩⟩)
      ·have hl1:¬(high.length:Int)=0:=by have:=List.length_pos_iff.2 hh0;omega
       have eH:X7 m high=Zg (wHi m) high:=by unfold X7;rw[if_neg hh0]
       by_cases hc:Zg (wLo m) low≤Zg (wHi m) high
       ·simp(disch:=omega)only[go_sem,t3,t4,t16,t17,t21,hlenY,hl1,Int.lt_irrefl,hc]
        exact q 0 6 _ sD (.inr ⟨hBase,.inr ⟨hPr,.inl ⟨by rw[eH];exact hc,rfl,rfl⟩⟩⟩)
       ·simp(disch:=omega)only[go_sem,t3,t4,t16,t17,t21,hlenY,hl1,Int.lt_irrefl,hc,ZD]
        exact q _ 0 _ sD (.inr ⟨hBase,.inr ⟨hPr,.inr ⟨by rw[eH];unfold sumLow;omega,by rw[eH];rfl,rfl⟩⟩⟩)
end Go.Ab.Tryz
namespace Go.Ab.Tryz
open Go.Ab.Silk
theorem apart_lt {m:Ml}(g:Good m){l:List Int}(hin:InW m l):l.Pairwise (Apart m)↔∀i k (hi:i<l.length) (hk:k<i),¬wl m (l[k]' yfc)∈line m (wl m l[i])∧¬wl m l[i]∈line m (wl m (l[k]' yfc)):=by
 have e:∀i j (hi:i<l.length) (hj:j<l.length),wl m l[i]∈line m (wl m l[j])↔Anc (ZS m) (wl m l[j]) (wl m l[i]):=fun i j hi hj=>by
  have:=hin _ (List.getElem_mem hj)
  have w:=wl_in g this.1 this.2
  exact Xa g w.1 w.2
 rw[List.pairwise_iff_getElem]
 constructor
 ·intro h i k hi hk
  have:=h k i yfc hi hk
  exact⟨fun a=>this.2 ((e k i yfc hi).1 a),fun a=>this.1 ((e i k hi yfc).1 a)⟩
 ·intro h i j hi hj hij
  have:=h j i hj hij
  exact⟨fun a=>this.2 ((e j i hj hi).2 a),fun a=>this.1 ((e i j hi hj).2 a)⟩
set_option maxHeartbeats 1000000 in
theorem beside_ev {h hb:H}{d:Nat}{x:V}{m:Ml}{l:List Int}(hw:h.wf)(hd:WL h d m)(g:Good m)(hx:ZK hb h x 1 (l.map encI))(hl:l.length≤1000)(hin:InW m l)(Q:V→H→Prop)(q:∀t h',h.Sub h'→(t=true↔l.Pairwise (Apart m))→Q (.bool t) h'):Ev fnG Zm (.fn 130 [] []) [.ptr d 0,x] h Q:=by
 have hd0:=hd
 obtain⟨pm,al,L,W,g1,g2,aL,aW,ap⟩:=hd
 have aX:=hx.sl yfe
 have hlen:=aX.lenE
 have gl:=g.lots
 refine Zf (fd:=c130) rfl rfl rfl ?_
 have hap:=apart_lt g hin
 simp(disch:=omega)only[c130,go_sem,hlen]
 refine Zi l.length (fun i s=>∃tm h',s=⟨tm,h',[]⟩∧h.Sub h'∧(∀i' k (hi:i'<l.length) (hk:k<i'),i'<i→¬wl m (l[k]' yfc)∈line m (wl m l[i'])∧¬wl m l[i']∈line m (wl m (l[k]' yfc)))∧
   tm.E 0=.ptr d 0∧tm.E 1=x∧tm.E 11=x∧tm.E 12=.ii (l.length:Int)∧tm.E 13=.ii (i:Int))
  ?_ ?_ (i:=0) (Nat.zero_le _) ⟨_,_,rfl,H.Sub.refl hw,fun i' k _ _ h=>by omega,yfb,yfb,yfb,yfb,yfb⟩
 ·rintro i s hi ⟨tm,h',rfl,hs,hno,t0,t1,t11,t12,t13⟩
  have hi':(i:Int)<(l.length:Int):=by omega
  obtain⟨b1,o1,c1,cs1,e1,hcs1,hq1,hgg1,hn1,hn01⟩:=(aX.mono hs).at hi
  have v1:=hn01 yfc
  obtain⟨p0,p1⟩:=hin _ (List.getElem_mem hi)
  obtain⟨p,ep⟩:=Int.eq_ofNat_of_zero_le p0
  have hp:p<m.wgs.length:=by omega
  have w1:wl m l[i]=m.wgs[p].lot:=by rw[ep,wl_at hp]
  have r1:=wl_in g p0 p1
  rw[w1] at r1
  simp only[encI,ep] at v1
  obtain⟨y,hy,aY⟩:=(hx.mono hs).to (kd:=.i64) (k:=i) yfe yfe yfe
  rw[←List.map_take] at aY
  have hlenY:=aY.lenE
  rw[List.length_take,Nat.min_eq_left yfc] at hlenY
  simp(disch:=omega)only[go_sem,t0,t1,t11,t12,t13,hi',hq1 (Zb i),hcs1,v1,q_slc_to,hy,hlenY]
  refine Zi i (fun k s=>∃tm h2,s=⟨tm,h2,[]⟩∧h'.Sub h2∧(∀k' (hk:k'<i),k'<k→¬wl m (l[k']' yfc)∈line m (wl m l[i])∧¬wl m l[i]∈line m (wl m (l[k']' yfc)))∧
    tm.E 0=.ptr d 0∧tm.E 1=x∧tm.E 6=.ii (p:Int)∧tm.E 11=x∧tm.E 12=.ii (l.length:Int)∧tm.E 13=.ii (i:Int)∧tm.E 20=y∧tm.E 21=.ii (i:Int)∧tm.E 22=.ii (k:Int))
   ?_ ?_ (i:=0) (Nat.zero_le _) ⟨_,_,rfl,H.Sub.refl hs.wf,fun k' _ h=>by omega,yfk,yfd,yfb,yft,yfD,yfu,yfb,yfb,yfb⟩
  ·clear t0 t1 t11 t12 t13
   rintro k s hk ⟨tm,h2,rfl,hs2,hnk,t0,t1,t6,t11,t12,t13,t20,t21,t22⟩
   have hk':(k:Int)<(i:Int):=by omega
   have hkl:k<l.length:=by omega
   have hS:=hs.trans hs2
   have hkt:k<(l.take i).length:=by rw[List.length_take];omega
   obtain⟨b2,o2,c2,cs2,e2,hcs2,hq2,hgg2,hn2,hn02⟩:=(aY.mono hs2).at hkt
   have v2:=hn02 yfc
   rw[List.getElem_take] at v2
   obtain⟨r0,r1'⟩:=hin _ (List.getElem_mem hkl)
   obtain⟨r,er⟩:=Int.eq_ofNat_of_zero_le r0
   have hr:r<m.wgs.length:=by omega
   have w2:wl m l[k]=m.wgs[r].lot:=by rw[er,wl_at hr]
   have r2:=wl_in g r0 r1'
   rw[w2] at r2
   simp only[encI,er] at v2
   obtain⟨b3,o3,c3,cs3,e3,hcs3,hq3,hgg3,hn3,hn03⟩:=(aW.mono hS).at hp
   obtain⟨b4,o4,c4,cs4,e4,hcs4,hq4,hgg4,hn4,hn04⟩:=(aW.mono hS).at hr
   simp(disch:=omega)only[go_sem,t0,t1,t6,t11,t12,t13,t20,t21,t22,hk',hq2 (Zb k),hcs2,v2,Za (hS.get g1),hq3 (Zb p),hq4 (Zb r),hcs3,hcs4,hn03 yfc,hn04 yfc,Zy]
   refine WG hS.wf (hd0.mono hS) g yfc r1.2 _ fun y1 h5 o5=>?_
   have a5:=o5.sl (by have:=line_le m m.wgs[p].lot;simp only[List.length_map];omega)
   have s5:=o5.1
   have nx:(¬m.wgs[r].lot∈line m m.wgs[p].lot∧¬m.wgs[p].lot∈line m m.wgs[r].lot)→∀k' (hk:k'<i),k'<k+1→¬wl m (l[k']' yfc)∈line m (wl m l[i])∧¬wl m l[i]∈line m (wl m (l[k']' yfc)):=fun hn k' hk' hlt=>by
    by_cases e:k'=k
    ·subst e;rw[w1,w2];exact hn
    ·exact hnk k' hk' yfc
   have fail:¬(¬m.wgs[r].lot∈line m m.wgs[p].lot∧¬m.wgs[p].lot∈line m m.wgs[r].lot)→¬l.Pairwise (Apart m):=fun hn hp2=>hn (by
    have:=hap.1 hp2 i k hi hk
    rw[w1,w2] at this;exact this)
   by_cases h1:m.wgs[r].lot∈line m m.wgs[p].lot
   ·simp(disch:=omega)only[go_sem,t0,t1,t6,t11,t12,t13,t20,t21,t22,YX a5,h1,decide_true]
    exact q false _ (hS.trans s5) ⟨fun h=>yfC,fun h=>absurd h (fail fun h=>h.1 h1)⟩
   ·simp(disch:=omega)only[go_sem,t0,t1,t6,t11,t12,t13,t20,t21,t22,YX a5,h1,decide_false]
    refine WG (hS.trans s5).wf (hd0.mono (hS.trans s5)) g yfc r2.2 _ fun y2 h6 o6=>?_
    have a6:=o6.sl (by have:=line_le m m.wgs[r].lot;simp only[List.length_map];omega)
    have s6:=o6.1
    by_cases h2:m.wgs[p].lot∈line m m.wgs[r].lot
    ·simp(disch:=omega)only[go_sem,t0,t1,t6,t11,t12,t13,t20,t21,t22,YX a6,h2,decide_true]
     exact q false _ (hS.trans (s5.trans s6)) ⟨fun h=>yfC,fun h=>absurd h (fail fun h=>h.2 h2)⟩
    ·simp(disch:=omega)only[go_sem,t0,t1,t6,t11,t12,t13,t20,t21,t22,YX a6,h2,decide_false,Ze]
     exact⟨_,_,rfl,hs2.trans (s5.trans s6),nx ⟨h1,h2⟩,yfk,yfd,yfj,yft,yfD,yfu,yfB,(by simp[Zn,Zd,t21]<;>rfl),yfb⟩
  ·clear t0 t1 t11 t12 t13
   rintro s ⟨tm,h2,rfl,hs2,hnk,t0,t1,t6,t11,t12,t13,t20,t21,t22⟩
   simp(disch:=omega)only[go_sem,t0,t1,t6,t11,t12,t13,t20,t21,t22,Int.lt_irrefl,Ze]
   refine⟨_,_,rfl,hs.trans hs2,fun i' k hi2 hk2 hlt=>?_,yfk,yfd,yft,yfD,yfb⟩
   by_cases e:i'=i
   ·subst e;exact hnk k hk2 hk2
   ·exact hno i' k hi2 hk2 yfc
 ·rintro s ⟨tm,h',rfl,hs,hno,t0,t1,t11,t12,t13⟩
  simp(disch:=omega)only[go_sem,t0,t1,t11,t12,t13,Int.lt_irrefl]
  exact q true _ hs ⟨fun _=>hap.2 fun i k hi hk=>hno i k hi hk hi,fun _=>rfl⟩
theorem within_pure {h:H}{d cd cp:Nat}{m:Ml}{lot:Int}{X Y:V}(hd:WL h d m)(g:Good m)(e1:h.cells cd=some [.ptr d 0])(e2:h.cells cp=some [.ii lot,X,Y]){a:Int}(a0:0≤a)(a1:a<m.wgs.length):
  Yy h (.fn 129 [] [.ptr cd 0,.ptr cp 0]) [.ii a] (.bool (decide (lot∈line m (wl m a)))):=fun h1 hs=>by
 obtain⟨p,rfl⟩:=Int.eq_ofNat_of_zero_le a0
 have hp:p<m.wgs.length:=by omega
 have r:=wl_in g a0 a1
 rw[wl_at hp] at r⊢
 have hd1:=hd.mono hs
 have hd0:=hd1
 obtain⟨pm,al,L,W,g1,g2,aL,aW,ap⟩:=hd1
 obtain⟨b3,o3,c3,cs3,e3,hcs3,hq3,hgg3,hn3,hn03⟩:=aW.at hp
 refine Ev.gen fun Q q=>?_
 refine Zf (fd:=c129) rfl rfl rfl ?_
 simp(disch:=omega)only[c129,go_sem,hs.cells e1,Za g1,hq3 (Zb p),hcs3,hn03 yfc,Zy]
 refine WG hs.wf hd0 g yfc r.2 _ fun y1 h5 o5=>?_
 have a5:=o5.sl (by have:=line_le m m.wgs[p].lot;simp only[List.length_map];omega)
 have s5:=o5.1
 simp(disch:=omega)only[go_sem,hs.cells e1,s5.cells (hs.cells e1),Za g1,Za (s5.get g1),hcs3,s5.cells hcs3,hn03 yfc,Zy,hs.cells e2,s5.cells (hs.cells e2),YX a5]
 exact q _ _ ⟨rfl,s5⟩
theorem other_pure {h:H}{d cd cw:Nat}{m:Ml}{w:Int}(hd:WL h d m)(g:Good m)(e1:h.cells cd=some [.ptr d 0])(e2:h.cells cw=some [.ii w])(w0:0≤w)(w1:w<m.lots.length){a:Int}(a0:0≤a)(a1:a<m.wgs.length):
  Yy h (.fn 132 [] [.ptr cd 0,.ptr cw 0]) [.ii a] (.bool (!decide (wl m a∈line m w))):=fun h1 hs=>by
 obtain⟨p,rfl⟩:=Int.eq_ofNat_of_zero_le a0
 have hp:p<m.wgs.length:=by omega
 rw[wl_at hp]
 have hd1:=hd.mono hs
 have hd0:=hd1
 obtain⟨pm,al,L,W,g1,g2,aL,aW,ap⟩:=hd1
 obtain⟨b3,o3,c3,cs3,e3,hcs3,hq3,hgg3,hn3,hn03⟩:=aW.at hp
 refine Ev.gen fun Q q=>?_
 refine Zf (fd:=c132) rfl rfl rfl ?_
 simp(disch:=omega)only[c132,go_sem,hs.cells e1,hs.cells e2]
 refine WG hs.wf hd0 g yfc w1 _ fun y1 h5 o5=>?_
 have a5:=o5.sl (by have:=line_le m w;simp only[List.length_map];omega)
 have s5:=o5.1
 simp(disch:=omega)only[go_sem,hs.cells e1,hs.cells e2,s5.cells (hs.cells e1),s5.cells (hs.cells e2),Za g1,Za (s5.get g1),hq3 (Zb p),hcs3,s5.cells hcs3,hn03 yfc,Zy,YX a5]
 exact q _ _ ⟨rfl,s5⟩
theorem cover_all {m:Ml}(g:Good m){lot:Int}{high:List Int}(hin:InW m high):Cover m lot high↔AllOk m (fun w=>high=[]∨∃a∈high,wl m a∈line m w) lot:=by
 constructor
 ·rintro(h|h) w w0 w1 hw ha
  ·exact .inl h
  ·obtain⟨a,h1,h2⟩:=h w w0 w1 hw ha
   exact .inr ⟨a,h1,(Xa g w0 w1).2 h2⟩
 ·intro h
  by_cases e:high=[]
  ·exact .inl e
  ·refine .inr fun w w0 w1 hw ha=>?_
   rcases h w w0 w1 hw ha with h|⟨a,h1,h2⟩
   ·exact absurd h e
   ·exact⟨a,h1,(Xa g w0 w1).1 h2⟩
set_option maxRecDepth 4000 in
set_option maxHeartbeats 4000000 in
theorem proof_ev {h hb:H}{d:Nat}{X Y:V}{m:Ml}{low high:List Int}{lot:Nat}(hw:h.wf)(hd:WL h d m)(g:Good m)(hlot:lot<m.lots.length)(hX:ZK hb h X 1 (low.map encI))(hY:ZK hb h Y 1 (high.map encI))(hl:low.length≤1000)(hh:high.length≤1000)
  (hi1:InW m low) (hi2:InW m high) (Q:V→H→Prop) (q:∀t h',h.Sub h'→(t=true↔WV m (lot:Int) low high)→Q (.bool t) h'):Ev fnG Zm (.fn 82 [] []) [.ptr d 0,.agg [.ii (lot:Int),X,Y]] h Q:=by
 have X1:=hX.one
 have Y1:=hY.one
 have aX:=hX.sl yfe
 have aY:=hY.sl yfe
 have hlenY:=aY.lenE
 have hl0:(0:Int)≤(lot:Int):=by omega
 have hl1:(lot:Int)<(m.lots.length:Int):=by omega
 refine Zf (fd:=c82) rfl rfl rfl ?_
 have s1:h.Sub (((h.add (.bk [.ptr d 0])).add (.bk [.ii (lot:Int),X,Y])).add (.bk [.bool false])):=yfa
 have e1:(((h.add (.bk [.ptr d 0])).add (.bk [.ii (lot:Int),X,Y])).add (.bk [.bool false])).cells h.next=some [.ptr d 0]:=by simp -implicitDefEqProofs(disch:=first|omega|simp only[nZ]<;>omega|fail)only[go_sem]
 have e2:(((h.add (.bk [.ptr d 0])).add (.bk [.ii (lot:Int),X,Y])).add (.bk [.bool false])).cells (h.next+1)=some [.ii (lot:Int),X,Y]:=by simp -implicitDefEqProofs(disch:=first|omega|simp only[nZ]<;>omega|fail)only[go_sem]
 have e3:(((h.add (.bk [.ptr d 0])).add (.bk [.ii (lot:Int),X,Y])).add (.bk [.bool false])).get (h.next+1+1)=some (.bk [.bool false]):=by simp -implicitDefEqProofs(disch:=first|omega|simp only[nZ]<;>omega|fail)only[go_sem]
 have l1:(((h.add (.bk [.ptr d 0])).add (.bk [.ii (lot:Int),X,Y])).add (.bk [.bool false])).next=h.next+3:=by simp only[H.next_add]
 simp -implicitDefEqProofs(disch:=first|omega|simp only[nZ]<;>omega|fail)only[c82,go_sem,X1,Y1,cells_one X1,cells_one Y1]
 generalize(((h.add (.bk [.ptr d 0])).add (.bk [.ii (lot:Int),X,Y])).add (.bk [.bool false]))=h1 at s1 e1 e2 e3 l1⊢
 have hd1:=hd.mono s1
 have wiff:∀l:List Int,InW m l→((l.all fun a=>decide ((lot:Int)∈line m (wl m a)))=true↔Within m (lot:Int) l):=fun l hi=>by
  rw[List.all_eq_true]
  constructor
  ·intro h a ha
   have:=h a ha
   rw[decide_eq_true_eq] at this
   have r:=wl_in g (hi a ha).1 (hi a ha).2
   exact(Xa g r.1 r.2).1 this
  ·intro h a ha
   rw[decide_eq_true_eq]
   have r:=wl_in g (hi a ha).1 (hi a ha).2
   exact(Xa g r.1 r.2).2 (h a ha)
 refine(Xp (p:=fun a=>decide ((lot:Int)∈line m (wl m a))) s1.wf (aX.mono s1) fun a ha=>within_pure hd1 g e1 e2 (hi1 a ha).1 (hi1 a ha).2).mono fun u h2 hu=>?_
 obtain⟨rfl,s12⟩:=hu
 have s2:=s1.trans s12
 have r2:=s12.get e3
 have l2:=s12.next
 cases c1:low.all fun a=>decide ((lot:Int)∈line m (wl m a))
 ·have hno:¬WV m (lot:Int) low high:=fun hp=>by rw[(wiff low hi1).2 hp.1.1] at c1;cases c1
  simp(disch:=omega)only[go_sem,Bool.not_false,r2,Za r2]
  exact q false _ (s2.set yfc yfc hw _) ⟨fun h=>yfC,fun h=>absurd h hno⟩
 have hW1:=(wiff low hi1).1 c1
 simp(disch:=omega)only[go_sem,Bool.not_true,s12.cells e2]
 refine(Xp (p:=fun a=>decide ((lot:Int)∈line m (wl m a))) s2.wf (aY.mono s2) fun a ha=>within_pure (hd1.mono s12) g (s12.cells e1) (s12.cells e2) (hi2 a ha).1 (hi2 a ha).2).mono fun u h3 hu=>?_
 obtain⟨rfl,s23⟩:=hu
 have s3:=s2.trans s23
 have r3:=s23.get r2
 have l3:=s23.next
 cases c2:high.all fun a=>decide ((lot:Int)∈line m (wl m a))
 ·have hno:¬WV m (lot:Int) low high:=fun hp=>by rw[(wiff high hi2).2 hp.1.2] at c2;cases c2
  simp(disch:=omega)only[go_sem,Bool.not_false,r3,Za r3]
  exact q false _ (s3.set yfc yfc hw _) ⟨fun h=>yfC,fun h=>absurd h hno⟩
 have hW2:=(wiff high hi2).1 c2
 have s13:=s12.trans s23
 simp(disch:=omega)only[go_sem,Bool.not_true,s13.cells e1,s13.cells e2]
 refine beside_ev s3.wf (hd1.mono s13) g (hX.mono s3) hl hi1 _ fun ta h4 s34 hta=>?_
 have s4:=s3.trans s34
 have r4:=s34.get r3
 have l4:=s34.next
 cases ta
 ·have hno:¬WV m (lot:Int) low high:=fun hp=>by have:=hta.2 hp.2.1.1;cases this
  simp(disch:=omega)only[go_sem,Bool.not_false,r4,Za r4]
  exact q false _ (s4.set yfc yfc hw _) ⟨fun h=>yfC,fun h=>absurd h hno⟩
 have hA1:=hta.1 rfl
 have s14:=s13.trans s34
 simp(disch:=omega)only[go_sem,Bool.not_true,s14.cells e1,s14.cells e2]
 refine beside_ev s4.wf (hd1.mono s14) g (hY.mono s4) hh hi2 _ fun tb h5 s45 htb=>?_
 have s5:=s4.trans s45
 have r5:=s45.get r4
 have l5:=s45.next
 cases tb
 ·have hno:¬WV m (lot:Int) low high:=fun hp=>by have:=htb.2 hp.2.1.2;cases this
  simp(disch:=omega)only[go_sem,Bool.not_false,r5,Za r5]
  exact q false _ (s5.set yfc yfc hw _) ⟨fun h=>yfC,fun h=>absurd h hno⟩
 have hA2:=htb.1 rfl
 have s15:=s14.trans s45
 simp(disch:=omega)only[go_sem,Bool.not_true,s15.cells e1,s15.cells e2]
 refine Zf (fd:=c131) rfl rfl rfl ?_
 have s56:h5.Sub ((h5.add (.bk [.ptr d 0])).add (.bk [.ii (lot:Int)])):=((H.Sub.refl s5.wf).add _).add _
 have k1:((h5.add (.bk [.ptr d 0])).add (.bk [.ii (lot:Int)])).cells h5.next=some [.ptr d 0]:=by simp -implicitDefEqProofs(disch:=first|omega|simp only[nZ]<;>omega|fail)only[go_sem]
 have k2:((h5.add (.bk [.ptr d 0])).add (.bk [.ii (lot:Int)])).cells (h5.next+1)=some [.ii (lot:Int)]:=by simp -implicitDefEqProofs(disch:=first|omega|simp only[nZ]<;>omega|fail)only[go_sem]
 have l56:((h5.add (.bk [.ptr d 0])).add (.bk [.ii (lot:Int)])).next=h5.next+2:=by simp only[H.next_add]
 simp(disch:=omega)only[c131,go_sem]
 generalize((h5.add (.bk [.ptr d 0])).add (.bk [.ii (lot:Int)]))=h6 at s56 k1 k2 l56⊢
 refine W_gen (P:=fun tm=>tm.E 2=.ptr h.next 0∧tm.E 3=.ptr (h.next+1) 0∧tm.E 4=.ptr (h.next+1+1) 0∧tm.E 37=.fn 160 [] [.ptr h5.next 0,.ptr (h5.next+1) 0]) ⟨yfb,yfb,yfb,yfb⟩ fun tm ⟨t2,t3,t4,t37⟩=>?_
 refine W_rf t37 ?_
 generalize hr:WJ.mk _ _ _ _ _ _ _ _ _=r0
 have w6:=(s5.trans s56).wf
 have w1:=s1.wf
 have s6B:h6.Sub (h6.add .dfr):=(H.Sub.refl w6).add _
 have s16:=s15.trans s56
 have l6:=s16.next
 have lB:(h6.add .dfr).next=h6.next+1:=H.next_add _ _
 have s1B:=s16.trans s6B
 have gB:(h6.add .dfr).get h6.next=some .dfr:=Zo rfl
 have hdB:=hd1.mono s1B
 have fB:=congrArg WJ.body hr
 have fA:=congrArg WJ.assign hr
 have fN:=congrArg WJ.n hr
 have fF:=congrArg WJ.fn hr
 have fP:=congrArg WJ.ps hr
 have fT:=congrArg WJ.tm hr
 dsimp only at fB fA fN fF fP fT
 have hrs:r0.st=.ready:=by rw[←hr]
 have hrp:r0.pend=none:=by rw[←hr]
 obtain⟨I,hI⟩:∃I:H→Prop,∀x,I x↔(h6.add .dfr).Sub x∧x.get (h6.next+1)=some (.loop r0):=⟨_,fun _=>Iff.rfl⟩
 obtain⟨S,hS⟩:∃S:H→Prop,∀x,S x↔h.Sub x∧x.get (h.next+1+1)=some (.bk [.bool false])∧x.get h6.next=some .dfr∧h6.next+1<x.next∧∃r,x.get (h6.next+1)=some (.loop r)∧r.st=.done∧r.pend=some .ret:=⟨_,fun _=>Iff.rfl⟩
 have env:GenEnv (h6.add .dfr) (h6.next+1) I:=⟨fun x hx=>((hI x).1 hx).1,fun x y hx hs=>(hI y).2 ⟨((hI x).1 hx).1.trans hs,hs.get ((hI x).1 hx).2⟩,fun x hx=>((hI x).1 hx).1.wf _ _ ((hI x).1 hx).2⟩
 have hcv:=cover_all (lot:=(lot:Int)) g hi2
 have hY5:=hY.mono (s1.trans s1B)
 refine whole1_gen (S:=S) (ok:=fun w=>high=[]∨∃a∈high,wl m a∈line m w) env g hdB rfl (fun w w0' w1' hleaf hx hIx=>?_) yfc hlot ((hI _).2 ⟨(H.Sub.refl (H.wf_add w6 _)).add _,Zo (by rw[lB])⟩) (by rw[Xc (by omega),Xc (by omega)];exact k1) (by rw[Xc (by omega),Xc (by omega)];exact k2) _ fun u h7 hu=>?_
 ·obtain⟨sx,gx⟩:=(hI _).1 hIx
  have lx:=sx.next
  have gxd:=sx.get gB
  have wx:=sx.wf
  have hlx:=wx _ _ gx
  unfold GenE
  refine Ev.gen fun Q2 q2=>?_
  refine Ev_yld (tm:=tm.put (some (.ii w)) 38) gx (by rw[←fP,←fT];rfl) ?_
  rw[←fA,←fN,←fF]
  have sx2:hx.Sub (hx.add (.bk [.ii w])):=(H.Sub.refl wx).add _
  have gw:(hx.add (.bk [.ii w])).cells hx.next=some [.ii w]:=Zh rfl
  have lw:(hx.add (.bk [.ii w])).next=hx.next+1:=H.next_add _ _
  simp(disch:=omega)only[go_sem,t2,t3,t4]
  unfold Kasg
  refine⟨rfl,r0,sx2.get gx,hrs,?_⟩
  obtain⟨rb,hrb⟩:∃rb:WJ,rb={r0 with st:=.busy}:=⟨_,rfl⟩
  have hrb1:({rb with st:=.ready,pend:=none}:WJ)=r0:=by rw[hrb];cases r0;simp_all
  rw[←hrb,←fB,←fN,←fF]
  generalize hx.add (.bk [.ii w])=hy at sx2 gw lw⊢
  have sB3:(h6.add .dfr).Sub (hy.set (h6.next+1) (.loop rb)):=(sx.trans sx2).set yfc yfc (H.wf_add w6 _) _
  have s13x:=s1B.trans sB3
  have k3:Kl (h6.next+1) hx (hy.set (h6.next+1) (.loop rb)):=Kl.trans (Zq.of sx2 _) (Zq.set _ _ _)
  have g3:(hy.set (h6.next+1) (.loop rb)).get (h6.next+1)=some (.loop rb):=get_set_same rfl
  have c3:(hy.set (h6.next+1) (.loop rb)).cells hx.next=some [.ii w]:=by rw[WR yfc];exact gw
  have l3':(hy.set (h6.next+1) (.loop rb)).next=hx.next+1:=by rw[H.next_set];exact lw
  generalize hy.set (h6.next+1) (.loop rb)=h3y at sB3 s13x k3 g3 c3 l3'⊢
  have wy:=sB3.wf
  have fin:∀h4:H,h3y.Sub h4→I (h4.set (h6.next+1) (.loop {rb with st:=.ready,pend:=none}))∧Kl (h6.next+1) hx (h4.set (h6.next+1) (.loop {rb with st:=.ready,pend:=none})):=fun h4 s4=>by
   have:=s4.next
   exact⟨(hI _).2 ⟨(sB3.trans s4).set yfc yfc (H.wf_add w6 _) _,by rw[get_set_same rfl,hrb1]⟩,Kl.trans (Kl.trans k3 (Zq.of s4 _)) (Zq.set _ _ _)⟩
  by_cases hh0:high=[]
  ·have hl0':¬0<(high.length:Int):=by rw[hh0];simp
   simp(disch:=omega)only[go_sem,t2,t3,t4,s13x.cells e2,hlenY,hl0']
   unfold Kround
   exact⟨rb,g3,q2 _ _ (.inl ⟨.inl hh0,rfl,(fin _ (H.Sub.refl wy)).1,(fin _ (H.Sub.refl wy)).2⟩)⟩
  ·have hl0':0<(high.length:Int):=by have:=List.length_pos_iff.2 hh0;omega
   simp(disch:=omega)only[go_sem,t2,t3,t4,s13x.cells e2,hlenY,hl0']
   refine(Xp (p:=fun a=> !decide (wl m a∈line m w)) wy ((hY5.mono sB3).sl yfe) fun a ha=>other_pure (hdB.mono sB3) g (s13x.cells e1) c3 w0' w1' (hi2 a ha).1 (hi2 a ha).2).mono fun u h4 hu=>?_
   obtain⟨rfl,s34y⟩:=hu
   cases call:high.all fun a=> !decide (wl m a∈line m w)
   ·have hok:∃a∈high,wl m a∈line m w:=by
     rw[List.all_eq_false] at call
     obtain⟨a,ha,hn⟩:=call
     refine⟨a,ha,?_⟩
     simpa using hn
    simp(disch:=omega)only[go_sem,t2,t3,t4]
    unfold Kround
    exact⟨rb,s34y.get g3,q2 _ _ (.inl ⟨.inr hok,rfl,(fin _ s34y).1,(fin _ s34y).2⟩)⟩
   ·have hno:¬(high=[]∨∃a∈high,wl m a∈line m w):=fun h=>by
     rcases h with h|⟨a,ha,h2⟩
     ·exact hh0 h
     ·rw[List.all_eq_true] at call
      have:=call a ha
      simp[h2] at this
    have r4y:=(s13x.trans s34y).get e3
    have l4y:=s34y.next
    have gd4:=(sB3.trans s34y).get gB
    simp(disch:=omega)only[go_sem,t2,t3,t4,r4y,Za r4y]
    unfold Kround
    refine⟨rb,by rw[get_set_other yfc];exact s34y.get g3,q2 _ _ (.inr ⟨hno,rfl,(hS _).2 ⟨?_,?_,?_,?_,_,get_set_same rfl,rfl,rfl⟩⟩)⟩
    ·exact(((s1.trans s13x).trans s34y).set yfc yfc hw _).set yfc (by rw[H.next_set];omega) hw _
    ·rw[get_set_other yfc,get_set_same rfl]
    ·rw[get_set_other yfc,get_set_other yfc];exact gd4
    ·rw[H.next_set,H.next_set];omega
 ·rcases hu with⟨hall,hI7⟩|⟨hall,hS7⟩
  ·obtain⟨s7,g7⟩:=(hI _).1 hI7
   have hP:WV m (lot:Int) low high:=⟨⟨hW1,hW2⟩,⟨hA1,hA2⟩,hcv.2 hall⟩
   have l7:=s7.next
   have lt7:=s7.wf _ _ g7
   have gd7:=s7.get gB
   have r7:=(s1B.trans s7).get e3
   refine⟨r0,g7,by rw[hrs];simp,?_⟩
   rw[hrp]
   have s77:h.Sub (h7.set (h6.next+1) (.loop {r0 with st:=.exhausted})):=((s1.trans s1B).trans s7).set yfc yfc hw _
   have r77:(h7.set (h6.next+1) (.loop {r0 with st:=.exhausted})).get (h.next+1+1)=some (.bk [.bool false]):=by rw[get_set_other yfc];exact r7
   have d77:(h7.set (h6.next+1) (.loop {r0 with st:=.exhausted})).get h6.next=some .dfr:=by rw[get_set_other yfc];exact gd7
   have l77:(h7.set (h6.next+1) (.loop {r0 with st:=.exhausted})).next=h7.next:=H.next_set _ _ _
   rw[hrp] at s77 r77 d77 l77
   generalize h7.set (h6.next+1) _=h8 at s77 r77 d77 l77⊢
   have d8:(h8.set (h.next+1+1) (.bk [.bool true])).get h6.next=some .dfr:=by rw[get_set_other yfc];exact d77
   simp(disch:=omega)only[go_sem,t2,t3,t4,r77,Za r77,Kfin_ret1 _ _ _ d8]
   exact q true _ (H.Sub.del (b:=h6.next) (s77.set (b:=h.next+1+1) yfc yfc hw (.bk [.bool true])) yfc hw) ⟨fun _=>hP,fun _=>rfl⟩
  ·obtain⟨s7,r7,d7,l7,r,g7,hst,hpd⟩:=(hS _).1 hS7
   have hP:¬WV m (lot:Int) low high:=fun hp=>hall (hcv.1 hp.2.2)
   refine⟨r,g7,by rw[hst];simp,?_⟩
   rw[hpd]
   have s77:h.Sub (h7.set (h6.next+1) (.loop {r with st:=.exhausted})):=s7.set yfc yfc hw _
   have r77:(h7.set (h6.next+1) (.loop {r with st:=.exhausted})).get (h.next+1+1)=some (.bk [.bool false]):=by rw[get_set_other yfc];exact r7
   have d77:(h7.set (h6.next+1) (.loop {r with st:=.exhausted})).get h6.next=some .dfr:=by rw[get_set_other yfc];exact d7
   rw[hpd] at s77 r77 d77
   generalize h7.set (h6.next+1) _=h8 at s77 r77 d77⊢
   simp(disch:=omega)only[go_sem,t2,t3,t4,r77,Za r77,Kfin_ret1 _ _ _ d77]
   exact q false _ (H.Sub.del (b:=h6.next) s77 yfc hw) ⟨fun h=>yfC,fun h=>absurd h hP⟩
theorem fld_0 (a b:Int):q_fld false 1 0 (.agg [.ii a,.ii b])=some (.ii a):=rfl
theorem fld_1 (a b:Int):q_fld false 1 1 (.agg [.ii a,.ii b])=some (.ii b):=rfl
set_option maxHeartbeats 4000000 in
theorem Proves_ev {h hb:H}{v X Y:V}{m:Ml}{low high:List Int}(hw:h.wf)(hm:ZF h v m)(lot:Int)(hX:ZK hb h X 1 (low.map encI))(hY:ZK hb h Y 1 (high.map encI))(hl:low.length≤1000)(hh:high.length≤1000):
  Ev fnG Zm (.fn 22 [] []) [v,.agg [.ii lot,X,Y]] h fun u h'=>h.Sub h'∧∃n e,u=.tup [.ii n,.ii e]∧((check m≠0∧n=0∧e=check m)∨(check m=0∧ProofR m lot low high n e)):=by
 refine Ev.gen fun Q q=>?_
 have hm0:=hm
 obtain⟨L,W,rfl,aL,aW⟩:=hm
 have X1:=hX.one
 have Y1:=hY.one
 have aX:=hX.sl yfe
 have aY:=hY.sl yfe
 have hlenX:=aX.lenE
 have hlenY:=aY.lenE
 refine Zf (fd:=c22) rfl rfl rfl ?_
 have s1:h.Sub ((h.add (.bk [.ii m.errs,L,W])).add (.bk [.ii lot,X,Y])):=yfa
 have e1:((h.add (.bk [.ii m.errs,L,W])).add (.bk [.ii lot,X,Y])).cells h.next=some [.ii m.errs,L,W]:=by simp -implicitDefEqProofs(disch:=first|omega|simp only[nZ]<;>omega|fail)only[go_sem]
 have e2:((h.add (.bk [.ii m.errs,L,W])).add (.bk [.ii lot,X,Y])).cells (h.next+1)=some [.ii lot,X,Y]:=by simp -implicitDefEqProofs(disch:=first|omega|simp only[nZ]<;>omega|fail)only[go_sem]
 simp -implicitDefEqProofs(disch:=first|omega|simp only[nZ]<;>omega|fail)only[c22,go_sem,X1,Y1,cells_one X1,cells_one Y1]
 generalize((h.add (.bk [.ii m.errs,L,W])).add (.bk [.ii lot,X,Y]))=h1 at s1 e1 e2⊢
 refine(XQ s1.wf (hm0.mono s1)).mono fun u h2 hu=>?_
 obtain⟨s12,hu⟩:=hu
 have s2:=s1.trans s12
 rcases hu with⟨c,rfl⟩|⟨c,d,rfl,hd⟩
 ·simp(disch:=omega)only[go_sem,c,ne_eq,not_false_eq_true,s12.cells e1]
  exact q _ _ ⟨s2,0,check m,rfl,.inl ⟨c,rfl,rfl⟩⟩
 have g:=ZJ c
 have gl:=g.lots
 have gw:=g.wgs
 have hib:∀n k:Int,inB n 0 (k-1)=true↔0≤n∧n<k:=fun n k=>by unfold inB;rw[decide_eq_true_eq];omega
 have wiff:∀l:List Int,(l.all fun a=>inB a 0 ((m.wgs.length:Int)-1))=true↔InW m l:=fun l=>by
  rw[List.all_eq_true]
  exact⟨fun h a ha=>(hib _ _).1 (h a ha),fun h a ha=>(hib _ _).2 (h a ha)⟩
 have pw:∀(hh:H),h.Sub hh→∀n:Int,Yy hh (.fn 80 [.agg [.ii m.errs,L,W]] []) [.ii n] (.bool (inB n 0 ((m.wgs.length:Int)-1))):=fun hh hs n h1 hs1=>by
  rw[Ev_fn]
  exact weighing_ev ((hm0.mono hs).mono hs1) n _ (fun h' s=>⟨rfl,s⟩) hs1.wf
 simp(disch:=omega)only[go_sem,ne_eq,eq_self,not_true_eq_false,s12.cells e1,s12.cells e2]
 refine lot_ev (hm0.mono s2) lot _ (fun h3 s23=>?_) s2.wf
 have s3:=s2.trans s23
 have s13:=s12.trans s23
 cases c0:inB lot 0 ((m.lots.length:Int)-1)
 ·have hno:¬(0≤lot∧lot<m.lots.length):=fun h=>by rw[(hib _ _).2 h] at c0;cases c0
  simp(disch:=omega)only[go_sem,Bool.not_false]
  exact q _ _ ⟨s3,0,1,rfl,.inr ⟨c,.inl ⟨fun h=>hno h.1,rfl,rfl⟩⟩⟩
 have hlot:=(hib _ _).1 c0
 simp(disch:=omega)only[go_sem,Bool.not_true,s13.cells e2]
 refine(Xp (p:=fun a=>inB a 0 ((m.wgs.length:Int)-1)) s3.wf (aX.mono s3) fun a _=>pw _ s3 a).mono fun u h4 hu=>?_
 obtain⟨rfl,s34⟩:=hu
 have s4:=s3.trans s34
 have s14:=s13.trans s34
 cases c1:low.all fun a=>inB a 0 ((m.wgs.length:Int)-1)
 ·have hno:¬InW m low:=fun h=>by rw[(wiff low).2 h] at c1;cases c1
  simp(disch:=omega)only[go_sem,Bool.not_false]
  exact q _ _ ⟨s4,0,1,rfl,.inr ⟨c,.inl ⟨fun h=>hno h.2.1,rfl,rfl⟩⟩⟩
 have hi1:=(wiff low).1 c1
 simp(disch:=omega)only[go_sem,Bool.not_true,s14.cells e2]
 refine(Xp (p:=fun a=>inB a 0 ((m.wgs.length:Int)-1)) s4.wf (aY.mono s4) fun a _=>pw _ s4 a).mono fun u h5 hu=>?_
 obtain⟨rfl,s45⟩:=hu
 have s5:=s4.trans s45
 have s15:=s14.trans s45
 cases c2:high.all fun a=>inB a 0 ((m.wgs.length:Int)-1)
 ·have hno:¬InW m high:=fun h=>by rw[(wiff high).2 h] at c2;cases c2
  simp(disch:=omega)only[go_sem,Bool.not_false]
  exact q _ _ ⟨s5,0,1,rfl,.inr ⟨c,.inl ⟨fun h=>hno h.2.2,rfl,rfl⟩⟩⟩
 have hi2:=(wiff high).1 c2
 have hBase:(0≤lot∧lot<m.lots.length)∧InW m low∧InW m high:=⟨hlot,hi1,hi2⟩
 obtain⟨lo,rfl⟩:=Int.eq_ofNat_of_zero_le hlot.1
 simp(disch:=omega)only[go_sem,Bool.not_true,s15.cells e2]
 refine proof_ev s5.wf (hd.mono ((s23.trans s34).trans s45)) g yfc (hX.mono s5) (hY.mono s5) hl hh hi1 hi2 _ fun t h6 s56 ht=>?_
 have s6:=s5.trans s56
 have s16:=s15.trans s56
 have hd6:=hd.mono (((s23.trans s34).trans s45).trans s56)
 cases t
 ·have hno:¬WV m (lo:Int) low high:=fun h=>by have:=ht.2 h;cases this
  simp(disch:=omega)only[go_sem,Bool.not_false]
  exact q _ _ ⟨s6,0,8,rfl,.inr ⟨c,.inr ⟨hBase,.inl ⟨hno,rfl,rfl⟩⟩⟩⟩
 have hP:=ht.1 rfl
 have bL:∀k,0≤Zg (wLo m) (low.take k)∧Zg (wLo m) (low.take k)≤1000*20000:=fun k=>sumL_bd (fun p hp=>(wLo_bd g (hi1 p (List.mem_of_mem_take hp)).1 (hi1 p (List.mem_of_mem_take hp)).2).1) yfv yfc
 have bH:∀k,0≤Zg (wHi m) (high.take k)∧Zg (wHi m) (high.take k)≤1000*10000:=fun k=>sumL_bd (fun p hp=>(wLo_bd g (hi2 p (List.mem_of_mem_take hp)).1 (hi2 p (List.mem_of_mem_take hp)).2).2) yfv yfc
 simp(disch:=omega)only[go_sem,Bool.not_true,s16.cells e2,hlenX]
 refine Zi low.length (fun k s=>∃tm h',s=⟨tm,h',[]⟩∧h6.Sub h'∧tm.E 3=.ptr (h.next+1) 0∧tm.E 6=.ptr d 0∧tm.E 9=.ii (Zg (wLo m) (low.take k))∧tm.E 10=.ii 10000∧tm.E 52=X∧tm.E 53=.ii (low.length:Int)∧tm.E 54=.ii (k:Int))
  ?_ ?_ (i:=0) (Nat.zero_le _) ⟨_,_,rfl,H.Sub.refl s6.wf,yfb,yfb,yfb,yfb,yfb,yfb,yfb⟩
 ·rintro k s hk ⟨tm,h',rfl,hsk,t3,t6,t9,t10,t52,t53,t54⟩
  have hk':(k:Int)<(low.length:Int):=by omega
  have hs2:=s6.trans hsk
  obtain⟨b2,o2,c2,cs2,e2',hcs2,hq2,hgg2,hn2,hn02⟩:=(aX.mono hs2).at hk
  have v2:=hn02 yfc
  obtain⟨p0,p1⟩:=hi1 _ (List.getElem_mem hk)
  obtain⟨p,ep⟩:=Int.eq_ofNat_of_zero_le p0
  have hp:p<m.wgs.length:=by omega
  simp only[encI,ep] at v2
  have es:=Yu (wLo m) hk
  rw[ep,wLo_at hp] at es
  have bk:=bL k
  have bk1:=bL (k+1)
  simp(disch:=omega)only[go_sem,t3,t6,t9,t10,t52,t53,t54,hk',hq2 (Zb k),hcs2,v2]
  refine(V3 hs2.wf (hd6.mono hsk) g hp).mono fun u hB hu=>?_
  obtain⟨rfl,sB⟩:=hu
  simp(disch:=omega)only[go_sem,t3,t6,t9,t10,t52,t53,t54,fld_0,ZD,Ze]
  exact⟨_,_,rfl,hsk.trans sB,yfg,yfj,by rw[es];exact yfb,yfn,(by simp[Zn,Zd,t52]<;>rfl),(by simp[Zn,Zd,t53]<;>rfl),yfb⟩
 ·rintro s ⟨tm,h7,rfl,s67,t3,t6,t9,t10,t52,t53,t54⟩
  rw[List.take_length] at t9
  have bLl:=bL low.length
  rw[List.take_length] at bLl
  have s7:=s6.trans s67
  have s17:=s16.trans s67
  have hd7:=hd6.mono s67
  obtain⟨B0,hB0⟩:∃B0:Int,B0=if high=[] then 10000 else 0:=⟨_,rfl⟩
  obtain⟨J,hJ⟩:∃J:St→Prop,∀s,J s↔∃tm,s=⟨tm,h7,[]⟩∧tm.E 3=.ptr (h.next+1) 0∧tm.E 6=.ptr d 0∧tm.E 9=.ii (Zg (wLo m) low)∧tm.E 10=.ii B0:=⟨_,fun _=>Iff.rfl⟩
  simp(disch:=omega)only[go_sem,t3,t6,t9,t10,t52,t53,t54,Int.lt_irrefl,s17.cells e2,hlenY]
  refine Us (p:=0<(high.length:Int)) J ?_ ?_ ?_
  ·intro c
   have hh0:¬high=[]:=fun e=>by rw[e] at c;simp at c
   rw[if_neg hh0] at hB0
   subst hB0
   simp(disch:=omega)only[go_sem]
   exact⟨rfl,(hJ _).2 ⟨_,rfl,yfg,yfj,yfp,yfb⟩⟩
  ·intro c
   have hh0:high=[]:=List.length_eq_zero_iff.1 yfc
   rw[if_pos hh0] at hB0
   subst hB0
   simp(disch:=omega)only[go_sem]
   exact⟨rfl,(hJ _).2 ⟨_,rfl,yfg,yfj,yfp,yfn⟩⟩
  clear t3 t6 t9 t10 t52 t53 t54
  intro s hs
  obtain⟨tm,rfl,t3,t6,t9,t10⟩:=(hJ s).1 hs
  have hB1:0≤B0∧B0≤10000:=by rw[hB0];split<;>omega
  simp(disch:=omega)only[go_sem,t3,t6,t9,t10,s17.cells e2,hlenY]
  refine Zi high.length (fun k s=>∃tm h',s=⟨tm,h',[]⟩∧h7.Sub h'∧tm.E 3=.ptr (h.next+1) 0∧tm.E 6=.ptr d 0∧tm.E 9=.ii (Zg (wLo m) low)∧tm.E 10=.ii (B0+Zg (wHi m) (high.take k))∧tm.E 70=Y∧tm.E 71=.ii (high.length:Int)∧tm.E 72=.ii (k:Int))
   ?_ ?_ (i:=0) (Nat.zero_le _) ⟨_,_,rfl,H.Sub.refl s7.wf,yfg,yfj,yfp,by rw[List.take_zero,Zg,Int.add_zero];exact yfn,yfb,yfb,yfb⟩
  ·clear t3 t6 t9 t10
   rintro k s hk ⟨tm,h',rfl,hsk,t3,t6,t9,t10,t70,t71,t72⟩
   have hk':(k:Int)<(high.length:Int):=by omega
   have hs2:=s7.trans hsk
   obtain⟨b2,o2,c2,cs2,e2',hcs2,hq2,hgg2,hn2,hn02⟩:=(aY.mono hs2).at hk
   have v2:=hn02 yfc
   obtain⟨p0,p1⟩:=hi2 _ (List.getElem_mem hk)
   obtain⟨p,ep⟩:=Int.eq_ofNat_of_zero_le p0
   have hp:p<m.wgs.length:=by omega
   simp only[encI,ep] at v2
   have es:=Yu (wHi m) hk
   rw[ep,wHi_at hp] at es
   have bk:=bH k
   have bk1:=bH (k+1)
   simp(disch:=omega)only[go_sem,t3,t6,t9,t10,t70,t71,t72,hk',hq2 (Zb k),hcs2,v2]
   refine(V3 hs2.wf (hd7.mono hsk) g hp).mono fun u hB hu=>?_
   obtain⟨rfl,sB⟩:=hu
   simp(disch:=omega)only[go_sem,t3,t6,t9,t10,t70,t71,t72,fld_1,ZD,Ze]
   exact⟨_,_,rfl,hsk.trans sB,yfg,yfj,yfp,by rw[es,←Int.add_assoc];exact yfb,(by simp[Zn,Zd,t70]<;>rfl),(by simp[Zn,Zd,t71]<;>rfl),yfb⟩
  ·clear t3 t6 t9 t10
   rintro s ⟨tm,h8,rfl,s78,t3,t6,t9,t10,t70,t71,t72⟩
   rw[List.take_length] at t10
   have bHl:=bH high.length
   rw[List.take_length] at bHl
   have s8:=s7.trans s78
   have eH:X7 m high=B0+Zg (wHi m) high:=by
    unfold X7;rw[hB0]
    by_cases hh0:high=[]
    ·rw[if_pos hh0,if_pos hh0,hh0];rfl
    ·rw[if_neg hh0,if_neg hh0];omega
   by_cases hc:Zg (wLo m) low≤B0+Zg (wHi m) high
   ·simp(disch:=omega)only[go_sem,t3,t6,t9,t10,t70,t71,t72,Int.lt_irrefl,hc]
    exact q _ _ ⟨s8,0,6,rfl,.inr ⟨c,.inr ⟨hBase,.inr ⟨hP,.inl ⟨by rw[eH];exact hc,rfl,rfl⟩⟩⟩⟩⟩
   ·simp(disch:=omega)only[go_sem,t3,t6,t9,t10,t70,t71,t72,Int.lt_irrefl,hc,ZD]
    exact q _ _ ⟨s8,_,0,rfl,.inr ⟨c,.inr ⟨hBase,.inr ⟨hP,.inr ⟨by rw[eH];unfold sumLow;omega,by rw[eH];rfl,rfl⟩⟩⟩⟩⟩
end Go.Ab.Tryz
namespace Go.Ab.Tryz
open Go.Ab.Silk
set_option maxHeartbeats 4000000 in
theorem SilkProofs_sub {h:H}{v A0 B0:V}{m:Ml}{la lb:List Int}(hw:h.wf)(hm:ZF h v m)(plot:Int)(hA:Zk h A0 1 (la.map encI))(hB:Zk h B0 1 (lb.map encI)):Ev fnG Zm (.fn 12 [] []) [v,.agg [.ii plot,A0,B0]] h fun u h'=>u=.bool true∧h.Sub h':=by
 refine Ev.gen fun Q q=>?_
 have hm0:=hm
 obtain⟨L,W,rfl,aL,aW⟩:=hm
 have A1:=hA.one
 have B1:=hB.one
 have hlenA:=hA.lenE
 have hlenB:=hB.lenE
 refine Zf (fd:=c12) rfl rfl rfl ?_
 have s1:h.Sub ((h.add (.bk [.ii m.errs,L,W])).add (.bk [.ii plot,A0,B0])):=yfa
 have g1:((h.add (.bk [.ii m.errs,L,W])).add (.bk [.ii plot,A0,B0])).cells h.next=some [.ii m.errs,L,W]:=by simp -implicitDefEqProofs(disch:=first|omega|simp only[nZ]<;>omega|fail)only[go_sem]
 have p1:((h.add (.bk [.ii m.errs,L,W])).add (.bk [.ii plot,A0,B0])).cells (h.next+1)=some [.ii plot,A0,B0]:=by simp -implicitDefEqProofs(disch:=first|omega|simp only[nZ]<;>omega|fail)only[go_sem]
 have l1:((h.add (.bk [.ii m.errs,L,W])).add (.bk [.ii plot,A0,B0])).next=h.next+2:=by simp only[H.next_add]
 simp -implicitDefEqProofs(disch:=first|omega|simp only[nZ]<;>omega|fail)only[c12,go_sem,A1,B1,cells_one A1,cells_one B1]
 generalize((h.add (.bk [.ii m.errs,L,W])).add (.bk [.ii plot,A0,B0]))=h1 at s1 g1 p1 l1⊢
 refine VK s1.wf (hm0.mono s1) _ fun h2 s12=>?_
 have s2:=s1.trans s12
 have l2:=s12.next
 have g2:=s12.cells g1
 have p2:=s12.cells p1
 cases hgr:Xo m
 case true=>
  simp -implicitDefEqProofs(disch:=first|omega|simp only[nZ]<;>omega|fail)only[go_sem,Z4]
  exact q _ _ ⟨rfl,by first|assumption|exact H.Sub.refl hw|exact yfa⟩
 by_cases ha12:12<(la.length:Int)
 case pos=>
  simp -implicitDefEqProofs(disch:=first|omega|simp only[nZ]<;>omega|fail)only[go_sem,p2,hlenA,ha12,Z4]
  exact q _ _ ⟨rfl,by first|assumption|exact H.Sub.refl hw|exact yfa⟩
 by_cases hb12:12<(lb.length:Int)
 case pos=>
  simp -implicitDefEqProofs(disch:=first|omega|simp only[nZ]<;>omega|fail)only[go_sem,p2,hlenA,hlenB,ha12,hb12,Z4]
  exact q _ _ ⟨rfl,by first|assumption|exact H.Sub.refl hw|exact yfa⟩
 have hle:m.lots.length≤1000∧m.wgs.length≤1000:=by
  simp only[Xo,decide_eq_false_iff_not] at hgr
  omega
 clear hgr
 simp -implicitDefEqProofs(disch:=first|omega|simp only[nZ]<;>omega|fail)only[go_sem,p2,hlenA,hlenB,ha12,hb12,g2]
 refine Ut s2.wf (hm0.mono s2) hle _ fun A B h3 s23 oOwn hA3 hB3=>?_
 have s3:=s2.trans s23
 have g3:=s23.cells g2
 have p3:=s23.cells p2
 have l3:=s23.next
 simp -implicitDefEqProofs(disch:=first|omega|simp only[nZ]<;>omega|fail)only[go_sem,g3]
 refine W3 s3.wf (hm0.mono s3) hle _ fun x h4 s34 hx=>?_
 have s4:=s3.trans s34
 have g4:=s34.cells g3
 have p4:=s34.cells p3
 have l4:=s34.next
 obtain⟨X,Y,rfl,aX,aY⟩:=id hx
 have oX1:=aX.one
 have oY1:=aY.one
 simp -implicitDefEqProofs(disch:=first|omega|simp only[nZ]<;>omega|fail)only[go_sem,oX1,oY1,hA3,hB3,cells_one oX1,cells_one oY1,cells_one hA3,cells_one hB3,g2,g3,g4,p4]
 have s45:h4.Sub ((((h4.add (.bk [.ii 0,.nils,.nils])).add (.bk [.ii 0,.nils,.nils])).set h4.next (.bk [.ii m.errs,A,B])).set (h4.next+1) (.bk [.ii m.errs,X,Y])):=by
  have w4:=s4.wf
  exact yfa
 have c9:((((h4.add (.bk [.ii 0,.nils,.nils])).add (.bk [.ii 0,.nils,.nils])).set h4.next (.bk [.ii m.errs,A,B])).set (h4.next+1) (.bk [.ii m.errs,X,Y])).cells h4.next=some [.ii m.errs,A,B]:=by simp -implicitDefEqProofs(disch:=first|omega|simp only[nZ]<;>omega|fail)only[go_sem]
 have c10:((((h4.add (.bk [.ii 0,.nils,.nils])).add (.bk [.ii 0,.nils,.nils])).set h4.next (.bk [.ii m.errs,A,B])).set (h4.next+1) (.bk [.ii m.errs,X,Y])).cells (h4.next+1)=some [.ii m.errs,X,Y]:=by simp -implicitDefEqProofs(disch:=first|omega|simp only[nZ]<;>omega|fail)only[go_sem]
 generalize((((h4.add (.bk [.ii 0,.nils,.nils])).add (.bk [.ii 0,.nils,.nils])).set h4.next (.bk [.ii m.errs,A,B])).set (h4.next+1) (.bk [.ii m.errs,X,Y]))=h5 at s45 c9 c10⊢
 have s5:=s4.trans s45
 have l45:=s45.next
 have p5:=s45.cells p4
 have hown5:=(oOwn.mono (s34.trans s45)).is hle
 have w5:=s5.wf
 have s5a:h5.Sub (h5.add (.bk (la.map encI).flatten)):=(H.Sub.refl w5).add _
 have s5b:h5.Sub ((h5.add (.bk (la.map encI).flatten)).add (.bk (lb.map encI).flatten)):=s5a.add _
 simp -implicitDefEqProofs(disch:=first|omega|simp only[nZ]<;>omega|fail)only[go_sem,dupInt_ev w5 (hA.mono s5) yfc,dupInt_ev s5a.wf (hB.mono (s5.trans s5a)) yfc,p5,s5b.cells c10]
 have s56:h5.Sub (((h5.add (.bk (la.map encI).flatten)).add (.bk (lb.map encI).flatten)).add (.bk [.ii plot,.sl h5.next 0 la.length (.fix la.length),.sl (h5.next+1) 0 lb.length (.fix lb.length)])):=s5b.add _
 have hfa:=Zp hA.1
 have hfb:=Zp hB.1
 have oA:ZK h5 (((h5.add (.bk (la.map encI).flatten)).add (.bk (lb.map encI).flatten)).add (.bk [.ii plot,.sl h5.next 0 la.length (.fix la.length),.sl (h5.next+1) 0 lb.length (.fix lb.length)])) (.sl h5.next 0 la.length (.fix la.length)) 1 (la.map encI):=
  ⟨s56,hA.1,.inr (.inr ⟨h5.next,la.length,[],by rw[List.length_map],Nat.le_refl _,by simp only[H.next_add];omega,by rw[List.append_nil];simp -implicitDefEqProofs(disch:=first|omega|simp only[nZ]<;>omega|fail)only[go_sem],by simp,by simp⟩)⟩
 have oB:ZK h5 (((h5.add (.bk (la.map encI).flatten)).add (.bk (lb.map encI).flatten)).add (.bk [.ii plot,.sl h5.next 0 la.length (.fix la.length),.sl (h5.next+1) 0 lb.length (.fix lb.length)])) (.sl (h5.next+1) 0 lb.length (.fix lb.length)) 1 (lb.map encI):=
  ⟨s56,hB.1,.inr (.inr ⟨h5.next+1,lb.length,[],by rw[List.length_map],by omega,by simp only[H.next_add];omega,by rw[List.append_nil];simp -implicitDefEqProofs(disch:=first|omega|simp only[nZ]<;>omega|fail)only[go_sem],by simp,by simp⟩)⟩
 have cM:(((h5.add (.bk (la.map encI).flatten)).add (.bk (lb.map encI).flatten)).add (.bk [.ii plot,.sl h5.next 0 la.length (.fix la.length),.sl (h5.next+1) 0 lb.length (.fix lb.length)])).cells (h5.next+1+1)=some [.ii plot,.sl h5.next 0 la.length (.fix la.length),.sl (h5.next+1) 0 lb.length (.fix lb.length)]:=by simp -implicitDefEqProofs(disch:=first|omega|simp only[nZ]<;>omega|fail)only[go_sem]
 generalize(((h5.add (.bk (la.map encI).flatten)).add (.bk (lb.map encI).flatten)).add (.bk [.ii plot,.sl h5.next 0 la.length (.fix la.length),.sl (h5.next+1) 0 lb.length (.fix lb.length)]))=h5' at s56 oA oB cM⊢
 obtain⟨MA,eMA⟩:∃z,V.sl h5.next 0 la.length (.fix la.length)=z:=⟨_,rfl⟩
 obtain⟨MB,eMB⟩:∃z,V.sl (h5.next+1) 0 lb.length (.fix lb.length)=z:=⟨_,rfl⟩
 rw[eMA] at oA cM
 rw[eMB] at oB cM
 have s5':=s5.trans s56
 refine(Xn s5'.wf (hx.mono (s45.trans s56))).mono fun u h6 hu=>?_
 obtain⟨rfl,s56'⟩:=hu
 have s6:=s5'.trans s56'
 have s36:=s56.trans s56'
 have d9:=s36.cells c9
 have d10:=s36.cells c10
 have d3:=s36.cells p5
 have dM:=s56'.cells cM
 have hx6:=hx.mono (s45.trans s36)
 have oA6:=oA.mono s56'
 have oB6:=oB.mono s56'
 have hown6:=hown5.mono s36
 have d2:=(s34.trans (s45.trans s36)).cells g3
 simp -implicitDefEqProofs(disch:=first|omega|simp only[nZ]<;>omega|fail)only[go_sem]
 obtain⟨I,hI⟩:∃I:St→Prop,∀s,I s↔∃tm h8 uE vE n,s=⟨tm,h8,[]⟩∧h6.Sub h8∧tm.E 2=.ptr h.next 0∧tm.E 3=.ptr (h.next+1) 0∧tm.E 5=.ptr h4.next 0∧tm.E 6=.ptr (h4.next+1) 0∧tm.E 7=.ptr (h5.next+1+1) 0∧
   tm.E 9=.ii uE∧tm.E 10=.ii vE∧tm.E 11=.ii n∧
   ((check m≠0∧uE=check m∧vE=check m∧n=0)∨(check m=0∧(((∃w,ZC m Zj w)∧uE=6)∨((¬∃w,ZC m Zj w)∧uE=0))∧ProofR m plot la lb n vE)):=⟨_,fun s=>Iff.rfl⟩
 refine Us (p:=check m=0) I ?_ ?_ ?_
 ·intro c
  have g:=ZJ c
  have gw:=g.wgs
  simp -implicitDefEqProofs(disch:=first|omega|simp only[nZ]<;>omega|fail)only[go_sem,d10]
  refine All_ev s6.wf hx6 yfc _ fun C h7 s67 aC=>?_
  have s7:=s6.trans s67
  simp -implicitDefEqProofs(disch:=first|omega|simp only[nZ]<;>omega|fail)only[go_sem,d10,s67.cells d10]
  refine(YV s7.wf (hx6.mono s67) g aC yfz).mono fun u h8 hu=>?_
  obtain⟨s78,t,rfl,ht⟩:=hu
  have ht':t=true↔∃w,ZC m Zj w:=by rw[ht];unfold ZC;rw[own_all]
  have s68:=s67.trans s78
  have s8:=s6.trans s68
  cases t
  ·have hno:¬∃w,ZC m Zj w:=fun hf=>by have:=ht'.2 hf;cases this
   simp -implicitDefEqProofs(disch:=first|omega|simp only[nZ]<;>omega|fail)only[go_sem,d10,s67.cells d10,s68.cells d10,s68.cells d3]
   refine refProof_ev s8.wf (hx6.mono s68) g plot (hA.mono s8) (hB.mono s8) yfc yfc _ fun n e h9 s89 hR=>?_
   simp -implicitDefEqProofs(disch:=first|omega|simp only[nZ]<;>omega|fail)only[go_sem]
   exact⟨rfl,(hI _).2 ⟨_,_,0,e,n,rfl,s68.trans s89,yfb,yfb,yfb,yfb,yfb,yfb,yfb,yfb,.inr ⟨c,.inr ⟨hno,rfl⟩,hR⟩⟩⟩
  ·have hyes:=ht'.1 rfl
   simp -implicitDefEqProofs(disch:=first|omega|simp only[nZ]<;>omega|fail)only[go_sem,d10,s67.cells d10,s68.cells d10,s68.cells d3]
   refine refProof_ev s8.wf (hx6.mono s68) g plot (hA.mono s8) (hB.mono s8) yfc yfc _ fun n e h9 s89 hR=>?_
   simp -implicitDefEqProofs(disch:=first|omega|simp only[nZ]<;>omega|fail)only[go_sem]
   exact⟨rfl,(hI _).2 ⟨_,_,6,e,n,rfl,s68.trans s89,yfb,yfb,yfb,yfb,yfb,yfb,yfb,yfb,.inr ⟨c,.inl ⟨hyes,rfl⟩,hR⟩⟩⟩
 ·intro c
  simp -implicitDefEqProofs(disch:=first|omega|simp only[nZ]<;>omega|fail)only[go_sem]
  exact⟨rfl,(hI _).2 ⟨_,_,check m,check m,0,rfl,H.Sub.refl s6.wf,yfb,yfb,yfb,yfb,yfb,yfb,yfb,yfb,.inl ⟨c,rfl,rfl,rfl⟩⟩⟩
 ·intro s hs
  obtain⟨tm,h8,uE,vE,n,rfl,s68,t2,t3,t5,t6,t7,t9,t10,t11,spec⟩:=(hI s).1 hs
  have s8:=s6.trans s68
  have n9:=s68.cells d9
  have nM:=s68.cells dM
  have hown8:=hown6.mono s68
  simp -implicitDefEqProofs(disch:=first|omega|simp only[nZ]<;>omega|fail)only[go_sem,t2,t3,t5,t6,t7,t9,t10,t11,n9]
  refine(Prove_ev s8.wf hown8).mono fun u h9 hu=>?_
  obtain⟨s89,lot,x,y,low,high,e,rfl,ax,ay,hPr⟩:=hu
  have s9:=s8.trans s89
  have x1:=ax.one
  have y1:=ay.one
  have s9a:=(H.Sub.refl s9.wf).add (.bk [.ii lot,x,y])
  have gP:(h9.add (.bk [.ii lot,x,y])).cells h9.next=some [.ii lot,x,y]:=Zh rfl
  have s89a:=s89.trans s9a
  have s9':=s9.trans s9a
  simp -implicitDefEqProofs(disch:=first|omega|simp only[nZ]<;>omega|fail)only[go_sem,t2,t3,t5,t6,t7,t9,t10,t11,x1,y1,cells_one x1,cells_one y1,s89a.cells n9,s89a.cells nM]
  generalize h9.add (.bk [.ii lot,x,y])=hA9 at s9a gP s89a s9'⊢
  have oA9:=oA6.mono (s68.trans s89a)
  have oB9:=oB6.mono (s68.trans s89a)
  refine(Proves_ev s9'.wf (hown8.mono s89a) plot oA9 oB9 yfc yfc).mono fun u hB9 hu=>?_
  obtain⟨s9B,k,f,rfl,hPv⟩:=hu
  have eqE:e=uE:=by
   rcases spec with⟨a,b,_,_⟩|⟨a,b,_⟩<;>rcases hPr with⟨a',b',_⟩|⟨a',b'⟩
   ·rw[b,b']
   ·exact absurd a' a
   ·exact absurd a a'
   ·rcases b with⟨b,b1⟩|⟨b,b1⟩<;>rcases b' with⟨b',b1',_⟩|⟨b',b1',_⟩
    ·rw[b1,b1']
    ·exact absurd b b'
    ·exact absurd b' b
    ·rw[b1,b1']
  have eqF:k=n∧f=vE:=by
   rcases spec with⟨a,_,b,b2⟩|⟨a,_,b⟩<;>rcases hPv with⟨a',b',b2'⟩|⟨a',b'⟩
   ·exact⟨by rw[b',b2],by rw[b,b2']⟩
   ·exact absurd a' a
   ·exact absurd a a'
   ·exact b'.uniq b
  have hll:low.length≤10∧high.length≤10:=by
   rcases hPr with⟨_,_,_,h1,h2⟩|⟨c,⟨_,_,_,h1,h2⟩|⟨_,_,hl,_,h1,h2⟩⟩
   ·rw[h1,h2];simp
   ·rw[h1,h2];simp
   ·have g:=ZJ c
    have b1:=most_bd g hl.1 hl.2
    have b2:=few_bd g hl.1 hl.2
    rw[h1,h2];omega
  obtain⟨rfl,rfl⟩:=eqF
  subst eqE
  have hlx:=ax.lenE
  have hly:=ay.lenE
  have n1:¬12<(low.length:Int):=by omega
  have n2:¬12<(high.length:Int):=by omega
  have sB:=s9'.trans s9B
  have s6B:=s68.trans (s89a.trans s9B)
  have gPB:=s9B.cells gP
  obtain⟨J,hJ⟩:∃J:St→Prop,∀s,J s↔∃tm hh,s=⟨tm,hh,[]⟩∧hB9.Sub hh∧tm.E 2=.ptr h.next 0∧tm.E 3=.ptr (h.next+1) 0∧tm.E 5=.ptr h4.next 0∧tm.E 7=.ptr (h5.next+1+1) 0:=⟨_,fun s=>Iff.rfl⟩
  simp -implicitDefEqProofs(disch:=first|omega|simp only[nZ]<;>omega|fail)only[go_sem,t2,t3,t5,t6,t7,t9,t10,t11,ne_eq,eq_self,not_true_eq_false,gPB,hlx,hly,n1,n2]
  refine Us (p:=e=0) J ?_ ?_ ?_
  ·intro e0
   have hbad:check m=0∧¬∃w,ZC m Zj w:=by
    rcases spec with⟨a,b,_⟩|⟨a,⟨_,b⟩|⟨b,_⟩,_⟩
    ·rw[e0] at b;exact absurd b.symm a
    ·omega
    ·exact⟨a,b⟩
   obtain⟨c,hno⟩:=hbad
   have g:=ZJ c
   obtain⟨hl,hlt,el,eh⟩:(0≤lot∧lot<m.lots.length)∧(Ya m lot).1<(Yb m lot).1∧low=(Yb m lot).2∧high=(Ya m lot).2:=by
    rcases hPr with⟨a,_⟩|⟨_,⟨b,_⟩|⟨_,_,b⟩⟩
    ·exact absurd c a
    ·exact absurd b hno
    ·exact b
   simp -implicitDefEqProofs(disch:=first|omega|simp only[nZ]<;>omega|fail)only[go_sem,t2,t3,t5,t6,t7,t9,t10,t11,gPB,s6B.cells d10]
   refine refProof_ev sB.wf (hx6.mono s6B) g lot (ax.mono (s9a.trans s9B)) (ay.mono (s9a.trans s9B)) yfc yfc _ fun n' e' hC sBC hR=>?_
   rw[el,eh] at hR
   obtain⟨rfl,hn1⟩:=found_holds g hl.1 hl.2 hlt hR
   have n3:¬n'<1:=by omega
   simp -implicitDefEqProofs(disch:=first|omega|simp only[nZ]<;>omega|fail)only[go_sem,t2,t3,t5,t6,t7,t9,t10,t11,ne_eq,eq_self,not_true_eq_false,n3]
   exact⟨rfl,(hJ _).2 ⟨_,_,rfl,sBC,yff,yfg,yfm,yfi⟩⟩
  ·intro e0
   obtain⟨r1,r2,r3⟩:lot=0∧low=[]∧high=[]:=by
    rcases hPr with⟨_,_,a⟩|⟨_,⟨_,_,a⟩|⟨_,b,_⟩⟩
    ·exact a
    ·exact a
    ·exact absurd b e0
   have z1:(low.length:Int)=0:=by rw[r2];rfl
   have z2:(high.length:Int)=0:=by rw[r3];rfl
   have z3:¬(0:Int)<0:=by omega
   simp -implicitDefEqProofs(disch:=first|omega|simp only[nZ]<;>omega|fail)only[go_sem,t2,t3,t5,t6,t7,t9,t10,t11,gPB,r1,ne_eq,eq_self,not_true_eq_false,hlx,hly,z1,z2,ZD,Int.add_zero,z3]
   exact⟨rfl,(hJ _).2 ⟨_,_,rfl,H.Sub.refl sB.wf,yff,yfg,yfm,yfi⟩⟩
  ·clear t2 t3 t5 t6 t7 t9 t10 t11
   intro s hs
   obtain⟨tm,hD,rfl,sBD,t2,t3,t5,t7⟩:=(hJ s).1 hs
   have sD:=sB.trans sBD
   have s6D:=s6B.trans sBD
   have hownD:=hown6.mono s6D
   simp -implicitDefEqProofs(disch:=first|omega|simp only[nZ]<;>omega|fail)only[go_sem,t2,t3,t5,t7,s6D.cells d9,s6D.cells d2]
   refine WW sD.wf hownD (hm0.mono sD) _ fun hF sF=>?_
   have sDF:=sD.trans sF
   have s6F:=s6D.trans sF
   have i1:=XF ((oA6.mono s6F).sl yfe) (hA.mono sDF)
   have i2:=XF ((oB6.mono s6F).sl yfe) (hB.mono sDF)
   simp -implicitDefEqProofs(disch:=first|omega|simp only[nZ]<;>omega|fail)only[go_sem,t2,t3,t5,t7,decide_eq_true rfl,s6F.cells dM,s6F.cells d3,i1,i2,Z4]
   exact q _ _ ⟨rfl,by first|assumption|exact H.Sub.refl hw|exact yfa⟩
end Go.Ab.Tryz
