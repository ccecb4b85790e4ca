import Derived.Test.YthoghcpemmfebaaGreatG2
import Derived.Test.YthoghcpemmfebaaGreatAc7
import Derived.Test.YthoghcpemmfebaaGreatAc4
import Derived.Test.YthoghcpemmfebaaGreatGP
set_option linter.unusedSimpArgs false
set_option linter.unusedVariables false
theorem yca {p:Prop}(h:p:=by repeat(first|assumption|exact H.Sub.refl (by assumption)|refine H.Sub.add ?_ _|refine H.Sub.set ?_ (by first|omega|(simp only[H.next_add,H.next_set,H.next_del]<;>omega)) (by first|omega|(simp only[H.next_add,H.next_set,H.next_del]<;>omega)) (by assumption) _)):p:=h
theorem ycb {p:Prop}(h:p:=by simp[Zn,Zd]<;>rfl):p:=h
theorem ycc {p:Prop}(h:p:=by omega):p:=h
theorem ycd {p:Prop}(h:p:=by simp[Zn,Zd,t3]<;>rfl):p:=h
theorem yce {p:Prop}(h:p:=by simp -implicitDefEqProofs(disch:=first|omega|simp only[nZ]<;>omega|fail)only[go_sem]):p:=h
theorem ycf {p:Prop}(h:p:=by simp[Zn,Zd,t4]<;>rfl):p:=h
theorem ycg {p:Prop}(h:p:=by simp[Zn,Zd,t13]<;>rfl):p:=h
theorem ych {p:Prop}(h:p:=by simp[Zn,Zd,t2]<;>rfl):p:=h
theorem yci {p:Prop}(h:p:=by simp[Zn,Zd,t11]<;>rfl):p:=h
theorem ycj {p:Prop}(h:p:=by simp[Zn,Zd,t9]<;>rfl):p:=h
theorem yck {p:Prop}(h:p:=by simp[Zn,Zd,t15]<;>rfl):p:=h
theorem ycl {p:Prop}(h:p:=by simp[Zn,Zd,t16]<;>rfl):p:=h
theorem ycm {p:Prop}(h:p:=by simp[Zn,Zd,t5]<;>rfl):p:=h
theorem ycn {p:Prop}(h:p:=by simp -implicitDefEqProofs(maxSteps:=999999)(disch:=first|with_reducible rfl|omega|(simp only[nA,nS,nD]<;>omega)|fail)only[go_sem]):p:=h
theorem yco {p:Prop}(h:p:=by simp[Zn,Zd,t14]<;>rfl):p:=h
theorem ycp {p:Prop}(h:p:=by simp[Zn,Zd,t10]<;>rfl):p:=h
theorem ycq {p:Prop}(h:p:=by simp[Zn,Zd,t7]<;>rfl):p:=h
theorem ycr {p:Prop}(h:p:=by simp[Zn,Zd,t0]<;>rfl):p:=h
theorem ycs {p:Prop}(h:p:=by simp[Zn,Zd,t6]<;>rfl):p:=h
theorem yct {p:Prop}(h:p:=by simp only[Xe,c,c2,c3,c4,c5,c6,ne_eq,not_true_eq_false,not_false_eq_true,and_self, ↓reduceIte]):p:=h
theorem ycu {p:Prop}(h:p:=by simp only[Xe,c,c2,c3,c4,c5,ne_eq,not_true_eq_false,not_false_eq_true,and_self, ↓reduceIte]):p:=h
theorem ycv {p:Prop}(h:p:=by simp only[Xe,c,c2,c3,c4,ne_eq,not_true_eq_false,not_false_eq_true,and_self, ↓reduceIte]):p:=h
theorem ycw {p:Prop}(h:p:=by simp[Zn,Zd,t23]<;>rfl):p:=h
theorem ycx {p:Prop}(h:p:=by simp only[Xe,c,c2,c3,ne_eq,not_true_eq_false,not_false_eq_true,and_self, ↓reduceIte]):p:=h
theorem ycy {p:Prop}(h:p:=by simp only[Xe,c,ne_eq,not_true_eq_false, ↓reduceIte];rw[if_pos (by omega)]):p:=h
theorem ycz {p:Prop}(h:p:=by simp[Ml.splitB];omega):p:=h
theorem ycA {p:Prop}(h:p:=by simp):p:=h
theorem ycB {p:Prop}(h:p:=by simp[Zn,Zd,t12]<;>rfl):p:=h
theorem ycC {p:Prop}(h:p:=by simp[Zn,Zd,t71]<;>rfl):p:=h
theorem ycD {p:Prop}(h:p:=by simp[Zn,Zd,t24]<;>rfl):p:=h
theorem ycE {p:Prop}(h:p:=by simp[Zn,Zd,t1]<;>rfl):p:=h
theorem ycF {p:Prop}(h:p:=by simp;omega):p:=h
theorem ycG {p:Prop}(h:p:=by simp only[List.length_map];omega):p:=h
theorem ycH {p:Prop}(h:p:=by simp[Zn,Zd,t72]<;>rfl):p:=h
theorem ycI {p:Prop}(h:p:=by simp[Zy]):p:=h
namespace Go.Ab.Tryz
theorem sayLo_le {m:Ml}{w:Wg}{k:Int}(hk:0≤k)(h4:0≤w.hi):Z8 m w≤k↔100*(w.reads-m.errs)≤k*(100+w.hi):=by
 unfold Z8
 have hD:0<100+w.hi:=by omega
 have hn:0≤100*max 0 (w.reads-m.errs)+(100+w.hi)-1:=by omega
 have hkD:0≤k*(100+w.hi):=Int.mul_nonneg hk ycc
 rw[Int.tdiv_eq_ediv_of_nonneg hn]
 have e:(k+1)*(100+w.hi)=k*(100+w.hi)+(100+w.hi):=by rw[Int.add_mul,Int.one_mul]
 constructor
 ·intro h
  have:(100*max 0 (w.reads-m.errs)+(100+w.hi)-1)/(100+w.hi)<k+1:=by omega
  rw[Int.ediv_lt_iff_lt_mul hD,e] at this
  omega
 ·intro h
  have:(100*max 0 (w.reads-m.errs)+(100+w.hi)-1)/(100+w.hi)<k+1:=by
   rw[Int.ediv_lt_iff_lt_mul hD,e];omega
  omega
theorem le_sayHi {m:Ml}{w:Wg}{k:Int}(hk:k≤10000)(h3:0≤w.lo)(h5:0≤w.reads+m.errs):k≤Z1 m w↔k*(100+w.lo)≤100*(w.reads+m.errs):=by
 unfold Z1
 have hD:0<100+w.lo:=by omega
 rw[Int.tdiv_eq_ediv_of_nonneg ycc]
 rw[←Int.le_ediv_iff_mul_le hD]
 omega
theorem sayLo_nonneg {m:Ml}{w:Wg}(h4:0≤w.hi):0≤Z8 m w:=by
 unfold Z8
 exact(tdiv_le ycc ycc).1
end Go.Ab.Tryz
namespace Go.Ab.Tryz
def pw:Nat→Int
 |0=>0
 |k+1=>2^k
theorem pw_half:∀k,(pw (k+1)).tdiv 2=pw k
 |0=>by decide
 |k+1=>by
  simp only[pw]
  rw[Int.pow_succ,Int.mul_tdiv_cancel _ ycc]
theorem two_pow_pos (k:Nat):(1:Int)≤2^k:=by
 induction k with
 |zero=>decide
 |succ k ih=>rw[Int.pow_succ];omega
theorem sayLo_char {m:Ml}{w:Wg}{lo:Int}(h4:0≤w.hi)(h0:0≤lo)(h1:lo=0∨(lo-1)*(100+w.hi)<100*(w.reads-m.errs))(h2:100*(w.reads-m.errs)≤lo*(100+w.hi)):lo=Z8 m w:=by
 have a:=(sayLo_le h0 h4).2 h2
 have b:=sayLo_nonneg (m:=m) (w:=w) h4
 rcases h1 with h1|h1
 ·omega
 ·by_cases c:Z8 m w≤lo-1
  ·have:=(sayLo_le (m:=m) (w:=w) (k:=lo-1) ycc h4).1 c;omega
  ·omega
theorem V5 {h:H}{v:V}{m:Ml}(hw:h.wf)(hm:ZF h v m)(g:Good m){n:Nat}(hi:n<m.wgs.length)(Q:V→H→Prop)
  (q:∀h',h.Sub h'→Q (.tup [.ii (Z8 m m.wgs[n]),.ii (Z1 m m.wgs[n])]) h'):Ev fnG Zm (.fn 46 [] []) [v,.ii (n:Int)] h Q:=by
 obtain⟨L,W,rfl,aL,aW⟩:=hm
 obtain⟨b,o,c,cs,rfl,hc,hq,hg,hn,hn0⟩:=aW.at hi
 have hlb:b<h.next:=by obtain⟨k,hk⟩:=H.cells_eq hc;exact hw b _ hk
 have w1:=g.wg _ (List.getElem_mem hi)
 have w2:=g.errs
 obtain⟨w,ew⟩:∃w,m.wgs[n]=w:=⟨_,rfl⟩
 rw[ew] at hg w1
 rw[ew] at q
 refine Zf (fd:=c46) rfl rfl rfl ?_
 simp -implicitDefEqProofs(disch:=first|omega|simp only[nZ]<;>omega|fail)only[c46,go_sem,hq (Zb n),hc,hg,Zy]
 refine W_loop (fun k s=>∃tm lo,s=⟨tm,(h.add (.bk [.ii m.errs,L,.sl b o m.wgs.length c])).add (.bk [.ii w.lot,.ii w.reads,.ii w.lo,.ii w.hi]),[]⟩∧
   0≤lo∧lo+2^k≤16384∧(lo=0∨(lo-1)*(100+w.hi)<100*(w.reads-m.errs))∧100*(w.reads-m.errs)≤(lo+2^k-1)*(100+w.hi)∧
   tm.E 2=.ptr h.next 0∧tm.E 6=.ptr (h.next+1) 0∧tm.E 7=.ii lo∧tm.E 8=.ii (pw k))
  ?_ 14 _ ⟨_,0,rfl,by omega,by decide,.inl rfl,by
   have:=Int.mul_le_mul_of_nonneg_left (show(100:Int)≤100+w.hi by omega) (show(0:Int)≤0+2^14-1 by decide)
   have e:(0+2^14-1:Int)*100=1638300:=by decide
   omega,ycb,ycb,ycb,ycb⟩
 rintro k s ⟨tm,lo,rfl,l0,l1,l2,l3,e2,e6,e7,e8⟩
 cases k with
 |zero=>
  have hd:=(tdiv_le (a:=100*(w.reads+m.errs)) (b:=100+w.lo) ycc ycc)
  have e8':tm.E 8=.ii 0:=e8
  have hlo:lo=Z8 m w:=sayLo_char ycc l0 l2 (by simpa using l3)
  by_cases hm:(100*(w.reads+m.errs)).tdiv (100+w.lo)<10000
  ·have hh:Z1 m w=(100*(w.reads+m.errs)).tdiv (100+w.lo):=by unfold Z1;omega
   simp -implicitDefEqProofs(disch:=first|omega|simp only[nZ]<;>omega|fail)only[go_sem,e2,e6,e7,e8',Int.lt_irrefl,ZD,YO,hm]
   rw[hlo,←hh]
   exact q _ (((H.Sub.refl hw).add _).add _)
  ·have hh:Z1 m w=10000:=by unfold Z1;omega
   simp -implicitDefEqProofs(disch:=first|omega|simp only[nZ]<;>omega|fail)only[go_sem,e2,e6,e7,e8',Int.lt_irrefl,ZD,YO,hm]
   rw[hlo,←hh]
   exact q _ (((H.Sub.refl hw).add _).add _)
 |succ k=>
  have p1:=two_pow_pos k
  have p2:(2:Int)^(k+1)=2^k*2:=Int.pow_succ 2 k
  have hpos:0<pw (k+1):=by simp only[pw];omega
  have epw:pw (k+1)=2^k:=rfl
  have hhalf:=pw_half k
  have hpk:0≤pw k∧pw k≤16384:=by
   cases k with
   |zero=>simp[pw]
   |succ j=>
    have:=two_pow_pos j
    have e:=Int.pow_succ 2 j
    simp only[pw];omega
  have m1:0≤(lo+pw (k+1)-1)*(100+w.hi)∧(lo+pw (k+1)-1)*(100+w.hi)≤10000000:=by
   constructor
   ·exact Int.mul_nonneg ycc ycc
   ·have a1:=Int.mul_le_mul_of_nonneg_right (show lo+pw (k+1)-1≤16384 by omega) (show 0≤100+w.hi by omega)
    omega
  by_cases hlt:(lo+pw (k+1)-1)*(100+w.hi)<100*(w.reads-m.errs)
  ·simp -implicitDefEqProofs(disch:=first|omega|simp only[nZ]<;>omega|fail)only[go_sem,e2,e6,e7,e8,ZD,hpos,hlt,YO,hhalf]
   refine⟨k,by omega,_,lo+pw (k+1),rfl,by omega,by omega,.inr hlt,by
     rw[epw];have:lo+2^k+2^k-1=lo+2^(k+1)-1:=by omega
     rw[this];exact l3,(by simp[Zn,Zd,e2]<;>rfl),(by simp[Zn,Zd,e6]<;>rfl),ycb,ycb⟩
  ·simp -implicitDefEqProofs(disch:=first|omega|simp only[nZ]<;>omega|fail)only[go_sem,e2,e6,e7,e8,ZD,hpos,hlt,YO,hhalf]
   refine⟨k,by omega,_,lo,rfl,l0,by omega,l2,by rw[epw] at hlt;omega,(by simp[Zn,Zd,e2]<;>rfl),(by simp[Zn,Zd,e6]<;>rfl),(by simp[Zn,Zd,e7]<;>rfl),ycb⟩
theorem known_ev {h:H}{v:V}{m:Ml}(hw:h.wf)(hm:ZF h v m)(n:Int):Ev fnG Zm (.fn 32 [] []) [v,.ii n] h fun u h'=>h.Sub h'∧((check m≠0∧u=.tup [.nilp,.ii (check m)])∨
  (check m=0∧¬(0≤n∧n≤(m.lots.length:Int)-1)∧u=.tup [.nilp,.ii 1])∨(check m=0∧(0≤n∧n≤(m.lots.length:Int)-1)∧∃d,u=.tup [.ptr d 0,.ii 0]∧WL h' d m)):=by
 refine Ev.gen fun Q q=>?_
 have hm0:=hm
 obtain⟨L,W,rfl,aL,aW⟩:=hm
 refine Zf (fd:=c32) rfl rfl rfl ?_
 have s2:h.Sub (h.add (.bk [.ii m.errs,L,W])):=yca
 simp(disch:=omega)only[c32,go_sem]
 refine(XQ s2.wf (hm0.mono s2)).mono fun u h3 hu=>?_
 obtain⟨s23,hu⟩:=hu
 have s3:=s2.trans s23
 have g1:h3.cells h.next=some [.ii m.errs,L,W]:=s23.cells (by simp(disch:=omega)only[go_sem])
 rcases hu with⟨c,rfl⟩|⟨c,d,rfl,hd⟩
 ·simp(disch:=omega)only[go_sem,c,g1]
  exact q _ _ ⟨s3,.inl ⟨c,rfl⟩⟩
 simp(disch:=omega)only[go_sem,g1]
 refine lot_ev (hm0.mono s3) n _ (fun h4 s34=>?_) s3.wf
 cases hn:inB n 0 ((m.lots.length:Int)-1)
 ·simp(disch:=omega)only[go_sem]
  exact q _ _ ⟨s3.trans s34,.inr (.inl ⟨c,by simpa[inB] using hn,rfl⟩)⟩
 ·simp(disch:=omega)only[go_sem]
  exact q _ _ ⟨s3.trans s34,.inr (.inr ⟨c,by simpa[inB] using hn,d,rfl,hd.mono s34⟩)⟩
theorem Parts_ev {h:H}{v:V}{m:Ml}(hw:h.wf)(hm:ZF h v m)(n:Int):Ev fnG Zm (.fn 47 [] []) [v,.ii n] h fun u h'=>h.Sub h'∧∃x l e,u=.tup [x,.ii e]∧Zk h' x 1 (l.map encI)∧((check m≠0∧e=check m∧l=[])∨
  (check m=0∧¬(0≤n∧n≤(m.lots.length:Int)-1)∧e=1∧l=[])∨(check m=0∧(0≤n∧n≤(m.lots.length:Int)-1)∧e=0∧l=parts m n)):=by
 refine Ev.gen fun Q q=>?_
 have hm0:=hm
 obtain⟨L,W,rfl,aL,aW⟩:=hm
 refine Zf (fd:=c47) rfl rfl rfl ?_
 have s2:h.Sub (h.add (.bk [.ii m.errs,L,W])):=yca
 simp(disch:=omega)only[c47,go_sem]
 refine(known_ev s2.wf (hm0.mono s2) n).mono fun u h3 hu=>?_
 obtain⟨s23,hu⟩:=hu
 have s3:=s2.trans s23
 have nil3:Zk h3 .nils 1 (([]:List Int).map encI):=(Zr.nil s3 1).sl ycA
 rcases hu with⟨c,rfl⟩|⟨c,c2,rfl⟩|⟨c,c2,d,rfl,hd⟩
 ·simp(disch:=omega)only[go_sem,ne_eq,c,not_false_eq_true]
  exact q _ _ ⟨s3,.nils,[],check m,rfl,nil3,.inl ⟨c,rfl,rfl⟩⟩
 ·simp(disch:=omega)only[go_sem,ne_eq,Int.reduceEq,not_false_eq_true]
  exact q _ _ ⟨s3,.nils,[],1,rfl,nil3,.inr (.inl ⟨c,c2,rfl,rfl⟩)⟩
 ·obtain⟨pm,l,L',W',k1,k2,_,_,ap⟩:=hd
  simp(disch:=omega)only[go_sem,ne_eq,not_true_eq_false,Za k1,k2]
  exact q _ _ ⟨s3,_,parts m n,0,rfl,ap n,.inr (.inr ⟨c,c2,rfl,rfl⟩)⟩
theorem Line_ev {h:H}{v:V}{m:Ml}(hw:h.wf)(hm:ZF h v m)(n:Int):Ev fnG Zm (.fn 48 [] []) [v,.ii n] h fun u h'=>h.Sub h'∧∃x l e,u=.tup [x,.ii e]∧Zk h' x 1 (l.map encI)∧((check m≠0∧e=check m∧l=[])∨
  (check m=0∧¬(0≤n∧n≤(m.lots.length:Int)-1)∧e=1∧l=[])∨(check m=0∧(0≤n∧n≤(m.lots.length:Int)-1)∧e=0∧l=line m n)):=by
 refine Ev.gen fun Q q=>?_
 have hm0:=hm
 obtain⟨L,W,rfl,aL,aW⟩:=hm
 refine Zf (fd:=c48) rfl rfl rfl ?_
 have s2:h.Sub (h.add (.bk [.ii m.errs,L,W])):=yca
 simp(disch:=omega)only[c48,go_sem]
 refine(known_ev s2.wf (hm0.mono s2) n).mono fun u h3 hu=>?_
 obtain⟨s23,hu⟩:=hu
 have s3:=s2.trans s23
 have nil3:Zk h3 .nils 1 (([]:List Int).map encI):=(Zr.nil s3 1).sl ycA
 rcases hu with⟨c,rfl⟩|⟨c,c2,rfl⟩|⟨c,c2,d,rfl,hd⟩
 ·simp(disch:=omega)only[go_sem,ne_eq,c,not_false_eq_true]
  exact q _ _ ⟨s3,.nils,[],check m,rfl,nil3,.inl ⟨c,rfl,rfl⟩⟩
 ·simp(disch:=omega)only[go_sem,ne_eq,Int.reduceEq,not_false_eq_true]
  exact q _ _ ⟨s3,.nils,[],1,rfl,nil3,.inr (.inl ⟨c,c2,rfl,rfl⟩)⟩
 ·simp(disch:=omega)only[go_sem,ne_eq,not_true_eq_false]
  refine WG s3.wf hd (ZJ c) ycc ycc _ fun x h4 ox=>?_
  simp(disch:=omega)only[go_sem]
  have hlen:(line m n).length≤9223372036854775807:=by
   have:∀k j,(Wp m k j).length≤k:=by
    intro k
    induction k with
    |zero=>intro j;simp[Wp]
    |succ k ih=>intro j;simp only[Wp];split<;>simp;exact ih _
   have:=this 13 n
   unfold line;omega
  exact q _ _ ⟨s3.trans ox.1,x,line m n,0,rfl,ox.sl (by simpa using hlen),.inr (.inr ⟨c,c2,rfl,rfl⟩)⟩
end Go.Ab.Tryz
namespace Go.Ab
namespace Tryz
set_option maxHeartbeats 4000000 in
theorem SilkChecks_sub {h:H}{v:V}{m:Ml}(hw:h.wf)(hm:ZF h v m)(lot weighing:Int):Ev fnG Zm (.fn 10 [] []) [v,.ii lot,.ii weighing] h fun u h'=>u=.bool true∧h.Sub h':=by
 refine Ev.gen fun Q q=>?_
 have hm0:=hm
 obtain⟨L,W,rfl,aL,aW⟩:=hm
 refine Zf (fd:=c10) rfl rfl rfl ?_
 have s1:h.Sub (h.add (.bk [.ii m.errs,L,W])):=yca
 simp(disch:=omega)only[c10,go_sem]
 refine VK s1.wf (hm0.mono s1) _ fun h2 s12=>?_
 have s2:=s1.trans s12
 have l2:=s12.next
 rw[H.next_add] at l2
 have g2:h2.cells h.next=some [.ii m.errs,L,W]:=s12.cells (Zh rfl)
 cases hgr:Xo m
 case true=>
  simp(disch:=omega)only[go_sem,Z4]
  exact q _ _ ⟨rfl,by first|assumption|exact H.Sub.refl hw|exact yca⟩
 have hle:m.lots.length≤1000∧m.wgs.length≤1000:=by
  simp only[Xo,decide_eq_false_iff_not] at hgr
  omega
 simp(disch:=omega)only[go_sem,g2]
 refine(own_ev s2.wf (hm0.mono s2) hle).mono fun u h3 hu=>?_
 obtain⟨s23,a,b,rfl,la1,la2,lb1,lb2,nab,ga,gb⟩:=hu
 have s3:=s2.trans s23
 have g3:=s23.cells g2
 have l3:=s23.next
 simp(disch:=omega)only[go_sem,g3]
 refine W3 s3.wf (hm0.mono s3) hle _ fun x h4 s34 hx=>?_
 have s4:=s3.trans s34
 have g4:=s34.cells g3
 have l4:=s34.next
 obtain⟨X,Y,rfl,aX,aY⟩:=id hx
 have hX1:X.one=true:=by rcases aX.2.2 with⟨rfl,_⟩|⟨_,_,_,_,rfl,_⟩<;>rfl
 have hY1:Y.one=true:=by rcases aY.2.2 with⟨rfl,_⟩|⟨_,_,_,_,rfl,_⟩<;>rfl
 simp -implicitDefEqProofs(disch:=first|omega|simp only[nZ]<;>omega|fail)only[go_sem,hX1,hY1,g2,g3,g4]
 have s45:h4.Sub ((((h4.add (.bk [.ii 0,.nils,.nils])).add (.bk [.ii 0,.nils,.nils])).set h4.next (.bk [.ii m.errs,.sl a 0 m.lots.length (.fix m.lots.length),.sl b 0 m.wgs.length (.fix m.wgs.length)])).set (h4.next+1) (.bk [.ii m.errs,X,Y])):=by
  have w4:=s4.wf
  exact yca
 have c7:((((h4.add (.bk [.ii 0,.nils,.nils])).add (.bk [.ii 0,.nils,.nils])).set h4.next (.bk [.ii m.errs,.sl a 0 m.lots.length (.fix m.lots.length),.sl b 0 m.wgs.length (.fix m.wgs.length)])).set (h4.next+1) (.bk [.ii m.errs,X,Y])).cells h4.next=some [.ii m.errs,.sl a 0 m.lots.length (.fix m.lots.length),.sl b 0 m.wgs.length (.fix m.wgs.length)]:=by simp -implicitDefEqProofs(maxSteps:=999999)(disch:=first|with_reducible rfl|omega|(simp only[nA,nS,nD]<;>omega)|fail)only[go_sem]
 have c8:((((h4.add (.bk [.ii 0,.nils,.nils])).add (.bk [.ii 0,.nils,.nils])).set h4.next (.bk [.ii m.errs,.sl a 0 m.lots.length (.fix m.lots.length),.sl b 0 m.wgs.length (.fix m.wgs.length)])).set (h4.next+1) (.bk [.ii m.errs,X,Y])).cells (h4.next+1)=some [.ii m.errs,X,Y]:=by simp -implicitDefEqProofs(maxSteps:=999999)(disch:=first|with_reducible rfl|omega|(simp only[nA,nS,nD]<;>omega)|fail)only[go_sem]
 have l5:h4.next+2≤((((h4.add (.bk [.ii 0,.nils,.nils])).add (.bk [.ii 0,.nils,.nils])).set h4.next (.bk [.ii m.errs,.sl a 0 m.lots.length (.fix m.lots.length),.sl b 0 m.wgs.length (.fix m.wgs.length)])).set (h4.next+1) (.bk [.ii m.errs,X,Y])).next:=by simp only[H.next_add,H.next_set];omega
 generalize((((h4.add (.bk [.ii 0,.nils,.nils])).add (.bk [.ii 0,.nils,.nils])).set h4.next (.bk [.ii m.errs,.sl a 0 m.lots.length (.fix m.lots.length),.sl b 0 m.wgs.length (.fix m.wgs.length)])).set (h4.next+1) (.bk [.ii m.errs,X,Y]))=h5 at s45 c7 c8 l5⊢
 have s5:=s4.trans s45
 have hown5:=(ZF.own (m:=m) hle ga gb).mono (s34.trans s45)
 refine(Xn s5.wf (hx.mono s45)).mono fun u h6 hu=>?_
 obtain⟨rfl,s56⟩:=hu
 have d7:=s56.cells c7
 simp(disch:=omega)only[go_sem,d7]
 refine(Vk s56.wf (hown5.mono s56)).mono fun u h7 hu=>?_
 obtain⟨rfl,s67⟩:=hu
 have s57:=s56.trans s67
 have s7:=s5.trans s57
 have l7:=s57.next
 have e7:=s57.cells c7
 have e8:=s57.cells c8
 have e1:=(s45.trans s57).cells g4
 simp(disch:=omega)only[go_sem,ne_eq,not_true_eq_false]
 obtain⟨I,hI⟩:∃I:St→Prop,∀s,I s↔∃tm h8 uE vE pl ll P Ln slo shi,s=⟨tm,h8,[]⟩∧h7.Sub h8∧h7.next<h8.next∧tm.E 1=.ii lot∧tm.E 2=.ii weighing∧tm.E 3=.ptr h.next 0∧tm.E 7=.ptr h4.next 0∧tm.E 10=.ii uE∧tm.E 11=.ii vE∧
   tm.E 12=P∧tm.E 13=Ln∧tm.E 14=.ptr h7.next 0∧h8.cells h7.next=some [.ii slo,.ii shi]∧Zk h8 P 1 (pl.map encI)∧Zk h8 Ln 1 (ll.map encI)∧
   ((check m≠0∧uE=check m∧pl=[]∧ll=[])∨(check m=0∧¬(0≤lot∧lot≤(m.lots.length:Int)-1)∧uE=1∧pl=[]∧ll=[])∨(check m=0∧(0≤lot∧lot≤(m.lots.length:Int)-1)∧uE=0∧pl=parts m lot∧ll=line m lot))∧
   ((check m≠0∧vE=check m∧slo=0∧shi=0)∨(check m=0∧¬(0≤weighing∧weighing≤(m.wgs.length:Int)-1)∧vE=1∧slo=0∧shi=0)∨
    (check m=0∧∃i:Nat,∃hi':i<m.wgs.length,weighing=(i:Int)∧((Z1 m m.wgs[i]<Z8 m m.wgs[i]∧vE=6∧slo=0∧shi=0)∨(Z8 m m.wgs[i]≤Z1 m m.wgs[i]∧vE=0∧slo=Z8 m m.wgs[i]∧shi=Z1 m m.wgs[i])))):=⟨_,fun s=>Iff.rfl⟩
 refine Us (p:=check m=0) I ?_ ?_ ?_
 ·intro c
  have g:=ZJ c
  have w7:=s7.wf
  have e8':=(H.Sub.refl w7).add (.bk [.ii 0,.ii 0]) |>.cells e8
  have e1':=(H.Sub.refl w7).add (.bk [.ii 0,.ii 0]) |>.cells e1
  have s7x:h7.Sub (h7.add (.bk [.ii 0,.ii 0])):=(H.Sub.refl w7).add _
  have hx7:=(hx.mono (s45.trans s57)).mono s7x
  have hlenL:=aL.lenE
  have hlenW:=aW.lenE
  rw[W_seq]
  obtain⟨J,hJ⟩:∃J:St→Prop,∀s,J s↔∃tm h8 uE pl ll P Ln,s=⟨tm,h8,[]⟩∧(h7.add (.bk [.ii 0,.ii 0])).Sub h8∧tm.E 1=.ii lot∧tm.E 2=.ii weighing∧tm.E 3=.ptr h.next 0∧tm.E 7=.ptr h4.next 0∧tm.E 8=.ptr (h4.next+1) 0∧tm.E 10=.ii uE∧
   tm.E 12=P∧tm.E 13=Ln∧tm.E 14=.ptr h7.next 0∧Zk h8 P 1 (pl.map encI)∧Zk h8 Ln 1 (ll.map encI)∧(∀b,Zs P b→¬b=h7.next)∧(∀b,Zs Ln b→¬b=h7.next)∧
   ((check m=0∧¬(0≤lot∧lot≤(m.lots.length:Int)-1)∧uE=1∧pl=[]∧ll=[])∨(check m=0∧(0≤lot∧lot≤(m.lots.length:Int)-1)∧uE=0∧pl=parts m lot∧ll=line m lot)):=⟨_,fun s=>Iff.rfl⟩
  refine W_cut J ?_ ?_
  ·by_cases d1:0≤lot
   case neg=>
    simp(disch:=omega)only[go_sem,d1]
    exact⟨rfl,(hJ _).2 ⟨_,_,1,[],[],.nils,.nils,rfl,H.Sub.refl s7x.wf,ycb,ycb,ycb,ycb,ycb,ycb,ycb,ycb,ycb,(Zr.nil s7x 1).sl ycA,(Zr.nil s7x 1).sl ycA,fun b hb=>(ZE hb).elim,fun b hb=>(ZE hb).elim,.inl ⟨c,by omega,rfl,rfl,rfl⟩⟩⟩
   by_cases d2:lot<(m.lots.length:Int)
   case neg=>
    simp(disch:=omega)only[go_sem,d1,e1',hlenL,d2]
    exact⟨rfl,(hJ _).2 ⟨_,_,1,[],[],.nils,.nils,rfl,H.Sub.refl s7x.wf,ycb,ycb,ycb,ycb,ycb,ycb,ycb,ycb,ycb,(Zr.nil s7x 1).sl ycA,(Zr.nil s7x 1).sl ycA,fun b hb=>(ZE hb).elim,fun b hb=>(ZE hb).elim,.inl ⟨c,by omega,rfl,rfl,rfl⟩⟩⟩
   obtain⟨n,rfl⟩:=Int.eq_ofNat_of_zero_le d1
   have hn:n<m.lots.length:=by omega
   simp(disch:=omega)only[go_sem,d1,e1',hlenL,d2,e8']
   refine YU s7x.wf hx7 g hn _ fun P hP oP=>?_
   have k8:=oP.1.cells e8'
   simp(disch:=omega)only[go_sem,k8]
   refine refLine_ev oP.1.wf (hx7.mono oP.1) g ycc ycc _ fun Ln hL oL=>?_
   have k8':=oL.1.cells k8
   simp(disch:=omega)only[go_sem,e8',k8,k8']
   have hpl:=ZV m n
   have gl:=g.lots
   have hll:(line m n).length≤13:=by
    have:∀k j,(Wp m k j).length≤k:=by
     intro k
     induction k with
     |zero=>intro j;simp[Wp]
     |succ k ih=>intro j;simp only[Wp];split<;>simp;exact ih _
    exact this 13 n
   exact⟨rfl,(hJ _).2 ⟨_,_,0,parts m n,line m n,P,Ln,rfl,oP.1.trans oL.1,ycb,ycb,ycb,ycb,ycb,ycb,ycb,ycb,ycb,(oP.sl ycG).mono oL.1,oL.sl ycG,fun b hb e=>by(have:=(oP.blk hb).1;rw[H.next_add] at this;omega),fun b hb e=>by(have:=(oL.blk hb).1;have:=oP.1.next;rw[H.next_add] at this;omega),.inr ⟨c,by omega,rfl,rfl,rfl⟩⟩⟩
  ·intro s hs
   obtain⟨tm,h8,uE,pl,ll,P,Ln,rfl,s78,t1,t2,t3,t7,t8,t10,t12,t13,t14,aP,aLn,dP,dL,spP⟩:=(hJ s).1 hs
   have k1:=s78.cells e1'
   have k8:=s78.cells e8'
   have l8:=s78.next
   rw[H.next_add] at l8
   have k14:h8.get h7.next=some (.bk [.ii 0,.ii 0]):=s78.get (Zo rfl)
   have s7y:=s7x.trans s78
   by_cases d1:0≤weighing
   case neg=>
    simp(disch:=omega)only[go_sem,t1,t2,t3,t7,t8,t10,t12,t13,t14,d1]
    exact⟨rfl,(hI _).2 ⟨_,_,uE,1,pl,ll,P,Ln,0,0,rfl,s7y,by omega,ycE,ych,ycd,ycq,ycp,ycb,ycB,ycg,yco,Za k14,aP,aLn,.inr spP,.inr (.inl ⟨c,by omega,rfl,rfl,rfl⟩)⟩⟩
   by_cases d2:weighing<(m.wgs.length:Int)
   case neg=>
    simp(disch:=omega)only[go_sem,t1,t2,t3,t7,t8,t10,t12,t13,t14,d1,k1,hlenW,d2]
    exact⟨rfl,(hI _).2 ⟨_,_,uE,1,pl,ll,P,Ln,0,0,rfl,s7y,by omega,ycE,ych,ycd,ycq,ycp,ycb,ycB,ycg,yco,Za k14,aP,aLn,.inr spP,.inr (.inl ⟨c,by omega,rfl,rfl,rfl⟩)⟩⟩
   obtain⟨n,rfl⟩:=Int.eq_ofNat_of_zero_le d1
   have hn:n<m.wgs.length:=by omega
   simp(disch:=omega)only[go_sem,t1,t2,t3,t7,t8,t10,t12,t13,t14,d1,k1,hlenW,d2,k8]
   refine V5 s78.wf (hx7.mono s78) g hn _ fun h9 s89=>?_
   have k14':=s89.get k14
   have l9:=s89.next
   by_cases d3:Z8 m m.wgs[n]≤Z1 m m.wgs[n]
   ·simp(disch:=omega)only[go_sem,t1,t2,t3,t7,t8,t10,t12,t13,t14,k14',d3]
    have s7z:h7.Sub (h9.set h7.next (.bk [.ii (Z8 m m.wgs[n]),.ii (Z1 m m.wgs[n])])):=(s7y.trans s89).set (Nat.le_refl _) ycc w7 _
    have k9:Zq (fun c=>c=h7.next) h9 (h9.set h7.next (.bk [.ii (Z8 m m.wgs[n]),.ii (Z1 m m.wgs[n])])):=Zq.set _ _ _
    exact⟨rfl,(hI _).2 ⟨_,_,uE,0,pl,ll,P,Ln,Z8 m m.wgs[n],Z1 m m.wgs[n],rfl,s7z,by rw[H.next_set];omega,ycE,ych,ycd,ycq,ycp,ycb,ycB,ycg,yco,Yx rfl,
     YD (aP.mono s89) k9 dP,YD (aLn.mono s89) k9 dL,.inr spP,.inr (.inr ⟨c,n,hn,rfl,.inr ⟨d3,rfl,rfl,rfl⟩⟩)⟩⟩
   ·simp(disch:=omega)only[go_sem,t1,t2,t3,t7,t8,t10,t12,t13,t14,k14',d3]
    have s7z:h7.Sub (h9.set h7.next (.bk [.ii 0,.ii 0])):=(s7y.trans s89).set (Nat.le_refl _) ycc w7 _
    have k9:Zq (fun c=>c=h7.next) h9 (h9.set h7.next (.bk [.ii 0,.ii 0])):=Zq.set _ _ _
    exact⟨rfl,(hI _).2 ⟨_,_,uE,6,pl,ll,P,Ln,0,0,rfl,s7z,by rw[H.next_set];omega,ycE,ych,ycd,ycq,ycp,ycb,ycB,ycg,yco,Yx rfl,
     YD (aP.mono s89) k9 dP,YD (aLn.mono s89) k9 dL,.inr spP,.inr (.inr ⟨c,n,hn,rfl,.inl ⟨by omega,rfl,rfl,rfl⟩⟩)⟩⟩
 ·intro c
  simp(disch:=omega)only[go_sem]
  exact⟨rfl,(hI _).2 ⟨_,_,check m,check m,[],[],.nils,.nils,0,0,rfl,(H.Sub.refl s7.wf).add _,by rw[H.next_add];omega,ycb,ycb,ycb,ycb,ycb,ycb,ycb,ycb,ycb,Zh rfl,(Zr.nil ((H.Sub.refl s7.wf).add _) 1).sl ycA,(Zr.nil ((H.Sub.refl s7.wf).add _) 1).sl ycA,
   .inl ⟨c,rfl,rfl,rfl⟩,.inl ⟨c,rfl,rfl,rfl⟩⟩⟩
 ·intro s hs
  obtain⟨tm,h8,uE,vE,pl,ll,P,Ln,slo,shi,rfl,s78,l8,t1,t2,t3,t7,t10,t11,t12,t13,t14,k14,aP,aLn,spP,spS⟩:=(hI s).1 hs
  have s58:=s57.trans s78
  have f7:=s78.cells e7
  have f1:=s78.cells e1
  simp(disch:=omega)only[go_sem,t1,t2,t3,t7,t10,t11,t12,t13,t14,f7]
  refine(Parts_ev s78.wf (hown5.mono s58) lot).mono fun u h9 hu=>?_
  obtain⟨s89,x1,q1,er1,rfl,aq1,sp1⟩:=hu
  have v7:=s89.cells f7
  simp(disch:=omega)only[go_sem,t1,t2,t3,t7,t10,t11,t12,t13,t14,v7]
  refine(Line_ev s89.wf (hown5.mono (s58.trans s89)) lot).mono fun u hA hu=>?_
  obtain⟨s9A,x2,q2,er2,rfl,aq2,sp2⟩:=hu
  have y7:=s9A.cells v7
  simp(disch:=omega)only[go_sem,t1,t2,t3,t7,t10,t11,t12,t13,t14,y7]
  refine(Says_ev s9A.wf (hown5.mono ((s58.trans s89).trans s9A)) weighing).mono fun u hB hu=>?_
  obtain⟨sAB,lo3,hi3,er3,rfl,sp3⟩:=hu
  have eq1:er1=uE∧q1=pl:=by
   rcases sp1 with⟨a1,a2,a3⟩|⟨a1,a2,a3,a4⟩|⟨a1,a2,a3,a4⟩<;>rcases spP with⟨b1,b2,b3,b4⟩|⟨b1,b2,b3,b4,b5⟩|⟨b1,b2,b3,b4,b5⟩<;>first|exact absurd a1 b1|exact absurd b1 a1|exact absurd a2 b2|exact absurd b2 a2|(subst_vars;exact⟨by omega,rfl⟩)|(constructor<;>simp_all)
  have eq2:er2=uE∧q2=ll:=by
   rcases sp2 with⟨a1,a2,a3⟩|⟨a1,a2,a3,a4⟩|⟨a1,a2,a3,a4⟩<;>rcases spP with⟨b1,b2,b3,b4⟩|⟨b1,b2,b3,b4,b5⟩|⟨b1,b2,b3,b4,b5⟩<;>first|exact absurd a1 b1|exact absurd b1 a1|exact absurd a2 b2|exact absurd b2 a2|(subst_vars;exact⟨by omega,rfl⟩)|(constructor<;>simp_all)
  have eq3:er3=vE∧lo3=slo∧hi3=shi:=by
   rcases sp3 with⟨a1,a2,a3,a4⟩|⟨a1,a2,a3,a4,a5⟩|⟨a1,i,hi1,ei,a5⟩<;>rcases spS with⟨b1,b2,b3,b4⟩|⟨b1,b2,b3,b4,b5⟩|⟨b1,j,hj1,ej,b5⟩
   ·exact⟨by omega,by omega,by omega⟩
   ·exact absurd b1 a1
   ·exact absurd b1 a1
   ·exact absurd a1 b1
   ·exact⟨by omega,by omega,by omega⟩
   ·exact absurd ycc a2
   ·exact absurd a1 b1
   ·exact absurd ycc b2
   ·have:i=j:=by omega
    subst this
    omega
  obtain⟨rfl,rfl⟩:=eq1
  obtain⟨e2',rfl⟩:=eq2
  obtain⟨rfl,rfl,rfl⟩:=eq3
  have sAll:=(((s58.trans s89).trans s9A).trans sAB)
  have lB:=(s89.trans (s9A.trans sAB)).next
  have z14:=(s89.trans (s9A.trans sAB)).cells k14
  have z7:=sAB.cells y7
  have z1:=(s89.trans (s9A.trans sAB)).cells f1
  have sC:=(H.Sub.refl sAB.wf).add (.bk [.ii lo3,.ii hi3])
  have i1:=XF (aq1.mono ((s9A.trans sAB).trans sC)) (aP.mono ((s89.trans (s9A.trans sAB)).trans sC))
  have i2:=XF (aq2.mono (sAB.trans sC)) (aLn.mono ((s89.trans (s9A.trans sAB)).trans sC))
  simp(disch:=omega)only[go_sem,t1,t2,t3,t7,t10,t11,t12,t13,t14,z7,z1,z14,e2',i1,i2,q_feq_2,ngB,and_self,decide_eq_true rfl]
  refine WW (H.Sub.wf (sAB.add _)) ((hown5.mono sAll).mono sC) (hm0.mono ((s5.trans sAll).trans sC)) _ fun hD sCD=>?_
  simp(disch:=omega)only[go_sem,decide_eq_true rfl,Z4]
  exact q _ _ ⟨rfl,((s5.trans sAll).trans sC).trans sCD⟩
end Tryz
end Go.Ab
namespace Go.Ab
theorem VX {h:H}{by_ n m:Nat}{z:List V}(h0:n≤m)(h1:m*by_≤1099511627776)(h2:m≤1099511627776):
  a_msl h by_ z (.ii (n:Int)) (.ii (m:Int))=some (.sl h.next 0 n (.fix m),h.add (.bk (Yp m z))):=by
 have e1:Nat.ble (m*by_) 1099511627776=true:=by simpa using h1
 have e2:Nat.ble m 1099511627776=true:=by simpa using h2
 have e3:Nat.ble n m=true:=by simpa using h0
 simp only[a_msl,Zb,e1,e2,e3,YJ,lf_eq]
theorem e_cpy_new {h0 h:H}{y:V}{sz b c n:Nat}{rows:List (List V)}{z:List V}{Q:V→H→Prop}(hs:h0.Sub h)(hw0:h0.wf)(hy:Zk h y sz rows)(hn:n=rows.length)(hb:h.get b=some (.bk (Yp c z)))(l1:h0.next≤b)(l2:b<h.next)(hz:z.length=sz)(hc:rows.length≤c)
  (ho:Z5 rows.flatten=true) (q:∀h',ZK h0 h' (.sl b 0 n (.fix c)) sz rows→Zq (fun x=>x=b) h h'→h'.next=h.next→Q (.ii (n:Int)) h'):P2 (e_cpy h sz (.sl b 0 n (.fix c)) y) Q:=by
 subst hn
 obtain⟨e1,e2⟩:=hy.elems
 have hl:=Zp hy.1
 have hr:=VD z c
 rw[hz] at hr
 have hle:rows.length*sz≤c*sz:=Nat.mul_le_mul_right sz hc
 have hble:Nat.ble rows.length rows.length=true:=by simp
 have ht:takeN (rows.length*sz) rows.flatten=some rows.flatten:=takeN_eq.2 ⟨by rw[←hl,List.take_length],by omega⟩
 have hlen:rows.length*sz+((Yp c z).drop (rows.length*sz)).length=c*sz:=by rw[List.length_drop,hr];omega
 simp only[e_cpy,lenV_sl,e1,e2,hble,ht,cpyTo]
 cases hf:rows.flatten with
 |nil=>
  rw[hf] at hl
  simp only[List.length_nil] at hl
  simp only[H.put,XM,Xl]
  refine q h ⟨hs,hy.1,.inr (.inr ⟨b,c,_,rfl,l1,l2,?_,hlen,hc⟩)⟩ (Zq.refl _ h) rfl
  rw[hb,hf,←hl];simp
 |cons v vs=>
  rw[hf] at ho hl
  have hp:Yl 0 (v::vs) (Yp c z)=some (v::vs++(Yp c z).drop (rows.length*sz)):=by
   rw[V7]
   exact over_eq.2 ⟨by rw[hl],by rw[hl,hr];exact hle⟩
  rw[H.put_rw ho hb hp,XM,Xl]
  refine q _ ⟨hs.set l1 l2 hw0 _,hy.1,.inr (.inr ⟨b,c,_,rfl,l1,by rw[H.next_set];exact l2,?_,hlen,hc⟩)⟩ (Zq.set h b _) (H.next_set _ _ _)
  rw[get_set_same rfl,hf]
end Go.Ab
namespace Go.Ab.Tryz
theorem cloneLot_ev {h:H}{x:V}{l:List Lt}(hw:h.wf)(hx:Zk h x 2 (l.map ZO))(hl:l.length≤1000000)(Q:V→H→Prop)(q:∀v h',ZK h h' v 2 (l.map ZO)→Q v h'):Ev fnG Zm (.fn 153 [] []) [x] h Q:=by
 refine Zf (fd:=c153) rfl rfl rfl ?_
 have s1:h.Sub (h.add (.bk [])):=yca
 have hx1:=(hx.mono s1).elems
 have ho:=XZ (enc:=ZO) (fun _=>rfl) l
 rcases hx.2.2 with⟨rfl,e⟩|⟨b,o,c,cs,rfl,_⟩
 ·simp(disch:=omega)only[c153,go_sem]
  exact q _ _ (by rw[e];exact(Zr.nil (H.Sub.refl hw) 2).c)
 ·simp(disch:=omega)only[c153,go_sem]
  rw[Vi,hx1.1,hx1.2]
  simp only[WZ]
  cases hn:(l.map ZO).length with
  |zero=>
   have e:l.map ZO=[]:=List.length_eq_zero_iff.1 hn
   simp(disch:=omega)only[go_sem,Uj,Nat.ble_eq,Nat.le_refl,YJ]
   have:Nat.ble 0 0=true:=rfl
   simp(disch:=omega)only[this,go_sem]
   exact q _ _ (by rw[e];exact⟨s1,by simp,.inr (.inr ⟨h.next,0,[],rfl,Nat.le_refl _,by rw[H.next_add];omega,Zo rfl,rfl,Nat.le_refl _⟩)⟩)
  |succ k=>
   rw[Ui ycc (elems_0 _ _ _ _ _) (by simp at hn;omega) (by simp at hn;omega),grown_eq]
   simp(disch:=omega)only[go_sem]
   refine q _ _ ⟨s1.add _,hx.1,.inr (.inl ⟨h.next+1,by rw[hn],by omega,by simp only[H.next_add];omega,by rw[Zo (by rw[H.next_add])]⟩)⟩
theorem copied_ev {h:H}{v:V}{m:Ml}(hw:h.wf)(hm:ZF h v m)(hl:m.lots.length≤1000∧m.wgs.length≤1000)(Q:V→H→Prop)(q:∀u h',h.Sub h'→YS h h' u m→Q u h'):Ev fnG Zm (.fn 110 [] []) [v] h Q:=by
 obtain⟨L,W,rfl,aL,aW⟩:=hm
 refine Zf (fd:=c110) rfl rfl rfl ?_
 have hle:=aW.lenE
 have s2:h.Sub ((h.add (.bk [.ii m.errs,L,W])).add (.bk [.ii 0,.nils,.nils])):=yca
 have w2:=s2.wf
 have s3:=s2.add (.bk (Yp (m.wgs.length+1) [.ii 0,.ii 0,.ii 0,.ii 0]))
 have e1:wr .i64 ((m.wgs.length:Int)+1)=((m.wgs.length+1:Nat):Int):=Ze ycc
 simp -implicitDefEqProofs(disch:=first|omega|simp only[nZ]<;>omega|fail)only[c110,go_sem,hle,e1,VX]
 refine e_cpy_new s3 hw (aW.mono s3) ycA (Zo (by simp only[H.next_add])) ycc (by simp only[H.next_add];omega) rfl ycA (XZ (fun _=>rfl) _) fun h4 o4 k4 n4=>?_
 simp only[H.next_add] at n4
 have g4a:h4.get h.next=some (.bk [.ii m.errs,L,W]):=k4.2 _ _ yce ycc
 have g4b:h4.get (h.next+1)=some (.bk [.ii 0,.nils,.nils]):=k4.2 _ _ yce ycc
 have s4:=o4.1
 have s23:=(H.Sub.refl w2).add (.bk (Yp (m.wgs.length+1) [.ii 0,.ii 0,.ii 0,.ii 0]))
 simp(disch:=omega)only[go_sem,Za g4a,g4b]
 refine cloneLot_ev s4.wf (aL.mono s4) ycc _ fun x h5 o5=>?_
 have s45:=o5.1
 have g5a:=s45.get g4a
 have g5b:=s45.get g4b
 have l5:=s45.next
 have hx1:=o5.one
 have o5':=o5.base s4
 have s6:h.Sub (h5.set (h.next+1) (.bk [.ii m.errs,x,.sl (h.next+1+1) 0 m.wgs.length (.fix (m.wgs.length+1))])):=(s4.trans s45).set ycc ycc hw _
 have k6:=Zq.set h5 (h.next+1) (.bk [.ii m.errs,x,.sl (h.next+1+1) 0 m.wgs.length (.fix (m.wgs.length+1))])
 have nx:∀b,Zs x b→h4.next≤b:=fun b hb=>(o5.blk hb).1
 have hx2:=cells_one hx1
 simp(disch:=omega)only[go_sem,Za g4a,Za g5a,g5b,hx1,hx2]
 refine q _ _ s6 ⟨_,_,rfl,o5'.keep k6 s6 fun b hb e=>?_,(o4.mono s45).keep k6 s6 fun b hb e=>?_,fun b hb hb2=>?_⟩
 ·have:=nx b hb;omega
 ·obtain⟨_,_,_,e'⟩:=hb;cases e';omega
 ·obtain⟨_,_,_,e'⟩:=hb2;cases e'
  have:=nx _ hb;omega
def Ml.empty:Ml:=⟨0,[],[]⟩
def Ml.weighed (m:Ml)(w:Wg):Ml:=⟨m.errs,m.lots,m.wgs++[w]⟩
def Ml.splitB (m:Ml)(lot:Int)(kinds:List Int):Ml:=⟨m.errs,m.lots++kinds.map (fun k=>⟨lot,k⟩),m.wgs⟩
def YY (m:Ml)(w:Wg):Int:=if check m≠0 then check m else if(m.wgs.length:Int)=10 then 9 else check (m.weighed w)
def ZL (m:Ml)(w:Wg):Ml:=if YY m w=0 then m.weighed w else Ml.empty
theorem YS.empty {h0 h:H}(hs:h0.Sub h):YS h0 h (.agg [.ii 0,.nils,.nils]) Ml.empty:=⟨.nils,.nils,rfl,(Zr.nil hs 2).c,(Zr.nil hs 4).c,fun b hb=>(by obtain⟨_,_,_,e⟩:=hb;cases e)⟩
theorem YS.keep {h0 h h':H}{S:Nat→Prop}{v:V}{m:Ml}(a:YS h0 h v m)(k:Zq S h h')(hs:h0.Sub h')(n:∀b,S b→∀kd cs,h.get b≠some (.cells kd cs)∨b<h0.next):YS h0 h' v m:=by
 obtain⟨L,W,e,a1,a2,a3⟩:=a
 refine⟨L,W,e,a1.keep k hs fun b hb hS=>?_,a2.keep k hs fun b hb hS=>?_,a3⟩
 ·obtain⟨l1,_,kd,cs,hg,_⟩:=a1.blk hb
  rcases n b hS kd cs with h|h
  ·exact h hg
  ·omega
 ·obtain⟨l1,_,kd,cs,hg,_⟩:=a2.blk hb
  rcases n b hS kd cs with h|h
  ·exact h hg
  ·omega
theorem Weigh_ev {h:H}{v:V}{m:Ml}{w:Wg}(hw:h.wf)(hm:ZF h v m)(Q:V→H→Prop)(q:∀a h',YS h h' a (ZL m w)→h.Sub h'→Q (.tup [a,.ii (YY m w)]) h'):Ev fnG Zm (.fn 61 [] []) [v,.agg (Zy w)] h Q:=by
 have hm0:=hm
 obtain⟨L,W,rfl,aL,aW⟩:=hm
 refine Zf (fd:=c61) rfl rfl rfl ?_
 have hle:=aW.lenE
 have s3:h.Sub (((h.add (.bk [.ii m.errs,L,W])).add (.bk (Zy w))).add (.bk [.ii 0,.nils,.nils])):=yca
 simp -implicitDefEqProofs(disch:=first|omega|simp only[nZ]<;>omega|fail)only[c61,go_sem,Zy]
 refine(Vk s3.wf (hm0.mono s3)).mono fun u h4 hu=>?_
 obtain⟨rfl,s34⟩:=hu
 have l4:=s34.next
 simp only[H.next_add] at l4
 have s4:=s3.trans s34
 have g4a:h4.cells h.next=some [.ii m.errs,L,W]:=s34.cells yce
 have g4b:h4.cells (h.next+1)=some (Zy w):=s34.cells yce
 have g4c:h4.get (h.next+1+1)=some (.bk [.ii 0,.nils,.nils]):=s34.get yce
 by_cases c:check m=0
 case neg=>
  have e1:YY m w=check m:=by simp[YY,c]
  have e2:ZL m w=Ml.empty:=by simp[ZL,e1,c]
  simp(disch:=omega)only[go_sem,ne_eq,c,not_false_eq_true,g4c]
  have s5:h.Sub (h4.set (h.next+1+1) (.bk [.ii 0,.nils,.nils])):=s4.set ycc ycc hw _
  have:=q _ _ (e2▸YS.empty s5) s5
  rw[e1] at this;exact this
 by_cases c2:(m.wgs.length:Int)=10
 case pos=>
  have e1:YY m w=9:=by simp[YY,c,c2]
  have e2:ZL m w=Ml.empty:=by simp[ZL,e1]
  simp(disch:=omega)only[go_sem,ne_eq,c,not_true_eq_false,g4a,g4c,hle,c2]
  have s5:h.Sub (h4.set (h.next+1+1) (.bk [.ii 0,.nils,.nils])):=s4.set ycc ycc hw _
  have:=q _ _ (e2▸YS.empty s5) s5
  rw[e1] at this;exact this
 have hg:=ZJ c
 have gl:=hg.lots
 have gw:=hg.wgs
 have e1:YY m w=check (m.weighed w):=by simp[YY,c,c2]
 simp(disch:=omega)only[go_sem,ne_eq,c,not_true_eq_false,g4a,hle,c2]
 refine copied_ev s4.wf (hm0.mono s4) ycc _ fun a h5 s45 o5=>?_
 obtain⟨X,Y,rfl,oX,oY,dXY⟩:=o5
 have l5:=s45.next
 have g5b:=s45.cells g4b
 have g5c:=s45.get g4c
 have s5:=s4.trans s45
 have g5c2:h5.cells (h.next+1+1)=some [.ii 0,.nils,.nils]:=Za g5c
 simp(disch:=omega)only[go_sem,oX.one,oY.one,cells_one oX.one,cells_one oY.one,g5b,Zy]
 have s57:=((H.Sub.refl s5.wf).add (.bk [.ii m.errs,X,Y])).add (.bk (Zy w))
 have lX:∀b,Zs X b→h4.next≤b∧b<h5.next:=fun b hb=>⟨(oX.blk hb).1,(oX.blk hb).2.1⟩
 have lY:∀b,Zs Y b→h4.next≤b∧b<h5.next:=fun b hb=>⟨(oY.blk hb).1,(oY.blk hb).2.1⟩
 refine((oY.base s4).mono s57).app1 (r:=Zy w) hw rfl ycc (Zk.new _ (by simp only[H.next_add]) rfl ycI ycI ycA) rfl ycF ycF fun Z h6 o6 dZ k6=>?_
 have g6c:=k6.2 _ _ (s57.get g5c) fun hb=>by have:=lY _ hb;omega
 have g6d:h6.get h5.next=some (.bk [.ii m.errs,X,Y]):=k6.2 _ _ yce fun hb=>by have:=lY _ hb;omega
 have l6:=k6.1
 simp only[H.next_add] at l6
 have s6:=o6.1
 have s7:h.Sub (h6.set h5.next (.bk [.ii m.errs,X,Z])):=s6.set (by have:=s5.next;omega) ycc hw _
 have k7:=Zq.set h6 h5.next (.bk [.ii m.errs,X,Z])
 have nZ:∀b,Zs Z b→¬b=h5.next:=fun b hb e=>by
  rcases dZ b hb with h|h
  ·have:=lY b h;omega
  ·simp only[H.next_add] at h;omega
 have oX7:=(((oX.base s4).mono s57).keep k6 o6.1 dXY).keep k7 s7 fun b hb e=>by have:=lX b hb;omega
 have oZ7:=o6.keep k7 s7 nZ
 have g7c:(h6.set h5.next (.bk [.ii m.errs,X,Z])).get (h.next+1+1)=some (.bk [.ii 0,.nils,.nils]):=by rw[get_set_other ycc];exact g6c
 have g7d:(h6.set h5.next (.bk [.ii m.errs,X,Z])).get h5.next=some (.bk [.ii m.errs,X,Z]):=get_set_same rfl
 have dXZ:∀b,Zs X b→¬Zs Z b:=fun b hb hz=>by
  rcases dZ b hz with h|h
  ·exact dXY b hb h
  ·have:=lX b hb;simp only[H.next_add] at h;omega
 have l7:(h6.set h5.next (.bk [.ii m.errs,X,Z])).next=h6.next:=H.next_set _ _ _
 have s56:=l6
 simp(disch:=omega)only[go_sem,Za g6d,g6d,o6.one,cells_one o6.one]
 generalize h6.set h5.next (.bk [.ii m.errs,X,Z])=h7 at s7 k7 oX7 oZ7 g7c g7d l7⊢
 have own7:YS h h7 (.agg [.ii m.errs,X,Z]) (m.weighed w):=⟨X,Z,rfl,oX7,by simpa[Ml.weighed] using oZ7,dXZ⟩
 refine(Vk s7.wf (own7.is (by simp[Ml.weighed];omega))).mono fun u h8 hu=>?_
 obtain⟨rfl,s78⟩:=hu
 have g8c:=s78.get g7c
 have g8d:=s78.get g7d
 have l8:=s78.next
 have l5':=s45.next
 by_cases c3:check (m.weighed w)=0
 ·have e2:ZL m w=m.weighed w:=by simp[ZL,e1,c3]
  simp(disch:=omega)only[go_sem,ne_eq,c3,not_true_eq_false,Za g8d,g8c,oX.one,o6.one,cells_one oX.one,cells_one o6.one]
  have s9:h.Sub (h8.set (h.next+1+1) (.bk [.ii m.errs,X,Z])):=(s7.trans s78).set ycc ycc hw _
  have k9:=Zq.set h8 (h.next+1+1) (.bk [.ii m.errs,X,Z])
  have o8:=own7.mono s78
  have o9:YS h (h8.set (h.next+1+1) (.bk [.ii m.errs,X,Z])) (.agg [.ii m.errs,X,Z]) (ZL m w):=by
   rw[e2]
   refine⟨X,Z,rfl,(oX7.mono s78).keep k9 s9 (fun b hb e=>by have:=lX b hb;omega),?_,dXZ⟩
   have:=(oZ7.mono s78).keep k9 s9 (fun b hb e=>by
    rcases dZ b hb with h|h
    ·have:=lY b h;omega
    ·simp only[H.next_add] at h;omega)
   simpa[Ml.weighed] using this
  have:=q _ _ o9 s9
  rw[e1,c3] at this;exact this
 ·have e2:ZL m w=Ml.empty:=by simp[ZL,e1,c3]
  simp(disch:=omega)only[go_sem,ne_eq,c3,not_false_eq_true,g8c]
  have s9:h.Sub (h8.set (h.next+1+1) (.bk [.ii 0,.nils,.nils])):=(s7.trans s78).set ycc ycc hw _
  have:=q _ _ (e2▸YS.empty s9) s9
  rw[e1] at this;exact this
def Xe (m:Ml)(lot:Int)(kinds:List Int):Int:=if check m≠0 then check m else if¬(0≤lot∧lot≤(m.lots.length:Int)-1) then 1 else if 0<((parts m lot).length:Int) then 5
 else if(kinds.length:Int)=0 then 2 else if 12<(m.lots.length:Int)+(kinds.length:Int) then 9 else if kinds.all ZA=false then 3 else 0
def YB (m:Ml)(lot:Int)(kinds:List Int):Ml:=if Xe m lot kinds=0 then m.splitB lot kinds else Ml.empty
theorem allowed_pure (h:H)(k:Int):Yy h (.fn 73 [] []) [.ii k] (.bool (ZA k)):=fun h1 hs=>by
 rw[Ul];exact⟨rfl,H.Sub.refl hs.wf⟩
theorem Split_ev {h:H}{v K:V}{m:Ml}{kinds:List Int}(hw:h.wf)(hm:ZF h v m)(hk:Zk h K 1 (kinds.map encI))(hkl:kinds.length≤1000)(lot:Int)(Q:V→H→Prop)(q:∀a h',YS h h' a (YB m lot kinds)→h.Sub h'→Q (.tup [a,.ii (Xe m lot kinds)]) h'):
  Ev fnG Zm (.fn 62 [] []) [v,.ii lot,K] h Q:=by
 have hm0:=hm
 obtain⟨L,W,rfl,aL,aW⟩:=hm
 refine Zf (fd:=c62) rfl rfl rfl ?_
 have hle:=aL.lenE
 have hlk:=hk.lenE
 have s3:h.Sub ((h.add (.bk [.ii m.errs,L,W])).add (.bk [.ii 0,.nils,.nils])):=yca
 simp -implicitDefEqProofs(disch:=first|omega|simp only[nZ]<;>omega|fail)only[c62,go_sem]
 refine(known_ev s3.wf (hm0.mono s3) lot).mono fun u h4 hu=>?_
 obtain⟨s34,hu⟩:=hu
 have l4:=s34.next
 simp only[H.next_add] at l4
 have s4:=s3.trans s34
 have g4a:h4.cells h.next=some [.ii m.errs,L,W]:=s34.cells yce
 have g4c:h4.get (h.next+1)=some (.bk [.ii 0,.nils,.nils]):=s34.get yce
 have fin:∀h5 e,h.Sub h5→h.next+1<h5.next→Xe m lot kinds=e→e≠0→Q (.tup [.agg [.ii 0,.nils,.nils],.ii e]) (h5.set (h.next+1) (.bk [.ii 0,.nils,.nils])):=fun h5 e s l he hne=>by
  have s5:h.Sub (h5.set (h.next+1) (.bk [.ii 0,.nils,.nils])):=s.set ycc ycc hw _
  have e2:YB m lot kinds=Ml.empty:=by simp[YB,he,hne]
  have:=q _ _ (e2▸YS.empty s5) s5
  rw[he] at this;exact this
 rcases hu with⟨c,rfl⟩|⟨c,c2,rfl⟩|⟨c,c2,d,rfl,hd⟩
 ·simp(disch:=omega)only[go_sem,ne_eq,c,not_false_eq_true,g4c]
  exact fin _ _ s4 ycc (by simp[Xe,c]) c
 ·simp(disch:=omega)only[go_sem,ne_eq,Int.reduceEq,not_false_eq_true,g4c]
  exact fin _ _ s4 ycc (by simp only[Xe,c,c2,ne_eq,not_true_eq_false,not_false_eq_true, ↓reduceIte]) ycc
 have hg:=ZJ c
 have gl:=hg.lots
 have gw:=hg.wgs
 obtain⟨pm,l,L',W',k1,k2,_,_,ap⟩:=id hd
 have hpl:=(ap lot).lenE
 by_cases c3:0<((parts m lot).length:Int)
 ·simp(disch:=omega)only[go_sem,ne_eq,not_true_eq_false,Za k1,k2,hpl,c3,g4c]
  exact fin _ _ s4 ycc ycx ycc
 by_cases c4:(kinds.length:Int)=0
 ·simp(disch:=omega)only[go_sem,ne_eq,not_true_eq_false,Za k1,k2,hpl,c3,g4c,hlk,c4]
  exact fin _ _ s4 ycc ycv ycc
 by_cases c5:12<(m.lots.length:Int)+(kinds.length:Int)
 ·simp(disch:=omega)only[go_sem,ne_eq,not_true_eq_false,Za k1,k2,hpl,c3,g4c,g4a,hle,hlk,c4,ZD,c5]
  exact fin _ _ s4 ycc ycu ycc
 simp(disch:=omega)only[go_sem,ne_eq,not_true_eq_false,Za k1,k2,hpl,c3,g4c,g4a,hle,hlk,c4,ZD,c5]
 refine(everyKind_ev s4.wf (hk.mono s4) fun k _=>allowed_pure _ k).mono fun u h5 hu=>?_
 obtain⟨rfl,s45⟩:=hu
 have l5:=s45.next
 have s5:=s4.trans s45
 have g5a:=s45.cells g4a
 have g5c:=s45.get g4c
 cases c6:kinds.all ZA
 ·simp(disch:=omega)only[go_sem,g5c]
  exact fin _ _ s5 ycc yct ycc
 have he:Xe m lot kinds=0:=by simp only[Xe,c,c2,c3,c4,c5,c6,ne_eq,not_true_eq_false,not_false_eq_true,and_self, ↓reduceIte,Bool.true_eq_false]
 have hM:YB m lot kinds=m.splitB lot kinds:=by simp[YB,he]
 rw[he,hM] at q
 simp(disch:=omega)only[go_sem,g5a]
 refine copied_ev s5.wf (hm0.mono s5) ycc _ fun a h6 s56 o6=>?_
 obtain⟨X,Y,rfl,oX,oY,dXY⟩:=o6
 have l6:=s56.next
 have g6c:=s56.get g5c
 have s6:=s5.trans s56
 simp(disch:=omega)only[go_sem,oX.one,oY.one,cells_one oX.one,cells_one oY.one,hlk]
 have s7:=s6.add (.bk [.ii m.errs,X,Y])
 have s67:=(H.Sub.refl s6.wf).add (.bk [.ii m.errs,X,Y])
 refine Zi kinds.length (fun i s=>∃tm h' x,s=⟨tm,h',[]⟩∧h.Sub h'∧ZK h h' x 2 ((m.splitB lot (kinds.take i)).lots.map ZO)∧ZK h h' Y 4 (m.wgs.map Zy)∧(∀b,Zs x b→¬Zs Y b)∧(∀b,Zs x b→b≠h6.next∧h.next+1<b)∧h6.next<h'.next∧
   h'.get (h.next+1)=some (.bk [.ii 0,.nils,.nils])∧h'.get h6.next=some (.bk [.ii m.errs,x,Y])∧
   tm.E 1=.ii lot∧tm.E 6=.ptr (h.next+1) 0∧tm.E 10=.ptr h6.next 0∧tm.E 55=K∧tm.E 56=.ii (kinds.length:Int)∧tm.E 57=.ii (i:Int))
  ?_ ?_ (i:=0) (Nat.zero_le _) ⟨_,_,X,rfl,s7,by simpa[Ml.splitB] using(oX.base s5).mono s67,(oY.base s5).mono s67,dXY,fun b hb=>by have:=oX.blk hb;omega,by rw[H.next_add];omega,s67.get g6c,Zo rfl,ycb,ycb,ycb,ycb,ycb,ycb⟩
 ·rintro i s hi ⟨tm,h',x,rfl,hs,ox,oY',dx,nx,lt,gc,gd,e1,e6,e10,e55,e56,e57⟩
  have hi':(i:Int)<(kinds.length:Int):=by omega
  obtain⟨b,o,cc,cs,rfl,hcs,hq,hgg,hn,hn0⟩:=(hk.mono hs).at hi
  simp(disch:=omega)only[go_sem,e1,e6,e10,e55,e56,e57,hi',hq (Zb i),hcs,hn0 ycc,encI,Za gd]
  have sA:=(H.Sub.refl hs.wf).add (.bk [.ii lot,.ii kinds[i]])
  have lY:∀b,Zs Y b→h5.next≤b∧b<h6.next:=fun b hb=>⟨(oY.blk hb).1,(oY.blk hb).2.1⟩
  refine(ox.mono sA).app1 (r:=ZO ⟨lot,kinds[i]⟩) hw rfl ycc (Zk.new _ rfl rfl rfl (by simp[ZO]) ycA) rfl ycz ycz fun Z h7 o7 dZ k7=>?_
  have l7:=k7.1
  simp only[H.next_add] at l7
  have g7c:=k7.2 _ _ (sA.get gc) fun hb=>by have:=nx _ hb;omega
  have g7d:=k7.2 _ _ (sA.get gd) fun hb=>by have:=nx _ hb;omega
  have s8:h.Sub (h7.set h6.next (.bk [.ii m.errs,Z,Y])):=o7.1.set (by have:=s6.next;omega) ycc hw _
  have k8:=Zq.set h7 h6.next (.bk [.ii m.errs,Z,Y])
  have nZ:∀b,Zs Z b→b≠h6.next∧h.next+1<b:=fun b hb=>by
   rcases dZ b hb with h|h
   ·exact nx b h
   ·simp only[H.next_add] at h;omega
  simp(disch:=omega)only[go_sem,e1,e6,e10,e55,e56,e57,Za g7d,g7d,o7.one,cells_one o7.one,Ze]
  refine⟨_,_,Z,rfl,s8,?_,((oY'.mono sA).keep k7 o7.1 fun b hb hx=>dx b hx hb).keep k8 s8 fun b hb e=>by have:=lY b hb;omega,fun b hb hy=>?_,nZ,by rw[H.next_set];omega,by rw[get_set_other ycc];exact g7c,get_set_same rfl,(by simp[Zn,Zd,e1]<;>rfl),(by simp[Zn,Zd,e6]<;>rfl),(by simp[Zn,Zd,e10]<;>rfl),(by simp[Zn,Zd,e55]<;>rfl),(by simp[Zn,Zd,e56]<;>rfl),ycb⟩
  ·have:=o7.keep k8 s8 fun b hb e=>(nZ b hb).1 e
   have e:(m.splitB lot (kinds.take (i+1))).lots.map ZO=(m.splitB lot (kinds.take i)).lots.map ZO++[ZO ⟨lot,kinds[i]⟩]:=by
    rw[List.take_succ_eq_append_getElem hi]
    simp only[Ml.splitB,List.map_append,List.map_cons,List.map_nil,List.append_assoc]
   rw[e];exact this
  ·rcases dZ b hb with h|h
   ·exact dx b h hy
   ·have:=lY b hy;simp only[H.next_add] at h;omega
 ·rintro s ⟨tm,h',x,rfl,hs,ox,oY',dx,nx,lt,gc,gd,e1,e6,e10,e55,e56,e57⟩
  rw[List.take_length] at ox
  simp(disch:=omega)only[go_sem,e1,e6,e10,e55,e56,e57,Int.lt_irrefl,Za gd,gc,ox.one,cells_one ox.one,oY.one,cells_one oY.one]
  have s8:h.Sub (h'.set (h.next+1) (.bk [.ii m.errs,x,Y])):=hs.set ycc ycc hw _
  have k8:=Zq.set h' (h.next+1) (.bk [.ii m.errs,x,Y])
  exact q _ _ ⟨x,Y,rfl,ox.keep k8 s8 (fun b hb e=>by have:=nx b hb;omega),oY'.keep k8 s8 (fun b hb e=>by have:=(oY.blk hb).1;have:=s5.next;omega),dx⟩ s8
end Go.Ab.Tryz
namespace Go.Ab
theorem H.Sub.lt {h h':H}(s:h.Sub h'){n:Nat}(l:n<h.next):n<h'.next:=Nat.lt_of_lt_of_le l s.next
namespace Tryz
def vOff (v:V)(S:Nat→Prop):Prop:=∀e L W,v=.agg [e,L,W]→(∀b,Zs L b→¬S b)∧∀b,Zs W b→¬S b
theorem ZF.keep {h h':H}{S:Nat→Prop}{v:V}{m:Ml}(a:ZF h v m)(k:Zq S h h')(n:vOff v S):ZF h' v m:=by
 obtain⟨L,W,rfl,a1,a2⟩:=a
 obtain⟨n1,n2⟩:=n _ _ _ rfl
 exact⟨L,W,rfl,YD a1 k n1,YD a2 k n2⟩
theorem YS.off {h0 h:H}{v:V}{m:Ml}(a:YS h0 h v m){S:Nat→Prop}(n:∀b,h0.next≤b→¬S b):vOff v S:=by
 obtain⟨L,W,rfl,a1,a2,_⟩:=a
 intro e L' W' e'
 cases e'
 exact⟨fun b hb=>n b (a1.blk hb).1,fun b hb=>n b (a2.blk hb).1⟩
theorem Ut {h:H}{v:V}{m:Ml}(hw:h.wf)(hm:ZF h v m)(hl:m.lots.length≤1000∧m.wgs.length≤1000)(Q:V→H→Prop)(q:∀L W h',h.Sub h'→YS h h' (.agg [.ii m.errs,L,W]) m→L.one=true→W.one=true→Q (.agg [.ii m.errs,L,W]) h'):Ev fnG Zm (.fn 41 [] []) [v] h Q:=by
 refine(own_ev hw hm hl).mono fun u h3 hu=>?_
 obtain⟨s23,a,b,rfl,la1,la2,lb1,lb2,nab,ga,gb⟩:=hu
 refine q _ _ _ s23 ⟨_,_,rfl,⟨s23,by simp[ZO],.inr (.inr ⟨a,m.lots.length,[],by simp,la1,la2,by simpa using ga,by simp,by simp⟩)⟩,⟨s23,by simp[Zy],.inr (.inr ⟨b,m.wgs.length,[],by simp,lb1,lb2,by simpa using gb,by simp,by simp⟩)⟩,fun c ⟨_,_,_,e1⟩ ⟨_,_,_,e2⟩=>?_⟩ rfl rfl
 cases e1;cases e2;exact nab rfl
theorem kindsBad_step {l:List Int}{i:Nat}(hi:i<l.length):(l.take (i+1)).all ZA=((l.take i).all ZA&&ZA l[i]):=by
 rw[List.take_succ_eq_append_getElem hi,List.all_append];simp
end Tryz
end Go.Ab
namespace Go.Ab
namespace Tryz
set_option maxHeartbeats 4000000 in
theorem SilkGrows_sub {h:H}{v K:V}{m:Ml}{y:Wg}{kinds:List Int}(hw:h.wf)(hm:ZF h v m)(lot:Int)(hk:Zk h K 1 (kinds.map encI)):Ev fnG Zm (.fn 13 [] []) [v,.agg (Zy y),.int .i64 lot,K] h fun u h'=>u=.bool true∧h.Sub h':=by
 refine Ev.gen fun Q q=>?_
 have hm0:=hm
 obtain⟨L,W,rfl,aL,aW⟩:=hm
 refine Zf (fd:=c13) rfl rfl rfl ?_
 have s1:h.Sub ((h.add (.cells .rw [.int .i64 m.errs,L,W])).add (.cells .rw (Zy y))):=yca
 simp -implicitDefEqProofs(maxSteps:=999999)(disch:=first|with_reducible rfl|omega|(simp only[nA,nS,nD]<;>omega)|fail)only[c13,go_sem,Zy]
 refine VK s1.wf (hm0.mono s1) _ fun h2 s12=>?_
 have s2:=s1.trans s12
 have l2:=s12.next
 simp only[H.next_add] at l2
 have g2:h2.cells h.next=some [.int .i64 m.errs,L,W]:=s12.cells ycn
 have g2w:h2.cells (h.next+1)=some (Zy y):=s12.cells ycn
 have hlk:=hk.lenE
 cases hgr:Xo m
 case true=>
  simp -implicitDefEqProofs(maxSteps:=999999)(disch:=first|with_reducible rfl|omega|(simp only[nA,nS,nD]<;>omega)|fail)only[go_sem,Z4]
  exact q _ _ ⟨rfl,by first|assumption|exact H.Sub.refl hw|exact yca⟩
 by_cases hk16:16<(kinds.length:Int)
 case pos=>
  simp -implicitDefEqProofs(maxSteps:=999999)(disch:=first|with_reducible rfl|omega|(simp only[nA,nS,nD]<;>omega)|fail)only[go_sem,hlk,hk16,Z4]
  exact q _ _ ⟨rfl,by first|assumption|exact H.Sub.refl hw|exact yca⟩
 have hle:m.lots.length≤1000∧m.wgs.length≤1000:=by
  simp only[Xo,decide_eq_false_iff_not] at hgr
  omega
 simp -implicitDefEqProofs(maxSteps:=999999)(disch:=first|with_reducible rfl|omega|(simp only[nA,nS,nD]<;>omega)|fail)only[go_sem,hlk,hk16,g2]
 refine Ut s2.wf (hm0.mono s2) hle _ fun A B h3 s23 oOwn hA hB=>?_
 have s3:=s2.trans s23
 have g3:=s23.cells g2
 have g3w:=s23.cells g2w
 have l3:=s23.next
 simp -implicitDefEqProofs(maxSteps:=999999)(disch:=first|with_reducible rfl|omega|(simp only[nA,nS,nD]<;>omega)|fail)only[go_sem,g3]
 refine W3 s3.wf (hm0.mono s3) hle _ fun x h4 s34 hx=>?_
 have s4:=s3.trans s34
 have g4:=s34.cells g3
 have l4:=s34.next
 obtain⟨X,Y,rfl,aX,aY⟩:=id hx
 have oX1:=aX.one
 have oY1:=aY.one
 simp -implicitDefEqProofs(maxSteps:=999999)(disch:=first|with_reducible rfl|omega|(simp only[nA,nS,nD]<;>omega)|fail)only[go_sem,dupKind_ev s4.wf (hk.mono s4) ycc,oX1,oY1,hA,hB,cells_one oX1,cells_one oY1,cells_one hA,cells_one hB,g2,g3,g4,hlk]
 have s4m:=(H.Sub.refl s4.wf).add (.cells .rw (kinds.map encI).flatten)
 have s45:h4.Sub (((((h4.add (.cells .rw (kinds.map encI).flatten)).add (.cells .rw [.int .i64 0,.nils,.nils])).add (.cells .rw [.int .i64 0,.nils,.nils])).set (h4.next+1) (.cells .rw [.int .i64 m.errs,A,B])).set (h4.next+1+1) (.cells .rw [.int .i64 m.errs,X,Y])):=by
  have w4:=s4.wf
  exact yca
 have gM:(((((h4.add (.cells .rw (kinds.map encI).flatten)).add (.cells .rw [.int .i64 0,.nils,.nils])).add (.cells .rw [.int .i64 0,.nils,.nils])).set (h4.next+1) (.cells .rw [.int .i64 m.errs,A,B])).set (h4.next+1+1) (.cells .rw [.int .i64 m.errs,X,Y])).cells h4.next=some (kinds.map encI).flatten:=by simp -implicitDefEqProofs(maxSteps:=999999)(disch:=first|with_reducible rfl|omega|(simp only[nA,nS,nD]<;>omega)|fail)only[go_sem]
 have c9:(((((h4.add (.cells .rw (kinds.map encI).flatten)).add (.cells .rw [.int .i64 0,.nils,.nils])).add (.cells .rw [.int .i64 0,.nils,.nils])).set (h4.next+1) (.cells .rw [.int .i64 m.errs,A,B])).set (h4.next+1+1) (.cells .rw [.int .i64 m.errs,X,Y])).cells (h4.next+1)=some [.int .i64 m.errs,A,B]:=by simp -implicitDefEqProofs(maxSteps:=999999)(disch:=first|with_reducible rfl|omega|(simp only[nA,nS,nD]<;>omega)|fail)only[go_sem]
 have c10:(((((h4.add (.cells .rw (kinds.map encI).flatten)).add (.cells .rw [.int .i64 0,.nils,.nils])).add (.cells .rw [.int .i64 0,.nils,.nils])).set (h4.next+1) (.cells .rw [.int .i64 m.errs,A,B])).set (h4.next+1+1) (.cells .rw [.int .i64 m.errs,X,Y])).cells (h4.next+1+1)=some [.int .i64 m.errs,X,Y]:=by simp -implicitDefEqProofs(maxSteps:=999999)(disch:=first|with_reducible rfl|omega|(simp only[nA,nS,nD]<;>omega)|fail)only[go_sem]
 generalize(((((h4.add (.cells .rw (kinds.map encI).flatten)).add (.cells .rw [.int .i64 0,.nils,.nils])).add (.cells .rw [.int .i64 0,.nils,.nils])).set (h4.next+1) (.cells .rw [.int .i64 m.errs,A,B])).set (h4.next+1+1) (.cells .rw [.int .i64 m.errs,X,Y]))=h5 at s45 gM c9 c10⊢
 have s5:=s4.trans s45
 have l45:=s45.next
 have hown5:=(oOwn.mono (s34.trans s45)).is hle
 have hmine5:Zk h5 (.sl h4.next 0 kinds.length (.fix kinds.length)) 1 (kinds.map encI):=by
  refine⟨hk.1,hk.2.1,.inr ⟨h4.next,0,.fix kinds.length,_,by simp,.inr gM,?_⟩⟩
  have hfl:=Zp hk.1
  exact W6 hfl
 refine(Xn s5.wf (hx.mono s45)).mono fun u h6 hu=>?_
 obtain⟨rfl,s56⟩:=hu
 have s6:=s5.trans s56
 have l56:=s56.next
 have d9:=s56.cells c9
 have d10:=s56.cells c10
 have d1:=(s45.trans s56).cells g4
 have dw:=(s34.trans (s45.trans s56)).cells g3w
 simp -implicitDefEqProofs(maxSteps:=999999)(disch:=first|with_reducible rfl|omega|(simp only[nA,nS,nD]<;>omega)|fail)only[go_sem]
 have s67:h6.Sub ((h6.add (.cells .rw [.int .i64 0,.nils,.nils])).add (.cells .rw [.int .i64 0,.nils,.nils])):=((H.Sub.refl s6.wf).add _).add _
 have f15:((h6.add (.cells .rw [.int .i64 0,.nils,.nils])).add (.cells .rw [.int .i64 0,.nils,.nils])).get h6.next=some (.cells .rw [.int .i64 0,.nils,.nils]):=by simp -implicitDefEqProofs(maxSteps:=999999)(disch:=first|with_reducible rfl|omega|(simp only[nA,nS,nD]<;>omega)|fail)only[go_sem]
 have f16:((h6.add (.cells .rw [.int .i64 0,.nils,.nils])).add (.cells .rw [.int .i64 0,.nils,.nils])).get (h6.next+1)=some (.cells .rw [.int .i64 0,.nils,.nils]):=by simp -implicitDefEqProofs(maxSteps:=999999)(disch:=first|with_reducible rfl|omega|(simp only[nA,nS,nD]<;>omega)|fail)only[go_sem]
 have l67:((h6.add (.cells .rw [.int .i64 0,.nils,.nils])).add (.cells .rw [.int .i64 0,.nils,.nils])).next=h6.next+2:=by simp only[H.next_add]
 have w67:=s67.wf
 generalize(h6.add (.cells .rw [.int .i64 0,.nils,.nils])).add (.cells .rw [.int .i64 0,.nils,.nils])=h7 at s67 f15 f16 l67 w67⊢
 have s7:=s6.trans s67
 have hx7:=hx.mono (s45.trans (s56.trans s67))
 have hm7:=hm0.mono s7
 obtain⟨I,hI⟩:∃I:St→Prop,∀s,I s↔∃tm h8 L1 W1 L2 W2,s=⟨tm,h8,[]⟩∧h6.Sub h8∧(Opd.t 2).ev tm=.int .i64 lot∧(Opd.t 3).ev tm=K∧(Opd.t 4).ev tm=.ptr h.next 0∧(Opd.t 5).ev tm=.ptr (h.next+1) 0∧(Opd.t 9).ev tm=.ptr (h4.next+1) 0∧(Opd.t 11).ev tm=.sl h4.next 0 kinds.length (.fix kinds.length)∧
   (Opd.t 13).ev tm=.int .i64 (YY m y)∧(Opd.t 14).ev tm=.int .i64 (Xe m lot kinds)∧(Opd.t 15).ev tm=.ptr h6.next 0∧(Opd.t 16).ev tm=.ptr (h6.next+1) 0∧
   h8.cells h6.next=some [.int .i64 (ZL m y).errs,L1,W1]∧h8.cells (h6.next+1)=some [.int .i64 (YB m lot kinds).errs,L2,W2]∧ZF h8 (.agg [.int .i64 (ZL m y).errs,L1,W1]) (ZL m y)∧ZF h8 (.agg [.int .i64 (YB m lot kinds).errs,L2,W2]) (YB m lot kinds):=⟨_,fun s=>Iff.rfl⟩
 refine Us (p:=check m=0) I ?_ ?_ ?_
 ·intro c
  have g:=ZJ c
  have gl:=g.lots
  have gw:=g.wgs
  rw[W_seq]
  obtain⟨J,hJ⟩:∃J:St→Prop,∀s,J s↔∃tm h8 L1 W1,s=⟨tm,h8,[]⟩∧h6.Sub h8∧h6.next+1<h8.next∧(Opd.t 2).ev tm=.int .i64 lot∧(Opd.t 3).ev tm=K∧(Opd.t 4).ev tm=.ptr h.next 0∧(Opd.t 5).ev tm=.ptr (h.next+1) 0∧(Opd.t 9).ev tm=.ptr (h4.next+1) 0∧(Opd.t 10).ev tm=.ptr (h4.next+1+1) 0∧(Opd.t 11).ev tm=.sl h4.next 0 kinds.length (.fix kinds.length)∧
   (Opd.t 13).ev tm=.int .i64 (YY m y)∧(Opd.t 14).ev tm=.int .i64 0∧(Opd.t 15).ev tm=.ptr h6.next 0∧(Opd.t 16).ev tm=.ptr (h6.next+1) 0∧
   h8.cells h6.next=some [.int .i64 (ZL m y).errs,L1,W1]∧h8.get (h6.next+1)=some (.cells .rw [.int .i64 0,.nils,.nils])∧ZF h8 (.agg [.int .i64 (ZL m y).errs,L1,W1]) (ZL m y)∧(∀b,Zs L1 b→b≠h6.next+1∧b<h8.next)∧(∀b,Zs W1 b→b≠h6.next+1∧b<h8.next):=⟨_,fun s=>Iff.rfl⟩
  refine W_cut J ?_ ?_
  ·have k1:=s67.cells d1
   have kw:=s67.cells dw
   have hlenW:=aW.lenE
   by_cases c2:(m.wgs.length:Int)=10
   case pos=>
    have e1:YY m y=9:=by simp[YY,c,c2]
    have e2:ZL m y=Ml.empty:=by simp[ZL,e1]
    simp -implicitDefEqProofs(maxSteps:=999999)(disch:=first|with_reducible rfl|omega|(simp only[nA,nS,nD]<;>omega)|fail)only[go_sem,k1,hlenW,c2]
    exact⟨rfl,(hJ _).2 ⟨_,_,.nils,.nils,rfl,s67,by omega,ycb,ycb,ycb,ycb,ycb,ycb,ycb,by rw[e1];exact ycb,by rw[←c];exact ycb,ycb,ycb,by rw[e2];exact Za f15,f16,by rw[e2];exact(YS.empty (H.Sub.refl w67)).is (by simp[Ml.empty]),fun b hb=>(ZE hb).elim,fun b hb=>(ZE hb).elim⟩⟩
   have e1:YY m y=check (m.weighed y):=by simp[YY,c,c2]
   simp -implicitDefEqProofs(maxSteps:=999999)(disch:=first|with_reducible rfl|omega|(simp only[nA,nS,nD]<;>omega)|fail)only[go_sem,k1,hlenW,c2]
   refine theirs_own s7.wf hm7 hle _ fun z h8 s78 oz=>?_
   obtain⟨X2,Y2,rfl,oX2,oY2,d2⟩:=id oz
   have s8:=s67.trans s78
   have l8:=s78.next
   have p1:=s78.cells k1
   have pw:=s78.cells kw
   simp -implicitDefEqProofs(maxSteps:=999999)(disch:=first|with_reducible rfl|omega|(simp only[nA,nS,nD]<;>omega)|fail)only[go_sem,oX2.one,oY2.one,cells_one oX2.one,cells_one oY2.one,pw,Zy]
   have s8b:=((H.Sub.refl s8.wf).add (.cells .rw [.int .i64 m.errs,X2,Y2])).add (.cells .rw (Zy y))
   refine(oY2.mono s8b).app1 (r:=Zy y) s7.wf rfl ycc (Zk.new _ (by simp only[H.next_add]) rfl ycI ycI ycA) rfl ycF ycF fun Z h9 o9 dZ k9=>?_
   have bY:∀b,Zs Y2 b→h7.next≤b∧b<h8.next:=fun b hb=>⟨(oY2.blk hb).1,(oY2.blk hb).2.1⟩
   have bX:∀b,Zs X2 b→h7.next≤b∧b<h8.next:=fun b hb=>⟨(oX2.blk hb).1,(oX2.blk hb).2.1⟩
   have l9:=k9.1
   simp only[H.next_add] at l9
   have g9:h9.get h8.next=some (.cells .rw [.int .i64 m.errs,X2,Y2]):=k9.2 _ _ ycn fun hb=>by have:=bY _ hb;omega
   have s79:=o9.1
   have sA:h7.Sub (h9.set h8.next (.cells .rw [.int .i64 m.errs,X2,Z])):=s79.set ycc ycc s7.wf _
   have kA:=Zq.set h9 h8.next (.cells .rw [.int .i64 m.errs,X2,Z])
   have gA:(h9.set h8.next (.cells .rw [.int .i64 m.errs,X2,Z])).cells h8.next=some [.int .i64 m.errs,X2,Z]:=Yx rfl
   have lA:(h9.set h8.next (.cells .rw [.int .i64 m.errs,X2,Z])).next=h9.next:=H.next_set _ _ _
   have oXA:=((oX2.mono s8b).keep k9 o9.1 d2).keep kA sA fun b hb e=>by have:=bX b hb;omega
   have oZA:=o9.keep kA sA fun b hb e=>by
    rcases dZ b hb with h|h
    ·have:=bY b h;omega
    ·simp only[H.next_add] at h;omega
   simp -implicitDefEqProofs(maxSteps:=999999)(disch:=first|with_reducible rfl|omega|(simp only[nA,nS,nD]<;>omega)|fail)only[go_sem,Za g9,g9,o9.one,cells_one o9.one]
   generalize h9.set h8.next (.cells .rw [.int .i64 m.errs,X2,Z])=hA at sA kA gA lA oXA oZA⊢
   have hzA:ZF hA (.agg [.int .i64 m.errs,X2,Z]) (m.weighed y):=⟨X2,Z,rfl,oXA.sl (by simp[Ml.weighed];omega),by
    have:=oZA.sl ycF
    simpa[Ml.weighed] using this⟩
   refine(Xn sA.wf hzA).mono fun u hB hu=>?_
   obtain⟨rfl,sAB⟩:=hu
   have sB:=sA.trans sAB
   have lB:=sAB.next
   have b15:=sB.get f15
   have b16:=sB.get f16
   by_cases c3:check (m.weighed y)=0
   case neg=>
    have e2:ZL m y=Ml.empty:=by simp[ZL,e1,c3]
    simp -implicitDefEqProofs(maxSteps:=999999)(disch:=first|with_reducible rfl|omega|(simp only[nA,nS,nD]<;>omega)|fail)only[go_sem,c3]
    exact⟨rfl,(hJ _).2 ⟨_,_,.nils,.nils,rfl,s67.trans sB,by omega,ycb,ycb,ycb,ycb,ycb,ycb,ycb,by rw[e1];exact ycb,by rw[←c];exact ycb,ycb,ycb,by rw[e2];exact Za b15,b16,by rw[e2];exact(YS.empty (H.Sub.refl sB.wf)).is (by simp[Ml.empty]),fun b hb=>(ZE hb).elim,fun b hb=>(ZE hb).elim⟩⟩
   have e2:ZL m y=m.weighed y:=by simp[ZL,e1,c3]
   have q1:=sB.cells k1
   have qw:=sB.cells kw
   simp -implicitDefEqProofs(maxSteps:=999999)(disch:=first|with_reducible rfl|omega|(simp only[nA,nS,nD]<;>omega)|fail)only[go_sem,c3,q1]
   refine Ut sB.wf (hm7.mono sB) hle _ fun A2 B2 hC sBC oo hA2 hB2=>?_
   have r15:=sBC.get b15
   have r16:=sBC.get b16
   have rw5:=sBC.cells qw
   have lC:=sBC.next
   have sC:=sB.trans sBC
   obtain⟨A2',B2',ee,oA2,oB2,dAB⟩:=id oo
   cases ee
   have bA2:∀b,Zs A2 b→hB.next≤b∧b<hC.next:=fun b hb=>⟨(oA2.blk hb).1,(oA2.blk hb).2.1⟩
   have bB2:∀b,Zs B2 b→hB.next≤b∧b<hC.next:=fun b hb=>⟨(oB2.blk hb).1,(oB2.blk hb).2.1⟩
   have w6:=s6.wf
   have sD:h6.Sub (hC.set h6.next (.cells .rw [.int .i64 m.errs,A2,B2])):=(s67.trans sC).set ycc ycc w6 _
   have kD:=Zq.set hC h6.next (.cells .rw [.int .i64 m.errs,A2,B2])
   have s6B:=s67.trans sB
   have oAD:=(oA2.base s6B).keep kD sD fun b hb e=>by have:=bA2 b hb;omega
   have oBD:=(oB2.base s6B).keep kD sD fun b hb e=>by have:=bB2 b hb;omega
   have gD:(hC.set h6.next (.cells .rw [.int .i64 m.errs,A2,B2])).get h6.next=some (.cells .rw [.int .i64 m.errs,A2,B2]):=get_set_same rfl
   have gD16:(hC.set h6.next (.cells .rw [.int .i64 m.errs,A2,B2])).get (h6.next+1)=some (.cells .rw [.int .i64 0,.nils,.nils]):=by rw[get_set_other ycc];exact r16
   have lD:(hC.set h6.next (.cells .rw [.int .i64 m.errs,A2,B2])).next=hC.next:=H.next_set _ _ _
   have gDw:=kD.cells rw5 (by have:=s6.next;have:=s45.next;have:=s56.next;omega)
   simp -implicitDefEqProofs(maxSteps:=999999)(disch:=first|with_reducible rfl|omega|(simp only[nA,nS,nD]<;>omega)|fail)only[go_sem,r15,hA2,hB2,cells_one hA2,cells_one hB2,Za gD,gDw,Zy]
   generalize hC.set h6.next (.cells .rw [.int .i64 m.errs,A2,B2])=hD at sD kD oAD oBD gD gD16 lD gDw⊢
   have sE:=(H.Sub.refl sD.wf).add (.cells .rw (Zy y))
   refine(oBD.mono sE).app1 (r:=Zy y) w6 rfl ycc (Zk.new _ lD.symm rfl ycI ycI ycA) rfl ycF ycF fun Z2 hF oF dZ2 kF=>?_
   have gF:=kF.2 _ _ (sE.get gD) fun hb=>by have:=bB2 _ hb;omega
   have gF16:=kF.2 _ _ (sE.get gD16) fun hb=>by have:=bB2 _ hb;omega
   have lF:=kF.1
   simp only[H.next_add] at lF
   simp -implicitDefEqProofs(maxSteps:=999999)(disch:=first|with_reducible rfl|omega|(simp only[nA,nS,nD]<;>omega)|fail)only[go_sem,Za gF,gF,oF.one,cells_one oF.one]
   have sG:h6.Sub (hF.set h6.next (.cells .rw [.int .i64 m.errs,A2,Z2])):=oF.1.set ycc ycc w6 _
   have kG:=Zq.set hF h6.next (.cells .rw [.int .i64 m.errs,A2,Z2])
   have nZ2:∀b,Zs Z2 b→h6.next+1<b:=fun b hb=>by
    rcases dZ2 b hb with h|h
    ·have:=bB2 b h;omega
    ·simp only[H.next_add] at h;omega
   have oAG:=((oAD.mono sE).keep kF oF.1 dAB).keep kG sG fun b hb e=>by have:=bA2 b hb;omega
   have oZG:=oF.keep kG sG fun b hb e=>by have:=nZ2 b hb;omega
   refine⟨rfl,(hJ _).2 ⟨_,_,A2,Z2,rfl,sG,by rw[H.next_set];omega,ycb,ycb,ycb,ycb,ycb,ycb,ycb,by rw[e1,c3,←c];exact ycb,by rw[←c];exact ycb,ycb,ycb,by rw[e2];exact Yx rfl,by rw[get_set_other ycc];exact gF16,?_,fun b hb=>by have:=bA2 b hb;have:=(oAG.blk hb).2.1;omega,fun b hb=>by have:=nZ2 b hb;have:=(oZG.blk hb).2.1;omega⟩⟩
   rw[e2]
   exact⟨A2,Z2,rfl,oAG.sl (by simp[Ml.weighed];omega),by
    have:=oZG.sl ycF
    simpa[Ml.weighed] using this⟩
  ·intro s hs
   obtain⟨tm,h8,L1,W1,rfl,s68,l8,t2,t3,t4,t5,t9,t10,t11,t13,t14,t15,t16,k15,k16,m15,n1,n2⟩:=(hJ s).1 hs
   have k1:=s68.cells d1
   have k10:=s68.cells d10
   have hx8:=hx.mono (s45.trans (s56.trans s68))
   have s8:=s6.trans s68
   have hlenL:=aL.lenE
   simp -implicitDefEqProofs(maxSteps:=999999)(disch:=first|with_reducible rfl|omega|(simp only[nA,nS,nD]<;>omega)|fail)only[go_sem,t2,t3,t4,t5,t9,t10,t11,t13,t14,t15,t16,hlk]
   refine Zi kinds.length (fun i s=>∃tm,s=⟨tm,h8,[]⟩∧(Opd.t 2).ev tm=.int .i64 lot∧(Opd.t 3).ev tm=K∧(Opd.t 4).ev tm=.ptr h.next 0∧(Opd.t 5).ev tm=.ptr (h.next+1) 0∧(Opd.t 9).ev tm=.ptr (h4.next+1) 0∧(Opd.t 10).ev tm=.ptr (h4.next+1+1) 0∧(Opd.t 11).ev tm=.sl h4.next 0 kinds.length (.fix kinds.length)∧
     (Opd.t 13).ev tm=.int .i64 (YY m y)∧(Opd.t 14).ev tm=.int .i64 0∧(Opd.t 15).ev tm=.ptr h6.next 0∧(Opd.t 16).ev tm=.ptr (h6.next+1) 0∧(Opd.t 18).ev tm=.bool (!(kinds.take i).all ZA)∧(Opd.t 71).ev tm=K∧(Opd.t 72).ev tm=.int .i64 (kinds.length:Int)∧(Opd.t 73).ev tm=.int .i64 (i:Int))
    ?_ ?_ (i:=0) (Nat.zero_le _) ⟨_,rfl,ych,ycd,ycf,ycm,ycj,ycp,yci,ycg,yco,yck,ycl,ycb,ycb,ycb,ycb⟩<;>clear t2 t3 t4 t5 t9 t10 t11 t13 t14 t15 t16 hs tm
   ·rintro i s hi ⟨tm,rfl,t2,t3,t4,t5,t9,t10,t11,t13,t14,t15,t16,t18,t71,t72,t73⟩
    have hi':(i:Int)<(kinds.length:Int):=by omega
    obtain⟨b,o,cc,cs,rfl,hcs,hq,hgg,hn,hn0⟩:=(hk.mono s8).at hi
    have hstep:=kindsBad_step hi
    cases hb:(kinds.take i).all ZA
    ·rw[hb,Bool.false_and] at hstep
     rw[hb] at t18
     simp -implicitDefEqProofs(maxSteps:=999999)(disch:=first|with_reducible rfl|omega|(simp only[nA,nS,nD]<;>omega)|fail)only[go_sem,t18,t71,t72,t73,hi',hq (Zb i),hcs,hn0 ycc,encI,Bool.not_false,Ze]
     exact⟨_,rfl,ych,ycd,ycf,ycm,ycj,ycp,yci,ycg,yco,yck,ycl,by rw[hstep];exact ycb,ycC,ycH,ycb⟩
    ·rw[hb,Bool.true_and] at hstep
     rw[hb] at t18
     by_cases ka:kinds[i]<0
     ·have ek:ZA kinds[i]=false:=by simp[ZA];omega
      simp -implicitDefEqProofs(maxSteps:=999999)(disch:=first|with_reducible rfl|omega|(simp only[nA,nS,nD]<;>omega)|fail)only[go_sem,t18,t71,t72,t73,hi',hq (Zb i),hcs,hn0 ycc,encI,Bool.not_true,ka,Ze]
      exact⟨_,rfl,ych,ycd,ycf,ycm,ycj,ycp,yci,ycg,yco,yck,ycl,by rw[hstep,ek];exact ycb,ycC,ycH,ycb⟩
     ·have ek:ZA kinds[i]= !decide (3<kinds[i]):=by rw[Bool.eq_iff_iff];simp[ZA];omega
      simp -implicitDefEqProofs(maxSteps:=999999)(disch:=first|with_reducible rfl|omega|(simp only[nA,nS,nD]<;>omega)|fail)only[go_sem,t18,t71,t72,t73,hi',hq (Zb i),hcs,hn0 ycc,encI,Bool.not_true,ka,Ze]
      exact⟨_,rfl,ych,ycd,ycf,ycm,ycj,ycp,yci,ycg,yco,yck,ycl,by rw[hstep,ek,Bool.not_not];exact ycb,ycC,ycH,ycb⟩
   ·rintro s ⟨tm,rfl,t2,t3,t4,t5,t9,t10,t11,t13,t14,t15,t16,t18,t71,t72,t73⟩
    rw[List.take_length] at t18
    have ee:∀hh:H,hh.wf→ZF hh (.agg [.int .i64 0,.nils,.nils]) Ml.empty:=fun hh hwf=>(YS.empty (H.Sub.refl hwf)).is (by simp[Ml.empty])
    simp -implicitDefEqProofs(maxSteps:=999999)(disch:=first|with_reducible rfl|omega|(simp only[nA,nS,nD]<;>omega)|fail)only[go_sem,t71,t72,t73,Int.lt_irrefl]
    have fin:∀e tm',Xe m lot kinds=e→e≠0→(Opd.t 2).ev tm'=.int .i64 lot→(Opd.t 3).ev tm'=K→(Opd.t 4).ev tm'=.ptr h.next 0→(Opd.t 5).ev tm'=.ptr (h.next+1) 0→(Opd.t 9).ev tm'=.ptr (h4.next+1) 0→(Opd.t 11).ev tm'=.sl h4.next 0 kinds.length (.fix kinds.length)→
      (Opd.t 13).ev tm'=.int .i64 (YY m y)→(Opd.t 14).ev tm'=.int .i64 e→(Opd.t 15).ev tm'=.ptr h6.next 0→(Opd.t 16).ev tm'=.ptr (h6.next+1) 0→∀h9,h8.Sub h9→I ⟨tm',h9,[]⟩:=fun e tm' he hne a2 a3 a4 a5 a9 a11 a13 a14 a15 a16 h9 s89=>by
     have e4:YB m lot kinds=Ml.empty:=by simp[YB,he,hne]
     exact(hI _).2 ⟨_,_,L1,W1,.nils,.nils,rfl,s68.trans s89,a2,a3,a4,a5,a9,a11,a13,by rw[he];exact a14,a15,a16,s89.cells k15,by rw[e4];exact s89.cells (Za k16),m15.mono s89,by rw[e4];exact ee _ s89.wf⟩
    by_cases a1:lot<0
    ·simp -implicitDefEqProofs(maxSteps:=999999)(disch:=first|with_reducible rfl|omega|(simp only[nA,nS,nD]<;>omega)|fail)only[go_sem,t2,a1]
     exact⟨rfl,fin 1 _ ycy ycc ych ycd ycf ycm ycj yci ycg ycb yck ycl _ (H.Sub.refl s68.wf)⟩
    by_cases a2:(m.lots.length:Int)≤lot
    ·simp -implicitDefEqProofs(maxSteps:=999999)(disch:=first|with_reducible rfl|omega|(simp only[nA,nS,nD]<;>omega)|fail)only[go_sem,t2,t4,a1,k1,hlenL,a2]
     exact⟨rfl,fin 1 _ ycy ycc ych ycd ycf ycm ycj yci ycg ycb yck ycl _ (H.Sub.refl s68.wf)⟩
    have c2:0≤lot∧lot≤(m.lots.length:Int)-1:=by omega
    obtain⟨n,rfl⟩:=Int.eq_ofNat_of_zero_le c2.1
    have hn:n<m.lots.length:=by omega
    simp -implicitDefEqProofs(maxSteps:=999999)(disch:=first|with_reducible rfl|omega|(simp only[nA,nS,nD]<;>omega)|fail)only[go_sem,t2,t4,t10,a1,k1,hlenL,a2,k10]
    refine YU s68.wf hx8 g hn _ fun P h9 oP=>?_
    have s89:=oP.1
    have hpl2:=ZV m n
    have hpl:=(oP.sl ycG).lenE
    have k1':=s89.cells k1
    by_cases c3:0<((parts m (n:Int)).length:Int)
    ·simp -implicitDefEqProofs(maxSteps:=999999)(disch:=first|with_reducible rfl|omega|(simp only[nA,nS,nD]<;>omega)|fail)only[go_sem,hpl,c3]
     exact⟨rfl,fin 5 _ ycx ycc ych ycd ycf ycm ycj yci ycg ycb yck ycl _ s89⟩
    by_cases c4:(kinds.length:Int)=0
    ·simp -implicitDefEqProofs(maxSteps:=999999)(disch:=first|with_reducible rfl|omega|(simp only[nA,nS,nD]<;>omega)|fail)only[go_sem,hpl,c3,t3,hlk,c4]
     exact⟨rfl,fin 2 _ ycv ycc ych ycd ycf ycm ycj yci ycg ycb yck ycl _ s89⟩
    by_cases c5:12<(m.lots.length:Int)+(kinds.length:Int)
    ·simp -implicitDefEqProofs(maxSteps:=999999)(disch:=first|with_reducible rfl|omega|(simp only[nA,nS,nD]<;>omega)|fail)only[go_sem,hpl,c3,t3,t4,k1',hlenL,hlk,c4,ZD,c5]
     exact⟨rfl,fin 9 _ ycu ycc ych ycd ycf ycm ycj yci ycg ycb yck ycl _ s89⟩
    cases c6:kinds.all ZA
    ·rw[c6] at t18
     simp -implicitDefEqProofs(maxSteps:=999999)(disch:=first|with_reducible rfl|omega|(simp only[nA,nS,nD]<;>omega)|fail)only[go_sem,hpl,c3,t3,t4,k1',hlenL,hlk,c4,ZD,c5,t18,Bool.not_false]
     exact⟨rfl,fin 3 _ yct ycc ych ycd ycf ycm ycj yci ycg ycb yck ycl _ s89⟩
    rw[c6] at t18
    have he:Xe m (n:Int) kinds=0:=by simp only[Xe,c,c2,c3,c4,c5,c6,ne_eq,not_true_eq_false,not_false_eq_true,and_self, ↓reduceIte,Bool.true_eq_false]
    have hM:YB m (n:Int) kinds=m.splitB (n:Int) kinds:=by simp[YB,he]
    simp -implicitDefEqProofs(maxSteps:=999999)(disch:=first|with_reducible rfl|omega|(simp only[nA,nS,nD]<;>omega)|fail)only[go_sem,hpl,c3,t3,t4,k1',hlenL,hlk,c4,ZD,c5,t18,Bool.not_true]
    refine Ut s89.wf (hm0.mono (s8.trans s89)) hle _ fun A2 B2 hA s9A oo hA2 hB2=>?_
    have s8A:=s89.trans s9A
    have l8A:=s8A.next
    have l9A:=s9A.next
    have l89:=s89.next
    have r16:=s8A.get k16
    have r15:=s8A.cells k15
    have mA15:=m15.mono s8A
    obtain⟨A2',B2',ee,oA2,oB2,dAB⟩:=id oo
    cases ee
    have w6:=s6.wf
    have bA2:∀b,Zs A2 b→h9.next≤b:=fun b hb=>(oA2.blk hb).1
    have bB2:∀b,Zs B2 b→h9.next≤b∧b<hA.next:=fun b hb=>⟨(oB2.blk hb).1,(oB2.blk hb).2.1⟩
    have sD:h6.Sub (hA.set (h6.next+1) (.cells .rw [.int .i64 m.errs,A2,B2])):=(s68.trans s8A).set ycc ycc w6 _
    have kD:=Zq.set hA (h6.next+1) (.cells .rw [.int .i64 m.errs,A2,B2])
    have s69:=s68.trans s89
    have oAD:=(oA2.base s69).keep kD sD fun b hb e=>by have:=bA2 b hb;omega
    have oBD:=(oB2.base s69).keep kD sD fun b hb e=>by have:=bB2 b hb;omega
    have offA:vOff (.agg [.int .i64 (ZL m y).errs,L1,W1]) (fun c=>c=h6.next+1):=by
     intro e L' W' e';cases e';exact⟨fun b hb=>(n1 b hb).1,fun b hb=>(n2 b hb).1⟩
    have m15D:=mA15.keep kD offA
    have g15D:=kD.cells r15 ycc
    have gD:(hA.set (h6.next+1) (.cells .rw [.int .i64 m.errs,A2,B2])).get (h6.next+1)=some (.cells .rw [.int .i64 m.errs,A2,B2]):=get_set_same rfl
    have lD:(hA.set (h6.next+1) (.cells .rw [.int .i64 m.errs,A2,B2])).next=hA.next:=H.next_set _ _ _
    simp -implicitDefEqProofs(maxSteps:=999999)(disch:=first|with_reducible rfl|omega|(simp only[nA,nS,nD]<;>omega)|fail)only[go_sem,t3,t16,r16,hA2,hB2,cells_one hA2,cells_one hB2,hlk]
    generalize hA.set (h6.next+1) (.cells .rw [.int .i64 m.errs,A2,B2])=hD at sD kD oAD oBD m15D g15D gD lD⊢
    have hk6:=hk.mono s6
    refine Zi kinds.length (fun i s=>∃tm h' x,s=⟨tm,h',[]⟩∧h6.Sub h'∧ZK h6 h' x 2 ((m.splitB (n:Int) (kinds.take i)).lots.map ZO)∧ZK h6 h' B2 4 (m.wgs.map Zy)∧(∀b,Zs x b→¬Zs B2 b)∧(∀b,Zs x b→h6.next+1<b∧h9.next≤b)∧hD.next≤h'.next∧
      h'.get (h6.next+1)=some (.cells .rw [.int .i64 m.errs,x,B2])∧h'.cells h6.next=some [.int .i64 (ZL m y).errs,L1,W1]∧ZF h' (.agg [.int .i64 (ZL m y).errs,L1,W1]) (ZL m y)∧
      (Opd.t 2).ev tm=.int .i64 (n:Int)∧(Opd.t 3).ev tm=K∧(Opd.t 4).ev tm=.ptr h.next 0∧(Opd.t 5).ev tm=.ptr (h.next+1) 0∧(Opd.t 9).ev tm=.ptr (h4.next+1) 0∧(Opd.t 11).ev tm=.sl h4.next 0 kinds.length (.fix kinds.length)∧
      (Opd.t 13).ev tm=.int .i64 (YY m y)∧(Opd.t 14).ev tm=.int .i64 0∧(Opd.t 15).ev tm=.ptr h6.next 0∧(Opd.t 16).ev tm=.ptr (h6.next+1) 0∧(Opd.t 89).ev tm=K∧(Opd.t 90).ev tm=.int .i64 (kinds.length:Int)∧(Opd.t 91).ev tm=.int .i64 (i:Int))
     ?_ ?_ (i:=0) (Nat.zero_le _) ⟨_,_,A2,rfl,sD,by simpa[Ml.splitB] using oAD,oBD,dAB,fun b hb=>by have:=bA2 b hb;omega,Nat.le_refl _,gD,g15D,m15D,ych,ycd,ycf,ycm,ycj,yci,ycg,yco,yck,ycl,ycb,ycb,ycb⟩<;>clear t2 t3 t4 t5 t9 t10 t11 t13 t14 t15 t16 t18 t71 t72 t73 tm
    ·rintro i s hi ⟨tm,h',x,rfl,hs,ox,oY',dx,nx,lt,gd,g15,m15',t2,t3,t4,t5,t9,t11,t13,t14,t15,t16,t89,t90,t91⟩
     have hi':(i:Int)<(kinds.length:Int):=by omega
     obtain⟨b,o,cc,cs,rfl,hcs,hq,hgg,hnn,hn0⟩:=(hk6.mono hs).at hi
     simp -implicitDefEqProofs(maxSteps:=999999)(disch:=first|with_reducible rfl|omega|(simp only[nA,nS,nD]<;>omega)|fail)only[go_sem,t2,t16,t89,t90,t91,hi',hq (Zb i),hcs,hn0 ycc,encI,Za gd]
     have sA:=(H.Sub.refl hs.wf).add (.cells .rw [.int .i64 (n:Int),.int .i64 kinds[i]])
     refine(ox.mono sA).app1 (r:=ZO ⟨(n:Int),kinds[i]⟩) w6 rfl ycc (Zk.new _ rfl rfl rfl (by simp[ZO]) ycA) rfl ycz ycz fun Z h7 o7 dZ k7=>?_
     have l7:=k7.1
     simp only[H.next_add] at l7
     have g7d:=k7.2 _ _ (sA.get gd) fun hb=>by have:=nx _ hb;omega
     have s8:h6.Sub (h7.set (h6.next+1) (.cells .rw [.int .i64 m.errs,Z,B2])):=o7.1.set ycc ycc w6 _
     have k8:=Zq.set h7 (h6.next+1) (.cells .rw [.int .i64 m.errs,Z,B2])
     have nZ:∀b,Zs Z b→h6.next+1<b∧h9.next≤b:=fun b hb=>by
      rcases dZ b hb with h|h
      ·exact nx b h
      ·simp only[H.next_add] at h;omega
     have offx:vOff (.agg [.int .i64 (ZL m y).errs,L1,W1]) (fun c=>Zs x c):=by
      intro e L' W' e';cases e'
      exact⟨fun b hb hx=>by have:=nx b hx;have:=n1 b hb;omega,fun b hb hx=>by have:=nx b hx;have:=n2 b hb;omega⟩
     simp -implicitDefEqProofs(maxSteps:=999999)(disch:=first|with_reducible rfl|omega|(simp only[nA,nS,nD]<;>omega)|fail)only[go_sem,t2,t16,t89,t90,t91,Za g7d,g7d,o7.one,cells_one o7.one,Ze]
     refine⟨_,_,Z,rfl,s8,?_,((oY'.mono sA).keep k7 o7.1 fun b hb hx=>dx b hx hb).keep k8 s8 fun b hb e=>by have:=bB2 b hb;omega,fun b hb hy=>?_,nZ,by rw[H.next_set];omega,get_set_same rfl,k8.cells (k7.cells (sA.cells g15) fun hb=>by have:=nx _ hb;omega) ycc,((m15'.mono sA).keep k7 offx).keep k8 offA,
      ych,ycd,ycf,ycm,ycj,yci,ycg,yco,yck,ycl,(by simp[Zn,Zd,t89]<;>rfl),(by simp[Zn,Zd,t90]<;>rfl),ycb⟩
     ·have:=o7.keep k8 s8 fun b hb e=>by have:=nZ b hb;omega
      have e:(m.splitB (n:Int) (kinds.take (i+1))).lots.map ZO=(m.splitB (n:Int) (kinds.take i)).lots.map ZO++[ZO ⟨(n:Int),kinds[i]⟩]:=by
       rw[List.take_succ_eq_append_getElem hi]
       simp only[Ml.splitB,List.map_append,List.map_cons,List.map_nil,List.append_assoc]
      rw[e];exact this
     ·rcases dZ b hb with h|h
      ·exact dx b h hy
      ·have:=bB2 b hy;simp only[H.next_add] at h;omega
    ·rintro s ⟨tm,h',x,rfl,hs,ox,oY',dx,nx,lt,gd,g15,m15',t2,t3,t4,t5,t9,t11,t13,t14,t15,t16,t89,t90,t91⟩
     rw[List.take_length] at ox
     simp -implicitDefEqProofs(maxSteps:=999999)(disch:=first|with_reducible rfl|omega|(simp only[nA,nS,nD]<;>omega)|fail)only[go_sem,t89,t90,t91,Int.lt_irrefl]
     exact⟨rfl,(hI _).2 ⟨_,_,L1,W1,x,B2,rfl,hs,ych,ycd,ycf,ycm,ycj,yci,ycg,by rw[he];exact yco,yck,ycl,g15,by rw[hM];exact Za gd,m15',by
      rw[hM]
      exact⟨x,B2,rfl,ox.sl ycz,oY'.sl ycz⟩⟩⟩
 ·intro c
  have e1:YY m y=check m:=by simp[YY,c]
  have e2:ZL m y=Ml.empty:=by simp[ZL,e1,c]
  have e3:Xe m lot kinds=check m:=by simp[Xe,c]
  have e4:YB m lot kinds=Ml.empty:=by simp[YB,e3,c]
  have ee:∀hh:H,hh.wf→ZF hh (.agg [.int .i64 0,.nils,.nils]) Ml.empty:=fun hh hwf=>(YS.empty (H.Sub.refl hwf)).is (by simp[Ml.empty])
  simp -implicitDefEqProofs(maxSteps:=999999)(disch:=first|with_reducible rfl|omega|(simp only[nA,nS,nD]<;>omega)|fail)only[go_sem]
  exact⟨rfl,(hI _).2 ⟨_,_,.nils,.nils,.nils,.nils,rfl,s67,ycb,ycb,ycb,ycb,ycb,ycb,by rw[e1];exact ycb,by rw[e3];exact ycb,ycb,ycb,by rw[e2];exact Za f15,by rw[e4];exact Za f16,by rw[e2];exact ee _ w67,by rw[e4];exact ee _ w67⟩⟩
 ·intro s hs
  obtain⟨tm,h8,L1,W1,L2,W2,rfl,s68,t2,t3,t4,t5,t9,t11,t13,t14,t15,t16,k15,k16,m15,m16⟩:=(hI s).1 hs
  have s8:=s6.trans s68
  have n9:=s68.cells d9
  have n4:=s68.cells d1
  have nw:=s68.cells dw
  simp -implicitDefEqProofs(maxSteps:=999999)(disch:=first|with_reducible rfl|omega|(simp only[nA,nS,nD]<;>omega)|fail)only[go_sem,t2,t3,t4,t5,t9,t11,t13,t14,t15,t16,n9,nw,Zy]
  have hown8:=hown5.mono (s56.trans s68)
  refine Weigh_ev (w:=y) s8.wf hown8 _ fun a h9 oa s89=>?_
  obtain⟨La,Wa,rfl,oLa,oWa,dab⟩:=id oa
  have p9:=s89.cells n9
  simp -implicitDefEqProofs(maxSteps:=999999)(disch:=first|with_reducible rfl|omega|(simp only[nA,nS,nD]<;>omega)|fail)only[go_sem,t2,t3,t4,t5,t9,t11,t13,t14,t15,t16,p9,oLa.one,oWa.one,cells_one oLa.one,cells_one oWa.one]
  have s9:=s8.trans s89
  have s9A:=(H.Sub.refl s9.wf).add (.cells .rw [.int .i64 (ZL m y).errs,La,Wa])
  have gA:(h9.add (.cells .rw [.int .i64 (ZL m y).errs,La,Wa])).cells h9.next=some [.int .i64 (ZL m y).errs,La,Wa]:=by simp -implicitDefEqProofs(maxSteps:=999999)(disch:=first|with_reducible rfl|omega|(simp only[nA,nS,nD]<;>omega)|fail)only[go_sem]
  have lA:(h9.add (.cells .rw [.int .i64 (ZL m y).errs,La,Wa])).next=h9.next+1:=H.next_add _ _
  generalize h9.add (.cells .rw [.int .i64 (ZL m y).errs,La,Wa])=hA' at s9A gA lA⊢
  have sA:=s9.trans s9A
  simp -implicitDefEqProofs(maxSteps:=999999)(disch:=first|with_reducible rfl|omega|(simp only[nA,nS,nD]<;>omega)|fail)only[go_sem,t2,t3,t4,t5,t9,t11,t13,t14,t15,t16,s9A.cells p9]
  refine Split_ev sA.wf (hown8.mono (s89.trans s9A)) (hmine5.mono (s56.trans (s68.trans (s89.trans s9A)))) ycc lot _ fun b hB ob sAB=>?_
  obtain⟨Lb,Wb,rfl,oLb,oWb,dLb⟩:=id ob
  have p4:=(s89.trans (s9A.trans sAB)).cells n4
  simp -implicitDefEqProofs(maxSteps:=999999)(disch:=first|with_reducible rfl|omega|(simp only[nA,nS,nD]<;>omega)|fail)only[go_sem,t2,t3,t4,t5,t9,t11,t13,t14,t15,t16,oLb.one,oWb.one,cells_one oLb.one,cells_one oWb.one,ne_eq,not_true_eq_false]
  have sBC:=(H.Sub.refl sAB.wf).add (.cells .rw [.int .i64 (YB m lot kinds).errs,Lb,Wb])
  have gC:(hB.add (.cells .rw [.int .i64 (YB m lot kinds).errs,Lb,Wb])).cells hB.next=some [.int .i64 (YB m lot kinds).errs,Lb,Wb]:=by simp -implicitDefEqProofs(maxSteps:=999999)(disch:=first|with_reducible rfl|omega|(simp only[nA,nS,nD]<;>omega)|fail)only[go_sem]
  have lC:(hB.add (.cells .rw [.int .i64 (YB m lot kinds).errs,Lb,Wb])).next=hB.next+1:=H.next_add _ _
  generalize hB.add (.cells .rw [.int .i64 (YB m lot kinds).errs,Lb,Wb])=hC at sBC gC lC⊢
  have lAB:=sAB.next
  have gCA:hC.cells h9.next=some [.int .i64 (ZL m y).errs,La,Wa]:=(sAB.trans sBC).cells gA
  have s9C:=s9A.trans (sAB.trans sBC)
  have s8C:=s89.trans s9C
  have sC:=s8.trans s8C
  have bLe:(m.lots.length≤1000∧m.wgs.length≤1000):=hle
  have wLe:(ZL m y).lots.length≤1000∧(ZL m y).wgs.length≤1000:=by
   unfold ZL
   split
   ·simp only[Ml.weighed,List.length_append,List.length_singleton]
    simp only[Xo,decide_eq_false_iff_not] at hgr
    omega
   ·simp[Ml.empty]
  have sLe:(YB m lot kinds).lots.length≤1000∧(YB m lot kinds).wgs.length≤1000:=by
   unfold YB
   split
   ·simp only[Ml.splitB,List.length_append,List.length_map]
    simp only[Xo,decide_eq_false_iff_not] at hgr
    omega
   ·simp[Ml.empty]
  simp -implicitDefEqProofs(maxSteps:=999999)(disch:=first|with_reducible rfl|omega|(simp only[nA,nS,nD]<;>omega)|fail)only[go_sem,t2,t3,t4,t5,t9,t11,t13,t14,t15,t16,gCA,s8C.cells k15,gC,s8C.cells k16,ne_eq,not_true_eq_false]
  refine WW sC.wf ((oa.mono s9C).is wLe) (m15.mono s8C) _ fun hD sCD=>?_
  simp -implicitDefEqProofs(maxSteps:=999999)(disch:=first|with_reducible rfl|omega|(simp only[nA,nS,nD]<;>omega)|fail)only[go_sem,t2,t3,t4,t5,t9,t11,t13,t14,t15,t16,decide_eq_true rfl,sCD.cells gC,(s8C.trans sCD).cells k16]
  refine WW (sC.trans sCD).wf ((ob.mono (sBC.trans sCD)).is sLe) (m16.mono (s8C.trans sCD)) _ fun hE sDE=>?_
  have sCE:=sCD.trans sDE
  have eA:=sCE.cells gCA
  have eC:=sCE.cells gC
  have oaE:=oa.mono (s9C.trans sCE)
  have obE:=ob.mono (sBC.trans sCE)
  simp -implicitDefEqProofs(maxSteps:=999999)(disch:=first|with_reducible rfl|omega|(simp only[nA,nS,nD]<;>omega)|fail)only[go_sem,t2,t3,t4,t5,t9,t11,t13,t14,t15,t16,decide_eq_true rfl,eA,eC]
  obtain⟨La',Wa',ea,oLaE,oWaE,dab'⟩:=oaE
  obtain⟨Lb',Wb',eb,oLbE,oWbE,dLb'⟩:=obE
  cases ea;cases eb
  have w8:=s8.wf
  have wA:=sA.wf
  have lwE:=(s9C.trans sCE).next
  have lCE:=sCE.next
  have l89:=s89.next
  have bLa:∀c,Zs La c→h8.next≤c∧c<h9.next:=fun c hc=>⟨(oLa.blk hc).1,(oLa.blk hc).2.1⟩
  have bWa:∀c,Zs Wa c→h8.next≤c∧c<h9.next:=fun c hc=>⟨(oWa.blk hc).1,(oWa.blk hc).2.1⟩
  have bLb:∀c,Zs Lb c→hA'.next≤c∧c<hB.next:=fun c hc=>⟨(oLb.blk hc).1,(oLb.blk hc).2.1⟩
  have bWb:∀c,Zs Wb c→hA'.next≤c∧c<hB.next:=fun c hc=>⟨(oWb.blk hc).1,(oWb.blk hc).2.1⟩
  refine ZK.clr oLaE w8 rfl rfl fun hF s8F kF=>?_
  have oWaF:=oWaE.keep kF s8F fun c hc hd=>dab c hd hc
  have gFA:=kF.cells eA fun hb=>by have:=bLa _ hb;omega
  have gFC:=kF.cells eC fun hb=>by have:=bLa _ hb;omega
  simp -implicitDefEqProofs(maxSteps:=999999)(disch:=first|with_reducible rfl|omega|(simp only[nA,nS,nD]<;>omega)|fail)only[go_sem,t2,t3,t4,t5,t9,t11,t13,t14,t15,t16,gFA]
  refine ZK.clr oWaF w8 rfl rfl fun hG s8G kG=>?_
  have gGC:=kG.cells gFC fun hb=>by have:=bWa _ hb;omega
  simp -implicitDefEqProofs(maxSteps:=999999)(disch:=first|with_reducible rfl|omega|(simp only[nA,nS,nD]<;>omega)|fail)only[go_sem,t2,t3,t4,t5,t9,t11,t13,t14,t15,t16,gGC]
  have s8A:=s89.trans s9A
  have oLb8:=((oLbE.base s8A).keep kF s8F fun c hc hd=>by have:=bLb c hc;have:=bLa c hd;omega).keep kG s8G fun c hc hd=>by have:=bLb c hc;have:=bWa c hd;omega
  have oWb8:=((oWbE.base s8A).keep kF s8F fun c hc hd=>by have:=bWb c hc;have:=bLa c hd;omega).keep kG s8G fun c hc hd=>by have:=bWb c hc;have:=bWa c hd;omega
  refine ZK.clr oLb8 w8 rfl rfl fun hI2 s8I kI=>?_
  have gIC:=kI.cells gGC fun hb=>by have:=bLb _ hb;omega
  have oWb9:=oWb8.keep kI s8I fun c hc hd=>dLb c hd hc
  simp -implicitDefEqProofs(maxSteps:=999999)(disch:=first|with_reducible rfl|omega|(simp only[nA,nS,nD]<;>omega)|fail)only[go_sem,t2,t3,t4,t5,t9,t11,t13,t14,t15,t16,gIC]
  refine ZK.clr oWb9 w8 rfl rfl fun hJ2 s8J kJ=>?_
  simp -implicitDefEqProofs(maxSteps:=999999)(disch:=first|with_reducible rfl|omega|(simp only[nA,nS,nD]<;>omega)|fail)only[go_sem,t2,t3,t4,t5,t9,t11,t13,t14,t15,t16,s8J.cells n9,s8J.cells n4]
  refine WW s8J.wf (hown8.mono s8J) (hm0.mono (s8.trans s8J)) _ fun hK sJK=>?_
  have i1:=eqKind_ev (hmine5.mono (s56.trans (s68.trans (s8J.trans sJK)))) (hk.mono (s8.trans (s8J.trans sJK)))
  simp -implicitDefEqProofs(maxSteps:=999999)(disch:=first|with_reducible rfl|omega|(simp only[nA,nS,nD]<;>omega)|fail)only[go_sem,t2,t3,t4,t5,t9,t11,t13,t14,t15,t16,decide_eq_true rfl,i1,Z4]
  exact q _ _ ⟨rfl,(s8.trans s8J).trans sJK⟩
end Tryz
end Go.Ab
namespace Go.Ab
theorem Zq.sub {S:Nat→Prop}{h0 h h':H}(k:Zq S h h')(s:h0.Sub h)(hw0:h0.wf)(hS:∀c,S c→h0.next≤c)(hw:h'.wf):h0.Sub h':=
 ⟨⟨Nat.le_trans s.next k.1,fun b x e=>k.2 b x (s.get e) fun hs=>by have:=hS b hs;have:=hw0 b x e;omega⟩,hw⟩
theorem Zq.wf_set {h:H}(hw:h.wf){b:Nat}{y:Blk}(x:Blk)(hb:h.get b=some y):Zq (fun c=>c=b) h (h.set b x)∧(h.set b x).wf:=⟨Zq.set h b x,H.wf_set hw x hb⟩
namespace Tryz
open Go.Ab.Silk
theorem mem_partsL {k:Int}:∀{l:List Lt} {i:Nat} {p:Int},p∈ZI k l i↔∃j,∃hj:j<l.length,p=((i+j:Nat):Int)∧l[j].frm=k
 |[],i,p=>by simp[ZI]
 |a::l,i,p=>by
  have ih:=mem_partsL (k:=k) (l:=l) (i:=i+1) (p:=p)
  have e:(∃j,∃hj:j<(a::l).length,p=((i+j:Nat):Int)∧(a::l)[j].frm=k)↔(p=(i:Int)∧a.frm=k)∨∃j,∃hj:j<l.length,p=((i+1+j:Nat):Int)∧l[j].frm=k:=by
   constructor
   ·rintro⟨j,hj,h1,h2⟩
    cases j with
    |zero=>exact .inl ⟨by simpa using h1,h2⟩
    |succ j=>exact .inr ⟨j,by simpa using hj,by omega,h2⟩
   ·rintro(⟨h1,h2⟩|⟨j,hj,h1,h2⟩)
    ·exact⟨0,by simp,by simpa using h1,h2⟩
    ·exact⟨j+1,by simpa using hj,by omega,h2⟩
  rw[e,←ih]
  simp only[ZI]
  by_cases h:a.frm=k
  ·simp[h]
  ·simp[h]
theorem partsL_nodup {k:Int}:∀(l:List Lt) (i:Nat),(ZI k l i).Nodup
 |[],i=>by simp[ZI]
 |a::l,i=>by
  have ih:=partsL_nodup (k:=k) l (i+1)
  simp only[ZI]
  by_cases h:a.frm=k
  ·rw[if_pos h,List.nodup_cons]
   refine⟨fun hm=>?_,ih⟩
   obtain⟨j,hj,e,_⟩:=mem_partsL.1 hm
   omega
  ·rw[if_neg h];exact ih
theorem Zv {m:Ml}(g:Good m):ZG m.lots.length (ZS m) (parts m):=by
 refine⟨fun i i0 i1=>?_,fun i p=>?_,fun i=>partsL_nodup _ _⟩
 ·have:=VM g i0 i1;omega
 ·unfold parts
  rw[mem_partsL]
  constructor
  ·rintro⟨j,hj,rfl,hf⟩
   simp only[Nat.zero_add]
   exact⟨by omega,by omega,by rw[XV hj];exact hf⟩
  ·rintro⟨p0,p1,hf⟩
   obtain⟨j,rfl⟩:=Int.eq_ofNat_of_zero_le p0
   exact⟨j,by omega,by simp,by rw[←XV ycc];exact hf⟩
def intsB (b:Box):List Int:=[(b 0).1,(b 0).2,(b 1).1,(b 1).2,(b 2).1,(b 2).2,(b 3).1,(b 3).2,(b 4).1,(b 4).2,(b 5).1,(b 5).2,(b 6).1,(b 6).2,(b 7).1,(b 7).2,(b 8).1,(b 8).2,(b 9).1,(b 9).2,(b 10).1,(b 10).2,(b 11).1,(b 11).2]
def Zt (b:Box):List V:=(intsB b).map iv
def updB (b:Box)(i:Int)(p:Int × Int):Box:=fun k=>if k=i then p else b k
theorem lt12 {i:Nat}(h:i<12):i=0∨i=1∨i=2∨i=3∨i=4∨i=5∨i=6∨i=7∨i=8∨i=9∨i=10∨i=11:=by omega
theorem Xx (b:Box){i:Nat}(hi:i<12):nth (i*2) (Zt b)=some (.ii (b i).1)∧nth (i*2+1) (Zt b)=some (.ii (b i).2)∧WQ (i*2) 2 (Zt b)=some [.ii (b i).1,.ii (b i).2]:=by
 rcases lt12 hi with rfl|rfl|rfl|rfl|rfl|rfl|rfl|rfl|rfl|rfl|rfl|rfl<;>exact⟨rfl,rfl,rfl⟩
theorem encB_put (b:Box){i:Nat}(hi:i<12)(x y:Int):Yl (i*2) [.ii x,.ii y] (Zt b)=some (Zt (updB b i (x,y))):=by
 rcases lt12 hi with rfl|rfl|rfl|rfl|rfl|rfl|rfl|rfl|rfl|rfl|rfl|rfl<;>rfl
theorem encB_put2 (b:Box){i:Nat}(hi:i<12)(y:Int):Yl (i*2+1) [.ii y] (Zt b)=some (Zt (updB b i ((b i).1,y))):=by
 rcases lt12 hi with rfl|rfl|rfl|rfl|rfl|rfl|rfl|rfl|rfl|rfl|rfl|rfl<;>rfl
theorem intsB_iff (b c:Box):intsB b=intsB c↔∀i:Int,0≤i→i<12→b i=c i:=by
 constructor
 ·intro h i i0 i1
  obtain⟨j,rfl⟩:=Int.eq_ofNat_of_zero_le i0
  have hj:j<12:=by omega
  simp only[intsB,List.cons.injEq,and_true] at h
  obtain⟨a0,a1,a2,a3,a4,a5,a6,a7,a8,a9,b0,b1,b2,b3,b4,b5,b6,b7,b8,b9,d0,d1,d2,d3⟩:=h
  rcases lt12 hj with rfl|rfl|rfl|rfl|rfl|rfl|rfl|rfl|rfl|rfl|rfl|rfl<;>exact Prod.ext (by assumption) (by assumption)
 ·intro h
  simp only[intsB,h 0 ycc ycc,h 1 ycc ycc,h 2 ycc ycc,h 3 ycc ycc,h 4 ycc ycc,h 5 ycc ycc,h 6 ycc ycc,h 7 ycc ycc,h 8 ycc ycc,h 9 ycc ycc,h 10 ycc ycc,h 11 ycc ycc]
theorem q_feq_B (ng:Bool)(b c:Box):q_feq ng 24 (.agg (Zt b)) (.agg (Zt c))=some (.bool (ngB ng (decide (intsB b=intsB c)))):=VE (n:=24) (intsB b) (intsB c) rfl rfl ng
def Zw:Box:=fun _=>(0,0)
theorem narrow_upd (b:Box)(i lo hi:Int):narrow b i lo hi=updB b i (max (b i).1 lo,min (b i).2 hi):=rfl
theorem updB_same (b:Box)(i:Int):updB b i (b i)=b:=by
 funext k
 by_cases h:k=i
 ·subst h;simp[updB]
 ·simp[updB,h]
theorem ld_B (b:Box):WQ 0 24 (Zt b)=some (Zt b):=rfl
theorem narrow_ev {h:H}{p i:Nat}{b:Box}(hw:h.wf)(hp:h.get p=some (.bk (Zt b)))(hi:i<12)(lo hi':Int)(Q:V→H→Prop)
  (q:∀h',h'.get p=some (.bk (Zt (narrow b i lo hi')))→Zq (fun c=>c=p) h h'→h'.wf→Q (.tup []) h'):Ev fnG Zm (.fn 94 [] [.ptr p 0]) [.ii (i:Int),.ii lo,.ii hi'] h Q:=by
 obtain⟨n1,n2,n3⟩:=Xx b hi
 have hc:=Za hp
 have hlp:=hw _ _ hp
 refine Zf (fd:=c94) rfl rfl rfl ?_
 simp(disch:=omega)only[c94,go_sem,ZH (Zb i) hi,hc,n1,n2]
 refine least_use (l:=[hi']) (Zk.new _ rfl (by rfl) (by rfl) (by simp[encI]) ycA) ?_
 have s1:h.Sub ((h.add (.bk [.ii hi'])).add (.bk [.ii (max (b i).1 lo),.ii (min (b i).2 hi')])):=yca
 have k1:=Zq.of s1 (fun c=>c=p)
 have hp1:=s1.get hp
 by_cases e:max (b i).1 lo=(b i).1∧min (b i).2 hi'=(b i).2
 ·have hnb:narrow b i lo hi'=b:=by
   rw[narrow_upd,e.1,e.2];exact updB_same b i
  simp -implicitDefEqProofs(disch:=first|omega|simp only[nZ]<;>omega|fail)only[go_sem,ZH (Zb i) hi,hc,n1,n2,n3,List.foldl,q_feq_2,e.1,e.2,ngB,and_self,Bool.not_true]
  have:=q _ (by rw[hnb];exact hp1) k1 s1.wf
  rw[e.1,e.2] at this;exact this
 ·simp -implicitDefEqProofs(disch:=first|omega|simp only[nZ]<;>omega|fail)only[go_sem,ZH (Zb i) hi,hc,n1,n2,n3,List.foldl,q_feq_2,e,ngB,Bool.not_false,hp,encB_put b hi]
  obtain⟨k2,w2⟩:=Zq.wf_set s1.wf (.bk (Zt (narrow b i lo hi'))) hp1
  exact q _ (get_set_same rfl) ((k1.trans k2).mono fun c h=>by rcases h with h|h<;>exact h) w2
def Bd (C:Int)(b:Box):Prop:=∀k:Int, -C≤(b k).1∧(b k).1≤C∧ -C≤(b k).2∧(b k).2≤C
theorem Bd.mono {C D:Int}{b:Box}(h:Bd C b)(hc:C≤D):Bd D b:=fun k=>by have:=h k;omega
theorem Bd.narrow {C:Int}{b:Box}(h:Bd C b){i lo hi:Int}(h1: -C≤lo∧lo≤C)(h2: -C≤hi∧hi≤C):Bd C (narrow b i lo hi):=fun k=>by
 have hk:=h k
 by_cases e:k=i
 ·subst e;rw[YW];simp only;omega
 ·rw[XR _ _ _ e];exact hk
theorem sum_bd {x:Int→Int}{C:Int}:∀{l:List Int},(∀p, -C≤x p∧x p≤C)→0≤C→(l.length:Int)≤12→ -(12*C)≤Zg x l∧Zg x l≤12*C:=by
 have:∀(l:List Int),(∀p, -C≤x p∧x p≤C)→ -((l.length:Int)*C)≤Zg x l∧Zg x l≤(l.length:Int)*C:=by
  intro l h
  induction l with
  |nil=>simp[Zg]
  |cons p l ih=>
   have:=h p
   simp only[Zg,List.length_cons]
   rw[Int.natCast_add,Int.add_mul]
   omega
 intro l h h0 hl
 have h1:=this l h
 have h2:=Int.mul_le_mul_of_nonneg_right hl h0
 omega
theorem downs_bd {bf:Box}{K C lo hi:Int}{i:Int}(hK:0≤K)(hKC:K≤C)(hbf:Bd K bf)(hlo: -(12*K)≤lo∧lo≤12*K)(hhi: -(12*K)≤hi∧hi≤12*K):∀(l:List Int) (b:Box),i ∉l→Bd (C+25*K) b→(-(C+12*K)≤(b i).1∧(b i).1≤C+12*K∧ -(C+12*K)≤(b i).2∧(b i).2≤C+12*K)→
  Bd (C+25*K) (WF bf i lo hi l b)
 |[],b,_,h,_=>h
 |p::l,b,hi',h,hb=>by
  rw[List.mem_cons,not_or] at hi'
  have hp:=hbf p
  simp only[WF]
  refine downs_bd hK hKC hbf hlo hhi l _ hi'.2 (h.narrow ycc ycc) ?_
  rw[XR _ _ _ hi'.1];exact hb
theorem lotStep_bd {m:Ml}(g:Good m){bf b c:Box}{K C:Int}{i:Int}(hK:0≤K)(hKC:K≤C)(hbf:Bd K bf)(hb:Bd C b)(he:∀p∈parts m i,b p=bf p)(h0:0≤i)(h:ZR (parts m) bf b i=some c):Bd (C+25*K) c:=by
 unfold ZR at h
 split at h
 ·cases h
 ·split at h
  ·cases h;exact hb.mono ycc
  ·cases h
   have hl:((parts m i).length:Int)≤12:=by have:=ZV m i;have:=g.lots;omega
   have e1:Zg (lo1 b) (parts m i)=Zg (lo1 bf) (parts m i):=ZN fun p hp=>by simp only[lo1,he p hp]
   have e2:Zg (hi1 b) (parts m i)=Zg (hi1 bf) (parts m i):=ZN fun p hp=>by simp only[hi1,he p hp]
   have b1:=sum_bd (x:=lo1 bf) (C:=K) (l:=parts m i) (fun p=>by have:=hbf p;simp only[lo1];omega) hK hl
   have b2:=sum_bd (x:=hi1 bf) (C:=K) (l:=parts m i) (fun p=>by have:=hbf p;simp only[hi1];omega) hK hl
   rw[e1,e2]
   have hbi:=hb i
   refine downs_bd hK hKC hbf b1 b2 _ _ (fun hm=>?_) ((hb.mono ycc).narrow ycc ycc) ?_
   ·obtain⟨p0,p1,pf⟩:=((Zv g).mem _ _).1 hm
    have:=(Zv g).lt i p0 p1;omega
   ·rw[YW];simp only;omega
theorem passF_bd {m:Ml}(g:Good m){bf:Box}{K:Int}(hK:0≤K)(hbf:Bd K bf):∀(k:Nat) (i:Int) (b c:Box) (C:Int),K≤C→0≤i→Bd C b→Silk.Yt m.lots.length (ZS m) bf b i→Xi (parts m) bf k i b=some c→Bd (C+25*K*k) c
 |0,i,b,c,C,_,_,hb,_,h=>by cases h;exact hb.mono ycA
 |k+1,i,b,c,C,hC,i0,hb,hf,h=>by
  simp only[Xi] at h
  cases h1:ZR (parts m) bf b i with
  |none=>rw[h1] at h;cases h
  |some d=>
   rw[h1] at h
   have:=passF_bd g hK hbf k (i+1) d c (C+25*K) ycc ycc (lotStep_bd g hK hC hbf hb (hf.at (Zv g)) i0 h1) (hf.step (Zv g) i0 h1) h
   have e:C+25*K+25*K*(k:Int)=C+25*K*((k+1:Nat):Int):=by
    rw[Int.natCast_add,Int.mul_add];omega
   rw[←e];exact this
def InvB (b:Box):Prop:=∀k:Int,0≤(b k).1∧(b k).1≤4000000∧ -4000000≤(b k).2∧(b k).2≤10000
theorem InvB.bd {b:Box}(h:InvB b):Bd 4000000 b:=fun k=>by have:=h k;omega
theorem InvB.pass {m:Ml}(g:Good m){b c:Box}(h:InvB b)(hout:∀j:Int,¬(0≤j∧j<m.lots.length)→b j=(0,0))(hp:Xi (parts m) b m.lots.length 0 b=some c):InvB c∧∀j:Int,¬(0≤j∧j<m.lots.length)→c j=(0,0):=by
 have hs:∀j:Int,0≤(b j).1∧(b j).1≤10000∧ -10000≤(b j).2∧(b j).2≤10000:=fun j=>by
  by_cases hj:0≤j∧j<m.lots.length
  ·have:=passF_start _ _ _ _ hp j hj.1 ycc
   have:=h j;omega
  ·rw[hout j hj];omega
 have hbd:Bd 10000 b:=fun k=>by have:=hs k;omega
 have h2:=passF_bd g ycc hbd m.lots.length 0 b c 10000 ycc ycc hbd (fun _ _ _ _=>rfl) hp
 have hn:=VG _ _ hp
 have gl:=g.lots
 refine⟨fun k=>?_,fun j hj=>by rw[passF_out (Zv g) _ _ _ _ ycc ycc hp j hj];exact hout j hj⟩
 have a1:=h2 k
 have a2:=hn k
 have a3:=hs k
 omega
theorem Yf:([.ii 0,.ii 0,.ii 0,.ii 0,.ii 0,.ii 0,.ii 0,.ii 0,.ii 0,.ii 0,.ii 0,.ii 0,.ii 0,.ii 0,.ii 0,.ii 0,.ii 0,.ii 0,.ii 0,.ii 0,.ii 0,.ii 0,.ii 0,.ii 0]:List V)=Zt Zw:=rfl
theorem Ve (b:Box):Xw (Zt b)=24:=rfl
theorem Y8 {h:H}{p:Nat}(b c:Box)(hp:h.get p=some (.bk (Zt c))):h.put p 0 (Zt b)=some (h.set p (.bk (Zt b))):=by
 have hpn:Yl 0 (Zt b) (Zt c)=some (Zt b):=by
  rw[V7];exact over_eq.2 ⟨rfl,Nat.le_refl _⟩
 exact H.put_rw (v:=iv (b 0).1) rfl hp hpn
def Ws (r:Option Box):V:=match r with
 |none=>.tup [.agg (Zt Zw),.bool false]
 |some c=>.tup [.agg (Zt c),.bool true]
theorem Yu (x:Int→Int){l:List Int}{j:Nat}(hj:j<l.length):Zg x (l.take (j+1))=Zg x (l.take j)+x l[j]:=by
 rw[List.take_succ_eq_append_getElem hj,XO];simp[Zg]
theorem downs_drop {bf:Box}{i lo hi:Int}{l:List Int}{j:Nat}(hj:j<l.length)(b:Box):WF bf i lo hi (l.drop j) b=WF bf i lo hi (l.drop (j+1)) (narrow b l[j] ((b i).1-(hi-(bf l[j]).2)) ((b i).2-(lo-(bf l[j]).1))):=by
 rw[List.drop_eq_getElem_cons hj];rfl
set_option maxHeartbeats 4000000 in
theorem tight_ev {h:H}{d:Nat}{m:Ml}{b:Box}(hw:h.wf)(hd:WL h d m)(g:Good m)(hb:InvB b)(hout:∀j:Int,¬(0≤j∧j<m.lots.length)→b j=(0,0))(Q:V→H→Prop)
  (q:∀r h',h.Sub h'→YR m.lots.length (parts m) b r→Q (Ws r) h'):Ev fnG Zm (.fn 36 [] []) [.ptr d 0,.agg (Zt b)] h Q:=by
 obtain⟨pm,l,L,W,g1,g2,aL,aW,ap⟩:=hd
 have F:=Zv g
 have gl:=g.lots
 have hld:=hw _ _ g1
 have hlp:=hw _ _ g2
 have hlenL:=aL.lenE
 refine Zf (fd:=c36) rfl rfl rfl ?_
 have s1:h.Sub ((h.add (.bk (Zt b))).add (.bk (Zt Zw))):=yca
 simp(disch:=omega)only[c36,go_sem,Yf]
 refine W_loop (fun k s=>∃tm h' c,s=⟨tm,h',[]⟩∧h.Sub h'∧h.next+1<h'.next∧h'.get h.next=some (.bk (Zt c))∧h'.get (h.next+1)=some (.bk (Zt Zw))∧InvB c∧(∀j:Int,¬(0≤j∧j<m.lots.length)→c j=(0,0))∧
   (∀r,YR m.lots.length (parts m) c r→YR m.lots.length (parts m) b r)∧(Silk.room m.lots.length c+1).toNat≤k∧tm.E 0=.ptr d 0∧tm.E 3=.ptr h.next 0∧tm.E 4=.ptr (h.next+1) 0∧tm.E 6=.fn 94 [] [.ptr h.next 0])
  ?_ (Silk.room m.lots.length b+1).toNat _ ⟨_,_,b,rfl,s1,by simp only[H.next_add];omega,by simp -implicitDefEqProofs(disch:=first|omega|simp only[nZ]<;>omega|fail)only[go_sem],by simp -implicitDefEqProofs(disch:=first|omega|simp only[nZ]<;>omega|fail)only[go_sem],hb,hout,fun r h=>h,Nat.le_refl _,ycb,ycb,ycb,ycb⟩
 rintro k s ⟨tm,h',c,rfl,hs,lt,gb,gz,hi,ho,hR,hk,t0,t3,t4,t6⟩
 have gz':(h'.add (.bk (Zt Zw))).get h'.next=some (.bk (Zt Zw)):=Zo rfl
 simp(disch:=omega)only[go_sem,t0,t3,t4,t6,Za gb,ld_B,Yf,Ve,Y8 c Zw gz',Za (hs.get g1),hlenL]
 have sB:=(H.Sub.refl hs.wf).add (.bk (Zt c))
 have hs1:=hs.trans sB
 have gb1:=sB.get gb
 have gz1:=sB.get gz
 have gf1:(h'.add (.bk (Zt c))).get h'.next=some (.bk (Zt c)):=Zo rfl
 have l1:(h'.add (.bk (Zt c))).next=h'.next+1:=H.next_add _ _
 generalize h'.add (.bk (Zt c))=h1 at sB hs1 gb1 gz1 gf1 l1⊢
 clear gz'
 refine Zi m.lots.length (fun i s=>∃tm h2 e,s=⟨tm,h2,[]⟩∧h.Sub h2∧h'.next<h2.next∧h2.get h.next=some (.bk (Zt e))∧h2.get (h.next+1)=some (.bk (Zt Zw))∧h2.get h'.next=some (.bk (Zt c))∧
   Xi (parts m) c m.lots.length 0 c=Xi (parts m) c (m.lots.length-i) (i:Int) e∧Silk.Yt m.lots.length (ZS m) c e (i:Int)∧Bd (4000000+100000000*i) e∧
   tm.E 0=.ptr d 0∧tm.E 3=.ptr h.next 0∧tm.E 4=.ptr (h.next+1) 0∧tm.E 6=.fn 94 [] [.ptr h.next 0]∧tm.E 7=.ptr h'.next 0∧tm.E 23=.ii (m.lots.length:Int)∧tm.E 24=.ii (i:Int))
  ?_ ?_ (i:=0) (Nat.zero_le _) ⟨_,_,c,rfl,hs1,by omega,gb1,gz1,gf1,rfl,fun _ _ _ _=>rfl,hi.bd.mono ycc,ycr,ycd,ycf,ycs,ycb,ycb,ycb⟩<;>clear t0 t3 t4 t6 tm
 ·rintro i s hin ⟨tm,h2,e,rfl,hs2,lt2,gb2,gz2,gf2,hpass,hfr,hbd,t0,t3,t4,t6,t7,t23,t24⟩
  have hin':(i:Int)<(m.lots.length:Int):=by omega
  have hi12:i<12:=by omega
  obtain⟨n1,n2,n3⟩:=Xx e hi12
  have hstep:m.lots.length-i=(m.lots.length-(i+1))+1:=by omega
  rw[hstep,Xi] at hpass
  have hbdi:=hbd (i:Int)
  by_cases hc:(e i).2<(e i).1
  ·simp(disch:=omega)only[go_sem,t0,t3,t4,t6,t7,t23,t24,hin',ZH (Zb i) hi12,Za gb2,n1,n2,hc,Yf,Ve,Y8 Zw Zw gz2,ld_B]
   have hnone:ZR (parts m) c e (i:Int)=none:=by unfold ZR;rw[if_pos hc]
   rw[hnone] at hpass
   exact q none _ (hs2.set ycc (by have:=hs2.next;omega) hw _) (hR none (.bad hpass))
  have hap:=(ap (i:Int)).mono hs2
  have hlp:=ZV m (i:Int)
  have hlenP:=hap.lenE
  by_cases hps:parts m (i:Int)=[]
  ·have h0:((parts m (i:Int)).length:Int)=0:=by rw[hps];rfl
   have hsome:ZR (parts m) c e (i:Int)=some e:=by unfold ZR;rw[if_neg hc,if_pos hps]
   have hfr':=hfr.step F ycc hsome
   rw[hsome] at hpass
   simp(disch:=omega)only[go_sem,t0,t3,t4,t6,t7,t23,t24,hin',ZH (Zb i) hi12,Za gb2,n1,n2,hc,Za (hs2.get g1),hs2.get g2,hlenP,h0,Ze]
   exact⟨_,_,e,rfl,hs2,lt2,gb2,gz2,gf2,hpass,hfr',hbd.mono ycc,ycr,ycd,ycf,ycs,ycq,ycw,ycb⟩
  have h0:¬((parts m (i:Int)).length:Int)=0:=by have:=List.length_pos_iff.2 hps;omega
  obtain⟨ps,eps⟩:∃ps,parts m (i:Int)=ps:=⟨_,rfl⟩
  obtain⟨X,eX⟩:∃X,found .nils false (lkA (i:Int) l)=X:=⟨_,rfl⟩
  rw[eX] at hlenP hap
  rw[eps] at hlp hlenP hap h0 hps
  have hpsm:∀p∈ps,0≤p∧p<m.lots.length∧ZS m p=(i:Int):=fun p hp=>(F.mem _ _).1 (by rw[eps];exact hp)
  simp(disch:=omega)only[go_sem,t0,t3,t4,t6,t7,t23,t24,hin',ZH (Zb i) hi12,Za gb2,n1,n2,hc,Za (hs2.get g1),hs2.get g2,eX,hlenP,h0]
  have bdS:∀(x:Int→Int) (l':List Int),(∀p, -(4000000+100000000*(i:Int))≤x p∧x p≤4000000+100000000*(i:Int))→(l'.length:Int)≤12→ -(12*(4000000+100000000*(i:Int)))≤Zg x l'∧Zg x l'≤12*(4000000+100000000*(i:Int)):=fun x l' h1 h2=>sum_bd h1 ycc h2
  refine Zi ps.length (fun j s=>∃tm,s=⟨tm,h2,[]⟩∧tm.E 0=.ptr d 0∧tm.E 3=.ptr h.next 0∧tm.E 4=.ptr (h.next+1) 0∧tm.E 6=.fn 94 [] [.ptr h.next 0]∧tm.E 7=.ptr h'.next 0∧tm.E 8=.ii (i:Int)∧tm.E 9=X∧
    tm.E 10=.ii (Zg (lo1 e) (ps.take j))∧tm.E 11=.ii (Zg (hi1 e) (ps.take j))∧tm.E 23=.ii (m.lots.length:Int)∧tm.E 24=.ii (i:Int)∧tm.E 46=X∧tm.E 47=.ii (ps.length:Int)∧tm.E 48=.ii (j:Int))
   ?_ ?_ (i:=0) (Nat.zero_le _) ⟨_,rfl,ycr,ycd,ycf,ycs,ycq,ycb,ycb,ycb,ycb,ycw,ycD,ycb,ycb,ycb⟩<;>clear t0 t3 t4 t6 t7 t23 t24 tm
  ·rintro j s hj ⟨tm,rfl,t0,t3,t4,t6,t7,t8,t9,t10,t11,t23,t24,t46,t47,t48⟩
   have hj':(j:Int)<(ps.length:Int):=by omega
   obtain⟨bb,o,cc,cs,eb,hcs,hq,hgg,hn,hn0⟩:=hap.at hj
   obtain⟨p0,p1,pf⟩:=hpsm _ (List.getElem_mem hj)
   obtain⟨p,ep⟩:=Int.eq_ofNat_of_zero_le p0
   have hp12:p<12:=by omega
   obtain⟨m1,m2,m3⟩:=Xx e hp12
   have v1:=bdS (lo1 e) (ps.take j) (fun p=>by have:=hbd p;simp only[lo1];omega) (by simp only[List.length_take];omega)
   have v2:=bdS (hi1 e) (ps.take j) (fun p=>by have:=hbd p;simp only[hi1];omega) (by simp only[List.length_take];omega)
   have hbp:=hbd (p:Int)
   have e1:=Yu (lo1 e) hj
   have e2:=Yu (hi1 e) hj
   rw[ep] at e1 e2
   simp only[lo1,hi1] at e1 e2 v1 v2
   simp(disch:=omega)only[go_sem,t0,t3,t4,t6,t7,t8,t9,t10,t11,t23,t24,t46,t47,t48,hj',hq (Zb j),hcs,hn0 ycc,encI,ep,ZH (Zb p) hp12,Za gb2,m1,m2,ZD,Ze,lo1,hi1]
   exact⟨_,rfl,ycr,ycd,ycf,ycs,ycq,(by simp[Zn,Zd,t8]<;>rfl),ycj,by rw[e1];exact ycb,by rw[e2];exact ycb,ycw,ycD,(by simp[Zn,Zd,t46]<;>rfl),(by simp[Zn,Zd,t47]<;>rfl),ycb⟩
  ·rintro s ⟨tm,rfl,t0,t3,t4,t6,t7,t8,t9,t10,t11,t23,t24,t46,t47,t48⟩
   rw[List.take_length] at t10 t11
   have v1:=bdS (lo1 e) ps (fun p=>by have:=hbd p;simp only[lo1];omega) ycc
   have v2:=bdS (hi1 e) ps (fun p=>by have:=hbd p;simp only[hi1];omega) ycc
   obtain⟨slo,eslo⟩:∃x,Zg (lo1 e) ps=x:=⟨_,rfl⟩
   obtain⟨shi,eshi⟩:∃x,Zg (hi1 e) ps=x:=⟨_,rfl⟩
   rw[eslo] at t10 v1
   rw[eshi] at t11 v2
   have hsome:ZR (parts m) c e (i:Int)=some (WF c (i:Int) slo shi ps (narrow e (i:Int) slo shi)):=by
    unfold ZR
    rw[if_neg hc,eps,if_neg hps,eslo,eshi]
   rw[hsome] at hpass
   have hfr':=hfr.step F ycc hsome
   have hbd':=lotStep_bd g (K:=4000000) ycc ycc hi.bd hbd (hfr.at F) ycc hsome
   have hcf:∀p∈ps,e p=c p:=fun p hp=>hfr.at F p (by rw[eps];exact hp)
   simp(disch:=omega)only[go_sem,t0,t3,t4,t6,t7,t8,t9,t10,t11,t23,t24,t46,t47,t48,Int.lt_irrefl]
   refine narrow_ev hs2.wf gb2 hi12 slo shi _ fun h3 gb3 k3 w3=>?_
   have hs3:h.Sub h3:=k3.sub hs2 hw (fun c hc=>by omega) w3
   have gz3:=k3.2 _ _ gz2 ycc
   have gf3:=k3.2 _ _ gf2 ycc
   have l3:=k3.1
   have hx2:=hap.elems
   simp(disch:=omega)only[go_sem,t0,t3,t4,t6,t7,t8,t9,t10,t11,t23,t24,t46,t47,t48,hlenP]
   refine Zi ps.length (fun j s=>∃tm h4 e4,s=⟨tm,h4,[]⟩∧h.Sub h4∧h'.next<h4.next∧h4.get h.next=some (.bk (Zt e4))∧h4.get (h.next+1)=some (.bk (Zt Zw))∧h4.get h'.next=some (.bk (Zt c))∧
     WF c (i:Int) slo shi ps (narrow e (i:Int) slo shi)=WF c (i:Int) slo shi (ps.drop j) e4∧e4 (i:Int)=narrow e (i:Int) slo shi (i:Int)∧
     tm.E 0=.ptr d 0∧tm.E 3=.ptr h.next 0∧tm.E 4=.ptr (h.next+1) 0∧tm.E 6=.fn 94 [] [.ptr h.next 0]∧tm.E 7=.ptr h'.next 0∧tm.E 8=.ii (i:Int)∧
     tm.E 10=.ii slo∧tm.E 11=.ii shi∧tm.E 23=.ii (m.lots.length:Int)∧tm.E 24=.ii (i:Int)∧tm.E 70=X∧tm.E 71=.ii (ps.length:Int)∧tm.E 72=.ii (j:Int))
    ?_ ?_ (i:=0) (Nat.zero_le _) ⟨_,_,_,rfl,hs3,by omega,gb3,gz3,gf3,rfl,rfl,ycr,ycd,ycf,ycs,ycq,(by simp[Zn,Zd,t8]<;>rfl),ycp,yci,ycw,ycD,ycb,ycb,ycb⟩<;>clear t0 t3 t4 t6 t7 t8 t9 t10 t11 t23 t24 t46 t47 t48 tm
   ·rintro j s hj ⟨tm,h4,e4,rfl,hs4,lt4,gb4,gz4,gf4,hdn,hei,t0,t3,t4,t6,t7,t8,t10,t11,t23,t24,t70,t71,t72⟩
    have hj':(j:Int)<(ps.length:Int):=by omega
    have hap4:=(ap (i:Int)).mono hs4
    rw[eX,eps] at hap4
    obtain⟨bb,o,cc,cs,eb,hcs,hq,hgg,hn,hn0⟩:=hap4.at hj
    obtain⟨p0,p1,pf⟩:=hpsm _ (List.getElem_mem hj)
    have hlt:=F.lt _ p0 p1
    obtain⟨p,ep⟩:=Int.eq_ofNat_of_zero_le p0
    have hp12:p<12:=by omega
    obtain⟨m1,m2,m3⟩:=Xx c hp12
    obtain⟨u1,u2,u3⟩:=Xx e4 hi12
    rw[downs_drop hj,ep] at hdn
    have hcp:=hi (p:Int)
    have b4: -60000000000≤(e4 (i:Int)).1∧(e4 (i:Int)).1≤60000000000∧ -60000000000≤(e4 (i:Int)).2∧(e4 (i:Int)).2≤60000000000:=by
     rw[hei,YW];simp only;omega
    simp(disch:=omega)only[go_sem,t0,t3,t4,t6,t7,t8,t10,t11,t23,t24,t70,t71,t72,hj',hq (Zb j),hcs,hn0 ycc,encI,ep,ZH (Zb p) hp12,ZH (Zb i) hi12,Za gb4,Za gf4,m1,m2,u1,u2,ZD]
    refine narrow_ev hs4.wf gb4 hp12 _ _ _ fun h5 gb5 k5 w5=>?_
    have hs5:h.Sub h5:=k5.sub hs4 hw (fun c hc=>by omega) w5
    have gz5:=k5.2 _ _ gz4 ycc
    have gf5:=k5.2 _ _ gf4 ycc
    have l5:=k5.1
    simp(disch:=omega)only[go_sem,t0,t3,t4,t6,t7,t8,t10,t11,t23,t24,t70,t71,t72,Ze,Za gb4,Za gf4,m1,m2,u1,u2]
    exact⟨_,_,_,rfl,hs5,by omega,gb5,gz5,gf5,hdn,by rw[XR _ _ _ ycc];exact hei,ycr,ycd,ycf,ycs,ycq,(by simp[Zn,Zd,t8]<;>rfl),ycp,yci,ycw,ycD,(by simp[Zn,Zd,t70]<;>rfl),ycC,ycb⟩
   ·rintro s ⟨tm,h4,e4,rfl,hs4,lt4,gb4,gz4,gf4,hdn,hei,t0,t3,t4,t6,t7,t8,t10,t11,t23,t24,t70,t71,t72⟩
    rw[List.drop_length] at hdn
    have hdn':WF c (i:Int) slo shi ps (narrow e (i:Int) slo shi)=e4:=hdn
    rw[hdn'] at hpass hfr' hbd'
    simp(disch:=omega)only[go_sem,t0,t3,t4,t6,t7,t8,t10,t11,t23,t24,t70,t71,t72,Int.lt_irrefl,Ze]
    exact⟨_,_,e4,rfl,hs4,lt4,gb4,gz4,gf4,hpass,hfr',hbd'.mono ycc,ycr,ycd,ycf,ycs,ycq,ycw,ycb⟩
 ·rintro s ⟨tm,h2,e,rfl,hs2,lt2,gb2,gz2,gf2,hpass,hfr,hbd,t0,t3,t4,t6,t7,t23,t24⟩
  rw[Nat.sub_self] at hpass
  have hpass':Xi (parts m) c m.lots.length 0 c=some e:=hpass
  obtain⟨hie,hoe⟩:=hi.pass g ho hpass'
  by_cases hec:intsB e=intsB c
  ·have hEq:e=c:=funext fun j=>by
    by_cases hj:0≤j∧j<m.lots.length
    ·exact(intsB_iff e c).1 hec j hj.1 ycc
    ·rw[hoe j hj,ho j hj]
   subst hEq
   simp(disch:=omega)only[go_sem,t0,t3,t4,t6,t7,t23,t24,Int.lt_irrefl,Za gb2,Za gf2,ld_B,q_feq_B,ngB,Yf,Ve,Y8 e Zw gz2]
   exact q (some e) _ (hs2.set ycc (by have:=hs2.next;omega) hw _) (hR _ (.done hpass'))
  ·simp(disch:=omega)only[go_sem,t0,t3,t4,t6,t7,t23,t24,Int.lt_irrefl,Za gb2,Za gf2,ld_B,q_feq_B,ngB,hec]
   have hne:∃j:Int,0≤j∧j<m.lots.length∧e j≠c j:=by
    by_cases hall:∃j:Int,0≤j∧j<m.lots.length∧e j≠c j
    ·exact hall
    ·exfalso
     refine hec ((intsB_iff e c).2 fun j j0 j1=>?_)
     by_cases hj:j<m.lots.length
     ·by_cases he:e j=c j
      ·exact he
      ·exact absurd ⟨j,j0,hj,he⟩ hall
     ·rw[hoe j ycc,ho j ycc]
   obtain⟨j,j0,j1,hj⟩:=hne
   have r1:=room_lt (VG _ _ hpass') m.lots.length j j0 j1 hj
   have r2:=room_nonneg (b:=c) m.lots.length fun i i0 i1=>passF_start _ _ _ _ hpass' i i0 ycc
   exact⟨(Silk.room m.lots.length e+1).toNat,by omega,_,_,e,rfl,hs2,by omega,gb2,gz2,hie,hoe,fun r hr=>hR r (.more hpass' hr),Nat.le_refl _,ycr,ycd,ycf,ycs⟩
end Tryz
end Go.Ab
namespace Go.Ab
theorem ZK.putAt {h0 h:H}{R:V}{sz:Nat}{rows:List (List V)}(o:ZK h0 h R sz rows)(hw0:h0.wf){k:Nat}{row:List V}(hk:rows[k]? =some row){j:Nat}{pre post:List V}{old v:V}(hrow:row=pre++old::post)(hj:pre.length=j)(hv:v.one=true):
  ∃b h',Zs R b∧h.put b (k*sz+j) [v]=some h'∧ZK h0 h' R sz (rows.set k (pre++v::post))∧Zq (fun c=>c=b) h h'∧h'.next=h.next∧(∀{u:V},nat? u=some k→YI sz R u=some (.ptr b (k*sz)))∧∃cs,h.cells b=some cs∧nth (k*sz+j) cs=some old:=by
 obtain⟨s0,hsz,o⟩:=o
 have hkl:k<rows.length:=by
  rcases Nat.lt_or_ge k rows.length with q|q
  ·exact q
  ·rw[List.getElem?_eq_none q] at hk;cases hk
 have hrl:row.length=sz:=hsz _ (List.mem_of_getElem? hk)
 have hal:(pre++v::post).length=sz:=by rw[←hrl,hrow];simp
 have hall:∀r∈rows.set k (pre++v::post),r.length=sz:=fun r hr=>by
  rcases List.mem_or_eq_of_mem_set hr with hr|hr
  ·exact hsz r hr
  ·rw[hr];exact hal
 have e0:rows=rows.take k++row::rows.drop (k+1):=by
  have h2:=(List.take_append_drop k rows).symm
  rw[List.drop_eq_getElem_cons hkl] at h2
  rw[List.getElem?_eq_getElem hkl] at hk
  cases hk;exact h2
 have e1:rows.set k (pre++v::post)=rows.take k++(pre++v::post)::rows.drop (k+1):=by rw[List.set_eq_take_append_cons_drop,if_pos hkl]
 have hl:(rows.take k).flatten.length=k*sz:=by
  rw[Zp (sz:=sz) (rows:=rows.take k) fun r hr=>hsz r (List.mem_of_mem_take hr),List.length_take,Nat.min_eq_left ycc]
 have f0:rows.flatten=((rows.take k).flatten++pre)++[old]++(post++(rows.drop (k+1)).flatten):=by
  have:=congrArg List.flatten e0
  rw[List.flatten_append,List.flatten_cons,hrow] at this
  simpa using this
 have f1:(rows.set k (pre++v::post)).flatten=((rows.take k).flatten++pre)++[v]++(post++(rows.drop (k+1)).flatten):=by
  have:=congrArg List.flatten e1
  rw[List.flatten_append,List.flatten_cons] at this
  simpa using this
 have hpl:((rows.take k).flatten++pre).length=k*sz+j:=by rw[List.length_append,hl,hj]
 have hput:∀rest:List V,Yl (k*sz+j) [v] (rows.flatten++rest)=some ((rows.set k (pre++v::post)).flatten++rest):=fun rest=>by
  have:=putN_app (pre:=(rows.take k).flatten++pre) (new:=[v]) (old:=[old]) (rest:=post++(rows.drop (k+1)).flatten++rest) rfl
  rw[hpl] at this
  rw[f0,f1]
  simpa using this
 have hnth:∀rest:List V,nth (k*sz+j) (rows.flatten++rest)=some old:=fun rest=>by
  rw[nth_eq,f0,List.append_assoc,List.append_assoc,←hpl,List.getElem?_append_right (Nat.le_refl _),Nat.sub_self]
  rfl
 have hone:Z5 [v]=true:=by rw[Xr,hv];rfl
 have hls:(rows.set k (pre++v::post)).length=rows.length:=List.length_set ..
 rcases o with⟨rfl,e⟩|⟨b,rfl,l1,l2,hb⟩|⟨b,c,rest,rfl,l1,l2,hb,hc,hle⟩
 ·rw[e] at hkl;exact absurd hkl (Nat.not_lt_zero _)
 ·have hp:=hput []
  rw[List.append_nil,List.append_nil] at hp
  refine⟨b,_,⟨_,_,_,rfl⟩,H.put_gr hone hb hp,⟨s0.set l1 l2 hw0 _,hall,.inr (.inl ⟨b,by rw[hls],l1,by rw[H.next_set];exact l2,get_set_same rfl⟩)⟩,Zq.set h b _,H.next_set _ _ _,fun hu=>by rw[Zz hu hkl];simp,_,Za hb,by have:=hnth [];rwa[List.append_nil] at this⟩
 ·refine⟨b,_,⟨_,_,_,rfl⟩,H.put_rw hone hb (hput rest),⟨s0.set l1 l2 hw0 _,hall,.inr (.inr ⟨b,c,rest,by rw[hls],l1,by rw[H.next_set];exact l2,get_set_same rfl,by rw[hls];exact hc,by rw[hls];exact hle⟩)⟩,Zq.set h b _,H.next_set _ _ _,fun hu=>by rw[Zz hu hkl];simp,_,Za hb,hnth rest⟩
end Go.Ab
