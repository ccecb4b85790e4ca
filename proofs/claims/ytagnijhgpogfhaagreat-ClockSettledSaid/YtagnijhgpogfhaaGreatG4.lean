/- The law ClockSettled. The cases of the clocks are just all truths (plain). The least and the greatest differences over all cases (plain). What the law itself says a clock shows; whether a number is inside. Numbers that are wound off bytes: the contracts of Spool. A truth that is wound off numbers: Made. Slices that are made side by side. Made: the slices' invariants; an attic with its truth (plain). Made. Distances only sink (plain); wages. Truths that fit, as the code asks for them (plain). What is known more of an attic, and truths (plain). Lists without neighbours that are the same; to what a clock can have been set, what it gains, what it shows (plain). Contracts: fits, as the law has it; Fits. Equal, Eq, Dup of clocks, readings and gaps (printed by a program of ours). great, Own, same: attics as the law looks at them. theirs: an attic of the reference. The reference's Check of an attic: its parts. The reference's Check of an attic: the round over its clocks. Own slices of an attic; copied, Read, Know. copied, checked, Read, Know. Contracts of the generic functions on integers. Contract: Fits. Contract: Some. Contract: a truth near another one. Contract: slices.Compact on integers, with what it leaves. Contracts: the sort of integers; numbers, settled. Contracts: Sets, Gains, Shows. Contract: Shows. What is told of times, and one clock more that is right (plain). More is known, and true: what is told is no wider (plain). A clock of which more is known, a reading more: what is possible then (plain). -/
import Derived.Test.YtagnijhgpogfhaaGreatG2
import Derived.Test.YtagnijhgpogfhaaGreatAc7
set_option linter.unusedSimpArgs false
set_option linter.unusedVariables false
namespace Go.Ab.Tryz
open Go.Proofs
theorem moreL_sound {a:At}(r:Right a){cnt:Nat→Bool}:∀{n:Nat} {runs:Runs} {L:List Int} {t:Runs × List Int},runs.length+n=a.cks.length→In5 240 L→Tri L→t∈moreL a cnt n runs L→
  Tri t.2∧∃suf:Runs,t.1=runs++suf∧suf.length=n∧(∀(j:Nat) s,suf[j]? =some s→RunOf a (runs.length+j) s)∧∀y,Sol y t.2↔Sol y L∧∀(j:Nat) s,suf[j]? =some s→RdOk a cnt ((runs.length+j:Nat):Int) s y
 |0,runs,L,t,hl,hL,tL,ht=>by
  rw[moreL,List.mem_singleton] at ht;subst ht
  exact⟨tL,[],by simp,rfl,fun j s h=>by simp at h,fun y=>⟨fun h=>⟨h,fun j s h=>by simp at h⟩,fun h=>h.1⟩⟩
 |n+1,runs,L,t,hl,hL,tL,ht=>by
  have hlt:runs.length<a.cks.length:=by omega
  have hck:a.cks[runs.length]? =some a.cks[runs.length]:=List.getElem?_eq_getElem hlt
  obtain⟨c,hc⟩:∃c,a.cks[runs.length]=c:=⟨_,rfl⟩
  rw[hc] at hck
  unfold moreL at ht
  rw[hck] at ht
  simp only[List.mem_flatMap,List.mem_range] at ht
  obtain⟨u,hu,v,hv,ht⟩:=ht
  have n1:(c.ns:Int)=c.sh-c.sl+1:=by unfold Ck.ns at hu⊢;omega
  have n2:(c.ng:Int)=c.gh-c.gl+1:=by unfold Ck.ng at hv⊢;omega
  split at ht
  ·rename_i hk
   obtain⟨k1,k2,k3⟩:=(readL_spec r hL).1 hk
   obtain⟨i1,suf,i2,i3,i4,i5⟩:=moreL_sound r (by rw[List.length_append,List.length_singleton];omega) k2 k1 ht
   rw[List.length_append,List.length_singleton] at i4 i5
   have ix:∀j,runs.length+1+j=runs.length+(j+1):=fun j=>by omega
   refine⟨i1,(c.sl+(u:Int),c.gl+(v:Int))::suf,by rw[i2,List.append_assoc];rfl,by rw[List.length_cons,i3],fun j s hs=>?_,fun y=>?_⟩
   ·cases j with
    |zero=>cases hs;exact RunOf.mk' hck (by omega) (by omega) (by omega) (by omega)
    |succ j=>rw[←ix];exact i4 j s hs
   ·rw[i5 y,k3 y]
    constructor
    ·rintro⟨⟨h1,h2⟩,h3⟩
     refine⟨h1,fun j s hs=>?_⟩
     cases j with
     |zero=>cases hs;exact h2
     |succ j=>rw[←ix];exact h3 j s hs
    ·rintro⟨h1,h2⟩
     exact⟨⟨h1,h2 0 _ rfl⟩,fun j s hs=>by rw[ix];exact h2 (j+1) s hs⟩
  ·cases ht
theorem moreL_full {a:At}(r:Right a){cnt:Nat→Bool}{y:Nat→Int}:∀{n:Nat} {runs suf:Runs} {L:List Int},runs.length+n=a.cks.length→In5 240 L→suf.length=n→(∀(j:Nat) s,suf[j]? =some s→RunOf a (runs.length+j) s)→Sol y L→
  (∀(j:Nat) s,suf[j]? =some s→RdOk a cnt ((runs.length+j:Nat):Int) s y)→∃L',(runs++suf,L')∈moreL a cnt n runs L
 |0,runs,suf,L,hl,hL,hs,_,_,_=>by
  rw[List.length_eq_zero_iff.1 hs,List.append_nil]
  exact⟨L,by rw[moreL];exact List.mem_singleton.2 rfl⟩
 |n+1,runs,[],L,hl,hL,hs,_,_,_=>by simp at hs
 |n+1,runs,s::suf,L,hl,hL,hs,hr,hy,hd=>by
  obtain⟨c,hck,h1,h2,h3,h4⟩:=hr 0 s rfl
  have hd0:=hd 0 s rfl
  rw[Nat.add_zero] at hck hd0
  have n1:(c.ns:Int)=c.sh-c.sl+1:=by unfold Ck.ns;omega
  have n2:(c.ng:Int)=c.gh-c.gl+1:=by unfold Ck.ng;omega
  have es:s=(c.sl+((s.1-c.sl).toNat:Int),c.gl+((s.2-c.gl).toNat:Int)):=by
   obtain⟨s1,s2⟩:=s
   simp only at h1 h2 h3 h4⊢
   rw[Int.toNat_of_nonneg (by omega),Int.toNat_of_nonneg (by omega)]
   congr 1<;>omega
  have hsp:=readL_spec (cnt:=cnt) (k:=(runs.length:Int)) (x:=s) r hL
  have hk:(readL a cnt runs.length s L).2=true:=by
   cases hh:(readL a cnt runs.length s L).2 with
   |true=>rfl
   |false=>exact absurd hd0 (hsp.2 hh y hy)
  obtain⟨k1,k2,k3⟩:=hsp.1 hk
  have ix:∀j,runs.length+1+j=runs.length+(j+1):=fun j=>by omega
  obtain⟨L',hL'⟩:=moreL_full r (runs:=runs++[s]) (suf:=suf) (L:=(readL a cnt runs.length s L).1) (n:=n) (by rw[List.length_append,List.length_singleton];omega) k2 (by simpa using hs)
   (fun j x hx=>by rw[List.length_append,List.length_singleton,ix];exact hr (j+1) x hx) ((k3 y).2 ⟨hy,hd0⟩) (fun j x hx=>by rw[List.length_append,List.length_singleton,ix];exact hd (j+1) x hx)
  refine⟨L',?_⟩
  rw[List.append_assoc] at hL'
  unfold moreL
  rw[hck]
  simp only[List.mem_flatMap,List.mem_range]
  refine⟨(s.1-c.sl).toNat,by omega,(s.2-c.gl).toNat,by omega,?_⟩
  rw[←es,if_pos hk]
  exact hL'
structure Tru (a:At)(cnt:Nat→Bool)(runs:Runs)(y:Nat→Int):Prop where
 len:runs.length=a.cks.length
 run:∀(k:Nat) s,runs[k]? =some s→RunOf a k s
 beg:y 4=0
 mins:∀e,e<4→0≤y e∧y e≤a.mins
 gaps:∀g∈a.gps,g.lo≤y g.to.toNat-y g.fr.toNat∧y g.to.toNat-y g.fr.toNat≤g.hi
 rds:∀(j:Nat) (r:Rd),a.rds[j]? =some r→cnt j=true→∀s,runs[r.ck.toNat]? =some s→shw s.1 s.2 (y r.ev.toNat)=r.sh
theorem Tru.ok {a:At}(r:Right a){cnt:Nat→Bool}{runs:Runs}{y:Nat→Int}(hl:runs.length=a.cks.length)(hr:∀(k:Nat) s,runs[k]? =some s→RunOf a k s)(hy:y 4=0)(hm:∀e,e<4→0≤y e∧y e≤a.mins):
  (∀(j:Nat) (rd:Rd),a.rds[j]? =some rd→cnt j=true→∀s,runs[rd.ck.toNat]? =some s→shw s.1 s.2 (y rd.ev.toNat)=rd.sh)↔∀(k:Nat) s,runs[k]? =some s→RdOk a cnt (k:Int) s y:=by
 have key:∀(j:Nat) (rd:Rd),a.rds[j]? =some rd→∀s,runs[rd.ck.toNat]? =some s→(shw s.1 s.2 (y rd.ev.toNat)=rd.sh↔(whn s.1 s.2 rd.sh (a.mins.toNat+1)).1≤y rd.ev.toNat-y 4∧y rd.ev.toNat-y 4≤(whn s.1 s.2 rd.sh (a.mins.toNat+1)).2):=fun j rd hrd s hs=>by
  obtain⟨yk,ye,ek,ee,hyk,hye,_⟩:=r.rd (List.mem_of_getElem? hrd)
  have h1:=hm rd.ev.toNat (by omega)
  obtain⟨_,_,_,_⟩:=(hr _ s hs).run r
  have h3:=r.mins
  rw[hy,show y rd.ev.toNat-0=y rd.ev.toNat by omega]
  exact whn_iff (by omega) h1.1 (by omega)
 constructor
 ·intro h k s hs j rd hrd hk hc
  have hs':runs[rd.ck.toNat]? =some s:=by rw[hk,Int.toNat_natCast];exact hs
  exact(key j rd hrd s hs').1 (h j rd hrd hc s hs')
 ·intro h j rd hrd hc s hs
  obtain⟨yk,ye,ek,ee,hyk,hye,_⟩:=r.rd (List.mem_of_getElem? hrd)
  refine(key j rd hrd s hs).2 (h rd.ck.toNat s hs j rd hrd ?_ hc)
  rw[ek,Int.toNat_natCast]
theorem cases_sound {a:At}(r:Right a){cnt:Nat→Bool}{t:Runs × List Int}(ht:t∈casesL a cnt):Tri t.2∧t.1.length=a.cks.length∧(∀(k:Nat) s,t.1[k]? =some s→RunOf a k s)∧∀y,y 4=0→(Sol y t.2↔Tru a cnt t.1 y):=by
 unfold casesL at ht
 split at ht
 ·rename_i hc
  obtain⟨c1,c2,_,c4⟩:=(clos_spec (by decide) (by decide) (freeL_in r)).1 hc
  obtain⟨h1,suf,h2,h3,h4,h5⟩:=moreL_sound r (by simp) c2 c1 ht
  rw[List.nil_append] at h2
  subst h2
  simp only[List.length_nil,Nat.zero_add] at h4 h5
  refine⟨h1,h3,h4,fun y hy=>?_⟩
  rw[h5 y,←c4 y]
  constructor
  ·rintro⟨q1,q2⟩
   have q3:=(Sol_free r hy).1 q1
   exact⟨h3,h4,hy,q3.1,q3.2,(Tru.ok r h3 h4 hy q3.1).2 q2⟩
  ·intro q
   exact⟨(Sol_free r hy).2 ⟨q.mins,q.gaps⟩,(Tru.ok r h3 h4 hy q.mins).1 q.rds⟩
 ·cases ht
theorem cases_full {a:At}(r:Right a){cnt:Nat→Bool}{runs:Runs}{y:Nat→Int}(h:Tru a cnt runs y):∃L,(runs,L)∈casesL a cnt:=by
 have hf:=(Sol_free r h.beg).2 ⟨h.mins,h.gaps⟩
 have hcs:=clos_spec (by decide) (by decide) (freeL_in r)
 have hc:(clos (freeL a)).2=true:=by
  cases hh:(clos (freeL a)).2 with
  |true=>rfl
  |false=>exact absurd hf (hcs.2 hh y)
 obtain⟨c1,c2,_,c4⟩:=hcs.1 hc
 have:=moreL_full r (cnt:=cnt) (y:=y) (n:=a.cks.length) (runs:=[]) (suf:=runs) (by simp) c2 h.len (fun j s hs=>by simpa using h.run j s hs) ((c4 y).1 hf) (fun j s hs=>by simpa using(Tru.ok r h.len h.run h.beg h.mins).1 h.rds j s hs)
 unfold casesL
 rw[if_pos hc]
 simpa using this
end Go.Ab.Tryz
namespace Go.Ab.Tryz
open Go.Proofs
end Go.Ab.Tryz
namespace Go.Ab
theorem shw_succ (set gain:Int)(i:Nat):shw set gain ((i+1:Nat):Int)=shw set gain i+1+((i:Int)*gain%60+gain)/60∧((i+1:Nat):Int)*gain%60=(((i:Int)*gain%60+gain))%60:=by
 have e:((i+1:Nat):Int)*gain=(i:Int)*gain+gain:=by rw[Int.natCast_add,Int.add_mul];simp
 unfold shw
 rw[e]
 constructor<;>omega
end Go.Ab
namespace Go.Ab.Tryz
open Go.Proofs
set_option maxHeartbeats 1000000 in
theorem lshows_ev {h:H}(hw:h.wf){set gain m:Int}(r:RunIn set gain)(h0:0≤m)(h1:m≤240)(Q:V→H→Prop)(q:Q (.int .i64 (shw set gain m)) h):
  Ev fnG fastA (.fn 61 [] []) [.int .i64 set,.int .i64 gain,.int .i64 m] h Q:=by
 have a0:=r.s0;have a1:=r.s1;have a2:=r.g0;have a3:=r.g1
 obtain⟨n,rfl⟩:=Int.eq_ofNat_of_zero_le h0
 refine Ev_body (fd:=c61) rfl rfl rfl ?_
 simp -implicitDefEqProofs(maxSteps:=999999)(disch:=first|with_reducible rfl|omega|(simp only[nA,nS,nD]<;>omega)|fail)only[c61,go_sem]
 refine W_count n (fun i s=>∃tm,s=⟨tm,h,[]⟩∧(Opd.t 1).ev tm=.int .i64 gain∧(Opd.t 7).ev tm=.int .i64 (shw set gain i)∧(Opd.t 8).ev tm=.int .i64 ((i:Int)*gain%60)∧(Opd.t 10).ev tm=.int .i64 (n:Int)∧(Opd.t 11).ev tm=.int .i64 (i:Int))
  ?_ ?_ (i:=0) (Nat.zero_le _) ⟨_,rfl,(by simp[ev_c,ev_put]<;>rfl),(by rw[show shw set gain ((0:Nat):Int)=set by simp[shw]];exact(by simp[ev_c,ev_put]<;>rfl)),(by rw[show((0:Nat):Int)*gain%60=0 by simp];exact(by simp[ev_c,ev_put]<;>rfl)),(by simp[ev_c,ev_put]<;>rfl),(by simp[ev_c,ev_put]<;>rfl)⟩
 ·rintro i s hi ⟨tm,rfl,e1,e7,e8,e10,e11⟩
  have hi':(i:Int)<(n:Int):=by omega
  obtain⟨k1,k2⟩:=shw_succ set gain i
  obtain⟨R,hR⟩:∃R,(i:Int)*gain%60=R:=⟨_,rfl⟩
  have hR0:0≤R∧R<60:=by omega
  obtain⟨S,hS⟩:∃S,shw set gain i=S:=⟨_,rfl⟩
  have hS0:=shw_bd (m:=i) r (by omega) (by omega)
  rw[hS] at hS0 e7 k1
  rw[hR] at e8 k1 k2
  have w1:wr .i64 (S+1)=S+1:=wr_in (by omega) (by omega)
  have w2:wr .i64 (R+gain)=R+gain:=wr_in (by omega) (by omega)
  simp -implicitDefEqProofs(maxSteps:=999999)(disch:=first|with_reducible rfl|omega|(simp only[nA,nS,nD]<;>omega)|fail)only[go_sem,e1,e7,e8,e10,e11,hi',w1,w2]
  refine W_count (-((R+gain)/60)).toNat (fun j s=>∃tm,s=⟨tm,h,[]⟩∧(Opd.t 1).ev tm=.int .i64 gain∧(Opd.t 7).ev tm=.int .i64 (S+1-j)∧(Opd.t 8).ev tm=.int .i64 (R+gain+60*j)∧(Opd.t 10).ev tm=.int .i64 (n:Int)∧(Opd.t 11).ev tm=.int .i64 (i:Int))
   ?_ ?_ (i:=0) (Nat.zero_le _) ⟨_,rfl,(by simp[ev_c,ev_put,e1]<;>rfl),(by rw[show S+1-((0:Nat):Int)=S+1 by simp];exact(by simp[ev_c,ev_put]<;>rfl)),(by rw[show R+gain+60*((0:Nat):Int)=R+gain by simp];exact(by simp[ev_c,ev_put]<;>rfl)),(by simp[ev_c,ev_put,e10]<;>rfl),(by simp[ev_c,ev_put,e11]<;>rfl)⟩
  ·rintro j s hj ⟨tm,rfl,e1,e7,e8,e10,e11⟩
   have hlt:R+gain+60*(j:Int)<0:=by omega
   have w3:wr .i64 (S+1-j-1)=S+1-((j+1:Nat):Int):=by rw[wr_in (by omega) (by omega)];omega
   have w4:wr .i64 (R+gain+60*(j:Int)+60)=R+gain+60*((j+1:Nat):Int):=by rw[wr_in (by omega) (by omega)];omega
   simp -implicitDefEqProofs(maxSteps:=999999)(disch:=first|with_reducible rfl|omega|(simp only[nA,nS,nD]<;>omega)|fail)only[go_sem,e1,e7,e8,e10,e11,hlt,w3,w4]
   exact⟨_,rfl,(by simp[ev_c,ev_put,e1]<;>rfl),(by simp[ev_c,ev_put]<;>rfl),(by simp[ev_c,ev_put]<;>rfl),(by simp[ev_c,ev_put,e10]<;>rfl),(by simp[ev_c,ev_put,e11]<;>rfl)⟩
  ·rintro s ⟨tm,rfl,e1,e7,e8,e10,e11⟩
   obtain⟨j,hj⟩:∃j:Nat,(-((R+gain)/60)).toNat=j:=⟨_,rfl⟩
   rw[hj] at e7 e8
   have hlt:¬R+gain+60*(j:Int)<0:=by omega
   simp -implicitDefEqProofs(maxSteps:=999999)(disch:=first|with_reducible rfl|omega|(simp only[nA,nS,nD]<;>omega)|fail)only[go_sem,e1,e7,e8,e10,e11,hlt]
   refine W_count ((R+gain)/60).toNat (fun q s=>∃tm,s=⟨tm,h,[]⟩∧(Opd.t 1).ev tm=.int .i64 gain∧(Opd.t 7).ev tm=.int .i64 (S+1-j+q)∧(Opd.t 8).ev tm=.int .i64 (R+gain+60*j-60*q)∧(Opd.t 10).ev tm=.int .i64 (n:Int)∧(Opd.t 11).ev tm=.int .i64 (i:Int))
    ?_ ?_ (i:=0) (Nat.zero_le _) ⟨_,rfl,(by simp[ev_c,ev_put,e1]<;>rfl),(by rw[show S+1-(j:Int)+((0:Nat):Int)=S+1-j by simp];exact(by simp[ev_c,ev_put,e7]<;>rfl)),(by rw[show R+gain+60*(j:Int)-60*((0:Nat):Int)=R+gain+60*j by simp];exact(by simp[ev_c,ev_put,e8]<;>rfl)),(by simp[ev_c,ev_put,e10]<;>rfl),(by simp[ev_c,ev_put,e11]<;>rfl)⟩
   ·rintro q s hq ⟨tm,rfl,e1,e7,e8,e10,e11⟩
    have hgt:59<R+gain+60*(j:Int)-60*(q:Int):=by omega
    have w3:wr .i64 (S+1-(j:Int)+q+1)=S+1-(j:Int)+((q+1:Nat):Int):=by rw[wr_in (by omega) (by omega)];omega
    have w4:wr .i64 (R+gain+60*(j:Int)-60*q-60)=R+gain+60*(j:Int)-60*((q+1:Nat):Int):=by rw[wr_in (by omega) (by omega)];omega
    simp -implicitDefEqProofs(maxSteps:=999999)(disch:=first|with_reducible rfl|omega|(simp only[nA,nS,nD]<;>omega)|fail)only[go_sem,e1,e7,e8,e10,e11,hgt,w3,w4]
    exact⟨_,rfl,(by simp[ev_c,ev_put,e1]<;>rfl),(by simp[ev_c,ev_put]<;>rfl),(by simp[ev_c,ev_put]<;>rfl),(by simp[ev_c,ev_put,e10]<;>rfl),(by simp[ev_c,ev_put,e11]<;>rfl)⟩
   ·rintro s ⟨tm,rfl,e1,e7,e8,e10,e11⟩
    obtain⟨q,hq⟩:∃q:Nat,((R+gain)/60).toNat=q:=⟨_,rfl⟩
    rw[hq] at e7 e8
    have hgt:¬59<R+gain+60*(j:Int)-60*(q:Int):=by omega
    have x1:S+1-(j:Int)+q=shw set gain ((i+1:Nat):Int):=by rw[k1];omega
    have x2:R+gain+60*(j:Int)-60*q=((i+1:Nat):Int)*gain%60:=by rw[k2];omega
    rw[x1] at e7
    rw[x2] at e8 hgt
    simp -implicitDefEqProofs(maxSteps:=999999)(disch:=first|with_reducible rfl|omega|(simp only[nA,nS,nD]<;>omega)|fail)only[go_sem,e1,e7,e8,e10,e11,hgt,wr_succ]
    exact⟨_,rfl,(by simp[ev_c,ev_put,e1]<;>rfl),(by simp[ev_c,ev_put,e7]<;>rfl),(by simp[ev_c,ev_put,e8]<;>rfl),(by simp[ev_c,ev_put,e10]<;>rfl),(by simp[ev_c,ev_put]<;>rfl)⟩
 ·rintro s ⟨tm,rfl,e1,e7,e8,e10,e11⟩
  simp -implicitDefEqProofs(maxSteps:=999999)(disch:=first|with_reducible rfl|omega|(simp only[nA,nS,nD]<;>omega)|fail)only[go_sem,e1,e7,e8,e10,e11,Int.lt_irrefl]
  exact q
theorem inside_ev {h:H}(hw:h.wf)(n lo hi:Int)(Q:V→H→Prop)(q:∀h',h.Sub h'→Q (.bool (inB n lo hi)) h'):Ev fnG fastA (.fn 51 [] []) [.int .i64 n,.agg [.int .i64 lo,.int .i64 hi]] h Q:=by
 refine Ev_body (fd:=c51) rfl rfl rfl ?_
 have s:h.Sub (h.add (.cells .rw [.int .i64 lo,.int .i64 hi])):=(by repeat(first|assumption|exact H.Sub.refl (by assumption)|refine H.Sub.add ?_ _|refine H.Sub.set ?_ (by first|omega|(simp only[H.next_add,H.next_set,H.next_del]<;>omega)) (by first|omega|(simp only[H.next_add,H.next_set,H.next_del]<;>omega)) (by assumption) _))
 by_cases h1:lo≤n
 ·have e:inB n lo hi=decide (n≤hi):=by simp[inB,h1]
  rw[e] at q
  simp -implicitDefEqProofs(maxSteps:=999999)(disch:=first|with_reducible rfl|omega|(simp only[nA,nS,nD]<;>omega)|fail)only[c51,go_sem,h1]
  exact q _ s
 ·have e:inB n lo hi=false:=by simp[inB,h1]
  rw[e] at q
  simp -implicitDefEqProofs(maxSteps:=999999)(disch:=first|with_reducible rfl|omega|(simp only[nA,nS,nD]<;>omega)|fail)only[c51,go_sem,h1]
  exact q _ s
end Go.Ab.Tryz
namespace Go.Ab
theorem SlAt_lt {h:H}{x:V}{sz:Nat}{rows:List (List V)}(hw:h.wf)(a:SlAt h x sz rows)(hr:rows≠[]):∀b,blkOf x b→b<h.next:=by
 rintro b ⟨o',n',c',e⟩
 rcases a.2.2 with⟨rfl,_⟩|⟨b',o,c,cs,e1,e2,e3⟩
 ·cases e
 ·rw[e1] at e;cases e
  obtain⟨k,hk⟩:=H.cells_eq (e2.resolve_left hr)
  exact hw _ _ hk
theorem q_shr_3 (a:Int):q_sh .shr (.int .u64 a) (.int .u64 3)=some (.int .u64 (a.fdiv (2^(min 3 IntKind.u64.bits)))):=rfl
theorem q_shr_19 (a:Int):q_sh .shr (.int .u64 a) (.int .u64 19)=some (.int .u64 (a.fdiv (2^(min 19 IntKind.u64.bits)))):=rfl
def xorI (k:IntKind)(a b:Int):Int:=k.wrap (BitVec.ofInt k.bits a^^^BitVec.ofInt k.bits b).toNat
def andI (k:IntKind)(a b:Int):Int:=k.wrap (BitVec.ofInt k.bits a&&& BitVec.ofInt k.bits b).toNat
theorem q_ar_xor (k:IntKind)(a b:Int):q_ar .xor (.int k a) (.int k b)=some (.int k (xorI k a b)):=by simp[q_ar,arith,xorV,vi,xorI]
theorem q_ar_and (k:IntKind)(a b:Int):q_ar .and (.int k a) (.int k b)=some (.int k (andI k a b)):=by simp[q_ar,arith,andV,vi,andI]
theorem and_bd (a:Int):0≤andI .i64 a 65535∧andI .i64 a 65535≤65535:=by
 have h:(BitVec.ofInt IntKind.i64.bits a&&& BitVec.ofInt IntKind.i64.bits 65535).toNat≤65535:=by
  rw[BitVec.toNat_and]
  exact Nat.le_trans Nat.and_le_right (by decide)
 unfold andI
 rw[←wr_eq,wr_in (by omega) (by omega)]
 omega
namespace Tryz
def SpAt (h:H)(p:Nat)(x:V)(T:Int):Prop:=∃st,h.get p=some (.cells .rw [x,.int .i64 T,.int .u64 st])
theorem SpAt.mono {h h':H}{p:Nat}{x:V}{T:Int}(a:SpAt h p x T)(hs:h.Sub h'):SpAt h' p x T:=by
 obtain⟨st,a⟩:=a
 exact⟨st,hs.get a⟩
theorem SpAt.keep {h h':H}{p:Nat}{x:V}{T:Int}{S:Nat→Prop}(a:SpAt h p x T)(k:Keeps S h h')(n:¬S p):SpAt h' p x T:=by
 obtain⟨st,a⟩:=a
 exact⟨st,k.2 _ _ a n⟩
set_option maxHeartbeats 1000000 in
theorem turn_ev {h0 h:H}{p:Nat}{x:V}{bs:List Int}{T:Int}(hs:h0.Sub h)(hw0:h0.wf)(hx:SlAt h0 x 1 (bs.map encU8))(hp0:h0.next≤p)(hp:SpAt h p x T)(hT:0≤T∧T≤1000000000)(Q:V→H→Prop)
  (q:∀r h',0≤r→r≤65535→h0.Sub h'→SpAt h' p x (T+1)→Keeps (fun b=>b=p) h h'→h'.next=h.next→Q (.int .i64 r) h'):Ev fnG fastA (.fn 139 [] []) [.ptr p 0] h Q:=by
 obtain⟨st,hp⟩:=hp
 have hw:=hs.wf
 have hlp:=hw _ _ hp
 have hx1:=hx.one
 have hlen:=hx.lenE
 have hc:=cells_of hp
 refine Ev_body (fd:=c139) rfl rfl rfl ?_
 have fin:∀(st':Int) (r:Int),0≤r→r≤65535→Q (.int .i64 r) (h.set p (.cells .rw [x,.int .i64 (T+1),.int .u64 st'])):=fun st' r r0 r1=>
  q r _ r0 r1 (hs.set hp0 hlp hw0 _) ⟨st',get_set_same rfl⟩ (Keeps.set _ _ _) (H.next_set _ _ _)
 by_cases h1:0<(bs.length:Int)
 ·have hT0:0≤T.tmod (bs.length:Int):=Int.tmod_nonneg _ hT.1
  have hT1:T.tmod (bs.length:Int)<(bs.length:Int):=Int.tmod_lt_of_pos _ h1
  obtain⟨i,ei⟩:=Int.eq_ofNat_of_zero_le hT0
  have hi:i<bs.length:=by omega
  obtain⟨b2,o2,c2,cs2,e2,hcs2,hq2,hgg2,hn2,hn02⟩:=(hx.mono hs).at hi
  have v2:=hn02 (by omega)
  simp only[encU8] at v2
  have hbb:b2≠p:=by
   have:=SlAt_lt hw0 hx (by intro e;rw[List.map_eq_nil_iff] at e;rw[e] at hi;simp at hi) b2 ⟨_,_,_,e2⟩
   omega
  have hne:¬(bs.length:Int)=0:=by omega
  by_cases h2:(bs.length:Int)<T+1
  ·simp -implicitDefEqProofs(maxSteps:=999999)(disch:=first|with_reducible rfl|omega|(simp only[nA,nS,nD]<;>omega)|fail)only[c139,go_sem,hc,hlen,h1,q_ar_rem .i64 hne,ei,hq2 (nat_cst i),hcs2,v2,hp,wr_in,h2,hx1,q_shr_3,q_shr_19,q_ar_xor,q_ar_and]
   exact fin _ _ (and_bd _).1 (and_bd _).2
  ·simp -implicitDefEqProofs(maxSteps:=999999)(disch:=first|with_reducible rfl|omega|(simp only[nA,nS,nD]<;>omega)|fail)only[c139,go_sem,hc,hlen,h1,q_ar_rem .i64 hne,ei,hq2 (nat_cst i),hcs2,v2,hp,wr_in,h2,hx1,q_shr_3,q_shr_19,q_ar_xor,q_ar_and]
   exact fin _ _ (and_bd _).1 (and_bd _).2
 ·by_cases h2:(bs.length:Int)<T+1
  ·simp -implicitDefEqProofs(maxSteps:=999999)(disch:=first|with_reducible rfl|omega|(simp only[nA,nS,nD]<;>omega)|fail)only[c139,go_sem,hc,hlen,h1,hp,wr_in,h2,hx1,q_shr_3,q_shr_19,q_ar_xor,q_ar_and]
   exact fin _ _ (and_bd _).1 (and_bd _).2
  ·omega
theorem Upto_ev {h0 h:H}{p:Nat}{x:V}{bs:List Int}{T:Int}(hs:h0.Sub h)(hw0:h0.wf)(hx:SlAt h0 x 1 (bs.map encU8))(hp0:h0.next≤p)(hp:SpAt h p x T)(hT:0≤T∧T≤1000000000){n:Int}(hn: -1000000000≤n∧n≤1000000000)(Q:V→H→Prop)
  (q:∀r h',0≤r→r≤max 0 n→h0.Sub h'→SpAt h' p x (T+1)→Keeps (fun b=>b=p) h h'→h'.next=h.next→Q (.int .i64 r) h'):Ev fnG fastA (.fn 53 [] []) [.ptr p 0,.int .i64 n] h Q:=by
 refine Ev_body (fd:=c53) rfl rfl rfl ?_
 simp -implicitDefEqProofs(maxSteps:=999999)(disch:=first|with_reducible rfl|omega|(simp only[nA,nS,nD]<;>omega)|fail)only[c53,go_sem]
 refine turn_ev hs hw0 hx hp0 hp hT _ fun r h' r0 r1 s' p' k' n'=>?_
 have hm:¬max 1 (n+1)=0:=by omega
 have e0:0≤r.tmod (max 1 (n+1)):=Int.tmod_nonneg _ r0
 have e1:r.tmod (max 1 (n+1))<max 1 (n+1):=Int.tmod_lt_of_pos _ (by omega)
 simp -implicitDefEqProofs(maxSteps:=999999)(disch:=first|with_reducible rfl|omega|(simp only[nA,nS,nD]<;>omega)|fail)only[go_sem,wr_in,q_ar_rem .i64 hm]
 exact q _ _ e0 (by omega) s' p' k' n'
theorem From_ev {h0 h:H}{p:Nat}{x:V}{bs:List Int}{T:Int}(hs:h0.Sub h)(hw0:h0.wf)(hx:SlAt h0 x 1 (bs.map encU8))(hp0:h0.next≤p)(hp:SpAt h p x T)(hT:0≤T∧T≤1000000000){lo hi:Int}(hlo: -1000000≤lo∧lo≤1000000)(hhi: -1000000≤hi∧hi≤1000000)(Q:V→H→Prop)
  (q:∀r h',lo≤r→r≤max lo hi→h0.Sub h'→SpAt h' p x (T+1)→Keeps (fun b=>b=p) h h'→h'.next=h.next→Q (.int .i64 r) h'):Ev fnG fastA (.fn 70 [] []) [.ptr p 0,.int .i64 lo,.int .i64 hi] h Q:=by
 refine Ev_body (fd:=c70) rfl rfl rfl ?_
 simp -implicitDefEqProofs(maxSteps:=999999)(disch:=first|with_reducible rfl|omega|(simp only[nA,nS,nD]<;>omega)|fail)only[c70,go_sem,wr_in]
 refine Upto_ev hs hw0 hx hp0 hp hT (by omega) _ fun r h' r0 r1 s' p' k' n'=>?_
 simp -implicitDefEqProofs(maxSteps:=999999)(disch:=first|with_reducible rfl|omega|(simp only[nA,nS,nD]<;>omega)|fail)only[go_sem,wr_in]
 exact q _ _ (by omega) (by omega) s' p' k' n'
theorem Wound_ev {h:H}{x:V}{bs:List Int}(hw:h.wf)(hx:SlAt h x 1 (bs.map encU8))(Q:V→H→Prop)(q:∀h',h.Sub h'→SpAt h' h.next x 0→h'.next=h.next+1→Q (.ptr h.next 0) h'):Ev fnG fastA (.fn 15 [] []) [x] h Q:=by
 have hx1:=hx.one
 refine Ev_body (fd:=c15) rfl rfl rfl ?_
 simp -implicitDefEqProofs(maxSteps:=999999)(disch:=first|with_reducible rfl|omega|(simp only[nA,nS,nD]<;>omega)|fail)only[c15,go_sem,hx.lenE,hx1,cells_one hx1]
 exact q _ ((H.Sub.refl hw).add _) ⟨_,get_add_new rfl⟩ (H.next_add _ _)
end Tryz
end Go.Ab
namespace Go.Ab
theorem Keeps.new {S:Nat→Prop}{h h':H}(hw:h.wf)(k:Keeps (fun c=>S c∨h.next≤c) h h'):Keeps S h h':=⟨k.1,fun c y e n=>k.2 c y e fun hs=>hs.elim n fun hge=>by have:=hw c y e;omega⟩
structure Sl6 (h0 z:H)(n1:Nat)(v:Nat→V)(sz:Nat→Nat)(rows:Nat→List (List V)):Prop where
 o:∀i,i<6→OwnC h0 z (v i) (sz i) (rows i)
 lo:∀i,i<6→∀b,blkOf (v i) b→n1≤b
 dj:∀i j,i<6→j<6→i≠j→∀b,blkOf (v i) b→¬blkOf (v j) b
variable {h0 z z':H} {n1:Nat} {v:Nat→V} {sz:Nat→Nat} {rows:Nat→List (List V)}
theorem Sl6.keep (k:Sl6 h0 z n1 v sz rows){S:Nat→Prop}(kk:Keeps S z z')(s:h0.Sub z')(hS:∀b,S b→b<n1):Sl6 h0 z' n1 v sz rows:=
 ⟨fun i hi=>(k.o i hi).keep kk s fun b hb q=>by have:=k.lo i hi b hb;have:=hS b q;omega,k.lo,k.dj⟩
theorem Sl6.rw (k:Sl6 h0 z n1 v sz rows){rows':Nat→List (List V)}(e:∀i,i<6→rows i=rows' i):Sl6 h0 z n1 v sz rows':=⟨fun i hi=>by rw[←e i hi];exact k.o i hi,k.lo,k.dj⟩
theorem Sl6.mono (k:Sl6 h0 z n1 v sz rows)(s:z.Sub z'):Sl6 h0 z' n1 v sz rows:=⟨fun i hi=>(k.o i hi).mono s,k.lo,k.dj⟩
def updF {α:Type}(f:Nat→α)(i:Nat)(x:α)(j:Nat):α:=if j=i then x else f j
theorem updF_same {α:Type}(f:Nat→α)(i:Nat)(x:α):updF f i x i=x:=if_pos rfl
theorem updF_other {α:Type}(f:Nat→α){i j:Nat}(x:α)(h:j≠i):updF f i x j=f j:=if_neg h
theorem Sl6.app (k:Sl6 h0 z n1 v sz rows){i:Nat}(hi:i<6){w:V}{r:List V}(o:OwnC h0 z' w (sz i) (rows i++[r]))(n:∀b,blkOf w b→blkOf (v i) b∨z.next≤b)(hz:n1≤z.next)(kk:Keeps (blkOf (v i)) z z'):
  Sl6 h0 z' n1 (updF v i w) sz (updF rows i (rows i++[r])):=by
 refine⟨fun j hj=>?_,fun j hj b hb=>?_,fun j l hj hl hjl b hb=>?_⟩
 ·by_cases e:j=i
  ·subst e;rw[updF_same,updF_same];exact o
  ·rw[updF_other _ _ e,updF_other _ _ e]
   exact(k.o j hj).keep kk o.1 fun b hb=>k.dj j i hj hi e b hb
 ·by_cases e:j=i
  ·subst e;rw[updF_same] at hb
   exact(n b hb).elim (k.lo j hi b) fun q=>by omega
  ·rw[updF_other _ _ e] at hb;exact k.lo j hj b hb
 ·by_cases e:j=i
  ·subst e
   rw[updF_same] at hb;rw[updF_other _ _ (Ne.symm hjl)]
   exact(n b hb).elim (k.dj j l hi hl hjl b) fun q w=>by have:=((k.o l hl).blk w).2.1;omega
  ·rw[updF_other _ _ e] at hb
   by_cases e2:l=i
   ·subst e2;rw[updF_same]
    intro w
    exact(n b w).elim (k.dj j l hj hi e b hb) fun q=>by have:=((k.o j hj).blk hb).2.1;omega
   ·rw[updF_other _ _ e2];exact k.dj j l hj hl hjl b hb
end Go.Ab
namespace Go.Ab.Tryz
open Go.Proofs
set_option maxHeartbeats 1000000 in
theorem around_ev {h0 h:H}{p:Nat}{x:V}{bs:List Int}{T:Int}(hs:h0.Sub h)(hw0:h0.wf)(hx:SlAt h0 x 1 (bs.map encU8))(hp0:h0.next≤p)(hp:SpAt h p x T)(hT:0≤T∧T≤100000000){n wide most:Int}(h1:0≤wide∧wide≤100)(h2:0≤most∧most≤1000)(h3: -most≤n∧n≤most)(Q:V→H→Prop)
  (q:∀lo hi h',lo≤n→n≤hi→ -most≤lo→hi≤most→hi-lo≤wide→h0.Sub h'→SpAt h' p x (T+2)→Keeps (fun b=>b=p) h h'→Q (spV (lo,hi)) h'):Ev fnG fastA (.fn 71 [] []) [.ptr p 0,.int .i64 n,.int .i64 wide,.int .i64 most] h Q:=by
 have hw:=hs.wf
 have hlp:p<h.next:=by obtain⟨st,g⟩:=hp;exact hw _ _ g
 refine Ev_body (fd:=c71) rfl rfl rfl ?_
 have sA:=(H.Sub.refl hw).add (.cells .rw [.int .i64 0,.int .i64 0])
 have gA:(h.add (.cells .rw [.int .i64 0,.int .i64 0])).get h.next=some (.cells .rw [.int .i64 0,.int .i64 0]):=get_add_new rfl
 have nA:=H.next_add h (.cells .rw [.int .i64 0,.int .i64 0])
 have w0:wr .i64 (0-most)= -most:=by rw[wr_in (by omega) (by omega)];omega
 simp -implicitDefEqProofs(maxSteps:=999999)(disch:=first|with_reducible rfl|omega|(simp only[nA,nS,nD]<;>omega)|fail)only[c71,go_sem,w0]
 generalize h.add (.cells .rw [.int .i64 0,.int .i64 0])=hA at sA gA nA⊢
 refine Upto_ev (hs.trans sA) hw0 hx hp0 (hp.mono sA) (by omega) (by omega) _ fun r1 h1 a0 a1 s1 p1 k1 n1=>?_
 have g1:=k1.2 _ _ gA (by omega)
 have w1:wr .i64 (n-r1)=n-r1:=wr_in (by omega) (by omega)
 obtain⟨lo,hlo⟩:∃lo,max (-most) (n-r1)=lo:=⟨_,rfl⟩
 simp -implicitDefEqProofs(maxSteps:=999999)(disch:=first|with_reducible rfl|omega|(simp only[nA,nS,nD]<;>omega)|fail)only[go_sem,w1,hlo]
 refine Upto_ev s1 hw0 hx hp0 p1 (by omega) (by omega) _ fun r2 h2' b0 b1 s2 p2 k2 n2=>?_
 have g2:=k2.2 _ _ g1 (by omega)
 have w2:wr .i64 (lo+r2)=lo+r2:=wr_in (by omega) (by omega)
 obtain⟨hi,hhi⟩:∃hi,min most (max n (lo+r2))=hi:=⟨_,rfl⟩
 simp -implicitDefEqProofs(maxSteps:=999999)(disch:=first|with_reducible rfl|omega|(simp only[nA,nS,nD]<;>omega)|fail)only[go_sem,w2,hhi,g2]
 refine q lo hi _ (by omega) (by omega) (by omega) (by omega) (by omega) (s2.set (b:=h.next) (by have:=hs.next;omega) (by omega) hw0 _) ?_ ?_
 ·have e:T+1+1=T+2:=by omega
  rw[←e];exact p2.keep (Keeps.set _ _ _) (by omega)
 ·refine Keeps.new hw ((((Keeps.of sA (fun _=>False)).trans k1).trans k2).trans (Keeps.set h2' h.next _) |>.mono ?_)
  rintro c (((h|h)|h)|h)
  ·exact h.elim
  ·exact .inl h
  ·exact .inl h
  ·exact .inr (by omega)
end Go.Ab.Tryz
namespace Go.Ab.Tryz
open Go.Proofs
def sz6:Nat→Nat
 |0=>4
 |1=>3
 |2=>4
 |_=>1
def rowsM (a:At)(ss gg tt:List Int):Nat→List (List V)
 |0=>a.cks.map encC
 |1=>a.rds.map encR
 |2=>a.gps.map encG
 |3=>ss.map encI
 |4=>gg.map encI
 |5=>tt.map encI
 |_=>[]
structure Mi (h0:H)(p:Nat)(x:V)(n1 c0:Nat)(a:At)(ss gg tt:List Int)(T:Int)(v:Nat→V)(z:H):Prop where
 s:h0.Sub z
 sp:SpAt z p x T
 sl:Sl6 h0 z n1 v sz6 (rowsM a ss gg tt)
 ga:z.get (c0+2)=some (.cells .rw [.int .i64 a.mins,.int .i64 a.evs,v 0,v 1,v 2])
 gt:z.get (c0+3)=some (.cells .rw [v 3,v 4,v 5])
 g0:z.get c0=some (.cells .rw [.int .i64 0,.int .i64 0,.nils,.nils,.nils])
 g1:z.get (c0+1)=some (.cells .rw [.nils,.nils,.nils])
 nx:n1≤z.next
variable {h0:H} {p:Nat} {x:V} {n1 c0:Nat} {a a':At} {ss gg tt ss' gg' tt':List Int} {T T':Int} {v v':Nat→V} {z z5:H}
theorem Mi.turn (k:Mi h0 p x n1 c0 a ss gg tt T v z)(hp:p<c0)(hn:c0+4=n1)(s:h0.Sub z5)(sp:SpAt z5 p x T')(kk:Keeps (fun b=>b=p) z z5):Mi h0 p x n1 c0 a ss gg tt T' v z5:=
 ⟨s,sp,k.sl.keep kk s fun b hb=>by omega,kk.2 _ _ k.ga (by omega),kk.2 _ _ k.gt (by omega),kk.2 _ _ k.g0 (by omega),kk.2 _ _ k.g1 (by omega),by have:=kk.1;have:=k.nx;omega⟩
theorem Mi.mono (k:Mi h0 p x n1 c0 a ss gg tt T v z)(s:z.Sub z5):Mi h0 p x n1 c0 a ss gg tt T v z5:=
 ⟨k.s.trans s,k.sp.mono s,k.sl.mono s,s.get k.ga,s.get k.gt,s.get k.g0,s.get k.g1,by have:=s.next;have:=k.nx;omega⟩
theorem Mi.putA (k:Mi h0 p x n1 c0 a ss gg tt T v z)(hw:h0.wf)(hp:p<c0)(hn:c0+4=n1)(hc:h0.next≤c0){S:Nat→Prop}(kk:Keeps S z z5)(hS:∀b,S b→n1≤b)(sl:Sl6 h0 z5 n1 v' sz6 (rowsM a' ss gg tt))(hm:a'.mins=a.mins)(he:a'.evs=a.evs)
  (e3:v' 3=v 3) (e4:v' 4=v 4) (e5:v' 5=v 5):Mi h0 p x n1 c0 a' ss gg tt T v' (z5.set (c0+2) (.cells .rw [.int .i64 a.mins,.int .i64 a.evs,v' 0,v' 1,v' 2])):=by
 have hn':∀b,b<n1→¬S b:=fun b hb q=>by have:=hS b q;omega
 have s5:=(sl.o 0 (by omega)).1
 have l5:=kk.1
 have lz:=k.nx
 have sz:h0.Sub (z5.set (c0+2) (.cells .rw [.int .i64 a.mins,.int .i64 a.evs,v' 0,v' 1,v' 2])):=s5.set (by omega) (by omega) hw _
 have k2:=Keeps.set z5 (c0+2) (.cells .rw [.int .i64 a.mins,.int .i64 a.evs,v' 0,v' 1,v' 2])
 refine⟨sz,(k.sp.keep kk (hn' _ (by omega))).keep k2 (by omega),sl.keep k2 sz fun b hb=>by omega,by rw[get_set_same rfl,hm,he],?_,?_,?_,by rw[H.next_set];omega⟩
 ·rw[e3,e4,e5];exact k2.2 _ _ (kk.2 _ _ k.gt (hn' _ (by omega))) (by omega)
 ·exact k2.2 _ _ (kk.2 _ _ k.g0 (hn' _ (by omega))) (by omega)
 ·exact k2.2 _ _ (kk.2 _ _ k.g1 (hn' _ (by omega))) (by omega)
theorem Mi.putT (k:Mi h0 p x n1 c0 a ss gg tt T v z)(hw:h0.wf)(hp:p<c0)(hn:c0+4=n1)(hc:h0.next≤c0){S:Nat→Prop}(kk:Keeps S z z5)(hS:∀b,S b→n1≤b)(sl:Sl6 h0 z5 n1 v' sz6 (rowsM a ss' gg' tt'))
  (e0:v' 0=v 0) (e1:v' 1=v 1) (e2:v' 2=v 2):Mi h0 p x n1 c0 a ss' gg' tt' T v' (z5.set (c0+3) (.cells .rw [v' 3,v' 4,v' 5])):=by
 have hn':∀b,b<n1→¬S b:=fun b hb q=>by have:=hS b q;omega
 have s5:=(sl.o 0 (by omega)).1
 have l5:=kk.1
 have lz:=k.nx
 have sz:h0.Sub (z5.set (c0+3) (.cells .rw [v' 3,v' 4,v' 5])):=s5.set (by omega) (by omega) hw _
 have k2:=Keeps.set z5 (c0+3) (.cells .rw [v' 3,v' 4,v' 5])
 refine⟨sz,(k.sp.keep kk (hn' _ (by omega))).keep k2 (by omega),sl.keep k2 sz fun b hb=>by omega,?_,get_set_same rfl,?_,?_,by rw[H.next_set];omega⟩
 ·rw[e0,e1,e2];exact k2.2 _ _ (kk.2 _ _ k.ga (hn' _ (by omega))) (by omega)
 ·exact k2.2 _ _ (kk.2 _ _ k.g0 (hn' _ (by omega))) (by omega)
 ·exact k2.2 _ _ (kk.2 _ _ k.g1 (hn' _ (by omega))) (by omega)
structure MkOk (a:At)(ss gg tt:List Int):Prop where
 m:1≤a.mins∧a.mins≤240
 e:1≤a.evs∧a.evs≤4
 cl:a.cks.length≤2
 rl:a.rds.length≤6
 gl:a.gps.length≤2
 ls:ss.length=a.cks.length
 lg:gg.length=a.cks.length
 lt:tt.length≤4
 ck:∀(k:Nat) c s g,a.cks[k]? =some c→ss[k]? =some s→gg[k]? =some g→c.sl≤s∧s≤c.sh∧c.gl≤g∧g≤c.gh
 cb:∀c∈a.cks, -60≤c.sl∧c.sh≤60∧ -30≤c.gl∧c.gh≤30∧c.sl≤c.sh∧c.gl≤c.gh∧c.sh-c.sl≤3∧c.gh-c.gl≤3
 tm:∀t∈tt,0≤t∧t≤a.mins
 rd:∀r∈a.rds,0≤r.ck∧0≤r.ev∧∃s g t,ss[r.ck.toNat]? =some s∧gg[r.ck.toNat]? =some g∧tt[r.ev.toNat]? =some t∧r.sh=shw s g t
 gp:∀g∈a.gps,0≤g.fr∧0≤g.to∧∃t1 t2,tt[g.fr.toNat]? =some t1∧tt[g.to.toNat]? =some t2∧g.lo≤t2-t1∧t2-t1≤g.hi∧ -240≤g.lo∧g.hi≤240
theorem getl {α:Type}{l:List α}{i:Nat}{x:α}(h:l[i]? =some x):i<l.length:=by
 rcases Nat.lt_or_ge i l.length with q|q
 ·exact q
 ·rw[List.getElem?_eq_none q] at h;cases h
theorem MkOk.run {a:At}{ss gg tt:List Int}(k:MkOk a ss gg tt){i:Nat}{s g:Int}(hs:ss[i]? =some s)(hg:gg[i]? =some g):RunIn s g:=by
 have hi:=getl hs
 rw[k.ls] at hi
 have h1:=k.ck i _ s g (List.getElem?_eq_getElem hi) hs hg
 have h2:=k.cb _ (List.getElem_mem hi)
 exact⟨by omega,by omega,by omega,by omega⟩
theorem MkOk.right {a:At}{ss gg tt:List Int}(k:MkOk a ss gg tt)(hl:(tt.length:Int)=a.evs):Right a:=by
 have hm:=k.m;have he:=k.e;have h1:=k.cl;have h2:=k.rl;have h3:=k.gl
 refine⟨?_,fun c hc=>?_,fun r hr=>?_,fun g hg=>?_,fun r hr=>?_,fun g hg=>?_,fun c hc=>?_,fun g hg=>?_,fun c hc=>?_⟩
 ·simp only[At.sz,Bool.and_eq_true,decide_eq_true_eq,inB_iff];omega
 ·have:=k.cb c hc
  simp only[Ck.bd,within,Bool.and_eq_true,inB_iff];omega
 ·obtain⟨_,_,s,g,t,e1,e2,e3,e4⟩:=k.rd r hr
  have ht:=k.tm t (List.mem_of_getElem? e3)
  have:=shw_bd (k.run e1 e2) ht.1 (by omega)
  simp only[Rd.bd,inB_iff];omega
 ·obtain⟨_,_,t1,t2,e1,e2,e3,e4,e5,e6⟩:=k.gp g hg
  have q1:=k.tm t1 (List.mem_of_getElem? e1)
  have q2:=k.tm t2 (List.mem_of_getElem? e2)
  simp only[Gp.bd,within,Bool.and_eq_true,inB_iff];omega
 ·obtain⟨_,_,s,g,t,e1,e2,e3,e4⟩:=k.rd r hr
  have q1:=getl e1;have q2:=getl e3;have q3:=k.ls
  simp only[At.rdOk,At.ckB,At.evB,Bool.and_eq_true,inB_iff];omega
 ·obtain⟨_,_,t1,t2,e1,e2,e3,e4,e5,e6⟩:=k.gp g hg
  have q1:=getl e1;have q2:=getl e2
  simp only[At.gpOk,At.evB,Bool.and_eq_true,inB_iff];omega
 ·have:=k.cb c hc
  simp only[Ck.ord,Bool.and_eq_true,decide_eq_true_eq];omega
 ·obtain⟨_,_,t1,t2,e1,e2,e3,e4,e5,e6⟩:=k.gp g hg
  simp only[Gp.ord,decide_eq_true_eq];omega
 ·have:=k.cb c hc
  simp only[Ck.sm,Bool.and_eq_true,decide_eq_true_eq];omega
def timeF (tt:List Int)(e:Nat):Int:=tt.getD e 0
theorem timeF_at {tt:List Int}{e:Nat}{t:Int}(h:tt[e]? =some t):timeF tt e=t:=by unfold timeF;rw[List.getD_eq_getElem?_getD,h];rfl
theorem MkOk.tru {a:At}{ss gg tt:List Int}(k:MkOk a ss gg tt):Tru a (fun _=>true) (ss.zip gg) (timeF tt):=by
 have hm:=k.m
 have zp:∀{i:Nat} {s:Int × Int},(ss.zip gg)[i]? =some s→ss[i]? =some s.1∧gg[i]? =some s.2:=fun{i s} h=>by
  have:=List.getElem?_zip_eq_some.1 h
  exact this
 refine⟨by rw[List.length_zip,k.ls,k.lg,Nat.min_self],fun i s hs=>?_,?_,fun e he=>?_,fun g hg=>?_,fun j r hr _ s hs=>?_⟩
 ·obtain⟨h1,h2⟩:=zp hs
  have hi:=getl h1
  rw[k.ls] at hi
  have hc:a.cks[i]? =some a.cks[i]:=List.getElem?_eq_getElem hi
  obtain⟨q1,q2,q3,q4⟩:=k.ck i _ _ _ hc h1 h2
  exact RunOf.mk' hc q1 q2 q3 q4
 ·unfold timeF
  rw[List.getD_eq_getElem?_getD,List.getElem?_eq_none k.lt];rfl
 ·unfold timeF
  rw[List.getD_eq_getElem?_getD]
  cases h:tt[e]? with
  |none=>exact⟨Int.le_refl _,by show(0:Int)≤_;omega⟩
  |some t=>exact k.tm t (List.mem_of_getElem? h)
 ·obtain⟨_,_,t1,t2,e1,e2,e3,e4,e5,e6⟩:=k.gp g hg
  rw[timeF_at e1,timeF_at e2];exact⟨e3,e4⟩
 ·obtain⟨_,_,s',g,t,e1,e2,e3,e4⟩:=k.rd r (List.mem_of_getElem? hr)
  obtain⟨h1,h2⟩:=zp hs
  rw[e1] at h1;rw[e2] at h2
  cases h1;cases h2
  rw[timeF_at e3,e4]
end Go.Ab.Tryz
namespace Go.Ab.Tryz
open Go.Proofs
structure MkAt (h0 h:H)(p:Nat)(x:V)(T:Int)(a:At)(ss gg tt:List Int)(C R G S Ga Tm:V):Prop where
 s:h0.Sub h
 sp:SpAt h p x T
 at_:AtAt h C R G a
 as_:SlAt h S 1 (ss.map encI)
 ag:SlAt h Ga 1 (gg.map encI)
 am:SlAt h Tm 1 (tt.map encI)
 ok:MkOk a ss gg tt
 lt:(tt.length:Int)=a.evs
theorem rowsUp {a a':At}{ss gg tt ss' gg' tt':List Int}{j:Nat}{r:List V}(h0:updF (rowsM a ss gg tt) j (rowsM a ss gg tt j++[r]) 0=a'.cks.map encC)(h1:updF (rowsM a ss gg tt) j (rowsM a ss gg tt j++[r]) 1=a'.rds.map encR)(h2:updF (rowsM a ss gg tt) j (rowsM a ss gg tt j++[r]) 2=a'.gps.map encG)
  (h3:updF (rowsM a ss gg tt) j (rowsM a ss gg tt j++[r]) 3=ss'.map encI) (h4:updF (rowsM a ss gg tt) j (rowsM a ss gg tt j++[r]) 4=gg'.map encI) (h5:updF (rowsM a ss gg tt) j (rowsM a ss gg tt j++[r]) 5=tt'.map encI):∀i,i<6→updF (rowsM a ss gg tt) j (rowsM a ss gg tt j++[r]) i=rowsM a' ss' gg' tt' i:=fun i hi=>by
 rcases(by omega:i=0∨i=1∨i=2∨i=3∨i=4∨i=5) with rfl|rfl|rfl|rfl|rfl|rfl
 ·exact h0
 ·exact h1
 ·exact h2
 ·exact h3
 ·exact h4
 ·exact h5
theorem rows0 {a:At}{ss gg tt:List Int}{c:Ck}:∀i,i<6→updF (rowsM a ss gg tt) 0 (rowsM a ss gg tt 0++[encC c]) i=rowsM {a with cks:=a.cks++[c]} ss gg tt i:=rowsUp (by simp[updF,rowsM]) (by simp[updF,rowsM]) (by simp[updF,rowsM]) (by simp[updF,rowsM]) (by simp[updF,rowsM]) (by simp[updF,rowsM])
theorem rows1 {a:At}{ss gg tt:List Int}{c:Rd}:∀i,i<6→updF (rowsM a ss gg tt) 1 (rowsM a ss gg tt 1++[encR c]) i=rowsM {a with rds:=a.rds++[c]} ss gg tt i:=rowsUp (by simp[updF,rowsM]) (by simp[updF,rowsM]) (by simp[updF,rowsM]) (by simp[updF,rowsM]) (by simp[updF,rowsM]) (by simp[updF,rowsM])
theorem rows2 {a:At}{ss gg tt:List Int}{c:Gp}:∀i,i<6→updF (rowsM a ss gg tt) 2 (rowsM a ss gg tt 2++[encG c]) i=rowsM {a with gps:=a.gps++[c]} ss gg tt i:=rowsUp (by simp[updF,rowsM]) (by simp[updF,rowsM]) (by simp[updF,rowsM]) (by simp[updF,rowsM]) (by simp[updF,rowsM]) (by simp[updF,rowsM])
theorem rows3 {a:At}{ss gg tt:List Int}{c:Int}:∀i,i<6→updF (rowsM a ss gg tt) 3 (rowsM a ss gg tt 3++[encI c]) i=rowsM a (ss++[c]) gg tt i:=rowsUp (by simp[updF,rowsM]) (by simp[updF,rowsM]) (by simp[updF,rowsM]) (by simp[updF,rowsM]) (by simp[updF,rowsM]) (by simp[updF,rowsM])
theorem rows4 {a:At}{ss gg tt:List Int}{c:Int}:∀i,i<6→updF (rowsM a ss gg tt) 4 (rowsM a ss gg tt 4++[encI c]) i=rowsM a ss (gg++[c]) tt i:=rowsUp (by simp[updF,rowsM]) (by simp[updF,rowsM]) (by simp[updF,rowsM]) (by simp[updF,rowsM]) (by simp[updF,rowsM]) (by simp[updF,rowsM])
theorem rows5 {a:At}{ss gg tt:List Int}{c:Int}:∀i,i<6→updF (rowsM a ss gg tt) 5 (rowsM a ss gg tt 5++[encI c]) i=rowsM a ss gg (tt++[c]) i:=rowsUp (by simp[updF,rowsM]) (by simp[updF,rowsM]) (by simp[updF,rowsM]) (by simp[updF,rowsM]) (by simp[updF,rowsM]) (by simp[updF,rowsM])
theorem get_app1 {α:Type}{l:List α}{x y:α}{i:Nat}(h:(l++[x])[i]? =some y):l[i]? =some y∧i<l.length∨i=l.length∧y=x:=by
 rcases Nat.lt_or_ge i l.length with q|q
 ·rw[List.getElem?_append_left q] at h;exact .inl ⟨h,q⟩
 ·rw[List.getElem?_append_right q] at h
  have:i-l.length=0:=by
   cases hh:i-l.length with
   |zero=>rfl
   |succ n=>rw[hh] at h;simp at h
  rw[this] at h
  cases h
  exact .inr ⟨by omega,rfl⟩
theorem get_more {α:Type}{l:List α}{x y:α}{i:Nat}(h:l[i]? =some y):(l++[x])[i]? =some y:=by rw[List.getElem?_append_left (getl h)];exact h
theorem MkOk.clock {a:At}{ss gg tt:List Int}(k:MkOk a ss gg tt)(hl:a.cks.length+1≤2){sl sh gl gh st gn:Int}(h1:sl≤st∧st≤sh)(h2:gl≤gn∧gn≤gh)(h3: -60≤sl∧sh≤60∧sh-sl≤3)(h4: -30≤gl∧gh≤30∧gh-gl≤3):
  MkOk {a with cks:=a.cks++[⟨sl,sh,gl,gh⟩]} (ss++[st]) (gg++[gn]) tt:=by
 refine⟨k.m,k.e,by simp only[List.length_append,List.length_singleton];exact hl,k.rl,k.gl,by simp only[List.length_append,List.length_singleton,k.ls],by simp only[List.length_append,List.length_singleton,k.lg],k.lt,fun i c s g hc hs hg=>?_,fun c hc=>?_,k.tm,fun r hr=>?_,k.gp⟩
 ·have ls:=k.ls;have lg:=k.lg
  rcases get_app1 hc with⟨hc,q⟩|⟨q,rfl⟩
  ·rcases get_app1 hs with⟨hs,_⟩|⟨q2,_⟩
   ·rcases get_app1 hg with⟨hg,_⟩|⟨q3,_⟩
    ·exact k.ck i c s g hc hs hg
    ·omega
   ·omega
  ·rcases get_app1 hs with⟨_,q2⟩|⟨_,rfl⟩
   ·omega
   ·rcases get_app1 hg with⟨_,q3⟩|⟨_,rfl⟩
    ·omega
    ·exact⟨h1.1,h1.2,h2.1,h2.2⟩
 ·rcases List.mem_append.1 hc with hc|hc
  ·exact k.cb c hc
  ·rw[List.mem_singleton] at hc;subst hc
   exact⟨h3.1,h3.2.1,h4.1,h4.2.1,Int.le_trans h1.1 h1.2,Int.le_trans h2.1 h2.2,h3.2.2,h4.2.2⟩
 ·obtain⟨r1,r2,s,g,t,e1,e2,e3,e4⟩:=k.rd r hr
  exact⟨r1,r2,s,g,t,get_more e1,get_more e2,e3,e4⟩
theorem MkOk.read {a:At}{ss gg tt:List Int}(k:MkOk a ss gg tt)(hl:a.rds.length+1≤6){i e:Nat}{s g t:Int}(e1:ss[i]? =some s)(e2:gg[i]? =some g)(e3:tt[e]? =some t):MkOk {a with rds:=a.rds++[⟨i,e,shw s g t⟩]} ss gg tt:=by
 refine⟨k.m,k.e,k.cl,by simp only[List.length_append,List.length_singleton];exact hl,k.gl,k.ls,k.lg,k.lt,k.ck,k.cb,k.tm,fun r hr=>?_,k.gp⟩
 rcases List.mem_append.1 hr with hr|hr
 ·exact k.rd r hr
 ·rw[List.mem_singleton] at hr;subst hr
  exact⟨Int.natCast_nonneg _,Int.natCast_nonneg _,s,g,t,e1,e2,e3,rfl⟩
theorem MkOk.gap {a:At}{ss gg tt:List Int}(k:MkOk a ss gg tt)(hl:a.gps.length+1≤2){i e:Nat}{t1 t2 lo hi:Int}(e1:tt[i]? =some t1)(e2:tt[e]? =some t2)(h1:lo≤t2-t1∧t2-t1≤hi)(h2: -240≤lo∧hi≤240):MkOk {a with gps:=a.gps++[⟨i,e,lo,hi⟩]} ss gg tt:=by
 refine⟨k.m,k.e,k.cl,k.rl,by simp only[List.length_append,List.length_singleton];exact hl,k.ls,k.lg,k.lt,k.ck,k.cb,k.tm,k.rd,fun g hg=>?_⟩
 rcases List.mem_append.1 hg with hg|hg
 ·exact k.gp g hg
 ·rw[List.mem_singleton] at hg;subst hg
  exact⟨Int.natCast_nonneg _,Int.natCast_nonneg _,t1,t2,e1,e2,h1.1,h1.2,h2.1,h2.2⟩
theorem Mi.side {h0 z z5:H}{p:Nat}{x:V}{n1 c0:Nat}{a:At}{ss gg tt:List Int}{T:Int}{v:Nat→V}(k:Mi h0 p x n1 c0 a ss gg tt T v z)(hp:p<c0)(hn:c0+4=n1){b0:Nat}(hb:n1≤b0)(hne:∀i,i<6→∀b,blkOf (v i) b→b≠b0)(s:h0.Sub z5)(kk:Keeps (fun b=>b=b0) z z5):Mi h0 p x n1 c0 a ss gg tt T v z5:=
 ⟨s,k.sp.keep kk (by omega),⟨fun i hi=>(k.sl.o i hi).keep kk s fun b hb q=>hne i hi b hb q,k.sl.lo,k.sl.dj⟩,kk.2 _ _ k.ga (by omega),kk.2 _ _ k.gt (by omega),kk.2 _ _ k.g0 (by omega),kk.2 _ _ k.g1 (by omega),by have:=kk.1;have:=k.nx;omega⟩
structure FT (p c0:Nat)(K N:Int)(tm:T V):Prop where
 t0:(Opd.t 0).ev tm=.ptr p 0
 t3:(Opd.t 3).ev tm=.int .i64 K
 t4:(Opd.t 4).ev tm=.int .i64 N
 t10:(Opd.t 10).ev tm=.ptr c0 0
 t11:(Opd.t 11).ev tm=.ptr (c0+1) 0
 t12:(Opd.t 12).ev tm=.ptr (c0+2) 0
 t13:(Opd.t 13).ev tm=.ptr (c0+3) 0
set_option maxHeartbeats 8000000 in
theorem Made_ev {h0 h:H}{p:Nat}{x:V}{bs:List Int}{T:Int}(hs:h0.Sub h)(hw0:h0.wf)(hx:SlAt h0 x 1 (bs.map encU8))(hp0:h0.next≤p)(hp:SpAt h p x T)(hT:0≤T∧T≤10000000){M E K N:Int}(hM:1≤M∧M≤240)(hE:1≤E∧E≤4)(hK:0≤K∧K≤2)(hN:0≤N∧N≤6)(Q:V→H→Prop)
  (q:∀h' T' a ss gg tt C R G S Ga Tm,MkAt h0 h' p x T' a ss gg tt C R G S Ga Tm→Q (.tup [.agg (atV a C R G),.agg [S,Ga,Tm]]) h'):Ev fnG fastA (.fn 14 [] []) [.ptr p 0,.int .i64 M,.int .i64 E,.int .i64 K,.int .i64 N] h Q:=by
 have hw:=hs.wf
 have l0:=hs.next
 have hlp:p<h.next:=by obtain⟨st,g⟩:=hp;exact hw _ _ g
 refine Ev_body (fd:=c14) rfl rfl rfl ?_
 have s1:h.Sub ((h.add (.cells .rw [.int .i64 0,.int .i64 0,.nils,.nils,.nils])).add (.cells .rw [.nils,.nils,.nils])):=(by repeat(first|assumption|exact H.Sub.refl (by assumption)|refine H.Sub.add ?_ _|refine H.Sub.set ?_ (by first|omega|(simp only[H.next_add,H.next_set,H.next_del]<;>omega)) (by first|omega|(simp only[H.next_add,H.next_set,H.next_del]<;>omega)) (by assumption) _))
 have a0:((h.add (.cells .rw [.int .i64 0,.int .i64 0,.nils,.nils,.nils])).add (.cells .rw [.nils,.nils,.nils])).get h.next=some (.cells .rw [.int .i64 0,.int .i64 0,.nils,.nils,.nils]):=by simp -implicitDefEqProofs(maxSteps:=999999)(disch:=first|with_reducible rfl|omega|(simp only[nA,nS,nD]<;>omega)|fail)only[go_sem]
 have a1:((h.add (.cells .rw [.int .i64 0,.int .i64 0,.nils,.nils,.nils])).add (.cells .rw [.nils,.nils,.nils])).get (h.next+1)=some (.cells .rw [.nils,.nils,.nils]):=by simp -implicitDefEqProofs(maxSteps:=999999)(disch:=first|with_reducible rfl|omega|(simp only[nA,nS,nD]<;>omega)|fail)only[go_sem]
 have n1:((h.add (.cells .rw [.int .i64 0,.int .i64 0,.nils,.nils,.nils])).add (.cells .rw [.nils,.nils,.nils])).next=h.next+2:=by simp only[H.next_add]
 simp -implicitDefEqProofs(maxSteps:=999999)(disch:=first|with_reducible rfl|omega|(simp only[nA,nS,nD]<;>omega)|fail)only[c14,go_sem]
 generalize(h.add (.cells .rw [.int .i64 0,.int .i64 0,.nils,.nils,.nils])).add (.cells .rw [.nils,.nils,.nils])=h1 at s1 a0 a1 n1⊢
 refine From_ev (hs.trans s1) hw0 hx hp0 (hp.mono s1) (by omega) (by omega) (by omega) _ fun mins h2 m0 m1 s2 p2 k2 n2=>?_
 simp -implicitDefEqProofs(maxSteps:=999999)(disch:=first|with_reducible rfl|omega|(simp only[nA,nS,nD]<;>omega)|fail)only[go_sem]
 refine From_ev s2 hw0 hx hp0 p2 (by omega) (by omega) (by omega) _ fun evs h3 v0 v1 s3 p3 k3 n3=>?_
 have b0:=k3.2 _ _ (k2.2 _ _ a0 (by omega)) (by omega)
 have b1:=k3.2 _ _ (k2.2 _ _ a1 (by omega)) (by omega)
 have n3':h3.next=h.next+2:=by omega
 have e2:h.next+2=h3.next:=n3'.symm
 obtain⟨c0,hc0⟩:∃c0,h.next=c0:=⟨_,rfl⟩
 have k0:Mi h0 p x (c0+4) c0 ⟨mins,evs,[],[],[]⟩ [] [] [] (T+2) (fun _=>.nils) ((h3.add (.cells .rw [.int .i64 mins,.int .i64 evs,.nils,.nils,.nils])).add (.cells .rw [.nils,.nils,.nils])):=by
  have s5:h3.Sub ((h3.add (.cells .rw [.int .i64 mins,.int .i64 evs,.nils,.nils,.nils])).add (.cells .rw [.nils,.nils,.nils])):=((H.Sub.refl s3.wf).add _).add _
  have p3':=p3.mono s5
  rw[show T+1+1=T+2 by omega] at p3'
  refine⟨s3.trans s5,p3',⟨fun i hi=>?_,fun i hi b hb=>(blkOf_nils hb).elim,fun i j _ _ _ b hb=>(blkOf_nils hb).elim⟩,?_,?_,?_,?_,by simp only[H.next_add];omega⟩
  ·have:rowsM ⟨mins,evs,[],[],[]⟩ [] [] [] i=[]:=by rcases(by omega:i=0∨i=1∨i=2∨i=3∨i=4∨i=5) with rfl|rfl|rfl|rfl|rfl|rfl<;>rfl
   rw[this];exact(OwnSl.nil (s3.trans s5) _).c
  ·rw[get_add_old (by rw[H.next_add];omega),get_add_new (by omega)]
  ·rw[get_add_new (by rw[H.next_add];omega)]
  ·rw[←hc0];exact s5.get b0
  ·rw[←hc0];exact s5.get b1
 have hlp0:p<c0:=by omega
 have l00:h0.next≤c0:=by omega
 simp -implicitDefEqProofs(maxSteps:=999999)(disch:=first|with_reducible rfl|omega|(simp only[nA,nS,nD]<;>omega)|fail)only[go_sem]
 generalize(h3.add (.cells .rw [.int .i64 mins,.int .i64 evs,.nils,.nils,.nils])).add (.cells .rw [.nils,.nils,.nils])=h4 at k0⊢
 rw[n3',hc0,show c0+2+1=c0+3 from rfl]
 obtain⟨ev,hev⟩:∃ev:Nat,evs=ev:=⟨evs.toNat,by omega⟩
 subst hev
 refine W_count ev (fun i s=>∃tm z v tt T',s=⟨tm,z,[]⟩∧Mi h0 p x (c0+4) c0 ⟨mins,ev,[],[],[]⟩ [] [] tt T' v z∧tt.length=i∧(∀t∈tt,0≤t∧t≤mins)∧(0≤T'∧T'≤T+2+i)∧FT p c0 K N tm∧(Opd.t 26).ev tm=.int .i64 (ev:Int)∧(Opd.t 27).ev tm=.int .i64 (i:Int)) ?_ ?_ (i:=0) (Nat.zero_le _)
  ⟨_,_,_,[],_,rfl,k0,rfl,fun t ht=>absurd ht List.not_mem_nil,by omega,⟨(by simp[ev_c,ev_put]<;>rfl),(by simp[ev_c,ev_put]<;>rfl),(by simp[ev_c,ev_put]<;>rfl),(by simp[ev_c,ev_put]<;>rfl),(by simp[ev_c,ev_put]<;>rfl),(by simp[ev_c,ev_put]<;>rfl),(by simp[ev_c,ev_put]<;>rfl)⟩,(by simp[ev_c,ev_put]<;>rfl),(by simp[ev_c,ev_put]<;>rfl)⟩
 ·rintro i s hi ⟨tm,z,v,tt,T',rfl,k,lt,ht,hT',⟨e0,e3,e4,e10,e11,e12,e13⟩,e26,e27⟩
  have hi':(i:Int)<(ev:Int):=by omega
  have lz:=k.nx
  simp -implicitDefEqProofs(maxSteps:=999999)(disch:=first|with_reducible rfl|omega|(simp only[nA,nS,nD]<;>omega)|fail)only[go_sem,e0,e12,e13,e26,e27,hi',cells_of k.ga,cells_of k.gt]
  refine Upto_ev k.s hw0 hx hp0 k.sp (by omega) (by omega) _ fun r z1 r0 r1 u1 p1 q1 nn1=>?_
  have k1:=k.turn hlp0 rfl u1 p1 q1
  have u2:=(H.Sub.refl u1.wf).add (.cells .rw [.int .i64 r])
  have k2:=k1.mono u2
  have o2:=k2.sl.o 5 (by decide)
  have ov3:=(k2.sl.o 3 (by decide)).one
  have ov4:=(k2.sl.o 4 (by decide)).one
  have sn:SlAt (z1.add (.cells .rw [.int .i64 r])) (.sl z1.next 0 1 (.fix 1)) 1 [encI r]:=SlAt.new _ rfl rfl rfl (by simp[encI]) (by simp)
  have lr:(rowsM ⟨mins,ev,[],[],[]⟩ [] [] tt 5).length≤4:=by show(tt.map encI).length≤4;rw[List.length_map];omega
  simp -implicitDefEqProofs(maxSteps:=999999)(disch:=first|with_reducible rfl|omega|(simp only[nA,nS,nD]<;>omega)|fail)only[go_sem,e0,e12,e13,e26,e27,cells_of k.ga,cells_of k.gt,cells_of k1.ga,cells_of k1.gt]
  generalize z1.add (.cells .rw [.int .i64 r])=z2 at u2 k2 o2 sn⊢
  refine o2.app1 (by_:=8) (r:=encI r) hw0 rfl (by decide) sn rfl (by omega) (by omega) fun w z5 o5 n5 k5=>?_
  have ow:=o5.one
  have nb:¬blkOf (v 5) (c0+3):=fun hb=>by have:=k2.sl.lo 5 (by decide) _ hb;omega
  have g5:=k5.2 _ _ k2.gt nb
  have km:=k2.putT hw0 hlp0 rfl l00 k5 (fun b hb=>k2.sl.lo 5 (by decide) b hb) ((k2.sl.app (by decide) o5 n5 k2.nx k5).rw rows5) rfl rfl rfl
  simp -implicitDefEqProofs(maxSteps:=999999)(disch:=first|with_reducible rfl|omega|(simp only[nA,nS,nD]<;>omega)|fail)only[go_sem,e0,e12,e13,e26,e27,g5,ow,cells_one ow,wr_succ,cells_of k.ga,cells_of k1.ga,cells_of k2.ga,cells_of k.gt,cells_of k1.gt,cells_of k2.gt,cells_of g5]
  exact⟨_,_,_,tt++[r],T'+1,rfl,km,by rw[List.length_append,List.length_singleton];omega,fun t h=>(List.mem_append.1 h).elim (ht t) fun h=>by rw[List.mem_singleton] at h;subst h;omega,by omega,⟨(by simp[ev_c,ev_put,e0]<;>rfl),(by simp[ev_c,ev_put,e3]<;>rfl),(by simp[ev_c,ev_put,e4]<;>rfl),(by simp[ev_c,ev_put,e10]<;>rfl),(by simp[ev_c,ev_put,e11]<;>rfl),(by simp[ev_c,ev_put,e12]<;>rfl),(by simp[ev_c,ev_put,e13]<;>rfl)⟩,(by simp[ev_c,ev_put,e26]<;>rfl),(by simp[ev_c,ev_put]<;>rfl)⟩
 ·rintro s ⟨tm,z,v,tt,T',rfl,k,lt,ht,hT',⟨e0,e3,e4,e10,e11,e12,e13⟩,e26,e27⟩
  have hi':¬((ev:Int)<(ev:Int)):=by omega
  simp -implicitDefEqProofs(maxSteps:=999999)(disch:=first|with_reducible rfl|omega|(simp only[nA,nS,nD]<;>omega)|fail)only[go_sem,e0,e3,e4,e10,e11,e12,e13,e26,e27,hi']
  have lte:tt.length≤4:=by omega
  have rt:(tt.length:Int)=ev:=by omega
  refine Upto_ev k.s hw0 hx hp0 k.sp (by omega) (by omega) _ fun nc z1 c0' c1' u1 p1 q1 nn1=>?_
  obtain⟨nk,hnk⟩:∃nk:Nat,nc=nk:=⟨nc.toNat,by omega⟩
  subst hnk
  have k:=k.turn hlp0 rfl u1 p1 q1
  have mk:MkOk ⟨mins,ev,[],[],[]⟩ [] [] tt:=⟨by show 1≤mins∧mins≤240;omega,by show 1≤(ev:Int)∧(ev:Int)≤4;omega,Nat.zero_le _,Nat.zero_le _,Nat.zero_le _,rfl,rfl,lte,fun k c s g h=>by simp at h,fun c h=>absurd h List.not_mem_nil,ht,fun r h=>absurd h List.not_mem_nil,fun g h=>absurd h List.not_mem_nil⟩
  simp -implicitDefEqProofs(maxSteps:=999999)(disch:=first|with_reducible rfl|omega|(simp only[nA,nS,nD]<;>omega)|fail)only[go_sem,e0,e3,e4,e10,e11,e12,e13]
  refine W_count nk (fun i s=>∃tm z v a ss gg T',s=⟨tm,z,[]⟩∧Mi h0 p x (c0+4) c0 a ss gg tt T' v z∧MkOk a ss gg tt∧a.mins=mins∧a.evs=ev∧a.cks.length=i∧a.rds=[]∧a.gps=[]∧(0≤T'∧T'≤T+20+10*i)∧FT p c0 K N tm∧(Opd.t 41).ev tm=.int .i64 (nk:Int)∧(Opd.t 42).ev tm=.int .i64 (i:Int)) ?_ ?_ (i:=0) (Nat.zero_le _)
   ⟨_,_,_,_,[],[],_,rfl,k,mk,rfl,rfl,rfl,rfl,rfl,by omega,⟨(by simp[ev_c,ev_put,e0]<;>rfl),(by simp[ev_c,ev_put,e3]<;>rfl),(by simp[ev_c,ev_put,e4]<;>rfl),(by simp[ev_c,ev_put,e10]<;>rfl),(by simp[ev_c,ev_put,e11]<;>rfl),(by simp[ev_c,ev_put,e12]<;>rfl),(by simp[ev_c,ev_put,e13]<;>rfl)⟩,(by simp[ev_c,ev_put]<;>rfl),(by simp[ev_c,ev_put]<;>rfl)⟩
  ·clear mk k
   rintro i s hi ⟨tm,z,v,a,ss,gg,T',rfl,k,mk,am,ae,la,ar,ag,hT',⟨e0,e3,e4,e10,e11,e12,e13⟩,e41,e42⟩
   have hi':(i:Int)<(nk:Int):=by omega
   simp -implicitDefEqProofs(maxSteps:=999999)(disch:=first|with_reducible rfl|omega|(simp only[nA,nS,nD]<;>omega)|fail)only[go_sem,e0,e12,e13,e41,e42,hi']
   refine From_ev k.s hw0 hx hp0 k.sp (by omega) (by omega) (by omega) _ fun st za sa0 sa1 ua pa qa _=>?_
   have ka:=k.turn hlp0 rfl ua pa qa
   simp -implicitDefEqProofs(maxSteps:=999999)(disch:=first|with_reducible rfl|omega|(simp only[nA,nS,nD]<;>omega)|fail)only[go_sem,e0,e12,e13,e41,e42]
   refine From_ev ka.s hw0 hx hp0 ka.sp (by omega) (by omega) (by omega) _ fun gn zb gb0 gb1 ub pb qb _=>?_
   have kb:=ka.turn hlp0 rfl ub pb qb
   simp -implicitDefEqProofs(maxSteps:=999999)(disch:=first|with_reducible rfl|omega|(simp only[nA,nS,nD]<;>omega)|fail)only[go_sem,e0,e12,e13,e41,e42,cells_of kb.ga,cells_of kb.gt]
   refine around_ev kb.s hw0 hx hp0 kb.sp (by omega) (by omega) (by omega) (by omega) _ fun sl sh zc r1 r2 r3 r4 r5 uc pc qc=>?_
   have kc:=kb.turn hlp0 rfl uc pc qc
   simp -implicitDefEqProofs(maxSteps:=999999)(disch:=first|with_reducible rfl|omega|(simp only[nA,nS,nD]<;>omega)|fail)only[go_sem,e0,e12,e13,e41,e42,cells_of kb.ga,cells_of kb.gt,cells_of kc.ga,cells_of kc.gt]
   refine around_ev kc.s hw0 hx hp0 kc.sp (by omega) (by omega) (by omega) (by omega) _ fun gl gh zd y1 y2 y3 y4 y5 ud pd qd=>?_
   have kd:=kc.turn hlp0 rfl ud pd qd
   have ue:=(H.Sub.refl ud.wf).add (.cells .rw [.int .i64 sl,.int .i64 sh,.int .i64 gl,.int .i64 gh])
   have ke:=kd.mono ue
   have o0:=ke.sl.o 0 (by decide)
   have sn:SlAt (zd.add (.cells .rw [.int .i64 sl,.int .i64 sh,.int .i64 gl,.int .i64 gh])) (.sl zd.next 0 1 (.fix 1)) 4 [encC ⟨sl,sh,gl,gh⟩]:=SlAt.new _ rfl rfl rfl (by simp[encC]) (by simp)
   have hcl:=mk.cl
   have lr:(rowsM a ss gg tt 0).length≤2:=by show(a.cks.map encC).length≤2;rw[List.length_map];omega
   simp -implicitDefEqProofs(maxSteps:=999999)(disch:=first|with_reducible rfl|omega|(simp only[nA,nS,nD]<;>omega)|fail)only[go_sem,e0,e12,e13,e41,e42,cells_of kb.ga,cells_of kb.gt,cells_of kc.ga,cells_of kc.gt,cells_of kd.ga,cells_of kd.gt]
   generalize zd.add (.cells .rw [.int .i64 sl,.int .i64 sh,.int .i64 gl,.int .i64 gh])=ze at ue ke o0 sn⊢
   refine o0.app1 (by_:=32) (r:=encC ⟨sl,sh,gl,gh⟩) hw0 rfl (by decide) sn rfl (by omega) (by omega) fun w zf of nf kf=>?_
   have ow:=of.one
   have nb:¬blkOf (v 0) (c0+2):=fun hb=>by have:=ke.sl.lo 0 (by decide) _ hb;omega
   have nb3:¬blkOf (v 0) (c0+3):=fun hb=>by have:=ke.sl.lo 0 (by decide) _ hb;omega
   have gf:=kf.2 _ _ ke.ga nb
   have gf3:=kf.2 _ _ ke.gt nb3
   have kg:=ke.putA (a':={a with cks:=a.cks++[⟨sl,sh,gl,gh⟩]}) hw0 hlp0 rfl l00 kf (fun b hb=>ke.sl.lo 0 (by decide) b hb) ((ke.sl.app (by decide) of nf ke.nx kf).rw rows0) rfl rfl rfl rfl rfl
   simp -implicitDefEqProofs(maxSteps:=999999)(disch:=first|with_reducible rfl|omega|(simp only[nA,nS,nD]<;>omega)|fail)only[go_sem,e0,e12,e13,e41,e42,gf,ow,cells_one ow,cells_of kb.ga,cells_of kb.gt,cells_of kc.ga,cells_of kc.gt,cells_of kd.ga,cells_of kd.gt,cells_of ke.ga,cells_of gf,cells_of gf3]
   have nzg:(zf.set (c0+2) (.cells .rw [.int .i64 a.mins,.int .i64 a.evs,w,v 1,v 2])).next=zf.next:=H.next_set _ _ _
   have kg':Mi h0 p x (c0+4) c0 {a with cks:=a.cks++[⟨sl,sh,gl,gh⟩]} ss gg tt (T'+1+1+2+2) (updF v 0 w) (zf.set (c0+2) (.cells .rw [.int .i64 a.mins,.int .i64 a.evs,w,v 1,v 2])):=kg
   generalize zf.set (c0+2) (.cells .rw [.int .i64 a.mins,.int .i64 a.evs,w,v 1,v 2])=zg at kg' nzg⊢
   have uh:=(H.Sub.refl kg'.s.wf).add (.cells .rw [.int .i64 st])
   have kh:=kg'.mono uh
   have o3:OwnC h0 (zg.add (.cells .rw [.int .i64 st])) (v 3) 1 (ss.map encI):=kh.sl.o 3 (by decide)
   have lss:ss.length≤2:=by rw[mk.ls];exact hcl
   have lgg:gg.length≤2:=by rw[mk.lg];exact hcl
   have sn3:SlAt (zg.add (.cells .rw [.int .i64 st])) (.sl zf.next 0 1 (.fix 1)) 1 [encI st]:=SlAt.new _ nzg.symm rfl rfl (by simp[encI]) (by simp)
   have gg1:zg.get (c0+3)=some (.cells .rw [v 3,v 4,v 5]):=kg'.gt
   have gh1:(zg.add (.cells .rw [.int .i64 st])).get (c0+3)=some (.cells .rw [v 3,v 4,v 5]):=kh.gt
   generalize zg.add (.cells .rw [.int .i64 st])=zh at uh kh o3 sn3 gh1⊢
   refine o3.app1 (by_:=8) (r:=encI st) hw0 rfl (by decide) sn3 rfl (by rw[List.length_map];omega) (by rw[List.length_map];omega) fun w3 zi oi ni ki=>?_
   have ow3:=oi.one
   have nb4:¬blkOf (v 3) (c0+3):=fun hb=>by have:=kh.sl.lo 3 (by decide) _ hb;omega
   have gi:=ki.2 _ _ gh1 nb4
   have sl3:=(kh.sl.app (i:=3) (by decide) oi ni kh.nx ki).rw rows3
   have uj:=(H.Sub.refl oi.1.wf).add (.cells .rw [.int .i64 gn])
   have sl3j:=sl3.mono uj
   have o4:OwnC h0 (zi.add (.cells .rw [.int .i64 gn])) (v 4) 1 (gg.map encI):=sl3j.o 4 (by decide)
   have sn4:SlAt (zi.add (.cells .rw [.int .i64 gn])) (.sl zi.next 0 1 (.fix 1)) 1 [encI gn]:=SlAt.new _ rfl rfl rfl (by simp[encI]) (by simp)
   have gj:=uj.get gi
   have lj:=uj.next
   have li:=ki.1
   have lh:=kh.nx
   simp -implicitDefEqProofs(maxSteps:=999999)(disch:=first|with_reducible rfl|omega|(simp only[nA,nS,nD]<;>omega)|fail)only[go_sem,e0,e12,e13,e41,e42,cells_of gg1,cells_of gh1,cells_of gi]
   generalize zi.add (.cells .rw [.int .i64 gn])=zj at uj sl3j o4 sn4 gj lj⊢
   refine o4.app1 (by_:=8) (r:=encI gn) hw0 rfl (by decide) sn4 rfl (by rw[List.length_map];omega) (by rw[List.length_map];omega) fun w4 zk ok nk4 kk=>?_
   have ow4:=ok.one
   have ov5:=(sl3j.o 5 (by decide)).one
   have nb5:¬blkOf (v 4) (c0+3):=fun hb=>by have:=kh.sl.lo 4 (by decide) _ hb;omega
   have gk:=kk.2 _ _ gj nb5
   have sl4:=(sl3j.app (i:=4) (by decide) ok nk4 (by omega) kk).rw rows4
   have kq:Keeps (fun b=>blkOf (v 3) b∨blkOf (v 4) b) zh zk:=((ki.trans (Keeps.of uj (fun _=>False))).trans kk).mono fun b hb=>hb.elim (fun hb=>hb.elim .inl False.elim) .inr
   have km:=kh.putT hw0 hlp0 rfl l00 kq (fun b hb=>hb.elim (kh.sl.lo 3 (by decide) b) (kh.sl.lo 4 (by decide) b)) sl4 rfl rfl rfl
   simp -implicitDefEqProofs(maxSteps:=999999)(disch:=first|with_reducible rfl|omega|(simp only[nA,nS,nD]<;>omega)|fail)only[go_sem,e0,e12,e13,e41,e42,ow3,cells_one ow3,ow4,cells_one ow4,gk,cells_of gg1,cells_of gh1,cells_of gi,cells_of gj,cells_of gk,wr_succ]
   refine⟨_,_,_,_,_,_,_,rfl,km,mk.clock (by omega) ⟨r1,r2⟩ ⟨y1,y2⟩ ⟨r3,r4,r5⟩ ⟨y3,y4,y5⟩,am,ae,by simp only[List.length_append,List.length_singleton];omega,ar,ag,by omega,⟨(by simp[ev_c,ev_put,e0]<;>rfl),(by simp[ev_c,ev_put,e3]<;>rfl),(by simp[ev_c,ev_put,e4]<;>rfl),(by simp[ev_c,ev_put,e10]<;>rfl),(by simp[ev_c,ev_put,e11]<;>rfl),(by simp[ev_c,ev_put,e12]<;>rfl),(by simp[ev_c,ev_put,e13]<;>rfl)⟩,(by simp[ev_c,ev_put,e41]<;>rfl),(by simp[ev_c,ev_put]<;>rfl)⟩
  ·clear mk k
   rintro s ⟨tm,z,v,a,ss,gg,T',rfl,k,mk,am,ae,la,ar,ag,hT',⟨e0,e3,e4,e10,e11,e12,e13⟩,e41,e42⟩
   have hi':¬((nk:Int)<(nk:Int)):=by omega
   simp -implicitDefEqProofs(maxSteps:=999999)(disch:=first|with_reducible rfl|omega|(simp only[nA,nS,nD]<;>omega)|fail)only[go_sem,e0,e3,e4,e10,e11,e12,e13,e41,e42,hi']
   refine Upto_ev k.s hw0 hx hp0 k.sp (by omega) (by omega) _ fun nr z1 nr0 nr1 u1 p1 q1 nn1=>?_
   obtain⟨kr,hkr⟩:∃kr:Nat,nr=kr:=⟨nr.toNat,by omega⟩
   subst hkr
   have k:=k.turn hlp0 rfl u1 p1 q1
   simp -implicitDefEqProofs(maxSteps:=999999)(disch:=first|with_reducible rfl|omega|(simp only[nA,nS,nD]<;>omega)|fail)only[go_sem,e0,e3,e4,e10,e11,e12,e13]
   refine W_count kr (fun i s=>∃tm z v a T',s=⟨tm,z,[]⟩∧Mi h0 p x (c0+4) c0 a ss gg tt T' v z∧MkOk a ss gg tt∧a.mins=mins∧a.evs=ev∧a.rds.length≤i∧a.gps=[]∧(0≤T'∧T'≤T+100+10*i)∧FT p c0 K N tm∧(Opd.t 75).ev tm=.int .i64 (kr:Int)∧(Opd.t 76).ev tm=.int .i64 (i:Int)) ?_ ?_ (i:=0) (Nat.zero_le _)
    ⟨_,_,_,_,_,rfl,k,mk,am,ae,by rw[ar];exact Nat.zero_le _,ag,by omega,⟨(by simp[ev_c,ev_put,e0]<;>rfl),(by simp[ev_c,ev_put,e3]<;>rfl),(by simp[ev_c,ev_put,e4]<;>rfl),(by simp[ev_c,ev_put,e10]<;>rfl),(by simp[ev_c,ev_put,e11]<;>rfl),(by simp[ev_c,ev_put,e12]<;>rfl),(by simp[ev_c,ev_put,e13]<;>rfl)⟩,(by simp[ev_c,ev_put]<;>rfl),(by simp[ev_c,ev_put]<;>rfl)⟩
   ·clear mk k am ae ar ag la
    rintro i s hi ⟨tm,z,v,a,T',rfl,k,mk,am,ae,la,ag,hT',⟨e0,e3,e4,e10,e11,e12,e13⟩,e75,e76⟩
    have hi':(i:Int)<(kr:Int):=by omega
    have oC:=k.sl.o 0 (by decide)
    have hlC:q_len (v 0)=some (.int .i64 (a.cks.length:Int)):=(oC.sl (by show(a.cks.map encC).length≤_;rw[List.length_map];have:=mk.cl;omega)).lenE
    by_cases h0c:a.cks.length=0
    ·have hc':¬(0:Int)<(a.cks.length:Int):=by omega
     simp -implicitDefEqProofs(maxSteps:=999999)(disch:=first|with_reducible rfl|omega|(simp only[nA,nS,nD]<;>omega)|fail)only[go_sem,e0,e12,e13,e75,e76,hi',cells_of k.ga,hlC,hc',wr_succ]
     exact⟨_,_,_,_,_,rfl,k,mk,am,ae,by omega,ag,by omega,⟨(by simp[ev_c,ev_put,e0]<;>rfl),(by simp[ev_c,ev_put,e3]<;>rfl),(by simp[ev_c,ev_put,e4]<;>rfl),(by simp[ev_c,ev_put,e10]<;>rfl),(by simp[ev_c,ev_put,e11]<;>rfl),(by simp[ev_c,ev_put,e12]<;>rfl),(by simp[ev_c,ev_put,e13]<;>rfl)⟩,(by simp[ev_c,ev_put,e75]<;>rfl),(by simp[ev_c,ev_put]<;>rfl)⟩
    have hc':(0:Int)<(a.cks.length:Int):=by omega
    have hcl:=mk.cl
    have wc:wr .i64 ((a.cks.length:Int)-1)=(a.cks.length:Int)-1:=wr_in (by omega) (by omega)
    have we:wr .i64 (a.evs-1)=a.evs-1:=wr_in (by omega) (by omega)
    simp -implicitDefEqProofs(maxSteps:=999999)(disch:=first|with_reducible rfl|omega|(simp only[nA,nS,nD]<;>omega)|fail)only[go_sem,e0,e12,e13,e75,e76,hi',cells_of k.ga,hlC,hc',wc]
    refine Upto_ev k.s hw0 hx hp0 k.sp (by omega) (by omega) _ fun ik za ia0 ia1 ua pa qa _=>?_
    have ka:=k.turn hlp0 rfl ua pa qa
    simp -implicitDefEqProofs(maxSteps:=999999)(disch:=first|with_reducible rfl|omega|(simp only[nA,nS,nD]<;>omega)|fail)only[go_sem,e0,e12,e13,e75,e76,cells_of k.ga,cells_of ka.ga,we]
    refine Upto_ev ka.s hw0 hx hp0 ka.sp (by omega) (by omega) _ fun ie zb ib0 ib1 ub pb qb _=>?_
    have kb:=ka.turn hlp0 rfl ub pb qb
    obtain⟨jk,hjk⟩:∃jk:Nat,ik=jk:=⟨ik.toNat,by omega⟩
    obtain⟨je,hje⟩:∃je:Nat,ie=je:=⟨ie.toNat,by omega⟩
    subst hjk;subst hje
    have lss:=mk.ls
    have lgg:=mk.lg
    have hjs:jk<ss.length:=by omega
    have hjg:jk<gg.length:=by omega
    have hjt:je<tt.length:=by omega
    have uc:=(H.Sub.refl ub.wf).add (.cells .rw [.int .i64 (jk:Int),.int .i64 (je:Int),.int .i64 0])
    have kc:=kb.mono uc
    have g16:(zb.add (.cells .rw [.int .i64 (jk:Int),.int .i64 (je:Int),.int .i64 0])).get zb.next=some (.cells .rw [.int .i64 (jk:Int),.int .i64 (je:Int),.int .i64 0]):=get_add_new rfl
    have nzc:=H.next_add zb (.cells .rw [.int .i64 (jk:Int),.int .i64 (je:Int),.int .i64 0])
    obtain⟨zc,hzc⟩:∃zc,zb.add (.cells .rw [.int .i64 (jk:Int),.int .i64 (je:Int),.int .i64 0])=zc:=⟨_,rfl⟩
    rw[hzc] at uc kc g16 nzc
    have xs:SlAt zc (v 3) 1 (ss.map encI):=(kc.sl.o 3 (by decide)).sl (by show(ss.map encI).length≤_;rw[List.length_map];omega)
    have xg:SlAt zc (v 4) 1 (gg.map encI):=(kc.sl.o 4 (by decide)).sl (by show(gg.map encI).length≤_;rw[List.length_map];omega)
    have xt:SlAt zc (v 5) 1 (tt.map encI):=(kc.sl.o 5 (by decide)).sl (by show(tt.map encI).length≤_;rw[List.length_map];omega)
    obtain⟨bs3,os3,cs3,rs3,es3,hs3,qs3,_,_,ns3⟩:=xs.at hjs
    obtain⟨bs4,os4,cs4,rs4,es4,hs4,qs4,_,_,ns4⟩:=xg.at hjg
    obtain⟨bs5,os5,cs5,rs5,es5,hs5,qs5,_,_,ns5⟩:=xt.at hjt
    have v3:=ns3 (by decide)
    have v4:=ns4 (by decide)
    have v5:=ns5 (by decide)
    simp only[encI,List.getElem?_cons_zero] at v3 v4 v5
    have i3:ss[jk]? =some ss[jk]:=List.getElem?_eq_getElem hjs
    have i4:gg[jk]? =some gg[jk]:=List.getElem?_eq_getElem hjg
    have i5:tt[je]? =some tt[je]:=List.getElem?_eq_getElem hjt
    have hrun:=mk.run i3 i4
    have htm:=mk.tm _ (List.getElem_mem hjt)
    generalize ss[jk]=sv at v3 i3 hrun
    generalize gg[jk]=gv at v4 i4 hrun
    generalize tt[je]=tv at v5 i5 htm
    simp -implicitDefEqProofs(maxSteps:=999999)(disch:=first|with_reducible rfl|omega|(simp only[nA,nS,nD]<;>omega)|fail)only[go_sem,e0,e12,e13,e75,e76,cells_of k.ga,cells_of ka.ga,cells_of kb.ga,hzc,cells_of kc.gt,cells_of g16,qs3 (nat_cst jk),qs4 (nat_cst jk),qs5 (nat_cst je),hs3,hs4,hs5,v3,v4,v5]
    refine lshows_ev kc.s.wf hrun htm.1 (by omega) _ ?_
    subst hzc
    have ud:=(H.Sub.refl ub.wf).add (.cells .rw [.int .i64 (jk:Int),.int .i64 (je:Int),.int .i64 (shw sv gv tv)])
    have kd:=kb.mono ud
    have gd16:(zb.add (.cells .rw [.int .i64 (jk:Int),.int .i64 (je:Int),.int .i64 (shw sv gv tv)])).get zb.next=some (.cells .rw [.int .i64 (jk:Int),.int .i64 (je:Int),.int .i64 (shw sv gv tv)]):=get_add_new rfl
    have nzd:=H.next_add zb (.cells .rw [.int .i64 (jk:Int),.int .i64 (je:Int),.int .i64 (shw sv gv tv)])
    simp -implicitDefEqProofs(maxSteps:=999999)(disch:=first|with_reducible rfl|omega|(simp only[nA,nS,nD]<;>omega)|fail)only[go_sem,e0,e12,e13,e75,e76,cells_of kc.gt,cells_of g16,g16,qs3 (nat_cst jk),qs4 (nat_cst jk),qs5 (nat_cst je),hs3,hs4,hs5,v3,v4,v5,cells_of kd.ga,cells_of gd16]
    generalize zb.add (.cells .rw [.int .i64 (jk:Int),.int .i64 (je:Int),.int .i64 (shw sv gv tv)])=zd at ud kd gd16 nzd⊢
    have ue:=(H.Sub.refl ud.wf).add (.cells .rw [.int .i64 (jk:Int),.int .i64 (je:Int),.int .i64 (shw sv gv tv)])
    have ke:=kd.mono ue
    have o1:=ke.sl.o 1 (by decide)
    have sn:SlAt (zd.add (.cells .rw [.int .i64 (jk:Int),.int .i64 (je:Int),.int .i64 (shw sv gv tv)])) (.sl zd.next 0 1 (.fix 1)) 3 [encR ⟨jk,je,shw sv gv tv⟩]:=SlAt.new _ rfl rfl rfl (by simp[encR]) (by simp)
    rw[nzd] at sn
    have hrl:=mk.rl
    have lr:(rowsM a ss gg tt 1).length≤6:=by show(a.rds.map encR).length≤6;rw[List.length_map];omega
    skip
    generalize zd.add (.cells .rw [.int .i64 (jk:Int),.int .i64 (je:Int),.int .i64 (shw sv gv tv)])=ze at ue ke o1 sn⊢
    refine o1.app1 (by_:=24) (r:=encR ⟨jk,je,shw sv gv tv⟩) hw0 rfl (by decide) sn rfl (by omega) (by omega) fun w zf of nf kf=>?_
    have ow:=of.one
    have nb:¬blkOf (v 1) (c0+2):=fun hb=>by have:=ke.sl.lo 1 (by decide) _ hb;omega
    have gf:=kf.2 _ _ ke.ga nb
    have kg:=ke.putA (a':={a with rds:=a.rds++[⟨jk,je,shw sv gv tv⟩]}) hw0 hlp0 rfl l00 kf (fun b hb=>ke.sl.lo 1 (by decide) b hb) ((ke.sl.app (by decide) of nf ke.nx kf).rw rows1) rfl rfl rfl rfl rfl
    simp -implicitDefEqProofs(maxSteps:=999999)(disch:=first|with_reducible rfl|omega|(simp only[nA,nS,nD]<;>omega)|fail)only[go_sem,e0,e12,e13,e75,e76,gf,ow,cells_one ow,cells_of kd.ga,cells_of ke.ga,wr_succ]
    exact⟨_,_,_,_,_,rfl,kg,mk.read (by omega) i3 i4 i5,am,ae,by simp only[List.length_append,List.length_singleton];omega,ag,by omega,⟨(by simp[ev_c,ev_put,e0]<;>rfl),(by simp[ev_c,ev_put,e3]<;>rfl),(by simp[ev_c,ev_put,e4]<;>rfl),(by simp[ev_c,ev_put,e10]<;>rfl),(by simp[ev_c,ev_put,e11]<;>rfl),(by simp[ev_c,ev_put,e12]<;>rfl),(by simp[ev_c,ev_put,e13]<;>rfl)⟩,(by simp[ev_c,ev_put,e75]<;>rfl),(by simp[ev_c,ev_put]<;>rfl)⟩
   ·clear mk k am ae ar ag la
    rintro s ⟨tm,z,v,a,T',rfl,k,mk,am,ae,la,ag,hT',⟨e0,e3,e4,e10,e11,e12,e13⟩,e75,e76⟩
    have hi':¬((kr:Int)<(kr:Int)):=by omega
    simp -implicitDefEqProofs(maxSteps:=999999)(disch:=first|with_reducible rfl|omega|(simp only[nA,nS,nD]<;>omega)|fail)only[go_sem,e0,e3,e4,e10,e11,e12,e13,e75,e76,hi']
    refine Upto_ev k.s hw0 hx hp0 k.sp (by omega) (by omega) _ fun nr z1 ng0 ng1 u1 p1 q1 nn1=>?_
    obtain⟨kn,hkn⟩:∃kn:Nat,nr=kn:=⟨nr.toNat,by omega⟩
    subst hkn
    have k:=k.turn hlp0 rfl u1 p1 q1
    simp -implicitDefEqProofs(maxSteps:=999999)(disch:=first|with_reducible rfl|omega|(simp only[nA,nS,nD]<;>omega)|fail)only[go_sem,e0,e3,e4,e10,e11,e12,e13]
    refine W_count kn (fun i s=>∃tm z v a T',s=⟨tm,z,[]⟩∧Mi h0 p x (c0+4) c0 a ss gg tt T' v z∧MkOk a ss gg tt∧a.mins=mins∧a.evs=ev∧a.gps.length=i∧(0≤T'∧T'≤T+1000+10*i)∧FT p c0 K N tm∧(Opd.t 122).ev tm=.int .i64 (kn:Int)∧(Opd.t 123).ev tm=.int .i64 (i:Int)) ?_ ?_ (i:=0) (Nat.zero_le _)
     ⟨_,_,_,_,_,rfl,k,mk,am,ae,by rw[ag];rfl,by omega,⟨(by simp[ev_c,ev_put,e0]<;>rfl),(by simp[ev_c,ev_put,e3]<;>rfl),(by simp[ev_c,ev_put,e4]<;>rfl),(by simp[ev_c,ev_put,e10]<;>rfl),(by simp[ev_c,ev_put,e11]<;>rfl),(by simp[ev_c,ev_put,e12]<;>rfl),(by simp[ev_c,ev_put,e13]<;>rfl)⟩,(by simp[ev_c,ev_put]<;>rfl),(by simp[ev_c,ev_put]<;>rfl)⟩
    ·clear mk k am ae ag la
     rintro i s hi ⟨tm,z,v,a,T',rfl,k,mk,am,ae,la,hT',⟨e0,e3,e4,e10,e11,e12,e13⟩,e122,e123⟩
     have hi':(i:Int)<(kn:Int):=by omega
     have we:wr .i64 (a.evs-1)=a.evs-1:=wr_in (by omega) (by omega)
     simp -implicitDefEqProofs(maxSteps:=999999)(disch:=first|with_reducible rfl|omega|(simp only[nA,nS,nD]<;>omega)|fail)only[go_sem,e0,e12,e13,e122,e123,hi',cells_of k.ga,we]
     refine Upto_ev k.s hw0 hx hp0 k.sp (by omega) (by omega) _ fun ik za ia0 ia1 ua pa qa _=>?_
     have ka:=k.turn hlp0 rfl ua pa qa
     simp -implicitDefEqProofs(maxSteps:=999999)(disch:=first|with_reducible rfl|omega|(simp only[nA,nS,nD]<;>omega)|fail)only[go_sem,e0,e12,e13,e122,e123,cells_of k.ga,cells_of ka.ga,we]
     refine Upto_ev ka.s hw0 hx hp0 ka.sp (by omega) (by omega) _ fun ie zb ib0 ib1 ub pb qb _=>?_
     have kb:=ka.turn hlp0 rfl ub pb qb
     obtain⟨jk,hjk⟩:∃jk:Nat,ik=jk:=⟨ik.toNat,by omega⟩
     obtain⟨je,hje⟩:∃je:Nat,ie=je:=⟨ie.toNat,by omega⟩
     subst hjk;subst hje
     have hjk:jk<tt.length:=by omega
     have hjt:je<tt.length:=by omega
     have uc:=(H.Sub.refl ub.wf).add (.cells .rw [.int .i64 (jk:Int),.int .i64 (je:Int),.int .i64 0,.int .i64 0])
     have kc:=kb.mono uc
     have g17:(zb.add (.cells .rw [.int .i64 (jk:Int),.int .i64 (je:Int),.int .i64 0,.int .i64 0])).get zb.next=some (.cells .rw [.int .i64 (jk:Int),.int .i64 (je:Int),.int .i64 0,.int .i64 0]):=get_add_new rfl
     have nzc:=H.next_add zb (.cells .rw [.int .i64 (jk:Int),.int .i64 (je:Int),.int .i64 0,.int .i64 0])
     obtain⟨zc,hzc⟩:∃zc,zb.add (.cells .rw [.int .i64 (jk:Int),.int .i64 (je:Int),.int .i64 0,.int .i64 0])=zc:=⟨_,rfl⟩
     rw[hzc] at uc kc g17 nzc
     have xt:SlAt zc (v 5) 1 (tt.map encI):=(kc.sl.o 5 (by decide)).sl (by show(tt.map encI).length≤_;rw[List.length_map];omega)
     obtain⟨bs4,os4,cs4,rs4,es4,hs4,qs4,_,_,ns4⟩:=xt.at hjk
     obtain⟨bs5,os5,cs5,rs5,es5,hs5,qs5,_,_,ns5⟩:=xt.at hjt
     have v4:=ns4 (by decide)
     have v5:=ns5 (by decide)
     simp only[encI,List.getElem?_cons_zero] at v4 v5
     have i4:tt[jk]? =some tt[jk]:=List.getElem?_eq_getElem hjk
     have i5:tt[je]? =some tt[je]:=List.getElem?_eq_getElem hjt
     have htm:=mk.tm _ (List.getElem_mem hjt)
     have htk:=mk.tm _ (List.getElem_mem hjk)
     generalize tt[jk]=kv at v4 i4 htk
     generalize tt[je]=tv at v5 i5 htm
     have wd:wr .i64 (tv-kv)=tv-kv:=wr_in (by omega) (by omega)
     simp -implicitDefEqProofs(maxSteps:=999999)(disch:=first|with_reducible rfl|omega|(simp only[nA,nS,nD]<;>omega)|fail)only[go_sem,e0,e12,e13,e122,e123,cells_of k.ga,cells_of ka.ga,cells_of kb.ga,hzc,cells_of kc.gt,cells_of g17,qs4 (nat_cst jk),qs5 (nat_cst je),hs4,hs5,v4,v5,wd]
     refine around_ev kc.s hw0 hx hp0 kc.sp (by omega) (by omega) (by omega) (by omega) _ fun lo hi zd r1 r2 r3 r4 r5 ud pd qd=>?_
     have kd:=kc.turn hlp0 rfl ud pd qd
     have lkb:=kb.nx
     have g17d:=qd.2 _ _ g17 (by omega)
     have lzd:=qd.1
     have qe:=Keeps.set zd zb.next (.cells .rw [.int .i64 (jk:Int),.int .i64 (je:Int),.int .i64 lo,.int .i64 hi])
     have ue:h0.Sub (zd.set zb.next (.cells .rw [.int .i64 (jk:Int),.int .i64 (je:Int),.int .i64 lo,.int .i64 hi])):=ud.set (by have:=ub.next;omega) (by omega) hw0 _
     have ke:=kd.side hlp0 rfl lkb (fun i hi b hb e=>by have:=((kb.sl.o i hi).blk hb).2.1;omega) ue qe
     have ge17:(zd.set zb.next (.cells .rw [.int .i64 (jk:Int),.int .i64 (je:Int),.int .i64 lo,.int .i64 hi])).get zb.next=some (.cells .rw [.int .i64 (jk:Int),.int .i64 (je:Int),.int .i64 lo,.int .i64 hi]):=get_set_same rfl
     have hs5d:=hs5;have hs4d:=hs4
     simp -implicitDefEqProofs(maxSteps:=999999)(disch:=first|with_reducible rfl|omega|(simp only[nA,nS,nD]<;>omega)|fail)only[go_sem,e0,e12,e13,e122,e123,cells_of kc.gt,cells_of kd.gt,cells_of g17,cells_of g17d,g17d,qs4 (nat_cst jk),qs5 (nat_cst je),hs4,hs5,v4,v5,cells_of ke.ga,cells_of ge17]
     have nze:(zd.set zb.next (.cells .rw [.int .i64 (jk:Int),.int .i64 (je:Int),.int .i64 lo,.int .i64 hi])).next=zd.next:=H.next_set _ _ _
     generalize zd.set zb.next (.cells .rw [.int .i64 (jk:Int),.int .i64 (je:Int),.int .i64 lo,.int .i64 hi])=ze at ue ke ge17 nze⊢
     have uf:=(H.Sub.refl ue.wf).add (.cells .rw [.int .i64 (jk:Int),.int .i64 (je:Int),.int .i64 lo,.int .i64 hi])
     have kf':=ke.mono uf
     have o2:=kf'.sl.o 2 (by decide)
     have sn:SlAt (ze.add (.cells .rw [.int .i64 (jk:Int),.int .i64 (je:Int),.int .i64 lo,.int .i64 hi])) (.sl zd.next 0 1 (.fix 1)) 4 [encG ⟨jk,je,lo,hi⟩]:=SlAt.new _ nze.symm rfl rfl (by simp[encG]) (by simp)
     have hgl:=mk.gl
     have lr:(rowsM a ss gg tt 2).length≤2:=by show(a.gps.map encG).length≤2;rw[List.length_map];omega
     generalize ze.add (.cells .rw [.int .i64 (jk:Int),.int .i64 (je:Int),.int .i64 lo,.int .i64 hi])=zf at uf kf' o2 sn⊢
     refine o2.app1 (by_:=32) (r:=encG ⟨jk,je,lo,hi⟩) hw0 rfl (by decide) sn rfl (by omega) (by omega) fun w zg og ng kg=>?_
     have ow:=og.one
     have nb:¬blkOf (v 2) (c0+2):=fun hb=>by have:=kf'.sl.lo 2 (by decide) _ hb;omega
     have gg:=kg.2 _ _ kf'.ga nb
     have km:=kf'.putA (a':={a with gps:=a.gps++[⟨jk,je,lo,hi⟩]}) hw0 hlp0 rfl l00 kg (fun b hb=>kf'.sl.lo 2 (by decide) b hb) ((kf'.sl.app (by decide) og ng kf'.nx kg).rw rows2) rfl rfl rfl rfl rfl
     simp -implicitDefEqProofs(maxSteps:=999999)(disch:=first|with_reducible rfl|omega|(simp only[nA,nS,nD]<;>omega)|fail)only[go_sem,e0,e12,e13,e122,e123,gg,ow,cells_one ow,wr_succ]
     exact⟨_,_,_,_,_,rfl,km,mk.gap (by omega) i4 i5 ⟨r1,r2⟩ ⟨r3,r4⟩,am,ae,by simp only[List.length_append,List.length_singleton];omega,by omega,⟨(by simp[ev_c,ev_put,e0]<;>rfl),(by simp[ev_c,ev_put,e3]<;>rfl),(by simp[ev_c,ev_put,e4]<;>rfl),(by simp[ev_c,ev_put,e10]<;>rfl),(by simp[ev_c,ev_put,e11]<;>rfl),(by simp[ev_c,ev_put,e12]<;>rfl),(by simp[ev_c,ev_put,e13]<;>rfl)⟩,(by simp[ev_c,ev_put,e122]<;>rfl),(by simp[ev_c,ev_put]<;>rfl)⟩
    ·rintro s ⟨tm,z,v,a,T',rfl,k,mk,am,ae,la,hT',⟨e0,e3,e4,e10,e11,e12,e13⟩,e122,e123⟩
     have hi':¬((kn:Int)<(kn:Int)):=by omega
     have oo:=fun i (hi:i<6)=>(k.sl.o i hi).one
     have y0:=oo 0 (by decide);have y1:=oo 1 (by decide);have y2:=oo 2 (by decide);have y3:=oo 3 (by decide);have y4:=oo 4 (by decide);have y5:=oo 5 (by decide)
     have lz:=k.nx
     simp -implicitDefEqProofs(maxSteps:=999999)(disch:=first|with_reducible rfl|omega|(simp only[nA,nS,nD]<;>omega)|fail)only[go_sem,e0,e3,e4,e10,e11,e12,e13,e122,e123,hi',cells_of k.ga,cells_of k.gt,k.g0,k.g1,y0,y1,y2,y3,y4,y5]
     have s7:h0.Sub ((z.set c0 (.cells .rw [.int .i64 a.mins,.int .i64 a.evs,v 0,v 1,v 2])).set (c0+1) (.cells .rw [v 3,v 4,v 5])):=(k.s.set l00 (by omega) hw0 _).set (by omega) (by rw[H.next_set];omega) hw0 _
     have kz:=(Keeps.set z c0 (.cells .rw [.int .i64 a.mins,.int .i64 a.evs,v 0,v 1,v 2])).trans (Keeps.set (z.set c0 (.cells .rw [.int .i64 a.mins,.int .i64 a.evs,v 0,v 1,v 2])) (c0+1) (.cells .rw [v 3,v 4,v 5]))
     have sl:=k.sl.keep kz s7 fun b hb=>by rcases hb with hb|hb<;>omega
     have q1:=mk.cl;have q2:=mk.rl;have q3:=mk.gl;have q4:=mk.ls;have q5:=mk.lg
     have w:∀i,i<6→(rowsM a ss gg tt i).length≤6→SlAt _ (v i) (sz6 i) (rowsM a ss gg tt i):=fun i hi hl=>(sl.o i hi).sl (by omega)
     exact q _ T' a ss gg tt _ _ _ _ _ _ ⟨s7,k.sp.keep kz (by omega),⟨w 0 (by decide) (by show(a.cks.map encC).length≤6;rw[List.length_map];omega),w 1 (by decide) (by show(a.rds.map encR).length≤6;rw[List.length_map];omega),w 2 (by decide) (by show(a.gps.map encG).length≤6;rw[List.length_map];omega)⟩,
      w 3 (by decide) (by show(ss.map encI).length≤6;rw[List.length_map];omega),w 4 (by decide) (by show(gg.map encI).length≤6;rw[List.length_map];omega),w 5 (by decide) (by show(tt.map encI).length≤6;rw[List.length_map];omega),mk,by omega⟩
end Go.Ab.Tryz
namespace Go.Ab.Tryz
open Go.Proofs
theorem low_le {L:List Int}(hL:L.length=25){a b:Nat}(ha:a<5)(hb:b<5)(v:Int){x y:Nat}(hx:x<5)(hy:y<5):mg (low L a b v) x y≤mg L x y:=by
 rw[mg_low hL ha hb v x y hx hy]
 split
 ·rename_i e;obtain⟨rfl,rfl⟩:=e;omega
 ·exact Int.le_refl _
theorem rdL_le {L:List Int}(hL:L.length=25){e:Nat}(he:e<5)(s:Int × Int){x y:Nat}(hx:x<5)(hy:y<5):mg (rdL L e s) x y≤mg L x y:=
 Int.le_trans (low_le (by rw[low_len];exact hL) he (by decide) _ hx hy) (low_le hL (by decide) he _ hx hy)
theorem readsL_le {a:At}(r:Right a){cnt:Nat→Bool}{k:Int}{x:Int × Int}{u v:Nat}(hu:u<5)(hv:v<5):∀{l:List Rd} {i:Nat} {L:List Int},(∀r∈l,r∈a.rds)→L.length=25→mg (readsL a cnt k x l i L).1 u v≤mg L u v
 |[],_,_,_,_=>Int.le_refl _
 |rd::l,i,L,hl,hL=>by
  obtain⟨yk,ye,ek,ee,hyk,hye,_⟩:=r.rd (hl rd (List.mem_cons_self ..))
  have hl':=fun x hx=>hl x (List.mem_cons_of_mem _ hx)
  rw[readsL]
  split
  ·exact readsL_le r hu hv hl' hL
  ·split
   ·exact Int.le_refl _
   ·exact Int.le_trans (readsL_le r hu hv hl' (by rw[rdL,low_len,low_len];exact hL)) (rdL_le hL (by omega) _ hu hv)
theorem readL_le {a:At}(r:Right a){cnt:Nat→Bool}{k:Int}{x:Int × Int}{L:List Int}(hL:In5 240 L)(ht:(readL a cnt k x L).2=true){u v:Nat}(hu:u<5)(hv:v<5):mg (readL a cnt k x L).1 u v≤mg L u v:=by
 have hin:=readsL_in (cnt:=cnt) (k:=k) (x:=x) (i:=0) r (fun y (hy:y∈a.rds)=>hy) hL
 unfold readL at ht⊢
 by_cases h1:(readsL a cnt k x a.rds 0 L).2=true
 ·rw[if_pos h1] at ht⊢
  exact Int.le_trans (((clos_spec (by decide) (by decide) hin).1 ht).2.2.1 u v hu hv) (readsL_le r hu hv (fun r hr=>hr) hL.len)
 ·rw[if_neg h1] at ht;cases ht
theorem moreL_le {a:At}(r:Right a){cnt:Nat→Bool}{u v:Nat}(hu:u<5)(hv:v<5):∀{n:Nat} {runs:Runs} {L:List Int},In5 240 L→∀t∈moreL a cnt n runs L,mg t.2 u v≤mg L u v
 |0,runs,L,h,t,ht=>by rw[moreL,List.mem_singleton] at ht;rw[ht];exact Int.le_refl _
 |n+1,runs,L,h,t,ht=>by
  unfold moreL at ht
  cases hc:a.cks[runs.length]? with
  |none=>rw[hc] at ht;cases ht
  |some c=>
   rw[hc] at ht
   simp only[List.mem_flatMap] at ht
   obtain⟨i,_,j,_,ht⟩:=ht
   split at ht
   ·rename_i hk;exact Int.le_trans (moreL_le r hu hv (readL_in r h hk) t ht) (readL_le r h hk hu hv)
   ·cases ht
theorem gaps_le {a:At}(r:Right a){u v:Nat}(hu:u<5)(hv:v<5):∀{l:List Gp} {L:List Int},(∀g∈l,g∈a.gps)→L.length=25→mg (l.foldl gapL L) u v≤mg L u v
 |[],_,_,_=>Int.le_refl _
 |g::l,L,hl,hL=>by
  obtain⟨f,t,e1,e2,hf,ht,_⟩:=r.gap (hl g (List.mem_cons_self ..))
  rw[List.foldl_cons]
  refine Int.le_trans (gaps_le r hu hv (fun x hx=>hl x (List.mem_cons_of_mem _ hx)) (by rw[gapL,low_len,low_len];exact hL)) ?_
  rw[gapL,e1,e2,Int.toNat_natCast,Int.toNat_natCast]
  exact Int.le_trans (low_le (by rw[low_len];exact hL) (by omega) (by omega) _ hu hv) (low_le hL (by omega) (by omega) _ hu hv)
theorem cases_diag {a:At}(r:Right a){cnt:Nat→Bool}{t:Runs × List Int}(ht:t∈casesL a cnt){u:Nat}(hu:u<5):mg t.2 u u=0:=by
 have hd:=(cases_sound r ht).1.diag u hu
 unfold casesL at ht
 split at ht
 ·rename_i hc
  have h1:=moreL_le r hu hu (free_clos_in r hc) t ht
  have h2:=((clos_spec (by decide) (by decide) (freeL_in r)).1 hc).2.2.1 u u hu hu
  have h3:mg (freeL a) u u≤mg (bsL a.mins) u u:=gaps_le r hu hu (fun g hg=>hg) (bsU_len _ _ _)
  rw[mg_bs _ hu hu,if_pos (.inr rfl)] at h3
  omega
 ·cases ht
theorem errT_ok {a:At}(r:Right a)(hne:allC a≠[]):errT a false=0:=by
 unfold errT;rw[if_neg (by rw[checkA_iff.2 r];simp),if_neg (by simp),if_neg hne]
end Go.Ab.Tryz
namespace Go.Ab.Tryz
open Go.Proofs
def latY (L:List Int)(f b:Nat):Int:=mg L f b-mg L f 4
theorem lat_tru {a:At}(r:Right a){cnt:Nat→Bool}{t:Runs × List Int}(ht:t∈casesL a cnt){f:Nat}(hf:f<5):Tru a cnt t.1 (latY t.2 f):=by
 obtain⟨tri,_,_,hs⟩:=cases_sound r ht
 refine(hs _ (by simp[latY])).1 fun c d hc hd=>?_
 have:=tri.tri f d c hf hd hc
 unfold latY;omega
theorem lat_4 {a:At}(r:Right a){cnt:Nat→Bool}{t:Runs × List Int}(ht:t∈casesL a cnt)(b:Nat):latY t.2 4 b=mg t.2 4 b:=by
 have:=cases_diag r ht (u:=4) (by omega)
 unfold latY;omega
theorem lat_self {a:At}(r:Right a){cnt:Nat→Bool}{t:Runs × List Int}(ht:t∈casesL a cnt){b:Nat}(hb:b<5):latY t.2 b b= -mg t.2 b 4:=by
 have:=cases_diag r ht (u:=b) hb
 unfold latY;omega
def ckFit (c:Ck)(x:Int × Int):Bool:=inB x.1 c.sl c.sh&&inB x.2 c.gl c.gh
def rdFit (ss gg tt:List Int)(r:Rd):Bool:=decide (shw (ss.getD r.ck.toNat 0) (gg.getD r.ck.toNat 0) (tt.getD r.ev.toNat 0)=r.sh)
def gpFit (tt:List Int)(g:Gp):Bool:=inB (tt.getD g.to.toNat 0-tt.getD g.fr.toNat 0) g.lo g.hi
def lenFit (a:At)(ss gg tt:List Int):Bool:=decide (ss.length=a.cks.length)&&(decide (gg.length=a.cks.length)&&decide ((tt.length:Int)=a.evs))
def cksFit (a:At)(ss gg:List Int):Bool:=(a.cks.zip (ss.zip gg)).all fun x=>ckFit x.1 x.2
def timFit (a:At)(tt:List Int):Bool:=tt.all fun t=>inB t 0 a.mins
def fitB (a:At)(ss gg tt:List Int):Bool:=lenFit a ss gg tt&&(timFit a tt&&(cksFit a ss gg&&(a.rds.all (rdFit ss gg tt)&&a.gps.all (gpFit tt))))
theorem lenFit_iff {a:At}{ss gg tt:List Int}:lenFit a ss gg tt=true↔ss.length=a.cks.length∧gg.length=a.cks.length∧(tt.length:Int)=a.evs:=by
 simp only[lenFit,Bool.and_eq_true,decide_eq_true_eq]
theorem getD_at {l:List Int}{i:Nat}(h:i<l.length):l.getD i 0=l[i]:=by rw[List.getD_eq_getElem?_getD,List.getElem?_eq_getElem h];rfl
theorem Right.rdn {a:At}(r:Right a){x:Rd}(hx:x∈a.rds):∃i e:Nat,x.ck=i∧x.ev=e∧i<a.cks.length∧(e:Int)<a.evs∧e<4:=by
 have h:=r.ro x hx
 have he:=r.evs
 simp only[At.rdOk,At.ckB,At.evB,Bool.and_eq_true,inB_iff] at h
 exact⟨x.ck.toNat,x.ev.toNat,by omega,by omega,by omega,by omega,by omega⟩
theorem Right.gpn {a:At}(r:Right a){x:Gp}(hx:x∈a.gps):∃i e:Nat,x.fr=i∧x.to=e∧(i:Int)<a.evs∧(e:Int)<a.evs∧i<4∧e<4:=by
 have h:=r.go x hx
 have he:=r.evs
 simp only[At.gpOk,At.evB,Bool.and_eq_true,inB_iff] at h
 exact⟨x.fr.toNat,x.to.toNat,by omega,by omega,by omega,by omega,by omega,by omega⟩
theorem zip_get {ss gg:List Int}{i:Nat}{s:Int × Int}:(ss.zip gg)[i]? =some s↔ss[i]? =some s.1∧gg[i]? =some s.2:=List.getElem?_zip_eq_some
theorem fitB_iff {a:At}(r:Right a){ss gg tt:List Int}:fitB a ss gg tt=true↔(ss.length=a.cks.length∧gg.length=a.cks.length∧(tt.length:Int)=a.evs)∧Tru a (fun _=>true) (ss.zip gg) (timeF tt):=by
 have he:=r.evs
 have hm:=r.mins
 simp only[fitB,Bool.and_eq_true,lenFit_iff,timFit,cksFit,List.all_eq_true]
 refine and_congr_right fun⟨l1,l2,l3⟩=>⟨fun⟨h1,h2,h3,h4⟩=>?_,fun t=>⟨fun n hn=>?_,fun x hx=>?_,fun x hx=>?_,fun x hx=>?_⟩⟩
 ·refine⟨by rw[List.length_zip,l1,l2,Nat.min_self],fun k s hs=>?_,?_,fun e _=>?_,fun g hg=>?_,fun j x hx _ s hs=>?_⟩
  ·obtain⟨q1,q2⟩:=zip_get.1 hs
   have hk:=getl q1
   have hc:a.cks[k]? =some a.cks[k]:=List.getElem?_eq_getElem (by omega)
   have:=h2 (a.cks[k],s) (List.mem_of_getElem? (i:=k) (List.getElem?_zip_eq_some.2 ⟨hc,hs⟩))
   simp only[ckFit,Bool.and_eq_true,inB_iff] at this
   exact RunOf.mk' hc this.1.1 this.1.2 this.2.1 this.2.2
  ·unfold timeF
   rw[List.getD_eq_getElem?_getD,List.getElem?_eq_none (by omega)];rfl
  ·unfold timeF
   rw[List.getD_eq_getElem?_getD]
   cases h:tt[e]? with
   |none=>exact⟨Int.le_refl _,by show(0:Int)≤_;omega⟩
   |some t=>exact(inB_iff ..).1 (h1 t (List.mem_of_getElem? h))
  ·have:=h4 g hg
   simp only[gpFit,inB_iff] at this
   exact this
  ·obtain⟨q1,q2⟩:=zip_get.1 hs
   have:=h3 x (List.mem_of_getElem? hx)
   simp only[rdFit,decide_eq_true_eq] at this
   rw[List.getD_eq_getElem?_getD,List.getD_eq_getElem?_getD,q1,q2] at this
   exact this
 ·obtain⟨i,hi,rfl⟩:=List.mem_iff_getElem.1 hn
  have:=t.mins i (by omega)
  rw[inB_iff]
  rwa[timeF_at (List.getElem?_eq_getElem hi)] at this
 ·obtain⟨i,hi⟩:=List.mem_iff_getElem?.1 hx
  obtain⟨q1,q2⟩:=List.getElem?_zip_eq_some.1 hi
  obtain⟨⟨c,hc,h1,h2,h3,h4⟩⟩:=t.run i _ q2
  rw[q1] at hc;cases hc
  simp only[ckFit,Bool.and_eq_true,inB_iff]
  exact⟨⟨h1,h2⟩,h3,h4⟩
 ·obtain⟨j,hj⟩:=List.mem_iff_getElem?.1 hx
  obtain⟨i,e,ei,ee,hi,_,_⟩:=r.rdn hx
  have hs:(ss.zip gg)[x.ck.toNat]? =some (ss.getD x.ck.toNat 0,gg.getD x.ck.toNat 0):=by
   rw[ei,Int.toNat_natCast,zip_get,getD_at (by omega),getD_at (by omega)]
   exact⟨List.getElem?_eq_getElem (by omega),List.getElem?_eq_getElem (by omega)⟩
  simp only[rdFit,decide_eq_true_eq]
  exact t.rds j x hj rfl _ hs
 ·simp only[gpFit,inB_iff]
  exact t.gaps x hx
theorem Tru.cut {a:At}(r:Right a){cnt:Nat→Bool}{runs:Runs}{y:Nat→Int}(t:Tru a cnt runs y):Tru a cnt runs (timeF ((List.range a.evs.toNat).map y)):=by
 have he:=r.evs
 have hm:=r.mins
 have key:∀e:Nat,(e:Int)<a.evs→timeF ((List.range a.evs.toNat).map y) e=y e:=fun e h=>timeF_at (by rw[List.getElem?_map,List.getElem?_range (by omega)];rfl)
 have key2:∀e:Nat,a.evs≤(e:Int)→timeF ((List.range a.evs.toNat).map y) e=0:=fun e h=>by
  unfold timeF
  rw[List.getD_eq_getElem?_getD,List.getElem?_eq_none (by rw[List.length_map,List.length_range];omega)];rfl
 refine⟨t.len,t.run,key2 4 (by omega),fun e h=>?_,fun g hg=>?_,fun j x hx hc s hs=>?_⟩
 ·rcases(by omega:(e:Int)<a.evs∨a.evs≤(e:Int)) with h1|h1
  ·rw[key e h1];exact t.mins e h
  ·rw[key2 e h1];omega
 ·obtain⟨i,e,e1,e2,h1,h2,_,_⟩:=r.gpn hg
  have:=t.gaps g hg
  rw[e1,e2,Int.toNat_natCast,Int.toNat_natCast] at this⊢
  rw[key i h1,key e h2];exact this
 ·obtain⟨i,e,e1,e2,_,h2,_⟩:=r.rdn (List.mem_of_getElem? hx)
  have:=t.rds j x hx hc s hs
  rw[e2,Int.toNat_natCast] at this⊢
  rw[key e h2];exact this
theorem zip_unzip (l:Runs):(l.map Prod.fst).zip (l.map Prod.snd)=l:=by
 induction l with
 |nil=>rfl
 |cons x l ih=>simp only[List.map_cons,List.zip_cons_cons,ih]
theorem Tru.fit {a:At}(r:Right a){runs:Runs}{y:Nat→Int}(t:Tru a (fun _=>true) runs y):fitB a (runs.map Prod.fst) (runs.map Prod.snd) ((List.range a.evs.toNat).map y)=true:=by
 have he:=r.evs
 refine(fitB_iff r).2 ⟨⟨by rw[List.length_map];exact t.len,by rw[List.length_map];exact t.len,by rw[List.length_map,List.length_range];omega⟩,?_⟩
 rw[zip_unzip]
 exact t.cut r
end Go.Ab.Tryz
namespace Go.Ab.Tryz
open Go.Proofs
abbrev TruA (a:At) (runs:Runs) (y:Nat→Int):Prop:=Tru a (fun _=>true) runs y
theorem noC {a:At}(r:Right a):allC a=[]↔∀runs y,¬TruA a runs y:=by
 constructor
 ·intro h runs y t
  obtain⟨L,hL⟩:=cases_full r t
  have:(runs,L)∈allC a:=hL
  rw[h] at this;cases this
 ·intro h
  cases hc:allC a with
  |nil=>rfl
  |cons t l=>
   have ht:t∈casesL a (fun _=>true):=by show t∈allC a;rw[hc];exact List.mem_cons_self ..
   exact absurd (lat_tru r ht (f:=4) (by omega)) (h _ _)
theorem run_ck {a:At}{runs:Runs}{y:Nat→Int}(t:TruA a runs y){k:Nat}{c:Ck}(hc:a.cks[k]? =some c):∃s,runs[k]? =some s∧c.sl≤s.1∧s.1≤c.sh∧c.gl≤s.2∧s.2≤c.gh:=by
 have hk:=getl hc
 rw[←t.len] at hk
 refine⟨_,List.getElem?_eq_getElem hk,?_⟩
 obtain⟨⟨c',hc',h⟩⟩:=t.run k _ (List.getElem?_eq_getElem hk)
 rw[hc] at hc';cases hc'
 exact h
def At.addR (a:At)(x:Rd):At:={a with rds:=a.rds++[x]}
def At.addG (a:At)(g:Gp):At:={a with gps:=a.gps++[g]}
theorem mem_get_app {α:Type}{l:List α}{x:α}{i:Nat}{y:α}:(l++[x])[i]? =some y↔l[i]? =some y∨i=l.length∧y=x:=by
 rcases Nat.lt_trichotomy i l.length with h|h|h
 ·rw[List.getElem?_append_left h]
  constructor
  ·exact .inl
  ·rintro(h'|⟨h',_⟩)
   ·exact h'
   ·omega
 ·subst h
  rw[List.getElem?_append_right (Nat.le_refl _),Nat.sub_self,List.getElem?_eq_none (Nat.le_refl _)]
  simp only[List.getElem?_cons_zero,Option.some.injEq,reduceCtorEq,false_or,true_and]
  exact eq_comm
 ·rw[List.getElem?_eq_none (by simp;omega),List.getElem?_eq_none (by omega)]
  constructor
  ·intro h';cases h'
  ·rintro(h'|⟨h',_⟩)
   ·cases h'
   ·omega
theorem tru_addR {a:At}{x:Rd}{runs:Runs}{y:Nat→Int}:TruA (a.addR x) runs y↔TruA a runs y∧∀s,runs[x.ck.toNat]? =some s→shw s.1 s.2 (y x.ev.toNat)=x.sh:=by
 constructor
 ·intro t
  exact⟨⟨t.len,fun k s hs=>⟨(t.run k s hs).is⟩,t.beg,t.mins,t.gaps,fun j z hz hc s hs=>t.rds j z (mem_get_app.2 (.inl hz)) hc s hs⟩,fun s hs=>t.rds a.rds.length x (mem_get_app.2 (.inr ⟨rfl,rfl⟩)) rfl s hs⟩
 ·rintro⟨t,h⟩
  refine⟨t.len,fun k s hs=>⟨(t.run k s hs).is⟩,t.beg,t.mins,t.gaps,fun j z hz hc s hs=>?_⟩
  rcases mem_get_app.1 hz with hz|⟨_,rfl⟩
  ·exact t.rds j z hz hc s hs
  ·exact h s hs
theorem right_addR {a:At}(r:Right a){x:Rd}(h1:a.rds.length<8)(h2:x.bd=true)(h3:a.rdOk x=true):Right (a.addR x):=by
 have hl:=r.lens
 have h0:=r.mins
 have he:=r.evs
 refine⟨?_,r.cb,fun z hz=>?_,r.gb,fun z hz=>?_,r.go,r.co,r.gd,r.cs⟩
 ·simp only[At.sz,At.addR,Bool.and_eq_true,decide_eq_true_eq,inB_iff,List.length_append,List.length_singleton];exact⟨by omega,by omega,by first|omega|exact decide_eq_true (by omega),by first|omega|exact decide_eq_true (by omega),by first|omega|exact decide_eq_true (by omega)⟩
 ·rcases List.mem_append.1 hz with hz|hz
  ·exact r.rb z hz
  ·rw[List.mem_singleton] at hz;subst hz;exact h2
 ·rcases List.mem_append.1 hz with hz|hz
  ·exact r.ro z hz
  ·rw[List.mem_singleton] at hz;subst hz;exact h3
def At.setC (a:At)(k:Nat)(c:Ck):At:={a with cks:=a.cks.set k c}
theorem right_setC {a:At}(r:Right a){k:Nat}{c c':Ck}(hc:a.cks[k]? =some c)(h:c.sl≤c'.sl∧c'.sl≤c'.sh∧c'.sh≤c.sh∧c.gl≤c'.gl∧c'.gl≤c'.gh∧c'.gh≤c.gh):Right (a.setC k c'):=by
 have hm:=List.mem_of_getElem? hc
 have h1:=r.cb c hm;have h2:=r.co c hm;have h3:=r.cs c hm
 simp only[Ck.bd,Ck.ord,Ck.sm,within,Bool.and_eq_true,decide_eq_true_eq,inB_iff] at h1 h2 h3
 have hl:=r.lens
 have h0:=r.mins
 have he:=r.evs
 have mem:∀{p:Ck→Bool},(∀c∈a.cks,p c=true)→p c'=true→∀c∈(a.setC k c').cks,p c=true:=fun h1 h2 z hz=>by
  rcases List.mem_or_eq_of_mem_set hz with hz|hz
  ·exact h1 z hz
  ·rw[hz];exact h2
 refine⟨?_,mem r.cb ?_,r.rb,r.gb,fun z hz=>?_,r.go,mem r.co ?_,r.gd,mem r.cs ?_⟩
 ·simp only[At.sz,At.setC,Bool.and_eq_true,decide_eq_true_eq,inB_iff,List.length_set];exact⟨by omega,by omega,by first|omega|exact decide_eq_true (by omega),by first|omega|exact decide_eq_true (by omega),by first|omega|exact decide_eq_true (by omega)⟩
 ·simp only[Ck.bd,within,Bool.and_eq_true,inB_iff];omega
 ·have:=r.ro z hz
  simp only[At.rdOk,At.ckB,At.evB,At.setC,Bool.and_eq_true,inB_iff,List.length_set] at this⊢
  exact this
 ·simp only[Ck.ord,Bool.and_eq_true,decide_eq_true_eq];omega
 ·simp only[Ck.sm,Bool.and_eq_true,decide_eq_true_eq];omega
theorem tru_setC {a:At}{k:Nat}{c c':Ck}(hc:a.cks[k]? =some c)(h:c.sl≤c'.sl∧c'.sh≤c.sh∧c.gl≤c'.gl∧c'.gh≤c.gh){runs:Runs}{y:Nat→Int}:
  TruA (a.setC k c') runs y↔TruA a runs y∧∀s,runs[k]? =some s→c'.sl≤s.1∧s.1≤c'.sh∧c'.gl≤s.2∧s.2≤c'.gh:=by
 have hk:=getl hc
 have hk':(a.setC k c').cks[k]? =some c':=by simp[At.setC,hk]
 constructor
 ·intro t
  have h1:∀s,runs[k]? =some s→c'.sl≤s.1∧s.1≤c'.sh∧c'.gl≤s.2∧s.2≤c'.gh:=fun s hs=>by
   obtain⟨⟨z,hz,q⟩⟩:=t.run k s hs
   rw[hk'] at hz;cases hz;exact q
  refine⟨⟨by rw[t.len];simp[At.setC],fun j s hs=>?_,t.beg,t.mins,t.gaps,t.rds⟩,h1⟩
  by_cases e:j=k
  ·subst e
   have:=h1 s hs
   exact⟨c,hc,by omega,by omega,by omega,by omega⟩
  ·obtain⟨⟨z,hz,q⟩⟩:=t.run j s hs
   refine⟨z,?_,q⟩
   simp only[At.setC] at hz
   rwa[List.getElem?_set_ne (fun e'=>e e'.symm)] at hz
 ·rintro⟨t,h1⟩
  refine⟨by rw[t.len];simp[At.setC],fun j s hs=>?_,t.beg,t.mins,t.gaps,t.rds⟩
  by_cases e:j=k
  ·subst e
   exact⟨c',hk',h1 s hs⟩
  ·obtain⟨⟨z,hz,q⟩⟩:=t.run j s hs
   refine⟨z,?_,q⟩
   simp only[At.setC]
   rwa[List.getElem?_set_ne (fun e'=>e e'.symm)]
end Go.Ab.Tryz
namespace Go.Ab
def dd {α:Type}[DecidableEq α](l:List α):Nat→List α
 |0=>[]
 |n+1=>match l[n]? with
  |none=>dd l n
  |some x=>if 0<n∧l[n-1]? =some x then dd l n else dd l n++[x]
section
variable {α:Type} [DecidableEq α] {l:List α}
theorem dd_same {n:Nat}{x:α}(h:l[n]? =some x)(h2:0<n∧l[n-1]? =some x):dd l (n+1)=dd l n:=by simp only[dd,h];rw[if_pos h2]
theorem dd_new {n:Nat}{x:α}(h:l[n]? =some x)(h2:¬(0<n∧l[n-1]? =some x)):dd l (n+1)=dd l n++[x]:=by simp only[dd,h];rw[if_neg h2]
theorem dd_mem {x:α}:∀{n:Nat},x∈dd l n↔∃i,i<n∧l[i]? =some x
 |0=>by simp[dd]
 |n+1=>by
  have ih:=dd_mem (x:=x) (n:=n)
  cases h:l[n]? with
  |none=>
   simp only[dd,h]
   rw[ih]
   constructor
   ·rintro⟨i,hi,e⟩;exact⟨i,by omega,e⟩
   ·rintro⟨i,hi,e⟩
    by_cases hn:i=n
    ·subst hn;rw[h] at e;cases e
    ·exact⟨i,by omega,e⟩
  |some z=>
   by_cases h2:0<n∧l[n-1]? =some z
   ·rw[dd_same h h2,ih]
    constructor
    ·rintro⟨i,hi,e⟩;exact⟨i,by omega,e⟩
    ·rintro⟨i,hi,e⟩
     by_cases hn:i=n
     ·subst hn;rw[h] at e;cases e;exact⟨i-1,by omega,h2.2⟩
     ·exact⟨i,by omega,e⟩
   ·rw[dd_new h h2,List.mem_append,List.mem_singleton,ih]
    constructor
    ·rintro(⟨i,hi,e⟩|rfl)
     ·exact⟨i,by omega,e⟩
     ·exact⟨n,by omega,h⟩
    ·rintro⟨i,hi,e⟩
     by_cases hn:i=n
     ·subst hn;rw[h] at e;cases e;exact .inr rfl
     ·exact .inl ⟨i,by omega,e⟩
theorem dd_all {x:α}:x∈dd l l.length↔x∈l:=by
 rw[dd_mem,List.mem_iff_getElem?]
 constructor
 ·rintro⟨i,_,e⟩;exact⟨i,e⟩
 ·rintro⟨i,e⟩
  refine⟨i,?_,e⟩
  rcases Nat.lt_or_ge i l.length with q|q
  ·exact q
  ·rw[List.getElem?_eq_none q] at e;cases e
theorem dd_len:∀{n:Nat},(dd l n).length≤n
 |0=>by simp[dd]
 |n+1=>by
  have ih:=dd_len (n:=n)
  unfold dd
  split
  ·omega
  ·split
   ·omega
   ·rw[List.length_append,List.length_singleton];omega
theorem dd_pos {n:Nat}(hl:0<l.length)(hn:0<n):0<(dd l n).length:=by
 have:l[0]∈dd l n:=dd_mem.2 ⟨0,hn,List.getElem?_eq_getElem hl⟩
 exact List.length_pos_of_mem this
end
theorem dd_rise {l:List Int}(h:l.Pairwise (· ≤ ·)):∀{n:Nat},n≤l.length→(dd l n).Pairwise (· < ·)
 |0,_=>by simp[dd]
 |n+1,hn=>by
  have ih:=dd_rise h (n:=n) (by omega)
  have hx:l[n]? =some l[n]:=List.getElem?_eq_getElem (by omega)
  by_cases h2:0<n∧l[n-1]? =some l[n]
  ·rw[dd_same hx h2];exact ih
  ·rw[dd_new hx h2,List.pairwise_append]
   refine⟨ih,List.pairwise_singleton ..,fun a ha b hb=>?_⟩
   rw[List.mem_singleton] at hb;subst hb
   obtain⟨i,hi,e⟩:=dd_mem.1 ha
   have hp:=List.pairwise_iff_getElem.1 h
   rw[List.getElem?_eq_getElem (by omega)] at e
   cases e
   have h3:=hp i n (by omega) (by omega) hi
   have hm:=hp (n-1) n (by omega) (by omega) (by omega)
   have him:l[i]≤l[n-1]:=by
    by_cases e:i=n-1
    ·subst e;exact Int.le_refl _
    ·exact hp i (n-1) (by omega) (by omega) (by omega)
   have hne:l[n-1]≠l[n]:=fun e=>h2 ⟨by omega,by rw[List.getElem?_eq_getElem (by omega),e]⟩
   omega
def risL (l:List Int):List Int:=dd (sortI l) (sortI l).length
theorem risL_mem {l:List Int}{x:Int}:x∈risL l↔x∈l:=by unfold risL;rw[dd_all];exact(sortI_perm l).mem_iff
theorem risL_rise (l:List Int):(risL l).Pairwise (· < ·):=dd_rise (sortI_sorted l) (Nat.le_refl _)
theorem rise_head {l:List Int}(h:l.Pairwise (· < ·)){x:Int}(hx:x∈l)(h0:0<l.length):l[0]≤x:=by
 obtain⟨i,hi,rfl⟩:=List.mem_iff_getElem.1 hx
 by_cases e:i=0
 ·subst e;exact Int.le_refl _
 ·have:=List.pairwise_iff_getElem.1 h 0 i h0 hi (by omega);omega
theorem rise_last {l:List Int}(h:l.Pairwise (· < ·)){x:Int}(hx:x∈l):x≤l[l.length-1]'(by have:=List.length_pos_of_mem hx;omega):=by
 obtain⟨i,hi,rfl⟩:=List.mem_iff_getElem.1 hx
 by_cases e:i=l.length-1
 ·subst e;exact Int.le_refl _
 ·have:=List.pairwise_iff_getElem.1 h i (l.length-1) hi (by omega) (by omega);omega
namespace Tryz
open Go.Proofs
def runsK (a:At)(k:Nat):Runs:=(allC a).map fun t=>t.1.getD k (0,0)
def setL (a:At)(k:Nat)(of:Int × Int→Int):List Int:=risL ((dd (runsK a k) (runsK a k).length).map of)
theorem setL_rise (a:At)(k:Nat)(of:Int × Int→Int):(setL a k of).Pairwise (· < ·):=risL_rise _
theorem setL_mem {a:At}(r:Right a){k:Nat}(hk:k<a.cks.length){of:Int × Int→Int}{n:Int}:n∈setL a k of↔∃runs y s,TruA a runs y∧runs[k]? =some s∧of s=n:=by
 unfold setL
 rw[risL_mem,List.mem_map]
 constructor
 ·rintro⟨s,hs,e⟩
  rw[dd_all,runsK,List.mem_map] at hs
  obtain⟨t,ht,es⟩:=hs
  have hl:=(cases_sound r ht).2.1
  refine⟨t.1,_,s,lat_tru r ht (f:=4) (by omega),?_,e⟩
  rw[←es,List.getD_eq_getElem?_getD,List.getElem?_eq_getElem (by omega)];rfl
 ·rintro⟨runs,y,s,t,hs,e⟩
  obtain⟨L,hL⟩:=cases_full r t
  refine⟨s,?_,e⟩
  rw[dd_all,runsK,List.mem_map]
  exact⟨(runs,L),hL,by rw[List.getD_eq_getElem?_getD];show(runs[k]?).getD _=s;rw[hs];rfl⟩
def shwN (a:At)(k:Nat)(m:List Int→Int):List Int:=risL ((allC a).map fun t=>shw (t.1.getD k (0,0)).1 (t.1.getD k (0,0)).2 (m t.2))
theorem shwN_mem {a:At}{k:Nat}{m:List Int→Int}{n:Int}:n∈shwN a k m↔∃t∈allC a,shw (t.1.getD k (0,0)).1 (t.1.getD k (0,0)).2 (m t.2)=n:=by
 unfold shwN
 rw[risL_mem,List.mem_map]
theorem shwN_pos {a:At}{k:Nat}{m:List Int→Int}(h:allC a≠[]):0<(shwN a k m).length:=by
 obtain⟨t,ht⟩:=List.exists_mem_of_ne_nil _ h
 exact List.length_pos_of_mem (shwN_mem.2 ⟨t,ht,rfl⟩)
def shoLo (a:At)(k e:Nat):Int:=(shwN a k fun L=> -mg L e 4).getD 0 0
def shoHi (a:At)(k e:Nat):Int:=(shwN a k fun L=>mg L 4 e).getD ((shwN a k fun L=>mg L 4 e).length - 1) 0
theorem sho_tru {a:At}(r:Right a){k e:Nat}(hk:k<a.cks.length)(he:e<4){runs:Runs}{y:Nat→Int}(t:TruA a runs y){s:Int × Int}(hs:runs[k]? =some s):shoLo a k e≤shw s.1 s.2 (y e)∧shw s.1 s.2 (y e)≤shoHi a k e:=by
 obtain⟨L,hL⟩:=cases_full r t
 obtain⟨tri,_,hr,hsol⟩:=cases_sound r hL
 have sol:=(hsol y t.beg).2 t
 have h1:=sol 4 e (by omega) (by omega)
 have h2:=sol e 4 (by omega) (by omega)
 rw[t.beg] at h1 h2
 have hrun:=(hr k s hs).run r
 have g:=hrun.g0
 have e1:runs.getD k (0,0)=s:=by rw[List.getD_eq_getElem?_getD,hs];rfl
 have m1:shw s.1 s.2 (-mg L e 4)∈shwN a k fun L=> -mg L e 4:=shwN_mem.2 ⟨(runs,L),hL,by show shw (runs.getD k (0,0)).1 _ _=_;rw[e1]⟩
 have m2:shw s.1 s.2 (mg L 4 e)∈shwN a k fun L=>mg L 4 e:=shwN_mem.2 ⟨(runs,L),hL,by show shw (runs.getD k (0,0)).1 _ _=_;rw[e1]⟩
 have p1:=List.length_pos_of_mem m1
 have p2:=List.length_pos_of_mem m2
 have q1:=rise_head (risL_rise _) m1 p1
 have q2:=rise_last (risL_rise _) m2
 have k1:=shw_mono (set:=s.1) (gain:=s.2) (by omega) (show -mg L e 4≤y e by simp only at h2⊢;omega)
 have k2:=shw_mono (set:=s.1) (gain:=s.2) (by omega) (show y e≤mg L 4 e by simp only at h1⊢;omega)
 unfold shoLo shoHi
 rw[List.getD_eq_getElem?_getD,List.getD_eq_getElem?_getD,List.getElem?_eq_getElem p1,List.getElem?_eq_getElem (by omega)]
 exact⟨Int.le_trans q1 k1,Int.le_trans k2 q2⟩
theorem sho_ex {a:At}(r:Right a)(hne:allC a≠[]){k e:Nat}(hk:k<a.cks.length)(he:e<4):
  (∃runs y s,TruA a runs y∧runs[k]? =some s∧shw s.1 s.2 (y e)=shoLo a k e)∧∃runs y s,TruA a runs y∧runs[k]? =some s∧shw s.1 s.2 (y e)=shoHi a k e:=by
 have key:∀{m:List Int→Int} {f:Nat} {i:Nat},f<5→(∀t∈allC a,latY t.2 f e=m t.2)→i<(shwN a k m).length→∃runs y s,TruA a runs y∧runs[k]? =some s∧shw s.1 s.2 (y e)=(shwN a k m).getD i 0:=fun{m f i} hf hm hi=>by
  rw[List.getD_eq_getElem?_getD,List.getElem?_eq_getElem hi]
  obtain⟨t,ht,h⟩:=shwN_mem.1 (List.getElem_mem hi)
  have hl:=(cases_sound r ht).2.1
  refine⟨t.1,latY t.2 f,t.1.getD k (0,0),lat_tru r ht hf,?_,?_⟩
  ·rw[List.getD_eq_getElem?_getD,List.getElem?_eq_getElem (by omega)];rfl
  ·rw[hm t ht];exact h
 exact⟨key (f:=e) (by omega) (fun t ht=>lat_self r ht (by omega)) (shwN_pos hne),key (f:=4) (by omega) (fun t ht=>lat_4 r ht e) (by have:=shwN_pos (a:=a) (k:=k) (m:=fun L=>mg L 4 e) hne;omega)⟩
end Tryz
end Go.Ab
namespace Go.Ab.Tryz
open Go.Proofs
structure TrAt (h:H)(S G T:V)(ss gg tt:List Int):Prop where
 s:SlAt h S 1 (ss.map encI)
 g:SlAt h G 1 (gg.map encI)
 t:SlAt h T 1 (tt.map encI)
theorem TrAt.mono {h h':H}{S G T:V}{ss gg tt:List Int}(x:TrAt h S G T ss gg tt)(s:h.Sub h'):TrAt h' S G T ss gg tt:=⟨x.s.mono s,x.g.mono s,x.t.mono s⟩
theorem ckFit_no {c:Ck}{s g:Int}:ckFit c (s,g)=false↔s<c.sl∨c.sh<s∨g<c.gl∨c.gh<g:=by
 rw[←Bool.not_eq_true]
 simp only[ckFit,Bool.and_eq_true,inB_iff]
 omega
theorem cksFit_of {a:At}{ss gg:List Int}(h:∀(j:Nat) c s g,a.cks[j]? =some c→ss[j]? =some s→gg[j]? =some g→ckFit c (s,g)=true):cksFit a ss gg=true:=by
 refine List.all_eq_true.2 fun x hx=>?_
 obtain⟨i,hi⟩:=List.mem_iff_getElem?.1 hx
 obtain⟨q1,q2⟩:=List.getElem?_zip_eq_some.1 hi
 obtain⟨q3,q4⟩:=zip_get.1 q2
 exact h i _ _ _ q1 q3 q4
theorem cksFit_at {a:At}{ss gg:List Int}(h:cksFit a ss gg=true){j:Nat}{c:Ck}{s g:Int}(q1:a.cks[j]? =some c)(q2:ss[j]? =some s)(q3:gg[j]? =some g):ckFit c (s,g)=true:=
 List.all_eq_true.1 h (c,(s,g)) (List.mem_of_getElem? (i:=j) (List.getElem?_zip_eq_some.2 ⟨q1,zip_get.2 ⟨q2,q3⟩⟩))
theorem fitB_parts {a:At}{ss gg tt:List Int}:fitB a ss gg tt=true↔lenFit a ss gg tt=true∧timFit a tt=true∧cksFit a ss gg=true∧a.rds.all (rdFit ss gg tt)=true∧a.gps.all (gpFit tt)=true:=by
 simp only[fitB,Bool.and_eq_true]
theorem ckFit_run {a:At}(r:Right a){c:Ck}(hc:c∈a.cks){s g:Int}(h:ckFit c (s,g)=true):RunIn s g:=by
 have:=r.cb c hc
 simp only[Ck.bd,within,Bool.and_eq_true,inB_iff] at this
 simp only[ckFit,Bool.and_eq_true,inB_iff] at h
 exact⟨by omega,by omega,by omega,by omega⟩
theorem lfits1_ev {h:H}(hw:h.wf){S Ga Tm:V}{ss gg tt:List Int}(t:TrAt h S Ga Tm ss gg tt)(hb:∀t∈tt,0≤t∧t≤240){b:Nat}(gb:h.cells b=some [S,Ga,Tm]){g:Gp}{i e:Nat}(e1:g.fr=i)(e2:g.to=e)(l1:i<tt.length)(l2:e<tt.length):
  E (.fn 137 [] [.ptr b 0]) [.agg (encG g)] h fun u h'=>u=.bool (!gpFit tt g)∧h.Sub h':=by
 refine Ev_body (fd:=c137) rfl rfl rfl ?_
 have lb:b<h.next:=(H.cells_eq gb).elim fun kd e=>hw _ _ e
 have s1:h.Sub (h.add (.cells .rw (encG g))):=(by repeat(first|assumption|exact H.Sub.refl (by assumption)|refine H.Sub.add ?_ _|refine H.Sub.set ?_ (by first|omega|(simp only[H.next_add,H.next_set,H.next_del]<;>omega)) (by first|omega|(simp only[H.next_add,H.next_set,H.next_del]<;>omega)) (by assumption) _))
 obtain⟨b1,o1,c1,cs1,ef1,hc1,hq1,_,_,n1⟩:=t.t.at l1
 obtain⟨b2,o2,c2',cs2,ef2,hc2,hq2,_,_,n2⟩:=t.t.at l2
 have v1:=n1 (by decide)
 have v2:=n2 (by decide)
 simp only[encI,List.getElem?_cons_zero] at v1 v2
 have q1:=hb _ (List.getElem_mem l1)
 have q2:=hb _ (List.getElem_mem l2)
 have lb1:b1<h.next:=(H.cells_eq hc1).elim fun kd e=>hw _ _ e
 have lb2:b2<h.next:=(H.cells_eq hc2).elim fun kd e=>hw _ _ e
 have hgp:gpFit tt g=inB (tt[e]-tt[i]) g.lo g.hi:=by
  unfold gpFit
  rw[e1,e2,Int.toNat_natCast,Int.toNat_natCast,getD_at l1,getD_at l2]
 rw[hgp]
 generalize tt[i]=y1 at v1 q1⊢
 generalize tt[e]=y2 at v2 q2⊢
 have w:wr .i64 (y2-y1)=y2-y1:=wr_in (by omega) (by omega)
 by_cases k1:y2-y1<g.lo
 ·have eB:inB (y2-y1) g.lo g.hi=false:=by rw[←Bool.not_eq_true,inB_iff];omega
  simp -implicitDefEqProofs(maxSteps:=999999)(disch:=first|with_reducible rfl|omega|(simp only[nA,nS,nD]<;>omega)|fail)only[c137,go_sem,encG,gb,e1,e2,hq1 (nat_cst i),hq2 (nat_cst e),hc1,hc2,v1,v2,w,k1]
  rw[eB]
  exact⟨rfl,(by repeat(first|assumption|exact H.Sub.refl (by assumption)|refine H.Sub.add ?_ _|refine H.Sub.set ?_ (by first|omega|(simp only[H.next_add,H.next_set,H.next_del]<;>omega)) (by first|omega|(simp only[H.next_add,H.next_set,H.next_del]<;>omega)) (by assumption) _))⟩
 ·have eB:(!inB (y2-y1) g.lo g.hi)=decide (g.hi<y2-y1):=by rw[Bool.eq_iff_iff];simp[inB]<;>omega
  rw[eB]
  simp -implicitDefEqProofs(maxSteps:=999999)(disch:=first|with_reducible rfl|omega|(simp only[nA,nS,nD]<;>omega)|fail)only[c137,go_sem,encG,gb,e1,e2,hq1 (nat_cst i),hq2 (nat_cst e),hc1,hc2,v1,v2,w,k1]
  exact(by repeat(first|assumption|exact H.Sub.refl (by assumption)|refine H.Sub.add ?_ _|refine H.Sub.set ?_ (by first|omega|(simp only[H.next_add,H.next_set,H.next_del]<;>omega)) (by first|omega|(simp only[H.next_add,H.next_set,H.next_del]<;>omega)) (by assumption) _))
set_option maxHeartbeats 4000000 in
theorem lfits_ev {h:H}(hw:h.wf){a:At}{C R G:V}(x:AtAt h C R G a)(r:Right a){S Ga Tm:V}{ss gg tt:List Int}(t:TrAt h S Ga Tm ss gg tt)(Q:V→H→Prop)(q:∀h',h.Sub h'→Q (.bool (fitB a ss gg tt)) h'):
  Ev fnG fastA (.fn 50 [] []) [.agg (atV a C R G),.agg [S,Ga,Tm]] h Q:=by
 have oC:=x.c.one;have oR:=x.r.one;have oG:=x.g.one
 have oS:=t.s.one;have oGa:=t.g.one;have oTm:=t.t.one
 have hlC:=x.c.lenE;have hlR:=x.r.lenE;have hlG:=x.g.lenE
 have hlS:=t.s.lenE;have hlGa:=t.g.lenE;have hlT:=t.t.lenE
 have rl:=r.lens
 have re:=r.evs
 have rm:=r.mins
 refine Ev_body (fd:=c50) rfl rfl rfl ?_
 obtain⟨z,hz⟩:∃z,(h.add (.cells .rw (atV a C R G))).add (.cells .rw [S,Ga,Tm])=z:=⟨_,rfl⟩
 have sz:h.Sub z:=by rw[←hz];exact(by repeat(first|assumption|exact H.Sub.refl (by assumption)|refine H.Sub.add ?_ _|refine H.Sub.set ?_ (by first|omega|(simp only[H.next_add,H.next_set,H.next_del]<;>omega)) (by first|omega|(simp only[H.next_add,H.next_set,H.next_del]<;>omega)) (by assumption) _))
 have ga:z.get h.next=some (.cells .rw (atV a C R G)):=by rw[←hz];simp -implicitDefEqProofs(maxSteps:=999999)(disch:=first|with_reducible rfl|omega|(simp only[nA,nS,nD]<;>omega)|fail)only[go_sem]
 have gt:z.get (h.next+1)=some (.cells .rw [S,Ga,Tm]):=by rw[←hz];simp -implicitDefEqProofs(maxSteps:=999999)(disch:=first|with_reducible rfl|omega|(simp only[nA,nS,nD]<;>omega)|fail)only[go_sem]
 have no:fitB a ss gg tt=false→∀z',z.Sub z'→Q (.bool false) z':=fun e z' s=>by have:=q z' (sz.trans s);rwa[e] at this
 have sz0:=H.Sub.refl sz.wf
 obtain⟨b1,hb1⟩:∃b,decide ((ss.length:Int)≠(a.cks.length:Int))=b:=⟨_,rfl⟩
 obtain⟨b2,hb2⟩:∃b,decide ((gg.length:Int)≠(a.cks.length:Int))=b:=⟨_,rfl⟩
 obtain⟨b3,hb3⟩:∃b,decide ((tt.length:Int)≠a.evs)=b:=⟨_,rfl⟩
 by_cases hl:lenFit a ss gg tt=true
 case neg=>
  have hf:fitB a ss gg tt=false:=by cases hh:fitB a ss gg tt;rfl;exact absurd (fitB_parts.1 hh).1 hl
  have hor:b1=true∨b2=true∨b3=true:=by
   rw[lenFit_iff] at hl
   rw[←hb1,←hb2,←hb3]
   simp only[decide_eq_true_eq]
   omega
  cases b1<;>cases b2<;>cases b3
  all_goals try(exfalso;revert hor;decide)
  all_goals
   simp -implicitDefEqProofs(maxSteps:=999999)(disch:=first|with_reducible rfl|omega|(simp only[nA,nS,nD]<;>omega)|fail)only[c50,go_sem,oS,oGa,oTm,oC,oR,oG,hlC,hlS,hlGa,hlT,hb1,hb2,hb3]
   rw[hz]
   exact no hf _ sz0
 obtain⟨l1,l2,l3⟩:=lenFit_iff.1 hl
 have e1:b1=false:=by rw[←hb1];simp;omega
 have e2:b2=false:=by rw[←hb2];simp;omega
 have e3:b3=false:=by rw[←hb3];simp;omega
 subst e1 e2 e3
 simp -implicitDefEqProofs(maxSteps:=999999)(disch:=first|with_reducible rfl|omega|(simp only[nA,nS,nD]<;>omega)|fail)only[c50,go_sem,oS,oGa,oTm,oC,oR,oG,hlC,hlS,hlGa,hlT,hb1,hb2,hb3]
 rw[hz]
 clear hz
 refine W_count a.cks.length (fun i s=>∃tm z',s=⟨tm,z',[]⟩∧z.Sub z'∧(∀(j:Nat) c s g,j<i→a.cks[j]? =some c→ss[j]? =some s→gg[j]? =some g→ckFit c (s,g)=true)∧
   (Opd.t 2).ev tm=.ptr h.next 0∧(Opd.t 3).ev tm=.ptr (h.next+1) 0∧(Opd.t 36).ev tm=C∧(Opd.t 37).ev tm=.int .i64 (a.cks.length:Int)∧(Opd.t 38).ev tm=.int .i64 (i:Int)) ?_ ?_ (i:=0) (Nat.zero_le _)
  ⟨_,_,rfl,sz0,fun j _ _ _ hj=>absurd hj (Nat.not_lt_zero _),(by simp[ev_c,ev_put]<;>rfl),(by simp[ev_c,ev_put]<;>rfl),(by simp[ev_c,ev_put]<;>rfl),(by simp[ev_c,ev_put]<;>rfl),(by simp[ev_c,ev_put]<;>rfl)⟩
 ·rintro i s hi ⟨tm,z',rfl,s',hok,t2,t3,t36,t37,t38⟩
  have hi':(i:Int)<(a.cks.length:Int):=by omega
  have hsz:=sz.trans s'
  obtain⟨b,o,cc,cs,eC,hc,hq,hg,_,_⟩:=(x.c.mono hsz).at hi
  have his:i<ss.length:=by omega
  have hig:i<gg.length:=by omega
  obtain⟨b1,o1,cc1,cs1,eS,hc1,hq1,_,_,n1⟩:=(t.s.mono hsz).at his
  obtain⟨b2,o2,cc2,cs2,eG,hc2,hq2,_,_,n2⟩:=(t.g.mono hsz).at hig
  have v1:=n1 (by decide)
  have v2:=n2 (by decide)
  simp only[encI,List.getElem?_cons_zero] at v1 v2
  have ka:a.cks[i]? =some a.cks[i]:=List.getElem?_eq_getElem hi
  have ks:ss[i]? =some ss[i]:=List.getElem?_eq_getElem his
  have kg:gg[i]? =some gg[i]:=List.getElem?_eq_getElem hig
  generalize a.cks[i]=c at hg ka
  generalize ss[i]=y1 at v1 ks
  generalize gg[i]=y2 at v2 kg
  simp only[encC] at hg
  have hwz:=hsz.wf
  have lb1:b1<z'.next:=(H.cells_eq hc1).elim fun kd e=>hwz _ _ e
  have lb2:b2<z'.next:=(H.cells_eq hc2).elim fun kd e=>hwz _ _ e
  have ga':=s'.get ga
  have gt':=s'.get gt
  have lt':=hwz _ _ gt'
  have bad:ckFit c (y1,y2)=false→∀z2,z'.Sub z2→Q (.bool false) z2:=fun e z2 s2=>no (by
   cases hh:fitB a ss gg tt
   ·rfl
   ·have:=cksFit_at (fitB_parts.1 hh).2.2.1 ka ks kg
    rw[e] at this;cases this) _ (s'.trans s2)
  have sz':=H.Sub.refl hwz
  by_cases k1:y1<c.sl
  ·simp -implicitDefEqProofs(maxSteps:=999999)(disch:=first|with_reducible rfl|omega|(simp only[nA,nS,nD]<;>omega)|fail)only[go_sem,t2,t3,t36,t37,t38,hi',hq (nat_cst i),hc,hg,cells_of gt',hq1 (nat_cst i),hc1,v1,k1]
   exact bad (ckFit_no.2 (.inl k1)) _ (by repeat(first|assumption|exact H.Sub.refl (by assumption)|refine H.Sub.add ?_ _|refine H.Sub.set ?_ (by first|omega|(simp only[H.next_add,H.next_set,H.next_del]<;>omega)) (by first|omega|(simp only[H.next_add,H.next_set,H.next_del]<;>omega)) (by assumption) _))
  by_cases k2:c.sh<y1
  ·simp -implicitDefEqProofs(maxSteps:=999999)(disch:=first|with_reducible rfl|omega|(simp only[nA,nS,nD]<;>omega)|fail)only[go_sem,t2,t3,t36,t37,t38,hi',hq (nat_cst i),hc,hg,cells_of gt',hq1 (nat_cst i),hc1,v1,k1,k2]
   exact bad (ckFit_no.2 (.inr (.inl k2))) _ (by repeat(first|assumption|exact H.Sub.refl (by assumption)|refine H.Sub.add ?_ _|refine H.Sub.set ?_ (by first|omega|(simp only[H.next_add,H.next_set,H.next_del]<;>omega)) (by first|omega|(simp only[H.next_add,H.next_set,H.next_del]<;>omega)) (by assumption) _))
  by_cases k3:y2<c.gl
  ·simp -implicitDefEqProofs(maxSteps:=999999)(disch:=first|with_reducible rfl|omega|(simp only[nA,nS,nD]<;>omega)|fail)only[go_sem,t2,t3,t36,t37,t38,hi',hq (nat_cst i),hc,hg,cells_of gt',hq1 (nat_cst i),hc1,v1,hq2 (nat_cst i),hc2,v2,k1,k2,k3]
   exact bad (ckFit_no.2 (.inr (.inr (.inl k3)))) _ (by repeat(first|assumption|exact H.Sub.refl (by assumption)|refine H.Sub.add ?_ _|refine H.Sub.set ?_ (by first|omega|(simp only[H.next_add,H.next_set,H.next_del]<;>omega)) (by first|omega|(simp only[H.next_add,H.next_set,H.next_del]<;>omega)) (by assumption) _))
  by_cases k4:c.gh<y2
  ·simp -implicitDefEqProofs(maxSteps:=999999)(disch:=first|with_reducible rfl|omega|(simp only[nA,nS,nD]<;>omega)|fail)only[go_sem,t2,t3,t36,t37,t38,hi',hq (nat_cst i),hc,hg,cells_of gt',hq1 (nat_cst i),hc1,v1,hq2 (nat_cst i),hc2,v2,k1,k2,k3,k4]
   exact bad (ckFit_no.2 (.inr (.inr (.inr k4)))) _ (by repeat(first|assumption|exact H.Sub.refl (by assumption)|refine H.Sub.add ?_ _|refine H.Sub.set ?_ (by first|omega|(simp only[H.next_add,H.next_set,H.next_del]<;>omega)) (by first|omega|(simp only[H.next_add,H.next_set,H.next_del]<;>omega)) (by assumption) _))
  ·simp -implicitDefEqProofs(maxSteps:=999999)(disch:=first|with_reducible rfl|omega|(simp only[nA,nS,nD]<;>omega)|fail)only[go_sem,t2,t3,t36,t37,t38,hi',hq (nat_cst i),hc,hg,cells_of gt',hq1 (nat_cst i),hc1,v1,hq2 (nat_cst i),hc2,v2,k1,k2,k3,k4,wr_succ]
   refine⟨_,_,rfl,s'.trans (by repeat(first|assumption|exact H.Sub.refl (by assumption)|refine H.Sub.add ?_ _|refine H.Sub.set ?_ (by first|omega|(simp only[H.next_add,H.next_set,H.next_del]<;>omega)) (by first|omega|(simp only[H.next_add,H.next_set,H.next_del]<;>omega)) (by assumption) _)),fun j c' s' g' hj q1 q2 q3=>?_,(by simp[ev_c,ev_put,t2]<;>rfl),(by simp[ev_c,ev_put,t3]<;>rfl),(by simp[ev_c,ev_put,t36]<;>rfl),(by simp[ev_c,ev_put,t37]<;>rfl),(by simp[ev_c,ev_put]<;>rfl)⟩
   by_cases e:j=i
   ·subst e
    rw[ka] at q1;rw[ks] at q2;rw[kg] at q3
    cases q1;cases q2;cases q3
    cases hh:ckFit c (y1,y2)
    ·have:=ckFit_no.1 hh;omega
    ·rfl
   ·exact hok j c' s' g' (by omega) q1 q2 q3
 rintro s ⟨tm,z',rfl,s',hok,t2,t3,t36,t37,t38⟩
 have hcks:cksFit a ss gg=true:=cksFit_of fun j c s g q1 q2 q3=>hok j c s g (getl q1) q1 q2 q3
 have gt':=s'.get gt
 simp -implicitDefEqProofs(maxSteps:=999999)(disch:=first|with_reducible rfl|omega|(simp only[nA,nS,nD]<;>omega)|fail)only[go_sem,t2,t3,t36,t37,t38,Int.lt_irrefl,cells_of gt',hlT]
 refine W_count tt.length (fun i s=>∃tm z',s=⟨tm,z',[]⟩∧z.Sub z'∧(∀(j:Nat) y,j<i→tt[j]? =some y→inB y 0 a.mins=true)∧
   (Opd.t 2).ev tm=.ptr h.next 0∧(Opd.t 3).ev tm=.ptr (h.next+1) 0∧(Opd.t 87).ev tm=Tm∧(Opd.t 88).ev tm=.int .i64 (tt.length:Int)∧(Opd.t 89).ev tm=.int .i64 (i:Int)) ?_ ?_ (i:=0) (Nat.zero_le _)
  ⟨_,_,rfl,s',fun j _ hj=>absurd hj (Nat.not_lt_zero _),(by simp[ev_c,ev_put,t2]<;>rfl),(by simp[ev_c,ev_put,t3]<;>rfl),(by simp[ev_c,ev_put]<;>rfl),(by simp[ev_c,ev_put]<;>rfl),(by simp[ev_c,ev_put]<;>rfl)⟩
 ·clear t2 t3 t36 t37 t38 gt'
  rintro i s hi ⟨tm,z',rfl,s',hok,t2,t3,t87,t88,t89⟩
  have hi':(i:Int)<(tt.length:Int):=by omega
  have hsz:=sz.trans s'
  obtain⟨b,o,cc,cs,eC,hc,hq,hg,_,n0⟩:=(t.t.mono hsz).at hi
  have v0:=n0 (by decide)
  simp only[encI,List.getElem?_cons_zero] at v0
  have ka:tt[i]? =some tt[i]:=List.getElem?_eq_getElem hi
  generalize tt[i]=y at v0 ka
  have ga':=s'.get ga
  have bad:inB y 0 a.mins=false→Q (.bool false) z':=fun e=>no (by
   cases hh:fitB a ss gg tt
   ·rfl
   ·have:=List.all_eq_true.1 (fitB_parts.1 hh).2.1 y (List.mem_of_getElem? ka)
    rw[e] at this;cases this) _ s'
  by_cases k1:y<0
  ·simp -implicitDefEqProofs(maxSteps:=999999)(disch:=first|with_reducible rfl|omega|(simp only[nA,nS,nD]<;>omega)|fail)only[go_sem,t2,t3,t87,t88,t89,hi',hq (nat_cst i),hc,v0,k1]
   exact bad (by rw[←Bool.not_eq_true,inB_iff];omega)
  by_cases k2:a.mins<y
  ·simp -implicitDefEqProofs(maxSteps:=999999)(disch:=first|with_reducible rfl|omega|(simp only[nA,nS,nD]<;>omega)|fail)only[go_sem,t2,t3,t87,t88,t89,hi',hq (nat_cst i),hc,v0,k1,k2,cells_of ga']
   exact bad (by rw[←Bool.not_eq_true,inB_iff];omega)
  ·simp -implicitDefEqProofs(maxSteps:=999999)(disch:=first|with_reducible rfl|omega|(simp only[nA,nS,nD]<;>omega)|fail)only[go_sem,t2,t3,t87,t88,t89,hi',hq (nat_cst i),hc,v0,k1,k2,cells_of ga',wr_succ]
   refine⟨_,_,rfl,s',fun j y' hj q1=>?_,(by simp[ev_c,ev_put,t2]<;>rfl),(by simp[ev_c,ev_put,t3]<;>rfl),(by simp[ev_c,ev_put,t87]<;>rfl),(by simp[ev_c,ev_put,t88]<;>rfl),(by simp[ev_c,ev_put]<;>rfl)⟩
   by_cases e:j=i
   ·subst e
    rw[ka] at q1;cases q1
    rw[inB_iff];omega
   ·exact hok j y' (by omega) q1
 clear t2 t3 t36 t37 t38 gt' s' hok z' tm
 rintro s ⟨tm,z',rfl,s',hok,t2,t3,t87,t88,t89⟩
 have htim:timFit a tt=true:=List.all_eq_true.2 fun y hy=>by
  obtain⟨j,hj⟩:=List.mem_iff_getElem?.1 hy
  exact hok j y (getl hj) hj
 have hbt:∀y∈tt,0≤y∧y≤240:=fun y hy=>by
  have:=(inB_iff ..).1 (List.all_eq_true.1 htim y hy);omega
 have ga':=s'.get ga
 simp -implicitDefEqProofs(maxSteps:=999999)(disch:=first|with_reducible rfl|omega|(simp only[nA,nS,nD]<;>omega)|fail)only[go_sem,t2,t3,t87,t88,t89,Int.lt_irrefl,cells_of ga',hlR]
 refine W_count a.rds.length (fun i s=>∃tm z',s=⟨tm,z',[]⟩∧z.Sub z'∧(∀(j:Nat) y,j<i→a.rds[j]? =some y→rdFit ss gg tt y=true)∧
   (Opd.t 2).ev tm=.ptr h.next 0∧(Opd.t 3).ev tm=.ptr (h.next+1) 0∧(Opd.t 103).ev tm=R∧(Opd.t 104).ev tm=.int .i64 (a.rds.length:Int)∧(Opd.t 105).ev tm=.int .i64 (i:Int)) ?_ ?_ (i:=0) (Nat.zero_le _)
  ⟨_,_,rfl,s',fun j _ hj=>absurd hj (Nat.not_lt_zero _),(by simp[ev_c,ev_put,t2]<;>rfl),(by simp[ev_c,ev_put,t3]<;>rfl),(by simp[ev_c,ev_put]<;>rfl),(by simp[ev_c,ev_put]<;>rfl),(by simp[ev_c,ev_put]<;>rfl)⟩
 ·clear t2 t3 t87 t88 t89 ga' s' hok z' tm
  rintro i s hi ⟨tm,z',rfl,s',hok,t2,t3,t103,t104,t105⟩
  have hi':(i:Int)<(a.rds.length:Int):=by omega
  have hsz:=sz.trans s'
  obtain⟨b,o,cc,cs,eC,hc,hq,hg,_,n0⟩:=(x.r.mono hsz).at hi
  have ka:a.rds[i]? =some a.rds[i]:=List.getElem?_eq_getElem hi
  generalize a.rds[i]=y at hg ka
  obtain⟨k,e,ek,ee,hk,he,he4⟩:=r.rdn (List.mem_of_getElem? ka)
  have hks:k<ss.length:=by omega
  have hkg:k<gg.length:=by omega
  have hkt:e<tt.length:=by omega
  obtain⟨b1,o1,cc1,cs1,eS,hc1,hq1,_,_,n1⟩:=(t.s.mono hsz).at hks
  obtain⟨b2,o2,cc2,cs2,eG,hc2,hq2,_,_,n2⟩:=(t.g.mono hsz).at hkg
  obtain⟨b3,o3,cc3,cs3,eT,hc3,hq3,_,_,n3⟩:=(t.t.mono hsz).at hkt
  have v1:=n1 (by decide)
  have v2:=n2 (by decide)
  have v3:=n3 (by decide)
  simp only[encI,List.getElem?_cons_zero] at v1 v2 v3
  have hf:rdFit ss gg tt y=decide (shw ss[k] gg[k] tt[e]=y.sh):=by
   unfold rdFit
   rw[ek,ee,Int.toNat_natCast,Int.toNat_natCast,getD_at hks,getD_at hkg,getD_at hkt]
  have hrun:RunIn ss[k] gg[k]:=ckFit_run r (List.getElem_mem hk) (cksFit_at hcks (List.getElem?_eq_getElem hk) (List.getElem?_eq_getElem hks) (List.getElem?_eq_getElem hkg))
  have hti:=hbt _ (List.getElem_mem hkt)
  generalize ss[k]=y1 at v1 hf hrun
  generalize gg[k]=y2 at v2 hf hrun
  generalize tt[e]=y3 at v3 hf hti
  simp only[encR,ek,ee] at hg
  have hwz:=hsz.wf
  have lb1:b1<z'.next:=(H.cells_eq hc1).elim fun kd e=>hwz _ _ e
  have lb2:b2<z'.next:=(H.cells_eq hc2).elim fun kd e=>hwz _ _ e
  have lb3:b3<z'.next:=(H.cells_eq hc3).elim fun kd e=>hwz _ _ e
  have gt':=s'.get gt
  have lt':=hwz _ _ gt'
  have sz':=H.Sub.refl hwz
  simp -implicitDefEqProofs(maxSteps:=999999)(disch:=first|with_reducible rfl|omega|(simp only[nA,nS,nD]<;>omega)|fail)only[go_sem,t2,t3,t103,t104,t105,hi',hq (nat_cst i),hc,hg,cells_of gt',hq1 (nat_cst k),hq2 (nat_cst k),hq3 (nat_cst e),hc1,hc2,hc3,v1,v2,v3]
  refine lshows_ev (by exact((by repeat(first|assumption|exact H.Sub.refl (by assumption)|refine H.Sub.add ?_ _|refine H.Sub.set ?_ (by first|omega|(simp only[H.next_add,H.next_set,H.next_del]<;>omega)) (by first|omega|(simp only[H.next_add,H.next_set,H.next_del]<;>omega)) (by assumption) _)):z'.Sub _).wf) hrun hti.1 hti.2 _ ?_
  by_cases k1:shw y1 y2 y3=y.sh
  ·rw[decide_eq_true k1] at hf
   simp -implicitDefEqProofs(maxSteps:=999999)(disch:=first|with_reducible rfl|omega|(simp only[nA,nS,nD]<;>omega)|fail)only[go_sem,t2,t3,t103,t104,t105,k1,ne_eq,not_true_eq_false,wr_succ,cells_of gt',hc1,hc2,hc3,v1,v2,v3]
   refine⟨_,_,rfl,s'.trans (by repeat(first|assumption|exact H.Sub.refl (by assumption)|refine H.Sub.add ?_ _|refine H.Sub.set ?_ (by first|omega|(simp only[H.next_add,H.next_set,H.next_del]<;>omega)) (by first|omega|(simp only[H.next_add,H.next_set,H.next_del]<;>omega)) (by assumption) _)),fun j y' hj q1=>?_,(by simp[ev_c,ev_put,t2]<;>rfl),(by simp[ev_c,ev_put,t3]<;>rfl),(by simp[ev_c,ev_put,t103]<;>rfl),(by simp[ev_c,ev_put,t104]<;>rfl),(by simp[ev_c,ev_put]<;>rfl)⟩
   by_cases e:j=i
   ·subst e
    rw[ka] at q1;cases q1;exact hf
   ·exact hok j y' (by omega) q1
  ·rw[decide_eq_false k1] at hf
   simp -implicitDefEqProofs(maxSteps:=999999)(disch:=first|with_reducible rfl|omega|(simp only[nA,nS,nD]<;>omega)|fail)only[go_sem,t2,t3,t103,t104,t105,k1,ne_eq,not_false_eq_true,cells_of gt',hc1,hc2,hc3,v1,v2,v3]
   refine no ?_ _ (s'.trans (by repeat(first|assumption|exact H.Sub.refl (by assumption)|refine H.Sub.add ?_ _|refine H.Sub.set ?_ (by first|omega|(simp only[H.next_add,H.next_set,H.next_del]<;>omega)) (by first|omega|(simp only[H.next_add,H.next_set,H.next_del]<;>omega)) (by assumption) _)))
   cases hh:fitB a ss gg tt
   ·rfl
   ·have:=List.all_eq_true.1 (fitB_parts.1 hh).2.2.2.1 y (List.mem_of_getElem? ka)
    rw[hf] at this;cases this
 clear t2 t3 t87 t88 t89 ga' s' hok z' tm
 rintro s ⟨tm,z',rfl,s',hok,t2,t3,t103,t104,t105⟩
 have hrds:a.rds.all (rdFit ss gg tt)=true:=List.all_eq_true.2 fun y hy=>by
  obtain⟨j,hj⟩:=List.mem_iff_getElem?.1 hy
  exact hok j y (getl hj) hj
 have hsz:=sz.trans s'
 have ga':=s'.get ga
 simp -implicitDefEqProofs(maxSteps:=999999)(disch:=first|with_reducible rfl|omega|(simp only[nA,nS,nD]<;>omega)|fail)only[go_sem,t2,t3,t103,t104,t105,Int.lt_irrefl,cells_of ga',hlR]
 refine(containsFuncGp_ev (p:=fun g=> !gpFit tt g) hsz.wf (x.g.mono hsz) fun g hg h2 s2=>?_).mono fun u h' hu=>?_
 ·obtain⟨i,e,e1,e2,l1',l2',_,_⟩:=r.gpn hg
  exact lfits1_ev s2.wf (t.mono (hsz.trans s2)) hbt (cells_of (s2.get (s'.get gt))) e1 e2 (by omega) (by omega)
 ·obtain⟨rfl,s2⟩:=hu
  simp -implicitDefEqProofs(maxSteps:=999999)(disch:=first|with_reducible rfl|omega|(simp only[nA,nS,nD]<;>omega)|fail)only[go_sem]
  have:=q h' (hsz.trans s2)
  have e:fitB a ss gg tt= !(a.gps.any fun g=> !gpFit tt g):=by
   unfold fitB
   rw[hl,htim,hcks,hrds,any_not];simp
  rwa[e] at this
end Go.Ab.Tryz
namespace Go.Ab.Tryz
open Go.Proofs
theorem allOne_flat {α:Type}{enc:α→List V}(h:∀a,allOne (enc a)=true)(l:List α):allOne (l.map enc).flatten=true:=by
 rw[allOne_eq]
 intro v hv
 obtain⟨r,hr,hvr⟩:=List.mem_flatten.1 hv
 obtain⟨a,_,rfl⟩:=List.mem_map.1 hr
 exact allOne_eq.1 (h a) v hvr
theorem SlAt.full {h:H}{b n:Nat}{k:Kd}{c:Cap}{sz:Nat}{rows:List (List V)}(hn:n=rows.length)(hb:h.get b=some (.cells k rows.flatten))(hsz:∀r∈rows,r.length=sz)(hl:rows.length≤1000000):SlAt h (.sl b 0 n c) sz rows:=by
 subst hn
 refine⟨hsz,by omega,.inr ⟨b,0,c,_,rfl,.inr (cells_of hb),getN_eq.2 ⟨?_,?_⟩⟩⟩
 ·rw[List.drop_zero,←flatten_len hsz,List.take_length]
 ·rw[flatten_len hsz];omega
theorem dupClock_ev {h:H}{x:V}{l:List Ck}(hw:h.wf)(hx:SlAt h x 4 (l.map encC))(hl:l.length≤1000000)(Q:V→H→Prop):
  Ev fnG fastA (.fn 72 [] []) [x] h Q=Q (.sl h.next 0 l.length (.fix l.length)) (h.add (.cells .rw (l.map encC).flatten)):=by
 refine Ev.det (Ev_body (fd:=c72) rfl rfl rfl ?_) Q
 simp -implicitDefEqProofs(maxSteps:=999999)(disch:=first|with_reducible rfl|omega|(simp only[nA,nS,nD]<;>omega)|fail)only[c72,go_sem,hx.lenE,a_msl_0n]
 have:=dup_core (by_:=32) (z:=[.int .i64 0,.int .i64 0,.int .i64 0,.int .i64 0]) hx hw rfl (by omega) (allOne_flat (fun a=>rfl) l)
 rw[List.length_map] at this
 simp -implicitDefEqProofs(maxSteps:=999999)(disch:=first|with_reducible rfl|omega|(simp only[nA,nS,nD]<;>omega)|fail)only[go_sem,this]
theorem dupReading_ev {h:H}{x:V}{l:List Rd}(hw:h.wf)(hx:SlAt h x 3 (l.map encR))(hl:l.length≤1000000)(Q:V→H→Prop):
  Ev fnG fastA (.fn 73 [] []) [x] h Q=Q (.sl h.next 0 l.length (.fix l.length)) (h.add (.cells .rw (l.map encR).flatten)):=by
 refine Ev.det (Ev_body (fd:=c73) rfl rfl rfl ?_) Q
 simp -implicitDefEqProofs(maxSteps:=999999)(disch:=first|with_reducible rfl|omega|(simp only[nA,nS,nD]<;>omega)|fail)only[c73,go_sem,hx.lenE,a_msl_0n]
 have:=dup_core (by_:=24) (z:=[.int .i64 0,.int .i64 0,.int .i64 0]) hx hw rfl (by omega) (allOne_flat (fun a=>rfl) l)
 rw[List.length_map] at this
 simp -implicitDefEqProofs(maxSteps:=999999)(disch:=first|with_reducible rfl|omega|(simp only[nA,nS,nD]<;>omega)|fail)only[go_sem,this]
theorem dupGap_ev {h:H}{x:V}{l:List Gp}(hw:h.wf)(hx:SlAt h x 4 (l.map encG))(hl:l.length≤1000000)(Q:V→H→Prop):
  Ev fnG fastA (.fn 74 [] []) [x] h Q=Q (.sl h.next 0 l.length (.fix l.length)) (h.add (.cells .rw (l.map encG).flatten)):=by
 refine Ev.det (Ev_body (fd:=c74) rfl rfl rfl ?_) Q
 simp -implicitDefEqProofs(maxSteps:=999999)(disch:=first|with_reducible rfl|omega|(simp only[nA,nS,nD]<;>omega)|fail)only[c74,go_sem,hx.lenE,a_msl_0n]
 have:=dup_core (by_:=32) (z:=[.int .i64 0,.int .i64 0,.int .i64 0,.int .i64 0]) hx hw rfl (by omega) (allOne_flat (fun a=>rfl) l)
 rw[List.length_map] at this
 simp -implicitDefEqProofs(maxSteps:=999999)(disch:=first|with_reducible rfl|omega|(simp only[nA,nS,nD]<;>omega)|fail)only[go_sem,this]
end Go.Ab.Tryz
namespace Go.Ab.Tryz
open Go.Proofs
structure AtNew (h0 h:H)(C R G:V)(a:At):Prop where
 s:h0.Sub h
 is:∃b1 b2 b3,C=.sl b1 0 a.cks.length (.fix a.cks.length)∧R=.sl b2 0 a.rds.length (.fix a.rds.length)∧G=.sl b3 0 a.gps.length (.fix a.gps.length)∧h0.next≤b1∧b1<b2∧b2<b3∧b3<h.next∧
  h.get b1=some (.cells .rw (a.cks.map encC).flatten)∧h.get b2=some (.cells .rw (a.rds.map encR).flatten)∧h.get b3=some (.cells .rw (a.gps.map encG).flatten)
structure SmallA (a:At):Prop where
 c:a.cks.length≤100
 r:a.rds.length≤100
 g:a.gps.length≤100
theorem AtNew.at_ {h0 h:H}{C R G:V}{a:At}(n:AtNew h0 h C R G a)(l:SmallA a):AtAt h C R G a:=by
 obtain⟨b1,b2,b3,rfl,rfl,rfl,_,_,_,_,g1,g2,g3⟩:=n.is
 exact⟨SlAt.full (by simp) g1 (fun r hr=>by obtain⟨c,_,rfl⟩:=List.mem_map.1 hr;rfl) (by rw[List.length_map];have:=l.c;omega),
  SlAt.full (by simp) g2 (fun r hr=>by obtain⟨c,_,rfl⟩:=List.mem_map.1 hr;rfl) (by rw[List.length_map];have:=l.r;omega),
  SlAt.full (by simp) g3 (fun r hr=>by obtain⟨c,_,rfl⟩:=List.mem_map.1 hr;rfl) (by rw[List.length_map];have:=l.g;omega)⟩
set_option maxHeartbeats 1000000 in
theorem own_ev {h:H}(hw:h.wf){a:At}{C R G:V}(x:AtAt h C R G a)(l:SmallA a)(Q:V→H→Prop)(q:∀C' R' G' h',AtNew h h' C' R' G' a→Q (.agg (atV a C' R' G')) h'):Ev fnG fastA (.fn 17 [] []) [.agg (atV a C R G)] h Q:=by
 obtain⟨l1,l2,l3⟩:=l
 have oC:=x.c.one;have oR:=x.r.one;have oG:=x.g.one
 refine Ev_body (fd:=c17) rfl rfl rfl ?_
 have s2:h.Sub ((h.add (.cells .rw (atV a C R G))).add (.cells .rw [.int .i64 0,.int .i64 0,.nils,.nils,.nils])):=(by repeat(first|assumption|exact H.Sub.refl (by assumption)|refine H.Sub.add ?_ _|refine H.Sub.set ?_ (by first|omega|(simp only[H.next_add,H.next_set,H.next_del]<;>omega)) (by first|omega|(simp only[H.next_add,H.next_set,H.next_del]<;>omega)) (by assumption) _))
 have s3:=s2.add (.cells .rw (a.cks.map encC).flatten)
 have s4:=s3.add (.cells .rw (a.rds.map encR).flatten)
 have s5:=s4.add (.cells .rw (a.gps.map encG).flatten)
 simp -implicitDefEqProofs(maxSteps:=999999)(disch:=first|with_reducible rfl|omega|(simp only[nA,nS,nD]<;>omega)|fail)only[c17,go_sem,dupClock_ev s2.wf (x.c.mono s2) (by omega),dupReading_ev s3.wf (x.r.mono s3) (by omega),dupGap_ev s4.wf (x.g.mono s4) (by omega),evQ_ld]
 refine q _ _ _ _ ⟨(by repeat(first|assumption|exact H.Sub.refl (by assumption)|refine H.Sub.add ?_ _|refine H.Sub.set ?_ (by first|omega|(simp only[H.next_add,H.next_set,H.next_del]<;>omega)) (by first|omega|(simp only[H.next_add,H.next_set,H.next_del]<;>omega)) (by assumption) _)),h.next+1+1,h.next+1+1+1,h.next+1+1+1+1,rfl,rfl,rfl,by omega,by omega,by omega,by simp only[H.next_set,H.next_add];omega,?_,?_,?_⟩
 all_goals simp -implicitDefEqProofs(maxSteps:=999999)(disch:=first|with_reducible rfl|omega|(simp only[nA,nS,nD]<;>omega)|fail)only[go_sem]
end Go.Ab.Tryz
namespace Go.Ab.Tryz
open Go.Proofs
theorem take_at {α:Type}{l:List α}{i:Nat}(hi:i<l.length):l.take (i+1)=l.take i++[l[i]]:=List.take_succ_eq_append_getElem hi
end Go.Ab.Tryz
namespace Go.Ab.Tryz
open Go.Proofs
end Go.Ab.Tryz
namespace Go.Ab.Tryz
open Go.Proofs
def lg2 (lo hi m:Int):Bool:=within lo hi m&&decide (4<hi-lo)
def Ck.lg (c:Ck):Bool:=lg2 c.sl c.sh 60||lg2 c.gl c.gh 30
end Go.Ab.Tryz
namespace Go.Ab
theorem a_msl_nm {h:H}{by_ n m:Nat}{z:List V}(h0:n≤m)(h1:m*by_≤1099511627776)(h2:m≤1099511627776):
  a_msl h by_ z (.int .i64 (n:Int)) (.int .i64 (m:Int))=some (.sl h.next 0 n (.fix m),h.add (.cells .rw (repN m z))):=by
 have e1:Nat.ble (m*by_) 1099511627776=true:=by simpa using h1
 have e2:Nat.ble m 1099511627776=true:=by simpa using h2
 have e3:Nat.ble n m=true:=by simpa using h0
 simp only[a_msl,nat_cst,e1,e2,e3,og_true,lf_eq]
theorem e_cpy_new {h0 h:H}{y:V}{sz b c n:Nat}{rows:List (List V)}{z:List V}{Q:V→H→Prop}(hs:h0.Sub h)(hw0:h0.wf)(hy:SlAt h y sz rows)(hn:n=rows.length)(hb:h.get b=some (.cells .rw (repN c z)))(l1:h0.next≤b)(l2:b<h.next)(hz:z.length=sz)(hc:rows.length≤c)
  (ho:allOne rows.flatten=true) (q:∀h',OwnC h0 h' (.sl b 0 n (.fix c)) sz rows→Keeps (fun x=>x=b) h h'→h'.next=h.next→Q (.int .i64 (n:Int)) h'):P2 (e_cpy h sz (.sl b 0 n (.fix c)) y) Q:=by
 subst hn
 obtain⟨e1,e2⟩:=hy.elems
 have hl:=flatten_len hy.1
 have hr:=repN_len z c
 rw[hz] at hr
 have hle:rows.length*sz≤c*sz:=Nat.mul_le_mul_right sz hc
 have hble:Nat.ble rows.length rows.length=true:=by simp
 have ht:takeN (rows.length*sz) rows.flatten=some rows.flatten:=takeN_eq.2 ⟨by rw[←hl,List.take_length],by omega⟩
 have hlen:rows.length*sz+((repN c z).drop (rows.length*sz)).length=c*sz:=by rw[List.length_drop,hr];omega
 simp only[e_cpy,lenV_sl,e1,e2,hble,ht,cpyTo]
 cases hf:rows.flatten with
 |nil=>
  rw[hf] at hl
  simp only[List.length_nil] at hl
  simp only[H.put,withV_some,P2_some]
  refine q h ⟨hs,hy.1,.inr (.inr ⟨b,c,_,rfl,l1,l2,?_,hlen,hc⟩)⟩ (Keeps.refl _ h) rfl
  rw[hb,hf,←hl];simp
 |cons v vs=>
  rw[hf] at ho hl
  have hp:putN 0 (v::vs) (repN c z)=some (v::vs++(repN c z).drop (rows.length*sz)):=by
   rw[putN_0]
   exact over_eq.2 ⟨by rw[hl],by rw[hl,hr];exact hle⟩
  rw[H.put_rw ho hb hp,withV_some,P2_some]
  refine q _ ⟨hs.set l1 l2 hw0 _,hy.1,.inr (.inr ⟨b,c,_,rfl,l1,by rw[H.next_set];exact l2,?_,hlen,hc⟩)⟩ (Keeps.set h b _) (H.next_set _ _ _)
  rw[get_set_same rfl,hf]
end Go.Ab
namespace Go.Ab.Tryz
open Go.Proofs
structure AtOw (h0 h:H)(C R G:V)(a:At):Prop where
 c:OwnC h0 h C 4 (a.cks.map encC)
 r:OwnC h0 h R 3 (a.rds.map encR)
 g:OwnC h0 h G 4 (a.gps.map encG)
 cr:∀b,blkOf C b→¬blkOf R b
 cg:∀b,blkOf C b→¬blkOf G b
 rg:∀b,blkOf R b→¬blkOf G b
variable {h0 h1 h h':H} {C R G:V} {a:At}
theorem AtOw.sub (o:AtOw h0 h C R G a):h0.Sub h:=o.c.1
theorem AtOw.at_ (o:AtOw h0 h C R G a)(l:SmallA a):AtAt h C R G a:=
 ⟨o.c.sl (by rw[List.length_map];have:=l.c;omega),o.r.sl (by rw[List.length_map];have:=l.r;omega),o.g.sl (by rw[List.length_map];have:=l.g;omega)⟩
theorem AtOw.mono (o:AtOw h0 h C R G a)(s:h.Sub h'):AtOw h0 h' C R G a:=⟨o.c.mono s,o.r.mono s,o.g.mono s,o.cr,o.cg,o.rg⟩
theorem AtOw.base (o:AtOw h1 h C R G a)(s:h0.Sub h1):AtOw h0 h C R G a:=⟨o.c.base s,o.r.base s,o.g.base s,o.cr,o.cg,o.rg⟩
def atBlk (C R G:V)(b:Nat):Prop:=blkOf C b∨blkOf R b∨blkOf G b
theorem AtOw.blk (o:AtOw h0 h C R G a){b:Nat}(hb:atBlk C R G b):h0.next≤b∧b<h.next:=by
 rcases hb with hb|hb|hb
 ·exact⟨(o.c.blk hb).1,(o.c.blk hb).2.1⟩
 ·exact⟨(o.r.blk hb).1,(o.r.blk hb).2.1⟩
 ·exact⟨(o.g.blk hb).1,(o.g.blk hb).2.1⟩
theorem AtOw.keep (o:AtOw h0 h C R G a){S:Nat→Prop}(k:Keeps S h h')(s:h0.Sub h')(n:∀b,atBlk C R G b→¬S b):AtOw h0 h' C R G a:=
 ⟨o.c.keep k s fun b hb=>n b (.inl hb),o.r.keep k s fun b hb=>n b (.inr (.inl hb)),o.g.keep k s fun b hb=>n b (.inr (.inr hb)),o.cr,o.cg,o.rg⟩
theorem OwnC.full {sz n b:Nat}{x:V}{rows:List (List V)}(hs:h0.Sub h)(hx:x=.sl b 0 n (.fix n))(hn:n=rows.length)(hr:∀r∈rows,r.length=sz)(l1:h0.next≤b)(l2:b<h.next)(hg:h.get b=some (.cells .rw rows.flatten)):OwnC h0 h x sz rows:=by
 subst hn
 exact⟨hs,hr,.inr (.inr ⟨b,rows.length,[],hx,l1,l2,by rw[List.append_nil];exact hg,by rw[List.length_nil,Nat.add_zero],Nat.le_refl _⟩)⟩
theorem AtNew.ow (n:AtNew h0 h C R G a):AtOw h0 h C R G a:=by
 obtain⟨b1,b2,b3,rfl,rfl,rfl,l0,l1,l2,l3,g1,g2,g3⟩:=n.is
 refine⟨OwnC.full n.s rfl (by simp) (fun r hr=>by obtain⟨c,_,rfl⟩:=List.mem_map.1 hr;rfl) (by omega) (by omega) g1,OwnC.full n.s rfl (by simp) (fun r hr=>by obtain⟨c,_,rfl⟩:=List.mem_map.1 hr;rfl) (by omega) (by omega) g2,
  OwnC.full n.s rfl (by simp) (fun r hr=>by obtain⟨c,_,rfl⟩:=List.mem_map.1 hr;rfl) (by omega) (by omega) g3,?_,?_,?_⟩<;>(rintro b ⟨_,_,_,e⟩ ⟨_,_,_,e'⟩;cases e;cases e';omega)
def At.none:At:=⟨0,0,[],[],[]⟩
theorem AtOw.none (s:h0.Sub h):AtOw h0 h .nils .nils .nils At.none:=⟨(OwnSl.nil s 4).c,(OwnSl.nil s 3).c,(OwnSl.nil s 4).c,fun b hb=>(blkOf_nils hb).elim,fun b hb=>(blkOf_nils hb).elim,fun b hb=>(blkOf_nils hb).elim⟩
theorem cloneClock_ev {x:V}{rows:List (List V)}(hw:h.wf)(hx:SlAt h x 4 rows)(hl:rows.length≤1000000)(Q:V→H→Prop)(q:∀v h',OwnC h h' v 4 rows→Q v h'):Ev fnG fastA (.fn 169 [] []) [x] h Q:=by
 refine Ev_body (fd:=c169) rfl rfl rfl ?_
 rcases hx.2.2 with⟨rfl,e⟩|⟨b,o,c,cs,rfl,_⟩
 ·simp -implicitDefEqProofs(maxSteps:=999999)(disch:=first|with_reducible rfl|omega|(simp only[nA,nS,nD]<;>omega)|fail)only[c169,go_sem]
  exact q _ _ (by rw[e];exact(OwnSl.nil (H.Sub.refl hw) 4).c)
 ·simp -implicitDefEqProofs(maxSteps:=999999)(disch:=first|with_reducible rfl|omega|(simp only[nA,nS,nD]<;>omega)|fail)only[c169,go_sem]
  refine clone_core (by_:=32) hw hx (by omega) (by omega) fun v h' o=>?_
  simp -implicitDefEqProofs(maxSteps:=999999)(disch:=first|with_reducible rfl|omega|(simp only[nA,nS,nD]<;>omega)|fail)only[go_sem]
  exact q v h' o
theorem cloneGap_ev {x:V}{rows:List (List V)}(hw:h.wf)(hx:SlAt h x 4 rows)(hl:rows.length≤1000000)(Q:V→H→Prop)(q:∀v h',OwnC h h' v 4 rows→Q v h'):Ev fnG fastA (.fn 170 [] []) [x] h Q:=by
 refine Ev_body (fd:=c170) rfl rfl rfl ?_
 rcases hx.2.2 with⟨rfl,e⟩|⟨b,o,c,cs,rfl,_⟩
 ·simp -implicitDefEqProofs(maxSteps:=999999)(disch:=first|with_reducible rfl|omega|(simp only[nA,nS,nD]<;>omega)|fail)only[c170,go_sem]
  exact q _ _ (by rw[e];exact(OwnSl.nil (H.Sub.refl hw) 4).c)
 ·simp -implicitDefEqProofs(maxSteps:=999999)(disch:=first|with_reducible rfl|omega|(simp only[nA,nS,nD]<;>omega)|fail)only[c170,go_sem]
  refine clone_core (by_:=32) hw hx (by omega) (by omega) fun v h' o=>?_
  simp -implicitDefEqProofs(maxSteps:=999999)(disch:=first|with_reducible rfl|omega|(simp only[nA,nS,nD]<;>omega)|fail)only[go_sem]
  exact q v h' o
end Go.Ab.Tryz
namespace Go.Ab.Tryz
open Go.Proofs
set_option maxHeartbeats 2000000 in
theorem copied_ev {h:H}(hw:h.wf){a:At}{C R G:V}(x:AtAt h C R G a)(l:SmallA a)(Q:V→H→Prop)(q:∀C' R' G' h',AtOw h h' C' R' G' a→Q (.agg (atV a C' R' G')) h'):Ev fnG fastA (.fn 140 [] []) [.agg (atV a C R G)] h Q:=by
 obtain⟨l1,l2,l3⟩:=l
 have oC:=x.c.one;have oR:=x.r.one;have oG:=x.g.one
 have hlR:=x.r.lenE
 have e1:wr .i64 ((a.rds.length:Int)+1)=((a.rds.length+1:Nat):Int):=wr_succ (by omega)
 refine Ev_body (fd:=c140) rfl rfl rfl ?_
 simp -implicitDefEqProofs(maxSteps:=999999)(disch:=first|with_reducible rfl|omega|(simp only[nA,nS,nD]<;>omega)|fail)only[c140,go_sem,oC,oR,oG,hlR,e1,a_msl_nm]
 obtain⟨z,hz⟩:∃z,(((((h.add (.cells .rw (atV a C R G))).add (.cells .rw [.int .i64 0,.int .i64 0,.nils,.nils,.nils])).add (.cells .rw (atV a C R G))).add (.cells .rw (repN (a.rds.length+1) [.int .i64 0,.int .i64 0,.int .i64 0]))).set (h.next+2) (.cells .rw (atV a C (.sl (h.next+3) 0 a.rds.length (.fix (a.rds.length+1))) G)))=z:=⟨_,rfl⟩
 rw[show h.next+1+1=h.next+2 from rfl,show h.next+2+1=h.next+3 from rfl]
 try rw[hz]
 have sz:h.Sub z:=by rw[←hz];exact(by repeat(first|assumption|exact H.Sub.refl (by assumption)|refine H.Sub.add ?_ _|refine H.Sub.set ?_ (by first|omega|(simp only[H.next_add,H.next_set,H.next_del]<;>omega)) (by first|omega|(simp only[H.next_add,H.next_set,H.next_del]<;>omega)) (by assumption) _))
 have nz:z.next=h.next+4:=by rw[←hz];simp only[H.next_set,H.next_add]
 have ga:z.get h.next=some (.cells .rw (atV a C R G)):=by rw[←hz];simp -implicitDefEqProofs(maxSteps:=999999)(disch:=first|with_reducible rfl|omega|(simp only[nA,nS,nD]<;>omega)|fail)only[go_sem]
 have gb:z.get (h.next+1)=some (.cells .rw [.int .i64 0,.int .i64 0,.nils,.nils,.nils]):=by rw[←hz];simp -implicitDefEqProofs(maxSteps:=999999)(disch:=first|with_reducible rfl|omega|(simp only[nA,nS,nD]<;>omega)|fail)only[go_sem]
 have gc:z.get (h.next+2)=some (.cells .rw (atV a C (.sl (h.next+3) 0 a.rds.length (.fix (a.rds.length+1))) G)):=by rw[←hz];simp -implicitDefEqProofs(maxSteps:=999999)(disch:=first|with_reducible rfl|omega|(simp only[nA,nS,nD]<;>omega)|fail)only[go_sem]
 have gd:z.get (h.next+3)=some (.cells .rw (repN (a.rds.length+1) [.int .i64 0,.int .i64 0,.int .i64 0])):=by rw[←hz];simp -implicitDefEqProofs(maxSteps:=999999)(disch:=first|with_reducible rfl|omega|(simp only[nA,nS,nD]<;>omega)|fail)only[go_sem]
 clear hz
 refine e_cpy_new sz hw (x.r.mono sz) (by simp) gd (by omega) (by omega) rfl (by simp) (allOne_flat (fun _=>rfl) _) fun z4 o4 k4 n4=>?_
 have s4:=o4.1
 have ga4:=k4.2 _ _ ga (by omega)
 have gb4:=k4.2 _ _ gb (by omega)
 have gc4:=k4.2 _ _ gc (by omega)
 simp -implicitDefEqProofs(maxSteps:=999999)(disch:=first|with_reducible rfl|omega|(simp only[nA,nS,nD]<;>omega)|fail)only[go_sem,cells_of ga4]
 refine cloneClock_ev s4.wf (x.c.mono s4) (by rw[List.length_map];omega) _ fun vC z5 oC5=>?_
 have s5:=oC5.1
 have ga5:=s5.get ga4
 have o1C:=oC5.one
 simp -implicitDefEqProofs(maxSteps:=999999)(disch:=first|with_reducible rfl|omega|(simp only[nA,nS,nD]<;>omega)|fail)only[go_sem,cells_of ga4,cells_of ga5]
 refine cloneGap_ev s5.wf (x.g.mono (s4.trans s5)) (by rw[List.length_map];omega) _ fun vG z6 oG6=>?_
 have s6:=oG6.1
 have s46:=s5.trans s6
 have ga6:=s6.get ga5
 have gb6:=s46.get gb4
 have gc6:=s46.get gc4
 have o1G:=oG6.one
 have l5:=s5.next
 have l6:=s6.next
 simp -implicitDefEqProofs(maxSteps:=999999)(disch:=first|with_reducible rfl|omega|(simp only[nA,nS,nD]<;>omega)|fail)only[go_sem,cells_of ga4,cells_of ga5,cells_of ga6,gb6,gc6,o1C,o1G,cells_one o1C,cells_one o1G,oC,oG]
 have s06:=s4.trans s46
 obtain⟨z7,hz7⟩:∃z7,(z6.set (h.next+2) (.cells .rw (atV a vC (.sl (h.next+3) 0 a.rds.length (.fix (a.rds.length+1))) vG))).set (h.next+1) (.cells .rw (atV a vC (.sl (h.next+3) 0 a.rds.length (.fix (a.rds.length+1))) vG))=z7:=⟨_,rfl⟩
 have s7:h.Sub z7:=by rw[←hz7];exact(s06.set (by omega) (by omega) hw _).set (by omega) (by rw[H.next_set];omega) hw _
 have k7:Keeps (fun b=>b=h.next+2∨b=h.next+1) z6 z7:=by
  rw[←hz7];exact(Keeps.set _ _ _).trans (Keeps.set _ _ _)
 have nC:∀b,blkOf vC b→z4.next≤b∧b<z5.next:=fun b hb=>⟨(oC5.blk hb).1,(oC5.blk hb).2.1⟩
 have nG:∀b,blkOf vG b→z5.next≤b:=fun b hb=>(oG6.blk hb).1
 have nR:∀b,blkOf (V.sl (h.next+3) 0 a.rds.length (.fix (a.rds.length+1))) b→b=h.next+3:=fun b hb=>by obtain⟨_,_,_,e⟩:=hb;cases e;rfl
 have ow:AtOw h z6 vC (.sl (h.next+3) 0 a.rds.length (.fix (a.rds.length+1))) vG a:=
  ⟨(oC5.base s4).mono s6,o4.mono s46,oG6.base (s4.trans s5),fun b hb hb'=>by have:=nC b hb;have:=nR b hb';omega,fun b hb hb'=>by have:=nC b hb;have:=nG b hb';omega,fun b hb hb'=>by have:=nR b hb;have:=nG b hb';omega⟩
 have:=q _ _ _ z7 (ow.keep k7 s7 fun b hb=>by
  rcases hb with hb|hb|hb
  ·have:=nC b hb;omega
  ·have:=nR b hb;omega
  ·have:=nG b hb;omega)
 rwa[←hz7] at this
theorem checked_ev {h:H}(hw:h.wf){a:At}{C R G:V}(x:AtAt h C R G a)(Q:V→H→Prop)(q0:∀h',h.Sub h'→checkA a≠0→Q (.tup [.agg (atV At.none .nils .nils .nils),.int .i64 (checkA a)]) h')
  (q1:∀h',h.Sub h'→checkA a=0→Q (.tup [.agg (atV a C R G),.int .i64 0]) h'):Ev fnG fastA (.fn 141 [] []) [.agg (atV a C R G)] h Q:=by
 have oC:=x.c.one;have oR:=x.r.one;have oG:=x.g.one
 refine Ev_body (fd:=c141) rfl rfl rfl ?_
 simp -implicitDefEqProofs(maxSteps:=999999)(disch:=first|with_reducible rfl|omega|(simp only[nA,nS,nD]<;>omega)|fail)only[c141,go_sem]
 have s2:h.Sub ((h.add (.cells .rw (atV a C R G))).add (.cells .rw [.int .i64 0,.int .i64 0,.nils,.nils,.nils])):=(by repeat(first|assumption|exact H.Sub.refl (by assumption)|refine H.Sub.add ?_ _|refine H.Sub.set ?_ (by first|omega|(simp only[H.next_add,H.next_set,H.next_del]<;>omega)) (by first|omega|(simp only[H.next_add,H.next_set,H.next_del]<;>omega)) (by assumption) _))
 have ga:((h.add (.cells .rw (atV a C R G))).add (.cells .rw [.int .i64 0,.int .i64 0,.nils,.nils,.nils])).get h.next=some (.cells .rw (atV a C R G)):=by simp -implicitDefEqProofs(maxSteps:=999999)(disch:=first|with_reducible rfl|omega|(simp only[nA,nS,nD]<;>omega)|fail)only[go_sem]
 have gb:((h.add (.cells .rw (atV a C R G))).add (.cells .rw [.int .i64 0,.int .i64 0,.nils,.nils,.nils])).get (h.next+1)=some (.cells .rw [.int .i64 0,.int .i64 0,.nils,.nils,.nils]):=by simp -implicitDefEqProofs(maxSteps:=999999)(disch:=first|with_reducible rfl|omega|(simp only[nA,nS,nD]<;>omega)|fail)only[go_sem]
 have nz:((h.add (.cells .rw (atV a C R G))).add (.cells .rw [.int .i64 0,.int .i64 0,.nils,.nils,.nils])).next=h.next+2:=by simp only[H.next_add]
 generalize(h.add (.cells .rw (atV a C R G))).add (.cells .rw [.int .i64 0,.int .i64 0,.nils,.nils,.nils])=h2 at s2 ga gb nz⊢
 refine check_ev s2.wf ⟨C,R,G,rfl,x.mono s2⟩ _ fun h3 s3=>?_
 have ga3:=s3.get ga
 have gb3:=s3.get gb
 have l3:=s3.next
 by_cases he:checkA a=0
 case neg=>
  simp -implicitDefEqProofs(maxSteps:=999999)(disch:=first|with_reducible rfl|omega|(simp only[nA,nS,nD]<;>omega)|fail)only[go_sem,(decide_eq_true he:decide (checkA a≠0)=true),gb3]
  exact q0 _ ((s2.trans s3).set (by omega) (by omega) hw _) he
 have d0:decide ((0:Int)≠0)=false:=rfl
 rw[he]
 simp -implicitDefEqProofs(maxSteps:=999999)(disch:=first|with_reducible rfl|omega|(simp only[nA,nS,nD]<;>omega)|fail)only[go_sem,d0,cells_of ga3,gb3,oC,oR,oG]
 exact q1 _ ((s2.trans s3).set (by omega) (by omega) hw _) he
def readE (a:At)(y:Rd):Int:=if checkA a≠0 then checkA a else if a.rds.length=8 then 9 else checkA (a.addR y)
def readA (a:At)(y:Rd):At:=if readE a y=0 then a.addR y else At.none
theorem AtOw.appR {h0 h h':H}{C R G R2:V}{a:At}{y:Rd}(o:AtOw h0 h C R G a)(o7:OwnC h0 h' R2 3 (a.rds.map encR++[encR y]))(b7:∀b,blkOf R2 b→blkOf R b∨h.next≤b)(k7:Keeps (blkOf R) h h'):AtOw h0 h' C R2 G (a.addR y):=by
 refine⟨o.c.keep k7 o7.1 fun b hb hR=>o.cr b hb hR,?_,o.g.keep k7 o7.1 fun b hb hR=>o.rg b hR hb,fun b hb hb'=>?_,o.cg,fun b hb hb'=>?_⟩
 ·have:(a.addR y).rds.map encR=a.rds.map encR++[encR y]:=by simp[At.addR]
  rw[this];exact o7
 ·rcases b7 b hb' with q|q
  ·exact o.cr b hb q
  ·have:=(o.c.blk hb).2.1;omega
 ·rcases b7 b hb with q|q
  ·exact o.rg b q hb'
  ·have:=(o.g.blk hb').2.1;omega
set_option maxHeartbeats 2000000 in
theorem Read_ev {h:H}(hw:h.wf){a:At}{C R G:V}(x:AtAt h C R G a)(l:SmallA a)(y:Rd)(Q:V→H→Prop)(q:∀C' R' G' h',AtOw h h' C' R' G' (readA a y)→Q (.tup [.agg (atV (readA a y) C' R' G'),.int .i64 (readE a y)]) h'):
  Ev fnG fastA (.fn 55 [] []) [.agg (atV a C R G),.agg (encR y)] h Q:=by
 have oC:=x.c.one;have oR:=x.r.one;have oG:=x.g.one
 have hlR:=x.r.lenE
 refine Ev_body (fd:=c55) rfl rfl rfl ?_
 simp -implicitDefEqProofs(maxSteps:=999999)(disch:=first|with_reducible rfl|omega|(simp only[nA,nS,nD]<;>omega)|fail)only[c55,go_sem,encR]
 obtain⟨z,hz⟩:∃z,((h.add (.cells .rw (atV a C R G))).add (.cells .rw [.int .i64 y.ck,.int .i64 y.ev,.int .i64 y.sh])).add (.cells .rw [.int .i64 0,.int .i64 0,.nils,.nils,.nils])=z:=⟨_,rfl⟩
 rw[hz]
 have sz:h.Sub z:=by rw[←hz];exact(by repeat(first|assumption|exact H.Sub.refl (by assumption)|refine H.Sub.add ?_ _|refine H.Sub.set ?_ (by first|omega|(simp only[H.next_add,H.next_set,H.next_del]<;>omega)) (by first|omega|(simp only[H.next_add,H.next_set,H.next_del]<;>omega)) (by assumption) _))
 have nz:z.next=h.next+3:=by rw[←hz];simp only[H.next_add]
 have ga:z.get h.next=some (.cells .rw (atV a C R G)):=by rw[←hz];simp -implicitDefEqProofs(maxSteps:=999999)(disch:=first|with_reducible rfl|omega|(simp only[nA,nS,nD]<;>omega)|fail)only[go_sem]
 have gy:z.get (h.next+1)=some (.cells .rw [.int .i64 y.ck,.int .i64 y.ev,.int .i64 y.sh]):=by rw[←hz];simp -implicitDefEqProofs(maxSteps:=999999)(disch:=first|with_reducible rfl|omega|(simp only[nA,nS,nD]<;>omega)|fail)only[go_sem]
 have gb:z.get (h.next+2)=some (.cells .rw [.int .i64 0,.int .i64 0,.nils,.nils,.nils]):=by rw[←hz];simp -implicitDefEqProofs(maxSteps:=999999)(disch:=first|with_reducible rfl|omega|(simp only[nA,nS,nD]<;>omega)|fail)only[go_sem]
 clear hz
 rw[show h.next+1+1=h.next+2 from rfl]
 have bad:∀z':H,h.Sub z'→h.next+2<z'.next→∀e,readE a y=e→e≠0→Q (.tup [.agg [.int .i64 0,.int .i64 0,.nils,.nils,.nils],.int .i64 e]) (z'.set (h.next+2) (.cells .rw [.int .i64 0,.int .i64 0,.nils,.nils,.nils])):=fun z' s l e he hn=>by
  have hA:readA a y=At.none:=if_neg (by rw[he];exact hn)
  have:=q .nils .nils .nils _ (by rw[hA];exact AtOw.none (s.set (by omega) l hw (.cells .rw [.int .i64 0,.int .i64 0,.nils,.nils,.nils])))
  rwa[hA,he] at this
 refine check_ev sz.wf ⟨C,R,G,rfl,x.mono sz⟩ _ fun z3 s3=>?_
 have s03:=sz.trans s3
 have l3:=s3.next
 by_cases he:checkA a=0
 case neg=>
  simp -implicitDefEqProofs(maxSteps:=999999)(disch:=first|with_reducible rfl|omega|(simp only[nA,nS,nD]<;>omega)|fail)only[go_sem,(decide_eq_true he:decide (checkA a≠0)=true),s3.get gb]
  exact bad _ s03 (by omega) _ (if_pos he) he
 have d0:decide ((0:Int)≠0)=false:=rfl
 rw[he]
 by_cases h8:a.rds.length=8
 ·have h8':(a.rds.length:Int)=8:=by omega
  simp -implicitDefEqProofs(maxSteps:=999999)(disch:=first|with_reducible rfl|omega|(simp only[nA,nS,nD]<;>omega)|fail)only[go_sem,d0,cells_of (s3.get ga),hlR,h8',s3.get gb]
  exact bad _ s03 (by omega) _ (by unfold readE;rw[if_neg (by rw[he];simp),if_pos h8]) (by decide)
 have h8':¬(a.rds.length:Int)=8:=by omega
 have eE:readE a y=checkA (a.addR y):=by unfold readE;rw[if_neg (by rw[he];simp),if_neg h8]
 simp -implicitDefEqProofs(maxSteps:=999999)(disch:=first|with_reducible rfl|omega|(simp only[nA,nS,nD]<;>omega)|fail)only[go_sem,d0,cells_of (s3.get ga),hlR,h8']
 refine copied_ev s03.wf (x.mono s03) l _ fun C1 R1 G1 z4 ow=>?_
 have s4:=ow.sub
 have l4:=s4.next
 have o1C:=ow.c.one;have o1R:=ow.r.one;have o1G:=ow.g.one
 have g14:=(s3.trans s4).get gy
 simp -implicitDefEqProofs(maxSteps:=999999)(disch:=first|with_reducible rfl|omega|(simp only[nA,nS,nD]<;>omega)|fail)only[go_sem,o1C,o1R,o1G,cells_of g14]
 obtain⟨z5,hz5⟩:∃z5,z4.add (.cells .rw (atV a C1 R1 G1))=z5:=⟨_,rfl⟩
 have s45:z4.Sub z5:=by rw[←hz5];exact(H.Sub.refl s4.wf).add _
 have g5:z5.get z4.next=some (.cells .rw (atV a C1 R1 G1)):=by rw[←hz5];exact get_add_new rfl
 have n5:z5.next=z4.next+1:=by rw[←hz5];exact H.next_add _ _
 have ow5:=ow.mono s45
 have s6:=s45.trans ((H.Sub.refl s45.wf).add (.cells .rw [.int .i64 y.ck,.int .i64 y.ev,.int .i64 y.sh]))
 have ow6:=ow5.mono ((H.Sub.refl s45.wf).add (.cells .rw [.int .i64 y.ck,.int .i64 y.ev,.int .i64 y.sh]))
 have g6:=((H.Sub.refl s45.wf).add (.cells .rw [.int .i64 y.ck,.int .i64 y.ev,.int .i64 y.sh])).get g5
 have n6:=H.next_add z5 (.cells .rw [.int .i64 y.ck,.int .i64 y.ev,.int .i64 y.sh])
 rw[hz5]
 have ll:=l.r
 have r8:a.rds.length≤8:=(checkA_iff.1 he).lens.2.1
 refine ow6.r.app1 (by_:=24) (r:=encR y) s03.wf rfl (by omega) (SlAt.new _ (by rw[n5]) rfl rfl (by simp[encR]) (by simp)) rfl (by rw[List.length_map];omega) (by rw[List.length_map];omega) fun R2 z7 o7 b7 k7=>?_
 have ow7:=ow6.appR o7 b7 k7
 have nR:∀b,blkOf R1 b→b<z4.next:=fun b hb=>(ow.r.blk hb).2.1
 have g7:=k7.2 _ _ g6 fun hb=>by have:=nR _ hb;omega
 have l7:=k7.1
 have o1R2:=ow7.r.one
 have s07:=ow7.sub
 have n2R:∀b,atBlk C1 R2 G1 b→b≠z4.next:=fun b hb=>by
  rcases hb with hb|hb|hb
  ·have:=(ow.c.blk hb).2.1;omega
  ·rcases b7 b hb with q|q
   ·have:=nR _ q;omega
   ·omega
  ·have:=(ow.g.blk hb).2.1;omega
 have s8:z3.Sub (z7.set z4.next (.cells .rw (atV a C1 R2 G1))):=s07.set (by omega) (by omega) s03.wf _
 have ow8:=ow7.keep (Keeps.set z7 z4.next (.cells .rw (atV a C1 R2 G1))) s8 fun b hb=>n2R b hb
 simp -implicitDefEqProofs(maxSteps:=999999)(disch:=first|with_reducible rfl|omega|(simp only[nA,nS,nD]<;>omega)|fail)only[go_sem,g7,o1R2,cells_one o1R2]
 obtain⟨z8,hz8⟩:∃z8,z7.set z4.next (.cells .rw (atV a C1 R2 G1))=z8:=⟨_,rfl⟩
 rw[hz8] at s8 ow8
 try rw[hz8]
 have l8:=s8.next
 have sA:SmallA (a.addR y):=⟨l.c,by have:=r8;simp[At.addR];omega,l.g⟩
 refine checked_ev s8.wf (ow8.at_ sA) _ (fun z9 s9 hn=>?_) fun z9 s9 h0=>?_
 ·have s89:=s8.trans s9
  have l9:=s89.next
  simp -implicitDefEqProofs(maxSteps:=999999)(disch:=first|with_reducible rfl|omega|(simp only[nA,nS,nD]<;>omega)|fail)only[go_sem,s89.get (s3.get gb)]
  exact bad _ (s03.trans s89) (by omega) _ eE hn
 ·have s89:=s8.trans s9
  have l9:=s89.next
  have hA:readA a y=a.addR y:=if_pos (by rw[eE,h0])
  have s10:h.Sub (z9.set (h.next+2) (.cells .rw (atV (a.addR y) C1 R2 G1))):=(s03.trans s89).set (by omega) (by omega) hw _
  have:=q C1 R2 G1 _ (by rw[hA];exact((ow8.mono s9).base s03).keep (Keeps.set z9 (h.next+2) (.cells .rw (atV (a.addR y) C1 R2 G1))) s10 fun b hb=>by have:=((ow8.mono s9).blk hb).1;omega)
  rw[hA,eE,h0] at this
  simp -implicitDefEqProofs(maxSteps:=999999)(disch:=first|with_reducible rfl|omega|(simp only[nA,nS,nD]<;>omega)|fail)only[go_sem,s89.get (s3.get gb),o1C,o1R2,o1G]
  exact this
end Go.Ab.Tryz
namespace Go.Ab.Tryz
open Go.Proofs
theorem indexFuncInt_ev {l:List Int}{p:Int→Bool}{h:H}{x f:V}(hw:h.wf)(hx:SlAt h x 1 (l.map encI))(hp:∀a∈l,PureA h f [.int .i64 a] (.bool (p a))):
  E (.fn 143 [] []) [x,f] h fun v h'=>v=.int .i64 (fidx p l 0)∧h.Sub h':=by
 have hb:=hx.boundE
 refine Ev_body (fd:=c143) rfl rfl rfl ?_
 simp -implicitDefEqProofs(maxSteps:=999999)(disch:=first|with_reducible rfl|omega|(simp only[nA,nS,nD]<;>omega)|fail)only[c143,go_sem,hx.lenE]
 refine W_count l.length (fun i s=>∃tm h',s=⟨tm,h',[]⟩∧h.Sub h'∧(Opd.t 0).ev tm=x∧(Opd.t 1).ev tm=f∧(Opd.t 7).ev tm=.int .i64 (l.length:Int)∧(Opd.t 8).ev tm=.int .i64 (i:Int)∧fidx p l 0=fidx p (l.drop i) i)
  ?_ ?_ (i:=0) (Nat.zero_le _) ⟨_,_,rfl,H.Sub.refl hw,(by simp[ev_c,ev_put]<;>rfl),(by simp[ev_c,ev_put]<;>rfl),(by simp[ev_c,ev_put]<;>rfl),(by simp only[ev_put];rfl),rfl⟩
 ·rintro i s hi ⟨tm,h',rfl,hs,e0,e1,e7,e8,e9⟩
  have hi':(i:Int)<(l.length:Int):=by omega
  obtain⟨b,o,c,cs,rfl,hc,hq,hg,hn,hn0⟩:=(hx.mono hs).at hi
  simp -implicitDefEqProofs(maxSteps:=999999)(disch:=first|with_reducible rfl|omega|(simp only[nA,nS,nD]<;>omega)|fail)only[go_sem,e0,e1,e7,e8,hi',hq (nat_cst i),hc,hn0 (by omega),encI]
  refine(hp _ (List.getElem_mem hi)).use hs fun h2 hs2=>?_
  cases hpr:p l[i] with
  |true=>
   simp -implicitDefEqProofs(maxSteps:=999999)(disch:=first|with_reducible rfl|omega|(simp only[nA,nS,nD]<;>omega)|fail)only[go_sem,e0,e1,e7,e8]
   exact⟨by rw[e9,fidx_hit hi hpr],hs.trans hs2⟩
  |false=>
   simp -implicitDefEqProofs(maxSteps:=999999)(disch:=first|with_reducible rfl|omega|(simp only[nA,nS,nD]<;>omega)|fail)only[go_sem,e0,e1,e7,e8,wr_succ]
   exact⟨_,_,rfl,hs.trans hs2,(by simp[ev_c,ev_put,e0]<;>rfl),(by simp[ev_c,ev_put,e1]<;>rfl),(by simp[ev_c,ev_put,e7]<;>rfl),(by simp[ev_c,ev_put]<;>rfl),by rw[e9,fidx_miss hi hpr]⟩
 ·rintro s ⟨tm,h',rfl,hs,e0,e1,e7,e8,e9⟩
  simp -implicitDefEqProofs(maxSteps:=999999)(disch:=first|with_reducible rfl|omega|(simp only[nA,nS,nD]<;>omega)|fail)only[go_sem,e0,e1,e7,e8,Int.lt_irrefl]
  exact⟨by rw[e9];simp[fidx],hs⟩
theorem containsFuncInt_ev {l:List Int}{p:Int→Bool}{h:H}{x f:V}(hw:h.wf)(hx:SlAt h x 1 (l.map encI))(hp:∀a∈l,PureA h f [.int .i64 a] (.bool (p a))):
  E (.fn 58 [] []) [x,f] h fun v h'=>v=.bool (l.any p)∧h.Sub h':=by
 refine Ev_body (fd:=c58) rfl rfl rfl ?_
 simp -implicitDefEqProofs(maxSteps:=999999)(disch:=first|with_reducible rfl|omega|(simp only[nA,nS,nD]<;>omega)|fail)only[c58,go_sem]
 refine(indexFuncInt_ev hw hx hp).mono fun v h' hv=>?_
 obtain⟨rfl,hs⟩:=hv
 simp -implicitDefEqProofs(maxSteps:=999999)(disch:=first|with_reducible rfl|omega|(simp only[nA,nS,nD]<;>omega)|fail)only[go_sem]
 exact⟨by rw[fidx_any],hs⟩
theorem indexInt_ev {l:List Int}{h:H}{x:V}(hw:h.wf)(hx:SlAt h x 1 (l.map encI))(e:Int):
  E (.fn 142 [] []) [x,.int .i64 e] h fun v h'=>v=.int .i64 (fidx (fun r=>decide (e=r)) l 0)∧h.Sub h':=by
 have hb:=hx.boundE
 refine Ev_body (fd:=c142) rfl rfl rfl ?_
 simp -implicitDefEqProofs(maxSteps:=999999)(disch:=first|with_reducible rfl|omega|(simp only[nA,nS,nD]<;>omega)|fail)only[c142,go_sem,hx.lenE]
 refine W_count l.length (fun i s=>∃tm h',s=⟨tm,h',[]⟩∧h.Sub h'∧(Opd.t 0).ev tm=x∧(Opd.t 1).ev tm=.int .i64 e∧(Opd.t 7).ev tm=.int .i64 (l.length:Int)∧(Opd.t 8).ev tm=.int .i64 (i:Int)∧fidx (fun r=>decide (e=r)) l 0=fidx (fun r=>decide (e=r)) (l.drop i) i)
  ?_ ?_ (i:=0) (Nat.zero_le _) ⟨_,_,rfl,H.Sub.refl hw,(by simp[ev_c,ev_put]<;>rfl),(by simp[ev_c,ev_put]<;>rfl),(by simp[ev_c,ev_put]<;>rfl),(by simp[ev_c,ev_put]<;>rfl),rfl⟩
 ·rintro i s hi ⟨tm,h',rfl,hs,e0,e1,e7,e8,e9⟩
  have hi':(i:Int)<(l.length:Int):=by omega
  obtain⟨b,o,c,cs,rfl,hc,hq,hg,hn,hn0⟩:=(hx.mono hs).at hi
  have hv:=hn0 (by omega)
  simp only[encI] at hv
  simp -implicitDefEqProofs(maxSteps:=999999)(disch:=first|with_reducible rfl|omega|(simp only[nA,nS,nD]<;>omega)|fail)only[go_sem,e0,e1,e7,e8,hi',hq (nat_cst i),hc,hv]
  by_cases hpr:e=l[i]
  ·have hd:decide (e=l[i])=true:=decide_eq_true hpr
   simp -implicitDefEqProofs(maxSteps:=999999)(disch:=first|with_reducible rfl|omega|(simp only[nA,nS,nD]<;>omega)|fail)only[go_sem,e0,e1,e7,e8,hd,hpr]
   exact⟨by first|rw[e9,fidx_hit hi hd]|(rw[←hpr];rw[e9,fidx_hit hi hd]),hs⟩
  ·have hd:decide (e=l[i])=false:=decide_eq_false hpr
   simp -implicitDefEqProofs(maxSteps:=999999)(disch:=first|with_reducible rfl|omega|(simp only[nA,nS,nD]<;>omega)|fail)only[go_sem,e0,e1,e7,e8,hd,hpr,wr_succ]
   exact⟨_,_,rfl,hs,(by simp[ev_c,ev_put,e0]<;>rfl),(by simp[ev_c,ev_put,e1]<;>rfl),(by simp[ev_c,ev_put,e7]<;>rfl),(by simp[ev_c,ev_put]<;>rfl),by rw[e9,fidx_miss hi hd]⟩
 ·rintro s ⟨tm,h',rfl,hs,e0,e1,e7,e8,e9⟩
  simp -implicitDefEqProofs(maxSteps:=999999)(disch:=first|with_reducible rfl|omega|(simp only[nA,nS,nD]<;>omega)|fail)only[go_sem,e0,e1,e7,e8,Int.lt_irrefl]
  exact⟨by rw[e9];simp[fidx],hs⟩
theorem hasInt_ev {l:List Int}{h:H}{x:V}(hw:h.wf)(hx:SlAt h x 1 (l.map encI))(e:Int)(Q:V→H→Prop)(q:∀h',h.Sub h'→Q (.bool (l.any fun r=>decide (e=r))) h'):
  Ev fnG fastA (.fn 57 [] []) [x,.int .i64 e] h Q:=by
 refine Ev_body (fd:=c57) rfl rfl rfl ?_
 simp -implicitDefEqProofs(maxSteps:=999999)(disch:=first|with_reducible rfl|omega|(simp only[nA,nS,nD]<;>omega)|fail)only[c57,go_sem]
 refine(indexInt_ev hw hx e).mono fun v h' hv=>?_
 obtain⟨rfl,hs⟩:=hv
 simp -implicitDefEqProofs(maxSteps:=999999)(disch:=first|with_reducible rfl|omega|(simp only[nA,nS,nD]<;>omega)|fail)only[go_sem]
 rw[fidx_any]
 exact q _ hs
theorem isNaN_eq (a:Int)(h:H)(R:V→H→Prop):Ev fnG fastA (.fn 171 [] []) [.int .i64 a] h R=R (.bool false) h:=by
 refine Ev.det (Ev_body (fd:=c171) rfl rfl rfl ?_) R
 simp -implicitDefEqProofs(maxSteps:=999999)(disch:=first|with_reducible rfl|omega|(simp only[nA,nS,nD]<;>omega)|fail)only[c171,go_sem,ne_eq,not_true_eq_false,not_false_eq_true]
theorem less_eq (a b:Int)(h:H)(Q:V→H→Prop):Ev fnG fastA (.fn 144 [] []) [.int .i64 a,.int .i64 b] h Q=Q (.bool (decide (a<b))) h:=by
 refine Ev.det (Ev_body (fd:=c144) rfl rfl rfl ?_) Q
 simp -implicitDefEqProofs(maxSteps:=999999)(disch:=first|with_reducible rfl|omega|(simp only[nA,nS,nD]<;>omega)|fail)only[c144,go_sem,isNaN_eq]
theorem adj_pw {R:Int→Int→Prop}(tr:∀a b c,R a b→R b c→R a c):∀{l:List Int},(∀i (h:i+1<l.length),R l[i] l[i+1])→l.Pairwise R
 |[],_=>List.Pairwise.nil
 |[a],_=>by simp
 |a::b::l,h=>by
  have ih:=adj_pw tr (l:=b::l) fun i hi=>h (i+1) (by simpa using hi)
  rw[List.pairwise_cons] at ih⊢
  have hab:R a b:=h 0 (by simp)
  exact⟨fun x hx=>by
   rcases List.mem_cons.1 hx with rfl|hx
   ·exact hab
   ·exact tr _ _ _ hab (ih.1 x hx),List.pairwise_cons.2 ih⟩
theorem isSorted_ev {h:H}{x:V}{l:List Int}(hx:SlAt h x 1 (l.map encI))(Q:V→H→Prop):Ev fnG fastA (.fn 64 [] []) [x] h Q=Q (.bool (decide (l.Pairwise (· ≤ ·)))) h:=by
 have hlx:=hx.lenE
 have hbd:=hx.boundE
 refine Ev.det (Ev_body (fd:=c64) rfl rfl rfl ?_) Q
 have ew0:wr .i64 ((l.length:Int)-1)=(l.length:Int)-1:=wr_in (by omega) (by omega)
 simp -implicitDefEqProofs(maxSteps:=999999)(disch:=first|with_reducible rfl|omega|(simp only[nA,nS,nD]<;>omega)|fail)only[c64,go_sem,hlx]
 refine W_loop (fun k s=>∃(tm:Go.Ab.T V) (i:Int),s=⟨tm,h,[]⟩∧k=(i+1).toNat∧ -1≤i∧i<l.length∧(i= -1→l.length=0)∧(∀j (hj:j+1<l.length),i<((j+1:Nat):Int)→l[j]≤l[j+1])∧(Opd.t 0).ev tm=x∧(Opd.t 3).ev tm=.int .i64 i) ?_ l.length _ ⟨_,(l.length:Int)-1,rfl,by omega,by omega,by omega,by omega,fun j hj h0=>by omega,(by simp[ev_c,ev_put]<;>rfl),(by simp[ev_c,ev_put,ew0]<;>rfl)⟩
 rintro k s ⟨tm,i,rfl,hk,i0,i1,i2,hord,t0,t3⟩
 by_cases hi:0<i
 ·obtain⟨n,rfl⟩:∃n:Nat,i=((n+1:Nat):Int):=⟨(i-1).toNat,by omega⟩
  have hn1:n+1<l.length:=by omega
  have hn0:n<l.length:=by omega
  obtain⟨b1,o1,c1,cs1,rfl,hc1,hq1,hg1,hn1',hn01⟩:=hx.at hn1
  obtain⟨b2,o2,c2,cs2,e2,hc2,hq2,hg2,hn2',hn02⟩:=hx.at hn0
  have ew:wr .i64 (((n+1:Nat):Int)-1)=(n:Int):=by rw[wr_in (by omega) (by omega)];omega
  by_cases hlt:l[n+1]<l[n]
  ·have hf:decide (l.Pairwise (· ≤ ·))=false:=decide_eq_false fun hp=>by
    have:=List.pairwise_iff_getElem.1 hp n (n+1) hn0 hn1 (by omega);omega
   have dl:decide (l[n+1]<l[n])=true:=decide_eq_true hlt
   simp -implicitDefEqProofs(maxSteps:=999999)(disch:=first|with_reducible rfl|omega|(simp only[nA,nS,nD]<;>omega)|fail)only[go_sem,t0,t3,hi,hq1 (nat_cst (n+1)),hc1,hn01 (by omega),ew,hq2 (nat_cst n),hc2,hn02 (by omega),encI,less_eq,dl,hf]
  ·have dl:decide (l[n+1]<l[n])=false:=decide_eq_false hlt
   simp -implicitDefEqProofs(maxSteps:=999999)(disch:=first|with_reducible rfl|omega|(simp only[nA,nS,nD]<;>omega)|fail)only[go_sem,t0,t3,hi,hq1 (nat_cst (n+1)),hc1,hn01 (by omega),ew,hq2 (nat_cst n),hc2,hn02 (by omega),encI,less_eq,dl]
   exact⟨n+1,by omega,_,(n:Int),rfl,by omega,by omega,by omega,by omega,fun j hj h0=>by
    by_cases e:j=n
    ·subst e;omega
    ·exact hord j hj (by omega),(by simp[ev_c,ev_put,t0]<;>rfl),(by simp[ev_c,ev_put,ew]<;>rfl)⟩
 ·have ht:decide (l.Pairwise (· ≤ ·))=true:=decide_eq_true (adj_pw (R:=fun a b=>a≤b) (fun a b c h1 h2=>Int.le_trans h1 h2) fun j hj=>hord j hj (by omega))
  simp -implicitDefEqProofs(maxSteps:=999999)(disch:=first|with_reducible rfl|omega|(simp only[nA,nS,nD]<;>omega)|fail)only[go_sem,t0,t3,hi,ht]
end Go.Ab.Tryz
namespace Go.Ab.Tryz
open Go.Proofs
end Go.Ab.Tryz
namespace Go.Ab.Tryz
open Go.Proofs
def rowsT (ss gg tt:List Int):Nat→List (List V)
 |0=>ss.map encI
 |1=>gg.map encI
 |2=>tt.map encI
 |_=>[]
theorem rowsT0 {ss gg tt:List Int}{c:Int}:∀i,i<6→updF (rowsT ss gg tt) 0 (rowsT ss gg tt 0++[encI c]) i=rowsT (ss++[c]) gg tt i:=fun i hi=>by
 rcases(by omega:i=0∨i=1∨i=2∨i=3∨i=4∨i=5) with rfl|rfl|rfl|rfl|rfl|rfl<;>simp[updF,rowsT]
theorem rowsT1 {ss gg tt:List Int}{c:Int}:∀i,i<6→updF (rowsT ss gg tt) 1 (rowsT ss gg tt 1++[encI c]) i=rowsT ss (gg++[c]) tt i:=fun i hi=>by
 rcases(by omega:i=0∨i=1∨i=2∨i=3∨i=4∨i=5) with rfl|rfl|rfl|rfl|rfl|rfl<;>simp[updF,rowsT]
theorem rowsT2 {ss gg tt:List Int}{c:Int}:∀i,i<6→updF (rowsT ss gg tt) 2 (rowsT ss gg tt 2++[encI c]) i=rowsT ss gg (tt++[c]) i:=fun i hi=>by
 rcases(by omega:i=0∨i=1∨i=2∨i=3∨i=4∨i=5) with rfl|rfl|rfl|rfl|rfl|rfl<;>simp[updF,rowsT]
structure SmI (h0 z:H)(b7:Nat)(v:Nat→V)(ss gg tt:List Int):Prop where
 sl:Sl6 h0 z (b7+1) v (fun _=>1) (rowsT ss gg tt)
 g:z.get b7=some (.cells .rw [v 0,v 1,v 2])
 nx:b7+1≤z.next
theorem SmI.sub {h0 z:H}{b7:Nat}{v:Nat→V}{ss gg tt:List Int}(k:SmI h0 z b7 v ss gg tt):h0.Sub z:=(k.sl.o 0 (by decide)).1
theorem SmI.mono {h0 z z':H}{b7:Nat}{v:Nat→V}{ss gg tt:List Int}(k:SmI h0 z b7 v ss gg tt)(s:z.Sub z'):SmI h0 z' b7 v ss gg tt:=⟨k.sl.mono s,s.get k.g,Nat.le_trans k.nx s.next⟩
theorem SmI.put {h0 z z':H}{b7:Nat}{v v':Nat→V}{ss gg tt ss' gg' tt':List Int}(k:SmI h0 z b7 v ss gg tt)(hw:h0.wf)(hb:h0.next≤b7){S:Nat→Prop}(kk:Keeps S z z')(sl:Sl6 h0 z' (b7+1) v' (fun _=>1) (rowsT ss' gg' tt')):
  SmI h0 (z'.set b7 (.cells .rw [v' 0,v' 1,v' 2])) b7 v' ss' gg' tt':=by
 have s5:=(sl.o 0 (by omega)).1
 have l5:=kk.1
 have lz:=k.nx
 have sz:=s5.set (b:=b7) hb (by omega) hw (.cells .rw [v' 0,v' 1,v' 2])
 exact⟨sl.keep (Keeps.set z' b7 (.cells .rw [v' 0,v' 1,v' 2])) sz fun b hb=>by omega,get_set_same rfl,by rw[H.next_set];omega⟩
theorem SmI.tr {h0 z:H}{b7:Nat}{v:Nat→V}{ss gg tt:List Int}(k:SmI h0 z b7 v ss gg tt)(l1:ss.length≤1000)(l2:gg.length≤1000)(l3:tt.length≤1000):TrAt z (v 0) (v 1) (v 2) ss gg tt:=
 ⟨(k.sl.o 0 (by decide)).sl (by show(ss.map encI).length≤_;rw[List.length_map];omega),(k.sl.o 1 (by decide)).sl (by show(gg.map encI).length≤_;rw[List.length_map];omega),(k.sl.o 2 (by decide)).sl (by show(tt.map encI).length≤_;rw[List.length_map];omega)⟩
theorem tr_nil (h:H):TrAt h .nils .nils .nils [] [] []:=by
 have:SlAt h .nils 1 (([]:List Int).map encI):=⟨by simp,by simp,.inl ⟨rfl,rfl⟩⟩
 exact⟨this,this,this⟩
def someT (a:At):List Int × List Int × List Int:=match allC a with
 |[]=>([],[],[])
 |t::_=>if errT a false=0 then(t.1.map Prod.fst,t.1.map Prod.snd,(List.range a.evs.toNat).map fun i=>mg t.2 4 i) else([],[],[])
set_option maxHeartbeats 4000000 in
theorem Some_ev {h:H}(hw:h.wf){a:At}{C R G:V}(x:AtAt h C R G a)(Q:V→H→Prop)(q:∀S Ga Tm h',h.Sub h'→TrAt h' S Ga Tm (someT a).1 (someT a).2.1 (someT a).2.2→Q (.tup [.agg [S,Ga,Tm],.int .i64 (errT a false)]) h'):
  Ev fnG fastA (.fn 48 [] []) [.agg (atV a C R G)] h Q:=by
 have oC:=x.c.one;have oR:=x.r.one;have oG:=x.g.one
 refine Ev_body (fd:=c48) rfl rfl rfl ?_
 obtain⟨z,hz⟩:∃z,(h.add (.cells .rw (atV a C R G))).add (.cells .rw [.nils,.nils,.nils])=z:=⟨_,rfl⟩
 have sz:h.Sub z:=by rw[←hz];exact(by repeat(first|assumption|exact H.Sub.refl (by assumption)|refine H.Sub.add ?_ _|refine H.Sub.set ?_ (by first|omega|(simp only[H.next_add,H.next_set,H.next_del]<;>omega)) (by first|omega|(simp only[H.next_add,H.next_set,H.next_del]<;>omega)) (by assumption) _))
 have nz:z.next=h.next+2:=by rw[←hz];simp only[H.next_add]
 have ga:z.get h.next=some (.cells .rw (atV a C R G)):=by rw[←hz];simp -implicitDefEqProofs(maxSteps:=999999)(disch:=first|with_reducible rfl|omega|(simp only[nA,nS,nD]<;>omega)|fail)only[go_sem]
 have gb:z.get (h.next+1)=some (.cells .rw [.nils,.nils,.nils]):=by rw[←hz];simp -implicitDefEqProofs(maxSteps:=999999)(disch:=first|with_reducible rfl|omega|(simp only[nA,nS,nD]<;>omega)|fail)only[go_sem]
 simp -implicitDefEqProofs(maxSteps:=999999)(disch:=first|with_reducible rfl|omega|(simp only[nA,nS,nD]<;>omega)|fail)only[c48,go_sem,oC,oR,oG]
 rw[hz]
 clear hz
 refine told_ev2 sz.wf (x.mono sz) false _ (fun z1 s1 he=>?_) fun z1 v y Ps s1 hx hl ho hne r _ he e f=>?_
 ·have l1:=s1.next
  have hs1:=sz.trans s1
  have eT:someT a=([],[],[]):=by
   unfold someT
   split
   ·rfl
   ·rw[if_neg he]
  simp -implicitDefEqProofs(maxSteps:=999999)(disch:=first|with_reducible rfl|omega|(simp only[nA,nS,nD]<;>omega)|fail)only[go_sem,(decide_eq_true he:decide (errT a false≠0)=true),s1.get gb]
  have s2:=hs1.set (b:=h.next+1) (by omega) (by omega) hw (.cells .rw [.nils,.nils,.nils])
  have:=q .nils .nils .nils _ s2 (by rw[eT];exact tr_nil _)
  exact this
 have l1:=s1.next
 have hs1:=sz.trans s1
 have d0:decide ((0:Int)≠0)=false:=rfl
 obtain⟨p,P',rfl⟩:=List.exists_cons_of_ne_nil hne
 have hpl:=hl p (List.mem_cons_self ..)
 have hpe:=f.e p (List.mem_cons_self ..)
 have hpc:allC a=(p.2.1,p.2.2)::P'.map Prod.snd:=by rw[←e];rfl
 have hmem:(p.2.1,p.2.2)∈casesL a (fun _=>true):=by show _∈allC a;rw[hpc];exact List.mem_cons_self ..
 have hlen:p.2.1.length=a.cks.length:=(cases_sound r hmem).2.1
 have hins:∀(i:Nat) s,p.2.1[i]? =some s→RunOf a i s:=(cases_sound r hmem).2.2.1
 have rl:=r.lens
 have re:=r.evs
 have hso:SlAt z1 p.1 2 (p.2.1.map encX):=hpe.sl (by rw[List.length_map];omega)
 have eT:someT a=(p.2.1.map Prod.fst,p.2.1.map Prod.snd,(List.range a.evs.toNat).map fun i=>mg p.2.2 4 i):=by
  unfold someT
  rw[hpc]
  simp only
  rw[if_pos he]
 rw[eT] at q
 obtain⟨bY,oY,cY,csY,eY,hcY,hqY,hgY,hnY,_⟩:=hx.at (k:=0) (by simp)
 simp only[List.getElem_cons_zero] at hgY hnY
 have hv0:nth oY csY=some p.1:=by have:=hnY 0 (by decide);simpa[rowF] using this
 have hlR:=hso.lenE
 have sA:=(H.Sub.refl hs1.wf).add (.cells .rw [.nils,.nils,.nils])
 have gA:(z1.add (.cells .rw [.nils,.nils,.nils])).get z1.next=some (.cells .rw [.nils,.nils,.nils]):=get_add_new rfl
 have nA':=H.next_add z1 (.cells .rw [.nils,.nils,.nils])
 have lbY:bY<z1.next:=(H.cells_eq hcY).elim fun kd e=>hs1.wf _ _ e
 simp -implicitDefEqProofs(maxSteps:=999999)(disch:=first|with_reducible rfl|omega|(simp only[nA,nS,nD]<;>omega)|fail)only[go_sem,d0,hqY nat_zero,hcY,hv0,hlR]
 obtain⟨zA,hzA⟩:∃zA,z1.add (.cells .rw [.nils,.nils,.nils])=zA:=⟨_,rfl⟩
 rw[hzA] at sA gA nA'
 try rw[hzA]
 have w1:=hs1.wf
 have k0:SmI z1 zA z1.next (fun _=>.nils) [] [] []:=by
  refine⟨⟨fun i hi=>?_,fun i hi b hb=>(blkOf_nils hb).elim,fun i j _ _ _ b hb=>(blkOf_nils hb).elim⟩,gA,by omega⟩
  have:rowsT [] [] [] i=[]:=by rcases(by omega:i=0∨i=1∨i=2∨i=3∨i=4∨i=5) with rfl|rfl|rfl|rfl|rfl|rfl<;>rfl
  rw[this];exact(OwnSl.nil sA _).c
 have lzh:h.next+2≤z1.next:=by omega
 refine W_count p.2.1.length (fun i s=>∃tm z' v,s=⟨tm,z',[]⟩∧SmI z1 z' z1.next v ((p.2.1.take i).map Prod.fst) ((p.2.1.take i).map Prod.snd) []∧
   (Opd.t 1).ev tm=.ptr h.next 0∧(Opd.t 2).ev tm=.ptr (h.next+1) 0∧(Opd.t 5).ev tm=y∧(Opd.t 7).ev tm=.ptr z1.next 0∧(Opd.t 24).ev tm=p.1∧(Opd.t 25).ev tm=.int .i64 (p.2.1.length:Int)∧(Opd.t 26).ev tm=.int .i64 (i:Int)) ?_ ?_ (i:=0) (Nat.zero_le _)
  ⟨_,_,_,rfl,k0,(by simp[ev_c,ev_put]<;>rfl),(by simp[ev_c,ev_put]<;>rfl),(by simp[ev_c,ev_put]<;>rfl),(by simp[ev_c,ev_put]<;>rfl),(by simp[ev_c,ev_put]<;>rfl),(by simp[ev_c,ev_put]<;>rfl),(by simp[ev_c,ev_put]<;>rfl)⟩
 ·clear k0
  rintro i s hi ⟨tm,z',vv,rfl,k,t1,t2,t5,t7,t24,t25,t26⟩
  have hi':(i:Int)<(p.2.1.length:Int):=by omega
  have ks:=k.sub
  obtain⟨b,o,cc,cs,eC,hc,hq,hg,_,_⟩:=(hso.mono ks).at hi
  have htk:p.2.1.take (i+1)=p.2.1.take i++[p.2.1[i]]:=take_at hi
  have e1:(p.2.1.take (i+1)).map Prod.fst=(p.2.1.take i).map Prod.fst++[p.2.1[i].1]:=by rw[htk,List.map_append];rfl
  have e2:(p.2.1.take (i+1)).map Prod.snd=(p.2.1.take i).map Prod.snd++[p.2.1[i].2]:=by rw[htk,List.map_append];rfl
  have la1:((p.2.1.take i).map Prod.fst).length≤3:=by rw[List.length_map,List.length_take];omega
  have la2:((p.2.1.take i).map Prod.snd).length≤3:=by rw[List.length_map,List.length_take];omega
  rw[e1,e2]
  generalize p.2.1[i]=sg at hg⊢
  generalize(p.2.1.take i).map Prod.fst=ss at k la1⊢
  generalize(p.2.1.take i).map Prod.snd=gg at k la2⊢
  simp only[encX] at hg
  have uB:=(H.Sub.refl ks.wf).add (.cells .rw [.int .i64 sg.1,.int .i64 sg.2])
  have kB:=k.mono uB
  have g9:(z'.add (.cells .rw [.int .i64 sg.1,.int .i64 sg.2])).get z'.next=some (.cells .rw [.int .i64 sg.1,.int .i64 sg.2]):=get_add_new rfl
  have nB:=H.next_add z' (.cells .rw [.int .i64 sg.1,.int .i64 sg.2])
  have lk:=k.nx
  simp -implicitDefEqProofs(maxSteps:=999999)(disch:=first|with_reducible rfl|omega|(simp only[nA,nS,nD]<;>omega)|fail)only[go_sem,t1,t2,t5,t7,t24,t25,t26,hi',hq (nat_cst i),hc,hg,cells_of k.g]
  obtain⟨zB,hzB⟩:∃zB,z'.add (.cells .rw [.int .i64 sg.1,.int .i64 sg.2])=zB:=⟨_,rfl⟩
  rw[hzB] at uB kB g9 nB
  try rw[hzB]
  have uh:=(H.Sub.refl kB.sub.wf).add (.cells .rw [.int .i64 sg.1])
  have kh:=kB.mono uh
  have o3:OwnC z1 (zB.add (.cells .rw [.int .i64 sg.1])) (vv 0) 1 (ss.map encI):=kh.sl.o 0 (by decide)
  have sn3:SlAt (zB.add (.cells .rw [.int .i64 sg.1])) (.sl (z'.next+1) 0 1 (.fix 1)) 1 [encI sg.1]:=SlAt.new _ (by rw[nB]) rfl rfl (by simp[encI]) (by simp)
  have gh1:=kh.g
  have g9h:=uh.get g9
  generalize zB.add (.cells .rw [.int .i64 sg.1])=zh at uh kh o3 sn3 gh1 g9h⊢
  refine o3.app1 (by_:=8) (r:=encI sg.1) w1 rfl (by decide) sn3 rfl (by rw[List.length_map];omega) (by rw[List.length_map];omega) fun w3 zi oi ni ki=>?_
  have ow3:=oi.one
  have lo0:=kh.sl.lo 0 (by decide)
  have gi:=ki.2 _ _ gh1 fun hb=>by have:=lo0 _ hb;omega
  have lB9:=kB.sub.wf _ _ g9
  have dB:¬blkOf (vv 0) z'.next:=fun hb=>by have:=((k.sl.o 0 (by decide)).blk hb).2.1;omega
  have g9i:=ki.2 _ _ g9h dB
  have sl3:=(kh.sl.app (i:=0) (by decide) oi ni kh.nx ki).rw rowsT0
  have uj:=(H.Sub.refl oi.1.wf).add (.cells .rw [.int .i64 sg.2])
  have sl3j:=sl3.mono uj
  have o4:OwnC z1 (zi.add (.cells .rw [.int .i64 sg.2])) (vv 1) 1 (gg.map encI):=sl3j.o 1 (by decide)
  have sn4:SlAt (zi.add (.cells .rw [.int .i64 sg.2])) (.sl zi.next 0 1 (.fix 1)) 1 [encI sg.2]:=SlAt.new _ rfl rfl rfl (by simp[encI]) (by simp)
  have gj:=uj.get gi
  have g9j:=uj.get g9i
  have li:=ki.1
  have lh:=kh.nx
  simp -implicitDefEqProofs(maxSteps:=999999)(disch:=first|with_reducible rfl|omega|(simp only[nA,nS,nD]<;>omega)|fail)only[go_sem,t1,t2,t5,t7,t24,t25,t26,cells_of gi,cells_of g9i,cells_of gh1,cells_of g9h,cells_of kB.g,cells_of g9]
  generalize zi.add (.cells .rw [.int .i64 sg.2])=zj at uj sl3j o4 sn4 gj g9j⊢
  refine o4.app1 (by_:=8) (r:=encI sg.2) w1 rfl (by decide) sn4 rfl (by rw[List.length_map];omega) (by rw[List.length_map];omega) fun w4 zk ok nk4 kk=>?_
  have ow4:=ok.one
  have ov2:=(kh.sl.o 2 (by decide)).one
  have gk:=kk.2 _ _ gj fun hb=>by have:=kh.sl.lo 1 (by decide) _ hb;omega
  have sl4:=(sl3j.app (i:=1) (by decide) ok nk4 (by have:=uj.next;omega) kk).rw rowsT1
  have kq:Keeps (fun b=>blkOf (vv 0) b∨blkOf (vv 1) b) zh zk:=((ki.trans (Keeps.of uj (fun _=>False))).trans kk).mono fun b hb=>hb.elim (fun hb=>hb.elim .inl False.elim) .inr
  have km:=kh.put w1 (Nat.le_refl _) kq sl4
  simp -implicitDefEqProofs(maxSteps:=999999)(disch:=first|with_reducible rfl|omega|(simp only[nA,nS,nD]<;>omega)|fail)only[go_sem,t1,t2,t5,t7,t24,t25,t26,ow3,cells_one ow3,ow4,cells_one ow4,gk,cells_of gi,cells_of g9i,cells_of gh1,cells_of g9h,cells_of gj,cells_of g9j,cells_of kB.g,cells_of g9,cells_of gk,wr_succ]
  exact⟨_,_,_,rfl,km,(by simp[ev_c,ev_put,t1]<;>rfl),(by simp[ev_c,ev_put,t2]<;>rfl),(by simp[ev_c,ev_put,t5]<;>rfl),(by simp[ev_c,ev_put,t7]<;>rfl),(by simp[ev_c,ev_put,t24]<;>rfl),(by simp[ev_c,ev_put,t25]<;>rfl),(by simp[ev_c,ev_put]<;>rfl)⟩
 clear k0
 rintro s ⟨tm,z',vv,rfl,k,t1,t2,t5,t7,t24,t25,t26⟩
 rw[List.take_length] at k
 have ga':=k.sub.get (s1.get ga)
 simp -implicitDefEqProofs(maxSteps:=999999)(disch:=first|with_reducible rfl|omega|(simp only[nA,nS,nD]<;>omega)|fail)only[go_sem,t1,t2,t5,t7,t24,t25,t26,Int.lt_irrefl,cells_of ga']
 obtain⟨ne,hne'⟩:∃ne:Nat,a.evs=ne:=⟨a.evs.toNat,by omega⟩
 rw[hne',Int.toNat_natCast] at q
 refine W_count ne (fun i s=>∃tm z' v,s=⟨tm,z',[]⟩∧SmI z1 z' z1.next v (p.2.1.map Prod.fst) (p.2.1.map Prod.snd) ((List.range i).map fun i=>mg p.2.2 4 i)∧
   (Opd.t 2).ev tm=.ptr (h.next+1) 0∧(Opd.t 5).ev tm=y∧(Opd.t 7).ev tm=.ptr z1.next 0∧(Opd.t 46).ev tm=.int .i64 (ne:Int)∧(Opd.t 47).ev tm=.int .i64 (i:Int)) ?_ ?_ (i:=0) (Nat.zero_le _)
  ⟨_,_,_,rfl,k,(by simp[ev_c,ev_put,t2]<;>rfl),(by simp[ev_c,ev_put,t5]<;>rfl),(by simp[ev_c,ev_put,t7]<;>rfl),by rw[←hne'];exact(by simp[ev_c,ev_put]<;>rfl),(by simp[ev_c,ev_put]<;>rfl)⟩
 ·clear k t1 t2 t5 t7 t24 t25 t26 ga'
  rintro i s hi ⟨tm,z',vv,rfl,k,t2,t5,t7,t46,t47⟩
  have hi':(i:Int)<(ne:Int):=by omega
  have ks:=k.sub
  have hm:nth (oY+1+4*5+i*1) csY=some (.int .i64 (mg p.2.2 4 i)):=by
   have:=hnY (1+4*5+i*1) (by omega)
   rw[←nth_eq,row_at hpl.len (by omega) (by omega)] at this
   rw[←this];congr 1;omega
  have lr:((List.range i).map fun i=>mg p.2.2 4 i).length≤4:=by rw[List.length_map,List.length_range];omega
  have e1:((List.range (i+1)).map fun i=>mg p.2.2 4 i)=((List.range i).map fun i=>mg p.2.2 4 i)++[mg p.2.2 4 i]:=by rw[List.range_succ,List.map_append];rfl
  rw[e1]
  generalize((List.range i).map fun i=>mg p.2.2 4 i)=tt at k lr⊢
  generalize mg p.2.2 4 i=m at hm⊢
  have uh:=(H.Sub.refl ks.wf).add (.cells .rw [.int .i64 m])
  have kh:=k.mono uh
  have o3:OwnC z1 (z'.add (.cells .rw [.int .i64 m])) (vv 2) 1 (tt.map encI):=kh.sl.o 2 (by decide)
  have sn3:SlAt (z'.add (.cells .rw [.int .i64 m])) (.sl z'.next 0 1 (.fix 1)) 1 [encI m]:=SlAt.new _ rfl rfl rfl (by simp[encI]) (by simp)
  have gh1:=kh.g
  have lk:=k.nx
  have hY':=ks.cells hcY
  have i4:q_iaa 5 5 (.ptr bY (oY+1)) (.int .i64 4)=some (.ptr bY (oY+1+4*5)):=q_iaa_ptr (nat_num 4) (by omega)
  simp -implicitDefEqProofs(maxSteps:=999999)(disch:=first|with_reducible rfl|omega|(simp only[nA,nS,nD]<;>omega)|fail)only[go_sem,t2,t5,t7,t46,t47,hi',cells_of k.g,hqY nat_zero,i4,q_iaa_ptr (nat_cst i),hY',hm]
  generalize z'.add (.cells .rw [.int .i64 m])=zh at uh kh o3 sn3 gh1⊢
  refine o3.app1 (by_:=8) (r:=encI m) w1 rfl (by decide) sn3 rfl (by rw[List.length_map];omega) (by rw[List.length_map];omega) fun w3 zi oi ni ki=>?_
  have ow3:=oi.one
  have ov0:=(kh.sl.o 0 (by decide)).one
  have ov1:=(kh.sl.o 1 (by decide)).one
  have gi:=ki.2 _ _ gh1 fun hb=>by have:=kh.sl.lo 2 (by decide) _ hb;omega
  have km:=kh.put w1 (Nat.le_refl _) ki ((kh.sl.app (i:=2) (by decide) oi ni kh.nx ki).rw rowsT2)
  have hYh:=uh.cells hY'
  simp -implicitDefEqProofs(maxSteps:=999999)(disch:=first|with_reducible rfl|omega|(simp only[nA,nS,nD]<;>omega)|fail)only[go_sem,t2,t5,t7,t46,t47,ow3,cells_one ow3,gi,cells_of gh1,hYh,cells_of k.g,hY',hm,wr_succ]
  exact⟨_,_,_,rfl,km,(by simp[ev_c,ev_put,t2]<;>rfl),(by simp[ev_c,ev_put,t5]<;>rfl),(by simp[ev_c,ev_put,t7]<;>rfl),(by simp[ev_c,ev_put,t46]<;>rfl),(by simp[ev_c,ev_put]<;>rfl)⟩
 clear k t1 t2 t5 t7 t24 t25 t26 ga'
 rintro s ⟨tm,z',vv,rfl,k,t2,t5,t7,t46,t47⟩
 have ov0:=(k.sl.o 0 (by decide)).one
 have ov1:=(k.sl.o 1 (by decide)).one
 have ov2:=(k.sl.o 2 (by decide)).one
 have lk:=k.nx
 have gb':=k.sub.get (s1.get gb)
 have k2:=Keeps.set z' (h.next+1) (.cells .rw [vv 0,vv 1,vv 2])
 have s2:=(hs1.trans k.sub).set (b:=h.next+1) (by omega) (by omega) hw (.cells .rw [vv 0,vv 1,vv 2])
 have tr:=k.tr (by rw[List.length_map];omega) (by rw[List.length_map];omega) (by rw[List.length_map,List.length_range];omega)
 have off:∀i,i<3→∀b,blkOf (vv i) b→b≠h.next+1:=fun i hi b hb=>by have:=k.sl.lo i (by omega) b hb;omega
 have tr2:TrAt (z'.set (h.next+1) (.cells .rw [vv 0,vv 1,vv 2])) (vv 0) (vv 1) (vv 2) (p.2.1.map Prod.fst) (p.2.1.map Prod.snd) ((List.range ne).map fun i=>mg p.2.2 4 i):=
  ⟨SlAt_keep tr.s k2 (off 0 (by decide)),SlAt_keep tr.g k2 (off 1 (by decide)),SlAt_keep tr.t k2 (off 2 (by decide))⟩
 have q':=q _ _ _ _ s2 tr2
 rw[he] at q'
 simp -implicitDefEqProofs(maxSteps:=999999)(disch:=first|with_reducible rfl|omega|(simp only[nA,nS,nD]<;>omega)|fail)only[go_sem,t2,t5,t7,t46,t47,Int.lt_irrefl,cells_of k.g,gb',ov0,ov1,ov2]
 exact q'
end Go.Ab.Tryz
namespace Go.Ab
theorem put_iv {L:List Int}{i:Nat}(h:i<L.length)(v:Int):putN i [.int .i64 v] (L.map iv)=some ((L.set i v).map iv):=by
 have e:L=L.take i++L[i]::L.drop (i+1):=by rw[←List.drop_eq_getElem_cons h,List.take_append_drop]
 have:=putN_app (pre:=(L.take i).map iv) (new:=[iv v]) (old:=[iv L[i]]) (rest:=(L.drop (i+1)).map iv) rfl
 rw[List.length_map,List.length_take,Nat.min_eq_left (by omega)] at this
 have e2:L.map iv=(L.take i).map iv++[iv L[i]]++(L.drop (i+1)).map iv:=by
  rw[show[iv L[i]]=[L[i]].map iv from rfl,←List.map_append,←List.map_append,List.append_assoc]
  exact congrArg (List.map iv) e
 have e3:(L.set i v).map iv=(L.take i).map iv++[iv v]++(L.drop (i+1)).map iv:=by
  rw[List.set_eq_take_append_cons_drop,if_pos h];simp
 rw[e2,e3];exact this
namespace Tryz
open Go.Proofs
theorem flat_iv (L:List Int):(L.map encI).flatten=L.map iv:=by
 induction L with
 |nil=>rfl
 |cons a L ih=>rw[List.map_cons,List.flatten_cons,ih];rfl
end Tryz
end Go.Ab
namespace Go.Ab
noncomputable def slcFrom (h:H)(sz:Nat)(x k:V):Option V:=q_slc .nil h sz x (some (.c k)) none none
theorem q_slc_from (tm:T V)(h:H)(sz:Nat)(x:V)(y:Opd):q_slc tm h sz x (some y) none none=slcFrom h sz x (y.ev tm):=rfl
noncomputable def slcTo (h:H)(sz:Nat)(x k:V):Option V:=q_slc .nil h sz x none (some (.c k)) none
theorem q_slc_to (tm:T V)(h:H)(sz:Nat)(x:V)(y:Opd):q_slc tm h sz x none (some y) none=slcTo h sz x (y.ev tm):=rfl
theorem slcFrom_gr {h:H}{b k:Nat}{L:List Int}(hb:h.get b=some (.cells (.gr 1) (L.map iv)))(h0:0<L.length)(hk:k≤L.length):slcFrom h 1 (.sl b 0 L.length (.slk 0 0)) (.int .i64 (k:Int))=some (.sl b k (L.length-k) (.slk k 0)):=by
 have hi:∀tm:T V,(Opd.c (.int .i64 (k:Int))).ev tm=.int .i64 (k:Int):=fun _=>rfl
 have e1:Nat.ble k L.length=true:=by simp;exact hk
 have e2:Nat.ble L.length L.length=true:=by simp
 have e4:Nat.blt 0 (L.length+L.length)=true:=by rw[Nat.blt_eq];omega
 have e5:Nat.beq 1 1=true:=rfl
 have e6:Nat.beq 0 (0*1)=true:=rfl
 have e7:Nat.ble L.length (L.map iv).length=true:=by simp
 have e8:slkRoom h b 0 1=L.length:=by simp[slkRoom,hb,lenN_eq]
 simp only[slcFrom,q_slc,slkOk,hb,lenN_eq,e5,e6,e7,og_true,e8,bnd3,natO,hi,natk_cst,bnds,e1,e2,subS,e4,Nat.mul_one,Nat.zero_add]
theorem slcTo_gr {h:H}{b k:Nat}{L:List Int}(hb:h.get b=some (.cells (.gr 1) (L.map iv)))(h0:0<L.length)(hk:k≤L.length):slcTo h 1 (.sl b 0 L.length (.slk 0 0)) (.int .i64 (k:Int))=some (.sl b 0 k (.slk 0 0)):=by
 have hi:∀tm:T V,(Opd.c (.int .i64 (k:Int))).ev tm=.int .i64 (k:Int):=fun _=>rfl
 have e1:Nat.ble 0 k=true:=by simp
 have e2:Nat.ble k L.length=true:=by simp;exact hk
 have e3:Nat.ble L.length L.length=true:=by simp
 have e4:Nat.blt 0 (L.length+k)=true:=by rw[Nat.blt_eq];omega
 have e5:Nat.beq 1 1=true:=rfl
 have e6:Nat.beq 0 (0*1)=true:=rfl
 have e7:Nat.ble L.length (L.map iv).length=true:=by simp
 have e8:slkRoom h b 0 1=L.length:=by simp[slkRoom,hb,lenN_eq]
 simp only[slcTo,q_slc,slkOk,hb,lenN_eq,e5,e6,e7,og_true,e8,bnd3,natO,hi,natk_cst,bnds,e1,e2,e3,subS,e4,Nat.mul_one,Nat.zero_add,Nat.sub_zero]
theorem getD_some {l:List Int}{i:Nat}(h:i<l.length):l[i]? =some (l.getD i 0):=by rw[List.getD_eq_getElem?_getD,List.getElem?_eq_getElem h];rfl
theorem dd_ne {l:List Int}{n:Nat}(hn:n<l.length)(h:n=0∨l.getD n 0≠l.getD (n-1) 0):dd l (n+1)=dd l n++[l.getD n 0]:=dd_new (getD_some hn) fun⟨h1,h2⟩=>by
 rcases h with h|h
 ·omega
 ·rw[getD_some (by omega)] at h2;exact h (Option.some.inj h2).symm
theorem dd_eq {l:List Int}{n:Nat}(hn:n<l.length)(h0:0<n)(h:l.getD n 0=l.getD (n-1) 0):dd l (n+1)=dd l n:=dd_same (getD_some hn) ⟨h0,by rw[getD_some (by omega),h]⟩
theorem take_getD {l:List Int}{n:Nat}(hn:n<l.length):l.take (n+1)=l.take n++[l.getD n 0]:=by
 rw[List.take_add_one,getD_some hn];rfl
theorem SlAt.cut {h:H}{b m:Nat}{L:List Int}{c:Cap}(hb:h.get b=some (.cells (.gr 1) (L.map iv)))(hm:m≤L.length)(hl:L.length≤1000000):SlAt h (.sl b 0 m c) 1 ((L.take m).map fun n=>[.int .i64 n]):=by
 refine⟨fun r hr=>by obtain⟨_,_,rfl⟩:=List.mem_map.1 hr;rfl,by rw[List.length_map,List.length_take];omega,.inr ⟨b,0,c,L.map iv,?_,.inr (cells_of hb),?_⟩⟩
 ·rw[List.length_map,List.length_take,Nat.min_eq_left hm]
 ·have e:((L.take m).map fun n=>[V.int .i64 n]).flatten=(L.take m).map iv:=by
   generalize L.take m=K
   induction K with
   |nil=>rfl
   |cons a K ih=>rw[List.map_cons,List.flatten_cons,ih];rfl
  rw[e,List.length_map,List.length_take,Nat.min_eq_left hm,Nat.mul_one]
  refine getN_eq.2 ⟨?_,by rw[List.length_map];omega⟩
  rw[List.drop_zero,←List.map_take]
namespace Tryz
open Go.Proofs
set_option maxHeartbeats 4000000 in
theorem Compact_ev {h0 h:H}{b:Nat}{l:List Int}(hs:h0.Sub h)(hw0:h0.wf)(lb0:h0.next≤b)(hb:h.get b=some (.cells (.gr 1) (l.map iv)))(h1:1≤l.length)(hl:l.length≤100000)(Q:V→H→Prop)
  (q:∀y h',h0.Sub h'→Keeps (fun c=>c=b) h h'→SlAt h' y 1 ((dd l l.length).map encI)→Q y h'):Ev fnG fastA (.fn 116 [] []) [.sl b 0 l.length (.slk 0 0)] h Q:=by
 have hw:=hs.wf
 have whole:∀{hh:H} {L:List Int},hh.get b=some (.cells (.gr 1) (L.map iv))→L.length=l.length→∀m c,m≤l.length→SlAt hh (.sl b 0 m c) 1 ((L.take m).map encI):=fun hg hL m c hm=>SlAt.cut hg (by omega) (by omega)
 refine Ev_body (fd:=c116) rfl rfl rfl ?_
 by_cases h2:l.length<2
 ·have hn2:(l.length:Int)<2:=by omega
  have e1:l.length=1:=by omega
  simp -implicitDefEqProofs(maxSteps:=999999)(disch:=first|with_reducible rfl|omega|(simp only[nA,nS,nD]<;>omega)|fail)only[c116,go_sem,hn2]
  have hdd:dd l l.length=l.take l.length:=by
   rw[e1,dd_ne (by omega) (.inl rfl),take_getD (by omega)];rfl
  exact q _ _ hs (Keeps.refl _ _) (by rw[hdd];exact whole hb rfl _ _ (Nat.le_refl _))
 have hn2:¬(l.length:Int)<2:=by omega
 have hiad:∀k:Nat,k<l.length→q_iad 1 (.sl b 0 l.length (.slk 0 0)) (.int .i64 (k:Int))=some (.ptr b k):=fun k hk=>by
  rw[q_iad_sl (nat_cst k) hk,Nat.mul_one,Nat.zero_add]
 simp -implicitDefEqProofs(maxSteps:=999999)(disch:=first|with_reducible rfl|omega|(simp only[nA,nS,nD]<;>omega)|fail)only[c116,go_sem,hn2]
 refine W_loop (fun kk s=>∃tm i,s=⟨tm,h,[]⟩∧kk=l.length-i∧1≤i∧i≤l.length∧dd l i=l.take i∧(Opd.t 0).ev tm=.sl b 0 l.length (.slk 0 0)∧(Opd.t 3).ev tm=.int .i64 (i:Int)) ?_ (l.length-1) _
  ⟨_,1,rfl,rfl,Nat.le_refl _,by omega,by rw[dd_ne (by omega) (.inl rfl),take_getD (by omega)];rfl,(by simp[ev_c,ev_put]<;>rfl),(by simp[ev_c,ev_put]<;>rfl)⟩
 rintro kk s ⟨tm,i,rfl,hkk,i1,i2,hdd,t0,t3⟩
 by_cases hi:i<l.length
 ·have hi':(i:Int)<(l.length:Int):=by omega
  have e1:(i:Int)-1=((i-1:Nat):Int):=by omega
  have n1:=nth_iv hi
  have n2:=nth_iv (L:=l) (k:=i-1) (by omega)
  by_cases heq:l.getD i 0=l.getD (i-1) 0
  ·have deq:decide (l.getD i 0=l.getD (i-1) 0)=true:=decide_eq_true heq
   have hfrom:=slcFrom_gr hb (by omega) (k:=i) (by omega)
   have lb:=hw _ _ hb
   have hdd1:dd l (i+1)=l.take i:=by rw[dd_eq hi (by omega) heq,hdd]
   simp -implicitDefEqProofs(maxSteps:=999999)(disch:=first|with_reducible rfl|omega|(simp only[nA,nS,nD]<;>omega)|fail)only[go_sem,t0,t3,hi',wr_in,e1,hiad i hi,hiad (i-1) (by omega),cells_of hb,n1,n2,deq,q_slc_from,hfrom]
   refine W.mono (Q:=fun x1 s=>x1=.ext 2∧∃(tm:Go.Ab.T V) (hh:H) (L:List Int) (m:Nat),s=⟨tm,hh,[]⟩∧h0.Sub hh∧Keeps (fun c=>c=b) h hh∧hh.get b=some (.cells (.gr 1) (L.map iv))∧L.length=l.length∧m<l.length∧L.take m=dd l l.length∧(Opd.t 0).ev tm=.sl b 0 l.length (.slk 0 0)∧(Opd.t 3).ev tm=.int .i64 (m:Int))
    (W_loop (fun kk s=>∃(tm:Go.Ab.T V) (hh:H) (L:List Int) (m k2:Nat),s=⟨tm,hh,[]⟩∧kk=l.length-i-k2∧1≤k2∧i+k2≤l.length∧m+1≤i+k2∧h0.Sub hh∧Keeps (fun c=>c=b) h hh∧hh.get b=some (.cells (.gr 1) (L.map iv))∧L.length=l.length∧
     L.take m=dd l (i+k2)∧(∀j,i+k2≤j+1→L.getD j 0=l.getD j 0)∧
     (Opd.t 0).ev tm=.sl b 0 l.length (.slk 0 0)∧(Opd.t 3).ev tm=.int .i64 (m:Int)∧(Opd.t 4).ev tm=.sl b i (l.length-i) (.slk i 0)∧(Opd.t 5).ev tm=.int .i64 (k2:Int)) ?_ (l.length-i-1) _
     ⟨_,_,l,i,1,rfl,rfl,Nat.le_refl _,by omega,by omega,hs,Keeps.refl _ _,hb,rfl,hdd1.symm,fun _ _=>rfl,(by simp[ev_c,ev_put,t0]<;>rfl),(by simp[ev_c,ev_put,t3]<;>rfl),(by simp[ev_c,ev_put]<;>rfl),(by simp[ev_c,ev_put]<;>rfl)⟩) fun x1 s hx1=>?_
   ·rintro kk s ⟨tm,hh,L,m,k2,rfl,hkk,k1,k3,k4,sh,kp,gL,hL,hT,hR,t0,t3,t4,t5⟩
    by_cases hk:k2<l.length-i
    ·have hk':(k2:Int)<((l.length-i:Nat):Int):=by omega
     have e2:(k2:Int)-1=((k2-1:Nat):Int):=by omega
     have a1:q_iad 1 (.sl b i (l.length-i) (.slk i 0)) (.int .i64 (k2:Int))=some (.ptr b (i+k2)):=by rw[q_iad_sl (nat_cst k2) hk,Nat.mul_one]
     have a2:q_iad 1 (.sl b i (l.length-i) (.slk i 0)) (.int .i64 ((k2-1:Nat):Int))=some (.ptr b (i+(k2-1))):=by rw[q_iad_sl (nat_cst (k2-1)) (by omega),Nat.mul_one]
     have a3:=hiad m (by omega)
     have v1:=nth_iv (L:=L) (k:=i+k2) (by omega)
     have v2:=nth_iv (L:=L) (k:=i+(k2-1)) (by omega)
     rw[hR _ (by omega)] at v1 v2
     have lb2:=sh.wf _ _ gL
     by_cases hd:l.getD (i+k2) 0=l.getD (i+(k2-1)) 0
     ·have hne:decide (l.getD (i+k2) 0≠l.getD (i+(k2-1)) 0)=false:=by simpa using hd
      simp -implicitDefEqProofs(maxSteps:=999999)(disch:=first|with_reducible rfl|omega|(simp only[nA,nS,nD]<;>omega)|fail)only[go_sem,t0,t3,t4,t5,hk',wr_in,e2,a1,a2,cells_of gL,v1,v2,hne,wr_succ]
      exact⟨_,by omega,_,_,L,m,k2+1,rfl,rfl,by omega,by omega,by omega,sh,kp,gL,hL,by rw[hT,←Nat.add_assoc,dd_eq (by omega) (by omega) (by rw[hd];congr 1;omega)],fun j hj=>hR j (by omega),(by simp[ev_c,ev_put,t0]<;>rfl),(by simp[ev_c,ev_put,t3]<;>rfl),(by simp[ev_c,ev_put,t4]<;>rfl),(by simp[ev_c,ev_put]<;>rfl)⟩
     ·have hne:decide (l.getD (i+k2) 0≠l.getD (i+(k2-1)) 0)=true:=by simpa using hd
      have hp:=put_iv (L:=L) (i:=m) (by omega) (l.getD (i+k2) 0)
      simp -implicitDefEqProofs(maxSteps:=999999)(disch:=first|with_reducible rfl|omega|(simp only[nA,nS,nD]<;>omega)|fail)only[go_sem,t0,t3,t4,t5,hk',wr_in,e2,a1,a2,a3,cells_of gL,gL,v1,v2,hne,hp,wr_succ]
      refine⟨_,by omega,_,_,L.set m (l.getD (i+k2) 0),m+1,k2+1,rfl,rfl,by omega,by omega,by omega,sh.set lb0 lb2 hw0 _,(kp.trans (Keeps.set hh b _)).mono fun c h=>h.elim id id,get_set_same rfl,by rw[List.length_set];exact hL,?_,fun j hj=>?_,(by simp[ev_c,ev_put,t0]<;>rfl),(by simp[ev_c,ev_put]<;>rfl),(by simp[ev_c,ev_put,t4]<;>rfl),(by simp[ev_c,ev_put]<;>rfl)⟩
      ·rw[←Nat.add_assoc,dd_ne (by omega) (.inr (by intro e;apply hd;rw[e];congr 1;omega)),←hT,take_getD (by rw[List.length_set];omega)]
       rw[List.take_set_of_le (Nat.le_refl _)]
       congr 2
       rw[List.getD_eq_getElem?_getD,List.getElem?_set_self (by omega)];rfl
      ·rw[←hR j (by omega),List.getD_eq_getElem?_getD,List.getElem?_set_ne (by omega),←List.getD_eq_getElem?_getD]
    ·have hk':¬(k2:Int)<((l.length-i:Nat):Int):=by omega
     have hke:i+k2=l.length:=by omega
     simp -implicitDefEqProofs(maxSteps:=999999)(disch:=first|with_reducible rfl|omega|(simp only[nA,nS,nD]<;>omega)|fail)only[go_sem,t0,t3,t4,t5,hk']
     exact⟨_,_,L,m,rfl,sh,kp,gL,hL,by omega,by rw[hT,hke],(by simp[ev_c,ev_put,t0]<;>rfl),(by simp[ev_c,ev_put,t3]<;>rfl)⟩
   clear t0 t3
   obtain⟨rfl,tm,hh,L,m,rfl,sh,kp,gL,hL,hm,hT,t0,t3⟩:=hx1
   have f1:=slcFrom_gr gL (by omega) (k:=m) (by omega)
   rw[hL] at f1
   obtain⟨n,hn⟩:∃n,l.length-m=n+1:=⟨l.length-m-1,by omega⟩
   have hrep:∀n,repN n [V.int .i64 0]=(List.replicate n (0:Int)).map iv:=fun n=>by
    induction n with
    |zero=>rfl
    |succ n ih=>simp only[repN,appN_eq,ih,List.replicate_succ,List.map_cons];rfl
   have hp:putN m ((List.replicate (n+1) (0:Int)).map iv) (L.map iv)=some ((L.take m++List.replicate (n+1) 0).map iv):=by
    have:=putN_app (pre:=(L.take m).map iv) (new:=(List.replicate (n+1) (0:Int)).map iv) (old:=(L.drop m).map iv) (rest:=[]) (by simp;omega)
    rw[List.length_map,List.length_take,Nat.min_eq_left (by omega),List.append_nil,List.append_nil,←List.map_append,List.take_append_drop,←List.map_append] at this
    exact this
   have ho:allOne ((List.replicate (n+1) (0:Int)).map iv)=true:=by
    rw[allOne_eq]
    intro v hv
    obtain⟨_,_,rfl⟩:=List.mem_map.1 hv;rfl
   have hclr:e_clr hh [V.int .i64 0] (.sl b m (l.length-m) (.slk m 0))=some (.und,hh.set b (.cells (.gr 1) ((L.take m++List.replicate (n+1) 0).map iv))):=by
    rw[e_clr_sl,hn,hrep]
    rw[List.replicate_succ,List.map_cons] at hp ho⊢
    rw[H.put_gr ho gL hp,withV_some]
   have gS:(hh.set b (.cells (.gr 1) ((L.take m++List.replicate (n+1) 0).map iv))).get b=some (.cells (.gr 1) ((L.take m++List.replicate (n+1) 0).map iv)):=get_set_same rfl
   have ll:(L.take m++List.replicate (n+1) (0:Int)).length=l.length:=by simp;omega
   have f2:=slcTo_gr gS (by omega) (k:=m) (by omega)
   rw[ll] at f2
   have lb2:=sh.wf _ _ gL
   simp -implicitDefEqProofs(maxSteps:=999999)(disch:=first|with_reducible rfl|omega|(simp only[nA,nS,nD]<;>omega)|fail)only[go_sem,t0,t3,q_slc_from,f1,WI_clr,hclr,q_slc_to,f2]
   refine q _ _ (sh.set lb0 lb2 hw0 _) ((kp.trans (Keeps.set hh b _)).mono fun c h=>h.elim id id) ?_
   have:=whole gS ll m (.slk 0 0) (by omega)
   rw[List.take_append_of_le_length (by rw[List.length_take];omega),List.take_take,Nat.min_self] at this
   rw[←hT];exact this
  ·have dne:decide (l.getD i 0=l.getD (i-1) 0)=false:=decide_eq_false heq
   simp -implicitDefEqProofs(maxSteps:=999999)(disch:=first|with_reducible rfl|omega|(simp only[nA,nS,nD]<;>omega)|fail)only[go_sem,t0,t3,hi',wr_in,e1,hiad i hi,hiad (i-1) (by omega),cells_of hb,n1,n2,dne,wr_succ]
   exact⟨_,by omega,_,i+1,rfl,rfl,by omega,by omega,by rw[dd_ne hi (.inr heq),hdd,take_getD hi],(by simp[ev_c,ev_put,t0]<;>rfl),(by simp[ev_c,ev_put]<;>rfl)⟩
 ·have hi':¬(i:Int)<(l.length:Int):=by omega
  have hie:i=l.length:=by omega
  simp -implicitDefEqProofs(maxSteps:=999999)(disch:=first|with_reducible rfl|omega|(simp only[nA,nS,nD]<;>omega)|fail)only[go_sem,t0,t3,hi']
  rw[hie] at hdd
  exact q _ _ hs (Keeps.refl _ _) (by rw[hdd];exact whole hb rfl _ _ (Nat.le_refl _))
end Tryz
end Go.Ab
namespace Go.Ab.Tryz
open Go.Proofs
theorem sortI_len (l:List Int):(sortI l).length=l.length:=(sortI_perm l).length_eq
theorem sort_ev {h:H}{b:Nat}{l:List Int}(hb:h.get b=some (.cells (.gr 1) (l.map iv)))(h1:1≤l.length)(hl:l.length≤100000)(Q:V→H→Prop):
  Ev fnG fastA (.fn 149 [] []) [.sl b 0 l.length (.slk 0 0)] h Q=Q (.tup []) (h.set b (.cells (.gr 1) ((sortI l).map iv))):=by
 refine Ev.det ⟨1,.tup [],h.set b (.cells (.gr 1) ((sortI l).map iv)),?_,rfl,rfl⟩ Q
 have e:evV fnG fastA 1 (.fn 149 [] []) [.sl b 0 l.length (.slk 0 0)] h=sortF [.sl b 0 l.length (.slk 0 0)] h:=rfl
 rw[e]
 have b1:Nat.blt 0 l.length=true:=by rw[Nat.blt_eq];omega
 have b2:Nat.blt l.length 4611686018427387904=true:=by rw[Nat.blt_eq];omega
 have hg:getN 0 l.length (l.map iv)=some (l.map iv):=getN_iv l
 have hi:intsOf (l.map iv)=some l:=intsOf_map l
 have hp:h.put b 0 ((sortI l).map (V.int .i64))=some (h.set b (.cells (.gr 1) ((sortI l).map iv))):=by
  obtain⟨v,vs,hv⟩:∃v vs,(sortI l).map iv=v::vs:=by
   cases hc:(sortI l).map iv with
   |nil=>have:=congrArg List.length hc;rw[List.length_map,sortI_len,List.length_nil] at this;omega
   |cons v vs=>exact⟨v,vs,rfl⟩
  have ho:allOne ((sortI l).map iv)=true:=allOne_iv _
  have hp:putN 0 ((sortI l).map iv) (l.map iv)=some ((sortI l).map iv):=by
   have:=putN_app (pre:=[]) (new:=(sortI l).map iv) (old:=l.map iv) (rest:=[]) (by rw[List.length_map,List.length_map,sortI_len])
   simpa using this
  show h.put b 0 ((sortI l).map iv)=_
  rw[hv] at ho hp⊢
  exact H.put_gr ho hb hp
 simp only[sortF,b1,b2,og_true,cells_of hb,hg,hi,hp,withV_some]
theorem rise_ev {h0 h:H}{w:V}{l:List Int}(o:OwnSl h0 h w 1 (l.map encI))(hw0:h0.wf)(h1:1≤l.length)(hl:l.length≤100000):∃b,w=.sl b 0 l.length (.slk 0 0)∧h0.next≤b∧h.get b=some (.cells (.gr 1) (l.map iv)):=by
 obtain⟨_,_,o⟩:=o
 rcases o with⟨_,e⟩|⟨b,e,lb,_,g⟩
 ·have:=congrArg List.length e;rw[List.length_map,List.length_nil] at this;omega
 ·rw[List.length_map] at e;rw[flat_iv] at g;exact⟨b,e,lb,g⟩
set_option maxHeartbeats 4000000 in
theorem numbers_ev {h:H}(hw:h.wf){y:V}{Ps:List Fd}(x:SlAt h y 26 (Ps.map rowF))(hone:∀p∈Ps,allOne (rowF p)=true)(hlen:∀p∈Ps,(rowF p).length=26)(hne:Ps≠[])(hP:Ps.length≤15625){g:FuncId}{u v:List V}{of:Fd→Int}
  (hp:∀p∈Ps,PureA h (.fn g u v) [.agg (rowF p)] (.int .i64 (of p))) (Q:V→H→Prop) (q:∀w h',h.Sub h'→SlAt h' w 1 ((risL (Ps.map of)).map encI)→Q w h'):Ev fnG fastA (.fn 104 [] []) [y,.fn g u v] h Q:=by
 have hlY:=x.lenE
 refine Ev_body (fd:=c104) rfl rfl rfl ?_
 simp -implicitDefEqProofs(maxSteps:=999999)(disch:=first|with_reducible rfl|omega|(simp only[nA,nS,nD]<;>omega)|fail)only[c104,go_sem,hlY]
 refine W_count Ps.length (fun i s=>∃tm z w,s=⟨tm,z,[]⟩∧OwnSl h z w 1 (((Ps.take i).map of).map encI)∧(Opd.t 1).ev tm=.fn g u v∧(Opd.t 5).ev tm=w∧(Opd.t 8).ev tm=y∧(Opd.t 9).ev tm=.int .i64 (Ps.length:Int)∧(Opd.t 10).ev tm=.int .i64 (i:Int)) ?_ ?_ (i:=0) (Nat.zero_le _)
  ⟨_,_,_,rfl,OwnSl.nil (H.Sub.refl hw) 1,(by simp[ev_c,ev_put]<;>rfl),(by simp[ev_c,ev_put]<;>rfl),(by simp[ev_c,ev_put]<;>rfl),(by simp[ev_c,ev_put]<;>rfl),(by simp[ev_c,ev_put]<;>rfl)⟩
 ·rintro i s hi ⟨tm,z,w,rfl,o,t1,t5,t8,t9,t10⟩
  have hi':(i:Int)<(Ps.length:Int):=by omega
  have sz:=o.1
  obtain⟨b',o',cc',cs',e',hc',hq',hg',_,_⟩:=(x.mono sz).at hi
  have htk:(Ps.take (i+1)).map of=(Ps.take i).map of++[of Ps[i]]:=by rw[take_at hi,List.map_append];rfl
  rw[htk,List.map_append]
  have hpi:=hp _ (List.getElem_mem hi)
  have hoi:=hone _ (List.getElem_mem hi)
  have hli:=hlen _ (List.getElem_mem hi)
  generalize of Ps[i]=m at hpi⊢
  generalize rowF Ps[i]=F at hg' hpi hoi hli
  have la:((Ps.take i).map of).length≤15625:=by rw[List.length_map,List.length_take];omega
  generalize(Ps.take i).map of=L at o la⊢
  have nF:F≠[]:=by intro e0;rw[e0] at hli;cases hli
  have lnF:lenN F=26:=by rw[lenN_eq,hli]
  have gNF:getN 0 26 F=some F:=by rw[←hli];exact getN_eq.2 ⟨by rw[List.drop_zero,List.take_length],by omega⟩
  have pF:(z.add (.cells .rw [.nils,.int .i64 0,.int .i64 0,.int .i64 0,.int .i64 0,.int .i64 0,.int .i64 0,.int .i64 0,.int .i64 0,.int .i64 0,.int .i64 0,.int .i64 0,.int .i64 0,.int .i64 0,.int .i64 0,.int .i64 0,.int .i64 0,.int .i64 0,.int .i64 0,.int .i64 0,.int .i64 0,.int .i64 0,.int .i64 0,.int .i64 0,.int .i64 0,.int .i64 0])).put z.next 0 F=some ((z.add (.cells .rw [.nils,.int .i64 0,.int .i64 0,.int .i64 0,.int .i64 0,.int .i64 0,.int .i64 0,.int .i64 0,.int .i64 0,.int .i64 0,.int .i64 0,.int .i64 0,.int .i64 0,.int .i64 0,.int .i64 0,.int .i64 0,.int .i64 0,.int .i64 0,.int .i64 0,.int .i64 0,.int .i64 0,.int .i64 0,.int .i64 0,.int .i64 0,.int .i64 0,.int .i64 0])).set z.next (.cells .rw F)):=put_full (get_add_new rfl) (by rw[hli];rfl) nF hoi
  have sA:=(H.Sub.refl sz.wf).add (.cells .rw F)
  have gA:(z.add (.cells .rw F)).get z.next=some (.cells .rw F):=get_add_new rfl
  obtain⟨zA,hzA⟩:∃zA,z.add (.cells .rw F)=zA:=⟨_,rfl⟩
  rw[hzA] at sA gA
  simp -implicitDefEqProofs(maxSteps:=999999)(disch:=first|with_reducible rfl|omega|(simp only[nA,nS,nD]<;>omega)|fail)only[go_sem,t1,t5,t8,t9,t10,hi',hq' (nat_cst i),hc',hg',lnF,pF,hzA,cells_of gA,gNF]
  refine hpi.use (sz.trans sA) fun z2 s2=>?_
  have oA:=o.mono (sA.trans s2)
  have s3:=(H.Sub.refl s2.wf).add (.cells .rw [.int .i64 m])
  have sn:SlAt (z2.add (.cells .rw [.int .i64 m])) (.sl z2.next 0 1 (.fix 1)) 1 [encI m]:=SlAt.new _ rfl rfl rfl (by simp[encI]) (by simp)
  simp -implicitDefEqProofs(maxSteps:=999999)(disch:=first|with_reducible rfl|omega|(simp only[nA,nS,nD]<;>omega)|fail)only[go_sem,t1,t5,t8,t9,t10]
  refine(oA.mono s3).app1 (by_:=8) (r:=encI m) hw rfl (by omega) sn rfl (by rw[List.length_map];omega) (by rw[List.length_map];omega) fun z3 o3 k3 n3=>?_
  rw[H.next_add] at o3
  simp -implicitDefEqProofs(maxSteps:=999999)(disch:=first|with_reducible rfl|omega|(simp only[nA,nS,nD]<;>omega)|fail)only[go_sem,t1,t5,t8,t9,t10,wr_succ]
  exact⟨_,_,_,rfl,o3,(by simp[ev_c,ev_put,t1]<;>rfl),(by simp[ev_c,ev_put]<;>rfl),(by simp[ev_c,ev_put,t8]<;>rfl),(by simp[ev_c,ev_put,t9]<;>rfl),(by simp[ev_c,ev_put]<;>rfl)⟩
 ·rintro s ⟨tm,z,w,rfl,o,t1,t5,t8,t9,t10⟩
  rw[List.take_length] at o
  have ll:(Ps.map of).length=Ps.length:=List.length_map _
  have lp:=List.length_pos_iff.2 hne
  obtain⟨b,rfl,lb,gb⟩:=rise_ev o hw (by omega) (by omega)
  have lz:=o.1.wf _ _ gb
  have s2:=o.1.set lb lz hw (.cells (.gr 1) ((sortI (Ps.map of)).map iv))
  have g2:(z.set b (.cells (.gr 1) ((sortI (Ps.map of)).map iv))).get b=some (.cells (.gr 1) ((sortI (Ps.map of)).map iv)):=get_set_same rfl
  simp -implicitDefEqProofs(maxSteps:=999999)(disch:=first|with_reducible rfl|omega|(simp only[nA,nS,nD]<;>omega)|fail)only[go_sem,t1,t5,t8,t9,t10,Int.lt_irrefl,sort_ev gb (by omega) (by omega)]
  rw[←sortI_len (Ps.map of)]
  refine Compact_ev s2 hw lb g2 (by rw[sortI_len];omega) (by rw[sortI_len];omega) _ fun yy h' s' k' x'=>?_
  simp -implicitDefEqProofs(maxSteps:=999999)(disch:=first|with_reducible rfl|omega|(simp only[nA,nS,nD]<;>omega)|fail)only[go_sem]
  exact q _ _ s' x'
theorem q_feq_X (a b c d:Int):q_feq false 2 (.agg [.int .i64 a,.int .i64 b]) (.agg [.int .i64 c,.int .i64 d])=some (.bool (decide ((a,b)=(c,d)))):=by
 have:=q_feq_map (n:=2) [a,b] [c,d] rfl rfl false
 have e:decide ([a,b]=[c,d])=decide ((a,b)=(c,d)):=by simp
 rw[e] at this
 exact this
set_option maxHeartbeats 4000000 in
theorem settled_ev {h:H}(hw:h.wf){y:V}{Ps:List Fd}(x:SlAt h y 26 (Ps.map rowF))(hone:∀p∈Ps,allOne (rowF p)=true)(hlen:∀p∈Ps,(rowF p).length=26)(hne:Ps≠[])(hP:Ps.length≤15625){k:Nat}(hr:∀p∈Ps,SlAt h p.1 2 (p.2.1.map encX)∧k<p.2.1.length)
  {g:FuncId} {u v:List V} {of:Int × Int→Int} (hp:∀s,PureA h (.fn g u v) [.agg (encX s)] (.int .i64 (of s))) (Q:V→H→Prop)
  (q:∀w h',h.Sub h'→SlAt h' w 1 ((risL ((dd (Ps.map fun p=>p.2.1.getD k (0,0)) Ps.length).map of)).map encI)→Q w h'):Ev fnG fastA (.fn 79 [] []) [y,.int .i64 (k:Int),.fn g u v] h Q:=by
 have hlY:=x.lenE
 refine Ev_body (fd:=c79) rfl rfl rfl ?_
 simp -implicitDefEqProofs(maxSteps:=999999)(disch:=first|with_reducible rfl|omega|(simp only[nA,nS,nD]<;>omega)|fail)only[c79,go_sem,hlY]
 obtain⟨rk,hrk⟩:∃rk,(Ps.map fun p=>p.2.1.getD k (0,0))=rk:=⟨_,rfl⟩
 have lrk:rk.length=Ps.length:=by rw[←hrk,List.length_map]
 rw[hrk] at q
 have rat:∀{i:Nat} (hi:i<Ps.length),rk[i]? =some (Ps[i].2.1.getD k (0,0)):=fun{i} hi=>by rw[←hrk,List.getElem?_map,List.getElem?_eq_getElem hi];rfl
 refine W_count Ps.length (fun i s=>∃tm z w,s=⟨tm,z,[]⟩∧OwnSl h z w 1 (((dd rk i).map of).map encI)∧(Opd.t 0).ev tm=y∧(Opd.t 1).ev tm=.int .i64 (k:Int)∧(Opd.t 2).ev tm=.fn g u v∧(Opd.t 7).ev tm=w∧(Opd.t 10).ev tm=y∧(Opd.t 11).ev tm=.int .i64 (Ps.length:Int)∧(Opd.t 12).ev tm=.int .i64 (i:Int)) ?_ ?_ (i:=0) (Nat.zero_le _)
  ⟨_,_,_,rfl,OwnSl.nil (H.Sub.refl hw) 1,(by simp[ev_c,ev_put]<;>rfl),(by simp[ev_c,ev_put]<;>rfl),(by simp[ev_c,ev_put]<;>rfl),(by simp[ev_c,ev_put]<;>rfl),(by simp[ev_c,ev_put]<;>rfl),(by simp[ev_c,ev_put]<;>rfl),(by simp[ev_c,ev_put]<;>rfl)⟩
 ·rintro i s hi ⟨tm,z,w,rfl,o,t0,t1,t2,t7,t10,t11,t12⟩
  have hi':(i:Int)<(Ps.length:Int):=by omega
  have sz:=o.1
  obtain⟨b',o',cc',cs',e',hc',hq',hg',hn',_⟩:=(x.mono sz).at hi
  have hpm:=List.getElem_mem hi
  have hoi:=hone _ hpm
  have hli:=hlen _ hpm
  obtain⟨hRi,hki⟩:=hr _ hpm
  have rki:=rat hi
  have la:((dd rk i).map of).length≤15625:=by rw[List.length_map];have:=dd_len (l:=rk) (n:=i);omega
  have hnF:nth 0 (rowF Ps[i])=some Ps[i].1:=rfl
  obtain⟨bR,oR,cR,csR,eR,hcR,hqR,hgR,_,_⟩:=(hRi.mono sz).at hki
  have hgd:Ps[i].2.1.getD k (0,0)=Ps[i].2.1[k]:=by rw[List.getD_eq_getElem?_getD,List.getElem?_eq_getElem hki];rfl
  rw[hgd] at rki
  generalize Ps[i].2.1[k]=sg at hgR rki
  obtain⟨R,hR⟩:∃R,Ps[i].1=R:=⟨_,rfl⟩
  rw[hR] at hnF hqR
  generalize rowF Ps[i]=F at hg' hoi hli hnF
  have nF:F≠[]:=by intro e0;rw[e0] at hli;cases hli
  have lnF:lenN F=26:=by rw[lenN_eq,hli]
  have pF:(z.add (.cells .rw [.nils,.int .i64 0,.int .i64 0,.int .i64 0,.int .i64 0,.int .i64 0,.int .i64 0,.int .i64 0,.int .i64 0,.int .i64 0,.int .i64 0,.int .i64 0,.int .i64 0,.int .i64 0,.int .i64 0,.int .i64 0,.int .i64 0,.int .i64 0,.int .i64 0,.int .i64 0,.int .i64 0,.int .i64 0,.int .i64 0,.int .i64 0,.int .i64 0,.int .i64 0])).put z.next 0 F=some ((z.add (.cells .rw [.nils,.int .i64 0,.int .i64 0,.int .i64 0,.int .i64 0,.int .i64 0,.int .i64 0,.int .i64 0,.int .i64 0,.int .i64 0,.int .i64 0,.int .i64 0,.int .i64 0,.int .i64 0,.int .i64 0,.int .i64 0,.int .i64 0,.int .i64 0,.int .i64 0,.int .i64 0,.int .i64 0,.int .i64 0,.int .i64 0,.int .i64 0,.int .i64 0,.int .i64 0])).set z.next (.cells .rw F)):=put_full (get_add_new rfl) (by rw[hli];rfl) nF hoi
  have sA:=(H.Sub.refl sz.wf).add (.cells .rw F)
  have gA:(z.add (.cells .rw F)).get z.next=some (.cells .rw F):=get_add_new rfl
  obtain⟨zA,hzA⟩:∃zA,z.add (.cells .rw F)=zA:=⟨_,rfl⟩
  rw[hzA] at sA gA
  simp only[encX] at hgR
  have hcRA:=sA.cells hcR
  have hpi:=hp sg
  have oA:=o.mono sA
  by_cases h0:i=0
  ·have hd:dd rk (i+1)=dd rk i++[sg]:=dd_new rki fun⟨h,_⟩=>by omega
   rw[hd,List.map_append,List.map_append]
   generalize(dd rk i).map of=L at o oA la⊢
   have hz:¬(0:Int)<(i:Int):=by omega
   simp -implicitDefEqProofs(maxSteps:=999999)(disch:=first|with_reducible rfl|omega|(simp only[nA,nS,nD]<;>omega)|fail)only[go_sem,t0,t1,t2,t7,t10,t11,t12,hi',hq' (nat_cst i),hc',hg',lnF,pF,hzA,cells_of gA,hz,hnF,hqR (nat_cst k),hcRA,hgR]
   refine hpi.use (sz.trans sA) fun z2 s2=>?_
   have oB:=oA.mono s2
   have s3:=(H.Sub.refl s2.wf).add (.cells .rw [.int .i64 (of sg)])
   have sn:SlAt (z2.add (.cells .rw [.int .i64 (of sg)])) (.sl z2.next 0 1 (.fix 1)) 1 [encI (of sg)]:=SlAt.new _ rfl rfl rfl (by simp[encI]) (by simp)
   simp -implicitDefEqProofs(maxSteps:=999999)(disch:=first|with_reducible rfl|omega|(simp only[nA,nS,nD]<;>omega)|fail)only[go_sem,t0,t1,t2,t7,t10,t11,t12]
   refine(oB.mono s3).app1 (by_:=8) (r:=encI (of sg)) hw rfl (by omega) sn rfl (by rw[List.length_map];omega) (by rw[List.length_map];omega) fun z3 o3 k3 n3=>?_
   rw[H.next_add] at o3
   simp -implicitDefEqProofs(maxSteps:=999999)(disch:=first|with_reducible rfl|omega|(simp only[nA,nS,nD]<;>omega)|fail)only[go_sem,t0,t1,t2,t7,t10,t11,t12,wr_succ]
   exact⟨_,_,_,rfl,o3,(by simp[ev_c,ev_put,t0]<;>rfl),(by simp[ev_c,ev_put,t1]<;>rfl),(by simp[ev_c,ev_put,t2]<;>rfl),(by simp[ev_c,ev_put]<;>rfl),(by simp[ev_c,ev_put,t10]<;>rfl),(by simp[ev_c,ev_put,t11]<;>rfl),(by simp[ev_c,ev_put]<;>rfl)⟩
  ·have hz:(0:Int)<(i:Int):=by omega
   have hj:i-1<Ps.length:=by omega
   have hw1:wr .i64 ((i:Int)-1)=((i-1:Nat):Int):=by rw[wr_in (by omega) (by omega)];omega
   obtain⟨b2,o2,cc2,cs2,e2,hc2,hq2,hg2,hn2,_⟩:=(x.mono sz).at hj
   obtain⟨hRj,hkj⟩:=hr _ (List.getElem_mem hj)
   have rkj:=rat hj
   have hgdj:Ps[i-1].2.1.getD k (0,0)=Ps[i-1].2.1[k]:=by rw[List.getD_eq_getElem?_getD,List.getElem?_eq_getElem hkj];rfl
   rw[hgdj] at rkj
   obtain⟨bS,oS,cS,csS,eS,hcS,hqS,hgS,_,_⟩:=(hRj.mono sz).at hkj
   have hnS:nth (o2+(i-1)*26) cs2=some Ps[i-1].1:=by have:=hn2 0 (by decide);rw[Nat.add_zero] at this;rw[this];rfl
   generalize Ps[i-1].2.1[k]=sj at hgS rkj
   obtain⟨R2,hR2⟩:∃R2,Ps[i-1].1=R2:=⟨_,rfl⟩
   rw[hR2] at hnS hqS
   simp only[encX] at hgS
   have hc2A:=sA.cells hc2
   have hcSA:=sA.cells hcS
   have hfe:=q_feq_X sg.1 sg.2 sj.1 sj.2
   by_cases heq:sg=sj
   ·have hd:dd rk (i+1)=dd rk i:=dd_same rki ⟨by omega,by rw[rkj,heq]⟩
    have hde:decide ((sg.1,sg.2)=(sj.1,sj.2))=true:=decide_eq_true heq
    rw[hde] at hfe
    rw[hd]
    simp -implicitDefEqProofs(maxSteps:=999999)(disch:=first|with_reducible rfl|omega|(simp only[nA,nS,nD]<;>omega)|fail)only[go_sem,t0,t1,t2,t7,t10,t11,t12,hi',hq' (nat_cst i),hc',hg',lnF,pF,hzA,cells_of gA,hz,hnF,hqR (nat_cst k),hcRA,hgR,hw1,hq2 (nat_cst (i-1)),hc2A,hnS,hqS (nat_cst k),hcSA,hgS,hfe,wr_succ]
    exact⟨_,_,_,rfl,oA,(by simp[ev_c,ev_put,t0]<;>rfl),(by simp[ev_c,ev_put,t1]<;>rfl),(by simp[ev_c,ev_put,t2]<;>rfl),(by simp[ev_c,ev_put,t7]<;>rfl),(by simp[ev_c,ev_put,t10]<;>rfl),(by simp[ev_c,ev_put,t11]<;>rfl),(by simp[ev_c,ev_put]<;>rfl)⟩
   ·have hd:dd rk (i+1)=dd rk i++[sg]:=dd_new rki fun⟨_,h⟩=>by rw[rkj] at h;exact heq (Option.some.inj h).symm
    have hde:decide ((sg.1,sg.2)=(sj.1,sj.2))=false:=decide_eq_false heq
    rw[hde] at hfe
    rw[hd,List.map_append,List.map_append]
    generalize(dd rk i).map of=L at o oA la⊢
    simp -implicitDefEqProofs(maxSteps:=999999)(disch:=first|with_reducible rfl|omega|(simp only[nA,nS,nD]<;>omega)|fail)only[go_sem,t0,t1,t2,t7,t10,t11,t12,hi',hq' (nat_cst i),hc',hg',lnF,pF,hzA,cells_of gA,hz,hnF,hqR (nat_cst k),hcRA,hgR,hw1,hq2 (nat_cst (i-1)),hc2A,hnS,hqS (nat_cst k),hcSA,hgS,hfe]
    refine hpi.use (sz.trans sA) fun z2 s2=>?_
    have oB:=oA.mono s2
    have s3:=(H.Sub.refl s2.wf).add (.cells .rw [.int .i64 (of sg)])
    have sn:SlAt (z2.add (.cells .rw [.int .i64 (of sg)])) (.sl z2.next 0 1 (.fix 1)) 1 [encI (of sg)]:=SlAt.new _ rfl rfl rfl (by simp[encI]) (by simp)
    simp -implicitDefEqProofs(maxSteps:=999999)(disch:=first|with_reducible rfl|omega|(simp only[nA,nS,nD]<;>omega)|fail)only[go_sem,t0,t1,t2,t7,t10,t11,t12]
    refine(oB.mono s3).app1 (by_:=8) (r:=encI (of sg)) hw rfl (by omega) sn rfl (by rw[List.length_map];omega) (by rw[List.length_map];omega) fun z3 o3 k3 n3=>?_
    rw[H.next_add] at o3
    simp -implicitDefEqProofs(maxSteps:=999999)(disch:=first|with_reducible rfl|omega|(simp only[nA,nS,nD]<;>omega)|fail)only[go_sem,t0,t1,t2,t7,t10,t11,t12,wr_succ]
    exact⟨_,_,_,rfl,o3,(by simp[ev_c,ev_put,t0]<;>rfl),(by simp[ev_c,ev_put,t1]<;>rfl),(by simp[ev_c,ev_put,t2]<;>rfl),(by simp[ev_c,ev_put]<;>rfl),(by simp[ev_c,ev_put,t10]<;>rfl),(by simp[ev_c,ev_put,t11]<;>rfl),(by simp[ev_c,ev_put]<;>rfl)⟩
 ·rintro s ⟨tm,z,w,rfl,o,t0,t1,t2,t7,t10,t11,t12⟩
  have lp:=List.length_pos_iff.2 hne
  have ll:((dd rk Ps.length).map of).length≤15625:=by rw[List.length_map];have:=dd_len (l:=rk) (n:=Ps.length);omega
  have l1:1≤((dd rk Ps.length).map of).length:=by rw[List.length_map];exact dd_pos (by omega) lp
  generalize(dd rk Ps.length).map of=L at o ll l1 q
  obtain⟨b,rfl,lb,gb⟩:=rise_ev o hw (by omega) (by omega)
  have lz:=o.1.wf _ _ gb
  have s2:=o.1.set lb lz hw (.cells (.gr 1) ((sortI L).map iv))
  have g2:(z.set b (.cells (.gr 1) ((sortI L).map iv))).get b=some (.cells (.gr 1) ((sortI L).map iv)):=get_set_same rfl
  simp -implicitDefEqProofs(maxSteps:=999999)(disch:=first|with_reducible rfl|omega|(simp only[nA,nS,nD]<;>omega)|fail)only[go_sem,t0,t1,t2,t7,t10,t11,t12,Int.lt_irrefl,sort_ev gb (by omega) (by omega)]
  rw[←sortI_len L]
  refine Compact_ev s2 hw lb g2 (by rw[sortI_len];omega) (by rw[sortI_len];omega) _ fun yy h' s' k' x'=>?_
  simp -implicitDefEqProofs(maxSteps:=999999)(disch:=first|with_reducible rfl|omega|(simp only[nA,nS,nD]<;>omega)|fail)only[go_sem]
  exact q _ _ s' x'
end Go.Ab.Tryz
namespace Go.Ab.Tryz
open Go.Proofs
def setsR (a:At)(c:Int)(of:Int × Int→Int):List Int:=if errT a (!a.ckB c)≠0 then[] else setL a c.toNat of
theorem ckB_nat {a:At}{n:Int}(h:a.ckB n=true):∃k:Nat,n=k∧k<a.cks.length:=by
 simp only[At.ckB,inB_iff] at h
 exact⟨n.toNat,by omega,by omega⟩
theorem sets1_ev {h:H}(s:Int × Int):PureA h (.fn 103 [] []) [.agg (encX s)] (.int .i64 s.1):=by
 intro h1 hs
 refine Ev_body (fd:=c103) rfl rfl rfl ?_
 have hw:=hs.wf
 have s0:=H.Sub.refl hw
 simp -implicitDefEqProofs(maxSteps:=999999)(disch:=first|with_reducible rfl|omega|(simp only[nA,nS,nD]<;>omega)|fail)only[c103,go_sem,encX]
 exact(by repeat(first|assumption|exact H.Sub.refl (by assumption)|refine H.Sub.add ?_ _|refine H.Sub.set ?_ (by first|omega|(simp only[H.next_add,H.next_set,H.next_del]<;>omega)) (by first|omega|(simp only[H.next_add,H.next_set,H.next_del]<;>omega)) (by assumption) _))
theorem gains1_ev {h:H}(s:Int × Int):PureA h (.fn 80 [] []) [.agg (encX s)] (.int .i64 s.2):=by
 intro h1 hs
 refine Ev_body (fd:=c80) rfl rfl rfl ?_
 have hw:=hs.wf
 have s0:=H.Sub.refl hw
 simp -implicitDefEqProofs(maxSteps:=999999)(disch:=first|with_reducible rfl|omega|(simp only[nA,nS,nD]<;>omega)|fail)only[c80,go_sem,encX]
 exact(by repeat(first|assumption|exact H.Sub.refl (by assumption)|refine H.Sub.add ?_ _|refine H.Sub.set ?_ (by first|omega|(simp only[H.next_add,H.next_set,H.next_del]<;>omega)) (by first|omega|(simp only[H.next_add,H.next_set,H.next_del]<;>omega)) (by assumption) _))
theorem sl_nil (h:H):SlAt h .nils 1 (([]:List Int).map encI):=⟨by simp,by simp,.inl ⟨rfl,rfl⟩⟩
theorem runsK_of {a:At}{Ps:List Fd}(e:Ps.map Prod.snd=allC a)(k:Nat):(Ps.map fun p=>p.2.1.getD k (0,0))=runsK a k:=by
 unfold runsK
 rw[←e,List.map_map];rfl
theorem told_runs {a:At}{h h':H}{Ps:List Fd}{y:V}(r:Right a)(e:Ps.map Prod.snd=allC a)(f:FsO h h' y Ps)(hin:∀p∈Ps,In5 240 p.2.2){k:Nat}(hk:k<a.cks.length):(∀p∈Ps,SlAt h' p.1 2 (p.2.1.map encX)∧k<p.2.1.length)∧(∀p∈Ps,allOne (rowF p)=true)∧(∀p∈Ps,(rowF p).length=26)∧Ps.length≤15625∧∀p∈Ps,p.2∈casesL a (fun _=>true):=by
 have hm:∀p∈Ps,p.2∈casesL a (fun _=>true):=fun p hp=>by show p.2∈allC a;rw[←e];exact List.mem_map_of_mem hp
 have rl:=r.lens
 refine⟨fun p hp=>?_,fun p hp=>?_,fun p hp=>by simp[rowF,(hin p hp).len],by have:=casesL_len r (fun _=>true);rw[show casesL a (fun _=>true)=Ps.map Prod.snd from e.symm,List.length_map] at this;exact this,hm⟩
 ·have hl:=(cases_sound r (hm p hp)).2.1
  exact⟨(f.e p hp).sl (by rw[List.length_map];omega),by omega⟩
 ·rw[rowF,allOne_cons,(f.e p hp).one,allOne_iv];rfl
set_option maxHeartbeats 2000000 in
theorem Sets_ev {h:H}(hw:h.wf){a:At}{C R G:V}(x:AtAt h C R G a)(c:Int)(Q:V→H→Prop)(q:∀w h',h.Sub h'→SlAt h' w 1 ((setsR a c Prod.fst).map encI)→Q (.tup [w,.int .i64 (errT a (!a.ckB c))]) h'):
  Ev fnG fastA (.fn 38 [] []) [.agg (atV a C R G),.int .i64 c] h Q:=by
 have oC:=x.c.one;have oR:=x.r.one;have oG:=x.g.one
 refine Ev_body (fd:=c38) rfl rfl rfl ?_
 obtain⟨z,hz⟩:∃z,h.add (.cells .rw (atV a C R G))=z:=⟨_,rfl⟩
 have sz:h.Sub z:=by rw[←hz];exact(by repeat(first|assumption|exact H.Sub.refl (by assumption)|refine H.Sub.add ?_ _|refine H.Sub.set ?_ (by first|omega|(simp only[H.next_add,H.next_set,H.next_del]<;>omega)) (by first|omega|(simp only[H.next_add,H.next_set,H.next_del]<;>omega)) (by assumption) _))
 have ga:z.get h.next=some (.cells .rw (atV a C R G)):=by rw[←hz];exact get_add_new rfl
 simp -implicitDefEqProofs(maxSteps:=999999)(disch:=first|with_reducible rfl|omega|(simp only[nA,nS,nD]<;>omega)|fail)only[c38,go_sem,oC,oR,oG]
 rw[hz]
 clear hz
 refine clock_ev sz.wf (x.mono sz) c _ fun z1 s1=>?_
 have hs1:=sz.trans s1
 have gsA:=s1.get ga
 simp -implicitDefEqProofs(maxSteps:=999999)(disch:=first|with_reducible rfl|omega|(simp only[nA,nS,nD]<;>omega)|fail)only[go_sem]
 refine told_ev2 s1.wf (x.mono hs1) (!a.ckB c) _ (fun z2 s2 he=>?_) fun z2 v y Ps s2 hx hl ho hne r hb he e f=>?_
 ·have eR:setsR a c Prod.fst=[]:=if_pos he
  have q':=q .nils z2 (hs1.trans s2) (by rw[eR];exact sl_nil z2)
  simp -implicitDefEqProofs(maxSteps:=999999)(disch:=first|with_reducible rfl|omega|(simp only[nA,nS,nD]<;>omega)|fail)only[go_sem,(decide_eq_true he:decide (errT a (!a.ckB c)≠0)=true),cells_of ga,cells_of gsA,cells_of (s2.get gsA)]
  exact q'
 ·have hb':a.ckB c=true:=by simpa using hb
  obtain⟨k,rfl,hk⟩:=ckB_nat hb'
  have d0:decide ((0:Int)≠0)=false:=rfl
  obtain⟨hr,hone,hlen,hP,hm⟩:=told_runs r e f hl hk
  have eR:setsR a (k:Int) Prod.fst=setL a k Prod.fst:=by unfold setsR;rw[if_neg (by rw[he];simp),Int.toNat_natCast]
  simp -implicitDefEqProofs(maxSteps:=999999)(disch:=first|with_reducible rfl|omega|(simp only[nA,nS,nD]<;>omega)|fail)only[go_sem,d0,cells_of ga,cells_of gsA,cells_of (s2.get gsA)]
  refine settled_ev s2.wf hx hone hlen hne hP hr (of:=Prod.fst) (fun s=>sets1_ev s) _ fun w z3 s3 xw=>?_
  simp -implicitDefEqProofs(maxSteps:=999999)(disch:=first|with_reducible rfl|omega|(simp only[nA,nS,nD]<;>omega)|fail)only[go_sem,cells_of ga,cells_of gsA,cells_of (s2.get gsA),cells_of ((s2.trans s3).get gsA)]
  have hlk:Ps.length=(runsK a k).length:=by rw[←runsK_of e k,List.length_map]
  rw[runsK_of e k,hlk] at xw
  have q':=q w z3 ((hs1.trans s2).trans s3) (by rw[eR];exact xw)
  rwa[he] at q'
set_option maxHeartbeats 2000000 in
theorem Gains_ev {h:H}(hw:h.wf){a:At}{C R G:V}(x:AtAt h C R G a)(c:Int)(Q:V→H→Prop)(q:∀w h',h.Sub h'→SlAt h' w 1 ((setsR a c Prod.snd).map encI)→Q (.tup [w,.int .i64 (errT a (!a.ckB c))]) h'):
  Ev fnG fastA (.fn 19 [] []) [.agg (atV a C R G),.int .i64 c] h Q:=by
 have oC:=x.c.one;have oR:=x.r.one;have oG:=x.g.one
 refine Ev_body (fd:=c19) rfl rfl rfl ?_
 obtain⟨z,hz⟩:∃z,h.add (.cells .rw (atV a C R G))=z:=⟨_,rfl⟩
 have sz:h.Sub z:=by rw[←hz];exact(by repeat(first|assumption|exact H.Sub.refl (by assumption)|refine H.Sub.add ?_ _|refine H.Sub.set ?_ (by first|omega|(simp only[H.next_add,H.next_set,H.next_del]<;>omega)) (by first|omega|(simp only[H.next_add,H.next_set,H.next_del]<;>omega)) (by assumption) _))
 have ga:z.get h.next=some (.cells .rw (atV a C R G)):=by rw[←hz];exact get_add_new rfl
 simp -implicitDefEqProofs(maxSteps:=999999)(disch:=first|with_reducible rfl|omega|(simp only[nA,nS,nD]<;>omega)|fail)only[c19,go_sem,oC,oR,oG]
 rw[hz]
 clear hz
 refine clock_ev sz.wf (x.mono sz) c _ fun z1 s1=>?_
 have hs1:=sz.trans s1
 have gsA:=s1.get ga
 simp -implicitDefEqProofs(maxSteps:=999999)(disch:=first|with_reducible rfl|omega|(simp only[nA,nS,nD]<;>omega)|fail)only[go_sem]
 refine told_ev2 s1.wf (x.mono hs1) (!a.ckB c) _ (fun z2 s2 he=>?_) fun z2 v y Ps s2 hx hl ho hne r hb he e f=>?_
 ·have eR:setsR a c Prod.snd=[]:=if_pos he
  have q':=q .nils z2 (hs1.trans s2) (by rw[eR];exact sl_nil z2)
  simp -implicitDefEqProofs(maxSteps:=999999)(disch:=first|with_reducible rfl|omega|(simp only[nA,nS,nD]<;>omega)|fail)only[go_sem,(decide_eq_true he:decide (errT a (!a.ckB c)≠0)=true),cells_of ga,cells_of gsA,cells_of (s2.get gsA)]
  exact q'
 ·have hb':a.ckB c=true:=by simpa using hb
  obtain⟨k,rfl,hk⟩:=ckB_nat hb'
  have d0:decide ((0:Int)≠0)=false:=rfl
  obtain⟨hr,hone,hlen,hP,hm⟩:=told_runs r e f hl hk
  have eR:setsR a (k:Int) Prod.snd=setL a k Prod.snd:=by unfold setsR;rw[if_neg (by rw[he];simp),Int.toNat_natCast]
  simp -implicitDefEqProofs(maxSteps:=999999)(disch:=first|with_reducible rfl|omega|(simp only[nA,nS,nD]<;>omega)|fail)only[go_sem,d0,cells_of ga,cells_of gsA,cells_of (s2.get gsA)]
  refine settled_ev s2.wf hx hone hlen hne hP hr (of:=Prod.snd) (fun s=>gains1_ev s) _ fun w z3 s3 xw=>?_
  simp -implicitDefEqProofs(maxSteps:=999999)(disch:=first|with_reducible rfl|omega|(simp only[nA,nS,nD]<;>omega)|fail)only[go_sem,cells_of ga,cells_of gsA,cells_of (s2.get gsA),cells_of ((s2.trans s3).get gsA)]
  have hlk:Ps.length=(runsK a k).length:=by rw[←runsK_of e k,List.length_map]
  rw[runsK_of e k,hlk] at xw
  have q':=q w z3 ((hs1.trans s2).trans s3) (by rw[eR];exact xw)
  rwa[he] at q'
end Go.Ab.Tryz
namespace Go.Ab.Tryz
open Go.Proofs
theorem shows1_ev {h:H}{b1 b2:Nat}{k e:Nat}(g1:h.cells b1=some [.int .i64 (k:Int)])(g2:h.cells b2=some [.int .i64 (e:Int)])(he:e<4){p:Fd}(hlen:(rowF p).length=26)(hin:In5 240 p.2.2)(hx:SlAt h p.1 2 (p.2.1.map encX))(hk:k<p.2.1.length)(hrun:RunIn (p.2.1.getD k (0,0)).1 (p.2.1.getD k (0,0)).2)(hm:0≤ -(mg p.2.2 e 4)∧ -(mg p.2.2 e 4)≤240):
  PureA h (.fn 105 [] [.ptr b1 0,.ptr b2 0]) [.agg (rowF p)] (.int .i64 (shw (p.2.1.getD k (0,0)).1 (p.2.1.getD k (0,0)).2 (-(mg p.2.2 e 4)))):=by
 intro h1 hs
 refine Ev.gen fun Q q=>?_
 have hw:=hs.wf
 have hgd:p.2.1.getD k (0,0)=p.2.1[k]:=by rw[List.getD_eq_getElem?_getD,List.getElem?_eq_getElem hk];rfl
 obtain⟨bR,oR,cR,csR,eR,hcR,hqR,hgR,_,_⟩:=(hx.mono hs).at hk
 have hv0:nth 0 (rowF p)=some p.1:=rfl
 have hv1:=row_at hin.len (f:=e) (t:=4) (by omega) (by omega)
 have i4:∀sz b o,q_iaa 5 sz (.ptr b o) (.int .i64 4)=some (.ptr b (o+4*sz)):=fun sz b o=>q_iaa_ptr (nat_num 4) (by omega)
 have lbR:bR<h1.next:=(H.cells_eq hcR).elim fun kd e=>hw _ _ e
 have hcell:=rowF p
 refine Ev_body (fd:=c105) rfl rfl rfl ?_
 rw[hgd] at hrun q
 generalize p.2.1[k]=sg at hrun hgR q
 simp only[encX] at hgR
 have a1:=hs.cells g1
 have a2:=hs.cells g2
 have lb1:b1<h1.next:=(H.cells_eq a1).elim fun kd e=>hw _ _ e
 have lb2:b2<h1.next:=(H.cells_eq a2).elim fun kd e=>hw _ _ e
 have b0:=hin.lo e 4 (by omega) (by omega);have b1':=hin.hi e 4 (by omega) (by omega)
 have w0:wr .i64 (0-mg p.2.2 e 4)= -(mg p.2.2 e 4):=by rw[wr_in (by omega) (by omega)];omega
 obtain⟨y,hy⟩:∃y, -(mg p.2.2 e 4)=y:=⟨_,rfl⟩
 rw[hy] at hm q
 obtain⟨F,hF⟩:∃F,rowF p=F:=⟨_,rfl⟩
 rw[hF] at hv0 hv1 hlen⊢
 have sF:h1.Sub (h1.add (.cells .rw F)):=(H.Sub.refl hw).add _
 have gF:(h1.add (.cells .rw F)).cells h1.next=some F:=cells_add_new rfl
 simp -implicitDefEqProofs(maxSteps:=999999)(disch:=first|with_reducible rfl|omega|(simp only[nA,nS,nD]<;>omega)|fail)only[c105,go_sem,V.cells]
 generalize h1.add (.cells .rw F)=hz at sF gF⊢
 simp -implicitDefEqProofs(maxSteps:=999999)(disch:=first|with_reducible rfl|omega|(simp only[nA,nS,nD]<;>omega)|fail)only[go_sem,gF,hv0,sF.cells a1,sF.cells a2,hqR (nat_cst k),sF.cells hcR,hgR,iaa5 _ _ _ (show e<5 by omega),i4,hv1,w0,hy]
 refine shows_ev rfl sF.wf hrun hm.1 hm.2 _ fun z4 s4=>?_
 have s14:=sF.trans s4
 simp -implicitDefEqProofs(maxSteps:=999999)(disch:=first|with_reducible rfl|omega|(simp only[nA,nS,nD]<;>omega)|fail)only[go_sem,gF,s4.cells gF,hv0,sF.cells a1,sF.cells a2,s14.cells a1,s14.cells a2,sF.cells hcR,s14.cells hcR,hgR,hv1,hy]
 exact q _ _ ⟨rfl,s14⟩
theorem shows2_ev {h:H}{b1 b2:Nat}{k e:Nat}(g1:h.cells b1=some [.int .i64 (k:Int)])(g2:h.cells b2=some [.int .i64 (e:Int)])(he:e<4){p:Fd}(hlen:(rowF p).length=26)(hin:In5 240 p.2.2)(hx:SlAt h p.1 2 (p.2.1.map encX))(hk:k<p.2.1.length)(hrun:RunIn (p.2.1.getD k (0,0)).1 (p.2.1.getD k (0,0)).2)(hm:0≤mg p.2.2 4 e∧mg p.2.2 4 e≤240):
  PureA h (.fn 107 [] [.ptr b1 0,.ptr b2 0]) [.agg (rowF p)] (.int .i64 (shw (p.2.1.getD k (0,0)).1 (p.2.1.getD k (0,0)).2 (mg p.2.2 4 e))):=by
 intro h1 hs
 refine Ev.gen fun Q q=>?_
 have hw:=hs.wf
 have hgd:p.2.1.getD k (0,0)=p.2.1[k]:=by rw[List.getD_eq_getElem?_getD,List.getElem?_eq_getElem hk];rfl
 obtain⟨bR,oR,cR,csR,eR,hcR,hqR,hgR,_,_⟩:=(hx.mono hs).at hk
 have hv0:nth 0 (rowF p)=some p.1:=rfl
 have hv1:=row_at hin.len (f:=4) (t:=e) (by omega) (by omega)
 have i4:∀sz b o,q_iaa 5 sz (.ptr b o) (.int .i64 4)=some (.ptr b (o+4*sz)):=fun sz b o=>q_iaa_ptr (nat_num 4) (by omega)
 have lbR:bR<h1.next:=(H.cells_eq hcR).elim fun kd e=>hw _ _ e
 have hcell:=rowF p
 refine Ev_body (fd:=c107) rfl rfl rfl ?_
 rw[hgd] at hrun q
 generalize p.2.1[k]=sg at hrun hgR q
 simp only[encX] at hgR
 have a1:=hs.cells g1
 have a2:=hs.cells g2
 have lb1:b1<h1.next:=(H.cells_eq a1).elim fun kd e=>hw _ _ e
 have lb2:b2<h1.next:=(H.cells_eq a2).elim fun kd e=>hw _ _ e
 have b0:=hin.lo e 4 (by omega) (by omega);have b1':=hin.hi e 4 (by omega) (by omega)
 have w0:wr .i64 (0-mg p.2.2 e 4)= -(mg p.2.2 e 4):=by rw[wr_in (by omega) (by omega)];omega
 obtain⟨y,hy⟩:∃y,mg p.2.2 4 e=y:=⟨_,rfl⟩
 rw[hy] at hm q
 obtain⟨F,hF⟩:∃F,rowF p=F:=⟨_,rfl⟩
 rw[hF] at hv0 hv1 hlen⊢
 have sF:h1.Sub (h1.add (.cells .rw F)):=(H.Sub.refl hw).add _
 have gF:(h1.add (.cells .rw F)).cells h1.next=some F:=cells_add_new rfl
 simp -implicitDefEqProofs(maxSteps:=999999)(disch:=first|with_reducible rfl|omega|(simp only[nA,nS,nD]<;>omega)|fail)only[c107,go_sem,V.cells]
 generalize h1.add (.cells .rw F)=hz at sF gF⊢
 simp -implicitDefEqProofs(maxSteps:=999999)(disch:=first|with_reducible rfl|omega|(simp only[nA,nS,nD]<;>omega)|fail)only[go_sem,gF,hv0,sF.cells a1,sF.cells a2,hqR (nat_cst k),sF.cells hcR,hgR,iaa5 _ _ _ (show e<5 by omega),i4,hv1,w0,hy]
 refine shows_ev rfl sF.wf hrun hm.1 hm.2 _ fun z4 s4=>?_
 have s14:=sF.trans s4
 simp -implicitDefEqProofs(maxSteps:=999999)(disch:=first|with_reducible rfl|omega|(simp only[nA,nS,nD]<;>omega)|fail)only[go_sem,gF,s4.cells gF,hv0,sF.cells a1,sF.cells a2,s14.cells a1,s14.cells a2,sF.cells hcR,s14.cells hcR,hgR,hv1,hy]
 exact q _ _ ⟨rfl,s14⟩
def shoR (a:At)(c e:Int):(Int × Int) × Int:=if errT a (!a.ckB c|| !a.evB e)≠0 then((0,0),errT a (!a.ckB c|| !a.evB e)) else((shoLo a c.toNat e.toNat,shoHi a c.toNat e.toNat),0)
theorem shwN_of {a:At}{Ps:List Fd}(e:Ps.map Prod.snd=allC a)(k:Nat)(m:List Int→Int):risL (Ps.map fun p=>shw (p.2.1.getD k (0,0)).1 (p.2.1.getD k (0,0)).2 (m p.2.2))=shwN a k m:=by
 unfold shwN
 rw[←e,List.map_map];rfl
set_option maxHeartbeats 4000000 in
theorem Shows_ev {h:H}(hw:h.wf){a:At}{C R G:V}(x:AtAt h C R G a)(c ev:Int)(Q:V→H→Prop)(q:∀h',h.Sub h'→Q (.tup [spV (shoR a c ev).1,.int .i64 (shoR a c ev).2]) h'):
  Ev fnG fastA (.fn 39 [] []) [.agg (atV a C R G),.int .i64 c,.int .i64 ev] h Q:=by
 have oC:=x.c.one;have oR:=x.r.one;have oG:=x.g.one
 have heq:errT a (!a.ckB c|| !evW a ev)=errT a (!a.ckB c|| !a.evB ev):=errT_bad fun r=>by rw[evW_right r]
 refine Ev_body (fd:=c39) rfl rfl rfl ?_
 obtain⟨z,hz⟩:∃z,(((h.add (.cells .rw (atV a C R G))).add (.cells .rw [.int .i64 c])).add (.cells .rw [.int .i64 ev])).add (.cells .rw [.int .i64 0,.int .i64 0])=z:=⟨_,rfl⟩
 have sz:h.Sub z:=by rw[←hz];exact(by repeat(first|assumption|exact H.Sub.refl (by assumption)|refine H.Sub.add ?_ _|refine H.Sub.set ?_ (by first|omega|(simp only[H.next_add,H.next_set,H.next_del]<;>omega)) (by first|omega|(simp only[H.next_add,H.next_set,H.next_del]<;>omega)) (by assumption) _))
 have nz:z.next=h.next+4:=by rw[←hz];simp only[H.next_add]
 have ga:z.get h.next=some (.cells .rw (atV a C R G)):=by rw[←hz];simp -implicitDefEqProofs(maxSteps:=999999)(disch:=first|with_reducible rfl|omega|(simp only[nA,nS,nD]<;>omega)|fail)only[go_sem]
 have gc:z.get (h.next+1)=some (.cells .rw [.int .i64 c]):=by rw[←hz];simp -implicitDefEqProofs(maxSteps:=999999)(disch:=first|with_reducible rfl|omega|(simp only[nA,nS,nD]<;>omega)|fail)only[go_sem]
 have ge:z.get (h.next+2)=some (.cells .rw [.int .i64 ev]):=by rw[←hz];simp -implicitDefEqProofs(maxSteps:=999999)(disch:=first|with_reducible rfl|omega|(simp only[nA,nS,nD]<;>omega)|fail)only[go_sem]
 have gs:z.get (h.next+3)=some (.cells .rw [.int .i64 0,.int .i64 0]):=by rw[←hz];simp -implicitDefEqProofs(maxSteps:=999999)(disch:=first|with_reducible rfl|omega|(simp only[nA,nS,nD]<;>omega)|fail)only[go_sem]
 simp -implicitDefEqProofs(maxSteps:=999999)(disch:=first|with_reducible rfl|omega|(simp only[nA,nS,nD]<;>omega)|fail)only[c39,go_sem,oC,oR,oG]
 rw[hz]
 clear hz
 rw[show h.next+1+1=h.next+2 from rfl,show h.next+2+1=h.next+3 from rfl]
 refine clock_ev sz.wf (x.mono sz) c _ fun z1 s1=>?_
 have hs1:=sz.trans s1
 have d0:decide ((0:Int)≠0)=false:=rfl
 have tail:∀hz:H,z.Sub hz→∀bad,bad=(!a.ckB c|| !evW a ev)→∀Q2:V→H→Prop,
   (∀h4,hz.Sub h4→errT a bad≠0→shoR a c ev=((0,0),errT a bad)→Q2 (.tup [.nilp,.nils,.int .i64 (errT a bad)]) h4)→
   (∀h4 v y,hz.Sub h4→∀k e:Nat,c=k→ev=e→(shoR a c ev=((shoLo a k e,shoHi a k e),0))→(0<(shwN a k fun L=> -mg L e 4).length)→(0<(shwN a k fun L=>mg L 4 e).length)→(shwN a k fun L=>mg L 4 e).length≤15625→
    (∀h5,h4.Sub h5→∀Q3:V→H→Prop,(∀w h6,h5.Sub h6→SlAt h6 w 1 ((shwN a k fun L=> -mg L e 4).map encI)→Q3 w h6)→Ev fnG fastA (.fn 104 [] []) [y,.fn 105 [] [.ptr (h.next+1) 0,.ptr (h.next+2) 0]] h5 Q3)→
    (∀h5,h4.Sub h5→∀Q3:V→H→Prop,(∀w h6,h5.Sub h6→SlAt h6 w 1 ((shwN a k fun L=>mg L 4 e).map encI)→Q3 w h6)→Ev fnG fastA (.fn 104 [] []) [y,.fn 107 [] [.ptr (h.next+1) 0,.ptr (h.next+2) 0]] h5 Q3)→
    Q2 (.tup [v,y,.int .i64 0]) h4)→
   Ev fnG fastA (.fn 75 [] []) [.agg (atV a C R G),.bool bad] hz Q2:=fun hz sz' bad hbad Q2 r1 r2=>by
  subst hbad
  refine told_ev2 sz'.wf (x.mono (sz.trans sz')) _ _ (fun h4 s4 he=>r1 h4 s4 he ?_) fun h4 v y Ps s4 hx hl ho hne r hb he e' f=>?_
  ·rw[heq] at he⊢;exact if_pos he
  ·rw[evW_right r] at hb
   have h1:a.ckB c=true:=by cases hv:a.ckB c<;>simp_all
   have h2:a.evB ev=true:=by cases hv:a.evB ev<;>simp_all
   obtain⟨k,rfl,hk⟩:=ckB_nat h1
   obtain⟨e,rfl,he4⟩:=evB_nat r h2
   rw[heq] at he
   obtain⟨hr,hone,hlen,hP,hm⟩:=told_runs r e' f hl hk
   have hneC:allC a≠[]:=fun hc=>hne (List.map_eq_nil_iff.1 (e'.trans hc))
   have hR:shoR a (k:Int) (e:Int)=((shoLo a k e,shoHi a k e),0):=by unfold shoR;rw[if_neg (by rw[he];simp),Int.toNat_natCast,Int.toNat_natCast]
   have hrun:∀p∈Ps,RunIn (p.2.1.getD k (0,0)).1 (p.2.1.getD k (0,0)).2:=fun p hp=>by
    have hkl:=(hr p hp).2
    have hg:p.2.1.getD k (0,0)=p.2.1[k]:=by rw[List.getD_eq_getElem?_getD,List.getElem?_eq_getElem hkl];rfl
    rw[hg]
    exact((cases_sound r (hm p hp)).2.2.1 k _ (List.getElem?_eq_getElem hkl)).run r
   have hmin:∀p∈Ps,(0≤ -mg p.2.2 e 4∧ -mg p.2.2 e 4≤240)∧0≤mg p.2.2 4 e∧mg p.2.2 4 e≤240:=fun p hp=>by
    have t1:=(lat_tru r (hm p hp) (f:=e) (by omega)).mins e he4
    have t2:=(lat_tru r (hm p hp) (f:=4) (by omega)).mins e he4
    rw[lat_self r (hm p hp) (by omega)] at t1
    rw[lat_4 r (hm p hp)] at t2
    have:=r.mins
    omega
   have ll:∀m:List Int→Int,(shwN a k m).length≤15625:=fun m=>by
    unfold shwN risL
    refine Nat.le_trans dd_len ?_
    rw[sortI_len,List.length_map]
    exact casesL_len r _
   refine r2 h4 v y s4 k e rfl rfl hR (shwN_pos hneC) (shwN_pos hneC) (ll _) (fun h5 s5 Q3 q3=>?_) fun h5 s5 Q3 q3=>?_
   ·have gc5:=cells_of ((sz'.trans (s4.trans s5)).get gc)
    have ge5:=cells_of ((sz'.trans (s4.trans s5)).get ge)
    refine numbers_ev s5.wf (hx.mono s5) hone hlen hne hP (of:=fun p=>shw (p.2.1.getD k (0,0)).1 (p.2.1.getD k (0,0)).2 (-mg p.2.2 e 4)) (fun p hp=>shows1_ev gc5 ge5 he4 (hlen p hp) (hl p hp) ((hr p hp).1.mono s5) (hr p hp).2 (hrun p hp) (hmin p hp).1) _ fun w h6 s6 xw=>q3 w h6 s6 ?_
    rw[shwN_of e' k fun L=> -mg L e 4] at xw
    exact xw
   ·have gc5:=cells_of ((sz'.trans (s4.trans s5)).get gc)
    have ge5:=cells_of ((sz'.trans (s4.trans s5)).get ge)
    refine numbers_ev s5.wf (hx.mono s5) hone hlen hne hP (of:=fun p=>shw (p.2.1.getD k (0,0)).1 (p.2.1.getD k (0,0)).2 (mg p.2.2 4 e)) (fun p hp=>shows2_ev gc5 ge5 he4 (hlen p hp) (hl p hp) ((hr p hp).1.mono s5) (hr p hp).2 (hrun p hp) (hmin p hp).2) _ fun w h6 s6 xw=>q3 w h6 s6 ?_
    rw[shwN_of e' k fun L=>mg L 4 e] at xw
    exact xw
 have fin:∀hz:H,z.Sub hz→∀(u v er:Int),shoR a c ev=((u,v),er)→Q (.tup [spV (u,v),.int .i64 er]) (hz.set (h.next+3) (.cells .rw [.int .i64 u,.int .i64 v])):=fun hz sz' u v er e=>by
  have lz:=sz'.next
  have:=q _ ((sz.trans sz').set (b:=h.next+3) (by omega) (by omega) hw (.cells .rw [.int .i64 u,.int .i64 v]))
  rwa[e] at this
 cases hck:a.ckB c with
 |false=>
  rw[hck] at tail
  simp -implicitDefEqProofs(maxSteps:=999999)(disch:=first|with_reducible rfl|omega|(simp only[nA,nS,nD]<;>omega)|fail)only[go_sem,cells_of gc,cells_of ga,cells_of (s1.get ga),cells_of (s1.get gc)]
  refine tail z1 s1 true rfl _ (fun h4 s4 he hr=>?_) fun h4 v y s4 k e e1 e2 hR l1 l2 l3 n1 n2=>?_
  ·have sx:=s1.trans s4
   simp -implicitDefEqProofs(maxSteps:=999999)(disch:=first|with_reducible rfl|omega|(simp only[nA,nS,nD]<;>omega)|fail)only[go_sem,cells_of ga,cells_of gc,cells_of (s1.get ga),cells_of (s1.get gc),cells_of (sx.get ga),cells_of (sx.get gc),(decide_eq_true he:decide (errT a true≠0)=true),sx.get gs]
   exact fin _ sx _ _ _ hr
  ·rw[e1] at hck
   exfalso
   unfold shoR at hR
   rw[e1,hck] at hR
   have:errT a (!false|| !a.evB ev)≠0:=by
    unfold errT
    by_cases hc0:checkA a=0
    ·rw[if_neg (by rw[hc0];simp),if_pos (by simp)];decide
    ·rw[if_pos hc0];exact hc0
   rw[if_pos this] at hR
   exact this (congrArg Prod.snd hR)
 |true=>
  rw[hck] at tail
  simp -implicitDefEqProofs(maxSteps:=999999)(disch:=first|with_reducible rfl|omega|(simp only[nA,nS,nD]<;>omega)|fail)only[go_sem,cells_of gc,cells_of ga,cells_of ge,cells_of (s1.get ga),cells_of (s1.get gc),cells_of (s1.get ge)]
  refine event_any s1.wf a ev _ fun z2 s2=>?_
  have s12:=s1.trans s2
  obtain⟨bt,hbt0⟩:∃bt,(!evW a ev)=bt:=⟨_,rfl⟩
  simp -implicitDefEqProofs(maxSteps:=999999)(disch:=first|with_reducible rfl|omega|(simp only[nA,nS,nD]<;>omega)|fail)only[go_sem,hbt0,cells_of gc,cells_of ga,cells_of ge,cells_of (s1.get ga),cells_of (s1.get gc),cells_of (s1.get ge),cells_of (s12.get ga),cells_of (s12.get gc),cells_of (s12.get ge)]
  refine tail z2 s12 bt (by rw[←hbt0];rfl) _ (fun h4 s4 he hr=>?_) fun h4 v y s4 k e e1 e2 hR l1 l2 l3 n1 n2=>?_
  ·have sx:=s12.trans s4
   simp -implicitDefEqProofs(maxSteps:=999999)(disch:=first|with_reducible rfl|omega|(simp only[nA,nS,nD]<;>omega)|fail)only[go_sem,cells_of gc,cells_of ga,cells_of ge,cells_of (s1.get ga),cells_of (s1.get gc),cells_of (s1.get ge),cells_of (s12.get ga),cells_of (s12.get gc),cells_of (s12.get ge),cells_of (sx.get ga),cells_of (sx.get gc),cells_of (sx.get ge),(decide_eq_true he:decide (errT a bt≠0)=true),sx.get gs]
   exact fin _ sx _ _ _ hr
  ·have sx:=s12.trans s4
   simp -implicitDefEqProofs(maxSteps:=999999)(disch:=first|with_reducible rfl|omega|(simp only[nA,nS,nD]<;>omega)|fail)only[go_sem,d0,cells_of gc,cells_of ga,cells_of ge,cells_of (s1.get ga),cells_of (s1.get gc),cells_of (s1.get ge),cells_of (s12.get ga),cells_of (s12.get gc),cells_of (s12.get ge),cells_of (sx.get ga),cells_of (sx.get gc),cells_of (sx.get ge)]
   refine n1 h4 (H.Sub.refl s4.wf) _ fun w1 h5 s5 xw1=>?_
   simp -implicitDefEqProofs(maxSteps:=999999)(disch:=first|with_reducible rfl|omega|(simp only[nA,nS,nD]<;>omega)|fail)only[go_sem]
   refine n2 h5 s5 _ fun w2 h6 s6 xw2=>?_
   have hl2:=xw2.lenE
   obtain⟨b1,o1,c1,cs1,ew1,hc1,hq1,_,_,q1⟩:=(xw1.mono s6).at l1
   obtain⟨b2,o2,c2,cs2,ew2,hc2,hq2,_,_,q2⟩:=xw2.at (k:=(shwN a k fun L=>mg L 4 e).length - 1) (by omega)
   have v1:=q1 (by decide)
   have v2:=q2 (by decide)
   simp only[encI,List.getElem?_cons_zero] at v1 v2
   rw[Nat.zero_mul,Nat.add_zero] at v1
   have g1:(shwN a k fun L=> -mg L e 4)[0]=shoLo a k e:=by unfold shoLo;rw[List.getD_eq_getElem?_getD,List.getElem?_eq_getElem l1];rfl
   have g2:(shwN a k fun L=>mg L 4 e)[(shwN a k fun L=>mg L 4 e).length - 1]'(by omega)=shoHi a k e:=by unfold shoHi;rw[List.getD_eq_getElem?_getD,List.getElem?_eq_getElem (by omega)];rfl
   rw[g1] at v1
   rw[g2] at v2
   have w3:wr .i64 (((shwN a k fun L=>mg L 4 e).length:Int)-1)=(((shwN a k fun L=>mg L 4 e).length - 1:Nat):Int):=by rw[wr_in (by omega) (by omega)];omega
   have hq10:=hq1 nat_zero
   rw[Nat.zero_mul,Nat.add_zero] at hq10
   have sy:=sx.trans (s5.trans s6)
   simp -implicitDefEqProofs(maxSteps:=999999)(disch:=first|with_reducible rfl|omega|(simp only[nA,nS,nD]<;>omega)|fail)only[go_sem,hq10,hc1,v1,hl2,w3,hq2 (nat_cst _),hc2,v2,sy.get gs]
   exact fin _ sy _ _ _ hR
end Go.Ab.Tryz
namespace Go.Ab
namespace Tryz
open Go.Proofs
theorem someT_spec {a:At}(r:Right a)(hne:allC a≠[]):∃runs y,TruA a runs y∧someT a=(runs.map Prod.fst,runs.map Prod.snd,(List.range a.evs.toNat).map y):=by
 obtain⟨t,l,h⟩:=List.exists_cons_of_ne_nil hne
 have ht:t∈casesL a (fun _=>true):=by show t∈allC a;rw[h];exact List.mem_cons_self ..
 refine⟨t.1,latY t.2 4,lat_tru r ht (by omega),?_⟩
 unfold someT
 rw[h]
 simp only
 rw[if_pos (errT_ok r hne)]
 have:(List.range a.evs.toNat).map (fun i=>mg t.2 4 i)=(List.range a.evs.toNat).map (latY t.2 4):=List.map_congr_left fun i _=>(lat_4 r ht i).symm
 rw[this]
theorem someT_fit {a:At}(r:Right a)(hne:allC a≠[]):fitB a (someT a).1 (someT a).2.1 (someT a).2.2=true:=by
 obtain⟨runs,y,t,e⟩:=someT_spec r hne
 rw[e];exact t.fit r
theorem errT_none {a:At}(r:Right a)(h:allC a=[]):errT a false=7:=by
 unfold errT
 rw[if_neg (by rw[checkA_iff.2 r];simp),if_neg (by simp),if_pos h]
end Tryz
end Go.Ab
namespace Go.Ab.Tryz
open Go.Proofs
variable {a b:At} {ss gg tt:List Int}
theorem readE_ok {y:Rd}(r:Right a)(hl:a.rds.length<8)(hr:Right (a.addR y)):readE a y=0∧readA a y=a.addR y:=by
 have e:readE a y=0:=by unfold readE;rw[if_neg (by rw[checkA_iff.2 r];simp),if_neg (by omega),checkA_iff.2 hr]
 exact⟨e,if_pos e⟩
theorem setsR_ok (r:Right a)(hne:allC a≠[]){k:Nat}(hk:k<a.cks.length)(of:Int × Int→Int):setsR a k of=setL a k of∧errT a (!a.ckB k)=0:=by
 have hb:a.ckB k=true:=by simp only[At.ckB,inB_iff];omega
 have e:errT a (!a.ckB k)=0:=by rw[hb];exact errT_ok r hne
 unfold setsR
 rw[e,if_neg (by simp),Int.toNat_natCast];exact⟨rfl,rfl⟩
theorem shoR_ok (r:Right a)(hne:allC a≠[]){k e:Nat}(hk:k<a.cks.length)(he:(e:Int)<a.evs):shoR a k e=((shoLo a k e,shoHi a k e),0):=by
 have hb:a.ckB k=true:=by simp only[At.ckB,inB_iff];omega
 have hc:a.evB e=true:=by simp only[At.evB,inB_iff];omega
 unfold shoR
 rw[hb,hc,if_neg (by rw[show(!true|| !true)=false from rfl,errT_ok r hne];simp),Int.toNat_natCast,Int.toNat_natCast]
end Go.Ab.Tryz
namespace Go.Ab
theorem rows_cut {α:Type}{enc:α→List V}{sz:Nat}(hsz:∀a,(enc a).length=sz)(l:List α){k:Nat}{c:α}(hc:l[k]? =some c)(c':α):∃pre post,pre.length=k*sz∧(l.map enc).flatten=pre++enc c++post∧((l.set k c').map enc).flatten=pre++enc c'++post:=by
 have hk:k<l.length:=by
  rcases Nat.lt_or_ge k l.length with q|q
  ·exact q
  ·rw[List.getElem?_eq_none q] at hc;cases hc
 rw[List.getElem?_eq_getElem hk] at hc
 cases hc
 have e:l=l.take k++l[k]::l.drop (k+1):=by rw[List.getElem_cons_drop,List.take_append_drop]
 have e2:l.set k c'=l.take k++c'::l.drop (k+1):=by rw[List.set_eq_take_append_cons_drop,if_pos hk]
 have hl:((l.take k).map enc).flatten.length=k*sz:=by
  have h1:=flatten_len (sz:=sz) (rows:=(l.take k).map enc) fun r hr=>by obtain⟨x,_,rfl⟩:=List.mem_map.1 hr;exact hsz x
  rw[h1,List.length_map,List.length_take,Nat.min_eq_left (by omega)]
 have f1:=congrArg (fun t=>(t.map enc).flatten) e
 have f2:=congrArg (fun t=>(t.map enc).flatten) e2
 simp only[List.map_append,List.map_cons,List.flatten_append,List.flatten_cons,←List.append_assoc] at f1 f2
 exact⟨_,_,hl,f1,f2⟩
end Go.Ab
namespace Go.Ab.Tryz
open Go.Proofs
def Ck.atS (c:Ck)(n:Int):Ck:=⟨n,n,c.gl,c.gh⟩
def Ck.atG (c:Ck)(n:Int):Ck:=⟨c.sl,c.sh,n,n⟩
theorem put_atS {l:List Ck}{k:Nat}{c:Ck}(hc:l[k]? =some c)(n:Int):putN (k*4) [.int .i64 n,.int .i64 n] (l.map encC).flatten=some ((l.set k (c.atS n)).map encC).flatten:=by
 obtain⟨pre,post,hl,e1,e2⟩:=rows_cut (enc:=encC) (sz:=4) (fun _=>rfl) l hc (c.atS n)
 rw[e1,e2,←hl]
 have:=putN_app (pre:=pre) (new:=[.int .i64 n,.int .i64 n]) (old:=[.int .i64 c.sl,.int .i64 c.sh]) (rest:=[.int .i64 c.gl,.int .i64 c.gh]++post) rfl
 simpa[encC,Ck.atS] using this
theorem put_atG {l:List Ck}{k:Nat}{c:Ck}(hc:l[k]? =some c)(n:Int):putN (k*4+2) [.int .i64 n,.int .i64 n] (l.map encC).flatten=some ((l.set k (c.atG n)).map encC).flatten:=by
 obtain⟨pre,post,hl,e1,e2⟩:=rows_cut (enc:=encC) (sz:=4) (fun _=>rfl) l hc (c.atG n)
 rw[e1,e2,←hl]
 have:=putN_app (pre:=pre++[.int .i64 c.sl,.int .i64 c.sh]) (new:=[.int .i64 n,.int .i64 n]) (old:=[.int .i64 c.gl,.int .i64 c.gh]) (rest:=post) rfl
 simpa[encC,Ck.atG] using this
variable {a:At}
theorem ck_ord (r:Right a){k:Nat}{c:Ck}(hc:a.cks[k]? =some c):c.sl≤c.sh∧c.gl≤c.gh∧ -60≤c.sl∧c.sh≤60∧ -30≤c.gl∧c.gh≤30:=by
 have hm:=List.mem_of_getElem? hc
 have h1:=r.cb c hm;have h2:=r.co c hm
 simp only[Ck.bd,Ck.ord,within,Bool.and_eq_true,decide_eq_true_eq,inB_iff] at h1 h2
 omega
theorem atS_iff (r:Right a){k:Nat}{c:Ck}(hc:a.cks[k]? =some c){n:Int}(h:c.sl≤n∧n≤c.sh):Right (a.setC k (c.atS n))∧(allC (a.setC k (c.atS n))≠[]↔n∈setL a k Prod.fst):=by
 have ho:=ck_ord r hc
 have hr:=right_setC r hc (c':=c.atS n) (by simp only[Ck.atS];omega)
 refine⟨hr,?_⟩
 rw[Ne,noC hr,setL_mem r (getl hc)]
 have ht:∀{runs y},TruA (a.setC k (c.atS n)) runs y↔_:=fun{runs y}=>tru_setC hc (c':=c.atS n) (by simp only[Ck.atS];omega) (runs:=runs) (y:=y)
 constructor
 ·intro hn
  refine Classical.byContradiction fun hx=>hn fun runs y t=>hx ?_
  obtain⟨t',h1⟩:=ht.1 t
  obtain⟨s,hs,_⟩:=run_ck t' hc
  have:=h1 s hs
  exact⟨runs,y,s,t',hs,by simp only[Ck.atS] at this;omega⟩
 ·rintro⟨runs,y,s,t,hs,e⟩ hn
  refine hn runs y (ht.2 ⟨t,fun s' hs'=>?_⟩)
  rw[hs] at hs';cases hs'
  obtain⟨s',hs',q⟩:=run_ck t hc
  rw[hs] at hs';cases hs'
  simp only[Ck.atS];omega
theorem atG_iff (r:Right a){k:Nat}{c:Ck}(hc:a.cks[k]? =some c){n:Int}(h:c.gl≤n∧n≤c.gh):Right (a.setC k (c.atG n))∧(allC (a.setC k (c.atG n))≠[]↔n∈setL a k Prod.snd):=by
 have ho:=ck_ord r hc
 have hr:=right_setC r hc (c':=c.atG n) (by simp only[Ck.atG];omega)
 refine⟨hr,?_⟩
 rw[Ne,noC hr,setL_mem r (getl hc)]
 have ht:∀{runs y},TruA (a.setC k (c.atG n)) runs y↔_:=fun{runs y}=>tru_setC hc (c':=c.atG n) (by simp only[Ck.atG];omega) (runs:=runs) (y:=y)
 constructor
 ·intro hn
  refine Classical.byContradiction fun hx=>hn fun runs y t=>hx ?_
  obtain⟨t',h1⟩:=ht.1 t
  obtain⟨s,hs,_⟩:=run_ck t' hc
  have:=h1 s hs
  exact⟨runs,y,s,t',hs,by simp only[Ck.atG] at this;omega⟩
 ·rintro⟨runs,y,s,t,hs,e⟩ hn
  refine hn runs y (ht.2 ⟨t,fun s' hs'=>?_⟩)
  rw[hs] at hs';cases hs'
  obtain⟨s',hs',q⟩:=run_ck t hc
  rw[hs] at hs';cases hs'
  simp only[Ck.atG];omega
theorem set_in (r:Right a){k:Nat}{c:Ck}(hc:a.cks[k]? =some c){n:Int}:(n∈setL a k Prod.fst→c.sl≤n∧n≤c.sh)∧(n∈setL a k Prod.snd→c.gl≤n∧n≤c.gh):=by
 rw[setL_mem r (getl hc),setL_mem r (getl hc)]
 constructor
 ·rintro⟨runs,y,s,t,hs,rfl⟩
  obtain⟨s',hs',q⟩:=run_ck t hc
  rw[hs] at hs';cases hs';omega
 ·rintro⟨runs,y,s,t,hs,rfl⟩
  obtain⟨s',hs',q⟩:=run_ck t hc
  rw[hs] at hs';cases hs';omega
theorem set_sorted (a:At)(k:Nat)(of:Int × Int→Int):decide ((setL a k of).Pairwise (· ≤ ·))=true:=decide_eq_true ((setL_rise a k of).imp fun h=>by omega)
theorem rd_right (r:Right a){k e:Nat}(hk:k<a.cks.length)(he:(e:Int)<a.evs)(hl:a.rds.length<8){m:Int}(hm: -999≤m∧m≤999):Right (a.addR ⟨k,e,m⟩):=
 right_addR r hl ((inB_iff ..).2 hm) (by simp only[At.rdOk,At.ckB,At.evB,Bool.and_eq_true,inB_iff];omega)
theorem rd_iff (r:Right a){k e:Nat}(hk:k<a.cks.length){m:Int}(hr:Right (a.addR ⟨k,e,m⟩)):allC (a.addR ⟨k,e,m⟩)≠[]↔∃runs y s,TruA a runs y∧runs[k]? =some s∧shw s.1 s.2 (y e)=m:=by
 rw[Ne,noC hr]
 constructor
 ·intro hn
  refine Classical.byContradiction fun hx=>hn fun runs y t=>hx ?_
  obtain⟨t',h1⟩:=tru_addR.1 t
  simp only[Int.toNat_natCast] at h1
  obtain⟨s,hs,_⟩:=run_ck t' (List.getElem?_eq_getElem hk)
  exact⟨runs,y,s,t',hs,h1 s hs⟩
 ·rintro⟨runs,y,s,t,hs,e⟩ hn
  refine hn runs y (tru_addR.2 ⟨t,fun s' hs'=>?_⟩)
  simp only[Int.toNat_natCast] at hs'⊢
  rw[hs] at hs';cases hs';exact e
theorem rd_end (r:Right a)(hne:allC a≠[]){k e:Nat}(hk:k<a.cks.length)(he:e<4){m:Int}(hr:Right (a.addR ⟨k,e,m⟩))(h:m=shoLo a k e∨m=shoHi a k e):allC (a.addR ⟨k,e,m⟩)≠[]:=by
 rw[rd_iff r hk hr]
 obtain⟨h1,h2⟩:=sho_ex r hne hk he
 rcases h with rfl|rfl
 ·exact h1
 ·exact h2
theorem rd_out (r:Right a){k e:Nat}(hk:k<a.cks.length)(he:e<4){m:Int}(hr:Right (a.addR ⟨k,e,m⟩))(h:m<shoLo a k e∨shoHi a k e<m):allC (a.addR ⟨k,e,m⟩)=[]:=by
 refine Classical.byContradiction fun hn=>?_
 obtain⟨runs,y,s,t,hs,e⟩:=(rd_iff r hk hr).1 hn
 have:=sho_tru r hk he t hs
 omega
theorem sho_bd (r:Right a)(hne:allC a≠[]){k e:Nat}(hk:k<a.cks.length)(he:e<4):shoLo a k e≤shoHi a k e∧ -420≤shoLo a k e∧shoHi a k e≤420:=by
 have hm:a.mins≤240:=by have:=r.mins;omega
 obtain⟨⟨runs,y,s,t,hs,e1⟩,runs',y',s',t',hs',e2⟩:=sho_ex r hne hk he
 have h1:=sho_tru r hk he t hs
 have q:=t.mins e he
 have q':=t'.mins e he
 have b1:=shw_bd ((t.run k s hs).run r) q.1 (by omega)
 have b2:=shw_bd ((t'.run k s' hs').run r) q'.1 (by omega)
 omega
theorem sho_real (r:Right a){k e:Nat}(hk:k<a.cks.length)(he:e<4){ss gg tt:List Int}(tr:TruA a (ss.zip gg) (timeF tt)){s g t:Int}(h1:ss[k]? =some s)(h2:gg[k]? =some g)(h3:tt[e]? =some t):inB (shw s g t) (shoLo a k e) (shoHi a k e)=true:=by
 have:=sho_tru r hk he tr (s:=(s,g)) (zip_get.2 ⟨h1,h2⟩)
 rw[timeF_at h3] at this
 exact(inB_iff ..).2 this
end Go.Ab.Tryz
namespace Go.Ab.Tryz
open Go.Proofs
theorem AtNew.setC {h0 h:H}{C R G:V}{a:At}(n:AtNew h0 h C R G a)(hw0:h0.wf){k:Nat}(hk:k<a.cks.length):∃b1,C=.sl b1 0 a.cks.length (.fix a.cks.length)∧h0.next≤b1∧b1<h.next∧h.get b1=some (.cells .rw (a.cks.map encC).flatten)∧
  ∀c' z,h.Sub z→AtNew h0 (z.set b1 (.cells .rw ((a.cks.set k c').map encC).flatten)) C R G (a.setC k c'):=by
 obtain⟨b1,b2,b3,e1,e2,e3,l1,l2,l3,l4,g1,g2,g3⟩:=n.is
 refine⟨b1,e1,l1,by omega,g1,fun c' z s=>⟨(n.s.trans s).set l1 (by have:=s.next;omega) hw0 _,b1,b2,b3,?_,e2,e3,l1,l2,l3,by rw[H.next_set];have:=s.next;omega,get_set_same rfl,?_,?_⟩⟩
 ·simp only[At.setC,List.length_set];exact e1
 ·rw[get_set_other (by omega)];exact s.get g2
 ·rw[get_set_other (by omega)];exact s.get g3
theorem settled1_ev {h:H}{b:Nat}{c:Ck}(gb:h.get b=some (.cells .rw (encC c)))(n:Int)(hw:h.wf):PureA h (.fn 65 [] [.ptr b 0]) [.int .i64 n] (.bool (!(inB n c.sl c.sh))):=by
 intro h1 s
 refine Ev.gen fun Q q=>?_
 refine Ev_body (fd:=c65) rfl rfl rfl ?_
 have g:=s.get gb
 simp only[encC] at g
 simp -implicitDefEqProofs(maxSteps:=999999)(disch:=first|with_reducible rfl|omega|(simp only[nA,nS,nD]<;>omega)|fail)only[c65,go_sem,cells_of g]
 refine inside_ev s.wf n _ _ _ fun h2 s2=>?_
 simp -implicitDefEqProofs(maxSteps:=999999)(disch:=first|with_reducible rfl|omega|(simp only[nA,nS,nD]<;>omega)|fail)only[go_sem]
 exact q _ _ ⟨rfl,s2⟩
theorem settled2_ev {h:H}{b:Nat}{c:Ck}(gb:h.get b=some (.cells .rw (encC c)))(n:Int)(hw:h.wf):PureA h (.fn 66 [] [.ptr b 0]) [.int .i64 n] (.bool (!(inB n c.gl c.gh))):=by
 intro h1 s
 refine Ev.gen fun Q q=>?_
 refine Ev_body (fd:=c66) rfl rfl rfl ?_
 have g:=s.get gb
 simp only[encC] at g
 simp -implicitDefEqProofs(maxSteps:=999999)(disch:=first|with_reducible rfl|omega|(simp only[nA,nS,nD]<;>omega)|fail)only[c66,go_sem,cells_of g]
 refine inside_ev s.wf n _ _ _ fun h2 s2=>?_
 simp -implicitDefEqProofs(maxSteps:=999999)(disch:=first|with_reducible rfl|omega|(simp only[nA,nS,nD]<;>omega)|fail)only[go_sem]
 exact q _ _ ⟨rfl,s2⟩
theorem any_memS {l:List Int}{n:Int}:(l.any fun r=>decide (n=r))=decide (n∈l):=by
 rw[Bool.eq_iff_iff,List.any_eq_true,decide_eq_true_eq]
 constructor
 ·rintro⟨x,hx,e⟩;rw[of_decide_eq_true e];exact hx
 ·intro h;exact⟨n,h,by simp⟩
theorem any_noB {l:List Int}{p:Int→Bool}(h:∀x∈l,p x=true):(l.any fun n=> !(p n))=false:=by
 rw[List.any_eq_false]
 intro x hx
 rw[h x hx];simp
set_option maxHeartbeats 8000000 in
theorem ClockSettled_ev {h:H}{x:V}{bs:List Int}(hw:h.wf)(hx:SlAt h x 1 (bs.map encU8)){u1 u2:Int}(hu1:0≤u1∧u1≤255)(hu2:0≤u2∧u2≤255):
  Ev fnG fastA (.fn 12 [] []) [x,.int .u8 u1,.int .u8 u2] h fun v _=>v=.bool true:=by
 refine Ev.gen fun Q q=>?_
 refine Ev_body (fd:=c12) rfl rfl rfl ?_
 simp -implicitDefEqProofs(maxSteps:=999999)(disch:=first|with_reducible rfl|omega|(simp only[nA,nS,nD]<;>omega)|fail)only[c12,go_sem]
 refine Wound_ev hw hx _ fun h1 s1 p1 n1=>?_
 simp -implicitDefEqProofs(maxSteps:=999999)(disch:=first|with_reducible rfl|omega|(simp only[nA,nS,nD]<;>omega)|fail)only[go_sem]
 refine Made_ev s1 hw hx (Nat.le_refl _) p1 (by omega) (by omega) (by omega) (by omega) (by omega) _ fun h2 T2 a ss gg tt C R G S Ga Tm mk=>?_
 have ok:=mk.ok
 have r:=ok.right mk.lt
 have tru:=ok.tru
 have he:=ok.e
 have hm:=ok.m
 have lt:=mk.lt
 have oC:=mk.at_.c.one;have oR:=mk.at_.r.one;have oG:=mk.at_.g.one
 have oS:=mk.as_.one;have oGa:=mk.ag.one;have oTm:=mk.am.one
 have hw2:=mk.s.wf
 obtain⟨hA,hhA⟩:∃hA,((((h2.add (.cells .rw [.int .i64 0,.int .i64 0,.nils,.nils,.nils])).add (.cells .rw [.nils,.nils,.nils])).set h2.next (.cells .rw (atV a C R G))).set (h2.next+1) (.cells .rw [S,Ga,Tm]))=hA:=⟨_,rfl⟩
 have sA:h2.Sub hA:=by rw[←hhA];exact(by repeat(first|assumption|exact H.Sub.refl (by assumption)|refine H.Sub.add ?_ _|refine H.Sub.set ?_ (by first|omega|(simp only[H.next_add,H.next_set,H.next_del]<;>omega)) (by first|omega|(simp only[H.next_add,H.next_set,H.next_del]<;>omega)) (by assumption) _))
 have g7:hA.get h2.next=some (.cells .rw (atV a C R G)):=by rw[←hhA];simp -implicitDefEqProofs(maxSteps:=999999)(disch:=first|with_reducible rfl|omega|(simp only[nA,nS,nD]<;>omega)|fail)only[go_sem]
 have g8:hA.get (h2.next+1)=some (.cells .rw [S,Ga,Tm]):=by rw[←hhA];simp -implicitDefEqProofs(maxSteps:=999999)(disch:=first|with_reducible rfl|omega|(simp only[nA,nS,nD]<;>omega)|fail)only[go_sem]
 have trR:TrAt hA S Ga Tm ss gg tt:=TrAt.mono ⟨mk.as_,mk.ag,mk.am⟩ sA
 have xA:=mk.at_.mono sA
 have hne:allC a≠[]:=fun hc=>(noC r).1 hc _ _ tru
 have hlC:=xA.c.lenE
 have z1:wr .i64 u1=u1:=wr_in (by omega) (by omega)
 have z2:wr .i64 u2=u2:=wr_in (by omega) (by omega)
 have lg:=ok.gl
 have lr:=ok.rl
 have lc:=ok.cl
 have sml:SmallA a:=⟨by omega,by omega,by omega⟩
 by_cases hz:a.cks.length=0
 ·have hz':(a.cks.length:Int)=0:=by omega
  simp -implicitDefEqProofs(maxSteps:=999999)(disch:=first|with_reducible rfl|omega|(simp only[nA,nS,nD]<;>omega)|fail)only[go_sem,oC,oR,oG,oS,oGa,oTm,hhA,cells_of g7,hlC,hz',awake_eq]
  exact q _ _ rfl
 have hz':¬(a.cks.length:Int)=0:=by omega
 have hev0:¬a.evs=0:=by omega
 have f1:0≤u1.tmod a.cks.length∧u1.tmod a.cks.length<a.cks.length:=⟨Int.tmod_nonneg _ hu1.1,Int.tmod_lt_of_pos _ (by omega)⟩
 have f2:0≤u2.tmod a.evs∧u2.tmod a.evs<a.evs:=⟨Int.tmod_nonneg _ hu2.1,Int.tmod_lt_of_pos _ (by omega)⟩
 obtain⟨k,hk⟩:∃k:Nat,u1.tmod a.cks.length=k:=⟨(u1.tmod a.cks.length).toNat,by omega⟩
 obtain⟨e,hee⟩:∃e:Nat,u2.tmod a.evs=e:=⟨(u2.tmod a.evs).toNat,by omega⟩
 rw[hk] at f1;rw[hee] at f2
 have hkl:k<a.cks.length:=by omega
 have he4:e<4:=by omega
 obtain⟨eS,rS⟩:=setsR_ok r hne hkl Prod.fst
 obtain⟨eG,rG⟩:=setsR_ok r hne hkl Prod.snd
 simp -implicitDefEqProofs(maxSteps:=999999)(disch:=first|with_reducible rfl|omega|(simp only[nA,nS,nD]<;>omega)|fail)only[go_sem,oC,oR,oG,oS,oGa,oTm,hhA,cells_of g7,hlC,hz',z1,z2,q_ar_rem .i64 hev0,q_ar_rem .i64 hz',hk,hee]
 clear hhA
 refine Sets_ev sA.wf xA k _ fun w1 h3 s3 k1=>?_
 rw[rS]
 rw[eS] at k1
 have o1:=k1.one
 simp -implicitDefEqProofs(maxSteps:=999999)(disch:=first|with_reducible rfl|omega|(simp only[nA,nS,nD]<;>omega)|fail)only[go_sem,o1,cells_of (s3.get g7)]
 refine Gains_ev s3.wf (xA.mono s3) k _ fun w2 h4 s4 k2=>?_
 rw[rG]
 rw[eG] at k2
 have o2:=k2.one
 have s34:=s3.trans s4
 have k14:=k1.mono s4
 have srt1:=isSorted_ev k14
 have srt2:=isSorted_ev k2
 simp only[set_sorted] at srt1 srt2
 obtain⟨bC,oCC,cC,csC,eC,hcC,hqC,hgC,_,_⟩:=(xA.c.mono s34).at hkl
 have hck:a.cks[k]? =some a.cks[k]:=List.getElem?_eq_getElem hkl
 generalize a.cks[k]=c at hgC hck
 obtain⟨z5,hz5⟩:∃z5,h4.add (.cells .rw (encC c))=z5:=⟨_,rfl⟩
 have s45:h4.Sub z5:=by rw[←hz5];exact(H.Sub.refl s34.wf).add _
 have g15:z5.get h4.next=some (.cells .rw (encC c)):=by rw[←hz5];exact get_add_new rfl
 have s5:=s34.trans s45
 have hw5:=s5.wf
 simp only[encC] at hgC hz5 g15
 simp -implicitDefEqProofs(maxSteps:=999999)(disch:=first|with_reducible rfl|omega|(simp only[nA,nS,nD]<;>omega)|fail)only[go_sem,o2,ne_eq,not_true_eq_false,srt1,srt2,cells_of (s34.get g7),hqC (nat_cst k),hcC,hgC,hz5,cells_of g15]
 clear hz5
 have hord:=ck_ord r hck
 have k15:=k14.mono s45
 have k25:=k2.mono s45
 have d70:decide ((7:Int)=0)=false:=rfl
 have h70:¬(7:Int)=0:=by decide
 have hbb:∀b:Bool,(!(b==b))=false:=fun b=>by cases b<;>rfl
 refine W_count (c.sh-c.sl+1).toNat (fun i s=>∃tm z,s=⟨tm,z,[]⟩∧z5.Sub z∧(Opd.t 7).ev tm=.ptr h2.next 0∧(Opd.t 8).ev tm=.ptr (h2.next+1) 0∧(Opd.t 9).ev tm=.int .i64 (k:Int)∧(Opd.t 10).ev tm=.int .i64 (e:Int)∧(Opd.t 11).ev tm=w1∧(Opd.t 13).ev tm=w2∧(Opd.t 15).ev tm=.ptr h4.next 0∧(Opd.t 16).ev tm=.int .i64 (c.sl+(i:Int))) ?_ ?_ (i:=0) (Nat.zero_le _)
  ⟨_,_,rfl,H.Sub.refl hw5,(by simp[ev_c,ev_put]<;>rfl),(by simp[ev_c,ev_put]<;>rfl),(by simp[ev_c,ev_put]<;>rfl),(by simp[ev_c,ev_put]<;>rfl),(by simp[ev_c,ev_put]<;>rfl),(by simp[ev_c,ev_put]<;>rfl),(by simp[ev_c,ev_put]<;>rfl),by rw[show c.sl+((0:Nat):Int)=c.sl by omega];exact(by simp[ev_c,ev_put]<;>rfl)⟩
 ·rintro i s hi ⟨tm,z,rfl,sz,t7,t8,t9,t10,t11,t13,t15,t16⟩
  have hi':c.sl+(i:Int)≤c.sh:=by omega
  have hn1:wr .i64 (c.sl+(i:Int)+1)=c.sl+((i+1:Nat):Int):=by rw[wr_in (by omega) (by omega)];omega
  have hlo:c.sl≤c.sl+(i:Int):=by omega
  obtain⟨n,hn⟩:∃n,c.sl+(i:Int)=n:=⟨_,rfl⟩
  rw[hn] at hi' hn1 t16 hlo
  have sZ:=s5.trans sz
  obtain⟨hr,hiff⟩:=atS_iff r hck (n:=n) ⟨hlo,hi'⟩
  have g15z:=sz.get g15
  have kz:=k15.mono sz
  simp -implicitDefEqProofs(maxSteps:=999999)(disch:=first|with_reducible rfl|omega|(simp only[nA,nS,nD]<;>omega)|fail)only[go_sem,t7,t8,t9,t10,t11,t13,t15,t16,hi',cells_of g15z,cells_of (sZ.get g7)]
  refine own_ev sZ.wf (xA.mono sZ) sml _ fun C5 R5 G5 y1 nw1=>?_
  have sy1:=nw1.s
  have o5C:=nw1.ow.c.one;have o5R:=nw1.ow.r.one;have o5G:=nw1.ow.g.one
  obtain⟨b1,eC5,l1,l2,gC5,hset⟩:=nw1.setC sZ.wf hkl
  obtain⟨y2,hy2⟩:∃y2,y1.add (.cells .rw (atV a C5 R5 G5))=y2:=⟨_,rfl⟩
  have sy2:y1.Sub y2:=by rw[←hy2];exact(H.Sub.refl sy1.wf).add _
  have g17:y2.get y1.next=some (.cells .rw (atV a C5 R5 G5)):=by rw[←hy2];exact get_add_new rfl
  have ny2:y2.next=y1.next+1:=by rw[←hy2];exact H.next_add _ _
  have n3:=hset (c.atS n) y2 sy2
  have hput:=put_atS hck n
  have gC52:=sy2.get gC5
  have g173:(y2.set b1 (.cells .rw ((a.cks.set k (c.atS n)).map encC).flatten)).get y1.next=some (.cells .rw (atV a C5 R5 G5)):=by rw[get_set_other (by omega)];exact g17
  have qi:∀{u:V},nat? u=some k→q_iad 4 C5 u=some (.ptr b1 (k*4)):=fun hu=>by rw[eC5,q_iad_sl hu hkl];simp
  simp -implicitDefEqProofs(maxSteps:=999999)(disch:=first|with_reducible rfl|omega|(simp only[nA,nS,nD]<;>omega)|fail)only[go_sem,t7,t8,t9,t10,t11,t13,t15,t16,o5C,o5R,o5G,hy2,cells_of g17,qi (nat_cst k),gC52,hput]
  try rw[hy2]
  clear hy2
  obtain⟨y3,hy3⟩:∃y3,y2.set b1 (.cells .rw ((a.cks.set k (c.atS n)).map encC).flatten)=y3:=⟨_,rfl⟩
  rw[hy3] at n3 g173
  try rw[hy3]
  clear hy3
  have smx:SmallA (a.setC k (c.atS n)):=⟨by simp[At.setC];omega,by simp only[At.setC];omega,by simp only[At.setC];omega⟩
  have xx:AtAt y3 C5 R5 G5 (a.setC k (c.atS n)):=n3.at_ smx
  have e0:atV a C5 R5 G5=atV (a.setC k (c.atS n)) C5 R5 G5:=rfl
  rw[e0] at g173
  refine Some_ev n3.s.wf xx _ fun S8 G8 T8 y4 sy4 tr8=>?_
  have o8S:=tr8.s.one;have o8G:=tr8.g.one;have o8T:=tr8.t.one
  have g174:=sy4.get g173
  have szy:=n3.s.trans sy4
  obtain⟨y5,hy5⟩:∃y5,y4.add (.cells .rw [S8,G8,T8])=y5:=⟨_,rfl⟩
  have sy5:y4.Sub y5:=by rw[←hy5];exact(H.Sub.refl sy4.wf).add _
  have g18:y5.get y4.next=some (.cells .rw [S8,G8,T8]):=by rw[←hy5];exact get_add_new rfl
  have szy5:=szy.trans sy5
  have g175:=sy5.get g174
  by_cases hmem:n∈setL a k Prod.fst
  ·have hne2:=hiff.2 hmem
   rw[errT_ok hr hne2]
   simp -implicitDefEqProofs(maxSteps:=999999)(disch:=first|with_reducible rfl|omega|(simp only[nA,nS,nD]<;>omega)|fail)only[go_sem,t7,t8,t9,t10,t11,t13,t15,t16,o8S,o8G,o8T,hy5]
   try rw[hy5]
   refine hasInt_ev szy5.wf (kz.mono szy5) n _ fun y6 sy6=>?_
   rw[any_memS,decide_eq_true hmem]
   simp -implicitDefEqProofs(maxSteps:=999999)(disch:=first|with_reducible rfl|omega|(simp only[nA,nS,nD]<;>omega)|fail)only[go_sem,t7,t8,t9,t10,t11,t13,t15,t16,hbb,ne_eq,not_true_eq_false,cells_of (sy6.get g18),cells_of (sy6.get g175)]
   refine lfits_ev (szy5.trans sy6).wf (xx.mono (sy4.trans (sy5.trans sy6))) hr (tr8.mono (sy5.trans sy6)) _ fun y7 sy7=>?_
   rw[someT_fit hr hne2]
   simp -implicitDefEqProofs(maxSteps:=999999)(disch:=first|with_reducible rfl|omega|(simp only[nA,nS,nD]<;>omega)|fail)only[go_sem,t7,t8,t9,t10,t11,t13,t15,t16,ne_eq,not_true_eq_false,hn1]
   exact⟨_,_,rfl,sz.trans (szy5.trans (sy6.trans sy7)),(by simp[ev_c,ev_put,t7]<;>rfl),(by simp[ev_c,ev_put,t8]<;>rfl),(by simp[ev_c,ev_put,t9]<;>rfl),(by simp[ev_c,ev_put,t10]<;>rfl),(by simp[ev_c,ev_put,t11]<;>rfl),(by simp[ev_c,ev_put,t13]<;>rfl),(by simp[ev_c,ev_put,t15]<;>rfl),(by simp[ev_c,ev_put]<;>rfl)⟩
  ·have hno2:allC (a.setC k (c.atS n))=[]:=Classical.byContradiction fun hx=>hmem (hiff.1 hx)
   rw[errT_none hr hno2]
   simp -implicitDefEqProofs(maxSteps:=999999)(disch:=first|with_reducible rfl|omega|(simp only[nA,nS,nD]<;>omega)|fail)only[go_sem,t7,t8,t9,t10,t11,t13,t15,t16,o8S,o8G,o8T,hy5]
   try rw[hy5]
   refine hasInt_ev szy5.wf (kz.mono szy5) n _ fun y6 sy6=>?_
   rw[any_memS,decide_eq_false hmem]
   simp -implicitDefEqProofs(maxSteps:=999999)(disch:=first|with_reducible rfl|omega|(simp only[nA,nS,nD]<;>omega)|fail)only[go_sem,t7,t8,t9,t10,t11,t13,t15,t16,h70,d70,decide_true,decide_false,hbb,ne_eq,not_true_eq_false,not_false_eq_true,hn1]
   exact⟨_,_,rfl,sz.trans (szy5.trans sy6),(by simp[ev_c,ev_put,t7]<;>rfl),(by simp[ev_c,ev_put,t8]<;>rfl),(by simp[ev_c,ev_put,t9]<;>rfl),(by simp[ev_c,ev_put,t10]<;>rfl),(by simp[ev_c,ev_put,t11]<;>rfl),(by simp[ev_c,ev_put,t13]<;>rfl),(by simp[ev_c,ev_put,t15]<;>rfl),(by simp[ev_c,ev_put]<;>rfl)⟩
 rintro s ⟨tm,z,rfl,sz,t7,t8,t9,t10,t11,t13,t15,t16⟩
 have hend:¬c.sl+(((c.sh-c.sl+1).toNat:Nat):Int)≤c.sh:=by omega
 have g15z:=sz.get g15
 simp -implicitDefEqProofs(maxSteps:=999999)(disch:=first|with_reducible rfl|omega|(simp only[nA,nS,nD]<;>omega)|fail)only[go_sem,t7,t8,t9,t10,t11,t13,t15,t16,hend,cells_of g15z]
 refine W_count (c.gh-c.gl+1).toNat (fun i s=>∃tm z,s=⟨tm,z,[]⟩∧z5.Sub z∧(Opd.t 7).ev tm=.ptr h2.next 0∧(Opd.t 8).ev tm=.ptr (h2.next+1) 0∧(Opd.t 9).ev tm=.int .i64 (k:Int)∧(Opd.t 10).ev tm=.int .i64 (e:Int)∧(Opd.t 11).ev tm=w1∧(Opd.t 13).ev tm=w2∧(Opd.t 15).ev tm=.ptr h4.next 0∧(Opd.t 20).ev tm=.int .i64 (c.gl+(i:Int))) ?_ ?_ (i:=0) (Nat.zero_le _)
  ⟨_,_,rfl,sz,(by simp[ev_c,ev_put,t7]<;>rfl),(by simp[ev_c,ev_put,t8]<;>rfl),(by simp[ev_c,ev_put,t9]<;>rfl),(by simp[ev_c,ev_put,t10]<;>rfl),(by simp[ev_c,ev_put,t11]<;>rfl),(by simp[ev_c,ev_put,t13]<;>rfl),(by simp[ev_c,ev_put,t15]<;>rfl),by rw[show c.gl+((0:Nat):Int)=c.gl by omega];exact(by simp[ev_c,ev_put]<;>rfl)⟩
 ·clear sz t7 t8 t9 t10 t11 t13 t15
  rintro i s hi ⟨tm,z,rfl,sz,t7,t8,t9,t10,t11,t13,t15,t20⟩
  have hi':c.gl+(i:Int)≤c.gh:=by omega
  have hn1:wr .i64 (c.gl+(i:Int)+1)=c.gl+((i+1:Nat):Int):=by rw[wr_in (by omega) (by omega)];omega
  have hlo:c.gl≤c.gl+(i:Int):=by omega
  obtain⟨n,hn⟩:∃n,c.gl+(i:Int)=n:=⟨_,rfl⟩
  rw[hn] at hi' hn1 t20 hlo
  have sZ:=s5.trans sz
  obtain⟨hr,hiff⟩:=atG_iff r hck (n:=n) ⟨hlo,hi'⟩
  have g15z:=sz.get g15
  have kz:=k25.mono sz
  simp -implicitDefEqProofs(maxSteps:=999999)(disch:=first|with_reducible rfl|omega|(simp only[nA,nS,nD]<;>omega)|fail)only[go_sem,t7,t8,t9,t10,t11,t13,t15,t20,hi',cells_of g15z,cells_of (sZ.get g7)]
  refine own_ev sZ.wf (xA.mono sZ) sml _ fun C5 R5 G5 y1 nw1=>?_
  have sy1:=nw1.s
  have o5C:=nw1.ow.c.one;have o5R:=nw1.ow.r.one;have o5G:=nw1.ow.g.one
  obtain⟨b1,eC5,l1,l2,gC5,hset⟩:=nw1.setC sZ.wf hkl
  obtain⟨y2,hy2⟩:∃y2,y1.add (.cells .rw (atV a C5 R5 G5))=y2:=⟨_,rfl⟩
  have sy2:y1.Sub y2:=by rw[←hy2];exact(H.Sub.refl sy1.wf).add _
  have g17:y2.get y1.next=some (.cells .rw (atV a C5 R5 G5)):=by rw[←hy2];exact get_add_new rfl
  have ny2:y2.next=y1.next+1:=by rw[←hy2];exact H.next_add _ _
  have n3:=hset (c.atG n) y2 sy2
  have hput:=put_atG hck n
  have gC52:=sy2.get gC5
  have g173:(y2.set b1 (.cells .rw ((a.cks.set k (c.atG n)).map encC).flatten)).get y1.next=some (.cells .rw (atV a C5 R5 G5)):=by rw[get_set_other (by omega)];exact g17
  have qi:∀{u:V},nat? u=some k→q_iad 4 C5 u=some (.ptr b1 (k*4)):=fun hu=>by rw[eC5,q_iad_sl hu hkl];simp
  simp -implicitDefEqProofs(maxSteps:=999999)(disch:=first|with_reducible rfl|omega|(simp only[nA,nS,nD]<;>omega)|fail)only[go_sem,t7,t8,t9,t10,t11,t13,t15,t20,o5C,o5R,o5G,hy2,cells_of g17,qi (nat_cst k),gC52,hput]
  try rw[hy2]
  clear hy2
  obtain⟨y3,hy3⟩:∃y3,y2.set b1 (.cells .rw ((a.cks.set k (c.atG n)).map encC).flatten)=y3:=⟨_,rfl⟩
  rw[hy3] at n3 g173
  try rw[hy3]
  clear hy3
  have smx:SmallA (a.setC k (c.atG n)):=⟨by simp[At.setC];omega,by simp only[At.setC];omega,by simp only[At.setC];omega⟩
  have xx:AtAt y3 C5 R5 G5 (a.setC k (c.atG n)):=n3.at_ smx
  have e0:atV a C5 R5 G5=atV (a.setC k (c.atG n)) C5 R5 G5:=rfl
  rw[e0] at g173
  refine Some_ev n3.s.wf xx _ fun S8 G8 T8 y4 sy4 tr8=>?_
  have o8S:=tr8.s.one;have o8G:=tr8.g.one;have o8T:=tr8.t.one
  have g174:=sy4.get g173
  have szy:=n3.s.trans sy4
  obtain⟨y5,hy5⟩:∃y5,y4.add (.cells .rw [S8,G8,T8])=y5:=⟨_,rfl⟩
  have sy5:y4.Sub y5:=by rw[←hy5];exact(H.Sub.refl sy4.wf).add _
  have g18:y5.get y4.next=some (.cells .rw [S8,G8,T8]):=by rw[←hy5];exact get_add_new rfl
  have szy5:=szy.trans sy5
  have g175:=sy5.get g174
  by_cases hmem:n∈setL a k Prod.snd
  ·have hne2:=hiff.2 hmem
   rw[errT_ok hr hne2]
   simp -implicitDefEqProofs(maxSteps:=999999)(disch:=first|with_reducible rfl|omega|(simp only[nA,nS,nD]<;>omega)|fail)only[go_sem,t7,t8,t9,t10,t11,t13,t15,t20,o8S,o8G,o8T,hy5]
   try rw[hy5]
   refine hasInt_ev szy5.wf (kz.mono szy5) n _ fun y6 sy6=>?_
   rw[any_memS,decide_eq_true hmem]
   simp -implicitDefEqProofs(maxSteps:=999999)(disch:=first|with_reducible rfl|omega|(simp only[nA,nS,nD]<;>omega)|fail)only[go_sem,t7,t8,t9,t10,t11,t13,t15,t20,hbb,ne_eq,not_true_eq_false,cells_of (sy6.get g18),cells_of (sy6.get g175)]
   refine lfits_ev (szy5.trans sy6).wf (xx.mono (sy4.trans (sy5.trans sy6))) hr (tr8.mono (sy5.trans sy6)) _ fun y7 sy7=>?_
   rw[someT_fit hr hne2]
   simp -implicitDefEqProofs(maxSteps:=999999)(disch:=first|with_reducible rfl|omega|(simp only[nA,nS,nD]<;>omega)|fail)only[go_sem,t7,t8,t9,t10,t11,t13,t15,t20,ne_eq,not_true_eq_false,hn1]
   exact⟨_,_,rfl,sz.trans (szy5.trans (sy6.trans sy7)),(by simp[ev_c,ev_put,t7]<;>rfl),(by simp[ev_c,ev_put,t8]<;>rfl),(by simp[ev_c,ev_put,t9]<;>rfl),(by simp[ev_c,ev_put,t10]<;>rfl),(by simp[ev_c,ev_put,t11]<;>rfl),(by simp[ev_c,ev_put,t13]<;>rfl),(by simp[ev_c,ev_put,t15]<;>rfl),(by simp[ev_c,ev_put]<;>rfl)⟩
  ·have hno2:allC (a.setC k (c.atG n))=[]:=Classical.byContradiction fun hx=>hmem (hiff.1 hx)
   rw[errT_none hr hno2]
   simp -implicitDefEqProofs(maxSteps:=999999)(disch:=first|with_reducible rfl|omega|(simp only[nA,nS,nD]<;>omega)|fail)only[go_sem,t7,t8,t9,t10,t11,t13,t15,t20,o8S,o8G,o8T,hy5]
   try rw[hy5]
   refine hasInt_ev szy5.wf (kz.mono szy5) n _ fun y6 sy6=>?_
   rw[any_memS,decide_eq_false hmem]
   simp -implicitDefEqProofs(maxSteps:=999999)(disch:=first|with_reducible rfl|omega|(simp only[nA,nS,nD]<;>omega)|fail)only[go_sem,t7,t8,t9,t10,t11,t13,t15,t20,h70,d70,decide_true,decide_false,hbb,ne_eq,not_true_eq_false,not_false_eq_true,hn1]
   exact⟨_,_,rfl,sz.trans (szy5.trans sy6),(by simp[ev_c,ev_put,t7]<;>rfl),(by simp[ev_c,ev_put,t8]<;>rfl),(by simp[ev_c,ev_put,t9]<;>rfl),(by simp[ev_c,ev_put,t10]<;>rfl),(by simp[ev_c,ev_put,t11]<;>rfl),(by simp[ev_c,ev_put,t13]<;>rfl),(by simp[ev_c,ev_put,t15]<;>rfl),(by simp[ev_c,ev_put]<;>rfl)⟩
 clear sz t7 t8 t9 t10 t11 t13 t15
 rintro s ⟨tm,z,rfl,sz,t7,t8,t9,t10,t11,t13,t15,t20⟩
 have hend:¬c.gl+(((c.gh-c.gl+1).toNat:Nat):Int)≤c.gh:=by omega
 have g15z:=sz.get g15
 simp -implicitDefEqProofs(maxSteps:=999999)(disch:=first|with_reducible rfl|omega|(simp only[nA,nS,nD]<;>omega)|fail)only[go_sem,t7,t8,t9,t10,t11,t13,t15,t20,hend,cells_of g15z]
 have sZ:=s5.trans sz
 have g15z':z.get h4.next=some (.cells .rw (encC c)):=g15z
 refine(containsFuncInt_ev (p:=fun n=> !(inB n c.sl c.sh)) sZ.wf (k15.mono sz) fun n _=>settled1_ev g15z' n sZ.wf).mono fun _ v1 hv=>?_
 obtain⟨rfl,sv1⟩:=hv
 rw[any_noB fun n hn=>(inB_iff ..).2 ((set_in r hck).1 hn)]
 simp -implicitDefEqProofs(maxSteps:=999999)(disch:=first|with_reducible rfl|omega|(simp only[nA,nS,nD]<;>omega)|fail)only[go_sem,t7,t8,t9,t10,t11,t13,t15]
 refine(containsFuncInt_ev (p:=fun n=> !(inB n c.gl c.gh)) sv1.wf (k25.mono (sz.trans sv1)) fun n _=>settled2_ev (sv1.get g15z') n sv1.wf).mono fun _ v2 hv=>?_
 obtain⟨rfl,sv2⟩:=hv
 rw[any_noB fun n hn=>(inB_iff ..).2 ((set_in r hck).2 hn)]
 have f2':=sZ.trans (sv1.trans sv2)
 simp -implicitDefEqProofs(maxSteps:=999999)(disch:=first|with_reducible rfl|omega|(simp only[nA,nS,nD]<;>omega)|fail)only[go_sem,t7,t8,t9,t10,t11,t13,t15,cells_of (f2'.get g7)]
 refine Shows_ev f2'.wf (xA.mono f2') k e _ fun v3 sv3=>?_
 rw[shoR_ok r hne hkl f2.2]
 have bd:=sho_bd r hne hkl he4
 have rend:=fun m (hr:Right (a.addR ⟨k,e,m⟩)) h=>rd_end r hne hkl he4 hr h
 have rout:=fun m (hr:Right (a.addR ⟨k,e,m⟩)) h=>rd_out r hkl he4 hr h
 have hkS:k<ss.length:=by rw[ok.ls];exact hkl
 have hkG:k<gg.length:=by rw[ok.lg];exact hkl
 have hel:e<tt.length:=by omega
 have kS0:ss[k]? =some ss[k]:=List.getElem?_eq_getElem hkS
 have kG0:gg[k]? =some gg[k]:=List.getElem?_eq_getElem hkG
 have kt0:tt[e]? =some tt[e]:=List.getElem?_eq_getElem hel
 have hreal:=sho_real r hkl he4 tru kS0 kG0 kt0
 have hrun:=ok.run kS0 kG0
 have qt:=ok.tm _ (List.getElem_mem hel)
 obtain⟨lo,hlo⟩:∃lo,shoLo a k e=lo:=⟨_,rfl⟩
 obtain⟨hi,hhi⟩:∃hi,shoHi a k e=hi:=⟨_,rfl⟩
 simp only[hlo,hhi] at bd rend rout hreal⊢
 clear hlo hhi
 have f3:=f2'.trans sv3
 obtain⟨v4,hv4⟩:∃v4,v3.add (.cells .rw [.int .i64 lo,.int .i64 hi])=v4:=⟨_,rfl⟩
 have sv4:v3.Sub v4:=by rw[←hv4];exact(H.Sub.refl f3.wf).add _
 have g24:v4.get v3.next=some (.cells .rw [.int .i64 lo,.int .i64 hi]):=by rw[←hv4];exact get_add_new rfl
 have f4:=f3.trans sv4
 obtain⟨bS,oSS,cS,csS,_,hcS,hqS,_,_,nS⟩:=(trR.s.mono f4).at hkS
 obtain⟨bG,oGG,cG,csG,_,hcG,hqG,_,_,nG⟩:=(trR.g.mono f4).at hkG
 obtain⟨bT,oTT,cT,csT,_,hcT,hqT,_,_,nT⟩:=(trR.t.mono f4).at hel
 have vS:=nS (by decide)
 have vG:=nG (by decide)
 have vT:=nT (by decide)
 simp only[encI,List.getElem?_cons_zero] at vS vG vT
 generalize ss[k]=sk at vS hreal hrun
 generalize gg[k]=gk at vG hreal hrun
 generalize tt[e]=kt at vT hreal qt
 have g84:=f4.get g8
 simp -implicitDefEqProofs(maxSteps:=999999)(disch:=first|with_reducible rfl|omega|(simp only[nA,nS,nD]<;>omega)|fail)only[go_sem,spV,t7,t8,t9,t10,t11,t13,t15,hv4,ne_eq,not_true_eq_false,cells_of g84,hqS (nat_cst k),hcS,vS,hqG (nat_cst k),hcG,vG,hqT (nat_cst e),hcT,vT,cells_of g24]
 try rw[hv4]
 clear hv4
 refine lshows_ev f4.wf hrun qt.1 (by omega) _ ?_
 simp -implicitDefEqProofs(maxSteps:=999999)(disch:=first|with_reducible rfl|omega|(simp only[nA,nS,nD]<;>omega)|fail)only[go_sem,t7,t8,t9,t10,t11,t13,t15,cells_of g24]
 refine inside_ev f4.wf _ _ _ _ fun v5 sv5=>?_
 rw[hreal]
 have f5:=f4.trans sv5
 have g25:=sv5.get g24
 have u0:wr .i64 (lo-1)=lo-1:=wr_in (by omega) (by omega)
 have u1':wr .i64 (hi+1)=hi+1:=wr_in (by omega) (by omega)
 simp -implicitDefEqProofs(maxSteps:=999999)(disch:=first|with_reducible rfl|omega|(simp only[nA,nS,nD]<;>omega)|fail)only[go_sem,t7,t8,t9,t10,t11,t13,t15,ne_eq,not_true_eq_false,cells_of g84,hcS,vS,hcG,vG,hcT,vT,cells_of g24,cells_of g25,cells_of (f5.get g8),sv5.cells hcS,sv5.cells hcG,sv5.cells hcT,u0,u1']
 obtain⟨vM,hvM⟩:∃vM,v5.add (.cells .rw [.int .i64 lo,.int .i64 hi,.int .i64 (lo-1),.int .i64 (hi+1)])=vM:=⟨_,rfl⟩
 have svM:v5.Sub vM:=by rw[←hvM];exact(H.Sub.refl f5.wf).add _
 have gM:vM.get v5.next=some (.cells .rw [.int .i64 lo,.int .i64 hi,.int .i64 (lo-1),.int .i64 (hi+1)]):=by rw[←hvM];exact get_add_new rfl
 rw[hvM]
 clear hvM
 have fM:=f5.trans svM
 have g2M:=svM.get g25
 have gO:=fun(m:Int)=>rd_right r hkl f2.2 (by omega) (m:=m)
 clear sz
 refine W_count 4 (fun j s=>∃tm z,s=⟨tm,z,[]⟩∧vM.Sub z∧
   (Opd.t 7).ev tm=.ptr h2.next 0∧(Opd.t 9).ev tm=.int .i64 (k:Int)∧(Opd.t 10).ev tm=.int .i64 (e:Int)∧(Opd.t 24).ev tm=.ptr v3.next 0∧(Opd.t 232).ev tm=.sl v5.next 0 4 (.fix 4)∧(Opd.t 233).ev tm=.int .i64 ((4:Nat):Int)∧(Opd.t 234).ev tm=.int .i64 (j:Int)) ?_ ?_ (i:=0) (Nat.zero_le _)
  ⟨_,_,rfl,H.Sub.refl fM.wf,(by simp[ev_c,ev_put,t7]<;>rfl),(by simp[ev_c,ev_put,t9]<;>rfl),(by simp[ev_c,ev_put,t10]<;>rfl),(by simp[ev_c,ev_put]<;>rfl),(by simp[ev_c,ev_put]<;>rfl),(by simp[ev_c,ev_put]<;>rfl),(by simp[ev_c,ev_put]<;>rfl)⟩
 ·clear t7 t8 t9 t10 t11 t13 t15 t20
  rintro j s hj ⟨tm,z,rfl,sz,t7,t9,t10,t24,t232,t233,t234⟩
  have hj':(j:Int)<((4:Nat):Int):=by omega
  obtain⟨m,hv,hmc⟩:∃m:Int,nth j [V.int .i64 lo,.int .i64 hi,.int .i64 (lo-1),.int .i64 (hi+1)]=some (.int .i64 m)∧((inB m lo hi=true∧(m=lo∨m=hi))∨(inB m lo hi=false∧(m<lo∨hi<m)))∧ -421≤m∧m≤421:=by
   have no:∀m:Int,(m<lo∨hi<m)→inB m lo hi=false:=fun m h=>by rw[←Bool.not_eq_true,inB_iff];omega
   rcases(by omega:j=0∨j=1∨j=2∨j=3) with rfl|rfl|rfl|rfl
   ·exact⟨lo,rfl,.inl ⟨(inB_iff ..).2 (by omega),.inl rfl⟩,by omega⟩
   ·exact⟨hi,rfl,.inl ⟨(inB_iff ..).2 (by omega),.inr rfl⟩,by omega⟩
   ·exact⟨lo-1,rfl,.inr ⟨no _ (by omega),by omega⟩,by omega⟩
   ·exact⟨hi+1,rfl,.inr ⟨no _ (by omega),by omega⟩,by omega⟩
  obtain⟨hmc,hmb⟩:=hmc
  have hr:=gO m (by omega)
  obtain⟨eR,aR⟩:=readE_ok (y:=⟨k,e,m⟩) r (by omega) hr
  have sZ:=fM.trans sz
  simp -implicitDefEqProofs(maxSteps:=999999)(disch:=first|with_reducible rfl|omega|(simp only[nA,nS,nD]<;>omega)|fail)only[go_sem,t7,t9,t10,t24,t232,t233,t234,hj',q_iad_sl (nat_cst j) hj,Nat.mul_one,cells_of (sz.get gM),hv,cells_of (sZ.get g7)]
  refine Read_ev (y:=⟨k,e,m⟩) sZ.wf (xA.mono sZ) sml _ fun C5 R5 G5 y1 ow1=>?_
  rw[aR] at ow1
  rw[eR,aR]
  have rend':=rend m hr
  have rout':=rout m hr
  obtain⟨b,hb⟩:∃b,a.addR ⟨k,e,m⟩=b:=⟨_,rfl⟩
  have smb:SmallA b:=by rw[←hb];exact⟨sml.c,by simp[At.addR];omega,sml.g⟩
  rw[hb] at ow1 hr rend' rout'⊢
  clear hb
  have sy1:=ow1.sub
  have o5C:=ow1.c.one;have o5R:=ow1.r.one;have o5G:=ow1.g.one
  obtain⟨y2,hy2⟩:∃y2,y1.add (.cells .rw (atV b C5 R5 G5))=y2:=⟨_,rfl⟩
  have sy2:y1.Sub y2:=by rw[←hy2];exact(H.Sub.refl sy1.wf).add _
  have g27:y2.get y1.next=some (.cells .rw (atV b C5 R5 G5)):=by rw[←hy2];exact get_add_new rfl
  have sy12:=sy1.trans sy2
  have xb:=(ow1.at_ smb).mono sy2
  simp -implicitDefEqProofs(maxSteps:=999999)(disch:=first|with_reducible rfl|omega|(simp only[nA,nS,nD]<;>omega)|fail)only[go_sem,t7,t9,t10,t24,t232,t233,t234,o5C,o5R,o5G,hy2,cells_of g27]
  try rw[hy2]
  clear hy2
  refine Some_ev sy12.wf xb _ fun S8 G8 T8 y3 sy3 tr8=>?_
  have o8S:=tr8.s.one;have o8G:=tr8.g.one;have o8T:=tr8.t.one
  obtain⟨y4,hy4⟩:∃y4,y3.add (.cells .rw [S8,G8,T8])=y4:=⟨_,rfl⟩
  have sy4:y3.Sub y4:=by rw[←hy4];exact(H.Sub.refl sy3.wf).add _
  have g29:y4.get y3.next=some (.cells .rw [S8,G8,T8]):=by rw[←hy4];exact get_add_new rfl
  have sy24:=sy3.trans sy4
  have sy14:=sy12.trans sy24
  have g274:=sy24.get g27
  have g244:=(sz.trans sy14).get g2M
  simp -implicitDefEqProofs(maxSteps:=999999)(disch:=first|with_reducible rfl|omega|(simp only[nA,nS,nD]<;>omega)|fail)only[go_sem,t7,t9,t10,t24,t232,t233,t234,o8S,o8G,o8T,ne_eq,not_true_eq_false,hy4,cells_of g244]
  try rw[hy4]
  clear hy4
  refine inside_ev sy14.wf _ _ _ _ fun y5 sy5=>?_
  have sy15:=sy14.trans sy5
  have g245:=sy5.get g244
  rcases hmc with⟨hmi,hme⟩|⟨hmi,hme⟩
  ·have hne2:=rend' hme
   rw[hmi,errT_ok hr hne2]
   simp -implicitDefEqProofs(maxSteps:=999999)(disch:=first|with_reducible rfl|omega|(simp only[nA,nS,nD]<;>omega)|fail)only[go_sem,t7,t9,t10,t24,t232,t233,t234,ne_eq,not_true_eq_false,cells_of (sy5.get g274),cells_of (sy5.get g29)]
   refine lfits_ev sy15.wf (xb.mono (sy24.trans sy5)) hr (tr8.mono (sy4.trans sy5)) _ fun y6 sy6=>?_
   rw[someT_fit hr hne2]
   have sy16:=sy15.trans sy6
   simp -implicitDefEqProofs(maxSteps:=999999)(disch:=first|with_reducible rfl|omega|(simp only[nA,nS,nD]<;>omega)|fail)only[go_sem,t7,t9,t10,t24,t232,t233,t234,ne_eq,not_true_eq_false,cells_of (sy6.get g245)]
   refine inside_ev sy16.wf _ _ _ _ fun y7 sy7=>?_
   rw[hmi]
   simp -implicitDefEqProofs(maxSteps:=999999)(disch:=first|with_reducible rfl|omega|(simp only[nA,nS,nD]<;>omega)|fail)only[go_sem,t7,t9,t10,t24,t232,t233,t234,ne_eq,not_true_eq_false,wr_succ]
   exact⟨_,_,rfl,sz.trans (sy16.trans sy7),(by simp[ev_c,ev_put,t7]<;>rfl),(by simp[ev_c,ev_put,t9]<;>rfl),(by simp[ev_c,ev_put,t10]<;>rfl),(by simp[ev_c,ev_put,t24]<;>rfl),(by simp[ev_c,ev_put,t232]<;>rfl),(by simp[ev_c,ev_put,t233]<;>rfl),(by simp[ev_c,ev_put]<;>rfl)⟩
  ·have hno2:=rout' hme
   rw[hmi,errT_none hr hno2]
   simp -implicitDefEqProofs(maxSteps:=999999)(disch:=first|with_reducible rfl|omega|(simp only[nA,nS,nD]<;>omega)|fail)only[go_sem,t7,t9,t10,t24,t232,t233,t234,ne_eq,not_true_eq_false,cells_of g245]
   refine inside_ev sy15.wf _ _ _ _ fun y7 sy7=>?_
   rw[hmi]
   simp -implicitDefEqProofs(maxSteps:=999999)(disch:=first|with_reducible rfl|omega|(simp only[nA,nS,nD]<;>omega)|fail)only[go_sem,t7,t9,t10,t24,t232,t233,t234,h70,d70,ne_eq,not_true_eq_false,not_false_eq_true,wr_succ]
   exact⟨_,_,rfl,sz.trans (sy15.trans sy7),(by simp[ev_c,ev_put,t7]<;>rfl),(by simp[ev_c,ev_put,t9]<;>rfl),(by simp[ev_c,ev_put,t10]<;>rfl),(by simp[ev_c,ev_put,t24]<;>rfl),(by simp[ev_c,ev_put,t232]<;>rfl),(by simp[ev_c,ev_put,t233]<;>rfl),(by simp[ev_c,ev_put]<;>rfl)⟩
 ·clear t7 t8 t9 t10 t11 t13 t15 t20
  rintro s ⟨tm,z,rfl,sz,t7,t9,t10,t24,t232,t233,t234⟩
  simp -implicitDefEqProofs(maxSteps:=999999)(disch:=first|with_reducible rfl|omega|(simp only[nA,nS,nD]<;>omega)|fail)only[go_sem,t7,t9,t10,t24,t232,t233,t234,Int.lt_irrefl,awake_eq]
  exact q _ _ rfl
end Go.Ab.Tryz
