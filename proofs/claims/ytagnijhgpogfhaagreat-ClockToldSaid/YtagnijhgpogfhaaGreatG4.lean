/- The law ClockTold. What the cases of the clocks say (plain): each is a run of every clock with the distances that follow; all truths are among them. The cases of the clocks are just all truths (plain). between: the least and the greatest difference of two events over all cases. Time, Between, Before, Wages. The least and the greatest differences over all cases (plain). What the law itself says a clock shows; whether a number is inside. Numbers that are wound off bytes: the contracts of Spool. A truth that is wound off numbers: Made. Slices that are made side by side. Made: the slices' invariants; an attic with its truth (plain). Made. Distances only sink (plain); wages. Truths that fit, as the code asks for them (plain). What is known more of an attic, and truths (plain). Lists without neighbours that are the same; to what a clock can have been set, what it gains, what it shows (plain). Contracts: fits, as the law has it; Fits. Equal, Eq, Dup of clocks, readings and gaps (printed by a program of ours). great, Own, same: attics as the law looks at them. theirs: an attic of the reference. The reference's Check of an attic: its parts. The reference's Check of an attic: the round over its clocks. Own slices of an attic; copied, Read, Know. copied, checked, Read, Know. Contracts of the generic functions on integers. Contract: Fits. Contract: Some. Contract: a truth near another one. What is told of times, and one clock more that is right (plain). -/
import Derived.Test.YtagnijhgpogfhaaGreatG2
import Derived.Test.YtagnijhgpogfhaaGreatAc7
import Derived.Test.YtagnijhgpogfhaaGreatAc5
set_option linter.unusedSimpArgs false
set_option linter.unusedVariables false
namespace Go.Ab.Tryz
open Go.Proofs
def RdOk (a:At)(cnt:Nat→Bool)(k:Int)(x:Int × Int)(y:Nat→Int):Prop:=
 ∀(j:Nat) (r:Rd),a.rds[j]? =some r→r.ck=k→cnt j=true→(whn x.1 x.2 r.sh (a.mins.toNat+1)).1≤y r.ev.toNat-y 4∧y r.ev.toNat-y 4≤(whn x.1 x.2 r.sh (a.mins.toNat+1)).2
theorem Sol_rdL {L:List Int}(hL:L.length=25){e:Nat}(he:e<5){s:Int × Int}{y:Nat→Int}:Sol y (rdL L e s)↔Sol y L∧s.1≤y e-y 4∧y e-y 4≤s.2:=by
 rw[rdL,Sol_low (by rw[low_len];exact hL) he (by decide),Sol_low hL (by decide) he]
 constructor
 ·rintro⟨⟨h1,h2⟩,h3⟩;exact⟨h1,by omega,by omega⟩
 ·rintro⟨h1,h2,h3⟩;exact⟨⟨h1,by omega⟩,by omega⟩
theorem Sol_gapL {a:At}(r:Right a){L:List Int}(hL:L.length=25){g:Gp}(hg:g∈a.gps){y:Nat→Int}:Sol y (gapL L g)↔Sol y L∧g.lo≤y g.to.toNat-y g.fr.toNat∧y g.to.toNat-y g.fr.toNat≤g.hi:=by
 obtain⟨f,t,e1,e2,hf,ht,_⟩:=r.gap hg
 rw[gapL,e1,e2,Int.toNat_natCast,Int.toNat_natCast,Sol_low (by rw[low_len];exact hL) (by omega) (by omega),Sol_low hL (by omega) (by omega)]
 constructor
 ·rintro⟨⟨h1,h2⟩,h3⟩;exact⟨h1,by omega,by omega⟩
 ·rintro⟨h1,h2,h3⟩;exact⟨⟨h1,by omega⟩,by omega⟩
theorem Sol_gaps {a:At}(r:Right a){y:Nat→Int}:∀{l:List Gp} {L:List Int},(∀g∈l,g∈a.gps)→L.length=25→(Sol y (l.foldl gapL L)↔Sol y L∧∀g∈l,g.lo≤y g.to.toNat-y g.fr.toNat∧y g.to.toNat-y g.fr.toNat≤g.hi)
 |[],L,_,_=>⟨fun h=>⟨h,fun g hg=>absurd hg List.not_mem_nil⟩,fun h=>h.1⟩
 |g::l,L,hl,hL=>by
  have hg:=hl g (List.mem_cons_self ..)
  rw[List.foldl_cons,Sol_gaps r (fun x hx=>hl x (List.mem_cons_of_mem _ hx)) (by rw[gapL,low_len,low_len];exact hL),Sol_gapL r hL hg,List.forall_mem_cons,and_assoc]
theorem Sol_free {a:At}(r:Right a){y:Nat→Int}(hy:y 4=0):Sol y (freeL a)↔(∀e,e<4→0≤y e∧y e≤a.mins)∧∀g∈a.gps,g.lo≤y g.to.toNat-y g.fr.toNat∧y g.to.toNat-y g.fr.toNat≤g.hi:=by
 rw[freeL,Sol_gaps r (L:=bsL a.mins) (fun g hg=>hg) (bsU_len _ _ _),Sol_bs hy]
 constructor
 ·rintro⟨⟨h1,_,_⟩,h2⟩;exact⟨h1,h2⟩
 ·rintro⟨h1,h2⟩;exact⟨⟨h1,fun a b ha hb _=>by have:=h1 a ha;have:=h1 b hb;omega,.inr trivial⟩,h2⟩
theorem readsL_spec {a:At}(r:Right a){cnt:Nat→Bool}{k:Int}{x:Int × Int}{y:Nat→Int}:∀{l:List Rd} {i:Nat} {L:List Int},(∀r∈l,r∈a.rds)→L.length=25→
  ((readsL a cnt k x l i L).2=true→(Sol y (readsL a cnt k x l i L).1↔Sol y L∧∀(j:Nat) (r:Rd),l[j]? =some r→r.ck=k→cnt (i+j)=true→(whn x.1 x.2 r.sh (a.mins.toNat+1)).1≤y r.ev.toNat-y 4∧y r.ev.toNat-y 4≤(whn x.1 x.2 r.sh (a.mins.toNat+1)).2))∧
  ((readsL a cnt k x l i L).2=false→¬∀(j:Nat) (r:Rd),l[j]? =some r→r.ck=k→cnt (i+j)=true→(whn x.1 x.2 r.sh (a.mins.toNat+1)).1≤y r.ev.toNat-y 4∧y r.ev.toNat-y 4≤(whn x.1 x.2 r.sh (a.mins.toNat+1)).2)
 |[],i,L,_,_=>⟨fun _=>⟨fun h=>⟨h,fun j r hr=>by simp at hr⟩,fun h=>h.1⟩,fun h=>by cases h⟩
 |rd::l,i,L,hl,hL=>by
  have hrd:=hl rd (List.mem_cons_self ..)
  obtain⟨yk,ye,ek,ee,hyk,hye,_⟩:=r.rd hrd
  have hl':=fun x hx=>hl x (List.mem_cons_of_mem _ hx)
  have sh:∀{X:Rd→Prop},(∀(j:Nat) (r:Rd),(rd::l)[j]? =some r→r.ck=k→cnt (i+j)=true→X r)↔(rd.ck=k→cnt i=true→X rd)∧∀(j:Nat) (r:Rd),l[j]? =some r→r.ck=k→cnt (i+1+j)=true→X r:=fun{X}=>by
   constructor
   ·intro h;exact⟨h 0 rd rfl,fun j r hr h1 h2=>h (j+1) r hr h1 (by rw[show i+(j+1)=i+1+j by omega];exact h2)⟩
   ·rintro⟨h1,h2⟩ j r hr h3 h4
    cases j with
    |zero=>cases hr;exact h1 h3 h4
    |succ j=>exact h2 j r hr h3 (by rw[show i+1+j=i+(j+1) by omega];exact h4)
  rw[sh (X:=fun r=>(whn x.1 x.2 r.sh (a.mins.toNat+1)).1≤y r.ev.toNat-y 4∧y r.ev.toNat-y 4≤(whn x.1 x.2 r.sh (a.mins.toNat+1)).2)]
  by_cases h1:rd.ck≠k∨cnt i=false
  ·rw[readsL,if_pos h1]
   have ih:=readsL_spec r (cnt:=cnt) (k:=k) (x:=x) (y:=y) (l:=l) (i:=i+1) (L:=L) hl' hL
   have hv:∀{P:Prop},rd.ck=k→cnt i=true→P:=fun{P} a b=>by
    rcases h1 with h1|h1
    ·exact absurd a h1
    ·rw[b] at h1;cases h1
   refine⟨fun ht=>(ih.1 ht).trans ⟨fun h=>⟨h.1,fun a b=>hv a b,h.2⟩,fun h=>⟨h.1,h.2.2⟩⟩,fun ht h=>ih.2 ht h.2⟩
  ·have h1':rd.ck=k∧cnt i=true:=by
    rcases Classical.em (rd.ck=k) with h|h
    ·refine⟨h,?_⟩
     cases hc:cnt i with
     |true=>rfl
     |false=>exact absurd (.inr hc) h1
    ·exact absurd (.inl h) h1
   rw[readsL,if_neg h1]
   by_cases h2:(whn x.1 x.2 rd.sh (a.mins.toNat+1)).2<(whn x.1 x.2 rd.sh (a.mins.toNat+1)).1
   ·rw[if_pos h2]
    exact⟨fun h=>by(cases h),fun _ h=>by have:=h.1 h1'.1 h1'.2;omega⟩
   ·rw[if_neg h2]
    have hre:rd.ev.toNat<5:=by omega
    have ih:=readsL_spec r (cnt:=cnt) (k:=k) (x:=x) (y:=y) (l:=l) (i:=i+1) (L:=rdL L rd.ev.toNat (whn x.1 x.2 rd.sh (a.mins.toNat+1))) hl' (by rw[rdL,low_len,low_len];exact hL)
    refine⟨fun ht=>(ih.1 ht).trans ?_,fun ht h=>ih.2 ht h.2⟩
    rw[Sol_rdL hL hre]
    exact⟨fun h=>⟨h.1.1,fun _ _=>h.1.2,h.2⟩,fun h=>⟨⟨h.1,h.2.1 h1'.1 h1'.2⟩,h.2.2⟩⟩
theorem readL_spec {a:At}(r:Right a){cnt:Nat→Bool}{k:Int}{x:Int × Int}{L:List Int}(hL:In5 240 L):
  ((readL a cnt k x L).2=true→Tri (readL a cnt k x L).1∧In5 240 (readL a cnt k x L).1∧∀y,Sol y (readL a cnt k x L).1↔Sol y L∧RdOk a cnt k x y)∧
  ((readL a cnt k x L).2=false→∀y,Sol y L→¬RdOk a cnt k x y):=by
 have hin:=readsL_in (cnt:=cnt) (k:=k) (x:=x) (i:=0) r (fun y (hy:y∈a.rds)=>hy) hL
 have hs:=fun y=>readsL_spec r (cnt:=cnt) (k:=k) (x:=x) (y:=y) (l:=a.rds) (i:=0) (L:=L) (fun r hr=>hr) hL.len
 simp only[Nat.zero_add] at hs
 unfold readL
 by_cases h1:(readsL a cnt k x a.rds 0 L).2=true
 ·rw[if_pos h1]
  have hc:=clos_spec (by decide) (by decide) hin
  refine⟨fun ht=>?_,fun ht y hy hr=>?_⟩
  ·obtain⟨c1,c2,_,c4⟩:=hc.1 ht
   exact⟨c1,c2,fun y=>(c4 y).symm.trans ((hs y).1 h1)⟩
  ·exact hc.2 ht y (((hs y).1 h1).2 ⟨hy,hr⟩)
 ·rw[if_neg h1]
  exact⟨fun h=>by(cases h),fun _ y _ hr=>(hs y).2 (by simpa using h1) hr⟩
end Go.Ab.Tryz
namespace Go.Ab.Tryz
open Go.Proofs
theorem moreL_sound {a:At}(r:Right a){cnt:Nat→Bool}:∀{n:Nat} {runs:Runs} {L:List Int} {t:Runs × List Int},runs.length+n=a.cks.length→In5 240 L→Tri L→t∈moreL a cnt n runs L→
  Tri t.2∧∃suf:Runs,t.1=runs++suf∧suf.length=n∧(∀(j:Nat) s,suf[j]? =some s→RunOf a (runs.length+j) s)∧∀y,Sol y t.2↔Sol y L∧∀(j:Nat) s,suf[j]? =some s→RdOk a cnt ((runs.length+j:Nat):Int) s y
 |0,runs,L,t,hl,hL,tL,ht=>by
  rw[moreL,List.mem_singleton] at ht;subst ht
  exact⟨tL,[],by simp,rfl,fun j s h=>by simp at h,fun y=>⟨fun h=>⟨h,fun j s h=>by simp at h⟩,fun h=>h.1⟩⟩
 |n+1,runs,L,t,hl,hL,tL,ht=>by
  have hlt:runs.length<a.cks.length:=by omega
  have hck:a.cks[runs.length]? =some a.cks[runs.length]:=List.getElem?_eq_getElem hlt
  obtain⟨c,hc⟩:∃c,a.cks[runs.length]=c:=⟨_,rfl⟩
  rw[hc] at hck
  unfold moreL at ht
  rw[hck] at ht
  simp only[List.mem_flatMap,List.mem_range] at ht
  obtain⟨u,hu,v,hv,ht⟩:=ht
  have n1:(c.ns:Int)=c.sh-c.sl+1:=by unfold Ck.ns at hu⊢;omega
  have n2:(c.ng:Int)=c.gh-c.gl+1:=by unfold Ck.ng at hv⊢;omega
  split at ht
  ·rename_i hk
   obtain⟨k1,k2,k3⟩:=(readL_spec r hL).1 hk
   obtain⟨i1,suf,i2,i3,i4,i5⟩:=moreL_sound r (by rw[List.length_append,List.length_singleton];omega) k2 k1 ht
   rw[List.length_append,List.length_singleton] at i4 i5
   have ix:∀j,runs.length+1+j=runs.length+(j+1):=fun j=>by omega
   refine⟨i1,(c.sl+(u:Int),c.gl+(v:Int))::suf,by rw[i2,List.append_assoc];rfl,by rw[List.length_cons,i3],fun j s hs=>?_,fun y=>?_⟩
   ·cases j with
    |zero=>cases hs;exact RunOf.mk' hck (by omega) (by omega) (by omega) (by omega)
    |succ j=>rw[←ix];exact i4 j s hs
   ·rw[i5 y,k3 y]
    constructor
    ·rintro⟨⟨h1,h2⟩,h3⟩
     refine⟨h1,fun j s hs=>?_⟩
     cases j with
     |zero=>cases hs;exact h2
     |succ j=>rw[←ix];exact h3 j s hs
    ·rintro⟨h1,h2⟩
     exact⟨⟨h1,h2 0 _ rfl⟩,fun j s hs=>by rw[ix];exact h2 (j+1) s hs⟩
  ·cases ht
theorem moreL_full {a:At}(r:Right a){cnt:Nat→Bool}{y:Nat→Int}:∀{n:Nat} {runs suf:Runs} {L:List Int},runs.length+n=a.cks.length→In5 240 L→suf.length=n→(∀(j:Nat) s,suf[j]? =some s→RunOf a (runs.length+j) s)→Sol y L→
  (∀(j:Nat) s,suf[j]? =some s→RdOk a cnt ((runs.length+j:Nat):Int) s y)→∃L',(runs++suf,L')∈moreL a cnt n runs L
 |0,runs,suf,L,hl,hL,hs,_,_,_=>by
  rw[List.length_eq_zero_iff.1 hs,List.append_nil]
  exact⟨L,by rw[moreL];exact List.mem_singleton.2 rfl⟩
 |n+1,runs,[],L,hl,hL,hs,_,_,_=>by simp at hs
 |n+1,runs,s::suf,L,hl,hL,hs,hr,hy,hd=>by
  obtain⟨c,hck,h1,h2,h3,h4⟩:=hr 0 s rfl
  have hd0:=hd 0 s rfl
  rw[Nat.add_zero] at hck hd0
  have n1:(c.ns:Int)=c.sh-c.sl+1:=by unfold Ck.ns;omega
  have n2:(c.ng:Int)=c.gh-c.gl+1:=by unfold Ck.ng;omega
  have es:s=(c.sl+((s.1-c.sl).toNat:Int),c.gl+((s.2-c.gl).toNat:Int)):=by
   obtain⟨s1,s2⟩:=s
   simp only at h1 h2 h3 h4⊢
   rw[Int.toNat_of_nonneg (by omega),Int.toNat_of_nonneg (by omega)]
   congr 1<;>omega
  have hsp:=readL_spec (cnt:=cnt) (k:=(runs.length:Int)) (x:=s) r hL
  have hk:(readL a cnt runs.length s L).2=true:=by
   cases hh:(readL a cnt runs.length s L).2 with
   |true=>rfl
   |false=>exact absurd hd0 (hsp.2 hh y hy)
  obtain⟨k1,k2,k3⟩:=hsp.1 hk
  have ix:∀j,runs.length+1+j=runs.length+(j+1):=fun j=>by omega
  obtain⟨L',hL'⟩:=moreL_full r (runs:=runs++[s]) (suf:=suf) (L:=(readL a cnt runs.length s L).1) (n:=n) (by rw[List.length_append,List.length_singleton];omega) k2 (by simpa using hs)
   (fun j x hx=>by rw[List.length_append,List.length_singleton,ix];exact hr (j+1) x hx) ((k3 y).2 ⟨hy,hd0⟩) (fun j x hx=>by rw[List.length_append,List.length_singleton,ix];exact hd (j+1) x hx)
  refine⟨L',?_⟩
  rw[List.append_assoc] at hL'
  unfold moreL
  rw[hck]
  simp only[List.mem_flatMap,List.mem_range]
  refine⟨(s.1-c.sl).toNat,by omega,(s.2-c.gl).toNat,by omega,?_⟩
  rw[←es,if_pos hk]
  exact hL'
structure Tru (a:At)(cnt:Nat→Bool)(runs:Runs)(y:Nat→Int):Prop where
 len:runs.length=a.cks.length
 run:∀(k:Nat) s,runs[k]? =some s→RunOf a k s
 beg:y 4=0
 mins:∀e,e<4→0≤y e∧y e≤a.mins
 gaps:∀g∈a.gps,g.lo≤y g.to.toNat-y g.fr.toNat∧y g.to.toNat-y g.fr.toNat≤g.hi
 rds:∀(j:Nat) (r:Rd),a.rds[j]? =some r→cnt j=true→∀s,runs[r.ck.toNat]? =some s→shw s.1 s.2 (y r.ev.toNat)=r.sh
theorem Tru.ok {a:At}(r:Right a){cnt:Nat→Bool}{runs:Runs}{y:Nat→Int}(hl:runs.length=a.cks.length)(hr:∀(k:Nat) s,runs[k]? =some s→RunOf a k s)(hy:y 4=0)(hm:∀e,e<4→0≤y e∧y e≤a.mins):
  (∀(j:Nat) (rd:Rd),a.rds[j]? =some rd→cnt j=true→∀s,runs[rd.ck.toNat]? =some s→shw s.1 s.2 (y rd.ev.toNat)=rd.sh)↔∀(k:Nat) s,runs[k]? =some s→RdOk a cnt (k:Int) s y:=by
 have key:∀(j:Nat) (rd:Rd),a.rds[j]? =some rd→∀s,runs[rd.ck.toNat]? =some s→(shw s.1 s.2 (y rd.ev.toNat)=rd.sh↔(whn s.1 s.2 rd.sh (a.mins.toNat+1)).1≤y rd.ev.toNat-y 4∧y rd.ev.toNat-y 4≤(whn s.1 s.2 rd.sh (a.mins.toNat+1)).2):=fun j rd hrd s hs=>by
  obtain⟨yk,ye,ek,ee,hyk,hye,_⟩:=r.rd (List.mem_of_getElem? hrd)
  have h1:=hm rd.ev.toNat (by omega)
  obtain⟨_,_,_,_⟩:=(hr _ s hs).run r
  have h3:=r.mins
  rw[hy,show y rd.ev.toNat-0=y rd.ev.toNat by omega]
  exact whn_iff (by omega) h1.1 (by omega)
 constructor
 ·intro h k s hs j rd hrd hk hc
  have hs':runs[rd.ck.toNat]? =some s:=by rw[hk,Int.toNat_natCast];exact hs
  exact(key j rd hrd s hs').1 (h j rd hrd hc s hs')
 ·intro h j rd hrd hc s hs
  obtain⟨yk,ye,ek,ee,hyk,hye,_⟩:=r.rd (List.mem_of_getElem? hrd)
  refine(key j rd hrd s hs).2 (h rd.ck.toNat s hs j rd hrd ?_ hc)
  rw[ek,Int.toNat_natCast]
theorem cases_sound {a:At}(r:Right a){cnt:Nat→Bool}{t:Runs × List Int}(ht:t∈casesL a cnt):Tri t.2∧t.1.length=a.cks.length∧(∀(k:Nat) s,t.1[k]? =some s→RunOf a k s)∧∀y,y 4=0→(Sol y t.2↔Tru a cnt t.1 y):=by
 unfold casesL at ht
 split at ht
 ·rename_i hc
  obtain⟨c1,c2,_,c4⟩:=(clos_spec (by decide) (by decide) (freeL_in r)).1 hc
  obtain⟨h1,suf,h2,h3,h4,h5⟩:=moreL_sound r (by simp) c2 c1 ht
  rw[List.nil_append] at h2
  subst h2
  simp only[List.length_nil,Nat.zero_add] at h4 h5
  refine⟨h1,h3,h4,fun y hy=>?_⟩
  rw[h5 y,←c4 y]
  constructor
  ·rintro⟨q1,q2⟩
   have q3:=(Sol_free r hy).1 q1
   exact⟨h3,h4,hy,q3.1,q3.2,(Tru.ok r h3 h4 hy q3.1).2 q2⟩
  ·intro q
   exact⟨(Sol_free r hy).2 ⟨q.mins,q.gaps⟩,(Tru.ok r h3 h4 hy q.mins).1 q.rds⟩
 ·cases ht
theorem cases_full {a:At}(r:Right a){cnt:Nat→Bool}{runs:Runs}{y:Nat→Int}(h:Tru a cnt runs y):∃L,(runs,L)∈casesL a cnt:=by
 have hf:=(Sol_free r h.beg).2 ⟨h.mins,h.gaps⟩
 have hcs:=clos_spec (by decide) (by decide) (freeL_in r)
 have hc:(clos (freeL a)).2=true:=by
  cases hh:(clos (freeL a)).2 with
  |true=>rfl
  |false=>exact absurd hf (hcs.2 hh y)
 obtain⟨c1,c2,_,c4⟩:=hcs.1 hc
 have:=moreL_full r (cnt:=cnt) (y:=y) (n:=a.cks.length) (runs:=[]) (suf:=runs) (by simp) c2 h.len (fun j s hs=>by simpa using h.run j s hs) ((c4 y).1 hf) (fun j s hs=>by simpa using(Tru.ok r h.len h.run h.beg h.mins).1 h.rds j s hs)
 unfold casesL
 rw[if_pos hc]
 simpa using this
end Go.Ab.Tryz
namespace Go.Ab.Tryz
open Go.Proofs
def betw (f t:Nat):List (List Int)→Int × Int
 |[]=>(0,0)
 |L::l=>(L::l).foldl (fun s M=>(min s.1 (-(mg M t f)),max s.2 (mg M f t))) (-(mg L t f),mg L f t)
theorem row_at {p:Fd}(lp:p.2.2.length=25){f t:Nat}(hf:f<5)(ht:t<5):nth (1+f*5+t*1) (rowF p)=some (.int .i64 (mg p.2.2 f t)):=by
 rw[show 1+f*5+t*1=(f*5+t*1)+1 by omega]
 exact nth_mg lp hf ht
set_option maxHeartbeats 4000000 in
theorem between_ev {h:H}(hw:h.wf){y:V}{Ps:List Fd}(x:SlAt h y 26 (Ps.map rowF))(hl:∀p∈Ps,In5 240 p.2.2)(hone:∀F,(∃p∈Ps,rowF p=F)→allOne F=true)(hne:Ps≠[]){f t:Nat}(hf:f<5)(ht:t<5)(Q:V→H→Prop)
  (q:∀h',h.Sub h'→Q (spV (betw f t (Ps.map fun p=>p.2.2))) h'):Ev fnG fastA (.fn 77 [] []) [y,.int .i64 (f:Int),.int .i64 (t:Int)] h Q:=by
 have hP:0<Ps.length:=List.length_pos_iff.2 hne
 have hlen:=x.lenE
 have hbd:=x.boundE
 obtain⟨p0,Ps',hP0⟩:∃p0 Ps',Ps=p0::Ps':=by cases Ps with
  |nil=>exact absurd rfl hne
  |cons p0 Ps'=>exact⟨p0,Ps',rfl⟩
 obtain⟨b,o,cc,cs,e,hc,hq,hg,hn,hn0⟩:=x.at hP
 have hp0:Ps[0]=p0:=by simp[hP0]
 rw[hp0] at hn
 have in0:=hl p0 (by rw[hP0];exact List.mem_cons_self ..)
 have row0:∀f t:Nat,f<5→t<5→nth (o+1+f*5+t*1) cs=some (.int .i64 (mg p0.2.2 f t)):=fun f t hf ht=>by
  rw[show o+1+f*5+t*1=o+0*26+(1+f*5+t*1) by omega,hn _ (by omega)]
  rw[←nth_eq];exact row_at in0.len hf ht
 subst e
 have s1:h.Sub (h.add (.cells .rw [.int .i64 0,.int .i64 0])):=(H.Sub.refl hw).add _
 have b0:=in0.lo t f ht hf
 have b1:=in0.hi t f ht hf
 have b2:=in0.lo f t hf ht
 have b3:=in0.hi f t hf ht
 have w0:wr .i64 (0-mg p0.2.2 t f)= -(mg p0.2.2 t f):=by rw[wr_in (by omega) (by omega)];omega
 have s2:h.Sub ((h.add (.cells .rw [.int .i64 0,.int .i64 0])).add (.cells .rw [.int .i64 0,.int .i64 0])):=s1.add _
 obtain⟨bw,hbw⟩:∃bw:Nat→Int × Int,∀i,bw i=((Ps.map fun p=>p.2.2).take i).foldl (fun s M=>(min s.1 (-(mg M t f)),max s.2 (mg M f t))) (-(mg p0.2.2 t f),mg p0.2.2 f t):=⟨_,fun _=>rfl⟩
 have hb0:bw 0=(-(mg p0.2.2 t f),mg p0.2.2 f t):=by rw[hbw];rfl
 have hbn:bw Ps.length=betw f t (Ps.map fun p=>p.2.2):=by
  rw[hbw,List.take_of_length_le (by rw[List.length_map];exact Nat.le_refl _),hP0];rfl
 refine Ev_body (fd:=c77) rfl rfl rfl ?_
 simp -implicitDefEqProofs(maxSteps:=999999)(disch:=first|with_reducible rfl|omega|(simp only[nA,nS,nD]<;>omega)|fail)only[c77,go_sem,hq (nat_num 0),s1.cells hc,s2.cells hc,iaa5 5 _ _ hf,iaa5 5 _ _ ht,iaa5 1 _ _ hf,iaa5 1 _ _ ht,row0 f t hf ht,row0 t f ht hf,w0,hlen]
 refine W_count Ps.length (fun i s=>∃tm h',s=⟨tm,h',[]⟩∧h.Sub h'∧h.next+1<h'.next∧h'.get h.next=some (.cells .rw [.int .i64 0,.int .i64 0])∧h'.get (h.next+1)=some (.cells .rw [.int .i64 (bw i).1,.int .i64 (bw i).2])∧
   (Opd.t 1).ev tm=.int .i64 (f:Int)∧(Opd.t 2).ev tm=.int .i64 (t:Int)∧(Opd.t 6).ev tm=.ptr h.next 0∧(Opd.t 7).ev tm=.ptr (h.next+1) 0∧(Opd.t 28).ev tm=.sl b o Ps.length cc∧(Opd.t 29).ev tm=.int .i64 (Ps.length:Int)∧(Opd.t 30).ev tm=.int .i64 (i:Int)) ?_ ?_ (i:=0) (Nat.zero_le _)
  ⟨_,_,rfl,(by repeat(first|assumption|exact H.Sub.refl (by assumption)|refine H.Sub.add ?_ _|refine H.Sub.set ?_ (by first|omega|(simp only[H.next_add,H.next_set,H.next_del]<;>omega)) (by first|omega|(simp only[H.next_add,H.next_set,H.next_del]<;>omega)) (by assumption) _)),by simp only[H.next_add];omega,by simp -implicitDefEqProofs(maxSteps:=999999)(disch:=first|with_reducible rfl|omega|(simp only[nA,nS,nD]<;>omega)|fail)only[go_sem],by rw[hb0];simp -implicitDefEqProofs(maxSteps:=999999)(disch:=first|with_reducible rfl|omega|(simp only[nA,nS,nD]<;>omega)|fail)only[go_sem],(by simp[ev_c,ev_put]<;>rfl),(by simp[ev_c,ev_put]<;>rfl),(by simp[ev_c,ev_put]<;>rfl),(by simp[ev_c,ev_put]<;>rfl),(by simp[ev_c,ev_put]<;>rfl),(by simp[ev_c,ev_put]<;>rfl),(by simp[ev_c,ev_put]<;>rfl)⟩
 ·rintro i s hi ⟨tm,h1,rfl,sh,nx,g6,g7,e1,e2,e6,e7,e28,e29,e30⟩
  have hi':(i:Int)<(Ps.length:Int):=by omega
  have hw1:=sh.wf
  obtain⟨b',o',cc',cs',e',hc',hq',hg',_,_⟩:=(x.mono sh).at hi
  cases e'
  obtain⟨p,hp⟩:∃p,Ps[i]=p:=⟨_,rfl⟩
  rw[hp] at hg'
  have hmem:p∈Ps:=by rw[←hp];exact List.getElem_mem hi
  have inp:=hl p hmem
  obtain⟨F,hF⟩:∃F,rowF p=F:=⟨_,rfl⟩
  have lF:F.length=26:=by rw[←hF];simp[rowF,inp.len]
  have oF:allOne F=true:=hone F ⟨p,hmem,hF⟩
  have nF:F≠[]:=by intro e0;rw[e0] at lF;cases lF
  have r1:nth (1+t*5+f*1) F=some (.int .i64 (mg p.2.2 t f)):=by rw[←hF];exact row_at inp.len ht hf
  have r2:nth (1+f*5+t*1) F=some (.int .i64 (mg p.2.2 f t)):=by rw[←hF];exact row_at inp.len hf ht
  rw[hF] at hg'
  have lnF:lenN F=26:=by rw[lenN_eq,lF]
  have pF:(h1.add (.cells .rw [.nils,.int .i64 0,.int .i64 0,.int .i64 0,.int .i64 0,.int .i64 0,.int .i64 0,.int .i64 0,.int .i64 0,.int .i64 0,.int .i64 0,.int .i64 0,.int .i64 0,.int .i64 0,.int .i64 0,.int .i64 0,.int .i64 0,.int .i64 0,.int .i64 0,.int .i64 0,.int .i64 0,.int .i64 0,.int .i64 0,.int .i64 0,.int .i64 0,.int .i64 0])).put h1.next 0 F=some ((h1.add (.cells .rw [.nils,.int .i64 0,.int .i64 0,.int .i64 0,.int .i64 0,.int .i64 0,.int .i64 0,.int .i64 0,.int .i64 0,.int .i64 0,.int .i64 0,.int .i64 0,.int .i64 0,.int .i64 0,.int .i64 0,.int .i64 0,.int .i64 0,.int .i64 0,.int .i64 0,.int .i64 0,.int .i64 0,.int .i64 0,.int .i64 0,.int .i64 0,.int .i64 0,.int .i64 0])).set h1.next (.cells .rw F)):=put_full (get_add_new rfl) (by rw[lF];rfl) nF oF
  have sA:=(H.Sub.refl hw1).add (.cells .rw F)
  have gA:(h1.add (.cells .rw F)).get h1.next=some (.cells .rw F):=get_add_new rfl
  have v0:=inp.lo t f ht hf
  have v1:=inp.hi t f ht hf
  have w1:wr .i64 (0-mg p.2.2 t f)= -(mg p.2.2 t f):=by rw[wr_in (by omega) (by omega)];omega
  have hstep:bw (i+1)=(min (bw i).1 (-(mg p.2.2 t f)),max (bw i).2 (mg p.2.2 f t)):=by
   rw[hbw,hbw,List.take_add_one,List.getElem?_map,List.getElem?_eq_getElem hi,hp,Option.map_some,Option.toList_some,List.foldl_append];rfl
  obtain⟨hA,hhA⟩:∃hA,h1.add (.cells .rw F)=hA:=⟨_,rfl⟩
  rw[hhA] at sA gA
  simp -implicitDefEqProofs(maxSteps:=999999)(disch:=first|with_reducible rfl|omega|(simp only[nA,nS,nD]<;>omega)|fail)only[go_sem,e1,e2,e6,e7,e28,e29,e30,hi',hq' (nat_cst i),hc',hg',lnF,pF,hhA,cells_of (sA.get g7),cells_of gA,iaa5 5 _ _ hf,iaa5 5 _ _ ht,iaa5 1 _ _ hf,iaa5 1 _ _ ht,r1,r2,w1]
  have sB:=(H.Sub.refl sA.wf).add (.cells .rw [.int .i64 (-mg p.2.2 t f)])
  refine least1_ev sA.wf _ _ _ fun h2 s2'=>?_
  have s12:=sA.trans s2'
  have n2:=s12.next
  simp -implicitDefEqProofs(maxSteps:=999999)(disch:=first|with_reducible rfl|omega|(simp only[nA,nS,nD]<;>omega)|fail)only[go_sem,e1,e2,e6,e7,e28,e29,e30,cells_of (sA.get g7),cells_of gA,cells_of (sB.get (sA.get g7)),cells_of (sB.get gA),cells_of (s12.get g7),cells_of (s2'.get gA),s12.get g7,iaa5 5 _ _ hf,iaa5 5 _ _ ht,iaa5 1 _ _ hf,iaa5 1 _ _ ht,r1,r2,w1,wr_succ]
  refine⟨_,_,rfl,(sh.trans s12).set (by omega) (by omega) hw _,by rw[H.next_set];omega,by rw[get_set_other (by omega)];exact s12.get g6,by rw[get_set_same rfl,hstep],(by simp[ev_c,ev_put,e1]<;>rfl),(by simp[ev_c,ev_put,e2]<;>rfl),(by simp[ev_c,ev_put,e6]<;>rfl),(by simp[ev_c,ev_put,e7]<;>rfl),(by simp[ev_c,ev_put,e28]<;>rfl),(by simp[ev_c,ev_put,e29]<;>rfl),(by simp[ev_c,ev_put]<;>rfl)⟩
 ·rintro s ⟨tm,h1,rfl,sh,nx,g6,g7,e1,e2,e6,e7,e28,e29,e30⟩
  have hi':¬((Ps.length:Int)<(Ps.length:Int)):=by omega
  simp -implicitDefEqProofs(maxSteps:=999999)(disch:=first|with_reducible rfl|omega|(simp only[nA,nS,nD]<;>omega)|fail)only[go_sem,e1,e2,e6,e7,e28,e29,e30,hi',cells_of g6,cells_of g7,g6,g7]
  rw[hbn]
  exact q _ (sh.set (Nat.le_refl _) (by omega) hw _)
end Go.Ab.Tryz
namespace Go.Ab.Tryz
open Go.Proofs
abbrev allC (a:At):List (Runs × List Int):=casesL a (fun _=>true)
def evW (a:At)(n:Int):Bool:=inB n 0 (wr .i64 (a.evs-1))
theorem evW_right {a:At}(r:Right a)(n:Int):evW a n=a.evB n:=by
 have:=r.evs
 unfold evW At.evB
 rw[wr_in (by omega) (by omega)]
theorem event_any {h:H}(hw:h.wf){C R G:V}(a:At)(n:Int)(Q:V→H→Prop)(q:∀h',h.Sub h'→Q (.bool (evW a n)) h'):Ev fnG fastA (.fn 76 [] []) [.agg (atV a C R G),.int .i64 n] h Q:=by
 refine Ev_body (fd:=c76) rfl rfl rfl ?_
 have s:h.Sub (h.add (.cells .rw (atV a C R G))):=(by repeat(first|assumption|exact H.Sub.refl (by assumption)|refine H.Sub.add ?_ _|refine H.Sub.set ?_ (by first|omega|(simp only[H.next_add,H.next_set,H.next_del]<;>omega)) (by first|omega|(simp only[H.next_add,H.next_set,H.next_del]<;>omega)) (by assumption) _))
 simp -implicitDefEqProofs(maxSteps:=999999)(disch:=first|with_reducible rfl|omega|(simp only[nA,nS,nD]<;>omega)|fail)only[c76,go_sem,in_eq]
 exact q _ s
def errT (a:At)(bad:Bool):Int:=if checkA a≠0 then checkA a else if bad=true then 1 else if allC a=[] then 7 else 0
def timeR (a:At)(e:Int):(Int × Int) × Int:=if errT a (!a.evB e)≠0 then((0,0),errT a (!a.evB e)) else(betw 4 e.toNat ((allC a).map Prod.snd),0)
theorem errT_bad {a:At}{b b':Bool}(h:Right a→b=b'):errT a b=errT a b':=by
 unfold errT
 by_cases hc:checkA a=0
 ·rw[h (checkA_iff.1 hc)]
 ·rw[if_pos hc,if_pos hc]
theorem evB_nat {a:At}(r:Right a){n:Int}(h:a.evB n=true):∃k:Nat,n=k∧k<4:=by
 have:=r.evs
 simp only[At.evB,inB_iff] at h
 exact⟨n.toNat,by omega,by omega⟩
theorem told_ev2 {h:H}(hw:h.wf){a:At}{C R G:V}(x:AtAt h C R G a)(bad:Bool)(Q:V→H→Prop)
  (q1:∀h',h.Sub h'→errT a bad≠0→Q (.tup [.nilp,.nils,.int .i64 (errT a bad)]) h')
  (q2:∀h' v y Ps,h.Sub h'→SlAt h' y 26 (Ps.map rowF)→(∀p∈Ps,In5 240 p.2.2)→(∀F,(∃p∈Ps,rowF p=F)→allOne F=true)→Ps≠[]→Right a→bad=false→errT a bad=0→Ps.map Prod.snd=allC a→FsO h h' y Ps→Q (.tup [v,y,.int .i64 0]) h'):
  Ev fnG fastA (.fn 75 [] []) [.agg (atV a C R G),.bool bad] h Q:=by
 refine told_ev hw x bad _ (fun h' s he=>?_) (fun h' s r hb=>?_) (fun h' s r hb hn=>?_) (fun h' v y Ps f r hb e hn=>?_)
 ·have e1:errT a bad=checkA a:=if_pos he
  rw[←e1];exact q1 _ s (by rw[e1];exact he)
 ·have e1:errT a bad=1:=by unfold errT;rw[if_neg (by rw[checkA_iff.2 r];simp),if_pos hb]
  have:=q1 _ s (by rw[e1];decide)
  rwa[e1] at this
 ·have e1:errT a bad=7:=by unfold errT;rw[if_neg (by rw[checkA_iff.2 r];simp),if_neg (by rw[hb];simp),if_pos hn]
  have:=q1 _ s (by rw[e1];decide)
  rwa[e1] at this
 ·have hne:allC a≠[]:=fun hc=>hn (List.map_eq_nil_iff.1 (e.trans hc))
  have e1:errT a bad=0:=by unfold errT;rw[if_neg (by rw[checkA_iff.2 r];simp),if_neg (by rw[hb];simp),if_neg hne]
  have hPl:Ps.length≤15625:=by have:=casesL_len r (fun _=>true);rw[←e,List.length_map] at this;exact this
  refine q2 _ v y Ps f.o.1 (f.o.sl (by rw[List.length_map];omega)) (fun p hp=>casesL_in r p.2 (by rw[←e];exact List.mem_map_of_mem hp)) (fun F ⟨p,hp,hF⟩=>?_) hn r hb e1 e f
  rw[←hF,rowF,allOne_cons,(f.e p hp).one,allOne_iv];rfl
set_option maxHeartbeats 1000000 in
theorem time_ev {h:H}(hw:h.wf){a:At}{C R G:V}(x:AtAt h C R G a)(e:Int)(Q:V→H→Prop)
  (q:∀h',h.Sub h'→Q (.tup [spV (timeR a e).1,.int .i64 (timeR a e).2]) h'):Ev fnG fastA (.fn 18 [] []) [.agg (atV a C R G),.int .i64 e] h Q:=by
 have oC:=x.c.one;have oR:=x.r.one;have oG:=x.g.one
 have heq:errT a (!evW a e)=errT a (!a.evB e):=errT_bad fun r=>by rw[evW_right r]
 refine Ev_body (fd:=c18) rfl rfl rfl ?_
 simp -implicitDefEqProofs(maxSteps:=999999)(disch:=first|with_reducible rfl|omega|(simp only[nA,nS,nD]<;>omega)|fail)only[c18,go_sem]
 have s2:h.Sub ((h.add (.cells .rw (atV a C R G))).add (.cells .rw [.int .i64 0,.int .i64 0])):=(by repeat(first|assumption|exact H.Sub.refl (by assumption)|refine H.Sub.add ?_ _|refine H.Sub.set ?_ (by first|omega|(simp only[H.next_add,H.next_set,H.next_del]<;>omega)) (by first|omega|(simp only[H.next_add,H.next_set,H.next_del]<;>omega)) (by assumption) _))
 have ga:((h.add (.cells .rw (atV a C R G))).add (.cells .rw [.int .i64 0,.int .i64 0])).get h.next=some (.cells .rw (atV a C R G)):=by simp -implicitDefEqProofs(maxSteps:=999999)(disch:=first|with_reducible rfl|omega|(simp only[nA,nS,nD]<;>omega)|fail)only[go_sem]
 have g4:((h.add (.cells .rw (atV a C R G))).add (.cells .rw [.int .i64 0,.int .i64 0])).get (h.next+1)=some (.cells .rw [.int .i64 0,.int .i64 0]):=by simp -implicitDefEqProofs(maxSteps:=999999)(disch:=first|with_reducible rfl|omega|(simp only[nA,nS,nD]<;>omega)|fail)only[go_sem]
 have n2:((h.add (.cells .rw (atV a C R G))).add (.cells .rw [.int .i64 0,.int .i64 0])).next=h.next+2:=by simp only[H.next_add]
 generalize(h.add (.cells .rw (atV a C R G))).add (.cells .rw [.int .i64 0,.int .i64 0])=h2 at s2 ga g4 n2⊢
 refine event_any s2.wf a e _ fun h3 s3=>?_
 simp -implicitDefEqProofs(maxSteps:=999999)(disch:=first|with_reducible rfl|omega|(simp only[nA,nS,nD]<;>omega)|fail)only[go_sem,cells_of ga,cells_of (s3.get ga)]
 have d0:decide ((0:Int)≠0)=false:=rfl
 refine told_ev2 s3.wf (x.mono (s2.trans s3)) (!evW a e) _ (fun h4 s4 he=>?_) fun h4 v y Ps s4 hx hl ho hne r hb he e' _=>?_
 ·have sx:=s3.trans s4
  have l4:=sx.next
  simp -implicitDefEqProofs(maxSteps:=999999)(disch:=first|with_reducible rfl|omega|(simp only[nA,nS,nD]<;>omega)|fail)only[go_sem,cells_of ga,cells_of (s3.get ga),cells_of (sx.get ga),(decide_eq_true he:decide (errT a (!evW a e)≠0)=true),sx.get g4,get_set_same]
  rw[heq] at he⊢
  have:=q _ ((s2.trans sx).set (b:=h.next+1) (by omega) (by omega) hw (.cells .rw [.int .i64 0,.int .i64 0]))
  rwa[timeR,if_pos he] at this
 ·have sx:=s3.trans s4
  have l4:=sx.next
  have hev:a.evB e=true:=by rw[←evW_right r];simpa using hb
  obtain⟨k,rfl,hk⟩:=evB_nat r hev
  simp -implicitDefEqProofs(maxSteps:=999999)(disch:=first|with_reducible rfl|omega|(simp only[nA,nS,nD]<;>omega)|fail)only[go_sem,cells_of ga,cells_of (s3.get ga),cells_of (sx.get ga),d0]
  refine between_ev s4.wf hx hl ho hne (f:=4) (t:=k) (by decide) (by omega) _ fun h5 s5=>?_
  have sy:=sx.trans s5
  have l5:=sy.next
  simp -implicitDefEqProofs(maxSteps:=999999)(disch:=first|with_reducible rfl|omega|(simp only[nA,nS,nD]<;>omega)|fail)only[go_sem,sy.get g4,get_set_same]
  have:=q _ ((s2.trans sy).set (b:=h.next+1) (by omega) (by omega) hw (.cells .rw [.int .i64 (timeR a k).1.1,.int .i64 (timeR a k).1.2]))
  rw[heq] at he
  have ht:timeR a k=(betw 4 k (Ps.map fun p=>p.2.2),0):=by
   rw[timeR,if_neg (by rw[he];simp),Int.toNat_natCast,←e',List.map_map];rfl
  rw[ht] at this
  exact this
theorem fold_bd {f t:Nat}(hf:f<5)(ht:t<5):∀{l:List (List Int)} {s:Int × Int},(∀L∈l,In5 240 L)→ -240≤s.1∧s.1≤240∧ -240≤s.2∧s.2≤240→
  -240≤(l.foldl (fun s M=>(min s.1 (-(mg M t f)),max s.2 (mg M f t))) s).1∧(l.foldl (fun s M=>(min s.1 (-(mg M t f)),max s.2 (mg M f t))) s).1≤240∧ -240≤(l.foldl (fun s M=>(min s.1 (-(mg M t f)),max s.2 (mg M f t))) s).2∧(l.foldl (fun s M=>(min s.1 (-(mg M t f)),max s.2 (mg M f t))) s).2≤240
 |[],s,_,h=>h
 |L::l,s,hl,h=>by
  have hL:=hl L (List.mem_cons_self ..)
  have h1:=hL.lo t f ht hf;have h2:=hL.hi t f ht hf;have h3:=hL.lo f t hf ht;have h4:=hL.hi f t hf ht
  rw[List.foldl_cons]
  exact fold_bd hf ht (fun M hM=>hl M (List.mem_cons_of_mem _ hM)) (by show _≤min s.1 (-(mg L t f))∧min s.1 (-(mg L t f))≤_∧_≤max s.2 (mg L f t)∧max s.2 (mg L f t)≤_;omega)
theorem betw_bd {f t:Nat}(hf:f<5)(ht:t<5){l:List (List Int)}(hl:∀L∈l,In5 240 L): -240≤(betw f t l).1∧(betw f t l).1≤240∧ -240≤(betw f t l).2∧(betw f t l).2≤240:=by
 cases l with
 |nil=>show(-240:Int)≤0∧(0:Int)≤240∧(-240:Int)≤0∧(0:Int)≤240;omega
 |cons L l=>
  have hL:=hl L (List.mem_cons_self ..)
  have h1:=hL.lo t f ht hf;have h2:=hL.hi t f ht hf;have h3:=hL.lo f t hf ht;have h4:=hL.hi f t hf ht
  exact fold_bd hf ht hl (by show _≤ -(mg L t f)∧ -(mg L t f)≤_∧_≤mg L f t∧mg L f t≤_;omega)
end Go.Ab.Tryz
namespace Go.Ab.Tryz
open Go.Proofs
theorem fold_le {f t:Nat}:∀{l:List (List Int)} {s:Int × Int},(l.foldl (fun s M=>(min s.1 (-(mg M t f)),max s.2 (mg M f t))) s).1≤s.1∧s.2≤(l.foldl (fun s M=>(min s.1 (-(mg M t f)),max s.2 (mg M f t))) s).2∧
  (∀M∈l,(l.foldl (fun s M=>(min s.1 (-(mg M t f)),max s.2 (mg M f t))) s).1≤ -(mg M t f)∧mg M f t≤(l.foldl (fun s M=>(min s.1 (-(mg M t f)),max s.2 (mg M f t))) s).2)
 |[],s=>⟨Int.le_refl _,Int.le_refl _,fun M h=>absurd h List.not_mem_nil⟩
 |L::l,s=>by
  rw[List.foldl_cons]
  obtain⟨h1,h2,h3⟩:=fold_le (f:=f) (t:=t) (l:=l) (s:=(min s.1 (-(mg L t f)),max s.2 (mg L f t)))
  generalize l.foldl (fun s M=>(min s.1 (-(mg M t f)),max s.2 (mg M f t))) (min s.1 (-(mg L t f)),max s.2 (mg L f t))=w at h1 h2 h3⊢
  simp only at h1 h2
  refine⟨by omega,by omega,fun M hM=>?_⟩
  rcases List.mem_cons.1 hM with rfl|hM
  ·omega
  ·exact h3 M hM
theorem fold_ex {f t:Nat}:∀{l:List (List Int)} {s:Int × Int},((l.foldl (fun s M=>(min s.1 (-(mg M t f)),max s.2 (mg M f t))) s).2=s.2∨∃M∈l,(l.foldl (fun s M=>(min s.1 (-(mg M t f)),max s.2 (mg M f t))) s).2=mg M f t)
 |[],s=>.inl rfl
 |L::l,s=>by
  rw[List.foldl_cons]
  rcases fold_ex (f:=f) (t:=t) (l:=l) (s:=(min s.1 (-(mg L t f)),max s.2 (mg L f t))) with h|⟨M,hM,h⟩
  ·rw[h]
   by_cases hc:mg L f t≤s.2
   ·exact .inl (by show max s.2 (mg L f t)=s.2;omega)
   ·exact .inr ⟨L,List.mem_cons_self ..,by show max s.2 (mg L f t)=mg L f t;omega⟩
  ·exact .inr ⟨M,List.mem_cons_of_mem _ hM,h⟩
theorem betw_ge {f t:Nat}{l:List (List Int)}{M:List Int}(h:M∈l):(betw f t l).1≤ -(mg M t f)∧mg M f t≤(betw f t l).2:=by
 cases l with
 |nil=>cases h
 |cons L l=>exact fold_le.2.2 M h
theorem betw_ex {f t:Nat}{l:List (List Int)}(h:l≠[]):∃M∈l,(betw f t l).2=mg M f t:=by
 cases l with
 |nil=>exact absurd rfl h
 |cons L l=>
  rcases fold_ex (f:=f) (t:=t) (l:=L::l) (s:=(-(mg L t f),mg L f t)) with h|h
  ·exact⟨L,List.mem_cons_self ..,h⟩
  ·exact h
theorem fold_dual {f t:Nat}:∀{l:List (List Int)} {s:Int × Int},l.foldl (fun s M=>(min s.1 (-(mg M f t)),max s.2 (mg M t f))) (-s.2, -s.1)=(-(l.foldl (fun s M=>(min s.1 (-(mg M t f)),max s.2 (mg M f t))) s).2, -(l.foldl (fun s M=>(min s.1 (-(mg M t f)),max s.2 (mg M f t))) s).1)
 |[],s=>rfl
 |L::l,s=>by
  rw[List.foldl_cons,List.foldl_cons,←fold_dual (l:=l)]
  congr 1
  exact Prod.ext (by show min (-s.2) (-(mg L f t))= -(max s.2 (mg L f t));omega) (by show max (-s.1) (mg L t f)= -(min s.1 (-(mg L t f)));omega)
theorem betw_dual {f t:Nat}(l:List (List Int)):betw t f l=(-(betw f t l).2, -(betw f t l).1):=by
 cases l with
 |nil=>rfl
 |cons L l=>
  have:=fold_dual (f:=f) (t:=t) (l:=L::l) (s:=(-(mg L t f),mg L f t))
  simp only[Int.neg_neg] at this
  exact this
theorem betw_tru {a:At}(r:Right a){runs:Runs}{y:Nat→Int}(h:Tru a (fun _=>true) runs y){f t:Nat}(hf:f<5)(ht:t<5):allC a≠[]∧(betw f t ((allC a).map Prod.snd)).1≤y t-y f∧y t-y f≤(betw f t ((allC a).map Prod.snd)).2:=by
 obtain⟨L,hL⟩:=cases_full r h
 have hs:=((cases_sound r hL).2.2.2 y h.beg).2 h
 have hb:(betw f t ((allC a).map Prod.snd)).1≤ -(mg L t f)∧mg L f t≤(betw f t ((allC a).map Prod.snd)).2:=betw_ge (f:=f) (t:=t) (List.mem_map_of_mem (f:=Prod.snd) hL)
 have h1:y t-y f≤mg L f t:=hs f t hf ht
 have h2:y f-y t≤mg L t f:=hs t f ht hf
 refine⟨fun e=>List.ne_nil_of_mem hL e,?_,?_⟩
 ·omega
 ·omega
end Go.Ab.Tryz
namespace Go.Ab
theorem shw_succ (set gain:Int)(i:Nat):shw set gain ((i+1:Nat):Int)=shw set gain i+1+((i:Int)*gain%60+gain)/60∧((i+1:Nat):Int)*gain%60=(((i:Int)*gain%60+gain))%60:=by
 have e:((i+1:Nat):Int)*gain=(i:Int)*gain+gain:=by rw[Int.natCast_add,Int.add_mul];simp
 unfold shw
 rw[e]
 constructor<;>omega
end Go.Ab
namespace Go.Ab.Tryz
open Go.Proofs
set_option maxHeartbeats 1000000 in
theorem lshows_ev {h:H}(hw:h.wf){set gain m:Int}(r:RunIn set gain)(h0:0≤m)(h1:m≤240)(Q:V→H→Prop)(q:Q (.int .i64 (shw set gain m)) h):
  Ev fnG fastA (.fn 61 [] []) [.int .i64 set,.int .i64 gain,.int .i64 m] h Q:=by
 have a0:=r.s0;have a1:=r.s1;have a2:=r.g0;have a3:=r.g1
 obtain⟨n,rfl⟩:=Int.eq_ofNat_of_zero_le h0
 refine Ev_body (fd:=c61) rfl rfl rfl ?_
 simp -implicitDefEqProofs(maxSteps:=999999)(disch:=first|with_reducible rfl|omega|(simp only[nA,nS,nD]<;>omega)|fail)only[c61,go_sem]
 refine W_count n (fun i s=>∃tm,s=⟨tm,h,[]⟩∧(Opd.t 1).ev tm=.int .i64 gain∧(Opd.t 7).ev tm=.int .i64 (shw set gain i)∧(Opd.t 8).ev tm=.int .i64 ((i:Int)*gain%60)∧(Opd.t 10).ev tm=.int .i64 (n:Int)∧(Opd.t 11).ev tm=.int .i64 (i:Int))
  ?_ ?_ (i:=0) (Nat.zero_le _) ⟨_,rfl,(by simp[ev_c,ev_put]<;>rfl),(by rw[show shw set gain ((0:Nat):Int)=set by simp[shw]];exact(by simp[ev_c,ev_put]<;>rfl)),(by rw[show((0:Nat):Int)*gain%60=0 by simp];exact(by simp[ev_c,ev_put]<;>rfl)),(by simp[ev_c,ev_put]<;>rfl),(by simp[ev_c,ev_put]<;>rfl)⟩
 ·rintro i s hi ⟨tm,rfl,e1,e7,e8,e10,e11⟩
  have hi':(i:Int)<(n:Int):=by omega
  obtain⟨k1,k2⟩:=shw_succ set gain i
  obtain⟨R,hR⟩:∃R,(i:Int)*gain%60=R:=⟨_,rfl⟩
  have hR0:0≤R∧R<60:=by omega
  obtain⟨S,hS⟩:∃S,shw set gain i=S:=⟨_,rfl⟩
  have hS0:=shw_bd (m:=i) r (by omega) (by omega)
  rw[hS] at hS0 e7 k1
  rw[hR] at e8 k1 k2
  have w1:wr .i64 (S+1)=S+1:=wr_in (by omega) (by omega)
  have w2:wr .i64 (R+gain)=R+gain:=wr_in (by omega) (by omega)
  simp -implicitDefEqProofs(maxSteps:=999999)(disch:=first|with_reducible rfl|omega|(simp only[nA,nS,nD]<;>omega)|fail)only[go_sem,e1,e7,e8,e10,e11,hi',w1,w2]
  refine W_count (-((R+gain)/60)).toNat (fun j s=>∃tm,s=⟨tm,h,[]⟩∧(Opd.t 1).ev tm=.int .i64 gain∧(Opd.t 7).ev tm=.int .i64 (S+1-j)∧(Opd.t 8).ev tm=.int .i64 (R+gain+60*j)∧(Opd.t 10).ev tm=.int .i64 (n:Int)∧(Opd.t 11).ev tm=.int .i64 (i:Int))
   ?_ ?_ (i:=0) (Nat.zero_le _) ⟨_,rfl,(by simp[ev_c,ev_put,e1]<;>rfl),(by rw[show S+1-((0:Nat):Int)=S+1 by simp];exact(by simp[ev_c,ev_put]<;>rfl)),(by rw[show R+gain+60*((0:Nat):Int)=R+gain by simp];exact(by simp[ev_c,ev_put]<;>rfl)),(by simp[ev_c,ev_put,e10]<;>rfl),(by simp[ev_c,ev_put,e11]<;>rfl)⟩
  ·rintro j s hj ⟨tm,rfl,e1,e7,e8,e10,e11⟩
   have hlt:R+gain+60*(j:Int)<0:=by omega
   have w3:wr .i64 (S+1-j-1)=S+1-((j+1:Nat):Int):=by rw[wr_in (by omega) (by omega)];omega
   have w4:wr .i64 (R+gain+60*(j:Int)+60)=R+gain+60*((j+1:Nat):Int):=by rw[wr_in (by omega) (by omega)];omega
   simp -implicitDefEqProofs(maxSteps:=999999)(disch:=first|with_reducible rfl|omega|(simp only[nA,nS,nD]<;>omega)|fail)only[go_sem,e1,e7,e8,e10,e11,hlt,w3,w4]
   exact⟨_,rfl,(by simp[ev_c,ev_put,e1]<;>rfl),(by simp[ev_c,ev_put]<;>rfl),(by simp[ev_c,ev_put]<;>rfl),(by simp[ev_c,ev_put,e10]<;>rfl),(by simp[ev_c,ev_put,e11]<;>rfl)⟩
  ·rintro s ⟨tm,rfl,e1,e7,e8,e10,e11⟩
   obtain⟨j,hj⟩:∃j:Nat,(-((R+gain)/60)).toNat=j:=⟨_,rfl⟩
   rw[hj] at e7 e8
   have hlt:¬R+gain+60*(j:Int)<0:=by omega
   simp -implicitDefEqProofs(maxSteps:=999999)(disch:=first|with_reducible rfl|omega|(simp only[nA,nS,nD]<;>omega)|fail)only[go_sem,e1,e7,e8,e10,e11,hlt]
   refine W_count ((R+gain)/60).toNat (fun q s=>∃tm,s=⟨tm,h,[]⟩∧(Opd.t 1).ev tm=.int .i64 gain∧(Opd.t 7).ev tm=.int .i64 (S+1-j+q)∧(Opd.t 8).ev tm=.int .i64 (R+gain+60*j-60*q)∧(Opd.t 10).ev tm=.int .i64 (n:Int)∧(Opd.t 11).ev tm=.int .i64 (i:Int))
    ?_ ?_ (i:=0) (Nat.zero_le _) ⟨_,rfl,(by simp[ev_c,ev_put,e1]<;>rfl),(by rw[show S+1-(j:Int)+((0:Nat):Int)=S+1-j by simp];exact(by simp[ev_c,ev_put,e7]<;>rfl)),(by rw[show R+gain+60*(j:Int)-60*((0:Nat):Int)=R+gain+60*j by simp];exact(by simp[ev_c,ev_put,e8]<;>rfl)),(by simp[ev_c,ev_put,e10]<;>rfl),(by simp[ev_c,ev_put,e11]<;>rfl)⟩
   ·rintro q s hq ⟨tm,rfl,e1,e7,e8,e10,e11⟩
    have hgt:59<R+gain+60*(j:Int)-60*(q:Int):=by omega
    have w3:wr .i64 (S+1-(j:Int)+q+1)=S+1-(j:Int)+((q+1:Nat):Int):=by rw[wr_in (by omega) (by omega)];omega
    have w4:wr .i64 (R+gain+60*(j:Int)-60*q-60)=R+gain+60*(j:Int)-60*((q+1:Nat):Int):=by rw[wr_in (by omega) (by omega)];omega
    simp -implicitDefEqProofs(maxSteps:=999999)(disch:=first|with_reducible rfl|omega|(simp only[nA,nS,nD]<;>omega)|fail)only[go_sem,e1,e7,e8,e10,e11,hgt,w3,w4]
    exact⟨_,rfl,(by simp[ev_c,ev_put,e1]<;>rfl),(by simp[ev_c,ev_put]<;>rfl),(by simp[ev_c,ev_put]<;>rfl),(by simp[ev_c,ev_put,e10]<;>rfl),(by simp[ev_c,ev_put,e11]<;>rfl)⟩
   ·rintro s ⟨tm,rfl,e1,e7,e8,e10,e11⟩
    obtain⟨q,hq⟩:∃q:Nat,((R+gain)/60).toNat=q:=⟨_,rfl⟩
    rw[hq] at e7 e8
    have hgt:¬59<R+gain+60*(j:Int)-60*(q:Int):=by omega
    have x1:S+1-(j:Int)+q=shw set gain ((i+1:Nat):Int):=by rw[k1];omega
    have x2:R+gain+60*(j:Int)-60*q=((i+1:Nat):Int)*gain%60:=by rw[k2];omega
    rw[x1] at e7
    rw[x2] at e8 hgt
    simp -implicitDefEqProofs(maxSteps:=999999)(disch:=first|with_reducible rfl|omega|(simp only[nA,nS,nD]<;>omega)|fail)only[go_sem,e1,e7,e8,e10,e11,hgt,wr_succ]
    exact⟨_,rfl,(by simp[ev_c,ev_put,e1]<;>rfl),(by simp[ev_c,ev_put,e7]<;>rfl),(by simp[ev_c,ev_put,e8]<;>rfl),(by simp[ev_c,ev_put,e10]<;>rfl),(by simp[ev_c,ev_put]<;>rfl)⟩
 ·rintro s ⟨tm,rfl,e1,e7,e8,e10,e11⟩
  simp -implicitDefEqProofs(maxSteps:=999999)(disch:=first|with_reducible rfl|omega|(simp only[nA,nS,nD]<;>omega)|fail)only[go_sem,e1,e7,e8,e10,e11,Int.lt_irrefl]
  exact q
theorem inside_ev {h:H}(hw:h.wf)(n lo hi:Int)(Q:V→H→Prop)(q:∀h',h.Sub h'→Q (.bool (inB n lo hi)) h'):Ev fnG fastA (.fn 51 [] []) [.int .i64 n,.agg [.int .i64 lo,.int .i64 hi]] h Q:=by
 refine Ev_body (fd:=c51) rfl rfl rfl ?_
 have s:h.Sub (h.add (.cells .rw [.int .i64 lo,.int .i64 hi])):=(by repeat(first|assumption|exact H.Sub.refl (by assumption)|refine H.Sub.add ?_ _|refine H.Sub.set ?_ (by first|omega|(simp only[H.next_add,H.next_set,H.next_del]<;>omega)) (by first|omega|(simp only[H.next_add,H.next_set,H.next_del]<;>omega)) (by assumption) _))
 by_cases h1:lo≤n
 ·have e:inB n lo hi=decide (n≤hi):=by simp[inB,h1]
  rw[e] at q
  simp -implicitDefEqProofs(maxSteps:=999999)(disch:=first|with_reducible rfl|omega|(simp only[nA,nS,nD]<;>omega)|fail)only[c51,go_sem,h1]
  exact q _ s
 ·have e:inB n lo hi=false:=by simp[inB,h1]
  rw[e] at q
  simp -implicitDefEqProofs(maxSteps:=999999)(disch:=first|with_reducible rfl|omega|(simp only[nA,nS,nD]<;>omega)|fail)only[c51,go_sem,h1]
  exact q _ s
end Go.Ab.Tryz
namespace Go.Ab
theorem SlAt_lt {h:H}{x:V}{sz:Nat}{rows:List (List V)}(hw:h.wf)(a:SlAt h x sz rows)(hr:rows≠[]):∀b,blkOf x b→b<h.next:=by
 rintro b ⟨o',n',c',e⟩
 rcases a.2.2 with⟨rfl,_⟩|⟨b',o,c,cs,e1,e2,e3⟩
 ·cases e
 ·rw[e1] at e;cases e
  obtain⟨k,hk⟩:=H.cells_eq (e2.resolve_left hr)
  exact hw _ _ hk
theorem q_shr_3 (a:Int):q_sh .shr (.int .u64 a) (.int .u64 3)=some (.int .u64 (a.fdiv (2^(min 3 IntKind.u64.bits)))):=rfl
theorem q_shr_19 (a:Int):q_sh .shr (.int .u64 a) (.int .u64 19)=some (.int .u64 (a.fdiv (2^(min 19 IntKind.u64.bits)))):=rfl
def xorI (k:IntKind)(a b:Int):Int:=k.wrap (BitVec.ofInt k.bits a^^^BitVec.ofInt k.bits b).toNat
def andI (k:IntKind)(a b:Int):Int:=k.wrap (BitVec.ofInt k.bits a&&& BitVec.ofInt k.bits b).toNat
theorem q_ar_xor (k:IntKind)(a b:Int):q_ar .xor (.int k a) (.int k b)=some (.int k (xorI k a b)):=by simp[q_ar,arith,xorV,vi,xorI]
theorem q_ar_and (k:IntKind)(a b:Int):q_ar .and (.int k a) (.int k b)=some (.int k (andI k a b)):=by simp[q_ar,arith,andV,vi,andI]
theorem and_bd (a:Int):0≤andI .i64 a 65535∧andI .i64 a 65535≤65535:=by
 have h:(BitVec.ofInt IntKind.i64.bits a&&& BitVec.ofInt IntKind.i64.bits 65535).toNat≤65535:=by
  rw[BitVec.toNat_and]
  exact Nat.le_trans Nat.and_le_right (by decide)
 unfold andI
 rw[←wr_eq,wr_in (by omega) (by omega)]
 omega
namespace Tryz
def SpAt (h:H)(p:Nat)(x:V)(T:Int):Prop:=∃st,h.get p=some (.cells .rw [x,.int .i64 T,.int .u64 st])
theorem SpAt.mono {h h':H}{p:Nat}{x:V}{T:Int}(a:SpAt h p x T)(hs:h.Sub h'):SpAt h' p x T:=by
 obtain⟨st,a⟩:=a
 exact⟨st,hs.get a⟩
theorem SpAt.keep {h h':H}{p:Nat}{x:V}{T:Int}{S:Nat→Prop}(a:SpAt h p x T)(k:Keeps S h h')(n:¬S p):SpAt h' p x T:=by
 obtain⟨st,a⟩:=a
 exact⟨st,k.2 _ _ a n⟩
set_option maxHeartbeats 1000000 in
theorem turn_ev {h0 h:H}{p:Nat}{x:V}{bs:List Int}{T:Int}(hs:h0.Sub h)(hw0:h0.wf)(hx:SlAt h0 x 1 (bs.map encU8))(hp0:h0.next≤p)(hp:SpAt h p x T)(hT:0≤T∧T≤1000000000)(Q:V→H→Prop)
  (q:∀r h',0≤r→r≤65535→h0.Sub h'→SpAt h' p x (T+1)→Keeps (fun b=>b=p) h h'→h'.next=h.next→Q (.int .i64 r) h'):Ev fnG fastA (.fn 139 [] []) [.ptr p 0] h Q:=by
 obtain⟨st,hp⟩:=hp
 have hw:=hs.wf
 have hlp:=hw _ _ hp
 have hx1:=hx.one
 have hlen:=hx.lenE
 have hc:=cells_of hp
 refine Ev_body (fd:=c139) rfl rfl rfl ?_
 have fin:∀(st':Int) (r:Int),0≤r→r≤65535→Q (.int .i64 r) (h.set p (.cells .rw [x,.int .i64 (T+1),.int .u64 st'])):=fun st' r r0 r1=>
  q r _ r0 r1 (hs.set hp0 hlp hw0 _) ⟨st',get_set_same rfl⟩ (Keeps.set _ _ _) (H.next_set _ _ _)
 by_cases h1:0<(bs.length:Int)
 ·have hT0:0≤T.tmod (bs.length:Int):=Int.tmod_nonneg _ hT.1
  have hT1:T.tmod (bs.length:Int)<(bs.length:Int):=Int.tmod_lt_of_pos _ h1
  obtain⟨i,ei⟩:=Int.eq_ofNat_of_zero_le hT0
  have hi:i<bs.length:=by omega
  obtain⟨b2,o2,c2,cs2,e2,hcs2,hq2,hgg2,hn2,hn02⟩:=(hx.mono hs).at hi
  have v2:=hn02 (by omega)
  simp only[encU8] at v2
  have hbb:b2≠p:=by
   have:=SlAt_lt hw0 hx (by intro e;rw[List.map_eq_nil_iff] at e;rw[e] at hi;simp at hi) b2 ⟨_,_,_,e2⟩
   omega
  have hne:¬(bs.length:Int)=0:=by omega
  by_cases h2:(bs.length:Int)<T+1
  ·simp -implicitDefEqProofs(maxSteps:=999999)(disch:=first|with_reducible rfl|omega|(simp only[nA,nS,nD]<;>omega)|fail)only[c139,go_sem,hc,hlen,h1,q_ar_rem .i64 hne,ei,hq2 (nat_cst i),hcs2,v2,hp,wr_in,h2,hx1,q_shr_3,q_shr_19,q_ar_xor,q_ar_and]
   exact fin _ _ (and_bd _).1 (and_bd _).2
  ·simp -implicitDefEqProofs(maxSteps:=999999)(disch:=first|with_reducible rfl|omega|(simp only[nA,nS,nD]<;>omega)|fail)only[c139,go_sem,hc,hlen,h1,q_ar_rem .i64 hne,ei,hq2 (nat_cst i),hcs2,v2,hp,wr_in,h2,hx1,q_shr_3,q_shr_19,q_ar_xor,q_ar_and]
   exact fin _ _ (and_bd _).1 (and_bd _).2
 ·by_cases h2:(bs.length:Int)<T+1
  ·simp -implicitDefEqProofs(maxSteps:=999999)(disch:=first|with_reducible rfl|omega|(simp only[nA,nS,nD]<;>omega)|fail)only[c139,go_sem,hc,hlen,h1,hp,wr_in,h2,hx1,q_shr_3,q_shr_19,q_ar_xor,q_ar_and]
   exact fin _ _ (and_bd _).1 (and_bd _).2
  ·omega
theorem Upto_ev {h0 h:H}{p:Nat}{x:V}{bs:List Int}{T:Int}(hs:h0.Sub h)(hw0:h0.wf)(hx:SlAt h0 x 1 (bs.map encU8))(hp0:h0.next≤p)(hp:SpAt h p x T)(hT:0≤T∧T≤1000000000){n:Int}(hn: -1000000000≤n∧n≤1000000000)(Q:V→H→Prop)
  (q:∀r h',0≤r→r≤max 0 n→h0.Sub h'→SpAt h' p x (T+1)→Keeps (fun b=>b=p) h h'→h'.next=h.next→Q (.int .i64 r) h'):Ev fnG fastA (.fn 53 [] []) [.ptr p 0,.int .i64 n] h Q:=by
 refine Ev_body (fd:=c53) rfl rfl rfl ?_
 simp -implicitDefEqProofs(maxSteps:=999999)(disch:=first|with_reducible rfl|omega|(simp only[nA,nS,nD]<;>omega)|fail)only[c53,go_sem]
 refine turn_ev hs hw0 hx hp0 hp hT _ fun r h' r0 r1 s' p' k' n'=>?_
 have hm:¬max 1 (n+1)=0:=by omega
 have e0:0≤r.tmod (max 1 (n+1)):=Int.tmod_nonneg _ r0
 have e1:r.tmod (max 1 (n+1))<max 1 (n+1):=Int.tmod_lt_of_pos _ (by omega)
 simp -implicitDefEqProofs(maxSteps:=999999)(disch:=first|with_reducible rfl|omega|(simp only[nA,nS,nD]<;>omega)|fail)only[go_sem,wr_in,q_ar_rem .i64 hm]
 exact q _ _ e0 (by omega) s' p' k' n'
theorem From_ev {h0 h:H}{p:Nat}{x:V}{bs:List Int}{T:Int}(hs:h0.Sub h)(hw0:h0.wf)(hx:SlAt h0 x 1 (bs.map encU8))(hp0:h0.next≤p)(hp:SpAt h p x T)(hT:0≤T∧T≤1000000000){lo hi:Int}(hlo: -1000000≤lo∧lo≤1000000)(hhi: -1000000≤hi∧hi≤1000000)(Q:V→H→Prop)
  (q:∀r h',lo≤r→r≤max lo hi→h0.Sub h'→SpAt h' p x (T+1)→Keeps (fun b=>b=p) h h'→h'.next=h.next→Q (.int .i64 r) h'):Ev fnG fastA (.fn 70 [] []) [.ptr p 0,.int .i64 lo,.int .i64 hi] h Q:=by
 refine Ev_body (fd:=c70) rfl rfl rfl ?_
 simp -implicitDefEqProofs(maxSteps:=999999)(disch:=first|with_reducible rfl|omega|(simp only[nA,nS,nD]<;>omega)|fail)only[c70,go_sem,wr_in]
 refine Upto_ev hs hw0 hx hp0 hp hT (by omega) _ fun r h' r0 r1 s' p' k' n'=>?_
 simp -implicitDefEqProofs(maxSteps:=999999)(disch:=first|with_reducible rfl|omega|(simp only[nA,nS,nD]<;>omega)|fail)only[go_sem,wr_in]
 exact q _ _ (by omega) (by omega) s' p' k' n'
theorem Wound_ev {h:H}{x:V}{bs:List Int}(hw:h.wf)(hx:SlAt h x 1 (bs.map encU8))(Q:V→H→Prop)(q:∀h',h.Sub h'→SpAt h' h.next x 0→h'.next=h.next+1→Q (.ptr h.next 0) h'):Ev fnG fastA (.fn 15 [] []) [x] h Q:=by
 have hx1:=hx.one
 refine Ev_body (fd:=c15) rfl rfl rfl ?_
 simp -implicitDefEqProofs(maxSteps:=999999)(disch:=first|with_reducible rfl|omega|(simp only[nA,nS,nD]<;>omega)|fail)only[c15,go_sem,hx.lenE,hx1,cells_one hx1]
 exact q _ ((H.Sub.refl hw).add _) ⟨_,get_add_new rfl⟩ (H.next_add _ _)
end Tryz
end Go.Ab
namespace Go.Ab
theorem Keeps.new {S:Nat→Prop}{h h':H}(hw:h.wf)(k:Keeps (fun c=>S c∨h.next≤c) h h'):Keeps S h h':=⟨k.1,fun c y e n=>k.2 c y e fun hs=>hs.elim n fun hge=>by have:=hw c y e;omega⟩
structure Sl6 (h0 z:H)(n1:Nat)(v:Nat→V)(sz:Nat→Nat)(rows:Nat→List (List V)):Prop where
 o:∀i,i<6→OwnC h0 z (v i) (sz i) (rows i)
 lo:∀i,i<6→∀b,blkOf (v i) b→n1≤b
 dj:∀i j,i<6→j<6→i≠j→∀b,blkOf (v i) b→¬blkOf (v j) b
variable {h0 z z':H} {n1:Nat} {v:Nat→V} {sz:Nat→Nat} {rows:Nat→List (List V)}
theorem Sl6.keep (k:Sl6 h0 z n1 v sz rows){S:Nat→Prop}(kk:Keeps S z z')(s:h0.Sub z')(hS:∀b,S b→b<n1):Sl6 h0 z' n1 v sz rows:=
 ⟨fun i hi=>(k.o i hi).keep kk s fun b hb q=>by have:=k.lo i hi b hb;have:=hS b q;omega,k.lo,k.dj⟩
theorem Sl6.rw (k:Sl6 h0 z n1 v sz rows){rows':Nat→List (List V)}(e:∀i,i<6→rows i=rows' i):Sl6 h0 z n1 v sz rows':=⟨fun i hi=>by rw[←e i hi];exact k.o i hi,k.lo,k.dj⟩
theorem Sl6.mono (k:Sl6 h0 z n1 v sz rows)(s:z.Sub z'):Sl6 h0 z' n1 v sz rows:=⟨fun i hi=>(k.o i hi).mono s,k.lo,k.dj⟩
def updF {α:Type}(f:Nat→α)(i:Nat)(x:α)(j:Nat):α:=if j=i then x else f j
theorem updF_same {α:Type}(f:Nat→α)(i:Nat)(x:α):updF f i x i=x:=if_pos rfl
theorem updF_other {α:Type}(f:Nat→α){i j:Nat}(x:α)(h:j≠i):updF f i x j=f j:=if_neg h
theorem Sl6.app (k:Sl6 h0 z n1 v sz rows){i:Nat}(hi:i<6){w:V}{r:List V}(o:OwnC h0 z' w (sz i) (rows i++[r]))(n:∀b,blkOf w b→blkOf (v i) b∨z.next≤b)(hz:n1≤z.next)(kk:Keeps (blkOf (v i)) z z'):
  Sl6 h0 z' n1 (updF v i w) sz (updF rows i (rows i++[r])):=by
 refine⟨fun j hj=>?_,fun j hj b hb=>?_,fun j l hj hl hjl b hb=>?_⟩
 ·by_cases e:j=i
  ·subst e;rw[updF_same,updF_same];exact o
  ·rw[updF_other _ _ e,updF_other _ _ e]
   exact(k.o j hj).keep kk o.1 fun b hb=>k.dj j i hj hi e b hb
 ·by_cases e:j=i
  ·subst e;rw[updF_same] at hb
   exact(n b hb).elim (k.lo j hi b) fun q=>by omega
  ·rw[updF_other _ _ e] at hb;exact k.lo j hj b hb
 ·by_cases e:j=i
  ·subst e
   rw[updF_same] at hb;rw[updF_other _ _ (Ne.symm hjl)]
   exact(n b hb).elim (k.dj j l hi hl hjl b) fun q w=>by have:=((k.o l hl).blk w).2.1;omega
  ·rw[updF_other _ _ e] at hb
   by_cases e2:l=i
   ·subst e2;rw[updF_same]
    intro w
    exact(n b w).elim (k.dj j l hj hi e b hb) fun q=>by have:=((k.o j hj).blk hb).2.1;omega
   ·rw[updF_other _ _ e2];exact k.dj j l hj hl hjl b hb
end Go.Ab
namespace Go.Ab.Tryz
open Go.Proofs
set_option maxHeartbeats 1000000 in
theorem around_ev {h0 h:H}{p:Nat}{x:V}{bs:List Int}{T:Int}(hs:h0.Sub h)(hw0:h0.wf)(hx:SlAt h0 x 1 (bs.map encU8))(hp0:h0.next≤p)(hp:SpAt h p x T)(hT:0≤T∧T≤100000000){n wide most:Int}(h1:0≤wide∧wide≤100)(h2:0≤most∧most≤1000)(h3: -most≤n∧n≤most)(Q:V→H→Prop)
  (q:∀lo hi h',lo≤n→n≤hi→ -most≤lo→hi≤most→hi-lo≤wide→h0.Sub h'→SpAt h' p x (T+2)→Keeps (fun b=>b=p) h h'→Q (spV (lo,hi)) h'):Ev fnG fastA (.fn 71 [] []) [.ptr p 0,.int .i64 n,.int .i64 wide,.int .i64 most] h Q:=by
 have hw:=hs.wf
 have hlp:p<h.next:=by obtain⟨st,g⟩:=hp;exact hw _ _ g
 refine Ev_body (fd:=c71) rfl rfl rfl ?_
 have sA:=(H.Sub.refl hw).add (.cells .rw [.int .i64 0,.int .i64 0])
 have gA:(h.add (.cells .rw [.int .i64 0,.int .i64 0])).get h.next=some (.cells .rw [.int .i64 0,.int .i64 0]):=get_add_new rfl
 have nA:=H.next_add h (.cells .rw [.int .i64 0,.int .i64 0])
 have w0:wr .i64 (0-most)= -most:=by rw[wr_in (by omega) (by omega)];omega
 simp -implicitDefEqProofs(maxSteps:=999999)(disch:=first|with_reducible rfl|omega|(simp only[nA,nS,nD]<;>omega)|fail)only[c71,go_sem,w0]
 generalize h.add (.cells .rw [.int .i64 0,.int .i64 0])=hA at sA gA nA⊢
 refine Upto_ev (hs.trans sA) hw0 hx hp0 (hp.mono sA) (by omega) (by omega) _ fun r1 h1 a0 a1 s1 p1 k1 n1=>?_
 have g1:=k1.2 _ _ gA (by omega)
 have w1:wr .i64 (n-r1)=n-r1:=wr_in (by omega) (by omega)
 obtain⟨lo,hlo⟩:∃lo,max (-most) (n-r1)=lo:=⟨_,rfl⟩
 simp -implicitDefEqProofs(maxSteps:=999999)(disch:=first|with_reducible rfl|omega|(simp only[nA,nS,nD]<;>omega)|fail)only[go_sem,w1,hlo]
 refine Upto_ev s1 hw0 hx hp0 p1 (by omega) (by omega) _ fun r2 h2' b0 b1 s2 p2 k2 n2=>?_
 have g2:=k2.2 _ _ g1 (by omega)
 have w2:wr .i64 (lo+r2)=lo+r2:=wr_in (by omega) (by omega)
 obtain⟨hi,hhi⟩:∃hi,min most (max n (lo+r2))=hi:=⟨_,rfl⟩
 simp -implicitDefEqProofs(maxSteps:=999999)(disch:=first|with_reducible rfl|omega|(simp only[nA,nS,nD]<;>omega)|fail)only[go_sem,w2,hhi,g2]
 refine q lo hi _ (by omega) (by omega) (by omega) (by omega) (by omega) (s2.set (b:=h.next) (by have:=hs.next;omega) (by omega) hw0 _) ?_ ?_
 ·have e:T+1+1=T+2:=by omega
  rw[←e];exact p2.keep (Keeps.set _ _ _) (by omega)
 ·refine Keeps.new hw ((((Keeps.of sA (fun _=>False)).trans k1).trans k2).trans (Keeps.set h2' h.next _) |>.mono ?_)
  rintro c (((h|h)|h)|h)
  ·exact h.elim
  ·exact .inl h
  ·exact .inl h
  ·exact .inr (by omega)
end Go.Ab.Tryz
namespace Go.Ab.Tryz
open Go.Proofs
def sz6:Nat→Nat
 |0=>4
 |1=>3
 |2=>4
 |_=>1
def rowsM (a:At)(ss gg tt:List Int):Nat→List (List V)
 |0=>a.cks.map encC
 |1=>a.rds.map encR
 |2=>a.gps.map encG
 |3=>ss.map encI
 |4=>gg.map encI
 |5=>tt.map encI
 |_=>[]
structure Mi (h0:H)(p:Nat)(x:V)(n1 c0:Nat)(a:At)(ss gg tt:List Int)(T:Int)(v:Nat→V)(z:H):Prop where
 s:h0.Sub z
 sp:SpAt z p x T
 sl:Sl6 h0 z n1 v sz6 (rowsM a ss gg tt)
 ga:z.get (c0+2)=some (.cells .rw [.int .i64 a.mins,.int .i64 a.evs,v 0,v 1,v 2])
 gt:z.get (c0+3)=some (.cells .rw [v 3,v 4,v 5])
 g0:z.get c0=some (.cells .rw [.int .i64 0,.int .i64 0,.nils,.nils,.nils])
 g1:z.get (c0+1)=some (.cells .rw [.nils,.nils,.nils])
 nx:n1≤z.next
variable {h0:H} {p:Nat} {x:V} {n1 c0:Nat} {a a':At} {ss gg tt ss' gg' tt':List Int} {T T':Int} {v v':Nat→V} {z z5:H}
theorem Mi.turn (k:Mi h0 p x n1 c0 a ss gg tt T v z)(hp:p<c0)(hn:c0+4=n1)(s:h0.Sub z5)(sp:SpAt z5 p x T')(kk:Keeps (fun b=>b=p) z z5):Mi h0 p x n1 c0 a ss gg tt T' v z5:=
 ⟨s,sp,k.sl.keep kk s fun b hb=>by omega,kk.2 _ _ k.ga (by omega),kk.2 _ _ k.gt (by omega),kk.2 _ _ k.g0 (by omega),kk.2 _ _ k.g1 (by omega),by have:=kk.1;have:=k.nx;omega⟩
theorem Mi.mono (k:Mi h0 p x n1 c0 a ss gg tt T v z)(s:z.Sub z5):Mi h0 p x n1 c0 a ss gg tt T v z5:=
 ⟨k.s.trans s,k.sp.mono s,k.sl.mono s,s.get k.ga,s.get k.gt,s.get k.g0,s.get k.g1,by have:=s.next;have:=k.nx;omega⟩
theorem Mi.putA (k:Mi h0 p x n1 c0 a ss gg tt T v z)(hw:h0.wf)(hp:p<c0)(hn:c0+4=n1)(hc:h0.next≤c0){S:Nat→Prop}(kk:Keeps S z z5)(hS:∀b,S b→n1≤b)(sl:Sl6 h0 z5 n1 v' sz6 (rowsM a' ss gg tt))(hm:a'.mins=a.mins)(he:a'.evs=a.evs)
  (e3:v' 3=v 3) (e4:v' 4=v 4) (e5:v' 5=v 5):Mi h0 p x n1 c0 a' ss gg tt T v' (z5.set (c0+2) (.cells .rw [.int .i64 a.mins,.int .i64 a.evs,v' 0,v' 1,v' 2])):=by
 have hn':∀b,b<n1→¬S b:=fun b hb q=>by have:=hS b q;omega
 have s5:=(sl.o 0 (by omega)).1
 have l5:=kk.1
 have lz:=k.nx
 have sz:h0.Sub (z5.set (c0+2) (.cells .rw [.int .i64 a.mins,.int .i64 a.evs,v' 0,v' 1,v' 2])):=s5.set (by omega) (by omega) hw _
 have k2:=Keeps.set z5 (c0+2) (.cells .rw [.int .i64 a.mins,.int .i64 a.evs,v' 0,v' 1,v' 2])
 refine⟨sz,(k.sp.keep kk (hn' _ (by omega))).keep k2 (by omega),sl.keep k2 sz fun b hb=>by omega,by rw[get_set_same rfl,hm,he],?_,?_,?_,by rw[H.next_set];omega⟩
 ·rw[e3,e4,e5];exact k2.2 _ _ (kk.2 _ _ k.gt (hn' _ (by omega))) (by omega)
 ·exact k2.2 _ _ (kk.2 _ _ k.g0 (hn' _ (by omega))) (by omega)
 ·exact k2.2 _ _ (kk.2 _ _ k.g1 (hn' _ (by omega))) (by omega)
theorem Mi.putT (k:Mi h0 p x n1 c0 a ss gg tt T v z)(hw:h0.wf)(hp:p<c0)(hn:c0+4=n1)(hc:h0.next≤c0){S:Nat→Prop}(kk:Keeps S z z5)(hS:∀b,S b→n1≤b)(sl:Sl6 h0 z5 n1 v' sz6 (rowsM a ss' gg' tt'))
  (e0:v' 0=v 0) (e1:v' 1=v 1) (e2:v' 2=v 2):Mi h0 p x n1 c0 a ss' gg' tt' T v' (z5.set (c0+3) (.cells .rw [v' 3,v' 4,v' 5])):=by
 have hn':∀b,b<n1→¬S b:=fun b hb q=>by have:=hS b q;omega
 have s5:=(sl.o 0 (by omega)).1
 have l5:=kk.1
 have lz:=k.nx
 have sz:h0.Sub (z5.set (c0+3) (.cells .rw [v' 3,v' 4,v' 5])):=s5.set (by omega) (by omega) hw _
 have k2:=Keeps.set z5 (c0+3) (.cells .rw [v' 3,v' 4,v' 5])
 refine⟨sz,(k.sp.keep kk (hn' _ (by omega))).keep k2 (by omega),sl.keep k2 sz fun b hb=>by omega,?_,get_set_same rfl,?_,?_,by rw[H.next_set];omega⟩
 ·rw[e0,e1,e2];exact k2.2 _ _ (kk.2 _ _ k.ga (hn' _ (by omega))) (by omega)
 ·exact k2.2 _ _ (kk.2 _ _ k.g0 (hn' _ (by omega))) (by omega)
 ·exact k2.2 _ _ (kk.2 _ _ k.g1 (hn' _ (by omega))) (by omega)
structure MkOk (a:At)(ss gg tt:List Int):Prop where
 m:1≤a.mins∧a.mins≤240
 e:1≤a.evs∧a.evs≤4
 cl:a.cks.length≤2
 rl:a.rds.length≤6
 gl:a.gps.length≤2
 ls:ss.length=a.cks.length
 lg:gg.length=a.cks.length
 lt:tt.length≤4
 ck:∀(k:Nat) c s g,a.cks[k]? =some c→ss[k]? =some s→gg[k]? =some g→c.sl≤s∧s≤c.sh∧c.gl≤g∧g≤c.gh
 cb:∀c∈a.cks, -60≤c.sl∧c.sh≤60∧ -30≤c.gl∧c.gh≤30∧c.sl≤c.sh∧c.gl≤c.gh∧c.sh-c.sl≤3∧c.gh-c.gl≤3
 tm:∀t∈tt,0≤t∧t≤a.mins
 rd:∀r∈a.rds,0≤r.ck∧0≤r.ev∧∃s g t,ss[r.ck.toNat]? =some s∧gg[r.ck.toNat]? =some g∧tt[r.ev.toNat]? =some t∧r.sh=shw s g t
 gp:∀g∈a.gps,0≤g.fr∧0≤g.to∧∃t1 t2,tt[g.fr.toNat]? =some t1∧tt[g.to.toNat]? =some t2∧g.lo≤t2-t1∧t2-t1≤g.hi∧ -240≤g.lo∧g.hi≤240
theorem getl {α:Type}{l:List α}{i:Nat}{x:α}(h:l[i]? =some x):i<l.length:=by
 rcases Nat.lt_or_ge i l.length with q|q
 ·exact q
 ·rw[List.getElem?_eq_none q] at h;cases h
theorem MkOk.run {a:At}{ss gg tt:List Int}(k:MkOk a ss gg tt){i:Nat}{s g:Int}(hs:ss[i]? =some s)(hg:gg[i]? =some g):RunIn s g:=by
 have hi:=getl hs
 rw[k.ls] at hi
 have h1:=k.ck i _ s g (List.getElem?_eq_getElem hi) hs hg
 have h2:=k.cb _ (List.getElem_mem hi)
 exact⟨by omega,by omega,by omega,by omega⟩
theorem MkOk.right {a:At}{ss gg tt:List Int}(k:MkOk a ss gg tt)(hl:(tt.length:Int)=a.evs):Right a:=by
 have hm:=k.m;have he:=k.e;have h1:=k.cl;have h2:=k.rl;have h3:=k.gl
 refine⟨?_,fun c hc=>?_,fun r hr=>?_,fun g hg=>?_,fun r hr=>?_,fun g hg=>?_,fun c hc=>?_,fun g hg=>?_,fun c hc=>?_⟩
 ·simp only[At.sz,Bool.and_eq_true,decide_eq_true_eq,inB_iff];omega
 ·have:=k.cb c hc
  simp only[Ck.bd,within,Bool.and_eq_true,inB_iff];omega
 ·obtain⟨_,_,s,g,t,e1,e2,e3,e4⟩:=k.rd r hr
  have ht:=k.tm t (List.mem_of_getElem? e3)
  have:=shw_bd (k.run e1 e2) ht.1 (by omega)
  simp only[Rd.bd,inB_iff];omega
 ·obtain⟨_,_,t1,t2,e1,e2,e3,e4,e5,e6⟩:=k.gp g hg
  have q1:=k.tm t1 (List.mem_of_getElem? e1)
  have q2:=k.tm t2 (List.mem_of_getElem? e2)
  simp only[Gp.bd,within,Bool.and_eq_true,inB_iff];omega
 ·obtain⟨_,_,s,g,t,e1,e2,e3,e4⟩:=k.rd r hr
  have q1:=getl e1;have q2:=getl e3;have q3:=k.ls
  simp only[At.rdOk,At.ckB,At.evB,Bool.and_eq_true,inB_iff];omega
 ·obtain⟨_,_,t1,t2,e1,e2,e3,e4,e5,e6⟩:=k.gp g hg
  have q1:=getl e1;have q2:=getl e2
  simp only[At.gpOk,At.evB,Bool.and_eq_true,inB_iff];omega
 ·have:=k.cb c hc
  simp only[Ck.ord,Bool.and_eq_true,decide_eq_true_eq];omega
 ·obtain⟨_,_,t1,t2,e1,e2,e3,e4,e5,e6⟩:=k.gp g hg
  simp only[Gp.ord,decide_eq_true_eq];omega
 ·have:=k.cb c hc
  simp only[Ck.sm,Bool.and_eq_true,decide_eq_true_eq];omega
def timeF (tt:List Int)(e:Nat):Int:=tt.getD e 0
theorem timeF_at {tt:List Int}{e:Nat}{t:Int}(h:tt[e]? =some t):timeF tt e=t:=by unfold timeF;rw[List.getD_eq_getElem?_getD,h];rfl
theorem MkOk.tru {a:At}{ss gg tt:List Int}(k:MkOk a ss gg tt):Tru a (fun _=>true) (ss.zip gg) (timeF tt):=by
 have hm:=k.m
 have zp:∀{i:Nat} {s:Int × Int},(ss.zip gg)[i]? =some s→ss[i]? =some s.1∧gg[i]? =some s.2:=fun{i s} h=>by
  have:=List.getElem?_zip_eq_some.1 h
  exact this
 refine⟨by rw[List.length_zip,k.ls,k.lg,Nat.min_self],fun i s hs=>?_,?_,fun e he=>?_,fun g hg=>?_,fun j r hr _ s hs=>?_⟩
 ·obtain⟨h1,h2⟩:=zp hs
  have hi:=getl h1
  rw[k.ls] at hi
  have hc:a.cks[i]? =some a.cks[i]:=List.getElem?_eq_getElem hi
  obtain⟨q1,q2,q3,q4⟩:=k.ck i _ _ _ hc h1 h2
  exact RunOf.mk' hc q1 q2 q3 q4
 ·unfold timeF
  rw[List.getD_eq_getElem?_getD,List.getElem?_eq_none k.lt];rfl
 ·unfold timeF
  rw[List.getD_eq_getElem?_getD]
  cases h:tt[e]? with
  |none=>exact⟨Int.le_refl _,by show(0:Int)≤_;omega⟩
  |some t=>exact k.tm t (List.mem_of_getElem? h)
 ·obtain⟨_,_,t1,t2,e1,e2,e3,e4,e5,e6⟩:=k.gp g hg
  rw[timeF_at e1,timeF_at e2];exact⟨e3,e4⟩
 ·obtain⟨_,_,s',g,t,e1,e2,e3,e4⟩:=k.rd r (List.mem_of_getElem? hr)
  obtain⟨h1,h2⟩:=zp hs
  rw[e1] at h1;rw[e2] at h2
  cases h1;cases h2
  rw[timeF_at e3,e4]
end Go.Ab.Tryz
namespace Go.Ab.Tryz
open Go.Proofs
structure MkAt (h0 h:H)(p:Nat)(x:V)(T:Int)(a:At)(ss gg tt:List Int)(C R G S Ga Tm:V):Prop where
 s:h0.Sub h
 sp:SpAt h p x T
 at_:AtAt h C R G a
 as_:SlAt h S 1 (ss.map encI)
 ag:SlAt h Ga 1 (gg.map encI)
 am:SlAt h Tm 1 (tt.map encI)
 ok:MkOk a ss gg tt
 lt:(tt.length:Int)=a.evs
theorem rowsUp {a a':At}{ss gg tt ss' gg' tt':List Int}{j:Nat}{r:List V}(h0:updF (rowsM a ss gg tt) j (rowsM a ss gg tt j++[r]) 0=a'.cks.map encC)(h1:updF (rowsM a ss gg tt) j (rowsM a ss gg tt j++[r]) 1=a'.rds.map encR)(h2:updF (rowsM a ss gg tt) j (rowsM a ss gg tt j++[r]) 2=a'.gps.map encG)
  (h3:updF (rowsM a ss gg tt) j (rowsM a ss gg tt j++[r]) 3=ss'.map encI) (h4:updF (rowsM a ss gg tt) j (rowsM a ss gg tt j++[r]) 4=gg'.map encI) (h5:updF (rowsM a ss gg tt) j (rowsM a ss gg tt j++[r]) 5=tt'.map encI):∀i,i<6→updF (rowsM a ss gg tt) j (rowsM a ss gg tt j++[r]) i=rowsM a' ss' gg' tt' i:=fun i hi=>by
 rcases(by omega:i=0∨i=1∨i=2∨i=3∨i=4∨i=5) with rfl|rfl|rfl|rfl|rfl|rfl
 ·exact h0
 ·exact h1
 ·exact h2
 ·exact h3
 ·exact h4
 ·exact h5
theorem rows0 {a:At}{ss gg tt:List Int}{c:Ck}:∀i,i<6→updF (rowsM a ss gg tt) 0 (rowsM a ss gg tt 0++[encC c]) i=rowsM {a with cks:=a.cks++[c]} ss gg tt i:=rowsUp (by simp[updF,rowsM]) (by simp[updF,rowsM]) (by simp[updF,rowsM]) (by simp[updF,rowsM]) (by simp[updF,rowsM]) (by simp[updF,rowsM])
theorem rows1 {a:At}{ss gg tt:List Int}{c:Rd}:∀i,i<6→updF (rowsM a ss gg tt) 1 (rowsM a ss gg tt 1++[encR c]) i=rowsM {a with rds:=a.rds++[c]} ss gg tt i:=rowsUp (by simp[updF,rowsM]) (by simp[updF,rowsM]) (by simp[updF,rowsM]) (by simp[updF,rowsM]) (by simp[updF,rowsM]) (by simp[updF,rowsM])
theorem rows2 {a:At}{ss gg tt:List Int}{c:Gp}:∀i,i<6→updF (rowsM a ss gg tt) 2 (rowsM a ss gg tt 2++[encG c]) i=rowsM {a with gps:=a.gps++[c]} ss gg tt i:=rowsUp (by simp[updF,rowsM]) (by simp[updF,rowsM]) (by simp[updF,rowsM]) (by simp[updF,rowsM]) (by simp[updF,rowsM]) (by simp[updF,rowsM])
theorem rows3 {a:At}{ss gg tt:List Int}{c:Int}:∀i,i<6→updF (rowsM a ss gg tt) 3 (rowsM a ss gg tt 3++[encI c]) i=rowsM a (ss++[c]) gg tt i:=rowsUp (by simp[updF,rowsM]) (by simp[updF,rowsM]) (by simp[updF,rowsM]) (by simp[updF,rowsM]) (by simp[updF,rowsM]) (by simp[updF,rowsM])
theorem rows4 {a:At}{ss gg tt:List Int}{c:Int}:∀i,i<6→updF (rowsM a ss gg tt) 4 (rowsM a ss gg tt 4++[encI c]) i=rowsM a ss (gg++[c]) tt i:=rowsUp (by simp[updF,rowsM]) (by simp[updF,rowsM]) (by simp[updF,rowsM]) (by simp[updF,rowsM]) (by simp[updF,rowsM]) (by simp[updF,rowsM])
theorem rows5 {a:At}{ss gg tt:List Int}{c:Int}:∀i,i<6→updF (rowsM a ss gg tt) 5 (rowsM a ss gg tt 5++[encI c]) i=rowsM a ss gg (tt++[c]) i:=rowsUp (by simp[updF,rowsM]) (by simp[updF,rowsM]) (by simp[updF,rowsM]) (by simp[updF,rowsM]) (by simp[updF,rowsM]) (by simp[updF,rowsM])
theorem get_app1 {α:Type}{l:List α}{x y:α}{i:Nat}(h:(l++[x])[i]? =some y):l[i]? =some y∧i<l.length∨i=l.length∧y=x:=by
 rcases Nat.lt_or_ge i l.length with q|q
 ·rw[List.getElem?_append_left q] at h;exact .inl ⟨h,q⟩
 ·rw[List.getElem?_append_right q] at h
  have:i-l.length=0:=by
   cases hh:i-l.length with
   |zero=>rfl
   |succ n=>rw[hh] at h;simp at h
  rw[this] at h
  cases h
  exact .inr ⟨by omega,rfl⟩
theorem get_more {α:Type}{l:List α}{x y:α}{i:Nat}(h:l[i]? =some y):(l++[x])[i]? =some y:=by rw[List.getElem?_append_left (getl h)];exact h
theorem MkOk.clock {a:At}{ss gg tt:List Int}(k:MkOk a ss gg tt)(hl:a.cks.length+1≤2){sl sh gl gh st gn:Int}(h1:sl≤st∧st≤sh)(h2:gl≤gn∧gn≤gh)(h3: -60≤sl∧sh≤60∧sh-sl≤3)(h4: -30≤gl∧gh≤30∧gh-gl≤3):
  MkOk {a with cks:=a.cks++[⟨sl,sh,gl,gh⟩]} (ss++[st]) (gg++[gn]) tt:=by
 refine⟨k.m,k.e,by simp only[List.length_append,List.length_singleton];exact hl,k.rl,k.gl,by simp only[List.length_append,List.length_singleton,k.ls],by simp only[List.length_append,List.length_singleton,k.lg],k.lt,fun i c s g hc hs hg=>?_,fun c hc=>?_,k.tm,fun r hr=>?_,k.gp⟩
 ·have ls:=k.ls;have lg:=k.lg
  rcases get_app1 hc with⟨hc,q⟩|⟨q,rfl⟩
  ·rcases get_app1 hs with⟨hs,_⟩|⟨q2,_⟩
   ·rcases get_app1 hg with⟨hg,_⟩|⟨q3,_⟩
    ·exact k.ck i c s g hc hs hg
    ·omega
   ·omega
  ·rcases get_app1 hs with⟨_,q2⟩|⟨_,rfl⟩
   ·omega
   ·rcases get_app1 hg with⟨_,q3⟩|⟨_,rfl⟩
    ·omega
    ·exact⟨h1.1,h1.2,h2.1,h2.2⟩
 ·rcases List.mem_append.1 hc with hc|hc
  ·exact k.cb c hc
  ·rw[List.mem_singleton] at hc;subst hc
   exact⟨h3.1,h3.2.1,h4.1,h4.2.1,Int.le_trans h1.1 h1.2,Int.le_trans h2.1 h2.2,h3.2.2,h4.2.2⟩
 ·obtain⟨r1,r2,s,g,t,e1,e2,e3,e4⟩:=k.rd r hr
  exact⟨r1,r2,s,g,t,get_more e1,get_more e2,e3,e4⟩
theorem MkOk.read {a:At}{ss gg tt:List Int}(k:MkOk a ss gg tt)(hl:a.rds.length+1≤6){i e:Nat}{s g t:Int}(e1:ss[i]? =some s)(e2:gg[i]? =some g)(e3:tt[e]? =some t):MkOk {a with rds:=a.rds++[⟨i,e,shw s g t⟩]} ss gg tt:=by
 refine⟨k.m,k.e,k.cl,by simp only[List.length_append,List.length_singleton];exact hl,k.gl,k.ls,k.lg,k.lt,k.ck,k.cb,k.tm,fun r hr=>?_,k.gp⟩
 rcases List.mem_append.1 hr with hr|hr
 ·exact k.rd r hr
 ·rw[List.mem_singleton] at hr;subst hr
  exact⟨Int.natCast_nonneg _,Int.natCast_nonneg _,s,g,t,e1,e2,e3,rfl⟩
theorem MkOk.gap {a:At}{ss gg tt:List Int}(k:MkOk a ss gg tt)(hl:a.gps.length+1≤2){i e:Nat}{t1 t2 lo hi:Int}(e1:tt[i]? =some t1)(e2:tt[e]? =some t2)(h1:lo≤t2-t1∧t2-t1≤hi)(h2: -240≤lo∧hi≤240):MkOk {a with gps:=a.gps++[⟨i,e,lo,hi⟩]} ss gg tt:=by
 refine⟨k.m,k.e,k.cl,k.rl,by simp only[List.length_append,List.length_singleton];exact hl,k.ls,k.lg,k.lt,k.ck,k.cb,k.tm,k.rd,fun g hg=>?_⟩
 rcases List.mem_append.1 hg with hg|hg
 ·exact k.gp g hg
 ·rw[List.mem_singleton] at hg;subst hg
  exact⟨Int.natCast_nonneg _,Int.natCast_nonneg _,t1,t2,e1,e2,h1.1,h1.2,h2.1,h2.2⟩
theorem Mi.side {h0 z z5:H}{p:Nat}{x:V}{n1 c0:Nat}{a:At}{ss gg tt:List Int}{T:Int}{v:Nat→V}(k:Mi h0 p x n1 c0 a ss gg tt T v z)(hp:p<c0)(hn:c0+4=n1){b0:Nat}(hb:n1≤b0)(hne:∀i,i<6→∀b,blkOf (v i) b→b≠b0)(s:h0.Sub z5)(kk:Keeps (fun b=>b=b0) z z5):Mi h0 p x n1 c0 a ss gg tt T v z5:=
 ⟨s,k.sp.keep kk (by omega),⟨fun i hi=>(k.sl.o i hi).keep kk s fun b hb q=>hne i hi b hb q,k.sl.lo,k.sl.dj⟩,kk.2 _ _ k.ga (by omega),kk.2 _ _ k.gt (by omega),kk.2 _ _ k.g0 (by omega),kk.2 _ _ k.g1 (by omega),by have:=kk.1;have:=k.nx;omega⟩
structure FT (p c0:Nat)(K N:Int)(tm:T V):Prop where
 t0:(Opd.t 0).ev tm=.ptr p 0
 t3:(Opd.t 3).ev tm=.int .i64 K
 t4:(Opd.t 4).ev tm=.int .i64 N
 t10:(Opd.t 10).ev tm=.ptr c0 0
 t11:(Opd.t 11).ev tm=.ptr (c0+1) 0
 t12:(Opd.t 12).ev tm=.ptr (c0+2) 0
 t13:(Opd.t 13).ev tm=.ptr (c0+3) 0
set_option maxHeartbeats 8000000 in
theorem Made_ev {h0 h:H}{p:Nat}{x:V}{bs:List Int}{T:Int}(hs:h0.Sub h)(hw0:h0.wf)(hx:SlAt h0 x 1 (bs.map encU8))(hp0:h0.next≤p)(hp:SpAt h p x T)(hT:0≤T∧T≤10000000){M E K N:Int}(hM:1≤M∧M≤240)(hE:1≤E∧E≤4)(hK:0≤K∧K≤2)(hN:0≤N∧N≤6)(Q:V→H→Prop)
  (q:∀h' T' a ss gg tt C R G S Ga Tm,MkAt h0 h' p x T' a ss gg tt C R G S Ga Tm→Q (.tup [.agg (atV a C R G),.agg [S,Ga,Tm]]) h'):Ev fnG fastA (.fn 14 [] []) [.ptr p 0,.int .i64 M,.int .i64 E,.int .i64 K,.int .i64 N] h Q:=by
 have hw:=hs.wf
 have l0:=hs.next
 have hlp:p<h.next:=by obtain⟨st,g⟩:=hp;exact hw _ _ g
 refine Ev_body (fd:=c14) rfl rfl rfl ?_
 have s1:h.Sub ((h.add (.cells .rw [.int .i64 0,.int .i64 0,.nils,.nils,.nils])).add (.cells .rw [.nils,.nils,.nils])):=(by repeat(first|assumption|exact H.Sub.refl (by assumption)|refine H.Sub.add ?_ _|refine H.Sub.set ?_ (by first|omega|(simp only[H.next_add,H.next_set,H.next_del]<;>omega)) (by first|omega|(simp only[H.next_add,H.next_set,H.next_del]<;>omega)) (by assumption) _))
 have a0:((h.add (.cells .rw [.int .i64 0,.int .i64 0,.nils,.nils,.nils])).add (.cells .rw [.nils,.nils,.nils])).get h.next=some (.cells .rw [.int .i64 0,.int .i64 0,.nils,.nils,.nils]):=by simp -implicitDefEqProofs(maxSteps:=999999)(disch:=first|with_reducible rfl|omega|(simp only[nA,nS,nD]<;>omega)|fail)only[go_sem]
 have a1:((h.add (.cells .rw [.int .i64 0,.int .i64 0,.nils,.nils,.nils])).add (.cells .rw [.nils,.nils,.nils])).get (h.next+1)=some (.cells .rw [.nils,.nils,.nils]):=by simp -implicitDefEqProofs(maxSteps:=999999)(disch:=first|with_reducible rfl|omega|(simp only[nA,nS,nD]<;>omega)|fail)only[go_sem]
 have n1:((h.add (.cells .rw [.int .i64 0,.int .i64 0,.nils,.nils,.nils])).add (.cells .rw [.nils,.nils,.nils])).next=h.next+2:=by simp only[H.next_add]
 simp -implicitDefEqProofs(maxSteps:=999999)(disch:=first|with_reducible rfl|omega|(simp only[nA,nS,nD]<;>omega)|fail)only[c14,go_sem]
 generalize(h.add (.cells .rw [.int .i64 0,.int .i64 0,.nils,.nils,.nils])).add (.cells .rw [.nils,.nils,.nils])=h1 at s1 a0 a1 n1⊢
 refine From_ev (hs.trans s1) hw0 hx hp0 (hp.mono s1) (by omega) (by omega) (by omega) _ fun mins h2 m0 m1 s2 p2 k2 n2=>?_
 simp -implicitDefEqProofs(maxSteps:=999999)(disch:=first|with_reducible rfl|omega|(simp only[nA,nS,nD]<;>omega)|fail)only[go_sem]
 refine From_ev s2 hw0 hx hp0 p2 (by omega) (by omega) (by omega) _ fun evs h3 v0 v1 s3 p3 k3 n3=>?_
 have b0:=k3.2 _ _ (k2.2 _ _ a0 (by omega)) (by omega)
 have b1:=k3.2 _ _ (k2.2 _ _ a1 (by omega)) (by omega)
 have n3':h3.next=h.next+2:=by omega
 have e2:h.next+2=h3.next:=n3'.symm
 obtain⟨c0,hc0⟩:∃c0,h.next=c0:=⟨_,rfl⟩
 have k0:Mi h0 p x (c0+4) c0 ⟨mins,evs,[],[],[]⟩ [] [] [] (T+2) (fun _=>.nils) ((h3.add (.cells .rw [.int .i64 mins,.int .i64 evs,.nils,.nils,.nils])).add (.cells .rw [.nils,.nils,.nils])):=by
  have s5:h3.Sub ((h3.add (.cells .rw [.int .i64 mins,.int .i64 evs,.nils,.nils,.nils])).add (.cells .rw [.nils,.nils,.nils])):=((H.Sub.refl s3.wf).add _).add _
  have p3':=p3.mono s5
  rw[show T+1+1=T+2 by omega] at p3'
  refine⟨s3.trans s5,p3',⟨fun i hi=>?_,fun i hi b hb=>(blkOf_nils hb).elim,fun i j _ _ _ b hb=>(blkOf_nils hb).elim⟩,?_,?_,?_,?_,by simp only[H.next_add];omega⟩
  ·have:rowsM ⟨mins,evs,[],[],[]⟩ [] [] [] i=[]:=by rcases(by omega:i=0∨i=1∨i=2∨i=3∨i=4∨i=5) with rfl|rfl|rfl|rfl|rfl|rfl<;>rfl
   rw[this];exact(OwnSl.nil (s3.trans s5) _).c
  ·rw[get_add_old (by rw[H.next_add];omega),get_add_new (by omega)]
  ·rw[get_add_new (by rw[H.next_add];omega)]
  ·rw[←hc0];exact s5.get b0
  ·rw[←hc0];exact s5.get b1
 have hlp0:p<c0:=by omega
 have l00:h0.next≤c0:=by omega
 simp -implicitDefEqProofs(maxSteps:=999999)(disch:=first|with_reducible rfl|omega|(simp only[nA,nS,nD]<;>omega)|fail)only[go_sem]
 generalize(h3.add (.cells .rw [.int .i64 mins,.int .i64 evs,.nils,.nils,.nils])).add (.cells .rw [.nils,.nils,.nils])=h4 at k0⊢
 rw[n3',hc0,show c0+2+1=c0+3 from rfl]
 obtain⟨ev,hev⟩:∃ev:Nat,evs=ev:=⟨evs.toNat,by omega⟩
 subst hev
 refine W_count ev (fun i s=>∃tm z v tt T',s=⟨tm,z,[]⟩∧Mi h0 p x (c0+4) c0 ⟨mins,ev,[],[],[]⟩ [] [] tt T' v z∧tt.length=i∧(∀t∈tt,0≤t∧t≤mins)∧(0≤T'∧T'≤T+2+i)∧FT p c0 K N tm∧(Opd.t 26).ev tm=.int .i64 (ev:Int)∧(Opd.t 27).ev tm=.int .i64 (i:Int)) ?_ ?_ (i:=0) (Nat.zero_le _)
  ⟨_,_,_,[],_,rfl,k0,rfl,fun t ht=>absurd ht List.not_mem_nil,by omega,⟨(by simp[ev_c,ev_put]<;>rfl),(by simp[ev_c,ev_put]<;>rfl),(by simp[ev_c,ev_put]<;>rfl),(by simp[ev_c,ev_put]<;>rfl),(by simp[ev_c,ev_put]<;>rfl),(by simp[ev_c,ev_put]<;>rfl),(by simp[ev_c,ev_put]<;>rfl)⟩,(by simp[ev_c,ev_put]<;>rfl),(by simp[ev_c,ev_put]<;>rfl)⟩
 ·rintro i s hi ⟨tm,z,v,tt,T',rfl,k,lt,ht,hT',⟨e0,e3,e4,e10,e11,e12,e13⟩,e26,e27⟩
  have hi':(i:Int)<(ev:Int):=by omega
  have lz:=k.nx
  simp -implicitDefEqProofs(maxSteps:=999999)(disch:=first|with_reducible rfl|omega|(simp only[nA,nS,nD]<;>omega)|fail)only[go_sem,e0,e12,e13,e26,e27,hi',cells_of k.ga,cells_of k.gt]
  refine Upto_ev k.s hw0 hx hp0 k.sp (by omega) (by omega) _ fun r z1 r0 r1 u1 p1 q1 nn1=>?_
  have k1:=k.turn hlp0 rfl u1 p1 q1
  have u2:=(H.Sub.refl u1.wf).add (.cells .rw [.int .i64 r])
  have k2:=k1.mono u2
  have o2:=k2.sl.o 5 (by decide)
  have ov3:=(k2.sl.o 3 (by decide)).one
  have ov4:=(k2.sl.o 4 (by decide)).one
  have sn:SlAt (z1.add (.cells .rw [.int .i64 r])) (.sl z1.next 0 1 (.fix 1)) 1 [encI r]:=SlAt.new _ rfl rfl rfl (by simp[encI]) (by simp)
  have lr:(rowsM ⟨mins,ev,[],[],[]⟩ [] [] tt 5).length≤4:=by show(tt.map encI).length≤4;rw[List.length_map];omega
  simp -implicitDefEqProofs(maxSteps:=999999)(disch:=first|with_reducible rfl|omega|(simp only[nA,nS,nD]<;>omega)|fail)only[go_sem,e0,e12,e13,e26,e27,cells_of k.ga,cells_of k.gt,cells_of k1.ga,cells_of k1.gt]
  generalize z1.add (.cells .rw [.int .i64 r])=z2 at u2 k2 o2 sn⊢
  refine o2.app1 (by_:=8) (r:=encI r) hw0 rfl (by decide) sn rfl (by omega) (by omega) fun w z5 o5 n5 k5=>?_
  have ow:=o5.one
  have nb:¬blkOf (v 5) (c0+3):=fun hb=>by have:=k2.sl.lo 5 (by decide) _ hb;omega
  have g5:=k5.2 _ _ k2.gt nb
  have km:=k2.putT hw0 hlp0 rfl l00 k5 (fun b hb=>k2.sl.lo 5 (by decide) b hb) ((k2.sl.app (by decide) o5 n5 k2.nx k5).rw rows5) rfl rfl rfl
  simp -implicitDefEqProofs(maxSteps:=999999)(disch:=first|with_reducible rfl|omega|(simp only[nA,nS,nD]<;>omega)|fail)only[go_sem,e0,e12,e13,e26,e27,g5,ow,cells_one ow,wr_succ,cells_of k.ga,cells_of k1.ga,cells_of k2.ga,cells_of k.gt,cells_of k1.gt,cells_of k2.gt,cells_of g5]
  exact⟨_,_,_,tt++[r],T'+1,rfl,km,by rw[List.length_append,List.length_singleton];omega,fun t h=>(List.mem_append.1 h).elim (ht t) fun h=>by rw[List.mem_singleton] at h;subst h;omega,by omega,⟨(by simp[ev_c,ev_put,e0]<;>rfl),(by simp[ev_c,ev_put,e3]<;>rfl),(by simp[ev_c,ev_put,e4]<;>rfl),(by simp[ev_c,ev_put,e10]<;>rfl),(by simp[ev_c,ev_put,e11]<;>rfl),(by simp[ev_c,ev_put,e12]<;>rfl),(by simp[ev_c,ev_put,e13]<;>rfl)⟩,(by simp[ev_c,ev_put,e26]<;>rfl),(by simp[ev_c,ev_put]<;>rfl)⟩
 ·rintro s ⟨tm,z,v,tt,T',rfl,k,lt,ht,hT',⟨e0,e3,e4,e10,e11,e12,e13⟩,e26,e27⟩
  have hi':¬((ev:Int)<(ev:Int)):=by omega
  simp -implicitDefEqProofs(maxSteps:=999999)(disch:=first|with_reducible rfl|omega|(simp only[nA,nS,nD]<;>omega)|fail)only[go_sem,e0,e3,e4,e10,e11,e12,e13,e26,e27,hi']
  have lte:tt.length≤4:=by omega
  have rt:(tt.length:Int)=ev:=by omega
  refine Upto_ev k.s hw0 hx hp0 k.sp (by omega) (by omega) _ fun nc z1 c0' c1' u1 p1 q1 nn1=>?_
  obtain⟨nk,hnk⟩:∃nk:Nat,nc=nk:=⟨nc.toNat,by omega⟩
  subst hnk
  have k:=k.turn hlp0 rfl u1 p1 q1
  have mk:MkOk ⟨mins,ev,[],[],[]⟩ [] [] tt:=⟨by show 1≤mins∧mins≤240;omega,by show 1≤(ev:Int)∧(ev:Int)≤4;omega,Nat.zero_le _,Nat.zero_le _,Nat.zero_le _,rfl,rfl,lte,fun k c s g h=>by simp at h,fun c h=>absurd h List.not_mem_nil,ht,fun r h=>absurd h List.not_mem_nil,fun g h=>absurd h List.not_mem_nil⟩
  simp -implicitDefEqProofs(maxSteps:=999999)(disch:=first|with_reducible rfl|omega|(simp only[nA,nS,nD]<;>omega)|fail)only[go_sem,e0,e3,e4,e10,e11,e12,e13]
  refine W_count nk (fun i s=>∃tm z v a ss gg T',s=⟨tm,z,[]⟩∧Mi h0 p x (c0+4) c0 a ss gg tt T' v z∧MkOk a ss gg tt∧a.mins=mins∧a.evs=ev∧a.cks.length=i∧a.rds=[]∧a.gps=[]∧(0≤T'∧T'≤T+20+10*i)∧FT p c0 K N tm∧(Opd.t 41).ev tm=.int .i64 (nk:Int)∧(Opd.t 42).ev tm=.int .i64 (i:Int)) ?_ ?_ (i:=0) (Nat.zero_le _)
   ⟨_,_,_,_,[],[],_,rfl,k,mk,rfl,rfl,rfl,rfl,rfl,by omega,⟨(by simp[ev_c,ev_put,e0]<;>rfl),(by simp[ev_c,ev_put,e3]<;>rfl),(by simp[ev_c,ev_put,e4]<;>rfl),(by simp[ev_c,ev_put,e10]<;>rfl),(by simp[ev_c,ev_put,e11]<;>rfl),(by simp[ev_c,ev_put,e12]<;>rfl),(by simp[ev_c,ev_put,e13]<;>rfl)⟩,(by simp[ev_c,ev_put]<;>rfl),(by simp[ev_c,ev_put]<;>rfl)⟩
  ·clear mk k
   rintro i s hi ⟨tm,z,v,a,ss,gg,T',rfl,k,mk,am,ae,la,ar,ag,hT',⟨e0,e3,e4,e10,e11,e12,e13⟩,e41,e42⟩
   have hi':(i:Int)<(nk:Int):=by omega
   simp -implicitDefEqProofs(maxSteps:=999999)(disch:=first|with_reducible rfl|omega|(simp only[nA,nS,nD]<;>omega)|fail)only[go_sem,e0,e12,e13,e41,e42,hi']
   refine From_ev k.s hw0 hx hp0 k.sp (by omega) (by omega) (by omega) _ fun st za sa0 sa1 ua pa qa _=>?_
   have ka:=k.turn hlp0 rfl ua pa qa
   simp -implicitDefEqProofs(maxSteps:=999999)(disch:=first|with_reducible rfl|omega|(simp only[nA,nS,nD]<;>omega)|fail)only[go_sem,e0,e12,e13,e41,e42]
   refine From_ev ka.s hw0 hx hp0 ka.sp (by omega) (by omega) (by omega) _ fun gn zb gb0 gb1 ub pb qb _=>?_
   have kb:=ka.turn hlp0 rfl ub pb qb
   simp -implicitDefEqProofs(maxSteps:=999999)(disch:=first|with_reducible rfl|omega|(simp only[nA,nS,nD]<;>omega)|fail)only[go_sem,e0,e12,e13,e41,e42,cells_of kb.ga,cells_of kb.gt]
   refine around_ev kb.s hw0 hx hp0 kb.sp (by omega) (by omega) (by omega) (by omega) _ fun sl sh zc r1 r2 r3 r4 r5 uc pc qc=>?_
   have kc:=kb.turn hlp0 rfl uc pc qc
   simp -implicitDefEqProofs(maxSteps:=999999)(disch:=first|with_reducible rfl|omega|(simp only[nA,nS,nD]<;>omega)|fail)only[go_sem,e0,e12,e13,e41,e42,cells_of kb.ga,cells_of kb.gt,cells_of kc.ga,cells_of kc.gt]
   refine around_ev kc.s hw0 hx hp0 kc.sp (by omega) (by omega) (by omega) (by omega) _ fun gl gh zd y1 y2 y3 y4 y5 ud pd qd=>?_
   have kd:=kc.turn hlp0 rfl ud pd qd
   have ue:=(H.Sub.refl ud.wf).add (.cells .rw [.int .i64 sl,.int .i64 sh,.int .i64 gl,.int .i64 gh])
   have ke:=kd.mono ue
   have o0:=ke.sl.o 0 (by decide)
   have sn:SlAt (zd.add (.cells .rw [.int .i64 sl,.int .i64 sh,.int .i64 gl,.int .i64 gh])) (.sl zd.next 0 1 (.fix 1)) 4 [encC ⟨sl,sh,gl,gh⟩]:=SlAt.new _ rfl rfl rfl (by simp[encC]) (by simp)
   have hcl:=mk.cl
   have lr:(rowsM a ss gg tt 0).length≤2:=by show(a.cks.map encC).length≤2;rw[List.length_map];omega
   simp -implicitDefEqProofs(maxSteps:=999999)(disch:=first|with_reducible rfl|omega|(simp only[nA,nS,nD]<;>omega)|fail)only[go_sem,e0,e12,e13,e41,e42,cells_of kb.ga,cells_of kb.gt,cells_of kc.ga,cells_of kc.gt,cells_of kd.ga,cells_of kd.gt]
   generalize zd.add (.cells .rw [.int .i64 sl,.int .i64 sh,.int .i64 gl,.int .i64 gh])=ze at ue ke o0 sn⊢
   refine o0.app1 (by_:=32) (r:=encC ⟨sl,sh,gl,gh⟩) hw0 rfl (by decide) sn rfl (by omega) (by omega) fun w zf of nf kf=>?_
   have ow:=of.one
   have nb:¬blkOf (v 0) (c0+2):=fun hb=>by have:=ke.sl.lo 0 (by decide) _ hb;omega
   have nb3:¬blkOf (v 0) (c0+3):=fun hb=>by have:=ke.sl.lo 0 (by decide) _ hb;omega
   have gf:=kf.2 _ _ ke.ga nb
   have gf3:=kf.2 _ _ ke.gt nb3
   have kg:=ke.putA (a':={a with cks:=a.cks++[⟨sl,sh,gl,gh⟩]}) hw0 hlp0 rfl l00 kf (fun b hb=>ke.sl.lo 0 (by decide) b hb) ((ke.sl.app (by decide) of nf ke.nx kf).rw rows0) rfl rfl rfl rfl rfl
   simp -implicitDefEqProofs(maxSteps:=999999)(disch:=first|with_reducible rfl|omega|(simp only[nA,nS,nD]<;>omega)|fail)only[go_sem,e0,e12,e13,e41,e42,gf,ow,cells_one ow,cells_of kb.ga,cells_of kb.gt,cells_of kc.ga,cells_of kc.gt,cells_of kd.ga,cells_of kd.gt,cells_of ke.ga,cells_of gf,cells_of gf3]
   have nzg:(zf.set (c0+2) (.cells .rw [.int .i64 a.mins,.int .i64 a.evs,w,v 1,v 2])).next=zf.next:=H.next_set _ _ _
   have kg':Mi h0 p x (c0+4) c0 {a with cks:=a.cks++[⟨sl,sh,gl,gh⟩]} ss gg tt (T'+1+1+2+2) (updF v 0 w) (zf.set (c0+2) (.cells .rw [.int .i64 a.mins,.int .i64 a.evs,w,v 1,v 2])):=kg
   generalize zf.set (c0+2) (.cells .rw [.int .i64 a.mins,.int .i64 a.evs,w,v 1,v 2])=zg at kg' nzg⊢
   have uh:=(H.Sub.refl kg'.s.wf).add (.cells .rw [.int .i64 st])
   have kh:=kg'.mono uh
   have o3:OwnC h0 (zg.add (.cells .rw [.int .i64 st])) (v 3) 1 (ss.map encI):=kh.sl.o 3 (by decide)
   have lss:ss.length≤2:=by rw[mk.ls];exact hcl
   have lgg:gg.length≤2:=by rw[mk.lg];exact hcl
   have sn3:SlAt (zg.add (.cells .rw [.int .i64 st])) (.sl zf.next 0 1 (.fix 1)) 1 [encI st]:=SlAt.new _ nzg.symm rfl rfl (by simp[encI]) (by simp)
   have gg1:zg.get (c0+3)=some (.cells .rw [v 3,v 4,v 5]):=kg'.gt
   have gh1:(zg.add (.cells .rw [.int .i64 st])).get (c0+3)=some (.cells .rw [v 3,v 4,v 5]):=kh.gt
   generalize zg.add (.cells .rw [.int .i64 st])=zh at uh kh o3 sn3 gh1⊢
   refine o3.app1 (by_:=8) (r:=encI st) hw0 rfl (by decide) sn3 rfl (by rw[List.length_map];omega) (by rw[List.length_map];omega) fun w3 zi oi ni ki=>?_
   have ow3:=oi.one
   have nb4:¬blkOf (v 3) (c0+3):=fun hb=>by have:=kh.sl.lo 3 (by decide) _ hb;omega
   have gi:=ki.2 _ _ gh1 nb4
   have sl3:=(kh.sl.app (i:=3) (by decide) oi ni kh.nx ki).rw rows3
   have uj:=(H.Sub.refl oi.1.wf).add (.cells .rw [.int .i64 gn])
   have sl3j:=sl3.mono uj
   have o4:OwnC h0 (zi.add (.cells .rw [.int .i64 gn])) (v 4) 1 (gg.map encI):=sl3j.o 4 (by decide)
   have sn4:SlAt (zi.add (.cells .rw [.int .i64 gn])) (.sl zi.next 0 1 (.fix 1)) 1 [encI gn]:=SlAt.new _ rfl rfl rfl (by simp[encI]) (by simp)
   have gj:=uj.get gi
   have lj:=uj.next
   have li:=ki.1
   have lh:=kh.nx
   simp -implicitDefEqProofs(maxSteps:=999999)(disch:=first|with_reducible rfl|omega|(simp only[nA,nS,nD]<;>omega)|fail)only[go_sem,e0,e12,e13,e41,e42,cells_of gg1,cells_of gh1,cells_of gi]
   generalize zi.add (.cells .rw [.int .i64 gn])=zj at uj sl3j o4 sn4 gj lj⊢
   refine o4.app1 (by_:=8) (r:=encI gn) hw0 rfl (by decide) sn4 rfl (by rw[List.length_map];omega) (by rw[List.length_map];omega) fun w4 zk ok nk4 kk=>?_
   have ow4:=ok.one
   have ov5:=(sl3j.o 5 (by decide)).one
   have nb5:¬blkOf (v 4) (c0+3):=fun hb=>by have:=kh.sl.lo 4 (by decide) _ hb;omega
   have gk:=kk.2 _ _ gj nb5
   have sl4:=(sl3j.app (i:=4) (by decide) ok nk4 (by omega) kk).rw rows4
   have kq:Keeps (fun b=>blkOf (v 3) b∨blkOf (v 4) b) zh zk:=((ki.trans (Keeps.of uj (fun _=>False))).trans kk).mono fun b hb=>hb.elim (fun hb=>hb.elim .inl False.elim) .inr
   have km:=kh.putT hw0 hlp0 rfl l00 kq (fun b hb=>hb.elim (kh.sl.lo 3 (by decide) b) (kh.sl.lo 4 (by decide) b)) sl4 rfl rfl rfl
   simp -implicitDefEqProofs(maxSteps:=999999)(disch:=first|with_reducible rfl|omega|(simp only[nA,nS,nD]<;>omega)|fail)only[go_sem,e0,e12,e13,e41,e42,ow3,cells_one ow3,ow4,cells_one ow4,gk,cells_of gg1,cells_of gh1,cells_of gi,cells_of gj,cells_of gk,wr_succ]
   refine⟨_,_,_,_,_,_,_,rfl,km,mk.clock (by omega) ⟨r1,r2⟩ ⟨y1,y2⟩ ⟨r3,r4,r5⟩ ⟨y3,y4,y5⟩,am,ae,by simp only[List.length_append,List.length_singleton];omega,ar,ag,by omega,⟨(by simp[ev_c,ev_put,e0]<;>rfl),(by simp[ev_c,ev_put,e3]<;>rfl),(by simp[ev_c,ev_put,e4]<;>rfl),(by simp[ev_c,ev_put,e10]<;>rfl),(by simp[ev_c,ev_put,e11]<;>rfl),(by simp[ev_c,ev_put,e12]<;>rfl),(by simp[ev_c,ev_put,e13]<;>rfl)⟩,(by simp[ev_c,ev_put,e41]<;>rfl),(by simp[ev_c,ev_put]<;>rfl)⟩
  ·clear mk k
   rintro s ⟨tm,z,v,a,ss,gg,T',rfl,k,mk,am,ae,la,ar,ag,hT',⟨e0,e3,e4,e10,e11,e12,e13⟩,e41,e42⟩
   have hi':¬((nk:Int)<(nk:Int)):=by omega
   simp -implicitDefEqProofs(maxSteps:=999999)(disch:=first|with_reducible rfl|omega|(simp only[nA,nS,nD]<;>omega)|fail)only[go_sem,e0,e3,e4,e10,e11,e12,e13,e41,e42,hi']
   refine Upto_ev k.s hw0 hx hp0 k.sp (by omega) (by omega) _ fun nr z1 nr0 nr1 u1 p1 q1 nn1=>?_
   obtain⟨kr,hkr⟩:∃kr:Nat,nr=kr:=⟨nr.toNat,by omega⟩
   subst hkr
   have k:=k.turn hlp0 rfl u1 p1 q1
   simp -implicitDefEqProofs(maxSteps:=999999)(disch:=first|with_reducible rfl|omega|(simp only[nA,nS,nD]<;>omega)|fail)only[go_sem,e0,e3,e4,e10,e11,e12,e13]
   refine W_count kr (fun i s=>∃tm z v a T',s=⟨tm,z,[]⟩∧Mi h0 p x (c0+4) c0 a ss gg tt T' v z∧MkOk a ss gg tt∧a.mins=mins∧a.evs=ev∧a.rds.length≤i∧a.gps=[]∧(0≤T'∧T'≤T+100+10*i)∧FT p c0 K N tm∧(Opd.t 75).ev tm=.int .i64 (kr:Int)∧(Opd.t 76).ev tm=.int .i64 (i:Int)) ?_ ?_ (i:=0) (Nat.zero_le _)
    ⟨_,_,_,_,_,rfl,k,mk,am,ae,by rw[ar];exact Nat.zero_le _,ag,by omega,⟨(by simp[ev_c,ev_put,e0]<;>rfl),(by simp[ev_c,ev_put,e3]<;>rfl),(by simp[ev_c,ev_put,e4]<;>rfl),(by simp[ev_c,ev_put,e10]<;>rfl),(by simp[ev_c,ev_put,e11]<;>rfl),(by simp[ev_c,ev_put,e12]<;>rfl),(by simp[ev_c,ev_put,e13]<;>rfl)⟩,(by simp[ev_c,ev_put]<;>rfl),(by simp[ev_c,ev_put]<;>rfl)⟩
   ·clear mk k am ae ar ag la
    rintro i s hi ⟨tm,z,v,a,T',rfl,k,mk,am,ae,la,ag,hT',⟨e0,e3,e4,e10,e11,e12,e13⟩,e75,e76⟩
    have hi':(i:Int)<(kr:Int):=by omega
    have oC:=k.sl.o 0 (by decide)
    have hlC:q_len (v 0)=some (.int .i64 (a.cks.length:Int)):=(oC.sl (by show(a.cks.map encC).length≤_;rw[List.length_map];have:=mk.cl;omega)).lenE
    by_cases h0c:a.cks.length=0
    ·have hc':¬(0:Int)<(a.cks.length:Int):=by omega
     simp -implicitDefEqProofs(maxSteps:=999999)(disch:=first|with_reducible rfl|omega|(simp only[nA,nS,nD]<;>omega)|fail)only[go_sem,e0,e12,e13,e75,e76,hi',cells_of k.ga,hlC,hc',wr_succ]
     exact⟨_,_,_,_,_,rfl,k,mk,am,ae,by omega,ag,by omega,⟨(by simp[ev_c,ev_put,e0]<;>rfl),(by simp[ev_c,ev_put,e3]<;>rfl),(by simp[ev_c,ev_put,e4]<;>rfl),(by simp[ev_c,ev_put,e10]<;>rfl),(by simp[ev_c,ev_put,e11]<;>rfl),(by simp[ev_c,ev_put,e12]<;>rfl),(by simp[ev_c,ev_put,e13]<;>rfl)⟩,(by simp[ev_c,ev_put,e75]<;>rfl),(by simp[ev_c,ev_put]<;>rfl)⟩
    have hc':(0:Int)<(a.cks.length:Int):=by omega
    have hcl:=mk.cl
    have wc:wr .i64 ((a.cks.length:Int)-1)=(a.cks.length:Int)-1:=wr_in (by omega) (by omega)
    have we:wr .i64 (a.evs-1)=a.evs-1:=wr_in (by omega) (by omega)
    simp -implicitDefEqProofs(maxSteps:=999999)(disch:=first|with_reducible rfl|omega|(simp only[nA,nS,nD]<;>omega)|fail)only[go_sem,e0,e12,e13,e75,e76,hi',cells_of k.ga,hlC,hc',wc]
    refine Upto_ev k.s hw0 hx hp0 k.sp (by omega) (by omega) _ fun ik za ia0 ia1 ua pa qa _=>?_
    have ka:=k.turn hlp0 rfl ua pa qa
    simp -implicitDefEqProofs(maxSteps:=999999)(disch:=first|with_reducible rfl|omega|(simp only[nA,nS,nD]<;>omega)|fail)only[go_sem,e0,e12,e13,e75,e76,cells_of k.ga,cells_of ka.ga,we]
    refine Upto_ev ka.s hw0 hx hp0 ka.sp (by omega) (by omega) _ fun ie zb ib0 ib1 ub pb qb _=>?_
    have kb:=ka.turn hlp0 rfl ub pb qb
    obtain⟨jk,hjk⟩:∃jk:Nat,ik=jk:=⟨ik.toNat,by omega⟩
    obtain⟨je,hje⟩:∃je:Nat,ie=je:=⟨ie.toNat,by omega⟩
    subst hjk;subst hje
    have lss:=mk.ls
    have lgg:=mk.lg
    have hjs:jk<ss.length:=by omega
    have hjg:jk<gg.length:=by omega
    have hjt:je<tt.length:=by omega
    have uc:=(H.Sub.refl ub.wf).add (.cells .rw [.int .i64 (jk:Int),.int .i64 (je:Int),.int .i64 0])
    have kc:=kb.mono uc
    have g16:(zb.add (.cells .rw [.int .i64 (jk:Int),.int .i64 (je:Int),.int .i64 0])).get zb.next=some (.cells .rw [.int .i64 (jk:Int),.int .i64 (je:Int),.int .i64 0]):=get_add_new rfl
    have nzc:=H.next_add zb (.cells .rw [.int .i64 (jk:Int),.int .i64 (je:Int),.int .i64 0])
    obtain⟨zc,hzc⟩:∃zc,zb.add (.cells .rw [.int .i64 (jk:Int),.int .i64 (je:Int),.int .i64 0])=zc:=⟨_,rfl⟩
    rw[hzc] at uc kc g16 nzc
    have xs:SlAt zc (v 3) 1 (ss.map encI):=(kc.sl.o 3 (by decide)).sl (by show(ss.map encI).length≤_;rw[List.length_map];omega)
    have xg:SlAt zc (v 4) 1 (gg.map encI):=(kc.sl.o 4 (by decide)).sl (by show(gg.map encI).length≤_;rw[List.length_map];omega)
    have xt:SlAt zc (v 5) 1 (tt.map encI):=(kc.sl.o 5 (by decide)).sl (by show(tt.map encI).length≤_;rw[List.length_map];omega)
    obtain⟨bs3,os3,cs3,rs3,es3,hs3,qs3,_,_,ns3⟩:=xs.at hjs
    obtain⟨bs4,os4,cs4,rs4,es4,hs4,qs4,_,_,ns4⟩:=xg.at hjg
    obtain⟨bs5,os5,cs5,rs5,es5,hs5,qs5,_,_,ns5⟩:=xt.at hjt
    have v3:=ns3 (by decide)
    have v4:=ns4 (by decide)
    have v5:=ns5 (by decide)
    simp only[encI,List.getElem?_cons_zero] at v3 v4 v5
    have i3:ss[jk]? =some ss[jk]:=List.getElem?_eq_getElem hjs
    have i4:gg[jk]? =some gg[jk]:=List.getElem?_eq_getElem hjg
    have i5:tt[je]? =some tt[je]:=List.getElem?_eq_getElem hjt
    have hrun:=mk.run i3 i4
    have htm:=mk.tm _ (List.getElem_mem hjt)
    generalize ss[jk]=sv at v3 i3 hrun
    generalize gg[jk]=gv at v4 i4 hrun
    generalize tt[je]=tv at v5 i5 htm
    simp -implicitDefEqProofs(maxSteps:=999999)(disch:=first|with_reducible rfl|omega|(simp only[nA,nS,nD]<;>omega)|fail)only[go_sem,e0,e12,e13,e75,e76,cells_of k.ga,cells_of ka.ga,cells_of kb.ga,hzc,cells_of kc.gt,cells_of g16,qs3 (nat_cst jk),qs4 (nat_cst jk),qs5 (nat_cst je),hs3,hs4,hs5,v3,v4,v5]
    refine lshows_ev kc.s.wf hrun htm.1 (by omega) _ ?_
    subst hzc
    have ud:=(H.Sub.refl ub.wf).add (.cells .rw [.int .i64 (jk:Int),.int .i64 (je:Int),.int .i64 (shw sv gv tv)])
    have kd:=kb.mono ud
    have gd16:(zb.add (.cells .rw [.int .i64 (jk:Int),.int .i64 (je:Int),.int .i64 (shw sv gv tv)])).get zb.next=some (.cells .rw [.int .i64 (jk:Int),.int .i64 (je:Int),.int .i64 (shw sv gv tv)]):=get_add_new rfl
    have nzd:=H.next_add zb (.cells .rw [.int .i64 (jk:Int),.int .i64 (je:Int),.int .i64 (shw sv gv tv)])
    simp -implicitDefEqProofs(maxSteps:=999999)(disch:=first|with_reducible rfl|omega|(simp only[nA,nS,nD]<;>omega)|fail)only[go_sem,e0,e12,e13,e75,e76,cells_of kc.gt,cells_of g16,g16,qs3 (nat_cst jk),qs4 (nat_cst jk),qs5 (nat_cst je),hs3,hs4,hs5,v3,v4,v5,cells_of kd.ga,cells_of gd16]
    generalize zb.add (.cells .rw [.int .i64 (jk:Int),.int .i64 (je:Int),.int .i64 (shw sv gv tv)])=zd at ud kd gd16 nzd⊢
    have ue:=(H.Sub.refl ud.wf).add (.cells .rw [.int .i64 (jk:Int),.int .i64 (je:Int),.int .i64 (shw sv gv tv)])
    have ke:=kd.mono ue
    have o1:=ke.sl.o 1 (by decide)
    have sn:SlAt (zd.add (.cells .rw [.int .i64 (jk:Int),.int .i64 (je:Int),.int .i64 (shw sv gv tv)])) (.sl zd.next 0 1 (.fix 1)) 3 [encR ⟨jk,je,shw sv gv tv⟩]:=SlAt.new _ rfl rfl rfl (by simp[encR]) (by simp)
    rw[nzd] at sn
    have hrl:=mk.rl
    have lr:(rowsM a ss gg tt 1).length≤6:=by show(a.rds.map encR).length≤6;rw[List.length_map];omega
    skip
    generalize zd.add (.cells .rw [.int .i64 (jk:Int),.int .i64 (je:Int),.int .i64 (shw sv gv tv)])=ze at ue ke o1 sn⊢
    refine o1.app1 (by_:=24) (r:=encR ⟨jk,je,shw sv gv tv⟩) hw0 rfl (by decide) sn rfl (by omega) (by omega) fun w zf of nf kf=>?_
    have ow:=of.one
    have nb:¬blkOf (v 1) (c0+2):=fun hb=>by have:=ke.sl.lo 1 (by decide) _ hb;omega
    have gf:=kf.2 _ _ ke.ga nb
    have kg:=ke.putA (a':={a with rds:=a.rds++[⟨jk,je,shw sv gv tv⟩]}) hw0 hlp0 rfl l00 kf (fun b hb=>ke.sl.lo 1 (by decide) b hb) ((ke.sl.app (by decide) of nf ke.nx kf).rw rows1) rfl rfl rfl rfl rfl
    simp -implicitDefEqProofs(maxSteps:=999999)(disch:=first|with_reducible rfl|omega|(simp only[nA,nS,nD]<;>omega)|fail)only[go_sem,e0,e12,e13,e75,e76,gf,ow,cells_one ow,cells_of kd.ga,cells_of ke.ga,wr_succ]
    exact⟨_,_,_,_,_,rfl,kg,mk.read (by omega) i3 i4 i5,am,ae,by simp only[List.length_append,List.length_singleton];omega,ag,by omega,⟨(by simp[ev_c,ev_put,e0]<;>rfl),(by simp[ev_c,ev_put,e3]<;>rfl),(by simp[ev_c,ev_put,e4]<;>rfl),(by simp[ev_c,ev_put,e10]<;>rfl),(by simp[ev_c,ev_put,e11]<;>rfl),(by simp[ev_c,ev_put,e12]<;>rfl),(by simp[ev_c,ev_put,e13]<;>rfl)⟩,(by simp[ev_c,ev_put,e75]<;>rfl),(by simp[ev_c,ev_put]<;>rfl)⟩
   ·clear mk k am ae ar ag la
    rintro s ⟨tm,z,v,a,T',rfl,k,mk,am,ae,la,ag,hT',⟨e0,e3,e4,e10,e11,e12,e13⟩,e75,e76⟩
    have hi':¬((kr:Int)<(kr:Int)):=by omega
    simp -implicitDefEqProofs(maxSteps:=999999)(disch:=first|with_reducible rfl|omega|(simp only[nA,nS,nD]<;>omega)|fail)only[go_sem,e0,e3,e4,e10,e11,e12,e13,e75,e76,hi']
    refine Upto_ev k.s hw0 hx hp0 k.sp (by omega) (by omega) _ fun nr z1 ng0 ng1 u1 p1 q1 nn1=>?_
    obtain⟨kn,hkn⟩:∃kn:Nat,nr=kn:=⟨nr.toNat,by omega⟩
    subst hkn
    have k:=k.turn hlp0 rfl u1 p1 q1
    simp -implicitDefEqProofs(maxSteps:=999999)(disch:=first|with_reducible rfl|omega|(simp only[nA,nS,nD]<;>omega)|fail)only[go_sem,e0,e3,e4,e10,e11,e12,e13]
    refine W_count kn (fun i s=>∃tm z v a T',s=⟨tm,z,[]⟩∧Mi h0 p x (c0+4) c0 a ss gg tt T' v z∧MkOk a ss gg tt∧a.mins=mins∧a.evs=ev∧a.gps.length=i∧(0≤T'∧T'≤T+1000+10*i)∧FT p c0 K N tm∧(Opd.t 122).ev tm=.int .i64 (kn:Int)∧(Opd.t 123).ev tm=.int .i64 (i:Int)) ?_ ?_ (i:=0) (Nat.zero_le _)
     ⟨_,_,_,_,_,rfl,k,mk,am,ae,by rw[ag];rfl,by omega,⟨(by simp[ev_c,ev_put,e0]<;>rfl),(by simp[ev_c,ev_put,e3]<;>rfl),(by simp[ev_c,ev_put,e4]<;>rfl),(by simp[ev_c,ev_put,e10]<;>rfl),(by simp[ev_c,ev_put,e11]<;>rfl),(by simp[ev_c,ev_put,e12]<;>rfl),(by simp[ev_c,ev_put,e13]<;>rfl)⟩,(by simp[ev_c,ev_put]<;>rfl),(by simp[ev_c,ev_put]<;>rfl)⟩
    ·clear mk k am ae ag la
     rintro i s hi ⟨tm,z,v,a,T',rfl,k,mk,am,ae,la,hT',⟨e0,e3,e4,e10,e11,e12,e13⟩,e122,e123⟩
     have hi':(i:Int)<(kn:Int):=by omega
     have we:wr .i64 (a.evs-1)=a.evs-1:=wr_in (by omega) (by omega)
     simp -implicitDefEqProofs(maxSteps:=999999)(disch:=first|with_reducible rfl|omega|(simp only[nA,nS,nD]<;>omega)|fail)only[go_sem,e0,e12,e13,e122,e123,hi',cells_of k.ga,we]
     refine Upto_ev k.s hw0 hx hp0 k.sp (by omega) (by omega) _ fun ik za ia0 ia1 ua pa qa _=>?_
     have ka:=k.turn hlp0 rfl ua pa qa
     simp -implicitDefEqProofs(maxSteps:=999999)(disch:=first|with_reducible rfl|omega|(simp only[nA,nS,nD]<;>omega)|fail)only[go_sem,e0,e12,e13,e122,e123,cells_of k.ga,cells_of ka.ga,we]
     refine Upto_ev ka.s hw0 hx hp0 ka.sp (by omega) (by omega) _ fun ie zb ib0 ib1 ub pb qb _=>?_
     have kb:=ka.turn hlp0 rfl ub pb qb
     obtain⟨jk,hjk⟩:∃jk:Nat,ik=jk:=⟨ik.toNat,by omega⟩
     obtain⟨je,hje⟩:∃je:Nat,ie=je:=⟨ie.toNat,by omega⟩
     subst hjk;subst hje
     have hjk:jk<tt.length:=by omega
     have hjt:je<tt.length:=by omega
     have uc:=(H.Sub.refl ub.wf).add (.cells .rw [.int .i64 (jk:Int),.int .i64 (je:Int),.int .i64 0,.int .i64 0])
     have kc:=kb.mono uc
     have g17:(zb.add (.cells .rw [.int .i64 (jk:Int),.int .i64 (je:Int),.int .i64 0,.int .i64 0])).get zb.next=some (.cells .rw [.int .i64 (jk:Int),.int .i64 (je:Int),.int .i64 0,.int .i64 0]):=get_add_new rfl
     have nzc:=H.next_add zb (.cells .rw [.int .i64 (jk:Int),.int .i64 (je:Int),.int .i64 0,.int .i64 0])
     obtain⟨zc,hzc⟩:∃zc,zb.add (.cells .rw [.int .i64 (jk:Int),.int .i64 (je:Int),.int .i64 0,.int .i64 0])=zc:=⟨_,rfl⟩
     rw[hzc] at uc kc g17 nzc
     have xt:SlAt zc (v 5) 1 (tt.map encI):=(kc.sl.o 5 (by decide)).sl (by show(tt.map encI).length≤_;rw[List.length_map];omega)
     obtain⟨bs4,os4,cs4,rs4,es4,hs4,qs4,_,_,ns4⟩:=xt.at hjk
     obtain⟨bs5,os5,cs5,rs5,es5,hs5,qs5,_,_,ns5⟩:=xt.at hjt
     have v4:=ns4 (by decide)
     have v5:=ns5 (by decide)
     simp only[encI,List.getElem?_cons_zero] at v4 v5
     have i4:tt[jk]? =some tt[jk]:=List.getElem?_eq_getElem hjk
     have i5:tt[je]? =some tt[je]:=List.getElem?_eq_getElem hjt
     have htm:=mk.tm _ (List.getElem_mem hjt)
     have htk:=mk.tm _ (List.getElem_mem hjk)
     generalize tt[jk]=kv at v4 i4 htk
     generalize tt[je]=tv at v5 i5 htm
     have wd:wr .i64 (tv-kv)=tv-kv:=wr_in (by omega) (by omega)
     simp -implicitDefEqProofs(maxSteps:=999999)(disch:=first|with_reducible rfl|omega|(simp only[nA,nS,nD]<;>omega)|fail)only[go_sem,e0,e12,e13,e122,e123,cells_of k.ga,cells_of ka.ga,cells_of kb.ga,hzc,cells_of kc.gt,cells_of g17,qs4 (nat_cst jk),qs5 (nat_cst je),hs4,hs5,v4,v5,wd]
     refine around_ev kc.s hw0 hx hp0 kc.sp (by omega) (by omega) (by omega) (by omega) _ fun lo hi zd r1 r2 r3 r4 r5 ud pd qd=>?_
     have kd:=kc.turn hlp0 rfl ud pd qd
     have lkb:=kb.nx
     have g17d:=qd.2 _ _ g17 (by omega)
     have lzd:=qd.1
     have qe:=Keeps.set zd zb.next (.cells .rw [.int .i64 (jk:Int),.int .i64 (je:Int),.int .i64 lo,.int .i64 hi])
     have ue:h0.Sub (zd.set zb.next (.cells .rw [.int .i64 (jk:Int),.int .i64 (je:Int),.int .i64 lo,.int .i64 hi])):=ud.set (by have:=ub.next;omega) (by omega) hw0 _
     have ke:=kd.side hlp0 rfl lkb (fun i hi b hb e=>by have:=((kb.sl.o i hi).blk hb).2.1;omega) ue qe
     have ge17:(zd.set zb.next (.cells .rw [.int .i64 (jk:Int),.int .i64 (je:Int),.int .i64 lo,.int .i64 hi])).get zb.next=some (.cells .rw [.int .i64 (jk:Int),.int .i64 (je:Int),.int .i64 lo,.int .i64 hi]):=get_set_same rfl
     have hs5d:=hs5;have hs4d:=hs4
     simp -implicitDefEqProofs(maxSteps:=999999)(disch:=first|with_reducible rfl|omega|(simp only[nA,nS,nD]<;>omega)|fail)only[go_sem,e0,e12,e13,e122,e123,cells_of kc.gt,cells_of kd.gt,cells_of g17,cells_of g17d,g17d,qs4 (nat_cst jk),qs5 (nat_cst je),hs4,hs5,v4,v5,cells_of ke.ga,cells_of ge17]
     have nze:(zd.set zb.next (.cells .rw [.int .i64 (jk:Int),.int .i64 (je:Int),.int .i64 lo,.int .i64 hi])).next=zd.next:=H.next_set _ _ _
     generalize zd.set zb.next (.cells .rw [.int .i64 (jk:Int),.int .i64 (je:Int),.int .i64 lo,.int .i64 hi])=ze at ue ke ge17 nze⊢
     have uf:=(H.Sub.refl ue.wf).add (.cells .rw [.int .i64 (jk:Int),.int .i64 (je:Int),.int .i64 lo,.int .i64 hi])
     have kf':=ke.mono uf
     have o2:=kf'.sl.o 2 (by decide)
     have sn:SlAt (ze.add (.cells .rw [.int .i64 (jk:Int),.int .i64 (je:Int),.int .i64 lo,.int .i64 hi])) (.sl zd.next 0 1 (.fix 1)) 4 [encG ⟨jk,je,lo,hi⟩]:=SlAt.new _ nze.symm rfl rfl (by simp[encG]) (by simp)
     have hgl:=mk.gl
     have lr:(rowsM a ss gg tt 2).length≤2:=by show(a.gps.map encG).length≤2;rw[List.length_map];omega
     generalize ze.add (.cells .rw [.int .i64 (jk:Int),.int .i64 (je:Int),.int .i64 lo,.int .i64 hi])=zf at uf kf' o2 sn⊢
     refine o2.app1 (by_:=32) (r:=encG ⟨jk,je,lo,hi⟩) hw0 rfl (by decide) sn rfl (by omega) (by omega) fun w zg og ng kg=>?_
     have ow:=og.one
     have nb:¬blkOf (v 2) (c0+2):=fun hb=>by have:=kf'.sl.lo 2 (by decide) _ hb;omega
     have gg:=kg.2 _ _ kf'.ga nb
     have km:=kf'.putA (a':={a with gps:=a.gps++[⟨jk,je,lo,hi⟩]}) hw0 hlp0 rfl l00 kg (fun b hb=>kf'.sl.lo 2 (by decide) b hb) ((kf'.sl.app (by decide) og ng kf'.nx kg).rw rows2) rfl rfl rfl rfl rfl
     simp -implicitDefEqProofs(maxSteps:=999999)(disch:=first|with_reducible rfl|omega|(simp only[nA,nS,nD]<;>omega)|fail)only[go_sem,e0,e12,e13,e122,e123,gg,ow,cells_one ow,wr_succ]
     exact⟨_,_,_,_,_,rfl,km,mk.gap (by omega) i4 i5 ⟨r1,r2⟩ ⟨r3,r4⟩,am,ae,by simp only[List.length_append,List.length_singleton];omega,by omega,⟨(by simp[ev_c,ev_put,e0]<;>rfl),(by simp[ev_c,ev_put,e3]<;>rfl),(by simp[ev_c,ev_put,e4]<;>rfl),(by simp[ev_c,ev_put,e10]<;>rfl),(by simp[ev_c,ev_put,e11]<;>rfl),(by simp[ev_c,ev_put,e12]<;>rfl),(by simp[ev_c,ev_put,e13]<;>rfl)⟩,(by simp[ev_c,ev_put,e122]<;>rfl),(by simp[ev_c,ev_put]<;>rfl)⟩
    ·rintro s ⟨tm,z,v,a,T',rfl,k,mk,am,ae,la,hT',⟨e0,e3,e4,e10,e11,e12,e13⟩,e122,e123⟩
     have hi':¬((kn:Int)<(kn:Int)):=by omega
     have oo:=fun i (hi:i<6)=>(k.sl.o i hi).one
     have y0:=oo 0 (by decide);have y1:=oo 1 (by decide);have y2:=oo 2 (by decide);have y3:=oo 3 (by decide);have y4:=oo 4 (by decide);have y5:=oo 5 (by decide)
     have lz:=k.nx
     simp -implicitDefEqProofs(maxSteps:=999999)(disch:=first|with_reducible rfl|omega|(simp only[nA,nS,nD]<;>omega)|fail)only[go_sem,e0,e3,e4,e10,e11,e12,e13,e122,e123,hi',cells_of k.ga,cells_of k.gt,k.g0,k.g1,y0,y1,y2,y3,y4,y5]
     have s7:h0.Sub ((z.set c0 (.cells .rw [.int .i64 a.mins,.int .i64 a.evs,v 0,v 1,v 2])).set (c0+1) (.cells .rw [v 3,v 4,v 5])):=(k.s.set l00 (by omega) hw0 _).set (by omega) (by rw[H.next_set];omega) hw0 _
     have kz:=(Keeps.set z c0 (.cells .rw [.int .i64 a.mins,.int .i64 a.evs,v 0,v 1,v 2])).trans (Keeps.set (z.set c0 (.cells .rw [.int .i64 a.mins,.int .i64 a.evs,v 0,v 1,v 2])) (c0+1) (.cells .rw [v 3,v 4,v 5]))
     have sl:=k.sl.keep kz s7 fun b hb=>by rcases hb with hb|hb<;>omega
     have q1:=mk.cl;have q2:=mk.rl;have q3:=mk.gl;have q4:=mk.ls;have q5:=mk.lg
     have w:∀i,i<6→(rowsM a ss gg tt i).length≤6→SlAt _ (v i) (sz6 i) (rowsM a ss gg tt i):=fun i hi hl=>(sl.o i hi).sl (by omega)
     exact q _ T' a ss gg tt _ _ _ _ _ _ ⟨s7,k.sp.keep kz (by omega),⟨w 0 (by decide) (by show(a.cks.map encC).length≤6;rw[List.length_map];omega),w 1 (by decide) (by show(a.rds.map encR).length≤6;rw[List.length_map];omega),w 2 (by decide) (by show(a.gps.map encG).length≤6;rw[List.length_map];omega)⟩,
      w 3 (by decide) (by show(ss.map encI).length≤6;rw[List.length_map];omega),w 4 (by decide) (by show(gg.map encI).length≤6;rw[List.length_map];omega),w 5 (by decide) (by show(tt.map encI).length≤6;rw[List.length_map];omega),mk,by omega⟩
end Go.Ab.Tryz
namespace Go.Ab.Tryz
open Go.Proofs
theorem low_le {L:List Int}(hL:L.length=25){a b:Nat}(ha:a<5)(hb:b<5)(v:Int){x y:Nat}(hx:x<5)(hy:y<5):mg (low L a b v) x y≤mg L x y:=by
 rw[mg_low hL ha hb v x y hx hy]
 split
 ·rename_i e;obtain⟨rfl,rfl⟩:=e;omega
 ·exact Int.le_refl _
theorem rdL_le {L:List Int}(hL:L.length=25){e:Nat}(he:e<5)(s:Int × Int){x y:Nat}(hx:x<5)(hy:y<5):mg (rdL L e s) x y≤mg L x y:=
 Int.le_trans (low_le (by rw[low_len];exact hL) he (by decide) _ hx hy) (low_le hL (by decide) he _ hx hy)
theorem readsL_le {a:At}(r:Right a){cnt:Nat→Bool}{k:Int}{x:Int × Int}{u v:Nat}(hu:u<5)(hv:v<5):∀{l:List Rd} {i:Nat} {L:List Int},(∀r∈l,r∈a.rds)→L.length=25→mg (readsL a cnt k x l i L).1 u v≤mg L u v
 |[],_,_,_,_=>Int.le_refl _
 |rd::l,i,L,hl,hL=>by
  obtain⟨yk,ye,ek,ee,hyk,hye,_⟩:=r.rd (hl rd (List.mem_cons_self ..))
  have hl':=fun x hx=>hl x (List.mem_cons_of_mem _ hx)
  rw[readsL]
  split
  ·exact readsL_le r hu hv hl' hL
  ·split
   ·exact Int.le_refl _
   ·exact Int.le_trans (readsL_le r hu hv hl' (by rw[rdL,low_len,low_len];exact hL)) (rdL_le hL (by omega) _ hu hv)
theorem readL_le {a:At}(r:Right a){cnt:Nat→Bool}{k:Int}{x:Int × Int}{L:List Int}(hL:In5 240 L)(ht:(readL a cnt k x L).2=true){u v:Nat}(hu:u<5)(hv:v<5):mg (readL a cnt k x L).1 u v≤mg L u v:=by
 have hin:=readsL_in (cnt:=cnt) (k:=k) (x:=x) (i:=0) r (fun y (hy:y∈a.rds)=>hy) hL
 unfold readL at ht⊢
 by_cases h1:(readsL a cnt k x a.rds 0 L).2=true
 ·rw[if_pos h1] at ht⊢
  exact Int.le_trans (((clos_spec (by decide) (by decide) hin).1 ht).2.2.1 u v hu hv) (readsL_le r hu hv (fun r hr=>hr) hL.len)
 ·rw[if_neg h1] at ht;cases ht
theorem moreL_le {a:At}(r:Right a){cnt:Nat→Bool}{u v:Nat}(hu:u<5)(hv:v<5):∀{n:Nat} {runs:Runs} {L:List Int},In5 240 L→∀t∈moreL a cnt n runs L,mg t.2 u v≤mg L u v
 |0,runs,L,h,t,ht=>by rw[moreL,List.mem_singleton] at ht;rw[ht];exact Int.le_refl _
 |n+1,runs,L,h,t,ht=>by
  unfold moreL at ht
  cases hc:a.cks[runs.length]? with
  |none=>rw[hc] at ht;cases ht
  |some c=>
   rw[hc] at ht
   simp only[List.mem_flatMap] at ht
   obtain⟨i,_,j,_,ht⟩:=ht
   split at ht
   ·rename_i hk;exact Int.le_trans (moreL_le r hu hv (readL_in r h hk) t ht) (readL_le r h hk hu hv)
   ·cases ht
theorem gaps_le {a:At}(r:Right a){u v:Nat}(hu:u<5)(hv:v<5):∀{l:List Gp} {L:List Int},(∀g∈l,g∈a.gps)→L.length=25→mg (l.foldl gapL L) u v≤mg L u v
 |[],_,_,_=>Int.le_refl _
 |g::l,L,hl,hL=>by
  obtain⟨f,t,e1,e2,hf,ht,_⟩:=r.gap (hl g (List.mem_cons_self ..))
  rw[List.foldl_cons]
  refine Int.le_trans (gaps_le r hu hv (fun x hx=>hl x (List.mem_cons_of_mem _ hx)) (by rw[gapL,low_len,low_len];exact hL)) ?_
  rw[gapL,e1,e2,Int.toNat_natCast,Int.toNat_natCast]
  exact Int.le_trans (low_le (by rw[low_len];exact hL) (by omega) (by omega) _ hu hv) (low_le hL (by omega) (by omega) _ hu hv)
theorem cases_diag {a:At}(r:Right a){cnt:Nat→Bool}{t:Runs × List Int}(ht:t∈casesL a cnt){u:Nat}(hu:u<5):mg t.2 u u=0:=by
 have hd:=(cases_sound r ht).1.diag u hu
 unfold casesL at ht
 split at ht
 ·rename_i hc
  have h1:=moreL_le r hu hu (free_clos_in r hc) t ht
  have h2:=((clos_spec (by decide) (by decide) (freeL_in r)).1 hc).2.2.1 u u hu hu
  have h3:mg (freeL a) u u≤mg (bsL a.mins) u u:=gaps_le r hu hu (fun g hg=>hg) (bsU_len _ _ _)
  rw[mg_bs _ hu hu,if_pos (.inr rfl)] at h3
  omega
 ·cases ht
abbrev allM (a:At):List (List Int):=(allC a).map Prod.snd
theorem errT_ok {a:At}(r:Right a)(hne:allC a≠[]):errT a false=0:=by
 unfold errT;rw[if_neg (by rw[checkA_iff.2 r];simp),if_neg (by simp),if_neg hne]
theorem timeR_ok {a:At}(r:Right a)(hne:allC a≠[]){e:Nat}(he:a.evB e=true):timeR a e=(betw 4 e (allM a),0):=by
 have:errT a (!a.evB e)=0:=by rw[he];exact errT_ok r hne
 rw[timeR,if_neg (by rw[this];simp),Int.toNat_natCast]
end Go.Ab.Tryz
namespace Go.Ab.Tryz
open Go.Proofs
def latY (L:List Int)(f b:Nat):Int:=mg L f b-mg L f 4
theorem lat_tru {a:At}(r:Right a){cnt:Nat→Bool}{t:Runs × List Int}(ht:t∈casesL a cnt){f:Nat}(hf:f<5):Tru a cnt t.1 (latY t.2 f):=by
 obtain⟨tri,_,_,hs⟩:=cases_sound r ht
 refine(hs _ (by simp[latY])).1 fun c d hc hd=>?_
 have:=tri.tri f d c hf hd hc
 unfold latY;omega
theorem lat_4 {a:At}(r:Right a){cnt:Nat→Bool}{t:Runs × List Int}(ht:t∈casesL a cnt)(b:Nat):latY t.2 4 b=mg t.2 4 b:=by
 have:=cases_diag r ht (u:=4) (by omega)
 unfold latY;omega
def ckFit (c:Ck)(x:Int × Int):Bool:=inB x.1 c.sl c.sh&&inB x.2 c.gl c.gh
def rdFit (ss gg tt:List Int)(r:Rd):Bool:=decide (shw (ss.getD r.ck.toNat 0) (gg.getD r.ck.toNat 0) (tt.getD r.ev.toNat 0)=r.sh)
def gpFit (tt:List Int)(g:Gp):Bool:=inB (tt.getD g.to.toNat 0-tt.getD g.fr.toNat 0) g.lo g.hi
def lenFit (a:At)(ss gg tt:List Int):Bool:=decide (ss.length=a.cks.length)&&(decide (gg.length=a.cks.length)&&decide ((tt.length:Int)=a.evs))
def cksFit (a:At)(ss gg:List Int):Bool:=(a.cks.zip (ss.zip gg)).all fun x=>ckFit x.1 x.2
def timFit (a:At)(tt:List Int):Bool:=tt.all fun t=>inB t 0 a.mins
def fitB (a:At)(ss gg tt:List Int):Bool:=lenFit a ss gg tt&&(timFit a tt&&(cksFit a ss gg&&(a.rds.all (rdFit ss gg tt)&&a.gps.all (gpFit tt))))
theorem lenFit_iff {a:At}{ss gg tt:List Int}:lenFit a ss gg tt=true↔ss.length=a.cks.length∧gg.length=a.cks.length∧(tt.length:Int)=a.evs:=by
 simp only[lenFit,Bool.and_eq_true,decide_eq_true_eq]
theorem getD_at {l:List Int}{i:Nat}(h:i<l.length):l.getD i 0=l[i]:=by rw[List.getD_eq_getElem?_getD,List.getElem?_eq_getElem h];rfl
theorem Right.rdn {a:At}(r:Right a){x:Rd}(hx:x∈a.rds):∃i e:Nat,x.ck=i∧x.ev=e∧i<a.cks.length∧(e:Int)<a.evs∧e<4:=by
 have h:=r.ro x hx
 have he:=r.evs
 simp only[At.rdOk,At.ckB,At.evB,Bool.and_eq_true,inB_iff] at h
 exact⟨x.ck.toNat,x.ev.toNat,by omega,by omega,by omega,by omega,by omega⟩
theorem Right.gpn {a:At}(r:Right a){x:Gp}(hx:x∈a.gps):∃i e:Nat,x.fr=i∧x.to=e∧(i:Int)<a.evs∧(e:Int)<a.evs∧i<4∧e<4:=by
 have h:=r.go x hx
 have he:=r.evs
 simp only[At.gpOk,At.evB,Bool.and_eq_true,inB_iff] at h
 exact⟨x.fr.toNat,x.to.toNat,by omega,by omega,by omega,by omega,by omega,by omega⟩
theorem zip_get {ss gg:List Int}{i:Nat}{s:Int × Int}:(ss.zip gg)[i]? =some s↔ss[i]? =some s.1∧gg[i]? =some s.2:=List.getElem?_zip_eq_some
theorem fitB_iff {a:At}(r:Right a){ss gg tt:List Int}:fitB a ss gg tt=true↔(ss.length=a.cks.length∧gg.length=a.cks.length∧(tt.length:Int)=a.evs)∧Tru a (fun _=>true) (ss.zip gg) (timeF tt):=by
 have he:=r.evs
 have hm:=r.mins
 simp only[fitB,Bool.and_eq_true,lenFit_iff,timFit,cksFit,List.all_eq_true]
 refine and_congr_right fun⟨l1,l2,l3⟩=>⟨fun⟨h1,h2,h3,h4⟩=>?_,fun t=>⟨fun n hn=>?_,fun x hx=>?_,fun x hx=>?_,fun x hx=>?_⟩⟩
 ·refine⟨by rw[List.length_zip,l1,l2,Nat.min_self],fun k s hs=>?_,?_,fun e _=>?_,fun g hg=>?_,fun j x hx _ s hs=>?_⟩
  ·obtain⟨q1,q2⟩:=zip_get.1 hs
   have hk:=getl q1
   have hc:a.cks[k]? =some a.cks[k]:=List.getElem?_eq_getElem (by omega)
   have:=h2 (a.cks[k],s) (List.mem_of_getElem? (i:=k) (List.getElem?_zip_eq_some.2 ⟨hc,hs⟩))
   simp only[ckFit,Bool.and_eq_true,inB_iff] at this
   exact RunOf.mk' hc this.1.1 this.1.2 this.2.1 this.2.2
  ·unfold timeF
   rw[List.getD_eq_getElem?_getD,List.getElem?_eq_none (by omega)];rfl
  ·unfold timeF
   rw[List.getD_eq_getElem?_getD]
   cases h:tt[e]? with
   |none=>exact⟨Int.le_refl _,by show(0:Int)≤_;omega⟩
   |some t=>exact(inB_iff ..).1 (h1 t (List.mem_of_getElem? h))
  ·have:=h4 g hg
   simp only[gpFit,inB_iff] at this
   exact this
  ·obtain⟨q1,q2⟩:=zip_get.1 hs
   have:=h3 x (List.mem_of_getElem? hx)
   simp only[rdFit,decide_eq_true_eq] at this
   rw[List.getD_eq_getElem?_getD,List.getD_eq_getElem?_getD,q1,q2] at this
   exact this
 ·obtain⟨i,hi,rfl⟩:=List.mem_iff_getElem.1 hn
  have:=t.mins i (by omega)
  rw[inB_iff]
  rwa[timeF_at (List.getElem?_eq_getElem hi)] at this
 ·obtain⟨i,hi⟩:=List.mem_iff_getElem?.1 hx
  obtain⟨q1,q2⟩:=List.getElem?_zip_eq_some.1 hi
  obtain⟨⟨c,hc,h1,h2,h3,h4⟩⟩:=t.run i _ q2
  rw[q1] at hc;cases hc
  simp only[ckFit,Bool.and_eq_true,inB_iff]
  exact⟨⟨h1,h2⟩,h3,h4⟩
 ·obtain⟨j,hj⟩:=List.mem_iff_getElem?.1 hx
  obtain⟨i,e,ei,ee,hi,_,_⟩:=r.rdn hx
  have hs:(ss.zip gg)[x.ck.toNat]? =some (ss.getD x.ck.toNat 0,gg.getD x.ck.toNat 0):=by
   rw[ei,Int.toNat_natCast,zip_get,getD_at (by omega),getD_at (by omega)]
   exact⟨List.getElem?_eq_getElem (by omega),List.getElem?_eq_getElem (by omega)⟩
  simp only[rdFit,decide_eq_true_eq]
  exact t.rds j x hj rfl _ hs
 ·simp only[gpFit,inB_iff]
  exact t.gaps x hx
theorem Tru.cut {a:At}(r:Right a){cnt:Nat→Bool}{runs:Runs}{y:Nat→Int}(t:Tru a cnt runs y):Tru a cnt runs (timeF ((List.range a.evs.toNat).map y)):=by
 have he:=r.evs
 have hm:=r.mins
 have key:∀e:Nat,(e:Int)<a.evs→timeF ((List.range a.evs.toNat).map y) e=y e:=fun e h=>timeF_at (by rw[List.getElem?_map,List.getElem?_range (by omega)];rfl)
 have key2:∀e:Nat,a.evs≤(e:Int)→timeF ((List.range a.evs.toNat).map y) e=0:=fun e h=>by
  unfold timeF
  rw[List.getD_eq_getElem?_getD,List.getElem?_eq_none (by rw[List.length_map,List.length_range];omega)];rfl
 refine⟨t.len,t.run,key2 4 (by omega),fun e h=>?_,fun g hg=>?_,fun j x hx hc s hs=>?_⟩
 ·rcases(by omega:(e:Int)<a.evs∨a.evs≤(e:Int)) with h1|h1
  ·rw[key e h1];exact t.mins e h
  ·rw[key2 e h1];omega
 ·obtain⟨i,e,e1,e2,h1,h2,_,_⟩:=r.gpn hg
  have:=t.gaps g hg
  rw[e1,e2,Int.toNat_natCast,Int.toNat_natCast] at this⊢
  rw[key i h1,key e h2];exact this
 ·obtain⟨i,e,e1,e2,_,h2,_⟩:=r.rdn (List.mem_of_getElem? hx)
  have:=t.rds j x hx hc s hs
  rw[e2,Int.toNat_natCast] at this⊢
  rw[key e h2];exact this
theorem zip_unzip (l:Runs):(l.map Prod.fst).zip (l.map Prod.snd)=l:=by
 induction l with
 |nil=>rfl
 |cons x l ih=>simp only[List.map_cons,List.zip_cons_cons,ih]
theorem Tru.fit {a:At}(r:Right a){runs:Runs}{y:Nat→Int}(t:Tru a (fun _=>true) runs y):fitB a (runs.map Prod.fst) (runs.map Prod.snd) ((List.range a.evs.toNat).map y)=true:=by
 have he:=r.evs
 refine(fitB_iff r).2 ⟨⟨by rw[List.length_map];exact t.len,by rw[List.length_map];exact t.len,by rw[List.length_map,List.length_range];omega⟩,?_⟩
 rw[zip_unzip]
 exact t.cut r
end Go.Ab.Tryz
namespace Go.Ab.Tryz
open Go.Proofs
abbrev TruA (a:At) (runs:Runs) (y:Nat→Int):Prop:=Tru a (fun _=>true) runs y
theorem noC {a:At}(r:Right a):allC a=[]↔∀runs y,¬TruA a runs y:=by
 constructor
 ·intro h runs y t
  obtain⟨L,hL⟩:=cases_full r t
  have:(runs,L)∈allC a:=hL
  rw[h] at this;cases this
 ·intro h
  cases hc:allC a with
  |nil=>rfl
  |cons t l=>
   have ht:t∈casesL a (fun _=>true):=by show t∈allC a;rw[hc];exact List.mem_cons_self ..
   exact absurd (lat_tru r ht (f:=4) (by omega)) (h _ _)
theorem betw_hi {a:At}(r:Right a)(hne:allC a≠[]){f t:Nat}(hf:f<5)(ht:t<5):∃runs y,TruA a runs y∧y t-y f=(betw f t (allM a)).2:=by
 obtain⟨M,hM,h1⟩:=betw_ex (f:=f) (t:=t) (l:=allM a) (fun e=>hne (List.map_eq_nil_iff.1 e))
 obtain⟨u,hu,rfl⟩:=List.mem_map.1 hM
 exact⟨u.1,latY u.2 f,lat_tru r hu hf,by have:=cases_diag r hu hf;unfold latY;omega⟩
theorem betw_lo {a:At}(r:Right a)(hne:allC a≠[]){f t:Nat}(hf:f<5)(ht:t<5):∃runs y,TruA a runs y∧y t-y f=(betw f t (allM a)).1:=by
 obtain⟨runs,y,h,e⟩:=betw_hi r hne ht hf
 refine⟨runs,y,h,?_⟩
 rw[betw_dual] at e
 simp only at e
 omega
def At.addR (a:At)(x:Rd):At:={a with rds:=a.rds++[x]}
def At.addG (a:At)(g:Gp):At:={a with gps:=a.gps++[g]}
def At.addC (a:At)(c:Ck):At:={a with cks:=a.cks++[c]}
theorem mem_get_app {α:Type}{l:List α}{x:α}{i:Nat}{y:α}:(l++[x])[i]? =some y↔l[i]? =some y∨i=l.length∧y=x:=by
 rcases Nat.lt_trichotomy i l.length with h|h|h
 ·rw[List.getElem?_append_left h]
  constructor
  ·exact .inl
  ·rintro(h'|⟨h',_⟩)
   ·exact h'
   ·omega
 ·subst h
  rw[List.getElem?_append_right (Nat.le_refl _),Nat.sub_self,List.getElem?_eq_none (Nat.le_refl _)]
  simp only[List.getElem?_cons_zero,Option.some.injEq,reduceCtorEq,false_or,true_and]
  exact eq_comm
 ·rw[List.getElem?_eq_none (by simp;omega),List.getElem?_eq_none (by omega)]
  constructor
  ·intro h';cases h'
  ·rintro(h'|⟨h',_⟩)
   ·cases h'
   ·omega
theorem tru_addR {a:At}{x:Rd}{runs:Runs}{y:Nat→Int}:TruA (a.addR x) runs y↔TruA a runs y∧∀s,runs[x.ck.toNat]? =some s→shw s.1 s.2 (y x.ev.toNat)=x.sh:=by
 constructor
 ·intro t
  exact⟨⟨t.len,fun k s hs=>⟨(t.run k s hs).is⟩,t.beg,t.mins,t.gaps,fun j z hz hc s hs=>t.rds j z (mem_get_app.2 (.inl hz)) hc s hs⟩,fun s hs=>t.rds a.rds.length x (mem_get_app.2 (.inr ⟨rfl,rfl⟩)) rfl s hs⟩
 ·rintro⟨t,h⟩
  refine⟨t.len,fun k s hs=>⟨(t.run k s hs).is⟩,t.beg,t.mins,t.gaps,fun j z hz hc s hs=>?_⟩
  rcases mem_get_app.1 hz with hz|⟨_,rfl⟩
  ·exact t.rds j z hz hc s hs
  ·exact h s hs
theorem right_addR {a:At}(r:Right a){x:Rd}(h1:a.rds.length<8)(h2:x.bd=true)(h3:a.rdOk x=true):Right (a.addR x):=by
 have hl:=r.lens
 have h0:=r.mins
 have he:=r.evs
 refine⟨?_,r.cb,fun z hz=>?_,r.gb,fun z hz=>?_,r.go,r.co,r.gd,r.cs⟩
 ·simp only[At.sz,At.addR,Bool.and_eq_true,decide_eq_true_eq,inB_iff,List.length_append,List.length_singleton];exact⟨by omega,by omega,by first|omega|exact decide_eq_true (by omega),by first|omega|exact decide_eq_true (by omega),by first|omega|exact decide_eq_true (by omega)⟩
 ·rcases List.mem_append.1 hz with hz|hz
  ·exact r.rb z hz
  ·rw[List.mem_singleton] at hz;subst hz;exact h2
 ·rcases List.mem_append.1 hz with hz|hz
  ·exact r.ro z hz
  ·rw[List.mem_singleton] at hz;subst hz;exact h3
def zeroC:Ck:=⟨0,0,0,0⟩
theorem right_addC {a:At}(r:Right a)(h1:a.cks.length<3):Right (a.addC zeroC):=by
 have hl:=r.lens
 have h0:=r.mins
 have he:=r.evs
 have mem:∀{p:Ck→Bool},(∀c∈a.cks,p c=true)→p zeroC=true→∀c∈(a.addC zeroC).cks,p c=true:=fun h1 h2 c hc=>by
  rcases List.mem_append.1 hc with hc|hc
  ·exact h1 c hc
  ·rw[List.mem_singleton] at hc;subst hc;exact h2
 refine⟨?_,mem r.cb rfl,r.rb,r.gb,fun z hz=>?_,r.go,mem r.co rfl,r.gd,mem r.cs rfl⟩
 ·simp only[At.sz,At.addC,Bool.and_eq_true,decide_eq_true_eq,inB_iff,List.length_append,List.length_singleton];exact⟨by omega,by omega,by first|omega|exact decide_eq_true (by omega),by first|omega|exact decide_eq_true (by omega),by first|omega|exact decide_eq_true (by omega)⟩
 ·have:=r.ro z hz
  simp only[At.rdOk,At.ckB,At.evB,At.addC,Bool.and_eq_true,inB_iff,List.length_append,List.length_singleton] at this⊢
  omega
theorem tru_addC {a:At}(r:Right a){runs:Runs}{y:Nat→Int}:TruA (a.addC zeroC) runs y↔∃runs',runs=runs'++[(0,0)]∧TruA a runs' y:=by
 constructor
 ·intro t
  have hl:runs.length=a.cks.length+1:=by rw[t.len];simp[At.addC]
  obtain⟨run',z,e⟩:∃run' z,runs=run'++[z]:=⟨runs.dropLast,runs.getLast (fun e=>by rw[e] at hl;simp at hl),(List.dropLast_concat_getLast _).symm⟩
  subst e
  have hl2:run'.length=a.cks.length:=by simpa using hl
  have hz:z=(0,0):=by
   have h1:(run'++[z])[a.cks.length]? =some z:=mem_get_app.2 (.inr ⟨hl2.symm,rfl⟩)
   obtain⟨⟨c,hc,q1,q2,q3,q4⟩⟩:=t.run _ _ h1
   have:(a.addC zeroC).cks[a.cks.length]? =some zeroC:=mem_get_app.2 (.inr ⟨rfl,rfl⟩)
   rw[this] at hc;cases hc
   simp only[zeroC] at q1 q2 q3 q4
   exact Prod.ext (by simp only;omega) (by simp only;omega)
  subst hz
  refine⟨run',rfl,hl2,fun k s hs=>?_,t.beg,t.mins,t.gaps,fun j x hx hc s hs=>t.rds j x hx hc s (mem_get_app.2 (.inl hs))⟩
  obtain⟨⟨c,hc,q⟩⟩:=t.run k s (mem_get_app.2 (.inl hs))
  rcases mem_get_app.1 hc with hc|⟨e,_⟩
  ·exact⟨c,hc,q⟩
  ·have:=getl hs;omega
 ·rintro⟨run',rfl,t⟩
  refine⟨by simp[At.addC,t.len],fun k s hs=>?_,t.beg,t.mins,t.gaps,fun j x hx hc s hs=>?_⟩
  ·rcases mem_get_app.1 hs with hs|⟨e,rfl⟩
   ·obtain⟨⟨c,hc,q⟩⟩:=t.run k s hs
    exact⟨c,mem_get_app.2 (.inl hc),q⟩
   ·exact⟨zeroC,mem_get_app.2 (.inr ⟨by rw[e,t.len],rfl⟩),by decide,by decide,by decide,by decide⟩
  ·rcases mem_get_app.1 hs with hs|⟨e,rfl⟩
   ·exact t.rds j x hx hc s hs
   ·obtain⟨i,ee,e1,_,h1,_,_⟩:=r.rdn (List.mem_of_getElem? hx)
    rw[t.len,e1,Int.toNat_natCast] at e;omega
theorem tru_seen {a:At}(r:Right a){i:Nat}{m:Int}{runs:Runs}{y:Nat→Int}:TruA ((a.addC zeroC).addR ⟨(a.cks.length:Int),i,m⟩) runs y↔∃runs',runs=runs'++[(0,0)]∧TruA a runs' y∧y i=m:=by
 have hs:∀n:Int,shw 0 0 n=n:=fun n=>by unfold shw;omega
 rw[tru_addR,tru_addC r]
 constructor
 ·rintro⟨⟨run',rfl,t⟩,h⟩
  refine⟨run',rfl,t,?_⟩
  have:=h (0,0) (mem_get_app.2 (.inr ⟨by rw[t.len];simp,rfl⟩))
  simp only[Int.toNat_natCast] at this
  rwa[hs] at this
 ·rintro⟨run',rfl,t,h⟩
  refine⟨⟨run',rfl,t⟩,fun s h1=>?_⟩
  rcases mem_get_app.1 h1 with h1|⟨_,rfl⟩
  ·have:=getl h1
   rw[t.len] at this
   simp only[Int.toNat_natCast] at this;omega
  ·simp only[Int.toNat_natCast];rw[hs,h]
end Go.Ab.Tryz
namespace Go.Ab
section
variable {α:Type} [DecidableEq α] {l:List α}
end
namespace Tryz
open Go.Proofs
end Tryz
end Go.Ab
namespace Go.Ab.Tryz
open Go.Proofs
structure TrAt (h:H)(S G T:V)(ss gg tt:List Int):Prop where
 s:SlAt h S 1 (ss.map encI)
 g:SlAt h G 1 (gg.map encI)
 t:SlAt h T 1 (tt.map encI)
theorem TrAt.mono {h h':H}{S G T:V}{ss gg tt:List Int}(x:TrAt h S G T ss gg tt)(s:h.Sub h'):TrAt h' S G T ss gg tt:=⟨x.s.mono s,x.g.mono s,x.t.mono s⟩
theorem ckFit_no {c:Ck}{s g:Int}:ckFit c (s,g)=false↔s<c.sl∨c.sh<s∨g<c.gl∨c.gh<g:=by
 rw[←Bool.not_eq_true]
 simp only[ckFit,Bool.and_eq_true,inB_iff]
 omega
theorem cksFit_of {a:At}{ss gg:List Int}(h:∀(j:Nat) c s g,a.cks[j]? =some c→ss[j]? =some s→gg[j]? =some g→ckFit c (s,g)=true):cksFit a ss gg=true:=by
 refine List.all_eq_true.2 fun x hx=>?_
 obtain⟨i,hi⟩:=List.mem_iff_getElem?.1 hx
 obtain⟨q1,q2⟩:=List.getElem?_zip_eq_some.1 hi
 obtain⟨q3,q4⟩:=zip_get.1 q2
 exact h i _ _ _ q1 q3 q4
theorem cksFit_at {a:At}{ss gg:List Int}(h:cksFit a ss gg=true){j:Nat}{c:Ck}{s g:Int}(q1:a.cks[j]? =some c)(q2:ss[j]? =some s)(q3:gg[j]? =some g):ckFit c (s,g)=true:=
 List.all_eq_true.1 h (c,(s,g)) (List.mem_of_getElem? (i:=j) (List.getElem?_zip_eq_some.2 ⟨q1,zip_get.2 ⟨q2,q3⟩⟩))
theorem fitB_parts {a:At}{ss gg tt:List Int}:fitB a ss gg tt=true↔lenFit a ss gg tt=true∧timFit a tt=true∧cksFit a ss gg=true∧a.rds.all (rdFit ss gg tt)=true∧a.gps.all (gpFit tt)=true:=by
 simp only[fitB,Bool.and_eq_true]
theorem ckFit_run {a:At}(r:Right a){c:Ck}(hc:c∈a.cks){s g:Int}(h:ckFit c (s,g)=true):RunIn s g:=by
 have:=r.cb c hc
 simp only[Ck.bd,within,Bool.and_eq_true,inB_iff] at this
 simp only[ckFit,Bool.and_eq_true,inB_iff] at h
 exact⟨by omega,by omega,by omega,by omega⟩
theorem lfits1_ev {h:H}(hw:h.wf){S Ga Tm:V}{ss gg tt:List Int}(t:TrAt h S Ga Tm ss gg tt)(hb:∀t∈tt,0≤t∧t≤240){b:Nat}(gb:h.cells b=some [S,Ga,Tm]){g:Gp}{i e:Nat}(e1:g.fr=i)(e2:g.to=e)(l1:i<tt.length)(l2:e<tt.length):
  E (.fn 137 [] [.ptr b 0]) [.agg (encG g)] h fun u h'=>u=.bool (!gpFit tt g)∧h.Sub h':=by
 refine Ev_body (fd:=c137) rfl rfl rfl ?_
 have lb:b<h.next:=(H.cells_eq gb).elim fun kd e=>hw _ _ e
 have s1:h.Sub (h.add (.cells .rw (encG g))):=(by repeat(first|assumption|exact H.Sub.refl (by assumption)|refine H.Sub.add ?_ _|refine H.Sub.set ?_ (by first|omega|(simp only[H.next_add,H.next_set,H.next_del]<;>omega)) (by first|omega|(simp only[H.next_add,H.next_set,H.next_del]<;>omega)) (by assumption) _))
 obtain⟨b1,o1,c1,cs1,ef1,hc1,hq1,_,_,n1⟩:=t.t.at l1
 obtain⟨b2,o2,c2',cs2,ef2,hc2,hq2,_,_,n2⟩:=t.t.at l2
 have v1:=n1 (by decide)
 have v2:=n2 (by decide)
 simp only[encI,List.getElem?_cons_zero] at v1 v2
 have q1:=hb _ (List.getElem_mem l1)
 have q2:=hb _ (List.getElem_mem l2)
 have lb1:b1<h.next:=(H.cells_eq hc1).elim fun kd e=>hw _ _ e
 have lb2:b2<h.next:=(H.cells_eq hc2).elim fun kd e=>hw _ _ e
 have hgp:gpFit tt g=inB (tt[e]-tt[i]) g.lo g.hi:=by
  unfold gpFit
  rw[e1,e2,Int.toNat_natCast,Int.toNat_natCast,getD_at l1,getD_at l2]
 rw[hgp]
 generalize tt[i]=y1 at v1 q1⊢
 generalize tt[e]=y2 at v2 q2⊢
 have w:wr .i64 (y2-y1)=y2-y1:=wr_in (by omega) (by omega)
 by_cases k1:y2-y1<g.lo
 ·have eB:inB (y2-y1) g.lo g.hi=false:=by rw[←Bool.not_eq_true,inB_iff];omega
  simp -implicitDefEqProofs(maxSteps:=999999)(disch:=first|with_reducible rfl|omega|(simp only[nA,nS,nD]<;>omega)|fail)only[c137,go_sem,encG,gb,e1,e2,hq1 (nat_cst i),hq2 (nat_cst e),hc1,hc2,v1,v2,w,k1]
  rw[eB]
  exact⟨rfl,(by repeat(first|assumption|exact H.Sub.refl (by assumption)|refine H.Sub.add ?_ _|refine H.Sub.set ?_ (by first|omega|(simp only[H.next_add,H.next_set,H.next_del]<;>omega)) (by first|omega|(simp only[H.next_add,H.next_set,H.next_del]<;>omega)) (by assumption) _))⟩
 ·have eB:(!inB (y2-y1) g.lo g.hi)=decide (g.hi<y2-y1):=by rw[Bool.eq_iff_iff];simp[inB]<;>omega
  rw[eB]
  simp -implicitDefEqProofs(maxSteps:=999999)(disch:=first|with_reducible rfl|omega|(simp only[nA,nS,nD]<;>omega)|fail)only[c137,go_sem,encG,gb,e1,e2,hq1 (nat_cst i),hq2 (nat_cst e),hc1,hc2,v1,v2,w,k1]
  exact(by repeat(first|assumption|exact H.Sub.refl (by assumption)|refine H.Sub.add ?_ _|refine H.Sub.set ?_ (by first|omega|(simp only[H.next_add,H.next_set,H.next_del]<;>omega)) (by first|omega|(simp only[H.next_add,H.next_set,H.next_del]<;>omega)) (by assumption) _))
set_option maxHeartbeats 4000000 in
theorem lfits_ev {h:H}(hw:h.wf){a:At}{C R G:V}(x:AtAt h C R G a)(r:Right a){S Ga Tm:V}{ss gg tt:List Int}(t:TrAt h S Ga Tm ss gg tt)(Q:V→H→Prop)(q:∀h',h.Sub h'→Q (.bool (fitB a ss gg tt)) h'):
  Ev fnG fastA (.fn 50 [] []) [.agg (atV a C R G),.agg [S,Ga,Tm]] h Q:=by
 have oC:=x.c.one;have oR:=x.r.one;have oG:=x.g.one
 have oS:=t.s.one;have oGa:=t.g.one;have oTm:=t.t.one
 have hlC:=x.c.lenE;have hlR:=x.r.lenE;have hlG:=x.g.lenE
 have hlS:=t.s.lenE;have hlGa:=t.g.lenE;have hlT:=t.t.lenE
 have rl:=r.lens
 have re:=r.evs
 have rm:=r.mins
 refine Ev_body (fd:=c50) rfl rfl rfl ?_
 obtain⟨z,hz⟩:∃z,(h.add (.cells .rw (atV a C R G))).add (.cells .rw [S,Ga,Tm])=z:=⟨_,rfl⟩
 have sz:h.Sub z:=by rw[←hz];exact(by repeat(first|assumption|exact H.Sub.refl (by assumption)|refine H.Sub.add ?_ _|refine H.Sub.set ?_ (by first|omega|(simp only[H.next_add,H.next_set,H.next_del]<;>omega)) (by first|omega|(simp only[H.next_add,H.next_set,H.next_del]<;>omega)) (by assumption) _))
 have ga:z.get h.next=some (.cells .rw (atV a C R G)):=by rw[←hz];simp -implicitDefEqProofs(maxSteps:=999999)(disch:=first|with_reducible rfl|omega|(simp only[nA,nS,nD]<;>omega)|fail)only[go_sem]
 have gt:z.get (h.next+1)=some (.cells .rw [S,Ga,Tm]):=by rw[←hz];simp -implicitDefEqProofs(maxSteps:=999999)(disch:=first|with_reducible rfl|omega|(simp only[nA,nS,nD]<;>omega)|fail)only[go_sem]
 have no:fitB a ss gg tt=false→∀z',z.Sub z'→Q (.bool false) z':=fun e z' s=>by have:=q z' (sz.trans s);rwa[e] at this
 have sz0:=H.Sub.refl sz.wf
 obtain⟨b1,hb1⟩:∃b,decide ((ss.length:Int)≠(a.cks.length:Int))=b:=⟨_,rfl⟩
 obtain⟨b2,hb2⟩:∃b,decide ((gg.length:Int)≠(a.cks.length:Int))=b:=⟨_,rfl⟩
 obtain⟨b3,hb3⟩:∃b,decide ((tt.length:Int)≠a.evs)=b:=⟨_,rfl⟩
 by_cases hl:lenFit a ss gg tt=true
 case neg=>
  have hf:fitB a ss gg tt=false:=by cases hh:fitB a ss gg tt;rfl;exact absurd (fitB_parts.1 hh).1 hl
  have hor:b1=true∨b2=true∨b3=true:=by
   rw[lenFit_iff] at hl
   rw[←hb1,←hb2,←hb3]
   simp only[decide_eq_true_eq]
   omega
  cases b1<;>cases b2<;>cases b3
  all_goals try(exfalso;revert hor;decide)
  all_goals
   simp -implicitDefEqProofs(maxSteps:=999999)(disch:=first|with_reducible rfl|omega|(simp only[nA,nS,nD]<;>omega)|fail)only[c50,go_sem,oS,oGa,oTm,oC,oR,oG,hlC,hlS,hlGa,hlT,hb1,hb2,hb3]
   rw[hz]
   exact no hf _ sz0
 obtain⟨l1,l2,l3⟩:=lenFit_iff.1 hl
 have e1:b1=false:=by rw[←hb1];simp;omega
 have e2:b2=false:=by rw[←hb2];simp;omega
 have e3:b3=false:=by rw[←hb3];simp;omega
 subst e1 e2 e3
 simp -implicitDefEqProofs(maxSteps:=999999)(disch:=first|with_reducible rfl|omega|(simp only[nA,nS,nD]<;>omega)|fail)only[c50,go_sem,oS,oGa,oTm,oC,oR,oG,hlC,hlS,hlGa,hlT,hb1,hb2,hb3]
 rw[hz]
 clear hz
 refine W_count a.cks.length (fun i s=>∃tm z',s=⟨tm,z',[]⟩∧z.Sub z'∧(∀(j:Nat) c s g,j<i→a.cks[j]? =some c→ss[j]? =some s→gg[j]? =some g→ckFit c (s,g)=true)∧
   (Opd.t 2).ev tm=.ptr h.next 0∧(Opd.t 3).ev tm=.ptr (h.next+1) 0∧(Opd.t 36).ev tm=C∧(Opd.t 37).ev tm=.int .i64 (a.cks.length:Int)∧(Opd.t 38).ev tm=.int .i64 (i:Int)) ?_ ?_ (i:=0) (Nat.zero_le _)
  ⟨_,_,rfl,sz0,fun j _ _ _ hj=>absurd hj (Nat.not_lt_zero _),(by simp[ev_c,ev_put]<;>rfl),(by simp[ev_c,ev_put]<;>rfl),(by simp[ev_c,ev_put]<;>rfl),(by simp[ev_c,ev_put]<;>rfl),(by simp[ev_c,ev_put]<;>rfl)⟩
 ·rintro i s hi ⟨tm,z',rfl,s',hok,t2,t3,t36,t37,t38⟩
  have hi':(i:Int)<(a.cks.length:Int):=by omega
  have hsz:=sz.trans s'
  obtain⟨b,o,cc,cs,eC,hc,hq,hg,_,_⟩:=(x.c.mono hsz).at hi
  have his:i<ss.length:=by omega
  have hig:i<gg.length:=by omega
  obtain⟨b1,o1,cc1,cs1,eS,hc1,hq1,_,_,n1⟩:=(t.s.mono hsz).at his
  obtain⟨b2,o2,cc2,cs2,eG,hc2,hq2,_,_,n2⟩:=(t.g.mono hsz).at hig
  have v1:=n1 (by decide)
  have v2:=n2 (by decide)
  simp only[encI,List.getElem?_cons_zero] at v1 v2
  have ka:a.cks[i]? =some a.cks[i]:=List.getElem?_eq_getElem hi
  have ks:ss[i]? =some ss[i]:=List.getElem?_eq_getElem his
  have kg:gg[i]? =some gg[i]:=List.getElem?_eq_getElem hig
  generalize a.cks[i]=c at hg ka
  generalize ss[i]=y1 at v1 ks
  generalize gg[i]=y2 at v2 kg
  simp only[encC] at hg
  have hwz:=hsz.wf
  have lb1:b1<z'.next:=(H.cells_eq hc1).elim fun kd e=>hwz _ _ e
  have lb2:b2<z'.next:=(H.cells_eq hc2).elim fun kd e=>hwz _ _ e
  have ga':=s'.get ga
  have gt':=s'.get gt
  have lt':=hwz _ _ gt'
  have bad:ckFit c (y1,y2)=false→∀z2,z'.Sub z2→Q (.bool false) z2:=fun e z2 s2=>no (by
   cases hh:fitB a ss gg tt
   ·rfl
   ·have:=cksFit_at (fitB_parts.1 hh).2.2.1 ka ks kg
    rw[e] at this;cases this) _ (s'.trans s2)
  have sz':=H.Sub.refl hwz
  by_cases k1:y1<c.sl
  ·simp -implicitDefEqProofs(maxSteps:=999999)(disch:=first|with_reducible rfl|omega|(simp only[nA,nS,nD]<;>omega)|fail)only[go_sem,t2,t3,t36,t37,t38,hi',hq (nat_cst i),hc,hg,cells_of gt',hq1 (nat_cst i),hc1,v1,k1]
   exact bad (ckFit_no.2 (.inl k1)) _ (by repeat(first|assumption|exact H.Sub.refl (by assumption)|refine H.Sub.add ?_ _|refine H.Sub.set ?_ (by first|omega|(simp only[H.next_add,H.next_set,H.next_del]<;>omega)) (by first|omega|(simp only[H.next_add,H.next_set,H.next_del]<;>omega)) (by assumption) _))
  by_cases k2:c.sh<y1
  ·simp -implicitDefEqProofs(maxSteps:=999999)(disch:=first|with_reducible rfl|omega|(simp only[nA,nS,nD]<;>omega)|fail)only[go_sem,t2,t3,t36,t37,t38,hi',hq (nat_cst i),hc,hg,cells_of gt',hq1 (nat_cst i),hc1,v1,k1,k2]
   exact bad (ckFit_no.2 (.inr (.inl k2))) _ (by repeat(first|assumption|exact H.Sub.refl (by assumption)|refine H.Sub.add ?_ _|refine H.Sub.set ?_ (by first|omega|(simp only[H.next_add,H.next_set,H.next_del]<;>omega)) (by first|omega|(simp only[H.next_add,H.next_set,H.next_del]<;>omega)) (by assumption) _))
  by_cases k3:y2<c.gl
  ·simp -implicitDefEqProofs(maxSteps:=999999)(disch:=first|with_reducible rfl|omega|(simp only[nA,nS,nD]<;>omega)|fail)only[go_sem,t2,t3,t36,t37,t38,hi',hq (nat_cst i),hc,hg,cells_of gt',hq1 (nat_cst i),hc1,v1,hq2 (nat_cst i),hc2,v2,k1,k2,k3]
   exact bad (ckFit_no.2 (.inr (.inr (.inl k3)))) _ (by repeat(first|assumption|exact H.Sub.refl (by assumption)|refine H.Sub.add ?_ _|refine H.Sub.set ?_ (by first|omega|(simp only[H.next_add,H.next_set,H.next_del]<;>omega)) (by first|omega|(simp only[H.next_add,H.next_set,H.next_del]<;>omega)) (by assumption) _))
  by_cases k4:c.gh<y2
  ·simp -implicitDefEqProofs(maxSteps:=999999)(disch:=first|with_reducible rfl|omega|(simp only[nA,nS,nD]<;>omega)|fail)only[go_sem,t2,t3,t36,t37,t38,hi',hq (nat_cst i),hc,hg,cells_of gt',hq1 (nat_cst i),hc1,v1,hq2 (nat_cst i),hc2,v2,k1,k2,k3,k4]
   exact bad (ckFit_no.2 (.inr (.inr (.inr k4)))) _ (by repeat(first|assumption|exact H.Sub.refl (by assumption)|refine H.Sub.add ?_ _|refine H.Sub.set ?_ (by first|omega|(simp only[H.next_add,H.next_set,H.next_del]<;>omega)) (by first|omega|(simp only[H.next_add,H.next_set,H.next_del]<;>omega)) (by assumption) _))
  ·simp -implicitDefEqProofs(maxSteps:=999999)(disch:=first|with_reducible rfl|omega|(simp only[nA,nS,nD]<;>omega)|fail)only[go_sem,t2,t3,t36,t37,t38,hi',hq (nat_cst i),hc,hg,cells_of gt',hq1 (nat_cst i),hc1,v1,hq2 (nat_cst i),hc2,v2,k1,k2,k3,k4,wr_succ]
   refine⟨_,_,rfl,s'.trans (by repeat(first|assumption|exact H.Sub.refl (by assumption)|refine H.Sub.add ?_ _|refine H.Sub.set ?_ (by first|omega|(simp only[H.next_add,H.next_set,H.next_del]<;>omega)) (by first|omega|(simp only[H.next_add,H.next_set,H.next_del]<;>omega)) (by assumption) _)),fun j c' s' g' hj q1 q2 q3=>?_,(by simp[ev_c,ev_put,t2]<;>rfl),(by simp[ev_c,ev_put,t3]<;>rfl),(by simp[ev_c,ev_put,t36]<;>rfl),(by simp[ev_c,ev_put,t37]<;>rfl),(by simp[ev_c,ev_put]<;>rfl)⟩
   by_cases e:j=i
   ·subst e
    rw[ka] at q1;rw[ks] at q2;rw[kg] at q3
    cases q1;cases q2;cases q3
    cases hh:ckFit c (y1,y2)
    ·have:=ckFit_no.1 hh;omega
    ·rfl
   ·exact hok j c' s' g' (by omega) q1 q2 q3
 rintro s ⟨tm,z',rfl,s',hok,t2,t3,t36,t37,t38⟩
 have hcks:cksFit a ss gg=true:=cksFit_of fun j c s g q1 q2 q3=>hok j c s g (getl q1) q1 q2 q3
 have gt':=s'.get gt
 simp -implicitDefEqProofs(maxSteps:=999999)(disch:=first|with_reducible rfl|omega|(simp only[nA,nS,nD]<;>omega)|fail)only[go_sem,t2,t3,t36,t37,t38,Int.lt_irrefl,cells_of gt',hlT]
 refine W_count tt.length (fun i s=>∃tm z',s=⟨tm,z',[]⟩∧z.Sub z'∧(∀(j:Nat) y,j<i→tt[j]? =some y→inB y 0 a.mins=true)∧
   (Opd.t 2).ev tm=.ptr h.next 0∧(Opd.t 3).ev tm=.ptr (h.next+1) 0∧(Opd.t 87).ev tm=Tm∧(Opd.t 88).ev tm=.int .i64 (tt.length:Int)∧(Opd.t 89).ev tm=.int .i64 (i:Int)) ?_ ?_ (i:=0) (Nat.zero_le _)
  ⟨_,_,rfl,s',fun j _ hj=>absurd hj (Nat.not_lt_zero _),(by simp[ev_c,ev_put,t2]<;>rfl),(by simp[ev_c,ev_put,t3]<;>rfl),(by simp[ev_c,ev_put]<;>rfl),(by simp[ev_c,ev_put]<;>rfl),(by simp[ev_c,ev_put]<;>rfl)⟩
 ·clear t2 t3 t36 t37 t38 gt'
  rintro i s hi ⟨tm,z',rfl,s',hok,t2,t3,t87,t88,t89⟩
  have hi':(i:Int)<(tt.length:Int):=by omega
  have hsz:=sz.trans s'
  obtain⟨b,o,cc,cs,eC,hc,hq,hg,_,n0⟩:=(t.t.mono hsz).at hi
  have v0:=n0 (by decide)
  simp only[encI,List.getElem?_cons_zero] at v0
  have ka:tt[i]? =some tt[i]:=List.getElem?_eq_getElem hi
  generalize tt[i]=y at v0 ka
  have ga':=s'.get ga
  have bad:inB y 0 a.mins=false→Q (.bool false) z':=fun e=>no (by
   cases hh:fitB a ss gg tt
   ·rfl
   ·have:=List.all_eq_true.1 (fitB_parts.1 hh).2.1 y (List.mem_of_getElem? ka)
    rw[e] at this;cases this) _ s'
  by_cases k1:y<0
  ·simp -implicitDefEqProofs(maxSteps:=999999)(disch:=first|with_reducible rfl|omega|(simp only[nA,nS,nD]<;>omega)|fail)only[go_sem,t2,t3,t87,t88,t89,hi',hq (nat_cst i),hc,v0,k1]
   exact bad (by rw[←Bool.not_eq_true,inB_iff];omega)
  by_cases k2:a.mins<y
  ·simp -implicitDefEqProofs(maxSteps:=999999)(disch:=first|with_reducible rfl|omega|(simp only[nA,nS,nD]<;>omega)|fail)only[go_sem,t2,t3,t87,t88,t89,hi',hq (nat_cst i),hc,v0,k1,k2,cells_of ga']
   exact bad (by rw[←Bool.not_eq_true,inB_iff];omega)
  ·simp -implicitDefEqProofs(maxSteps:=999999)(disch:=first|with_reducible rfl|omega|(simp only[nA,nS,nD]<;>omega)|fail)only[go_sem,t2,t3,t87,t88,t89,hi',hq (nat_cst i),hc,v0,k1,k2,cells_of ga',wr_succ]
   refine⟨_,_,rfl,s',fun j y' hj q1=>?_,(by simp[ev_c,ev_put,t2]<;>rfl),(by simp[ev_c,ev_put,t3]<;>rfl),(by simp[ev_c,ev_put,t87]<;>rfl),(by simp[ev_c,ev_put,t88]<;>rfl),(by simp[ev_c,ev_put]<;>rfl)⟩
   by_cases e:j=i
   ·subst e
    rw[ka] at q1;cases q1
    rw[inB_iff];omega
   ·exact hok j y' (by omega) q1
 clear t2 t3 t36 t37 t38 gt' s' hok z' tm
 rintro s ⟨tm,z',rfl,s',hok,t2,t3,t87,t88,t89⟩
 have htim:timFit a tt=true:=List.all_eq_true.2 fun y hy=>by
  obtain⟨j,hj⟩:=List.mem_iff_getElem?.1 hy
  exact hok j y (getl hj) hj
 have hbt:∀y∈tt,0≤y∧y≤240:=fun y hy=>by
  have:=(inB_iff ..).1 (List.all_eq_true.1 htim y hy);omega
 have ga':=s'.get ga
 simp -implicitDefEqProofs(maxSteps:=999999)(disch:=first|with_reducible rfl|omega|(simp only[nA,nS,nD]<;>omega)|fail)only[go_sem,t2,t3,t87,t88,t89,Int.lt_irrefl,cells_of ga',hlR]
 refine W_count a.rds.length (fun i s=>∃tm z',s=⟨tm,z',[]⟩∧z.Sub z'∧(∀(j:Nat) y,j<i→a.rds[j]? =some y→rdFit ss gg tt y=true)∧
   (Opd.t 2).ev tm=.ptr h.next 0∧(Opd.t 3).ev tm=.ptr (h.next+1) 0∧(Opd.t 103).ev tm=R∧(Opd.t 104).ev tm=.int .i64 (a.rds.length:Int)∧(Opd.t 105).ev tm=.int .i64 (i:Int)) ?_ ?_ (i:=0) (Nat.zero_le _)
  ⟨_,_,rfl,s',fun j _ hj=>absurd hj (Nat.not_lt_zero _),(by simp[ev_c,ev_put,t2]<;>rfl),(by simp[ev_c,ev_put,t3]<;>rfl),(by simp[ev_c,ev_put]<;>rfl),(by simp[ev_c,ev_put]<;>rfl),(by simp[ev_c,ev_put]<;>rfl)⟩
 ·clear t2 t3 t87 t88 t89 ga' s' hok z' tm
  rintro i s hi ⟨tm,z',rfl,s',hok,t2,t3,t103,t104,t105⟩
  have hi':(i:Int)<(a.rds.length:Int):=by omega
  have hsz:=sz.trans s'
  obtain⟨b,o,cc,cs,eC,hc,hq,hg,_,n0⟩:=(x.r.mono hsz).at hi
  have ka:a.rds[i]? =some a.rds[i]:=List.getElem?_eq_getElem hi
  generalize a.rds[i]=y at hg ka
  obtain⟨k,e,ek,ee,hk,he,he4⟩:=r.rdn (List.mem_of_getElem? ka)
  have hks:k<ss.length:=by omega
  have hkg:k<gg.length:=by omega
  have hkt:e<tt.length:=by omega
  obtain⟨b1,o1,cc1,cs1,eS,hc1,hq1,_,_,n1⟩:=(t.s.mono hsz).at hks
  obtain⟨b2,o2,cc2,cs2,eG,hc2,hq2,_,_,n2⟩:=(t.g.mono hsz).at hkg
  obtain⟨b3,o3,cc3,cs3,eT,hc3,hq3,_,_,n3⟩:=(t.t.mono hsz).at hkt
  have v1:=n1 (by decide)
  have v2:=n2 (by decide)
  have v3:=n3 (by decide)
  simp only[encI,List.getElem?_cons_zero] at v1 v2 v3
  have hf:rdFit ss gg tt y=decide (shw ss[k] gg[k] tt[e]=y.sh):=by
   unfold rdFit
   rw[ek,ee,Int.toNat_natCast,Int.toNat_natCast,getD_at hks,getD_at hkg,getD_at hkt]
  have hrun:RunIn ss[k] gg[k]:=ckFit_run r (List.getElem_mem hk) (cksFit_at hcks (List.getElem?_eq_getElem hk) (List.getElem?_eq_getElem hks) (List.getElem?_eq_getElem hkg))
  have hti:=hbt _ (List.getElem_mem hkt)
  generalize ss[k]=y1 at v1 hf hrun
  generalize gg[k]=y2 at v2 hf hrun
  generalize tt[e]=y3 at v3 hf hti
  simp only[encR,ek,ee] at hg
  have hwz:=hsz.wf
  have lb1:b1<z'.next:=(H.cells_eq hc1).elim fun kd e=>hwz _ _ e
  have lb2:b2<z'.next:=(H.cells_eq hc2).elim fun kd e=>hwz _ _ e
  have lb3:b3<z'.next:=(H.cells_eq hc3).elim fun kd e=>hwz _ _ e
  have gt':=s'.get gt
  have lt':=hwz _ _ gt'
  have sz':=H.Sub.refl hwz
  simp -implicitDefEqProofs(maxSteps:=999999)(disch:=first|with_reducible rfl|omega|(simp only[nA,nS,nD]<;>omega)|fail)only[go_sem,t2,t3,t103,t104,t105,hi',hq (nat_cst i),hc,hg,cells_of gt',hq1 (nat_cst k),hq2 (nat_cst k),hq3 (nat_cst e),hc1,hc2,hc3,v1,v2,v3]
  refine lshows_ev (by exact((by repeat(first|assumption|exact H.Sub.refl (by assumption)|refine H.Sub.add ?_ _|refine H.Sub.set ?_ (by first|omega|(simp only[H.next_add,H.next_set,H.next_del]<;>omega)) (by first|omega|(simp only[H.next_add,H.next_set,H.next_del]<;>omega)) (by assumption) _)):z'.Sub _).wf) hrun hti.1 hti.2 _ ?_
  by_cases k1:shw y1 y2 y3=y.sh
  ·rw[decide_eq_true k1] at hf
   simp -implicitDefEqProofs(maxSteps:=999999)(disch:=first|with_reducible rfl|omega|(simp only[nA,nS,nD]<;>omega)|fail)only[go_sem,t2,t3,t103,t104,t105,k1,ne_eq,not_true_eq_false,wr_succ,cells_of gt',hc1,hc2,hc3,v1,v2,v3]
   refine⟨_,_,rfl,s'.trans (by repeat(first|assumption|exact H.Sub.refl (by assumption)|refine H.Sub.add ?_ _|refine H.Sub.set ?_ (by first|omega|(simp only[H.next_add,H.next_set,H.next_del]<;>omega)) (by first|omega|(simp only[H.next_add,H.next_set,H.next_del]<;>omega)) (by assumption) _)),fun j y' hj q1=>?_,(by simp[ev_c,ev_put,t2]<;>rfl),(by simp[ev_c,ev_put,t3]<;>rfl),(by simp[ev_c,ev_put,t103]<;>rfl),(by simp[ev_c,ev_put,t104]<;>rfl),(by simp[ev_c,ev_put]<;>rfl)⟩
   by_cases e:j=i
   ·subst e
    rw[ka] at q1;cases q1;exact hf
   ·exact hok j y' (by omega) q1
  ·rw[decide_eq_false k1] at hf
   simp -implicitDefEqProofs(maxSteps:=999999)(disch:=first|with_reducible rfl|omega|(simp only[nA,nS,nD]<;>omega)|fail)only[go_sem,t2,t3,t103,t104,t105,k1,ne_eq,not_false_eq_true,cells_of gt',hc1,hc2,hc3,v1,v2,v3]
   refine no ?_ _ (s'.trans (by repeat(first|assumption|exact H.Sub.refl (by assumption)|refine H.Sub.add ?_ _|refine H.Sub.set ?_ (by first|omega|(simp only[H.next_add,H.next_set,H.next_del]<;>omega)) (by first|omega|(simp only[H.next_add,H.next_set,H.next_del]<;>omega)) (by assumption) _)))
   cases hh:fitB a ss gg tt
   ·rfl
   ·have:=List.all_eq_true.1 (fitB_parts.1 hh).2.2.2.1 y (List.mem_of_getElem? ka)
    rw[hf] at this;cases this
 clear t2 t3 t87 t88 t89 ga' s' hok z' tm
 rintro s ⟨tm,z',rfl,s',hok,t2,t3,t103,t104,t105⟩
 have hrds:a.rds.all (rdFit ss gg tt)=true:=List.all_eq_true.2 fun y hy=>by
  obtain⟨j,hj⟩:=List.mem_iff_getElem?.1 hy
  exact hok j y (getl hj) hj
 have hsz:=sz.trans s'
 have ga':=s'.get ga
 simp -implicitDefEqProofs(maxSteps:=999999)(disch:=first|with_reducible rfl|omega|(simp only[nA,nS,nD]<;>omega)|fail)only[go_sem,t2,t3,t103,t104,t105,Int.lt_irrefl,cells_of ga',hlR]
 refine(containsFuncGp_ev (p:=fun g=> !gpFit tt g) hsz.wf (x.g.mono hsz) fun g hg h2 s2=>?_).mono fun u h' hu=>?_
 ·obtain⟨i,e,e1,e2,l1',l2',_,_⟩:=r.gpn hg
  exact lfits1_ev s2.wf (t.mono (hsz.trans s2)) hbt (cells_of (s2.get (s'.get gt))) e1 e2 (by omega) (by omega)
 ·obtain⟨rfl,s2⟩:=hu
  simp -implicitDefEqProofs(maxSteps:=999999)(disch:=first|with_reducible rfl|omega|(simp only[nA,nS,nD]<;>omega)|fail)only[go_sem]
  have:=q h' (hsz.trans s2)
  have e:fitB a ss gg tt= !(a.gps.any fun g=> !gpFit tt g):=by
   unfold fitB
   rw[hl,htim,hcks,hrds,any_not];simp
  rwa[e] at this
end Go.Ab.Tryz
namespace Go.Ab.Tryz
open Go.Proofs
theorem allOne_flat {α:Type}{enc:α→List V}(h:∀a,allOne (enc a)=true)(l:List α):allOne (l.map enc).flatten=true:=by
 rw[allOne_eq]
 intro v hv
 obtain⟨r,hr,hvr⟩:=List.mem_flatten.1 hv
 obtain⟨a,_,rfl⟩:=List.mem_map.1 hr
 exact allOne_eq.1 (h a) v hvr
theorem SlAt.full {h:H}{b n:Nat}{k:Kd}{c:Cap}{sz:Nat}{rows:List (List V)}(hn:n=rows.length)(hb:h.get b=some (.cells k rows.flatten))(hsz:∀r∈rows,r.length=sz)(hl:rows.length≤1000000):SlAt h (.sl b 0 n c) sz rows:=by
 subst hn
 refine⟨hsz,by omega,.inr ⟨b,0,c,_,rfl,.inr (cells_of hb),getN_eq.2 ⟨?_,?_⟩⟩⟩
 ·rw[List.drop_zero,←flatten_len hsz,List.take_length]
 ·rw[flatten_len hsz];omega
theorem dupClock_ev {h:H}{x:V}{l:List Ck}(hw:h.wf)(hx:SlAt h x 4 (l.map encC))(hl:l.length≤1000000)(Q:V→H→Prop):
  Ev fnG fastA (.fn 72 [] []) [x] h Q=Q (.sl h.next 0 l.length (.fix l.length)) (h.add (.cells .rw (l.map encC).flatten)):=by
 refine Ev.det (Ev_body (fd:=c72) rfl rfl rfl ?_) Q
 simp -implicitDefEqProofs(maxSteps:=999999)(disch:=first|with_reducible rfl|omega|(simp only[nA,nS,nD]<;>omega)|fail)only[c72,go_sem,hx.lenE,a_msl_0n]
 have:=dup_core (by_:=32) (z:=[.int .i64 0,.int .i64 0,.int .i64 0,.int .i64 0]) hx hw rfl (by omega) (allOne_flat (fun a=>rfl) l)
 rw[List.length_map] at this
 simp -implicitDefEqProofs(maxSteps:=999999)(disch:=first|with_reducible rfl|omega|(simp only[nA,nS,nD]<;>omega)|fail)only[go_sem,this]
theorem dupReading_ev {h:H}{x:V}{l:List Rd}(hw:h.wf)(hx:SlAt h x 3 (l.map encR))(hl:l.length≤1000000)(Q:V→H→Prop):
  Ev fnG fastA (.fn 73 [] []) [x] h Q=Q (.sl h.next 0 l.length (.fix l.length)) (h.add (.cells .rw (l.map encR).flatten)):=by
 refine Ev.det (Ev_body (fd:=c73) rfl rfl rfl ?_) Q
 simp -implicitDefEqProofs(maxSteps:=999999)(disch:=first|with_reducible rfl|omega|(simp only[nA,nS,nD]<;>omega)|fail)only[c73,go_sem,hx.lenE,a_msl_0n]
 have:=dup_core (by_:=24) (z:=[.int .i64 0,.int .i64 0,.int .i64 0]) hx hw rfl (by omega) (allOne_flat (fun a=>rfl) l)
 rw[List.length_map] at this
 simp -implicitDefEqProofs(maxSteps:=999999)(disch:=first|with_reducible rfl|omega|(simp only[nA,nS,nD]<;>omega)|fail)only[go_sem,this]
theorem dupGap_ev {h:H}{x:V}{l:List Gp}(hw:h.wf)(hx:SlAt h x 4 (l.map encG))(hl:l.length≤1000000)(Q:V→H→Prop):
  Ev fnG fastA (.fn 74 [] []) [x] h Q=Q (.sl h.next 0 l.length (.fix l.length)) (h.add (.cells .rw (l.map encG).flatten)):=by
 refine Ev.det (Ev_body (fd:=c74) rfl rfl rfl ?_) Q
 simp -implicitDefEqProofs(maxSteps:=999999)(disch:=first|with_reducible rfl|omega|(simp only[nA,nS,nD]<;>omega)|fail)only[c74,go_sem,hx.lenE,a_msl_0n]
 have:=dup_core (by_:=32) (z:=[.int .i64 0,.int .i64 0,.int .i64 0,.int .i64 0]) hx hw rfl (by omega) (allOne_flat (fun a=>rfl) l)
 rw[List.length_map] at this
 simp -implicitDefEqProofs(maxSteps:=999999)(disch:=first|with_reducible rfl|omega|(simp only[nA,nS,nD]<;>omega)|fail)only[go_sem,this]
end Go.Ab.Tryz
namespace Go.Ab.Tryz
open Go.Proofs
structure AtNew (h0 h:H)(C R G:V)(a:At):Prop where
 s:h0.Sub h
 is:∃b1 b2 b3,C=.sl b1 0 a.cks.length (.fix a.cks.length)∧R=.sl b2 0 a.rds.length (.fix a.rds.length)∧G=.sl b3 0 a.gps.length (.fix a.gps.length)∧h0.next≤b1∧b1<b2∧b2<b3∧b3<h.next∧
  h.get b1=some (.cells .rw (a.cks.map encC).flatten)∧h.get b2=some (.cells .rw (a.rds.map encR).flatten)∧h.get b3=some (.cells .rw (a.gps.map encG).flatten)
structure SmallA (a:At):Prop where
 c:a.cks.length≤100
 r:a.rds.length≤100
 g:a.gps.length≤100
theorem AtNew.at_ {h0 h:H}{C R G:V}{a:At}(n:AtNew h0 h C R G a)(l:SmallA a):AtAt h C R G a:=by
 obtain⟨b1,b2,b3,rfl,rfl,rfl,_,_,_,_,g1,g2,g3⟩:=n.is
 exact⟨SlAt.full (by simp) g1 (fun r hr=>by obtain⟨c,_,rfl⟩:=List.mem_map.1 hr;rfl) (by rw[List.length_map];have:=l.c;omega),
  SlAt.full (by simp) g2 (fun r hr=>by obtain⟨c,_,rfl⟩:=List.mem_map.1 hr;rfl) (by rw[List.length_map];have:=l.r;omega),
  SlAt.full (by simp) g3 (fun r hr=>by obtain⟨c,_,rfl⟩:=List.mem_map.1 hr;rfl) (by rw[List.length_map];have:=l.g;omega)⟩
set_option maxHeartbeats 1000000 in
theorem own_ev {h:H}(hw:h.wf){a:At}{C R G:V}(x:AtAt h C R G a)(l:SmallA a)(Q:V→H→Prop)(q:∀C' R' G' h',AtNew h h' C' R' G' a→Q (.agg (atV a C' R' G')) h'):Ev fnG fastA (.fn 17 [] []) [.agg (atV a C R G)] h Q:=by
 obtain⟨l1,l2,l3⟩:=l
 have oC:=x.c.one;have oR:=x.r.one;have oG:=x.g.one
 refine Ev_body (fd:=c17) rfl rfl rfl ?_
 have s2:h.Sub ((h.add (.cells .rw (atV a C R G))).add (.cells .rw [.int .i64 0,.int .i64 0,.nils,.nils,.nils])):=(by repeat(first|assumption|exact H.Sub.refl (by assumption)|refine H.Sub.add ?_ _|refine H.Sub.set ?_ (by first|omega|(simp only[H.next_add,H.next_set,H.next_del]<;>omega)) (by first|omega|(simp only[H.next_add,H.next_set,H.next_del]<;>omega)) (by assumption) _))
 have s3:=s2.add (.cells .rw (a.cks.map encC).flatten)
 have s4:=s3.add (.cells .rw (a.rds.map encR).flatten)
 have s5:=s4.add (.cells .rw (a.gps.map encG).flatten)
 simp -implicitDefEqProofs(maxSteps:=999999)(disch:=first|with_reducible rfl|omega|(simp only[nA,nS,nD]<;>omega)|fail)only[c17,go_sem,dupClock_ev s2.wf (x.c.mono s2) (by omega),dupReading_ev s3.wf (x.r.mono s3) (by omega),dupGap_ev s4.wf (x.g.mono s4) (by omega),evQ_ld]
 refine q _ _ _ _ ⟨(by repeat(first|assumption|exact H.Sub.refl (by assumption)|refine H.Sub.add ?_ _|refine H.Sub.set ?_ (by first|omega|(simp only[H.next_add,H.next_set,H.next_del]<;>omega)) (by first|omega|(simp only[H.next_add,H.next_set,H.next_del]<;>omega)) (by assumption) _)),h.next+1+1,h.next+1+1+1,h.next+1+1+1+1,rfl,rfl,rfl,by omega,by omega,by omega,by simp only[H.next_set,H.next_add];omega,?_,?_,?_⟩
 all_goals simp -implicitDefEqProofs(maxSteps:=999999)(disch:=first|with_reducible rfl|omega|(simp only[nA,nS,nD]<;>omega)|fail)only[go_sem]
end Go.Ab.Tryz
namespace Go.Ab.Tryz
open Go.Proofs
theorem take_at {α:Type}{l:List α}{i:Nat}(hi:i<l.length):l.take (i+1)=l.take i++[l[i]]:=List.take_succ_eq_append_getElem hi
end Go.Ab.Tryz
namespace Go.Ab.Tryz
open Go.Proofs
end Go.Ab.Tryz
namespace Go.Ab.Tryz
open Go.Proofs
def lg2 (lo hi m:Int):Bool:=within lo hi m&&decide (4<hi-lo)
def Ck.lg (c:Ck):Bool:=lg2 c.sl c.sh 60||lg2 c.gl c.gh 30
end Go.Ab.Tryz
namespace Go.Ab
theorem a_msl_nm {h:H}{by_ n m:Nat}{z:List V}(h0:n≤m)(h1:m*by_≤1099511627776)(h2:m≤1099511627776):
  a_msl h by_ z (.int .i64 (n:Int)) (.int .i64 (m:Int))=some (.sl h.next 0 n (.fix m),h.add (.cells .rw (repN m z))):=by
 have e1:Nat.ble (m*by_) 1099511627776=true:=by simpa using h1
 have e2:Nat.ble m 1099511627776=true:=by simpa using h2
 have e3:Nat.ble n m=true:=by simpa using h0
 simp only[a_msl,nat_cst,e1,e2,e3,og_true,lf_eq]
end Go.Ab
namespace Go.Ab.Tryz
open Go.Proofs
structure AtOw (h0 h:H)(C R G:V)(a:At):Prop where
 c:OwnC h0 h C 4 (a.cks.map encC)
 r:OwnC h0 h R 3 (a.rds.map encR)
 g:OwnC h0 h G 4 (a.gps.map encG)
 cr:∀b,blkOf C b→¬blkOf R b
 cg:∀b,blkOf C b→¬blkOf G b
 rg:∀b,blkOf R b→¬blkOf G b
variable {h0 h1 h h':H} {C R G:V} {a:At}
theorem AtOw.sub (o:AtOw h0 h C R G a):h0.Sub h:=o.c.1
theorem AtOw.at_ (o:AtOw h0 h C R G a)(l:SmallA a):AtAt h C R G a:=
 ⟨o.c.sl (by rw[List.length_map];have:=l.c;omega),o.r.sl (by rw[List.length_map];have:=l.r;omega),o.g.sl (by rw[List.length_map];have:=l.g;omega)⟩
theorem AtOw.mono (o:AtOw h0 h C R G a)(s:h.Sub h'):AtOw h0 h' C R G a:=⟨o.c.mono s,o.r.mono s,o.g.mono s,o.cr,o.cg,o.rg⟩
theorem AtOw.base (o:AtOw h1 h C R G a)(s:h0.Sub h1):AtOw h0 h C R G a:=⟨o.c.base s,o.r.base s,o.g.base s,o.cr,o.cg,o.rg⟩
def atBlk (C R G:V)(b:Nat):Prop:=blkOf C b∨blkOf R b∨blkOf G b
theorem AtOw.blk (o:AtOw h0 h C R G a){b:Nat}(hb:atBlk C R G b):h0.next≤b∧b<h.next:=by
 rcases hb with hb|hb|hb
 ·exact⟨(o.c.blk hb).1,(o.c.blk hb).2.1⟩
 ·exact⟨(o.r.blk hb).1,(o.r.blk hb).2.1⟩
 ·exact⟨(o.g.blk hb).1,(o.g.blk hb).2.1⟩
theorem AtOw.keep (o:AtOw h0 h C R G a){S:Nat→Prop}(k:Keeps S h h')(s:h0.Sub h')(n:∀b,atBlk C R G b→¬S b):AtOw h0 h' C R G a:=
 ⟨o.c.keep k s fun b hb=>n b (.inl hb),o.r.keep k s fun b hb=>n b (.inr (.inl hb)),o.g.keep k s fun b hb=>n b (.inr (.inr hb)),o.cr,o.cg,o.rg⟩
theorem OwnC.full {sz n b:Nat}{x:V}{rows:List (List V)}(hs:h0.Sub h)(hx:x=.sl b 0 n (.fix n))(hn:n=rows.length)(hr:∀r∈rows,r.length=sz)(l1:h0.next≤b)(l2:b<h.next)(hg:h.get b=some (.cells .rw rows.flatten)):OwnC h0 h x sz rows:=by
 subst hn
 exact⟨hs,hr,.inr (.inr ⟨b,rows.length,[],hx,l1,l2,by rw[List.append_nil];exact hg,by rw[List.length_nil,Nat.add_zero],Nat.le_refl _⟩)⟩
theorem AtNew.ow (n:AtNew h0 h C R G a):AtOw h0 h C R G a:=by
 obtain⟨b1,b2,b3,rfl,rfl,rfl,l0,l1,l2,l3,g1,g2,g3⟩:=n.is
 refine⟨OwnC.full n.s rfl (by simp) (fun r hr=>by obtain⟨c,_,rfl⟩:=List.mem_map.1 hr;rfl) (by omega) (by omega) g1,OwnC.full n.s rfl (by simp) (fun r hr=>by obtain⟨c,_,rfl⟩:=List.mem_map.1 hr;rfl) (by omega) (by omega) g2,
  OwnC.full n.s rfl (by simp) (fun r hr=>by obtain⟨c,_,rfl⟩:=List.mem_map.1 hr;rfl) (by omega) (by omega) g3,?_,?_,?_⟩<;>(rintro b ⟨_,_,_,e⟩ ⟨_,_,_,e'⟩;cases e;cases e';omega)
def At.none:At:=⟨0,0,[],[],[]⟩
theorem AtOw.none (s:h0.Sub h):AtOw h0 h .nils .nils .nils At.none:=⟨(OwnSl.nil s 4).c,(OwnSl.nil s 3).c,(OwnSl.nil s 4).c,fun b hb=>(blkOf_nils hb).elim,fun b hb=>(blkOf_nils hb).elim,fun b hb=>(blkOf_nils hb).elim⟩
end Go.Ab.Tryz
namespace Go.Ab.Tryz
open Go.Proofs
theorem AtOw.appR {h0 h h':H}{C R G R2:V}{a:At}{y:Rd}(o:AtOw h0 h C R G a)(o7:OwnC h0 h' R2 3 (a.rds.map encR++[encR y]))(b7:∀b,blkOf R2 b→blkOf R b∨h.next≤b)(k7:Keeps (blkOf R) h h'):AtOw h0 h' C R2 G (a.addR y):=by
 refine⟨o.c.keep k7 o7.1 fun b hb hR=>o.cr b hb hR,?_,o.g.keep k7 o7.1 fun b hb hR=>o.rg b hR hb,fun b hb hb'=>?_,o.cg,fun b hb hb'=>?_⟩
 ·have:(a.addR y).rds.map encR=a.rds.map encR++[encR y]:=by simp[At.addR]
  rw[this];exact o7
 ·rcases b7 b hb' with q|q
  ·exact o.cr b hb q
  ·have:=(o.c.blk hb).2.1;omega
 ·rcases b7 b hb with q|q
  ·exact o.rg b q hb'
  ·have:=(o.g.blk hb').2.1;omega
theorem AtOw.appC {h0 h h':H}{C R G C2:V}{a:At}{y:Ck}(o:AtOw h0 h C R G a)(o7:OwnC h0 h' C2 4 (a.cks.map encC++[encC y]))(b7:∀b,blkOf C2 b→blkOf C b∨h.next≤b)(k7:Keeps (blkOf C) h h'):AtOw h0 h' C2 R G (a.addC y):=by
 refine⟨?_,o.r.keep k7 o7.1 fun b hb hR=>o.cr b hR hb,o.g.keep k7 o7.1 fun b hb hR=>o.cg b hR hb,fun b hb hb'=>?_,fun b hb hb'=>?_,o.rg⟩
 ·have:(a.addC y).cks.map encC=a.cks.map encC++[encC y]:=by simp[At.addC]
  rw[this];exact o7
 ·rcases b7 b hb with q|q
  ·exact o.cr b q hb'
  ·have:=(o.r.blk hb').2.1;omega
 ·rcases b7 b hb with q|q
  ·exact o.cg b q hb'
  ·have:=(o.g.blk hb').2.1;omega
end Go.Ab.Tryz
namespace Go.Ab.Tryz
open Go.Proofs
theorem indexFuncInt_ev {l:List Int}{p:Int→Bool}{h:H}{x f:V}(hw:h.wf)(hx:SlAt h x 1 (l.map encI))(hp:∀a∈l,PureA h f [.int .i64 a] (.bool (p a))):
  E (.fn 143 [] []) [x,f] h fun v h'=>v=.int .i64 (fidx p l 0)∧h.Sub h':=by
 have hb:=hx.boundE
 refine Ev_body (fd:=c143) rfl rfl rfl ?_
 simp -implicitDefEqProofs(maxSteps:=999999)(disch:=first|with_reducible rfl|omega|(simp only[nA,nS,nD]<;>omega)|fail)only[c143,go_sem,hx.lenE]
 refine W_count l.length (fun i s=>∃tm h',s=⟨tm,h',[]⟩∧h.Sub h'∧(Opd.t 0).ev tm=x∧(Opd.t 1).ev tm=f∧(Opd.t 7).ev tm=.int .i64 (l.length:Int)∧(Opd.t 8).ev tm=.int .i64 (i:Int)∧fidx p l 0=fidx p (l.drop i) i)
  ?_ ?_ (i:=0) (Nat.zero_le _) ⟨_,_,rfl,H.Sub.refl hw,(by simp[ev_c,ev_put]<;>rfl),(by simp[ev_c,ev_put]<;>rfl),(by simp[ev_c,ev_put]<;>rfl),(by simp only[ev_put];rfl),rfl⟩
 ·rintro i s hi ⟨tm,h',rfl,hs,e0,e1,e7,e8,e9⟩
  have hi':(i:Int)<(l.length:Int):=by omega
  obtain⟨b,o,c,cs,rfl,hc,hq,hg,hn,hn0⟩:=(hx.mono hs).at hi
  simp -implicitDefEqProofs(maxSteps:=999999)(disch:=first|with_reducible rfl|omega|(simp only[nA,nS,nD]<;>omega)|fail)only[go_sem,e0,e1,e7,e8,hi',hq (nat_cst i),hc,hn0 (by omega),encI]
  refine(hp _ (List.getElem_mem hi)).use hs fun h2 hs2=>?_
  cases hpr:p l[i] with
  |true=>
   simp -implicitDefEqProofs(maxSteps:=999999)(disch:=first|with_reducible rfl|omega|(simp only[nA,nS,nD]<;>omega)|fail)only[go_sem,e0,e1,e7,e8]
   exact⟨by rw[e9,fidx_hit hi hpr],hs.trans hs2⟩
  |false=>
   simp -implicitDefEqProofs(maxSteps:=999999)(disch:=first|with_reducible rfl|omega|(simp only[nA,nS,nD]<;>omega)|fail)only[go_sem,e0,e1,e7,e8,wr_succ]
   exact⟨_,_,rfl,hs.trans hs2,(by simp[ev_c,ev_put,e0]<;>rfl),(by simp[ev_c,ev_put,e1]<;>rfl),(by simp[ev_c,ev_put,e7]<;>rfl),(by simp[ev_c,ev_put]<;>rfl),by rw[e9,fidx_miss hi hpr]⟩
 ·rintro s ⟨tm,h',rfl,hs,e0,e1,e7,e8,e9⟩
  simp -implicitDefEqProofs(maxSteps:=999999)(disch:=first|with_reducible rfl|omega|(simp only[nA,nS,nD]<;>omega)|fail)only[go_sem,e0,e1,e7,e8,Int.lt_irrefl]
  exact⟨by rw[e9];simp[fidx],hs⟩
theorem containsFuncInt_ev {l:List Int}{p:Int→Bool}{h:H}{x f:V}(hw:h.wf)(hx:SlAt h x 1 (l.map encI))(hp:∀a∈l,PureA h f [.int .i64 a] (.bool (p a))):
  E (.fn 58 [] []) [x,f] h fun v h'=>v=.bool (l.any p)∧h.Sub h':=by
 refine Ev_body (fd:=c58) rfl rfl rfl ?_
 simp -implicitDefEqProofs(maxSteps:=999999)(disch:=first|with_reducible rfl|omega|(simp only[nA,nS,nD]<;>omega)|fail)only[c58,go_sem]
 refine(indexFuncInt_ev hw hx hp).mono fun v h' hv=>?_
 obtain⟨rfl,hs⟩:=hv
 simp -implicitDefEqProofs(maxSteps:=999999)(disch:=first|with_reducible rfl|omega|(simp only[nA,nS,nD]<;>omega)|fail)only[go_sem]
 exact⟨by rw[fidx_any],hs⟩
theorem everyInt_ev {l:List Int}{p:Int→Bool}{h:H}{x:V}{g:FuncId}{u w:List V}(hw:h.wf)(hx:SlAt h x 1 (l.map encI))(hp:∀a∈l,PureA h (.fn g u w) [.int .i64 a] (.bool (p a))):
  E (.fn 112 [] []) [x,.fn g u w] h fun v h'=>v=.bool (l.all p)∧h.Sub h':=by
 refine Ev_body (fd:=c112) rfl rfl rfl ?_
 simp -implicitDefEqProofs(maxSteps:=999999)(disch:=first|with_reducible rfl|omega|(simp only[nA,nS,nD]<;>omega)|fail)only[c112,go_sem]
 have hs1:h.Sub (h.add (.cells .rw [.fn g u w])):=(H.Sub.refl hw).add _
 refine(containsFuncInt_ev (p:=fun a=> !p a) hs1.wf (hx.mono hs1) fun a ha h2 hs2=>?_).mono fun v h' hv=>?_
 ·have hc:h2.cells h.next=some [.fn g u w]:=hs2.cells (cells_add_new rfl)
  have hl:h.next<h2.next:=by have:=hs2.next;rw[H.next_add] at this;omega
  refine Ev_body (fd:=c159) rfl rfl rfl ?_
  simp -implicitDefEqProofs(maxSteps:=999999)(disch:=first|with_reducible rfl|omega|(simp only[nA,nS,nD]<;>omega)|fail)only[c159,go_sem,hc]
  refine((hp a ha).mono hs1).use hs2 fun h3 hs3=>?_
  simp -implicitDefEqProofs(maxSteps:=999999)(disch:=first|with_reducible rfl|omega|(simp only[nA,nS,nD]<;>omega)|fail)only[go_sem]
  exact hs3
 ·obtain⟨rfl,hs⟩:=hv
  simp -implicitDefEqProofs(maxSteps:=999999)(disch:=first|with_reducible rfl|omega|(simp only[nA,nS,nD]<;>omega)|fail)only[go_sem]
  exact⟨by rw[any_not],hs1.trans hs⟩
theorem dupInt_ev {h:H}{x:V}{l:List Int}(hw:h.wf)(hx:SlAt h x 1 (l.map encI))(hl:l.length≤1000000)(Q:V→H→Prop):
  Ev fnG fastA (.fn 40 [] []) [x] h Q=Q (.sl h.next 0 l.length (.fix l.length)) (h.add (.cells .rw (l.map encI).flatten)):=by
 refine Ev.det (Ev_body (fd:=c40) rfl rfl rfl ?_) Q
 simp -implicitDefEqProofs(maxSteps:=999999)(disch:=first|with_reducible rfl|omega|(simp only[nA,nS,nD]<;>omega)|fail)only[c40,go_sem,hx.lenE,a_msl_0n]
 have:=dup_core (by_:=8) (z:=[.int .i64 0]) hx hw rfl (by omega) (allOne_flat (fun a=>rfl) l)
 rw[List.length_map] at this
 simp -implicitDefEqProofs(maxSteps:=999999)(disch:=first|with_reducible rfl|omega|(simp only[nA,nS,nD]<;>omega)|fail)only[go_sem,this]
end Go.Ab.Tryz
namespace Go.Ab.Tryz
open Go.Proofs
theorem fits1_ev {h:H}{a:At}{C R G:V}{b:Nat}(gb:h.cells b=some (atV a C R G))(n:Int):PureA h (.fn 120 [] [.ptr b 0]) [.int .i64 n] (.bool (inB n 0 a.mins)):=by
 intro h1 s
 refine Ev_body (fd:=c120) rfl rfl rfl ?_
 simp -implicitDefEqProofs(maxSteps:=999999)(disch:=first|with_reducible rfl|omega|(simp only[nA,nS,nD]<;>omega)|fail)only[c120,go_sem,s.cells gb,in_eq]
 exact H.Sub.refl s.wf
theorem fits2_ev {h:H}(hw:h.wf){S Ga Tm:V}{ss gg tt:List Int}(t:TrAt h S Ga Tm ss gg tt)(hb:∀t∈tt,0≤t∧t≤240){b:Nat}(gb:h.cells b=some [S,Ga,Tm]){y:Rd}{k e:Nat}(e1:y.ck=k)(e2:y.ev=e)(l1:k<ss.length)(l2:k<gg.length)(l3:e<tt.length)(hrun:RunIn ss[k] gg[k]):
  E (.fn 122 [] [.ptr b 0]) [.agg (encR y)] h fun u h'=>u=.bool (rdFit ss gg tt y)∧h.Sub h':=by
 refine Ev_body (fd:=c122) rfl rfl rfl ?_
 have lb:b<h.next:=(H.cells_eq gb).elim fun kd e=>hw _ _ e
 obtain⟨b1,o1,c1,cs1,ef1,hc1,hq1,_,_,n1⟩:=t.s.at l1
 obtain⟨b2,o2,c2',cs2,ef2,hc2,hq2,_,_,n2⟩:=t.g.at l2
 obtain⟨b3,o3,c3',cs3,ef3,hc3,hq3,_,_,n3⟩:=t.t.at l3
 have v1:=n1 (by decide)
 have v2:=n2 (by decide)
 have v3:=n3 (by decide)
 simp only[encI,List.getElem?_cons_zero] at v1 v2 v3
 have q3:=hb _ (List.getElem_mem l3)
 have hf:rdFit ss gg tt y=decide (shw ss[k] gg[k] tt[e]=y.sh):=by
  unfold rdFit
  rw[e1,e2,Int.toNat_natCast,Int.toNat_natCast,getD_at l1,getD_at l2,getD_at l3]
 rw[hf]
 have lb1:b1<h.next:=(H.cells_eq hc1).elim fun kd e=>hw _ _ e
 have lb2:b2<h.next:=(H.cells_eq hc2).elim fun kd e=>hw _ _ e
 have lb3:b3<h.next:=(H.cells_eq hc3).elim fun kd e=>hw _ _ e
 generalize ss[k]=y1 at v1 hrun⊢
 generalize gg[k]=y2 at v2 hrun⊢
 generalize tt[e]=y3 at v3 q3⊢
 simp -implicitDefEqProofs(maxSteps:=999999)(disch:=first|with_reducible rfl|omega|(simp only[nA,nS,nD]<;>omega)|fail)only[c122,go_sem,encR,gb,e1,e2,hq1 (nat_cst k),hq2 (nat_cst k),hq3 (nat_cst e),hc1,hc2,hc3,v1,v2,v3]
 have s1:h.Sub (h.add (.cells .rw [.int .i64 (k:Int),.int .i64 (e:Int),.int .i64 y.sh])):=(by repeat(first|assumption|exact H.Sub.refl (by assumption)|refine H.Sub.add ?_ _|refine H.Sub.set ?_ (by first|omega|(simp only[H.next_add,H.next_set,H.next_del]<;>omega)) (by first|omega|(simp only[H.next_add,H.next_set,H.next_del]<;>omega)) (by assumption) _))
 have g1:(h.add (.cells .rw [.int .i64 (k:Int),.int .i64 (e:Int),.int .i64 y.sh])).cells h.next=some [.int .i64 (k:Int),.int .i64 (e:Int),.int .i64 y.sh]:=cells_add_new rfl
 refine shows_ev rfl s1.wf hrun q3.1 q3.2 _ fun h4 s4=>?_
 have s14:=s1.trans s4
 simp -implicitDefEqProofs(maxSteps:=999999)(disch:=first|with_reducible rfl|omega|(simp only[nA,nS,nD]<;>omega)|fail)only[go_sem,s4.cells g1,s14.cells gb,s14.cells hc1,s14.cells hc2,s14.cells hc3,gb,hc1,hc2,hc3,v1,v2,v3]
 exact s14
theorem fits3_ev {h:H}(hw:h.wf){S Ga Tm:V}{ss gg tt:List Int}(t:TrAt h S Ga Tm ss gg tt)(hb:∀t∈tt,0≤t∧t≤240){b:Nat}(gb:h.cells b=some [S,Ga,Tm]){g:Gp}{i e:Nat}(e1:g.fr=i)(e2:g.to=e)(l1:i<tt.length)(l2:e<tt.length):
  E (.fn 124 [] [.ptr b 0]) [.agg (encG g)] h fun u h'=>u=.bool (gpFit tt g)∧h.Sub h':=by
 refine Ev_body (fd:=c124) rfl rfl rfl ?_
 have lb:b<h.next:=(H.cells_eq gb).elim fun kd e=>hw _ _ e
 obtain⟨b1,o1,c1,cs1,ef1,hc1,hq1,_,_,n1⟩:=t.t.at l1
 obtain⟨b2,o2,c2',cs2,ef2,hc2,hq2,_,_,n2⟩:=t.t.at l2
 have v1:=n1 (by decide)
 have v2:=n2 (by decide)
 simp only[encI,List.getElem?_cons_zero] at v1 v2
 have q1:=hb _ (List.getElem_mem l1)
 have q2:=hb _ (List.getElem_mem l2)
 have lb1:b1<h.next:=(H.cells_eq hc1).elim fun kd e=>hw _ _ e
 have lb2:b2<h.next:=(H.cells_eq hc2).elim fun kd e=>hw _ _ e
 have hgp:gpFit tt g=inB (tt[e]-tt[i]) g.lo g.hi:=by
  unfold gpFit
  rw[e1,e2,Int.toNat_natCast,Int.toNat_natCast,getD_at l1,getD_at l2]
 rw[hgp]
 generalize tt[i]=y1 at v1 q1⊢
 generalize tt[e]=y2 at v2 q2⊢
 have w:wr .i64 (y2-y1)=y2-y1:=wr_in (by omega) (by omega)
 simp -implicitDefEqProofs(maxSteps:=999999)(disch:=first|with_reducible rfl|omega|(simp only[nA,nS,nD]<;>omega)|fail)only[c124,go_sem,encG,gb,e1,e2,hq1 (nat_cst i),hq2 (nat_cst e),hc1,hc2,v1,v2,w,in_eq]
 exact(by repeat(first|assumption|exact H.Sub.refl (by assumption)|refine H.Sub.add ?_ _|refine H.Sub.set ?_ (by first|omega|(simp only[H.next_add,H.next_set,H.next_del]<;>omega)) (by first|omega|(simp only[H.next_add,H.next_set,H.next_del]<;>omega)) (by assumption) _))
def fitsR (a:At)(ss gg tt:List Int):Bool:=decide (checkA a=0)&&fitB a ss gg tt
set_option maxHeartbeats 4000000 in
theorem Fits_ev {h:H}(hw:h.wf){a:At}{C R G:V}(x:AtAt h C R G a){S Ga Tm:V}{ss gg tt:List Int}(t:TrAt h S Ga Tm ss gg tt)(Q:V→H→Prop)(q:∀h',h.Sub h'→Q (.tup [.bool (fitsR a ss gg tt),.int .i64 (checkA a)]) h'):
  Ev fnG fastA (.fn 47 [] []) [.agg (atV a C R G),.agg [S,Ga,Tm]] h Q:=by
 have oC:=x.c.one;have oR:=x.r.one;have oG:=x.g.one
 have oS:=t.s.one;have oGa:=t.g.one;have oTm:=t.t.one
 have hlC:=x.c.lenE;have hlR:=x.r.lenE;have hlG:=x.g.lenE
 have hlS:=t.s.lenE;have hlGa:=t.g.lenE;have hlT:=t.t.lenE
 refine Ev_body (fd:=c47) rfl rfl rfl ?_
 obtain⟨z,hz⟩:∃z,(h.add (.cells .rw (atV a C R G))).add (.cells .rw [S,Ga,Tm])=z:=⟨_,rfl⟩
 have sz:h.Sub z:=by rw[←hz];exact(by repeat(first|assumption|exact H.Sub.refl (by assumption)|refine H.Sub.add ?_ _|refine H.Sub.set ?_ (by first|omega|(simp only[H.next_add,H.next_set,H.next_del]<;>omega)) (by first|omega|(simp only[H.next_add,H.next_set,H.next_del]<;>omega)) (by assumption) _))
 have ga:z.get h.next=some (.cells .rw (atV a C R G)):=by rw[←hz];simp -implicitDefEqProofs(maxSteps:=999999)(disch:=first|with_reducible rfl|omega|(simp only[nA,nS,nD]<;>omega)|fail)only[go_sem]
 have gt:z.get (h.next+1)=some (.cells .rw [S,Ga,Tm]):=by rw[←hz];simp -implicitDefEqProofs(maxSteps:=999999)(disch:=first|with_reducible rfl|omega|(simp only[nA,nS,nD]<;>omega)|fail)only[go_sem]
 simp -implicitDefEqProofs(maxSteps:=999999)(disch:=first|with_reducible rfl|omega|(simp only[nA,nS,nD]<;>omega)|fail)only[c47,go_sem,oS,oGa,oTm,oC,oR,oG]
 rw[hz]
 clear hz
 refine check_ev sz.wf ⟨C,R,G,rfl,x.mono sz⟩ _ fun z1 s1=>?_
 have hs1:=sz.trans s1
 by_cases he:checkA a=0
 case neg=>
  simp -implicitDefEqProofs(maxSteps:=999999)(disch:=first|with_reducible rfl|omega|(simp only[nA,nS,nD]<;>omega)|fail)only[go_sem,(decide_eq_true he:decide (checkA a≠0)=true)]
  have:=q z1 hs1
  rwa[show fitsR a ss gg tt=false by simp[fitsR,he]] at this
 have r:=checkA_iff.1 he
 have d0:decide ((0:Int)≠0)=false:=rfl
 have hfR:fitsR a ss gg tt=fitB a ss gg tt:=by simp[fitsR,he]
 rw[hfR,he] at q
 rw[he]
 have rl:=r.lens
 have re:=r.evs
 have rm:=r.mins
 have no:fitB a ss gg tt=false→∀z',z1.Sub z'→Q (.tup [.bool false,.int .i64 0]) z':=fun e z' s=>by have:=q z' (hs1.trans s);rwa[e] at this
 have s10:=H.Sub.refl hs1.wf
 have ga1:=s1.get ga
 have gt1:=s1.get gt
 obtain⟨b1,hb1⟩:∃b,decide ((ss.length:Int)≠(a.cks.length:Int))=b:=⟨_,rfl⟩
 obtain⟨b2,hb2⟩:∃b,decide ((gg.length:Int)≠(a.cks.length:Int))=b:=⟨_,rfl⟩
 obtain⟨b3,hb3⟩:∃b,decide ((tt.length:Int)≠a.evs)=b:=⟨_,rfl⟩
 by_cases hl:lenFit a ss gg tt=true
 case neg=>
  have hf:fitB a ss gg tt=false:=by cases hh:fitB a ss gg tt;rfl;exact absurd (fitB_parts.1 hh).1 hl
  have hor:b1=true∨b2=true∨b3=true:=by
   rw[lenFit_iff] at hl
   rw[←hb1,←hb2,←hb3]
   simp only[decide_eq_true_eq]
   omega
  cases b1<;>cases b2<;>cases b3
  all_goals try(exfalso;revert hor;decide)
  all_goals
   simp -implicitDefEqProofs(maxSteps:=999999)(disch:=first|with_reducible rfl|omega|(simp only[nA,nS,nD]<;>omega)|fail)only[go_sem,d0,cells_of ga1,cells_of gt1,hlC,hlS,hlGa,hlT,hb1,hb2,hb3]
   exact no hf _ s10
 obtain⟨l1,l2,l3⟩:=lenFit_iff.1 hl
 have e1:b1=false:=by rw[←hb1];simp;omega
 have e2:b2=false:=by rw[←hb2];simp;omega
 have e3:b3=false:=by rw[←hb3];simp;omega
 subst e1 e2 e3
 simp -implicitDefEqProofs(maxSteps:=999999)(disch:=first|with_reducible rfl|omega|(simp only[nA,nS,nD]<;>omega)|fail)only[go_sem,d0,cells_of ga1,cells_of gt1,hlC,hlS,hlGa,hlT,hb1,hb2,hb3]
 refine(everyInt_ev (p:=fun n=>inB n 0 a.mins) hs1.wf (t.t.mono hs1) fun n _=>fits1_ev (cells_of ga1) n).mono fun u z2 hu=>?_
 obtain⟨rfl,s2⟩:=hu
 have hs2:=hs1.trans s2
 cases htim:tt.all fun n=>inB n 0 a.mins with
 |false=>
  simp -implicitDefEqProofs(maxSteps:=999999)(disch:=first|with_reducible rfl|omega|(simp only[nA,nS,nD]<;>omega)|fail)only[go_sem]
  exact no (by cases hh:fitB a ss gg tt;rfl;have:=(fitB_parts.1 hh).2.1;rw[timFit,htim] at this;cases this) _ s2
 |true=>
 have hbt:∀y∈tt,0≤y∧y≤240:=fun y hy=>by
  have:=(inB_iff ..).1 (List.all_eq_true.1 htim y hy);omega
 have ga2:=s2.get ga1
 have gt2:=s2.get gt1
 simp -implicitDefEqProofs(maxSteps:=999999)(disch:=first|with_reducible rfl|omega|(simp only[nA,nS,nD]<;>omega)|fail)only[go_sem,cells_of ga2,hlC]
 refine W_count a.cks.length (fun i s=>∃tm z',s=⟨tm,z',[]⟩∧z2.Sub z'∧(∀(j:Nat) c s g,j<i→a.cks[j]? =some c→ss[j]? =some s→gg[j]? =some g→ckFit c (s,g)=true)∧
   (Opd.t 2).ev tm=.ptr h.next 0∧(Opd.t 3).ev tm=.ptr (h.next+1) 0∧(Opd.t 46).ev tm=C∧(Opd.t 47).ev tm=.int .i64 (a.cks.length:Int)∧(Opd.t 48).ev tm=.int .i64 (i:Int)) ?_ ?_ (i:=0) (Nat.zero_le _)
  ⟨_,_,rfl,H.Sub.refl s2.wf,fun j _ _ _ hj=>absurd hj (Nat.not_lt_zero _),(by simp[ev_c,ev_put]<;>rfl),(by simp[ev_c,ev_put]<;>rfl),(by simp[ev_c,ev_put]<;>rfl),(by simp[ev_c,ev_put]<;>rfl),(by simp[ev_c,ev_put]<;>rfl)⟩
 ·rintro i s hi ⟨tm,z',rfl,s',hok,t2,t3,t36,t37,t38⟩
  have hi':(i:Int)<(a.cks.length:Int):=by omega
  have hsz:=hs2.trans s'
  obtain⟨b,o,cc,cs,eC,hc,hq,hg,_,_⟩:=(x.c.mono hsz).at hi
  have his:i<ss.length:=by omega
  have hig:i<gg.length:=by omega
  obtain⟨b1,o1,cc1,cs1,eS,hc1,hq1,_,_,n1⟩:=(t.s.mono hsz).at his
  obtain⟨b2,o2,cc2,cs2,eG,hc2,hq2,_,_,n2⟩:=(t.g.mono hsz).at hig
  have v1:=n1 (by decide)
  have v2:=n2 (by decide)
  simp only[encI,List.getElem?_cons_zero] at v1 v2
  have ka:a.cks[i]? =some a.cks[i]:=List.getElem?_eq_getElem hi
  have ks:ss[i]? =some ss[i]:=List.getElem?_eq_getElem his
  have kg:gg[i]? =some gg[i]:=List.getElem?_eq_getElem hig
  generalize a.cks[i]=c at hg ka
  generalize ss[i]=y1 at v1 ks
  generalize gg[i]=y2 at v2 kg
  simp only[encC] at hg
  have hwz:=hsz.wf
  have lb1:b1<z'.next:=(H.cells_eq hc1).elim fun kd e=>hwz _ _ e
  have lb2:b2<z'.next:=(H.cells_eq hc2).elim fun kd e=>hwz _ _ e
  have ga':=s'.get ga2
  have gt':=s'.get gt2
  have lt':=hwz _ _ gt'
  have hcf:ckFit c (y1,y2)=(inB y1 c.sl c.sh&&inB y2 c.gl c.gh):=rfl
  have bad:ckFit c (y1,y2)=false→∀z2,z'.Sub z2→Q (.tup [.bool false,.int .i64 0]) z2:=fun e z2 s2'=>no (by
   cases hh:fitB a ss gg tt
   ·rfl
   ·have:=cksFit_at (fitB_parts.1 hh).2.2.1 ka ks kg
    rw[e] at this;cases this) _ (s2.trans (s'.trans s2'))
  have sz':=H.Sub.refl hwz
  cases k1:inB y1 c.sl c.sh with
  |false=>
   simp -implicitDefEqProofs(maxSteps:=999999)(disch:=first|with_reducible rfl|omega|(simp only[nA,nS,nD]<;>omega)|fail)only[go_sem,t2,t3,t36,t37,t38,hi',hq (nat_cst i),hc,hg,cells_of gt',hq1 (nat_cst i),hc1,v1,in_eq,k1]
   exact bad (by rw[hcf,k1];rfl) _ (by repeat(first|assumption|exact H.Sub.refl (by assumption)|refine H.Sub.add ?_ _|refine H.Sub.set ?_ (by first|omega|(simp only[H.next_add,H.next_set,H.next_del]<;>omega)) (by first|omega|(simp only[H.next_add,H.next_set,H.next_del]<;>omega)) (by assumption) _))
  |true=>
   cases k2:inB y2 c.gl c.gh with
   |false=>
    simp -implicitDefEqProofs(maxSteps:=999999)(disch:=first|with_reducible rfl|omega|(simp only[nA,nS,nD]<;>omega)|fail)only[go_sem,t2,t3,t36,t37,t38,hi',hq (nat_cst i),hc,hg,cells_of gt',hq1 (nat_cst i),hc1,v1,hq2 (nat_cst i),hc2,v2,in_eq,k1,k2]
    exact bad (by rw[hcf,k1,k2];rfl) _ (by repeat(first|assumption|exact H.Sub.refl (by assumption)|refine H.Sub.add ?_ _|refine H.Sub.set ?_ (by first|omega|(simp only[H.next_add,H.next_set,H.next_del]<;>omega)) (by first|omega|(simp only[H.next_add,H.next_set,H.next_del]<;>omega)) (by assumption) _))
   |true=>
    simp -implicitDefEqProofs(maxSteps:=999999)(disch:=first|with_reducible rfl|omega|(simp only[nA,nS,nD]<;>omega)|fail)only[go_sem,t2,t3,t36,t37,t38,hi',hq (nat_cst i),hc,hg,cells_of gt',hq1 (nat_cst i),hc1,v1,hq2 (nat_cst i),hc2,v2,in_eq,k1,k2,wr_succ]
    refine⟨_,_,rfl,s'.trans (by repeat(first|assumption|exact H.Sub.refl (by assumption)|refine H.Sub.add ?_ _|refine H.Sub.set ?_ (by first|omega|(simp only[H.next_add,H.next_set,H.next_del]<;>omega)) (by first|omega|(simp only[H.next_add,H.next_set,H.next_del]<;>omega)) (by assumption) _)),fun j c' s' g' hj q1 q2 q3=>?_,(by simp[ev_c,ev_put,t2]<;>rfl),(by simp[ev_c,ev_put,t3]<;>rfl),(by simp[ev_c,ev_put,t36]<;>rfl),(by simp[ev_c,ev_put,t37]<;>rfl),(by simp[ev_c,ev_put]<;>rfl)⟩
    by_cases e:j=i
    ·subst e
     rw[ka] at q1;rw[ks] at q2;rw[kg] at q3
     cases q1;cases q2;cases q3
     rw[hcf,k1,k2];rfl
    ·exact hok j c' s' g' (by omega) q1 q2 q3
 rintro s ⟨tm,z',rfl,s',hok,t2,t3,t36,t37,t38⟩
 have hcks:cksFit a ss gg=true:=cksFit_of fun j c s g q1 q2 q3=>hok j c s g (getl q1) q1 q2 q3
 have ga':=s'.get ga2
 have gt':=s'.get gt2
 have hsz:=hs2.trans s'
 simp -implicitDefEqProofs(maxSteps:=999999)(disch:=first|with_reducible rfl|omega|(simp only[nA,nS,nD]<;>omega)|fail)only[go_sem,t2,t3,t36,t37,t38,Int.lt_irrefl,cells_of ga']
 refine(everyRd_ev (p:=fun y=>rdFit ss gg tt y) hsz.wf (x.r.mono hsz) fun y hy h2 s2'=>?_).mono fun u z4 hu=>?_
 ·obtain⟨k,e,ek,ee,hk,he',he4⟩:=r.rdn hy
  have hks:k<ss.length:=by omega
  have hkg:k<gg.length:=by omega
  exact fits2_ev s2'.wf (t.mono (hsz.trans s2')) hbt (cells_of (s2'.get gt')) ek ee hks hkg (by omega) (ckFit_run r (List.getElem_mem hk) (cksFit_at hcks (List.getElem?_eq_getElem hk) (List.getElem?_eq_getElem hks) (List.getElem?_eq_getElem hkg)))
 obtain⟨rfl,s4⟩:=hu
 cases hrds:a.rds.all fun y=>rdFit ss gg tt y with
 |false=>
  simp -implicitDefEqProofs(maxSteps:=999999)(disch:=first|with_reducible rfl|omega|(simp only[nA,nS,nD]<;>omega)|fail)only[go_sem]
  exact no (by cases hh:fitB a ss gg tt;rfl;have:=(fitB_parts.1 hh).2.2.2.1;rw[hrds] at this;cases this) _ (s2.trans (s'.trans s4))
 |true=>
 have ga4:=s4.get ga'
 have gt4:=s4.get gt'
 have hs4:=hsz.trans s4
 simp -implicitDefEqProofs(maxSteps:=999999)(disch:=first|with_reducible rfl|omega|(simp only[nA,nS,nD]<;>omega)|fail)only[go_sem,cells_of ga4,t2,t3]
 refine(everyGp_ev (p:=fun g=>gpFit tt g) hs4.wf (x.g.mono hs4) fun g hg h2 s2'=>?_).mono fun u z5 hu=>?_
 ·obtain⟨i,e,e1,e2,l1',l2',_,_⟩:=r.gpn hg
  exact fits3_ev s2'.wf (t.mono (hs4.trans s2')) hbt (cells_of (s2'.get gt4)) e1 e2 (by omega) (by omega)
 ·obtain⟨rfl,s5⟩:=hu
  simp -implicitDefEqProofs(maxSteps:=999999)(disch:=first|with_reducible rfl|omega|(simp only[nA,nS,nD]<;>omega)|fail)only[go_sem]
  have:=q z5 (hs4.trans s5)
  have e:fitB a ss gg tt=a.gps.all fun g=>gpFit tt g:=by
   have hrds':a.rds.all (rdFit ss gg tt)=true:=hrds
   unfold fitB timFit
   rw[hl,htim,hcks,hrds'];simp
  rwa[e] at this
end Go.Ab.Tryz
namespace Go.Ab.Tryz
open Go.Proofs
def rowsT (ss gg tt:List Int):Nat→List (List V)
 |0=>ss.map encI
 |1=>gg.map encI
 |2=>tt.map encI
 |_=>[]
theorem rowsT0 {ss gg tt:List Int}{c:Int}:∀i,i<6→updF (rowsT ss gg tt) 0 (rowsT ss gg tt 0++[encI c]) i=rowsT (ss++[c]) gg tt i:=fun i hi=>by
 rcases(by omega:i=0∨i=1∨i=2∨i=3∨i=4∨i=5) with rfl|rfl|rfl|rfl|rfl|rfl<;>simp[updF,rowsT]
theorem rowsT1 {ss gg tt:List Int}{c:Int}:∀i,i<6→updF (rowsT ss gg tt) 1 (rowsT ss gg tt 1++[encI c]) i=rowsT ss (gg++[c]) tt i:=fun i hi=>by
 rcases(by omega:i=0∨i=1∨i=2∨i=3∨i=4∨i=5) with rfl|rfl|rfl|rfl|rfl|rfl<;>simp[updF,rowsT]
theorem rowsT2 {ss gg tt:List Int}{c:Int}:∀i,i<6→updF (rowsT ss gg tt) 2 (rowsT ss gg tt 2++[encI c]) i=rowsT ss gg (tt++[c]) i:=fun i hi=>by
 rcases(by omega:i=0∨i=1∨i=2∨i=3∨i=4∨i=5) with rfl|rfl|rfl|rfl|rfl|rfl<;>simp[updF,rowsT]
structure SmI (h0 z:H)(b7:Nat)(v:Nat→V)(ss gg tt:List Int):Prop where
 sl:Sl6 h0 z (b7+1) v (fun _=>1) (rowsT ss gg tt)
 g:z.get b7=some (.cells .rw [v 0,v 1,v 2])
 nx:b7+1≤z.next
theorem SmI.sub {h0 z:H}{b7:Nat}{v:Nat→V}{ss gg tt:List Int}(k:SmI h0 z b7 v ss gg tt):h0.Sub z:=(k.sl.o 0 (by decide)).1
theorem SmI.mono {h0 z z':H}{b7:Nat}{v:Nat→V}{ss gg tt:List Int}(k:SmI h0 z b7 v ss gg tt)(s:z.Sub z'):SmI h0 z' b7 v ss gg tt:=⟨k.sl.mono s,s.get k.g,Nat.le_trans k.nx s.next⟩
theorem SmI.put {h0 z z':H}{b7:Nat}{v v':Nat→V}{ss gg tt ss' gg' tt':List Int}(k:SmI h0 z b7 v ss gg tt)(hw:h0.wf)(hb:h0.next≤b7){S:Nat→Prop}(kk:Keeps S z z')(sl:Sl6 h0 z' (b7+1) v' (fun _=>1) (rowsT ss' gg' tt')):
  SmI h0 (z'.set b7 (.cells .rw [v' 0,v' 1,v' 2])) b7 v' ss' gg' tt':=by
 have s5:=(sl.o 0 (by omega)).1
 have l5:=kk.1
 have lz:=k.nx
 have sz:=s5.set (b:=b7) hb (by omega) hw (.cells .rw [v' 0,v' 1,v' 2])
 exact⟨sl.keep (Keeps.set z' b7 (.cells .rw [v' 0,v' 1,v' 2])) sz fun b hb=>by omega,get_set_same rfl,by rw[H.next_set];omega⟩
theorem SmI.tr {h0 z:H}{b7:Nat}{v:Nat→V}{ss gg tt:List Int}(k:SmI h0 z b7 v ss gg tt)(l1:ss.length≤1000)(l2:gg.length≤1000)(l3:tt.length≤1000):TrAt z (v 0) (v 1) (v 2) ss gg tt:=
 ⟨(k.sl.o 0 (by decide)).sl (by show(ss.map encI).length≤_;rw[List.length_map];omega),(k.sl.o 1 (by decide)).sl (by show(gg.map encI).length≤_;rw[List.length_map];omega),(k.sl.o 2 (by decide)).sl (by show(tt.map encI).length≤_;rw[List.length_map];omega)⟩
theorem tr_nil (h:H):TrAt h .nils .nils .nils [] [] []:=by
 have:SlAt h .nils 1 (([]:List Int).map encI):=⟨by simp,by simp,.inl ⟨rfl,rfl⟩⟩
 exact⟨this,this,this⟩
def someT (a:At):List Int × List Int × List Int:=match allC a with
 |[]=>([],[],[])
 |t::_=>if errT a false=0 then(t.1.map Prod.fst,t.1.map Prod.snd,(List.range a.evs.toNat).map fun i=>mg t.2 4 i) else([],[],[])
set_option maxHeartbeats 4000000 in
theorem Some_ev {h:H}(hw:h.wf){a:At}{C R G:V}(x:AtAt h C R G a)(Q:V→H→Prop)(q:∀S Ga Tm h',h.Sub h'→TrAt h' S Ga Tm (someT a).1 (someT a).2.1 (someT a).2.2→Q (.tup [.agg [S,Ga,Tm],.int .i64 (errT a false)]) h'):
  Ev fnG fastA (.fn 48 [] []) [.agg (atV a C R G)] h Q:=by
 have oC:=x.c.one;have oR:=x.r.one;have oG:=x.g.one
 refine Ev_body (fd:=c48) rfl rfl rfl ?_
 obtain⟨z,hz⟩:∃z,(h.add (.cells .rw (atV a C R G))).add (.cells .rw [.nils,.nils,.nils])=z:=⟨_,rfl⟩
 have sz:h.Sub z:=by rw[←hz];exact(by repeat(first|assumption|exact H.Sub.refl (by assumption)|refine H.Sub.add ?_ _|refine H.Sub.set ?_ (by first|omega|(simp only[H.next_add,H.next_set,H.next_del]<;>omega)) (by first|omega|(simp only[H.next_add,H.next_set,H.next_del]<;>omega)) (by assumption) _))
 have nz:z.next=h.next+2:=by rw[←hz];simp only[H.next_add]
 have ga:z.get h.next=some (.cells .rw (atV a C R G)):=by rw[←hz];simp -implicitDefEqProofs(maxSteps:=999999)(disch:=first|with_reducible rfl|omega|(simp only[nA,nS,nD]<;>omega)|fail)only[go_sem]
 have gb:z.get (h.next+1)=some (.cells .rw [.nils,.nils,.nils]):=by rw[←hz];simp -implicitDefEqProofs(maxSteps:=999999)(disch:=first|with_reducible rfl|omega|(simp only[nA,nS,nD]<;>omega)|fail)only[go_sem]
 simp -implicitDefEqProofs(maxSteps:=999999)(disch:=first|with_reducible rfl|omega|(simp only[nA,nS,nD]<;>omega)|fail)only[c48,go_sem,oC,oR,oG]
 rw[hz]
 clear hz
 refine told_ev2 sz.wf (x.mono sz) false _ (fun z1 s1 he=>?_) fun z1 v y Ps s1 hx hl ho hne r _ he e f=>?_
 ·have l1:=s1.next
  have hs1:=sz.trans s1
  have eT:someT a=([],[],[]):=by
   unfold someT
   split
   ·rfl
   ·rw[if_neg he]
  simp -implicitDefEqProofs(maxSteps:=999999)(disch:=first|with_reducible rfl|omega|(simp only[nA,nS,nD]<;>omega)|fail)only[go_sem,(decide_eq_true he:decide (errT a false≠0)=true),s1.get gb]
  have s2:=hs1.set (b:=h.next+1) (by omega) (by omega) hw (.cells .rw [.nils,.nils,.nils])
  have:=q .nils .nils .nils _ s2 (by rw[eT];exact tr_nil _)
  exact this
 have l1:=s1.next
 have hs1:=sz.trans s1
 have d0:decide ((0:Int)≠0)=false:=rfl
 obtain⟨p,P',rfl⟩:=List.exists_cons_of_ne_nil hne
 have hpl:=hl p (List.mem_cons_self ..)
 have hpe:=f.e p (List.mem_cons_self ..)
 have hpc:allC a=(p.2.1,p.2.2)::P'.map Prod.snd:=by rw[←e];rfl
 have hmem:(p.2.1,p.2.2)∈casesL a (fun _=>true):=by show _∈allC a;rw[hpc];exact List.mem_cons_self ..
 have hlen:p.2.1.length=a.cks.length:=(cases_sound r hmem).2.1
 have hins:∀(i:Nat) s,p.2.1[i]? =some s→RunOf a i s:=(cases_sound r hmem).2.2.1
 have rl:=r.lens
 have re:=r.evs
 have hso:SlAt z1 p.1 2 (p.2.1.map encX):=hpe.sl (by rw[List.length_map];omega)
 have eT:someT a=(p.2.1.map Prod.fst,p.2.1.map Prod.snd,(List.range a.evs.toNat).map fun i=>mg p.2.2 4 i):=by
  unfold someT
  rw[hpc]
  simp only
  rw[if_pos he]
 rw[eT] at q
 obtain⟨bY,oY,cY,csY,eY,hcY,hqY,hgY,hnY,_⟩:=hx.at (k:=0) (by simp)
 simp only[List.getElem_cons_zero] at hgY hnY
 have hv0:nth oY csY=some p.1:=by have:=hnY 0 (by decide);simpa[rowF] using this
 have hlR:=hso.lenE
 have sA:=(H.Sub.refl hs1.wf).add (.cells .rw [.nils,.nils,.nils])
 have gA:(z1.add (.cells .rw [.nils,.nils,.nils])).get z1.next=some (.cells .rw [.nils,.nils,.nils]):=get_add_new rfl
 have nA':=H.next_add z1 (.cells .rw [.nils,.nils,.nils])
 have lbY:bY<z1.next:=(H.cells_eq hcY).elim fun kd e=>hs1.wf _ _ e
 simp -implicitDefEqProofs(maxSteps:=999999)(disch:=first|with_reducible rfl|omega|(simp only[nA,nS,nD]<;>omega)|fail)only[go_sem,d0,hqY nat_zero,hcY,hv0,hlR]
 obtain⟨zA,hzA⟩:∃zA,z1.add (.cells .rw [.nils,.nils,.nils])=zA:=⟨_,rfl⟩
 rw[hzA] at sA gA nA'
 try rw[hzA]
 have w1:=hs1.wf
 have k0:SmI z1 zA z1.next (fun _=>.nils) [] [] []:=by
  refine⟨⟨fun i hi=>?_,fun i hi b hb=>(blkOf_nils hb).elim,fun i j _ _ _ b hb=>(blkOf_nils hb).elim⟩,gA,by omega⟩
  have:rowsT [] [] [] i=[]:=by rcases(by omega:i=0∨i=1∨i=2∨i=3∨i=4∨i=5) with rfl|rfl|rfl|rfl|rfl|rfl<;>rfl
  rw[this];exact(OwnSl.nil sA _).c
 have lzh:h.next+2≤z1.next:=by omega
 refine W_count p.2.1.length (fun i s=>∃tm z' v,s=⟨tm,z',[]⟩∧SmI z1 z' z1.next v ((p.2.1.take i).map Prod.fst) ((p.2.1.take i).map Prod.snd) []∧
   (Opd.t 1).ev tm=.ptr h.next 0∧(Opd.t 2).ev tm=.ptr (h.next+1) 0∧(Opd.t 5).ev tm=y∧(Opd.t 7).ev tm=.ptr z1.next 0∧(Opd.t 24).ev tm=p.1∧(Opd.t 25).ev tm=.int .i64 (p.2.1.length:Int)∧(Opd.t 26).ev tm=.int .i64 (i:Int)) ?_ ?_ (i:=0) (Nat.zero_le _)
  ⟨_,_,_,rfl,k0,(by simp[ev_c,ev_put]<;>rfl),(by simp[ev_c,ev_put]<;>rfl),(by simp[ev_c,ev_put]<;>rfl),(by simp[ev_c,ev_put]<;>rfl),(by simp[ev_c,ev_put]<;>rfl),(by simp[ev_c,ev_put]<;>rfl),(by simp[ev_c,ev_put]<;>rfl)⟩
 ·clear k0
  rintro i s hi ⟨tm,z',vv,rfl,k,t1,t2,t5,t7,t24,t25,t26⟩
  have hi':(i:Int)<(p.2.1.length:Int):=by omega
  have ks:=k.sub
  obtain⟨b,o,cc,cs,eC,hc,hq,hg,_,_⟩:=(hso.mono ks).at hi
  have htk:p.2.1.take (i+1)=p.2.1.take i++[p.2.1[i]]:=take_at hi
  have e1:(p.2.1.take (i+1)).map Prod.fst=(p.2.1.take i).map Prod.fst++[p.2.1[i].1]:=by rw[htk,List.map_append];rfl
  have e2:(p.2.1.take (i+1)).map Prod.snd=(p.2.1.take i).map Prod.snd++[p.2.1[i].2]:=by rw[htk,List.map_append];rfl
  have la1:((p.2.1.take i).map Prod.fst).length≤3:=by rw[List.length_map,List.length_take];omega
  have la2:((p.2.1.take i).map Prod.snd).length≤3:=by rw[List.length_map,List.length_take];omega
  rw[e1,e2]
  generalize p.2.1[i]=sg at hg⊢
  generalize(p.2.1.take i).map Prod.fst=ss at k la1⊢
  generalize(p.2.1.take i).map Prod.snd=gg at k la2⊢
  simp only[encX] at hg
  have uB:=(H.Sub.refl ks.wf).add (.cells .rw [.int .i64 sg.1,.int .i64 sg.2])
  have kB:=k.mono uB
  have g9:(z'.add (.cells .rw [.int .i64 sg.1,.int .i64 sg.2])).get z'.next=some (.cells .rw [.int .i64 sg.1,.int .i64 sg.2]):=get_add_new rfl
  have nB:=H.next_add z' (.cells .rw [.int .i64 sg.1,.int .i64 sg.2])
  have lk:=k.nx
  simp -implicitDefEqProofs(maxSteps:=999999)(disch:=first|with_reducible rfl|omega|(simp only[nA,nS,nD]<;>omega)|fail)only[go_sem,t1,t2,t5,t7,t24,t25,t26,hi',hq (nat_cst i),hc,hg,cells_of k.g]
  obtain⟨zB,hzB⟩:∃zB,z'.add (.cells .rw [.int .i64 sg.1,.int .i64 sg.2])=zB:=⟨_,rfl⟩
  rw[hzB] at uB kB g9 nB
  try rw[hzB]
  have uh:=(H.Sub.refl kB.sub.wf).add (.cells .rw [.int .i64 sg.1])
  have kh:=kB.mono uh
  have o3:OwnC z1 (zB.add (.cells .rw [.int .i64 sg.1])) (vv 0) 1 (ss.map encI):=kh.sl.o 0 (by decide)
  have sn3:SlAt (zB.add (.cells .rw [.int .i64 sg.1])) (.sl (z'.next+1) 0 1 (.fix 1)) 1 [encI sg.1]:=SlAt.new _ (by rw[nB]) rfl rfl (by simp[encI]) (by simp)
  have gh1:=kh.g
  have g9h:=uh.get g9
  generalize zB.add (.cells .rw [.int .i64 sg.1])=zh at uh kh o3 sn3 gh1 g9h⊢
  refine o3.app1 (by_:=8) (r:=encI sg.1) w1 rfl (by decide) sn3 rfl (by rw[List.length_map];omega) (by rw[List.length_map];omega) fun w3 zi oi ni ki=>?_
  have ow3:=oi.one
  have lo0:=kh.sl.lo 0 (by decide)
  have gi:=ki.2 _ _ gh1 fun hb=>by have:=lo0 _ hb;omega
  have lB9:=kB.sub.wf _ _ g9
  have dB:¬blkOf (vv 0) z'.next:=fun hb=>by have:=((k.sl.o 0 (by decide)).blk hb).2.1;omega
  have g9i:=ki.2 _ _ g9h dB
  have sl3:=(kh.sl.app (i:=0) (by decide) oi ni kh.nx ki).rw rowsT0
  have uj:=(H.Sub.refl oi.1.wf).add (.cells .rw [.int .i64 sg.2])
  have sl3j:=sl3.mono uj
  have o4:OwnC z1 (zi.add (.cells .rw [.int .i64 sg.2])) (vv 1) 1 (gg.map encI):=sl3j.o 1 (by decide)
  have sn4:SlAt (zi.add (.cells .rw [.int .i64 sg.2])) (.sl zi.next 0 1 (.fix 1)) 1 [encI sg.2]:=SlAt.new _ rfl rfl rfl (by simp[encI]) (by simp)
  have gj:=uj.get gi
  have g9j:=uj.get g9i
  have li:=ki.1
  have lh:=kh.nx
  simp -implicitDefEqProofs(maxSteps:=999999)(disch:=first|with_reducible rfl|omega|(simp only[nA,nS,nD]<;>omega)|fail)only[go_sem,t1,t2,t5,t7,t24,t25,t26,cells_of gi,cells_of g9i,cells_of gh1,cells_of g9h,cells_of kB.g,cells_of g9]
  generalize zi.add (.cells .rw [.int .i64 sg.2])=zj at uj sl3j o4 sn4 gj g9j⊢
  refine o4.app1 (by_:=8) (r:=encI sg.2) w1 rfl (by decide) sn4 rfl (by rw[List.length_map];omega) (by rw[List.length_map];omega) fun w4 zk ok nk4 kk=>?_
  have ow4:=ok.one
  have ov2:=(kh.sl.o 2 (by decide)).one
  have gk:=kk.2 _ _ gj fun hb=>by have:=kh.sl.lo 1 (by decide) _ hb;omega
  have sl4:=(sl3j.app (i:=1) (by decide) ok nk4 (by have:=uj.next;omega) kk).rw rowsT1
  have kq:Keeps (fun b=>blkOf (vv 0) b∨blkOf (vv 1) b) zh zk:=((ki.trans (Keeps.of uj (fun _=>False))).trans kk).mono fun b hb=>hb.elim (fun hb=>hb.elim .inl False.elim) .inr
  have km:=kh.put w1 (Nat.le_refl _) kq sl4
  simp -implicitDefEqProofs(maxSteps:=999999)(disch:=first|with_reducible rfl|omega|(simp only[nA,nS,nD]<;>omega)|fail)only[go_sem,t1,t2,t5,t7,t24,t25,t26,ow3,cells_one ow3,ow4,cells_one ow4,gk,cells_of gi,cells_of g9i,cells_of gh1,cells_of g9h,cells_of gj,cells_of g9j,cells_of kB.g,cells_of g9,cells_of gk,wr_succ]
  exact⟨_,_,_,rfl,km,(by simp[ev_c,ev_put,t1]<;>rfl),(by simp[ev_c,ev_put,t2]<;>rfl),(by simp[ev_c,ev_put,t5]<;>rfl),(by simp[ev_c,ev_put,t7]<;>rfl),(by simp[ev_c,ev_put,t24]<;>rfl),(by simp[ev_c,ev_put,t25]<;>rfl),(by simp[ev_c,ev_put]<;>rfl)⟩
 clear k0
 rintro s ⟨tm,z',vv,rfl,k,t1,t2,t5,t7,t24,t25,t26⟩
 rw[List.take_length] at k
 have ga':=k.sub.get (s1.get ga)
 simp -implicitDefEqProofs(maxSteps:=999999)(disch:=first|with_reducible rfl|omega|(simp only[nA,nS,nD]<;>omega)|fail)only[go_sem,t1,t2,t5,t7,t24,t25,t26,Int.lt_irrefl,cells_of ga']
 obtain⟨ne,hne'⟩:∃ne:Nat,a.evs=ne:=⟨a.evs.toNat,by omega⟩
 rw[hne',Int.toNat_natCast] at q
 refine W_count ne (fun i s=>∃tm z' v,s=⟨tm,z',[]⟩∧SmI z1 z' z1.next v (p.2.1.map Prod.fst) (p.2.1.map Prod.snd) ((List.range i).map fun i=>mg p.2.2 4 i)∧
   (Opd.t 2).ev tm=.ptr (h.next+1) 0∧(Opd.t 5).ev tm=y∧(Opd.t 7).ev tm=.ptr z1.next 0∧(Opd.t 46).ev tm=.int .i64 (ne:Int)∧(Opd.t 47).ev tm=.int .i64 (i:Int)) ?_ ?_ (i:=0) (Nat.zero_le _)
  ⟨_,_,_,rfl,k,(by simp[ev_c,ev_put,t2]<;>rfl),(by simp[ev_c,ev_put,t5]<;>rfl),(by simp[ev_c,ev_put,t7]<;>rfl),by rw[←hne'];exact(by simp[ev_c,ev_put]<;>rfl),(by simp[ev_c,ev_put]<;>rfl)⟩
 ·clear k t1 t2 t5 t7 t24 t25 t26 ga'
  rintro i s hi ⟨tm,z',vv,rfl,k,t2,t5,t7,t46,t47⟩
  have hi':(i:Int)<(ne:Int):=by omega
  have ks:=k.sub
  have hm:nth (oY+1+4*5+i*1) csY=some (.int .i64 (mg p.2.2 4 i)):=by
   have:=hnY (1+4*5+i*1) (by omega)
   rw[←nth_eq,row_at hpl.len (by omega) (by omega)] at this
   rw[←this];congr 1;omega
  have lr:((List.range i).map fun i=>mg p.2.2 4 i).length≤4:=by rw[List.length_map,List.length_range];omega
  have e1:((List.range (i+1)).map fun i=>mg p.2.2 4 i)=((List.range i).map fun i=>mg p.2.2 4 i)++[mg p.2.2 4 i]:=by rw[List.range_succ,List.map_append];rfl
  rw[e1]
  generalize((List.range i).map fun i=>mg p.2.2 4 i)=tt at k lr⊢
  generalize mg p.2.2 4 i=m at hm⊢
  have uh:=(H.Sub.refl ks.wf).add (.cells .rw [.int .i64 m])
  have kh:=k.mono uh
  have o3:OwnC z1 (z'.add (.cells .rw [.int .i64 m])) (vv 2) 1 (tt.map encI):=kh.sl.o 2 (by decide)
  have sn3:SlAt (z'.add (.cells .rw [.int .i64 m])) (.sl z'.next 0 1 (.fix 1)) 1 [encI m]:=SlAt.new _ rfl rfl rfl (by simp[encI]) (by simp)
  have gh1:=kh.g
  have lk:=k.nx
  have hY':=ks.cells hcY
  have i4:q_iaa 5 5 (.ptr bY (oY+1)) (.int .i64 4)=some (.ptr bY (oY+1+4*5)):=q_iaa_ptr (nat_num 4) (by omega)
  simp -implicitDefEqProofs(maxSteps:=999999)(disch:=first|with_reducible rfl|omega|(simp only[nA,nS,nD]<;>omega)|fail)only[go_sem,t2,t5,t7,t46,t47,hi',cells_of k.g,hqY nat_zero,i4,q_iaa_ptr (nat_cst i),hY',hm]
  generalize z'.add (.cells .rw [.int .i64 m])=zh at uh kh o3 sn3 gh1⊢
  refine o3.app1 (by_:=8) (r:=encI m) w1 rfl (by decide) sn3 rfl (by rw[List.length_map];omega) (by rw[List.length_map];omega) fun w3 zi oi ni ki=>?_
  have ow3:=oi.one
  have ov0:=(kh.sl.o 0 (by decide)).one
  have ov1:=(kh.sl.o 1 (by decide)).one
  have gi:=ki.2 _ _ gh1 fun hb=>by have:=kh.sl.lo 2 (by decide) _ hb;omega
  have km:=kh.put w1 (Nat.le_refl _) ki ((kh.sl.app (i:=2) (by decide) oi ni kh.nx ki).rw rowsT2)
  have hYh:=uh.cells hY'
  simp -implicitDefEqProofs(maxSteps:=999999)(disch:=first|with_reducible rfl|omega|(simp only[nA,nS,nD]<;>omega)|fail)only[go_sem,t2,t5,t7,t46,t47,ow3,cells_one ow3,gi,cells_of gh1,hYh,cells_of k.g,hY',hm,wr_succ]
  exact⟨_,_,_,rfl,km,(by simp[ev_c,ev_put,t2]<;>rfl),(by simp[ev_c,ev_put,t5]<;>rfl),(by simp[ev_c,ev_put,t7]<;>rfl),(by simp[ev_c,ev_put,t46]<;>rfl),(by simp[ev_c,ev_put]<;>rfl)⟩
 clear k t1 t2 t5 t7 t24 t25 t26 ga'
 rintro s ⟨tm,z',vv,rfl,k,t2,t5,t7,t46,t47⟩
 have ov0:=(k.sl.o 0 (by decide)).one
 have ov1:=(k.sl.o 1 (by decide)).one
 have ov2:=(k.sl.o 2 (by decide)).one
 have lk:=k.nx
 have gb':=k.sub.get (s1.get gb)
 have k2:=Keeps.set z' (h.next+1) (.cells .rw [vv 0,vv 1,vv 2])
 have s2:=(hs1.trans k.sub).set (b:=h.next+1) (by omega) (by omega) hw (.cells .rw [vv 0,vv 1,vv 2])
 have tr:=k.tr (by rw[List.length_map];omega) (by rw[List.length_map];omega) (by rw[List.length_map,List.length_range];omega)
 have off:∀i,i<3→∀b,blkOf (vv i) b→b≠h.next+1:=fun i hi b hb=>by have:=k.sl.lo i (by omega) b hb;omega
 have tr2:TrAt (z'.set (h.next+1) (.cells .rw [vv 0,vv 1,vv 2])) (vv 0) (vv 1) (vv 2) (p.2.1.map Prod.fst) (p.2.1.map Prod.snd) ((List.range ne).map fun i=>mg p.2.2 4 i):=
  ⟨SlAt_keep tr.s k2 (off 0 (by decide)),SlAt_keep tr.g k2 (off 1 (by decide)),SlAt_keep tr.t k2 (off 2 (by decide))⟩
 have q':=q _ _ _ _ s2 tr2
 rw[he] at q'
 simp -implicitDefEqProofs(maxSteps:=999999)(disch:=first|with_reducible rfl|omega|(simp only[nA,nS,nD]<;>omega)|fail)only[go_sem,t2,t5,t7,t46,t47,Int.lt_irrefl,cells_of k.g,gb',ov0,ov1,ov2]
 exact q'
end Go.Ab.Tryz
namespace Go.Ab
theorem put_iv {L:List Int}{i:Nat}(h:i<L.length)(v:Int):putN i [.int .i64 v] (L.map iv)=some ((L.set i v).map iv):=by
 have e:L=L.take i++L[i]::L.drop (i+1):=by rw[←List.drop_eq_getElem_cons h,List.take_append_drop]
 have:=putN_app (pre:=(L.take i).map iv) (new:=[iv v]) (old:=[iv L[i]]) (rest:=(L.drop (i+1)).map iv) rfl
 rw[List.length_map,List.length_take,Nat.min_eq_left (by omega)] at this
 have e2:L.map iv=(L.take i).map iv++[iv L[i]]++(L.drop (i+1)).map iv:=by
  rw[show[iv L[i]]=[L[i]].map iv from rfl,←List.map_append,←List.map_append,List.append_assoc]
  exact congrArg (List.map iv) e
 have e3:(L.set i v).map iv=(L.take i).map iv++[iv v]++(L.drop (i+1)).map iv:=by
  rw[List.set_eq_take_append_cons_drop,if_pos h];simp
 rw[e2,e3];exact this
namespace Tryz
open Go.Proofs
theorem Once_ev {h0 h:H}{p:Nat}{x:V}{bs:List Int}{T:Int}(hs:h0.Sub h)(hw0:h0.wf)(hx:SlAt h0 x 1 (bs.map encU8))(hp0:h0.next≤p)(hp:SpAt h p x T)(hT:0≤T∧T≤1000000000){n:Int}(hn: -1000000≤n∧n≤1000000)(Q:V→H→Prop)
  (q:∀b h',h0.Sub h'→SpAt h' p x (T+1)→Keeps (fun b=>b=p) h h'→h'.next=h.next→Q (.bool b) h'):Ev fnG fastA (.fn 138 [] []) [.ptr p 0,.int .i64 n] h Q:=by
 refine Ev_body (fd:=c138) rfl rfl rfl ?_
 simp -implicitDefEqProofs(maxSteps:=999999)(disch:=first|with_reducible rfl|omega|(simp only[nA,nS,nD]<;>omega)|fail)only[c138,go_sem,wr_in]
 refine Upto_ev hs hw0 hx hp0 hp hT (by omega) _ fun r h' r0 r1 s' p' k' n'=>?_
 simp -implicitDefEqProofs(maxSteps:=999999)(disch:=first|with_reducible rfl|omega|(simp only[nA,nS,nD]<;>omega)|fail)only[go_sem]
 exact q _ _ s' p' k' n'
structure TrI (h0 h z:H)(p:Nat)(x:V)(T:Int)(B:Nat)(n:Nat→Nat)(L:Nat→List Int):Prop where
 s:h0.Sub z
 sp:SpAt z p x T
 k:Keeps (fun b=>b=p) h z
 b:∀k,k<3→z.get (B+k)=some (.cells .rw ((L k).map iv))
 l:∀k,k<3→(L k).length=n k
 o:z.get (B+3)=some (.cells .rw [.sl B 0 (n 0) (.fix (n 0)),.sl (B+1) 0 (n 1) (.fix (n 1)),.sl (B+2) 0 (n 2) (.fix (n 2))])
 o4:z.get (B+4)=some (.cells .rw [.sl B 0 (n 0) (.fix (n 0)),.sl (B+1) 0 (n 1) (.fix (n 1)),.sl (B+2) 0 (n 2) (.fix (n 2))])
 r:z.get (h.next+1)=some (.cells .rw [.nils,.nils,.nils])
 nx:B+5≤z.next
theorem TrI.turn {h0 h z z':H}{p:Nat}{x:V}{T T':Int}{B:Nat}{n:Nat→Nat}{L:Nat→List Int}(k:TrI h0 h z p x T B n L)(hp:p<h.next)(hB:h.next+2≤B)(s:h0.Sub z')(sp:SpAt z' p x T')(kk:Keeps (fun b=>b=p) z z'):TrI h0 h z' p x T' B n L:=
 ⟨s,sp,(k.k.trans kk).mono fun c hc=>hc.elim id id,fun i hi=>kk.2 _ _ (k.b i hi) (by omega),k.l,kk.2 _ _ k.o (by omega),kk.2 _ _ k.o4 (by omega),kk.2 _ _ k.r (by omega),Nat.le_trans k.nx kk.1⟩
theorem TrI.put {h0 h z:H}{p:Nat}{x:V}{T:Int}{B:Nat}{n:Nat→Nat}{L:Nat→List Int}(k:TrI h0 h z p x T B n L)(hw0:h0.wf)(hw:h.wf)(h0h:h0.next≤h.next)(hp:p<h.next)(hB:h.next+2≤B){j:Nat}(hj:j<3){L':List Int}(hl:L'.length=n j):
  TrI h0 h (z.set (B+j) (.cells .rw (L'.map iv))) p x T B n (updF L j L'):=by
 have lk:=k.nx
 refine⟨k.s.set (by omega) (by omega) hw0 _,k.sp.keep (Keeps.set _ _ _) (by omega),Keeps.new hw ((k.k.trans (Keeps.set z (B+j) (.cells .rw (L'.map iv)))).mono fun c hc=>hc.elim .inl fun e=>.inr (by omega)),fun i hi=>?_,fun i hi=>?_,?_,?_,?_,by rw[H.next_set];exact lk⟩
 ·by_cases e:i=j
  ·subst e;rw[updF_same,get_set_same rfl]
  ·rw[updF_other _ _ e,get_set_other (by omega)];exact k.b i hi
 ·by_cases e:i=j
  ·subst e;rw[updF_same];exact hl
  ·rw[updF_other _ _ e];exact k.l i hi
 ·rw[get_set_other (by omega)];exact k.o
 ·rw[get_set_other (by omega)];exact k.o4
 ·rw[get_set_other (by omega)];exact k.r
theorem flat_iv (L:List Int):(L.map encI).flatten=L.map iv:=by
 induction L with
 |nil=>rfl
 |cons a L ih=>rw[List.map_cons,List.flatten_cons,ih];rfl
theorem SlAt.ints {h:H}{b:Nat}{L:List Int}{n:Nat}(hn:L.length=n)(hg:h.get b=some (.cells .rw (L.map iv)))(hl:n≤1000000):SlAt h (.sl b 0 n (.fix n)) 1 (L.map encI):=
 SlAt.full (by rw[List.length_map];exact hn.symm) (by rw[flat_iv];exact hg) (fun r hr=>by obtain⟨c,_,rfl⟩:=List.mem_map.1 hr;rfl) (by rw[List.length_map];omega)
set_option maxHeartbeats 4000000 in
theorem tried_ev {h0 h:H}{p:Nat}{x:V}{bs:List Int}{T:Int}(hs:h0.Sub h)(hw0:h0.wf)(hx:SlAt h0 x 1 (bs.map encU8))(hp0:h0.next≤p)(hp:SpAt h p x T)(hT:0≤T∧T≤10000000){S Ga Tm:V}{ss gg tt:List Int}(t:TrAt h S Ga Tm ss gg tt)(l1:ss.length≤10)(l2:gg.length≤10)(l3:tt.length≤10)(Q:V→H→Prop)
  (q:∀S' G' T' ss' gg' tt' T2 z,h0.Sub z→SpAt z p x T2→T≤T2∧T2≤T+100→Keeps (fun b=>b=p) h z→TrAt z S' G' T' ss' gg' tt'→ss'.length=ss.length→gg'.length=gg.length→tt'.length=tt.length→Q (.agg [S',G',T']) z):
  Ev fnG fastA (.fn 52 [] []) [.ptr p 0,.agg [S,Ga,Tm]] h Q:=by
 have hw:=hs.wf
 have l0:=hs.next
 have hlp:p<h.next:=by obtain⟨st,g⟩:=hp;exact hw _ _ g
 have oS:=t.s.one;have oGa:=t.g.one;have oTm:=t.t.one
 obtain⟨z2,hz2⟩:∃z2,(h.add (.cells .rw [S,Ga,Tm])).add (.cells .rw [.nils,.nils,.nils])=z2:=⟨_,rfl⟩
 have s2:h.Sub z2:=by rw[←hz2];exact(by repeat(first|assumption|exact H.Sub.refl (by assumption)|refine H.Sub.add ?_ _|refine H.Sub.set ?_ (by first|omega|(simp only[H.next_add,H.next_set,H.next_del]<;>omega)) (by first|omega|(simp only[H.next_add,H.next_set,H.next_del]<;>omega)) (by assumption) _))
 have n2:z2.next=h.next+2:=by rw[←hz2];simp only[H.next_add]
 have g1:z2.get h.next=some (.cells .rw [S,Ga,Tm]):=by rw[←hz2];simp -implicitDefEqProofs(maxSteps:=999999)(disch:=first|with_reducible rfl|omega|(simp only[nA,nS,nD]<;>omega)|fail)only[go_sem]
 have g2:z2.get (h.next+1)=some (.cells .rw [.nils,.nils,.nils]):=by rw[←hz2];simp -implicitDefEqProofs(maxSteps:=999999)(disch:=first|with_reducible rfl|omega|(simp only[nA,nS,nD]<;>omega)|fail)only[go_sem]
 have s3:=(H.Sub.refl s2.wf).add (.cells .rw (ss.map encI).flatten)
 have s4:=s3.add (.cells .rw (gg.map encI).flatten)
 have s5:=s4.add (.cells .rw (tt.map encI).flatten)
 refine Ev_body (fd:=c52) rfl rfl rfl ?_
 simp -implicitDefEqProofs(maxSteps:=999999)(disch:=first|with_reducible rfl|omega|(simp only[nA,nS,nD]<;>omega)|fail)only[c52,go_sem,oS,oGa,oTm]
 rw[hz2]
 have w2:=s2.wf
 have w3:=s3.wf
 have w4:=s4.wf
 simp -implicitDefEqProofs(maxSteps:=999999)(disch:=first|with_reducible rfl|omega|(simp only[nA,nS,nD]<;>omega)|fail)only[go_sem,dupInt_ev w2 (t.s.mono s2) (by omega),dupInt_ev w3 (t.g.mono (s2.trans s3)) (by omega),dupInt_ev w4 (t.t.mono (s2.trans s4)) (by omega),cells_of g1]
 obtain⟨B,hB⟩:∃B,z2.next=B:=⟨_,rfl⟩
 obtain⟨n,hn⟩:∃n:Nat→Nat,n 0=ss.length∧n 1=gg.length∧n 2=tt.length:=⟨fun k=>if k=0 then ss.length else if k=1 then gg.length else tt.length,rfl,rfl,rfl⟩
 obtain⟨hn0,hn1,hn2⟩:=hn
 have hnb:∀k,k<3→n k≤10:=fun k hk=>by rcases(by omega:k=0∨k=1∨k=2) with rfl|rfl|rfl<;>omega
 rw[hB,←hn0,←hn1,←hn2,show B+1+1+1+1=B+4 from rfl,show B+1+1+1=B+3 from rfl,show B+1+1=B+2 from rfl]
 have hB2:B=h.next+2:=by omega
 obtain⟨z5,hz5⟩:∃z5,((((z2.add (.cells .rw (ss.map encI).flatten)).add (.cells .rw (gg.map encI).flatten)).add (.cells .rw (tt.map encI).flatten)).add (.cells .rw [.sl B 0 (n 0) (.fix (n 0)),.sl (B+1) 0 (n 1) (.fix (n 1)),.sl (B+2) 0 (n 2) (.fix (n 2))])).add (.cells .rw [.sl B 0 (n 0) (.fix (n 0)),.sl (B+1) 0 (n 1) (.fix (n 1)),.sl (B+2) 0 (n 2) (.fix (n 2))])=z5:=⟨_,rfl⟩
 have s25:z2.Sub z5:=by rw[←hz5];exact(s5.add _).add _
 have ti:TrI h0 h z5 p x T B n (fun k=>if k=0 then ss else if k=1 then gg else tt):=by
  have s05:=s2.trans s25
  refine⟨hs.trans s05,hp.mono s05,(Keeps.of s05 _),fun k hk=>?_,fun k hk=>?_,?_,?_,s25.get g2,?_⟩
  ·rw[←hz5]
   rcases(by omega:k=0∨k=1∨k=2) with rfl|rfl|rfl
   ·simp -implicitDefEqProofs(maxSteps:=999999)(disch:=first|with_reducible rfl|omega|(simp only[nA,nS,nD]<;>omega)|fail)only[go_sem,flat_iv,hB]
   ·simp -implicitDefEqProofs(maxSteps:=999999)(disch:=first|with_reducible rfl|omega|(simp only[nA,nS,nD]<;>omega)|fail)only[go_sem,flat_iv,hB]
   ·simp -implicitDefEqProofs(maxSteps:=999999)(disch:=first|with_reducible rfl|omega|(simp only[nA,nS,nD]<;>omega)|fail)only[go_sem,flat_iv,hB]
  ·rcases(by omega:k=0∨k=1∨k=2) with rfl|rfl|rfl<;>simp[hn0,hn1,hn2]
  ·rw[←hz5];simp -implicitDefEqProofs(maxSteps:=999999)(disch:=first|with_reducible rfl|omega|(simp only[nA,nS,nD]<;>omega)|fail)only[go_sem,hB]
  ·rw[←hz5];simp -implicitDefEqProofs(maxSteps:=999999)(disch:=first|with_reducible rfl|omega|(simp only[nA,nS,nD]<;>omega)|fail)only[go_sem,hB]
  ·rw[←hz5];simp only[H.next_add];omega
 rw[hz5]
 clear hz5
 have hpB:p<B:=by omega
 refine W_count 3 (fun i s=>∃tm z T' L,s=⟨tm,z,[]⟩∧TrI h0 h z p x T' B n L∧(T≤T'∧T'≤T+20*(i:Int))∧(Opd.t 0).ev tm=.ptr p 0∧(Opd.t 4).ev tm=.ptr (h.next+1) 0∧(Opd.t 5).ev tm=.ptr (B+3) 0∧(Opd.t 25).ev tm=.sl (B+4) 0 3 (.fix 3)∧(Opd.t 26).ev tm=.int .i64 ((3:Nat):Int)∧(Opd.t 27).ev tm=.int .i64 (i:Int)) ?_ ?_ (i:=0) (Nat.zero_le _)
  ⟨_,_,_,_,rfl,ti,by omega,(by simp[ev_c,ev_put]<;>rfl),(by simp[ev_c,ev_put]<;>rfl),(by simp[ev_c,ev_put]<;>rfl),(by simp[ev_c,ev_put]<;>rfl),(by simp[ev_c,ev_put]<;>rfl),(by simp[ev_c,ev_put]<;>rfl)⟩
 ·clear ti
  rintro i s hi ⟨tm,z,T',L,rfl,k,hT',t0,t4,t5,t25,t26,t27⟩
  have hi':(i:Int)<((3:Nat):Int):=by omega
  have hv:nth i [.sl B 0 (n 0) (.fix (n 0)),.sl (B+1) 0 (n 1) (.fix (n 1)),.sl (B+2) 0 (n 2) (.fix (n 2))]=some (.sl (B+i) 0 (n i) (.fix (n i))):=by
   rcases(by omega:i=0∨i=1∨i=2) with rfl|rfl|rfl<;>rfl
  have hni:=hnb i hi
  simp -implicitDefEqProofs(maxSteps:=999999)(disch:=first|with_reducible rfl|omega|(simp only[nA,nS,nD]<;>omega)|fail)only[go_sem,t0,t4,t5,t25,t26,t27,hi',q_iad_sl (nat_cst i) hi,Nat.mul_one,cells_of k.o4,hv]
  refine W_count (n i) (fun j s=>∃tm z T' L,s=⟨tm,z,[]⟩∧TrI h0 h z p x T' B n L∧(T≤T'∧T'≤T+20*(i:Int)+2*(j:Int))∧(Opd.t 0).ev tm=.ptr p 0∧(Opd.t 4).ev tm=.ptr (h.next+1) 0∧(Opd.t 5).ev tm=.ptr (B+3) 0∧(Opd.t 25).ev tm=.sl (B+4) 0 3 (.fix 3)∧(Opd.t 26).ev tm=.int .i64 ((3:Nat):Int)∧(Opd.t 27).ev tm=.int .i64 (i:Int)∧
    (Opd.t 7).ev tm=.sl (B+i) 0 (n i) (.fix (n i))∧(Opd.t 32).ev tm=.int .i64 (n i:Int)∧(Opd.t 33).ev tm=.int .i64 (j:Int)) ?_ ?_ (i:=0) (Nat.zero_le _)
   ⟨_,_,_,_,rfl,k,by omega,(by simp[ev_c,ev_put,t0]<;>rfl),(by simp[ev_c,ev_put,t4]<;>rfl),(by simp[ev_c,ev_put,t5]<;>rfl),(by simp[ev_c,ev_put,t25]<;>rfl),(by simp[ev_c,ev_put,t26]<;>rfl),(by simp[ev_c,ev_put,t27]<;>rfl),(by simp[ev_c,ev_put]<;>rfl),(by simp[ev_c,ev_put]<;>rfl),(by simp[ev_c,ev_put]<;>rfl)⟩
  ·clear k t0 t4 t5 t25 t26 t27 hT'
   rintro j s hj ⟨tm,z,T',L,rfl,k,hT',t0,t4,t5,t25,t26,t27,t7,t32,t33⟩
   have hj':(j:Int)<(n i:Int):=by omega
   simp -implicitDefEqProofs(maxSteps:=999999)(disch:=first|with_reducible rfl|omega|(simp only[nA,nS,nD]<;>omega)|fail)only[go_sem,t0,t4,t5,t25,t26,t27,t7,t32,t33,hj']
   refine Once_ev k.s hw0 hx hp0 k.sp (by omega) (by omega) _ fun b z1 s1 p1 k1 n1=>?_
   have kk1:=k.turn hlp (by omega) s1 p1 k1
   cases b with
   |false=>
    simp -implicitDefEqProofs(maxSteps:=999999)(disch:=first|with_reducible rfl|omega|(simp only[nA,nS,nD]<;>omega)|fail)only[go_sem,t0,t4,t5,t25,t26,t27,t7,t32,t33,wr_succ]
    exact⟨_,_,_,_,rfl,kk1,by omega,(by simp[ev_c,ev_put,t0]<;>rfl),(by simp[ev_c,ev_put,t4]<;>rfl),(by simp[ev_c,ev_put,t5]<;>rfl),(by simp[ev_c,ev_put,t25]<;>rfl),(by simp[ev_c,ev_put,t26]<;>rfl),(by simp[ev_c,ev_put,t27]<;>rfl),(by simp[ev_c,ev_put,t7]<;>rfl),(by simp[ev_c,ev_put,t32]<;>rfl),(by simp[ev_c,ev_put]<;>rfl)⟩
   |true=>
    have lL:=kk1.l i hi
    have hjl:j<(L i).length:=by omega
    have gb1:=kk1.b i hi
    simp -implicitDefEqProofs(maxSteps:=999999)(disch:=first|with_reducible rfl|omega|(simp only[nA,nS,nD]<;>omega)|fail)only[go_sem,t0,t4,t5,t25,t26,t27,t7,t32,t33,q_iad_sl (nat_cst j) hj,Nat.mul_one,cells_of gb1,nth_iv hjl]
    refine From_ev s1 hw0 hx hp0 p1 (by omega) (by omega) (by omega) _ fun r z3 r0 r1 s3' p3 k3 n3=>?_
    have kk3:=kk1.turn hlp (by omega) s3' p3 k3
    have gb3:=kk3.b i hi
    have hput:=put_iv hjl (wr .i64 ((L i).getD j 0+r))
    have kp:=kk3.put hw0 hw l0 hlp (by omega) hi (L':=(L i).set j (wr .i64 ((L i).getD j 0+r))) (by rw[List.length_set];exact lL)
    simp -implicitDefEqProofs(maxSteps:=999999)(disch:=first|with_reducible rfl|omega|(simp only[nA,nS,nD]<;>omega)|fail)only[go_sem,t0,t4,t5,t25,t26,t27,t7,t32,t33,q_iad_sl (nat_cst j) hj,Nat.mul_one,cells_of gb1,cells_of gb3,gb3,nth_iv hjl,hput,wr_succ]
    exact⟨_,_,_,_,rfl,kp,by omega,(by simp[ev_c,ev_put,t0]<;>rfl),(by simp[ev_c,ev_put,t4]<;>rfl),(by simp[ev_c,ev_put,t5]<;>rfl),(by simp[ev_c,ev_put,t25]<;>rfl),(by simp[ev_c,ev_put,t26]<;>rfl),(by simp[ev_c,ev_put,t27]<;>rfl),(by simp[ev_c,ev_put,t7]<;>rfl),(by simp[ev_c,ev_put,t32]<;>rfl),(by simp[ev_c,ev_put]<;>rfl)⟩
  ·clear k t0 t4 t5 t25 t26 t27 hT'
   rintro s ⟨tm,z,T',L,rfl,k,hT',t0,t4,t5,t25,t26,t27,t7,t32,t33⟩
   simp -implicitDefEqProofs(maxSteps:=999999)(disch:=first|with_reducible rfl|omega|(simp only[nA,nS,nD]<;>omega)|fail)only[go_sem,t0,t4,t5,t25,t26,t27,t7,t32,t33,Int.lt_irrefl,wr_succ]
   exact⟨_,_,_,_,rfl,k,by omega,(by simp[ev_c,ev_put,t0]<;>rfl),(by simp[ev_c,ev_put,t4]<;>rfl),(by simp[ev_c,ev_put,t5]<;>rfl),(by simp[ev_c,ev_put,t25]<;>rfl),(by simp[ev_c,ev_put,t26]<;>rfl),(by simp[ev_c,ev_put]<;>rfl)⟩
 clear ti
 rintro s ⟨tm,z,T',L,rfl,k,hT',t0,t4,t5,t25,t26,t27⟩
 simp -implicitDefEqProofs(maxSteps:=999999)(disch:=first|with_reducible rfl|omega|(simp only[nA,nS,nD]<;>omega)|fail)only[go_sem,t0,t4,t5,t25,t26,t27,Int.lt_irrefl,cells_of k.o,k.r]
 have lk:=k.nx
 have k2:=Keeps.set z (h.next+1) (.cells .rw [.sl B 0 (n 0) (.fix (n 0)),.sl (B+1) 0 (n 1) (.fix (n 1)),.sl (B+2) 0 (n 2) (.fix (n 2))])
 have b0:=k2.2 _ _ (k.b 0 (by omega)) (by omega)
 have b1:=k2.2 _ _ (k.b 1 (by omega)) (by omega)
 have b2:=k2.2 _ _ (k.b 2 (by omega)) (by omega)
 have e0:=k.l 0 (by omega)
 have e1:=k.l 1 (by omega)
 have e2:=k.l 2 (by omega)
 refine q _ _ _ (L 0) (L 1) (L 2) T' _ (k.s.set (by omega) (by omega) hw0 _) (k.sp.keep k2 (by omega)) (by omega) (Keeps.new hw ((k.k.trans k2).mono fun c hc=>hc.elim .inl fun e=>.inr (by omega))) ⟨SlAt.ints e0 b0 (by omega),SlAt.ints e1 b1 (by omega),SlAt.ints e2 b2 (by omega)⟩ (by omega) (by omega) (by omega)
end Tryz
end Go.Ab
namespace Go.Ab
theorem rows_put {α:Type}{enc:α→List V}{sz:Nat}(hsz:∀a,(enc a).length=sz)(l:List α){k:Nat}(hk:k<l.length)(a:α):putN (k*sz) (enc a) (l.map enc).flatten=some ((l.set k a).map enc).flatten:=by
 have e:l=l.take k++l[k]::l.drop (k+1):=by rw[List.getElem_cons_drop,List.take_append_drop]
 have e2:l.set k a=l.take k++a::l.drop (k+1):=by rw[List.set_eq_take_append_cons_drop,if_pos hk]
 have hl:((l.take k).map enc).flatten.length=k*sz:=by
  have h1:=flatten_len (sz:=sz) (rows:=(l.take k).map enc) fun r hr=>by obtain⟨x,_,rfl⟩:=List.mem_map.1 hr;exact hsz x
  rw[h1,List.length_map,List.length_take,Nat.min_eq_left (by omega)]
 have f1:=congrArg (fun t=>(t.map enc).flatten) e
 have f2:=congrArg (fun t=>(t.map enc).flatten) e2
 simp only[List.map_append,List.map_cons,List.flatten_append,List.flatten_cons,←List.append_assoc] at f1 f2
 rw[f1,f2,←hl]
 exact putN_app (by rw[hsz,hsz])
theorem a_msl_nn {h:H}{by_ n:Nat}{z:List V}(h1:n*by_≤1099511627776)(h2:n≤1099511627776):
  a_msl h by_ z (.int .i64 (n:Int)) (.int .i64 (n:Int))=some (.sl h.next 0 n (.fix n),h.add (.cells .rw (repN n z))):=a_msl_nm (Nat.le_refl _) h1 h2
namespace Tryz
open Go.Proofs
def encS (s:Int × Int):List V:=[.int .i64 s.1,.int .i64 s.2]
theorem repN_S:∀n,repN n [.int .i64 0,.int .i64 0]=((List.replicate n ((0:Int),(0:Int))).map encS).flatten
 |0=>rfl
 |n+1=>by rw[repN,appN_eq,repN_S n,List.replicate_succ,List.map_cons,List.flatten_cons];rfl
theorem someT_spec {a:At}(r:Right a)(hne:allC a≠[]):∃runs y,TruA a runs y∧someT a=(runs.map Prod.fst,runs.map Prod.snd,(List.range a.evs.toNat).map y):=by
 obtain⟨t,l,h⟩:=List.exists_cons_of_ne_nil hne
 have ht:t∈casesL a (fun _=>true):=by show t∈allC a;rw[h];exact List.mem_cons_self ..
 refine⟨t.1,latY t.2 4,lat_tru r ht (by omega),?_⟩
 unfold someT
 rw[h]
 simp only
 rw[if_pos (errT_ok r hne)]
 have:(List.range a.evs.toNat).map (fun i=>mg t.2 4 i)=(List.range a.evs.toNat).map (latY t.2 4):=List.map_congr_left fun i _=>(lat_4 r ht i).symm
 rw[this]
theorem someT_fit {a:At}(r:Right a)(hne:allC a≠[]):fitB a (someT a).1 (someT a).2.1 (someT a).2.2=true:=by
 obtain⟨runs,y,t,e⟩:=someT_spec r hne
 rw[e];exact t.fit r
theorem errT_none {a:At}(r:Right a)(h:allC a=[]):errT a false=7:=by
 unfold errT
 rw[if_neg (by rw[checkA_iff.2 r];simp),if_neg (by simp),if_pos h]
theorem fit_tru {a:At}(r:Right a){ss gg tt:List Int}(h:fitB a ss gg tt=true):TruA a (ss.zip gg) (timeF tt):=((fitB_iff r).1 h).2
def seenA (a:At)(i:Nat)(m:Int):At:=(a.addC zeroC).addR ⟨(a.cks.length:Int),i,m⟩
theorem seen_right {a:At}(r:Right a)(h1:a.cks.length<3)(h2:a.rds.length<8){i:Nat}(hi:(i:Int)<a.evs){m:Int}(hm: -999≤m∧m≤999):Right (seenA a i m):=by
 refine right_addR (right_addC r h1) h2 ((inB_iff ..).2 hm) ?_
 simp only[At.rdOk,At.ckB,At.evB,At.addC,Bool.and_eq_true,inB_iff,List.length_append,List.length_singleton]
 omega
theorem seen_iff {a:At}(r:Right a){i:Nat}{m:Int}(hr:Right (seenA a i m)):allC (seenA a i m)≠[]↔∃runs y,TruA a runs y∧y i=m:=by
 rw[Ne,noC hr]
 constructor
 ·intro h
  refine Classical.byContradiction fun hn=>h fun runs y t=>hn ?_
  obtain⟨runs',_,t',e⟩:=(tru_seen r).1 t
  exact⟨runs',y,t',e⟩
 ·rintro⟨runs,y,t,e⟩ h
  exact h _ y ((tru_seen r).2 ⟨runs,rfl,t,e⟩)
theorem seen_end {a:At}(r:Right a)(hne:allC a≠[]){i:Nat}(hi:i<4){m:Int}(hr:Right (seenA a i m))(h:m=(betw 4 i (allM a)).1∨m=(betw 4 i (allM a)).2):allC (seenA a i m)≠[]:=by
 rw[seen_iff r hr]
 rcases h with rfl|rfl
 ·obtain⟨runs,y,t,e⟩:=betw_lo r hne (f:=4) (t:=i) (by omega) (by omega)
  exact⟨runs,y,t,by rw[←e,t.beg];omega⟩
 ·obtain⟨runs,y,t,e⟩:=betw_hi r hne (f:=4) (t:=i) (by omega) (by omega)
  exact⟨runs,y,t,by rw[←e,t.beg];omega⟩
theorem seen_out {a:At}(r:Right a){i:Nat}(hi:i<4){m:Int}(hr:Right (seenA a i m))(h:m<(betw 4 i (allM a)).1∨(betw 4 i (allM a)).2<m):allC (seenA a i m)=[]:=by
 refine Classical.byContradiction fun hn=>?_
 obtain⟨runs,y,t,e⟩:=(seen_iff r hr).1 hn
 have h1:=(betw_tru r t (f:=4) (t:=i) (by omega) (by omega)).2
 have h2:(betw 4 i (allM a)).1≤y i-y 4∧y i-y 4≤(betw 4 i (allM a)).2:=h1
 rw[t.beg] at h2;omega
theorem seen_time {a:At}(r:Right a){i:Nat}{m:Int}(hr:Right (seenA a i m))(hi:(i:Int)<a.evs)(hne:allC (seenA a i m)≠[]):∃h:i<(someT (seenA a i m)).2.2.length,(someT (seenA a i m)).2.2[i]=m:=by
 obtain⟨runs,y,t,e⟩:=someT_spec hr hne
 obtain⟨runs',_,t',ey⟩:=(tru_seen r).1 t
 have hev:(seenA a i m).evs=a.evs:=rfl
 rw[hev] at e
 have hl:i<(someT (seenA a i m)).2.2.length:=by rw[e];show i<((List.range a.evs.toNat).map y).length;rw[List.length_map,List.length_range];omega
 refine⟨hl,?_⟩
 have:(someT (seenA a i m)).2.2[i]? =some m:=by
  rw[e]
  show((List.range a.evs.toNat).map y)[i]? =some m
  rw[List.getElem?_map,List.getElem?_range (by omega),←ey];rfl
 rw[List.getElem?_eq_getElem hl] at this
 exact Option.some.inj this
theorem time_in {a:At}(r:Right a){runs:Runs}{y:Nat→Int}(t:TruA a runs y){i:Nat}(hi:i<4):inB (y i) (betw 4 i (allM a)).1 (betw 4 i (allM a)).2=true:=by
 have h1:=(betw_tru r t (f:=4) (t:=i) (by omega) (by omega)).2
 have h2:(betw 4 i (allM a)).1≤y i-y 4∧y i-y 4≤(betw 4 i (allM a)).2:=h1
 rw[t.beg] at h2
 rw[inB_iff];omega
end Tryz
end Go.Ab
namespace Go.Ab.Tryz
open Go.Proofs
def spL (a:At)(n i:Nat):List (Int × Int):=(List.range n).map fun j=>if j<i then betw 4 j (allM a) else(0,0)
theorem spL_len (a:At)(n i:Nat):(spL a n i).length=n:=by simp[spL]
theorem spL_0 (a:At)(n:Nat):spL a n 0=List.replicate n (0,0):=by
 refine List.ext_getElem (by simp[spL]) fun i h1 h2=>?_
 simp[spL]
theorem spL_at (a:At){n i j:Nat}(h:j<n):(spL a n i)[j]? =some (if j<i then betw 4 j (allM a) else(0,0)):=by
 rw[spL,List.getElem?_map,List.getElem?_range h];rfl
theorem spL_set (a:At){n i:Nat}(h:i<n):(spL a n i).set i (betw 4 i (allM a))=spL a n (i+1):=by
 refine List.ext_getElem? fun j=>?_
 rcases Nat.lt_or_ge j n with hj|hj
 ·rw[List.getElem?_set,spL_at a hj,spL_at a hj,spL_len]
  by_cases e:i=j
  ·subst e;rw[if_pos rfl,if_pos h,if_pos (by omega)]
  ·rw[if_neg e]
   by_cases e2:j<i
   ·rw[if_pos e2,if_pos (by omega)]
   ·rw[if_neg e2,if_neg (by omega)]
 ·rw[List.getElem?_eq_none (by rw[List.length_set,spL_len];exact hj),List.getElem?_eq_none (by rw[spL_len];exact hj)]
theorem pairs_get {L:List (Int × Int)}{i:Nat}{s:Int × Int}(h:L[i]? =some s):getN (i*2) 2 (L.map encS).flatten=some [.int .i64 s.1,.int .i64 s.2]:=by
 have hi:=getl h
 have hs:∀r∈L.map encS,r.length=2:=fun r hr=>by obtain⟨c,_,rfl⟩:=List.mem_map.1 hr;rfl
 refine getN_eq.2 ⟨?_,?_⟩
 ·rw[flatten_drop i hs,←List.map_drop,List.drop_eq_getElem_cons hi,List.map_cons,List.flatten_cons]
  rw[List.getElem?_eq_getElem hi] at h
  cases h;rfl
 ·rw[flatten_len hs,List.length_map];omega
theorem pairs_nth {L:List (Int × Int)}{i:Nat}{s:Int × Int}(h:L[i]? =some s):nth (i*2) (L.map encS).flatten=some (.int .i64 s.1)∧nth (i*2+1) (L.map encS).flatten=some (.int .i64 s.2):=by
 have hi:=getl h
 have f0:=flat_at (ev:=encS) (k:=2) (fun _=>rfl) L i 0 hi (by omega)
 have f1:=flat_at (ev:=encS) (k:=2) (fun _=>rfl) L i 1 hi (by omega)
 rw[List.getElem?_eq_getElem hi] at h
 cases h
 rw[nth_eq,nth_eq]
 rw[Nat.add_zero] at f0
 exact⟨f0.trans rfl,f1.trans rfl⟩
set_option maxHeartbeats 8000000 in
theorem ClockTold_ev {h:H}{x y:V}{bs cs:List Int}(hw:h.wf)(hx:SlAt h x 1 (bs.map encU8))(hy:SlAt h y 1 (cs.map encU8)):Ev fnG fastA (.fn 8 [] []) [x,y] h fun v _=>v=.bool true:=by
 refine Ev.gen fun Q q=>?_
 refine Ev_body (fd:=c8) rfl rfl rfl ?_
 simp -implicitDefEqProofs(maxSteps:=999999)(disch:=first|with_reducible rfl|omega|(simp only[nA,nS,nD]<;>omega)|fail)only[c8,go_sem]
 refine Wound_ev hw hx _ fun h1 s1 p1 n1=>?_
 simp -implicitDefEqProofs(maxSteps:=999999)(disch:=first|with_reducible rfl|omega|(simp only[nA,nS,nD]<;>omega)|fail)only[go_sem]
 refine Made_ev s1 hw hx (Nat.le_refl _) p1 (by omega) (by omega) (by omega) (by omega) (by omega) _ fun h2 T2 a ss gg tt C R G S Ga Tm mk=>?_
 have ok:=mk.ok
 have r:=ok.right mk.lt
 have tru:=ok.tru
 have he:=ok.e
 have hm:=ok.m
 have lt:=mk.lt
 have oC:=mk.at_.c.one;have oR:=mk.at_.r.one;have oG:=mk.at_.g.one
 have oS:=mk.as_.one;have oGa:=mk.ag.one;have oTm:=mk.am.one
 have hw2:=mk.s.wf
 obtain⟨hA,hhA⟩:∃hA,((((h2.add (.cells .rw [.int .i64 0,.int .i64 0,.nils,.nils,.nils])).add (.cells .rw [.nils,.nils,.nils])).set h2.next (.cells .rw (atV a C R G))).set (h2.next+1) (.cells .rw [S,Ga,Tm]))=hA:=⟨_,rfl⟩
 have sA:h2.Sub hA:=by rw[←hhA];exact(by repeat(first|assumption|exact H.Sub.refl (by assumption)|refine H.Sub.add ?_ _|refine H.Sub.set ?_ (by first|omega|(simp only[H.next_add,H.next_set,H.next_del]<;>omega)) (by first|omega|(simp only[H.next_add,H.next_set,H.next_del]<;>omega)) (by assumption) _))
 have g5:hA.get h2.next=some (.cells .rw (atV a C R G)):=by rw[←hhA];simp -implicitDefEqProofs(maxSteps:=999999)(disch:=first|with_reducible rfl|omega|(simp only[nA,nS,nD]<;>omega)|fail)only[go_sem]
 have g6:hA.get (h2.next+1)=some (.cells .rw [S,Ga,Tm]):=by rw[←hhA];simp -implicitDefEqProofs(maxSteps:=999999)(disch:=first|with_reducible rfl|omega|(simp only[nA,nS,nD]<;>omega)|fail)only[go_sem]
 have trR:TrAt hA S Ga Tm ss gg tt:=TrAt.mono ⟨mk.as_,mk.ag,mk.am⟩ sA
 have xA:=mk.at_.mono sA
 have hne:allC a≠[]:=fun hc=>(noC r).1 hc _ _ tru
 have e0:=errT_ok r hne
 have hfr:fitB a ss gg tt=true:=(fitB_iff r).2 ⟨⟨ok.ls,ok.lg,lt⟩,tru⟩
 have hft:=someT_fit r hne
 have chk:=checkA_iff.2 r
 simp -implicitDefEqProofs(maxSteps:=999999)(disch:=first|with_reducible rfl|omega|(simp only[nA,nS,nD]<;>omega)|fail)only[go_sem,oC,oR,oG,oS,oGa,oTm]
 rw[hhA]
 refine Some_ev sA.wf xA _ fun S1 G1 T1 h3 s3 tr1=>?_
 rw[e0]
 have oS1:=tr1.s.one;have oG1:=tr1.g.one;have oT1:=tr1.t.one
 simp -implicitDefEqProofs(maxSteps:=999999)(disch:=first|with_reducible rfl|omega|(simp only[nA,nS,nD]<;>omega)|fail)only[go_sem,oS1,oG1,oT1]
 have s4':=(H.Sub.refl s3.wf).add (.cells .rw [S1,G1,T1])
 have g7:(h3.add (.cells .rw [S1,G1,T1])).get h3.next=some (.cells .rw [S1,G1,T1]):=get_add_new rfl
 obtain⟨h4,hh4⟩:∃h4,h3.add (.cells .rw [S1,G1,T1])=h4:=⟨_,rfl⟩
 rw[hh4] at s4' g7
 try rw[hh4]
 clear hh4
 have sA4:=s3.trans s4'
 simp -implicitDefEqProofs(maxSteps:=999999)(disch:=first|with_reducible rfl|omega|(simp only[nA,nS,nD]<;>omega)|fail)only[go_sem,cells_of (sA4.get g5)]
 refine check_ev s4'.wf ⟨C,R,G,rfl,xA.mono sA4⟩ _ fun h5 s5=>?_
 rw[chk]
 have sA5:=sA4.trans s5
 simp -implicitDefEqProofs(maxSteps:=999999)(disch:=first|with_reducible rfl|omega|(simp only[nA,nS,nD]<;>omega)|fail)only[go_sem,ne_eq,not_true_eq_false,cells_of (sA5.get g5),cells_of (s5.get g7)]
 refine lfits_ev s5.wf (xA.mono sA5) r (tr1.mono (s4'.trans s5)) _ fun h6 s6=>?_
 rw[hft]
 have sA6:=sA5.trans s6
 simp -implicitDefEqProofs(maxSteps:=999999)(disch:=first|with_reducible rfl|omega|(simp only[nA,nS,nD]<;>omega)|fail)only[go_sem,cells_of (sA6.get g5),cells_of (sA6.get g6)]
 refine lfits_ev s6.wf (xA.mono sA6) r (trR.mono sA6) _ fun h7 s7=>?_
 rw[hfr]
 have sA7:=sA6.trans s7
 have sh7:=(mk.s.trans sA).trans sA7
 simp -implicitDefEqProofs(maxSteps:=999999)(disch:=first|with_reducible rfl|omega|(simp only[nA,nS,nD]<;>omega)|fail)only[go_sem]
 refine Wound_ev s7.wf (hy.mono sh7) _ fun h8 s8 p8 n8=>?_
 have s47:=(s5.trans (s6.trans s7))
 have sA8:=sA7.trans s8
 obtain⟨n,hn⟩:∃n:Nat,a.evs=n:=⟨a.evs.toNat,by omega⟩
 simp -implicitDefEqProofs(maxSteps:=999999)(disch:=first|with_reducible rfl|omega|(simp only[nA,nS,nD]<;>omega)|fail)only[go_sem,cells_of (sA8.get g5),hn,a_msl_nn]
 have g57:=sA7.get g5
 have g67:=sA7.get g6
 have g77:=s47.get g7
 have x7:=xA.mono sA7
 have tr7:=trR.mono sA7
 have tr17:=tr1.mono (s4'.trans s47)
 have hy7:=hy.mono sh7
 have hw7:=s7.wf
 clear g5 g6 g7
 have e4:n≤4:=by omega
 obtain⟨h9,hh9⟩:∃h9,h8.add (.cells .rw (repN n [.int .i64 0,.int .i64 0]))=h9:=⟨_,rfl⟩
 have s9:h8.Sub h9:=by rw[←hh9];exact(H.Sub.refl s8.wf).add _
 have gT:h9.get h8.next=some (.cells .rw ((spL a n 0).map encS).flatten):=by rw[←hh9,spL_0,←repN_S];exact get_add_new rfl
 have n9:h9.next=h8.next+1:=by rw[←hh9];exact H.next_add _ _
 rw[hh9]
 clear hh9
 have eev:∀i:Nat,i<n→a.evB i=true:=fun i hi=>by simp only[At.evB,inB_iff];omega
 have ltn:tt.length=n:=by omega
 have l1n:(someT a).2.2.length=n:=by
  have:=(lenFit_iff.1 (fitB_parts.1 hft).1).2.2;omega
 have p9:=p8.mono s9
 have l7:=s8.next
 refine W_count n (fun i s=>∃tm z,s=⟨tm,z,[]⟩∧h7.Sub z∧h9.next≤z.next∧SpAt z h7.next y 0∧z.get h8.next=some (.cells .rw ((spL a n i).map encS).flatten)∧
   (Opd.t 5).ev tm=.ptr h2.next 0∧(Opd.t 6).ev tm=.ptr (h2.next+1) 0∧(Opd.t 7).ev tm=.ptr h3.next 0∧(Opd.t 9).ev tm=.ptr h7.next 0∧(Opd.t 10).ev tm=.sl h8.next 0 n (.fix n)∧(Opd.t 59).ev tm=.int .i64 (n:Int)∧(Opd.t 60).ev tm=.int .i64 (i:Int)) ?_ ?_ (i:=0) (Nat.zero_le _)
  ⟨_,_,rfl,s8.trans s9,Nat.le_refl _,p9,gT,(by simp[ev_c,ev_put]<;>rfl),(by simp[ev_c,ev_put]<;>rfl),(by simp[ev_c,ev_put]<;>rfl),(by simp[ev_c,ev_put]<;>rfl),(by simp[ev_c,ev_put]<;>rfl),(by simp[ev_c,ev_put]<;>rfl),(by simp[ev_c,ev_put]<;>rfl)⟩
 ·rintro i s hi ⟨tm,z,rfl,sz,lz,pz,gz,t5,t6,t7,t9,t10,t59,t60⟩
  have hi':(i:Int)<(n:Int):=by omega
  simp -implicitDefEqProofs(maxSteps:=999999)(disch:=first|with_reducible rfl|omega|(simp only[nA,nS,nD]<;>omega)|fail)only[go_sem,t5,t6,t7,t9,t10,t59,t60,hi',cells_of (sz.get g57)]
  refine time_ev sz.wf (x7.mono sz) i _ fun z1 s1=>?_
  rw[timeR_ok r hne (eev i hi)]
  have hset:=spL_set a hi
  have hin1:=time_in r tru (i:=i) (by omega)
  rw[timeF_at (List.getElem?_eq_getElem (by omega:i<tt.length))] at hin1
  have tfit:=fit_tru r hft
  have hin2:=time_in r tfit (i:=i) (by omega)
  rw[timeF_at (List.getElem?_eq_getElem (by omega:i<(someT a).2.2.length))] at hin2
  have hput:=rows_put (enc:=encS) (sz:=2) (fun _=>rfl) (spL a n i) (k:=i) (by rw[spL_len];exact hi) (betw 4 i (allM a))
  rw[hset] at hput
  have gz1:=s1.get gz
  have szz:=sz.trans s1
  have l1:=s1.next
  obtain⟨⟨lo,hi4⟩,hS⟩:∃S4,betw 4 i (allM a)=S4:=⟨_,rfl⟩
  rw[hS] at hput hin1 hin2⊢
  simp only[encS] at hput hin1 hin2
  have hsp:(spL a n (i+1))[i]? =some (lo,hi4):=by
   have:=spL_at a (i:=i+1) hi
   rw[if_pos (by omega),hS] at this;exact this
  have hgt:=pairs_get hsp
  obtain⟨zS,hzS⟩:∃zS,z1.set h8.next (.cells .rw ((spL a n (i+1)).map encS).flatten)=zS:=⟨_,rfl⟩
  have gS:zS.get h8.next=some (.cells .rw ((spL a n (i+1)).map encS).flatten):=by rw[←hzS];exact get_set_same rfl
  have sS:h7.Sub zS:=by rw[←hzS];exact szz.set (by omega) (by omega) hw7 _
  have nS:zS.next=z1.next:=by rw[←hzS];exact H.next_set _ _ _
  have pS:SpAt zS h7.next y 0:=by rw[←hzS];exact(pz.mono s1).keep (Keeps.set _ _ _) (by omega)
  simp -implicitDefEqProofs(maxSteps:=999999)(disch:=first|with_reducible rfl|omega|(simp only[nA,nS,nD]<;>omega)|fail)only[go_sem,t5,t6,t7,t9,t10,t59,t60,q_iad_sl (nat_cst i) hi,gz1,hput]
  rw[hzS]
  clear hzS
  obtain⟨b1,o1,cc1,cs1,e1,hc1,hq1,_,_,q1⟩:=(tr7.t.mono sS).at (k:=i) (by omega)
  obtain⟨b2,o2,cc2,cs2,e2,hc2,hq2,_,_,q2⟩:=(tr17.t.mono sS).at (k:=i) (by omega)
  have v1:=q1 (by decide)
  have v2:=q2 (by decide)
  simp only[encI,List.getElem?_cons_zero] at v1 v2
  generalize tt[i]=y1 at v1 hin1
  generalize(someT a).2.2[i]=y2 at v2 hin2
  simp -implicitDefEqProofs(maxSteps:=999999)(disch:=first|with_reducible rfl|omega|(simp only[nA,nS,nD]<;>omega)|fail)only[go_sem,t5,t6,t7,t9,t10,t59,t60,ne_eq,not_true_eq_false,cells_of (sS.get g67),hq1 (nat_cst i),hc1,v1,q_iad_sl (nat_cst i) hi,cells_of gS,hgt]
  refine inside_ev sS.wf _ _ _ _ fun z3 s3=>?_
  rw[hin1]
  have gS3:=s3.get gS
  have sS3:=sS.trans s3
  simp -implicitDefEqProofs(maxSteps:=999999)(disch:=first|with_reducible rfl|omega|(simp only[nA,nS,nD]<;>omega)|fail)only[go_sem,t5,t6,t7,t9,t10,t59,t60,cells_of (sS3.get g77),hq2 (nat_cst i),s3.cells hc2,v2,q_iad_sl (nat_cst i) hi,cells_of gS3,hgt]
  refine inside_ev sS3.wf _ _ _ _ fun z4 s4=>?_
  rw[hin2]
  have gS4:=s4.get gS3
  have sS4:=sS3.trans s4
  have l3:=s3.next
  have l4:=s4.next
  simp -implicitDefEqProofs(maxSteps:=999999)(disch:=first|with_reducible rfl|omega|(simp only[nA,nS,nD]<;>omega)|fail)only[go_sem,t5,t6,t7,t9,t10,t59,t60,cells_of gS,cells_of gS3,cells_of gS4,hgt,cells_of (sS.get g67),cells_of (sS3.get g67),cells_of (sS4.get g67),cells_of (sS.get g77),cells_of (sS3.get g77),cells_of (sS4.get g77),hc1,s3.cells hc1,v1,s3.cells hc2,(s3.trans s4).cells hc2,v2,wr_succ]
  exact⟨_,_,rfl,sS4,by omega,pS.mono (s3.trans s4),gS4,(by simp[ev_c,ev_put,t5]<;>rfl),(by simp[ev_c,ev_put,t6]<;>rfl),(by simp[ev_c,ev_put,t7]<;>rfl),(by simp[ev_c,ev_put,t9]<;>rfl),(by simp[ev_c,ev_put,t10]<;>rfl),(by simp[ev_c,ev_put,t59]<;>rfl),(by simp[ev_c,ev_put]<;>rfl)⟩
 rintro s ⟨tm,z,rfl,sz,lz,pz,gz,t5,t6,t7,t9,t10,t59,t60⟩
 simp -implicitDefEqProofs(maxSteps:=999999)(disch:=first|with_reducible rfl|omega|(simp only[nA,nS,nD]<;>omega)|fail)only[go_sem,t5,t6,t7,t9,t10,t59,t60,Int.lt_irrefl]
 have hsp:∀i,i<n→(spL a n n)[i]? =some (betw 4 i (allM a)):=fun i hi=>by rw[spL_at a hi,if_pos hi]
 refine W_count 8 (fun i s=>∃tm z T',s=⟨tm,z,[]⟩∧h7.Sub z∧h9.next≤z.next∧SpAt z h7.next y T'∧(0≤T'∧T'≤100*(i:Int))∧z.get h8.next=some (.cells .rw ((spL a n n).map encS).flatten)∧
   (Opd.t 5).ev tm=.ptr h2.next 0∧(Opd.t 6).ev tm=.ptr (h2.next+1) 0∧(Opd.t 9).ev tm=.ptr h7.next 0∧(Opd.t 10).ev tm=.sl h8.next 0 n (.fix n)∧(Opd.t 101).ev tm=.int .i64 (i:Int)) ?_ ?_ (i:=0) (Nat.zero_le _)
  ⟨_,_,0,rfl,sz,lz,pz,by omega,gz,(by simp[ev_c,ev_put,t5]<;>rfl),(by simp[ev_c,ev_put,t6]<;>rfl),(by simp[ev_c,ev_put,t9]<;>rfl),(by simp[ev_c,ev_put,t10]<;>rfl),(by simp[ev_c,ev_put]<;>rfl)⟩
 ·clear sz lz pz gz t5 t6 t7 t9 t10 t59 t60
  rintro i s hi ⟨tm,z,T',rfl,sz,lz,pz,hT',gz,t5,t6,t9,t10,t101⟩
  have hi':(i:Int)<8:=by omega
  simp -implicitDefEqProofs(maxSteps:=999999)(disch:=first|with_reducible rfl|omega|(simp only[nA,nS,nD]<;>omega)|fail)only[go_sem,t5,t6,t9,t10,t101,hi',cells_of (sz.get g67)]
  refine tried_ev sz hw7 hy7 (Nat.le_refl _) pz (by omega) (tr7.mono sz) (by rw[ok.ls];have:=ok.cl;omega) (by rw[ok.lg];have:=ok.cl;omega) (by omega) _ fun S5 G5 T5 ss5 gg5 tt5 T6 z1 s1 pz1 hT6 k1 tr5 m1 m2 m3=>?_
  have gz1:=k1.2 _ _ gz (by omega)
  have l1:=k1.1
  have o5S:=tr5.s.one;have o5G:=tr5.g.one;have o5T:=tr5.t.one
  simp -implicitDefEqProofs(maxSteps:=999999)(disch:=first|with_reducible rfl|omega|(simp only[nA,nS,nD]<;>omega)|fail)only[go_sem,t5,t6,t9,t10,t101,o5S,o5G,o5T]
  obtain⟨z2,hz2⟩:∃z2,z1.add (.cells .rw [S5,G5,T5])=z2:=⟨_,rfl⟩
  have s12:z1.Sub z2:=by rw[←hz2];exact(H.Sub.refl s1.wf).add _
  have g12:z2.get z1.next=some (.cells .rw [S5,G5,T5]):=by rw[←hz2];exact get_add_new rfl
  try rw[hz2]
  have s02:=s1.trans s12
  simp -implicitDefEqProofs(maxSteps:=999999)(disch:=first|with_reducible rfl|omega|(simp only[nA,nS,nD]<;>omega)|fail)only[go_sem,t5,t6,t9,t10,t101,cells_of (s02.get g57),cells_of g12]
  clear hz2
  have tr52:=tr5.mono s12
  have hgz2:=s12.get gz1
  have l2:=s12.next
  refine Fits_ev s02.wf (x7.mono s02) tr52 _ fun z3 s3=>?_
  rw[chk,show fitsR a ss5 gg5 tt5=fitB a ss5 gg5 tt5 by simp[fitsR,chk]]
  have s03:=s02.trans s3
  simp -implicitDefEqProofs(maxSteps:=999999)(disch:=first|with_reducible rfl|omega|(simp only[nA,nS,nD]<;>omega)|fail)only[go_sem,t5,t6,t9,t10,t101,ne_eq,not_true_eq_false,cells_of (s03.get g57),cells_of (s3.get g12)]
  refine lfits_ev s03.wf (x7.mono s03) r (tr52.mono s3) _ fun z4 s4=>?_
  have hbb:∀b:Bool,(!(b==b))=false:=fun b=>by cases b<;>rfl
  have s04:=s03.trans s4
  have s24:=s3.trans s4
  have hl5:=tr5.t.lenE
  obtain⟨fb,hfb⟩:∃fb,fitB a ss5 gg5 tt5=fb:=⟨_,rfl⟩
  rw[hfb]
  have tr54:=tr52.mono s24
  simp -implicitDefEqProofs(maxSteps:=999999)(disch:=first|with_reducible rfl|omega|(simp only[nA,nS,nD]<;>omega)|fail)only[go_sem,t5,t6,t9,t10,t101,hbb,cells_of (s24.get g12),hl5]
  refine W_count tt5.length (fun j s=>∃tm z',s=⟨tm,z',[]⟩∧z4.Sub z'∧
   (Opd.t 5).ev tm=.ptr h2.next 0∧(Opd.t 6).ev tm=.ptr (h2.next+1) 0∧(Opd.t 9).ev tm=.ptr h7.next 0∧(Opd.t 10).ev tm=.sl h8.next 0 n (.fix n)∧(Opd.t 101).ev tm=.int .i64 (i:Int)∧(Opd.t 13).ev tm=.bool fb∧(Opd.t 122).ev tm=T5∧(Opd.t 123).ev tm=.int .i64 (tt5.length:Int)∧(Opd.t 124).ev tm=.int .i64 (j:Int)) ?_ ?_ (i:=0) (Nat.zero_le _)
   ⟨_,_,rfl,H.Sub.refl s4.wf,(by simp[ev_c,ev_put,t5]<;>rfl),(by simp[ev_c,ev_put,t6]<;>rfl),(by simp[ev_c,ev_put,t9]<;>rfl),(by simp[ev_c,ev_put,t10]<;>rfl),(by simp[ev_c,ev_put,t101]<;>rfl),(by simp[ev_c,ev_put]<;>rfl),(by simp[ev_c,ev_put]<;>rfl),(by simp[ev_c,ev_put]<;>rfl),(by simp[ev_c,ev_put]<;>rfl)⟩
  ·clear t5 t6 t9 t10 t101
   rintro j s hj ⟨tm,z',rfl,s',t5,t6,t9,t10,t101,t13,t122,t123,t124⟩
   have hj':(j:Int)<(tt5.length:Int):=by omega
   obtain⟨b1,o1,cc1,cs1,e1,hc1,hq1,_,_,q1⟩:=(tr54.t.mono s').at hj
   have v1:=q1 (by decide)
   simp only[encI,List.getElem?_cons_zero] at v1
   have hjn:j<n:=by omega
   cases fb with
   |false=>
    simp -implicitDefEqProofs(maxSteps:=999999)(disch:=first|with_reducible rfl|omega|(simp only[nA,nS,nD]<;>omega)|fail)only[go_sem,t5,t6,t9,t10,t101,t13,t122,t123,t124,hj',hq1 (nat_cst j),hc1,v1,wr_succ]
    exact⟨_,_,rfl,s',(by simp[ev_c,ev_put,t5]<;>rfl),(by simp[ev_c,ev_put,t6]<;>rfl),(by simp[ev_c,ev_put,t9]<;>rfl),(by simp[ev_c,ev_put,t10]<;>rfl),(by simp[ev_c,ev_put,t101]<;>rfl),(by simp[ev_c,ev_put,t13]<;>rfl),(by simp[ev_c,ev_put,t122]<;>rfl),(by simp[ev_c,ev_put,t123]<;>rfl),(by simp[ev_c,ev_put]<;>rfl)⟩
   |true=>
    have hin:=time_in r (fit_tru r hfb) (i:=j) (by omega)
    rw[timeF_at (List.getElem?_eq_getElem hj)] at hin
    have hgt:=pairs_get (hsp j hjn)
    have gz':=(s24.trans s').get hgz2
    generalize tt5[j]=m at v1 hin
    simp -implicitDefEqProofs(maxSteps:=999999)(disch:=first|with_reducible rfl|omega|(simp only[nA,nS,nD]<;>omega)|fail)only[go_sem,t5,t6,t9,t10,t101,t13,t122,t123,t124,hj',hq1 (nat_cst j),hc1,v1,q_iad_sl (nat_cst j) hjn,cells_of gz',hgt]
    refine inside_ev s'.wf _ _ _ _ fun z5 s5=>?_
    rw[hin]
    simp -implicitDefEqProofs(maxSteps:=999999)(disch:=first|with_reducible rfl|omega|(simp only[nA,nS,nD]<;>omega)|fail)only[go_sem,t5,t6,t9,t10,t101,t13,t122,t123,t124,wr_succ]
    exact⟨_,_,rfl,s'.trans s5,(by simp[ev_c,ev_put,t5]<;>rfl),(by simp[ev_c,ev_put,t6]<;>rfl),(by simp[ev_c,ev_put,t9]<;>rfl),(by simp[ev_c,ev_put,t10]<;>rfl),(by simp[ev_c,ev_put,t101]<;>rfl),(by simp[ev_c,ev_put,t13]<;>rfl),(by simp[ev_c,ev_put,t122]<;>rfl),(by simp[ev_c,ev_put,t123]<;>rfl),(by simp[ev_c,ev_put]<;>rfl)⟩
  ·clear t5 t6 t9 t10 t101
   rintro s ⟨tm,z',rfl,s',t5,t6,t9,t10,t101,t13,t122,t123,t124⟩
   have l4:=(s24.trans s').next
   simp -implicitDefEqProofs(maxSteps:=999999)(disch:=first|with_reducible rfl|omega|(simp only[nA,nS,nD]<;>omega)|fail)only[go_sem,t5,t6,t9,t10,t101,t13,t122,t123,t124,Int.lt_irrefl,wr_succ]
   exact⟨_,_,T6,rfl,s04.trans s',by omega,pz1.mono (s12.trans (s24.trans s')),by omega,(s24.trans s').get hgz2,(by simp[ev_c,ev_put,t5]<;>rfl),(by simp[ev_c,ev_put,t6]<;>rfl),(by simp[ev_c,ev_put,t9]<;>rfl),(by simp[ev_c,ev_put,t10]<;>rfl),(by simp[ev_c,ev_put]<;>rfl)⟩
 clear sz lz pz gz t5 t6 t7 t9 t10 t59 t60
 rintro s ⟨tm,z,T',rfl,sz,lz,pz,hT',gz,t5,t6,t9,t10,t101⟩
 have i8:¬((8:Nat):Int)<8:=by decide
 have we:wr .i64 (a.evs-1)=a.evs-1:=wr_in (by omega) (by omega)
 simp -implicitDefEqProofs(maxSteps:=999999)(disch:=first|with_reducible rfl|omega|(simp only[nA,nS,nD]<;>omega)|fail)only[go_sem,t5,t6,t9,t10,t101,i8,cells_of (sz.get g57),we]
 refine Upto_ev sz hw7 hy7 (Nat.le_refl _) pz (by omega) (by omega) _ fun rr z1 r0 r1 s1 pz1 k1 nz1=>?_
 obtain⟨i,hi⟩:∃i:Nat,rr=i:=⟨rr.toNat,by omega⟩
 subst hi
 have hin:i<n:=by omega
 have gz1:=k1.2 _ _ gz (by omega)
 have hgt:=pairs_get (hsp i hin)
 have bb:=betw_bd (f:=4) (t:=i) (l:=allM a) (by omega) (by omega) (fun L hL=>by
  obtain⟨t,ht,rfl⟩:=List.mem_map.1 hL
  exact casesL_in r t ht)
 have send:=fun(m:Int) (hr:Right (seenA a i m)) h=>seen_end r hne (i:=i) (by omega) (m:=m) hr h
 have sout:=fun(m:Int) (hr:Right (seenA a i m)) h=>seen_out r (i:=i) (by omega) (m:=m) hr h
 have hle:(betw 4 i (allM a)).1≤(betw 4 i (allM a)).2:=by
  have:=(inB_iff ..).1 (time_in r tru (i:=i) (by omega));omega
 obtain⟨⟨lo,hi2⟩,hS⟩:∃S4,betw 4 i (allM a)=S4:=⟨_,rfl⟩
 rw[hS] at hgt bb hle
 simp only[hS] at send sout
 simp only at bb hle
 have u0:wr .i64 (lo-1)=lo-1:=wr_in (by omega) (by omega)
 have u1:wr .i64 (hi2+1)=hi2+1:=wr_in (by omega) (by omega)
 obtain⟨hn0,hn1⟩:=pairs_nth (hsp i hin)
 rw[hS] at hn0 hn1
 simp only at hn0 hn1
 have l1:=s1.next
 simp -implicitDefEqProofs(maxSteps:=999999)(disch:=first|with_reducible rfl|omega|(simp only[nA,nS,nD]<;>omega)|fail)only[go_sem,t5,t6,t9,t10,t101,q_iad_sl (nat_cst i) hin,cells_of gz1,hn0,hn1,u0,u1]
 obtain⟨zM,hzM⟩:∃zM,z1.add (.cells .rw [.int .i64 lo,.int .i64 hi2,.int .i64 (lo-1),.int .i64 (hi2+1)])=zM:=⟨_,rfl⟩
 have s1M:z1.Sub zM:=by rw[←hzM];exact(H.Sub.refl s1.wf).add _
 have gM:zM.get z1.next=some (.cells .rw [.int .i64 lo,.int .i64 hi2,.int .i64 (lo-1),.int .i64 (hi2+1)]):=by rw[←hzM];exact get_add_new rfl
 rw[hzM]
 clear hzM
 have sM:=s1.trans s1M
 have gzM:=s1M.get gz1
 clear sz lz pz gz
 refine W_count 4 (fun k s=>∃tm z,s=⟨tm,z,[]⟩∧zM.Sub z∧
   (Opd.t 5).ev tm=.ptr h2.next 0∧(Opd.t 10).ev tm=.sl h8.next 0 n (.fix n)∧(Opd.t 17).ev tm=.int .i64 (i:Int)∧(Opd.t 168).ev tm=.sl z1.next 0 4 (.fix 4)∧(Opd.t 169).ev tm=.int .i64 ((4:Nat):Int)∧(Opd.t 170).ev tm=.int .i64 (k:Int)) ?_ ?_ (i:=0) (Nat.zero_le _)
  ⟨_,_,rfl,H.Sub.refl sM.wf,(by simp[ev_c,ev_put,t5]<;>rfl),(by simp[ev_c,ev_put,t10]<;>rfl),(by simp[ev_c,ev_put]<;>rfl),(by simp[ev_c,ev_put]<;>rfl),(by simp[ev_c,ev_put]<;>rfl),(by simp[ev_c,ev_put]<;>rfl)⟩
 ·clear t5 t6 t9 t10 t101
  rintro k s hk ⟨tm,z,rfl,sz,t5,t10,t17,t168,t169,t170⟩
  have hk':(k:Int)<((4:Nat):Int):=by omega
  obtain⟨m,hv,hmc⟩:∃m:Int,nth k [V.int .i64 lo,.int .i64 hi2,.int .i64 (lo-1),.int .i64 (hi2+1)]=some (.int .i64 m)∧((inB m lo hi2=true∧(m=lo∨m=hi2))∨(inB m lo hi2=false∧(m<lo∨hi2<m)))∧ -241≤m∧m≤241:=by
   have no:∀m:Int,(m<lo∨hi2<m)→inB m lo hi2=false:=fun m h=>by rw[←Bool.not_eq_true,inB_iff];omega
   rcases(by omega:k=0∨k=1∨k=2∨k=3) with rfl|rfl|rfl|rfl
   ·exact⟨lo,rfl,.inl ⟨(inB_iff ..).2 (by omega),.inl rfl⟩,by omega⟩
   ·exact⟨hi2,rfl,.inl ⟨(inB_iff ..).2 (by omega),.inr rfl⟩,by omega⟩
   ·exact⟨lo-1,rfl,.inr ⟨no _ (by omega),by omega⟩,by omega⟩
   ·exact⟨hi2+1,rfl,.inr ⟨no _ (by omega),by omega⟩,by omega⟩
  obtain⟨hmc,hmb⟩:=hmc
  have hr:=seen_right r (i:=i) (m:=m) (by have:=ok.cl;omega) (by have:=ok.rl;omega) (by omega) (by omega)
  have sZ:=sM.trans sz
  have sml:SmallA a:=⟨by have:=ok.cl;omega,by have:=ok.rl;omega,by have:=ok.gl;omega⟩
  simp -implicitDefEqProofs(maxSteps:=999999)(disch:=first|with_reducible rfl|omega|(simp only[nA,nS,nD]<;>omega)|fail)only[go_sem,t5,t10,t17,t168,t169,t170,hk',q_iad_sl (nat_cst k) hk,Nat.mul_one,cells_of (sz.get gM),hv,cells_of (sZ.get g57)]
  refine own_ev sZ.wf (x7.mono sZ) sml _ fun C5 R5 G5 z2 n2=>?_
  have ow2:=n2.ow
  have s2:=n2.s
  have o5C:=ow2.c.one;have o5R:=ow2.r.one;have o5G:=ow2.g.one
  simp -implicitDefEqProofs(maxSteps:=999999)(disch:=first|with_reducible rfl|omega|(simp only[nA,nS,nD]<;>omega)|fail)only[go_sem,t5,t10,t17,t168,t169,t170,o5C,o5R,o5G]
  obtain⟨z3,hz3⟩:∃z3,z2.add (.cells .rw (atV a C5 R5 G5))=z3:=⟨_,rfl⟩
  have s23:z2.Sub z3:=by rw[←hz3];exact(H.Sub.refl s2.wf).add _
  have g20:z3.get z2.next=some (.cells .rw (atV a C5 R5 G5)):=by rw[←hz3];exact get_add_new rfl
  have n3:z3.next=z2.next+1:=by rw[←hz3];exact H.next_add _ _
  try rw[hz3]
  clear hz3
  have ow3:=ow2.mono s23
  have b3:∀b,atBlk C5 R5 G5 b→b<z2.next:=fun b hb=>(ow2.blk hb).2
  have s3A:=(H.Sub.refl s23.wf).add (.cells .rw [.int .i64 0,.int .i64 0,.int .i64 0,.int .i64 0])
  have owA:=ow3.mono s3A
  have gA:=s3A.get g20
  have nA1:=H.next_add z3 (.cells .rw [.int .i64 0,.int .i64 0,.int .i64 0,.int .i64 0])
  have hwz:=sZ.wf
  have lz2:=s2.next
  refine owA.c.app1 (by_:=32) (r:=encC zeroC) hwz rfl (by omega) (SlAt.new _ (by rw[n3]) rfl rfl (by simp[encC,zeroC]) (by simp)) rfl (by rw[List.length_map];have:=sml.c;omega) (by rw[List.length_map];have:=sml.c;omega) fun C6 zB oB bB kB=>?_
  have owB:=owA.appC oB bB kB
  have o6C:=owB.c.one
  have gB:=kB.2 _ _ gA fun hb=>by have:=b3 _ (.inl hb);omega
  have lB:=kB.1
  have nb:∀b,atBlk C6 R5 G5 b→b≠z2.next:=fun b hb=>by
   rcases hb with hb|hb|hb
   ·rcases bB b hb with q|q
    ·have:=b3 b (.inl q);omega
    ·omega
   ·have:=b3 b (.inr (.inl hb));omega
   ·have:=b3 b (.inr (.inr hb));omega
  have sB:=owB.sub
  have sC:z.Sub (zB.set z2.next (.cells .rw (atV a C6 R5 G5))):=sB.set (by omega) (by omega) hwz _
  have owC:=owB.keep (Keeps.set zB z2.next (.cells .rw (atV a C6 R5 G5))) sC nb
  have gC:(zB.set z2.next (.cells .rw (atV a C6 R5 G5))).get z2.next=some (.cells .rw (atV a C6 R5 G5)):=get_set_same rfl
  have nC1:=H.next_set zB z2.next (.cells .rw (atV a C6 R5 G5))
  simp -implicitDefEqProofs(maxSteps:=999999)(disch:=first|with_reducible rfl|omega|(simp only[nA,nS,nD]<;>omega)|fail)only[go_sem,t5,t10,t17,t168,t169,t170,gB,o6C,cells_one o6C]
  obtain⟨zC,hzC⟩:∃zC,zB.set z2.next (.cells .rw (atV a C6 R5 G5))=zC:=⟨_,rfl⟩
  rw[hzC] at sC owC gC nC1
  try rw[hzC]
  clear hzC
  have hlC:=x7.c.lenE
  have sZC:=sZ.trans sC
  simp -implicitDefEqProofs(maxSteps:=999999)(disch:=first|with_reducible rfl|omega|(simp only[nA,nS,nD]<;>omega)|fail)only[go_sem,t5,t10,t17,t168,t169,t170,cells_of gC,cells_of (sZC.get g57),hlC]
  have sCD:=(H.Sub.refl sC.wf).add (.cells .rw [.int .i64 (a.cks.length:Int),.int .i64 (i:Int),.int .i64 m])
  have owD:=owC.mono sCD
  have gD:=sCD.get gC
  have nD1:=H.next_add zC (.cells .rw [.int .i64 (a.cks.length:Int),.int .i64 (i:Int),.int .i64 m])
  have rows:(a.addC zeroC).rds=a.rds:=rfl
  refine owD.r.app1 (by_:=24) (r:=encR ⟨(a.cks.length:Int),i,m⟩) hwz rfl (by omega) (SlAt.new _ (by first|rfl|(rw[nC1];rfl)|omega) rfl rfl (by simp[encR]) (by simp)) rfl (by rw[List.length_map,rows];have:=sml.r;omega) (by rw[List.length_map,rows];have:=sml.r;omega) fun R6 zE oE bE kE=>?_
  have owE:=owD.appR oE bE kE
  have o6R:=owE.r.one
  have gE:=kE.2 _ _ gD fun hb=>nb _ (.inr (.inl hb)) rfl
  have lE:=kE.1
  have nbE:∀b,atBlk C6 R6 G5 b→b≠z2.next:=fun b hb=>by
   rcases hb with hb|hb|hb
   ·exact nb b (.inl hb)
   ·rcases bE b hb with q|q
    ·exact nb b (.inr (.inl q))
    ·omega
   ·exact nb b (.inr (.inr hb))
  have sE:=owE.sub
  have sF:z.Sub (zE.set z2.next (.cells .rw (atV a C6 R6 G5))):=sE.set (by omega) (by omega) hwz _
  have owF:=owE.keep (Keeps.set zE z2.next (.cells .rw (atV a C6 R6 G5))) sF nbE
  have gF:(zE.set z2.next (.cells .rw (atV a C6 R6 G5))).get z2.next=some (.cells .rw (atV (seenA a i m) C6 R6 G5)):=get_set_same rfl
  simp -implicitDefEqProofs(maxSteps:=999999)(disch:=first|with_reducible rfl|omega|(simp only[nA,nS,nD]<;>omega)|fail)only[go_sem,t5,t10,t17,t168,t169,t170,gE,o6R,cells_one o6R]
  obtain⟨zF,hzF⟩:∃zF,zE.set z2.next (.cells .rw (atV a C6 R6 G5))=zF:=⟨_,rfl⟩
  rw[hzF] at sF owF gF
  try rw[hzF]
  clear hzF
  have smF:SmallA (seenA a i m):=⟨by have:=sml.c;have:=ok.cl;simp[seenA,At.addR,At.addC];omega,by have:=sml.r;have:=ok.rl;simp[seenA,At.addR,At.addC];omega,sml.g⟩
  have xF:AtAt zF C6 R6 G5 (seenA a i m):=owF.at_ smF
  refine Some_ev sF.wf xF _ fun S8 G8 T8 zG sG tr8=>?_
  have o8S:=tr8.s.one;have o8G:=tr8.g.one;have o8T:=tr8.t.one
  have sZG:=sZ.trans (sF.trans sG)
  have gzG:=(sz.trans (sF.trans sG)).get gzM
  simp -implicitDefEqProofs(maxSteps:=999999)(disch:=first|with_reducible rfl|omega|(simp only[nA,nS,nD]<;>omega)|fail)only[go_sem,t5,t10,t17,t168,t169,t170,o8S,o8G,o8T]
  obtain⟨zH,hzH⟩:∃zH,zG.add (.cells .rw [S8,G8,T8])=zH:=⟨_,rfl⟩
  have sGH:zG.Sub zH:=by rw[←hzH];exact(H.Sub.refl sG.wf).add _
  have gH:zH.get zG.next=some (.cells .rw [S8,G8,T8]):=by rw[←hzH];exact get_add_new rfl
  try rw[hzH]
  clear hzH
  have gzH:=sGH.get gzG
  simp -implicitDefEqProofs(maxSteps:=999999)(disch:=first|with_reducible rfl|omega|(simp only[nA,nS,nD]<;>omega)|fail)only[go_sem,t5,t10,t17,t168,t169,t170,q_iad_sl (nat_cst i) hin,cells_of gzH,hgt]
  refine inside_ev sGH.wf _ _ _ _ fun zI sI=>?_
  have gzI:=sI.get gzH
  have sHI:=sGH.trans sI
  have gFI:=(sG.trans sHI).get gF
  have gHI:=sI.get gH
  have sZI:=sZG.trans sHI
  rcases hmc with⟨hmi,hme⟩|⟨hmi,hme⟩
  ·have hne2:=send m hr (by simpa using hme)
   rw[hmi,errT_ok hr hne2]
   simp -implicitDefEqProofs(maxSteps:=999999)(disch:=first|with_reducible rfl|omega|(simp only[nA,nS,nD]<;>omega)|fail)only[go_sem,t5,t10,t17,t168,t169,t170,ne_eq,not_true_eq_false,cells_of gFI,cells_of gHI]
   refine lfits_ev sHI.wf (xF.mono (sG.trans sHI)) hr (tr8.mono sHI) _ fun zJ sJ=>?_
   rw[someT_fit hr hne2]
   obtain⟨hil,hiv⟩:=seen_time r hr (by omega) hne2
   obtain⟨b1,o1,cc1,cs1,e1,hc1,hq1,_,_,q1⟩:=(tr8.t.mono (sHI.trans sJ)).at hil
   have v1:=q1 (by decide)
   simp only[encI,List.getElem?_cons_zero] at v1
   rw[hiv] at v1
   simp -implicitDefEqProofs(maxSteps:=999999)(disch:=first|with_reducible rfl|omega|(simp only[nA,nS,nD]<;>omega)|fail)only[go_sem,t5,t10,t17,t168,t169,t170,ne_eq,not_true_eq_false,cells_of (sJ.get gHI),hq1 (nat_cst i),hc1,v1,q_iad_sl (nat_cst i) hin,cells_of (sJ.get gzI),hgt]
   refine inside_ev (sHI.trans sJ).wf _ _ _ _ fun zK sK=>?_
   rw[hmi]
   simp -implicitDefEqProofs(maxSteps:=999999)(disch:=first|with_reducible rfl|omega|(simp only[nA,nS,nD]<;>omega)|fail)only[go_sem,t5,t10,t17,t168,t169,t170,wr_succ]
   exact⟨_,_,rfl,sz.trans (sF.trans (sG.trans (sHI.trans (sJ.trans sK)))),(by simp[ev_c,ev_put,t5]<;>rfl),(by simp[ev_c,ev_put,t10]<;>rfl),(by simp[ev_c,ev_put,t17]<;>rfl),(by simp[ev_c,ev_put,t168]<;>rfl),(by simp[ev_c,ev_put,t169]<;>rfl),(by simp[ev_c,ev_put]<;>rfl)⟩
  ·have hno2:=sout m hr (by simpa using hme)
   rw[hmi,errT_none hr hno2]
   simp -implicitDefEqProofs(maxSteps:=999999)(disch:=first|with_reducible rfl|omega|(simp only[nA,nS,nD]<;>omega)|fail)only[go_sem,t5,t10,t17,t168,t169,t170,q_iad_sl (nat_cst i) hin,cells_of gzI,hgt]
   refine inside_ev sI.wf _ _ _ _ fun zK sK=>?_
   rw[hmi]
   simp -implicitDefEqProofs(maxSteps:=999999)(disch:=first|with_reducible rfl|omega|(simp only[nA,nS,nD]<;>omega)|fail)only[go_sem,t5,t10,t17,t168,t169,t170,ne_eq,not_true_eq_false,wr_succ]
   exact⟨_,_,rfl,sz.trans (sF.trans (sG.trans (sHI.trans sK))),(by simp[ev_c,ev_put,t5]<;>rfl),(by simp[ev_c,ev_put,t10]<;>rfl),(by simp[ev_c,ev_put,t17]<;>rfl),(by simp[ev_c,ev_put,t168]<;>rfl),(by simp[ev_c,ev_put,t169]<;>rfl),(by simp[ev_c,ev_put]<;>rfl)⟩
 ·clear t5 t6 t9 t10 t101
  rintro s ⟨tm,z,rfl,sz,t5,t10,t17,t168,t169,t170⟩
  simp -implicitDefEqProofs(maxSteps:=999999)(disch:=first|with_reducible rfl|omega|(simp only[nA,nS,nD]<;>omega)|fail)only[go_sem,t5,t10,t17,t168,t169,t170,Int.lt_irrefl,awake_eq]
  exact q _ _ rfl
end Go.Ab.Tryz
