/- What a clock shows, by going on from minute to minute (as the law has it); the law ClockEven. Contracts: numbers in bounds, Shown, When, and the reference's. -/
import Derived.Test.YtagnijhgpogfhaaG2
set_option linter.unusedSimpArgs false
set_option linter.unusedVariables false
namespace Go.Ab.Try
open Go.Proofs
section
variable {Fn:Nat→Option FD} {fast:Nat→Option (List V→H→Option (V × H))} {N fn:Nat} {ro:Option Nat}
theorem PBd_join {v:V}{c1 c2:C}{s1 s2:St}{K:X→St→Prop}{tg}(R:X→St→Prop)(h:PBd v (W Fn fast N fn ro c1 s1 R) (W Fn fast N fn ro c2 s2 R) ⟨⟩)(k:∀x s,R x s→K x s):PBd v (W Fn fast N fn ro c1 s1 K) (W Fn fast N fn ro c2 s2 K) tg:=by
 cases v
 case bool b=>cases b<;>exact W.mono h k
 all_goals exact h.elim
end
abbrev E (fv:V) (args:List V) (h:H) (Q:V→H→Prop):Prop:=Ev fnG fastA fv args h Q
theorem awake_eq (h:H)(Q:V→H→Prop):Ev fnG fastA (.fn 11 [] []) [] h Q=Q (.bool true) h:=Ev.det ⟨1,.bool true,h,rfl,rfl,rfl⟩ Q
def inB (n lo hi:Int):Bool:=decide (lo≤n)&&decide (n≤hi)
theorem inB_iff {n lo hi:Int}:inB n lo hi=true↔lo≤n∧n≤hi:=by simp[inB]
theorem in_eq (h:H)(n lo hi:Int)(Q:V→H→Prop):Ev fnG fastA (.fn 21 [] []) [.int .i64 n,.int .i64 lo,.int .i64 hi] h Q=Q (.bool (inB n lo hi)) h:=by
 refine Ev.det ?_ Q
 refine Ev_body (fd:=c21) rfl rfl rfl ?_
 by_cases h1:lo≤n
 ·have e:inB n lo hi=decide (n≤hi):=by simp[inB,h1]
  rw[e]
  simp -implicitDefEqProofs(maxSteps:=999999)(disch:=first|with_reducible rfl|omega|(simp only[nA,nS,nD]<;>omega)|fail)only[c21,go_sem,h1]
 ·have e:inB n lo hi=false:=by simp[inB,h1]
  rw[e]
  simp -implicitDefEqProofs(maxSteps:=999999)(disch:=first|with_reducible rfl|omega|(simp only[nA,nS,nD]<;>omega)|fail)only[c21,go_sem,h1]
def rightB (set gain:Int):Bool:=inB set (-60) 60&&inB gain (-30) 30
theorem rightB_iff {set gain:Int}:rightB set gain=true↔RunIn set gain:=by
 rw[rightB,Bool.and_eq_true,inB_iff,inB_iff]
 exact⟨fun⟨⟨a,b⟩,c,d⟩=>⟨a,b,c,d⟩,fun⟨a,b,c,d⟩=>⟨⟨a,b⟩,c,d⟩⟩
theorem right_ev {h:H}(hw:h.wf)(set gain:Int)(Q:V→H→Prop)(q:∀h',h.Sub h'→Q (.bool (rightB set gain)) h'):Ev fnG fastA (.fn 20 [] []) [.agg [.int .i64 set,.int .i64 gain]] h Q:=by
 refine Ev_body (fd:=c20) rfl rfl rfl ?_
 have s:h.Sub (h.add (.cells .rw [.int .i64 set,.int .i64 gain])):=(by repeat(first|assumption|exact H.Sub.refl (by assumption)|refine H.Sub.add ?_ _|refine H.Sub.set ?_ (by first|omega|(simp only[H.next_add,H.next_set,H.next_del]<;>omega)) (by first|omega|(simp only[H.next_add,H.next_set,H.next_del]<;>omega)) (by assumption) _))
 cases h1:inB set (-60) 60 with
 |true=>
  have e:rightB set gain=inB gain (-30) 30:=by rw[rightB,h1,Bool.true_and]
  rw[e] at q
  simp -implicitDefEqProofs(maxSteps:=999999)(disch:=first|with_reducible rfl|omega|(simp only[nA,nS,nD]<;>omega)|fail)only[c20,go_sem,in_eq,h1]
  exact q _ s
 |false=>
  have e:rightB set gain=false:=by rw[rightB,h1,Bool.false_and]
  rw[e] at q
  simp -implicitDefEqProofs(maxSteps:=999999)(disch:=first|with_reducible rfl|omega|(simp only[nA,nS,nD]<;>omega)|fail)only[c20,go_sem,in_eq,h1]
  exact q _ s
def shownE (set gain m:Int):Int:=if rightB set gain=true∧inB m 0 240=true then 0 else 3
def shownR (set gain m:Int):Int:=if rightB set gain=true∧inB m 0 240=true then shw set gain m else 0
theorem Shown_ev {h:H}(hw:h.wf)(set gain m:Int)(Q:V→H→Prop)(q:∀h',h.Sub h'→Q (.tup [.int .i64 (shownR set gain m),.int .i64 (shownE set gain m)]) h'):
  Ev fnG fastA (.fn 9 [] []) [.int .i64 set,.int .i64 gain,.int .i64 m] h Q:=by
 refine Ev_body (fd:=c9) rfl rfl rfl ?_
 have s:h.Sub (h.add (.cells .rw [.int .i64 set,.int .i64 gain])):=(by repeat(first|assumption|exact H.Sub.refl (by assumption)|refine H.Sub.add ?_ _|refine H.Sub.set ?_ (by first|omega|(simp only[H.next_add,H.next_set,H.next_del]<;>omega)) (by first|omega|(simp only[H.next_add,H.next_set,H.next_del]<;>omega)) (by assumption) _))
 have hc:(h.add (.cells .rw [.int .i64 set,.int .i64 gain])).cells h.next=some [.int .i64 set,.int .i64 gain]:=cells_add_new rfl
 simp -implicitDefEqProofs(maxSteps:=999999)(disch:=first|with_reducible rfl|omega|(simp only[nA,nS,nD]<;>omega)|fail)only[c9,go_sem]
 refine right_ev s.wf set gain _ fun h1 s1=>?_
 have hc1:=s1.cells hc
 cases h2:rightB set gain with
 |false=>
  have e1:shownE set gain m=3:=by simp[shownE,h2]
  have e2:shownR set gain m=0:=by simp[shownR,h2]
  simp -implicitDefEqProofs(maxSteps:=999999)(disch:=first|with_reducible rfl|omega|(simp only[nA,nS,nD]<;>omega)|fail)only[go_sem,in_eq]
  have q':=q _ (s.trans s1)
  rw[e1,e2] at q';exact q'
 |true=>
  cases h3:inB m 0 240 with
  |false=>
   have e1:shownE set gain m=3:=by simp[shownE,h3]
   have e2:shownR set gain m=0:=by simp[shownR,h3]
   simp -implicitDefEqProofs(maxSteps:=999999)(disch:=first|with_reducible rfl|omega|(simp only[nA,nS,nD]<;>omega)|fail)only[go_sem,in_eq,h3]
   have q':=q _ (s.trans s1)
   rw[e1,e2] at q';exact q'
  |true=>
   have e1:shownE set gain m=0:=by simp[shownE,h2,h3]
   have e2:shownR set gain m=shw set gain m:=by simp[shownR,h2,h3]
   have hm:=inB_iff.1 h3
   simp -implicitDefEqProofs(maxSteps:=999999)(disch:=first|with_reducible rfl|omega|(simp only[nA,nS,nD]<;>omega)|fail)only[go_sem,in_eq,h3,hc1]
   refine shows_ev rfl s1.wf (rightB_iff.1 h2) hm.1 hm.2 _ fun h4 s4=>?_
   simp -implicitDefEqProofs(maxSteps:=999999)(disch:=first|with_reducible rfl|omega|(simp only[nA,nS,nD]<;>omega)|fail)only[go_sem]
   have q':=q _ ((s.trans s1).trans s4)
   rw[e1,e2] at q';exact q'
def whnG (set gain s:Int):Int × Int:=whn set gain s 241
def whenE (set gain s:Int):Int:=if rightB set gain=true then(if(whnG set gain s).2<(whnG set gain s).1 then 6 else 0) else 3
def whenR (set gain s:Int):Int × Int:=if whenE set gain s=0 then whnG set gain s else(0,0)
set_option maxHeartbeats 1000000 in
theorem When_ev {h:H}(hw:h.wf)(set gain s:Int)(Q:V→H→Prop)(q:∀h',h.Sub h'→Q (.tup [.agg [.int .i64 (whenR set gain s).1,.int .i64 (whenR set gain s).2],.int .i64 (whenE set gain s)]) h'):
  Ev fnG fastA (.fn 10 [] []) [.int .i64 set,.int .i64 gain,.int .i64 s] h Q:=by
 refine Ev_body (fd:=c10) rfl rfl rfl ?_
 have s0:h.Sub ((h.add (.cells .rw [.int .i64 0,.int .i64 0])).add (.cells .rw [.int .i64 set,.int .i64 gain])):=(by repeat(first|assumption|exact H.Sub.refl (by assumption)|refine H.Sub.add ?_ _|refine H.Sub.set ?_ (by first|omega|(simp only[H.next_add,H.next_set,H.next_del]<;>omega)) (by first|omega|(simp only[H.next_add,H.next_set,H.next_del]<;>omega)) (by assumption) _))
 have hc:((h.add (.cells .rw [.int .i64 0,.int .i64 0])).add (.cells .rw [.int .i64 set,.int .i64 gain])).cells (h.next+1)=some [.int .i64 set,.int .i64 gain]:=by simp -implicitDefEqProofs(maxSteps:=999999)(disch:=first|with_reducible rfl|omega|(simp only[nA,nS,nD]<;>omega)|fail)only[go_sem]
 have hr:((h.add (.cells .rw [.int .i64 0,.int .i64 0])).add (.cells .rw [.int .i64 set,.int .i64 gain])).get h.next=some (.cells .rw [.int .i64 0,.int .i64 0]):=by simp -implicitDefEqProofs(maxSteps:=999999)(disch:=first|with_reducible rfl|omega|(simp only[nA,nS,nD]<;>omega)|fail)only[go_sem]
 have n0:((h.add (.cells .rw [.int .i64 0,.int .i64 0])).add (.cells .rw [.int .i64 set,.int .i64 gain])).next=h.next+2:=by simp only[H.next_add]
 simp -implicitDefEqProofs(maxSteps:=999999)(disch:=first|with_reducible rfl|omega|(simp only[nA,nS,nD]<;>omega)|fail)only[c10,go_sem]
 generalize((h.add (.cells .rw [.int .i64 0,.int .i64 0])).add (.cells .rw [.int .i64 set,.int .i64 gain]))=h0 at s0 hc hr n0⊢
 refine right_ev s0.wf set gain _ fun h1 s1=>?_
 have l1:=s1.next
 cases h2:rightB set gain with
 |false=>
  have e1:whenE set gain s=3:=by simp[whenE,h2]
  have e2:whenR set gain s=(0,0):=by simp[whenR,e1]
  simp -implicitDefEqProofs(maxSteps:=999999)(disch:=first|with_reducible rfl|omega|(simp only[nA,nS,nD]<;>omega)|fail)only[go_sem,s1.get hr]
  have q':=q _ ((s0.trans s1).set (b:=h.next) (by omega) (by omega) hw (.cells .rw [.int .i64 0,.int .i64 0]))
  rw[e1,e2] at q';exact q'
 |true=>
  simp -implicitDefEqProofs(maxSteps:=999999)(disch:=first|with_reducible rfl|omega|(simp only[nA,nS,nD]<;>omega)|fail)only[go_sem,s1.cells hc]
  refine when_ev (n:=240) rfl rfl s1.wf (rightB_iff.1 h2) s (Nat.le_refl _) _ fun h3 s3=>?_
  have s13:=s1.trans s3
  have l3:=s3.next
  have sA:=s3.trans ((H.Sub.refl s3.wf).add (.cells .rw [.int .i64 (whn set gain s (240+1)).1,.int .i64 (whn set gain s (240+1)).2]))
  have e0:whnG set gain s=whn set gain s (240+1):=rfl
  by_cases h5:(whn set gain s (240+1)).2<(whn set gain s (240+1)).1
  ·have e1:whenE set gain s=6:=by simp only[whenE,h2,e0,if_true,if_pos h5]
   have e2:whenR set gain s=(0,0):=by simp[whenR,e1]
   simp -implicitDefEqProofs(maxSteps:=999999)(disch:=first|with_reducible rfl|omega|(simp only[nA,nS,nD]<;>omega)|fail)only[go_sem,h5,s13.get hr]
   have q':=q _ (((s0.trans s1).trans sA).set (b:=h.next) (by omega) (by rw[H.next_add];omega) hw (.cells .rw [.int .i64 0,.int .i64 0]))
   rw[e1,e2] at q';exact q'
  ·have e1:whenE set gain s=0:=by simp only[whenE,h2,e0,if_true,if_neg h5]
   have e2:whenR set gain s=whn set gain s (240+1):=by simp only[whenR,e1,if_true,e0]
   simp -implicitDefEqProofs(maxSteps:=999999)(disch:=first|with_reducible rfl|omega|(simp only[nA,nS,nD]<;>omega)|fail)only[go_sem,h5,s13.get hr]
   have q':=q _ (((s0.trans s1).trans sA).set (b:=h.next) (by omega) (by rw[H.next_add];omega) hw (.cells .rw [.int .i64 (whn set gain s (240+1)).1,.int .i64 (whn set gain s (240+1)).2]))
   rw[e1,e2] at q';exact q'
end Go.Ab.Try
namespace Go.Ab
theorem shw_succ (set gain:Int)(i:Nat):shw set gain ((i+1:Nat):Int)=shw set gain i+1+((i:Int)*gain%60+gain)/60∧((i+1:Nat):Int)*gain%60=(((i:Int)*gain%60+gain))%60:=by
 have e:((i+1:Nat):Int)*gain=(i:Int)*gain+gain:=by rw[Int.natCast_add,Int.add_mul];simp
 unfold shw
 rw[e]
 constructor<;>omega
end Go.Ab
namespace Go.Ab.Try
open Go.Proofs
set_option maxHeartbeats 1000000 in
theorem lshows_ev {h:H}(hw:h.wf){set gain m:Int}(r:RunIn set gain)(h0:0≤m)(h1:m≤240)(Q:V→H→Prop)(q:Q (.int .i64 (shw set gain m)) h):
  Ev fnG fastA (.fn 17 [] []) [.int .i64 set,.int .i64 gain,.int .i64 m] h Q:=by
 have a0:=r.s0;have a1:=r.s1;have a2:=r.g0;have a3:=r.g1
 obtain⟨n,rfl⟩:=Int.eq_ofNat_of_zero_le h0
 refine Ev_body (fd:=c17) rfl rfl rfl ?_
 simp -implicitDefEqProofs(maxSteps:=999999)(disch:=first|with_reducible rfl|omega|(simp only[nA,nS,nD]<;>omega)|fail)only[c17,go_sem]
 refine W_count n (fun i s=>∃tm,s=⟨tm,h,[]⟩∧(Opd.t 1).ev tm=.int .i64 gain∧(Opd.t 7).ev tm=.int .i64 (shw set gain i)∧(Opd.t 8).ev tm=.int .i64 ((i:Int)*gain%60)∧(Opd.t 10).ev tm=.int .i64 (n:Int)∧(Opd.t 11).ev tm=.int .i64 (i:Int))
  ?_ ?_ (i:=0) (Nat.zero_le _) ⟨_,rfl,(by simp[ev_c,ev_put]<;>rfl),(by rw[show shw set gain ((0:Nat):Int)=set by simp[shw]];exact(by simp[ev_c,ev_put]<;>rfl)),(by rw[show((0:Nat):Int)*gain%60=0 by simp];exact(by simp[ev_c,ev_put]<;>rfl)),(by simp[ev_c,ev_put]<;>rfl),(by simp[ev_c,ev_put]<;>rfl)⟩
 ·rintro i s hi ⟨tm,rfl,e1,e7,e8,e10,e11⟩
  have hi':(i:Int)<(n:Int):=by omega
  obtain⟨k1,k2⟩:=shw_succ set gain i
  obtain⟨R,hR⟩:∃R,(i:Int)*gain%60=R:=⟨_,rfl⟩
  have hR0:0≤R∧R<60:=by omega
  obtain⟨S,hS⟩:∃S,shw set gain i=S:=⟨_,rfl⟩
  have hS0:=shw_bd (m:=i) r (by omega) (by omega)
  rw[hS] at hS0 e7 k1
  rw[hR] at e8 k1 k2
  have w1:wr .i64 (S+1)=S+1:=wr_in (by omega) (by omega)
  have w2:wr .i64 (R+gain)=R+gain:=wr_in (by omega) (by omega)
  simp -implicitDefEqProofs(maxSteps:=999999)(disch:=first|with_reducible rfl|omega|(simp only[nA,nS,nD]<;>omega)|fail)only[go_sem,e1,e7,e8,e10,e11,hi',w1,w2]
  refine W_count (-((R+gain)/60)).toNat (fun j s=>∃tm,s=⟨tm,h,[]⟩∧(Opd.t 1).ev tm=.int .i64 gain∧(Opd.t 7).ev tm=.int .i64 (S+1-j)∧(Opd.t 8).ev tm=.int .i64 (R+gain+60*j)∧(Opd.t 10).ev tm=.int .i64 (n:Int)∧(Opd.t 11).ev tm=.int .i64 (i:Int))
   ?_ ?_ (i:=0) (Nat.zero_le _) ⟨_,rfl,(by simp[ev_c,ev_put,e1]<;>rfl),(by rw[show S+1-((0:Nat):Int)=S+1 by simp];exact(by simp[ev_c,ev_put]<;>rfl)),(by rw[show R+gain+60*((0:Nat):Int)=R+gain by simp];exact(by simp[ev_c,ev_put]<;>rfl)),(by simp[ev_c,ev_put,e10]<;>rfl),(by simp[ev_c,ev_put,e11]<;>rfl)⟩
  ·rintro j s hj ⟨tm,rfl,e1,e7,e8,e10,e11⟩
   have hlt:R+gain+60*(j:Int)<0:=by omega
   have w3:wr .i64 (S+1-j-1)=S+1-((j+1:Nat):Int):=by rw[wr_in (by omega) (by omega)];omega
   have w4:wr .i64 (R+gain+60*(j:Int)+60)=R+gain+60*((j+1:Nat):Int):=by rw[wr_in (by omega) (by omega)];omega
   simp -implicitDefEqProofs(maxSteps:=999999)(disch:=first|with_reducible rfl|omega|(simp only[nA,nS,nD]<;>omega)|fail)only[go_sem,e1,e7,e8,e10,e11,hlt,w3,w4]
   exact⟨_,rfl,(by simp[ev_c,ev_put,e1]<;>rfl),(by simp[ev_c,ev_put]<;>rfl),(by simp[ev_c,ev_put]<;>rfl),(by simp[ev_c,ev_put,e10]<;>rfl),(by simp[ev_c,ev_put,e11]<;>rfl)⟩
  ·rintro s ⟨tm,rfl,e1,e7,e8,e10,e11⟩
   obtain⟨j,hj⟩:∃j:Nat,(-((R+gain)/60)).toNat=j:=⟨_,rfl⟩
   rw[hj] at e7 e8
   have hlt:¬R+gain+60*(j:Int)<0:=by omega
   simp -implicitDefEqProofs(maxSteps:=999999)(disch:=first|with_reducible rfl|omega|(simp only[nA,nS,nD]<;>omega)|fail)only[go_sem,e1,e7,e8,e10,e11,hlt]
   refine W_count ((R+gain)/60).toNat (fun q s=>∃tm,s=⟨tm,h,[]⟩∧(Opd.t 1).ev tm=.int .i64 gain∧(Opd.t 7).ev tm=.int .i64 (S+1-j+q)∧(Opd.t 8).ev tm=.int .i64 (R+gain+60*j-60*q)∧(Opd.t 10).ev tm=.int .i64 (n:Int)∧(Opd.t 11).ev tm=.int .i64 (i:Int))
    ?_ ?_ (i:=0) (Nat.zero_le _) ⟨_,rfl,(by simp[ev_c,ev_put,e1]<;>rfl),(by rw[show S+1-(j:Int)+((0:Nat):Int)=S+1-j by simp];exact(by simp[ev_c,ev_put,e7]<;>rfl)),(by rw[show R+gain+60*(j:Int)-60*((0:Nat):Int)=R+gain+60*j by simp];exact(by simp[ev_c,ev_put,e8]<;>rfl)),(by simp[ev_c,ev_put,e10]<;>rfl),(by simp[ev_c,ev_put,e11]<;>rfl)⟩
   ·rintro q s hq ⟨tm,rfl,e1,e7,e8,e10,e11⟩
    have hgt:59<R+gain+60*(j:Int)-60*(q:Int):=by omega
    have w3:wr .i64 (S+1-(j:Int)+q+1)=S+1-(j:Int)+((q+1:Nat):Int):=by rw[wr_in (by omega) (by omega)];omega
    have w4:wr .i64 (R+gain+60*(j:Int)-60*q-60)=R+gain+60*(j:Int)-60*((q+1:Nat):Int):=by rw[wr_in (by omega) (by omega)];omega
    simp -implicitDefEqProofs(maxSteps:=999999)(disch:=first|with_reducible rfl|omega|(simp only[nA,nS,nD]<;>omega)|fail)only[go_sem,e1,e7,e8,e10,e11,hgt,w3,w4]
    exact⟨_,rfl,(by simp[ev_c,ev_put,e1]<;>rfl),(by simp[ev_c,ev_put]<;>rfl),(by simp[ev_c,ev_put]<;>rfl),(by simp[ev_c,ev_put,e10]<;>rfl),(by simp[ev_c,ev_put,e11]<;>rfl)⟩
   ·rintro s ⟨tm,rfl,e1,e7,e8,e10,e11⟩
    obtain⟨q,hq⟩:∃q:Nat,((R+gain)/60).toNat=q:=⟨_,rfl⟩
    rw[hq] at e7 e8
    have hgt:¬59<R+gain+60*(j:Int)-60*(q:Int):=by omega
    have x1:S+1-(j:Int)+q=shw set gain ((i+1:Nat):Int):=by rw[k1];omega
    have x2:R+gain+60*(j:Int)-60*q=((i+1:Nat):Int)*gain%60:=by rw[k2];omega
    rw[x1] at e7
    rw[x2] at e8 hgt
    simp -implicitDefEqProofs(maxSteps:=999999)(disch:=first|with_reducible rfl|omega|(simp only[nA,nS,nD]<;>omega)|fail)only[go_sem,e1,e7,e8,e10,e11,hgt,wr_succ]
    exact⟨_,rfl,(by simp[ev_c,ev_put,e1]<;>rfl),(by simp[ev_c,ev_put,e7]<;>rfl),(by simp[ev_c,ev_put,e8]<;>rfl),(by simp[ev_c,ev_put,e10]<;>rfl),(by simp[ev_c,ev_put]<;>rfl)⟩
 ·rintro s ⟨tm,rfl,e1,e7,e8,e10,e11⟩
  simp -implicitDefEqProofs(maxSteps:=999999)(disch:=first|with_reducible rfl|omega|(simp only[nA,nS,nD]<;>omega)|fail)only[go_sem,e1,e7,e8,e10,e11,Int.lt_irrefl]
  exact q
theorem inside_ev {h:H}(hw:h.wf)(n lo hi:Int)(Q:V→H→Prop)(q:∀h',h.Sub h'→Q (.bool (inB n lo hi)) h'):Ev fnG fastA (.fn 16 [] []) [.int .i64 n,.agg [.int .i64 lo,.int .i64 hi]] h Q:=by
 refine Ev_body (fd:=c16) rfl rfl rfl ?_
 have s:h.Sub (h.add (.cells .rw [.int .i64 lo,.int .i64 hi])):=(by repeat(first|assumption|exact H.Sub.refl (by assumption)|refine H.Sub.add ?_ _|refine H.Sub.set ?_ (by first|omega|(simp only[H.next_add,H.next_set,H.next_del]<;>omega)) (by first|omega|(simp only[H.next_add,H.next_set,H.next_del]<;>omega)) (by assumption) _))
 by_cases h1:lo≤n
 ·have e:inB n lo hi=decide (n≤hi):=by simp[inB,h1]
  rw[e] at q
  simp -implicitDefEqProofs(maxSteps:=999999)(disch:=first|with_reducible rfl|omega|(simp only[nA,nS,nD]<;>omega)|fail)only[c16,go_sem,h1]
  exact q _ s
 ·have e:inB n lo hi=false:=by simp[inB,h1]
  rw[e] at q
  simp -implicitDefEqProofs(maxSteps:=999999)(disch:=first|with_reducible rfl|omega|(simp only[nA,nS,nD]<;>omega)|fail)only[c16,go_sem,h1]
  exact q _ s
theorem shown_in {set gain m:Int}(r:RunIn set gain)(h0:0≤m)(h1:m≤240):shownE set gain m=0∧shownR set gain m=shw set gain m:=by
 have:=rightB_iff.2 r
 have h2:=inB_iff.2 ⟨h0,h1⟩
 exact⟨by simp[shownE,this,h2],by simp[shownR,this,h2]⟩
theorem when_in {set gain s:Int}(r:RunIn set gain){m:Int}(h0:0≤m)(h1:m≤240)(h:shw set gain m=s):whenE set gain s=0∧(∀x:Int,0≤x→x≤240→(shw set gain x=s↔(whenR set gain s).1≤x∧x≤(whenR set gain s).2))∧0≤(whenR set gain s).1∧(whenR set gain s).2≤240:=by
 have hg: -60≤gain:=by have:=r.g0;omega
 have hi:=(whn_iff (s:=s) (set:=set) hg (n:=241) h0 (by omega)).1 h
 have hlt:¬(whn set gain s 241).2<(whn set gain s 241).1:=by omega
 have e1:whenE set gain s=0:=by rw[whenE,if_pos (rightB_iff.2 r),whnG,if_neg hlt]
 have e2:whenR set gain s=whn set gain s 241:=by simp[whenR,e1,whnG]
 rw[e2]
 have:=whn_rng (set:=set) (gain:=gain) (s:=s) (n:=241) (by omega)
 exact⟨e1,fun x hx0 hx1=>whn_iff hg hx0 (by omega),this.1,by omega⟩
theorem when_no {set gain s:Int}(r:RunIn set gain)(h:∀m:Int,0≤m→m≤240→shw set gain m≠s):whenE set gain s=6:=by
 have hlt:(whn set gain s 241).2<(whn set gain s 241).1:=by
  rcases lt_or_ge_Z (whn set gain s 241).2 (whn set gain s 241).1 with h1|h1
  ·exact h1
  ·obtain⟨a,b,_⟩:=whn_in h1
   have:=whn_rng h1
   exact absurd a (h _ (by omega) (by omega))
 rw[whenE,if_pos (rightB_iff.2 r),whnG,if_pos hlt]
set_option maxHeartbeats 4000000 in
theorem ClockEven_ev {h:H}(hw:h.wf){a b c:Int}(ha:0≤a∧a≤255)(hb:0≤b∧b≤255)(hc:0≤c∧c≤255):E (.fn 5 [] []) [.int .u8 a,.int .u8 b,.int .u8 c] h fun v h'=>v=.bool true:=by
 have wi:∀n:Int,0≤n∧n≤255→wr .i64 n=n:=fun n hn=>wr_in (by omega) (by omega)
 have hrem:=fun n k (hk:k≠0)=>q_ar_rem .i64 (a:=n) (b:=k) hk
 obtain⟨set,hset⟩:∃s,a.tmod 121-60=s:=⟨_,rfl⟩
 obtain⟨gain,hgain⟩:∃g,b.tmod 61-30=g:=⟨_,rfl⟩
 obtain⟨m,hm⟩:∃m,c.tmod 240=m:=⟨_,rfl⟩
 have t1:a.tmod 121=a%121:=Int.tmod_eq_emod_of_nonneg ha.1
 have t2:b.tmod 61=b%61:=Int.tmod_eq_emod_of_nonneg hb.1
 have t3:c.tmod 240=c%240:=Int.tmod_eq_emod_of_nonneg hc.1
 have r:RunIn set gain:=⟨by omega,by omega,by omega,by omega⟩
 have m0:0≤m:=by omega
 have m1:m<240:=by omega
 have w1:wr .i64 (a.tmod 121-60)=set:=by rw[wr_in (by omega) (by omega),hset]
 have w2:wr .i64 (b.tmod 61-30)=gain:=by rw[wr_in (by omega) (by omega),hgain]
 have w3:wr .i64 (m+1)=m+1:=wr_in (by omega) (by omega)
 have w4:wr .i64 (m+60)=m+60:=wr_in (by omega) (by omega)
 obtain⟨k,rfl⟩:=Int.eq_ofNat_of_zero_le m0
 obtain⟨n,hn⟩:∃n,shw set gain k=n:=⟨_,rfl⟩
 have hnb:=shw_bd r m0 (by omega)
 rw[hn] at hnb
 obtain⟨p1,p2⟩:=shown_in r m0 (by omega)
 obtain⟨p3,p4⟩:=shown_in (m:=(k:Int)+1) r (by omega) (by omega)
 have hs:=(shw_succ set gain k).1
 have hs':shw set gain ((k:Int)+1)=n+1+((k:Int)*gain%60+gain)/60:=by rw[←hn];exact hs
 have g0:=r.g0;have g1:=r.g1;have s0:=r.s0;have s1:=r.s1
 have u1:¬shw set gain ((k:Int)+1)<n:=by rw[hs'];omega
 have w5:wr .i64 (n+2)=n+2:=wr_in (by omega) (by omega)
 have u2:¬n+2<shw set gain ((k:Int)+1):=by rw[hs'];omega
 rw[hn] at p2
 obtain⟨q1,q2,q3,q4⟩:=when_in r m0 (by omega) hn
 obtain⟨lo,hlo⟩:∃x,(whenR set gain n).1=x:=⟨_,rfl⟩
 obtain⟨hi,hhi⟩:∃x,(whenR set gain n).2=x:=⟨_,rfl⟩
 rw[hlo,hhi] at q2
 rw[hlo] at q3
 rw[hhi] at q4
 have u3:inB k lo hi=true:=inB_iff.2 ((q2 k m0 (by omega)).1 hn)
 have u4:¬lo<0:=by omega
 have u5:¬240<hi:=by omega
 have z0:RunIn 0 0:=⟨by omega,by omega,by omega,by omega⟩
 obtain⟨z1,z2⟩:=shown_in (m:=k) z0 m0 (by omega)
 have z3:shw 0 0 k=k:=by simp[shw]
 rw[z3] at z2
 obtain⟨y1,y2⟩:=shw_bd (m:=240) r (by omega) (by omega)
 have w6:wr .i64 (shw set gain 240+1)=shw set gain 240+1:=wr_in (by omega) (by omega)
 have x1:whenE set gain (shw set gain 240+1)=6:=when_no r fun m h0 h1=>by
  have:=shw_mono (set:=set) (gain:=gain) (by omega) h1;omega
 refine Ev_body (fd:=c5) rfl rfl rfl ?_
 simp -implicitDefEqProofs(maxSteps:=999999)(disch:=first|with_reducible rfl|omega|(simp only[nA,nS,nD]<;>omega)|fail)only[c5,go_sem,wi a ha,wi b hb,wi c hc,hrem,w1,w2,hm]
 refine Shown_ev hw set gain k _ fun h1 s1=>?_
 simp -implicitDefEqProofs(maxSteps:=999999)(disch:=first|with_reducible rfl|omega|(simp only[nA,nS,nD]<;>omega)|fail)only[go_sem,p1,p2,w3]
 refine Shown_ev s1.wf set gain _ _ fun h2 s2=>?_
 simp -implicitDefEqProofs(maxSteps:=999999)(disch:=first|with_reducible rfl|omega|(simp only[nA,nS,nD]<;>omega)|fail)only[go_sem,p3,p4,ne_eq,not_true_eq_false]
 refine lshows_ev s2.wf r m0 (by omega) _ ?_
 simp -implicitDefEqProofs(maxSteps:=999999)(disch:=first|with_reducible rfl|omega|(simp only[nA,nS,nD]<;>omega)|fail)only[go_sem,hn,ne_eq,not_true_eq_false,u1,w5,u2]
 refine PBd_join (fun x s=>x=.nrm∧∃tm h',s=⟨tm,h',[]⟩∧h.Sub h'∧(Opd.t 7).ev tm=.int .i64 set∧(Opd.t 8).ev tm=.int .i64 gain∧(Opd.t 9).ev tm=.int .i64 (k:Int)∧(Opd.t 10).ev tm=.int .i64 n) ?_ ?_
 ·refine PBd_dec (fun hk=>?_) fun hk=>?_
  ·rw[w4] at hk
   obtain⟨l1,l2⟩:=shown_in (m:=(k:Int)+60) r (by omega) hk
   have l3:shw set gain ((k:Int)+60)=n+60+gain:=by
    rw[←hn];unfold shw
    rw[show((k:Int)+60)*gain=k*gain+gain*60 by rw[Int.add_mul,Int.mul_comm 60]]
    omega
   rw[l3] at l2
   have w7:wr .i64 (n+60)=n+60:=wr_in (by omega) (by omega)
   have w8:wr .i64 (n+60+gain)=n+60+gain:=wr_in (by omega) (by omega)
   simp -implicitDefEqProofs(maxSteps:=999999)(disch:=first|with_reducible rfl|omega|(simp only[nA,nS,nD]<;>omega)|fail)only[go_sem,w4]
   refine Shown_ev s2.wf set gain _ _ fun h3 s3=>?_
   simp -implicitDefEqProofs(maxSteps:=999999)(disch:=first|with_reducible rfl|omega|(simp only[nA,nS,nD]<;>omega)|fail)only[go_sem,l1,l2,ne_eq,not_true_eq_false,w7,w8]
   exact⟨_,_,rfl,(s1.trans s2).trans s3,(by simp[ev_c,ev_put]<;>rfl),(by simp[ev_c,ev_put]<;>rfl),(by simp[ev_c,ev_put]<;>rfl),(by simp[ev_c,ev_put,hn]<;>rfl)⟩
  ·simp -implicitDefEqProofs(maxSteps:=999999)(disch:=first|with_reducible rfl|omega|(simp only[nA,nS,nD]<;>omega)|fail)only[go_sem]
   exact⟨_,_,rfl,s1.trans s2,(by simp[ev_c,ev_put]<;>rfl),(by simp[ev_c,ev_put]<;>rfl),(by simp[ev_c,ev_put]<;>rfl),(by simp[ev_c,ev_put,hn]<;>rfl)⟩
 rintro x s ⟨rfl,tm,h3,rfl,s3,e7,e8,e9,e10⟩
 simp -implicitDefEqProofs(maxSteps:=999999)(disch:=first|with_reducible rfl|omega|(simp only[nA,nS,nD]<;>omega)|fail)only[go_sem,e7,e8,e9,e10]
 refine When_ev s3.wf set gain n _ fun h4 s4=>?_
 rw[hlo,hhi]
 have cA:(h4.add (.cells .rw [.int .i64 lo,.int .i64 hi])).cells h4.next=some [.int .i64 lo,.int .i64 hi]:=cells_add_new rfl
 have nA:(h4.add (.cells .rw [.int .i64 lo,.int .i64 hi])).next=h4.next+1:=H.next_add _ _
 have sA:=s4.trans ((H.Sub.refl s4.wf).add (.cells .rw [.int .i64 lo,.int .i64 hi]))
 obtain⟨hA,hhA⟩:∃hA,h4.add (.cells .rw [.int .i64 lo,.int .i64 hi])=hA:=⟨_,rfl⟩
 simp -implicitDefEqProofs(maxSteps:=999999)(disch:=first|with_reducible rfl|omega|(simp only[nA,nS,nD]<;>omega)|fail)only[go_sem,e7,e8,e9,e10,q1,ne_eq,not_true_eq_false]
 rw[hhA] at cA nA sA⊢
 refine inside_ev sA.wf _ _ _ _ fun h5 s5=>?_
 simp -implicitDefEqProofs(maxSteps:=999999)(disch:=first|with_reducible rfl|omega|(simp only[nA,nS,nD]<;>omega)|fail)only[go_sem,e7,e8,e9,e10,u3,s5.cells cA,u4,u5]
 refine W_count 241 (fun i s=>∃tm h',s=⟨tm,h',[]⟩∧hA.Sub h'∧(Opd.t 7).ev tm=.int .i64 set∧(Opd.t 8).ev tm=.int .i64 gain∧(Opd.t 9).ev tm=.int .i64 (k:Int)∧(Opd.t 10).ev tm=.int .i64 n∧(Opd.t 16).ev tm=.ptr h4.next 0∧(Opd.t 118).ev tm=.int .i64 (i:Int)) ?_ ?_ (i:=0) (Nat.zero_le _)
  ⟨_,_,rfl,s5,(by simp[ev_c,ev_put,e7]<;>rfl),(by simp[ev_c,ev_put,e8]<;>rfl),(by simp[ev_c,ev_put,e9]<;>rfl),(by simp[ev_c,ev_put,e10]<;>rfl),(by simp[ev_c,ev_put]<;>rfl),(by simp[ev_c,ev_put]<;>rfl)⟩
 ·rintro i s hi' ⟨tm,h',rfl,s6,e7,e8,e9,e10,e16,e118⟩
  have hi2:(i:Int)<241:=by omega
  obtain⟨v1,v2⟩:=shown_in (m:=(i:Int)) r (by omega) (by omega)
  simp -implicitDefEqProofs(maxSteps:=999999)(disch:=first|with_reducible rfl|omega|(simp only[nA,nS,nD]<;>omega)|fail)only[go_sem,e7,e8,e9,e10,e16,e118,hi2]
  refine Shown_ev s6.wf set gain _ _ fun h7 s7=>?_
  simp -implicitDefEqProofs(maxSteps:=999999)(disch:=first|with_reducible rfl|omega|(simp only[nA,nS,nD]<;>omega)|fail)only[go_sem,e7,e8,e9,e10,e16,e118,v1,v2,ne_eq,not_true_eq_false,(s6.trans s7).cells cA]
  refine inside_ev s7.wf _ _ _ _ fun h8 s8=>?_
  have hq:=q2 i (by omega) (by omega)
  have hin:inB (i:Int) lo hi=decide (shw set gain i=n):=by
   rw[Bool.eq_iff_iff,inB_iff,decide_eq_true_eq];exact hq.symm
  have hbb:(!(decide (shw set gain (i:Int)=n)==inB (i:Int) lo hi))=false:=by rw[hin];simp
  simp -implicitDefEqProofs(maxSteps:=999999)(disch:=first|with_reducible rfl|omega|(simp only[nA,nS,nD]<;>omega)|fail)only[go_sem,e7,e8,e9,e10,e16,e118,hbb,wr_succ]
  exact⟨_,_,rfl,(s6.trans s7).trans s8,(by simp[ev_c,ev_put,e7]<;>rfl),(by simp[ev_c,ev_put,e8]<;>rfl),(by simp[ev_c,ev_put,e9]<;>rfl),(by simp[ev_c,ev_put,e10]<;>rfl),(by simp[ev_c,ev_put,e16]<;>rfl),(by simp[ev_c,ev_put]<;>rfl)⟩
 ·rintro s ⟨tm,h',rfl,s6,e7,e8,e9,e10,e16,e118⟩
  have hi2:¬(((241:Nat):Int)<241):=by omega
  simp -implicitDefEqProofs(maxSteps:=999999)(disch:=first|with_reducible rfl|omega|(simp only[nA,nS,nD]<;>omega)|fail)only[go_sem,e7,e8,e9,e10,e16,e118,hi2]
  refine Shown_ev s6.wf 0 0 _ _ fun h7 s7=>?_
  simp -implicitDefEqProofs(maxSteps:=999999)(disch:=first|with_reducible rfl|omega|(simp only[nA,nS,nD]<;>omega)|fail)only[go_sem,e7,e8,e9,e10,e16,e118,z1,z2,ne_eq,not_true_eq_false]
  refine lshows_ev s7.wf r (by omega) (by omega) _ ?_
  simp -implicitDefEqProofs(maxSteps:=999999)(disch:=first|with_reducible rfl|omega|(simp only[nA,nS,nD]<;>omega)|fail)only[go_sem,e7,e8,w6]
  refine When_ev s7.wf set gain _ _ fun h8 s8=>?_
  simp -implicitDefEqProofs(maxSteps:=999999)(disch:=first|with_reducible rfl|omega|(simp only[nA,nS,nD]<;>omega)|fail)only[go_sem,x1,awake_eq]
end Go.Ab.Try
