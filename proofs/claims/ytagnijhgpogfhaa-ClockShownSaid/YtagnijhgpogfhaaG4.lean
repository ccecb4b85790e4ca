/- The law ClockShown. Contracts: numbers in bounds, Shown, When, and the reference's. -/
import Derived.Test.YtagnijhgpogfhaaG2
set_option linter.unusedSimpArgs false
set_option linter.unusedVariables false
namespace Go.Ab.Try
open Go.Proofs
section
variable {Fn:Nat→Option FD} {fast:Nat→Option (List V→H→Option (V × H))} {N fn:Nat} {ro:Option Nat}
end
abbrev E (fv:V) (args:List V) (h:H) (Q:V→H→Prop):Prop:=Ev fnG fastA fv args h Q
theorem awake_eq (h:H)(Q:V→H→Prop):Ev fnG fastA (.fn 11 [] []) [] h Q=Q (.bool true) h:=Ev.det ⟨1,.bool true,h,rfl,rfl,rfl⟩ Q
def inB (n lo hi:Int):Bool:=decide (lo≤n)&&decide (n≤hi)
theorem inB_iff {n lo hi:Int}:inB n lo hi=true↔lo≤n∧n≤hi:=by simp[inB]
theorem in_eq (h:H)(n lo hi:Int)(Q:V→H→Prop):Ev fnG fastA (.fn 21 [] []) [.int .i64 n,.int .i64 lo,.int .i64 hi] h Q=Q (.bool (inB n lo hi)) h:=by
 refine Ev.det ?_ Q
 refine Ev_body (fd:=c21) rfl rfl rfl ?_
 by_cases h1:lo≤n
 ·have e:inB n lo hi=decide (n≤hi):=by simp[inB,h1]
  rw[e]
  simp -implicitDefEqProofs(maxSteps:=999999)(disch:=first|with_reducible rfl|omega|(simp only[nA,nS,nD]<;>omega)|fail)only[c21,go_sem,h1]
 ·have e:inB n lo hi=false:=by simp[inB,h1]
  rw[e]
  simp -implicitDefEqProofs(maxSteps:=999999)(disch:=first|with_reducible rfl|omega|(simp only[nA,nS,nD]<;>omega)|fail)only[c21,go_sem,h1]
def rightB (set gain:Int):Bool:=inB set (-60) 60&&inB gain (-30) 30
theorem rightB_iff {set gain:Int}:rightB set gain=true↔RunIn set gain:=by
 rw[rightB,Bool.and_eq_true,inB_iff,inB_iff]
 exact⟨fun⟨⟨a,b⟩,c,d⟩=>⟨a,b,c,d⟩,fun⟨a,b,c,d⟩=>⟨⟨a,b⟩,c,d⟩⟩
theorem right_ev {h:H}(hw:h.wf)(set gain:Int)(Q:V→H→Prop)(q:∀h',h.Sub h'→Q (.bool (rightB set gain)) h'):Ev fnG fastA (.fn 20 [] []) [.agg [.int .i64 set,.int .i64 gain]] h Q:=by
 refine Ev_body (fd:=c20) rfl rfl rfl ?_
 have s:h.Sub (h.add (.cells .rw [.int .i64 set,.int .i64 gain])):=(by repeat(first|assumption|exact H.Sub.refl (by assumption)|refine H.Sub.add ?_ _|refine H.Sub.set ?_ (by first|omega|(simp only[H.next_add,H.next_set,H.next_del]<;>omega)) (by first|omega|(simp only[H.next_add,H.next_set,H.next_del]<;>omega)) (by assumption) _))
 cases h1:inB set (-60) 60 with
 |true=>
  have e:rightB set gain=inB gain (-30) 30:=by rw[rightB,h1,Bool.true_and]
  rw[e] at q
  simp -implicitDefEqProofs(maxSteps:=999999)(disch:=first|with_reducible rfl|omega|(simp only[nA,nS,nD]<;>omega)|fail)only[c20,go_sem,in_eq,h1]
  exact q _ s
 |false=>
  have e:rightB set gain=false:=by rw[rightB,h1,Bool.false_and]
  rw[e] at q
  simp -implicitDefEqProofs(maxSteps:=999999)(disch:=first|with_reducible rfl|omega|(simp only[nA,nS,nD]<;>omega)|fail)only[c20,go_sem,in_eq,h1]
  exact q _ s
def shownE (set gain m:Int):Int:=if rightB set gain=true∧inB m 0 240=true then 0 else 3
def shownR (set gain m:Int):Int:=if rightB set gain=true∧inB m 0 240=true then shw set gain m else 0
theorem Shown_ev {h:H}(hw:h.wf)(set gain m:Int)(Q:V→H→Prop)(q:∀h',h.Sub h'→Q (.tup [.int .i64 (shownR set gain m),.int .i64 (shownE set gain m)]) h'):
  Ev fnG fastA (.fn 9 [] []) [.int .i64 set,.int .i64 gain,.int .i64 m] h Q:=by
 refine Ev_body (fd:=c9) rfl rfl rfl ?_
 have s:h.Sub (h.add (.cells .rw [.int .i64 set,.int .i64 gain])):=(by repeat(first|assumption|exact H.Sub.refl (by assumption)|refine H.Sub.add ?_ _|refine H.Sub.set ?_ (by first|omega|(simp only[H.next_add,H.next_set,H.next_del]<;>omega)) (by first|omega|(simp only[H.next_add,H.next_set,H.next_del]<;>omega)) (by assumption) _))
 have hc:(h.add (.cells .rw [.int .i64 set,.int .i64 gain])).cells h.next=some [.int .i64 set,.int .i64 gain]:=cells_add_new rfl
 simp -implicitDefEqProofs(maxSteps:=999999)(disch:=first|with_reducible rfl|omega|(simp only[nA,nS,nD]<;>omega)|fail)only[c9,go_sem]
 refine right_ev s.wf set gain _ fun h1 s1=>?_
 have hc1:=s1.cells hc
 cases h2:rightB set gain with
 |false=>
  have e1:shownE set gain m=3:=by simp[shownE,h2]
  have e2:shownR set gain m=0:=by simp[shownR,h2]
  simp -implicitDefEqProofs(maxSteps:=999999)(disch:=first|with_reducible rfl|omega|(simp only[nA,nS,nD]<;>omega)|fail)only[go_sem,in_eq]
  have q':=q _ (s.trans s1)
  rw[e1,e2] at q';exact q'
 |true=>
  cases h3:inB m 0 240 with
  |false=>
   have e1:shownE set gain m=3:=by simp[shownE,h3]
   have e2:shownR set gain m=0:=by simp[shownR,h3]
   simp -implicitDefEqProofs(maxSteps:=999999)(disch:=first|with_reducible rfl|omega|(simp only[nA,nS,nD]<;>omega)|fail)only[go_sem,in_eq,h3]
   have q':=q _ (s.trans s1)
   rw[e1,e2] at q';exact q'
  |true=>
   have e1:shownE set gain m=0:=by simp[shownE,h2,h3]
   have e2:shownR set gain m=shw set gain m:=by simp[shownR,h2,h3]
   have hm:=inB_iff.1 h3
   simp -implicitDefEqProofs(maxSteps:=999999)(disch:=first|with_reducible rfl|omega|(simp only[nA,nS,nD]<;>omega)|fail)only[go_sem,in_eq,h3,hc1]
   refine shows_ev rfl s1.wf (rightB_iff.1 h2) hm.1 hm.2 _ fun h4 s4=>?_
   simp -implicitDefEqProofs(maxSteps:=999999)(disch:=first|with_reducible rfl|omega|(simp only[nA,nS,nD]<;>omega)|fail)only[go_sem]
   have q':=q _ ((s.trans s1).trans s4)
   rw[e1,e2] at q';exact q'
def whnG (set gain s:Int):Int × Int:=whn set gain s 241
def whenE (set gain s:Int):Int:=if rightB set gain=true then(if(whnG set gain s).2<(whnG set gain s).1 then 6 else 0) else 3
def whenR (set gain s:Int):Int × Int:=if whenE set gain s=0 then whnG set gain s else(0,0)
set_option maxHeartbeats 1000000 in
theorem When_ev {h:H}(hw:h.wf)(set gain s:Int)(Q:V→H→Prop)(q:∀h',h.Sub h'→Q (.tup [.agg [.int .i64 (whenR set gain s).1,.int .i64 (whenR set gain s).2],.int .i64 (whenE set gain s)]) h'):
  Ev fnG fastA (.fn 10 [] []) [.int .i64 set,.int .i64 gain,.int .i64 s] h Q:=by
 refine Ev_body (fd:=c10) rfl rfl rfl ?_
 have s0:h.Sub ((h.add (.cells .rw [.int .i64 0,.int .i64 0])).add (.cells .rw [.int .i64 set,.int .i64 gain])):=(by repeat(first|assumption|exact H.Sub.refl (by assumption)|refine H.Sub.add ?_ _|refine H.Sub.set ?_ (by first|omega|(simp only[H.next_add,H.next_set,H.next_del]<;>omega)) (by first|omega|(simp only[H.next_add,H.next_set,H.next_del]<;>omega)) (by assumption) _))
 have hc:((h.add (.cells .rw [.int .i64 0,.int .i64 0])).add (.cells .rw [.int .i64 set,.int .i64 gain])).cells (h.next+1)=some [.int .i64 set,.int .i64 gain]:=by simp -implicitDefEqProofs(maxSteps:=999999)(disch:=first|with_reducible rfl|omega|(simp only[nA,nS,nD]<;>omega)|fail)only[go_sem]
 have hr:((h.add (.cells .rw [.int .i64 0,.int .i64 0])).add (.cells .rw [.int .i64 set,.int .i64 gain])).get h.next=some (.cells .rw [.int .i64 0,.int .i64 0]):=by simp -implicitDefEqProofs(maxSteps:=999999)(disch:=first|with_reducible rfl|omega|(simp only[nA,nS,nD]<;>omega)|fail)only[go_sem]
 have n0:((h.add (.cells .rw [.int .i64 0,.int .i64 0])).add (.cells .rw [.int .i64 set,.int .i64 gain])).next=h.next+2:=by simp only[H.next_add]
 simp -implicitDefEqProofs(maxSteps:=999999)(disch:=first|with_reducible rfl|omega|(simp only[nA,nS,nD]<;>omega)|fail)only[c10,go_sem]
 generalize((h.add (.cells .rw [.int .i64 0,.int .i64 0])).add (.cells .rw [.int .i64 set,.int .i64 gain]))=h0 at s0 hc hr n0⊢
 refine right_ev s0.wf set gain _ fun h1 s1=>?_
 have l1:=s1.next
 cases h2:rightB set gain with
 |false=>
  have e1:whenE set gain s=3:=by simp[whenE,h2]
  have e2:whenR set gain s=(0,0):=by simp[whenR,e1]
  simp -implicitDefEqProofs(maxSteps:=999999)(disch:=first|with_reducible rfl|omega|(simp only[nA,nS,nD]<;>omega)|fail)only[go_sem,s1.get hr]
  have q':=q _ ((s0.trans s1).set (b:=h.next) (by omega) (by omega) hw (.cells .rw [.int .i64 0,.int .i64 0]))
  rw[e1,e2] at q';exact q'
 |true=>
  simp -implicitDefEqProofs(maxSteps:=999999)(disch:=first|with_reducible rfl|omega|(simp only[nA,nS,nD]<;>omega)|fail)only[go_sem,s1.cells hc]
  refine when_ev (n:=240) rfl rfl s1.wf (rightB_iff.1 h2) s (Nat.le_refl _) _ fun h3 s3=>?_
  have s13:=s1.trans s3
  have l3:=s3.next
  have sA:=s3.trans ((H.Sub.refl s3.wf).add (.cells .rw [.int .i64 (whn set gain s (240+1)).1,.int .i64 (whn set gain s (240+1)).2]))
  have e0:whnG set gain s=whn set gain s (240+1):=rfl
  by_cases h5:(whn set gain s (240+1)).2<(whn set gain s (240+1)).1
  ·have e1:whenE set gain s=6:=by simp only[whenE,h2,e0,if_true,if_pos h5]
   have e2:whenR set gain s=(0,0):=by simp[whenR,e1]
   simp -implicitDefEqProofs(maxSteps:=999999)(disch:=first|with_reducible rfl|omega|(simp only[nA,nS,nD]<;>omega)|fail)only[go_sem,h5,s13.get hr]
   have q':=q _ (((s0.trans s1).trans sA).set (b:=h.next) (by omega) (by rw[H.next_add];omega) hw (.cells .rw [.int .i64 0,.int .i64 0]))
   rw[e1,e2] at q';exact q'
  ·have e1:whenE set gain s=0:=by simp only[whenE,h2,e0,if_true,if_neg h5]
   have e2:whenR set gain s=whn set gain s (240+1):=by simp only[whenR,e1,if_true,e0]
   simp -implicitDefEqProofs(maxSteps:=999999)(disch:=first|with_reducible rfl|omega|(simp only[nA,nS,nD]<;>omega)|fail)only[go_sem,h5,s13.get hr]
   have q':=q _ (((s0.trans s1).trans sA).set (b:=h.next) (by omega) (by rw[H.next_add];omega) hw (.cells .rw [.int .i64 (whn set gain s (240+1)).1,.int .i64 (whn set gain s (240+1)).2]))
   rw[e1,e2] at q';exact q'
theorem refShown_ev {h:H}(hw:h.wf){set gain m:Int}(r:RunIn set gain)(h0:0≤m)(h1:m≤240)(Q:V→H→Prop)(q:Q (.int .i64 (shw set gain m)) h):
  Ev fnG fastA (.fn 7 [] []) [.int .i64 set,.int .i64 gain,.int .i64 m] h Q:=by
 have hb:=mul_bd h0 h1 r.g0 r.g1
 have a0:=r.s0;have a1:=r.s1
 have w1:wr .i64 (m*gain)=m*gain:=wr_in (by omega) (by omega)
 refine Ev_body (fd:=c7) rfl rfl rfl ?_
 simp -implicitDefEqProofs(maxSteps:=999999)(disch:=first|with_reducible rfl|omega|(simp only[nA,nS,nD]<;>omega)|fail)only[c7,go_sem]
 have hk:∃n:Nat,(n:Int)=m*gain/60+121:=⟨(m*gain/60+121).toNat,by omega⟩
 obtain⟨n,hn⟩:=hk
 refine W_count n (fun i s=>∃tm,s=⟨tm,h,[]⟩∧(Opd.t 0).ev tm=.int .i64 set∧(Opd.t 1).ev tm=.int .i64 gain∧(Opd.t 2).ev tm=.int .i64 m∧(Opd.t 7).ev tm=.int .i64 ((i:Int)-121)) ?_ ?_ (i:=0) (Nat.zero_le _)
  ⟨_,rfl,(by simp[ev_c,ev_put]<;>rfl),(by simp[ev_c,ev_put]<;>rfl),(by simp[ev_c,ev_put]<;>rfl),(by simp[ev_c,ev_put]<;>rfl)⟩
 ·rintro i s hi ⟨tm,rfl,e0,e1,e2,e7⟩
  have w2:wr .i64 ((i:Int)-121+1)=(i:Int)-121+1:=wr_in (by omega) (by omega)
  have w3:wr .i64 (60*((i:Int)-121+1))=60*((i:Int)-121+1):=wr_in (by omega) (by omega)
  have hle:60*((i:Int)-121+1)≤m*gain:=by omega
  simp -implicitDefEqProofs(maxSteps:=999999)(disch:=first|with_reducible rfl|omega|(simp only[nA,nS,nD]<;>omega)|fail)only[go_sem,e0,e1,e2,e7,w1,w2,w3,hle]
  exact⟨_,rfl,(by simp[ev_c,ev_put,e0]<;>rfl),(by simp[ev_c,ev_put,e1]<;>rfl),(by simp[ev_c,ev_put,e2]<;>rfl),(by rw[show((i+1:Nat):Int)-121=(i:Int)-121+1 by omega];exact(by simp[ev_c,ev_put]<;>rfl))⟩
 ·rintro s ⟨tm,rfl,e0,e1,e2,e7⟩
  have w2:wr .i64 ((n:Int)-121+1)=(n:Int)-121+1:=wr_in (by omega) (by omega)
  have w3:wr .i64 (60*((n:Int)-121+1))=60*((n:Int)-121+1):=wr_in (by omega) (by omega)
  have hle:¬60*((n:Int)-121+1)≤m*gain:=by omega
  have w4:wr .i64 (set+m)=set+m:=wr_in (by omega) (by omega)
  have w5:wr .i64 (set+m+((n:Int)-121))=set+m+((n:Int)-121):=wr_in (by omega) (by omega)
  have e:set+m+((n:Int)-121)=shw set gain m:=by unfold shw;omega
  rw[e] at w5
  simp -implicitDefEqProofs(maxSteps:=999999)(disch:=first|with_reducible rfl|omega|(simp only[nA,nS,nD]<;>omega)|fail)only[go_sem,e0,e1,e2,e7,w1,w2,w3,hle,w4,w5,e]
  exact q
def whf (set gain s:Int)(n:Nat):Int × Int × Bool:=if(whn set gain s n).2<(whn set gain s n).1 then(0,0,false) else((whn set gain s n).1,(whn set gain s n).2,true)
theorem whf_0 (set gain s:Int):whf set gain s 0=(0,0,false):=by simp[whf,whn]
theorem whf_miss {set gain s:Int}{m:Nat}(h:shw set gain m≠s):whf set gain s (m+1)=whf set gain s m:=by simp only[whf,whn,if_neg h]
theorem whf_first {set gain s:Int}{m:Nat}(h:shw set gain m=s)(h2:(whf set gain s m).2.2=false):whf set gain s (m+1)=((m:Int),(m:Int),true):=by
 have h3:(whn set gain s m).2<(whn set gain s m).1:=by
  unfold whf at h2
  split at h2
  ·assumption
  ·cases h2
 simp only[whf,whn,if_pos h,if_pos h3,Int.lt_irrefl,if_false]
theorem whf_next {set gain s:Int}{m:Nat}(h:shw set gain m=s)(h2:(whf set gain s m).2.2=true):whf set gain s (m+1)=((whf set gain s m).1,(m:Int),true):=by
 have h3:¬(whn set gain s m).2<(whn set gain s m).1:=by
  intro h3
  simp only[whf,if_pos h3] at h2
  cases h2
 have h4:=whn_le (set:=set) (gain:=gain) (s:=s) (n:=m) (by omega)
 simp only[whf,whn,if_pos h,if_neg h3]
 rw[if_neg (by omega)]
set_option maxHeartbeats 1000000 in
theorem refWhen_ev {h:H}(hw:h.wf){set gain:Int}(r:RunIn set gain)(s:Int)(Q:V→H→Prop)(q:∀h',h.Sub h'→Q (.tup [.agg [.int .i64 (whf set gain s 241).1,.int .i64 (whf set gain s 241).2.1],.bool (whf set gain s 241).2.2]) h'):
  Ev fnG fastA (.fn 8 [] []) [.int .i64 set,.int .i64 gain,.int .i64 s] h Q:=by
 refine Ev_body (fd:=c8) rfl rfl rfl ?_
 simp -implicitDefEqProofs(maxSteps:=999999)(disch:=first|with_reducible rfl|omega|(simp only[nA,nS,nD]<;>omega)|fail)only[c8,go_sem]
 refine W_count 241 (fun m st=>∃tm h',st=⟨tm,h',[]⟩∧h.Sub h'∧h.next+1<h'.next∧h'.get h.next=some (.cells .rw [.int .i64 0,.int .i64 0])∧h'.get (h.next+1)=some (.cells .rw [.int .i64 (whf set gain s m).1,.int .i64 (whf set gain s m).2.1])∧
   (Opd.t 0).ev tm=.int .i64 set∧(Opd.t 1).ev tm=.int .i64 gain∧(Opd.t 2).ev tm=.int .i64 s∧(Opd.t 6).ev tm=.ptr h.next 0∧(Opd.t 8).ev tm=.ptr (h.next+1) 0∧(Opd.t 9).ev tm=.bool (whf set gain s m).2.2∧(Opd.t 10).ev tm=.int .i64 (m:Int))
  ?_ ?_ (i:=0) (Nat.zero_le _) ⟨_,_,rfl,(by repeat(first|assumption|exact H.Sub.refl (by assumption)|refine H.Sub.add ?_ _|refine H.Sub.set ?_ (by first|omega|(simp only[H.next_add,H.next_set,H.next_del]<;>omega)) (by first|omega|(simp only[H.next_add,H.next_set,H.next_del]<;>omega)) (by assumption) _)),by simp only[H.next_add];omega,by simp -implicitDefEqProofs(maxSteps:=999999)(disch:=first|with_reducible rfl|omega|(simp only[nA,nS,nD]<;>omega)|fail)only[go_sem],by simp -implicitDefEqProofs(maxSteps:=999999)(disch:=first|with_reducible rfl|omega|(simp only[nA,nS,nD]<;>omega)|fail)only[go_sem,whf_0],(by simp[ev_c,ev_put]<;>rfl),(by simp[ev_c,ev_put]<;>rfl),(by simp[ev_c,ev_put]<;>rfl),(by simp[ev_c,ev_put]<;>rfl),(by simp[ev_c,ev_put]<;>rfl),(by simp[ev_c,ev_put,whf_0]<;>rfl),(by simp[ev_c,ev_put]<;>rfl)⟩
 ·rintro m st hm ⟨tm,h',rfl,hs,hx,ga,gb,e0,e1,e2,e6,e8,e9,e10⟩
  have hm':(m:Int)≤240:=by omega
  simp -implicitDefEqProofs(maxSteps:=999999)(disch:=first|with_reducible rfl|omega|(simp only[nA,nS,nD]<;>omega)|fail)only[go_sem,e0,e1,e2,e6,e8,e9,e10,hm']
  refine refShown_ev hs.wf r (by omega) hm' _ ?_
  by_cases h1:shw set gain m=s
  ·cases hf:(whf set gain s m).2.2 with
   |false=>
    have ew:=whf_first h1 hf
    rw[hf] at e9
    have w1:wr .i64 ((m:Int)+1)=((m+1:Nat):Int):=wr_succ (by omega)
    simp -implicitDefEqProofs(maxSteps:=999999)(disch:=first|with_reducible rfl|omega|(simp only[nA,nS,nD]<;>omega)|fail)only[go_sem,e0,e1,e2,e6,e8,e9,e10,h1,ne_eq,not_true_eq_false,gb,w1]
    exact⟨_,_,rfl,hs.set (by omega) (by omega) hw _,by rw[H.next_set];omega,by rw[get_set_other (by omega)];exact ga,by rw[get_set_same rfl,ew],(by simp[ev_c,ev_put,e0]<;>rfl),(by simp[ev_c,ev_put,e1]<;>rfl),(by simp[ev_c,ev_put,e2]<;>rfl),(by simp[ev_c,ev_put,e6]<;>rfl),(by simp[ev_c,ev_put,e8]<;>rfl),(by simp[ev_c,ev_put,ew]<;>rfl),(by simp[ev_c,ev_put]<;>rfl)⟩
   |true=>
    have ew:=whf_next h1 hf
    rw[hf] at e9
    have w1:wr .i64 ((m:Int)+1)=((m+1:Nat):Int):=wr_succ (by omega)
    simp -implicitDefEqProofs(maxSteps:=999999)(disch:=first|with_reducible rfl|omega|(simp only[nA,nS,nD]<;>omega)|fail)only[go_sem,e0,e1,e2,e6,e8,e9,e10,h1,ne_eq,not_true_eq_false,gb,w1]
    exact⟨_,_,rfl,hs.set (by omega) (by omega) hw _,by rw[H.next_set];omega,by rw[get_set_other (by omega)];exact ga,by rw[get_set_same rfl,ew],(by simp[ev_c,ev_put,e0]<;>rfl),(by simp[ev_c,ev_put,e1]<;>rfl),(by simp[ev_c,ev_put,e2]<;>rfl),(by simp[ev_c,ev_put,e6]<;>rfl),(by simp[ev_c,ev_put,e8]<;>rfl),(by simp[ev_c,ev_put,ew]<;>rfl),(by simp[ev_c,ev_put]<;>rfl)⟩
  ·have ew:=whf_miss h1
   have w1:wr .i64 ((m:Int)+1)=((m+1:Nat):Int):=wr_succ (by omega)
   simp -implicitDefEqProofs(maxSteps:=999999)(disch:=first|with_reducible rfl|omega|(simp only[nA,nS,nD]<;>omega)|fail)only[go_sem,e0,e1,e2,e6,e8,e9,e10,h1,ne_eq,not_false_eq_true,w1]
   exact⟨_,_,rfl,hs,hx,ga,by rw[ew];exact gb,(by simp[ev_c,ev_put,e0]<;>rfl),(by simp[ev_c,ev_put,e1]<;>rfl),(by simp[ev_c,ev_put,e2]<;>rfl),(by simp[ev_c,ev_put,e6]<;>rfl),(by simp[ev_c,ev_put,e8]<;>rfl),(by rw[ew];exact(by simp[ev_c,ev_put,e9]<;>rfl)),(by simp[ev_c,ev_put]<;>rfl)⟩
 ·rintro st ⟨tm,h',rfl,hs,hx,ga,gb,e0,e1,e2,e6,e8,e9,e10⟩
  have hm':¬(((241:Nat):Int)≤240):=by omega
  simp -implicitDefEqProofs(maxSteps:=999999)(disch:=first|with_reducible rfl|omega|(simp only[nA,nS,nD]<;>omega)|fail)only[go_sem,e0,e1,e2,e6,e8,e9,e10,hm',cells_of gb,ga]
  exact q _ (hs.set (by omega) (by omega) hw _)
end Go.Ab.Try
namespace Go.Ab.Try
open Go.Proofs
theorem when_ref {set gain:Int}(h:rightB set gain=true)(s:Int):whenE set gain s=(if(whf set gain s 241).2.2=true then 0 else 6)∧(whenR set gain s).1=(whf set gain s 241).1∧(whenR set gain s).2=(whf set gain s 241).2.1:=by
 by_cases h1:(whn set gain s 241).2<(whn set gain s 241).1
 ·have e1:whenE set gain s=6:=by rw[whenE,if_pos h,whnG,if_pos h1]
  have e2:whf set gain s 241=(0,0,false):=by simp only[whf,if_pos h1]
  rw[e1,e2];simp[whenR,e1]
 ·have e1:whenE set gain s=0:=by rw[whenE,if_pos h,whnG,if_neg h1]
  have e2:whf set gain s 241=((whn set gain s 241).1,(whn set gain s 241).2,true):=by simp only[whf,if_neg h1]
  rw[e1,e2];simp[whenR,e1,whnG]
theorem when_bad {set gain:Int}(h:rightB set gain=false)(s:Int):whenE set gain s=3∧whenR set gain s=(0,0):=by
 have e:whenE set gain s=3:=by simp[whenE,h]
 exact⟨e,by simp[whenR,e]⟩
theorem right_no {set gain:Int}(h:rightB set gain=false):(¬ -60≤set)∨(-60≤set∧¬set≤60)∨(-60≤set∧set≤60∧¬ -30≤gain)∨(-60≤set∧set≤60∧ -30≤gain∧¬gain≤30):=by
 have:¬RunIn set gain:=fun r=>by rw[rightB_iff.2 r] at h;cases h
 by_cases h1: -60≤set
 ·by_cases h2:set≤60
  ·by_cases h3: -30≤gain
   ·by_cases h4:gain≤30
    ·exact absurd ⟨h1,h2,h3,h4⟩ this
    ·exact .inr (.inr (.inr ⟨h1,h2,h3,h4⟩))
   ·exact .inr (.inr (.inl ⟨h1,h2,h3⟩))
  ·exact .inr (.inl ⟨h1,h2⟩)
 ·exact .inl h1
theorem inB_no {n lo hi:Int}(h:inB n lo hi=false):(¬lo≤n)∨(lo≤n∧¬n≤hi):=by
 have:¬(lo≤n∧n≤hi):=fun r=>by rw[inB_iff.2 r] at h;cases h
 by_cases h1:lo≤n
 ·exact .inr ⟨h1,fun h2=>this ⟨h1,h2⟩⟩
 ·exact .inl h1
theorem feq2 (a b c d:Int)(h1:a=c)(h2:b=d):q_feq false 2 (.agg [.int .i64 a,.int .i64 b]) (.agg [.int .i64 c,.int .i64 d])=some (.bool true):=by
 subst h1;subst h2
 have:=q_feq_map (n:=2) [a,b] [a,b] rfl rfl false
 simpa[iv,ngB] using this
set_option maxHeartbeats 4000000 in
theorem ClockShown_ev {h:H}(hw:h.wf)(set gain m s:Int):E (.fn 3 [] []) [.int .i64 set,.int .i64 gain,.int .i64 m,.int .i64 s] h fun v h'=>v=.bool true:=by
 refine Ev_body (fd:=c3) rfl rfl rfl ?_
 have sA:h.Sub (h.add (.cells .rw [.int .i64 0,.int .i64 0])):=(H.Sub.refl hw).add _
 have gA:(h.add (.cells .rw [.int .i64 0,.int .i64 0])).get h.next=some (.cells .rw [.int .i64 0,.int .i64 0]):=get_add_new rfl
 have nA:(h.add (.cells .rw [.int .i64 0,.int .i64 0])).next=h.next+1:=H.next_add _ _
 cases hr:rightB set gain with
 |false=>
  obtain⟨b1,b2⟩:=when_bad hr s
  have c1:shownE set gain m=3:=by simp[shownE,hr]
  have c2:shownR set gain m=0:=by simp[shownR,hr]
  have hf:=feq2 (whenR set gain s).1 (whenR set gain s).2 0 0 (by rw[b2]) (by rw[b2])
  rcases right_no hr with hA|hA|hA|hA
  all_goals
   simp -implicitDefEqProofs(maxSteps:=999999)(disch:=first|with_reducible rfl|omega|(simp only[nA,nS,nD]<;>omega)|fail)only[c3,go_sem,hA]
   refine Shown_ev sA.wf set gain m _ fun h1 s1=>?_
   have g1:=s1.get gA
   simp -implicitDefEqProofs(maxSteps:=999999)(disch:=first|with_reducible rfl|omega|(simp only[nA,nS,nD]<;>omega)|fail)only[go_sem]
   refine When_ev s1.wf set gain s _ fun h2 s2=>?_
   have g2:=s2.get g1
   have l1:=s1.next
   have l2:=s2.next
   simp -implicitDefEqProofs(maxSteps:=999999)(disch:=first|with_reducible rfl|omega|(simp only[nA,nS,nD]<;>omega)|fail)only[go_sem,c1,c2,b1,hf,cells_of g2,awake_eq]
 |true=>
  obtain⟨b1,b2,b3⟩:=when_ref hr s
  have r:=rightB_iff.1 hr
  have hA: -60≤set∧set≤60∧ -30≤gain∧gain≤30:=⟨r.s0,r.s1,r.g0,r.g1⟩
  have hf:=feq2 (whenR set gain s).1 (whenR set gain s).2 _ _ b2 b3
  have hm:(∃e w:Int,shownE set gain m=e∧shownR set gain m=w∧((¬0≤m∧e=3∧w=0)∨(0≤m∧¬m≤240∧e=3∧w=0)∨(0≤m∧m≤240∧e=0∧w=shw set gain m))):=by
   refine⟨_,_,rfl,rfl,?_⟩
   cases hi:inB m 0 240 with
   |false=>
    have c1:shownE set gain m=3:=by simp[shownE,hi]
    have c2:shownR set gain m=0:=by simp[shownR,hi]
    rcases inB_no hi with h1|⟨h1,h2⟩
    ·exact .inl ⟨h1,c1,c2⟩
    ·exact .inr (.inl ⟨h1,h2,c1,c2⟩)
   |true=>
    have h1:=inB_iff.1 hi
    exact .inr (.inr ⟨h1.1,h1.2,by simp[shownE,hi,hr],by simp[shownR,hi,hr]⟩)
  obtain⟨e,w,c1,c2,hm|hm|hm⟩:=hm
  case inl|inr.inl=>
   simp -implicitDefEqProofs(maxSteps:=999999)(disch:=first|with_reducible rfl|omega|(simp only[nA,nS,nD]<;>omega)|fail)only[c3,go_sem,hA,hm]
   refine refWhen_ev sA.wf r s _ fun h0 s0=>?_
   have g0:=s0.get gA
   have l0:=s0.next
   have sB:=(sA.trans s0).set (b:=h.next) (by omega) (by omega) hw (.cells .rw [.int .i64 (whf set gain s 241).1,.int .i64 (whf set gain s 241).2.1])
   have gB:(h0.set h.next (.cells .rw [.int .i64 (whf set gain s 241).1,.int .i64 (whf set gain s 241).2.1])).get h.next=some (.cells .rw [.int .i64 (whf set gain s 241).1,.int .i64 (whf set gain s 241).2.1]):=get_set_same rfl
   cases hfl:(whf set gain s 241).2.2
   all_goals
    rw[hfl] at b1
    simp -implicitDefEqProofs(maxSteps:=999999)(disch:=first|with_reducible rfl|omega|(simp only[nA,nS,nD]<;>omega)|fail)only[go_sem,g0]
    refine Shown_ev sB.wf set gain m _ fun h1 s1=>?_
    have g1:=s1.get gB
    simp -implicitDefEqProofs(maxSteps:=999999)(disch:=first|with_reducible rfl|omega|(simp only[nA,nS,nD]<;>omega)|fail)only[go_sem]
    refine When_ev s1.wf set gain s _ fun h2 s2=>?_
    have g2:=s2.get g1
    have l1:=s1.next
    have l2:=s2.next
    rw[H.next_set] at l1
    simp -implicitDefEqProofs(maxSteps:=999999)(disch:=first|with_reducible rfl|omega|(simp only[nA,nS,nD]<;>omega)|fail)only[go_sem,c1,c2,hm,b1,hf,cells_of g2,awake_eq,Bool.false_eq_true]
  case inr.inr=>
   simp -implicitDefEqProofs(maxSteps:=999999)(disch:=first|with_reducible rfl|omega|(simp only[nA,nS,nD]<;>omega)|fail)only[c3,go_sem,hA,hm]
   refine refShown_ev sA.wf r hm.1 hm.2.1 _ ?_
   simp -implicitDefEqProofs(maxSteps:=999999)(disch:=first|with_reducible rfl|omega|(simp only[nA,nS,nD]<;>omega)|fail)only[go_sem]
   refine refWhen_ev sA.wf r s _ fun h0 s0=>?_
   have g0:=s0.get gA
   have l0:=s0.next
   have sB:=(sA.trans s0).set (b:=h.next) (by omega) (by omega) hw (.cells .rw [.int .i64 (whf set gain s 241).1,.int .i64 (whf set gain s 241).2.1])
   have gB:(h0.set h.next (.cells .rw [.int .i64 (whf set gain s 241).1,.int .i64 (whf set gain s 241).2.1])).get h.next=some (.cells .rw [.int .i64 (whf set gain s 241).1,.int .i64 (whf set gain s 241).2.1]):=get_set_same rfl
   cases hfl:(whf set gain s 241).2.2
   all_goals
    rw[hfl] at b1
    simp -implicitDefEqProofs(maxSteps:=999999)(disch:=first|with_reducible rfl|omega|(simp only[nA,nS,nD]<;>omega)|fail)only[go_sem,g0]
    refine Shown_ev sB.wf set gain m _ fun h1 s1=>?_
    have g1:=s1.get gB
    simp -implicitDefEqProofs(maxSteps:=999999)(disch:=first|with_reducible rfl|omega|(simp only[nA,nS,nD]<;>omega)|fail)only[go_sem]
    refine When_ev s1.wf set gain s _ fun h2 s2=>?_
    have g2:=s2.get g1
    have l1:=s1.next
    have l2:=s2.next
    rw[H.next_set] at l1
    simp -implicitDefEqProofs(maxSteps:=999999)(disch:=first|with_reducible rfl|omega|(simp only[nA,nS,nD]<;>omega)|fail)only[go_sem,c1,c2,hm,b1,hf,cells_of g2,awake_eq,Bool.false_eq_true]
end Go.Ab.Try
