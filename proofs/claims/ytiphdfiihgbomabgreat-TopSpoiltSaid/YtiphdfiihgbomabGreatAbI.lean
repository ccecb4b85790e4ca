/- Drawn regions, first part: what an operation reads; what a run in the order of the text leaves behind. -/
import Derived.Test.YtiphdfiihgbomabGreatAbH
set_option linter.unusedSimpArgs false
set_option linter.unusedVariables false
namespace Go.Ab
section
variable {tm tm':T V}
theorem opd_congr {x:Opd}(h:∀t∈x.tmps,(Opd.t t).ev tm=(Opd.t t).ev tm'):x.ev tm=x.ev tm':=by
 cases x with
 |t n=>exact h n (by simp[Opd.tmps])
 |c v=>rfl
theorem evs_congr {l:List Opd}(h:∀t∈opsT l,(Opd.t t).ev tm=(Opd.t t).ev tm'):evs tm l=evs tm' l:=by
 induction l with
 |nil=>rfl
 |cons x l ih=>
  simp only[opsT,List.mem_append] at h
  simp only[evs]
  rw[opd_congr fun t ht=>h t (.inl ht),ih fun t ht=>h t (.inr ht)]
theorem natO_congr {o:Option Opd}(h:∀t∈opT o,(Opd.t t).ev tm=(Opd.t t).ev tm')(d:Nat):natO tm d o=natO tm' d o:=by
 cases o with
 |none=>rfl
 |some x=>simp only[natO];rw[opd_congr h]
theorem fillN_congr {l:List (Nat × Nat × Opd)}(h:∀t∈parT l,(Opd.t t).ev tm=(Opd.t t).ev tm')(z:List V):fillN tm l z=fillN tm' l z:=by
 induction l generalizing z with
 |nil=>rfl
 |cons p l ih=>
  obtain⟨o,n,x⟩:=p
  simp only[parT,List.mem_append] at h
  simp only[fillN]
  rw[opd_congr fun t ht=>h t (.inl ht)]
  split
  ·split
   ·rfl
   ·exact ih (fun t ht=>h t (.inr ht)) _
  ·rfl
theorem bnd3_congr {lo hi mx:Option Opd}(h1:∀t∈opT lo,(Opd.t t).ev tm=(Opd.t t).ev tm')(h2:∀t∈opT hi,(Opd.t t).ev tm=(Opd.t t).ev tm')(h3:∀t∈opT mx,(Opd.t t).ev tm=(Opd.t t).ev tm')(n c:Nat):
  bnd3 tm n c lo hi mx=bnd3 tm' n c lo hi mx:=by
 simp only[bnd3,natO_congr h1,natO_congr h2,natO_congr h3]
theorem evQ_congr {h:H}{i:I}(hi:∀t∈i.tmps,(Opd.t t).ev tm=(Opd.t t).ev tm'):evQ tm h i=evQ tm' h i:=by
 cases i<;>simp only[I.tmps,List.mem_append] at hi<;>simp only[evQ]
 case mv x=>rw[opd_congr hi]
 case pick c x y=>rw[opd_congr fun t ht=>hi t (.inl (.inl ht)),opd_congr fun t ht=>hi t (.inl (.inr ht)),opd_congr fun t ht=>hi t (.inr ht)]
 case ld ag n x=>rw[opd_congr hi]
 case chk x=>rw[opd_congr hi]
 case ar op x y=>rw[opd_congr fun t ht=>hi t (.inl ht),opd_congr fun t ht=>hi t (.inr ht)]
 case sh op x y=>rw[opd_congr fun t ht=>hi t (.inl ht),opd_congr fun t ht=>hi t (.inr ht)]
 case beq op x y=>rw[opd_congr fun t ht=>hi t (.inl ht),opd_congr fun t ht=>hi t (.inr ht)]
 case isn op x=>rw[opd_congr hi]
 case feq ng n x y=>rw[opd_congr fun t ht=>hi t (.inl ht),opd_congr fun t ht=>hi t (.inr ht)]
 case neg x=>rw[opd_congr hi]
 case not x=>rw[opd_congr hi]
 case cv k x=>rw[opd_congr hi]
 case mkf f x y=>rw[evs_congr fun t ht=>hi t (.inl ht),evs_congr fun t ht=>hi t (.inr ht)]
 case slc sz x lo hi' mx=>
  have e:=fun n c=>bnd3_congr (lo:=lo) (hi:=hi') (mx:=mx) (fun t ht=>hi t (.inl (.inl (.inr ht)))) (fun t ht=>hi t (.inl (.inr ht))) (fun t ht=>hi t (.inr ht)) n c
  have e':=fun n c=>bnd3_congr (lo:=lo) (hi:=hi') (mx:=none) (fun t ht=>hi t (.inl (.inl (.inr ht)))) (fun t ht=>hi t (.inl (.inr ht))) (fun t ht=>by cases ht) n c
  rw[opd_congr fun t ht=>hi t (.inl (.inl (.inl ht)))]
  simp only[q_slc,e,e']
 case sla n sz x lo hi' mx=>
  have e:=fun n c=>bnd3_congr (lo:=lo) (hi:=hi') (mx:=mx) (fun t ht=>hi t (.inl (.inl (.inr ht)))) (fun t ht=>hi t (.inl (.inr ht))) (fun t ht=>hi t (.inr ht)) n c
  rw[opd_congr fun t ht=>hi t (.inl (.inl (.inl ht)))]
  simp only[q_sla,e]
 case fad off x=>rw[opd_congr hi]
 case fld ag n off x=>rw[opd_congr hi]
 case iad sz x y=>rw[opd_congr fun t ht=>hi t (.inl ht),opd_congr fun t ht=>hi t (.inr ht)]
 case iaa n sz x y=>rw[opd_congr fun t ht=>hi t (.inl ht),opd_congr fun t ht=>hi t (.inr ht)]
 case idx ag n sz x y=>rw[opd_congr fun t ht=>hi t (.inl ht),opd_congr fun t ht=>hi t (.inr ht)]
 case lkp fl z x y ok=>rw[opd_congr fun t ht=>hi t (.inl ht),opd_congr fun t ht=>hi t (.inr ht)]
 case lks n z x y ok=>rw[opd_congr fun t ht=>hi t (.inl ht),opd_congr fun t ht=>hi t (.inr ht)]
 case ext x i=>rw[opd_congr hi]
 case len x=>rw[opd_congr hi]
 case lnm x=>rw[opd_congr hi]
 case mx l=>rw[evs_congr hi]
 case mn l=>rw[evs_congr hi]
 case bld z ps=>rw[fillN_congr hi]
theorem evA_congr {h:H}{i:I}(hi:∀t∈i.tmps,(Opd.t t).ev tm=(Opd.t t).ev tm'):evA tm h i=evA tm' h i:=by
 cases i<;>simp only[I.tmps,List.mem_append] at hi<;>simp only[evA]
 case box x=>rw[opd_congr hi]
 case bsl n z ps=>rw[fillN_congr hi]
 case msl sz by_ z l c=>rw[opd_congr fun t ht=>hi t (.inl ht),opd_congr fun t ht=>hi t (.inr ht)]
theorem evE_congr {h:H}{i:I}(hi:∀t∈i.tmps,(Opd.t t).ev tm=(Opd.t t).ev tm'):evE tm h i=evE tm' h i:=by
 cases i<;>simp only[I.tmps,List.mem_append] at hi<;>simp only[evE]
 case sto n a x=>rw[opd_congr fun t ht=>hi t (.inl ht),opd_congr fun t ht=>hi t (.inr ht)]
 case mup fl m k x=>rw[opd_congr fun t ht=>hi t (.inl (.inl ht)),opd_congr fun t ht=>hi t (.inl (.inr ht)),opd_congr fun t ht=>hi t (.inr ht)]
 case mus n m k x=>rw[opd_congr fun t ht=>hi t (.inl (.inl ht)),opd_congr fun t ht=>hi t (.inl (.inr ht)),opd_congr fun t ht=>hi t (.inr ht)]
 case men z m k=>rw[opd_congr fun t ht=>hi t (.inl ht),opd_congr fun t ht=>hi t (.inr ht)]
 case mst m s x=>rw[opd_congr fun t ht=>hi t (.inl (.inl ht)),opd_congr fun t ht=>hi t (.inl (.inr ht)),opd_congr fun t ht=>hi t (.inr ht)]
 case app sz by_ x y=>rw[opd_congr fun t ht=>hi t (.inl ht),opd_congr fun t ht=>hi t (.inr ht)]
 case cpy sz x y=>rw[opd_congr fun t ht=>hi t (.inl ht),opd_congr fun t ht=>hi t (.inr ht)]
 case clr sz z x=>rw[opd_congr hi]
theorem evI_congr {K:Kall}{h:H}{i:I}(hi:∀t∈i.tmps,(Opd.t t).ev tm=(Opd.t t).ev tm'):evI K tm h i=evI K tm' h i:=by
 by_cases h0:i.kind=0
 ·rw[evI_0 h0,evI_0 h0,evQ_congr hi]
 by_cases h1:i.kind=1
 ·rw[evI_1 h1,evI_1 h1,evA_congr hi]
 by_cases h2:i.kind=2
 ·rw[evI_2 h2,evI_2 h2,evE_congr hi]
 cases i<;>first|(exact absurd rfl h0)|(exact absurd rfl h1)|(exact absurd rfl h2)|skip
 simp only[I.tmps,List.mem_append] at hi
 simp only[evI]
 rw[opd_congr fun t ht=>hi t (.inl ht),evs_congr fun t ht=>hi t (.inr ht)]
theorem evQ_heap {h g:H}{i:I}(hi:i.reads=false):evQ tm h i=evQ tm g i:=by
 cases i<;>first|rfl|(simp[I.reads] at hi)
theorem want_congr {o:O}(h:∀t∈o.reads,(Opd.t t).ev tm=(Opd.t t).ev tm'):want tm o.gd=want tm' o.gd:=by
 unfold O.reads at h
 cases hg:o.gd with
 |none=>rfl
 |some p=>
  obtain⟨d,b⟩:=p
  simp only[hg] at h
  have:=h d (by simp)
  simp only[Opd.ev] at this
  simp only[want]
  cases h1:tm.get d<;>cases h2:tm'.get d<;>simp only[h1,h2] at this⊢
  ·subst this;rfl
  ·subst this;rfl
  ·subst this;rfl
end
structure Trace (K:Kall)(l:List O)(rs:List Rec)(TM:Nat→T V)(HP:Nat→H):Prop where
 len:rs.length=l.length
 o:∀(i:Nat) (r:Rec),rs[i]? =some r→l[i]? =some r.o
 tm:∀(i:Nat) (r:Rec),rs[i]? =some r→r.tm=TM i
 h:∀(i:Nat) (r:Rec),rs[i]? =some r→r.h=HP i
 h':∀(i:Nat) (r:Rec),rs[i]? =some r→r.h'=HP (i+1)
 put:∀(i:Nat) (r:Rec),rs[i]? =some r→TM (i+1)=putD (TM i) r.o.dst r.v
 w:∀(i:Nat) (r:Rec),rs[i]? =some r→r.w=want r.tm r.o.gd
 ev:∀(i:Nat) (r:Rec),rs[i]? =some r→r.w=true→evI K r.tm r.h r.o.i=some (r.v,r.h')
 un:∀(i:Nat) (r:Rec),rs[i]? =some r→r.w=false→r.v=.und∧r.h'=r.h
theorem runT_trace {K:Kall}:∀{l:List O} {tm tm':T V} {h h':H} {rs:List Rec},runT K l tm h=some (rs,tm',h')→
  ∃TM HP,TM 0=tm∧HP 0=h∧TM l.length=tm'∧HP l.length=h'∧Trace K l rs TM HP
 |[],tm,tm',h,h',rs,hv=>by
  cases hv
  exact⟨fun _=>tm,fun _=>h,rfl,rfl,rfl,rfl,⟨rfl,by simp,by simp,by simp,by simp,by simp,by simp,by simp,by simp⟩⟩
 |o::l,tm,tm',h,h',rs,hv=>by
  have key:∀(v:V) (h1:H) (b:Bool) (rs1:List Rec),want tm o.gd=b→(b=true→evI K tm h o.i=some (v,h1))→(b=false→v=.und∧h1=h)→
    runT K l (putD tm o.dst v) h1=some (rs1,tm',h')→rs=⟨o,tm,h,v,h1,b⟩::rs1→
    ∃TM HP,TM 0=tm∧HP 0=h∧TM (o::l).length=tm'∧HP (o::l).length=h'∧Trace K (o::l) rs TM HP:=by
   intro v h1 b rs1 hw hev hun hrun hrs
   obtain⟨TM,HP,a1,a2,a3,a4,ht⟩:=runT_trace hrun
   subst hrs
   refine⟨fun|0=>tm|i+1=>TM i,fun|0=>h|i+1=>HP i,rfl,rfl,a3,a4,⟨by simp[ht.len],?_,?_,?_,?_,?_,?_,?_,?_⟩⟩
   ·intro i r hr;cases i with
    |zero=>simp at hr⊢;subst hr;rfl
    |succ i=>simp at hr⊢;exact ht.o i r hr
   ·intro i r hr;cases i with
    |zero=>simp at hr;subst hr;rfl
    |succ i=>simp at hr;exact ht.tm i r hr
   ·intro i r hr;cases i with
    |zero=>simp at hr;subst hr;rfl
    |succ i=>simp at hr;exact ht.h i r hr
   ·intro i r hr;cases i with
    |zero=>simp at hr;subst hr;exact a2.symm
    |succ i=>simp at hr;exact ht.h' i r hr
   ·intro i r hr;cases i with
    |zero=>simp at hr;subst hr;exact a1
    |succ i=>simp at hr;exact ht.put i r hr
   ·intro i r hr;cases i with
    |zero=>simp at hr;subst hr;exact hw.symm
    |succ i=>simp at hr;exact ht.w i r hr
   ·intro i r hr hwt;cases i with
    |zero=>simp at hr;subst hr;exact hev hwt
    |succ i=>simp at hr;exact ht.ev i r hr hwt
   ·intro i r hr hwt;cases i with
    |zero=>simp at hr;subst hr;exact hun hwt
    |succ i=>simp at hr;exact ht.un i r hr hwt
  simp only[runT] at hv
  split at hv
  ·rename_i hw
   split at hv
   ·rename_i v h1 e
    split at hv
    ·rename_i rs1 q e2
     cases hv
     exact key v h1 true rs1 hw (fun _=>e) (fun h=>by cases h) e2 rfl
    ·cases hv
   ·cases hv
  ·rename_i hw
   split at hv
   ·rename_i rs1 q e2
    cases hv
    exact key .und h false rs1 hw (fun h=>by cases h) (fun _=>⟨rfl,rfl⟩) e2 rfl
   ·cases hv
section
variable {K:Kall} {l:List O} {rs:List Rec} {TM:Nat→T V} {HP:Nat→H}
theorem Trace.le (ht:Trace K l rs TM HP)(hK:Kle K):∀i j,i≤j→j≤l.length→(HP i).le (HP j):=by
 intro i j hij
 induction j with
 |zero=>
   intro _;have:i=0:=by omega
   subst this;exact H.le_refl _
 |succ j ih=>
  intro hj
  by_cases e:i=j+1
  ·subst e;exact H.le_refl _
  ·refine H.le_trans (ih (by omega) (by omega)) ?_
   have hlt:j<rs.length:=by rw[ht.len];omega
   have hr:rs[j]? =some rs[j]:=List.getElem?_eq_getElem hlt
   have h1:=ht.h j _ hr
   have h2:=ht.h' j _ hr
   rw[←h1,←h2]
   cases hw:(rs[j]).w with
   |true=>exact evI_le hK (ht.ev j _ hr hw)
   |false=>rw[(ht.un j _ hr hw).2];exact H.le_refl _
def val (rs:List Rec)(v0:V)(S:Nat→Bool)(t:Nat):Nat→V
 |0=>v0
 |i+1=>match rs[i]? with
  |some r=>if S i=true∧r.o.dst=some t then r.v else val rs v0 S t i
  |none=>val rs v0 S t i
theorem putD_ev {tm:T V}{dst:Option Nat}{v:V}{t:Nat}:(Opd.t t).ev (putD tm dst v)=if dst=some t then v else(Opd.t t).ev tm:=by
 cases dst with
 |none=>simp[putD]
 |some d=>
  simp only[putD,Opd.ev,T.get_put_eq,Option.some.injEq]
  by_cases e:t=d
  ·subst e;simp
  ·have:¬d=t:=fun h=>e h.symm
   simp[e,this]
theorem val_text (ht:Trace K l rs TM HP){S:Nat→Bool}{t:Nat}:∀i,i≤l.length→(∀(j:Nat) (r:Rec),j<i→rs[j]? =some r→r.o.dst=some t→S j=true)→
  val rs ((Opd.t t).ev (TM 0)) S t i=(Opd.t t).ev (TM i)
 |0,_,_=>rfl
 |i+1,hi,hS=>by
  have hlt:i<rs.length:=by rw[ht.len];omega
  have hr:rs[i]? =some rs[i]:=List.getElem?_eq_getElem hlt
  simp only[val,hr,ht.put i _ hr,putD_ev]
  have ih:=val_text ht i (by omega) (fun j r hj hr hd=>hS j r (by omega) hr hd)
  by_cases e:(rs[i]).o.dst=some t
  ·simp[e,hS i _ (by omega) hr e]
  ·simp[e,ih]
theorem val_skip {v0:V}{S:Nat→Bool}{t:Nat}{i:Nat}:∀k,i≤k→(∀(j:Nat) (r:Rec),i≤j→j<k→rs[j]? =some r→r.o.dst=some t→S j=false)→val rs v0 S t k=val rs v0 S t i
 |0,hik,_=>by
   have:i=0:=by omega
   subst this;rfl
 |k+1,hik,hS=>by
  by_cases e:i=k+1
  ·subst e;rfl
  ·have ih:=val_skip (v0:=v0) (S:=S) (t:=t) (i:=i) k (by omega) (fun j r h1 h2 h3 h4=>hS j r h1 (by omega) h3 h4)
   simp only[val]
   split
   ·rename_i r hr
    by_cases e2:r.o.dst=some t
    ·have:=hS k r (by omega) (by omega) hr e2
     simp[this,ih]
    ·simp[e2,ih]
   ·exact ih
def addS (S:Nat→Bool)(i:Nat):Nat→Bool:=fun j=>if j=i then true else S j
theorem addS_self {S:Nat→Bool}{i:Nat}:addS S i i=true:=by simp[addS]
theorem addS_ne {S:Nat→Bool}{i j:Nat}(h:j≠i):addS S i j=S j:=by simp[addS,h]
theorem val_below {v0:V}{S:Nat→Bool}{t i:Nat}:∀k,k≤i→val rs v0 (addS S i) t k=val rs v0 S t k
 |0,_=>rfl
 |k+1,hk=>by
  simp only[val]
  rw[val_below k (by omega),addS_ne (by omega)]
theorem val_set {v0:V}{S:Nat→Bool}{t i:Nat}{r:Rec}(hr:rs[i]? =some r)(hS:S i=false){k:Nat}(hik:i<k)
  (hl:r.o.dst=some t→∀(j:Nat) (r':Rec),i<j→j<k→rs[j]? =some r'→r'.o.dst=some t→S j=false):
  val rs v0 (addS S i) t k=if r.o.dst=some t then r.v else val rs v0 S t k:=by
 by_cases e:r.o.dst=some t
 ·simp only[e,if_true]
  rw[val_skip (i:=i+1) k (by omega) (fun j r' h1 h2 h3 h4=>by rw[addS_ne (by omega)];exact hl e j r' (by omega) h2 h3 h4)]
  simp[val,hr,addS_self,e]
 ·simp only[e,if_false]
  clear hl
  induction k with
  |zero=>omega
  |succ k ih=>
   simp only[val]
   by_cases e2:k=i
   ·subst e2
    simp[hr,e,val_below k (Nat.le_refl _)]
   ·rw[ih (by omega),addS_ne e2]
end
end Go.Ab
