/- Functions, and rounds of loops over functions: sound. -/
import Derived.Test.YtiphdfiihgbomabGreatAbQ
set_option linter.unusedSimpArgs false
set_option linter.unusedVariables false
namespace Go.Ab
section
variable {P:Program} {Ty:Nat→Option TD} {F:Fence} {n N:Nat}
theorem rep_drop {φ:Phi}{g:Nat→Option Blk}{p:Nat→Prop}{w w':World}(hR:Rep Ty φ g p w){b:Nat}{x:Blk}(hb:g b=some x)(hx:x.rw=true)(hw:w'.heap.size=w.heap.size)
  (hother:∀B,B≠φ.blk b→w'.heap[B]? =w.heap[B]?) (hv:w'.os=w.os∧w'.output=w.output:=by exact⟨rfl,rfl⟩):Rep Ty φ (upd g b none) p w'∧Ext φ p g w φ p (upd g b none) w':=by
 have old:∀c y,upd g b none c=some y→c≠b∧g c=some y:=by
  intro c y h
  by_cases e:c=b
  ·subst e;rw[upd_same] at h;cases h
  ·rw[upd_ne e] at h;exact⟨e,h⟩
 refine⟨⟨fun c y hc=>?_,fun c d y z hc hd=>hR.inj c d y z (old c y hc).2 (old d z hd).2,fun c y hc=>hR.sc c y (old c y hc).2⟩,⟨φ.agree_refl p,fun _ h=>h,by rw[hw];exact Nat.le_refl _,fun B hB hne=>hother B (fun e=>hne b x hb hx e.symm),fun c y hc=>.inr ⟨c,y,(old c y hc).2,.refl,rfl⟩,hv⟩⟩
 obtain⟨h1,h2⟩:=old c y hc
 obtain⟨o,ho,hi⟩:=hR.blk c y h2
 rcases hR.inj b c x y hb h2 hx (Ne.symm h1) with hne|hdup
 ·exact⟨o,by rw[hother _ (Ne.symm hne),ho],hi⟩
 ·have hlt:=hR.lt h2
  rw[←hw] at hlt
  exact⟨_,Array.getElem?_eq_getElem hlt,Blk.dup_is hdup⟩
theorem tm0_get:∀(l:List V) (k:Nat) (t:T V) (j:Nat),(tm0 k l t).get j=if k≤j∧j<k+l.length then l[j-k]? else t.get j
 |[],k,t,j=>by
  have:¬(k≤j∧j<k+([]:List V).length):=by simp only[List.length_nil];omega
  simp only[tm0,this,if_false]
 |v::l,k,t,j=>by
  simp only[tm0]
  rw[tm0_get l (k+1) _ j]
  simp only[T.get_put_eq,List.length_cons]
  by_cases h1:j=k
  ·subst h1
   have a1:¬(j+1≤j∧j<j+1+l.length):=by omega
   have a2:j≤j∧j<j+(l.length+1):=by omega
   rw[if_neg a1,if_pos a2];simp
  ·by_cases h2:k+1≤j∧j<k+1+l.length
   ·have a2:k≤j∧j<k+(l.length+1):=by omega
    rw[if_pos h2,if_pos a2]
    have:j-k=(j-(k+1))+1:=by omega
    rw[this];simp
   ·have a2:¬(k≤j∧j<k+(l.length+1)):=by omega
    rw[if_neg h2,if_neg a2,if_neg h1]
theorem tm0_is {φ:Phi}{as:List V}(hl:as.length≤N):tmsIs φ N (tm0 0 as .nil) ((as.map (conc φ)).toArray++Array.replicate (N-(as.map (conc φ)).toArray.size) undef):=by
 refine⟨by simp;omega,fun t=>⟨?_,fun ht=>?_⟩⟩
 ·simp only[Opd.ev,tm0_get,Nat.zero_le,Nat.zero_add,true_and,Nat.sub_zero,T.get_nil]
  rw[Array.getD_eq_getD_getElem?,Array.getElem?_append]
  by_cases h:t<as.length
  ·have h2:t<(as.map (conc φ)).toArray.size:=by simpa using h
   rw[if_pos h,if_pos h2]
   simp[h]
  ·have h2:¬t<(as.map (conc φ)).toArray.size:=by simpa using h
   rw[if_neg h,if_neg h2]
   simp only[und_eq]
   simp only[Array.getElem?_replicate]
   split<;>rfl
 ·rw[tm0_get]
  have:¬(0≤t∧t<0+as.length):=by omega
  rw[if_neg this];exact T.get_nil t
theorem tm0_sc {p:Nat→Prop}{as:List V}(h:scL p as):TmSc p (tm0 0 as .nil):=by
 intro t v hv
 rw[tm0_get] at hv
 split at hv
 ·exact scL_iff.1 h v (List.mem_of_getElem? hv)
 ·rw[T.get_nil] at hv;cases hv
theorem marks_sound {φ:Phi}{fn:Func}{tmps:Array Value}{R:Ending→World→Prop}:∀(ds:List Nat) {h h':H} {p:Nat→Prop} {w:World},marks ds h=some h'→Rep Ty φ h.get p w→
  (∀w',Rep Ty φ h'.get p w'→Ext φ p h.get w φ p h'.get w'→∃v,(results fn tmps).run P w'=.ok v w'∧R (.returned v) w')→LeavesInM F n P fn tmps R (ds.map (mk1 φ)) .returning w
 |[],h,h',p,w,hm,hR,hk=>by
  cases hm
  obtain⟨v,h1,h2⟩:=hk w hR (Ext.refl _ _ _ _)
  exact⟨v,by rw[h1];exact⟨rfl,h2⟩⟩
 |d::ds,h,h',p,w,hm,hR,hk=>by
  simp only[marks] at hm
  split at hm
  ·rename_i hd
   obtain⟨o,ho,hi⟩:=hR.blk _ _ hd
   have hi:o=.deferred (some []):=hi
   subst hi
   have hlt:φ.blk d<w.heap.size:=(Array.getElem?_eq_some_iff.1 ho).1
   obtain⟨r1,r2⟩:=rep_drop (w':=w.putObj (φ.blk d) (.deferred none)) hR hd rfl (by simp) (fun B hB=>World.putObj_heap_other hB)
   rw[←H.get_del] at r1 r2
   refine⟨by simp,.inl ⟨φ.blk d,_,rfl,run_takeDeferred ho,?_⟩⟩
   exact marks_sound ds hm r1 fun w' a1 a2=>hk w' a1 (r2.trans a2)
  ·cases hm
theorem marks_next:∀(ds:List Nat) {h h':H},marks ds h=some h'→h'.next=h.next
 |[],h,h',hm=>by cases hm;rfl
 |d::ds,h,h',hm=>by
  simp only[marks] at hm
  split at hm
  ·rw[marks_next ds hm,H.next_del]
  ·cases hm
def resAt (a:Act):ResultVar→Sem Value
 |.tmp t=>pure (a.tmps.getD t undef)
 |.cell c t=>do loadVar t (←asAddr (a.tmps.getD c undef))
theorem results_eq (fn:Func)(a:Act):results fn a.tmps=(do let vs ←fn.results.mapM (resAt a);pure (if h:vs.size=1 then vs[0] else .tuple vs)):=by
 unfold results
 congr 1
theorem rsL_sound (hT:TyOK P Ty){φ:Phi}{h:H}{p:Nat→Prop}{w:World}{tm:T V}{a:Act}(hR:Rep Ty φ h.get p w)(ht:tmsIs φ N tm a.tmps)(hs:TmSc p tm):
  ∀{l:List ResultVar} {r:List Rs} {vs:List V},compRL Ty l=some r→rsL tm h r=some vs→
   (l.mapM (resAt a)).run P w=.ok (vs.map (conc φ)) w∧scL p vs
 |[],r,vs,hc,hv=>by
  cases hc;cases hv
  exact⟨by simp,trivial⟩
 |x::l,r,vs,hc,hv=>by
  simp only[compRL] at hc
  split at hc
  ·rename_i y hy
   split at hc
   ·rename_i r' hr
    cases hc
    simp only[rsL] at hv
    split at hv
    ·rename_i v hv1
     split at hv
     ·rename_i vs' hvs
      cases hv
      obtain⟨h1,h2⟩:=rsL_sound hT hR ht hs hr hvs
      have key:(resAt a x).run P w=.ok (conc φ v) w∧v.sc p:=by
       cases x with
       |tmp t=>
        simp only[compRs,Option.some.injEq] at hy;subst hy
        simp only[rsV,Option.some.injEq] at hv1;subst hv1
        refine⟨by simp only[resAt,Sem.run_pure,(ht.2 t).1],?_⟩
        exact ev_sc (x:=.tmp t) hs rfl
       |cell c t=>
        simp only[compRs] at hy
        cases hd:Ty t with
        |none=>simp[hd] at hy
        |some d=>
         simp only[hd,Option.some.injEq] at hy;subst hy
         simp only[rsV,evQ] at hv1
         cases e:(Opd.t c).ev tm<;>rw[e] at hv1<;>try(simp only[q_ld,reduceCtorEq] at hv1;done)
         obtain⟨k1,k2⟩:=ld_sound hT hR hd hv1
         refine⟨?_,k2⟩
         rename_i b o
         have:a.tmps.getD c undef=.pointer (some (φ.at b o)):=by rw[(ht.2 c).1,e];rfl
         simp only[resAt,this,asAddr,Sem.run_bind,Sem.run_pure,Result.andThen_ok,k1]
      refine⟨?_,key.2,h2⟩
      simp only[List.mapM_cons,Sem.run_bind,key.1,Result.andThen_ok,h1,Sem.run_pure,List.map_cons]
     ·cases hv
    ·cases hv
   ·cases hc
  ·cases hc
theorem res_sound (hT:TyOK P Ty){φ:Phi}{h:H}{p:Nat→Prop}{w:World}{tm:T V}{a:Act}(hR:Rep Ty φ h.get p w)(ht:tmsIs φ N tm a.tmps)(hs:TmSc p tm){fn:Func}{r:List Rs}{v:V}
  (hc:compRL Ty fn.results.toList=some r) (hv:resV tm h r=some v):(results fn a.tmps).run P w=.ok (conc φ v) w∧v.sc p:=by
 unfold resV at hv
 split at hv
 ·rename_i vs hvs
  obtain⟨h1,h2⟩:=rsL_sound hT hR ht hs hc hvs
  have hm:(fn.results.mapM (resAt a)).run P w=.ok (vs.map (conc φ)).toArray w:=by
   rw[←Array.toArray_toList (xs:=fn.results),List.mapM_toArray]
   simp only[Sem.run_map,h1,Result.andThen]
  rw[results_eq]
  simp only[Sem.run_bind,hm,Result.andThen_ok,Sem.run_pure]
  split at hv
  ·rename_i u
   cases hv
   exact⟨by simp,h2.1⟩
  ·rename_i hne
   cases hv
   refine⟨?_,h2⟩
   have:¬vs.length=1:=fun h=>by
    cases vs with
    |nil=>simp at h
    |cons a l=>cases l with
     |nil=>exact hne a rfl
     |cons b l=>simp at h
   simp[this,conc,concs_eq]
 ·cases hv
theorem bindP_is {φ:Phi}:∀{ps:List Nat} {vs:List V} {tm tm':T V} {a:Array Value},bindP ps vs tm=some tm'→numsLt N ps=true→tmsIs φ N tm a→
  tmsIs φ N tm' ((ps.zip (vs.map (conc φ))).foldl (fun t x=>t.setIfInBounds x.1 x.2) a)∧ps.length=vs.length
 |[],[],tm,tm',a,h,_,ht=>by cases h;exact⟨ht,rfl⟩
 |[],v::vs,tm,tm',a,h,_,ht=>by cases h
 |q::ps,[],tm,tm',a,h,_,ht=>by cases h
 |q::ps,v::vs,tm,tm',a,h,hl,ht=>by
  simp only[bindP] at h
  simp only[numsLt] at hl
  split at hl
  ·rename_i hq
   have hq:q<N:=by simpa using hq
   have h1:=tms_put (a:=⟨a,[]⟩) (dst:=some q) ht (fun d hd=>by cases hd;exact hq) v
   obtain⟨h2,h3⟩:=bindP_is h hl h1
   exact⟨h2,by simp[h3]⟩
  ·cases hl
theorem bindP_sc {p:Nat→Prop}:∀{ps:List Nat} {vs:List V} {tm tm':T V},bindP ps vs tm=some tm'→TmSc p tm→scL p vs→TmSc p tm'
 |[],[],tm,tm',h,ht,_=>by cases h;exact ht
 |[],v::vs,tm,tm',h,_,ht=>by cases h
 |q::ps,[],tm,tm',h,_,ht=>by cases h
 |q::ps,v::vs,tm,tm',h,ht,hs=>by
  simp only[bindP] at h
  exact bindP_sc h (ht.put (dst:=some q) hs.1) hs.2
def SpecOk (P:Program)(Ty:Nat→Option TD)(f:FuncId)(args:List V)(h:H)(v:V)(h':H):Prop:=
 h.le h'∧∀{F:Fence} {n:Nat} {φ:Phi} {p:Nat→Prop} {w:World},Wide F→Fresh p h.next h'.next→Rep Ty φ h.get p w→scL p args→h.wf→
  CallsIn F n P f (args.map (conc φ)).toArray w (Answers Ty φ p h w v h')
def Callable (P:Program)(f:FuncId):Prop:=∃fn,P.funcs[f]? =some fn∧(fn.name== "runtime.NumGoroutine")=false∧fn.body.isNone=false
theorem run_callFunc {f:FuncId}(hc:Callable P f)(args:Array Value)(w:World):(callFunc f args).run P w=.ok (.enter f args) w:=by
 obtain⟨fn,h1,h2,h3⟩:=hc
 have h2':fn.name≠ "runtime.NumGoroutine" :=by simpa using h2
 have h3':fn.body≠none:=by intro h;rw[h] at h3;cases h3
 simp[callFunc,h1,h2',h3']
structure FnOk (P:Program)(Ty:Nat→Option TD)(Fn:Nat→Option FD):Prop where
 is:∀f fd,Fn f=some fd→∃fn,P.funcs[f]? =some fn∧(fn.name== "runtime.NumGoroutine")=false∧compF Ty fn=some fd∧fd.body.lt fd.ntmps=true
structure FastOk (P:Program)(Ty:Nat→Option TD)(fast:Nat→Option (List V→H→Option (V × H))):Prop where
 is:∀f g,fast f=some g→Callable P f∧∀args h v h',g args h=some (v,h')→SpecOk P Ty f args h v h'
theorem fd_spec {fn:Func}{fd:FD}(h:compF Ty fn=some fd):∃b,fn.body=some b∧comp Ty b=some fd.body∧compRL Ty fn.results.toList=some fd.res∧fd.ntmps=fn.ntmps:=by
 unfold compF at h
 split at h
 ·rename_i b hb
  split at h
  ·rename_i c hc
   split at h
   ·rename_i r hr
    cases h
    exact⟨b,hb,hc,hr,rfl⟩
   ·cases h
  ·cases h
 ·cases h
theorem body_sound (hT:TyOK P Ty)(hD:8≤P.depth)(hM:P.follows .mixedOrders=true){Fn:Nat→Option FD}(hFn:FnOk P Ty Fn){K:Kall}(hK:KOk P Ty K){f:FuncId}{fd:FD}(hf:Fn f=some fd){fuel:Nat}
  {as:List V} {h h':H} {e:X} {s:St} {v:V} (hle:Nat.ble (lenN as) fd.ntmps=true) (he:evC K fd.ntmps f none fuel fd.body ⟨tm0 0 as .nil,h,[]⟩=some (e,s)) (hne:∀id,e≠.ext id)
  (hm:marks s.df s.h=some h') (hr:resV s.tm h' fd.res=some v):SpecOk P Ty f as h v h':=by
 obtain⟨fn,h1,h2,h3,h4⟩:=hFn.is f fd hf
 obtain⟨b,b1,b2,b3,b4⟩:=fd_spec h3
 have hle':as.length≤fd.ntmps:=by have:=Nat.le_of_ble_eq_true hle;rwa[lenN_eq] at this
 have l1:h.le s.h:=evC_le hK.le _ _ _ _ he
 have hnx:=marks_next _ hm
 refine⟨H.le_trans l1 (marks_le hm),fun{F n φ p w} hF hfr hR hs hwf=>?_⟩
 have key:CallsIn F.plain n P f (as.map (conc φ)).toArray w (Answers Ty φ p h w v h'):=by
  refine callsIn_of_wp_marks h1 b1 (hF.fn f) ?_ rfl
  have hon:On Ty fd.ntmps φ p ⟨tm0 0 as .nil,h,[]⟩ {tmps:=(as.map (conc φ)).toArray++Array.replicate (fn.ntmps-(as.map (conc φ)).toArray.size) undef,defers:=[]} w:=
   ⟨hR,by rw[←b4];exact tm0_is hle',tm0_sc hs,rfl,fun d hd=>(by cases hd),hwf⟩
  refine wpIn_mono (evC_sound hT hD hM hK b fd.body b2 h4 (F:=F.plain) ⟨hF.fn,hF.depth⟩ (ro:=none) rfl (fun l hl=>by cases hl) he hon (by rw[←hnx];exact hfr)) fun ee a' w' ⟨he',haft⟩=>?_
  obtain⟨φ',hon',hE⟩:=haft
  have leave:LeavesInM F.plain n P fn a'.tmps (Answers Ty φ p h w v h') a'.defers .returning w':=by
   rw[hon'.df]
   refine marks_sound s.df hm hon'.rep fun w'' r1 r2=>?_
   obtain⟨k1,k2⟩:=res_sound (P:=P) hT r1 hon'.tms hon'.sc b3 hr
   refine⟨_,k1,φ',rfl,⟨?_,?_⟩,?_⟩
   ·rw[hnx];exact r1
   ·rw[hnx];exact hE.trans r2
   ·rw[hnx];exact k2
  cases e with
  |nrm=>subst he';exact leave
  |ret=>subst he';exact leave
  |ext id=>exact absurd rfl (hne id)
 exact key
theorem round_sound (hT:TyOK P Ty)(hD:8≤P.depth)(hM:P.follows .mixedOrders=true){K:Kall}(hK:KOk P Ty K){fuel:Nat}{l:Nat}{args:List V}{h h':H}{r:LoopR}{tm:T V}{s s2:St}{e2:X}{r1 r2:LoopR}{v:V}
  (hl:h.get l=some (.loop r)) (hb:bindP r.ps args r.tm=some tm) (he1:evC K r.n r.fn (some l) fuel r.assign ⟨tm,h,[]⟩=some (.nrm,s)) (hr1:s.h.get l=some (.loop r1)) (hst:r1.st=.ready)
  (he2:evC K r.n r.fn (some l) fuel r.body ⟨s.tm,s.h.set l (.loop {r1 with st:=.busy}),s.df⟩=some (e2,s2)) (hr2:s2.h.get l=some (.loop r2))
  (hend:(e2=.nrm∧v=.bool true∧h'=s2.h.set l (.loop {r2 with st:=.ready,pend:=none}))∨(∃id,e2=.ext id∧v=.bool false∧h'=s2.h.set l (.loop {r2 with st:=.done,pend:=some (.ext id)}))∨
   (e2=.ret∧v=.bool false∧h'=s2.h.set l (.loop {r2 with st:=.done,pend:=some .ret})))
  {F:Fence} {n:Nat} {φ:Phi} {p:Nat→Prop} {w:World} (hF:Wide F) (hfr:Fresh p h.next h'.next) (hR:Rep Ty φ h.get p w) (hs:scL p args) (hwf:h.wf):
  ∃nx,(do let d ←Deferred.ofValue (conc φ (.yld l)) (args.map (conc φ)).toArray;invoke d.target d.args:Sem Next).run P w=.ok nx w∧KRes Ty F n P φ p h w v h' nx:=by
 obtain⟨o,ho,L,rfl,l1,l2,l3,l4,l5,l6,l7,l8,l9,l10⟩:=hR.blk _ _ hl
 have hpl:=(hR.sc _ _ hl).1
 have hscl:=(hR.sc _ _ hl).2
 obtain⟨hbi,hlen⟩:=bindP_is (φ:=φ) hb l10 l7
 have hle1:=evC_le hK.le _ _ _ _ he1
 have hle2:=evC_le hK.le _ _ _ _ he2
 have hn1:(s.h.set l (.loop {r1 with st:=.busy})).next=s.h.next:=H.next_set _ _ _
 have hle2n:=hle2.1
 rw[show(St.h ⟨s.tm,s.h.set l (.loop {r1 with st:=.busy}),s.df⟩).next=s.h.next from hn1] at hle2n
 have hn':h'.next=s2.h.next:=by
  rcases hend with⟨_,_,rfl⟩|⟨_,_,_,rfl⟩|⟨_,_,rfl⟩<;>exact H.next_set _ _ _
 rw[hn'] at hfr
 have hsz:(args.map (conc φ)).toArray.size=L.params.size:=by
  have:L.params.toList.length=args.length:=by rw[l1];exact hlen
  simp;simpa using this.symm
 have hrun:=run_yield (P:=P) ho hsz
 refine⟨.round (φ.blk l) L.fn ((L.params.zip (args.map (conc φ)).toArray).foldl (fun tmps (t,a)=>tmps.setIfInBounds t a) L.tmps) L.assign L.body,?_,?_⟩
 ·simp only[conc,Deferred.ofValue,Sem.run_bind,Sem.run_pure,Result.andThen_ok,invoke]
  rw[show(#[]:Array Value)++(args.map (conc φ)).toArray=(args.map (conc φ)).toArray by simp]
  exact hrun
 ·show RoundIn F n P (φ.blk l) L.fn _ L.assign L.body w (Answers Ty φ p h w v h')
  have htm:tmsIs φ r.n tm ((L.params.zip (args.map (conc φ)).toArray).foldl (fun tmps (t,a)=>tmps.setIfInBounds t a) L.tmps):=by
   have:(L.params.zip (args.map (conc φ)).toArray).foldl (fun tmps (t,a)=>tmps.setIfInBounds t a) L.tmps=(r.ps.zip (args.map (conc φ))).foldl (fun t x=>t.setIfInBounds x.1 x.2) L.tmps:=by
    rw[←Array.foldl_toList,Array.toList_zip,l1]
   rw[this];exact hbi
  refine roundIn_of_wpIn (hF.fn _) ?_
  have hon0:On Ty r.n φ p ⟨tm,h,[]⟩ {tmps:=(L.params.zip (args.map (conc φ)).toArray).foldl (fun tmps (t,a)=>tmps.setIfInBounds t a) L.tmps,defers:=[]} w:=
   ⟨hR,htm,bindP_sc hb hscl.2 hs,rfl,fun d hd=>(by cases hd),hwf⟩
  refine wpIn_mono (evC_sound hT hD hM hK L.assign r.assign l2 l8 (hF.inRound (φ.blk l)) (n:=n) (ro:=some l) rfl (fun k hk=>by cases hk;exact hpl) he1 hon0 (hfr.left hle2n)) fun ee a1 w1 ⟨he',haft⟩=>?_
  subst he'
  obtain⟨φ1,hon1,hE1⟩:=haft
  dsimp only at hon1 hE1
  obtain⟨o1,ho1,L1,rfl,m1,m2,m3,m4,m5,m6,m7,m8,m9,m10⟩:=hon1.rep.blk _ _ hr1
  have hbl:φ1.blk l=φ.blk l:=(hE1.agree l hpl).1.symm
  rw[hbl] at ho1
  have hlt1:φ.blk l<w1.heap.size:=(Array.getElem?_eq_some_iff.1 ho1).1
  refine⟨_,run_beginRound ho1 (by rw[m4];exact hst),?_⟩
  obtain⟨q1,q2⟩:=rep_put (w':=w1.putObj (φ.blk l) (.loop {L1 with state:=.busy})) hon1.rep hr1 rfl (y:=.loop {r1 with st:=.busy}) (o:=.loop {L1 with state:=.busy})
   (by simp) (by rw[hbl];exact World.putObj_heap_same hlt1) (fun B hB=>World.putObj_heap_other (by rw[hbl] at hB;exact hB)) ⟨_,rfl,m1,m2,m3,rfl,m5,m6,m7,m8,m9,m10⟩ (hon1.rep.sc _ _ hr1).2
  rw[←H.get_set] at q1 q2
  have hon2:On Ty r.n φ1 (grow p h.next s.h.next) ⟨s.tm,s.h.set l (.loop {r1 with st:=.busy}),s.df⟩ a1 (w1.putObj (φ.blk l) (.loop {L1 with state:=.busy})):=
   ⟨q1,hon1.tms,hon1.sc,hon1.df,hon1.dfp,(H.le_set hr1).2 hon1.wf⟩
  refine wpIn_mono (evC_sound hT hD hM hK L.body r.body l3 l9 (hF.inRound (φ.blk l)) (n:=n) (ro:=some l) (by simp[hbl]) (fun k hk=>by cases hk;exact .inl hpl) he2 hon2
   (by rw[show(St.h ⟨s.tm,s.h.set l (.loop {r1 with st:=.busy}),s.df⟩).next=s.h.next from hn1];exact hfr.right hle1.1)) fun ee a2 w2 ⟨he',haft⟩=>?_
  subst he'
  obtain⟨φ2,hon3,hE3⟩:=haft
  dsimp only at hon3 hE3
  rw[hn1] at hon3 hE3
  rw[grow_grow hle1.1 hle2n] at hon3 hE3
  obtain⟨o2,ho2,L2,rfl,k1,k2,k3,k4,k5,k6,k7,k8,k9,k10⟩:=hon3.rep.blk _ _ hr2
  have hbl2:φ2.blk l=φ.blk l:=by rw[←(hE3.agree l (.inl hpl)).1,hbl]
  rw[hbl2] at ho2
  have hlt2:φ.blk l<w2.heap.size:=(Array.getElem?_eq_some_iff.1 ho2).1
  have fin:∀(jump:Option Code) (pend:Option X),pend.bind X.code=jump→(jump.isNone=true↔pend=none)→v=.bool jump.isNone→
    h'=s2.h.set l (.loop {r2 with st:=if jump.isNone then .ready else .done,pend:=pend})→
    ∃u w',(Instr.endRound (φ.blk l) jump).run P w2=.ok u w'∧Answers Ty φ p h w v h' (.returned u) w':=by
   intro jump pend hj hjn hv hh'
   refine⟨_,_,run_endRound jump ho2,φ2,by rw[hv];rfl,?_,by rw[hv];trivial⟩
   obtain⟨t1,t2⟩:=rep_put (w':=w2.putObj (φ.blk l) (.loop {L2 with state:=if jump.isNone then .ready else .done,pending:=jump})) hon3.rep hr2 rfl
    (y:=.loop {r2 with st:=if jump.isNone then .ready else .done,pend:=pend}) (o:=.loop {L2 with state:=if jump.isNone then .ready else .done,pending:=jump})
    (by simp) (by rw[hbl2];exact World.putObj_heap_same hlt2) (fun B hB=>World.putObj_heap_other (by rw[hbl2] at hB;exact hB)) ⟨_,rfl,k1,k2,k3,rfl,hj.symm,k6,k7,k8,k9,k10⟩ (hon3.rep.sc _ _ hr2).2
   rw[←H.get_set] at t1 t2
   refine⟨?_,?_⟩
   ·rw[hn',hh'];exact t1
   ·rw[hn',hh'];exact((hE1.trans q2).trans hE3).trans t2
  rcases hend with⟨rfl,hv,hh'⟩|⟨id,rfl,hv,hh'⟩|⟨rfl,hv,hh'⟩
  ·exact fin none none rfl (by simp) hv hh'
  ·exact fin (some (.exit id)) (some (.ext id)) rfl (by simp) hv hh'
  ·exact fin (some .ret) (some .ret) rfl (by simp) hv hh'
theorem evV_ok (hT:TyOK P Ty)(hD:8≤P.depth)(hM:P.follows .mixedOrders=true){Fn:Nat→Option FD}(hFn:FnOk P Ty Fn){fast:Nat→Option (List V→H→Option (V × H))}(hfast:FastOk P Ty fast):
  ∀fuel,KOk P Ty (evV Fn fast fuel):=by
 have hle:=evV_le (Fn:=Fn) (fast:=fast) (fun f g hg args h v h' e=>((hfast.is f g hg).2 args h v h' e).1)
 intro fuel
 induction fuel with
 |zero=>exact⟨hle 0,fun{fv args h v h'} e=>by cases e⟩
 |succ m ih=>
  refine⟨hle (m+1),fun{fv args h v h'} e {F n φ p w} hF hfr hR hfs has hwf=>?_⟩
  have call:∀(f:FuncId) (x y:List V),fv=.fn f x y→Callable P f→SpecOk P Ty f (x++(args++y)) h v h'→
    ∃nx,(do let d ←Deferred.ofValue (conc φ fv) (args.map (conc φ)).toArray;invoke d.target d.args:Sem Next).run P w=.ok nx w∧KRes Ty F n P φ p h w v h' nx∧((∃f x y,fv=.fn f x y)→∃g as,nx=.enter g as):=by
   intro f x y hfv hcall hspec
   subst hfv
   refine⟨.enter f ((x++(args++y)).map (conc φ)).toArray,?_,?_,fun _=>⟨_,_,rfl⟩⟩
   ·simp only[conc,Deferred.ofValue,Sem.run_bind,Sem.run_pure,Result.andThen_ok,invoke]
    have:(concs φ x).toArray++(args.map (conc φ)).toArray++(concs φ y).toArray=((x++(args++y)).map (conc φ)).toArray:=by simp[concs_eq]
    rw[this]
    exact run_callFunc hcall _ w
   ·refine hspec.2 hF hfr hR ?_ hwf
    rw[scL_iff] at has⊢
    intro z hz
    have h1:=hfs.1
    have h2:=hfs.2
    rw[scL_iff] at h1 h2
    simp only[List.mem_append] at hz
    rcases hz with hz|hz|hz
    ·exact h1 z hz
    ·exact has z hz
    ·exact h2 z hz
  unfold evV at e
  split at e
  ·rename_i f x y
   split at e
   ·rename_i g hg
    obtain⟨c1,c2⟩:=hfast.is f g hg
    rw[appN_eq,appN_eq] at e
    exact call f x y rfl c1 (c2 _ _ _ _ e)
   ·split at e
    ·rename_i fd hfd
     dsimp only at e
     split at e
     ·rename_i hble
      split at e
      ·rename_i ee s he
       split at e
       ·cases e
       ·rename_i hne
        split at e
        ·rename_i h2 hm
         split at e
         ·rename_i v' hr
          cases e
          have hspec:=body_sound hT hD hM hFn ih hfd hble he (fun id hid=>hne id hid) hm hr
          rw[appN_eq,appN_eq] at hspec
          obtain⟨fn,f1,f2,f3,f4⟩:=hFn.is f fd hfd
          obtain⟨b,b1,_⟩:=fd_spec f3
          exact call f x y rfl ⟨fn,f1,f2,by simp[b1]⟩ hspec
         ·cases e
        ·cases e
      ·cases e
     ·cases e
    ·cases e
  ·rename_i l
   split at e
   ·rename_i r hl
    split at e
    ·rename_i tm hb
     split at e
     ·rename_i x1 s he1
      split at e
      ·split at e
       ·rename_i r1 hr1
        split at e
        ·rename_i hst
         split at e
         ·rename_i x2 s2 he2
          split at e
          ·rename_i r2 hr2
           have fin:∀{v0:V} {h0:H},v0=v→h0=h'→((x2=.nrm∧v0=.bool true∧h0=s2.h.set l (.loop {r2 with st:=.ready,pend:=none}))∨(∃id,x2=.ext id∧v0=.bool false∧h0=s2.h.set l (.loop {r2 with st:=.done,pend:=some (.ext id)}))∨
             (x2=.ret∧v0=.bool false∧h0=s2.h.set l (.loop {r2 with st:=.done,pend:=some .ret})))→
             ∃nx,(do let d ←Deferred.ofValue (conc φ (.yld l)) (args.map (conc φ)).toArray;invoke d.target d.args:Sem Next).run P w=.ok nx w∧KRes Ty F n P φ p h w v h' nx∧((∃f x y,V.yld l=.fn f x y)→∃g as,nx=.enter g as):=by
            intro v0 h0 e1 e2 hend
            subst e1 e2
            obtain⟨nx,a1,a2⟩:=round_sound hT hD hM ih hl hb he1 hr1 hst he2 hr2 hend (n:=n) hF hfr hR has hwf
            exact⟨nx,a1,a2,fun⟨_,_,_,hh⟩=>by cases hh⟩
           split at e
           ·cases e;exact fin rfl rfl (.inl ⟨rfl,rfl,rfl⟩)
           ·rename_i id;cases e;exact fin rfl rfl (.inr (.inl ⟨id,rfl,rfl,rfl⟩))
           ·cases e;exact fin rfl rfl (.inr (.inr ⟨rfl,rfl,rfl⟩))
          ·cases e
         ·cases e
        ·cases e
       ·cases e
      ·cases e
     ·cases e
    ·cases e
   ·cases e
  ·cases e
end
end Go.Ab
