/- Walks of statements. -/
import Derived.Test.YtiphdfiihgbomabGreatAbP
import Derived.RangeFuncRecord
set_option linter.unusedSimpArgs false
set_option linter.unusedVariables false
namespace Go.Ab
section
variable {P:Program} {Ty:Nat→Option TD} {F:Fence} {n N:Nat}
theorem After.of_eq {φ:Phi}{p:Nat→Prop}{s:St}{a:Act}{w:World}(hon:On Ty N φ p s a w):After Ty N φ p s.h w s a w:=
 ⟨φ,by rw[grow_self];exact hon,by rw[grow_self];exact Ext.refl _ _ _ _⟩
theorem range_core (hF:Wide F)(hT:TyOK P Ty){K:Kall}(hK:KOk P Ty K){Q:Exit→Act→World→Prop}
  {fn':FuncId} {f:Operand} {x:Opd} (hf:opd f=some x) {ps:Array Tmp} {assign body:Code} {as' body':C} (ha:comp Ty assign=some as') (hb:comp Ty body=some body')
  (hla:as'.lt N=true) (hlb:body'.lt N=true) (hlp:numsLt N ps.toList=true)
  {s s':St} {y:X} {a:Act} {φ φ1:Phi} {p p1:Nat→Prop} {w w1:World} {h1 h3:H} {d:Nat} {df:List Nat} {fn:FuncId} {u:V} {mark:List Deferred}
  (hon:On Ty N φ p s a w) (hR1:Rep Ty φ1 h1.get p1 w1) (hE1:Ext φ p s.h.get w φ1 p1 h1.get w1) (hp1:p1=grow p s.h.next h1.next) (hw1:h1.wf) (hd:p1 d) (hdf:∀d∈df,p1 d)
  (hmk:mark++a.defers=df.map (mk1 φ1)) (hle1:s.h.next≤h1.next)
  (henter:(Instr.enterLoop fn' a.tmps ps assign body F.round).run P w=.ok (w1.heap.size,mark) (w1.alloc (.loop {state:=.ready,pending:=none,fn:=fn',tmps:=a.tmps,params:=ps,assign,body,defers:=φ1.blk d})))
  (hfn:∃g xs ys,x.ev s.tm=.fn g xs ys)
  (hcall:K (x.ev s.tm) [.yld h1.next] (h1.add (.loop ⟨fn,s.tm,N,ps.toList,as',body',.ready,none,d⟩))=some (u,h3))
  {r3:LoopR} (hr3:h3.get h1.next=some (.loop r3)) (hbusy:r3.st≠.busy) (hy:(r3.pend=none∧y=.nrm)∨(∃id,r3.pend=some (.ext id)∧y=.ext id)∨(r3.pend=some .ret∧y=.ret))
  (hs':s'=⟨s.tm,h3.set h1.next (.loop {r3 with st:=.exhausted}),df⟩) (hfr:Fresh p s.h.next s'.h.next)
  (hq:∀a' w',After Ty N φ p s.h w s' a' w'→Q y.exit a' w'):
  ∃(l:Nat) (mark:List Deferred) (w₁:World) (d:Deferred) (w₁':World) (g:FuncId) (args:Array Value) (w₂:World),
   (Instr.enterLoop fn' a.tmps ps assign body F.round).run P w=.ok (l,mark) w₁∧
   (resolve a.eval (rangeCall f l) 0).run P w₁=.ok d w₁'∧
   (∀f',Target.leads P w₁' d.target d.args=some f'→F.fn f')∧
   (invoke d.target d.args).run P w₁'=.ok (.enter g args) w₂∧
   (F.depth.isSome=true→1≤n)∧
   CallsIn F (n-1) P g args w₂ (rangePost F n P l Q {a with defers:=mark++a.defers}):=by
 have hle3:=hK.le _ _ _ _ _ hcall
 have hn2:(h1.add (.loop ⟨fn,s.tm,N,ps.toList,as',body',.ready,none,d⟩)).next=h1.next+1:=H.next_add _ _
 have hle3n:=hle3.1
 rw[hn2] at hle3n
 have hs'n:s'.h.next=h3.next:=by rw[hs'];exact H.next_set _ _ _
 have hfr1:Fresh p1 h1.next h3.next:=by rw[hp1];rw[hs'n] at hfr;exact hfr.right hle1
 have hnp:¬p1 h1.next:=hfr1 _ (Nat.le_refl _) (by omega)
 have hag1:=hE1.agree
 have hmono1:=hE1.mono
 have htm1:tmsIs φ1 N s.tm a.tmps:=hon.tms.agree hag1 hon.sc
 have hsc1:TmSc p1 s.tm:=hon.sc.mono hmono1
 have hagL:φ1.agree (φ1.set h1.next w1.heap.size 0 0) p1:=Phi.set_agree hnp
 have hx:blkIs Ty (φ1.set h1.next w1.heap.size 0 0) h1.next (.loop ⟨fn,s.tm,N,ps.toList,as',body',.ready,none,d⟩)
   (.loop {state:=.ready,pending:=none,fn:=fn',tmps:=a.tmps,params:=ps,assign,body,defers:=φ1.blk d}):=
  ⟨_,rfl,rfl,ha,hb,rfl,rfl,(hagL d hd).1,htm1.agree hagL hsc1,hla,hlb,hlp⟩
 have hsx:(Blk.loop ⟨fn,s.tm,N,ps.toList,as',body',.ready,none,d⟩).sc (grow p1 h1.next (h1.next+1)):=⟨.inl hd,fun t v hv=>V.sc_mono (fun _ h=>.inl h) v (hsc1 t v hv)⟩
 obtain⟨hR2,hE2⟩:=rep_new (w':=w1.alloc (.loop {state:=.ready,pending:=none,fn:=fn',tmps:=a.tmps,params:=ps,assign,body,defers:=φ1.blk d})) hR1 hnp (c:=0) rfl hx hsx
 rw[←H.get_add] at hR2 hE2
 have hblk2:(φ1.set h1.next w1.heap.size 0 0).blk h1.next=w1.heap.size:=by simp[Phi.set]
 have hxsc:(x.ev s.tm).sc p:=ev_sc hon.sc hf
 have hval:a.eval f=conc (φ1.set h1.next w1.heap.size 0 0) (x.ev s.tm):=by
  rw[opsAre_of hon.tms f x hf,conc_agree hag1 _ hxsc,conc_agree hagL _ (V.sc_mono hmono1 _ hxsc)]
 obtain⟨nx,hrun,hres,hent⟩:=hK.run hcall (F:=F) (n:=n-1) (φ:=φ1.set h1.next w1.heap.size 0 0) (p:=grow p1 h1.next (h1.next+1))
  (w:=w1.alloc (.loop {state:=.ready,pending:=none,fn:=fn',tmps:=a.tmps,params:=ps,assign,body,defers:=φ1.blk d})) hF
  (by rw[hn2];exact hfr1.right (by omega)) hR2 (V.sc_mono (fun b hb=>.inl (hmono1 b hb)) _ hxsc) ⟨grow_new,trivial⟩ ((H.le_add _ _).2 hw1)
 obtain⟨g,as,rfl⟩:=hent hfn
 obtain⟨g0,xs,ys,hxv⟩:=hfn
 have hof:(Deferred.ofValue (a.eval f) #[.func (.yield w1.heap.size) #[] #[]])=pure {target:=.fn (.func g0) (concs (φ1.set h1.next w1.heap.size 0 0) ys).toArray,args:=(concs (φ1.set h1.next w1.heap.size 0 0) xs).toArray++ #[.func (.yield w1.heap.size) #[] #[]]}:=by
  rw[hval,hxv];rfl
 have hargs:(([V.yld h1.next]:List V).map (conc (φ1.set h1.next w1.heap.size 0 0))).toArray= #[.func (.yield w1.heap.size) #[] #[]]:=by simp[conc,hblk2]
 rw[hargs,←hval,hof] at hrun
 simp only[Sem.run_bind,Sem.run_pure,Result.andThen_ok] at hrun
 refine⟨w1.heap.size,mark,_,{target:=.fn (.func g0) (concs (φ1.set h1.next w1.heap.size 0 0) ys).toArray,args:=(concs (φ1.set h1.next w1.heap.size 0 0) xs).toArray++ #[.func (.yield w1.heap.size) #[] #[]]},_,g,as,_,henter,?_,fun f' _=>hF.fn f',hrun,hF.isSome,?_⟩
 ·simp only[resolve,rangeCall,List.map_toArray,List.map_cons,List.map_nil]
  show(Deferred.ofValue (a.eval f) #[.func (.yield w1.heap.size) #[] #[]]).run P _=_
  rw[hof];rfl
 ·simp only[KRes] at hres
  refine CallsIn.mono hres fun e w3 he=>?_
  obtain⟨φ3,rfl,⟨hR3,hE3⟩,_⟩:=he
  have hag3:=hE3.agree
  have hb3:φ3.blk h1.next=w1.heap.size:=by rw[←(hag3 h1.next grow_new).1];exact hblk2
  obtain⟨o3,ho3,L3,rfl,l1,l2,l3,l4,l5,l6,l7,l8,l9,l10⟩:=hR3.blk _ _ hr3
  rw[hb3] at ho3
  have hst:L3.state≠.busy:=by rw[l4];exact hbusy
  refine⟨L3.pending,_,run_endLoop ho3 hst,?_⟩
  have hlt3:w1.heap.size<w3.heap.size:=(Array.getElem?_eq_some_iff.1 ho3).1
  obtain⟨hR4,hE4⟩:=rep_put (w':=w3.putObj w1.heap.size (.loop {L3 with state:=.exhausted})) hR3 hr3 rfl (y:=.loop {r3 with st:=.exhausted}) (o:=.loop {L3 with state:=.exhausted})
   (by simp) (by rw[hb3];exact World.putObj_heap_same hlt3) (fun B hB=>World.putObj_heap_other (by rw[hb3] at hB;exact hB))
   ⟨_,rfl,l1,l2,l3,rfl,l5,l6,l7,l8,l9,l10⟩ (hR3.sc _ _ hr3).2
  rw[←H.get_set] at hR4 hE4
  have hgrow:grow (grow p1 h1.next (h1.next+1)) (h1.add (.loop ⟨fn,s.tm,N,ps.toList,as',body',.ready,none,d⟩)).next h3.next=grow p s.h.next s'.h.next:=by
   rw[hn2,hp1,hs'n,grow_grow (by omega) (by omega),grow_grow (by omega) (by omega)]
  rw[hgrow] at hR3 hE3 hR4 hE4
  have hE:Ext φ p s.h.get w φ3 (grow p s.h.next s'.h.next) (h3.set h1.next (.loop {r3 with st:=.exhausted})).get (w3.putObj w1.heap.size (.loop {L3 with state:=.exhausted})):=
   ((hE1.trans hE2).trans hE3).trans hE4
  have hwf3:h3.wf:=hle3.2 ((H.le_add _ _).2 hw1)
  have hag13:φ1.agree φ3 p1:=hagL.trans hag3 (fun b hb=>.inl hb)
  have haft:After Ty N φ p s.h w s' {a with defers:=mark++a.defers} (w3.putObj w1.heap.size (.loop {L3 with state:=.exhausted})):=by
   refine⟨φ3,?_,by rw[hs'] at hE⊢;exact hE⟩
   have hpm:∀b,p1 b→grow p s.h.next s'.h.next b:=by
    rw[hp1,hs'n]
    rintro b (hb|hb)
    ·exact .inl hb
    ·exact .inr (by omega)
   refine⟨by rw[hs'] at hR4⊢;exact hR4,?_,?_,?_,?_,?_⟩
   ·rw[hs'];exact hon.tms.agree hE.agree hon.sc
   ·rw[hs'] at hpm⊢;exact hsc1.mono hpm
   ·rw[hs'];show mark++a.defers=_;rw[hmk];exact marks_agree hag13 hdf
   ·rw[hs'] at hpm⊢;exact fun d hd=>hpm d (hdf d hd)
   ·rw[hs'];exact(H.le_set hr3).2 hwf3
  have hQ:=hq _ _ haft
  generalize w3.putObj w1.heap.size (.loop {L3 with state:=.exhausted})=w4 at hQ⊢
  rcases hy with⟨e1,rfl⟩|⟨id,e1,rfl⟩|⟨e1,rfl⟩
  ·rw[l5,e1];exact hQ
  ·rw[l5,e1];exact wpIn_exit hQ
  ·rw[l5,e1];exact wpIn_ret hQ
theorem evC_sound (hT:TyOK P Ty)(hD:8≤P.depth)(hM:P.follows .mixedOrders=true){K:Kall}(hK:KOk P Ty K){fn:FuncId}{fuel:Nat}:∀(c:Code) (C:C),comp Ty c=some C→C.lt N=true→
  ∀{F:Fence} (hF:Wide F) {n:Nat} {ro:Option Nat} {s:St} {x:X} {s':St} {φ:Phi} {p:Nat→Prop} {a:Act} {w:World},F.round=ro.map φ.blk→(∀l,ro=some l→p l)→
  evC K N fn ro fuel C s=some (x,s')→On Ty N φ p s a w→Fresh p s.h.next s'.h.next→c.wpIn F n P (fun e a' w'=>e=x.exit∧After Ty N φ p s.h w s' a' w') a w:=by
 intro c
 induction c with
 |skip=>
  intro C hc hlt F hF n ro s x s' φ p a w hro hrp hv hon hf
  cases hc;cases hv
  exact wpIn_skip ⟨rfl,After.of_eq hon⟩
 |label l=>
  intro C hc hlt F hF n ro s x s' φ p a w hro hrp hv hon hf
  cases hc;cases hv
  exact wpIn_label ⟨rfl,After.of_eq hon⟩
 |exit id=>
  intro C hc hlt F hF n ro s x s' φ p a w hro hrp hv hon hf
  cases hc;cases hv
  exact wpIn_exit ⟨rfl,After.of_eq hon⟩
 |ret=>
  intro C hc hlt F hF n ro s x s' φ p a w hro hrp hv hon hf
  cases hc;cases hv
  exact wpIn_ret ⟨rfl,After.of_eq hon⟩
 |region id ops draw=>
  intro C hc hlt F hF n ro s x s' φ p a w hro hrp hv hon hf
  cases draw with
  |false=>
   simp only[comp] at hc
   split at hc
   ·rename_i l hl
    cases hc
    simp only[evC] at hv
    split at hv
    ·rename_i tm h he
     cases hv
     exact wpIn_region (ops_sound hF hT hD hK _ _ l (range_map ops) hl hlt he hon hf fun a' w' haft=>⟨rfl,haft⟩)
    ·cases hv
   ·cases hc
  |true=>
   have hc':=hc
   simp only[comp] at hc
   split at hc
   ·cases hc
    simp only[evC] at hv
    split at hv
    ·rename_i tm h he
     cases hv
     exact dops_sound hF hT hD hM hK hc' hlt he hon hf fun a' w' haft=>⟨rfl,haft⟩
    ·cases hv
   ·split at hc
    ·cases hc
     simp only[evC] at hv
     split at hv
     ·rename_i tm h he
      cases hv
      exact dops_sound hF hT hD hM hK hc' hlt he hon hf fun a' w' haft=>⟨rfl,haft⟩
     ·cases hv
    ·cases hc
 |seq a b iha ihb=>
  intro C hc hlt F hF n ro s x s' φ p act w hro hrp hv hon hf
  simp only[comp] at hc
  split at hc
  ·rename_i ca hca
   split at hc
   ·rename_i cb hcb
    cases hc
    have hlt':ca.lt N=true∧cb.lt N=true:=by
     simp only[C.lt] at hlt;split at hlt
     ·rename_i h1;exact⟨h1,hlt⟩
     ·cases hlt
    simp only[evC] at hv
    split at hv
    ·rename_i y s1 e1
     have l1:=(evC_le hK.le _ _ _ _ e1)
     split at hv
     ·have l2:=(evC_le hK.le _ _ _ _ hv)
      refine wpIn_seq (wpIn_mono (iha ca hca hlt'.1 hF (n:=n) hro hrp e1 hon (hf.left l2.1)) fun e a' w' ⟨h1,h2⟩=>?_)
      subst h1
      obtain⟨φ1,hon1,hE1⟩:=h2
      refine wpIn_mono (ihb cb hcb hlt'.2 hF (n:=n) (ro:=ro) ?_ (fun l hl=>.inl (hrp l hl)) hv hon1 (hf.right l1.1)) fun e a'' w'' ⟨h3,h4⟩=>⟨h3,h4.trans hE1 l1.1 l2.1⟩
      rw[hro]
      cases ro with
      |none=>rfl
      |some l=>simp[(hE1.agree l (hrp l rfl)).1]
     ·cases hv
      exact wpIn_seq (wpIn_mono (iha ca hca hlt'.1 hF (n:=n) hro hrp e1 hon hf) fun e a' w' ⟨h1,h2⟩=>by subst h1;exact⟨rfl,h2⟩)
     ·cases hv
      exact wpIn_seq (wpIn_mono (iha ca hca hlt'.1 hF (n:=n) hro hrp e1 hon hf) fun e a' w' ⟨h1,h2⟩=>by subst h1;exact⟨rfl,h2⟩)
    ·cases hv
   ·cases hc
  ·cases hc
 |cond g a b iha ihb=>
  intro C hc hlt F hF n ro s x s' φ p act w hro hrp hv hon hf
  simp only[comp] at hc
  split at hc
  ·rename_i y hy
   split at hc
   ·rename_i ca hca
    split at hc
    ·rename_i cb hcb
     cases hc
     have hlt':ca.lt N=true∧cb.lt N=true:=by
      simp only[C.lt] at hlt;split at hlt
      ·rename_i h1;exact⟨h1,hlt⟩
      ·cases hlt
     simp only[evC] at hv
     split at hv
     ·rename_i t ht
      have hg:act.eval g=.bool t:=by rw[opsAre_of hon.tms g y hy,ht];rfl
      split at hv
      ·exact wpIn_cond_true hg (iha ca hca hlt'.1 hF hro hrp hv hon hf)
      ·exact wpIn_cond_false hg (ihb cb hcb hlt'.2 hF hro hrp hv hon hf)
     ·cases hv
    ·cases hc
   ·cases hc
  ·cases hc
 |block id a iha=>
  intro C hc hlt F hF n ro s x s' φ p act w hro hrp hv hon hf
  simp only[comp] at hc
  split at hc
  ·rename_i ca hca
   cases hc
   simp only[evC] at hv
   split at hv
   ·rename_i y s1 e1
    have fin:s1=s'→(Exit.inBlock id (fun e a' w'=>e=x.exit∧After Ty N φ p s.h w s' a' w') y.exit=fun a' w'=>After Ty N φ p s.h w s' a' w')→
      (Code.block id a).wpIn F n P (fun e a' w'=>e=x.exit∧After Ty N φ p s.h w s' a' w') act w:=by
     intro e2 e3
     subst e2
     refine wpIn_block (wpIn_mono (iha ca hca hlt hF (n:=n) hro hrp e1 hon hf) fun e a' w' ⟨h1,h2⟩=>?_)
     subst h1;rw[e3];exact h2
    split at hv
    ·cases hv;exact fin rfl (by funext a' w';simp[X.exit,Exit.inBlock])
    ·rename_i j
     split at hv
     ·rename_i hj
      have:=Nat.eq_of_beq_eq_true hj;subst this
      cases hv;exact fin rfl (by funext a' w';simp[X.exit,Exit.inBlock])
     ·rename_i hj
      have hne:¬j=id:=fun e=>by rw[e] at hj;simp at hj
      cases hv;exact fin rfl (by funext a' w';simp[X.exit,Exit.inBlock,hne])
    ·cases hv;exact fin rfl (by funext a' w';simp[X.exit,Exit.inBlock])
   ·cases hv
  ·cases hc
 |loop a iha=>
  intro C hc hlt F hF n ro s x s' φ p act w hro hrp hv hon hf
  simp only[comp] at hc
  split at hc
  ·rename_i ca hca
   cases hc
   simp only[evC] at hv
   refine wpIn_loop_iter (fun m a w1=>∃s1,iter (evC K N fn ro fuel ca) m s1=some (x,s')∧s.h.next≤s1.h.next∧After Ty N φ p s.h w s1 a w1) (fun m a1 w1 ⟨s1,hit,hle,haft⟩=>?_)
    (m:=fuel) ⟨s,hv,Nat.le_refl _,After.of_eq hon⟩
   cases m with
   |zero=>cases hit
   |succ m=>
    refine⟨m,rfl,?_⟩
    simp only[iter] at hit
    split at hit
    ·rename_i y s2 e2
     have l1:=(evC_le hK.le _ _ _ _ e2).1
     have l2:s2.h.next≤s'.h.next:=by
      split at hit
      ·exact(iter_le (fun s x s' h=>evC_le hK.le _ _ _ _ h) _ _ _ _ hit).1
      ·cases hit;exact Nat.le_refl _
      ·cases hit;exact Nat.le_refl _
     obtain⟨φ1,hon1,hE1⟩:=haft
     have hro1:F.round=ro.map φ1.blk:=by
      rw[hro]
      cases ro with
      |none=>rfl
      |some l=>simp[(hE1.agree l (hrp l rfl)).1]
     refine wpIn_mono (iha ca hca hlt hF (n:=n) hro1 (fun l hl=>.inl (hrp l hl)) e2 hon1 ((hf.left l2).right hle)) fun e a' w' ⟨h1,h2⟩=>?_
     subst h1
     have h3:=h2.trans hE1 hle l1
     split at hit
     ·exact⟨s2,hit,Nat.le_trans hle l1,h3⟩
     ·cases hit;exact⟨rfl,h3⟩
     ·cases hit;exact⟨rfl,h3⟩
    ·cases hit
  ·cases hc
 |scope a iha=>
  intro C hc hlt F hF n ro s x s' φ p act w hro hrp hv hon hf
  simp only[comp] at hc
  split at hc
  ·rename_i ca hca
   cases hc
   refine wpIn_scope (wpIn_mono (iha ca hca hlt hF (n:=n) hro hrp hv hon hf) fun e a' w' ⟨h1,h2⟩=>?_)
   subst h1
   cases x<;>exact⟨rfl,h2⟩
  ·cases hc
 |rangeFunc f ps as body ih1 ih2=>
  intro C hc hlt F hF n ro s x s' φ p act w hro hrp hv hon hf
  simp only[comp] at hc
  split at hc
  ·rename_i y hy
   split at hc
   ·rename_i ca hca
    split at hc
    ·rename_i cb hcb
     cases hc
     have hlt':numsLt N ps.toList=true∧ca.lt N=true∧cb.lt N=true:=by
      simp only[C.lt] at hlt
      split at hlt
      ·rename_i h0
       split at hlt
       ·rename_i h1;exact⟨h0,h1,hlt⟩
       ·cases hlt
      ·cases hlt
     refine wpIn_rangeFunc fun fn' _=>?_
     simp only[evC] at hv
     split at hv
     ·rename_i d h1 df hst0
      split at hv
      ·rename_i u h3 hcall
       split at hv
       ·rename_i r3 hr3
        split at hv
        ·cases hv
        ·rename_i hbusy
         have hb:r3.st≠.busy:=fun e=>hbusy e
         have fin:(r3.pend=none∧x=.nrm)∨(∃id,r3.pend=some (.ext id)∧x=.ext id)∨(r3.pend=some .ret∧x=.ret)→
           s'=⟨s.tm,h3.set h1.next (.loop {r3 with st:=.exhausted}),df⟩→
           ∃(l:Nat) (mark:List Deferred) (w₁:World) (d:Deferred) (w₁':World) (g:FuncId) (args:Array Value) (w₂:World),
            (Instr.enterLoop fn' act.tmps ps as body F.round).run P w=.ok (l,mark) w₁∧
            (resolve act.eval (rangeCall f l) 0).run P w₁=.ok d w₁'∧
            (∀f',Target.leads P w₁' d.target d.args=some f'→F.fn f')∧
            (invoke d.target d.args).run P w₁'=.ok (.enter g args) w₂∧
            (F.depth.isSome=true→1≤n)∧
            CallsIn F (n-1) P g args w₂ (rangePost F n P l (fun e a' w'=>e=x.exit∧After Ty N φ p s.h w s' a' w') {act with defers:=mark++act.defers}):=by
          intro hpend hs'
          have hle3:=(hK.le _ _ _ _ _ hcall).1
          rw[H.next_add] at hle3
          have hs'n:s'.h.next=h3.next:=by rw[hs'];exact H.next_set _ _ _
          split at hst0
          ·rename_i g xs ys hfv
           split at hst0
           ·-- an outermost loop
            cases hst0
            have hfr:Fresh p s.h.next (s.h.add .dfr).next:=hf.left (by rw[hs'n];omega)
            rw[H.next_add] at hfr
            have hnp:¬p s.h.next:=hfr _ (Nat.le_refl _) (by omega)
            obtain⟨r1,r2⟩:=rep_new (Ty:=Ty) (w':=w.alloc (.deferred (some []))) hon.rep hnp (x:=.dfr) (o:=.deferred (some [])) (c:=0) rfl rfl trivial
            rw[←H.get_add] at r1 r2
            have hag:=r2.agree
            refine range_core hF hT hK (n:=n) (fn':=fn') (mark:=[{target:=.collected w.heap.size,args:= #[]}]) hy hca hcb hlt'.2.1 hlt'.2.2 hlt'.1 hon r1 r2 (by rw[H.next_add]) ((H.le_add _ _).2 hon.wf) grow_new ?_ ?_ (by rw[H.next_add];omega) ?_ ⟨g,xs,ys,hfv⟩ hcall hr3 hb hpend hs' hf (fun a' w' h=>⟨rfl,h⟩)
            ·intro d hd
             simp only[List.mem_cons] at hd
             rcases hd with rfl|hd
             ·exact grow_new
             ·exact .inl (hon.dfp d hd)
            ·rw[hon.df,marks_agree hag hon.dfp]
             simp[mk1,Phi.set]
            ·rw[hro]
             have:(φ.set s.h.next w.heap.size 0 0).blk s.h.next=w.heap.size:=by simp[Phi.set]
             rw[this]
             simpa using run_enterLoop_outer (P:=P) (w:=w) fn' act.tmps ps as body
           ·rename_i l
            split at hst0
            ·rename_i r hl
             cases hst0
             obtain⟨o,ho,L,rfl,l1,l2,l3,l4,l5,l6,l7,l8,l9,l10⟩:=hon.rep.blk _ _ hl
             have hsc:=(hon.rep.sc _ _ hl).2
             refine range_core hF hT hK (n:=n) (fn':=fn') (mark:=[]) (p1:=p) hy hca hcb hlt'.2.1 hlt'.2.2 hlt'.1 hon hon.rep (Ext.refl _ _ _ _) (by rw[grow_self]) hon.wf hsc.1 hon.dfp hon.df (Nat.le_refl _) ?_ ⟨g,xs,ys,hfv⟩ hcall hr3 hb hpend hs' hf (fun a' w' h=>⟨rfl,h⟩)
             rw[hro]
             simp only[Option.map_some,Instr.enterLoop,Sem.run_bind,run_getLoop ho,Result.andThen_ok,Sem.run_pure,run_newObj_alloc,l6]
            ·cases hst0
          ·cases hst0
         split at hv
         ·rename_i hp;cases hv;exact fin (.inl ⟨hp,rfl⟩) rfl
         ·rename_i z hp
          split at hv
          ·cases hv
          ·rename_i id;cases hv;exact fin (.inr (.inl ⟨id,hp,rfl⟩)) rfl
          ·cases hv;exact fin (.inr (.inr ⟨hp,rfl⟩)) rfl
       ·cases hv
      ·cases hv
     ·cases hv
    ·cases hc
   ·cases hc
  ·cases hc
 |_=>intro C hc;simp[comp] at hc
end
end Go.Ab
