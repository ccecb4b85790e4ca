/- Walks of regions that keep the order of the text; the state that a walk carries. -/
import Derived.Test.YtiphdfiihgbomabGreatAbG
import Derived.Scope
set_option linter.unusedSimpArgs false
set_option linter.unusedVariables false
namespace Go.Ab
def mk1 (φ:Phi)(d:Nat):Deferred:={target:=.collected (φ.blk d),args:= #[]}
structure On (Ty:Nat→Option TD)(N:Nat)(φ:Phi)(p:Nat→Prop)(s:St)(a:Act)(w:World):Prop where
 rep:Rep Ty φ s.h.get p w
 tms:tmsIs φ N s.tm a.tmps
 sc:TmSc p s.tm
 df:a.defers=s.df.map (mk1 φ)
 dfp:∀d∈s.df,p d
 wf:s.h.wf
def After (Ty:Nat→Option TD)(N:Nat)(φ:Phi)(p:Nat→Prop)(h:H)(w:World)(s':St)(a':Act)(w':World):Prop:=
 ∃φ',On Ty N φ' (grow p h.next s'.h.next) s' a' w'∧Ext φ p h.get w φ' (grow p h.next s'.h.next) s'.h.get w'
section
variable {P:Program} {Ty:Nat→Option TD} {F:Fence} {n N:Nat}
theorem After.trans {φ φ1:Phi}{p:Nat→Prop}{h h1:H}{w w1 w2:World}{s2:St}{a2:Act}(hR:Ext φ p h.get w φ1 (grow p h.next h1.next) h1.get w1)
  (l1:h.next≤h1.next) (l2:h1.next≤s2.h.next) (k:After Ty N φ1 (grow p h.next h1.next) h1 w1 s2 a2 w2):After Ty N φ p h w s2 a2 w2:=by
 obtain⟨φ',h1,h2⟩:=k
 rw[grow_grow l1 l2] at h1 h2
 exact⟨φ',h1,hR.trans h2⟩
theorem marks_agree {φ ψ :Phi}{p:Nat→Prop}(h:φ.agree ψ p){l:List Nat}(hl:∀d∈l,p d):l.map (mk1 φ)=l.map (mk1 ψ):=
 List.map_congr_left fun d hd=>by simp[mk1,(h d (hl d hd)).1]
theorem TmSc.mono {p q:Nat→Prop}(h:∀b,p b→q b){tm:T V}(hs:TmSc p tm):TmSc q tm:=fun t v ht=>V.sc_mono h v (hs t v ht)
theorem tms_put {φ:Phi}{tm:T V}{a:Act}(ht:tmsIs φ N tm a.tmps){dst:Option Nat}(hd:∀d,dst=some d→d<N)(v:V):
  tmsIs φ N (putD tm dst v) (a.put dst (conc φ v)).tmps:=by
 cases dst with
 |none=>exact ht
 |some d=>
  have hlt:=hd d rfl
  obtain⟨h1,h2⟩:=ht
  refine⟨by simp[Act.put,h1],fun t=>⟨?_,fun hN=>?_⟩⟩
  ·simp only[Act.put,putD,Opd.ev,T.get_put_eq,Array.getD_eq_getD_getElem?,Array.getElem?_setIfInBounds]
   by_cases e:t=d
   ·subst e
    have:t<a.tmps.size:=by rw[h1];exact hlt
    simp[this]
   ·have e':¬d=t:=fun x=>e x.symm
    simp only[e,e',if_false]
    have:=(h2 t).1
    rw[Array.getD_eq_getD_getElem?] at this
    exact this
  ·simp only[putD,T.get_put_eq]
   have:t≠d:=by omega
   simp[this,(h2 t).2 hN]
theorem put_defers (a:Act)(dst:Option Nat)(v:Value):(a.put dst v).defers=a.defers:=by cases dst<;>rfl
theorem TmSc.put {p:Nat→Prop}{tm:T V}(hs:TmSc p tm){v:V}(hv:v.sc p)(dst:Option Nat):TmSc p (putD tm dst v):=by
 cases dst with
 |none=>exact hs
 |some d=>
  intro t x hx
  simp only[putD,T.get_put_eq] at hx
  by_cases e:t=d
  ·simp only[e,if_true,Option.some.injEq] at hx;subst hx;exact hv
  ·simp only[e,if_false] at hx;exact hs t x hx
theorem und_sc {p:Nat→Prop}:V.sc p .und:=trivial
theorem ops_sound (hF:Wide F)(hT:TyOK P Ty)(hD:8≤P.depth){K:Kall}(hK:KOk P Ty K){ops:Array Oper}{Q:Exit→Act→World→Prop}:
  ∀(is:List Nat) (rest:List Oper) (l:List O),is.map (ops[·]?)=rest.map some→compL Ty ops.toList rest=some l→opsLt N l=true→
  ∀{s:St} {tm':T V} {h':H} {φ:Phi} {p:Nat→Prop} {a:Act} {w:World},evOps K l s.tm s.h=some (tm',h')→On Ty N φ p s a w→Fresh p s.h.next h'.next→
  (∀a' w',After Ty N φ p s.h w ⟨tm',h',s.df⟩ a' w'→Q .normal a' w')→wpOpsIn F n P ops Q is a w
 |is,[],l,hm,hl,hlt,s,tm',h',φ,p,a,w,hv,hon,hf,hq=>by
  simp only[List.map_nil,List.map_eq_nil_iff] at hm
  subst hm
  cases hl
  cases hv
  refine hq a w ⟨φ,?_,?_⟩
  ·dsimp only;rw[grow_self];exact hon
  ·dsimp only;rw[grow_self];exact Ext.refl _ _ _ _
 |is,o::rest,l,hm,hl,hlt,s,tm',h',φ,p,a,w,hv,hon,hf,hq=>by
  cases is with
  |nil=>simp at hm
  |cons i is=>
   simp only[List.map_cons,List.cons.injEq] at hm
   obtain⟨hi,hm⟩:=hm
   simp only[compL] at hl
   cases hx:compO Ty ops.toList o with
   |none=>simp[hx] at hl
   |some x=>
    cases hr:compL Ty ops.toList rest with
    |none=>simp[hx,hr] at hl
    |some r=>
     simp only[hx,hr,Option.some.injEq] at hl
     subst hl
     have hxd:x.dst=o.dst∧∃ii g,compOp Ty o.op=some ii∧gdOf ops.toList o.guard=some g∧x.i=ii∧x.gd=g:=by
      unfold compO at hx
      split at hx
      ·rename_i ii hii
       split at hx
       ·rename_i g hg
        cases hx
        exact⟨rfl,ii,g,hii,hg,rfl,rfl⟩
       ·cases hx
      ·cases hx
     obtain⟨hd,ii,g,hii,hg,rfl,rfl⟩:=hxd
     have hdl:(∀d,o.dst=some d→d<N)∧opsLt N r=true:=by
      simp only[opsLt] at hlt
      split at hlt
      ·rename_i e;rw[←hd];exact⟨fun d h=>(by rw[e] at h;cases h),hlt⟩
      ·rename_i d e
       split at hlt
       ·rename_i e2
        rw[←hd]
        exact⟨fun d' h=>(by rw[e] at h;cases h;simpa using e2),hlt⟩
       ·cases hlt
     have hwant:=want_eq (tm:=s.tm) (φ:=φ) (tmps:=a.tmps) hg (fun d b _=>(hon.tms.2 d).1)
     simp only[wpOpsIn,hi,hwant]
     simp only[evOps] at hv
     cases hw:want s.tm x.gd with
     |true=>
      simp only[hw] at hv
      simp only[if_true]
      cases he:evI K s.tm s.h x.i with
      |none=>simp[he] at hv
      |some q=>
       obtain⟨v,h1⟩:=q
       simp only[he] at hv
       have l1:=(evI_le hK.le he).1
       have l2:=(evOps_le hK.le hv).1
       refine op_sound hF hT hD hK hii he (a:=a) (ρ:=a.eval) rfl (opsAre_of hon.tms) hon.rep hon.sc hon.wf (hf.left l2) fun φ1 w1 hdone hsc=>?_
       have hag:=hdone.2.agree
       have hon1:On Ty N φ1 (grow p s.h.next h1.next) ⟨putD s.tm x.dst v,h1,s.df⟩ (a.put o.dst (conc φ1 v)) w1:=by
        refine⟨hdone.1,?_,?_,?_,fun d hd'=>.inl (hon.dfp d hd'),(evI_le hK.le he).2 hon.wf⟩
        ·rw[hd];exact tms_put (hon.tms.agree hag hon.sc) hdl.1 v
        ·exact(hon.sc.mono fun _ h=>.inl h).put hsc _
        ·rw[put_defers,hon.df];exact marks_agree hag hon.dfp
       refine ops_sound hF hT hD hK is rest r hm hr hdl.2 (s:=⟨putD s.tm x.dst v,h1,s.df⟩) hv hon1 (hf.right l1) fun a' w' haft=>?_
       exact hq a' w' (haft.trans hdone.2 l1 l2)
     |false=>
      simp only[hw] at hv
      simp only[Bool.false_eq_true,if_false]
      refine⟨fun f _=>hF.fn f,?_⟩
      have hon1:On Ty N φ p ⟨putD s.tm x.dst .und,s.h,s.df⟩ (a.put o.dst undef) w:=by
       refine⟨hon.rep,?_,hon.sc.put und_sc _,?_,hon.dfp,hon.wf⟩
       ·rw[hd,←und_eq (φ:=φ)];exact tms_put hon.tms hdl.1 .und
       ·rw[put_defers];exact hon.df
      exact ops_sound hF hT hD hK is rest r hm hr hdl.2 (s:=⟨putD s.tm x.dst .und,s.h,s.df⟩) hv hon1 hf hq
theorem range_map (ops:Array Oper):(List.range ops.size).map (ops[·]?)=ops.toList.map some:=by
 apply List.ext_getElem
 ·simp
 ·intro i h1 h2
  have:i<ops.size:=by simpa using h1
  simp[this]
theorem wpIn_scope {c:Code}{Q:Exit→Act→World→Prop}{a:Act}{w:World}(h:c.wpIn F n P (Exit.noGoto Q) a w):(Code.scope c).wpIn F n P Q a w:=by
 intro b k cs hro hb hr
 have h0:(lone (b.atR a (.code (.scope c)::k)) cs w).fenced P F:=fenced_calm hb hr rfl
 have s0:step P (lone (b.atR a (.code (.scope c)::k)) cs w)=.next (lone (b.atR a (.code c:: .inScope c::k)) cs w):=step_lone_go (by simp[stepG,stepG.exec,Frame.atR])
 have s1:∀a w,step P (lone (b.atR a (.inScope c::k)) cs w)=.next (lone (b.atR a k) cs w):=fun a w=>step_lone_go (by simp[stepG,stepG.exec,Frame.atR])
 obtain⟨e,a₁,w₁,hq,harr⟩:=h b (.inScope c::k) cs hro hb hr
 cases e with
 |normal=>exact⟨.normal,a₁,w₁,hq,.head h0 s0 (StepsIn.trans harr (.one (fenced_calm hb hr rfl) (s1 _ _)))⟩
 |exit id=>
  have hx:exitTo id (.inScope c::k)=exitTo id k:=by simp[exitTo]
  exact⟨.exit id,a₁,w₁,hq,fun k' hk=>.head h0 s0 (harr.1 k' (by rw[hx];exact hk)),
   fun hr' hk=>let⟨k₁,h1,h2⟩:=harr.2 hr' (by rw[hx];exact hk);⟨k₁,h1,.head h0 s0 h2⟩⟩
 |goto l=>exact hq.elim
 |ret=>exact⟨_,a₁,w₁,hq,.of_steps (.one h0 s0) harr⟩
 |panic ch=>exact⟨_,a₁,w₁,hq,.of_steps (.one h0 s0) harr⟩
 |outgrown=>exact⟨_,a₁,w₁,hq,.of_steps (.one h0 s0) harr⟩
theorem wpIn_loop_iter {c:Code}{Q:Exit→Act→World→Prop}(R:Nat→Act→World→Prop)(hstep:∀m a w,R m a w→∃m',m=m'+1∧c.wpIn F n P (Exit.then (R m') Q) a w)
  {m:Nat} {a:Act} {w:World} (h:R m a w):(Code.loop c).wpIn F n P Q a w:=by
 have least:∀m a w,R m a w→∃k,R k a w∧∀j,R j a w→k≤j:=by
  intro m
  induction m using Nat.strongRecOn with
  |_ m ih=>
   intro a w hm
   by_cases hx:∃j,j<m∧R j a w
   ·obtain⟨j,hj,hr⟩:=hx;exact ih j hj a w hr
   ·exact⟨m,hm,fun j hj=>Nat.le_of_not_lt fun hlt=>hx ⟨j,hlt,hj⟩⟩
 let μ :Act→World→Nat:=fun a w=>open Classical in if h:∃k,R k a w∧∀j,R j a w→k≤j then Classical.choose h else 0
 have hμ:∀a w m,R m a w→R (μ a w) a w∧ μ a w≤m:=by
  intro a w m hm
  have hx:=least m a w hm
  have e: μ a w=Classical.choose hx:=by simp only[μ];rw[dif_pos hx]
  have hs:=Classical.choose_spec hx
  rw[e];exact⟨hs.1,hs.2 m hm⟩
 refine wpIn_loop (fun a w=>∃m,R m a w) μ ⟨m,h⟩ fun a w ⟨m,hm⟩=>?_
 obtain⟨h1,h2⟩:=hμ a w m hm
 obtain⟨m',e,hc⟩:=hstep _ _ _ h1
 refine wpIn_mono hc fun x a' w' hx=>?_
 cases x<;>simp only[Exit.then] at hx⊢ <;>first|exact hx|skip
 exact⟨⟨m',hx⟩,by have:=(hμ a' w' m' hx).2;omega⟩
def X.exit:X→Exit
 |.nrm=>.normal
 |.ext id=>.exit id
 |.ret=>.ret
end
end Go.Ab
