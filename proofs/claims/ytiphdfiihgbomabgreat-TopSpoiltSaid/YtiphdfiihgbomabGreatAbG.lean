/- One operation within a walk. -/
import Derived.Test.YtiphdfiihgbomabGreatAbF
import Derived.OrdersIn
import Derived.RangeFuncIn
import Derived.RangeFuncLeaves
import Derived.RangeFuncCalls
set_option linter.unusedSimpArgs false
set_option linter.unusedVariables false
namespace Go.Ab
structure Wide (F:Fence):Prop where
 fn:∀f,F.fn f
 depth:F.depth=none
theorem Wide.room {F:Fence}(h:Wide F)(n:Nat):F.room n:=fun d hd=>by rw[h.depth] at hd;cases hd
theorem Wide.isSome {F:Fence}(h:Wide F){q:Prop}:F.depth.isSome=true→q:=by rw[h.depth];intro h;cases h
theorem Wide.inRound {F:Fence}(h:Wide F)(l:Nat):Wide (F.inRound l):=⟨h.fn,h.depth⟩
theorem wide_wide:Wide Fence.wide:=⟨fun _=>trivial,rfl⟩
def Fresh (p:Nat→Prop)(a c:Nat):Prop:=∀b,a≤b→b<c→¬p b
theorem Fresh.left {p:Nat→Prop}{a b c:Nat}(h:Fresh p a c)(hb:b≤c):Fresh p a b:=fun x h1 h2=>h x h1 (by omega)
theorem Fresh.right {p:Nat→Prop}{a b c:Nat}(h:Fresh p a c)(hb:a≤b):Fresh (grow p a b) b c:=fun x h1 h2 h3=>by
 rcases h3 with h3|h3
 ·exact h x (by omega) h2 h3
 ·omega
theorem grow_grow {p:Nat→Prop}{a b c:Nat}(h1:a≤b)(h2:b≤c):grow (grow p a b) b c=grow p a c:=by
 funext x;apply propext
 simp only[grow]
 constructor
 ·rintro((h|h)|h)
  ·exact .inl h
  ·exact .inr (by omega)
  ·exact .inr (by omega)
 ·rintro(h|h)
  ·exact .inl (.inl h)
  ·by_cases hx:x<b
   ·exact .inl (.inr (by omega))
   ·exact .inr (by omega)
section
variable {P:Program} {Ty:Nat→Option TD} {F:Fence} {n:Nat}
def Done (Ty:Nat→Option TD)(φ:Phi)(p:Nat→Prop)(h:H)(w:World)(h':H)(φ':Phi)(w':World):Prop:=
 Rep Ty φ' h'.get (grow p h.next h'.next) w'∧Ext φ p h.get w φ' (grow p h.next h'.next) h'.get w'
theorem Done.refl {φ:Phi}{p:Nat→Prop}{h:H}{w:World}(hR:Rep Ty φ h.get p w):Done Ty φ p h w h φ w:=by
 unfold Done;rw[grow_self];exact⟨hR,Ext.refl _ _ _ _⟩
theorem Done.trans {φ φ1 φ2:Phi}{p:Nat→Prop}{h h1 h2:H}{w w1 w2:World}(a:Done Ty φ p h w h1 φ1 w1)(b:Done Ty φ1 (grow p h.next h1.next) h1 w1 h2 φ2 w2)
  (l1:h.next≤h1.next) (l2:h1.next≤h2.next):Done Ty φ p h w h2 φ2 w2:=by
 have:=b.1;rw[grow_grow l1 l2] at this
 have c:=b.2;rw[grow_grow l1 l2] at c
 exact⟨this,a.2.trans c⟩
def Answers (Ty:Nat→Option TD)(φ:Phi)(p:Nat→Prop)(h:H)(w:World)(v:V)(h':H)(e:Ending)(w':World):Prop:=
 ∃φ',e=.returned (conc φ' v)∧Done Ty φ p h w h' φ' w'∧v.sc (grow p h.next h'.next)
def KRes (Ty:Nat→Option TD)(F:Fence)(n:Nat)(P:Program)(φ:Phi)(p:Nat→Prop)(h:H)(w:World)(v:V)(h':H):Next→Prop
 |.enter f args=>CallsIn F n P f args w (Answers Ty φ p h w v h')
 |.round l f tmps as body=>RoundIn F n P l f tmps as body w (Answers Ty φ p h w v h')
 |_=>False
structure KOk (P:Program)(Ty:Nat→Option TD)(K:Kall):Prop where
 le:Kle K
 run:∀{fv args h v h'},K fv args h=some (v,h')→∀{F n φ p w},Wide F→Fresh p h.next h'.next→Rep Ty φ h.get p w→fv.sc p→scL p args→h.wf→
  ∃nx,(do let d ←Deferred.ofValue (conc φ fv) (args.map (conc φ)).toArray;invoke d.target d.args:Sem Next).run P w=.ok nx w∧KRes Ty F n P φ p h w v h' nx∧((∃f x y,fv=.fn f x y)→∃g as,nx=.enter g as)
theorem not_defer {o:Op}{i:I}(hc:compOp Ty o=some i):∀c,o≠.defer c:=by
 rintro c rfl;simp[compOp] at hc
theorem op_nx (hF:Wide F){o:Oper}(hd:∀c,o.op≠.defer c){a:Act}{w w':World}{ρ:Operand→Value}(he:execOp a.eval o=execOp ρ o){nx:Next}{u:Value}
  (hr:(execOp ρ o).run P w=.ok nx w') (hu:nx=.value u∨nx=.skip∧u=undef) {next:Act→World→Prop} {Q:Exit→Act→World→Prop} (hn:next (a.put o.dst u) w'):
  o.wpIn F n P a w next Q:=by
 refine⟨fun f _=>hF.fn f,?_⟩
 rw[Oper.semAt_eq _ _ _ hd,he,hr]
 rcases hu with rfl|⟨rfl,rfl⟩<;>exact hn
theorem op_read (hF:Wide F)(hT:TyOK P Ty)(hD:8≤P.depth){o:Oper}{i:I}(hc:compOp Ty o.op=some i)(hk:i.kind=0){tm:T V}{h:H}{v:V}(hv:evQ tm h i=some v)
  {a:Act} {ρ:Operand→Value} (he:execOp a.eval o=execOp ρ o) {φ:Phi} {p:Nat→Prop} {w:World} (hρ:OpsAre φ tm ρ) (hR:Rep Ty φ h.get p w) (hs:TmSc p tm)
  {next:Act→World→Prop} {Q:Exit→Act→World→Prop} (hn:v.sc p→next (a.put o.dst (conc φ v)) w):o.wpIn F n P a w next Q:=by
 obtain⟨h1,h2⟩:=q_sound hT hD hc hk hv hρ hR hs
 exact op_nx hF (not_defer hc) he h1 (.inl rfl) (hn h2)
theorem op_new (hF:Wide F)(hT:TyOK P Ty){o:Oper}{i:I}(hc:compOp Ty o.op=some i)(hk:i.kind=1){tm:T V}{h h':H}{v:V}(hv:evA tm h i=some (v,h')):
  ∃X,h'=h.add X∧X.rw=true∧∀{a:Act} {ρ:Operand→Value},execOp a.eval o=execOp ρ o→∀{φ:Phi} {p:Nat→Prop} {g:Nat→Option Blk} {w:World},OpsAre φ tm ρ→Rep Ty φ g p w→TmSc p tm→¬p h.next→
   ∀{next:Act→World→Prop} {Q:Exit→Act→World→Prop},(∀φ' w',Rep Ty φ' (upd g h.next (some X)) (grow p h.next (h.next+1)) w'→Ext φ p g w φ' (grow p h.next (h.next+1)) (upd g h.next (some X)) w'→
    v.sc (grow p h.next (h.next+1))→next (a.put o.dst (conc φ' v)) w')→o.wpIn F n P a w next Q:=by
 obtain⟨X,h1,h2,h3⟩:=a_sound hT hc hk hv
 refine⟨X,h1,h2,fun{a ρ} he {φ p g w} hρ hR hs hp {next Q} hn=>?_⟩
 obtain⟨φ',w',r1,r2,r3,r4⟩:=h3 hρ hR hs hp
 exact op_nx hF (not_defer hc) he r1 (.inl rfl) (hn _ _ r2 r3 r4)
theorem op_call (hF:Wide F){K:Kall}(hK:KOk P Ty K){o:Oper}{i:I}(hc:compOp Ty o.op=some i)(hk:i.kind=3){tm:T V}{h h':H}{v:V}(hv:evI K tm h i=some (v,h'))
  {a:Act} {ρ:Operand→Value} (he:execOp a.eval o=execOp ρ o) {φ:Phi} {p:Nat→Prop} {w:World} (hρ:OpsAre φ tm ρ) (hR:Rep Ty φ h.get p w) (hs:TmSc p tm) (hw:h.wf)
  (hf:Fresh p h.next h'.next) {next:Act→World→Prop} {Q:Exit→Act→World→Prop}
  (hn:∀φ' w',Done Ty φ p h w h' φ' w'→v.sc (grow p h.next h'.next)→next (a.put o.dst (conc φ' v)) w'):o.wpIn F n P a w next Q:=by
 refine⟨fun f _=>hF.fn f,?_⟩
 rw[Oper.semAt_eq _ _ _ (not_defer hc),he]
 obtain⟨dst,op,type,pos,after,guard⟩:=o
 cases op
 case call c=>
  obtain⟨callee,args,ts⟩:=c
  simp only[compOp] at hc
  cases callee
  case value f=>
   simp only at hc
   split at hc
   ·rename_i f' l hf' hl
    cases hc
    simp only[evI] at hv
    obtain⟨nx,h1,h2,_⟩:=hK.run hv (F:=F) (n:=n-1) hF hf hR (ev_sc hs hf') (evs_sc hs hl) hw
    have h3:(execOp ρ ⟨dst,.call ⟨.value f,args,ts⟩,type,pos,after,guard⟩).run P w=.ok nx w:=by
     rw[←h1]
     have e1:args.map ρ=((evs tm l).map (conc φ)).toArray:=by
      rw[←opds_map hρ hl];exact Array.toList_inj.1 (by simp)
     simp only[execOp,resolve,hρ f f' hf',e1]
    rw[h3]
    cases nx<;>simp only[KRes] at h2
    case enter g as=>
     refine⟨hF.isSome,CallsIn.mono h2 fun e w' he'=>?_⟩
     obtain⟨φ',rfl,hd,hsc⟩:=he'
     exact hn _ _ hd hsc
    case round l g tmps as body=>
     refine⟨hF.isSome,RoundIn.mono h2 fun e w' he'=>?_⟩
     obtain⟨φ',rfl,hd,hsc⟩:=he'
     exact hn _ _ hd hsc
   ·cases hc
  case builtin b=>
   exfalso
   simp only at hc
   unfold compCall at hc
   repeat' (split at hc)
   all_goals first
    |(cases hc;done)
    |(simp only[Option.some.injEq] at hc;subst hc;simp[I.kind] at hk)
  case invoke=>simp at hc
 case makeFunc fn a b=>
  cases fn<;>simp only[compOp] at hc
  case func f=>
   split at hc
   ·cases hc;simp[I.kind] at hk
   ·cases hc
  all_goals cases hc
 case makeMap t r=>
  cases r<;>simp[compOp] at hc
  subst hc;simp[I.kind] at hk
 all_goals
  first
   |(simp[compOp] at hc;done)
   |(exfalso;simp only[compOp] at hc
     repeat' (split at hc)
     all_goals first
      |(cases hc;done)
      |(simp only[Option.some.injEq] at hc;subst hc;simp[I.kind] at hk))
theorem op_eff (hF:Wide F)(hT:TyOK P Ty){K:Kall}(hK:KOk P Ty K){o:Oper}{i:I}(hc:compOp Ty o.op=some i)(hk:2≤i.kind){tm:T V}{h h':H}{v:V}(hv:evI K tm h i=some (v,h'))
  {a:Act} {ρ:Operand→Value} (he:execOp a.eval o=execOp ρ o) {φ:Phi} {p:Nat→Prop} {w:World} (hρ:OpsAre φ tm ρ) (hR:Rep Ty φ h.get p w) (hs:TmSc p tm) (hw:h.wf)
  (hf:Fresh p h.next h'.next) {next:Act→World→Prop} {Q:Exit→Act→World→Prop}
  (hn:∀φ' w',Done Ty φ p h w h' φ' w'→v.sc (grow p h.next h'.next)→next (a.put o.dst (conc φ' v)) w'):o.wpIn F n P a w next Q:=by
 have hk':i.kind=2∨i.kind=3:=by
  cases i<;>simp_all [I.kind]
 rcases hk' with h2|h3
 ·rw[evI_2 h2] at hv
  obtain⟨_,hr⟩:=e_sound hT hc h2 hv
  obtain⟨φ',w',nx,r1,r2,r3,r4,r5⟩:=hr hρ hR hs hf
  refine op_nx hF (not_defer hc) he r1 (u:=conc φ' v) ?_ (hn _ _ ⟨r3,r4⟩ r5)
  rcases r2 with r2|⟨r2,rfl⟩
  ·exact .inl r2
  ·exact .inr ⟨r2,und_eq⟩
 ·exact op_call hF hK hc h3 hv he hρ hR hs hw hf hn
theorem op_sound (hF:Wide F)(hT:TyOK P Ty)(hD:8≤P.depth){K:Kall}(hK:KOk P Ty K){o:Oper}{i:I}(hc:compOp Ty o.op=some i){tm:T V}{h h':H}{v:V}(hv:evI K tm h i=some (v,h'))
  {a:Act} {ρ:Operand→Value} (he:execOp a.eval o=execOp ρ o) {φ:Phi} {p:Nat→Prop} {w:World} (hρ:OpsAre φ tm ρ) (hR:Rep Ty φ h.get p w) (hs:TmSc p tm) (hw:h.wf)
  (hf:Fresh p h.next h'.next) {next:Act→World→Prop} {Q:Exit→Act→World→Prop}
  (hn:∀φ' w',Done Ty φ p h w h' φ' w'→v.sc (grow p h.next h'.next)→next (a.put o.dst (conc φ' v)) w'):o.wpIn F n P a w next Q:=by
 by_cases h0:i.kind=0
 ·rw[evI_0 h0] at hv
  unfold lq at hv
  split at hv
  ·rename_i v' e
   cases hv
   refine op_read hF hT hD hc h0 e he hρ hR hs fun hsc=>?_
   exact hn φ w (Done.refl hR) (by rw[grow_self];exact hsc)
  ·cases hv
 ·by_cases h1:i.kind=1
  ·rw[evI_1 h1] at hv
   obtain⟨X,rfl,_,hr⟩:=op_new (F:=F) (n:=n) hF hT hc h1 hv
   rw[H.next_add] at hf hn
   refine hr he hρ hR hs (hf _ (Nat.le_refl _) (by omega)) fun φ' w' a1 a2 a3=>hn φ' w' ?_ a3
   unfold Done
   rw[H.next_add,H.get_add]
   exact⟨a1,a2⟩
  ·exact op_eff hF hT hK hc (by omega) hv he hρ hR hs hw hf hn
theorem want_eq {φ:Phi}{tm:T V}{ops:Array Oper}{o:Oper}{tmps:Array Value}{g:Option (Nat × Bool)}(hg:gdOf ops.toList o.guard=some g)
  (ht:∀d b,g=some (d,b)→tmps.getD d undef=conc φ ((Opd.t d).ev tm)):Region.wanted o (yielded ops tmps)=want tm g:=by
 unfold gdOf at hg
 unfold Region.wanted
 split at hg
 ·rename_i e
  cases hg
  rw[e];rfl
 ·rename_i j b e
  rw[e]
  split at hg
  ·rename_i oj hj
   split at hg
   ·rename_i d hd
    cases hg
    have hjj:ops[j]? =some oj:=by rw[←Array.getElem?_toList];exact hj
    have h1:=ht d b rfl
    simp only[yielded,hjj,Option.bind_some,hd,want]
    rw[Array.getD_eq_getD_getElem?] at h1
    cases hx:tmps[d]? with
    |none=>
     simp only[hx,Option.getD_none] at h1
     simp only[Opd.ev] at h1
     cases hv:tm.get d with
     |none=>simp
     |some v=>
      simp only[hv] at h1
      cases v<;>simp[conc,concs,undef] at h1⊢
    |some x=>
     simp only[hx,Option.getD_some] at h1
     simp only[Opd.ev] at h1
     cases hv:tm.get d with
     |none=>rw[hv] at h1;simp only[conc,concs] at h1;subst h1;simp
     |some v=>
      simp only[hv] at h1
      subst h1
      cases v
      case bool c=>cases c<;>cases b<;>simp[conc]
      case sl b o n c=>cases c<;>simp[conc]
      all_goals simp[conc]
   ·cases hg
  ·cases hg
end
end Go.Ab
