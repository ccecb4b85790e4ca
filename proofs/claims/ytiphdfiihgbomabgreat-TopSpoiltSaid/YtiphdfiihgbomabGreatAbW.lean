/- A calculus for contracts on our machine: 'there is fuel enough, and the end is such'. -/
import Derived.Test.YtiphdfiihgbomabGreatAbV
set_option linter.unusedSimpArgs false
set_option linter.unusedVariables false
namespace Go.Ab
section
variable {Fn:Nat→Option FD} {fast:Nat→Option (List V→H→Option (V × H))}
def Ev (Fn:Nat→Option FD)(fast:Nat→Option (List V→H→Option (V × H)))(fv:V)(args:List V)(h:H)(Q:V→H→Prop):Prop:=
 ∃n v h',evV Fn fast n fv args h=some (v,h')∧Q v h'
def W (Fn:Nat→Option FD)(fast:Nat→Option (List V→H→Option (V × H)))(N:Nat)(fn:FuncId)(ro:Option Nat)(c:C)(s:St)(Q:X→St→Prop):Prop:=
 ∃n x s',evC (evV Fn fast n) N fn ro n c s=some (x,s')∧Q x s'
def WO (Fn:Nat→Option FD)(fast:Nat→Option (List V→H→Option (V × H)))(l:List O)(tm:T V)(h:H)(Q:T V→H→Prop):Prop:=
 ∃n tm' h',evOps (evV Fn fast n) l tm h=some (tm',h')∧Q tm' h'
def WI (Fn:Nat→Option FD)(fast:Nat→Option (List V→H→Option (V × H)))(i:I)(tm:T V)(h:H)(Q:V→H→Prop):Prop:=
 ∃n v h',evI (evV Fn fast n) tm h i=some (v,h')∧Q v h'
theorem Ev.mono {fv:V}{args:List V}{h:H}{Q R:V→H→Prop}(he:Ev Fn fast fv args h Q)(hq:∀v h',Q v h'→R v h'):Ev Fn fast fv args h R:=by
 obtain⟨n,v,h',e,q⟩:=he;exact⟨n,v,h',e,hq _ _ q⟩
theorem W.mono {N:Nat}{fn:FuncId}{ro:Option Nat}{c:C}{s:St}{Q R:X→St→Prop}(he:W Fn fast N fn ro c s Q)(hq:∀x s',Q x s'→R x s'):W Fn fast N fn ro c s R:=by
 obtain⟨n,x,s',e,q⟩:=he;exact⟨n,x,s',e,hq _ _ q⟩
theorem WI.of {i:I}{tm:T V}{h:H}{Q:V→H→Prop}{v:V}{h':H}(K:∀K,evI K tm h i=some (v,h'))(q:Q v h'):WI Fn fast i tm h Q:=⟨0,v,h',K _,q⟩
theorem WI.call {f:Opd}{l:List Opd}{tm:T V}{h:H}{Q:V→H→Prop}(he:Ev Fn fast (f.ev tm) (evs tm l) h Q):WI Fn fast (.call f l) tm h Q:=he
theorem WO.nil {tm:T V}{h:H}{Q:T V→H→Prop}(q:Q tm h):WO Fn fast [] tm h Q:=⟨0,tm,h,rfl,q⟩
theorem WO.cons {o:O}{l:List O}{tm:T V}{h:H}{Q:T V→H→Prop}(hw:want tm o.gd=true)(he:WI Fn fast o.i tm h fun v h'=>WO Fn fast l (putD tm o.dst v) h' Q):WO Fn fast (o::l) tm h Q:=by
 obtain⟨n,v,h1,e,m,tm',h',e',q⟩:=he
 refine⟨max n m,tm',h',?_,q⟩
 simp only[evOps,hw]
 rw[evI_mono (evV_mono (Nat.le_max_left n m)) e]
 exact evOps_mono (evV_mono (Nat.le_max_right n m)) e'
theorem WO.skip {o:O}{l:List O}{tm:T V}{h:H}{Q:T V→H→Prop}(hw:want tm o.gd=false)(he:WO Fn fast l (putD tm o.dst .und) h Q):WO Fn fast (o::l) tm h Q:=by
 obtain⟨n,tm',h',e,q⟩:=he
 exact⟨n,tm',h',by simp only[evOps,hw];exact e,q⟩
variable {N:Nat} {fn:FuncId} {ro:Option Nat} {s:St} {Q:X→St→Prop}
theorem W.skip (q:Q .nrm s):W Fn fast N fn ro .skip s Q:=⟨0,.nrm,s,rfl,q⟩
theorem W.exit {id:Nat}(q:Q (.ext id) s):W Fn fast N fn ro (.exit id) s Q:=⟨0,.ext id,s,rfl,q⟩
theorem W.ret (q:Q .ret s):W Fn fast N fn ro .ret s Q:=⟨0,.ret,s,rfl,q⟩
theorem W.scope {a:C}(h:W Fn fast N fn ro a s Q):W Fn fast N fn ro (.scope a) s Q:=h
theorem W.ops {l:List O}(h:WO Fn fast l s.tm s.h fun tm h=>Q .nrm ⟨tm,h,s.df⟩):W Fn fast N fn ro (.ops l) s Q:=by
 obtain⟨n,tm',h',e,q⟩:=h
 exact⟨n,.nrm,⟨tm',h',s.df⟩,by simp only[evC,e],q⟩
def X.next (x:X)(a:Prop)(b:Prop):Prop:=match x with|.nrm=>a|_=>b
theorem W.seq {a b:C}(h:W Fn fast N fn ro a s fun x s'=>match x with|.nrm=>W Fn fast N fn ro b s' Q|x=>Q x s'):W Fn fast N fn ro (.seq a b) s Q:=by
 obtain⟨n,x,s1,e,q⟩:=h
 cases x with
 |nrm=>
  obtain⟨m,y,s2,e2,q2⟩:=q
  refine⟨max n m,y,s2,?_,q2⟩
  simp only[evC]
  rw[evC_mono (evV_mono (Nat.le_max_left n m)) (Nat.le_max_left n m) _ _ _ e]
  exact evC_mono (evV_mono (Nat.le_max_right n m)) (Nat.le_max_right n m) _ _ _ e2
 |ext id=>exact⟨n,.ext id,s1,by simp only[evC,e],q⟩
 |ret=>exact⟨n,.ret,s1,by simp only[evC,e],q⟩
theorem W.cond {x:Opd}{a b:C}{t:Bool}(hx:x.ev s.tm=.bool t)(h:match t with|true=>W Fn fast N fn ro a s Q|false=>W Fn fast N fn ro b s Q):W Fn fast N fn ro (.cond x a b) s Q:=by
 cases t with
 |true=>obtain⟨n,y,s',e,q⟩:=h;exact⟨n,y,s',by simp only[evC,hx];exact e,q⟩
 |false=>obtain⟨n,y,s',e,q⟩:=h;exact⟨n,y,s',by simp only[evC,hx];exact e,q⟩
theorem W.block {id:Nat}{a:C}(h:W Fn fast N fn ro a s fun x s'=>match x with|.ext j=>(match Nat.beq j id with|true=>Q .nrm s'|false=>Q (.ext j) s')|x=>Q x s'):W Fn fast N fn ro (.block id a) s Q:=by
 obtain⟨n,x,s1,e,q⟩:=h
 cases x with
 |nrm=>exact⟨n,.nrm,s1,by simp only[evC,e],q⟩
 |ret=>exact⟨n,.ret,s1,by simp only[evC,e],q⟩
 |ext j=>
  cases hj:Nat.beq j id with
  |true=>simp only[hj] at q;exact⟨n,.nrm,s1,by simp only[evC,e,hj],q⟩
  |false=>simp only[hj] at q;exact⟨n,.ext j,s1,by simp only[evC,e,hj],q⟩
theorem W.loop {a:C}(h:W Fn fast N fn ro a s fun x s'=>match x with|.nrm=>W Fn fast N fn ro (.loop a) s' Q|x=>Q x s'):W Fn fast N fn ro (.loop a) s Q:=by
 obtain⟨n,x,s1,e,q⟩:=h
 have one:∀k,n≤k→evC (evV Fn fast k) N fn ro k a s=some (x,s1):=fun k hk=>evC_mono (evV_mono hk) hk _ _ _ e
 cases x with
 |nrm=>
  obtain⟨m,y,s2,e2,q2⟩:=q
  simp only[evC] at e2
  refine⟨max n m+1,y,s2,?_,q2⟩
  simp only[evC,iter]
  rw[one (max n m+1) (by omega)]
  exact iter_mono (fun s r h=>evC_mono (evV_mono (by omega)) (by omega) _ _ _ h) (Nat.le_max_right n m) e2
 |ext id=>exact⟨n+1,.ext id,s1,by simp only[evC,iter];rw[one (n+1) (by omega)],q⟩
 |ret=>exact⟨n+1,.ret,s1,by simp only[evC,iter];rw[one (n+1) (by omega)],q⟩
theorem Ev.body {f:FuncId}{x y args:List V}{h:H}{fd:FD}{Q:V→H→Prop}(hfast:fast f=none)(hf:Fn f=some fd)(hn:Nat.ble (lenN (appN x (appN args y))) fd.ntmps=true)
  (hb:W Fn fast fd.ntmps f none fd.body ⟨tm0 0 (appN x (appN args y)) .nil,h,[]⟩ fun e s=>match e with
   |.ext _=>False
   |_=>∃h' v,marks s.df s.h=some h'∧resV s.tm h' fd.res=some v∧Q v h'):Ev Fn fast (.fn f x y) args h Q:=by
 obtain⟨n,e,s,he,q⟩:=hb
 cases e with
 |ext id=>exact q.elim
 |nrm=>
  obtain⟨h',v,h1,h2,q⟩:=q
  exact⟨n+1,v,h',by simp only[evV,hfast,hf,hn,he,h1,h2],q⟩
 |ret=>
  obtain⟨h',v,h1,h2,q⟩:=q
  exact⟨n+1,v,h',by simp only[evV,hfast,hf,hn,he,h1,h2],q⟩
def WT (Fn:Nat→Option FD)(fast:Nat→Option (List V→H→Option (V × H)))(l:List O)(tm:T V)(h:H)(Q:List Rec→T V→H→Prop):Prop:=
 ∃n rs tm' h',runT (evV Fn fast n) l tm h=some (rs,tm',h')∧Q rs tm' h'
theorem WT.nil {tm:T V}{h:H}{Q:List Rec→T V→H→Prop}(q:Q [] tm h):WT Fn fast [] tm h Q:=⟨0,[],tm,h,rfl,q⟩
theorem WT.cons {o:O}{l:List O}{tm:T V}{h:H}{Q:List Rec→T V→H→Prop}(hw:want tm o.gd=true)
  (he:WI Fn fast o.i tm h fun v h'=>WT Fn fast l (putD tm o.dst v) h' fun rs tm' h''=>Q (⟨o,tm,h,v,h',true⟩::rs) tm' h''):WT Fn fast (o::l) tm h Q:=by
 obtain⟨n,v,h1,e,m,rs,tm',h',e',q⟩:=he
 refine⟨max n m,⟨o,tm,h,v,h1,true⟩::rs,tm',h',?_,q⟩
 simp only[runT,hw]
 rw[evI_mono (evV_mono (Nat.le_max_left n m)) e]
 simp only
 rw[runT_mono (evV_mono (Nat.le_max_right n m)) e']
theorem WT.skip {o:O}{l:List O}{tm:T V}{h:H}{Q:List Rec→T V→H→Prop}(hw:want tm o.gd=false)
  (he:WT Fn fast l (putD tm o.dst .und) h fun rs tm' h''=>Q (⟨o,tm,h,.und,h,false⟩::rs) tm' h''):WT Fn fast (o::l) tm h Q:=by
 obtain⟨n,rs,tm',h',e,q⟩:=he
 exact⟨n,⟨o,tm,h,.und,h,false⟩::rs,tm',h',by simp only[runT,hw,e],q⟩
theorem W.dops {l:List O}(h:WT Fn fast l s.tm s.h fun rs tm h=>seenAll (stages s.h rs) rs=true∧Q .nrm ⟨tm,h,s.df⟩):W Fn fast N fn ro (.dops l) s Q:=by
 obtain⟨n,rs,tm',h',e,q1,q2⟩:=h
 exact⟨n,.nrm,⟨tm',h',s.df⟩,by simp only[evC,evD,e,q1],q2⟩
theorem Ev.spec {P:Program}{Ty:Nat→Option TD}(hT:TyOK P Ty)(hD:8≤P.depth)(hM:P.follows .mixedOrders=true)(hFn:FnOk P Ty Fn)(hfast:FastOk P Ty fast){f:FuncId}(hc:Callable P f)
  {args:List V} {h:H} {Q:V→H→Prop} (he:Ev Fn fast (.fn f [] []) args h Q):∃v h',SpecOk P Ty f args h v h'∧Q v h':=by
 obtain⟨n,v,h',e,q⟩:=he
 exact⟨v,h',spec_of_run (evV_ok hT hD hM hFn hfast n) hc e,q⟩
end
end Go.Ab
