/- Range over a function, in the calculus. -/
import Derived.Test.YtiphdfiihgbomabGreatAc4
set_option linter.unusedSimpArgs false
set_option linter.unusedVariables false
namespace Go.Ab
section
variable {Fn:Nat→Option FD} {fast:Nat→Option (List V→H→Option (V × H))} {N:Nat} {fn:FuncId}
def Kround (l:Nat)(Q:V→H→Prop)(x:X)(s:St):Prop:=∃r2,s.h.get l=some (.loop r2)∧match x with
 |.nrm=>Q (.bool true) (s.h.set l (.loop {r2 with st:=.ready,pend:=none}))
 |.ext id=>Q (.bool false) (s.h.set l (.loop {r2 with st:=.done,pend:=some (.ext id)}))
 |.ret=>Q (.bool false) (s.h.set l (.loop {r2 with st:=.done,pend:=some .ret}))
def Kasg (Fn:Nat→Option FD)(fast:Nat→Option (List V→H→Option (V × H)))(l:Nat)(r:LoopR)(Q:V→H→Prop)(x:X)(s:St):Prop:=x=.nrm∧∃r1,s.h.get l=some (.loop r1)∧r1.st=.ready∧
 W Fn fast r.n r.fn (some l) r.body ⟨s.tm,s.h.set l (.loop {r1 with st:=.busy}),s.df⟩ (Kround l Q)
theorem Ev_yld {h:H}{l:Nat}{r:LoopR}{tm:T V}{args:List V}{Q:V→H→Prop}(hg:h.get l=some (.loop r))(hb:bindP r.ps args r.tm=some tm)
  (ha:W Fn fast r.n r.fn (some l) r.assign ⟨tm,h,[]⟩ (Kasg Fn fast l r Q)):Ev Fn fast (.yld l) args h Q:=by
 obtain⟨n1,x1,s1,e1,rfl,r1,g1,t1,n2,x2,s2,e2,r2,g2,q⟩:=ha
 have m1:=evC_mono (evV_mono (Fn:=Fn) (fast:=fast) (Nat.le_max_left n1 n2)) (Nat.le_max_left n1 n2) _ _ _ e1
 have m2:=evC_mono (evV_mono (Fn:=Fn) (fast:=fast) (Nat.le_max_right n1 n2)) (Nat.le_max_right n1 n2) _ _ _ e2
 cases x2 with
 |nrm=>exact⟨max n1 n2+1,_,_,by simp only[evV,hg,hb,m1,g1,t1,m2,g2],q⟩
 |ext id=>exact⟨max n1 n2+1,_,_,by simp only[evV,hg,hb,m1,g1,t1,m2,g2],q⟩
 |ret=>exact⟨max n1 n2+1,_,_,by simp only[evV,hg,hb,m1,g1,t1,m2,g2],q⟩
theorem W_rf {f:Opd}{ps:List Nat}{assign body:C}{tm:T V}{h:H}{df:List Nat}{Q:X→St→Prop}{i:FuncId}{a b:List V}(hf:f.ev tm=.fn i a b)
  (he:Ev Fn fast (.fn i a b) [.yld (h.next+1)] ((h.add .dfr).add (.loop ⟨fn,tm,N,ps,assign,body,.ready,none,h.next⟩)) fun _ h3=>∃r,h3.get (h.next+1)=some (.loop r)∧r.st≠.busy∧
   match r.pend with
   |none=>Q .nrm ⟨tm,h3.set (h.next+1) (.loop {r with st:=.exhausted}),h.next::df⟩
   |some .nrm=>False
   |some (.ext id)=>Q (.ext id) ⟨tm,h3.set (h.next+1) (.loop {r with st:=.exhausted}),h.next::df⟩
   |some .ret=>Q .ret ⟨tm,h3.set (h.next+1) (.loop {r with st:=.exhausted}),h.next::df⟩):W Fn fast N fn none (.rf f ps assign body) ⟨tm,h,df⟩ Q:=by
 obtain⟨n,v,h3,e,r,hg,hst,hq⟩:=he
 have hnx:(h.add .dfr).next=h.next+1:=H.next_add _ _
 cases hp:r.pend with
 |none=>
  rw[hp] at hq
  refine⟨n,.nrm,_,?_,hq⟩
  simp only[evC,hf,hnx,e,hg,hp]
  try(cases h:r.st<;>simp_all)
 |some x=>
  rw[hp] at hq
  cases x with
  |nrm=>exact hq.elim
  |ext id=>
   refine⟨n,.ext id,_,?_,hq⟩
   simp only[evC,hf,hnx,e,hg,hp]
   try(cases h:r.st<;>simp_all)
  |ret=>
   refine⟨n,.ret,_,?_,hq⟩
   simp only[evC,hf,hnx,e,hg,hp]
   try(cases h:r.st<;>simp_all)
theorem W_gen {ro:Option Nat}{c:C}{tm0:T V}{h:H}{df:List Nat}{K:X→St→Prop}(P:T V→Prop)(hp:P tm0)(k:∀tm,P tm→W Fn fast N fn ro c ⟨tm,h,df⟩ K):W Fn fast N fn ro c ⟨tm0,h,df⟩ K:=k tm0 hp
end
end Go.Ab
