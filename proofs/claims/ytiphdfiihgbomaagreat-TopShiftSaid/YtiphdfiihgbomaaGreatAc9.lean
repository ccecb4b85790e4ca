/- Maps whose keys are pairs of integers. -/
import Derived.Test.YtiphdfiihgbomaaGreatAc2
set_option linter.unusedSimpArgs false
set_option linter.unusedVariables false
namespace Go.Ab
abbrev kP (i:Int × Int):V:=.agg [.int .i64 i.1,.int .i64 i.2]
def lkP (i:Int × Int):List ((Int × Int) × V)→Option V
 |[]=>none
 |p::l=>if i=p.1 then some p.2 else lkP i l
def putP (i:Int × Int)(x:V):List ((Int × Int) × V)→List ((Int × Int) × V)
 |[]=>[(i,x)]
 |p::l=>if i=p.1 then(i,x)::l else p::putP i x l
def encP (l:List ((Int × Int) × V)):List (V × V):=l.map fun p=>(kP p.1,p.2)
theorem keyS_P (i j:Int × Int):keyS (kP i) (kP j)=some (decide (i=j)):=by
 obtain⟨a,b⟩:=i;obtain⟨c,d⟩:=j
 simp only[keyS,sameInts,keq_self,ieq_eq]
 have e1:(a==c)=decide (a=c):=rfl
 have e2:(b==d)=decide (b=d):=rfl
 rw[e1,e2]
 by_cases h1:a=c<;>by_cases h2:b=d<;>simp[h1,h2]
theorem findS_P (i:Int × Int):∀(l:List ((Int × Int) × V)),findS (kP i) (encP l)=some (lkP i l)
 |[]=>rfl
 |p::l=>by
  have ih:=findS_P i l
  simp only[encP,List.map_cons,findS,keyS_P,lkP]
  simp only[encP] at ih
  by_cases h:i=p.1<;>simp[h,ih]
theorem putS_P (i:Int × Int)(x:V):∀(l:List ((Int × Int) × V)),putS (kP i) x (encP l)=some (encP (putP i x l))
 |[]=>rfl
 |p::l=>by
  have ih:=putS_P i x l
  simp only[encP,List.map_cons,putS,keyS_P,putP]
  simp only[encP] at ih
  by_cases h:i=p.1<;>simp[h,ih]
theorem lkP_putP (i j:Int × Int)(x:V):∀(l:List ((Int × Int) × V)),lkP j (putP i x l)=if j=i then some x else lkP j l
 |[]=>by simp[putP,lkP]
 |p::l=>by
  have ih:=lkP_putP i j x l
  simp only[putP]
  by_cases h:i=p.1
  ·simp only[if_pos h,lkP]
   by_cases h2:j=i
   ·simp[h2]
   ·have:¬j=p.1:=by rw[←h];exact h2
    simp[h2,this]
  ·simp only[if_neg h,lkP,ih]
   by_cases h2:j=p.1
   ·have:¬j=i:=by rw[h2];exact fun e=>h e.symm
    simp[h2,this]
    intro e;exact absurd e.symm h
   ·simp[h2]
theorem okS_P (i:Int × Int):okS 2 (kP i)=true:=rfl
def lkPC (o:Option Blk)(n:Nat)(z k:V)(ok:Bool):Option V:=og (okS n k) (match o with
 |some (.map es)=>(match findS k es with|some r=>some (found z ok r)|none=>none)
 |_=>none)
theorem lkPC_map (l:List ((Int × Int) × V))(z:V)(i:Int × Int)(ok:Bool):lkPC (some (.map (encP l))) 2 z (kP i) ok=some (found z ok (lkP i l)):=by
 simp only[lkPC,findS_P,okS_P,og_true]
theorem q_lks_map (h:H)(n:Nat)(z:V)(b:Nat)(k:V)(ok:Bool):q_lks h n z (.map b) k ok=lkPC (h.get b) n z k ok:=by
 simp only[q_lks,mapOf,lkPC]
 cases h.get b with
 |none=>rfl
 |some x=>cases x<;>rfl
noncomputable def muPC (o:Option Blk)(h:H)(n:Nat)(b:Nat)(k x:V):Option (V × H):=og (okS n k) (match o with
 |some (.map es)=>(match putS k x es with|some es'=>some (.und,h.set b (.map es'))|none=>none)
 |_=>none)
theorem muPC_map (l:List ((Int × Int) × V))(h:H)(b:Nat)(i:Int × Int)(x:V):muPC (some (.map (encP l))) h 2 b (kP i) x=some (.und,h.set b (.map (encP (putP i x l)))):=by
 simp only[muPC,putS_P,okS_P,og_true]
theorem e_mus_map (h:H)(n:Nat)(b:Nat)(k x:V):e_mus h n (.map b) k x=muPC (h.get b) h n b k x:=by
 simp only[e_mus,muPC]
 cases h.get b with
 |none=>rfl
 |some y=>cases y<;>rfl
theorem encP_nil:encP []=[]:=rfl
end Go.Ab
