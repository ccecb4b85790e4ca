/- For the program's facts: tries, all entries of. Framing of what is said of calls. -/
import Derived.Test.YtiphdfiihgbomabGreatAbR
set_option linter.unusedSimpArgs false
set_option linter.unusedVariables false
namespace Go.Ab
variable {α:Type}
def T.all (p:Nat→α→Prop):T α→Prop
 |.nil=>True
 |.node v l r=>(∀a,v=some a→p 0 a)∧T.all (fun j a=>p (2*j+1) a) l∧T.all (fun j a=>p (2*j+2) a) r
theorem T.all_get:∀{t:T α} {p:Nat→α→Prop},t.all p→∀{k:Nat} {a:α},t.get k=some a→p k a
 |.nil,p,_,k,a,hk=>by rw[T.get_nil] at hk;cases hk
 |.node v l r,p,h,k,a,hk=>by
  obtain⟨h1,h2,h3⟩:=h
  cases k with
  |zero=>rw[T.get_1] at hk;exact h1 a hk
  |succ j=>
   rw[T.get_2] at hk
   rw[bsel_beq] at hk
   by_cases e:j%2=0
   ·rw[if_pos e] at hk
    have:=T.all_get h2 hk
    have e2:2*(j/2)+1=j+1:=by omega
    rwa[e2] at this
   ·rw[if_neg e] at hk
    have:=T.all_get h3 hk
    have e2:2*(j/2)+2=j+1:=by omega
    rwa[e2] at this
theorem SpecOk.frame {P:Program}{Ty:Nat→Option TD}{f:FuncId}{args:List V}{h h' H0 H':H}{v:V}(hs:SpecOk P Ty f args h v h')(hwf:h.wf)
  (hn:H0.next=h.next) (hn':H'.next=h'.next) (hsub:∀b x,h.get b=some x→H0.get b=some x)
  (hfin:H0.wf→∀b x,H'.get b=some x→(h.get b=none∧H0.get b=some x)∨((H0.get b=none∨(h.get b).isSome=true)∧h'.get b=some x)):SpecOk P Ty f args H0 v H':=by
 refine⟨⟨by rw[hn,hn'];exact hs.1.1,fun hw b x hb=>?_⟩,fun{F n φ p w} hF hfr hR ha hw=>?_⟩
 ·rw[hn']
  rcases hfin hw b x hb with⟨_,h1⟩|⟨_,h1⟩
  ·have:=hw b x h1;have:=hs.1.1;omega
  ·exact hs.1.2 hwf b x h1
 ·rw[hn,hn'] at hfr
  let E:Nat→Option Blk:=fun b=>match h.get b with|some _=>none|none=>H0.get b
  have hE:∀b,h.get b=none→E b=H0.get b:=fun b hb=>by simp[E,hb]
  have hE2:∀b x,E b=some x→h.get b=none∧H0.get b=some x:=by
   intro b x hb
   simp only[E] at hb
   cases hg:h.get b with
   |none=>rw[hg] at hb;exact⟨rfl,hb⟩
   |some y=>rw[hg] at hb;cases hb
  have hU:Rep Ty φ (ov E h.get) p w:=hR.subset fun b x hb=>by
   cases he:E b with
   |none=>rw[ov_none he] at hb;exact hsub b x hb
   |some y=>rw[ov_some he] at hb;cases hb;exact(hE2 b x he).2
  have hRh:Rep Ty φ h.get p w:=hR.subset hsub
  refine CallsIn.mono (hs.2 hF hfr hRh ha hwf) fun e w' he=>?_
  obtain⟨φ',rfl,⟨r1,r2⟩,r3⟩:=he
  obtain⟨f1,f2⟩:=Go.Ab.frame hU (fun b x hb=>(hE2 b x hb).1) r1 r2
  have hsub':∀b x,H'.get b=some x→ov E h'.get b=some x:=by
   intro b x hb
   rcases hfin hw b x hb with⟨h1,h2⟩|⟨h1,h2⟩
   ·exact ov_some (by rw[hE b h1];exact h2)
   ·have:E b=none:=by
     cases he:E b with
     |none=>rfl
     |some y=>
      obtain⟨a1,a2⟩:=hE2 b y he
      rcases h1 with h1|h1
      ·rw[h1] at a2;cases a2
      ·rw[a1] at h1;cases h1
    rw[ov_none this];exact h2
  refine⟨φ',rfl,⟨?_,?_⟩,by rw[hn,hn'];exact r3⟩
  ·rw[hn,hn'];exact f1.subset hsub'
  ·rw[hn,hn']
   refine Ext.trans ?_ (f2.trans (Ext.subset hsub'))
   exact Ext.subset fun b x hb=>by
    cases he:E b with
    |none=>rw[ov_none he] at hb;exact hsub b x hb
    |some y=>rw[ov_some he] at hb;cases hb;exact(hE2 b x he).2
end Go.Ab
