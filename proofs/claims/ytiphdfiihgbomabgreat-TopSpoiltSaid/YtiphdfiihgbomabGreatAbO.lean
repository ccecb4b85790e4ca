/- Drawn regions, fifth part: one operation, in whatever order. -/
import Derived.Test.YtiphdfiihgbomabGreatAbN
set_option linter.unusedSimpArgs false
set_option linter.unusedVariables false
namespace Go.Ab
theorem ov_some {E g:Nat→Option Blk}{b:Nat}{x:Blk}(h:E b=some x):ov E g b=some x:=by simp[ov,h]
theorem ov_none {E g:Nat→Option Blk}{b:Nat}(h:E b=none):ov E g b=g b:=by simp[ov,h]
def I.rdO:I→Option Opd
 |.ld _ _ x=>some x
 |.lkp _ _ x _ _=>some x
 |.lks _ _ x _ _=>some x
 |.lnm x=>some x
 |.slc _ x _ _ _=>some x
 |_=>none
theorem comp_call_rd {Ty:Nat→Option TD}{b:Builtin}{args:List Operand}{ts:List TypeId}{i:I}{y:Opd}(hc:compCall Ty b args ts=some i)(hy:i.rdO=some y):∃x,opd x=some y:=by
 unfold compCall at hc
 repeat' split at hc
 all_goals first
  |(cases hc;done)
  |(cases hc;simp only[I.rdO,reduceCtorEq] at hy;done)
  |(cases hc;simp only[I.rdO,Option.some.injEq] at hy;subst hy;exact⟨_,by assumption⟩)
theorem comp_rd {Ty:Nat→Option TD}{o:Op}{i:I}{y:Opd}(hc:compOp Ty o=some i)(hy:i.rdO=some y):∃x,opd x=some y:=by
 cases o<;>simp only[compOp] at hc<;>repeat' split at hc
 all_goals first
  |(cases hc;done)
  |(cases hc;simp only[I.rdO,reduceCtorEq] at hy;done)
  |(cases hc;simp only[I.rdO,Option.some.injEq] at hy;subst hy;exact⟨_,by assumption⟩)
  |exact comp_call_rd hc hy
noncomputable def H.only (h:H)(p:Nat→Prop):Nat→H
 |0=>h
 |n+1=>open Classical in if p n then h.only p n else(h.only p n).del n
theorem H.only_in {h:H}{p:Nat→Prop}{b:Nat}(hp:p b):∀n,(h.only p n).get b=h.get b
 |0=>rfl
 |n+1=>by
  simp only[H.only]
  split
  ·exact H.only_in hp n
  ·rename_i hn
   rw[H.get_del,upd_ne (fun e:b=n=>hn (by rw[←e];exact hp)),H.only_in hp n]
theorem H.only_out {h:H}{p:Nat→Prop}{b:Nat}{x:Blk}:∀n,b<n→(h.only p n).get b=some x→p b
 |0,hb,_=>by omega
 |n+1,hb,hx=>by
  simp only[H.only] at hx
  by_cases e:b=n
  ·subst e
   split at hx
   ·assumption
   ·rw[H.get_del,upd_same] at hx;cases hx
  ·split at hx
   ·exact H.only_out n (by omega) hx
   ·rw[H.get_del,upd_ne e] at hx;exact H.only_out n (by omega) hx
theorem evQ_only {i:I}{y:Opd}(hy:i.rdO=some y){tm:T V}{h g:H}{p:Nat→Prop}(hs:(y.ev tm).sc p)(hg:∀b,p b→g.get b=h.get b)(hsc:∀b x,p b→h.get b=some x→x.sc p):evQ tm g i=evQ tm h i:=by
 have hcl:∀b,p b→g.cells b=h.cells b:=fun b hb=>by unfold H.cells;rw[hg b hb]
 cases i<;>simp only[I.rdO,reduceCtorEq,Option.some.injEq] at hy<;>subst hy<;>simp only[evQ]
 case ld ag n x=>
  generalize Opd.ev tm x=v at hs
  cases v<;>try rfl
  rename_i b o
  have hb:p b:=hs
  simp only[q_ld,ldOld]
  rw[hcl b hb,hg b hb]
  cases h.cells b with
  |some cs=>rfl
  |none=>
   cases hx:h.get b with
   |none=>rfl
   |some z=>
    cases z<;>try rfl
    rename_i m k cs
    have:=hsc b _ hb hx
    simp only[Blk.sc] at this
    simp only[]
    rw[hg m this.1]
 case slc sz x lo hi mx=>
  generalize Opd.ev tm x=v at hs
  cases v<;>try rfl
  rename_i b o n c
  cases c with
  |fix c=>rfl
  |slk a q=>
   have hb:p b:=hs
   simp only[q_slc,slkOk,slkRoom]
   rw[hg b hb]
 case lkp fl z x k ok=>
  generalize Opd.ev tm x=v at hs
  cases v<;>try rfl
  rename_i b
  have hb:p b:=hs
  simp only[q_lkp,mapOf]
  rw[hg b hb]
 case lks fl z x k ok=>
  generalize Opd.ev tm x=v at hs
  cases v<;>try rfl
  rename_i b
  have hb:p b:=hs
  simp only[q_lks,mapOf]
  rw[hg b hb]
 case lnm x=>
  generalize Opd.ev tm x=v at hs
  cases v<;>try rfl
  rename_i b
  have hb:p b:=hs
  simp only[q_lnm]
  rw[hg b hb]
section
variable {P:Program} {Ty:Nat→Option TD} {F:Fence} {n N:Nat}
theorem Rep.mono {φ:Phi}{g:Nat→Option Blk}{p q:Nat→Prop}{w:World}(hR:Rep Ty φ g p w)(h:∀b,p b→q b):Rep Ty φ g q w:=
 ⟨hR.blk,hR.inj,fun b x hb=>⟨h b (hR.sc b x hb).1,Blk.sc_mono h (hR.sc b x hb).2⟩⟩
theorem Ext.mono' {φ φ':Phi}{g g':Nat→Option Blk}{p p' q:Nat→Prop}{w w':World}(hE:Ext φ p g w φ' p' g' w')(h:∀b,p' b→q b):Ext φ p g w φ' q g' w':=
 ⟨hE.agree,fun b hb=>h b (hE.mono b hb),hE.size,hE.kept,hE.new,hE.env⟩
theorem frame {g g' E:Nat→Option Blk}{φ φ':Phi}{p p':Nat→Prop}{w w':World}(hU:Rep Ty φ (ov E g) p w)(hdis:∀b x,E b=some x→g b=none)
  (hR:Rep Ty φ' g' p' w') (hE:Ext φ p g w φ' p' g' w'):Rep Ty φ' (ov E g') p' w'∧Ext φ p (ov E g) w φ' p' (ov E g') w':=by
 have hg:∀b x,g b=some x→ov E g b=some x:=by
  intro b x hb
  cases he:E b with
  |none=>rw[ov_none he];exact hb
  |some y=>rw[hdis b y he] at hb;cases hb
 have hEblk:∀b x,E b=some x→φ'.blk b=φ.blk b∧φ.blk b<w.heap.size:=by
  intro b x hb
  have:=hU.sc b x (ov_some hb)
  exact⟨(hE.agree b this.1).1.symm,hU.lt (ov_some hb)⟩
 refine⟨⟨fun b x hb=>?_,fun d e y z hd he hy hne=>?_,fun b x hb=>?_⟩,⟨hE.agree,hE.mono,hE.size,fun B hB hn=>?_,fun b x hb=>?_,hE.env⟩⟩
 ·cases he:E b with
  |none=>rw[ov_none he] at hb;exact hR.blk b x hb
  |some y=>
   rw[ov_some he] at hb;cases hb
   obtain⟨o,ho,hi⟩:=hU.blk b x (ov_some he)
   have hsc:=hU.sc b x (ov_some he)
   obtain⟨k1,k2⟩:=hEblk b x he
   have hk2:=k2
   by_cases hdup:x.dup φ b
   ·have hlt:=Nat.lt_of_lt_of_le k2 hE.size
    rw[←k1] at hlt
    exact⟨_,Array.getElem?_eq_getElem hlt,Blk.dup_is (Blk.dup_agree hdup hE.agree hsc.1 hsc.2)⟩
   refine⟨o,?_,hi.agree hE.agree hsc.1 hsc.2⟩
   rw[k1,hE.kept _ k2 fun c y hc hy e=>?_,ho]
   have hcb:c≠b:=fun e=>by rw[e,hdis b x he] at hc;cases hc
   exact(hU.inj c b y x (hg c y hc) (ov_some he) hy hcb).elim (fun h=>h e) hdup
 ·cases hd':E d with
  |some y'=>
   rw[ov_some hd'] at hd;cases hd
   obtain⟨k1,k2⟩:=hEblk d y hd'
   cases he':E e with
   |some z'=>
    rw[ov_some he'] at he;cases he
    rw[k1,(hEblk e z he').1]
    have hsc:=hU.sc e z (ov_some he')
    exact(hU.inj d e y z (ov_some hd') (ov_some he') hy hne).imp id fun h=>Blk.dup_agree h hE.agree hsc.1 hsc.2
   |none=>
    rw[ov_none he'] at he
    rw[k1]
    rcases hE.new e z he with hlt|⟨c,u,hc,hnw,e2⟩
    ·exact .inl (by omega)
    ·rw[←e2]
     have hcd:d≠c:=fun e=>by rw[←e,hdis d y hd'] at hc;cases hc
     refine(hU.inj d c y u (ov_some hd') (hg c u hc) hy hcd).imp id fun h=>?_
     obtain⟨q1,q2⟩:=hnw.2 (Blk.dup_old h)
     subst q1;subst q2
     have hsc:=hU.sc c z (hg c z hc)
     exact Blk.dup_agree h hE.agree hsc.1 hsc.2
  |none=>
   rw[ov_none hd'] at hd
   cases he':E e with
   |some z'=>
    rw[ov_some he'] at he;cases he
    obtain⟨k1,k2⟩:=hEblk e z he'
    rw[k1]
    rcases hE.new d y hd with hlt|⟨c,u,hc,hu,e2⟩
    ·exact .inl (by omega)
    ·rw[←e2]
     have hcd:c≠e:=fun e'=>by rw[e',hdis e z he'] at hc;cases hc
     have hsc:=hU.sc e z (ov_some he')
     exact(hU.inj c e u z (hg c u hc) (ov_some he') (hu.1 hy) hcd).imp id fun h=>Blk.dup_agree h hE.agree hsc.1 hsc.2
   |none=>
    rw[ov_none he'] at he
    exact hR.inj d e y z hd he hy hne
 ·cases he:E b with
  |none=>rw[ov_none he] at hb;exact hR.sc b x hb
  |some y=>
   rw[ov_some he] at hb;cases hb
   have hsc:=hU.sc b x (ov_some he)
   exact⟨hE.mono b hsc.1,Blk.sc_mono hE.mono hsc.2⟩
 ·exact hE.kept B hB fun b x hb hx=>hn b x (hg b x hb) hx
 ·cases he:E b with
  |none=>
   rw[ov_none he] at hb
   rcases hE.new b x hb with hlt|⟨c,u,hc,hu,e2⟩
   ·exact .inl hlt
   ·exact .inr ⟨c,u,hg c u hc,hu,e2⟩
  |some y=>
   rw[ov_some he] at hb;cases hb
   exact .inr ⟨b,x,ov_some he,.refl,(hEblk b x he).1.symm⟩
variable {K:Kall} {ops:Array Oper} {l:List O} {rs:List Rec} {TM:Nat→T V} {HP:Nat→H}
noncomputable def gS (rs:List Rec)(HP:Nat→H)(S:Nat→Bool):Nat→Option Blk:=ov (fun b=>ex rs (cut rs S rs.length) S b rs.length) (HP (cut rs S rs.length)).get
def pS (rs:List Rec)(HP:Nat→H)(p:Nat→Prop)(S:Nat→Bool):Nat→Prop:=fun b=>p b∨((HP 0).next≤b∧b<(HP (cut rs S rs.length)).next)∨
 ∃j r,rs[j]? =some r∧cut rs S rs.length≤j∧S j=true∧r.w=true∧r.o.i.kind=1∧b=r.h.next
structure Dyn (Ty:Nat→Option TD)(N:Nat)(rs:List Rec)(TM:Nat→T V)(HP:Nat→H)(φ0:Phi)(p:Nat→Prop)(w0:World)(df:List Nat)(S:Nat→Bool)(a:Act)(w:World)(φ:Phi)(tm:T V):Prop where
 tms:tmsIs φ N tm a.tmps
 sc:TmSc (pS rs HP p S) tm
 val:∀t,(Opd.t t).ev tm=val rs ((Opd.t t).ev (TM 0)) S t rs.length
 rep:Rep Ty φ (gS rs HP S) (pS rs HP p S) w
 ext:Ext φ0 p (HP 0).get w0 φ (pS rs HP p S) (gS rs HP S) w
 df:a.defers=df.map (mk1 φ)
theorem ex_add_ne {i:Nat}{r:Rec}{S:Nat→Bool}(hr:rs[i]? =some r){c b:Nat}(h:¬(r.w=true∧r.o.i.kind=1∧r.h.next=b)):∀k,ex rs c (addS S i) b k=ex rs c S b k
 |0=>rfl
 |k+1=>by
  simp only[ex]
  rw[ex_add_ne hr h k]
  by_cases e:k=i
  ·subst e
   have c1:∀q q':Prop,¬(q∧q'∧r.w=true∧r.o.i.kind=1∧r.h.next=b):=fun q q' hh=>h hh.2.2
   simp only[hr,c1,if_false]
  ·rw[addS_ne e]
theorem same_gS {i:Nat}{r:Rec}{S:Nat→Bool}(hr:rs[i]? =some r)(h:¬(1≤r.o.i.kind∧r.w=true)):gS rs HP (addS S i)=gS rs HP S:=by
 unfold gS
 rw[cut_add hr (fun⟨h1,h2⟩=>h ⟨by omega,h2⟩)]
 congr 1
 funext b
 exact ex_add_ne hr (fun⟨h1,h2,_⟩=>h ⟨by omega,h1⟩) _
theorem same_pS {i:Nat}{r:Rec}{S:Nat→Bool}{p:Nat→Prop}(hr:rs[i]? =some r)(hS:S i=false)(h:¬(1≤r.o.i.kind∧r.w=true)):pS rs HP p (addS S i)=pS rs HP p S:=by
 unfold pS
 rw[cut_add hr (fun⟨h1,h2⟩=>h ⟨by omega,h2⟩)]
 funext b
 apply propext
 constructor
 ·rintro(h1|h1|⟨j,r',a1,a2,a3,a4,a5,a6⟩)
  ·exact .inl h1
  ·exact .inr (.inl h1)
  ·by_cases e:j=i
   ·subst e;rw[hr] at a1;cases a1;exact absurd ⟨by omega,a4⟩ h
   ·rw[addS_ne e] at a3;exact .inr (.inr ⟨j,r',a1,a2,a3,a4,a5,a6⟩)
 ·rintro(h1|h1|⟨j,r',a1,a2,a3,a4,a5,a6⟩)
  ·exact .inl h1
  ·exact .inr (.inl h1)
  ·refine .inr (.inr ⟨j,r',a1,a2,?_,a4,a5,a6⟩)
   unfold addS;split<;>first|rfl|exact a3
variable (hs:Stat Ty K N ops l rs TM HP)
include hs
theorem pf_of {S:Nat→Bool}(hc:Closed ops S):PF rs S:=by
 intro i r j r' hr hk hS hij hr' hk'
 cases hj:S j with
 |false=>rfl
 |true=>
  rcases hs.ord i j r r' hr hr' hij with h|h
  ·rw[h S hc hj] at hS;cases hS
  ·have:=h.eff hk';omega
theorem cut_before {S:Nat→Bool}(hc:Closed ops S){i:Nat}{r:Rec}(hr:rs[i]? =some r)(hk:1≤r.o.i.kind)(hS:S i=false):cut rs S rs.length≤i:=by
 rcases cut_spec (rs:=rs) (S:=S) rs.length with h|⟨j,r',h1,h2,h3,h4,h5,h6⟩
 ·omega
 ·rw[h2]
  refine Nat.le_of_not_lt fun hlt=>?_
  by_cases e:j=i
  ·subst e;rw[h4] at hS;cases hS
  ·rcases hs.ord i j r r' hr h3 (by omega) with h|h
   ·rw[h S hc h4] at hS;cases hS
   ·have:=h.eff h5;omega
theorem reads_eq {S:Nat→Bool}(hc:Closed ops S){i:Nat}(hc':Closed ops (addS S i))(hS:S i=false){r:Rec}(hr:rs[i]? =some r){t:Nat}(ht:t∈r.o.reads):
  val rs ((Opd.t t).ev (TM 0)) S t rs.length=(Opd.t t).ev (TM i):=by
 have hi:i<rs.length:=(List.getElem?_eq_some_iff.1 hr).1
 rw[val_skip (i:=i) rs.length (by omega) (fun j r' h1 h2 h3 h4=>by
  by_cases e:j=i
  ·subst e;exact hS
  ·cases hj:S j with
   |false=>rfl
   |true=>
    rcases hs.ord i j r r' hr h3 (by omega) with h|h
    ·rw[h S hc hj] at hS;cases hS
    ·exact absurd ht (h.rd t h4))]
 refine val_text hs.ht i (by rw[←hs.ht.len];omega) fun j r' h1 h2 h3=>?_
 rcases hs.ord j i r' r h2 hr h1 with h|h
 ·have:=h (addS S i) hc' addS_self
  rwa[addS_ne (by omega)] at this
 ·exact absurd ht (h.dst t h3).1
theorem val_next {S:Nat→Bool}(hc:Closed ops S){i:Nat}(hS:S i=false){r:Rec}(hr:rs[i]? =some r){tm:T V}(hv:∀t,(Opd.t t).ev tm=val rs ((Opd.t t).ev (TM 0)) S t rs.length):
  ∀t,(Opd.t t).ev (putD tm r.o.dst r.v)=val rs ((Opd.t t).ev (TM 0)) (addS S i) t rs.length:=by
 intro t
 have hi:i<rs.length:=(List.getElem?_eq_some_iff.1 hr).1
 rw[putD_ev,hv t,val_set hr hS hi (fun hd j r' h1 h2 h3 h4=>by
  cases hj:S j with
  |false=>rfl
  |true=>
   rcases hs.ord i j r r' hr h3 h1 with h|h
   ·rw[h S hc hj] at hS;cases hS
   ·exact absurd h4 (h.dst t hd).2)]
variable (hF:Wide F) (hT:TyOK P Ty) (hD:8≤P.depth) (hK:KOk P Ty K)
include hF hT hD hK
theorem one_step {φ0:Phi}{p:Nat→Prop}{w0:World}{df:List Nat}(hdf:∀d∈df,p d)(hwf:(HP 0).wf)(hfr:Fresh p (HP 0).next (HP rs.length).next)
  {S:Nat→Bool} (hc:Closed ops S) {i:Nat} (hc':Closed ops (addS S i)) (hS:S i=false) (hi:i<rs.length) {a:Act} {w:World} {φ:Phi} {tm:T V}
  (hd:Dyn Ty N rs TM HP φ0 p w0 df S a w φ tm) {K':Act→World→Prop} {Q:Exit→Act→World→Prop}
  (hn:∀a' w' φ' tm',Dyn Ty N rs TM HP φ0 p w0 df (addS S i) a' w' φ' tm'→K' a' w'):wpOpIn F n P ops Q i K' a w:=by
 have hr:rs[i]? =some rs[i]:=List.getElem?_eq_getElem hi
 generalize rs[i]=r at hr
 have hio:i<ops.size:=by rw[←hs.size];exact hi
 have ho:ops[i]? =some ops[i]:=Array.getElem?_eq_getElem hio
 generalize ops[i]=o at ho
 obtain⟨hcomp,hdst,hgd,hdN⟩:=hs.op i o r ho hr
 have hread:∀t∈r.o.reads,(Opd.t t).ev tm=(Opd.t t).ev (TM i):=fun t ht=>by rw[hd.val t,reads_eq hs hc hc' hS hr ht]
 have hreadi:∀t∈r.o.i.tmps,(Opd.t t).ev tm=(Opd.t t).ev (TM i):=fun t ht=>hread t (by unfold O.reads;exact List.mem_append_right _ ht)
 have hwant:Region.wanted o (yielded ops a.tmps)=r.w:=by
  rw[want_eq (tm:=tm) (φ:=φ) hgd (fun d b _=>(hd.tms.2 d).1),hs.ht.w i r hr,hs.ht.tm i r hr]
  exact want_congr hread
 have hle:=hs.ht.le hK.le
 have hL:=hs.ht.len
 have hleL:∀j k,j≤k→k≤rs.length→(HP j).le (HP k):=fun j k h1 h2=>hle j k h1 (by rw[←hL];exact h2)
 have hwfj:∀j,j≤rs.length→(HP j).wf:=fun j hj=>(hleL 0 j (by omega) hj).2 hwf
 have hpmono:∀b,p b→pS rs HP p S b:=fun b hb=>.inl hb
 have hdst':∀d,o.dst=some d→d<N:=fun d hd'=>hdN d (by rw[hdst];exact hd')
 have hext0:=hd.ext.agree
 have hdfS:∀d∈df,pS rs HP p S d:=fun d hd'=>.inl (hdf d hd')
 unfold wpOpIn
 simp only[ho,hwant]
 cases hw:r.w with
 |false=>
  simp only[Bool.false_eq_true,if_false]
  refine⟨fun f _=>hF.fn f,hn _ _ φ (putD tm r.o.dst r.v) ?_⟩
  have hu:=(hs.ht.un i r hr hw).1
  have hnn:¬(1≤r.o.i.kind∧r.w=true):=fun h=>by rw[hw] at h;cases h.2
  refine⟨?_,?_,val_next hs hc hS hr hd.val,?_,?_,?_⟩
  ·rw[hdst,hu,←und_eq (φ:=φ)];exact tms_put hd.tms hdst' .und
  ·rw[same_pS hr hS hnn,hu];exact hd.sc.put und_sc _
  ·rw[same_pS hr hS hnn,same_gS hr hnn];exact hd.rep
  ·rw[same_pS hr hS hnn,same_gS hr hnn];exact hd.ext
  ·rw[put_defers];exact hd.df
 |true=>
  simp only[if_true]
  have hev:=hs.ht.ev i r hr hw
  have hev':evI K tm r.h r.o.i=some (r.v,r.h'):=by rw[evI_congr hreadi,←hs.ht.tm i r hr];exact hev
  have hci:cut rs S rs.length≤rs.length:=cut_le _
  have hh:=hs.ht.h i r hr
  have hh':=hs.ht.h' i r hr
  by_cases hk0:r.o.i.kind=0
  ·-- it reads
   have hnn:¬(1≤r.o.i.kind∧r.w=true):=fun h=>by omega
   rw[evI_0 hk0] at hev
   have hq:evQ r.tm r.h r.o.i=some r.v:=by
    unfold lq at hev
    split at hev
    ·rename_i u e;simp only[Option.some.injEq,Prod.mk.injEq] at hev;rw[←hev.1];exact e
    ·cases hev
   obtain⟨g,hq2,hsub⟩:∃g:H,evQ tm g r.o.i=some r.v∧Rep Ty φ g.get (pS rs HP p S) w:=by
    cases hrd:r.o.i.reads with
    |false=>
     refine⟨⟨0,.nil⟩,?_,hd.rep.subset fun b x hb=>?_⟩
     ·rw[evQ_congr hreadi,←hs.ht.tm i r hr,evQ_heap (g:=r.h) hrd];exact hq
     ·rw[show(H.mk 0 T.nil).get b=none from T.get_nil b] at hb;cases hb
    |true=>
     obtain⟨e,k1,k2,k3,k4⟩:=hs.seen i r hr hw hrd S hc hc' hS (pf_of hs hc)
     rw[←evQ_congr (tm:=tm) (by rw[hs.ht.tm i r hr];exact hreadi)] at k4
     obtain⟨y,hy⟩:∃y,r.o.i.rdO=some y:=by
      generalize r.o.i=j at hrd
      cases j<;>first|(cases hrd;done)|exact⟨_,rfl⟩
     obtain⟨x,hx⟩:=comp_rd hcomp hy
     have hin:∀b x,pS rs HP p S b→(HP e).get b=some x→gS rs HP S b=some x:=by
      intro b x hp hb
      have ht:=heap_text hs.ht (S:=fun _=>true) (c:=cut rs S rs.length) e k1 k2 (fun _ _ _ _ _ _ _=>rfl) k3 b
      rw[hb] at ht
      cases he:ex rs (cut rs S rs.length) (fun _=>true) b e with
      |none=>
       rw[ov_none (E:=fun b=>ex rs (cut rs S rs.length) (fun _=>true) b e) he] at ht
       unfold gS
       cases he2:ex rs (cut rs S rs.length) S b rs.length with
       |none=>exact(ov_none (E:=fun b=>ex rs (cut rs S rs.length) S b rs.length) he2).trans ht.symm
       |some y=>
        exfalso
        obtain⟨j,r',h1,h2,h3,h4,h5,h6,h7,h8⟩:=ex_some _ he2
        have hb':=hwfj _ hci b x ht.symm
        have:=(hleL _ j h3 (by omega)).1
        rw[hs.ht.h j r' h2] at h7
        omega
      |some y=>
       rw[ov_some (E:=fun b=>ex rs (cut rs S rs.length) (fun _=>true) b e) he] at ht
       cases ht
       obtain⟨j,r',h1,h2,h3,h4,h5,h6,h7,h8⟩:=ex_some _ he
       have hj:j<rs.length:=by omega
       have e1:=hs.ht.h j r' h2
       have l0:=(hleL 0 j (by omega) (by omega)).1
       have l1:=(hleL _ j h3 (by omega)).1
       have l2:=(hleL (j+1) rs.length (by omega) (Nat.le_refl _)).1
       have hv:=hs.ht.ev j r' h2 h5
       rw[evI_1 h6] at hv
       obtain⟨X,hX⟩:=evA_add hv
       have e2:r'.h'.next=r'.h.next+1:=by rw[hX,H.next_add]
       have e3:=hs.ht.h' j r' h2
       rw[←e3] at l2
       rw[←e1] at l0 l1
       rcases hp with q1|q1|⟨j',r'',a1,a2,a3,a4,a5,a6⟩
       ·exact absurd q1 (hfr b (by omega) (by omega))
       ·omega
       ·have hjj:j'=j:=by
         rcases Nat.lt_trichotomy j' j with q|q|q
         ·have:=next_lt hs.ht hK.le a1 h2 q a4 a5;omega
         ·exact q
         ·have:=next_lt hs.ht hK.le h2 a1 q h5 h6;omega
        subst hjj
        rw[h2] at a1;cases a1
        subst h7
        refine ov_some ?_
        show ex rs (cut rs S rs.length) S r'.h.next rs.length=some x
        rw[ex_is hs.ht hK.le h2 h3 a3 h5 h6 hj];exact h8
     refine⟨(HP e).only (pS rs HP p S) (HP e).next,?_,hd.rep.subset fun b x hb=>?_⟩
     ·rw[←k4]
      exact evQ_only hy (ev_sc hd.sc hx) (fun b hb=>H.only_in hb _) fun b x hb hx=>(hd.rep.sc b x (hin b x hb hx)).2
     ·by_cases hlt:b<(HP e).next
      ·have hp:=H.only_out _ hlt hb
       rw[H.only_in hp] at hb
       exact hin b x hp hb
      ·exfalso
       have hle:∀n,((HP e).only (pS rs HP p S) n).get b=some x→(HP e).get b=some x:=by
        intro n
        induction n with
        |zero=>exact id
        |succ n ih=>
         simp only[H.only]
         split
         ·exact ih
         ·intro h
          rw[H.get_del] at h
          by_cases en:b=n
          ·subst en;rw[upd_same] at h;cases h
          ·rw[upd_ne en] at h;exact ih h
       exact hlt (hwfj e k2 b x (hle _ hb))
   refine op_read hF hT hD hcomp hk0 hq2 (a:=a) (ρ:=a.eval) rfl (opsAre_of hd.tms) hsub hd.sc fun hsc=>hn _ _ φ (putD tm r.o.dst r.v) ?_
   refine⟨?_,?_,val_next hs hc hS hr hd.val,?_,?_,?_⟩
   ·rw[hdst];exact tms_put hd.tms hdst' _
   ·rw[same_pS hr hS hnn];exact hd.sc.put hsc _
   ·rw[same_pS hr hS hnn,same_gS hr hnn];exact hd.rep
   ·rw[same_pS hr hS hnn,same_gS hr hnn];exact hd.ext
   ·rw[put_defers];exact hd.df
  ·have hcut:=cut_before hs hc hr (by omega) hS
   by_cases hk1:r.o.i.kind=1
   ·-- it lays a block
    rw[evI_1 hk1] at hev'
    obtain⟨X,hX,hrw,hrun⟩:=op_new (F:=F) (n:=n) hF hT hcomp hk1 hev'
    have hnp:¬pS rs HP p S r.h.next:=by
     have e0:r.h'.next=r.h.next+1:=by rw[hX,H.next_add]
     have l0:=(hleL 0 i (by omega) (by omega)).1
     have l1:=(hleL (i+1) rs.length (by omega) (Nat.le_refl _)).1
     rintro(h1|h1|⟨j,r',a1,a2,a3,a4,a5,a6⟩)
     ·exact hfr _ (by rw[hh];exact l0) (by rw[←hh'] at l1;omega) h1
     ·have:=(hleL _ i hcut (by omega)).1
      rw[←hh] at this;omega
     ·have hne:j≠i:=fun e=>by rw[e,hS] at a3;cases a3
      rcases Nat.lt_or_gt_of_ne hne with hlt|hlt
      ·have:=next_lt hs.ht hK.le a1 hr hlt a4 a5;omega
      ·have:=next_lt hs.ht hK.le hr a1 hlt hw hk1;omega
    refine hrun (a:=a) (ρ:=a.eval) rfl (opsAre_of hd.tms) hd.rep hd.sc hnp fun φ' w' a1 a2 a3=>hn _ _ φ' (putD tm r.o.dst r.v) ?_
    have hcA:cut rs (addS S i) rs.length=cut rs S rs.length:=cut_add hr (fun h=>by omega) _
    have hgA:gS rs HP (addS S i)=upd (gS rs HP S) r.h.next (some X):=by
     funext b
     unfold gS
     rw[hcA]
     by_cases e:b=r.h.next
     ·subst e
      rw[upd_same]
      refine ov_some ?_
      show ex rs (cut rs S rs.length) (addS S i) r.h.next rs.length=some X
      rw[ex_is hs.ht hK.le hr hcut addS_self hw hk1 hi,hX,H.get_add,upd_same]
     ·rw[upd_ne e]
      simp only[ov]
      rw[ex_add_ne hr (fun h=>e h.2.2.symm)]
    have hpA:∀b,grow (pS rs HP p S) r.h.next (r.h.next+1) b→pS rs HP p (addS S i) b:=by
     intro b hb
     unfold pS
     rw[hcA]
     rcases hb with(h1|h1|⟨j,r',b1,b2,b3,b4,b5,b6⟩)|h1
     ·exact .inl h1
     ·exact .inr (.inl h1)
     ·refine .inr (.inr ⟨j,r',b1,b2,?_,b4,b5,b6⟩)
      unfold addS;split<;>first|rfl|exact b3
     ·exact .inr (.inr ⟨i,r,hr,hcut,addS_self,hw,hk1,by omega⟩)
    have hag:=a2.agree
    refine⟨?_,?_,val_next hs hc hS hr hd.val,?_,?_,?_⟩
    ·rw[hdst];exact tms_put (hd.tms.agree hag hd.sc) hdst' _
    ·exact((hd.sc.mono fun b hb=>hpA b (.inl hb)).put (V.sc_mono hpA _ a3) _)
    ·rw[hgA];exact a1.mono hpA
    ·rw[hgA];exact(hd.ext.trans a2).mono' hpA
    ·rw[put_defers,hd.df];exact marks_agree hag hdfS
   ·-- it changes memory, or calls
    have hk2:2≤r.o.i.kind:=by omega
    have hbefore:∀(j:Nat) (r':Rec),j<i→rs[j]? =some r'→1≤(r':Rec).o.i.kind→S j=true:=by
     intro j r' h1 h2 h3
     rcases hs.ord j i r' r h2 hr h1 with h|h
     ·have:=h (addS S i) hc' addS_self
      rwa[addS_ne (by omega)] at this
     ·have:=h.eff hk2;omega
    have hafter:∀(j:Nat) (r':Rec),i<j→j<rs.length→rs[j]? =some r'→2≤(r':Rec).o.i.kind→S j=false:=by
     intro j r' h1 _ h2 h3
     exact pf_of hs hc i r j r' hr hk2 hS h1 h2 h3
    have htext:=heap_text hs.ht (S:=S) (c:=cut rs S rs.length) i hcut (by omega) (fun j r' h1 h2 h3 h4 h5=>hbefore j r' h2 h3 (by omega))
     (fun j r' h1 h2 h3 h4=>by
      cases hwj:r'.w with
      |false=>rfl
      |true=>
       have:=cut_max rs.length j r' (by omega) h3 (hbefore j r' h2 h3 (by omega)) h4 hwj
       omega)
    have hsome:∀(j:Nat) (r':Rec),rs[j]? =some r'→r'.w=true→r'.o.i.kind=1→∃X,r'.h'.get r'.h.next=some X∧r'.h'.next=r'.h.next+1:=by
     intro j r' h1 h2 h3
     have:=hs.ht.ev j r' h1 h2
     rw[evI_1 h3] at this
     obtain⟨X,hX⟩:=evA_add this
     exact⟨X,by rw[hX,H.get_add,upd_same],by rw[hX,H.next_add]⟩
    have hEs:∀b x,ex rs (i+1) (addS S i) b rs.length=some x→∃j r',rs[j]? =some r'∧i<j∧j<rs.length∧S j=true∧r'.w=true∧r'.o.i.kind=1∧r'.h.next=b∧r'.h'.get b=some x:=by
     intro b x he
     obtain⟨j,r',h1,h2,h3,h4,h5,h6,h7,h8⟩:=ex_some _ he
     rw[addS_ne (by omega)] at h4
     exact⟨j,r',h2,by omega,h1,h4,h5,h6,h7,h8⟩
    have hUsub:∀b x,ov (fun b=>ex rs (i+1) (addS S i) b rs.length) (HP i).get b=some x→gS rs HP S b=some x:=by
     intro b x hb
     unfold gS
     cases he:ex rs (i+1) (addS S i) b rs.length with
     |some y=>
      rw[ov_some (E:=fun b=>ex rs (i+1) (addS S i) b rs.length) he] at hb;cases hb
      obtain⟨j,r',h1,h2,h3,h4,h5,h6,h7,h8⟩:=hEs b x he
      subst h7
      refine ov_some ?_
      show ex rs (cut rs S rs.length) S r'.h.next rs.length=some x
      rw[ex_is hs.ht hK.le h1 (by omega) h4 h5 h6 h3];exact h8
     |none=>
      rw[ov_none (E:=fun b=>ex rs (i+1) (addS S i) b rs.length) he] at hb
      rw[htext b] at hb
      have:ex rs (cut rs S rs.length) S b rs.length=ex rs (cut rs S rs.length) S b i:=ex_stay rs.length (by omega) fun j r' h1 h2 h3 ⟨c1,c2,c3,c4,c5⟩=>by
       by_cases e:j=i
       ·subst e;rw[hr] at h3;cases h3;omega
       ·subst c5
        have:=ex_is hs.ht hK.le (c:=i+1) (S:=addS S i) h3 (by omega) (by rw[addS_ne e];exact c2) c3 c4 h2
        rw[he] at this
        obtain⟨X,hX,_⟩:=hsome j r' h3 c3 c4
        rw[hX] at this;cases this
      simp only[ov] at hb⊢
      rw[this];exact hb
    have hRU:Rep Ty φ (ov (fun b=>ex rs (i+1) (addS S i) b rs.length) (HP i).get) (pS rs HP p S) w:=hd.rep.subset hUsub
    have hdis:∀b x,ex rs (i+1) (addS S i) b rs.length=some x→(HP i).get b=none:=by
     intro b x he
     obtain⟨j,r',h1,h2,h3,h4,h5,h6,h7,h8⟩:=hEs b x he
     cases hg:(HP i).get b with
     |none=>rfl
     |some y=>
      have h9:=hwfj i (by omega) b y hg
      have h10:=(hleL i j (by omega) (by omega)).1
      rw[hs.ht.h j r' h1] at h7
      omega
    have hRi:Rep Ty φ r.h.get (pS rs HP p S) w:=by
     rw[hh]
     refine hRU.subset fun b x hb=>?_
     cases he:ex rs (i+1) (addS S i) b rs.length with
     |none=>rw[ov_none (E:=fun b=>ex rs (i+1) (addS S i) b rs.length) he];exact hb
     |some y=>rw[hdis b y he] at hb;cases hb
    have hl0:=(hleL 0 i (by omega) (by omega)).1
    have hl1:=(hleL (i+1) rs.length (by omega) (Nat.le_refl _)).1
    have hl2:=(hleL i (i+1) (by omega) (by omega)).1
    have hl3:=(hleL _ i hcut (by omega)).1
    have hfS:Fresh (pS rs HP p S) r.h.next r.h'.next:=by
     rw[hh,hh']
     intro b hb1 hb2
     rintro(h1|h1|⟨j,r',b1,b2,b3,b4,b5,b6⟩)
     ·exact hfr b (by omega) (by omega) h1
     ·omega
     ·rcases Nat.lt_trichotomy j i with hlt|e|hlt
      ·obtain⟨X,_,hx⟩:=hsome j r' b1 b4 b5
       have h3:=(hleL (j+1) i (by omega) (by omega)).1
       rw[←hs.ht.h' j r' b1] at h3
       omega
      ·subst e;rw[hS] at b3;cases b3
      ·have h3:=(hleL (i+1) j (by omega) (by have:=(List.getElem?_eq_some_iff.1 b1).1;omega)).1
       rw[←hs.ht.h j r' b1] at h3
       omega
    refine op_eff hF hT hK hcomp hk2 hev' (a:=a) (ρ:=a.eval) rfl (opsAre_of hd.tms) hRi hd.sc (by rw[hh];exact hwfj i (by omega)) hfS fun φ' w' hdone hsc=>hn _ _ φ' (putD tm r.o.dst r.v) ?_
    have hcA:cut rs (addS S i) rs.length=i+1:=cut_eff hr hk2 hw hi hafter
    have hgA:gS rs HP (addS S i)=ov (fun b=>ex rs (i+1) (addS S i) b rs.length) (HP (i+1)).get:=by unfold gS;rw[hcA]
    obtain⟨hd1,hd2⟩:=hdone
    rw[hh,hh'] at hd1 hd2 hsc
    obtain⟨f1,f2⟩:=frame hRU hdis hd1 hd2
    have hpA:∀b,grow (pS rs HP p S) (HP i).next (HP (i+1)).next b→pS rs HP p (addS S i) b:=by
     intro b hb
     unfold pS
     rw[hcA]
     rcases hb with(h1|h1|⟨j,r',b1,b2,b3,b4,b5,b6⟩)|h1
     ·exact .inl h1
     ·exact .inr (.inl (by omega))
     ·rcases Nat.lt_trichotomy j i with hlt|e|hlt
      ·obtain⟨X,_,hx⟩:=hsome j r' b1 b4 b5
       have h3:=(hleL (j+1) i (by omega) (by omega)).1
       rw[←hs.ht.h' j r' b1] at h3
       have h4:=(hleL 0 j (by omega) (by omega)).1
       rw[←hs.ht.h j r' b1] at h4
       exact .inr (.inl (by omega))
      ·subst e;rw[hS] at b3;cases b3
      ·exact .inr (.inr ⟨j,r',b1,by omega,by rw[addS_ne (by omega)];exact b3,b4,b5,b6⟩)
     ·exact .inr (.inl (by omega))
    have hag:=hd2.agree
    refine⟨?_,?_,val_next hs hc hS hr hd.val,?_,?_,?_⟩
    ·rw[hdst];exact tms_put (hd.tms.agree hag hd.sc) hdst' _
    ·exact((hd.sc.mono fun b hb=>hpA b (.inl hb)).put (V.sc_mono hpA _ hsc) _)
    ·rw[hgA];exact f1.mono hpA
    ·rw[hgA];exact((hd.ext.trans (Ext.subset hUsub)).trans f2).mono' hpA
    ·rw[put_defers,hd.df];exact marks_agree hag hdfS
end
end Go.Ab
