/- Drawn regions, last part: the whole region. -/
import Derived.Test.YtiphdfiihgbomabGreatAbO
set_option linter.unusedSimpArgs false
set_option linter.unusedVariables false
namespace Go.Ab
def unl (S:Nat→Bool):Nat→Nat
 |0=>0
 |i+1=>if S i=true then unl S i else unl S i+1
theorem unl_zero {S:Nat→Bool}:∀{k:Nat},unl S k=0→∀i,i<k→S i=true
 |0,_,i,h=>by omega
 |k+1,hk,i,h=>by
  simp only[unl] at hk
  split at hk
  ·rename_i hS
   by_cases e:i=k
   ·subst e;exact hS
   ·exact unl_zero hk i (by omega)
  ·omega
theorem unl_all {S:Nat→Bool}:∀{k:Nat},(∀i,i<k→S i=true)→unl S k=0
 |0,_=>rfl
 |k+1,h=>by simp[unl,h k (by omega),unl_all (k:=k) fun i hi=>h i (by omega)]
theorem unl_below {S:Nat→Bool}{i:Nat}:∀k,k≤i→unl (addS S i) k=unl S k
 |0,_=>rfl
 |k+1,h=>by simp only[unl];rw[unl_below k (by omega),addS_ne (by omega)]
theorem unl_add {S:Nat→Bool}{i:Nat}(hS:S i=false):∀k,i<k→unl (addS S i) k+1=unl S k
 |0,h=>by omega
 |k+1,h=>by
  simp only[unl]
  by_cases e:i=k
  ·subst e;rw[unl_below i (Nat.le_refl _)];simp[addS_self,hS]
  ·have ih:=unl_add hS k (by omega)
   rw[addS_ne (fun h=>e h.symm)]
   split<;>omega
theorem ready_mem {ops:Array Oper}{listed:Array Bool}(hsz:listed.size=ops.size){i:Nat}:
  i∈Region.ready .any ops listed↔i<ops.size∧listed.getD i false=false∧∀o,ops[i]? =some o→∀e∈o.after.toList,Region.binds .any e=true→listed.getD e.on false=true:=by
 simp only[Region.ready,List.mem_filter,List.mem_range,Bool.and_eq_true,Bool.not_eq_true']
 constructor
 ·rintro⟨h1,h2,h3⟩
  have hlt:i<listed.size:=by omega
  refine⟨h1,by simpa[Array.getD_eq_getD_getElem?,hlt] using h2,fun o ho e he hb=>?_⟩
  simp only[ho,Option.map_some,Option.getD_some,Array.all_eq_true'] at h3
  have:=h3 e (by simpa using he)
  simpa[hb] using this
 ·rintro⟨h1,h2,h3⟩
  have hlt:i<listed.size:=by omega
  refine⟨h1,by simpa[Array.getD_eq_getD_getElem?,hlt] using h2,?_⟩
  have ho:ops[i]? =some ops[i]:=Array.getElem?_eq_getElem h1
  simp only[ho,Option.map_some,Option.getD_some,Array.all_eq_true']
  intro e he
  cases hb:Region.binds .any e with
  |false=>rfl
  |true=>simpa using h3 _ ho e (by simpa using he) hb
section
variable {P:Program} {Ty:Nat→Option TD} {F:Fence} {n N:Nat}
variable {K:Kall} {ops:Array Oper} {l:List O} {rs:List Rec} {TM:Nat→T V} {HP:Nat→H}
variable (hs:Stat Ty K N ops l rs TM HP) (hF:Wide F) (hT:TyOK P Ty) (hD:8≤P.depth) (hK:KOk P Ty K)
include hs hF hT hD hK
theorem any_order {φ0:Phi}{p:Nat→Prop}{w0:World}{df:List Nat}(hdf:∀d∈df,p d)(hwf:(HP 0).wf)(hfr:Fresh p (HP 0).next (HP rs.length).next){Q:Exit→Act→World→Prop}
  (hq:∀S a w φ tm,(∀i,i<rs.length→S i=true)→Dyn Ty N rs TM HP φ0 p w0 df S a w φ tm→Q .normal a w):
  ∀(fuel:Nat) (listed:Array Bool) (a:Act) (w:World) (φ:Phi) (tm:T V),listed.size=ops.size→Closed ops (fun i=>listed.getD i false)→unl (fun i=>listed.getD i false) rs.length≤fuel→
   Dyn Ty N rs TM HP φ0 p w0 df (fun i=>listed.getD i false) a w φ tm→wpAnyIn F n P .any ops Q fuel listed a w:=by
 have stuck:∀(listed:Array Bool),listed.size=ops.size→Region.ready .any ops listed=[]→∀i,i<rs.length→listed.getD i false=true:=by
  intro listed hsz hre i
  induction i using Nat.strongRecOn with
  |_ i ih=>
   intro hi
   cases hb:listed.getD i false with
   |true=>rfl
   |false=>
    exfalso
    have:i∈Region.ready .any ops listed:=(ready_mem hsz).2 ⟨by rw[←hs.size];exact hi,hb,fun o ho e he hbd=>by
     have h1:=hs.back i o e ho he hbd
     exact ih e.on h1 (by omega)⟩
    rw[hre] at this;cases this
 intro fuel
 induction fuel with
 |zero=>
  intro listed a w φ tm hsz hcl hu hd
  have hall:=unl_zero (Nat.le_zero.1 hu)
  refine⟨?_,hq _ a w φ tm hall hd⟩
  apply List.eq_nil_iff_forall_not_mem.2
  intro i hi
  obtain⟨h1,h2,_⟩:=(ready_mem hsz).1 hi
  have:=hall i (by rw[hs.size];exact h1)
  rw[h2] at this;cases this
 |succ fuel ih=>
  intro listed a w φ tm hsz hcl hu hd
  refine⟨fun hre=>hq _ a w φ tm (stuck listed hsz hre) hd,fun i hi=>?_⟩
  obtain⟨h1,h2,h3⟩:=(ready_mem hsz).1 hi
  have hi':i<rs.length:=by rw[hs.size];exact h1
  have hadd:(fun j=>(listed.setIfInBounds i true).getD j false)=addS (fun j=>listed.getD j false) i:=by
   funext j
   unfold addS
   by_cases e:j=i
   ·subst e
    have:j<listed.size:=by omega
    simp[Array.getD_eq_getD_getElem?,this]
   ·have e':¬i=j:=fun h=>e h.symm
    simp[Array.getD_eq_getD_getElem?,Array.getElem?_setIfInBounds,e,e']
  have hcl':Closed ops (addS (fun j=>listed.getD j false) i):=by
   intro j o ho hj e he hb
   by_cases e1:j=i
   ·subst e1
    have:=h3 o ho e he hb
    unfold addS;split<;>first|rfl|exact this
   ·rw[addS_ne e1] at hj
    have:=hcl j o ho hj e he hb
    unfold addS;split<;>first|rfl|exact this
  refine one_step hs hF hT hD hK hdf hwf hfr hcl hcl' h2 hi' hd fun a' w' φ' tm' hd'=>?_
  refine ih _ a' w' φ' tm' (by simp[hsz]) (by rw[hadd];exact hcl') ?_ (by rw[hadd];exact hd')
  rw[hadd]
  have:=unl_add (S:=fun j=>listed.getD j false) h2 rs.length hi'
  omega
end
theorem sw_eq (j k:Nat):sw j k=if k=j then j+1 else if k=j+1 then j else k:=by
 unfold sw
 cases h1:Nat.beq k j with
 |true=>rw[if_pos (Nat.eq_of_beq_eq_true h1)]
 |false=>
  have n1:¬k=j:=fun e=>by subst e;simp at h1
  rw[if_neg n1]
  cases h2:Nat.beq k (j+1) with
  |true=>rw[if_pos (Nat.eq_of_beq_eq_true h2)]
  |false=>
   have n2:¬k=j+1:=fun e=>by subst e;simp at h2
   rw[if_neg n2]
theorem sw_sw (j k:Nat):sw j (sw j k)=k:=by
 by_cases h1:k=j
 ·rw[sw_eq j k,if_pos h1,sw_eq,if_neg (by omega),if_pos rfl,h1]
 ·by_cases h2:k=j+1
  ·rw[sw_eq j k,if_neg h1,if_pos h2,sw_eq,if_pos rfl,h2]
  ·rw[sw_eq j k,if_neg h1,if_neg h2,sw_eq,if_neg h1,if_neg h2]
theorem sw_lt {j k n:Nat}(hj:j+1<n):sw j k<n↔k<n:=by
 rw[sw_eq]
 split
 ·omega
 ·split<;>omega
theorem swapL_get {j:Nat}{l:List Oper}:swapL j l=l∨(j+1<l.length∧(swapL j l).length=l.length∧∀k,(swapL j l)[k]? =(l[sw j k]?).map (relO j)):=by
 unfold swapL
 split
 ·rename_i a b r h
  right
  have hl:l=l.take j++a::b::r:=by rw[←h,List.take_append_drop]
  have hlen:l.length=(l.take j).length+(r.length+2):=(congrArg List.length hl).trans (by rw[List.length_append];rfl)
  have hj:j<l.length:=by
   have:=congrArg List.length h
   rw[List.length_drop] at this
   simp only[List.length_cons] at this;omega
  have ht:(l.take j).length=j:=by rw[List.length_take];omega
  have hlen2:l.length=j+(r.length+2):=by rw[hlen,ht]
  refine⟨by omega,by simp[ht];omega,fun k=>?_⟩
  rw[List.getElem?_map]
  congr 1
  have hlk:∀i:Nat,l[i]? =(l.take j++a::b::r)[i]? :=fun i=>by rw[←hl]
  rw[hlk,sw_eq]
  by_cases h1:k<j
  ·rw[if_neg (by omega),if_neg (by omega),List.getElem?_append_left (by omega),List.getElem?_append_left (by omega)]
  ·rw[List.getElem?_append_right (by omega),ht]
   by_cases h2:k=j
   ·rw[if_pos h2,List.getElem?_append_right (by omega),ht,h2,Nat.sub_self,show j+1-j=1 by omega]
    rfl
   ·rw[if_neg h2]
    by_cases h3:k=j+1
    ·rw[if_pos h3,List.getElem?_append_right (by omega),ht,h3,Nat.sub_self,show j+1-j=1 by omega]
     rfl
    ·rw[if_neg h3,List.getElem?_append_right (by omega),ht]
     obtain⟨d,hd⟩:∃d,k-j=d+2:=⟨k-j-2,by omega⟩
     rw[hd]
     rfl
 ·exact .inl rfl
section
variable {P:Program} {F:Fence} {n:Nat} {Q:Exit→Act→World→Prop}
theorem wpOp_mono {ops:Array Oper}{i:Nat}{K K':Act→World→Prop}{a:Act}{w:World}(hk:∀a w,K a w→K' a w)(h:wpOpIn F n P ops Q i K a w):wpOpIn F n P ops Q i K' a w:=by
 unfold wpOpIn at *
 split at h
 ·exact hk _ _ h
 ·split at h
  ·rename_i hw;rw[if_pos hw];exact Oper.wpIn_mono hk h
  ·rename_i hw;rw[if_neg hw];exact⟨h.1,hk _ _ h.2⟩
theorem any_swap {j:Nat}{l:List Oper}(hj:j+1<l.length)(hlen:(swapL j l).length=l.length)(hg:∀k,(swapL j l)[k]? =(l[sw j k]?).map (relO j)):
  ∀(fuel:Nat) (listed listed':Array Bool) (a:Act) (w:World),listed.size=l.length→listed'.size=l.length→(∀k,listed'.getD (sw j k) false=listed.getD k false)→
   wpAnyIn F n P .any (swapL j l).toArray Q fuel listed' a w→wpAnyIn F n P .any l.toArray Q fuel listed a w:=by
 have hrd:∀(listed listed':Array Bool),listed.size=l.length→listed'.size=l.length→(∀k,listed'.getD (sw j k) false=listed.getD k false)→∀i,i∈Region.ready .any l.toArray listed↔sw j i∈Region.ready .any (swapL j l).toArray listed':=by
  intro listed listed' h1 h2 h3 i
  rw[ready_mem (by simpa using h1),ready_mem (by simpa[hlen] using h2)]
  simp only[List.size_toArray,hlen,sw_lt hj,h3,List.getElem?_toArray,hg,sw_sw]
  constructor
  ·rintro⟨a1,a2,a3⟩
   refine⟨a1,a2,fun o ho e he hb=>?_⟩
   cases hl:l[i]? with
   |none=>rw[hl] at ho;cases ho
   |some x=>
    rw[hl,Option.map_some,Option.some.injEq] at ho
    subst ho
    simp only[relO,List.mem_map] at he
    obtain⟨e0,he0,rfl⟩:=he
    have:=a3 x hl e0 he0 hb
    show listed'.getD (sw j e0.on) false=true
    rw[h3];exact this
  ·rintro⟨a1,a2,a3⟩
   refine⟨a1,a2,fun o ho e he hb=>?_⟩
   have:=a3 (relO j o) (by rw[ho];rfl) (relE j e) (by simp only[relO,List.mem_map];exact⟨e,he,rfl⟩) hb
   have h4:listed'.getD (sw j e.on) false=true:=this
   rw[h3] at h4;exact h4
 intro fuel
 induction fuel with
 |zero=>
  intro listed listed' a w h1 h2 h3 h
  refine⟨?_,h.2⟩
  apply List.eq_nil_iff_forall_not_mem.2
  intro i hi
  have:=(hrd listed listed' h1 h2 h3 i).1 hi
  rw[h.1] at this;cases this
 |succ fuel ih=>
  intro listed listed' a w h1 h2 h3 h
  refine⟨fun he=>h.1 ?_,fun i hi=>?_⟩
  ·apply List.eq_nil_iff_forall_not_mem.2
   intro i hi
   have:=(hrd listed listed' h1 h2 h3 (sw j i)).2 (by rw[sw_sw];exact hi)
   rw[he] at this;cases this
  ·have h4:=h.2 (sw j i) ((hrd listed listed' h1 h2 h3 i).1 hi)
   have h5:∀(K:Act→World→Prop) a w,wpOpIn F n P (swapL j l).toArray Q (sw j i) K a w→wpOpIn F n P l.toArray Q i K a w:=by
    intro K a w hh
    unfold wpOpIn at *
    rw[List.getElem?_toArray] at *
    rw[hg,sw_sw] at hh
    cases hl:l[i]? with
    |none=>rw[hl] at hh;exact hh
    |some o=>
     rw[hl] at hh
     have hw:Region.wanted (relO j o) (yielded (swapL j l).toArray a.tmps)=Region.wanted o (yielded l.toArray a.tmps):=by
      unfold Region.wanted
      cases hgd:o.guard with
      |none=>simp only[relO,relG,hgd]
      |some g=>
       obtain⟨gi,gb⟩:=g
       simp only[relO,relG,hgd]
       have hy:yielded (swapL j l).toArray a.tmps (sw j gi)=yielded l.toArray a.tmps gi:=by
        unfold yielded
        rw[List.getElem?_toArray,List.getElem?_toArray,hg,sw_sw]
        cases l[gi]? <;>rfl
       rw[hy]
     simp only[Option.map_some] at hh⊢
     rw[hw] at hh
     exact hh
   refine wpOp_mono (fun a' w' hk=>?_) (h5 _ _ _ h4)
   refine ih _ _ a' w' (by simpa using h1) (by simpa using h2) (fun k=>?_) hk
   have hi1:=((ready_mem (by simpa using h1)).1 hi).1
   have hi2:i<listed.size:=by rw[h1];simpa using hi1
   have hi3:sw j i<listed'.size:=by rw[h2];exact(sw_lt hj).2 (by simpa using hi1)
   have h3k:=h3 k
   simp only[Array.getD_eq_getD_getElem?] at h3k
   by_cases e:i=k
   ·subst e
    simp[Array.getD_eq_getD_getElem?,Array.getElem?_setIfInBounds,hi2,hi3]
   ·have e2:¬sw j i=sw j k:=fun h=>e (by rw[←sw_sw j i,h,sw_sw])
    simp only[Array.getD_eq_getD_getElem?,Array.getElem?_setIfInBounds,if_neg e,if_neg e2]
    exact h3k
theorem any_mend {Q:Exit→Act→World→Prop}{a:Act}{w:World}:∀(f:Nat) (l:List Oper),wpAnyIn F n P .any (mend f l).toArray Q (mend f l).toArray.size (Array.replicate (mend f l).toArray.size false) a w→wpAnyIn F n P .any l.toArray Q l.toArray.size (Array.replicate l.toArray.size false) a w
 |0,l,h=>h
 |f+1,l,h=>by
  unfold mend at h
  split at h
  ·rename_i k _
   have h1:=any_mend f _ h
   rcases swapL_get (j:=k) (l:=l) with e|⟨hj,hlen,hg⟩
   ·rw[e] at h1;exact h1
   ·have hs:(swapL k l).toArray.size=l.toArray.size:=by simp[hlen]
    rw[hs] at h1
    refine any_swap hj hlen hg _ _ _ _ _ (by simp) (by simp) (fun i=>?_) h1
    simp only[Array.getD_eq_getD_getElem?,Array.getElem?_replicate]
    split<;>split<;>rfl
  ·exact h
end
section
variable {P:Program} {Ty:Nat→Option TD} {F:Fence} {n N:Nat}
theorem dops_any (hF:Wide F)(hT:TyOK P Ty)(hD:8≤P.depth){K:Kall}(hK:KOk P Ty K){ops:Array Oper}{l:List O}(hc:compD Ty ops.toList=some l)(hlt:opsLt N l=true)
  {s:St} {tm':T V} {h':H} {φ:Phi} {p:Nat→Prop} {a:Act} {w:World} (hv:evD K l s.tm s.h=some (tm',h')) (hon:On Ty N φ p s a w) (hf:Fresh p s.h.next h'.next) {Q:Exit→Act→World→Prop}
  (hq:∀a' w',After Ty N φ p s.h w ⟨tm',h',s.df⟩ a' w'→Q .normal a' w'):wpAnyIn F n P .any ops Q ops.size (Array.replicate ops.size false) a {w with drawn:=w.drawn+1}:=by
 simp only[compD] at hc
 split at hc
 ·rename_i l0 hl0
  split at hc
  ·rename_i hd
   split at hc
   ·rename_i hb
    cases hc
    unfold evD at hv
    split at hv
    ·rename_i rs r hrun
     split at hv
     ·rename_i hseen
      obtain rfl:r=(tm',h'):=Option.some.inj hv
      obtain⟨TM,HP,e1,e2,e3,e4,hs⟩:=stat_of (Ty:=Ty) (N:=N) hl0 hlt hd hb hrun hseen
      have hle:=hs.ht.le hK.le
      have hL:=hs.ht.len
      have hleL:∀j k,j≤k→k≤rs.length→(HP j).le (HP k):=fun j k h1 h2=>hle j k h1 (by rw[←hL];exact h2)
      have hcut0:cut rs (fun _=>false) rs.length=0:=(cnt_stay (rs:=rs) (S:=fun _=>false) (i:=0) rs.length (by omega) (fun _ _ _ _ _ _=>rfl)).2
      have hg0:gS rs HP (fun _=>false)=(HP 0).get:=by
       funext b
       unfold gS
       rw[hcut0]
       refine ov_none (E:=fun b=>ex rs 0 (fun _=>false) b rs.length) ?_
       show ex rs 0 (fun _=>false) b rs.length=none
       rw[ex_stay (i:=0) rs.length (by omega) (fun j r _ _ _ hh=>by cases hh.2.1)]
       rfl
      have hp0:pS rs HP p (fun _=>false)=p:=by
       funext b
       unfold pS
       rw[hcut0]
       apply propext
       constructor
       ·rintro(h1|h1|⟨j,r,_,_,h3,_⟩)
        ·exact h1
        ·omega
        ·cases h3
       ·exact .inl
      have hlist:(fun i=>(Array.replicate ops.size false).getD i false)=fun _=>false:=by
       funext i
       simp only[Array.getD_eq_getD_getElem?,Array.getElem?_replicate]
       split<;>rfl
      refine any_order hs hF hT hD hK (φ0:=φ) (p:=p) (w0:=w) (df:=s.df) hon.dfp (by rw[e2];exact hon.wf) (by rw[e2,e4];exact hf) (fun S a' w' φ' tmS hall hdyn=>?_)
       ops.size _ a _ φ s.tm (by simp) (by rw[hlist];intro i o _ h;cases h) ?_ ?_
      ·-- the end
       have hgL:∀b,(HP rs.length).get b=gS rs HP S b:=fun b=>
        heap_text hs.ht (S:=S) (c:=cut rs S rs.length) rs.length (cut_le _) (Nat.le_refl _) (fun j r h1 h2 h3 h4 h5=>hall j h2)
         (fun j r h1 h2 h3 h4=>by
          cases hwj:r.w with
          |false=>rfl
          |true=>have:=cut_max (S:=S) rs.length j r h2 h3 (hall j h2) h4 hwj;omega) b
       have hgL':gS rs HP S=h'.get:=by funext b;rw[←hgL b,e4]
       have hpL:∀b,pS rs HP p S b→grow p s.h.next h'.next b:=by
        rw[←e2,←e4]
        rintro b (h1|h1|⟨j,r,a1,a2,a3,a4,a5,a6⟩)
        ·exact .inl h1
        ·have:=(hleL _ rs.length (cut_le (rs:=rs) (S:=S) rs.length) (Nat.le_refl _)).1
         exact .inr (by omega)
        ·have hj:j<rs.length:=(List.getElem?_eq_some_iff.1 a1).1
         have h2:=hs.ht.ev j r a1 a4
         rw[evI_1 a5] at h2
         obtain⟨X,hX⟩:=evA_add h2
         have h3:r.h'.next=r.h.next+1:=by rw[hX,H.next_add]
         have h4:=(hleL 0 j (by omega) (by omega)).1
         have h5:=(hleL (j+1) rs.length (by omega) (Nat.le_refl _)).1
         rw[←hs.ht.h j r a1] at h4
         rw[←hs.ht.h' j r a1] at h5
         exact .inr (by omega)
       have hvL:∀t,(Opd.t t).ev tmS=(Opd.t t).ev tm':=fun t=>by
        rw[hdyn.val t,val_text hs.ht rs.length (by rw[hL];exact Nat.le_refl _) (fun j r h1 _ _=>hall j h1),e3]
       have hnone:∀k,k≤rs.length→∀t,N≤t→(TM k).get t=none:=by
        intro k
        induction k with
        |zero=>intro _ t ht;rw[e1];exact(hon.tms.2 t).2 ht
        |succ k ih=>
         intro hk t ht
         have hr:rs[k]? =some rs[k]:=List.getElem?_eq_getElem (by omega)
         have hk2:k<ops.size:=by rw[←hs.size];omega
         have hdN:=(hs.op k _ _ (Array.getElem?_eq_getElem hk2) hr).2.2.2
         rw[hs.ht.put k _ hr]
         cases hd:(rs[k]).o.dst with
         |none=>exact ih (by omega) t ht
         |some d=>
          have:=hdN d hd
          simp only[putD,T.get_put_eq]
          have:t≠d:=by omega
          simp[this,ih (by omega) t ht]
       refine hq a' w' ⟨φ',⟨?_,⟨hdyn.tms.1,fun t=>⟨?_,fun ht=>?_⟩⟩,fun t v hv=>?_,hdyn.df,fun d hd=>.inl (hon.dfp d hd),?_⟩,?_⟩
       ·rw[←hgL'];exact hdyn.rep.mono hpL
       ·rw[←hvL t];exact(hdyn.tms.2 t).1
       ·have:=hnone rs.length (Nat.le_refl _) t ht;rwa[e3] at this
       ·have h1:=hvL t
        dsimp only at hv
        simp only[Opd.ev,hv] at h1
        cases h2:tmS.get t with
        |none=>rw[h2] at h1;dsimp only at h1;rw[←h1];exact und_sc
        |some u=>rw[h2] at h1;dsimp only at h1;rw[←h1];exact V.sc_mono hpL _ (hdyn.sc t u h2)
       ·have:=(hleL 0 rs.length (by omega) (Nat.le_refl _)).2;rw[e2,e4] at this;exact this hon.wf
       ·have:=hdyn.ext.mono' hpL
        rw[hgL',e2] at this
        exact this
      ·rw[hs.size]
       have:∀(S:Nat→Bool) k,unl S k≤k:=by
        intro S k;induction k with
        |zero=>exact Nat.le_refl _
        |succ k ih=>simp only[unl];split<;>omega
       exact this _ _
      ·rw[hlist]
       refine⟨hon.tms,by rw[hp0];exact hon.sc,fun t=>?_,?_,?_,hon.df⟩
       ·rw[val_skip (i:=0) rs.length (by omega) (fun _ _ _ _ _ _=>rfl),e1];rfl
       ·rw[hg0,hp0,e2];exact hon.rep.heap rfl
       ·rw[hg0,hp0,e2];exact Ext.heap rfl
     ·cases hv
    ·cases hv
   ·cases hc
  ·cases hc
 ·cases hc
theorem dops_sound (hF:Wide F)(hT:TyOK P Ty)(hD:8≤P.depth)(hM:P.follows .mixedOrders=true){K:Kall}(hK:KOk P Ty K){ops:Array Oper}{id:Nat}{l:List O}(hc:comp Ty (.region id ops true)=some (.dops l))(hlt:opsLt N l=true)
  {s:St} {tm':T V} {h':H} {φ:Phi} {p:Nat→Prop} {a:Act} {w:World} (hv:evD K l s.tm s.h=some (tm',h')) (hon:On Ty N φ p s a w) (hf:Fresh p s.h.next h'.next) {Q:Exit→Act→World→Prop}
  (hq:∀a' w',After Ty N φ p s.h w ⟨tm',h',s.df⟩ a' w'→Q .normal a' w'):(Code.region id ops true).wpIn F n P Q a w:=by
 simp only[comp] at hc
 refine wpIn_region_any hM ?_
 split at hc
 ·rename_i l0 hl0
  cases hc
  exact dops_any hF hT hD hK hl0 hlt hv hon hf hq
 ·split at hc
  ·rename_i l0 hl0
   cases hc
   have h1:=dops_any (n:=n) (ops:=(mend 64 ops.toList).toArray) hF hT hD hK hl0 hlt hv hon hf hq
   exact any_mend (a:=a) 64 ops.toList h1
  ·cases hc
end
end Go.Ab
