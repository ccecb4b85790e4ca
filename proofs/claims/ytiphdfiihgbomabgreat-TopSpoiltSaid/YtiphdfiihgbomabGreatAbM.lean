/- Drawn regions, third part: stages, windows, heaps. -/
import Derived.Test.YtiphdfiihgbomabGreatAbL
set_option linter.unusedSimpArgs false
set_option linter.unusedVariables false
namespace Go.Ab
def cut (rs:List Rec)(S:Nat→Bool):Nat→Nat
 |0=>0
 |i+1=>match rs[i]? with
  |some r=>if S i=true∧2≤r.o.i.kind∧r.w=true then i+1 else cut rs S i
  |none=>cut rs S i
def cnt (rs:List Rec)(S:Nat→Bool):Nat→Nat
 |0=>0
 |i+1=>match rs[i]? with
  |some r=>if S i=true∧2≤r.o.i.kind then cnt rs S i+1 else cnt rs S i
  |none=>cnt rs S i
noncomputable def ex (rs:List Rec)(c:Nat)(S:Nat→Bool)(b:Nat):Nat→Option Blk
 |0=>none
 |i+1=>match rs[i]? with
  |some r=>if c≤i∧S i=true∧r.w=true∧r.o.i.kind=1∧r.h.next=b then r.h'.get b else ex rs c S b i
  |none=>ex rs c S b i
def ov (E g:Nat→Option Blk):Nat→Option Blk:=fun b=>match E b with|some x=>some x|none=>g b
section
variable {rs:List Rec} {S:Nat→Bool}
theorem cnt_mono {i:Nat}:∀j,i≤j→cnt rs S i≤cnt rs S j
 |0,h=>by
   have:i=0:=by omega
   subst this;exact Nat.le_refl _
 |j+1,h=>by
  by_cases e:i=j+1
  ·subst e;exact Nat.le_refl _
  ·have ih:=cnt_mono (i:=i) j (by omega)
   simp only[cnt]
   split
   ·split<;>omega
   ·exact ih
theorem cnt_stay {i:Nat}:∀j,i≤j→(∀k r,i≤k→k<j→rs[k]? =some r→2≤(r:Rec).o.i.kind→S k=false)→cnt rs S j=cnt rs S i∧cut rs S j=cut rs S i
 |0,h,_=>by
   have:i=0:=by omega
   subst this;exact⟨rfl,rfl⟩
 |j+1,h,hn=>by
  by_cases e:i=j+1
  ·subst e;exact⟨rfl,rfl⟩
  ·have ih:=cnt_stay (i:=i) j (by omega) (fun k r h1 h2 h3 h4=>hn k r h1 (by omega) h3 h4)
   simp only[cnt,cut]
   cases hr:rs[j]? with
   |none=>exact ih
   |some r=>
    have c1:¬(S j=true∧2≤r.o.i.kind):=fun⟨h1,h2⟩=>by have:=hn j r (by omega) (by omega) hr h2;rw[h1] at this;cases this
    have c2:¬(S j=true∧2≤r.o.i.kind∧r.w=true):=fun⟨h1,h2,_⟩=>c1 ⟨h1,h2⟩
    simp only[c1,c2,if_false]
    exact ih
theorem cut_spec:∀k,cut rs S k=0∨∃j r,j<k∧cut rs S k=j+1∧rs[j]? =some r∧S j=true∧2≤r.o.i.kind∧r.w=true
 |0=>.inl rfl
 |k+1=>by
  simp only[cut]
  have ih:=cut_spec k
  have lift:(cut rs S k=0∨∃j r,j<k∧cut rs S k=j+1∧rs[j]? =some r∧S j=true∧2≤r.o.i.kind∧r.w=true)→
    (cut rs S k=0∨∃j r,j<k+1∧cut rs S k=j+1∧rs[j]? =some r∧S j=true∧2≤r.o.i.kind∧r.w=true):=by
   rintro(h|⟨j,r,h1,h2⟩)
   ·exact .inl h
   ·exact .inr ⟨j,r,by omega,h2⟩
  split
  ·rename_i r hr
   split
   ·rename_i hc
    exact .inr ⟨k,r,by omega,rfl,hr,hc.1,hc.2.1,hc.2.2⟩
   ·exact lift ih
  ·exact lift ih
theorem cut_le:∀k,cut rs S k≤k
 |0=>Nat.le_refl _
 |k+1=>by
  simp only[cut]
  have:=cut_le k
  split
  ·split<;>omega
  ·omega
theorem cut_max:∀(k j:Nat) (r:Rec),j<k→rs[j]? =some r→S j=true→2≤r.o.i.kind→r.w=true→j+1≤cut rs S k
 |0,j,r,h,_,_,_,_=>by omega
 |k+1,j,r,h,hr,hS,hk,hw=>by
  simp only[cut]
  by_cases e:j=k
  ·subst e;simp[hr,hS,hk,hw]
  ·have ih:=cut_max k j r (by omega) hr hS hk hw
   split
   ·split<;>omega
   ·exact ih
theorem cut_add {i:Nat}{r:Rec}(hr:rs[i]? =some r)(hn:¬(2≤r.o.i.kind∧r.w=true)):∀k,cut rs (addS S i) k=cut rs S k
 |0=>rfl
 |k+1=>by
  simp only[cut]
  rw[cut_add hr hn k]
  by_cases e:k=i
  ·subst e
   have c1:∀q:Prop,¬(q∧2≤r.o.i.kind∧r.w=true):=fun q h=>hn h.2
   simp only[hr,c1,if_false]
  ·rw[addS_ne e]
theorem cut_eff {i:Nat}{r:Rec}(hr:rs[i]? =some r)(h2:2≤r.o.i.kind)(hw:r.w=true){k:Nat}(hk:i<k)(hn:∀j r',i<j→j<k→rs[j]? =some r'→2≤(r':Rec).o.i.kind→S j=false):
  cut rs (addS S i) k=i+1:=by
 have:=(cnt_stay (rs:=rs) (S:=addS S i) (i:=i+1) k (by omega) (fun j r' h1 h2 h3 h4=>by rw[addS_ne (by omega)];exact hn j r' (by omega) h2 h3 h4)).2
 rw[this]
 simp[cut,hr,addS_self,h2,hw]
theorem drop_cons {α:Type}{l:List α}{i:Nat}{a:α}{r:List α}(h:l.drop i=a::r):l[i]? =some a∧l.drop (i+1)=r:=by
 constructor
 ·have:(l.drop i)[0]? =some a:=by rw[h];rfl
  rwa[List.getElem?_drop,Nat.add_zero] at this
 ·have:(l.drop i).drop 1=r:=by rw[h];rfl
  rwa[List.drop_drop] at this
variable {K:Kall} {l:List O} {TM:Nat→T V} {HP:Nat→H}
theorem stages_get (ht:Trace K l rs TM HP)
  (hpf:∀i r j r',rs[i]? =some r→2≤(r:Rec).o.i.kind→S i=false→i<j→rs[j]? =some r'→2≤(r':Rec).o.i.kind→S j=false):
  ∀(suf:List Rec) (i:Nat),rs.drop i=suf→i≤rs.length→(∀j r,j<i→rs[j]? =some r→2≤(r:Rec).o.i.kind→S j=true)→∀g,g=HP i→
   ∃e,cut rs S rs.length≤e∧e≤rs.length∧(∀j r,cut rs S rs.length≤j→j<e→rs[j]? =some r→2≤(r:Rec).o.i.kind→r.w=false)∧(stages g suf)[cnt rs S rs.length-cnt rs S i]? =some (HP e)
 |[],i,hd,hi,hS,g,hg=>by
  have hle:rs.length≤i:=by simpa using hd
  obtain rfl:i=rs.length:=by omega
  refine⟨rs.length,cut_le _,Nat.le_refl _,fun j r h1 h2 h3 h4=>?_,by simp[stages,hg]⟩
  cases hw:r.w with
  |false=>rfl
  |true=>have:=cut_max rs.length j r h2 h3 (hS j r h2 h3 h4) h4 hw;omega
 |r::suf,i,hd,hi,hSb,g,hg=>by
  obtain⟨hr,hd'⟩:=drop_cons hd
  have hlt:i<rs.length:=(List.getElem?_eq_some_iff.1 hr).1
  simp only[stages]
  cases hb:Nat.ble 2 r.o.i.kind with
  |false=>
   have hn:¬2≤r.o.i.kind:=fun h=>by rw[Nat.ble_eq_true_of_le h] at hb;cases hb
   have e1:cnt rs S (i+1)=cnt rs S i:=by simp[cnt,hr,hn]
   have:=stages_get ht hpf suf (i+1) hd' (by omega) (fun j r' h1 h2 h3=>by
    by_cases e:j=i
    ·subst e;rw[hr] at h2;cases h2;exact absurd h3 hn
    ·exact hSb j r' (by omega) h2 h3) r.h' (ht.h' i r hr)
   rwa[e1] at this
  |true=>
   have hk:=Nat.le_of_ble_eq_true hb
   cases hS:S i with
   |false=>
    have:=cnt_stay (rs:=rs) (S:=S) (i:=i) rs.length (by omega) (fun k r' h1 h2 h3 h4=>by
     by_cases e:k=i
     ·subst e;exact hS
     ·exact hpf i r k r' hr hk hS (by omega) h3 h4)
    refine⟨i,by rw[this.2];exact cut_le _,by omega,fun j r' h1 h2 h3 h4=>?_,by rw[this.1,hg];simp⟩
    cases hw:r'.w with
    |false=>rfl
    |true=>have:=cut_max rs.length j r' (by omega) h3 (hSb j r' h2 h3 h4) h4 hw;omega
   |true=>
    have e1:cnt rs S (i+1)=cnt rs S i+1:=by simp[cnt,hr,hk,hS]
    have hm:=cnt_mono (rs:=rs) (S:=S) (i:=i+1) rs.length (by omega)
    have e3:cnt rs S rs.length-cnt rs S i=(cnt rs S rs.length-cnt rs S (i+1))+1:=by omega
    rw[e3]
    have:=stages_get ht hpf suf (i+1) hd' (by omega) (fun j r' h1 h2 h3=>by
     by_cases e:j=i
     ·subst e;exact hS
     ·exact hSb j r' (by omega) h2 h3) r.h' (ht.h' i r hr)
    simpa using this
theorem winP_le {l0:List O}(hk:∀(j:Nat) (a:O) (r:Rec),l0[j]? =some a→rs[j]? =some r→r.o.i=a.i)(hlen:l0.length=rs.length){m:Nat}
  (hS:∀j r,rs[j]? =some r→2≤(r:Rec).o.i.kind→bit m j=true→S j=true):
  ∀(suf:List O) (k:Nat),l0.drop k=suf→winP m suf k+cnt rs S k≤cnt rs S rs.length
 |[],k,hd=>by
  have hle:rs.length≤k:=by rw[←hlen];simpa using hd
  have:=cnt_stay (rs:=rs) (S:=S) (i:=rs.length) k hle (fun k r h1 h2 h3=>by rw[List.getElem?_eq_none h1] at h3;cases h3)
  simp[winP,this.1]
 |a::suf,k,hd=>by
  obtain⟨ha,hd'⟩:=drop_cons hd
  have hlt:k<rs.length:=by rw[←hlen];exact(List.getElem?_eq_some_iff.1 ha).1
  have hr:rs[k]? =some rs[k]:=List.getElem?_eq_getElem hlt
  have hi:=hk k a _ ha hr
  have ih:=winP_le hk hlen hS suf (k+1) hd'
  have hm:=cnt_mono (rs:=rs) (S:=S) (i:=k) (k+1) (by omega)
  simp only[winP]
  cases hb:Nat.ble 2 a.i.kind with
  |false=>simp only;omega
  |true=>
   have hkd:=Nat.le_of_ble_eq_true hb
   simp only
   cases hbit:bit m k with
   |false=>simp only;omega
   |true=>
    have hSk:=hS k _ hr (by rw[hi];exact hkd) hbit
    have e1:cnt rs S (k+1)=cnt rs S k+1:=by simp only[cnt,hr];rw[if_pos ⟨hSk,by rw[hi];exact hkd⟩]
    simp only;omega
theorem winQ_ge {l0:List O}{ms:List Nat}(hk:∀(j:Nat) (a:O) (r:Rec),l0[j]? =some a→rs[j]? =some r→r.o.i=a.i)(hlen:l0.length=rs.length)(hml:ms.length=l0.length){i:Nat}
  (hS:∀j r m,rs[j]? =some r→2≤(r:Rec).o.i.kind→ms[j]? =some m→S j=true→bit m i=false):
  ∀(suf:List O) (k:Nat),l0.drop k=suf→cnt rs S rs.length≤cnt rs S k+winQ i suf (ms.drop k)
 |[],k,hd=>by
  have hle:rs.length≤k:=by rw[←hlen];simpa using hd
  have:=cnt_stay (rs:=rs) (S:=S) (i:=rs.length) k hle (fun k r h1 h2 h3=>by rw[List.getElem?_eq_none h1] at h3;cases h3)
  omega
 |a::suf,k,hd=>by
  obtain⟨ha,hd'⟩:=drop_cons hd
  have hlt:k<rs.length:=by rw[←hlen];exact(List.getElem?_eq_some_iff.1 ha).1
  have hr:rs[k]? =some rs[k]:=List.getElem?_eq_getElem hlt
  have hi:=hk k a _ ha hr
  have ih:=winQ_ge hk hlen hml hS suf (k+1) hd'
  have hmk:k<ms.length:=by rw[hml,hlen];exact hlt
  have hm:ms[k]? =some ms[k]:=List.getElem?_eq_getElem hmk
  have hmd:ms.drop k=ms[k]::ms.drop (k+1):=List.drop_eq_getElem_cons hmk
  rw[hmd]
  simp only[winQ]
  cases hb:Nat.ble 2 a.i.kind with
  |false=>
   have hn:¬2≤(rs[k]).o.i.kind:=fun h=>by rw[hi] at h;rw[Nat.ble_eq_true_of_le h] at hb;cases hb
   have e1:cnt rs S (k+1)=cnt rs S k:=by simp only[cnt,hr];rw[if_neg fun h=>hn h.2]
   simp only;omega
  |true=>
   have hkd:=Nat.le_of_ble_eq_true hb
   cases hS':S k with
   |true=>
    have hbf:=hS k _ _ hr (by rw[hi];exact hkd) hm hS'
    have e1:cnt rs S (k+1)=cnt rs S k+1:=by simp only[cnt,hr];rw[if_pos ⟨hS',by rw[hi];exact hkd⟩]
    simp only[hbf];omega
   |false=>
    have e1:cnt rs S (k+1)=cnt rs S k:=by simp only[cnt,hr];rw[if_neg fun h=>by rw[hS'] at h;cases h.1]
    simp only
    split<;>omega
theorem evA_add {tm:T V}{h h':H}{i:I}{v:V}(hv:evA tm h i=some (v,h')):∃X,h'=h.add X:=by
 cases i<;>simp only[evA,reduceCtorEq] at hv
 case alc=>simp only[a_new,Option.some.injEq,Prod.mk.injEq] at hv;exact⟨_,hv.2.symm⟩
 case box=>simp only[a_new,Option.some.injEq,Prod.mk.injEq] at hv;exact⟨_,hv.2.symm⟩
 case bsl=>
  unfold a_bsl at hv
  split at hv
  ·simp only[Option.some.injEq,Prod.mk.injEq] at hv;exact⟨_,hv.2.symm⟩
  ·cases hv
 case msl=>
  unfold a_msl at hv
  split at hv
  ·split at hv
   ·simp only[og_eq,lf_eq,Option.some.injEq,Prod.mk.injEq] at hv
    exact⟨_,hv.2.2.2.2.symm⟩
   ·cases hv
  ·cases hv
 case mkm=>simp only[Option.some.injEq,Prod.mk.injEq] at hv;exact⟨_,hv.2.symm⟩
theorem ex_low {c b:Nat}:∀k,k≤c→ex rs c S b k=none
 |0,_=>rfl
 |k+1,h=>by
  simp only[ex]
  split
  ·rw[if_neg (by omega)];exact ex_low k (by omega)
  ·exact ex_low k (by omega)
theorem ex_stay {c b i:Nat}:∀k,i≤k→(∀j r,i≤j→j<k→rs[j]? =some r→¬(c≤j∧S j=true∧(r:Rec).w=true∧r.o.i.kind=1∧r.h.next=b))→ex rs c S b k=ex rs c S b i
 |0,h,_=>by
   have:i=0:=by omega
   subst this;rfl
 |k+1,h,hn=>by
  by_cases e:i=k+1
  ·subst e;rfl
  ·have ih:=ex_stay (i:=i) k (by omega) (fun j r h1 h2 h3=>hn j r h1 (by omega) h3)
   simp only[ex]
   split
   ·rename_i r hr
    rw[if_neg (hn k r (by omega) (by omega) hr)];exact ih
   ·exact ih
theorem ex_some {c b:Nat}{x:Blk}:∀k,ex rs c S b k=some x→∃j r,j<k∧rs[j]? =some r∧c≤j∧S j=true∧r.w=true∧r.o.i.kind=1∧r.h.next=b∧r.h'.get b=some x
 |0,h=>by cases h
 |k+1,h=>by
  simp only[ex] at h
  have lift:ex rs c S b k=some x→∃j r,j<k+1∧rs[j]? =some r∧c≤j∧S j=true∧r.w=true∧r.o.i.kind=1∧r.h.next=b∧r.h'.get b=some x:=fun h=>by
   obtain⟨j,r,h1,h2⟩:=ex_some k h
   exact⟨j,r,by omega,h2⟩
  split at h
  ·rename_i r hr
   split at h
   ·rename_i hc
    exact⟨k,r,by omega,hr,hc.1,hc.2.1,hc.2.2.1,hc.2.2.2.1,hc.2.2.2.2,h⟩
   ·exact lift h
  ·exact lift h
variable (ht:Trace K l rs TM HP) (hK:Kle K)
include ht hK
theorem next_lt {i j:Nat}{r r':Rec}(hi:rs[i]? =some r)(hj:rs[j]? =some r')(hij:i<j)(hw:r.w=true)(hk:r.o.i.kind=1):r.h.next<r'.h.next:=by
 have h1:=ht.ev i r hi hw
 rw[evI_1 hk] at h1
 obtain⟨X,hX⟩:=evA_add h1
 have h2:r.h'.next=r.h.next+1:=by rw[hX,H.next_add]
 have hlj:j<rs.length:=(List.getElem?_eq_some_iff.1 hj).1
 have h3:=(ht.le hK (i+1) j (by omega) (by rw[←ht.len];omega)).1
 rw[←ht.h' i r hi,←ht.h j r' hj] at h3
 omega
theorem ex_is {c j:Nat}{r:Rec}(hr:rs[j]? =some r)(hc:c≤j)(hS:S j=true)(hw:r.w=true)(hk:r.o.i.kind=1){k:Nat}(hjk:j<k):ex rs c S r.h.next k=r.h'.get r.h.next:=by
 rw[ex_stay (i:=j+1) k (by omega) (fun j' r' h1 h2 h3 ⟨_,_,_,_,h4⟩=>by
  have:=next_lt ht hK hr h3 (by omega) hw hk
  omega)]
 simp[ex,hr,hc,hS,hw,hk]
omit hK in
theorem heap_text {c:Nat}:∀k,c≤k→k≤rs.length→(∀j r,c≤j→j<k→rs[j]? =some r→(r:Rec).w=true→r.o.i.kind=1→S j=true)→
  (∀j r,c≤j→j<k→rs[j]? =some r→2≤(r:Rec).o.i.kind→r.w=false)→∀b,(HP k).get b=ov (fun b=>ex rs c S b k) (HP c).get b
 |0,h,_,_,_,b=>by
  have:c=0:=by omega
  subst this;simp[ov,ex]
 |k+1,h,hk,h1,h2,b=>by
  by_cases e:c=k+1
  ·subst e;simp[ov,ex_low (k+1) (Nat.le_refl _)]
  ·have ih:=heap_text (c:=c) k (by omega) (by omega) (fun j r a1 a2 a3=>h1 j r a1 (by omega) a3) (fun j r a1 a2 a3=>h2 j r a1 (by omega) a3) b
   have hr:rs[k]? =some rs[k]:=List.getElem?_eq_getElem (by omega)
   have e1:=ht.h k _ hr
   have e2:=ht.h' k _ hr
   rw[←e1] at ih
   rw[←e2]
   simp only[ov,ex,hr] at ih⊢
   cases hw:(rs[k]).w with
   |false=>
    rw[(ht.un k _ hr hw).2]
    simp[ih]
   |true=>
    have hev:=ht.ev k _ hr hw
    by_cases hk1:(rs[k]).o.i.kind=1
    ·rw[evI_1 hk1] at hev
     obtain⟨X,hX⟩:=evA_add hev
     have hS:=h1 k _ (by omega) (by omega) hr hw hk1
     by_cases hb:(rs[k]).h.next=b
     ·have hc:c≤k:=by omega
      simp only[hc,hS,hk1,hb,true_and,and_self,if_true]
      rw[hX,H.get_add,←hb,upd_same]
     ·simp only[hb,and_false,if_false]
      rw[hX,H.get_add,upd_ne (fun h=>hb h.symm)]
      exact ih
    ·by_cases hk2:2≤(rs[k]).o.i.kind
     ·have:=h2 k _ (by omega) (by omega) hr hk2
      rw[hw] at this;cases this
     ·have hk0:(rs[k]).o.i.kind=0:=by omega
      rw[evI_0 hk0] at hev
      unfold lq at hev
      split at hev
      ·simp only[Option.some.injEq,Prod.mk.injEq] at hev
       have this:=hev.2.symm
       rw[this]
       simp[hk1,ih]
      ·cases hev
end
end Go.Ab
