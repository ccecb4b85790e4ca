/- Drawn regions, second part: what the checks say. -/
import Derived.Test.YtiphdfiihgbomabGreatAbI
set_option linter.unusedSimpArgs false
set_option linter.unusedVariables false
namespace Go.Ab
theorem bit_eq (m j:Nat):bit m j=m.testBit j:=by
 unfold bit Nat.testBit
 rw[Nat.and_comm]
 have h1:Nat.land (Nat.shiftRight m j) 1=1&&& (m>>>j):=by rw[Nat.and_comm];rfl
 rw[Bool.eq_iff_iff]
 have h2:(1&&& (m>>>j))=(m>>>j)%2:=by rw[Nat.and_comm];exact Nat.and_one_is_mod _
 have h3:Nat.land (Nat.shiftRight m j) 1=(m>>>j)%2:=by rw[h1,h2]
 rw[h3,Nat.and_comm,h2]
 have:=Nat.mod_two_eq_zero_or_one (m>>>j)
 constructor
 ·intro h;have:=Nat.eq_of_beq_eq_true h;simp[this]
 ·intro h;rcases this with h4|h4
  ·simp[h4] at h
  ·simp[h4]
theorem bit_lor (a b j:Nat):bit (Nat.lor a b) j=(bit a j||bit b j):=by
 rw[bit_eq,bit_eq,bit_eq];exact Nat.testBit_or a b j
theorem bit_one (k j:Nat):bit (Nat.shiftLeft 1 k) j=decide (j=k):=by
 rw[bit_eq]
 have:Nat.shiftLeft 1 k=2^k:=Nat.one_shiftLeft k
 rw[this,Nat.testBit_two_pow]
 rw[Bool.eq_iff_iff];simp;exact eq_comm
theorem bit_zero (j:Nat):bit 0 j=false:=by rw[bit_eq];exact Nat.zero_testBit j
theorem maskOf_bit {acc:List Nat}{j:Nat}:∀{es:List Edge},bit (maskOf acc es) j=true→∃e∈es,Region.binds .any e=true∧(j=e.on∨bit (acc.getD e.on 0) j=true)
 |[],h=>by simp[maskOf,bit_zero] at h
 |e::es,h=>by
  simp only[maskOf] at h
  split at h
  ·rename_i hb
   simp only[bit_lor,bit_one,Bool.or_eq_true,decide_eq_true_eq] at h
   rcases h with(h|h)|h
   ·exact⟨e,by simp,hb,.inl h⟩
   ·exact⟨e,by simp,hb,.inr h⟩
   ·obtain⟨e',h1,h2⟩:=maskOf_bit h
    exact⟨e',by simp[h1],h2⟩
  ·obtain⟨e',h1,h2⟩:=maskOf_bit h
   exact⟨e',by simp[h1],h2⟩
theorem maskOf_on {acc:List Nat}:∀{es:List Edge} {e:Edge},e∈es→Region.binds .any e=true→bit (maskOf acc es) e.on=true
 |x::es,e,he,hb=>by
  simp only[maskOf]
  simp only[List.mem_cons] at he
  split
  ·rcases he with rfl|he
   ·simp only[bit_lor,bit_one,decide_true,Bool.true_or]
   ·simp only[bit_lor,maskOf_on he hb,Bool.or_true]
  ·rename_i hx
   rcases he with rfl|he
   ·rw[hb] at hx;cases hx
   ·exact maskOf_on he hb
theorem masks_get:∀(l:List Oper) (acc:List Nat),(masks l acc).take acc.length=acc∧(masks l acc).length=acc.length+l.length∧
  ∀i o,l[i]? =some o→(masks l acc)[acc.length+i]? =some (maskOf ((masks l acc).take (acc.length+i)) o.after.toList)
 |[],acc=>⟨by simp[masks],by simp[masks],by simp⟩
 |o::l,acc=>by
  obtain⟨h1,h2,h3⟩:=masks_get l (acc++[maskOf acc o.after.toList])
  simp only[masks]
  simp only[List.length_append,List.length_cons,List.length_nil] at h1 h2 h3
  have e1:(masks l (acc++[maskOf acc o.after.toList])).take acc.length=acc:=by
   have:=congrArg (List.take acc.length) h1
   rw[List.take_take,List.take_append_of_le_length (Nat.le_refl _)] at this
   simpa using this
  refine⟨e1,by simp[h2];omega,fun i o' hi=>?_⟩
  cases i with
  |zero=>
   simp at hi;subst hi
   simp only[Nat.add_zero]
   rw[e1]
   have:=congrArg (fun x=>x[acc.length]?) h1
   rw[List.getElem?_take_of_lt (by omega)] at this
   simpa using this
  |succ i=>
   simp at hi
   have:=h3 i o' hi
   have e2:acc.length+(0+1)+i=acc.length+(i+1):=by omega
   rw[e2] at this
   exact this
def Closed (ops:Array Oper)(S:Nat→Bool):Prop:=∀i o,ops[i]? =some o→S i=true→∀e∈o.after.toList,Region.binds .any e=true→S e.on=true
theorem closed_mask {ops:Array Oper}{S:Nat→Bool}(hS:Closed ops S):∀(i:Nat) (m:Nat),(masks ops.toList [])[i]? =some m→S i=true→∀j,bit m j=true→S j=true:=by
 obtain⟨_,hl,hg⟩:=masks_get ops.toList []
 simp only[List.length_nil,Nat.zero_add] at hl hg
 intro i
 induction i using Nat.strongRecOn with
 |_ i ih=>
  intro m hm hi j hb
  have hlt:i<ops.toList.length:=by rw[←hl];exact(List.getElem?_eq_some_iff.1 hm).1
  have ho:ops.toList[i]? =some ops.toList[i]:=List.getElem?_eq_getElem hlt
  have:=hg i _ ho
  rw[hm] at this
  simp only[Option.some.injEq] at this
  subst this
  obtain⟨e,h1,h2,h3⟩:=maskOf_bit hb
  have hon:=hS i _ (by rw[←Array.getElem?_toList];exact ho) hi e h1 h2
  rcases h3 with rfl|h3
  ·exact hon
  ·by_cases hlt2:e.on<i
   ·have hlen:e.on<(masks ops.toList []).length:=by rw[hl];omega
    have hx:(masks ops.toList [])[e.on]? =some (masks ops.toList [])[e.on]:=List.getElem?_eq_getElem hlen
    refine ih e.on hlt2 _ hx hon j ?_
    rw[List.getD_eq_getElem?_getD,List.getElem?_take_of_lt hlt2,hx] at h3
    exact h3
   ·rw[List.getD_eq_getElem?_getD,List.getElem?_take_eq_none (by omega)] at h3
    simp[bit_zero] at h3
theorem backs_get:∀{l:List Nat} {k:Nat},backs k l=true→∀i m,l[i]? =some m→Nat.shiftRight m (k+i)=0
 |[],k,_,i,m,hm=>by simp at hm
 |x::l,k,hb,i,m,hm=>by
  simp only[backs] at hb
  split at hb
  ·rename_i h1
   cases i with
   |zero=>simp at hm;subst hm;exact Nat.eq_of_beq_eq_true h1
   |succ i=>
    simp at hm
    have:=backs_get hb i m hm
    have e:k+(i+1)=k+1+i:=by omega
    rw[e];exact this
  ·cases hb
theorem backward {ops:Array Oper}(hb:backs 0 (masks ops.toList [])=true){i:Nat}{o:Oper}(ho:ops[i]? =some o){e:Edge}(he:e∈o.after.toList)(hbd:Region.binds .any e=true):e.on<i:=by
 obtain⟨_,hl,hg⟩:=masks_get ops.toList []
 simp only[List.length_nil,Nat.zero_add] at hl hg
 have h1:=hg i o (by rw[Array.getElem?_toList];exact ho)
 have h2:=backs_get hb i _ h1
 rw[Nat.zero_add] at h2
 have h3:=maskOf_on (acc:=(masks ops.toList []).take i) he hbd
 refine Nat.lt_of_not_le fun hle=>?_
 rw[bit_eq] at h3
 generalize maskOf ((masks ops.toList []).take i) o.after.toList=m at h2 h3
 have h4:(m>>>i).testBit (e.on-i)=m.testBit e.on:=by rw[Nat.testBit_shiftRight];congr 1;omega
 have h5:m>>>i=0:=h2
 rw[h5,Nat.zero_testBit] at h4
 rw[←h4] at h3;cases h3
theorem pairs_get {m:Nat}{i:O}:∀{l:List O} {k:Nat},pairsOK m i l k=true→∀j a,l[j]? =some a→bit m (k+j)=true∨free a i=true
 |[],k,_,j,a,hj=>by simp at hj
 |x::l,k,hp,j,a,hj=>by
  simp only[pairsOK] at hp
  have step:pairsOK m i l (k+1)=true→∀j,l[j]? =some a→bit m (k+(j+1))=true∨free a i=true:=fun h j hj=>by
   have:=pairs_get h j a hj
   have e:k+(j+1)=k+1+j:=by omega
   rw[e];exact this
  split at hp
  ·rename_i hb
   cases j with
   |zero=>exact .inl hb
   |succ j=>simp at hj;exact step hp j hj
  ·split at hp
   ·rename_i hf
    cases j with
    |zero=>simp at hj;subst hj;exact .inr hf
    |succ j=>simp at hj;exact step hp j hj
   ·cases hp
theorem dOK_get:∀{l done:List O} {ms:List Nat},dOK done l ms=true→l.length=ms.length∧∀i b m,l[i]? =some b→ms[i]? =some m→∀j a,j<done.length+i→(done++l)[j]? =some a→bit m j=true∨free a b=true
 |[],done,[],_=>⟨rfl,by simp⟩
 |[],done,m::ms,h=>by simp[dOK] at h
 |o::l,done,[],h=>by simp[dOK] at h
 |o::l,done,m::ms,h=>by
  simp only[dOK] at h
  split at h
  ·rename_i hp
   obtain⟨h1,h2⟩:=dOK_get h
   refine⟨by simp[h1],fun i b m' hb hm j a hj ha=>?_⟩
   cases i with
   |zero=>
    simp at hb hm;subst hb hm
    have ha':done[j]? =some a:=by rw[List.getElem?_append_left (by omega)] at ha;exact ha
    have:=pairs_get hp j a ha'
    rwa[Nat.zero_add] at this
   |succ i=>
    simp at hb hm
    refine h2 i b m' hb hm j a (by simp;omega) ?_
    simpa using ha
  ·cases h
theorem meets_spec:∀{l r:List Nat},meets l r=false→∀x∈l,x ∉r
 |a::l,r,h,x,hx=>by
  simp only[meets] at h
  split at h
  ·cases h
  ·rename_i hf
   simp only[List.mem_cons] at hx
   rcases hx with rfl|hx
   ·intro hm
    have:=List.any_eq_false.1 hf x hm
    simp at this
   ·exact meets_spec h x hx
theorem free_spec {a b:O}(h:free a b=true):(∀t,a.dst=some t→t ∉b.reads∧b.dst≠some t)∧(∀t,b.dst=some t→t ∉a.reads)∧(2≤b.i.kind→a.i.kind=0):=by
 simp only[free,Bool.and_eq_true,Bool.not_eq_true'] at h
 obtain⟨⟨h1,h2⟩,h3⟩:=h
 refine⟨fun t ht=>?_,fun t ht=>?_,fun hk=>?_⟩
 ·have:=meets_spec h1 t (by simp[O.writes,ht])
  simp only[List.mem_append,not_or] at this
  exact⟨this.1,fun hd=>this.2 (by simp[O.writes,hd])⟩
 ·exact meets_spec h2 t (by simp[O.writes,ht])
 ·rw[Nat.ble_eq_true_of_le hk] at h3
  exact Nat.eq_of_beq_eq_true h3
theorem wins_get {all:List O}{ms:List Nat}:∀{l:List O} {r:List Nat} {i:Nat},l.length=r.length→∀(k:Nat) (o:O) (m:Nat),l[k]? =some o→r[k]? =some m→
  (wins all ms l r i)[k]? =some (match o.i.reads with|true=>{o with win:=some (winP m all 0,winQ (i+k) all ms)}|false=>o)
 |[],r,i,_,k,o,m,ho,_=>by simp at ho
 |x::l,[],i,h,k,o,m,_,_=>by simp at h
 |x::l,y::r,i,h,k,o,m,ho,hm=>by
  simp only[wins]
  cases k with
  |zero=>simp at ho hm;subst ho hm;simp;cases x.i.reads<;>rfl
  |succ k=>
   simp at ho hm
   have:=wins_get (all:=all) (ms:=ms) (l:=l) (r:=r) (i:=i+1) (by simpa using h) k o m ho hm
   have e:i+1+k=i+(k+1):=by omega
   rw[e] at this
   simpa using this
theorem wins_len {all:List O}{ms:List Nat}:∀{l:List O} {r:List Nat} {i:Nat},l.length=r.length→(wins all ms l r i).length=l.length
 |[],[],i,_=>rfl
 |[],_::_,i,h=>by simp at h
 |x::l,[],i,h=>by simp at h
 |x::l,y::r,i,h=>by simp[wins,wins_len (l:=l) (r:=r) (by simpa using h)]
theorem dropH_eq:∀(n:Nat) (l:List H),dropH n l=l.drop n
 |0,l=>rfl
 |n+1,[]=>rfl
 |n+1,_::l=>by simp[dropH,dropH_eq n l]
theorem seen_spec {i:I}{tm:T V}{v:V}:∀{n:Nat} {gs:List H},seen i tm v n gs=true→∀k g,k<n→gs[k]? =some g→evQ tm g i=some v
 |0,gs,_,k,g,hk,_=>by omega
 |n+1,[],h,k,g,_,hg=>by simp at hg
 |n+1,x::gs,h,k,g,hk,hg=>by
  simp only[seen] at h
  split at h
  ·rename_i u e
   split at h
   ·rename_i hb
    have:=vbeq_eq _ _ hb;subst this
    cases k with
    |zero=>simp at hg;subst hg;exact e
    |succ k=>simp at hg;exact seen_spec h k g (by omega) hg
   ·cases h
  ·cases h
theorem seenAll_spec {gs:List H}:∀{rs:List Rec},seenAll gs rs=true→∀r∈rs,r.w=true→∀p q,r.o.win=some (p,q)→∀(c:Nat) (g:H),p≤c→c≤q→gs[c]? =some g→evQ r.tm g r.o.i=some r.v
 |[],_,r,hr,_,_,_,_,_,_,_,_,_=>by cases hr
 |x::rs,h,r,hr,hw,p,q,hp,c,g,h1,h2,hg=>by
  simp only[seenAll] at h
  simp only[List.mem_cons] at hr
  have tail:seenAll gs rs=true→r∈rs→evQ r.tm g r.o.i=some r.v:=fun h hr=>seenAll_spec h r hr hw p q hp c g h1 h2 hg
  split at h
  ·rename_i hxw
   split at h
   ·rename_i p' q' hwin
    split at h
    ·rename_i hs
     rcases hr with rfl|hr
     ·rw[hp] at hwin;cases hwin
      refine seen_spec hs (c-p) g (by omega) ?_
      rw[dropH_eq,List.getElem?_drop]
      have:p+(c-p)=c:=by omega
      rw[this];exact hg
     ·exact tail h hr
    ·cases h
   ·rename_i hwin
    rcases hr with rfl|hr
    ·rw[hp] at hwin;cases hwin
    ·exact tail h hr
  ·rename_i hxw
   rcases hr with rfl|hr
   ·rw[hw] at hxw;cases hxw
   ·exact tail h hr
end Go.Ab
