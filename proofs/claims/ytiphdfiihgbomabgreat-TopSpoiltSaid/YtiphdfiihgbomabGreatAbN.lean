/- Drawn regions, fourth part: all that the checks give. -/
import Derived.Test.YtiphdfiihgbomabGreatAbM
set_option linter.unusedSimpArgs false
set_option linter.unusedVariables false
namespace Go.Ab
theorem compL_get {Ty:Nat→Option TD}{all:List Oper}:∀{l:List Oper} {r:List O},compL Ty all l=some r→r.length=l.length∧∀(i:Nat) (o:Oper) (x:O),l[i]? =some o→r[i]? =some x→compO Ty all o=some x
 |[],r,h=>by cases h;exact⟨rfl,by simp⟩
 |o::l,r,h=>by
  simp only[compL] at h
  split at h
  ·rename_i x hx
   split at h
   ·rename_i r' hr
    cases h
    obtain⟨h1,h2⟩:=compL_get hr
    refine⟨by simp[h1],fun i o' x' ho hx'=>?_⟩
    cases i with
    |zero=>simp at ho hx';subst ho hx';exact hx
    |succ i=>simp at ho hx';exact h2 i o' x' ho hx'
   ·cases h
  ·cases h
theorem compO_spec {Ty:Nat→Option TD}{all:List Oper}{o:Oper}{x:O}(hx:compO Ty all o=some x):compOp Ty o.op=some x.i∧x.dst=o.dst∧gdOf all o.guard=some x.gd:=by
 unfold compO at hx
 split at hx
 ·rename_i ii hii
  split at hx
  ·rename_i g hg
   cases hx
   exact⟨hii,rfl,hg⟩
  ·cases hx
 ·cases hx
theorem opsLt_get {N:Nat}:∀{l:List O},opsLt N l=true→∀(i:Nat) (x:O) (d:Nat),l[i]? =some x→x.dst=some d→d<N
 |[],_,i,x,d,h,_=>by simp at h
 |y::l,hl,i,x,d,h,hd=>by
  simp only[opsLt] at hl
  cases i with
  |zero=>
   simp at h;subst h
   split at hl
   ·rename_i e;rw[hd] at e;cases e
   ·rename_i d' e
    rw[hd] at e;cases e
    split at hl
    ·rename_i e2;simpa using e2
    ·cases hl
  |succ i=>
   simp at h
   split at hl
   ·exact opsLt_get hl i x d h hd
   ·split at hl
    ·exact opsLt_get hl i x d h hd
    ·cases hl
structure FreeS (a b:O):Prop where
 dst:∀t,a.dst=some t→t ∉b.reads∧b.dst≠some t
 rd:∀t,b.dst=some t→t ∉a.reads
 eff:2≤b.i.kind→a.i.kind=0
def PF (rs:List Rec)(S:Nat→Bool):Prop:=∀(i:Nat) (r:Rec) (j:Nat) (r':Rec),rs[i]? =some r→2≤r.o.i.kind→S i=false→i<j→rs[j]? =some r'→2≤r'.o.i.kind→S j=false
structure Stat (Ty:Nat→Option TD)(K:Kall)(N:Nat)(ops:Array Oper)(l:List O)(rs:List Rec)(TM:Nat→T V)(HP:Nat→H):Prop where
 ht:Trace K l rs TM HP
 size:rs.length=ops.size
 op:∀(i:Nat) (o:Oper) (r:Rec),ops[i]? =some o→rs[i]? =some r→compOp Ty o.op=some r.o.i∧r.o.dst=o.dst∧gdOf ops.toList o.guard=some r.o.gd∧(∀d,r.o.dst=some d→d<N)
 ord:∀(i j:Nat) (a b:Rec),rs[i]? =some a→rs[j]? =some b→i<j→(∀S,Closed ops S→S j=true→S i=true)∨FreeS a.o b.o
 back:∀(i:Nat) (o:Oper) (e:Edge),ops[i]? =some o→e∈o.after.toList→Region.binds .any e=true→e.on<i
 seen:∀(i:Nat) (r:Rec),rs[i]? =some r→r.w=true→r.o.i.reads=true→∀S,Closed ops S→Closed ops (addS S i)→S i=false→PF rs S→
  ∃e,cut rs S rs.length≤e∧e≤rs.length∧(∀j r',cut rs S rs.length≤j→j<e→rs[j]? =some r'→2≤(r':Rec).o.i.kind→r'.w=false)∧evQ r.tm (HP e) r.o.i=some r.v
theorem reads_kind {i:I}(h:i.reads=true):i.kind=0:=by cases i<;>simp_all [I.reads,I.kind]
theorem stat_of {Ty:Nat→Option TD}{K:Kall}{N:Nat}{ops:Array Oper}{l0:List O}(hl0:compL Ty ops.toList ops.toList=some l0)(hlt:opsLt N (wins l0 (masks ops.toList []) l0 (masks ops.toList []) 0)=true)
  (hd:dOK [] l0 (masks ops.toList [])=true) (hb:backs 0 (masks ops.toList [])=true) {tm tm':T V} {h h':H} {rs:List Rec}
  (hrun:runT K (wins l0 (masks ops.toList []) l0 (masks ops.toList []) 0) tm h=some (rs,tm',h')) (hseen:seenAll (stages h rs) rs=true):
  ∃TM HP,TM 0=tm∧HP 0=h∧TM rs.length=tm'∧HP rs.length=h'∧Stat Ty K N ops (wins l0 (masks ops.toList []) l0 (masks ops.toList []) 0) rs TM HP:=by
 obtain⟨hlen,hcg⟩:=compL_get hl0
 obtain⟨hml,hdg⟩:=dOK_get hd
 have hml':(masks ops.toList []).length=l0.length:=hml.symm
 generalize hms:masks ops.toList []=ms at *
 have hwl:=wins_len (all:=l0) (ms:=ms) (l:=l0) (r:=ms) (i:=0) hml
 obtain⟨TM,HP,e1,e2,e3,e4,ht⟩:=runT_trace hrun
 have hrl:rs.length=l0.length:=by rw[ht.len,hwl]
 have hsz:rs.length=ops.size:=by rw[hrl,hlen];rfl
 have getl:∀(i:Nat) (r:Rec),rs[i]? =some r→∃x m,l0[i]? =some x∧ms[i]? =some m∧r.o=(match x.i.reads with|true=>{x with win:=some (winP m l0 0,winQ i l0 ms)}|false=>x):=by
  intro i r hr
  have hi:i<l0.length:=by rw[←hrl];exact(List.getElem?_eq_some_iff.1 hr).1
  have hx:l0[i]? =some l0[i]:=List.getElem?_eq_getElem hi
  have hi2:i<ms.length:=by rw[hml'];exact hi
  have hm:ms[i]? =some ms[i]:=List.getElem?_eq_getElem hi2
  refine⟨_,_,hx,hm,?_⟩
  have:=wins_get (all:=l0) (ms:=ms) (l:=l0) (r:=ms) (i:=0) hml i _ _ hx hm
  rw[ht.o i r hr] at this
  simp only[Option.some.injEq,Nat.zero_add] at this
  rw[this]
  cases(l0[i]).i.reads<;>rfl
 have fields:∀{r:Rec} {x:O} {m i:Nat},r.o=(match x.i.reads with|true=>{x with win:=some (winP m l0 0,winQ i l0 ms)}|false=>x)→r.o.i=x.i∧r.o.dst=x.dst∧r.o.gd=x.gd∧r.o.reads=x.reads:=by
  intro r x m i e
  rw[e]
  cases x.i.reads<;>exact⟨rfl,rfl,rfl,rfl⟩
 have hki:∀(j:Nat) (a:O) (r:Rec),l0[j]? =some a→rs[j]? =some r→r.o.i=a.i:=by
  intro j a r ha hr
  obtain⟨x,m,hx,hm,e⟩:=getl j r hr
  rw[ha] at hx;cases hx
  exact(fields e).1
 refine⟨TM,HP,e1,e2,by rw[ht.len,e3],by rw[ht.len,e4],ht,hsz,fun i o r ho hr=>?_,fun i j a b ha hbb hij=>?_,fun i o e ho he hbd=>?_,fun i r hr hw hrd S hS hS' hSi hpf=>?_⟩
 ·obtain⟨x,m,hx,hm,e⟩:=getl i r hr
  obtain⟨f1,f2,f3,f4⟩:=fields e
  have ho':ops.toList[i]? =some o:=by rw[Array.getElem?_toList];exact ho
  obtain⟨c1,c2,c3⟩:=compO_spec (hcg i o x ho' hx)
  refine⟨by rw[f1];exact c1,by rw[f2];exact c2,by rw[f3];exact c3,fun d hd'=>?_⟩
  exact opsLt_get hlt i r.o d (ht.o i r hr) hd'
 ·obtain⟨x,m,hx,hm,e⟩:=getl i a ha
  obtain⟨y,m',hy,hm',e'⟩:=getl j b hbb
  obtain⟨f1,f2,f3,f4⟩:=fields e
  obtain⟨g1,g2,g3,g4⟩:=fields e'
  rcases hdg j y m' hy hm' i x (by simpa using hij) (by simpa using hx) with hbit|hfree
  ·left
   intro S hS hj
   exact closed_mask hS j m' (by rw[hms];exact hm') hj i hbit
  ·right
   obtain⟨k1,k2,k3⟩:=free_spec hfree
   exact⟨fun t ht'=>by rw[g4,g2];exact k1 t (by rw[←f2];exact ht'),fun t ht'=>by rw[f4];exact k2 t (by rw[←g2];exact ht'),by rw[f1,g1];exact k3⟩
 ·exact backward (by rw[hms];exact hb) ho he hbd
 ·obtain⟨x,m,hx,hm,e⟩:=getl i r hr
  have hrx:x.i.reads=true:=by rw[←(fields e).1];exact hrd
  rw[hrx] at e
  have hwin:r.o.win=some (winP m l0 0,winQ i l0 ms):=by rw[e]
  obtain⟨e0,k1,k2,k3,hst⟩:=stages_get ht hpf rs 0 (by simp) (by omega) (fun j r h1=>by omega) h e2.symm
  simp only[cnt,Nat.sub_zero] at hst
  refine⟨e0,k1,k2,k3,?_⟩
  refine seenAll_spec hseen r (List.mem_of_getElem? hr) hw _ _ hwin (cnt rs S rs.length) _ ?_ ?_ hst
  ·have:=winP_le (rs:=rs) (S:=S) hki hrl.symm (m:=m) (fun j r' hr' hk hbit=>by
    have:=closed_mask hS' i m (by rw[hms];exact hm) addS_self j hbit
    by_cases e:j=i
    ·subst e
     rw[hr] at hr';cases hr'
     have:=reads_kind hrd
     omega
    ·rwa[addS_ne e] at this) l0 0 (by simp)
   simpa[cnt] using this
  ·have:=winQ_ge (rs:=rs) (S:=S) hki hrl.symm hml' (i:=i) (fun j r' m' hr' hk hm'' hSj=>by
    cases hbit:bit m' i with
    |false=>rfl
    |true=>
     have:=closed_mask hS j m' (by rw[hms];exact hm'') hSj i hbit
     rw[hSi] at this;cases this) l0 0 (by simp)
   simpa[cnt] using this
end Go.Ab
