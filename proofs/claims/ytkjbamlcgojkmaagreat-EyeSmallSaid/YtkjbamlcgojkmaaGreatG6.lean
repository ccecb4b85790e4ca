/- Some eyes, as the law tries them; which lists rise; slices.Compare. Sortings into sets of which any two go together: the first one that is found, and that no fewer sets do. Plain. Slices of our own that are cut short and grow again; lists of them. All rising lists of so many numbers, one by one, until one holds. The eyes that tell two pieces apart, as the program finds them. enough: whether some eyes tell apart all that can be told apart. Fewest. most: the longest lists of pieces of which every two pass a test. Strangers, Greatest. sorting: the first sorting into at most so many sets. What the longest list for which something holds is. Plain. How many: strangers, sets, eyes. Plain. Numbers as sets by bits; into how few sets, of each set from smaller ones. Plain. EyeMore: what one piece more does. Plain; the first rows of a slice. -/
import Derived.Test.YtkjbamlcgojkmaaGreatG2
import Derived.Test.YtkjbamlcgojkmaaGreatPa5
import Derived.Test.YtkjbamlcgojkmaaGreatG5
set_option linter.unusedSimpArgs false
set_option linter.unusedVariables false
theorem yea {p:Prop}(h:p:=by omega):p:=h
theorem yeb {p:Prop}(h:p:=by repeat(first|assumption|exact H.Sub.refl (by assumption)|refine H.Sub.add ?_ _|refine H.Sub.set ?_ (by first|omega|(simp only[H.next_add,H.next_set,H.next_del]<;>omega)) (by first|omega|(simp only[H.next_add,H.next_set,H.next_del]<;>omega)) (by assumption) _)):p:=h
theorem yec {p:Prop}(h:p:=by simp):p:=h
theorem yed {p:Prop}(h:p:=by simp only[List.length_map];omega):p:=h
theorem yee {p:Prop}(h:p:=by simp<;>rfl):p:=h
theorem yef {p:Prop}(h:p:=by simp;omega):p:=h
theorem yeg {p:Prop}(h:p:=by rw[List.length_set];exact hl):p:=h
theorem yeh {p:Prop}(h:p:=by simp[t0]):p:=h
namespace Go.Ab
def upto (p:Nat):List Int:=(List.range p).map fun i:Nat=>(i:Int)
theorem Yf {p:Nat}{x:Int}:x∈upto p↔0≤x∧x<(p:Int):=by
 unfold upto
 rw[List.mem_map]
 constructor
 ·rintro⟨i,hi,rfl⟩
  have:=List.mem_range.1 hi;omega
 ·intro h
  exact⟨x.toNat,List.mem_range.2 yea,by omega⟩
theorem upto_succ (p:Nat):upto (p+1)=upto p++[(p:Int)]:=by unfold upto;rw[List.range_succ,List.map_append];rfl
theorem upto_len (p:Nat):(upto p).length=p:=by simp[upto]
theorem upto_nodup (p:Nat):(upto p).Nodup:=by
 unfold upto
 rw[List.Nodup,List.pairwise_map]
 exact(List.nodup_range).imp fun h=>by omega
structure Srt (T:Int→Int→Bool)(p:Nat)(S:List (List Int)):Prop where
 ne:∀l∈S,l≠[]
 up:∀l∈S,l.Pairwise (· < ·)
 go:∀l∈S,l.Pairwise fun a b=>T a b=true
 all:S.flatten.Perm (upto p)
theorem Srt.nil (T:Int→Int→Bool):Srt T 0 []:=⟨by simp,by simp,by simp,by simp[upto]⟩
theorem Srt.mem {T:Int→Int→Bool}{p:Nat}{S:List (List Int)}(a:Srt T p S){l:List Int}(hl:l∈S){x:Int}(hx:x∈l):0≤x∧x<(p:Int):=
 Yf.1 (a.all.mem_iff.1 (List.mem_flatten.2 ⟨l,hl,hx⟩))
theorem Srt.at {T:Int→Int→Bool}{p:Nat}{S:List (List Int)}(a:Srt T p S){x:Int}(h0:0≤x)(h1:x<(p:Int)):∃l∈S,x∈l:=
 List.mem_flatten.1 (a.all.mem_iff.2 (Yf.2 ⟨h0,h1⟩))
theorem Srt.len {T:Int→Int→Bool}{p:Nat}{S:List (List Int)}(a:Srt T p S):S.flatten.length=p:=by rw[a.all.length_eq,upto_len]
theorem Srt.ins {T:Int→Int→Bool}{p:Nat}{S:List (List Int)}(a:Srt T p S){i:Nat}(hi:i<S.length)(h:∀x∈S[i],T x (p:Int)=true):Srt T (p+1) (S.set i (S[i]++[(p:Int)])):=by
 have hm:=List.getElem_mem hi
 refine⟨fun l hl=>?_,fun l hl=>?_,fun l hl=>?_,?_⟩
 ·rcases List.mem_or_eq_of_mem_set hl with h1|rfl
  ·exact a.ne l h1
  ·simp
 ·rcases List.mem_or_eq_of_mem_set hl with h1|rfl
  ·exact a.up l h1
  ·rw[List.pairwise_append]
   exact⟨a.up _ hm,by simp,fun x hx y hy=>by rw[List.mem_singleton] at hy;subst hy;exact(a.mem hm hx).2⟩
 ·rcases List.mem_or_eq_of_mem_set hl with h1|rfl
  ·exact a.go l h1
  ·rw[List.pairwise_append]
   exact⟨a.go _ hm,by simp,fun x hx y hy=>by rw[List.mem_singleton] at hy;subst hy;exact h x hx⟩
 ·rw[upto_succ,List.set_eq_take_append_cons_drop,if_pos hi]
  have e:S=S.take i++S[i]::S.drop (i+1):=by rw[←List.drop_eq_getElem_cons hi,List.take_append_drop]
  have h1:=a.all
  conv at h1=>lhs;rw[e]
  rw[List.flatten_append,List.flatten_cons] at h1⊢
  refine List.Perm.trans ?_ (h1.append_right [(p:Int)])
  rw[List.append_assoc,List.append_assoc,List.append_assoc]
  refine List.Perm.append_left _ (List.Perm.append_left _ ?_)
  exact List.perm_append_comm
theorem Srt.new {T:Int→Int→Bool}{p:Nat}{S:List (List Int)}(a:Srt T p S):Srt T (p+1) (S++[[(p:Int)]]):=by
 refine⟨fun l hl=>?_,fun l hl=>?_,fun l hl=>?_,?_⟩
 ·rcases List.mem_append.1 hl with h1|h1
  ·exact a.ne l h1
  ·rw[List.mem_singleton] at h1;subst h1;simp
 ·rcases List.mem_append.1 hl with h1|h1
  ·exact a.up l h1
  ·rw[List.mem_singleton] at h1;subst h1;simp
 ·rcases List.mem_append.1 hl with h1|h1
  ·exact a.go l h1
  ·rw[List.mem_singleton] at h1;subst h1;simp
 ·rw[upto_succ,List.flatten_append]
  exact List.Perm.append_right _ a.all
def XR (T:Int→Int→Bool)(most:Nat):Nat→Nat→List (List Int)→Option (List (List Int))
 |0,_,S=>some S
 |k+1,p,S=>match(List.range S.length).findSome? fun i=>if((S.getD i []).all fun x=>T x (p:Int))=true then XR T most k (p+1) (S.set i (S.getD i []++[(p:Int)])) else none with
  |some r=>some r
  |none=>if S.length=most then none else XR T most k (p+1) (S++[[(p:Int)]])
theorem putR_srt {T:Int→Int→Bool}{most:Nat}:∀{k p S r},Srt T p S→S.length≤most→XR T most k p S=some r→Srt T (p+k) r∧r.length≤most
 |0,p,S,r,a,hl,h=>by
  simp only[XR,Option.some.injEq] at h
  subst h;exact⟨a,hl⟩
 |k+1,p,S,r,a,hl,h=>by
  simp only[XR] at h
  have e:p+(k+1)=p+1+k:=by omega
  rw[e]
  cases hf:(List.range S.length).findSome? fun i=>if((S.getD i []).all fun x=>T x (p:Int))=true then XR T most k (p+1) (S.set i (S.getD i []++[(p:Int)])) else none with
  |some r'=>
   rw[hf] at h
   simp only[Option.some.injEq] at h
   subst h
   obtain⟨i,hi,h1⟩:=List.exists_of_findSome?_eq_some hf
   have hi:=List.mem_range.1 hi
   have eg:S.getD i []=S[i]:=by rw[List.getD_eq_getElem?_getD,List.getElem?_eq_getElem hi];rfl
   rw[eg] at h1
   split at h1
   ·rename_i hc
    exact putR_srt (a.ins hi fun x hx=>List.all_eq_true.1 hc x hx) yeg h1
   ·cases h1
  |none=>
   rw[hf] at h
   simp only at h
   split at h
   ·cases h
   ·exact putR_srt a.new yef h
def Col (T:Int→Int→Bool)(n m:Nat)(g:Int→Nat):Prop:=(∀x,0≤x→x<(n:Int)→g x<m)∧∀x y,0≤x→x<(n:Int)→0≤y→y<(n:Int)→x≠y→g x=g y→T x y=true
theorem putR_some {T:Int→Int→Bool}{most n:Nat}:∀{k p S},p+k=n→S.length≤most→(∀l∈S,∀x∈l,0≤x∧x<(p:Int))→(∃g,Col T n most g∧∀i (hi:i<S.length),∀x∈S[i],g x=i)→∃r,XR T most k p S=some r
 |0,p,S,_,_,_,_=>⟨S,rfl⟩
 |k+1,p,S,hk,hl,hm,⟨g,⟨g1,g2⟩,g3⟩=>by
  simp only[XR]
  cases hf:(List.range S.length).findSome? fun i=>if((S.getD i []).all fun x=>T x (p:Int))=true then XR T most k (p+1) (S.set i (S.getD i []++[(p:Int)])) else none with
  |some r'=>exact⟨r',rfl⟩
  |none=>
   have hp1:(p:Int)<(n:Int):=by omega
   have hno:=List.findSome?_eq_none_iff.1 hf
   by_cases hc:g (p:Int)<S.length
   ·exfalso
    have h1:=hno (g p) (List.mem_range.2 hc)
    have eg:S.getD (g p) []=S[g p]:=by rw[List.getD_eq_getElem?_getD,List.getElem?_eq_getElem hc];rfl
    rw[eg] at h1
    have hall:(S[g p].all fun x=>T x (p:Int))=true:=List.all_eq_true.2 fun x hx=>by
     have hr:=hm _ (List.getElem_mem hc) x hx
     exact g2 x p hr.1 yea yea hp1 yea (g3 _ hc x hx)
    rw[if_pos hall] at h1
    obtain⟨r,hr⟩:=putR_some (T:=T) (most:=most) (n:=n) (k:=k) (p:=p+1) (S:=S.set (g p) (S[g p]++[(p:Int)])) yea yeg
     (fun l hl x hx=>by
      rcases List.mem_or_eq_of_mem_set hl with h2|rfl
      ·have:=hm l h2 x hx;omega
      ·rcases List.mem_append.1 hx with h2|h2
       ·have:=hm _ (List.getElem_mem hc) x h2;omega
       ·rw[List.mem_singleton] at h2;omega)
     ⟨g,⟨g1,g2⟩,fun i hi x hx=>by
      rw[List.length_set] at hi
      by_cases e:g p=i
      ·subst e
       rw[List.getElem_set_self] at hx
       rcases List.mem_append.1 hx with h2|h2
       ·exact g3 _ hc x h2
       ·rw[List.mem_singleton] at h2;rw[h2]
      ·rw[List.getElem_set_ne e] at hx
       exact g3 i hi x hx⟩
    rw[hr] at h1;cases h1
   ·have hgm:=g1 p yea hp1
    simp only
    rw[if_neg yea]
    refine putR_some (n:=n) yea yef (fun l hl x hx=>?_) ⟨fun x=>if g x=g p then S.length else if g x=S.length then g p else g x,⟨fun x h0 h1=>?_,fun x y a0 a1 b0 b1 hne he=>?_⟩,fun i hi x hx=>?_⟩
    ·rcases List.mem_append.1 hl with h2|h2
     ·have:=hm l h2 x hx;omega
     ·rw[List.mem_singleton] at h2;subst h2;rw[List.mem_singleton] at hx;omega
    ·have:=g1 x h0 h1
     dsimp only
     split
     ·omega
     ·split
      ·exact hgm
      ·exact this
    ·refine g2 x y a0 a1 b0 b1 hne ?_
     dsimp only at he
     split at he<;>split at he<;>(try split at he)<;>(try split at he)<;>omega
    ·rw[List.length_append,List.length_singleton] at hi
     dsimp only
     by_cases e:i<S.length
     ·rw[List.getElem_append_left e] at hx
      have:=g3 i e x hx
      rw[if_neg yea,if_neg yea];exact this
     ·have e2:i=S.length:=by omega
      subst e2
      have:x=(p:Int):=by simpa using hx
      rw[this,if_pos rfl]
def sortR (T:Int→Int→Bool)(n:Nat):Option (List (List Int)):=(List.range (n+1)).findSome? fun m=>XR T m n 0 []
theorem putR_col {T:Int→Int→Bool}{n m:Nat}{g:Int→Nat}(a:Col T n m g):∃r,XR T m n 0 []=some r:=putR_some yea (Nat.zero_le _) yec ⟨g,a,fun i hi=>by simp at hi⟩
theorem Srt.col {T:Int→Int→Bool}(sy:∀x y,T x y=T y x){n:Nat}{S:List (List Int)}(a:Srt T n S):∃g,Col T n S.length g∧∀x,0≤x→x<(n:Int)→∃h:g x<S.length,x∈S[g x]:=by
 have hx:∀x:Int,∃i,0≤x→x<(n:Int)→∃h:i<S.length,x∈S[i]:=fun x=>by
  by_cases h:0≤x∧x<(n:Int)
  ·obtain⟨l,hl,hxl⟩:=a.at h.1 h.2
   obtain⟨i,hi,rfl⟩:=List.getElem_of_mem hl
   exact⟨i,fun _ _=>⟨hi,hxl⟩⟩
  ·exact⟨0,fun h0 h1=>absurd ⟨h0,h1⟩ h⟩
 refine⟨fun x=>(hx x).choose,⟨fun x h0 h1=>((hx x).choose_spec h0 h1).1,fun x y a0 a1 b0 b1 hne he=>?_⟩,fun x h0 h1=>(hx x).choose_spec h0 h1⟩
 obtain⟨h1,h2⟩:=(hx x).choose_spec a0 a1
 obtain⟨h3,h4⟩:=(hx y).choose_spec b0 b1
 dsimp only at he
 have h2':x∈S[(hx y).choose]:=by simpa only[he] using h2
 obtain⟨i,hi,ei⟩:=List.getElem_of_mem h2'
 obtain⟨k,hk,ek⟩:=List.getElem_of_mem h4
 have pw:=List.pairwise_iff_getElem.1 (a.go _ (List.getElem_mem h3))
 rcases Nat.lt_trichotomy i k with h|h|h
 ·have:=pw i k hi hk h;rw[ei,ek] at this;exact this
 ·subst h;exact absurd (ei.symm.trans ek) hne
 ·have:=pw k i hk hi h;rw[ei,ek] at this;rw[sy];exact this
theorem VO (T:Int→Int→Bool)(n:Nat):∃S,sortR T n=some S∧Srt T n S∧∀m g,Col T n m g→S.length≤m:=by
 obtain⟨r0,h0⟩:=putR_col (T:=T) (n:=n) (m:=n) (g:=fun x=>x.toNat) ⟨fun x h0 h1=>by dsimp only;omega,fun x y a0 a1 b0 b1 hne he=>by dsimp only at he;omega⟩
 cases hs:sortR T n with
 |none=>
  have:=List.findSome?_eq_none_iff.1 hs n (List.mem_range.2 yea)
  rw[h0] at this;cases this
 |some S=>
  obtain⟨l1,m,l2,e,h1,h2⟩:=List.findSome?_eq_some_iff.1 hs
  obtain⟨s1,s2⟩:=putR_srt (Srt.nil T) (Nat.zero_le _) h1
  rw[Nat.zero_add] at s1
  refine⟨S,rfl,s1,fun m' g a=>?_⟩
  obtain⟨r,hr⟩:=putR_col a
  have hml:m=l1.length:=by
   have:=congrArg (fun l=>l[l1.length]?) e
   simp only[List.getElem?_append_right (Nat.le_refl _),Nat.sub_self,List.getElem?_cons_zero] at this
   by_cases hlt:l1.length<n+1
   ·rw[List.getElem?_range hlt] at this;simpa using this.symm
   ·rw[List.getElem?_eq_none yef] at this;cases this
  have hrange:∀m'',m''<l1.length→m''∈l1:=fun m'' h=>by
   have:=congrArg (fun l=>l[m'']?) e
   have hl:=congrArg List.length e
   simp only[List.length_range,List.length_append,List.length_cons] at hl
   simp only[List.getElem?_append_left h] at this
   rw[List.getElem?_range yea,List.getElem?_eq_getElem h] at this
   simp only[Option.some.injEq] at this
   rw[this];exact List.getElem_mem h
  by_cases hlt:m'<m
  ·have:=h2 m' (hrange m' yea)
   rw[hr] at this;cases this
  ·omega
end Go.Ab
namespace Go.Ab
def Yo (F:Nat→Prop)(h:H)(x:V)(sz:Nat)(rows:List (List V)):Prop:=
 (∀r∈rows,r.length=sz)∧((x=.nils∧rows=[])∨(∃b rest j,x=.sl b 0 rows.length (.slk 0 0)∧F b∧b<h.next∧h.get b=some (.cells (.gr sz) (rows.flatten++rest))∧rest.length=j*sz)∨
  ∃b c rest,x=.sl b 0 rows.length (.fix c)∧F b∧b<h.next∧h.get b=some (.bk (rows.flatten++rest))∧rows.length*sz+rest.length=c*sz∧rows.length≤c)
theorem ZG.cutO {h0 h:H}{x:V}{sz:Nat}{rows:List (List V)}(a:ZG h0 h x sz rows):Yo (fun b=>h0.next≤b) h x sz rows:=by
 refine⟨a.2.1,?_⟩
 rcases a.2.2 with a2|⟨b,e,l1,l2,hb⟩|⟨b,c,rest,e,l1,l2,hb,k⟩
 ·exact .inl a2
 ·exact .inr (.inl ⟨b,[],0,e,l1,l2,by rw[List.append_nil];exact hb,by simp⟩)
 ·exact .inr (.inr ⟨b,c,rest,e,l1,l2,hb,k⟩)
theorem Yo.sl {F:Nat→Prop}{h:H}{x:V}{sz:Nat}{rows:List (List V)}(a:Yo F h x sz rows)(hl:rows.length≤9223372036854775807):Zg h x sz rows:=by
 obtain⟨a1,a2⟩:=a
 refine⟨a1,hl,?_⟩
 rcases a2 with a2|⟨b,rest,j,e,_,_,hb,_⟩|⟨b,c,rest,e,_,_,hb,_⟩
 ·exact .inl a2
 ·refine .inr ⟨b,0,_,_,e,.inr (Zb hb),Z2.2 ⟨?_,?_⟩⟩
  ·rw[List.drop_zero,←Zr a1,List.take_left'];rfl
  ·rw[List.length_append,Zr a1];omega
 ·refine .inr ⟨b,0,_,_,e,.inr (Zb hb),Z2.2 ⟨?_,?_⟩⟩
  ·rw[List.drop_zero,←Zr a1,List.take_left'];rfl
  ·rw[List.length_append,Zr a1];omega
theorem Yo.keep {F:Nat→Prop}{h h':H}{S:Nat→Prop}{x:V}{sz:Nat}{rows:List (List V)}(a:Yo F h x sz rows)(k:Zi S h h')(n:∀b,Zk x b→¬S b):Yo F h' x sz rows:=by
 obtain⟨a1,a2⟩:=a
 refine⟨a1,?_⟩
 rcases a2 with a2|⟨b,rest,j,e,l1,l2,hb,r⟩|⟨b,c,rest,e,l1,l2,hb,r⟩
 ·exact .inl a2
 ·exact .inr (.inl ⟨b,rest,j,e,l1,Nat.lt_of_lt_of_le l2 k.1,k.2 b _ hb (n b ⟨_,_,_,e⟩),r⟩)
 ·exact .inr (.inr ⟨b,c,rest,e,l1,Nat.lt_of_lt_of_le l2 k.1,k.2 b _ hb (n b ⟨_,_,_,e⟩),r⟩)
theorem Yo.mono {F:Nat→Prop}{h h':H}{x:V}{sz:Nat}{rows:List (List V)}(a:Yo F h x sz rows)(s:h.Sub h'):Yo F h' x sz rows:=a.keep (Zi.of s fun _=>False) fun _ _=>id
theorem Yo.blk {F:Nat→Prop}{h:H}{x:V}{sz:Nat}{rows:List (List V)}(a:Yo F h x sz rows){b:Nat}(e:Zk x b):F b∧b<h.next∧∃k cs,h.get b=some (.cells k cs)∧(k=.rw∨k=.gr sz):=by
 obtain⟨o,n,c,rfl⟩:=e
 rcases a.2 with⟨e,_⟩|⟨b',rest,j,e,l1,l2,hb,_⟩|⟨b',c,rest,e,l1,l2,hb,_⟩
 ·cases e
 ·cases e;exact⟨l1,l2,_,_,hb,.inr rfl⟩
 ·cases e;exact⟨l1,l2,_,_,hb,.inl rfl⟩
theorem Yo.one {F:Nat→Prop}{h:H}{x:V}{sz:Nat}{rows:List (List V)}(a:Yo F h x sz rows):x.one=true:=by
 rcases a.2 with⟨rfl,_⟩|⟨_,_,_,rfl,_⟩|⟨_,_,_,rfl,_⟩<;>rfl
theorem Yo.up {F F':Nat→Prop}{h:H}{x:V}{sz:Nat}{rows:List (List V)}(a:Yo F h x sz rows)(l:∀b,F b→b<h.next→F' b):Yo F' h x sz rows:=by
 obtain⟨a1,a2⟩:=a
 refine⟨a1,?_⟩
 rcases a2 with a2|⟨b,rest,j,e,l1,l2,hb,r⟩|⟨b,c,rest,e,l1,l2,hb,r⟩
 ·exact .inl a2
 ·exact .inr (.inl ⟨b,rest,j,e,l b l1 l2,l2,hb,r⟩)
 ·exact .inr (.inr ⟨b,c,rest,e,l b l1 l2,l2,hb,r⟩)
theorem Yo.app1 {F:Nat→Prop}{h:H}{x y:V}{sz by_:Nat}{rows:List (List V)}{r:List V}{Q:V→H→Prop}(a:Yo F h x sz rows)(hw:h.wf)(hlo:F h.next)(hsz:r.length=sz)(hp:0<sz)
  (hy:Zg h y sz [r]) (ho:ZF r=true) (h1:(rows.length+1)*by_≤1099511627776) (h2:rows.length+1≤1099511627776)
  (q:∀x' h',Yo F h' x' sz (rows++[r])→(∀b,Zk x' b→Zk x b∨h.next≤b)→Zi (Zk x) h h'→h'.wf→Q x' h'):P2 (Z8 h sz by_ x y) Q:=by
 obtain⟨a1,a2⟩:=a
 have hall:∀r'∈rows++[r],r'.length=sz:=fun r' hr=>(List.mem_append.1 hr).elim (a1 r') fun h=>by rw[List.mem_singleton] at h;rw[h];exact hsz
 obtain⟨he,hl⟩:=hy.elems
 rw[Yy,he,hl]
 simp only[YI,List.length_singleton,List.flatten_cons,List.flatten_nil,List.append_nil]
 obtain⟨v,vs,hv⟩:∃v vs,r=v::vs:=by
  cases r with
  |nil=>simp at hsz;omega
  |cons v vs=>exact⟨v,vs,rfl⟩
 have kadd:∀cs,Zi (Zk x) h (h.add cs):=fun cs=>⟨by rw[H.next_add];omega,fun c y hc _=>by rw[ZW (hw c y hc)];exact hc⟩
 have wadd:∀cs,(h.add cs).wf:=fun cs=>((H.Sub.refl hw).add cs).wf
 rcases a2 with⟨rfl,rfl⟩|⟨b,rest,j,rfl,l1,l2,hb,hr⟩|⟨b,c,rest,rfl,l1,l2,hb,hc,hlc⟩
 ·rw[e_app_nils,room_ok (by simpa using h1) yec,XD,ZN]
  exact q _ _ ⟨hall,.inr (.inl ⟨h.next,[],0,by simp,hlo,by rw[H.next_add];omega,by rw[Zn rfl];simp,by simp⟩)⟩ (fun b' ⟨_,_,_,e⟩=>by cases e;exact .inr (Nat.le_refl _)) (kadd _) (wadd _)
 ·cases j with
  |zero=>
   have hrest:rest=[]:=List.length_eq_zero_iff.1 (by rw[hr];simp)
   subst hrest
   rw[List.append_nil] at hb
   rw[e_app_slk hp hb (Zr a1) ho h1 h2,grownO_eq,ZN]
   have hbn:h.next≠b:=by omega
   have wS:=H.wf_set (wadd (.cells (.gr sz) (rows.flatten++r))) (.old h.next 0 rows.flatten) (show(h.add (.cells (.gr sz) (rows.flatten++r))).get b=some (.cells (.gr sz) rows.flatten) by rw[ZW l2];exact hb)
   exact q _ _ ⟨hall,.inr (.inl ⟨h.next,[],0,by simp,hlo,by rw[H.next_set,H.next_add];omega,by rw[get_set_other hbn,Zn rfl];simp,by simp⟩)⟩ (fun b' ⟨_,_,_,e⟩=>by cases e;exact .inr (Nat.le_refl _))
    ⟨by rw[H.next_set,H.next_add];omega,fun c y hc hx=>by
     have hne:c≠b:=fun e=>hx ⟨_,_,_,by rw[e]⟩
     rw[get_set_other hne,ZW (hw c y hc)];exact hc⟩ wS
  |succ j=>
   have hlr:sz≤rest.length:=by rw[hr,Nat.add_mul];omega
   have hpn:Z0 (0+rows.length*sz) r (rows.flatten++rest)=some ((rows++[r]).flatten++rest.drop sz):=by
    have:=Xy (pre:=rows.flatten) (new:=r) (old:=rest.take sz) (rest:=rest.drop sz) (by rw[List.length_take];omega)
    rw[List.append_assoc,List.take_append_drop,Zr a1] at this
    rw[Nat.zero_add,this];simp
   have e1:Nat.beq sz sz=true:=by simp
   have e3:Nat.beq 0 (0*sz)=true:=by simp
   have e4:Nat.ble (0+(rows.length+(0+1))*sz) (rows.flatten++rest).length=true:=by
    rw[Nat.ble_eq,List.length_append,Zr a1,Nat.add_mul];omega
   have eA:XF h sz by_ (.sl b 0 rows.length (.slk 0 0)) (0+1) r=Xa (.sl b 0 (rows.length+(0+1)) (.slk 0 0)) (h.put b (0+rows.length*sz) r):=by
    simp only[XF,appSlk,hb,ZE,e1,e3,e4,Zy]
   have eA':XF h sz by_ (.sl b 0 rows.length (.slk 0 0)) 1 r=Xa (.sl b 0 (rows.length+1) (.slk 0 0)) (h.put b (0+rows.length*sz) r):=eA
   rw[eA']
   rw[hv] at hpn ho⊢
   rw[H.put_gr ho hb hpn,Z6,ZN,←hv]
   refine q _ _ ⟨hall,.inr (.inl ⟨b,rest.drop sz,j,by simp,l1,by rw[H.next_set];exact l2,by rw[get_set_same rfl],?_⟩)⟩ (fun b' ⟨_,_,_,e⟩=>by cases e;exact .inl ⟨_,_,_,rfl⟩) ?_ (H.wf_set hw _ hb)
   ·rw[List.length_drop,hr,Nat.add_mul];omega
   ·exact(Zi.set h b _).mono fun c e=>by subst e;exact⟨_,_,_,rfl⟩
 ·by_cases hr:rows.length+1≤c
  ·rw[e_app_fix yea]
   have hlr:sz≤rest.length:=by
    have:=Nat.mul_le_mul_right sz hr;rw[Nat.add_mul] at this;omega
   have hpn:Z0 (0+rows.length*sz) r (rows.flatten++rest)=some ((rows++[r]).flatten++rest.drop sz):=by
    have:=Xy (pre:=rows.flatten) (new:=r) (old:=rest.take sz) (rest:=rest.drop sz) (by rw[List.length_take];omega)
    rw[List.append_assoc,List.take_append_drop,Zr a1] at this
    rw[Nat.zero_add,this];simp
   rw[hv] at hpn ho⊢
   rw[H.put_rw ho hb hpn,Z6,ZN,←hv]
   refine q _ _ ⟨hall,.inr (.inr ⟨b,c,rest.drop sz,by simp,l1,by rw[H.next_set];exact l2,by rw[get_set_same rfl],?_,by simpa using hr⟩)⟩ (fun b' ⟨_,_,_,e⟩=>by cases e;exact .inl ⟨_,_,_,rfl⟩) ?_ (H.wf_set hw _ hb)
   ·rw[List.length_append,List.length_singleton,List.length_drop,Nat.add_mul];omega
   ·exact(Zi.set h b _).mono fun c e=>by subst e;exact⟨_,_,_,rfl⟩
  ·have hce:c=rows.length:=by omega
   have hel:elems h sz (.sl b 0 rows.length (.fix c))=some rows.flatten:=by
    have o:Yo F h (.sl b 0 rows.length (.fix c)) sz rows:=⟨a1,.inr (.inr ⟨b,c,rest,rfl,l1,l2,hb,hc,hlc⟩)⟩
    exact(o.sl yea).elems.1
   rw[Xl yea hel yea yea,XD,ZN]
   exact q _ _ ⟨hall,.inr (.inl ⟨h.next,[],0,by simp,hlo,by rw[H.next_add];omega,by rw[Zn rfl];simp,by simp⟩)⟩ (fun b' ⟨_,_,_,e⟩=>by cases e;exact .inr (Nat.le_refl _)) (kadd _) (wadd _)
noncomputable def W6 (h:H)(sz:Nat)(x k:V):Option V:=YD .nil h sz x none (some (.c k)) none
theorem q_slc_to (tm:T V)(h:H)(sz:Nat)(x:V)(y:Opd):YD tm h sz x none (some y) none=W6 h sz x (y.ev tm):=rfl
theorem subO_to {b o sz n c k:Nat}{tm:T V}{x:Opd}{kd:IntKind}(hx:x.ev tm=.int kd (k:Int))(hk:k≤n)(hc:n≤c):subO b o sz (XI tm n c none (some x) none)=some (.sl b (YU (Nat.beq c 0) o (o+0*sz)) k (.fix c)):=by
 have e1:Nat.ble 0 k=true:=by simp
 have e2:Nat.ble k c=true:=by simp;omega
 have e3:Nat.ble c c=true:=by simp
 simp only[XI,XA,hx,Xc,bnds,e1,e2,e3,Zy,subO,sub,Nat.sub_zero]
theorem Yo.pop {F:Nat→Prop}{h:H}{x:V}{sz:Nat}{rows:List (List V)}{r:List V}(a:Yo F h x sz (rows++[r]))(hsz:0<sz)(hl:rows.length≤1000000):
  ∃y,W6 h sz x (.ii (rows.length:Int))=some y∧Yo F h y sz rows∧∀b,Zk y b→Zk x b:=by
 have hi:∀tm,(Opd.c (.ii (rows.length:Int))).ev tm=.ii (rows.length:Int):=fun _=>rfl
 obtain⟨a1,a2⟩:=a
 have hr:∀r∈rows,r.length=sz:=fun r' hr=>a1 r' (List.mem_append.2 (.inl hr))
 have hr1:r.length=sz:=a1 r yec
 have fl:=Zr hr
 have hfl:(rows++[r]).flatten=rows.flatten++r:=by simp
 rcases a2 with⟨rfl,e⟩|⟨b,rest,j,rfl,l1,l2,hb,hrest⟩|⟨b,c,rest,rfl,l1,l2,hb,hc,hlc⟩
 ·simp at e
 ·rw[hfl,List.append_assoc] at hb
  rw[List.length_append,List.length_singleton]
  have e1:Nat.ble 0 rows.length=true:=by simp
  have hall:(rows.flatten++(r++rest)).length=(rows.length+(j+1))*sz:=by rw[List.length_append,List.length_append,fl,hr1,hrest,Nat.add_mul,Nat.add_mul];omega
  have e2:Nat.ble rows.length (rows.length+(j+1))=true:=by simp
  have e3:Nat.ble (rows.length+(j+1)) (rows.length+(j+1))=true:=by simp
  have e4:Nat.blt 0 (rows.length+1+rows.length)=true:=by rw[Nat.blt_eq];omega
  have e5:Nat.beq sz sz=true:=by simp
  have e6:Nat.beq 0 (0*sz)=true:=by simp
  have e7:Nat.ble (0+(rows.length+1)*sz) (rows.flatten++(r++rest)).length=true:=by rw[hall,Nat.ble_eq,Nat.zero_add];exact Nat.mul_le_mul_right _ yea
  have e8:Yj h b 0 sz=rows.length+(j+1):=by simp only[Yj,hb,ZE,hall,Nat.sub_zero];exact Nat.mul_div_cancel _ hsz
  refine⟨.sl b (0+0*sz) rows.length (.slk (0+0) 0),?_,?_,?_⟩
  ·simp only[W6,YD,W5,hb,e5,e6,ZE,e7,Zy,XI,XA,hi,Ze,Xc,bnds,e1,e2,e3,subS,e4,e8,Nat.sub_zero]
  ·rw[Nat.zero_mul]
   exact⟨hr,.inr (.inl ⟨b,r++rest,j+1,rfl,l1,l2,hb,by rw[List.length_append,hr1,hrest,Nat.add_mul];omega⟩)⟩
  ·rintro b' ⟨_,_,_,e⟩;cases e;exact⟨_,_,_,rfl⟩
 ·rw[hfl,List.append_assoc] at hb
  rw[List.length_append,List.length_singleton] at hlc hc⊢
  refine⟨.sl b (YU (Nat.beq c 0) 0 (0+0*sz)) rows.length (.fix c),?_,?_,?_⟩
  ·simp only[W6,YD]
   rw[subO_to (hi _) yea hlc]
  ·have:YU (Nat.beq c 0) 0 (0+0*sz)=0:=by cases Nat.beq c 0<;>simp[YU]
   rw[this]
   exact⟨hr,.inr (.inr ⟨b,c,r++rest,rfl,l1,l2,hb,by rw[List.length_append,hr1];rw[Nat.add_mul] at hc;omega,by omega⟩)⟩
  ·rintro b' ⟨_,_,_,e⟩;cases e;exact⟨_,_,_,rfl⟩
def ZL (F:Nat→Prop)(h:H)(x:V)(ls:List (List (List V))):Prop:=∃xs:List V,Yo F h x 1 (xs.map fun v=>[v])∧xs.length=ls.length∧
 (∀i (hi:i<xs.length) (hj:i<ls.length),Yo F h xs[i] 1 ls[i]∧∀b,Zk xs[i] b→¬Zk x b)∧∀i k (hi:i<xs.length) (hk:k<xs.length),i≠k→∀b,Zk xs[i] b→¬Zk xs[k] b
theorem ZL.nil (F:Nat→Prop)(h:H):ZL F h .nils []:=⟨[],⟨by simp,.inl ⟨rfl,rfl⟩⟩,rfl,fun i hi=>by simp at hi,fun i k hi=>by simp at hi⟩
theorem ZL.keep {F:Nat→Prop}{h h':H}{S:Nat→Prop}{x:V}{ls:List (List (List V))}(a:ZL F h x ls)(k:Zi S h h')(n:∀b,F b→b<h.next→¬S b):ZL F h' x ls:=by
 obtain⟨xs,a1,a2,a3,a4⟩:=a
 exact⟨xs,a1.keep k fun b hb=>n b (a1.blk hb).1 (a1.blk hb).2.1,a2,fun i hi hj=>⟨(a3 i hi hj).1.keep k fun b hb=>n b ((a3 i hi hj).1.blk hb).1 ((a3 i hi hj).1.blk hb).2.1,(a3 i hi hj).2⟩,a4⟩
theorem ZL.up {F F':Nat→Prop}{h:H}{x:V}{ls:List (List (List V))}(a:ZL F h x ls)(l:∀b,F b→b<h.next→F' b):ZL F' h x ls:=by
 obtain⟨xs,a1,a2,a3,a4⟩:=a
 exact⟨xs,a1.up l,a2,fun i hi hj=>⟨(a3 i hi hj).1.up l,(a3 i hi hj).2⟩,a4⟩
theorem ZL.mono {F:Nat→Prop}{h h':H}{x:V}{ls:List (List (List V))}(a:ZL F h x ls)(s:h.Sub h'):ZL F h' x ls:=a.keep (Zi.of s fun _=>False) fun _ _ _=>id
theorem ZL.len {F:Nat→Prop}{h:H}{x:V}{ls:List (List (List V))}(a:ZL F h x ls)(hl:ls.length≤1000):q_len x=some (.ii (ls.length:Int)):=by
 obtain⟨xs,a1,a2,_⟩:=a
 rw[(a1.sl yed).lenE,a2]
theorem ZL.one {F:Nat→Prop}{h:H}{x:V}{ls:List (List (List V))}(a:ZL F h x ls):x.one=true:=by
 obtain⟨xs,a1,_⟩:=a;exact a1.one
theorem ZL.at {F:Nat→Prop}{h:H}{x:V}{ls:List (List (List V))}(a:ZL F h x ls)(hl:ls.length≤1000){i:Nat}(hi:i<ls.length):
  ∃b o k cs v,ZS 1 x (.ii (i:Int))=some (.ptr b o)∧h.get b=some (.cells k cs)∧(k=.rw∨k=.gr 1)∧nth o cs=some v∧Yo F h v 1 ls[i]∧Zk x b∧¬Zk v b∧F b∧
   ∀(v':V) (l':List (List V)) (h1:H),Zi (Zk v) h h1→Yo F h1 v' 1 l'→(∀c,Zk v' c→Zk v c∨h.next≤c)→∃cs',Z0 o [v'] cs=some cs'∧ZL F (h1.set b (.cells k cs')) x (ls.set i l'):=by
 obtain⟨xs,a1,a2,a3,a4⟩:=a
 have hi':i<xs.length:=by omega
 have sx:=a1.sl yed
 obtain⟨b,o,c,cs,e1,e2,e3,_,_,e4⟩:=sx.at hi'
 have e5:=e4 yea
 obtain⟨b',e6⟩:∃b',Zk x b':=⟨b,⟨_,_,_,e1⟩⟩
 have hbx:Zk x b:=⟨_,_,_,e1⟩
 obtain⟨l1,l2,k,cs0,g1,g2⟩:=a1.blk hbx
 have hcs:cs0=cs:=by
  have:=Zb g1;rw[e2] at this;cases this;rfl
 subst hcs
 obtain⟨c1,c2⟩:=a3 i hi' hi
 refine⟨b,o+i*1,k,cs0,xs[i],e3 (Ze i),g1,g2,by rw[e5];rfl,c1,hbx,fun hv=>c2 b hv hbx,l1,fun v' l' h1 kk cv nb=>?_⟩
 have shape:∃rest,cs0=(xs.map fun v=>[v]).flatten++rest∧o=0∧(∀xs':List V,xs'.length=xs.length→∀h2:H,h2.get b=some (.cells k ((xs'.map fun v=>[v]).flatten++rest))→b<h2.next→Yo F h2 x 1 (xs'.map fun v=>[v])):=by
  rcases a1.2 with⟨e,_⟩|⟨b2,rest,j,e,m1,m2,hb,hr⟩|⟨b2,c2',rest,e,m1,m2,hb,hc,hlc⟩
  ·rw[e] at e1;cases e1
  ·rw[e] at e1
   injection e1 with x1 x2 x3 x4
   subst x1;subst x2;subst x4
   rw[g1] at hb;cases hb
   exact⟨rest,rfl,rfl,fun xs' hx' h2 hg hn=>⟨fun r hr=>by rw[List.mem_map] at hr;obtain⟨_,_,rfl⟩:=hr;rfl,.inr (.inl ⟨_,rest,j,by rw[e];simp[hx'],m1,hn,hg,hr⟩)⟩⟩
  ·rw[e] at e1
   injection e1 with x1 x2 x3 x4
   subst x1;subst x2;subst x4
   rw[g1] at hb;cases hb
   exact⟨rest,rfl,rfl,fun xs' hx' h2 hg hn=>⟨fun r hr=>by rw[List.mem_map] at hr;obtain⟨_,_,rfl⟩:=hr;rfl,.inr (.inr ⟨_,c2',rest,by rw[e];simp[hx'],m1,hn,hg,by rw[List.length_map,hx'] at *;exact hc,by rw[List.length_map,hx'] at *;exact hlc⟩)⟩⟩
 obtain⟨rest,ecs,eo,mk⟩:=shape
 have fm:∀l:List V,(l.map fun v=>[v]).flatten=l:=fun l=>by induction l with|nil=>rfl|cons a l ih=>simp[ih]
 have hput:Z0 (o+i*1) [v'] cs0=some (((xs.set i v').map fun v=>[v]).flatten++rest):=by
  rw[ecs,eo,fm,fm]
  have e:xs=xs.take i++xs[i]::xs.drop (i+1):=by rw[←List.drop_eq_getElem_cons hi',List.take_append_drop]
  have:=Xy (pre:=xs.take i) (new:=[v']) (old:=[xs[i]]) (rest:=xs.drop (i+1)++rest) rfl
  rw[List.length_take,Nat.min_eq_left yea] at this
  rw[List.set_eq_take_append_cons_drop,if_pos hi',Nat.zero_add,Nat.mul_one]
  have e3:xs++rest=xs.take i++[xs[i]]++(xs.drop (i+1)++rest):=by
   rw[←List.append_assoc]
   congr 1
   rw[List.append_assoc]
   exact e
  rw[e3,this]
  simp
 refine⟨_,hput,?_⟩
 have hbn:b<h1.next:=Nat.lt_of_lt_of_le l2 kk.1
 have kS:Zi (fun c=>c=b) h1 (h1.set b (.cells k (((xs.set i v').map fun v=>[v]).flatten++rest))):=Zi.set _ _ _
 refine⟨xs.set i v',mk (xs.set i v') yec _ (by rw[get_set_same rfl]) (by rw[H.next_set];exact hbn),by simp[a2],fun j hj hj'=>?_,fun j m hj hm hne c hc=>?_⟩
 ·rw[List.length_set] at hj hj'
  by_cases e:i=j
  ·subst e
   rw[List.getElem_set_self,List.getElem_set_self]
   have hd:∀c,Zk v' c→¬Zk x c:=fun c hc hx=>by
    rcases nb c hc with h2|h2
    ·exact c2 c h2 hx
    ·have:=(a1.blk hx).2.1;omega
   exact⟨cv.keep kS fun c hc e=>hd c hc (by rw[e];exact hbx),hd⟩
  ·rw[List.getElem_set_ne e,List.getElem_set_ne e]
   obtain⟨d1,d2⟩:=a3 j hj hj'
   exact⟨(d1.keep kk fun c hc hv=>a4 j i hj hi' (fun h=>e h.symm) c hc hv).keep kS fun c hc e=>d2 c hc (by rw[e];exact hbx),d2⟩
 ·rw[List.length_set] at hj hm
  by_cases e:i=j
  ·subst e
   rw[List.getElem_set_self] at hc
   rw[List.getElem_set_ne hne]
   intro hm2
   rcases nb c hc with h2|h2
   ·exact a4 i m hi' hm hne c h2 hm2
   ·have:=((a3 m hm yea).1.blk hm2).2.1;omega
  ·rw[List.getElem_set_ne e] at hc
   by_cases e2:i=m
   ·subst e2
    rw[List.getElem_set_self]
    intro hm2
    rcases nb c hm2 with h2|h2
    ·exact a4 j i hj hi' hne c hc h2
    ·have:=((a3 j hj yea).1.blk hc).2.1;omega
   ·rw[List.getElem_set_ne e2];exact a4 j m hj hm hne c hc
theorem ZL.push {F:Nat→Prop}{hp h:H}{x y v:V}{ls:List (List (List V))}{l:List (List V)}{Q:V→H→Prop}(a:ZL F hp x ls)(s:hp.Sub h)(hlo:F h.next)(hl:ls.length≤1000)(ov:Yo F h v 1 l)(fv:∀b,Zk v b→hp.next≤b)(hy:Zg h y 1 [[v]])
  (q:∀x' h',ZL F h' x' (ls++[l])→Zi (Zk x) h h'→(∀b,Zk x' b→Zk x b∨h.next≤b)→h'.wf→Q x' h'):P2 (Z8 h 1 24 x y) Q:=by
 obtain⟨xs,b1,a2,b3,a4⟩:=a
 have hw:=s.wf
 have a1:=b1.mono s
 have a3:∀i (hi:i<xs.length) (hj:i<ls.length),Yo F h xs[i] 1 ls[i]∧∀b,Zk xs[i] b→¬Zk x b:=fun i hi hj=>⟨(b3 i hi hj).1.mono s,(b3 i hi hj).2⟩
 have dv:∀b,Zk v b→¬Zk x b:=fun b hb hx=>by have:=fv b hb;have:=(b1.blk hx).2.1;omega
 have ds:∀b,Zk v b→∀i (hi:i<xs.length),¬Zk xs[i] b:=fun b hb i hi hx=>by have:=fv b hb;have:=((b3 i hi yea).1.blk hx).2.1;omega
 have hone:ZF [v]=true:=by simp[allOne_cons,ov.one,allOne_nil]
 refine a1.app1 (by_:=24) (r:=[v]) hw hlo rfl yea hy hone yed yed fun x' h' o' nb k w'=>?_
 refine q x' h' ⟨xs++[v],by rw[List.map_append];exact o',by simp[a2],fun i hi hj=>?_,fun i m hi hm hne b hb=>?_⟩ k nb w'
 ·rw[List.length_append,List.length_singleton] at hi hj
  by_cases hlt:i<xs.length
  ·rw[List.getElem_append_left hlt,List.getElem_append_left yea]
   obtain⟨c1,c2⟩:=a3 i hlt yea
   refine⟨c1.keep k c2,fun b hb hx=>?_⟩
   rcases nb b hx with h1|h1
   ·exact c2 b hb h1
   ·have:=(c1.blk hb).2.1;omega
  ·have e:i=xs.length:=by omega
   have e1:(xs++[v])[i]=v:=by subst e;simp
   have e2:(ls++[l])[i]=l:=by
    have:i=ls.length:=by omega
    subst this;simp
   rw[e1,e2]
   refine⟨ov.keep k dv,fun b hb hx=>?_⟩
   rcases nb b hx with h1|h1
   ·exact dv b hb h1
   ·have:=(ov.blk hb).2.1;omega
 ·rw[List.length_append,List.length_singleton] at hi hm
  by_cases h1:i<xs.length
  ·rw[List.getElem_append_left h1] at hb
   by_cases h2:m<xs.length
   ·rw[List.getElem_append_left h2];exact a4 i m h1 h2 hne b hb
   ·have e1:(xs++[v])[m]=v:=by
     have:m=xs.length:=by omega
     subst this;simp
    rw[e1];exact fun h3=>ds b h3 i h1 hb
  ·have e1:(xs++[v])[i]=v:=by
    have:i=xs.length:=by omega
    subst this;simp
   rw[e1] at hb
   rw[List.getElem_append_left yea]
   exact ds b hb m yea
theorem ZL.pop {F:Nat→Prop}{h:H}{x:V}{ls:List (List (List V))}{l:List (List V)}(a:ZL F h x (ls++[l]))(hl:ls.length≤1000):
  ∃y,W6 h 1 x (.ii (ls.length:Int))=some y∧ZL F h y ls∧∀b,Zk y b→Zk x b:=by
 obtain⟨xs,a1,a2,a3,a4⟩:=a
 rw[List.length_append,List.length_singleton] at a2
 have hne:xs≠[]:=fun e=>by rw[e] at a2;simp at a2
 have e:=List.dropLast_concat_getLast hne
 have hdl:xs.dropLast.length=ls.length:=by rw[List.length_dropLast];omega
 rw[←e,List.map_append] at a1
 obtain⟨y,h1,h2,h3⟩:=Yo.pop a1 yea (by rw[List.length_map];omega)
 rw[List.length_map,hdl] at h1
 refine⟨y,h1,⟨xs.dropLast,h2,hdl,fun i hi hj=>?_,fun i k hi hk hne b hb=>?_⟩,h3⟩
 ·rw[List.getElem_dropLast]
  obtain⟨c1,c2⟩:=a3 i yea yef
  rw[List.getElem_append_left hj] at c1
  exact⟨c1,fun b hb hy=>c2 b hb (h3 b hy)⟩
 ·rw[List.getElem_dropLast] at hb⊢
  exact a4 i k yea yea hne b hb
namespace Tryz
def WZ (h:H)(x:V)(l:List Int):Prop:=Yo (fun _=>True) h x 1 (l.map encI)∧l.length≤20
theorem WZ.nil (h:H):WZ h .nils []:=⟨⟨by simp,.inl ⟨rfl,rfl⟩⟩,by simp⟩
theorem WZ.sl {h:H}{x:V}{l:List Int}(a:WZ h x l):Zg h x 1 (l.map encI):=a.1.sl (by have:=a.2;simp only[List.length_map];omega)
theorem WZ.one {h:H}{x:V}{l:List Int}(a:WZ h x l):x.one=true:=a.1.one
theorem WZ.keep {h h':H}{S:Nat→Prop}{x:V}{l:List Int}(a:WZ h x l)(k:Zi S h h')(n:∀b,Zk x b→¬S b):WZ h' x l:=⟨a.1.keep k n,a.2⟩
theorem WZ.mono {h h':H}{x:V}{l:List Int}(a:WZ h x l)(s:h.Sub h'):WZ h' x l:=⟨a.1.mono s,a.2⟩
theorem WZ.lenE {h:H}{x:V}{l:List Int}(a:WZ h x l):q_len x=some (.ii (l.length:Int)):=a.sl.lenE
end Tryz
end Go.Ab
namespace Go.Ab
theorem SlAt_keep2 {h h':H}{S:Nat→Prop}{x:V}{sz:Nat}{rows:List (List V)}(a:Zg h x sz rows)(k:Zi S h h')(n:rows≠[]→∀b,Zk x b→¬S b):Zg h' x sz rows:=by
 obtain⟨a1,a0,a2⟩:=a
 refine⟨a1,a0,?_⟩
 rcases a2 with a2|⟨b,o,c,cs,e1,e2,e3⟩
 ·exact .inl a2
 ·refine .inr ⟨b,o,c,cs,e1,?_,e3⟩
  by_cases hr:rows=[]
  ·exact .inl hr
  ·exact .inr (k.cells (e2.resolve_left hr) (n hr b ⟨_,_,_,e1⟩))
end Go.Ab
namespace Go.Ab.Tryz
open Go.Ab.Silk (YA)
theorem find_step (P:List Int→Bool)(l:List Int)(k f:Nat)(j:Int):(YA (k+1) (f+1) j).find? (fun c=>P (l++c))=
  match(YA k f (j+1)).find? (fun c=>P ((l++[j])++c)) with|some c=>some (j::c)|none=>(YA (k+1) f (j+1)).find? (fun c=>P (l++c)):=by
 simp only[YA,List.find?_append,List.find?_map]
 have e:(fun c=>P (l++c))∘ (fun l'=>j::l')=fun c=>P ((l++[j])++c):=by
  funext c;simp
 rw[e]
 cases(YA k f (j+1)).find? (fun c=>P ((l++[j])++c))<;>simp
theorem cloneInt_ev {h:H}{x:V}{rows:List (List V)}(hw:h.wf)(hx:Zg h x 1 rows)(hl:rows.length≤1000000)(Q:V→H→Prop)(q:∀v h',ZG h h' v 1 rows→Q v h'):Ev fnG Zm (.fn 134 [] []) [x] h Q:=by
 refine Zd (fd:=c134) rfl rfl rfl ?_
 rcases hx.2.2 with⟨rfl,e⟩|⟨b,o,c,cs,rfl,_⟩
 ·simp(disch:=omega)only[c134,go_sem]
  exact q _ _ (by rw[e];exact(Zq.nil (H.Sub.refl hw) 1).c)
 ·simp(disch:=omega)only[c134,go_sem]
  refine V1 hw hx yea yea fun v h' ov=>?_
  simp(disch:=omega)only[go_sem]
  exact q _ _ ov
def V5 (hb:H)(fv:V)(oC n:Nat)(P:List Int→Bool)(Post:List Int→H→Prop):Prop:=∀(l:List Int) (x:V) (h1:H),(∀a∈l,0≤a∧a<(n:Int))→hb.Sub h1→WZ h1 x l→(∀b,Zk x b→hb.next≤b∧b≠oC)→(∃y,h1.get oC=some (.bk [y]))→
 ∀R:V→H→Prop,(∀h2,Zi (fun c=>c=oC) h1 h2→h2.wf→(∃y,h2.get oC=some (.bk [y]))→(P l=true→Post l h2)→R (.bool (P l)) h2)→Ev fnG Zm fv [x] h1 R
def LsRes (P:List Int→Bool)(Post:List Int→H→Prop)(l:List Int)(r:Option (List Int))(t:Bool)(h':H):Prop:=match r with
 |some c=>t=true∧P (l++c)=true∧Post (l++c) h'
 |none=>t=false
set_option maxHeartbeats 2000000 in
theorem lists1_ev {hb:H}(hwb:hb.wf){fv:V}{P:List Int→Bool}{Post:List Int→H→Prop}{kC fC nC gC oC:Nat}{many n:Nat}(hP:V5 hb fv oC n P Post)(ho:hb.next≤oC)(n1:kC≠oC)(n2:fC≠oC)(n3:nC≠oC)(n4:gC≠oC)(hmany:many≤20)(hn:n≤1000):
  ∀(k:Nat) (h:H) (x:V) (l:List Int) (i:Nat),l.length+k=many→(∀a∈l,0≤a∧a<(n:Int))→hb.Sub h→h.cells kC=some [.ii (many:Int)]→h.cells fC=some [fv]→h.cells nC=some [.ii (n:Int)]→h.cells gC=some [.fn 142 [] [.ptr kC 0,.ptr fC 0,.ptr nC 0,.ptr gC 0]]→
   (∃y,h.get oC=some (.bk [y]))→WZ h x l→(∀b,Zk x b→hb.next≤b∧b≠oC)→i≤n→∀(Q:V→H→Prop),(∀t h',Zi (fun c=>c=oC) h h'→h'.wf→(∃y,h'.get oC=some (.bk [y]))→LsRes P Post l ((YA k (n-i) (i:Int)).find? fun c=>P (l++c)) t h'→Q (.bool t) h')→
   Ev fnG Zm (.fn 142 [] [.ptr kC 0,.ptr fC 0,.ptr nC 0,.ptr gC 0]) [x,.ii (i:Int)] h Q:=by
 intro k
 induction k with
 |zero=>
  intro h x l i hk hlr hs cm ch cd cf go ax nx hi Q q
  have hlx:=ax.lenE
  have hll:(l.length:Int)=(many:Int):=by omega
  refine Zd (fd:=c142) rfl rfl rfl ?_
  simp(disch:=omega)only[c142,go_sem,hlx,hll,cm,ch]
  refine hP l x h hlr hs ax nx go _ fun h2 k2 w2 go2 hp=>?_
  simp(disch:=omega)only[go_sem]
  refine q _ _ k2 w2 go2 ?_
  have e:(YA 0 (n-i) (i:Int)).find? (fun c=>P (l++c))=if P l=true then some [] else none:=by
   simp only[YA,List.find?_cons,List.find?_nil,List.append_nil]
   cases P l<;>rfl
  rw[e]
  cases hpl:P l
  ·exact rfl
  ·exact⟨rfl,by rw[List.append_nil];exact hpl,by rw[List.append_nil];exact hp hpl⟩
 |succ k ih=>
  intro h x l i hk hlr hs cm ch cd cf hgo ax nx hi Q q
  have hlx:=ax.lenE
  have hll:¬(l.length:Int)=(many:Int):=by omega
  refine Zd (fd:=c142) rfl rfl rfl ?_
  simp(disch:=omega)only[c142,go_sem,hlx,hll,cm]
  refine Zh n (fun j s=>∃tm h',s=⟨tm,h',[]⟩∧Zi (fun c=>c=oC) h h'∧h'.wf∧(∃y,h'.get oC=some (.bk [y]))∧((YA (k+1) (n-i) (i:Int)).find? fun c=>P (l++c))=((YA (k+1) (n-j) (j:Int)).find? fun c=>P (l++c))∧
    tm.E 0=x∧tm.E 4=.ptr nC 0∧tm.E 5=.ptr gC 0∧tm.E 9=.ii (j:Int))
   ?_ ?_ (i:=i) hi ⟨_,_,rfl,Zi.refl _ _,hs.wf,hgo,rfl,yec,yec,yec,yec⟩
  ·rintro j s hj ⟨tm,h',rfl,kh,wh,⟨y0,go⟩,hfind,t0,t4,t5,t9⟩
   have hj':(j:Int)<(n:Int):=by omega
   have hs':hb.Sub h':=kh.sub hs hwb (fun c hc=>by omega) wh
   have cm':=kh.cells cm n1
   have ch':=kh.cells ch n2
   have cd':=kh.cells cd n3
   have cf':=kh.cells cf n4
   have ax':=ax.keep kh fun b h0=>(nx b h0).2
   have hlo:=wh _ _ go
   have hll2:(l.map encI).length≤20:=by simp;omega
   simp(disch:=omega)only[go_sem,t0,t4,t5,t9,cd',hj',cf']
   refine cloneInt_ev wh ax'.sl yea _ fun v h1 ov=>?_
   have s01:=ov.1
   have cf1:=s01.cells cf'
   simp(disch:=omega)only[go_sem,t0,t4,t5,t9]
   have s12:=(H.Sub.refl s01.wf).add (.bk [.ii (j:Int)])
   refine(ov.mono s12).app1 (by_:=8) (r:=encI (j:Int)) wh rfl yea Ye rfl yea yea fun x2 h2 ox2 dx2 kx2=>?_
   have s02:=ox2.1
   have cf2:=s02.cells cf'
   have e2:l.map encI++[encI (j:Int)]=(l++[(j:Int)]).map encI:=by simp
   have ox2':=ox2
   rw[e2] at ox2'
   have ax2:WZ h2 x2 (l++[(j:Int)]):=⟨ox2'.cutO.up fun _ _ _=>trivial,by simp;omega⟩
   simp(disch:=omega)only[go_sem,t0,t4,t5,t9,Zc]
   refine ih h2 x2 (l++[(j:Int)]) (j+1) yef (fun a ha=>(List.mem_append.1 ha).elim (hlr a) fun h=>by rw[List.mem_singleton] at h;omega) (hs'.trans s02) (s02.cells cm') (s02.cells ch') (s02.cells cd') cf2 ⟨y0,s02.get go⟩ ax2 (fun b h0=>by have:=(ox2.blk h0).1;have:=hs'.next;have:=s01.next;omega) yea _ fun t h3 k23 w3 go3 hres=>?_
   have k03:Zi (fun c=>c=oC) h h3:=((kh.trans (Zi.of s02 fun c=>c=oC)).trans k23).mono fun c h=>by rcases h with(h|h)|h<;>exact h
   have hst:=find_step P l k (n-(j+1)) (j:Int)
   have ef:n-j=(n-(j+1))+1:=by omega
   have ej:((j:Int)+1)=((j+1:Nat):Int):=by omega
   rw[ef,hst,ej] at hfind
   cases hr:(YA k (n-(j+1)) ((j+1:Nat):Int)).find? (fun c=>P ((l++[(j:Int)])++c)) with
   |some c=>
    rw[hr] at hres hfind
    obtain⟨rfl,hp1,hp2⟩:=hres
    simp(disch:=omega)only[go_sem,t0,t4,t5,t9,cf',cf1,s12.cells cf1,cf2]
    refine q _ _ k03 w3 go3 ?_
    rw[hfind]
    exact⟨rfl,by rw[List.append_assoc] at hp1;exact hp1,by rw[List.append_assoc] at hp2;exact hp2⟩
   |none=>
    rw[hr] at hres hfind
    have hres:t=false:=hres
    subst hres
    simp(disch:=omega)only[go_sem,t0,t4,t5,t9,cf',cf1,s12.cells cf1,cf2,Zc]
    exact⟨_,_,rfl,k03,w3,go3,hfind,yeh,(by simp[t4]),(by simp[t5]),yec⟩
  ·rintro s ⟨tm,h',rfl,kh,wh,hgo',hfind,t0,t4,t5,t9⟩
   have cd':=kh.cells cd n3
   simp(disch:=omega)only[go_sem,t0,t4,t5,t9,cd',Int.lt_irrefl]
   refine q _ _ kh wh hgo' ?_
   rw[hfind,Nat.sub_self]
   exact rfl
theorem lists_ev {hb h:H}(hwb:hb.wf){fv:V}{P:List Int→Bool}{Post:List Int→H→Prop}{oC:Nat}{k n:Nat}(hP:V5 hb fv oC n P Post)(h1:fv.one=true)(ho:hb.next≤oC)(hs:hb.Sub h)(go:∃y,h.get oC=some (.bk [y]))(hk:k≤20)(hn:n≤1000)(Q:V→H→Prop)
  (q:∀t h',Zi (fun c=>c=oC) h h'→h'.wf→(∃y,h'.get oC=some (.bk [y]))→LsRes P Post [] ((YA k n 0).find? P) t h'→Q (.bool t) h'):Ev fnG Zm (.fn 94 [] []) [.ii (k:Int),.ii (n:Int),fv] h Q:=by
 obtain⟨y0,go⟩:=go
 have lo:=hs.wf _ _ go
 refine Zd (fd:=c94) rfl rfl rfl ?_
 have sA:h.Sub ((((h.add (.bk [.ii (k:Int)])).add (.bk [.ii (n:Int)])).add (.bk [fv])).add (.bk [.fn 142 [] [.ptr h.next 0,.ptr (h.next+1+1) 0,.ptr (h.next+1) 0,.ptr (h.next+1+1+1) 0]])):=(((((H.Sub.refl hs.wf).add _).add _).add _).add _)
 have ck:((((h.add (.bk [.ii (k:Int)])).add (.bk [.ii (n:Int)])).add (.bk [fv])).add (.bk [.fn 142 [] [.ptr h.next 0,.ptr (h.next+1+1) 0,.ptr (h.next+1) 0,.ptr (h.next+1+1+1) 0]])).cells h.next=some [.ii (k:Int)]:=by simp(disch:=first|omega|simp only[nZ]<;>omega|fail)only[go_sem]
 have cn:((((h.add (.bk [.ii (k:Int)])).add (.bk [.ii (n:Int)])).add (.bk [fv])).add (.bk [.fn 142 [] [.ptr h.next 0,.ptr (h.next+1+1) 0,.ptr (h.next+1) 0,.ptr (h.next+1+1+1) 0]])).cells (h.next+1)=some [.ii (n:Int)]:=by simp(disch:=first|omega|simp only[nZ]<;>omega|fail)only[go_sem]
 have cf:((((h.add (.bk [.ii (k:Int)])).add (.bk [.ii (n:Int)])).add (.bk [fv])).add (.bk [.fn 142 [] [.ptr h.next 0,.ptr (h.next+1+1) 0,.ptr (h.next+1) 0,.ptr (h.next+1+1+1) 0]])).cells (h.next+1+1)=some [fv]:=by simp(disch:=first|omega|simp only[nZ]<;>omega|fail)only[go_sem]
 have cg:((((h.add (.bk [.ii (k:Int)])).add (.bk [.ii (n:Int)])).add (.bk [fv])).add (.bk [.fn 142 [] [.ptr h.next 0,.ptr (h.next+1+1) 0,.ptr (h.next+1) 0,.ptr (h.next+1+1+1) 0]])).cells (h.next+1+1+1)=some [.fn 142 [] [.ptr h.next 0,.ptr (h.next+1+1) 0,.ptr (h.next+1) 0,.ptr (h.next+1+1+1) 0]]:=by simp(disch:=first|omega|simp only[nZ]<;>omega|fail)only[go_sem]
 simp(disch:=first|omega|simp only[nZ]<;>omega|fail)only[c94,go_sem,h1,cells_one h1]
 generalize((((h.add (.bk [.ii (k:Int)])).add (.bk [.ii (n:Int)])).add (.bk [fv])).add (.bk [.fn 142 [] [.ptr h.next 0,.ptr (h.next+1+1) 0,.ptr (h.next+1) 0,.ptr (h.next+1+1+1) 0]]))=h5 at sA ck cn cf cg⊢
 have hl:=lists1_ev hwb hP ho (kC:=h.next) (fC:=h.next+1+1) (nC:=h.next+1) (gC:=h.next+1+1+1) yea yea yea yea (many:=k) (n:=n) hk hn k h5 .nils [] 0 yec yec (hs.trans sA) ck cf cn cg ⟨y0,sA.get go⟩ (WZ.nil _) (fun b hb=>absurd hb (nblk b)) (Nat.zero_le _)
 refine hl _ fun t h6 k6 w6 go6 hres=>?_
 simp(disch:=first|omega|simp only[nZ]<;>omega|fail)only[go_sem]
 exact q t h6 (((Zi.of sA fun c=>c=oC).trans k6).mono fun c h=>by rcases h with h|h<;>exact h) w6 go6 (by simpa using hres)
theorem V5.mono {hb h:H}{fv:V}{oC:Nat}{n:Nat}{P:List Int→Bool}{Post:List Int→H→Prop}(a:V5 hb fv oC n P Post)(s:hb.Sub h):V5 h fv oC n P Post:=fun l x h1 hl s1 hx nx=>a l x h1 hl (s.trans s1) hx fun b h0=>⟨Nat.le_trans s.next (nx b h0).1,(nx b h0).2⟩
end Go.Ab.Tryz
namespace Go.Ab.Tryz
def Yz (acc:List Int)(e:Int × Int):List Int:=if(acc.any fun r=>decide (e.1=r))=true then acc else acc++[e.1]
theorem tellK_mem {t:Tb}{a b:Sd}:∀{n} {x:Int},x∈Yc t a b n→0≤x∧x<n
 |0,x,h=>by simp[Yc] at h
 |n+1,x,h=>by
  simp only[Yc,List.mem_append] at h
  rcases h with h|h
  ·have:=tellK_mem h;omega
  ·by_cases c:ZO t n a b=true
   ·rw[if_pos c,List.mem_singleton] at h;omega
   ·rw[if_neg c] at h;simp at h
theorem dd_row (t:Tb)(a b:Sd){i:Nat}(h0:(ZU t a b (i*t.lights.length)).foldl Yz []=Yc t a b i):∀k,k≤t.lights.length→(ZU t a b (i*t.lights.length+k)).foldl Yz []=Yc t a b i++if((List.range k).any fun k=>ZR t a b i k)=true then[(i:Int)] else[]
 |0,_=>by simp[h0]
 |k+1,hk=>by
  have ih:=dd_row t a b h0 k yea
  have hr:=apartK_row t a b (i:=i) (k:=k) yea
  have e:i*t.lights.length+(k+1)=i*t.lights.length+k+1:=by omega
  rw[e,hr,List.foldl_append,ih]
  have hst:=XL (p:=fun k=>ZR t a b i k) k
  rw[hst]
  have hni:((Yc t a b i).any fun r=>decide ((i:Int)=r))=false:=by
   rw[List.any_eq_false]
   intro x hx
   have:=tellK_mem hx
   simp;omega
  cases hc:ZR t a b i k with
  |false=>simp
  |true=>
   cases hp:(List.range k).any fun k=>ZR t a b i k with
   |false=>simp[Yz,hni]
   |true=>simp[Yz,List.any_append]
theorem dd_all (t:Tb)(a b:Sd):∀i,(ZU t a b (i*t.lights.length)).foldl Yz []=Yc t a b i
 |0=>by simp[ZU,Yc]
 |i+1=>by
  have h:=dd_row t a b (dd_all t a b i) t.lights.length (Nat.le_refl _)
  rw[Nat.succ_mul,h]
  simp only[Yc,ZO]
  rfl
theorem dd_len:∀(l:List (Int × Int)) (acc:List Int),(l.foldl Yz acc).length≤acc.length+l.length
 |[],acc=>by simp
 |e::l,acc=>by
  have:=dd_len l (Yz acc e)
  simp only[List.foldl_cons,List.length_cons]
  have h2:(Yz acc e).length≤acc.length+1:=by unfold Yz;split<;>simp
  omega
def Yt (t:Tb)(p q:Nat):List Int:=match t.pieces[p]?,t.pieces[q]? with
 |some a,some b=>Yc t a b t.eyes.length
 |_,_=>[]
set_option maxHeartbeats 1000000 in
theorem dtellers_ev {h:H}{d:Nat}{t:Tb}(hw:h.wf)(hd:Ws h d t)(g:Good t){p r:Nat}(hp:p<t.pieces.length)(hr:r<t.pieces.length)(Q:V→H→Prop)(q:∀y h',Zq h h' y 1 ((Yt t p r).map encI)→Q y h'):
  Ev fnG Zm (.fn 140 [] []) [.ptr d 0,.ii (p:Int),.ii (r:Int)] h Q:=by
 obtain⟨E,L,P,gd,aE,aL,aP⟩:=id hd
 have gE:=g.eyes
 have gL:=g.lights
 have hmul:t.eyes.length*t.lights.length≤24:=Nat.le_trans (Nat.mul_le_mul gE.2 gL.2) (by decide)
 refine Zd (fd:=c140) rfl rfl rfl ?_
 obtain⟨bP,oP,cP,csP,eP,hcP,hqP,hgP,_,_⟩:=aP.at hp
 obtain⟨bR,oR,cR,csR,eR,hcR,hqR,hgR,_,_⟩:=aP.at hr
 have e1:Yt t p r=(Yg t t.pieces[p] t.pieces[r]).foldl Yz []:=by
  unfold Yt
  rw[List.getElem?_eq_getElem hp,List.getElem?_eq_getElem hr,VG g,dd_all]
 have hpa:=g.piece _ (List.getElem_mem hp)
 have hpb:=g.piece _ (List.getElem_mem hr)
 have hal:=apart_ev (h:=h) hw hd g hpa hpb
 have hle:(Yg t t.pieces[p] t.pieces[r]).length≤24:=by
  rw[VG g];exact Nat.le_trans (YW _ _ _ _) hmul
 rw[e1] at q
 generalize Yg t t.pieces[p] t.pieces[r]=AL at q hal hle
 simp only[Zj] at hal hgP hgR
 simp(disch:=omega)only[c140,go_sem,Zb gd,hqP (Ze p),hcP,hgP,hqR (Ze r),hcR,hgR,Zv]
 refine hal _ fun x h1 ox _=>?_
 have s1:=ox.1
 have sx:=ox.sl yed
 have lx:=sx.lenE
 simp(disch:=omega)only[go_sem,Zb gd,hqP (Ze p),hcP,hgP,hqR (Ze r),hcR,hgR,Zv,lx]
 refine Zh AL.length (fun j s=>∃tm h' y,s=⟨tm,h',[]⟩∧Zq h1 h' y 1 (((AL.take j).foldl Yz []).map encI)∧tm.E 7=y∧tm.E 27=x∧tm.E 28=.ii (AL.length:Int)∧tm.E 29=.ii (j:Int))
  ?_ ?_ (i:=0) (Nat.zero_le _) ⟨_,_,.nils,rfl,Zq.nil (H.Sub.refl s1.wf) 1,yec,yec,yec,yec⟩
 ·rintro j s hj ⟨tm,h',y,rfl,oy,t7,t27,t28,t29⟩
  have hj':(j:Int)<(AL.length:Int):=by omega
  have hs:=oy.1
  obtain⟨b,o,c,cs,ex,hc,hq,hgg,_,_⟩:=(sx.mono hs).at hj
  obtain⟨e,ee⟩:∃e,AL[j]=e:=⟨_,rfl⟩
  rw[ee] at hgg
  simp only[VY] at hgg
  have hstep:(AL.take (j+1)).foldl Yz []=Yz ((AL.take j).foldl Yz []) e:=by
   rw[List.take_add_one,List.getElem?_eq_getElem hj,ee,List.foldl_append];rfl
  have hlen:((AL.take j).foldl Yz []).length≤24:=by
   have:=dd_len (AL.take j) []
   simp only[List.length_nil,Nat.zero_add,List.length_take] at this
   omega
  generalize(AL.take j).foldl Yz []=acc at oy hstep hlen
  have sB:=(H.Sub.refl hs.wf).add (.bk [.ii e.1,.ii e.2])
  have gB:(h'.add (.bk [.ii e.1,.ii e.2])).cells h'.next=some [.ii e.1,.ii e.2]:=Zf rfl
  have oyB:=oy.mono sB
  have hha:=hasInt_ev sB.wf (oyB.sl yed) e.1
  simp(disch:=omega)only[go_sem,t7,t27,t28,t29,hj',hq (Ze j),hc,hgg]
  generalize(h'.add (.bk [.ii e.1,.ii e.2]))=h5 at sB gB oyB hha⊢
  refine hha _ fun h6 s6=>?_
  have oy6:=oyB.mono s6
  cases hh:acc.any fun r=>decide (e.1=r) with
  |true=>
   have:Yz acc e=acc:=by unfold Yz;rw[if_pos hh]
   rw[this] at hstep
   simp(disch:=omega)only[go_sem,t7,t27,t28,t29,Bool.not_true,Zc]
   exact⟨_,_,y,rfl,by rw[hstep];exact oy6,(by simp[t7]),(by simp[t27]),(by simp[t28]),yec⟩
  |false=>
   have:Yz acc e=acc++[e.1]:=by unfold Yz;rw[if_neg (by rw[hh];simp)]
   rw[this] at hstep
   have sC:=(H.Sub.refl s6.wf).add (.bk [.ii e.1])
   simp(disch:=omega)only[go_sem,t7,t27,t28,t29,Bool.not_false,s6.cells gB]
   refine(oy6.mono sC).app1 (by_:=8) (r:=encI e.1) s1.wf rfl yea Ye rfl yed yed fun h9 o9 k9 n9=>?_
   rw[H.next_add,List.length_map] at o9
   simp(disch:=omega)only[go_sem,t7,t27,t28,t29,Zc]
   exact⟨_,_,_,rfl,by rw[hstep,List.map_append];exact o9,yec,(by simp[t27]),(by simp[t28]),yec⟩
 ·rintro s ⟨tm,h',y,rfl,oy,t7,t27,t28,t29⟩
  simp(disch:=omega)only[go_sem,t7,t27,t28,t29,Int.lt_irrefl]
  rw[List.take_length] at oy
  exact q y _ (oy.up s1)
end Go.Ab.Tryz
namespace Go.Ab.Tryz
def Xi (t:Tb)(l:List Int)(r p:Nat):Bool:=decide ((Yt t r p).length=0)||(Yt t r p).any fun e=>l.any fun x=>decide (e=x)
def Zw (t:Tb)(l:List Int):Bool:=(List.range t.pieces.length).all fun p=>(List.range p).all fun r=>Xi t l r p
theorem enough1_ev {l:List Int}{h:H}{x:V}{b:Nat}(hb:h.cells b=some [x])(hx:Zg h x 1 (l.map encI))(e:Int):Y5 h (.fn 141 [] [.ptr b 0]) [.ii e] (.bool (l.any fun r=>decide (e=r))):=by
 intro h1 hs
 refine Ev.gen fun Q q=>?_
 refine Zd (fd:=c141) rfl rfl rfl ?_
 simp(disch:=omega)only[c141,go_sem,hs.cells hb]
 refine hasInt_ev hs.wf (hx.mono hs) e _ fun h2 s2=>?_
 simp(disch:=omega)only[go_sem]
 exact q _ _ ⟨rfl,s2⟩
set_option maxHeartbeats 1000000 in
theorem enough_ev {h:H}{d:Nat}{t:Tb}{x:V}{l:List Int}(hw:h.wf)(hd:Ws h d t)(g:Good t)(hx:Zg h x 1 (l.map encI))(Q:V→H→Prop)(q:∀h',h.Sub h'→Q (.bool (Zw t l)) h'):
  Ev fnG Zm (.fn 93 [] []) [.ptr d 0,x] h Q:=by
 obtain⟨E,L,P,gd,aE,aL,aP⟩:=id hd
 have gE:=g.eyes
 have gp:=g.pieces
 have hlP:=aP.lenE
 have hx1:=hx.one
 have ld:=hw _ _ gd
 refine Zd (fd:=c93) rfl rfl rfl ?_
 have s1:=(H.Sub.refl hw).add (.bk [x])
 have g1:(h.add (.bk [x])).cells h.next=some [x]:=Zf rfl
 have hd1:=hd.mono s1
 simp(disch:=omega)only[c93,go_sem,hx1,cells_one hx1,Zb gd,hlP]
 generalize h.add (.bk [x])=h5 at s1 g1 hd1⊢
 have okAll:(∀p,p<t.pieces.length→∀r,r<p→Xi t l r p=true)→Zw t l=true:=fun hh=>by
  unfold Zw
  rw[List.all_eq_true]
  intro p hp
  rw[List.all_eq_true]
  intro r hr
  exact hh p (List.mem_range.1 hp) r (List.mem_range.1 hr)
 refine Zh t.pieces.length (fun p s=>∃tm h',s=⟨tm,h',[]⟩∧h5.Sub h'∧(∀p',p'<p→∀r,r<p'→Xi t l r p'=true)∧tm.E 0=.ptr d 0∧tm.E 3=.ptr h.next 0∧tm.E 13=.ii (t.pieces.length:Int)∧tm.E 14=.ii (p:Int))
  ?_ ?_ (i:=0) (Nat.zero_le _) ⟨_,_,rfl,H.Sub.refl s1.wf,fun p' h0=>by omega,yec,yec,yec,yec⟩
 ·rintro p s hp ⟨tm,h',rfl,hs,hok,t0,t3,t13,t14⟩
  have hp':(p:Int)<(t.pieces.length:Int):=by omega
  simp(disch:=omega)only[go_sem,t0,t3,t13,t14,hp']
  refine Zh p (fun r s=>∃tm h',s=⟨tm,h',[]⟩∧h5.Sub h'∧(∀r',r'<r→Xi t l r' p=true)∧tm.E 0=.ptr d 0∧tm.E 3=.ptr h.next 0∧tm.E 5=.ii (p:Int)∧tm.E 13=.ii (t.pieces.length:Int)∧tm.E 14=.ii (p:Int)∧tm.E 17=.ii (p:Int)∧tm.E 18=.ii (r:Int))
   ?_ ?_ (i:=0) (Nat.zero_le _) ⟨_,_,rfl,hs,fun r' h0=>by omega,yeh,(by simp[t3]),yec,(by simp[t13]),(by simp[t14]),yec,yec⟩
  ·rintro r s hr ⟨tm,h',rfl,hs,hokr,t0,t3,t5,t13,t14,t17,t18⟩
   have hr':(r:Int)<(p:Int):=by omega
   simp(disch:=omega)only[go_sem,t0,t3,t5,t13,t14,t17,t18,hr']
   refine dtellers_ev hs.wf (hd1.mono hs) g yea hp _ fun y h2 oy=>?_
   have s2:=hs.trans oy.1
   have htl:(Yt t r p).length≤24:=by
    unfold Yt
    split
    ·exact Nat.le_trans (tellK_len _ _ _ _) yea
    ·simp
   have sly:=oy.sl yed
   have ly:=sly.lenE
   have nxt:Xi t l r p=true→∀r',r'<r+1→Xi t l r' p=true:=fun h0 r' h1=>by
    by_cases e:r'=r
    ·subst e;exact h0
    ·exact hokr r' yea
   by_cases hz:(Yt t r p).length=0
   ·have hn:¬(0:Int)<((Yt t r p).length:Int):=by omega
    simp(disch:=omega)only[go_sem,t0,t3,t5,t13,t14,t17,t18,ly,hn,Zc]
    exact⟨_,_,rfl,s2,nxt (by unfold Xi;rw[decide_eq_true hz];rfl),yeh,(by simp[t3]),(by simp[t5]),(by simp[t13]),(by simp[t14]),(by simp[t17]),yec⟩
   ·have hn:(0:Int)<((Yt t r p).length:Int):=by omega
    simp(disch:=omega)only[go_sem,t0,t3,t5,t13,t14,t17,t18,ly,hn]
    refine(WQ (p:=fun e=>l.any fun x=>decide (e=x)) s2.wf sly fun e _=>enough1_ev (s2.cells g1) (hx.mono (s1.trans s2)) e).mono fun u h3 hu=>?_
    obtain⟨rfl,s3⟩:=hu
    have hok':Xi t l r p=(Yt t r p).any fun e=>l.any fun x=>decide (e=x):=by
     unfold Xi;rw[decide_eq_false hz,Bool.false_or]
    cases hc:(Yt t r p).any fun e=>l.any fun x=>decide (e=x) with
    |true=>
     simp(disch:=omega)only[go_sem,t0,t3,t5,t13,t14,t17,t18,Bool.not_true,Zc]
     exact⟨_,_,rfl,s2.trans s3,nxt (by rw[hok',hc]),yeh,(by simp[t3]),(by simp[t5]),(by simp[t13]),(by simp[t14]),(by simp[t17]),yec⟩
    |false=>
     have hf:Zw t l=false:=by
      unfold Zw
      rw[List.all_eq_false]
      refine⟨p,List.mem_range.2 hp,?_⟩
      have:((List.range p).all fun r=>Xi t l r p)=false:=List.all_eq_false.2 ⟨r,List.mem_range.2 hr,by rw[hok',hc];simp⟩
      rw[this];simp
     rw[hf] at q
     simp(disch:=omega)only[go_sem,Bool.not_false]
     exact q _ (s1.trans (s2.trans s3))
  ·rintro s ⟨tm,h',rfl,hs,hokr,t0,t3,t5,t13,t14,t17,t18⟩
   simp(disch:=omega)only[go_sem,t0,t3,t5,t13,t14,t17,t18,Int.lt_irrefl,Zc]
   exact⟨_,_,rfl,hs,fun p' h1=>by
    by_cases e:p'=p
    ·subst e;exact hokr
    ·exact hok p' yea,yeh,(by simp[t3]),(by simp[t13]),yec⟩
 ·rintro s ⟨tm,h',rfl,hs,hok,t0,t3,t13,t14⟩
  rw[okAll hok] at q
  simp(disch:=omega)only[go_sem,t0,t3,t13,t14,Int.lt_irrefl]
  exact q _ (s1.trans hs)
end Go.Ab.Tryz
namespace Go.Ab.Tryz
open Go.Ab.Silk (YA Yb)
def PostL (n0 oC:Nat)(l:List Int)(h:H):Prop:=∃y,h.get oC=some (.bk [y])∧WZ h y l∧∀b,Zk y b→n0≤b
theorem fewest1_holds {hb:H}(hwb:hb.wf){d:Nat}{t:Tb}(hd:Ws hb d t)(g:Good t){oC dC:Nat}(ho:hb.next≤oC)(hdc:hb.cells dC=some [.ptr d 0]):V5 hb (.fn 95 [] [.ptr oC 0,.ptr dC 0]) oC t.eyes.length (Zw t) (PostL hb.next oC):=by
 intro l x h1 _ s1 hx nx ⟨y0,go⟩ R r
 have hx1:=hx.one
 have kS:=Zi.set h1 oC (.bk [x])
 have wS:=H.wf_set s1.wf (.bk [x]) go
 have sS:hb.Sub (h1.set oC (.bk [x])):=kS.sub s1 hwb (fun c hc=>by omega) wS
 have axS:WZ (h1.set oC (.bk [x])) x l:=hx.keep kS fun b h0=>(nx b h0).2
 have gS:(h1.set oC (.bk [x])).get oC=some (.bk [x]):=get_set_same rfl
 refine Zd (fd:=c95) rfl rfl rfl ?_
 have hdS:=sS.cells hdc
 simp(disch:=omega)only[c95,go_sem,go,hx1,cells_one hx1]
 generalize h1.set oC (.bk [x])=h2 at kS wS sS axS gS hdS⊢
 simp(disch:=omega)only[go_sem,hdS]
 refine enough_ev wS (hd.mono sS) g axS.sl _ fun h3 s3=>?_
 simp(disch:=omega)only[go_sem]
 exact r h3 ((kS.trans (Zi.of s3 fun c=>c=oC)).mono fun c h=>by rcases h with h|h<;>exact h) s3.wf ⟨x,s3.get gS⟩ (fun _=>⟨x,s3.get gS,axS.mono s3,fun b h0=>(nx b h0).1⟩)
set_option maxHeartbeats 1000000 in
theorem Fewest_own {h:H}{v:V}{t:Tb}(hw:h.wf)(ht:ZK h v t)(Q:V→H→Prop)
  (q:∀y h',h.Sub h'→(∀c,check t=0→Yb (Zw t) t.eyes.length (t.eyes.length+1) 0=some c→Zg h' y 1 (c.map encI)∧∀b,Zk y b→h.next≤b)→(check t≠0→y=.nils)→Q (.tup [y,.ii (check t)]) h'):
  Ev fnG Zm (.fn 33 [] []) [v] h Q:=by
 have ht0:=ht
 obtain⟨E,L,P,rfl,aE,aL,aP⟩:=ht
 refine Zd (fd:=c33) rfl rfl rfl ?_
 have s1:h.Sub (h.add (.bk [E,L,P])):=yeb
 have g1:(h.add (.bk [E,L,P])).cells h.next=some [E,L,P]:=Zf rfl
 simp(disch:=omega)only[c33,go_sem]
 refine ZP s1.wf (ht0.mono s1) _ (fun h5 s45 c=>?_) fun h5 d s15 c g hd=>?_
 ·simp(disch:=omega)only[go_sem,ne_eq,c,not_false_eq_true]
  exact q _ _ (s1.trans (s45.add _)) (fun _ h0=>absurd h0 c) (fun _=>rfl)
 have s5:=s1.trans s15
 have gE:=g.eyes
 have hlE:=aE.lenE
 have s6:=(H.Sub.refl s15.wf).add (.bk [.ptr d 0])
 have c4:(h5.add (.bk [.ptr d 0])).cells h5.next=some [.ptr d 0]:=Zf rfl
 have hH:=fewest1_holds s6.wf (hd.mono s6) g (oC:=(h5.add (.bk [.ptr d 0])).next) (Nat.le_refl _) c4
 have g6:=(s15.trans s6).cells g1
 have s7:=(H.Sub.refl s6.wf).add (.bk [.nils])
 have go7:((h5.add (.bk [.ptr d 0])).add (.bk [.nils])).get (h5.add (.bk [.ptr d 0])).next=some (.bk [.nils]):=Zn rfl
 have n6:(h5.add (.bk [.ptr d 0])).next=h5.next+1:=H.next_add _ _
 have g7:=s7.cells g6
 simp(disch:=omega)only[go_sem,ne_eq,not_true_eq_false,g7,hlE,Zc]
 rw[n6] at hH go7
 have s57:=s5.trans (s6.trans s7)
 generalize(h5.add (.bk [.ptr d 0])).add (.bk [.nils])=h7 at s7 go7 g7 s57⊢
 generalize(h5.add (.bk [.ptr d 0]))=h6 at s6 c4 hH g6 s7 n6
 rw[c] at q
 refine W.mono (Q:=fun x1 s=>x1=.ext 0∧∃tm h',s=⟨tm,h',[]⟩∧Zi (fun c=>c=h5.next+1) h7 h'∧h'.wf∧(∃y,h'.get (h5.next+1)=some (.bk [y])∧∀c,Yb (Zw t) t.eyes.length (t.eyes.length+1) 0=some c→Zg h' y 1 (c.map encI)∧∀b,Zk y b→h.next≤b)∧tm.E 6=.ptr (h5.next+1) 0)
  (Zh (t.eyes.length+1) (fun k s=>∃tm h',s=⟨tm,h',[]⟩∧Zi (fun c=>c=h5.next+1) h7 h'∧h'.wf∧(∃y,h'.get (h5.next+1)=some (.bk [y]))∧Yb (Zw t) t.eyes.length (t.eyes.length+1) 0=Yb (Zw t) t.eyes.length (t.eyes.length+1-k) k∧
   tm.E 1=.ptr h.next 0∧tm.E 4=.ptr h5.next 0∧tm.E 6=.ptr (h5.next+1) 0∧tm.E 19=.ii ((t.eyes.length+1:Nat):Int)∧tm.E 20=.ii (k:Int))
  ?_ ?_ (i:=0) (Nat.zero_le _) ⟨_,_,rfl,Zi.refl _ _,s7.wf,⟨_,go7⟩,rfl,yec,yec,yec,yec,yec⟩) fun x1 s hx1=>?_
 ·rintro k s hk ⟨tm,h',rfl,kk,wh,go,hfo,t1,t4,t6,t19,t20⟩
  have hk':(k:Int)<((t.eyes.length+1:Nat):Int):=by omega
  have l5:=s15.next
  have lg:=s1.next
  have gl:=(H.cells_eq g1).elim fun kd e=>s1.wf _ _ e
  have g7':=kk.cells g7 yea
  have s6':h6.Sub h':=kk.sub s7 s6.wf (fun c hc=>by omega) wh
  simp(disch:=omega)only[go_sem,t1,t4,t6,t19,t20,hk',g7',hlE]
  refine lists_ev s6.wf hH rfl yea s6' go yea yea _ fun tt h9 k9 w9 go9 hres=>?_
  have k79:Zi (fun c=>c=h5.next+1) h7 h9:=(kk.trans k9).mono fun c h=>by rcases h with h|h<;>exact h
  have hfo2:Yb (Zw t) t.eyes.length (t.eyes.length+1-k) k=match(YA k t.eyes.length 0).find? (Zw t) with|some c=>some c|none=>Yb (Zw t) t.eyes.length (t.eyes.length+1-(k+1)) (k+1):=by
   rw[show t.eyes.length+1-k=(t.eyes.length+1-(k+1))+1 by omega];rfl
  rw[hfo2] at hfo
  cases hr:(YA k t.eyes.length 0).find? (Zw t) with
  |some c=>
   rw[hr] at hres hfo
   obtain⟨rfl,_,y,gy,ay,ny⟩:=hres
   simp(disch:=omega)only[go_sem,t1,t4,t6,t19,t20]
   exact⟨_,_,rfl,k79,w9,⟨y,gy,fun c' hc'=>by rw[hfo] at hc';cases hc';exact⟨ay.sl,fun b h0=>by have:=ny b h0;have:=s5.next;omega⟩⟩,(by simp[t6])⟩
  |none=>
   rw[hr] at hres hfo
   have hres:tt=false:=hres
   subst hres
   simp(disch:=omega)only[go_sem,t1,t4,t6,t19,t20,Zc]
   exact⟨_,_,rfl,k79,w9,go9,hfo,(by simp[t1]),(by simp[t4]),(by simp[t6]),(by simp[t19]),yec⟩
 ·rintro s ⟨tm,h',rfl,kk,wh,⟨y,go⟩,hfo,t1,t4,t6,t19,t20⟩
  simp(disch:=omega)only[go_sem,t1,t4,t6,t19,t20,Int.lt_irrefl]
  rw[Nat.sub_self] at hfo
  exact⟨_,_,rfl,kk,wh,⟨y,go,fun c hc=>by rw[hfo] at hc;cases hc⟩,(by simp[t6])⟩
 obtain⟨rfl,tm,h',rfl,kk,wh,⟨y,go,hy⟩,t6⟩:=hx1
 have sF:h.Sub h':=kk.sub s57 hw (fun c hc=>by have:=s5.next;omega) wh
 simp(disch:=omega)only[go_sem,t6,Zb go]
 exact q y h' sF (fun c _ hc=>hy c hc) (fun h0=>absurd rfl h0)
theorem Fewest_ev {h:H}{v:V}{t:Tb}(hw:h.wf)(ht:ZK h v t)(Q:V→H→Prop)
  (q:∀y h',h.Sub h'→(∀c,check t=0→Yb (Zw t) t.eyes.length (t.eyes.length+1) 0=some c→Zg h' y 1 (c.map encI))→(check t≠0→y=.nils)→Q (.tup [y,.ii (check t)]) h'):
  Ev fnG Zm (.fn 33 [] []) [v] h Q:=Fewest_own hw ht Q fun y h' s h1 h2=>q y h' s (fun c hc hf=>(h1 c hc hf).1) h2
end Go.Ab.Tryz
namespace Go.Ab.Tryz
open Go.Ab.Silk (YA)
def Yv (T:Int→Int→Bool)(O:List Int→Bool)(l:List Int):Bool:=O l&&l.all fun p=>l.all fun q=>decide (p=q)||T p q
def lastOf (P:List Int→Bool)(n:Nat):Nat→Option (List Int)
 |0=>none
 |k+1=>match(YA (k+1) n 0).find? P with
  |some c=>some c
  |none=>lastOf P n k
def V4 (hb:H)(tf:V)(n:Nat)(T:Int→Int→Bool):Prop:=∀a b:Int,0≤a∧a<(n:Int)→0≤b∧b<(n:Int)→Y5 hb tf [.ii a,.ii b] (.bool (T a b))
def ListOk (hb:H)(f:V)(O:List Int→Bool):Prop:=∀(l:List Int) (x:V) (h1:H),hb.Sub h1→Zg h1 x 1 (l.map encI)→∀R:V→H→Prop,(∀h2,h1.Sub h2→R (.bool (O l)) h2)→Ev fnG Zm f [x] h1 R
theorem most3_ev {hb:H}{tf:V}{n:Nat}{T:Int→Int→Bool}(hT:V4 hb tf n T){h:H}(s:hb.Sub h){bP bT:Nat}{p:Int}(hp:0≤p∧p<(n:Int))(gP:h.cells bP=some [.ii p])(gT:h.cells bT=some [tf]){a:Int}(ha:0≤a∧a<(n:Int)):
  Y5 h (.fn 129 [] [.ptr bP 0,.ptr bT 0]) [.ii a] (.bool (decide (p=a)||T p a)):=by
 intro h1 hs
 refine Ev.gen fun Q q=>?_
 refine Zd (fd:=c129) rfl rfl rfl ?_
 by_cases e:p=a
 ·have hd:decide (p=a)=true:=decide_eq_true e
  simp(disch:=omega)only[c129,go_sem,hs.cells gP,hd]
  exact q _ _ ⟨by rw[hd];rfl,H.Sub.refl hs.wf⟩
 ·have hd:decide (p=a)=false:=decide_eq_false e
  simp(disch:=omega)only[c129,go_sem,hs.cells gP,hs.cells gT,hd]
  refine(hT p a hp ha).use (s.trans hs) fun h2 s2=>?_
  simp(disch:=omega)only[go_sem]
  exact q _ _ ⟨by rw[hd];rfl,s2⟩
theorem most2_ev {hb:H}{tf:V}{n:Nat}{T:Int→Int→Bool}(hT:V4 hb tf n T){h:H}(s:hb.Sub h){bL bT:Nat}{x:V}{l:List Int}(hl:∀a∈l,0≤a∧a<(n:Int))(gL:h.cells bL=some [x])(hx:Zg h x 1 (l.map encI))(gT:h.cells bT=some [tf]){p:Int}(hp:0≤p∧p<(n:Int)):
  Y5 h (.fn 128 [] [.ptr bL 0,.ptr bT 0]) [.ii p] (.bool (l.all fun q=>decide (p=q)||T p q)):=by
 intro h1 hs
 refine Ev.gen fun Q q=>?_
 refine Zd (fd:=c128) rfl rfl rfl ?_
 have s1:=(H.Sub.refl hs.wf).add (.bk [.ii p])
 have g1:(h1.add (.bk [.ii p])).cells h1.next=some [.ii p]:=Zf rfl
 have hsA:=hs.trans s1
 have gLA:=hsA.cells gL
 simp(disch:=omega)only[c128,go_sem,gLA,hs.cells gL]
 generalize h1.add (.bk [.ii p])=h2 at s1 g1 hsA gLA⊢
 try simp(disch:=omega)only[go_sem,gLA]
 refine(YE (p:=fun q=>decide (p=q)||T p q) s1.wf (hx.mono hsA) fun a ha=>most3_ev hT (s.trans hsA) hp g1 (hsA.cells gT) (hl a ha)).mono fun u h3 hu=>?_
 obtain⟨rfl,s3⟩:=hu
 simp(disch:=omega)only[go_sem]
 exact q _ _ ⟨rfl,s1.trans s3⟩
theorem most1_holds {hb:H}(hwb:hb.wf){tf okf:V}{n:Nat}{T:Int→Int→Bool}{O:List Int→Bool}(hT:V4 hb tf n T)(hO:ListOk hb okf O){oC bO bT:Nat}(ho:hb.next≤oC)(gO:hb.cells bO=some [okf])(gT:hb.cells bT=some [tf]):
  V5 hb (.fn 127 [] [.ptr oC 0,.ptr bO 0,.ptr bT 0]) oC n (Yv T O) (PostL hb.next oC):=by
 intro l x h1 hlr s1 hx nx ⟨y0,go⟩ R r
 have hx1:=hx.one
 have lo:=s1.wf _ _ go
 have sA:=(H.Sub.refl s1.wf).add (.bk [x])
 have gA:(h1.add (.bk [x])).cells h1.next=some [x]:=Zf rfl
 have goA:=sA.get go
 have kS:=Zi.set (h1.add (.bk [x])) oC (.bk [x])
 have wS:=H.wf_set sA.wf (.bk [x]) goA
 have sS:hb.Sub ((h1.add (.bk [x])).set oC (.bk [x])):=kS.sub (s1.trans sA) hwb (fun c hc=>by omega) wS
 have axS:WZ ((h1.add (.bk [x])).set oC (.bk [x])) x l:=(hx.mono sA).keep kS fun b h0=>(nx b h0).2
 have gS:((h1.add (.bk [x])).set oC (.bk [x])).get oC=some (.bk [x]):=get_set_same rfl
 have gLS:((h1.add (.bk [x])).set oC (.bk [x])).cells h1.next=some [x]:=kS.cells gA yea
 refine Zd (fd:=c127) rfl rfl rfl ?_
 have gOS:=sS.cells gO
 have gTS:=sS.cells gT
 simp(disch:=omega)only[c127,go_sem,go,hx1,cells_one hx1]
 have kall:=(Zi.of sA fun c=>c=oC).trans kS
 generalize(h1.add (.bk [x])).set oC (.bk [x])=h2 at kS wS sS axS gS gLS gOS gTS kall⊢
 generalize h1.next=bL at gLS⊢
 simp(disch:=omega)only[go_sem,gOS,gLS]
 refine hO l x h2 sS axS.sl _ fun h3 s3=>?_
 cases hol:O l with
 |false=>
  have hP:Yv T O l=false:=by unfold Yv;rw[hol];rfl
  rw[hP] at r
  simp(disch:=omega)only[go_sem]
  exact r h3 ((kall.trans (Zi.of s3 fun c=>c=oC)).mono fun c h=>by rcases h with(h|h)|h<;>exact h) s3.wf ⟨x,s3.get gS⟩ (fun h=>by cases h)
 |true=>
  have hP:Yv T O l=l.all fun p=>l.all fun q=>decide (p=q)||T p q:=by unfold Yv;rw[hol];rfl
  rw[hP] at r
  simp(disch:=omega)only[go_sem,s3.cells gLS]
  refine(YE (p:=fun p=>l.all fun q=>decide (p=q)||T p q) s3.wf (axS.mono s3).sl fun a ha=>most2_ev hT (sS.trans s3) hlr (s3.cells gLS) (axS.mono s3).sl (s3.cells gTS) (hlr a ha)).mono fun u h4 hu=>?_
  obtain⟨rfl,s4⟩:=hu
  simp(disch:=omega)only[go_sem]
  have s34:=s3.trans s4
  exact r h4 ((kall.trans (Zi.of s34 fun c=>c=oC)).mono fun c h=>by rcases h with(h|h)|h<;>exact h) s34.wf ⟨x,s34.get gS⟩ (fun _=>⟨x,s34.get gS,axS.mono s34,fun b h0=>(nx b h0).1⟩)
theorem V4.mono {hb h:H}{tf:V}{n:Nat}{T:Int→Int→Bool}(a:V4 hb tf n T)(s:hb.Sub h):V4 h tf n T:=fun x y hx hy=>(a x y hx hy).mono s
theorem ListOk.mono {hb h:H}{f:V}{O:List Int→Bool}(a:ListOk hb f O)(s:hb.Sub h):ListOk h f O:=fun l x h1 s1=>a l x h1 (s.trans s1)
set_option maxHeartbeats 1000000 in
theorem most_ev {h:H}{d:Nat}{t:Tb}(hw:h.wf)(hd:Ws h d t)(g:Good t){tf okf:V}{T:Int→Int→Bool}{O:List Int→Bool}(h1:tf.one=true)(h2:okf.one=true)(hT:V4 h tf t.pieces.length T)(hO:ListOk h okf O)(Q:V→H→Prop)
  (q:∀y h',h.Sub h'→(match lastOf (Yv T O) t.pieces.length t.pieces.length with|some c=>WZ h' y c|none=>y=.nils)→Q y h'):Ev fnG Zm (.fn 76 [] []) [.ptr d 0,.agg [tf],okf] h Q:=by
 obtain⟨E,L,P,gd,aE,aL,aP⟩:=id hd
 have gp:=g.pieces
 have hlP:=aP.lenE
 have ld:=hw _ _ gd
 refine Zd (fd:=c76) rfl rfl rfl ?_
 have s6:h.Sub ((h.add (.bk [tf])).add (.bk [okf])):=((H.Sub.refl hw).add _).add _
 have c4:((h.add (.bk [tf])).add (.bk [okf])).cells h.next=some [tf]:=by simp(disch:=first|omega|simp only[nZ]<;>omega|fail)only[go_sem]
 have c5:((h.add (.bk [tf])).add (.bk [okf])).cells (h.next+1)=some [okf]:=by simp(disch:=first|omega|simp only[nZ]<;>omega|fail)only[go_sem]
 have n6:((h.add (.bk [tf])).add (.bk [okf])).next=h.next+2:=by simp only[H.next_add]
 have hH:=most1_holds s6.wf (hT.mono s6) (hO.mono s6) (oC:=h.next+2) yea c5 c4
 have s7:=(H.Sub.refl s6.wf).add (.bk [.nils])
 have go7:(((h.add (.bk [tf])).add (.bk [okf])).add (.bk [.nils])).get (h.next+2)=some (.bk [.nils]):=Zn n6.symm
 have gd7:=s7.get (s6.get gd)
 have s07:=s6.trans s7
 simp(disch:=first|omega|simp only[nZ]<;>omega|fail)only[c76,go_sem,h1,h2,cells_one h1,cells_one h2,gd,Zb gd,hlP]
 generalize((h.add (.bk [tf])).add (.bk [okf])).add (.bk [.nils])=h7 at s7 go7 gd7 s07⊢
 generalize(h.add (.bk [tf])).add (.bk [okf])=h6 at s6 c4 c5 hH s7 n6
 refine Wi (fun kk s=>∃tm h',s=⟨tm,h',[]⟩∧Zi (fun c=>c=h.next+2) h7 h'∧h'.wf∧(∃y,h'.get (h.next+2)=some (.bk [y]))∧kk≤t.pieces.length∧lastOf (Yv T O) t.pieces.length t.pieces.length=lastOf (Yv T O) t.pieces.length kk∧
   tm.E 0=.ptr d 0∧tm.E 4=.ptr h.next 0∧tm.E 5=.ptr (h.next+1) 0∧tm.E 7=.ptr (h.next+2) 0∧tm.E 8=.ii (kk:Int))
  ?_ t.pieces.length _ ⟨_,_,rfl,Zi.refl _ _,s7.wf,⟨_,go7⟩,Nat.le_refl _,rfl,yec,yec,yec,yec,yec⟩
 rintro kk s ⟨tm,h',rfl,k7,wh,go,hkn,hlo,t0,t4,t5,t7,t8⟩
 have sF:h.Sub h':=k7.sub s07 hw (fun c hc=>by omega) wh
 cases kk with
 |zero=>
  have hz:¬(0:Int)<((0:Nat):Int):=by omega
  simp(disch:=first|omega|simp only[nZ]<;>omega|fail)only[go_sem,t0,t4,t5,t7,t8,hz]
  exact q _ _ sF (by rw[hlo];rfl)
 |succ kk=>
  have hz:(0:Int)<((kk+1:Nat):Int):=by omega
  have gd':=Zb (k7.2 _ _ gd7 yea)
  have s6':h6.Sub h':=k7.sub s7 s6.wf (fun c hc=>by omega) wh
  simp(disch:=first|omega|simp only[nZ]<;>omega|fail)only[go_sem,t0,t4,t5,t7,t8,hz,gd',hlP]
  refine lists_ev s6.wf hH rfl yea s6' go yea yea _ fun tt h9 k9 w9 go9 hres=>?_
  have k79:Zi (fun c=>c=h.next+2) h7 h9:=(k7.trans k9).mono fun c h=>by rcases h with h|h<;>exact h
  have hlo2:lastOf (Yv T O) t.pieces.length (kk+1)=match(YA (kk+1) t.pieces.length 0).find? (Yv T O) with|some c=>some c|none=>lastOf (Yv T O) t.pieces.length kk:=rfl
  rw[hlo2] at hlo
  cases hr:(YA (kk+1) t.pieces.length 0).find? (Yv T O) with
  |some c=>
   rw[hr] at hres hlo
   obtain⟨rfl,_,y,gy,ay,_⟩:=hres
   simp(disch:=first|omega|simp only[nZ]<;>omega|fail)only[go_sem,t0,t4,t5,t7,t8,Zb gy]
   exact q _ _ (k79.sub s07 hw (fun c hc=>by omega) w9) (by rw[hlo];exact ay)
  |none=>
   rw[hr] at hres hlo
   have hres:tt=false:=hres
   subst hres
   have e1:((kk+1:Nat):Int)-1=(kk:Int):=by omega
   simp(disch:=first|omega|simp only[nZ]<;>omega|fail)only[go_sem,t0,t4,t5,t7,t8,ZC,e1]
   exact⟨kk,by omega,_,_,rfl,k79,w9,go9,by omega,hlo,yeh,(by simp[t4]),(by simp[t5]),(by simp[t7]),yec⟩
end Go.Ab.Tryz
namespace Go.Ab.Tryz
open Go.Ab.Silk (YA)
theorem Ev_bound {f:FuncId}{a:V}{args:List V}{h:H}{Q:V→H→Prop}(he:Ev fnG Zm (.fn f [] []) (a::args) h Q):Ev fnG Zm (.fn f [a] []) args h Q:=by
 obtain⟨n,v,h',e,q⟩:=he
 refine⟨n,v,h',?_,q⟩
 cases n with
 |zero=>exact e
 |succ n=>exact e
def mT (t:Tb)(a b:Int):Bool:=XC t a.toNat b.toNat
def strR (t:Tb):Option (List Int):=lastOf (Yv (fun a b=> !mT t a b) fun _=>true) t.pieces.length t.pieces.length
theorem strangers1_ok {hb:H}{d b:Nat}{t:Tb}(hd:Ws hb d t)(g:Good t)(hb4:hb.cells b=some [.ptr d 0]):V4 hb (.fn 84 [] [.ptr b 0]) t.pieces.length fun a b=> !mT t a b:=by
 intro a c ha hc h1 hs
 obtain⟨i,rfl⟩:=Int.eq_ofNat_of_zero_le ha.1
 obtain⟨k,rfl⟩:=Int.eq_ofNat_of_zero_le hc.1
 refine Ev.gen fun Q q=>?_
 refine Zd (fd:=c84) rfl rfl rfl ?_
 simp(disch:=omega)only[c84,go_sem,hs.cells hb4]
 refine WE hs.wf (hd.mono hs) g yea yea _ fun h2 s2=>?_
 simp(disch:=omega)only[go_sem]
 exact q _ _ ⟨rfl,s2⟩
theorem strangers2_ok {hb:H}:ListOk hb (.fn 85 [] []) fun _=>true:=by
 intro l x h1 s1 hx R r
 refine Zd (fd:=c85) rfl rfl rfl ?_
 simp(disch:=omega)only[c85,go_sem]
 exact r _ (H.Sub.refl s1.wf)
def LsOut (h':H)(y:V)(r:Option (List Int)):Prop:=match r with|some c=>WZ h' y c|none=>y=.nils
theorem Strangers_ev {h:H}{v:V}{t:Tb}(hw:h.wf)(ht:ZK h v t)(Q:V→H→Prop)
  (q:∀y h',h.Sub h'→LsOut h' y (if check t=0 then strR t else none)→Q (.tup [y,.ii (check t)]) h'):Ev fnG Zm (.fn 21 [] []) [v] h Q:=by
 have ht0:=ht
 obtain⟨E,L,P,rfl,aE,aL,aP⟩:=ht
 refine Zd (fd:=c21) rfl rfl rfl ?_
 have s1:h.Sub (h.add (.bk [E,L,P])):=yeb
 simp(disch:=omega)only[c21,go_sem]
 refine ZP s1.wf (ht0.mono s1) _ (fun h5 s45 c=>?_) fun h5 d s15 c g hd=>?_
 ·simp(disch:=omega)only[go_sem,ne_eq,c,not_false_eq_true]
  exact q _ _ (s1.trans (s45.add _)) (by rw[if_neg c];exact rfl)
 have s5:=s1.trans s15
 have s6:=(H.Sub.refl s15.wf).add (.bk [.ptr d 0])
 have c4:(h5.add (.bk [.ptr d 0])).cells h5.next=some [.ptr d 0]:=Zf rfl
 rw[c,if_pos rfl] at q
 have hT:=strangers1_ok (hd.mono s6) g c4
 simp(disch:=omega)only[go_sem,ne_eq,not_true_eq_false]
 refine most_ev s6.wf (hd.mono s6) g rfl rfl hT strangers2_ok _ fun y h7 s7 hy=>?_
 simp(disch:=omega)only[go_sem]
 exact q y _ (s5.trans (s6.trans s7)) hy
def grE (t:Tb)(p:Int):Int:=if check t≠0 then check t else if Y0 t p=false then 1 else 0
def grR (t:Tb)(p:Int):Option (List Int):=if grE t p=0 then lastOf (Yv (mT t) fun l=>l.any fun r=>decide (p=r)) t.pieces.length t.pieces.length else none
theorem matchT_ok {hb:H}{d:Nat}{t:Tb}(hd:Ws hb d t)(g:Good t):V4 hb (.fn 77 [.ptr d 0] []) t.pieces.length (mT t):=by
 intro a c ha hc h1 hs
 obtain⟨i,rfl⟩:=Int.eq_ofNat_of_zero_le ha.1
 obtain⟨k,rfl⟩:=Int.eq_ofNat_of_zero_le hc.1
 refine Ev.gen fun Q q=>?_
 refine Ev_bound ?_
 refine WE hs.wf (hd.mono hs) g yea yea _ fun h2 s2=>?_
 exact q _ _ ⟨rfl,s2⟩
theorem greatest1_ok {hb:H}{b:Nat}{p:Int}(hb3:hb.cells b=some [.ii p]):ListOk hb (.fn 78 [] [.ptr b 0]) fun l=>l.any fun r=>decide (p=r):=by
 intro l x h1 s1 hx R r
 refine Zd (fd:=c78) rfl rfl rfl ?_
 simp(disch:=omega)only[c78,go_sem,s1.cells hb3]
 refine hasInt_ev s1.wf hx p _ fun h2 s2=>?_
 simp(disch:=omega)only[go_sem]
 exact r _ s2
theorem Greatest_ev {h:H}{v:V}{t:Tb}(hw:h.wf)(ht:ZK h v t)(p:Int)(Q:V→H→Prop)
  (q:∀y h',h.Sub h'→LsOut h' y (grR t p)→Q (.tup [y,.ii (grE t p)]) h'):Ev fnG Zm (.fn 18 [] []) [v,.ii p] h Q:=by
 have ht0:=ht
 obtain⟨E,L,P,rfl,aE,aL,aP⟩:=ht
 refine Zd (fd:=c18) rfl rfl rfl ?_
 have s1:h.Sub ((h.add (.bk [E,L,P])).add (.bk [.ii p])):=yeb
 have g2:((h.add (.bk [E,L,P])).add (.bk [.ii p])).cells h.next=some [E,L,P]:=by simp(disch:=first|omega|simp only[nZ]<;>omega|fail)only[go_sem]
 have g3:((h.add (.bk [E,L,P])).add (.bk [.ii p])).cells (h.next+1)=some [.ii p]:=by simp(disch:=first|omega|simp only[nZ]<;>omega|fail)only[go_sem]
 have bad:∀h',h.Sub h'→∀e:Int,e≠0→grE t p=e→Q (.tup [.nils,.ii e]) h':=fun h' s e he e1=>by
  have q':=q .nils _ s (by unfold grR;rw[e1,if_neg he];exact rfl)
  rw[e1] at q';exact q'
 simp(disch:=first|omega|simp only[nZ]<;>omega|fail)only[c18,go_sem]
 generalize((h.add (.bk [E,L,P])).add (.bk [.ii p]))=h4 at s1 g2 g3⊢
 refine ZP s1.wf (ht0.mono s1) _ (fun h5 s45 c=>?_) fun h5 d s15 c g hd=>?_
 ·simp(disch:=first|omega|simp only[nZ]<;>omega|fail)only[go_sem,ne_eq,c,not_false_eq_true,s45.cells g2]
  exact bad _ (s1.trans s45) _ c (by unfold grE;rw[if_pos c])
 have s5:=s1.trans s15
 simp(disch:=first|omega|simp only[nZ]<;>omega|fail)only[go_sem,ne_eq,not_true_eq_false,s15.cells g2,s15.cells g3]
 refine Ev_bound ?_
 refine Vp s5.wf (ht0.mono s5) p _ fun h6 s6=>?_
 have s16:=s15.trans s6
 cases cp:Y0 t p
 ·simp(disch:=first|omega|simp only[nZ]<;>omega|fail)only[go_sem,Bool.not_false]
  exact bad _ (s1.trans s16) 1 (by decide) (by unfold grE;rw[if_neg (by simp[c]),if_pos cp])
 have e1:grE t p=0:=by unfold grE;rw[if_neg (by simp[c]),if_neg (by simp[cp])]
 have hd6:=hd.mono s6
 have er:grR t p=lastOf (Yv (mT t) fun l=>l.any fun r=>decide (p=r)) t.pieces.length t.pieces.length:=by unfold grR;rw[if_pos e1]
 simp(disch:=first|omega|simp only[nZ]<;>omega|fail)only[go_sem,Bool.not_true]
 refine most_ev s6.wf hd6 g rfl rfl (matchT_ok hd6 g) (greatest1_ok (s16.cells g3)) _ fun y h7 s7 hy=>?_
 simp(disch:=first|omega|simp only[nZ]<;>omega|fail)only[go_sem]
 have q':=q y _ (s1.trans (s16.trans s7)) (by rw[er];exact hy)
 rw[e1] at q';exact q'
end Go.Ab.Tryz
namespace Go.Ab
theorem Zi.low {S:Nat→Prop}{n:Nat}{h h':H}(k:Zi (fun c=>S c∨n≤c) h h')(hw:h.wf)(l:h.next≤n):Zi S h h':=
 ⟨k.1,fun c y e ns=>k.2 c y e fun h0=>h0.elim ns fun h1=>by have:=hw c y e;omega⟩
end Go.Ab
namespace Go.Ab.Tryz
theorem sorting11_ev {h:H}{d dC pB:Nat}{t:Tb}(hd:Ws h d t)(g:Good t)(gD:h.cells dC=some [.ptr d 0]){p:Nat}(gP:h.cells pB=some [.ii (p:Int)])(hp:p<t.pieces.length){x:Int}(hx:0≤x∧x<(t.pieces.length:Int)):
  Y5 h (.fn 131 [] [.ptr dC 0,.ptr pB 0]) [.ii x] (.bool (mT t x (p:Int))):=by
 intro h1 hs
 obtain⟨i,rfl⟩:=Int.eq_ofNat_of_zero_le hx.1
 refine Ev.gen fun Q q=>?_
 refine Zd (fd:=c131) rfl rfl rfl ?_
 simp(disch:=omega)only[c131,go_sem,hs.cells gD,hs.cells gP]
 refine WE hs.wf (hd.mono hs) g yea hp _ fun h2 s2=>?_
 simp(disch:=omega)only[go_sem]
 exact q _ _ ⟨by simp only[mT,Int.toNat_natCast],s2⟩
abbrev eS (S:List (List Int)):List (List (List V)):=S.map fun l=>l.map encI
theorem eS_set (S:List (List Int))(i:Nat)(l:List Int):(eS S).set i (l.map encI)=eS (S.set i l):=by rw[eS,eS,List.map_set]
set_option maxHeartbeats 4000000 in
theorem sortput_ev {h0:H}(hw0:h0.wf){d:Nat}{t:Tb}(hd:Ws h0 d t)(g:Good t){dC mC sC pC most:Nat}(l0:h0.next≤sC)(n1:dC≠sC)(n2:mC≠sC)(n3:pC≠sC)(hmost:most≤20):
  ∀(k p:Nat) (S:List (List Int)) (F:Nat→Prop) (h:H) (x:V),p+k=t.pieces.length→S.length≤most→(∀l∈S,l.length≤p∧∀a∈l,0≤a∧a<(p:Int))→h0.Sub h→(∀c,F c→h0.next≤c∧c≠dC∧c≠mC∧c≠sC∧c≠pC∧c<h.next)→
   h.cells dC=some [.ptr d 0]→h.cells mC=some [.ii (most:Int)]→h.cells pC=some [.fn 130 [] [.ptr dC 0,.ptr sC 0,.ptr pC 0,.ptr mC 0]]→h.get sC=some (.bk [x])→ZL F h x (eS S)→∀Q:V→H→Prop,
   (∀h' x' r,Zi (fun c=>c=sC∨F c) h h'→h'.wf→h'.get sC=some (.bk [x'])→ZL (fun c=>F c∨h.next≤c) h' x' (eS (r.getD S))→XR (mT t) most k p S=r→Q (.bool r.isSome) h')→
   Ev fnG Zm (.fn 130 [] [.ptr dC 0,.ptr sC 0,.ptr pC 0,.ptr mC 0]) [.ii (p:Int)] h Q:=by
 intro k
 induction k with
 |zero=>
  intro p S F h x hk hl hm hs hF gD gM gP gS lx Q q
  have s1:=(H.Sub.refl hs.wf).add (.bk [.ii (p:Int)])
  have g1:(h.add (.bk [.ii (p:Int)])).cells h.next=some [.ii (p:Int)]:=Zf rfl
  obtain⟨E,L,P,gd,aE,aL,aP⟩:=hd.mono (hs.trans s1)
  have hlP:=aP.lenE
  have hpn:decide ((p:Int)=(t.pieces.length:Int))=true:=decide_eq_true yea
  have gD1:=s1.cells gD
  have gS1:=s1.get gS
  have l1:=lx.mono s1
  refine Zd (fd:=c130) rfl rfl rfl ?_
  simp(disch:=omega)only[c130,go_sem]
  generalize h.add (.bk [.ii (p:Int)])=h5 at s1 g1 gd gD1 gS1 l1 hlP⊢
  simp(disch:=omega)only[go_sem,g1,gD1,Zb gd,hlP,hpn]
  exact q _ x (some S) (Zi.of s1 _) s1.wf gS1 (l1.up fun b hb _=>.inl hb) rfl
 |succ k ih=>
  intro p S F h x hk hl hm hs hF gD gM gP gS lx Q q
  have hp:p<t.pieces.length:=by omega
  have s1:=(H.Sub.refl hs.wf).add (.bk [.ii (p:Int)])
  have g1:(h.add (.bk [.ii (p:Int)])).cells h.next=some [.ii (p:Int)]:=Zf rfl
  have nx1:(h.add (.bk [.ii (p:Int)])).next=h.next+1:=H.next_add _ _
  obtain⟨E,L,P,gd,aE,aL,aP⟩:=hd.mono (hs.trans s1)
  have hlP:=aP.lenE
  have gp:=g.pieces
  have hpn:decide ((p:Int)=(t.pieces.length:Int))=false:=decide_eq_false yea
  have gD1:=s1.cells gD
  have gM1:=s1.cells gM
  have gP1:=s1.cells gP
  have gS1:=s1.get gS
  have l1:=lx.mono s1
  have lenx:=lx.len (by rw[List.length_map];omega)
  rw[List.length_map] at lenx
  have bD:=(H.cells_eq gD).elim fun kd e=>hs.wf _ _ e
  have bM:=(H.cells_eq gM).elim fun kd e=>hs.wf _ _ e
  have bP:=(H.cells_eq gP).elim fun kd e=>hs.wf _ _ e
  have bS:=hs.wf _ _ gS
  refine Zd (fd:=c130) rfl rfl rfl ?_
  simp(disch:=omega)only[c130,go_sem]
  generalize h.add (.bk [.ii (p:Int)])=h5 at s1 g1 nx1 gd gD1 gM1 gP1 gS1 l1 hlP⊢
  simp(disch:=omega)only[go_sem,g1,gD,gD1,Zb gd,hlP,hpn,Zb gS,Zb gS1,lenx]
  obtain⟨F1,eF1⟩:∃F1:Nat→Prop,F1=fun c=>F c∨h.next+1≤c:=⟨_,rfl⟩
  have F1n:∀c,F1 c→h0.next≤c∧c≠dC∧c≠mC∧c≠sC∧c≠pC∧c≠h.next:=fun c hc=>by
   subst eF1
   have:=hs.next
   rcases hc with hc|hc
   ·have:=hF c hc;omega
   ·omega
  have F1a:∀c,h.next+1≤c→F1 c:=fun c hc=>by subst eF1;exact .inr hc
  have l1':ZL F1 h5 x (eS S):=l1.up fun b hb _=>by subst eF1;exact .inl hb
  have fin:∀h' x' r,Zi (fun c=>c=sC∨F1 c) h5 h'→h'.wf→h'.get sC=some (.bk [x'])→ZL F1 h' x' (eS (r.getD S))→XR (mT t) most (k+1) p S=r→Q (.bool r.isSome) h':=fun h' x' r k' w' g' l' e=>by
   subst eF1
   refine q h' x' r ?_ w' g' (l'.up fun b hb _=>hb.elim .inl fun h0=>.inr yea) e
   have k1:Zi (fun c=>(c=sC∨F c)∨h.next≤c) h h':=((Zi.of s1 fun _=>False).trans k').mono fun c h0=>by
    rcases h0 with h0|h0|h0|h0
    ·exact h0.elim
    ·exact .inl (.inl h0)
    ·exact .inl (.inr h0)
    ·exact .inr yea
   exact k1.low hs.wf (Nat.le_refl _)
  have cell:∀{h':H} {c:Nat} {cs:List V},Zi (fun c=>c=sC∨F1 c) h5 h'→h5.cells c=some cs→c=dC∨c=mC∨c=pC∨c=h.next→h'.cells c=some cs:=fun k' e hc=>k'.cells e fun h0=>by
   rcases h0 with h0|h0
   ·have:=bS;rcases hc with rfl|rfl|rfl|rfl<;>first|exact n1 h0|exact n2 h0|exact n3 h0|omega
   ·have:=F1n _ h0;rcases hc with rfl|rfl|rfl|rfl<;>omega
  have sub0:∀{h':H},Zi (fun c=>c=sC∨F1 c) h5 h'→h'.wf→h0.Sub h':=fun k' w'=>k'.sub (hs.trans s1) hw0 (fun c hc=>by
   rcases hc with h0|h0
   ·omega
   ·have:=F1n _ h0;omega) w'
  refine Zh S.length (fun i s=>∃tm hh x',s=⟨tm,hh,[]⟩∧Zi (fun c=>c=sC∨F1 c) h5 hh∧hh.wf∧hh.get sC=some (.bk [x'])∧ZL F1 hh x' (eS S)∧
    (∀i',i'<i→(if((S.getD i' []).all fun x=>mT t x (p:Int))=true then XR (mT t) most k (p+1) (S.set i' (S.getD i' []++[(p:Int)])) else none)=none)∧
    tm.E 1=.ptr dC 0∧tm.E 2=.ptr sC 0∧tm.E 3=.ptr pC 0∧tm.E 4=.ptr mC 0∧tm.E 5=.ptr h.next 0∧tm.E 17=.ii (S.length:Int)∧tm.E 18=.ii (i:Int))
   ?_ ?_ (i:=0) (Nat.zero_le _) ⟨_,_,x,rfl,Zi.refl _ _,s1.wf,gS1,l1',fun i' hi'=>by omega,yee,yee,yee,yee,yee,yee,yee⟩
  ·rintro i s hi ⟨tm,hh,x',rfl,kk,wh,gx,lx',hno,t1,t2,t3,t4,t5,t17,t18⟩
   have hi':(i:Int)<(S.length:Int):=by omega
   have hie:i<(eS S).length:=by simp;exact hi
   obtain⟨b,o,kd,cs,v,e1,e2,e3,e4,cv,bx,nbv,Fb,upd⟩:=lx'.at yef hie
   have egd:S.getD i []=S[i]:=by rw[List.getD_eq_getElem?_getD,List.getElem?_eq_getElem hi];rfl
   have hmi:=hm _ (List.getElem_mem hi)
   have eSi:(eS S)[i]=S[i].map encI:=by simp[eS]
   rw[eSi] at cv
   have sh:=sub0 kk wh
   have gD':=cell kk gD1 (.inl rfl)
   have g1':=cell kk g1 (.inr (.inr (.inr rfl)))
   have gP':=cell kk gP1 (.inr (.inr (.inl rfl)))
   have sv:=cv.sl yed
   simp(disch:=omega)only[go_sem,t1,t2,t3,t4,t5,t17,t18,hi',Zb gx,e1,Zb e2,e4]
   refine(YE (p:=fun x=>mT t x (p:Int)) wh sv fun a ha=>sorting11_ev (hd.mono sh) g gD' g1' hp (by have:=hmi.2 a ha;omega)).mono fun u h6 hu=>?_
   obtain⟨rfl,s6⟩:=hu
   have k6:Zi (fun c=>c=sC∨F1 c) h5 h6:=(kk.trans (Zi.of s6 fun c=>c=sC∨F1 c)).mono fun c h=>by rcases h with h|h<;>exact h
   have gx6:=s6.get gx
   have lx6:=lx'.mono s6
   cases hall:S[i].all fun x=>mT t x (p:Int) with
   |false=>
    simp(disch:=omega)only[go_sem,t1,t2,t3,t4,t5,t17,t18,Bool.not_false,Zc]
    exact⟨_,_,x',rfl,k6,s6.wf,gx6,lx6,fun i' h1=>by
     by_cases e:i'=i
     ·subst e;rw[egd,hall];rfl
     ·exact hno i' yea,(by simp[t1]<;>rfl),(by simp[t2]<;>rfl),(by simp[t3]<;>rfl),(by simp[t4]<;>rfl),(by simp[t5]<;>rfl),(by simp[t17]<;>rfl),yee⟩
   |true=>
    have s7:=(H.Sub.refl s6.wf).add (.bk [.ii (p:Int)])
    have own1:Zg (h6.add (.bk [.ii (p:Int)])) (.sl h6.next 0 1 (.fix 1)) 1 [encI (p:Int)]:=Ye
    have n7:(h6.add (.bk [.ii (p:Int)])).next=h6.next+1:=H.next_add _ _
    have k67:Zi (Zk v) hh (h6.add (.bk [.ii (p:Int)])):=Zi.of (s6.trans s7) _
    have gl5:=kk.1
    have n6:=s6.next
    have g1S:=s6.cells g1'
    simp(disch:=omega)only[go_sem,t1,t2,t3,t4,t5,t17,t18,Bool.not_true,Zb gx6,e1,s6.cells (Zb e2),e4,g1S]
    refine(cv.mono (s6.trans s7)).app1 (by_:=8) (r:=encI (p:Int)) s7.wf (F1a _ yea) rfl yea own1 rfl yed yed fun v' h8 cv8 nb8 k8 w8=>?_
    have kv8:Zi (Zk v) hh h8:=(k67.trans k8).mono fun c h=>by rcases h with h|h<;>exact h
    have ea:S[i].map encI++[encI (p:Int)]=(S[i]++[(p:Int)]).map encI:=by simp
    rw[ea] at cv8
    obtain⟨cs',put8,l8⟩:=upd v' _ h8 kv8 cv8 fun c hc=>(nb8 c hc).imp id fun h=>by omega
    rw[eS_set] at l8
    have e28:=kv8.2 _ _ e2 nbv
    have hpc:putC (some (.cells kd cs)) h8 b o [v']=some (h8.set b (.cells kd cs')):=by rcases e3 with rfl|rfl<;>simp only[putC_rw,putC_gr,put8,setO_some]
    have ov8:=cv8.one
    have bF:∀c,Zk v c→F1 c:=fun c hc=>(cv.blk hc).1
    have gx8:=kv8.2 _ _ gx fun h0=>absurd rfl (F1n _ (bF _ h0)).2.2.2.1
    have kS:Zi (fun c=>c=sC∨F1 c) h5 (h8.set b (.cells kd cs')):=((kk.trans kv8).trans (Zi.set h8 b (.cells kd cs'))).mono fun c h=>by
     rcases h with(h|h)|h
     ·exact h
     ·exact .inr (bF c h)
     ·exact .inr (by rw[h];exact Fb)
    have wS:=H.wf_set w8 (.cells kd cs') e28
    have gxS:(h8.set b (.cells kd cs')).get sC=some (.bk [x']):=by rw[get_set_other (fun h0=>by have:=F1n _ Fb;omega)];exact gx8
    have g18:=kv8.cells g1' fun h0=>absurd rfl (F1n _ (bF _ h0)).2.2.2.2.2
    have gPS:=cell kS gP1 (.inr (.inr (.inl rfl)))
    have g1S':=cell kS g1 (.inr (.inr (.inr rfl)))
    have w1:wr .i64 ((p:Int)+1)=((p+1:Nat):Int):=Zc yea
    simp(disch:=omega)only[go_sem,t1,t2,t3,t4,t5,t17,t18,Zb gx8,e28,hpc,ov8,cells_one ov8,Zb e28,e1,e4,g18,g1S,Zb gx6,s6.cells (Zb e2),s7.cells (s6.cells (Zb e2)),s7.cells (Zb gx6),s7.cells g1S]
    generalize h8.set b (.cells kd cs')=hS at l8 kS wS gxS gPS g1S'⊢
    simp(disch:=omega)only[go_sem,t1,t2,t3,t4,t5,t17,t18,gPS,g1S',w1]
    have hmS:∀l∈S.set i (S[i]++[(p:Int)]),l.length≤p+1∧∀a∈l,0≤a∧a<((p+1:Nat):Int):=fun l hl0=>by
     rcases List.mem_or_eq_of_mem_set hl0 with h1|rfl
     ·have:=hm l h1
      exact⟨by omega,fun a ha=>by have:=this.2 a ha;omega⟩
     ·refine⟨by simp;omega,fun a ha=>?_⟩
      rcases List.mem_append.1 ha with h1|h1
      ·have:=hmi.2 a h1;omega
      ·rw[List.mem_singleton] at h1;omega
    refine ih (p+1) (S.set i (S[i]++[(p:Int)])) (fun c=>F1 c∧c<hS.next) hS x' yea yeg hmS (sub0 kS wS) (fun c hc=>by have:=F1n c hc.1;exact⟨this.1,this.2.1,this.2.2.1,this.2.2.2.1,this.2.2.2.2.1,hc.2⟩) (cell kS gD1 (.inl rfl)) (cell kS gM1 (.inr (.inl rfl))) gPS gxS (l8.up fun c hc h1=>⟨hc,h1⟩) _ fun h9 x9 r k9 w9 gx9 l9 e9=>?_
    have l9:ZL F1 h9 x9 (eS (r.getD (S.set i (S[i]++[(p:Int)])))):=l9.up fun c hc _=>hc.elim (fun h=>h.1) fun h=>F1a _ (by have:=kS.1;omega)
    have k59:Zi (fun c=>c=sC∨F1 c) h5 h9:=(kS.trans k9).mono fun c h=>by
     rcases h with h|h|h
     ·exact h
     ·exact .inl h
     ·exact .inr h.1
    have hcond:(S[i].all fun x=>mT t x (p:Int))=true:=hall
    have here:(if((S.getD i []).all fun x=>mT t x (p:Int))=true then XR (mT t) most k (p+1) (S.set i (S.getD i []++[(p:Int)])) else none)=r:=by rw[egd,if_pos hcond];exact e9
    cases r with
    |some r'=>
     simp(disch:=omega)only[go_sem,t1,t2,t3,t4,t5,t17,t18,Option.isSome_some]
     refine fin h9 x9 (some r') k59 w9 gx9 l9 ?_
     unfold XR
     rw[YG here hno S.length hi]
    |none=>
     rw[Option.getD_none] at l9
     have hi9:i<(eS (S.set i (S[i]++[(p:Int)]))).length:=by simp;exact hi
     obtain⟨b9,o9,kd9,cs9,v9,f1,f2,f3,f4,cv9,bx9,nbv9,Fb9,upd9⟩:=l9.at yef hi9
     have eSi9:(eS (S.set i (S[i]++[(p:Int)])))[i]=S[i].map encI++[encI (p:Int)]:=by simp[eS]
     rw[eSi9] at cv9
     have lv9:q_len v9=some (.ii (((S[i].length+1:Nat):Int))):=by
      have:=cv9.sl yef
      rw[this.len];simp
     obtain⟨y,hy1,hy2,hy3⟩:=cv9.pop yea yef
     rw[List.length_map] at hy1
     obtain⟨cs9',put9,l10⟩:=upd9 y _ h9 (Zi.refl _ _) hy2 fun c hc=>.inl (hy3 c hc)
     rw[eS_set,List.set_set,List.set_getElem_self] at l10
     have hpc9:putC (some (.cells kd9 cs9)) h9 b9 o9 [y]=some (h9.set b9 (.cells kd9 cs9')):=by rcases f3 with rfl|rfl<;>simp only[putC_rw,putC_gr,put9,setO_some]
     have oy:=hy2.one
     have lm1:((S[i].length+1:Nat):Int)-1=(S[i].length:Int):=by omega
     have k10:Zi (fun c=>c=sC∨F1 c) h5 (h9.set b9 (.cells kd9 cs9')):=(k59.trans (Zi.set h9 b9 (.cells kd9 cs9'))).mono fun c h=>by
      rcases h with h|h
      ·exact h
      ·exact .inr (by rw[h];exact Fb9)
     have gx10:(h9.set b9 (.cells kd9 cs9')).get sC=some (.bk [x9]):=by rw[get_set_other (fun h0=>by have:=F1n _ Fb9;omega)];exact gx9
     simp(disch:=omega)only[go_sem,t1,t2,t3,t4,t5,t17,t18,Option.isSome_none,Zb gx9,f1,Zb f2,f4,lv9,lm1,ZC,evQ_slc,q_slc_to,hy1,f2,hpc9,oy,cells_one oy,Zc]
     exact⟨_,_,x9,rfl,k10,H.wf_set w9 _ f2,gx10,l10,fun i' h1=>by
      by_cases e:i'=i
      ·subst e;exact here
      ·exact hno i' yea,(by simp[t1]<;>rfl),(by simp[t2]<;>rfl),(by simp[t3]<;>rfl),(by simp[t4]<;>rfl),(by simp[t5]<;>rfl),(by simp[t17]<;>rfl),yee⟩
  ·rintro s ⟨tm,hh,x',rfl,kk,wh,gx,lx',hno,t1,t2,t3,t4,t5,t17,t18⟩
   simp(disch:=omega)only[go_sem,t1,t2,t3,t4,t5,t17,t18,Int.lt_irrefl]
   have hno:=List.findSome?_eq_none_iff.2 fun i hi=>hno i (List.mem_range.1 hi)
   have lenx':=lx'.len (by rw[List.length_map];omega)
   rw[List.length_map] at lenx'
   have gM':=cell kk gM1 (.inr (.inl rfl))
   have g1':=cell kk g1 (.inr (.inr (.inr rfl)))
   by_cases hmo:S.length=most
   ·have hd1:decide ((S.length:Int)=(most:Int))=true:=decide_eq_true yea
    simp(disch:=omega)only[go_sem,t2,t3,t4,t5,Zb gx,lenx',gM',hd1]
    refine fin hh x' none kk wh gx lx' ?_
    unfold XR
    rw[hno]
    simp only
    rw[if_pos hmo]
   ·have hd1:decide ((S.length:Int)=(most:Int))=false:=decide_eq_false yea
    have sA:=(H.Sub.refl wh).add (.bk [.ii (p:Int)])
    have sB:=sA.add (.bk [.sl hh.next 0 1 (.fix 1)])
    simp(disch:=omega)only[go_sem,t2,t3,t4,t5,Zb gx,lenx',gM',hd1,g1']
    have nA:(hh.add (.bk [.ii (p:Int)])).next=hh.next+1:=H.next_add _ _
    have gl5:=kk.1
    have bxF:∀c,Zk x' c→F1 c:=fun c hc=>by
     obtain⟨xs,a1,_⟩:=lx'
     exact(a1.blk hc).1
    have ov:Yo F1 ((hh.add (.bk [.ii (p:Int)])).add (.bk [.sl hh.next 0 1 (.fix 1)])) (.sl hh.next 0 1 (.fix 1)) 1 [encI (p:Int)]:=
     ⟨by simp[encI],.inr (.inr ⟨hh.next,1,[],rfl,F1a _ yea,by rw[H.next_add,H.next_add];omega,by rw[ZW yea,Zn rfl];rfl,by simp,by simp⟩)⟩
    have hy:Zg ((hh.add (.bk [.ii (p:Int)])).add (.bk [.sl hh.next 0 1 (.fix 1)])) (.sl (hh.next+1) 0 1 (.fix 1)) 1 [[.sl hh.next 0 1 (.fix 1)]]:=Zg.new _ nA.symm rfl rfl yec yec
    refine lx'.push sB (F1a _ (by rw[H.next_add,H.next_add];omega)) yef ov (fun b ⟨_,_,_,e⟩=>by cases e;exact Nat.le_refl _) hy fun x2 h8 l8 k8 nb8 w8=>?_
    have gx8:=k8.2 _ _ (sB.get gx) fun h0=>absurd rfl (F1n _ (bxF _ h0)).2.2.2.1
    have gP8:=k8.cells (sB.cells (cell kk gP1 (.inr (.inr (.inl rfl))))) fun h0=>absurd rfl (F1n _ (bxF _ h0)).2.2.2.2.1
    have g18:=k8.cells (sB.cells g1') fun h0=>absurd rfl (F1n _ (bxF _ h0)).2.2.2.2.2
    have ex2:x2.one=true:=l8.one
    have el8:eS S++[[encI (p:Int)]]=eS (S++[[(p:Int)]]):=by simp[eS]
    rw[el8] at l8
    have kS:Zi (fun c=>c=sC∨F1 c) h5 (h8.set sC (.bk [x2])):=(((kk.trans (Zi.of sB fun _=>False)).trans k8).trans (Zi.set h8 sC (.bk [x2]))).mono fun c h=>by
     rcases h with((h|h)|h)|h
     ·exact h
     ·exact h.elim
     ·exact .inr (bxF c h)
     ·exact .inl h
    have wS:=H.wf_set w8 (.bk [x2]) gx8
    have lS:ZL F1 (h8.set sC (.bk [x2])) x2 (eS (S++[[(p:Int)]])):=l8.keep (Zi.set h8 sC (.bk [x2])) fun b hb _=>(F1n _ hb).2.2.2.1
    have gxS:(h8.set sC (.bk [x2])).get sC=some (.bk [x2]):=get_set_same rfl
    have gPS:=cell kS gP1 (.inr (.inr (.inl rfl)))
    have g1S':=cell kS g1 (.inr (.inr (.inr rfl)))
    have w1:wr .i64 ((p:Int)+1)=((p+1:Nat):Int):=Zc yea
    simp(disch:=omega)only[go_sem,t2,t3,t4,t5,gx8,ex2,cells_one ex2]
    generalize h8.set sC (.bk [x2])=hS at kS wS lS gxS gPS g1S'⊢
    simp(disch:=omega)only[go_sem,t2,t3,t4,t5,gP8,g18,gPS,g1S',w1]
    have hmS:∀l∈S++[[(p:Int)]],l.length≤p+1∧∀a∈l,0≤a∧a<((p+1:Nat):Int):=fun l hl0=>by
     rcases List.mem_append.1 hl0 with h1|h1
     ·have:=hm l h1
      exact⟨by omega,fun a ha=>by have:=this.2 a ha;omega⟩
     ·rw[List.mem_singleton] at h1
      subst h1
      exact⟨by simp,fun a ha=>by rw[List.mem_singleton] at ha;omega⟩
    refine ih (p+1) (S++[[(p:Int)]]) (fun c=>F1 c∧c<hS.next) hS x2 yea yef hmS (sub0 kS wS) (fun c hc=>by have:=F1n c hc.1;exact⟨this.1,this.2.1,this.2.2.1,this.2.2.2.1,this.2.2.2.2.1,hc.2⟩) (cell kS gD1 (.inl rfl)) (cell kS gM1 (.inr (.inl rfl))) gPS gxS (lS.up fun c hc h1=>⟨hc,h1⟩) _ fun h9 x9 r k9 w9 gx9 l9 e9=>?_
    have l9:ZL F1 h9 x9 (eS (r.getD (S++[[(p:Int)]]))):=l9.up fun c hc _=>hc.elim (fun h=>h.1) fun h=>F1a _ (by have:=kS.1;omega)
    have k59:Zi (fun c=>c=sC∨F1 c) h5 h9:=(kS.trans k9).mono fun c h=>by
     rcases h with h|h|h
     ·exact h
     ·exact .inl h
     ·exact .inr h.1
    have epR:XR (mT t) most (k+1) p S=r:=by
     unfold XR
     rw[hno]
     simp only
     rw[if_neg hmo];exact e9
    cases r with
    |some r'=>
     simp(disch:=omega)only[go_sem,t2,t3,t4,t5,Option.isSome_some]
     exact fin h9 x9 (some r') k59 w9 gx9 l9 epR
    |none=>
     rw[Option.getD_none,←el8] at l9
     obtain⟨y,hy1,hy2,hy3⟩:=l9.pop yef
     rw[List.length_map] at hy1
     have oy:=hy2.one
     have ln9:q_len x9=some (.ii ((S.length+1:Nat):Int)):=by rw[l9.len yef];simp
     have lm1:((S.length+1:Nat):Int)-1=(S.length:Int):=by omega
     have k10:Zi (fun c=>c=sC∨F1 c) h5 (h9.set sC (.bk [y])):=(k59.trans (Zi.set h9 sC (.bk [y]))).mono fun c h=>by
      rcases h with h|h
      ·exact h
      ·exact .inl h
     have l10:ZL F1 (h9.set sC (.bk [y])) y (eS S):=hy2.keep (Zi.set h9 sC (.bk [y])) fun b hb _=>(F1n _ hb).2.2.2.1
     simp(disch:=omega)only[go_sem,t2,t3,t4,t5,Option.isSome_none,Zb gx9,ln9,lm1,ZC,evQ_slc,q_slc_to,hy1,gx9,oy,cells_one oy]
     exact fin _ y none k10 (H.wf_set w9 _ gx9) (get_set_same rfl) l10 epR
theorem sorting_ev {h:H}(hw:h.wf){d:Nat}{t:Tb}(hd:Ws h d t)(g:Good t){m:Nat}(hm:m≤20)(Q:V→H→Prop)
  (q:∀x h',h.Sub h'→ZL (fun b=>h.next≤b) h' x (eS ((XR (mT t) m t.pieces.length 0 []).getD []))→Q (.tup [x,.bool (XR (mT t) m t.pieces.length 0 []).isSome]) h'):Ev fnG Zm (.fn 79 [] []) [.ptr d 0,.ii (m:Int)] h Q:=by
 have sA:h.Sub ((((h.add (.bk [.ptr d 0])).add (.bk [.ii (m:Int)])).add (.bk [.nils])).add (.bk [.fn 130 [] [.ptr h.next 0,.ptr (h.next+1+1) 0,.ptr (h.next+1+1+1) 0,.ptr (h.next+1) 0]])):=((((H.Sub.refl hw).add _).add _).add _).add _
 have c1:((((h.add (.bk [.ptr d 0])).add (.bk [.ii (m:Int)])).add (.bk [.nils])).add (.bk [.fn 130 [] [.ptr h.next 0,.ptr (h.next+1+1) 0,.ptr (h.next+1+1+1) 0,.ptr (h.next+1) 0]])).cells h.next=some [.ptr d 0]:=by simp(disch:=first|omega|simp only[nZ]<;>omega|fail)only[go_sem]
 have c2:((((h.add (.bk [.ptr d 0])).add (.bk [.ii (m:Int)])).add (.bk [.nils])).add (.bk [.fn 130 [] [.ptr h.next 0,.ptr (h.next+1+1) 0,.ptr (h.next+1+1+1) 0,.ptr (h.next+1) 0]])).cells (h.next+1)=some [.ii (m:Int)]:=by simp(disch:=first|omega|simp only[nZ]<;>omega|fail)only[go_sem]
 have c3:((((h.add (.bk [.ptr d 0])).add (.bk [.ii (m:Int)])).add (.bk [.nils])).add (.bk [.fn 130 [] [.ptr h.next 0,.ptr (h.next+1+1) 0,.ptr (h.next+1+1+1) 0,.ptr (h.next+1) 0]])).get (h.next+1+1)=some (.bk [.nils]):=by simp(disch:=first|omega|simp only[nZ]<;>omega|fail)only[go_sem]
 have c4:((((h.add (.bk [.ptr d 0])).add (.bk [.ii (m:Int)])).add (.bk [.nils])).add (.bk [.fn 130 [] [.ptr h.next 0,.ptr (h.next+1+1) 0,.ptr (h.next+1+1+1) 0,.ptr (h.next+1) 0]])).cells (h.next+1+1+1)=some [.fn 130 [] [.ptr h.next 0,.ptr (h.next+1+1) 0,.ptr (h.next+1+1+1) 0,.ptr (h.next+1) 0]]:=by simp(disch:=first|omega|simp only[nZ]<;>omega|fail)only[go_sem]
 refine Zd (fd:=c79) rfl rfl rfl ?_
 simp(disch:=first|omega|simp only[nZ]<;>omega|fail)only[c79,go_sem]
 generalize((((h.add (.bk [.ptr d 0])).add (.bk [.ii (m:Int)])).add (.bk [.nils])).add (.bk [.fn 130 [] [.ptr h.next 0,.ptr (h.next+1+1) 0,.ptr (h.next+1+1+1) 0,.ptr (h.next+1) 0]]))=h4 at sA c1 c2 c3 c4⊢
 refine sortput_ev hw hd g (dC:=h.next) (mC:=h.next+1) (sC:=h.next+1+1) (pC:=h.next+1+1+1) (most:=m) yea yea yea yea hm t.pieces.length 0 [] (fun _=>False) h4 .nils yea yec yec sA (fun c hc=>hc.elim) c1 c2 c4 c3 (ZL.nil _ _) _ fun h' x' r k' w' g' l' e=>?_
 subst e
 simp(disch:=first|omega|simp only[nZ]<;>omega|fail)only[go_sem,Zb g']
 have l4:=sA.next
 exact q x' h' (k'.sub sA hw (fun c hc=>by rcases hc with h0|h0;omega;exact h0.elim) w') (l'.up fun b hb _=>hb.elim (fun h=>h.elim) fun h=>by omega)
set_option maxHeartbeats 1000000 in
theorem Sort_ev {h:H}{v:V}{t:Tb}(hw:h.wf)(ht:ZK h v t)(Q:V→H→Prop)
  (q:∀y h',h.Sub h'→ZL (fun b=>h.next≤b) h' y (eS (if check t=0 then(sortR (mT t) t.pieces.length).getD [] else[]))→Q (.tup [y,.ii (check t)]) h'):Ev fnG Zm (.fn 19 [] []) [v] h Q:=by
 have ht0:=ht
 obtain⟨E,L,P,rfl,aE,aL,aP⟩:=ht
 refine Zd (fd:=c19) rfl rfl rfl ?_
 have s1:h.Sub (h.add (.bk [E,L,P])):=yeb
 have g1:(h.add (.bk [E,L,P])).cells h.next=some [E,L,P]:=Zf rfl
 have n1:(h.add (.bk [E,L,P])).next=h.next+1:=H.next_add _ _
 simp(disch:=omega)only[c19,go_sem]
 refine ZP s1.wf (ht0.mono s1) _ (fun h5 s45 c=>?_) fun h5 d s15 c g hd=>?_
 ·simp(disch:=omega)only[go_sem,ne_eq,c,not_false_eq_true]
  exact q _ _ (s1.trans s45) (by rw[if_neg c];exact ZL.nil _ _)
 have s5:=s1.trans s15
 have gp:=g.pieces
 have hlP:=aP.lenE
 rw[c,if_pos rfl] at q
 simp(disch:=omega)only[go_sem,ne_eq,not_true_eq_false,s15.cells g1,hlP,Zc]
 refine W.mono (Q:=fun x1 s=>x1=.ext 0∧∃tm h' y,s=⟨tm,h',[]⟩∧h5.Sub h'∧ZL (fun b=>h.next≤b) h' y (eS ((sortR (mT t) t.pieces.length).getD []))∧tm.E 6=y)
  (Zh (t.pieces.length+1) (fun k s=>∃tm h',s=⟨tm,h',[]⟩∧h5.Sub h'∧(∀m,m<k→XR (mT t) m t.pieces.length 0 []=none)∧
   tm.E 4=.ptr d 0∧tm.E 6=.nils∧tm.E 21=.ii ((t.pieces.length+1:Nat):Int)∧tm.E 22=.ii (k:Int))
  ?_ ?_ (i:=0) (Nat.zero_le _) ⟨_,_,rfl,H.Sub.refl s15.wf,fun m hm=>by omega,yee,yee,yee,yee⟩) fun x1 s hx1=>?_
 ·rintro k s hk ⟨tm,h',rfl,hs,hno,t4,t6,t21,t22⟩
  have hk':(k:Int)<((t.pieces.length+1:Nat):Int):=by omega
  simp(disch:=omega)only[go_sem,t4,t6,t21,t22,hk']
  refine sorting_ev hs.wf (hd.mono hs) g yea _ fun x h6 s6 lx=>?_
  have lb:=hs.next
  have lb2:=s15.next
  cases hr:XR (mT t) k t.pieces.length 0 [] with
  |some r=>
   rw[hr] at lx
   simp(disch:=omega)only[go_sem,t4,t6,t21,t22,Option.isSome_some]
   refine⟨_,_,x,rfl,hs.trans s6,?_,yee⟩
   have e:sortR (mT t) t.pieces.length=some r:=YG hr hno _ hk
   rw[e]
   exact lx.up fun b hb _=>by omega
  |none=>
   simp(disch:=omega)only[go_sem,t4,t6,t21,t22,Option.isSome_none,Zc]
   exact⟨_,_,rfl,hs.trans s6,fun m hm=>by
    by_cases e:m=k
    ·subst e;exact hr
    ·exact hno m yea,(by simp[t4]<;>rfl),(by simp[t6]<;>rfl),(by simp[t21]<;>rfl),yee⟩
 ·rintro s ⟨tm,h',rfl,hs,hno,t4,t6,t21,t22⟩
  simp(disch:=omega)only[go_sem,t4,t6,t21,t22,Int.lt_irrefl]
  refine⟨_,_,_,rfl,hs,?_,(by simp[t6]<;>rfl)⟩
  have e:sortR (mT t) t.pieces.length=none:=Vr hno
  rw[e]
  exact ZL.nil _ _
 obtain⟨rfl,tm,h',y,rfl,hs,ly,t6⟩:=hx1
 simp(disch:=omega)only[go_sem,t6]
 exact q y _ (s5.trans hs) ly
end Go.Ab.Tryz
namespace Go.Ab.Tryz
open Go.Ab.Silk (YA Inc ZI XB Vx)
structure LastIs (P:List Int→Bool)(n m:Nat)(c:List Int):Prop where
 inc:Inc n 0 c
 holds:P c=true
 pos:0<c.length
 le:c.length≤m
 max:∀d,Inc n 0 d→P d=true→d.length≤m→d.length<c.length∨(d.length=c.length∧(d=c∨ZI c d=true))
theorem lastOf_spec (P:List Int→Bool)(n:Nat):∀m,(∃c,lastOf P n m=some c∧LastIs P n m c)∨(lastOf P n m=none∧∀d,Inc n 0 d→P d=true→d.length≤m→d=[])
 |0=>.inr ⟨rfl,fun d _ _ h=>List.length_eq_zero_iff.1 yea⟩
 |m+1=>by
  have hm:∀d,d∈YA (m+1) n 0↔d.length=m+1∧Inc n 0 d:=fun d=>by rw[XB,Int.zero_add]
  simp only[lastOf]
  cases hf:(YA (m+1) n 0).find? P with
  |some c=>
   obtain⟨m1,m2,m3⟩:=Vx P (m+1) n 0 hf
   obtain⟨c1,c2⟩:=(hm c).1 m1
   refine .inl ⟨c,rfl,c2,m2,by omega,by omega,fun d h1 h2 h3=>?_⟩
   by_cases e:d.length=m+1
   ·exact .inr ⟨by omega,m3 d ((hm d).2 ⟨e,h1⟩) h2⟩
   ·exact .inl yea
  |none=>
   have hno:∀d,Inc n 0 d→P d=true→d.length≠m+1:=fun d h1 h2 e=>by
    have:=List.find?_eq_none.1 hf d ((hm d).2 ⟨e,h1⟩)
    exact this h2
   rcases lastOf_spec P n m with⟨c,e,a⟩|⟨e,a⟩
   ·exact .inl ⟨c,e,a.inc,a.holds,a.pos,by have:=a.le;omega,fun d h1 h2 h3=>a.max d h1 h2 (by have:=hno d h1 h2;omega)⟩
   ·exact .inr ⟨e,fun d h1 h2 h3=>a d h1 h2 (by have:=hno d h1 h2;omega)⟩
end Go.Ab.Tryz
namespace Go.Ab.Tryz
open Go.Ab.Silk (YA Inc ZI XB Vx Yb Wq VK before)
theorem Inc.pw {hi:Int}:∀{i:Int} {l:List Int},Inc hi i l→l.Pairwise (· < ·)
 |_,[],_=>List.Pairwise.nil
 |i,a::l,h=>List.Pairwise.cons (fun x hx=>by have:=h.2.2.mem x hx;omega) (Inc.pw h.2.2)
theorem Inc.nd {hi i:Int}{l:List Int}(h:Inc hi i l):l.Nodup:=(Inc.pw h).imp fun h=>by omega
theorem Inc.of {hi:Int}:∀{i:Int} {l:List Int},l.Pairwise (· < ·)→(∀x∈l,i≤x∧x<hi)→Inc hi i l
 |_,[],_,_=>trivial
 |i,a::l,h,hr=>by
  rw[List.pairwise_cons] at h
  have ha:=hr a yec
  exact⟨ha.1,ha.2,Inc.of h.2 fun x hx=>by have:=h.1 x hx;have:=hr x (by simp[hx]);omega⟩
theorem inc_of {n:Nat}{d:List Int}(nd:d.Nodup)(hr:∀x∈d,0≤x∧x<(n:Int)):∃c:List Int,Inc n 0 c∧c.length=d.length∧∀x,x∈c↔x∈d:=by
 have hm:∀x,x∈(upto n).filter (fun x=>decide (x∈d))↔x∈d:=fun x=>by
  rw[List.mem_filter,Yf,decide_eq_true_eq]
  exact⟨fun h=>h.2,fun h=>⟨hr x h,h⟩⟩
 have pw:((upto n).filter (fun x=>decide (x∈d))).Pairwise (· < ·):=by
  refine List.Pairwise.filter _ ?_
  unfold upto
  rw[List.pairwise_map]
  exact List.pairwise_lt_range.imp fun h=>by omega
 have inc:=Inc.of (i:=0) pw fun x hx=>hr x ((hm x).1 hx)
 exact⟨_,inc,((List.perm_ext_iff_of_nodup (Inc.nd inc) nd).2 hm).length_eq,hm⟩
theorem nodup_len {n:Nat}{d:List Int}(nd:d.Nodup)(hr:∀x∈d,0≤x∧x<(n:Int)):d.length≤n:=by
 obtain⟨c,inc,l,_⟩:=inc_of nd hr
 have:=inc.len yea
 omega
def Clq (T:Int→Int→Bool)(d:List Int):Prop:=∀x∈d,∀y∈d,x≠y→T x y=true
theorem mostP_iff {T:Int→Int→Bool}{d:List Int}:Yv T (fun _=>true) d=true↔Clq T d:=by
 unfold Yv Clq
 simp only[Bool.true_and,List.all_eq_true,Bool.or_eq_true,decide_eq_true_eq]
 constructor
 ·intro h x hx y hy hne
  exact(h x hx y hy).resolve_left hne
 ·intro h x hx y hy
  by_cases e:x=y
  ·exact .inl e
  ·exact .inr (h x hx y hy e)
def chi (T:Int→Int→Bool)(n:Nat):Nat:=((sortR T n).getD []).length
theorem chi_le {T:Int→Int→Bool}{n m:Nat}{g:Int→Nat}(h:Col T n m g):chi T n≤m:=by
 obtain⟨S,e,_,hm⟩:=VO T n
 unfold chi
 rw[e];exact hm m g h
theorem chi_col {T:Int→Int→Bool}(sy:∀x y,T x y=T y x)(n:Nat):∃g,Col T n (chi T n) g:=by
 obtain⟨S,e,a,_⟩:=VO T n
 obtain⟨g,hg,_⟩:=a.col sy
 exact⟨g,by unfold chi;rw[e];exact hg⟩
def few (t:Tb):Option (List Int):=Yb (Zw t) t.eyes.length (t.eyes.length+1) 0
theorem tellP_mem {t:Tb}{r p:Nat}{e:Int}(h:e∈Yt t r p):0≤e∧e<(t.eyes.length:Int):=by
 unfold Yt at h
 split at h
 ·exact tellK_mem h
 ·cases h
theorem enoughB_iff {t:Tb}{l:List Int}:Zw t l=true↔∀p r,p<t.pieces.length→r<p→Yt t r p≠[]→∃e∈Yt t r p,e∈l:=by
 unfold Zw Xi
 simp only[List.all_eq_true,List.mem_range,Bool.or_eq_true,decide_eq_true_eq,List.any_eq_true,List.length_eq_zero_iff]
 constructor
 ·intro h p r hp hr hne
  rcases h p hp r hr with h|⟨e,he,y,hy,rfl⟩
  ·exact absurd h hne
  ·exact⟨_,he,hy⟩
 ·intro h p hp r hr
  by_cases e:Yt t r p=[]
  ·exact .inl e
  ·obtain⟨x,hx,hl⟩:=h p r hp hr e
   exact .inr ⟨x,hx,x,hl,rfl⟩
theorem few_some (t:Tb):∃c,few t=some c∧VK (Zw t) t.eyes.length c:=by
 rcases Wq (Zw t) t.eyes.length (t.eyes.length+1) 0 yea (fun d _ h=>by omega) with h|⟨_,h⟩
 ·exact h
 ·have inc:Inc t.eyes.length 0 (upto t.eyes.length):=Inc.of (by
   unfold upto
   rw[List.pairwise_map]
   exact List.pairwise_lt_range.imp fun h=>by omega) fun x hx=>Yf.1 hx
  have hh:=h _ inc
  have:Zw t (upto t.eyes.length)=true:=enoughB_iff.2 fun p r hp hr hne=>by
   obtain⟨e,he⟩:=List.exists_mem_of_ne_nil _ hne
   exact⟨e,he,Yf.2 (tellP_mem he)⟩
  rw[hh] at this;cases this
theorem mT_comm {t:Tb}(g:Good t)(x y:Int):mT t x y=mT t y x:=MM_comm g y.toNat x.toNat
end Go.Ab.Tryz
namespace Go.Ab.Tryz
open Go.Ab.Silk (Inc Zo VE YV)
def sAt (s:Int):Nat→Int
 |0=>s
 |k+1=>sAt s k/2
theorem sAt_nn {s:Int}(h:0≤s):∀k,0≤sAt s k
 |0=>h
 |k+1=>by have:=sAt_nn h k;simp only[sAt];omega
theorem sAt_le {s:Int}(h:0≤s):∀k,sAt s k≤s
 |0=>Int.le_refl _
 |k+1=>by have:=sAt_le h k;have:=sAt_nn h k;simp only[sAt];omega
theorem sAt_half (s:Int):∀k,sAt (s/2) k=sAt s (k+1)
 |0=>rfl
 |k+1=>by have:=sAt_half s k;simp only[sAt] at *;omega
def VF (s:Int):Nat→Bool:=fun k=>decide (sAt s k%2=1)
def lst (c:Nat→Bool):Nat→List Int
 |0=>[]
 |n+1=>lst c n++if c n=true then[(n:Int)] else[]
theorem lst_len (c:Nat→Bool):∀n,(lst c n).length≤n
 |0=>Nat.le_refl _
 |n+1=>by have:=lst_len c n;simp only[lst,List.length_append];split<;>simp<;>omega
theorem bitsL_snoc:∀(k:Nat) (s i:Int),Zo (k+1) s i=Zo k s i++if VF s k=true then[i+(k:Int)] else[]
 |0,s,i=>by
  by_cases h:s%2=1<;>simp[Zo,VF,sAt,h]
 |k+1,s,i=>by
  have ih:=bitsL_snoc k (s/2) (i+1)
  have e:VF (s/2) k=VF s (k+1):=by unfold VF;rw[sAt_half]
  have e2:i+1+(k:Int)=i+((k+1:Nat):Int):=by omega
  rw[e,e2] at ih
  rw[show Zo (k+1+1) s i=if s%2=1 then i::Zo (k+1) (s/2) (i+1) else Zo (k+1) (s/2) (i+1) from rfl,show Zo (k+1) s i=if s%2=1 then i::Zo k (s/2) (i+1) else Zo k (s/2) (i+1) from rfl,ih]
  split<;>simp
theorem lst_bits (s:Int):∀n,lst (VF s) n=Zo n s 0
 |0=>rfl
 |n+1=>by rw[bitsL_snoc,←lst_bits s n];simp[lst]
theorem pow_le {i:Nat}(h:i≤10):2^i≤1024:=Nat.le_trans (Nat.pow_le_pow_right yea h) (by decide)
theorem lst_stop {s:Int}{i:Nat}(h:sAt s i=0):∀m,i≤m→lst (VF s) m=lst (VF s) i∧sAt s m=0
 |0,hm=>by
  have:i=0:=by omega
  subst this;exact⟨rfl,h⟩
 |m+1,hm=>by
  by_cases e:i=m+1
  ·subst e;exact⟨rfl,h⟩
  ·obtain⟨h1,h2⟩:=lst_stop h m yea
   have hb:VF s m=false:=by unfold VF;rw[h2];rfl
   exact⟨by simp[lst,h1,hb],by simp only[sAt];omega⟩
theorem sAt_zero:∀(n:Nat) {s:Int},0≤s→s<2^n→sAt s n=0
 |0,s,h0,h1=>by simp only[sAt];simp at h1;omega
 |n+1,s,h0,h1=>by
  rw[←sAt_half]
  exact sAt_zero n yea (by rw[Int.pow_succ] at h1;omega)
theorem lst_all {s:Int}{n i:Nat}(h0:0≤s)(h1:s<2^n)(h:sAt s i=0):lst (VF s) i=Zo n s 0:=by
 rw[←lst_bits]
 have hn:=sAt_zero n h0 h1
 by_cases c:i≤n
 ·exact(lst_stop h n c).1.symm
 ·exact(lst_stop hn i yea).1
def val:List Int→Int
 |[]=>0
 |x::l=>2^x.toNat+val l
theorem val_app:∀a b,val (a++b)=val a+val b
 |[],b=>by simp[val]
 |x::a,b=>by simp only[List.cons_append,val,val_app a b];omega
theorem val_nn:∀l,0≤val l
 |[]=>Int.le_refl _
 |x::l=>by have:=val_nn l;have:(0:Int)<2^x.toNat:=Int.pow_pos (by decide);simp only[val];omega
theorem bits_val:∀(k i:Nat) {s:Int},0≤s→s<2^k→val (Zo k s (i:Int))=2^i*s
 |0,i,s,h0,h1=>by
  simp at h1
  have:s=0:=by omega
  subst this;simp[Zo,val]
 |k+1,i,s,h0,h1=>by
  have h2:s/2<2^k:=by rw[Int.pow_succ] at h1;omega
  have ih:=bits_val k (i+1) (s:=s/2) yea h2
  have e:((i+1:Nat):Int)=(i:Int)+1:=by omega
  rw[e] at ih
  rw[show Zo (k+1) s (i:Int)=if s%2=1 then(i:Int)::Zo k (s/2) ((i:Int)+1) else Zo k (s/2) ((i:Int)+1) from rfl]
  have e2:(2:Int)^(i+1)*(s/2)=2^i*(2*(s/2)):=by rw[Int.pow_succ,Int.mul_assoc]
  split
  ·rename_i c
   simp only[val,ih,Int.toNat_natCast,e2]
   have:(2:Int)^i+2^i*(2*(s/2))=2^i*(1+2*(s/2)):=by rw[Int.mul_add,Int.mul_one]
   rw[this];congr 1;omega
  ·rename_i c
   rw[ih,e2];congr 1;omega
theorem bits_val0 {n:Nat}{s:Int}(h0:0≤s)(h1:s<2^n):val (Zo n s 0)=s:=by
 have:=bits_val n 0 h0 h1
 simpa using this
theorem val_bits {n:Nat}{d:List Int}(h:Inc n 0 d):val d<2^n∧Zo n (val d) 0=d:=by
 obtain⟨s,h0,h1,e⟩:=YV n 0 d (by rw[Int.zero_add];exact h)
 have:=bits_val0 h0 h1
 rw[e] at this
 rw[this];exact⟨h1,e⟩
theorem Xq (n:Nat)(s:Int):Inc n 0 (Zo n s 0):=by have:=VE n s 0;rwa[Int.zero_add] at this
theorem inc_upto (n:Nat):Inc n 0 (upto n):=Inc.of (by
   unfold upto
   rw[List.pairwise_map]
   exact List.pairwise_lt_range.imp fun h=>by omega) fun x hx=>Yf.1 hx
theorem upto_succ (n:Nat):upto (n+1)=upto n++[(n:Int)]:=by unfold upto;rw[List.range_succ,List.map_append];rfl
theorem val_upto:∀n,val (upto n)=2^n-1
 |0=>rfl
 |n+1=>by rw[upto_succ,val_app,val_upto n,Int.pow_succ];simp only[val,Int.toNat_natCast];omega
theorem bits_full (n:Nat):Zo n (2^n-1) 0=upto n:=by
 have:=(val_bits (inc_upto n)).2
 rwa[val_upto] at this
theorem val_filter (c:Int→Bool):∀l,val l=val (l.filter c)+val (l.filter fun x=> !c x)
 |[]=>rfl
 |x::l=>by
  have ih:=val_filter c l
  cases h:c x<;>simp[List.filter_cons,h,val,ih]<;>omega
theorem Inc.filt {n:Nat}{l:List Int}(h:Inc n 0 l)(c:Int→Bool):Inc n 0 (l.filter c):=
 Inc.of ((Inc.pw h).filter _) fun x hx=>h.mem x (List.mem_filter.1 hx).1
theorem inc_ext:∀{a b:List Int},a.Pairwise (· < ·)→b.Pairwise (· < ·)→(∀x,x∈a↔x∈b)→a=b
 |[],b,_,_,h=>(List.eq_nil_iff_forall_not_mem.2 fun x hx=>by have:=(h x).2 hx;simp at this).symm
 |x::a,[],_,_,h=>by have:=(h x).1 yec;simp at this
 |x::a,y::b,ha,hb,h=>by
  rw[List.pairwise_cons] at ha hb
  have e:x=y:=by
   have h1:=(h x).1 yec
   have h2:=(h y).2 yec
   rcases List.mem_cons.1 h1 with e|h1
   ·exact e
   ·rcases List.mem_cons.1 h2 with e|h2
    ·exact e.symm
    ·have:=hb.1 x h1;have:=ha.1 y h2;omega
  subst e
  rw[inc_ext ha.2 hb.2 fun z=>?_]
  constructor
  ·intro hz
   rcases List.mem_cons.1 ((h z).1 (by simp[hz])) with e|h1
   ·have:=ha.1 z hz;omega
   ·exact h1
  ·intro hz
   rcases List.mem_cons.1 ((h z).2 (by simp[hz])) with e|h1
   ·have:=hb.1 z hz;omega
   ·exact h1
def pickI (l:List Int)(one:List Int):List Int:=one.map fun i=>l.getD i.toNat 0
theorem pick_at {l one:List Int}(inc:Inc l.length 0 one){i:Int}(h:i∈one):∃hi:i.toNat<l.length,l.getD i.toNat 0=l[i.toNat]:=by
 have:=inc.mem i h
 have hi:i.toNat<l.length:=by omega
 exact⟨hi,by rw[List.getD_eq_getElem?_getD,List.getElem?_eq_getElem hi,Option.getD_some]⟩
theorem pick_mem {l one:List Int}(inc:Inc l.length 0 one){x:Int}(h:x∈pickI l one):x∈l:=by
 obtain⟨i,hi,rfl⟩:=List.mem_map.1 h
 obtain⟨h1,e⟩:=pick_at inc hi
 rw[e];exact List.getElem_mem h1
theorem pick_pw {l one:List Int}(pw:l.Pairwise (· < ·))(inc:Inc l.length 0 one):(pickI l one).Pairwise (· < ·):=by
 unfold pickI
 rw[List.pairwise_map]
 refine(Inc.pw inc).imp_of_mem fun{a b} ha hb hab=>?_
 obtain⟨h1,e1⟩:=pick_at inc ha
 obtain⟨h2,e2⟩:=pick_at inc hb
 have:=inc.mem a ha
 rw[e1,e2]
 exact List.pairwise_iff_getElem.1 pw a.toNat b.toNat h1 h2 yea
theorem pick_filter {l one:List Int}(pw:l.Pairwise (· < ·))(inc:Inc l.length 0 one):pickI l one=l.filter fun x=>decide (x∈pickI l one):=
 inc_ext (pick_pw pw inc) (pw.filter _) fun x=>by
  rw[List.mem_filter,decide_eq_true_eq]
  exact⟨fun h=>⟨pick_mem inc h,h⟩,fun h=>h.2⟩
theorem filter_pick {l:List Int}(pw:l.Pairwise (· < ·))(c:Int→Bool):∃one,Inc l.length 0 one∧pickI l one=l.filter c∧∀i:Nat,(hi:i<l.length)→((i:Int)∈one↔c l[i]=true):=by
 refine⟨(upto l.length).filter fun i=>c (l.getD i.toNat 0),Inc.filt (inc_upto _) _,?_,fun i hi=>?_⟩
 ·refine inc_ext (pick_pw pw (Inc.filt (inc_upto _) _)) (pw.filter _) fun x=>?_
  rw[List.mem_filter]
  constructor
  ·intro h
   obtain⟨i,hi,rfl⟩:=List.mem_map.1 h
   obtain⟨h1,h2⟩:=List.mem_filter.1 hi
   have h1:=Yf.1 h1
   refine⟨?_,h2⟩
   rw[List.getD_eq_getElem?_getD,List.getElem?_eq_getElem yea];exact List.getElem_mem _
  ·rintro⟨h1,h2⟩
   obtain⟨i,hi,rfl⟩:=List.getElem_of_mem h1
   refine List.mem_map.2 ⟨(i:Int),List.mem_filter.2 ⟨Yf.2 ⟨by omega,by omega⟩,?_⟩,?_⟩
   ·rw[Int.toNat_natCast,List.getD_eq_getElem?_getD,List.getElem?_eq_getElem hi,Option.getD_some];exact h2
   ·rw[Int.toNat_natCast,List.getD_eq_getElem?_getD,List.getElem?_eq_getElem hi,Option.getD_some]
 ·rw[List.mem_filter,Int.toNat_natCast,List.getD_eq_getElem?_getD,List.getElem?_eq_getElem hi,Option.getD_some]
  exact⟨fun h=>h.2,fun h=>⟨Yf.2 ⟨by omega,by omega⟩,h⟩⟩
def ColL (T:Int→Int→Bool)(l:List Int)(m:Nat):Prop:=∃g:Int→Nat,(∀x∈l,g x<m)∧∀x∈l,∀y∈l,x≠y→g x=g y→T x y=true
theorem colL_nil (T:Int→Int→Bool)(m:Nat):ColL T [] m:=⟨fun _=>0,(fun x h=>by cases h),fun x h=>by cases h⟩
theorem colL_big {T:Int→Int→Bool}{n m:Nat}{l:List Int}(inc:Inc n 0 l)(h:n≤m):ColL T l m:=
 ⟨fun x=>x.toNat,fun x hx=>by have:=inc.mem x hx;dsimp only;omega,fun x hx y hy hne e=>by have:=inc.mem x hx;have:=inc.mem y hy;dsimp only at e;omega⟩
theorem colL_step {T:Int→Int→Bool}{l:List Int}{a:Int}(ha:a∈l)(m:Nat):ColL T l m↔∃c:Int→Bool,c a=true∧Clq T (l.filter c)∧1≤m∧ColL T (l.filter fun x=> !c x) (m-1):=by
 constructor
 ·rintro⟨g,h1,h2⟩
  have hga:=h1 a ha
  refine⟨fun x=>decide (g x=g a),by simp,fun x hx y hy hne=>?_,by omega,fun x=>if g x=m-1 then g a else g x,fun x hx=>?_,fun x hx y hy hne e=>?_⟩
  ·obtain⟨x1,x2⟩:=List.mem_filter.1 hx
   obtain⟨y1,y2⟩:=List.mem_filter.1 hy
   simp only[decide_eq_true_eq] at x2 y2
   exact h2 x x1 y y1 hne yea
  ·obtain⟨x1,x2⟩:=List.mem_filter.1 hx
   simp only[Bool.not_eq_true',decide_eq_false_iff_not] at x2
   have:=h1 x x1
   dsimp only
   split<;>omega
  ·obtain⟨x1,x2⟩:=List.mem_filter.1 hx
   obtain⟨y1,y2⟩:=List.mem_filter.1 hy
   simp only[Bool.not_eq_true',decide_eq_false_iff_not] at x2 y2
   refine h2 x x1 y y1 hne ?_
   dsimp only at e
   split at e<;>split at e<;>omega
 ·rintro⟨c,c1,c2,hm,g,h1,h2⟩
  refine⟨fun x=>if c x=true then m-1 else g x,fun x hx=>?_,fun x hx y hy hne e=>?_⟩
  ·dsimp only
   split
   ·omega
   ·rename_i cx
    have:=h1 x (List.mem_filter.2 ⟨hx,by simpa using cx⟩)
    omega
  ·dsimp only at e
   by_cases cx:c x=true
   ·by_cases cy:c y=true
    ·exact c2 x (List.mem_filter.2 ⟨hx,cx⟩) y (List.mem_filter.2 ⟨hy,cy⟩) hne
    ·have:=h1 y (List.mem_filter.2 ⟨hy,by simpa using cy⟩)
     rw[if_pos cx,if_neg cy] at e;omega
   ·by_cases cy:c y=true
    ·have:=h1 x (List.mem_filter.2 ⟨hx,by simpa using cx⟩)
     rw[if_neg cx,if_pos cy] at e;omega
    ·rw[if_neg cx,if_neg cy] at e
     exact h2 x (List.mem_filter.2 ⟨hx,by simpa using cx⟩) y (List.mem_filter.2 ⟨hy,by simpa using cy⟩) hne e
theorem colL_chi {T:Int→Int→Bool}(sy:∀x y,T x y=T y x){n m:Nat}:ColL T (upto n) m↔chi T n≤m:=by
 constructor
 ·rintro⟨g,h1,h2⟩
  exact chi_le (g:=g) ⟨fun x a b=>h1 x (Yf.2 ⟨a,b⟩),fun x y a b c d hne e=>h2 x (Yf.2 ⟨a,b⟩) y (Yf.2 ⟨c,d⟩) hne e⟩
 ·intro h
  obtain⟨g,g1,g2⟩:=chi_col sy n
  refine⟨g,fun x hx=>?_,fun x hx y hy hne e=>?_⟩
  ·have hx:=Yf.1 hx
   have:=g1 x hx.1 hx.2;omega
  ·have hx:=Yf.1 hx
   have hy:=Yf.1 hy
   exact g2 x y hx.1 hx.2 hy.1 hy.2 hne e
end Go.Ab.Tryz
namespace Go.Ab
theorem Yo.to {F:Nat→Prop}{h:H}{x:V}{sz k:Nat}{rows:List (List V)}(a:Yo F h x sz rows)(hsz:0<sz)(hl:rows.length≤1000000)(hk:k≤rows.length):
  ∃y,W6 h sz x (.ii (k:Int))=some y∧Yo F h y sz (rows.take k)∧∀b,Zk y b→Zk x b:=by
 have hi:∀tm,(Opd.c (.ii (k:Int))).ev tm=.ii (k:Int):=fun _=>rfl
 obtain⟨a1,a2⟩:=a
 have hr:∀r∈rows.take k,r.length=sz:=fun r' hr=>a1 r' (List.mem_of_mem_take hr)
 have hlt:(rows.take k).length=k:=by rw[List.length_take];omega
 have fl:=Zr a1
 have fl2:=Zr hr
 rw[hlt] at fl2
 have esp:rows.flatten=(rows.take k).flatten++(rows.drop k).flatten:=by rw[←List.flatten_append,List.take_append_drop]
 have hml:=Nat.mul_le_mul_right sz hk
 have fld:(rows.drop k).flatten.length=rows.length*sz-k*sz:=by
  have:=congrArg List.length esp
  rw[List.length_append,fl,fl2] at this;omega
 rcases a2 with⟨rfl,rfl⟩|⟨b,rest,j,rfl,l1,l2,hb,hrest⟩|⟨b,c,rest,rfl,l1,l2,hb,hc,hlc⟩
 ·have hk0:k=0:=by simpa using hk
  subst hk0
  refine⟨.nils,?_,⟨by simp,.inl ⟨rfl,rfl⟩⟩,fun b h=>h⟩
  have e1:Nat.ble 0 0=true:=rfl
  simp only[W6,YD,XI,XA,hi,Xc,bnds,e1,Zy]
 ·rw[esp,List.append_assoc] at hb
  have e1:Nat.ble 0 k=true:=by simp
  have hall:((rows.take k).flatten++((rows.drop k).flatten++rest)).length=(rows.length+j)*sz:=by rw[List.length_append,List.length_append,fl2,fld,hrest,Nat.add_mul];omega
  have e2:Nat.ble k (rows.length+j)=true:=by simp;omega
  have e3:Nat.ble (rows.length+j) (rows.length+j)=true:=by simp
  have e5:Nat.beq sz sz=true:=by simp
  have e6:Nat.beq 0 (0*sz)=true:=by simp
  have e7:Nat.ble (0+rows.length*sz) ((rows.take k).flatten++((rows.drop k).flatten++rest)).length=true:=by rw[hall,Nat.ble_eq,Nat.zero_add];exact Nat.mul_le_mul_right _ yea
  have e8:Yj h b 0 sz=rows.length+j:=by simp only[Yj,hb,ZE,hall,Nat.sub_zero];exact Nat.mul_div_cancel _ hsz
  have hcut:Yo F h (.sl b 0 k (.slk 0 0)) sz (rows.take k):=by
   refine⟨hr,.inr (.inl ⟨b,(rows.drop k).flatten++rest,rows.length-k+j,by rw[hlt],l1,l2,hb,?_⟩)⟩
   rw[List.length_append,fld,hrest,Nat.add_mul,Nat.sub_mul]
  by_cases h0:0<rows.length+k
  ·have e4:Nat.blt 0 (rows.length+k)=true:=by rw[Nat.blt_eq];omega
   refine⟨.sl b (0+0*sz) k (.slk (0+0) 0),?_,by rw[Nat.zero_mul];exact hcut,?_⟩
   ·simp only[W6,YD,W5,hb,e5,e6,ZE,e7,Zy,XI,XA,hi,Xc,bnds,e1,e2,e3,subS,e4,e8,Nat.sub_zero]
   ·rintro b' ⟨_,_,_,e⟩;cases e;exact⟨_,_,_,rfl⟩
  ·have k0:k=0:=by omega
   have r0:rows.length=0:=by omega
   have e4:Nat.blt 0 (rows.length+k)=false:=by rw[k0,r0];rfl
   refine⟨.sl b 0 0 (.slk 0 0),?_,by rw[k0] at hcut⊢;exact hcut,?_⟩
   ·simp only[W6,YD,W5,hb,e5,e6,ZE,e7,Zy,XI,XA,hi,Xc,bnds,e1,e2,e3,subS,e4,e8,Nat.sub_zero]
   ·rintro b' ⟨_,_,_,e⟩;cases e;exact⟨_,_,_,rfl⟩
 ·rw[esp,List.append_assoc] at hb
  refine⟨.sl b (YU (Nat.beq c 0) 0 (0+0*sz)) k (.fix c),?_,?_,?_⟩
  ·simp only[W6,YD]
   rw[subO_to (hi _) hk hlc]
  ·have:YU (Nat.beq c 0) 0 (0+0*sz)=0:=by cases Nat.beq c 0<;>simp[YU]
   rw[this]
   exact⟨hr,.inr (.inr ⟨b,c,(rows.drop k).flatten++rest,by rw[hlt],l1,l2,hb,by rw[List.length_append,fld,hlt];omega,by omega⟩)⟩
  ·rintro b' ⟨_,_,_,e⟩;cases e;exact⟨_,_,_,rfl⟩
end Go.Ab
namespace Go.Ab.Tryz
open Go.Ab.Silk (Inc)
end Go.Ab.Tryz
namespace Go.Ab.Tryz
open Go.Ab.Silk (Inc ZI)
theorem isNaN_eq (a:Int)(h:H)(R:V→H→Prop):Ev fnG Zm (.fn 170 [] []) [.ii a] h R=R (.bool false) h:=by
 refine Ev.det (Zd (fd:=c170) rfl rfl rfl ?_) R
 simp(disch:=omega)only[c170,go_sem,ne_eq,not_true_eq_false,not_false_eq_true]
theorem less_eq (a b:Int)(h:H)(Q:V→H→Prop):Ev fnG Zm (.fn 165 [] []) [.ii a,.ii b] h Q=Q (.bool (decide (a<b))) h:=by
 refine Ev.det (Zd (fd:=c165) rfl rfl rfl ?_) Q
 simp(disch:=omega)only[c165,go_sem,isNaN_eq]
theorem adj_pw {R:Int→Int→Prop}(tr:∀a b c,R a b→R b c→R a c):∀{l:List Int},(∀i (h:i+1<l.length),R l[i] l[i+1])→l.Pairwise R
 |[],_=>List.Pairwise.nil
 |[a],_=>by simp
 |a::b::l,h=>by
  have ih:=adj_pw tr (l:=b::l) fun i hi=>h (i+1) (by simpa using hi)
  rw[List.pairwise_cons] at ih⊢
  have hab:R a b:=h 0 yec
  exact⟨fun x hx=>by
   rcases List.mem_cons.1 hx with rfl|hx
   ·exact hab
   ·exact tr _ _ _ hab (ih.1 x hx),List.pairwise_cons.2 ih⟩
theorem isSorted_ev {h:H}{x:V}{l:List Int}(hx:Zg h x 1 (l.map encI))(Q:V→H→Prop):Ev fnG Zm (.fn 132 [] []) [x] h Q=Q (.bool (decide (l.Pairwise (· ≤ ·)))) h:=by
 have hlx:=hx.lenE
 have hbd:=hx.boundE
 refine Ev.det (Zd (fd:=c132) rfl rfl rfl ?_) Q
 have ew0:wr .i64 ((l.length:Int)-1)=(l.length:Int)-1:=ZC yea yea
 simp(disch:=omega)only[c132,go_sem,hlx]
 refine Wi (fun k s=>∃(tm:Go.Ab.T V) (i:Int),s=⟨tm,h,[]⟩∧k=(i+1).toNat∧ -1≤i∧i<l.length∧(i= -1→l.length=0)∧(∀j (hj:j+1<l.length),i<((j+1:Nat):Int)→l[j]≤l[j+1])∧tm.E 0=x∧tm.E 3=.ii i) ?_ l.length _ ⟨_,(l.length:Int)-1,rfl,by omega,by omega,by omega,by omega,fun j hj h0=>by omega,yec,(by simp[ew0])⟩
 rintro k s ⟨tm,i,rfl,hk,i0,i1,i2,hord,t0,t3⟩
 by_cases hi:0<i
 ·obtain⟨n,rfl⟩:∃n:Nat,i=((n+1:Nat):Int):=⟨(i-1).toNat,by omega⟩
  have hn1:n+1<l.length:=by omega
  have hn0:n<l.length:=by omega
  obtain⟨b1,o1,c1,cs1,rfl,hc1,hq1,hg1,hn1',hn01⟩:=hx.at hn1
  obtain⟨b2,o2,c2,cs2,e2,hc2,hq2,hg2,hn2',hn02⟩:=hx.at hn0
  have ew:wr .i64 (((n+1:Nat):Int)-1)=(n:Int):=by rw[ZC yea yea];omega
  by_cases hlt:l[n+1]<l[n]
  ·have hf:decide (l.Pairwise (· ≤ ·))=false:=decide_eq_false fun hp=>by
    have:=List.pairwise_iff_getElem.1 hp n (n+1) hn0 hn1 yea;omega
   have dl:decide (l[n+1]<l[n])=true:=decide_eq_true hlt
   simp(disch:=omega)only[go_sem,t0,t3,hi,hq1 (Ze (n+1)),hc1,hn01 yea,ew,hq2 (Ze n),hc2,hn02 yea,encI,less_eq,dl,hf]
  ·have dl:decide (l[n+1]<l[n])=false:=decide_eq_false hlt
   simp(disch:=omega)only[go_sem,t0,t3,hi,hq1 (Ze (n+1)),hc1,hn01 yea,ew,hq2 (Ze n),hc2,hn02 yea,encI,less_eq,dl]
   exact⟨n+1,by omega,_,(n:Int),rfl,by omega,by omega,by omega,by omega,fun j hj h0=>by
    by_cases e:j=n
    ·subst e;omega
    ·exact hord j hj yea,yeh,(by simp[ew])⟩
 ·have ht:decide (l.Pairwise (· ≤ ·))=true:=decide_eq_true (adj_pw (R:=fun a b=>a≤b) (fun a b c h1 h2=>Int.le_trans h1 h2) fun j hj=>hord j hj yea)
  simp(disch:=omega)only[go_sem,t0,t3,hi,ht]
end Go.Ab.Tryz
