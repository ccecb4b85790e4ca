/- Strangers, Greatest. Sortings into sets of which any two go together: the first one that is found, and that no fewer sets do. Plain. Slices of our own that are cut short and grow again; lists of them. Prices: a list is right; the price of a piece. Prices: where two lists differ. Prices: where two lists differ. slices.Delete of a rule; the witness of a rule. All rising lists of so many numbers, one by one, until one holds. Prices: the first of the shortest lists of numbers. Prices: the shortest list that gives the same prices. The eyes that tell two pieces apart, as the program finds them. enough: whether some eyes tell apart all that can be told apart. Fewest. most: the longest lists of pieces of which every two pass a test. -/
import Derived.Test.YtiabfecpoffidaaG2
import Derived.Test.YtiabfecpoffidaaPa5
import Derived.Test.YtiabfecpoffidaaG5
set_option linter.unusedSimpArgs false
set_option linter.unusedVariables false
namespace Go.Ab
def upto (p:Nat):List Int:=(List.range p).map fun i:Nat=>(i:Int)
theorem mem_upto {p:Nat}{x:Int}:x∈upto p↔0≤x∧x<(p:Int):=by
 unfold upto
 rw[List.mem_map]
 constructor
 ·rintro⟨i,hi,rfl⟩
  have:=List.mem_range.1 hi;omega
 ·intro h
  exact⟨x.toNat,List.mem_range.2 (by omega),by omega⟩
theorem upto_succ (p:Nat):upto (p+1)=upto p++[(p:Int)]:=by unfold upto;rw[List.range_succ,List.map_append];rfl
theorem upto_len (p:Nat):(upto p).length=p:=by simp[upto]
theorem upto_nodup (p:Nat):(upto p).Nodup:=by
 unfold upto
 rw[List.Nodup,List.pairwise_map]
 exact(List.nodup_range).imp fun h=>by omega
structure Srt (T:Int→Int→Bool)(p:Nat)(S:List (List Int)):Prop where
 ne:∀l∈S,l≠[]
 up:∀l∈S,l.Pairwise (· < ·)
 go:∀l∈S,l.Pairwise fun a b=>T a b=true
 all:S.flatten.Perm (upto p)
theorem Srt.nil (T:Int→Int→Bool):Srt T 0 []:=⟨by simp,by simp,by simp,by simp[upto]⟩
theorem Srt.mem {T:Int→Int→Bool}{p:Nat}{S:List (List Int)}(a:Srt T p S){l:List Int}(hl:l∈S){x:Int}(hx:x∈l):0≤x∧x<(p:Int):=
 mem_upto.1 (a.all.mem_iff.1 (List.mem_flatten.2 ⟨l,hl,hx⟩))
theorem Srt.at {T:Int→Int→Bool}{p:Nat}{S:List (List Int)}(a:Srt T p S){x:Int}(h0:0≤x)(h1:x<(p:Int)):∃l∈S,x∈l:=
 List.mem_flatten.1 (a.all.mem_iff.2 (mem_upto.2 ⟨h0,h1⟩))
theorem Srt.len {T:Int→Int→Bool}{p:Nat}{S:List (List Int)}(a:Srt T p S):S.flatten.length=p:=by rw[a.all.length_eq,upto_len]
theorem Srt.ins {T:Int→Int→Bool}{p:Nat}{S:List (List Int)}(a:Srt T p S){i:Nat}(hi:i<S.length)(h:∀x∈S[i],T x (p:Int)=true):Srt T (p+1) (S.set i (S[i]++[(p:Int)])):=by
 have hm:=List.getElem_mem hi
 refine⟨fun l hl=>?_,fun l hl=>?_,fun l hl=>?_,?_⟩
 ·rcases List.mem_or_eq_of_mem_set hl with h1|rfl
  ·exact a.ne l h1
  ·simp
 ·rcases List.mem_or_eq_of_mem_set hl with h1|rfl
  ·exact a.up l h1
  ·rw[List.pairwise_append]
   exact⟨a.up _ hm,by simp,fun x hx y hy=>by rw[List.mem_singleton] at hy;subst hy;exact(a.mem hm hx).2⟩
 ·rcases List.mem_or_eq_of_mem_set hl with h1|rfl
  ·exact a.go l h1
  ·rw[List.pairwise_append]
   exact⟨a.go _ hm,by simp,fun x hx y hy=>by rw[List.mem_singleton] at hy;subst hy;exact h x hx⟩
 ·rw[upto_succ,List.set_eq_take_append_cons_drop,if_pos hi]
  have e:S=S.take i++S[i]::S.drop (i+1):=by rw[←List.drop_eq_getElem_cons hi,List.take_append_drop]
  have h1:=a.all
  conv at h1=>lhs;rw[e]
  rw[List.flatten_append,List.flatten_cons] at h1⊢
  refine List.Perm.trans ?_ (h1.append_right [(p:Int)])
  rw[List.append_assoc,List.append_assoc,List.append_assoc]
  refine List.Perm.append_left _ (List.Perm.append_left _ ?_)
  exact List.perm_append_comm
theorem Srt.new {T:Int→Int→Bool}{p:Nat}{S:List (List Int)}(a:Srt T p S):Srt T (p+1) (S++[[(p:Int)]]):=by
 refine⟨fun l hl=>?_,fun l hl=>?_,fun l hl=>?_,?_⟩
 ·rcases List.mem_append.1 hl with h1|h1
  ·exact a.ne l h1
  ·rw[List.mem_singleton] at h1;subst h1;simp
 ·rcases List.mem_append.1 hl with h1|h1
  ·exact a.up l h1
  ·rw[List.mem_singleton] at h1;subst h1;simp
 ·rcases List.mem_append.1 hl with h1|h1
  ·exact a.go l h1
  ·rw[List.mem_singleton] at h1;subst h1;simp
 ·rw[upto_succ,List.flatten_append]
  exact List.Perm.append_right _ a.all
def putR (T:Int→Int→Bool)(most:Nat):Nat→Nat→List (List Int)→Option (List (List Int))
 |0,_,S=>some S
 |k+1,p,S=>match(List.range S.length).findSome? fun i=>if((S.getD i []).all fun x=>T x (p:Int))=true then putR T most k (p+1) (S.set i (S.getD i []++[(p:Int)])) else none with
  |some r=>some r
  |none=>if S.length=most then none else putR T most k (p+1) (S++[[(p:Int)]])
theorem putR_srt {T:Int→Int→Bool}{most:Nat}:∀{k p S r},Srt T p S→S.length≤most→putR T most k p S=some r→Srt T (p+k) r∧r.length≤most
 |0,p,S,r,a,hl,h=>by
  simp only[putR,Option.some.injEq] at h
  subst h;exact⟨a,hl⟩
 |k+1,p,S,r,a,hl,h=>by
  simp only[putR] at h
  have e:p+(k+1)=p+1+k:=by omega
  rw[e]
  cases hf:(List.range S.length).findSome? fun i=>if((S.getD i []).all fun x=>T x (p:Int))=true then putR T most k (p+1) (S.set i (S.getD i []++[(p:Int)])) else none with
  |some r'=>
   rw[hf] at h
   simp only[Option.some.injEq] at h
   subst h
   obtain⟨i,hi,h1⟩:=List.exists_of_findSome?_eq_some hf
   have hi:=List.mem_range.1 hi
   have eg:S.getD i []=S[i]:=by rw[List.getD_eq_getElem?_getD,List.getElem?_eq_getElem hi];rfl
   rw[eg] at h1
   split at h1
   ·rename_i hc
    exact putR_srt (a.ins hi fun x hx=>List.all_eq_true.1 hc x hx) (by rw[List.length_set];exact hl) h1
   ·cases h1
  |none=>
   rw[hf] at h
   simp only at h
   split at h
   ·cases h
   ·exact putR_srt a.new (by simp;omega) h
def Col (T:Int→Int→Bool)(n m:Nat)(g:Int→Nat):Prop:=(∀x,0≤x→x<(n:Int)→g x<m)∧∀x y,0≤x→x<(n:Int)→0≤y→y<(n:Int)→x≠y→g x=g y→T x y=true
theorem putR_some {T:Int→Int→Bool}{most n:Nat}:∀{k p S},p+k=n→S.length≤most→(∀l∈S,∀x∈l,0≤x∧x<(p:Int))→(∃g,Col T n most g∧∀i (hi:i<S.length),∀x∈S[i],g x=i)→∃r,putR T most k p S=some r
 |0,p,S,_,_,_,_=>⟨S,rfl⟩
 |k+1,p,S,hk,hl,hm,⟨g,⟨g1,g2⟩,g3⟩=>by
  simp only[putR]
  cases hf:(List.range S.length).findSome? fun i=>if((S.getD i []).all fun x=>T x (p:Int))=true then putR T most k (p+1) (S.set i (S.getD i []++[(p:Int)])) else none with
  |some r'=>exact⟨r',rfl⟩
  |none=>
   have hp1:(p:Int)<(n:Int):=by omega
   have hno:=List.findSome?_eq_none_iff.1 hf
   by_cases hc:g (p:Int)<S.length
   ·exfalso
    have h1:=hno (g p) (List.mem_range.2 hc)
    have eg:S.getD (g p) []=S[g p]:=by rw[List.getD_eq_getElem?_getD,List.getElem?_eq_getElem hc];rfl
    rw[eg] at h1
    have hall:(S[g p].all fun x=>T x (p:Int))=true:=List.all_eq_true.2 fun x hx=>by
     have hr:=hm _ (List.getElem_mem hc) x hx
     exact g2 x p hr.1 (by omega) (by omega) hp1 (by omega) (g3 _ hc x hx)
    rw[if_pos hall] at h1
    obtain⟨r,hr⟩:=putR_some (T:=T) (most:=most) (n:=n) (k:=k) (p:=p+1) (S:=S.set (g p) (S[g p]++[(p:Int)])) (by omega) (by rw[List.length_set];exact hl)
     (fun l hl x hx=>by
      rcases List.mem_or_eq_of_mem_set hl with h2|rfl
      ·have:=hm l h2 x hx;omega
      ·rcases List.mem_append.1 hx with h2|h2
       ·have:=hm _ (List.getElem_mem hc) x h2;omega
       ·rw[List.mem_singleton] at h2;omega)
     ⟨g,⟨g1,g2⟩,fun i hi x hx=>by
      rw[List.length_set] at hi
      by_cases e:g p=i
      ·subst e
       rw[List.getElem_set_self] at hx
       rcases List.mem_append.1 hx with h2|h2
       ·exact g3 _ hc x h2
       ·rw[List.mem_singleton] at h2;rw[h2]
      ·rw[List.getElem_set_ne e] at hx
       exact g3 i hi x hx⟩
    rw[hr] at h1;cases h1
   ·have hgm:=g1 p (by omega) hp1
    simp only
    rw[if_neg (by omega)]
    refine putR_some (n:=n) (by omega) (by simp;omega) (fun l hl x hx=>?_) ⟨fun x=>if g x=g p then S.length else if g x=S.length then g p else g x,⟨fun x h0 h1=>?_,fun x y a0 a1 b0 b1 hne he=>?_⟩,fun i hi x hx=>?_⟩
    ·rcases List.mem_append.1 hl with h2|h2
     ·have:=hm l h2 x hx;omega
     ·rw[List.mem_singleton] at h2;subst h2;rw[List.mem_singleton] at hx;omega
    ·have:=g1 x h0 h1
     dsimp only
     split
     ·omega
     ·split
      ·exact hgm
      ·exact this
    ·refine g2 x y a0 a1 b0 b1 hne ?_
     dsimp only at he
     split at he<;>split at he<;>(try split at he)<;>(try split at he)<;>omega
    ·rw[List.length_append,List.length_singleton] at hi
     dsimp only
     by_cases e:i<S.length
     ·rw[List.getElem_append_left e] at hx
      have:=g3 i e x hx
      rw[if_neg (by omega),if_neg (by omega)];exact this
     ·have e2:i=S.length:=by omega
      subst e2
      have:x=(p:Int):=by simpa using hx
      rw[this,if_pos rfl]
def sortR (T:Int→Int→Bool)(n:Nat):Option (List (List Int)):=(List.range (n+1)).findSome? fun m=>putR T m n 0 []
theorem putR_col {T:Int→Int→Bool}{n m:Nat}{g:Int→Nat}(a:Col T n m g):∃r,putR T m n 0 []=some r:=putR_some (by omega) (Nat.zero_le _) (by simp) ⟨g,a,fun i hi=>by simp at hi⟩
theorem Srt.col {T:Int→Int→Bool}(sy:∀x y,T x y=T y x){n:Nat}{S:List (List Int)}(a:Srt T n S):∃g,Col T n S.length g∧∀x,0≤x→x<(n:Int)→∃h:g x<S.length,x∈S[g x]:=by
 have hx:∀x:Int,∃i,0≤x→x<(n:Int)→∃h:i<S.length,x∈S[i]:=fun x=>by
  by_cases h:0≤x∧x<(n:Int)
  ·obtain⟨l,hl,hxl⟩:=a.at h.1 h.2
   obtain⟨i,hi,rfl⟩:=List.getElem_of_mem hl
   exact⟨i,fun _ _=>⟨hi,hxl⟩⟩
  ·exact⟨0,fun h0 h1=>absurd ⟨h0,h1⟩ h⟩
 refine⟨fun x=>(hx x).choose,⟨fun x h0 h1=>((hx x).choose_spec h0 h1).1,fun x y a0 a1 b0 b1 hne he=>?_⟩,fun x h0 h1=>(hx x).choose_spec h0 h1⟩
 obtain⟨h1,h2⟩:=(hx x).choose_spec a0 a1
 obtain⟨h3,h4⟩:=(hx y).choose_spec b0 b1
 dsimp only at he
 have h2':x∈S[(hx y).choose]:=by simpa only[he] using h2
 obtain⟨i,hi,ei⟩:=List.getElem_of_mem h2'
 obtain⟨k,hk,ek⟩:=List.getElem_of_mem h4
 have pw:=List.pairwise_iff_getElem.1 (a.go _ (List.getElem_mem h3))
 rcases Nat.lt_trichotomy i k with h|h|h
 ·have:=pw i k hi hk h;rw[ei,ek] at this;exact this
 ·subst h;exact absurd (ei.symm.trans ek) hne
 ·have:=pw k i hk hi h;rw[ei,ek] at this;rw[sy];exact this
theorem sortR_spec (T:Int→Int→Bool)(n:Nat):∃S,sortR T n=some S∧Srt T n S∧∀m g,Col T n m g→S.length≤m:=by
 obtain⟨r0,h0⟩:=putR_col (T:=T) (n:=n) (m:=n) (g:=fun x=>x.toNat) ⟨fun x h0 h1=>by dsimp only;omega,fun x y a0 a1 b0 b1 hne he=>by dsimp only at he;omega⟩
 cases hs:sortR T n with
 |none=>
  have:=List.findSome?_eq_none_iff.1 hs n (List.mem_range.2 (by omega))
  rw[h0] at this;cases this
 |some S=>
  obtain⟨l1,m,l2,e,h1,h2⟩:=List.findSome?_eq_some_iff.1 hs
  obtain⟨s1,s2⟩:=putR_srt (Srt.nil T) (Nat.zero_le _) h1
  rw[Nat.zero_add] at s1
  refine⟨S,rfl,s1,fun m' g a=>?_⟩
  obtain⟨r,hr⟩:=putR_col a
  have hml:m=l1.length:=by
   have:=congrArg (fun l=>l[l1.length]?) e
   simp only[List.getElem?_append_right (Nat.le_refl _),Nat.sub_self,List.getElem?_cons_zero] at this
   by_cases hlt:l1.length<n+1
   ·rw[List.getElem?_range hlt] at this;simpa using this.symm
   ·rw[List.getElem?_eq_none (by simp;omega)] at this;cases this
  have hrange:∀m'',m''<l1.length→m''∈l1:=fun m'' h=>by
   have:=congrArg (fun l=>l[m'']?) e
   have hl:=congrArg List.length e
   simp only[List.length_range,List.length_append,List.length_cons] at hl
   simp only[List.getElem?_append_left h] at this
   rw[List.getElem?_range (by omega),List.getElem?_eq_getElem h] at this
   simp only[Option.some.injEq] at this
   rw[this];exact List.getElem_mem h
  by_cases hlt:m'<m
  ·have:=h2 m' (hrange m' (by omega))
   rw[hr] at this;cases this
  ·omega
end Go.Ab
namespace Go.Ab
def CutO (F:Nat→Prop)(h:H)(x:V)(sz:Nat)(rows:List (List V)):Prop:=
 (∀r∈rows,r.length=sz)∧((x=.nils∧rows=[])∨(∃b rest j,x=.sl b 0 rows.length (.slk 0 0)∧F b∧b<h.next∧h.get b=some (.cells (.gr sz) (rows.flatten++rest))∧rest.length=j*sz)∨
  ∃b c rest,x=.sl b 0 rows.length (.fix c)∧F b∧b<h.next∧h.get b=some (.cells .rw (rows.flatten++rest))∧rows.length*sz+rest.length=c*sz∧rows.length≤c)
theorem OwnC.cutO {h0 h:H}{x:V}{sz:Nat}{rows:List (List V)}(a:OwnC h0 h x sz rows):CutO (fun b=>h0.next≤b) h x sz rows:=by
 refine⟨a.2.1,?_⟩
 rcases a.2.2 with a2|⟨b,e,l1,l2,hb⟩|⟨b,c,rest,e,l1,l2,hb,k⟩
 ·exact .inl a2
 ·exact .inr (.inl ⟨b,[],0,e,l1,l2,by rw[List.append_nil];exact hb,by simp⟩)
 ·exact .inr (.inr ⟨b,c,rest,e,l1,l2,hb,k⟩)
theorem CutO.sl {F:Nat→Prop}{h:H}{x:V}{sz:Nat}{rows:List (List V)}(a:CutO F h x sz rows)(hl:rows.length≤9223372036854775807):SlAt h x sz rows:=by
 obtain⟨a1,a2⟩:=a
 refine⟨a1,hl,?_⟩
 rcases a2 with a2|⟨b,rest,j,e,_,_,hb,_⟩|⟨b,c,rest,e,_,_,hb,_⟩
 ·exact .inl a2
 ·refine .inr ⟨b,0,_,_,e,.inr (cells_of hb),getN_eq.2 ⟨?_,?_⟩⟩
  ·rw[List.drop_zero,←flatten_len a1,List.take_left'];rfl
  ·rw[List.length_append,flatten_len a1];omega
 ·refine .inr ⟨b,0,_,_,e,.inr (cells_of hb),getN_eq.2 ⟨?_,?_⟩⟩
  ·rw[List.drop_zero,←flatten_len a1,List.take_left'];rfl
  ·rw[List.length_append,flatten_len a1];omega
theorem CutO.keep {F:Nat→Prop}{h h':H}{S:Nat→Prop}{x:V}{sz:Nat}{rows:List (List V)}(a:CutO F h x sz rows)(k:Keeps S h h')(n:∀b,blkOf x b→¬S b):CutO F h' x sz rows:=by
 obtain⟨a1,a2⟩:=a
 refine⟨a1,?_⟩
 rcases a2 with a2|⟨b,rest,j,e,l1,l2,hb,r⟩|⟨b,c,rest,e,l1,l2,hb,r⟩
 ·exact .inl a2
 ·exact .inr (.inl ⟨b,rest,j,e,l1,Nat.lt_of_lt_of_le l2 k.1,k.2 b _ hb (n b ⟨_,_,_,e⟩),r⟩)
 ·exact .inr (.inr ⟨b,c,rest,e,l1,Nat.lt_of_lt_of_le l2 k.1,k.2 b _ hb (n b ⟨_,_,_,e⟩),r⟩)
theorem CutO.mono {F:Nat→Prop}{h h':H}{x:V}{sz:Nat}{rows:List (List V)}(a:CutO F h x sz rows)(s:h.Sub h'):CutO F h' x sz rows:=a.keep (Keeps.of s fun _=>False) fun _ _=>id
theorem CutO.blk {F:Nat→Prop}{h:H}{x:V}{sz:Nat}{rows:List (List V)}(a:CutO F h x sz rows){b:Nat}(e:blkOf x b):F b∧b<h.next∧∃k cs,h.get b=some (.cells k cs)∧(k=.rw∨k=.gr sz):=by
 obtain⟨o,n,c,rfl⟩:=e
 rcases a.2 with⟨e,_⟩|⟨b',rest,j,e,l1,l2,hb,_⟩|⟨b',c,rest,e,l1,l2,hb,_⟩
 ·cases e
 ·cases e;exact⟨l1,l2,_,_,hb,.inr rfl⟩
 ·cases e;exact⟨l1,l2,_,_,hb,.inl rfl⟩
theorem CutO.one {F:Nat→Prop}{h:H}{x:V}{sz:Nat}{rows:List (List V)}(a:CutO F h x sz rows):x.one=true:=by
 rcases a.2 with⟨rfl,_⟩|⟨_,_,_,rfl,_⟩|⟨_,_,_,rfl,_⟩<;>rfl
theorem CutO.up {F F':Nat→Prop}{h:H}{x:V}{sz:Nat}{rows:List (List V)}(a:CutO F h x sz rows)(l:∀b,F b→b<h.next→F' b):CutO F' h x sz rows:=by
 obtain⟨a1,a2⟩:=a
 refine⟨a1,?_⟩
 rcases a2 with a2|⟨b,rest,j,e,l1,l2,hb,r⟩|⟨b,c,rest,e,l1,l2,hb,r⟩
 ·exact .inl a2
 ·exact .inr (.inl ⟨b,rest,j,e,l b l1 l2,l2,hb,r⟩)
 ·exact .inr (.inr ⟨b,c,rest,e,l b l1 l2,l2,hb,r⟩)
theorem CutO.app1 {F:Nat→Prop}{h:H}{x y:V}{sz by_:Nat}{rows:List (List V)}{r:List V}{Q:V→H→Prop}(a:CutO F h x sz rows)(hw:h.wf)(hlo:F h.next)(hsz:r.length=sz)(hp:0<sz)
  (hy:SlAt h y sz [r]) (ho:allOne r=true) (h1:(rows.length+1)*by_≤1099511627776) (h2:rows.length+1≤1099511627776)
  (q:∀x' h',CutO F h' x' sz (rows++[r])→(∀b,blkOf x' b→blkOf x b∨h.next≤b)→Keeps (blkOf x) h h'→h'.wf→Q x' h'):P2 (e_app' h sz by_ x y) Q:=by
 obtain⟨a1,a2⟩:=a
 have hall:∀r'∈rows++[r],r'.length=sz:=fun r' hr=>(List.mem_append.1 hr).elim (a1 r') fun h=>by rw[List.mem_singleton] at h;rw[h];exact hsz
 obtain⟨he,hl⟩:=hy.elems
 rw[e_app_eq,he,hl]
 simp only[ob_some,List.length_singleton,List.flatten_cons,List.flatten_nil,List.append_nil]
 obtain⟨v,vs,hv⟩:∃v vs,r=v::vs:=by
  cases r with
  |nil=>simp at hsz;omega
  |cons v vs=>exact⟨v,vs,rfl⟩
 have kadd:∀cs,Keeps (blkOf x) h (h.add cs):=fun cs=>⟨by rw[H.next_add];omega,fun c y hc _=>by rw[get_add_old (hw c y hc)];exact hc⟩
 have wadd:∀cs,(h.add cs).wf:=fun cs=>((H.Sub.refl hw).add cs).wf
 rcases a2 with⟨rfl,rfl⟩|⟨b,rest,j,rfl,l1,l2,hb,hr⟩|⟨b,c,rest,rfl,l1,l2,hb,hc,hlc⟩
 ·rw[e_app_nils,room_ok (by simpa using h1) (by simp),grown_eq,P2_some]
  exact q _ _ ⟨hall,.inr (.inl ⟨h.next,[],0,by simp,hlo,by rw[H.next_add];omega,by rw[get_add_new rfl];simp,by simp⟩)⟩ (fun b' ⟨_,_,_,e⟩=>by cases e;exact .inr (Nat.le_refl _)) (kadd _) (wadd _)
 ·cases j with
  |zero=>
   have hrest:rest=[]:=List.length_eq_zero_iff.1 (by rw[hr];simp)
   subst hrest
   rw[List.append_nil] at hb
   rw[e_app_slk hp hb (flatten_len a1) ho h1 h2,grownO_eq,P2_some]
   have hbn:h.next≠b:=by omega
   have wS:=H.wf_set (wadd (.cells (.gr sz) (rows.flatten++r))) (.old h.next 0 rows.flatten) (show(h.add (.cells (.gr sz) (rows.flatten++r))).get b=some (.cells (.gr sz) rows.flatten) by rw[get_add_old l2];exact hb)
   exact q _ _ ⟨hall,.inr (.inl ⟨h.next,[],0,by simp,hlo,by rw[H.next_set,H.next_add];omega,by rw[get_set_other hbn,get_add_new rfl];simp,by simp⟩)⟩ (fun b' ⟨_,_,_,e⟩=>by cases e;exact .inr (Nat.le_refl _))
    ⟨by rw[H.next_set,H.next_add];omega,fun c y hc hx=>by
     have hne:c≠b:=fun e=>hx ⟨_,_,_,by rw[e]⟩
     rw[get_set_other hne,get_add_old (hw c y hc)];exact hc⟩ wS
  |succ j=>
   have hlr:sz≤rest.length:=by rw[hr,Nat.add_mul];omega
   have hpn:putN (0+rows.length*sz) r (rows.flatten++rest)=some ((rows++[r]).flatten++rest.drop sz):=by
    have:=putN_app (pre:=rows.flatten) (new:=r) (old:=rest.take sz) (rest:=rest.drop sz) (by rw[List.length_take];omega)
    rw[List.append_assoc,List.take_append_drop,flatten_len a1] at this
    rw[Nat.zero_add,this];simp
   have e1:Nat.beq sz sz=true:=by simp
   have e3:Nat.beq 0 (0*sz)=true:=by simp
   have e4:Nat.ble (0+(rows.length+(0+1))*sz) (rows.flatten++rest).length=true:=by
    rw[Nat.ble_eq,List.length_append,flatten_len a1,Nat.add_mul];omega
   have eA:e_app h sz by_ (.sl b 0 rows.length (.slk 0 0)) (0+1) r=withV (.sl b 0 (rows.length+(0+1)) (.slk 0 0)) (h.put b (0+rows.length*sz) r):=by
    simp only[e_app,appSlk,hb,lenN_eq,e1,e3,e4,og_true]
   have eA':e_app h sz by_ (.sl b 0 rows.length (.slk 0 0)) 1 r=withV (.sl b 0 (rows.length+1) (.slk 0 0)) (h.put b (0+rows.length*sz) r):=eA
   rw[eA']
   rw[hv] at hpn ho⊢
   rw[H.put_gr ho hb hpn,withV_some,P2_some,←hv]
   refine q _ _ ⟨hall,.inr (.inl ⟨b,rest.drop sz,j,by simp,l1,by rw[H.next_set];exact l2,by rw[get_set_same rfl],?_⟩)⟩ (fun b' ⟨_,_,_,e⟩=>by cases e;exact .inl ⟨_,_,_,rfl⟩) ?_ (H.wf_set hw _ hb)
   ·rw[List.length_drop,hr,Nat.add_mul];omega
   ·exact(Keeps.set h b _).mono fun c e=>by subst e;exact⟨_,_,_,rfl⟩
 ·by_cases hr:rows.length+1≤c
  ·rw[e_app_fix (by omega)]
   have hlr:sz≤rest.length:=by
    have:=Nat.mul_le_mul_right sz hr;rw[Nat.add_mul] at this;omega
   have hpn:putN (0+rows.length*sz) r (rows.flatten++rest)=some ((rows++[r]).flatten++rest.drop sz):=by
    have:=putN_app (pre:=rows.flatten) (new:=r) (old:=rest.take sz) (rest:=rest.drop sz) (by rw[List.length_take];omega)
    rw[List.append_assoc,List.take_append_drop,flatten_len a1] at this
    rw[Nat.zero_add,this];simp
   rw[hv] at hpn ho⊢
   rw[H.put_rw ho hb hpn,withV_some,P2_some,←hv]
   refine q _ _ ⟨hall,.inr (.inr ⟨b,c,rest.drop sz,by simp,l1,by rw[H.next_set];exact l2,by rw[get_set_same rfl],?_,by simpa using hr⟩)⟩ (fun b' ⟨_,_,_,e⟩=>by cases e;exact .inl ⟨_,_,_,rfl⟩) ?_ (H.wf_set hw _ hb)
   ·rw[List.length_append,List.length_singleton,List.length_drop,Nat.add_mul];omega
   ·exact(Keeps.set h b _).mono fun c e=>by subst e;exact⟨_,_,_,rfl⟩
  ·have hce:c=rows.length:=by omega
   have hel:elems h sz (.sl b 0 rows.length (.fix c))=some rows.flatten:=by
    have o:CutO F h (.sl b 0 rows.length (.fix c)) sz rows:=⟨a1,.inr (.inr ⟨b,c,rest,rfl,l1,l2,hb,hc,hlc⟩)⟩
    exact(o.sl (by omega)).elems.1
   rw[e_app_full (by omega) hel (by omega) (by omega),grown_eq,P2_some]
   exact q _ _ ⟨hall,.inr (.inl ⟨h.next,[],0,by simp,hlo,by rw[H.next_add];omega,by rw[get_add_new rfl];simp,by simp⟩)⟩ (fun b' ⟨_,_,_,e⟩=>by cases e;exact .inr (Nat.le_refl _)) (kadd _) (wadd _)
noncomputable def slcTo (h:H)(sz:Nat)(x k:V):Option V:=q_slc .nil h sz x none (some (.c k)) none
theorem q_slc_to (tm:T V)(h:H)(sz:Nat)(x:V)(y:Opd):q_slc tm h sz x none (some y) none=slcTo h sz x (y.ev tm):=rfl
theorem subO_to {b o sz n c k:Nat}{tm:T V}{x:Opd}{kd:IntKind}(hx:x.ev tm=.int kd (k:Int))(hk:k≤n)(hc:n≤c):subO b o sz (bnd3 tm n c none (some x) none)=some (.sl b (bsel (Nat.beq c 0) o (o+0*sz)) k (.fix c)):=by
 have e1:Nat.ble 0 k=true:=by simp
 have e2:Nat.ble k c=true:=by simp;omega
 have e3:Nat.ble c c=true:=by simp
 simp only[bnd3,natO,hx,natk_cst,bnds,e1,e2,e3,og_true,subO,sub,Nat.sub_zero]
theorem CutO.pop {F:Nat→Prop}{h:H}{x:V}{sz:Nat}{rows:List (List V)}{r:List V}(a:CutO F h x sz (rows++[r]))(hsz:0<sz)(hl:rows.length≤1000000):
  ∃y,slcTo h sz x (.int .i64 (rows.length:Int))=some y∧CutO F h y sz rows∧∀b,blkOf y b→blkOf x b:=by
 have hi:∀tm,(Opd.c (.int .i64 (rows.length:Int))).ev tm=.int .i64 (rows.length:Int):=fun _=>rfl
 obtain⟨a1,a2⟩:=a
 have hr:∀r∈rows,r.length=sz:=fun r' hr=>a1 r' (List.mem_append.2 (.inl hr))
 have hr1:r.length=sz:=a1 r (by simp)
 have fl:=flatten_len hr
 have hfl:(rows++[r]).flatten=rows.flatten++r:=by simp
 rcases a2 with⟨rfl,e⟩|⟨b,rest,j,rfl,l1,l2,hb,hrest⟩|⟨b,c,rest,rfl,l1,l2,hb,hc,hlc⟩
 ·simp at e
 ·rw[hfl,List.append_assoc] at hb
  rw[List.length_append,List.length_singleton]
  have e1:Nat.ble 0 rows.length=true:=by simp
  have hall:(rows.flatten++(r++rest)).length=(rows.length+(j+1))*sz:=by rw[List.length_append,List.length_append,fl,hr1,hrest,Nat.add_mul,Nat.add_mul];omega
  have e2:Nat.ble rows.length (rows.length+(j+1))=true:=by simp
  have e3:Nat.ble (rows.length+(j+1)) (rows.length+(j+1))=true:=by simp
  have e4:Nat.blt 0 (rows.length+1+rows.length)=true:=by rw[Nat.blt_eq];omega
  have e5:Nat.beq sz sz=true:=by simp
  have e6:Nat.beq 0 (0*sz)=true:=by simp
  have e7:Nat.ble (0+(rows.length+1)*sz) (rows.flatten++(r++rest)).length=true:=by rw[hall,Nat.ble_eq,Nat.zero_add];exact Nat.mul_le_mul_right _ (by omega)
  have e8:slkRoom h b 0 sz=rows.length+(j+1):=by simp only[slkRoom,hb,lenN_eq,hall,Nat.sub_zero];exact Nat.mul_div_cancel _ hsz
  refine⟨.sl b (0+0*sz) rows.length (.slk (0+0) 0),?_,?_,?_⟩
  ·simp only[slcTo,q_slc,slkOk,hb,e5,e6,lenN_eq,e7,og_true,bnd3,natO,hi,nat_cst,natk_cst,bnds,e1,e2,e3,subS,e4,e8,Nat.sub_zero]
  ·rw[Nat.zero_mul]
   exact⟨hr,.inr (.inl ⟨b,r++rest,j+1,rfl,l1,l2,hb,by rw[List.length_append,hr1,hrest,Nat.add_mul];omega⟩)⟩
  ·rintro b' ⟨_,_,_,e⟩;cases e;exact⟨_,_,_,rfl⟩
 ·rw[hfl,List.append_assoc] at hb
  rw[List.length_append,List.length_singleton] at hlc hc⊢
  refine⟨.sl b (bsel (Nat.beq c 0) 0 (0+0*sz)) rows.length (.fix c),?_,?_,?_⟩
  ·simp only[slcTo,q_slc]
   rw[subO_to (hi _) (by omega) hlc]
  ·have:bsel (Nat.beq c 0) 0 (0+0*sz)=0:=by cases Nat.beq c 0<;>simp[bsel]
   rw[this]
   exact⟨hr,.inr (.inr ⟨b,c,r++rest,rfl,l1,l2,hb,by rw[List.length_append,hr1];rw[Nat.add_mul] at hc;omega,by omega⟩)⟩
  ·rintro b' ⟨_,_,_,e⟩;cases e;exact⟨_,_,_,rfl⟩
def LsCut (F:Nat→Prop)(h:H)(x:V)(ls:List (List (List V))):Prop:=∃xs:List V,CutO F h x 1 (xs.map fun v=>[v])∧xs.length=ls.length∧
 (∀i (hi:i<xs.length) (hj:i<ls.length),CutO F h xs[i] 1 ls[i]∧∀b,blkOf xs[i] b→¬blkOf x b)∧∀i k (hi:i<xs.length) (hk:k<xs.length),i≠k→∀b,blkOf xs[i] b→¬blkOf xs[k] b
theorem LsCut.nil (F:Nat→Prop)(h:H):LsCut F h .nils []:=⟨[],⟨by simp,.inl ⟨rfl,rfl⟩⟩,rfl,fun i hi=>by simp at hi,fun i k hi=>by simp at hi⟩
theorem LsCut.keep {F:Nat→Prop}{h h':H}{S:Nat→Prop}{x:V}{ls:List (List (List V))}(a:LsCut F h x ls)(k:Keeps S h h')(n:∀b,F b→b<h.next→¬S b):LsCut F h' x ls:=by
 obtain⟨xs,a1,a2,a3,a4⟩:=a
 exact⟨xs,a1.keep k fun b hb=>n b (a1.blk hb).1 (a1.blk hb).2.1,a2,fun i hi hj=>⟨(a3 i hi hj).1.keep k fun b hb=>n b ((a3 i hi hj).1.blk hb).1 ((a3 i hi hj).1.blk hb).2.1,(a3 i hi hj).2⟩,a4⟩
theorem LsCut.up {F F':Nat→Prop}{h:H}{x:V}{ls:List (List (List V))}(a:LsCut F h x ls)(l:∀b,F b→b<h.next→F' b):LsCut F' h x ls:=by
 obtain⟨xs,a1,a2,a3,a4⟩:=a
 exact⟨xs,a1.up l,a2,fun i hi hj=>⟨(a3 i hi hj).1.up l,(a3 i hi hj).2⟩,a4⟩
theorem LsCut.mono {F:Nat→Prop}{h h':H}{x:V}{ls:List (List (List V))}(a:LsCut F h x ls)(s:h.Sub h'):LsCut F h' x ls:=a.keep (Keeps.of s fun _=>False) fun _ _ _=>id
theorem LsCut.len {F:Nat→Prop}{h:H}{x:V}{ls:List (List (List V))}(a:LsCut F h x ls)(hl:ls.length≤1000):q_len x=some (.int .i64 (ls.length:Int)):=by
 obtain⟨xs,a1,a2,_⟩:=a
 rw[(a1.sl (by simp only[List.length_map];omega)).lenE,a2]
theorem LsCut.one {F:Nat→Prop}{h:H}{x:V}{ls:List (List (List V))}(a:LsCut F h x ls):x.one=true:=by
 obtain⟨xs,a1,_⟩:=a;exact a1.one
theorem LsCut.at {F:Nat→Prop}{h:H}{x:V}{ls:List (List (List V))}(a:LsCut F h x ls)(hl:ls.length≤1000){i:Nat}(hi:i<ls.length):
  ∃b o k cs v,q_iad 1 x (.int .i64 (i:Int))=some (.ptr b o)∧h.get b=some (.cells k cs)∧(k=.rw∨k=.gr 1)∧nth o cs=some v∧CutO F h v 1 ls[i]∧blkOf x b∧¬blkOf v b∧F b∧
   ∀(v':V) (l':List (List V)) (h1:H),Keeps (blkOf v) h h1→CutO F h1 v' 1 l'→(∀c,blkOf v' c→blkOf v c∨h.next≤c)→∃cs',putN o [v'] cs=some cs'∧LsCut F (h1.set b (.cells k cs')) x (ls.set i l'):=by
 obtain⟨xs,a1,a2,a3,a4⟩:=a
 have hi':i<xs.length:=by omega
 have sx:=a1.sl (by simp only[List.length_map];omega)
 obtain⟨b,o,c,cs,e1,e2,e3,_,_,e4⟩:=sx.at hi'
 have e5:=e4 (by omega)
 obtain⟨b',e6⟩:∃b',blkOf x b':=⟨b,⟨_,_,_,e1⟩⟩
 have hbx:blkOf x b:=⟨_,_,_,e1⟩
 obtain⟨l1,l2,k,cs0,g1,g2⟩:=a1.blk hbx
 have hcs:cs0=cs:=by
  have:=cells_of g1;rw[e2] at this;cases this;rfl
 subst hcs
 obtain⟨c1,c2⟩:=a3 i hi' hi
 refine⟨b,o+i*1,k,cs0,xs[i],e3 (nat_cst i),g1,g2,by rw[e5];rfl,c1,hbx,fun hv=>c2 b hv hbx,l1,fun v' l' h1 kk cv nb=>?_⟩
 have shape:∃rest,cs0=(xs.map fun v=>[v]).flatten++rest∧o=0∧(∀xs':List V,xs'.length=xs.length→∀h2:H,h2.get b=some (.cells k ((xs'.map fun v=>[v]).flatten++rest))→b<h2.next→CutO F h2 x 1 (xs'.map fun v=>[v])):=by
  rcases a1.2 with⟨e,_⟩|⟨b2,rest,j,e,m1,m2,hb,hr⟩|⟨b2,c2',rest,e,m1,m2,hb,hc,hlc⟩
  ·rw[e] at e1;cases e1
  ·rw[e] at e1
   injection e1 with x1 x2 x3 x4
   subst x1;subst x2;subst x4
   rw[g1] at hb;cases hb
   exact⟨rest,rfl,rfl,fun xs' hx' h2 hg hn=>⟨fun r hr=>by rw[List.mem_map] at hr;obtain⟨_,_,rfl⟩:=hr;rfl,.inr (.inl ⟨_,rest,j,by rw[e];simp[hx'],m1,hn,hg,hr⟩)⟩⟩
  ·rw[e] at e1
   injection e1 with x1 x2 x3 x4
   subst x1;subst x2;subst x4
   rw[g1] at hb;cases hb
   exact⟨rest,rfl,rfl,fun xs' hx' h2 hg hn=>⟨fun r hr=>by rw[List.mem_map] at hr;obtain⟨_,_,rfl⟩:=hr;rfl,.inr (.inr ⟨_,c2',rest,by rw[e];simp[hx'],m1,hn,hg,by rw[List.length_map,hx'] at *;exact hc,by rw[List.length_map,hx'] at *;exact hlc⟩)⟩⟩
 obtain⟨rest,ecs,eo,mk⟩:=shape
 have fm:∀l:List V,(l.map fun v=>[v]).flatten=l:=fun l=>by induction l with|nil=>rfl|cons a l ih=>simp[ih]
 have hput:putN (o+i*1) [v'] cs0=some (((xs.set i v').map fun v=>[v]).flatten++rest):=by
  rw[ecs,eo,fm,fm]
  have e:xs=xs.take i++xs[i]::xs.drop (i+1):=by rw[←List.drop_eq_getElem_cons hi',List.take_append_drop]
  have:=putN_app (pre:=xs.take i) (new:=[v']) (old:=[xs[i]]) (rest:=xs.drop (i+1)++rest) rfl
  rw[List.length_take,Nat.min_eq_left (by omega)] at this
  rw[List.set_eq_take_append_cons_drop,if_pos hi',Nat.zero_add,Nat.mul_one]
  have e3:xs++rest=xs.take i++[xs[i]]++(xs.drop (i+1)++rest):=by
   rw[←List.append_assoc]
   congr 1
   rw[List.append_assoc]
   exact e
  rw[e3,this]
  simp
 refine⟨_,hput,?_⟩
 have hbn:b<h1.next:=Nat.lt_of_lt_of_le l2 kk.1
 have kS:Keeps (fun c=>c=b) h1 (h1.set b (.cells k (((xs.set i v').map fun v=>[v]).flatten++rest))):=Keeps.set _ _ _
 refine⟨xs.set i v',mk (xs.set i v') (by simp) _ (by rw[get_set_same rfl]) (by rw[H.next_set];exact hbn),by simp[a2],fun j hj hj'=>?_,fun j m hj hm hne c hc=>?_⟩
 ·rw[List.length_set] at hj hj'
  by_cases e:i=j
  ·subst e
   rw[List.getElem_set_self,List.getElem_set_self]
   have hd:∀c,blkOf v' c→¬blkOf x c:=fun c hc hx=>by
    rcases nb c hc with h2|h2
    ·exact c2 c h2 hx
    ·have:=(a1.blk hx).2.1;omega
   exact⟨cv.keep kS fun c hc e=>hd c hc (by rw[e];exact hbx),hd⟩
  ·rw[List.getElem_set_ne e,List.getElem_set_ne e]
   obtain⟨d1,d2⟩:=a3 j hj hj'
   exact⟨(d1.keep kk fun c hc hv=>a4 j i hj hi' (fun h=>e h.symm) c hc hv).keep kS fun c hc e=>d2 c hc (by rw[e];exact hbx),d2⟩
 ·rw[List.length_set] at hj hm
  by_cases e:i=j
  ·subst e
   rw[List.getElem_set_self] at hc
   rw[List.getElem_set_ne hne]
   intro hm2
   rcases nb c hc with h2|h2
   ·exact a4 i m hi' hm hne c h2 hm2
   ·have:=((a3 m hm (by omega)).1.blk hm2).2.1;omega
  ·rw[List.getElem_set_ne e] at hc
   by_cases e2:i=m
   ·subst e2
    rw[List.getElem_set_self]
    intro hm2
    rcases nb c hm2 with h2|h2
    ·exact a4 j i hj hi' hne c hc h2
    ·have:=((a3 j hj (by omega)).1.blk hc).2.1;omega
   ·rw[List.getElem_set_ne e2];exact a4 j m hj hm hne c hc
theorem LsCut.push {F:Nat→Prop}{hp h:H}{x y v:V}{ls:List (List (List V))}{l:List (List V)}{Q:V→H→Prop}(a:LsCut F hp x ls)(s:hp.Sub h)(hlo:F h.next)(hl:ls.length≤1000)(ov:CutO F h v 1 l)(fv:∀b,blkOf v b→hp.next≤b)(hy:SlAt h y 1 [[v]])
  (q:∀x' h',LsCut F h' x' (ls++[l])→Keeps (blkOf x) h h'→(∀b,blkOf x' b→blkOf x b∨h.next≤b)→h'.wf→Q x' h'):P2 (e_app' h 1 24 x y) Q:=by
 obtain⟨xs,b1,a2,b3,a4⟩:=a
 have hw:=s.wf
 have a1:=b1.mono s
 have a3:∀i (hi:i<xs.length) (hj:i<ls.length),CutO F h xs[i] 1 ls[i]∧∀b,blkOf xs[i] b→¬blkOf x b:=fun i hi hj=>⟨(b3 i hi hj).1.mono s,(b3 i hi hj).2⟩
 have dv:∀b,blkOf v b→¬blkOf x b:=fun b hb hx=>by have:=fv b hb;have:=(b1.blk hx).2.1;omega
 have ds:∀b,blkOf v b→∀i (hi:i<xs.length),¬blkOf xs[i] b:=fun b hb i hi hx=>by have:=fv b hb;have:=((b3 i hi (by omega)).1.blk hx).2.1;omega
 have hone:allOne [v]=true:=by simp[allOne_cons,ov.one,allOne_nil]
 refine a1.app1 (by_:=24) (r:=[v]) hw hlo rfl (by omega) hy hone (by simp only[List.length_map];omega) (by simp only[List.length_map];omega) fun x' h' o' nb k w'=>?_
 refine q x' h' ⟨xs++[v],by rw[List.map_append];exact o',by simp[a2],fun i hi hj=>?_,fun i m hi hm hne b hb=>?_⟩ k nb w'
 ·rw[List.length_append,List.length_singleton] at hi hj
  by_cases hlt:i<xs.length
  ·rw[List.getElem_append_left hlt,List.getElem_append_left (by omega)]
   obtain⟨c1,c2⟩:=a3 i hlt (by omega)
   refine⟨c1.keep k c2,fun b hb hx=>?_⟩
   rcases nb b hx with h1|h1
   ·exact c2 b hb h1
   ·have:=(c1.blk hb).2.1;omega
  ·have e:i=xs.length:=by omega
   have e1:(xs++[v])[i]=v:=by subst e;simp
   have e2:(ls++[l])[i]=l:=by
    have:i=ls.length:=by omega
    subst this;simp
   rw[e1,e2]
   refine⟨ov.keep k dv,fun b hb hx=>?_⟩
   rcases nb b hx with h1|h1
   ·exact dv b hb h1
   ·have:=(ov.blk hb).2.1;omega
 ·rw[List.length_append,List.length_singleton] at hi hm
  by_cases h1:i<xs.length
  ·rw[List.getElem_append_left h1] at hb
   by_cases h2:m<xs.length
   ·rw[List.getElem_append_left h2];exact a4 i m h1 h2 hne b hb
   ·have e1:(xs++[v])[m]=v:=by
     have:m=xs.length:=by omega
     subst this;simp
    rw[e1];exact fun h3=>ds b h3 i h1 hb
  ·have e1:(xs++[v])[i]=v:=by
    have:i=xs.length:=by omega
    subst this;simp
   rw[e1] at hb
   rw[List.getElem_append_left (by omega)]
   exact ds b hb m (by omega)
theorem LsCut.pop {F:Nat→Prop}{h:H}{x:V}{ls:List (List (List V))}{l:List (List V)}(a:LsCut F h x (ls++[l]))(hl:ls.length≤1000):
  ∃y,slcTo h 1 x (.int .i64 (ls.length:Int))=some y∧LsCut F h y ls∧∀b,blkOf y b→blkOf x b:=by
 obtain⟨xs,a1,a2,a3,a4⟩:=a
 rw[List.length_append,List.length_singleton] at a2
 have hne:xs≠[]:=fun e=>by rw[e] at a2;simp at a2
 have e:=List.dropLast_concat_getLast hne
 have hdl:xs.dropLast.length=ls.length:=by rw[List.length_dropLast];omega
 rw[←e,List.map_append] at a1
 obtain⟨y,h1,h2,h3⟩:=CutO.pop a1 (by omega) (by rw[List.length_map];omega)
 rw[List.length_map,hdl] at h1
 refine⟨y,h1,⟨xs.dropLast,h2,hdl,fun i hi hj=>?_,fun i k hi hk hne b hb=>?_⟩,h3⟩
 ·rw[List.getElem_dropLast]
  obtain⟨c1,c2⟩:=a3 i (by omega) (by simp;omega)
  rw[List.getElem_append_left hj] at c1
  exact⟨c1,fun b hb hy=>c2 b hb (h3 b hy)⟩
 ·rw[List.getElem_dropLast] at hb⊢
  exact a4 i k (by omega) (by omega) hne b hb
namespace Try
end Try
end Go.Ab
namespace Go.Ab
theorem CutO.tk {F:Nat→Prop}{h:H}{x:V}{sz:Nat}{rows:List (List V)}(a:CutO F h x sz rows)(hsz:0<sz)(hl:rows.length≤1000000){k:Nat}(hk:k<rows.length):
  ∃y,slcTo h sz x (.int .i64 (k:Int))=some y∧SlAt h y sz (rows.take k):=by
 have hi:∀tm,(Opd.c (.int .i64 (k:Int))).ev tm=.int .i64 (k:Int):=fun _=>rfl
 obtain⟨a1,a2⟩:=a
 have hz:∀r∈rows.take k,r.length=sz:=fun r hr=>a1 r (List.mem_of_mem_take hr)
 have hkl:(rows.take k).length=k:=by rw[List.length_take,Nat.min_eq_left (by omega)]
 have fl:=flatten_len a1
 have ft:=flatten_len hz
 rw[hkl] at ft
 have hfl:rows.flatten=(rows.take k).flatten++(rows.drop k).flatten:=by rw[←List.flatten_append,List.take_append_drop]
 have hsl:∀(b:Nat) (c:Cap) (cs:List V),h.cells b=some (rows.flatten++cs)→SlAt h (.sl b 0 k c) sz (rows.take k):=fun b c cs hc=>⟨hz,by omega,.inr ⟨b,0,c,_,by rw[hkl],.inr hc,getN_eq.2 ⟨by rw[List.drop_zero,hkl,hfl,List.append_assoc,←ft,List.take_left'];rfl,by rw[hkl,List.length_append,fl];have:=Nat.mul_le_mul_right sz (Nat.le_of_lt hk);omega⟩⟩⟩
 rcases a2 with⟨rfl,e⟩|⟨b,rest,j,rfl,l1,l2,hb,hrest⟩|⟨b,c,rest,rfl,l1,l2,hb,hc,hlc⟩
 ·rw[e] at hk;simp at hk
 ·have e1:Nat.ble 0 k=true:=by simp
  have hall:(rows.flatten++rest).length=(rows.length+j)*sz:=by rw[List.length_append,fl,hrest,Nat.add_mul]
  have e2:Nat.ble k (rows.length+j)=true:=by rw[Nat.ble_eq];omega
  have e3:Nat.ble (rows.length+j) (rows.length+j)=true:=by simp
  have e4:Nat.blt 0 (rows.length+k)=true:=by rw[Nat.blt_eq];omega
  have e5:Nat.beq sz sz=true:=by simp
  have e6:Nat.beq 0 (0*sz)=true:=by simp
  have e7:Nat.ble (0+rows.length*sz) (rows.flatten++rest).length=true:=by rw[hall,Nat.ble_eq,Nat.zero_add];exact Nat.mul_le_mul_right _ (by omega)
  have e8:slkRoom h b 0 sz=rows.length+j:=by simp only[slkRoom,hb,lenN_eq,hall,Nat.sub_zero];exact Nat.mul_div_cancel _ hsz
  refine⟨.sl b (0+0*sz) k (.slk (0+0) 0),?_,?_⟩
  ·simp only[slcTo,q_slc,slkOk,hb,e5,e6,lenN_eq,e7,og_true,bnd3,natO,hi,nat_cst,natk_cst,bnds,e1,e2,e3,subS,e4,e8,Nat.sub_zero]
  ·rw[Nat.zero_mul];exact hsl _ _ _ (cells_of hb)
 ·refine⟨.sl b (bsel (Nat.beq c 0) 0 (0+0*sz)) k (.fix c),?_,?_⟩
  ·simp only[slcTo,q_slc]
   rw[subO_to (hi _) (by omega) hlc]
  ·have:bsel (Nat.beq c 0) 0 (0+0*sz)=0:=by cases Nat.beq c 0<;>simp[bsel]
   rw[this]
   exact hsl _ _ _ (cells_of hb)
namespace Try
theorem nm_feq (a b:Int):q_feq false 3 (.agg [.int .i64 (-1),.int .i64 a,.int .i64 (-1)]) (.agg [.int .i64 (-1),.int .i64 b,.int .i64 (-1)])=some (.bool (decide (a=b))):=by
 have h:=q_feq_map (n:=3) [-1,a, -1] [-1,b, -1] rfl rfl false
 have e:decide (([-1,a, -1]:List Int)=[-1,b, -1])=decide (a=b):=by rw[decide_eq_decide];simp
 rw[e] at h
 exact h
set_option maxHeartbeats 4000000 in
theorem pcheck_ev {F:Nat→Prop}{h:H}{x:V}{sh:List Nat}(hw:h.wf)(cx:CutO F h x 4 (sh.map encRu))(hl:sh.length≤8)(nd:sh.Nodup)(h4:∀s∈sh,s≤4)(Q:V→H→Prop)(q:∀h',h.Sub h'→Q (.int .i64 0) h'):
  Ev fnG fastA (.fn 26 [] []) [x] h Q:=by
 refine Ev_body (fd:=c26) rfl rfl rfl ?_
 have hx:=cx.sl (by rw[List.length_map];omega)
 have hlen:=hx.lenE
 have n8:¬(8:Int)<(sh.length:Int):=by omega
 simp -implicitDefEqProofs(maxSteps:=999999)(disch:=first|with_reducible rfl|omega|(simp only[nA,nS,nD]<;>omega)|fail)only[c26,go_sem,hlen,n8]
 refine(everyRule_ev (p:=fun _=>true) hw hx fun s hs=>allowed_pure hw (h4 s hs)).mono fun u h1 hu=>?_
 obtain⟨rfl,s1⟩:=hu
 have ea:(sh.all fun _=>true)=true:=List.all_eq_true.2 fun _ _=>rfl
 rw[ea]
 simp -implicitDefEqProofs(maxSteps:=999999)(disch:=first|with_reducible rfl|omega|(simp only[nA,nS,nD]<;>omega)|fail)only[go_sem,hlen]
 refine W_count sh.length (fun i s=>∃tm h',s=⟨tm,h',[]⟩∧h.Sub h'∧(Opd.t 0).ev tm=x∧(Opd.t 15).ev tm=x∧(Opd.t 16).ev tm=.int .i64 (sh.length:Int)∧(Opd.t 17).ev tm=.int .i64 (i:Int)) ?_ ?_ (i:=0) (Nat.zero_le _) ⟨_,_,rfl,s1,(by simp[ev_c,ev_put]<;>rfl),(by simp[ev_c,ev_put]<;>rfl),(by simp[ev_c,ev_put]<;>rfl),(by simp only[ev_put];rfl)⟩
 ·rintro i s hi ⟨tm,h',rfl,s2,t0,t15,t16,t17⟩
  have hi':(i:Int)<(sh.length:Int):=by omega
  obtain⟨b2,o2,c2,cs2,_,hc2,hq2,hg2,_,_⟩:=(hx.mono s2).at hi
  have sA:=(H.Sub.refl s2.wf).add (.cells .rw (encRu sh[i]))
  have gA:(h'.add (.cells .rw (encRu sh[i]))).cells h'.next=some (encRu sh[i]):=cells_add_new rfl
  have lA:(h'.add (.cells .rw (encRu sh[i]))).next=h'.next+1:=H.next_add _ _
  obtain⟨y,hy,ay⟩:=(cx.mono (s2.trans sA)).tk (by omega) (by rw[List.length_map];omega) (k:=i) (by rw[List.length_map];exact hi)
  rw[←List.map_take] at ay
  have hyl:=ay.lenE
  have hti:(sh.take i).length=i:=by rw[List.length_take];omega
  rw[hti] at hyl
  simp only[encRu] at hg2 sA gA lA hy ay
  simp -implicitDefEqProofs(maxSteps:=999999)(disch:=first|with_reducible rfl|omega|(simp only[nA,nS,nD]<;>omega)|fail)only[go_sem,t0,t15,t16,t17,hi',hq2 (nat_cst i),hc2,hg2,q_slc_to,hy,hyl]
  generalize hz:h'.add _=hA at sA gA lA ay⊢
  clear hz
  have sAA:=s2.trans sA
  refine W_count i (fun j s=>∃tm h3,s=⟨tm,h3,[]⟩∧hA.Sub h3∧(Opd.t 0).ev tm=x∧(Opd.t 4).ev tm=.ptr h'.next 0∧(Opd.t 15).ev tm=x∧(Opd.t 16).ev tm=.int .i64 (sh.length:Int)∧(Opd.t 17).ev tm=.int .i64 (i:Int)∧(Opd.t 24).ev tm=y∧(Opd.t 25).ev tm=.int .i64 (i:Int)∧(Opd.t 26).ev tm=.int .i64 (j:Int)) ?_ ?_ (i:=0) (Nat.zero_le _)
   ⟨_,_,rfl,H.Sub.refl sAA.wf,(by simp[ev_c,ev_put,t0]<;>rfl),(by simp[ev_c,ev_put]<;>rfl),(by simp[ev_c,ev_put,t15]<;>rfl),(by simp[ev_c,ev_put,t16]<;>rfl),(by simp[ev_c,ev_put,t17]<;>rfl),(by simp[ev_c,ev_put]<;>rfl),(by simp[ev_c,ev_put]<;>rfl),(by simp only[ev_put];rfl)⟩<;>clear t0 t15 t16 t17
  ·rintro j s hj ⟨tm,h3,rfl,s3,t0,t4,t15,t16,t17,t24,t25,t26⟩
   have hj':(j:Int)<(i:Int):=by omega
   have hjl:j<(sh.take i).length:=by omega
   obtain⟨b4,o4,c4',cs4,_,hc4,hq4,hg4,_,_⟩:=(ay.mono s3).at hjl
   obtain⟨sj,hsj⟩:∃sj,(sh.take i)[j]=sj:=⟨_,rfl⟩
   obtain⟨si,hsi⟩:∃si,sh[i]=si:=⟨_,rfl⟩
   have hne:¬(si:Int)=(sj:Int):=by
    rw[List.getElem_take] at hsj
    have:=List.pairwise_iff_getElem.1 nd j i (by omega) hi hj
    omega
   have sB:=(H.Sub.refl s3.wf).add (.cells .rw (encRu sj))
   have gB:(h3.add (.cells .rw (encRu sj))).cells h3.next=some (encRu sj):=cells_add_new rfl
   have gA3:=s3.cells gA
   rw[hsj] at hg4
   rw[hsi] at gA gA3
   simp only[encRu] at hg4 sB gB gA3
   have gAB:=sB.cells gA3
   simp -implicitDefEqProofs(maxSteps:=999999)(disch:=first|with_reducible rfl|omega|(simp only[nA,nS,nD]<;>omega)|fail)only[go_sem,t0,t4,t15,t16,t17,t24,t25,t26,hj',hq4 (nat_cst j),hc4,hg4,gA3,gAB]
   generalize hz:h3.add _=hB at sB gB gAB⊢
   clear hz
   refine names_ev sB.wf si _ fun h5 s5=>?_
   have gA5:=s5.cells gAB
   have gB5:=s5.cells gB
   simp -implicitDefEqProofs(maxSteps:=999999)(disch:=first|with_reducible rfl|omega|(simp only[nA,nS,nD]<;>omega)|fail)only[go_sem,t0,t4,t15,t16,t17,t24,t25,t26,gAB,gB,gA5,gB5]
   refine names_ev s5.wf sj _ fun h6 s6=>?_
   have gA6:=s6.cells gA5
   have gB6:=s6.cells gB5
   simp -implicitDefEqProofs(maxSteps:=999999)(disch:=first|with_reducible rfl|omega|(simp only[nA,nS,nD]<;>omega)|fail)only[go_sem,t0,t4,t15,t16,t17,t24,t25,t26,gAB,gB,gA5,gB5,gA6,gB6,nm_feq,hne,wr_succ]
   exact⟨_,_,rfl,s3.trans (sB.trans (s5.trans s6)),(by simp[ev_c,ev_put,t0]<;>rfl),(by simp[ev_c,ev_put,t4]<;>rfl),(by simp[ev_c,ev_put,t15]<;>rfl),(by simp[ev_c,ev_put,t16]<;>rfl),(by simp[ev_c,ev_put,t17]<;>rfl),(by simp[ev_c,ev_put,t24]<;>rfl),(by simp[ev_c,ev_put,t25]<;>rfl),(by simp[ev_c,ev_put]<;>rfl)⟩
  ·rintro s ⟨tm,h3,rfl,s3,t0,t4,t15,t16,t17,t24,t25,t26⟩
   simp -implicitDefEqProofs(maxSteps:=999999)(disch:=first|with_reducible rfl|omega|(simp only[nA,nS,nD]<;>omega)|fail)only[go_sem,t0,t15,t16,t17,t25,t26,Int.lt_irrefl,wr_succ]
   exact⟨_,_,rfl,sAA.trans s3,(by simp[ev_c,ev_put,t0]<;>rfl),(by simp[ev_c,ev_put,t15]<;>rfl),(by simp[ev_c,ev_put,t16]<;>rfl),(by simp[ev_c,ev_put]<;>rfl)⟩
 ·rintro s ⟨tm,h',rfl,s2,t0,t15,t16,t17⟩
  simp -implicitDefEqProofs(maxSteps:=999999)(disch:=first|with_reducible rfl|omega|(simp only[nA,nS,nD]<;>omega)|fail)only[go_sem,t16,t17,Int.lt_irrefl]
  exact q _ s2
theorem price_ev {F:Nat→Prop}{h:H}{x:V}{sh:List Nat}(hw:h.wf)(cx:CutO F h x 4 (sh.map encRu))(hl:sh.length≤8)(nd:sh.Nodup)(h4:∀s∈sh,s≤4){b p e:Int}(hb:0≤b∧b≤3)(hp:0≤p∧p≤4)(he:0≤e∧e≤2)(Q:V→H→Prop)(q:∀h',h.Sub h'→Q (.tup [.int .i64 (prP sh p),.int .i64 (erP sh p)]) h'):
  Ev fnG fastA (.fn 11 [] []) [x,.agg [.int .i64 b,.int .i64 p,.int .i64 e]] h Q:=by
 refine Ev_body (fd:=c11) rfl rfl rfl ?_
 have s0:=(H.Sub.refl hw).add (.cells .rw [.int .i64 b,.int .i64 p,.int .i64 e])
 have g0:(h.add (.cells .rw [.int .i64 b,.int .i64 p,.int .i64 e])).cells h.next=some [.int .i64 b,.int .i64 p,.int .i64 e]:=cells_add_new rfl
 simp -implicitDefEqProofs(maxSteps:=999999)(disch:=first|with_reducible rfl|omega|(simp only[nA,nS,nD]<;>omega)|fail)only[c11,go_sem]
 generalize h.add (.cells .rw [.int .i64 b,.int .i64 p,.int .i64 e])=h0 at s0 g0⊢
 refine pcheck_ev s0.wf (cx.mono s0) hl nd h4 _ fun h1 s1=>?_
 simp -implicitDefEqProofs(maxSteps:=999999)(disch:=first|with_reducible rfl|omega|(simp only[nA,nS,nD]<;>omega)|fail)only[go_sem,s1.cells g0,ne_eq,not_true_eq_false]
 refine isP_ev s1.wf hb hp he _ fun h2 s2=>?_
 have s12:=s1.trans s2
 simp -implicitDefEqProofs(maxSteps:=999999)(disch:=first|with_reducible rfl|omega|(simp only[nA,nS,nD]<;>omega)|fail)only[go_sem,s12.cells g0]
 have hx:=cx.sl (by rw[List.length_map];omega)
 refine priced_ev s2.wf (hx.mono (s0.trans s12)) (by omega) nd b p e _ fun h3 s3=>?_
 simp -implicitDefEqProofs(maxSteps:=999999)(disch:=first|with_reducible rfl|omega|(simp only[nA,nS,nD]<;>omega)|fail)only[go_sem]
 exact q _ (s0.trans (s12.trans s3))
end Try
end Go.Ab
namespace Go.Ab.Try
theorem pieces_ev (h:H)(Q:V→H→Prop)(q:Q (.fn 67 [] []) h):Ev fnG fastA (.fn 50 [] []) [] h Q:=by
 refine Ev_body (fd:=c50) rfl rfl rfl ?_
 simp -implicitDefEqProofs(maxSteps:=999999)(disch:=first|with_reducible rfl|omega|(simp only[nA,nS,nD]<;>omega)|fail)only[c50,go_sem]
 exact q
def RoundP (y:V)(ok:Int→Prop)(I:H→Prop)(S:Int→Int→Int→H→Prop)(b p e:Nat)(h:H):Prop:=
 Ev fnG fastA y [.agg [.int .i64 (b:Int),.int .i64 (p:Int),.int .i64 (e:Int)]] h fun u h'=>(ok p∧u=.bool true∧I h')∨(¬ok p∧u=.bool false∧S b p e h')
set_option maxHeartbeats 4000000 in
theorem pieces1_gen {y:V}{ok:Int→Prop}{I:H→Prop}{S:Int→Int→Int→H→Prop}(hr:∀(b p e:Nat) h,b<4→p<5→e<3→I h→RoundP y ok I S b p e h){h:H}(hI:I h):
  Ev fnG fastA (.fn 67 [] []) [y] h fun _ h'=>((∀p:Nat,p<5→ok p)∧I h')∨∃p:Nat,p<5∧¬ok p∧(∀q:Nat,q<p→ok q)∧S 0 p 0 h':=by
 refine Ev.gen fun Q q=>?_
 refine Ev_body (fd:=c67) rfl rfl rfl ?_
 simp -implicitDefEqProofs(maxSteps:=999999)(disch:=first|with_reducible rfl|omega|(simp only[nA,nS,nD]<;>omega)|fail)only[c67,go_sem]
 refine W_count 4 (fun b s=>∃tm h',s=⟨tm,h',[]⟩∧I h'∧(1≤b→∀p:Nat,p<5→ok p)∧(Opd.t 0).ev tm=y∧(Opd.t 5).ev tm=.int .i64 (b:Int)) ?_ ?_ (i:=0) (Nat.zero_le _) ⟨_,_,rfl,hI,fun h=>by omega,(by simp[ev_c,ev_put]<;>rfl),(by simp only[ev_put];rfl)⟩
 ·rintro b s hb ⟨tm,h',rfl,hI,hok,t0,t5⟩
  have hb':(b:Int)<4:=by omega
  simp -implicitDefEqProofs(maxSteps:=999999)(disch:=first|with_reducible rfl|omega|(simp only[nA,nS,nD]<;>omega)|fail)only[go_sem,t0,t5,hb']
  refine W_count 5 (fun p s=>∃tm h',s=⟨tm,h',[]⟩∧I h'∧(∀q:Nat,q<p→ok q)∧(1≤b→∀p:Nat,p<5→ok p)∧(Opd.t 0).ev tm=y∧(Opd.t 2).ev tm=.int .i64 (b:Int)∧(Opd.t 5).ev tm=.int .i64 (b:Int)∧(Opd.t 8).ev tm=.int .i64 (p:Int)) ?_ ?_ (i:=0) (Nat.zero_le _) ⟨_,_,rfl,hI,fun q h=>by omega,hok,(by simp[ev_c,ev_put,t0]<;>rfl),(by simp[ev_c,ev_put]<;>rfl),(by simp[ev_c,ev_put,t5]<;>rfl),(by simp only[ev_put];rfl)⟩<;>clear t0 t5 hI h'
  ·rintro p s hp ⟨tm,h',rfl,hI,hq,hok,t0,t2,t5,t8⟩
   have hp':(p:Int)<5:=by omega
   simp -implicitDefEqProofs(maxSteps:=999999)(disch:=first|with_reducible rfl|omega|(simp only[nA,nS,nD]<;>omega)|fail)only[go_sem,t0,t2,t5,t8,hp']
   refine W_count 3 (fun e s=>∃tm h',s=⟨tm,h',[]⟩∧I h'∧(1≤e→ok p)∧(Opd.t 0).ev tm=y∧(Opd.t 2).ev tm=.int .i64 (b:Int)∧(Opd.t 3).ev tm=.int .i64 (p:Int)∧(Opd.t 5).ev tm=.int .i64 (b:Int)∧(Opd.t 8).ev tm=.int .i64 (p:Int)∧(Opd.t 11).ev tm=.int .i64 (e:Int)) ?_ ?_ (i:=0) (Nat.zero_le _) ⟨_,_,rfl,hI,fun h=>by omega,(by simp[ev_c,ev_put,t0]<;>rfl),(by simp[ev_c,ev_put,t2]<;>rfl),(by simp[ev_c,ev_put]<;>rfl),(by simp[ev_c,ev_put,t5]<;>rfl),(by simp[ev_c,ev_put,t8]<;>rfl),(by simp only[ev_put];rfl)⟩<;>clear t0 t2 t5 t8 hI h'
   ·rintro e s he ⟨tm,h',rfl,hI,hokp,t0,t2,t3,t5,t8,t11⟩
    have he':(e:Int)<3:=by omega
    simp -implicitDefEqProofs(maxSteps:=999999)(disch:=first|with_reducible rfl|omega|(simp only[nA,nS,nD]<;>omega)|fail)only[go_sem,t0,t2,t3,t5,t8,t11,he']
    refine(hr b p e h' hb hp he hI).mono fun u h2 hu=>?_
    rcases hu with⟨h1,rfl,hI2⟩|⟨h1,rfl,hS⟩
    ·simp -implicitDefEqProofs(maxSteps:=999999)(disch:=first|with_reducible rfl|omega|(simp only[nA,nS,nD]<;>omega)|fail)only[go_sem,t0,t2,t3,t5,t8,t11,wr_succ]
     exact⟨_,_,rfl,hI2,fun _=>h1,(by simp[ev_c,ev_put,t0]<;>rfl),(by simp[ev_c,ev_put,t2]<;>rfl),(by simp[ev_c,ev_put,t3]<;>rfl),(by simp[ev_c,ev_put,t5]<;>rfl),(by simp[ev_c,ev_put,t8]<;>rfl),(by simp[ev_c,ev_put]<;>rfl)⟩
    ·simp -implicitDefEqProofs(maxSteps:=999999)(disch:=first|with_reducible rfl|omega|(simp only[nA,nS,nD]<;>omega)|fail)only[go_sem,t0,t2,t3,t5,t8,t11]
     have b0:b=0:=by
      rcases Nat.eq_zero_or_pos b with h|h
      ·exact h
      ·exact absurd (hok h p hp) h1
     have e0:e=0:=by
      rcases Nat.eq_zero_or_pos e with h|h
      ·exact h
      ·exact absurd (hokp h) h1
     subst b0;subst e0
     exact q _ _ (.inr ⟨p,hp,h1,hq,hS⟩)
   ·rintro s ⟨tm,h',rfl,hI,hokp,t0,t2,t3,t5,t8,t11⟩
    have t11:(Opd.t 11).ev tm=.int .i64 3:=t11
    simp -implicitDefEqProofs(maxSteps:=999999)(disch:=first|with_reducible rfl|omega|(simp only[nA,nS,nD]<;>omega)|fail)only[go_sem,t0,t2,t3,t5,t8,t11,Int.lt_irrefl,wr_succ]
    refine⟨_,_,rfl,hI,fun r hr=>?_,hok,(by simp[ev_c,ev_put,t0]<;>rfl),(by simp[ev_c,ev_put,t2]<;>rfl),(by simp[ev_c,ev_put,t5]<;>rfl),(by simp[ev_c,ev_put]<;>rfl)⟩
    by_cases e:r=p
    ·subst e;exact hokp (by omega)
    ·exact hq r (by omega)
  ·rintro s ⟨tm,h',rfl,hI,hq,hok,t0,t2,t5,t8⟩
   have t8:(Opd.t 8).ev tm=.int .i64 5:=t8
   simp -implicitDefEqProofs(maxSteps:=999999)(disch:=first|with_reducible rfl|omega|(simp only[nA,nS,nD]<;>omega)|fail)only[go_sem,t0,t2,t5,t8,Int.lt_irrefl,wr_succ]
   exact⟨_,_,rfl,hI,fun _=>hq,(by simp[ev_c,ev_put,t0]<;>rfl),(by simp[ev_c,ev_put]<;>rfl)⟩
 ·rintro s ⟨tm,h',rfl,hI,hok,t0,t5⟩
  have t5:(Opd.t 5).ev tm=.int .i64 4:=t5
  simp -implicitDefEqProofs(maxSteps:=999999)(disch:=first|with_reducible rfl|omega|(simp only[nA,nS,nD]<;>omega)|fail)only[go_sem,t0,t5,Int.lt_irrefl]
  exact q _ _ (.inl ⟨hok (by omega),hI⟩)
end Go.Ab.Try
namespace Go.Ab.Try
set_option maxHeartbeats 4000000 in
theorem differ_ev {h:H}{x y:V}{A B:List Nat}(hw:h.wf)(hx:SlAt h x 4 (A.map encRu))(hy:SlAt h y 4 (B.map encRu))(hA:A.length≤100)(hB:B.length≤100)(uA:A.Nodup)(uB:B.Nodup)(Q:V→H→Prop)
  (q1:(∀p:Nat,p<5→hasS A p=hasS B p)→∀h',h.Sub h'→Q (.tup [.agg [.int .i64 0,.int .i64 0,.int .i64 0],.int .i64 6]) h')
  (q2:∀p:Nat,p<5→hasS A p≠hasS B p→(∀r:Nat,r<p→hasS A r=hasS B r)→∀h',h.Sub h'→Q (.tup [.agg [.int .i64 0,.int .i64 (p:Int),.int .i64 0],.int .i64 0]) h'):
  Ev fnG fastA (.fn 30 [] []) [x,y] h Q:=by
 refine Ev_body (fd:=c30) rfl rfl rfl ?_
 have x1:=hx.one
 have y1:=hy.one
 obtain⟨h6,hz⟩:∃z,(((h.add (.cells .rw [x])).add (.cells .rw [y])).add (.cells .rw [.int .i64 0,.int .i64 0,.int .i64 0])).add (.cells .rw [.int .i64 0])=z:=⟨_,rfl⟩
 have s6:h.Sub h6:=by rw[←hz];exact(by repeat(first|assumption|exact H.Sub.refl (by assumption)|refine H.Sub.add ?_ _|refine H.Sub.set ?_ (by first|omega|(simp only[H.next_add,H.next_set,H.next_del]<;>omega)) (by first|omega|(simp only[H.next_add,H.next_set,H.next_del]<;>omega)) (by assumption) _))
 have g0:h6.get h.next=some (.cells .rw [x]):=by rw[←hz];simp -implicitDefEqProofs(maxSteps:=999999)(disch:=first|with_reducible rfl|omega|(simp only[nA,nS,nD]<;>omega)|fail)only[go_sem]
 have g1:h6.get (h.next+1)=some (.cells .rw [y]):=by rw[←hz];simp -implicitDefEqProofs(maxSteps:=999999)(disch:=first|with_reducible rfl|omega|(simp only[nA,nS,nD]<;>omega)|fail)only[go_sem]
 have g2:h6.get (h.next+1+1)=some (.cells .rw [.int .i64 0,.int .i64 0,.int .i64 0]):=by rw[←hz];simp -implicitDefEqProofs(maxSteps:=999999)(disch:=first|with_reducible rfl|omega|(simp only[nA,nS,nD]<;>omega)|fail)only[go_sem]
 have g3:h6.get (h.next+1+1+1)=some (.cells .rw [.int .i64 0]):=by rw[←hz];simp -implicitDefEqProofs(maxSteps:=999999)(disch:=first|with_reducible rfl|omega|(simp only[nA,nS,nD]<;>omega)|fail)only[go_sem]
 have l6:h6.next=h.next+4:=by rw[←hz];simp only[H.next_add]
 simp -implicitDefEqProofs(maxSteps:=999999)(disch:=first|with_reducible rfl|omega|(simp only[nA,nS,nD]<;>omega)|fail)only[c30,go_sem,x1,y1,cells_one x1,cells_one y1]
 rw[hz]
 clear hz
 refine pieces_ev _ _ ?_
 simp -implicitDefEqProofs(maxSteps:=999999)(disch:=first|with_reducible rfl|omega|(simp only[nA,nS,nD]<;>omega)|fail)only[go_sem]
 refine W_gen (P:=fun tm=>(Opd.t 2).ev tm=.ptr h.next 0∧(Opd.t 3).ev tm=.ptr (h.next+1) 0∧(Opd.t 4).ev tm=.ptr (h.next+1+1) 0∧(Opd.t 5).ev tm=.ptr (h.next+1+1+1) 0∧(Opd.t 11).ev tm=.fn 67 [] []) ⟨(by simp[ev_c,ev_put]<;>rfl),(by simp[ev_c,ev_put]<;>rfl),(by simp[ev_c,ev_put]<;>rfl),(by simp[ev_c,ev_put]<;>rfl),(by simp[ev_c,ev_put]<;>rfl)⟩ fun tm ⟨t2,t3,t4,t5,t11⟩=>?_
 refine W_rf t11 ?_
 generalize hr:LoopR.mk _ _ _ _ _ _ _ _ _=r0
 have fB:=congrArg LoopR.body hr
 have fA:=congrArg LoopR.assign hr
 have fN:=congrArg LoopR.n hr
 have fF:=congrArg LoopR.fn hr
 have fP:=congrArg LoopR.ps hr
 have fT:=congrArg LoopR.tm hr
 dsimp only at fB fA fN fF fP fT
 have hrs:r0.st=.ready:=by rw[←hr]
 have hrp:r0.pend=none:=by rw[←hr]
 have w6:=s6.wf
 have s6B:h6.Sub (h6.add .dfr):=(H.Sub.refl w6).add _
 have lB:(h6.add .dfr).next=h6.next+1:=H.next_add _ _
 have gB:(h6.add .dfr).get h6.next=some .dfr:=get_add_new rfl
 obtain⟨I,hI⟩:∃I:H→Prop,∀z,I z↔(h6.add .dfr).Sub z∧z.get (h6.next+1)=some (.loop r0):=⟨_,fun _=>Iff.rfl⟩
 obtain⟨S,hS⟩:∃S:Int→Int→Int→H→Prop,∀b p e z,S b p e z↔h.Sub z∧z.get (h.next+1+1)=some (.cells .rw [.int .i64 b,.int .i64 p,.int .i64 e])∧z.get (h.next+1+1+1)=some (.cells .rw [.int .i64 0])∧z.get h6.next=some .dfr∧h6.next+1<z.next∧∃r,z.get (h6.next+1)=some (.loop r)∧r.st=.done∧r.pend=some .ret:=⟨_,fun _ _ _ _=>Iff.rfl⟩
 have hI0:I ((h6.add .dfr).add (.loop r0)):=(hI _).2 ⟨(H.Sub.refl (H.wf_add w6 _)).add _,get_add_new (by rw[lB])⟩
 refine(pieces1_gen (y:=.yld (h6.next+1)) (ok:=fun p=>hasS A p=hasS B p) (I:=I) (S:=S) (fun b p e z hb hp he hIz=>?_) hI0).mono fun u h7 hu=>?_
 ·obtain⟨sx,gx⟩:=(hI _).1 hIz
  have lx:=sx.next
  have gxd:=sx.get gB
  have wx:=sx.wf
  have hlx:=wx _ _ gx
  unfold RoundP
  refine Ev.gen fun Q2 q2=>?_
  refine Ev_yld (tm:=tm.put (some (.agg [.int .i64 (b:Int),.int .i64 (p:Int),.int .i64 (e:Int)])) 12) gx (by rw[←fP,←fT];rfl) ?_
  rw[←fA,←fN,←fF]
  have sx2:z.Sub (z.add (.cells .rw [.int .i64 (b:Int),.int .i64 (p:Int),.int .i64 (e:Int)])):=(H.Sub.refl wx).add _
  have gw:(z.add (.cells .rw [.int .i64 (b:Int),.int .i64 (p:Int),.int .i64 (e:Int)])).cells z.next=some [.int .i64 (b:Int),.int .i64 (p:Int),.int .i64 (e:Int)]:=cells_add_new rfl
  have lw:(z.add (.cells .rw [.int .i64 (b:Int),.int .i64 (p:Int),.int .i64 (e:Int)])).next=z.next+1:=H.next_add _ _
  simp -implicitDefEqProofs(maxSteps:=999999)(disch:=first|with_reducible rfl|omega|(simp only[nA,nS,nD]<;>omega)|fail)only[go_sem,t2,t3,t4,t5]
  unfold Kasg
  refine⟨rfl,r0,sx2.get gx,hrs,?_⟩
  obtain⟨rb,hrb⟩:∃rb:LoopR,rb={r0 with st:=.busy}:=⟨_,rfl⟩
  have hrb1:({rb with st:=.ready,pend:=none}:LoopR)=r0:=by rw[hrb];exact rLoop hrs hrp
  rw[←hrb,←fB,←fN,←fF]
  generalize z.add (.cells .rw [.int .i64 (b:Int),.int .i64 (p:Int),.int .i64 (e:Int)])=hy1 at sx2 gw lw⊢
  have sB3:(h6.add .dfr).Sub (hy1.set (h6.next+1) (.loop rb)):=(sx.trans sx2).set (by omega) (by omega) (H.wf_add w6 _) _
  have gl3:(hy1.set (h6.next+1) (.loop rb)).get (h6.next+1)=some (.loop rb):=get_set_same rfl
  have cw:(hy1.set (h6.next+1) (.loop rb)).cells z.next=some [.int .i64 (b:Int),.int .i64 (p:Int),.int .i64 (e:Int)]:=by rw[cells_set_other (by omega)];exact gw
  have l3:(hy1.set (h6.next+1) (.loop rb)).next=z.next+1:=by rw[H.next_set];exact lw
  generalize hy1.set (h6.next+1) (.loop rb)=h3 at sB3 gl3 cw l3⊢
  have s63:=s6B.trans sB3
  have c0:=cells_of (s63.get g0)
  simp -implicitDefEqProofs(maxSteps:=999999)(disch:=first|with_reducible rfl|omega|(simp only[nA,nS,nD]<;>omega)|fail)only[go_sem,t2,t3,t4,t5,c0,cw]
  refine priced_ev sB3.wf (hx.mono (s6.trans s63)) hA uA _ _ _ _ fun h4 s4=>?_
  have c1:=cells_of ((s63.trans s4).get g1)
  have cw4:=s4.cells cw
  simp -implicitDefEqProofs(maxSteps:=999999)(disch:=first|with_reducible rfl|omega|(simp only[nA,nS,nD]<;>omega)|fail)only[go_sem,t2,t3,t4,t5,c1,cw4]
  refine priced_ev s4.wf (hy.mono ((s6.trans s63).trans s4)) hB uB _ _ _ _ fun h5 s5=>?_
  have s35:=s4.trans s5
  have l5:=s35.next
  have fin:I (h5.set (h6.next+1) (.loop {rb with st:=.ready,pend:=none})):=(hI _).2 ⟨(sB3.trans s35).set (by omega) (by omega) (H.wf_add w6 _) _,by rw[get_set_same rfl,hrb1]⟩
  have cw5:=s5.cells cw4
  have r4y:=(s63.trans s35).get g2
  have r5y:=(s63.trans s35).get g3
  have gd5:=(sB3.trans s35).get gB
  have gl5:=s35.get gl3
  have np:¬10+(p:Int)=0:=by omega
  have np2:¬0=10+(p:Int):=by omega
  have bad:hasS A p≠hasS B p→∀tm':Go.Ab.T V,Kround (h6.next+1) Q2 .ret ⟨tm',(h5.set (h.next+1+1) (.cells .rw [.int .i64 (b:Int),.int .i64 (p:Int),.int .i64 (e:Int)])).set (h.next+1+1+1) (.cells .rw [.int .i64 0]),[]⟩:=fun hne tm'=>by
   unfold Kround
   refine⟨rb,by rw[get_set_other (by omega),get_set_other (by omega)];exact gl5,q2 _ _ (.inr ⟨hne,rfl,(hS _ _ _ _).2 ⟨?_,?_,?_,?_,?_,_,get_set_same rfl,rfl,rfl⟩⟩)⟩
   ·exact((((s6.trans s63).trans s35).set (by omega) (by omega) hw _).set (by omega) (by rw[H.next_set];omega) hw _).set (by omega) (by simp only[H.next_set];omega) hw _
   ·rw[get_set_other (by omega),get_set_other (by omega),get_set_same rfl]
   ·rw[get_set_other (by omega),get_set_same rfl]
   ·rw[get_set_other (by omega),get_set_other (by omega),get_set_other (by omega)];exact gd5
   ·simp only[H.next_set];omega
  cases ha:hasS A (p:Int)<;>cases hb2:hasS B (p:Int)
  ·have e1:prP A (p:Int)=0:=by simp[prP,ha]
   have e2:prP B (p:Int)=0:=by simp[prP,hb2]
   have e3:erP A (p:Int)=6:=by simp[erP,ha]
   have e4:erP B (p:Int)=6:=by simp[erP,hb2]
   simp -implicitDefEqProofs(maxSteps:=999999)(disch:=first|with_reducible rfl|omega|(simp only[nA,nS,nD]<;>omega)|fail)only[go_sem,t2,t3,t4,t5,e1,e2,e3,e4,ne_eq,not_true_eq_false]
   unfold Kround
   exact⟨rb,gl5,q2 _ _ (.inl ⟨ha.trans hb2.symm,rfl,fin⟩)⟩
  ·have e1:prP A (p:Int)=0:=by simp[prP,ha]
   have e2:prP B (p:Int)=10+(p:Int):=by simp[prP,hb2]
   simp -implicitDefEqProofs(maxSteps:=999999)(disch:=first|with_reducible rfl|omega|(simp only[nA,nS,nD]<;>omega)|fail)only[go_sem,t2,t3,t4,t5,e1,e2,np2,ne_eq,not_false_eq_true,cw5,r4y,r5y]
   have hne:hasS A (p:Int)≠hasS B (p:Int):=by rw[ha,hb2];simp
   exact bad hne _
  ·have e1:prP A (p:Int)=10+(p:Int):=by simp[prP,ha]
   have e2:prP B (p:Int)=0:=by simp[prP,hb2]
   simp -implicitDefEqProofs(maxSteps:=999999)(disch:=first|with_reducible rfl|omega|(simp only[nA,nS,nD]<;>omega)|fail)only[go_sem,t2,t3,t4,t5,e1,e2,np,ne_eq,not_false_eq_true,cw5,r4y,r5y]
   have hne:hasS A (p:Int)≠hasS B (p:Int):=by rw[ha,hb2];simp
   exact bad hne _
  ·have e1:prP A (p:Int)=10+(p:Int):=by simp[prP,ha]
   have e2:prP B (p:Int)=10+(p:Int):=by simp[prP,hb2]
   have e3:erP A (p:Int)=0:=by simp[erP,ha]
   have e4:erP B (p:Int)=0:=by simp[erP,hb2]
   simp -implicitDefEqProofs(maxSteps:=999999)(disch:=first|with_reducible rfl|omega|(simp only[nA,nS,nD]<;>omega)|fail)only[go_sem,t2,t3,t4,t5,e1,e2,e3,e4,ne_eq,not_true_eq_false]
   unfold Kround
   exact⟨rb,gl5,q2 _ _ (.inl ⟨ha.trans hb2.symm,rfl,fin⟩)⟩
 ·rcases hu with⟨hall,hI7⟩|⟨p,hp,hne,hlt,hS7⟩
  ·obtain⟨s7,g7⟩:=(hI _).1 hI7
   have l7:=s7.next
   have lt7:=s7.wf _ _ g7
   have gd7:=s7.get gB
   have r7:=(s6B.trans s7).get g2
   have r8:=(s6B.trans s7).get g3
   refine⟨r0,g7,by rw[hrs];simp,?_⟩
   rw[hrp]
   have s77:h.Sub (h7.set (h6.next+1) (.loop {r0 with st:=.exhausted})):=((s6.trans s6B).trans s7).set (by omega) (by omega) hw _
   have r77:(h7.set (h6.next+1) (.loop {r0 with st:=.exhausted})).get (h.next+1+1)=some (.cells .rw [.int .i64 0,.int .i64 0,.int .i64 0]):=by rw[get_set_other (by omega)];exact r7
   have r88:(h7.set (h6.next+1) (.loop {r0 with st:=.exhausted})).get (h.next+1+1+1)=some (.cells .rw [.int .i64 0]):=by rw[get_set_other (by omega)];exact r8
   have d77:(h7.set (h6.next+1) (.loop {r0 with st:=.exhausted})).get h6.next=some .dfr:=by rw[get_set_other (by omega)];exact gd7
   have l77:(h7.set (h6.next+1) (.loop {r0 with st:=.exhausted})).next=h7.next:=H.next_set _ _ _
   rw[hrp] at s77 r77 r88 d77 l77
   generalize h7.set (h6.next+1) _=h8 at s77 r77 r88 d77 l77⊢
   have d8:((h8.set (h.next+1+1) (.cells .rw [.int .i64 0,.int .i64 0,.int .i64 0])).set (h.next+1+1+1) (.cells .rw [.int .i64 6])).get h6.next=some .dfr:=by rw[get_set_other (by omega),get_set_other (by omega)];exact d77
   simp -implicitDefEqProofs(maxSteps:=999999)(disch:=first|with_reducible rfl|omega|(simp only[nA,nS,nD]<;>omega)|fail)only[go_sem,t2,t3,t4,t5,r77,r88,cells_of r77,cells_of r88,Kfin_ret1 _ _ _ d8]
   exact q1 hall _ (H.Sub.del (b:=h6.next) ((s77.set (b:=h.next+1+1) (by omega) (by omega) hw _).set (b:=h.next+1+1+1) (by omega) (by rw[H.next_set];omega) hw _) (by omega) hw)
  ·obtain⟨s7,r7,r8,d7,l7,r,g7,hst,hpd⟩:=(hS _ _ _ _).1 hS7
   refine⟨r,g7,by rw[hst];simp,?_⟩
   rw[hpd]
   have s77:h.Sub (h7.set (h6.next+1) (.loop {r with st:=.exhausted})):=s7.set (by omega) (by omega) hw _
   have r77:(h7.set (h6.next+1) (.loop {r with st:=.exhausted})).get (h.next+1+1)=some (.cells .rw [.int .i64 0,.int .i64 (p:Int),.int .i64 0]):=by rw[get_set_other (by omega)];exact r7
   have r88:(h7.set (h6.next+1) (.loop {r with st:=.exhausted})).get (h.next+1+1+1)=some (.cells .rw [.int .i64 0]):=by rw[get_set_other (by omega)];exact r8
   have d77:(h7.set (h6.next+1) (.loop {r with st:=.exhausted})).get h6.next=some .dfr:=by rw[get_set_other (by omega)];exact d7
   rw[hpd] at s77 r77 r88 d77
   generalize h7.set (h6.next+1) _=h8 at s77 r77 r88 d77⊢
   simp -implicitDefEqProofs(maxSteps:=999999)(disch:=first|with_reducible rfl|omega|(simp only[nA,nS,nD]<;>omega)|fail)only[go_sem,t2,t3,t4,t5,r77,r88,cells_of r77,cells_of r88,Kfin_ret1 _ _ _ d77]
   exact q2 p hp hne hlt _ (H.Sub.del (b:=h6.next) s77 (by omega) hw)
end Go.Ab.Try
namespace Go.Ab
noncomputable def slcM (h:H)(sz:Nat)(x lo hi mx:V):Option V:=q_slc .nil h sz x (some (.c lo)) (some (.c hi)) (some (.c mx))
theorem q_slc_m (tm:T V)(h:H)(sz:Nat)(x:V)(lo hi mx:Opd):q_slc tm h sz x (some lo) (some hi) (some mx)=slcM h sz x (lo.ev tm) (hi.ev tm) (mx.ev tm):=rfl
noncomputable def slcB (h:H)(sz:Nat)(x lo hi:V):Option V:=q_slc .nil h sz x (some (.c lo)) (some (.c hi)) none
theorem q_slc_b (tm:T V)(h:H)(sz:Nat)(x:V)(lo hi:Opd):q_slc tm h sz x (some lo) (some hi) none=slcB h sz x (lo.ev tm) (hi.ev tm):=rfl
noncomputable def slcF (h:H)(sz:Nat)(x k:V):Option V:=q_slc .nil h sz x (some (.c k)) none none
theorem q_slc_f (tm:T V)(h:H)(sz:Nat)(x:V)(y:Opd):q_slc tm h sz x (some y) none none=slcF h sz x (y.ev tm):=rfl
namespace Try
set_option maxHeartbeats 2000000 in
theorem delRule_ev {h:H}{b:Nat}{R:List (List V)}{k:Nat}(hw:h.wf)(hz:∀r∈R,r.length=4)(ho:allOne R.flatten=true)(hb:h.get b=some (.cells (.gr 4) R.flatten))(hk:k<R.length)(hl:R.length≤1000)(Q:V→H→Prop)
  (q:∀h',Keeps (fun c=>c=b) h h'→h'.wf→h'.get b=some (.cells (.gr 4) ((R.eraseIdx k).flatten++[.int .i64 0,.int .i64 0,.int .i64 0,.int .i64 0]))→Q (.sl b 0 (R.eraseIdx k).length (.slk 0 0)) h'):Ev fnG fastA (.fn 31 [] []) [.sl b 0 R.length (.slk 0 0),.int .i64 (k:Int),.int .i64 ((k+1:Nat):Int)] h Q:=by
 have lb:=hw _ _ hb
 have hel:(R.eraseIdx k).length=R.length-1:=List.length_eraseIdx_of_lt hk
 have her:R.eraseIdx k=R.take k++R.drop (k+1):=List.eraseIdx_eq_take_drop_succ R k
 have hzE:∀r∈R.eraseIdx k,r.length=4:=fun r hr=>hz r (List.mem_of_mem_eraseIdx hr)
 have hi:∀(n:Nat) tm,(Opd.c (.int .i64 (n:Int))).ev tm=.int .i64 (n:Int):=fun _ _=>rfl
 have lF:=flatten_len hz
 have lE:=flatten_len hzE
 rw[hel] at lE
 have b1:Nat.ble k (k+1)=true:=by simp
 have b2:Nat.ble (k+1) R.length=true:=by simp;omega
 have b3:Nat.ble R.length R.length=true:=by simp
 have b4:Nat.blt 0 R.length=true:=by rw[Nat.blt_eq];omega
 have b5:Nat.beq 4 4=true:=rfl
 have b6:Nat.beq 0 (0*4)=true:=rfl
 have b7:Nat.ble 0 k=true:=by simp
 have b8:Nat.ble k R.length=true:=by simp;omega
 have b9:Nat.blt 0 (R.length+k)=true:=by rw[Nat.blt_eq];omega
 have b10:Nat.blt 0 (R.length+R.length)=true:=by rw[Nat.blt_eq];omega
 have ok:slkOk h b 0 0 R.length 4=true:=by
  have:Nat.ble (0+R.length*4) R.flatten.length=true:=by rw[lF];simp
  simp only[slkOk,hb,b5,b6,lenN_eq,this]
 have rm:slkRoom h b 0 4=R.length:=by simp only[slkRoom,hb,lenN_eq,lF];omega
 have e1:slcM h 4 (.sl b 0 R.length (.slk 0 0)) (.int .i64 (k:Int)) (.int .i64 ((k+1:Nat):Int)) (.int .i64 (R.length:Int))=some (sub b 0 4 (k,k+1,R.length)):=by
  simp only[slcM,q_slc,ok,og_true,b4,bnd3,natO,hi,natk_cst,bnds,b1,b2,b3,subO]
 have e2:slcTo h 4 (.sl b 0 R.length (.slk 0 0)) (.int .i64 (k:Int))=some (.sl b 0 k (.slk 0 0)):=by
  simp only[slcTo,q_slc,ok,og_true,rm,bnd3,natO,hi,natk_cst,bnds,b3,b7,b8,subS,b9,Nat.sub_zero,Nat.zero_mul,Nat.add_zero]
 have e3:slcF h 4 (.sl b 0 R.length (.slk 0 0)) (.int .i64 ((k+1:Nat):Int))=some (.sl b ((k+1)*4) (R.length-(k+1)) (.slk (k+1) 0)):=by
  simp only[slcF,q_slc,ok,og_true,rm,bnd3,natO,hi,natk_cst,bnds,b3,b2,subS,b10,Nat.zero_add]
 have hne:¬(k:Int)=((k+1:Nat):Int):=by omega
 have split:R.flatten=(R.take k).flatten++R[k]++(R.drop (k+1)).flatten:=by
  have h1:R.take k++R[k]::R.drop (k+1)=R:=by rw[←List.drop_eq_getElem_cons hk,List.take_append_drop]
  have:=congrArg List.flatten h1
  rw[List.flatten_append,List.flatten_cons,←List.append_assoc] at this
  exact this.symm
 have lT:(R.take k).flatten.length=k*4:=by rw[flatten_len fun r hr=>hz r (List.mem_of_mem_take hr),List.length_take,Nat.min_eq_left (by omega)]
 have lD:(R.drop (k+1)).flatten.length=(R.length-(k+1))*4:=by rw[flatten_len fun r hr=>hz r (List.mem_of_mem_drop hr),List.length_drop]
 have lk:R[k].length=4:=hz _ (List.getElem_mem hk)
 refine Ev_body (fd:=c31) rfl rfl rfl ?_
 have key:∃h2,e_app' h 4 32 (.sl b 0 k (.slk 0 0)) (.sl b ((k+1)*4) (R.length-(k+1)) (.slk (k+1) 0))=some (.sl b 0 (R.length-1) (.slk 0 0),h2)∧Keeps (fun c=>c=b) h h2∧h2.wf∧∃y:List V,y.length=4∧h2.get b=some (.cells (.gr 4) ((R.eraseIdx k).flatten++y)):=by
  rw[e_app_eq]
  cases hn:R.length-(k+1) with
  |zero=>
   have hk1:k=R.length-1:=by omega
   have hok:slkOk h b 0 0 k 4=true:=by
    have:Nat.ble (0+k*4) R.flatten.length=true:=by rw[lF];simp;omega
    simp only[slkOk,hb,b5,b6,lenN_eq,this]
   refine⟨h,?_,Keeps.refl _ _,hw,R[k],lk,?_⟩
   ·simp only[elems,ob_some,lenV_sl,e_app,hok,og_true]
    rw[hk1]
   ·rw[hb,her]
    have hd:R.drop (k+1)=[]:=List.drop_eq_nil_of_le (by omega)
    rw[split,hd];simp
  |succ j=>
   have hget:getN ((k+1)*4) ((j+1)*4) R.flatten=some (R.drop (k+1)).flatten:=getN_eq.2 ⟨by
    rw[split,List.drop_append_of_le_length (by rw[List.length_append,lT,lk];omega)]
    have:((R.take k).flatten++R[k]).drop ((k+1)*4)=[]:=List.drop_eq_nil_of_le (by rw[List.length_append,lT,lk];omega)
    rw[this,List.nil_append,List.take_of_length_le (by rw[lD,hn];exact Nat.le_refl _)],by rw[lF];omega⟩
   have f1:Nat.ble (0+(k+(j+1))*4) R.flatten.length=true:=by rw[lF,Nat.ble_eq];omega
   have hone:allOne (R.drop (k+1)).flatten=true:=by
    rw[allOne_eq] at ho⊢
    intro v hv;exact ho v (by rw[split];simp only[List.mem_append];exact .inr hv)
   obtain⟨v,vs,hv⟩:∃v vs,(R.drop (k+1)).flatten=v::vs:=by
    cases e:(R.drop (k+1)).flatten with
    |nil=>have:=congrArg List.length e;rw[lD,hn] at this;simp at this
    |cons v vs=>exact⟨v,vs,rfl⟩
   have hp:putN (0+k*4) (R.drop (k+1)).flatten R.flatten=some ((R.eraseIdx k).flatten++(R[k]++(R.drop (k+1)).flatten).drop ((j+1)*4)):=by
    have h0:R[k]++(R.drop (k+1)).flatten=(R[k]++(R.drop (k+1)).flatten).take ((j+1)*4)++(R[k]++(R.drop (k+1)).flatten).drop ((j+1)*4):=(List.take_append_drop _ _).symm
    have:=putN_app (pre:=(R.take k).flatten) (new:=(R.drop (k+1)).flatten) (old:=(R[k]++(R.drop (k+1)).flatten).take ((j+1)*4)) (rest:=(R[k]++(R.drop (k+1)).flatten).drop ((j+1)*4)) (by rw[lD,hn,List.length_take,List.length_append,lk,lD,hn];omega)
    rw[lT,List.append_assoc,←h0,←List.append_assoc,←split] at this
    rw[Nat.zero_add,this,her,List.flatten_append]
   have hp2:=H.put_gr (h:=h) (b:=b) (by rw[←hv];exact hone) hb (by rw[←hv];exact hp)
   rw[←hv] at hp2
   refine⟨_,?_,Keeps.set h b _,H.wf_set hw _ hb,(R[k]++(R.drop (k+1)).flatten).drop ((j+1)*4),by rw[List.length_drop,List.length_append,lk,lD,hn];omega,get_set_same rfl⟩
   simp only[elems,cells_of hb,hget,ob_some,lenV_sl,e_app,appSlk,hb,b5,b6,og_true,lenN_eq,f1,hp2,withV_some]
   rw[show k+(j+1)=R.length-1 by omega]
 obtain⟨h2,ka,k2,w2,y,ly,g2⟩:=key
 have lm2:((R.eraseIdx k).flatten++y).length=R.length*4:=by rw[List.length_append,lE,ly];omega
 have ok2:slkOk h2 b 0 0 (R.length-1) 4=true:=by
  have:Nat.ble (0+(R.length-1)*4) ((R.eraseIdx k).flatten++y).length=true:=by rw[lm2,Nat.ble_eq];omega
  simp only[slkOk,g2,b5,b6,lenN_eq,this]
 have rm2:slkRoom h2 b 0 4=R.length:=by simp only[slkRoom,g2,lenN_eq,lm2];omega
 have d1:Nat.ble (R.length-1) R.length=true:=by simp
 have d2:Nat.blt 0 (R.length-1+R.length)=true:=by rw[Nat.blt_eq];omega
 have e4:slcB h2 4 (.sl b 0 (R.length-1) (.slk 0 0)) (.int .i64 ((R.length-1:Nat):Int)) (.int .i64 (R.length:Int))=some (.sl b ((R.length-1)*4) 1 (.slk (R.length-1) 0)):=by
  simp only[slcB,q_slc,ok2,og_true,rm2,bnd3,natO,hi,natk_cst,bnds,d1,b3,subS,d2,Nat.zero_add]
  rw[show R.length-(R.length-1)=1 by omega]
 have hp3:putN ((R.length-1)*4) [.int .i64 0,.int .i64 0,.int .i64 0,.int .i64 0] ((R.eraseIdx k).flatten++y)=some ((R.eraseIdx k).flatten++[.int .i64 0,.int .i64 0,.int .i64 0,.int .i64 0]):=by
  have:=putN_app (pre:=(R.eraseIdx k).flatten) (new:=[V.int .i64 0,.int .i64 0,.int .i64 0,.int .i64 0]) (old:=y) (rest:=[]) (by rw[ly];rfl)
  rw[lE] at this
  simpa using this
 have e5:e_clr h2 [.int .i64 0,.int .i64 0,.int .i64 0,.int .i64 0] (.sl b ((R.length-1)*4) 1 (.slk (R.length-1) 0))=some (.und,h2.set b (.cells (.gr 4) ((R.eraseIdx k).flatten++[.int .i64 0,.int .i64 0,.int .i64 0,.int .i64 0]))):=by
  have hr:repN 1 [V.int .i64 0,.int .i64 0,.int .i64 0,.int .i64 0]=[.int .i64 0,.int .i64 0,.int .i64 0,.int .i64 0]:=rfl
  rw[e_clr_sl,hr,H.put_gr (by rfl) g2 hp3,withV_some]
 simp -implicitDefEqProofs(maxSteps:=999999)(disch:=first|with_reducible rfl|omega|(simp only[nA,nS,nD]<;>omega)|fail)only[c31,go_sem,q_slc_m,q_slc_to,q_slc_f,q_slc_b,e1,hne,e2,e3,ka,e4,e5,evQ_slc]
 rw[←hel]
 exact q _ ((k2.trans (Keeps.set h2 b _)).mono fun c h=>h.elim id id) (H.wf_set w2 _ g2) (get_set_same rfl)
theorem cloneRule_ev {h:H}{x:V}{rows:List (List V)}(hw:h.wf)(hx:SlAt h x 4 rows)(h0:0<rows.length)(hl:rows.length≤1000)(Q:V→H→Prop)(q:∀b h',h.Sub h'→h.next≤b→h'.get b=some (.cells (.gr 4) rows.flatten)→Q (.sl b 0 rows.length (.slk 0 0)) h'):Ev fnG fastA (.fn 32 [] []) [x] h Q:=by
 refine Ev_body (fd:=c32) rfl rfl rfl ?_
 rcases hx.2.2 with⟨rfl,e⟩|⟨b,o,c,cs,rfl,_⟩
 ·rw[e] at h0;simp at h0
 ·simp -implicitDefEqProofs(maxSteps:=999999)(disch:=first|with_reducible rfl|omega|(simp only[nA,nS,nD]<;>omega)|fail)only[c32,go_sem]
  have s1:h.Sub (h.add (.cells .rw [])):=(H.Sub.refl hw).add _
  have hx1:=(hx.mono s1).elems
  obtain⟨k,hk⟩:∃k,rows.length=k+1:=⟨rows.length-1,by omega⟩
  rw[e_app_eq,hx1.1,hx1.2]
  simp only[ob_some]
  rw[hk,e_app_full (by omega) (elems_0 _ _ _ _ _) (by simp only[Nat.zero_add];omega) (by omega),grown_eq,P2_some]
  simp -implicitDefEqProofs(maxSteps:=999999)(disch:=first|with_reducible rfl|omega|(simp only[nA,nS,nD]<;>omega)|fail)only[go_sem]
  have:=q (h.next+1) ((h.add (.cells .rw [])).add (.cells (.gr 4) rows.flatten)) (s1.add _) (by omega) (get_add_new (by rw[H.next_add]))
  rw[hk] at this
  simpa using this
theorem has_range (n:Nat)(p:Nat):hasS (List.range n) (p:Int)=decide (p<n):=by
 rw[hasS,Bool.eq_iff_iff,List.any_eq_true,decide_eq_true_eq]
 constructor
 ·rintro⟨s,hs,e⟩
  rw[decide_eq_true_eq] at e
  have:=List.mem_range.1 hs
  omega
 ·intro h
  exact⟨p,List.mem_range.2 h,by simp⟩
theorem has_erase (n k p:Nat)(hk:k<n):hasS ((List.range n).eraseIdx k) (p:Int)=decide (p<n∧p≠k):=by
 rw[hasS,Bool.eq_iff_iff,List.any_eq_true,decide_eq_true_eq,List.eraseIdx_eq_take_drop_succ]
 constructor
 ·rintro⟨s,hs,e⟩
  rw[decide_eq_true_eq] at e
  have e:s=p:=by omega
  subst e
  rcases List.mem_append.1 hs with h|h
  ·rw[List.take_range] at h
   have:=List.mem_range.1 h
   omega
  ·obtain⟨i,hi,e⟩:=List.getElem_of_mem h
   rw[List.getElem_drop,List.getElem_range] at e
   rw[List.length_drop,List.length_range] at hi
   omega
 ·rintro⟨h1,h2⟩
  refine⟨p,?_,by simp⟩
  by_cases h:p<k
  ·exact List.mem_append.2 (.inl (by rw[List.take_range];exact List.mem_range.2 (by omega)))
  ·refine List.mem_append.2 (.inr (List.mem_iff_getElem.2 ⟨p-(k+1),by rw[List.length_drop,List.length_range];omega,?_⟩))
   rw[List.getElem_drop,List.getElem_range];omega
set_option maxHeartbeats 2000000 in
theorem witness2_ev {F:Nat→Prop}{h:H}{x:V}{n k:Nat}(hw:h.wf)(cx:CutO F h x 4 ((List.range n).map encRu))(hn:n≤5)(hk:k<n)(Q:V→H→Prop)(q:∀h',h.Sub h'→Q (.tup [.agg [.int .i64 0,.int .i64 (k:Int),.int .i64 0],.int .i64 0]) h'):
  Ev fnG fastA (.fn 13 [] []) [x,.int .i64 (k:Int)] h Q:=by
 have nd:(List.range n).Nodup:=List.nodup_range
 have hlr:(List.range n).length=n:=List.length_range
 have hx:=cx.sl (by rw[List.length_map,hlr];omega)
 refine Ev_body (fd:=c13) rfl rfl rfl ?_
 have s0:=(H.Sub.refl hw).add (.cells .rw [.int .i64 0,.int .i64 0,.int .i64 0])
 have g0:(h.add (.cells .rw [.int .i64 0,.int .i64 0,.int .i64 0])).get h.next=some (.cells .rw [.int .i64 0,.int .i64 0,.int .i64 0]):=get_add_new rfl
 have l0:(h.add (.cells .rw [.int .i64 0,.int .i64 0,.int .i64 0])).next=h.next+1:=H.next_add _ _
 simp -implicitDefEqProofs(maxSteps:=999999)(disch:=first|with_reducible rfl|omega|(simp only[nA,nS,nD]<;>omega)|fail)only[c13,go_sem]
 generalize h.add (.cells .rw [.int .i64 0,.int .i64 0,.int .i64 0])=h0 at s0 g0 l0⊢
 refine pcheck_ev s0.wf (cx.mono s0) (by omega) nd (fun s hs=>by have:=List.mem_range.1 hs;omega) _ fun h1 s1=>?_
 have hlen:=hx.lenE
 rw[hlr] at hlen
 have w1:wr .i64 ((n:Int)-1)=(n:Int)-1:=wr_in (by omega) (by omega)
 have w2:wr .i64 ((k:Int)+1)=((k+1:Nat):Int):=by rw[wr_in (by omega) (by omega)];omega
 have hin:inB (k:Int) 0 ((n:Int)-1)=true:=decide_eq_true (by omega)
 simp -implicitDefEqProofs(maxSteps:=999999)(disch:=first|with_reducible rfl|omega|(simp only[nA,nS,nD]<;>omega)|fail)only[go_sem,ne_eq,not_true_eq_false,hlen,w1,pin_ev,hin,w2]
 have s01:=s0.trans s1
 refine cloneRule_ev s1.wf (hx.mono s01) (by rw[List.length_map,hlr];omega) (by rw[List.length_map,hlr];omega) _ fun b h2 s2 lb gb=>?_
 have rl:((List.range n).map encRu).length=n:=by rw[List.length_map,hlr]
 have hzR:∀r∈(List.range n).map encRu,r.length=4:=hx.1
 have hoR:allOne ((List.range n).map encRu).flatten=true:=by
  rw[allOne_eq]
  intro v hv
  obtain⟨r,hr,hv⟩:=List.mem_flatten.1 hv
  obtain⟨s,_,rfl⟩:=List.mem_map.1 hr
  simp only[encRu,List.mem_cons,List.not_mem_nil,or_false] at hv
  rcases hv with rfl|rfl|rfl|rfl<;>rfl
 simp -implicitDefEqProofs(maxSteps:=999999)(disch:=first|with_reducible rfl|omega|(simp only[nA,nS,nD]<;>omega)|fail)only[go_sem,w2]
 refine delRule_ev s2.wf hzR hoR gb (by rw[rl];exact hk) (by rw[rl];omega) _ fun h3 k3 w3 g3=>?_
 have s13:h1.Sub h3:=k3.sub s2 s1.wf (fun c hc=>by rw[hc];exact lb) w3
 have eR:((List.range n).map encRu).eraseIdx k=((List.range n).eraseIdx k).map encRu:=by rw[List.eraseIdx_eq_take_drop_succ,List.eraseIdx_eq_take_drop_succ,List.map_append,List.map_take,List.map_drop]
 have hel:((List.range n).eraseIdx k).length=n-1:=by rw[List.length_eraseIdx_of_lt (by rw[hlr];exact hk),hlr]
 rw[eR] at g3⊢
 have hzE:∀r∈((List.range n).eraseIdx k).map encRu,r.length=4:=fun r hr=>by
  obtain⟨s,_,rfl⟩:=List.mem_map.1 hr;rfl
 have fE:=flatten_len hzE
 have ay:SlAt h3 (.sl b 0 (((List.range n).eraseIdx k).map encRu).length (.slk 0 0)) 4 (((List.range n).eraseIdx k).map encRu):=⟨hzE,by rw[List.length_map,hel];omega,.inr ⟨b,0,_,_,rfl,.inr (cells_of g3),getN_eq.2 ⟨by rw[List.drop_zero,←fE,List.take_left'];rfl,by rw[List.length_append,fE];omega⟩⟩⟩
 have s03:=s01.trans s13
 have g4:=(s1.trans s13).get g0
 have dec:∀p:Nat,hasS (List.range n) (p:Int)≠hasS ((List.range n).eraseIdx k) (p:Int)→p=k:=fun p hp=>by
  rw[has_range,has_erase n k p hk] at hp
  by_cases e:p=k
  ·exact e
  ·exact absurd (by rw[decide_eq_decide];omega) hp
 have dek:hasS (List.range n) (k:Int)≠hasS ((List.range n).eraseIdx k) (k:Int):=by
  rw[has_range,has_erase n k k hk];simp[hk]
 simp -implicitDefEqProofs(maxSteps:=999999)(disch:=first|with_reducible rfl|omega|(simp only[nA,nS,nD]<;>omega)|fail)only[go_sem]
 refine differ_ev w3 (hx.mono s03) ay (by omega) (by omega) nd (nd.sublist (List.eraseIdx_sublist ..)) _ (fun hall=>absurd (hall k (by omega)) dek) fun p hp hne _ h4 s4=>?_
 have e:=dec p hne
 subst e
 have g5:=s4.get g4
 simp -implicitDefEqProofs(maxSteps:=999999)(disch:=first|with_reducible rfl|omega|(simp only[nA,nS,nD]<;>omega)|fail)only[go_sem,g5,cells_of g5]
 exact q _ ((s03.trans s4).set (by omega) (by have:=H.lt_next s4.wf g5;omega) hw _)
end Try
end Go.Ab
namespace Go.Ab
theorem SlAt_keep2 {h h':H}{S:Nat→Prop}{x:V}{sz:Nat}{rows:List (List V)}(a:SlAt h x sz rows)(k:Keeps S h h')(n:rows≠[]→∀b,blkOf x b→¬S b):SlAt h' x sz rows:=by
 obtain⟨a1,a0,a2⟩:=a
 refine⟨a1,a0,?_⟩
 rcases a2 with a2|⟨b,o,c,cs,e1,e2,e3⟩
 ·exact .inl a2
 ·refine .inr ⟨b,o,c,cs,e1,?_,e3⟩
  by_cases hr:rows=[]
  ·exact .inl hr
  ·exact .inr (k.cells (e2.resolve_left hr) (n hr b ⟨_,_,_,e1⟩))
end Go.Ab
namespace Go.Ab.Try
open Go.Ab.Silk (comb)
theorem find_step (P:List Int→Bool)(l:List Int)(k f:Nat)(j:Int):(comb (k+1) (f+1) j).find? (fun c=>P (l++c))=
  match(comb k f (j+1)).find? (fun c=>P ((l++[j])++c)) with|some c=>some (j::c)|none=>(comb (k+1) f (j+1)).find? (fun c=>P (l++c)):=by
 simp only[comb,List.find?_append,List.find?_map]
 have e:(fun c=>P (l++c))∘ (fun l'=>j::l')=fun c=>P ((l++[j])++c):=by
  funext c;simp
 rw[e]
 cases(comb k f (j+1)).find? (fun c=>P ((l++[j])++c))<;>simp
theorem cloneInt_ev {h:H}{x:V}{rows:List (List V)}(hw:h.wf)(hx:SlAt h x 1 rows)(hl:rows.length≤1000000)(Q:V→H→Prop)(q:∀v h',OwnC h h' v 1 rows→Q v h'):Ev fnG fastA (.fn 41 [] []) [x] h Q:=by
 refine Ev_body (fd:=c41) rfl rfl rfl ?_
 rcases hx.2.2 with⟨rfl,e⟩|⟨b,o,c,cs,rfl,_⟩
 ·simp(disch:=first|omega|simp only[nZ]<;>omega|fail)only[c41,go_sem]
  exact q _ _ (by rw[e];exact(OwnSl.nil (H.Sub.refl hw) 1).c)
 ·simp(disch:=first|omega|simp only[nZ]<;>omega|fail)only[c41,go_sem]
  refine clone_core hw hx (by omega) (by omega) fun v h' ov=>?_
  simp(disch:=first|omega|simp only[nZ]<;>omega|fail)only[go_sem]
  exact q _ _ ov
end Go.Ab.Try
namespace Go.Ab.Try
open Go.Ab.Silk
def Ris (n:Int)(l:List Int):Prop:=l.Pairwise (· < ·)∧∀a∈l,0≤a∧a<n
theorem Ris.push {l:List Int}{i j:Int}(r:Ris i l)(h0:0≤j)(h:i≤j):Ris (j+1) (l++[j]):=by
 refine⟨List.pairwise_append.2 ⟨r.1,by simp,fun a ha b hb=>?_⟩,fun a ha=>?_⟩
 ·rw[List.mem_singleton] at hb;have:=r.2 a ha;omega
 ·rcases List.mem_append.1 ha with h1|h1
  ·have:=r.2 a h1;omega
  ·rw[List.mem_singleton] at h1;omega
def WishOf (hb:H)(n:Nat)(hv:V)(P:List Int→Bool):Prop:=∀(l:List Int) (x:V) (h1:H),Ris n l→hb.Sub h1→SlAt h1 x 1 (l.map encI)→∀R:V→H→Prop,(∀h2,h1.Sub h2→R (.bool (P l)) h2)→Ev fnG fastA hv [x] h1 R
def MoreR (P:List Int→Bool)(l:List Int)(oC:Nat)(r:Option (List Int))(t:Bool)(h':H):Prop:=match r with
 |some c=>t=true∧∃y,h'.get oC=some (.cells .rw [y])∧SlAt h' y 1 ((l++c).map encI)
 |none=>t=false∧∃y,h'.get oC=some (.cells .rw [y])
set_option maxHeartbeats 4000000 in
theorem moreP_ev {hb:H}(hwb:hb.wf){n:Nat}(hn:n≤10){hv:V}{P:List Int→Bool}(hP:WishOf hb n hv P){mC oC hC dC fC:Nat}(ho:hb.next≤oC)(n1:mC≠oC)(n2:hC≠oC)(n3:dC≠oC)(n4:fC≠oC){many:Nat}(hmany:many≤11):
  ∀(k:Nat) (h:H) (x:V) (l:List Int) (i:Nat),l.length+k=many→hb.Sub h→h.cells mC=some [.int .i64 (many:Int)]→h.cells hC=some [hv]→h.cells dC=some [.int .i64 (n:Int)]→h.cells fC=some [.fn 51 [] [.ptr mC 0,.ptr oC 0,.ptr hC 0,.ptr dC 0,.ptr fC 0]]→
   (∃y,h.get oC=some (.cells .rw [y]))→SlAt h x 1 (l.map encI)→(∀b,blkOf x b→b≠oC)→i≤n→Ris i l→∀(Q:V→H→Prop),(∀t h',Keeps (fun c=>c=oC) h h'→h'.wf→MoreR P l oC ((comb k (n-i) (i:Int)).find? fun c=>P (l++c)) t h'→Q (.bool t) h')→
   Ev fnG fastA (.fn 51 [] [.ptr mC 0,.ptr oC 0,.ptr hC 0,.ptr dC 0,.ptr fC 0]) [x,.int .i64 (i:Int)] h Q:=by
 intro k
 induction k with
 |zero=>
  intro h x l i hk hs cm ch cd cf ⟨y0,go⟩ ax nx hi hl Q q
  have hlx:=ax.lenE
  have hll:(l.length:Int)=(many:Int):=by omega
  have hlo:=hs.wf _ _ go
  refine Ev_body (fd:=c51) rfl rfl rfl ?_
  have hx1:=ax.one
  have kS:=Keeps.set h oC (.cells .rw [x])
  have wS:=H.wf_set hs.wf (.cells .rw [x]) go
  have sS:hb.Sub (h.set oC (.cells .rw [x])):=kS.sub hs hwb (fun c hc=>by omega) wS
  have axS:SlAt (h.set oC (.cells .rw [x])) x 1 (l.map encI):=SlAt_keep ax kS nx
  simp -implicitDefEqProofs(maxSteps:=999999)(disch:=first|with_reducible rfl|omega|(simp only[nA,nS,nD]<;>omega)|fail)only[c51,go_sem,hlx,hll,cm,go,hx1,cells_one hx1,ch]
  refine hP l x _ ⟨hl.1,fun a ha=>by have:=hl.2 a ha;omega⟩ sS axS _ fun h2 s2=>?_
  simp -implicitDefEqProofs(maxSteps:=999999)(disch:=first|with_reducible rfl|omega|(simp only[nA,nS,nD]<;>omega)|fail)only[go_sem]
  refine q _ _ ((kS.trans (Keeps.of s2 fun c=>c=oC)).mono fun c h=>by rcases h with h|h<;>exact h) s2.wf ?_
  have e:(comb 0 (n-i) (i:Int)).find? (fun c=>P (l++c))=if P l=true then some [] else none:=by
   simp only[comb,List.find?_cons,List.find?_nil,List.append_nil]
   cases P l<;>rfl
  rw[e]
  have go2:h2.get oC=some (.cells .rw [x]):=s2.get (get_set_same rfl)
  cases hp:P l
  ·exact⟨rfl,x,go2⟩
  ·exact⟨rfl,x,go2,by rw[List.append_nil];exact axS.mono s2⟩
 |succ k ih=>
  intro h x l i hk hs cm ch cd cf hgo ax nx hi hl Q q
  have hlx:=ax.lenE
  have hll:¬(l.length:Int)=(many:Int):=by omega
  refine Ev_body (fd:=c51) rfl rfl rfl ?_
  simp -implicitDefEqProofs(maxSteps:=999999)(disch:=first|with_reducible rfl|omega|(simp only[nA,nS,nD]<;>omega)|fail)only[c51,go_sem,hlx,hll,cm]
  refine W_count n (fun j s=>∃tm h',s=⟨tm,h',[]⟩∧Keeps (fun c=>c=oC) h h'∧h'.wf∧(∃y,h'.get oC=some (.cells .rw [y]))∧i≤j∧((comb (k+1) (n-i) (i:Int)).find? fun c=>P (l++c))=((comb (k+1) (n-j) (j:Int)).find? fun c=>P (l++c))∧
    (Opd.t 0).ev tm=x∧(Opd.t 5).ev tm=.ptr dC 0∧(Opd.t 6).ev tm=.ptr fC 0∧(Opd.t 10).ev tm=.int .i64 (j:Int))
   ?_ ?_ (i:=i) hi ⟨_,_,rfl,Keeps.refl _ _,hs.wf,hgo,Nat.le_refl _,rfl,(by simp[ev_c,ev_put]<;>rfl),(by simp[ev_c,ev_put]<;>rfl),(by simp[ev_c,ev_put]<;>rfl),(by simp[ev_c,ev_put]<;>rfl)⟩
  ·rintro j s hj ⟨tm,h',rfl,kh,wh,⟨y0,go⟩,hij,hfind,t0,t5,t6,t10⟩
   have hj':(j:Int)<(n:Int):=by omega
   have hs':hb.Sub h':=kh.sub hs hwb (fun c hc=>by omega) wh
   have cm':=kh.cells cm n1
   have ch':=kh.cells ch n2
   have cd':=kh.cells cd n3
   have cf':=kh.cells cf n4
   have ax':=SlAt_keep ax kh nx
   have hlo:=wh _ _ go
   have hll2:(l.map encI).length≤12:=by simp;omega
   simp -implicitDefEqProofs(maxSteps:=999999)(disch:=first|with_reducible rfl|omega|(simp only[nA,nS,nD]<;>omega)|fail)only[go_sem,t0,t5,t6,t10,cd',hj',cf']
   refine cloneInt_ev wh ax' (by omega) _ fun v h1 ov=>?_
   have s01:=ov.1
   have cf1:=s01.cells cf'
   simp -implicitDefEqProofs(maxSteps:=999999)(disch:=first|with_reducible rfl|omega|(simp only[nA,nS,nD]<;>omega)|fail)only[go_sem,t0,t5,t6,t10]
   have s12:=(H.Sub.refl s01.wf).add (.cells .rw [.int .i64 (j:Int)])
   refine(ov.mono s12).app1 (r:=encI (j:Int)) wh rfl (by omega) own1_lit rfl (by omega) (by omega) fun x2 h2 ox2 dx2 kx2=>?_
   have s02:=ox2.1
   have cf2:=s02.cells cf'
   have ax2:=ox2.sl (by simp only[List.length_append,List.length_singleton];omega)
   have e2:l.map encI++[encI (j:Int)]=(l++[(j:Int)]).map encI:=by simp
   rw[e2] at ax2
   simp -implicitDefEqProofs(maxSteps:=999999)(disch:=first|with_reducible rfl|omega|(simp only[nA,nS,nD]<;>omega)|fail)only[go_sem,t0,t5,t6,t10,wr_succ]
   refine ih h2 x2 (l++[(j:Int)]) (j+1) (by simp;omega) (hs'.trans s02) (s02.cells cm') (s02.cells ch') (s02.cells cd') cf2 ⟨y0,s02.get go⟩ ax2 (fun b hb=>by have:=(ox2.blk hb).1;omega) (by omega) (hl.push (by omega) (by omega)) _ fun t h3 k23 w3 hres=>?_
   have k03:Keeps (fun c=>c=oC) h h3:=((kh.trans (Keeps.of s02 fun c=>c=oC)).trans k23).mono fun c h=>by rcases h with(h|h)|h<;>exact h
   have hst:=find_step P l k (n-(j+1)) (j:Int)
   have ef:n-j=(n-(j+1))+1:=by omega
   have ej:((j:Int)+1)=((j+1:Nat):Int):=by omega
   rw[ef,hst,ej] at hfind
   cases hr:(comb k (n-(j+1)) ((j+1:Nat):Int)).find? (fun c=>P ((l++[(j:Int)])++c)) with
   |some c=>
    rw[hr] at hres hfind
    obtain⟨rfl,y,gy,ay⟩:=hres
    simp -implicitDefEqProofs(maxSteps:=999999)(disch:=first|with_reducible rfl|omega|(simp only[nA,nS,nD]<;>omega)|fail)only[go_sem,t0,t5,t6,t10,cf',cf1,s12.cells cf1,cf2]
    refine q _ _ k03 w3 ?_
    rw[hfind]
    exact⟨rfl,y,gy,by rw[List.append_assoc] at ay;exact ay⟩
   |none=>
    rw[hr] at hres hfind
    obtain⟨rfl,y,gy⟩:=hres
    simp -implicitDefEqProofs(maxSteps:=999999)(disch:=first|with_reducible rfl|omega|(simp only[nA,nS,nD]<;>omega)|fail)only[go_sem,t0,t5,t6,t10,cf',cf1,s12.cells cf1,cf2,wr_succ]
    exact⟨_,_,rfl,k03,w3,⟨y,gy⟩,by omega,hfind,(by simp[ev_c,ev_put,t0]<;>rfl),(by simp[ev_c,ev_put,t5]<;>rfl),(by simp[ev_c,ev_put,t6]<;>rfl),(by simp[ev_c,ev_put]<;>rfl)⟩
  ·rintro s ⟨tm,h',rfl,kh,wh,hgo',_,hfind,t0,t5,t6,t10⟩
   have hs':hb.Sub h':=kh.sub hs hwb (fun c hc=>by omega) wh
   have cd':=kh.cells cd n3
   simp -implicitDefEqProofs(maxSteps:=999999)(disch:=first|with_reducible rfl|omega|(simp only[nA,nS,nD]<;>omega)|fail)only[go_sem,t0,t5,t6,t10,cd',Int.lt_irrefl]
   refine q _ _ kh wh ?_
   rw[hfind,Nat.sub_self]
   exact⟨rfl,hgo'⟩
theorem WishOf.mono {hb h:H}{n:Nat}{hv:V}{P:List Int→Bool}(a:WishOf hb n hv P)(s:hb.Sub h):WishOf h n hv P:=fun l x h1 r s1 ax R q=>a l x h1 r (s.trans s1) ax R q
set_option maxHeartbeats 4000000 in
theorem firstP_ev {h:H}{n:Nat}{hv:V}{P:List Int→Bool}(hw:h.wf)(hn:n≤10)(hv1:hv.one=true)(hP:WishOf h n hv P){c:List Int}(hc:firstOf P n (n+1) 0=some c)(Q:V→H→Prop)
  (q:∀y h',h.Sub h'→SlAt h' y 1 (c.map encI)→Q y h'):Ev fnG fastA (.fn 33 [] []) [.int .i64 (n:Int),.agg [hv]] h Q:=by
 refine Ev_body (fd:=c33) rfl rfl rfl ?_
 have s2:h.Sub (((h.add (.cells .rw [.int .i64 (n:Int)])).add (.cells .rw [hv])).add (.cells .rw [.nils])):=(by repeat(first|assumption|exact H.Sub.refl (by assumption)|refine H.Sub.add ?_ _|refine H.Sub.set ?_ (by first|omega|(simp only[H.next_add,H.next_set,H.next_del]<;>omega)) (by first|omega|(simp only[H.next_add,H.next_set,H.next_del]<;>omega)) (by assumption) _))
 have wn:wr .i64 ((n:Int)+1)=((n+1:Nat):Int):=wr_succ (by omega)
 simp -implicitDefEqProofs(maxSteps:=999999)(disch:=first|with_reducible rfl|omega|(simp only[nA,nS,nD]<;>omega)|fail)only[c33,go_sem,hv1,cells_one hv1,wn]
 refine W_count (n+1) (fun k s=>∃tm h',s=⟨tm,h',[]⟩∧h.Sub h'∧h.next+2<h'.next∧h'.cells h.next=some [.int .i64 (n:Int)]∧h'.cells (h.next+1)=some [hv]∧(∃y,h'.get (h.next+1+1)=some (.cells .rw [y]))∧firstOf P n (n+1-k) k=some c∧
   (Opd.t 2).ev tm=.ptr h.next 0∧(Opd.t 3).ev tm=.ptr (h.next+1) 0∧(Opd.t 5).ev tm=.ptr (h.next+1+1) 0∧(Opd.t 9).ev tm=.int .i64 ((n+1:Nat):Int)∧(Opd.t 10).ev tm=.int .i64 (k:Int))
  ?_ ?_ (i:=0) (Nat.zero_le _) ⟨_,_,rfl,s2,by simp only[H.next_add];omega,by simp -implicitDefEqProofs(maxSteps:=999999)(disch:=first|with_reducible rfl|omega|(simp only[nA,nS,nD]<;>omega)|fail)only[go_sem],by simp -implicitDefEqProofs(maxSteps:=999999)(disch:=first|with_reducible rfl|omega|(simp only[nA,nS,nD]<;>omega)|fail)only[go_sem],⟨.nils,by simp -implicitDefEqProofs(maxSteps:=999999)(disch:=first|with_reducible rfl|omega|(simp only[nA,nS,nD]<;>omega)|fail)only[go_sem]⟩,hc,(by simp only[ev_c,ev_put, ↓reduceIte,Nat.reduceEqDiff]<;>rfl),(by simp only[ev_c,ev_put, ↓reduceIte,Nat.reduceEqDiff]<;>rfl),(by simp only[ev_c,ev_put, ↓reduceIte,Nat.reduceEqDiff]<;>rfl),(by simp only[ev_c,ev_put, ↓reduceIte,Nat.reduceEqDiff]<;>rfl),(by simp only[ev_c,ev_put, ↓reduceIte,Nat.reduceEqDiff]<;>rfl)⟩
 ·rintro k s hk ⟨tm,h',rfl,hs,lt,gd,gh,⟨y0,go⟩,hfirst,t2,t3,t5,t9,t10⟩
  have hk':(k:Int)<((n+1:Nat):Int):=by omega
  have sA:=((H.Sub.refl hs.wf).add (.cells .rw [.int .i64 (k:Int)])).add (.cells .rw [.fn 51 [] [.ptr h'.next 0,.ptr (h.next+1+1) 0,.ptr (h.next+1) 0,.ptr h.next 0,.ptr (h'.next+1) 0]])
  have hsA:=hs.trans sA
  have gm:((h'.add (.cells .rw [.int .i64 (k:Int)])).add (.cells .rw [.fn 51 [] [.ptr h'.next 0,.ptr (h.next+1+1) 0,.ptr (h.next+1) 0,.ptr h.next 0,.ptr (h'.next+1) 0]])).cells h'.next=some [.int .i64 (k:Int)]:=by simp -implicitDefEqProofs(maxSteps:=999999)(disch:=first|with_reducible rfl|omega|(simp only[nA,nS,nD]<;>omega)|fail)only[go_sem]
  have gf:((h'.add (.cells .rw [.int .i64 (k:Int)])).add (.cells .rw [.fn 51 [] [.ptr h'.next 0,.ptr (h.next+1+1) 0,.ptr (h.next+1) 0,.ptr h.next 0,.ptr (h'.next+1) 0]])).cells (h'.next+1)=some [.fn 51 [] [.ptr h'.next 0,.ptr (h.next+1+1) 0,.ptr (h.next+1) 0,.ptr h.next 0,.ptr (h'.next+1) 0]]:=by simp -implicitDefEqProofs(maxSteps:=999999)(disch:=first|with_reducible rfl|omega|(simp only[nA,nS,nD]<;>omega)|fail)only[go_sem]
  simp -implicitDefEqProofs(maxSteps:=999999)(disch:=first|with_reducible rfl|omega|(simp only[nA,nS,nD]<;>omega)|fail)only[go_sem,t2,t3,t5,t9,t10,hk']
  refine moreP_ev hw hn hP (by omega) (by omega) (by omega) (by omega) (by omega) (many:=k) (by omega) k _ .nils [] 0 (by simp) hsA gm (sA.cells gh) (sA.cells gd) gf ⟨y0,sA.get go⟩ ⟨by simp,by simp,.inl ⟨rfl,rfl⟩⟩ (fun b hb=>(blkOf_nils hb).elim) (Nat.zero_le _) ⟨by simp,by simp⟩ _ fun t h3 k3 w3 hres=>?_
  have s3:h.Sub h3:=k3.sub hsA hw (fun c hc=>by omega) w3
  have l3:=k3.1
  simp only[H.next_add] at l3
  have hst:firstOf P n (n+1-k) k=(match(comb k n 0).find? P with|some c=>some c|none=>firstOf P n (n-k) (k+1)):=by
   rw[show n+1-k=(n-k)+1 by omega];rfl
  have hres':MoreR P [] (h.next+1+1) ((comb k n 0).find? P) t h3:=hres
  cases hr:(comb k n 0).find? P with
  |some d=>
   rw[hr] at hres' hst
   obtain⟨rfl,y,gy,ay⟩:=hres'
   have ed:d=c:=by rw[hfirst] at hst;exact(Option.some.inj hst).symm
   subst ed
   simp -implicitDefEqProofs(maxSteps:=999999)(disch:=first|with_reducible rfl|omega|(simp only[nA,nS,nD]<;>omega)|fail)only[go_sem,t2,t3,t5,t9,t10,cells_of gy]
   exact q _ _ s3 ay
  |none=>
   rw[hr] at hres' hst
   obtain⟨rfl,y,gy⟩:=hres'
   simp -implicitDefEqProofs(maxSteps:=999999)(disch:=first|with_reducible rfl|omega|(simp only[nA,nS,nD]<;>omega)|fail)only[go_sem,t2,t3,t5,t9,t10,wr_succ]
   exact⟨_,_,rfl,s3,by omega,k3.cells (sA.cells gd) (by omega),k3.cells (sA.cells gh) (by omega),⟨y,gy⟩,by rw[show n+1-(k+1)=n-k by omega,←hfirst,hst],(by simp[ev_c,ev_put,t2]<;>rfl),(by simp[ev_c,ev_put,t3]<;>rfl),(by simp[ev_c,ev_put,t5]<;>rfl),(by simp[ev_c,ev_put,t9]<;>rfl),(by simp only[ev_c,ev_put, ↓reduceIte,Nat.reduceEqDiff]<;>rfl)⟩
 ·rintro s ⟨tm,h',rfl,hs,lt,gd,gh,⟨y0,go⟩,hfirst,t2,t3,t5,t9,t10⟩
  rw[Nat.sub_self] at hfirst
  cases hfirst
end Go.Ab.Try
namespace Go.Ab.Try
open Go.Ab.Silk
def pickS (sh:List Nat)(c:List Int):List Nat:=c.map fun i=>sh.getD i.toNat 0
set_option maxHeartbeats 2000000 in
theorem chosen_ev {h:H}{x y:V}{sh:List Nat}{c:List Int}(hw:h.wf)(hx:SlAt h x 4 (sh.map encRu))(hy:SlAt h y 1 (c.map encI))(hc:∀a∈c,0≤a∧a<sh.length)(hl:c.length≤1000)(Q:V→H→Prop)
  (q:∀z h',h.Sub h'→SlAt h' z 4 ((pickS sh c).map encRu)→Q z h'):Ev fnG fastA (.fn 35 [] []) [x,y] h Q:=by
 refine Ev_body (fd:=c35) rfl rfl rfl ?_
 have hly:=hy.lenE
 simp -implicitDefEqProofs(maxSteps:=999999)(disch:=first|with_reducible rfl|omega|(simp only[nA,nS,nD]<;>omega)|fail)only[c35,go_sem,hly]
 refine W_count c.length (fun i s=>∃tm h' Y,s=⟨tm,h',[]⟩∧OwnSl h h' Y 4 ((pickS sh (c.take i)).map encRu)∧(Opd.t 0).ev tm=x∧(Opd.t 5).ev tm=Y∧(Opd.t 8).ev tm=y∧(Opd.t 9).ev tm=.int .i64 (c.length:Int)∧(Opd.t 10).ev tm=.int .i64 (i:Int))
  ?_ ?_ (i:=0) (Nat.zero_le _) ⟨_,_,.nils,rfl,OwnSl.nil (H.Sub.refl hw) 4,(by simp[ev_c,ev_put]<;>rfl),(by simp[ev_c,ev_put]<;>rfl),(by simp[ev_c,ev_put]<;>rfl),(by simp[ev_c,ev_put]<;>rfl),(by simp only[ev_put];rfl)⟩
 ·rintro i s hi ⟨tm,h',Y,rfl,oY,t0,t5,t8,t9,t10⟩
  have hi':(i:Int)<(c.length:Int):=by omega
  have s1:=oY.1
  obtain⟨b1,o1,c1',cs1,_,hc1,hq1,_,_,hn1⟩:=(hy.mono s1).at hi
  obtain⟨m0,m1⟩:=hc _ (List.getElem_mem hi)
  obtain⟨j,hj⟩:∃j:Nat,c[i]=(j:Int):=⟨c[i].toNat,by omega⟩
  have hjl:j<sh.length:=by omega
  obtain⟨b2,o2,c2',cs2,_,hc2,hq2,hg2,_,_⟩:=(hx.mono s1).at hjl
  have hv:nth (o1+i*1) cs1=some (.int .i64 (j:Int)):=by rw[hn1 (by omega),←hj];rfl
  have et:pickS sh (c.take (i+1))=pickS sh (c.take i)++[sh[j]]:=by
   rw[List.take_succ_eq_append_getElem hi]
   simp only[pickS,List.map_append,List.map_cons,List.map_nil,hj,Int.toNat_natCast]
   rw[List.getD_eq_getElem?_getD,List.getElem?_eq_getElem hjl];rfl
  have hle:(pickS sh (c.take i)).length≤c.length:=by simp only[pickS,List.length_map,List.length_take];omega
  simp only[encRu] at hg2
  have sC:=(H.Sub.refl s1.wf).add (.cells .rw (encRu sh[j]))
  simp only[encRu] at sC
  simp -implicitDefEqProofs(maxSteps:=999999)(disch:=first|with_reducible rfl|omega|(simp only[nA,nS,nD]<;>omega)|fail)only[go_sem,t0,t5,t8,t9,t10,hi',hq1 (nat_cst i),hc1,hv,hq2 (nat_cst j),hc2,hg2]
  refine(oY.mono sC).app1 (by_:=32) (r:=encRu sh[j]) hw rfl (by omega) (SlAt.new _ rfl rfl (by simp[encRu]) (by simp[encRu]) (by simp)) rfl (by rw[List.length_map];omega) (by rw[List.length_map];omega) fun h4 o4 k4 n4=>?_
  rw[H.next_add] at o4
  simp -implicitDefEqProofs(maxSteps:=999999)(disch:=first|with_reducible rfl|omega|(simp only[nA,nS,nD]<;>omega)|fail)only[go_sem,t0,t5,t8,t9,t10,wr_succ]
  exact⟨_,_,_,rfl,by rw[et,List.map_append];exact o4,(by simp[ev_c,ev_put,t0]<;>rfl),(by simp[ev_c,ev_put]<;>rfl),(by simp[ev_c,ev_put,t8]<;>rfl),(by simp[ev_c,ev_put,t9]<;>rfl),(by simp[ev_c,ev_put]<;>rfl)⟩
 ·rintro s ⟨tm,h',Y,rfl,oY,t0,t5,t8,t9,t10⟩
  rw[List.take_length] at oY
  simp -implicitDefEqProofs(maxSteps:=999999)(disch:=first|with_reducible rfl|omega|(simp only[nA,nS,nD]<;>omega)|fail)only[go_sem,t5,t9,t10,Int.lt_irrefl]
  exact q _ _ oY.1 (oY.sl (by simp only[List.length_map,pickS];omega))
def sameP (n:Nat)(c:List Int):Bool:=(List.range 5).all fun p=>decide (hasS (List.range n) (p:Int)=hasS (pickS (List.range n) c) (p:Int))
theorem sameP_iff (n:Nat)(c:List Int):sameP n c=true↔∀p:Nat,p<5→hasS (List.range n) (p:Int)=hasS (pickS (List.range n) c) (p:Int):=by
 simp only[sameP,List.all_eq_true,List.mem_range,decide_eq_true_eq]
theorem pick_range {n:Nat}{c:List Int}(hc:∀a∈c,0≤a∧a<(n:Int)):pickS (List.range n) c=c.map Int.toNat:=by
 refine List.map_congr_left fun a ha=>?_
 have:=hc a ha
 have h:a.toNat<n:=by omega
 rw[List.getD_eq_getElem?_getD,List.getElem?_range h];rfl
theorem has_pick {n:Nat}{c:List Int}(hc:∀a∈c,0≤a∧a<(n:Int))(p:Nat):hasS (pickS (List.range n) c) (p:Int)=decide ((p:Int)∈c):=by
 rw[pick_range hc,hasS,Bool.eq_iff_iff,List.any_eq_true,decide_eq_true_eq]
 constructor
 ·rintro⟨s,hs,e⟩
  rw[decide_eq_true_eq] at e
  obtain⟨a,ha,rfl⟩:=List.mem_map.1 hs
  have:=hc a ha
  rw[show(p:Int)=a by omega];exact ha
 ·intro h
  exact⟨p,List.mem_map.2 ⟨(p:Int),h,by simp⟩,by simp⟩
theorem pick_nodup {n:Nat}{c:List Int}(r:Ris n c):(pickS (List.range n) c).Nodup:=by
 rw[pick_range r.2]
 refine List.pairwise_map.2 (List.Pairwise.imp_of_mem (fun{a b} ha hb h=>?_) r.1)
 have:=r.2 a ha;have:=r.2 b hb
 omega
theorem Inc_all {k:Nat}:∀{i:Int} {d:List Int},Inc (i+k) i d→(∀p:Int,i≤p→p<i+k→p∈d)→d.length=k:=by
 induction k with
 |zero=>
  intro i d h _
  cases d with
  |nil=>rfl
  |cons a l=>have:=h.1;have:=h.2.1;omega
 |succ k ih=>
  intro i d h hall
  have e:i+1+(k:Int)=i+((k+1:Nat):Int):=by omega
  cases d with
  |nil=>have:=hall i (by omega) (by omega);simp at this
  |cons a l=>
   have ha:i=a:=by
    rcases List.mem_cons.1 (hall i (by omega) (by omega)) with h1|h1
    ·exact h1
    ·have:=(Inc.mem h.2.2 i h1).1;have:=h.1;omega
   subst ha
   have:=ih (i:=i+1) (d:=l) (by rw[e];exact h.2.2) fun p h1 h2=>by
    rcases List.mem_cons.1 (hall p (by omega) (by omega)) with h3|h3
    ·omega
    ·exact h3
   simp[this]
def upI:Nat→Int→List Int
 |0,_=>[]
 |k+1,i=>i::upI k (i+1)
theorem upI_inc:∀(k:Nat) (i:Int),Inc (i+k) i (upI k i)
 |0,_=>trivial
 |k+1,i=>⟨by omega,by omega,by have:=upI_inc k (i+1);rwa[show i+1+(k:Int)=i+((k+1:Nat):Int) by omega] at this⟩
theorem upI_mem:∀(k:Nat) (i p:Int),i≤p→p<i+k→p∈upI k i
 |0,i,p,h1,h2=>by omega
 |k+1,i,p,h1,h2=>by
  by_cases e:p=i
  ·rw[e];simp[upI]
  ·exact List.mem_cons.2 (.inr (upI_mem k (i+1) p (by omega) (by omega)))
theorem first_same {n:Nat}(hn:n≤5):∃c,firstOf (sameP n) n (n+1) 0=some c∧c.length=n:=by
 have bd:∀{d:List Int},Inc n 0 d→∀a∈d,0≤a∧a<(n:Int):=fun h a ha=>Inc.mem h a ha
 rcases firstOf_spec (sameP n) n (n+1) 0 (by omega) (fun d _ h=>by omega) with⟨c,e,m⟩|⟨_,hno⟩
 ·refine⟨c,e,?_⟩
  have hs:=(sameP_iff n c).1 m.holds
  refine Inc_all (k:=n) (i:=0) (by rw[Int.zero_add];exact m.inc) fun p h1 h2=>?_
  obtain⟨q,rfl⟩:∃q:Nat,p=(q:Int):=⟨p.toNat,by omega⟩
  have:=hs q (by omega)
  rw[has_range,has_pick (bd m.inc),decide_eq_true (show q<n by omega)] at this
  exact of_decide_eq_true this.symm
 ·have hu:=upI_inc n 0
  rw[Int.zero_add] at hu
  have:=hno _ hu
  have h2:sameP n (upI n 0)=true:=(sameP_iff n _).2 fun p hp=>by
   rw[has_range,has_pick (bd hu),decide_eq_decide]
   exact⟨fun h=>upI_mem n 0 p (by omega) (by omega),fun h=>by have:=(bd hu) _ h;omega⟩
  rw[h2] at this;cases this
set_option maxHeartbeats 2000000 in
theorem short1_wish {h:H}{x:V}{n a:Nat}(hw:h.wf)(hn:n≤5)(hx:SlAt h x 4 ((List.range n).map encRu))(ga:h.cells a=some [x]):WishOf h n (.fn 34 [] [.ptr a 0]) (sameP n):=fun l y h1 r s1 ay R rr=>by
 have hlr:(List.range n).length=n:=List.length_range
 have g1:=s1.cells ga
 have x1:=hx.one
 have lt:l.length≤n:=by
  have:=(pick_nodup r).length_le_of_subset (l₂:=List.range n) fun a ha=>by
   rw[pick_range r.2] at ha
   obtain⟨b,hb,rfl⟩:=List.mem_map.1 ha
   have:=r.2 b hb
   exact List.mem_range.2 (by omega)
  simpa[pickS] using this
 refine Ev_body (fd:=c34) rfl rfl rfl ?_
 simp -implicitDefEqProofs(maxSteps:=999999)(disch:=first|with_reducible rfl|omega|(simp only[nA,nS,nD]<;>omega)|fail)only[c34,go_sem,g1]
 refine chosen_ev s1.wf (hx.mono s1) ay (fun a ha=>by have:=r.2 a ha;rw[hlr];exact this) (by omega) _ fun z h2 s2 az=>?_
 have g2:=s2.cells g1
 simp -implicitDefEqProofs(maxSteps:=999999)(disch:=first|with_reducible rfl|omega|(simp only[nA,nS,nD]<;>omega)|fail)only[go_sem,g1,g2]
 have pl:(pickS (List.range n) l).length=l.length:=by simp[pickS]
 refine differ_ev s2.wf (hx.mono (s1.trans s2)) az (by omega) (by omega) List.nodup_range (pick_nodup r) _ (fun hall h3 s3=>?_) fun p hp hne _ h3 s3=>?_
 ·have e:sameP n l=true:=(sameP_iff n l).2 hall
  have g3:=s3.cells g2
  simp -implicitDefEqProofs(maxSteps:=999999)(disch:=first|with_reducible rfl|omega|(simp only[nA,nS,nD]<;>omega)|fail)only[go_sem,g1,g2,g3]
  have:=rr _ ((s2.trans s3).add (.cells .rw [.int .i64 0,.int .i64 0,.int .i64 0]))
  rw[e] at this;exact this
 ·have e:sameP n l=false:=by
   rw[←Bool.not_eq_true,sameP_iff]
   exact fun hh=>hne (hh p hp)
  have g3:=s3.cells g2
  have n06:¬(0:Int)=6:=by omega
  simp -implicitDefEqProofs(maxSteps:=999999)(disch:=first|with_reducible rfl|omega|(simp only[nA,nS,nD]<;>omega)|fail)only[go_sem,g1,g2,g3,n06]
  have:=rr _ ((s2.trans s3).add (.cells .rw [.int .i64 0,.int .i64 (p:Int),.int .i64 0]))
  rw[e] at this;exact this
set_option maxHeartbeats 2000000 in
theorem shortest_ev {F:Nat→Prop}{h:H}{x:V}{n:Nat}(hw:h.wf)(cx:CutO F h x 4 ((List.range n).map encRu))(hn:n≤5)(Q:V→H→Prop)(q:∀y h',h.Sub h'→(∃c:List Int,c.length=n∧SlAt h' y 1 (c.map encI))→Q (.tup [y,.int .i64 0]) h'):
  Ev fnG fastA (.fn 14 [] []) [x] h Q:=by
 have hlr:(List.range n).length=n:=List.length_range
 have hx:=cx.sl (by rw[List.length_map,hlr];omega)
 have x1:=hx.one
 have hlen:=hx.lenE
 rw[hlr] at hlen
 refine Ev_body (fd:=c14) rfl rfl rfl ?_
 have s0:=(H.Sub.refl hw).add (.cells .rw [x])
 have g0:(h.add (.cells .rw [x])).cells h.next=some [x]:=cells_add_new rfl
 simp -implicitDefEqProofs(maxSteps:=999999)(disch:=first|with_reducible rfl|omega|(simp only[nA,nS,nD]<;>omega)|fail)only[c14,go_sem,x1,cells_one x1]
 generalize h.add (.cells .rw [x])=h0 at s0 g0⊢
 refine pcheck_ev s0.wf (cx.mono s0) (by omega) List.nodup_range (fun s hs=>by have:=List.mem_range.1 hs;omega) _ fun h1 s1=>?_
 have g1:=s1.cells g0
 simp -implicitDefEqProofs(maxSteps:=999999)(disch:=first|with_reducible rfl|omega|(simp only[nA,nS,nD]<;>omega)|fail)only[go_sem,ne_eq,not_true_eq_false,g1,hlen]
 obtain⟨c,hc,hcl⟩:=first_same hn
 refine firstP_ev s1.wf (by omega) rfl (short1_wish s1.wf hn (hx.mono (s0.trans s1)) g1) hc _ fun y h2 s2 ay=>?_
 simp -implicitDefEqProofs(maxSteps:=999999)(disch:=first|with_reducible rfl|omega|(simp only[nA,nS,nD]<;>omega)|fail)only[go_sem]
 exact q _ _ ((s0.trans s1).trans s2) ⟨c,hcl,ay⟩
end Go.Ab.Try
namespace Go.Ab.Try
end Go.Ab.Try
namespace Go.Ab.Try
end Go.Ab.Try
namespace Go.Ab.Try
open Go.Ab.Silk (comb firstOf)
end Go.Ab.Try
namespace Go.Ab.Try
open Go.Ab.Silk (comb)
end Go.Ab.Try
namespace Go.Ab.Try
open Go.Ab.Silk (comb)
theorem Ev_bound {f:FuncId}{a:V}{args:List V}{h:H}{Q:V→H→Prop}(he:Ev fnG fastA (.fn f [] []) (a::args) h Q):Ev fnG fastA (.fn f [a] []) args h Q:=by
 obtain⟨n,v,h',e,q⟩:=he
 refine⟨n,v,h',?_,q⟩
 cases n with
 |zero=>exact e
 |succ n=>exact e
def mT (t:Tb)(a b:Int):Bool:=matchB t a.toNat b.toNat
end Go.Ab.Try
