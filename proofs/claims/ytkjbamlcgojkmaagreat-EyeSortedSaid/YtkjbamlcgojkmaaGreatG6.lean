/- Some eyes, as the law tries them; which lists rise; slices.Compare. Sortings into sets of which any two go together: the first one that is found, and that no fewer sets do. Plain. Slices of our own that are cut short and grow again; lists of them. All rising lists of so many numbers, one by one, until one holds. The eyes that tell two pieces apart, as the program finds them. Tellers. Plain. enough: whether some eyes tell apart all that can be told apart. Fewest. most: the longest lists of pieces of which every two pass a test. Strangers, Greatest. sorting: the first sorting into at most so many sets. What the longest list for which something holds is. Plain. How many: strangers, sets, eyes. Plain. EyeMore: what one piece more does. Plain; the first rows of a slice. -/
import Derived.Test.YtkjbamlcgojkmaaGreatG2
import Derived.Test.YtkjbamlcgojkmaaGreatPa5
import Derived.Test.YtkjbamlcgojkmaaGreatG5
set_option linter.unusedSimpArgs false
set_option linter.unusedVariables false
namespace Go.Ab
def upto (p:Nat):List Int:=(List.range p).map fun i:Nat=>(i:Int)
theorem mem_upto {p:Nat}{x:Int}:x∈upto p↔0≤x∧x<(p:Int):=by
 unfold upto
 rw[List.mem_map]
 constructor
 ·rintro⟨i,hi,rfl⟩
  have:=List.mem_range.1 hi;omega
 ·intro h
  exact⟨x.toNat,List.mem_range.2 (by omega),by omega⟩
theorem upto_succ (p:Nat):upto (p+1)=upto p++[(p:Int)]:=by unfold upto;rw[List.range_succ,List.map_append];rfl
theorem upto_len (p:Nat):(upto p).length=p:=by simp[upto]
theorem upto_nodup (p:Nat):(upto p).Nodup:=by
 unfold upto
 rw[List.Nodup,List.pairwise_map]
 exact(List.nodup_range).imp fun h=>by omega
structure Srt (T:Int→Int→Bool)(p:Nat)(S:List (List Int)):Prop where
 ne:∀l∈S,l≠[]
 up:∀l∈S,l.Pairwise (· < ·)
 go:∀l∈S,l.Pairwise fun a b=>T a b=true
 all:S.flatten.Perm (upto p)
theorem Srt.nil (T:Int→Int→Bool):Srt T 0 []:=⟨by simp,by simp,by simp,by simp[upto]⟩
theorem Srt.mem {T:Int→Int→Bool}{p:Nat}{S:List (List Int)}(a:Srt T p S){l:List Int}(hl:l∈S){x:Int}(hx:x∈l):0≤x∧x<(p:Int):=
 mem_upto.1 (a.all.mem_iff.1 (List.mem_flatten.2 ⟨l,hl,hx⟩))
theorem Srt.at {T:Int→Int→Bool}{p:Nat}{S:List (List Int)}(a:Srt T p S){x:Int}(h0:0≤x)(h1:x<(p:Int)):∃l∈S,x∈l:=
 List.mem_flatten.1 (a.all.mem_iff.2 (mem_upto.2 ⟨h0,h1⟩))
theorem Srt.len {T:Int→Int→Bool}{p:Nat}{S:List (List Int)}(a:Srt T p S):S.flatten.length=p:=by rw[a.all.length_eq,upto_len]
theorem Srt.ins {T:Int→Int→Bool}{p:Nat}{S:List (List Int)}(a:Srt T p S){i:Nat}(hi:i<S.length)(h:∀x∈S[i],T x (p:Int)=true):Srt T (p+1) (S.set i (S[i]++[(p:Int)])):=by
 have hm:=List.getElem_mem hi
 refine⟨fun l hl=>?_,fun l hl=>?_,fun l hl=>?_,?_⟩
 ·rcases List.mem_or_eq_of_mem_set hl with h1|rfl
  ·exact a.ne l h1
  ·simp
 ·rcases List.mem_or_eq_of_mem_set hl with h1|rfl
  ·exact a.up l h1
  ·rw[List.pairwise_append]
   exact⟨a.up _ hm,by simp,fun x hx y hy=>by rw[List.mem_singleton] at hy;subst hy;exact(a.mem hm hx).2⟩
 ·rcases List.mem_or_eq_of_mem_set hl with h1|rfl
  ·exact a.go l h1
  ·rw[List.pairwise_append]
   exact⟨a.go _ hm,by simp,fun x hx y hy=>by rw[List.mem_singleton] at hy;subst hy;exact h x hx⟩
 ·rw[upto_succ,List.set_eq_take_append_cons_drop,if_pos hi]
  have e:S=S.take i++S[i]::S.drop (i+1):=by rw[←List.drop_eq_getElem_cons hi,List.take_append_drop]
  have h1:=a.all
  conv at h1=>lhs;rw[e]
  rw[List.flatten_append,List.flatten_cons] at h1⊢
  refine List.Perm.trans ?_ (h1.append_right [(p:Int)])
  rw[List.append_assoc,List.append_assoc,List.append_assoc]
  refine List.Perm.append_left _ (List.Perm.append_left _ ?_)
  exact List.perm_append_comm
theorem Srt.new {T:Int→Int→Bool}{p:Nat}{S:List (List Int)}(a:Srt T p S):Srt T (p+1) (S++[[(p:Int)]]):=by
 refine⟨fun l hl=>?_,fun l hl=>?_,fun l hl=>?_,?_⟩
 ·rcases List.mem_append.1 hl with h1|h1
  ·exact a.ne l h1
  ·rw[List.mem_singleton] at h1;subst h1;simp
 ·rcases List.mem_append.1 hl with h1|h1
  ·exact a.up l h1
  ·rw[List.mem_singleton] at h1;subst h1;simp
 ·rcases List.mem_append.1 hl with h1|h1
  ·exact a.go l h1
  ·rw[List.mem_singleton] at h1;subst h1;simp
 ·rw[upto_succ,List.flatten_append]
  exact List.Perm.append_right _ a.all
def putR (T:Int→Int→Bool)(most:Nat):Nat→Nat→List (List Int)→Option (List (List Int))
 |0,_,S=>some S
 |k+1,p,S=>match(List.range S.length).findSome? fun i=>if((S.getD i []).all fun x=>T x (p:Int))=true then putR T most k (p+1) (S.set i (S.getD i []++[(p:Int)])) else none with
  |some r=>some r
  |none=>if S.length=most then none else putR T most k (p+1) (S++[[(p:Int)]])
theorem putR_srt {T:Int→Int→Bool}{most:Nat}:∀{k p S r},Srt T p S→S.length≤most→putR T most k p S=some r→Srt T (p+k) r∧r.length≤most
 |0,p,S,r,a,hl,h=>by
  simp only[putR,Option.some.injEq] at h
  subst h;exact⟨a,hl⟩
 |k+1,p,S,r,a,hl,h=>by
  simp only[putR] at h
  have e:p+(k+1)=p+1+k:=by omega
  rw[e]
  cases hf:(List.range S.length).findSome? fun i=>if((S.getD i []).all fun x=>T x (p:Int))=true then putR T most k (p+1) (S.set i (S.getD i []++[(p:Int)])) else none with
  |some r'=>
   rw[hf] at h
   simp only[Option.some.injEq] at h
   subst h
   obtain⟨i,hi,h1⟩:=List.exists_of_findSome?_eq_some hf
   have hi:=List.mem_range.1 hi
   have eg:S.getD i []=S[i]:=by rw[List.getD_eq_getElem?_getD,List.getElem?_eq_getElem hi];rfl
   rw[eg] at h1
   split at h1
   ·rename_i hc
    exact putR_srt (a.ins hi fun x hx=>List.all_eq_true.1 hc x hx) (by rw[List.length_set];exact hl) h1
   ·cases h1
  |none=>
   rw[hf] at h
   simp only at h
   split at h
   ·cases h
   ·exact putR_srt a.new (by simp;omega) h
def Col (T:Int→Int→Bool)(n m:Nat)(g:Int→Nat):Prop:=(∀x,0≤x→x<(n:Int)→g x<m)∧∀x y,0≤x→x<(n:Int)→0≤y→y<(n:Int)→x≠y→g x=g y→T x y=true
theorem putR_some {T:Int→Int→Bool}{most n:Nat}:∀{k p S},p+k=n→S.length≤most→(∀l∈S,∀x∈l,0≤x∧x<(p:Int))→(∃g,Col T n most g∧∀i (hi:i<S.length),∀x∈S[i],g x=i)→∃r,putR T most k p S=some r
 |0,p,S,_,_,_,_=>⟨S,rfl⟩
 |k+1,p,S,hk,hl,hm,⟨g,⟨g1,g2⟩,g3⟩=>by
  simp only[putR]
  cases hf:(List.range S.length).findSome? fun i=>if((S.getD i []).all fun x=>T x (p:Int))=true then putR T most k (p+1) (S.set i (S.getD i []++[(p:Int)])) else none with
  |some r'=>exact⟨r',rfl⟩
  |none=>
   have hp1:(p:Int)<(n:Int):=by omega
   have hno:=List.findSome?_eq_none_iff.1 hf
   by_cases hc:g (p:Int)<S.length
   ·exfalso
    have h1:=hno (g p) (List.mem_range.2 hc)
    have eg:S.getD (g p) []=S[g p]:=by rw[List.getD_eq_getElem?_getD,List.getElem?_eq_getElem hc];rfl
    rw[eg] at h1
    have hall:(S[g p].all fun x=>T x (p:Int))=true:=List.all_eq_true.2 fun x hx=>by
     have hr:=hm _ (List.getElem_mem hc) x hx
     exact g2 x p hr.1 (by omega) (by omega) hp1 (by omega) (g3 _ hc x hx)
    rw[if_pos hall] at h1
    obtain⟨r,hr⟩:=putR_some (T:=T) (most:=most) (n:=n) (k:=k) (p:=p+1) (S:=S.set (g p) (S[g p]++[(p:Int)])) (by omega) (by rw[List.length_set];exact hl)
     (fun l hl x hx=>by
      rcases List.mem_or_eq_of_mem_set hl with h2|rfl
      ·have:=hm l h2 x hx;omega
      ·rcases List.mem_append.1 hx with h2|h2
       ·have:=hm _ (List.getElem_mem hc) x h2;omega
       ·rw[List.mem_singleton] at h2;omega)
     ⟨g,⟨g1,g2⟩,fun i hi x hx=>by
      rw[List.length_set] at hi
      by_cases e:g p=i
      ·subst e
       rw[List.getElem_set_self] at hx
       rcases List.mem_append.1 hx with h2|h2
       ·exact g3 _ hc x h2
       ·rw[List.mem_singleton] at h2;rw[h2]
      ·rw[List.getElem_set_ne e] at hx
       exact g3 i hi x hx⟩
    rw[hr] at h1;cases h1
   ·have hgm:=g1 p (by omega) hp1
    simp only
    rw[if_neg (by omega)]
    refine putR_some (n:=n) (by omega) (by simp;omega) (fun l hl x hx=>?_) ⟨fun x=>if g x=g p then S.length else if g x=S.length then g p else g x,⟨fun x h0 h1=>?_,fun x y a0 a1 b0 b1 hne he=>?_⟩,fun i hi x hx=>?_⟩
    ·rcases List.mem_append.1 hl with h2|h2
     ·have:=hm l h2 x hx;omega
     ·rw[List.mem_singleton] at h2;subst h2;rw[List.mem_singleton] at hx;omega
    ·have:=g1 x h0 h1
     dsimp only
     split
     ·omega
     ·split
      ·exact hgm
      ·exact this
    ·refine g2 x y a0 a1 b0 b1 hne ?_
     dsimp only at he
     split at he<;>split at he<;>(try split at he)<;>(try split at he)<;>omega
    ·rw[List.length_append,List.length_singleton] at hi
     dsimp only
     by_cases e:i<S.length
     ·rw[List.getElem_append_left e] at hx
      have:=g3 i e x hx
      rw[if_neg (by omega),if_neg (by omega)];exact this
     ·have e2:i=S.length:=by omega
      subst e2
      have:x=(p:Int):=by simpa using hx
      rw[this,if_pos rfl]
def sortR (T:Int→Int→Bool)(n:Nat):Option (List (List Int)):=(List.range (n+1)).findSome? fun m=>putR T m n 0 []
theorem putR_col {T:Int→Int→Bool}{n m:Nat}{g:Int→Nat}(a:Col T n m g):∃r,putR T m n 0 []=some r:=putR_some (by omega) (Nat.zero_le _) (by simp) ⟨g,a,fun i hi=>by simp at hi⟩
theorem Srt.col {T:Int→Int→Bool}(sy:∀x y,T x y=T y x){n:Nat}{S:List (List Int)}(a:Srt T n S):∃g,Col T n S.length g∧∀x,0≤x→x<(n:Int)→∃h:g x<S.length,x∈S[g x]:=by
 have hx:∀x:Int,∃i,0≤x→x<(n:Int)→∃h:i<S.length,x∈S[i]:=fun x=>by
  by_cases h:0≤x∧x<(n:Int)
  ·obtain⟨l,hl,hxl⟩:=a.at h.1 h.2
   obtain⟨i,hi,rfl⟩:=List.getElem_of_mem hl
   exact⟨i,fun _ _=>⟨hi,hxl⟩⟩
  ·exact⟨0,fun h0 h1=>absurd ⟨h0,h1⟩ h⟩
 refine⟨fun x=>(hx x).choose,⟨fun x h0 h1=>((hx x).choose_spec h0 h1).1,fun x y a0 a1 b0 b1 hne he=>?_⟩,fun x h0 h1=>(hx x).choose_spec h0 h1⟩
 obtain⟨h1,h2⟩:=(hx x).choose_spec a0 a1
 obtain⟨h3,h4⟩:=(hx y).choose_spec b0 b1
 dsimp only at he
 have h2':x∈S[(hx y).choose]:=by simpa only[he] using h2
 obtain⟨i,hi,ei⟩:=List.getElem_of_mem h2'
 obtain⟨k,hk,ek⟩:=List.getElem_of_mem h4
 have pw:=List.pairwise_iff_getElem.1 (a.go _ (List.getElem_mem h3))
 rcases Nat.lt_trichotomy i k with h|h|h
 ·have:=pw i k hi hk h;rw[ei,ek] at this;exact this
 ·subst h;exact absurd (ei.symm.trans ek) hne
 ·have:=pw k i hk hi h;rw[ei,ek] at this;rw[sy];exact this
theorem sortR_spec (T:Int→Int→Bool)(n:Nat):∃S,sortR T n=some S∧Srt T n S∧∀m g,Col T n m g→S.length≤m:=by
 obtain⟨r0,h0⟩:=putR_col (T:=T) (n:=n) (m:=n) (g:=fun x=>x.toNat) ⟨fun x h0 h1=>by dsimp only;omega,fun x y a0 a1 b0 b1 hne he=>by dsimp only at he;omega⟩
 cases hs:sortR T n with
 |none=>
  have:=List.findSome?_eq_none_iff.1 hs n (List.mem_range.2 (by omega))
  rw[h0] at this;cases this
 |some S=>
  obtain⟨l1,m,l2,e,h1,h2⟩:=List.findSome?_eq_some_iff.1 hs
  obtain⟨s1,s2⟩:=putR_srt (Srt.nil T) (Nat.zero_le _) h1
  rw[Nat.zero_add] at s1
  refine⟨S,rfl,s1,fun m' g a=>?_⟩
  obtain⟨r,hr⟩:=putR_col a
  have hml:m=l1.length:=by
   have:=congrArg (fun l=>l[l1.length]?) e
   simp only[List.getElem?_append_right (Nat.le_refl _),Nat.sub_self,List.getElem?_cons_zero] at this
   by_cases hlt:l1.length<n+1
   ·rw[List.getElem?_range hlt] at this;simpa using this.symm
   ·rw[List.getElem?_eq_none (by simp;omega)] at this;cases this
  have hrange:∀m'',m''<l1.length→m''∈l1:=fun m'' h=>by
   have:=congrArg (fun l=>l[m'']?) e
   have hl:=congrArg List.length e
   simp only[List.length_range,List.length_append,List.length_cons] at hl
   simp only[List.getElem?_append_left h] at this
   rw[List.getElem?_range (by omega),List.getElem?_eq_getElem h] at this
   simp only[Option.some.injEq] at this
   rw[this];exact List.getElem_mem h
  by_cases hlt:m'<m
  ·have:=h2 m' (hrange m' (by omega))
   rw[hr] at this;cases this
  ·omega
end Go.Ab
namespace Go.Ab
def CutO (F:Nat→Prop)(h:H)(x:V)(sz:Nat)(rows:List (List V)):Prop:=
 (∀r∈rows,r.length=sz)∧((x=.nils∧rows=[])∨(∃b rest j,x=.sl b 0 rows.length (.slk 0 0)∧F b∧b<h.next∧h.get b=some (.cells (.gr sz) (rows.flatten++rest))∧rest.length=j*sz)∨
  ∃b c rest,x=.sl b 0 rows.length (.fix c)∧F b∧b<h.next∧h.get b=some (.cells .rw (rows.flatten++rest))∧rows.length*sz+rest.length=c*sz∧rows.length≤c)
theorem OwnC.cutO {h0 h:H}{x:V}{sz:Nat}{rows:List (List V)}(a:OwnC h0 h x sz rows):CutO (fun b=>h0.next≤b) h x sz rows:=by
 refine⟨a.2.1,?_⟩
 rcases a.2.2 with a2|⟨b,e,l1,l2,hb⟩|⟨b,c,rest,e,l1,l2,hb,k⟩
 ·exact .inl a2
 ·exact .inr (.inl ⟨b,[],0,e,l1,l2,by rw[List.append_nil];exact hb,by simp⟩)
 ·exact .inr (.inr ⟨b,c,rest,e,l1,l2,hb,k⟩)
theorem CutO.sl {F:Nat→Prop}{h:H}{x:V}{sz:Nat}{rows:List (List V)}(a:CutO F h x sz rows)(hl:rows.length≤9223372036854775807):SlAt h x sz rows:=by
 obtain⟨a1,a2⟩:=a
 refine⟨a1,hl,?_⟩
 rcases a2 with a2|⟨b,rest,j,e,_,_,hb,_⟩|⟨b,c,rest,e,_,_,hb,_⟩
 ·exact .inl a2
 ·refine .inr ⟨b,0,_,_,e,.inr (cells_of hb),getN_eq.2 ⟨?_,?_⟩⟩
  ·rw[List.drop_zero,←flatten_len a1,List.take_left'];rfl
  ·rw[List.length_append,flatten_len a1];omega
 ·refine .inr ⟨b,0,_,_,e,.inr (cells_of hb),getN_eq.2 ⟨?_,?_⟩⟩
  ·rw[List.drop_zero,←flatten_len a1,List.take_left'];rfl
  ·rw[List.length_append,flatten_len a1];omega
theorem CutO.keep {F:Nat→Prop}{h h':H}{S:Nat→Prop}{x:V}{sz:Nat}{rows:List (List V)}(a:CutO F h x sz rows)(k:Keeps S h h')(n:∀b,blkOf x b→¬S b):CutO F h' x sz rows:=by
 obtain⟨a1,a2⟩:=a
 refine⟨a1,?_⟩
 rcases a2 with a2|⟨b,rest,j,e,l1,l2,hb,r⟩|⟨b,c,rest,e,l1,l2,hb,r⟩
 ·exact .inl a2
 ·exact .inr (.inl ⟨b,rest,j,e,l1,Nat.lt_of_lt_of_le l2 k.1,k.2 b _ hb (n b ⟨_,_,_,e⟩),r⟩)
 ·exact .inr (.inr ⟨b,c,rest,e,l1,Nat.lt_of_lt_of_le l2 k.1,k.2 b _ hb (n b ⟨_,_,_,e⟩),r⟩)
theorem CutO.mono {F:Nat→Prop}{h h':H}{x:V}{sz:Nat}{rows:List (List V)}(a:CutO F h x sz rows)(s:h.Sub h'):CutO F h' x sz rows:=a.keep (Keeps.of s fun _=>False) fun _ _=>id
theorem CutO.blk {F:Nat→Prop}{h:H}{x:V}{sz:Nat}{rows:List (List V)}(a:CutO F h x sz rows){b:Nat}(e:blkOf x b):F b∧b<h.next∧∃k cs,h.get b=some (.cells k cs)∧(k=.rw∨k=.gr sz):=by
 obtain⟨o,n,c,rfl⟩:=e
 rcases a.2 with⟨e,_⟩|⟨b',rest,j,e,l1,l2,hb,_⟩|⟨b',c,rest,e,l1,l2,hb,_⟩
 ·cases e
 ·cases e;exact⟨l1,l2,_,_,hb,.inr rfl⟩
 ·cases e;exact⟨l1,l2,_,_,hb,.inl rfl⟩
theorem CutO.one {F:Nat→Prop}{h:H}{x:V}{sz:Nat}{rows:List (List V)}(a:CutO F h x sz rows):x.one=true:=by
 rcases a.2 with⟨rfl,_⟩|⟨_,_,_,rfl,_⟩|⟨_,_,_,rfl,_⟩<;>rfl
theorem CutO.up {F F':Nat→Prop}{h:H}{x:V}{sz:Nat}{rows:List (List V)}(a:CutO F h x sz rows)(l:∀b,F b→b<h.next→F' b):CutO F' h x sz rows:=by
 obtain⟨a1,a2⟩:=a
 refine⟨a1,?_⟩
 rcases a2 with a2|⟨b,rest,j,e,l1,l2,hb,r⟩|⟨b,c,rest,e,l1,l2,hb,r⟩
 ·exact .inl a2
 ·exact .inr (.inl ⟨b,rest,j,e,l b l1 l2,l2,hb,r⟩)
 ·exact .inr (.inr ⟨b,c,rest,e,l b l1 l2,l2,hb,r⟩)
theorem CutO.app1 {F:Nat→Prop}{h:H}{x y:V}{sz by_:Nat}{rows:List (List V)}{r:List V}{Q:V→H→Prop}(a:CutO F h x sz rows)(hw:h.wf)(hlo:F h.next)(hsz:r.length=sz)(hp:0<sz)
  (hy:SlAt h y sz [r]) (ho:allOne r=true) (h1:(rows.length+1)*by_≤1099511627776) (h2:rows.length+1≤1099511627776)
  (q:∀x' h',CutO F h' x' sz (rows++[r])→(∀b,blkOf x' b→blkOf x b∨h.next≤b)→Keeps (blkOf x) h h'→h'.wf→Q x' h'):P2 (e_app' h sz by_ x y) Q:=by
 obtain⟨a1,a2⟩:=a
 have hall:∀r'∈rows++[r],r'.length=sz:=fun r' hr=>(List.mem_append.1 hr).elim (a1 r') fun h=>by rw[List.mem_singleton] at h;rw[h];exact hsz
 obtain⟨he,hl⟩:=hy.elems
 rw[e_app_eq,he,hl]
 simp only[ob_some,List.length_singleton,List.flatten_cons,List.flatten_nil,List.append_nil]
 obtain⟨v,vs,hv⟩:∃v vs,r=v::vs:=by
  cases r with
  |nil=>simp at hsz;omega
  |cons v vs=>exact⟨v,vs,rfl⟩
 have kadd:∀cs,Keeps (blkOf x) h (h.add cs):=fun cs=>⟨by rw[H.next_add];omega,fun c y hc _=>by rw[get_add_old (hw c y hc)];exact hc⟩
 have wadd:∀cs,(h.add cs).wf:=fun cs=>((H.Sub.refl hw).add cs).wf
 rcases a2 with⟨rfl,rfl⟩|⟨b,rest,j,rfl,l1,l2,hb,hr⟩|⟨b,c,rest,rfl,l1,l2,hb,hc,hlc⟩
 ·rw[e_app_nils,room_ok (by simpa using h1) (by simp),grown_eq,P2_some]
  exact q _ _ ⟨hall,.inr (.inl ⟨h.next,[],0,by simp,hlo,by rw[H.next_add];omega,by rw[get_add_new rfl];simp,by simp⟩)⟩ (fun b' ⟨_,_,_,e⟩=>by cases e;exact .inr (Nat.le_refl _)) (kadd _) (wadd _)
 ·cases j with
  |zero=>
   have hrest:rest=[]:=List.length_eq_zero_iff.1 (by rw[hr];simp)
   subst hrest
   rw[List.append_nil] at hb
   rw[e_app_slk hp hb (flatten_len a1) ho h1 h2,grownO_eq,P2_some]
   have hbn:h.next≠b:=by omega
   have wS:=H.wf_set (wadd (.cells (.gr sz) (rows.flatten++r))) (.old h.next 0 rows.flatten) (show(h.add (.cells (.gr sz) (rows.flatten++r))).get b=some (.cells (.gr sz) rows.flatten) by rw[get_add_old l2];exact hb)
   exact q _ _ ⟨hall,.inr (.inl ⟨h.next,[],0,by simp,hlo,by rw[H.next_set,H.next_add];omega,by rw[get_set_other hbn,get_add_new rfl];simp,by simp⟩)⟩ (fun b' ⟨_,_,_,e⟩=>by cases e;exact .inr (Nat.le_refl _))
    ⟨by rw[H.next_set,H.next_add];omega,fun c y hc hx=>by
     have hne:c≠b:=fun e=>hx ⟨_,_,_,by rw[e]⟩
     rw[get_set_other hne,get_add_old (hw c y hc)];exact hc⟩ wS
  |succ j=>
   have hlr:sz≤rest.length:=by rw[hr,Nat.add_mul];omega
   have hpn:putN (0+rows.length*sz) r (rows.flatten++rest)=some ((rows++[r]).flatten++rest.drop sz):=by
    have:=putN_app (pre:=rows.flatten) (new:=r) (old:=rest.take sz) (rest:=rest.drop sz) (by rw[List.length_take];omega)
    rw[List.append_assoc,List.take_append_drop,flatten_len a1] at this
    rw[Nat.zero_add,this];simp
   have e1:Nat.beq sz sz=true:=by simp
   have e3:Nat.beq 0 (0*sz)=true:=by simp
   have e4:Nat.ble (0+(rows.length+(0+1))*sz) (rows.flatten++rest).length=true:=by
    rw[Nat.ble_eq,List.length_append,flatten_len a1,Nat.add_mul];omega
   have eA:e_app h sz by_ (.sl b 0 rows.length (.slk 0 0)) (0+1) r=withV (.sl b 0 (rows.length+(0+1)) (.slk 0 0)) (h.put b (0+rows.length*sz) r):=by
    simp only[e_app,appSlk,hb,lenN_eq,e1,e3,e4,og_true]
   have eA':e_app h sz by_ (.sl b 0 rows.length (.slk 0 0)) 1 r=withV (.sl b 0 (rows.length+1) (.slk 0 0)) (h.put b (0+rows.length*sz) r):=eA
   rw[eA']
   rw[hv] at hpn ho⊢
   rw[H.put_gr ho hb hpn,withV_some,P2_some,←hv]
   refine q _ _ ⟨hall,.inr (.inl ⟨b,rest.drop sz,j,by simp,l1,by rw[H.next_set];exact l2,by rw[get_set_same rfl],?_⟩)⟩ (fun b' ⟨_,_,_,e⟩=>by cases e;exact .inl ⟨_,_,_,rfl⟩) ?_ (H.wf_set hw _ hb)
   ·rw[List.length_drop,hr,Nat.add_mul];omega
   ·exact(Keeps.set h b _).mono fun c e=>by subst e;exact⟨_,_,_,rfl⟩
 ·by_cases hr:rows.length+1≤c
  ·rw[e_app_fix (by omega)]
   have hlr:sz≤rest.length:=by
    have:=Nat.mul_le_mul_right sz hr;rw[Nat.add_mul] at this;omega
   have hpn:putN (0+rows.length*sz) r (rows.flatten++rest)=some ((rows++[r]).flatten++rest.drop sz):=by
    have:=putN_app (pre:=rows.flatten) (new:=r) (old:=rest.take sz) (rest:=rest.drop sz) (by rw[List.length_take];omega)
    rw[List.append_assoc,List.take_append_drop,flatten_len a1] at this
    rw[Nat.zero_add,this];simp
   rw[hv] at hpn ho⊢
   rw[H.put_rw ho hb hpn,withV_some,P2_some,←hv]
   refine q _ _ ⟨hall,.inr (.inr ⟨b,c,rest.drop sz,by simp,l1,by rw[H.next_set];exact l2,by rw[get_set_same rfl],?_,by simpa using hr⟩)⟩ (fun b' ⟨_,_,_,e⟩=>by cases e;exact .inl ⟨_,_,_,rfl⟩) ?_ (H.wf_set hw _ hb)
   ·rw[List.length_append,List.length_singleton,List.length_drop,Nat.add_mul];omega
   ·exact(Keeps.set h b _).mono fun c e=>by subst e;exact⟨_,_,_,rfl⟩
  ·have hce:c=rows.length:=by omega
   have hel:elems h sz (.sl b 0 rows.length (.fix c))=some rows.flatten:=by
    have o:CutO F h (.sl b 0 rows.length (.fix c)) sz rows:=⟨a1,.inr (.inr ⟨b,c,rest,rfl,l1,l2,hb,hc,hlc⟩)⟩
    exact(o.sl (by omega)).elems.1
   rw[e_app_full (by omega) hel (by omega) (by omega),grown_eq,P2_some]
   exact q _ _ ⟨hall,.inr (.inl ⟨h.next,[],0,by simp,hlo,by rw[H.next_add];omega,by rw[get_add_new rfl];simp,by simp⟩)⟩ (fun b' ⟨_,_,_,e⟩=>by cases e;exact .inr (Nat.le_refl _)) (kadd _) (wadd _)
noncomputable def slcTo (h:H)(sz:Nat)(x k:V):Option V:=q_slc .nil h sz x none (some (.c k)) none
theorem q_slc_to (tm:T V)(h:H)(sz:Nat)(x:V)(y:Opd):q_slc tm h sz x none (some y) none=slcTo h sz x (y.ev tm):=rfl
theorem subO_to {b o sz n c k:Nat}{tm:T V}{x:Opd}{kd:IntKind}(hx:x.ev tm=.int kd (k:Int))(hk:k≤n)(hc:n≤c):subO b o sz (bnd3 tm n c none (some x) none)=some (.sl b (bsel (Nat.beq c 0) o (o+0*sz)) k (.fix c)):=by
 have e1:Nat.ble 0 k=true:=by simp
 have e2:Nat.ble k c=true:=by simp;omega
 have e3:Nat.ble c c=true:=by simp
 simp only[bnd3,natO,hx,natk_cst,bnds,e1,e2,e3,og_true,subO,sub,Nat.sub_zero]
theorem CutO.pop {F:Nat→Prop}{h:H}{x:V}{sz:Nat}{rows:List (List V)}{r:List V}(a:CutO F h x sz (rows++[r]))(hsz:0<sz)(hl:rows.length≤1000000):
  ∃y,slcTo h sz x (.int .i64 (rows.length:Int))=some y∧CutO F h y sz rows∧∀b,blkOf y b→blkOf x b:=by
 have hi:∀tm,(Opd.c (.int .i64 (rows.length:Int))).ev tm=.int .i64 (rows.length:Int):=fun _=>rfl
 obtain⟨a1,a2⟩:=a
 have hr:∀r∈rows,r.length=sz:=fun r' hr=>a1 r' (List.mem_append.2 (.inl hr))
 have hr1:r.length=sz:=a1 r (by simp)
 have fl:=flatten_len hr
 have hfl:(rows++[r]).flatten=rows.flatten++r:=by simp
 rcases a2 with⟨rfl,e⟩|⟨b,rest,j,rfl,l1,l2,hb,hrest⟩|⟨b,c,rest,rfl,l1,l2,hb,hc,hlc⟩
 ·simp at e
 ·rw[hfl,List.append_assoc] at hb
  rw[List.length_append,List.length_singleton]
  have e1:Nat.ble 0 rows.length=true:=by simp
  have hall:(rows.flatten++(r++rest)).length=(rows.length+(j+1))*sz:=by rw[List.length_append,List.length_append,fl,hr1,hrest,Nat.add_mul,Nat.add_mul];omega
  have e2:Nat.ble rows.length (rows.length+(j+1))=true:=by simp
  have e3:Nat.ble (rows.length+(j+1)) (rows.length+(j+1))=true:=by simp
  have e4:Nat.blt 0 (rows.length+1+rows.length)=true:=by rw[Nat.blt_eq];omega
  have e5:Nat.beq sz sz=true:=by simp
  have e6:Nat.beq 0 (0*sz)=true:=by simp
  have e7:Nat.ble (0+(rows.length+1)*sz) (rows.flatten++(r++rest)).length=true:=by rw[hall,Nat.ble_eq,Nat.zero_add];exact Nat.mul_le_mul_right _ (by omega)
  have e8:slkRoom h b 0 sz=rows.length+(j+1):=by simp only[slkRoom,hb,lenN_eq,hall,Nat.sub_zero];exact Nat.mul_div_cancel _ hsz
  refine⟨.sl b (0+0*sz) rows.length (.slk (0+0) 0),?_,?_,?_⟩
  ·simp only[slcTo,q_slc,slkOk,hb,e5,e6,lenN_eq,e7,og_true,bnd3,natO,hi,nat_cst,natk_cst,bnds,e1,e2,e3,subS,e4,e8,Nat.sub_zero]
  ·rw[Nat.zero_mul]
   exact⟨hr,.inr (.inl ⟨b,r++rest,j+1,rfl,l1,l2,hb,by rw[List.length_append,hr1,hrest,Nat.add_mul];omega⟩)⟩
  ·rintro b' ⟨_,_,_,e⟩;cases e;exact⟨_,_,_,rfl⟩
 ·rw[hfl,List.append_assoc] at hb
  rw[List.length_append,List.length_singleton] at hlc hc⊢
  refine⟨.sl b (bsel (Nat.beq c 0) 0 (0+0*sz)) rows.length (.fix c),?_,?_,?_⟩
  ·simp only[slcTo,q_slc]
   rw[subO_to (hi _) (by omega) hlc]
  ·have:bsel (Nat.beq c 0) 0 (0+0*sz)=0:=by cases Nat.beq c 0<;>simp[bsel]
   rw[this]
   exact⟨hr,.inr (.inr ⟨b,c,r++rest,rfl,l1,l2,hb,by rw[List.length_append,hr1];rw[Nat.add_mul] at hc;omega,by omega⟩)⟩
  ·rintro b' ⟨_,_,_,e⟩;cases e;exact⟨_,_,_,rfl⟩
def LsCut (F:Nat→Prop)(h:H)(x:V)(ls:List (List (List V))):Prop:=∃xs:List V,CutO F h x 1 (xs.map fun v=>[v])∧xs.length=ls.length∧
 (∀i (hi:i<xs.length) (hj:i<ls.length),CutO F h xs[i] 1 ls[i]∧∀b,blkOf xs[i] b→¬blkOf x b)∧∀i k (hi:i<xs.length) (hk:k<xs.length),i≠k→∀b,blkOf xs[i] b→¬blkOf xs[k] b
theorem LsCut.nil (F:Nat→Prop)(h:H):LsCut F h .nils []:=⟨[],⟨by simp,.inl ⟨rfl,rfl⟩⟩,rfl,fun i hi=>by simp at hi,fun i k hi=>by simp at hi⟩
theorem LsCut.keep {F:Nat→Prop}{h h':H}{S:Nat→Prop}{x:V}{ls:List (List (List V))}(a:LsCut F h x ls)(k:Keeps S h h')(n:∀b,F b→b<h.next→¬S b):LsCut F h' x ls:=by
 obtain⟨xs,a1,a2,a3,a4⟩:=a
 exact⟨xs,a1.keep k fun b hb=>n b (a1.blk hb).1 (a1.blk hb).2.1,a2,fun i hi hj=>⟨(a3 i hi hj).1.keep k fun b hb=>n b ((a3 i hi hj).1.blk hb).1 ((a3 i hi hj).1.blk hb).2.1,(a3 i hi hj).2⟩,a4⟩
theorem LsCut.up {F F':Nat→Prop}{h:H}{x:V}{ls:List (List (List V))}(a:LsCut F h x ls)(l:∀b,F b→b<h.next→F' b):LsCut F' h x ls:=by
 obtain⟨xs,a1,a2,a3,a4⟩:=a
 exact⟨xs,a1.up l,a2,fun i hi hj=>⟨(a3 i hi hj).1.up l,(a3 i hi hj).2⟩,a4⟩
theorem LsCut.mono {F:Nat→Prop}{h h':H}{x:V}{ls:List (List (List V))}(a:LsCut F h x ls)(s:h.Sub h'):LsCut F h' x ls:=a.keep (Keeps.of s fun _=>False) fun _ _ _=>id
theorem LsCut.len {F:Nat→Prop}{h:H}{x:V}{ls:List (List (List V))}(a:LsCut F h x ls)(hl:ls.length≤1000):q_len x=some (.int .i64 (ls.length:Int)):=by
 obtain⟨xs,a1,a2,_⟩:=a
 rw[(a1.sl (by simp only[List.length_map];omega)).lenE,a2]
theorem LsCut.one {F:Nat→Prop}{h:H}{x:V}{ls:List (List (List V))}(a:LsCut F h x ls):x.one=true:=by
 obtain⟨xs,a1,_⟩:=a;exact a1.one
theorem LsCut.at {F:Nat→Prop}{h:H}{x:V}{ls:List (List (List V))}(a:LsCut F h x ls)(hl:ls.length≤1000){i:Nat}(hi:i<ls.length):
  ∃b o k cs v,q_iad 1 x (.int .i64 (i:Int))=some (.ptr b o)∧h.get b=some (.cells k cs)∧(k=.rw∨k=.gr 1)∧nth o cs=some v∧CutO F h v 1 ls[i]∧blkOf x b∧¬blkOf v b∧F b∧
   ∀(v':V) (l':List (List V)) (h1:H),Keeps (blkOf v) h h1→CutO F h1 v' 1 l'→(∀c,blkOf v' c→blkOf v c∨h.next≤c)→∃cs',putN o [v'] cs=some cs'∧LsCut F (h1.set b (.cells k cs')) x (ls.set i l'):=by
 obtain⟨xs,a1,a2,a3,a4⟩:=a
 have hi':i<xs.length:=by omega
 have sx:=a1.sl (by simp only[List.length_map];omega)
 obtain⟨b,o,c,cs,e1,e2,e3,_,_,e4⟩:=sx.at hi'
 have e5:=e4 (by omega)
 obtain⟨b',e6⟩:∃b',blkOf x b':=⟨b,⟨_,_,_,e1⟩⟩
 have hbx:blkOf x b:=⟨_,_,_,e1⟩
 obtain⟨l1,l2,k,cs0,g1,g2⟩:=a1.blk hbx
 have hcs:cs0=cs:=by
  have:=cells_of g1;rw[e2] at this;cases this;rfl
 subst hcs
 obtain⟨c1,c2⟩:=a3 i hi' hi
 refine⟨b,o+i*1,k,cs0,xs[i],e3 (nat_cst i),g1,g2,by rw[e5];rfl,c1,hbx,fun hv=>c2 b hv hbx,l1,fun v' l' h1 kk cv nb=>?_⟩
 have shape:∃rest,cs0=(xs.map fun v=>[v]).flatten++rest∧o=0∧(∀xs':List V,xs'.length=xs.length→∀h2:H,h2.get b=some (.cells k ((xs'.map fun v=>[v]).flatten++rest))→b<h2.next→CutO F h2 x 1 (xs'.map fun v=>[v])):=by
  rcases a1.2 with⟨e,_⟩|⟨b2,rest,j,e,m1,m2,hb,hr⟩|⟨b2,c2',rest,e,m1,m2,hb,hc,hlc⟩
  ·rw[e] at e1;cases e1
  ·rw[e] at e1
   injection e1 with x1 x2 x3 x4
   subst x1;subst x2;subst x4
   rw[g1] at hb;cases hb
   exact⟨rest,rfl,rfl,fun xs' hx' h2 hg hn=>⟨fun r hr=>by rw[List.mem_map] at hr;obtain⟨_,_,rfl⟩:=hr;rfl,.inr (.inl ⟨_,rest,j,by rw[e];simp[hx'],m1,hn,hg,hr⟩)⟩⟩
  ·rw[e] at e1
   injection e1 with x1 x2 x3 x4
   subst x1;subst x2;subst x4
   rw[g1] at hb;cases hb
   exact⟨rest,rfl,rfl,fun xs' hx' h2 hg hn=>⟨fun r hr=>by rw[List.mem_map] at hr;obtain⟨_,_,rfl⟩:=hr;rfl,.inr (.inr ⟨_,c2',rest,by rw[e];simp[hx'],m1,hn,hg,by rw[List.length_map,hx'] at *;exact hc,by rw[List.length_map,hx'] at *;exact hlc⟩)⟩⟩
 obtain⟨rest,ecs,eo,mk⟩:=shape
 have fm:∀l:List V,(l.map fun v=>[v]).flatten=l:=fun l=>by induction l with|nil=>rfl|cons a l ih=>simp[ih]
 have hput:putN (o+i*1) [v'] cs0=some (((xs.set i v').map fun v=>[v]).flatten++rest):=by
  rw[ecs,eo,fm,fm]
  have e:xs=xs.take i++xs[i]::xs.drop (i+1):=by rw[←List.drop_eq_getElem_cons hi',List.take_append_drop]
  have:=putN_app (pre:=xs.take i) (new:=[v']) (old:=[xs[i]]) (rest:=xs.drop (i+1)++rest) rfl
  rw[List.length_take,Nat.min_eq_left (by omega)] at this
  rw[List.set_eq_take_append_cons_drop,if_pos hi',Nat.zero_add,Nat.mul_one]
  have e3:xs++rest=xs.take i++[xs[i]]++(xs.drop (i+1)++rest):=by
   rw[←List.append_assoc]
   congr 1
   rw[List.append_assoc]
   exact e
  rw[e3,this]
  simp
 refine⟨_,hput,?_⟩
 have hbn:b<h1.next:=Nat.lt_of_lt_of_le l2 kk.1
 have kS:Keeps (fun c=>c=b) h1 (h1.set b (.cells k (((xs.set i v').map fun v=>[v]).flatten++rest))):=Keeps.set _ _ _
 refine⟨xs.set i v',mk (xs.set i v') (by simp) _ (by rw[get_set_same rfl]) (by rw[H.next_set];exact hbn),by simp[a2],fun j hj hj'=>?_,fun j m hj hm hne c hc=>?_⟩
 ·rw[List.length_set] at hj hj'
  by_cases e:i=j
  ·subst e
   rw[List.getElem_set_self,List.getElem_set_self]
   have hd:∀c,blkOf v' c→¬blkOf x c:=fun c hc hx=>by
    rcases nb c hc with h2|h2
    ·exact c2 c h2 hx
    ·have:=(a1.blk hx).2.1;omega
   exact⟨cv.keep kS fun c hc e=>hd c hc (by rw[e];exact hbx),hd⟩
  ·rw[List.getElem_set_ne e,List.getElem_set_ne e]
   obtain⟨d1,d2⟩:=a3 j hj hj'
   exact⟨(d1.keep kk fun c hc hv=>a4 j i hj hi' (fun h=>e h.symm) c hc hv).keep kS fun c hc e=>d2 c hc (by rw[e];exact hbx),d2⟩
 ·rw[List.length_set] at hj hm
  by_cases e:i=j
  ·subst e
   rw[List.getElem_set_self] at hc
   rw[List.getElem_set_ne hne]
   intro hm2
   rcases nb c hc with h2|h2
   ·exact a4 i m hi' hm hne c h2 hm2
   ·have:=((a3 m hm (by omega)).1.blk hm2).2.1;omega
  ·rw[List.getElem_set_ne e] at hc
   by_cases e2:i=m
   ·subst e2
    rw[List.getElem_set_self]
    intro hm2
    rcases nb c hm2 with h2|h2
    ·exact a4 j i hj hi' hne c hc h2
    ·have:=((a3 j hj (by omega)).1.blk hc).2.1;omega
   ·rw[List.getElem_set_ne e2];exact a4 j m hj hm hne c hc
theorem LsCut.push {F:Nat→Prop}{hp h:H}{x y v:V}{ls:List (List (List V))}{l:List (List V)}{Q:V→H→Prop}(a:LsCut F hp x ls)(s:hp.Sub h)(hlo:F h.next)(hl:ls.length≤1000)(ov:CutO F h v 1 l)(fv:∀b,blkOf v b→hp.next≤b)(hy:SlAt h y 1 [[v]])
  (q:∀x' h',LsCut F h' x' (ls++[l])→Keeps (blkOf x) h h'→(∀b,blkOf x' b→blkOf x b∨h.next≤b)→h'.wf→Q x' h'):P2 (e_app' h 1 24 x y) Q:=by
 obtain⟨xs,b1,a2,b3,a4⟩:=a
 have hw:=s.wf
 have a1:=b1.mono s
 have a3:∀i (hi:i<xs.length) (hj:i<ls.length),CutO F h xs[i] 1 ls[i]∧∀b,blkOf xs[i] b→¬blkOf x b:=fun i hi hj=>⟨(b3 i hi hj).1.mono s,(b3 i hi hj).2⟩
 have dv:∀b,blkOf v b→¬blkOf x b:=fun b hb hx=>by have:=fv b hb;have:=(b1.blk hx).2.1;omega
 have ds:∀b,blkOf v b→∀i (hi:i<xs.length),¬blkOf xs[i] b:=fun b hb i hi hx=>by have:=fv b hb;have:=((b3 i hi (by omega)).1.blk hx).2.1;omega
 have hone:allOne [v]=true:=by simp[allOne_cons,ov.one,allOne_nil]
 refine a1.app1 (by_:=24) (r:=[v]) hw hlo rfl (by omega) hy hone (by simp only[List.length_map];omega) (by simp only[List.length_map];omega) fun x' h' o' nb k w'=>?_
 refine q x' h' ⟨xs++[v],by rw[List.map_append];exact o',by simp[a2],fun i hi hj=>?_,fun i m hi hm hne b hb=>?_⟩ k nb w'
 ·rw[List.length_append,List.length_singleton] at hi hj
  by_cases hlt:i<xs.length
  ·rw[List.getElem_append_left hlt,List.getElem_append_left (by omega)]
   obtain⟨c1,c2⟩:=a3 i hlt (by omega)
   refine⟨c1.keep k c2,fun b hb hx=>?_⟩
   rcases nb b hx with h1|h1
   ·exact c2 b hb h1
   ·have:=(c1.blk hb).2.1;omega
  ·have e:i=xs.length:=by omega
   have e1:(xs++[v])[i]=v:=by subst e;simp
   have e2:(ls++[l])[i]=l:=by
    have:i=ls.length:=by omega
    subst this;simp
   rw[e1,e2]
   refine⟨ov.keep k dv,fun b hb hx=>?_⟩
   rcases nb b hx with h1|h1
   ·exact dv b hb h1
   ·have:=(ov.blk hb).2.1;omega
 ·rw[List.length_append,List.length_singleton] at hi hm
  by_cases h1:i<xs.length
  ·rw[List.getElem_append_left h1] at hb
   by_cases h2:m<xs.length
   ·rw[List.getElem_append_left h2];exact a4 i m h1 h2 hne b hb
   ·have e1:(xs++[v])[m]=v:=by
     have:m=xs.length:=by omega
     subst this;simp
    rw[e1];exact fun h3=>ds b h3 i h1 hb
  ·have e1:(xs++[v])[i]=v:=by
    have:i=xs.length:=by omega
    subst this;simp
   rw[e1] at hb
   rw[List.getElem_append_left (by omega)]
   exact ds b hb m (by omega)
theorem LsCut.pop {F:Nat→Prop}{h:H}{x:V}{ls:List (List (List V))}{l:List (List V)}(a:LsCut F h x (ls++[l]))(hl:ls.length≤1000):
  ∃y,slcTo h 1 x (.int .i64 (ls.length:Int))=some y∧LsCut F h y ls∧∀b,blkOf y b→blkOf x b:=by
 obtain⟨xs,a1,a2,a3,a4⟩:=a
 rw[List.length_append,List.length_singleton] at a2
 have hne:xs≠[]:=fun e=>by rw[e] at a2;simp at a2
 have e:=List.dropLast_concat_getLast hne
 have hdl:xs.dropLast.length=ls.length:=by rw[List.length_dropLast];omega
 rw[←e,List.map_append] at a1
 obtain⟨y,h1,h2,h3⟩:=CutO.pop a1 (by omega) (by rw[List.length_map];omega)
 rw[List.length_map,hdl] at h1
 refine⟨y,h1,⟨xs.dropLast,h2,hdl,fun i hi hj=>?_,fun i k hi hk hne b hb=>?_⟩,h3⟩
 ·rw[List.getElem_dropLast]
  obtain⟨c1,c2⟩:=a3 i (by omega) (by simp;omega)
  rw[List.getElem_append_left hj] at c1
  exact⟨c1,fun b hb hy=>c2 b hb (h3 b hy)⟩
 ·rw[List.getElem_dropLast] at hb⊢
  exact a4 i k (by omega) (by omega) hne b hb
namespace Tryz
def CutI (h:H)(x:V)(l:List Int):Prop:=CutO (fun _=>True) h x 1 (l.map encI)∧l.length≤20
theorem CutI.nil (h:H):CutI h .nils []:=⟨⟨by simp,.inl ⟨rfl,rfl⟩⟩,by simp⟩
theorem CutI.sl {h:H}{x:V}{l:List Int}(a:CutI h x l):SlAt h x 1 (l.map encI):=a.1.sl (by have:=a.2;simp only[List.length_map];omega)
theorem CutI.one {h:H}{x:V}{l:List Int}(a:CutI h x l):x.one=true:=a.1.one
theorem CutI.keep {h h':H}{S:Nat→Prop}{x:V}{l:List Int}(a:CutI h x l)(k:Keeps S h h')(n:∀b,blkOf x b→¬S b):CutI h' x l:=⟨a.1.keep k n,a.2⟩
theorem CutI.mono {h h':H}{x:V}{l:List Int}(a:CutI h x l)(s:h.Sub h'):CutI h' x l:=⟨a.1.mono s,a.2⟩
theorem CutI.lenE {h:H}{x:V}{l:List Int}(a:CutI h x l):q_len x=some (.int .i64 (l.length:Int)):=a.sl.lenE
end Tryz
end Go.Ab
namespace Go.Ab
theorem SlAt_keep2 {h h':H}{S:Nat→Prop}{x:V}{sz:Nat}{rows:List (List V)}(a:SlAt h x sz rows)(k:Keeps S h h')(n:rows≠[]→∀b,blkOf x b→¬S b):SlAt h' x sz rows:=by
 obtain⟨a1,a0,a2⟩:=a
 refine⟨a1,a0,?_⟩
 rcases a2 with a2|⟨b,o,c,cs,e1,e2,e3⟩
 ·exact .inl a2
 ·refine .inr ⟨b,o,c,cs,e1,?_,e3⟩
  by_cases hr:rows=[]
  ·exact .inl hr
  ·exact .inr (k.cells (e2.resolve_left hr) (n hr b ⟨_,_,_,e1⟩))
end Go.Ab
namespace Go.Ab.Tryz
open Go.Ab.Silk (comb)
theorem find_step (P:List Int→Bool)(l:List Int)(k f:Nat)(j:Int):(comb (k+1) (f+1) j).find? (fun c=>P (l++c))=
  match(comb k f (j+1)).find? (fun c=>P ((l++[j])++c)) with|some c=>some (j::c)|none=>(comb (k+1) f (j+1)).find? (fun c=>P (l++c)):=by
 simp only[comb,List.find?_append,List.find?_map]
 have e:(fun c=>P (l++c))∘ (fun l'=>j::l')=fun c=>P ((l++[j])++c):=by
  funext c;simp
 rw[e]
 cases(comb k f (j+1)).find? (fun c=>P ((l++[j])++c))<;>simp
theorem cloneInt_ev {h:H}{x:V}{rows:List (List V)}(hw:h.wf)(hx:SlAt h x 1 rows)(hl:rows.length≤1000000)(Q:V→H→Prop)(q:∀v h',OwnC h h' v 1 rows→Q v h'):Ev fnG fastA (.fn 134 [] []) [x] h Q:=by
 refine Ev_body (fd:=c134) rfl rfl rfl ?_
 rcases hx.2.2 with⟨rfl,e⟩|⟨b,o,c,cs,rfl,_⟩
 ·simp(disch:=first|omega|simp only[nZ]<;>omega|fail)only[c134,go_sem]
  exact q _ _ (by rw[e];exact(OwnSl.nil (H.Sub.refl hw) 1).c)
 ·simp(disch:=first|omega|simp only[nZ]<;>omega|fail)only[c134,go_sem]
  refine clone_core hw hx (by omega) (by omega) fun v h' ov=>?_
  simp(disch:=first|omega|simp only[nZ]<;>omega|fail)only[go_sem]
  exact q _ _ ov
def FnHolds (hb:H)(fv:V)(oC n:Nat)(P:List Int→Bool)(Post:List Int→H→Prop):Prop:=∀(l:List Int) (x:V) (h1:H),(∀a∈l,0≤a∧a<(n:Int))→hb.Sub h1→CutI h1 x l→(∀b,blkOf x b→hb.next≤b∧b≠oC)→(∃y,h1.get oC=some (.cells .rw [y]))→
 ∀R:V→H→Prop,(∀h2,Keeps (fun c=>c=oC) h1 h2→h2.wf→(∃y,h2.get oC=some (.cells .rw [y]))→(P l=true→Post l h2)→R (.bool (P l)) h2)→Ev fnG fastA fv [x] h1 R
def LsRes (P:List Int→Bool)(Post:List Int→H→Prop)(l:List Int)(r:Option (List Int))(t:Bool)(h':H):Prop:=match r with
 |some c=>t=true∧P (l++c)=true∧Post (l++c) h'
 |none=>t=false
set_option maxHeartbeats 2000000 in
theorem lists1_ev {hb:H}(hwb:hb.wf){fv:V}{P:List Int→Bool}{Post:List Int→H→Prop}{kC fC nC gC oC:Nat}{many n:Nat}(hP:FnHolds hb fv oC n P Post)(ho:hb.next≤oC)(n1:kC≠oC)(n2:fC≠oC)(n3:nC≠oC)(n4:gC≠oC)(hmany:many≤20)(hn:n≤1000):
  ∀(k:Nat) (h:H) (x:V) (l:List Int) (i:Nat),l.length+k=many→(∀a∈l,0≤a∧a<(n:Int))→hb.Sub h→h.cells kC=some [.int .i64 (many:Int)]→h.cells fC=some [fv]→h.cells nC=some [.int .i64 (n:Int)]→h.cells gC=some [.fn 142 [] [.ptr kC 0,.ptr fC 0,.ptr nC 0,.ptr gC 0]]→
   (∃y,h.get oC=some (.cells .rw [y]))→CutI h x l→(∀b,blkOf x b→hb.next≤b∧b≠oC)→i≤n→∀(Q:V→H→Prop),(∀t h',Keeps (fun c=>c=oC) h h'→h'.wf→(∃y,h'.get oC=some (.cells .rw [y]))→LsRes P Post l ((comb k (n-i) (i:Int)).find? fun c=>P (l++c)) t h'→Q (.bool t) h')→
   Ev fnG fastA (.fn 142 [] [.ptr kC 0,.ptr fC 0,.ptr nC 0,.ptr gC 0]) [x,.int .i64 (i:Int)] h Q:=by
 intro k
 induction k with
 |zero=>
  intro h x l i hk hlr hs cm ch cd cf go ax nx hi Q q
  have hlx:=ax.lenE
  have hll:(l.length:Int)=(many:Int):=by omega
  refine Ev_body (fd:=c142) rfl rfl rfl ?_
  simp(disch:=first|omega|simp only[nZ]<;>omega|fail)only[c142,go_sem,hlx,hll,cm,ch]
  refine hP l x h hlr hs ax nx go _ fun h2 k2 w2 go2 hp=>?_
  simp(disch:=first|omega|simp only[nZ]<;>omega|fail)only[go_sem]
  refine q _ _ k2 w2 go2 ?_
  have e:(comb 0 (n-i) (i:Int)).find? (fun c=>P (l++c))=if P l=true then some [] else none:=by
   simp only[comb,List.find?_cons,List.find?_nil,List.append_nil]
   cases P l<;>rfl
  rw[e]
  cases hpl:P l
  ·exact rfl
  ·exact⟨rfl,by rw[List.append_nil];exact hpl,by rw[List.append_nil];exact hp hpl⟩
 |succ k ih=>
  intro h x l i hk hlr hs cm ch cd cf hgo ax nx hi Q q
  have hlx:=ax.lenE
  have hll:¬(l.length:Int)=(many:Int):=by omega
  refine Ev_body (fd:=c142) rfl rfl rfl ?_
  simp(disch:=first|omega|simp only[nZ]<;>omega|fail)only[c142,go_sem,hlx,hll,cm]
  refine W_count n (fun j s=>∃tm h',s=⟨tm,h',[]⟩∧Keeps (fun c=>c=oC) h h'∧h'.wf∧(∃y,h'.get oC=some (.cells .rw [y]))∧((comb (k+1) (n-i) (i:Int)).find? fun c=>P (l++c))=((comb (k+1) (n-j) (j:Int)).find? fun c=>P (l++c))∧
    (Opd.t 0).ev tm=x∧(Opd.t 4).ev tm=.ptr nC 0∧(Opd.t 5).ev tm=.ptr gC 0∧(Opd.t 9).ev tm=.int .i64 (j:Int))
   ?_ ?_ (i:=i) hi ⟨_,_,rfl,Keeps.refl _ _,hs.wf,hgo,rfl,(by simp),(by simp),(by simp),(by simp)⟩
  ·rintro j s hj ⟨tm,h',rfl,kh,wh,⟨y0,go⟩,hfind,t0,t4,t5,t9⟩
   have hj':(j:Int)<(n:Int):=by omega
   have hs':hb.Sub h':=kh.sub hs hwb (fun c hc=>by omega) wh
   have cm':=kh.cells cm n1
   have ch':=kh.cells ch n2
   have cd':=kh.cells cd n3
   have cf':=kh.cells cf n4
   have ax':=ax.keep kh fun b h0=>(nx b h0).2
   have hlo:=wh _ _ go
   have hll2:(l.map encI).length≤20:=by simp;omega
   simp(disch:=first|omega|simp only[nZ]<;>omega|fail)only[go_sem,t0,t4,t5,t9,cd',hj',cf']
   refine cloneInt_ev wh ax'.sl (by omega) _ fun v h1 ov=>?_
   have s01:=ov.1
   have cf1:=s01.cells cf'
   simp(disch:=first|omega|simp only[nZ]<;>omega|fail)only[go_sem,t0,t4,t5,t9]
   have s12:=(H.Sub.refl s01.wf).add (.cells .rw [.int .i64 (j:Int)])
   refine(ov.mono s12).app1 (by_:=8) (r:=encI (j:Int)) wh rfl (by omega) own1_lit rfl (by omega) (by omega) fun x2 h2 ox2 dx2 kx2=>?_
   have s02:=ox2.1
   have cf2:=s02.cells cf'
   have e2:l.map encI++[encI (j:Int)]=(l++[(j:Int)]).map encI:=by simp
   have ox2':=ox2
   rw[e2] at ox2'
   have ax2:CutI h2 x2 (l++[(j:Int)]):=⟨ox2'.cutO.up fun _ _ _=>trivial,by simp;omega⟩
   simp(disch:=first|omega|simp only[nZ]<;>omega|fail)only[go_sem,t0,t4,t5,t9,wr_succ]
   refine ih h2 x2 (l++[(j:Int)]) (j+1) (by simp;omega) (fun a ha=>(List.mem_append.1 ha).elim (hlr a) fun h=>by rw[List.mem_singleton] at h;omega) (hs'.trans s02) (s02.cells cm') (s02.cells ch') (s02.cells cd') cf2 ⟨y0,s02.get go⟩ ax2 (fun b h0=>by have:=(ox2.blk h0).1;have:=hs'.next;have:=s01.next;omega) (by omega) _ fun t h3 k23 w3 go3 hres=>?_
   have k03:Keeps (fun c=>c=oC) h h3:=((kh.trans (Keeps.of s02 fun c=>c=oC)).trans k23).mono fun c h=>by rcases h with(h|h)|h<;>exact h
   have hst:=find_step P l k (n-(j+1)) (j:Int)
   have ef:n-j=(n-(j+1))+1:=by omega
   have ej:((j:Int)+1)=((j+1:Nat):Int):=by omega
   rw[ef,hst,ej] at hfind
   cases hr:(comb k (n-(j+1)) ((j+1:Nat):Int)).find? (fun c=>P ((l++[(j:Int)])++c)) with
   |some c=>
    rw[hr] at hres hfind
    obtain⟨rfl,hp1,hp2⟩:=hres
    simp(disch:=first|omega|simp only[nZ]<;>omega|fail)only[go_sem,t0,t4,t5,t9,cf',cf1,s12.cells cf1,cf2]
    refine q _ _ k03 w3 go3 ?_
    rw[hfind]
    exact⟨rfl,by rw[List.append_assoc] at hp1;exact hp1,by rw[List.append_assoc] at hp2;exact hp2⟩
   |none=>
    rw[hr] at hres hfind
    have hres:t=false:=hres
    subst hres
    simp(disch:=first|omega|simp only[nZ]<;>omega|fail)only[go_sem,t0,t4,t5,t9,cf',cf1,s12.cells cf1,cf2,wr_succ]
    exact⟨_,_,rfl,k03,w3,go3,hfind,(by simp[t0]),(by simp[t4]),(by simp[t5]),(by simp)⟩
  ·rintro s ⟨tm,h',rfl,kh,wh,hgo',hfind,t0,t4,t5,t9⟩
   have cd':=kh.cells cd n3
   simp(disch:=first|omega|simp only[nZ]<;>omega|fail)only[go_sem,t0,t4,t5,t9,cd',Int.lt_irrefl]
   refine q _ _ kh wh hgo' ?_
   rw[hfind,Nat.sub_self]
   exact rfl
theorem lists_ev {hb h:H}(hwb:hb.wf){fv:V}{P:List Int→Bool}{Post:List Int→H→Prop}{oC:Nat}{k n:Nat}(hP:FnHolds hb fv oC n P Post)(h1:fv.one=true)(ho:hb.next≤oC)(hs:hb.Sub h)(go:∃y,h.get oC=some (.cells .rw [y]))(hk:k≤20)(hn:n≤1000)(Q:V→H→Prop)
  (q:∀t h',Keeps (fun c=>c=oC) h h'→h'.wf→(∃y,h'.get oC=some (.cells .rw [y]))→LsRes P Post [] ((comb k n 0).find? P) t h'→Q (.bool t) h'):Ev fnG fastA (.fn 94 [] []) [.int .i64 (k:Int),.int .i64 (n:Int),fv] h Q:=by
 obtain⟨y0,go⟩:=go
 have lo:=hs.wf _ _ go
 refine Ev_body (fd:=c94) rfl rfl rfl ?_
 have sA:h.Sub ((((h.add (.cells .rw [.int .i64 (k:Int)])).add (.cells .rw [.int .i64 (n:Int)])).add (.cells .rw [fv])).add (.cells .rw [.fn 142 [] [.ptr h.next 0,.ptr (h.next+1+1) 0,.ptr (h.next+1) 0,.ptr (h.next+1+1+1) 0]])):=(((((H.Sub.refl hs.wf).add _).add _).add _).add _)
 have ck:((((h.add (.cells .rw [.int .i64 (k:Int)])).add (.cells .rw [.int .i64 (n:Int)])).add (.cells .rw [fv])).add (.cells .rw [.fn 142 [] [.ptr h.next 0,.ptr (h.next+1+1) 0,.ptr (h.next+1) 0,.ptr (h.next+1+1+1) 0]])).cells h.next=some [.int .i64 (k:Int)]:=by simp(disch:=first|omega|simp only[nZ]<;>omega|fail)only[go_sem]
 have cn:((((h.add (.cells .rw [.int .i64 (k:Int)])).add (.cells .rw [.int .i64 (n:Int)])).add (.cells .rw [fv])).add (.cells .rw [.fn 142 [] [.ptr h.next 0,.ptr (h.next+1+1) 0,.ptr (h.next+1) 0,.ptr (h.next+1+1+1) 0]])).cells (h.next+1)=some [.int .i64 (n:Int)]:=by simp(disch:=first|omega|simp only[nZ]<;>omega|fail)only[go_sem]
 have cf:((((h.add (.cells .rw [.int .i64 (k:Int)])).add (.cells .rw [.int .i64 (n:Int)])).add (.cells .rw [fv])).add (.cells .rw [.fn 142 [] [.ptr h.next 0,.ptr (h.next+1+1) 0,.ptr (h.next+1) 0,.ptr (h.next+1+1+1) 0]])).cells (h.next+1+1)=some [fv]:=by simp(disch:=first|omega|simp only[nZ]<;>omega|fail)only[go_sem]
 have cg:((((h.add (.cells .rw [.int .i64 (k:Int)])).add (.cells .rw [.int .i64 (n:Int)])).add (.cells .rw [fv])).add (.cells .rw [.fn 142 [] [.ptr h.next 0,.ptr (h.next+1+1) 0,.ptr (h.next+1) 0,.ptr (h.next+1+1+1) 0]])).cells (h.next+1+1+1)=some [.fn 142 [] [.ptr h.next 0,.ptr (h.next+1+1) 0,.ptr (h.next+1) 0,.ptr (h.next+1+1+1) 0]]:=by simp(disch:=first|omega|simp only[nZ]<;>omega|fail)only[go_sem]
 simp(disch:=first|omega|simp only[nZ]<;>omega|fail)only[c94,go_sem,h1,cells_one h1]
 generalize((((h.add (.cells .rw [.int .i64 (k:Int)])).add (.cells .rw [.int .i64 (n:Int)])).add (.cells .rw [fv])).add (.cells .rw [.fn 142 [] [.ptr h.next 0,.ptr (h.next+1+1) 0,.ptr (h.next+1) 0,.ptr (h.next+1+1+1) 0]]))=h5 at sA ck cn cf cg⊢
 have hl:=lists1_ev hwb hP ho (kC:=h.next) (fC:=h.next+1+1) (nC:=h.next+1) (gC:=h.next+1+1+1) (by omega) (by omega) (by omega) (by omega) (many:=k) (n:=n) hk hn k h5 .nils [] 0 (by simp) (by simp) (hs.trans sA) ck cf cn cg ⟨y0,sA.get go⟩ (CutI.nil _) (fun b hb=>absurd hb (nblk b)) (Nat.zero_le _)
 refine hl _ fun t h6 k6 w6 go6 hres=>?_
 simp(disch:=first|omega|simp only[nZ]<;>omega|fail)only[go_sem]
 exact q t h6 (((Keeps.of sA fun c=>c=oC).trans k6).mono fun c h=>by rcases h with h|h<;>exact h) w6 go6 (by simpa using hres)
theorem FnHolds.mono {hb h:H}{fv:V}{oC:Nat}{n:Nat}{P:List Int→Bool}{Post:List Int→H→Prop}(a:FnHolds hb fv oC n P Post)(s:hb.Sub h):FnHolds h fv oC n P Post:=fun l x h1 hl s1 hx nx=>a l x h1 hl (s.trans s1) hx fun b h0=>⟨Nat.le_trans s.next (nx b h0).1,(nx b h0).2⟩
end Go.Ab.Tryz
namespace Go.Ab.Tryz
end Go.Ab.Tryz
namespace Go.Ab.Tryz
end Go.Ab.Tryz
namespace Go.Ab.Tryz
end Go.Ab.Tryz
namespace Go.Ab.Tryz
open Go.Ab.Silk (comb firstOf)
def PostL (n0 oC:Nat)(l:List Int)(h:H):Prop:=∃y,h.get oC=some (.cells .rw [y])∧CutI h y l∧∀b,blkOf y b→n0≤b
end Go.Ab.Tryz
namespace Go.Ab.Tryz
open Go.Ab.Silk (comb)
def mostP (T:Int→Int→Bool)(O:List Int→Bool)(l:List Int):Bool:=O l&&l.all fun p=>l.all fun q=>decide (p=q)||T p q
def lastOf (P:List Int→Bool)(n:Nat):Nat→Option (List Int)
 |0=>none
 |k+1=>match(comb (k+1) n 0).find? P with
  |some c=>some c
  |none=>lastOf P n k
def TestOk (hb:H)(tf:V)(n:Nat)(T:Int→Int→Bool):Prop:=∀a b:Int,0≤a∧a<(n:Int)→0≤b∧b<(n:Int)→PureA hb tf [.int .i64 a,.int .i64 b] (.bool (T a b))
def ListOk (hb:H)(f:V)(O:List Int→Bool):Prop:=∀(l:List Int) (x:V) (h1:H),hb.Sub h1→SlAt h1 x 1 (l.map encI)→∀R:V→H→Prop,(∀h2,h1.Sub h2→R (.bool (O l)) h2)→Ev fnG fastA f [x] h1 R
theorem most3_ev {hb:H}{tf:V}{n:Nat}{T:Int→Int→Bool}(hT:TestOk hb tf n T){h:H}(s:hb.Sub h){bP bT:Nat}{p:Int}(hp:0≤p∧p<(n:Int))(gP:h.cells bP=some [.int .i64 p])(gT:h.cells bT=some [tf]){a:Int}(ha:0≤a∧a<(n:Int)):
  PureA h (.fn 129 [] [.ptr bP 0,.ptr bT 0]) [.int .i64 a] (.bool (decide (p=a)||T p a)):=by
 intro h1 hs
 refine Ev.gen fun Q q=>?_
 refine Ev_body (fd:=c129) rfl rfl rfl ?_
 by_cases e:p=a
 ·have hd:decide (p=a)=true:=decide_eq_true e
  simp(disch:=first|omega|simp only[nZ]<;>omega|fail)only[c129,go_sem,hs.cells gP,hd]
  exact q _ _ ⟨by rw[hd];rfl,H.Sub.refl hs.wf⟩
 ·have hd:decide (p=a)=false:=decide_eq_false e
  simp(disch:=first|omega|simp only[nZ]<;>omega|fail)only[c129,go_sem,hs.cells gP,hs.cells gT,hd]
  refine(hT p a hp ha).use (s.trans hs) fun h2 s2=>?_
  simp(disch:=first|omega|simp only[nZ]<;>omega|fail)only[go_sem]
  exact q _ _ ⟨by rw[hd];rfl,s2⟩
theorem most2_ev {hb:H}{tf:V}{n:Nat}{T:Int→Int→Bool}(hT:TestOk hb tf n T){h:H}(s:hb.Sub h){bL bT:Nat}{x:V}{l:List Int}(hl:∀a∈l,0≤a∧a<(n:Int))(gL:h.cells bL=some [x])(hx:SlAt h x 1 (l.map encI))(gT:h.cells bT=some [tf]){p:Int}(hp:0≤p∧p<(n:Int)):
  PureA h (.fn 128 [] [.ptr bL 0,.ptr bT 0]) [.int .i64 p] (.bool (l.all fun q=>decide (p=q)||T p q)):=by
 intro h1 hs
 refine Ev.gen fun Q q=>?_
 refine Ev_body (fd:=c128) rfl rfl rfl ?_
 have s1:=(H.Sub.refl hs.wf).add (.cells .rw [.int .i64 p])
 have g1:(h1.add (.cells .rw [.int .i64 p])).cells h1.next=some [.int .i64 p]:=cells_add_new rfl
 have hsA:=hs.trans s1
 have gLA:=hsA.cells gL
 simp(disch:=first|omega|simp only[nZ]<;>omega|fail)only[c128,go_sem,gLA,hs.cells gL]
 generalize h1.add (.cells .rw [.int .i64 p])=h2 at s1 g1 hsA gLA⊢
 try simp(disch:=first|omega|simp only[nZ]<;>omega|fail)only[go_sem,gLA]
 refine(everyInt_ev (p:=fun q=>decide (p=q)||T p q) s1.wf (hx.mono hsA) fun a ha=>most3_ev hT (s.trans hsA) hp g1 (hsA.cells gT) (hl a ha)).mono fun u h3 hu=>?_
 obtain⟨rfl,s3⟩:=hu
 simp(disch:=first|omega|simp only[nZ]<;>omega|fail)only[go_sem]
 exact q _ _ ⟨rfl,s1.trans s3⟩
theorem most1_holds {hb:H}(hwb:hb.wf){tf okf:V}{n:Nat}{T:Int→Int→Bool}{O:List Int→Bool}(hT:TestOk hb tf n T)(hO:ListOk hb okf O){oC bO bT:Nat}(ho:hb.next≤oC)(gO:hb.cells bO=some [okf])(gT:hb.cells bT=some [tf]):
  FnHolds hb (.fn 127 [] [.ptr oC 0,.ptr bO 0,.ptr bT 0]) oC n (mostP T O) (PostL hb.next oC):=by
 intro l x h1 hlr s1 hx nx ⟨y0,go⟩ R r
 have hx1:=hx.one
 have lo:=s1.wf _ _ go
 have sA:=(H.Sub.refl s1.wf).add (.cells .rw [x])
 have gA:(h1.add (.cells .rw [x])).cells h1.next=some [x]:=cells_add_new rfl
 have goA:=sA.get go
 have kS:=Keeps.set (h1.add (.cells .rw [x])) oC (.cells .rw [x])
 have wS:=H.wf_set sA.wf (.cells .rw [x]) goA
 have sS:hb.Sub ((h1.add (.cells .rw [x])).set oC (.cells .rw [x])):=kS.sub (s1.trans sA) hwb (fun c hc=>by omega) wS
 have axS:CutI ((h1.add (.cells .rw [x])).set oC (.cells .rw [x])) x l:=(hx.mono sA).keep kS fun b h0=>(nx b h0).2
 have gS:((h1.add (.cells .rw [x])).set oC (.cells .rw [x])).get oC=some (.cells .rw [x]):=get_set_same rfl
 have gLS:((h1.add (.cells .rw [x])).set oC (.cells .rw [x])).cells h1.next=some [x]:=kS.cells gA (by omega)
 refine Ev_body (fd:=c127) rfl rfl rfl ?_
 have gOS:=sS.cells gO
 have gTS:=sS.cells gT
 simp(disch:=first|omega|simp only[nZ]<;>omega|fail)only[c127,go_sem,go,hx1,cells_one hx1]
 have kall:=(Keeps.of sA fun c=>c=oC).trans kS
 generalize(h1.add (.cells .rw [x])).set oC (.cells .rw [x])=h2 at kS wS sS axS gS gLS gOS gTS kall⊢
 generalize h1.next=bL at gLS⊢
 simp(disch:=first|omega|simp only[nZ]<;>omega|fail)only[go_sem,gOS,gLS]
 refine hO l x h2 sS axS.sl _ fun h3 s3=>?_
 cases hol:O l with
 |false=>
  have hP:mostP T O l=false:=by unfold mostP;rw[hol];rfl
  rw[hP] at r
  simp(disch:=first|omega|simp only[nZ]<;>omega|fail)only[go_sem]
  exact r h3 ((kall.trans (Keeps.of s3 fun c=>c=oC)).mono fun c h=>by rcases h with(h|h)|h<;>exact h) s3.wf ⟨x,s3.get gS⟩ (fun h=>by cases h)
 |true=>
  have hP:mostP T O l=l.all fun p=>l.all fun q=>decide (p=q)||T p q:=by unfold mostP;rw[hol];rfl
  rw[hP] at r
  simp(disch:=first|omega|simp only[nZ]<;>omega|fail)only[go_sem,s3.cells gLS]
  refine(everyInt_ev (p:=fun p=>l.all fun q=>decide (p=q)||T p q) s3.wf (axS.mono s3).sl fun a ha=>most2_ev hT (sS.trans s3) hlr (s3.cells gLS) (axS.mono s3).sl (s3.cells gTS) (hlr a ha)).mono fun u h4 hu=>?_
  obtain⟨rfl,s4⟩:=hu
  simp(disch:=first|omega|simp only[nZ]<;>omega|fail)only[go_sem]
  have s34:=s3.trans s4
  exact r h4 ((kall.trans (Keeps.of s34 fun c=>c=oC)).mono fun c h=>by rcases h with(h|h)|h<;>exact h) s34.wf ⟨x,s34.get gS⟩ (fun _=>⟨x,s34.get gS,axS.mono s34,fun b h0=>(nx b h0).1⟩)
theorem TestOk.mono {hb h:H}{tf:V}{n:Nat}{T:Int→Int→Bool}(a:TestOk hb tf n T)(s:hb.Sub h):TestOk h tf n T:=fun x y hx hy=>(a x y hx hy).mono s
theorem ListOk.mono {hb h:H}{f:V}{O:List Int→Bool}(a:ListOk hb f O)(s:hb.Sub h):ListOk h f O:=fun l x h1 s1=>a l x h1 (s.trans s1)
set_option maxHeartbeats 1000000 in
theorem most_ev {h:H}{d:Nat}{t:Tb}(hw:h.wf)(hd:DkAt h d t)(g:Good t){tf okf:V}{T:Int→Int→Bool}{O:List Int→Bool}(h1:tf.one=true)(h2:okf.one=true)(hT:TestOk h tf t.pieces.length T)(hO:ListOk h okf O)(Q:V→H→Prop)
  (q:∀y h',h.Sub h'→(match lastOf (mostP T O) t.pieces.length t.pieces.length with|some c=>CutI h' y c|none=>y=.nils)→Q y h'):Ev fnG fastA (.fn 76 [] []) [.ptr d 0,.agg [tf],okf] h Q:=by
 obtain⟨E,L,P,gd,aE,aL,aP⟩:=id hd
 have gp:=g.pieces
 have hlP:=aP.lenE
 have ld:=hw _ _ gd
 refine Ev_body (fd:=c76) rfl rfl rfl ?_
 have s6:h.Sub ((h.add (.cells .rw [tf])).add (.cells .rw [okf])):=((H.Sub.refl hw).add _).add _
 have c4:((h.add (.cells .rw [tf])).add (.cells .rw [okf])).cells h.next=some [tf]:=by simp(disch:=first|omega|simp only[nZ]<;>omega|fail)only[go_sem]
 have c5:((h.add (.cells .rw [tf])).add (.cells .rw [okf])).cells (h.next+1)=some [okf]:=by simp(disch:=first|omega|simp only[nZ]<;>omega|fail)only[go_sem]
 have n6:((h.add (.cells .rw [tf])).add (.cells .rw [okf])).next=h.next+2:=by simp only[H.next_add]
 have hH:=most1_holds s6.wf (hT.mono s6) (hO.mono s6) (oC:=h.next+2) (by omega) c5 c4
 have s7:=(H.Sub.refl s6.wf).add (.cells .rw [.nils])
 have go7:(((h.add (.cells .rw [tf])).add (.cells .rw [okf])).add (.cells .rw [.nils])).get (h.next+2)=some (.cells .rw [.nils]):=get_add_new n6.symm
 have gd7:=s7.get (s6.get gd)
 have s07:=s6.trans s7
 simp(disch:=first|omega|simp only[nZ]<;>omega|fail)only[c76,go_sem,h1,h2,cells_one h1,cells_one h2,gd,cells_of gd,hlP]
 generalize((h.add (.cells .rw [tf])).add (.cells .rw [okf])).add (.cells .rw [.nils])=h7 at s7 go7 gd7 s07⊢
 generalize(h.add (.cells .rw [tf])).add (.cells .rw [okf])=h6 at s6 c4 c5 hH s7 n6
 refine W_loop (fun kk s=>∃tm h',s=⟨tm,h',[]⟩∧Keeps (fun c=>c=h.next+2) h7 h'∧h'.wf∧(∃y,h'.get (h.next+2)=some (.cells .rw [y]))∧kk≤t.pieces.length∧lastOf (mostP T O) t.pieces.length t.pieces.length=lastOf (mostP T O) t.pieces.length kk∧
   (Opd.t 0).ev tm=.ptr d 0∧(Opd.t 4).ev tm=.ptr h.next 0∧(Opd.t 5).ev tm=.ptr (h.next+1) 0∧(Opd.t 7).ev tm=.ptr (h.next+2) 0∧(Opd.t 8).ev tm=.int .i64 (kk:Int))
  ?_ t.pieces.length _ ⟨_,_,rfl,Keeps.refl _ _,s7.wf,⟨_,go7⟩,Nat.le_refl _,rfl,(by simp),(by simp),(by simp),(by simp),(by simp)⟩
 rintro kk s ⟨tm,h',rfl,k7,wh,go,hkn,hlo,t0,t4,t5,t7,t8⟩
 have sF:h.Sub h':=k7.sub s07 hw (fun c hc=>by omega) wh
 cases kk with
 |zero=>
  have hz:¬(0:Int)<((0:Nat):Int):=by omega
  simp(disch:=first|omega|simp only[nZ]<;>omega|fail)only[go_sem,t0,t4,t5,t7,t8,hz]
  exact q _ _ sF (by rw[hlo];rfl)
 |succ kk=>
  have hz:(0:Int)<((kk+1:Nat):Int):=by omega
  have gd':=cells_of (k7.2 _ _ gd7 (by omega))
  have s6':h6.Sub h':=k7.sub s7 s6.wf (fun c hc=>by omega) wh
  simp(disch:=first|omega|simp only[nZ]<;>omega|fail)only[go_sem,t0,t4,t5,t7,t8,hz,gd',hlP]
  refine lists_ev s6.wf hH rfl (by omega) s6' go (by omega) (by omega) _ fun tt h9 k9 w9 go9 hres=>?_
  have k79:Keeps (fun c=>c=h.next+2) h7 h9:=(k7.trans k9).mono fun c h=>by rcases h with h|h<;>exact h
  have hlo2:lastOf (mostP T O) t.pieces.length (kk+1)=match(comb (kk+1) t.pieces.length 0).find? (mostP T O) with|some c=>some c|none=>lastOf (mostP T O) t.pieces.length kk:=rfl
  rw[hlo2] at hlo
  cases hr:(comb (kk+1) t.pieces.length 0).find? (mostP T O) with
  |some c=>
   rw[hr] at hres hlo
   obtain⟨rfl,_,y,gy,ay,_⟩:=hres
   simp(disch:=first|omega|simp only[nZ]<;>omega|fail)only[go_sem,t0,t4,t5,t7,t8,cells_of gy]
   exact q _ _ (k79.sub s07 hw (fun c hc=>by omega) w9) (by rw[hlo];exact ay)
  |none=>
   rw[hr] at hres hlo
   have hres:tt=false:=hres
   subst hres
   have e1:((kk+1:Nat):Int)-1=(kk:Int):=by omega
   simp(disch:=first|omega|simp only[nZ]<;>omega|fail)only[go_sem,t0,t4,t5,t7,t8,wr_in,e1]
   exact⟨kk,by omega,_,_,rfl,k79,w9,go9,by omega,hlo,(by simp[t0]),(by simp[t4]),(by simp[t5]),(by simp[t7]),(by simp)⟩
end Go.Ab.Tryz
namespace Go.Ab.Tryz
open Go.Ab.Silk (comb)
theorem Ev_bound {f:FuncId}{a:V}{args:List V}{h:H}{Q:V→H→Prop}(he:Ev fnG fastA (.fn f [] []) (a::args) h Q):Ev fnG fastA (.fn f [a] []) args h Q:=by
 obtain⟨n,v,h',e,q⟩:=he
 refine⟨n,v,h',?_,q⟩
 cases n with
 |zero=>exact e
 |succ n=>exact e
def mT (t:Tb)(a b:Int):Bool:=matchB t a.toNat b.toNat
def LsOut (h':H)(y:V)(r:Option (List Int)):Prop:=match r with|some c=>CutI h' y c|none=>y=.nils
def grE (t:Tb)(p:Int):Int:=if check t≠0 then check t else if isPc t p=false then 1 else 0
def grR (t:Tb)(p:Int):Option (List Int):=if grE t p=0 then lastOf (mostP (mT t) fun l=>l.any fun r=>decide (p=r)) t.pieces.length t.pieces.length else none
theorem matchT_ok {hb:H}{d:Nat}{t:Tb}(hd:DkAt hb d t)(g:Good t):TestOk hb (.fn 77 [.ptr d 0] []) t.pieces.length (mT t):=by
 intro a c ha hc h1 hs
 obtain⟨i,rfl⟩:=Int.eq_ofNat_of_zero_le ha.1
 obtain⟨k,rfl⟩:=Int.eq_ofNat_of_zero_le hc.1
 refine Ev.gen fun Q q=>?_
 refine Ev_bound ?_
 refine match_ev hs.wf (hd.mono hs) g (by omega) (by omega) _ fun h2 s2=>?_
 exact q _ _ ⟨rfl,s2⟩
theorem greatest1_ok {hb:H}{b:Nat}{p:Int}(hb3:hb.cells b=some [.int .i64 p]):ListOk hb (.fn 78 [] [.ptr b 0]) fun l=>l.any fun r=>decide (p=r):=by
 intro l x h1 s1 hx R r
 refine Ev_body (fd:=c78) rfl rfl rfl ?_
 simp(disch:=first|omega|simp only[nZ]<;>omega|fail)only[c78,go_sem,s1.cells hb3]
 refine hasInt_ev s1.wf hx p _ fun h2 s2=>?_
 simp(disch:=first|omega|simp only[nZ]<;>omega|fail)only[go_sem]
 exact r _ s2
theorem Greatest_ev {h:H}{v:V}{t:Tb}(hw:h.wf)(ht:TbIs h v t)(p:Int)(Q:V→H→Prop)
  (q:∀y h',h.Sub h'→LsOut h' y (grR t p)→Q (.tup [y,.int .i64 (grE t p)]) h'):Ev fnG fastA (.fn 18 [] []) [v,.int .i64 p] h Q:=by
 have ht0:=ht
 obtain⟨E,L,P,rfl,aE,aL,aP⟩:=ht
 refine Ev_body (fd:=c18) rfl rfl rfl ?_
 have s1:h.Sub ((h.add (.cells .rw [E,L,P])).add (.cells .rw [.int .i64 p])):=(by repeat(first|assumption|exact H.Sub.refl (by assumption)|refine H.Sub.add ?_ _|refine H.Sub.set ?_ (by first|omega|(simp only[H.next_add,H.next_set,H.next_del]<;>omega)) (by first|omega|(simp only[H.next_add,H.next_set,H.next_del]<;>omega)) (by assumption) _))
 have g2:((h.add (.cells .rw [E,L,P])).add (.cells .rw [.int .i64 p])).cells h.next=some [E,L,P]:=by simp(disch:=first|omega|simp only[nZ]<;>omega|fail)only[go_sem]
 have g3:((h.add (.cells .rw [E,L,P])).add (.cells .rw [.int .i64 p])).cells (h.next+1)=some [.int .i64 p]:=by simp(disch:=first|omega|simp only[nZ]<;>omega|fail)only[go_sem]
 have bad:∀h',h.Sub h'→∀e:Int,e≠0→grE t p=e→Q (.tup [.nils,.int .i64 e]) h':=fun h' s e he e1=>by
  have q':=q .nils _ s (by unfold grR;rw[e1,if_neg he];exact rfl)
  rw[e1] at q';exact q'
 simp(disch:=first|omega|simp only[nZ]<;>omega|fail)only[c18,go_sem]
 generalize((h.add (.cells .rw [E,L,P])).add (.cells .rw [.int .i64 p]))=h4 at s1 g2 g3⊢
 refine opened_use s1.wf (ht0.mono s1) _ (fun h5 s45 c=>?_) fun h5 d s15 c g hd=>?_
 ·simp(disch:=first|omega|simp only[nZ]<;>omega|fail)only[go_sem,ne_eq,c,not_false_eq_true,s45.cells g2]
  exact bad _ (s1.trans s45) _ c (by unfold grE;rw[if_pos c])
 have s5:=s1.trans s15
 simp(disch:=first|omega|simp only[nZ]<;>omega|fail)only[go_sem,ne_eq,not_true_eq_false,s15.cells g2,s15.cells g3]
 refine Ev_bound ?_
 refine piece_ev s5.wf (ht0.mono s5) p _ fun h6 s6=>?_
 have s16:=s15.trans s6
 cases cp:isPc t p
 ·simp(disch:=first|omega|simp only[nZ]<;>omega|fail)only[go_sem,Bool.not_false]
  exact bad _ (s1.trans s16) 1 (by decide) (by unfold grE;rw[if_neg (by simp[c]),if_pos cp])
 have e1:grE t p=0:=by unfold grE;rw[if_neg (by simp[c]),if_neg (by simp[cp])]
 have hd6:=hd.mono s6
 have er:grR t p=lastOf (mostP (mT t) fun l=>l.any fun r=>decide (p=r)) t.pieces.length t.pieces.length:=by unfold grR;rw[if_pos e1]
 simp(disch:=first|omega|simp only[nZ]<;>omega|fail)only[go_sem,Bool.not_true]
 refine most_ev s6.wf hd6 g rfl rfl (matchT_ok hd6 g) (greatest1_ok (s16.cells g3)) _ fun y h7 s7 hy=>?_
 simp(disch:=first|omega|simp only[nZ]<;>omega|fail)only[go_sem]
 have q':=q y _ (s1.trans (s16.trans s7)) (by rw[er];exact hy)
 rw[e1] at q';exact q'
end Go.Ab.Tryz
namespace Go.Ab
theorem Keeps.low {S:Nat→Prop}{n:Nat}{h h':H}(k:Keeps (fun c=>S c∨n≤c) h h')(hw:h.wf)(l:h.next≤n):Keeps S h h':=
 ⟨k.1,fun c y e ns=>k.2 c y e fun h0=>h0.elim ns fun h1=>by have:=hw c y e;omega⟩
end Go.Ab
namespace Go.Ab.Tryz
theorem sorting11_ev {h:H}{d dC pB:Nat}{t:Tb}(hd:DkAt h d t)(g:Good t)(gD:h.cells dC=some [.ptr d 0]){p:Nat}(gP:h.cells pB=some [.int .i64 (p:Int)])(hp:p<t.pieces.length){x:Int}(hx:0≤x∧x<(t.pieces.length:Int)):
  PureA h (.fn 131 [] [.ptr dC 0,.ptr pB 0]) [.int .i64 x] (.bool (mT t x (p:Int))):=by
 intro h1 hs
 obtain⟨i,rfl⟩:=Int.eq_ofNat_of_zero_le hx.1
 refine Ev.gen fun Q q=>?_
 refine Ev_body (fd:=c131) rfl rfl rfl ?_
 simp(disch:=first|omega|simp only[nZ]<;>omega|fail)only[c131,go_sem,hs.cells gD,hs.cells gP]
 refine match_ev hs.wf (hd.mono hs) g (by omega) hp _ fun h2 s2=>?_
 simp(disch:=first|omega|simp only[nZ]<;>omega|fail)only[go_sem]
 exact q _ _ ⟨by simp only[mT,Int.toNat_natCast],s2⟩
abbrev eS (S:List (List Int)):List (List (List V)):=S.map fun l=>l.map encI
theorem eS_set (S:List (List Int))(i:Nat)(l:List Int):(eS S).set i (l.map encI)=eS (S.set i l):=by rw[eS,eS,List.map_set]
set_option maxHeartbeats 4000000 in
theorem sortput_ev {h0:H}(hw0:h0.wf){d:Nat}{t:Tb}(hd:DkAt h0 d t)(g:Good t){dC mC sC pC most:Nat}(l0:h0.next≤sC)(n1:dC≠sC)(n2:mC≠sC)(n3:pC≠sC)(hmost:most≤20):
  ∀(k p:Nat) (S:List (List Int)) (F:Nat→Prop) (h:H) (x:V),p+k=t.pieces.length→S.length≤most→(∀l∈S,l.length≤p∧∀a∈l,0≤a∧a<(p:Int))→h0.Sub h→(∀c,F c→h0.next≤c∧c≠dC∧c≠mC∧c≠sC∧c≠pC∧c<h.next)→
   h.cells dC=some [.ptr d 0]→h.cells mC=some [.int .i64 (most:Int)]→h.cells pC=some [.fn 130 [] [.ptr dC 0,.ptr sC 0,.ptr pC 0,.ptr mC 0]]→h.get sC=some (.cells .rw [x])→LsCut F h x (eS S)→∀Q:V→H→Prop,
   (∀h' x' r,Keeps (fun c=>c=sC∨F c) h h'→h'.wf→h'.get sC=some (.cells .rw [x'])→LsCut (fun c=>F c∨h.next≤c) h' x' (eS (r.getD S))→putR (mT t) most k p S=r→Q (.bool r.isSome) h')→
   Ev fnG fastA (.fn 130 [] [.ptr dC 0,.ptr sC 0,.ptr pC 0,.ptr mC 0]) [.int .i64 (p:Int)] h Q:=by
 intro k
 induction k with
 |zero=>
  intro p S F h x hk hl hm hs hF gD gM gP gS lx Q q
  have s1:=(H.Sub.refl hs.wf).add (.cells .rw [.int .i64 (p:Int)])
  have g1:(h.add (.cells .rw [.int .i64 (p:Int)])).cells h.next=some [.int .i64 (p:Int)]:=cells_add_new rfl
  obtain⟨E,L,P,gd,aE,aL,aP⟩:=hd.mono (hs.trans s1)
  have hlP:=aP.lenE
  have hpn:decide ((p:Int)=(t.pieces.length:Int))=true:=decide_eq_true (by omega)
  have gD1:=s1.cells gD
  have gS1:=s1.get gS
  have l1:=lx.mono s1
  refine Ev_body (fd:=c130) rfl rfl rfl ?_
  simp(disch:=first|omega|simp only[nZ]<;>omega|fail)only[c130,go_sem]
  generalize h.add (.cells .rw [.int .i64 (p:Int)])=h5 at s1 g1 gd gD1 gS1 l1 hlP⊢
  simp(disch:=first|omega|simp only[nZ]<;>omega|fail)only[go_sem,g1,gD1,cells_of gd,hlP,hpn]
  exact q _ x (some S) (Keeps.of s1 _) s1.wf gS1 (l1.up fun b hb _=>.inl hb) rfl
 |succ k ih=>
  intro p S F h x hk hl hm hs hF gD gM gP gS lx Q q
  have hp:p<t.pieces.length:=by omega
  have s1:=(H.Sub.refl hs.wf).add (.cells .rw [.int .i64 (p:Int)])
  have g1:(h.add (.cells .rw [.int .i64 (p:Int)])).cells h.next=some [.int .i64 (p:Int)]:=cells_add_new rfl
  have nx1:(h.add (.cells .rw [.int .i64 (p:Int)])).next=h.next+1:=H.next_add _ _
  obtain⟨E,L,P,gd,aE,aL,aP⟩:=hd.mono (hs.trans s1)
  have hlP:=aP.lenE
  have gp:=g.pieces
  have hpn:decide ((p:Int)=(t.pieces.length:Int))=false:=decide_eq_false (by omega)
  have gD1:=s1.cells gD
  have gM1:=s1.cells gM
  have gP1:=s1.cells gP
  have gS1:=s1.get gS
  have l1:=lx.mono s1
  have lenx:=lx.len (by rw[List.length_map];omega)
  rw[List.length_map] at lenx
  have bD:=(H.cells_eq gD).elim fun kd e=>hs.wf _ _ e
  have bM:=(H.cells_eq gM).elim fun kd e=>hs.wf _ _ e
  have bP:=(H.cells_eq gP).elim fun kd e=>hs.wf _ _ e
  have bS:=hs.wf _ _ gS
  refine Ev_body (fd:=c130) rfl rfl rfl ?_
  simp(disch:=first|omega|simp only[nZ]<;>omega|fail)only[c130,go_sem]
  generalize h.add (.cells .rw [.int .i64 (p:Int)])=h5 at s1 g1 nx1 gd gD1 gM1 gP1 gS1 l1 hlP⊢
  simp(disch:=first|omega|simp only[nZ]<;>omega|fail)only[go_sem,g1,gD,gD1,cells_of gd,hlP,hpn,cells_of gS,cells_of gS1,lenx]
  obtain⟨F1,eF1⟩:∃F1:Nat→Prop,F1=fun c=>F c∨h.next+1≤c:=⟨_,rfl⟩
  have F1n:∀c,F1 c→h0.next≤c∧c≠dC∧c≠mC∧c≠sC∧c≠pC∧c≠h.next:=fun c hc=>by
   subst eF1
   have:=hs.next
   rcases hc with hc|hc
   ·have:=hF c hc;omega
   ·omega
  have F1a:∀c,h.next+1≤c→F1 c:=fun c hc=>by subst eF1;exact .inr hc
  have l1':LsCut F1 h5 x (eS S):=l1.up fun b hb _=>by subst eF1;exact .inl hb
  have fin:∀h' x' r,Keeps (fun c=>c=sC∨F1 c) h5 h'→h'.wf→h'.get sC=some (.cells .rw [x'])→LsCut F1 h' x' (eS (r.getD S))→putR (mT t) most (k+1) p S=r→Q (.bool r.isSome) h':=fun h' x' r k' w' g' l' e=>by
   subst eF1
   refine q h' x' r ?_ w' g' (l'.up fun b hb _=>hb.elim .inl fun h0=>.inr (by omega)) e
   have k1:Keeps (fun c=>(c=sC∨F c)∨h.next≤c) h h':=((Keeps.of s1 fun _=>False).trans k').mono fun c h0=>by
    rcases h0 with h0|h0|h0|h0
    ·exact h0.elim
    ·exact .inl (.inl h0)
    ·exact .inl (.inr h0)
    ·exact .inr (by omega)
   exact k1.low hs.wf (Nat.le_refl _)
  have cell:∀{h':H} {c:Nat} {cs:List V},Keeps (fun c=>c=sC∨F1 c) h5 h'→h5.cells c=some cs→c=dC∨c=mC∨c=pC∨c=h.next→h'.cells c=some cs:=fun k' e hc=>k'.cells e fun h0=>by
   rcases h0 with h0|h0
   ·have:=bS;rcases hc with rfl|rfl|rfl|rfl<;>first|exact n1 h0|exact n2 h0|exact n3 h0|omega
   ·have:=F1n _ h0;rcases hc with rfl|rfl|rfl|rfl<;>omega
  have sub0:∀{h':H},Keeps (fun c=>c=sC∨F1 c) h5 h'→h'.wf→h0.Sub h':=fun k' w'=>k'.sub (hs.trans s1) hw0 (fun c hc=>by
   rcases hc with h0|h0
   ·omega
   ·have:=F1n _ h0;omega) w'
  refine W_count S.length (fun i s=>∃tm hh x',s=⟨tm,hh,[]⟩∧Keeps (fun c=>c=sC∨F1 c) h5 hh∧hh.wf∧hh.get sC=some (.cells .rw [x'])∧LsCut F1 hh x' (eS S)∧
    (∀i',i'<i→(if((S.getD i' []).all fun x=>mT t x (p:Int))=true then putR (mT t) most k (p+1) (S.set i' (S.getD i' []++[(p:Int)])) else none)=none)∧
    (Opd.t 1).ev tm=.ptr dC 0∧(Opd.t 2).ev tm=.ptr sC 0∧(Opd.t 3).ev tm=.ptr pC 0∧(Opd.t 4).ev tm=.ptr mC 0∧(Opd.t 5).ev tm=.ptr h.next 0∧(Opd.t 17).ev tm=.int .i64 (S.length:Int)∧(Opd.t 18).ev tm=.int .i64 (i:Int))
   ?_ ?_ (i:=0) (Nat.zero_le _) ⟨_,_,x,rfl,Keeps.refl _ _,s1.wf,gS1,l1',fun i' hi'=>by omega,(by simp<;>rfl),(by simp<;>rfl),(by simp<;>rfl),(by simp<;>rfl),(by simp<;>rfl),(by simp<;>rfl),(by simp<;>rfl)⟩
  ·rintro i s hi ⟨tm,hh,x',rfl,kk,wh,gx,lx',hno,t1,t2,t3,t4,t5,t17,t18⟩
   have hi':(i:Int)<(S.length:Int):=by omega
   have hie:i<(eS S).length:=by simp;exact hi
   obtain⟨b,o,kd,cs,v,e1,e2,e3,e4,cv,bx,nbv,Fb,upd⟩:=lx'.at (by simp;omega) hie
   have egd:S.getD i []=S[i]:=by rw[List.getD_eq_getElem?_getD,List.getElem?_eq_getElem hi];rfl
   have hmi:=hm _ (List.getElem_mem hi)
   have eSi:(eS S)[i]=S[i].map encI:=by simp[eS]
   rw[eSi] at cv
   have sh:=sub0 kk wh
   have gD':=cell kk gD1 (.inl rfl)
   have g1':=cell kk g1 (.inr (.inr (.inr rfl)))
   have gP':=cell kk gP1 (.inr (.inr (.inl rfl)))
   have sv:=cv.sl (by simp only[List.length_map];omega)
   simp(disch:=first|omega|simp only[nZ]<;>omega|fail)only[go_sem,t1,t2,t3,t4,t5,t17,t18,hi',cells_of gx,e1,cells_of e2,e4]
   refine(everyInt_ev (p:=fun x=>mT t x (p:Int)) wh sv fun a ha=>sorting11_ev (hd.mono sh) g gD' g1' hp (by have:=hmi.2 a ha;omega)).mono fun u h6 hu=>?_
   obtain⟨rfl,s6⟩:=hu
   have k6:Keeps (fun c=>c=sC∨F1 c) h5 h6:=(kk.trans (Keeps.of s6 fun c=>c=sC∨F1 c)).mono fun c h=>by rcases h with h|h<;>exact h
   have gx6:=s6.get gx
   have lx6:=lx'.mono s6
   cases hall:S[i].all fun x=>mT t x (p:Int) with
   |false=>
    simp(disch:=first|omega|simp only[nZ]<;>omega|fail)only[go_sem,t1,t2,t3,t4,t5,t17,t18,Bool.not_false,wr_succ]
    exact⟨_,_,x',rfl,k6,s6.wf,gx6,lx6,fun i' h1=>by
     by_cases e:i'=i
     ·subst e;rw[egd,hall];rfl
     ·exact hno i' (by omega),(by simp[t1]<;>rfl),(by simp[t2]<;>rfl),(by simp[t3]<;>rfl),(by simp[t4]<;>rfl),(by simp[t5]<;>rfl),(by simp[t17]<;>rfl),(by simp<;>rfl)⟩
   |true=>
    have s7:=(H.Sub.refl s6.wf).add (.cells .rw [.int .i64 (p:Int)])
    have own1:SlAt (h6.add (.cells .rw [.int .i64 (p:Int)])) (.sl h6.next 0 1 (.fix 1)) 1 [encI (p:Int)]:=own1_lit
    have n7:(h6.add (.cells .rw [.int .i64 (p:Int)])).next=h6.next+1:=H.next_add _ _
    have k67:Keeps (blkOf v) hh (h6.add (.cells .rw [.int .i64 (p:Int)])):=Keeps.of (s6.trans s7) _
    have gl5:=kk.1
    have n6:=s6.next
    have g1S:=s6.cells g1'
    simp(disch:=first|omega|simp only[nZ]<;>omega|fail)only[go_sem,t1,t2,t3,t4,t5,t17,t18,Bool.not_true,cells_of gx6,e1,s6.cells (cells_of e2),e4,g1S]
    refine(cv.mono (s6.trans s7)).app1 (by_:=8) (r:=encI (p:Int)) s7.wf (F1a _ (by omega)) rfl (by omega) own1 rfl (by simp only[List.length_map];omega) (by simp only[List.length_map];omega) fun v' h8 cv8 nb8 k8 w8=>?_
    have kv8:Keeps (blkOf v) hh h8:=(k67.trans k8).mono fun c h=>by rcases h with h|h<;>exact h
    have ea:S[i].map encI++[encI (p:Int)]=(S[i]++[(p:Int)]).map encI:=by simp
    rw[ea] at cv8
    obtain⟨cs',put8,l8⟩:=upd v' _ h8 kv8 cv8 fun c hc=>(nb8 c hc).imp id fun h=>by omega
    rw[eS_set] at l8
    have e28:=kv8.2 _ _ e2 nbv
    have hpc:putC (some (.cells kd cs)) h8 b o [v']=some (h8.set b (.cells kd cs')):=by rcases e3 with rfl|rfl<;>simp only[putC_rw,putC_gr,put8,setO_some]
    have ov8:=cv8.one
    have bF:∀c,blkOf v c→F1 c:=fun c hc=>(cv.blk hc).1
    have gx8:=kv8.2 _ _ gx fun h0=>absurd rfl (F1n _ (bF _ h0)).2.2.2.1
    have kS:Keeps (fun c=>c=sC∨F1 c) h5 (h8.set b (.cells kd cs')):=((kk.trans kv8).trans (Keeps.set h8 b (.cells kd cs'))).mono fun c h=>by
     rcases h with(h|h)|h
     ·exact h
     ·exact .inr (bF c h)
     ·exact .inr (by rw[h];exact Fb)
    have wS:=H.wf_set w8 (.cells kd cs') e28
    have gxS:(h8.set b (.cells kd cs')).get sC=some (.cells .rw [x']):=by rw[get_set_other (fun h0=>by have:=F1n _ Fb;omega)];exact gx8
    have g18:=kv8.cells g1' fun h0=>absurd rfl (F1n _ (bF _ h0)).2.2.2.2.2
    have gPS:=cell kS gP1 (.inr (.inr (.inl rfl)))
    have g1S':=cell kS g1 (.inr (.inr (.inr rfl)))
    have w1:wr .i64 ((p:Int)+1)=((p+1:Nat):Int):=wr_succ (by omega)
    simp(disch:=first|omega|simp only[nZ]<;>omega|fail)only[go_sem,t1,t2,t3,t4,t5,t17,t18,cells_of gx8,e28,hpc,ov8,cells_one ov8,cells_of e28,e1,e4,g18,g1S,cells_of gx6,s6.cells (cells_of e2),s7.cells (s6.cells (cells_of e2)),s7.cells (cells_of gx6),s7.cells g1S]
    generalize h8.set b (.cells kd cs')=hS at l8 kS wS gxS gPS g1S'⊢
    simp(disch:=first|omega|simp only[nZ]<;>omega|fail)only[go_sem,t1,t2,t3,t4,t5,t17,t18,gPS,g1S',w1]
    have hmS:∀l∈S.set i (S[i]++[(p:Int)]),l.length≤p+1∧∀a∈l,0≤a∧a<((p+1:Nat):Int):=fun l hl0=>by
     rcases List.mem_or_eq_of_mem_set hl0 with h1|rfl
     ·have:=hm l h1
      exact⟨by omega,fun a ha=>by have:=this.2 a ha;omega⟩
     ·refine⟨by simp;omega,fun a ha=>?_⟩
      rcases List.mem_append.1 ha with h1|h1
      ·have:=hmi.2 a h1;omega
      ·rw[List.mem_singleton] at h1;omega
    refine ih (p+1) (S.set i (S[i]++[(p:Int)])) (fun c=>F1 c∧c<hS.next) hS x' (by omega) (by rw[List.length_set];exact hl) hmS (sub0 kS wS) (fun c hc=>by have:=F1n c hc.1;exact⟨this.1,this.2.1,this.2.2.1,this.2.2.2.1,this.2.2.2.2.1,hc.2⟩) (cell kS gD1 (.inl rfl)) (cell kS gM1 (.inr (.inl rfl))) gPS gxS (l8.up fun c hc h1=>⟨hc,h1⟩) _ fun h9 x9 r k9 w9 gx9 l9 e9=>?_
    have l9:LsCut F1 h9 x9 (eS (r.getD (S.set i (S[i]++[(p:Int)])))):=l9.up fun c hc _=>hc.elim (fun h=>h.1) fun h=>F1a _ (by have:=kS.1;omega)
    have k59:Keeps (fun c=>c=sC∨F1 c) h5 h9:=(kS.trans k9).mono fun c h=>by
     rcases h with h|h|h
     ·exact h
     ·exact .inl h
     ·exact .inr h.1
    have hcond:(S[i].all fun x=>mT t x (p:Int))=true:=hall
    have here:(if((S.getD i []).all fun x=>mT t x (p:Int))=true then putR (mT t) most k (p+1) (S.set i (S.getD i []++[(p:Int)])) else none)=r:=by rw[egd,if_pos hcond];exact e9
    cases r with
    |some r'=>
     simp(disch:=first|omega|simp only[nZ]<;>omega|fail)only[go_sem,t1,t2,t3,t4,t5,t17,t18,Option.isSome_some]
     refine fin h9 x9 (some r') k59 w9 gx9 l9 ?_
     unfold putR
     rw[some_first here hno S.length hi]
    |none=>
     rw[Option.getD_none] at l9
     have hi9:i<(eS (S.set i (S[i]++[(p:Int)]))).length:=by simp;exact hi
     obtain⟨b9,o9,kd9,cs9,v9,f1,f2,f3,f4,cv9,bx9,nbv9,Fb9,upd9⟩:=l9.at (by simp;omega) hi9
     have eSi9:(eS (S.set i (S[i]++[(p:Int)])))[i]=S[i].map encI++[encI (p:Int)]:=by simp[eS]
     rw[eSi9] at cv9
     have lv9:q_len v9=some (.int .i64 (((S[i].length+1:Nat):Int))):=by
      have:=cv9.sl (by simp;omega)
      rw[this.len];simp
     obtain⟨y,hy1,hy2,hy3⟩:=cv9.pop (by omega) (by simp;omega)
     rw[List.length_map] at hy1
     obtain⟨cs9',put9,l10⟩:=upd9 y _ h9 (Keeps.refl _ _) hy2 fun c hc=>.inl (hy3 c hc)
     rw[eS_set,List.set_set,List.set_getElem_self] at l10
     have hpc9:putC (some (.cells kd9 cs9)) h9 b9 o9 [y]=some (h9.set b9 (.cells kd9 cs9')):=by rcases f3 with rfl|rfl<;>simp only[putC_rw,putC_gr,put9,setO_some]
     have oy:=hy2.one
     have lm1:((S[i].length+1:Nat):Int)-1=(S[i].length:Int):=by omega
     have k10:Keeps (fun c=>c=sC∨F1 c) h5 (h9.set b9 (.cells kd9 cs9')):=(k59.trans (Keeps.set h9 b9 (.cells kd9 cs9'))).mono fun c h=>by
      rcases h with h|h
      ·exact h
      ·exact .inr (by rw[h];exact Fb9)
     have gx10:(h9.set b9 (.cells kd9 cs9')).get sC=some (.cells .rw [x9]):=by rw[get_set_other (fun h0=>by have:=F1n _ Fb9;omega)];exact gx9
     simp(disch:=first|omega|simp only[nZ]<;>omega|fail)only[go_sem,t1,t2,t3,t4,t5,t17,t18,Option.isSome_none,cells_of gx9,f1,cells_of f2,f4,lv9,lm1,wr_in,evQ_slc,q_slc_to,hy1,f2,hpc9,oy,cells_one oy,wr_succ]
     exact⟨_,_,x9,rfl,k10,H.wf_set w9 _ f2,gx10,l10,fun i' h1=>by
      by_cases e:i'=i
      ·subst e;exact here
      ·exact hno i' (by omega),(by simp[t1]<;>rfl),(by simp[t2]<;>rfl),(by simp[t3]<;>rfl),(by simp[t4]<;>rfl),(by simp[t5]<;>rfl),(by simp[t17]<;>rfl),(by simp<;>rfl)⟩
  ·rintro s ⟨tm,hh,x',rfl,kk,wh,gx,lx',hno,t1,t2,t3,t4,t5,t17,t18⟩
   simp(disch:=first|omega|simp only[nZ]<;>omega|fail)only[go_sem,t1,t2,t3,t4,t5,t17,t18,Int.lt_irrefl]
   have hno:=List.findSome?_eq_none_iff.2 fun i hi=>hno i (List.mem_range.1 hi)
   have lenx':=lx'.len (by rw[List.length_map];omega)
   rw[List.length_map] at lenx'
   have gM':=cell kk gM1 (.inr (.inl rfl))
   have g1':=cell kk g1 (.inr (.inr (.inr rfl)))
   by_cases hmo:S.length=most
   ·have hd1:decide ((S.length:Int)=(most:Int))=true:=decide_eq_true (by omega)
    simp(disch:=first|omega|simp only[nZ]<;>omega|fail)only[go_sem,t2,t3,t4,t5,cells_of gx,lenx',gM',hd1]
    refine fin hh x' none kk wh gx lx' ?_
    unfold putR
    rw[hno]
    simp only
    rw[if_pos hmo]
   ·have hd1:decide ((S.length:Int)=(most:Int))=false:=decide_eq_false (by omega)
    have sA:=(H.Sub.refl wh).add (.cells .rw [.int .i64 (p:Int)])
    have sB:=sA.add (.cells .rw [.sl hh.next 0 1 (.fix 1)])
    simp(disch:=first|omega|simp only[nZ]<;>omega|fail)only[go_sem,t2,t3,t4,t5,cells_of gx,lenx',gM',hd1,g1']
    have nA:(hh.add (.cells .rw [.int .i64 (p:Int)])).next=hh.next+1:=H.next_add _ _
    have gl5:=kk.1
    have bxF:∀c,blkOf x' c→F1 c:=fun c hc=>by
     obtain⟨xs,a1,_⟩:=lx'
     exact(a1.blk hc).1
    have ov:CutO F1 ((hh.add (.cells .rw [.int .i64 (p:Int)])).add (.cells .rw [.sl hh.next 0 1 (.fix 1)])) (.sl hh.next 0 1 (.fix 1)) 1 [encI (p:Int)]:=
     ⟨by simp[encI],.inr (.inr ⟨hh.next,1,[],rfl,F1a _ (by omega),by rw[H.next_add,H.next_add];omega,by rw[get_add_old (by omega),get_add_new rfl];rfl,by simp,by simp⟩)⟩
    have hy:SlAt ((hh.add (.cells .rw [.int .i64 (p:Int)])).add (.cells .rw [.sl hh.next 0 1 (.fix 1)])) (.sl (hh.next+1) 0 1 (.fix 1)) 1 [[.sl hh.next 0 1 (.fix 1)]]:=SlAt.new _ nA.symm rfl rfl (by simp) (by simp)
    refine lx'.push sB (F1a _ (by rw[H.next_add,H.next_add];omega)) (by simp;omega) ov (fun b ⟨_,_,_,e⟩=>by cases e;exact Nat.le_refl _) hy fun x2 h8 l8 k8 nb8 w8=>?_
    have gx8:=k8.2 _ _ (sB.get gx) fun h0=>absurd rfl (F1n _ (bxF _ h0)).2.2.2.1
    have gP8:=k8.cells (sB.cells (cell kk gP1 (.inr (.inr (.inl rfl))))) fun h0=>absurd rfl (F1n _ (bxF _ h0)).2.2.2.2.1
    have g18:=k8.cells (sB.cells g1') fun h0=>absurd rfl (F1n _ (bxF _ h0)).2.2.2.2.2
    have ex2:x2.one=true:=l8.one
    have el8:eS S++[[encI (p:Int)]]=eS (S++[[(p:Int)]]):=by simp[eS]
    rw[el8] at l8
    have kS:Keeps (fun c=>c=sC∨F1 c) h5 (h8.set sC (.cells .rw [x2])):=(((kk.trans (Keeps.of sB fun _=>False)).trans k8).trans (Keeps.set h8 sC (.cells .rw [x2]))).mono fun c h=>by
     rcases h with((h|h)|h)|h
     ·exact h
     ·exact h.elim
     ·exact .inr (bxF c h)
     ·exact .inl h
    have wS:=H.wf_set w8 (.cells .rw [x2]) gx8
    have lS:LsCut F1 (h8.set sC (.cells .rw [x2])) x2 (eS (S++[[(p:Int)]])):=l8.keep (Keeps.set h8 sC (.cells .rw [x2])) fun b hb _=>(F1n _ hb).2.2.2.1
    have gxS:(h8.set sC (.cells .rw [x2])).get sC=some (.cells .rw [x2]):=get_set_same rfl
    have gPS:=cell kS gP1 (.inr (.inr (.inl rfl)))
    have g1S':=cell kS g1 (.inr (.inr (.inr rfl)))
    have w1:wr .i64 ((p:Int)+1)=((p+1:Nat):Int):=wr_succ (by omega)
    simp(disch:=first|omega|simp only[nZ]<;>omega|fail)only[go_sem,t2,t3,t4,t5,gx8,ex2,cells_one ex2]
    generalize h8.set sC (.cells .rw [x2])=hS at kS wS lS gxS gPS g1S'⊢
    simp(disch:=first|omega|simp only[nZ]<;>omega|fail)only[go_sem,t2,t3,t4,t5,gP8,g18,gPS,g1S',w1]
    have hmS:∀l∈S++[[(p:Int)]],l.length≤p+1∧∀a∈l,0≤a∧a<((p+1:Nat):Int):=fun l hl0=>by
     rcases List.mem_append.1 hl0 with h1|h1
     ·have:=hm l h1
      exact⟨by omega,fun a ha=>by have:=this.2 a ha;omega⟩
     ·rw[List.mem_singleton] at h1
      subst h1
      exact⟨by simp,fun a ha=>by rw[List.mem_singleton] at ha;omega⟩
    refine ih (p+1) (S++[[(p:Int)]]) (fun c=>F1 c∧c<hS.next) hS x2 (by omega) (by simp;omega) hmS (sub0 kS wS) (fun c hc=>by have:=F1n c hc.1;exact⟨this.1,this.2.1,this.2.2.1,this.2.2.2.1,this.2.2.2.2.1,hc.2⟩) (cell kS gD1 (.inl rfl)) (cell kS gM1 (.inr (.inl rfl))) gPS gxS (lS.up fun c hc h1=>⟨hc,h1⟩) _ fun h9 x9 r k9 w9 gx9 l9 e9=>?_
    have l9:LsCut F1 h9 x9 (eS (r.getD (S++[[(p:Int)]]))):=l9.up fun c hc _=>hc.elim (fun h=>h.1) fun h=>F1a _ (by have:=kS.1;omega)
    have k59:Keeps (fun c=>c=sC∨F1 c) h5 h9:=(kS.trans k9).mono fun c h=>by
     rcases h with h|h|h
     ·exact h
     ·exact .inl h
     ·exact .inr h.1
    have epR:putR (mT t) most (k+1) p S=r:=by
     unfold putR
     rw[hno]
     simp only
     rw[if_neg hmo];exact e9
    cases r with
    |some r'=>
     simp(disch:=first|omega|simp only[nZ]<;>omega|fail)only[go_sem,t2,t3,t4,t5,Option.isSome_some]
     exact fin h9 x9 (some r') k59 w9 gx9 l9 epR
    |none=>
     rw[Option.getD_none,←el8] at l9
     obtain⟨y,hy1,hy2,hy3⟩:=l9.pop (by simp;omega)
     rw[List.length_map] at hy1
     have oy:=hy2.one
     have ln9:q_len x9=some (.int .i64 ((S.length+1:Nat):Int)):=by rw[l9.len (by simp;omega)];simp
     have lm1:((S.length+1:Nat):Int)-1=(S.length:Int):=by omega
     have k10:Keeps (fun c=>c=sC∨F1 c) h5 (h9.set sC (.cells .rw [y])):=(k59.trans (Keeps.set h9 sC (.cells .rw [y]))).mono fun c h=>by
      rcases h with h|h
      ·exact h
      ·exact .inl h
     have l10:LsCut F1 (h9.set sC (.cells .rw [y])) y (eS S):=hy2.keep (Keeps.set h9 sC (.cells .rw [y])) fun b hb _=>(F1n _ hb).2.2.2.1
     simp(disch:=first|omega|simp only[nZ]<;>omega|fail)only[go_sem,t2,t3,t4,t5,Option.isSome_none,cells_of gx9,ln9,lm1,wr_in,evQ_slc,q_slc_to,hy1,gx9,oy,cells_one oy]
     exact fin _ y none k10 (H.wf_set w9 _ gx9) (get_set_same rfl) l10 epR
theorem sorting_ev {h:H}(hw:h.wf){d:Nat}{t:Tb}(hd:DkAt h d t)(g:Good t){m:Nat}(hm:m≤20)(Q:V→H→Prop)
  (q:∀x h',h.Sub h'→LsCut (fun b=>h.next≤b) h' x (eS ((putR (mT t) m t.pieces.length 0 []).getD []))→Q (.tup [x,.bool (putR (mT t) m t.pieces.length 0 []).isSome]) h'):Ev fnG fastA (.fn 79 [] []) [.ptr d 0,.int .i64 (m:Int)] h Q:=by
 have sA:h.Sub ((((h.add (.cells .rw [.ptr d 0])).add (.cells .rw [.int .i64 (m:Int)])).add (.cells .rw [.nils])).add (.cells .rw [.fn 130 [] [.ptr h.next 0,.ptr (h.next+1+1) 0,.ptr (h.next+1+1+1) 0,.ptr (h.next+1) 0]])):=((((H.Sub.refl hw).add _).add _).add _).add _
 have c1:((((h.add (.cells .rw [.ptr d 0])).add (.cells .rw [.int .i64 (m:Int)])).add (.cells .rw [.nils])).add (.cells .rw [.fn 130 [] [.ptr h.next 0,.ptr (h.next+1+1) 0,.ptr (h.next+1+1+1) 0,.ptr (h.next+1) 0]])).cells h.next=some [.ptr d 0]:=by simp(disch:=first|omega|simp only[nZ]<;>omega|fail)only[go_sem]
 have c2:((((h.add (.cells .rw [.ptr d 0])).add (.cells .rw [.int .i64 (m:Int)])).add (.cells .rw [.nils])).add (.cells .rw [.fn 130 [] [.ptr h.next 0,.ptr (h.next+1+1) 0,.ptr (h.next+1+1+1) 0,.ptr (h.next+1) 0]])).cells (h.next+1)=some [.int .i64 (m:Int)]:=by simp(disch:=first|omega|simp only[nZ]<;>omega|fail)only[go_sem]
 have c3:((((h.add (.cells .rw [.ptr d 0])).add (.cells .rw [.int .i64 (m:Int)])).add (.cells .rw [.nils])).add (.cells .rw [.fn 130 [] [.ptr h.next 0,.ptr (h.next+1+1) 0,.ptr (h.next+1+1+1) 0,.ptr (h.next+1) 0]])).get (h.next+1+1)=some (.cells .rw [.nils]):=by simp(disch:=first|omega|simp only[nZ]<;>omega|fail)only[go_sem]
 have c4:((((h.add (.cells .rw [.ptr d 0])).add (.cells .rw [.int .i64 (m:Int)])).add (.cells .rw [.nils])).add (.cells .rw [.fn 130 [] [.ptr h.next 0,.ptr (h.next+1+1) 0,.ptr (h.next+1+1+1) 0,.ptr (h.next+1) 0]])).cells (h.next+1+1+1)=some [.fn 130 [] [.ptr h.next 0,.ptr (h.next+1+1) 0,.ptr (h.next+1+1+1) 0,.ptr (h.next+1) 0]]:=by simp(disch:=first|omega|simp only[nZ]<;>omega|fail)only[go_sem]
 refine Ev_body (fd:=c79) rfl rfl rfl ?_
 simp(disch:=first|omega|simp only[nZ]<;>omega|fail)only[c79,go_sem]
 generalize((((h.add (.cells .rw [.ptr d 0])).add (.cells .rw [.int .i64 (m:Int)])).add (.cells .rw [.nils])).add (.cells .rw [.fn 130 [] [.ptr h.next 0,.ptr (h.next+1+1) 0,.ptr (h.next+1+1+1) 0,.ptr (h.next+1) 0]]))=h4 at sA c1 c2 c3 c4⊢
 refine sortput_ev hw hd g (dC:=h.next) (mC:=h.next+1) (sC:=h.next+1+1) (pC:=h.next+1+1+1) (most:=m) (by omega) (by omega) (by omega) (by omega) hm t.pieces.length 0 [] (fun _=>False) h4 .nils (by omega) (by simp) (by simp) sA (fun c hc=>hc.elim) c1 c2 c4 c3 (LsCut.nil _ _) _ fun h' x' r k' w' g' l' e=>?_
 subst e
 simp(disch:=first|omega|simp only[nZ]<;>omega|fail)only[go_sem,cells_of g']
 have l4:=sA.next
 exact q x' h' (k'.sub sA hw (fun c hc=>by rcases hc with h0|h0;omega;exact h0.elim) w') (l'.up fun b hb _=>hb.elim (fun h=>h.elim) fun h=>by omega)
set_option maxHeartbeats 1000000 in
theorem Sort_ev {h:H}{v:V}{t:Tb}(hw:h.wf)(ht:TbIs h v t)(Q:V→H→Prop)
  (q:∀y h',h.Sub h'→LsCut (fun b=>h.next≤b) h' y (eS (if check t=0 then(sortR (mT t) t.pieces.length).getD [] else[]))→Q (.tup [y,.int .i64 (check t)]) h'):Ev fnG fastA (.fn 19 [] []) [v] h Q:=by
 have ht0:=ht
 obtain⟨E,L,P,rfl,aE,aL,aP⟩:=ht
 refine Ev_body (fd:=c19) rfl rfl rfl ?_
 have s1:h.Sub (h.add (.cells .rw [E,L,P])):=(by repeat(first|assumption|exact H.Sub.refl (by assumption)|refine H.Sub.add ?_ _|refine H.Sub.set ?_ (by first|omega|(simp only[H.next_add,H.next_set,H.next_del]<;>omega)) (by first|omega|(simp only[H.next_add,H.next_set,H.next_del]<;>omega)) (by assumption) _))
 have g1:(h.add (.cells .rw [E,L,P])).cells h.next=some [E,L,P]:=cells_add_new rfl
 have n1:(h.add (.cells .rw [E,L,P])).next=h.next+1:=H.next_add _ _
 simp(disch:=first|omega|simp only[nZ]<;>omega|fail)only[c19,go_sem]
 refine opened_use s1.wf (ht0.mono s1) _ (fun h5 s45 c=>?_) fun h5 d s15 c g hd=>?_
 ·simp(disch:=first|omega|simp only[nZ]<;>omega|fail)only[go_sem,ne_eq,c,not_false_eq_true]
  exact q _ _ (s1.trans s45) (by rw[if_neg c];exact LsCut.nil _ _)
 have s5:=s1.trans s15
 have gp:=g.pieces
 have hlP:=aP.lenE
 rw[c,if_pos rfl] at q
 simp(disch:=first|omega|simp only[nZ]<;>omega|fail)only[go_sem,ne_eq,not_true_eq_false,s15.cells g1,hlP,wr_succ]
 refine W.mono (Q:=fun x1 s=>x1=.ext 0∧∃tm h' y,s=⟨tm,h',[]⟩∧h5.Sub h'∧LsCut (fun b=>h.next≤b) h' y (eS ((sortR (mT t) t.pieces.length).getD []))∧(Opd.t 6).ev tm=y)
  (W_count (t.pieces.length+1) (fun k s=>∃tm h',s=⟨tm,h',[]⟩∧h5.Sub h'∧(∀m,m<k→putR (mT t) m t.pieces.length 0 []=none)∧
   (Opd.t 4).ev tm=.ptr d 0∧(Opd.t 6).ev tm=.nils∧(Opd.t 21).ev tm=.int .i64 ((t.pieces.length+1:Nat):Int)∧(Opd.t 22).ev tm=.int .i64 (k:Int))
  ?_ ?_ (i:=0) (Nat.zero_le _) ⟨_,_,rfl,H.Sub.refl s15.wf,fun m hm=>by omega,(by simp<;>rfl),(by simp<;>rfl),(by simp<;>rfl),(by simp<;>rfl)⟩) fun x1 s hx1=>?_
 ·rintro k s hk ⟨tm,h',rfl,hs,hno,t4,t6,t21,t22⟩
  have hk':(k:Int)<((t.pieces.length+1:Nat):Int):=by omega
  simp(disch:=first|omega|simp only[nZ]<;>omega|fail)only[go_sem,t4,t6,t21,t22,hk']
  refine sorting_ev hs.wf (hd.mono hs) g (by omega) _ fun x h6 s6 lx=>?_
  have lb:=hs.next
  have lb2:=s15.next
  cases hr:putR (mT t) k t.pieces.length 0 [] with
  |some r=>
   rw[hr] at lx
   simp(disch:=first|omega|simp only[nZ]<;>omega|fail)only[go_sem,t4,t6,t21,t22,Option.isSome_some]
   refine⟨_,_,x,rfl,hs.trans s6,?_,(by simp<;>rfl)⟩
   have e:sortR (mT t) t.pieces.length=some r:=some_first hr hno _ hk
   rw[e]
   exact lx.up fun b hb _=>by omega
  |none=>
   simp(disch:=first|omega|simp only[nZ]<;>omega|fail)only[go_sem,t4,t6,t21,t22,Option.isSome_none,wr_succ]
   exact⟨_,_,rfl,hs.trans s6,fun m hm=>by
    by_cases e:m=k
    ·subst e;exact hr
    ·exact hno m (by omega),(by simp[t4]<;>rfl),(by simp[t6]<;>rfl),(by simp[t21]<;>rfl),(by simp<;>rfl)⟩
 ·rintro s ⟨tm,h',rfl,hs,hno,t4,t6,t21,t22⟩
  simp(disch:=first|omega|simp only[nZ]<;>omega|fail)only[go_sem,t4,t6,t21,t22,Int.lt_irrefl]
  refine⟨_,_,_,rfl,hs,?_,(by simp[t6]<;>rfl)⟩
  have e:sortR (mT t) t.pieces.length=none:=none_all hno
  rw[e]
  exact LsCut.nil _ _
 obtain⟨rfl,tm,h',y,rfl,hs,ly,t6⟩:=hx1
 simp(disch:=first|omega|simp only[nZ]<;>omega|fail)only[go_sem,t6]
 exact q y _ (s5.trans hs) ly
end Go.Ab.Tryz
namespace Go.Ab.Tryz
open Go.Ab.Silk (comb Inc lexlt mem_comb find_min)
structure LastIs (P:List Int→Bool)(n m:Nat)(c:List Int):Prop where
 inc:Inc n 0 c
 holds:P c=true
 pos:0<c.length
 le:c.length≤m
 max:∀d,Inc n 0 d→P d=true→d.length≤m→d.length<c.length∨(d.length=c.length∧(d=c∨lexlt c d=true))
theorem lastOf_spec (P:List Int→Bool)(n:Nat):∀m,(∃c,lastOf P n m=some c∧LastIs P n m c)∨(lastOf P n m=none∧∀d,Inc n 0 d→P d=true→d.length≤m→d=[])
 |0=>.inr ⟨rfl,fun d _ _ h=>List.length_eq_zero_iff.1 (by omega)⟩
 |m+1=>by
  have hm:∀d,d∈comb (m+1) n 0↔d.length=m+1∧Inc n 0 d:=fun d=>by rw[mem_comb,Int.zero_add]
  simp only[lastOf]
  cases hf:(comb (m+1) n 0).find? P with
  |some c=>
   obtain⟨m1,m2,m3⟩:=find_min P (m+1) n 0 hf
   obtain⟨c1,c2⟩:=(hm c).1 m1
   refine .inl ⟨c,rfl,c2,m2,by omega,by omega,fun d h1 h2 h3=>?_⟩
   by_cases e:d.length=m+1
   ·exact .inr ⟨by omega,m3 d ((hm d).2 ⟨e,h1⟩) h2⟩
   ·exact .inl (by omega)
  |none=>
   have hno:∀d,Inc n 0 d→P d=true→d.length≠m+1:=fun d h1 h2 e=>by
    have:=List.find?_eq_none.1 hf d ((hm d).2 ⟨e,h1⟩)
    exact this h2
   rcases lastOf_spec P n m with⟨c,e,a⟩|⟨e,a⟩
   ·exact .inl ⟨c,e,a.inc,a.holds,a.pos,by have:=a.le;omega,fun d h1 h2 h3=>a.max d h1 h2 (by have:=hno d h1 h2;omega)⟩
   ·exact .inr ⟨e,fun d h1 h2 h3=>a d h1 h2 (by have:=hno d h1 h2;omega)⟩
end Go.Ab.Tryz
namespace Go.Ab.Tryz
open Go.Ab.Silk (comb Inc lexlt mem_comb find_min firstOf firstOf_spec IsMin before)
theorem Inc.pw {hi:Int}:∀{i:Int} {l:List Int},Inc hi i l→l.Pairwise (· < ·)
 |_,[],_=>List.Pairwise.nil
 |i,a::l,h=>List.Pairwise.cons (fun x hx=>by have:=h.2.2.mem x hx;omega) (Inc.pw h.2.2)
theorem Inc.nd {hi i:Int}{l:List Int}(h:Inc hi i l):l.Nodup:=(Inc.pw h).imp fun h=>by omega
theorem Inc.of {hi:Int}:∀{i:Int} {l:List Int},l.Pairwise (· < ·)→(∀x∈l,i≤x∧x<hi)→Inc hi i l
 |_,[],_,_=>trivial
 |i,a::l,h,hr=>by
  rw[List.pairwise_cons] at h
  have ha:=hr a (by simp)
  exact⟨ha.1,ha.2,Inc.of h.2 fun x hx=>by have:=h.1 x hx;have:=hr x (by simp[hx]);omega⟩
theorem inc_of {n:Nat}{d:List Int}(nd:d.Nodup)(hr:∀x∈d,0≤x∧x<(n:Int)):∃c:List Int,Inc n 0 c∧c.length=d.length∧∀x,x∈c↔x∈d:=by
 have hm:∀x,x∈(upto n).filter (fun x=>decide (x∈d))↔x∈d:=fun x=>by
  rw[List.mem_filter,mem_upto,decide_eq_true_eq]
  exact⟨fun h=>h.2,fun h=>⟨hr x h,h⟩⟩
 have pw:((upto n).filter (fun x=>decide (x∈d))).Pairwise (· < ·):=by
  refine List.Pairwise.filter _ ?_
  unfold upto
  rw[List.pairwise_map]
  exact List.pairwise_lt_range.imp fun h=>by omega
 have inc:=Inc.of (i:=0) pw fun x hx=>hr x ((hm x).1 hx)
 exact⟨_,inc,((List.perm_ext_iff_of_nodup (Inc.nd inc) nd).2 hm).length_eq,hm⟩
theorem nodup_len {n:Nat}{d:List Int}(nd:d.Nodup)(hr:∀x∈d,0≤x∧x<(n:Int)):d.length≤n:=by
 obtain⟨c,inc,l,_⟩:=inc_of nd hr
 have:=inc.len (by omega)
 omega
def Clq (T:Int→Int→Bool)(d:List Int):Prop:=∀x∈d,∀y∈d,x≠y→T x y=true
theorem mostP_iff {T:Int→Int→Bool}{d:List Int}:mostP T (fun _=>true) d=true↔Clq T d:=by
 unfold mostP Clq
 simp only[Bool.true_and,List.all_eq_true,Bool.or_eq_true,decide_eq_true_eq]
 constructor
 ·intro h x hx y hy hne
  exact(h x hx y hy).resolve_left hne
 ·intro h x hx y hy
  by_cases e:x=y
  ·exact .inl e
  ·exact .inr (h x hx y hy e)
def chi (T:Int→Int→Bool)(n:Nat):Nat:=((sortR T n).getD []).length
theorem chi_le {T:Int→Int→Bool}{n m:Nat}{g:Int→Nat}(h:Col T n m g):chi T n≤m:=by
 obtain⟨S,e,_,hm⟩:=sortR_spec T n
 unfold chi
 rw[e];exact hm m g h
theorem mT_comm {t:Tb}(g:Good t)(x y:Int):mT t x y=mT t y x:=MM_comm g y.toNat x.toNat
end Go.Ab.Tryz
namespace Go.Ab
theorem CutO.to {F:Nat→Prop}{h:H}{x:V}{sz k:Nat}{rows:List (List V)}(a:CutO F h x sz rows)(hsz:0<sz)(hl:rows.length≤1000000)(hk:k≤rows.length):
  ∃y,slcTo h sz x (.int .i64 (k:Int))=some y∧CutO F h y sz (rows.take k)∧∀b,blkOf y b→blkOf x b:=by
 have hi:∀tm,(Opd.c (.int .i64 (k:Int))).ev tm=.int .i64 (k:Int):=fun _=>rfl
 obtain⟨a1,a2⟩:=a
 have hr:∀r∈rows.take k,r.length=sz:=fun r' hr=>a1 r' (List.mem_of_mem_take hr)
 have hlt:(rows.take k).length=k:=by rw[List.length_take];omega
 have fl:=flatten_len a1
 have fl2:=flatten_len hr
 rw[hlt] at fl2
 have esp:rows.flatten=(rows.take k).flatten++(rows.drop k).flatten:=by rw[←List.flatten_append,List.take_append_drop]
 have hml:=Nat.mul_le_mul_right sz hk
 have fld:(rows.drop k).flatten.length=rows.length*sz-k*sz:=by
  have:=congrArg List.length esp
  rw[List.length_append,fl,fl2] at this;omega
 rcases a2 with⟨rfl,rfl⟩|⟨b,rest,j,rfl,l1,l2,hb,hrest⟩|⟨b,c,rest,rfl,l1,l2,hb,hc,hlc⟩
 ·have hk0:k=0:=by simpa using hk
  subst hk0
  refine⟨.nils,?_,⟨by simp,.inl ⟨rfl,rfl⟩⟩,fun b h=>h⟩
  have e1:Nat.ble 0 0=true:=rfl
  simp only[slcTo,q_slc,bnd3,natO,hi,natk_cst,bnds,e1,og_true]
 ·rw[esp,List.append_assoc] at hb
  have e1:Nat.ble 0 k=true:=by simp
  have hall:((rows.take k).flatten++((rows.drop k).flatten++rest)).length=(rows.length+j)*sz:=by rw[List.length_append,List.length_append,fl2,fld,hrest,Nat.add_mul];omega
  have e2:Nat.ble k (rows.length+j)=true:=by simp;omega
  have e3:Nat.ble (rows.length+j) (rows.length+j)=true:=by simp
  have e5:Nat.beq sz sz=true:=by simp
  have e6:Nat.beq 0 (0*sz)=true:=by simp
  have e7:Nat.ble (0+rows.length*sz) ((rows.take k).flatten++((rows.drop k).flatten++rest)).length=true:=by rw[hall,Nat.ble_eq,Nat.zero_add];exact Nat.mul_le_mul_right _ (by omega)
  have e8:slkRoom h b 0 sz=rows.length+j:=by simp only[slkRoom,hb,lenN_eq,hall,Nat.sub_zero];exact Nat.mul_div_cancel _ hsz
  have hcut:CutO F h (.sl b 0 k (.slk 0 0)) sz (rows.take k):=by
   refine⟨hr,.inr (.inl ⟨b,(rows.drop k).flatten++rest,rows.length-k+j,by rw[hlt],l1,l2,hb,?_⟩)⟩
   rw[List.length_append,fld,hrest,Nat.add_mul,Nat.sub_mul]
  by_cases h0:0<rows.length+k
  ·have e4:Nat.blt 0 (rows.length+k)=true:=by rw[Nat.blt_eq];omega
   refine⟨.sl b (0+0*sz) k (.slk (0+0) 0),?_,by rw[Nat.zero_mul];exact hcut,?_⟩
   ·simp only[slcTo,q_slc,slkOk,hb,e5,e6,lenN_eq,e7,og_true,bnd3,natO,hi,natk_cst,bnds,e1,e2,e3,subS,e4,e8,Nat.sub_zero]
   ·rintro b' ⟨_,_,_,e⟩;cases e;exact⟨_,_,_,rfl⟩
  ·have k0:k=0:=by omega
   have r0:rows.length=0:=by omega
   have e4:Nat.blt 0 (rows.length+k)=false:=by rw[k0,r0];rfl
   refine⟨.sl b 0 0 (.slk 0 0),?_,by rw[k0] at hcut⊢;exact hcut,?_⟩
   ·simp only[slcTo,q_slc,slkOk,hb,e5,e6,lenN_eq,e7,og_true,bnd3,natO,hi,natk_cst,bnds,e1,e2,e3,subS,e4,e8,Nat.sub_zero]
   ·rintro b' ⟨_,_,_,e⟩;cases e;exact⟨_,_,_,rfl⟩
 ·rw[esp,List.append_assoc] at hb
  refine⟨.sl b (bsel (Nat.beq c 0) 0 (0+0*sz)) k (.fix c),?_,?_,?_⟩
  ·simp only[slcTo,q_slc]
   rw[subO_to (hi _) hk hlc]
  ·have:bsel (Nat.beq c 0) 0 (0+0*sz)=0:=by cases Nat.beq c 0<;>simp[bsel]
   rw[this]
   exact⟨hr,.inr (.inr ⟨b,c,(rows.drop k).flatten++rest,by rw[hlt],l1,l2,hb,by rw[List.length_append,fld,hlt];omega,by omega⟩)⟩
  ·rintro b' ⟨_,_,_,e⟩;cases e;exact⟨_,_,_,rfl⟩
end Go.Ab
namespace Go.Ab.Tryz
open Go.Ab.Silk (Inc)
end Go.Ab.Tryz
namespace Go.Ab.Tryz
open Go.Ab.Silk (Inc lexlt)
theorem isNaN_eq (a:Int)(h:H)(R:V→H→Prop):Ev fnG fastA (.fn 170 [] []) [.int .i64 a] h R=R (.bool false) h:=by
 refine Ev.det (Ev_body (fd:=c170) rfl rfl rfl ?_) R
 simp(disch:=first|omega|simp only[nZ]<;>omega|fail)only[c170,go_sem,ne_eq,not_true_eq_false,not_false_eq_true]
theorem less_eq (a b:Int)(h:H)(Q:V→H→Prop):Ev fnG fastA (.fn 165 [] []) [.int .i64 a,.int .i64 b] h Q=Q (.bool (decide (a<b))) h:=by
 refine Ev.det (Ev_body (fd:=c165) rfl rfl rfl ?_) Q
 simp(disch:=first|omega|simp only[nZ]<;>omega|fail)only[c165,go_sem,isNaN_eq]
theorem adj_pw {R:Int→Int→Prop}(tr:∀a b c,R a b→R b c→R a c):∀{l:List Int},(∀i (h:i+1<l.length),R l[i] l[i+1])→l.Pairwise R
 |[],_=>List.Pairwise.nil
 |[a],_=>by simp
 |a::b::l,h=>by
  have ih:=adj_pw tr (l:=b::l) fun i hi=>h (i+1) (by simpa using hi)
  rw[List.pairwise_cons] at ih⊢
  have hab:R a b:=h 0 (by simp)
  exact⟨fun x hx=>by
   rcases List.mem_cons.1 hx with rfl|hx
   ·exact hab
   ·exact tr _ _ _ hab (ih.1 x hx),List.pairwise_cons.2 ih⟩
theorem isSorted_ev {h:H}{x:V}{l:List Int}(hx:SlAt h x 1 (l.map encI))(Q:V→H→Prop):Ev fnG fastA (.fn 132 [] []) [x] h Q=Q (.bool (decide (l.Pairwise (· ≤ ·)))) h:=by
 have hlx:=hx.lenE
 have hbd:=hx.boundE
 refine Ev.det (Ev_body (fd:=c132) rfl rfl rfl ?_) Q
 have ew0:wr .i64 ((l.length:Int)-1)=(l.length:Int)-1:=wr_in (by omega) (by omega)
 simp(disch:=first|omega|simp only[nZ]<;>omega|fail)only[c132,go_sem,hlx]
 refine W_loop (fun k s=>∃(tm:Go.Ab.T V) (i:Int),s=⟨tm,h,[]⟩∧k=(i+1).toNat∧ -1≤i∧i<l.length∧(i= -1→l.length=0)∧(∀j (hj:j+1<l.length),i<((j+1:Nat):Int)→l[j]≤l[j+1])∧(Opd.t 0).ev tm=x∧(Opd.t 3).ev tm=.int .i64 i) ?_ l.length _ ⟨_,(l.length:Int)-1,rfl,by omega,by omega,by omega,by omega,fun j hj h0=>by omega,(by simp),(by simp[ew0])⟩
 rintro k s ⟨tm,i,rfl,hk,i0,i1,i2,hord,t0,t3⟩
 by_cases hi:0<i
 ·obtain⟨n,rfl⟩:∃n:Nat,i=((n+1:Nat):Int):=⟨(i-1).toNat,by omega⟩
  have hn1:n+1<l.length:=by omega
  have hn0:n<l.length:=by omega
  obtain⟨b1,o1,c1,cs1,rfl,hc1,hq1,hg1,hn1',hn01⟩:=hx.at hn1
  obtain⟨b2,o2,c2,cs2,e2,hc2,hq2,hg2,hn2',hn02⟩:=hx.at hn0
  have ew:wr .i64 (((n+1:Nat):Int)-1)=(n:Int):=by rw[wr_in (by omega) (by omega)];omega
  by_cases hlt:l[n+1]<l[n]
  ·have hf:decide (l.Pairwise (· ≤ ·))=false:=decide_eq_false fun hp=>by
    have:=List.pairwise_iff_getElem.1 hp n (n+1) hn0 hn1 (by omega);omega
   have dl:decide (l[n+1]<l[n])=true:=decide_eq_true hlt
   simp(disch:=first|omega|simp only[nZ]<;>omega|fail)only[go_sem,t0,t3,hi,hq1 (nat_cst (n+1)),hc1,hn01 (by omega),ew,hq2 (nat_cst n),hc2,hn02 (by omega),encI,less_eq,dl,hf]
  ·have dl:decide (l[n+1]<l[n])=false:=decide_eq_false hlt
   simp(disch:=first|omega|simp only[nZ]<;>omega|fail)only[go_sem,t0,t3,hi,hq1 (nat_cst (n+1)),hc1,hn01 (by omega),ew,hq2 (nat_cst n),hc2,hn02 (by omega),encI,less_eq,dl]
   exact⟨n+1,by omega,_,(n:Int),rfl,by omega,by omega,by omega,by omega,fun j hj h0=>by
    by_cases e:j=n
    ·subst e;omega
    ·exact hord j hj (by omega),(by simp[t0]),(by simp[ew])⟩
 ·have ht:decide (l.Pairwise (· ≤ ·))=true:=decide_eq_true (adj_pw (R:=fun a b=>a≤b) (fun a b c h1 h2=>Int.le_trans h1 h2) fun j hj=>hord j hj (by omega))
  simp(disch:=first|omega|simp only[nZ]<;>omega|fail)only[go_sem,t0,t3,hi,ht]
end Go.Ab.Tryz
