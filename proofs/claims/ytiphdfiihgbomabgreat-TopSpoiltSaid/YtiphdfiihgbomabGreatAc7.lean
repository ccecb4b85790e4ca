/- Slices of our own, of any capacity: rows appended, cleared. -/
import Derived.Test.YtiphdfiihgbomabGreatAc6
import Derived.Test.YtiphdfiihgbomabGreatAc1
set_option linter.unusedSimpArgs false
set_option linter.unusedVariables false
namespace Go.Ab
theorem nth_get {o:Nat}{cs:List V}:nth o cs=cs[o]? :=nth_eq ..
theorem SlAt.elems {h:H}{x:V}{sz:Nat}{rows:List (List V)}(a:SlAt h x sz rows):elems h sz x=some rows.flatten∧lenV x=some rows.length:=by
 rcases a.2.2 with⟨rfl,rfl⟩|⟨b,o,c,cs,rfl,h2,h3⟩
 ·exact⟨rfl,rfl⟩
 ·refine⟨?_,rfl⟩
  cases hn:rows.length with
  |zero=>
   have:rows=[]:=List.length_eq_zero_iff.1 hn
   subst this;rfl
  |succ k=>
   replace h2:h.cells b=some cs:=h2.resolve_left (fun e=>by rw[e] at hn;simp at hn)
   rw[elems_s,h2,elC_some,←hn];exact h3
theorem repN_len (z:List V):∀n,(repN n z).length=n*z.length
 |0=>by simp[repN]
 |n+1=>by rw[repN,appN_eq,List.length_append,repN_len z n,Nat.add_mul];omega
theorem Ev.gen {Fn:Nat→Option FD}{fast:Nat→Option (List V→H→Option (V × H))}{fv:V}{args:List V}{h:H}{R:V→H→Prop}(f:∀Q:V→H→Prop,(∀u h',R u h'→Q u h')→Ev Fn fast fv args h Q):Ev Fn fast fv args h R:=
 f R fun _ _ h=>h
theorem OwnSl.app1 {h0 h:H}{x y:V}{sz by_:Nat}{rows:List (List V)}{r:List V}{Q:V→H→Prop}(a:OwnSl h0 h x sz rows)(hw0:h0.wf)(hsz:r.length=sz)(hp:0<sz)
  (hy:SlAt h y sz [r]) (ho:allOne r=true) (h1:(rows.length+1)*by_≤1099511627776) (h2:rows.length+1≤1099511627776)
  (q:∀h',OwnSl h0 h' (.sl h.next 0 (rows.length+1) (.slk 0 0)) sz (rows++[r])→Keeps (blkOf x) h h'→h'.next=h.next+1→Q (.sl h.next 0 (rows.length+1) (.slk 0 0)) h'):P2 (e_app' h sz by_ x y) Q:=by
 obtain⟨he,hl⟩:=hy.elems
 refine OwnSl.app a hw0 (new:=[r]) (by simp) (by simpa using hsz) he hl (by simpa using ho) (by simpa using h1) (by simpa using h2) fun h' o k n=>?_
 exact q h' o k n
theorem OwnSl.ne {h0 h:H}{x:V}{sz:Nat}{rows:List (List V)}(a:OwnSl h0 h x sz rows){c:Nat}{cs:List V}(e:h.get c=some (.cells .rw cs)):¬blkOf x c:=fun hb=>by
 have:=(a.blk hb).2.2;rw[e] at this;cases this
def OwnC (h0 h:H)(x:V)(sz:Nat)(rows:List (List V)):Prop:=
 h0.Sub h∧(∀r∈rows,r.length=sz)∧((x=.nils∧rows=[])∨(∃b,x=.sl b 0 rows.length (.slk 0 0)∧h0.next≤b∧b<h.next∧h.get b=some (.cells (.gr sz) rows.flatten))∨
  ∃b c rest,x=.sl b 0 rows.length (.fix c)∧h0.next≤b∧b<h.next∧h.get b=some (.cells .rw (rows.flatten++rest))∧rows.length*sz+rest.length=c*sz∧rows.length≤c)
theorem OwnSl.c {h0 h:H}{x:V}{sz:Nat}{rows:List (List V)}(a:OwnSl h0 h x sz rows):OwnC h0 h x sz rows:=by
 obtain⟨a0,a1,a2⟩:=a
 exact⟨a0,a1,a2.imp id .inl⟩
theorem OwnC.sl {h0 h:H}{x:V}{sz:Nat}{rows:List (List V)}(a:OwnC h0 h x sz rows)(hl:rows.length≤9223372036854775807):SlAt h x sz rows:=by
 obtain⟨_,a1,a2⟩:=a
 refine⟨a1,hl,?_⟩
 rcases a2 with a2|⟨b,e,_,_,hb⟩|⟨b,c,rest,e,_,_,hb,_⟩
 ·exact .inl a2
 ·refine .inr ⟨b,0,_,_,e,.inr (cells_of hb),getN_eq.2 ⟨?_,?_⟩⟩
  ·rw[List.drop_zero,←flatten_len a1,List.take_length]
  ·rw[flatten_len a1];omega
 ·refine .inr ⟨b,0,_,_,e,.inr (cells_of hb),getN_eq.2 ⟨?_,?_⟩⟩
  ·rw[List.drop_zero,←flatten_len a1,List.take_left'];rfl
  ·rw[List.length_append,flatten_len a1];omega
theorem OwnC.mono {h0 h h':H}{x:V}{sz:Nat}{rows:List (List V)}(a:OwnC h0 h x sz rows)(hs:h.Sub h'):OwnC h0 h' x sz rows:=by
 obtain⟨a0,a1,a2⟩:=a
 refine⟨a0.trans hs,a1,?_⟩
 rcases a2 with a2|⟨b,e,l1,l2,hb⟩|⟨b,c,rest,e,l1,l2,hb,k⟩
 ·exact .inl a2
 ·exact .inr (.inl ⟨b,e,l1,Nat.lt_of_lt_of_le l2 hs.next,hs.get hb⟩)
 ·exact .inr (.inr ⟨b,c,rest,e,l1,Nat.lt_of_lt_of_le l2 hs.next,hs.get hb,k⟩)
theorem OwnC.keep {h0 h h':H}{S:Nat→Prop}{x:V}{sz:Nat}{rows:List (List V)}(a:OwnC h0 h x sz rows)(k:Keeps S h h')(hs:h0.Sub h')(n:∀b,blkOf x b→¬S b):OwnC h0 h' x sz rows:=by
 obtain⟨_,a1,a2⟩:=a
 refine⟨hs,a1,?_⟩
 rcases a2 with a2|⟨b,e,l1,l2,hb⟩|⟨b,c,rest,e,l1,l2,hb,r⟩
 ·exact .inl a2
 ·exact .inr (.inl ⟨b,e,l1,Nat.lt_of_lt_of_le l2 k.1,k.2 b _ hb (n b ⟨_,_,_,e⟩)⟩)
 ·exact .inr (.inr ⟨b,c,rest,e,l1,Nat.lt_of_lt_of_le l2 k.1,k.2 b _ hb (n b ⟨_,_,_,e⟩),r⟩)
theorem OwnC.blk {h0 h:H}{x:V}{sz:Nat}{rows:List (List V)}(a:OwnC h0 h x sz rows){b:Nat}(e:blkOf x b):h0.next≤b∧b<h.next∧∃k cs,h.get b=some (.cells k cs)∧(k=.rw∨k=.gr sz):=by
 obtain⟨o,n,c,rfl⟩:=e
 rcases a.2.2 with⟨e,_⟩|⟨b',e,l1,l2,hb⟩|⟨b',c,rest,e,l1,l2,hb,_⟩
 ·cases e
 ·cases e;exact⟨l1,l2,_,_,hb,.inr rfl⟩
 ·cases e;exact⟨l1,l2,_,_,hb,.inl rfl⟩
theorem OwnC.one {h0 h:H}{x:V}{sz:Nat}{rows:List (List V)}(a:OwnC h0 h x sz rows):x.one=true:=by
 rcases a.2.2 with⟨rfl,_⟩|⟨_,rfl,_⟩|⟨_,_,_,rfl,_⟩<;>rfl
theorem OwnC.base {h0 h1 h:H}{x:V}{sz:Nat}{rows:List (List V)}(a:OwnC h1 h x sz rows)(hs:h0.Sub h1):OwnC h0 h x sz rows:=by
 obtain⟨a0,a1,a2⟩:=a
 have:=hs.next
 refine⟨hs.trans a0,a1,?_⟩
 rcases a2 with a2|⟨b,e,l1,l2,hb⟩|⟨b,c,rest,e,l1,l2,hb,k⟩
 ·exact .inl a2
 ·exact .inr (.inl ⟨b,e,by omega,l2,hb⟩)
 ·exact .inr (.inr ⟨b,c,rest,e,by omega,l2,hb,k⟩)
theorem putN_app {pre new old rest:List V}(h:new.length=old.length):putN pre.length new (pre++old++rest)=some (pre++new++rest):=by
 induction pre with
 |nil=>
  simp only[List.length_nil,List.nil_append,putN_0]
  refine over_eq.2 ⟨?_,?_⟩
  ·rw[h,List.drop_left]
  ·rw[List.length_append];omega
 |cons a pre ih=>simp only[List.length_cons,List.cons_append,putN_s,ih,consV_some]
theorem OwnC.app1 {h0 h:H}{x y:V}{sz by_:Nat}{rows:List (List V)}{r:List V}{Q:V→H→Prop}(a:OwnC h0 h x sz rows)(hw0:h0.wf)(hsz:r.length=sz)(hp:0<sz)
  (hy:SlAt h y sz [r]) (ho:allOne r=true) (h1:(rows.length+1)*by_≤1099511627776) (h2:rows.length+1≤1099511627776)
  (q:∀x' h',OwnC h0 h' x' sz (rows++[r])→(∀b,blkOf x' b→blkOf x b∨h.next≤b)→Keeps (blkOf x) h h'→Q x' h'):P2 (e_app' h sz by_ x y) Q:=by
 obtain⟨a0,a1,a2⟩:=a
 have hall:∀r'∈rows++[r],r'.length=sz:=fun r' hr=>(List.mem_append.1 hr).elim (a1 r') fun h=>by rw[List.mem_singleton] at h;rw[h];exact hsz
 obtain⟨he,hl⟩:=hy.elems
 rcases a2 with⟨rfl,rfl⟩|⟨b,rfl,l1,l2,hb⟩|⟨b,c,rest,rfl,l1,l2,hb,hc,hlc⟩
 ·have o:OwnSl h0 h .nils sz []:=⟨a0,a1,.inl ⟨rfl,rfl⟩⟩
  refine OwnSl.app o hw0 (new:=[r]) (by simp) (by simpa using hsz) he hl (by simpa using ho) (by simpa using h1) (by simp) fun h' o k n=>?_
  exact q _ h' o.c (fun b ⟨_,_,_,e⟩=>by cases e;exact .inr (Nat.le_refl _)) k
 ·have o:OwnSl h0 h (.sl b 0 rows.length (.slk 0 0)) sz rows:=⟨a0,a1,.inr ⟨b,rfl,l1,l2,hb⟩⟩
  refine OwnSl.app o hw0 (new:=[r]) (by simp) (by simpa using hsz) he hl (by simpa using ho) (by simpa using h1) (by simpa using h2) fun h' o k n=>?_
  exact q _ h' o.c (fun b ⟨_,_,_,e⟩=>by cases e;exact .inr (Nat.le_refl _)) k
 ·rw[e_app_eq,he,hl]
  simp only[ob_some,List.length_singleton,List.flatten_cons,List.flatten_nil,List.append_nil]
  by_cases hr:rows.length+1≤c
  ·rw[e_app_fix (by omega)]
   have hlr:sz≤rest.length:=by
    have:=Nat.mul_le_mul_right sz hr;rw[Nat.add_mul] at this;omega
   obtain⟨v,vs,hv⟩:∃v vs,r=v::vs:=by
    cases r with
    |nil=>simp at hsz;omega
    |cons v vs=>exact⟨v,vs,rfl⟩
   have hpn:putN (0+rows.length*sz) r (rows.flatten++rest)=some ((rows++[r]).flatten++rest.drop sz):=by
    have:=putN_app (pre:=rows.flatten) (new:=r) (old:=rest.take sz) (rest:=rest.drop sz) (by rw[List.length_take];omega)
    rw[List.append_assoc,List.take_append_drop,flatten_len a1] at this
    rw[Nat.zero_add,this];simp
   rw[hv] at hpn ho⊢
   rw[H.put_rw ho hb hpn,withV_some,P2_some,←hv]
   refine q _ _ ⟨a0.set l1 l2 hw0 _,hall,.inr (.inr ⟨b,c,rest.drop sz,by simp,l1,by rw[H.next_set];exact l2,by rw[get_set_same rfl],?_,by simpa using hr⟩)⟩ (fun b' ⟨_,_,_,e⟩=>by cases e;exact .inl ⟨_,_,_,rfl⟩) ?_
   ·rw[List.length_append,List.length_singleton,List.length_drop,Nat.add_mul];omega
   ·exact(Keeps.set h b _).mono fun c e=>by subst e;exact⟨_,_,_,rfl⟩
  ·have hce:c=rows.length:=by omega
   have hrest:rest=[]:=List.length_eq_zero_iff.1 (by rw[hce] at hc;omega)
   have hel:elems h sz (.sl b 0 rows.length (.fix c))=some rows.flatten:=by
    have o:OwnC h0 h (.sl b 0 rows.length (.fix c)) sz rows:=⟨a0,a1,.inr (.inr ⟨b,c,rest,rfl,l1,l2,hb,hc,hlc⟩)⟩
    exact(o.sl (by omega)).elems.1
   rw[e_app_full (by omega) hel (by omega) (by omega),grown_eq,P2_some]
   refine q _ _ ⟨a0.add _,hall,.inr (.inl ⟨h.next,by simp,a0.next,by rw[H.next_add];omega,by rw[get_add_new rfl];simp⟩)⟩ (fun b' ⟨_,_,_,e⟩=>by cases e;exact .inr (Nat.le_refl _)) ?_
   exact⟨by rw[H.next_add];omega,fun c y hc _=>by rw[get_add_old (a0.wf c y hc)];exact hc⟩
theorem H.put_gr {h:H}{b o s:Nat}{v:V}{vs cs cs':List V}(h1:allOne (v::vs)=true)(hb:h.get b=some (.cells (.gr s) cs))(hp:putN o (v::vs) cs=some cs'):
  h.put b o (v::vs)=some (h.set b (.cells (.gr s) cs')):=by
 simp only[H.put,h1,hb,setO,hp]
theorem OwnC.clr {h0 h:H}{x:V}{sz:Nat}{rows:List (List V)}{z:List V}{Q:V→H→Prop}(a:OwnC h0 h x sz rows)(hw0:h0.wf)(hz:z.length=sz)(ho:allOne z=true)
  (q:∀h',h0.Sub h'→Keeps (blkOf x) h h'→Q .und h'):P2 (e_clr h z x) Q:=by
 have hrep:∀n,allOne (repN n z)=true:=fun n=>by
  induction n with
  |zero=>rfl
  |succ n ih=>rw[repN,appN_eq,allOne_eq];intro v hv;rcases List.mem_append.1 hv with h|h;exact allOne_eq.1 ho v h;exact allOne_eq.1 ih v h
 obtain⟨a0,a1,a2⟩:=a
 rcases a2 with⟨rfl,rfl⟩|⟨b,rfl,l1,l2,hb⟩|⟨b,c,rest,rfl,l1,l2,hb,hc,hlc⟩
 ·rw[e_clr_nils,P2_some];exact q h a0 (Keeps.refl _ h)
 ·rw[e_clr_sl]
  cases hr:repN rows.length z with
  |nil=>
   simp only[H.put]
   exact q h a0 (Keeps.refl _ h)
  |cons v vs=>
   have h1:=hrep rows.length
   rw[hr] at h1
   have hl:(v::vs).length=rows.flatten.length:=by rw[←hr,repN_len,hz,flatten_len a1]
   have hp:putN 0 (v::vs) rows.flatten=some (v::vs):=by
    have:=putN_app (pre:=[]) (new:=v::vs) (old:=rows.flatten) (rest:=[]) hl
    simpa using this
   rw[H.put_gr h1 hb hp,withV_some,P2_some]
   exact q _ (a0.set l1 l2 hw0 _) ((Keeps.set h b _).mono fun c e=>by subst e;exact⟨_,_,_,rfl⟩)
 ·rw[e_clr_sl]
  cases hr:repN rows.length z with
  |nil=>
   simp only[H.put]
   exact q h a0 (Keeps.refl _ h)
  |cons v vs=>
   have h1:=hrep rows.length
   rw[hr] at h1
   have hl:(v::vs).length=rows.flatten.length:=by rw[←hr,repN_len,hz,flatten_len a1]
   have hp:putN 0 (v::vs) (rows.flatten++rest)=some (v::vs++rest):=putN_app (pre:=[]) hl
   rw[H.put_rw h1 hb hp,withV_some,P2_some]
   exact q _ (a0.set l1 l2 hw0 _) ((Keeps.set h b _).mono fun c e=>by subst e;exact⟨_,_,_,rfl⟩)
theorem SlAt_keep {h h':H}{S:Nat→Prop}{x:V}{sz:Nat}{rows:List (List V)}(a:SlAt h x sz rows)(k:Keeps S h h')(n:∀b,blkOf x b→¬S b):SlAt h' x sz rows:=by
 obtain⟨a1,a0,a2⟩:=a
 refine⟨a1,a0,?_⟩
 rcases a2 with a2|⟨b,o,c,cs,e1,e2,e3⟩
 ·exact .inl a2
 ·exact .inr ⟨b,o,c,cs,e1,e2.imp id fun e2=>k.cells e2 (n b ⟨_,_,_,e1⟩),e3⟩
theorem blkOf_nils {b:Nat}(h:blkOf .nils b):False:=by obtain⟨_,_,_,e⟩:=h;cases e
end Go.Ab
