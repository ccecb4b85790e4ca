import Derived.Test.YthoghcpemmfebaaGreatAc6
import Derived.Test.YthoghcpemmfebaaGreatAc1
set_option linter.unusedSimpArgs false
set_option linter.unusedVariables false
namespace Go.Ab
theorem nth_get {o:Nat}{cs:List V}:nth o cs=cs[o]? :=nth_eq ..
theorem Zk.elems {h:H}{x:V}{sz:Nat}{rows:List (List V)}(a:Zk h x sz rows):elems h sz x=some rows.flatten∧lenV x=some rows.length:=by
 rcases a.2.2 with⟨rfl,rfl⟩|⟨b,o,c,cs,rfl,h2,h3⟩
 ·exact⟨rfl,rfl⟩
 ·refine⟨?_,rfl⟩
  cases hn:rows.length with
  |zero=>
   have:rows=[]:=List.length_eq_zero_iff.1 hn
   subst this;rfl
  |succ k=>
   replace h2:h.cells b=some cs:=h2.resolve_left (fun e=>by rw[e] at hn;simp at hn)
   rw[elems_s,h2,elC_some,←hn];exact h3
theorem a_msl_0n {h:H}{by_ n:Nat}{z:List V}(h1:n*by_≤1099511627776)(h2:n≤1099511627776):
  a_msl h by_ z (.int .i64 0) (.int .i64 (n:Int))=some (.sl h.next 0 0 (.fix n),h.add (.cells .rw (Yp n z))):=by
 have e1:Nat.ble (n*by_) 1099511627776=true:=by simpa using h1
 have e2:Nat.ble n 1099511627776=true:=by simpa using h2
 have e3:Nat.ble 0 n=true:=by simp
 simp only[a_msl,nat_zero,Zb,e1,e2,e3,YJ,lf_eq]
theorem VD (z:List V):∀n,(Yp n z).length=n*z.length
 |0=>by simp[Yp]
 |n+1=>by rw[Yp,YG,List.length_append,VD z n,Nat.add_mul];omega
theorem Ev.gen {Fn:Nat→Option FD}{fast:Nat→Option (List V→H→Option (V × H))}{fv:V}{args:List V}{h:H}{R:V→H→Prop}(f:∀Q:V→H→Prop,(∀u h',R u h'→Q u h')→Ev Fn fast fv args h Q):Ev Fn fast fv args h R:=
 f R fun _ _ h=>h
theorem dup_core {h:H}{x:V}{sz by_:Nat}{rows:List (List V)}{z:List V}(hx:Zk h x sz rows)(hw:h.wf)(hz:z.length=sz)(hsz:0<sz)(ho:Z5 rows.flatten=true):
  Xg (h.add (.cells .rw (Yp rows.length z))) sz by_ (.sl h.next 0 0 (.fix rows.length)) x=some (.sl h.next 0 rows.length (.fix rows.length),h.add (.cells .rw rows.flatten)):=by
 have hx1:=(hx.mono ((H.Sub.refl hw).add (.cells .rw (Yp rows.length z)))).elems
 rw[Vi,hx1.1,hx1.2]
 simp only[WZ]
 cases hn:rows.length with
 |zero=>
  have:rows=[]:=List.length_eq_zero_iff.1 hn
  subst this
  rw[Uj]
  rfl
 |succ k=>
  rw[e_app_fix (by omega),Nat.zero_mul,Nat.zero_add,Nat.zero_add]
  have hl:=Zp hx.1
  obtain⟨v,vs,hv⟩:∃v vs,rows.flatten=v::vs:=by
   cases e:rows.flatten with
   |nil=>rw[e,hn] at hl;simp at hl;rw[Nat.mul_comm] at hl;have:=Nat.le_mul_of_pos_right (k+1) hsz;rw[Nat.mul_comm] at this;omega
   |cons v vs=>exact⟨v,vs,rfl⟩
  have hp:Yl 0 rows.flatten (Yp (k+1) z)=some rows.flatten:=by
   rw[V7]
   refine over_eq.2 ⟨?_,?_⟩
   ·rw[List.drop_of_length_le (by rw[VD,hl,hz,hn];exact Nat.le_refl _),List.append_nil]
   ·rw[VD,hl,hz,hn];exact Nat.le_refl _
  rw[hv] at ho hp⊢
  rw[H.put_rw ho (Zo rfl) hp,XM,set_add_same rfl]
theorem Zr.app1 {h0 h:H}{x y:V}{sz by_:Nat}{rows:List (List V)}{r:List V}{Q:V→H→Prop}(a:Zr h0 h x sz rows)(hw0:h0.wf)(hsz:r.length=sz)(hp:0<sz)
  (hy:Zk h y sz [r]) (ho:Z5 r=true) (h1:(rows.length+1)*by_≤1099511627776) (h2:rows.length+1≤1099511627776)
  (q:∀h',Zr h0 h' (.sl h.next 0 (rows.length+1) (.slk 0 0)) sz (rows++[r])→Zq (Zs x) h h'→h'.next=h.next+1→Q (.sl h.next 0 (rows.length+1) (.slk 0 0)) h'):P2 (Xg h sz by_ x y) Q:=by
 obtain⟨he,hl⟩:=hy.elems
 refine Zr.app a hw0 (new:=[r]) (by simp) (by simpa using hsz) he hl (by simpa using ho) (by simpa using h1) (by simpa using h2) fun h' o k n=>?_
 exact q h' o k n
theorem Zr.ne {h0 h:H}{x:V}{sz:Nat}{rows:List (List V)}(a:Zr h0 h x sz rows){c:Nat}{cs:List V}(e:h.get c=some (.cells .rw cs)):¬Zs x c:=fun hb=>by
 have:=(a.blk hb).2.2;rw[e] at this;cases this
theorem Zr.ne3 {h0 h:H}{x:V}{sz:Nat}{rows:List (List V)}(a:Zr h0 h x sz rows){c:Nat}(e:c<h0.next):¬Zs x c:=fun hb=>by
 have:=(a.blk hb).1;omega
def ZK (h0 h:H)(x:V)(sz:Nat)(rows:List (List V)):Prop:=
 h0.Sub h∧(∀r∈rows,r.length=sz)∧((x=.nils∧rows=[])∨(∃b,x=.sl b 0 rows.length (.slk 0 0)∧h0.next≤b∧b<h.next∧h.get b=some (.cells (.gr sz) rows.flatten))∨
  ∃b c rest,x=.sl b 0 rows.length (.fix c)∧h0.next≤b∧b<h.next∧h.get b=some (.cells .rw (rows.flatten++rest))∧rows.length*sz+rest.length=c*sz∧rows.length≤c)
theorem Zr.c {h0 h:H}{x:V}{sz:Nat}{rows:List (List V)}(a:Zr h0 h x sz rows):ZK h0 h x sz rows:=by
 obtain⟨a0,a1,a2⟩:=a
 exact⟨a0,a1,a2.imp id .inl⟩
theorem ZK.sl {h0 h:H}{x:V}{sz:Nat}{rows:List (List V)}(a:ZK h0 h x sz rows)(hl:rows.length≤9223372036854775807):Zk h x sz rows:=by
 obtain⟨_,a1,a2⟩:=a
 refine⟨a1,hl,?_⟩
 rcases a2 with a2|⟨b,e,_,_,hb⟩|⟨b,c,rest,e,_,_,hb,_⟩
 ·exact .inl a2
 ·refine .inr ⟨b,0,_,_,e,.inr (Za hb),Z9.2 ⟨?_,?_⟩⟩
  ·rw[List.drop_zero,←Zp a1,List.take_length]
  ·rw[Zp a1];omega
 ·refine .inr ⟨b,0,_,_,e,.inr (Za hb),Z9.2 ⟨?_,?_⟩⟩
  ·rw[List.drop_zero,←Zp a1,List.take_left'];rfl
  ·rw[List.length_append,Zp a1];omega
theorem ZK.mono {h0 h h':H}{x:V}{sz:Nat}{rows:List (List V)}(a:ZK h0 h x sz rows)(hs:h.Sub h'):ZK h0 h' x sz rows:=by
 obtain⟨a0,a1,a2⟩:=a
 refine⟨a0.trans hs,a1,?_⟩
 rcases a2 with a2|⟨b,e,l1,l2,hb⟩|⟨b,c,rest,e,l1,l2,hb,k⟩
 ·exact .inl a2
 ·exact .inr (.inl ⟨b,e,l1,Nat.lt_of_lt_of_le l2 hs.next,hs.get hb⟩)
 ·exact .inr (.inr ⟨b,c,rest,e,l1,Nat.lt_of_lt_of_le l2 hs.next,hs.get hb,k⟩)
theorem ZK.keep {h0 h h':H}{S:Nat→Prop}{x:V}{sz:Nat}{rows:List (List V)}(a:ZK h0 h x sz rows)(k:Zq S h h')(hs:h0.Sub h')(n:∀b,Zs x b→¬S b):ZK h0 h' x sz rows:=by
 obtain⟨_,a1,a2⟩:=a
 refine⟨hs,a1,?_⟩
 rcases a2 with a2|⟨b,e,l1,l2,hb⟩|⟨b,c,rest,e,l1,l2,hb,r⟩
 ·exact .inl a2
 ·exact .inr (.inl ⟨b,e,l1,Nat.lt_of_lt_of_le l2 k.1,k.2 b _ hb (n b ⟨_,_,_,e⟩)⟩)
 ·exact .inr (.inr ⟨b,c,rest,e,l1,Nat.lt_of_lt_of_le l2 k.1,k.2 b _ hb (n b ⟨_,_,_,e⟩),r⟩)
theorem ZK.blk {h0 h:H}{x:V}{sz:Nat}{rows:List (List V)}(a:ZK h0 h x sz rows){b:Nat}(e:Zs x b):h0.next≤b∧b<h.next∧∃k cs,h.get b=some (.cells k cs)∧(k=.rw∨k=.gr sz):=by
 obtain⟨o,n,c,rfl⟩:=e
 rcases a.2.2 with⟨e,_⟩|⟨b',e,l1,l2,hb⟩|⟨b',c,rest,e,l1,l2,hb,_⟩
 ·cases e
 ·cases e;exact⟨l1,l2,_,_,hb,.inr rfl⟩
 ·cases e;exact⟨l1,l2,_,_,hb,.inl rfl⟩
theorem ZK.one {h0 h:H}{x:V}{sz:Nat}{rows:List (List V)}(a:ZK h0 h x sz rows):x.one=true:=by
 rcases a.2.2 with⟨rfl,_⟩|⟨_,rfl,_⟩|⟨_,_,_,rfl,_⟩<;>rfl
theorem ZK.base {h0 h1 h:H}{x:V}{sz:Nat}{rows:List (List V)}(a:ZK h1 h x sz rows)(hs:h0.Sub h1):ZK h0 h x sz rows:=by
 obtain⟨a0,a1,a2⟩:=a
 have:=hs.next
 refine⟨hs.trans a0,a1,?_⟩
 rcases a2 with a2|⟨b,e,l1,l2,hb⟩|⟨b,c,rest,e,l1,l2,hb,k⟩
 ·exact .inl a2
 ·exact .inr (.inl ⟨b,e,by omega,l2,hb⟩)
 ·exact .inr (.inr ⟨b,c,rest,e,by omega,l2,hb,k⟩)
theorem putN_app {pre new old rest:List V}(h:new.length=old.length):Yl pre.length new (pre++old++rest)=some (pre++new++rest):=by
 induction pre with
 |nil=>
  simp only[List.length_nil,List.nil_append,V7]
  refine over_eq.2 ⟨?_,?_⟩
  ·rw[h,List.drop_left]
  ·rw[List.length_append];omega
 |cons a pre ih=>simp only[List.length_cons,List.cons_append,putN_s,ih,Xq]
theorem ZK.app1 {h0 h:H}{x y:V}{sz by_:Nat}{rows:List (List V)}{r:List V}{Q:V→H→Prop}(a:ZK h0 h x sz rows)(hw0:h0.wf)(hsz:r.length=sz)(hp:0<sz)
  (hy:Zk h y sz [r]) (ho:Z5 r=true) (h1:(rows.length+1)*by_≤1099511627776) (h2:rows.length+1≤1099511627776)
  (q:∀x' h',ZK h0 h' x' sz (rows++[r])→(∀b,Zs x' b→Zs x b∨h.next≤b)→Zq (Zs x) h h'→Q x' h'):P2 (Xg h sz by_ x y) Q:=by
 obtain⟨a0,a1,a2⟩:=a
 have hall:∀r'∈rows++[r],r'.length=sz:=fun r' hr=>(List.mem_append.1 hr).elim (a1 r') fun h=>by rw[List.mem_singleton] at h;rw[h];exact hsz
 obtain⟨he,hl⟩:=hy.elems
 rcases a2 with⟨rfl,rfl⟩|⟨b,rfl,l1,l2,hb⟩|⟨b,c,rest,rfl,l1,l2,hb,hc,hlc⟩
 ·have o:Zr h0 h .nils sz []:=⟨a0,a1,.inl ⟨rfl,rfl⟩⟩
  refine Zr.app o hw0 (new:=[r]) (by simp) (by simpa using hsz) he hl (by simpa using ho) (by simpa using h1) (by simp) fun h' o k n=>?_
  exact q _ h' o.c (fun b ⟨_,_,_,e⟩=>by cases e;exact .inr (Nat.le_refl _)) k
 ·have o:Zr h0 h (.sl b 0 rows.length (.slk 0 0)) sz rows:=⟨a0,a1,.inr ⟨b,rfl,l1,l2,hb⟩⟩
  refine Zr.app o hw0 (new:=[r]) (by simp) (by simpa using hsz) he hl (by simpa using ho) (by simpa using h1) (by simpa using h2) fun h' o k n=>?_
  exact q _ h' o.c (fun b ⟨_,_,_,e⟩=>by cases e;exact .inr (Nat.le_refl _)) k
 ·rw[Vi,he,hl]
  simp only[WZ,List.length_singleton,List.flatten_cons,List.flatten_nil,List.append_nil]
  by_cases hr:rows.length+1≤c
  ·rw[e_app_fix (by omega)]
   have hlr:sz≤rest.length:=by
    have:=Nat.mul_le_mul_right sz hr;rw[Nat.add_mul] at this;omega
   obtain⟨v,vs,hv⟩:∃v vs,r=v::vs:=by
    cases r with
    |nil=>simp at hsz;omega
    |cons v vs=>exact⟨v,vs,rfl⟩
   have hpn:Yl (0+rows.length*sz) r (rows.flatten++rest)=some ((rows++[r]).flatten++rest.drop sz):=by
    have:=putN_app (pre:=rows.flatten) (new:=r) (old:=rest.take sz) (rest:=rest.drop sz) (by rw[List.length_take];omega)
    rw[List.append_assoc,List.take_append_drop,Zp a1] at this
    rw[Nat.zero_add,this];simp
   rw[hv] at hpn ho⊢
   rw[H.put_rw ho hb hpn,XM,Xl,←hv]
   refine q _ _ ⟨a0.set l1 l2 hw0 _,hall,.inr (.inr ⟨b,c,rest.drop sz,by simp,l1,by rw[H.next_set];exact l2,by rw[get_set_same rfl],?_,by simpa using hr⟩)⟩ (fun b' ⟨_,_,_,e⟩=>by cases e;exact .inl ⟨_,_,_,rfl⟩) ?_
   ·rw[List.length_append,List.length_singleton,List.length_drop,Nat.add_mul];omega
   ·exact(Zq.set h b _).mono fun c e=>by subst e;exact⟨_,_,_,rfl⟩
  ·have hce:c=rows.length:=by omega
   have hrest:rest=[]:=List.length_eq_zero_iff.1 (by rw[hce] at hc;omega)
   have hel:elems h sz (.sl b 0 rows.length (.fix c))=some rows.flatten:=by
    have o:ZK h0 h (.sl b 0 rows.length (.fix c)) sz rows:=⟨a0,a1,.inr (.inr ⟨b,c,rest,rfl,l1,l2,hb,hc,hlc⟩)⟩
    exact(o.sl (by omega)).elems.1
   rw[Ui (by omega) hel (by omega) (by omega),grown_eq,Xl]
   refine q _ _ ⟨a0.add _,hall,.inr (.inl ⟨h.next,by simp,a0.next,by rw[H.next_add];omega,by rw[Zo rfl];simp⟩)⟩ (fun b' ⟨_,_,_,e⟩=>by cases e;exact .inr (Nat.le_refl _)) ?_
   exact⟨by rw[H.next_add];omega,fun c y hc _=>by rw[XU (a0.wf c y hc)];exact hc⟩
theorem H.put_gr {h:H}{b o s:Nat}{v:V}{vs cs cs':List V}(h1:Z5 (v::vs)=true)(hb:h.get b=some (.cells (.gr s) cs))(hp:Yl o (v::vs) cs=some cs'):
  h.put b o (v::vs)=some (h.set b (.cells (.gr s) cs')):=by
 simp only[H.put,h1,hb,V2,hp]
theorem ZK.clr {h0 h:H}{x:V}{sz:Nat}{rows:List (List V)}{z:List V}{Q:V→H→Prop}(a:ZK h0 h x sz rows)(hw0:h0.wf)(hz:z.length=sz)(ho:Z5 z=true)
  (q:∀h',h0.Sub h'→Zq (Zs x) h h'→Q .und h'):P2 (e_clr h z x) Q:=by
 have hrep:∀n,Z5 (Yp n z)=true:=fun n=>by
  induction n with
  |zero=>rfl
  |succ n ih=>rw[Yp,YG,W8];intro v hv;rcases List.mem_append.1 hv with h|h;exact W8.1 ho v h;exact W8.1 ih v h
 obtain⟨a0,a1,a2⟩:=a
 rcases a2 with⟨rfl,rfl⟩|⟨b,rfl,l1,l2,hb⟩|⟨b,c,rest,rfl,l1,l2,hb,hc,hlc⟩
 ·rw[e_clr_nils,Xl];exact q h a0 (Zq.refl _ h)
 ·rw[e_clr_sl]
  cases hr:Yp rows.length z with
  |nil=>
   simp only[H.put]
   exact q h a0 (Zq.refl _ h)
  |cons v vs=>
   have h1:=hrep rows.length
   rw[hr] at h1
   have hl:(v::vs).length=rows.flatten.length:=by rw[←hr,VD,hz,Zp a1]
   have hp:Yl 0 (v::vs) rows.flatten=some (v::vs):=by
    have:=putN_app (pre:=[]) (new:=v::vs) (old:=rows.flatten) (rest:=[]) hl
    simpa using this
   rw[H.put_gr h1 hb hp,XM,Xl]
   exact q _ (a0.set l1 l2 hw0 _) ((Zq.set h b _).mono fun c e=>by subst e;exact⟨_,_,_,rfl⟩)
 ·rw[e_clr_sl]
  cases hr:Yp rows.length z with
  |nil=>
   simp only[H.put]
   exact q h a0 (Zq.refl _ h)
  |cons v vs=>
   have h1:=hrep rows.length
   rw[hr] at h1
   have hl:(v::vs).length=rows.flatten.length:=by rw[←hr,VD,hz,Zp a1]
   have hp:Yl 0 (v::vs) (rows.flatten++rest)=some (v::vs++rest):=putN_app (pre:=[]) hl
   rw[H.put_rw h1 hb hp,XM,Xl]
   exact q _ (a0.set l1 l2 hw0 _) ((Zq.set h b _).mono fun c e=>by subst e;exact⟨_,_,_,rfl⟩)
theorem YD {h h':H}{S:Nat→Prop}{x:V}{sz:Nat}{rows:List (List V)}(a:Zk h x sz rows)(k:Zq S h h')(n:∀b,Zs x b→¬S b):Zk h' x sz rows:=by
 obtain⟨a1,a0,a2⟩:=a
 refine⟨a1,a0,?_⟩
 rcases a2 with a2|⟨b,o,c,cs,e1,e2,e3⟩
 ·exact .inl a2
 ·exact .inr ⟨b,o,c,cs,e1,e2.imp id fun e2=>k.cells e2 (n b ⟨_,_,_,e1⟩),e3⟩
theorem ZE {b:Nat}(h:Zs .nils b):False:=by obtain⟨_,_,_,e⟩:=h;cases e
end Go.Ab
