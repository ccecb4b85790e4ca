/- Copies, clears, stores into maps: sound. All operations that change memory. -/
import Derived.Test.YtiphdfiihgbomabGreatAbD
set_option linter.unusedSimpArgs false
set_option linter.unusedVariables false
namespace Go.Ab
section
variable {P:Program} {Ty:Nat→Option TD} {φ:Phi} {p:Nat→Prop} {w:World} {h h':H} {tm:T V} {ρ:Operand→Value}
theorem put_next {b o:Nat}{vs:List V}(hp:h.put b o vs=some h'):h'.next=h.next:=by
 unfold H.put at hp
 split at hp
 ·cases hp;rfl
 ·split at hp
  ·split at hp
   all_goals first
    |(unfold setO at hp;split at hp
      ·cases hp;exact H.next_set _ _ _
      ·cases hp)
    |cases hp
  ·cases hp
theorem take_sc {q:Nat→Prop}{l:List V}(h:scL q l)(n:Nat):scL q (l.take n):=scL_iff.2 fun v hv=>scL_iff.1 h v (List.mem_of_mem_take hv)
theorem e_copy (hT:TyOK P Ty){t t' e:TypeId}{d de:TD}(hd:Ty t=some d)(hu:d.u=.slice e)(hde:Ty e=some de)(h0:0<de.size)
  {x y:Operand} {x' y':Opd} (hx:opd x=some x') (hy:opd y=some y') (ty:TypeId) {v:V}
  (hv:e_cpy h de.size (x'.ev tm) (y'.ev tm)=some (v,h')):
  EffOk P Ty tm h (fun ρ=>do pure (Next.value (←Builtin.copy_ #[t,t'] ty #[ρ x,ρ y]))) v h':=by
 obtain⟨ti,u,hi⟩:=hT t d hd
 have his:=hi.is;rw[hu] at his
 have:=is_slice his;subst this
 obtain⟨ei,eu,hei⟩:=hT e de hde
 unfold e_cpy at hv
 cases hn:lenV (x'.ev tm) with
 |none=>simp[hn] at hv
 |some n=>
  cases hk:lenV (y'.ev tm) with
  |none=>simp[hn,hk] at hv
  |some k=>
   cases hel:elems h de.size (y'.ev tm) with
   |none=>simp[hn,hk,hel] at hv
   |some src=>
    simp only[hn,hk,hel] at hv
    have key:∀j,j=Nat.min k n→cpyTo h (x'.ev tm) j (takeN (j*de.size) src)=some (v,h')→EffOk P Ty tm h (fun ρ=>do pure (Next.value (←Builtin.copy_ #[t,t'] ty #[ρ x,ρ y]))) v h':=by
     intro j hj hq
     unfold cpyTo at hq
     cases htk:takeN (j*de.size) src with
     |none=>simp[htk] at hq
     |some vs=>
      simp only[htk] at hq
      obtain⟨rfl,hle⟩:=takeN_eq.1 htk
      have hjk:j≤k:=by rw[hj];exact Nat.min_le_left _ _
      split at hq
      ·rename_i hz
       simp only[Option.some.injEq,Prod.mk.injEq] at hq
       obtain⟨rfl,rfl⟩:=hq
       refine⟨Nat.le_refl _,fun{φ p w ρ} hρ hR hs _=>?_⟩
       rw[grow_self]
       obtain⟨xb,xc,e1,e2,e3,e4⟩:=elems_sound P hR hel hk
       have hf:=first_sound (P:=P) (m:=j) (c:=xc) e2 e4 hjk w rfl
       have hn0:n=0:=by rw[hz] at hn;simpa[lenV] using hn.symm
       refine⟨φ,w,_,?_,.inl rfl,hR,Ext.refl _ _ _ _,trivial⟩
       dsimp only
       rw[hρ x x' hx,hρ y y' hy,hz,e1]
       have hj0:j=0:=by rw[hj,hn0];exact Nat.min_zero _
       subst hj0
       simp only[conc]
       simp[Builtin.copy_,hi.r_under,Builtin.lenOf,hei.r_size]
       simp at hf
       simp[hf,goInt]
      ·rename_i b o n' c hz
       unfold withV at hq
       split at hq
       ·rename_i h1 hp
        simp only[Option.some.injEq,Prod.mk.injEq] at hq
        obtain⟨rfl,rfl⟩:=hq
        have hnx:=put_next hp
        refine⟨by omega,fun{φ p w ρ} hρ hR hs _=>?_⟩
        rw[hnx,grow_self]
        obtain⟨xb,xc,e1,e2,e3,e4⟩:=elems_sound P hR hel hk
        have hf:=first_sound (P:=P) (m:=j) (c:=xc) e2 e4 hjk w rfl
        have hnn:n'=n:=by rw[hz] at hn;simpa[lenV] using hn
        subst hnn
        obtain⟨_,_,w',r1,r2,r3⟩:=put_sound (P:=P) hR hp (take_sc e3 _)
        have hst:∃a c',conc φ (.sl b o n' c)=.slice (some a) n' c'∧(storeCells a ((src.take (j*de.size)).map (conc φ))).run P w=.ok () w':=by
         cases c with
         |fix c=>exact⟨_,_,rfl,r1⟩
         |slk a q=>
          by_cases hn0:n'=0
          ·have hj0:j=0:=by rw[hj,hn0];exact Nat.min_zero _
           subst hj0
           refine⟨_,_,rfl,?_⟩
           simp[storeCells] at r1⊢
           exact r1
          ·refine⟨φ.at b o,φ.cap b-a,by simp[conc,hn0],r1⟩
        obtain⟨a,c',s1,s2⟩:=hst
        refine⟨φ,w',_,?_,.inl rfl,r2,r3,trivial⟩
        dsimp only
        rw[hρ x x' hx,hρ y y' hy,hz,e1,s1]
        have hm:Nat.min k n'=j:=hj.symm
        simp[Builtin.copy_,hi.r_under,Builtin.lenOf,hei.r_size,hm,hf]
        rw[←List.map_take,s2]
        simp[conc,goInt]
       ·cases hq
      ·cases hq
    cases hb:Nat.ble k n with
    |true=>
     simp only[hb] at hv
     exact key k (by have:=Nat.le_of_ble_eq_true hb;exact(Nat.min_eq_left this).symm) hv
    |false=>
     simp only[hb] at hv
     have:¬k≤n:=fun hle=>by rw[Nat.ble_eq_true_of_le hle] at hb;cases hb
     exact key n (by exact(Nat.min_eq_right (by omega)).symm) hv
theorem e_clear (hT:TyOK P Ty){t e:TypeId}{d de:TD}(hd:Ty t=some d)(hu:d.u=.slice e)(hde:Ty e=some de)(h0:0<de.size)
  {x:Operand} {x':Opd} (hx:opd x=some x') (ty:TypeId) {v:V}
  (hv:e_clr h de.z (x'.ev tm)=some (v,h')):
  EffOk P Ty tm h (fun ρ=>do pure (Next.value (←Builtin.clear_ #[t] ty #[ρ x]))) v h':=by
 obtain⟨ti,u,hi⟩:=hT t d hd
 have his:=hi.is;rw[hu] at his
 have:=is_slice his;subst this
 obtain⟨ei,eu,hei⟩:=hT e de hde
 unfold e_clr at hv
 split at hv
 ·rename_i hz
  simp only[Option.some.injEq,Prod.mk.injEq] at hv
  obtain⟨rfl,rfl⟩:=hv
  refine⟨Nat.le_refl _,fun{φ p w ρ} hρ hR hs _=>?_⟩
  rw[grow_self]
  refine⟨φ,w,_,?_,.inl rfl,hR,Ext.refl _ _ _ _,trivial⟩
  dsimp only
  rw[hρ x x' hx,hz]
  simp[Builtin.clear_,hi.r_under,conc,concs]
 ·rename_i b o n c hz
  unfold withV at hv
  split at hv
  ·rename_i h1 hp
   simp only[Option.some.injEq,Prod.mk.injEq] at hv
   obtain⟨rfl,rfl⟩:=hv
   have hnx:=put_next hp
   refine⟨by omega,fun{φ p w ρ} hρ hR hs _=>?_⟩
   rw[hnx,grow_self]
   obtain⟨_,r0,w',r1,r2,r3⟩:=put_sound (P:=P) hR hp (repN_sc (sc_false hei.sc) n)
   have hzsz:(zeroOf de).cells.size=de.size:=by rw[zeroOf_cells hei φ];simp[hei.len]
   have hrow:(Builtin.zeroCells (zeroOf de).cells n)=((repN n de.z).map (conc φ)).toArray:=by
    unfold Builtin.zeroCells
    exact repN_row hei φ n _ (by rw[hzsz]) h0
   by_cases hn0:n=0
   ·subst hn0
    have:=r0 rfl;subst this
    refine⟨φ,w,_,?_,.inl rfl,hR,Ext.refl _ _ _ _,trivial⟩
    dsimp only
    rw[hρ x x' hx,hz]
    cases c<;>simp[Builtin.clear_,hi.r_under,conc,concs]
   ·have hst:∃a c',conc φ (.sl b o n c)=.slice (some a) n c'∧(storeCells a ((repN n de.z).map (conc φ))).run P w=.ok () w':=by
     cases c with
     |fix c=>exact⟨_,_,rfl,r1⟩
     |slk a q=>exact⟨φ.at b o,φ.cap b-a,by simp[conc,hn0],r1⟩
    obtain⟨a,c',s1,s2⟩:=hst
    refine⟨φ,w',_,?_,.inl rfl,r2,r3,trivial⟩
    dsimp only
    rw[hρ x x' hx,hz,s1]
    simp[Builtin.clear_,hi.r_under,hn0,hei.r_zero,hrow,s2,conc,concs]
  ·cases hv
 ·cases hv
theorem putK_sound {k x:V}:∀{es es':List (V × V)} {E:List MapEntry} {j:IntKind} (i:Nat),putK k x es=some es'→E.map (fun e=>(e.key,e.val))=es.map (fun q=>(conc φ q.1,conc φ q.2))→
  (Instr.findNow (.int j) (conc φ k) E i=some none∧es'=es++[(k,x)])∨
  (∃q a M,Instr.findNow (.int j) (conc φ k) E i=some (some (i+q,a))∧E[q]? =some M∧M.key=conc φ k∧(∃kk n,conc φ k=.int kk n)∧
   ∀f:MapEntry→MapEntry,(f M).key=conc φ k→(f M).val=conc φ x→(E.modify q f).map (fun e=>(e.key,e.val))=es'.map (fun q=>(conc φ q.1,conc φ q.2)))
 |[],es',E,j,i,hk,hE=>by
  simp only[putK,Option.some.injEq] at hk
  subst hk
  have:E=[]:=by simpa using hE
  subst this
  exact .inl ⟨rfl,rfl⟩
 |e::es,es',E,j,i,hk,hE=>by
  cases E with
  |nil=>simp at hE
  |cons M E=>
   simp only[List.map_cons,List.cons.injEq,Prod.mk.injEq] at hE
   obtain⟨⟨m1,m2⟩,hE⟩:=hE
   simp only[putK] at hk
   cases hq:keyEq k e.1 with
   |none=>simp[hq] at hk
   |some b=>
    cases k with
    |int j1 a=>
     cases e2:e.1 with
     |int j2 c=>
      rw[e2] at hq
      simp only[keyEq] at hq
      cases hk2:keq j1 j2 with
      |false=>simp[hk2] at hq
      |true=>
       have:=keq_eq.1 hk2;subst this
       simp only[hk2,Option.some.injEq] at hq
       have hsn:Instr.sameNow (.int j) (conc φ (.int j1 a)) M.key=some (a==c):=by
        rw[m1,e2];simp[conc,Instr.sameNow]
       have hb:b=(a==c):=by rw[←hq,ieq_eq]
       cases b with
       |true=>
        have hke:keyEq (.int j1 a) e.1=some true:=by rw[e2];simp[keyEq,hq]
        simp only[hke,Option.some.injEq] at hk
        subst hk
        have hac:a=c:=by simpa using hb.symm
        refine .inr ⟨0,M.val,M,by simp[Instr.findNow,hsn,←hb],rfl,by rw[m1,e2,hac],⟨j1,a,rfl⟩,fun f f1 f2=>?_⟩
        simp[f1,f2,hE]
       |false=>
        have hke:keyEq (.int j1 a) e.1=some false:=by rw[e2];simp[keyEq,hq]
        simp only[hke] at hk
        cases hput:putK (.int j1 a) x es with
        |none=>simp[hput] at hk
        |some r=>
         simp only[hput,Option.some.injEq] at hk
         subst hk
         rcases putK_sound (k:=.int j1 a) (x:=x) (j:=j) (i+1) hput hE with⟨h1,h2⟩|⟨q,b,M',h1,h2,h3,h4,h5⟩
         ·exact .inl ⟨by simpa[Instr.findNow,hsn,←hb] using h1,by simp[h2]⟩
         ·refine .inr ⟨q+1,b,M',?_,by simpa using h2,h3,h4,fun f f1 f2=>?_⟩
          ·have:i+(q+1)=i+1+q:=by omega
           rw[this]
           simpa[Instr.findNow,hsn,←hb] using h1
          ·simp[h5 f f1 f2,m1,m2]
     |_=>rw[e2] at hq;simp[keyEq] at hq
    |_=>simp[keyEq] at hq
theorem putK_sc {q:Nat→Prop}{k x:V}(hk:k.sc q)(hx:x.sc q):∀{es es':List (V × V)},putK k x es=some es'→(∀e∈es,e.1.sc q∧e.2.sc q)→∀e∈es',e.1.sc q∧e.2.sc q
 |[],es',h,_=>by
  simp only[putK,Option.some.injEq] at h;subst h
  intro e he;simp at he;subst he;exact⟨hk,hx⟩
 |e::es,es',h,hs=>by
  simp only[putK] at h
  split at h
  ·cases h
   intro e' he
   simp only[List.mem_cons] at he
   rcases he with rfl|he
   ·exact⟨hk,hx⟩
   ·exact hs e' (by simp[he])
  ·split at h
   ·cases h
   ·rename_i r hr
    cases h
    have ih:=putK_sc hk hx hr fun e' he=>hs e' (by simp[he])
    intro e' he
    simp only[List.mem_cons] at he
    rcases he with rfl|he
    ·exact hs e' (by simp)
    ·exact ih e' he
  ·cases h
theorem born_push {E:Array MapEntry}(h:∀(i:Nat) (e:MapEntry),E[i]? =some e→e.born=i)(e0:MapEntry)(he:e0.born=E.size):(∀(i:Nat) (e:MapEntry),(E.push e0)[i]? =some e→e.born=i)∧E.size+1=(E.push e0).size:=by
 refine⟨fun i e hi=>?_,by simp⟩
 rw[Array.getElem?_push] at hi
 split at hi
 ·rename_i e1;cases hi;rw[he,e1]
 ·exact h i e hi
theorem born_modify {E:Array MapEntry}(h:∀(i:Nat) (e:MapEntry),E[i]? =some e→e.born=i){q:Nat}{f:MapEntry→MapEntry}(hf:∀e,(f e).born=e.born):(∀(i:Nat) (e:MapEntry),(E.modify q f)[i]? =some e→e.born=i)∧E.size=(E.modify q f).size:=by
 refine⟨fun i e hi=>?_,by simp⟩
 rw[←Array.getElem?_toList,Array.toList_modify,List.getElem?_modify] at hi
 cases ho:E[i]? with
 |none=>rw[Array.getElem?_toList,ho] at hi;simp at hi
 |some m=>
  rw[Array.getElem?_toList,ho] at hi
  simp only[Option.map_eq_map,Option.map_some,Option.some.injEq] at hi
  rw[←hi]
  split
  ·rw[hf];exact h i m ho
  ·exact h i m ho
theorem setE_eq:∀{n:Nat} {x:V} {es es':List (V × V)},setE n x es=some es'→n<es.length∧es'=es.modify n fun e=>(e.1,x)
 |_,_,[],_,h=>by simp[setE] at h
 |0,x,e::es,es',h=>by simp only[setE,Option.some.injEq] at h;subst h;exact⟨by simp,rfl⟩
 |n+1,x,e::es,es',h=>by
  simp only[setE] at h
  split at h
  ·rename_i r hr
   cases h
   obtain⟨h1,h2⟩:=setE_eq hr
   exact⟨by simp;omega,by rw[List.modify_succ_cons,h2]⟩
  ·cases h
theorem men_sound {k:V}:∀{es:List (V × V)} {E:List MapEntry} {j:IntKind} {r:Option V} (i:Nat),findK k es=some r→E.map (fun e=>(e.key,e.val))=es.map (fun q=>(conc φ q.1,conc φ q.2))→
  (r=none∧Instr.findNow (.int j) (conc φ k) E i=some none)∨
  (∃v M,r=some v∧Instr.findNow (.int j) (conc φ k) E i=some (some (i+posK k es,conc φ v))∧E[posK k es]? =some M∧M.key=conc φ k∧M.val=conc φ v∧(∃kk n,conc φ k=.int kk n)∧∃e∈es,e.2=v)
 |[],E,j,r,i,hk,hE=>by
  simp only[findK,Option.some.injEq] at hk
  have:E=[]:=by simpa using hE
  subst this
  exact .inl ⟨hk.symm,rfl⟩
 |e::es,E,j,r,i,hk,hE=>by
  cases E with
  |nil=>simp at hE
  |cons M E=>
   simp only[List.map_cons,List.cons.injEq,Prod.mk.injEq] at hE
   obtain⟨⟨m1,m2⟩,hE⟩:=hE
   simp only[findK] at hk
   cases hq:keyEq k e.1 with
   |none=>simp[hq] at hk
   |some b=>
    cases k with
    |int j1 a=>
     cases e2:e.1 with
     |int j2 c=>
      rw[e2] at hq
      simp only[keyEq] at hq
      cases hk2:keq j1 j2 with
      |false=>simp[hk2] at hq
      |true=>
       have:=keq_eq.1 hk2;subst this
       simp only[hk2,Option.some.injEq] at hq
       have hsn:Instr.sameNow (.int j) (conc φ (.int j1 a)) M.key=some (a==c):=by
        rw[m1,e2];simp[conc,Instr.sameNow]
       have hb:b=(a==c):=by rw[←hq,ieq_eq]
       cases b with
       |true=>
        have hke:keyEq (.int j1 a) e.1=some true:=by rw[e2];simp[keyEq,hq]
        simp only[hke,Option.some.injEq] at hk
        subst hk
        have hac:a=c:=by simpa using hb.symm
        have hp:posK (.int j1 a) (e::es)=0:=by simp only[posK,hke]
        rw[hp]
        exact .inr ⟨e.2,M,rfl,by simp[Instr.findNow,hsn,←hb,m2],rfl,by rw[m1,e2,hac],m2,⟨j1,a,rfl⟩,e,by simp,rfl⟩
       |false=>
        have hke:keyEq (.int j1 a) e.1=some false:=by rw[e2];simp[keyEq,hq]
        simp only[hke] at hk
        have hp:posK (.int j1 a) (e::es)=posK (.int j1 a) es+1:=by simp only[posK,hke]
        rcases men_sound (k:=.int j1 a) (j:=j) (i+1) hk hE with⟨h1,h2⟩|⟨v,M',h1,h2,h3,h4,h5,h6,e',h7,h8⟩
        ·exact .inl ⟨h1,by simpa[Instr.findNow,hsn,←hb] using h2⟩
        ·rw[hp]
         refine .inr ⟨v,M',h1,?_,by simpa using h3,h4,h5,h6,e',by simp[h7],h8⟩
         have:i+(posK (.int j1 a) es+1)=i+1+posK (.int j1 a) es:=by omega
         rw[this]
         simpa[Instr.findNow,hsn,←hb] using h2
     |_=>rw[e2] at hq;simp[keyEq] at hq
    |_=>simp[keyEq] at hq
theorem e_mapEntry (hT:TyOK P Ty){t kt et:TypeId}{d dk de:TD}(hd:Ty t=some d)(hu:d.u=.map kt et)(hdk:Ty kt=some dk)(hde:Ty et=some de){kk:IntKind}(hki:dk.u=.int kk){z:V}(hz:mkV de.u.agg de.z=some z)
  {m k:Operand} {m' k':Opd} (hm:opd m=some m') (hk:opd k=some k') {v:V}
  (hv:e_men h z (m'.ev tm) (k'.ev tm)=some (v,h')):
  EffOk P Ty tm h (fun ρ=>do pure (Next.value (←Instr.mapEntry t (ρ m) (ρ k)))) v h':=by
 obtain⟨ti,u,hi⟩:=hT t d hd
 have his:=hi.is;rw[hu] at his
 have:=is_map his;subst this
 obtain⟨ki,ku,hki0⟩:=hT kt dk hdk
 have hks:=hki0.is;rw[hki] at hks
 have hku:=is_int hks
 obtain⟨ei,eu,hei⟩:=hT et de hde
 unfold e_men at hv
 split at hv
 ·rename_i b hzm
  split at hv
  ·rename_i es hb
   split at hv
   ·rename_i r hfk
    have hni:∀(φ:Phi) (v:V) t x,conc φ v≠.iface t x:=by
     intro φ v t x
     cases v
     case sl b o n c=>cases c<;>simp[conc]
     all_goals simp[conc]
    have hnx:h'.next=h.next:=by
     split at hv<;> · simp only[Option.some.injEq,Prod.mk.injEq] at hv;rw[←hv.2,H.next_set]
    refine⟨by rw[hnx];exact Nat.le_refl _,fun{φ p w ρ} hρ hR hs _=>?_⟩
    rw[hnx,grow_self]
    have hz':zeroOf de=conc φ z:=by
     rw[zeroOf_eq hei φ]
     cases ha:de.u.agg with
     |true=>rw[ha] at hz;simp only[mkV,Option.some.injEq] at hz;subst hz;simp[conc,concs_eq]
     |false=>
      obtain⟨q,hq,_⟩:=hei.one ha
      rw[ha,hq] at hz;simp only[mkV,Option.some.injEq] at hz;subst hz;simp[hq]
    have hzs:z.sc p:=by
     have hsz:scL p de.z:=scL_mono (fun _ h=>h.elim) _ hei.sc
     cases ha:de.u.agg with
     |true=>rw[ha] at hz;simp only[mkV,Option.some.injEq] at hz;subst hz;exact hsz
     |false=>
      obtain⟨q,hq,_⟩:=hei.one ha
      rw[ha,hq] at hz;simp only[mkV,Option.some.injEq] at hz;subst hz;rw[hq] at hsz;exact hsz.1
    obtain⟨o,ho,E,clk,rfl,hE,hbn,rfl⟩:=hR.blk b _ hb
    have hck:(Instr.checkKey false 10000 kt (conc φ (k'.ev tm))).run P w=.ok () w:=checkKey_int hT hdk hki _ _ (hni φ _)
    have hfr:∀a,Instr.findNow (.int kk) (conc φ (k'.ev tm)) E.toList 0=some a→(Instr.findKey kt (conc φ (k'.ev tm)) E.toList).run P w=.ok a w:=
     fun a ha=>MapKept.run_findKey (by rw[hki0.under,hku]) ha
    have hlt:φ.blk b<w.heap.size:=(Array.getElem?_eq_some_iff.1 ho).1
    have hsc:=(hR.sc b _ hb).2
    have fin:∀(es':List (V × V)) (E':Array MapEntry) (clk':Nat),(Blk.map es').sc p→E'.toList.map (fun e=>(e.key,e.val))=es'.map (fun q=>(conc φ q.1,conc φ q.2))→((∀(i:Nat) (e:MapEntry),E'[i]? =some e→e.born=i)∧clk'=E'.size)→
      Rep Ty φ (upd h.get b (some (.map es'))) p {w with heap:=w.heap.setIfInBounds (φ.blk b) (.map E' clk')}∧
      Ext φ p h.get w φ p (upd h.get b (some (.map es'))) {w with heap:=w.heap.setIfInBounds (φ.blk b) (.map E' clk')}:=by
     intro es' E' clk' hsc' hE' hbn'
     refine rep_put hR hb rfl (o:=.map E' clk') (by simp) (by simp[hlt]) (fun B hB=>?_) ⟨E',clk',rfl,hE',hbn'⟩ hsc'
     simp only[Array.getElem?_setIfInBounds]
     simp[Ne.symm hB]
    have hlen:E.size=es.length:=by
     have:=congrArg List.length hE
     simpa using this
    rcases men_sound (φ:=φ) (j:=kk) 0 hfk hE with⟨rfl,h1⟩|⟨v0,M,rfl,h1,h2,h3,h4,⟨kk',n,h5⟩,e0,h6,h7⟩
    ·simp only[Option.some.injEq,Prod.mk.injEq] at hv
     obtain⟨rfl,rfl⟩:=hv
     rw[H.get_set,appE_eq,lenE_eq]
     have:=fin (es++[(k'.ev tm,z)]) (E.push {key:=conc φ (k'.ev tm),val:=conc φ z,born:=E.size}) (E.size+1) (fun e he=>by
      rcases List.mem_append.1 he with he|he
      ·exact hsc e he
      ·rw[List.mem_singleton] at he;subst he;exact⟨ev_sc hs hk,hzs⟩) (by simp[hE]) (born_push hbn _ rfl)
     refine⟨φ,_,_,?_,.inl rfl,this.1,this.2,⟨hzs,trivial,trivial⟩⟩
     dsimp only
     rw[hρ m m' hm,hρ k k' hk,hzm]
     simp[Instr.mapEntry,hi.r_under,conc,MapKept.run_getObj_map ho,hck,hfr _ h1,hei.r_zero,hz',MapKept.run_setObj_map _ ho,concs,goInt,hlen]
    ·simp only[Option.some.injEq,Prod.mk.injEq] at hv
     obtain⟨rfl,rfl⟩:=hv
     rw[H.get_set]
     have hEq:E[posK (k'.ev tm) es]? =some M:=by rw[←Array.getElem?_toList];exact h2
     have hmod:(E.modify (posK (k'.ev tm) es) fun e=>{e with key:=conc φ (k'.ev tm)}).toList.map (fun e=>(e.key,e.val))=es.map (fun q=>(conc φ q.1,conc φ q.2)):=by
      rw[Array.toList_modify,←hE]
      refine List.ext_getElem? fun i=>?_
      rw[List.getElem?_map,List.getElem?_map,List.getElem?_modify]
      by_cases e:posK (k'.ev tm) es=i
      ·subst e
       rw[h2]
       simp[h3]
      ·cases E.toList[i]? <;>simp[e]
     have:=fin es (E.modify (posK (k'.ev tm) es) fun e=>{e with key:=conc φ (k'.ev tm)}) E.size hsc hmod (born_modify hbn fun _=>rfl)
     refine⟨φ,_,_,?_,.inl rfl,this.1,this.2,⟨by rw[←h7];exact(hsc e0 h6).2,trivial,trivial⟩⟩
     dsimp only
     rw[hρ m m' hm,hρ k k' hk,hzm]
     rw[Nat.zero_add] at h1
     have hE2:((E[posK (k'.ev tm) es]?).map (·.key)).getD (conc φ (k'.ev tm))=conc φ (k'.ev tm):=by
      simp[hEq,h3]
     have hsb:Instr.sameBits 10000 (conc φ (k'.ev tm)) (conc φ (k'.ev tm))=true:=by
      rw[h5];simp[Instr.sameBits]
     have hks:(Instr.keyThatStays (((E[posK (k'.ev tm) es]?).map (·.key)).getD (conc φ (k'.ev tm))) (conc φ (k'.ev tm))).run P w=.ok (conc φ (k'.ev tm)) w:=by
      rw[hE2];simp[Instr.keyThatStays,hsb]
     simp only[Instr.mapEntry,Sem.run_bind,hi.r_under,Result.andThen_ok,conc,MapKept.run_getObj_map ho,hck,hfr _ h1,hks,MapKept.run_setObj_map _ ho,Sem.run_pure,concs,goInt,Int.ofNat_eq_natCast]
     simp[hEq,hbn _ _ hEq]
   ·cases hv
  ·cases hv
 ·cases hv
theorem e_entryStore {t:TypeId}{m s x:Operand}{m' s' x':Opd}(hm:opd m=some m')(hs0:opd s=some s')(hx:opd x=some x'){v:V}
  (hv:e_mst h (m'.ev tm) (s'.ev tm) (x'.ev tm)=some (v,h')):
  EffOk P Ty tm h (fun ρ=>do Instr.entryStore t (ρ m) (ρ s) (ρ x);pure .skip) v h':=by
 unfold e_mst at hv
 split at hv
 ·rename_i b hzm
  split at hv
  ·rename_i es hb
   split at hv
   ·rename_i n hn
    split at hv
    ·rename_i es' hset
     simp only[Option.some.injEq,Prod.mk.injEq] at hv
     obtain⟨rfl,rfl⟩:=hv
     obtain⟨hlt0,rfl⟩:=setE_eq hset
     refine⟨by rw[H.next_set];exact Nat.le_refl _,fun{φ p w ρ} hρ hR hs _=>?_⟩
     rw[H.next_set,grow_self,H.get_set]
     obtain⟨o,ho,E,clk,rfl,hE,hbn,rfl⟩:=hR.blk b _ hb
     have hlt:φ.blk b<w.heap.size:=(Array.getElem?_eq_some_iff.1 ho).1
     have hsc:=(hR.sc b _ hb).2
     have hlen:E.size=es.length:=by
      have:=congrArg List.length hE
      simpa using this
     have hsc':(Blk.map (es.modify n fun e=>(e.1,x'.ev tm))).sc p:=fun e he=>by
      obtain⟨i,hi⟩:=List.mem_iff_getElem?.1 he
      rw[List.getElem?_modify] at hi
      cases ho2:es[i]? with
      |none=>rw[ho2] at hi;simp at hi
      |some e2=>
       rw[ho2] at hi
       simp only[Option.map_eq_map,Option.map_some,Option.some.injEq] at hi
       have:=hsc e2 (List.mem_of_getElem? ho2)
       rw[←hi]
       split
       ·exact⟨this.1,ev_sc hs hx⟩
       ·exact this
     have hE':(E.modify n fun e=>{e with val:=conc φ (x'.ev tm)}).toList.map (fun e=>(e.key,e.val))=(es.modify n fun e=>(e.1,x'.ev tm)).map (fun q=>(conc φ q.1,conc φ q.2)):=by
      rw[Array.toList_modify]
      refine List.ext_getElem? fun i=>?_
      have:=congrArg (fun l=>l[i]?) hE
      simp only[List.getElem?_map] at this
      rw[List.getElem?_map,List.getElem?_map,List.getElem?_modify,List.getElem?_modify]
      cases h1:E.toList[i]? <;>cases h2:es[i]? <;>rw[h1,h2] at this<;>simp at this⊢
      obtain⟨q1,q2⟩:=this
      split<;>simp[q1,q2]
     have key:=rep_put (y:=.map (es.modify n fun e=>(e.1,x'.ev tm))) hR hb rfl (o:=.map (E.modify n fun e=>{e with val:=conc φ (x'.ev tm)}) E.size) (w':={w with heap:=w.heap.setIfInBounds (φ.blk b) (.map (E.modify n fun e=>{e with val:=conc φ (x'.ev tm)}) E.size)}) (by simp) (by simp[hlt]) (fun B hB=>by
      simp only[Array.getElem?_setIfInBounds];simp[Ne.symm hB]) ⟨_,_,rfl,hE',born_modify hbn fun _=>rfl⟩ hsc'
     refine⟨φ,_,.skip,?_,.inr ⟨rfl,rfl⟩,key.1,key.2,trivial⟩
     dsimp only
     rw[hρ m m' hm,hρ s s' hs0,hρ x x' hx,hzm]
     have hsn:conc φ (s'.ev tm)=.int .i64 (n:Int):=by
      rw[nat?_eq hn];rfl
     have hidx:E.findIdx? (fun e=>(e.born:Int)==(n:Int))=some n:=by
      rw[Array.findIdx?_eq_some_iff_getElem]
      refine⟨by omega,?_,fun j hj=>?_⟩
      ·have:=hbn n _ (Array.getElem?_eq_getElem (by omega:n<E.size));simp[this]
      ·have:=hbn j _ (Array.getElem?_eq_getElem (by omega:j<E.size));simp[this];omega
     rw[hsn]
     simp[Instr.entryStore,conc,MapKept.run_getObj_map ho,asInt,asIntOf,hidx,MapKept.run_setObj_map _ ho]
    ·cases hv
   ·cases hv
  ·cases hv
 ·cases hv
theorem e_mapUpdate (hT:TyOK P Ty){t kt et:TypeId}{d dk:TD}(hd:Ty t=some d)(hu:d.u=.map kt et)(hdk:Ty kt=some dk){kk:IntKind}(hki:dk.u=.int kk)
  {m k x:Operand} {m' k' x':Opd} (hm:opd m=some m') (hk:opd k=some k') (hx:opd x=some x') {v:V}
  (hv:e_mup h (m'.ev tm) (k'.ev tm) (x'.ev tm)=some (v,h')):
  EffOk P Ty tm h (fun ρ=>do Instr.mapUpdate t (ρ m) (ρ k) (ρ x);pure .skip) v h':=by
 obtain⟨ti,u,hi⟩:=hT t d hd
 have his:=hi.is;rw[hu] at his
 have:=is_map his;subst this
 obtain⟨ki,ku,hki0⟩:=hT kt dk hdk
 have hks:=hki0.is;rw[hki] at hks
 have hku:=is_int hks
 unfold e_mup at hv
 split at hv
 ·rename_i b hz
  split at hv
  ·rename_i es hb
   split at hv
   ·rename_i es' hput
    simp only[Option.some.injEq,Prod.mk.injEq] at hv
    obtain⟨rfl,rfl⟩:=hv
    refine⟨by rw[H.next_set];exact Nat.le_refl _,fun{φ p w ρ} hρ hR hs _=>?_⟩
    rw[H.next_set,grow_self,H.get_set]
    have hni:∀(v:V) t x,conc φ v≠.iface t x:=by
     intro v t x
     cases v
     case sl b o n c=>cases c<;>simp[conc]
     all_goals simp[conc]
    obtain⟨o,ho,E,clk,rfl,hE,hbn,rfl⟩:=hR.blk b _ hb
    have hck:(Instr.checkKey false 10000 kt (conc φ (k'.ev tm))).run P w=.ok () w:=checkKey_int hT hdk hki _ _ (hni _)
    have hfr:∀a,Instr.findNow (.int kk) (conc φ (k'.ev tm)) E.toList 0=some a→(Instr.findKey kt (conc φ (k'.ev tm)) E.toList).run P w=.ok a w:=
     fun a ha=>MapKept.run_findKey (by rw[hki0.under,hku]) ha
    have hsc':(Blk.map es').sc p:=putK_sc (ev_sc hs hk) (ev_sc hs hx) hput (hR.sc b _ hb).2
    have hlt:φ.blk b<w.heap.size:=(Array.getElem?_eq_some_iff.1 ho).1
    have fin:∀(E':Array MapEntry) (clk':Nat),E'.toList.map (fun e=>(e.key,e.val))=es'.map (fun q=>(conc φ q.1,conc φ q.2))→((∀(i:Nat) (e:MapEntry),E'[i]? =some e→e.born=i)∧clk'=E'.size)→
      Rep Ty φ (upd h.get b (some (.map es'))) p {w with heap:=w.heap.setIfInBounds (φ.blk b) (.map E' clk')}∧
      Ext φ p h.get w φ p (upd h.get b (some (.map es'))) {w with heap:=w.heap.setIfInBounds (φ.blk b) (.map E' clk')}:=by
     intro E' clk' hE' hbn'
     refine rep_put hR hb rfl (o:=.map E' clk') (by simp) (by simp[hlt]) (fun B hB=>?_) ⟨E',clk',rfl,hE',hbn'⟩ hsc'
     simp only[Array.getElem?_setIfInBounds]
     simp[Ne.symm hB]
    rcases putK_sound (φ:=φ) (j:=kk) 0 hput hE with⟨h1,h2⟩|⟨q,a,M,h1,h2,h3,⟨kk',n,h4⟩,h5⟩
    ·have:=fin (E.push {key:=conc φ (k'.ev tm),val:=conc φ (x'.ev tm),born:=E.size}) (E.size+1) (by rw[h2];simp[hE]) (born_push hbn _ rfl)
     refine⟨φ,_,.skip,?_,.inr ⟨rfl,rfl⟩,this.1,this.2,trivial⟩
     dsimp only
     rw[hρ m m' hm,hρ k k' hk,hρ x x' hx,hz]
     simp only[Instr.mapUpdate,Sem.run_bind,hi.r_under,Result.andThen_ok,conc,MapKept.run_getObj_map ho,hck,hfr _ h1,MapKept.run_setObj_map _ ho,Sem.run_pure]
    ·have hmod:=h5 (fun e=>{e with key:=conc φ (k'.ev tm),val:=conc φ (x'.ev tm)}) rfl rfl
     have:=fin (E.modify q fun e=>{e with key:=conc φ (k'.ev tm),val:=conc φ (x'.ev tm)}) E.size (by rw[Array.toList_modify];exact hmod) (born_modify hbn (fun _=>rfl))
     refine⟨φ,_,.skip,?_,.inr ⟨rfl,rfl⟩,this.1,this.2,trivial⟩
     dsimp only
     rw[hρ m m' hm,hρ k k' hk,hρ x x' hx,hz]
     rw[Nat.zero_add] at h1
     have hE2:((E[q]?).map (·.key)).getD (conc φ (k'.ev tm))=conc φ (k'.ev tm):=by
      have:E[q]? =some M:=by rw[←Array.getElem?_toList];exact h2
      simp[this,h3]
     have hsb:Instr.sameBits 10000 (conc φ (k'.ev tm)) (conc φ (k'.ev tm))=true:=by
      rw[h4];simp[Instr.sameBits]
     have hks:(Instr.keyThatStays (((E[q]?).map (·.key)).getD (conc φ (k'.ev tm))) (conc φ (k'.ev tm))).run P w=.ok (conc φ (k'.ev tm)) w:=by
      rw[hE2];simp[Instr.keyThatStays,hsb]
     simp only[Instr.mapUpdate,Sem.run_bind,hi.r_under,Result.andThen_ok,conc,MapKept.run_getObj_map ho,hck,hfr _ h1,hks,MapKept.run_setObj_map _ ho,Sem.run_pure]
   ·cases hv
  ·cases hv
 ·cases hv
theorem sameInts_same:∀{l r:List V},sameInts l r=some true→l=r∧∀v∈l,∃k n,v=.int k n
 |[],[],_=>⟨rfl,by simp⟩
 |.int j a::l,.int k b::r,h=>by
  simp only[sameInts] at h
  split at h
  ·rename_i hk
   split at h
   ·rename_i hi
    obtain⟨h1,h2⟩:=sameInts_same h
    rw[ieq_eq] at hi
    have:=keq_eq.1 hk;subst this
    have:a=b:=by simpa using hi
    subst this
    refine⟨by rw[h1],fun v hv=>?_⟩
    simp only[List.mem_cons] at hv
    rcases hv with rfl|hv
    ·exact⟨_,_,rfl⟩
    ·exact h2 v hv
   ·split at h<;>cases h
  ·cases h
theorem sameBits_ints {φ:Phi}{l:List V}(h:∀v∈l,∃k n,v=.int k n):Instr.sameBits 10000 (conc φ (.agg l)) (conc φ (.agg l))=true:=by
 have key:∀(l:List V),(∀v∈l,∃k n,v=.int k n)→((l.map (conc φ)).zip (l.map (conc φ))).all (fun x=>Instr.sameBits 9999 x.1 x.2)=true:=by
  intro l
  induction l with
  |nil=>intro _;rfl
  |cons v l ih=>
   intro h
   obtain⟨k,n,rfl⟩:=h v (by simp)
   simp only[List.map_cons,List.zip_cons_cons,List.all_cons,conc,Bool.and_eq_true]
   exact⟨by simp[Instr.sameBits],ih fun v hv=>h v (by simp[hv])⟩
 have:=key l h
 show Instr.sameBits (9999+1) _ _=true
 simp only[conc,concs_eq,Instr.sameBits,List.size_toArray,BEq.rfl,Bool.true_and]
 exact this
theorem putS_sound {P:Program}{Ty:Nat→Option TD}{φ:Phi}{w:World}(hT:TyOK P Ty){kt n:Nat}{dk:TD}(hf:flatN Ty 2 kt=some n)(hd:Ty kt=some dk)(ha:dk.u.agg=true){l:List V}(hl:l.length=n){x:V}:∀{es es':List (V × V)} {E:List MapEntry} (i:Nat),putS (.agg l) x es=some es'→E.map (fun e=>(e.key,e.val))=es.map (fun q=>(conc φ q.1,conc φ q.2))→
  ((Instr.findAsking kt (conc φ (.agg l)) E i).run P w=.ok none w∧es'=es++[(.agg l,x)])∨
  (∃q a M,(Instr.findAsking kt (conc φ (.agg l)) E i).run P w=.ok (some (i+q,a)) w∧E[q]? =some M∧M.key=conc φ (.agg l)∧Instr.sameBits 10000 (conc φ (.agg l)) (conc φ (.agg l))=true∧
   ∀f:MapEntry→MapEntry,(f M).key=conc φ (.agg l)→(f M).val=conc φ x→(E.modify q f).map (fun e=>(e.key,e.val))=es'.map (fun q=>(conc φ q.1,conc φ q.2)))
 |[],es',E,i,hk,hE=>by
  simp only[putS,Option.some.injEq] at hk
  subst hk
  have:E=[]:=by simpa using hE
  subst this
  exact .inl ⟨by simp[Instr.findAsking],rfl⟩
 |e::es,es',E,i,hk,hE=>by
  cases E with
  |nil=>simp at hE
  |cons M E=>
   simp only[List.map_cons,List.cons.injEq,Prod.mk.injEq] at hE
   obtain⟨⟨m1,m2⟩,hE⟩:=hE
   simp only[putS] at hk
   cases e1:e.1 with
   |agg r'=>
    rw[e1] at hk
    simp only[keyS] at hk
    cases hs:sameInts l r' with
    |none=>simp[hs] at hk
    |some b=>
     have he:=equal_flat (P:=P) (φ:=φ) (w:=w) hT 2 9998 hf hd hs hl
     simp only[ha,if_true] at he
     have hq:(Op.equal kt (conc φ (.agg l)) M.key).run P w=.ok b w:=by
      rw[m1,e1];simp only[conc,concs_eq];exact he
     cases b with
     |true=>
      simp only[hs,Option.some.injEq] at hk
      subst hk
      obtain⟨hlr,hin⟩:=sameInts_same hs
      refine .inr ⟨0,M.val,M,by simp only[Instr.findAsking,Sem.run_bind,hq,Result.andThen_ok,if_true,Sem.run_pure,Nat.add_zero],rfl,by rw[m1,e1,hlr],sameBits_ints hin,fun f f1 f2=>?_⟩
      simp[f1,f2,hE]
     |false=>
      simp only[hs] at hk
      cases hput:putS (.agg l) x es with
      |none=>simp[hput] at hk
      |some r=>
       simp only[hput,Option.some.injEq] at hk
       subst hk
       rcases putS_sound hT hf hd ha hl (i+1) hput hE with⟨h1,h2⟩|⟨q,b,M',h1,h2,h3,h4,h5⟩
       ·exact .inl ⟨by simpa[Instr.findAsking,hq] using h1,by simp[h2]⟩
       ·refine .inr ⟨q+1,b,M',?_,by simpa using h2,h3,h4,fun f f1 f2=>?_⟩
        ·have:i+(q+1)=i+1+q:=by omega
         rw[this]
         simpa[Instr.findAsking,hq] using h1
        ·simp[h5 f f1 f2,m1,m2]
   |_=>rw[e1] at hk;simp[keyS] at hk
theorem putS_sc {q:Nat→Prop}{k x:V}(hk:k.sc q)(hx:x.sc q):∀{es es':List (V × V)},putS k x es=some es'→(∀e∈es,e.1.sc q∧e.2.sc q)→∀e∈es',e.1.sc q∧e.2.sc q
 |[],es',h,_=>by
  simp only[putS,Option.some.injEq] at h;subst h
  intro e he;simp at he;subst he;exact⟨hk,hx⟩
 |e::es,es',h,hs=>by
  simp only[putS] at h
  split at h
  ·cases h
   intro e' he
   simp only[List.mem_cons] at he
   rcases he with rfl|he
   ·exact⟨hk,hx⟩
   ·exact hs e' (by simp[he])
  ·split at h
   ·cases h
   ·rename_i r hr
    cases h
    have ih:=putS_sc hk hx hr fun e' he=>hs e' (by simp[he])
    intro e' he
    simp only[List.mem_cons] at he
    rcases he with rfl|he
    ·exact hs e' (by simp)
    ·exact ih e' he
  ·cases h
theorem e_mapUpdS (hT:TyOK P Ty){t kt et:TypeId}{d dk:TD}(hd:Ty t=some d)(hu:d.u=.map kt et)(hdk:Ty kt=some dk){fs:List (Nat × Nat)}(hki:dk.u=.struct fs)(hI:fs.all (fun f=>intT Ty f.2)=true){n:Nat}(hfl:flatN Ty 2 kt=some n)
  {m k x:Operand} {m' k' x':Opd} (hm:opd m=some m') (hk:opd k=some k') (hx:opd x=some x') {v:V}
  (hv:e_mus h n (m'.ev tm) (k'.ev tm) (x'.ev tm)=some (v,h')):
  EffOk P Ty tm h (fun ρ=>do Instr.mapUpdate t (ρ m) (ρ k) (ρ x);pure .skip) v h':=by
 obtain⟨ti,u,hi⟩:=hT t d hd
 have his:=hi.is;rw[hu] at his
 have:=is_map his;subst this
 obtain⟨ki,ku,hki0⟩:=hT kt dk hdk
 have hks:=hki0.is;rw[hki] at hks
 obtain⟨gs,hku,_⟩:=is_struct hks
 unfold e_mus at hv
 simp only[og_eq] at hv
 obtain⟨hok,hv⟩:=hv
 obtain⟨kl,hkl,hln⟩:∃kl,k'.ev tm=.agg kl∧kl.length=n:=by
  unfold okS at hok
  split at hok
  ·rename_i l hl;exact⟨l,hl,by rw[←lenN_eq];exact Nat.eq_of_beq_eq_true hok⟩
  ·cases hok
 split at hv
 ·rename_i b hz
  split at hv
  ·rename_i es hb
   split at hv
   ·rename_i es' hput
    simp only[Option.some.injEq,Prod.mk.injEq] at hv
    obtain⟨rfl,rfl⟩:=hv
    refine⟨by rw[H.next_set];exact Nat.le_refl _,fun{φ p w ρ} hρ hR hs _=>?_⟩
    rw[H.next_set,grow_self,H.get_set]
    obtain⟨o,ho,E,clk,rfl,hE,hbn,rfl⟩:=hR.blk b _ hb
    have hck:(Instr.checkKey false 10000 kt (conc φ (k'.ev tm))).run P w=.ok () w:=by rw[hkl];exact checkKey_flat hT hfl hdk hki hI hln _
    have hfr:∀a,(Instr.findAsking kt (conc φ (k'.ev tm)) E.toList 0).run P w=.ok a w→(Instr.findKey kt (conc φ (k'.ev tm)) E.toList).run P w=.ok a w:=
     fun a ha=>by rw[findKey_struct (by rw[hki0.under,hku])];exact ha
    have hsc':(Blk.map es').sc p:=putS_sc (ev_sc hs hk) (ev_sc hs hx) hput (hR.sc b _ hb).2
    have hlt:φ.blk b<w.heap.size:=(Array.getElem?_eq_some_iff.1 ho).1
    have fin:∀(E':Array MapEntry) (clk':Nat),E'.toList.map (fun e=>(e.key,e.val))=es'.map (fun q=>(conc φ q.1,conc φ q.2))→((∀(i:Nat) (e:MapEntry),E'[i]? =some e→e.born=i)∧clk'=E'.size)→
      Rep Ty φ (upd h.get b (some (.map es'))) p {w with heap:=w.heap.setIfInBounds (φ.blk b) (.map E' clk')}∧
      Ext φ p h.get w φ p (upd h.get b (some (.map es'))) {w with heap:=w.heap.setIfInBounds (φ.blk b) (.map E' clk')}:=by
     intro E' clk' hE' hbn'
     refine rep_put hR hb rfl (o:=.map E' clk') (by simp) (by simp[hlt]) (fun B hB=>?_) ⟨E',clk',rfl,hE',hbn'⟩ hsc'
     simp only[Array.getElem?_setIfInBounds]
     simp[Ne.symm hB]
    rw[hkl] at hput
    have hps:=putS_sound (P:=P) (φ:=φ) (w:=w) hT hfl hdk (by rw[hki];rfl) hln 0 hput hE
    rw[←hkl] at hps
    rcases hps with⟨h1,h2⟩|⟨q,a,M,h1,h2,h3,h4,h5⟩
    ·have:=fin (E.push {key:=conc φ (k'.ev tm),val:=conc φ (x'.ev tm),born:=E.size}) (E.size+1) (by rw[h2];simp[hE]) (born_push hbn _ rfl)
     refine⟨φ,_,.skip,?_,.inr ⟨rfl,rfl⟩,this.1,this.2,trivial⟩
     dsimp only
     rw[hρ m m' hm,hρ k k' hk,hρ x x' hx,hz]
     simp only[Instr.mapUpdate,Sem.run_bind,hi.r_under,Result.andThen_ok,conc,MapKept.run_getObj_map ho,hck,hfr _ h1,MapKept.run_setObj_map _ ho,Sem.run_pure]
    ·have hmod:=h5 (fun e=>{e with key:=conc φ (k'.ev tm),val:=conc φ (x'.ev tm)}) rfl rfl
     have:=fin (E.modify q fun e=>{e with key:=conc φ (k'.ev tm),val:=conc φ (x'.ev tm)}) E.size (by rw[Array.toList_modify];exact hmod) (born_modify hbn (fun _=>rfl))
     refine⟨φ,_,.skip,?_,.inr ⟨rfl,rfl⟩,this.1,this.2,trivial⟩
     dsimp only
     rw[hρ m m' hm,hρ k k' hk,hρ x x' hx,hz]
     rw[Nat.zero_add] at h1
     have hE2:((E[q]?).map (·.key)).getD (conc φ (k'.ev tm))=conc φ (k'.ev tm):=by
      have:E[q]? =some M:=by rw[←Array.getElem?_toList];exact h2
      simp[this,h3]
     have hsb:Instr.sameBits 10000 (conc φ (k'.ev tm)) (conc φ (k'.ev tm))=true:=by
      exact h4
     have hks:(Instr.keyThatStays (((E[q]?).map (·.key)).getD (conc φ (k'.ev tm))) (conc φ (k'.ev tm))).run P w=.ok (conc φ (k'.ev tm)) w:=by
      rw[hE2];simp[Instr.keyThatStays,hsb]
     simp only[Instr.mapUpdate,Sem.run_bind,hi.r_under,Result.andThen_ok,conc,MapKept.run_getObj_map ho,hck,hfr _ h1,hks,MapKept.run_setObj_map _ ho,Sem.run_pure]
   ·cases hv
  ·cases hv
 ·cases hv
theorem EffOk.of_eq {s s':(Operand→Value)→Sem Next}{v:V}(hs:EffOk P Ty tm h s v h')(he:∀ρ w,(s' ρ).run P w=(s ρ).run P w):EffOk P Ty tm h s' v h':=
 ⟨hs.1,fun{φ p w ρ} a b c d=>by rw[he];exact hs.2 a b c d⟩
theorem e_sound (hT:TyOK P Ty){o:Oper}{i:I}(hc:compOp Ty o.op=some i)(hk:i.kind=2){v:V}(hv:evE tm h i=some (v,h')):
  EffOk P Ty tm h (fun ρ=>execOp ρ o) v h':=by
 obtain⟨dst,op,type,pos,after,guard⟩:=o
 cases op
 case store t a x=>
  simp only[compOp] at hc
  split at hc
  ·rename_i d a' x' hd ha hx
   split at hc
   ·cases hc
   ·rename_i k h0
    cases hc
    exact(e_store hT hd ha hx hv).of_eq fun ρ w=>by rfl
  ·cases hc
 case mapUpdate t m i x=>
  simp only[compOp] at hc
  split at hc
  ·rename_i d m' i' x' hd hm hi hx
   split at hc
   ·rename_i kt et hu
    split at hc
    ·rename_i dk hdk
     split at hc
     ·rename_i kk hki
      cases hc
      exact(e_mapUpdate hT hd hu hdk hki hm hi hx hv).of_eq fun ρ w=>by rfl
     ·rename_i fs hki
      split at hc
      ·rename_i n hI hfl
       cases hc
       exact(e_mapUpdS hT hd hu hdk hki hI hfl hm hi hx hv).of_eq fun ρ w=>by rfl
      ·cases hc
     ·cases hc
    ·cases hc
   ·cases hc
  ·cases hc
 case insert t m i x=>
  simp only[compOp] at hc
  split at hc
  ·rename_i d m' i' x' hd hm hi hx
   split at hc
   ·rename_i kt et hu
    split at hc
    ·rename_i dk hdk
     split at hc
     ·rename_i kk hki
      cases hc
      exact(e_mapUpdate hT hd hu hdk hki hm hi hx hv).of_eq fun ρ w=>by rfl
     ·rename_i fs hki
      split at hc
      ·rename_i n hI hfl
       cases hc
       exact(e_mapUpdS hT hd hu hdk hki hI hfl hm hi hx hv).of_eq fun ρ w=>by rfl
      ·cases hc
     ·cases hc
    ·cases hc
   ·cases hc
  ·cases hc
 case mapEntry t m i=>
  simp only[compOp] at hc
  split at hc
  ·rename_i d m' i' hd hm hi
   split at hc
   ·rename_i kt et hu
    split at hc
    ·rename_i dk de hdk hde
     split at hc
     ·rename_i z hz
      split at hc
      ·rename_i kk hki
       cases hc
       exact(e_mapEntry hT hd hu hdk hde hki hz hm hi hv).of_eq fun ρ w=>by rfl
      ·cases hc
     ·cases hc
    ·cases hc
   ·cases hc
  ·cases hc
 case entryStore t m s x=>
  simp only[compOp] at hc
  split at hc
  ·rename_i m' s' x' hm hs hx
   cases hc
   exact(e_entryStore hm hs hx hv).of_eq fun ρ w=>by rfl
  ·cases hc
 case call c=>
  obtain⟨callee,args,ts⟩:=c
  simp only[compOp] at hc
  cases callee
  case builtin b=>
   simp only at hc
   unfold compCall at hc
   split at hc
   ·rename_i x y t t' hx hts
    have ha:args= #[x,y]:=Array.toList_inj.1 hx
    have ht:ts= #[t,t']:=Array.toList_inj.1 hts
    subst ha ht
    split at hc
    ·rename_i d d' x' y' hd hd' hx' hy'
     split at hc
     ·rename_i e e' hu hu'
      split at hc
      ·rename_i de hde hee
       have:=Nat.eq_of_beq_eq_true hee;subst this
       split at hc
       ·cases hc
       ·rename_i k0 h0
        split at hc
        ·cases hc
         exact(e_append hT hd hd' hu hu' hde (by omega) hx' hy' type hv).of_eq fun ρ w=>by simp only[execOp,resolve,invoke,builtin,Sem.run_bind,Sem.run_pure,Result.andThen_ok,List.map_toArray,List.map_cons,List.map_nil]
        ·cases hc
      ·cases hc
     ·cases hc
    ·cases hc
   ·exfalso
    repeat' (split at hc)
    all_goals first
     |(cases hc;done)
     |(simp only[Option.some.injEq] at hc;subst hc;simp[I.kind] at hk)
   ·exfalso
    repeat' (split at hc)
    all_goals first
     |(cases hc;done)
     |(simp only[Option.some.injEq] at hc;subst hc;simp[I.kind] at hk)
   ·exfalso
    repeat' (split at hc)
    all_goals first
     |(cases hc;done)
     |(simp only[Option.some.injEq] at hc;subst hc;simp[I.kind] at hk)
   ·rename_i x y t t' hx hts
    have ha:args= #[x,y]:=Array.toList_inj.1 hx
    have ht:ts= #[t,t']:=Array.toList_inj.1 hts
    subst ha ht
    split at hc
    ·rename_i d d' x' y' hd hd' hx' hy'
     split at hc
     ·rename_i e e' hu hu'
      split at hc
      ·rename_i de hde hee
       split at hc
       ·cases hc
       ·rename_i k0 h0
        cases hc
        exact(e_copy (t':=t') hT hd hu hde (by omega) hx' hy' type hv).of_eq fun ρ w=>by simp only[execOp,resolve,invoke,builtin,Sem.run_bind,Sem.run_pure,Result.andThen_ok,List.map_toArray,List.map_cons,List.map_nil]
      ·cases hc
     ·cases hc
    ·cases hc
   ·rename_i x t hx hts
    have ha:args= #[x]:=Array.toList_inj.1 hx
    have ht:ts= #[t]:=Array.toList_inj.1 hts
    subst ha ht
    split at hc
    ·rename_i d x' hd hx'
     split at hc
     ·rename_i e hu
      split at hc
      ·rename_i de hde
       split at hc
       ·cases hc
       ·rename_i k0 h0
        cases hc
        exact(e_clear hT hd hu hde (by omega) hx' type hv).of_eq fun ρ w=>by simp only[execOp,resolve,invoke,builtin,Sem.run_bind,Sem.run_pure,Result.andThen_ok,List.map_toArray,List.map_cons,List.map_nil]
      ·cases hc
     ·cases hc
    ·cases hc
   ·cases hc
  case value f=>
   simp only at hc
   split at hc
   ·cases hc;simp[I.kind] at hk
   ·cases hc
  case invoke=>simp at hc
 case makeFunc fn a b=>
  cases fn<;>simp only[compOp] at hc
  case func f=>
   split at hc
   ·cases hc;simp[I.kind] at hk
   ·cases hc
  all_goals cases hc
 case makeMap t r=>
  cases r<;>simp[compOp] at hc
  subst hc;simp[I.kind] at hk
 all_goals
  first
   |(simp[compOp] at hc;done)
   |(exfalso;simp only[compOp] at hc
     repeat' (split at hc)
     all_goals first
      |(cases hc;done)
      |(simp only[Option.some.injEq] at hc;subst hc;simp[I.kind] at hk))
end
end Go.Ab
