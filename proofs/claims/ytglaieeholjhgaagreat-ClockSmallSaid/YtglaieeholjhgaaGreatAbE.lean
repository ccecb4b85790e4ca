import Derived.Test.YtglaieeholjhgaaGreatAbD
set_option linter.unusedSimpArgs false
set_option linter.unusedVariables false
namespace Go.Ab
section
variable {P:Program} {Ty:Nat→Option TD} {φ:Phi} {p:Nat→Prop} {w:World} {h h':H} {tm:T V} {ρ:Operand→Value}
theorem put_next {b o:Nat}{vs:List V}(hp:h.put b o vs=some h'):h'.next=h.next:=by
 unfold H.put at hp
 split at hp
 ·cases hp;rfl
 ·split at hp
  ·split at hp
   all_goals first
    |(unfold Ue at hp;split at hp
      ·cases hp;exact H.next_set _ _ _
      ·cases hp)
    |cases hp
  ·cases hp
theorem take_sc {q:Nat→Prop}{l:List V}(h:scL q l)(n:Nat):scL q (l.take n):=ZH.2 fun v hv=>ZH.1 h v (List.mem_of_mem_take hv)
theorem e_copy (hT:Yg P Ty){t t' e:TypeId}{d de:TD}(hd:Ty t=some d)(hu:d.u=.slice e)(hde:Ty e=some de)(h0:0<de.size)
  {x y:Operand} {x' y':Opd} (hx:opd x=some x') (hy:opd y=some y') (ty:TypeId) {v:V}
  (hv:e_cpy h de.size (x'.ev tm) (y'.ev tm)=some (v,h')):
  EffOk P Ty tm h (fun ρ=>do pure (Next.value (←Builtin.copy_ #[t,t'] ty #[ρ x,ρ y]))) v h':=by
 obtain⟨ti,u,hi⟩:=hT t d hd
 have his:=hi.is;rw[hu] at his
 have:=Xp his;subst this
 obtain⟨ei,eu,hei⟩:=hT e de hde
 unfold e_cpy at hv
 cases hn:lenV (x'.ev tm) with
 |none=>simp[hn] at hv
 |some n=>
  cases hk:lenV (y'.ev tm) with
  |none=>simp[hn,hk] at hv
  |some k=>
   cases hel:elems h de.size (y'.ev tm) with
   |none=>simp[hn,hk,hel] at hv
   |some src=>
    simp only[hn,hk,hel] at hv
    have key:∀j,j=Nat.min k n→cpyTo h (x'.ev tm) j (takeN (j*de.size) src)=some (v,h')→EffOk P Ty tm h (fun ρ=>do pure (Next.value (←Builtin.copy_ #[t,t'] ty #[ρ x,ρ y]))) v h':=by
     intro j hj hq
     unfold cpyTo at hq
     cases htk:takeN (j*de.size) src with
     |none=>simp[htk] at hq
     |some vs=>
      simp only[htk] at hq
      obtain⟨rfl,hle⟩:=takeN_eq.1 htk
      have hjk:j≤k:=by rw[hj];exact Nat.min_le_left _ _
      split at hq
      ·rename_i hz
       simp only[Option.some.injEq,Prod.mk.injEq] at hq
       obtain⟨rfl,rfl⟩:=hq
       refine⟨Nat.le_refl _,fun{φ p w ρ} hρ hR hs _=>?_⟩
       rw[ZK]
       obtain⟨xb,xc,e1,e2,e3,e4⟩:=Vr P hR hel hk
       have hf:=Wh (P:=P) (m:=j) (c:=xc) e2 e4 hjk w rfl
       have hn0:n=0:=by rw[hz] at hn;simpa[lenV] using hn.symm
       refine⟨φ,w,_,?_,.inl rfl,hR,Ext.refl _ _ _ _,trivial⟩
       dsimp only
       rw[hρ x x' hx,hρ y y' hy,hz,e1]
       have hj0:j=0:=by rw[hj,hn0];exact Nat.min_zero _
       subst hj0
       simp only[Zf]
       simp[Builtin.copy_,hi.r_under,Builtin.lenOf,hei.r_size]
       simp at hf
       simp[hf,goInt]
      ·rename_i b o n' c hz
       unfold Xl at hq
       split at hq
       ·rename_i h1 hp
        simp only[Option.some.injEq,Prod.mk.injEq] at hq
        obtain⟨rfl,rfl⟩:=hq
        have hnx:=put_next hp
        refine⟨by omega,fun{φ p w ρ} hρ hR hs _=>?_⟩
        rw[hnx,ZK]
        obtain⟨xb,xc,e1,e2,e3,e4⟩:=Vr P hR hel hk
        have hf:=Wh (P:=P) (m:=j) (c:=xc) e2 e4 hjk w rfl
        have hnn:n'=n:=by rw[hz] at hn;simpa[lenV] using hn
        subst hnn
        obtain⟨_,_,w',r1,r2,r3⟩:=VL (P:=P) hR hp (take_sc e3 _)
        have hst:∃a c',Zf φ (.sl b o n' c)=.slice (some a) n' c'∧(storeCells a ((src.take (j*de.size)).map (Zf φ))).run P w=.ok () w':=by
         cases c with
         |fix c=>exact⟨_,_,rfl,r1⟩
         |slk a q=>
          by_cases hn0:n'=0
          ·have hj0:j=0:=by rw[hj,hn0];exact Nat.min_zero _
           subst hj0
           refine⟨_,_,rfl,?_⟩
           simp[storeCells] at r1⊢
           exact r1
          ·refine⟨φ.at b o,φ.cap b-a,by simp[Zf,hn0],r1⟩
        obtain⟨a,c',s1,s2⟩:=hst
        refine⟨φ,w',_,?_,.inl rfl,r2,r3,trivial⟩
        dsimp only
        rw[hρ x x' hx,hρ y y' hy,hz,e1,s1]
        have hm:Nat.min k n'=j:=hj.symm
        simp[Builtin.copy_,hi.r_under,Builtin.lenOf,hei.r_size,hm,hf]
        rw[←List.map_take,s2]
        simp[Zf,goInt]
       ·cases hq
      ·cases hq
    cases hb:Nat.ble k n with
    |true=>
     simp only[hb] at hv
     exact key k (by have:=Nat.le_of_ble_eq_true hb;exact(Nat.min_eq_left this).symm) hv
    |false=>
     simp only[hb] at hv
     have:¬k≤n:=fun hle=>by rw[Nat.ble_eq_true_of_le hle] at hb;cases hb
     exact key n (by exact(Nat.min_eq_right (by omega)).symm) hv
theorem e_clear (hT:Yg P Ty){t e:TypeId}{d de:TD}(hd:Ty t=some d)(hu:d.u=.slice e)(hde:Ty e=some de)(h0:0<de.size)
  {x:Operand} {x':Opd} (hx:opd x=some x') (ty:TypeId) {v:V}
  (hv:e_clr h de.z (x'.ev tm)=some (v,h')):
  EffOk P Ty tm h (fun ρ=>do pure (Next.value (←Builtin.clear_ #[t] ty #[ρ x]))) v h':=by
 obtain⟨ti,u,hi⟩:=hT t d hd
 have his:=hi.is;rw[hu] at his
 have:=Xp his;subst this
 obtain⟨ei,eu,hei⟩:=hT e de hde
 unfold e_clr at hv
 split at hv
 ·rename_i hz
  simp only[Option.some.injEq,Prod.mk.injEq] at hv
  obtain⟨rfl,rfl⟩:=hv
  refine⟨Nat.le_refl _,fun{φ p w ρ} hρ hR hs _=>?_⟩
  rw[ZK]
  refine⟨φ,w,_,?_,.inl rfl,hR,Ext.refl _ _ _ _,trivial⟩
  dsimp only
  rw[hρ x x' hx,hz]
  simp[Builtin.clear_,hi.r_under,Zf,Yj]
 ·rename_i b o n c hz
  unfold Xl at hv
  split at hv
  ·rename_i h1 hp
   simp only[Option.some.injEq,Prod.mk.injEq] at hv
   obtain⟨rfl,rfl⟩:=hv
   have hnx:=put_next hp
   refine⟨by omega,fun{φ p w ρ} hρ hR hs _=>?_⟩
   rw[hnx,ZK]
   obtain⟨_,r0,w',r1,r2,r3⟩:=VL (P:=P) hR hp (repN_sc (sc_false hei.sc) n)
   have hzsz:(zeroOf de).cells.size=de.size:=by rw[Xb hei φ];simp[hei.len]
   have hrow:(Builtin.zeroCells (zeroOf de).cells n)=((YB n de.z).map (Zf φ)).toArray:=by
    unfold Builtin.zeroCells
    exact repN_row hei φ n _ (by rw[hzsz]) h0
   by_cases hn0:n=0
   ·subst hn0
    have:=r0 rfl;subst this
    refine⟨φ,w,_,?_,.inl rfl,hR,Ext.refl _ _ _ _,trivial⟩
    dsimp only
    rw[hρ x x' hx,hz]
    cases c<;>simp[Builtin.clear_,hi.r_under,Zf,Yj]
   ·have hst:∃a c',Zf φ (.sl b o n c)=.slice (some a) n c'∧(storeCells a ((YB n de.z).map (Zf φ))).run P w=.ok () w':=by
     cases c with
     |fix c=>exact⟨_,_,rfl,r1⟩
     |slk a q=>exact⟨φ.at b o,φ.cap b-a,by simp[Zf,hn0],r1⟩
    obtain⟨a,c',s1,s2⟩:=hst
    refine⟨φ,w',_,?_,.inl rfl,r2,r3,trivial⟩
    dsimp only
    rw[hρ x x' hx,hz,s1]
    simp[Builtin.clear_,hi.r_under,hn0,hei.r_zero,hrow,s2,Zf,Yj]
  ·cases hv
 ·cases hv
theorem born_push {E:Array MapEntry}(h:∀(i:Nat) (e:MapEntry),E[i]? =some e→e.born=i)(e0:MapEntry)(he:e0.born=E.size):(∀(i:Nat) (e:MapEntry),(E.push e0)[i]? =some e→e.born=i)∧E.size+1=(E.push e0).size:=by
 refine⟨fun i e hi=>?_,by simp⟩
 rw[Array.getElem?_push] at hi
 split at hi
 ·rename_i e1;cases hi;rw[he,e1]
 ·exact h i e hi
theorem born_modify {E:Array MapEntry}(h:∀(i:Nat) (e:MapEntry),E[i]? =some e→e.born=i){q:Nat}{f:MapEntry→MapEntry}(hf:∀e,(f e).born=e.born):(∀(i:Nat) (e:MapEntry),(E.modify q f)[i]? =some e→e.born=i)∧E.size=(E.modify q f).size:=by
 refine⟨fun i e hi=>?_,by simp⟩
 rw[←Array.getElem?_toList,Array.toList_modify,List.getElem?_modify] at hi
 cases ho:E[i]? with
 |none=>rw[Array.getElem?_toList,ho] at hi;simp at hi
 |some m=>
  rw[Array.getElem?_toList,ho] at hi
  simp only[Option.map_eq_map,Option.map_some,Option.some.injEq] at hi
  rw[←hi]
  split
  ·rw[hf];exact h i m ho
  ·exact h i m ho
theorem sameInts_same:∀{l r:List V},Zv l r=some true→l=r∧∀v∈l,∃k n,v=.int k n
 |[],[],_=>⟨rfl,by simp⟩
 |.int j a::l,.int k b::r,h=>by
  simp only[Zv] at h
  split at h
  ·rename_i hk
   split at h
   ·rename_i hi
    obtain⟨h1,h2⟩:=sameInts_same h
    rw[Xk] at hi
    have:=Vy.1 hk;subst this
    have:a=b:=by simpa using hi
    subst this
    refine⟨by rw[h1],fun v hv=>?_⟩
    simp only[List.mem_cons] at hv
    rcases hv with rfl|hv
    ·exact⟨_,_,rfl⟩
    ·exact h2 v hv
   ·split at h<;>cases h
  ·cases h
theorem sameBits_ints {φ:Phi}{l:List V}(h:∀v∈l,∃k n,v=.int k n):Instr.sameBits 10000 (Zf φ (.agg l)) (Zf φ (.agg l))=true:=by
 have key:∀(l:List V),(∀v∈l,∃k n,v=.int k n)→((l.map (Zf φ)).zip (l.map (Zf φ))).all (fun x=>Instr.sameBits 9999 x.1 x.2)=true:=by
  intro l
  induction l with
  |nil=>intro _;rfl
  |cons v l ih=>
   intro h
   obtain⟨k,n,rfl⟩:=h v (by simp)
   simp only[List.map_cons,List.zip_cons_cons,List.all_cons,Zf,Bool.and_eq_true]
   exact⟨by simp[Instr.sameBits],ih fun v hv=>h v (by simp[hv])⟩
 have:=key l h
 show Instr.sameBits (9999+1) _ _=true
 simp only[Zf,ZS,Instr.sameBits,List.size_toArray,BEq.rfl,Bool.true_and]
 exact this
theorem putS_sound {P:Program}{Ty:Nat→Option TD}{φ:Phi}{w:World}(hT:Yg P Ty){kt n:Nat}{dk:TD}(hf:ZL Ty 2 kt=some n)(hd:Ty kt=some dk)(ha:dk.u.agg=true){l:List V}(hl:l.length=n){x:V}:∀{es es':List (V × V)} {E:List MapEntry} (i:Nat),putS (.agg l) x es=some es'→E.map (fun e=>(e.key,e.val))=es.map (fun q=>(Zf φ q.1,Zf φ q.2))→
  ((Instr.findAsking kt (Zf φ (.agg l)) E i).run P w=.ok none w∧es'=es++[(.agg l,x)])∨
  (∃q a M,(Instr.findAsking kt (Zf φ (.agg l)) E i).run P w=.ok (some (i+q,a)) w∧E[q]? =some M∧M.key=Zf φ (.agg l)∧Instr.sameBits 10000 (Zf φ (.agg l)) (Zf φ (.agg l))=true∧
   ∀f:MapEntry→MapEntry,(f M).key=Zf φ (.agg l)→(f M).val=Zf φ x→(E.modify q f).map (fun e=>(e.key,e.val))=es'.map (fun q=>(Zf φ q.1,Zf φ q.2)))
 |[],es',E,i,hk,hE=>by
  simp only[putS,Option.some.injEq] at hk
  subst hk
  have:E=[]:=by simpa using hE
  subst this
  exact .inl ⟨by simp[Instr.findAsking],rfl⟩
 |e::es,es',E,i,hk,hE=>by
  cases E with
  |nil=>simp at hE
  |cons M E=>
   simp only[List.map_cons,List.cons.injEq,Prod.mk.injEq] at hE
   obtain⟨⟨m1,m2⟩,hE⟩:=hE
   simp only[putS] at hk
   cases e1:e.1 with
   |agg r'=>
    rw[e1] at hk
    simp only[keyS] at hk
    cases hs:Zv l r' with
    |none=>simp[hs] at hk
    |some b=>
     have he:=W4 (P:=P) (φ:=φ) (w:=w) hT 2 9998 hf hd hs hl
     simp only[ha,if_true] at he
     have hq:(Op.equal kt (Zf φ (.agg l)) M.key).run P w=.ok b w:=by
      rw[m1,e1];simp only[Zf,ZS];exact he
     cases b with
     |true=>
      simp only[hs,Option.some.injEq] at hk
      subst hk
      obtain⟨hlr,hin⟩:=sameInts_same hs
      refine .inr ⟨0,M.val,M,by simp only[Instr.findAsking,Sem.run_bind,hq,Result.andThen_ok,if_true,Sem.run_pure,Nat.add_zero],rfl,by rw[m1,e1,hlr],sameBits_ints hin,fun f f1 f2=>?_⟩
      simp[f1,f2,hE]
     |false=>
      simp only[hs] at hk
      cases hput:putS (.agg l) x es with
      |none=>simp[hput] at hk
      |some r=>
       simp only[hput,Option.some.injEq] at hk
       subst hk
       rcases putS_sound hT hf hd ha hl (i+1) hput hE with⟨h1,h2⟩|⟨q,b,M',h1,h2,h3,h4,h5⟩
       ·exact .inl ⟨by simpa[Instr.findAsking,hq] using h1,by simp[h2]⟩
       ·refine .inr ⟨q+1,b,M',?_,by simpa using h2,h3,h4,fun f f1 f2=>?_⟩
        ·have:i+(q+1)=i+1+q:=by omega
         rw[this]
         simpa[Instr.findAsking,hq] using h1
        ·simp[h5 f f1 f2,m1,m2]
   |_=>rw[e1] at hk;simp[keyS] at hk
theorem putS_sc {q:Nat→Prop}{k x:V}(hk:k.sc q)(hx:x.sc q):∀{es es':List (V × V)},putS k x es=some es'→(∀e∈es,e.1.sc q∧e.2.sc q)→∀e∈es',e.1.sc q∧e.2.sc q
 |[],es',h,_=>by
  simp only[putS,Option.some.injEq] at h;subst h
  intro e he;simp at he;subst he;exact⟨hk,hx⟩
 |e::es,es',h,hs=>by
  simp only[putS] at h
  split at h
  ·cases h
   intro e' he
   simp only[List.mem_cons] at he
   rcases he with rfl|he
   ·exact⟨hk,hx⟩
   ·exact hs e' (by simp[he])
  ·split at h
   ·cases h
   ·rename_i r hr
    cases h
    have ih:=putS_sc hk hx hr fun e' he=>hs e' (by simp[he])
    intro e' he
    simp only[List.mem_cons] at he
    rcases he with rfl|he
    ·exact hs e' (by simp)
    ·exact ih e' he
  ·cases h
theorem e_mapUpdS (hT:Yg P Ty){t kt et:TypeId}{d dk:TD}(hd:Ty t=some d)(hu:d.u=.map kt et)(hdk:Ty kt=some dk){fs:List (Nat × Nat)}(hki:dk.u=.struct fs)(hI:fs.all (fun f=>intT Ty f.2)=true){n:Nat}(hfl:ZL Ty 2 kt=some n)
  {m k x:Operand} {m' k' x':Opd} (hm:opd m=some m') (hk:opd k=some k') (hx:opd x=some x') {v:V}
  (hv:e_mus h n (m'.ev tm) (k'.ev tm) (x'.ev tm)=some (v,h')):
  EffOk P Ty tm h (fun ρ=>do Instr.mapUpdate t (ρ m) (ρ k) (ρ x);pure .skip) v h':=by
 obtain⟨ti,u,hi⟩:=hT t d hd
 have his:=hi.is;rw[hu] at his
 have:=is_map his;subst this
 obtain⟨ki,ku,hki0⟩:=hT kt dk hdk
 have hks:=hki0.is;rw[hki] at hks
 obtain⟨gs,hku,_⟩:=X4 hks
 unfold e_mus at hv
 simp only[YZ] at hv
 obtain⟨hok,hv⟩:=hv
 obtain⟨kl,hkl,hln⟩:∃kl,k'.ev tm=.agg kl∧kl.length=n:=by
  unfold okS at hok
  split at hok
  ·rename_i l hl;exact⟨l,hl,by rw[←Z7];exact Nat.eq_of_beq_eq_true hok⟩
  ·cases hok
 split at hv
 ·rename_i b hz
  split at hv
  ·rename_i es hb
   split at hv
   ·rename_i es' hput
    simp only[Option.some.injEq,Prod.mk.injEq] at hv
    obtain⟨rfl,rfl⟩:=hv
    refine⟨by rw[H.next_set];exact Nat.le_refl _,fun{φ p w ρ} hρ hR hs _=>?_⟩
    rw[H.next_set,ZK,H.get_set]
    obtain⟨o,ho,E,clk,rfl,hE,hbn,rfl⟩:=hR.blk b _ hb
    have hck:(Instr.checkKey false 10000 kt (Zf φ (k'.ev tm))).run P w=.ok () w:=by rw[hkl];exact checkKey_flat hT hfl hdk hki hI hln _
    have hfr:∀a,(Instr.findAsking kt (Zf φ (k'.ev tm)) E.toList 0).run P w=.ok a w→(Instr.findKey kt (Zf φ (k'.ev tm)) E.toList).run P w=.ok a w:=
     fun a ha=>by rw[findKey_struct (by rw[hki0.under,hku])];exact ha
    have hsc':(Blk.map es').sc p:=putS_sc (Y7 hs hk) (Y7 hs hx) hput (hR.sc b _ hb).2
    have hlt:φ.blk b<w.heap.size:=(Array.getElem?_eq_some_iff.1 ho).1
    have fin:∀(E':Array MapEntry) (clk':Nat),E'.toList.map (fun e=>(e.key,e.val))=es'.map (fun q=>(Zf φ q.1,Zf φ q.2))→((∀(i:Nat) (e:MapEntry),E'[i]? =some e→e.born=i)∧clk'=E'.size)→
      Rep Ty φ (upd h.get b (some (.map es'))) p {w with heap:=w.heap.setIfInBounds (φ.blk b) (.map E' clk')}∧
      Ext φ p h.get w φ p (upd h.get b (some (.map es'))) {w with heap:=w.heap.setIfInBounds (φ.blk b) (.map E' clk')}:=by
     intro E' clk' hE' hbn'
     refine rep_put hR hb rfl (o:=.map E' clk') (by simp) (by simp[hlt]) (fun B hB=>?_) ⟨E',clk',rfl,hE',hbn'⟩ hsc'
     simp only[Array.getElem?_setIfInBounds]
     simp[Ne.symm hB]
    rw[hkl] at hput
    have hps:=putS_sound (P:=P) (φ:=φ) (w:=w) hT hfl hdk (by rw[hki];rfl) hln 0 hput hE
    rw[←hkl] at hps
    rcases hps with⟨h1,h2⟩|⟨q,a,M,h1,h2,h3,h4,h5⟩
    ·have:=fin (E.push {key:=Zf φ (k'.ev tm),val:=Zf φ (x'.ev tm),born:=E.size}) (E.size+1) (by rw[h2];simp[hE]) (born_push hbn _ rfl)
     refine⟨φ,_,.skip,?_,.inr ⟨rfl,rfl⟩,this.1,this.2,trivial⟩
     dsimp only
     rw[hρ m m' hm,hρ k k' hk,hρ x x' hx,hz]
     simp only[Instr.mapUpdate,Sem.run_bind,hi.r_under,Result.andThen_ok,Zf,MapKept.run_getObj_map ho,hck,hfr _ h1,MapKept.run_setObj_map _ ho,Sem.run_pure]
    ·have hmod:=h5 (fun e=>{e with key:=Zf φ (k'.ev tm),val:=Zf φ (x'.ev tm)}) rfl rfl
     have:=fin (E.modify q fun e=>{e with key:=Zf φ (k'.ev tm),val:=Zf φ (x'.ev tm)}) E.size (by rw[Array.toList_modify];exact hmod) (born_modify hbn (fun _=>rfl))
     refine⟨φ,_,.skip,?_,.inr ⟨rfl,rfl⟩,this.1,this.2,trivial⟩
     dsimp only
     rw[hρ m m' hm,hρ k k' hk,hρ x x' hx,hz]
     rw[Nat.zero_add] at h1
     have hE2:((E[q]?).map (·.key)).getD (Zf φ (k'.ev tm))=Zf φ (k'.ev tm):=by
      have:E[q]? =some M:=by rw[←Array.getElem?_toList];exact h2
      simp[this,h3]
     have hsb:Instr.sameBits 10000 (Zf φ (k'.ev tm)) (Zf φ (k'.ev tm))=true:=by
      exact h4
     have hks:(Instr.keyThatStays (((E[q]?).map (·.key)).getD (Zf φ (k'.ev tm))) (Zf φ (k'.ev tm))).run P w=.ok (Zf φ (k'.ev tm)) w:=by
      rw[hE2];simp[Instr.keyThatStays,hsb]
     simp only[Instr.mapUpdate,Sem.run_bind,hi.r_under,Result.andThen_ok,Zf,MapKept.run_getObj_map ho,hck,hfr _ h1,hks,MapKept.run_setObj_map _ ho,Sem.run_pure]
   ·cases hv
  ·cases hv
 ·cases hv
theorem EffOk.of_eq {s s':(Operand→Value)→Sem Next}{v:V}(hs:EffOk P Ty tm h s v h')(he:∀ρ w,(s' ρ).run P w=(s ρ).run P w):EffOk P Ty tm h s' v h':=
 ⟨hs.1,fun{φ p w ρ} a b c d=>by rw[he];exact hs.2 a b c d⟩
theorem e_sound (hT:Yg P Ty){o:Oper}{i:I}(hc:Zt Ty o.op=some i)(hk:i.kind=2){v:V}(hv:evE tm h i=some (v,h')):
  EffOk P Ty tm h (fun ρ=>execOp ρ o) v h':=by
 obtain⟨dst,op,type,pos,after,guard⟩:=o
 cases op
 case store t a x=>
  simp only[Zt] at hc
  split at hc
  ·rename_i d a' x' hd ha hx
   split at hc
   ·cases hc
   ·rename_i k h0
    cases hc
    exact(e_store hT hd ha hx hv).of_eq fun ρ w=>by rfl
  ·cases hc
 case mapUpdate t m i x=>
  simp only[Zt] at hc
  split at hc
  ·rename_i d m' i' x' hd hm hi hx
   split at hc
   ·rename_i kt et hu
    split at hc
    ·rename_i dk hdk
     split at hc
     ·rename_i fs hki
      split at hc
      ·rename_i n hI hfl
       cases hc
       exact(e_mapUpdS hT hd hu hdk hki hI hfl hm hi hx hv).of_eq fun ρ w=>by rfl
      ·cases hc
     ·cases hc
    ·cases hc
   ·cases hc
  ·cases hc
 case insert t m i x=>
  simp only[Zt] at hc
  split at hc
  ·rename_i d m' i' x' hd hm hi hx
   split at hc
   ·rename_i kt et hu
    split at hc
    ·rename_i dk hdk
     split at hc
     ·rename_i fs hki
      split at hc
      ·rename_i n hI hfl
       cases hc
       exact(e_mapUpdS hT hd hu hdk hki hI hfl hm hi hx hv).of_eq fun ρ w=>by rfl
      ·cases hc
     ·cases hc
    ·cases hc
   ·cases hc
  ·cases hc
 case call c=>
  obtain⟨callee,args,ts⟩:=c
  simp only[Zt] at hc
  cases callee
  case builtin b=>
   simp only at hc
   unfold Wj at hc
   split at hc
   ·rename_i x y t t' hx hts
    have ha:args= #[x,y]:=Array.toList_inj.1 hx
    have ht:ts= #[t,t']:=Array.toList_inj.1 hts
    subst ha ht
    split at hc
    ·rename_i d d' x' y' hd hd' hx' hy'
     split at hc
     ·rename_i e e' hu hu'
      split at hc
      ·rename_i de hde hee
       have:=Nat.eq_of_beq_eq_true hee;subst this
       split at hc
       ·cases hc
       ·rename_i k0 h0
        split at hc
        ·cases hc
         exact(e_append hT hd hd' hu hu' hde (by omega) hx' hy' type hv).of_eq fun ρ w=>by simp only[execOp,resolve,invoke,builtin,Sem.run_bind,Sem.run_pure,Result.andThen_ok,List.map_toArray,List.map_cons,List.map_nil]
        ·cases hc
      ·cases hc
     ·cases hc
    ·cases hc
   ·exfalso
    repeat' (split at hc)
    all_goals first
     |(cases hc;done)
     |(simp only[Option.some.injEq] at hc;subst hc;simp[I.kind] at hk)
   ·exfalso
    repeat' (split at hc)
    all_goals first
     |(cases hc;done)
     |(simp only[Option.some.injEq] at hc;subst hc;simp[I.kind] at hk)
   ·exfalso
    repeat' (split at hc)
    all_goals first
     |(cases hc;done)
     |(simp only[Option.some.injEq] at hc;subst hc;simp[I.kind] at hk)
   ·rename_i x y t t' hx hts
    have ha:args= #[x,y]:=Array.toList_inj.1 hx
    have ht:ts= #[t,t']:=Array.toList_inj.1 hts
    subst ha ht
    split at hc
    ·rename_i d d' x' y' hd hd' hx' hy'
     split at hc
     ·rename_i e e' hu hu'
      split at hc
      ·rename_i de hde hee
       split at hc
       ·cases hc
       ·rename_i k0 h0
        cases hc
        exact(e_copy (t':=t') hT hd hu hde (by omega) hx' hy' type hv).of_eq fun ρ w=>by simp only[execOp,resolve,invoke,builtin,Sem.run_bind,Sem.run_pure,Result.andThen_ok,List.map_toArray,List.map_cons,List.map_nil]
      ·cases hc
     ·cases hc
    ·cases hc
   ·rename_i x t hx hts
    have ha:args= #[x]:=Array.toList_inj.1 hx
    have ht:ts= #[t]:=Array.toList_inj.1 hts
    subst ha ht
    split at hc
    ·rename_i d x' hd hx'
     split at hc
     ·rename_i e hu
      split at hc
      ·rename_i de hde
       split at hc
       ·cases hc
       ·rename_i k0 h0
        cases hc
        exact(e_clear hT hd hu hde (by omega) hx' type hv).of_eq fun ρ w=>by simp only[execOp,resolve,invoke,builtin,Sem.run_bind,Sem.run_pure,Result.andThen_ok,List.map_toArray,List.map_cons,List.map_nil]
      ·cases hc
     ·cases hc
    ·cases hc
   ·cases hc
  case value f=>
   simp only at hc
   split at hc
   ·cases hc;simp[I.kind] at hk
   ·cases hc
  case invoke=>simp at hc
 case makeFunc fn a b=>
  cases fn<;>simp only[Zt] at hc
  case func f=>
   split at hc
   ·cases hc;simp[I.kind] at hk
   ·cases hc
  all_goals cases hc
 case makeMap t r=>
  cases r<;>simp[Zt] at hc
  subst hc;simp[I.kind] at hk
 all_goals
  first
   |(simp[Zt] at hc;done)
   |(exfalso;simp only[Zt] at hc
     repeat' (split at hc)
     all_goals first
      |(cases hc;done)
      |(simp only[Option.some.injEq] at hc;subst hc;simp[I.kind] at hk))
end
end Go.Ab
