/- Appends: sound. -/
import Derived.Test.YtiphdfiihgbomabGreatAbC
set_option linter.unusedSimpArgs false
set_option linter.unusedVariables false
namespace Go.Ab
section
variable {P:Program} {Ty:Nat→Option TD} {φ:Phi} {p:Nat→Prop} {w:World} {h h':H} {tm:T V} {ρ:Operand→Value}
theorem run_app_room {t t' ty e:TypeId}(ht:P.underlying t=some (.slice e))(ht':P.underlying t'=some (.slice e)){i:TypeInfo}(hi:P.info? e=some i)
  {base:Option Addr} {n c k xc:Nat} {xb:Option Addr} {news:List Value} (hf:(Builtin.firstCells i.size k (.slice xb k xc)).run P w=.ok news.toArray w) (hroom:n+k≤c):
  (Builtin.append_ #[t,t'] ty #[.slice base n c,.slice xb k xc]).run P w=
   ((match base with|some a=>storeCells (a.add (n*i.size)) news|none=>pure ():Sem Unit).run P w).andThen fun _ w'=>.ok (.slice base (n+k) c) w':=by
 cases base with
 |none=>simp[Builtin.append_,run_underlying ht,run_underlying ht',sizeOf,typeInfo,hi,Builtin.lenOf,hroom,hf]
 |some a=>simp[Builtin.append_,run_underlying ht,run_underlying ht',sizeOf,typeInfo,hi,Builtin.lenOf,hroom,hf]
theorem run_app_grow {t t' ty e:TypeId}(ht:P.underlying t=some (.slice e))(ht':P.underlying t'=some (.slice e)){i:TypeInfo}{z:Value}(hi:P.info? e=some i)(hz:i.zero=some z)
  {base:Option Addr} {n c k xc:Nat} {xb:Option Addr} {olds news:List Value}
  (hf:(Builtin.firstCells i.size k (.slice xb k xc)).run P w.drew=.ok news.toArray w.drew)
  (ho:(Builtin.firstCells i.size n (.slice base n c)).run P w.drew=.ok olds.toArray w.drew)
  (hg:c<n+k) (h40:n+k≤1099511627776) (hb:(n+k)*i.bytes≤1099511627776):
  (Builtin.append_ #[t,t'] ty #[.slice base n c,.slice xb k xc]).run P w=
   .ok (.slice (some ⟨w.heap.size,0,none⟩) (n+k) (grownCap w (n+k) c e))
    (w.drew.alloc (.cells (olds++news++(Builtin.zeroCells z.cells (grownCap w (n+k) c e-(n+k))).toList).toArray e)):=by
 have hn:¬(n+k≤c):=by omega
 have h63':¬(9223372036854775807<((n:Int)+(k:Int))):=by omega
 have h48':¬(281474976710656<Builtin.nextslicecap (n+k) c*i.bytes):=by
  have h1:=nextslicecap_le hg
  have h2:Builtin.nextslicecap (n+k) c*i.bytes≤(2*(n+k))*i.bytes:=Nat.mul_le_mul_right _ h1
  rw[Nat.mul_assoc] at h2
  omega
 simp[Builtin.append_,run_underlying ht,run_underlying ht',sizeOf,typeInfo,zeroValue,hi,hz,Builtin.lenOf,hn,h63',h48',Question.forced,hf,ho,newRow,grownCap]
 congr 2
 apply Array.ext'
 simp[List.append_assoc]
theorem grown_is {b B c sz:Nat}{cs:List V}{rest:List Value}{t:TypeId}(hs:scL p cs)(hb:¬p b)(hl:cs.length+rest.length=c*sz):
  blkIs Ty (φ.set b B 0 c) b (.cells (.gr sz) cs) (.cells (cs.map (conc φ)++rest).toArray t (0,0)):=by
 rw[map_conc_set (B:=B) (o:=0) (c:=c) hb hs]
 refine⟨_,_,_,rfl,fun _=>rfl,?_,fun i v hi=>?_,fun s hsz=>?_⟩
 ·simp[Phi.set]
 ·have hlt:i<cs.length:=(List.getElem?_eq_some_iff.1 hi).1
  simp only[Phi.set,if_true,Nat.zero_add,List.getElem?_toArray]
  rw[List.getElem?_append_left (by simpa using hlt),List.getElem?_map,hi];rfl
 ·cases hsz
  simp[Phi.set,hl]
  omega
theorem lenV_elems {sz k:Nat}{x:V}(hk:lenV x=some k):∃xb xc,conc φ x=.slice xb k xc:=by
 unfold lenV at hk
 split at hk
 ·cases hk;exact⟨none,0,rfl⟩
 ·rename_i a;cases hk;exact⟨some a,0,rfl⟩
 ·rename_i b o n c
  cases hk
  cases c with
  |fix c=>exact⟨_,_,rfl⟩
  |slk a q=>exact⟨_,_,rfl⟩
 ·cases hk
theorem e_append (hT:TyOK P Ty){t t' e:TypeId}{d d' de:TD}(hd:Ty t=some d)(hd':Ty t'=some d')(hu:d.u=.slice e)(hu':d'.u=.slice e)(hde:Ty e=some de)(h0:0<de.size)
  {x y:Operand} {x' y':Opd} (hx:opd x=some x') (hy:opd y=some y') (ty:TypeId) {v:V}
  (hv:e_app' h de.size de.by_ (x'.ev tm) (y'.ev tm)=some (v,h')):
  EffOk P Ty tm h (fun ρ=>do pure (Next.value (←Builtin.append_ #[t,t'] ty #[ρ x,ρ y]))) v h':=by
 obtain⟨ti,u,hi⟩:=hT t d hd
 have his:=hi.is;rw[hu] at his
 have:=is_slice his;subst this
 obtain⟨ti',u',hi'⟩:=hT t' d' hd'
 have his:=hi'.is;rw[hu'] at his
 have:=is_slice his;subst this
 obtain⟨ei,eu,hei⟩:=hT e de hde
 unfold e_app' at hv
 cases hel:elems h de.size (y'.ev tm) with
 |none=>simp[hel] at hv
 |some new=>
  cases hk:lenV (y'.ev tm) with
  |none=>simp[hel,hk] at hv
  |some k=>
   simp only[hel,hk,lf_eq] at hv
   have src:∀{φ p w ρ},OpsAre φ tm ρ→Rep Ty φ h.get p w→TmSc p tm→∃xb xc,ρ y=.slice xb k xc∧new.length=k*de.size∧scL p new∧
     ∀w',w'.heap=w.heap→(Builtin.firstCells ei.size k (.slice xb k xc)).run P w'=.ok (new.map (conc φ)).toArray w':=by
    intro φ p w ρ hρ hR hs
    obtain⟨xb,xc,e1,e2,e3,e4⟩:=elems_sound P hR hel hk
    refine⟨xb,xc,by rw[hρ y y' hy,e1],e2,e3,fun w' hw'=>?_⟩
    have:=first_sound (P:=P) (m:=k) (c:=xc) e2 e4 (Nat.le_refl _) w' hw'
    rw[hei.size,this,←e2,List.take_length]
   have zs:∀n,(Builtin.zeroCells (zeroOf de).cells n).toList.length=n*de.size:=by
    intro n
    have:(zeroOf de).cells.size=de.size:=by rw[zeroOf_cells hei ⟨fun _=>0,fun _=>0,fun _=>0⟩];simp[hei.len]
    simp[Builtin.zeroCells,this]
   have growing:∀{n c:Nat} {old:List V} {base:Operand→Option Addr} {hh:H},hh.next=h.next→(∀b z,hh.get b=some z→h.get b=some z)→
     c<n+k→(n+k)*de.by_≤1099511627776→n+k≤1099511627776→∀{φ p w ρ},OpsAre φ tm ρ→Rep Ty φ h.get p w→TmSc p tm→¬p h.next→
     ∀{bs},ρ x=.slice bs n c→old.length=n*de.size→scL p old→(∀w',w'.heap=w.heap→(Builtin.firstCells ei.size n (.slice bs n c)).run P w'=.ok (old.map (conc φ)).toArray w')→
     ∃φ' w' nx,((do pure (Next.value (←Builtin.append_ #[t,t'] ty #[ρ x,ρ y])):Sem Next).run P w=.ok nx w'∧(nx=.value (conc φ' (grown hh de.size (n+k) (appN old new)).1)∨nx=.skip∧(grown hh de.size (n+k) (appN old new)).1=.und))∧
      Rep Ty φ' (grown hh de.size (n+k) (appN old new)).2.get (grow p h.next (h.next+1)) w'∧Ext φ p h.get w φ' (grow p h.next (h.next+1)) (grown hh de.size (n+k) (appN old new)).2.get w'∧
      (grown hh de.size (n+k) (appN old new)).1.sc (grow p h.next (h.next+1)):=by
    intro n c old base hh hnx hsub hg h40 h41 φ p w ρ hρ hR hs hn bs hbs hlo hso hfo
    obtain⟨xb,xc,e1,e2,e3,e4⟩:=src hρ hR hs
    have hrun:=run_app_grow (w:=w) (ty:=ty) hi.under hi'.under hei.info hei.zero (e4 w.drew rfl) (hfo w.drew rfl) hg h41 (by rw[hei.bytes];exact h40)
    have hge:=grownCap_ge w (n+k) c e
    have hscn:scL p (old++new):=by
     rw[scL_iff] at *;intro z hz
     rcases List.mem_append.1 hz with h1|h1
     ·exact hso z h1
     ·exact e3 z h1
    have hlen:(old++new).length+(Builtin.zeroCells (zeroOf de).cells (grownCap w (n+k) c e-(n+k))).toList.length=grownCap w (n+k) c e*de.size:=by
     rw[zs,List.length_append,hlo,e2,Nat.sub_mul,←Nat.add_mul]
     have:=Nat.mul_le_mul_right de.size hge
     omega
    have hRs:Rep Ty φ hh.get p w:=hR.subset hsub
    have key:=rep_new (Ty:=Ty) (w':=w.drew.alloc (.cells (old.map (conc φ)++new.map (conc φ)++(Builtin.zeroCells (zeroOf de).cells (grownCap w (n+k) c e-(n+k))).toList).toArray e))
     hRs hn (x:=.cells (.gr de.size) (old++new)) (o:=_) (c:=grownCap w (n+k) c e) rfl
     (by have:=grown_is (Ty:=Ty) (φ:=φ) (B:=w.heap.size) (t:=e) hscn hn hlen;rwa[List.map_append] at this) (scL_mono (fun _ h=>.inl h) _ hscn)
    refine⟨φ.set h.next w.heap.size 0 (grownCap w (n+k) c e),w.drew.alloc (.cells (old.map (conc φ)++new.map (conc φ)++(Builtin.zeroCells (zeroOf de).cells (grownCap w (n+k) c e-(n+k))).toList).toArray e),
     .value (conc (φ.set h.next w.heap.size 0 (grownCap w (n+k) c e)) (grown hh de.size (n+k) (appN old new)).1),⟨?_,.inl rfl⟩,?_,?_,?_⟩
    ·rw[e1,hbs]
     simp only[Sem.run_bind,hrun,Result.andThen_ok,Sem.run_pure,grown,conc]
     simp[Phi.at,Phi.set,hnx]
    ·simp only[grown,H.get_add,hnx,appN_eq];exact key.1
    ·simp only[grown,H.get_add,hnx,appN_eq];exact(Ext.subset hsub).trans key.2
    ·simp only[grown,hnx];exact grow_new
   unfold e_app at hv
   cases k with
   |zero=>
    have nothing:∀{z:V} {hh:H},x'.ev tm=z→(∀{φ p w},Rep Ty φ h.get p w→∃bs n c,conc φ z=.slice bs n c∧n≤c)→EffOk P Ty tm h (fun ρ=>do pure (Next.value (←Builtin.append_ #[t,t'] ty #[ρ x,ρ y]))) z h:=by
     intro z hh hz hcap
     refine⟨Nat.le_refl _,fun{φ p w ρ} hρ hR hs _=>?_⟩
     rw[grow_self]
     obtain⟨xb,xc,e1,e2,e3,e4⟩:=src hρ hR hs
     obtain⟨bs,n,c,e5,e6⟩:=hcap hR
     have hz':new=[]:=by simpa using e2
     subst hz'
     have hrun:=run_app_room (w:=w) (ty:=ty) hi.under hi'.under (base:=bs) (n:=n) (c:=c) hei.info (e4 w rfl) (by omega)
     refine⟨φ,w,_,?_,.inl rfl,hR,Ext.refl _ _ _ _,?_⟩
     ·dsimp only
      rw[hρ x x' hx,hz,e5,e1]
      simp only[Sem.run_bind,hrun]
      cases bs<;>simp[storeCells]
     ·have:=ev_sc hs hx;rwa[hz] at this
    dsimp only at hv
    split at hv
    ·rename_i hz
     simp only[Option.some.injEq,Prod.mk.injEq] at hv
     obtain⟨rfl,rfl⟩:=hv
     exact nothing (hh:=h) hz fun _=>⟨none,0,0,rfl,Nat.le_refl _⟩
    ·rename_i b o n c hz
     split at hv
     ·rename_i c
      simp only[og_eq,Option.some.injEq,Prod.mk.injEq] at hv
      obtain⟨hle,rfl,rfl⟩:=hv
      exact nothing (hh:=h) hz fun _=>⟨_,_,_,rfl,Nat.le_of_ble_eq_true hle⟩
     ·rename_i a q
      simp only[og_eq,Option.some.injEq,Prod.mk.injEq] at hv
      obtain⟨hok,rfl,rfl⟩:=hv
      refine nothing (hh:=h) hz fun{φ p w} hR=>⟨_,_,_,rfl,?_⟩
      obtain⟨cs,s1,s2,s3⟩:=slkOk_eq hok
      have:=slk_room hR s1 h0 s2 s3
      omega
    ·cases hv
   |succ k=>
    dsimp only at hv
    split at hv
    ·-- nil
     rename_i hz
     simp only[room,og_eq,Option.some.injEq] at hv
     obtain⟨h40,h41,hv⟩:=hv
     have h40:=Nat.le_of_ble_eq_true h40
     have h41:=Nat.le_of_ble_eq_true h41
     have e1:grown h de.size (k+1) new=(v,h'):=hv
     have e2:h'.next=h.next+1:=by have:=congrArg (fun q=>q.2.next) e1;simp only[grown,H.next_add] at this;exact this.symm
     refine⟨by omega,fun{φ p w ρ} hρ hR hs hf=>?_⟩
     have:=growing (n:=0) (c:=0) (old:=[]) (base:=fun _=>none) (hh:=h) rfl (fun _ _ h=>h) (by omega) (by simpa using h40) (by simpa using h41) hρ hR hs (hf _ (Nat.le_refl _) (by omega))
      (bs:=none) (by rw[hρ x x' hx,hz];rfl) (by simp) trivial (fun w' _=>by simp[Builtin.firstCells])
     simp only[Nat.zero_add,appN] at this
     rw[e2]
     rw[e1] at this
     obtain⟨φ',w',nx,⟨r1,r2⟩,r3,r4,r5⟩:=this
     exact⟨φ',w',nx,r1,r2,r3,r4,r5⟩
    ·rename_i b o n c hz
     split at hv
     ·-- a slice whose room is known
      rename_i c
      unfold appFix at hv
      cases hroom:Nat.ble (n+(k+1)) c with
      |true=>
       have hroom':=Nat.le_of_ble_eq_true hroom
       simp only[hroom] at hv
       cases hp:h.put b (o+n*de.size) new with
       |none=>simp[hp,withV] at hv
       |some h1=>
        simp only[hp,withV,Option.some.injEq,Prod.mk.injEq] at hv
        obtain⟨rfl,rfl⟩:=hv
        have hnx:h1.next=h.next:=by
         have:=hp
         unfold H.put at this
         split at this
         ·cases this;rfl
         ·split at this
          ·split at this
           all_goals first
            |(unfold setO at this;split at this
              ·cases this;exact H.next_set _ _ _
              ·cases this)
            |cases this
          ·cases this
        refine⟨by omega,fun{φ p w ρ} hρ hR hs _=>?_⟩
        rw[hnx,grow_self]
        obtain⟨xb,xc,e1,e2,e3,e4⟩:=src hρ hR hs
        obtain⟨_,_,w',r1,r2,r3⟩:=put_sound (P:=P) hR hp e3
        have hrun:=run_app_room (w:=w) (ty:=ty) hi.under hi'.under (base:=some (φ.at b o)) (n:=n) (c:=c) hei.info (e4 w rfl) hroom'
        refine⟨φ,w',_,?_,.inl rfl,r2,r3,?_⟩
        ·dsimp only
         rw[hρ x x' hx,hz,e1]
         simp only[conc,Sem.run_bind,hrun,at_add,hei.size,r1,Result.andThen_ok,Sem.run_pure]
        ·have:=ev_sc hs hx;rw[hz] at this;exact this
      |false=>
       have hroom':c<n+(k+1):=by
        have:¬(n+(k+1)≤c):=fun hle=>by rw[Nat.ble_eq_true_of_le hle] at hroom;cases hroom
        omega
       simp only[hroom] at hv
       cases ho:elems h de.size (.sl b o n (.fix c)) with
       |none=>simp[ho] at hv
       |some old=>
        simp only[ho,room,og_eq,Option.some.injEq] at hv
        obtain⟨h40,h41,hv⟩:=hv
        have h40:=Nat.le_of_ble_eq_true h40
        have h41:=Nat.le_of_ble_eq_true h41
        have e2:h'.next=h.next+1:=by have:=congrArg (fun q=>q.2.next) hv;simp only[grown,H.next_add] at this;exact this.symm
        refine⟨by omega,fun{φ p w ρ} hρ hR hs hf=>?_⟩
        obtain⟨ob,oc,f1,f2,f3,f4⟩:=elems_sound P hR ho (k:=n) rfl
        have hbs:ρ x=.slice ob n c:=by
         rw[hρ x x' hx,hz]
         simp only[conc,Value.slice.injEq] at f1⊢
         exact⟨f1.1,f1.2.1,trivial⟩
        have:=growing (n:=n) (c:=c) (old:=old) (base:=fun _=>none) (hh:=h) rfl (fun _ _ h=>h) hroom' h40 h41 hρ hR hs (hf _ (Nat.le_refl _) (by omega))
         (bs:=ob) hbs f2 f3 (fun w' hw'=>by
          have:=first_sound (P:=P) (m:=n) (c:=c) f2 f4 (Nat.le_refl _) w' hw'
          rw[hei.size,this,←f2,List.take_length])
        rw[e2]
        rw[hv] at this
        obtain⟨φ',w',nx,⟨r1,r2⟩,r3,r4,r5⟩:=this
        exact⟨φ',w',nx,r1,r2,r3,r4,r5⟩
     ·-- a slice whose room is not known
      rename_i a q
      unfold appSlk at hv
      split at hv
      ·rename_i s cs hb
       simp only[og_eq] at hv
       obtain⟨k1,k2,hv⟩:=hv
       have k1:=Nat.eq_of_beq_eq_true k1;subst k1
       have k2:=Nat.eq_of_beq_eq_true k2
       cases hin:Nat.ble (o+(n+(k+1))*de.size) (lenN cs)
       case true=>
        have hin':=Nat.le_of_ble_eq_true hin
        rw[lenN_eq] at hin'
        simp only[hin] at hv
        cases hp:h.put b (o+n*de.size) new with
        |none=>simp[hp,withV] at hv
        |some h1=>
         simp only[hp,withV,Option.some.injEq,Prod.mk.injEq] at hv
         obtain⟨rfl,rfl⟩:=hv
         have hnx:h1.next=h.next:=by
          have:=hp
          unfold H.put at this
          split at this
          ·cases this;rfl
          ·split at this
           ·split at this
            all_goals first
             |(unfold setO at this;split at this
               ·cases this;exact H.next_set _ _ _
               ·cases this)
             |cases this
           ·cases this
         refine⟨by omega,fun{φ p w ρ} hρ hR hs _=>?_⟩
         rw[hnx,grow_self]
         obtain⟨xb,xc,e1,e2,e3,e4⟩:=src hρ hR hs
         obtain⟨_,_,w',r1,r2,r3⟩:=put_sound (P:=P) hR hp e3
         have hcap:=slk_room (n:=n+(k+1)) hR hb h0 k2 hin'
         have hrun:=run_app_room (w:=w) (ty:=ty) hi.under hi'.under (base:=some (φ.at b o)) (n:=n) (c:=φ.cap b-a) hei.info (e4 w rfl) (by omega)
         refine⟨φ,w',_,?_,.inl rfl,r2,r3,?_⟩
         ·dsimp only
          have z1:¬(n=0∧φ.cap b≤a):=by omega
          have z2:¬(n+(k+1)=0∧φ.cap b≤a):=by omega
          rw[hρ x x' hx,hz,e1]
          simp only[conc,if_neg z1,if_neg z2,Sem.run_bind,hrun,at_add,hei.size,r1,Result.andThen_ok,Sem.run_pure]
         ·have:=ev_sc hs hx;rw[hz] at this;exact this
       simp only[hin,og_eq,room,Option.some.injEq] at hv
       obtain⟨k3,k4,h40,h41,hv⟩:=hv
       have k3:=Nat.eq_of_beq_eq_true k3
       rw[lenN_eq] at k3
       have h40:=Nat.le_of_ble_eq_true h40
       have h41:=Nat.le_of_ble_eq_true h41
       have e2:h'.next=h.next+1:=by
        have:=congrArg (fun q=>q.2.next) hv
        simp only[grownO,H.next_set,H.next_add] at this;exact this.symm
       refine⟨by omega,fun{φ p w ρ} hρ hR hs hf=>?_⟩
       have hnp:=hf _ (Nat.le_refl _) (by omega)
       obtain⟨xb,xc,e1,e2',e3,e4⟩:=src hρ hR hs
       have hsb:=(hR.sc b _ hb).2
       have hdrop:scL p (cs.drop o):=scL_iff.2 fun z hz=>scL_iff.1 hsb z (List.mem_of_mem_drop hz)
       have hdl:(cs.drop o).length=n*de.size:=by simp;omega
       have hcells:h.cells b=some cs:=by simp[H.cells,hb]
       have hroomb:=slk_room (n:=n) hR hb h0 k2 (by omega)
       by_cases hfit:n+(k+1)≤φ.cap b-a
       ·-- there is room
        have hbase:ρ x=.slice (some (φ.at b o)) n (φ.cap b-a):=by
         rw[hρ x x' hx,hz]
         simp only[conc]
         have:¬(n=0∧φ.cap b≤a):=by omega
         simp[this]
        have hrun:=run_app_room (w:=w) (ty:=ty) hi.under hi'.under (base:=some (φ.at b o)) (n:=n) (c:=φ.cap b-a) hei.info (e4 w rfl) hfit
        obtain⟨C,ce,fz,hat,hfz,hl,hcC,hg⟩:=hR.row hb
        have:=hfz rfl;subst this
        obtain⟨g1,g2⟩:=hg _ rfl
        have hcap:(n+(k+1))*de.size≤(φ.cap b-a)*de.size:=Nat.mul_le_mul_right _ hfit
        have hca:a*de.size+(φ.cap b-a)*de.size=φ.cap b*de.size:=by rw[←Nat.add_mul];congr 1;omega
        have hnl:n*de.size+new.length=(n+(k+1))*de.size:=by rw[e2',←Nat.add_mul]
        have hst:=run_storeCells_at P (φ.blk b) (φ.off b+(o+n*de.size)) ce (new.map (conc φ)) 0 C w hat (by simp;omega) (allOne_conc k4)
        simp only[Nat.add_zero,List.length_map] at hst
        have hst':(storeCells (φ.at b (o+n*de.size)) (new.map (conc φ))).run P w=.ok () (w.setRow (φ.blk b) (C.toList.take (φ.off b+(o+n*de.size))++new.map (conc φ)++C.toList.drop (φ.off b+(o+n*de.size)+new.length)).toArray):=hst
        have hscn:scL p (cs.drop o++new):=by
         rw[scL_iff] at *;intro z hz
         rcases List.mem_append.1 hz with h1|h1
         ·exact hdrop z h1
         ·exact e3 z h1
        have hCl:C.toList.length=C.size:=rfl
        have t1:min (φ.off b+(o+n*de.size)) C.size=φ.off b+(o+n*de.size):=by omega
        have key:=rep_move (Ty:=Ty) (w:=w) (w':=w.setRow (φ.blk b) (C.toList.take (φ.off b+(o+n*de.size))++new.map (conc φ)++C.toList.drop (φ.off b+(o+n*de.size)+new.length)).toArray)
         hR hb (y:=.cells (.gr de.size) (cs.drop o++new)) (off:=φ.off b+o) (cap:=φ.cap b-a) rfl hnp (by simp) (setRow_heap w _ _ _ _ _ hat) (fun B hB=>setRow_other w _ _ _ hB)
         (by
          refine⟨_,_,_,rfl,fun _=>rfl,?_,fun i z hz=>?_,fun sz hsz=>?_⟩
          ·simp[Phi.set];omega
          ·have hlt:i<(cs.drop o++new).length:=(List.getElem?_eq_some_iff.1 hz).1
           have hcz:conc (φ.set h.next (φ.blk b) (φ.off b+o) (φ.cap b-a)) z=conc φ z:=(conc_agree (Phi.set_agree hnp) z (scL_iff.1 hscn z (List.mem_of_getElem? hz))).symm
           rw[hcz]
           simp only[Phi.set,if_true,List.getElem?_toArray]
           by_cases hi1:i<n*de.size
           ·rw[List.getElem?_append_left (by rw[hdl];exact hi1),List.getElem?_drop] at hz
            rw[List.append_assoc,List.getElem?_append_left (by simp;omega),List.getElem?_take_of_lt (by omega)]
            have:=hcC _ _ hz
            rw[Nat.add_assoc]
            simpa using this
           ·rw[List.getElem?_append_right (by rw[hdl];omega),hdl] at hz
            rw[List.length_append,hdl] at hlt
            rw[List.getElem?_append_left (by simp;omega),List.getElem?_append_right (by simp;omega)]
            simp only[List.length_take,hCl,t1,List.getElem?_map]
            have:φ.off b+o+i-(φ.off b+(o+n*de.size))=i-n*de.size:=by omega
            rw[this,hz];rfl
          ·cases hsz
           simp[Phi.set]
           omega)
         (scL_mono (fun _ h=>.inl h) _ hscn)
        have hv1:v=.sl h.next 0 (n+(k+1)) (.slk 0 0):=by have:=congrArg Prod.fst hv;simp only[grownO] at this;exact this.symm
        have hv2:h'=(h.add (.cells (.gr de.size) (cs.drop o++new))).set b (.old h.next o (cs.drop o)):=by have:=congrArg Prod.snd hv;simp only[grownO,dropN_eq,appN_eq] at this;exact this.symm
        have hbn:b≠h.next:=fun e=>hnp (by rw[←e];exact(hR.sc b _ hb).1)
        have hgg:upd (upd h.get h.next (some (.cells (.gr de.size) (cs.drop o++new)))) b (some (.old h.next o (cs.drop o)))=upd (upd (upd h.get b none) h.next (some (.cells (.gr de.size) (cs.drop o++new)))) b (some (.old h.next o (cs.drop o))):=by
         funext c
         by_cases hc:c=b
         ·subst hc;rw[upd_same,upd_same]
         ·rw[upd_ne hc,upd_ne hc]
          by_cases hc2:c=h.next
          ·subst hc2;rw[upd_same,upd_same]
          ·rw[upd_ne hc2,upd_ne hc2,upd_ne hc]
        have key2:=rep_alias (b:=b) (n:=h.next) (o:=o) (cs:=cs.drop o) key.1 key.2 hb rfl (hR.sc b _ hb).1 (by rw[upd_ne hbn,upd_same]) (.inl (hR.sc b _ hb).1) (upd_same ..)
         (by simp[Phi.set,hbn]) (by simp[Phi.set,hbn]) (by simp[Phi.set,hbn]) (scL_mono (fun _ h=>.inl h) _ hdrop)
        rw[e2]
        refine⟨φ.set h.next (φ.blk b) (φ.off b+o) (φ.cap b-a),w.setRow (φ.blk b) (C.toList.take (φ.off b+(o+n*de.size))++new.map (conc φ)++C.toList.drop (φ.off b+(o+n*de.size)+new.length)).toArray,
         .value (conc (φ.set h.next (φ.blk b) (φ.off b+o) (φ.cap b-a)) v),?_,.inl rfl,?_,?_,?_⟩
        ·dsimp only
         rw[hbase,e1]
         simp only[Sem.run_bind,hrun,at_add,hei.size,hst',Result.andThen_ok,Sem.run_pure,hv1,conc]
         simp[Phi.at,Phi.set]
        ·rw[hv2,H.get_set,H.get_add,hgg];exact key2.1
        ·rw[hv2,H.get_set,H.get_add,hgg];exact key2.2
        ·rw[hv1];exact grow_new
       ·-- it grows
        have hbase:∃bs,ρ x=.slice bs n (φ.cap b-a)∧∀w',w'.heap=w.heap→(Builtin.firstCells ei.size n (.slice bs n (φ.cap b-a))).run P w'=.ok ((cs.drop o).map (conc φ)).toArray w':=by
         refine⟨_,by rw[hρ x x' hx,hz];rfl,fun w' hw'=>?_⟩
         have:=first_sound (P:=P) (φ:=φ) (w:=w) (sz:=de.size) (k:=n) (m:=n) (c:=φ.cap b-a) (base:=some (φ.at b (if n=0∧φ.cap b≤a then q else o))) (cs:=cs.drop o) hdl (fun hn0=>⟨φ.at b o,by simp[hn0],fun j z hj=>by
          rw[at_add]
          rw[List.getElem?_map,List.getElem?_drop] at hj
          cases hxx:cs[o+j]? with
          |none=>simp[hxx] at hj
          |some z'=>
           simp only[hxx,Option.map_some,Option.some.injEq] at hj
           subst hj
           exact(hR.cell hcells hxx).1⟩) (Nat.le_refl _) w' hw'
         rw[hei.size,this,←hdl,List.take_length]
        obtain⟨bs,b1,b2⟩:=hbase
        have:=growing (n:=n) (c:=φ.cap b-a) (old:=cs.drop o) (base:=fun _=>none) (hh:=h) rfl (fun _ _ h=>h) (by omega) h40 h41 hρ hR hs hnp (bs:=bs) b1 hdl hdrop b2
        rw[e2]
        obtain⟨φ',w',nx,⟨r1,r2⟩,r3,r4,r5⟩:=this
        have hbn:b≠h.next:=fun e=>hnp (by rw[←e];exact(hR.sc b _ hb).1)
        have hgb:(grown h de.size (n+(k+1)) (appN (cs.drop o) new)).2.get b=some (.cells (.gr de.size) cs):=by
         simp only[grown];rw[H.get_add,upd_ne hbn];exact hb
        have key2:=rep_old (n:=h.next) (o:=o) r3 hgb rfl grow_new
        have hv1:v=.sl h.next 0 (n+(k+1)) (.slk 0 0):=by have:=congrArg Prod.fst hv;simp only[grownO] at this;exact this.symm
        have hv2:h'=(h.add (.cells (.gr de.size) (appN (cs.drop o) new))).set b (.old h.next o (cs.drop o)):=by have:=congrArg Prod.snd hv;simp only[grownO,dropN_eq] at this;exact this.symm
        refine⟨φ',w',nx,r1,?_,?_,?_,?_⟩
        ·rw[hv1];exact r2
        ·rw[hv2,H.get_set];exact key2.1
        ·rw[hv2,H.get_set];exact r4.trans key2.2
        ·rw[hv1];exact r5
      ·cases hv
    ·cases hv
end
end Go.Ab
