/- Slicing, indexing, comparing rows, looking up. -/
import Derived.Test.YtiphdfiihgbomabGreatAb6
set_option linter.unusedSimpArgs false
set_option linter.unusedVariables false
namespace Go.Ab
section
variable {P:Program} {Ty:Nat→Option TD} {φ:Phi} {p:Nat→Prop} {w:World} {h:H} {tm:T V} {ρ:Operand→Value}
theorem bound_ok {k:IntKind}{n y:Nat}{c:BoundsCode}(h:n≤y):(Instr.sliceBound (.int k n) y c).run P w=.ok n w:=by
 have h1:(0:Int)≤n:=by omega
 have h2:(n:Int)≤y:=by omega
 simp[Instr.sliceBound,asIntOf,h1,h2]
theorem natK?_eq {v:V}{n:Nat}(h:natK? v=some n):∃k,v=.int k n:=by
 unfold natK? at h
 split at h
 ·cases h;exact⟨_,rfl⟩
 ·cases h
theorem natO_eq (hρ:OpsAre φ tm ρ){o:Option Operand}{o':Option Opd}(ho:opdO o=some o'){d n:Nat}(hn:natO tm d o'=some n):
  (o=none∧o'=none∧n=d)∨∃x x',o=some x∧o'=some x'∧∃k,ρ x=.int k n:=by
 cases o with
 |none=>cases ho;simp only[natO,Option.some.injEq] at hn;exact .inl ⟨rfl,rfl,hn.symm⟩
 |some x=>
  simp only[opdO] at ho
  cases hx:opd x with
  |none=>simp[hx] at ho
  |some x'=>
   simp only[hx,Option.some.injEq] at ho
   subst ho
   simp only[natO] at hn
   obtain⟨k,e⟩:=natK?_eq hn
   exact .inr ⟨x,x',rfl,rfl,k,by rw[hρ x x' hx,e];rfl⟩
theorem bnd3_eq {n c l e m:Nat}{lo hi mx:Option Opd}(hb:bnd3 tm n c lo hi mx=some (l,e,m)):
  natO tm c mx=some m∧natO tm n hi=some e∧natO tm 0 lo=some l∧l≤e∧e≤m∧m≤c:=by
 unfold bnd3 at hb
 cases h1:natO tm c mx with
 |none=>simp[h1] at hb
 |some m'=>
  cases h2:natO tm n hi with
  |none=>simp[h1,h2] at hb
  |some e'=>
   cases h3:natO tm 0 lo with
   |none=>simp[h1,h2,h3] at hb
   |some l'=>
    simp only[h1,h2,h3,og_eq,Option.some.injEq,Prod.mk.injEq] at hb
    obtain⟨hb1,hb2,rfl,rfl,rfl⟩:=hb
    unfold bnds at hb1
    cases h4:Nat.ble l' e' with
    |false=>simp[h4] at hb1
    |true=>
     simp only[h4] at hb1
     exact⟨rfl,rfl,rfl,Nat.le_of_ble_eq_true h4,Nat.le_of_ble_eq_true hb1,Nat.le_of_ble_eq_true hb2⟩
theorem bounds_sound (hρ:OpsAre φ tm ρ){sl:Bool}{n c C l e m:Nat}{lo hi mx:Option Operand}{lo' hi' mx':Option Opd}(h1:opdO lo=some lo')(h2:opdO hi=some hi')(h3:opdO mx=some mx')
  (hb:bnd3 tm n c lo' hi' mx'=some (l,e,m)) (hC:c≤C) (hm:(hi.isSome||mx.isNone)=true):
  (Instr.sliceBounds sl n C (lo.map ρ) (hi.map ρ) (mx.map ρ)).run P w=.ok (l,e,if mx.isSome then m else C) w:=by
 obtain⟨e1,e2,e3,l1,l2,l3⟩:=bnd3_eq hb
 rcases natO_eq hρ h3 e1 with⟨rfl,rfl,rfl⟩|⟨x3,x3',rfl,rfl,k3,r3⟩
 ·rcases natO_eq hρ h2 e2 with⟨rfl,rfl,rfl⟩|⟨x2,x2',rfl,rfl,k2,r2⟩
  ·rcases natO_eq hρ h1 e3 with⟨rfl,rfl,rfl⟩|⟨x1,x1',rfl,rfl,k1,r1⟩
   ·simp[Instr.sliceBounds]
   ·simp[Instr.sliceBounds,r1,bound_ok l1]
  ·rcases natO_eq hρ h1 e3 with⟨rfl,rfl,rfl⟩|⟨x1,x1',rfl,rfl,k1,r1⟩
   ·simp[Instr.sliceBounds,r2,bound_ok (show e≤C by omega)]
   ·simp[Instr.sliceBounds,r1,r2,bound_ok l1,bound_ok (show e≤C by omega)]
 ·rcases natO_eq hρ h2 e2 with⟨rfl,rfl,rfl⟩|⟨x2,x2',rfl,rfl,k2,r2⟩
  ·simp at hm
  ·rcases natO_eq hρ h1 e3 with⟨rfl,rfl,rfl⟩|⟨x1,x1',rfl,rfl,k1,r1⟩
   ·simp[Instr.sliceBounds,r2,r3,bound_ok l2,bound_ok (show m≤C by omega)]
   ·simp[Instr.sliceBounds,r1,r2,r3,bound_ok l1,bound_ok l2,bound_ok (show m≤C by omega)]
theorem slkOk_eq {b a o n sz:Nat}(hk:slkOk h b a o n sz=true):∃cs,h.get b=some (.cells (.gr sz) cs)∧o=a*sz∧o+n*sz≤cs.length:=by
 unfold slkOk at hk
 split at hk
 ·rename_i s cs hg
  cases h1:Nat.beq s sz with
  |false=>simp[h1] at hk
  |true=>
   cases h2:Nat.beq o (a*sz) with
   |false=>simp[h1,h2] at hk
   |true=>
    simp only[h1,h2] at hk
    have e1:=Nat.eq_of_beq_eq_true h1
    have e2:=Nat.eq_of_beq_eq_true h2
    have e3:=Nat.le_of_ble_eq_true hk
    rw[lenN_eq] at e3
    subst e1
    exact⟨cs,hg,e2,e3⟩
 ·cases hk
theorem slk_room {g:Nat→Option Blk}(hR:Rep Ty φ g p w){b a o n sz:Nat}{cs:List V}(hb:g b=some (.cells (.gr sz) cs))(h0:0<sz)(ho:o=a*sz)(hn:o+n*sz≤cs.length):a+n≤φ.cap b:=by
 obtain⟨C,e,fz,_,_,_,_,hg⟩:=hR.row hb
 obtain⟨_,h2⟩:=hg sz rfl
 have:(a+n)*sz≤φ.cap b*sz:=by rw[Nat.add_mul];omega
 exact Nat.le_of_mul_le_mul_right this h0
theorem q_slice (hT:TyOK P Ty)(hR:Rep Ty φ h.get p w)(hρ:OpsAre φ tm ρ){t:TypeId}{d:TD}(hd:Ty t=some d){e:Nat}(hu:d.u=.slice e){de:TD}(he:Ty e=some de)(h0:0<de.size)
  {x:Operand} {x':Opd} (hx:opd x=some x') {lo hi mx:Option Operand} {lo' hi' mx':Option Opd} (h1:opdO lo=some lo') (h2:opdO hi=some hi') (h3:opdO mx=some mx')
  (hm:(hi.isSome||mx.isNone)=true) {v:V} (hv:q_slc tm h de.size (x'.ev tm) lo' hi' mx'=some v) (hs:(x'.ev tm).sc p):
  (Instr.sliceAt t (ρ x) (lo.map ρ) (hi.map ρ) (mx.map ρ)).run P w=.ok (conc φ v) w∧v.sc p:=by
 obtain⟨ti,u,hi0⟩:=hT t d hd
 have his:=hi0.is;rw[hu] at his
 have:=is_slice his;subst this
 obtain⟨ei,eu,hei⟩:=hT e de he
 rw[hρ x x' hx]
 have hmx:mx=none↔mx'=none:=by
  cases mx with
  |none=>cases h3;simp
  |some y=>simp only[opdO] at h3;cases hy:opd y<;>simp[hy] at h3;subst h3;simp
 unfold q_slc at hv
 split at hv
 ·rename_i ex
  rw[ex]
  cases hb:bnd3 tm 0 0 lo' hi' mx' with
  |none=>simp[hb] at hv
  |some r=>
   obtain⟨l,en,m⟩:=r
   simp only[hb,Option.some.injEq] at hv
   subst hv
   obtain⟨_,_,_,l1,l2,l3⟩:=bnd3_eq hb
   have z1:l=0:=by omega
   have z2:en=0:=by omega
   have z3:m=0:=by omega
   subst z1 z2 z3
   have:=bounds_sound (P:=P) (w:=w) (sl:=true) hρ h1 h2 h3 hb (Nat.le_refl 0) hm
   simp[Instr.sliceAt,hi0.r_under,Instr.slice,conc,this,hei.r_size,V.sc]
 ·rename_i b o n c ex
  rw[ex] at hs⊢
  cases c with
  |fix c=>
   simp only[subO] at hv
   cases hb:bnd3 tm n c lo' hi' mx' with
   |none=>simp[hb] at hv
   |some r=>
    obtain⟨l,en,m⟩:=r
    simp only[hb,Option.some.injEq,sub] at hv
    subst hv
    obtain⟨e1,_,_,l1,l2,l3⟩:=bnd3_eq hb
    have hb2:=bounds_sound (P:=P) (w:=w) (sl:=true) hρ h1 h2 h3 hb (Nat.le_refl c) hm
    have hmm:(if mx.isSome then m else c)=m:=by
     cases mx with
     |none=>have:=hmx.1 rfl;subst this;simp only[natO,Option.some.injEq] at e1;simp[e1]
     |some y=>simp
    rw[hmm] at hb2
    refine⟨?_,hs⟩
    simp only[Instr.sliceAt,Sem.run_bind,hi0.r_under,Result.andThen,Instr.slice,conc,hb2,hei.r_size,Sem.run_pure,bsel_beq,Option.map_some,at_add]
    by_cases hml:m=l<;>simp[hml]
  |slk a q=>
   simp only[og_eq] at hv
   obtain⟨hk,hv⟩:=hv
   obtain⟨cs,hg,ho,hl⟩:=slkOk_eq hk
   have hroom:=slk_room hR hg h0 ho hl
   cases mx' with
   |some y=>
    simp only[og_eq,subO] at hv
    obtain⟨hn0,hv⟩:=hv
    have hn0:0<n:=by simpa[Nat.blt_eq] using hn0
    cases hb:bnd3 tm n n lo' hi' (some y) with
    |none=>simp[hb] at hv
    |some r=>
     obtain⟨l,en,m⟩:=r
     simp only[hb,Option.some.injEq,sub] at hv
     subst hv
     have hb2:=bounds_sound (P:=P) (w:=w) (sl:=true) (C:=φ.cap b-a) hρ h1 h2 h3 hb (by omega) hm
     have hmm:mx.isSome=true:=by cases mx with|none=>cases h3|some y=>rfl
     rw[hmm] at hb2
     refine⟨?_,hs⟩
     have hna:¬(n=0∧φ.cap b≤a):=by omega
     simp only[Instr.sliceAt,Sem.run_bind,hi0.r_under,Result.andThen,Instr.slice,conc,hb2,hei.r_size,Sem.run_pure,bsel_beq,Option.map_some,at_add,hna,if_false,if_true]
     by_cases hml:m=l<;>simp[hml]
   |none=>
    have hmn:=hmx.2 rfl;subst hmn
    simp only[subS] at hv
    have hrm:n≤slkRoom h b o de.size∧a+slkRoom h b o de.size≤φ.cap b:=by
     have e1:slkRoom h b o de.size=(cs.length-o)/de.size:=by simp only[slkRoom,hg,lenN_eq]
     have e2:=Nat.div_mul_le_self (cs.length-o) de.size
     rw[e1]
     exact⟨(Nat.le_div_iff_mul_le h0).2 (by omega),slk_room hR hg h0 ho (by omega)⟩
    cases hb:bnd3 tm n (slkRoom h b o de.size) lo' hi' none with
    |none=>simp[hb] at hv
    |some r=>
     obtain⟨l,en,m⟩:=r
     simp only[hb] at hv
     obtain⟨_,_,_,l1,l2,l3⟩:=bnd3_eq hb
     have hb2:=bounds_sound (P:=P) (w:=w) (sl:=true) (C:=φ.cap b-a) hρ h1 h2 h3 hb (by omega) hm
     simp only[Option.isSome_none,Bool.false_eq_true,if_false] at hb2
     cases hn0:Nat.blt 0 (n+en) with
     |true=>
      have hn:0<n+en:=by simpa[Nat.blt_eq] using hn0
      simp only[hn0,Option.some.injEq] at hv
      subst hv
      refine⟨?_,hs⟩
      have hna:¬(n=0∧φ.cap b≤a):=by omega
      simp only[Instr.sliceAt,Sem.run_bind,hi0.r_under,Result.andThen,Instr.slice,conc,hb2,hei.r_size,Sem.run_pure,Option.map_some,at_add,hna,if_false]
      have hsub:φ.cap b-a-l=φ.cap b-(a+l):=by omega
      by_cases hml:φ.cap b-a=l
      ·have h5:φ.cap b≤a+l:=by omega
       have h6:en-l=0:=by omega
       simp[hml,h5,h6,hsub]
      ·have h5:¬φ.cap b≤a+l:=by omega
       simp[hml,h5,hsub]
     |false=>
      have hn:n+en=0:=by
       rcases Nat.eq_zero_or_pos (n+en) with h'|h'
       ·exact h'
       ·have:Nat.blt 0 (n+en)=true:=by rw[Nat.blt_eq];exact h'
        rw[this] at hn0;cases hn0
      simp only[hn0,Option.some.injEq] at hv
      have hn1:n=0:=by omega
      subst hv hn1
      have z1:l=0:=by omega
      have z2:en=0:=by omega
      subst z1 z2
      refine⟨?_,hs⟩
      simp only[Instr.sliceAt,Sem.run_bind,hi0.r_under,Result.andThen,Instr.slice,conc,hb2,hei.r_size,Sem.run_pure,Option.map_some,at_add,Nat.zero_mul,Nat.add_zero,Nat.sub_zero,ite_self]
 ·cases hv
theorem q_slicearr (hT:TyOK P Ty)(hρ:OpsAre φ tm ρ){t:TypeId}{d:TD}(hd:Ty t=some d){n e:Nat}(hu:d.u=.arr n e){de:TD}(he:Ty e=some de)
  {x:Operand} {x':Opd} (hx:opd x=some x') {lo hi mx:Option Operand} {lo' hi' mx':Option Opd} (h1:opdO lo=some lo') (h2:opdO hi=some hi') (h3:opdO mx=some mx')
  (hm:(hi.isSome||mx.isNone)=true) {v:V} (hv:q_sla tm n de.size (x'.ev tm) lo' hi' mx'=some v) (hs:(x'.ev tm).sc p):
  (Instr.sliceAt t (ρ x) (lo.map ρ) (hi.map ρ) (mx.map ρ)).run P w=.ok (conc φ v) w∧v.sc p:=by
 obtain⟨ti,u,hi0⟩:=hT t d hd
 have his:=hi0.is;rw[hu] at his
 have:=is_arr his;subst this
 obtain⟨ei,eu,hei⟩:=hT e de he
 rw[hρ x x' hx]
 unfold q_sla at hv
 split at hv
 ·rename_i b o ex
  rw[ex] at hs⊢
  simp only[subO] at hv
  cases hb:bnd3 tm n n lo' hi' mx' with
  |none=>simp[hb] at hv
  |some r=>
   obtain⟨l,en,m⟩:=r
   simp only[hb,Option.some.injEq,sub] at hv
   subst hv
   obtain⟨e1,_,_,l1,l2,l3⟩:=bnd3_eq hb
   have hb2:=bounds_sound (P:=P) (w:=w) (sl:=false) hρ h1 h2 h3 hb (Nat.le_refl n) hm
   have hmm:(if mx.isSome then m else n)=m:=by
    cases mx with
    |none=>cases h3;simp only[natO,Option.some.injEq] at e1;simp[e1]
    |some y=>simp
   rw[hmm] at hb2
   refine⟨?_,hs⟩
   simp only[Instr.sliceAt,Sem.run_bind,hi0.r_under,Result.andThen,Instr.sureAddr,conc,hb2,hei.r_size,Sem.run_pure,bsel_beq,at_add]
   by_cases hml:m=l<;>simp[hml]
 ·cases hv
theorem q_index_slice (hT:TyOK P Ty)(hρ:OpsAre φ tm ρ){t:TypeId}{d:TD}(hd:Ty t=some d){e:Nat}(hu:d.u=.slice e){de:TD}(he:Ty e=some de)
  {x i:Operand} {x' i':Opd} (hx:opd x=some x') (hi':opd i=some i') {v:V} (hv:q_iad de.size (x'.ev tm) (i'.ev tm)=some v) (hs:(x'.ev tm).sc p):
  (Instr.indexAt t (ρ x) (ρ i)).run P w=.ok (conc φ v) w∧v.sc p:=by
 obtain⟨ti,u,hi0⟩:=hT t d hd
 have his:=hi0.is;rw[hu] at his
 have:=is_slice his;subst this
 obtain⟨ei,eu,hei⟩:=hT e de he
 rw[hρ x x' hx,hρ i i' hi']
 unfold q_iad at hv
 cases hk:nat? (i'.ev tm) with
 |none=>simp[hk] at hv
 |some k=>
  simp only[hk] at hv
  rw[nat?_eq hk]
  split at hv
  ·rename_i b o n c ex
   rw[ex] at hs⊢
   simp only[og_eq,Option.some.injEq] at hv
   obtain⟨hlt,rfl⟩:=hv
   have hlt:k<n:=by simpa[Nat.blt_eq] using hlt
   have hlt':(k:Int)<(n:Int):=by omega
   have hn0:∀a,¬(n=0∧φ.cap b≤a):=fun a=>by omega
   refine⟨?_,hs⟩
   cases c<;>simp[Instr.indexAt,asIntOf,hi0.r_under,conc,hlt,hei.r_size,at_add,hn0]
  ·cases hv
theorem q_index_arr (hT:TyOK P Ty)(hρ:OpsAre φ tm ρ){t:TypeId}{d:TD}(hd:Ty t=some d){n e:Nat}(hu:d.u=.arr n e){de:TD}(he:Ty e=some de)
  {x i:Operand} {x' i':Opd} (hx:opd x=some x') (hi':opd i=some i') {v:V} (hv:q_iaa n de.size (x'.ev tm) (i'.ev tm)=some v) (hs:(x'.ev tm).sc p):
  (Instr.indexAt t (ρ x) (ρ i)).run P w=.ok (conc φ v) w∧v.sc p:=by
 obtain⟨ti,u,hi0⟩:=hT t d hd
 have his:=hi0.is;rw[hu] at his
 have:=is_arr his;subst this
 obtain⟨ei,eu,hei⟩:=hT e de he
 rw[hρ x x' hx,hρ i i' hi']
 unfold q_iaa at hv
 cases hk:nat? (i'.ev tm) with
 |none=>simp[hk] at hv
 |some k=>
  simp only[hk] at hv
  rw[nat?_eq hk]
  split at hv
  ·rename_i b o ex
   rw[ex] at hs⊢
   simp only[og_eq,Option.some.injEq] at hv
   obtain⟨hlt,rfl⟩:=hv
   have hlt:k<n:=by simpa[Nat.blt_eq] using hlt
   have hlt':(k:Int)<(n:Int):=by omega
   refine⟨?_,hs⟩
   simp[Instr.indexAt,Instr.sureAddr,asIntOf,hi0.r_under,conc,hlt,hei.r_size,at_add]
  ·cases hv
theorem q_index_val (hT:TyOK P Ty)(hρ:OpsAre φ tm ρ){t:TypeId}{d:TD}(hd:Ty t=some d){n e:Nat}(hu:d.u=.arr n e){de:TD}(he:Ty e=some de)
  {x i:Operand} {x' i':Opd} (hx:opd x=some x') (hi':opd i=some i') {v:V} (hv:q_idx de.u.agg n de.size (x'.ev tm) (i'.ev tm)=some v) (hs:(x'.ev tm).sc p):
  (Instr.index t (ρ x) (ρ i)).run P w=.ok (conc φ v) w∧v.sc p:=by
 obtain⟨ti,u,hi0⟩:=hT t d hd
 have his:=hi0.is;rw[hu] at his
 have:=is_arr his;subst this
 obtain⟨ei,eu,hei⟩:=hT e de he
 rw[hρ x x' hx,hρ i i' hi']
 unfold q_idx at hv
 cases hk:nat? (i'.ev tm) with
 |none=>simp[hk] at hv
 |some k=>
  simp only[hk] at hv
  rw[nat?_eq hk]
  split at hv
  ·rename_i cs ex
   rw[ex] at hs⊢
   simp only[og_eq] at hv
   obtain⟨hlt,hv⟩:=hv
   have hlt:k<n:=by simpa[Nat.blt_eq] using hlt
   have hlt':(k:Int)<(n:Int):=by omega
   obtain⟨h1,h2⟩:=part_sound (P:=P) (p:=p) (φ:=φ) (w:=w) hT he hv
   refine⟨?_,h2 hs⟩
   simp[Instr.index,asIntOf,hi0.r_under,conc,concs_eq,hlt,hei.r_size] at h1⊢
   exact h1
  ·cases hv
theorem q_field (hT:TyOK P Ty)(hρ:OpsAre φ tm ρ){t:TypeId}{d:TD}(hd:Ty t=some d){fs:List (Nat × Nat)}(hu:d.u=.struct fs){i o ft:Nat}(hf:fs[i]? =some (o,ft)){df:TD}(hdf:Ty ft=some df)
  {x:Operand} {x':Opd} (hx:opd x=some x') {v:V} (hv:q_fld df.u.agg df.size o (x'.ev tm)=some v) (hs:(x'.ev tm).sc p):
  (Instr.field t (ρ x) i).run P w=.ok (conc φ v) w∧v.sc p:=by
 obtain⟨ti,u,hi0⟩:=hT t d hd
 have his:=hi0.is;rw[hu] at his
 obtain⟨gs,rfl,e,_⟩:=is_struct his
 rw[e,List.getElem?_map] at hf
 cases hg:gs.toList[i]? with
 |none=>simp[hg] at hf
 |some f=>
  simp only[hg,Option.map_some,Option.some.injEq,Prod.mk.injEq] at hf
  obtain⟨rfl,rfl⟩:=hf
  have hg':gs[i]? =some f:=by simpa using hg
  rw[hρ x x' hx]
  unfold q_fld at hv
  split at hv
  ·rename_i cs ex
   rw[ex] at hs⊢
   obtain⟨h1,h2⟩:=part_sound (P:=P) (p:=p) (φ:=φ) (w:=w) hT hdf hv
   refine⟨?_,h2 hs⟩
   simp[Instr.field,hi0.r_under,hg',asAgg,conc,concs_eq] at h1⊢
   exact h1
  ·cases hv
end
end Go.Ab
