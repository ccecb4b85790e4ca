/- Building, slicing, fields and places. -/
import Derived.Test.YtiphdfiihgbomabGreatAb5
set_option linter.unusedSimpArgs false
set_option linter.unusedVariables false
namespace Go.Ab
section
variable {P:Program} {Ty:Nat→Option TD} {φ:Phi} {p:Nat→Prop} {w:World} {h:H} {tm:T V} {ρ:Operand→Value}
theorem fold_set (off:Nat):∀(vs:List Value) (k:Nat) (cells:Array Value),off+k+vs.length≤cells.size→
  ((vs.zipIdx k).foldl (fun(cs:Array Value) (x:Value × Nat)=>cs.setIfInBounds (off+x.2) x.1) cells).toList=cells.toList.take (off+k)++vs++cells.toList.drop (off+k+vs.length)
 |[],k,cells,_=>by simp
 |v::vs,k,cells,hl=>by
  have ih:=fold_set off vs (k+1) (cells.setIfInBounds (off+k) v) (by simp at hl⊢;omega)
  simp only[List.zipIdx_cons,List.foldl_cons,ih,Array.toList_setIfInBounds]
  have:=list_seg_step cells.toList (off+k) v vs (by simp at hl⊢;omega)
  simpa[Nat.add_assoc] using this
theorem putN_sound {o:Nat}{vs z z':List V}(hz:putN o vs z=some z'):z'=z.take o++vs++z.drop (o+vs.length)∧(vs≠[]→o+vs.length≤z.length):=by
 cases vs with
 |nil=>
  have:∀(o:Nat) (z z':List V),putN o [] z=some z'→z'=z:=by
   intro o
   induction o with
   |zero=>intro z z' h;simp only[putN,over,Option.some.injEq] at h;exact h.symm
   |succ o ih=>
    intro z z' h
    cases z with
    |nil=>simp only[putN,Option.some.injEq] at h;exact h.symm
    |cons x z=>
     simp only[putN] at h
     cases hp:putN o [] z with
     |none=>simp[hp] at h
     |some r=>simp only[hp,Option.some.injEq] at h;rw[←h,ih z r hp]
  rw[this o z z' hz]
  simp
 |cons v vs=>have:=(putN_eq (o:=o) (vs:=v::vs) (l:=z) (r:=z') (by simp)).1 hz;exact⟨this.1,fun _=>this.2⟩
theorem fill_sound (hρ:OpsAre φ tm ρ)(hs:TmSc p tm){place place':Nat→Option (Nat × Nat)}(hp:∀i r,place' i=some r→place i=some r):
  ∀{ps:List (Nat × Operand)} {l:List (Nat × Nat × Opd)} {z z':List V},partsAt place' ps=some l→(∀i r,place' i=some r→0<r.2)→fillN tm l z=some z'→
  Instr.fill place (z.map (conc φ)).toArray (ps.map fun x=>(x.1,ρ x.2))=some (z'.map (conc φ)).toArray∧(scL p z→scL p z')
 |[],l,z,z',hl,_,hz=>by
  cases hl
  simp only[fillN,Option.some.injEq] at hz
  subst hz
  exact⟨rfl,id⟩
 |(i,x)::ps,l,z,z',hl,h0,hz=>by
  simp only[partsAt] at hl
  cases h1:place' i with
  |none=>simp[h1] at hl
  |some r=>
   obtain⟨o,n⟩:=r
   cases h2:opd x with
   |none=>simp[h1,h2] at hl
   |some y=>
    cases h3:partsAt place' ps with
    |none=>simp[h1,h2,h3] at hl
    |some l'=>
     simp only[h1,h2,h3,Option.some.injEq] at hl
     subst hl
     simp only[fillN] at hz
     cases hn:Nat.beq (lenN (y.ev tm).cells) n with
     |false=>simp[hn] at hz
     |true=>
      have hn':(y.ev tm).cells.length=n:=by have:=Nat.eq_of_beq_eq_true hn;rwa[lenN_eq] at this
      simp only[hn] at hz
      cases hq:putN o (y.ev tm).cells z with
      |none=>simp[hq] at hz
      |some z1=>
       simp only[hq] at hz
       obtain⟨e1,e2⟩:=putN_sound hq
       have hpos:=h0 i _ h1
       have hne:(y.ev tm).cells≠[]:=by intro e;rw[e] at hn';simp at hn';simp at hpos;omega
       have hle:=e2 hne
       obtain⟨ih1,ih2⟩:=fill_sound (ps:=ps) (l:=l') (z:=z1) (z':=z') hρ hs hp h3 h0 hz
       constructor
       ·simp only[List.map_cons,Instr.fill,hp i _ h1]
        have hc:(ρ x).cells=((y.ev tm).cells.map (conc φ)).toArray:=by rw[hρ x y h2,conc_cells]
        have hsz:(ρ x).cells.size=n:=by rw[hc];simp[hn']
        have hcond:((ρ x).cells.size≠n||o+(ρ x).cells.size>(z.map (conc φ)).toArray.size)=false:=by
         simp only[hsz,List.size_toArray,List.length_map]
         simp;omega
        simp only[hcond,Bool.false_eq_true,if_false]
        rw[←ih1]
        congr 1
        rw[hc]
        apply Array.ext'
        rw[←Array.foldl_toList,Array.toList_zipIdx]
        have:=fold_set o ((y.ev tm).cells.map (conc φ)) 0 (z.map (conc φ)).toArray (by simp;omega)
        simp only[Nat.add_zero,List.length_map] at this
        refine Eq.trans this ?_
        rw[e1]
        simp[List.map_take,List.map_drop]
       ·intro hz0
        refine ih2 ?_
        rw[e1]
        have hsy:scL p (y.ev tm).cells:=by
         have:=ev_sc hs h2
         cases hv:y.ev tm<;>rw[hv] at this<;>first|exact this|exact⟨this,trivial⟩
        rw[scL_iff] at hz0 hsy⊢
        intro v hv
        simp only[List.mem_append] at hv
        rcases hv with(hv|hv)|hv
        ·exact hz0 v (List.mem_of_mem_take hv)
        ·exact hsy v hv
        ·exact hz0 v (List.mem_of_mem_drop hv)
theorem is_struct {fs:List (Nat × Nat)}{u:TypeDesc}(h:(UD.struct fs).is u):∃gs,u=.struct gs∧fs=gs.toList.map (fun f=>(f.offset,f.type))∧∀f∈gs.toList,f.name≠ "_" :=by
 cases u<;>simp only[UD.is] at h
 exact⟨_,rfl,h⟩
theorem is_arr {n e:Nat}{u:TypeDesc}(h:(UD.arr n e).is u):u=.array n e:=by
 cases u<;>simp only[UD.is] at h
 obtain⟨rfl,rfl⟩:=h;rfl
theorem is_slice {e:Nat}{u:TypeDesc}(h:(UD.slice e).is u):u=.slice e:=by
 cases u<;>simp only[UD.is] at h
 subst h;rfl
theorem is_map {k e:Nat}{u:TypeDesc}(h:(UD.map k e).is u):u=.map k e:=by
 cases u<;>simp only[UD.is] at h
 obtain⟨rfl,rfl⟩:=h;rfl
theorem is_ptr {e:Nat}{u:TypeDesc}(h:(UD.ptr e).is u):u=.pointer e:=by
 cases u<;>simp only[UD.is] at h
 subst h;rfl
theorem is_int {k:IntKind}{u:TypeDesc}(h:(UD.int k).is u):u=.int k:=by
 cases u<;>simp only[UD.is] at h
 subst h;rfl
theorem is_bool {u:TypeDesc}(h:UD.bool.is u):u=.bool:=by
 cases u<;>simp only[UD.is] at h
 rfl
theorem fieldAtN_eq {fs:List (Nat × Nat)}{i o n:Nat}(h:fieldAtN Ty fs i=some (o,n)):∃t d,fs[i]? =some (o,t)∧Ty t=some d∧d.size=n∧0<n:=by
 unfold fieldAtN at h
 cases h1:fs[i]? with
 |none=>simp[h1] at h
 |some x=>
  obtain⟨o',t⟩:=x
  cases h2:Ty t with
  |none=>simp[h1,h2] at h
  |some d=>
   simp only[h1,h2] at h
   cases h3:d.size with
   |zero=>simp[h3] at h
   |succ k=>
    simp only[h3,Option.some.injEq,Prod.mk.injEq] at h
    obtain⟨rfl,rfl⟩:=h
    exact⟨t,d,rfl,h2,h3,by omega⟩
theorem run_places (hT:TyOK P Ty):∀(gs:List Field),(∀f∈gs,∃d,Ty f.type=some d)→
  (gs.mapM fun f=>(do pure (f.offset,←sizeOf f.type):Sem (Nat × Nat))).run P w=.ok (gs.map fun f=>(f.offset,((Ty f.type).map (·.size)).getD 0)) w
 |[],_=>by simp
 |f::gs,h=>by
  obtain⟨d,hd⟩:=h f (by simp)
  obtain⟨i,u,hi⟩:=hT _ _ hd
  have ih:=run_places hT gs (fun f hf=>h f (by simp[hf]))
  simp only[List.mapM_cons,Sem.run_bind,hi.r_size,Result.andThen,Sem.run_pure,ih,List.map_cons,hd,Option.map_some,Option.getD_some]
theorem q_fieldAddr (hT:TyOK P Ty)(hρ:OpsAre φ tm ρ){t:TypeId}{d:TD}(hd:Ty t=some d){fs:List (Nat × Nat)}(hu:d.u=.struct fs){x:Operand}{x':Opd}(hx:opd x=some x')
  {i o n:Nat} (hf:fieldAtN Ty fs i=some (o,n)) {v:V} (hv:q_fad o (x'.ev tm)=some v) (hs:(x'.ev tm).sc p):(Instr.fieldAt t (ρ x) i).run P w=.ok (conc φ v) w∧v.sc p:=by
 obtain⟨ti,u,hi⟩:=hT t d hd
 have his:=hi.is;rw[hu] at his
 obtain⟨gs,rfl,e,_⟩:=is_struct his
 obtain⟨ft,fd,h1,h2,h3,h4⟩:=fieldAtN_eq hf
 rw[e,List.getElem?_map] at h1
 cases hg:gs.toList[i]? with
 |none=>simp[hg] at h1
 |some f=>
  simp only[hg,Option.map_some,Option.some.injEq,Prod.mk.injEq] at h1
  obtain⟨rfl,rfl⟩:=h1
  have hg':gs[i]? =some f:=by simpa using hg
  obtain⟨fi,fu,hfi⟩:=hT _ _ h2
  rw[hρ x x' hx]
  unfold q_fad at hv
  split at hv
  ·rename_i b o' ex
   rw[ex] at hs⊢
   cases hv
   have:¬fd.size=0:=by omega
   simp[Instr.fieldAt,hi.r_under,hg',Instr.sureAddr,conc,fieldPlace,hfi.r_size,this,at_add,V.sc] at hs⊢
   exact hs
  ·cases hv
theorem part_sound (hT:TyOK P Ty){t:TypeId}{d:TD}(hd:Ty t=some d){cs:List V}{off:Nat}{v:V}(hv:cellsAt d.u.agg d.size off cs=some v):
  (part t (cs.map (conc φ)).toArray off).run P w=.ok (conc φ v) w∧(scL p cs→v.sc p):=by
 obtain⟨i,u,hi⟩:=hT t d hd
 unfold part
 simp only[Sem.run_bind,hi.r_agg,Result.andThen]
 cases ha:d.u.agg with
 |true=>
  rw[ha] at hv
  simp only[cellsAt,aggO] at hv
  cases hl:getN off d.size cs with
  |none=>simp[hl] at hv
  |some l=>
   simp only[hl,Option.some.injEq] at hv
   subst hv
   obtain⟨rfl,hn⟩:=getN_eq.1 hl
   refine⟨?_,fun hc=>?_⟩
   ·simp only[if_true,Sem.run_bind,hi.r_size,Result.andThen,Sem.run_pure,conc,concs_eq]
    congr 2
    apply Array.ext'
    simp[List.map_take,List.map_drop,List.take_drop,Nat.add_comm]
   ·rw[scL_iff] at hc
    simp only[V.sc,scL_iff]
    exact fun v hv=>hc v (List.mem_of_mem_drop (List.mem_of_mem_take hv))
 |false=>
  rw[ha] at hv
  simp only[cellsAt,nth_eq] at hv
  have:(cs.map (conc φ)).toArray[off]? =some (conc φ v):=by simp[hv]
  refine⟨by simp[hv],fun hc=>scL_iff.1 hc v (List.mem_of_getElem? hv)⟩
theorem q_build_struct (hT:TyOK P Ty)(hρ:OpsAre φ tm ρ)(hs:TmSc p tm){t:TypeId}{d:TD}(hd:Ty t=some d){fs:List (Nat × Nat)}(hu:d.u=.struct fs)
  (hall:∀f∈fs,∃e,Ty f.2=some e) {ps:Array (Nat × Operand)} {l:List (Nat × Nat × Opd)} (hl:partsAt (fieldAtN Ty fs) ps.toList=some l) {v:V} (hv:aggO (fillN tm l d.z)=some v):
  (Instr.build t (ps.map fun(i,x)=>(i,ρ x))).run P w=.ok (conc φ v) w∧v.sc p:=by
 obtain⟨ti,u,hi⟩:=hT t d hd
 have his:=hi.is;rw[hu] at his
 obtain⟨gs,rfl,e,_⟩:=is_struct his
 unfold aggO at hv
 cases hf:fillN tm l d.z with
 |none=>simp[hf] at hv
 |some z'=>
  simp only[hf,Option.some.injEq] at hv
  subst hv
  have hpl:(gs.mapM fun f=>(do pure (f.offset,←sizeOf f.type):Sem (Nat × Nat))).run P w=.ok ((gs.toList.map fun f=>(f.offset,((Ty f.type).map (·.size)).getD 0)).toArray) w:=by
   rw[←Array.toArray_toList (xs:=gs),List.mapM_toArray]
   have:=run_places (P:=P) (w:=w) hT gs.toList (fun f hf=>hall (f.offset,f.type) (by rw[e];exact List.mem_map.2 ⟨f,hf,rfl⟩))
   simp only[Sem.run_map,this,Result.andThen]
  have hp:∀i r,fieldAtN Ty fs i=some r→((gs.toList.map fun f=>(f.offset,((Ty f.type).map (·.size)).getD 0)).toArray)[i]? =some r:=by
   rintro i ⟨o,n⟩ hr
   obtain⟨ft,fd,h1,h2,h3,h4⟩:=fieldAtN_eq hr
   rw[e,List.getElem?_map] at h1
   cases hg:gs.toList[i]? with
   |none=>simp[hg] at h1
   |some f=>
    simp only[hg,Option.map_some,Option.some.injEq,Prod.mk.injEq] at h1
    obtain⟨rfl,rfl⟩:=h1
    simp only[List.getElem?_toArray,List.getElem?_map,hg,Option.map_some,h2,Option.getD_some,h3]
  obtain⟨h1,h2⟩:=fill_sound (p:=p) hρ hs hp hl (fun i r hr=>by obtain⟨o,n⟩:=r;obtain⟨_,_,_,_,_,h4⟩:=fieldAtN_eq hr;exact h4) hf
  have e2:(ps.map fun(i,x)=>(i,ρ x)).toList=ps.toList.map fun x=>(x.1,ρ x.2):=by simp
  have hz:(zeroOf d).cells=(d.z.map (conc φ)).toArray:=zeroOf_cells hi φ
  refine⟨?_,?_⟩
  ·simp only[Instr.build,Sem.run_bind,hi.r_zero,Result.andThen,hi.r_under,hpl,e2,hz,h1,Sem.run_pure,conc,concs_eq]
  ·exact h2 (scL_mono (fun _ h=>h.elim) _ hi.sc)
theorem q_build_arr (hT:TyOK P Ty)(hρ:OpsAre φ tm ρ)(hs:TmSc p tm){t:TypeId}{d:TD}(hd:Ty t=some d){n e:Nat}(hu:d.u=.arr n e){de:TD}(he:Ty e=some de)(h0:0<de.size)
  {ps:Array (Nat × Operand)} {l:List (Nat × Nat × Opd)} (hl:partsAt (fun i=>some (i*de.size,de.size)) ps.toList=some l) {v:V} (hv:aggO (fillN tm l d.z)=some v):
  (Instr.build t (ps.map fun(i,x)=>(i,ρ x))).run P w=.ok (conc φ v) w∧v.sc p:=by
 obtain⟨ti,u,hi⟩:=hT t d hd
 have his:=hi.is;rw[hu] at his
 have:=is_arr his;subst this
 obtain⟨ei,eu,hei⟩:=hT e de he
 unfold aggO at hv
 cases hf:fillN tm l d.z with
 |none=>simp[hf] at hv
 |some z'=>
  simp only[hf,Option.some.injEq] at hv
  subst hv
  obtain⟨h1,h2⟩:=fill_sound (p:=p) hρ hs (fun i r hr=>hr) hl (fun i r hr=>by cases hr;exact h0) hf
  have e2:(ps.map fun(i,x)=>(i,ρ x)).toList=ps.toList.map fun x=>(x.1,ρ x.2):=by simp
  have hz:(zeroOf d).cells=(d.z.map (conc φ)).toArray:=zeroOf_cells hi φ
  refine⟨?_,h2 (scL_mono (fun _ h=>h.elim) _ hi.sc)⟩
  simp only[Instr.build,Sem.run_bind,hi.r_zero,Result.andThen,hi.r_under,hei.r_size,e2,hz,h1,Sem.run_pure,conc,concs_eq]
end
end Go.Ab
