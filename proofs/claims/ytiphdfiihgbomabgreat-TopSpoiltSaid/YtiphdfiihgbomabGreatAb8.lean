/- Comparing rows, looking up in maps; all operations that only read. -/
import Derived.Test.YtiphdfiihgbomabGreatAb7
import Derived.ChangeKeysEq
import Derived.Laws.StructEq
import Derived.MapKept
set_option linter.unusedSimpArgs false
set_option linter.unusedVariables false
namespace Go.Ab
section
variable {P:Program} {Ty:Nat→Option TD} {φ:Phi} {p:Nat→Prop} {w:World} {h:H} {tm:T V} {ρ:Operand→Value}
theorem info_size (hT:TyOK P Ty){t:TypeId}{d:TD}(hd:Ty t=some d):P.cellsOf t=d.size:=by
 obtain⟨i,u,hi⟩:=hT t d hd
 simp[Program.cellsOf,hi.info,hi.size]
theorem sameInts_len {l r:List V}{e:Bool}(hs:sameInts l r=some e):l.length=r.length:=by
 induction l generalizing r e with
 |nil=>cases r<;>simp[sameInts] at hs⊢
 |cons a l ih=>
  unfold sameInts at hs
  split at hs
  ·cases ‹a::l=[]›
  ·rename_i j x l' k y r' e1
   simp only[List.cons.injEq] at e1
   obtain⟨rfl,rfl⟩:=e1
   cases hk:keq j k with
   |false=>simp[hk] at hs
   |true=>
    simp only[hk] at hs
    cases hi:ieq x y with
    |true=>simp only[hi] at hs;simp[ih hs]
    |false=>
     simp only[hi] at hs
     cases h2:sameInts l r' with
     |none=>simp[h2] at hs
     |some b=>simp[ih h2]
  ·cases hs
theorem sameInts_eq (j:IntKind)(a b:Int)(l r:List V)(h:ieq a b=true):sameInts (.int j a::l) (.int j b::r)=sameInts l r:=by simp[sameInts,h]
theorem sameInts_ne (j:IntKind)(a b:Int)(l r:List V)(h:ieq a b=false):sameInts (.int j a::l) (.int j b::r)=(sameInts l r).map fun _=>false:=by
 simp only[sameInts,keq_self,h];cases sameInts l r<;>rfl
theorem sameInts_append {l1 l2 r1 r2:List V}(hl:l1.length=r1.length){e:Bool}(hs:sameInts (l1++l2) (r1++r2)=some e):
  ∃e1 e2,sameInts l1 r1=some e1∧sameInts l2 r2=some e2∧e=(e1&&e2):=by
 induction l1 generalizing r1 e with
 |nil=>
  cases r1 with
  |nil=>exact⟨true,e,rfl,hs,by simp⟩
  |cons=>simp at hl
 |cons a l1 ih=>
  cases r1 with
  |nil=>simp at hl
  |cons b r1=>
   simp only[List.cons_append] at hs
   unfold sameInts at hs
   split at hs
   ·cases ‹a::(l1++l2)=[]›
   ·rename_i j x l' k y r' e1 e2
    simp only[List.cons.injEq] at e1 e2
    obtain⟨rfl,rfl⟩:=e1
    obtain⟨rfl,rfl⟩:=e2
    cases hk:keq j k with
    |false=>simp[hk] at hs
    |true=>
     have:=keq_eq.1 hk;subst this
     simp only[hk] at hs
     cases hi:ieq x y with
     |true=>
      simp only[hi] at hs
      rw[sameInts_eq j x y l1 r1 hi]
      exact ih (by simpa using hl) hs
     |false=>
      simp only[hi] at hs
      rw[sameInts_ne j x y l1 r1 hi]
      cases h2:sameInts (l1++l2) (r1++r2) with
      |none=>simp[h2] at hs
      |some b=>
       simp only[h2,Option.some.injEq] at hs
       obtain⟨e1,e2,h3,h4,h5⟩:=ih (by simpa using hl) h2
       exact⟨false,e2,by simp[h3],h4,by simp[←hs]⟩
   ·cases hs
theorem flat_size (hT:TyOK P Ty):∀{f t n:Nat} {d:TD},flatN Ty f t=some n→Ty t=some d→d.size=n
 |0,_,_,_,hf,_=>by simp[flatN] at hf
 |f+1,t,n,d,hf,hd=>by
  simp only[flatN,hd] at hf
  split at hf
  ·rename_i k hu
   cases hf
   obtain⟨i,u,hi⟩:=hT t d hd
   obtain⟨v,hv,_⟩:=hi.one (by simp[hu,UD.agg])
   have:=hi.len;rw[hv] at this;simpa using this.symm
  ·rename_i m e hu
   cases he:flatN Ty f e with
   |none=>simp[he] at hf
   |some k=>
    simp only[he] at hf
    cases hb:Nat.beq (m*k) d.size with
    |false=>simp[hb] at hf
    |true=>simp only[hb,Option.some.injEq] at hf;rw[←hf];exact(Nat.eq_of_beq_eq_true hb).symm
  ·rename_i fs hu
   cases he:flatF (flatN Ty f) fs 0 with
   |none=>simp[he] at hf
   |some k=>
    simp only[he] at hf
    cases hb:Nat.beq k d.size with
    |false=>simp[hb] at hf
    |true=>simp only[hb,Option.some.injEq] at hf;rw[←hf];exact(Nat.eq_of_beq_eq_true hb).symm
  ·cases hf
theorem flat_type {f t n:Nat}(hf:flatN Ty f t=some n):∃d,Ty t=some d:=by
 cases f with
 |zero=>simp[flatN] at hf
 |succ f=>
  simp only[flatN] at hf
  cases hd:Ty t with
  |none=>simp[hd] at hf
  |some d=>exact⟨d,rfl⟩
theorem part_ints (hT:TyOK P Ty){t:TypeId}{d:TD}(hd:Ty t=some d){xs l:List V}{off:Nat}(hx:(xs.drop off).take d.size=l)(hl:l.length=d.size):
  (part t (xs.map (conc φ)).toArray off).run P w=.ok (if d.u.agg then .agg (l.map (conc φ)).toArray else conc φ (l.headD .und)) w:=by
 cases ha:d.u.agg with
 |true=>
  have:cellsAt d.u.agg d.size off xs=some (.agg l):=by
   rw[ha];simp only[cellsAt,aggO]
   rw[getN_eq.2 ⟨hx.symm,by rw[←hl,←hx];simp;omega⟩]
  have:=(part_sound (P:=P) (p:=fun _=>True) (φ:=φ) (w:=w) hT hd this).1
  simpa[conc,concs_eq] using this
 |false=>
  obtain⟨i,u,hi⟩:=hT t d hd
  obtain⟨z,hz,_⟩:=hi.one ha
  have hs:d.size=1:=by have:=hi.len;rw[hz] at this;simpa using this.symm
  rw[hs] at hx hl
  match l,hl with
  |[v],_=>
   have hv:xs[off]? =some v:=by
    have:(xs.drop off)[0]? =some v:=by
     have:=congrArg (fun l=>l[0]?) hx
     simpa using this
    simpa using this
   have:cellsAt d.u.agg d.size off xs=some v:=by rw[ha];simp[cellsAt,nth_eq,hv]
   have:=(part_sound (P:=P) (p:=fun _=>True) (φ:=φ) (w:=w) hT hd this).1
   simpa using this
theorem equal_flat (hT:TyOK P Ty):∀(f k:Nat) {t n:Nat} {d:TD} {l r:List V} {e:Bool},flatN Ty f t=some n→Ty t=some d→sameInts l r=some e→l.length=n→
  (Op.equalIn (f+k) t (if d.u.agg then .agg (l.map (conc φ)).toArray else conc φ (l.headD .und)) (if d.u.agg then .agg (r.map (conc φ)).toArray else conc φ (r.headD .und))).run P w=.ok e w
 |0,_,_,_,_,_,_,_,hf,_,_,_=>by simp[flatN] at hf
 |f+1,k,t,n,d,l,r,e,hf,hd,hs,hl=>by
  obtain⟨i,u,hi⟩:=hT t d hd
  have hlr:=sameInts_len hs
  have hsz:=flat_size hT hf hd
  rw[Nat.add_right_comm]
  simp only[flatN,hd] at hf
  split at hf
  ·rename_i kd hu
   have his:=hi.is;rw[hu] at his
   have:=is_int his;subst this
   cases hf
   match l,r,hl,hlr with
   |[a],[b],_,_=>
    unfold sameInts at hs
    split at hs
    ·simp at *
    ·rename_i j x l' k' y r' e1 e2
     simp only[List.cons.injEq] at e1 e2
     obtain⟨rfl,rfl⟩:=e1
     obtain⟨rfl,rfl⟩:=e2
     cases hk:keq j k' with
     |false=>simp[hk] at hs
     |true=>
      have:=keq_eq.1 hk;subst this
      simp only[hk] at hs
      have:e=(x==y):=by
       cases hxy:ieq x y with
       |true=>simp only[hxy,sameInts,Option.some.injEq] at hs;rw[←hs,←ieq_eq,hxy]
       |false=>simp only[hxy,sameInts,Option.some.injEq] at hs;rw[←hs,←ieq_eq,hxy]
      subst this
      simp only[hu,UD.agg,Bool.false_eq_true,if_false,List.headD_cons,conc]
      exact run_equalIn_int w (f+k) t j kd x y hi.under
    ·cases hs
  ·rename_i m et hu
   have his:=hi.is;rw[hu] at his
   have:=is_arr his;subst this
   cases he:flatN Ty f et with
   |none=>simp[he] at hf
   |some c=>
    obtain⟨de,hde⟩:=flat_type he
    obtain⟨ei,eu,hei⟩:=hT et de hde
    have hc:=flat_size hT he hde
    simp only[he] at hf
    cases hb:Nat.beq (m*c) d.size with
    |false=>simp[hb] at hf
    |true=>
     simp only[hb,Option.some.injEq] at hf
     simp only[hu,UD.agg,if_true]
     rw[run_equalIn_array w (f+k) _ _ hi.under hei.info,info_size hT hde,hc]
     have key:∀(q j:Nat) (l2 r2:List V) (e2:Bool),l.drop (j*c)=l2→r.drop (j*c)=r2→sameInts l2 r2=some e2→l2.length=q*c→
       (Op.eqItems (f+k) et c (l.map (conc φ)).toArray (r.map (conc φ)).toArray (List.range' j q)).run P w=.ok e2 w:=by
      intro q
      induction q with
      |zero=>
       intro j l2 r2 e2 h1 h2 h3 h4
       have:l2=[]:=by simpa using h4
       subst this
       have:r2=[]:=by have:=sameInts_len h3;simpa using this.symm
       subst this
       simp only[sameInts,Option.some.injEq] at h3
       subst h3
       simp[Op.eqItems]
      |succ q ih=>
       intro j l2 r2 e2 h1 h2 h3 h4
       have h5:=sameInts_len h3
       have e1:l2=l2.take c++l2.drop c:=(List.take_append_drop c l2).symm
       have e3:r2=r2.take c++r2.drop c:=(List.take_append_drop c r2).symm
       rw[e1,e3] at h3
       have hcl:c≤l2.length:=by rw[h4,Nat.add_mul];omega
       obtain⟨x1,x2,s1,s2,rfl⟩:=sameInts_append (by simp;omega) h3
       have p1:=part_ints (P:=P) (φ:=φ) (w:=w) hT hde (xs:=l) (l:=l2.take c) (off:=j*c) (by rw[h1,hc]) (by simp;omega)
       have p2:=part_ints (P:=P) (φ:=φ) (w:=w) hT hde (xs:=r) (l:=r2.take c) (off:=j*c) (by rw[h2,hc]) (by simp;omega)
       have ih1:=equal_flat hT f k he hde s1 (by simp;omega)
       have ih2:=ih (j+1) (l2.drop c) (r2.drop c) x2 (by rw[←h1,List.drop_drop,Nat.add_mul];congr 1;omega) (by rw[←h2,List.drop_drop,Nat.add_mul];congr 1;omega) s2
        (by simp[h4,Nat.add_mul])
       simp only[List.range'_succ,Op.eqItems,Sem.run_bind,p1,p2,ih1,Result.andThen_ok]
       cases x1 with
       |true=>simpa using ih2
       |false=>simp
     have:=key m 0 l r e (by simp) (by simp) hs (by rw[hl,hf])
     rwa[←List.range_eq_range'] at this
  ·rename_i fs hu
   have his:=hi.is;rw[hu] at his
   obtain⟨gs,hgs,hfs,hnm⟩:=is_struct his
   subst hgs
   cases he:flatF (flatN Ty f) fs 0 with
   |none=>simp[he] at hf
   |some c=>
    simp only[he] at hf
    cases hb:Nat.beq c d.size with
    |false=>simp[hb] at hf
    |true=>
     simp only[hb,Option.some.injEq] at hf
     subst hf
     have hfo:P.fieldsOf t=gs:=by simp[Program.fieldsOf,hi.under]
     simp only[hu,UD.agg,if_true]
     rw[run_equalIn_struct w (f+k) t _ _ (by rw[hfo];exact hi.under) hi.stood,hfo]
     have key:∀(gl:List Field) (off:Nat) (l2 r2:List V) (e2:Bool),(∀g∈gl,g.name≠ "_")→flatF (flatN Ty f) (gl.map fun g=>(g.offset,g.type)) off=some c→
       l.drop off=l2→r.drop off=r2→sameInts l2 r2=some e2→off≤c→
       (Op.eqFields (f+k) (l.map (conc φ)).toArray (r.map (conc φ)).toArray gl).run P w=.ok e2 w:=by
      intro gl
      induction gl with
      |nil=>
       intro off l2 r2 e2 _ h0 h1 h2 h3 _
       simp only[List.map_nil,flatF,Option.some.injEq] at h0
       subst h0
       have:l2=[]:=by rw[←h1];simp[hl]
       subst this
       have:r2=[]:=by have:=sameInts_len h3;simpa using this.symm
       subst this
       simp only[sameInts,Option.some.injEq] at h3
       subst h3
       simp[Op.eqFields]
      |cons g gl ih=>
       intro off l2 r2 e2 hn h0 h1 h2 h3 hoff
       simp only[List.map_cons,flatF] at h0
       cases hbo:Nat.beq g.offset off with
       |false=>simp[hbo] at h0
       |true=>
        have eo:=Nat.eq_of_beq_eq_true hbo
        simp only[hbo] at h0
        cases hg:flatN Ty f g.type with
        |none=>simp[hg] at h0
        |some q=>
         simp only[hg] at h0
         obtain⟨de,hde⟩:=flat_type hg
         have hc:=flat_size hT hg hde
         have hmono:∀(fl:List (Nat × Nat)) (a b:Nat),flatF (flatN Ty f) fl a=some b→a≤b:=by
          intro fl
          induction fl with
          |nil=>intro a b hab;simp only[flatF,Option.some.injEq] at hab;omega
          |cons x fl ih2=>
           intro a b hab
           obtain⟨x1,x2⟩:=x
           simp only[flatF] at hab
           cases hy:Nat.beq x1 a with
           |false=>simp[hy] at hab
           |true=>
            simp only[hy] at hab
            cases hz:flatN Ty f x2 with
            |none=>simp[hz] at hab
            |some y=>simp only[hz] at hab;have:=ih2 _ _ hab;omega
         have hle:=hmono _ _ _ h0
         have h5:=sameInts_len h3
         have hl2:l2.length=c-off:=by rw[←h1];simp[hl]
         have e1:l2=l2.take q++l2.drop q:=(List.take_append_drop q l2).symm
         have e3:r2=r2.take q++r2.drop q:=(List.take_append_drop q r2).symm
         rw[e1,e3] at h3
         obtain⟨x1,x2,s1,s2,rfl⟩:=sameInts_append (by simp;omega) h3
         have p1:=part_ints (P:=P) (φ:=φ) (w:=w) hT hde (xs:=l) (l:=l2.take q) (off:=g.offset) (by rw[eo,h1,hc]) (by simp;omega)
         have p2:=part_ints (P:=P) (φ:=φ) (w:=w) hT hde (xs:=r) (l:=r2.take q) (off:=g.offset) (by rw[eo,h2,hc]) (by simp;omega)
         have ih1:=equal_flat hT f k hg hde s1 (by simp;omega)
         have ih2:=ih (off+q) (l2.drop q) (r2.drop q) x2 (fun g' hg'=>hn g' (by simp[hg'])) h0 (by rw[←h1,List.drop_drop]) (by rw[←h2,List.drop_drop]) s2 hle
         have hng:g.name≠ "_" :=hn g (by simp)
         simp only[Op.eqFields,ne_eq,hng,not_false_eq_true,if_true,Sem.run_bind,p1,p2,ih1,Result.andThen_ok]
         cases x1 with
         |true=>simpa using ih2
         |false=>simp
     exact key gs.toList 0 l r e hnm (by rw[←hfs];exact he) (by simp) (by simp) hs (Nat.zero_le _)
  ·cases hf
theorem guard_flat (hT:TyOK P Ty):∀(f k:Nat) {t n:Nat},flatN Ty f t=some n→P.eqGuardType (f+k) t=false
 |0,_,_,_,hf=>by simp[flatN] at hf
 |f+1,k,t,n,hf=>by
  obtain⟨d,hd⟩:=flat_type hf
  obtain⟨i,u,hi⟩:=hT t d hd
  rw[Nat.add_right_comm]
  simp only[Program.eqGuardType,hi.under]
  simp only[flatN,hd] at hf
  split at hf
  ·rename_i kd hu
   have his:=hi.is;rw[hu] at his
   have:=is_int his;subst this;rfl
  ·rename_i m et hu
   have his:=hi.is;rw[hu] at his
   have:=is_arr his;subst this
   cases he:flatN Ty f et with
   |none=>simp[he] at hf
   |some c=>exact guard_flat hT f k he
  ·rename_i fs hu
   have his:=hi.is;rw[hu] at his
   obtain⟨gs,rfl,hfs,hnm⟩:=is_struct his
   cases he:flatF (flatN Ty f) fs 0 with
   |none=>simp[he] at hf
   |some c=>
    have key:∀(gl:List Field) (off:Nat) (c:Nat),flatF (flatN Ty f) (gl.map fun g=>(g.offset,g.type)) off=some c→∀g∈gl,∃q,flatN Ty f g.type=some q:=by
     intro gl
     induction gl with
     |nil=>intro off c _ g hg;cases hg
     |cons g gl ih=>
      intro off c h0 g' hg'
      simp only[List.map_cons,flatF] at h0
      cases hb:Nat.beq g.offset off with
      |false=>simp[hb] at h0
      |true=>
       simp only[hb] at h0
       cases hq:flatN Ty f g.type with
       |none=>simp[hq] at h0
       |some q=>
        simp only[hq] at h0
        cases hg' with
        |head=>exact⟨q,hq⟩
        |tail _ hg'=>exact ih _ _ h0 g' hg'
    rw[hfs] at he
    have hk:=key gs.toList 0 c he
    simp only[Array.any_eq_false]
    intro j hj
    obtain⟨q,hq⟩:=hk gs[j] (by simp)
    simp[guard_flat hT f k hq]
  ·cases hf
theorem ib_at {fs:List (Nat × Nat)}{o q off c:Nat}(h:ibF Ty ((o,q)::fs) off=some c):o=off∧∃d,Ty q=some d∧((d.u=.bool∧fs=[]∧c=off+1)∨((∃k,d.u=.int k)∧ibF Ty fs (off+1)=some c)):=by
 simp only[ibF] at h
 cases hb:Nat.beq o off with
 |false=>simp[hb] at h
 |true=>
  simp only[hb] at h
  refine⟨Nat.eq_of_beq_eq_true hb,?_⟩
  cases hd:Ty q with
  |none=>simp[boolT,intT,hd] at h
  |some d=>
   refine⟨d,rfl,?_⟩
   cases hu:d.u with
   |bool=>
    simp only[boolT,hd,hu] at h
    cases fs with
    |nil=>simp only[Option.some.injEq] at h;exact .inl ⟨rfl,rfl,h.symm⟩
    |cons=>cases h
   |int k=>
    simp only[boolT,intT,hd,hu] at h
    exact .inr ⟨⟨k,rfl⟩,h⟩
   |_=>simp[boolT,intT,hd,hu] at h
theorem ibF_lt:∀{fs:List (Nat × Nat)} {off c:Nat},ibF Ty fs off=some c→off<c
 |[],_,_,h=>by simp[ibF] at h
 |(o,q)::fs,off,c,h=>by
  obtain⟨_,d,_,h|h⟩:=ib_at h
  ·omega
  ·have:=ibF_lt h.2;omega
theorem one_size (hT:TyOK P Ty){t:TypeId}{d:TD}(hd:Ty t=some d)(ha:d.u.agg=false):d.size=1:=by
 obtain⟨i,u,hi⟩:=hT t d hd
 obtain⟨v,hv,_⟩:=hi.one ha
 have:=hi.len;rw[hv] at this;simpa using this.symm
theorem equal_ib (hT:TyOK P Ty)(k:Nat){t n:Nat}{d:TD}{l r:List V}{e:Bool}(hf:ibN Ty t=some n)(hd:Ty t=some d)(hs:sameIB l r=some e)(hl:l.length=n):
  (Op.equalIn (2+k) t (.agg (l.map (conc φ)).toArray) (.agg (r.map (conc φ)).toArray)).run P w=.ok e w:=by
 obtain⟨i,u,hi⟩:=hT t d hd
 simp only[ibN,hd] at hf
 split at hf
 ·rename_i fs hu
  have his:=hi.is;rw[hu] at his
  obtain⟨gs,hgs,hfs,hnm⟩:=is_struct his
  subst hgs
  cases he:ibF Ty fs 0 with
  |none=>simp[he] at hf
  |some c=>
   simp only[he] at hf
   cases hb:Nat.beq c d.size with
   |false=>simp[hb] at hf
   |true=>
    simp only[hb,Option.some.injEq] at hf
    subst hf
    have hfo:P.fieldsOf t=gs:=by simp[Program.fieldsOf,hi.under]
    rw[show 2+k=(1+k)+1 by omega,run_equalIn_struct w (1+k) t _ _ (by rw[hfo];exact hi.under) hi.stood,hfo]
    have key:∀(gl:List Field) (off:Nat) (l2 r2:List V) (e2:Bool),(∀g∈gl,g.name≠ "_")→ibF Ty (gl.map fun g=>(g.offset,g.type)) off=some c→
      l.drop off=l2→r.drop off=r2→sameIB l2 r2=some e2→
      (Op.eqFields (1+k) (l.map (conc φ)).toArray (r.map (conc φ)).toArray gl).run P w=.ok e2 w:=by
     intro gl
     induction gl with
     |nil=>intro off l2 r2 e2 _ h0;simp[ibF] at h0
     |cons g gl ih=>
      intro off l2 r2 e2 hn h0 h1 h2 h3
      rw[List.map_cons] at h0
      obtain⟨eo,de,hde,hc⟩:=ib_at h0
      have hng:g.name≠ "_" :=hn g (by simp)
      have hl2:l2.length=c-off:=by rw[←h1];simp[hl]
      have hde':=hT g.type de hde
      obtain⟨i',u',hi'⟩:=hde'
      rcases hc with⟨hu',hgl,hco⟩|⟨⟨kd,hu'⟩,hrest⟩
      ·have hgl':gl=[]:=by simpa using hgl
       subst hgl'
       have hsz:=one_size hT hde (by simp[hu',UD.agg])
       have his':=hi'.is;rw[hu'] at his'
       have:=is_bool his';subst this
       unfold sameIB at h3
       split at h3
       ·rename_i a b
        have p1:=part_ints (P:=P) (φ:=φ) (w:=w) hT hde (xs:=l) (l:=[.bool a]) (off:=g.offset) (by rw[eo,h1,hsz];rfl) (by rw[hsz];rfl)
        have p2:=part_ints (P:=P) (φ:=φ) (w:=w) hT hde (xs:=r) (l:=[.bool b]) (off:=g.offset) (by rw[eo,h2,hsz];rfl) (by rw[hsz];rfl)
        simp only[hu',UD.agg,Bool.false_eq_true,if_false,List.headD_cons,conc] at p1 p2
        have q:=run_equalIn_bool w k g.type a b hi'.under
        rw[show k+1=1+k by omega] at q
        simp only[Op.eqFields,ne_eq,hng,not_false_eq_true,if_true,Sem.run_bind,p1,p2,q,Result.andThen_ok]
        cases hab:(a==b) with
        |true=>simp only[hab,Option.some.injEq] at h3;subst h3;simp
        |false=>simp only[hab,Option.some.injEq] at h3;subst h3;simp
       ·rename_i j a l3 kk b r3
        simp only[List.length_cons] at hl2
        have hl3:l3=[]:=List.eq_nil_of_length_eq_zero (by omega)
        subst hl3
        cases hk:keq j kk with
        |false=>simp[hk] at h3
        |true=>simp[hk,sameIB] at h3
       ·cases h3
      ·have hlt:=ibF_lt hrest
       have hsz:=one_size hT hde (by simp[hu',UD.agg])
       have his':=hi'.is;rw[hu'] at his'
       have:=is_int his';subst this
       unfold sameIB at h3
       split at h3
       ·simp only[List.length_cons,List.length_nil] at hl2;omega
       ·rename_i j a l3 kk b r3
        cases hk:keq j kk with
        |false=>simp[hk] at h3
        |true=>
         have:=keq_eq.1 hk;subst this
         simp only[hk] at h3
         have p1:=part_ints (P:=P) (φ:=φ) (w:=w) hT hde (xs:=l) (l:=[.int j a]) (off:=g.offset) (by rw[eo,h1,hsz];rfl) (by rw[hsz];rfl)
         have p2:=part_ints (P:=P) (φ:=φ) (w:=w) hT hde (xs:=r) (l:=[.int j b]) (off:=g.offset) (by rw[eo,h2,hsz];rfl) (by rw[hsz];rfl)
         simp only[hu',UD.agg,Bool.false_eq_true,if_false,List.headD_cons,conc] at p1 p2
         have q:=run_equalIn_int w k g.type j kd a b hi'.under
         rw[show k+1=1+k by omega,←ieq_eq] at q
         cases hr:sameIB l3 r3 with
         |none=>simp[hr] at h3
         |some e3=>
          simp only[hr] at h3
          have ih1:=ih (off+1) l3 r3 e3 (fun g' hg'=>hn g' (by simp[hg'])) hrest (by rw[←List.drop_drop,h1];rfl) (by rw[←List.drop_drop,h2];rfl) hr
          simp only[Op.eqFields,ne_eq,hng,not_false_eq_true,if_true,Sem.run_bind,p1,p2,q,Result.andThen_ok]
          cases hab:ieq a b with
          |true=>simp only[hab,Option.some.injEq] at h3;subst h3;simpa using ih1
          |false=>simp only[hab,Option.some.injEq] at h3;subst h3;simp
       ·cases h3
    exact key gs.toList 0 l r e hnm (by rw[←hfs];exact he) (by simp) (by simp) hs
 ·cases hf
theorem guard_ib (hT:TyOK P Ty)(k:Nat){t n:Nat}(hf:ibN Ty t=some n):P.eqGuardType (2+k) t=false:=by
 cases hd:Ty t with
 |none=>simp[ibN,hd] at hf
 |some d=>
  obtain⟨i,u,hi⟩:=hT t d hd
  rw[show 2+k=(1+k)+1 by omega]
  simp only[Program.eqGuardType,hi.under]
  simp only[ibN,hd] at hf
  split at hf
  ·rename_i fs hu
   have his:=hi.is;rw[hu] at his
   obtain⟨gs,rfl,hfs,hnm⟩:=is_struct his
   cases he:ibF Ty fs 0 with
   |none=>simp[he] at hf
   |some c=>
    have key:∀(gl:List Field) (off:Nat),ibF Ty (gl.map fun g=>(g.offset,g.type)) off=some c→∀g∈gl,P.eqGuardType (1+k) g.type=false:=by
     intro gl
     induction gl with
     |nil=>intro off _ g hg;cases hg
     |cons g gl ih=>
      intro off h0 g' hg'
      rw[List.map_cons] at h0
      obtain⟨_,de,hde,hc⟩:=ib_at h0
      obtain⟨i',u',hi'⟩:=hT g.type de hde
      cases hg' with
      |head=>
       rw[show 1+k=k+1 by omega]
       simp only[Program.eqGuardType,hi'.under]
       rcases hc with⟨hu',_⟩|⟨⟨kd,hu'⟩,_⟩
       ·have his':=hi'.is;rw[hu'] at his'
        have:=is_bool his';subst this;rfl
       ·have his':=hi'.is;rw[hu'] at his'
        have:=is_int his';subst this;rfl
      |tail _ hg'=>
       rcases hc with⟨_,hgl,_⟩|⟨_,hrest⟩
       ·have:gl=[]:=by simpa using hgl
        subst this;cases hg'
       ·exact ih _ hrest g' hg'
    rw[hfs] at he
    have hk:=key gs.toList 0 he
    simp only[Array.any_eq_false]
    intro j hj
    simp[hk gs[j] (by simp)]
  ·cases hf
theorem boolT_eq {t:Nat}(h:boolT Ty t=true):∃d,Ty t=some d∧d.u=.bool:=by
 unfold boolT at h
 split at h
 ·rename_i d hd
  refine⟨d,hd,?_⟩
  split at h
  ·assumption
  ·cases h
 ·cases h
theorem equal_ba (hT:TyOK P Ty)(k:Nat){t n:Nat}{d:TD}{l r:List V}{e:Bool}(hf:baN Ty t=some n)(hd:Ty t=some d)(hs:sameBs l r=some e)(hl:l.length=n):
  (Op.equalIn (2+k) t (.agg (l.map (conc φ)).toArray) (.agg (r.map (conc φ)).toArray)).run P w=.ok e w:=by
 obtain⟨i,u,hi⟩:=hT t d hd
 simp only[baN,hd] at hf
 split at hf
 ·rename_i m et hu
  have his:=hi.is;rw[hu] at his
  have:=is_arr his;subst this
  cases hbt:boolT Ty et with
  |false=>simp[hbt] at hf
  |true=>
   simp only[hbt] at hf
   have hmn:m=n:=by
    split at hf
    ·exact Option.some.inj hf
    ·cases hf
   subst hmn
   obtain⟨de,hde,hdu⟩:=boolT_eq hbt
   obtain⟨ei,eu,hei⟩:=hT et de hde
   have hsz:=one_size hT hde (by simp[hdu,UD.agg])
   have hes:=hei.is;rw[hdu] at hes
   have:=is_bool hes;subst this
   rw[show 2+k=(1+k)+1 by omega,run_equalIn_array w (1+k) _ _ hi.under hei.info,info_size hT hde,hsz]
   have key:∀(q j:Nat) (l2 r2:List V) (e2:Bool),l.drop j=l2→r.drop j=r2→sameBs l2 r2=some e2→l2.length=q→
     (Op.eqItems (1+k) et 1 (l.map (conc φ)).toArray (r.map (conc φ)).toArray (List.range' j q)).run P w=.ok e2 w:=by
    intro q
    induction q with
    |zero=>
     intro j l2 r2 e2 h1 h2 h3 h4
     have:l2=[]:=by simpa using h4
     subst this
     have:r2=[]:=by have:=sameBs_len h3;simpa using this
     subst this
     simp only[sameBs,Option.some.injEq] at h3
     subst h3
     simp[Op.eqItems]
    |succ q ih=>
     intro j l2 r2 e2 h1 h2 h3 h4
     unfold sameBs at h3
     split at h3
     ·simp at h4
     ·rename_i a l3 b r3
      have p1:=part_ints (P:=P) (φ:=φ) (w:=w) hT hde (xs:=l) (l:=[.bool a]) (off:=j*1) (by rw[Nat.mul_one,h1,hsz];rfl) (by rw[hsz];rfl)
      have p2:=part_ints (P:=P) (φ:=φ) (w:=w) hT hde (xs:=r) (l:=[.bool b]) (off:=j*1) (by rw[Nat.mul_one,h2,hsz];rfl) (by rw[hsz];rfl)
      simp only[hdu,UD.agg,Bool.false_eq_true,if_false,List.headD_cons,conc] at p1 p2
      have qq:=run_equalIn_bool w k et a b hei.under
      rw[show k+1=1+k by omega] at qq
      cases hr:sameBs l3 r3 with
      |none=>simp[hr] at h3
      |some e3=>
       simp only[hr] at h3
       have ih2:=ih (j+1) l3 r3 e3 (by rw[←List.drop_drop,h1];rfl) (by rw[←List.drop_drop,h2];rfl) hr (by simpa using h4)
       simp only[List.range'_succ,Op.eqItems,Sem.run_bind,p1,p2,qq,Result.andThen_ok]
       cases hab:(a==b) with
       |true=>simp only[hab,Option.some.injEq] at h3;subst h3;simpa using ih2
       |false=>simp only[hab,Option.some.injEq] at h3;subst h3;simp
     ·cases h3
   have:=key m 0 l r e (by simp) (by simp) hs hl
   rwa[←List.range_eq_range'] at this
 ·cases hf
theorem guard_ba (hT:TyOK P Ty)(k:Nat){t n:Nat}(hf:baN Ty t=some n):P.eqGuardType (2+k) t=false:=by
 cases hd:Ty t with
 |none=>simp[baN,hd] at hf
 |some d=>
  obtain⟨i,u,hi⟩:=hT t d hd
  rw[show 2+k=(1+k)+1 by omega]
  simp only[Program.eqGuardType,hi.under]
  simp only[baN,hd] at hf
  split at hf
  ·rename_i m et hu
   have his:=hi.is;rw[hu] at his
   have:=is_arr his;subst this
   cases hbt:boolT Ty et with
   |false=>simp[hbt] at hf
   |true=>
    obtain⟨de,hde,hdu⟩:=boolT_eq hbt
    obtain⟨ei,eu,hei⟩:=hT et de hde
    have hes:=hei.is;rw[hdu] at hes
    have:=is_bool hes;subst this
    rw[show 1+k=k+1 by omega]
    simp only[Program.eqGuardType,hei.under]
  ·cases hf
theorem q_feq_sound (hT:TyOK P Ty)(hD:8≤P.depth)(hρ:OpsAre φ tm ρ){t:TypeId}{d:TD}(hd:Ty t=some d)(ha:d.u.agg=true){n:Nat}(hf:flatQ Ty t=some n){op:BinOp}{ng:Bool}
  (hop:(op=.eql∧ng=false)∨(op=.neq∧ng=true)) {x y:Operand} {x' y':Opd} (hx:opd x=some x') (hy:opd y=some y') {v:V} (hv:q_feq ng n (x'.ev tm) (y'.ev tm)=some v):
  (do eqGuard op t x y (ρ x) (ρ y);binOp op t (ρ x) (ρ y):Sem Value).run P w=.ok (conc φ v) w∧v.sc p:=by
 rw[hρ x x' hx,hρ y y' hy]
 unfold q_feq at hv
 split at hv
 ·rename_i l e1
  split at hv
  ·rename_i r e2
   rw[e1,e2]
   have fin:∀(e:Bool),(Op.equalIn 10000 t (.agg (l.map (conc φ)).toArray) (.agg (r.map (conc φ)).toArray)).run P w=.ok e w→P.eqGuardType P.depth t=false→V.bool (ngB ng e)=v→
     (do eqGuard op t x y (conc φ (.agg l)) (conc φ (.agg r));binOp op t (conc φ (.agg l)) (conc φ (.agg r)):Sem Value).run P w=.ok (conc φ v) w∧v.sc p:=by
    intro e he hg hv
    subst hv
    refine⟨?_,by simp[V.sc]⟩
    simp only[Sem.run_bind,conc,concs_eq,run_eqGuard_agg w op t x y _ _ hg,Result.andThen_ok]
    rcases hop with⟨rfl,rfl⟩|⟨rfl,rfl⟩
    ·rw[run_eql_struct];simp[he,ngB]
    ·rw[run_neq_struct];simp[he,ngB]
   cases hn0:Nat.blt n 1000 with
   |true=>
    simp only[hn0] at hv
    have hlt:n<1000:=by rw[Nat.blt_eq] at hn0;exact hn0
    have hf:flatN Ty 8 t=some n:=by
     unfold flatQ at hf
     split at hf
     ·rename_i m h1
      split at hf
      ·cases hf;exact h1
      ·cases hf
     ·split at hf
      ·split at hf
       ·cases hf;omega
       ·cases hf
      ·split at hf
       ·cases hf;omega
       ·cases hf
    cases hn:Nat.beq (lenN l) n with
    |false=>simp[hn] at hv
    |true=>
     simp only[hn] at hv
     have hn':=Nat.eq_of_beq_eq_true hn
     rw[lenN_eq] at hn'
     cases hs:sameInts l r with
     |none=>simp[hs] at hv
     |some e=>
      simp only[hs,Option.some.injEq] at hv
      obtain⟨k,hk⟩:∃k,P.depth=8+k:=⟨P.depth-8,by omega⟩
      have hg:P.eqGuardType P.depth t=false:=by rw[hk];exact guard_flat hT 8 k hf
      have he:=equal_flat (P:=P) (φ:=φ) (w:=w) hT 8 9992 hf hd hs hn'
      simp only[ha,if_true] at he
      exact fin e he hg hv
   |false=>
    simp only[hn0] at hv
    have hge:¬n<1000:=by rw[←Nat.blt_eq,hn0];simp
    cases hn2:Nat.blt n 2000 with
    |true=>
     simp only[hn2] at hv
     have hlt2:n<2000:=by rw[Nat.blt_eq] at hn2;exact hn2
     obtain⟨m,hf,hm⟩:∃m,ibN Ty t=some m∧n=1000+m:=by
      unfold flatQ at hf
      split at hf
      ·split at hf
       ·rename_i h2
        cases hf
        rw[Nat.blt_eq] at h2;omega
       ·cases hf
      ·split at hf
       ·rename_i m h2
        split at hf
        ·cases hf;exact⟨m,h2,rfl⟩
        ·cases hf
       ·split at hf
        ·cases hf;omega
        ·cases hf
     cases hn:Nat.beq (1000+lenN l) n with
     |false=>simp[hn] at hv
     |true=>
      simp only[hn] at hv
      have hn':=Nat.eq_of_beq_eq_true hn
      rw[lenN_eq] at hn'
      cases hs:sameIB l r with
      |none=>simp[hs] at hv
      |some e=>
       simp only[hs,Option.some.injEq] at hv
       obtain⟨k,hk⟩:∃k,P.depth=2+k:=⟨P.depth-2,by omega⟩
       have hg:P.eqGuardType P.depth t=false:=by rw[hk];exact guard_ib hT k hf
       exact fin e (equal_ib (P:=P) (φ:=φ) (w:=w) hT 9998 hf hd hs (by omega)) hg hv
    |false=>
     simp only[hn2] at hv
     have hge2:¬n<2000:=by rw[←Nat.blt_eq,hn2];simp
     obtain⟨m,hf,hm⟩:∃m,baN Ty t=some m∧n=2000+m:=by
      unfold flatQ at hf
      split at hf
      ·split at hf
       ·rename_i h2
        cases hf
        rw[Nat.blt_eq] at h2;omega
       ·cases hf
      ·split at hf
       ·rename_i m h2
        split at hf
        ·rename_i h3
         cases hf
         rw[Nat.blt_eq] at h3;omega
        ·cases hf
       ·split at hf
        ·rename_i m h2;cases hf;exact⟨m,h2,rfl⟩
        ·cases hf
     cases hn:Nat.beq (2000+lenN l) n with
     |false=>simp[hn] at hv
     |true=>
      simp only[hn] at hv
      have hn':=Nat.eq_of_beq_eq_true hn
      rw[lenN_eq] at hn'
      cases hs:sameBs l r with
      |none=>simp[hs] at hv
      |some e=>
       simp only[hs,Option.some.injEq] at hv
       obtain⟨k,hk⟩:∃k,P.depth=2+k:=⟨P.depth-2,by omega⟩
       have hg:P.eqGuardType P.depth t=false:=by rw[hk];exact guard_ba hT k hf
       exact fin e (equal_ba (P:=P) (φ:=φ) (w:=w) hT 9998 hf hd hs (by omega)) hg hv
  ·cases hv
 ·cases hv
theorem findK_sound {k:V}:∀{es:List (V × V)} {r:Option V} {E:List MapEntry} {j:IntKind} (i:Nat),findK k es=some r→E.map (fun e=>(e.key,e.val))=es.map (fun q=>(conc φ q.1,conc φ q.2))→
  (match r with
   |some v=>∃q,Instr.findNow (.int j) (conc φ k) E i=some (some (q,conc φ v))∧(∃e∈es,e.2=v)
   |none=>Instr.findNow (.int j) (conc φ k) E i=some none)
 |[],r,E,j,i,hk,hE=>by
  simp only[findK,Option.some.injEq] at hk
  subst hk
  have:E=[]:=by simpa using hE
  subst this
  simp[Instr.findNow]
 |e::es,r,E,j,i,hk,hE=>by
  cases E with
  |nil=>simp at hE
  |cons M E=>
   simp only[List.map_cons,List.cons.injEq,Prod.mk.injEq] at hE
   obtain⟨⟨m1,m2⟩,hE⟩:=hE
   simp only[findK] at hk
   cases hq:keyEq k e.1 with
   |none=>simp[hq] at hk
   |some b=>
    cases k with
    |int j1 a=>
     cases e2:e.1 with
     |int j2 c=>
      rw[e2] at hq
      simp only[keyEq] at hq
      cases hk2:keq j1 j2 with
      |false=>simp[hk2] at hq
      |true=>
       have:=keq_eq.1 hk2;subst this
       simp only[hk2,Option.some.injEq] at hq
       have hsn:Instr.sameNow (.int j) (conc φ (.int j1 a)) M.key=some (a==c):=by
        rw[m1,e2];simp[conc,Instr.sameNow]
       have hb:b=(a==c):=by rw[←hq,ieq_eq]
       cases b with
       |true=>
        have hke:keyEq (.int j1 a) e.1=some true:=by rw[e2];simp[keyEq,hq]
        simp only[hke,Option.some.injEq] at hk
        subst hk
        exact⟨i,by simp[Instr.findNow,hsn,←hb,m2],e,by simp,rfl⟩
       |false=>
        have hke:keyEq (.int j1 a) e.1=some false:=by rw[e2];simp[keyEq,hq]
        simp only[hke] at hk
        have ih:=findK_sound (k:=.int j1 a) (j:=j) (i+1) hk hE
        cases r with
        |none=>simpa[Instr.findNow,hsn,←hb] using ih
        |some v=>
         obtain⟨q,h1,e',h2,h3⟩:=ih
         exact⟨q,by simpa[Instr.findNow,hsn,←hb] using h1,e',by simp[h2],h3⟩
     |_=>rw[e2] at hq;simp[keyEq] at hq
    |_=>simp[keyEq] at hq
theorem checkKey_int (hT:TyOK P Ty){t:TypeId}{d:TD}(hd:Ty t=some d){k:IntKind}(hu:d.u=.int k)(em:Bool)(v:Value)(hv:∀t x,v≠.iface t x):
  (Instr.checkKey em 10000 t v).run P w=.ok () w:=by
 obtain⟨i,u,hi⟩:=hT t d hd
 have his:=hi.is;rw[hu] at his
 have:=is_int his;subst this
 show(Instr.checkKey em (9999+1) t v).run P w=.ok () w
 unfold Instr.checkKey
 simp only[Sem.run_bind,hi.r_under,Result.andThen_ok]
 cases v<;>simp
theorem q_lookup (hT:TyOK P Ty)(hR:Rep Ty φ h.get p w)(hρ:OpsAre φ tm ρ){t:TypeId}{d:TD}(hd:Ty t=some d){kt et:Nat}(hu:d.u=.map kt et){dk de:TD}(hk:Ty kt=some dk)(he:Ty et=some de)
  {kk:IntKind} (hki:dk.u=.int kk) {z:V} (hz:mkV de.u.agg de.z=some z) {x i:Operand} {x' i':Opd} (hx:opd x=some x') (hi':opd i=some i') {ok:Bool} {v:V}
  (hv:q_lkp h z (x'.ev tm) (i'.ev tm) ok=some v):
  (Instr.lookup t (ρ x) (ρ i) ok).run P w=.ok (conc φ v) w∧v.sc p:=by
 obtain⟨ti,u,hi0⟩:=hT t d hd
 have his:=hi0.is;rw[hu] at his
 have:=is_map his;subst this
 obtain⟨ki,ku,hki0⟩:=hT kt dk hk
 have hks:=hki0.is;rw[hki] at hks
 have hku:=is_int hks
 obtain⟨ei,eu,hei⟩:=hT et de he
 rw[hρ x x' hx,hρ i i' hi']
 have hz':zeroOf de=conc φ z:=by
  rw[zeroOf_eq hei φ]
  cases ha:de.u.agg with
  |true=>rw[ha] at hz;simp only[mkV,Option.some.injEq] at hz;subst hz;simp[conc,concs_eq]
  |false=>
   obtain⟨q,hq,_⟩:=hei.one ha
   rw[ha,hq] at hz;simp only[mkV,Option.some.injEq] at hz;subst hz;simp[hq]
 have hzs:z.sc p:=by
  have hsz:scL p de.z:=scL_mono (fun _ h=>h.elim) _ hei.sc
  cases ha:de.u.agg with
  |true=>rw[ha] at hz;simp only[mkV,Option.some.injEq] at hz;subst hz;exact hsz
  |false=>
   obtain⟨q,hq,_⟩:=hei.one ha
   rw[ha,hq] at hz;simp only[mkV,Option.some.injEq] at hz;subst hz;rw[hq] at hsz;exact hsz.1
 unfold q_lkp at hv
 cases hm:mapOf h (x'.ev tm) with
 |none=>simp[hm] at hv
 |some es=>
  simp only[hm] at hv
  cases hf:findK (i'.ev tm) es with
  |none=>simp[hf] at hv
  |some r=>
   simp only[hf,Option.some.injEq] at hv
   subst hv
   have hni:∀(v:V) t x,conc φ v≠.iface t x:=by
    intro v t x
    cases v
    case sl b o n c=>cases c<;>simp[conc]
    all_goals simp[conc]
   have hes:∃E:Array MapEntry,(E.toList.map fun e=>(e.key,e.val))=es.map (fun q=>(conc φ q.1,conc φ q.2))∧
     ((conc φ (x'.ev tm)=.map none∧E= #[])∨∃r clk,conc φ (x'.ev tm)=.map (some r)∧w.heap[r]? =some (.map E clk))∧∀e∈es,e.1.sc p∧e.2.sc p:=by
    unfold mapOf at hm
    split at hm
    ·rename_i ex
     cases hm
     exact⟨#[],by simp,.inl ⟨by rw[ex];simp[conc],rfl⟩,by simp⟩
    ·rename_i b ex
     split at hm
     ·rename_i es' hb
      cases hm
      obtain⟨o,ho,E,clk,rfl,hE,_⟩:=hR.blk b _ hb
      exact⟨E,hE,.inr ⟨_,clk,by rw[ex];simp[conc],ho⟩,fun e he=>(hR.sc b _ hb).2 e he⟩
     ·cases hm
    ·cases hm
   obtain⟨E,hE,hrun,hsc⟩:=hes
   have hfs:=findK_sound (φ:=φ) (j:=kk) 0 hf hE
   have hfr:∀a,Instr.findNow (.int kk) (conc φ (i'.ev tm)) E.toList 0=some a→(Instr.findKey kt (conc φ (i'.ev tm)) E.toList).run P w=.ok a w:=by
    intro a ha
    exact MapKept.run_findKey (by rw[hki0.under,hku]) ha
   have hck:(Instr.checkKey E.isEmpty 10000 kt (conc φ (i'.ev tm))).run P w=.ok () w:=checkKey_int hT hk hki _ _ (hni _)
   cases r with
   |none=>
    simp only at hfs
    have hfs':=hfr _ hfs
    refine⟨?_,?_⟩
    ·simp only[Instr.lookup,Sem.run_bind,hi0.r_under,Result.andThen_ok]
     rcases hrun with⟨h1,rfl⟩|⟨r,clk,h1,h2⟩
     ·rw[h1]
      simp only[Sem.run_bind,Sem.run_pure,Result.andThen_ok,hck,hfs',hei.r_zero,hz']
      cases ok<;>simp[found,conc,concs]
     ·rw[h1]
      simp only[Sem.run_bind,Sem.run_pure,Result.andThen_ok,MapKept.run_getObj_map h2,hck,hfs',hei.r_zero,hz']
      cases ok<;>simp[found,conc,concs]
    ·cases ok<;>simp[found,V.sc,scL,hzs]
   |some v=>
    obtain⟨q,h1,e',h2,h3⟩:=hfs
    have hfs':=hfr _ h1
    refine⟨?_,?_⟩
    ·simp only[Instr.lookup,Sem.run_bind,hi0.r_under,Result.andThen_ok]
     rcases hrun with⟨h4,rfl⟩|⟨r,clk,h4,h5⟩
     ·rw[h4]
      simp only[Sem.run_bind,Sem.run_pure,Result.andThen_ok,hck,hfs']
      cases ok<;>simp[found,conc,concs]
     ·rw[h4]
      simp only[Sem.run_bind,Sem.run_pure,Result.andThen_ok,MapKept.run_getObj_map h5,hck,hfs']
      cases ok<;>simp[found,conc,concs]
    ·have:=(hsc e' h2).2;rw[h3] at this
     cases ok<;>simp[found,V.sc,scL,this]
theorem findS_sound (hT:TyOK P Ty){kt n:Nat}{dk:TD}(hf:flatN Ty 2 kt=some n)(hd:Ty kt=some dk)(ha:dk.u.agg=true){l:List V}(hl:l.length=n):∀{es:List (V × V)} {r:Option V} {E:List MapEntry} (i:Nat),
  findS (.agg l) es=some r→E.map (fun e=>(e.key,e.val))=es.map (fun q=>(conc φ q.1,conc φ q.2))→
  ∃R,(Instr.findAsking kt (conc φ (.agg l)) E i).run P w=.ok R w∧
  (match r with
   |some v=>∃q,R=some (q,conc φ v)∧(∃e∈es,e.2=v)
   |none=>R=none)
 |[],r,E,i,hk,hE=>by
  simp only[findS,Option.some.injEq] at hk
  subst hk
  have:E=[]:=by simpa using hE
  subst this
  exact⟨none,by simp[Instr.findAsking],rfl⟩
 |e::es,r,E,i,hk,hE=>by
  cases E with
  |nil=>simp at hE
  |cons M E=>
   simp only[List.map_cons,List.cons.injEq,Prod.mk.injEq] at hE
   obtain⟨⟨m1,m2⟩,hE⟩:=hE
   simp only[findS] at hk
   cases e1:e.1 with
   |agg r'=>
    rw[e1] at hk m1
    simp only[keyS] at hk
    cases hs:sameInts l r' with
    |none=>simp[hs] at hk
    |some b=>
     have he:=equal_flat (P:=P) (φ:=φ) (w:=w) hT 2 9998 hf hd hs hl
     simp only[ha,if_true] at he
     have hq:(Op.equal kt (conc φ (.agg l)) M.key).run P w=.ok b w:=by
      rw[m1];simp only[conc,concs_eq];exact he
     cases b with
     |true=>
      simp only[hs,Option.some.injEq] at hk
      subst hk
      exact⟨some (i,M.val),by simp only[Instr.findAsking,Sem.run_bind,hq,Result.andThen_ok,if_true,Sem.run_pure],i,by rw[m2],e,by simp,rfl⟩
     |false=>
      simp only[hs] at hk
      obtain⟨R,h1,h2⟩:=findS_sound hT hf hd ha hl (i+1) hk hE
      refine⟨R,by simpa[Instr.findAsking,hq] using h1,?_⟩
      cases r with
      |none=>exact h2
      |some v=>obtain⟨q,h3,e',h4,h5⟩:=h2;exact⟨q,h3,e',by simp[h4],h5⟩
   |_=>rw[e1] at hk;simp[keyS] at hk
theorem findKey_struct {kt:Nat}{fs:Array Field}(hu:P.underlying kt=some (.struct fs))(k:Value)(E:List MapEntry):(Instr.findKey kt k E).run P w=(Instr.findAsking kt k E).run P w:=by
 unfold Instr.findKey
 cases E with
 |nil=>simp[underlying,hu,Instr.findNow,Instr.findAsking]
 |cons e E=>
  have:Instr.sameNow (.struct fs) k e.key=none:=by unfold Instr.sameNow;rfl
  simp[underlying,hu,Instr.findNow,this]
theorem forIn_ok {α:Type}{B:α→PUnit→Sem (ForInStep PUnit)}:∀{l:List α},(∀a∈l,(B a PUnit.unit).run P w=.ok (.yield PUnit.unit) w)→(forIn l PUnit.unit B:Sem PUnit).run P w=.ok PUnit.unit w
 |[],_=>rfl
 |a::l,h=>by
  have h1:=h a (by simp)
  have h2:=forIn_ok (B:=B) (l:=l) fun b hb=>h b (by simp[hb])
  rw[List.forIn_cons,Sem.run_bind,h1,Result.andThen_ok]
  exact h2
theorem checkKey_flat (hT:TyOK P Ty){t n:Nat}{d:TD}(hf:flatN Ty 2 t=some n)(hd:Ty t=some d){fs:List (Nat × Nat)}(hu:d.u=.struct fs)(hI:fs.all (fun f=>intT Ty f.2)=true){l:List V}(hl:l.length=n)(em:Bool):
  (Instr.checkKey em 10000 t (conc φ (.agg l))).run P w=.ok () w:=by
 obtain⟨i,u,hi⟩:=hT t d hd
 have hsz:=flat_size hT hf hd
 have his:=hi.is;rw[hu] at his
 obtain⟨gs,hgs,hfs,hnm⟩:=is_struct his
 subst hgs
 have hint:∀g∈gs.toList,intT Ty g.type=true:=fun g hg=>by
  have:=List.all_eq_true.1 hI (g.offset,g.type) (by rw[hfs];exact List.mem_map.2 ⟨g,hg,rfl⟩)
  exact this
 rw[show(2:Nat)=1+1 from rfl,flatN] at hf
 simp only[hd,hu] at hf
 cases he:flatF (flatN Ty 1) fs 0 with
 |none=>simp[he] at hf
 |some c=>
  have hcn:c=n:=by
   simp only[he] at hf
   cases hb:Nat.beq c d.size with
   |false=>simp[hb] at hf
   |true=>simpa[hb] using hf
  have key:∀(gl:List Field) (off:Nat),flatF (flatN Ty 1) (gl.map fun g=>(g.offset,g.type)) off=some c→∀g∈gl,∃q,flatN Ty 1 g.type=some q∧g.offset+q≤c:=by
   intro gl
   induction gl with
   |nil=>intro off _ g hg;cases hg
   |cons x gl ih=>
    intro off h0 g hg
    simp only[List.map_cons,flatF] at h0
    cases hbo:Nat.beq x.offset off with
    |false=>simp[hbo] at h0
    |true=>
     have eo:=Nat.eq_of_beq_eq_true hbo
     simp only[hbo] at h0
     cases hq:flatN Ty 1 x.type with
     |none=>simp[hq] at h0
     |some q=>
      simp only[hq] at h0
      have hmono:∀(fl:List (Nat × Nat)) (a b:Nat),flatF (flatN Ty 1) fl a=some b→a≤b:=by
       intro fl
       induction fl with
       |nil=>intro a b hab;simp only[flatF,Option.some.injEq] at hab;omega
       |cons x fl ih2=>
        intro a b hab
        obtain⟨x1,x2⟩:=x
        simp only[flatF] at hab
        cases hy:Nat.beq x1 a with
        |false=>simp[hy] at hab
        |true=>
         simp only[hy] at hab
         cases hz:flatN Ty 1 x2 with
         |none=>simp[hz] at hab
         |some y=>simp only[hz] at hab;have:=ih2 _ _ hab;omega
      have hle:=hmono _ _ _ h0
      simp only[List.mem_cons] at hg
      rcases hg with rfl|hg
      ·exact⟨q,hq,by omega⟩
      ·exact ih _ h0 g hg
  show(Instr.checkKey em (9999+1) t (conc φ (.agg l))).run P w=.ok () w
  unfold Instr.checkKey
  simp only[Sem.run_bind,hi.r_under,Result.andThen_ok,conc,concs_eq,←Array.forIn_toList]
  have hB:∀g∈gs.toList,(if g.name≠ "_" then do
    let v ←part g.type (l.map (conc φ)).toArray g.offset
    Instr.checkKey em 9999 g.type v
    pure (ForInStep.yield PUnit.unit)
   else pure (ForInStep.yield PUnit.unit):Sem (ForInStep PUnit)).run P w=.ok (.yield PUnit.unit) w:=by
   intro g hg
   obtain⟨q,h1,h2⟩:=key gs.toList 0 (by rw[←hfs];exact he) g hg
   obtain⟨de,hde⟩:=flat_type h1
   have hc:=flat_size hT h1 hde
   have p1:=part_ints (P:=P) (φ:=φ) (w:=w) hT hde (xs:=l) (l:=(l.drop g.offset).take de.size) (off:=g.offset) rfl (by simp;omega)
   have hki:∃k,de.u=.int k:=by
    have:=hint g hg
    simp only[intT,hde] at this
    cases hk:de.u<;>simp[hk] at this
    exact⟨_,rfl⟩
   obtain⟨k,hk⟩:=hki
   have hck:∀v:Value,(∀t x,v≠.iface t x)→(Instr.checkKey em 9999 g.type v).run P w=.ok () w:=by
    intro v hv
    obtain⟨ei,eu,hei⟩:=hT _ _ hde
    have his:=hei.is;rw[hk] at his
    have:=is_int his;subst this
    show(Instr.checkKey em (9998+1) g.type v).run P w=.ok () w
    unfold Instr.checkKey
    simp only[Sem.run_bind,hei.r_under,Result.andThen_ok]
    cases v<;>simp
   simp only[hnm g hg,ne_eq,not_false_eq_true,if_true,Sem.run_bind,p1,Result.andThen_ok,hk,UD.agg,Bool.false_eq_true,if_false]
   have hni:∀v:V,∀t x,conc φ v≠.iface t x:=by
    intro v t x
    cases v
    case sl b o n c=>cases c<;>simp[conc]
    all_goals simp[conc]
   rw[hck _ (hni _)]
   simp
  have hfo:=forIn_ok (B:=fun(g:Field) (_:PUnit)=>if g.name≠ "_" then do
    let v ←part g.type (l.map (conc φ)).toArray g.offset
    Instr.checkKey em 9999 g.type v
    pure (ForInStep.yield PUnit.unit)
   else pure (ForInStep.yield PUnit.unit)) hB
  rw[hfo];rfl
theorem q_lookS (hT:TyOK P Ty)(hR:Rep Ty φ h.get p w)(hρ:OpsAre φ tm ρ){t:TypeId}{d:TD}(hd:Ty t=some d){kt et:Nat}(hu:d.u=.map kt et){dk de:TD}(hk:Ty kt=some dk)(he:Ty et=some de)
  {fs:List (Nat × Nat)} (hki:dk.u=.struct fs) (hI:fs.all (fun f=>intT Ty f.2)=true) {n:Nat} (hfl:flatN Ty 2 kt=some n) {z:V} (hz:mkV de.u.agg de.z=some z) {x i:Operand} {x' i':Opd} (hx:opd x=some x') (hi':opd i=some i') {ok:Bool} {v:V}
  (hv:q_lks h n z (x'.ev tm) (i'.ev tm) ok=some v):
  (Instr.lookup t (ρ x) (ρ i) ok).run P w=.ok (conc φ v) w∧v.sc p:=by
 obtain⟨ti,u,hi0⟩:=hT t d hd
 have his:=hi0.is;rw[hu] at his
 have:=is_map his;subst this
 obtain⟨ki,ku,hki0⟩:=hT kt dk hk
 have hks:=hki0.is;rw[hki] at hks
 obtain⟨gs,hku,_⟩:=is_struct hks
 obtain⟨ei,eu,hei⟩:=hT et de he
 rw[hρ x x' hx,hρ i i' hi']
 have hz':zeroOf de=conc φ z:=by
  rw[zeroOf_eq hei φ]
  cases ha:de.u.agg with
  |true=>rw[ha] at hz;simp only[mkV,Option.some.injEq] at hz;subst hz;simp[conc,concs_eq]
  |false=>
   obtain⟨q,hq,_⟩:=hei.one ha
   rw[ha,hq] at hz;simp only[mkV,Option.some.injEq] at hz;subst hz;simp[hq]
 have hzs:z.sc p:=by
  have hsz:scL p de.z:=scL_mono (fun _ h=>h.elim) _ hei.sc
  cases ha:de.u.agg with
  |true=>rw[ha] at hz;simp only[mkV,Option.some.injEq] at hz;subst hz;exact hsz
  |false=>
   obtain⟨q,hq,_⟩:=hei.one ha
   rw[ha,hq] at hz;simp only[mkV,Option.some.injEq] at hz;subst hz;rw[hq] at hsz;exact hsz.1
 unfold q_lks at hv
 simp only[og_eq] at hv
 obtain⟨hok,hv⟩:=hv
 obtain⟨kl,hkl,hln⟩:∃kl,i'.ev tm=.agg kl∧kl.length=n:=by
  unfold okS at hok
  split at hok
  ·rename_i l hl;exact⟨l,hl,by rw[←lenN_eq];exact Nat.eq_of_beq_eq_true hok⟩
  ·cases hok
 cases hm:mapOf h (x'.ev tm) with
 |none=>simp[hm] at hv
 |some es=>
  simp only[hm] at hv
  rw[hkl] at hv⊢
  cases hf:findS (.agg kl) es with
  |none=>simp[hf] at hv
  |some r=>
   simp only[hf,Option.some.injEq] at hv
   subst hv
   have hes:∃E:Array MapEntry,(E.toList.map fun e=>(e.key,e.val))=es.map (fun q=>(conc φ q.1,conc φ q.2))∧
     ((conc φ (x'.ev tm)=.map none∧E= #[])∨∃r clk,conc φ (x'.ev tm)=.map (some r)∧w.heap[r]? =some (.map E clk))∧∀e∈es,e.1.sc p∧e.2.sc p:=by
    unfold mapOf at hm
    split at hm
    ·rename_i ex
     cases hm
     exact⟨#[],by simp,.inl ⟨by rw[ex];simp[conc],rfl⟩,by simp⟩
    ·rename_i b ex
     split at hm
     ·rename_i es' hb
      cases hm
      obtain⟨o,ho,E,clk,rfl,hE,_⟩:=hR.blk b _ hb
      exact⟨E,hE,.inr ⟨_,clk,by rw[ex];simp[conc],ho⟩,fun e he=>(hR.sc b _ hb).2 e he⟩
     ·cases hm
    ·cases hm
   obtain⟨E,hE,hrun,hsc⟩:=hes
   obtain⟨R,hfr,hR2⟩:=findS_sound (P:=P) (φ:=φ) (w:=w) hT hfl hk (by rw[hki];rfl) hln 0 hf hE
   have hfs':(Instr.findKey kt (conc φ (.agg kl)) E.toList).run P w=.ok R w:=by
    rw[findKey_struct (by rw[hki0.under,hku])];exact hfr
   have hck:(Instr.checkKey E.isEmpty 10000 kt (conc φ (.agg kl))).run P w=.ok () w:=checkKey_flat hT hfl hk hki hI hln _
   cases r with
   |none=>
    simp only at hR2
    subst hR2
    refine⟨?_,?_⟩
    ·simp only[Instr.lookup,Sem.run_bind,hi0.r_under,Result.andThen_ok]
     rcases hrun with⟨h1,rfl⟩|⟨r,clk,h1,h2⟩
     ·rw[h1]
      simp only[Sem.run_bind,Sem.run_pure,Result.andThen_ok,hck,hfs',hei.r_zero,hz']
      cases ok<;>simp[found,conc,concs]
     ·rw[h1]
      simp only[Sem.run_bind,Sem.run_pure,Result.andThen_ok,MapKept.run_getObj_map h2,hck,hfs',hei.r_zero,hz']
      cases ok<;>simp[found,conc,concs]
    ·cases ok<;>simp[found,V.sc,scL,hzs]
   |some v=>
    obtain⟨q,rfl,e',h2,h3⟩:=hR2
    refine⟨?_,?_⟩
    ·simp only[Instr.lookup,Sem.run_bind,hi0.r_under,Result.andThen_ok]
     rcases hrun with⟨h4,rfl⟩|⟨r,clk,h4,h5⟩
     ·rw[h4]
      simp only[Sem.run_bind,Sem.run_pure,Result.andThen_ok,hck,hfs']
      cases ok<;>simp[found,conc,concs]
     ·rw[h4]
      simp only[Sem.run_bind,Sem.run_pure,Result.andThen_ok,MapKept.run_getObj_map h5,hck,hfs']
      cases ok<;>simp[found,conc,concs]
    ·have:=(hsc e' h2).2;rw[h3] at this
     cases ok<;>simp[found,V.sc,scL,this]
theorem q_len_sound (hT:TyOK P Ty)(hρ:OpsAre φ tm ρ){t:TypeId}{d:TD}(hd:Ty t=some d){e:Nat}(hu:d.u=.slice e)
  {x:Operand} {x':Opd} (hx:opd x=some x') {v:V} (hv:q_len (x'.ev tm)=some v) (ts:Array TypeId) (hts:ts[0]? =some t) (ty:TypeId) (as:Array Value) (has:as[0]? =some (ρ x)):
  (Builtin.len_ ts ty as).run P w=.ok (conc φ v) w∧v.sc p:=by
 obtain⟨ti,u,hi0⟩:=hT t d hd
 have his:=hi0.is;rw[hu] at his
 have:=is_slice his;subst this
 rw[hρ x x' hx] at has
 unfold q_len at hv
 split at hv
 ·rename_i ex
  rw[ex] at has
  cases hv
  simp[Builtin.len_,hts,has,hi0.r_under,conc,goInt,V.sc]
 ·rename_i b o n c ex
  rw[ex] at has
  cases hv
  cases c<;>simp[Builtin.len_,hts,has,hi0.r_under,conc,goInt,V.sc]
 ·rename_i a ex
  rw[ex] at has
  cases hv
  simp[Builtin.len_,hts,has,hi0.r_under,conc,goInt,V.sc]
 ·cases hv
theorem q_lnm_sound (hT:TyOK P Ty)(hR:Rep Ty φ h.get p w)(hρ:OpsAre φ tm ρ){t:TypeId}{d:TD}(hd:Ty t=some d){k e:Nat}(hu:d.u=.map k e)
  {x:Operand} {x':Opd} (hx:opd x=some x') {v:V} (hv:q_lnm h (x'.ev tm)=some v) (ts:Array TypeId) (hts:ts[0]? =some t) (ty:TypeId) (as:Array Value) (has:as[0]? =some (ρ x)):
  (Builtin.len_ ts ty as).run P w=.ok (conc φ v) w∧v.sc p:=by
 obtain⟨ti,u,hi0⟩:=hT t d hd
 have his:=hi0.is;rw[hu] at his
 have:=is_map his;subst this
 rw[hρ x x' hx] at has
 unfold q_lnm at hv
 split at hv
 ·rename_i ex
  rw[ex] at has
  cases hv
  simp[Builtin.len_,hts,has,hi0.r_under,conc,goInt,V.sc]
 ·rename_i b ex
  rw[ex] at has
  split at hv
  ·rename_i es hb
   cases hv
   obtain⟨o,ho,E,clk,rfl,hE,_⟩:=hR.blk b _ hb
   have hl:E.size=es.length:=by have:=congrArg List.length hE;simpa using this
   simp[Builtin.len_,hts,has,hi0.r_under,conc,goInt,V.sc,MapKept.run_getObj_map ho,lenE_eq,hl]
  ·cases hv
 ·cases hv
end
end Go.Ab
