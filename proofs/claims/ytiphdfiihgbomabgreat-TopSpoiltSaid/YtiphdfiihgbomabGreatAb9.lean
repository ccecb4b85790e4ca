/- Every operation that only reads is sound. -/
import Derived.Test.YtiphdfiihgbomabGreatAb8
set_option linter.unusedSimpArgs false
set_option linter.unusedVariables false
namespace Go.Ab
section
variable {P:Program} {Ty:Nat→Option TD} {φ:Phi} {p:Nat→Prop} {w:World} {h:H} {tm:T V} {ρ:Operand→Value}
theorem ex_v {s:Sem Value}{v:V}(hs:s.run P w=.ok (conc φ v) w∧v.sc p):(do pure (Next.value (←s)):Sem Next).run P w=.ok (.value (conc φ v)) w∧v.sc p:=by
 refine⟨?_,hs.2⟩
 simp[hs.1]
theorem und_eq:conc φ .und=undef:=by simp[conc,concs,undef]
theorem guard_int {op:BinOp}{t:TypeId}{x y:Operand}{k j:IntKind}{a b:Int}:(eqGuard op t x y (.int k a) (.int j b)).run P w=.ok () w:=by
 cases op<;>simp[eqGuard]
theorem guard_bool {op:BinOp}{t:TypeId}{x y:Operand}{a b:Bool}:(eqGuard op t x y (.bool a) (.bool b)).run P w=.ok () w:=by
 cases op<;>simp[eqGuard]
theorem guard_slice {op:BinOp}{t:TypeId}{x y:Operand}{a b:Option Addr}{n c m d:Nat}:(eqGuard op t x y (.slice a n c) (.slice b m d)).run P w=.ok () w:=by
 cases op<;>simp[eqGuard]
theorem q_arith (hρ:OpsAre φ tm ρ){op:BinOp}(hop:op≠.shl∧op≠.shr∧op≠.andNot){t:TypeId}{x y:Operand}{x' y':Opd}(hx:opd x=some x')(hy:opd y=some y'){v:V}
  (hv:q_ar op (x'.ev tm) (y'.ev tm)=some v):
  (do eqGuard op t x y (ρ x) (ρ y);binOp op t (ρ x) (ρ y):Sem Value).run P w=.ok (conc φ v) w∧v.sc p:=by
 rw[hρ x x' hx,hρ y y' hy]
 unfold q_ar at hv
 split at hv
 ·rename_i k a e1
  split at hv
  ·rename_i j b e2
   cases hk:keq k j with
   |false=>simp[hk] at hv
   |true=>
    have:=keq_eq.1 hk;subst this
    simp only[hk] at hv
    obtain⟨h1,h2⟩:=arith_sound (P:=P) (w:=w) (φ:=φ) (p:=p) hv hop t
    rw[e1,e2]
    refine⟨?_,h2⟩
    simp only[conc,Sem.run_bind,guard_int,Result.andThen_ok,h1]
  ·cases hv
 ·cases hv
theorem q_shift (hρ:OpsAre φ tm ρ){op:BinOp}{t:TypeId}{x y:Operand}{x' y':Opd}(hx:opd x=some x')(hy:opd y=some y'){v:V}
  (hv:q_sh op (x'.ev tm) (y'.ev tm)=some v):
  (do eqGuard op t x y (ρ x) (ρ y);binOp op t (ρ x) (ρ y):Sem Value).run P w=.ok (conc φ v) w∧v.sc p:=by
 rw[hρ x x' hx,hρ y y' hy]
 unfold q_sh at hv
 split at hv
 ·rename_i k a e1
  split at hv
  ·rename_i j b e2
   obtain⟨h1,h2⟩:=shift_sound (P:=P) (w:=w) (φ:=φ) (p:=p) (j:=j) hv t
   rw[e1,e2]
   refine⟨?_,h2⟩
   simp only[conc,Sem.run_bind,guard_int,Result.andThen_ok,h1]
  ·cases hv
 ·cases hv
theorem q_beq_sound (hT:TyOK P Ty)(hρ:OpsAre φ tm ρ){t:TypeId}{d:TD}(hd:Ty t=some d)(hu:d.u=.bool){op:BinOp}{ng:Bool}
  (hop:(op=.eql∧ng=false)∨(op=.neq∧ng=true)) {x y:Operand} {x' y':Opd} (hx:opd x=some x') (hy:opd y=some y') {v:V} (hv:q_beq ng (x'.ev tm) (y'.ev tm)=some v):
  (do eqGuard op t x y (ρ x) (ρ y);binOp op t (ρ x) (ρ y):Sem Value).run P w=.ok (conc φ v) w∧v.sc p:=by
 obtain⟨ti,u,hi0⟩:=hT t d hd
 have his:=hi0.is;rw[hu] at his
 have:=is_bool his;subst this
 rw[hρ x x' hx,hρ y y' hy]
 unfold q_beq at hv
 split at hv
 ·rename_i a e1
  split at hv
  ·rename_i b e2
   cases hv
   rw[e1,e2]
   refine⟨?_,by simp[V.sc]⟩
   have he:(Op.equal t (.bool a) (.bool b)).run P w=.ok (a==b) w:=by
    show(Op.equalIn (9999+1) t (.bool a) (.bool b)).run P w=_
    exact run_equalIn_bool' w 9999 t a b hi0.under
   rcases hop with⟨rfl,rfl⟩|⟨rfl,rfl⟩
   ·simp[conc,guard_bool,binOp,he,ngB]
   ·simp[conc,guard_bool,binOp,he,ngB]
  ·cases hv
 ·cases hv
theorem q_isn_sound (hT:TyOK P Ty)(hρ:OpsAre φ tm ρ){t:TypeId}{d:TD}(hd:Ty t=some d){e:Nat}(hu:d.u=.slice e){op:BinOp}{ng:Bool}
  (hop:(op=.eql∧ng=false)∨(op=.neq∧ng=true)) {x y:Operand} {x' y':Opd} (hx:opd x=some x') (hy:opd y=some y') (hn:isNilC y=true) {v:V} (hv:q_isn ng (x'.ev tm)=some v):
  (do eqGuard op t x y (ρ x) (ρ y);binOp op t (ρ x) (ρ y):Sem Value).run P w=.ok (conc φ v) w∧v.sc p:=by
 obtain⟨ti,u,hi0⟩:=hT t d hd
 have his:=hi0.is;rw[hu] at his
 have:=is_slice his;subst this
 have hy':∃n c,ρ y=.slice none n c:=by
  unfold isNilC at hn
  split at hn
  ·rename_i n c
   rw[hρ _ y' hy]
   simp only[opd] at hy
   cases h1:cst (.slice none n c) with
   |none=>simp[h1] at hy
   |some z=>
    simp only[h1,Option.some.injEq] at hy
    subst hy
    exact⟨n,c,(cst_conc h1 φ).1⟩
  ·cases hn
 obtain⟨n,c,hy2⟩:=hy'
 rw[hρ x x' hx,hy2]
 have he:∀(a:Option Addr) (m d:Nat),(Op.equal t (.slice a m d) (.slice none n c)).run P w=.ok a.isNone w:=by
  intro a m d
  have key:∀k,(Op.equalIn (k+1) t (.slice a m d) (.slice none n c)).run P w=.ok a.isNone w:=by
   intro k
   cases a<;>simp[Op.equalIn,hi0.r_under]
  exact key 9999
 unfold q_isn at hv
 split at hv
 ·rename_i e1
  cases hv
  rw[e1]
  refine⟨?_,by simp[V.sc]⟩
  rcases hop with⟨rfl,rfl⟩|⟨rfl,rfl⟩<;>simp[conc,guard_slice,binOp,he]
 ·rename_i b o m cc e1
  cases hv
  rw[e1]
  refine⟨?_,by simp[V.sc]⟩
  rcases hop with⟨rfl,rfl⟩|⟨rfl,rfl⟩<;>cases cc<;>simp[conc,guard_slice,binOp,he]
 ·cases hv
theorem q_sound_call (hT:TyOK P Ty){b:Builtin}{args:Array Operand}{ts:Array TypeId}{i:I}(hc:compCall Ty b args.toList ts.toList=some i)(hk:i.kind=0){v:V}(hv:evQ tm h i=some v)
  (hρ:OpsAre φ tm ρ) (hR:Rep Ty φ h.get p w) (hs:TmSc p tm) (ty:TypeId) (cs:Array Bool):
  (builtin b ts ty cs (args.map ρ)).run P w=.ok (.value (conc φ v)) w∧v.sc p:=by
 unfold compCall at hc
 split at hc
 ·-- append
  exfalso
  repeat' (split at hc)
  all_goals first
   |(cases hc;done)
   |(simp only[Option.some.injEq] at hc;subst hc;simp[I.kind] at hk)
 ·-- len
  rename_i x t hx ht
  have ha0:(args.map ρ)[0]? =some (ρ x):=by
   have:args[0]? =some x:=by rw[←Array.getElem?_toList,hx];rfl
   simp[this]
  have ht0:ts[0]? =some t:=by rw[←Array.getElem?_toList,ht];rfl
  cases hd:Ty t with
  |none=>simp[hd] at hc
  |some d=>
   cases hx':opd x with
   |none=>simp[hd,hx'] at hc
   |some x'=>
    simp only[hd,hx'] at hc
    obtain⟨ti,u,hi0⟩:=hT t d hd
    split at hc
    ·rename_i e hu
     cases hc
     have:=ex_v (q_len_sound (P:=P) (p:=p) (w:=w) hT hρ hd hu hx' hv ts ht0 ty (args.map ρ) ha0)
     simpa[builtin] using this
    ·rename_i k e hu
     cases hc
     have:=ex_v (q_lnm_sound (P:=P) (p:=p) (w:=w) hT hR hρ hd hu hx' hv ts ht0 ty (args.map ρ) ha0)
     simpa[builtin] using this
    ·rename_i n e hu
     cases hc
     have his:=hi0.is;rw[hu] at his
     have:=is_arr his;subst this
     simp only[evQ,Opd.ev,Option.some.injEq] at hv
     subst hv
     simp[builtin,Builtin.len_,ht0,ha0,hi0.r_under,conc,goInt,V.sc]
    ·rename_i e hu
     have his:=hi0.is;rw[hu] at his
     have:=is_ptr his;subst this
     cases he:Ty e with
     |none=>simp[he] at hc
     |some de=>
      simp only[he] at hc
      obtain⟨ei,eu,hei⟩:=hT e de he
      split at hc
      ·rename_i n e2 hu2
       cases hc
       have his2:=hei.is;rw[hu2] at his2
       have:=is_arr his2;subst this
       simp only[evQ,Opd.ev,Option.some.injEq] at hv
       subst hv
       simp[builtin,Builtin.len_,ht0,ha0,hi0.r_under,hei.r_under,conc,goInt,V.sc]
      ·cases hc
    ·cases hc
 ·-- max
  cases ho:opds args.toList with
  |none=>simp[ho] at hc
  |some l=>
   simp only[ho,Option.some.injEq] at hc
   subst hc
   have hm:=opds_map hρ ho
   have hsc:=evs_sc hs ho
   simp only[evQ,q_mx] at hv
   cases hl:evs tm l with
   |nil=>simp[hl] at hv
   |cons a r=>
    simp only[hl] at hv
    rw[hl] at hm hsc
    have:=max_sound (P:=P) (w:=w) (φ:=φ) (p:=p) hv
    refine⟨?_,this.2 hsc.1⟩
    simp only[List.map_cons] at hm
    simp[builtin,Builtin.max_,hm,this.1]
 ·-- min
  cases ho:opds args.toList with
  |none=>simp[ho] at hc
  |some l=>
   simp only[ho,Option.some.injEq] at hc
   subst hc
   have hm:=opds_map hρ ho
   have hsc:=evs_sc hs ho
   simp only[evQ,q_mn] at hv
   cases hl:evs tm l with
   |nil=>simp[hl] at hv
   |cons a r=>
    simp only[hl] at hv
    rw[hl] at hm hsc
    have:=min_sound (P:=P) (w:=w) (φ:=φ) (p:=p) hv
    refine⟨?_,this.2 hsc.1⟩
    simp only[List.map_cons] at hm
    simp[builtin,Builtin.min_,hm,this.1]
 ·-- copy
  exfalso
  repeat' (split at hc)
  all_goals first
   |(cases hc;done)
   |(simp only[Option.some.injEq] at hc;subst hc;simp[I.kind] at hk)
 ·-- clear
  exfalso
  repeat' (split at hc)
  all_goals first
   |(cases hc;done)
   |(simp only[Option.some.injEq] at hc;subst hc;simp[I.kind] at hk)
 ·cases hc
theorem q_sound (hT:TyOK P Ty)(hD:8≤P.depth){o:Oper}{i:I}(hc:compOp Ty o.op=some i)(hk:i.kind=0){v:V}(hv:evQ tm h i=some v)
  (hρ:OpsAre φ tm ρ) (hR:Rep Ty φ h.get p w) (hs:TmSc p tm):(execOp ρ o).run P w=.ok (.value (conc φ v)) w∧v.sc p:=by
 obtain⟨dst,op,type,pos,after,guard⟩:=o
 cases op
 case move x=>
  simp only[compOp] at hc
  cases h1:opd x with
  |none=>simp[h1] at hc
  |some y=>
   simp only[h1,Option.some.injEq] at hc
   subst hc
   simp only[evQ,Option.some.injEq] at hv
   subst hv
   exact⟨by simp[execOp,hρ x y h1],ev_sc hs h1⟩
 case assign x=>
  simp only[compOp] at hc
  cases h1:opd x with
  |none=>simp[h1] at hc
  |some y=>
   simp only[h1,Option.some.injEq] at hc
   subst hc
   simp only[evQ,Option.some.injEq] at hv
   subst hv
   exact⟨by simp[execOp,hρ x y h1],ev_sc hs h1⟩
 case pick c x y=>
  simp only[compOp] at hc
  split at hc
  ·rename_i c' x' y' h1 h2 h3
   cases hc
   simp only[evQ,q_pick] at hv
   split at hv
   ·rename_i b e
    have hcv:ρ c=.bool b:=by rw[hρ c c' h1,e];rfl
    cases b with
    |true=>
     simp only[Option.some.injEq] at hv;subst hv
     exact⟨by simp[execOp,hcv,asBool,hρ x x' h2],ev_sc hs h2⟩
    |false=>
     simp only[Option.some.injEq] at hv;subst hv
     exact⟨by simp[execOp,hcv,asBool,hρ y y' h3],ev_sc hs h3⟩
   ·cases hv
  ·cases hc
 case build t ps=>
  simp only[compOp] at hc
  cases hd:Ty t with
  |none=>simp[hd] at hc
  |some d=>
   simp only[hd] at hc
   split at hc
   ·rename_i fs hu
    cases ha:fs.all (fun f=>(Ty f.2).isSome) with
    |false=>simp[ha] at hc
    |true=>
     simp only[ha] at hc
     cases hl:partsAt (fieldAtN Ty fs) ps.toList with
     |none=>simp[hl] at hc
     |some l=>
      simp only[hl,Option.some.injEq] at hc
      subst hc
      refine ex_v (q_build_struct hT hρ hs hd hu (fun f hf=>?_) hl hv)
      have:=List.all_eq_true.1 ha f hf
      exact Option.isSome_iff_exists.1 this
   ·rename_i n e hu
    cases he:Ty e with
    |none=>simp[he] at hc
    |some de=>
     simp only[he] at hc
     cases h0:de.size with
     |zero=>simp[h0] at hc
     |succ k=>
      simp only[h0] at hc
      rw[←h0] at hc
      cases hl:partsAt (fun i=>some (i*de.size,de.size)) ps.toList with
      |none=>simp[hl] at hc
      |some l=>
       simp only[hl,Option.some.injEq] at hc
       subst hc
       exact ex_v (q_build_arr hT hρ hs hd hu he (by omega) hl hv)
   ·cases hc
 case load t a=>
  simp only[compOp] at hc
  split at hc
  ·rename_i d a' hd ha
   cases hc
   exact ex_v (q_load hT hR hρ hd ha hv)
  ·cases hc
 case nilCheck x=>
  simp only[compOp] at hc
  cases h1:opd x with
  |none=>simp[h1] at hc
  |some y=>
   simp only[h1,Option.some.injEq] at hc
   subst hc
   have hsy:=ev_sc hs h1
   simp only[evQ,q_chk] at hv
   split at hv
   ·rename_i b o e
    rw[e] at hsy
    cases hv
    exact⟨by simp[execOp,hρ x y h1,e,conc],hsy⟩
   ·rename_i f a b e
    rw[e] at hsy
    cases hv
    exact⟨by simp[execOp,hρ x y h1,e,conc],hsy⟩
   ·cases hv
 case binOp op t x y yt=>
  simp only[compOp] at hc
  split at hc
  ·rename_i d x' y' hd hx hy
   have fin:∀{s:Sem Value},(s.run P w=.ok (conc φ v) w∧v.sc p)→s=(do eqGuard op t x y (ρ x) (ρ y);binOp op t (ρ x) (ρ y))→
     (execOp ρ ⟨dst,.binOp op t x y yt,type,pos,after,guard⟩).run P w=.ok (.value (conc φ v)) w∧v.sc p:=by
    intro s h1 h2
    subst h2
    exact ex_v h1
   split at hc
   ·-- integers
    split at hc
    all_goals first
     |(cases hc;done)
     |(cases hc;first|exact fin (q_shift hρ hx hy hv) rfl|exact fin (q_arith hρ (by decide) hx hy hv) rfl)
   ·rename_i hu
    split at hc
    ·cases hc;exact fin (q_beq_sound hT hρ hd hu (.inl ⟨rfl,rfl⟩) hx hy hv) rfl
    ·cases hc;exact fin (q_beq_sound hT hρ hd hu (.inr ⟨rfl,rfl⟩) hx hy hv) rfl
    ·cases hc
   ·rename_i e hu
    split at hc
    ·cases hn:isNilC y with
     |false=>simp[hn] at hc
     |true=>simp only[hn,Option.some.injEq] at hc;subst hc;exact fin (q_isn_sound hT hρ hd hu (.inl ⟨rfl,rfl⟩) hx hy hn hv) rfl
    ·cases hn:isNilC y with
     |false=>simp[hn] at hc
     |true=>simp only[hn,Option.some.injEq] at hc;subst hc;exact fin (q_isn_sound hT hρ hd hu (.inr ⟨rfl,rfl⟩) hx hy hn hv) rfl
    ·cases hc
   ·rename_i fs hu
    split at hc
    ·rename_i n hf;cases hc;exact fin (q_feq_sound hT hD hρ hd (by simp[hu,UD.agg]) hf (.inl ⟨rfl,rfl⟩) hx hy hv) rfl
    ·rename_i n hf;cases hc;exact fin (q_feq_sound hT hD hρ hd (by simp[hu,UD.agg]) hf (.inr ⟨rfl,rfl⟩) hx hy hv) rfl
    ·cases hc
   ·rename_i n e hu
    split at hc
    ·rename_i n hf;cases hc;exact fin (q_feq_sound hT hD hρ hd (by simp[hu,UD.agg]) hf (.inl ⟨rfl,rfl⟩) hx hy hv) rfl
    ·rename_i n hf;cases hc;exact fin (q_feq_sound hT hD hρ hd (by simp[hu,UD.agg]) hf (.inr ⟨rfl,rfl⟩) hx hy hv) rfl
    ·cases hc
   ·cases hc
  ·cases hc
 case unOp op t x=>
  simp only[compOp] at hc
  cases h1:opd x with
  |none=>simp[h1] at hc
  |some y=>
   simp only[h1] at hc
   split at hc
   ·cases hc
    simp only[evQ,q_neg] at hv
    split at hv
    ·rename_i k a e
     cases hv
     exact⟨by simp[execOp,hρ x y h1,e,conc,Op.unary,Op.intArith,wr_eq],by simp[V.sc]⟩
    ·cases hv
   ·cases hc
    simp only[evQ,q_not] at hv
    split at hv
    ·rename_i b e
     cases hv
     exact⟨by simp[execOp,hρ x y h1,e,conc,Op.unary],by simp[V.sc]⟩
    ·cases hv
   ·cases hc
 case convert s t x=>
  simp only[compOp] at hc
  split at hc
  ·rename_i ds d x' hds hd hx
   split at hc
   ·rename_i k0 k hu0 hu
    cases hc
    obtain⟨i0,u0,hi0⟩:=hT s ds hds
    obtain⟨i1,u1,hi1⟩:=hT t d hd
    have his:=hi1.is;rw[hu] at his
    have:=is_int his;subst this
    have his0:=hi0.is;rw[hu0] at his0
    have:=is_int his0;subst this
    simp only[evQ,q_cv] at hv
    split at hv
    ·rename_i j a e
     cases hv
     exact⟨by simp[execOp,hρ x x' hx,e,conc,convert,hi0.r_under,hi1.r_under,Conv.intToInt,wr_eq],by simp[V.sc]⟩
    ·cases hv
   ·cases hc
  ·cases hc
 case makeFunc fn a b=>
  cases fn
  case func f=>
   simp only[compOp] at hc
   split at hc
   ·rename_i a' b' h1 h2
    cases hc
    simp only[evQ,Option.some.injEq] at hv
    subst hv
    have e1:=opds_map hρ h1
    have e2:=opds_map hρ h2
    refine⟨?_,?_⟩
    ·have e3:a.map ρ=(concs φ (evs tm a')).toArray:=by
      rw[concs_eq,←e1];exact Array.toList_inj.1 (by simp)
     have e4:b.map ρ=(concs φ (evs tm b')).toArray:=by
      rw[concs_eq,←e2];exact Array.toList_inj.1 (by simp)
     simp[execOp,Instr.makeFunc,conc,e3,e4]
    ·exact⟨evs_sc hs h1,evs_sc hs h2⟩
   ·cases hc
  all_goals(simp[compOp] at hc)
 case slice t x lo hi mx=>
  simp only[compOp] at hc
  split at hc
  ·rename_i d x' hd hx hm
   split at hc
   ·rename_i lo' hi' mx' h1 h2 h3
    split at hc
    ·rename_i e hu
     cases he:Ty e with
     |none=>simp[he] at hc
     |some de=>
      simp only[he] at hc
      cases h0:de.size with
      |zero=>simp[h0] at hc
      |succ k=>
       simp only[h0,Option.some.injEq] at hc
       subst hc
       rw[←h0] at hv
       exact ex_v (q_slice hT hR hρ hd hu he (by omega) hx h1 h2 h3 hm hv (ev_sc hs hx))
    ·rename_i n e hu
     cases he:Ty e with
     |none=>simp[he] at hc
     |some de=>
      simp only[he] at hc
      cases h0:de.size with
      |zero=>simp[h0] at hc
      |succ k=>
       simp only[h0,Option.some.injEq] at hc
       subst hc
       rw[←h0] at hv
       exact ex_v (q_slicearr hT hρ hd hu he hx h1 h2 h3 hm hv (ev_sc hs hx))
    ·cases hc
   ·cases hc
  ·cases hc
 case fieldAddr t x i0=>
  simp only[compOp] at hc
  split at hc
  ·rename_i d x' hd hx
   split at hc
   ·rename_i fs hu
    split at hc
    ·rename_i o' n' hf
     cases hc
     exact ex_v (q_fieldAddr hT hρ hd hu hx hf hv (ev_sc hs hx))
    ·cases hc
   ·cases hc
  ·cases hc
 case field t x i0=>
  simp only[compOp] at hc
  split at hc
  ·rename_i d x' hd hx
   split at hc
   ·rename_i fs hu
    split at hc
    ·rename_i o' ft hf
     cases hdf:Ty ft with
     |none=>simp[hdf] at hc
     |some df=>
      simp only[hdf,Option.some.injEq] at hc
      subst hc
      exact ex_v (q_field hT hρ hd hu hf hdf hx hv (ev_sc hs hx))
    ·cases hc
   ·cases hc
  ·cases hc
 case indexAddr t x i0=>
  simp only[compOp] at hc
  split at hc
  ·rename_i d x' i' hd hx hi
   split at hc
   ·rename_i e hu
    cases he:Ty e with
    |none=>simp[he] at hc
    |some de=>
     simp only[he] at hc
     cases h0:de.size with
     |zero=>simp[h0] at hc
     |succ k=>
      simp only[h0,Option.some.injEq] at hc
      subst hc
      rw[←h0] at hv
      exact ex_v (q_index_slice hT hρ hd hu he hx hi hv (ev_sc hs hx))
   ·rename_i n e hu
    cases he:Ty e with
    |none=>simp[he] at hc
    |some de=>
     simp only[he] at hc
     cases h0:de.size with
     |zero=>simp[h0] at hc
     |succ k=>
      simp only[h0,Option.some.injEq] at hc
      subst hc
      rw[←h0] at hv
      exact ex_v (q_index_arr hT hρ hd hu he hx hi hv (ev_sc hs hx))
   ·cases hc
  ·cases hc
 case index t x i0=>
  simp only[compOp] at hc
  split at hc
  ·rename_i d x' i' hd hx hi
   split at hc
   ·rename_i n e hu
    cases he:Ty e with
    |none=>simp[he] at hc
    |some de=>
     simp only[he] at hc
     cases h0:de.size with
     |zero=>simp[h0] at hc
     |succ k=>
      simp only[h0,Option.some.injEq] at hc
      subst hc
      rw[←h0] at hv
      exact ex_v (q_index_val hT hρ hd hu he hx hi hv (ev_sc hs hx))
   ·cases hc
  ·cases hc
 case lookup t x i0 ok=>
  simp only[compOp] at hc
  split at hc
  ·rename_i d x' i' hd hx hi
   split at hc
   ·rename_i kt et hu
    split at hc
    ·rename_i dk de hk1 he
     cases hz:mkV de.u.agg de.z with
     |none=>simp[hz] at hc
     |some z=>
      simp only[hz] at hc
      split at hc
      ·rename_i kk hki
       cases hc
       exact ex_v (q_lookup hT hR hρ hd hu hk1 he hki hz hx hi hv)
      ·rename_i fs hki
       split at hc
       ·rename_i n hI hfl
        cases hc
        exact ex_v (q_lookS hT hR hρ hd hu hk1 he hki hI hfl hz hx hi hv)
       ·cases hc
      ·cases hc
    ·cases hc
   ·cases hc
  ·cases hc
 case extract x i0=>
  simp only[compOp] at hc
  cases h1:opd x with
  |none=>simp[h1] at hc
  |some y=>
   simp only[h1,Option.some.injEq] at hc
   subst hc
   have hsy:=ev_sc hs h1
   simp only[evQ,q_ext] at hv
   split at hv
   ·rename_i vs e
    rw[e] at hsy
    rw[nth_eq] at hv
    refine⟨?_,scL_iff.1 hsy v (List.mem_of_getElem? hv)⟩
    simp[execOp,Instr.extract,hρ x y h1,e,conc,concs_eq,hv]
   ·cases hv
 case call c=>
  obtain⟨callee,args,ts⟩:=c
  simp only[compOp] at hc
  cases callee
  case value f=>
   simp only at hc
   split at hc
   ·cases hc;simp[I.kind] at hk
   ·cases hc
  case builtin b=>
   simp only at hc
   refine⟨?_,(q_sound_call hT hc hk hv hρ hR hs type #[]).2⟩
   simp only[execOp,resolve,invoke,Sem.run_bind,Sem.run_pure,Result.andThen_ok]
   exact(q_sound_call hT hc hk hv hρ hR hs type _).1
  case invoke=>simp at hc
 case makeMap t r=>
  cases r<;>simp[compOp] at hc
  subst hc;simp[I.kind] at hk
 case makeInterface t x=>
  simp only[compOp,Option.some.injEq] at hc
  subst hc;simp[evQ,q_not,Opd.ev] at hv
 case panic x=>
  simp only[compOp,Option.some.injEq] at hc
  subst hc;simp[evQ,q_not,Opd.ev] at hv
 all_goals
  first
   |(simp[compOp] at hc;done)
   |(exfalso;simp only[compOp] at hc
     repeat' (split at hc)
     all_goals first
      |(cases hc;done)
      |(simp only[Option.some.injEq] at hc;subst hc;simp[I.kind] at hk))
end
end Go.Ab
