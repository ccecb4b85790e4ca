/- The same run in a form that the kernel reckons quickly: operations resolved, recursors for recursion. -/
import Derived.Test.YtiphdfiihgbomabGreatAb3
set_option linter.unusedSimpArgs false
set_option linter.unusedVariables false
namespace Go.Ab
noncomputable section
abbrev F:=Kall→T V→H→Option (V × H)
def ar_add (k:IntKind)(a b:Int):Option V:=vi k (wr k (Int.add a b))
def ar_sub (k:IntKind)(a b:Int):Option V:=vi k (wr k (Int.sub a b))
def ar_mul (k:IntKind)(a b:Int):Option V:=vi k (wr k (Int.mul a b))
def ar_eql (_:IntKind)(a b:Int):Option V:=vb (ieq a b)
def ar_neq (_:IntKind)(a b:Int):Option V:=vb (!ieq a b)
def ar_lss (_:IntKind)(a b:Int):Option V:=vb (ilt a b)
def ar_leq (_:IntKind)(a b:Int):Option V:=vb (!ilt b a)
def ar_gtr (_:IntKind)(a b:Int):Option V:=vb (ilt b a)
def ar_geq (_:IntKind)(a b:Int):Option V:=vb (!ilt a b)
def ar_none (_:IntKind)(_ _:Int):Option V:=none
def arF:BinOp→IntKind→Int→Int→Option V
 |.add=>ar_add
 |.sub=>ar_sub
 |.mul=>ar_mul
 |.quo=>quoV
 |.rem=>remV
 |.eql=>ar_eql
 |.neq=>ar_neq
 |.lss=>ar_lss
 |.leq=>ar_leq
 |.gtr=>ar_gtr
 |.geq=>ar_geq
 |.and=>andV
 |.or=>orV
 |.xor=>xorV
 |_=>ar_none
theorem arF_eq (op:BinOp):arF op=arith op:=by
 funext k a b;cases op<;>rfl
def k_ar2 (g:IntKind→Int→Int→Option V)(k:IntKind)(a:Int)(y:V):Option V:=match y with
 |.int j b=>(match keq k j with|true=>g k a b|false=>none)
 |_=>none
def k_ar1 (g:IntKind→Int→Int→Option V)(x y:V):Option V:=match x with
 |.int k a=>k_ar2 g k a y
 |_=>none
theorem k_ar1_eq (op:BinOp)(x y:V):k_ar1 (arF op) x y=q_ar op x y:=by
 rw[arF_eq];cases x<;>rfl
def evT (tm:T V)(n:Nat):V:=match tm.get n with|some v=>v|none=>.und
def k_mvt (n:Nat):F:=fun _ tm h=>some (evT tm n,h)
def k_mvc (v:V):F:=fun _ _ h=>some (v,h)
def k_mv (x:Opd):F:=match x with
 |.t n=>k_mvt n
 |.c v=>k_mvc v
def k_pick (c x y:Opd):F:=fun _ tm h=>lq (q_pick (c.ev tm) (x.ev tm) (y.ev tm)) h
def k_ld (ag:Bool)(n:Nat)(x:Opd):F:=fun _ tm h=>lq (q_ld h ag n (x.ev tm)) h
def k_chk (x:Opd):F:=fun _ tm h=>lq (q_chk (x.ev tm)) h
def k_ar (g:IntKind→Int→Int→Option V)(x y:Opd):F:=fun _ tm h=>lq (k_ar1 g (x.ev tm) (y.ev tm)) h
def k_sh (op:BinOp)(x y:Opd):F:=fun _ tm h=>lq (q_sh op (x.ev tm) (y.ev tm)) h
def k_beq (ng:Bool)(x y:Opd):F:=fun _ tm h=>lq (q_beq ng (x.ev tm) (y.ev tm)) h
def k_isn (ng:Bool)(x:Opd):F:=fun _ tm h=>lq (q_isn ng (x.ev tm)) h
def k_feq (ng:Bool)(n:Nat)(x y:Opd):F:=fun _ tm h=>lq (q_feq ng n (x.ev tm) (y.ev tm)) h
def k_neg (x:Opd):F:=fun _ tm h=>lq (q_neg (x.ev tm)) h
def k_not (x:Opd):F:=fun _ tm h=>lq (q_not (x.ev tm)) h
def k_cv (k:IntKind)(x:Opd):F:=fun _ tm h=>lq (q_cv k (x.ev tm)) h
def k_mkf (f:FuncId)(x y:List Opd):F:=fun _ tm h=>lq (some (.fn f (evs tm x) (evs tm y))) h
def k_slc (sz:Nat)(x:Opd)(lo hi m2:Option Opd):F:=fun _ tm h=>lq (q_slc tm h sz (x.ev tm) lo hi m2) h
def k_sla (n sz:Nat)(x:Opd)(lo hi m2:Option Opd):F:=fun _ tm h=>lq (q_sla tm n sz (x.ev tm) lo hi m2) h
def k_fad (off:Nat)(x:Opd):F:=fun _ tm h=>lq (q_fad off (x.ev tm)) h
def k_fld (ag:Bool)(n off:Nat)(x:Opd):F:=fun _ tm h=>lq (q_fld ag n off (x.ev tm)) h
def k_iad (sz:Nat)(x i:Opd):F:=fun _ tm h=>lq (q_iad sz (x.ev tm) (i.ev tm)) h
def k_iaa (n sz:Nat)(x i:Opd):F:=fun _ tm h=>lq (q_iaa n sz (x.ev tm) (i.ev tm)) h
def k_idx (ag:Bool)(n sz:Nat)(x i:Opd):F:=fun _ tm h=>lq (q_idx ag n sz (x.ev tm) (i.ev tm)) h
def k_lkp (z:V)(x i:Opd)(ok:Bool):F:=fun _ tm h=>lq (q_lkp h z (x.ev tm) (i.ev tm) ok) h
def k_lks (n:Nat)(z:V)(x i:Opd)(ok:Bool):F:=fun _ tm h=>lq (q_lks h n z (x.ev tm) (i.ev tm) ok) h
def k_ext (x:Opd)(i:Nat):F:=fun _ tm h=>lq (q_ext (x.ev tm) i) h
def k_len (x:Opd):F:=fun _ tm h=>lq (q_len (x.ev tm)) h
def k_lnm (x:Opd):F:=fun _ tm h=>lq (q_lnm h (x.ev tm)) h
def k_mx (l:List Opd):F:=fun _ tm h=>lq (q_mx (evs tm l)) h
def k_mn (l:List Opd):F:=fun _ tm h=>lq (q_mn (evs tm l)) h
def k_bld (z:List V)(ps:List (Nat × Nat × Opd)):F:=fun _ tm h=>lq (aggO (fillN tm ps z)) h
def k_alc (cs:List V):F:=fun _ _ h=>le (some (a_new h cs))
def k_box (x:Opd):F:=fun _ tm h=>le (some (a_new h (x.ev tm).cells))
def k_bsl (n:Nat)(z:List V)(ps:List (Nat × Nat × Opd)):F:=fun _ tm h=>le (a_bsl h n (fillN tm ps z))
def k_msl (by_:Nat)(z:List V)(l c:Opd):F:=fun _ tm h=>le (a_msl h by_ z (l.ev tm) (c.ev tm))
def k_mkm:F:=fun _ _ h=>le (some (.map h.next,h.add (.map [])))
def k_sto (n:Nat)(a x:Opd):F:=fun _ tm h=>le (e_sto h n (a.ev tm) (x.ev tm))
def k_mup (m k x:Opd):F:=fun _ tm h=>le (e_mup h (m.ev tm) (k.ev tm) (x.ev tm))
def k_mus (n:Nat)(m k x:Opd):F:=fun _ tm h=>le (e_mus h n (m.ev tm) (k.ev tm) (x.ev tm))
def k_men (z:V)(m k:Opd):F:=fun _ tm h=>le (e_men h z (m.ev tm) (k.ev tm))
def k_mst (m s x:Opd):F:=fun _ tm h=>le (e_mst h (m.ev tm) (s.ev tm) (x.ev tm))
def k_app (sz by_:Nat)(x y:Opd):F:=fun _ tm h=>le (e_app' h sz by_ (x.ev tm) (y.ev tm))
def k_cpy (sz:Nat)(x y:Opd):F:=fun _ tm h=>le (e_cpy h sz (x.ev tm) (y.ev tm))
def k_clr (z:List V)(x:Opd):F:=fun _ tm h=>le (e_clr h z (x.ev tm))
def k_call (f:Opd)(args:List Opd):F:=fun K tm h=>K (f.ev tm) (evs tm args) h
def I.f:I→F
 |.mv x=>k_mv x
 |.pick c x y=>k_pick c x y
 |.ld ag n x=>k_ld ag n x
 |.chk x=>k_chk x
 |.ar op x y=>k_ar (arF op) x y
 |.sh op x y=>k_sh op x y
 |.beq ng x y=>k_beq ng x y
 |.isn ng x=>k_isn ng x
 |.feq ng n x y=>k_feq ng n x y
 |.neg x=>k_neg x
 |.not x=>k_not x
 |.cv k x=>k_cv k x
 |.mkf f x y=>k_mkf f x y
 |.slc sz x lo hi m2=>k_slc sz x lo hi m2
 |.sla n sz x lo hi m2=>k_sla n sz x lo hi m2
 |.fad off x=>k_fad off x
 |.fld ag n off x=>k_fld ag n off x
 |.iad sz x i=>k_iad sz x i
 |.iaa n sz x i=>k_iaa n sz x i
 |.idx ag n sz x i=>k_idx ag n sz x i
 |.lkp _ z x i ok=>k_lkp z x i ok
 |.lks n z x i ok=>k_lks n z x i ok
 |.ext x i=>k_ext x i
 |.len x=>k_len x
 |.lnm x=>k_lnm x
 |.mx l=>k_mx l
 |.mn l=>k_mn l
 |.bld z ps=>k_bld z ps
 |.alc cs=>k_alc cs
 |.box x=>k_box x
 |.bsl n z ps=>k_bsl n z ps
 |.msl _ by_ z l c=>k_msl by_ z l c
 |.mkm=>k_mkm
 |.sto n a x=>k_sto n a x
 |.mup _ m k x=>k_mup m k x
 |.mus n m k x=>k_mus n m k x
 |.men z m k=>k_men z m k
 |.mst m s x=>k_mst m s x
 |.app sz by_ x y=>k_app sz by_ x y
 |.cpy sz x y=>k_cpy sz x y
 |.clr _ z x=>k_clr z x
 |.call f args=>k_call f args
theorem I.f_eq (i:I)(K:Kall)(tm:T V)(h:H):i.f K tm h=evI K tm h i:=by
 cases i
 case mv x=>cases x<;>rfl
 case ar op x y=>simp only[I.f,k_ar,evI,k_ar1_eq]
 all_goals rfl
structure OK where
 dst:Option Nat
 gd:Option (Nat × Bool)
 f:F
def O.k (o:O):OK:=⟨o.dst,o.gd,o.i.f⟩
def kdst {γ:Type}(d:Option Nat)(v:V)(tm:T V)(next:T V→Option γ):Option γ:=match d with
 |some d=>vf v fun v=>(tm.putF (some v) d).forceR next
 |none=>next tm
theorem kdst_eq {γ:Type}(d:Option Nat)(v:V)(tm:T V)(next:T V→Option γ):
  kdst d v tm next=next (putD tm d v):=by
 cases d with
 |none=>rfl
 |some d=>simp[kdst,putD,vf_eq,T.forceR_eq,T.putF_eq]
def kres {γ:Type}(d:Option Nat)(tm:T V)(r:Option (V × H))(next:T V→H→Option γ):Option γ:=match r with
 |some (v,h)=>kdst d v tm fun tm=>next tm h
 |none=>none
def kstep {γ:Type}(K:Kall)(o:OK)(tm:T V)(h:H)(next:T V→H→Option γ):Option γ:=match o.gd with
 |none=>kres o.dst tm (o.f K tm h) next
 |some g=>(match want tm (some g) with
  |true=>kres o.dst tm (o.f K tm h) next
  |false=>kdst o.dst .und tm fun tm=>next tm h)
def evOpsK (K:Kall)(l:List OK):T V→H→Option (T V × H):=
 List.rec (fun tm h=>some (tm,h)) (fun o _ ih tm h=>kstep K o tm h ih) l
theorem kstep_eq {γ:Type}(K:Kall)(o:O)(tm:T V)(h:H)(next:T V→H→Option γ):
  kstep K o.k tm h next=match want tm o.gd with
  |true=>match evI K tm h o.i with
   |some (v,h')=>next (putD tm o.dst v) h'
   |none=>none
  |false=>next (putD tm o.dst .und) h:=by
 simp only[kstep,O.k,kres,I.f_eq]
 cases hg:o.gd with
 |none=>
  simp only[want]
  cases evI K tm h o.i with
  |none=>rfl
  |some r=>obtain⟨v,h'⟩:=r;simp[kdst_eq]
 |some g=>
  simp only[]
  cases want tm (some g) with
  |false=>simp[kdst_eq]
  |true=>
   simp only[]
   cases evI K tm h o.i with
   |none=>rfl
   |some r=>obtain⟨v,h'⟩:=r;simp[kdst_eq]
theorem evOpsK_eq (K:Kall)(l:List O):∀(tm:T V) (h:H),evOpsK K (l.map O.k) tm h=evOps K l tm h:=by
 induction l with
 |nil=>intro tm h;rfl
 |cons o l ih=>
  intro tm h
  have e:evOpsK K ((o::l).map O.k) tm h=kstep K o.k tm h (evOpsK K (l.map O.k)):=rfl
  rw[e,kstep_eq]
  simp only[evOps]
  cases want tm o.gd with
  |false=>exact ih _ h
  |true=>
   simp only[]
   cases evI K tm h o.i with
   |none=>rfl
   |some r=>obtain⟨v,h'⟩:=r;exact ih _ h'
structure DK where
 o:O
 k:OK
def O.d (o:O):DK:=⟨o,o.k⟩
def kcons (r:Rec)(x:Option (List Rec × T V × H)):Option (List Rec × T V × H):=match x with
 |some (rs,y)=>some (r::rs,y)
 |none=>none
def kdres (o:O)(tm:T V)(h:H)(r:Option (V × H))(next:T V→H→Option (List Rec × T V × H)):Option (List Rec × T V × H):=match r with
 |some (v,h')=>vf v fun v=>kdst o.dst v tm fun tm'=>kcons ⟨o,tm,h,v,h',true⟩ (next tm' h')
 |none=>none
def kdstep (K:Kall)(d:DK)(tm:T V)(h:H)(next:T V→H→Option (List Rec × T V × H)):Option (List Rec × T V × H):=match want tm d.o.gd with
 |true=>kdres d.o tm h (d.k.f K tm h) next
 |false=>kdst d.o.dst .und tm fun tm'=>kcons ⟨d.o,tm,h,.und,h,false⟩ (next tm' h)
def runTK (K:Kall)(l:List DK):T V→H→Option (List Rec × T V × H):=
 List.rec (fun tm h=>some ([],tm,h)) (fun d _ ih tm h=>kdstep K d tm h ih) l
theorem runTK_eq (K:Kall)(l:List O):∀(tm:T V) (h:H),runTK K (l.map O.d) tm h=runT K l tm h:=by
 induction l with
 |nil=>intro tm h;rfl
 |cons o l ih=>
  intro tm h
  have e:runTK K ((o::l).map O.d) tm h=kdstep K o.d tm h (runTK K (l.map O.d)):=rfl
  rw[e]
  have e2:runTK K (l.map O.d)=runT K l:=by funext tm h;exact ih tm h
  rw[e2]
  simp only[kdstep,O.d,runT,O.k]
  cases want tm o.gd with
  |false=>
   simp only[kdst_eq]
   cases runT K l (putD tm o.dst .und) h<;>rfl
  |true=>
   simp only[I.f_eq]
   cases evI K tm h o.i with
   |none=>rfl
   |some r=>
    obtain⟨v,h'⟩:=r
    simp only[kdres,vf_eq,kdst_eq]
    cases runT K l (putD tm o.dst v) h'<;>rfl
def isE (r:Rec):Bool:=Nat.ble 2 r.o.i.kind
def stagesK (l:List Rec):H→List H:=
 List.rec (fun g=>[g]) (fun r _ ih g=>bsel (isE r) (g::ih r.h') (ih r.h')) l
theorem stagesK_eq (l:List Rec):∀g,stagesK l g=stages g l:=by
 induction l with
 |nil=>intro g;rfl
 |cons r l ih=>
  intro g
  have e:stagesK (r::l) g=bsel (isE r) (g::stagesK l r.h') (stagesK l r.h'):=rfl
  rw[e,ih]
  simp only[stages,isE,bsel]
  cases Nat.ble 2 r.o.i.kind<;>rfl
def win? (gs:List H)(r:Rec)(next:Bool):Bool:=match r.o.win with
 |some (p,q)=>(match seen r.o.i r.tm r.v (q+1-p) (dropH p gs) with
  |true=>next
  |false=>false)
 |none=>next
def seenAllK (gs:List H)(l:List Rec):Bool:=
 List.rec true (fun r _ ih=>bsel r.w (win? gs r ih) ih) l
theorem seenAllK_eq (gs:List H)(l:List Rec):seenAllK gs l=seenAll gs l:=by
 induction l with
 |nil=>rfl
 |cons r l ih=>
  have e:seenAllK gs (r::l)=bsel r.w (win? gs r (seenAllK gs l)) (seenAllK gs l):=rfl
  rw[e,ih]
  simp only[seenAll,bsel,win?]
  cases r.w<;>simp only[]
  cases r.o.win with
  |none=>rfl
  |some x=>rfl
def evDres (h:H)(x:Option (List Rec × T V × H)):Option (T V × H):=match x with
 |some (rs,r)=>bsel (seenAllK (stagesK rs h) rs) (some r) none
 |none=>none
def evDK (K:Kall)(l:List DK)(tm:T V)(h:H):Option (T V × H):=evDres h (runTK K l tm h)
theorem evDK_eq (K:Kall)(l:List O)(tm:T V)(h:H):evDK K (l.map O.d) tm h=evD K l tm h:=by
 simp only[evDK,evD,runTK_eq]
 cases runT K l tm h with
 |none=>rfl
 |some x=>
  obtain⟨rs,r⟩:=x
  simp only[evDres,stagesK_eq,seenAllK_eq,bsel]
  cases seenAll (stages h rs) rs<;>rfl
inductive CK where
 |skip
 |ops (l:List OK)
 |dops (l:List DK)
 |seq (a b:CK)
 |cond (x:Opd) (a b:CK)
 |block (id:Nat) (a:CK)
 |loop (a:CK)
 |rf (f:Opd) (ps:List Nat) (assign body:C)
 |exit (id:Nat)
 |scope (a:CK)
 |ret
def C.k:C→CK
 |.skip=>.skip
 |.ops l=>.ops (l.map O.k)
 |.dops l=>.dops (l.map O.d)
 |.seq a b=>.seq a.k b.k
 |.cond x a b=>.cond x a.k b.k
 |.block id a=>.block id a.k
 |.loop a=>.loop a.k
 |.rf f ps a b=>.rf f ps a b
 |.exit id=>.exit id
 |.scope a=>.scope a.k
 |.ret=>.ret
abbrev SK:=St→Option (X × St)
def cn_nrm (df:List Nat)(x:Option (T V × H)):Option (X × St):=match x with
 |some (tm,h)=>some (.nrm,⟨tm,h,df⟩)
 |none=>none
def ck_ops (K:Kall)(l:List OK):SK:=fun s=>cn_nrm s.df (evOpsK K l s.tm s.h)
def ck_dops (K:Kall)(l:List DK):SK:=fun s=>cn_nrm s.df (evDK K l s.tm s.h)
def ck_then (r:Option (X × St))(b:SK):Option (X × St):=match r with
 |some (x,s)=>(match x with
  |.nrm=>b s
  |.ext id=>some (.ext id,s)
  |.ret=>some (.ret,s))
 |none=>none
def ck_seq (a b:SK):SK:=fun s=>ck_then (a s) b
def ck_if (v:V)(s:St)(a b:SK):Option (X × St):=match v with
 |.bool t=>(match t with
  |true=>a s
  |false=>b s)
 |_=>none
def ck_cond (x:Opd)(a b:SK):SK:=fun s=>ck_if (x.ev s.tm) s a b
def ck_blk (id:Nat)(r:Option (X × St)):Option (X × St):=match r with
 |some (x,s)=>(match x with
  |.nrm=>some (.nrm,s)
  |.ext j=>(match Nat.beq j id with
   |true=>some (.nrm,s)
   |false=>some (.ext j,s))
  |.ret=>some (.ret,s))
 |none=>none
def ck_block (id:Nat)(a:SK):SK:=fun s=>ck_blk id (a s)
def ck_loop (n:Nat)(a:SK):SK:=Nat.rec (fun _=>none) (fun _ ih s=>ck_then (a s) ih) n
def ck_ret:SK:=fun s=>some (.ret,s)
def ck_skip:SK:=fun s=>some (.nrm,s)
def ck_exit (id:Nat):SK:=fun s=>some (.ext id,s)
def ck_rf (K:Kall)(N:Nat)(fn:FuncId)(ro:Option Nat)(fuel:Nat)(f:Opd)(ps:List Nat)(a b:C):SK:=evC K N fn ro fuel (.rf f ps a b)
def evCK (K:Kall)(N:Nat)(fn:FuncId)(ro:Option Nat)(fuel:Nat)(c:CK):SK:=
 CK.rec ck_skip (ck_ops K) (ck_dops K) (fun _ _=>ck_seq) (fun x _ _=>ck_cond x) (fun id _=>ck_block id) (fun _=>ck_loop fuel)
  (ck_rf K N fn ro fuel) ck_exit (fun _ a=>a) ck_ret c
theorem ck_loop_eq (a:SK)(n:Nat):∀s,ck_loop n a s=iter a n s:=by
 induction n with
 |zero=>intro s;rfl
 |succ n ih=>
  intro s
  have e:ck_loop (n+1) a s=ck_then (a s) (ck_loop n a):=rfl
  rw[e]
  simp only[ck_then,iter]
  cases a s with
  |none=>rfl
  |some r=>obtain⟨x,s'⟩:=r;cases x<;>simp[ih]
theorem evCK_eq (K:Kall)(N:Nat)(fn:FuncId)(ro:Option Nat)(fuel:Nat)(c:C):∀s,evCK K N fn ro fuel c.k s=evC K N fn ro fuel c s:=by
 induction c with
 |skip=>intro s;rfl
 |ops l=>
  intro s
  have e:evCK K N fn ro fuel (C.ops l).k s=cn_nrm s.df (evOpsK K (l.map O.k) s.tm s.h):=rfl
  rw[e,evOpsK_eq];simp only[evC,cn_nrm];cases evOps K l s.tm s.h<;>rfl
 |dops l=>
  intro s
  have e:evCK K N fn ro fuel (C.dops l).k s=cn_nrm s.df (evDK K (l.map O.d) s.tm s.h):=rfl
  rw[e,evDK_eq];simp only[evC,cn_nrm];cases evD K l s.tm s.h<;>rfl
 |seq a b iha ihb=>
  intro s
  have e:evCK K N fn ro fuel (C.seq a b).k s=ck_then (evCK K N fn ro fuel a.k s) (evCK K N fn ro fuel b.k):=rfl
  rw[e,iha];simp only[evC,ck_then]
  cases evC K N fn ro fuel a s with
  |none=>rfl
  |some r=>obtain⟨x,s'⟩:=r;cases x<;>simp[ihb]
 |cond x a b iha ihb=>
  intro s
  have e:evCK K N fn ro fuel (C.cond x a b).k s=ck_if (x.ev s.tm) s (evCK K N fn ro fuel a.k) (evCK K N fn ro fuel b.k):=rfl
  rw[e];simp only[evC,ck_if]
  cases x.ev s.tm<;>simp only[]
  rename_i t;cases t<;>simp[iha,ihb]
 |block id a iha=>
  intro s
  have e:evCK K N fn ro fuel (C.block id a).k s=ck_blk id (evCK K N fn ro fuel a.k s):=rfl
  rw[e,iha];simp only[evC,ck_blk]
  cases evC K N fn ro fuel a s with
  |none=>rfl
  |some r=>obtain⟨x,s'⟩:=r;cases x<;>rfl
 |loop a iha=>
  intro s
  have e:evCK K N fn ro fuel (C.loop a).k s=ck_loop fuel (evCK K N fn ro fuel a.k) s:=rfl
  have e2:evCK K N fn ro fuel a.k=evC K N fn ro fuel a:=by funext s;exact iha s
  rw[e,ck_loop_eq,e2];rfl
 |rf f ps a b _ _=>intro s;rfl
 |exit id=>intro s;rfl
 |scope a iha=>intro s;exact iha s
 |ret=>intro s;rfl
structure FK where
 ntmps:Nat
 res:List Rs
 body:CK
def FD.k (f:FD):FK:=⟨f.ntmps,f.res,f.body.k⟩
def vk_res (d:FK)(s:St)(o:Option H):Option (V × H):=match o with
 |some h=>(match resV s.tm h d.res with
  |some v=>vf v fun v=>some (v,h)
  |none=>none)
 |none=>none
def vk_end (d:FK)(r:Option (X × St)):Option (V × H):=match r with
 |some (e,s)=>(match e with
  |.ext _=>none
  |.nrm=>vk_res d s (marks s.df s.h)
  |.ret=>vk_res d s (marks s.df s.h))
 |none=>none
def vk_run (K:Kall)(n:Nat)(f:FuncId)(d:FK)(as:List V)(h:H):Option (V × H):=match Nat.ble (lenN as) d.ntmps with
 |true=>(tm0 0 as .nil).forceR fun t=>vk_end d (evCK K d.ntmps f none n d.body ⟨t,h,[]⟩)
 |false=>none
def vk_fn (Fn:Nat→Option FK)(fast:Nat→Option (List V→H→Option (V × H)))(K:Kall)(n:Nat)(f:FuncId)(x y args:List V)(h:H):Option (V × H):=match fast f with
 |some g=>g (appN x (appN args y)) h
 |none=>(match Fn f with
  |some d=>lf (appN x (appN args y)) fun as=>vk_run K n f d as h
  |none=>none)
def vk_end1 (K:Kall)(n l:Nat)(r:LoopR)(x:Option (X × St)):Option (V × H):=match x with
 |some (e,s)=>(match s.h.get l with
  |some (.loop r2)=>(match e with
   |.nrm=>some (.bool true,s.h.set l (.loop {r2 with st:=.ready,pend:=none}))
   |.ext id=>some (.bool false,s.h.set l (.loop {r2 with st:=.done,pend:=some (.ext id)}))
   |.ret=>some (.bool false,s.h.set l (.loop {r2 with st:=.done,pend:=some .ret})))
  |_=>none)
 |none=>none
def vk_body (K:Kall)(n l:Nat)(r:LoopR)(x:Option (X × St)):Option (V × H):=match x with
 |some (e,s)=>(match e with
  |.nrm=>(match s.h.get l with
   |some (.loop r1)=>(match r1.st with
    |.ready=>vk_end1 K n l r (evCK K r.n r.fn (some l) n r.body.k ⟨s.tm,s.h.set l (.loop {r1 with st:=.busy}),s.df⟩)
    |_=>none)
   |_=>none)
  |_=>none)
 |none=>none
def vk_yld (K:Kall)(n l:Nat)(args:List V)(h:H):Option (V × H):=match h.get l with
 |some (.loop r)=>(match bindP r.ps args r.tm with
  |some tm=>vk_body K n l r (evCK K r.n r.fn (some l) n r.assign.k ⟨tm,h,[]⟩)
  |none=>none)
 |_=>none
def vk_step (Fn:Nat→Option FK)(fast:Nat→Option (List V→H→Option (V × H)))(n:Nat)(K:Kall)(fv:V)(args:List V)(h:H):Option (V × H):=match fv with
 |.fn f x y=>vk_fn Fn fast K n f x y args h
 |.yld l=>vk_yld K n l args h
 |_=>none
def evVK (Fn:Nat→Option FK)(fast:Nat→Option (List V→H→Option (V × H)))(n:Nat):Kall:=
 Nat.rec (fun _ _ _=>none) (fun n ih=>vk_step Fn fast n ih) n
theorem evVK_eq (Fn:Nat→Option FD)(fast:Nat→Option (List V→H→Option (V × H)))(Fk:Nat→Option FK)(hF:∀f,Fk f=(Fn f).map FD.k)
  (n:Nat):evVK Fk fast n=evV Fn fast n:=by
 induction n with
 |zero=>rfl
 |succ n ih=>
  funext fv args h
  have e:evVK Fk fast (n+1) fv args h=vk_step Fk fast n (evVK Fk fast n) fv args h:=rfl
  rw[e,ih]
  cases fv<;>simp only[vk_step,evV]
  ·rename_i f x y
   simp only[vk_fn]
   cases fast f with
   |some g=>rfl
   |none=>
    simp only[hF]
    cases Fn f with
    |none=>rfl
    |some d=>
     simp only[Option.map_some,lf_eq,vk_run,FD.k,T.forceR_eq,evCK_eq]
     cases Nat.ble (lenN (appN x (appN args y))) d.ntmps with
     |false=>rfl
     |true=>
      simp only[]
      cases evC (evV Fn fast n) d.ntmps f none n d.body ⟨tm0 0 (appN x (appN args y)) .nil,h,[]⟩ with
      |none=>rfl
      |some r=>
       obtain⟨e,s⟩:=r
       cases e<;>simp only[vk_end,vk_res]
       all_goals
        cases marks s.df s.h with
        |none=>rfl
        |some h'=>simp only[];cases resV s.tm h' d.res<;>simp[vf_eq]
  ·rename_i l
   simp only[vk_yld]
   cases h.get l with
   |none=>rfl
   |some b=>
    cases b<;>simp only[]
    rename_i r
    cases bindP r.ps args r.tm with
    |none=>rfl
    |some tm=>
     simp only[evCK_eq]
     cases evC (evV Fn fast n) r.n r.fn (some l) n r.assign ⟨tm,h,[]⟩ with
     |none=>rfl
     |some q=>
      obtain⟨e,s⟩:=q
      cases e<;>simp only[vk_body]
      cases s.h.get l with
      |none=>rfl
      |some b=>
       cases b<;>simp only[]
       rename_i r1
       cases r1.st<;>simp only[evCK_eq]
       cases evC (evV Fn fast n) r.n r.fn (some l) n r.body ⟨s.tm,s.h.set l (.loop {r1 with st:=.busy}),s.df⟩ with
       |none=>rfl
       |some q=>
        obtain⟨e,s⟩:=q
        simp only[vk_end1]
        cases s.h.get l with
        |none=>rfl
        |some b=>
          cases b<;>simp only[]
          cases e<;>rfl
end
end Go.Ab
