/- Rules for stepping, as equivalences that 'simp' runs by; what follows is left alone until it is reached. -/
import Derived.Test.YtiphdfiihgbomabGreatAbX
set_option linter.unusedSimpArgs false
set_option linter.unusedVariables false
namespace Go.Ab
section
variable {Fn:Nat→Option FD} {fast:Nat→Option (List V→H→Option (V × H))}
def P1 (o:Option V)(h:H)(Q:V→H→Prop):Prop:=match o with|some v=>Q v h|none=>False
def P2 (o:Option (V × H))(Q:V→H→Prop):Prop:=match o with|some (v,h)=>Q v h|none=>False
def PB (v:V)(A B:Prop):Prop:=match v with|.bool t=>(match t with|true=>A|false=>B)|_=>False
def PG (b:Bool)(A B:Prop):Prop:=match b with|true=>A|false=>B
theorem P1_some (v:V)(h:H)(Q:V→H→Prop):P1 (some v) h Q=Q v h:=rfl
theorem P2_some (v:V)(h:H)(Q:V→H→Prop):P2 (some (v,h)) Q=Q v h:=rfl
theorem PB_true (A B:Prop):PB (.bool true) A B=A:=rfl
theorem PB_false (A B:Prop):PB (.bool false) A B=B:=rfl
theorem PG_true (A B:Prop):PG true A B=A:=rfl
theorem PG_false (A B:Prop):PG false A B=B:=rfl
structure Tg (A B:Prop):Type where
 mk::
def PBd (v:V)(A B:Prop)(_:Tg A B):Prop:=PB v A B
def PGd (b:Bool)(A B:Prop)(_:Tg A B):Prop:=PG b A B
theorem PBd_true (A B:Prop)(t:Tg A B):PBd (.bool true) A B t=A:=rfl
theorem PBd_false (A B:Prop)(t:Tg A B):PBd (.bool false) A B t=B:=rfl
theorem PGd_true (A B:Prop)(t:Tg A B):PGd true A B t=A:=rfl
theorem PGd_false (A B:Prop)(t:Tg A B):PGd false A B t=B:=rfl
@[congr] theorem P1_congr {o o':Option V} {h:H} {Q:V→H→Prop} (e:o=o'):P1 o h Q=P1 o' h Q:=by rw[e]
@[congr] theorem P2_congr {o o':Option (V × H)} {Q:V→H→Prop} (e:o=o'):P2 o Q=P2 o' Q:=by rw[e]
@[congr] theorem PB_congr {v v':V} {A B:Prop} (e:v=v'):PB v A B=PB v' A B:=by rw[e]
@[congr] theorem PG_congr {v v':Bool} {A B:Prop} (e:v=v'):PG v A B=PG v' A B:=by rw[e]
@[congr] theorem Ev_congr {fv fv':V} {args args':List V} {h:H} {Q:V→H→Prop} (e1:fv=fv') (e2:args=args'):Ev Fn fast fv args h Q=Ev Fn fast fv' args' h Q:=by rw[e1,e2]
@[congr] theorem WO_congr {l:List O} {tm tm':T V} {h:H} {Q:T V→H→Prop} (e:tm=tm'):WO Fn fast l tm h Q=WO Fn fast l tm' h Q:=by rw[e]
@[congr] theorem W_congr {N:Nat} {fn:FuncId} {ro:Option Nat} {c:C} {s s':St} {Q:X→St→Prop} (e:s=s'):W Fn fast N fn ro c s Q=W Fn fast N fn ro c s' Q:=by rw[e]
@[congr] theorem WI_congr {i:I} {tm tm':T V} {h:H} {Q:V→H→Prop} (e:tm=tm'):WI Fn fast i tm h Q=WI Fn fast i tm' h Q:=by rw[e]
def Kseq (Fn:Nat→Option FD)(fast:Nat→Option (List V→H→Option (V × H)))(N:Nat)(fn:FuncId)(ro:Option Nat)(b:C)(Q:X→St→Prop)(x:X)(s:St):Prop:=
 match x with|.nrm=>W Fn fast N fn ro b s Q|.ext j=>Q (.ext j) s|.ret=>Q .ret s
def Kblk (id:Nat)(Q:X→St→Prop)(x:X)(s:St):Prop:=
 match x with|.nrm=>Q .nrm s|.ext j=>PG (Nat.beq j id) (Q .nrm s) (Q (.ext j) s)|.ret=>Q .ret s
def Kops (df:List Nat)(Q:X→St→Prop)(tm:T V)(h:H):Prop:=Q .nrm ⟨tm,h,df⟩
def Kput (Fn:Nat→Option FD)(fast:Nat→Option (List V→H→Option (V × H)))(l:List O)(d:Option Nat)(tm:T V)(Q:T V→H→Prop)(v:V)(h:H):Prop:=WO Fn fast l (putD tm d v) h Q
variable {N:Nat} {fn:FuncId} {ro:Option Nat} {s:St} {Q:X→St→Prop}
theorem Kseq_nrm (b:C):Kseq Fn fast N fn ro b Q .nrm s=W Fn fast N fn ro b s Q:=rfl
theorem Kseq_ext (b:C)(j:Nat):Kseq Fn fast N fn ro b Q (.ext j) s=Q (.ext j) s:=rfl
theorem Kseq_ret (b:C):Kseq Fn fast N fn ro b Q .ret s=Q .ret s:=rfl
theorem Kblk_nrm (id:Nat):Kblk id Q .nrm s=Q .nrm s:=rfl
theorem Kblk_ext (id j:Nat):Kblk id Q (.ext j) s=PG (decide (j=id)) (Q .nrm s) (Q (.ext j) s):=by
 have:Nat.beq j id=decide (j=id):=by rw[Bool.eq_iff_iff];simp
 rw[←this];rfl
theorem Kblk_ret (id:Nat):Kblk id Q .ret s=Q .ret s:=rfl
theorem Kops_app (df:List Nat)(tm:T V)(h:H):Kops df Q tm h=Q .nrm ⟨tm,h,df⟩:=rfl
theorem Kput_app (l:List O)(d:Option Nat)(tm:T V)(R:T V→H→Prop)(v:V)(h:H):Kput Fn fast l d tm R v h=WO Fn fast l (putD tm d v) h R:=rfl
@[congr] theorem Kseq_congr {b:C} {x x':X} (e:x=x'):Kseq Fn fast N fn ro b Q x s=Kseq Fn fast N fn ro b Q x' s:=by rw[e]
@[congr] theorem Kblk_congr {id:Nat} {x x':X} (e:x=x'):Kblk id Q x s=Kblk id Q x' s:=by rw[e]
@[congr] theorem Kops_congr {df:List Nat} {tm tm':T V} {h:H} (e:tm=tm'):Kops df Q tm h=Kops df Q tm' h:=by rw[e]
@[congr] theorem Kput_congr {l:List O} {d:Option Nat} {tm tm':T V} {R:T V→H→Prop} {v:V} {h:H} (e:tm=tm'):Kput Fn fast l d tm R v h=Kput Fn fast l d tm' R v h:=by rw[e]
theorem W_skip:W Fn fast N fn ro .skip s Q=Q .nrm s:=propext ⟨fun⟨_,_,_,e,q⟩=>by cases e;exact q,W.skip⟩
theorem W_exit (id:Nat):W Fn fast N fn ro (.exit id) s Q=Q (.ext id) s:=propext ⟨fun⟨_,_,_,e,q⟩=>by cases e;exact q,W.exit⟩
theorem W_ret:W Fn fast N fn ro .ret s Q=Q .ret s:=propext ⟨fun⟨_,_,_,e,q⟩=>by cases e;exact q,W.ret⟩
theorem W_scope (a:C):W Fn fast N fn ro (.scope a) s Q=W Fn fast N fn ro a s Q:=rfl
theorem W_ops (l:List O):W Fn fast N fn ro (.ops l) s Q=WO Fn fast l s.tm s.h (Kops s.df Q):=propext ⟨fun⟨n,x,s',e,q⟩=>by
  simp only[evC] at e
  cases he:evOps (evV Fn fast n) l s.tm s.h with
  |none=>rw[he] at e;cases e
  |some y=>rw[he] at e;obtain⟨tm,h⟩:=y;cases e;exact⟨n,tm,h,he,q⟩,W.ops⟩
theorem W_seq (a b:C):W Fn fast N fn ro (.seq a b) s Q=W Fn fast N fn ro a s (Kseq Fn fast N fn ro b Q):=propext ⟨fun⟨n,x,s',e,q⟩=>by
  simp only[evC] at e
  cases he:evC (evV Fn fast n) N fn ro n a s with
  |none=>rw[he] at e;cases e
  |some y=>
   rw[he] at e;obtain⟨x1,s1⟩:=y
   refine⟨n,x1,s1,he,?_⟩
   cases x1 with
   |nrm=>exact⟨n,x,s',e,q⟩
   |ext j=>cases e;exact q
   |ret=>cases e;exact q,
 fun h=>W.seq (h.mono fun x s' q=>by cases x<;>exact q)⟩
theorem W_cond (x:Opd)(a b:C):W Fn fast N fn ro (.cond x a b) s Q=PBd (x.ev s.tm) (W Fn fast N fn ro a s Q) (W Fn fast N fn ro b s Q) ⟨⟩:=show _=PB _ _ _ from propext ⟨fun⟨n,y,s',e,q⟩=>by
  simp only[evC] at e
  cases hx:x.ev s.tm<;>rw[hx] at e<;>try(cases e;done)
  rename_i t
  cases t with
  |true=>exact⟨n,y,s',e,q⟩
  |false=>exact⟨n,y,s',e,q⟩,fun h=>by
  cases hx:x.ev s.tm<;>rw[hx] at h<;>try(exact h.elim)
  rename_i t
  cases t with
  |true=>exact W.cond hx h
  |false=>exact W.cond hx h⟩
theorem W_block (id:Nat)(a:C):W Fn fast N fn ro (.block id a) s Q=W Fn fast N fn ro a s (Kblk id Q):=propext ⟨fun⟨n,x,s',e,q⟩=>by
  simp only[evC] at e
  cases he:evC (evV Fn fast n) N fn ro n a s with
  |none=>rw[he] at e;cases e
  |some y=>
   rw[he] at e;obtain⟨x1,s1⟩:=y
   refine⟨n,x1,s1,he,?_⟩
   cases x1 with
   |nrm=>cases e;exact q
   |ret=>cases e;exact q
   |ext j=>
    simp only[Kblk] at e⊢
    cases hb:Nat.beq j id<;>rw[hb] at e<;>cases e<;>exact q,
 fun h=>W.block (h.mono fun x s' q=>by
  cases x with
  |nrm=>exact q
  |ret=>exact q
  |ext j=>
   show match Nat.beq j id with|true=>Q .nrm s'|false=>Q (.ext j) s'
   simp only[Kblk,PG] at q
   cases hb:Nat.beq j id<;>rw[hb] at q<;>exact q)⟩
variable {tm:T V} {h:H} {R:T V→H→Prop}
theorem WO_nil:WO Fn fast [] tm h R=R tm h:=propext ⟨fun⟨_,_,_,e,q⟩=>by cases e;exact q,WO.nil⟩
theorem WO_cons (d:Option Nat)(w:Option (Nat × Nat))(i:I)(l:List O):WO Fn fast (⟨d,none,w,i⟩::l) tm h R=WI Fn fast i tm h (Kput Fn fast l d tm R):=propext ⟨fun⟨n,tm',h',e,q⟩=>by
  simp only[evOps,want] at e
  cases he:evI (evV Fn fast n) tm h i with
  |none=>rw[he] at e;cases e
  |some y=>rw[he] at e;obtain⟨v,h1⟩:=y;exact⟨n,v,h1,he,n,tm',h',e,q⟩,fun hh=>WO.cons rfl hh⟩
def wantV (v:V)(w:Bool):Bool:=match v with|.bool t=>(match t with|true=>w|false=> !w)|_=>false
theorem wantV_true (w:Bool):wantV (.bool true) w=w:=rfl
theorem wantV_false (w:Bool):wantV (.bool false) w= !w:=rfl
theorem wantV_und (w:Bool):wantV (.tup []) w=false:=rfl
theorem want_V (j:Nat)(w:Bool):want tm (some (j,w))=wantV ((Opd.t j).ev tm) w:=by
 unfold want wantV Opd.ev
 dsimp only
 cases tm.get j with
 |none=>rfl
 |some v=>cases v<;>rfl
theorem WO_guard (d:Option Nat)(j:Nat)(b:Bool)(w:Option (Nat × Nat))(i:I)(l:List O):WO Fn fast (⟨d,some (j,b),w,i⟩::l) tm h R=
  PGd (wantV ((Opd.t j).ev tm) b) (WI Fn fast i tm h (Kput Fn fast l d tm R)) (WO Fn fast l (putD tm d .und) h R) ⟨⟩:=show _=PG _ _ _ from propext ⟨fun⟨n,tm',h',e,q⟩=>by
  rw[←want_V]
  simp only[evOps] at e
  cases hw:want tm (some (j,b)) with
  |true=>
   rw[hw] at e
   cases he:evI (evV Fn fast n) tm h i with
   |none=>simp only[he] at e;cases e
   |some y=>simp only[he] at e;obtain⟨v,h1⟩:=y;exact⟨n,v,h1,he,n,tm',h',e,q⟩
  |false=>rw[hw] at e;exact⟨n,tm',h',e,q⟩,fun hh=>by
  rw[←want_V] at hh
  cases hw:want tm (some (j,b)) with
  |true=>rw[hw] at hh;exact WO.cons hw hh
  |false=>rw[hw] at hh;exact WO.skip hw hh⟩
variable {S:V→H→Prop}
theorem wi_1 {i:I}{o:Option V}(e:∀K,evI K tm h i=lq o h):WI Fn fast i tm h S=P1 o h S:=propext ⟨fun⟨n,v,h',e',q⟩=>by
  rw[e] at e'
  cases o with
  |none=>cases e'
  |some u=>cases e';exact q,fun q=>by
  cases o with
  |none=>exact q.elim
  |some u=>exact⟨0,u,h,e _,q⟩⟩
theorem wi_2 {i:I}{o:Option (V × H)}(e:∀K,evI K tm h i=le o):WI Fn fast i tm h S=P2 o S:=propext ⟨fun⟨n,v,h',e',q⟩=>by
  rw[e,le_eq] at e';subst e';exact q,fun q=>by
  cases o with
  |none=>exact q.elim
  |some u=>obtain⟨v,h'⟩:=u;exact⟨0,v,h',by rw[e,le_eq],q⟩⟩
theorem WI_mv (x:Opd):WI Fn fast (.mv x) tm h S=S (x.ev tm) h:=wi_1 (o:=some (x.ev tm)) fun _=>rfl
theorem WI_pick (c x y:Opd):WI Fn fast (.pick c x y) tm h S=P1 (q_pick (c.ev tm) (x.ev tm) (y.ev tm)) h S:=wi_1 fun _=>rfl
theorem WI_ld (ag:Bool)(n:Nat)(x:Opd):WI Fn fast (.ld ag n x) tm h S=P1 (q_ld h ag n (x.ev tm)) h S:=wi_1 fun _=>rfl
theorem WI_chk (x:Opd):WI Fn fast (.chk x) tm h S=P1 (q_chk (x.ev tm)) h S:=wi_1 fun _=>rfl
theorem WI_ar (op:BinOp)(x y:Opd):WI Fn fast (.ar op x y) tm h S=P1 (q_ar op (x.ev tm) (y.ev tm)) h S:=wi_1 fun _=>rfl
theorem WI_sh (op:BinOp)(x y:Opd):WI Fn fast (.sh op x y) tm h S=P1 (q_sh op (x.ev tm) (y.ev tm)) h S:=wi_1 fun _=>rfl
theorem WI_beq (ng:Bool)(x y:Opd):WI Fn fast (.beq ng x y) tm h S=P1 (q_beq ng (x.ev tm) (y.ev tm)) h S:=wi_1 fun _=>rfl
theorem WI_isn (ng:Bool)(x:Opd):WI Fn fast (.isn ng x) tm h S=P1 (q_isn ng (x.ev tm)) h S:=wi_1 fun _=>rfl
theorem WI_feq (ng:Bool)(n:Nat)(x y:Opd):WI Fn fast (.feq ng n x y) tm h S=P1 (q_feq ng n (x.ev tm) (y.ev tm)) h S:=wi_1 fun _=>rfl
theorem WI_neg (x:Opd):WI Fn fast (.neg x) tm h S=P1 (q_neg (x.ev tm)) h S:=wi_1 fun _=>rfl
theorem WI_not (x:Opd):WI Fn fast (.not x) tm h S=P1 (q_not (x.ev tm)) h S:=wi_1 fun _=>rfl
theorem WI_cv (k:IntKind)(x:Opd):WI Fn fast (.cv k x) tm h S=P1 (q_cv k (x.ev tm)) h S:=wi_1 fun _=>rfl
theorem WI_mkf (f:FuncId)(x y:List Opd):WI Fn fast (.mkf f x y) tm h S=S (.fn f (evs tm x) (evs tm y)) h:=wi_1 (o:=some (.fn f (evs tm x) (evs tm y))) fun _=>rfl
theorem WI_slc (sz:Nat)(x:Opd)(lo hi mx:Option Opd):WI Fn fast (.slc sz x lo hi mx) tm h S=P1 (q_slc tm h sz (x.ev tm) lo hi mx) h S:=wi_1 fun _=>rfl
theorem WI_sla (n sz:Nat)(x:Opd)(lo hi mx:Option Opd):WI Fn fast (.sla n sz x lo hi mx) tm h S=P1 (q_sla tm n sz (x.ev tm) lo hi mx) h S:=wi_1 fun _=>rfl
theorem WI_fad (off:Nat)(x:Opd):WI Fn fast (.fad off x) tm h S=P1 (q_fad off (x.ev tm)) h S:=wi_1 fun _=>rfl
theorem WI_fld (ag:Bool)(n off:Nat)(x:Opd):WI Fn fast (.fld ag n off x) tm h S=P1 (q_fld ag n off (x.ev tm)) h S:=wi_1 fun _=>rfl
theorem WI_iad (sz:Nat)(x i:Opd):WI Fn fast (.iad sz x i) tm h S=P1 (q_iad sz (x.ev tm) (i.ev tm)) h S:=wi_1 fun _=>rfl
theorem WI_iaa (n sz:Nat)(x i:Opd):WI Fn fast (.iaa n sz x i) tm h S=P1 (q_iaa n sz (x.ev tm) (i.ev tm)) h S:=wi_1 fun _=>rfl
theorem WI_idx (ag:Bool)(n sz:Nat)(x i:Opd):WI Fn fast (.idx ag n sz x i) tm h S=P1 (q_idx ag n sz (x.ev tm) (i.ev tm)) h S:=wi_1 fun _=>rfl
theorem WI_lkp (fl:Option Nat)(z:V)(x i:Opd)(ok:Bool):WI Fn fast (.lkp fl z x i ok) tm h S=P1 (q_lkp h z (x.ev tm) (i.ev tm) ok) h S:=wi_1 fun _=>rfl
theorem WI_ext (x:Opd)(i:Nat):WI Fn fast (.ext x i) tm h S=P1 (q_ext (x.ev tm) i) h S:=wi_1 fun _=>rfl
theorem WI_len (x:Opd):WI Fn fast (.len x) tm h S=P1 (q_len (x.ev tm)) h S:=wi_1 fun _=>rfl
theorem WI_lnm (x:Opd):WI Fn fast (.lnm x) tm h S=P1 (q_lnm h (x.ev tm)) h S:=wi_1 fun _=>rfl
theorem WI_mx (l:List Opd):WI Fn fast (.mx l) tm h S=P1 (q_mx (evs tm l)) h S:=wi_1 fun _=>rfl
theorem WI_mn (l:List Opd):WI Fn fast (.mn l) tm h S=P1 (q_mn (evs tm l)) h S:=wi_1 fun _=>rfl
theorem WI_bld (z:List V)(ps:List (Nat × Nat × Opd)):WI Fn fast (.bld z ps) tm h S=P1 (aggO (fillN tm ps z)) h S:=wi_1 fun _=>rfl
theorem WI_alc (cs:List V):WI Fn fast (.alc cs) tm h S=S (.ptr h.next 0) (h.add (.cells .rw cs)):=wi_2 (o:=some (a_new h cs)) fun _=>rfl
theorem WI_box (x:Opd):WI Fn fast (.box x) tm h S=P2 (some (a_new h (x.ev tm).cells)) S:=wi_2 fun _=>rfl
theorem WI_bsl (n:Nat)(z:List V)(ps:List (Nat × Nat × Opd)):WI Fn fast (.bsl n z ps) tm h S=P2 (a_bsl h n (fillN tm ps z)) S:=wi_2 fun _=>rfl
theorem WI_msl (sz by_:Nat)(z:List V)(l c:Opd):WI Fn fast (.msl sz by_ z l c) tm h S=P2 (a_msl h by_ z (l.ev tm) (c.ev tm)) S:=wi_2 fun _=>rfl
theorem WI_mkm:WI Fn fast .mkm tm h S=S (.map h.next) (h.add (.map [])):=wi_2 (o:=some (.map h.next,h.add (.map []))) fun _=>rfl
theorem WI_sto (n:Nat)(a x:Opd):WI Fn fast (.sto n a x) tm h S=P2 (e_sto h n (a.ev tm) (x.ev tm)) S:=wi_2 fun _=>rfl
theorem WI_lks (n:Nat)(z:V)(x i:Opd)(ok:Bool):WI Fn fast (.lks n z x i ok) tm h S=P1 (q_lks h n z (x.ev tm) (i.ev tm) ok) h S:=wi_1 fun _=>rfl
theorem WI_mus (n:Nat)(m k x:Opd):WI Fn fast (.mus n m k x) tm h S=P2 (e_mus h n (m.ev tm) (k.ev tm) (x.ev tm)) S:=wi_2 fun _=>rfl
theorem WI_mup (fl:Option Nat)(m k x:Opd):WI Fn fast (.mup fl m k x) tm h S=P2 (e_mup h (m.ev tm) (k.ev tm) (x.ev tm)) S:=wi_2 fun _=>rfl
theorem WI_men (z:V)(m k:Opd):WI Fn fast (.men z m k) tm h S=P2 (e_men h z (m.ev tm) (k.ev tm)) S:=wi_2 fun _=>rfl
theorem WI_mst (m s x:Opd):WI Fn fast (.mst m s x) tm h S=P2 (e_mst h (m.ev tm) (s.ev tm) (x.ev tm)) S:=wi_2 fun _=>rfl
theorem WI_app (sz by_:Nat)(x y:Opd):WI Fn fast (.app sz by_ x y) tm h S=P2 (e_app' h sz by_ (x.ev tm) (y.ev tm)) S:=wi_2 fun _=>rfl
theorem WI_cpy (sz:Nat)(x y:Opd):WI Fn fast (.cpy sz x y) tm h S=P2 (e_cpy h sz (x.ev tm) (y.ev tm)) S:=wi_2 fun _=>rfl
theorem WI_clr (sz:Nat)(z:List V)(x:Opd):WI Fn fast (.clr sz z x) tm h S=P2 (e_clr h z (x.ev tm)) S:=wi_2 fun _=>rfl
theorem WI_call (f:Opd)(l:List Opd):WI Fn fast (.call f l) tm h S=Ev Fn fast (f.ev tm) (evs tm l) h S:=rfl
mutual
theorem vbeq_refl:∀v:V,vbeq v v=true
 |.int k n=>by simp[vbeq,ieq_eq]
 |.bool b=>by simp[vbeq]
 |.ptr b o=>by simp[vbeq]
 |.nilp=>rfl
 |.sl b o n c=>by cases c<;>simp[vbeq,capEq]
 |.nils=>rfl
 |.sl0 a=>by simp[vbeq]
 |.map b=>by simp[vbeq]
 |.nilm=>rfl
 |.fn f x y=>by simp[vbeq,vbeqL_refl x,vbeqL_refl y]
 |.nilf=>rfl
 |.yld l=>by simp[vbeq]
 |.agg cs=>by simp[vbeq,vbeqL_refl cs]
 |.tup vs=>by simp[vbeq,vbeqL_refl vs]
theorem vbeqL_refl:∀l:List V,vbeqL l l=true
 |[]=>rfl
 |v::l=>by simp[vbeqL,vbeq_refl v,vbeqL_refl l]
end
structure Pd where
 i:I
 tm:T V
 v:V
 p:Nat
 q:Nat
def okP (gs:List H):List Pd→Prop
 |[]=>True
 |x::l=>seen x.i x.tm x.v (x.q+1-x.p) (dropH x.p gs)=true∧okP gs l
def addG (i:I)(g:H)(gs:List H):List H:=match Nat.ble 2 i.kind with|true=>gs++[g]|false=>gs
def nowG (_i:I)(_g h:H):H:=h
def addP (w:Option (Nat × Nat))(i:I)(tm:T V)(v:V)(ps:List Pd):List Pd:=match w with|some (p,q)=>⟨i,tm,v,p,q⟩::ps|none=>ps
def WD (Fn:Nat→Option FD)(fast:Nat→Option (List V→H→Option (V × H)))(l:List O)(tm:T V)(h:H)(gs:List H)(g:H)(ps:List Pd)(R:T V→H→Prop):Prop:=
 ∃n rs tm' h',runT (evV Fn fast n) l tm h=some (rs,tm',h')∧okP (gs++stages g rs) ps∧seenAll (gs++stages g rs) rs=true∧R tm' h'
def Kdrw (Fn:Nat→Option FD)(fast:Nat→Option (List V→H→Option (V × H)))(l:List O)(d:Option Nat)(w:Option (Nat × Nat))(i:I)(tm:T V)(gs:List H)(g:H)(ps:List Pd)(R:T V→H→Prop)(v:V)(h:H):Prop:=
 WD Fn fast l (putD tm d v) h (addG i g gs) (nowG i g h) (addP w i tm v ps) R
theorem Kdrw_app (l:List O)(d:Option Nat)(w:Option (Nat × Nat))(i:I)(gs:List H)(g:H)(ps:List Pd)(v:V)(h:H):Kdrw Fn fast l d w i tm gs g ps R v h=WD Fn fast l (putD tm d v) h (addG i g gs) (nowG i g h) (addP w i tm v ps) R:=rfl
@[congr] theorem WD_congr {l:List O} {tm tm':T V} {h g g':H} {gs gs':List H} {ps ps':List Pd} {R:T V→H→Prop} (e:tm=tm') (e1:gs=gs') (e2:g=g') (e3:ps=ps'):
  WD Fn fast l tm h gs g ps R=WD Fn fast l tm' h gs' g' ps' R:=by rw[e,e1,e2,e3]
@[congr] theorem okP_congr {gs gs':List H} {ps ps':List Pd} (e:gs=gs'):okP gs ps=okP gs' ps:=by rw[e]
@[congr] theorem Kdrw_congr {l:List O} {d:Option Nat} {w:Option (Nat × Nat)} {i:I} {tm tm':T V} {gs:List H} {g:H} {ps:List Pd} {R:T V→H→Prop} {v:V} {h:H} (e:tm=tm'):Kdrw Fn fast l d w i tm gs g ps R v h=Kdrw Fn fast l d w i tm' gs g ps R v h:=by rw[e]
theorem W_dops (l:List O):W Fn fast N fn ro (.dops l) s Q=WD Fn fast l s.tm s.h [] s.h [] (Kops s.df Q):=propext ⟨fun⟨n,x,s',e,q⟩=>by
  simp only[evC,evD] at e
  cases he:runT (evV Fn fast n) l s.tm s.h with
  |none=>rw[he] at e;cases e
  |some y=>
   rw[he] at e;obtain⟨rs,tm,h⟩:=y
   simp only at e
   cases hs:seenAll (stages s.h rs) rs with
   |true=>rw[hs] at e;cases e;exact⟨n,rs,tm,h,he,trivial,hs,q⟩
   |false=>rw[hs] at e;exact absurd e (by simp),
 fun⟨n,rs,tm,h,he,_,hs,q⟩=>W.dops ⟨n,rs,tm,h,he,hs,q⟩⟩
theorem WD_nil (gs:List H)(g:H)(ps:List Pd):WD Fn fast [] tm h gs g ps R=(okP (gs++[g]) ps∧R tm h):=propext ⟨fun⟨n,rs,tm',h',e,q1,q2,q⟩=>by
  cases e;exact⟨q1,q⟩,fun⟨q1,q⟩=>⟨0,[],tm,h,rfl,q1,rfl,q⟩⟩
theorem stages_cons (g:H)(o:O)(tm:T V)(h:H)(v:V)(h':H)(l:List Rec)(gs:List H):gs++stages g (⟨o,tm,h,v,h',true⟩::l)=addG o.i g gs++stages (nowG o.i g h') l:=by
 simp only[stages,addG,nowG]
 cases Nat.ble 2 o.i.kind<;>simp
theorem stages_skip (g:H)(o:O)(tm:T V)(h:H)(v:V)(h':H)(l:List Rec)(gs:List H):gs++stages g (⟨o,tm,h,v,h',false⟩::l)=addG o.i g gs++stages h' l:=by
 simp only[stages,addG]
 cases Nat.ble 2 o.i.kind<;>simp
theorem okP_addP (w:Option (Nat × Nat))(i:I)(tm:T V)(v:V)(ps:List Pd)(gs:List H)(rs:List Rec)(d:Option Nat)(gd:Option (Nat × Bool))(h h':H):
  (okP gs (addP w i tm v ps)∧seenAll gs rs=true)↔(okP gs ps∧seenAll gs (⟨⟨d,gd,w,i⟩,tm,h,v,h',true⟩::rs)=true):=by
 cases w with
 |none=>simp[addP,seenAll]
 |some pq=>
  obtain⟨p,q⟩:=pq
  simp only[addP,okP,seenAll]
  cases seen i tm v (q+1-p) (dropH p gs)<;>simp
theorem WD_cons (d:Option Nat)(w:Option (Nat × Nat))(i:I)(l:List O)(gs:List H)(g:H)(ps:List Pd):
  WD Fn fast (⟨d,none,w,i⟩::l) tm h gs g ps R=WI Fn fast i tm h (Kdrw Fn fast l d w i tm gs g ps R):=propext ⟨fun⟨n,rs,tm',h',e,q1,q2,q⟩=>by
  simp only[runT,want] at e
  cases he:evI (evV Fn fast n) tm h i with
  |none=>rw[he] at e;cases e
  |some y=>
   rw[he] at e;obtain⟨v,h1⟩:=y
   simp only at e
   cases hr:runT (evV Fn fast n) l (putD tm d v) h1 with
   |none=>rw[hr] at e;cases e
   |some z=>
    obtain⟨rs',r⟩:=z
    rw[hr] at e;cases e
    rw[stages_cons] at q1 q2
    have:=(okP_addP w i tm v ps _ rs' d none h h1).2 ⟨q1,q2⟩
    exact⟨n,v,h1,he,n,rs',tm',h',hr,this.1,this.2,q⟩,
 fun⟨n,v,h1,he,m,rs,tm',h',hr,q1,q2,q⟩=>by
  have:=(okP_addP w i tm v ps _ rs d none h h1).1 ⟨q1,q2⟩
  rw[←stages_cons (o:=⟨d,none,w,i⟩) (tm:=tm) (h:=h) (v:=v)] at this
  refine⟨max n m,⟨⟨d,none,w,i⟩,tm,h,v,h1,true⟩::rs,tm',h',?_,this.1,this.2,q⟩
  simp only[runT,want]
  rw[evI_mono (evV_mono (Nat.le_max_left n m)) he]
  simp only
  rw[runT_mono (evV_mono (Nat.le_max_right n m)) hr]⟩
theorem WD_guard (d:Option Nat)(j:Nat)(b:Bool)(w:Option (Nat × Nat))(i:I)(l:List O)(gs:List H)(g:H)(ps:List Pd):
  WD Fn fast (⟨d,some (j,b),w,i⟩::l) tm h gs g ps R=
  PGd (wantV ((Opd.t j).ev tm) b) (WI Fn fast i tm h (Kdrw Fn fast l d w i tm gs g ps R)) (WD Fn fast l (putD tm d .und) h (addG i g gs) h ps R) ⟨⟩:=show _=PG _ _ _ from propext ⟨fun⟨n,rs,tm',h',e,q1,q2,q⟩=>by
  rw[←want_V]
  simp only[runT] at e
  cases hw:want tm (some (j,b)) with
  |true=>
   rw[hw] at e
   cases he:evI (evV Fn fast n) tm h i with
   |none=>simp only[he] at e;cases e
   |some y=>
    simp only[he] at e;obtain⟨v,h1⟩:=y
    simp only at e
    cases hr:runT (evV Fn fast n) l (putD tm d v) h1 with
    |none=>rw[hr] at e;cases e
    |some z=>
     obtain⟨rs',r⟩:=z
     rw[hr] at e;cases e
     rw[stages_cons] at q1 q2
     have:=(okP_addP w i tm v ps _ rs' d (some (j,b)) h h1).2 ⟨q1,q2⟩
     exact⟨n,v,h1,he,n,rs',tm',h',hr,this.1,this.2,q⟩
  |false=>
   rw[hw] at e
   simp only at e
   cases hr:runT (evV Fn fast n) l (putD tm d .und) h with
   |none=>rw[hr] at e;cases e
   |some z=>
    obtain⟨rs',r⟩:=z
    rw[hr] at e;cases e
    rw[stages_skip] at q1 q2
    exact⟨n,rs',tm',h',hr,q1,q2,q⟩,
 fun hh=>by
  rw[←want_V] at hh
  cases hw:want tm (some (j,b)) with
  |true=>
   rw[hw] at hh
   obtain⟨n,v,h1,he,m,rs,tm',h',hr,q1,q2,q⟩:=hh
   have:=(okP_addP w i tm v ps _ rs d (some (j,b)) h h1).1 ⟨q1,q2⟩
   rw[←stages_cons (o:=⟨d,some (j,b),w,i⟩) (tm:=tm) (h:=h) (v:=v)] at this
   refine⟨max n m,⟨⟨d,some (j,b),w,i⟩,tm,h,v,h1,true⟩::rs,tm',h',?_,this.1,this.2,q⟩
   simp only[runT,hw]
   rw[evI_mono (evV_mono (Nat.le_max_left n m)) he]
   simp only
   rw[runT_mono (evV_mono (Nat.le_max_right n m)) hr]
  |false=>
   rw[hw] at hh
   obtain⟨m,rs,tm',h',hr,q1,q2,q⟩:=hh
   rw[←stages_skip (o:=⟨d,some (j,b),w,i⟩) (tm:=tm) (h:=h) (v:=.und) (h':=h)] at q1 q2
   refine⟨m,⟨⟨d,some (j,b),w,i⟩,tm,h,.und,h,false⟩::rs,tm',h',by simp only[runT,hw,hr],q1,?_,q⟩
   simp only[seenAll];exact q2⟩
theorem okP_nil (gs:List H):okP gs []=True:=rfl
theorem okP_cons (gs:List H)(i:I)(tm:T V)(v:V)(p q:Nat)(l:List Pd):okP gs (⟨i,tm,v,p,q⟩::l)=(seen i tm v (q+1-p) (dropH p gs)=true∧okP gs l):=rfl
theorem seen_0 (i:I)(tm:T V)(v:V)(gs:List H):seen i tm v 0 gs=true:=rfl
theorem seen_1 (i:I)(tm:T V)(v:V)(n:Nat)(g:H)(gs:List H):(seen i tm v (n+1) (g::gs)=true)=(evQ tm g i=some v∧seen i tm v n gs=true):=by
 apply propext
 simp only[seen]
 cases he:evQ tm g i with
 |none=>simp
 |some u=>
  simp only[Option.some.injEq]
  constructor
  ·intro h
   split at h
   ·rename_i hv;exact⟨vbeq_eq _ _ hv,h⟩
   ·cases h
  ·rintro⟨rfl,h⟩
   rw[vbeq_refl];exact h
theorem dropH_0 (l:List H):dropH 0 l=l:=rfl
theorem dropH_1 (n:Nat)(g:H)(l:List H):dropH (n+1) (g::l)=dropH n l:=rfl
theorem addP_none (i:I)(tm:T V)(v:V)(ps:List Pd):addP none i tm v ps=ps:=rfl
theorem addP_some (p q:Nat)(i:I)(tm:T V)(v:V)(ps:List Pd):addP (some (p,q)) i tm v ps=⟨i,tm,v,p,q⟩::ps:=rfl
theorem ev_c (tm:T V)(v:V):(Opd.c v).ev tm=v:=rfl
theorem ev_put (tm:T V)(v:V)(k n:Nat):(Opd.t n).ev (tm.put (some v) k)=if n=k then v else(Opd.t n).ev tm:=by
 unfold Opd.ev
 dsimp only
 rw[T.get_put_eq]
 by_cases e:n=k<;>simp[e]
theorem ev_nil (n:Nat):(Opd.t n).ev .nil=.und:=by simp[Opd.ev,T.get_nil]
theorem putD_some (tm:T V)(d:Nat)(v:V):putD tm (some d) v=tm.put (some v) d:=rfl
theorem putD_none (tm:T V)(v:V):putD tm none v=tm:=rfl
theorem tm0_nil (k:Nat)(t:T V):tm0 k [] t=t:=rfl
theorem tm0_cons (k:Nat)(v:V)(l:List V)(t:T V):tm0 k (v::l) t=tm0 (k+1) l (t.put (some v) k):=rfl
theorem evs_nil (tm:T V):evs tm []=[]:=rfl
theorem evs_cons (tm:T V)(x:Opd)(l:List Opd):evs tm (x::l)=x.ev tm::evs tm l:=rfl
end
end Go.Ab
