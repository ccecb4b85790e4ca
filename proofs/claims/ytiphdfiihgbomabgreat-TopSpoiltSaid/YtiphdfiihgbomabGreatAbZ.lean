/- What operations give, as equations that 'simp' runs by: integers, blocks, slices. -/
import Derived.Test.YtiphdfiihgbomabGreatAbY
set_option linter.unusedSimpArgs false
set_option linter.unusedVariables false
namespace Go.Ab
theorem wr_in {n:Int}(h1: -9223372036854775808≤n)(h2:n≤9223372036854775807):wr .i64 n=n:=by
 have:inW .i64 n=true:=by
  cases n with
  |ofNat m=>simp only[inW,Nat.ble_eq];simp only[Int.ofNat_eq_natCast] at h2;omega
  |negSucc m=>simp only[inW,Nat.ble_eq];rw[Int.negSucc_eq] at h1;omega
 simp[wr,this]
theorem q_ar_add (k:IntKind)(a b:Int):q_ar .add (.int k a) (.int k b)=some (.int k (wr k (a+b))):=by simp[q_ar,arith,vi]
theorem q_ar_sub (k:IntKind)(a b:Int):q_ar .sub (.int k a) (.int k b)=some (.int k (wr k (a-b))):=by simp[q_ar,arith,vi]
theorem q_ar_mul (k:IntKind)(a b:Int):q_ar .mul (.int k a) (.int k b)=some (.int k (wr k (a*b))):=by simp[q_ar,arith,vi]
theorem q_ar_quo (k:IntKind){a b:Int}(hb:b≠0):q_ar .quo (.int k a) (.int k b)=some (.int k (wr k (a.tdiv b))):=by
 have:(b==0)=false:=by simpa using hb
 simp[q_ar,arith,vi,quoV,ieq_eq,this]
theorem q_ar_rem (k:IntKind){a b:Int}(hb:b≠0):q_ar .rem (.int k a) (.int k b)=some (.int k (a.tmod b)):=by
 have:(b==0)=false:=by simpa using hb
 simp[q_ar,arith,vi,remV,ieq_eq,this]
theorem q_ar_eql (k:IntKind)(a b:Int):q_ar .eql (.int k a) (.int k b)=some (.bool (decide (a=b))):=by
 simp only[q_ar,keq_self,arith,vb,ieq_eq];congr 2
theorem q_ar_neq (k:IntKind)(a b:Int):q_ar .neq (.int k a) (.int k b)=some (.bool (decide (a≠b))):=by
 simp only[q_ar,keq_self,arith,vb,ieq_eq];congr 2;rw[Bool.eq_iff_iff];simp
theorem q_ar_lss (k:IntKind)(a b:Int):q_ar .lss (.int k a) (.int k b)=some (.bool (decide (a<b))):=by
 simp only[q_ar,keq_self,arith,vb,ilt_eq]
theorem q_ar_leq (k:IntKind)(a b:Int):q_ar .leq (.int k a) (.int k b)=some (.bool (decide (a≤b))):=by
 simp only[q_ar,keq_self,arith,vb,ilt_eq];congr 2;rw[Bool.eq_iff_iff];simp
theorem q_ar_gtr (k:IntKind)(a b:Int):q_ar .gtr (.int k a) (.int k b)=some (.bool (decide (b<a))):=by
 simp only[q_ar,keq_self,arith,vb,ilt_eq]
theorem q_ar_geq (k:IntKind)(a b:Int):q_ar .geq (.int k a) (.int k b)=some (.bool (decide (b≤a))):=by
 simp only[q_ar,keq_self,arith,vb,ilt_eq];congr 2;rw[Bool.eq_iff_iff];simp
theorem q_mx2 (k:IntKind)(a b:Int):q_mx [.int k a,.int k b]=some (.int k (max a b)):=by
 simp only[q_mx,maxV,keq_self,ilt_eq]
 by_cases h:a<b
 ·simp[h];omega
 ·simp[h];omega
theorem q_mn2 (k:IntKind)(a b:Int):q_mn [.int k a,.int k b]=some (.int k (min a b)):=by
 simp only[q_mn,minV,keq_self,ilt_eq]
 by_cases h:b<a
 ·simp[h];omega
 ·simp[h];omega
theorem q_cv_int (k j:IntKind)(a:Int):q_cv k (.int j a)=some (.int k (wr k a)):=rfl
theorem q_neg_int (k:IntKind)(a:Int):q_neg (.int k a)=some (.int k (wr k (0-a))):=rfl
theorem q_not_bool (b:Bool):q_not (.bool b)=some (.bool (!b)):=rfl
theorem q_pick_true (x y:V):q_pick (.bool true) x y=some x:=rfl
theorem q_pick_false (x y:V):q_pick (.bool false) x y=some y:=rfl
theorem q_beq_bool (a b:Bool):q_beq false (.bool a) (.bool b)=some (.bool (a==b)):=rfl
theorem q_bne_bool (a b:Bool):q_beq true (.bool a) (.bool b)=some (.bool (!(a==b))):=rfl
theorem q_chk_ptr (b o:Nat):q_chk (.ptr b o)=some (.ptr b o):=rfl
theorem q_chk_fn (f:FuncId)(x y:List V):q_chk (.fn f x y)=some (.fn f x y):=rfl
theorem q_fad_ptr (off b o:Nat):q_fad off (.ptr b o)=some (.ptr b (o+off)):=rfl
theorem q_ext_tup (vs:List V)(i:Nat):q_ext (.tup vs) i=nth i vs:=rfl
theorem q_len_nils:q_len .nils=some (.int .i64 0):=rfl
theorem q_len_sl (b o n:Nat)(c:Cap):q_len (.sl b o n c)=some (.int .i64 (n:Int)):=rfl
theorem q_isn_nils (ng:Bool):q_isn ng .nils=some (.bool (!ng)):=rfl
theorem q_isn_sl (ng:Bool)(b o n:Nat)(c:Cap):q_isn ng (.sl b o n c)=some (.bool ng):=rfl
theorem nat_cst (n:Nat):nat? (.int .i64 (n:Int))=some n:=rfl
theorem natk_cst (k:IntKind)(n:Nat):natK? (.int k (n:Int))=some n:=rfl
theorem q_iad_sl {sz b o n k:Nat}{c:Cap}{i:V}(hi:nat? i=some k)(h:k<n):q_iad sz (.sl b o n c) i=some (.ptr b (o+k*sz)):=by
 have:Nat.blt k n=true:=by simpa[Nat.blt_eq] using h
 simp[q_iad,hi,this]
theorem q_iaa_ptr {sz b o n k:Nat}{i:V}(hi:nat? i=some k)(h:k<n):q_iaa n sz (.ptr b o) i=some (.ptr b (o+k*sz)):=by
 have:Nat.blt k n=true:=by simpa[Nat.blt_eq] using h
 simp[q_iaa,hi,this]
theorem get_add_new {h:H}{x:Blk}{b:Nat}(e:b=h.next):(h.add x).get b=some x:=by rw[H.get_add_if,if_pos e]
theorem get_add_old {h:H}{x:Blk}{b:Nat}(e:b<h.next):(h.add x).get b=h.get b:=by rw[H.get_add_if,if_neg (by omega)]
theorem get_set_same {h:H}{x:Blk}{b c:Nat}(e:b=c):(h.set c x).get b=some x:=by rw[H.get_set_if,if_pos e]
theorem get_set_other {h:H}{x:Blk}{b c:Nat}(e:b≠c):(h.set c x).get b=h.get b:=by rw[H.get_set_if,if_neg e]
theorem cells_of {h:H}{b:Nat}{k:Kd}{cs:List V}(e:h.get b=some (.cells k cs)):h.cells b=some cs:=H.cells_get e
theorem withV_some (v:V)(h:H):withV v (some h)=some (v,h):=rfl
def ldC (o:Option (List V))(e:Option V)(ag:Bool)(n k:Nat):Option V:=match o with|some cs=>cellsAt ag n k cs|none=>e
theorem q_ld_ptr (h:H)(ag:Bool)(n b o:Nat):q_ld h ag n (.ptr b o)=ldC (h.cells b) (ldOld h b ag n o) ag n o:=by
 simp only[q_ld,ldC]
 cases h.cells b<;>rfl
theorem ldC_true (cs:List V)(e:Option V)(n k:Nat):ldC (some cs) e true n k=aggO (getN k n cs):=rfl
theorem ldC_false (cs:List V)(e:Option V)(n k:Nat):ldC (some cs) e false n k=nth k cs:=rfl
@[congr] theorem ldC_congr {o o':Option (List V)} {e:Option V} {ag:Bool} {n k:Nat} (h:o=o'):ldC o e ag n k=ldC o' e ag n k:=by rw[h]
theorem aggO_some (l:List V):aggO (some l)=some (.agg l):=rfl
def consV (v:V)(o:Option (List V)):Option (List V):=match o with|some l=>some (v::l)|none=>none
theorem consV_some (v:V)(l:List V):consV v (some l)=some (v::l):=rfl
theorem getN_0 (n:Nat)(v:V)(l:List V):getN 0 n (v::l)=takeN n (v::l):=rfl
theorem getN_s (o n:Nat)(v:V)(l:List V):getN (o+1) n (v::l)=getN o n l:=rfl
theorem takeN_0 (l:List V):takeN 0 l=some []:=by cases l<;>rfl
theorem takeN_s (n:Nat)(v:V)(l:List V):takeN (n+1) (v::l)=consV v (takeN n l):=by
 simp only[takeN]
 cases takeN n l<;>rfl
theorem over_0 (l:List V):over [] l=some l:=rfl
theorem over_s (v x:V)(vs l:List V):over (v::vs) (x::l)=consV v (over vs l):=by
 simp only[over]
 cases over vs l<;>rfl
theorem putN_0 (vs l:List V):putN 0 vs l=over vs l:=by cases l<;>cases vs<;>rfl
theorem putN_s (o:Nat)(vs:List V)(v:V)(l:List V):putN (o+1) vs (v::l)=consV v (putN o vs l):=by
 simp only[putN]
 cases putN o vs l<;>rfl
noncomputable def putC (x:Option Blk)(h:H)(b o:Nat)(vs:List V):Option H:=match x with
 |some (.cells .rw cs)=>setO h b .rw (putN o vs cs)
 |some (.cells (.gr s) cs)=>setO h b (.gr s) (putN o vs cs)
 |_=>none
theorem putC_rw (cs:List V)(h:H)(b o:Nat)(vs:List V):putC (some (.cells .rw cs)) h b o vs=setO h b .rw (putN o vs cs):=rfl
theorem putC_gr (s:Nat)(cs:List V)(h:H)(b o:Nat)(vs:List V):putC (some (.cells (.gr s) cs)) h b o vs=setO h b (.gr s) (putN o vs cs):=rfl
theorem setO_some (h:H)(b:Nat)(k:Kd)(cs:List V):setO h b k (some cs)=some (h.set b (.cells k cs)):=rfl
theorem allOne_nil:allOne []=true:=rfl
theorem allOne_cons (v:V)(l:List V):allOne (v::l)=(v.one&&allOne l):=by
 simp only[allOne];cases v.one<;>rfl
theorem H.put_cons (h:H)(b o:Nat)(v:V)(vs:List V):h.put b o (v::vs)=og (allOne (v::vs)) (putC (h.get b) h b o (v::vs)):=by
 simp only[H.put]
 cases allOne (v::vs) with
 |false=>rfl
 |true=>
  simp only[og_true]
  cases h.get b with
  |none=>rfl
  |some x=>cases x<;>first|rfl|(rename_i k cs;cases k<;>rfl)
theorem e_sto_lit (h:H)(n b o:Nat)(x:V):e_sto h n (.ptr b o) x=og (decide (lenN x.cells=n)) (withV .und (h.put b o x.cells)):=by
 simp only[e_sto]
 by_cases e:lenN x.cells=n
 ·simp[e]
 ·have:Nat.beq (lenN x.cells) n=false:=by
   cases hb:Nat.beq (lenN x.cells) n with
   |false=>rfl
   |true=>exact absurd (Nat.eq_of_beq_eq_true hb) e
  simp[this,e]
theorem cells_add_new {h:H}{k:Kd}{cs:List V}{b:Nat}(e:b=h.next):(h.add (.cells k cs)).cells b=some cs:=by rw[H.cells_add,if_pos e]
theorem cells_add_old {h:H}{x:Blk}{b:Nat}(e:b<h.next):(h.add x).cells b=h.cells b:=by
 unfold H.cells;rw[get_add_old e]
theorem cells_set_same {h:H}{k:Kd}{cs:List V}{b c:Nat}(e:b=c):(h.set c (.cells k cs)).cells b=some cs:=by rw[H.cells_set,if_pos e]
theorem cells_set_other {h:H}{x:Blk}{b c:Nat}(e:b≠c):(h.set c x).cells b=h.cells b:=by
 unfold H.cells;rw[get_set_other e]
theorem T.one_put {α:Type}(x y:Option α):∀(f k:Nat),k≤f→(T.one x f k).put y k=T.one y f k
 |0,k,h=>by
  have:k=0:=by omega
  subst this;rfl
 |f+1,0,_=>rfl
 |f+1,j+1,h=>by
  have ih:=T.one_put x y f (j/2) (by omega)
  simp only[T.one]
  cases hb:Nat.beq (j%2) 0<;>simp[T.put,hb,ih]
theorem T.put_put {α:Type}(x y:Option α):∀(t:T α) (k:Nat),(t.put x k).put y k=t.put y k
 |.nil,k=>by simp only[T.put];exact T.one_put x y k k (Nat.le_refl _)
 |.node v l r,0=>rfl
 |.node v l r,j+1=>by
  simp only[T.put]
  cases hb:Nat.beq (j%2) 0<;>simp[T.put,hb,T.put_put x y]
theorem set_add_same {h:H}{x y:Blk}{b:Nat}(e:b=h.next):(h.add x).set b y=h.add y:=by
 rw[H.set_eq,H.add_eq,H.add_eq,e,T.put_put]
theorem set_set_same {h:H}{x y:Blk}{b c:Nat}(e:b=c):(h.set c x).set b y=h.set c y:=by
 rw[H.set_eq,H.set_eq,H.set_eq,e,T.put_put]
def H.Sub (h h':H):Prop:=h.sub h'∧h'.wf
theorem H.Sub.refl {h:H}(hw:h.wf):h.Sub h:=⟨h.sub_refl,hw⟩
theorem H.Sub.trans {h h' h'':H}(a:h.Sub h')(b:h'.Sub h''):h.Sub h'':=⟨H.sub_trans a.1 b.1,b.2⟩
theorem H.Sub.get {h h':H}(a:h.Sub h'){b:Nat}{x:Blk}(e:h.get b=some x):h'.get b=some x:=a.1.2 b x e
theorem H.Sub.cells {h h':H}(a:h.Sub h'){b:Nat}{cs:List V}(e:h.cells b=some cs):h'.cells b=some cs:=H.sub_cells a.1 e
theorem H.Sub.next {h h':H}(a:h.Sub h'):h.next≤h'.next:=a.1.1
theorem H.Sub.wf {h h':H}(a:h.Sub h'):h'.wf:=a.2
theorem H.wf_add {h:H}(hw:h.wf)(x:Blk):(h.add x).wf:=(H.le_add h x).2 hw
theorem H.wf_set {h:H}(hw:h.wf){b:Nat}{y:Blk}(x:Blk)(hb:h.get b=some y):(h.set b x).wf:=(H.le_set hb).2 hw
theorem H.wf_del {h:H}(hw:h.wf)(b:Nat):(h.del b).wf:=(H.le_del h b).2 hw
theorem H.lt_next {h:H}(hw:h.wf){b:Nat}{x:Blk}(e:h.get b=some x):b<h.next:=hw b x e
theorem H.Sub.add {h0 h:H}(a:h0.Sub h)(x:Blk):h0.Sub (h.add x):=⟨H.sub_trans a.1 (H.sub_add a.2 x),H.wf_add a.2 x⟩
theorem H.wf_set' {h:H}(hw:h.wf){b:Nat}(x:Blk)(hb:b<h.next):(h.set b x).wf:=by
 intro c y e
 rw[H.next_set]
 rw[H.get_set_if] at e
 by_cases e':c=b
 ·rw[e'];exact hb
 ·rw[if_neg e'] at e;exact hw c y e
theorem H.Sub.set {h0 h:H}(a:h0.Sub h){b:Nat}(hb:h0.next≤b)(hb2:b<h.next)(hw0:h0.wf)(x:Blk):h0.Sub (h.set b x):=
 ⟨H.sub_set a.1 (H.wf_none hw0 hb) x,H.wf_set' a.2 x hb2⟩
theorem H.Sub.del {h0 h:H}(a:h0.Sub h){b:Nat}(hb:h0.next≤b)(hw0:h0.wf):h0.Sub (h.del b):=by
 refine⟨⟨by rw[H.next_del];exact a.1.1,fun c y e=>?_⟩,H.wf_del a.2 b⟩
 have hne:c≠b:=fun e'=>by have:=hw0 c y e;omega
 rw[H.get_del,upd,if_neg hne];exact a.1.2 c y e
section
variable {Fn:Nat→Option FD} {fast:Nat→Option (List V→H→Option (V × H))} {N:Nat} {fn:FuncId} {ro:Option Nat}
def Klp (I:St→Prop)(Q:X→St→Prop)(x:X)(s:St):Prop:=match x with|.nrm=>I s|.ext j=>Q (.ext j) s|.ret=>Q .ret s
@[congr] theorem Klp_congr {I:St→Prop} {Q:X→St→Prop} {x x':X} {s:St} (e:x=x'):Klp I Q x s=Klp I Q x' s:=by rw[e]
theorem Klp_nrm (I:St→Prop)(Q:X→St→Prop)(s:St):Klp I Q .nrm s=I s:=rfl
theorem Klp_ext (I:St→Prop)(Q:X→St→Prop)(j:Nat)(s:St):Klp I Q (.ext j) s=Q (.ext j) s:=rfl
theorem Klp_ret (I:St→Prop)(Q:X→St→Prop)(s:St):Klp I Q .ret s=Q .ret s:=rfl
theorem W_loop {a:C}{Q:X→St→Prop}(I:Nat→St→Prop)(step:∀k s,I k s→W Fn fast N fn ro a s (Klp (fun s'=>∃j,j<k∧I j s') Q)):
  ∀(k:Nat) (s:St),I k s→W Fn fast N fn ro (.loop a) s Q:=by
 intro k
 induction k using Nat.strongRecOn with
 |ind k ih=>
  intro s hs
  refine W.loop ((step k s hs).mono fun x s' q=>?_)
  cases x with
  |nrm=>obtain⟨j,hj,hi⟩:=q;exact ih j hj s' hi
  |ext j=>exact q
  |ret=>exact q
theorem W_count {a:C}{Q:X→St→Prop}(n:Nat)(I:Nat→St→Prop)(step:∀i s,i<n→I i s→W Fn fast N fn ro a s (Klp (I (i+1)) Q))(last:∀s,I n s→W Fn fast N fn ro a s (Klp (fun _=>False) Q))
  {i:Nat} {s:St} (hi:i≤n) (h:I i s):W Fn fast N fn ro (.loop a) s Q:=by
 refine W_loop (fun k s=>k≤n∧I (n-k) s) (fun k s hk=>?_) (n-i) s ⟨by omega,by rw[show n-(n-i)=i by omega];exact h⟩
 obtain⟨h1,h2⟩:=hk
 by_cases h0:k=0
 ·subst h0
  refine(last s (by simpa using h2)).mono fun x s' q=>?_
  cases x with
  |nrm=>exact q.elim
  |ext j=>exact q
  |ret=>exact q
 ·refine(step (n-k) s (by omega) h2).mono fun x s' q=>?_
  cases x with
  |nrm=>exact⟨k-1,by omega,by omega,by rw[show n-(k-1)=n-k+1 by omega];exact q⟩
  |ext j=>exact q
  |ret=>exact q
end
def consO (v:V)(o:Option (List V)):Option (List V):=match o with|some l=>some (v::l)|none=>none
def consP (o:Option V)(r:Option (List V)):Option (List V):=match o with|some v=>consO v r|none=>none
def resO (o:Option (List V)):Option V:=match o with|some [v]=>some v|some l=>some (.tup l)|none=>none
theorem consO_some (v:V)(l:List V):consO v (some l)=some (v::l):=rfl
theorem consP_some (v:V)(r:Option (List V)):consP (some v) r=consO v r:=rfl
theorem resO_1 (v:V):resO (some [v])=some v:=rfl
theorem resO_0:resO (some [])=some (.tup []):=rfl
theorem resO_2 (v w:V)(l:List V):resO (some (v::w::l))=some (.tup (v::w::l)):=rfl
theorem rsL_nil (tm:T V)(h:H):rsL tm h []=some []:=rfl
theorem rsL_tmp (tm:T V)(h:H)(t:Nat)(l:List Rs):rsL tm h (.tmp t::l)=consO ((Opd.t t).ev tm) (rsL tm h l):=by
 simp only[rsL,rsV]
 cases rsL tm h l<;>rfl
theorem rsL_cell (tm:T V)(h:H)(a n:Nat)(ag:Bool)(l:List Rs):rsL tm h (.cell a ag n::l)=consP (q_ld h ag n ((Opd.t a).ev tm)) (rsL tm h l):=by
 simp only[rsL,rsV,evQ]
 cases q_ld h ag n ((Opd.t a).ev tm) with
 |none=>rfl
 |some v=>cases rsL tm h l<;>rfl
theorem resV_eq (tm:T V)(h:H)(l:List Rs):resV tm h l=resO (rsL tm h l):=by
 unfold resV resO
 cases rsL tm h l with
 |none=>rfl
 |some vs=>
  cases vs with
  |nil=>rfl
  |cons v vs=>cases vs<;>rfl
def Kfin (res:List Rs)(Q:V→H→Prop)(x:X)(s:St):Prop:=match x with
 |.ext _=>False
 |_=>∃h' v,marks s.df s.h=some h'∧resV s.tm h' res=some v∧Q v h'
@[congr] theorem Kfin_congr {res:List Rs} {Q:V→H→Prop} {x x':X} {s:St} (e:x=x'):Kfin res Q x s=Kfin res Q x' s:=by rw[e]
theorem Kfin_ret (res:List Rs)(Q:V→H→Prop)(tm:T V)(h:H):Kfin res Q .ret ⟨tm,h,[]⟩=P1 (resO (rsL tm h res)) h Q:=by
 apply propext
 simp only[Kfin,marks,resV_eq]
 cases he:resO (rsL tm h res) with
 |none=>exact⟨fun⟨_,_,e,e2,_⟩=>(by cases e;rw[he] at e2;cases e2),fun q=>q.elim⟩
 |some v=>exact⟨fun⟨_,_,e,e2,q⟩=>(by cases e;rw[he] at e2;cases e2;exact q),fun q=>⟨h,v,rfl,he,q⟩⟩
theorem Kfin_nrm (res:List Rs)(Q:V→H→Prop)(tm:T V)(h:H):Kfin res Q .nrm ⟨tm,h,[]⟩=P1 (resO (rsL tm h res)) h Q:=Kfin_ret res Q tm h
theorem Ev_body {Fn:Nat→Option FD}{fast:Nat→Option (List V→H→Option (V × H))}{f:FuncId}{x y args:List V}{h:H}{fd:FD}{Q:V→H→Prop}(hfast:fast f=none)(hf:Fn f=some fd)(hn:Nat.ble (lenN (appN x (appN args y))) fd.ntmps=true)
  (hb:W Fn fast fd.ntmps f none fd.body ⟨tm0 0 (appN x (appN args y)) .nil,h,[]⟩ (Kfin fd.res Q)):Ev Fn fast (.fn f x y) args h Q:=
 Ev.body hfast hf hn (hb.mono fun e s q=>by
  cases e with
  |ext id=>exact q
  |nrm=>exact q
  |ret=>exact q)
theorem Ev.det {Fn:Nat→Option FD}{fast:Nat→Option (List V→H→Option (V × H))}{fv:V}{args:List V}{h h1:H}{v:V}(he:Ev Fn fast fv args h fun v' h'=>v'=v∧h'=h1)(Q:V→H→Prop):
  Ev Fn fast fv args h Q=Q v h1:=by
 obtain⟨n,v',h',e,rfl,rfl⟩:=he
 refine propext ⟨fun⟨m,u,h2,e2,q⟩=>?_,fun q=>⟨n,_,_,e,q⟩⟩
 have a:=evV_mono (Nat.le_max_left n m) _ _ _ _ e
 have b:=evV_mono (Nat.le_max_right n m) _ _ _ _ e2
 rw[a] at b;cases b;exact q
def Pure (Fn:Nat→Option FD)(fast:Nat→Option (List V→H→Option (V × H)))(h:H)(fv:V)(args:List V)(v:V):Prop:=
 ∀h1,h.Sub h1→Ev Fn fast fv args h1 fun u h2=>u=v∧h1.Sub h2
theorem Pure.use {Fn:Nat→Option FD}{fast:Nat→Option (List V→H→Option (V × H))}{h h1:H}{fv:V}{args:List V}{v:V}{Q:V→H→Prop}(p:Pure Fn fast h fv args v)(hs:h.Sub h1)(q:∀h2,h1.Sub h2→Q v h2):
  Ev Fn fast fv args h1 Q:=(p h1 hs).mono fun u h2 ⟨e,hs2⟩=>e▸q h2 hs2
theorem Pure.mono {Fn:Nat→Option FD}{fast:Nat→Option (List V→H→Option (V × H))}{h h1:H}{fv:V}{args:List V}{v:V}(p:Pure Fn fast h fv args v)(hs:h.Sub h1):Pure Fn fast h1 fv args v:=
 fun h2 hs2=>p h2 (hs.trans hs2)
def SlAt (h:H)(x:V)(sz:Nat)(rows:List (List V)):Prop:=
 (∀r∈rows,r.length=sz)∧rows.length≤9223372036854775807∧((x=.nils∧rows=[])∨∃b o c cs,x=.sl b o rows.length c∧(rows=[]∨h.cells b=some cs)∧getN o (rows.length*sz) cs=some rows.flatten)
theorem SlAt.mono {h h':H}(hs:h.Sub h'){x:V}{sz:Nat}{rows:List (List V)}(a:SlAt h x sz rows):SlAt h' x sz rows:=by
 obtain⟨a1,a0,a2⟩:=a
 refine⟨a1,a0,?_⟩
 rcases a2 with a2|⟨b,o,c,cs,e1,e2,e3⟩
 ·exact .inl a2
 ·exact .inr ⟨b,o,c,cs,e1,e2.imp id hs.cells,e3⟩
theorem SlAt.len {h:H}{x:V}{sz:Nat}{rows:List (List V)}(a:SlAt h x sz rows):q_len x=some (.int .i64 (rows.length:Int)):=by
 rcases a.2.2 with⟨rfl,rfl⟩|⟨b,o,c,cs,rfl,_⟩<;>rfl
theorem flatten_len {α:Type}{sz:Nat}:∀{rows:List (List α)},(∀r∈rows,r.length=sz)→rows.flatten.length=rows.length*sz
 |[],_=>by simp
 |r::l,h=>by
  have h1:=h r (by simp)
  have h2:=flatten_len (rows:=l) (fun x hx=>h x (by simp[hx]))
  rw[List.flatten_cons,List.length_append,h1,h2,List.length_cons,Nat.add_mul];omega
theorem flatten_drop {α:Type}{sz:Nat}:∀{rows:List (List α)} (k:Nat),(∀r∈rows,r.length=sz)→rows.flatten.drop (k*sz)=(rows.drop k).flatten
 |[],k,_=>by simp
 |r::l,0,h=>by simp
 |r::l,k+1,h=>by
  have h1:=h r (by simp)
  rw[List.flatten_cons,List.drop_succ_cons,←flatten_drop k (fun x hx=>h x (by simp[hx])),List.drop_append,h1,Nat.add_mul,Nat.one_mul]
  rw[List.drop_of_length_le (by omega),List.nil_append]
  congr 1;omega
theorem SlAt.bound {h:H}{x:V}{sz:Nat}{rows:List (List V)}(a:SlAt h x sz rows):rows.length≤9223372036854775807:=a.2.1
theorem wr_succ {i:Nat}(h:i<9223372036854775807):wr .i64 ((i:Int)+1)=((i+1:Nat):Int):=by rw[wr_in (by omega) (by omega)];rfl
theorem SlAt.row {h:H}{x:V}{sz:Nat}{rows:List (List V)}(a:SlAt h x sz rows){k:Nat}(hk:k<rows.length):
  ∃b o n c cs,x=.sl b o n c∧k<n∧h.cells b=some cs∧(∀{i:V},nat? i=some k→q_iad sz x i=some (.ptr b (o+k*sz)))∧getN (o+k*sz) sz cs=some rows[k]∧
   ∀j (hj:j<sz),nth (o+k*sz+j) cs=some (rows[k][j]'(by rw[a.1 _ (List.getElem_mem hk)];exact hj)):=by
 rcases a.2.2 with⟨rfl,rfl⟩|⟨b,o,c,cs,rfl,h2,h3⟩
 ·simp at hk
 ·replace h2:h.cells b=some cs:=h2.resolve_left (fun e=>by rw[e] at hk;simp at hk)
  refine⟨b,o,_,c,cs,rfl,hk,h2,fun hi=>q_iad_sl hi hk,?_,fun j hj=>?_⟩
  ·obtain⟨e1,e2⟩:=getN_eq.1 h3
   have hl:k*sz+sz≤rows.length*sz:=by
    have:=Nat.mul_le_mul_right sz (show k+1≤rows.length from hk);rw[Nat.add_mul,Nat.one_mul] at this;exact this
   refine getN_eq.2 ⟨?_,by omega⟩
   have e4:(rows.drop k).flatten=rows[k]++(rows.drop (k+1)).flatten:=by rw[List.drop_eq_getElem_cons hk,List.flatten_cons]
   have e5:=flatten_drop k a.1
   rw[e4,e1] at e5
   have hr:=a.1 _ (List.getElem_mem hk)
   have e6:=congrArg (List.take sz) e5
   rw[List.take_left' hr] at e6
   rw[←e6,List.drop_take,List.take_take,List.drop_drop]
   congr 1;omega
  ·obtain⟨e1,e2⟩:=getN_eq.1 h3
   have hl:k*sz+sz≤rows.length*sz:=by
    have:=Nat.mul_le_mul_right sz (show k+1≤rows.length from hk);rw[Nat.add_mul,Nat.one_mul] at this;exact this
   rw[nth_eq]
   have e4:(rows.drop k).flatten=rows[k]++(rows.drop (k+1)).flatten:=by rw[List.drop_eq_getElem_cons hk,List.flatten_cons]
   have e5:=flatten_drop k a.1
   rw[e4,e1] at e5
   have hr:=a.1 _ (List.getElem_mem hk)
   have e6:=congrArg (fun l=>l[j]?) e5
   simp only[List.getElem?_drop] at e6
   rw[List.getElem?_append_left (by omega),List.getElem?_take,if_pos (by omega),List.getElem?_drop] at e6
   rw[←List.getElem?_eq_getElem,←e6]
   congr 1;omega
end Go.Ab
