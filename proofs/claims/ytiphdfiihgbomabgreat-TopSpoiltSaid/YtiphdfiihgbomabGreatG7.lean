/- Looms at work. Numbers that are wound off bytes: the contracts of Spool. Rows in blocks, marks of loops: general lemmas. Looms: generic contracts. Looms: a loom is right. Looms: Check. Looms: parts that are made one by one. Looms: See. -/
import Derived.Test.YtiphdfiihgbomabGreatAc7
import Derived.Test.YtiphdfiihgbomabGreatG6
import Derived.Test.YtiphdfiihgbomabGreatAc8
set_option linter.unusedSimpArgs false
set_option linter.unusedVariables false
namespace Go.Ab
theorem q_shr_3 (a:Int):q_sh .shr (.int .u64 a) (.int .u64 3)=some (.int .u64 (a.fdiv (2^(min 3 IntKind.u64.bits)))):=rfl
theorem q_shr_19 (a:Int):q_sh .shr (.int .u64 a) (.int .u64 19)=some (.int .u64 (a.fdiv (2^(min 19 IntKind.u64.bits)))):=rfl
def xorI (k:IntKind)(a b:Int):Int:=k.wrap (BitVec.ofInt k.bits a^^^BitVec.ofInt k.bits b).toNat
def andI (k:IntKind)(a b:Int):Int:=k.wrap (BitVec.ofInt k.bits a&&& BitVec.ofInt k.bits b).toNat
theorem q_ar_xor (k:IntKind)(a b:Int):q_ar .xor (.int k a) (.int k b)=some (.int k (xorI k a b)):=by simp[q_ar,arith,xorV,vi,xorI]
theorem q_ar_and (k:IntKind)(a b:Int):q_ar .and (.int k a) (.int k b)=some (.int k (andI k a b)):=by simp[q_ar,arith,andV,vi,andI]
theorem and_bd (a:Int):0≤andI .i64 a 65535∧andI .i64 a 65535≤65535:=by
 have h:(BitVec.ofInt IntKind.i64.bits a&&& BitVec.ofInt IntKind.i64.bits 65535).toNat≤65535:=by
  rw[BitVec.toNat_and]
  exact Nat.le_trans Nat.and_le_right (by decide)
 unfold andI
 rw[←wr_eq,wr_in (by omega) (by omega)]
 omega
namespace Tryz
def encU8 (n:Int):List V:=[.int .u8 n]
def SpAt (h:H)(p:Nat)(x:V)(T:Int):Prop:=∃st,h.get p=some (.cells .rw [x,.int .i64 T,.int .u64 st])
theorem SpAt.mono {h h':H}{p:Nat}{x:V}{T:Int}(a:SpAt h p x T)(hs:h.Sub h'):SpAt h' p x T:=by
 obtain⟨st,a⟩:=a
 exact⟨st,hs.get a⟩
theorem SpAt.keep {h h':H}{p:Nat}{x:V}{T:Int}{S:Nat→Prop}(a:SpAt h p x T)(k:Keeps S h h')(n:¬S p):SpAt h' p x T:=by
 obtain⟨st,a⟩:=a
 exact⟨st,k.2 _ _ a n⟩
set_option maxHeartbeats 1000000 in
theorem turn_ev {h0 h:H}{p:Nat}{x:V}{bs:List Int}{T:Int}(hs:h0.Sub h)(hw0:h0.wf)(hx:SlAt h0 x 1 (bs.map encU8))(hp0:h0.next≤p)(hp:SpAt h p x T)(hT:0≤T∧T≤1000000000)(Q:V→H→Prop)
  (q:∀r h',0≤r→r≤65535→h0.Sub h'→SpAt h' p x (T+1)→Keeps (fun b=>b=p) h h'→h'.next=h.next→Q (.int .i64 r) h'):Ev fnG fastA (.fn 16 [] []) [.ptr p 0] h Q:=by
 obtain⟨st,hp⟩:=hp
 have hw:=hs.wf
 have hlp:=hw _ _ hp
 have hx1:=hx.one
 have hlen:=hx.lenE
 have hc:=cells_of hp
 refine Ev_body (fd:=c16) rfl rfl rfl ?_
 have fin:∀(st':Int) (r:Int),0≤r→r≤65535→Q (.int .i64 r) (h.set p (.cells .rw [x,.int .i64 (T+1),.int .u64 st'])):=fun st' r r0 r1=>
  q r _ r0 r1 (hs.set hp0 hlp hw0 _) ⟨st',get_set_same rfl⟩ (Keeps.set _ _ _) (H.next_set _ _ _)
 by_cases h1:0<(bs.length:Int)
 ·have hT0:0≤T.tmod (bs.length:Int):=Int.tmod_nonneg _ hT.1
  have hT1:T.tmod (bs.length:Int)<(bs.length:Int):=Int.tmod_lt_of_pos _ h1
  obtain⟨i,ei⟩:=Int.eq_ofNat_of_zero_le hT0
  have hi:i<bs.length:=by omega
  obtain⟨b2,o2,c2,cs2,e2,hcs2,hq2,hgg2,hn2,hn02⟩:=(hx.mono hs).at hi
  have v2:=hn02 (by omega)
  simp only[encU8] at v2
  have hbb:b2≠p:=by
   have:=SlAt_lt hw0 hx (by intro e;rw[List.map_eq_nil_iff] at e;rw[e] at hi;simp at hi) b2 ⟨_,_,_,e2⟩
   omega
  have hne:¬(bs.length:Int)=0:=by omega
  by_cases h2:(bs.length:Int)<T+1
  ·simp -implicitDefEqProofs(maxSteps:=999999)(disch:=first|with_reducible rfl|omega|(simp only[nA,nS,nD]<;>omega)|fail)only[c16,go_sem,hc,hlen,h1,q_ar_rem .i64 hne,ei,hq2 (nat_cst i),hcs2,v2,hp,wr_in,h2,hx1,q_shr_3,q_shr_19,q_ar_xor,q_ar_and]
   exact fin _ _ (and_bd _).1 (and_bd _).2
  ·simp -implicitDefEqProofs(maxSteps:=999999)(disch:=first|with_reducible rfl|omega|(simp only[nA,nS,nD]<;>omega)|fail)only[c16,go_sem,hc,hlen,h1,q_ar_rem .i64 hne,ei,hq2 (nat_cst i),hcs2,v2,hp,wr_in,h2,hx1,q_shr_3,q_shr_19,q_ar_xor,q_ar_and]
   exact fin _ _ (and_bd _).1 (and_bd _).2
 ·by_cases h2:(bs.length:Int)<T+1
  ·simp -implicitDefEqProofs(maxSteps:=999999)(disch:=first|with_reducible rfl|omega|(simp only[nA,nS,nD]<;>omega)|fail)only[c16,go_sem,hc,hlen,h1,hp,wr_in,h2,hx1,q_shr_3,q_shr_19,q_ar_xor,q_ar_and]
   exact fin _ _ (and_bd _).1 (and_bd _).2
  ·omega
theorem Upto_ev {h0 h:H}{p:Nat}{x:V}{bs:List Int}{T:Int}(hs:h0.Sub h)(hw0:h0.wf)(hx:SlAt h0 x 1 (bs.map encU8))(hp0:h0.next≤p)(hp:SpAt h p x T)(hT:0≤T∧T≤1000000000){n:Int}(hn: -1000000000≤n∧n≤1000000000)(Q:V→H→Prop)
  (q:∀r h',0≤r→r≤max 0 n→h0.Sub h'→SpAt h' p x (T+1)→Keeps (fun b=>b=p) h h'→h'.next=h.next→Q (.int .i64 r) h'):Ev fnG fastA (.fn 7 [] []) [.ptr p 0,.int .i64 n] h Q:=by
 refine Ev_body (fd:=c7) rfl rfl rfl ?_
 simp -implicitDefEqProofs(maxSteps:=999999)(disch:=first|with_reducible rfl|omega|(simp only[nA,nS,nD]<;>omega)|fail)only[c7,go_sem]
 refine turn_ev hs hw0 hx hp0 hp hT _ fun r h' r0 r1 s' p' k' n'=>?_
 have hm:¬max 1 (n+1)=0:=by omega
 have e0:0≤r.tmod (max 1 (n+1)):=Int.tmod_nonneg _ r0
 have e1:r.tmod (max 1 (n+1))<max 1 (n+1):=Int.tmod_lt_of_pos _ (by omega)
 simp -implicitDefEqProofs(maxSteps:=999999)(disch:=first|with_reducible rfl|omega|(simp only[nA,nS,nD]<;>omega)|fail)only[go_sem,wr_in,q_ar_rem .i64 hm]
 exact q _ _ e0 (by omega) s' p' k' n'
theorem From_ev {h0 h:H}{p:Nat}{x:V}{bs:List Int}{T:Int}(hs:h0.Sub h)(hw0:h0.wf)(hx:SlAt h0 x 1 (bs.map encU8))(hp0:h0.next≤p)(hp:SpAt h p x T)(hT:0≤T∧T≤1000000000){lo hi:Int}(hlo: -1000000≤lo∧lo≤1000000)(hhi: -1000000≤hi∧hi≤1000000)(Q:V→H→Prop)
  (q:∀r h',lo≤r→r≤max lo hi→h0.Sub h'→SpAt h' p x (T+1)→Keeps (fun b=>b=p) h h'→h'.next=h.next→Q (.int .i64 r) h'):Ev fnG fastA (.fn 5 [] []) [.ptr p 0,.int .i64 lo,.int .i64 hi] h Q:=by
 refine Ev_body (fd:=c5) rfl rfl rfl ?_
 simp -implicitDefEqProofs(maxSteps:=999999)(disch:=first|with_reducible rfl|omega|(simp only[nA,nS,nD]<;>omega)|fail)only[c5,go_sem,wr_in]
 refine Upto_ev hs hw0 hx hp0 hp hT (by omega) _ fun r h' r0 r1 s' p' k' n'=>?_
 simp -implicitDefEqProofs(maxSteps:=999999)(disch:=first|with_reducible rfl|omega|(simp only[nA,nS,nD]<;>omega)|fail)only[go_sem,wr_in]
 exact q _ _ (by omega) (by omega) s' p' k' n'
theorem Once_ev {h0 h:H}{p:Nat}{x:V}{bs:List Int}{T:Int}(hs:h0.Sub h)(hw0:h0.wf)(hx:SlAt h0 x 1 (bs.map encU8))(hp0:h0.next≤p)(hp:SpAt h p x T)(hT:0≤T∧T≤1000000000){n:Int}(hn:0≤n∧n≤1000000)(Q:V→H→Prop)
  (q:∀t h',h0.Sub h'→SpAt h' p x (T+1)→Keeps (fun b=>b=p) h h'→h'.next=h.next→Q (.bool t) h'):Ev fnG fastA (.fn 6 [] []) [.ptr p 0,.int .i64 n] h Q:=by
 refine Ev_body (fd:=c6) rfl rfl rfl ?_
 simp -implicitDefEqProofs(maxSteps:=999999)(disch:=first|with_reducible rfl|omega|(simp only[nA,nS,nD]<;>omega)|fail)only[c6,go_sem,wr_in]
 refine Upto_ev hs hw0 hx hp0 hp hT (by omega) _ fun r h' r0 r1 s' p' k' n'=>?_
 simp -implicitDefEqProofs(maxSteps:=999999)(disch:=first|with_reducible rfl|omega|(simp only[nA,nS,nD]<;>omega)|fail)only[go_sem]
 exact q _ _ s' p' k' n'
theorem Wound_ev {h:H}{x:V}{bs:List Int}(hw:h.wf)(hx:SlAt h x 1 (bs.map encU8))(Q:V→H→Prop)(q:∀h',h.Sub h'→SpAt h' h.next x 0→h'.next=h.next+1→Q (.ptr h.next 0) h'):Ev fnG fastA (.fn 4 [] []) [x] h Q:=by
 have hx1:=hx.one
 refine Ev_body (fd:=c4) rfl rfl rfl ?_
 simp -implicitDefEqProofs(maxSteps:=999999)(disch:=first|with_reducible rfl|omega|(simp only[nA,nS,nD]<;>omega)|fail)only[c4,go_sem,hx.lenE,hx1,cells_one hx1]
 exact q _ ((H.Sub.refl hw).add _) ⟨_,get_add_new rfl⟩ (H.next_add _ _)
end Tryz
end Go.Ab
namespace Go.Ab
theorem putN_one {cs:List V}{k:Nat}(hk:k<cs.length)(v:V):putN k [v] cs=some (cs.set k v):=by
 rw[putN_eq (by simp)]
 refine⟨?_,by simp only[List.length_singleton];omega⟩
 rw[List.set_eq_take_append_cons_drop,if_pos hk]
 simp
theorem a_msl_nn' {h:H}{by_ n:Nat}{z:List V}(h1:n*by_≤1099511627776)(h2:n≤1099511627776):
  a_msl h by_ z (.int .i64 (n:Int)) (.int .i64 (n:Int))=some (.sl h.next 0 n (.fix n),h.add (.cells .rw (repN n z))):=by
 have e1:Nat.ble (n*by_) 1099511627776=true:=by simpa using h1
 have e2:Nat.ble n 1099511627776=true:=by simpa using h2
 have e3:Nat.ble n n=true:=by simp
 simp only[a_msl,nat_cst,e1,e2,e3,og_true,lf_eq]
theorem marks_ok:∀{ds:List Nat} {h:H},ds.Nodup→(∀d∈ds,h.get d=some .dfr)→∃h',marks ds h=some h'∧(∀c,c ∉ds→h'.get c=h.get c)∧(∀c,c∈ds→h'.get c=none)∧h'.next=h.next
 |[],h,_,_=>⟨h,rfl,fun _ _=>rfl,fun c hc=>by simp at hc,rfl⟩
 |d::ds,h,nd,hd=>by
  rw[List.nodup_cons] at nd
  have h1:=hd d (by simp)
  obtain⟨h',e,g,gn,n⟩:=marks_ok (ds:=ds) (h:=h.del d) nd.2 fun c hc=>by
   rw[get_del_other (by intro e;subst e;exact nd.1 hc)];exact hd c (by simp[hc])
  refine⟨h',by simp only[marks,h1];exact e,fun c hc=>?_,fun c hc=>?_,by rw[n,H.next_del]⟩
  ·rw[List.mem_cons,not_or] at hc
   rw[g c hc.2,get_del_other hc.1]
  ·rcases List.mem_cons.1 hc with rfl|hc
   ·rw[g c nd.1,H.get_del,upd,if_pos rfl]
   ·exact gn c hc
theorem Kfin_rets (res:List Rs)(Q:V→H→Prop)(tm:T V){h h':H}{ds:List Nat}(hm:marks ds h=some h'):Kfin res Q .ret ⟨tm,h,ds⟩=P1 (resO (rsL tm h' res)) h' Q:=by
 apply propext
 simp only[Kfin,hm,resV_eq]
 cases he:resO (rsL tm h' res) with
 |none=>exact⟨fun⟨_,_,e,e2,_⟩=>(by cases e;rw[he] at e2;cases e2),fun q=>q.elim⟩
 |some v=>exact⟨fun⟨_,_,e,e2,q⟩=>(by cases e;rw[he] at e2;cases e2;exact q),fun q=>⟨h',v,rfl,he,q⟩⟩
theorem marks_sub {h0 h h':H}{ds:List Nat}(s:h0.Sub h)(hw0:h0.wf)(lo:∀d∈ds,h0.next≤d)(g:∀c,c ∉ds→h'.get c=h.get c)(gn:∀c,c∈ds→h'.get c=none)(n:h'.next=h.next):h0.Sub h':=by
 refine⟨⟨by rw[n];exact s.next,fun b y e=>?_⟩,fun b y e=>?_⟩
 ·rw[g b fun hb=>by have:=lo b hb;have:=hw0 b y e;omega]
  exact s.get e
 ·rw[n]
  by_cases hb:b∈ds
  ·rw[gn b hb] at e;cases e
  ·rw[g b hb] at e;exact s.wf b y e
theorem putI {l:List Int}{j:Nat}(hj:j<l.length)(n:Int):putN j [.int .i64 n] (l.map iv)=some ((l.set j n).map iv):=by
 rw[putN_one (by rw[List.length_map];exact hj),List.map_set];rfl
noncomputable def slcFrom (h:H)(sz:Nat)(x k:V):Option V:=q_slc .nil h sz x (some (.c k)) none none
theorem q_slc_from (tm:T V)(h:H)(sz:Nat)(x:V)(y:Opd):q_slc tm h sz x (some y) none none=slcFrom h sz x (y.ev tm):=rfl
noncomputable def slcTo (h:H)(sz:Nat)(x k:V):Option V:=q_slc .nil h sz x none (some (.c k)) none
theorem q_slc_to (tm:T V)(h:H)(sz:Nat)(x:V)(y:Opd):q_slc tm h sz x none (some y) none=slcTo h sz x (y.ev tm):=rfl
theorem subO_to {b o sz n c k:Nat}{tm:T V}{x:Opd}{kd:IntKind}(hx:x.ev tm=.int kd (k:Int))(hk:k≤n)(hc:n≤c):subO b o sz (bnd3 tm n c none (some x) none)=some (.sl b (bsel (Nat.beq c 0) o (o+0*sz)) k (.fix c)):=by
 have e1:Nat.ble 0 k=true:=by simp
 have e2:Nat.ble k c=true:=by simp;omega
 have e3:Nat.ble c c=true:=by simp
 simp only[bnd3,natO,hx,natk_cst,bnds,e1,e2,e3,og_true,subO,sub,Nat.sub_zero]
theorem flatten_takeB {sz:Nat}:∀{rows:List (List V)} (k:Nat),(∀r∈rows,r.length=sz)→k≤rows.length→rows.flatten.take (k*sz)=(rows.take k).flatten
 |rows,0,_,_=>by simp
 |[],k+1,_,h=>by simp at h
 |r::rows,k+1,hr,h=>by
  have h1:=hr r (by simp)
  rw[List.flatten_cons,List.take_succ_cons,List.flatten_cons,Nat.succ_mul,List.take_append,List.take_of_length_le (by omega),h1,show k*sz+sz-sz=k*sz by omega,flatten_takeB k (fun x hx=>hr x (by simp[hx])) (by simpa using h)]
theorem getRows {sz:Nat}{rows:List (List V)}(hr:∀r∈rows,r.length=sz){k m:Nat}(h:k+m≤rows.length):getN (k*sz) (m*sz) rows.flatten=some ((rows.drop k).take m).flatten:=by
 have fl:=flatten_len hr
 have:k*sz+m*sz≤rows.length*sz:=by rw[←Nat.add_mul];exact Nat.mul_le_mul_right _ h
 refine getN_eq.2 ⟨?_,by omega⟩
 rw[flatten_drop k hr,flatten_takeB m (fun x hx=>hr x (List.mem_of_mem_drop hx)) (by rw[List.length_drop];omega)]
theorem putRows {sz:Nat}{rows M:List (List V)}(h0:0<sz)(hr:∀r∈rows,r.length=sz)(hm:∀r∈M,r.length=sz)(hn:M≠[]){k:Nat}(h:k+M.length≤rows.length):putN (k*sz) M.flatten rows.flatten=some (rows.take k++M++rows.drop (k+M.length)).flatten:=by
 have fl:=flatten_len hr
 have fm:=flatten_len hm
 have hp:0<M.length:=List.length_pos_iff.2 hn
 have:k*sz+M.length*sz≤rows.length*sz:=by rw[←Nat.add_mul];exact Nat.mul_le_mul_right _ h
 have hpz:0<M.length*sz:=Nat.mul_pos hp h0
 refine(putN_eq (by intro e;rw[e] at fm;simp at fm;omega)).2 ⟨?_,by omega⟩
 rw[fm,←Nat.add_mul,flatten_drop _ hr,flatten_takeB k hr (by omega),List.flatten_append,List.flatten_append]
theorem e_cpyR {α:Type}{enc:α→List V}{sz:Nat}(h0:0<sz)(hz:∀a,(enc a).length=sz)(ho:∀l:List α,allOne (l.map enc).flatten=true){h:H}{b i m k:Nat}{c:Cap}{y:V}{L M:List α}(hb:h.get b=some (.cells .rw (L.map enc).flatten))
  (ly:lenV y=some k) (ey:elems h sz y=some (M.map enc).flatten) (hk:M.length=k) (k1:1≤k) (m1:1≤m) (le:i+m≤L.length):
  e_cpy h sz (.sl b (i*sz) m c) y=some (.int .i64 ((min m k:Nat):Int),h.set b (.cells .rw ((L.take i++M.take (min m k)++L.drop (i+min m k)).map enc).flatten)):=by
 have hr:∀(l:List α),∀r∈l.map enc,r.length=sz:=fun l r hr=>by obtain⟨x,_,rfl⟩:=List.mem_map.1 hr;exact hz x
 obtain⟨j,hj⟩:∃j,min m k=j:=⟨_,rfl⟩
 have lt:takeN (j*sz) (M.map enc).flatten=some ((M.take j).map enc).flatten:=by
  have:=getRows (hr M) (k:=0) (m:=j) (by rw[List.length_map];omega)
  rw[Nat.zero_mul,List.drop_zero,←List.map_take] at this
  exact this
 have lM:(M.take j).length=j:=by rw[List.length_take];omega
 have pt:=putRows h0 (hr L) (hr (M.take j)) (by intro e;have:=congrArg List.length e;simp only[List.length_map,lM,List.length_nil] at this;omega) (k:=i) (by rw[List.length_map,List.length_map,lM];omega)
 rw[List.length_map,lM,←List.map_take,←List.map_drop,←List.map_append,←List.map_append] at pt
 have ho':=ho (M.take j)
 have hp:h.put b (i*sz) ((M.take j).map enc).flatten=some (h.set b (.cells .rw ((L.take i++M.take j++L.drop (i+j)).map enc).flatten)):=by
  have fl:=flatten_len (hr (M.take j))
  have:0<j*sz:=Nat.mul_pos (by omega) h0
  cases hm:((M.take j).map enc).flatten with
  |nil=>rw[hm,List.length_map,lM] at fl;simp at fl;omega
  |cons a l=>rw[hm] at ho' pt;exact H.put_rw ho' hb pt
 rw[hj]
 by_cases hkm:k≤m
 ·have e1:Nat.ble k m=true:=by simpa using hkm
  obtain rfl:j=k:=by omega
  simp only[e_cpy,lenV_sl,ly,ey,e1,cpyTo,lt,hp];rfl
 ·have e1:Nat.ble k m=false:=by rw[Bool.eq_false_iff];simpa using hkm
  obtain rfl:j=m:=by omega
  simp only[e_cpy,lenV_sl,ly,ey,e1,cpyTo,lt,hp];rfl
theorem repN_flat (z:List V):∀n,repN n z=(List.replicate n z).flatten
 |0=>rfl
 |n+1=>by rw[repN,appN_eq,repN_flat z n,List.replicate_succ,List.flatten_cons]
theorem getRow {α:Type}{enc:α→List V}{sz:Nat}(hz:∀a,(enc a).length=sz){l:List α}{k:Nat}(hk:k<l.length):getN (k*sz) sz (l.map enc).flatten=some (enc l[k]):=by
 have hr:∀r∈l.map enc,r.length=sz:=fun r hr=>by obtain⟨x,_,rfl⟩:=List.mem_map.1 hr;exact hz x
 have:=getRows hr (k:=k) (m:=1) (by rw[List.length_map];omega)
 rw[Nat.one_mul,List.drop_eq_getElem_cons (by rw[List.length_map];omega),List.take_succ_cons,List.take_zero] at this
 rw[this,List.getElem_map,List.flatten_cons,List.flatten_nil,List.append_nil]
theorem putRow {α:Type}{enc:α→List V}{sz:Nat}(hz:∀a,(enc a).length=sz)(h0:0<sz){l:List α}{k:Nat}(hk:k<l.length)(a:α):putN (k*sz) (enc a) (l.map enc).flatten=some ((l.set k a).map enc).flatten:=by
 have hr:∀(l:List α),∀r∈l.map enc,r.length=sz:=fun l r hr=>by obtain⟨x,_,rfl⟩:=List.mem_map.1 hr;exact hz x
 have:=putRows h0 (hr l) (hr [a]) (by simp) (k:=k) (by rw[List.length_map];simp;omega)
 rw[List.map_cons,List.map_nil,List.flatten_cons,List.flatten_nil,List.append_nil] at this
 rw[this,List.set_eq_take_append_cons_drop,if_pos hk]
 simp[List.map_take,List.map_drop]
theorem nthRow {l r:List V}{o n:Nat}(h:getN o n l=some r){j:Nat}(hj:j<n):nth (o+j) l=r[j]? :=by
 obtain⟨e,le⟩:=getN_eq.1 h
 rw[nth_get,e,List.getElem?_take,if_pos hj,List.getElem?_drop]
theorem putCell {α:Type}{enc:α→List V}{sz:Nat}(hz:∀a,(enc a).length=sz){l:List α}{i:Nat}(hi:i<l.length){j:Nat}(hj:j<sz){v:V}{a:α}(he:(enc l[i]).set j v=enc a):putN (i*sz+j) [v] (l.map enc).flatten=some ((l.set i a).map enc).flatten:=by
 have hr:∀(l:List α),∀r∈l.map enc,r.length=sz:=fun l r hr=>by obtain⟨x,_,rfl⟩:=List.mem_map.1 hr;exact hz x
 have fl:(l.map enc).flatten.length=l.length*sz:=by rw[flatten_len (hr l),List.length_map]
 have hle:i*sz+sz≤l.length*sz:=by rw[←Nat.succ_mul];exact Nat.mul_le_mul_right _ hi
 rw[putN_one (by omega)]
 have e:l=l.take i++l[i]::l.drop (i+1):=by rw[List.getElem_cons_drop,List.take_append_drop]
 have e2:l.set i a=l.take i++a::l.drop (i+1):=by rw[List.set_eq_take_append_cons_drop,if_pos hi]
 have hl:((l.take i).map enc).flatten.length=i*sz:=by rw[flatten_len (hr _),List.length_map,List.length_take,Nat.min_eq_left (by omega)]
 have f1:=congrArg (fun t=>(t.map enc).flatten) e
 have f2:=congrArg (fun t=>(t.map enc).flatten) e2
 simp only[List.map_append,List.map_cons,List.flatten_append,List.flatten_cons] at f1 f2
 rw[f2,f1,List.set_append_right _ _ (by omega),hl,Nat.add_sub_cancel_left,List.set_append_left _ _ (by rw[hz];exact hj),he]
theorem rLoop {r0:LoopR}(h1:r0.st=.ready)(h2:r0.pend=none):({({r0 with st:=.busy}:LoopR) with st:=.ready,pend:=none}:LoopR)=r0:=by cases r0;simp_all
end Go.Ab
namespace Go.Ab.Tryz
theorem fidxFPart_ev {α:Type}{enc:α→List V}{l:List α}{p:α→Bool}{h:H}{x f:V}(hw:h.wf)(hx:SlAt h x 4 (l.map enc))(hp:∀a∈l,PureA h f [.agg (enc a)] (.bool (p a))):
  Ev fnG fastA (.fn 86 [] []) [x,f] h fun v h'=>v=.int .i64 (fidx p l 0)∧h.Sub h':=by
 have hb:=hx.boundE
 refine Ev_body (fd:=c86) rfl rfl rfl ?_
 simp -implicitDefEqProofs(maxSteps:=999999)(disch:=first|with_reducible rfl|omega|(simp only[nA,nS,nD]<;>omega)|fail)only[c86,go_sem,hx.lenE]
 refine W_count l.length (fun i s=>∃tm h',s=⟨tm,h',[]⟩∧h.Sub h'∧(Opd.t 0).ev tm=x∧(Opd.t 1).ev tm=f∧(Opd.t 7).ev tm=.int .i64 (l.length:Int)∧(Opd.t 8).ev tm=.int .i64 (i:Int)∧fidx p l 0=fidx p (l.drop i) i)
  ?_ ?_ (i:=0) (Nat.zero_le _) ⟨_,_,rfl,H.Sub.refl hw,(by simp[ev_c,ev_put]<;>rfl),(by simp[ev_c,ev_put]<;>rfl),(by simp[ev_c,ev_put]<;>rfl),(by simp only[ev_put];rfl),rfl⟩
 ·rintro i s hi ⟨tm,h',rfl,hs,e0,e1,e7,e8,e9⟩
  have hi':(i:Int)<(l.length:Int):=by omega
  obtain⟨b,o,c,cs,rfl,hc,hq,hg,hn,hn0⟩:=(hx.mono hs).at hi
  simp -implicitDefEqProofs(maxSteps:=999999)(disch:=first|with_reducible rfl|omega|(simp only[nA,nS,nD]<;>omega)|fail)only[go_sem,e0,e1,e7,e8,hi',hq (nat_cst i),hc,hg]
  refine(hp _ (List.getElem_mem hi)).use hs fun h2 hs2=>?_
  cases hpr:p l[i] with
  |true=>
   simp -implicitDefEqProofs(maxSteps:=999999)(disch:=first|with_reducible rfl|omega|(simp only[nA,nS,nD]<;>omega)|fail)only[go_sem,e0,e1,e7,e8]
   exact⟨by rw[e9,fidx_hit hi hpr],hs.trans hs2⟩
  |false=>
   simp -implicitDefEqProofs(maxSteps:=999999)(disch:=first|with_reducible rfl|omega|(simp only[nA,nS,nD]<;>omega)|fail)only[go_sem,e0,e1,e7,e8,wr_succ]
   exact⟨_,_,rfl,hs.trans hs2,(by simp[ev_c,ev_put,e0]<;>rfl),(by simp[ev_c,ev_put,e1]<;>rfl),(by simp[ev_c,ev_put,e7]<;>rfl),(by simp[ev_c,ev_put]<;>rfl),by rw[e9,fidx_miss hi hpr]⟩
 ·rintro s ⟨tm,h',rfl,hs,e0,e1,e7,e8,e9⟩
  simp -implicitDefEqProofs(maxSteps:=999999)(disch:=first|with_reducible rfl|omega|(simp only[nA,nS,nD]<;>omega)|fail)only[go_sem,e0,e1,e7,e8,Int.lt_irrefl]
  exact⟨by rw[e9];simp[fidx],hs⟩
theorem fhasFPart_ev {α:Type}{enc:α→List V}{l:List α}{p:α→Bool}{h:H}{x f:V}(hw:h.wf)(hx:SlAt h x 4 (l.map enc))(hp:∀a∈l,PureA h f [.agg (enc a)] (.bool (p a))):
  Ev fnG fastA (.fn 66 [] []) [x,f] h fun v h'=>v=.bool (l.any p)∧h.Sub h':=by
 refine Ev_body (fd:=c66) rfl rfl rfl ?_
 simp -implicitDefEqProofs(maxSteps:=999999)(disch:=first|with_reducible rfl|omega|(simp only[nA,nS,nD]<;>omega)|fail)only[c66,go_sem]
 refine(fidxFPart_ev hw hx hp).mono fun v h' hv=>?_
 obtain⟨rfl,hs⟩:=hv
 simp -implicitDefEqProofs(maxSteps:=999999)(disch:=first|with_reducible rfl|omega|(simp only[nA,nS,nD]<;>omega)|fail)only[go_sem]
 exact⟨by rw[fidx_any],hs⟩
theorem feveryPart_ev {α:Type}{enc:α→List V}{l:List α}{p:α→Bool}{h:H}{x:V}{g:FuncId}{u w:List V}(hw:h.wf)(hx:SlAt h x 4 (l.map enc))(hp:∀a∈l,PureA h (.fn g u w) [.agg (enc a)] (.bool (p a))):
  Ev fnG fastA (.fn 34 [] []) [x,.fn g u w] h fun v h'=>v=.bool (l.all p)∧h.Sub h':=by
 refine Ev_body (fd:=c34) rfl rfl rfl ?_
 simp -implicitDefEqProofs(maxSteps:=999999)(disch:=first|with_reducible rfl|omega|(simp only[nA,nS,nD]<;>omega)|fail)only[c34,go_sem]
 have hs1:h.Sub (h.add (.cells .rw [.fn g u w])):=(H.Sub.refl hw).add _
 refine(fhasFPart_ev (p:=fun a=> !p a) hs1.wf (hx.mono hs1) fun a ha h2 hs2=>?_).mono fun v h' hv=>?_
 ·have hc:h2.cells h.next=some [.fn g u w]:=hs2.cells (cells_add_new rfl)
  have hl:h.next<h2.next:=by have:=hs2.next;rw[H.next_add] at this;omega
  refine Ev_body (fd:=c67) rfl rfl rfl ?_
  simp -implicitDefEqProofs(maxSteps:=999999)(disch:=first|with_reducible rfl|omega|(simp only[nA,nS,nD]<;>omega)|fail)only[c67,go_sem,hc,getN_full (hx.1 _ (List.mem_map_of_mem ha))]
  refine((hp a ha).mono hs1).use (hs2.add _) fun h3 hs3=>?_
  simp -implicitDefEqProofs(maxSteps:=999999)(disch:=first|with_reducible rfl|omega|(simp only[nA,nS,nD]<;>omega)|fail)only[go_sem]
  exact(H.Sub.refl hs2.wf).add _ |>.trans hs3
 ·obtain⟨rfl,hs⟩:=hv
  simp -implicitDefEqProofs(maxSteps:=999999)(disch:=first|with_reducible rfl|omega|(simp only[nA,nS,nD]<;>omega)|fail)only[go_sem]
  exact⟨by rw[any_not],hs1.trans hs⟩
theorem fidxFSight_ev {α:Type}{enc:α→List V}{l:List α}{p:α→Bool}{h:H}{x f:V}(hw:h.wf)(hx:SlAt h x 4 (l.map enc))(hp:∀a∈l,PureA h f [.agg (enc a)] (.bool (p a))):
  Ev fnG fastA (.fn 88 [] []) [x,f] h fun v h'=>v=.int .i64 (fidx p l 0)∧h.Sub h':=by
 have hb:=hx.boundE
 refine Ev_body (fd:=c88) rfl rfl rfl ?_
 simp -implicitDefEqProofs(maxSteps:=999999)(disch:=first|with_reducible rfl|omega|(simp only[nA,nS,nD]<;>omega)|fail)only[c88,go_sem,hx.lenE]
 refine W_count l.length (fun i s=>∃tm h',s=⟨tm,h',[]⟩∧h.Sub h'∧(Opd.t 0).ev tm=x∧(Opd.t 1).ev tm=f∧(Opd.t 7).ev tm=.int .i64 (l.length:Int)∧(Opd.t 8).ev tm=.int .i64 (i:Int)∧fidx p l 0=fidx p (l.drop i) i)
  ?_ ?_ (i:=0) (Nat.zero_le _) ⟨_,_,rfl,H.Sub.refl hw,(by simp[ev_c,ev_put]<;>rfl),(by simp[ev_c,ev_put]<;>rfl),(by simp[ev_c,ev_put]<;>rfl),(by simp only[ev_put];rfl),rfl⟩
 ·rintro i s hi ⟨tm,h',rfl,hs,e0,e1,e7,e8,e9⟩
  have hi':(i:Int)<(l.length:Int):=by omega
  obtain⟨b,o,c,cs,rfl,hc,hq,hg,hn,hn0⟩:=(hx.mono hs).at hi
  simp -implicitDefEqProofs(maxSteps:=999999)(disch:=first|with_reducible rfl|omega|(simp only[nA,nS,nD]<;>omega)|fail)only[go_sem,e0,e1,e7,e8,hi',hq (nat_cst i),hc,hg]
  refine(hp _ (List.getElem_mem hi)).use hs fun h2 hs2=>?_
  cases hpr:p l[i] with
  |true=>
   simp -implicitDefEqProofs(maxSteps:=999999)(disch:=first|with_reducible rfl|omega|(simp only[nA,nS,nD]<;>omega)|fail)only[go_sem,e0,e1,e7,e8]
   exact⟨by rw[e9,fidx_hit hi hpr],hs.trans hs2⟩
  |false=>
   simp -implicitDefEqProofs(maxSteps:=999999)(disch:=first|with_reducible rfl|omega|(simp only[nA,nS,nD]<;>omega)|fail)only[go_sem,e0,e1,e7,e8,wr_succ]
   exact⟨_,_,rfl,hs.trans hs2,(by simp[ev_c,ev_put,e0]<;>rfl),(by simp[ev_c,ev_put,e1]<;>rfl),(by simp[ev_c,ev_put,e7]<;>rfl),(by simp[ev_c,ev_put]<;>rfl),by rw[e9,fidx_miss hi hpr]⟩
 ·rintro s ⟨tm,h',rfl,hs,e0,e1,e7,e8,e9⟩
  simp -implicitDefEqProofs(maxSteps:=999999)(disch:=first|with_reducible rfl|omega|(simp only[nA,nS,nD]<;>omega)|fail)only[go_sem,e0,e1,e7,e8,Int.lt_irrefl]
  exact⟨by rw[e9];simp[fidx],hs⟩
theorem fhasFSight_ev {α:Type}{enc:α→List V}{l:List α}{p:α→Bool}{h:H}{x f:V}(hw:h.wf)(hx:SlAt h x 4 (l.map enc))(hp:∀a∈l,PureA h f [.agg (enc a)] (.bool (p a))):
  Ev fnG fastA (.fn 70 [] []) [x,f] h fun v h'=>v=.bool (l.any p)∧h.Sub h':=by
 refine Ev_body (fd:=c70) rfl rfl rfl ?_
 simp -implicitDefEqProofs(maxSteps:=999999)(disch:=first|with_reducible rfl|omega|(simp only[nA,nS,nD]<;>omega)|fail)only[c70,go_sem]
 refine(fidxFSight_ev hw hx hp).mono fun v h' hv=>?_
 obtain⟨rfl,hs⟩:=hv
 simp -implicitDefEqProofs(maxSteps:=999999)(disch:=first|with_reducible rfl|omega|(simp only[nA,nS,nD]<;>omega)|fail)only[go_sem]
 exact⟨by rw[fidx_any],hs⟩
theorem feverySight_ev {α:Type}{enc:α→List V}{l:List α}{p:α→Bool}{h:H}{x:V}{g:FuncId}{u w:List V}(hw:h.wf)(hx:SlAt h x 4 (l.map enc))(hp:∀a∈l,PureA h (.fn g u w) [.agg (enc a)] (.bool (p a))):
  Ev fnG fastA (.fn 39 [] []) [x,.fn g u w] h fun v h'=>v=.bool (l.all p)∧h.Sub h':=by
 refine Ev_body (fd:=c39) rfl rfl rfl ?_
 simp -implicitDefEqProofs(maxSteps:=999999)(disch:=first|with_reducible rfl|omega|(simp only[nA,nS,nD]<;>omega)|fail)only[c39,go_sem]
 have hs1:h.Sub (h.add (.cells .rw [.fn g u w])):=(H.Sub.refl hw).add _
 refine(fhasFSight_ev (p:=fun a=> !p a) hs1.wf (hx.mono hs1) fun a ha h2 hs2=>?_).mono fun v h' hv=>?_
 ·have hc:h2.cells h.next=some [.fn g u w]:=hs2.cells (cells_add_new rfl)
  have hl:h.next<h2.next:=by have:=hs2.next;rw[H.next_add] at this;omega
  refine Ev_body (fd:=c71) rfl rfl rfl ?_
  simp -implicitDefEqProofs(maxSteps:=999999)(disch:=first|with_reducible rfl|omega|(simp only[nA,nS,nD]<;>omega)|fail)only[c71,go_sem,hc,getN_full (hx.1 _ (List.mem_map_of_mem ha))]
  refine((hp a ha).mono hs1).use (hs2.add _) fun h3 hs3=>?_
  simp -implicitDefEqProofs(maxSteps:=999999)(disch:=first|with_reducible rfl|omega|(simp only[nA,nS,nD]<;>omega)|fail)only[go_sem]
  exact(H.Sub.refl hs2.wf).add _ |>.trans hs3
 ·obtain⟨rfl,hs⟩:=hv
  simp -implicitDefEqProofs(maxSteps:=999999)(disch:=first|with_reducible rfl|omega|(simp only[nA,nS,nD]<;>omega)|fail)only[go_sem]
  exact⟨by rw[any_not],hs1.trans hs⟩
theorem fidxFSpot_ev {α:Type}{enc:α→List V}{l:List α}{p:α→Bool}{h:H}{x f:V}(hw:h.wf)(hx:SlAt h x 2 (l.map enc))(hp:∀a∈l,PureA h f [.agg (enc a)] (.bool (p a))):
  Ev fnG fastA (.fn 103 [] []) [x,f] h fun v h'=>v=.int .i64 (fidx p l 0)∧h.Sub h':=by
 have hb:=hx.boundE
 refine Ev_body (fd:=c103) rfl rfl rfl ?_
 simp -implicitDefEqProofs(maxSteps:=999999)(disch:=first|with_reducible rfl|omega|(simp only[nA,nS,nD]<;>omega)|fail)only[c103,go_sem,hx.lenE]
 refine W_count l.length (fun i s=>∃tm h',s=⟨tm,h',[]⟩∧h.Sub h'∧(Opd.t 0).ev tm=x∧(Opd.t 1).ev tm=f∧(Opd.t 7).ev tm=.int .i64 (l.length:Int)∧(Opd.t 8).ev tm=.int .i64 (i:Int)∧fidx p l 0=fidx p (l.drop i) i)
  ?_ ?_ (i:=0) (Nat.zero_le _) ⟨_,_,rfl,H.Sub.refl hw,(by simp[ev_c,ev_put]<;>rfl),(by simp[ev_c,ev_put]<;>rfl),(by simp[ev_c,ev_put]<;>rfl),(by simp only[ev_put];rfl),rfl⟩
 ·rintro i s hi ⟨tm,h',rfl,hs,e0,e1,e7,e8,e9⟩
  have hi':(i:Int)<(l.length:Int):=by omega
  obtain⟨b,o,c,cs,rfl,hc,hq,hg,hn,hn0⟩:=(hx.mono hs).at hi
  simp -implicitDefEqProofs(maxSteps:=999999)(disch:=first|with_reducible rfl|omega|(simp only[nA,nS,nD]<;>omega)|fail)only[go_sem,e0,e1,e7,e8,hi',hq (nat_cst i),hc,hg]
  refine(hp _ (List.getElem_mem hi)).use hs fun h2 hs2=>?_
  cases hpr:p l[i] with
  |true=>
   simp -implicitDefEqProofs(maxSteps:=999999)(disch:=first|with_reducible rfl|omega|(simp only[nA,nS,nD]<;>omega)|fail)only[go_sem,e0,e1,e7,e8]
   exact⟨by rw[e9,fidx_hit hi hpr],hs.trans hs2⟩
  |false=>
   simp -implicitDefEqProofs(maxSteps:=999999)(disch:=first|with_reducible rfl|omega|(simp only[nA,nS,nD]<;>omega)|fail)only[go_sem,e0,e1,e7,e8,wr_succ]
   exact⟨_,_,rfl,hs.trans hs2,(by simp[ev_c,ev_put,e0]<;>rfl),(by simp[ev_c,ev_put,e1]<;>rfl),(by simp[ev_c,ev_put,e7]<;>rfl),(by simp[ev_c,ev_put]<;>rfl),by rw[e9,fidx_miss hi hpr]⟩
 ·rintro s ⟨tm,h',rfl,hs,e0,e1,e7,e8,e9⟩
  simp -implicitDefEqProofs(maxSteps:=999999)(disch:=first|with_reducible rfl|omega|(simp only[nA,nS,nD]<;>omega)|fail)only[go_sem,e0,e1,e7,e8,Int.lt_irrefl]
  exact⟨by rw[e9];simp[fidx],hs⟩
theorem fhasFSpot_ev {α:Type}{enc:α→List V}{l:List α}{p:α→Bool}{h:H}{x f:V}(hw:h.wf)(hx:SlAt h x 2 (l.map enc))(hp:∀a∈l,PureA h f [.agg (enc a)] (.bool (p a))):
  Ev fnG fastA (.fn 100 [] []) [x,f] h fun v h'=>v=.bool (l.any p)∧h.Sub h':=by
 refine Ev_body (fd:=c100) rfl rfl rfl ?_
 simp -implicitDefEqProofs(maxSteps:=999999)(disch:=first|with_reducible rfl|omega|(simp only[nA,nS,nD]<;>omega)|fail)only[c100,go_sem]
 refine(fidxFSpot_ev hw hx hp).mono fun v h' hv=>?_
 obtain⟨rfl,hs⟩:=hv
 simp -implicitDefEqProofs(maxSteps:=999999)(disch:=first|with_reducible rfl|omega|(simp only[nA,nS,nD]<;>omega)|fail)only[go_sem]
 exact⟨by rw[fidx_any],hs⟩
theorem fidxFInt_ev {l:List Int}{p:Int→Bool}{h:H}{x f:V}(hw:h.wf)(hx:SlAt h x 1 (l.map encI))(hp:∀a∈l,PureA h f [.int .i64 a] (.bool (p a))):
  Ev fnG fastA (.fn 87 [] []) [x,f] h fun v h'=>v=.int .i64 (fidx p l 0)∧h.Sub h':=by
 have hb:=hx.boundE
 refine Ev_body (fd:=c87) rfl rfl rfl ?_
 simp -implicitDefEqProofs(maxSteps:=999999)(disch:=first|with_reducible rfl|omega|(simp only[nA,nS,nD]<;>omega)|fail)only[c87,go_sem,hx.lenE]
 refine W_count l.length (fun i s=>∃tm h',s=⟨tm,h',[]⟩∧h.Sub h'∧(Opd.t 0).ev tm=x∧(Opd.t 1).ev tm=f∧(Opd.t 7).ev tm=.int .i64 (l.length:Int)∧(Opd.t 8).ev tm=.int .i64 (i:Int)∧fidx p l 0=fidx p (l.drop i) i)
  ?_ ?_ (i:=0) (Nat.zero_le _) ⟨_,_,rfl,H.Sub.refl hw,(by simp[ev_c,ev_put]<;>rfl),(by simp[ev_c,ev_put]<;>rfl),(by simp[ev_c,ev_put]<;>rfl),(by simp only[ev_put];rfl),rfl⟩
 ·rintro i s hi ⟨tm,h',rfl,hs,e0,e1,e7,e8,e9⟩
  have hi':(i:Int)<(l.length:Int):=by omega
  obtain⟨b,o,c,cs,rfl,hc,hq,hg,hn,hn0⟩:=(hx.mono hs).at hi
  simp -implicitDefEqProofs(maxSteps:=999999)(disch:=first|with_reducible rfl|omega|(simp only[nA,nS,nD]<;>omega)|fail)only[go_sem,e0,e1,e7,e8,hi',hq (nat_cst i),hc,(show nth (o+i*1) cs=some (.int .i64 l[i]) from hn0 (by omega))]
  refine(hp _ (List.getElem_mem hi)).use hs fun h2 hs2=>?_
  cases hpr:p l[i] with
  |true=>
   simp -implicitDefEqProofs(maxSteps:=999999)(disch:=first|with_reducible rfl|omega|(simp only[nA,nS,nD]<;>omega)|fail)only[go_sem,e0,e1,e7,e8]
   exact⟨by rw[e9,fidx_hit hi hpr],hs.trans hs2⟩
  |false=>
   simp -implicitDefEqProofs(maxSteps:=999999)(disch:=first|with_reducible rfl|omega|(simp only[nA,nS,nD]<;>omega)|fail)only[go_sem,e0,e1,e7,e8,wr_succ]
   exact⟨_,_,rfl,hs.trans hs2,(by simp[ev_c,ev_put,e0]<;>rfl),(by simp[ev_c,ev_put,e1]<;>rfl),(by simp[ev_c,ev_put,e7]<;>rfl),(by simp[ev_c,ev_put]<;>rfl),by rw[e9,fidx_miss hi hpr]⟩
 ·rintro s ⟨tm,h',rfl,hs,e0,e1,e7,e8,e9⟩
  simp -implicitDefEqProofs(maxSteps:=999999)(disch:=first|with_reducible rfl|omega|(simp only[nA,nS,nD]<;>omega)|fail)only[go_sem,e0,e1,e7,e8,Int.lt_irrefl]
  exact⟨by rw[e9];simp[fidx],hs⟩
theorem fhasFInt_ev {l:List Int}{p:Int→Bool}{h:H}{x f:V}(hw:h.wf)(hx:SlAt h x 1 (l.map encI))(hp:∀a∈l,PureA h f [.int .i64 a] (.bool (p a))):
  Ev fnG fastA (.fn 68 [] []) [x,f] h fun v h'=>v=.bool (l.any p)∧h.Sub h':=by
 refine Ev_body (fd:=c68) rfl rfl rfl ?_
 simp -implicitDefEqProofs(maxSteps:=999999)(disch:=first|with_reducible rfl|omega|(simp only[nA,nS,nD]<;>omega)|fail)only[c68,go_sem]
 refine(fidxFInt_ev hw hx hp).mono fun v h' hv=>?_
 obtain⟨rfl,hs⟩:=hv
 simp -implicitDefEqProofs(maxSteps:=999999)(disch:=first|with_reducible rfl|omega|(simp only[nA,nS,nD]<;>omega)|fail)only[go_sem]
 exact⟨by rw[fidx_any],hs⟩
theorem feveryInt_ev {l:List Int}{p:Int→Bool}{h:H}{x:V}{g:FuncId}{u w:List V}(hw:h.wf)(hx:SlAt h x 1 (l.map encI))(hp:∀a∈l,PureA h (.fn g u w) [.int .i64 a] (.bool (p a))):
  Ev fnG fastA (.fn 38 [] []) [x,.fn g u w] h fun v h'=>v=.bool (l.all p)∧h.Sub h':=by
 refine Ev_body (fd:=c38) rfl rfl rfl ?_
 simp -implicitDefEqProofs(maxSteps:=999999)(disch:=first|with_reducible rfl|omega|(simp only[nA,nS,nD]<;>omega)|fail)only[c38,go_sem]
 have hs1:h.Sub (h.add (.cells .rw [.fn g u w])):=(H.Sub.refl hw).add _
 refine(fhasFInt_ev (p:=fun a=> !p a) hs1.wf (hx.mono hs1) fun a ha h2 hs2=>?_).mono fun v h' hv=>?_
 ·have hc:h2.cells h.next=some [.fn g u w]:=hs2.cells (cells_add_new rfl)
  have hl:h.next<h2.next:=by have:=hs2.next;rw[H.next_add] at this;omega
  refine Ev_body (fd:=c69) rfl rfl rfl ?_
  simp -implicitDefEqProofs(maxSteps:=999999)(disch:=first|with_reducible rfl|omega|(simp only[nA,nS,nD]<;>omega)|fail)only[c69,go_sem,hc]
  refine((hp a ha).mono hs1).use hs2 fun h3 hs3=>?_
  simp -implicitDefEqProofs(maxSteps:=999999)(disch:=first|with_reducible rfl|omega|(simp only[nA,nS,nD]<;>omega)|fail)only[go_sem]
  exact hs3
 ·obtain⟨rfl,hs⟩:=hv
  simp -implicitDefEqProofs(maxSteps:=999999)(disch:=first|with_reducible rfl|omega|(simp only[nA,nS,nD]<;>omega)|fail)only[go_sem]
  exact⟨by rw[any_not],hs1.trans hs⟩
theorem fisNaN_eq (a:Int)(h:H)(R:V→H→Prop):Ev fnG fastA (.fn 97 [] []) [.int .i64 a] h R=R (.bool false) h:=by
 refine Ev.det (Ev_body (fd:=c97) rfl rfl rfl ?_) R
 simp -implicitDefEqProofs(maxSteps:=999999)(disch:=first|with_reducible rfl|omega|(simp only[nA,nS,nD]<;>omega)|fail)only[c97,go_sem,ne_eq,not_true_eq_false,not_false_eq_true]
theorem fless_eq (a b:Int)(h:H)(Q:V→H→Prop):Ev fnG fastA (.fn 89 [] []) [.int .i64 a,.int .i64 b] h Q=Q (.bool (decide (a<b))) h:=by
 refine Ev.det (Ev_body (fd:=c89) rfl rfl rfl ?_) Q
 simp -implicitDefEqProofs(maxSteps:=999999)(disch:=first|with_reducible rfl|omega|(simp only[nA,nS,nD]<;>omega)|fail)only[c89,go_sem,fisNaN_eq]
theorem fupAt {l:List Int}(up:l.Pairwise (· < ·)){i:Nat}(hi:i+1<l.length):l[i]<l[i+1]:=List.pairwise_iff_getElem.1 up i (i+1) (by omega) hi (by omega)
theorem fsortedUp_ev {h:H}{x:V}{l:List Int}(hx:SlAt h x 1 (l.map encI))(up:l.Pairwise (· < ·))(hl:l.length≤100)(Q:V→H→Prop)(q:Q (.bool true) h):Ev fnG fastA (.fn 72 [] []) [x] h Q:=by
 have hlx:=hx.lenE
 have ww:wr .i64 ((l.length:Int)-1)=(l.length:Int)-1:=wr_in (by omega) (by omega)
 refine Ev_body (fd:=c72) rfl rfl rfl ?_
 simp -implicitDefEqProofs(maxSteps:=999999)(disch:=first|with_reducible rfl|omega|(simp only[nA,nS,nD]<;>omega)|fail)only[c72,go_sem,hlx,ww]
 refine W_count (l.length-1) (fun j s=>∃tm,s=⟨tm,h,[]⟩∧(Opd.t 0).ev tm=x∧(Opd.t 3).ev tm=.int .i64 ((l.length:Int)-1-(j:Int))) ?_ ?_ (i:=0) (Nat.zero_le _) ⟨_,rfl,(by simp[ev_c,ev_put]<;>rfl),by simp only[ev_put, ↓reduceIte];simp⟩
 ·rintro j s hj ⟨tm,rfl,t0,t3⟩
  obtain⟨i,hi⟩:∃i:Nat,(l.length:Int)-1-(j:Int)=((i+1:Nat):Int):=⟨l.length-2-j,by omega⟩
  rw[hi] at t3
  have h0:(0:Int)<((i+1:Nat):Int):=by omega
  obtain⟨b1,o1,c1,cs1,_,hc1,hq1,_,_,hn1⟩:=hx.at (k:=i+1) (by omega)
  obtain⟨b0,o0,c0,cs0,_,hc0,hq0,_,_,hn0⟩:=hx.at (k:=i) (by omega)
  have v1:nth (o1+(i+1)*1) cs1=some (.int .i64 l[i+1]):=hn1 (by omega)
  have v0:nth (o0+i*1) cs0=some (.int .i64 l[i]):=hn0 (by omega)
  have w1:wr .i64 (((i+1:Nat):Int)-1)=(i:Int):=by rw[wr_in (by omega) (by omega)];omega
  have lt:=fupAt up (i:=i) (by omega)
  have nl:decide (l[i+1]<l[i])=false:=decide_eq_false (by omega)
  simp -implicitDefEqProofs(maxSteps:=999999)(disch:=first|with_reducible rfl|omega|(simp only[nA,nS,nD]<;>omega)|fail)only[go_sem,t0,t3,h0,hq1 (nat_cst (i+1)),hc1,v1,hq0 (nat_cst i),hc0,v0,w1,fless_eq,nl]
  exact⟨_,rfl,(by simp[ev_c,ev_put,t0]<;>rfl),by rw[show(l.length:Int)-1-((j+1:Nat):Int)=(i:Int) by omega];exact(by simp[ev_c,ev_put]<;>rfl)⟩
 ·rintro s ⟨tm,rfl,t0,t3⟩
  have n0:¬(0:Int)<(l.length:Int)-1-((l.length-1:Nat):Int):=by omega
  simp -implicitDefEqProofs(maxSteps:=999999)(disch:=first|with_reducible rfl|omega|(simp only[nA,nS,nD]<;>omega)|fail)only[go_sem,t3,n0]
  exact q
theorem fcompactUp_ev {h:H}{x:V}{l:List Int}(hx:SlAt h x 1 (l.map encI))(up:l.Pairwise (· < ·))(hl:l.length≤100)(Q:V→H→Prop)(q:Q x h):Ev fnG fastA (.fn 73 [] []) [x] h Q:=by
 have hlx:=hx.lenE
 refine Ev_body (fd:=c73) rfl rfl rfl ?_
 by_cases h2:(l.length:Int)<2
 ·simp -implicitDefEqProofs(maxSteps:=999999)(disch:=first|with_reducible rfl|omega|(simp only[nA,nS,nD]<;>omega)|fail)only[c73,go_sem,hlx,h2]
  exact q
 ·simp -implicitDefEqProofs(maxSteps:=999999)(disch:=first|with_reducible rfl|omega|(simp only[nA,nS,nD]<;>omega)|fail)only[c73,go_sem,hlx,h2]
  refine W_count (l.length-1) (fun j s=>∃tm,s=⟨tm,h,[]⟩∧(Opd.t 0).ev tm=x∧(Opd.t 3).ev tm=.int .i64 ((j+1:Nat):Int)) ?_ ?_ (i:=0) (Nat.zero_le _) ⟨_,rfl,(by simp[ev_c,ev_put]<;>rfl),(by simp only[ev_put];rfl)⟩
  ·rintro j s hj ⟨tm,rfl,t0,t3⟩
   have hj':((j+1:Nat):Int)<(l.length:Int):=by omega
   obtain⟨b1,o1,c1,cs1,_,hc1,hq1,_,_,hn1⟩:=hx.at (k:=j+1) (by omega)
   obtain⟨b0,o0,c0,cs0,_,hc0,hq0,_,_,hn0⟩:=hx.at (k:=j) (by omega)
   have v1:nth (o1+(j+1)*1) cs1=some (.int .i64 l[j+1]):=hn1 (by omega)
   have v0:nth (o0+j*1) cs0=some (.int .i64 l[j]):=hn0 (by omega)
   have w1:wr .i64 (((j+1:Nat):Int)-1)=(j:Int):=by rw[wr_in (by omega) (by omega)];omega
   have lt:=fupAt up (i:=j) (by omega)
   have ne:¬l[j+1]=l[j]:=by omega
   simp -implicitDefEqProofs(maxSteps:=999999)(disch:=first|with_reducible rfl|omega|(simp only[nA,nS,nD]<;>omega)|fail)only[go_sem,t0,t3,hlx,hj',hq1 (nat_cst (j+1)),hc1,v1,hq0 (nat_cst j),hc0,v0,w1,ne,wr_succ]
   exact⟨_,rfl,(by simp[ev_c,ev_put,t0]<;>rfl),(by simp[ev_c,ev_put]<;>rfl)⟩
  ·rintro s ⟨tm,rfl,t0,t3⟩
   have n0:¬((l.length-1+1:Nat):Int)<(l.length:Int):=by omega
   simp -implicitDefEqProofs(maxSteps:=999999)(disch:=first|with_reducible rfl|omega|(simp only[nA,nS,nD]<;>omega)|fail)only[go_sem,t0,t3,hlx,n0]
   exact q
theorem fcloneInt_ev {h:H}{x:V}{rows:List (List V)}(hw:h.wf)(hx:SlAt h x 1 rows)(hl:rows.length≤1000000)(Q:V→H→Prop)(q:∀v h',OwnC h h' v 1 rows→Q v h'):Ev fnG fastA (.fn 18 [] []) [x] h Q:=by
 refine Ev_body (fd:=c18) rfl rfl rfl ?_
 rcases hx.2.2 with⟨rfl,e⟩|⟨b,o,c,cs,rfl,_⟩
 ·simp -implicitDefEqProofs(maxSteps:=999999)(disch:=first|with_reducible rfl|omega|(simp only[nA,nS,nD]<;>omega)|fail)only[c18,go_sem]
  exact q _ _ (by rw[e];exact(OwnSl.nil (H.Sub.refl hw) 1).c)
 ·simp -implicitDefEqProofs(maxSteps:=999999)(disch:=first|with_reducible rfl|omega|(simp only[nA,nS,nD]<;>omega)|fail)only[c18,go_sem]
  refine clone_core hw hx (by omega) (by omega) fun v h' ov=>?_
  simp -implicitDefEqProofs(maxSteps:=999999)(disch:=first|with_reducible rfl|omega|(simp only[nA,nS,nD]<;>omega)|fail)only[go_sem]
  exact q _ _ ov
theorem fin_ev (n lo hi:Int)(h:H)(Q:V→H→Prop):Ev fnG fastA (.fn 33 [] []) [.int .i64 n,.int .i64 lo,.int .i64 hi] h Q=Q (.bool (inB n lo hi)) h:=by
 refine Ev.det (Ev_body (fd:=c33) rfl rfl rfl ?_) Q
 by_cases c:lo≤n
 ·simp -implicitDefEqProofs(maxSteps:=999999)(disch:=first|with_reducible rfl|omega|(simp only[nA,nS,nD]<;>omega)|fail)only[c33,go_sem,c,inB]
 ·simp -implicitDefEqProofs(maxSteps:=999999)(disch:=first|with_reducible rfl|omega|(simp only[nA,nS,nD]<;>omega)|fail)only[c33,go_sem,c,inB,false_and]
end Go.Ab.Tryz
namespace Go.Ab.Tryz
structure St where
 r:Nat
 lo:Nat
 hi:Nat
def encSt (s:St):List V:=[.int .i64 (s.r:Int),.int .i64 (s.lo:Int),.int .i64 (s.hi:Int),.bool true]
def encPt (p:V × Bool):List V:=[p.1,.int .i64 1,.int .i64 0,.bool p.2]
abbrev lmV (n t:Nat) (P S:V):List V:=[.int .i64 (n:Int),.int .i64 (t:Int),P,S]
structure LmAt (h:H)(P S:V)(n t:Nat)(ps:List (V × Bool))(ss:List St):Prop where
 p:SlAt h P 4 (ps.map encPt)
 s:SlAt h S 4 (ss.map encSt)
 len:ps.length=n
 r:∀(i:Nat) (hi:i<ps.length),SlAt h ps[i].1 1 (([(i:Int)]:List Int).map encI)
structure LmOk (n t:Nat)(ss:List St):Prop where
 nb:1≤n∧n≤6
 tb:1≤t∧t≤12
 kb:ss.length≤10
 sb:∀s∈ss,s.r<n∧s.lo≤s.hi∧s.hi<t
theorem LmAt.mono {h h':H}{P S:V}{n t:Nat}{ps:List (V × Bool)}{ss:List St}(a:LmAt h P S n t ps ss)(s:h.Sub h'):LmAt h' P S n t ps ss:=⟨a.p.mono s,a.s.mono s,a.len,fun i hi=>(a.r i hi).mono s⟩
theorem LmAt.mem {h:H}{P S:V}{n t:Nat}{ps:List (V × Bool)}{ss:List St}(a:LmAt h P S n t ps ss){x:V × Bool}(hx:x∈ps):∃i:Nat,i<n∧SlAt h x.1 1 (([(i:Int)]:List Int).map encI):=by
 obtain⟨i,hi,rfl⟩:=List.mem_iff_getElem.1 hx
 exact⟨i,by rw[←a.len];exact hi,a.r i hi⟩
theorem ribbon_pure {h:H}{P S:V}(p1:P.one=true)(s1:S.one=true){n t:Nat}(hn:n≤6){u:Int}(hu:0≤u∧u<(n:Int)):PureA h (.fn 32 [.agg (lmV n t P S)] []) [.int .i64 u] (.bool true):=by
 refine fun h1 sh=>?_
 have hw1:=sh.wf
 have ww:wr .i64 ((n:Int)-1)=(n:Int)-1:=wr_in (by omega) (by omega)
 have i1:inB u 0 ((n:Int)-1)=true:=decide_eq_true (by omega)
 rw[Ev_fn]
 simp only[appN]
 refine Ev_body (fd:=c32) rfl rfl rfl ?_
 simp -implicitDefEqProofs(maxSteps:=999999)(disch:=first|with_reducible rfl|omega|(simp only[nA,nS,nD]<;>omega)|fail)only[c32,go_sem,fin_ev,ww,i1]
 exact(H.Sub.refl hw1).add _
theorem throw_ev {h:H}(hw:h.wf){P S:V}(p1:P.one=true)(s1:S.one=true){n t:Nat}(ht:t≤12){u:Int}(hu:0≤u∧u<(t:Int))(Q:V→H→Prop)(q:∀h',h.Sub h'→Q (.bool true) h'):Ev fnG fastA (.fn 41 [] []) [.agg (lmV n t P S),.int .i64 u] h Q:=by
 have ww:wr .i64 ((t:Int)-1)=(t:Int)-1:=wr_in (by omega) (by omega)
 have i1:inB u 0 ((t:Int)-1)=true:=decide_eq_true (by omega)
 refine Ev_body (fd:=c41) rfl rfl rfl ?_
 simp -implicitDefEqProofs(maxSteps:=999999)(disch:=first|with_reducible rfl|omega|(simp only[nA,nS,nD]<;>omega)|fail)only[c41,go_sem,fin_ev,ww,i1]
 exact q _ ((H.Sub.refl hw).add _)
theorem chk1_pure {h:H}{x:V}{b:Bool}{i:Nat}(ax:SlAt h x 1 (([(i:Int)]:List Int).map encI)):PureA h (.fn 35 [] []) [.agg (encPt (x,b))] (.bool true):=by
 refine fun h1 sh=>?_
 have hw1:=sh.wf
 have x1:=ax.one
 have lx:q_len x=some (.int .i64 1):=ax.lenE
 refine Ev_body (fd:=c35) rfl rfl rfl ?_
 simp only[encPt]
 simp -implicitDefEqProofs(maxSteps:=999999)(disch:=first|with_reducible rfl|omega|(simp only[nA,nS,nD]<;>omega)|fail)only[c35,go_sem,x1,cells_one x1,lx,show(0:Int)<1 by decide]
 exact(H.Sub.refl hw1).add _
theorem chk2_pure {h:H}{x:V}{b:Bool}(x1:x.one=true):PureA h (.fn 36 [] []) [.agg (encPt (x,b))] (.bool true):=by
 refine fun h1 sh=>?_
 have hw1:=sh.wf
 have i1:inB 1 1 4=true:=rfl
 have i2:inB 0 0 0=true:=rfl
 have w0:wr .i64 ((1:Int)-1)=0:=rfl
 refine Ev_body (fd:=c36) rfl rfl rfl ?_
 simp only[encPt]
 simp -implicitDefEqProofs(maxSteps:=999999)(disch:=first|with_reducible rfl|omega|(simp only[nA,nS,nD]<;>omega)|fail)only[c36,go_sem,x1,cells_one x1,fin_ev,i1,i2,w0]
 exact(H.Sub.refl hw1).add _
theorem rising_ev {h:H}(hw:h.wf){x:V}{i:Nat}(ax:SlAt h x 1 (([(i:Int)]:List Int).map encI))(Q:V→H→Prop)(q:∀h',h.Sub h'→Q (.bool true) h'):Ev fnG fastA (.fn 43 [] []) [x] h Q:=by
 have lx:q_len x=some (.int .i64 1):=ax.lenE
 refine Ev_body (fd:=c43) rfl rfl rfl ?_
 simp -implicitDefEqProofs(maxSteps:=999999)(disch:=first|with_reducible rfl|omega|(simp only[nA,nS,nD]<;>omega)|fail)only[c43,go_sem]
 refine fsortedUp_ev ax (List.pairwise_singleton _ _) (by simp) _ ?_
 simp -implicitDefEqProofs(maxSteps:=999999)(disch:=first|with_reducible rfl|omega|(simp only[nA,nS,nD]<;>omega)|fail)only[go_sem]
 refine fcloneInt_ev hw ax (by simp) _ fun v h1 ov=>?_
 have av:=ov.sl (by simp)
 have lv:q_len v=some (.int .i64 1):=av.lenE
 simp -implicitDefEqProofs(maxSteps:=999999)(disch:=first|with_reducible rfl|omega|(simp only[nA,nS,nD]<;>omega)|fail)only[go_sem]
 refine fcompactUp_ev av (List.pairwise_singleton _ _) (by simp) _ ?_
 simp -implicitDefEqProofs(maxSteps:=999999)(disch:=first|with_reducible rfl|omega|(simp only[nA,nS,nD]<;>omega)|fail)only[go_sem,lx,lv]
 exact q _ ov.1
theorem chk3_pure {h:H}{P S:V}(p1:P.one=true)(s1:S.one=true){n t c3:Nat}(hn:n≤6)(g3:h.cells c3=some [.fn 32 [.agg (lmV n t P S)] []]){x:V}{b:Bool}{i:Nat}(hi:i<n)(ax:SlAt h x 1 (([(i:Int)]:List Int).map encI)):
  PureA h (.fn 37 [] [.ptr c3 0]) [.agg (encPt (x,b))] (.bool true):=by
 refine fun h1 sh=>?_
 have hw1:=sh.wf
 have x1:=ax.one
 have g31:=sh.cells g3
 have sB:=(H.Sub.refl hw1).add (.cells .rw (encPt (x,b)))
 have g3B:=sB.cells g31
 rw[Ev_fn]
 simp only[appN]
 refine Ev_body (fd:=c37) rfl rfl rfl ?_
 simp only[encPt] at sB g3B⊢
 simp -implicitDefEqProofs(maxSteps:=999999)(disch:=first|with_reducible rfl|omega|(simp only[nA,nS,nD]<;>omega)|fail)only[c37,go_sem,x1,cells_one x1,g31,g3B]
 refine(feveryInt_ev (p:=fun _=>true) sB.wf (ax.mono (sh.trans sB)) fun u hu=>ribbon_pure p1 s1 hn (by rw[List.mem_singleton] at hu;omega)).mono fun u h2 hu=>?_
 obtain⟨rfl,s2⟩:=hu
 rw[show(([(i:Int)]:List Int).all fun _=>true)=true from rfl]
 simp -implicitDefEqProofs(maxSteps:=999999)(disch:=first|with_reducible rfl|omega|(simp only[nA,nS,nD]<;>omega)|fail)only[go_sem]
 exact sB.trans s2
theorem chk4_pure {h:H}{P S:V}(p1:P.one=true)(s1:S.one=true){n t c3 c1:Nat}(hn:n≤6)(ht:t≤12)(g3:h.cells c3=some [.fn 32 [.agg (lmV n t P S)] []])(g1:h.cells c1=some (lmV n t P S)){s:St}(hs:s.r<n∧s.lo≤s.hi∧s.hi<t):
  PureA h (.fn 40 [] [.ptr c3 0,.ptr c1 0]) [.agg (encSt s)] (.bool true):=by
 refine fun h1 sh=>?_
 have hw1:=sh.wf
 have g31:=sh.cells g3
 have g11:=sh.cells g1
 have sB:=(H.Sub.refl hw1).add (.cells .rw (encSt s))
 have g3B:=sB.cells g31
 have g1B:=sB.cells g11
 have gB:(h1.add (.cells .rw (encSt s))).cells h1.next=some (encSt s):=cells_add_new rfl
 rw[Ev_fn]
 simp only[appN]
 refine Ev_body (fd:=c40) rfl rfl rfl ?_
 simp only[encSt] at sB g3B g1B gB⊢
 simp -implicitDefEqProofs(maxSteps:=999999)(disch:=first|with_reducible rfl|omega|(simp only[nA,nS,nD]<;>omega)|fail)only[c40,go_sem,g31,g3B]
 generalize h1.add _=hB at sB g3B g1B gB⊢
 refine(ribbon_pure (h:=h) p1 s1 hn (u:=(s.r:Int)) (by omega)).use (sh.trans sB) fun h2 s2=>?_
 have gB2:=s2.cells gB
 have g12:=s2.cells g1B
 simp -implicitDefEqProofs(maxSteps:=999999)(disch:=first|with_reducible rfl|omega|(simp only[nA,nS,nD]<;>omega)|fail)only[go_sem,gB2,g12]
 refine throw_ev s2.wf p1 s1 ht (by omega) _ fun h3 s3=>?_
 have gB3:=s3.cells gB2
 have g13:=s3.cells g12
 simp -implicitDefEqProofs(maxSteps:=999999)(disch:=first|with_reducible rfl|omega|(simp only[nA,nS,nD]<;>omega)|fail)only[go_sem,gB3,g13]
 refine throw_ev s3.wf p1 s1 ht (by omega) _ fun h4 s4=>?_
 simp -implicitDefEqProofs(maxSteps:=999999)(disch:=first|with_reducible rfl|omega|(simp only[nA,nS,nD]<;>omega)|fail)only[go_sem]
 exact((sB.trans s2).trans s3).trans s4
theorem chk5_pure {h:H}{x:V}{b:Bool}{i:Nat}(ax:SlAt h x 1 (([(i:Int)]:List Int).map encI)):PureA h (.fn 42 [] []) [.agg (encPt (x,b))] (.bool true):=by
 refine fun h1 sh=>?_
 have hw1:=sh.wf
 have x1:=ax.one
 have sB:=(H.Sub.refl hw1).add (.cells .rw (encPt (x,b)))
 refine Ev_body (fd:=c42) rfl rfl rfl ?_
 simp only[encPt] at sB⊢
 simp -implicitDefEqProofs(maxSteps:=999999)(disch:=first|with_reducible rfl|omega|(simp only[nA,nS,nD]<;>omega)|fail)only[c42,go_sem,x1,cells_one x1]
 refine rising_ev sB.wf (ax.mono (sh.trans sB)) _ fun h2 s2=>?_
 simp -implicitDefEqProofs(maxSteps:=999999)(disch:=first|with_reducible rfl|omega|(simp only[nA,nS,nD]<;>omega)|fail)only[go_sem]
 exact sB.trans s2
theorem chk6_pure {h:H}{s:St}(hs:s.lo≤s.hi):PureA h (.fn 44 [] []) [.agg (encSt s)] (.bool true):=by
 refine fun h1 sh=>?_
 have hw1:=sh.wf
 have hle:(s.lo:Int)≤(s.hi:Int):=by omega
 refine Ev_body (fd:=c44) rfl rfl rfl ?_
 simp only[encSt]
 simp -implicitDefEqProofs(maxSteps:=999999)(disch:=first|with_reducible rfl|omega|(simp only[nA,nS,nD]<;>omega)|fail)only[c44,go_sem,hle]
 exact(H.Sub.refl hw1).add _
end Go.Ab.Tryz
namespace Go.Ab.Tryz
set_option maxHeartbeats 4000000 in
theorem fcheck_ev {h:H}(hw:h.wf){P S:V}{n t:Nat}{ps:List (V × Bool)}{ss:List St}(a:LmAt h P S n t ps ss)(k:LmOk n t ss)(Q:V→H→Prop)(q:∀h',h.Sub h'→Q (.int .i64 0) h'):Ev fnG fastA (.fn 17 [] []) [.agg (lmV n t P S)] h Q:=by
 have p1:=a.p.one
 have s1:=a.s.one
 have lp:=a.p.lenE
 have ls:=a.s.lenE
 have hn:=a.len
 rw[hn] at lp
 have k1:=k.nb;have k2:=k.tb;have k3:=k.kb
 have i1:inB (n:Int) 1 6=true:=decide_eq_true (by omega)
 have i2:inB (t:Int) 1 12=true:=decide_eq_true (by omega)
 have ng:¬(10:Int)<(ss.length:Int):=by omega
 refine Ev_body (fd:=c17) rfl rfl rfl ?_
 have sA:=((H.Sub.refl hw).add (.cells .rw (lmV n t P S))).add (.cells .rw [.fn 32 [.agg (lmV n t P S)] []])
 have g1:((h.add (.cells .rw (lmV n t P S))).add (.cells .rw [.fn 32 [.agg (lmV n t P S)] []])).cells h.next=some (lmV n t P S):=by rw[cells_add_old (by rw[H.next_add];omega)];exact cells_add_new rfl
 have g3:((h.add (.cells .rw (lmV n t P S))).add (.cells .rw [.fn 32 [.agg (lmV n t P S)] []])).cells (h.next+1)=some [.fn 32 [.agg (lmV n t P S)] []]:=cells_add_new (by rw[H.next_add])
 simp -implicitDefEqProofs(maxSteps:=999999)(disch:=first|with_reducible rfl|omega|(simp only[nA,nS,nD]<;>omega)|fail)only[c17,go_sem,p1,s1,cells_one p1,cells_one s1,fin_ev,i1,i2,lp,ls,ng]
 generalize H.add (H.add h _) _=hA at sA g1 g3⊢
 have aA:=a.mono sA
 refine(feveryPart_ev (p:=fun _=>true) sA.wf aA.p fun x hx=>by obtain⟨i,hi,ax⟩:=aA.mem hx;exact chk1_pure ax).mono fun u h1 hu=>?_
 obtain⟨rfl,t1⟩:=hu
 rw[show(ps.all fun _=>true)=true from List.all_eq_true.2 fun _ _=>rfl]
 have g11:=t1.cells g1
 simp -implicitDefEqProofs(maxSteps:=999999)(disch:=first|with_reducible rfl|omega|(simp only[nA,nS,nD]<;>omega)|fail)only[go_sem,g11]
 have a1:=aA.mono t1
 refine(feveryPart_ev (p:=fun _=>true) t1.wf a1.p fun x hx=>by obtain⟨i,hi,ax⟩:=a1.mem hx;exact chk2_pure ax.one).mono fun u h2 hu=>?_
 obtain⟨rfl,t2⟩:=hu
 rw[show(ps.all fun _=>true)=true from List.all_eq_true.2 fun _ _=>rfl]
 have g12:=t2.cells g11
 have g32:=t2.cells (t1.cells g3)
 simp -implicitDefEqProofs(maxSteps:=999999)(disch:=first|with_reducible rfl|omega|(simp only[nA,nS,nD]<;>omega)|fail)only[go_sem,g12]
 have a2:=a1.mono t2
 refine(feveryPart_ev (p:=fun _=>true) t2.wf a2.p fun x hx=>by obtain⟨i,hi,ax⟩:=a2.mem hx;exact chk3_pure p1 s1 k1.2 g32 hi ax).mono fun u h3 hu=>?_
 obtain⟨rfl,t3⟩:=hu
 rw[show(ps.all fun _=>true)=true from List.all_eq_true.2 fun _ _=>rfl]
 have g13:=t3.cells g12
 have g33:=t3.cells g32
 simp -implicitDefEqProofs(maxSteps:=999999)(disch:=first|with_reducible rfl|omega|(simp only[nA,nS,nD]<;>omega)|fail)only[go_sem,g13]
 have a3:=a2.mono t3
 refine(feverySight_ev (p:=fun _=>true) t3.wf a3.s fun s hs=>chk4_pure p1 s1 k1.2 k2.2 g33 g13 (k.sb s hs)).mono fun u h4 hu=>?_
 obtain⟨rfl,t4⟩:=hu
 rw[show(ss.all fun _=>true)=true from List.all_eq_true.2 fun _ _=>rfl]
 have g14:=t4.cells g13
 simp -implicitDefEqProofs(maxSteps:=999999)(disch:=first|with_reducible rfl|omega|(simp only[nA,nS,nD]<;>omega)|fail)only[go_sem,g14]
 have a4:=a3.mono t4
 refine(feveryPart_ev (p:=fun _=>true) t4.wf a4.p fun x hx=>by obtain⟨i,hi,ax⟩:=a4.mem hx;exact chk5_pure ax).mono fun u h5 hu=>?_
 obtain⟨rfl,t5⟩:=hu
 rw[show(ps.all fun _=>true)=true from List.all_eq_true.2 fun _ _=>rfl]
 have g15:=t5.cells g14
 simp -implicitDefEqProofs(maxSteps:=999999)(disch:=first|with_reducible rfl|omega|(simp only[nA,nS,nD]<;>omega)|fail)only[go_sem,g15]
 have a5:=a4.mono t5
 refine(feverySight_ev (p:=fun _=>true) t5.wf a5.s fun s hs=>chk6_pure (k.sb s hs).2.1).mono fun u h6 hu=>?_
 obtain⟨rfl,t6⟩:=hu
 rw[show(ss.all fun _=>true)=true from List.all_eq_true.2 fun _ _=>rfl]
 simp -implicitDefEqProofs(maxSteps:=999999)(disch:=first|with_reducible rfl|omega|(simp only[nA,nS,nD]<;>omega)|fail)only[go_sem]
 exact q _ ((((((sA.trans t1).trans t2).trans t3).trans t4).trans t5).trans t6)
end Go.Ab.Tryz
namespace Go.Ab.Tryz
structure Cl (lo:Nat)(h:H)(y:V)(i:Nat):Prop where
 s:SlAt h y 1 (([(i:Int)]:List Int).map encI)
 b:∀b,blkOf y b→lo<b∧∃k cs,h.get b=some (.cells k cs)∧(k=.rw∨k=.gr 1)
theorem Cl.keep {lo:Nat}{h h':H}{y:V}{i:Nat}{S:Nat→Prop}(c:Cl lo h y i)(k:Keeps S h h')(n:∀b,S b→b≤lo∨∃cs,h.get b=some (.cells (.gr 4) cs)):Cl lo h' y i:=by
 have hn:∀b,blkOf y b→¬S b:=fun b hb hs=>by
  obtain⟨l,kk,cs,g,hk⟩:=c.b b hb
  rcases n b hs with h1|⟨cs',h1⟩
  ·omega
  ·rw[g] at h1
   cases h1
   rcases hk with hk|hk<;>cases hk
 refine⟨SlAt_keep c.s k hn,fun b hb=>?_⟩
 obtain⟨l,kk,cs,g,hk⟩:=c.b b hb
 exact⟨l,kk,cs,k.2 _ _ g (hn b hb),hk⟩
theorem Cl.mono {lo:Nat}{h h':H}{y:V}{i:Nat}(c:Cl lo h y i)(s:h.Sub h'):Cl lo h' y i:=c.keep (Keeps.of s fun _=>False) fun _ h=>h.elim
structure Pb (h0:H)(lo:Nat)(h:H)(Z:V)(ps:List (V × Bool)):Prop where
 z:OwnSl h0 h Z 4 (ps.map encPt)
 c:∀(i:Nat) (hi:i<ps.length),Cl lo h ps[i].1 i
theorem Pb.mono {h0 h h':H}{lo:Nat}{Z:V}{ps:List (V × Bool)}(a:Pb h0 lo h Z ps)(s:h.Sub h'):Pb h0 lo h' Z ps:=⟨a.z.mono s,fun i hi=>(a.c i hi).mono s⟩
theorem Pb.keep {h0 h h':H}{lo:Nat}{Z:V}{ps:List (V × Bool)}{S:Nat→Prop}(a:Pb h0 lo h Z ps)(k:Keeps S h h')(s:h0.Sub h')(n:∀b,S b→b≤lo∧¬blkOf Z b):Pb h0 lo h' Z ps:=
 ⟨a.z.keep k s fun b hb hs=>(n b hs).2 hb,fun i hi=>(a.c i hi).keep k fun b hs=>.inl (n b hs).1⟩
theorem Pb.app {h0 h:H}{lo:Nat}{Z y x:V}{b:Bool}{ps:List (V × Bool)}{Q:V→H→Prop}(a:Pb h0 lo h Z ps)(hw0:h0.wf)(hl:ps.length≤100)(cx:Cl lo h x ps.length)(ay:SlAt h y 4 [encPt (x,b)])
  (q:∀h',Pb h0 lo h' (.sl h.next 0 (ps.length+1) (.slk 0 0)) (ps++[(x,b)])→Keeps (blkOf Z) h h'→h'.next=h.next+1→Q (.sl h.next 0 (ps.length+1) (.slk 0 0)) h'):P2 (e_app' h 4 48 Z y) Q:=by
 have x1:=cx.s.one
 have ho:allOne (encPt (x,b))=true:=by simp only[encPt,allOne,x1];rfl
 have ha:=OwnSl.app1 (by_:=48) (Q:=Q) a.z hw0 (r:=encPt (x,b)) rfl (by omega) ay ho (by rw[List.length_map];omega) (by rw[List.length_map];omega)
 rw[List.length_map] at ha
 refine ha fun h' o k n=>?_
 have hg:∀b,blkOf Z b→∃cs,h.get b=some (.cells (.gr 4) cs):=fun b hb=>⟨_,(a.z.blk hb).2.2⟩
 refine q h' ⟨by rw[List.map_append];exact o,fun i hi=>?_⟩ k n
 rw[List.getElem_append]
 split
 ·rename_i hi'
  exact(a.c i hi').keep k fun b hs=>.inr (hg b hs)
 ·rename_i hi'
  have:i=ps.length:=by simp at hi;omega
  subst this
  simp only[Nat.sub_self,List.getElem_cons_zero]
  exact cx.keep k fun b hs=>.inr (hg b hs)
theorem Pb.at {h0 h:H}{lo:Nat}{Z:V}{ps:List (V × Bool)}(a:Pb h0 lo h Z ps)(hl:ps.length≤100){S:V}{ss:List St}(aS:SlAt h S 4 (ss.map encSt)){n t:Nat}(hn:ps.length=n):LmAt h Z S n t ps ss:=
 ⟨a.z.sl (by rw[List.length_map];omega),aS,hn,fun i hi=>(a.c i hi).s⟩
end Go.Ab.Tryz
namespace Go.Ab
theorem e_cpy_none {h:H}{sz b m:Nat}{c:Cap}{y:V}(ly:lenV y=some 0)(ey:elems h sz y=some []):e_cpy h sz (.sl b 0 m c) y=some (.int .i64 0,h):=by
 have e1:Nat.ble 0 m=true:=by simp
 simp only[e_cpy,lenV_sl,ly,ey,e1,Nat.zero_mul,takeN,cpyTo,H.put,withV]
 rfl
end Go.Ab
namespace Go.Ab.Tryz
def encS4 (p:Int × Int × Int × Bool):List V:=[.int .i64 p.1,.int .i64 p.2.1,.int .i64 p.2.2.1,.bool p.2.2.2]
def st4 (s:St):Int × Int × Int × Bool:=((s.r:Int),(s.lo:Int),(s.hi:Int),true)
theorem encS4_st (l:List St):l.map encSt=(l.map st4).map encS4:=by rw[List.map_map];rfl
theorem allOneS4 (L:List (Int × Int × Int × Bool)):allOne (L.map encS4).flatten=true:=by
 rw[allOne_eq]
 intro v hv
 obtain⟨r,hr,hv⟩:=List.mem_flatten.1 hv
 obtain⟨s,_,rfl⟩:=List.mem_map.1 hr
 simp only[encS4,List.mem_cons,List.not_mem_nil,or_false] at hv
 rcases hv with rfl|rfl|rfl|rfl<;>rfl
set_option maxHeartbeats 8000000 in
theorem See_ev {h:H}(hw:h.wf){P S:V}{n t:Nat}{ps:List (V × Bool)}{ss:List St}(a:LmAt h P S n t ps ss)(k:LmOk n t ss)(k9:ss.length<10){s:St}(ks:s.r<n∧s.lo≤s.hi∧s.hi<t)(Q:V→H→Prop)
  (q:∀lo P' S' ps' h',h.Sub h'→h.next≤lo→Pb h lo h' P' ps'→ps'.length=n→OwnC h h' S' 4 ((ss++[s]).map encSt)→Q (.tup [.agg (lmV n t P' S'),.int .i64 0]) h'):Ev fnG fastA (.fn 8 [] []) [.agg (lmV n t P S),.agg (encSt s)] h Q:=by
 have p1:=a.p.one
 have s1:=a.s.one
 have ls:=a.s.lenE
 have lp:=a.p.lenE
 have hn:=a.len
 rw[hn] at lp
 have k1:=k.nb
 have nk:¬(ss.length:Int)=10:=by omega
 have k':LmOk n t (ss++[s]):=⟨k.nb,k.tb,by rw[List.length_append];simp;omega,fun x hx=>(List.mem_append.1 hx).elim (k.sb x) fun hx=>by rw[List.mem_singleton] at hx;subst hx;exact ks⟩
 refine Ev_body (fd:=c8) rfl rfl rfl ?_
 have sA:=(((H.Sub.refl hw).add (.cells .rw (lmV n t P S))).add (.cells .rw (encSt s))).add (.cells .rw [.int .i64 0,.int .i64 0,.nils,.nils])
 have e1:(h.add (.cells .rw (lmV n t P S))).next=h.next+1:=H.next_add _ _
 have e2:((h.add (.cells .rw (lmV n t P S))).add (.cells .rw (encSt s))).next=h.next+2:=by simp only[H.next_add]
 have g2:(((h.add (.cells .rw (lmV n t P S))).add (.cells .rw (encSt s))).add (.cells .rw [.int .i64 0,.int .i64 0,.nils,.nils])).cells h.next=some (lmV n t P S):=by rw[cells_add_old (by omega),cells_add_old (by omega)];exact cells_add_new rfl
 have g3:(((h.add (.cells .rw (lmV n t P S))).add (.cells .rw (encSt s))).add (.cells .rw [.int .i64 0,.int .i64 0,.nils,.nils])).cells (h.next+1)=some (encSt s):=by rw[cells_add_old (by omega)];exact cells_add_new e1.symm
 have g4:(((h.add (.cells .rw (lmV n t P S))).add (.cells .rw (encSt s))).add (.cells .rw [.int .i64 0,.int .i64 0,.nils,.nils])).get (h.next+2)=some (.cells .rw [.int .i64 0,.int .i64 0,.nils,.nils]):=get_add_new e2.symm
 have eA:(((h.add (.cells .rw (lmV n t P S))).add (.cells .rw (encSt s))).add (.cells .rw [.int .i64 0,.int .i64 0,.nils,.nils])).next=h.next+3:=by simp only[H.next_add]
 simp only[encSt] at sA g2 g3 g4 eA⊢
 simp -implicitDefEqProofs(maxSteps:=999999)(disch:=first|with_reducible rfl|omega|(simp only[nA,nS,nD]<;>omega)|fail)only[c8,go_sem,p1,s1,cells_one p1,cells_one s1]
 generalize H.add (H.add (H.add h _) _) _=hA at sA g2 g3 g4 eA⊢
 refine fcheck_ev sA.wf (a.mono sA) k _ fun h1 t1=>?_
 have g21:=t1.cells g2
 have g31:=t1.cells g3
 have g41:=t1.get g4
 have w1:=t1.wf
 have n1:=t1.next
 have am:a_msl h1 32 [V.int .i64 0,.int .i64 0,.int .i64 0,.bool false] (.int .i64 ((ss.length+1:Nat):Int)) (.int .i64 ((ss.length+1:Nat):Int))=_:=a_msl_nn' (by omega) (by omega)
 have wk:wr .i64 ((ss.length:Int)+1)=((ss.length+1:Nat):Int):=by rw[wr_in (by omega) (by omega)];rfl
 have sM:=(H.Sub.refl w1).add (.cells .rw (repN (ss.length+1) [V.int .i64 0,.int .i64 0,.int .i64 0,.bool false]))
 have gM:(h1.add (.cells .rw (repN (ss.length+1) [V.int .i64 0,.int .i64 0,.int .i64 0,.bool false]))).get h1.next=some (.cells .rw ((List.replicate (ss.length+1) ((0:Int),(0:Int),(0:Int),false)).map encS4).flatten):=by
  rw[get_add_new rfl,List.map_replicate,repN_flat];rfl
 have g2M:=sM.cells g21
 have eM:=H.next_add h1 (.cells .rw (repN (ss.length+1) [V.int .i64 0,.int .i64 0,.int .i64 0,.bool false]))
 simp -implicitDefEqProofs(maxSteps:=999999)(disch:=first|with_reducible rfl|omega|(simp only[nA,nS,nD]<;>omega)|fail)only[go_sem,ne_eq,not_true_eq_false,g21,ls,nk,wk,am,g2M]
 obtain⟨bS,hbS⟩:∃c,h1.next=c:=⟨_,rfl⟩
 rw[hbS] at gM eM n1
 simp only[hbS]
 have sN:=(H.Sub.refl sM.wf).add (.cells .rw [.int .i64 (n:Int),.int .i64 (t:Int),.nils,.sl bS 0 (ss.length+1) (.fix (ss.length+1))])
 have g7:=get_add_new (h:=h1.add (.cells .rw (repN (ss.length+1) [V.int .i64 0,.int .i64 0,.int .i64 0,.bool false]))) (x:=.cells .rw [.int .i64 (n:Int),.int .i64 (t:Int),.nils,.sl bS 0 (ss.length+1) (.fix (ss.length+1))]) rfl
 have eN:=H.next_add (h1.add (.cells .rw (repN (ss.length+1) [V.int .i64 0,.int .i64 0,.int .i64 0,.bool false]))) (.cells .rw [.int .i64 (n:Int),.int .i64 (t:Int),.nils,.sl bS 0 (ss.length+1) (.fix (ss.length+1))])
 rw[eM] at g7 eN
 have sMN:=sM.trans sN
 have g2N:=sMN.cells g21
 have g3N:=sMN.cells g31
 have g4N:=sMN.get g41
 have gSN:=sN.get gM
 have sAN:=(sA.trans t1).trans sMN
 have aN:=a.mono sAN
 generalize H.add (H.add h1 _) _=hN at g7 eN g2N g3N g4N gSN sAN aN⊢
 clear sN sM sMN gM am g2M
 have key:∃hC,e_cpy hN 4 (.sl bS 0 (ss.length+1) (.fix (ss.length+1))) S=some (.int .i64 (ss.length:Int),hC)∧Keeps (fun c=>c=bS) hN hC∧hC.wf∧hC.next=hN.next∧hC.get bS=some (.cells .rw (((ss.map st4)++[((0:Int),(0:Int),(0:Int),false)]).map encS4).flatten):=by
  obtain⟨e2,e1⟩:=aN.s.elems
  rw[List.length_map] at e1
  by_cases hz:ss=[]
  ·subst hz
   exact⟨hN,e_cpy_none e1 e2,Keeps.refl _ _,sAN.wf,rfl,gSN⟩
  ·have hp:1≤ss.length:=List.length_pos_iff.2 hz
   rw[encS4_st] at e2
   have cp:=e_cpyR (enc:=encS4) (sz:=4) (L:=List.replicate (ss.length+1) ((0:Int),(0:Int),(0:Int),false)) (by omega) (fun _=>rfl) allOneS4 (i:=0) (m:=ss.length+1) (k:=ss.length) (c:=.fix (ss.length+1)) (M:=ss.map st4) gSN e1 e2 (by rw[List.length_map]) hp (by omega) (by rw[List.length_replicate];omega)
   rw[Nat.zero_mul,show min (ss.length+1) ss.length=ss.length by omega,List.take_zero,List.nil_append,Nat.zero_add,List.take_of_length_le (by rw[List.length_map];omega),List.drop_replicate,show ss.length+1-ss.length=1 by omega] at cp
   exact⟨_,cp,Keeps.set _ _ _,H.wf_set sAN.wf _ gSN,H.next_set _ _ _,get_set_same rfl⟩
 obtain⟨hC,cp,kC,wC,eC,gSC⟩:=key
 have g2C:=kC.cells g2N (by omega)
 have g3C:=kC.cells g3N (by omega)
 have g4C:=kC.2 _ _ g4N (by omega)
 have g7C:=kC.2 _ _ g7 (by omega)
 have hib:Nat.blt ss.length (ss.length+1)=true:=by rw[Nat.blt_eq];omega
 have iq:q_iad 4 (.sl bS 0 (ss.length+1) (.fix (ss.length+1))) (.int .i64 (ss.length:Int))=some (.ptr bS (ss.length*4)):=by
  simp only[q_iad,nat_cst,hib,og_true,Nat.zero_add]
 have hput:=putRow (enc:=encS4) (sz:=4) (fun _=>rfl) (by omega) (l:=(ss.map st4)++[((0:Int),(0:Int),(0:Int),false)]) (k:=ss.length) (by rw[List.length_append,List.length_map];simp) (st4 s)
 have hset:((ss.map st4)++[((0:Int),(0:Int),(0:Int),false)]).set ss.length (st4 s)=(ss++[s]).map st4:=by
  rw[List.set_append_right _ _ (by rw[List.length_map];omega),List.length_map,Nat.sub_self,List.map_append];rfl
 rw[hset] at hput
 simp only[show encS4 (st4 s)=[.int .i64 (s.r:Int),.int .i64 (s.lo:Int),.int .i64 (s.hi:Int),.bool true] from rfl] at hput
 simp -implicitDefEqProofs(maxSteps:=999999)(disch:=first|with_reducible rfl|omega|(simp only[nA,nS,nD]<;>omega)|fail)only[go_sem,cp,cells_of g7C,g2C,g3C,ls,lp,iq,gSC,hput]
 have kD:Keeps (fun c=>c=bS) hN (hC.set bS (.cells .rw (((ss++[s]).map st4).map encS4).flatten)):=(kC.trans (Keeps.set _ _ _)).mono fun c hc=>hc.elim id id
 have wD:=H.wf_set wC (.cells .rw (((ss++[s]).map st4).map encS4).flatten) gSC
 have gSD:(hC.set bS (.cells .rw (((ss++[s]).map st4).map encS4).flatten)).get bS=some (.cells .rw (((ss++[s]).map st4).map encS4).flatten):=get_set_same rfl
 have eD:(hC.set bS (.cells .rw (((ss++[s]).map st4).map encS4).flatten)).next=hN.next:=by rw[H.next_set,eC]
 generalize hC.set bS _=hD at kD wD gSD eD⊢
 rw[←encS4_st] at gSD
 clear hput hset gSC g2C g3C g4C g7C cp kC wC eC gSN
 have sD:h.Sub hD:=kD.sub sAN hw (fun c hc=>by omega) wD
 have g4D:=kD.2 _ _ g4N (by omega)
 have g7D:=kD.2 _ _ g7 (by omega)
 refine W_count n (fun i s'=>∃(tm:Go.Ab.T V) (h':H) (Z:V) (qs:List (V × Bool)),s'=⟨tm,h',[]⟩∧h.Sub h'∧Pb h (bS+1) h' Z qs∧qs.length=i∧h'.get bS=some (.cells .rw ((ss++[s]).map encSt).flatten)∧h'.get (bS+1)=some (.cells .rw [.int .i64 (n:Int),.int .i64 (t:Int),Z,.sl bS 0 (ss.length+1) (.fix (ss.length+1))])∧h'.get (h.next+2)=some (.cells .rw [.int .i64 0,.int .i64 0,.nils,.nils])∧
   (Opd.t 4).ev tm=.ptr (h.next+2) 0∧(Opd.t 7).ev tm=.ptr (bS+1) 0∧(Opd.t 45).ev tm=P∧(Opd.t 46).ev tm=.int .i64 (n:Int)∧(Opd.t 47).ev tm=.int .i64 (i:Int)) ?_ ?_ (i:=0) (Nat.zero_le _)
  ⟨_,_,.nils,[],rfl,sD,⟨OwnSl.nil sD 4,fun i hi=>by simp at hi⟩,rfl,gSD,g7D,g4D,(by simp[ev_c,ev_put]<;>rfl),(by simp[ev_c,ev_put]<;>rfl),(by simp[ev_c,ev_put]<;>rfl),(by simp[ev_c,ev_put]<;>rfl),(by simp only[ev_put];rfl)⟩
 ·rintro i s' hi ⟨tm,h',Z,qs,rfl,sh,pb,lq,gS,g7',g4',t4,t7,t45,t46,t47⟩
  have hi':(i:Int)<(n:Int):=by omega
  have hip:i<ps.length:=by omega
  have ah:=a.mono sh
  obtain⟨b,o,c,cs,_,hc,hq,hg,_,_⟩:=ah.p.at hip
  have hx:=ah.r i hip
  obtain⟨⟨x,wv⟩,hxx⟩:∃p,ps[i]=p:=⟨_,rfl⟩
  rw[hxx] at hg hx
  simp only[encPt] at hg
  have x1:=hx.one
  have sE:=(H.Sub.refl sh.wf).add (.cells .rw [x,.int .i64 1,.int .i64 0,.bool wv])
  have g9:(h'.add (.cells .rw [x,.int .i64 1,.int .i64 0,.bool wv])).get h'.next=some (.cells .rw [x,.int .i64 1,.int .i64 0,.bool wv]):=get_add_new rfl
  have eE:=H.next_add h' (.cells .rw [x,.int .i64 1,.int .i64 0,.bool wv])
  have l7:=H.lt_next sh.wf g7'
  simp -implicitDefEqProofs(maxSteps:=999999)(disch:=first|with_reducible rfl|omega|(simp only[nA,nS,nD]<;>omega)|fail)only[go_sem,t45,t46,t47,hi',hq (nat_cst i),hc,hg,x1]
  generalize h'.add _=hE at sE g9 eE⊢
  obtain⟨c9,hc9⟩:∃c,h'.next=c:=⟨_,rfl⟩
  rw[hc9] at g9 eE l7
  simp only[hc9]
  refine fcloneInt_ev sE.wf (hx.mono sE) (by simp) _ fun v h2 ov=>?_
  have v1:=ov.one
  have g92:=ov.1.get g9
  simp -implicitDefEqProofs(maxSteps:=999999)(disch:=first|with_reducible rfl|omega|(simp only[nA,nS,nD]<;>omega)|fail)only[go_sem,g92,v1,cells_one v1]
  have kF:Keeps (fun c=>c=c9) h2 (h2.set c9 (.cells .rw [v,.int .i64 1,.int .i64 0,.bool wv])):=Keeps.set _ _ _
  have g9F:(h2.set c9 (.cells .rw [v,.int .i64 1,.int .i64 0,.bool wv])).cells c9=some [v,.int .i64 1,.int .i64 0,.bool wv]:=cells_set_same rfl
  have sE2:=sE.trans ov.1
  have sF:h'.Sub (h2.set c9 (.cells .rw [v,.int .i64 1,.int .i64 0,.bool wv])):=sE2.set (by omega) (ov.1.wf _ _ g92) sh.wf _
  generalize h2.set c9 _=hF at kF g9F sF⊢
  have cv:Cl (bS+1) hF v i:=by
   have hb:∀b,blkOf v b→b≠c9:=fun b hb e=>by have:=(ov.blk hb).1;omega
   refine⟨SlAt_keep (ov.sl (by simp)) kF fun b h5 h6=>hb b h5 h6,fun b h5=>?_⟩
   obtain⟨l1,l2,kd,cs',gg,hk⟩:=ov.blk h5
   exact⟨by omega,kd,cs',kF.2 _ _ gg (hb b h5),hk⟩
  have pF:=pb.mono sF
  have g7F:=sF.get g7'
  have sG:=(H.Sub.refl sF.wf).add (.cells .rw [v,.int .i64 1,.int .i64 0,.bool wv])
  simp -implicitDefEqProofs(maxSteps:=999999)(disch:=first|with_reducible rfl|omega|(simp only[nA,nS,nD]<;>omega)|fail)only[go_sem,t7,cells_of g7F,g9F,v1,cells_one v1]
  have ay:SlAt (hF.add (.cells .rw [v,.int .i64 1,.int .i64 0,.bool wv])) (.sl hF.next 0 1 (.fix 1)) 4 [encPt (v,wv)]:=SlAt.new _ rfl rfl rfl (by simp[encPt]) (by simp)
  refine(pF.mono sG).app hw (by omega) (by rw[lq];exact cv.mono sG) ay fun hA' pA kA nA=>?_
  have g7A:=kA.2 _ _ (sG.get g7F) ((pF.mono sG).z.ne (sG.get g7F))
  have gSA:=kA.2 _ _ (sG.get (sF.get gS)) ((pF.mono sG).z.ne (sG.get (sF.get gS)))
  have g4A:=kA.2 _ _ (sG.get (sF.get g4')) ((pF.mono sG).z.ne (sG.get (sF.get g4')))
  generalize hY:V.sl (H.next _) 0 _ (.slk 0 0)=Y at pA⊢
  have y1:Y.one=true:=by rw[←hY];rfl
  have yc:Y.cells=[Y]:=by rw[←hY];rfl
  simp -implicitDefEqProofs(maxSteps:=999999)(disch:=first|with_reducible rfl|omega|(simp only[nA,nS,nD]<;>omega)|fail)only[go_sem,t7,g7A,y1,yc]
  have kH:Keeps (fun c=>c=bS+1) hA' (hA'.set (bS+1) (.cells .rw [.int .i64 (n:Int),.int .i64 (t:Int),Y,.sl bS 0 (ss.length+1) (.fix (ss.length+1))])):=Keeps.set _ _ _
  have g7H:(hA'.set (bS+1) (.cells .rw [.int .i64 (n:Int),.int .i64 (t:Int),Y,.sl bS 0 (ss.length+1) (.fix (ss.length+1))])).get (bS+1)=some (.cells .rw [.int .i64 (n:Int),.int .i64 (t:Int),Y,.sl bS 0 (ss.length+1) (.fix (ss.length+1))]):=get_set_same rfl
  have sH:h.Sub (hA'.set (bS+1) (.cells .rw [.int .i64 (n:Int),.int .i64 (t:Int),Y,.sl bS 0 (ss.length+1) (.fix (ss.length+1))])):=pA.z.1.set (by omega) (pA.z.1.wf _ _ g7A) hw _
  generalize hA'.set (bS+1) _=hH at kH g7H sH⊢
  have pH:=pA.keep kH sH fun b hb=>⟨by omega,by rw[hb];exact pA.z.ne g7A⟩
  simp -implicitDefEqProofs(maxSteps:=999999)(disch:=first|with_reducible rfl|omega|(simp only[nA,nS,nD]<;>omega)|fail)only[go_sem,t47,wr_succ]
  exact⟨_,_,Y,qs++[(v,wv)],rfl,sH,pH,by rw[List.length_append,lq];rfl,kH.2 _ _ gSA (by omega),g7H,kH.2 _ _ g4A (by omega),(by simp[ev_c,ev_put,t4]<;>rfl),(by simp[ev_c,ev_put,t7]<;>rfl),(by simp[ev_c,ev_put,t45]<;>rfl),(by simp[ev_c,ev_put,t46]<;>rfl),(by simp[ev_c,ev_put]<;>rfl)⟩
 ·rintro s' ⟨tm,h',Z,qs,rfl,sh,pb,lq,gS,g7',g4',t4,t7,t45,t46,t47⟩
  have z1:=(pb.z.sl (by rw[List.length_map];omega)).one
  have aS:SlAt h' (.sl bS 0 (ss.length+1) (.fix (ss.length+1))) 4 ((ss++[s]).map encSt):=by
   have hz:∀x∈(ss++[s]).map encSt,x.length=4:=fun x hx=>by obtain⟨y,_,rfl⟩:=List.mem_map.1 hx;rfl
   have hln:((ss++[s]).map encSt).length=ss.length+1:=by rw[List.length_map,List.length_append];rfl
   exact⟨hz,by omega,.inr ⟨bS,0,.fix (ss.length+1),_,by rw[hln],.inr (cells_of gS),getN_full (flatten_len hz)⟩⟩
  have al:=pb.at (by omega) aS lq (t:=t)
  simp -implicitDefEqProofs(maxSteps:=999999)(disch:=first|with_reducible rfl|omega|(simp only[nA,nS,nD]<;>omega)|fail)only[go_sem,t7,t46,t47,Int.lt_irrefl,cells_of g7',z1,cells_one z1]
  refine fcheck_ev sh.wf al k' _ fun h2 t2=>?_
  have g72:=t2.get g7'
  have g42:=t2.get g4'
  simp -implicitDefEqProofs(maxSteps:=999999)(disch:=first|with_reducible rfl|omega|(simp only[nA,nS,nD]<;>omega)|fail)only[go_sem,t4,t7,ne_eq,not_true_eq_false,cells_of g72,g42,z1,cells_one z1]
  have sF:h.Sub (h2.set (h.next+2) (.cells .rw (lmV n t Z (.sl bS 0 (ss.length+1) (.fix (ss.length+1)))))):=(sh.trans t2).set (by omega) (t2.wf _ _ g42) hw _
  have kF:Keeps (fun c=>c=h.next+2) h2 (h2.set (h.next+2) (.cells .rw (lmV n t Z (.sl bS 0 (ss.length+1) (.fix (ss.length+1)))))):=Keeps.set _ _ _
  have p2:=pb.mono t2
  have gS2:=kF.2 _ _ (t2.get gS) (by omega)
  have hln:((ss++[s]).map encSt).length=ss.length+1:=by rw[List.length_map,List.length_append];rfl
  have hz:∀x∈(ss++[s]).map encSt,x.length=4:=fun x hx=>by obtain⟨y,_,rfl⟩:=List.mem_map.1 hx;rfl
  refine q (bS+1) _ _ qs _ sF (by omega) (p2.keep kF sF fun b hb=>⟨by omega,by rw[hb];exact p2.z.ne g42⟩) lq ⟨sF,hz,.inr (.inr ⟨bS,ss.length+1,[],by rw[hln],by omega,H.lt_next sF.wf gS2,by rw[List.append_nil];exact gS2,by rw[hln];rfl,by omega⟩)⟩
end Go.Ab.Tryz
namespace Go.Ab.Tryz
def upN (k:Nat):List Int:=(List.range k).map fun(i:Nat)=>(i:Int)
theorem upN_len (k:Nat):(upN k).length=k:=by simp[upN]
theorem upN_at {k i:Nat}(hi:i<(upN k).length):(upN k)[i]=(i:Int):=by simp[upN]
theorem upN_succ (k:Nat):upN (k+1)=upN k++[(k:Int)]:=by simp[upN,List.range_succ]
theorem ownI_lit {h:H}{n:Int}:SlAt (h.add (.cells .rw [.int .i64 n])) (.sl h.next 0 1 (.fix 1)) 1 [encI n]:=SlAt.new _ rfl rfl rfl (by simp[encI]) (by simp)
theorem whole_ev {h:H}(hw:h.wf){P S:V}{n t:Nat}{ps:List (V × Bool)}{ss:List St}(a:LmAt h P S n t ps ss)(hk:ss.length≤10)(Q:V→H→Prop)(q:∀X h',OwnSl h h' X 1 ((upN ss.length).map encI)→Q X h'):Ev fnG fastA (.fn 83 [] []) [.agg (lmV n t P S)] h Q:=by
 have p1:=a.p.one
 have s1:=a.s.one
 have ls:=a.s.lenE
 refine Ev_body (fd:=c83) rfl rfl rfl ?_
 have sA:=(H.Sub.refl hw).add (.cells .rw (lmV n t P S))
 simp -implicitDefEqProofs(maxSteps:=999999)(disch:=first|with_reducible rfl|omega|(simp only[nA,nS,nD]<;>omega)|fail)only[c83,go_sem,p1,s1,cells_one p1,cells_one s1,ls]
 generalize h.add _=hA at sA⊢
 refine W_count ss.length (fun i s'=>∃(tm:Go.Ab.T V) (h':H) (X:V),s'=⟨tm,h',[]⟩∧OwnSl h h' X 1 ((upN i).map encI)∧(Opd.t 3).ev tm=X∧(Opd.t 7).ev tm=.int .i64 (ss.length:Int)∧(Opd.t 8).ev tm=.int .i64 (i:Int)) ?_ ?_ (i:=0) (Nat.zero_le _)
  ⟨_,_,.nils,rfl,OwnSl.nil sA 1,(by simp[ev_c,ev_put]<;>rfl),(by simp[ev_c,ev_put]<;>rfl),(by simp only[ev_put];rfl)⟩
 ·rintro i s' hi ⟨tm,h',X,rfl,oX,t3,t7,t8⟩
  have hi':(i:Int)<(ss.length:Int):=by omega
  have sB:=(H.Sub.refl oX.1.wf).add (.cells .rw [.int .i64 (i:Int)])
  simp -implicitDefEqProofs(maxSteps:=999999)(disch:=first|with_reducible rfl|omega|(simp only[nA,nS,nD]<;>omega)|fail)only[go_sem,t3,t7,t8,hi']
  refine(oX.mono sB).app1 (by_:=8) (r:=encI (i:Int)) hw rfl (by omega) ownI_lit rfl (by rw[List.length_map,upN_len];omega) (by rw[List.length_map,upN_len];omega) fun hC oC kC nC=>?_
  rw[H.next_add] at oC
  simp -implicitDefEqProofs(maxSteps:=999999)(disch:=first|with_reducible rfl|omega|(simp only[nA,nS,nD]<;>omega)|fail)only[go_sem,t8,wr_succ]
  exact⟨_,_,_,rfl,by rw[upN_succ,List.map_append];exact oC,(by simp[ev_c,ev_put]<;>rfl),(by simp[ev_c,ev_put,t7]<;>rfl),(by simp[ev_c,ev_put]<;>rfl)⟩
 ·rintro s' ⟨tm,h',X,rfl,oX,t3,t7,t8⟩
  simp -implicitDefEqProofs(maxSteps:=999999)(disch:=first|with_reducible rfl|omega|(simp only[nA,nS,nD]<;>omega)|fail)only[go_sem,t3,t7,t8,Int.lt_irrefl]
  exact q _ _ oX
def f12:List V:=[.bool false,.bool false,.bool false,.bool false,.bool false,.bool false,.bool false,.bool false,.bool false,.bool false,.bool false,.bool false]
abbrev fdV (n t:Nat) (P S B:V) (bO:Nat):List V:=[.int .i64 (n:Int),.int .i64 (t:Int),P,S,B,.sl bO 0 n (.fix n)]
structure Fd (h:H)(d:Nat)(P S B:V)(bO n t:Nat)(ps:List (V × Bool))(ss:List St):Prop where
 g:h.cells d=some (fdV n t P S B bO)
 a:LmAt h P S n t ps ss
 b:SlAt h B 1 ((upN ss.length).map encI)
 o:h.cells bO=some (repN n f12)
theorem Fd.mono {h h':H}{d:Nat}{P S B:V}{bO n t:Nat}{ps:List (V × Bool)}{ss:List St}(f:Fd h d P S B bO n t ps ss)(s:h.Sub h'):Fd h' d P S B bO n t ps ss:=⟨s.cells f.g,f.a.mono s,f.b.mono s,s.cells f.o⟩
set_option maxHeartbeats 8000000 in
theorem fworked_ev {h:H}(hw:h.wf){P S X:V}{n t:Nat}{ps:List (V × Bool)}{ss:List St}(a:LmAt h P S n t ps ss)(k:LmOk n t ss)(aX:SlAt h X 1 ((upN ss.length).map encI))(Q:V→H→Prop)
  (q:∀d B bO h',h.Sub h'→h.next≤d→Fd h' d P S B bO n t ps ss→Q (.ptr d 0) h'):Ev fnG fastA (.fn 82 [] []) [.agg (lmV n t P S),X] h Q:=by
 have p1:=a.p.one
 have s1:=a.s.one
 have lp:=a.p.lenE
 rw[a.len] at lp
 have lX:q_len X=some (.int .i64 (ss.length:Int)):=by have:=aX.lenE;rwa[upN_len] at this
 have k1:=k.nb;have k3:=k.kb
 have am:∀g:H,a_msl g 12 [V.bool false,.bool false,.bool false,.bool false,.bool false,.bool false,.bool false,.bool false,.bool false,.bool false,.bool false,.bool false] (.int .i64 (n:Int)) (.int .i64 (n:Int))=_:=fun g=>a_msl_nn' (by omega) (by omega)
 refine Ev_body (fd:=c82) rfl rfl rfl ?_
 have sA:=((H.Sub.refl hw).add (.cells .rw (lmV n t P S))).add (.cells .rw (repN n f12))
 have e1:(h.add (.cells .rw (lmV n t P S))).next=h.next+1:=H.next_add _ _
 have g2:((h.add (.cells .rw (lmV n t P S))).add (.cells .rw (repN n f12))).get h.next=some (.cells .rw (lmV n t P S)):=by rw[get_add_old (by omega)];exact get_add_new rfl
 have gO:((h.add (.cells .rw (lmV n t P S))).add (.cells .rw (repN n f12))).get (h.next+1)=some (.cells .rw (repN n f12)):=get_add_new e1.symm
 have eA:((h.add (.cells .rw (lmV n t P S))).add (.cells .rw (repN n f12))).next=h.next+2:=by simp only[H.next_add]
 simp only[f12] at sA g2 gO eA
 simp -implicitDefEqProofs(maxSteps:=999999)(disch:=first|with_reducible rfl|omega|(simp only[nA,nS,nD]<;>omega)|fail)only[c82,go_sem,p1,s1,cells_one p1,cells_one s1,lp,am]
 generalize H.add (H.add h _) _=hA at sA g2 gO eA⊢
 have sB:=sA.add (.cells .rw [.int .i64 (n:Int),.int .i64 (t:Int),P,S,.nils,.sl (h.next+1) 0 n (.fix n)])
 have sAB:=(H.Sub.refl sA.wf).add (.cells .rw [.int .i64 (n:Int),.int .i64 (t:Int),P,S,.nils,.sl (h.next+1) 0 n (.fix n)])
 have g5:(hA.add (.cells .rw [.int .i64 (n:Int),.int .i64 (t:Int),P,S,.nils,.sl (h.next+1) 0 n (.fix n)])).get (h.next+2)=some (.cells .rw [.int .i64 (n:Int),.int .i64 (t:Int),P,S,.nils,.sl (h.next+1) 0 n (.fix n)]):=get_add_new eA.symm
 have g2B:=sAB.get g2
 have gOB:=sAB.get gO
 simp only[Nat.add_assoc,Nat.reduceAdd]
 generalize H.add hA _=hB at sB sAB g5 g2B gOB⊢
 clear sAB g2 gO
 simp -implicitDefEqProofs(maxSteps:=999999)(disch:=first|with_reducible rfl|omega|(simp only[nA,nS,nD]<;>omega)|fail)only[go_sem,lX]
 refine W_count ss.length (fun i s'=>∃(tm:Go.Ab.T V) (h':H) (B:V),s'=⟨tm,h',[]⟩∧OwnSl h h' B 1 ((upN i).map encI)∧h'.get (h.next+2)=some (.cells .rw (fdV n t P S B (h.next+1)))∧h'.get h.next=some (.cells .rw (lmV n t P S))∧h'.get (h.next+1)=some (.cells .rw (repN n f12))∧(Opd.t 2).ev tm=.ptr h.next 0∧(Opd.t 5).ev tm=.ptr (h.next+2) 0∧(Opd.t 19).ev tm=X∧(Opd.t 20).ev tm=.int .i64 (ss.length:Int)∧(Opd.t 21).ev tm=.int .i64 (i:Int)) ?_ ?_ (i:=0) (Nat.zero_le _)
  ⟨_,_,.nils,rfl,OwnSl.nil sB 1,g5,g2B,gOB,(by simp[ev_c,ev_put]<;>rfl),(by simp[ev_c,ev_put]<;>rfl),(by simp[ev_c,ev_put]<;>rfl),(by simp[ev_c,ev_put]<;>rfl),(by simp only[ev_put];rfl)⟩
 ·rintro i s' hi ⟨tm,h',B,rfl,oB,g5',g2',gO',t2,t5,t19,t20,t21⟩
  have hi':(i:Int)<(ss.length:Int):=by omega
  have sh:=oB.1
  have ah:=a.mono sh
  obtain⟨b,o,c,cs,_,hc,hq,_,_,hn0⟩:=(aX.mono sh).at (k:=i) (by rw[upN_len];exact hi)
  have v0:nth (o+i*1) cs=some (.int .i64 (i:Int)):=by rw[hn0 (by omega),upN_at];rfl
  obtain⟨b2,o2,c2,cs2,_,hc2,hq2,hg2,_,_⟩:=ah.s.at hi
  simp only[encSt] at hg2
  have sC:=(H.Sub.refl sh.wf).add (.cells .rw [.int .i64 (ss[i].r:Int),.int .i64 (ss[i].lo:Int),.int .i64 (ss[i].hi:Int),.bool true])
  have l5:=H.lt_next sh.wf g5'
  simp -implicitDefEqProofs(maxSteps:=999999)(disch:=first|with_reducible rfl|omega|(simp only[nA,nS,nD]<;>omega)|fail)only[go_sem,t2,t19,t20,t21,hi',hq (nat_cst i),hc,v0,cells_of g2',hq2 (nat_cst i),hc2,hg2]
  have g8:(h'.add (.cells .rw [.int .i64 (ss[i].r:Int),.int .i64 (ss[i].lo:Int),.int .i64 (ss[i].hi:Int),.bool true])).cells h'.next=some [.int .i64 (ss[i].r:Int),.int .i64 (ss[i].lo:Int),.int .i64 (ss[i].hi:Int),.bool true]:=cells_add_new rfl
  have g5C:=sC.get g5'
  have g2C:=sC.get g2'
  have gOC:=sC.get gO'
  have oC:=oB.mono sC
  generalize h'.add _=hC at sC g8 g5C g2C gOC oC⊢
  have sD:=(H.Sub.refl sC.wf).add (.cells .rw [.int .i64 (i:Int)])
  simp -implicitDefEqProofs(maxSteps:=999999)(disch:=first|with_reducible rfl|omega|(simp only[nA,nS,nD]<;>omega)|fail)only[go_sem,t5,g8,cells_of g5C]
  refine(oC.mono sD).app1 (by_:=8) (r:=encI (i:Int)) hw rfl (by omega) ownI_lit rfl (by rw[List.length_map,upN_len];omega) (by rw[List.length_map,upN_len];omega) fun hE oE kE nE=>?_
  have g5D:=sD.get g5C
  have g5E:=kE.2 _ _ g5D ((oC.mono sD).ne g5D)
  have g2E:=kE.2 _ _ (sD.get g2C) ((oC.mono sD).ne (sD.get g2C))
  have gOE:=kE.2 _ _ (sD.get gOC) ((oC.mono sD).ne (sD.get gOC))
  generalize hY:V.sl (H.next _) 0 _ (.slk 0 0)=Y at oE⊢
  have y1:Y.one=true:=by rw[←hY];rfl
  have yc:Y.cells=[Y]:=by rw[←hY];rfl
  simp -implicitDefEqProofs(maxSteps:=999999)(disch:=first|with_reducible rfl|omega|(simp only[nA,nS,nD]<;>omega)|fail)only[go_sem,t5,g5E,y1,yc]
  have kF:Keeps (fun c=>c=h.next+2) hE (hE.set (h.next+2) (.cells .rw (fdV n t P S Y (h.next+1)))):=Keeps.set _ _ _
  have g5F:(hE.set (h.next+2) (.cells .rw (fdV n t P S Y (h.next+1)))).get (h.next+2)=some (.cells .rw (fdV n t P S Y (h.next+1))):=get_set_same rfl
  have sF:h.Sub (hE.set (h.next+2) (.cells .rw (fdV n t P S Y (h.next+1)))):=oE.1.set (by omega) (oE.1.wf _ _ g5E) hw _
  generalize hE.set (h.next+2) _=hF at kF g5F sF⊢
  simp -implicitDefEqProofs(maxSteps:=999999)(disch:=first|with_reducible rfl|omega|(simp only[nA,nS,nD]<;>omega)|fail)only[go_sem,t21,wr_succ]
  exact⟨_,_,Y,rfl,by rw[upN_succ,List.map_append];exact oE.keep kF sF fun b hb hs=>oE.ne g5E (hs▸hb),g5F,kF.2 _ _ g2E (by omega),kF.2 _ _ gOE (by omega),(by simp[ev_c,ev_put,t2]<;>rfl),(by simp[ev_c,ev_put,t5]<;>rfl),(by simp[ev_c,ev_put,t19]<;>rfl),(by simp[ev_c,ev_put,t20]<;>rfl),(by simp[ev_c,ev_put]<;>rfl)⟩
 ·rintro s' ⟨tm,h',B,rfl,oB,g5',g2',gO',t2,t5,t19,t20,t21⟩
  simp -implicitDefEqProofs(maxSteps:=999999)(disch:=first|with_reducible rfl|omega|(simp only[nA,nS,nD]<;>omega)|fail)only[go_sem,t5,t20,t21,Int.lt_irrefl]
  exact q _ _ _ _ oB.1 (by omega) ⟨cells_of g5',a.mono oB.1,oB.sl (by rw[List.length_map,upN_len];omega),cells_of gO'⟩
theorem fopened_ev {h:H}(hw:h.wf){P S:V}{n t:Nat}{ps:List (V × Bool)}{ss:List St}(a:LmAt h P S n t ps ss)(k:LmOk n t ss)(Q:V→H→Prop)
  (q:∀d B bO h',h.Sub h'→h.next≤d→Fd h' d P S B bO n t ps ss→Q (.tup [.ptr d 0,.int .i64 0]) h'):Ev fnG fastA (.fn 62 [] []) [.agg (lmV n t P S)] h Q:=by
 have p1:=a.p.one
 have s1:=a.s.one
 refine Ev_body (fd:=c62) rfl rfl rfl ?_
 have sA:=(H.Sub.refl hw).add (.cells .rw (lmV n t P S))
 have g1:(h.add (.cells .rw (lmV n t P S))).cells h.next=some (lmV n t P S):=cells_add_new rfl
 simp -implicitDefEqProofs(maxSteps:=999999)(disch:=first|with_reducible rfl|omega|(simp only[nA,nS,nD]<;>omega)|fail)only[c62,go_sem,p1,s1,cells_one p1,cells_one s1]
 generalize h.add _=hA at sA g1⊢
 refine fcheck_ev sA.wf (a.mono sA) k _ fun h1 t1=>?_
 have g11:=t1.cells g1
 simp -implicitDefEqProofs(maxSteps:=999999)(disch:=first|with_reducible rfl|omega|(simp only[nA,nS,nD]<;>omega)|fail)only[go_sem,g11,ne_eq,not_true_eq_false]
 refine whole_ev t1.wf ((a.mono sA).mono t1) k.kb _ fun X h2 oX=>?_
 have g12:=oX.1.cells g11
 simp -implicitDefEqProofs(maxSteps:=999999)(disch:=first|with_reducible rfl|omega|(simp only[nA,nS,nD]<;>omega)|fail)only[go_sem,g11,g12,p1,s1,cells_one p1,cells_one s1]
 have s2:=(sA.trans t1).trans oX.1
 refine fworked_ev s2.wf (a.mono s2) k (oX.sl (by rw[List.length_map,upN_len];have:=k.kb;omega)) _ fun d B bO h3 s3 l3 f3=>?_
 have g13:=s3.cells g12
 have hn:=s2.next
 simp -implicitDefEqProofs(maxSteps:=999999)(disch:=first|with_reducible rfl|omega|(simp only[nA,nS,nD]<;>omega)|fail)only[go_sem,g11,g12,g13,p1,s1,cells_one p1,cells_one s1]
 exact q d B bO _ (s2.trans s3) (by omega) f3
end Go.Ab.Tryz
