/- TopMatched: the law. TopMatched: one eye more (plain); pieces of the walk. TopMatched: a piece, a set, all sets. -/
import Derived.Test.YtiabfecpoffidaaG5
import Derived.Test.YtiabfecpoffidaaG6
import Derived.Test.YtiabfecpoffidaaG7
set_option linter.unusedSimpArgs false
set_option linter.unusedVariables false
namespace Go.Ab
def navT:List Bool→C→C
 |[],c=>c
 |b::p,.seq x y=>match b with|true=>navT p y|false=>navT p x
 |b::p,.cond _ x y=>match b with|true=>navT p y|false=>navT p x
 |_::p,.block _ x=>navT p x
 |_::p,.loop x=>navT p x
 |_::p,.scope x=>navT p x
 |_::_,c=>c
namespace Try
theorem cut_rdI {F:Nat→Prop}{h:H}{x:V}{S:List (List Int)}(a:LsCut F h x (S.map fun l=>l.map encI))(hl:S.length≤1000)(hll:∀l∈S,l.length≤1000):RdI h x S:=by
 obtain⟨xs,a1,a2,a3,_⟩:=a
 rw[List.length_map] at a2
 refine⟨xs,a1.sl (by simp only[List.length_map];omega),a2,fun i hi hj=>?_⟩
 have h1:=(a3 i hi (by rw[List.length_map];exact hj)).1
 rw[List.getElem_map] at h1
 have:=hll _ (List.getElem_mem hj)
 exact .inl (h1.sl (by simp only[List.length_map];omega))
def eyeT (t:Tb)(e:Ey):Tb:=⟨t.eyes++[e],t.lights,t.pieces⟩
theorem eyeT_good {t:Tb}{e:Ey}(g:Good t)(h5:t.eyes.length≤5)(he:InS e.s 4∧1≤e.frm∧e.frm≤400):Good (eyeT t e):=
 ⟨by simp only[eyeT,List.length_append,List.length_singleton];omega,g.lights,g.pieces,fun x hx=>by
  rcases List.mem_append.1 hx with h|h
  ·exact g.eye x h
  ·rw[List.mem_singleton] at h;rw[h];exact he,g.light,g.piece⟩
theorem eyeT_mT {t:Tb}{e:Ey}(g:Good t)(gu:Good (eyeT t e)){x y:Int}(h:mT (eyeT t e) x y=true):mT t x y=true:=by
 have al:∀a b,alike (eyeT t e) a b=true→alike t a b=true:=fun a b h=>by
  rw[alike_iff gu] at h
  rw[alike_iff g]
  intro i k hi hk
  have:=h i k (by simp only[eyeT,List.length_append,List.length_singleton];omega) hk
  simp only[tellsAt,eyeT,List.getElem?_append_left hi] at this
  simp only[tellsAt]
  exact this
 unfold mT matchB at h⊢
 have e1:(eyeT t e).pieces=t.pieces:=rfl
 rw[e1] at h
 cases h1:t.pieces[x.toNat]? with
 |none=>rw[h1] at h;exact h
 |some a=>
  cases h2:t.pieces[y.toNat]? with
  |none=>rw[h1,h2] at h;exact h
  |some b=>rw[h1,h2] at h;exact al a b h
theorem Srt.weak {T U:Int→Int→Bool}{n:Nat}{S:List (List Int)}(a:Srt T n S)(h:∀x y,T x y=true→U x y=true):Srt U n S:=
 ⟨a.ne,a.up,fun l hl=>(a.go l hl).imp fun{x y} hxy=>h x y hxy,a.all⟩
structure Kp (hq hA:H)(sp:Nat)(y:V)(T:Int)(h:H):Prop where
 s:hq.Sub h
 k:Keeps (fun c=>c=sp) hA h
 p:SpAt h sp y T
theorem Kp.mono {hq hA h h':H}{sp:Nat}{y:V}{T:Int}(a:Kp hq hA sp y T h)(s:h.Sub h'):Kp hq hA sp y T h':=
 ⟨a.s.trans s,(a.k.trans (Keeps.of s fun c=>c=sp)).mono fun c h=>by rcases h with h|h<;>exact h,a.p.mono s⟩
theorem Kp.upto {hq hA h:H}{sp:Nat}{y:V}{bs:List Int}{T:Int}(a:Kp hq hA sp y T h)(hw:hq.wf)(hy:SlAt hq y 1 (bs.map encU8))(h0:hq.next≤sp)(hT:0≤T∧T≤1000000000){n:Int}(hn:0≤n∧n≤1000000000)(Q:V→H→Prop)
  (q:∀r h',0≤r→r≤n→Kp hq hA sp y (T+1) h'→Keeps (fun c=>c=sp) h h'→h'.next=h.next→Q (.int .i64 r) h'):Ev fnG fastA (.fn 8 [] []) [.ptr sp 0,.int .i64 n] h Q:=
 Upto_ev a.s hw hy h0 a.p hT (by omega) Q fun r h' r0 r1 s' p' k' n'=>q r h' r0 (by omega) ⟨s',(a.k.trans k').mono fun c h=>by rcases h with h|h<;>exact h,p'⟩ k' n'
set_option maxRecDepth 8000 in
set_option maxHeartbeats 8000000 in
theorem rules_ev {h:H}(hw:h.wf){n:Nat}(hn:n≤5){ys v5 v6:V}(ly:q_len ys=some (.int .i64 (n:Int)))(tm:Go.Ab.T V)(t5:(Opd.t 5).ev tm=v5)(t6:(Opd.t 6).ev tm=v6)(t7:(Opd.t 7).ev tm=ys)(t13:(Opd.t 13).ev tm=.nils):
  W fnG fastA 215 3 none (navT [true,true,true,true,true,true,true,true,true,true,true,false] c3.body) ⟨tm,h,[]⟩ fun x1 s=>x1=.nrm∧∃(tm':Go.Ab.T V) (h':H) (l:V),s=⟨tm',h',[]⟩∧OwnSl h h' l 4 ((List.range n).map encRu)∧
   (Opd.t 5).ev tm'=v5∧(Opd.t 6).ev tm'=v6∧(Opd.t 7).ev tm'=ys∧(Opd.t 13).ev tm'=l:=by
 simp only[navT,c3]
 simp -implicitDefEqProofs(maxSteps:=999999)(disch:=first|with_reducible rfl|omega|(simp only[nA,nS,nD]<;>omega)|fail)only[go_sem,t7,ly]
 refine W_count n (fun i s=>∃tm h' l,s=⟨tm,h',[]⟩∧OwnSl h h' l 4 ((List.range i).map encRu)∧(Opd.t 5).ev tm=v5∧(Opd.t 6).ev tm=v6∧(Opd.t 7).ev tm=ys∧(Opd.t 13).ev tm=l∧(Opd.t 98).ev tm=.int .i64 (n:Int)∧(Opd.t 99).ev tm=.int .i64 (i:Int)) ?_ ?_ (i:=0) (Nat.zero_le _)
  ⟨_,_,.nils,rfl,OwnSl.nil (H.Sub.refl hw) 4,(by simp[ev_c,ev_put,t5]<;>rfl),(by simp[ev_c,ev_put,t6]<;>rfl),(by simp[ev_c,ev_put,t7]<;>rfl),(by simp[ev_c,ev_put,t13]<;>rfl),(by simp[ev_c,ev_put]<;>rfl),(by simp only[ev_put];rfl)⟩<;>clear t5 t6 t7 t13
 ·rintro i s hi ⟨tm,h',l,rfl,ol,t5,t6,t7,t13,t98,t99⟩
  have hi':(i:Int)<(n:Int):=by omega
  have w1:wr .i64 (10+(i:Int))=10+(i:Int):=wr_in (by omega) (by omega)
  have sC:=(H.Sub.refl ol.1.wf).add (.cells .rw (encRu i))
  simp only[encRu] at sC
  simp -implicitDefEqProofs(maxSteps:=999999)(disch:=first|with_reducible rfl|omega|(simp only[nA,nS,nD]<;>omega)|fail)only[go_sem,t5,t6,t7,t13,t98,t99,hi',w1]
  refine(ol.mono sC).app1 (by_:=32) (r:=encRu i) hw rfl (by omega) (SlAt.new _ rfl rfl (by simp[encRu]) (by simp[encRu]) (by simp)) rfl (by rw[List.length_map,List.length_range];omega) (by rw[List.length_map,List.length_range];omega) fun h4 o4 k4 n4=>?_
  rw[H.next_add] at o4
  simp -implicitDefEqProofs(maxSteps:=999999)(disch:=first|with_reducible rfl|omega|(simp only[nA,nS,nD]<;>omega)|fail)only[go_sem,t5,t6,t7,t13,t98,t99,wr_succ]
  exact⟨_,_,_,rfl,by first|(rw[List.range_succ,List.map_append];exact o4)|(rw[List.map_append];exact o4),(by simp[ev_c,ev_put,t5]<;>rfl),(by simp[ev_c,ev_put,t6]<;>rfl),(by simp[ev_c,ev_put,t7]<;>rfl),(by simp[ev_c,ev_put]<;>rfl),(by simp[ev_c,ev_put,t98]<;>rfl),(by simp[ev_c,ev_put]<;>rfl)⟩
 ·rintro s ⟨tm,h',l,rfl,ol,t5,t6,t7,t13,t98,t99⟩
  simp -implicitDefEqProofs(maxSteps:=999999)(disch:=first|with_reducible rfl|omega|(simp only[nA,nS,nD]<;>omega)|fail)only[go_sem,t98,t99,Int.lt_irrefl]
  exact⟨_,_,l,rfl,ol,(by simp[ev_c,ev_put,t5]<;>rfl),(by simp[ev_c,ev_put,t6]<;>rfl),(by simp[ev_c,ev_put,t7]<;>rfl),(by simp[ev_c,ev_put,t13]<;>rfl)⟩
set_option maxRecDepth 8000 in
set_option maxHeartbeats 8000000 in
theorem ahead_ev {h:H}{t:Tb}{X Y Z:V}{b7 i k:Nat}{row v6 v7 v13 v15 v110 v111 v112:V}{r:List Int}{F:Nat→Prop}(hw:h.wf)(g:Good t)(gT:h.cells b7=some [X,Y,Z])(ht:TbIs h (.agg [X,Y,Z]) t)(cr:CutO F h row 1 (r.map encI))(hr:r.length≤1000)(hi:i<r.length)(hin:∀a∈r,0≤a∧a<(t.pieces.length:Int))(hgo:r.Pairwise fun a b=>mT t a b=true)
  (tm:Go.Ab.T V) (t5:(Opd.t 5).ev tm=.ptr b7 0) (t6:(Opd.t 6).ev tm=v6) (t7:(Opd.t 7).ev tm=v7) (t13:(Opd.t 13).ev tm=v13) (t15:(Opd.t 15).ev tm=v15) (t16:(Opd.t 16).ev tm=.int .i64 (k:Int)) (t17:(Opd.t 17).ev tm=row) (t18:(Opd.t 18).ev tm=.int .i64 (i:Int)) (t19:(Opd.t 19).ev tm=.int .i64 r[i]) (t110:(Opd.t 110).ev tm=v110) (t111:(Opd.t 111).ev tm=v111) (t112:(Opd.t 112).ev tm=v112)
  (t117:(Opd.t 117).ev tm=row) (t118:(Opd.t 118).ev tm=.int .i64 (r.length:Int)) (t119:(Opd.t 119).ev tm=.int .i64 (i:Int)):
  W fnG fastA 215 3 none (navT [true,true,true,true,true,true,true,true,true,true,true,true,true,false,true,true,true,true,true,false,true,true,false,true,true,true,true,true,false,true,true,true,true,false] c3.body) ⟨tm,h,[]⟩ fun x1 s=>x1=.nrm∧∃(tm':Go.Ab.T V) (h':H),s=⟨tm',h',[]⟩∧h.Sub h'∧
   (Opd.t 5).ev tm'=.ptr b7 0∧(Opd.t 6).ev tm'=v6∧(Opd.t 7).ev tm'=v7∧(Opd.t 13).ev tm'=v13∧(Opd.t 15).ev tm'=v15∧(Opd.t 16).ev tm'=.int .i64 (k:Int)∧(Opd.t 17).ev tm'=row∧(Opd.t 110).ev tm'=v110∧(Opd.t 111).ev tm'=v111∧(Opd.t 112).ev tm'=v112∧(Opd.t 117).ev tm'=row∧(Opd.t 118).ev tm'=.int .i64 (r.length:Int)∧(Opd.t 119).ev tm'=.int .i64 (i:Int):=by
 simp only[navT,c3]
 obtain⟨y,hy,ay⟩:=cr.tk (by omega) (by rw[List.length_map];omega) (k:=i) (by rw[List.length_map];exact hi)
 rw[←List.map_take] at ay
 have lyy:=ay.lenE
 have hti:(r.take i).length=i:=by rw[List.length_take];omega
 rw[hti] at lyy
 simp -implicitDefEqProofs(maxSteps:=999999)(disch:=first|with_reducible rfl|omega|(simp only[nA,nS,nD]<;>omega)|fail)only[go_sem,t17,t18,q_slc_to,hy,lyy]
 refine W_count i (fun j s=>∃tm h',s=⟨tm,h',[]⟩∧h.Sub h'∧(Opd.t 5).ev tm=.ptr b7 0∧(Opd.t 6).ev tm=v6∧(Opd.t 7).ev tm=v7∧(Opd.t 13).ev tm=v13∧(Opd.t 15).ev tm=v15∧(Opd.t 16).ev tm=.int .i64 (k:Int)∧(Opd.t 17).ev tm=row∧(Opd.t 19).ev tm=.int .i64 r[i]∧(Opd.t 110).ev tm=v110∧(Opd.t 111).ev tm=v111∧(Opd.t 112).ev tm=v112∧(Opd.t 117).ev tm=row∧(Opd.t 118).ev tm=.int .i64 (r.length:Int)∧(Opd.t 119).ev tm=.int .i64 (i:Int)∧
   (Opd.t 156).ev tm=y∧(Opd.t 157).ev tm=.int .i64 (i:Int)∧(Opd.t 158).ev tm=.int .i64 (j:Int)) ?_ ?_ (i:=0) (Nat.zero_le _)
  ⟨_,_,rfl,H.Sub.refl hw,(by simp[ev_c,ev_put,t5]<;>rfl),(by simp[ev_c,ev_put,t6]<;>rfl),(by simp[ev_c,ev_put,t7]<;>rfl),(by simp[ev_c,ev_put,t13]<;>rfl),(by simp[ev_c,ev_put,t15]<;>rfl),(by simp[ev_c,ev_put,t16]<;>rfl),(by simp[ev_c,ev_put,t17]<;>rfl),(by simp[ev_c,ev_put,t19]<;>rfl),(by simp[ev_c,ev_put,t110]<;>rfl),(by simp[ev_c,ev_put,t111]<;>rfl),(by simp[ev_c,ev_put,t112]<;>rfl),(by simp[ev_c,ev_put,t117]<;>rfl),(by simp[ev_c,ev_put,t118]<;>rfl),(by simp[ev_c,ev_put,t119]<;>rfl),(by simp[ev_c,ev_put]<;>rfl),(by simp[ev_c,ev_put]<;>rfl),(by simp only[ev_put];rfl)⟩<;>clear t5 t6 t7 t13 t15 t16 t17 t18 t19 t110 t111 t112 t117 t118 t119
 ·rintro j s hj ⟨tm,h',rfl,s1,t5,t6,t7,t13,t15,t16,t17,t19,t110,t111,t112,t117,t118,t119,t156,t157,t158⟩
  have hj':(j:Int)<(i:Int):=by omega
  have hjl:j<(r.take i).length:=by omega
  obtain⟨b4,o4,c4',cs4,_,hc4,hq4,_,_,hn4⟩:=(ay.mono s1).at hjl
  have ea:(r.take i)[j]=r[j]:=List.getElem_take
  have hv:nth (o4+j*1) cs4=some (.int .i64 r[j]):=by rw[hn4 (by omega),ea];rfl
  have m1:=hin _ (List.getElem_mem hi)
  have m2:=hin _ (List.getElem_mem (show j<r.length by omega))
  have hm:mT t r[i] r[j]=true:=by rw[mT_comm g];exact List.pairwise_iff_getElem.1 hgo j i (by omega) hi hj
  have mE:matchE t r[i] r[j]=0:=by
   unfold matchE
   rw[if_neg (by rw[check_iff.2 g];simp),if_neg]
   intro h
   rcases h with h|h
   ·rw[show isPc t r[i]=true from decide_eq_true (by omega)] at h;cases h
   ·rw[show isPc t r[j]=true from decide_eq_true (by omega)] at h;cases h
  have mR:matchR t r[i] r[j]=true:=by unfold matchR;rw[mE];simpa[mT] using hm
  simp -implicitDefEqProofs(maxSteps:=999999)(disch:=first|with_reducible rfl|omega|(simp only[nA,nS,nD]<;>omega)|fail)only[go_sem,t5,t19,t156,t157,t158,hj',hq4 (nat_cst j),hc4,hv,s1.cells gT]
  refine Match_ev s1.wf (ht.mono s1) r[i] r[j] _ fun h2 s2=>?_
  rw[mR,mE]
  simp -implicitDefEqProofs(maxSteps:=999999)(disch:=first|with_reducible rfl|omega|(simp only[nA,nS,nD]<;>omega)|fail)only[go_sem,t5,t6,t7,t13,t15,t16,t17,t19,t110,t111,t112,t117,t118,t119,t156,t157,t158,ne_eq,not_true_eq_false,Bool.not_true,wr_succ]
  exact⟨_,_,rfl,s1.trans s2,(by simp[ev_c,ev_put,t5]<;>rfl),(by simp[ev_c,ev_put,t6]<;>rfl),(by simp[ev_c,ev_put,t7]<;>rfl),(by simp[ev_c,ev_put,t13]<;>rfl),(by simp[ev_c,ev_put,t15]<;>rfl),(by simp[ev_c,ev_put,t16]<;>rfl),(by simp[ev_c,ev_put,t17]<;>rfl),(by simp[ev_c,ev_put,t19]<;>rfl),(by simp[ev_c,ev_put,t110]<;>rfl),(by simp[ev_c,ev_put,t111]<;>rfl),(by simp[ev_c,ev_put,t112]<;>rfl),(by simp[ev_c,ev_put,t117]<;>rfl),(by simp[ev_c,ev_put,t118]<;>rfl),(by simp[ev_c,ev_put,t119]<;>rfl),(by simp[ev_c,ev_put,t156]<;>rfl),(by simp[ev_c,ev_put,t157]<;>rfl),(by simp[ev_c,ev_put]<;>rfl)⟩
 ·rintro s ⟨tm,h',rfl,s1,t5,t6,t7,t13,t15,t16,t17,t19,t110,t111,t112,t117,t118,t119,t156,t157,t158⟩
  simp -implicitDefEqProofs(maxSteps:=999999)(disch:=first|with_reducible rfl|omega|(simp only[nA,nS,nD]<;>omega)|fail)only[go_sem,t157,t158,Int.lt_irrefl]
  exact⟨_,_,rfl,s1,(by simp[ev_c,ev_put,t5]<;>rfl),(by simp[ev_c,ev_put,t6]<;>rfl),(by simp[ev_c,ev_put,t7]<;>rfl),(by simp[ev_c,ev_put,t13]<;>rfl),(by simp[ev_c,ev_put,t15]<;>rfl),(by simp[ev_c,ev_put,t16]<;>rfl),(by simp[ev_c,ev_put,t17]<;>rfl),(by simp[ev_c,ev_put,t110]<;>rfl),(by simp[ev_c,ev_put,t111]<;>rfl),(by simp[ev_c,ev_put,t112]<;>rfl),(by simp[ev_c,ev_put,t117]<;>rfl),(by simp[ev_c,ev_put,t118]<;>rfl),(by simp[ev_c,ev_put,t119]<;>rfl)⟩
end Try
end Go.Ab
namespace Go.Ab.Try
theorem wt_feq (a:Int):q_feq true 3 (.agg [.int .i64 0,.int .i64 a,.int .i64 0]) (.agg [.int .i64 0,.int .i64 a,.int .i64 0])=some (.bool false):=by
 have h:=q_feq_map (n:=3) [0,a,0] [0,a,0] rfl rfl true
 have e:decide (([0,a,0]:List Int)=[0,a,0])=true:=decide_eq_true rfl
 rw[e] at h
 exact h
structure Env (hq hA:H)(sp:Nat)(y:V)(bs:List Int)(t:Tb)(X Y Z:V)(b7:Nat)(l:V)(n:Nat):Prop where
 w:hq.wf
 y:SlAt hq y 1 (bs.map encU8)
 sp0:hq.next≤sp
 g:Good t
 ht:TbIs hq (.agg [X,Y,Z]) t
 gT:hA.cells b7=some [X,Y,Z]
 ne:b7≠sp
 l:∃F,CutO F hA l 4 ((List.range n).map encRu)∧∀b,blkOf l b→b≠sp
 n5:n≤5
set_option maxRecDepth 8000 in
set_option maxHeartbeats 8000000 in
theorem pieceT_ev {hq hA h:H}{sp:Nat}{y:V}{bs:List Int}{t:Tb}{X Y Z:V}{b7:Nat}{l:V}{n:Nat}(E:Env hq hA sp y bs t X Y Z b7 l n){T:Int}(kp:Kp hq hA sp y T h)(hT:0≤T∧T≤1000){k i:Nat}(hk:k<n){F:Nat→Prop}{row:V}{r:List Int}(cr:CutO F hA row 1 (r.map encI))(nr:∀b,blkOf row b→b≠sp)(hr:r.length≤1000)(hi:i<r.length)(hin:∀a∈r,0≤a∧a<(t.pieces.length:Int))(hgo:r.Pairwise fun a b=>mT t a b=true)
  {met:Nat} (hmet:met≤1000) {v7 v110 v111 v112:V} (tm:Go.Ab.T V) (t5:(Opd.t 5).ev tm=.ptr b7 0) (t6:(Opd.t 6).ev tm=.ptr sp 0) (t7:(Opd.t 7).ev tm=v7) (t13:(Opd.t 13).ev tm=l) (t15:(Opd.t 15).ev tm=.int .i64 (met:Int)) (t16:(Opd.t 16).ev tm=.int .i64 (k:Int)) (t17:(Opd.t 17).ev tm=row) (t110:(Opd.t 110).ev tm=v110) (t111:(Opd.t 111).ev tm=v111) (t112:(Opd.t 112).ev tm=v112)
  (t117:(Opd.t 117).ev tm=row) (t118:(Opd.t 118).ev tm=.int .i64 (r.length:Int)) (t119:(Opd.t 119).ev tm=.int .i64 (i:Int)):
  W fnG fastA 215 3 none (navT [true,true,true,true,true,true,true,true,true,true,true,true,true,false,true,true,true,true,true,false,true,true,false,true,true,true,true,true,false,true] c3.body) ⟨tm,h,[]⟩ fun x1 s=>x1=.nrm∧∃(tm':Go.Ab.T V) (h':H),s=⟨tm',h',[]⟩∧Kp hq hA sp y (T+2) h'∧
   (Opd.t 5).ev tm'=.ptr b7 0∧(Opd.t 6).ev tm'=.ptr sp 0∧(Opd.t 7).ev tm'=v7∧(Opd.t 13).ev tm'=l∧(Opd.t 15).ev tm'=.int .i64 ((met+1:Nat):Int)∧(Opd.t 16).ev tm'=.int .i64 (k:Int)∧(Opd.t 17).ev tm'=row∧(Opd.t 110).ev tm'=v110∧(Opd.t 111).ev tm'=v111∧(Opd.t 112).ev tm'=v112∧(Opd.t 117).ev tm'=row∧(Opd.t 118).ev tm'=.int .i64 (r.length:Int)∧(Opd.t 119).ev tm'=.int .i64 (i:Int):=by
 obtain⟨R1,hR1⟩:∃R,navT [true,true,true,true,true,true,true,true,true,true,true,true,true,false,true,true,true,true,true,false,true,true,false,true,true,true,true,true,false,true,true,true,true,false] c3.body=R:=⟨_,rfl⟩
 have r1:= @ahead_ev
 rw[hR1] at r1
 simp only[navT,c3] at hR1
 simp only[navT,c3]
 rw[hR1]
 clear hR1
 obtain⟨Fl,cl,nl⟩:=E.l
 have n5:=E.n5
 have crh:=cr.keep kp.k nr
 have hi':(i:Int)<(r.length:Int):=by omega
 obtain⟨b4,o4,c4',cs4,_,hc4,hq4,_,_,hn4⟩:=(crh.sl (by rw[List.length_map];omega)).at hi
 have hv:nth (o4+i*1) cs4=some (.int .i64 r[i]):=by rw[hn4 (by omega)];rfl
 simp -implicitDefEqProofs(maxSteps:=999999)(disch:=first|with_reducible rfl|omega|(simp only[nA,nS,nD]<;>omega)|fail)only[go_sem,t117,t119,hq4 (nat_cst i),hc4,hv,t6,t13]
 refine kp.upto E.w E.y E.sp0 (by omega) (n:=3) (by omega) _ fun p1 h1 p10 p11 kp1 k1 _=>?_
 simp -implicitDefEqProofs(maxSteps:=999999)(disch:=first|with_reducible rfl|omega|(simp only[nA,nS,nD]<;>omega)|fail)only[go_sem,t6,t16]
 refine kp1.upto E.w E.y E.sp0 (by omega) (n:=2) (by omega) _ fun p2 h2 p20 p21 kp2 k2 _=>?_
 have c2:=cl.keep kp2.k nl
 have hlr:(List.range n).length=n:=List.length_range
 simp -implicitDefEqProofs(maxSteps:=999999)(disch:=first|with_reducible rfl|omega|(simp only[nA,nS,nD]<;>omega)|fail)only[go_sem,t13]
 refine price_ev kp2.s.wf c2 (by omega) List.nodup_range (fun s hs=>by have:=List.mem_range.1 hs;omega) ⟨p10,p11⟩ (p:=(k:Int)) (by omega) ⟨p20,p21⟩ _ fun h3 s3=>?_
 have hs:hasS (List.range n) (k:Int)=true:=by rw[has_range,decide_eq_true hk]
 have eP:prP (List.range n) (k:Int)=10+(k:Int):=by simp[prP,hs]
 have eE:erP (List.range n) (k:Int)=0:=by simp[erP,hs]
 rw[eP,eE]
 have kp3:=kp2.mono s3
 have w1:wr .i64 (10+(k:Int))=10+(k:Int):=wr_in (by omega) (by omega)
 have m1:=hin _ (List.getElem_mem hi)
 have na:¬r[i]<0:=by omega
 have nb:¬(t.pieces.length:Int)≤r[i]:=by omega
 have gT3:=kp3.k.cells E.gT E.ne
 have ht3:=E.ht.mono kp3.s
 obtain⟨_,_,_,e0,aE,aL,aP⟩:=id ht3
 cases e0
 have lP:=aP.lenE
 simp -implicitDefEqProofs(maxSteps:=999999)(disch:=first|with_reducible rfl|omega|(simp only[nA,nS,nD]<;>omega)|fail)only[go_sem,t5,t16,gT3,lP,w1,na,nb,ne_eq,not_true_eq_false]
 have cr3:=cr.keep kp3.k nr
 refine(r1 (row:=row) (v6:=.ptr sp 0) (v7:=v7) (v13:=l) (v15:=.int .i64 (met:Int)) (v110:=v110) (v111:=v111) (v112:=v112) kp3.s.wf E.g gT3 ht3 cr3 hr hi hin hgo _ (by simp[ev_c,ev_put,t5]<;>rfl) (by simp[ev_c,ev_put,t6]<;>rfl) (by simp[ev_c,ev_put,t7]<;>rfl) (by simp[ev_c,ev_put,t13]<;>rfl) (by simp[ev_c,ev_put,t15]<;>rfl) (by simp[ev_c,ev_put,t16]<;>rfl) (by simp[ev_c,ev_put,t17]<;>rfl) (by simp[ev_c,ev_put]<;>rfl) (by simp[ev_c,ev_put]<;>rfl) (by simp[ev_c,ev_put,t110]<;>rfl) (by simp[ev_c,ev_put,t111]<;>rfl) (by simp[ev_c,ev_put,t112]<;>rfl) (by simp[ev_c,ev_put,t117]<;>rfl) (by simp[ev_c,ev_put,t118]<;>rfl) (by simp[ev_c,ev_put,t119]<;>rfl)).mono fun x1 s hx1=>?_
 clear t5 t6 t7 t13 t15 t16 t17 t110 t111 t112 t117 t118 t119
 obtain⟨rfl,tm,h4,rfl,s4,t5,t6,t7,t13,t15,t16,t17,t110,t111,t112,t117,t118,t119⟩:=hx1
 simp -implicitDefEqProofs(maxSteps:=999999)(disch:=first|with_reducible rfl|omega|(simp only[nA,nS,nD]<;>omega)|fail)only[go_sem,t15,wr_succ]
 have kp4:=kp3.mono s4
 rw[show T+1+1=T+2 by omega] at kp4
 exact⟨_,_,rfl,kp4,(by simp[ev_c,ev_put,t5]<;>rfl),(by simp[ev_c,ev_put,t6]<;>rfl),(by simp[ev_c,ev_put,t7]<;>rfl),(by simp[ev_c,ev_put,t13]<;>rfl),(by simp[ev_c,ev_put]<;>rfl),(by simp[ev_c,ev_put,t16]<;>rfl),(by simp[ev_c,ev_put,t17]<;>rfl),(by simp[ev_c,ev_put,t110]<;>rfl),(by simp[ev_c,ev_put,t111]<;>rfl),(by simp[ev_c,ev_put,t112]<;>rfl),(by simp[ev_c,ev_put,t117]<;>rfl),(by simp[ev_c,ev_put,t118]<;>rfl),(by simp[ev_c,ev_put,t119]<;>rfl)⟩
set_option maxRecDepth 8000 in
set_option maxHeartbeats 8000000 in
theorem setT_ev {hq hA h:H}{sp:Nat}{y:V}{bs:List Int}{t:Tb}{X Y Z:V}{b7:Nat}{l:V}{n:Nat}(E:Env hq hA sp y bs t X Y Z b7 l n){T:Int}(kp:Kp hq hA sp y T h)(hT:0≤T∧T≤800){S:List (List Int)}{Fy:Nat→Prop}{ys:V}(cy:LsCut Fy hA ys (eS S))(ny:∀b,Fy b→b≠sp)(hS:S.length=n)(aS:Srt (mT t) t.pieces.length S){k:Nat}(hk:k<n)
  {met:Nat} (hmet:met≤900) (tm:Go.Ab.T V) (t5:(Opd.t 5).ev tm=.ptr b7 0) (t6:(Opd.t 6).ev tm=.ptr sp 0) (t7:(Opd.t 7).ev tm=ys) (t13:(Opd.t 13).ev tm=l) (t15:(Opd.t 15).ev tm=.int .i64 (met:Int)) (t110:(Opd.t 110).ev tm=ys) (t111:(Opd.t 111).ev tm=.int .i64 (n:Int)) (t112:(Opd.t 112).ev tm=.int .i64 (k:Int)):
  W fnG fastA 215 3 none (navT [true,true,true,true,true,true,true,true,true,true,true,true,true,false,true,true,true,true,true,false,true] c3.body) ⟨tm,h,[]⟩ fun x1 s=>x1=.nrm∧∃(tm':Go.Ab.T V) (h':H),s=⟨tm',h',[]⟩∧Kp hq hA sp y (T+2*((S.getD k []).length:Int)) h'∧
   (Opd.t 5).ev tm'=.ptr b7 0∧(Opd.t 6).ev tm'=.ptr sp 0∧(Opd.t 7).ev tm'=ys∧(Opd.t 13).ev tm'=l∧(Opd.t 15).ev tm'=.int .i64 ((met+(S.getD k []).length:Nat):Int)∧(Opd.t 110).ev tm'=ys∧(Opd.t 111).ev tm'=.int .i64 (n:Int)∧(Opd.t 112).ev tm'=.int .i64 (k:Int):=by
 obtain⟨R1,hR1⟩:∃R,navT [true,true,true,true,true,true,true,true,true,true,true,true,true,false,true,true,true,true,true,false,true,true,false,true,true,true,true,true,false,true] c3.body=R:=⟨_,rfl⟩
 have r1:= @pieceT_ev
 rw[hR1] at r1
 simp only[navT,c3] at hR1
 simp only[navT,c3]
 rw[hR1]
 clear hR1
 obtain⟨Fl,cl,nl⟩:=E.l
 have n5:=E.n5
 have gp:=E.g.pieces
 have hkS:k<S.length:=by omega
 obtain⟨b,o,kk,cs,v,hq1,hb,_,hv,cv,_,_,fb,_⟩:=cy.at (by rw[eS,List.length_map];omega) (i:=k) (by rw[eS,List.length_map];exact hkS)
 have cr:CutO Fy hA v 1 (S[k].map encI):=by
  have:=cv
  simp only[eS,List.getElem_map] at this
  exact this
 have nr:∀c,blkOf v c→c≠sp:=fun c hc=>ny c (cr.blk hc).1
 have hm:=List.getElem_mem hkS
 have hin:∀a∈S[k],0≤a∧a<(t.pieces.length:Int):=fun a ha=>aS.mem hm ha
 have hgo:=aS.go _ hm
 have hlen:S[k].length≤9:=by
  have:=nodup_len ((aS.up _ hm).imp fun h=>by omega) hin
  omega
 have eG:S.getD k []=S[k]:=by rw[List.getD_eq_getElem?_getD,List.getElem?_eq_getElem hkS];rfl
 rw[eG]
 have gb:=cells_of (kp.k.2 _ _ hb (ny b fb))
 have lr:=((cr.keep kp.k nr).sl (by rw[List.length_map];omega)).lenE
 simp -implicitDefEqProofs(maxSteps:=999999)(disch:=first|with_reducible rfl|omega|(simp only[nA,nS,nD]<;>omega)|fail)only[go_sem,t110,t112,hq1,gb,hv,lr]
 refine W_count S[k].length (fun i s=>∃tm h',s=⟨tm,h',[]⟩∧Kp hq hA sp y (T+2*(i:Int)) h'∧(Opd.t 5).ev tm=.ptr b7 0∧(Opd.t 6).ev tm=.ptr sp 0∧(Opd.t 7).ev tm=ys∧(Opd.t 13).ev tm=l∧(Opd.t 15).ev tm=.int .i64 ((met+i:Nat):Int)∧(Opd.t 16).ev tm=.int .i64 (k:Int)∧(Opd.t 17).ev tm=v∧(Opd.t 110).ev tm=ys∧(Opd.t 111).ev tm=.int .i64 (n:Int)∧(Opd.t 112).ev tm=.int .i64 (k:Int)∧
   (Opd.t 117).ev tm=v∧(Opd.t 118).ev tm=.int .i64 (S[k].length:Int)∧(Opd.t 119).ev tm=.int .i64 (i:Int)) ?_ ?_ (i:=0) (Nat.zero_le _)
  ⟨_,_,rfl,by simpa using kp,(by simp[ev_c,ev_put,t5]<;>rfl),(by simp[ev_c,ev_put,t6]<;>rfl),(by simp[ev_c,ev_put,t7]<;>rfl),(by simp[ev_c,ev_put,t13]<;>rfl),(by simp[ev_c,ev_put,t15]<;>rfl),(by simp[ev_c,ev_put]<;>rfl),(by simp[ev_c,ev_put]<;>rfl),(by simp[ev_c,ev_put,t110]<;>rfl),(by simp[ev_c,ev_put,t111]<;>rfl),(by simp[ev_c,ev_put,t112]<;>rfl),(by simp[ev_c,ev_put]<;>rfl),(by simp[ev_c,ev_put]<;>rfl),(by simp only[ev_put];rfl)⟩<;>clear t5 t6 t7 t13 t15 t110 t111 t112
 ·rintro i s hi ⟨tm,h',rfl,kp1,t5,t6,t7,t13,t15,t16,t17,t110,t111,t112,t117,t118,t119⟩
  have hi':(i:Int)<(S[k].length:Int):=by omega
  simp -implicitDefEqProofs(maxSteps:=999999)(disch:=first|with_reducible rfl|omega|(simp only[nA,nS,nD]<;>omega)|fail)only[go_sem,t118,t119,hi']
  refine(r1 E kp1 (by omega) hk cr nr (by omega) hi hin hgo (met:=met+i) (by omega) (v7:=ys) (v110:=ys) (v111:=.int .i64 (n:Int)) (v112:=.int .i64 (k:Int)) _ (by simp[ev_c,ev_put,t5]<;>rfl) (by simp[ev_c,ev_put,t6]<;>rfl) (by simp[ev_c,ev_put,t7]<;>rfl) (by simp[ev_c,ev_put,t13]<;>rfl) (by simp[ev_c,ev_put,t15]<;>rfl) (by simp[ev_c,ev_put,t16]<;>rfl) (by simp[ev_c,ev_put,t17]<;>rfl) (by simp[ev_c,ev_put,t110]<;>rfl) (by simp[ev_c,ev_put,t111]<;>rfl) (by simp[ev_c,ev_put,t112]<;>rfl) (by simp[ev_c,ev_put,t117]<;>rfl) (by simp[ev_c,ev_put,t118]<;>rfl) (by simp[ev_c,ev_put,t119]<;>rfl)).mono fun x1 s hx1=>?_
  clear t5 t6 t7 t13 t15 t16 t17 t110 t111 t112 t117 t118 t119
  obtain⟨rfl,tm,h4,rfl,kp4,t5,t6,t7,t13,t15,t16,t17,t110,t111,t112,t117,t118,t119⟩:=hx1
  simp -implicitDefEqProofs(maxSteps:=999999)(disch:=first|with_reducible rfl|omega|(simp only[nA,nS,nD]<;>omega)|fail)only[go_sem,t119,wr_succ]
  have eT:T+2*(i:Int)+2=T+2*((i+1:Nat):Int):=by omega
  rw[eT] at kp4
  exact⟨_,_,rfl,kp4,(by simp[ev_c,ev_put,t5]<;>rfl),(by simp[ev_c,ev_put,t6]<;>rfl),(by simp[ev_c,ev_put,t7]<;>rfl),(by simp[ev_c,ev_put,t13]<;>rfl),(by simp[ev_c,ev_put,t15]<;>rfl),(by simp[ev_c,ev_put,t16]<;>rfl),(by simp[ev_c,ev_put,t17]<;>rfl),(by simp[ev_c,ev_put,t110]<;>rfl),(by simp[ev_c,ev_put,t111]<;>rfl),(by simp[ev_c,ev_put,t112]<;>rfl),(by simp[ev_c,ev_put,t117]<;>rfl),(by simp[ev_c,ev_put,t118]<;>rfl),(by simp[ev_c,ev_put]<;>rfl)⟩
 ·rintro s ⟨tm,h',rfl,kp1,t5,t6,t7,t13,t15,t16,t17,t110,t111,t112,t117,t118,t119⟩
  simp -implicitDefEqProofs(maxSteps:=999999)(disch:=first|with_reducible rfl|omega|(simp only[nA,nS,nD]<;>omega)|fail)only[go_sem,t118,t119,Int.lt_irrefl,t13,t16]
  refine witness2_ev kp1.s.wf (cl.keep kp1.k nl) n5 hk _ fun h2 s2=>?_
  have kp2:=kp1.mono s2
  have sC:=(H.Sub.refl kp2.s.wf).add (.cells .rw [.int .i64 0,.int .i64 (k:Int),.int .i64 0])
  have gC:(h2.add (.cells .rw [.int .i64 0,.int .i64 (k:Int),.int .i64 0])).cells h2.next=some [.int .i64 0,.int .i64 (k:Int),.int .i64 0]:=cells_add_new rfl
  simp -implicitDefEqProofs(maxSteps:=999999)(disch:=first|with_reducible rfl|omega|(simp only[nA,nS,nD]<;>omega)|fail)only[go_sem,t5,t6,t7,t13,t15,t16,t110,t111,t112,gC,ne_eq,not_true_eq_false,wt_feq]
  exact⟨_,_,rfl,kp2.mono sC,(by simp[ev_c,ev_put,t5]<;>rfl),(by simp[ev_c,ev_put,t6]<;>rfl),(by simp[ev_c,ev_put,t7]<;>rfl),(by simp[ev_c,ev_put,t13]<;>rfl),(by simp[ev_c,ev_put,t15]<;>rfl),(by simp[ev_c,ev_put,t110]<;>rfl),(by simp[ev_c,ev_put,t111]<;>rfl),(by simp[ev_c,ev_put,t112]<;>rfl)⟩
set_option maxRecDepth 8000 in
set_option maxHeartbeats 8000000 in
theorem setsT_ev {hq hA:H}{sp:Nat}{y:V}{bs:List Int}{t:Tb}{X Y Z:V}{b7:Nat}{l:V}{n:Nat}(E:Env hq hA sp y bs t X Y Z b7 l n){T:Int}{h:H}(kp:Kp hq hA sp y T h)(hT:0≤T∧T≤100){S:List (List Int)}{Fy:Nat→Prop}{ys:V}(cy:LsCut Fy hA ys (eS S))(ny:∀b,Fy b→b≠sp)(hS:S.length=n)(aS:Srt (mT t) t.pieces.length S)
  (tm:Go.Ab.T V) (t5:(Opd.t 5).ev tm=.ptr b7 0) (t6:(Opd.t 6).ev tm=.ptr sp 0) (t7:(Opd.t 7).ev tm=ys) (t13:(Opd.t 13).ev tm=l) (t15:(Opd.t 15).ev tm=.int .i64 0):
  W fnG fastA 215 3 none (navT [true,true,true,true,true,true,true,true,true,true,true,true,true,false] c3.body) ⟨tm,h,[]⟩ fun x1 s=>x1=.nrm∧∃(tm':Go.Ab.T V) (h':H) (T':Int),s=⟨tm',h',[]⟩∧Kp hq hA sp y T' h'∧
   (Opd.t 5).ev tm'=.ptr b7 0∧(Opd.t 7).ev tm'=ys∧(Opd.t 13).ev tm'=l∧(Opd.t 15).ev tm'=.int .i64 (t.pieces.length:Int):=by
 obtain⟨R1,hR1⟩:∃R,navT [true,true,true,true,true,true,true,true,true,true,true,true,true,false,true,true,true,true,true,false,true] c3.body=R:=⟨_,rfl⟩
 have r1:= @setT_ev
 rw[hR1] at r1
 simp only[navT,c3] at hR1
 simp only[navT,c3]
 rw[hR1]
 clear hR1
 have n5:=E.n5
 have gp:=E.g.pieces
 have ly:=(cy.keep kp.k fun b fb _=>ny b fb).len (by rw[eS,List.length_map];omega)
 rw[eS,List.length_map,hS] at ly
 have hfl:=aS.len
 have hpre:∀i,((S.take i).flatten).length≤t.pieces.length:=fun i=>by
  rw[←hfl]
  have:=congrArg List.length (congrArg List.flatten (List.take_append_drop i S))
  rw[List.flatten_append,List.length_append] at this
  omega
 simp -implicitDefEqProofs(maxSteps:=999999)(disch:=first|with_reducible rfl|omega|(simp only[nA,nS,nD]<;>omega)|fail)only[go_sem,t7,ly]
 refine W_count n (fun k s=>∃tm h',s=⟨tm,h',[]⟩∧Kp hq hA sp y (T+2*(((S.take k).flatten.length:Nat):Int)) h'∧(Opd.t 5).ev tm=.ptr b7 0∧(Opd.t 6).ev tm=.ptr sp 0∧(Opd.t 7).ev tm=ys∧(Opd.t 13).ev tm=l∧(Opd.t 15).ev tm=.int .i64 (((S.take k).flatten.length:Nat):Int)∧(Opd.t 110).ev tm=ys∧(Opd.t 111).ev tm=.int .i64 (n:Int)∧(Opd.t 112).ev tm=.int .i64 (k:Int)) ?_ ?_ (i:=0) (Nat.zero_le _)
  ⟨_,_,rfl,by simpa using kp,(by simp[ev_c,ev_put,t5]<;>rfl),(by simp[ev_c,ev_put,t6]<;>rfl),(by simp[ev_c,ev_put,t7]<;>rfl),(by simp[ev_c,ev_put,t13]<;>rfl),(by simp[ev_c,ev_put,t15]<;>rfl),(by simp[ev_c,ev_put]<;>rfl),(by simp[ev_c,ev_put]<;>rfl),(by simp only[ev_put];rfl)⟩<;>clear t5 t6 t7 t13 t15
 ·rintro k s hk ⟨tm,h',rfl,kp1,t5,t6,t7,t13,t15,t110,t111,t112⟩
  have hk':(k:Int)<(n:Int):=by omega
  have hb:=hpre k
  simp -implicitDefEqProofs(maxSteps:=999999)(disch:=first|with_reducible rfl|omega|(simp only[nA,nS,nD]<;>omega)|fail)only[go_sem,t111,t112,hk']
  refine(r1 E kp1 (by omega) cy ny hS aS hk (met:=(S.take k).flatten.length) (by omega) _ (by simp[ev_c,ev_put,t5]<;>rfl) (by simp[ev_c,ev_put,t6]<;>rfl) (by simp[ev_c,ev_put,t7]<;>rfl) (by simp[ev_c,ev_put,t13]<;>rfl) (by simp[ev_c,ev_put,t15]<;>rfl) (by simp[ev_c,ev_put,t110]<;>rfl) (by simp[ev_c,ev_put,t111]<;>rfl) (by simp[ev_c,ev_put,t112]<;>rfl)).mono fun x1 s hx1=>?_
  clear t5 t6 t7 t13 t15 t110 t111 t112
  obtain⟨rfl,tm,h4,rfl,kp4,t5,t6,t7,t13,t15,t110,t111,t112⟩:=hx1
  have hkS:k<S.length:=by omega
  have eG:(S.take (k+1)).flatten.length=(S.take k).flatten.length+(S.getD k []).length:=by
   rw[List.take_succ_eq_append_getElem hkS,List.flatten_append,List.length_append,List.getD_eq_getElem?_getD,List.getElem?_eq_getElem hkS]
   simp
  have eT:T+2*(((S.take k).flatten.length:Nat):Int)+2*((S.getD k []).length:Int)=T+2*(((S.take (k+1)).flatten.length:Nat):Int):=by rw[eG];omega
  rw[eT] at kp4
  rw[←eG] at t15
  simp -implicitDefEqProofs(maxSteps:=999999)(disch:=first|with_reducible rfl|omega|(simp only[nA,nS,nD]<;>omega)|fail)only[go_sem,t112,wr_succ]
  exact⟨_,_,rfl,kp4,(by simp[ev_c,ev_put,t5]<;>rfl),(by simp[ev_c,ev_put,t6]<;>rfl),(by simp[ev_c,ev_put,t7]<;>rfl),(by simp[ev_c,ev_put,t13]<;>rfl),(by simp[ev_c,ev_put,t15]<;>rfl),(by simp[ev_c,ev_put,t110]<;>rfl),(by simp[ev_c,ev_put,t111]<;>rfl),(by simp[ev_c,ev_put]<;>rfl)⟩
 ·rintro s ⟨tm,h',rfl,kp1,t5,t6,t7,t13,t15,t110,t111,t112⟩
  rw[←hS,List.take_length,hfl] at t15
  simp -implicitDefEqProofs(maxSteps:=999999)(disch:=first|with_reducible rfl|omega|(simp only[nA,nS,nD]<;>omega)|fail)only[go_sem,t111,t112,Int.lt_irrefl]
  exact⟨_,_,_,rfl,kp1,(by simp[ev_c,ev_put,t5]<;>rfl),(by simp[ev_c,ev_put,t7]<;>rfl),(by simp[ev_c,ev_put,t13]<;>rfl),(by simp[ev_c,ev_put,t15]<;>rfl)⟩
end Go.Ab.Try
namespace Go.Ab.Try
theorem len_flat:∀S:List (List Int),(∀l∈S,l≠[])→S.length≤S.flatten.length
 |[],_=>Nat.le_refl _
 |l::S,h=>by
  have:=len_flat S fun x hx=>h x (List.mem_cons_of_mem _ hx)
  have h1:l.length≠0:=fun e=>h l (by simp) (List.length_eq_zero_iff.1 e)
  rw[List.flatten_cons,List.length_append,List.length_cons];omega
theorem Kp.frm {hq hA h:H}{sp:Nat}{y:V}{bs:List Int}{T:Int}(a:Kp hq hA sp y T h)(hw:hq.wf)(hy:SlAt hq y 1 (bs.map encU8))(h0:hq.next≤sp)(hT:0≤T∧T≤1000000000)(Q:V→H→Prop)
  (q:∀r h',1≤r→r≤40→Kp hq hA sp y (T+1) h'→Keeps (fun c=>c=sp) h h'→h'.next=h.next→Q (.int .i64 r) h'):Ev fnG fastA (.fn 9 [] []) [.ptr sp 0,.int .i64 1,.int .i64 40] h Q:=
 From_ev a.s hw hy h0 a.p hT (by omega) (by omega) Q fun r h' r0 r1 s' p' k' n'=>q r h' r0 (by omega) ⟨s',(a.k.trans k').mono fun c h=>by rcases h with h|h<;>exact h,p'⟩ k' n'
set_option maxRecDepth 8000 in
set_option maxHeartbeats 8000000 in
theorem TopMatched_ev {h:H}{x y:V}{bs cs:List Int}(hw:h.wf)(hx:SlAt h x 1 (bs.map encU8))(hy:SlAt h y 1 (cs.map encU8)):
  Ev fnG fastA (.fn 3 [] []) [x,y] h (fun u _=>u=.bool true):=by
 refine Ev_body (fd:=c3) rfl rfl rfl ?_
 obtain⟨R1,hR1⟩:∃R,navT [true,true,true,true,true,true,true,true,true,true,true,false] c3.body=R:=⟨_,rfl⟩
 obtain⟨R2,hR2⟩:∃R,navT [true,true,true,true,true,true,true,true,true,true,true,true,true,false] c3.body=R:=⟨_,rfl⟩
 have r1:= @rules_ev
 have r2:= @setsT_ev
 rw[hR1] at r1
 rw[hR2] at r2
 simp only[navT,c3] at hR1 hR2
 simp only[c3]
 rw[hR1,hR2]
 clear hR1 hR2
 simp -implicitDefEqProofs(maxSteps:=999999)(disch:=first|with_reducible rfl|omega|(simp only[nA,nS,nD]<;>omega)|fail)only[go_sem]
 refine Wound_ev hw hx _ fun h1 s1 sp1 n1=>?_
 simp -implicitDefEqProofs(maxSteps:=999999)(disch:=first|with_reducible rfl|omega|(simp only[nA,nS,nD]<;>omega)|fail)only[go_sem]
 refine Made_ev s1 hw hx (Nat.le_refl _) sp1 (by omega) (by omega) (by omega) (by omega) _ fun X Y Z t hM T g hp6 he4 hl2 hT m=>?_
 obtain⟨sM,iM,pM⟩:=m.is g hw (by omega) (by omega)
 have x1:=OwnC.one m.ox.c
 have y1:=OwnC.one m.oy.c
 have z1:=OwnC.one m.oz.c
 simp -implicitDefEqProofs(maxSteps:=999999)(disch:=first|with_reducible rfl|omega|(simp only[nA,nS,nD]<;>omega)|fail)only[go_sem]
 generalize hM.set h1.next (.cells .rw [X,Y,Z])=hN at sM iM pM⊢
 have wN:=sM.wf
 have hyN:=hy.mono sM
 refine Wound_ev wN hyN _ fun h2 s2 sp2 n2=>?_
 simp -implicitDefEqProofs(maxSteps:=999999)(disch:=first|with_reducible rfl|omega|(simp only[nA,nS,nD]<;>omega)|fail)only[go_sem,x1,y1,z1,cells_one x1,cells_one y1,cells_one z1]
 have s3:=(H.Sub.refl s2.wf).add (.cells .rw [X,Y,Z])
 have g3:(h2.add (.cells .rw [X,Y,Z])).cells h2.next=some [X,Y,Z]:=cells_add_new rfl
 have l3:(h2.add (.cells .rw [X,Y,Z])).next=h2.next+1:=H.next_add _ _
 generalize h2.add (.cells .rw [X,Y,Z])=h3 at s3 g3 l3⊢
 have gp:=g.pieces
 have c0:check t=0:=check_iff.2 g
 have sN3:=s2.trans s3
 refine Sort_ev s3.wf (iM.mono sN3) _ fun ys h4 s4 hys=>?_
 rw[if_pos c0] at hys
 rw[c0]
 obtain⟨S,eS1,aS,hmS⟩:=sortR_spec (mT t) t.pieces.length
 rw[eS1] at hys
 have hys:LsCut (fun b=>h3.next≤b) h4 ys (eS S):=hys
 have hfl:=aS.len
 have hSl:=len_flat S aS.ne
 have l4:=s4.next
 have cy:LsCut (fun b=>h3.next≤b∧b<h4.next) h4 ys (eS S):=hys.up fun b h1 h2=>⟨h1,h2⟩
 have lys:=hys.len (by rw[eS,List.length_map];omega)
 rw[eS,List.length_map] at lys
 have g4:=s4.cells g3
 have sN4:=sN3.trans s4
 obtain⟨_,_,_,e0,aE,aL,aP⟩:=id (iM.mono sN4)
 cases e0
 have lP:=aP.lenE
 have nP:¬(t.pieces.length:Int)<(S.length:Int):=by omega
 simp -implicitDefEqProofs(maxSteps:=999999)(disch:=first|with_reducible rfl|omega|(simp only[nA,nS,nD]<;>omega)|fail)only[go_sem,g4,lys,lP,nP,ne_eq,not_true_eq_false,x1,y1,z1,cells_one x1,cells_one y1,cells_one z1]
 have s5:=(H.Sub.refl s4.wf).add (.cells .rw [X,Y,Z])
 have g5u:(h4.add (.cells .rw [X,Y,Z])).get h4.next=some (.cells .rw [X,Y,Z]):=get_add_new rfl
 have l5:(h4.add (.cells .rw [X,Y,Z])).next=h4.next+1:=H.next_add _ _
 generalize h4.add (.cells .rw [X,Y,Z])=h5 at s5 g5u l5⊢
 have g5:=s5.cells g4
 have sN5:=sN4.trans s5
 have ge:=g.eyes
 refine cloneEye_ev s5.wf (aE.mono s5) (by rw[List.length_map];omega) _ fun v h6 ov=>?_
 have s6:=ov.1
 have cv:CutO (fun b=>h5.next≤b) h6 v 4 (t.eyes.map encE):=ov.cutO
 have l6:=s6.next
 have l2:=s2.next
 have spl:hN.next<h3.next:=by omega
 have kp6:Kp hN h6 hN.next y 0 h6:=⟨sN5.trans s6,Keeps.refl _ _,sp2.mono ((s3.trans s4).trans (s5.trans s6))⟩
 simp -implicitDefEqProofs(maxSteps:=999999)(disch:=first|with_reducible rfl|omega|(simp only[nA,nS,nD]<;>omega)|fail)only[go_sem]
 refine kp6.upto wN hyN (Nat.le_refl _) (by omega) (n:=4) (by omega) _ fun q1 h7 q10 q11 kp7 _ _=>?_
 simp -implicitDefEqProofs(maxSteps:=999999)(disch:=first|with_reducible rfl|omega|(simp only[nA,nS,nD]<;>omega)|fail)only[go_sem]
 refine kp7.upto wN hyN (Nat.le_refl _) (by omega) (n:=4) (by omega) _ fun q2 h8 q20 q21 kp8 _ _=>?_
 simp -implicitDefEqProofs(maxSteps:=999999)(disch:=first|with_reducible rfl|omega|(simp only[nA,nS,nD]<;>omega)|fail)only[go_sem]
 refine kp8.upto wN hyN (Nat.le_refl _) (by omega) (n:=4) (by omega) _ fun q3 h9 q30 q31 kp9 _ _=>?_
 simp -implicitDefEqProofs(maxSteps:=999999)(disch:=first|with_reducible rfl|omega|(simp only[nA,nS,nD]<;>omega)|fail)only[go_sem]
 refine kp9.frm wN hyN (Nat.le_refl _) (by omega) _ fun q4 hB q40 q41 kpB _ _=>?_
 have lB:=kpB.k.1
 have cvB:=cv.keep kpB.k fun b hb e=>by have:=(cv.blk hb).1;omega
 have sC:=(H.Sub.refl kpB.s.wf).add (.cells .rw [.int .i64 q1,.int .i64 q2,.int .i64 q3,.int .i64 q4])
 simp -implicitDefEqProofs(maxSteps:=999999)(disch:=first|with_reducible rfl|omega|(simp only[nA,nS,nD]<;>omega)|fail)only[go_sem]
 have gu:Good (eyeT t ⟨⟨q1,q2,q3⟩,q4⟩):=eyeT_good g (by omega) ⟨⟨⟨q10,q11⟩,⟨q20,q21⟩,⟨q30,q31⟩⟩,q40,by simp only;omega⟩
 refine(cvB.mono sC).app1 (by_:=32) (r:=encE ⟨⟨q1,q2,q3⟩,q4⟩) sC.wf (by rw[H.next_add];omega) rfl (by omega) (SlAt.new _ rfl rfl (by simp[encE]) (by simp[encE]) (by simp)) rfl (by rw[List.length_map];omega) (by rw[List.length_map];omega) fun v' hD cD nD' kD wD=>?_
 have v'1:=cD.one
 have lC:(hB.add (.cells .rw [.int .i64 q1,.int .i64 q2,.int .i64 q3,.int .i64 q4])).next=hB.next+1:=H.next_add _ _
 have nv:∀b,blkOf v b→h5.next≤b:=fun b hb=>(cv.blk hb).1
 have gDu:=kD.2 _ _ (sC.get (kpB.k.2 _ _ (s6.get g5u) (by omega))) fun hb=>by have:=nv _ hb;omega
 have gD:=kD.cells (sC.cells (kpB.k.cells (s6.cells g5) (by omega))) fun hb=>by have:=nv _ hb;omega
 have lD:=H.lt_next wD gDu
 have sND:hN.Sub hD:=kD.sub (kpB.s.trans sC) wN (fun c hc=>by have:=nv _ hc;omega) wD
 have cyD:=((((cy.mono s5).mono s6).keep kpB.k (fun b hb _ e=>by omega)).mono sC).keep kD fun b hb _ e=>by have:=nv _ e;omega
 have spD:=(kpB.p.mono sC).keep kD fun hb=>by have:=nv _ hb;omega
 simp -implicitDefEqProofs(maxSteps:=999999)(disch:=first|with_reducible rfl|omega|(simp only[nA,nS,nD]<;>omega)|fail)only[go_sem,gDu,v'1,cells_one v'1]
 have sNE:=sND.set (b:=h4.next) (by omega) lD wN (.cells .rw [v',Y,Z])
 have gEu:(hD.set h4.next (.cells .rw [v',Y,Z])).cells h4.next=some [v',Y,Z]:=cells_of (get_set_same rfl)
 have kE:=Keeps.set hD h4.next (.cells .rw [v',Y,Z])
 have gE:=kE.cells gD (by omega)
 have cyE:=cyD.keep kE fun b hb _ e=>by omega
 have spE:=spD.keep kE (by omega)
 have cE:=cD.keep kE fun b hb e=>by
  rcases nD' b hb with h1|h1
  ·have:=nv _ h1;omega
  ·omega
 have lE:(hD.set h4.next (.cells .rw [v',Y,Z])).next=hD.next:=H.next_set _ _ _
 generalize hD.set h4.next (.cells .rw [v',Y,Z])=hE at sNE gEu gE cyE spE cE lE⊢
 have iE:=iM.mono sNE
 obtain⟨_,_,_,e0,_,aLE,aPE⟩:=id iE
 cases e0
 have iU:TbIs hE (.agg [v',Y,Z]) (eyeT t ⟨⟨q1,q2,q3⟩,q4⟩):=⟨v',Y,Z,rfl,by
  have:=cE.sl (by simp only[List.length_append,List.length_map,List.length_singleton];omega)
  simpa[eyeT] using this,aLE,aPE⟩
 have cu:check (eyeT t ⟨⟨q1,q2,q3⟩,q4⟩)=0:=check_iff.2 gu
 refine Sort_ev sNE.wf iU _ fun ws hF sF hws=>?_
 rw[if_pos cu] at hws
 rw[cu]
 obtain⟨W,eW1,aW,_⟩:=sortR_spec (mT (eyeT t ⟨⟨q1,q2,q3⟩,q4⟩)) (eyeT t ⟨⟨q1,q2,q3⟩,q4⟩).pieces.length
 rw[eW1] at hws
 have hws:LsCut (fun b=>hE.next≤b) hF ws (eS W):=hws
 have aWt:Srt (mT t) t.pieces.length W:=Srt.weak aW fun a b h=>eyeT_mT g gu h
 have hWl:=len_flat W aWt.ne
 rw[aWt.len] at hWl
 have hle:S.length≤W.length:=by
  obtain⟨gc,col,_⟩:=aWt.col (fun a b=>mT_comm g a b)
  exact hmS _ _ col
 have rowW:∀l∈W,l.length≤1000:=fun l hl=>by
  have:=nodup_len ((aWt.up l hl).imp fun h=>by omega) fun x hx=>aWt.mem hl hx
  omega
 have lws:=hws.len (by rw[eS,List.length_map];omega)
 rw[eS,List.length_map] at lws
 have gF:=sF.cells gE
 simp -implicitDefEqProofs(maxSteps:=999999)(disch:=first|with_reducible rfl|omega|(simp only[nA,nS,nD]<;>omega)|fail)only[go_sem,gF,x1,y1,z1,cells_one x1,cells_one y1,cells_one z1]
 refine Sorted_ev sF.wf (iE.mono sF) (cut_rdI hws (by omega) rowW) (by omega) rowW _ fun hG sG=>?_
 have dT: @decide (check t=0∧SrtP t W) (Classical.propDecidable _)=true:= @decide_eq_true _ (Classical.propDecidable _) ⟨c0,⟨fun l hl=>aWt.ne l hl,fun l hl=>⟨aWt.up l hl,fun x hx=>aWt.mem hl hx,aWt.go l hl⟩,aWt.all.nodup_iff.2 (upto_nodup _),aWt.len⟩⟩
 rw[dT,c0]
 have nW:¬(W.length:Int)<(S.length:Int):=by omega
 have sFG:=sF.trans sG
 have gG:=sFG.cells gE
 simp -implicitDefEqProofs(maxSteps:=999999)(disch:=first|with_reducible rfl|omega|(simp only[nA,nS,nD]<;>omega)|fail)only[go_sem,lws,lys,nW,ne_eq,not_true_eq_false,Bool.not_true]
 by_cases h5s:(5:Int)<(S.length:Int)
 ·simp -implicitDefEqProofs(maxSteps:=999999)(disch:=first|with_reducible rfl|omega|(simp only[nA,nS,nD]<;>omega)|fail)only[go_sem,lys,h5s]
 simp -implicitDefEqProofs(maxSteps:=999999)(disch:=first|with_reducible rfl|omega|(simp only[nA,nS,nD]<;>omega)|fail)only[go_sem,lys,h5s]
 have lF:=sFG.next
 refine(r1 sG.wf (n:=S.length) (by omega) (ys:=ys) (v5:=.ptr h2.next 0) (v6:=.ptr hN.next 0) lys _ (by simp[ev_c,ev_put]<;>rfl) (by simp[ev_c,ev_put]<;>rfl) (by simp[ev_c,ev_put]<;>rfl) (by simp[ev_c,ev_put]<;>rfl)).mono fun x1 s hx1=>?_
 obtain⟨rfl,tm,hR,l,rfl,ol,t5,t6,t7,t13⟩:=hx1
 have sGR:=ol.1
 have sER:=sFG.trans sGR
 have spR:=spE.mono sER
 have cyR:=cyE.mono sER
 have EN:Env hN hR hN.next y cs t X Y Z h2.next l S.length:=⟨wN,hyN,Nat.le_refl _,g,iM,sER.cells gE,by omega,⟨_,ol.c.cutO,fun b hb=>by have:=(ol.blk hb).1;omega⟩,by omega⟩
 have kpR:Kp hN hR hN.next y (0+1+1+1+1) hR:=⟨sNE.trans sER,Keeps.refl _ _,spR⟩
 simp -implicitDefEqProofs(maxSteps:=999999)(disch:=first|with_reducible rfl|omega|(simp only[nA,nS,nD]<;>omega)|fail)only[go_sem,t5,t6,t7,t13]
 refine(r2 EN kpR (by omega) cyR (fun b hb=>by omega) rfl aS _ (by simp[ev_c,ev_put,t5]<;>rfl) (by simp[ev_c,ev_put,t6]<;>rfl) (by simp[ev_c,ev_put,t7]<;>rfl) (by simp[ev_c,ev_put,t13]<;>rfl) (by simp[ev_c,ev_put]<;>rfl)).mono fun x1 s hx1=>?_
 clear t5 t6 t7 t13
 obtain⟨rfl,tm,hS,T',rfl,kpS,t5,t7,t13,t15⟩:=hx1
 have cl:=(ol.c.cutO).keep kpS.k fun b hb e=>by have:=(ol.blk hb).1;omega
 simp -implicitDefEqProofs(maxSteps:=999999)(disch:=first|with_reducible rfl|omega|(simp only[nA,nS,nD]<;>omega)|fail)only[go_sem,t13]
 refine shortest_ev kpS.s.wf cl (by omega) _ fun z hU sU hz=>?_
 obtain⟨c,hcl,az⟩:=hz
 have lz:=az.lenE
 rw[hcl] at lz
 have gU:=sU.cells (kpS.k.cells (sER.cells gE) (by omega))
 simp -implicitDefEqProofs(maxSteps:=999999)(disch:=first|with_reducible rfl|omega|(simp only[nA,nS,nD]<;>omega)|fail)only[go_sem,t5,t7,t13,t15,lz,lys,gU,lP]
end Go.Ab.Try
