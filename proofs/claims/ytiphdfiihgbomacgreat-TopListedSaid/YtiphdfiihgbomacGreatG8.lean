/- TopListed, the law. Rows in a block: read and written; products of small numbers; Repeat. Cuts: a plan is followed. Cuts: choices are made. Cuts: the best plan. Cuts: Best. Cuts, plain: values rise with prices. Cuts: wants doubled; integers in a list. Cuts: a ribbon out of a spool. TopListed: what is earned by a list. TopListed: rules that are idle or without a witness. TopListed: a rule that is idle has any price. TopListed: a list that rises. -/
import Derived.Test.YtiphdfiihgbomacGreatG7
set_option linter.unusedSimpArgs false
set_option linter.unusedVariables false
namespace Go.Ab
theorem flatten_takeB {sz:Nat}:∀{rows:List (List V)} (k:Nat),(∀r∈rows,r.length=sz)→k≤rows.length→rows.flatten.take (k*sz)=(rows.take k).flatten
 |rows,0,_,_=>by simp
 |[],k+1,_,h=>by simp at h
 |r::rows,k+1,hr,h=>by
  have h1:=hr r (by simp)
  rw[List.flatten_cons,List.take_succ_cons,List.flatten_cons,Nat.succ_mul,List.take_append,List.take_of_length_le (by omega),h1,show k*sz+sz-sz=k*sz by omega,flatten_takeB k (fun x hx=>hr x (by simp[hx])) (by simpa using h)]
theorem getRows {sz:Nat}{rows:List (List V)}(hr:∀r∈rows,r.length=sz){k m:Nat}(h:k+m≤rows.length):getN (k*sz) (m*sz) rows.flatten=some ((rows.drop k).take m).flatten:=by
 have fl:=flatten_len hr
 have:k*sz+m*sz≤rows.length*sz:=by rw[←Nat.add_mul];exact Nat.mul_le_mul_right _ h
 refine getN_eq.2 ⟨?_,by omega⟩
 rw[flatten_drop k hr,flatten_takeB m (fun x hx=>hr x (List.mem_of_mem_drop hx)) (by rw[List.length_drop];omega)]
theorem putRows {sz:Nat}{rows M:List (List V)}(h0:0<sz)(hr:∀r∈rows,r.length=sz)(hm:∀r∈M,r.length=sz)(hn:M≠[]){k:Nat}(h:k+M.length≤rows.length):putN (k*sz) M.flatten rows.flatten=some (rows.take k++M++rows.drop (k+M.length)).flatten:=by
 have fl:=flatten_len hr
 have fm:=flatten_len hm
 have hp:0<M.length:=List.length_pos_iff.2 hn
 have:k*sz+M.length*sz≤rows.length*sz:=by rw[←Nat.add_mul];exact Nat.mul_le_mul_right _ h
 have hpz:0<M.length*sz:=Nat.mul_pos hp h0
 refine(putN_eq (by intro e;rw[e] at fm;simp at fm;omega)).2 ⟨?_,by omega⟩
 rw[fm,←Nat.add_mul,flatten_drop _ hr,flatten_takeB k hr (by omega),List.flatten_append,List.flatten_append]
theorem e_cpyR {α:Type}{enc:α→List V}{sz:Nat}(h0:0<sz)(hz:∀a,(enc a).length=sz)(ho:∀l:List α,allOne (l.map enc).flatten=true){h:H}{b i m k:Nat}{c:Cap}{y:V}{L M:List α}(hb:h.get b=some (.cells .rw (L.map enc).flatten))
  (ly:lenV y=some k) (ey:elems h sz y=some (M.map enc).flatten) (hk:M.length=k) (k1:1≤k) (m1:1≤m) (le:i+m≤L.length):
  e_cpy h sz (.sl b (i*sz) m c) y=some (.int .i64 ((min m k:Nat):Int),h.set b (.cells .rw ((L.take i++M.take (min m k)++L.drop (i+min m k)).map enc).flatten)):=by
 have hr:∀(l:List α),∀r∈l.map enc,r.length=sz:=fun l r hr=>by obtain⟨x,_,rfl⟩:=List.mem_map.1 hr;exact hz x
 obtain⟨j,hj⟩:∃j,min m k=j:=⟨_,rfl⟩
 have lt:takeN (j*sz) (M.map enc).flatten=some ((M.take j).map enc).flatten:=by
  have:=getRows (hr M) (k:=0) (m:=j) (by rw[List.length_map];omega)
  rw[Nat.zero_mul,List.drop_zero,←List.map_take] at this
  exact this
 have lM:(M.take j).length=j:=by rw[List.length_take];omega
 have pt:=putRows h0 (hr L) (hr (M.take j)) (by intro e;have:=congrArg List.length e;simp only[List.length_map,lM,List.length_nil] at this;omega) (k:=i) (by rw[List.length_map,List.length_map,lM];omega)
 rw[List.length_map,lM,←List.map_take,←List.map_drop,←List.map_append,←List.map_append] at pt
 have ho':=ho (M.take j)
 have hp:h.put b (i*sz) ((M.take j).map enc).flatten=some (h.set b (.cells .rw ((L.take i++M.take j++L.drop (i+j)).map enc).flatten)):=by
  have fl:=flatten_len (hr (M.take j))
  have:0<j*sz:=Nat.mul_pos (by omega) h0
  cases hm:((M.take j).map enc).flatten with
  |nil=>rw[hm,List.length_map,lM] at fl;simp at fl;omega
  |cons a l=>rw[hm] at ho' pt;exact H.put_rw ho' hb pt
 rw[hj]
 by_cases hkm:k≤m
 ·have e1:Nat.ble k m=true:=by simpa using hkm
  obtain rfl:j=k:=by omega
  simp only[e_cpy,lenV_sl,ly,ey,e1,cpyTo,lt,hp];rfl
 ·have e1:Nat.ble k m=false:=by rw[Bool.eq_false_iff];simpa using hkm
  obtain rfl:j=m:=by omega
  simp only[e_cpy,lenV_sl,ly,ey,e1,cpyTo,lt,hp];rfl
theorem repN_flat (z:List V):∀n,repN n z=(List.replicate n z).flatten
 |0=>rfl
 |n+1=>by rw[repN,appN_eq,repN_flat z n,List.replicate_succ,List.flatten_cons]
end Go.Ab
namespace Go.Ab.Tryz
theorem q_shr_32 (a:Int):q_sh .shr (.int .u64 a) (.int .u64 32)=some (.int .u64 (a.fdiv (2^(min 32 IntKind.u64.bits)))):=rfl
theorem mul_facts:∀n:Fin 61,(((n.val:Nat):Int).fdiv (2^min 32 64)=0∧andI .u64 ((n.val:Nat):Int) 4294967295=((n.val:Nat):Int))∧wr .u64 ((n.val:Nat):Int)=((n.val:Nat):Int):=by decide
theorem mul64_ev {n:Nat}(hn:n≤60){h:H}(Q:V→H→Prop)(q:Q (.tup [.int .u64 0,.int .u64 (n:Int)]) h):Ev fnG fastA (.fn 83 [] []) [.int .u64 1,.int .u64 (n:Int)] h Q:=by
 refine Ev_body (fd:=c83) rfl rfl rfl ?_
 obtain⟨⟨f1,f2⟩,f3⟩:=mul_facts ⟨n,by omega⟩
 obtain⟨⟨g1,g2⟩,g3⟩:=mul_facts ⟨1,by omega⟩
 obtain⟨⟨z1,z2⟩,z3⟩:=mul_facts ⟨0,by omega⟩
 simp only[Int.natCast_one,Int.natCast_zero] at g1 g2 g3 z1 z2 z3
 simp only at f1 f2 f3
 simp -implicitDefEqProofs(maxSteps:=999999)(disch:=first|with_reducible rfl|omega|(simp only[nA,nS,nD]<;>omega)|fail)only[c83,go_sem,q_ar_and,q_shr_32,f1,f2,f3,g1,g2,g3,z1,z2,z3,Int.zero_mul,Int.mul_zero,Int.one_mul,Int.add_zero,Int.zero_add]
 exact q
theorem mul_ev {n:Nat}(hn:n≤60){h:H}(Q:V→H→Prop)(q:Q (.tup [.int .u64 0,.int .u64 (n:Int)]) h):Ev fnG fastA (.fn 65 [] []) [.int .u64 1,.int .u64 (n:Int)] h Q:=by
 refine Ev_body (fd:=c65) rfl rfl rfl ?_
 simp -implicitDefEqProofs(maxSteps:=999999)(disch:=first|with_reducible rfl|omega|(simp only[nA,nS,nD]<;>omega)|fail)only[c65,go_sem]
 refine mul64_ev hn _ ?_
 simp -implicitDefEqProofs(maxSteps:=999999)(disch:=first|with_reducible rfl|omega|(simp only[nA,nS,nD]<;>omega)|fail)only[go_sem]
 exact q
def rowN (a b:Int)(c:Bool):List V:=[.int .i64 a,.int .i64 b,.bool c]
def encN (p:Int × Int × Bool):List V:=[.int .i64 p.1,.int .i64 p.2.1,.bool p.2.2]
theorem allOneN (L:List (Int × Int × Bool)):allOne (L.map encN).flatten=true:=by
 rw[allOne_eq]
 intro v hv
 obtain⟨r,hr,hv⟩:=List.mem_flatten.1 hv
 obtain⟨s,_,rfl⟩:=List.mem_map.1 hr
 simp only[encN,List.mem_cons,List.not_mem_nil,or_false] at hv
 rcases hv with rfl|rfl|rfl<;>rfl
set_option maxHeartbeats 8000000 in
theorem repeat_ev {n:Nat}(h1:1≤n)(hn:n≤60){h:H}(hw:h.wf){y:V}{p:Int × Int × Bool}(hy:SlAt h y 3 ([p].map encN))(Q:V→H→Prop)(q:∀(b:Nat) (L:List (Int × Int × Bool)) h',h.Sub h'→h.next≤b→h'.get b=some (.cells .rw (L.map encN).flatten)→L.length=n→Q (.sl b 0 n (.fix n)) h'):
  Ev fnG fastA (.fn 44 [] []) [y,.int .i64 (n:Int)] h Q:=by
 have ly:q_len y=some (.int .i64 1):=hy.lenE
 obtain⟨⟨f1,f2⟩,f3⟩:=mul_facts ⟨n,by omega⟩
 obtain⟨⟨g1,g2⟩,g3⟩:=mul_facts ⟨1,by omega⟩
 simp only[Int.natCast_one] at g3
 simp only at f3
 have n0:¬(n:Int)<0:=by omega
 have n9:¬(9223372036854775807:Int)<(n:Int):=by omega
 have wn:wr .i64 (n:Int)=(n:Int):=wr_in (by omega) (by omega)
 have z3:∀a,(encN a).length=3:=fun _=>rfl
 refine Ev_body (fd:=c44) rfl rfl rfl ?_
 simp -implicitDefEqProofs(maxSteps:=999999)(disch:=first|with_reducible rfl|omega|(simp only[nA,nS,nD]<;>omega)|fail)only[c44,go_sem,ly,f3,g3,n0]
 refine mul_ev hn _ ?_
 have am:a_msl h 24 [V.int .i64 0,.int .i64 0,.bool false] (.int .i64 (n:Int)) (.int .i64 (n:Int))=_:=a_msl_nn' (by omega) (by omega)
 simp -implicitDefEqProofs(maxSteps:=999999)(disch:=first|with_reducible rfl|omega|(simp only[nA,nS,nD]<;>omega)|fail)only[go_sem,Int.lt_irrefl,n9,wn,am]
 have s1:=(H.Sub.refl hw).add (.cells .rw (repN n [V.int .i64 0,.int .i64 0,.bool false]))
 have g1:(h.add (.cells .rw (repN n [V.int .i64 0,.int .i64 0,.bool false]))).get h.next=some (.cells .rw ((List.replicate n ((0:Int),(0:Int),false)).map encN).flatten):=by
  rw[get_add_new rfl,List.map_replicate]
  rw[repN_flat];rfl
 generalize h.add _=hA at s1 g1⊢
 obtain⟨e2,e1⟩:=(hy.mono s1).elems
 have cp:=e_cpyR (by omega) z3 allOneN (i:=0) (m:=n) (k:=1) (c:=.fix n) (M:=[p]) g1 e1 e2 rfl (by omega) h1 (by rw[List.length_replicate];omega)
 rw[Nat.zero_mul,show min n 1=1 by omega] at cp
 simp -implicitDefEqProofs(maxSteps:=999999)(disch:=first|with_reducible rfl|omega|(simp only[nA,nS,nD]<;>omega)|fail)only[go_sem,cp]
 have lt1:=s1.wf _ _ g1
 refine W_loop (fun m s=>∃(k:Nat) (tm:Go.Ab.T V) (h':H) (L:List (Int × Int × Bool)),m=n-k∧1≤k∧k≤n∧s=⟨tm,h',[]⟩∧h.Sub h'∧h'.get h.next=some (.cells .rw (L.map encN).flatten)∧L.length=n∧(Opd.t 7).ev tm=.sl h.next 0 n (.fix n)∧(Opd.t 8).ev tm=.int .i64 (k:Int)) ?_ (n-1) _
  ⟨1,_,_,_,rfl,Nat.le_refl _,h1,rfl,s1.set (Nat.le_refl _) lt1 hw _,get_set_same rfl,by simp only[List.take_zero,List.nil_append,List.length_append,List.length_take,List.length_cons,List.length_nil,List.length_drop,List.length_replicate];omega,(by simp[ev_c,ev_put]<;>rfl),(by simp[ev_c,ev_put]<;>rfl)⟩
 rintro m s ⟨k,tm,h',L,em,k1,kn,rfl,s',g',lL,t7,t8⟩
 by_cases hk:k<n
 ·have hk':(k:Int)<(n:Int):=by omega
  have ef:slcFrom h' 3 (.sl h.next 0 n (.fix n)) (.int .i64 (k:Int))=some (.sl h.next (k*3) (n-k) (.fix (n-k))):=by
   have hi:∀tm,(Opd.c (.int .i64 (k:Int))).ev tm=.int .i64 (k:Int):=fun _=>rfl
   have b1:Nat.ble k n=true:=by simpa using kn
   have b2:Nat.ble n n=true:=by simp
   have b3:Nat.beq n k=false:=by rw[Bool.eq_false_iff];simp;omega
   simp only[slcFrom,q_slc,og_true,bnd3,natO,hi,natk_cst,bnds,b1,b2,b3,subO,sub,bsel,Nat.zero_add]
  have et:slcTo h' 3 (.sl h.next 0 n (.fix n)) (.int .i64 (k:Int))=some (.sl h.next 0 k (.fix n)):=by
   have hi:∀tm,(Opd.c (.int .i64 (k:Int))).ev tm=.int .i64 (k:Int):=fun _=>rfl
   rw[slcTo,q_slc,subO_to (hi _) kn (Nat.le_refl _)]
   rw[Nat.zero_mul,Nat.add_zero]
   cases Nat.beq n 0<;>rfl
  have ee:elems h' 3 (.sl h.next 0 k (.fix n))=some ((L.take k).map encN).flatten:=by
   obtain⟨k',rfl⟩:∃k',k=k'+1:=⟨k-1,by omega⟩
   have hr:∀r∈L.map encN,r.length=3:=fun r hr=>by obtain⟨x,_,rfl⟩:=List.mem_map.1 hr;rfl
   have:=getRows hr (k:=0) (m:=k'+1) (by rw[List.length_map];omega)
   rw[Nat.zero_mul,List.drop_zero,←List.map_take] at this
   rw[elems_s,cells_of g',elC_some,this]
  have cp:=e_cpyR (by omega) z3 allOneN (i:=k) (m:=n-k) (k:=k) (c:=.fix (n-k)) (M:=L.take k) g' rfl ee (by rw[List.length_take];omega) k1 (by omega) (by omega)
  have wk:wr .i64 ((k:Int)+((min (n-k) k:Nat):Int))=((k+min (n-k) k:Nat):Int):=by rw[wr_in (by omega) (by omega)];omega
  simp -implicitDefEqProofs(maxSteps:=999999)(disch:=first|with_reducible rfl|omega|(simp only[nA,nS,nD]<;>omega)|fail)only[go_sem,t7,t8,hk',q_slc_from,q_slc_to,evQ_slc,ef,et,cp,wk]
  have lt':=s'.wf _ _ g'
  refine⟨n-(k+min (n-k) k),by omega,k+min (n-k) k,_,_,_,rfl,by omega,by omega,rfl,s'.set (Nat.le_refl _) lt' hw _,get_set_same rfl,by simp only[List.length_append,List.length_take,List.length_drop];omega,(by simp[ev_c,ev_put,t7]<;>rfl),(by simp[ev_c,ev_put]<;>rfl)⟩
 ·have hk':¬(k:Int)<(n:Int):=by omega
  simp -implicitDefEqProofs(maxSteps:=999999)(disch:=first|with_reducible rfl|omega|(simp only[nA,nS,nD]<;>omega)|fail)only[go_sem,t7,t8,hk']
  exact q _ _ _ s' (Nat.le_refl _) g' lL
end Go.Ab.Tryz
namespace Go.Ab.Tryz
theorem cut_feq (p q:Int × Int × Bool):∃b,q_feq true 1003 (.agg (encN p)) (.agg (encN q))=some (.bool b):=by
 obtain⟨p1,p2,p3⟩:=p
 obtain⟨q1,q2,q3⟩:=q
 simp only[q_feq,encN,lenN,sameIB,show Nat.blt 1003 1000=false from rfl,show Nat.beq (1000+(0+1+1+1)) 1003=true from rfl,show keq .i64 .i64=true from rfl]
 cases ieq p1 q1<;>cases ieq p2 q2<;>exact⟨_,rfl⟩
structure Onw (h:H)(cd b2 b7 b5 b8 bN bT:Nat)(len:Nat)(F W:V)(r:Rb)(NL:List (Int × Int × Bool))(TL:List Int)(p0:Int × Int × Bool):Prop where
 g2:h.cells b2=some [.ptr cd 0]
 g7:h.cells b7=some [.sl bN 0 len (.fix len)]
 g5:h.cells b5=some (encN p0)
 g8:h.cells b8=some [.sl bT 0 len (.fix len)]
 gN:h.cells bN=some (NL.map encN).flatten
 gT:h.cells bT=some (TL.map iv)
 d:CdAt h cd F W r
 lN:NL.length=len
 lT:TL.length=len
 up:∀(j:Nat),j<len→(j:Int)<TL.getD j 0∧TL.getD j 0≤(len:Int)
theorem Onw.mono {h h':H}{cd b2 b7 b5 b8 bN bT:Nat}{len:Nat}{F W:V}{r:Rb}{NL:List (Int × Int × Bool)}{TL:List Int}{p0:Int × Int × Bool}(a:Onw h cd b2 b7 b5 b8 bN bT len F W r NL TL p0)(s:h.Sub h'):Onw h' cd b2 b7 b5 b8 bN bT len F W r NL TL p0:=
 ⟨s.cells a.g2,s.cells a.g7,s.cells a.g5,s.cells a.g8,s.cells a.gN,s.cells a.gT,a.d.mono s,a.lN,a.lT,a.up⟩
def Onj (h0 h:H)(b2 b7 b5 b13 b14 b8 x:Nat):Prop:=∃(Z:V) (rows:List (Int × Int × Bool)),OwnSl h0 h Z 3 (rows.map encN)∧rows.length≤x∧h.get b13=some (.cells .rw [Z])∧h.get b14=some (.cells .rw [.fn 46 [] [.ptr b2 0,.ptr b7 0,.ptr b5 0,.ptr b13 0,.ptr b14 0,.ptr b8 0]])
set_option maxHeartbeats 8000000 in
theorem on_ev {h0:H}(hw0:h0.wf){cd b2 b7 b5 b13 b14 b8 bN bT:Nat}{F W:V}{r:Rb}{NL:List (Int × Int × Bool)}{TL:List Int}{p0:Int × Int × Bool}(e:Onw h0 cd b2 b7 b5 b8 bN bT r.len F W r NL TL p0)(k:RbOk r)(n13:h0.next≤b13)(n14:h0.next≤b14∧b14≠b13):
  ∀(n x:Nat) (h:H),r.len-x=n→x≤r.len→Onj h0 h b2 b7 b5 b13 b14 b8 x→Ev fnG fastA (.fn 46 [] []) [.int .i64 (x:Int),.ptr b2 0,.ptr b7 0,.ptr b5 0,.ptr b13 0,.ptr b14 0,.ptr b8 0] h fun _ h'=>Onj h0 h' b2 b7 b5 b13 b14 b8 r.len:=by
 intro n
 induction n using Nat.strongRecOn with
 |ind n ih=>
 rintro x h en hx ⟨Z,rows,oZ,lr,g13,g14⟩
 have kl:=k.len
 have eh:=e.mono oZ.1
 refine Ev_body (fd:=c46) rfl rfl rfl ?_
 by_cases hxl:x=r.len
 ·have hxe:(x:Int)=(r.len:Int):=by omega
  simp -implicitDefEqProofs(maxSteps:=999999)(disch:=first|with_reducible rfl|omega|(simp only[nA,nS,nD]<;>omega)|fail)only[c46,go_sem,eh.g2,cells_of eh.d.g,dk0,hxe]
  exact⟨Z,rows,oZ,by omega,g13,g14⟩
 ·have hxe:¬(x:Int)=(r.len:Int):=by omega
  have hxl2:x<r.len:=by omega
  simp -implicitDefEqProofs(maxSteps:=999999)(disch:=first|with_reducible rfl|omega|(simp only[nA,nS,nD]<;>omega)|fail)only[c46,go_sem,eh.g2,cells_of eh.d.g,dk0,hxe]
  have hxb:Nat.blt x r.len=true:=by rw[Nat.blt_eq];exact hxl2
  have i3:q_iad 3 (.sl bN 0 r.len (.fix r.len)) (.int .i64 (x:Int))=some (.ptr bN (x*3)):=by
   simp only[q_iad,nat_cst,hxb,og_true,Nat.zero_add]
  have i1:q_iad 1 (.sl bT 0 r.len (.fix r.len)) (.int .i64 (x:Int))=some (.ptr bT x):=by
   simp only[q_iad,nat_cst,hxb,og_true,Nat.zero_add,Nat.mul_one]
  have lN:=e.lN
  have lT:=e.lT
  have hrN:∀r∈NL.map encN,r.length=3:=fun r hr=>by obtain⟨x,_,rfl⟩:=List.mem_map.1 hr;rfl
  have gx:getN (x*3) 3 (NL.map encN).flatten=some (encN NL[x]):=by
   have:=getRows hrN (k:=x) (m:=1) (by rw[List.length_map];omega)
   rw[Nat.one_mul,List.drop_eq_getElem_cons (by rw[List.length_map];omega),List.take_succ_cons,List.take_zero] at this
   rw[this,List.getElem_map,List.flatten_cons,List.flatten_nil,List.append_nil]
  have g5':getN 0 3 (encN p0)=some (encN p0):=rfl
  have nx:=nthI (l:=TL) (j:=x) (by omega)
  obtain⟨u1,u2⟩:=e.up x hxl2
  obtain⟨y,hy⟩:∃y:Nat,TL.getD x 0=(y:Int):=⟨(TL.getD x 0).toNat,by omega⟩
  rw[hy] at u1 u2 nx
  obtain⟨b,hb⟩:=cut_feq NL[x] p0
  have jump:∀h',Onj h0 h' b2 b7 b5 b13 b14 b8 (x+1)→Ev fnG fastA (.fn 46 [] []) [.int .i64 (y:Int),.ptr b2 0,.ptr b7 0,.ptr b5 0,.ptr b13 0,.ptr b14 0,.ptr b8 0] h' fun _ h'=>Onj h0 h' b2 b7 b5 b13 b14 b8 r.len:=fun h' hj=>by
   obtain⟨Z,rows,oZ,lr,g13,g14⟩:=hj
   exact ih (r.len-y) (by omega) y h' rfl (by omega) ⟨Z,rows,oZ,by omega,g13,g14⟩
  simp -implicitDefEqProofs(maxSteps:=999999)(disch:=first|with_reducible rfl|omega|(simp only[nA,nS,nD]<;>omega)|fail)only[go_sem,eh.g7,i3,eh.gN,gx,eh.g5,g5',hb]
  cases b
  ·simp -implicitDefEqProofs(maxSteps:=999999)(disch:=first|with_reducible rfl|omega|(simp only[nA,nS,nD]<;>omega)|fail)only[go_sem,cells_of g14,eh.g8,i1,eh.gT,nx]
   rw[Ev_fn]
   refine(jump h ⟨Z,rows,oZ,by omega,g13,g14⟩).mono fun u h' hj=>?_
   simp -implicitDefEqProofs(maxSteps:=999999)(disch:=first|with_reducible rfl|omega|(simp only[nA,nS,nD]<;>omega)|fail)only[go_sem,cells_of g14,eh.g8,i1,eh.gT,nx]
   exact hj
  ·obtain⟨⟨q1,q2,q3⟩,hq⟩:∃q,NL[x]=q:=⟨_,rfl⟩
   rw[hq] at gx
   simp only[encN] at gx
   have sB:=(H.Sub.refl oZ.1.wf).add (.cells .rw [.int .i64 q1,.int .i64 q2,.bool q3])
   have c7B:=sB.cells eh.g7
   have cNB:=sB.cells eh.gN
   have c13B:=sB.cells (cells_of g13)
   simp -implicitDefEqProofs(maxSteps:=999999)(disch:=first|with_reducible rfl|omega|(simp only[nA,nS,nD]<;>omega)|fail)only[go_sem,cells_of g13,eh.g7,i3,eh.gN,gx,c7B,cNB,c13B]
   have oB:=oZ.mono sB
   have g13B:=sB.get g13
   have g14B:=sB.get g14
   have ay:SlAt (h.add (.cells .rw [.int .i64 q1,.int .i64 q2,.bool q3])) (.sl h.next 0 1 (.fix 1)) 3 [encN (q1,q2,q3)]:=SlAt.new _ rfl rfl rfl (by simp[encN]) (by simp)
   refine oB.app1 (by_:=24) (r:=encN (q1,q2,q3)) hw0 rfl (by omega) ay rfl (by rw[List.length_map];omega) (by rw[List.length_map];omega) fun hA oA kA nA=>?_
   have g13A:=kA.2 _ _ g13B (oB.ne g13B)
   have g14A:=kA.2 _ _ g14B (oB.ne g14B)
   have eA:=e.mono oA.1
   generalize hY:V.sl (H.next _) 0 _ (.slk 0 0)=Y at oA⊢
   have y1:Y.one=true:=by rw[←hY];rfl
   have yc:Y.cells=[Y]:=by rw[←hY];rfl
   have kC:Keeps (fun c=>c=b13) hA (hA.set b13 (.cells .rw [Y])):=Keeps.set _ _ _
   have gC:(hA.set b13 (.cells .rw [Y])).get b13=some (.cells .rw [Y]):=get_set_same rfl
   have sC:h0.Sub (hA.set b13 (.cells .rw [Y])):=oA.1.set n13 (oA.1.wf _ _ g13A) hw0 _
   have oC:=oA.keep kC sC fun c5 h5 e5=>oA.ne g13A (e5▸h5)
   have g14C:=kC.2 _ _ g14A (by omega)
   have eC:=e.mono sC
   simp -implicitDefEqProofs(maxSteps:=999999)(disch:=first|with_reducible rfl|omega|(simp only[nA,nS,nD]<;>omega)|fail)only[go_sem,cells_of g13,eh.g7,i3,eh.gN,gx,c7B,cNB,c13B,g13A,eA.g7,eA.gN,cells_of g13A,y1,yc,cells_of g14A,eA.g8,eA.gT,cells_of g14C,eC.g8,i1,eC.gT,nx]
   generalize hA.set b13 _=hC at kC gC sC oC g14C eC⊢
   rw[Ev_fn]
   refine(jump hC ⟨Y,rows++[(q1,q2,q3)],by rw[List.map_append];exact oC,by rw[List.length_append];simp;omega,gC,g14C⟩).mono fun u h' hj=>?_
   simp -implicitDefEqProofs(maxSteps:=999999)(disch:=first|with_reducible rfl|omega|(simp only[nA,nS,nD]<;>omega)|fail)only[go_sem,cells_of g14A,eA.g8,eA.gT,cells_of g14C,eC.g8,i1,eC.gT,nx]
   exact hj
end Go.Ab.Tryz
namespace Go.Ab
theorem getRow {α:Type}{enc:α→List V}{sz:Nat}(hz:∀a,(enc a).length=sz){l:List α}{k:Nat}(hk:k<l.length):getN (k*sz) sz (l.map enc).flatten=some (enc l[k]):=by
 have hr:∀r∈l.map enc,r.length=sz:=fun r hr=>by obtain⟨x,_,rfl⟩:=List.mem_map.1 hr;exact hz x
 have:=getRows hr (k:=k) (m:=1) (by rw[List.length_map];omega)
 rw[Nat.one_mul,List.drop_eq_getElem_cons (by rw[List.length_map];omega),List.take_succ_cons,List.take_zero] at this
 rw[this,List.getElem_map,List.flatten_cons,List.flatten_nil,List.append_nil]
theorem putRow {α:Type}{enc:α→List V}{sz:Nat}(hz:∀a,(enc a).length=sz)(h0:0<sz){l:List α}{k:Nat}(hk:k<l.length)(a:α):putN (k*sz) (enc a) (l.map enc).flatten=some ((l.set k a).map enc).flatten:=by
 have hr:∀(l:List α),∀r∈l.map enc,r.length=sz:=fun l r hr=>by obtain⟨x,_,rfl⟩:=List.mem_map.1 hr;exact hz x
 have:=putRows h0 (hr l) (hr [a]) (by simp) (k:=k) (by rw[List.length_map];simp;omega)
 rw[List.map_cons,List.map_nil,List.flatten_cons,List.flatten_nil,List.append_nil] at this
 rw[this,List.set_eq_take_append_cons_drop,if_pos hk]
 simp[List.map_take,List.map_drop]
theorem nthRow {l r:List V}{o n:Nat}(h:getN o n l=some r){j:Nat}(hj:j<n):nth (o+j) l=r[j]? :=by
 obtain⟨e,le⟩:=getN_eq.1 h
 rw[nth_get,e,List.getElem?_take,if_pos hj,List.getElem?_drop]
end Go.Ab
namespace Go.Ab.Tryz
def encB (p:Int × Int):List V:=[.int .i64 p.1,.int .i64 p.2]
theorem bst_ev (a b c d:Int){h:H}(hw:h.wf)(Q:V→H→Prop)(q:∀h',h.Sub h'→Q (.bool (decide (c<a))) h'):Ev fnG fastA (.fn 28 [] []) [.agg [.int .i64 a,.int .i64 b],.agg [.int .i64 c,.int .i64 d]] h Q:=by
 refine Ev_body (fd:=c28) rfl rfl rfl ?_
 simp -implicitDefEqProofs(maxSteps:=999999)(disch:=first|with_reducible rfl|omega|(simp only[nA,nS,nD]<;>omega)|fail)only[c28,go_sem]
 exact q _ (by repeat(first|assumption|exact H.Sub.refl (by assumption)|refine H.Sub.add ?_ _|refine H.Sub.set ?_ (by first|omega|(simp only[H.next_add,H.next_set,H.next_del]<;>omega)) (by first|omega|(simp only[H.next_add,H.next_set,H.next_del]<;>omega)) (by assumption) _))
structure Fw (h:H)(b6 bN bT len lo:Nat):Prop where
 ex:∃(BL:List (Int × Int)) (NL:List (Int × Int × Bool)) (TL:List Int),h.get b6=some (.cells .rw (BL.map encB).flatten)∧BL.length=61∧h.get bN=some (.cells .rw (NL.map encN).flatten)∧NL.length=len∧h.get bT=some (.cells .rw (TL.map iv))∧TL.length=len∧∀(j:Nat),lo≤j→j<len→(j:Int)<TL.getD j 0∧TL.getD j 0≤(len:Int)
set_option maxHeartbeats 8000000 in
theorem pos2_ev {h h0:H}(hw:h.wf){cd b2 b3 b5 b6 b7 b8 b9 bN bT x:Nat}{F W:V}{r:Rb}(s0:h0.Sub h)(hw0:h0.wf)(d:CdAt h0 cd F W r)(k:RbOk r)(hx:x<r.len)(lo6:h0.next≤b6∧h0.next≤bN∧h0.next≤bT∧b6≠bN∧b6≠bT∧bN≠bT)
  (fw:Fw h b6 bN bT r.len (x+1)) (g2:h.cells b2=some [.ptr cd 0]) (g3:h.cells b3=some [.fn 28 [] []]) (g7:h.cells b7=some [.sl bN 0 r.len (.fix r.len)]) (g8:h.cells b8=some [.sl bT 0 r.len (.fix r.len)]) (g9:h.cells b9=some [.int .i64 (x:Int)])
  (ne:∀c,c=b6∨c=bN∨c=bT→c≠b2∧c≠b3∧c≠b7∧c≠b8∧c≠b9)
  {tm:Go.Ab.T V} (t2:(Opd.t 2).ev tm=.ptr b2 0) (t3:(Opd.t 3).ev tm=.ptr b3 0) (t5:(Opd.t 5).ev tm=.ptr b5 0) (t6:(Opd.t 6).ev tm=.ptr b6 0) (t7:(Opd.t 7).ev tm=.ptr b7 0) (t8:(Opd.t 8).ev tm=.ptr b8 0) (t9:(Opd.t 9).ev tm=.ptr b9 0) (ds:List Nat):
  Go.Ab.W fnG fastA 95 27 none (navB [true,true,true,true,true,false,true,true,true,true,false] c27.body) ⟨tm,h,ds⟩ fun x1 s1=>x1=.nrm∧∃(tm':Go.Ab.T V) (h':H) (dd:Nat),s1=⟨tm',h',dd::ds⟩∧h'.wf∧Keeps (fun c=>c=b6∨c=bN∨c=bT) h h'∧Fw h' b6 bN bT r.len x∧h.next≤dd∧h'.get dd=some .dfr∧(Opd.t 2).ev tm'=.ptr b2 0∧(Opd.t 3).ev tm'=.ptr b3 0∧(Opd.t 5).ev tm'=.ptr b5 0∧(Opd.t 6).ev tm'=.ptr b6 0∧(Opd.t 7).ev tm'=.ptr b7 0∧(Opd.t 8).ev tm'=.ptr b8 0∧(Opd.t 9).ev tm'=.ptr b9 0:=by
 have kl:=k.len
 obtain⟨BL,NL,TL,g6,lB,gN,lN,gT,lT,up⟩:=fw.ex
 have ww:wr .i64 ((x:Int)+1)=((x+1:Nat):Int):=by rw[wr_in (by omega) (by omega)];rfl
 have zB:∀a,(encB a).length=2:=fun _=>rfl
 have i1:q_iaa 61 2 (.ptr b6 0) (.int .i64 ((x+1:Nat):Int))=some (.ptr b6 ((x+1)*2)):=by rw[q_iaa_in (by omega),Nat.zero_add]
 have i0:q_iaa 61 2 (.ptr b6 0) (.int .i64 (x:Int))=some (.ptr b6 (x*2)):=by rw[q_iaa_in (by omega),Nat.zero_add]
 have gB:=getRow zB (l:=BL) (k:=x+1) (by omega)
 have pB:=putRow zB (by omega) (l:=BL) (k:=x) (by omega) BL[x+1]
 obtain⟨⟨p1,p2⟩,hp⟩:∃p,BL[x+1]=p:=⟨_,rfl⟩
 rw[hp] at gB pB
 simp only[encB] at gB
 have pB':putN (x*2) [.int .i64 p1,.int .i64 p2] (BL.map encB).flatten=some ((BL.set x (p1,p2)).map encB).flatten:=pB
 have xb:Nat.blt x r.len=true:=by rw[Nat.blt_eq];exact hx
 have iT:q_iad 1 (.sl bT 0 r.len (.fix r.len)) (.int .i64 (x:Int))=some (.ptr bT x):=by
  simp only[q_iad,nat_cst,xb,og_true,Nat.zero_add,Nat.mul_one]
 have n6:=ne b6 (.inl rfl)
 have nT:=ne bT (.inr (.inr rfl))
 have nN:=ne bN (.inr (.inl rfl))
 have kA1:Keeps (fun c=>c=b6) h (h.set b6 (.cells .rw ((BL.set x (p1,p2)).map encB).flatten)):=Keeps.set _ _ _
 have g8a:=kA1.cells g8 (by omega)
 have g9a:=kA1.cells g9 (by omega)
 have gTa:=kA1.2 _ _ gT (by omega)
 have pT:=putI (l:=TL) (j:=x) (by omega) ((x+1:Nat):Int)
 simp only[navB,c27]
 simp -implicitDefEqProofs(maxSteps:=999999)(disch:=first|with_reducible rfl|omega|(simp only[nA,nS,nD]<;>omega)|fail)only[go_sem,t2,t3,t6,t7,t8,t9,g9,g8,ww,cells_of g6,i1,i0,gB,g6,pB',g8a,g9a,iT,gTa,pT,g2]
 obtain⟨hA,ehA⟩:∃z,(h.set b6 (.cells .rw ((BL.set x (p1,p2)).map encB).flatten)).set bT (.cells .rw ((TL.set x ((x+1:Nat):Int)).map iv))=z:=⟨_,rfl⟩
 rw[ehA]
 have wA:hA.wf:=by rw[←ehA];exact H.wf_set (H.wf_set hw _ g6) _ gTa
 have kA:Keeps (fun c=>c=b6∨c=bN∨c=bT) h hA:=by
  rw[←ehA]
  exact(kA1.trans (Keeps.set _ _ _)).mono fun c hc=>hc.elim .inl fun hc=>.inr (.inr hc)
 have lA:hA.next=h.next:=by rw[←ehA,H.next_set,H.next_set]
 have fA:Fw hA b6 bN bT r.len x:=by
  rw[←ehA]
  refine⟨BL.set x (p1,p2),NL,TL.set x ((x+1:Nat):Int),by rw[get_set_other (by omega),get_set_same rfl],by rw[List.length_set];exact lB,by rw[get_set_other (by omega),get_set_other (by omega)];exact gN,lN,get_set_same rfl,by rw[List.length_set];exact lT,fun j h1 h2=>?_⟩
  rw[getD_set (by omega)]
  by_cases e:j=x
  ·rw[if_pos e];omega
  ·rw[if_neg e];exact up j (by omega) h2
 clear ehA
 have nS:∀c,(c=b6∨c=bN∨c=bT)→h0.next≤c:=fun c hc=>by omega
 have lt6:=hw _ _ g6
 have ltN:=hw _ _ gN
 have ltT:=hw _ _ gT
 have dA:CdAt hA cd F W r:=(d.keep hw0 ((Keeps.of s0 (fun _=>False)).trans kA) fun c hc=>hc.elim (fun h=>h.elim) (nS c))
 refine cuts_ev wA cd x _ fun hB sB lB' gBa gBb=>?_
 rw[lA] at lB' gBa gBb⊢
 have wB:=sB.wf
 simp -implicitDefEqProofs(maxSteps:=999999)(disch:=first|with_reducible rfl|omega|(simp only[nA,nS,nD]<;>omega)|fail)only[go_sem]
 refine W_gen (P:=fun tm=>(Opd.t 2).ev tm=.ptr b2 0∧(Opd.t 3).ev tm=.ptr b3 0∧(Opd.t 5).ev tm=.ptr b5 0∧(Opd.t 6).ev tm=.ptr b6 0∧(Opd.t 7).ev tm=.ptr b7 0∧(Opd.t 8).ev tm=.ptr b8 0∧(Opd.t 9).ev tm=.ptr b9 0∧(Opd.t 53).ev tm=.fn 66 [] [.ptr h.next 0,.ptr (h.next+1) 0]) ⟨(by simp[ev_c,ev_put,t2]<;>rfl),(by simp[ev_c,ev_put,t3]<;>rfl),(by simp[ev_c,ev_put,t5]<;>rfl),(by simp[ev_c,ev_put,t6]<;>rfl),(by simp[ev_c,ev_put,t7]<;>rfl),(by simp[ev_c,ev_put,t8]<;>rfl),(by simp[ev_c,ev_put,t9]<;>rfl),(by simp[ev_c,ev_put]<;>rfl)⟩ fun tm ⟨t2,t3,t5,t6,t7,t8,t9,t53⟩=>?_
 refine W_rf t53 ?_
 generalize hr:LoopR.mk _ _ _ _ _ _ _ _ _=r0
 have fB:=congrArg LoopR.body hr
 have fA':=congrArg LoopR.assign hr
 have fN:=congrArg LoopR.n hr
 have fF:=congrArg LoopR.fn hr
 have fP:=congrArg LoopR.ps hr
 have fT:=congrArg LoopR.tm hr
 dsimp only at fB fA' fN fF fP fT
 have hrs:r0.st=.ready:=by rw[←hr]
 have hrp:r0.pend=none:=by rw[←hr]
 have lB1:(hB.add .dfr).next=hB.next+1:=H.next_add _ _
 have kB:=Keeps.of (sB.trans (((H.Sub.refl wB).add .dfr).add (.loop r0))) (fun c=>c=b6∨c=bN∨c=bT)
 obtain⟨hC,ehC⟩:∃z,(hB.add .dfr).add (.loop r0)=z:=⟨_,rfl⟩
 have sBC:hB.Sub hC:=by rw[←ehC];exact(((H.Sub.refl wB).add .dfr).add (.loop r0))
 have gCd:hC.get hB.next=some .dfr:=by rw[←ehC,get_add_old (by rw[lB1];omega),get_add_new rfl]
 have gCl:hC.get (hB.next+1)=some (.loop r0):=by rw[←ehC];exact get_add_new lB1.symm
 have nxC:hC.next=hB.next+2:=by rw[←ehC];simp only[H.next_add]
 rw[ehC] at kB⊢
 clear ehC
 have kC:Keeps (fun c=>c=b6∨c=bN∨c=bT) h hC:=(kA.trans kB).mono fun c hc=>hc.elim id id
 have sAC:=sB.trans sBC
 obtain⟨I,hI⟩:∃I:Nat→H→Prop,∀m z,I m z↔z.wf∧Keeps (fun c=>c=b6∨c=bN∨c=bT) h z∧hC.next≤z.next∧Fw z b6 bN bT r.len x∧z.cells h.next=some [.ptr cd 0]∧z.cells (h.next+1)=some [.int .i64 (x:Int)]∧z.get hB.next=some .dfr∧z.get (hB.next+1)=some (.loop r0):=⟨_,fun _ _=>Iff.rfl⟩
 have fwm:∀{z z':H} {lo:Nat},Fw z b6 bN bT r.len lo→z.Sub z'→Fw z' b6 bN bT r.len lo:=fun f s=>by
  obtain⟨BL,NL,TL,a1,a2,a3,a4,a5,a6,a7⟩:=f.ex
  exact⟨BL,NL,TL,s.get a1,a2,s.get a3,a4,s.get a5,a6,a7⟩
 have dI:∀m z,I m z→CdAt z cd F W r:=fun m z hz=>by
  obtain⟨_,kz,_⟩:=(hI m z).1 hz
  exact d.keep hw0 ((Keeps.of s0 (fun _=>False)).trans kz) fun c hc=>hc.elim (fun h=>h.elim) (nS c)
 have hI0:I 0 hC:=(hI _ _).2 ⟨sBC.wf,kC,Nat.le_refl _,fwm fA sAC,sBC.cells gBa,sBC.cells gBb,gCd,gCl⟩
 rw[Ev_fn,show appN [] (appN [V.yld (hB.next+1)] [V.ptr h.next 0,V.ptr (h.next+1) 0])=[.yld (hB.next+1),.ptr h.next 0,.ptr (h.next+1) 0] from rfl]
 refine(cuts1_gen (cd:=cd) (F:=F) (W:=W) (y:=.yld (hB.next+1)) (S:=fun c=>(c=b6∨c=bN∨c=bT)∨c=hB.next+1) (I:=I) k hx (fun m z e f hm hIz htk=>?_) (fun m z hm hIz htk=>?_) (fun m z z' hIz sz=>?_) (fun m z hIz=>?_) (fun c hc=>hc.elim (fun e=>by omega) fun e=>by omega) hI0).mono fun u h7 hu=>?_
 ·obtain⟨w,kz,lz,fz,ga,gb,gd,gl⟩:=(hI _ _).1 hIz
  obtain⟨hxe,hf,he⟩:=takeN_bd k hx htk
  obtain⟨BM,NM,TM,m6,mB,mN,nN',mT,nT',upM⟩:=fz.ex
  refine Ev.gen fun Q2 q2=>?_
  refine Ev_yld (tm:=(tm.put (some (.agg (cutV (m/2) x (decide (m%2=1))))) 54).put (some (.agg [.int .i64 (e:Int),.int .i64 (earn (wantN r m) f)])) 55) gl (by rw[←fP,←fT];rfl) ?_
  rw[←fA',←fN,←fF]
  obtain⟨en,hen⟩:∃en,earn (wantN r m) f=en:=⟨_,rfl⟩
  obtain⟨jn,hjn⟩:∃jn,decide (m%2=1)=jn:=⟨_,rfl⟩
  rw[hen,hjn]
  have sx:=((H.Sub.refl w).add (.cells .rw (cutV (m/2) x jn))).add (.cells .rw [.int .i64 (e:Int),.int .i64 en])
  have l10:(z.add (.cells .rw (cutV (m/2) x jn))).next=z.next+1:=H.next_add _ _
  have g11:((z.add (.cells .rw (cutV (m/2) x jn))).add (.cells .rw [.int .i64 (e:Int),.int .i64 en])).cells (z.next+1)=some [.int .i64 (e:Int),.int .i64 en]:=cells_add_new l10.symm
  have g10:((z.add (.cells .rw (cutV (m/2) x jn))).add (.cells .rw [.int .i64 (e:Int),.int .i64 en])).cells z.next=some (cutV (m/2) x jn):=by rw[cells_add_old (by omega)];exact cells_add_new rfl
  have lw:((z.add (.cells .rw (cutV (m/2) x jn))).add (.cells .rw [.int .i64 (e:Int),.int .i64 en])).next=z.next+2:=by simp only[H.next_add]
  simp only[cutV] at sx g11 g10 lw⊢
  simp -implicitDefEqProofs(maxSteps:=999999)(disch:=first|with_reducible rfl|omega|(simp only[nA,nS,nD]<;>omega)|fail)only[go_sem,t2,t3,t6,t7,t8,t9]
  generalize H.add (H.add z _) _=z1 at sx g11 g10 lw⊢
  unfold Kasg
  refine⟨rfl,r0,sx.get gl,hrs,?_⟩
  obtain⟨rb,hrb⟩:∃rb:LoopR,rb={r0 with st:=.busy}:=⟨_,rfl⟩
  have hrb1:({rb with st:=.ready,pend:=none}:LoopR)=r0:=by rw[hrb];exact rLoop hrs hrp
  rw[←hrb,←fB,←fN,←fF]
  have kz1:=(kz.trans (Keeps.of sx (fun _=>False))).mono (T:=fun c=>c=b6∨c=bN∨c=bT) fun c hc=>hc.elim id fun h=>h.elim
  have ltl:=w _ _ gl
  have kl1:Keeps (fun c=>c=hB.next+1) z1 (z1.set (hB.next+1) (.loop rb)):=Keeps.set _ _ _
  have wl1:=H.wf_set sx.wf (.loop rb) (sx.get gl)
  have gl1:(z1.set (hB.next+1) (.loop rb)).get (hB.next+1)=some (.loop rb):=get_set_same rfl
  have ll1:(z1.set (hB.next+1) (.loop rb)).next=z1.next:=H.next_set _ _ _
  generalize z1.set (hB.next+1) (.loop rb)=z2 at kl1 wl1 gl1 ll1⊢
  have lt9:b9<h.next:=by obtain⟨kk,hk⟩:=H.cells_eq g9;exact hw _ _ hk
  have lt8:b8<h.next:=by obtain⟨kk,hk⟩:=H.cells_eq g8;exact hw _ _ hk
  have lt7:b7<h.next:=by obtain⟨kk,hk⟩:=H.cells_eq g7;exact hw _ _ hk
  have lt3:b3<h.next:=by obtain⟨kk,hk⟩:=H.cells_eq g3;exact hw _ _ hk
  have r3:=kl1.cells (kz1.cells g3 (by omega)) (by omega)
  have r7:=kl1.cells (kz1.cells g7 (by omega)) (by omega)
  have r8:=kl1.cells (kz1.cells g8 (by omega)) (by omega)
  have r9:=kl1.cells (kz1.cells g9 (by omega)) (by omega)
  have r10:=kl1.cells g10 (by omega)
  have r11:=kl1.cells g11 (by omega)
  have r6:=kl1.2 _ _ (sx.get m6) (by omega)
  have rN:=kl1.2 _ _ (sx.get mN) (by omega)
  have rT:=kl1.2 _ _ (sx.get mT) (by omega)
  obtain⟨⟨a1,a2⟩,hae⟩:∃p,BM[e]=p:=⟨_,rfl⟩
  obtain⟨⟨c1,c2⟩,hcx⟩:∃p,BM[x]=p:=⟨_,rfl⟩
  have gE:=getRow zB (l:=BM) (k:=e) (by omega)
  have gX:=getRow zB (l:=BM) (k:=x) (by omega)
  rw[hae] at gE
  rw[hcx] at gX
  simp only[encB] at gE gX
  have nE0:nth (e*2) (BM.map encB).flatten=some (.int .i64 a1):=nthRow gE (j:=0) (by omega)
  have nE1:nth (e*2+1) (BM.map encB).flatten=some (.int .i64 a2):=nthRow gE (j:=1) (by omega)
  have iE:q_iaa 61 2 (.ptr b6 0) (.int .i64 (e:Int))=some (.ptr b6 (e*2)):=by rw[q_iaa_in (by omega),Nat.zero_add]
  obtain⟨n1,hn1⟩:∃n1,wr .i64 (a1+en)=n1:=⟨_,rfl⟩
  obtain⟨n2,hn2⟩:∃n2,wr .i64 (a2+1)=n2:=⟨_,rfl⟩
  have sM:=(H.Sub.refl wl1).add (.cells .rw [.int .i64 n1,.int .i64 n2])
  have g12:(z2.add (.cells .rw [.int .i64 n1,.int .i64 n2])).cells z2.next=some [.int .i64 n1,.int .i64 n2]:=cells_add_new rfl
  have r3M:=sM.cells r3
  have r9M:=sM.cells r9
  have r6M:=sM.get r6
  have r11M:=sM.cells r11
  have lM:=H.next_add z2 (.cells .rw [.int .i64 n1,.int .i64 n2])
  simp -implicitDefEqProofs(maxSteps:=999999)(disch:=first|with_reducible rfl|omega|(simp only[nA,nS,nD]<;>omega)|fail)only[go_sem,t2,t3,t6,t7,t8,t9,r11,iE,i0,cells_of r6,nE0,nE1,hn1,hn2,r3,r9,r3M,r9M,cells_of r6M,gX,g12]
  refine bst_ev _ _ _ _ sM.wf _ fun z4 s4=>?_
  have s24:=sM.trans s4
  have r34:=s24.cells r3
  have r74:=s24.cells r7
  have r84:=s24.cells r8
  have r94:=s24.cells r9
  have r64:=s24.get r6
  have rN4:=s24.get rN
  have rT4:=s24.get rT
  have r104:=s24.cells r10
  have r114:=s24.cells r11
  have r124:=s4.cells g12
  have gl4:=s24.get gl1
  have l4:=s4.next
  have w4:=s4.wf
  clear r11M lM
  generalize z2.add (.cells .rw [.int .i64 n1,.int .i64 n2])=z3 at sM s4 l4 g12 r3M r9M r6M⊢
  have hsx:=sx.next
  have kz2:Keeps (fun c=>c=hB.next+1) z z2:=((Keeps.of sx (fun _=>False)).trans kl1).mono fun c hc=>hc.elim (fun h=>h.elim) id
  have kz4:Keeps (fun c=>c=hB.next+1) z z4:=(kz2.trans (Keeps.of s24 (fun _=>False))).mono fun c hc=>hc.elim id fun h=>h.elim
  have fin:∀(tm':Go.Ab.T V) (zf:H),zf.wf→Keeps (fun c=>c=b6∨c=bN∨c=bT) z4 zf→Fw zf b6 bN bT r.len x→Kround (hB.next+1) Q2 .nrm ⟨tm',zf,[]⟩:=fun tm' zf wf kf ff=>by
   have glf:=kf.2 _ _ gl4 (by omega)
   have ks:Keeps (fun c=>c=hB.next+1) zf (zf.set (hB.next+1) (.loop {rb with st:=.ready,pend:=none})):=Keeps.set _ _ _
   have ws:=H.wf_set wf (.loop {rb with st:=.ready,pend:=none}) glf
   have gs:(zf.set (hB.next+1) (.loop {rb with st:=.ready,pend:=none})).get (hB.next+1)=some (.loop {rb with st:=.ready,pend:=none}):=get_set_same rfl
   unfold Kround
   refine⟨rb,glf,q2 _ _ ⟨rfl,?_⟩⟩
   rw[hrb1] at ks ws gs⊢
   generalize zf.set (hB.next+1) _=zg at ks ws gs⊢
   have kall:Keeps (fun c=>(c=b6∨c=bN∨c=bT)∨c=hB.next+1) z zg:=((kz4.trans kf).trans ks).mono fun c hc=>by
    rcases hc with(hc|hc)|hc
    ·exact .inr hc
    ·exact .inl hc
    ·exact .inr hc
   have fg:Fw zg b6 bN bT r.len x:=by
    obtain⟨BL,NL,TL,a1,a2,a3,a4,a5,a6,a7⟩:=ff.ex
    exact⟨BL,NL,TL,ks.2 _ _ a1 (by omega),a2,ks.2 _ _ a3 (by omega),a4,ks.2 _ _ a5 (by omega),a6,a7⟩
   refine⟨(hI _ _).2 ⟨ws,((kz.trans kall).mono (T:=fun c=>(c=b6∨c=bN∨c=bT)∨h.next≤c) fun c hc=>?_).new hw,by have:=kall.1;omega,fg,kall.cells ga (by omega),kall.cells gb (by omega),kall.2 _ _ gd (by omega),gs⟩,kall⟩
   rcases hc with hc|hc|hc
   ·exact .inl hc
   ·exact .inl hc
   ·exact .inr (by omega)
  by_cases hlt:c1<n1
  ·have hput6:=putRow zB (by omega) (l:=BM) (k:=x) (by omega) (n1,n2)
   have hputN:=putRow (enc:=encN) (sz:=3) (fun _=>rfl) (by omega) (l:=NM) (k:=x) (by omega) (((m/2:Nat):Int),((x:Nat):Int),jn)
   have hputT:=putI (l:=TM) (j:=x) (by omega) (e:Int)
   simp only[show encB (n1,n2)=[.int .i64 n1,.int .i64 n2] from rfl] at hput6
   simp only[show encN (((m/2:Nat):Int),((x:Nat):Int),jn)=[.int .i64 ((m/2:Nat):Int),.int .i64 (x:Int),.bool jn] from rfl] at hputN
   have i3:q_iad 3 (.sl bN 0 r.len (.fix r.len)) (.int .i64 (x:Int))=some (.ptr bN (x*3)):=by
    simp only[q_iad,nat_cst,xb,og_true,Nat.zero_add]
   have k5:Keeps (fun c=>c=b6) z4 (z4.set b6 (.cells .rw ((BM.set x (n1,n2)).map encB).flatten)):=Keeps.set _ _ _
   have w5:=H.wf_set w4 (.cells .rw ((BM.set x (n1,n2)).map encB).flatten) r64
   have g65:(z4.set b6 (.cells .rw ((BM.set x (n1,n2)).map encB).flatten)).get b6=some (.cells .rw ((BM.set x (n1,n2)).map encB).flatten):=get_set_same rfl
   have r75:=k5.cells r74 (by omega)
   have r85:=k5.cells r84 (by omega)
   have r95:=k5.cells r94 (by omega)
   have r105:=k5.cells r104 (by omega)
   have r115:=k5.cells r114 (by omega)
   have rN5:=k5.2 _ _ rN4 (by omega)
   have rT5:=k5.2 _ _ rT4 (by omega)
   simp -implicitDefEqProofs(maxSteps:=999999)(disch:=first|with_reducible rfl|omega|(simp only[nA,nS,nD]<;>omega)|fail)only[go_sem,t2,t3,t6,t7,t8,t9,r34,r74,r84,r94,cells_of r64,i0,gX,r124,hlt,r3M,r9M,cells_of r6M,g12,r104,r114,r64,hput6,r75,r85,r95,r105,r115,i3,rN5,hputN,iT,rN4,cells_of rN4,rT4,hputT]
   have k7:=(k5.trans (Keeps.set (z4.set b6 (.cells .rw ((BM.set x (n1,n2)).map encB).flatten)) bN (.cells .rw ((NM.set x (((m/2:Nat):Int),((x:Nat):Int),jn)).map encN).flatten))).trans (Keeps.set _ bT (.cells .rw ((TM.set x (e:Int)).map iv)))
   have w6:=H.wf_set w5 (.cells .rw ((NM.set x (((m/2:Nat):Int),((x:Nat):Int),jn)).map encN).flatten) rN5
   refine fin _ _ (H.wf_set w6 _ (by rw[get_set_other (by omega)];exact rT5)) (k7.mono fun c hc=>?_) ⟨BM.set x (n1,n2),NM.set x (((m/2:Nat):Int),((x:Nat):Int),jn),TM.set x (e:Int),by rw[get_set_other (by omega),get_set_other (by omega)];exact g65,by rw[List.length_set];exact mB,by rw[get_set_other (by omega),get_set_same rfl],by rw[List.length_set];exact nN',get_set_same rfl,by rw[List.length_set];exact nT',fun j h1 h2=>?_⟩
   ·rcases hc with(hc|hc)|hc
    ·exact .inl hc
    ·exact .inr (.inl hc)
    ·exact .inr (.inr hc)
   ·rw[getD_set (by omega)]
    by_cases ej:j=x
    ·rw[if_pos ej];omega
    ·rw[if_neg ej];exact upM j h1 h2
  ·simp -implicitDefEqProofs(maxSteps:=999999)(disch:=first|with_reducible rfl|omega|(simp only[nA,nS,nD]<;>omega)|fail)only[go_sem,t2,t3,t6,t7,t8,t9,r34,r74,r84,r94,cells_of r64,i0,gX,r124,hlt,r3M,r9M,cells_of r6M,g12]
   exact fin _ _ w4 (Keeps.refl _ _) ⟨BM,NM,TM,r64,mB,rN4,nN',rT4,nT',upM⟩
 ·exact(hI _ _).2 ((hI _ _).1 hIz)
 ·obtain⟨w,kz,lz,fz,ga,gb,gd,gl⟩:=(hI _ _).1 hIz
  exact(hI _ _).2 ⟨sz.wf,(kz.trans (Keeps.of sz (fun _=>False))).mono fun c hc=>hc.elim id fun h=>h.elim,Nat.le_trans lz sz.next,fwm fz sz,sz.cells ga,sz.cells gb,sz.get gd,sz.get gl⟩
 ·obtain⟨w,kz,lz,fz,ga,gb,gd,gl⟩:=(hI _ _).1 hIz
  exact⟨w,dI _ _ hIz,ga,gb⟩
 ·obtain⟨w,kz,lz,fz,ga,gb,gd,gl⟩:=(hI _ _).1 hu
  refine⟨r0,gl,by rw[hrs];simp,?_⟩
  rw[hrp]
  have ks:Keeps (fun c=>c=hB.next+1) h7 (h7.set (hB.next+1) (.loop {r0 with st:=.exhausted})):=Keeps.set _ _ _
  have ws:=H.wf_set w (.loop {r0 with st:=.exhausted}) gl
  rw[hrp] at ks ws
  generalize h7.set (hB.next+1) _=h8 at ks ws⊢
  have fz8:Fw h8 b6 bN bT r.len x:=by
   obtain⟨BL,NL,TL,a1,a2,a3,a4,a5,a6,a7⟩:=fz.ex
   exact⟨BL,NL,TL,ks.2 _ _ a1 (by omega),a2,ks.2 _ _ a3 (by omega),a4,ks.2 _ _ a5 (by omega),a6,a7⟩
  simp -implicitDefEqProofs(maxSteps:=999999)(disch:=first|with_reducible rfl|omega|(simp only[nA,nS,nD]<;>omega)|fail)only[go_sem]
  exact⟨_,_,_,rfl,ws,((kz.trans ks).mono fun c hc=>hc.elim (fun e=>.inl e) (fun e=>.inr (by omega))).new hw,fz8,by omega,ks.2 _ _ gd (by omega),(by simp[ev_c,ev_put,t2]<;>rfl),(by simp[ev_c,ev_put,t3]<;>rfl),(by simp[ev_c,ev_put,t5]<;>rfl),(by simp[ev_c,ev_put,t6]<;>rfl),(by simp[ev_c,ev_put,t7]<;>rfl),(by simp[ev_c,ev_put,t8]<;>rfl),(by simp[ev_c,ev_put,t9]<;>rfl)⟩
end Go.Ab.Tryz
namespace Go.Ab.Tryz
set_option maxHeartbeats 8000000 in
theorem follow_ev {h:H}(hw:h.wf){cd:Nat}{F W:V}{r:Rb}(d:CdAt h cd F W r)(k:RbOk r)(Q:V→H→Prop)(q:∀y h',h.Sub h'→y.one=true→Q y h'):
  Ev fnG fastA (.fn 27 [] []) [.ptr cd 0,.agg [.fn 28 [] []]] h Q:=by
 have kl:=k.len
 have ltd:=hw _ _ d.g
 obtain⟨R,hR⟩:∃R,navB [true,true,true,true,true,false,true,true,true,true,false] c27.body=R:=⟨_,rfl⟩
 have hpos:= @pos2_ev
 rw[hR] at hpos
 simp only[navB,c27] at hR
 refine Ev_body (fd:=c27) rfl rfl rfl ?_
 simp only[c27]
 rw[hR]
 clear hR
 obtain⟨zz,hzz⟩:∃zz,((List.replicate 61 ((0:Int),(0:Int))).map encB).flatten=zz:=⟨_,rfl⟩
 have s1:=(((H.Sub.refl hw).add (.cells .rw [.ptr cd 0])).add (.cells .rw [.fn 28 [] []])).add (.cells .rw [.int .i64 (-1),.int .i64 0,.bool false])
 have g2:(((h.add (.cells .rw [.ptr cd 0])).add (.cells .rw [.fn 28 [] []])).add (.cells .rw [.int .i64 (-1),.int .i64 0,.bool false])).cells h.next=some [.ptr cd 0]:=by simp -implicitDefEqProofs(maxSteps:=999999)(disch:=first|with_reducible rfl|omega|(simp only[nA,nS,nD]<;>omega)|fail)only[go_sem]
 have g3:(((h.add (.cells .rw [.ptr cd 0])).add (.cells .rw [.fn 28 [] []])).add (.cells .rw [.int .i64 (-1),.int .i64 0,.bool false])).cells (h.next+1)=some [.fn 28 [] []]:=by simp -implicitDefEqProofs(maxSteps:=999999)(disch:=first|with_reducible rfl|omega|(simp only[nA,nS,nD]<;>omega)|fail)only[go_sem]
 have g5:(((h.add (.cells .rw [.ptr cd 0])).add (.cells .rw [.fn 28 [] []])).add (.cells .rw [.int .i64 (-1),.int .i64 0,.bool false])).cells (h.next+2)=some [.int .i64 (-1),.int .i64 0,.bool false]:=by simp -implicitDefEqProofs(maxSteps:=999999)(disch:=first|with_reducible rfl|omega|(simp only[nA,nS,nD]<;>omega)|fail)only[go_sem]
 have n1:(((h.add (.cells .rw [.ptr cd 0])).add (.cells .rw [.fn 28 [] []])).add (.cells .rw [.int .i64 (-1),.int .i64 0,.bool false])).next=h.next+3:=by simp only[H.next_add]
 simp only[List.replicate,List.map_cons,List.map_nil,List.flatten_cons,List.flatten_nil,encB,List.cons_append,List.nil_append,List.append_nil] at hzz
 simp -implicitDefEqProofs(maxSteps:=999999)(disch:=first|with_reducible rfl|omega|(simp only[nA,nS,nD]<;>omega)|fail)only[go_sem]
 rw[hzz]
 have hzz':((List.replicate 61 ((0:Int),(0:Int))).map encB).flatten=zz:=by rw[←hzz];rfl
 clear hzz
 generalize H.add (H.add (H.add h _) _) _=h3 at s1 g2 g3 g5 n1⊢
 have s4:=s1.add (.cells .rw zz)
 have g6:(h3.add (.cells .rw zz)).get (h.next+3)=some (.cells .rw zz):=get_add_new n1.symm
 have g24:=((H.Sub.refl s1.wf).add (.cells .rw zz)).cells g2
 have g34:=((H.Sub.refl s1.wf).add (.cells .rw zz)).cells g3
 have g54:=((H.Sub.refl s1.wf).add (.cells .rw zz)).cells g5
 have n4:(h3.add (.cells .rw zz)).next=h.next+4:=by rw[H.next_add,n1]
 generalize H.add h3 _=h4 at s4 g6 g24 g34 g54 n4⊢
 have s5:=s4.add (.cells .rw [.int .i64 (-1),.int .i64 0,.bool false])
 have s45:=(H.Sub.refl s4.wf).add (.cells .rw [.int .i64 (-1),.int .i64 0,.bool false])
 have ay:SlAt (h4.add (.cells .rw [.int .i64 (-1),.int .i64 0,.bool false])) (.sl h4.next 0 1 (.fix 1)) 3 ([((-1:Int),(0:Int),false)].map encN):=SlAt.new _ rfl rfl rfl (by simp[encN]) (by simp)
 have d5:=d.mono s5
 have g25:=s45.cells g24
 have n5:(h4.add (.cells .rw [.int .i64 (-1),.int .i64 0,.bool false])).next=h.next+5:=by rw[H.next_add,n4]
 rw[n4] at ay
 have g35:=s45.cells g34
 have g55:=s45.cells g54
 have g65:=s45.get g6
 simp only[Nat.add_assoc,Nat.reduceAdd]
 generalize H.add h4 _=h5 at s5 ay d5 g25 g35 g55 g65 n5⊢
 clear s45 s4 g6 g24 g34 g54
 simp -implicitDefEqProofs(maxSteps:=999999)(disch:=first|with_reducible rfl|omega|(simp only[nA,nS,nD]<;>omega)|fail)only[go_sem,cells_of d.g,cells_of d5.g,dk0]
 refine repeat_ev kl.1 kl.2 s5.wf ay _ fun bN NL h6 s6 lbN gN lN=>?_
 have d6:=d5.mono s6
 have g26:=s6.cells g25
 have g36:=s6.cells g35
 have g56:=s6.cells g55
 have g66:=s6.get g65
 have ltN:=s6.wf _ _ gN
 have l6:=s6.next
 have am:∀g:H,a_msl g 8 [V.int .i64 0] (.int .i64 (r.len:Int)) (.int .i64 (r.len:Int))=_:=fun g=>a_msl_nn' (by omega) (by omega)
 have wl:wr .i64 ((r.len:Int)-1)=(r.len:Int)-1:=wr_in (by omega) (by omega)
 simp -implicitDefEqProofs(maxSteps:=999999)(disch:=first|with_reducible rfl|omega|(simp only[nA,nS,nD]<;>omega)|fail)only[go_sem,cells_of d.g,cells_of d5.g,dk0,cells_of d6.g,g25,g26,g55,am,wl]
 obtain⟨hB,ehB⟩:∃z,(((h6.add (.cells .rw [.sl bN 0 r.len (.fix r.len)])).add (.cells .rw (repN r.len [.int .i64 0]))).add (.cells .rw [.sl (h6.next+1) 0 r.len (.fix r.len)])).add (.cells .rw [.int .i64 ((r.len:Int)-1)])=z:=⟨_,rfl⟩
 have sB:h6.Sub hB:=by rw[←ehB];exact((((H.Sub.refl s6.wf).add _).add _).add _).add _
 have gB7:hB.cells h6.next=some [.sl bN 0 r.len (.fix r.len)]:=by rw[←ehB];simp -implicitDefEqProofs(maxSteps:=999999)(disch:=first|with_reducible rfl|omega|(simp only[nA,nS,nD]<;>omega)|fail)only[go_sem]
 have gBT:hB.get (h6.next+1)=some (.cells .rw (repN r.len [.int .i64 0])):=by rw[←ehB];simp -implicitDefEqProofs(maxSteps:=999999)(disch:=first|with_reducible rfl|omega|(simp only[nA,nS,nD]<;>omega)|fail)only[go_sem]
 have gB8:hB.cells (h6.next+2)=some [.sl (h6.next+1) 0 r.len (.fix r.len)]:=by rw[←ehB];simp -implicitDefEqProofs(maxSteps:=999999)(disch:=first|with_reducible rfl|omega|(simp only[nA,nS,nD]<;>omega)|fail)only[go_sem]
 have gB9:hB.get (h6.next+3)=some (.cells .rw [.int .i64 ((r.len:Int)-1)]):=by rw[←ehB];simp -implicitDefEqProofs(maxSteps:=999999)(disch:=first|with_reducible rfl|omega|(simp only[nA,nS,nD]<;>omega)|fail)only[go_sem]
 have lB:hB.next=h6.next+4:=by rw[←ehB];simp only[H.next_add]
 rw[ehB]
 clear ehB
 have gBN:=sB.get gN
 have gB6:=sB.get g66
 have gB2:=sB.cells g26
 have gB3:=sB.cells g36
 have gB5:=sB.cells g56
 have sall:=(s5.trans s6).trans sB
 have rp:repN r.len [V.int .i64 0]=(List.replicate r.len (0:Int)).map iv:=by rw[repN_1,List.map_replicate];rfl
 rw[rp] at gBT
 rw[←hzz'] at gB6
 have f0:Fw hB (h.next+3) bN (h6.next+1) r.len r.len:=⟨_,_,_,gB6,by simp,gBN,lN,gBT,by simp,fun j h1 h2=>by omega⟩
 simp only[Nat.add_assoc,Nat.reduceAdd]
 refine W_count r.len (fun n s=>∃(tm:Go.Ab.T V) (h':H) (c9:Nat) (ds:List Nat),s=⟨tm,h',ds⟩∧h'.wf∧Keeps (fun c=>c=h.next+3∨c=bN∨c=h6.next+1) hB h'∧Fw h' (h.next+3) bN (h6.next+1) r.len (r.len-n)∧h6.next+3≤c9∧h'.get c9=some (.cells .rw [.int .i64 ((r.len:Int)-1-(n:Int))])∧ds.Nodup∧(∀d∈ds,hB.next≤d∧h'.get d=some .dfr)∧(Opd.t 2).ev tm=.ptr h.next 0∧(Opd.t 3).ev tm=.ptr (h.next+1) 0∧(Opd.t 5).ev tm=.ptr (h.next+2) 0∧(Opd.t 6).ev tm=.ptr (h.next+3) 0∧(Opd.t 7).ev tm=.ptr h6.next 0∧(Opd.t 8).ev tm=.ptr (h6.next+2) 0∧(Opd.t 9).ev tm=.ptr c9 0) ?_ ?_ (i:=0) (Nat.zero_le _)
  ⟨_,_,_,[],rfl,sall.wf,Keeps.refl _ _,f0,Nat.le_refl _,(by rw[show(r.len:Int)-1-((0:Nat):Int)=(r.len:Int)-1 by omega];exact gB9),List.nodup_nil,(fun _ hd=>by simp at hd),(by simp[ev_c,ev_put]<;>rfl),(by simp[ev_c,ev_put]<;>rfl),(by simp[ev_c,ev_put]<;>rfl),(by simp[ev_c,ev_put]<;>rfl),(by simp[ev_c,ev_put]<;>rfl),(by simp[ev_c,ev_put]<;>rfl),(by simp[ev_c,ev_put]<;>rfl)⟩
 ·rintro n s hn ⟨tm,h',c9,ds,rfl,w',k',f',l9,g9,nd,hds,t2,t3,t5,t6,t7,t8,t9⟩
  obtain⟨x,hx⟩:∃x:Nat,r.len-(n+1)=x:=⟨_,rfl⟩
  have ex:(r.len:Int)-1-(n:Int)=(x:Int):=by omega
  rw[ex] at g9
  rw[show r.len-n=x+1 by omega] at f'
  have h0x:(0:Int)≤(x:Int):=by omega
  have g9c:=cells_of g9
  have s':h.Sub h':=k'.sub sall hw (fun c hc=>by omega) w'
  simp -implicitDefEqProofs(maxSteps:=999999)(disch:=first|with_reducible rfl|omega|(simp only[nA,nS,nD]<;>omega)|fail)only[go_sem,t9,g9c,h0x]
  refine(hpos w' s' hw d k (by omega) (by omega) f' (k'.cells gB2 (by omega)) (k'.cells gB3 (by omega)) (k'.cells gB7 (by omega)) (k'.cells gB8 (by omega)) g9c (fun c hc=>by omega) (by simp[ev_c,ev_put,t2]<;>rfl) (by simp[ev_c,ev_put,t3]<;>rfl) (by simp[ev_c,ev_put,t5]<;>rfl) (by simp[ev_c,ev_put,t6]<;>rfl) (by simp[ev_c,ev_put,t7]<;>rfl) (by simp[ev_c,ev_put,t8]<;>rfl) (by simp[ev_c,ev_put,t9]<;>rfl) ds).mono fun x1 s1 hs1=>?_
  obtain⟨rfl,tm1,h1,dd,rfl,w1,k1,f1,ldd,gdd,t21,t31,t51,t61,t71,t81,t91⟩:=hs1
  have g91:=cells_of (k1.2 _ _ g9 (by omega))
  have wx:wr .i64 ((x:Int)-1)=(x:Int)-1:=wr_in (by omega) (by omega)
  simp -implicitDefEqProofs(maxSteps:=999999)(disch:=first|with_reducible rfl|omega|(simp only[nA,nS,nD]<;>omega)|fail)only[go_sem,t91,g91,wx]
  have sC:=(H.Sub.refl w1).add (.cells .rw [.int .i64 ((x:Int)-1)])
  have n1:=k1.1
  have nk:=k'.1
  have f2:Fw (h1.add (.cells .rw [.int .i64 ((x:Int)-1)])) (h.next+3) bN (h6.next+1) r.len x:=by
   obtain⟨BL,NL,TL,a1,a2,a3,a4,a5,a6,a7⟩:=f1.ex
   exact⟨BL,NL,TL,sC.get a1,a2,sC.get a3,a4,sC.get a5,a6,a7⟩
  refine⟨_,_,h1.next,_,rfl,sC.wf,((k'.trans k1).trans (Keeps.of sC (fun _=>False))).mono (fun c hc=>hc.elim (fun hc=>hc.elim id id) fun hc=>hc.elim),by rw[hx];exact f2,by omega,?_,?_,?_,(by simp[ev_c,ev_put,t21]<;>rfl),(by simp[ev_c,ev_put,t31]<;>rfl),(by simp[ev_c,ev_put,t51]<;>rfl),(by simp[ev_c,ev_put,t61]<;>rfl),(by simp[ev_c,ev_put,t71]<;>rfl),(by simp[ev_c,ev_put,t81]<;>rfl),(by simp[ev_c,ev_put]<;>rfl)⟩
  ·rw[get_add_new rfl,show(r.len:Int)-1-((n+1:Nat):Int)=(x:Int)-1 by omega]
  ·refine List.nodup_cons.2 ⟨fun hm=>?_,nd⟩
   have:=w' _ _ (hds _ hm).2
   omega
  ·intro c hc
   rcases List.mem_cons.1 hc with rfl|hc
   ·exact⟨by omega,sC.get gdd⟩
   ·obtain⟨h1',h2'⟩:=hds _ hc
    exact⟨h1',sC.get (k1.2 _ _ h2' (by omega))⟩
 ·rintro s ⟨tm,h',c9,ds,rfl,w',k',f',l9,g9,nd,hds,t2,t3,t5,t6,t7,t8,t9⟩
  have h0x:¬(0:Int)≤(r.len:Int)-1-(r.len:Int):=by omega
  rw[Nat.sub_self] at f'
  have s':h.Sub h':=k'.sub sall hw (fun c hc=>by omega) w'
  simp -implicitDefEqProofs(maxSteps:=999999)(disch:=first|with_reducible rfl|omega|(simp only[nA,nS,nD]<;>omega)|fail)only[go_sem,t2,t3,t5,t6,t7,t8,t9,cells_of g9,h0x]
  obtain⟨BL,NM,TM,a1,a2,a3,a4,a5,a6,a7⟩:=f'.ex
  have ow:Onw h' cd h.next h6.next (h.next+2) (h6.next+2) bN (h6.next+1) r.len F W r NM TM (-1,0,false):=
   ⟨k'.cells gB2 (by omega),k'.cells gB7 (by omega),k'.cells gB5 (by omega),k'.cells gB8 (by omega),cells_of a3,cells_of a5,d.mono s',a4,a6,fun j hj=>a7 j (Nat.zero_le _) hj⟩
  rw[Ev_fn]
  obtain⟨hD,ehD⟩:∃z,(h'.add (.cells .rw [.nils])).add (.cells .rw [.fn 46 [] [.ptr h.next 0,.ptr h6.next 0,.ptr (h.next+2) 0,.ptr h'.next 0,.ptr (h'.next+1) 0,.ptr (h6.next+2) 0]])=z:=⟨_,rfl⟩
  have sD:h'.Sub hD:=by rw[←ehD];exact((H.Sub.refl w').add _).add _
  have l1:(h'.add (.cells .rw [.nils])).next=h'.next+1:=H.next_add _ _
  have gD13:hD.get h'.next=some (.cells .rw [.nils]):=by rw[←ehD,get_add_old (by omega),get_add_new rfl]
  have gD14:hD.get (h'.next+1)=some (.cells .rw [.fn 46 [] [.ptr h.next 0,.ptr h6.next 0,.ptr (h.next+2) 0,.ptr h'.next 0,.ptr (h'.next+1) 0,.ptr (h6.next+2) 0]]):=by rw[←ehD];exact get_add_new l1.symm
  rw[ehD]
  clear ehD
  refine(on_ev w' ow k (Nat.le_refl _) (by omega) _ 0 hD rfl (Nat.zero_le _) ⟨.nils,[],OwnSl.nil sD 3,Nat.le_refl _,gD13,gD14⟩).mono fun u hE hj=>?_
  obtain⟨Z,rows,oZ,lr,g13,g14⟩:=hj
  have zo:=(oZ.sl (by rw[List.length_map];omega)).one
  have sE:=oZ.1
  have nk:=k'.1
  have l6':=s5.next
  obtain⟨hF,e3,m1,m2,m3⟩:=marks_ok nd fun c hc=>sE.get (hds c hc).2
  simp -implicitDefEqProofs(maxSteps:=999999)(disch:=first|with_reducible rfl|omega|(simp only[nA,nS,nD]<;>omega)|fail)only[go_sem,cells_of g13,Kfin_rets _ _ _ e3]
  exact q _ _ (marks_sub (s'.trans sE) hw (fun c hc=>by have:=(hds c hc).1;omega) m1 m2 m3) zo
end Go.Ab.Tryz
namespace Go.Ab.Tryz
set_option maxHeartbeats 2000000 in
theorem best_ev {h:H}(hw:h.wf){F W:V}{r:Rb}(a:RbAt h F W r)(k:RbOk r)(Q:V→H→Prop)(q:∀y h',h.Sub h'→Q (.tup [y,.int .i64 ((madeL r r.len).getD 0 0),.int .i64 0]) h'):
  Ev fnG fastA (.fn 11 [] []) [.agg (rbV r F W)] h Q:=by
 have F1:=a.f.one
 have W1:=a.w.one
 obtain⟨ml,mb⟩:=madeL_ok k r.len (Nat.le_refl _)
 refine Ev_body (fd:=c11) rfl rfl rfl ?_
 have s0:=(H.Sub.refl hw).add (.cells .rw (rbV r F W))
 have g0:(h.add (.cells .rw (rbV r F W))).cells h.next=some (rbV r F W):=cells_add_new rfl
 simp -implicitDefEqProofs(maxSteps:=999999)(disch:=first|with_reducible rfl|omega|(simp only[nA,nS,nD]<;>omega)|fail)only[c11,go_sem,F1,W1,cells_one F1,cells_one W1]
 generalize h.add _=h0 at s0 g0⊢
 refine copened_ev s0.wf (a.mono s0) k _ fun cd h1 s1 lc d=>?_
 simp -implicitDefEqProofs(maxSteps:=999999)(disch:=first|with_reducible rfl|omega|(simp only[nA,nS,nD]<;>omega)|fail)only[go_sem,ne_eq,not_true_eq_false]
 refine follow_ev s1.wf d k _ fun y h2 s2 y1=>?_
 simp -implicitDefEqProofs(maxSteps:=999999)(disch:=first|with_reducible rfl|omega|(simp only[nA,nS,nD]<;>omega)|fail)only[go_sem]
 refine made_ev s2.wf (d.mono s2) k _ fun h3 s3=>?_
 have n0:=nthI (l:=madeL r r.len) (j:=0) (by omega)
 have ll:((madeL r r.len).map iv).length=61:=by rw[List.length_map];exact ml
 generalize(madeL r r.len).map iv=mv at n0 ll⊢
 have qi:q_idx false 61 1 (.agg mv) (.int .i64 0)=nth 0 mv:=rfl
 simp -implicitDefEqProofs(maxSteps:=999999)(disch:=first|with_reducible rfl|omega|(simp only[nA,nS,nD]<;>omega)|fail)only[go_sem,qi,n0]
 exact q _ _ (((s0.trans s1).trans s2).trans s3)
end Go.Ab.Tryz
namespace Go.Ab.Tryz
def wtP (w:Wt)(n:Int):Wt:={w with price:=n}
def wsP (ws:List Wt)(ps:List Int):List Wt:=List.zipWith wtP ws ps
theorem wsP_len {ws:List Wt}{ps:List Int}(h:ps.length=ws.length):(wsP ws ps).length=ws.length:=by simp[wsP,h]
theorem wsP_at {ws:List Wt}{ps:List Int}(h:ps.length=ws.length){i:Nat}(hi:i<ws.length):(wsP ws ps)[i]? =some (wtP ws[i] (ps.getD i 0)):=by
 rw[wsP,List.getElem?_zipWith,List.getElem?_eq_getElem hi,List.getElem?_eq_getElem (by omega),List.getD_eq_getElem?_getD,List.getElem?_eq_getElem (by omega)]
 rfl
theorem wsP_no {ws:List Wt}{ps:List Int}(h:ps.length=ws.length){i:Nat}(hi:¬i<ws.length):(wsP ws ps)[i]? =none:=by
 rw[List.getElem?_eq_none];rw[wsP_len h];omega
theorem unR_ws (n:Nat)(fs:List Int)(ws1 ws2:List Wt)(long:Int)(jn:Bool):∀d s,unR ⟨n,fs,ws1⟩ long jn d s=unR ⟨n,fs,ws2⟩ long jn d s
 |0,s=>rfl
 |d+1,s=>by
  have hu:∀u s,ust ⟨n,fs,ws1⟩ u s jn=ust ⟨n,fs,ws2⟩ u s jn:=fun u s=>by cases jn<;>rfl
  simp only[unR]
  rw[hu,unR_ws n fs ws1 ws2 long jn d]
theorem takeR_ws (n:Nat)(fs:List Int)(ws1 ws2:List Wt)(w:Wt)(a b:Int)(x:Nat)(jn:Bool):takeR ⟨n,fs,ws1⟩ (wtP w a) x jn=takeR ⟨n,fs,ws2⟩ (wtP w b) x jn:=by
 have hu:usR ⟨n,fs,ws1⟩ (wtP w a) x jn=usR ⟨n,fs,ws2⟩ (wtP w b) x jn:=unR_ws _ _ _ _ _ _ _ _
 unfold takeR
 rw[hu]
 rfl
theorem takeN_ws (n:Nat)(fs:List Int){ws:List Wt}{ps qs:List Int}(h1:ps.length=ws.length)(h2:qs.length=ws.length)(x m:Nat):takeN ⟨n,fs,wsP ws ps⟩ x m=takeN ⟨n,fs,wsP ws qs⟩ x m:=by
 unfold takeN
 by_cases hi:m/2<ws.length
 ·simp only[wsP_at h1 hi,wsP_at h2 hi]
  exact takeR_ws _ _ _ _ _ _ _ _ _
 ·simp only[wsP_no h1 hi,wsP_no h2 hi]
theorem earn_le {ws:List Wt}{ps qs:List Int}(h1:ps.length=ws.length)(h2:qs.length=ws.length)(hle:∀i,ps.getD i 0≤qs.getD i 0)(n:Nat)(fs:List Int)(m:Nat)(f:Int):earn (wantN ⟨n,fs,wsP ws ps⟩ m) f≤earn (wantN ⟨n,fs,wsP ws qs⟩ m) f:=by
 unfold wantN earn
 by_cases hi:m/2<ws.length
 ·simp only[wsP_at h1 hi,wsP_at h2 hi,Option.getD_some,wtP]
  have:=hle (m/2)
  omega
 ·simp only[wsP_no h1 hi,wsP_no h2 hi];omega
theorem accR_le {ws:List Wt}{ps qs:List Int}(h1:ps.length=ws.length)(h2:qs.length=ws.length)(hle:∀i,ps.getD i 0≤qs.getD i 0)(n:Nat)(fs:List Int)(x:Nat){v u:List Int}(hv:∀j,v.getD j 0≤u.getD j 0):∀m,accR ⟨n,fs,wsP ws ps⟩ x v m≤accR ⟨n,fs,wsP ws qs⟩ x u m
 |0=>hv _
 |m+1=>by
  have ih:=accR_le h1 h2 hle n fs x hv m
  unfold accR
  rw[takeN_ws n fs h1 h2]
  split
  ·rename_i ef h
   have:=earn_le h1 h2 hle n fs m ef.2
   have:=hv ef.1
   omega
  ·exact ih
theorem madeL_le {ws:List Wt}{ps qs:List Int}(h1:ps.length=ws.length)(h2:qs.length=ws.length)(hle:∀i,ps.getD i 0≤qs.getD i 0)(n:Nat)(hn:n≤60)(fs:List Int)(k1:RbOk ⟨n,fs,wsP ws ps⟩)(k2:RbOk ⟨n,fs,wsP ws qs⟩):∀i,i≤n→∀j,(madeL ⟨n,fs,wsP ws ps⟩ i).getD j 0≤(madeL ⟨n,fs,wsP ws qs⟩ i).getD j 0
 |0,_,j=>Int.le_refl _
 |i+1,hi,j=>by
  have ih:=madeL_le h1 h2 hle n hn fs k1 k2 i (by omega)
  have l1:=(madeL_ok k1 i (by show i≤n;omega)).1
  have l2:=(madeL_ok k2 i (by show i≤n;omega)).1
  have hle2:(wsP ws ps).length=(wsP ws qs).length:=by rw[wsP_len h1,wsP_len h2]
  simp only[madeL,mstep]
  rw[getD_set (by omega),getD_set (by omega),hle2]
  split
  ·exact accR_le h1 h2 hle n fs _ ih _
  ·exact ih j
theorem madeL_zero {r:Rb}(k:RbOk r)(hp:∀w∈r.wants,w.price=0):∀i,i≤r.len→∀j,(madeL r i).getD j 0=0
 |0,_,j=>by
  simp only[madeL,List.getD_eq_getElem?_getD,List.getElem?_replicate]
  split<;>rfl
 |i+1,hi,j=>by
  have ih:=madeL_zero k hp i (by omega)
  have kl:=k.len
  have l1:=(madeL_ok k i (by omega)).1
  have ha:∀m,accR r (r.len-(i+1)) (madeL r i) m=0:=by
   intro m
   induction m with
   |zero=>exact ih _
   |succ m ihm=>
    unfold accR
    split
    ·rename_i ef h
     obtain⟨e,f⟩:=ef
     have hb:=takeN_bd k (by omega) h
     have he:earn (wantN r m) f=0:=by
      unfold takeN at h
      split at h
      ·rename_i w hw
       have hm:=List.mem_of_getElem? hw
       have kw:=k.w _ hm
       have e1:=hp _ hm
       have:0≤w.off*f:=Int.mul_nonneg kw.off.1 hb.2.1.1
       unfold earn wantN
       rw[hw,Option.getD_some]
       omega
      ·cases h
     rw[ihm,ih,he];rfl
    ·exact ihm
  simp only[madeL,mstep]
  rw[getD_set (by omega),ha]
  split
  ·rfl
  ·exact ih j
end Go.Ab.Tryz
namespace Go.Ab.Tryz
theorem allOneWt (l:List Wt):allOne (l.map encWt).flatten=true:=by
 rw[allOne_eq]
 intro v hv
 obtain⟨r,hr,hv⟩:=List.mem_flatten.1 hv
 obtain⟨s,_,rfl⟩:=List.mem_map.1 hr
 simp only[encWt,List.mem_cons,List.not_mem_nil,or_false] at hv
 rcases hv with rfl|rfl|rfl|rfl|rfl<;>rfl
theorem dupWant_ev {h:H}{x:V}{l:List Wt}(hw:h.wf)(hx:SlAt h x 5 (l.map encWt))(hl:l.length≤1000)(Q:V→H→Prop)(q:Q (.sl h.next 0 l.length (.fix l.length)) (h.add (.cells .rw (l.map encWt).flatten))):Ev fnG fastA (.fn 9 [] []) [x] h Q:=by
 have hlen:=hx.lenE
 refine Ev_body (fd:=c9) rfl rfl rfl ?_
 simp -implicitDefEqProofs(maxSteps:=999999)(disch:=first|with_reducible rfl|omega|(simp only[nA,nS,nD]<;>omega)|fail)only[c9,go_sem,hlen]
 have rl:(l.map encWt).length=l.length:=List.length_map _
 have dc:=dup_core (by_:=40) (z:=[V.int .i64 0,.int .i64 0,.int .i64 0,.int .i64 0,.int .i64 0]) hx hw rfl (by omega) (allOneWt l)
 rw[rl] at dc
 have am:a_msl h 40 [V.int .i64 0,.int .i64 0,.int .i64 0,.int .i64 0,.int .i64 0] (.int .i64 0) (.int .i64 (l.length:Int))=_:=a_msl_0n (by omega) (by omega)
 rw[am]
 simp -implicitDefEqProofs(maxSteps:=999999)(disch:=first|with_reducible rfl|omega|(simp only[nA,nS,nD]<;>omega)|fail)only[go_sem,dc]
 exact q
theorem bindexInt_ev {l:List Int}{h:H}{x:V}(hw:h.wf)(hx:SlAt h x 1 (l.map encI))(e:Int):
  Ev fnG fastA (.fn 34 [] []) [x,.int .i64 e] h fun v h'=>v=.int .i64 (fidx (fun r=>decide (e=r)) l 0)∧h.Sub h':=by
 have hb:=hx.boundE
 refine Ev_body (fd:=c34) rfl rfl rfl ?_
 simp -implicitDefEqProofs(maxSteps:=999999)(disch:=first|with_reducible rfl|omega|(simp only[nA,nS,nD]<;>omega)|fail)only[c34,go_sem,hx.lenE]
 refine W_count l.length (fun i s=>∃tm h',s=⟨tm,h',[]⟩∧h.Sub h'∧(Opd.t 0).ev tm=x∧(Opd.t 1).ev tm=.int .i64 e∧(Opd.t 7).ev tm=.int .i64 (l.length:Int)∧(Opd.t 8).ev tm=.int .i64 (i:Int)∧fidx (fun r=>decide (e=r)) l 0=fidx (fun r=>decide (e=r)) (l.drop i) i)
  ?_ ?_ (i:=0) (Nat.zero_le _) ⟨_,_,rfl,H.Sub.refl hw,(by simp[ev_c,ev_put]<;>rfl),(by simp[ev_c,ev_put]<;>rfl),(by simp[ev_c,ev_put]<;>rfl),(by simp[ev_c,ev_put]<;>rfl),rfl⟩
 ·rintro i s hi ⟨tm,h',rfl,hs,e0,e1,e7,e8,e9⟩
  have hi':(i:Int)<(l.length:Int):=by omega
  obtain⟨b,o,c,cs,rfl,hc,hq,hg,hn,hn0⟩:=(hx.mono hs).at hi
  have hv:=hn0 (by omega)
  simp only[encI] at hv
  simp -implicitDefEqProofs(maxSteps:=999999)(disch:=first|with_reducible rfl|omega|(simp only[nA,nS,nD]<;>omega)|fail)only[go_sem,e0,e1,e7,e8,hi',hq (nat_cst i),hc,hv]
  by_cases hpr:e=l[i]
  ·have hd:decide (e=l[i])=true:=decide_eq_true hpr
   simp -implicitDefEqProofs(maxSteps:=999999)(disch:=first|with_reducible rfl|omega|(simp only[nA,nS,nD]<;>omega)|fail)only[go_sem,e0,e1,e7,e8,hd,hpr]
   exact⟨by first|rw[e9,fidx_hit hi hd]|(rw[←hpr];rw[e9,fidx_hit hi hd]),hs⟩
  ·have hd:decide (e=l[i])=false:=decide_eq_false hpr
   simp -implicitDefEqProofs(maxSteps:=999999)(disch:=first|with_reducible rfl|omega|(simp only[nA,nS,nD]<;>omega)|fail)only[go_sem,e0,e1,e7,e8,hd,hpr,wr_succ]
   exact⟨_,_,rfl,hs,(by simp[ev_c,ev_put,e0]<;>rfl),(by simp[ev_c,ev_put,e1]<;>rfl),(by simp[ev_c,ev_put,e7]<;>rfl),(by simp[ev_c,ev_put]<;>rfl),by rw[e9,fidx_miss hi hd]⟩
 ·rintro s ⟨tm,h',rfl,hs,e0,e1,e7,e8,e9⟩
  simp -implicitDefEqProofs(maxSteps:=999999)(disch:=first|with_reducible rfl|omega|(simp only[nA,nS,nD]<;>omega)|fail)only[go_sem,e0,e1,e7,e8,Int.lt_irrefl]
  exact⟨by rw[e9];simp[fidx],hs⟩
theorem bhasInt_ev {l:List Int}{h:H}{x:V}(hw:h.wf)(hx:SlAt h x 1 (l.map encI))(e:Int)(Q:V→H→Prop)(q:∀h',h.Sub h'→Q (.bool (decide (e∈l))) h'):
  Ev fnG fastA (.fn 15 [] []) [x,.int .i64 e] h Q:=by
 have he:(l.any fun r=>decide (e=r))=decide (e∈l):=by
  rw[Bool.eq_iff_iff,List.any_eq_true,decide_eq_true_iff]
  constructor
  ·rintro⟨r,hr,hd⟩;rw[decide_eq_true_iff] at hd;rw[hd];exact hr
  ·intro hr;exact⟨e,hr,decide_eq_true rfl⟩
 refine Ev_body (fd:=c15) rfl rfl rfl ?_
 simp -implicitDefEqProofs(maxSteps:=999999)(disch:=first|with_reducible rfl|omega|(simp only[nA,nS,nD]<;>omega)|fail)only[c15,go_sem]
 refine(bindexInt_ev hw hx e).mono fun v h' hv=>?_
 obtain⟨rfl,hs⟩:=hv
 simp -implicitDefEqProofs(maxSteps:=999999)(disch:=first|with_reducible rfl|omega|(simp only[nA,nS,nD]<;>omega)|fail)only[go_sem]
 rw[fidx_any,he]
 exact q _ hs
end Go.Ab.Tryz
namespace Go.Ab.Tryz
set_option maxHeartbeats 8000000 in
theorem MadeB_ev {h0 h:H}{p:Nat}{y:V}{bs:List Int}{T:Int}(a:Sq h0 p y bs T h)(hT:T≤100)(Q:V→H→Prop)
  (q:∀F W r T' h',Sq h0 p y bs T' h'→T'≤T+100→OwnSl h0 h' F 1 (r.faults.map encI)→OwnSl h0 h' W 5 (r.wants.map encWt)→RbOk r→r.wants.length≤5→Q (.agg (rbV r F W)) h'):
  Ev fnG fastA (.fn 6 [] []) [.ptr p 0,.int .i64 30,.int .i64 6,.int .i64 5] h Q:=by
 have hw:=a.s.wf
 have l0:=a.s.next
 have lp:=a.lt
 refine Ev_body (fd:=c6) rfl rfl rfl ?_
 have q2:=a.mono ((H.Sub.refl hw).add (.cells .rw [.int .i64 0,.nils,.nils]))
 have g8:(h.add (.cells .rw [.int .i64 0,.nils,.nils])).get h.next=some (.cells .rw [.int .i64 0,.nils,.nils]):=get_add_new rfl
 have n2:=H.next_add h (.cells .rw [.int .i64 0,.nils,.nils])
 simp -implicitDefEqProofs(maxSteps:=999999)(disch:=first|with_reducible rfl|omega|(simp only[nA,nS,nD]<;>omega)|fail)only[c6,go_sem]
 generalize h.add (.cells .rw [.int .i64 0,.nils,.nils])=h2 at q2 g8 n2⊢
 refine q2.frm (lo:=1) (hi:=30) (by omega) (by omega) (by omega) _ fun ln h3 l1 l30 q3 k3 n3=>?_
 have g83:=k3.2 _ _ g8 (by omega)
 obtain⟨len,rfl⟩:=Int.eq_ofNat_of_zero_le (show 0≤ln by omega)
 have q4:=q3.mono ((H.Sub.refl q3.s.wf).add (.cells .rw [.int .i64 (len:Int),.nils,.nils]))
 have g94:(h3.add (.cells .rw [.int .i64 (len:Int),.nils,.nils])).get h3.next=some (.cells .rw [.int .i64 (len:Int),.nils,.nils]):=get_add_new rfl
 have g84:=((H.Sub.refl q3.s.wf).add (.cells .rw [.int .i64 (len:Int),.nils,.nils])).get g83
 have n4:=H.next_add h3 (.cells .rw [.int .i64 (len:Int),.nils,.nils])
 simp -implicitDefEqProofs(maxSteps:=999999)(disch:=first|with_reducible rfl|omega|(simp only[nA,nS,nD]<;>omega)|fail)only[go_sem]
 generalize h3.add (.cells .rw [.int .i64 (len:Int),.nils,.nils])=h4 at q4 g94 g84 n4⊢
 refine q4.upto (n:=6) (by omega) (by omega) _ fun many h5 m0 m6 q5 k5 n5=>?_
 have g95:=k5.2 _ _ g94 (by omega)
 have g85:=k5.2 _ _ g84 (by omega)
 simp -implicitDefEqProofs(maxSteps:=999999)(disch:=first|with_reducible rfl|omega|(simp only[nA,nS,nD]<;>omega)|fail)only[go_sem,cells_of g95]
 obtain⟨c9,hc9⟩:∃c,h3.next=c:=⟨_,rfl⟩
 obtain⟨c8,hc8⟩:∃c,h.next=c:=⟨_,rfl⟩
 rw[hc9] at g95
 rw[hc8] at g85
 simp only[hc9,hc8]
 have hpr:p<c8∧c8<c9:=by omega
 have h0c:h0.next≤c8:=by omega
 refine W_count len (fun i s=>∃(tm:Go.Ab.T V) (h':H) (T':Int) (F:V) (fs:List Int),s=⟨tm,h',[]⟩∧T'≤T+2+(i:Int)∧Sq h0 p y bs T' h'∧OwnSl h0 h' F 1 (fs.map encI)∧fs.length≤i∧(fs.length:Int)≤many∧(∀u∈fs,0≤u∧u<(i:Int))∧fs.Pairwise (· < ·)∧h'.get c8=some (.cells .rw [.int .i64 0,.nils,.nils])∧h'.get c9=some (.cells .rw [.int .i64 (len:Int),F,.nils])∧(Opd.t 0).ev tm=.ptr p 0∧(Opd.t 3).ev tm=.int .i64 5∧(Opd.t 8).ev tm=.ptr c8 0∧(Opd.t 9).ev tm=.ptr c9 0∧(Opd.t 10).ev tm=.int .i64 many∧(Opd.t 20).ev tm=.int .i64 (len:Int)∧(Opd.t 21).ev tm=.int .i64 (i:Int)) ?_ ?_ (i:=0) (Nat.zero_le _)
  ⟨_,_,_,.nils,[],rfl,by omega,q5,OwnSl.nil q5.s 1,Nat.le_refl _,by simpa using m0,by simp,List.Pairwise.nil,g85,g95,(by simp[ev_c,ev_put]<;>rfl),(by simp[ev_c,ev_put]<;>rfl),(by simp[ev_c,ev_put]<;>rfl),(by simp[ev_c,ev_put]<;>rfl),(by simp[ev_c,ev_put]<;>rfl),(by simp[ev_c,ev_put]<;>rfl),(by simp only[ev_put];rfl)⟩
 ·rintro i s hi ⟨tm,h',T',F,fs,rfl,hT',q',oF,li,lm,hfs,up,g8',g9',t0,t3,t8,t9,t10,t20,t21⟩
  have hi':(i:Int)<(len:Int):=by omega
  have aF:=oF.sl (by rw[List.length_map];omega)
  have lF:=aF.lenE
  have F1:=aF.one
  by_cases hlt:(fs.length:Int)<many
  ·have m1:max 1 many=many:=by omega
   have nz:¬many=0:=by omega
   have td0:0≤(len:Int).tdiv many:=Int.tdiv_nonneg (by omega) (by omega)
   have td1:(len:Int).tdiv many≤(len:Int):=Int.tdiv_le_self _ (by omega)
   obtain⟨w,hw'⟩:∃w,(len:Int).tdiv many=w:=⟨_,rfl⟩
   rw[hw'] at td0 td1
   have ww:wr .i64 w=w:=wr_in (by omega) (by omega)
   simp -implicitDefEqProofs(maxSteps:=999999)(disch:=first|with_reducible rfl|omega|(simp only[nA,nS,nD]<;>omega)|fail)only[go_sem,t0,t9,t10,t20,t21,hi',cells_of g9',lF,hlt,m1,q_ar_quo .i64 nz,hw',ww]
   refine q'.once (n:=max 2 w) (by omega) (by omega) _ fun t h6 q6 k6 n6=>?_
   have o6:=OwnSl.spin oF q' q6 k6
   have lp':=q'.lt
   have g86:=k6.2 _ _ g8' (by omega)
   have g96:=k6.2 _ _ g9' (by omega)
   cases t with
   |false=>
    simp -implicitDefEqProofs(maxSteps:=999999)(disch:=first|with_reducible rfl|omega|(simp only[nA,nS,nD]<;>omega)|fail)only[go_sem,t21,wr_succ]
    exact⟨_,_,_,F,fs,rfl,by omega,q6,o6,by omega,lm,fun u hu=>by have:=hfs u hu;omega,up,g86,g96,(by simp[ev_c,ev_put,t0]<;>rfl),(by simp[ev_c,ev_put,t3]<;>rfl),(by simp[ev_c,ev_put,t8]<;>rfl),(by simp[ev_c,ev_put,t9]<;>rfl),(by simp[ev_c,ev_put,t10]<;>rfl),(by simp[ev_c,ev_put,t20]<;>rfl),(by simp[ev_c,ev_put]<;>rfl)⟩
   |true=>
    have sB:=(H.Sub.refl q6.s.wf).add (.cells .rw [.int .i64 (i:Int)])
    simp -implicitDefEqProofs(maxSteps:=999999)(disch:=first|with_reducible rfl|omega|(simp only[nA,nS,nD]<;>omega)|fail)only[go_sem,t0,t9,t10,t20,t21,cells_of g96]
    refine(o6.mono sB).app1 (by_:=8) (r:=encI (i:Int)) a.w0 rfl (by omega) own1_lit rfl (by rw[List.length_map];omega) (by rw[List.length_map];omega) fun hA oA kA nA=>?_
    have oB:=o6.mono sB
    have g8B:=sB.get g86
    have g9B:=sB.get g96
    have g8A:=kA.2 _ _ g8B (oB.ne g8B)
    have g9A:=kA.2 _ _ g9B (oB.ne g9B)
    have qB:=q6.mono sB
    have qA:=qB.keep kA (OwnSl.nsp oB qB) oA.1
    have lA:=qA.lt
    generalize hY:V.sl (H.next _) 0 _ (.slk 0 0)=Y at oA⊢
    have y1:Y.one=true:=by rw[←hY];rfl
    have yc:Y.cells=[Y]:=by rw[←hY];rfl
    simp -implicitDefEqProofs(maxSteps:=999999)(disch:=first|with_reducible rfl|omega|(simp only[nA,nS,nD]<;>omega)|fail)only[go_sem,t9,g9A,y1,yc]
    have kC:Keeps (fun c=>c=c9) hA (hA.set c9 (.cells .rw [.int .i64 (len:Int),Y,.nils])):=Keeps.set _ _ _
    have gC:(hA.set c9 (.cells .rw [.int .i64 (len:Int),Y,.nils])).get c9=some (.cells .rw [.int .i64 (len:Int),Y,.nils]):=get_set_same rfl
    have sC:h0.Sub (hA.set c9 (.cells .rw [.int .i64 (len:Int),Y,.nils])):=oA.1.set (by omega) (oA.1.wf _ _ g9A) a.w0 _
    generalize hA.set c9 _=hC at kC gC sC⊢
    have oC:=oA.keep kC sC fun c5 h5 e5=>oA.ne g9A (e5▸h5)
    have g8C:=kC.2 _ _ g8A (by omega)
    have qC:=qA.keep kC (by omega) sC
    simp -implicitDefEqProofs(maxSteps:=999999)(disch:=first|with_reducible rfl|omega|(simp only[nA,nS,nD]<;>omega)|fail)only[go_sem,t21,wr_succ]
    refine⟨_,_,_,Y,fs++[(i:Int)],rfl,by omega,qC,by rw[List.map_append];exact oC,by rw[List.length_append];simp;omega,by rw[List.length_append];simp;omega,fun u hu=>?_,?_,g8C,gC,(by simp[ev_c,ev_put,t0]<;>rfl),(by simp[ev_c,ev_put,t3]<;>rfl),(by simp[ev_c,ev_put,t8]<;>rfl),(by simp[ev_c,ev_put,t9]<;>rfl),(by simp[ev_c,ev_put,t10]<;>rfl),(by simp[ev_c,ev_put,t20]<;>rfl),(by simp[ev_c,ev_put]<;>rfl)⟩
    ·rcases List.mem_append.1 hu with hu|hu
     ·have:=hfs u hu;omega
     ·rw[List.mem_singleton] at hu;omega
    ·refine List.pairwise_append.2 ⟨up,by simp,fun u hu w hw=>?_⟩
     rw[List.mem_singleton] at hw
     have:=hfs u hu;omega
  ·simp -implicitDefEqProofs(maxSteps:=999999)(disch:=first|with_reducible rfl|omega|(simp only[nA,nS,nD]<;>omega)|fail)only[go_sem,t0,t9,t10,t20,t21,hi',cells_of g9',lF,hlt,wr_succ]
   exact⟨_,_,_,F,fs,rfl,by omega,q',oF,by omega,lm,fun u hu=>by have:=hfs u hu;omega,up,g8',g9',(by simp[ev_c,ev_put,t0]<;>rfl),(by simp[ev_c,ev_put,t3]<;>rfl),(by simp[ev_c,ev_put,t8]<;>rfl),(by simp[ev_c,ev_put,t9]<;>rfl),(by simp[ev_c,ev_put,t10]<;>rfl),(by simp[ev_c,ev_put,t20]<;>rfl),(by simp[ev_c,ev_put]<;>rfl)⟩
 ·rintro s ⟨tm,h',T',F,fs,rfl,hT',q',oF,li,lm,hfs,up,g8',g9',t0,t3,t8,t9,t10,t20,t21⟩
  simp -implicitDefEqProofs(maxSteps:=999999)(disch:=first|with_reducible rfl|omega|(simp only[nA,nS,nD]<;>omega)|fail)only[go_sem,t0,t3,t20,t21,Int.lt_irrefl]
  refine q'.upto (n:=5) (by omega) (by omega) _ fun wn h6 w0 w5 q6 k6 n6=>?_
  have o6:=OwnSl.spin oF q' q6 k6
  have lp':=q'.lt
  have g86:=k6.2 _ _ g8' (by omega)
  have g96:=k6.2 _ _ g9' (by omega)
  obtain⟨nw,rfl⟩:=Int.eq_ofNat_of_zero_le w0
  have l6:=q6.lt
  have lb6:c9<h6.next:=q6.s.wf _ _ g96
  simp -implicitDefEqProofs(maxSteps:=999999)(disch:=first|with_reducible rfl|omega|(simp only[nA,nS,nD]<;>omega)|fail)only[go_sem]
  have F1:=(oF.sl (by rw[List.length_map];omega)).one
  refine W_count nw (fun i s=>∃(tm:Go.Ab.T V) (h':H) (T':Int) (W:V) (ws:List Wt),s=⟨tm,h',[]⟩∧T'≤T+33+5*(i:Int)∧Sq h0 p y bs T' h'∧OwnSl h0 h' F 1 (fs.map encI)∧OwnSl h0 h' W 5 (ws.map encWt)∧(∀b,blkOf W b→h6.next≤b)∧ws.length=i∧(∀w∈ws,WtOk w)∧h6.next≤h'.next∧h'.get c8=some (.cells .rw [.int .i64 0,.nils,.nils])∧h'.get c9=some (.cells .rw [.int .i64 (len:Int),F,W])∧(Opd.t 0).ev tm=.ptr p 0∧(Opd.t 8).ev tm=.ptr c8 0∧(Opd.t 9).ev tm=.ptr c9 0∧(Opd.t 48).ev tm=.int .i64 (nw:Int)∧(Opd.t 49).ev tm=.int .i64 (i:Int)) ?_ ?_ (i:=0) (Nat.zero_le _)
   ⟨_,_,_,.nils,[],rfl,by omega,q6,o6,OwnSl.nil q6.s 5,fun b hb=>(blkOf_nils hb).elim,rfl,by simp,Nat.le_refl _,g86,g96,(by simp[ev_c,ev_put,t0]<;>rfl),(by simp[ev_c,ev_put,t8]<;>rfl),(by simp[ev_c,ev_put,t9]<;>rfl),(by simp[ev_c,ev_put]<;>rfl),(by simp only[ev_put];rfl)⟩
  ·clear t0 t3 t8 t9 t10 t20 t21
   rintro i s hi ⟨tm,h',T',W,ws,rfl,hT',q',oF,oW,bW,lw,kw,ln',g8',g9',t0,t8,t9,t48,t49⟩
   have hi':(i:Int)<(nw:Int):=by omega
   have W1:=(oW.sl (by rw[List.length_map];omega)).one
   simp -implicitDefEqProofs(maxSteps:=999999)(disch:=first|with_reducible rfl|omega|(simp only[nA,nS,nD]<;>omega)|fail)only[go_sem,t0,t9,t48,t49,hi',cells_of g9']
   have fr:∀{ha hb:H} {Ta Tb:Int},Sq h0 p y bs Ta ha→Sq h0 p y bs Tb hb→Keeps (fun c=>c=p) ha hb→hb.next=ha.next→OwnSl h0 ha F 1 (fs.map encI)→OwnSl h0 ha W 5 (ws.map encWt)→ha.get c8=some (.cells .rw [.int .i64 0,.nils,.nils])→ha.get c9=some (.cells .rw [.int .i64 (len:Int),F,W])→
     OwnSl h0 hb F 1 (fs.map encI)∧OwnSl h0 hb W 5 (ws.map encWt)∧hb.get c8=some (.cells .rw [.int .i64 0,.nils,.nils])∧hb.get c9=some (.cells .rw [.int .i64 (len:Int),F,W]):=fun qa qb k n o1 o2 g1 g2=>
    ⟨OwnSl.spin o1 qa qb k,OwnSl.spin o2 qa qb k,k.2 _ _ g1 (by omega),k.2 _ _ g2 (by omega)⟩
   refine q'.frm (lo:=1) (hi:=9) (by omega) (by omega) (by omega) _ fun v1 h7 v10 v11 q7 k7 n7=>?_
   obtain⟨f7,o7,g87,g97⟩:=fr q' q7 k7 n7 oF oW g8' g9'
   simp -implicitDefEqProofs(maxSteps:=999999)(disch:=first|with_reducible rfl|omega|(simp only[nA,nS,nD]<;>omega)|fail)only[go_sem,t0,t9,cells_of g9',cells_of g97]
   refine q7.upto (n:=40) (by omega) (by omega) _ fun v2 h8 v20 v21 q8 k8 n8=>?_
   obtain⟨f8,o8,g88,g98⟩:=fr q7 q8 k8 n8 f7 o7 g87 g97
   simp -implicitDefEqProofs(maxSteps:=999999)(disch:=first|with_reducible rfl|omega|(simp only[nA,nS,nD]<;>omega)|fail)only[go_sem,t0,t9,cells_of g9',cells_of g97,cells_of g98]
   refine q8.upto (n:=8) (by omega) (by omega) _ fun v3 h9 v30 v31 q9 k9 n9=>?_
   obtain⟨f9,o9,g89,g99⟩:=fr q8 q9 k9 n9 f8 o8 g88 g98
   simp -implicitDefEqProofs(maxSteps:=999999)(disch:=first|with_reducible rfl|omega|(simp only[nA,nS,nD]<;>omega)|fail)only[go_sem,t0,t9,cells_of g9',cells_of g97,cells_of g98,cells_of g99]
   refine q9.upto (n:=2) (by omega) (by omega) _ fun v4 hA v40 v41 qA kA nA=>?_
   obtain⟨fA,oA,g8A,g9A⟩:=fr q9 qA kA nA f9 o9 g89 g99
   simp -implicitDefEqProofs(maxSteps:=999999)(disch:=first|with_reducible rfl|omega|(simp only[nA,nS,nD]<;>omega)|fail)only[go_sem,t0,t9,cells_of g9',cells_of g97,cells_of g98,cells_of g99,cells_of g9A]
   refine qA.upto (n:=2) (by omega) (by omega) _ fun v5 hB v50 v51 qB kB nB=>?_
   obtain⟨fB,oB,g8B,g9B⟩:=fr qA qB kB nB fA oA g8A g9A
   have sC:=(H.Sub.refl qB.s.wf).add (.cells .rw [.int .i64 v1,.int .i64 v2,.int .i64 v3,.int .i64 v4,.int .i64 v5])
   have g9C:=sC.cells (cells_of g9B)
   simp -implicitDefEqProofs(maxSteps:=999999)(disch:=first|with_reducible rfl|omega|(simp only[nA,nS,nD]<;>omega)|fail)only[go_sem,t0,t9,cells_of g9',cells_of g97,cells_of g98,cells_of g99,cells_of g9A,cells_of g9B,g9C]
   have oC:=oB.mono sC
   have ay:SlAt (hB.add (.cells .rw [.int .i64 v1,.int .i64 v2,.int .i64 v3,.int .i64 v4,.int .i64 v5])) (.sl hB.next 0 1 (.fix 1)) 5 [encWt ⟨v1,v2,v3,v4,v5⟩]:=SlAt.new _ rfl rfl rfl (by simp[encWt]) (by simp)
   refine oC.app1 (by_:=40) (r:=encWt ⟨v1,v2,v3,v4,v5⟩) a.w0 rfl (by omega) ay rfl (by rw[List.length_map];omega) (by rw[List.length_map];omega) fun hD oD kD nD=>?_
   have g8C:=sC.get g8B
   have g9C':=sC.get g9B
   have g8D:=kD.2 _ _ g8C (oC.ne g8C)
   have g9D:=kD.2 _ _ g9C' (oC.ne g9C')
   have qC:=qB.mono sC
   have qD:=qC.keep kD (OwnSl.nsp oC qC) oD.1
   have lD:=qD.lt
   have hnC:=H.next_add hB (.cells .rw [.int .i64 v1,.int .i64 v2,.int .i64 v3,.int .i64 v4,.int .i64 v5])
   have fD:=(fB.mono sC).keep kD oD.1 fun c hc hd=>by
    have:=(o6.blk hc).2.1
    have:=bW c hd
    omega
   have bD:∀b,blkOf (V.sl (hB.add (.cells .rw [.int .i64 v1,.int .i64 v2,.int .i64 v3,.int .i64 v4,.int .i64 v5])).next 0 ((ws.map encWt).length+1) (.slk 0 0)) b→h6.next≤b:=fun b hb=>by
    obtain⟨_,_,_,e⟩:=hb
    cases e
    omega
   generalize hY:V.sl (H.next _) 0 _ (.slk 0 0)=Y at oD bD⊢
   have y1:Y.one=true:=by rw[←hY];rfl
   have yc:Y.cells=[Y]:=by rw[←hY];rfl
   simp -implicitDefEqProofs(maxSteps:=999999)(disch:=first|with_reducible rfl|omega|(simp only[nA,nS,nD]<;>omega)|fail)only[go_sem,t9,g9D,cells_of g9',cells_of g97,cells_of g98,cells_of g99,cells_of g9A,cells_of g9B,g9C,cells_of g9D,y1,yc]
   have kE:Keeps (fun c=>c=c9) hD (hD.set c9 (.cells .rw [.int .i64 (len:Int),F,Y])):=Keeps.set _ _ _
   have gE:(hD.set c9 (.cells .rw [.int .i64 (len:Int),F,Y])).get c9=some (.cells .rw [.int .i64 (len:Int),F,Y]):=get_set_same rfl
   have sE:h0.Sub (hD.set c9 (.cells .rw [.int .i64 (len:Int),F,Y])):=oD.1.set (by omega) (oD.1.wf _ _ g9D) a.w0 _
   generalize hD.set c9 _=hE at kE gE sE⊢
   have oE:=oD.keep kE sE fun c5 h5 e5=>oD.ne g9D (e5▸h5)
   have fE:=fD.keep kE sE fun c5 h5 e5=>fD.ne g9D (e5▸h5)
   have g8E:=kE.2 _ _ g8D (by omega)
   have qE:=qD.keep kE (by omega) sE
   have hk1:=kD.1
   have hk2:=kE.1
   simp -implicitDefEqProofs(maxSteps:=999999)(disch:=first|with_reducible rfl|omega|(simp only[nA,nS,nD]<;>omega)|fail)only[go_sem,t49,wr_succ]
   refine⟨_,_,_,Y,ws++[⟨v1,v2,v3,v4,v5⟩],rfl,by omega,qE,fE,by rw[List.map_append];exact oE,bD,by rw[List.length_append,lw];rfl,fun w hw=>?_,by omega,g8E,gE,(by simp[ev_c,ev_put,t0]<;>rfl),(by simp[ev_c,ev_put,t8]<;>rfl),(by simp[ev_c,ev_put,t9]<;>rfl),(by simp[ev_c,ev_put,t48]<;>rfl),(by simp[ev_c,ev_put]<;>rfl)⟩
   rcases List.mem_append.1 hw with hw|hw
   ·exact kw w hw
   ·rw[List.mem_singleton] at hw
    subst hw
    exact⟨by show 1≤v1∧v1≤60;omega,by show 0≤v2∧v2≤100;omega,by show 0≤v3∧v3≤20;omega,by show 0≤v4∧v4≤4;omega,by show 0≤v5∧v5≤4;omega⟩
  ·clear t0 t3 t8 t9 t10 t20 t21
   rintro s ⟨tm,h',T',W,ws,rfl,hT',q',oF,oW,bW,lw,kw,ln',g8',g9',t0,t8,t9,t48,t49⟩
   have W1:=(oW.sl (by rw[List.length_map];omega)).one
   simp -implicitDefEqProofs(maxSteps:=999999)(disch:=first|with_reducible rfl|omega|(simp only[nA,nS,nD]<;>omega)|fail)only[go_sem,t8,t9,t48,t49,Int.lt_irrefl,cells_of g9',g8',F1,W1]
   have k8:Keeps (fun c=>c=c8) h' (h'.set c8 (.cells .rw [.int .i64 (len:Int),F,W])):=Keeps.set _ _ _
   have s8:h0.Sub (h'.set c8 (.cells .rw [.int .i64 (len:Int),F,W])):=q'.s.set (by omega) (q'.s.wf _ _ g8') a.w0 _
   exact q F W ⟨len,fs,ws⟩ _ _ (q'.keep k8 (by omega) s8) (by omega) (oF.keep k8 s8 fun c5 h5 e5=>oF.ne g8' (e5▸h5)) (oW.keep k8 s8 fun c5 h5 e5=>oW.ne g8' (e5▸h5)) ⟨⟨by show 1≤len;omega,by show len≤60;omega⟩,by show fs.length≤12;omega,by show ws.length≤6;omega,kw,fun u hu=>hfs u hu,up⟩ (by show ws.length≤5;omega)
end Go.Ab.Tryz
namespace Go.Ab.Tryz
def psOf (l:List Ru)(pcs:List Pc):List Int:=pcs.map fun p=>(prL l p).1
def ownR (r:Rb)(l:List Ru)(pcs:List Pc):Rb:=⟨r.len,r.faults,wsP r.wants (psOf l pcs)⟩
def earnR (r:Rb)(l:List Ru)(pcs:List Pc):Int:=(madeL (ownR r l pcs) r.len).getD 0 0
def wsU (ws:List Wt)(ps:List Int)(i:Nat):List Wt:=(wsP ws ps).take i++ws.drop i
theorem wsU_len {ws:List Wt}{ps:List Int}(h:ps.length=ws.length){i:Nat}(hi:i≤ws.length):(wsU ws ps i).length=ws.length:=by
 have:=wsP_len h
 simp only[wsU,List.length_append,List.length_take,List.length_drop];omega
theorem wsU_step {ws:List Wt}{ps:List Int}(h:ps.length=ws.length){i:Nat}(hi:i<ws.length):(wsU ws ps i)[i]? =some ws[i]∧(wsU ws ps i).set i (wtP ws[i] (ps.getD i 0))=wsU ws ps (i+1):=by
 have hl:=wsP_len h
 have lt:((wsP ws ps).take i).length=i:=by rw[List.length_take];omega
 constructor
 ·rw[wsU,List.getElem?_append_right (by omega),lt,Nat.sub_self,List.drop_eq_getElem_cons hi];rfl
 ·have e1:(wsP ws ps).take (i+1)=(wsP ws ps).take i++[wtP ws[i] (ps.getD i 0)]:=by
   have:=wsP_at h hi
   rw[List.take_add_one,this];rfl
  rw[wsU,wsU,e1,List.set_append_right _ _ (by omega),lt,Nat.sub_self,List.drop_eq_getElem_cons hi,List.set_cons_zero,List.append_assoc]
  rfl
theorem putPrice {l:List Wt}{i:Nat}(hi:i<l.length)(n:Int):putN (i*5+1) [.int .i64 n] (l.map encWt).flatten=some ((l.set i (wtP l[i] n)).map encWt).flatten:=by
 have zW:∀a,(encWt a).length=5:=fun _=>rfl
 have fl:(l.map encWt).flatten.length=l.length*5:=by
  have:=flatten_len (sz:=5) (rows:=l.map encWt) fun r hr=>by obtain⟨x,_,rfl⟩:=List.mem_map.1 hr;rfl
  rw[this,List.length_map]
 rw[putN_one (by omega)]
 have e:l=l.take i++l[i]::l.drop (i+1):=by rw[List.getElem_cons_drop,List.take_append_drop]
 have e2:l.set i (wtP l[i] n)=l.take i++wtP l[i] n::l.drop (i+1):=by rw[List.set_eq_take_append_cons_drop,if_pos hi]
 have hl:((l.take i).map encWt).flatten.length=i*5:=by
  have h1:=flatten_len (sz:=5) (rows:=(l.take i).map encWt) fun r hr=>by obtain⟨x,_,rfl⟩:=List.mem_map.1 hr;rfl
  rw[h1,List.length_map,List.length_take,Nat.min_eq_left (by omega)]
 have f1:=congrArg (fun t=>(t.map encWt).flatten) e
 have f2:=congrArg (fun t=>(t.map encWt).flatten) e2
 simp only[List.map_append,List.map_cons,List.flatten_append,List.flatten_cons] at f1 f2
 rw[f2,f1,List.set_append_right _ _ (by omega),hl,Nat.add_sub_cancel_left]
 rfl
theorem ownR_ok {r:Rb}(k:RbOk r){l:List Ru}{pcs:List Pc}(lp:pcs.length=r.wants.length)(pr:∀r∈l,0≤r.p∧r.p≤100):RbOk (ownR r l pcs):=by
 have h:(psOf l pcs).length=r.wants.length:=by simp[psOf,lp]
 refine⟨k.len,k.nf,by show(wsP r.wants (psOf l pcs)).length≤6;rw[wsP_len h];exact k.nw,fun w hw=>?_,k.f,k.up⟩
 obtain⟨i,hi,rfl⟩:=List.mem_iff_getElem.1 hw
 have hi':i<r.wants.length:=by
  have:i<(wsP r.wants (psOf l pcs)).length:=hi
  rwa[wsP_len h] at this
 have e:=wsP_at h hi'
 have e2:(ownR r l pcs).wants[i]=wtP r.wants[i] ((psOf l pcs).getD i 0):=by
  have:(wsP r.wants (psOf l pcs))[i]? =some (ownR r l pcs).wants[i]:=List.getElem?_eq_getElem hi
  rw[e] at this
  exact(Option.some.inj this).symm
 have kw:=k.w _ (List.getElem_mem hi')
 have hp:(psOf l pcs).getD i 0=(prL l pcs[i]).1:=by
  rw[List.getD_eq_getElem?_getD,psOf,List.getElem?_map,List.getElem?_eq_getElem (by omega)];rfl
 obtain⟨hb,_⟩:=prL_bd pr (by omega) pcs[i]
 rw[e2,hp]
 exact⟨kw.long,hb,kw.off,kw.flaws,kw.joins⟩
set_option maxHeartbeats 8000000 in
theorem earned_ev {Fp:Nat→Prop}{h:H}(hw:h.wf){X:V}{l:List Ru}(cx:CutO Fp h X 4 (l.map encR4))(hl:l.length≤8)(nd:l.Nodup)(ok:∀r∈l,RuOk r)(pr:∀r∈l,0≤r.p∧r.p≤100)
  {r:Rb} {F W:V} (a:RbAt h F W r) (k:RbOk r) {Z:V} {pcs:List Pc} (az:SlAt h Z 3 (pcs.map encPc)) (kp:∀p∈pcs,PcOk p) (lp:pcs.length=r.wants.length) {c11 c12:Nat} (g1:h.cells c11=some (rbV r F W)) (g2:h.cells c12=some [Z])
  (Q:V→H→Prop) (q:∀h',h.Sub h'→Q (.tup [.int .i64 (earnR r l pcs),.bool true]) h'):Ev fnG fastA (.fn 8 [] []) [X,.ptr c11 0,.ptr c12 0] h Q:=by
 have kn:=k.nw
 have F1:=a.f.one
 have lps:(psOf l pcs).length=r.wants.length:=by simp[psOf,lp]
 refine Ev_body (fd:=c8) rfl rfl rfl ?_
 simp -implicitDefEqProofs(maxSteps:=999999)(disch:=first|with_reducible rfl|omega|(simp only[nA,nS,nD]<;>omega)|fail)only[c8,go_sem,g1]
 refine dupWant_ev hw a.w (by omega) _ ?_
 have s1:=(H.Sub.refl hw).add (.cells .rw (r.wants.map encWt).flatten)
 have gw:(h.add (.cells .rw (r.wants.map encWt).flatten)).get h.next=some (.cells .rw (r.wants.map encWt).flatten):=get_add_new rfl
 have n1:=H.next_add h (.cells .rw (r.wants.map encWt).flatten)
 have g11:=s1.cells g1
 have g21:=s1.cells g2
 generalize h.add _=h1 at s1 gw n1 g11 g21⊢
 have lZ:=az.lenE
 rw[lp] at lZ
 have s2:=s1.add (.cells .rw [.int .i64 (r.len:Int),F,.sl h.next 0 r.wants.length (.fix r.wants.length)])
 have s12:=(H.Sub.refl s1.wf).add (.cells .rw [.int .i64 (r.len:Int),F,.sl h.next 0 r.wants.length (.fix r.wants.length)])
 have g6:(h1.add (.cells .rw [.int .i64 (r.len:Int),F,.sl h.next 0 r.wants.length (.fix r.wants.length)])).get h1.next=some (.cells .rw [.int .i64 (r.len:Int),F,.sl h.next 0 r.wants.length (.fix r.wants.length)]):=get_add_new rfl
 have g22:=s12.cells g21
 have g12:=s12.cells g11
 have gw2:=s12.get gw
 have n2:=H.next_add h1 (.cells .rw [.int .i64 (r.len:Int),F,.sl h.next 0 r.wants.length (.fix r.wants.length)])
 have g1z:=((H.Sub.refl s1.wf).add (.cells .rw [.int .i64 0,.nils,.nils])).cells g11
 simp -implicitDefEqProofs(maxSteps:=999999)(disch:=first|with_reducible rfl|omega|(simp only[nA,nS,nD]<;>omega)|fail)only[go_sem,g1,g11,F1,cells_one F1,g12,g1z]
 generalize h1.add _=h2 at s2 s12 g6 g22 g12 gw2 n2⊢
 simp -implicitDefEqProofs(maxSteps:=999999)(disch:=first|with_reducible rfl|omega|(simp only[nA,nS,nD]<;>omega)|fail)only[go_sem,g21,g22,lZ]
 rw[n1] at g6
 simp only[n1]
 have w0:wsU r.wants (psOf l pcs) 0=r.wants:=by simp[wsU]
 refine W_count r.wants.length (fun i s=>∃(tm:Go.Ab.T V) (h':H),s=⟨tm,h',[]⟩∧h.Sub h'∧h'.get h.next=some (.cells .rw ((wsU r.wants (psOf l pcs) i).map encWt).flatten)∧h'.get (h.next+1)=some (.cells .rw [.int .i64 (r.len:Int),F,.sl h.next 0 r.wants.length (.fix r.wants.length)])∧(Opd.t 0).ev tm=X∧(Opd.t 6).ev tm=.ptr (h.next+1) 0∧(Opd.t 22).ev tm=Z∧(Opd.t 23).ev tm=.int .i64 (r.wants.length:Int)∧(Opd.t 24).ev tm=.int .i64 (i:Int)) ?_ ?_ (i:=0) (Nat.zero_le _)
  ⟨_,_,rfl,s2,by rw[w0];exact gw2,g6,(by simp[ev_c,ev_put]<;>rfl),(by simp[ev_c,ev_put]<;>rfl),(by simp[ev_c,ev_put]<;>rfl),(by simp[ev_c,ev_put]<;>rfl),(by simp only[ev_put];rfl)⟩
 ·rintro i s hi ⟨tm,h',rfl,s',gw',g6',t0,t6,t22,t23,t24⟩
  have hi':(i:Int)<(r.wants.length:Int):=by omega
  have hip:i<pcs.length:=by omega
  obtain⟨b,o,c,cs,_,hc,hq,hg,_,_⟩:=(az.mono s').at hip
  obtain⟨p,hp⟩:∃p,pcs[i]=p:=⟨_,rfl⟩
  have kpp:PcOk p:=hp▸kp _ (List.getElem_mem hip)
  have hps:(psOf l pcs).getD i 0=(prL l p).1:=by
   rw[List.getD_eq_getElem?_getD,psOf,List.getElem?_map,List.getElem?_eq_getElem hip,hp];rfl
  rw[hp] at hg
  simp only[encPc] at hg
  obtain⟨u1,u2⟩:=wsU_step lps hi
  have lu:=wsU_len lps (i:=i) (by omega)
  have hui:(wsU r.wants (psOf l pcs) i)[i]'(by omega)=r.wants[i]:=by
   rw[List.getElem?_eq_getElem (by omega)] at u1
   exact Option.some.inj u1
  have hput:=putPrice (l:=wsU r.wants (psOf l pcs) i) (i:=i) (by omega) (prL l p).1
  rw[hui,←hps,u2,hps] at hput
  obtain⟨hb,he⟩:=prL_bd pr (by omega) p
  have hib:Nat.blt i r.wants.length=true:=by rw[Nat.blt_eq];exact hi
  have iq:q_iad 5 (.sl h.next 0 r.wants.length (.fix r.wants.length)) (.int .i64 (i:Int))=some (.ptr h.next (i*5)):=by
   simp only[q_iad,nat_cst,hib,og_true,Nat.zero_add]
  have sB:=s'.add (.cells .rw [.int .i64 (p.b:Int),.int .i64 (p.s:Int),.int .i64 (p.e:Int)])
  have sB':=(H.Sub.refl s'.wf).add (.cells .rw [.int .i64 (p.b:Int),.int .i64 (p.s:Int),.int .i64 (p.e:Int)])
  have gB8:(h'.add (.cells .rw [.int .i64 (p.b:Int),.int .i64 (p.s:Int),.int .i64 (p.e:Int)])).cells h'.next=some (encPc p):=cells_add_new rfl
  have gwB:=sB'.get gw'
  have g6B:=sB'.get g6'
  simp only[encPc] at gB8
  simp -implicitDefEqProofs(maxSteps:=999999)(disch:=first|with_reducible rfl|omega|(simp only[nA,nS,nD]<;>omega)|fail)only[go_sem,t0,t22,t23,t24,hi',hq (nat_cst i),hc,hg]
  generalize h'.add _=hB at sB sB' gB8 gwB g6B⊢
  have e0:[V.int .i64 (p.b:Int),.int .i64 (p.s:Int),.int .i64 (p.e:Int)]=encPc p:=rfl
  rw[e0]
  refine price_ev sB.wf (cx.mono sB) hl nd ok kpp _ fun hC sC=>?_
  have gwC:=sC.get gwB
  have g6C:=sC.get g6B
  have lw:=sC.wf _ _ gwC
  have sBC:=sB.trans sC
  have nlo:¬(prL l p).1<0:=by omega
  have nhi:¬100<(prL l p).1:=by omega
  have hfin:h.Sub (hC.set h.next (.cells .rw ((wsU r.wants (psOf l pcs) (i+1)).map encWt).flatten)):=sBC.set (Nat.le_refl _) lw hw _
  have g6F:(hC.set h.next (.cells .rw ((wsU r.wants (psOf l pcs) (i+1)).map encWt).flatten)).get (h.next+1)=some (.cells .rw [.int .i64 (r.len:Int),F,.sl h.next 0 r.wants.length (.fix r.wants.length)]):=by
   rw[get_set_other (by omega)];exact g6C
  have n60:¬(6:Int)=0:=by decide
  have n70:¬(7:Int)=0:=by decide
  have n76:¬(7:Int)=6:=by decide
  have n100:¬(100:Int)<0:=by decide
  rcases he with he|he|he
  ·simp -implicitDefEqProofs(maxSteps:=999999)(disch:=first|with_reducible rfl|omega|(simp only[nA,nS,nD]<;>omega)|fail)only[go_sem,t0,t6,t22,t23,t24,he,nlo,nhi,ne_eq,not_true_eq_false,cells_of g6C,iq,gwC,hput,wr_succ]
   exact⟨_,_,rfl,hfin,get_set_same rfl,g6F,(by simp[ev_c,ev_put,t0]<;>rfl),(by simp[ev_c,ev_put,t6]<;>rfl),(by simp[ev_c,ev_put,t22]<;>rfl),(by simp[ev_c,ev_put,t23]<;>rfl),(by simp[ev_c,ev_put]<;>rfl)⟩
  ·simp only[he] at hput
   simp -implicitDefEqProofs(maxSteps:=999999)(disch:=first|with_reducible rfl|omega|(simp only[nA,nS,nD]<;>omega)|fail)only[go_sem,t0,t6,t22,t23,t24,he,nlo,nhi,ne_eq,not_true_eq_false,not_false_eq_true,n60,n70,n76,n100,Int.lt_irrefl,cells_of g6C,iq,gwC,hput,wr_succ]
   exact⟨_,_,rfl,hfin,get_set_same rfl,g6F,(by simp[ev_c,ev_put,t0]<;>rfl),(by simp[ev_c,ev_put,t6]<;>rfl),(by simp[ev_c,ev_put,t22]<;>rfl),(by simp[ev_c,ev_put,t23]<;>rfl),(by simp[ev_c,ev_put]<;>rfl)⟩
  ·simp only[he] at hput
   simp -implicitDefEqProofs(maxSteps:=999999)(disch:=first|with_reducible rfl|omega|(simp only[nA,nS,nD]<;>omega)|fail)only[go_sem,t0,t6,t22,t23,t24,he,nlo,nhi,ne_eq,not_true_eq_false,not_false_eq_true,n60,n70,n76,n100,Int.lt_irrefl,cells_of g6C,iq,gwC,hput,wr_succ]
   exact⟨_,_,rfl,hfin,get_set_same rfl,g6F,(by simp[ev_c,ev_put,t0]<;>rfl),(by simp[ev_c,ev_put,t6]<;>rfl),(by simp[ev_c,ev_put,t22]<;>rfl),(by simp[ev_c,ev_put,t23]<;>rfl),(by simp[ev_c,ev_put]<;>rfl)⟩
 ·rintro s ⟨tm,h',rfl,s',gw',g6',t0,t6,t22,t23,t24⟩
  have eall:wsU r.wants (psOf l pcs) r.wants.length=wsP r.wants (psOf l pcs):=by
   have:=wsP_len lps
   rw[wsU,List.take_of_length_le (by omega),List.drop_length,List.append_nil]
  rw[eall] at gw'
  simp -implicitDefEqProofs(maxSteps:=999999)(disch:=first|with_reducible rfl|omega|(simp only[nA,nS,nD]<;>omega)|fail)only[go_sem,t6,t23,t24,Int.lt_irrefl,cells_of g6']
  have aw:SlAt h' (.sl h.next 0 r.wants.length (.fix r.wants.length)) 5 ((wsP r.wants (psOf l pcs)).map encWt):=by
   have hz:∀x∈(wsP r.wants (psOf l pcs)).map encWt,x.length=5:=fun x hx=>by obtain⟨y,_,rfl⟩:=List.mem_map.1 hx;rfl
   have hln:((wsP r.wants (psOf l pcs)).map encWt).length=r.wants.length:=by rw[List.length_map,wsP_len lps]
   refine⟨hz,by omega,.inr ⟨h.next,0,.fix r.wants.length,_,by rw[hln],.inr (cells_of gw'),?_⟩⟩
   exact getN_full (flatten_len hz)
  have aR:RbAt h' F (.sl h.next 0 r.wants.length (.fix r.wants.length)) (ownR r l pcs):=⟨a.f.mono s',aw⟩
  refine best_ev s'.wf aR (ownR_ok k lp pr) _ fun y h3 s3=>?_
  simp -implicitDefEqProofs(maxSteps:=999999)(disch:=first|with_reducible rfl|omega|(simp only[nA,nS,nD]<;>omega)|fail)only[go_sem,t6,t23,t24,cells_of g6']
  exact q _ (s'.trans s3)
end Go.Ab.Tryz
namespace Go.Ab.Tryz
theorem awk10L_eq (h:H)(Q:V→H→Prop):Ev fnG fastA (.fn 12 [] []) [] h Q=Q (.bool true) h:=Ev.det ⟨1,.bool true,h,rfl,rfl,rfl⟩ Q
structure En (h:H)(X:V)(l:List Ru)(r:Rb)(F W Z:V)(pcs:List Pc)(c11 c12:Nat):Prop where
 w:h.wf
 cx:CutO (fun _=>True) h X 4 (l.map encR4)
 lk:ListOk l
 a:RbAt h F W r
 k:RbOk r
 az:SlAt h Z 3 (pcs.map encPc)
 kp:∀p∈pcs,PcOk p
 lp:pcs.length=r.wants.length
 g1:h.cells c11=some (rbV r F W)
 g2:h.cells c12=some [Z]
theorem En.mono {h h':H}{X:V}{l:List Ru}{r:Rb}{F W Z:V}{pcs:List Pc}{c11 c12:Nat}(e:En h X l r F W Z pcs c11 c12)(s:h.Sub h'):En h' X l r F W Z pcs c11 c12:=
 ⟨s.wf,e.cx.mono s,e.lk,e.a.mono s,e.k,e.az.mono s,e.kp,e.lp,s.cells e.g1,s.cells e.g2⟩
theorem En.earned {h:H}{X:V}{l:List Ru}{r:Rb}{F W Z:V}{pcs:List Pc}{c11 c12:Nat}(e:En h X l r F W Z pcs c11 c12){Y:V}{m:List Ru}(cy:CutO (fun _=>True) h Y 4 (m.map encR4))(hm:m.length≤8)(nd:m.Nodup)(ok:∀r∈m,RuOk r)(pr:∀r∈m,0≤r.p∧r.p≤100)
  (Q:V→H→Prop) (q:∀h',h.Sub h'→Q (.tup [.int .i64 (earnR r m pcs),.bool true]) h'):Ev fnG fastA (.fn 8 [] [.ptr c11 0,.ptr c12 0]) [Y] h Q:=by
 rw[Ev_fn]
 exact earned_ev e.w cy hm nd ok pr e.a e.k e.az e.kp e.lp e.g1 e.g2 Q q
theorem cutFix {h:H}{b n c:Nat}{rows:List (List V)}{rest:List V}(hz:∀r∈rows,r.length=4)(hn:n=rows.length)(hb:h.get b=some (.cells .rw (rows.flatten++rest)))(hw:h.wf)(hl:rows.length*4+rest.length=c*4):CutO (fun _=>True) h (.sl b 0 n (.fix c)) 4 rows:=
 ⟨hz,.inr (.inr ⟨b,c,rest,by rw[hn],trivial,hw _ _ hb,hb,hl,by omega⟩)⟩
theorem encR4_len {l:List Ru}:∀r∈l.map encR4,r.length=4:=fun r hr=>by obtain⟨x,_,rfl⟩:=List.mem_map.1 hr;rfl
theorem psOf_eq {l m:List Ru}{pcs:List Pc}(h:∀p∈pcs,(prL l p).1=(prL m p).1):psOf l pcs=psOf m pcs:=List.map_congr_left h
theorem earnR_eq {r:Rb}{l m:List Ru}{pcs:List Pc}(h:∀p∈pcs,(prL l p).1=(prL m p).1):earnR r l pcs=earnR r m pcs:=by
 unfold earnR ownR
 rw[psOf_eq h]
set_option maxHeartbeats 8000000 in
theorem tail8_ev {h:H}{X:V}{l:List Ru}{r:Rb}{F W Z:V}{pcs:List Pc}{c11 c12 k:Nat}(e:En h X l r F W Z pcs c11 c12)(hk:k<l.length){y:V}{L:List Int}(ay:SlAt h y 1 (L.map encI))(hL:∀(k:Nat) (hk:k<l.length),(k:Int)∈L↔∀i,i<60→cnts l (pcN i) l[k]=false)
  {tm:Go.Ab.T V} (t9:(Opd.t 9).ev tm=X) (t13:(Opd.t 13).ev tm=.fn 8 [] [.ptr c11 0,.ptr c12 0]) (t14:(Opd.t 14).ev tm=.int .i64 (earnR r l pcs)) (t19:(Opd.t 19).ev tm=.int .i64 (k:Int)) (t20:(Opd.t 20).ev tm=y) (Q:V→H→Prop) (q:∀h',h.Sub h'→Q (.bool true) h'):
  Go.Ab.W fnG fastA 173 3 none (navB [true,true,true,true,true,true,true,true,true,true,true,true,true,true,true,true,true,true] c3.body) ⟨tm,h,[]⟩ (Kfin [.tmp 8] Q):=by
 have ll:=e.lk.n
 have hpr:∀r∈l,0≤r.p∧r.p≤100:=fun r hr=>by have:=e.lk.p r hr;omega
 have wk:wr .i64 ((k:Int)+1)=((k+1:Nat):Int):=by rw[wr_in (by omega) (by omega)];rfl
 simp only[navB,c3]
 simp -implicitDefEqProofs(maxSteps:=999999)(disch:=first|with_reducible rfl|omega|(simp only[nA,nS,nD]<;>omega)|fail)only[go_sem,t9,t19]
 refine witness_ev e.w e.cx (by omega) e.lk.nd e.lk.ok hk _ (fun hp h1 s1=>?_) fun i hi hne h1 s1=>?_
 ·have e1:=e.mono s1
  have sA:=s1.add (.cells .rw [.int .i64 0,.int .i64 0,.int .i64 0])
  have eA:=e.mono sA
  simp -implicitDefEqProofs(maxSteps:=999999)(disch:=first|with_reducible rfl|omega|(simp only[nA,nS,nD]<;>omega)|fail)only[go_sem,t9,t13,t14,t19,wk]
  generalize h1.add _=hA at sA eA⊢
  refine dupRule_ev eA.w (eA.cx.sl (by rw[List.length_map];omega)) (by omega) _ ?_
  have sB:=(H.Sub.refl eA.w).add (.cells .rw (l.map encR4).flatten)
  have gB:(hA.add (.cells .rw (l.map encR4).flatten)).get hA.next=some (.cells .rw (l.map encR4).flatten):=get_add_new rfl
  have eB:=eA.mono sB
  generalize H.add hA _=hB at sB gB eB⊢
  simp -implicitDefEqProofs(maxSteps:=999999)(disch:=first|with_reducible rfl|omega|(simp only[nA,nS,nD]<;>omega)|fail)only[go_sem,t9,t13,t14,t19,wk]
  have hel:(l.eraseIdx k).length=l.length-1:=List.length_eraseIdx_of_lt hk
  have hml:((l.map encR4).eraseIdx k)=(l.eraseIdx k).map encR4:=by rw[List.eraseIdx_eq_take_drop_succ,List.eraseIdx_eq_take_drop_succ,List.map_append,List.map_take,List.map_drop]
  have dl:=delRuleF_ev (h:=hB) (b:=hA.next) (R:=l.map encR4) (k:=k) eB.w encR4_len (oneR4 l) gB (by rw[List.length_map];exact hk) (by rw[List.length_map];omega)
  rw[hml,List.length_map,List.length_map] at dl
  refine dl _ fun hC kC wC gC=>?_
  have sAC:hA.Sub hC:=kC.sub sB eA.w (fun c hc=>by omega) wC
  have eC:=eA.mono sAC
  simp -implicitDefEqProofs(maxSteps:=999999)(disch:=first|with_reducible rfl|omega|(simp only[nA,nS,nD]<;>omega)|fail)only[go_sem,t9,t13,t14,t19,wk]
  refine eC.earned (cutFix encR4_len (by rw[List.length_map]) gC wC (by rw[List.length_map,hel];simp;omega)) (by omega) (e.lk.nd.sublist (List.eraseIdx_sublist l k)) (fun x hx=>e.lk.ok x (List.mem_of_mem_eraseIdx hx)) (fun x hx=>hpr x (List.mem_of_mem_eraseIdx hx)) _ fun hD sD=>?_
  have heq:earnR r (l.eraseIdx k) pcs=earnR r l pcs:=earnR_eq fun p hp'=>by
   obtain⟨i,hi,rfl⟩:=pcN_of (e.kp p hp')
   rw[hp i hi]
  rw[heq]
  simp -implicitDefEqProofs(maxSteps:=999999)(disch:=first|with_reducible rfl|omega|(simp only[nA,nS,nD]<;>omega)|fail)only[go_sem,t9,t13,t14,t19,wk,ne_eq,not_true_eq_false]
  rw[awk10L_eq]
  simp -implicitDefEqProofs(maxSteps:=999999)(disch:=first|with_reducible rfl|omega|(simp only[nA,nS,nD]<;>omega)|fail)only[go_sem]
  exact q _ (sA.trans (sAC.trans sD))
 ·have hni:decide ((k:Int)∈L)=false:=decide_eq_false fun hm=>hne ((prL_erase hk ((hL k hk).1 hm i hi)).symm)
  have e1:=e.mono s1
  obtain⟨p,hp⟩:∃p,pcN i=p:=⟨_,rfl⟩
  rw[hp]
  have sA:=s1.add (.cells .rw (encPc p))
  have ayA:=ay.mono sA
  simp only[encPc] at sA ayA⊢
  have n06:¬(0:Int)=6:=by decide
  simp -implicitDefEqProofs(maxSteps:=999999)(disch:=first|with_reducible rfl|omega|(simp only[nA,nS,nD]<;>omega)|fail)only[go_sem,t9,t13,t14,t19,t20,n06,ne_eq,not_true_eq_false]
  generalize h1.add _=hA at sA ayA⊢
  refine bhasInt_ev sA.wf ayA (k:Int) _ fun hB sB=>?_
  rw[hni]
  simp -implicitDefEqProofs(maxSteps:=999999)(disch:=first|with_reducible rfl|omega|(simp only[nA,nS,nD]<;>omega)|fail)only[go_sem]
  rw[awk10L_eq]
  simp -implicitDefEqProofs(maxSteps:=999999)(disch:=first|with_reducible rfl|omega|(simp only[nA,nS,nD]<;>omega)|fail)only[go_sem]
  exact q _ (sA.trans sB)
end Go.Ab.Tryz
namespace Go.Ab
theorem putCell {α:Type}{enc:α→List V}{sz:Nat}(hz:∀a,(enc a).length=sz){l:List α}{i:Nat}(hi:i<l.length){j:Nat}(hj:j<sz){v:V}{a:α}(he:(enc l[i]).set j v=enc a):putN (i*sz+j) [v] (l.map enc).flatten=some ((l.set i a).map enc).flatten:=by
 have hr:∀(l:List α),∀r∈l.map enc,r.length=sz:=fun l r hr=>by obtain⟨x,_,rfl⟩:=List.mem_map.1 hr;exact hz x
 have fl:(l.map enc).flatten.length=l.length*sz:=by rw[flatten_len (hr l),List.length_map]
 have hle:i*sz+sz≤l.length*sz:=by rw[←Nat.succ_mul];exact Nat.mul_le_mul_right _ hi
 rw[putN_one (by omega)]
 have e:l=l.take i++l[i]::l.drop (i+1):=by rw[List.getElem_cons_drop,List.take_append_drop]
 have e2:l.set i a=l.take i++a::l.drop (i+1):=by rw[List.set_eq_take_append_cons_drop,if_pos hi]
 have hl:((l.take i).map enc).flatten.length=i*sz:=by rw[flatten_len (hr _),List.length_map,List.length_take,Nat.min_eq_left (by omega)]
 have f1:=congrArg (fun t=>(t.map enc).flatten) e
 have f2:=congrArg (fun t=>(t.map enc).flatten) e2
 simp only[List.map_append,List.map_cons,List.flatten_append,List.flatten_cons] at f1 f2
 rw[f2,f1,List.set_append_right _ _ (by omega),hl,Nat.add_sub_cancel_left,List.set_append_left _ _ (by rw[hz];exact hj),he]
theorem nodup_set {α:Type}{l:List α}(nd:l.Nodup){k:Nat}{a:α}(ha:a ∉l):(l.set k a).Nodup:=by
 refine List.pairwise_iff_getElem.2 fun i j hi hj hij=>?_
 rw[List.length_set] at hi hj
 rw[List.getElem_set,List.getElem_set]
 have h0:=List.pairwise_iff_getElem.1 nd i j hi hj hij
 by_cases e1:k=i
 ·rw[if_pos e1,if_neg (by omega)]
  intro e;exact ha (e▸List.getElem_mem hj)
 ·rw[if_neg e1]
  by_cases e2:k=j
  ·rw[if_pos e2]
   intro e;exact ha (e▸List.getElem_mem hi)
  ·rw[if_neg e2];exact h0
end Go.Ab
namespace Go.Ab.Tryz
theorem putP4 {l:List Ru}{i:Nat}(hi:i<l.length)(n:Int):putN (i*4+3) [.int .i64 n] (l.map encR4).flatten=some ((l.set i (setP l[i] n)).map encR4).flatten:=putCell (enc:=encR4) (sz:=4) (j:=3) (fun _=>rfl) hi (by omega) rfl
set_option maxHeartbeats 8000000 in
theorem tail7_ev {h:H}{X:V}{l:List Ru}{r:Rb}{F W Z:V}{pcs:List Pc}{c11 c12 k:Nat}(e:En h X l r F W Z pcs c11 c12)(hk:k<l.length){y:V}{L:List Int}(ay:SlAt h y 1 (L.map encI))(hL:∀(k:Nat) (hk:k<l.length),(k:Int)∈L↔∀i,i<60→cnts l (pcN i) l[k]=false)
  {mo:Int} (hmo:0≤mo∧mo≤255) {tm:Go.Ab.T V} (t3:(Opd.t 3).ev tm=.int .u8 mo) (t9:(Opd.t 9).ev tm=X) (t13:(Opd.t 13).ev tm=.fn 8 [] [.ptr c11 0,.ptr c12 0]) (t14:(Opd.t 14).ev tm=.int .i64 (earnR r l pcs)) (t19:(Opd.t 19).ev tm=.int .i64 (k:Int)) (t20:(Opd.t 20).ev tm=y) (Q:V→H→Prop) (q:∀h',h.Sub h'→Q (.bool true) h'):
  Go.Ab.W fnG fastA 173 3 none (navB [true,true,true,true,true,true,true,true,true,true,true,true,true,true,true,true,true] c3.body) ⟨tm,h,[]⟩ (Kfin [.tmp 8] Q):=by
 have ll:=e.lk.n
 obtain⟨R,hR⟩:∃R,navB [true,true,true,true,true,true,true,true,true,true,true,true,true,true,true,true,true,true] c3.body=R:=⟨_,rfl⟩
 have ht:= @tail8_ev
 rw[hR] at ht
 simp only[navB,c3] at hR
 simp only[navB,c3]
 rw[hR]
 clear hR
 simp -implicitDefEqProofs(maxSteps:=999999)(disch:=first|with_reducible rfl|omega|(simp only[nA,nS,nD]<;>omega)|fail)only[go_sem,t19,t20]
 refine bhasInt_ev e.w ay (k:Int) _ fun h1 s1=>?_
 have e1:=e.mono s1
 have ay1:=ay.mono s1
 by_cases hm:(k:Int)∈L
 ·have d1:decide ((k:Int)∈L)=true:=decide_eq_true hm
  have hid:=(hL k hk).1 hm
  have d0:0≤mo.tmod 20:=Int.tmod_nonneg _ hmo.1
  have d20:mo.tmod 20<20:=Int.tmod_lt_of_pos _ (by omega)
  have wmo:wr .i64 mo=mo:=wr_in (by omega) (by omega)
  obtain⟨d,hd⟩:∃d,mo.tmod 20=d:=⟨_,rfl⟩
  rw[hd] at d0 d20
  have wd:wr .i64 (50+d)=50+d:=wr_in (by omega) (by omega)
  have nz:¬(20:Int)=0:=by decide
  rw[d1]
  simp -implicitDefEqProofs(maxSteps:=999999)(disch:=first|with_reducible rfl|omega|(simp only[nA,nS,nD]<;>omega)|fail)only[go_sem,t9,t19,t20]
  refine dupRule_ev e1.w (e1.cx.sl (by rw[List.length_map];omega)) (by omega) _ ?_
  have sB:=(H.Sub.refl e1.w).add (.cells .rw (l.map encR4).flatten)
  have gB:(h1.add (.cells .rw (l.map encR4).flatten)).get h1.next=some (.cells .rw (l.map encR4).flatten):=get_add_new rfl
  have eB:=e1.mono sB
  generalize H.add h1 _=hB at sB gB eB⊢
  have hkb:Nat.blt k l.length=true:=by rw[Nat.blt_eq];exact hk
  have iq:q_iad 4 (.sl h1.next 0 l.length (.fix l.length)) (.int .i64 (k:Int))=some (.ptr h1.next (k*4)):=by
   simp only[q_iad,nat_cst,hkb,og_true,Nat.zero_add]
  have hput:=putP4 hk (50+d)
  have lb:=eB.w _ _ gB
  simp -implicitDefEqProofs(maxSteps:=999999)(disch:=first|with_reducible rfl|omega|(simp only[nA,nS,nD]<;>omega)|fail)only[go_sem,t3,t13,t14,t19,wmo,q_ar_rem .i64 nz,hd,wd,iq,gB,hput]
  obtain⟨m,hm'⟩:∃m,l.set k (setP l[k] (50+d))=m:=⟨_,rfl⟩
  have lm:m.length=l.length:=by rw[←hm',List.length_set]
  have hin:∀x∈m,x∈l∨x=setP l[k] (50+d):=fun x hx=>by
   rw[←hm'] at hx
   exact List.mem_or_eq_of_mem_set hx
  have hnd:m.Nodup:=by
   rw[←hm']
   refine nodup_set e.lk.nd ?_
   intro hc
   have h1:=e.lk.p _ hc
   have h2:(setP l[k] (50+d)).p=50+d:=rfl
   omega
  have hok:∀x∈m,RuOk x:=fun x hx=>by
   rcases hin x hx with hx|rfl
   ·exact e.lk.ok x hx
   ·have ko:=e.lk.ok _ (List.getElem_mem hk)
    exact⟨ko.b,ko.s,ko.e,by show 0≤50+d∧50+d≤500;omega⟩
  have hpr:∀x∈m,0≤x.p∧x.p≤100:=fun x hx=>by
   rcases hin x hx with hx|rfl
   ·have:=e.lk.p x hx;omega
   ·show 0≤50+d∧50+d≤100;omega
  have heq:earnR r m pcs=earnR r l pcs:=earnR_eq fun p hp'=>by
   obtain⟨i,hi,rfl⟩:=pcN_of (e.kp p hp')
   rw[←hm',prL_set hk (hid i hi)]
  rw[hm']
  have sC:h1.Sub (hB.set h1.next (.cells .rw (m.map encR4).flatten)):=sB.set (Nat.le_refl _) lb e1.w _
  have gC:(hB.set h1.next (.cells .rw (m.map encR4).flatten)).get h1.next=some (.cells .rw ((m.map encR4).flatten++[])):=by rw[List.append_nil];exact get_set_same rfl
  have eC:=e1.mono sC
  have ayC:=ay1.mono sC
  generalize hB.set h1.next _=hC at sC gC eC ayC⊢
  refine eC.earned (cutFix encR4_len (by rw[List.length_map,lm]) gC eC.w (by rw[List.length_map,lm];simp)) (by omega) hnd hok hpr _ fun hD sD=>?_
  rw[heq]
  simp -implicitDefEqProofs(maxSteps:=999999)(disch:=first|with_reducible rfl|omega|(simp only[nA,nS,nD]<;>omega)|fail)only[go_sem,t14,ne_eq,not_true_eq_false]
  exact ht (eC.mono sD) hk (ayC.mono sD) hL (by simp[ev_c,ev_put,t9]<;>rfl) (by simp[ev_c,ev_put,t13]<;>rfl) (by simp[ev_c,ev_put,t14]<;>rfl) (by simp[ev_c,ev_put,t19]<;>rfl) (by simp[ev_c,ev_put,t20]<;>rfl) Q fun h' s'=>q _ (s1.trans (sC.trans (sD.trans s')))
 ·have d1:decide ((k:Int)∈L)=false:=decide_eq_false hm
  rw[d1]
  simp -implicitDefEqProofs(maxSteps:=999999)(disch:=first|with_reducible rfl|omega|(simp only[nA,nS,nD]<;>omega)|fail)only[go_sem]
  exact ht e1 hk ay1 hL (by simp[ev_c,ev_put,t9]<;>rfl) (by simp[ev_c,ev_put,t13]<;>rfl) (by simp[ev_c,ev_put,t14]<;>rfl) (by simp[ev_c,ev_put,t19]<;>rfl) (by simp[ev_c,ev_put,t20]<;>rfl) Q fun h' s'=>q _ (s1.trans s')
end Go.Ab.Tryz
namespace Go.Ab.Tryz
def upU (l:List Ru)(d:Int)(i:Nat):List Ru:=(l.take i).map (upP d)++l.drop i
theorem upU_len (l:List Ru)(d:Int){i:Nat}(hi:i≤l.length):(upU l d i).length=l.length:=by simp[upU];omega
theorem upU_at {l:List Ru}{d:Int}{i:Nat}(hi:i<l.length):(upU l d i)[i]'(by rw[upU_len l d (by omega)];exact hi)=l[i]:=by
 have lt:((l.take i).map (upP d)).length=i:=by rw[List.length_map,List.length_take];omega
 have:(upU l d i)[i]? =some l[i]:=by rw[upU,List.getElem?_append_right (by omega),lt,Nat.sub_self,List.drop_eq_getElem_cons hi];rfl
 rw[List.getElem?_eq_getElem (by rw[upU_len l d (by omega)];exact hi)] at this
 exact Option.some.inj this
theorem upU_step {l:List Ru}{d:Int}{i:Nat}(hi:i<l.length):(upU l d i).set i (upP d l[i])=upU l d (i+1):=by
 have lt:((l.take i).map (upP d)).length=i:=by rw[List.length_map,List.length_take];omega
 rw[upU,upU,List.set_append_right _ _ (by omega),lt,Nat.sub_self,List.drop_eq_getElem_cons hi,List.set_cons_zero,List.take_succ_eq_append_getElem hi,List.map_append,List.append_assoc]
 rfl
theorem upP_inj {d:Int}{a b:Ru}(h:upP d a=upP d b):a=b:=by
 cases a;cases b
 simp only[upP,setP,Ru.mk.injEq] at h⊢
 exact⟨h.1,h.2.1,h.2.2.1,by omega⟩
theorem nodup_up {l:List Ru}(nd:l.Nodup)(d:Int):(l.map (upP d)).Nodup:=by
 refine List.pairwise_map.2 (nd.imp fun hne he=>hne (upP_inj he))
theorem earnR_le {r:Rb}{l m:List Ru}{pcs:List Pc}(k:RbOk r)(lp:pcs.length=r.wants.length)(h1:∀x∈l,0≤x.p∧x.p≤100)(h2:∀x∈m,0≤x.p∧x.p≤100)(h:∀p∈pcs,(prL l p).1≤(prL m p).1):earnR r l pcs≤earnR r m pcs:=by
 have l1:(psOf l pcs).length=r.wants.length:=by simp[psOf,lp]
 have l2:(psOf m pcs).length=r.wants.length:=by simp[psOf,lp]
 refine madeL_le l1 l2 (fun i=>?_) r.len k.len.2 r.faults (ownR_ok k lp h1) (ownR_ok k lp h2) r.len (Nat.le_refl _) 0
 by_cases hi:i<pcs.length
 ·have e1:(psOf l pcs).getD i 0=(prL l pcs[i]).1:=by rw[List.getD_eq_getElem?_getD,psOf,List.getElem?_map,List.getElem?_eq_getElem hi];rfl
  have e2:(psOf m pcs).getD i 0=(prL m pcs[i]).1:=by rw[List.getD_eq_getElem?_getD,psOf,List.getElem?_map,List.getElem?_eq_getElem hi];rfl
  rw[e1,e2]
  exact h _ (List.getElem_mem hi)
 ·rw[List.getD_eq_getElem?_getD,List.getD_eq_getElem?_getD,List.getElem?_eq_none (by omega),List.getElem?_eq_none (by omega)]
  exact Int.le_refl _
set_option maxHeartbeats 8000000 in
theorem tail10_ev {h:H}{X:V}{l:List Ru}{r:Rb}{F W Z:V}{pcs:List Pc}{c11 c12:Nat}(e:En h X l r F W Z pcs c11 c12)(h0:0<l.length)
  {wh mo:Int} (hwh:0≤wh∧wh≤255) (hmo:0≤mo∧mo≤255) {tm:Go.Ab.T V} (t2:(Opd.t 2).ev tm=.int .u8 wh) (t3:(Opd.t 3).ev tm=.int .u8 mo) (t9:(Opd.t 9).ev tm=X) (t13:(Opd.t 13).ev tm=.fn 8 [] [.ptr c11 0,.ptr c12 0]) (t14:(Opd.t 14).ev tm=.int .i64 (earnR r l pcs)) (Q:V→H→Prop) (q:∀h',h.Sub h'→Q (.bool true) h'):
  Go.Ab.W fnG fastA 173 3 none (navB [true,true,true,true,true,true,true,true,true,true] c3.body) ⟨tm,h,[]⟩ (Kfin [.tmp 8] Q):=by
 have ll:=e.lk.n
 obtain⟨R,hR⟩:∃R,navB [true,true,true,true,true,true,true,true,true,true,true,true,true,true,true,true,true] c3.body=R:=⟨_,rfl⟩
 have ht:= @tail7_ev
 rw[hR] at ht
 simp only[navB,c3] at hR
 simp only[navB,c3]
 rw[hR]
 clear hR
 have d0:0≤mo.tmod 20:=Int.tmod_nonneg _ hmo.1
 have d20:mo.tmod 20<20:=Int.tmod_lt_of_pos _ (by omega)
 have wmo:wr .i64 mo=mo:=wr_in (by omega) (by omega)
 obtain⟨d,hd⟩:∃d,mo.tmod 20=d:=⟨_,rfl⟩
 rw[hd] at d0 d20
 have nz:¬(20:Int)=0:=by decide
 simp -implicitDefEqProofs(maxSteps:=999999)(disch:=first|with_reducible rfl|omega|(simp only[nA,nS,nD]<;>omega)|fail)only[go_sem,t9]
 refine dupRule_ev e.w (e.cx.sl (by rw[List.length_map];omega)) (by omega) _ ?_
 have sB:=(H.Sub.refl e.w).add (.cells .rw (l.map encR4).flatten)
 have gB:(h.add (.cells .rw (l.map encR4).flatten)).get h.next=some (.cells .rw (l.map encR4).flatten):=get_add_new rfl
 generalize H.add h _=hB at sB gB⊢
 simp -implicitDefEqProofs(maxSteps:=999999)(disch:=first|with_reducible rfl|omega|(simp only[nA,nS,nD]<;>omega)|fail)only[go_sem]
 have u0:upU l d 0=l:=by simp[upU]
 refine W_count l.length (fun i s=>∃(tm:Go.Ab.T V) (h':H),s=⟨tm,h',[]⟩∧h.Sub h'∧h'.get h.next=some (.cells .rw ((upU l d i).map encR4).flatten)∧(Opd.t 2).ev tm=.int .u8 wh∧(Opd.t 3).ev tm=.int .u8 mo∧(Opd.t 9).ev tm=X∧(Opd.t 13).ev tm=.fn 8 [] [.ptr c11 0,.ptr c12 0]∧(Opd.t 14).ev tm=.int .i64 (earnR r l pcs)∧(Opd.t 16).ev tm=.sl h.next 0 l.length (.fix l.length)∧(Opd.t 72).ev tm=.int .i64 (l.length:Int)∧(Opd.t 73).ev tm=.int .i64 (i:Int)) ?_ ?_ (i:=0) (Nat.zero_le _)
  ⟨_,_,rfl,sB,by rw[u0];exact gB,(by simp[ev_c,ev_put,t2]<;>rfl),(by simp[ev_c,ev_put,t3]<;>rfl),(by simp[ev_c,ev_put,t9]<;>rfl),(by simp[ev_c,ev_put,t13]<;>rfl),(by simp[ev_c,ev_put,t14]<;>rfl),(by simp[ev_c,ev_put]<;>rfl),(by simp[ev_c,ev_put]<;>rfl),(by simp only[ev_put];rfl)⟩<;>clear t2 t3 t9 t13 t14
 ·rintro i s hi ⟨tm,h',rfl,s',g',t2,t3,t9,t13,t14,t16,t72,t73⟩
  have hi':(i:Int)<(l.length:Int):=by omega
  have hib:Nat.blt i l.length=true:=by rw[Nat.blt_eq];exact hi
  have iq:q_iad 4 (.sl h.next 0 l.length (.fix l.length)) (.int .i64 (i:Int))=some (.ptr h.next (i*4)):=by
   simp only[q_iad,nat_cst,hib,og_true,Nat.zero_add]
  have lu:=upU_len l d (i:=i) (by omega)
  have gr:=getRow (enc:=encR4) (sz:=4) (fun _=>rfl) (l:=upU l d i) (k:=i) (by omega)
  rw[upU_at hi] at gr
  have nx:nth (i*4+3) ((upU l d i).map encR4).flatten=some (.int .i64 l[i].p):=nthRow gr (j:=3) (by omega)
  have hput:=putP4 (l:=upU l d i) (i:=i) (by omega) (l[i].p+d)
  rw[upU_at hi,show setP l[i] (l[i].p+d)=upP d l[i] from rfl,upU_step hi] at hput
  have hpb:=e.lk.p _ (List.getElem_mem hi)
  have wp:wr .i64 (l[i].p+d)=l[i].p+d:=wr_in (by omega) (by omega)
  have lb:=s'.wf _ _ g'
  simp -implicitDefEqProofs(maxSteps:=999999)(disch:=first|with_reducible rfl|omega|(simp only[nA,nS,nD]<;>omega)|fail)only[go_sem,t2,t3,t9,t13,t14,t16,t72,t73,hi',iq,cells_of g',nx,wmo,q_ar_rem .i64 nz,hd,wp,g',hput,wr_succ]
  exact⟨_,_,rfl,s'.set (Nat.le_refl _) lb e.w _,get_set_same rfl,(by simp[ev_c,ev_put,t2]<;>rfl),(by simp[ev_c,ev_put,t3]<;>rfl),(by simp[ev_c,ev_put,t9]<;>rfl),(by simp[ev_c,ev_put,t13]<;>rfl),(by simp[ev_c,ev_put,t14]<;>rfl),(by simp[ev_c,ev_put,t16]<;>rfl),(by simp[ev_c,ev_put,t72]<;>rfl),(by simp[ev_c,ev_put]<;>rfl)⟩
 ·rintro s ⟨tm,h',rfl,s',g',t2,t3,t9,t13,t14,t16,t72,t73⟩
  have eall:upU l d l.length=l.map (upP d):=by simp[upU]
  rw[eall] at g'
  have e':=e.mono s'
  have lm:(l.map (upP d)).length=l.length:=List.length_map _
  have hin:∀x∈l.map (upP d),∃z∈l,x=upP d z:=fun x hx=>by
   obtain⟨z,hz,rfl⟩:=List.mem_map.1 hx;exact⟨z,hz,rfl⟩
  have hok:∀x∈l.map (upP d),RuOk x:=fun x hx=>by
   obtain⟨z,hz,rfl⟩:=hin x hx
   have ko:=e.lk.ok z hz
   have kp:=e.lk.p z hz
   exact⟨ko.b,ko.s,ko.e,by show 0≤z.p+d∧z.p+d≤500;omega⟩
  have hpr0:∀x∈l,0≤x.p∧x.p≤100:=fun x hx=>by have:=e.lk.p x hx;omega
  have hpr:∀x∈l.map (upP d),0≤x.p∧x.p≤100:=fun x hx=>by
   obtain⟨z,hz,rfl⟩:=hin x hx
   have kp:=e.lk.p z hz
   show 0≤z.p+d∧z.p+d≤100;omega
  have hge:=earnR_le e.k e.lp hpr0 hpr (m:=l.map (upP d)) fun p _=>prL_up l d0 p
  have nlt:¬earnR r (l.map (upP d)) pcs<earnR r l pcs:=by omega
  have gC:h'.get h.next=some (.cells .rw (((l.map (upP d)).map encR4).flatten++[])):=by rw[List.append_nil];exact g'
  have k0:0≤wh.tmod (l.length:Int):=Int.tmod_nonneg _ hwh.1
  have k1:wh.tmod (l.length:Int)<(l.length:Int):=Int.tmod_lt_of_pos _ (by omega)
  obtain⟨k,hk⟩:∃k:Nat,wh.tmod (l.length:Int)=(k:Int):=⟨(wh.tmod (l.length:Int)).toNat,by omega⟩
  rw[hk] at k0 k1
  have nzl:¬(l.length:Int)=0:=by omega
  have wwh:wr .i64 wh=wh:=wr_in (by omega) (by omega)
  simp -implicitDefEqProofs(maxSteps:=999999)(disch:=first|with_reducible rfl|omega|(simp only[nA,nS,nD]<;>omega)|fail)only[go_sem,t13,t16,t72,t73,Int.lt_irrefl]
  refine e'.earned (cutFix encR4_len (by rw[List.length_map,lm]) gC e'.w (by rw[List.length_map,lm];simp)) (by omega) (nodup_up e.lk.nd d) hok hpr _ fun h1 s1=>?_
  have e1:=e'.mono s1
  have lX:=(e1.cx.sl (by rw[List.length_map];omega)).lenE
  simp -implicitDefEqProofs(maxSteps:=999999)(disch:=first|with_reducible rfl|omega|(simp only[nA,nS,nD]<;>omega)|fail)only[go_sem,t2,t9,t14,nlt,wwh,lX,q_ar_rem .i64 nzl,hk]
  refine idle_ev e1.w e1.cx (by omega) e.lk.nd e.lk.ok _ fun y L h2 s2 ay hL=>?_
  simp -implicitDefEqProofs(maxSteps:=999999)(disch:=first|with_reducible rfl|omega|(simp only[nA,nS,nD]<;>omega)|fail)only[go_sem,ne_eq,not_true_eq_false]
  exact ht (k:=k) (e1.mono s2) (by omega) ay hL hmo (by simp[ev_c,ev_put,t3]<;>rfl) (by simp[ev_c,ev_put,t9]<;>rfl) (by simp[ev_c,ev_put,t13]<;>rfl) (by simp[ev_c,ev_put,t14]<;>rfl) (by simp[ev_c,ev_put]<;>rfl) (by simp[ev_c,ev_put]<;>rfl) Q fun h3 s3=>q _ (s'.trans (s1.trans (s2.trans s3)))
end Go.Ab.Tryz
namespace Go.Ab.Tryz
theorem earnR_nil {r:Rb}(k:RbOk r){pcs:List Pc}(lp:pcs.length=r.wants.length):earnR r [] pcs=0:=by
 have ko:=ownR_ok k (l:=[]) lp (fun x hx=>by simp at hx)
 have h1:(psOf [] pcs).length=r.wants.length:=by simp[psOf,lp]
 refine madeL_zero ko (fun w hw=>?_) r.len (Nat.le_refl _) 0
 have hw':w∈wsP r.wants (psOf [] pcs):=hw
 obtain⟨i,hi,rfl⟩:=List.mem_iff_getElem.1 hw'
 have hi':i<r.wants.length:=by rwa[wsP_len h1] at hi
 have e:=wsP_at h1 hi'
 rw[List.getElem?_eq_getElem hi] at e
 rw[Option.some.inj e]
 show(psOf [] pcs).getD i 0=0
 rw[List.getD_eq_getElem?_getD,psOf,List.getElem?_map,List.getElem?_eq_getElem (by omega)]
 rfl
set_option maxHeartbeats 8000000 in
theorem TopListed_ev {h:H}{x y:V}{bs cs:List Int}{wh mo:Int}(hw:h.wf)(hx:SlAt h x 1 (bs.map encU8))(hy:SlAt h y 1 (cs.map encU8))(hwh:0≤wh∧wh≤255)(hmo:0≤mo∧mo≤255):
  Ev fnG fastA (.fn 3 [] []) [x,y,.int .u8 wh,.int .u8 mo] h (fun u _=>u=.bool true):=by
 refine Ev_body (fd:=c3) rfl rfl rfl ?_
 obtain⟨R,hR⟩:∃R,navB [true,true,true,true,true,true,true,true,true,true] c3.body=R:=⟨_,rfl⟩
 have ht:= @tail10_ev
 rw[hR] at ht
 simp only[navB,c3] at hR
 simp only[c3]
 rw[hR]
 clear hR
 simp -implicitDefEqProofs(maxSteps:=999999)(disch:=first|with_reducible rfl|omega|(simp only[nA,nS,nD]<;>omega)|fail)only[go_sem]
 refine Wound_ev hw hx _ fun hA sA spA nA'=>?_
 have qA:Sq h h.next x bs 0 hA:=⟨hw,hx,Nat.le_refl _,sA,spA,by omega⟩
 simp -implicitDefEqProofs(maxSteps:=999999)(disch:=first|with_reducible rfl|omega|(simp only[nA,nS,nD]<;>omega)|fail)only[go_sem]
 refine MadeR_ev qA (by omega) _ fun X l hX sX oX lk=>?_
 have X1:=(oX.sl (by rw[List.length_map];have:=lk.n;omega)).one
 simp -implicitDefEqProofs(maxSteps:=999999)(disch:=first|with_reducible rfl|omega|(simp only[nA,nS,nD]<;>omega)|fail)only[go_sem]
 refine Wound_ev sX.wf (hy.mono sX) _ fun hB sB spB nB'=>?_
 have qB:Sq hX hX.next y cs 0 hB:=⟨sX.wf,hy.mono sX,Nat.le_refl _,sB,spB,by omega⟩
 obtain⟨p,hp⟩:∃p,hX.next=p:=⟨_,rfl⟩
 rw[hp] at qB⊢
 simp -implicitDefEqProofs(maxSteps:=999999)(disch:=first|with_reducible rfl|omega|(simp only[nA,nS,nD]<;>omega)|fail)only[go_sem]
 refine MadeB_ev qB (by omega) _ fun F W r T1 h1 q1 hT1 oF oW k w5=>?_
 have kn:=k.nf
 have F1:=(oF.sl (by rw[List.length_map];omega)).one
 have W1:=(oW.sl (by rw[List.length_map];omega)).one
 have lp1:=q1.lt
 have s2:=((H.Sub.refl q1.s.wf).add (.cells .rw (rbV r F W))).add (.cells .rw [.nils])
 have n2:((h1.add (.cells .rw (rbV r F W))).add (.cells .rw [.nils])).next=h1.next+2:=by simp only[H.next_add]
 have l2:(h1.add (.cells .rw (rbV r F W))).next=h1.next+1:=H.next_add _ _
 have g11:((h1.add (.cells .rw (rbV r F W))).add (.cells .rw [.nils])).get h1.next=some (.cells .rw (rbV r F W)):=by rw[get_add_old (by omega),get_add_new rfl]
 have g12:((h1.add (.cells .rw (rbV r F W))).add (.cells .rw [.nils])).get (h1.next+1)=some (.cells .rw [.nils]):=get_add_new l2.symm
 simp -implicitDefEqProofs(maxSteps:=999999)(disch:=first|with_reducible rfl|omega|(simp only[nA,nS,nD]<;>omega)|fail)only[go_sem,F1,W1,cells_one F1,cells_one W1]
 have lW:=(oW.sl (by rw[List.length_map];omega)).lenE
 have o2F:=oF.mono s2
 have o2W:=oW.mono s2
 have q2:=q1.mono s2
 simp only[rbV] at g11 g12
 generalize H.add (H.add h1 _) _=h2 at s2 n2 g11 g12 o2F o2W q2⊢
 obtain⟨c11,hc11⟩:∃c,h1.next=c:=⟨_,rfl⟩
 rw[hc11] at g11 g12 n2
 simp only[hc11]
 simp -implicitDefEqProofs(maxSteps:=999999)(disch:=first|with_reducible rfl|omega|(simp only[nA,nS,nD]<;>omega)|fail)only[go_sem,lW]
 refine W_count r.wants.length (fun i s=>∃(tm:Go.Ab.T V) (h':H) (T':Int) (Z:V) (pcs:List Pc),s=⟨tm,h',[]⟩∧T'≤T1+3*(i:Int)∧Sq hX p y cs T' h'∧OwnSl hX h' F 1 (r.faults.map encI)∧OwnSl hX h' W 5 (r.wants.map encWt)∧h'.get c11=some (.cells .rw [.int .i64 (r.len:Int),F,W])∧h'.get (c11+1)=some (.cells .rw [Z])∧OwnSl hX h' Z 3 (pcs.map encPc)∧(∀b,blkOf Z b→h2.next≤b)∧h2.next≤h'.next∧pcs.length=i∧(∀p∈pcs,PcOk p)∧(Opd.t 2).ev tm=.int .u8 wh∧(Opd.t 3).ev tm=.int .u8 mo∧(Opd.t 9).ev tm=X∧(Opd.t 10).ev tm=.ptr p 0∧(Opd.t 11).ev tm=.ptr c11 0∧(Opd.t 12).ev tm=.ptr (c11+1) 0∧(Opd.t 38).ev tm=.int .i64 (r.wants.length:Int)∧(Opd.t 39).ev tm=.int .i64 (i:Int)) ?_ ?_ (i:=0) (Nat.zero_le _)
  ⟨_,_,_,.nils,[],rfl,by omega,q2,o2F,o2W,g11,g12,OwnSl.nil q2.s 3,fun b hb=>(blkOf_nils hb).elim,Nat.le_refl _,rfl,by simp,(by simp[ev_c,ev_put]<;>rfl),(by simp[ev_c,ev_put]<;>rfl),(by simp[ev_c,ev_put]<;>rfl),(by simp[ev_c,ev_put]<;>rfl),(by simp[ev_c,ev_put]<;>rfl),(by simp[ev_c,ev_put]<;>rfl),(by simp[ev_c,ev_put]<;>rfl),(by simp only[ev_put];rfl)⟩
 ·rintro i s hi ⟨tm,h',T',Z,pcs,rfl,hT',q',oF',oW',g11',g12',oZ,bZ,ln',lz,kz,t2,t3,t9,t10,t11,t12,t38,t39⟩
  have hi':(i:Int)<(r.wants.length:Int):=by omega
  simp -implicitDefEqProofs(maxSteps:=999999)(disch:=first|with_reducible rfl|omega|(simp only[nA,nS,nD]<;>omega)|fail)only[go_sem,t10,t12,t38,t39,hi',cells_of g12']
  have fr:∀{ha hb:H} {Ta Tb:Int},Sq hX p y cs Ta ha→Sq hX p y cs Tb hb→Keeps (fun c=>c=p) ha hb→OwnSl hX ha F 1 (r.faults.map encI)→OwnSl hX ha W 5 (r.wants.map encWt)→OwnSl hX ha Z 3 (pcs.map encPc)→ha.get c11=some (.cells .rw [.int .i64 (r.len:Int),F,W])→ha.get (c11+1)=some (.cells .rw [Z])→
    OwnSl hX hb F 1 (r.faults.map encI)∧OwnSl hX hb W 5 (r.wants.map encWt)∧OwnSl hX hb Z 3 (pcs.map encPc)∧hb.get c11=some (.cells .rw [.int .i64 (r.len:Int),F,W])∧hb.get (c11+1)=some (.cells .rw [Z]):=fun qa qb k o1 o2 o3 g1 g2=>
   ⟨OwnSl.spin o1 qa qb k,OwnSl.spin o2 qa qb k,OwnSl.spin o3 qa qb k,k.2 _ _ g1 (by omega),k.2 _ _ g2 (by omega)⟩
  refine q'.upto (n:=3) (by omega) (by omega) _ fun v1 h7 v10 v11 q7 k7 n7=>?_
  obtain⟨F7,W7,Z7,g117,g127⟩:=fr q' q7 k7 oF' oW' oZ g11' g12'
  simp -implicitDefEqProofs(maxSteps:=999999)(disch:=first|with_reducible rfl|omega|(simp only[nA,nS,nD]<;>omega)|fail)only[go_sem,t10,t12,cells_of g12',cells_of g127]
  refine q7.upto (n:=2) (by omega) (by omega) _ fun v2 h8 v20 v21 q8 k8 n8=>?_
  obtain⟨F8,W8,Z8,g118,g128⟩:=fr q7 q8 k8 F7 W7 Z7 g117 g127
  simp -implicitDefEqProofs(maxSteps:=999999)(disch:=first|with_reducible rfl|omega|(simp only[nA,nS,nD]<;>omega)|fail)only[go_sem,t10,t12,cells_of g12',cells_of g127,cells_of g128]
  refine q8.upto (n:=2) (by omega) (by omega) _ fun v3 h9 v30 v31 q9 k9 n9=>?_
  obtain⟨F9,W9,Z9,g119,g129⟩:=fr q8 q9 k9 F8 W8 Z8 g118 g128
  obtain⟨a1,rfl⟩:=Int.eq_ofNat_of_zero_le v10
  obtain⟨a2,rfl⟩:=Int.eq_ofNat_of_zero_le v20
  obtain⟨a3,rfl⟩:=Int.eq_ofNat_of_zero_le v30
  have sC:=(H.Sub.refl q9.s.wf).add (.cells .rw [.int .i64 (a1:Int),.int .i64 (a2:Int),.int .i64 (a3:Int)])
  have g12C:=sC.cells (cells_of g129)
  simp -implicitDefEqProofs(maxSteps:=999999)(disch:=first|with_reducible rfl|omega|(simp only[nA,nS,nD]<;>omega)|fail)only[go_sem,t10,t12,cells_of g12',cells_of g127,cells_of g128,cells_of g129,g12C]
  have oC:=Z9.mono sC
  have ay:SlAt (h9.add (.cells .rw [.int .i64 (a1:Int),.int .i64 (a2:Int),.int .i64 (a3:Int)])) (.sl h9.next 0 1 (.fix 1)) 3 [encPc ⟨a1,a2,a3⟩]:=SlAt.new _ rfl rfl rfl (by simp[encPc]) (by simp)
  refine oC.app1 (by_:=24) (r:=encPc ⟨a1,a2,a3⟩) sX.wf rfl (by omega) ay rfl (by rw[List.length_map];omega) (by rw[List.length_map];omega) fun hD oD kD nD=>?_
  have g11C:=sC.get g119
  have g12C':=sC.get g129
  have g11D:=kD.2 _ _ g11C (oC.ne g11C)
  have g12D:=kD.2 _ _ g12C' (oC.ne g12C')
  have qC:=q9.mono sC
  have qD:=qC.keep kD (OwnSl.nsp oC qC) oD.1
  have lD:=qD.lt
  have hnC:=H.next_add h9 (.cells .rw [.int .i64 (a1:Int),.int .i64 (a2:Int),.int .i64 (a3:Int)])
  have FD:=(F9.mono sC).keep kD oD.1 fun c hc hd=>by
   have:=(o2F.blk hc).2.1
   have:=bZ c hd
   omega
  have WD:=(W9.mono sC).keep kD oD.1 fun c hc hd=>by
   have:=(o2W.blk hc).2.1
   have:=bZ c hd
   omega
  have bD:∀b,blkOf (V.sl (h9.add (.cells .rw [.int .i64 (a1:Int),.int .i64 (a2:Int),.int .i64 (a3:Int)])).next 0 ((pcs.map encPc).length+1) (.slk 0 0)) b→h2.next≤b:=fun b hb=>by
   obtain⟨_,_,_,e⟩:=hb
   cases e
   omega
  generalize hY:V.sl (H.next _) 0 _ (.slk 0 0)=Y at oD bD⊢
  have y1:Y.one=true:=by rw[←hY];rfl
  have yc:Y.cells=[Y]:=by rw[←hY];rfl
  simp -implicitDefEqProofs(maxSteps:=999999)(disch:=first|with_reducible rfl|omega|(simp only[nA,nS,nD]<;>omega)|fail)only[go_sem,t12,g12D,cells_of g12',cells_of g127,cells_of g128,cells_of g129,g12C,cells_of g12D,y1,yc]
  have kE:Keeps (fun c=>c=c11+1) hD (hD.set (c11+1) (.cells .rw [Y])):=Keeps.set _ _ _
  have gE:(hD.set (c11+1) (.cells .rw [Y])).get (c11+1)=some (.cells .rw [Y]):=get_set_same rfl
  have sE:hX.Sub (hD.set (c11+1) (.cells .rw [Y])):=oD.1.set (by have:=q1.p0;omega) (oD.1.wf _ _ g12D) sX.wf _
  generalize hD.set (c11+1) _=hE at kE gE sE⊢
  have oE:=oD.keep kE sE fun c5 h5 e5=>oD.ne g12D (e5▸h5)
  have FE:=FD.keep kE sE fun c5 h5 e5=>FD.ne g12D (e5▸h5)
  have WE:=WD.keep kE sE fun c5 h5 e5=>WD.ne g12D (e5▸h5)
  have g11E:=kE.2 _ _ g11D (by omega)
  have qE:=qD.keep kE (by omega) sE
  have hk1:=kD.1
  have hk2:=kE.1
  simp -implicitDefEqProofs(maxSteps:=999999)(disch:=first|with_reducible rfl|omega|(simp only[nA,nS,nD]<;>omega)|fail)only[go_sem,t39,wr_succ]
  refine⟨_,_,_,Y,pcs++[⟨a1,a2,a3⟩],rfl,by omega,qE,FE,WE,g11E,gE,by rw[List.map_append];exact oE,bD,by omega,by rw[List.length_append,lz];rfl,fun w hw=>?_,(by simp[ev_c,ev_put,t2]<;>rfl),(by simp[ev_c,ev_put,t3]<;>rfl),(by simp[ev_c,ev_put,t9]<;>rfl),(by simp[ev_c,ev_put,t10]<;>rfl),(by simp[ev_c,ev_put,t11]<;>rfl),(by simp[ev_c,ev_put,t12]<;>rfl),(by simp[ev_c,ev_put,t38]<;>rfl),(by simp[ev_c,ev_put]<;>rfl)⟩
  rcases List.mem_append.1 hw with hw|hw
  ·exact kz w hw
  ·rw[List.mem_singleton] at hw
   subst hw
   exact⟨by show a1<4;omega,by show a2<5;omega,by show a3<3;omega⟩
 ·rintro s ⟨tm,h',T',Z,pcs,rfl,hT',q',oF',oW',g11',g12',oZ,bZ,ln',lz,kz,t2,t3,t9,t10,t11,t12,t38,t39⟩
  have ll:=lk.n
  have en:En h' X l r F W Z pcs c11 (c11+1):=⟨q'.s.wf,((oX.mono q'.s).c.cutO).up fun _ _ _=>trivial,lk,⟨oF'.sl (by rw[List.length_map];omega),oW'.sl (by rw[List.length_map];omega)⟩,k,oZ.sl (by rw[List.length_map];omega),kz,lz,cells_of g11',cells_of g12'⟩
  simp -implicitDefEqProofs(maxSteps:=999999)(disch:=first|with_reducible rfl|omega|(simp only[nA,nS,nD]<;>omega)|fail)only[go_sem,t9,t11,t12,t38,t39,Int.lt_irrefl]
  refine en.earned en.cx (by omega) lk.nd lk.ok (fun x hx=>by have:=lk.p x hx;omega) _ fun h3 s3=>?_
  have e3:=en.mono s3
  have lX:=(e3.cx.sl (by rw[List.length_map];omega)).lenE
  by_cases hz:l=[]
  ·subst hz
   have lX0:q_len X=some (.int .i64 0):=lX
   rw[earnR_nil k lz]
   simp -implicitDefEqProofs(maxSteps:=999999)(disch:=first|with_reducible rfl|omega|(simp only[nA,nS,nD]<;>omega)|fail)only[go_sem,t9,lX0]
   rw[awk10L_eq]
   simp -implicitDefEqProofs(maxSteps:=999999)(disch:=first|with_reducible rfl|omega|(simp only[nA,nS,nD]<;>omega)|fail)only[go_sem]
  ·have hl0:0<l.length:=List.length_pos_iff.2 hz
   have nl0:¬(l.length:Int)=0:=by omega
   simp -implicitDefEqProofs(maxSteps:=999999)(disch:=first|with_reducible rfl|omega|(simp only[nA,nS,nD]<;>omega)|fail)only[go_sem,t9,lX,nl0]
   exact ht e3 hl0 hwh hmo (by simp[ev_c,ev_put,t2]<;>rfl) (by simp[ev_c,ev_put,t3]<;>rfl) (by simp[ev_c,ev_put,t9]<;>rfl) (by simp[ev_c,ev_put]<;>rfl) (by simp[ev_c,ev_put]<;>rfl) _ fun _ _=>rfl
end Go.Ab.Tryz
