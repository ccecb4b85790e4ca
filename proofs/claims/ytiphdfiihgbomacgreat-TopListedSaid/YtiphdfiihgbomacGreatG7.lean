/- Cuts: the values are made. Prices of general rules: Witness, Idle. Prices, plain: lists that rise, rules that are idle or left out. TopListed: a list of rules out of a spool. Cuts: contracts of the small functions; a ribbon is right. Cuts: a ribbon at work. Cuts: the units that a cut takes. Cuts: what a cut earns, and where it leads. Cuts: a loop over the cuts that begin with a unit. Cuts: the values of positions. Cuts: the values are made. -/
import Derived.Test.YtiphdfiihgbomacGreatG6
set_option linter.unusedSimpArgs false
set_option linter.unusedVariables false
namespace Go.Ab
theorem putN_one {cs:List V}{k:Nat}(hk:k<cs.length)(v:V):putN k [v] cs=some (cs.set k v):=by
 rw[putN_eq (by simp)]
 refine⟨?_,by simp only[List.length_singleton];omega⟩
 rw[List.set_eq_take_append_cons_drop,if_pos hk]
 simp
theorem a_msl_nn' {h:H}{by_ n:Nat}{z:List V}(h1:n*by_≤1099511627776)(h2:n≤1099511627776):
  a_msl h by_ z (.int .i64 (n:Int)) (.int .i64 (n:Int))=some (.sl h.next 0 n (.fix n),h.add (.cells .rw (repN n z))):=by
 have e1:Nat.ble (n*by_) 1099511627776=true:=by simpa using h1
 have e2:Nat.ble n 1099511627776=true:=by simpa using h2
 have e3:Nat.ble n n=true:=by simp
 simp only[a_msl,nat_cst,e1,e2,e3,og_true,lf_eq]
theorem repN_1 (v:V):∀n,repN n [v]=List.replicate n v
 |0=>rfl
 |n+1=>by rw[repN,appN_eq,repN_1 v n];rfl
namespace Tryz
theorem oneR4 (l:List Ru):allOne (l.map encR4).flatten=true:=by
 rw[allOne_eq]
 intro v hv
 obtain⟨r,hr,hv⟩:=List.mem_flatten.1 hv
 obtain⟨s,_,rfl⟩:=List.mem_map.1 hr
 simp only[encR4,List.mem_cons,List.not_mem_nil,or_false] at hv
 rcases hv with rfl|rfl|rfl|rfl<;>rfl
set_option maxHeartbeats 2000000 in
theorem witness_ev {F:Nat→Prop}{h:H}{x:V}{l:List Ru}{k:Nat}(hw:h.wf)(cx:CutO F h x 4 (l.map encR4))(hl:l.length≤8)(nd:l.Nodup)(ok:∀r∈l,RuOk r)(hk:k<l.length)(Q:V→H→Prop)
  (q1:(∀i:Nat,i<60→prL l (pcN i)=prL (l.eraseIdx k) (pcN i))→∀h',h.Sub h'→Q (.tup [.agg [.int .i64 0,.int .i64 0,.int .i64 0],.int .i64 6]) h')
  (q2:∀i:Nat,i<60→prL l (pcN i)≠prL (l.eraseIdx k) (pcN i)→∀h',h.Sub h'→Q (.tup [.agg (encPc (pcN i)),.int .i64 0]) h'):
  Ev fnG fastA (.fn 16 [] []) [x,.int .i64 (k:Int)] h Q:=by
 have hx:=cx.sl (by rw[List.length_map];omega)
 refine Ev_body (fd:=c16) rfl rfl rfl ?_
 have s0:=(H.Sub.refl hw).add (.cells .rw [.int .i64 0,.int .i64 0,.int .i64 0])
 have g0:(h.add (.cells .rw [.int .i64 0,.int .i64 0,.int .i64 0])).get h.next=some (.cells .rw [.int .i64 0,.int .i64 0,.int .i64 0]):=get_add_new rfl
 have l0:(h.add (.cells .rw [.int .i64 0,.int .i64 0,.int .i64 0])).next=h.next+1:=H.next_add _ _
 simp -implicitDefEqProofs(maxSteps:=999999)(disch:=first|with_reducible rfl|omega|(simp only[nA,nS,nD]<;>omega)|fail)only[c16,go_sem]
 generalize h.add (.cells .rw [.int .i64 0,.int .i64 0,.int .i64 0])=h0 at s0 g0 l0⊢
 refine pcheck_ev s0.wf (cx.mono s0) hl nd ok _ fun h1 s1=>?_
 have hlen:=hx.lenE
 have w1:wr .i64 ((l.length:Int)-1)=(l.length:Int)-1:=wr_in (by omega) (by omega)
 have w2:wr .i64 ((k:Int)+1)=((k+1:Nat):Int):=by rw[wr_in (by omega) (by omega)];omega
 have hin:inB (k:Int) 0 ((l.length:Int)-1)=true:=decide_eq_true (by omega)
 simp -implicitDefEqProofs(maxSteps:=999999)(disch:=first|with_reducible rfl|omega|(simp only[nA,nS,nD]<;>omega)|fail)only[go_sem,ne_eq,not_true_eq_false,hlen,w1,pin_ev,hin,w2]
 have s01:=s0.trans s1
 have rl:(l.map encR4).length=l.length:=List.length_map _
 refine cloneRule_ev s1.wf (hx.mono s01) (by rw[rl];omega) (by rw[rl];omega) _ fun b h2 s2 lb gb=>?_
 have hzR:∀r∈l.map encR4,r.length=4:=hx.1
 simp -implicitDefEqProofs(maxSteps:=999999)(disch:=first|with_reducible rfl|omega|(simp only[nA,nS,nD]<;>omega)|fail)only[go_sem,w2]
 refine delRule_ev s2.wf hzR (oneR4 l) gb (by rw[rl];exact hk) (by rw[rl];omega) _ fun h3 k3 w3 g3=>?_
 have s13:h1.Sub h3:=k3.sub s2 s1.wf (fun c hc=>by rw[hc];exact lb) w3
 have eR:(l.map encR4).eraseIdx k=(l.eraseIdx k).map encR4:=by rw[List.eraseIdx_eq_take_drop_succ,List.eraseIdx_eq_take_drop_succ,List.map_append,List.map_take,List.map_drop]
 have hel:(l.eraseIdx k).length=l.length-1:=List.length_eraseIdx_of_lt hk
 rw[eR] at g3⊢
 have hzE:∀r∈(l.eraseIdx k).map encR4,r.length=4:=fun r hr=>by
  obtain⟨s,_,rfl⟩:=List.mem_map.1 hr;rfl
 have fE:=flatten_len hzE
 have ay:SlAt h3 (.sl b 0 ((l.eraseIdx k).map encR4).length (.slk 0 0)) 4 ((l.eraseIdx k).map encR4):=⟨hzE,by rw[List.length_map,hel];omega,.inr ⟨b,0,_,_,rfl,.inr (cells_of g3),getN_eq.2 ⟨by rw[List.drop_zero,←fE,List.take_left'];rfl,by rw[List.length_append,fE];omega⟩⟩⟩
 have s03:=s01.trans s13
 have g4:=(s1.trans s13).get g0
 simp -implicitDefEqProofs(maxSteps:=999999)(disch:=first|with_reducible rfl|omega|(simp only[nA,nS,nD]<;>omega)|fail)only[go_sem]
 refine differ_ev w3 (hx.mono s03) ay (by omega) (by omega) _ (fun hall h4 s4=>?_) fun i hi hne h4 s4=>?_
 ·have g5:=s4.get g4
  have lt:=H.lt_next s4.wf g5
  have ss:=(s03.trans s4).set (b:=h.next) (by omega) lt hw (.cells .rw [.int .i64 0,.int .i64 0,.int .i64 0])
  simp -implicitDefEqProofs(maxSteps:=999999)(disch:=first|with_reducible rfl|omega|(simp only[nA,nS,nD]<;>omega)|fail)only[go_sem,g5]
  exact q1 hall _ ss
 ·have g5:=s4.get g4
  have lt:=H.lt_next s4.wf g5
  have ss:=(s03.trans s4).set (b:=h.next) (by omega) lt hw (.cells .rw (encPc (pcN i)))
  have q2':=q2 i hi hne _ ss
  simp only[encPc] at q2'
  simp -implicitDefEqProofs(maxSteps:=999999)(disch:=first|with_reducible rfl|omega|(simp only[nA,nS,nD]<;>omega)|fail)only[go_sem,g5,encPc]
  exact q2'
def busyTo (l:List Ru)(k:Nat)(bz:List Bool):Prop:=bz.length=l.length∧∀(j:Nat) (hj:j<l.length) (hb:j<bz.length),bz[j]=true↔∃i,i<k∧cnts l (pcN i) l[j]=true
def idlI (bz:List Bool):Nat→List Int
 |0=>[]
 |j+1=>idlI bz j++(if(bz[j]?).getD true then[] else[(j:Int)])
theorem idlI_le (bz:List Bool):∀j,(idlI bz j).length≤j
 |0=>by simp[idlI]
 |j+1=>by
  have:=idlI_le bz j
  simp only[idlI,List.length_append]
  split<;>simp<;>omega
theorem idlI_lt {bz:List Bool}{a:Int}:∀{j:Nat},a∈idlI bz j→a<(j:Int)
 |0,h=>by simp[idlI] at h
 |j+1,h=>by
  simp only[idlI,List.mem_append] at h
  rcases h with h|h
  ·have:=idlI_lt h;omega
  ·split at h
   ·simp at h
   ·rw[List.mem_singleton] at h;omega
theorem idlI_mem {bz:List Bool}{k:Nat}(hb:k<bz.length):∀{j:Nat},k<j→((k:Int)∈idlI bz j↔bz[k]=false)
 |0,h=>by omega
 |j+1,h=>by
  simp only[idlI,List.mem_append]
  by_cases e:k=j
  ·subst e
   rw[List.getElem?_eq_getElem hb,Option.getD_some]
   constructor
   ·rintro(h1|h1)
    ·have:=idlI_lt h1;omega
    ·cases hh:bz[k] with
     |false=>rfl
     |true=>rw[hh] at h1;simp at h1
   ·intro hh;right;rw[hh];simp
  ·have ih:=idlI_mem hb (j:=j) (by omega)
   constructor
   ·rintro(h1|h1)
    ·exact ih.1 h1
    ·split at h1
     ·simp at h1
     ·rw[List.mem_singleton] at h1;omega
   ·intro hh;exact .inl (ih.2 hh)
set_option maxHeartbeats 8000000 in
theorem idle_ev {F:Nat→Prop}{h:H}{x:V}{l:List Ru}(hw:h.wf)(cx:CutO F h x 4 (l.map encR4))(hl:l.length≤8)(nd:l.Nodup)(ok:∀r∈l,RuOk r)(Q:V→H→Prop)
  (q:∀y (L:List Int) h',h.Sub h'→SlAt h' y 1 (L.map encI)→(∀(k:Nat) (hk:k<l.length),(k:Int)∈L↔∀i,i<60→cnts l (pcN i) l[k]=false)→Q (.tup [y,.int .i64 0]) h'):
  Ev fnG fastA (.fn 14 [] []) [x] h Q:=by
 have hx:=cx.sl (by rw[List.length_map];omega)
 have x1:=hx.one
 have hlen:=hx.lenE
 refine Ev_body (fd:=c14) rfl rfl rfl ?_
 have s0:=(H.Sub.refl hw).add (.cells .rw [x])
 have g0:(h.add (.cells .rw [x])).get h.next=some (.cells .rw [x]):=get_add_new rfl
 have l0:(h.add (.cells .rw [x])).next=h.next+1:=H.next_add _ _
 simp -implicitDefEqProofs(maxSteps:=999999)(disch:=first|with_reducible rfl|omega|(simp only[nA,nS,nD]<;>omega)|fail)only[c14,go_sem,x1,cells_one x1]
 generalize h.add (.cells .rw [x])=h0 at s0 g0 l0⊢
 refine pcheck_ev s0.wf (cx.mono s0) hl nd ok _ fun h1 s1=>?_
 have w1:=s1.wf
 have g1:=s1.get g0
 have s01:=s0.trans s1
 have n0:Nat.ble 1 1099511627776=true:=rfl
 have am:a_msl h1 1 [V.bool false] (.int .i64 (l.length:Int)) (.int .i64 (l.length:Int))=_:=a_msl_nn' (by omega) (by omega)
 simp -implicitDefEqProofs(maxSteps:=999999)(disch:=first|with_reducible rfl|omega|(simp only[nA,nS,nD]<;>omega)|fail)only[go_sem,ne_eq,not_true_eq_false,cells_of g1,hlen,am]
 obtain⟨h6,hz⟩:∃z,(h1.add (.cells .rw (repN l.length [V.bool false]))).add (.cells .rw [.sl h1.next 0 l.length (.fix l.length)])=z:=⟨_,rfl⟩
 have s6:h1.Sub h6:=by rw[←hz];exact(by repeat(first|assumption|exact H.Sub.refl (by assumption)|refine H.Sub.add ?_ _|refine H.Sub.set ?_ (by first|omega|(simp only[H.next_add,H.next_set,H.next_del]<;>omega)) (by first|omega|(simp only[H.next_add,H.next_set,H.next_del]<;>omega)) (by assumption) _))
 have gb6:h6.get h1.next=some (.cells .rw ((List.replicate l.length false).map V.bool)):=by rw[←hz,repN_1,List.map_replicate];simp -implicitDefEqProofs(maxSteps:=999999)(disch:=first|with_reducible rfl|omega|(simp only[nA,nS,nD]<;>omega)|fail)only[go_sem]
 have g56:h6.get (h1.next+1)=some (.cells .rw [.sl h1.next 0 l.length (.fix l.length)]):=by rw[←hz];simp -implicitDefEqProofs(maxSteps:=999999)(disch:=first|with_reducible rfl|omega|(simp only[nA,nS,nD]<;>omega)|fail)only[go_sem]
 have l6:h6.next=h1.next+2:=by rw[←hz];simp only[H.next_add]
 rw[hz]
 clear hz
 refine pieces_ev _ _ ?_
 simp -implicitDefEqProofs(maxSteps:=999999)(disch:=first|with_reducible rfl|omega|(simp only[nA,nS,nD]<;>omega)|fail)only[go_sem]
 refine W_gen (P:=fun tm=>(Opd.t 1).ev tm=.ptr h.next 0∧(Opd.t 5).ev tm=.ptr (h1.next+1) 0∧(Opd.t 20).ev tm=.fn 51 [] []) ⟨(by simp[ev_c,ev_put]<;>rfl),(by simp[ev_c,ev_put]<;>rfl),(by simp[ev_c,ev_put]<;>rfl)⟩ fun tm ⟨t1,t5,t20⟩=>?_
 refine W_rf t20 ?_
 generalize hr:LoopR.mk _ _ _ _ _ _ _ _ _=r0
 have fB:=congrArg LoopR.body hr
 have fA:=congrArg LoopR.assign hr
 have fN:=congrArg LoopR.n hr
 have fF:=congrArg LoopR.fn hr
 have fP:=congrArg LoopR.ps hr
 have fT:=congrArg LoopR.tm hr
 dsimp only at fB fA fN fF fP fT
 have hrs:r0.st=.ready:=by rw[←hr]
 have hrp:r0.pend=none:=by rw[←hr]
 have w6:=s6.wf
 have lB:(h6.add .dfr).next=h6.next+1:=H.next_add _ _
 obtain⟨I,hI⟩:∃I:Nat→H→Prop,∀k z,I k z↔h1.Sub z∧z.get (h1.next+1)=some (.cells .rw [.sl h1.next 0 l.length (.fix l.length)])∧z.get h6.next=some .dfr∧z.get (h6.next+1)=some (.loop r0)∧∃bz,z.get h1.next=some (.cells .rw (bz.map V.bool))∧busyTo l k bz:=⟨_,fun _ _=>Iff.rfl⟩
 have hI0:I 0 ((h6.add .dfr).add (.loop r0)):=(hI _ _).2 ⟨(s6.add _).add _,by rw[get_add_old (by rw[lB];omega),get_add_old (by omega)];exact g56,by rw[get_add_old (by rw[lB];omega),get_add_new rfl],get_add_new (by rw[lB]),List.replicate l.length false,by rw[get_add_old (by rw[lB];omega),get_add_old (by omega)];exact gb6,by simp,fun j hj hb=>by simp⟩
 refine(pieces1_gen (y:=.yld (h6.next+1)) (ok:=fun _=>True) (I:=I) (S:=fun _ _=>False) (fun k z hk hIz=>?_) hI0).mono fun u h7 hu=>?_
 ·obtain⟨sx,gx5,gxd,gx,bz,gxb,hbz⟩:=(hI _ _).1 hIz
  have wx:=sx.wf
  have lxl:=wx _ _ gx
  refine Ev.gen fun Q2 q2=>?_
  refine Ev_yld (tm:=tm.put (some (.agg (encPc (pcN k)))) 21) gx (by rw[←fP,←fT];rfl) ?_
  rw[←fA,←fN,←fF]
  obtain⟨p,hp⟩:∃p,pcN k=p:=⟨_,rfl⟩
  rw[hp]
  simp only[encPc]
  have sx2:z.Sub (z.add (.cells .rw [.int .i64 (p.b:Int),.int .i64 (p.s:Int),.int .i64 (p.e:Int)])):=(H.Sub.refl wx).add _
  have gw:(z.add (.cells .rw [.int .i64 (p.b:Int),.int .i64 (p.s:Int),.int .i64 (p.e:Int)])).cells z.next=some [.int .i64 (p.b:Int),.int .i64 (p.s:Int),.int .i64 (p.e:Int)]:=cells_add_new rfl
  have lw:(z.add (.cells .rw [.int .i64 (p.b:Int),.int .i64 (p.s:Int),.int .i64 (p.e:Int)])).next=z.next+1:=H.next_add _ _
  simp -implicitDefEqProofs(maxSteps:=999999)(disch:=first|with_reducible rfl|omega|(simp only[nA,nS,nD]<;>omega)|fail)only[go_sem,t1,t5]
  unfold Kasg
  refine⟨rfl,r0,sx2.get gx,hrs,?_⟩
  obtain⟨rb,hrb⟩:∃rb:LoopR,rb={r0 with st:=.busy}:=⟨_,rfl⟩
  have hrb1:({rb with st:=.ready,pend:=none}:LoopR)=r0:=by rw[hrb];exact rLoop hrs hrp
  rw[←hrb,←fB,←fN,←fF]
  have gy5:=sx2.get gx5
  have gyd:=sx2.get gxd
  have gyb:=sx2.get gxb
  generalize z.add (.cells .rw [.int .i64 (p.b:Int),.int .i64 (p.s:Int),.int .i64 (p.e:Int)])=hy1 at sx2 gw lw gy5 gyd gyb⊢
  have sB3:h1.Sub (hy1.set (h6.next+1) (.loop rb)):=(sx.trans sx2).set (by omega) (by omega) w1 _
  have gl3:(hy1.set (h6.next+1) (.loop rb)).get (h6.next+1)=some (.loop rb):=get_set_same rfl
  have cw:(hy1.set (h6.next+1) (.loop rb)).cells z.next=some [.int .i64 (p.b:Int),.int .i64 (p.s:Int),.int .i64 (p.e:Int)]:=by rw[cells_set_other (by omega)];exact gw
  have g53:(hy1.set (h6.next+1) (.loop rb)).get (h1.next+1)=some (.cells .rw [.sl h1.next 0 l.length (.fix l.length)]):=by rw[get_set_other (by omega)];exact gy5
  have gd3:(hy1.set (h6.next+1) (.loop rb)).get h6.next=some .dfr:=by rw[get_set_other (by omega)];exact gyd
  have gb3:(hy1.set (h6.next+1) (.loop rb)).get h1.next=some (.cells .rw (bz.map V.bool)):=by rw[get_set_other (by omega)];exact gyb
  generalize hy1.set (h6.next+1) (.loop rb)=h3 at sB3 gl3 cw g53 gd3 gb3⊢
  simp -implicitDefEqProofs(maxSteps:=999999)(disch:=first|with_reducible rfl|omega|(simp only[nA,nS,nD]<;>omega)|fail)only[go_sem,t1,t5,cells_of (sB3.get g1),cw]
  rw[pieceC]
  refine counts_ev sB3.wf (hx.mono (s01.trans sB3)) (by omega) p _ fun y h4 s4 ay=>?_
  obtain⟨L,hL⟩:∃L,cntI l p l.length=L:=⟨_,rfl⟩
  have hmL:∀(j:Nat) (hj:j<l.length),(j:Int)∈L↔cnts l p l[j]=true:=fun j hj=>by
   rw[←hL]
   constructor
   ·intro hm
    obtain⟨j',hj',_,e,hc⟩:=cntI_mem hm
    have:j=j':=by omega
    subst this;exact hc
   ·exact cntI_has hj hj
  have hbL:∀a∈L,∃j:Nat,j<l.length∧a=(j:Int):=fun a ha=>by
   rw[←hL] at ha
   obtain⟨j,hj,_,e,_⟩:=cntI_mem ha
   exact⟨j,hj,e⟩
  have hLl:L.length≤8:=by have:=cntI_le l p l.length;rw[hL] at this;omega
  rw[hL] at ay
  have hy:=ay.lenE
  simp -implicitDefEqProofs(maxSteps:=999999)(disch:=first|with_reducible rfl|omega|(simp only[nA,nS,nD]<;>omega)|fail)only[go_sem,hy]
  refine W_count L.length (fun m s=>∃(tm':Go.Ab.T V) (h5:H) (bz':List Bool),s=⟨tm',h5,[]⟩∧h1.Sub h5∧Keeps (fun c=>c=h1.next) h4 h5∧h5.get h1.next=some (.cells .rw (bz'.map V.bool))∧bz'.length=l.length∧(∀(j:Nat) (hj:j<l.length) (hb:j<bz'.length),bz'[j]=true↔(∃i,i<k∧cnts l (pcN i) l[j]=true)∨(j:Int)∈L.take m)∧(Opd.t 5).ev tm'=.ptr (h1.next+1) 0∧(Opd.t 24).ev tm'=y∧(Opd.t 25).ev tm'=.int .i64 (L.length:Int)∧(Opd.t 26).ev tm'=.int .i64 (m:Int)) ?_ ?_ (i:=0) (Nat.zero_le _)
   ⟨_,_,bz,rfl,sB3.trans s4,Keeps.refl _ _,s4.get gb3,hbz.1,fun j hj hb=>by rw[hbz.2 j hj hb];simp,(by simp[ev_c,ev_put,t5]<;>rfl),(by simp[ev_c,ev_put]<;>rfl),(by simp[ev_c,ev_put]<;>rfl),(by simp only[ev_put];rfl)⟩
  ·rintro m s hm ⟨tm',h5,bz',rfl,s5,k5,gb5,lb5,hb5,t5',t24,t25,t26⟩
   have hm':(m:Int)<(L.length:Int):=by omega
   have gb4:=s4.get gb3
   have ay5:=SlAt_keep ay k5 fun b hb e=>by
    subst e
    obtain⟨o,n,c,e⟩:=hb
    obtain⟨b',o',c',cs',ey,hc,_,_,_,hn0⟩:=ay.at hm
    rw[ey] at e
    injection e with e1 e2 _ _
    subst e1
    rw[cells_of gb4] at hc
    cases hc
    have hv:=hn0 (by omega)
    rw[nth_get,List.getElem?_map] at hv
    cases hh:bz[o'+m*1]? with
    |none=>rw[hh] at hv;simp[encI] at hv
    |some w=>rw[hh] at hv;simp[encI] at hv
   obtain⟨j,hj,ej⟩:=hbL _ (List.getElem_mem hm)
   obtain⟨b1,o1,c1',cs1,_,hc1,hq1,_,_,hn1⟩:=ay5.at hm
   have v1:nth (o1+m*1) cs1=some (.int .i64 (j:Int)):=by rw[hn1 (by omega),ej];rfl
   have hbl:Nat.blt j l.length=true:=by rw[Nat.blt_eq];exact hj
   have hq:q_iad 1 (.sl h1.next 0 l.length (.fix l.length)) (.int .i64 (j:Int))=some (.ptr h1.next j):=by
    simp only[q_iad,nat_cst,hbl,og_true,Nat.zero_add,Nat.mul_one]
   have g55:=k5.2 _ _ (s4.get g53) (by omega)
   have hput:putN j [V.bool true] (bz'.map V.bool)=some ((bz'.set j true).map V.bool):=by
    rw[putN_one (by rw[List.length_map];omega),List.map_set]
   have lt:=s5.wf _ _ gb5
   simp -implicitDefEqProofs(maxSteps:=999999)(disch:=first|with_reducible rfl|omega|(simp only[nA,nS,nD]<;>omega)|fail)only[go_sem,t5',t24,t25,t26,hm',hq1 (nat_cst m),hc1,v1,cells_of g55,hq,gb5,hput,wr_succ]
   refine⟨_,_,_,rfl,s5.set (Nat.le_refl _) lt w1 _,(k5.trans (Keeps.set _ _ _)).mono (fun c hc=>hc.elim id id),get_set_same rfl,by rw[List.length_set];exact lb5,fun j' hj' hb'=>?_,(by simp[ev_c,ev_put,t5']<;>rfl),(by simp[ev_c,ev_put,t24]<;>rfl),(by simp[ev_c,ev_put,t25]<;>rfl),(by simp[ev_c,ev_put]<;>rfl)⟩
   rw[List.take_succ_eq_append_getElem hm,List.mem_append,List.mem_singleton,ej,List.getElem_set]
   by_cases e:j=j'
   ·subst e;simp
   ·rw[if_neg e,hb5 j' hj' (by omega)]
    have:¬(j':Int)=(j:Int):=by omega
    simp[this]
  ·rintro s ⟨tm',h5,bz',rfl,s5,k5,gb5,lb5,hb5,t5',t24,t25,t26⟩
   simp -implicitDefEqProofs(maxSteps:=999999)(disch:=first|with_reducible rfl|omega|(simp only[nA,nS,nD]<;>omega)|fail)only[go_sem,t25,t26,Int.lt_irrefl]
   have gl5:=k5.2 _ _ (s4.get gl3) (by omega)
   have gd5:=k5.2 _ _ (s4.get gd3) (by omega)
   have g55:=k5.2 _ _ (s4.get g53) (by omega)
   have lt:=s5.wf _ _ gl5
   unfold Kround
   refine⟨rb,gl5,q2 _ _ (.inl ⟨trivial,rfl,(hI _ _).2 ⟨s5.set (by omega) lt w1 _,by rw[get_set_other (by omega)];exact g55,by rw[get_set_other (by omega)];exact gd5,by rw[get_set_same rfl,hrb1],bz',by rw[get_set_other (by omega)];exact gb5,lb5,fun j hj hb=>?_⟩⟩)⟩
   rw[hb5 j hj hb,List.take_length,hmL j hj]
   constructor
   ·rintro(⟨i,hi,hc⟩|hc)
    ·exact⟨i,by omega,hc⟩
    ·exact⟨k,by omega,by rw[hp];exact hc⟩
   ·rintro⟨i,hi,hc⟩
    by_cases e:i=k
    ·subst e;rw[hp] at hc;exact .inr hc
    ·exact .inl ⟨i,by omega,hc⟩
 ·rcases hu with⟨_,hI7⟩|⟨_,_,hf,_⟩
  ·obtain⟨s7,g57,gd7,gl7,bz,gb7,lbz,hbz⟩:=(hI _ _).1 hI7
   refine⟨r0,gl7,by rw[hrs];simp,?_⟩
   rw[hrp]
   have lt7:=s7.wf _ _ gl7
   have s77:h1.Sub (h7.set (h6.next+1) (.loop {r0 with st:=.exhausted})):=s7.set (by omega) lt7 w1 _
   have g577:(h7.set (h6.next+1) (.loop {r0 with st:=.exhausted})).get (h1.next+1)=some (.cells .rw [.sl h1.next 0 l.length (.fix l.length)]):=by rw[get_set_other (by omega)];exact g57
   have d77:(h7.set (h6.next+1) (.loop {r0 with st:=.exhausted})).get h6.next=some .dfr:=by rw[get_set_other (by omega)];exact gd7
   have gb77:(h7.set (h6.next+1) (.loop {r0 with st:=.exhausted})).get h1.next=some (.cells .rw (bz.map V.bool)):=by rw[get_set_other (by omega)];exact gb7
   rw[hrp] at s77 g577 d77 gb77
   generalize h7.set (h6.next+1) _=h8 at s77 g577 d77 gb77⊢
   simp -implicitDefEqProofs(maxSteps:=999999)(disch:=first|with_reducible rfl|omega|(simp only[nA,nS,nD]<;>omega)|fail)only[go_sem,t1,t5,cells_of g577]
   have hdl:=s01.next
   have ld:=H.lt_next s77.wf d77
   refine W_count l.length (fun j s=>∃(tm':Go.Ab.T V) (h9:H) (Z:V),s=⟨tm',h9,[h6.next]⟩∧OwnSl h8 h9 Z 1 ((idlI bz j).map encI)∧(Opd.t 9).ev tm'=Z∧(Opd.t 34).ev tm'=.sl h1.next 0 l.length (.fix l.length)∧(Opd.t 35).ev tm'=.int .i64 (l.length:Int)∧(Opd.t 36).ev tm'=.int .i64 (j:Int)) ?_ ?_ (i:=0) (Nat.zero_le _)
    ⟨_,_,.nils,rfl,OwnSl.nil (H.Sub.refl s77.wf) 1,(by simp[ev_c,ev_put]<;>rfl),(by simp[ev_c,ev_put]<;>rfl),(by simp[ev_c,ev_put]<;>rfl),(by simp only[ev_put];rfl)⟩
   ·rintro j s hj ⟨tm',h9,Z,rfl,oZ,t9,t34,t35,t36⟩
    have hj':(j:Int)<(l.length:Int):=by omega
    have hbl:Nat.blt j l.length=true:=by rw[Nat.blt_eq];exact hj
    have hq:q_iad 1 (.sl h1.next 0 l.length (.fix l.length)) (.int .i64 (j:Int))=some (.ptr h1.next j):=by
     simp only[q_iad,nat_cst,hbl,og_true,Nat.zero_add,Nat.mul_one]
    have hjb:j<bz.length:=by omega
    have v1:nth j (bz.map V.bool)=some (.bool bz[j]):=by rw[nth_get,List.getElem?_map,List.getElem?_eq_getElem hjb];rfl
    have g9:=oZ.1.cells (cells_of gb77)
    have hle:=idlI_le bz j
    have es:idlI bz (j+1)=idlI bz j++(if bz[j] then[] else[(j:Int)]):=by
     simp only[idlI,List.getElem?_eq_getElem hjb,Option.getD_some]
    cases hb:bz[j] with
    |true=>
     rw[hb] at v1 es
     simp -implicitDefEqProofs(maxSteps:=999999)(disch:=first|with_reducible rfl|omega|(simp only[nA,nS,nD]<;>omega)|fail)only[go_sem,t34,t35,t36,hj',hq,g9,v1,wr_succ]
     exact⟨_,_,Z,rfl,by rw[es,if_pos rfl,List.append_nil];exact oZ,(by simp[ev_c,ev_put,t9]<;>rfl),(by simp[ev_c,ev_put,t34]<;>rfl),(by simp[ev_c,ev_put,t35]<;>rfl),(by simp[ev_c,ev_put]<;>rfl)⟩
    |false=>
     rw[hb] at v1 es
     simp -implicitDefEqProofs(maxSteps:=999999)(disch:=first|with_reducible rfl|omega|(simp only[nA,nS,nD]<;>omega)|fail)only[go_sem,t9,t34,t35,t36,hj',hq,g9,v1]
     have sB:=(H.Sub.refl oZ.1.wf).add (.cells .rw [.int .i64 (j:Int)])
     refine(oZ.mono sB).app1 (by_:=8) (r:=encI (j:Int)) s77.wf rfl (by omega) own1_lit rfl (by rw[List.length_map];omega) (by rw[List.length_map];omega) fun hA oA kA nA=>?_
     rw[H.next_add] at oA
     simp -implicitDefEqProofs(maxSteps:=999999)(disch:=first|with_reducible rfl|omega|(simp only[nA,nS,nD]<;>omega)|fail)only[go_sem,t36,wr_succ]
     exact⟨_,_,_,rfl,by rw[es,if_neg (by simp),List.map_append];exact oA,(by simp[ev_c,ev_put]<;>rfl),(by simp[ev_c,ev_put,t34]<;>rfl),(by simp[ev_c,ev_put,t35]<;>rfl),(by simp[ev_c,ev_put]<;>rfl)⟩
   ·rintro s ⟨tm',h9,Z,rfl,oZ,t9,t34,t35,t36⟩
    have d9:=oZ.1.get d77
    have hle:=idlI_le bz l.length
    have aZ:=oZ.sl (by rw[List.length_map];omega)
    have kd:Keeps (fun c=>c=h6.next) h9 (h9.del h6.next):=⟨by rw[H.next_del];exact Nat.le_refl _,fun c y e n=>by rw[get_del_other n];exact e⟩
    simp -implicitDefEqProofs(maxSteps:=999999)(disch:=first|with_reducible rfl|omega|(simp only[nA,nS,nD]<;>omega)|fail)only[go_sem,t9,t35,t36,Int.lt_irrefl,Kfin_ret1 _ _ _ d9]
    refine q _ _ _ ((s01.trans (s77.trans oZ.1)).del (by omega) hw) (SlAt_keep aZ kd fun b hb e=>by have:=(oZ.blk hb).1;omega) fun k hk=>?_
    rw[idlI_mem (by omega) (by omega),←Bool.not_eq_true,hbz k hk (by omega)]
    constructor
    ·intro hn i hi
     cases hc:cnts l (pcN i) l[k] with
     |false=>rfl
     |true=>exact absurd ⟨i,hi,hc⟩ hn
    ·rintro ha ⟨i,hi,hc⟩
     rw[ha i hi] at hc;cases hc
  ·exact absurd trivial hf
end Tryz
end Go.Ab
namespace Go.Ab.Tryz
theorem fmax {L:List Int}:∀{a:Int},0≤a→L.foldl max a=max a (L.foldl max 0):=by
 induction L with
 |nil=>intro a h;simp;omega
 |cons x L ih=>
  intro a h
  rw[List.foldl_cons,List.foldl_cons,ih (a:=max a x) (by omega),ih (a:=max 0 x) (by omega)]
  omega
theorem manyR_nn (r:Ru):0≤manyR r:=by have:=manyTo_bd r 3;rw[manyTo3] at this;exact this.1
theorem fmax_nn (L:List Int):0≤L.foldl max 0:=by
 have:∀(L:List Int) (a:Int),0≤a→0≤L.foldl max a:=by
  intro L
  induction L with
  |nil=>intro a h;exact h
  |cons x L ih=>intro a h;exact ih _ (by omega)
 exact this L 0 (by omega)
theorem heldL_split (A B:List Ru)(p:Pc):heldL (A++B) p=heldL A p++heldL B p:=by simp[heldL,List.filter_append]
theorem heldL_cons (r:Ru)(B:List Ru)(p:Pc):heldL (r::B) p=(if holdsR r p then[manyR r] else[])++heldL B p:=by
 by_cases h:holdsR r p=true<;>simp[heldL,List.filter_cons,h]
theorem mostR_mid (A B:List Ru)(r:Ru)(p:Pc):mostR (A++r::B) p=if holdsR r p then max (mostR (A++B) p) (manyR r) else mostR (A++B) p:=by
 unfold mostR
 rw[heldL_split,heldL_split,heldL_cons]
 by_cases h:holdsR r p=true
 ·rw[if_pos h,if_pos h,List.foldl_append,List.foldl_append,List.foldl_append]
  have h1:=fmax_nn (heldL A p)
  have h2:=manyR_nn r
  simp only[List.foldl_cons,List.foldl_nil]
  rw[fmax (a:=max ((heldL A p).foldl max 0) (manyR r)) (by omega),fmax (a:=(heldL A p).foldl max 0) h1]
  omega
 ·rw[if_neg h,if_neg h];rfl
theorem cnts_no {A B:List Ru}{r:Ru}{p:Pc}(h:cnts (A++r::B) p r=false):mostR (A++r::B) p=mostR (A++B) p:=by
 rw[mostR_mid]
 by_cases hh:holdsR r p=true
 ·rw[if_pos hh]
  simp only[cnts,hh,Bool.true_and,decide_eq_false_iff_not] at h
  rw[mostR_mid,if_pos hh] at h
  omega
 ·rw[if_neg hh]
theorem cnts_of {l l':List Ru}{p:Pc}(h:mostR l p=mostR l' p):cnts l p=cnts l' p:=by funext r;simp only[cnts,h]
theorem ps_mid {A B:List Ru}{r:Ru}{p:Pc}(h:cnts (A++r::B) p r=false):psL (A++r::B) p=psL (A++B) p:=by
 unfold psL
 have hc:=cnts_of (cnts_no h)
 rw[←hc,List.filter_append,List.filter_append,List.filter_cons,h]
 simp
theorem pr_of {l l':List Ru}{p:Pc}(h:psL l p=psL l' p):prL l p=prL l' p:=by unfold prL;rw[h]
theorem mid_eq {l:List Ru}{k:Nat}(hk:k<l.length):l=l.take k++l[k]::l.drop (k+1):=by rw[←List.drop_eq_getElem_cons hk,List.take_append_drop]
theorem erase_eq' (l:List Ru)(k:Nat):l.eraseIdx k=l.take k++l.drop (k+1):=List.eraseIdx_eq_take_drop_succ l k
theorem set_eq' {l:List Ru}{k:Nat}(hk:k<l.length)(r:Ru):l.set k r=l.take k++r::l.drop (k+1):=by rw[List.set_eq_take_append_cons_drop,if_pos hk]
theorem prL_erase {l:List Ru}{k:Nat}(hk:k<l.length){p:Pc}(h:cnts l p l[k]=false):prL (l.eraseIdx k) p=prL l p:=by
 have e:=mid_eq hk
 rw[erase_eq']
 refine pr_of ?_
 conv=>rhs;rw[e]
 refine(ps_mid ?_).symm
 rw[←e];exact h
def setP (r:Ru)(v:Int):Ru:={r with p:=v}
theorem holds_setP (r:Ru)(v:Int)(p:Pc):holdsR (setP r v) p=holdsR r p:=rfl
theorem many_setP (r:Ru)(v:Int):manyR (setP r v)=manyR r:=rfl
theorem prL_set {l:List Ru}{k:Nat}(hk:k<l.length){p:Pc}(h:cnts l p l[k]=false)(v:Int):prL (l.set k (setP l[k] v)) p=prL l p:=by
 have e:=mid_eq hk
 rw[←prL_erase hk h,set_eq' hk,erase_eq']
 refine pr_of (ps_mid ?_)
 have hm:mostR (l.take k++setP l[k] v::l.drop (k+1)) p=mostR l p:=by
  rw[mostR_mid,holds_setP,many_setP]
  conv=>rhs;rw[e,mostR_mid]
 simp only[cnts,hm,holds_setP,many_setP] at h⊢
 exact h
def upP (d:Int)(r:Ru):Ru:=setP r (r.p+d)
theorem ps_up (l:List Ru)(d:Int)(p:Pc):psL (l.map (upP d)) p=(psL l p).map (· +d):=by
 have hh:heldL (l.map (upP d)) p=heldL l p:=by
  simp only[heldL,List.filter_map,List.map_map]
  rfl
 have hm:mostR (l.map (upP d)) p=mostR l p:=by unfold mostR;rw[hh]
 have hc:(cnts (l.map (upP d)) p)∘ (upP d)=cnts l p:=by
  funext r
  show(holdsR (upP d r) p&&decide (manyR (upP d r)=mostR (l.map (upP d)) p))=_
  rw[hm];rfl
 unfold psL
 rw[List.filter_map,hc,List.map_map,List.map_map]
 rfl
theorem prL_up (l:List Ru){d:Int}(hd:0≤d)(p:Pc):(prL l p).1≤(prL (l.map (upP d)) p).1:=by
 unfold prL
 rw[ps_up]
 cases psL l p with
 |nil=>simp
 |cons x t=>
  simp only[List.map_cons,List.all_map]
  have:((fun y=>decide (y=x+d))∘ fun y=>y+d)=fun y=>decide (y=x):=by
   funext y
   show decide (y+d=x+d)=decide (y=x)
   rw[decide_eq_decide];omega
  rw[this]
  split
  ·show x≤x+d;omega
  ·show(0:Int)≤0;omega
theorem prL_bd {l:List Ru}{M:Int}(h:∀r∈l,0≤r.p∧r.p≤M)(hM:0≤M)(p:Pc):(0≤(prL l p).1∧(prL l p).1≤M)∧((prL l p).2=0∨(prL l p)=(0,6)∨(prL l p)=(0,7)):=by
 have hps:∀x∈psL l p,0≤x∧x≤M:=fun x hx=>by
  simp only[psL,List.mem_map,List.mem_filter] at hx
  obtain⟨r,⟨hr,_⟩,rfl⟩:=hx
  exact h r hr
 unfold prL
 cases hp:psL l p with
 |nil=>exact⟨⟨by simp,by simpa using hM⟩,.inr (.inl rfl)⟩
 |cons x t=>
  rw[hp] at hps
  have:=hps x (by simp)
  dsimp only
  split
  ·exact⟨this,.inl rfl⟩
  ·exact⟨⟨by simp,by simpa using hM⟩,.inr (.inr rfl)⟩
end Go.Ab.Tryz
namespace Go.Ab.Tryz
structure Sq (h0:H)(p:Nat)(y:V)(bs:List Int)(T:Int)(h:H):Prop where
 w0:h0.wf
 hy:SlAt h0 y 1 (bs.map encU8)
 p0:h0.next≤p
 s:h0.Sub h
 sp:SpAt h p y T
 T:0≤T∧T≤1000
theorem Sq.lt {h0 h:H}{p:Nat}{y:V}{bs:List Int}{T:Int}(a:Sq h0 p y bs T h):p<h.next:=by
 obtain⟨st,g⟩:=a.sp
 exact H.lt_next a.s.wf g
theorem Sq.mono {h0 h h':H}{p:Nat}{y:V}{bs:List Int}{T:Int}(a:Sq h0 p y bs T h)(s:h.Sub h'):Sq h0 p y bs T h':=⟨a.w0,a.hy,a.p0,a.s.trans s,a.sp.mono s,a.T⟩
theorem Sq.keep {h0 h h':H}{p:Nat}{y:V}{bs:List Int}{T:Int}{S:Nat→Prop}(a:Sq h0 p y bs T h)(k:Keeps S h h')(n:¬S p)(s:h0.Sub h'):Sq h0 p y bs T h':=⟨a.w0,a.hy,a.p0,s,a.sp.keep k n,a.T⟩
theorem Sq.upto {h0 h:H}{p:Nat}{y:V}{bs:List Int}{T:Int}(a:Sq h0 p y bs T h)(hT:T<1000){n:Int}(hn:0≤n∧n≤1000000)(Q:V→H→Prop)
  (q:∀r h',0≤r→r≤n→Sq h0 p y bs (T+1) h'→Keeps (fun c=>c=p) h h'→h'.next=h.next→Q (.int .i64 r) h'):Ev fnG fastA (.fn 7 [] []) [.ptr p 0,.int .i64 n] h Q:=
 Upto_ev a.s a.w0 a.hy a.p0 a.sp (by have:=a.T;omega) (by omega) Q fun r h' r0 r1 s' p' k' n'=>q r h' r0 (by omega) ⟨a.w0,a.hy,a.p0,s',p',by have:=a.T;omega⟩ k' n'
theorem Sq.frm {h0 h:H}{p:Nat}{y:V}{bs:List Int}{T:Int}(a:Sq h0 p y bs T h)(hT:T<1000){lo hi:Int}(hlo: -1000≤lo∧lo≤1000)(hhi:lo≤hi∧hi≤1000)(Q:V→H→Prop)
  (q:∀r h',lo≤r→r≤hi→Sq h0 p y bs (T+1) h'→Keeps (fun c=>c=p) h h'→h'.next=h.next→Q (.int .i64 r) h'):Ev fnG fastA (.fn 20 [] []) [.ptr p 0,.int .i64 lo,.int .i64 hi] h Q:=
 From_ev a.s a.w0 a.hy a.p0 a.sp (by have:=a.T;omega) (by omega) (by omega) Q fun r h' r0 r1 s' p' k' n'=>q r h' r0 (by omega) ⟨a.w0,a.hy,a.p0,s',p',by have:=a.T;omega⟩ k' n'
theorem Sq.once {h0 h:H}{p:Nat}{y:V}{bs:List Int}{T:Int}(a:Sq h0 p y bs T h)(hT:T<1000){n:Int}(hn:0≤n∧n≤1000)(Q:V→H→Prop)
  (q:∀t h',Sq h0 p y bs (T+1) h'→Keeps (fun c=>c=p) h h'→h'.next=h.next→Q (.bool t) h'):Ev fnG fastA (.fn 19 [] []) [.ptr p 0,.int .i64 n] h Q:=
 Once_ev a.s a.w0 a.hy a.p0 a.sp (by have:=a.T;omega) (by omega) Q fun t h' s' p' k' n'=>q t h' ⟨a.w0,a.hy,a.p0,s',p',by have:=a.T;omega⟩ k' n'
theorem OwnSl.nsp {h0 h:H}{p:Nat}{y:V}{bs:List Int}{T:Int}{x:V}{sz:Nat}{rows:List (List V)}(o:OwnSl h0 h x sz rows)(q:Sq h0 p y bs T h):¬blkOf x p:=by
 obtain⟨st,gp⟩:=q.sp
 exact o.ne gp
theorem OwnSl.spin {h0 h h':H}{p:Nat}{y:V}{bs:List Int}{T T':Int}{x:V}{sz:Nat}{rows:List (List V)}(o:OwnSl h0 h x sz rows)(q:Sq h0 p y bs T h)(q':Sq h0 p y bs T' h')(k:Keeps (fun c=>c=p) h h'):OwnSl h0 h' x sz rows:=
 o.keep k q'.s fun b hb e=>by subst e;exact OwnSl.nsp o q hb
theorem ru4_feq (r q:Ru):q_feq false 4 (.agg (encR4 r)) (.agg (encR4 q))=some (.bool (decide ([r.b,r.s,r.e,r.p]=[q.b,q.s,q.e,q.p]))):=
 q_feq_map (n:=4) [r.b,r.s,r.e,r.p] [q.b,q.s,q.e,q.p] rfl rfl false
def eqR (r q:Ru):Bool:=decide ([r.b,r.s,r.e,r.p]=[q.b,q.s,q.e,q.p])
theorem indexRule_ev {l:List Ru}{h:H}{x:V}(hw:h.wf)(hx:SlAt h x 4 (l.map encR4))(r:Ru):
  Ev fnG fastA (.fn 38 [] []) [x,.agg (encR4 r)] h fun v h'=>v=.int .i64 (fidx (eqR r) l 0)∧h.Sub h':=by
 have hb:=hx.boundE
 have s0:=(H.Sub.refl hw).add (.cells .rw (encR4 r))
 have g0:(h.add (.cells .rw (encR4 r))).cells h.next=some (encR4 r):=cells_add_new rfl
 have e0:[V.int .i64 r.b,.int .i64 r.s,.int .i64 r.e,.int .i64 r.p]=encR4 r:=rfl
 have hlen:=hx.lenE
 refine Ev_body (fd:=c38) rfl rfl rfl ?_
 simp only[encR4] at s0 g0
 simp -implicitDefEqProofs(maxSteps:=999999)(disch:=first|with_reducible rfl|omega|(simp only[nA,nS,nD]<;>omega)|fail)only[c38,go_sem,hlen,encR4]
 generalize h.add _=h0 at s0 g0⊢
 refine W_count l.length (fun i s=>∃tm h',s=⟨tm,h',[]⟩∧h0.Sub h'∧(Opd.t 0).ev tm=x∧(Opd.t 3).ev tm=.ptr h.next 0∧(Opd.t 7).ev tm=.int .i64 (l.length:Int)∧(Opd.t 8).ev tm=.int .i64 (i:Int)∧fidx (eqR r) l 0=fidx (eqR r) (l.drop i) i)
  ?_ ?_ (i:=0) (Nat.zero_le _) ⟨_,_,rfl,H.Sub.refl s0.wf,(by simp[ev_c,ev_put]<;>rfl),(by simp[ev_c,ev_put]<;>rfl),(by simp[ev_c,ev_put]<;>rfl),(by simp only[ev_put];rfl),rfl⟩
 ·rintro i s hi ⟨tm,h',rfl,hs,t0,t3,t7,t8,e9⟩
  have hi':(i:Int)<(l.length:Int):=by omega
  obtain⟨b,o,c,cs,_,hc,hq,hg,hn,hn0⟩:=(hx.mono (s0.trans hs)).at hi
  have g3:=hs.cells g0
  have fq:=ru4_feq r l[i]
  simp only[encR4] at fq hg
  have hd:decide ([r.b,r.s,r.e,r.p]=[l[i].b,l[i].s,l[i].e,l[i].p])=eqR r l[i]:=rfl
  rw[hd] at fq
  cases hpr:eqR r l[i] with
  |true=>
   rw[hpr] at fq
   simp -implicitDefEqProofs(maxSteps:=999999)(disch:=first|with_reducible rfl|omega|(simp only[nA,nS,nD]<;>omega)|fail)only[go_sem,t0,t3,t7,t8,hi',hq (nat_cst i),hc,hg,g3,fq]
   exact⟨by rw[e9,fidx_hit hi hpr],s0.trans hs⟩
  |false=>
   rw[hpr] at fq
   simp -implicitDefEqProofs(maxSteps:=999999)(disch:=first|with_reducible rfl|omega|(simp only[nA,nS,nD]<;>omega)|fail)only[go_sem,t0,t3,t7,t8,hi',hq (nat_cst i),hc,hg,g3,fq,wr_succ]
   exact⟨_,_,rfl,hs,(by simp[ev_c,ev_put,t0]<;>rfl),(by simp[ev_c,ev_put,t3]<;>rfl),(by simp[ev_c,ev_put,t7]<;>rfl),(by simp[ev_c,ev_put]<;>rfl),by rw[e9,fidx_miss hi hpr]⟩
 ·rintro s ⟨tm,h',rfl,hs,t0,t3,t7,t8,e9⟩
  simp -implicitDefEqProofs(maxSteps:=999999)(disch:=first|with_reducible rfl|omega|(simp only[nA,nS,nD]<;>omega)|fail)only[go_sem,t0,t7,t8,Int.lt_irrefl]
  exact⟨by rw[e9];simp[fidx],s0.trans hs⟩
theorem hasRule_ev {l:List Ru}{h:H}{x:V}(hw:h.wf)(hx:SlAt h x 4 (l.map encR4))(r:Ru)(Q:V→H→Prop)(q:∀h',h.Sub h'→Q (.bool (l.any (eqR r))) h'):
  Ev fnG fastA (.fn 21 [] []) [x,.agg (encR4 r)] h Q:=by
 have s0:=(H.Sub.refl hw).add (.cells .rw (encR4 r))
 refine Ev_body (fd:=c21) rfl rfl rfl ?_
 simp only[encR4] at s0
 simp -implicitDefEqProofs(maxSteps:=999999)(disch:=first|with_reducible rfl|omega|(simp only[nA,nS,nD]<;>omega)|fail)only[c21,go_sem,encR4]
 generalize h.add _=h0 at s0⊢
 have e0:[V.int .i64 r.b,.int .i64 r.s,.int .i64 r.e,.int .i64 r.p]=encR4 r:=rfl
 rw[e0]
 refine(indexRule_ev s0.wf (hx.mono s0) r).mono fun v h' hv=>?_
 obtain⟨rfl,hs⟩:=hv
 simp -implicitDefEqProofs(maxSteps:=999999)(disch:=first|with_reducible rfl|omega|(simp only[nA,nS,nD]<;>omega)|fail)only[go_sem]
 rw[fidx_any]
 exact q _ (s0.trans hs)
theorem part_ev {h0 h:H}{p c2:Nat}{y:V}{bs:List Int}{T:Int}(a:Sq h0 p y bs T h)(hT:T≤900)(g2:h.get c2=some (.cells .rw [.ptr p 0]))(n2:c2≠p){most:Int}(hm:0≤most∧most≤10)(Q:V→H→Prop)
  (q:∀r h' T', -1≤r→r≤most→T'≤T+2→Sq h0 p y bs T' h'→Keeps (fun c=>c=p) h h'→h'.next=h.next→Q (.int .i64 r) h'):Ev fnG fastA (.fn 18 [] []) [.int .i64 most,.ptr c2 0] h Q:=by
 refine Ev_body (fd:=c18) rfl rfl rfl ?_
 simp -implicitDefEqProofs(maxSteps:=999999)(disch:=first|with_reducible rfl|omega|(simp only[nA,nS,nD]<;>omega)|fail)only[c18,go_sem,cells_of g2]
 refine a.once (n:=2) (by omega) (by omega) _ fun t h1 q1 k1 n1=>?_
 cases t with
 |true=>
  simp -implicitDefEqProofs(maxSteps:=999999)(disch:=first|with_reducible rfl|omega|(simp only[nA,nS,nD]<;>omega)|fail)only[go_sem]
  exact q _ _ _ (by omega) (by omega) (by omega) q1 k1 n1
 |false=>
  have g3:=k1.2 _ _ g2 n2
  simp -implicitDefEqProofs(maxSteps:=999999)(disch:=first|with_reducible rfl|omega|(simp only[nA,nS,nD]<;>omega)|fail)only[go_sem,cells_of g3]
  refine q1.upto (by omega) (by omega) _ fun r h3 r0 r1 q3 k3 n3=>?_
  simp -implicitDefEqProofs(maxSteps:=999999)(disch:=first|with_reducible rfl|omega|(simp only[nA,nS,nD]<;>omega)|fail)only[go_sem]
  exact q _ _ _ (by omega) (by omega) (by omega) q3 ((k1.trans k3).mono fun c hc=>hc.elim id id) (by omega)
structure ListOk (l:List Ru):Prop where
 n:l.length≤7
 nd:l.Nodup
 ok:∀r∈l,RuOk r
 p:∀r∈l,10≤r.p∧r.p≤14
set_option maxHeartbeats 4000000 in
theorem MadeR_ev {h0 h:H}{p:Nat}{y:V}{bs:List Int}{T:Int}(a:Sq h0 p y bs T h)(hT:T≤100)(Q:V→H→Prop)
  (q:∀X l h',h0.Sub h'→OwnSl h0 h' X 4 (l.map encR4)→ListOk l→Q X h'):Ev fnG fastA (.fn 4 [] []) [.ptr p 0,.int .i64 7] h Q:=by
 have hw:=a.s.wf
 have l0:=a.s.next
 have lp:=a.lt
 refine Ev_body (fd:=c4) rfl rfl rfl ?_
 have q2:=a.mono ((H.Sub.refl hw).add (.cells .rw [.ptr p 0]))
 have g2:(h.add (.cells .rw [.ptr p 0])).get h.next=some (.cells .rw [.ptr p 0]):=get_add_new rfl
 simp -implicitDefEqProofs(maxSteps:=999999)(disch:=first|with_reducible rfl|omega|(simp only[nA,nS,nD]<;>omega)|fail)only[c4,go_sem]
 generalize h.add (.cells .rw [.ptr p 0])=h2 at q2 g2⊢
 refine q2.upto (n:=7) (by omega) (by omega) _ fun n h3 n0 n1 q3 k3 n3=>?_
 have g3:=k3.2 _ _ g2 (by omega)
 obtain⟨nn,rfl⟩:=Int.eq_ofNat_of_zero_le n0
 simp -implicitDefEqProofs(maxSteps:=999999)(disch:=first|with_reducible rfl|omega|(simp only[nA,nS,nD]<;>omega)|fail)only[go_sem]
 refine W_count nn (fun i s=>∃(tm':Go.Ab.T V) (h':H) (T':Int) (X:V) (l:List Ru),s=⟨tm',h',[]⟩∧T'≤T+1+10*(i:Int)∧l.length≤i∧l.Nodup∧(∀r∈l,RuOk r)∧(∀r∈l,10≤r.p∧r.p≤14)∧Sq h0 p y bs T' h'∧h'.get h.next=some (.cells .rw [.ptr p 0])∧OwnSl h0 h' X 4 (l.map encR4)∧(Opd.t 2).ev tm'=.ptr h.next 0∧(Opd.t 5).ev tm'=X∧(Opd.t 6).ev tm'=.fn 18 [] [.ptr h.next 0]∧(Opd.t 11).ev tm'=.int .i64 (nn:Int)∧(Opd.t 12).ev tm'=.int .i64 (i:Int)) ?_ ?_ (i:=0) (Nat.zero_le _)
  ⟨_,_,_,.nils,[],rfl,by omega,Nat.le_refl _,List.nodup_nil,by simp,by simp,q3,g3,OwnSl.nil q3.s 4,(by simp[ev_c,ev_put]<;>rfl),(by simp[ev_c,ev_put]<;>rfl),(by simp[ev_c,ev_put]<;>rfl),(by simp[ev_c,ev_put]<;>rfl),(by simp only[ev_put];rfl)⟩
 ·rintro i s hi ⟨tm',h',T',X,l,rfl,hT',hl,nd,ok,hp,q',g',oX,t2,t5,t6,t11,t12⟩
  have hi':(i:Int)<(nn:Int):=by omega
  have c0:=cells_of g'
  simp -implicitDefEqProofs(maxSteps:=999999)(disch:=first|with_reducible rfl|omega|(simp only[nA,nS,nD]<;>omega)|fail)only[go_sem,t2,t6,t11,t12,hi',c0]
  rw[Ev_fn]
  refine part_ev q' (by omega) g' (by omega) (most:=3) (by omega) _ fun r1 h4 T4 r10 r11 e4 q4 k4 n4=>?_
  have g4:=k4.2 _ _ g' (by omega)
  have c4:=cells_of g4
  simp -implicitDefEqProofs(maxSteps:=999999)(disch:=first|with_reducible rfl|omega|(simp only[nA,nS,nD]<;>omega)|fail)only[go_sem,t2,t6,t11,t12,c0,c4]
  rw[Ev_fn]
  refine part_ev q4 (by omega) g4 (by omega) (most:=2) (by omega) _ fun r2 h5 T5 r20 r21 e5 q5 k5 n5=>?_
  have g5:=k5.2 _ _ g4 (by omega)
  have c5:=cells_of g5
  simp -implicitDefEqProofs(maxSteps:=999999)(disch:=first|with_reducible rfl|omega|(simp only[nA,nS,nD]<;>omega)|fail)only[go_sem,t2,t6,t11,t12,c0,c4,c5]
  rw[Ev_fn]
  refine part_ev q5 (by omega) g5 (by omega) (most:=2) (by omega) _ fun r3 h6 T6 r30 r31 e6 q6 k6 n6=>?_
  have g6:=k6.2 _ _ g5 (by omega)
  have c6:=cells_of g6
  simp -implicitDefEqProofs(maxSteps:=999999)(disch:=first|with_reducible rfl|omega|(simp only[nA,nS,nD]<;>omega)|fail)only[go_sem,t2,t6,t11,t12,c0,c4,c5,c6]
  refine q6.frm (lo:=10) (hi:=14) (by omega) (by omega) (by omega) _ fun r4 h7 r40 r41 q7 k7 n7=>?_
  have g7:=k7.2 _ _ g6 (by omega)
  have o7:=OwnSl.spin (OwnSl.spin (OwnSl.spin (OwnSl.spin oX q' q4 k4) q4 q5 k5) q5 q6 k6) q6 q7 k7
  have c7:=cells_of g7
  have sA:=(H.Sub.refl q7.s.wf).add (.cells .rw (encR4 ⟨r1,r2,r3,r4⟩))
  have cA:(h7.add (.cells .rw (encR4 ⟨r1,r2,r3,r4⟩))).cells h7.next=some (encR4 ⟨r1,r2,r3,r4⟩):=cells_add_new rfl
  have qA:=q7.mono sA
  have gA:=sA.get g7
  have oA:=o7.mono sA
  simp only[encR4] at sA cA qA gA oA
  simp -implicitDefEqProofs(maxSteps:=999999)(disch:=first|with_reducible rfl|omega|(simp only[nA,nS,nD]<;>omega)|fail)only[go_sem,t2,t5,c0,c4,c5,c6,c7]
  generalize h7.add _=hA at sA cA qA gA oA⊢
  have e0:[V.int .i64 r1,.int .i64 r2,.int .i64 r3,.int .i64 r4]=encR4 ⟨r1,r2,r3,r4⟩:=rfl
  rw[e0]
  have oA':OwnSl h0 hA X 4 (l.map encR4):=oA
  refine hasRule_ev qA.s.wf (oA'.sl (by rw[List.length_map];omega)) _ _ fun h8 s8=>?_
  have q8:=qA.mono s8
  have g8:=s8.get gA
  have o8:=oA'.mono s8
  have c8:=s8.cells cA
  cases hany:l.any (eqR ⟨r1,r2,r3,r4⟩) with
  |true=>
   simp -implicitDefEqProofs(maxSteps:=999999)(disch:=first|with_reducible rfl|omega|(simp only[nA,nS,nD]<;>omega)|fail)only[go_sem,t12,wr_succ]
   exact⟨_,_,_,X,l,rfl,by omega,by omega,nd,ok,hp,q8,g8,o8,(by simp[ev_c,ev_put,t2]<;>rfl),(by simp[ev_c,ev_put,t5]<;>rfl),(by simp[ev_c,ev_put,t6]<;>rfl),(by simp[ev_c,ev_put,t11]<;>rfl),(by simp[ev_c,ev_put]<;>rfl)⟩
  |false=>
   simp -implicitDefEqProofs(maxSteps:=999999)(disch:=first|with_reducible rfl|omega|(simp only[nA,nS,nD]<;>omega)|fail)only[go_sem,t5,c8]
   have hni:(⟨r1,r2,r3,r4⟩:Ru) ∉l:=fun hm=>by
    have:l.any (eqR ⟨r1,r2,r3,r4⟩)=true:=List.any_eq_true.2 ⟨_,hm,by simp[eqR]⟩
    rw[hany] at this;cases this
   have sB:=(H.Sub.refl s8.wf).add (.cells .rw [.int .i64 r1,.int .i64 r2,.int .i64 r3,.int .i64 r4])
   refine(o8.mono sB).app1 (by_:=32) (r:=encR4 ⟨r1,r2,r3,r4⟩) a.w0 rfl (by omega) (SlAt.new _ rfl rfl (by simp[encR4]) (by simp[encR4]) (by simp)) rfl (by rw[List.length_map];omega) (by rw[List.length_map];omega) fun h9 o9 k9 n9=>?_
   have q9:=(q8.mono sB).keep k9 (OwnSl.nsp (o8.mono sB) (q8.mono sB)) o9.1
   have g9:=k9.2 _ _ (sB.get g8) ((o8.mono sB).ne (sB.get g8))
   rw[H.next_add] at o9
   have o9':OwnSl h0 h9 (.sl (h8.next+1) 0 ((l.map encR4).length+1) (.slk 0 0)) 4 ((l++[(⟨r1,r2,r3,r4⟩:Ru)]).map encR4):=by rw[List.map_append];exact o9
   simp -implicitDefEqProofs(maxSteps:=999999)(disch:=first|with_reducible rfl|omega|(simp only[nA,nS,nD]<;>omega)|fail)only[go_sem,t12,wr_succ]
   refine⟨_,_,_,_,_,rfl,by omega,by simp only[List.length_append,List.length_singleton];omega,?_,fun r hr=>?_,fun r hr=>?_,q9,g9,o9',(by simp[ev_c,ev_put,t2]<;>rfl),(by simp[ev_c,ev_put]<;>rfl),(by simp[ev_c,ev_put,t6]<;>rfl),(by simp[ev_c,ev_put,t11]<;>rfl),(by simp[ev_c,ev_put]<;>rfl)⟩
   ·rw[List.nodup_append]
    exact⟨nd,by simp,fun a ha b hb=>by rw[List.mem_singleton] at hb;subst hb;intro e;subst e;exact hni ha⟩
   ·rcases List.mem_append.1 hr with hr|hr
    ·exact ok r hr
    ·rw[List.mem_singleton] at hr;subst hr
     exact⟨⟨r10,r11⟩,⟨r20,(by omega:r2≤4)⟩,⟨r30,r31⟩,⟨(by omega:0≤r4),(by omega:r4≤500)⟩⟩
   ·rcases List.mem_append.1 hr with hr|hr
    ·exact hp r hr
    ·rw[List.mem_singleton] at hr;subst hr;exact⟨r40,r41⟩
 ·rintro s ⟨tm',h',T',X,l,rfl,hT',hl,nd,ok,hp,q',g',oX,t2,t5,t6,t11,t12⟩
  simp -implicitDefEqProofs(maxSteps:=999999)(disch:=first|with_reducible rfl|omega|(simp only[nA,nS,nD]<;>omega)|fail)only[go_sem,t5,t11,t12,Int.lt_irrefl]
  exact q X l _ q'.s oX ⟨by omega,nd,ok,hp⟩
end Go.Ab.Tryz
namespace Go.Ab.Tryz
theorem indexFuncWant_ev {α:Type}{enc:α→List V}{l:List α}{p:α→Bool}{h:H}{x f:V}(hw:h.wf)(hx:SlAt h x 5 (l.map enc))(hp:∀a∈l,PureA h f [.agg (enc a)] (.bool (p a))):
  E (.fn 108 [] []) [x,f] h fun v h'=>v=.int .i64 (fidx p l 0)∧h.Sub h':=by
 have hb:=hx.boundE
 refine Ev_body (fd:=c108) rfl rfl rfl ?_
 simp -implicitDefEqProofs(maxSteps:=999999)(disch:=first|with_reducible rfl|omega|(simp only[nA,nS,nD]<;>omega)|fail)only[c108,go_sem,hx.lenE]
 refine W_count l.length (fun i s=>∃tm h',s=⟨tm,h',[]⟩∧h.Sub h'∧(Opd.t 0).ev tm=x∧(Opd.t 1).ev tm=f∧(Opd.t 7).ev tm=.int .i64 (l.length:Int)∧(Opd.t 8).ev tm=.int .i64 (i:Int)∧fidx p l 0=fidx p (l.drop i) i)
  ?_ ?_ (i:=0) (Nat.zero_le _) ⟨_,_,rfl,H.Sub.refl hw,(by simp[ev_c,ev_put]<;>rfl),(by simp[ev_c,ev_put]<;>rfl),(by simp[ev_c,ev_put]<;>rfl),(by simp only[ev_put];rfl),rfl⟩
 ·rintro i s hi ⟨tm,h',rfl,hs,e0,e1,e7,e8,e9⟩
  have hi':(i:Int)<(l.length:Int):=by omega
  obtain⟨b,o,c,cs,rfl,hc,hq,hg,hn,hn0⟩:=(hx.mono hs).at hi
  simp -implicitDefEqProofs(maxSteps:=999999)(disch:=first|with_reducible rfl|omega|(simp only[nA,nS,nD]<;>omega)|fail)only[go_sem,e0,e1,e7,e8,hi',hq (nat_cst i),hc,hg]
  refine(hp _ (List.getElem_mem hi)).use hs fun h2 hs2=>?_
  cases hpr:p l[i] with
  |true=>
   simp -implicitDefEqProofs(maxSteps:=999999)(disch:=first|with_reducible rfl|omega|(simp only[nA,nS,nD]<;>omega)|fail)only[go_sem,e0,e1,e7,e8]
   exact⟨by rw[e9,fidx_hit hi hpr],hs.trans hs2⟩
  |false=>
   simp -implicitDefEqProofs(maxSteps:=999999)(disch:=first|with_reducible rfl|omega|(simp only[nA,nS,nD]<;>omega)|fail)only[go_sem,e0,e1,e7,e8,wr_succ]
   exact⟨_,_,rfl,hs.trans hs2,(by simp[ev_c,ev_put,e0]<;>rfl),(by simp[ev_c,ev_put,e1]<;>rfl),(by simp[ev_c,ev_put,e7]<;>rfl),(by simp[ev_c,ev_put]<;>rfl),by rw[e9,fidx_miss hi hpr]⟩
 ·rintro s ⟨tm,h',rfl,hs,e0,e1,e7,e8,e9⟩
  simp -implicitDefEqProofs(maxSteps:=999999)(disch:=first|with_reducible rfl|omega|(simp only[nA,nS,nD]<;>omega)|fail)only[go_sem,e0,e1,e7,e8,Int.lt_irrefl]
  exact⟨by rw[e9];simp[fidx],hs⟩
theorem containsFuncWant_ev {α:Type}{enc:α→List V}{l:List α}{p:α→Bool}{h:H}{x f:V}(hw:h.wf)(hx:SlAt h x 5 (l.map enc))(hp:∀a∈l,PureA h f [.agg (enc a)] (.bool (p a))):
  E (.fn 77 [] []) [x,f] h fun v h'=>v=.bool (l.any p)∧h.Sub h':=by
 refine Ev_body (fd:=c77) rfl rfl rfl ?_
 simp -implicitDefEqProofs(maxSteps:=999999)(disch:=first|with_reducible rfl|omega|(simp only[nA,nS,nD]<;>omega)|fail)only[c77,go_sem]
 refine(indexFuncWant_ev hw hx hp).mono fun v h' hv=>?_
 obtain⟨rfl,hs⟩:=hv
 simp -implicitDefEqProofs(maxSteps:=999999)(disch:=first|with_reducible rfl|omega|(simp only[nA,nS,nD]<;>omega)|fail)only[go_sem]
 exact⟨by rw[fidx_any],hs⟩
theorem everyWant_ev {α:Type}{enc:α→List V}{l:List α}{p:α→Bool}{h:H}{x:V}{g:FuncId}{u w:List V}(hw:h.wf)(hx:SlAt h x 5 (l.map enc))(hp:∀a∈l,PureA h (.fn g u w) [.agg (enc a)] (.bool (p a))):
  E (.fn 59 [] []) [x,.fn g u w] h fun v h'=>v=.bool (l.all p)∧h.Sub h':=by
 refine Ev_body (fd:=c59) rfl rfl rfl ?_
 simp -implicitDefEqProofs(maxSteps:=999999)(disch:=first|with_reducible rfl|omega|(simp only[nA,nS,nD]<;>omega)|fail)only[c59,go_sem]
 have hs1:h.Sub (h.add (.cells .rw [.fn g u w])):=(H.Sub.refl hw).add _
 refine(containsFuncWant_ev (p:=fun a=> !p a) hs1.wf (hx.mono hs1) fun a ha h2 hs2=>?_).mono fun v h' hv=>?_
 ·have hc:h2.cells h.next=some [.fn g u w]:=hs2.cells (cells_add_new rfl)
  have hl:h.next<h2.next:=by have:=hs2.next;rw[H.next_add] at this;omega
  refine Ev_body (fd:=c78) rfl rfl rfl ?_
  simp -implicitDefEqProofs(maxSteps:=999999)(disch:=first|with_reducible rfl|omega|(simp only[nA,nS,nD]<;>omega)|fail)only[c78,go_sem,hc,getN_full (hx.1 _ (List.mem_map_of_mem ha))]
  refine((hp a ha).mono hs1).use (hs2.add _) fun h3 hs3=>?_
  simp -implicitDefEqProofs(maxSteps:=999999)(disch:=first|with_reducible rfl|omega|(simp only[nA,nS,nD]<;>omega)|fail)only[go_sem]
  exact(H.Sub.refl hs2.wf).add _ |>.trans hs3
 ·obtain⟨rfl,hs⟩:=hv
  simp -implicitDefEqProofs(maxSteps:=999999)(disch:=first|with_reducible rfl|omega|(simp only[nA,nS,nD]<;>omega)|fail)only[go_sem]
  exact⟨by rw[any_not],hs1.trans hs⟩
theorem everyCut_ev {l:List Int}{p:Int→Bool}{h:H}{x:V}{g:FuncId}{u w:List V}(hw:h.wf)(hx:SlAt h x 1 (l.map encI))(hp:∀a∈l,PureA h (.fn g u w) [.int .i64 a] (.bool (p a))):
  E (.fn 61 [] []) [x,.fn g u w] h fun v h'=>v=.bool (l.all p)∧h.Sub h':=by
 refine Ev_body (fd:=c61) rfl rfl rfl ?_
 simp -implicitDefEqProofs(maxSteps:=999999)(disch:=first|with_reducible rfl|omega|(simp only[nA,nS,nD]<;>omega)|fail)only[c61,go_sem]
 have hs1:h.Sub (h.add (.cells .rw [.fn g u w])):=(H.Sub.refl hw).add _
 refine(containsFuncInt_ev (p:=fun a=> !p a) hs1.wf (hx.mono hs1) fun a ha h2 hs2=>?_).mono fun v h' hv=>?_
 ·have hc:h2.cells h.next=some [.fn g u w]:=hs2.cells (cells_add_new rfl)
  have hl:h.next<h2.next:=by have:=hs2.next;rw[H.next_add] at this;omega
  refine Ev_body (fd:=c80) rfl rfl rfl ?_
  simp -implicitDefEqProofs(maxSteps:=999999)(disch:=first|with_reducible rfl|omega|(simp only[nA,nS,nD]<;>omega)|fail)only[c80,go_sem,hc]
  refine((hp a ha).mono hs1).use hs2 fun h3 hs3=>?_
  simp -implicitDefEqProofs(maxSteps:=999999)(disch:=first|with_reducible rfl|omega|(simp only[nA,nS,nD]<;>omega)|fail)only[go_sem]
  exact hs3
 ·obtain⟨rfl,hs⟩:=hv
  simp -implicitDefEqProofs(maxSteps:=999999)(disch:=first|with_reducible rfl|omega|(simp only[nA,nS,nD]<;>omega)|fail)only[go_sem]
  exact⟨by rw[any_not],hs1.trans hs⟩
structure Wt where
 long:Int
 price:Int
 off:Int
 flaws:Int
 joins:Int
def encWt (w:Wt):List V:=[.int .i64 w.long,.int .i64 w.price,.int .i64 w.off,.int .i64 w.flaws,.int .i64 w.joins]
structure WtOk (w:Wt):Prop where
 long:1≤w.long∧w.long≤60
 price:0≤w.price∧w.price≤100
 off:0≤w.off∧w.off≤20
 flaws:0≤w.flaws∧w.flaws≤4
 joins:0≤w.joins∧w.joins≤4
structure Rb where
 len:Nat
 faults:List Int
 wants:List Wt
structure RbAt (h:H)(F W:V)(r:Rb):Prop where
 f:SlAt h F 1 (r.faults.map encI)
 w:SlAt h W 5 (r.wants.map encWt)
theorem RbAt.mono {h h':H}{F W:V}{r:Rb}(a:RbAt h F W r)(s:h.Sub h'):RbAt h' F W r:=⟨a.f.mono s,a.w.mono s⟩
structure RbOk (r:Rb):Prop where
 len:1≤r.len∧r.len≤60
 nf:r.faults.length≤12
 nw:r.wants.length≤6
 w:∀w∈r.wants,WtOk w
 f:∀u∈r.faults,0≤u∧u<(r.len:Int)
 up:r.faults.Pairwise (· < ·)
abbrev rbV (r:Rb) (F W:V):List V:=[.int .i64 (r.len:Int),F,W]
theorem cin_ev (n lo hi:Int)(h:H)(Q:V→H→Prop):Ev fnG fastA (.fn 58 [] []) [.int .i64 n,.int .i64 lo,.int .i64 hi] h Q=Q (.bool (inB n lo hi)) h:=by
 refine Ev.det (Ev_body (fd:=c58) rfl rfl rfl ?_) Q
 by_cases c:lo≤n
 ·simp -implicitDefEqProofs(maxSteps:=999999)(disch:=first|with_reducible rfl|omega|(simp only[nA,nS,nD]<;>omega)|fail)only[c58,go_sem,c,inB]
 ·simp -implicitDefEqProofs(maxSteps:=999999)(disch:=first|with_reducible rfl|omega|(simp only[nA,nS,nD]<;>omega)|fail)only[c58,go_sem,c,inB,false_and]
theorem right_pure {h:H}{w:Wt}(k:WtOk w):PureA h (.fn 60 [] []) [.agg (encWt w)] (.bool true):=by
 have i1:inB w.long 1 60=true:=decide_eq_true k.long
 have i2:inB w.price 0 100=true:=decide_eq_true k.price
 have i3:inB w.off 0 20=true:=decide_eq_true k.off
 have i4:inB w.flaws 0 4=true:=decide_eq_true k.flaws
 have i5:inB w.joins 0 4=true:=decide_eq_true k.joins
 refine fun h1 s1=>?_
 have hw1:=s1.wf
 refine Ev_body (fd:=c60) rfl rfl rfl ?_
 simp -implicitDefEqProofs(maxSteps:=999999)(disch:=first|with_reducible rfl|omega|(simp only[nA,nS,nD]<;>omega)|fail)only[c60,go_sem,cin_ev,encWt,i1,i2,i3,i4,i5]
 exact(H.Sub.refl hw1).add _
theorem unit_pure {h:H}{F W:V}{r:Rb}(f1:F.one=true)(w1:W.one=true)(hl:r.len≤60){u:Int}(hu:0≤u∧u<(r.len:Int)):PureA h (.fn 57 [.agg (rbV r F W)] []) [.int .i64 u] (.bool true):=by
 refine fun h1 s1=>?_
 have hw1:=s1.wf
 have ww:wr .i64 ((r.len:Int)-1)=(r.len:Int)-1:=wr_in (by omega) (by omega)
 have i1:inB u 0 ((r.len:Int)-1)=true:=decide_eq_true (by omega)
 rw[Ev_fn]
 simp only[appN]
 refine Ev_body (fd:=c57) rfl rfl rfl ?_
 simp -implicitDefEqProofs(maxSteps:=999999)(disch:=first|with_reducible rfl|omega|(simp only[nA,nS,nD]<;>omega)|fail)only[c57,go_sem,cin_ev,ww,i1]
 exact(H.Sub.refl hw1).add _
theorem cisNaN_eq (a:Int)(h:H)(R:V→H→Prop):Ev fnG fastA (.fn 110 [] []) [.int .i64 a] h R=R (.bool false) h:=by
 refine Ev.det (Ev_body (fd:=c110) rfl rfl rfl ?_) R
 simp -implicitDefEqProofs(maxSteps:=999999)(disch:=first|with_reducible rfl|omega|(simp only[nA,nS,nD]<;>omega)|fail)only[c110,go_sem,ne_eq,not_true_eq_false,not_false_eq_true]
theorem cless_eq (a b:Int)(h:H)(Q:V→H→Prop):Ev fnG fastA (.fn 81 [] []) [.int .i64 a,.int .i64 b] h Q=Q (.bool (decide (a<b))) h:=by
 refine Ev.det (Ev_body (fd:=c81) rfl rfl rfl ?_) Q
 simp -implicitDefEqProofs(maxSteps:=999999)(disch:=first|with_reducible rfl|omega|(simp only[nA,nS,nD]<;>omega)|fail)only[c81,go_sem,cisNaN_eq]
theorem upAt {l:List Int}(up:l.Pairwise (· < ·)){i:Nat}(hi:i+1<l.length):l[i]<l[i+1]:=List.pairwise_iff_getElem.1 up i (i+1) (by omega) hi (by omega)
theorem sortedUp_ev {h:H}{x:V}{l:List Int}(hx:SlAt h x 1 (l.map encI))(up:l.Pairwise (· < ·))(hl:l.length≤100)(Q:V→H→Prop)(q:Q (.bool true) h):Ev fnG fastA (.fn 62 [] []) [x] h Q:=by
 have hlx:=hx.lenE
 have ww:wr .i64 ((l.length:Int)-1)=(l.length:Int)-1:=wr_in (by omega) (by omega)
 refine Ev_body (fd:=c62) rfl rfl rfl ?_
 simp -implicitDefEqProofs(maxSteps:=999999)(disch:=first|with_reducible rfl|omega|(simp only[nA,nS,nD]<;>omega)|fail)only[c62,go_sem,hlx,ww]
 refine W_count (l.length-1) (fun j s=>∃tm,s=⟨tm,h,[]⟩∧(Opd.t 0).ev tm=x∧(Opd.t 3).ev tm=.int .i64 ((l.length:Int)-1-(j:Int))) ?_ ?_ (i:=0) (Nat.zero_le _) ⟨_,rfl,(by simp[ev_c,ev_put]<;>rfl),by simp only[ev_put, ↓reduceIte];simp⟩
 ·rintro j s hj ⟨tm,rfl,t0,t3⟩
  obtain⟨i,hi⟩:∃i:Nat,(l.length:Int)-1-(j:Int)=((i+1:Nat):Int):=⟨l.length-2-j,by omega⟩
  rw[hi] at t3
  have h0:(0:Int)<((i+1:Nat):Int):=by omega
  obtain⟨b1,o1,c1,cs1,_,hc1,hq1,_,_,hn1⟩:=hx.at (k:=i+1) (by omega)
  obtain⟨b0,o0,c0,cs0,_,hc0,hq0,_,_,hn0⟩:=hx.at (k:=i) (by omega)
  have v1:nth (o1+(i+1)*1) cs1=some (.int .i64 l[i+1]):=hn1 (by omega)
  have v0:nth (o0+i*1) cs0=some (.int .i64 l[i]):=hn0 (by omega)
  have w1:wr .i64 (((i+1:Nat):Int)-1)=(i:Int):=by rw[wr_in (by omega) (by omega)];omega
  have lt:=upAt up (i:=i) (by omega)
  have nl:decide (l[i+1]<l[i])=false:=decide_eq_false (by omega)
  simp -implicitDefEqProofs(maxSteps:=999999)(disch:=first|with_reducible rfl|omega|(simp only[nA,nS,nD]<;>omega)|fail)only[go_sem,t0,t3,h0,hq1 (nat_cst (i+1)),hc1,v1,hq0 (nat_cst i),hc0,v0,w1,cless_eq,nl]
  exact⟨_,rfl,(by simp[ev_c,ev_put,t0]<;>rfl),by rw[show(l.length:Int)-1-((j+1:Nat):Int)=(i:Int) by omega];exact(by simp[ev_c,ev_put]<;>rfl)⟩
 ·rintro s ⟨tm,rfl,t0,t3⟩
  have n0:¬(0:Int)<(l.length:Int)-1-((l.length-1:Nat):Int):=by omega
  simp -implicitDefEqProofs(maxSteps:=999999)(disch:=first|with_reducible rfl|omega|(simp only[nA,nS,nD]<;>omega)|fail)only[go_sem,t3,n0]
  exact q
theorem compactUp_ev {h:H}{x:V}{l:List Int}(hx:SlAt h x 1 (l.map encI))(up:l.Pairwise (· < ·))(hl:l.length≤100)(Q:V→H→Prop)(q:Q x h):Ev fnG fastA (.fn 63 [] []) [x] h Q:=by
 have hlx:=hx.lenE
 refine Ev_body (fd:=c63) rfl rfl rfl ?_
 by_cases h2:(l.length:Int)<2
 ·simp -implicitDefEqProofs(maxSteps:=999999)(disch:=first|with_reducible rfl|omega|(simp only[nA,nS,nD]<;>omega)|fail)only[c63,go_sem,hlx,h2]
  exact q
 ·simp -implicitDefEqProofs(maxSteps:=999999)(disch:=first|with_reducible rfl|omega|(simp only[nA,nS,nD]<;>omega)|fail)only[c63,go_sem,hlx,h2]
  refine W_count (l.length-1) (fun j s=>∃tm,s=⟨tm,h,[]⟩∧(Opd.t 0).ev tm=x∧(Opd.t 3).ev tm=.int .i64 ((j+1:Nat):Int)) ?_ ?_ (i:=0) (Nat.zero_le _) ⟨_,rfl,(by simp[ev_c,ev_put]<;>rfl),(by simp only[ev_put];rfl)⟩
  ·rintro j s hj ⟨tm,rfl,t0,t3⟩
   have hj':((j+1:Nat):Int)<(l.length:Int):=by omega
   obtain⟨b1,o1,c1,cs1,_,hc1,hq1,_,_,hn1⟩:=hx.at (k:=j+1) (by omega)
   obtain⟨b0,o0,c0,cs0,_,hc0,hq0,_,_,hn0⟩:=hx.at (k:=j) (by omega)
   have v1:nth (o1+(j+1)*1) cs1=some (.int .i64 l[j+1]):=hn1 (by omega)
   have v0:nth (o0+j*1) cs0=some (.int .i64 l[j]):=hn0 (by omega)
   have w1:wr .i64 (((j+1:Nat):Int)-1)=(j:Int):=by rw[wr_in (by omega) (by omega)];omega
   have lt:=upAt up (i:=j) (by omega)
   have ne:¬l[j+1]=l[j]:=by omega
   simp -implicitDefEqProofs(maxSteps:=999999)(disch:=first|with_reducible rfl|omega|(simp only[nA,nS,nD]<;>omega)|fail)only[go_sem,t0,t3,hlx,hj',hq1 (nat_cst (j+1)),hc1,v1,hq0 (nat_cst j),hc0,v0,w1,ne,wr_succ]
   exact⟨_,rfl,(by simp[ev_c,ev_put,t0]<;>rfl),(by simp[ev_c,ev_put]<;>rfl)⟩
  ·rintro s ⟨tm,rfl,t0,t3⟩
   have n0:¬((l.length-1+1:Nat):Int)<(l.length:Int):=by omega
   simp -implicitDefEqProofs(maxSteps:=999999)(disch:=first|with_reducible rfl|omega|(simp only[nA,nS,nD]<;>omega)|fail)only[go_sem,t0,t3,hlx,n0]
   exact q
theorem cloneInt_ev {h:H}{x:V}{rows:List (List V)}(hw:h.wf)(hx:SlAt h x 1 rows)(hl:rows.length≤1000000)(Q:V→H→Prop)(q:∀v h',OwnC h h' v 1 rows→Q v h'):Ev fnG fastA (.fn 64 [] []) [x] h Q:=by
 refine Ev_body (fd:=c64) rfl rfl rfl ?_
 rcases hx.2.2 with⟨rfl,e⟩|⟨b,o,c,cs,rfl,_⟩
 ·simp -implicitDefEqProofs(maxSteps:=999999)(disch:=first|with_reducible rfl|omega|(simp only[nA,nS,nD]<;>omega)|fail)only[c64,go_sem]
  exact q _ _ (by rw[e];exact(OwnSl.nil (H.Sub.refl hw) 1).c)
 ·simp -implicitDefEqProofs(maxSteps:=999999)(disch:=first|with_reducible rfl|omega|(simp only[nA,nS,nD]<;>omega)|fail)only[c64,go_sem]
  refine clone_core hw hx (by omega) (by omega) fun v h' ov=>?_
  simp -implicitDefEqProofs(maxSteps:=999999)(disch:=first|with_reducible rfl|omega|(simp only[nA,nS,nD]<;>omega)|fail)only[go_sem]
  exact q _ _ ov
set_option maxHeartbeats 2000000 in
theorem cchk_ev {h:H}(hw:h.wf){F W:V}{r:Rb}(a:RbAt h F W r)(k:RbOk r)(Q:V→H→Prop)(q:∀h',h.Sub h'→Q (.int .i64 0) h'):Ev fnG fastA (.fn 42 [] []) [.agg (rbV r F W)] h Q:=by
 have F1:=a.f.one
 have W1:=a.w.one
 have lF:=a.f.lenE
 have lW:=a.w.lenE
 have kl:=k.len;have kf:=k.nf;have kw:=k.nw
 have i1:inB (r.len:Int) 1 60=true:=decide_eq_true (by omega)
 have n1:¬(12:Int)<(r.faults.length:Int):=by omega
 have n2:¬(6:Int)<(r.wants.length:Int):=by omega
 refine Ev_body (fd:=c42) rfl rfl rfl ?_
 have s0:=(H.Sub.refl hw).add (.cells .rw (rbV r F W))
 have g0:(h.add (.cells .rw (rbV r F W))).cells h.next=some (rbV r F W):=cells_add_new rfl
 simp -implicitDefEqProofs(maxSteps:=999999)(disch:=first|with_reducible rfl|omega|(simp only[nA,nS,nD]<;>omega)|fail)only[c42,go_sem,F1,W1,cells_one F1,cells_one W1,cin_ev,i1,lF,lW,n1,n2]
 generalize h.add _=h0 at s0 g0⊢
 refine(everyWant_ev (p:=fun _=>true) s0.wf (a.w.mono s0) fun w hw'=>right_pure (k.w w hw')).mono fun u h1 hu=>?_
 obtain⟨rfl,s1⟩:=hu
 rw[show(r.wants.all fun _=>true)=true from List.all_eq_true.2 fun _ _=>rfl]
 simp -implicitDefEqProofs(maxSteps:=999999)(disch:=first|with_reducible rfl|omega|(simp only[nA,nS,nD]<;>omega)|fail)only[go_sem,s1.cells g0]
 refine(everyCut_ev (p:=fun _=>true) s1.wf (a.f.mono (s0.trans s1)) fun u hu'=>unit_pure F1 W1 kl.2 (k.f u hu')).mono fun u h2 hu=>?_
 obtain⟨rfl,s2⟩:=hu
 rw[show(r.faults.all fun _=>true)=true from List.all_eq_true.2 fun _ _=>rfl]
 have s12:=s1.trans s2
 have s02:=s0.trans s12
 have g2:=s12.cells g0
 simp -implicitDefEqProofs(maxSteps:=999999)(disch:=first|with_reducible rfl|omega|(simp only[nA,nS,nD]<;>omega)|fail)only[go_sem,g2]
 refine sortedUp_ev (a.f.mono s02) k.up (by omega) _ ?_
 simp -implicitDefEqProofs(maxSteps:=999999)(disch:=first|with_reducible rfl|omega|(simp only[nA,nS,nD]<;>omega)|fail)only[go_sem,g2]
 refine cloneInt_ev s2.wf (a.f.mono s02) (by rw[List.length_map];omega) _ fun v h3 ov=>?_
 have s3:=ov.1
 have g3:=s3.cells g2
 have av:=ov.sl (by rw[List.length_map];omega)
 have lv:=av.lenE
 simp -implicitDefEqProofs(maxSteps:=999999)(disch:=first|with_reducible rfl|omega|(simp only[nA,nS,nD]<;>omega)|fail)only[go_sem,g2,g3]
 refine compactUp_ev av k.up (by omega) _ ?_
 simp -implicitDefEqProofs(maxSteps:=999999)(disch:=first|with_reducible rfl|omega|(simp only[nA,nS,nD]<;>omega)|fail)only[go_sem,g2,g3,lv,lF,Int.lt_irrefl]
 exact q _ (s02.trans s3)
end Go.Ab.Tryz
namespace Go.Ab.Tryz
theorem most_ev {h:H}{y:V}{x:Int}(hx:SlAt h y 1 (([x]:List Int).map encI))(n:Int)(Q:V→H→Prop)(q:Q (.int .i64 (max n x)) h):Ev fnG fastA (.fn 47 [] []) [.int .i64 n,y] h Q:=by
 have hl:q_len y=some (.int .i64 1):=hx.lenE
 refine Ev_body (fd:=c47) rfl rfl rfl ?_
 simp -implicitDefEqProofs(maxSteps:=999999)(disch:=first|with_reducible rfl|omega|(simp only[nA,nS,nD]<;>omega)|fail)only[c47,go_sem,hl]
 refine W_count 1 (fun i s=>∃tm,s=⟨tm,h,[]⟩∧(Opd.t 0).ev tm=.int .i64 (if i=0 then n else max n x)∧(Opd.t 7).ev tm=y∧(Opd.t 8).ev tm=.int .i64 1∧(Opd.t 9).ev tm=.int .i64 (i:Int)) ?_ ?_ (i:=0) (Nat.zero_le _) ⟨_,rfl,(by simp[ev_c,ev_put]<;>rfl),(by simp[ev_c,ev_put]<;>rfl),(by simp[ev_c,ev_put]<;>rfl),(by simp only[ev_put];rfl)⟩
 ·rintro i s hi ⟨tm,rfl,t0,t7,t8,t9⟩
  obtain rfl:i=0:=by omega
  replace t9:(Opd.t 9).ev tm=.int .i64 0:=t9
  replace t0:(Opd.t 0).ev tm=.int .i64 n:=t0
  have h01:(0:Int)<1:=by omega
  obtain⟨b,o,c,cs,_,hc,hq,_,_,hn⟩:=hx.at (l:=[x]) (k:=0) (by simp)
  have v0:nth o cs=some (.int .i64 x):=by
   have:=hn (by omega)
   rw[Nat.zero_mul,Nat.add_zero] at this;exact this
  have hq0:q_iad 1 y (.int .i64 0)=some (.ptr b o):=by
   have:=hq (nat_cst 0)
   rw[Nat.zero_mul,Nat.add_zero] at this;exact this
  simp -implicitDefEqProofs(maxSteps:=999999)(disch:=first|with_reducible rfl|omega|(simp only[nA,nS,nD]<;>omega)|fail)only[go_sem,t0,t7,t8,t9,h01,hq0,hc,v0]
  exact⟨_,rfl,(by simp[ev_c,ev_put]<;>rfl),(by simp[ev_c,ev_put,t7]<;>rfl),(by simp[ev_c,ev_put,t8]<;>rfl),(by simp only[ev_put];rfl)⟩
 ·rintro s ⟨tm,rfl,t0,t7,t8,t9⟩
  replace t9:(Opd.t 9).ev tm=.int .i64 1:=t9
  replace t0:(Opd.t 0).ev tm=.int .i64 (max n x):=t0
  simp -implicitDefEqProofs(maxSteps:=999999)(disch:=first|with_reducible rfl|omega|(simp only[nA,nS,nD]<;>omega)|fail)only[go_sem,t0,t8,t9,Int.lt_irrefl]
  exact q
def badL (r:Rb):List Bool:=(List.range 60).map fun u:Nat=>decide ((u:Int)∈r.faults)
theorem badL_len (r:Rb):(badL r).length=60:=by simp[badL]
def dkC (r:Rb)(F W:V)(bz:List Bool):List V:=.int .i64 (r.len:Int)::F::W::bz.map V.bool
structure CdAt (h:H)(cd:Nat)(F W:V)(r:Rb):Prop where
 g:h.get cd=some (.cells .rw (dkC r F W (badL r)))
 a:RbAt h F W r
theorem CdAt.mono {h h':H}{cd:Nat}{F W:V}{r:Rb}(d:CdAt h cd F W r)(s:h.Sub h'):CdAt h' cd F W r:=⟨s.get d.g,d.a.mono s⟩
theorem dk_nth {r:Rb}{F W:V}{bz:List Bool}{u:Nat}(hu:u<bz.length):nth (3+u) (dkC r F W bz)=some (.bool bz[u]):=by
 rw[nth_get,dkC,Nat.add_comm 3 u]
 simp only[List.getElem?_cons_succ,List.getElem?_map,List.getElem?_eq_getElem hu,Option.map_some]
theorem dk_put {r:Rb}{F W:V}{bz:List Bool}{u:Nat}(hu:u<bz.length):putN (3+u) [.bool true] (dkC r F W bz)=some (dkC r F W (bz.set u true)):=by
 rw[putN_one (by simp[dkC];omega),dkC,Nat.add_comm 3 u]
 simp only[List.set_cons_succ,←List.map_set]
 rfl
def badTo (r:Rb)(i:Nat):List Bool:=(List.range 60).map fun u:Nat=>decide ((u:Int)∈r.faults.take i)
theorem badTo_len (r:Rb)(i:Nat):(badTo r i).length=60:=by simp[badTo]
theorem badTo_0 (r:Rb):badTo r 0=List.replicate 60 false:=by
 refine List.ext_getElem (by rw[badTo_len,List.length_replicate]) fun j h1 h2=>?_
 rw[List.getElem_replicate]
 simp only[badTo,List.getElem_map,List.take_zero,List.not_mem_nil,decide_false]
theorem badTo_s {r:Rb}{i:Nat}(hi:i<r.faults.length){u:Nat}(hu:r.faults[i]=(u:Int))(h60:u<60):badTo r (i+1)=(badTo r i).set u true:=by
 refine List.ext_getElem (by simp[badTo]) fun j h1 h2=>?_
 rw[List.getElem_set]
 simp only[badTo,List.getElem_map,List.getElem_range,List.take_succ_eq_append_getElem hi,List.mem_append,List.mem_singleton,hu]
 by_cases e:u=j
 ·subst e;simp
 ·rw[if_neg e]
  have:¬(j:Int)=(u:Int):=by omega
  simp[this]
theorem badTo_all (r:Rb):badTo r r.faults.length=badL r:=by simp[badTo,badL]
set_option maxHeartbeats 4000000 in
theorem worked_ev {h:H}(hw:h.wf){F W:V}{r:Rb}(a:RbAt h F W r)(k:RbOk r)(Q:V→H→Prop)(q:∀cd h',h.Sub h'→h.next≤cd→CdAt h' cd F W r→Q (.ptr cd 0) h'):Ev fnG fastA (.fn 43 [] []) [.agg (rbV r F W)] h Q:=by
 have F1:=a.f.one
 have W1:=a.w.one
 have lF:=a.f.lenE
 have kl:=k.len;have kf:=k.nf
 refine Ev_body (fd:=c43) rfl rfl rfl ?_
 have s0:=(H.Sub.refl hw).add (.cells .rw (rbV r F W))
 have g0:(h.add (.cells .rw (rbV r F W))).cells h.next=some (rbV r F W):=cells_add_new rfl
 have n0:(h.add (.cells .rw (rbV r F W))).next=h.next+1:=H.next_add _ _
 simp -implicitDefEqProofs(maxSteps:=999999)(disch:=first|with_reducible rfl|omega|(simp only[nA,nS,nD]<;>omega)|fail)only[c43,go_sem,F1,W1,cells_one F1,cells_one W1]
 generalize h.add _=h0 at s0 g0 n0⊢
 have s1:=(H.Sub.refl s0.wf).add (.cells .rw (dkC r F W (List.replicate 60 false)))
 have g1:(h0.add (.cells .rw (dkC r F W (List.replicate 60 false)))).get h0.next=some (.cells .rw (dkC r F W (List.replicate 60 false))):=get_add_new rfl
 simp only[dkC,List.replicate,List.map_cons,List.map_nil] at s1
 simp -implicitDefEqProofs(maxSteps:=999999)(disch:=first|with_reducible rfl|omega|(simp only[nA,nS,nD]<;>omega)|fail)only[go_sem,s1.cells g0,lF]
 refine W_count r.faults.length (fun i s=>∃(tm:Go.Ab.T V) (h':H),s=⟨tm,h',[]⟩∧h0.Sub h'∧h'.get (h.next+1)=some (.cells .rw (dkC r F W (badTo r i)))∧(Opd.t 3).ev tm=.ptr (h.next+1) 0∧(Opd.t 10).ev tm=F∧(Opd.t 11).ev tm=.int .i64 (r.faults.length:Int)∧(Opd.t 12).ev tm=.int .i64 (i:Int)) ?_ ?_ (i:=0) (Nat.zero_le _)
  ⟨_,_,rfl,s1,by rw[badTo_0,←n0];exact g1,(by simp[ev_c,ev_put]<;>rfl),(by simp[ev_c,ev_put]<;>rfl),(by simp[ev_c,ev_put]<;>rfl),(by simp only[ev_put];rfl)⟩
 ·rintro i s hi ⟨tm,h',rfl,s2,g2,t3,t10,t11,t12⟩
  have hi':(i:Int)<(r.faults.length:Int):=by omega
  obtain⟨b,o,c,cs,_,hc,hq,_,_,hn⟩:=(a.f.mono (s0.trans s2)).at hi
  have hf:=k.f _ (List.getElem_mem hi)
  obtain⟨u,hu⟩:∃u:Nat,r.faults[i]=(u:Int):=⟨(r.faults[i]).toNat,by omega⟩
  have v:nth (o+i*1) cs=some (.int .i64 (u:Int)):=by rw[hn (by omega),hu];rfl
  have h60:u<60:=by omega
  have hb:Nat.blt u 60=true:=by rw[Nat.blt_eq];exact h60
  have hia:q_iaa 60 1 (.ptr (h.next+1) 3) (.int .i64 (u:Int))=some (.ptr (h.next+1) (3+u)):=by
   simp only[q_iaa,nat_cst,hb,og_true,Nat.mul_one]
  have hp:=dk_put (r:=r) (F:=F) (W:=W) (bz:=badTo r i) (u:=u) (by rw[badTo_len];exact h60)
  rw[←badTo_s hi hu h60] at hp
  have lt:=H.lt_next s2.wf g2
  simp -implicitDefEqProofs(maxSteps:=999999)(disch:=first|with_reducible rfl|omega|(simp only[nA,nS,nD]<;>omega)|fail)only[go_sem,t3,t10,t11,t12,hi',hq (nat_cst i),hc,v,hia,g2,hp,wr_succ]
  exact⟨_,_,rfl,s2.set (by omega) lt s0.wf _,get_set_same rfl,(by simp[ev_c,ev_put,t3]<;>rfl),(by simp[ev_c,ev_put,t10]<;>rfl),(by simp[ev_c,ev_put,t11]<;>rfl),(by simp[ev_c,ev_put]<;>rfl)⟩
 ·rintro s ⟨tm,h',rfl,s2,g2,t3,t10,t11,t12⟩
  rw[badTo_all] at g2
  simp -implicitDefEqProofs(maxSteps:=999999)(disch:=first|with_reducible rfl|omega|(simp only[nA,nS,nD]<;>omega)|fail)only[go_sem,t3,t11,t12,Int.lt_irrefl]
  exact q _ _ (s0.trans s2) (by omega) ⟨g2,a.mono (s0.trans s2)⟩
theorem copened_ev {h:H}(hw:h.wf){F W:V}{r:Rb}(a:RbAt h F W r)(k:RbOk r)(Q:V→H→Prop)(q:∀cd h',h.Sub h'→h.next≤cd→CdAt h' cd F W r→Q (.tup [.ptr cd 0,.int .i64 0]) h'):Ev fnG fastA (.fn 26 [] []) [.agg (rbV r F W)] h Q:=by
 have F1:=a.f.one
 have W1:=a.w.one
 refine Ev_body (fd:=c26) rfl rfl rfl ?_
 have s0:=(H.Sub.refl hw).add (.cells .rw (rbV r F W))
 have g0:(h.add (.cells .rw (rbV r F W))).cells h.next=some (rbV r F W):=cells_add_new rfl
 have n0:(h.add (.cells .rw (rbV r F W))).next=h.next+1:=H.next_add _ _
 simp -implicitDefEqProofs(maxSteps:=999999)(disch:=first|with_reducible rfl|omega|(simp only[nA,nS,nD]<;>omega)|fail)only[c26,go_sem,F1,W1,cells_one F1,cells_one W1]
 generalize h.add _=h0 at s0 g0 n0⊢
 refine cchk_ev s0.wf (a.mono s0) k _ fun h1 s1=>?_
 simp -implicitDefEqProofs(maxSteps:=999999)(disch:=first|with_reducible rfl|omega|(simp only[nA,nS,nD]<;>omega)|fail)only[go_sem,s1.cells g0,ne_eq,not_true_eq_false]
 refine worked_ev s1.wf (a.mono (s0.trans s1)) k _ fun cd h2 s2 lc d=>?_
 simp -implicitDefEqProofs(maxSteps:=999999)(disch:=first|with_reducible rfl|omega|(simp only[nA,nS,nD]<;>omega)|fail)only[go_sem]
 have:=s1.next
 exact q _ _ ((s0.trans s1).trans s2) (by omega) d
end Go.Ab.Tryz
namespace Go.Ab.Tryz
def badU (r:Rb)(u:Nat):Bool:=decide ((u:Int)∈r.faults)
def ust (r:Rb)(u:Nat)(s:List Int × Int):Bool→List Int × Int
 |true=>if badU r u then s else(s.1++[(u:Int)],s.2+if(decide (0<s.1.length)&&decide (s.1.getLastD 0<(u:Int)-1))=true then 1 else 0)
 |false=>(s.1++[(u:Int)],s.2+if badU r u=true then 1 else 0)
def unR (r:Rb)(long:Int)(jn:Bool):Nat→List Int × Int→List Int × Int
 |0,s=>s
 |d+1,s=>if(s.1.length:Int)<long then unR r long jn d (ust r (r.len-(d+1)) s jn) else s
structure UsOk (r:Rb)(x:Nat)(u:Nat)(s:List Int × Int):Prop where
 i:∀a∈s.1,(x:Int)≤a∧a<(u:Int)
 l:s.1.length≤u-x
 f:0≤s.2∧s.2≤(s.1.length:Int)
theorem UsOk.step {r:Rb}{x u:Nat}{s:List Int × Int}(k:UsOk r x u s)(hx:x≤u)(jn:Bool):UsOk r x (u+1) (ust r u s jn):=by
 have k1:=k.i;have k2:=k.l;have k3:=k.f
 have up:∀a∈s.1++[(u:Int)],(x:Int)≤a∧a<((u+1:Nat):Int):=fun a ha=>by
  rcases List.mem_append.1 ha with ha|ha
  ·have:=k1 a ha;omega
  ·rw[List.mem_singleton] at ha;omega
 cases jn with
 |true=>
  by_cases hb:badU r u=true
  ·rw[show ust r u s true=s from if_pos hb]
   exact⟨fun a ha=>by have:=k1 a ha;omega,by omega,k3⟩
  ·rw[show ust r u s true=(s.1++[(u:Int)],s.2+if(decide (0<s.1.length)&&decide (s.1.getLastD 0<(u:Int)-1))=true then 1 else 0) from if_neg hb]
   refine⟨up,by simp only[List.length_append,List.length_singleton];omega,?_⟩
   simp only[List.length_append,List.length_singleton]
   split<;>omega
 |false=>
  unfold ust
  refine⟨up,by simp only[List.length_append,List.length_singleton];omega,?_⟩
  simp only[List.length_append,List.length_singleton]
  split<;>omega
theorem unR_ok {r:Rb}{long:Int}{jn:Bool}{x:Nat}:∀{d:Nat} {s:List Int × Int},d≤r.len→x≤r.len-d→UsOk r x (r.len-d) s→∃u,u≤r.len∧UsOk r x u (unR r long jn d s)
 |0,s,hd,hx,k=>⟨r.len,Nat.le_refl _,by simpa[unR] using k⟩
 |d+1,s,hd,hx,k=>by
  unfold unR
  split
  ·have:=k.step hx jn
   rw[show r.len-(d+1)+1=r.len-d by omega] at this
   exact unR_ok (by omega) (by omega) this
  ·exact⟨_,by omega,k⟩
def cutV (k x:Nat)(jn:Bool):List V:=[.int .i64 (k:Int),.int .i64 (x:Int),.bool jn]
def usR (r:Rb)(w:Wt)(x:Nat)(jn:Bool):List Int × Int:=unR r w.long jn (r.len-x) ([],0)
theorem usR_ok {r:Rb}(w:Wt){x:Nat}(hx:x≤r.len)(jn:Bool):∃u,u≤r.len∧UsOk r x u (usR r w x jn):=by
 refine unR_ok (by omega) (by omega) ?_
 rw[show r.len-(r.len-x)=x by omega]
 exact⟨by simp,by simp,by simp⟩
theorem badL_at {r:Rb}{u:Nat}(hu:u<(badL r).length):(badL r)[u]=badU r u:=by simp[badL,badU]
def navB:List Bool→C→C
 |[],c=>c
 |b::p,.seq x y=>match b with|true=>navB p y|false=>navB p x
 |b::p,.cond _ x y=>match b with|true=>navB p y|false=>navB p x
 |_::p,.block _ x=>navB p x
 |_::p,.loop x=>navB p x
 |_::p,.scope x=>navB p x
 |_::_,c=>c
structure Ut (cd c3:Nat)(Z:V)(f:Int)(tm:T V):Prop where
 t0:(Opd.t 0).ev tm=.ptr cd 0
 t3:(Opd.t 3).ev tm=.ptr c3 0
 t7:(Opd.t 7).ev tm=Z
 t8:(Opd.t 8).ev tm=.int .i64 f
theorem lastD_at {l:List Int}(h:0<l.length):l.getLastD 0=l[l.length-1]:=by
 rw[List.getLastD_eq_getLast?,List.getLast?_eq_getElem?,List.getElem?_eq_getElem (by omega)]
 rfl
theorem hia60 {cd u len:Nat}(hl:len≤60)(hu:u<len):q_iaa 60 1 (.ptr cd 3) (.int .i64 (u:Int))=some (.ptr cd (3+u)):=by
 have hb:Nat.blt u 60=true:=by rw[Nat.blt_eq];omega
 simp only[q_iaa,nat_cst,hb,og_true,Nat.mul_one]
theorem hnb60 {r:Rb}{F W:V}(hl:r.len≤60){u:Nat}(hu:u<r.len):nth (3+u) (dkC r F W (badL r))=some (.bool (badU r u)):=by
 rw[dk_nth (by rw[badL_len];omega),badL_at]
theorem dk0 (r:Rb)(F W:V)(bz:List Bool):nth 0 (dkC r F W bz)=some (.int .i64 (r.len:Int)):=rfl
theorem dk2 (r:Rb)(F W:V)(bz:List Bool):nth 2 (dkC r F W bz)=some W:=rfl
set_option maxHeartbeats 8000000 in
theorem unLoop_ev {h:H}(hw:h.wf){cd c3:Nat}{F W:V}{r:Rb}(d:CdAt h cd F W r)(k:RbOk r){i x:Nat}(hi:i<r.wants.length)(hx:x<r.len)(jn:Bool)(g3:h.cells c3=some (cutV i x jn)){tm:Go.Ab.T V}(u0:Ut cd c3 .nils 0 tm){ro:Option Nat}:
  Go.Ab.W fnG fastA 104 84 ro (navB [true,true,true,true,false] c84.body) ⟨tm,h,[]⟩ fun x1 s1=>x1=.nrm∧∃(tm':Go.Ab.T V) (h':H) (Z:V),s1=⟨tm',h',[]⟩∧OwnSl h h' Z 1 ((usR r r.wants[i] x jn).1.map encI)∧Ut cd c3 Z (usR r r.wants[i] x jn).2 tm':=by
 obtain⟨t0,t3,t7,t8⟩:=u0
 have kl:=k.len
 have W1:=d.a.w.one
 simp only[navB,c84]
 simp only[cutV] at g3
 simp -implicitDefEqProofs(maxSteps:=999999)(disch:=first|with_reducible rfl|omega|(simp only[nA,nS,nD]<;>omega)|fail)only[go_sem,t3,g3]
 refine W_loop (fun dd s=>∃(tm':Go.Ab.T V) (h':H) (Z:V) (st:List Int × Int),s=⟨tm',h',[]⟩∧dd≤r.len-x∧UsOk r x (r.len-dd) st∧unR r r.wants[i].long jn dd st=usR r r.wants[i] x jn∧OwnSl h h' Z 1 (st.1.map encI)∧Ut cd c3 Z st.2 tm'∧(Opd.t 9).ev tm'=.int .i64 ((r.len-dd:Nat):Int)) ?_ (r.len-x) _
  ⟨_,_,.nils,([],0),rfl,Nat.le_refl _,⟨by simp,by simp,by simp⟩,rfl,OwnSl.nil (H.Sub.refl hw) 1,⟨(by simp[ev_c,ev_put,t0]<;>rfl),(by simp[ev_c,ev_put,t3]<;>rfl),(by simp[ev_c,ev_put,t7]<;>rfl),(by simp[ev_c,ev_put,t8]<;>rfl)⟩,by rw[show r.len-(r.len-x)=x by omega];exact(by simp[ev_c,ev_put]<;>rfl)⟩
 rintro dd s ⟨tm',h',Z,st,rfl,hdd,us,hun,oZ,⟨t0,t3,t7,t8⟩,t9⟩
 have gd:=cells_of (d.mono oZ.1).g
 have g3':=oZ.1.cells g3
 have usl:=us.l
 have usf:=us.f
 have lZ:=(oZ.sl (by rw[List.length_map];omega)).lenE
 obtain⟨b,o,c,cs,_,hc,hq,_,_,hn0⟩:=(d.a.w.mono oZ.1).at hi
 have vl:nth (o+i*5) cs=some (.int .i64 r.wants[i].long):=hn0 (by omega)
 obtain⟨u,hu⟩:∃u,r.len-dd=u:=⟨_,rfl⟩
 rw[hu] at t9 us
 rcases Nat.eq_zero_or_pos dd with h0|h0
 ·subst h0
  have hlt:¬(u:Int)<(r.len:Int):=by omega
  simp -implicitDefEqProofs(maxSteps:=999999)(disch:=first|with_reducible rfl|omega|(simp only[nA,nS,nD]<;>omega)|fail)only[go_sem,t0,t9,gd,dk0,hlt]
  have:st=usR r r.wants[i] x jn:=hun
  exact⟨_,_,_,rfl,by rw[←this];exact oZ,⟨(by simp[ev_c,ev_put,t0]<;>rfl),(by simp[ev_c,ev_put,t3]<;>rfl),(by simp[ev_c,ev_put,t7]<;>rfl),by rw[←this];exact(by simp[ev_c,ev_put,t8]<;>rfl)⟩⟩
 ·obtain⟨d1,rfl⟩:∃d1,dd=d1+1:=⟨dd-1,by omega⟩
  have hlt:(u:Int)<(r.len:Int):=by omega
  by_cases hlong:(st.1.length:Int)<r.wants[i].long
  ·rw[unR,if_pos hlong,hu] at hun
   have us':=us.step (by omega) jn
   have eu1:r.len-d1=u+1:=by omega
   rw[←eu1] at us'
   have fb:wr .i64 (st.2+1)=st.2+1:=wr_in (by omega) (by omega)
   have hnb:=hnb60 (F:=F) (W:=W) kl.2 (u:=u) (by omega)
   have hia:=hia60 (cd:=cd) kl.2 (u:=u) (by omega)
   cases jn with
   |true=>
    cases hb:badU r u with
    |true=>
     rw[hb] at hnb
     have eu:ust r u st true=st:=if_pos hb
     rw[eu] at hun us'
     simp -implicitDefEqProofs(maxSteps:=999999)(disch:=first|with_reducible rfl|omega|(simp only[nA,nS,nD]<;>omega)|fail)only[go_sem,t0,t3,t7,t9,gd,dk0,dk2,hlt,lZ,g3',hq (nat_cst i),hc,vl,hlong,hia,hnb,wr_succ]
     exact⟨d1,by omega,_,_,_,st,rfl,by omega,us',hun,oZ,⟨(by simp[ev_c,ev_put,t0]<;>rfl),(by simp[ev_c,ev_put,t3]<;>rfl),(by simp[ev_c,ev_put,t7]<;>rfl),(by simp[ev_c,ev_put,t8]<;>rfl)⟩,by rw[eu1];exact(by simp[ev_c,ev_put]<;>rfl)⟩
    |false=>
     rw[hb] at hnb
     by_cases hl0:(0:Int)<(st.1.length:Int)
     ·have hl0':0<st.1.length:=by omega
      obtain⟨b5,o5,c5,cs5,_,hc5,hq5,_,_,hn5⟩:=(oZ.sl (by rw[List.length_map];omega)).at (k:=st.1.length-1) (by omega)
      have v5:nth (o5+(st.1.length-1)*1) cs5=some (.int .i64 st.1[st.1.length-1]):=hn5 (by omega)
      have wl:wr .i64 ((st.1.length:Int)-1)=((st.1.length-1:Nat):Int):=by rw[wr_in (by omega) (by omega)];omega
      have wu:wr .i64 ((u:Int)-1)=(u:Int)-1:=wr_in (by omega) (by omega)
      have la:=lastD_at hl0'
      by_cases hg:st.1[st.1.length-1]<(u:Int)-1
      ·simp -implicitDefEqProofs(maxSteps:=999999)(disch:=first|with_reducible rfl|omega|(simp only[nA,nS,nD]<;>omega)|fail)only[go_sem,t0,t3,t7,t8,t9,gd,dk0,dk2,hlt,lZ,g3',hq (nat_cst i),hc,vl,hlong,hia,hnb,hl0,wl,hq5 (nat_cst _),hc5,v5,wu,hg,fb]
       have eu:ust r u st true=(st.1++[(u:Int)],st.2+1):=by show(if badU r u=true then st else _)=_;rw[if_neg (by rw[hb];simp),if_pos (by rw[la,decide_eq_true hl0',decide_eq_true hg];rfl)]
       rw[eu] at hun us'
       have sB:=(H.Sub.refl oZ.1.wf).add (.cells .rw [.int .i64 (u:Int)])
       refine(oZ.mono sB).app1 (by_:=8) (r:=encI (u:Int)) hw rfl (by omega) own1_lit rfl (by rw[List.length_map];omega) (by rw[List.length_map];omega) fun h5 o5 k5 n5=>?_
       rw[H.next_add] at o5
       simp -implicitDefEqProofs(maxSteps:=999999)(disch:=first|with_reducible rfl|omega|(simp only[nA,nS,nD]<;>omega)|fail)only[go_sem,t9,wr_succ]
       exact⟨d1,by omega,_,_,_,(st.1++[(u:Int)],st.2+1),rfl,by omega,us',hun,by rw[List.map_append];exact o5,⟨(by simp[ev_c,ev_put,t0]<;>rfl),(by simp[ev_c,ev_put,t3]<;>rfl),(by simp[ev_c,ev_put]<;>rfl),(by simp[ev_c,ev_put,t8]<;>rfl)⟩,by rw[eu1];exact(by simp[ev_c,ev_put]<;>rfl)⟩
      ·simp -implicitDefEqProofs(maxSteps:=999999)(disch:=first|with_reducible rfl|omega|(simp only[nA,nS,nD]<;>omega)|fail)only[go_sem,t0,t3,t7,t8,t9,gd,dk0,dk2,hlt,lZ,g3',hq (nat_cst i),hc,vl,hlong,hia,hnb,hl0,wl,hq5 (nat_cst _),hc5,v5,wu,hg]
       have eu:ust r u st true=(st.1++[(u:Int)],st.2):=by show(if badU r u=true then st else _)=_;rw[if_neg (by rw[hb];simp),if_neg (by rw[la,decide_eq_false hg];simp),Int.add_zero]
       rw[eu] at hun us'
       have sB:=(H.Sub.refl oZ.1.wf).add (.cells .rw [.int .i64 (u:Int)])
       refine(oZ.mono sB).app1 (by_:=8) (r:=encI (u:Int)) hw rfl (by omega) own1_lit rfl (by rw[List.length_map];omega) (by rw[List.length_map];omega) fun h5 o5 k5 n5=>?_
       rw[H.next_add] at o5
       simp -implicitDefEqProofs(maxSteps:=999999)(disch:=first|with_reducible rfl|omega|(simp only[nA,nS,nD]<;>omega)|fail)only[go_sem,t9,wr_succ]
       exact⟨d1,by omega,_,_,_,(st.1++[(u:Int)],st.2),rfl,by omega,us',hun,by rw[List.map_append];exact o5,⟨(by simp[ev_c,ev_put,t0]<;>rfl),(by simp[ev_c,ev_put,t3]<;>rfl),(by simp[ev_c,ev_put]<;>rfl),(by simp[ev_c,ev_put,t8]<;>rfl)⟩,by rw[eu1];exact(by simp[ev_c,ev_put]<;>rfl)⟩
     ·have hl0':¬0<st.1.length:=by omega
      simp -implicitDefEqProofs(maxSteps:=999999)(disch:=first|with_reducible rfl|omega|(simp only[nA,nS,nD]<;>omega)|fail)only[go_sem,t0,t3,t7,t8,t9,gd,dk0,dk2,hlt,lZ,g3',hq (nat_cst i),hc,vl,hlong,hia,hnb,hl0]
      have eu:ust r u st true=(st.1++[(u:Int)],st.2):=by show(if badU r u=true then st else _)=_;rw[if_neg (by rw[hb];simp),if_neg (by rw[decide_eq_false hl0'];simp),Int.add_zero]
      rw[eu] at hun us'
      have sB:=(H.Sub.refl oZ.1.wf).add (.cells .rw [.int .i64 (u:Int)])
      refine(oZ.mono sB).app1 (by_:=8) (r:=encI (u:Int)) hw rfl (by omega) own1_lit rfl (by rw[List.length_map];omega) (by rw[List.length_map];omega) fun h5 o5 k5 n5=>?_
      rw[H.next_add] at o5
      simp -implicitDefEqProofs(maxSteps:=999999)(disch:=first|with_reducible rfl|omega|(simp only[nA,nS,nD]<;>omega)|fail)only[go_sem,t9,wr_succ]
      exact⟨d1,by omega,_,_,_,(st.1++[(u:Int)],st.2),rfl,by omega,us',hun,by rw[List.map_append];exact o5,⟨(by simp[ev_c,ev_put,t0]<;>rfl),(by simp[ev_c,ev_put,t3]<;>rfl),(by simp[ev_c,ev_put]<;>rfl),(by simp[ev_c,ev_put,t8]<;>rfl)⟩,by rw[eu1];exact(by simp[ev_c,ev_put]<;>rfl)⟩
   |false=>
    cases hb:badU r u with
    |true=>
     rw[hb] at hnb
     simp -implicitDefEqProofs(maxSteps:=999999)(disch:=first|with_reducible rfl|omega|(simp only[nA,nS,nD]<;>omega)|fail)only[go_sem,t0,t3,t7,t8,t9,gd,dk0,dk2,hlt,lZ,g3',hq (nat_cst i),hc,vl,hlong,hia,hnb,fb]
     have eu:ust r u st false=(st.1++[(u:Int)],st.2+1):=by show(_,st.2+if badU r u=true then 1 else 0)=_;rw[if_pos hb]
     rw[eu] at hun us'
     have sB:=(H.Sub.refl oZ.1.wf).add (.cells .rw [.int .i64 (u:Int)])
     refine(oZ.mono sB).app1 (by_:=8) (r:=encI (u:Int)) hw rfl (by omega) own1_lit rfl (by rw[List.length_map];omega) (by rw[List.length_map];omega) fun h5 o5 k5 n5=>?_
     rw[H.next_add] at o5
     simp -implicitDefEqProofs(maxSteps:=999999)(disch:=first|with_reducible rfl|omega|(simp only[nA,nS,nD]<;>omega)|fail)only[go_sem,t9,wr_succ]
     exact⟨d1,by omega,_,_,_,(st.1++[(u:Int)],st.2+1),rfl,by omega,us',hun,by rw[List.map_append];exact o5,⟨(by simp[ev_c,ev_put,t0]<;>rfl),(by simp[ev_c,ev_put,t3]<;>rfl),(by simp[ev_c,ev_put]<;>rfl),(by simp[ev_c,ev_put,t8]<;>rfl)⟩,by rw[eu1];exact(by simp[ev_c,ev_put]<;>rfl)⟩
    |false=>
     rw[hb] at hnb
     simp -implicitDefEqProofs(maxSteps:=999999)(disch:=first|with_reducible rfl|omega|(simp only[nA,nS,nD]<;>omega)|fail)only[go_sem,t0,t3,t7,t8,t9,gd,dk0,dk2,hlt,lZ,g3',hq (nat_cst i),hc,vl,hlong,hia,hnb]
     have eu:ust r u st false=(st.1++[(u:Int)],st.2):=by show(_,st.2+if badU r u=true then 1 else 0)=_;rw[if_neg (by rw[hb];simp),Int.add_zero]
     rw[eu] at hun us'
     have sB:=(H.Sub.refl oZ.1.wf).add (.cells .rw [.int .i64 (u:Int)])
     refine(oZ.mono sB).app1 (by_:=8) (r:=encI (u:Int)) hw rfl (by omega) own1_lit rfl (by rw[List.length_map];omega) (by rw[List.length_map];omega) fun h5 o5 k5 n5=>?_
     rw[H.next_add] at o5
     simp -implicitDefEqProofs(maxSteps:=999999)(disch:=first|with_reducible rfl|omega|(simp only[nA,nS,nD]<;>omega)|fail)only[go_sem,t9,wr_succ]
     exact⟨d1,by omega,_,_,_,(st.1++[(u:Int)],st.2),rfl,by omega,us',hun,by rw[List.map_append];exact o5,⟨(by simp[ev_c,ev_put,t0]<;>rfl),(by simp[ev_c,ev_put,t3]<;>rfl),(by simp[ev_c,ev_put]<;>rfl),(by simp[ev_c,ev_put,t8]<;>rfl)⟩,by rw[eu1];exact(by simp[ev_c,ev_put]<;>rfl)⟩
  ·rw[unR,if_neg hlong] at hun
   simp -implicitDefEqProofs(maxSteps:=999999)(disch:=first|with_reducible rfl|omega|(simp only[nA,nS,nD]<;>omega)|fail)only[go_sem,t0,t3,t7,t9,gd,dk0,dk2,hlt,lZ,g3',hq (nat_cst i),hc,vl,hlong]
   exact⟨_,_,_,rfl,by rw[←hun];exact oZ,⟨(by simp[ev_c,ev_put,t0]<;>rfl),(by simp[ev_c,ev_put,t3]<;>rfl),(by simp[ev_c,ev_put,t7]<;>rfl),by rw[←hun];exact(by simp[ev_c,ev_put,t8]<;>rfl)⟩⟩
set_option maxHeartbeats 4000000 in
theorem units_ev {h:H}(hw:h.wf){cd:Nat}{F W:V}{r:Rb}(d:CdAt h cd F W r)(k:RbOk r){i x:Nat}(hi:i<r.wants.length)(hx:x<r.len)(jn:Bool)(Q:V→H→Prop)
  (q1:(jn&&badU r x)=true→∀h',h.Sub h'→Q (.tup [.nils,.int .i64 0,.bool false]) h')
  (q2:(jn&&badU r x)=false→∀Z h',h.Sub h'→SlAt h' Z 1 ((usR r r.wants[i] x jn).1.map encI)→Q (.tup [Z,.int .i64 (usR r r.wants[i] x jn).2,.bool (decide (((usR r r.wants[i] x jn).1.length:Int)=r.wants[i].long))]) h'):
  Ev fnG fastA (.fn 84 [] []) [.ptr cd 0,.agg (cutV i x jn)] h Q:=by
 have kl:=k.len
 have W1:=d.a.w.one
 refine Ev_body (fd:=c84) rfl rfl rfl ?_
 obtain⟨Z1,hZ1⟩:∃Z,navB [true,true,true,true,false] c84.body=Z:=⟨_,rfl⟩
 have re:= @unLoop_ev
 rw[hZ1] at re
 simp only[navB,c84] at hZ1
 simp only[c84]
 rw[hZ1]
 clear hZ1
 have s0:=(H.Sub.refl hw).add (.cells .rw (cutV i x jn))
 have g0:(h.add (.cells .rw (cutV i x jn))).cells h.next=some (cutV i x jn):=cells_add_new rfl
 have d0:=d.mono s0
 simp only[cutV] at s0 g0 d0
 have gd:=cells_of d0.g
 simp -implicitDefEqProofs(maxSteps:=999999)(disch:=first|with_reducible rfl|omega|(simp only[nA,nS,nD]<;>omega)|fail)only[go_sem,cutV]
 generalize h.add _=h0 at s0 g0 d0 gd⊢
 have hnb:=hnb60 (F:=F) (W:=W) kl.2 hx
 have hia:=hia60 (cd:=cd) kl.2 hx
 have fin:(jn&&badU r x)=false→∀tm:Go.Ab.T V,Ut cd h.next .nils 0 tm→Go.Ab.W fnG fastA 104 84 none Z1 ⟨tm,h0,[]⟩ (Kseq fnG fastA 104 84 none (navB [true,true,true,true,true] c84.body) (Kfin [.tmp 4,.tmp 5,.tmp 6] Q)):=fun hj tm ut=>by
  refine(re s0.wf d0 k hi hx jn g0 ut).mono ?_
  rintro _ _ ⟨rfl,tm',h',Z,rfl,oZ,⟨t0,t3,t7,t8⟩⟩
  obtain⟨u,hu,us⟩:=usR_ok (r:=r) r.wants[i] (x:=x) (by omega) jn
  have usl:=us.l
  have aZ:=oZ.sl (by rw[List.length_map];omega)
  have lZ:=aZ.lenE
  have gd':=cells_of (d0.mono oZ.1).g
  have g3':=oZ.1.cells g0
  obtain⟨b,o,c,cs,_,hc,hq,_,_,hn0⟩:=(d0.a.w.mono oZ.1).at hi
  have vl:nth (o+i*5) cs=some (.int .i64 r.wants[i].long):=hn0 (by omega)
  simp only[navB,c84]
  simp -implicitDefEqProofs(maxSteps:=999999)(disch:=first|with_reducible rfl|omega|(simp only[nA,nS,nD]<;>omega)|fail)only[go_sem,t0,t3,t7,t8,gd',g3',dk2,lZ,hq (nat_cst i),hc,vl]
  exact q2 hj _ _ (s0.trans oZ.1) aZ
 simp only[navB,c84] at fin
 cases jn with
 |true=>
  cases hb:badU r x with
  |true=>
   rw[hb] at hnb
   simp -implicitDefEqProofs(maxSteps:=999999)(disch:=first|with_reducible rfl|omega|(simp only[nA,nS,nD]<;>omega)|fail)only[go_sem,g0,gd,hia,hnb]
   exact q1 (by rw[hb];rfl) _ s0
  |false=>
   rw[hb] at hnb
   simp -implicitDefEqProofs(maxSteps:=999999)(disch:=first|with_reducible rfl|omega|(simp only[nA,nS,nD]<;>omega)|fail)only[go_sem,g0,gd,hia,hnb]
   exact fin (by rw[hb];rfl) _ ⟨(by simp[ev_c,ev_put]<;>rfl),(by simp[ev_c,ev_put]<;>rfl),(by simp[ev_c,ev_put]<;>rfl),(by simp[ev_c,ev_put]<;>rfl)⟩
 |false=>
  simp -implicitDefEqProofs(maxSteps:=999999)(disch:=first|with_reducible rfl|omega|(simp only[nA,nS,nD]<;>omega)|fail)only[go_sem,g0,gd]
  exact fin rfl _ ⟨(by simp[ev_c,ev_put]<;>rfl),(by simp[ev_c,ev_put]<;>rfl),(by simp[ev_c,ev_put]<;>rfl),(by simp[ev_c,ev_put]<;>rfl)⟩
end Go.Ab.Tryz
namespace Go.Ab.Tryz
def limR (w:Wt)(jn:Bool):Int:=if jn then w.joins else w.flaws
def takeR (r:Rb)(w:Wt)(x:Nat)(jn:Bool):Option (Nat × Int):=
 if(jn&&badU r x)=true then none else
 if((usR r w x jn).1.length:Int)=w.long then(if(usR r w x jn).2≤limR w jn then some (((usR r w x jn).1.getLastD 0+1).toNat,(usR r w x jn).2) else none) else none
def earn (w:Wt)(f:Int):Int:=max 0 (w.price-w.off*f)
theorem takeR_bd {r:Rb}{w:Wt}(kw:WtOk w){x:Nat}(hx:x<r.len){jn:Bool}{e:Nat}{f:Int}(h:takeR r w x jn=some (e,f)):(x<e∧e≤r.len)∧0≤f∧f≤4∧0<(usR r w x jn).1.length∧(usR r w x jn).1.getLastD 0+1=(e:Int):=by
 unfold takeR at h
 split at h
 ·cases h
 ·split at h
  ·rename_i hl
   split at h
   ·rename_i hf
    cases h
    obtain⟨u,hu,us⟩:=usR_ok (r:=r) w (x:=x) (by omega) jn
    have k1:=kw.long
    have h0:0<(usR r w x jn).1.length:=by omega
    have hm:=us.i ((usR r w x jn).1.getLastD 0) (by rw[lastD_at h0];exact List.getElem_mem (by omega))
    have hf0:=us.f
    have k2:=kw.flaws;have k3:=kw.joins
    have hlim:limR w jn≤4:=by unfold limR;split<;>omega
    refine⟨⟨by omega,by omega⟩,hf0.1,by omega,h0,by omega⟩
   ·cases h
  ·cases h
theorem earn_bd {w:Wt}(kw:WtOk w){f:Int}(hf:0≤f∧f≤4):0≤earn w f∧earn w f≤100:=by
 have k1:=kw.price;have k2:=kw.off
 have:0≤w.off*f:=Int.mul_nonneg k2.1 hf.1
 unfold earn
 omega
set_option maxHeartbeats 8000000 in
theorem take_ev {h:H}(hw:h.wf){cd:Nat}{F W:V}{r:Rb}(d:CdAt h cd F W r)(k:RbOk r){i x:Nat}(hi:i<r.wants.length)(hx:x<r.len)(jn:Bool)(Q:V→H→Prop)
  (q1:takeR r r.wants[i] x jn=none→∀h',h.Sub h'→Q (.tup [.agg [.int .i64 0,.int .i64 0],.bool false]) h')
  (q2:∀e f,takeR r r.wants[i] x jn=some (e,f)→∀h',h.Sub h'→Q (.tup [.agg [.int .i64 (e:Int),.int .i64 (earn r.wants[i] f)],.bool true]) h'):
  Ev fnG fastA (.fn 67 [] []) [.ptr cd 0,.agg (cutV i x jn)] h Q:=by
 have kl:=k.len
 have W1:=d.a.w.one
 have kw:=k.w _ (List.getElem_mem hi)
 have k1:=kw.price;have k2:=kw.off
 refine Ev_body (fd:=c67) rfl rfl rfl ?_
 have s0:h.Sub ((h.add (.cells .rw (cutV i x jn))).add (.cells .rw [.int .i64 0,.int .i64 0])):=(by repeat(first|assumption|exact H.Sub.refl (by assumption)|refine H.Sub.add ?_ _|refine H.Sub.set ?_ (by first|omega|(simp only[H.next_add,H.next_set,H.next_del]<;>omega)) (by first|omega|(simp only[H.next_add,H.next_set,H.next_del]<;>omega)) (by assumption) _))
 have g3:((h.add (.cells .rw (cutV i x jn))).add (.cells .rw [.int .i64 0,.int .i64 0])).cells h.next=some (cutV i x jn):=by simp -implicitDefEqProofs(maxSteps:=999999)(disch:=first|with_reducible rfl|omega|(simp only[nA,nS,nD]<;>omega)|fail)only[go_sem]
 have g4:((h.add (.cells .rw (cutV i x jn))).add (.cells .rw [.int .i64 0,.int .i64 0])).get (h.next+1)=some (.cells .rw [.int .i64 0,.int .i64 0]):=by simp -implicitDefEqProofs(maxSteps:=999999)(disch:=first|with_reducible rfl|omega|(simp only[nA,nS,nD]<;>omega)|fail)only[go_sem]
 have e0:[V.int .i64 (i:Int),.int .i64 (x:Int),.bool jn]=cutV i x jn:=rfl
 simp only[cutV] at s0 g3 g4
 simp -implicitDefEqProofs(maxSteps:=999999)(disch:=first|with_reducible rfl|omega|(simp only[nA,nS,nD]<;>omega)|fail)only[c67,go_sem,cutV]
 generalize H.add (H.add _ _) _=h0 at s0 g3 g4⊢
 rw[e0]
 have n2:=H.lt_next s0.wf g4
 refine(units_ev s0.wf (d.mono s0) k hi hx jn (fun u h1=>∃Z fl isb,u=.tup [Z,.int .i64 fl,.bool isb]∧h0.Sub h1∧((isb=true∧(jn&&badU r x)=false∧((usR r r.wants[i] x jn).1.length:Int)=r.wants[i].long∧fl=(usR r r.wants[i] x jn).2∧SlAt h1 Z 1 ((usR r r.wants[i] x jn).1.map encI))∨(isb=false∧takeR r r.wants[i] x jn=none))) (fun hj h1 s1=>⟨_,_,_,rfl,s1,.inr ⟨rfl,if_pos hj⟩⟩) fun hj Z h1 s1 aZ=>?_).mono ?_
 ·by_cases hl:((usR r r.wants[i] x jn).1.length:Int)=r.wants[i].long
  ·exact⟨_,_,_,rfl,s1,.inl ⟨decide_eq_true hl,hj,hl,rfl,aZ⟩⟩
  ·refine⟨_,_,_,rfl,s1,.inr ⟨decide_eq_false hl,?_⟩⟩
   unfold takeR
   rw[if_neg (by rw[hj];simp),if_neg hl]
 rintro _ h1 ⟨Z,fl,isb,rfl,s1,hcase⟩
 have d1:=(d.mono s0).mono s1
 have gd:=cells_of d1.g
 have g31:=s1.cells g3
 have g41:=s1.get g4
 have lt:=H.lt_next s1.wf g41
 obtain⟨b,o,c,cs,_,hc,hq,hg,hn',hn0⟩:=d1.a.w.at hi
 have sZ:=(H.Sub.refl s1.wf).add (.cells .rw [.int .i64 0,.int .i64 0,.int .i64 0,.int .i64 0,.int .i64 0])
 have hcZ:=sZ.cells hc
 have gdZ:=sZ.cells gd
 have g3Z:=sZ.cells g31
 simp only[encWt] at hg
 simp -implicitDefEqProofs(maxSteps:=999999)(disch:=first|with_reducible rfl|omega|(simp only[nA,nS,nD]<;>omega)|fail)only[go_sem,gd,gdZ,dk2,g31,g3Z,hq (nat_cst i),hc,hcZ,hg]
 have g9:(h1.add (.cells .rw [.int .i64 r.wants[i].long,.int .i64 r.wants[i].price,.int .i64 r.wants[i].off,.int .i64 r.wants[i].flaws,.int .i64 r.wants[i].joins])).cells h1.next=some [.int .i64 r.wants[i].long,.int .i64 r.wants[i].price,.int .i64 r.wants[i].off,.int .i64 r.wants[i].flaws,.int .i64 r.wants[i].joins]:=cells_add_new rfl
 have sA:=(H.Sub.refl s1.wf).add (.cells .rw [.int .i64 r.wants[i].long,.int .i64 r.wants[i].price,.int .i64 r.wants[i].off,.int .i64 r.wants[i].flaws,.int .i64 r.wants[i].joins])
 have g32:=sA.cells g31
 have g42:=sA.get g41
 have ltA:=H.lt_next sA.wf g42
 generalize h1.add _=hA at g9 sA g32 g42 ltA⊢
 clear gdZ hcZ g3Z sZ
 have ss:=((s0.trans s1).trans sA).set (b:=h.next+1) (by omega) ltA hw (.cells .rw [.int .i64 0,.int .i64 0])
 rcases hcase with⟨rfl,hj,hl,rfl,aZ⟩|⟨rfl,hn⟩
 ·have aZA:=aZ.mono sA
  have lZ:=aZA.lenE
  obtain⟨fl,hfl⟩:∃fl,(usR r r.wants[i] x jn).2=fl:=⟨_,rfl⟩
  have ht:takeR r r.wants[i] x jn=if fl≤limR r.wants[i] jn then some (((usR r r.wants[i] x jn).1.getLastD 0+1).toNat,fl) else none:=by
   unfold takeR
   rw[if_neg (by rw[hj];simp),if_pos hl,hfl]
  rw[hfl]
  by_cases hle:fl≤limR r.wants[i] jn
  ·rw[if_pos hle] at ht
   obtain⟨⟨b1,b2⟩,b3,b4,b5,b6⟩:=takeR_bd kw hx ht
   obtain⟨bz,oz,cz,csz,_,hcz,hqz,_,_,hnz⟩:=aZA.at (k:=(usR r r.wants[i] x jn).1.length - 1) (by omega)
   have vz:nth (oz+((usR r r.wants[i] x jn).1.length - 1)*1) csz=some (.int .i64 ((usR r r.wants[i] x jn).1.getLastD 0)):=by rw[lastD_at b5];exact hnz (by omega)
   have q2':=q2 _ _ ht
   rw[←b6] at q2'
   have wl:wr .i64 (((usR r r.wants[i] x jn).1.length:Int)-1)=(((usR r r.wants[i] x jn).1.length - 1:Nat):Int):=by
    have:=kw.long
    rw[wr_in (by omega) (by omega)];omega
   have wm:r.wants[i].off*fl≤20*4:=Int.mul_le_mul k2.2 b4 b3 (by omega)
   have wm0:0≤r.wants[i].off*fl:=Int.mul_nonneg k2.1 b3
   have w1:wr .i64 (r.wants[i].off*fl)=r.wants[i].off*fl:=wr_in (by omega) (by omega)
   have w2:wr .i64 (r.wants[i].price - r.wants[i].off*fl)=r.wants[i].price - r.wants[i].off*fl:=wr_in (by omega) (by omega)
   have w3:wr .i64 ((usR r r.wants[i] x jn).1.getLastD 0+1)=(usR r r.wants[i] x jn).1.getLastD 0+1:=wr_in (by omega) (by omega)
   have nle:¬limR r.wants[i] jn<fl:=by omega
   have sM:=(H.Sub.refl sA.wf).add (.cells .rw [.int .i64 (r.wants[i].price - r.wants[i].off*fl)])
   have hcM:=sM.cells hcz
   have g9M:=sM.cells g9
   have g4M:=sM.get g42
   have ltM:=H.lt_next sM.wf g4M
   have ssM:=(((s0.trans s1).trans sA).trans sM).set (b:=h.next+1) (by omega) ltM hw (.cells .rw [.int .i64 ((usR r r.wants[i] x jn).1.getLastD 0+1),.int .i64 (earn r.wants[i] fl)])
   have qq:=q2' _ ssM
   have sl1:SlAt (hA.add (.cells .rw [.int .i64 (r.wants[i].price - r.wants[i].off*fl)])) (.sl hA.next 0 1 (.fix 1)) 1 (([r.wants[i].price - r.wants[i].off*fl]:List Int).map encI):=own1_lit
   cases jn
   ·have nle':¬r.wants[i].flaws<fl:=nle
    simp -implicitDefEqProofs(maxSteps:=999999)(disch:=first|with_reducible rfl|omega|(simp only[nA,nS,nD]<;>omega)|fail)only[go_sem,g9,g32,g42,nle',lZ,wl,hqz (nat_cst _),hcz,vz,w1,w2,w3]
    refine most_ev sl1 0 _ ?_
    simp -implicitDefEqProofs(maxSteps:=999999)(disch:=first|with_reducible rfl|omega|(simp only[nA,nS,nD]<;>omega)|fail)only[go_sem,g9M,g4M,hcM,vz,g42]
    exact qq
   ·have nle':¬r.wants[i].joins<fl:=nle
    simp -implicitDefEqProofs(maxSteps:=999999)(disch:=first|with_reducible rfl|omega|(simp only[nA,nS,nD]<;>omega)|fail)only[go_sem,g9,g32,g42,nle',lZ,wl,hqz (nat_cst _),hcz,vz,w1,w2,w3]
    refine most_ev sl1 0 _ ?_
    simp -implicitDefEqProofs(maxSteps:=999999)(disch:=first|with_reducible rfl|omega|(simp only[nA,nS,nD]<;>omega)|fail)only[go_sem,g9M,g4M,hcM,vz,g42]
    exact qq
  ·rw[if_neg hle] at ht
   have qq:=q1 ht _ ss
   have nle:limR r.wants[i] jn<fl:=by omega
   cases jn
   ·have nle':r.wants[i].flaws<fl:=nle
    simp -implicitDefEqProofs(maxSteps:=999999)(disch:=first|with_reducible rfl|omega|(simp only[nA,nS,nD]<;>omega)|fail)only[go_sem,g9,g32,g42,nle']
    exact qq
   ·have nle':r.wants[i].joins<fl:=nle
    simp -implicitDefEqProofs(maxSteps:=999999)(disch:=first|with_reducible rfl|omega|(simp only[nA,nS,nD]<;>omega)|fail)only[go_sem,g9,g32,g42,nle']
    exact qq
 ·have qq:=q1 hn _ ss
  cases jn
  ·simp -implicitDefEqProofs(maxSteps:=999999)(disch:=first|with_reducible rfl|omega|(simp only[nA,nS,nD]<;>omega)|fail)only[go_sem,g9,g32,g42]
   exact qq
  ·simp -implicitDefEqProofs(maxSteps:=999999)(disch:=first|with_reducible rfl|omega|(simp only[nA,nS,nD]<;>omega)|fail)only[go_sem,g9,g32,g42]
   exact qq
end Go.Ab.Tryz
namespace Go.Ab.Tryz
def takeN (r:Rb)(x m:Nat):Option (Nat × Int):=match r.wants[m/2]? with
 |some w=>takeR r w x (decide (m%2=1))
 |none=>none
def wantN (r:Rb)(m:Nat):Wt:=(r.wants[m/2]?).getD ⟨0,0,0,0,0⟩
theorem takeN_at {r:Rb}{x i:Nat}(hi:i<r.wants.length)(jn:Bool):takeN r x (2*i+(if jn then 1 else 0))=takeR r r.wants[i] x jn∧wantN r (2*i+(if jn then 1 else 0))=r.wants[i]:=by
 have h1:(2*i+(if jn=true then 1 else 0))/2=i:=by cases jn<;>simp<;>omega
 have h2:decide ((2*i+(if jn=true then 1 else 0))%2=1)=jn:=by cases jn<;>simp<;>omega
 unfold takeN wantN
 rw[h1,List.getElem?_eq_getElem hi]
 exact⟨by rw[h2],rfl⟩
theorem cuts_ev {h:H}(hw:h.wf)(cd x:Nat)(Q:V→H→Prop)(q:∀h',h.Sub h'→h'.next=h.next+2→h'.cells h.next=some [.ptr cd 0]→h'.cells (h.next+1)=some [.int .i64 (x:Int)]→Q (.fn 66 [] [.ptr h.next 0,.ptr (h.next+1) 0]) h'):Ev fnG fastA (.fn 45 [] []) [.ptr cd 0,.int .i64 (x:Int)] h Q:=by
 refine Ev_body (fd:=c45) rfl rfl rfl ?_
 simp -implicitDefEqProofs(maxSteps:=999999)(disch:=first|with_reducible rfl|omega|(simp only[nA,nS,nD]<;>omega)|fail)only[c45,go_sem]
 exact q _ (by repeat(first|assumption|exact H.Sub.refl (by assumption)|refine H.Sub.add ?_ _|refine H.Sub.set ?_ (by first|omega|(simp only[H.next_add,H.next_set,H.next_del]<;>omega)) (by first|omega|(simp only[H.next_add,H.next_set,H.next_del]<;>omega)) (by assumption) _)) (by simp only[H.next_add]) (by simp -implicitDefEqProofs(maxSteps:=999999)(disch:=first|with_reducible rfl|omega|(simp only[nA,nS,nD]<;>omega)|fail)only[go_sem]) (by simp -implicitDefEqProofs(maxSteps:=999999)(disch:=first|with_reducible rfl|omega|(simp only[nA,nS,nD]<;>omega)|fail)only[go_sem])
set_option maxHeartbeats 8000000 in
theorem cuts1_gen {y:V}{S:Nat→Prop}{I:Nat→H→Prop}{cd ca cb x:Nat}{F W:V}{r:Rb}(k:RbOk r)(hx:x<r.len)
  (hr:∀(m:Nat) h e f,m<2*r.wants.length→I m h→takeN r x m=some (e,f)→Ev fnG fastA y [.agg (cutV (m/2) x (decide (m%2=1))),.agg [.int .i64 (e:Int),.int .i64 (earn (wantN r m) f)]] h fun u h'=>u=.bool true∧I (m+1) h'∧Keeps S h h')
  (hskip:∀(m:Nat) h,m<2*r.wants.length→I m h→takeN r x m=none→I (m+1) h)
  (hmono:∀(m:Nat) h h',I m h→h.Sub h'→I m h')
  (hD:∀(m:Nat) h,I m h→h.wf∧CdAt h cd F W r∧h.cells ca=some [.ptr cd 0]∧h.cells cb=some [.int .i64 (x:Int)])
  {h:H} (hS:∀c,S c→c<h.next) (hI:I 0 h):
  Ev fnG fastA (.fn 66 [] []) [y,.ptr ca 0,.ptr cb 0] h fun _ h'=>I (2*r.wants.length) h':=by
 refine Ev.gen fun Q q=>?_
 have kn:=k.nw
 obtain⟨w0,d0,a0,b0⟩:=hD 0 h hI
 have lW:=d0.a.w.lenE
 refine Ev_body (fd:=c66) rfl rfl rfl ?_
 simp -implicitDefEqProofs(maxSteps:=999999)(disch:=first|with_reducible rfl|omega|(simp only[nA,nS,nD]<;>omega)|fail)only[c66,go_sem,a0,cells_of d0.g,dk2,lW]
 refine W_count r.wants.length (fun i s=>∃tm h',s=⟨tm,h',[]⟩∧I (2*i) h'∧h.next≤h'.next∧(Opd.t 0).ev tm=y∧(Opd.t 1).ev tm=.ptr ca 0∧(Opd.t 2).ev tm=.ptr cb 0∧(Opd.t 15).ev tm=.int .i64 (r.wants.length:Int)∧(Opd.t 16).ev tm=.int .i64 (i:Int)) ?_ ?_ (i:=0) (Nat.zero_le _)
  ⟨_,_,rfl,hI,Nat.le_refl _,(by simp[ev_c,ev_put]<;>rfl),(by simp[ev_c,ev_put]<;>rfl),(by simp[ev_c,ev_put]<;>rfl),(by simp[ev_c,ev_put]<;>rfl),(by simp only[ev_put];rfl)⟩
 ·rintro i s hi ⟨tm,h',rfl,hI',hle,t0,t1,t2,t15,t16⟩
  have hi':(i:Int)<(r.wants.length:Int):=by omega
  obtain⟨w1,d1,a1,b1⟩:=hD _ h' hI'
  have sB:=(H.Sub.refl w1).add (.cells .rw [.bool false,.bool true])
  have gB:(h'.add (.cells .rw [.bool false,.bool true])).cells h'.next=some [.bool false,.bool true]:=cells_add_new rfl
  have IB:=hmono _ _ _ hI' sB
  have lB:=H.next_add h' (.cells .rw [.bool false,.bool true])
  simp -implicitDefEqProofs(maxSteps:=999999)(disch:=first|with_reducible rfl|omega|(simp only[nA,nS,nD]<;>omega)|fail)only[go_sem,t0,t1,t2,t15,t16,hi']
  obtain⟨cB,hcB⟩:∃c,h'.next=c:=⟨_,rfl⟩
  rw[hcB] at gB lB
  generalize h'.add _=hB at sB gB IB lB⊢
  refine W_count 2 (fun j s=>∃tm h2,s=⟨tm,h2,[]⟩∧I (2*i+j) h2∧h.next≤h2.next∧h2.cells cB=some [.bool false,.bool true]∧(Opd.t 0).ev tm=y∧(Opd.t 1).ev tm=.ptr ca 0∧(Opd.t 2).ev tm=.ptr cb 0∧(Opd.t 4).ev tm=.int .i64 (i:Int)∧(Opd.t 15).ev tm=.int .i64 (r.wants.length:Int)∧(Opd.t 16).ev tm=.int .i64 (i:Int)∧(Opd.t 19).ev tm=.sl cB 0 2 (.fix 2)∧(Opd.t 20).ev tm=.int .i64 2∧(Opd.t 21).ev tm=.int .i64 (j:Int)) ?_ ?_ (i:=0) (Nat.zero_le _)
   ⟨_,_,rfl,IB,by omega,gB,(by simp[ev_c,ev_put,t0]<;>rfl),(by simp[ev_c,ev_put,t1]<;>rfl),(by simp[ev_c,ev_put,t2]<;>rfl),(by simp[ev_c,ev_put]<;>rfl),(by simp[ev_c,ev_put,t15]<;>rfl),(by simp[ev_c,ev_put,t16]<;>rfl),(by simp[ev_c,ev_put,hcB]<;>rfl),(by simp[ev_c,ev_put]<;>rfl),(by simp only[ev_put];rfl)⟩<;>clear t0 t1 t2 t15 t16
  ·rintro j s hj ⟨tm,h2,rfl,I2,hle2,gB2,t0,t1,t2,t4,t15,t16,t19,t20,t21⟩
   have hj':(j:Int)<2:=by omega
   obtain⟨w2,d2,a2,b2⟩:=hD _ h2 I2
   obtain⟨jn,hjn⟩:∃jn:Bool,j=(if jn then 1 else 0):=by
    rcases(by omega:j=0∨j=1) with e|e
    ·exact⟨false,e⟩
    ·exact⟨true,e⟩
   have hq:q_iad 1 (.sl cB 0 2 (.fix 2)) (.int .i64 (j:Int))=some (.ptr cB j):=by
    rcases(by omega:j=0∨j=1) with rfl|rfl<;>rfl
   have hnj:nth j [V.bool false,V.bool true]=some (.bool jn):=by rw[hjn];cases jn<;>rfl
   obtain⟨tk,wk⟩:=takeN_at (r:=r) (x:=x) hi jn
   rw[←hjn] at tk wk
   have hm2:(2*i+j)/2=i:=by omega
   have hmj:decide ((2*i+j)%2=1)=jn:=by rw[hjn];cases jn<;>simp<;>omega
   have sC:=(H.Sub.refl w2).add (.cells .rw (cutV i x jn))
   have gC:(h2.add (.cells .rw (cutV i x jn))).cells h2.next=some (cutV i x jn):=cells_add_new rfl
   have aC:=sC.cells a2
   simp only[cutV] at sC gC aC
   simp -implicitDefEqProofs(maxSteps:=999999)(disch:=first|with_reducible rfl|omega|(simp only[nA,nS,nD]<;>omega)|fail)only[go_sem,t0,t1,t2,t4,t19,t20,t21,hj',hq,gB2,hnj,b2]
   generalize hz:h2.add _=hC at sC gC aC⊢
   clear hz
   simp -implicitDefEqProofs(maxSteps:=999999)(disch:=first|with_reducible rfl|omega|(simp only[nA,nS,nD]<;>omega)|fail)only[go_sem,t0,t1,t2,t4,aC,gC]
   have e0:[V.int .i64 (i:Int),.int .i64 (x:Int),.bool jn]=cutV i x jn:=rfl
   rw[e0]
   refine take_ev sC.wf (d2.mono sC) k hi hx jn _ (fun hn h3 s3=>?_) fun e f hsm h3 s3=>?_
   ·have sD:=(H.Sub.refl s3.wf).add (.cells .rw [.int .i64 0,.int .i64 0])
    have sall:=(sC.trans s3).trans sD
    have hI3:=hskip (2*i+j) _ (by omega) (hmono _ _ _ I2 sall) (by rw[tk];exact hn)
    simp -implicitDefEqProofs(maxSteps:=999999)(disch:=first|with_reducible rfl|omega|(simp only[nA,nS,nD]<;>omega)|fail)only[go_sem,t0,t21,wr_succ]
    refine⟨_,_,rfl,hI3,by have:=sall.next;omega,sall.cells gB2,(by simp[ev_c,ev_put,t0]<;>rfl),(by simp[ev_c,ev_put,t1]<;>rfl),(by simp[ev_c,ev_put,t2]<;>rfl),(by simp[ev_c,ev_put,t4]<;>rfl),(by simp[ev_c,ev_put,t15]<;>rfl),(by simp[ev_c,ev_put,t16]<;>rfl),(by simp[ev_c,ev_put,t19]<;>rfl),(by simp[ev_c,ev_put,t20]<;>rfl),(by simp[ev_c,ev_put]<;>rfl)⟩
   ·have sD:=(H.Sub.refl s3.wf).add (.cells .rw [.int .i64 (e:Int),.int .i64 (earn r.wants[i] f)])
    have gD:(h3.add (.cells .rw [.int .i64 (e:Int),.int .i64 (earn r.wants[i] f)])).cells h3.next=some [.int .i64 (e:Int),.int .i64 (earn r.wants[i] f)]:=cells_add_new rfl
    have sall:=(sC.trans s3).trans sD
    have gC3:=(s3.trans sD).cells gC
    simp -implicitDefEqProofs(maxSteps:=999999)(disch:=first|with_reducible rfl|omega|(simp only[nA,nS,nD]<;>omega)|fail)only[go_sem,t0]
    generalize hz:h3.add _=hD' at sD gD sall gC3⊢
    clear hz
    simp -implicitDefEqProofs(maxSteps:=999999)(disch:=first|with_reducible rfl|omega|(simp only[nA,nS,nD]<;>omega)|fail)only[go_sem,t0,gC3,gD]
    rw[e0]
    have hrr:=hr (2*i+j) hD' e f (by omega) (hmono _ _ _ I2 sall) (by rw[tk];exact hsm)
    rw[hm2,hmj,wk] at hrr
    refine hrr.mono fun u h4 hu=>?_
    obtain⟨rfl,I4,k4⟩:=hu
    have gB4:=k4.cells (sall.cells gB2) fun hs=>by have:=hS _ hs;omega
    simp -implicitDefEqProofs(maxSteps:=999999)(disch:=first|with_reducible rfl|omega|(simp only[nA,nS,nD]<;>omega)|fail)only[go_sem,t0,t21,wr_succ]
    exact⟨_,_,rfl,I4,by have:=sall.next;have:=k4.1;omega,gB4,(by simp[ev_c,ev_put,t0]<;>rfl),(by simp[ev_c,ev_put,t1]<;>rfl),(by simp[ev_c,ev_put,t2]<;>rfl),(by simp[ev_c,ev_put,t4]<;>rfl),(by simp[ev_c,ev_put,t15]<;>rfl),(by simp[ev_c,ev_put,t16]<;>rfl),(by simp[ev_c,ev_put,t19]<;>rfl),(by simp[ev_c,ev_put,t20]<;>rfl),(by simp[ev_c,ev_put]<;>rfl)⟩
  ·rintro s ⟨tm,h2,rfl,I2,hle2,gB2,t0,t1,t2,t4,t15,t16,t19,t20,t21⟩
   have t21:(Opd.t 21).ev tm=.int .i64 2:=t21
   simp -implicitDefEqProofs(maxSteps:=999999)(disch:=first|with_reducible rfl|omega|(simp only[nA,nS,nD]<;>omega)|fail)only[go_sem,t0,t1,t2,t16,t20,t21,Int.lt_irrefl,wr_succ]
   exact⟨_,_,rfl,by rw[show 2*(i+1)=2*i+2 by omega];exact I2,hle2,(by simp[ev_c,ev_put,t0]<;>rfl),(by simp[ev_c,ev_put,t1]<;>rfl),(by simp[ev_c,ev_put,t2]<;>rfl),(by simp[ev_c,ev_put,t15]<;>rfl),(by simp[ev_c,ev_put]<;>rfl)⟩
 ·rintro s ⟨tm,h',rfl,hI',hle,t0,t1,t2,t15,t16⟩
  simp -implicitDefEqProofs(maxSteps:=999999)(disch:=first|with_reducible rfl|omega|(simp only[nA,nS,nD]<;>omega)|fail)only[go_sem,t15,t16,Int.lt_irrefl]
  exact q _ _ hI'
end Go.Ab.Tryz
namespace Go.Ab
theorem marks_ok:∀{ds:List Nat} {h:H},ds.Nodup→(∀d∈ds,h.get d=some .dfr)→∃h',marks ds h=some h'∧(∀c,c ∉ds→h'.get c=h.get c)∧(∀c,c∈ds→h'.get c=none)∧h'.next=h.next
 |[],h,_,_=>⟨h,rfl,fun _ _=>rfl,fun c hc=>by simp at hc,rfl⟩
 |d::ds,h,nd,hd=>by
  rw[List.nodup_cons] at nd
  have h1:=hd d (by simp)
  obtain⟨h',e,g,gn,n⟩:=marks_ok (ds:=ds) (h:=h.del d) nd.2 fun c hc=>by
   rw[get_del_other (by intro e;subst e;exact nd.1 hc)];exact hd c (by simp[hc])
  refine⟨h',by simp only[marks,h1];exact e,fun c hc=>?_,fun c hc=>?_,by rw[n,H.next_del]⟩
  ·rw[List.mem_cons,not_or] at hc
   rw[g c hc.2,get_del_other hc.1]
  ·rcases List.mem_cons.1 hc with rfl|hc
   ·rw[g c nd.1,H.get_del,upd,if_pos rfl]
   ·exact gn c hc
theorem Kfin_rets (res:List Rs)(Q:V→H→Prop)(tm:T V){h h':H}{ds:List Nat}(hm:marks ds h=some h'):Kfin res Q .ret ⟨tm,h,ds⟩=P1 (resO (rsL tm h' res)) h' Q:=by
 apply propext
 simp only[Kfin,hm,resV_eq]
 cases he:resO (rsL tm h' res) with
 |none=>exact⟨fun⟨_,_,e,e2,_⟩=>(by cases e;rw[he] at e2;cases e2),fun q=>q.elim⟩
 |some v=>exact⟨fun⟨_,_,e,e2,q⟩=>(by cases e;rw[he] at e2;cases e2;exact q),fun q=>⟨h',v,rfl,he,q⟩⟩
theorem marks_sub {h0 h h':H}{ds:List Nat}(s:h0.Sub h)(hw0:h0.wf)(lo:∀d∈ds,h0.next≤d)(g:∀c,c ∉ds→h'.get c=h.get c)(gn:∀c,c∈ds→h'.get c=none)(n:h'.next=h.next):h0.Sub h':=by
 refine⟨⟨by rw[n];exact s.next,fun b y e=>?_⟩,fun b y e=>?_⟩
 ·rw[g b fun hb=>by have:=lo b hb;have:=hw0 b y e;omega]
  exact s.get e
 ·rw[n]
  by_cases hb:b∈ds
  ·rw[gn b hb] at e;cases e
  ·rw[g b hb] at e;exact s.wf b y e
theorem nthI {l:List Int}{j:Nat}(hj:j<l.length):nth j (l.map iv)=some (.int .i64 (l.getD j 0)):=by
 rw[nth_get,List.getElem?_map,List.getElem?_eq_getElem hj,List.getD_eq_getElem?_getD,List.getElem?_eq_getElem hj];rfl
theorem putI {l:List Int}{j:Nat}(hj:j<l.length)(n:Int):putN j [.int .i64 n] (l.map iv)=some ((l.set j n).map iv):=by
 rw[putN_one (by rw[List.length_map];exact hj),List.map_set];rfl
theorem getD_set {l:List Int}{j k:Nat}(hj:j<l.length)(n:Int):(l.set j n).getD k 0=if k=j then n else l.getD k 0:=by
 rw[List.getD_eq_getElem?_getD,List.getElem?_set]
 by_cases e:k=j
 ·subst e;simp[hj]
 ·rw[if_neg (fun h=>e h.symm),if_neg e,List.getD_eq_getElem?_getD]
theorem q_iaa_in {sz n b o k:Nat}(hk:k<n):q_iaa n sz (.ptr b o) (.int .i64 (k:Int))=some (.ptr b (o+k*sz)):=by
 have hb:Nat.blt k n=true:=by rw[Nat.blt_eq];exact hk
 simp only[q_iaa,nat_cst,hb,og_true]
namespace Tryz
def accR (r:Rb)(x:Nat)(v:List Int):Nat→Int
 |0=>v.getD (x+1) 0
 |m+1=>match takeN r x m with
  |some ef=>max (accR r x v m) (earn (wantN r m) ef.2+v.getD ef.1 0)
  |none=>accR r x v m
def mstep (r:Rb)(x:Nat)(v:List Int):List Int:=v.set x (accR r x v (2*r.wants.length))
def madeL (r:Rb):Nat→List Int
 |0=>List.replicate 61 0
 |n+1=>mstep r (r.len-(n+1)) (madeL r n)
theorem takeN_bd {r:Rb}(k:RbOk r){x m:Nat}(hx:x<r.len){e:Nat}{f:Int}(h:takeN r x m=some (e,f)):(x<e∧e≤r.len)∧(0≤f∧f≤4)∧0≤earn (wantN r m) f∧earn (wantN r m) f≤100:=by
 unfold takeN at h
 split at h
 ·rename_i w hw
  have kw:=k.w w (List.mem_of_getElem? hw)
  obtain⟨h1,h2,h3,_,_⟩:=takeR_bd kw hx h
  have ew:wantN r m=w:=by unfold wantN;rw[hw];rfl
  rw[ew]
  exact⟨h1,⟨h2,h3⟩,earn_bd kw ⟨h2,h3⟩⟩
 ·cases h
theorem accR_bd {r:Rb}(k:RbOk r){x:Nat}(hx:x<r.len){v:List Int}{B:Int}(hv:∀j,0≤v.getD j 0∧v.getD j 0≤B):∀m,0≤accR r x v m∧accR r x v m≤B+100
 |0=>by have:=hv (x+1);simp only[accR];omega
 |m+1=>by
  have ih:=accR_bd k hx hv m
  unfold accR
  split
  ·rename_i ef h
   obtain⟨e,f⟩:=ef
   have:=takeN_bd k hx h
   have:=hv e
   simp only
   omega
  ·exact ih
theorem mstep_len (r:Rb)(x:Nat)(v:List Int):(mstep r x v).length=v.length:=by simp[mstep]
theorem madeL_ok {r:Rb}(k:RbOk r):∀n,n≤r.len→(madeL r n).length=61∧∀j,0≤(madeL r n).getD j 0∧(madeL r n).getD j 0≤100*(n:Int)
 |0,_=>by
  refine⟨by simp[madeL],fun j=>?_⟩
  have:(madeL r 0).getD j 0=0:=by
   simp only[madeL,List.getD_eq_getElem?_getD,List.getElem?_replicate]
   split<;>rfl
  rw[this];omega
 |n+1,h=>by
  obtain⟨h1,h2⟩:=madeL_ok k n (by omega)
  refine⟨by rw[madeL,mstep_len,h1],fun j=>?_⟩
  have kl:=k.len
  have hb:=accR_bd k (x:=r.len-(n+1)) (by omega) h2 (2*r.wants.length)
  rw[madeL,mstep,getD_set (by omega)]
  split
  ·omega
  ·have:=h2 j;omega
end Tryz
end Go.Ab
namespace Go.Ab
theorem SlAt_keep2 {h h':H}{S:Nat→Prop}{x:V}{sz:Nat}{rows:List (List V)}(a:SlAt h x sz rows)(k:Keeps S h h')(n:rows≠[]→∀b,blkOf x b→¬S b):SlAt h' x sz rows:=by
 obtain⟨a1,a0,a2⟩:=a
 refine⟨a1,a0,?_⟩
 rcases a2 with a2|⟨b,o,c,cs,e1,e2,e3⟩
 ·exact .inl a2
 ·refine .inr ⟨b,o,c,cs,e1,?_,e3⟩
  by_cases hr:rows=[]
  ·exact .inl hr
  ·exact .inr (k.cells (e2.resolve_left hr) (n hr b ⟨_,_,_,e1⟩))
end Go.Ab
namespace Go.Ab.Tryz
theorem CdAt.keep {h h':H}{cd:Nat}{F W:V}{r:Rb}(d:CdAt h cd F W r)(hw:h.wf){S:Nat→Prop}(k:Keeps S h h')(n:∀c,S c→h.next≤c):CdAt h' cd F W r:=
 ⟨k.2 _ _ d.g fun e=>by have:=n _ e;have:=hw _ _ d.g;omega,SlAt_keep2 d.a.f k fun hr b hb e=>by have:=SlAt_lt hw d.a.f hr b hb;have:=n _ e;omega,SlAt_keep2 d.a.w k fun hr b hb e=>by have:=SlAt_lt hw d.a.w hr b hb;have:=n _ e;omega⟩
set_option maxHeartbeats 8000000 in
theorem pos_ev {h:H}(hw:h.wf){cd c3 c4 x:Nat}{F W:V}{r:Rb}(d:CdAt h cd F W r)(k:RbOk r)(hx:x<r.len){v:List Int}(hl:v.length=61){B:Int}(hB:0≤B∧B≤10000)(hv:∀j,0≤v.getD j 0∧v.getD j 0≤B)
  (g3:h.get c3=some (.cells .rw (v.map iv))) (g4:h.get c4=some (.cells .rw [.int .i64 (x:Int)])) (n3:c3≠cd∧c3≠c4) (nF:r.faults.map encI≠[]→∀b,blkOf F b→b≠c3) (nW:r.wants.map encWt≠[]→∀b,blkOf W b→b≠c3) {tm:Go.Ab.T V} {c2:Nat} (t2:(Opd.t 2).ev tm=.ptr c2 0) (t0:(Opd.t 0).ev tm=.ptr cd 0) (t3:(Opd.t 3).ev tm=.ptr c3 0) (t4:(Opd.t 4).ev tm=.ptr c4 0) (ds:List Nat):
  Go.Ab.W fnG fastA 44 29 none (navB [true,true,false,true,true,true,true,false] c29.body) ⟨tm,h,ds⟩ fun x1 s1=>x1=.nrm∧∃(tm':Go.Ab.T V) (h':H) (dd:Nat),s1=⟨tm',h',dd::ds⟩∧h'.wf∧Keeps (fun c=>c=c3) h h'∧h'.get c3=some (.cells .rw ((mstep r x v).map iv))∧h.next≤dd∧h'.get dd=some .dfr∧(Opd.t 0).ev tm'=.ptr cd 0∧(Opd.t 3).ev tm'=.ptr c3 0∧(Opd.t 4).ev tm'=.ptr c4 0∧(Opd.t 2).ev tm'=.ptr c2 0:=by
 have kl:=k.len
 have lt3:=hw _ _ g3
 have lt4:=hw _ _ g4
 have ltd:=hw _ _ d.g
 have ww:wr .i64 ((x:Int)+1)=((x+1:Nat):Int):=by rw[wr_in (by omega) (by omega)];rfl
 have hset:putN x [V.int .i64 (v.getD (x+1) 0)] (v.map iv)=some ((v.set x (v.getD (x+1) 0)).map iv):=putI (by omega) _
 have i1:q_iaa 61 1 (.ptr c3 0) (.int .i64 ((x+1:Nat):Int))=some (.ptr c3 (x+1)):=by rw[q_iaa_in (by omega),Nat.zero_add,Nat.mul_one]
 have i0:q_iaa 61 1 (.ptr c3 0) (.int .i64 (x:Int))=some (.ptr c3 x):=by rw[q_iaa_in (by omega),Nat.zero_add,Nat.mul_one]
 have c4c:=cells_of g4
 have c3c:=cells_of g3
 simp only[navB,c29]
 simp -implicitDefEqProofs(maxSteps:=999999)(disch:=first|with_reducible rfl|omega|(simp only[nA,nS,nD]<;>omega)|fail)only[go_sem,t0,t3,t4,c4c,c3c,ww,i1,i0,nthI (show x+1<v.length by omega),g3,hset]
 obtain⟨hA,ehA⟩:∃z,h.set c3 (.cells .rw ((v.set x (v.getD (x+1) 0)).map iv))=z:=⟨_,rfl⟩
 rw[ehA]
 have wA:hA.wf:=by rw[←ehA];exact H.wf_set hw _ g3
 have kA:Keeps (fun c=>c=c3) h hA:=by rw[←ehA];exact Keeps.set _ _ _
 have lA:hA.next=h.next:=by rw[←ehA,H.next_set]
 have gA3:hA.get c3=some (.cells .rw ((v.set x (v.getD (x+1) 0)).map iv)):=by rw[←ehA];exact get_set_same rfl
 clear ehA
 have dA:CdAt hA cd F W r:=⟨kA.2 _ _ d.g (fun e=>n3.1 e.symm),SlAt_keep2 d.a.f kA nF,SlAt_keep2 d.a.w kA nW⟩
 have gA4:=kA.2 _ _ g4 (fun e=>n3.2 e.symm)
 refine cuts_ev wA cd x _ fun hB sB lB gBa gBb=>?_
 rw[lA] at lB gBa gBb⊢
 have wB:=sB.wf
 simp -implicitDefEqProofs(maxSteps:=999999)(disch:=first|with_reducible rfl|omega|(simp only[nA,nS,nD]<;>omega)|fail)only[go_sem]
 refine W_gen (P:=fun tm=>(Opd.t 2).ev tm=.ptr c2 0∧(Opd.t 0).ev tm=.ptr cd 0∧(Opd.t 3).ev tm=.ptr c3 0∧(Opd.t 4).ev tm=.ptr c4 0∧(Opd.t 25).ev tm=.fn 66 [] [.ptr h.next 0,.ptr (h.next+1) 0]) ⟨(by simp[ev_c,ev_put,t2]<;>rfl),(by simp[ev_c,ev_put,t0]<;>rfl),(by simp[ev_c,ev_put,t3]<;>rfl),(by simp[ev_c,ev_put,t4]<;>rfl),(by simp[ev_c,ev_put]<;>rfl)⟩ fun tm ⟨t2,t0,t3,t4,t25⟩=>?_
 refine W_rf t25 ?_
 generalize hr:LoopR.mk _ _ _ _ _ _ _ _ _=r0
 have fB:=congrArg LoopR.body hr
 have fA:=congrArg LoopR.assign hr
 have fN:=congrArg LoopR.n hr
 have fF:=congrArg LoopR.fn hr
 have fP:=congrArg LoopR.ps hr
 have fT:=congrArg LoopR.tm hr
 dsimp only at fB fA fN fF fP fT
 have hrs:r0.st=.ready:=by rw[←hr]
 have hrp:r0.pend=none:=by rw[←hr]
 have nxA:hA.next=h.next:=lA
 have lB1:(hB.add .dfr).next=hB.next+1:=H.next_add _ _
 have kB:=Keeps.of (sB.trans (((H.Sub.refl wB).add .dfr).add (.loop r0))) (fun c=>c=c3)
 obtain⟨hC,ehC⟩:∃z,(hB.add .dfr).add (.loop r0)=z:=⟨_,rfl⟩
 have sBC:hB.Sub hC:=by rw[←ehC];exact(((H.Sub.refl wB).add .dfr).add (.loop r0))
 have gCd:hC.get hB.next=some .dfr:=by rw[←ehC,get_add_old (by rw[lB1];omega),get_add_new rfl]
 have gCl:hC.get (hB.next+1)=some (.loop r0):=by rw[←ehC];exact get_add_new lB1.symm
 have nxC:hC.next=hB.next+2:=by rw[←ehC];simp only[H.next_add]
 rw[ehC] at kB⊢
 clear ehC
 have kC:Keeps (fun c=>c=c3) h hC:=(kA.trans kB).mono fun c hc=>hc.elim id id
 have sAC:=sB.trans sBC
 obtain⟨I,hI⟩:∃I:Nat→H→Prop,∀m z,I m z↔z.wf∧Keeps (fun c=>c=c3) h z∧hC.next≤z.next∧z.get c3=some (.cells .rw ((v.set x (accR r x v m)).map iv))∧z.cells h.next=some [.ptr cd 0]∧z.cells (h.next+1)=some [.int .i64 (x:Int)]∧z.get hB.next=some .dfr∧z.get (hB.next+1)=some (.loop r0):=⟨_,fun _ _=>Iff.rfl⟩
 have dI:∀m z,I m z→CdAt z cd F W r:=fun m z hz=>by
  obtain⟨_,kz,_⟩:=(hI m z).1 hz
  exact⟨kz.2 _ _ d.g (fun e=>n3.1 e.symm),SlAt_keep2 d.a.f kz nF,SlAt_keep2 d.a.w kz nW⟩
 have hI0:I 0 hC:=(hI _ _).2 ⟨sBC.wf,kC,Nat.le_refl _,sAC.get gA3,sBC.cells gBa,sBC.cells gBb,gCd,gCl⟩
 rw[Ev_fn,show appN [] (appN [V.yld (hB.next+1)] [V.ptr h.next 0,V.ptr (h.next+1) 0])=[.yld (hB.next+1),.ptr h.next 0,.ptr (h.next+1) 0] from rfl]
 refine(cuts1_gen (cd:=cd) (F:=F) (W:=W) (y:=.yld (hB.next+1)) (S:=fun c=>c=c3∨c=hB.next+1) (I:=I) k hx (fun m z e f hm hIz htk=>?_) (fun m z hm hIz htk=>?_) (fun m z z' hIz sz=>?_) (fun m z hIz=>?_) (fun c hc=>hc.elim (fun e=>by omega) fun e=>by omega) hI0).mono fun u h7 hu=>?_
 ·obtain⟨w,kz,lz,gz3,ga,gb,gd,gl⟩:=(hI _ _).1 hIz
  obtain⟨hxe,hf,he⟩:=takeN_bd k hx htk
  refine Ev.gen fun Q2 q2=>?_
  refine Ev_yld (tm:=(tm.put (some (.agg (cutV (m/2) x (decide (m%2=1))))) 26).put (some (.agg [.int .i64 (e:Int),.int .i64 (earn (wantN r m) f)])) 27) gl (by rw[←fP,←fT];rfl) ?_
  rw[←fA,←fN,←fF]
  obtain⟨en,hen⟩:∃en,earn (wantN r m) f=en:=⟨_,rfl⟩
  rw[hen] at he⊢
  have sx:z.Sub (z.add (.cells .rw [.int .i64 (e:Int),.int .i64 en])):=(H.Sub.refl w).add _
  have gw:(z.add (.cells .rw [.int .i64 (e:Int),.int .i64 en])).cells z.next=some [.int .i64 (e:Int),.int .i64 en]:=cells_add_new rfl
  have lw:(z.add (.cells .rw [.int .i64 (e:Int),.int .i64 en])).next=z.next+1:=H.next_add _ _
  simp -implicitDefEqProofs(maxSteps:=999999)(disch:=first|with_reducible rfl|omega|(simp only[nA,nS,nD]<;>omega)|fail)only[go_sem,t0,t3,t4]
  generalize z.add _=z1 at sx gw lw⊢
  unfold Kasg
  refine⟨rfl,r0,sx.get gl,hrs,?_⟩
  obtain⟨rb,hrb⟩:∃rb:LoopR,rb={r0 with st:=.busy}:=⟨_,rfl⟩
  have hrb1:({rb with st:=.ready,pend:=none}:LoopR)=r0:=by rw[hrb];exact rLoop hrs hrp
  rw[←hrb,←fB,←fN,←fF]
  obtain⟨nv,hnv⟩:∃nv,v.set x (accR r x v m)=nv:=⟨_,rfl⟩
  rw[hnv] at gz3
  have ln:nv.length=61:=by rw[←hnv,List.length_set,hl]
  have ha:=accR_bd k hx hv m
  have vx:nv.getD x 0=accR r x v m:=by rw[←hnv,getD_set (by omega),if_pos rfl]
  have ve:nv.getD e 0=v.getD e 0:=by rw[←hnv,getD_set (by omega),if_neg (by omega)]
  have hve:=hv e
  have nx1:=nthI (l:=nv) (j:=x) (by omega)
  have ne1:=nthI (l:=nv) (j:=e) (by omega)
  rw[vx] at nx1
  rw[ve] at ne1
  have put1:=putI (l:=nv) (j:=x) (by omega) (max (accR r x v m) (en+v.getD e 0))
  have i2:q_iaa 61 1 (.ptr c3 0) (.int .i64 (e:Int))=some (.ptr c3 e):=by rw[q_iaa_in (by omega),Nat.zero_add,Nat.mul_one]
  have w2:wr .i64 (en+v.getD e 0)=en+v.getD e 0:=wr_in (by omega) (by omega)
  have g3a:=sx.get gz3
  have g4a:z1.cells c4=some [.int .i64 (x:Int)]:=sx.cells (cells_of (kz.2 _ _ g4 (fun e=>n3.2 e.symm)))
  have gda:=sx.get gd
  have gaa:=sx.cells ga
  have gba:=sx.cells gb
  have kz1:=(kz.trans (Keeps.of sx _)).mono fun c hc=>hc.elim id id
  have ltl:=w _ _ gl
  have kl1:Keeps (fun c=>c=hB.next+1) z1 (z1.set (hB.next+1) (.loop rb)):=Keeps.set _ _ _
  have wl1:=H.wf_set sx.wf (.loop rb) (sx.get gl)
  have gl1:(z1.set (hB.next+1) (.loop rb)).get (hB.next+1)=some (.loop rb):=get_set_same rfl
  have ll1:(z1.set (hB.next+1) (.loop rb)).next=z1.next:=H.next_set _ _ _
  generalize z1.set (hB.next+1) (.loop rb)=z2 at kl1 wl1 gl1 ll1⊢
  have g32:=kl1.2 _ _ g3a (by omega)
  have c32:=cells_of g32
  have c42:=kl1.cells g4a (by omega)
  have gw2:=kl1.cells gw (by omega)
  have sM:=(H.Sub.refl wl1).add (.cells .rw [.int .i64 (en+v.getD e 0)])
  have g33:=sM.get g32
  have c43:=sM.cells c42
  have gw3:=sM.cells gw2
  have c33:=sM.cells c32
  have sl1:SlAt (z2.add (.cells .rw [.int .i64 (en+v.getD e 0)])) (.sl z2.next 0 1 (.fix 1)) 1 (([en+v.getD e 0]:List Int).map encI):=own1_lit
  simp -implicitDefEqProofs(maxSteps:=999999)(disch:=first|with_reducible rfl|omega|(simp only[nA,nS,nD]<;>omega)|fail)only[go_sem,t0,t3,t4,c42,c43,c32,c33,gw2,gw3,i0,i2,nx1,ne1,w2]
  refine most_ev sl1 _ _ ?_
  simp -implicitDefEqProofs(maxSteps:=999999)(disch:=first|with_reducible rfl|omega|(simp only[nA,nS,nD]<;>omega)|fail)only[go_sem,t0,t3,t4,c42,c43,c32,c33,gw2,gw3,i0,i2,nx1,ne1,g33,put1]
  have es:nv.set x (max (accR r x v m) (en+v.getD e 0))=v.set x (accR r x v (m+1)):=by
   rw[←hnv,List.set_set]
   simp only[accR,htk,hen]
  rw[es]
  have gl2:=sM.get gl1
  obtain⟨zM,hzM⟩:∃zM,z2.add (.cells .rw [.int .i64 (en+v.getD e 0)])=zM:=⟨_,rfl⟩
  rw[hzM] at sM g33 gl2⊢
  have kl2:Keeps (fun c=>c=c3) zM (zM.set c3 (.cells .rw ((v.set x (accR r x v (m+1))).map iv))):=Keeps.set _ _ _
  have wl2:=H.wf_set sM.wf (.cells .rw ((v.set x (accR r x v (m+1))).map iv)) g33
  have gl3:(zM.set c3 (.cells .rw ((v.set x (accR r x v (m+1))).map iv))).get c3=some (.cells .rw ((v.set x (accR r x v (m+1))).map iv)):=get_set_same rfl
  generalize zM.set c3 _=z3 at kl2 wl2 gl3⊢
  have gl4:=kl2.2 _ _ gl2 (by omega)
  unfold Kround
  refine⟨rb,gl4,q2 _ _ ⟨rfl,?_,?_⟩⟩
  ·have ks:Keeps (fun c=>c=hB.next+1) z3 (z3.set (hB.next+1) (.loop {rb with st:=.ready,pend:=none})):=Keeps.set _ _ _
   have ws:=H.wf_set wl2 (.loop {rb with st:=.ready,pend:=none}) gl4
   have gs:(z3.set (hB.next+1) (.loop {rb with st:=.ready,pend:=none})).get (hB.next+1)=some (.loop {rb with st:=.ready,pend:=none}):=get_set_same rfl
   rw[hrb1] at ks ws gs⊢
   generalize z3.set (hB.next+1) _=z4 at ks ws gs⊢
   have kall:=((((kl1.trans (Keeps.of sM (fun _=>False))).trans kl2).trans ks)).mono (T:=fun c=>c=c3∨c=hB.next+1) fun c hc=>by
    rcases hc with((hc|hc)|hc)|hc
    ·exact .inr hc
    ·exact hc.elim
    ·exact .inl hc
    ·exact .inr hc
   refine(hI _ _).2 ⟨ws,((kz1.trans kall).mono (T:=fun c=>c=c3∨h.next≤c) fun c hc=>?_).new hw,by have:=sx.next;have:=kall.1;omega,ks.2 _ _ gl3 (by omega),kall.cells gaa (by omega),kall.cells gba (by omega),kall.2 _ _ gda (by omega),gs⟩
   rcases hc with hc|hc|hc
   ·exact .inl hc
   ·exact .inl hc
   ·exact .inr (by omega)
  ·have ks:Keeps (fun c=>c=hB.next+1) z3 (z3.set (hB.next+1) (.loop {rb with st:=.ready,pend:=none})):=Keeps.set _ _ _
   refine((((Keeps.of sx (fun _=>False)).trans kl1).trans (Keeps.of sM (fun _=>False))).trans kl2 |>.trans ks).mono fun c hc=>?_
   rcases hc with(((hc|hc)|hc)|hc)|hc
   ·exact hc.elim
   ·exact .inr hc
   ·exact hc.elim
   ·exact .inl hc
   ·exact .inr hc
 ·have:=(hI _ _).1 hIz
  have ea:accR r x v (m+1)=accR r x v m:=by simp only[accR,htk]
  exact(hI _ _).2 (by rw[ea];exact this)
 ·obtain⟨w,kz,lz,g3,ga,gb,gd,gl⟩:=(hI _ _).1 hIz
  exact(hI _ _).2 ⟨sz.wf,(kz.trans (Keeps.of sz _)).mono fun c hc=>hc.elim id id,Nat.le_trans lz sz.next,sz.get g3,sz.cells ga,sz.cells gb,sz.get gd,sz.get gl⟩
 ·obtain⟨w,kz,lz,g3,ga,gb,gd,gl⟩:=(hI _ _).1 hIz
  exact⟨w,dI _ _ hIz,ga,gb⟩
 ·obtain⟨w,kz,lz,g3,ga,gb,gd,gl⟩:=(hI _ _).1 hu
  refine⟨r0,gl,by rw[hrs];simp,?_⟩
  rw[hrp]
  have ks:Keeps (fun c=>c=hB.next+1) h7 (h7.set (hB.next+1) (.loop {r0 with st:=.exhausted})):=Keeps.set _ _ _
  have ws:=H.wf_set w (.loop {r0 with st:=.exhausted}) gl
  rw[hrp] at ks ws
  generalize h7.set (hB.next+1) _=h8 at ks ws⊢
  simp -implicitDefEqProofs(maxSteps:=999999)(disch:=first|with_reducible rfl|omega|(simp only[nA,nS,nD]<;>omega)|fail)only[go_sem]
  have lt3':c3<hB.next:=by omega
  exact⟨_,_,_,rfl,ws,((kz.trans ks).mono fun c hc=>hc.elim (fun e=>.inl e) (fun e=>.inr (by omega))).new hw,ks.2 _ _ g3 (by omega),by omega,ks.2 _ _ gd (by omega),(by simp[ev_c,ev_put,t0]<;>rfl),(by simp[ev_c,ev_put,t3]<;>rfl),(by simp[ev_c,ev_put,t4]<;>rfl),(by simp[ev_c,ev_put,t2]<;>rfl)⟩
end Go.Ab.Tryz
namespace Go.Ab.Tryz
theorem allOne_ivB (L:List Int):allOne (L.map iv)=true:=allOne_eq.2 fun v hv=>by
 obtain⟨x,_,rfl⟩:=List.mem_map.1 hv;rfl
set_option maxHeartbeats 8000000 in
theorem made_ev {h:H}(hw:h.wf){cd:Nat}{F W:V}{r:Rb}(d:CdAt h cd F W r)(k:RbOk r)(Q:V→H→Prop)(q:∀h',h.Sub h'→Q (.agg ((madeL r r.len).map iv)) h'):
  Ev fnG fastA (.fn 29 [] []) [.ptr cd 0] h Q:=by
 have kl:=k.len
 have ltd:=hw _ _ d.g
 obtain⟨R,hR⟩:∃R,navB [true,true,false,true,true,true,true,false] c29.body=R:=⟨_,rfl⟩
 have hpos:=fun(h:H) (hw:h.wf) c3 c4 x v B d hx hl hB hv g3 g4 n3 nF nW tm c2 t2 t0 t3 t4 ds=>pos_ev (h:=h) hw (cd:=cd) (c3:=c3) (c4:=c4) (x:=x) (F:=F) (W:=W) (r:=r) d k hx (v:=v) hl (B:=B) hB hv g3 g4 n3 nF nW (tm:=tm) (c2:=c2) t2 t0 t3 t4 ds
 rw[hR] at hpos
 simp only[navB,c29] at hR
 refine Ev_body (fd:=c29) rfl rfl rfl ?_
 simp only[c29]
 rw[hR]
 clear hR
 have wl:wr .i64 ((r.len:Int)-1)=(r.len:Int)-1:=wr_in (by omega) (by omega)
 have sA:=((H.Sub.refl hw).add (.cells .rw ((madeL r 0).map iv))).add (.cells .rw ((madeL r 0).map iv))
 have nA:((h.add (.cells .rw ((madeL r 0).map iv))).add (.cells .rw ((madeL r 0).map iv))).next=h.next+2:=by simp only[H.next_add]
 have l1:(h.add (.cells .rw ((madeL r 0).map iv))).next=h.next+1:=H.next_add _ _
 have gA3:((h.add (.cells .rw ((madeL r 0).map iv))).add (.cells .rw ((madeL r 0).map iv))).get (h.next+1)=some (.cells .rw ((madeL r 0).map iv)):=by rw[←l1];exact get_add_new rfl
 have gA2:((h.add (.cells .rw ((madeL r 0).map iv))).add (.cells .rw ((madeL r 0).map iv))).get h.next=some (.cells .rw ((madeL r 0).map iv)):=by rw[get_add_old (by omega)];exact get_add_new rfl
 obtain⟨zz,hzz⟩:∃zz,(madeL r 0).map iv=zz:=⟨_,rfl⟩
 rw[hzz] at sA nA gA3 gA2
 simp only[madeL,List.replicate,List.map_cons,List.map_nil,iv] at hzz
 simp -implicitDefEqProofs(maxSteps:=999999)(disch:=first|with_reducible rfl|omega|(simp only[nA,nS,nD]<;>omega)|fail)only[go_sem,cells_of d.g]
 rw[hzz]
 generalize H.add (H.add _ _) _=hA at sA nA gA3 gA2⊢
 have dA:=d.mono sA
 have zl:zz.length=61:=by rw[←hzz];rfl
 simp -implicitDefEqProofs(maxSteps:=999999)(disch:=first|with_reducible rfl|omega|(simp only[nA,nS,nD]<;>omega)|fail)only[go_sem,cells_of dA.g,dk0,wl]
 have sB:=(H.Sub.refl sA.wf).add (.cells .rw [.int .i64 ((r.len:Int)-1)])
 have gB:=get_add_new (h:=hA) (x:=Blk.cells .rw [.int .i64 ((r.len:Int)-1)]) rfl
 have nB:=H.next_add hA (.cells .rw [.int .i64 ((r.len:Int)-1)])
 generalize H.add hA _=hB at sB gB nB⊢
 refine W_count r.len (fun n s=>∃(tm:Go.Ab.T V) (h':H) (c4:Nat) (ds:List Nat),s=⟨tm,h',ds⟩∧h'.wf∧Keeps (fun c=>c=h.next+1) hA h'∧h'.get (h.next+1)=some (.cells .rw ((madeL r n).map iv))∧hA.next≤c4∧h'.get c4=some (.cells .rw [.int .i64 ((r.len:Int)-1-(n:Int))])∧ds.Nodup∧(∀d∈ds,hA.next≤d∧h'.get d=some .dfr)∧(Opd.t 0).ev tm=.ptr cd 0∧(Opd.t 2).ev tm=.ptr h.next 0∧(Opd.t 3).ev tm=.ptr (h.next+1) 0∧(Opd.t 4).ev tm=.ptr c4 0) ?_ ?_ (i:=0) (Nat.zero_le _)
  ⟨_,_,_,[],rfl,sB.wf,Keeps.of sB _,(by rw[show(madeL r 0).map iv=zz from hzz▸rfl];exact sB.get gA3),Nat.le_refl _,(by rw[show(r.len:Int)-1-((0:Nat):Int)=(r.len:Int)-1 by omega];exact gB),List.nodup_nil,(fun _ hd=>by simp at hd),(by simp[ev_c,ev_put]<;>rfl),(by simp[ev_c,ev_put]<;>rfl),(by simp[ev_c,ev_put]<;>rfl),(by simp[ev_c,ev_put]<;>rfl)⟩
 ·rintro n s hn ⟨tm,h',c4,ds,rfl,w',k',g3,l4,g4,nd,hds,t0,t2,t3,t4⟩
  obtain⟨x,hx⟩:∃x:Nat,r.len-(n+1)=x:=⟨_,rfl⟩
  have ex:(r.len:Int)-1-(n:Int)=(x:Int):=by omega
  rw[ex] at g4
  have h0x:(0:Int)≤(x:Int):=by omega
  obtain⟨ml,mb⟩:=madeL_ok k n (by omega)
  have g4c:=cells_of g4
  have nF:r.faults.map encI≠[]→∀b,blkOf F b→b≠h.next+1:=fun hr b hb e=>by have:=SlAt_lt hw d.a.f hr b hb;omega
  have nW:r.wants.map encWt≠[]→∀b,blkOf W b→b≠h.next+1:=fun hr b hb e=>by have:=SlAt_lt hw d.a.w hr b hb;omega
  have d':CdAt h' cd F W r:=⟨k'.2 _ _ dA.g (by omega),SlAt_keep2 dA.a.f k' nF,SlAt_keep2 dA.a.w k' nW⟩
  have bB:(0:Int)≤100*(n:Int)∧100*(n:Int)≤10000:=by omega
  simp -implicitDefEqProofs(maxSteps:=999999)(disch:=first|with_reducible rfl|omega|(simp only[nA,nS,nD]<;>omega)|fail)only[go_sem,t4,g4c,h0x]
  refine(hpos h' w' (h.next+1) c4 x (madeL r n) _ d' (by omega) ml bB mb g3 g4 (by omega) nF nW _ _ (by simp[ev_c,ev_put,t2]<;>rfl) (by simp[ev_c,ev_put,t0]<;>rfl) (by simp[ev_c,ev_put,t3]<;>rfl) (by simp[ev_c,ev_put,t4]<;>rfl) ds).mono fun x1 s1 hs1=>?_
  obtain⟨rfl,tm1,h1,dd,rfl,w1,k1,g31,ldd,gdd,t01,t31,t41,t21⟩:=hs1
  have g41:=cells_of (k1.2 _ _ g4 (by omega))
  have wx:wr .i64 ((x:Int)-1)=(x:Int)-1:=wr_in (by omega) (by omega)
  simp -implicitDefEqProofs(maxSteps:=999999)(disch:=first|with_reducible rfl|omega|(simp only[nA,nS,nD]<;>omega)|fail)only[go_sem,t41,g41,wx]
  have sC:=(H.Sub.refl w1).add (.cells .rw [.int .i64 ((x:Int)-1)])
  have n1:=k1.1
  have nk:=k'.1
  refine⟨_,_,h1.next,_,rfl,sC.wf,((k'.trans k1).trans (Keeps.of sC (fun _=>False))).mono (fun c hc=>hc.elim (fun hc=>hc.elim id id) fun hc=>hc.elim),?_,by omega,?_,?_,?_,(by simp[ev_c,ev_put,t01]<;>rfl),(by simp[ev_c,ev_put,t21]<;>rfl),(by simp[ev_c,ev_put,t31]<;>rfl),(by simp[ev_c,ev_put]<;>rfl)⟩
  ·rw[madeL,hx];exact sC.get g31
  ·rw[get_add_new rfl,show(r.len:Int)-1-((n+1:Nat):Int)=(x:Int)-1 by omega]
  ·refine List.nodup_cons.2 ⟨fun hm=>?_,nd⟩
   have:=w' _ _ (hds _ hm).2
   omega
  ·intro c hc
   rcases List.mem_cons.1 hc with rfl|hc
   ·exact⟨by omega,sC.get gdd⟩
   ·obtain⟨h1',h2'⟩:=hds _ hc
    exact⟨h1',sC.get (k1.2 _ _ h2' (by omega))⟩
 ·rintro s ⟨tm,h',c4,ds,rfl,w',k',g3,l4,g4,nd,hds,t0,t2,t3,t4⟩
  have h0x:¬(0:Int)≤(r.len:Int)-1-(r.len:Int):=by omega
  have g2:=k'.2 _ _ (gA2) (by omega)
  have lm:(madeL r r.len).length=61:=(madeL_ok k r.len (Nat.le_refl _)).1
  obtain⟨mv,hmv⟩:∃mv,(madeL r r.len).map iv=mv:=⟨_,rfl⟩
  have lmv:mv.length=61:=by rw[←hmv,List.length_map,lm]
  have hln:lenN mv=61:=by rw[lenN_eq,lmv]
  have hone:allOne mv=true:=by rw[←hmv];exact allOne_ivB _
  have hpt:putN 0 mv zz=some mv:=by
   have:=putN_app (pre:=[]) (new:=mv) (old:=zz) (rest:=[]) (by omega)
   simpa using this
  rw[hmv] at g3 q
  have hput:h'.put h.next 0 mv=some (h'.set h.next (.cells .rw mv)):=by
   cases hm:mv with
   |nil=>rw[hm] at lmv;simp at lmv
   |cons a b=>rw[hm] at hone hpt;exact H.put_rw hone g2 hpt
  have l2:=w' _ _ g2
  simp -implicitDefEqProofs(maxSteps:=999999)(disch:=first|with_reducible rfl|omega|(simp only[nA,nS,nD]<;>omega)|fail)only[go_sem,t2,t3,t4,cells_of g4,h0x,cells_of g3,g2,getN_full lmv,hone,hput,hln]
  have s3:h.Sub (h'.set h.next (.cells .rw mv)):=(k'.sub sA hw (fun c e=>by omega) w').set (Nat.le_refl _) l2 hw _
  have g22:(h'.set h.next (.cells .rw mv)).cells h.next=some mv:=cells_set_same rfl
  have hds2:∀c∈ds,hA.next≤c∧(h'.set h.next (.cells .rw mv)).get c=some .dfr:=fun c hc=>by
   obtain⟨h1',h2'⟩:=hds c hc
   exact⟨h1',by rw[get_set_other (by omega)];exact h2'⟩
  generalize h'.set h.next (.cells .rw mv)=h2 at s3 g22 hds2⊢
  obtain⟨h3,e3,m1,m2,m3⟩:=marks_ok nd fun c hc=>(hds2 c hc).2
  have g33:h3.cells h.next=some mv:=by
   obtain⟨kk,hk⟩:=H.cells_eq g22
   exact cells_of ((m1 h.next (fun hm=>by have:=(hds2 _ hm).1;omega)).trans hk)
  simp -implicitDefEqProofs(maxSteps:=999999)(disch:=first|with_reducible rfl|omega|(simp only[nA,nS,nD]<;>omega)|fail)only[go_sem,Kfin_rets _ _ _ e3,g33,t2,getN_full lmv,hone]
  exact q _ (marks_sub s3 hw (fun c hc=>by have:=(hds2 c hc).1;omega) m1 m2 m3)
end Go.Ab.Tryz
