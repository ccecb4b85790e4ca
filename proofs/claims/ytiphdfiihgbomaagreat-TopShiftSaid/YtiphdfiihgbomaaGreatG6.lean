/- Made: the slices' invariants; an attic with its truth (plain). slices.Collect of the cases. told: all cases of an attic. between: the least and the greatest difference of two events over all cases. Time, Between, Before, Wages. The least and the greatest differences over all cases (plain). What the law itself says a clock shows; whether a number is inside. Numbers that are wound off bytes: the contracts of Spool. A truth that is wound off numbers: Made. Slices that are made side by side. -/
import Derived.Test.YtiphdfiihgbomaaGreatG2
import Derived.Test.YtiphdfiihgbomaaGreatAc7
import Derived.Test.YtiphdfiihgbomaaGreatG5
set_option linter.unusedSimpArgs false
set_option linter.unusedVariables false
namespace Go.Ab.Tryz
open Go.Proofs
theorem rLoop {r0:LoopR}(h1:r0.st=.ready)(h2:r0.pend=none):({({r0 with st:=.busy}:LoopR) with st:=.ready,pend:=none}:LoopR)=r0:=by cases r0;simp_all
set_option maxHeartbeats 4000000 in
theorem appendSeq_ev {h:H}(hw:h.wf){d:Nat}{a:At}{C R G f W:V}{ms:List Nat}(dk:Dk h d a C R G f W ms)(r:Right a){cnt:Nat→Bool}(hcnt:∀i,i<a.rds.length→PureA h f [.int .i64 (i:Int)] (.bool (cnt i)))
  {b1:Nat} (g1:h.get b1=some (.cells .rw [.ptr d 0])) (Q:V→H→Prop) (q:∀y Ps h',FsO h h' y Ps→Ps.map Prod.snd=casesL a cnt→Q y h'):
  Ev fnG fastA (.fn 77 [] []) [.nils,.fn 78 [] [.ptr b1 0]] h Q:=by
 have hall:=casesL_len r cnt
 refine Ev_body (fd:=c77) rfl rfl rfl ?_
 simp -implicitDefEqProofs(maxSteps:=999999)(disch:=first|with_reducible rfl|omega|(simp only[nA,nS,nD]<;>omega)|fail)only[c77,go_sem]
 have s1:h.Sub (h.add (.cells .rw [.nils])):=(H.Sub.refl hw).add _
 have gc1:(h.add (.cells .rw [.nils])).get h.next=some (.cells .rw [.nils]):=get_add_new rfl
 have n1:=H.next_add h (.cells .rw [.nils])
 generalize h.add (.cells .rw [.nils])=h1 at s1 gc1 n1⊢
 have w1:=s1.wf
 refine W_gen (P:=fun tm=>(Opd.t 2).ev tm=.ptr h.next 0∧(Opd.t 6).ev tm=.fn 78 [] [.ptr b1 0]) ⟨(by simp[ev_c,ev_put]<;>rfl),(by simp[ev_c,ev_put]<;>rfl)⟩ fun tm ⟨t2,t6⟩=>?_
 refine W_rf t6 ?_
 generalize hr:LoopR.mk _ _ _ _ _ _ _ _ _=r0
 have fB:=congrArg LoopR.body hr
 have fA:=congrArg LoopR.assign hr
 have fN:=congrArg LoopR.n hr
 have fF:=congrArg LoopR.fn hr
 have fP:=congrArg LoopR.ps hr
 have fT:=congrArg LoopR.tm hr
 dsimp only at fB fA fN fF fP fT
 have hrs:r0.st=.ready:=by rw[←hr]
 have hrp:r0.pend=none:=by rw[←hr]
 obtain⟨J,hJ⟩:∃J:Nat→H→Prop,∀n x,J n x↔∃y Ps,CI h r0 (h1.next+1) h.next h1.next (casesL a cnt) n x y Ps:=⟨_,fun _ _=>Iff.rfl⟩
 have s3:h.Sub ((h1.add .dfr).add (.loop r0)):=(s1.add _).add _
 have n3:((h1.add .dfr).add (.loop r0)).next=h1.next+2:=by simp only[H.next_add]
 have j0:J 0 ((h1.add .dfr).add (.loop r0)):=(hJ _ _).2 ⟨.nils,[],⟨⟨(OwnSl.nil s3 26).c,fun p hp=>absurd hp List.not_mem_nil,fun p hp=>absurd hp List.not_mem_nil⟩,rfl,fun p hp=>absurd hp List.not_mem_nil,fun b hb=>(blkOf_nils hb).elim,
  get_add_new (by rw[H.next_add]),by rw[get_add_old (by rw[H.next_add];omega)];exact get_add_new rfl,by rw[get_add_old (by rw[H.next_add];omega),get_add_old (by omega)];exact gc1⟩⟩
 have tk:Taker h (.yld (h1.next+1)) (casesL a cnt) J (fun _=>False) (CK (h1.next+1) h.next) 0:=by
  refine⟨fun p x hx=>?_,fun p x x' hx s=>?_,fun p x b hx hb=>?_,fun p x x' hx s b hb=>?_,fun p t ht x0 x R hx hR=>?_⟩
  ·obtain⟨y,Ps,k⟩:=(hJ _ _).1 hx
   exact⟨k.f.o.1,Nat.zero_le _⟩
  ·obtain⟨y,Ps,k⟩:=(hJ _ _).1 hx
   exact(hJ _ _).2 ⟨y,Ps,k.mono s⟩
  ·obtain⟨y,Ps,k⟩:=(hJ _ _).1 hx
   have wx:=k.f.o.1.wf
   rcases hb with hb|hb|⟨y2,g2,hb⟩
   ·subst hb;exact wx _ _ k.gl
   ·subst hb;exact wx _ _ k.gc
   ·rw[k.gc] at g2;cases g2;exact(k.f.o.blk hb).2.1
  ·obtain⟨y,Ps,k⟩:=(hJ _ _).1 hx
   rcases hb with hb|hb|⟨y2,g2,hb⟩
   ·exact .inl hb
   ·exact .inr (.inl hb)
   ·rw[s.get k.gc] at g2;cases g2
    exact .inr (.inr ⟨y,k.gc,hb⟩)
  ·obtain⟨y,Ps,k⟩:=(hJ _ _).1 hx
   refine Ev.gen fun Q2 q2=>?_
   have sx:=hR.1
   have kx:=k.mono sx
   have wx:=sx.wf
   have lx0:=k.f.o.1.wf _ _ k.gl
   have lx:=sx.next
   have lt:t.2.length=25:=(casesL_in r t (List.mem_of_getElem? ht)).len
   obtain⟨F,hF⟩:∃F,F=R::t.2.map iv:=⟨_,rfl⟩
   have lF:F.length=26:=by rw[hF,List.length_cons,List.length_map,lt]
   have oF:allOne F=true:=by rw[hF,allOne_cons,hR.one,allOne_iv];rfl
   have nF:F≠[]:=by rw[hF];exact List.cons_ne_nil _ _
   have gNF:getN 0 26 F=some F:=by rw[←lF];exact getN_eq.2 ⟨by rw[List.drop_zero,List.take_length],by omega⟩
   have lnF:lenN F=26:=by rw[lenN_eq,lF]
   have ovF:over F [.nils,.int .i64 0,.int .i64 0,.int .i64 0,.int .i64 0,.int .i64 0,.int .i64 0,.int .i64 0,.int .i64 0,.int .i64 0,.int .i64 0,.int .i64 0,.int .i64 0,.int .i64 0,.int .i64 0,.int .i64 0,.int .i64 0,.int .i64 0,.int .i64 0,.int .i64 0,.int .i64 0,.int .i64 0,.int .i64 0,.int .i64 0,.int .i64 0,.int .i64 0]=some F:=over_all (by rw[lF];rfl)
   have pF:(x.add (.cells .rw [.nils,.int .i64 0,.int .i64 0,.int .i64 0,.int .i64 0,.int .i64 0,.int .i64 0,.int .i64 0,.int .i64 0,.int .i64 0,.int .i64 0,.int .i64 0,.int .i64 0,.int .i64 0,.int .i64 0,.int .i64 0,.int .i64 0,.int .i64 0,.int .i64 0,.int .i64 0,.int .i64 0,.int .i64 0,.int .i64 0,.int .i64 0,.int .i64 0,.int .i64 0])).put x.next 0 F=some ((x.add (.cells .rw [.nils,.int .i64 0,.int .i64 0,.int .i64 0,.int .i64 0,.int .i64 0,.int .i64 0,.int .i64 0,.int .i64 0,.int .i64 0,.int .i64 0,.int .i64 0,.int .i64 0,.int .i64 0,.int .i64 0,.int .i64 0,.int .i64 0,.int .i64 0,.int .i64 0,.int .i64 0,.int .i64 0,.int .i64 0,.int .i64 0,.int .i64 0,.int .i64 0,.int .i64 0])).set x.next (.cells .rw F)):=put_full (get_add_new rfl) (by rw[lF];rfl) nF oF
   show Ev fnG fastA _ [.agg (R::t.2.map iv)] _ _
   rw[←hF]
   refine Ev_yld (tm:=tm.put (some (.agg F)) 7) kx.gl (by rw[←fP,←fT];rfl) ?_
   rw[←fA,←fN,←fF]
   simp -implicitDefEqProofs(maxSteps:=999999)(disch:=first|with_reducible rfl|omega|(simp only[nA,nS,nD]<;>omega)|fail)only[go_sem,t2,lnF,pF]
   unfold Kasg
   have sx2:x.Sub (x.add (.cells .rw F)):=(H.Sub.refl wx).add _
   have gw:(x.add (.cells .rw F)).get x.next=some (.cells .rw F):=get_add_new rfl
   have nw:=H.next_add x (.cells .rw F)
   generalize x.add (.cells .rw F)=hy at sx2 gw nw⊢
   refine⟨rfl,r0,sx2.get kx.gl,hrs,?_⟩
   obtain⟨rb,hrb⟩:∃rb:LoopR,rb={r0 with st:=.busy}:=⟨_,rfl⟩
   have hrb1:({rb with st:=.ready,pend:=none}:LoopR)=r0:=by rw[hrb];exact rLoop hrs hrp
   rw[←hrb,←fB,←fN,←fF]
   have sy:=k.f.o.1.trans (sx.trans sx2)
   have K3:Keeps (fun b=>b=h1.next+1) hy (hy.set (h1.next+1) (.loop rb)):=Keeps.set _ _ _
   have s4:h.Sub (hy.set (h1.next+1) (.loop rb)):=sy.set (by omega) (by omega) hw _
   have gl4:(hy.set (h1.next+1) (.loop rb)).get (h1.next+1)=some (.loop rb):=get_set_same rfl
   have n4:(hy.set (h1.next+1) (.loop rb)).next=hy.next:=H.next_set _ _ _
   generalize hy.set (h1.next+1) (.loop rb)=h4 at K3 s4 gl4 n4⊢
   have gw4:=K3.2 _ _ gw (by omega)
   have gc4:=K3.2 _ _ (sx2.get kx.gc) (by omega)
   have s5:h.Sub (h4.add (.cells .rw F)):=s4.add _
   have K5:Keeps (fun b=>b=h1.next+1) x (h4.add (.cells .rw F)):=⟨by rw[H.next_add];omega,fun b w g nb=>by
    have g2:=K3.2 _ _ (sx2.get g) nb
    rw[get_add_old (s4.wf _ _ g2)];exact g2⟩
   have o4:OwnC h (h4.add (.cells .rw F)) y 26 (Ps.map rowF):=kx.f.o.keep K5 s5 fun b hb e=>by have:=k.yb b hb;omega
   have y5:SlAt (h4.add (.cells .rw F)) (.sl h4.next 0 1 (.fix 1)) 26 [F]:=SlAt.new _ rfl rfl (by simp) (by intro r hr;rw[List.mem_singleton] at hr;rw[hr];exact lF) (by simp)
   have lP:Ps.length≤15625:=by
    have:=congrArg List.length k.ps
    rw[List.length_map,List.length_take] at this
    omega
   have gl5:(h4.add (.cells .rw F)).get (h1.next+1)=some (.loop rb):=by rw[get_add_old (by omega)];exact gl4
   have gc5:(h4.add (.cells .rw F)).get h.next=some (.cells .rw [y]):=by rw[get_add_old (by omega)];exact gc4
   have n5:=H.next_add h4 (.cells .rw F)
   have y1:=kx.f.o.one
   simp -implicitDefEqProofs(maxSteps:=999999)(disch:=first|with_reducible rfl|omega|(simp only[nA,nS,nD]<;>omega)|fail)only[go_sem,t2,cells_of gc4,cells_of gw4,gNF,lnF,ovF]
   generalize h4.add (.cells .rw F)=h5 at s5 K5 o4 y5 gl5 gc5 n5⊢
   refine o4.app1 (by_:=224) hw lF (by decide) y5 oF (by rw[List.length_map];omega) (by rw[List.length_map];omega) fun y' h6 o6 n6 k6=>?_
   have ny:∀b,blkOf y b→b≠h1.next+1∧b≠h.next:=fun b hb=>by have:=k.yb b hb;omega
   have gl6:=k6.2 _ _ gl5 fun hb=>(ny _ hb).1 rfl
   have gc6:=k6.2 _ _ gc5 fun hb=>(ny _ hb).2 rfl
   have y1':=o6.one
   simp -implicitDefEqProofs(maxSteps:=999999)(disch:=first|with_reducible rfl|omega|(simp only[nA,nS,nD]<;>omega)|fail)only[go_sem,t2,gc6,y1',cells_one y1']
   unfold Kround
   rw[hF] at o6
   have hend:=CI.frm (z:=(h6.set h.next (.cells .rw [y'])).set (h1.next+1) (.loop r0)) hw k hR lt ht (Nat.le_refl _) (by omega) (by omega) s5 K5 (t:=t) o6 n6 k6 rfl
   refine⟨rb,by rw[get_set_other (by omega)];exact gl6,q2 _ _ ?_⟩
   rw[hrb1]
   exact⟨.inl ⟨rfl,(hJ _ _).2 ⟨_,_,hend.1⟩⟩,hend.2⟩
 refine(cases_gen hw dk r hcnt ⟨_,rfl⟩ tk (b1:=b1) (x:=(h1.add .dfr).add (.loop r0)) ?_ j0 (s3.get g1)).mono fun u h7 hu=>?_
 ·have lb:=hw _ _ g1
  rintro(hb|hb|⟨y2,g2,hb⟩)
  ·omega
  ·omega
  ·obtain⟨y,Ps,k⟩:=(hJ _ _).1 j0
   rw[k.gc] at g2;cases g2
   have:=k.yb _ hb;omega
 ·rcases hu with hJ7|hFa
  ·obtain⟨y,Ps,k⟩:=(hJ _ _).1 hJ7
   refine⟨r0,k.gl,by rw[hrs];simp,?_⟩
   rw[hrp]
   have s7:=k.f.o.1
   have lt7:=s7.wf _ _ k.gl
   have s8:h.Sub (h7.set (h1.next+1) (.loop {r0 with st:=.exhausted})):=s7.set (by omega) lt7 hw _
   have K8:Keeps (fun c=>c=h1.next+1) h7 (h7.set (h1.next+1) (.loop {r0 with st:=.exhausted})):=Keeps.set _ _ _
   have d8:=K8.2 _ _ k.gd (by omega)
   have e8:=K8.2 _ _ k.gc (by omega)
   rw[hrp] at s8 K8 d8 e8
   generalize h7.set (h1.next+1) _=h8 at s8 K8 d8 e8⊢
   have y1:=k.f.o.one
   simp -implicitDefEqProofs(maxSteps:=999999)(disch:=first|with_reducible rfl|omega|(simp only[nA,nS,nD]<;>omega)|fail)only[go_sem,t2,cells_of e8,Kfin_ret1 _ _ _ d8]
   have s9:h.Sub (h8.del h1.next):=H.Sub.del s8 (by omega) hw
   have K9:Keeps (fun c=>c=h1.next+1∨c=h1.next) h7 (h8.del h1.next):=⟨by rw[H.next_del];exact K8.1,fun b w g nb=>by rw[get_del_other fun e=>nb (.inr e)];exact K8.2 _ _ g fun e=>nb (.inl e)⟩
   refine q _ Ps _ ⟨k.f.o.keep K9 s9 fun b hb e=>by have:=k.yb b hb;omega,fun p hp=>(k.f.e p hp).keep K9 s9 fun b hb e=>by have:=(k.dj p hp b hb).2;omega,k.f.l⟩ ?_
   rw[k.ps,List.take_of_length_le (Nat.le_refl _)]
  ·exact hFa.elim
set_option maxHeartbeats 1000000 in
theorem collect_ev {h:H}(hw:h.wf){d:Nat}{a:At}{C R G f W:V}{ms:List Nat}(dk:Dk h d a C R G f W ms)(r:Right a){cnt:Nat→Bool}(hcnt:∀i,i<a.rds.length→PureA h f [.int .i64 (i:Int)] (.bool (cnt i)))
  {b1:Nat} (g1:h.get b1=some (.cells .rw [.ptr d 0])) (Q:V→H→Prop) (q:∀y Ps h',FsO h h' y Ps→Ps.map Prod.snd=casesL a cnt→Q y h'):
  Ev fnG fastA (.fn 40 [] []) [.fn 78 [] [.ptr b1 0]] h Q:=by
 refine Ev_body (fd:=c40) rfl rfl rfl ?_
 simp -implicitDefEqProofs(maxSteps:=999999)(disch:=first|with_reducible rfl|omega|(simp only[nA,nS,nD]<;>omega)|fail)only[c40,go_sem]
 refine appendSeq_ev hw dk r hcnt g1 _ fun y Ps h' f e=>?_
 simp -implicitDefEqProofs(maxSteps:=999999)(disch:=first|with_reducible rfl|omega|(simp only[nA,nS,nD]<;>omega)|fail)only[go_sem]
 exact q y Ps h' f e
end Go.Ab.Tryz
namespace Go.Ab.Tryz
open Go.Proofs
abbrev allF:V:=.fn 76 [] []
theorem allF_pure {h:H}(hw:h.wf)(i:Int):PureA h allF [.int .i64 i] (.bool true):=by
 intro h' s
 refine Ev_body (fd:=c76) rfl rfl rfl ?_
 simp -implicitDefEqProofs(maxSteps:=999999)(disch:=first|with_reducible rfl|omega|(simp only[nA,nS,nD]<;>omega)|fail)only[c76,go_sem]
 exact H.Sub.refl s.wf
set_option maxHeartbeats 2000000 in
theorem told_ev {h:H}(hw:h.wf){a:At}{C R G:V}(x:AtAt h C R G a)(bad:Bool)(Q:V→H→Prop)
  (q1:∀h',h.Sub h'→checkA a≠0→Q (.tup [.nilp,.nils,.int .i64 (checkA a)]) h')
  (q2:∀h',h.Sub h'→Right a→bad=true→Q (.tup [.nilp,.nils,.int .i64 1]) h')
  (q3:∀h',h.Sub h'→Right a→bad=false→casesL a (fun _=>true)=[]→Q (.tup [.nilp,.nils,.int .i64 7]) h')
  (q4:∀h' v y Ps,FsO h h' y Ps→Right a→bad=false→Ps.map Prod.snd=casesL a (fun _=>true)→Ps≠[]→Q (.tup [v,y,.int .i64 0]) h'):
  Ev fnG fastA (.fn 24 [] []) [.agg (atV a C R G),.bool bad] h Q:=by
 have oC:=x.c.one;have oR:=x.r.one;have oG:=x.g.one
 have cs:∀hh Q,Ev fnG fastA (.fn 39 [] []) [] hh Q=Q (.agg [allF]) (hh.add (.cells .rw [allF])):=fun hh Q=>by
  refine Ev.det (Ev_body (fd:=c39) rfl rfl rfl ?_) Q
  simp -implicitDefEqProofs(maxSteps:=999999)(disch:=first|with_reducible rfl|omega|(simp only[nA,nS,nD]<;>omega)|fail)only[c39,go_sem]
 have cd:∀hh p Q,Ev fnG fastA (.fn 41 [] []) [.ptr p 0] hh Q=Q (.fn 78 [] [.ptr hh.next 0]) (hh.add (.cells .rw [.ptr p 0])):=fun hh p Q=>by
  refine Ev.det (Ev_body (fd:=c41) rfl rfl rfl ?_) Q
  simp -implicitDefEqProofs(maxSteps:=999999)(disch:=first|with_reducible rfl|omega|(simp only[nA,nS,nD]<;>omega)|fail)only[c41,go_sem]
 refine Ev_body (fd:=c24) rfl rfl rfl ?_
 simp -implicitDefEqProofs(maxSteps:=999999)(disch:=first|with_reducible rfl|omega|(simp only[nA,nS,nD]<;>omega)|fail)only[c24,go_sem]
 have s1:h.Sub (h.add (.cells .rw (atV a C R G))):=(H.Sub.refl hw).add _
 have g1:(h.add (.cells .rw (atV a C R G))).get h.next=some (.cells .rw (atV a C R G)):=get_add_new rfl
 refine check_ev s1.wf ⟨C,R,G,rfl,x.mono s1⟩ _ fun h2 s2=>?_
 have gg:=s2.get g1
 have s12:=s1.trans s2
 generalize h.add (.cells .rw (atV a C R G))=h1 at s1 g1 s2 gg s12
 by_cases he:checkA a=0
 case neg=>
  simp -implicitDefEqProofs(maxSteps:=999999)(disch:=first|with_reducible rfl|omega|(simp only[nA,nS,nD]<;>omega)|fail)only[go_sem,(decide_eq_true he:decide (checkA a≠0)=true)]
  exact q1 _ s12 he
 have r:=checkA_iff.1 he
 rw[he]
 have d0:decide ((0:Int)≠0)=false:=rfl
 cases bad with
 |true=>
  simp -implicitDefEqProofs(maxSteps:=999999)(disch:=first|with_reducible rfl|omega|(simp only[nA,nS,nD]<;>omega)|fail)only[go_sem,d0]
  exact q2 _ s12 r rfl
 |false=>
  simp -implicitDefEqProofs(maxSteps:=999999)(disch:=first|with_reducible rfl|omega|(simp only[nA,nS,nD]<;>omega)|fail)only[go_sem,d0,Bool.false_eq_true,cells_of gg,cs]
  have sA:=(H.Sub.refl s12.wf).add (.cells .rw [allF])
  generalize h2.add (.cells .rw [allF])=hA at sA⊢
  refine worked_ev sA.wf (x.mono (s12.trans sA)) r rfl _ fun d W ms h3 s3 _ dk=>?_
  have s23:=sA.trans s3
  have sB:=(H.Sub.refl s3.wf).add (.cells .rw [.ptr d 0])
  have gB:(h3.add (.cells .rw [.ptr d 0])).get h3.next=some (.cells .rw [.ptr d 0]):=get_add_new rfl
  simp -implicitDefEqProofs(maxSteps:=999999)(disch:=first|with_reducible rfl|omega|(simp only[nA,nS,nD]<;>omega)|fail)only[go_sem,cells_of gg,cells_of (sA.get gg),cells_of (s23.get gg),cd]
  generalize h3.add (.cells .rw [.ptr d 0])=hB at sB gB⊢
  refine collect_ev sB.wf (dk.mono sB) r (cnt:=fun _=>true) (fun i _=>allF_pure sB.wf i) gB _ fun y Ps h4 f e=>?_
  have hPl:Ps.length≤15625:=by have:=casesL_len r (fun _=>true);rw[←e,List.length_map] at this;exact this
  have hlen:=(f.o.sl (by rw[List.length_map];omega)).lenE
  have s4:=(s12.trans s23).trans (sB.trans f.o.1)
  by_cases hn:Ps=[]
  ·have hz:((Ps.length:Int)=0):=by rw[hn];rfl
   simp -implicitDefEqProofs(maxSteps:=999999)(disch:=first|with_reducible rfl|omega|(simp only[nA,nS,nD]<;>omega)|fail)only[go_sem,hlen,hz]
   exact q3 _ s4 r rfl (by rw[←e,hn];rfl)
  ·have hz:¬((Ps.length:Int)=0):=fun q=>hn (List.length_eq_zero_iff.1 (by omega))
   simp -implicitDefEqProofs(maxSteps:=999999)(disch:=first|with_reducible rfl|omega|(simp only[nA,nS,nD]<;>omega)|fail)only[go_sem,hlen,hz]
   exact q4 _ _ y Ps ⟨f.o.base (s12.trans (s23.trans sB)),fun p hp=>(f.e p hp).base (s12.trans (s23.trans sB)),f.l⟩ r rfl e hn
end Go.Ab.Tryz
namespace Go.Ab.Tryz
open Go.Proofs
def betw (f t:Nat):List (List Int)→Int × Int
 |[]=>(0,0)
 |L::l=>(L::l).foldl (fun s M=>(min s.1 (-(mg M t f)),max s.2 (mg M f t))) (-(mg L t f),mg L f t)
theorem row_at {p:Fd}(lp:p.2.2.length=25){f t:Nat}(hf:f<5)(ht:t<5):nth (1+f*5+t*1) (rowF p)=some (.int .i64 (mg p.2.2 f t)):=by
 rw[show 1+f*5+t*1=(f*5+t*1)+1 by omega]
 exact nth_mg lp hf ht
set_option maxHeartbeats 4000000 in
theorem between_ev {h:H}(hw:h.wf){y:V}{Ps:List Fd}(x:SlAt h y 26 (Ps.map rowF))(hl:∀p∈Ps,In5 240 p.2.2)(hone:∀F,(∃p∈Ps,rowF p=F)→allOne F=true)(hne:Ps≠[]){f t:Nat}(hf:f<5)(ht:t<5)(Q:V→H→Prop)
  (q:∀h',h.Sub h'→Q (spV (betw f t (Ps.map fun p=>p.2.2))) h'):Ev fnG fastA (.fn 26 [] []) [y,.int .i64 (f:Int),.int .i64 (t:Int)] h Q:=by
 have hP:0<Ps.length:=List.length_pos_iff.2 hne
 have hlen:=x.lenE
 have hbd:=x.boundE
 obtain⟨p0,Ps',hP0⟩:∃p0 Ps',Ps=p0::Ps':=by cases Ps with
  |nil=>exact absurd rfl hne
  |cons p0 Ps'=>exact⟨p0,Ps',rfl⟩
 obtain⟨b,o,cc,cs,e,hc,hq,hg,hn,hn0⟩:=x.at hP
 have hp0:Ps[0]=p0:=by simp[hP0]
 rw[hp0] at hn
 have in0:=hl p0 (by rw[hP0];exact List.mem_cons_self ..)
 have row0:∀f t:Nat,f<5→t<5→nth (o+1+f*5+t*1) cs=some (.int .i64 (mg p0.2.2 f t)):=fun f t hf ht=>by
  rw[show o+1+f*5+t*1=o+0*26+(1+f*5+t*1) by omega,hn _ (by omega)]
  rw[←nth_eq];exact row_at in0.len hf ht
 subst e
 have s1:h.Sub (h.add (.cells .rw [.int .i64 0,.int .i64 0])):=(H.Sub.refl hw).add _
 have b0:=in0.lo t f ht hf
 have b1:=in0.hi t f ht hf
 have b2:=in0.lo f t hf ht
 have b3:=in0.hi f t hf ht
 have w0:wr .i64 (0-mg p0.2.2 t f)= -(mg p0.2.2 t f):=by rw[wr_in (by omega) (by omega)];omega
 have s2:h.Sub ((h.add (.cells .rw [.int .i64 0,.int .i64 0])).add (.cells .rw [.int .i64 0,.int .i64 0])):=s1.add _
 obtain⟨bw,hbw⟩:∃bw:Nat→Int × Int,∀i,bw i=((Ps.map fun p=>p.2.2).take i).foldl (fun s M=>(min s.1 (-(mg M t f)),max s.2 (mg M f t))) (-(mg p0.2.2 t f),mg p0.2.2 f t):=⟨_,fun _=>rfl⟩
 have hb0:bw 0=(-(mg p0.2.2 t f),mg p0.2.2 f t):=by rw[hbw];rfl
 have hbn:bw Ps.length=betw f t (Ps.map fun p=>p.2.2):=by
  rw[hbw,List.take_of_length_le (by rw[List.length_map];exact Nat.le_refl _),hP0];rfl
 refine Ev_body (fd:=c26) rfl rfl rfl ?_
 simp -implicitDefEqProofs(maxSteps:=999999)(disch:=first|with_reducible rfl|omega|(simp only[nA,nS,nD]<;>omega)|fail)only[c26,go_sem,hq (nat_num 0),s1.cells hc,s2.cells hc,iaa5 5 _ _ hf,iaa5 5 _ _ ht,iaa5 1 _ _ hf,iaa5 1 _ _ ht,row0 f t hf ht,row0 t f ht hf,w0,hlen]
 refine W_count Ps.length (fun i s=>∃tm h',s=⟨tm,h',[]⟩∧h.Sub h'∧h.next+1<h'.next∧h'.get h.next=some (.cells .rw [.int .i64 0,.int .i64 0])∧h'.get (h.next+1)=some (.cells .rw [.int .i64 (bw i).1,.int .i64 (bw i).2])∧
   (Opd.t 1).ev tm=.int .i64 (f:Int)∧(Opd.t 2).ev tm=.int .i64 (t:Int)∧(Opd.t 6).ev tm=.ptr h.next 0∧(Opd.t 7).ev tm=.ptr (h.next+1) 0∧(Opd.t 28).ev tm=.sl b o Ps.length cc∧(Opd.t 29).ev tm=.int .i64 (Ps.length:Int)∧(Opd.t 30).ev tm=.int .i64 (i:Int)) ?_ ?_ (i:=0) (Nat.zero_le _)
  ⟨_,_,rfl,(by repeat(first|assumption|exact H.Sub.refl (by assumption)|refine H.Sub.add ?_ _|refine H.Sub.set ?_ (by first|omega|(simp only[H.next_add,H.next_set,H.next_del]<;>omega)) (by first|omega|(simp only[H.next_add,H.next_set,H.next_del]<;>omega)) (by assumption) _)),by simp only[H.next_add];omega,by simp -implicitDefEqProofs(maxSteps:=999999)(disch:=first|with_reducible rfl|omega|(simp only[nA,nS,nD]<;>omega)|fail)only[go_sem],by rw[hb0];simp -implicitDefEqProofs(maxSteps:=999999)(disch:=first|with_reducible rfl|omega|(simp only[nA,nS,nD]<;>omega)|fail)only[go_sem],(by simp[ev_c,ev_put]<;>rfl),(by simp[ev_c,ev_put]<;>rfl),(by simp[ev_c,ev_put]<;>rfl),(by simp[ev_c,ev_put]<;>rfl),(by simp[ev_c,ev_put]<;>rfl),(by simp[ev_c,ev_put]<;>rfl),(by simp[ev_c,ev_put]<;>rfl)⟩
 ·rintro i s hi ⟨tm,h1,rfl,sh,nx,g6,g7,e1,e2,e6,e7,e28,e29,e30⟩
  have hi':(i:Int)<(Ps.length:Int):=by omega
  have hw1:=sh.wf
  obtain⟨b',o',cc',cs',e',hc',hq',hg',_,_⟩:=(x.mono sh).at hi
  cases e'
  obtain⟨p,hp⟩:∃p,Ps[i]=p:=⟨_,rfl⟩
  rw[hp] at hg'
  have hmem:p∈Ps:=by rw[←hp];exact List.getElem_mem hi
  have inp:=hl p hmem
  obtain⟨F,hF⟩:∃F,rowF p=F:=⟨_,rfl⟩
  have lF:F.length=26:=by rw[←hF];simp[rowF,inp.len]
  have oF:allOne F=true:=hone F ⟨p,hmem,hF⟩
  have nF:F≠[]:=by intro e0;rw[e0] at lF;cases lF
  have r1:nth (1+t*5+f*1) F=some (.int .i64 (mg p.2.2 t f)):=by rw[←hF];exact row_at inp.len ht hf
  have r2:nth (1+f*5+t*1) F=some (.int .i64 (mg p.2.2 f t)):=by rw[←hF];exact row_at inp.len hf ht
  rw[hF] at hg'
  have lnF:lenN F=26:=by rw[lenN_eq,lF]
  have pF:(h1.add (.cells .rw [.nils,.int .i64 0,.int .i64 0,.int .i64 0,.int .i64 0,.int .i64 0,.int .i64 0,.int .i64 0,.int .i64 0,.int .i64 0,.int .i64 0,.int .i64 0,.int .i64 0,.int .i64 0,.int .i64 0,.int .i64 0,.int .i64 0,.int .i64 0,.int .i64 0,.int .i64 0,.int .i64 0,.int .i64 0,.int .i64 0,.int .i64 0,.int .i64 0,.int .i64 0])).put h1.next 0 F=some ((h1.add (.cells .rw [.nils,.int .i64 0,.int .i64 0,.int .i64 0,.int .i64 0,.int .i64 0,.int .i64 0,.int .i64 0,.int .i64 0,.int .i64 0,.int .i64 0,.int .i64 0,.int .i64 0,.int .i64 0,.int .i64 0,.int .i64 0,.int .i64 0,.int .i64 0,.int .i64 0,.int .i64 0,.int .i64 0,.int .i64 0,.int .i64 0,.int .i64 0,.int .i64 0,.int .i64 0])).set h1.next (.cells .rw F)):=put_full (get_add_new rfl) (by rw[lF];rfl) nF oF
  have sA:=(H.Sub.refl hw1).add (.cells .rw F)
  have gA:(h1.add (.cells .rw F)).get h1.next=some (.cells .rw F):=get_add_new rfl
  have v0:=inp.lo t f ht hf
  have v1:=inp.hi t f ht hf
  have w1:wr .i64 (0-mg p.2.2 t f)= -(mg p.2.2 t f):=by rw[wr_in (by omega) (by omega)];omega
  have hstep:bw (i+1)=(min (bw i).1 (-(mg p.2.2 t f)),max (bw i).2 (mg p.2.2 f t)):=by
   rw[hbw,hbw,List.take_add_one,List.getElem?_map,List.getElem?_eq_getElem hi,hp,Option.map_some,Option.toList_some,List.foldl_append];rfl
  obtain⟨hA,hhA⟩:∃hA,h1.add (.cells .rw F)=hA:=⟨_,rfl⟩
  rw[hhA] at sA gA
  simp -implicitDefEqProofs(maxSteps:=999999)(disch:=first|with_reducible rfl|omega|(simp only[nA,nS,nD]<;>omega)|fail)only[go_sem,e1,e2,e6,e7,e28,e29,e30,hi',hq' (nat_cst i),hc',hg',lnF,pF,hhA,cells_of (sA.get g7),cells_of gA,iaa5 5 _ _ hf,iaa5 5 _ _ ht,iaa5 1 _ _ hf,iaa5 1 _ _ ht,r1,r2,w1]
  have sB:=(H.Sub.refl sA.wf).add (.cells .rw [.int .i64 (-mg p.2.2 t f)])
  refine least1_ev sA.wf _ _ _ fun h2 s2'=>?_
  have s12:=sA.trans s2'
  have n2:=s12.next
  simp -implicitDefEqProofs(maxSteps:=999999)(disch:=first|with_reducible rfl|omega|(simp only[nA,nS,nD]<;>omega)|fail)only[go_sem,e1,e2,e6,e7,e28,e29,e30,cells_of (sA.get g7),cells_of gA,cells_of (sB.get (sA.get g7)),cells_of (sB.get gA),cells_of (s12.get g7),cells_of (s2'.get gA),s12.get g7,iaa5 5 _ _ hf,iaa5 5 _ _ ht,iaa5 1 _ _ hf,iaa5 1 _ _ ht,r1,r2,w1,wr_succ]
  refine⟨_,_,rfl,(sh.trans s12).set (by omega) (by omega) hw _,by rw[H.next_set];omega,by rw[get_set_other (by omega)];exact s12.get g6,by rw[get_set_same rfl,hstep],(by simp[ev_c,ev_put,e1]<;>rfl),(by simp[ev_c,ev_put,e2]<;>rfl),(by simp[ev_c,ev_put,e6]<;>rfl),(by simp[ev_c,ev_put,e7]<;>rfl),(by simp[ev_c,ev_put,e28]<;>rfl),(by simp[ev_c,ev_put,e29]<;>rfl),(by simp[ev_c,ev_put]<;>rfl)⟩
 ·rintro s ⟨tm,h1,rfl,sh,nx,g6,g7,e1,e2,e6,e7,e28,e29,e30⟩
  have hi':¬((Ps.length:Int)<(Ps.length:Int)):=by omega
  simp -implicitDefEqProofs(maxSteps:=999999)(disch:=first|with_reducible rfl|omega|(simp only[nA,nS,nD]<;>omega)|fail)only[go_sem,e1,e2,e6,e7,e28,e29,e30,hi',cells_of g6,cells_of g7,g6,g7]
  rw[hbn]
  exact q _ (sh.set (Nat.le_refl _) (by omega) hw _)
end Go.Ab.Tryz
namespace Go.Ab.Tryz
open Go.Proofs
abbrev allC (a:At):List (Runs × List Int):=casesL a (fun _=>true)
def evW (a:At)(n:Int):Bool:=inB n 0 (wr .i64 (a.evs-1))
theorem evW_right {a:At}(r:Right a)(n:Int):evW a n=a.evB n:=by
 have:=r.evs
 unfold evW At.evB
 rw[wr_in (by omega) (by omega)]
theorem event_any {h:H}(hw:h.wf){C R G:V}(a:At)(n:Int)(Q:V→H→Prop)(q:∀h',h.Sub h'→Q (.bool (evW a n)) h'):Ev fnG fastA (.fn 25 [] []) [.agg (atV a C R G),.int .i64 n] h Q:=by
 refine Ev_body (fd:=c25) rfl rfl rfl ?_
 have s:h.Sub (h.add (.cells .rw (atV a C R G))):=(by repeat(first|assumption|exact H.Sub.refl (by assumption)|refine H.Sub.add ?_ _|refine H.Sub.set ?_ (by first|omega|(simp only[H.next_add,H.next_set,H.next_del]<;>omega)) (by first|omega|(simp only[H.next_add,H.next_set,H.next_del]<;>omega)) (by assumption) _))
 simp -implicitDefEqProofs(maxSteps:=999999)(disch:=first|with_reducible rfl|omega|(simp only[nA,nS,nD]<;>omega)|fail)only[c25,go_sem,in_eq]
 exact q _ s
def errT (a:At)(bad:Bool):Int:=if checkA a≠0 then checkA a else if bad=true then 1 else if allC a=[] then 7 else 0
def timeR (a:At)(e:Int):(Int × Int) × Int:=if errT a (!a.evB e)≠0 then((0,0),errT a (!a.evB e)) else(betw 4 e.toNat ((allC a).map Prod.snd),0)
def btwR (a:At)(f t:Int):(Int × Int) × Int:=if errT a (!a.evB f|| !a.evB t)≠0 then((0,0),errT a (!a.evB f|| !a.evB t)) else(betw f.toNat t.toNat ((allC a).map Prod.snd),0)
theorem errT_bad {a:At}{b b':Bool}(h:Right a→b=b'):errT a b=errT a b':=by
 unfold errT
 by_cases hc:checkA a=0
 ·rw[h (checkA_iff.1 hc)]
 ·rw[if_pos hc,if_pos hc]
theorem evB_nat {a:At}(r:Right a){n:Int}(h:a.evB n=true):∃k:Nat,n=k∧k<4:=by
 have:=r.evs
 simp only[At.evB,inB_iff] at h
 exact⟨n.toNat,by omega,by omega⟩
theorem told_ev2 {h:H}(hw:h.wf){a:At}{C R G:V}(x:AtAt h C R G a)(bad:Bool)(Q:V→H→Prop)
  (q1:∀h',h.Sub h'→errT a bad≠0→Q (.tup [.nilp,.nils,.int .i64 (errT a bad)]) h')
  (q2:∀h' v y Ps,h.Sub h'→SlAt h' y 26 (Ps.map rowF)→(∀p∈Ps,In5 240 p.2.2)→(∀F,(∃p∈Ps,rowF p=F)→allOne F=true)→Ps≠[]→Right a→bad=false→errT a bad=0→Ps.map Prod.snd=allC a→FsO h h' y Ps→Q (.tup [v,y,.int .i64 0]) h'):
  Ev fnG fastA (.fn 24 [] []) [.agg (atV a C R G),.bool bad] h Q:=by
 refine told_ev hw x bad _ (fun h' s he=>?_) (fun h' s r hb=>?_) (fun h' s r hb hn=>?_) (fun h' v y Ps f r hb e hn=>?_)
 ·have e1:errT a bad=checkA a:=if_pos he
  rw[←e1];exact q1 _ s (by rw[e1];exact he)
 ·have e1:errT a bad=1:=by unfold errT;rw[if_neg (by rw[checkA_iff.2 r];simp),if_pos hb]
  have:=q1 _ s (by rw[e1];decide)
  rwa[e1] at this
 ·have e1:errT a bad=7:=by unfold errT;rw[if_neg (by rw[checkA_iff.2 r];simp),if_neg (by rw[hb];simp),if_pos hn]
  have:=q1 _ s (by rw[e1];decide)
  rwa[e1] at this
 ·have hne:allC a≠[]:=fun hc=>hn (List.map_eq_nil_iff.1 (e.trans hc))
  have e1:errT a bad=0:=by unfold errT;rw[if_neg (by rw[checkA_iff.2 r];simp),if_neg (by rw[hb];simp),if_neg hne]
  have hPl:Ps.length≤15625:=by have:=casesL_len r (fun _=>true);rw[←e,List.length_map] at this;exact this
  refine q2 _ v y Ps f.o.1 (f.o.sl (by rw[List.length_map];omega)) (fun p hp=>casesL_in r p.2 (by rw[←e];exact List.mem_map_of_mem hp)) (fun F ⟨p,hp,hF⟩=>?_) hn r hb e1 e f
  rw[←hF,rowF,allOne_cons,(f.e p hp).one,allOne_iv];rfl
set_option maxHeartbeats 1000000 in
theorem time_ev {h:H}(hw:h.wf){a:At}{C R G:V}(x:AtAt h C R G a)(e:Int)(Q:V→H→Prop)
  (q:∀h',h.Sub h'→Q (.tup [spV (timeR a e).1,.int .i64 (timeR a e).2]) h'):Ev fnG fastA (.fn 12 [] []) [.agg (atV a C R G),.int .i64 e] h Q:=by
 have oC:=x.c.one;have oR:=x.r.one;have oG:=x.g.one
 have heq:errT a (!evW a e)=errT a (!a.evB e):=errT_bad fun r=>by rw[evW_right r]
 refine Ev_body (fd:=c12) rfl rfl rfl ?_
 simp -implicitDefEqProofs(maxSteps:=999999)(disch:=first|with_reducible rfl|omega|(simp only[nA,nS,nD]<;>omega)|fail)only[c12,go_sem]
 have s2:h.Sub ((h.add (.cells .rw (atV a C R G))).add (.cells .rw [.int .i64 0,.int .i64 0])):=(by repeat(first|assumption|exact H.Sub.refl (by assumption)|refine H.Sub.add ?_ _|refine H.Sub.set ?_ (by first|omega|(simp only[H.next_add,H.next_set,H.next_del]<;>omega)) (by first|omega|(simp only[H.next_add,H.next_set,H.next_del]<;>omega)) (by assumption) _))
 have ga:((h.add (.cells .rw (atV a C R G))).add (.cells .rw [.int .i64 0,.int .i64 0])).get h.next=some (.cells .rw (atV a C R G)):=by simp -implicitDefEqProofs(maxSteps:=999999)(disch:=first|with_reducible rfl|omega|(simp only[nA,nS,nD]<;>omega)|fail)only[go_sem]
 have g4:((h.add (.cells .rw (atV a C R G))).add (.cells .rw [.int .i64 0,.int .i64 0])).get (h.next+1)=some (.cells .rw [.int .i64 0,.int .i64 0]):=by simp -implicitDefEqProofs(maxSteps:=999999)(disch:=first|with_reducible rfl|omega|(simp only[nA,nS,nD]<;>omega)|fail)only[go_sem]
 have n2:((h.add (.cells .rw (atV a C R G))).add (.cells .rw [.int .i64 0,.int .i64 0])).next=h.next+2:=by simp only[H.next_add]
 generalize(h.add (.cells .rw (atV a C R G))).add (.cells .rw [.int .i64 0,.int .i64 0])=h2 at s2 ga g4 n2⊢
 refine event_any s2.wf a e _ fun h3 s3=>?_
 simp -implicitDefEqProofs(maxSteps:=999999)(disch:=first|with_reducible rfl|omega|(simp only[nA,nS,nD]<;>omega)|fail)only[go_sem,cells_of ga,cells_of (s3.get ga)]
 have d0:decide ((0:Int)≠0)=false:=rfl
 refine told_ev2 s3.wf (x.mono (s2.trans s3)) (!evW a e) _ (fun h4 s4 he=>?_) fun h4 v y Ps s4 hx hl ho hne r hb he e' _=>?_
 ·have sx:=s3.trans s4
  have l4:=sx.next
  simp -implicitDefEqProofs(maxSteps:=999999)(disch:=first|with_reducible rfl|omega|(simp only[nA,nS,nD]<;>omega)|fail)only[go_sem,cells_of ga,cells_of (s3.get ga),cells_of (sx.get ga),(decide_eq_true he:decide (errT a (!evW a e)≠0)=true),sx.get g4,get_set_same]
  rw[heq] at he⊢
  have:=q _ ((s2.trans sx).set (b:=h.next+1) (by omega) (by omega) hw (.cells .rw [.int .i64 0,.int .i64 0]))
  rwa[timeR,if_pos he] at this
 ·have sx:=s3.trans s4
  have l4:=sx.next
  have hev:a.evB e=true:=by rw[←evW_right r];simpa using hb
  obtain⟨k,rfl,hk⟩:=evB_nat r hev
  simp -implicitDefEqProofs(maxSteps:=999999)(disch:=first|with_reducible rfl|omega|(simp only[nA,nS,nD]<;>omega)|fail)only[go_sem,cells_of ga,cells_of (s3.get ga),cells_of (sx.get ga),d0]
  refine between_ev s4.wf hx hl ho hne (f:=4) (t:=k) (by decide) (by omega) _ fun h5 s5=>?_
  have sy:=sx.trans s5
  have l5:=sy.next
  simp -implicitDefEqProofs(maxSteps:=999999)(disch:=first|with_reducible rfl|omega|(simp only[nA,nS,nD]<;>omega)|fail)only[go_sem,sy.get g4,get_set_same]
  have:=q _ ((s2.trans sy).set (b:=h.next+1) (by omega) (by omega) hw (.cells .rw [.int .i64 (timeR a k).1.1,.int .i64 (timeR a k).1.2]))
  rw[heq] at he
  have ht:timeR a k=(betw 4 k (Ps.map fun p=>p.2.2),0):=by
   rw[timeR,if_neg (by rw[he];simp),Int.toNat_natCast,←e',List.map_map];rfl
  rw[ht] at this
  exact this
set_option maxHeartbeats 2000000 in
theorem btw_ev {h:H}(hw:h.wf){a:At}{C R G:V}(x:AtAt h C R G a)(f t:Int)(Q:V→H→Prop)
  (q:∀h',h.Sub h'→Q (.tup [spV (btwR a f t).1,.int .i64 (btwR a f t).2]) h'):Ev fnG fastA (.fn 13 [] []) [.agg (atV a C R G),.int .i64 f,.int .i64 t] h Q:=by
 have oC:=x.c.one;have oR:=x.r.one;have oG:=x.g.one
 have heq:errT a (!evW a f|| !evW a t)=errT a (!a.evB f|| !a.evB t):=errT_bad fun r=>by rw[evW_right r,evW_right r]
 refine Ev_body (fd:=c13) rfl rfl rfl ?_
 simp -implicitDefEqProofs(maxSteps:=999999)(disch:=first|with_reducible rfl|omega|(simp only[nA,nS,nD]<;>omega)|fail)only[c13,go_sem]
 have s2:h.Sub ((h.add (.cells .rw (atV a C R G))).add (.cells .rw [.int .i64 0,.int .i64 0])):=(by repeat(first|assumption|exact H.Sub.refl (by assumption)|refine H.Sub.add ?_ _|refine H.Sub.set ?_ (by first|omega|(simp only[H.next_add,H.next_set,H.next_del]<;>omega)) (by first|omega|(simp only[H.next_add,H.next_set,H.next_del]<;>omega)) (by assumption) _))
 have ga:((h.add (.cells .rw (atV a C R G))).add (.cells .rw [.int .i64 0,.int .i64 0])).get h.next=some (.cells .rw (atV a C R G)):=by simp -implicitDefEqProofs(maxSteps:=999999)(disch:=first|with_reducible rfl|omega|(simp only[nA,nS,nD]<;>omega)|fail)only[go_sem]
 have g4:((h.add (.cells .rw (atV a C R G))).add (.cells .rw [.int .i64 0,.int .i64 0])).get (h.next+1)=some (.cells .rw [.int .i64 0,.int .i64 0]):=by simp -implicitDefEqProofs(maxSteps:=999999)(disch:=first|with_reducible rfl|omega|(simp only[nA,nS,nD]<;>omega)|fail)only[go_sem]
 have n2:((h.add (.cells .rw (atV a C R G))).add (.cells .rw [.int .i64 0,.int .i64 0])).next=h.next+2:=by simp only[H.next_add]
 generalize(h.add (.cells .rw (atV a C R G))).add (.cells .rw [.int .i64 0,.int .i64 0])=h2 at s2 ga g4 n2⊢
 have d0:decide ((0:Int)≠0)=false:=rfl
 refine event_any s2.wf a f _ fun h3 s3=>?_
 have tail:∀hz:H,h2.Sub hz→∀bad,bad=(!evW a f|| !evW a t)→∀Q2:V→H→Prop,
   (∀h4,hz.Sub h4→errT a bad≠0→btwR a f t=((0,0),errT a bad)→Q2 (.tup [.nilp,.nils,.int .i64 (errT a bad)]) h4)→
   (∀h4 v y,hz.Sub h4→(∀Q3:V→H→Prop,(∀h5,h4.Sub h5→(btwR a f t).2=0→Q3 (spV (btwR a f t).1) h5)→Ev fnG fastA (.fn 26 [] []) [y,.int .i64 f,.int .i64 t] h4 Q3)→Q2 (.tup [v,y,.int .i64 0]) h4)→
   Ev fnG fastA (.fn 24 [] []) [.agg (atV a C R G),.bool bad] hz Q2:=fun hz sz bad hbad Q2 r1 r2=>by
  subst hbad
  refine told_ev2 sz.wf (x.mono (s2.trans sz)) _ _ (fun h4 s4 he=>r1 h4 s4 he ?_) fun h4 v y Ps s4 hx hl ho hne r hb he e' _=>r2 h4 v y s4 fun Q3 q3=>?_
  ·rw[heq] at he⊢;exact if_pos he
  ·rw[evW_right r,evW_right r] at hb
   have h1:a.evB f=true:=by cases hv:a.evB f<;>simp_all
   have h2:a.evB t=true:=by cases hv:a.evB t<;>simp_all
   obtain⟨kf,rfl,hkf⟩:=evB_nat r h1
   obtain⟨kt,rfl,hkt⟩:=evB_nat r h2
   rw[heq] at he
   have ht:btwR a kf kt=(betw kf kt (Ps.map fun p=>p.2.2),0):=by
    rw[btwR,if_neg (by rw[he];simp),Int.toNat_natCast,Int.toNat_natCast,←e',List.map_map];rfl
   rw[ht] at q3
   exact between_ev s4.wf hx hl ho hne (by omega) (by omega) _ fun h5 s5=>q3 h5 s5 rfl
 cases hf:evW a f with
 |false=>
  rw[hf] at tail
  simp -implicitDefEqProofs(maxSteps:=999999)(disch:=first|with_reducible rfl|omega|(simp only[nA,nS,nD]<;>omega)|fail)only[go_sem,cells_of ga,cells_of (s3.get ga)]
  refine tail h3 s3 true rfl _ (fun h4 s4 he hr=>?_) fun h4 v y s4 hbt=>?_
  ·have sx:=s3.trans s4
   have l4:=sx.next
   simp -implicitDefEqProofs(maxSteps:=999999)(disch:=first|with_reducible rfl|omega|(simp only[nA,nS,nD]<;>omega)|fail)only[go_sem,cells_of ga,cells_of (s3.get ga),cells_of (sx.get ga),(decide_eq_true he:decide (errT a true≠0)=true),sx.get g4,get_set_same]
   have:=q _ ((s2.trans sx).set (b:=h.next+1) (by omega) (by omega) hw (.cells .rw [.int .i64 0,.int .i64 0]))
   rwa[hr] at this
  ·have sx:=s3.trans s4
   have l4:=sx.next
   simp -implicitDefEqProofs(maxSteps:=999999)(disch:=first|with_reducible rfl|omega|(simp only[nA,nS,nD]<;>omega)|fail)only[go_sem,cells_of ga,cells_of (s3.get ga),cells_of (sx.get ga),d0]
   refine hbt _ fun h5 s5 e0=>?_
   have sy:=sx.trans s5
   have l5:=sy.next
   simp -implicitDefEqProofs(maxSteps:=999999)(disch:=first|with_reducible rfl|omega|(simp only[nA,nS,nD]<;>omega)|fail)only[go_sem,sy.get g4,get_set_same]
   have:=q _ ((s2.trans sy).set (b:=h.next+1) (by omega) (by omega) hw (.cells .rw [.int .i64 (btwR a f t).1.1,.int .i64 (btwR a f t).1.2]))
   rwa[e0] at this
 |true=>
  rw[hf] at tail
  simp -implicitDefEqProofs(maxSteps:=999999)(disch:=first|with_reducible rfl|omega|(simp only[nA,nS,nD]<;>omega)|fail)only[go_sem,cells_of ga,cells_of (s3.get ga)]
  refine event_any s3.wf a t _ fun h3' s3'=>?_
  have s33:=s3.trans s3'
  obtain⟨bt,hbt0⟩:∃bt,(!evW a t)=bt:=⟨_,rfl⟩
  simp -implicitDefEqProofs(maxSteps:=999999)(disch:=first|with_reducible rfl|omega|(simp only[nA,nS,nD]<;>omega)|fail)only[go_sem,cells_of ga,cells_of (s3.get ga),cells_of (s33.get ga),hbt0]
  refine tail h3' s33 bt (by rw[←hbt0];rfl) _ (fun h4 s4 he hr=>?_) fun h4 v y s4 hbt=>?_
  ·have sx:=s33.trans s4
   have l4:=sx.next
   simp -implicitDefEqProofs(maxSteps:=999999)(disch:=first|with_reducible rfl|omega|(simp only[nA,nS,nD]<;>omega)|fail)only[go_sem,cells_of ga,cells_of (s3.get ga),cells_of (s33.get ga),cells_of (sx.get ga),(decide_eq_true he:decide (errT a bt≠0)=true),sx.get g4,get_set_same]
   have:=q _ ((s2.trans sx).set (b:=h.next+1) (by omega) (by omega) hw (.cells .rw [.int .i64 0,.int .i64 0]))
   rwa[hr] at this
  ·have sx:=s33.trans s4
   have l4:=sx.next
   simp -implicitDefEqProofs(maxSteps:=999999)(disch:=first|with_reducible rfl|omega|(simp only[nA,nS,nD]<;>omega)|fail)only[go_sem,cells_of ga,cells_of (s3.get ga),cells_of (s33.get ga),cells_of (sx.get ga),d0]
   refine hbt _ fun h5 s5 e0=>?_
   have sy:=sx.trans s5
   have l5:=sy.next
   simp -implicitDefEqProofs(maxSteps:=999999)(disch:=first|with_reducible rfl|omega|(simp only[nA,nS,nD]<;>omega)|fail)only[go_sem,sy.get g4,get_set_same]
   have:=q _ ((s2.trans sy).set (b:=h.next+1) (by omega) (by omega) hw (.cells .rw [.int .i64 (btwR a f t).1.1,.int .i64 (btwR a f t).1.2]))
   rwa[e0] at this
def beforeR (a:At)(f t:Int):Int × Int:=if(btwR a f t).2≠0 then(0,(btwR a f t).2) else if 0<(btwR a f t).1.1 then(1,0) else if(btwR a f t).1.2≤0 then(2,0) else(0,0)
set_option maxHeartbeats 1000000 in
theorem before_ev {h:H}(hw:h.wf){a:At}{C R G:V}(x:AtAt h C R G a)(f t:Int)(Q:V→H→Prop)
  (q:∀h',h.Sub h'→Q (.tup [.int .i64 (beforeR a f t).1,.int .i64 (beforeR a f t).2]) h'):Ev fnG fastA (.fn 14 [] []) [.agg (atV a C R G),.int .i64 f,.int .i64 t] h Q:=by
 have oC:=x.c.one;have oR:=x.r.one;have oG:=x.g.one
 refine Ev_body (fd:=c14) rfl rfl rfl ?_
 simp -implicitDefEqProofs(maxSteps:=999999)(disch:=first|with_reducible rfl|omega|(simp only[nA,nS,nD]<;>omega)|fail)only[c14,go_sem]
 have s1:h.Sub (h.add (.cells .rw (atV a C R G))):=(by repeat(first|assumption|exact H.Sub.refl (by assumption)|refine H.Sub.add ?_ _|refine H.Sub.set ?_ (by first|omega|(simp only[H.next_add,H.next_set,H.next_del]<;>omega)) (by first|omega|(simp only[H.next_add,H.next_set,H.next_del]<;>omega)) (by assumption) _))
 generalize h.add (.cells .rw (atV a C R G))=h1 at s1⊢
 refine btw_ev s1.wf (x.mono s1) f t _ fun h2 s2=>?_
 obtain⟨S,hS⟩:∃S,btwR a f t=S:=⟨_,rfl⟩
 obtain⟨⟨lo,hi⟩,er⟩:=S
 have sq:=q
 unfold beforeR at sq
 rw[hS] at sq⊢
 simp only at sq⊢
 have d0:decide ((0:Int)≠0)=false:=rfl
 have s3:=(s1.trans s2).add (.cells .rw [.int .i64 lo,.int .i64 hi])
 by_cases he:er=0
 ·subst he
  simp only[ne_eq,not_true_eq_false, ↓reduceIte] at sq
  by_cases h1:0<lo
  ·rw[if_pos h1] at sq
   simp -implicitDefEqProofs(maxSteps:=999999)(disch:=first|with_reducible rfl|omega|(simp only[nA,nS,nD]<;>omega)|fail)only[go_sem,d0,h1]
   exact sq _ s3
  ·rw[if_neg h1] at sq
   by_cases h2:hi≤0
   ·rw[if_pos h2] at sq
    simp -implicitDefEqProofs(maxSteps:=999999)(disch:=first|with_reducible rfl|omega|(simp only[nA,nS,nD]<;>omega)|fail)only[go_sem,d0,h1,h2]
    exact sq _ s3
   ·rw[if_neg h2] at sq
    simp -implicitDefEqProofs(maxSteps:=999999)(disch:=first|with_reducible rfl|omega|(simp only[nA,nS,nD]<;>omega)|fail)only[go_sem,d0,h1,h2]
    exact sq _ s3
 ·rw[if_pos he] at sq
  simp -implicitDefEqProofs(maxSteps:=999999)(disch:=first|with_reducible rfl|omega|(simp only[nA,nS,nD]<;>omega)|fail)only[go_sem,(decide_eq_true he:decide (er≠0)=true)]
  exact sq _ s3
theorem fold_bd {f t:Nat}(hf:f<5)(ht:t<5):∀{l:List (List Int)} {s:Int × Int},(∀L∈l,In5 240 L)→ -240≤s.1∧s.1≤240∧ -240≤s.2∧s.2≤240→
  -240≤(l.foldl (fun s M=>(min s.1 (-(mg M t f)),max s.2 (mg M f t))) s).1∧(l.foldl (fun s M=>(min s.1 (-(mg M t f)),max s.2 (mg M f t))) s).1≤240∧ -240≤(l.foldl (fun s M=>(min s.1 (-(mg M t f)),max s.2 (mg M f t))) s).2∧(l.foldl (fun s M=>(min s.1 (-(mg M t f)),max s.2 (mg M f t))) s).2≤240
 |[],s,_,h=>h
 |L::l,s,hl,h=>by
  have hL:=hl L (List.mem_cons_self ..)
  have h1:=hL.lo t f ht hf;have h2:=hL.hi t f ht hf;have h3:=hL.lo f t hf ht;have h4:=hL.hi f t hf ht
  rw[List.foldl_cons]
  exact fold_bd hf ht (fun M hM=>hl M (List.mem_cons_of_mem _ hM)) (by show _≤min s.1 (-(mg L t f))∧min s.1 (-(mg L t f))≤_∧_≤max s.2 (mg L f t)∧max s.2 (mg L f t)≤_;omega)
theorem betw_bd {f t:Nat}(hf:f<5)(ht:t<5){l:List (List Int)}(hl:∀L∈l,In5 240 L): -240≤(betw f t l).1∧(betw f t l).1≤240∧ -240≤(betw f t l).2∧(betw f t l).2≤240:=by
 cases l with
 |nil=>show(-240:Int)≤0∧(0:Int)≤240∧(-240:Int)≤0∧(0:Int)≤240;omega
 |cons L l=>
  have hL:=hl L (List.mem_cons_self ..)
  have h1:=hL.lo t f ht hf;have h2:=hL.hi t f ht hf;have h3:=hL.lo f t hf ht;have h4:=hL.hi f t hf ht
  exact fold_bd hf ht hl (by show _≤ -(mg L t f)∧ -(mg L t f)≤_∧_≤mg L f t∧mg L f t≤_;omega)
theorem errT_right {a:At}{bad:Bool}(h:¬errT a bad≠0):Right a∧bad=false∧allC a≠[]:=by
 unfold errT at h
 split at h
 ·rename_i hc;exact absurd hc h
 ·rename_i hc
  split at h
  ·exact absurd (by decide) h
  ·rename_i hb
   split at h
   ·exact absurd (by decide) h
   ·rename_i hn
    exact⟨checkA_iff.1 (by omega),by simpa using hb,hn⟩
theorem btwR_bd (a:At)(f t:Int): -240≤(btwR a f t).1.1∧(btwR a f t).1.1≤240∧ -240≤(btwR a f t).1.2∧(btwR a f t).1.2≤240:=by
 unfold btwR
 split
 ·show(-240:Int)≤0∧(0:Int)≤240∧(-240:Int)≤0∧(0:Int)≤240;omega
 ·rename_i h
  obtain⟨r,hb,_⟩:=errT_right h
  have h1:a.evB f=true:=by cases hv:a.evB f<;>simp_all
  have h2:a.evB t=true:=by cases hv:a.evB t<;>simp_all
  obtain⟨kf,rfl,hkf⟩:=evB_nat r h1
  obtain⟨kt,rfl,hkt⟩:=evB_nat r h2
  exact betw_bd (by omega) (by omega) fun L hL=>by
   obtain⟨t,ht,rfl⟩:=List.mem_map.1 hL
   exact casesL_in r t ht
def wage (n pay:Int):Int:=(max 0 n*pay).tdiv 60
def wagesR (a:At)(f t pay:Int):(Int × Int) × Int:=if checkA a≠0 then((0,0),checkA a) else if(!a.evB f|| !a.evB t)=true then((0,0),1) else if inB pay 0 600=false then((0,0),3) else if(btwR a f t).2≠0 then((0,0),(btwR a f t).2) else((wage (btwR a f t).1.1 pay,wage (btwR a f t).1.2 pay),0)
set_option maxHeartbeats 2000000 in
theorem wages_ev {h:H}(hw:h.wf){a:At}{C R G:V}(x:AtAt h C R G a)(f t pay:Int)(Q:V→H→Prop)
  (q:∀h',h.Sub h'→Q (.tup [spV (wagesR a f t pay).1,.int .i64 (wagesR a f t pay).2]) h'):Ev fnG fastA (.fn 15 [] []) [.agg (atV a C R G),.int .i64 f,.int .i64 t,.int .i64 pay] h Q:=by
 have oC:=x.c.one;have oR:=x.r.one;have oG:=x.g.one
 refine Ev_body (fd:=c15) rfl rfl rfl ?_
 simp -implicitDefEqProofs(maxSteps:=999999)(disch:=first|with_reducible rfl|omega|(simp only[nA,nS,nD]<;>omega)|fail)only[c15,go_sem]
 have s2:h.Sub ((h.add (.cells .rw (atV a C R G))).add (.cells .rw [.int .i64 0,.int .i64 0])):=(by repeat(first|assumption|exact H.Sub.refl (by assumption)|refine H.Sub.add ?_ _|refine H.Sub.set ?_ (by first|omega|(simp only[H.next_add,H.next_set,H.next_del]<;>omega)) (by first|omega|(simp only[H.next_add,H.next_set,H.next_del]<;>omega)) (by assumption) _))
 have ga:((h.add (.cells .rw (atV a C R G))).add (.cells .rw [.int .i64 0,.int .i64 0])).get h.next=some (.cells .rw (atV a C R G)):=by simp -implicitDefEqProofs(maxSteps:=999999)(disch:=first|with_reducible rfl|omega|(simp only[nA,nS,nD]<;>omega)|fail)only[go_sem]
 have g4:((h.add (.cells .rw (atV a C R G))).add (.cells .rw [.int .i64 0,.int .i64 0])).get (h.next+1)=some (.cells .rw [.int .i64 0,.int .i64 0]):=by simp -implicitDefEqProofs(maxSteps:=999999)(disch:=first|with_reducible rfl|omega|(simp only[nA,nS,nD]<;>omega)|fail)only[go_sem]
 have n2:((h.add (.cells .rw (atV a C R G))).add (.cells .rw [.int .i64 0,.int .i64 0])).next=h.next+2:=by simp only[H.next_add]
 generalize(h.add (.cells .rw (atV a C R G))).add (.cells .rw [.int .i64 0,.int .i64 0])=h2 at s2 ga g4 n2⊢
 have d0:decide ((0:Int)≠0)=false:=rfl
 have fin:∀hz:H,h2.Sub hz→∀(u v er:Int),wagesR a f t pay=((u,v),er)→Q (.tup [spV (u,v),.int .i64 er]) (hz.set (h.next+1) (.cells .rw [.int .i64 u,.int .i64 v])):=fun hz sz u v er e=>by
  have lz:=sz.next
  have:=q _ ((s2.trans sz).set (b:=h.next+1) (by omega) (by omega) hw (.cells .rw [.int .i64 u,.int .i64 v]))
  rwa[e] at this
 refine check_ev s2.wf ⟨C,R,G,rfl,x.mono s2⟩ _ fun h3 s3=>?_
 by_cases he:checkA a=0
 case neg=>
  simp -implicitDefEqProofs(maxSteps:=999999)(disch:=first|with_reducible rfl|omega|(simp only[nA,nS,nD]<;>omega)|fail)only[go_sem,cells_of (s3.get ga),(decide_eq_true he:decide (checkA a≠0)=true),s3.get g4,get_set_same]
  exact fin _ s3 _ _ _ (if_pos he)
 have r:=checkA_iff.1 he
 have hwg:wagesR a f t pay=if(!a.evB f|| !a.evB t)=true then((0,0),1) else if inB pay 0 600=false then((0,0),3) else if(btwR a f t).2≠0 then((0,0),(btwR a f t).2) else((wage (btwR a f t).1.1 pay,wage (btwR a f t).1.2 pay),0):=if_neg (by rw[he];simp)
 rw[he]
 simp -implicitDefEqProofs(maxSteps:=999999)(disch:=first|with_reducible rfl|omega|(simp only[nA,nS,nD]<;>omega)|fail)only[go_sem,cells_of (s3.get ga),d0]
 refine Ev_bound (event_any s3.wf a f _ fun h4 s4=>?_)
 have s34:=s3.trans s4
 rw[evW_right r]
 cases hf:a.evB f with
 |false=>
  simp -implicitDefEqProofs(maxSteps:=999999)(disch:=first|with_reducible rfl|omega|(simp only[nA,nS,nD]<;>omega)|fail)only[go_sem,s34.get g4,get_set_same]
  exact fin _ s34 _ _ _ (by rw[hwg,hf];rfl)
 |true=>
  simp -implicitDefEqProofs(maxSteps:=999999)(disch:=first|with_reducible rfl|omega|(simp only[nA,nS,nD]<;>omega)|fail)only[go_sem]
  refine Ev_bound (event_any s4.wf a t _ fun h5 s5=>?_)
  have s35:=s34.trans s5
  rw[evW_right r]
  cases ht:a.evB t with
  |false=>
   simp -implicitDefEqProofs(maxSteps:=999999)(disch:=first|with_reducible rfl|omega|(simp only[nA,nS,nD]<;>omega)|fail)only[go_sem,s35.get g4,get_set_same]
   exact fin _ s35 _ _ _ (by rw[hwg,hf,ht];rfl)
  |true=>
   have hwg2:wagesR a f t pay=if inB pay 0 600=false then((0,0),3) else if(btwR a f t).2≠0 then((0,0),(btwR a f t).2) else((wage (btwR a f t).1.1 pay,wage (btwR a f t).1.2 pay),0):=by rw[hwg,hf,ht];rfl
   simp -implicitDefEqProofs(maxSteps:=999999)(disch:=first|with_reducible rfl|omega|(simp only[nA,nS,nD]<;>omega)|fail)only[go_sem,in_eq]
   cases hp:inB pay 0 600 with
   |false=>
    simp -implicitDefEqProofs(maxSteps:=999999)(disch:=first|with_reducible rfl|omega|(simp only[nA,nS,nD]<;>omega)|fail)only[go_sem,s35.get g4,get_set_same]
    exact fin _ s35 _ _ _ (by rw[hwg2,hp];rfl)
   |true=>
    have hp':=(inB_iff ..).1 hp
    simp -implicitDefEqProofs(maxSteps:=999999)(disch:=first|with_reducible rfl|omega|(simp only[nA,nS,nD]<;>omega)|fail)only[go_sem,cells_of (s35.get ga)]
    refine btw_ev s5.wf (x.mono (s2.trans s35)) f t _ fun h6 s6=>?_
    have s36:=s35.trans s6
    have l6:=s36.next
    have hbd:=btwR_bd a f t
    obtain⟨S,hS⟩:∃S,btwR a f t=S:=⟨_,rfl⟩
    obtain⟨⟨lo,hi⟩,er⟩:=S
    rw[hp,hS] at hwg2
    rw[hS] at hbd⊢
    simp only at hbd hwg2⊢
    have sC:=(H.Sub.refl s6.wf).add (.cells .rw [.int .i64 lo,.int .i64 hi])
    have s3C:=s36.trans sC
    by_cases h0:er=0
    ·subst h0
     have m1:0≤max 0 lo*pay∧max 0 lo*pay≤240*600:=⟨Int.mul_nonneg (by omega) hp'.1,Int.mul_le_mul (by omega) hp'.2 hp'.1 (by omega)⟩
     have m2:0≤max 0 hi*pay∧max 0 hi*pay≤240*600:=⟨Int.mul_nonneg (by omega) hp'.1,Int.mul_le_mul (by omega) hp'.2 hp'.1 (by omega)⟩
     have t1:=Int.tdiv_eq_ediv_of_nonneg (b:=60) m1.1
     have t2:=Int.tdiv_eq_ediv_of_nonneg (b:=60) m2.1
     have w1:wr .i64 (max 0 lo*pay)=max 0 lo*pay:=wr_in (by omega) (by omega)
     have w2:wr .i64 (max 0 hi*pay)=max 0 hi*pay:=wr_in (by omega) (by omega)
     have w3:wr .i64 ((max 0 lo*pay).tdiv 60)=(max 0 lo*pay).tdiv 60:=wr_in (by omega) (by omega)
     have w4:wr .i64 ((max 0 hi*pay).tdiv 60)=(max 0 hi*pay).tdiv 60:=wr_in (by omega) (by omega)
     have hq:=fun n=>q_ar_quo .i64 (a:=n) (b:=60) (by decide)
     simp -implicitDefEqProofs(maxSteps:=999999)(disch:=first|with_reducible rfl|omega|(simp only[nA,nS,nD]<;>omega)|fail)only[go_sem,d0,hq,w1,w2,w3,w4,s3C.get g4,s36.get g4,get_set_same]
     exact fin _ s3C _ _ _ (by rw[hwg2];rfl)
    ·simp -implicitDefEqProofs(maxSteps:=999999)(disch:=first|with_reducible rfl|omega|(simp only[nA,nS,nD]<;>omega)|fail)only[go_sem,(decide_eq_true h0:decide (er≠0)=true),s3C.get g4,s36.get g4,get_set_same]
     exact fin _ s3C _ _ _ (by rw[hwg2,if_neg (by simp),if_pos h0])
end Go.Ab.Tryz
namespace Go.Ab.Tryz
open Go.Proofs
theorem fold_le {f t:Nat}:∀{l:List (List Int)} {s:Int × Int},(l.foldl (fun s M=>(min s.1 (-(mg M t f)),max s.2 (mg M f t))) s).1≤s.1∧s.2≤(l.foldl (fun s M=>(min s.1 (-(mg M t f)),max s.2 (mg M f t))) s).2∧
  (∀M∈l,(l.foldl (fun s M=>(min s.1 (-(mg M t f)),max s.2 (mg M f t))) s).1≤ -(mg M t f)∧mg M f t≤(l.foldl (fun s M=>(min s.1 (-(mg M t f)),max s.2 (mg M f t))) s).2)
 |[],s=>⟨Int.le_refl _,Int.le_refl _,fun M h=>absurd h List.not_mem_nil⟩
 |L::l,s=>by
  rw[List.foldl_cons]
  obtain⟨h1,h2,h3⟩:=fold_le (f:=f) (t:=t) (l:=l) (s:=(min s.1 (-(mg L t f)),max s.2 (mg L f t)))
  generalize l.foldl (fun s M=>(min s.1 (-(mg M t f)),max s.2 (mg M f t))) (min s.1 (-(mg L t f)),max s.2 (mg L f t))=w at h1 h2 h3⊢
  simp only at h1 h2
  refine⟨by omega,by omega,fun M hM=>?_⟩
  rcases List.mem_cons.1 hM with rfl|hM
  ·omega
  ·exact h3 M hM
theorem fold_ex {f t:Nat}:∀{l:List (List Int)} {s:Int × Int},((l.foldl (fun s M=>(min s.1 (-(mg M t f)),max s.2 (mg M f t))) s).2=s.2∨∃M∈l,(l.foldl (fun s M=>(min s.1 (-(mg M t f)),max s.2 (mg M f t))) s).2=mg M f t)
 |[],s=>.inl rfl
 |L::l,s=>by
  rw[List.foldl_cons]
  rcases fold_ex (f:=f) (t:=t) (l:=l) (s:=(min s.1 (-(mg L t f)),max s.2 (mg L f t))) with h|⟨M,hM,h⟩
  ·rw[h]
   by_cases hc:mg L f t≤s.2
   ·exact .inl (by show max s.2 (mg L f t)=s.2;omega)
   ·exact .inr ⟨L,List.mem_cons_self ..,by show max s.2 (mg L f t)=mg L f t;omega⟩
  ·exact .inr ⟨M,List.mem_cons_of_mem _ hM,h⟩
theorem betw_ge {f t:Nat}{l:List (List Int)}{M:List Int}(h:M∈l):(betw f t l).1≤ -(mg M t f)∧mg M f t≤(betw f t l).2:=by
 cases l with
 |nil=>cases h
 |cons L l=>exact fold_le.2.2 M h
theorem betw_ex {f t:Nat}{l:List (List Int)}(h:l≠[]):∃M∈l,(betw f t l).2=mg M f t:=by
 cases l with
 |nil=>exact absurd rfl h
 |cons L l=>
  rcases fold_ex (f:=f) (t:=t) (l:=L::l) (s:=(-(mg L t f),mg L f t)) with h|h
  ·exact⟨L,List.mem_cons_self ..,h⟩
  ·exact h
theorem fold_dual {f t:Nat}:∀{l:List (List Int)} {s:Int × Int},l.foldl (fun s M=>(min s.1 (-(mg M f t)),max s.2 (mg M t f))) (-s.2, -s.1)=(-(l.foldl (fun s M=>(min s.1 (-(mg M t f)),max s.2 (mg M f t))) s).2, -(l.foldl (fun s M=>(min s.1 (-(mg M t f)),max s.2 (mg M f t))) s).1)
 |[],s=>rfl
 |L::l,s=>by
  rw[List.foldl_cons,List.foldl_cons,←fold_dual (l:=l)]
  congr 1
  exact Prod.ext (by show min (-s.2) (-(mg L f t))= -(max s.2 (mg L f t));omega) (by show max (-s.1) (mg L t f)= -(min s.1 (-(mg L t f)));omega)
theorem betw_dual {f t:Nat}(l:List (List Int)):betw t f l=(-(betw f t l).2, -(betw f t l).1):=by
 cases l with
 |nil=>rfl
 |cons L l=>
  have:=fold_dual (f:=f) (t:=t) (l:=L::l) (s:=(-(mg L t f),mg L f t))
  simp only[Int.neg_neg] at this
  exact this
theorem betw_tru {a:At}(r:Right a){runs:Runs}{y:Nat→Int}(h:Tru a (fun _=>true) runs y){f t:Nat}(hf:f<5)(ht:t<5):allC a≠[]∧(betw f t ((allC a).map Prod.snd)).1≤y t-y f∧y t-y f≤(betw f t ((allC a).map Prod.snd)).2:=by
 obtain⟨L,hL⟩:=cases_full r h
 have hs:=((cases_sound r hL).2.2.2 y h.beg).2 h
 have hb:(betw f t ((allC a).map Prod.snd)).1≤ -(mg L t f)∧mg L f t≤(betw f t ((allC a).map Prod.snd)).2:=betw_ge (f:=f) (t:=t) (List.mem_map_of_mem (f:=Prod.snd) hL)
 have h1:y t-y f≤mg L f t:=hs f t hf ht
 have h2:y f-y t≤mg L t f:=hs t f ht hf
 refine⟨fun e=>List.ne_nil_of_mem hL e,?_,?_⟩
 ·omega
 ·omega
end Go.Ab.Tryz
namespace Go.Ab
end Go.Ab
namespace Go.Ab.Tryz
open Go.Proofs
theorem shown_in {set gain m:Int}(r:RunIn set gain)(h0:0≤m)(h1:m≤240):shownE set gain m=0∧shownR set gain m=shw set gain m:=by
 have:=rightB_iff.2 r
 have h2:=inB_iff.2 ⟨h0,h1⟩
 exact⟨by simp[shownE,this,h2],by simp[shownR,this,h2]⟩
end Go.Ab.Tryz
namespace Go.Ab
theorem SlAt_lt {h:H}{x:V}{sz:Nat}{rows:List (List V)}(hw:h.wf)(a:SlAt h x sz rows)(hr:rows≠[]):∀b,blkOf x b→b<h.next:=by
 rintro b ⟨o',n',c',e⟩
 rcases a.2.2 with⟨rfl,_⟩|⟨b',o,c,cs,e1,e2,e3⟩
 ·cases e
 ·rw[e1] at e;cases e
  obtain⟨k,hk⟩:=H.cells_eq (e2.resolve_left hr)
  exact hw _ _ hk
theorem q_shr_3 (a:Int):q_sh .shr (.int .u64 a) (.int .u64 3)=some (.int .u64 (a.fdiv (2^(min 3 IntKind.u64.bits)))):=rfl
theorem q_shr_19 (a:Int):q_sh .shr (.int .u64 a) (.int .u64 19)=some (.int .u64 (a.fdiv (2^(min 19 IntKind.u64.bits)))):=rfl
def xorI (k:IntKind)(a b:Int):Int:=k.wrap (BitVec.ofInt k.bits a^^^BitVec.ofInt k.bits b).toNat
def andI (k:IntKind)(a b:Int):Int:=k.wrap (BitVec.ofInt k.bits a&&& BitVec.ofInt k.bits b).toNat
theorem q_ar_xor (k:IntKind)(a b:Int):q_ar .xor (.int k a) (.int k b)=some (.int k (xorI k a b)):=by simp[q_ar,arith,xorV,vi,xorI]
theorem q_ar_and (k:IntKind)(a b:Int):q_ar .and (.int k a) (.int k b)=some (.int k (andI k a b)):=by simp[q_ar,arith,andV,vi,andI]
theorem and_bd (a:Int):0≤andI .i64 a 65535∧andI .i64 a 65535≤65535:=by
 have h:(BitVec.ofInt IntKind.i64.bits a&&& BitVec.ofInt IntKind.i64.bits 65535).toNat≤65535:=by
  rw[BitVec.toNat_and]
  exact Nat.le_trans Nat.and_le_right (by decide)
 unfold andI
 rw[←wr_eq,wr_in (by omega) (by omega)]
 omega
namespace Tryz
def SpAt (h:H)(p:Nat)(x:V)(T:Int):Prop:=∃st,h.get p=some (.cells .rw [x,.int .i64 T,.int .u64 st])
theorem SpAt.mono {h h':H}{p:Nat}{x:V}{T:Int}(a:SpAt h p x T)(hs:h.Sub h'):SpAt h' p x T:=by
 obtain⟨st,a⟩:=a
 exact⟨st,hs.get a⟩
theorem SpAt.keep {h h':H}{p:Nat}{x:V}{T:Int}{S:Nat→Prop}(a:SpAt h p x T)(k:Keeps S h h')(n:¬S p):SpAt h' p x T:=by
 obtain⟨st,a⟩:=a
 exact⟨st,k.2 _ _ a n⟩
set_option maxHeartbeats 1000000 in
theorem turn_ev {h0 h:H}{p:Nat}{x:V}{bs:List Int}{T:Int}(hs:h0.Sub h)(hw0:h0.wf)(hx:SlAt h0 x 1 (bs.map encU8))(hp0:h0.next≤p)(hp:SpAt h p x T)(hT:0≤T∧T≤1000000000)(Q:V→H→Prop)
  (q:∀r h',0≤r→r≤65535→h0.Sub h'→SpAt h' p x (T+1)→Keeps (fun b=>b=p) h h'→h'.next=h.next→Q (.int .i64 r) h'):Ev fnG fastA (.fn 20 [] []) [.ptr p 0] h Q:=by
 obtain⟨st,hp⟩:=hp
 have hw:=hs.wf
 have hlp:=hw _ _ hp
 have hx1:=hx.one
 have hlen:=hx.lenE
 have hc:=cells_of hp
 refine Ev_body (fd:=c20) rfl rfl rfl ?_
 have fin:∀(st':Int) (r:Int),0≤r→r≤65535→Q (.int .i64 r) (h.set p (.cells .rw [x,.int .i64 (T+1),.int .u64 st'])):=fun st' r r0 r1=>
  q r _ r0 r1 (hs.set hp0 hlp hw0 _) ⟨st',get_set_same rfl⟩ (Keeps.set _ _ _) (H.next_set _ _ _)
 by_cases h1:0<(bs.length:Int)
 ·have hT0:0≤T.tmod (bs.length:Int):=Int.tmod_nonneg _ hT.1
  have hT1:T.tmod (bs.length:Int)<(bs.length:Int):=Int.tmod_lt_of_pos _ h1
  obtain⟨i,ei⟩:=Int.eq_ofNat_of_zero_le hT0
  have hi:i<bs.length:=by omega
  obtain⟨b2,o2,c2,cs2,e2,hcs2,hq2,hgg2,hn2,hn02⟩:=(hx.mono hs).at hi
  have v2:=hn02 (by omega)
  simp only[encU8] at v2
  have hbb:b2≠p:=by
   have:=SlAt_lt hw0 hx (by intro e;rw[List.map_eq_nil_iff] at e;rw[e] at hi;simp at hi) b2 ⟨_,_,_,e2⟩
   omega
  have hne:¬(bs.length:Int)=0:=by omega
  by_cases h2:(bs.length:Int)<T+1
  ·simp -implicitDefEqProofs(maxSteps:=999999)(disch:=first|with_reducible rfl|omega|(simp only[nA,nS,nD]<;>omega)|fail)only[c20,go_sem,hc,hlen,h1,q_ar_rem .i64 hne,ei,hq2 (nat_cst i),hcs2,v2,hp,wr_in,h2,hx1,q_shr_3,q_shr_19,q_ar_xor,q_ar_and]
   exact fin _ _ (and_bd _).1 (and_bd _).2
  ·simp -implicitDefEqProofs(maxSteps:=999999)(disch:=first|with_reducible rfl|omega|(simp only[nA,nS,nD]<;>omega)|fail)only[c20,go_sem,hc,hlen,h1,q_ar_rem .i64 hne,ei,hq2 (nat_cst i),hcs2,v2,hp,wr_in,h2,hx1,q_shr_3,q_shr_19,q_ar_xor,q_ar_and]
   exact fin _ _ (and_bd _).1 (and_bd _).2
 ·by_cases h2:(bs.length:Int)<T+1
  ·simp -implicitDefEqProofs(maxSteps:=999999)(disch:=first|with_reducible rfl|omega|(simp only[nA,nS,nD]<;>omega)|fail)only[c20,go_sem,hc,hlen,h1,hp,wr_in,h2,hx1,q_shr_3,q_shr_19,q_ar_xor,q_ar_and]
   exact fin _ _ (and_bd _).1 (and_bd _).2
  ·omega
theorem Upto_ev {h0 h:H}{p:Nat}{x:V}{bs:List Int}{T:Int}(hs:h0.Sub h)(hw0:h0.wf)(hx:SlAt h0 x 1 (bs.map encU8))(hp0:h0.next≤p)(hp:SpAt h p x T)(hT:0≤T∧T≤1000000000){n:Int}(hn: -1000000000≤n∧n≤1000000000)(Q:V→H→Prop)
  (q:∀r h',0≤r→r≤max 0 n→h0.Sub h'→SpAt h' p x (T+1)→Keeps (fun b=>b=p) h h'→h'.next=h.next→Q (.int .i64 r) h'):Ev fnG fastA (.fn 8 [] []) [.ptr p 0,.int .i64 n] h Q:=by
 refine Ev_body (fd:=c8) rfl rfl rfl ?_
 simp -implicitDefEqProofs(maxSteps:=999999)(disch:=first|with_reducible rfl|omega|(simp only[nA,nS,nD]<;>omega)|fail)only[c8,go_sem]
 refine turn_ev hs hw0 hx hp0 hp hT _ fun r h' r0 r1 s' p' k' n'=>?_
 have hm:¬max 1 (n+1)=0:=by omega
 have e0:0≤r.tmod (max 1 (n+1)):=Int.tmod_nonneg _ r0
 have e1:r.tmod (max 1 (n+1))<max 1 (n+1):=Int.tmod_lt_of_pos _ (by omega)
 simp -implicitDefEqProofs(maxSteps:=999999)(disch:=first|with_reducible rfl|omega|(simp only[nA,nS,nD]<;>omega)|fail)only[go_sem,wr_in,q_ar_rem .i64 hm]
 exact q _ _ e0 (by omega) s' p' k' n'
theorem From_ev {h0 h:H}{p:Nat}{x:V}{bs:List Int}{T:Int}(hs:h0.Sub h)(hw0:h0.wf)(hx:SlAt h0 x 1 (bs.map encU8))(hp0:h0.next≤p)(hp:SpAt h p x T)(hT:0≤T∧T≤1000000000){lo hi:Int}(hlo: -1000000≤lo∧lo≤1000000)(hhi: -1000000≤hi∧hi≤1000000)(Q:V→H→Prop)
  (q:∀r h',lo≤r→r≤max lo hi→h0.Sub h'→SpAt h' p x (T+1)→Keeps (fun b=>b=p) h h'→h'.next=h.next→Q (.int .i64 r) h'):Ev fnG fastA (.fn 9 [] []) [.ptr p 0,.int .i64 lo,.int .i64 hi] h Q:=by
 refine Ev_body (fd:=c9) rfl rfl rfl ?_
 simp -implicitDefEqProofs(maxSteps:=999999)(disch:=first|with_reducible rfl|omega|(simp only[nA,nS,nD]<;>omega)|fail)only[c9,go_sem,wr_in]
 refine Upto_ev hs hw0 hx hp0 hp hT (by omega) _ fun r h' r0 r1 s' p' k' n'=>?_
 simp -implicitDefEqProofs(maxSteps:=999999)(disch:=first|with_reducible rfl|omega|(simp only[nA,nS,nD]<;>omega)|fail)only[go_sem,wr_in]
 exact q _ _ (by omega) (by omega) s' p' k' n'
theorem Wound_ev {h:H}{x:V}{bs:List Int}(hw:h.wf)(hx:SlAt h x 1 (bs.map encU8))(Q:V→H→Prop)(q:∀h',h.Sub h'→SpAt h' h.next x 0→h'.next=h.next+1→Q (.ptr h.next 0) h'):Ev fnG fastA (.fn 5 [] []) [x] h Q:=by
 have hx1:=hx.one
 refine Ev_body (fd:=c5) rfl rfl rfl ?_
 simp -implicitDefEqProofs(maxSteps:=999999)(disch:=first|with_reducible rfl|omega|(simp only[nA,nS,nD]<;>omega)|fail)only[c5,go_sem,hx.lenE,hx1,cells_one hx1]
 exact q _ ((H.Sub.refl hw).add _) ⟨_,get_add_new rfl⟩ (H.next_add _ _)
end Tryz
end Go.Ab
namespace Go.Ab
theorem Keeps.new {S:Nat→Prop}{h h':H}(hw:h.wf)(k:Keeps (fun c=>S c∨h.next≤c) h h'):Keeps S h h':=⟨k.1,fun c y e n=>k.2 c y e fun hs=>hs.elim n fun hge=>by have:=hw c y e;omega⟩
variable {h0 z z':H} {n1:Nat} {v:Nat→V} {sz:Nat→Nat} {rows:Nat→List (List V)}
end Go.Ab
namespace Go.Ab.Tryz
open Go.Proofs
end Go.Ab.Tryz
namespace Go.Ab.Tryz
open Go.Proofs
def sz6:Nat→Nat
 |0=>4
 |1=>3
 |2=>4
 |_=>1
variable {h0:H} {p:Nat} {x:V} {n1 c0:Nat} {a a':At} {ss gg tt ss' gg' tt':List Int} {T T':Int} {v v':Nat→V} {z z5:H}
end Go.Ab.Tryz
