/- The cases of the clocks are just all truths (plain). Distances with the readings of a clock. An attic at work. All that clocks can have been set to, and gain (plain); copies of runs. What the cases of the clocks say (plain): each is a run of every clock with the distances that follow; all truths are among them. All that clocks can have been set to, and gain, handed on one by one. All cases of the clocks: collected; whether there is one. All cases of the clocks in a slice: slices.Collect. -/
import Derived.Test.YtiphdfiihgbomaaGreatG4
import Derived.Test.YtiphdfiihgbomaaGreatAc8
set_option linter.unusedSimpArgs false
set_option linter.unusedVariables false
namespace Go.Ab
theorem clo_len:∀(n:Nat) (L:List Int),(clo n L).1.length=L.length
 |0,L=>rfl
 |n+1,L=>by
  simp only[clo]
  split
  ·exact run5_len L 125
  ·split
   ·exact run5_len L 125
   ·rw[clo_len n,run5_len]
theorem clos_len (L:List Int):(clos L).1.length=L.length:=clo_len _ _
end Go.Ab
namespace Go.Ab.Tryz
open Go.Proofs
theorem Right.rd {a:At}(r:Right a){x:Rd}(hx:x∈a.rds):∃k e:Nat,x.ck=k∧x.ev=e∧k<a.cks.length∧e<4∧(e:Int)<a.evs:=by
 have h1:=r.ro x hx
 have h3:=r.evs
 simp only[At.rdOk,At.ckB,At.evB,Bool.and_eq_true,inB_iff] at h1
 exact⟨x.ck.toNat,x.ev.toNat,by omega,by omega,by omega,by omega,by omega⟩
structure RunOf (a:At)(k:Nat)(x:Int × Int):Prop where
 is:∃c,a.cks[k]? =some c∧c.sl≤x.1∧x.1≤c.sh∧c.gl≤x.2∧x.2≤c.gh
theorem RunOf.run {a:At}{k:Nat}{x:Int × Int}(h:RunOf a k x)(r:Right a):RunIn x.1 x.2:=by
 obtain⟨c,hc,h1,h2,h3,h4⟩:=h.is
 have:=r.cb c (List.mem_of_getElem? hc)
 simp only[Ck.bd,within,Bool.and_eq_true,inB_iff] at this
 exact⟨by omega,by omega,by omega,by omega⟩
theorem rdL_in {L:List Int}(h:In5 240 L){e:Nat}(he:e<4){s:Int × Int}(h1:0≤s.1∧s.1≤240)(h2:0≤s.2∧s.2≤240):In5 240 (rdL L e s):=
 (h.low (by omega) (by omega) (by omega)).low (by omega) (by omega) (by omega)
theorem readsL_in {a:At}(r:Right a){cnt:Nat→Bool}{k:Int}{x:Int × Int}:∀{l:List Rd} {i:Nat} {L:List Int},(∀y∈l,y∈a.rds)→In5 240 L→In5 240 (readsL a cnt k x l i L).1
 |[],_,_,_,h=>h
 |y::l,i,L,hl,h=>by
  have hm:=r.mins
  obtain⟨_,e,_,e2,_,he,_⟩:=r.rd (hl y (by simp))
  rw[readsL]
  split
  ·exact readsL_in r (fun z hz=>hl z (by simp[hz])) h
  ·split
   ·exact h
   ·rename_i h2
    have hr:=whn_rng (set:=x.1) (gain:=x.2) (s:=y.sh) (n:=a.mins.toNat+1) (by omega)
    exact readsL_in r (fun z hz=>hl z (by simp[hz])) (rdL_in h (by omega) (by omega) (by omega))
structure RdI (h:H)(L:List Int)(Z:List V)(x:Int × Int)(tm:T V)(h':H):Prop where
 sub:h.Sub h'
 nx:h.next+2<h'.next
 gf:h'.get h.next=some (.cells .rw (L.map iv))
 gx:h'.get (h.next+1)=some (.cells .rw [.int .i64 x.1,.int .i64 x.2])
 gr:h'.get (h.next+2)=some (.cells .rw Z)
 e5:(Opd.t 5).ev tm=.ptr h.next 0
 e7:(Opd.t 7).ev tm=.ptr (h.next+1) 0
 e8:(Opd.t 8).ev tm=.ptr (h.next+2) 0
set_option maxHeartbeats 8000000 in
theorem read_ev {h:H}(hw:h.wf){d:Nat}{a:At}{C R G f W:V}{ms:List Nat}(k:Dk h d a C R G f W ms)(r:Right a){cnt:Nat→Bool}(hcnt:∀i,i<a.rds.length→PureA h f [.int .i64 (i:Int)] (.bool (cnt i)))
  {L:List Int} (hL:In5 240 L) {kc:Nat} {x:Int × Int} (hx:RunOf a kc x) (Q:V→H→Prop) (q:∀h',h.Sub h'→Q (.tup [.agg ((readL a cnt kc x L).1.map iv),.bool (readL a cnt kc x L).2]) h'):
  Ev fnG fastA (.fn 81 [] []) [.ptr d 0,.agg (L.map iv),.int .i64 (kc:Int),.agg [.int .i64 x.1,.int .i64 x.2]] h Q:=by
 have hd:=hw _ _ k.dk
 have hR:=k.x.r.lenE
 have hRb:=k.x.r.boundE
 have lL:=hL.len
 have hm:=r.mins
 obtain⟨Z,hZ,lZ⟩:∃Z:List Int,Z.map iv=[V.int .i64 0,.int .i64 0,.int .i64 0,.int .i64 0,.int .i64 0,.int .i64 0,.int .i64 0,.int .i64 0,.int .i64 0,.int .i64 0,.int .i64 0,.int .i64 0,.int .i64 0,.int .i64 0,.int .i64 0,.int .i64 0,.int .i64 0,.int .i64 0,.int .i64 0,.int .i64 0,.int .i64 0,.int .i64 0,.int .i64 0,.int .i64 0,.int .i64 0]∧Z.length=25:=⟨List.replicate 25 0,rfl,rfl⟩
 refine Ev_body (fd:=c81) rfl rfl rfl ?_
 simp -implicitDefEqProofs(maxSteps:=999999)(disch:=first|with_reducible rfl|omega|(simp only[nA,nS,nD]<;>omega)|fail)only[c81,go_sem,cells_of k.dk,hR]
 rw[←hZ]
 refine W_count a.rds.length (fun i s=>∃tm h' K,s=⟨tm,h',[]⟩∧RdI h K (Z.map iv) x tm h'∧In5 240 K∧readsL a cnt kc x a.rds 0 L=readsL a cnt kc x (a.rds.drop i) i K∧
   (Opd.t 0).ev tm=.ptr d 0∧(Opd.t 2).ev tm=.int .i64 (kc:Int)∧(Opd.t 17).ev tm=R∧(Opd.t 18).ev tm=.int .i64 (a.rds.length:Int)∧(Opd.t 19).ev tm=.int .i64 (i:Int)) ?_ ?_ (i:=0) (Nat.zero_le _)
  ⟨_,_,L,rfl,⟨(by repeat(first|assumption|exact H.Sub.refl (by assumption)|refine H.Sub.add ?_ _|refine H.Sub.set ?_ (by first|omega|(simp only[H.next_add,H.next_set,H.next_del]<;>omega)) (by first|omega|(simp only[H.next_add,H.next_set,H.next_del]<;>omega)) (by assumption) _)),by simp only[H.next_add];omega,by simp -implicitDefEqProofs(maxSteps:=999999)(disch:=first|with_reducible rfl|omega|(simp only[nA,nS,nD]<;>omega)|fail)only[go_sem],by simp -implicitDefEqProofs(maxSteps:=999999)(disch:=first|with_reducible rfl|omega|(simp only[nA,nS,nD]<;>omega)|fail)only[go_sem],by simp -implicitDefEqProofs(maxSteps:=999999)(disch:=first|with_reducible rfl|omega|(simp only[nA,nS,nD]<;>omega)|fail)only[go_sem],(by simp[ev_c,ev_put]<;>rfl),(by simp[ev_c,ev_put]<;>rfl),(by simp[ev_c,ev_put]<;>rfl)⟩,hL,rfl,(by simp[ev_c,ev_put]<;>rfl),(by simp[ev_c,ev_put]<;>rfl),(by simp[ev_c,ev_put]<;>rfl),(by simp[ev_c,ev_put]<;>rfl),(by simp[ev_c,ev_put]<;>rfl)⟩
 ·rintro i s hi ⟨tm,h1,K,rfl,c,hK,hread,e0,e2,e17,e18,e19⟩
  have hi':(i:Int)<(a.rds.length:Int):=by omega
  have k1:=k.mono c.sub
  have hw1:=c.sub.wf
  have nx:=c.nx
  have lK:=hK.len
  obtain⟨b,o,cc,cs,e,hc,hq,hg,hn,hn0⟩:=k1.x.r.at hi
  obtain⟨y,hy⟩:∃y,a.rds[i]=y:=⟨_,rfl⟩
  have hmem:y∈a.rds:=by rw[←hy];exact List.getElem_mem hi
  obtain⟨yk,ye,ek,ee,hyk,hye,_⟩:=r.rd hmem
  rw[hy] at hg
  simp only[encR,ek,ee] at hg
  rw[List.drop_eq_getElem_cons hi,hy,readsL] at hread
  have sB:=(H.Sub.refl hw1).add (.cells .rw [.int .i64 (yk:Int),.int .i64 (ye:Int),.int .i64 y.sh])
  have nB:=H.next_add h1 (.cells .rw [.int .i64 (yk:Int),.int .i64 (ye:Int),.int .i64 y.sh])
  have gB:(h1.add (.cells .rw [.int .i64 (yk:Int),.int .i64 (ye:Int),.int .i64 y.sh])).get h1.next=some (.cells .rw [.int .i64 (yk:Int),.int .i64 (ye:Int),.int .i64 y.sh]):=get_add_new rfl
  obtain⟨hB,hhB⟩:∃hB,h1.add (.cells .rw [.int .i64 (yk:Int),.int .i64 (ye:Int),.int .i64 y.sh])=hB:=⟨_,rfl⟩
  rw[hhB] at sB nB gB
  have kB:=k1.mono sB
  subst e
  have cB:=c.sub.trans sB
  by_cases hk:(yk:Int)=(kc:Int)
  case neg=>
   rw[if_pos (.inl (by rw[ek];exact hk))] at hread
   simp -implicitDefEqProofs(maxSteps:=999999)(disch:=first|with_reducible rfl|omega|(simp only[nA,nS,nD]<;>omega)|fail)only[go_sem,e0,e2,e17,e18,e19,hi',hq (nat_cst i),hc,hg,hhB,cells_of gB,hk,ne_eq,not_false_eq_true,wr_succ]
   exact⟨_,_,K,rfl,⟨cB,by omega,sB.get c.gf,sB.get c.gx,sB.get c.gr,(by simp[ev_c,ev_put,c.e5]<;>rfl),(by simp[ev_c,ev_put,c.e7]<;>rfl),(by simp[ev_c,ev_put,c.e8]<;>rfl)⟩,hK,hread,(by simp[ev_c,ev_put,e0]<;>rfl),(by simp[ev_c,ev_put,e2]<;>rfl),(by simp[ev_c,ev_put,e17]<;>rfl),(by simp[ev_c,ev_put,e18]<;>rfl),(by simp[ev_c,ev_put]<;>rfl)⟩
  have hkc:yk=kc:=by omega
  subst hkc
  simp -implicitDefEqProofs(maxSteps:=999999)(disch:=first|with_reducible rfl|omega|(simp only[nA,nS,nD]<;>omega)|fail)only[go_sem,e0,e2,e17,e18,e19,hi',hq (nat_cst i),hc,hg,hhB,cells_of gB,eq_self,ne_eq,not_true_eq_false,cells_of kB.dk]
  refine(hcnt i hi).use cB fun h2 s2=>?_
  have l2:=s2.next
  cases hct:cnt i with
  |false=>
   rw[if_pos (.inr hct)] at hread
   simp -implicitDefEqProofs(maxSteps:=999999)(disch:=first|with_reducible rfl|omega|(simp only[nA,nS,nD]<;>omega)|fail)only[go_sem,e0,e2,e17,e18,e19,wr_succ]
   have s12:=sB.trans s2
   exact⟨_,_,K,rfl,⟨cB.trans s2,by omega,s12.get c.gf,s12.get c.gx,s12.get c.gr,(by simp[ev_c,ev_put,c.e5]<;>rfl),(by simp[ev_c,ev_put,c.e7]<;>rfl),(by simp[ev_c,ev_put,c.e8]<;>rfl)⟩,hK,hread,(by simp[ev_c,ev_put,e0]<;>rfl),(by simp[ev_c,ev_put,e2]<;>rfl),(by simp[ev_c,ev_put,e17]<;>rfl),(by simp[ev_c,ev_put,e18]<;>rfl),(by simp[ev_c,ev_put]<;>rfl)⟩
  |true=>
  have s12:=sB.trans s2
  have k2:=k1.mono s12
  rw[if_neg (by rw[ek,hct];simp)] at hread
  obtain⟨bm,l,em,gm,mo⟩:=k2.maps i hi
  have him:i<ms.length:=by rw[k.len];exact hi
  have hw2:=k2.w
  obtain⟨b2,o2,cc2,cs2,e',hc2,hq2,hg2,hn2,hn02⟩:=hw2.at (k:=i) him
  have hbm:ms[i]=bm:=by rw[List.getElem?_eq_getElem him] at em;exact Option.some.inj em
  have hnm:nth (o2+i*1) cs2=some (.map bm):=by rw[hn02 (by omega),hbm];rfl
  subst e'
  obtain⟨ck,hck,x1,x2,x3,x4⟩:=hx.is
  have hlk:=mo ck (by rw[hy,ek];exact hck) x.1 x.2 x1 x2 x3 x4
  rw[hy] at hlk
  obtain⟨sp,hsp⟩:∃sp,whn x.1 x.2 y.sh (a.mins.toNat+1)=sp:=⟨_,rfl⟩
  rw[hsp] at hlk hread
  have gx2:=s12.get c.gx
  have hlx:∀h3,h2.Sub h3→q_lks h3 2 (.agg [.int .i64 0,.int .i64 0]) (.map bm) (.agg [.int .i64 x.1,.int .i64 x.2]) false=some (.agg [.int .i64 sp.1,.int .i64 sp.2]):=fun h3 s3=>by
   rw[q_lks_map,s3.get gm]
   have:=lkPC_map l (.agg [.int .i64 0,.int .i64 0]) x false
   rw[show(x.1,x.2)=x from rfl] at hlk
   rw[hlk] at this
   exact this
  have lb2:b2<h2.next:=(H.cells_eq hc2).elim fun kd e=>s2.wf _ _ e
  have gc2:=s12.get c.gf
  have gr2:=s12.get c.gr
  have gB2:=s2.get gB
  have sD:=(H.Sub.refl s2.wf).add (.cells .rw [.int .i64 sp.1,.int .i64 sp.2])
  have nD:=H.next_add h2 (.cells .rw [.int .i64 sp.1,.int .i64 sp.2])
  have gD:(h2.add (.cells .rw [.int .i64 sp.1,.int .i64 sp.2])).get h2.next=some (.cells .rw [.int .i64 sp.1,.int .i64 sp.2]):=get_add_new rfl
  obtain⟨hD,hhD⟩:∃hD,h2.add (.cells .rw [.int .i64 sp.1,.int .i64 sp.2])=hD:=⟨_,rfl⟩
  rw[hhD] at sD nD gD
  simp -implicitDefEqProofs(maxSteps:=999999)(disch:=first|with_reducible rfl|omega|(simp only[nA,nS,nD]<;>omega)|fail)only[go_sem,e0,e2,e17,e18,e19,c.e5,c.e7,cells_of k2.dk,hq2 (nat_cst i),hc2,hnm,cells_of gx2,hlx h2 (H.Sub.refl s2.wf),hlx _ ((H.Sub.refl s2.wf).add (.cells .rw [.int .i64 0,.int .i64 0])),hhD]
  have cD:=(c.sub.trans s12).trans sD
  have gfD:=sD.get gc2
  have gxD:=sD.get gx2
  have grD:=sD.get gr2
  have gBD:=sD.get gB2
  have lD:h2.next<hD.next:=by omega
  by_cases hlt:sp.2<sp.1
  ·rw[if_pos hlt] at hread
   have gN:getN 0 25 (K.map iv)=some (K.map iv):=by rw[←lK];exact getN_iv _
   have lnN:lenN (K.map iv)=25:=by rw[lenN_iv,lK]
   have pN:hD.put (h.next+2) 0 (K.map iv)=some (hD.set (h.next+2) (.cells .rw (K.map iv))):=put_ints (L:=Z) grD (by omega) (fun e=>by rw[e] at lK;cases lK)
   have hfin:readL a cnt yk x L=(K,false):=by unfold readL;rw[hread];simp
   rw[hfin] at q
   have hlt':decide (sp.2<sp.1)=true:=by simp[hlt]
   simp -implicitDefEqProofs(maxSteps:=999999)(disch:=first|with_reducible rfl|omega|(simp only[nA,nS,nD]<;>omega)|fail)only[go_sem,cells_of gD,hlt,c.e5,c.e8,cells_of gfD,gN,lnN,pN]
   exact q _ (cD.set (by omega) (by omega) hw _)
  rw[if_neg hlt,ee,Int.toNat_natCast] at hread
  have hr:=whn_rng (set:=x.1) (gain:=x.2) (s:=y.sh) (n:=a.mins.toNat+1) (by rw[hsp];omega)
  rw[hsp] at hr
  have w1:wr .i64 (0-sp.1)= -sp.1:=by rw[wr_in (by omega) (by omega)];omega
  simp -implicitDefEqProofs(maxSteps:=999999)(disch:=first|with_reducible rfl|omega|(simp only[nA,nS,nD]<;>omega)|fail)only[go_sem,cells_of gD,hlt,e0,e2,e17,e18,e19,c.e5,c.e8,cells_of gfD,cells_of gBD,iaa5,iaa54,nth_mg lK (by omega:4<5) (by omega:ye<5)]
  refine least1_ev sD.wf _ _ _ fun h3 s3=>?_
  have gf3:=s3.get gfD
  have gB3:=s3.get gBD
  have gD3:=s3.get gD
  have l3:=s3.next
  have hp:=putN_iv (L:=K) (k:=4*5+ye*1) (by omega) (min (mg K 4 ye) sp.2)
  rw[low_eq] at hp
  obtain⟨K2,hK2⟩:∃K2,low K 4 ye sp.2=K2:=⟨_,rfl⟩
  rw[hK2] at hp
  have lK2:K2.length=25:=by rw[←hK2,low_len];exact lK
  have s03:=cD.trans s3
  have s4:h.Sub (h3.set h.next (.cells .rw (K2.map iv))):=s03.set (by omega) (by omega) hw _
  have gf4:(h3.set h.next (.cells .rw (K2.map iv))).get h.next=some (.cells .rw (K2.map iv)):=get_set_same rfl
  have gB4:(h3.set h.next (.cells .rw (K2.map iv))).get h1.next=some (.cells .rw [.int .i64 (yk:Int),.int .i64 (ye:Int),.int .i64 y.sh]):=by rw[get_set_other (by omega)];exact gB3
  have gD4:(h3.set h.next (.cells .rw (K2.map iv))).get h2.next=some (.cells .rw [.int .i64 sp.1,.int .i64 sp.2]):=by rw[get_set_other (by omega)];exact gD3
  have gx4:(h3.set h.next (.cells .rw (K2.map iv))).get (h.next+1)=some (.cells .rw [.int .i64 x.1,.int .i64 x.2]):=by rw[get_set_other (by omega)];exact s3.get gxD
  have gr4:(h3.set h.next (.cells .rw (K2.map iv))).get (h.next+2)=some (.cells .rw (Z.map iv)):=by rw[get_set_other (by omega)];exact s3.get grD
  have n4:(h3.set h.next (.cells .rw (K2.map iv))).next=h3.next:=H.next_set _ _ _
  simp -implicitDefEqProofs(maxSteps:=999999)(disch:=first|with_reducible rfl|omega|(simp only[nA,nS,nD]<;>omega)|fail)only[go_sem,e0,e2,e17,e18,e19,c.e5,c.e8,iaa5,iaa54,gf3,cells_of gf3,cells_of gB3,cells_of gD3,cells_of gfD,cells_of gBD,cells_of gD,nth_mg lK (by omega:4<5) (by omega:ye<5),hp]
  obtain⟨h4,hh4⟩:∃h4,h3.set h.next (.cells .rw (K2.map iv))=h4:=⟨_,rfl⟩
  rw[hh4] at s4 gf4 gB4 gD4 gx4 gr4 n4
  simp -implicitDefEqProofs(maxSteps:=999999)(disch:=first|with_reducible rfl|omega|(simp only[nA,nS,nD]<;>omega)|fail)only[go_sem,hh4,e0,e2,e17,e18,e19,c.e5,c.e8,iaa5,iaa54,gf4,cells_of gf4,cells_of gB4,cells_of gD4,nth_mg lK2 (by omega:ye<5) (by omega:4<5),w1]
  refine least1_ev s4.wf _ _ _ fun h5 s5=>?_
  have gf5:=s5.get gf4
  have gB5:=s5.get gB4
  have gD5:=s5.get gD4
  have l5:=s5.next
  have hp5:=putN_iv (L:=K2) (k:=ye*5+4*1) (by omega) (min (mg K2 ye 4) (-sp.1))
  rw[low_eq] at hp5
  have hrd:rdL K ye sp=low K2 ye 4 (-sp.1):=by rw[rdL,hK2]
  rw[hrd] at hread
  have hin:In5 240 (low K2 ye 4 (-sp.1)):=by rw[←hrd];exact rdL_in hK hye (by omega) (by omega)
  simp -implicitDefEqProofs(maxSteps:=999999)(disch:=first|with_reducible rfl|omega|(simp only[nA,nS,nD]<;>omega)|fail)only[go_sem,e0,e2,e17,e18,e19,c.e5,c.e8,iaa5,iaa54,gf5,cells_of gf5,cells_of gB5,cells_of gD5,gf4,cells_of gf4,cells_of gB4,cells_of gD4,nth_mg lK2 (by omega:ye<5) (by omega:4<5),hp5,wr_succ]
  exact⟨_,_,_,rfl,⟨(s4.trans s5).set (by omega) (by omega) hw _,by rw[H.next_set];omega,get_set_same rfl,by rw[get_set_other (by omega)];exact s5.get gx4,by rw[get_set_other (by omega)];exact s5.get gr4,(by simp[ev_c,ev_put,c.e5]<;>rfl),(by simp[ev_c,ev_put,c.e7]<;>rfl),(by simp[ev_c,ev_put,c.e8]<;>rfl)⟩,hin,hread,(by simp[ev_c,ev_put,e0]<;>rfl),(by simp[ev_c,ev_put,e2]<;>rfl),(by simp[ev_c,ev_put,e17]<;>rfl),(by simp[ev_c,ev_put,e18]<;>rfl),(by simp[ev_c,ev_put]<;>rfl)⟩
 ·rintro s ⟨tm,h1,K,rfl,c,hK,hread,e0,e2,e17,e18,e19⟩
  rw[List.drop_eq_nil_of_le (Nat.le_refl _),readsL] at hread
  have lK:=hK.len
  have nx:=c.nx
  have hw1:=c.sub.wf
  have gN:getN 0 25 (K.map iv)=some (K.map iv):=by rw[←lK];exact getN_iv _
  have hfin:readL a cnt kc x L=clos K:=by unfold readL;rw[hread];simp
  rw[hfin] at q
  have hKin:=clos_spec (by decide) (by decide) hK
  simp -implicitDefEqProofs(maxSteps:=999999)(disch:=first|with_reducible rfl|omega|(simp only[nA,nS,nD]<;>omega)|fail)only[go_sem,e0,e2,e17,e18,e19,c.e5,Int.lt_irrefl,cells_of c.gf,gN]
  refine closed_ev rfl rfl hw1 hK _ fun h2 s2=>?_
  have lC:(clos K).1.length=25:=by rw[clos_len,lK]
  have lnN:lenN ((clos K).1.map iv)=25:=by rw[lenN_iv,lC]
  have gr2:=s2.get c.gr
  have l2:=s2.next
  have pN:h2.put (h.next+2) 0 ((clos K).1.map iv)=some (h2.set (h.next+2) (.cells .rw ((clos K).1.map iv))):=put_ints (L:=Z) gr2 (by omega) (fun e=>by rw[e] at lC;cases lC)
  have gN2:getN 0 25 ((clos K).1.map iv)=some ((clos K).1.map iv):=by rw[←lC];exact getN_iv _
  simp -implicitDefEqProofs(maxSteps:=999999)(disch:=first|with_reducible rfl|omega|(simp only[nA,nS,nD]<;>omega)|fail)only[go_sem,e0,e2,e17,e18,e19,c.e8,lnN,pN,gN2]
  exact q _ ((c.sub.trans s2).set (by omega) (by omega) hw _)
end Go.Ab.Tryz
namespace Go.Ab.Tryz
open Go.Proofs
def MapUp (a:At)(r:Rd)(c:Ck)(S T:Int)(l:List ((Int × Int) × V)):Prop:=∀s g:Int,c.sl≤s→s≤c.sh→c.gl≤g→g≤c.gh→(s<S∨(s=S∧g<T))→lkP (s,g) l=some (spV (whn s g r.sh (a.mins.toNat+1)))
theorem MapUp.step {a:At}{r:Rd}{c:Ck}{S T:Int}{l:List ((Int × Int) × V)}(h:MapUp a r c S T l):MapUp a r c S (T+1) (putP (S,T) (spV (whn S T r.sh (a.mins.toNat+1))) l):=fun s g h1 h2 h3 h4 h5=>by
 rw[lkP_putP]
 by_cases e:(s,g)=(S,T)
 ·rw[if_pos e];cases e;rfl
 ·rw[if_neg e]
  refine h s g h1 h2 h3 h4 ?_
  rcases h5 with h5|⟨rfl,h5⟩
  ·exact .inl h5
  ·have:g≠T:=fun e'=>e (by rw[e'])
   exact .inr ⟨rfl,by omega⟩
theorem MapUp.row {a:At}{r:Rd}{c:Ck}{S T:Int}{l:List ((Int × Int) × V)}(h:MapUp a r c S T l)(hT:c.gh<T):MapUp a r c (S+1) c.gl l:=fun s g h1 h2 h3 h4 h5=>h s g h1 h2 h3 h4 (by omega)
theorem RunOf.mk' {a:At}{k:Nat}{c:Ck}(hc:a.cks[k]? =some c){s g:Int}(h1:c.sl≤s)(h2:s≤c.sh)(h3:c.gl≤g)(h4:g≤c.gh):RunOf a k (s,g):=⟨c,hc,h1,h2,h3,h4⟩
structure WkI (h:H)(a:At)(C R G f:V)(i:Nat)(W:V)(ms:List Nat)(h':H):Prop where
 sub:h.Sub h'
 nx:h.next+2<h'.next
 ga:h'.get h.next=some (.cells .rw (atV a C R G))
 gd:h'.get (h.next+2)=some (.cells .rw [.int .i64 a.mins,.int .i64 a.evs,C,R,G,f,W])
 w:OwnSl h h' W 1 (ms.map fun b=>[V.map b])
 len:ms.length=i
 maps:∀j (hj:j<a.rds.length),j<i→∃b l,ms[j]? =some b∧h'.get b=some (.map (encP l))∧MapOk a a.rds[j] l
theorem WkI.mono {h h1 h2:H}{a:At}{C R G f W:V}{i:Nat}{ms:List Nat}(k:WkI h a C R G f i W ms h1)(s:h1.Sub h2):WkI h a C R G f i W ms h2:=
 ⟨k.sub.trans s,Nat.lt_of_lt_of_le k.nx s.next,s.get k.ga,s.get k.gd,k.w.mono s,k.len,fun j hj hi=>let⟨b,l,e,m,o⟩:=k.maps j hj hi;⟨b,l,e,s.get m,o⟩⟩
set_option maxHeartbeats 8000000 in
theorem worked_ev {h:H}(hw:h.wf){a:At}{C R G:V}(x:AtAt h C R G a)(r:Right a){f:V}(hf:f.one=true)(Q:V→H→Prop)
  (q:∀d W ms h',h.Sub h'→h.next≤d→Dk h' d a C R G f W ms→Q (.ptr d 0) h'):Ev fnG fastA (.fn 38 [] []) [.agg (atV a C R G),.agg [f]] h Q:=by
 have hR:=x.r.lenE
 have hm:=r.mins
 have rl:=r.lens
 have oC:=x.c.one;have oR:=x.r.one;have oG:=x.g.one
 refine Ev_body (fd:=c38) rfl rfl rfl ?_
 simp -implicitDefEqProofs(maxSteps:=999999)(disch:=first|with_reducible rfl|omega|(simp only[nA,nS,nD]<;>omega)|fail)only[c38,go_sem,hR]
 have k0:WkI h a C R G f 0 .nils [] (((h.add (.cells .rw (atV a C R G))).add (.cells .rw [f])).add (.cells .rw [.int .i64 a.mins,.int .i64 a.evs,C,R,G,f,.nils])):=
  ⟨(by repeat(first|assumption|exact H.Sub.refl (by assumption)|refine H.Sub.add ?_ _|refine H.Sub.set ?_ (by first|omega|(simp only[H.next_add,H.next_set,H.next_del]<;>omega)) (by first|omega|(simp only[H.next_add,H.next_set,H.next_del]<;>omega)) (by assumption) _)),by simp only[H.next_add];omega,by simp -implicitDefEqProofs(maxSteps:=999999)(disch:=first|with_reducible rfl|omega|(simp only[nA,nS,nD]<;>omega)|fail)only[go_sem],by simp -implicitDefEqProofs(maxSteps:=999999)(disch:=first|with_reducible rfl|omega|(simp only[nA,nS,nD]<;>omega)|fail)only[go_sem],OwnSl.nil (by repeat(first|assumption|exact H.Sub.refl (by assumption)|refine H.Sub.add ?_ _|refine H.Sub.set ?_ (by first|omega|(simp only[H.next_add,H.next_set,H.next_del]<;>omega)) (by first|omega|(simp only[H.next_add,H.next_set,H.next_del]<;>omega)) (by assumption) _)) 1,rfl,fun j _ h0=>absurd h0 (Nat.not_lt_zero _)⟩
 refine W_count a.rds.length (fun i s=>∃tm h' W ms,s=⟨tm,h',[]⟩∧WkI h a C R G f i W ms h'∧(Opd.t 2).ev tm=.ptr h.next 0∧(Opd.t 5).ev tm=.ptr (h.next+2) 0∧(Opd.t 18).ev tm=R∧(Opd.t 19).ev tm=.int .i64 (a.rds.length:Int)∧(Opd.t 20).ev tm=.int .i64 (i:Int)) ?_ ?_ (i:=0) (Nat.zero_le _)
  ⟨_,_,.nils,[],rfl,k0,(by simp[ev_c,ev_put]<;>rfl),(by simp[ev_c,ev_put]<;>rfl),(by simp[ev_c,ev_put]<;>rfl),(by simp[ev_c,ev_put]<;>rfl),(by simp[ev_c,ev_put]<;>rfl)⟩
 ·rintro i s hi ⟨tm,h1,W,ms,rfl,k,e2,e5,e18,e19,e20⟩
  have hi':(i:Int)<(a.rds.length:Int):=by omega
  have x1:=x.mono k.sub
  have hw1:=k.sub.wf
  have nx:=k.nx
  obtain⟨b,o,cc,cs,e,hc,hq,hg,hn,hn0⟩:=x1.r.at hi
  obtain⟨y,hy⟩:∃y,a.rds[i]=y:=⟨_,rfl⟩
  have hmem:y∈a.rds:=by rw[←hy];exact List.getElem_mem hi
  obtain⟨yk,ye,ek,ee,hyk,hye,_⟩:=r.rd hmem
  rw[hy] at hg
  simp only[encR,ek,ee] at hg
  obtain⟨b2,o2,cc2,cs2,e',hc2,hq2,hg2,hn2,hn02⟩:=x1.c.at (k:=yk) hyk
  obtain⟨c,hcy⟩:∃c,a.cks[yk]=c:=⟨_,rfl⟩
  have hck:a.cks[yk]? =some c:=by rw[List.getElem?_eq_getElem hyk,hcy]
  have hcm:c∈a.cks:=List.mem_of_getElem? hck
  have hcb:=r.cb c hcm
  have hco:=r.co c hcm
  simp only[Ck.bd,within,Bool.and_eq_true,inB_iff] at hcb
  simp only[Ck.ord,Bool.and_eq_true,decide_eq_true_eq] at hco
  rw[hcy] at hg2
  simp only[encC] at hg2
  have lb2:b2<h1.next:=(H.cells_eq hc2).elim fun kd e=>hw1 _ _ e
  have lb:b<h1.next:=(H.cells_eq hc).elim fun kd e=>hw1 _ _ e
  subst e
  subst e'
  have ga1:=k.ga
  simp -implicitDefEqProofs(maxSteps:=999999)(disch:=first|with_reducible rfl|omega|(simp only[nA,nS,nD]<;>omega)|fail)only[go_sem,e2,e5,e18,e19,e20,hi',hq (nat_cst i),hc,hg,cells_of ga1,hq2 (nat_cst yk),hc2,hg2]
  obtain⟨h2,hh2⟩:∃h2,((h1.add (.cells .rw [.int .i64 (yk:Int),.int .i64 (ye:Int),.int .i64 y.sh])).add (.map [])).add (.cells .rw [.int .i64 c.sl,.int .i64 c.sh,.int .i64 c.gl,.int .i64 c.gh])=h2:=⟨_,rfl⟩
  have s2:h1.Sub h2:=by rw[←hh2];exact(by repeat(first|assumption|exact H.Sub.refl (by assumption)|refine H.Sub.add ?_ _|refine H.Sub.set ?_ (by first|omega|(simp only[H.next_add,H.next_set,H.next_del]<;>omega)) (by first|omega|(simp only[H.next_add,H.next_set,H.next_del]<;>omega)) (by assumption) _))
  have n2:h2.next=h1.next+3:=by rw[←hh2];simp only[H.next_add]
  have gr2:h2.get h1.next=some (.cells .rw [.int .i64 (yk:Int),.int .i64 (ye:Int),.int .i64 y.sh]):=by rw[←hh2];simp -implicitDefEqProofs(maxSteps:=999999)(disch:=first|with_reducible rfl|omega|(simp only[nA,nS,nD]<;>omega)|fail)only[go_sem]
  have gm2:h2.get (h1.next+1)=some (.map (encP [])):=by rw[←hh2,encP_nil];simp -implicitDefEqProofs(maxSteps:=999999)(disch:=first|with_reducible rfl|omega|(simp only[nA,nS,nD]<;>omega)|fail)only[go_sem]
  have gc2:h2.get (h1.next+2)=some (.cells .rw [.int .i64 c.sl,.int .i64 c.sh,.int .i64 c.gl,.int .i64 c.gh]):=by rw[←hh2];simp -implicitDefEqProofs(maxSteps:=999999)(disch:=first|with_reducible rfl|omega|(simp only[nA,nS,nD]<;>omega)|fail)only[go_sem]
  try rw[hh2]
  obtain⟨mn,hmn⟩:∃mn:Nat,a.mins=mn:=⟨a.mins.toNat,by omega⟩
  obtain⟨n,hn⟩:∃n:Nat,(n:Int)=c.sh-c.sl+1:=⟨(c.sh-c.sl+1).toNat,by omega⟩
  obtain⟨n',hn'⟩:∃n:Nat,(n:Int)=c.gh-c.gl+1:=⟨(c.gh-c.gl+1).toNat,by omega⟩
  refine W_count n (fun u s=>∃tm h' l,s=⟨tm,h',[]⟩∧h1.Sub h'∧h1.next+2<h'.next∧h'.get h1.next=some (.cells .rw [.int .i64 (yk:Int),.int .i64 (ye:Int),.int .i64 y.sh])∧h'.get (h1.next+1)=some (.map (encP l))∧h'.get (h1.next+2)=some (.cells .rw [.int .i64 c.sl,.int .i64 c.sh,.int .i64 c.gl,.int .i64 c.gh])∧MapUp a y c (c.sl+u) c.gl l∧
   (Opd.t 2).ev tm=.ptr h.next 0∧(Opd.t 5).ev tm=.ptr (h.next+2) 0∧(Opd.t 18).ev tm=.sl b o a.rds.length cc∧(Opd.t 19).ev tm=.int .i64 (a.rds.length:Int)∧(Opd.t 20).ev tm=.int .i64 (i:Int)∧(Opd.t 7).ev tm=.ptr h1.next 0∧(Opd.t 8).ev tm=.map (h1.next+1)∧(Opd.t 9).ev tm=.ptr (h1.next+2) 0∧(Opd.t 10).ev tm=.int .i64 (c.sl+u)) ?_ ?_ (i:=0) (Nat.zero_le _)
   ⟨_,_,[],rfl,s2,by omega,gr2,gm2,gc2,fun s g h1 _ h3 _ h5=>by omega,(by simp[ev_c,ev_put,e2]<;>rfl),(by simp[ev_c,ev_put,e5]<;>rfl),(by simp[ev_c,ev_put,e18]<;>rfl),(by simp[ev_c,ev_put,e19]<;>rfl),(by simp[ev_c,ev_put,e20]<;>rfl),(by simp[ev_c,ev_put]<;>rfl),(by simp[ev_c,ev_put]<;>rfl),(by simp[ev_c,ev_put]<;>rfl),(by rw[show c.sl+((0:Nat):Int)=c.sl by simp];exact(by simp[ev_c,ev_put]<;>rfl))⟩
  ·rintro u s hu ⟨tm,h',l,rfl,s1,nx',gr,gm,gc,mo,e2,e5,e18,e19,e20,e7,e8,e9,e10⟩
   have hu':c.sl+(u:Int)≤c.sh:=by omega
   simp -implicitDefEqProofs(maxSteps:=999999)(disch:=first|with_reducible rfl|omega|(simp only[nA,nS,nD]<;>omega)|fail)only[go_sem,e2,e5,e18,e19,e20,e7,e8,e9,e10,cells_of gc,hu']
   refine W_count n' (fun v s=>∃tm h' l,s=⟨tm,h',[]⟩∧h1.Sub h'∧h1.next+2<h'.next∧h'.get h1.next=some (.cells .rw [.int .i64 (yk:Int),.int .i64 (ye:Int),.int .i64 y.sh])∧h'.get (h1.next+1)=some (.map (encP l))∧h'.get (h1.next+2)=some (.cells .rw [.int .i64 c.sl,.int .i64 c.sh,.int .i64 c.gl,.int .i64 c.gh])∧MapUp a y c (c.sl+u) (c.gl+v) l∧
    (Opd.t 2).ev tm=.ptr h.next 0∧(Opd.t 5).ev tm=.ptr (h.next+2) 0∧(Opd.t 18).ev tm=.sl b o a.rds.length cc∧(Opd.t 19).ev tm=.int .i64 (a.rds.length:Int)∧(Opd.t 20).ev tm=.int .i64 (i:Int)∧(Opd.t 7).ev tm=.ptr h1.next 0∧(Opd.t 8).ev tm=.map (h1.next+1)∧(Opd.t 9).ev tm=.ptr (h1.next+2) 0∧(Opd.t 10).ev tm=.int .i64 (c.sl+u)∧(Opd.t 11).ev tm=.int .i64 (c.gl+v)) ?_ ?_ (i:=0) (Nat.zero_le _)
    ⟨_,_,l,rfl,s1,nx',gr,gm,gc,by rw[show c.gl+((0:Nat):Int)=c.gl by simp];exact mo,(by simp[ev_c,ev_put,e2]<;>rfl),(by simp[ev_c,ev_put,e5]<;>rfl),(by simp[ev_c,ev_put,e18]<;>rfl),(by simp[ev_c,ev_put,e19]<;>rfl),(by simp[ev_c,ev_put,e20]<;>rfl),(by simp[ev_c,ev_put,e7]<;>rfl),(by simp[ev_c,ev_put,e8]<;>rfl),(by simp[ev_c,ev_put,e9]<;>rfl),(by simp[ev_c,ev_put,e10]<;>rfl),(by rw[show c.gl+((0:Nat):Int)=c.gl by simp];exact(by simp[ev_c,ev_put]<;>rfl))⟩
   ·rintro v s hv ⟨tm,h',l,rfl,s1,nx',gr,gm,gc,mo,e2,e5,e18,e19,e20,e7,e8,e9,e10,e11⟩
    have hv':c.gl+(v:Int)≤c.gh:=by omega
    have ga':=s1.get ga1
    obtain⟨S,hS⟩:∃S,c.sl+(u:Int)=S:=⟨_,rfl⟩
    obtain⟨T,hT⟩:∃T,c.gl+(v:Int)=T:=⟨_,rfl⟩
    rw[hS] at e10 mo
    rw[hT] at e11 mo hv'
    have hri:RunIn S T:=⟨by omega,by omega,by omega,by omega⟩
    have sX:=(H.Sub.refl s1.wf).add (.cells .rw [.int .i64 S,.int .i64 T])
    have gX:(h'.add (.cells .rw [.int .i64 S,.int .i64 T])).get h'.next=some (.cells .rw [.int .i64 S,.int .i64 T]):=get_add_new rfl
    have nX:=H.next_add h' (.cells .rw [.int .i64 S,.int .i64 T])
    obtain⟨hX,hhX⟩:∃hX,h'.add (.cells .rw [.int .i64 S,.int .i64 T])=hX:=⟨_,rfl⟩
    rw[hhX] at sX gX nX
    have gaX:hX.get h.next=some (.cells .rw [.int .i64 (mn:Int),.int .i64 a.evs,.sl b2 o2 a.cks.length cc2,.sl b o a.rds.length cc,G]):=by rw[←hmn];exact sX.get ga'
    simp -implicitDefEqProofs(maxSteps:=999999)(disch:=first|with_reducible rfl|omega|(simp only[nA,nS,nD]<;>omega)|fail)only[go_sem,e2,e5,e18,e19,e20,e7,e8,e9,e10,e11,cells_of gc,hv',hhX,cells_of gX,cells_of (sX.get gr),cells_of gaX]
    refine when_ev rfl rfl sX.wf hri y.sh (n:=mn) (by omega) _ fun h3 s3=>?_
    have s13:=(s1.trans sX).trans s3
    have gm3:=s3.get (sX.get gm)
    have l3:=s3.next
    have hmu:e_mus h3 2 (.map (h1.next+1)) (.agg [.int .i64 S,.int .i64 T]) (.agg [.int .i64 (whn S T y.sh (mn+1)).1,.int .i64 (whn S T y.sh (mn+1)).2])=some (.und,h3.set (h1.next+1) (.map (encP (putP (S,T) (spV (whn S T y.sh (mn+1))) l)))):=by
     rw[e_mus_map,gm3];exact muPC_map l h3 (h1.next+1) (S,T) _
    have mo':=mo.step
    rw[show a.mins.toNat=mn by omega] at mo'
    have w1:wr .i64 (T+1)=T+1:=wr_in (by omega) (by omega)
    have hT1:c.gl+((v+1:Nat):Int)=T+1:=by omega
    simp -implicitDefEqProofs(maxSteps:=999999)(disch:=first|with_reducible rfl|omega|(simp only[nA,nS,nD]<;>omega)|fail)only[go_sem,e2,e5,e18,e19,e20,e7,e8,e9,e10,e11,hmu,cells_of gX,cells_of (sX.get gr),cells_of gaX,cells_of (s3.get gX),cells_of (s3.get (sX.get gr)),cells_of (s3.get gaX),w1]
    refine⟨_,_,_,rfl,s13.set (by omega) (by omega) hw1 _,by rw[H.next_set];omega,by rw[get_set_other (by omega)];exact s3.get (sX.get gr),get_set_same rfl,by rw[get_set_other (by omega)];exact s3.get (sX.get gc),by rw[hS,hT1];exact mo',(by simp[ev_c,ev_put,e2]<;>rfl),(by simp[ev_c,ev_put,e5]<;>rfl),(by simp[ev_c,ev_put,e18]<;>rfl),(by simp[ev_c,ev_put,e19]<;>rfl),(by simp[ev_c,ev_put,e20]<;>rfl),(by simp[ev_c,ev_put,e7]<;>rfl),(by simp[ev_c,ev_put,e8]<;>rfl),(by simp[ev_c,ev_put,e9]<;>rfl),by rw[hS];exact(by simp[ev_c,ev_put,e10]<;>rfl),by rw[hT1];exact(by simp[ev_c,ev_put]<;>rfl)⟩
   ·rintro s ⟨tm,h',l,rfl,s1,nx',gr,gm,gc,mo,e2,e5,e18,e19,e20,e7,e8,e9,e10,e11⟩
    have hv':¬c.gl+(n':Int)≤c.gh:=by omega
    have w1:wr .i64 (c.sl+(u:Int)+1)=c.sl+((u+1:Nat):Int):=by rw[wr_in (by omega) (by omega)];omega
    simp -implicitDefEqProofs(maxSteps:=999999)(disch:=first|with_reducible rfl|omega|(simp only[nA,nS,nD]<;>omega)|fail)only[go_sem,e2,e5,e18,e19,e20,e7,e8,e9,e10,e11,cells_of gc,hv',w1]
    have mo':=mo.row (by omega)
    rw[show c.sl+(u:Int)+1=c.sl+((u+1:Nat):Int) by omega] at mo'
    exact⟨_,_,l,rfl,s1,nx',gr,gm,gc,mo',(by simp[ev_c,ev_put,e2]<;>rfl),(by simp[ev_c,ev_put,e5]<;>rfl),(by simp[ev_c,ev_put,e18]<;>rfl),(by simp[ev_c,ev_put,e19]<;>rfl),(by simp[ev_c,ev_put,e20]<;>rfl),(by simp[ev_c,ev_put,e7]<;>rfl),(by simp[ev_c,ev_put,e8]<;>rfl),(by simp[ev_c,ev_put,e9]<;>rfl),(by simp[ev_c,ev_put]<;>rfl)⟩
  ·rintro s ⟨tm,h',l,rfl,s1,nx',gr,gm,gc,mo,e2,e5,e18,e19,e20,e7,e8,e9,e10⟩
   have hu':¬c.sl+(n:Int)≤c.sh:=by omega
   have k1:=k.mono s1
   have gd1:=k1.gd
   have nx1:=k1.nx
   have hw':=s1.wf
   have sY:=(H.Sub.refl hw').add (.cells .rw [V.map (h1.next+1)])
   have hy1:SlAt (h'.add (.cells .rw [V.map (h1.next+1)])) (.sl h'.next 0 1 (.fix 1)) 1 [[V.map (h1.next+1)]]:=SlAt.new _ rfl rfl rfl (by simp) (by simp)
   simp -implicitDefEqProofs(maxSteps:=999999)(disch:=first|with_reducible rfl|omega|(simp only[nA,nS,nD]<;>omega)|fail)only[go_sem,e2,e5,e18,e19,e20,e7,e8,e9,e10,cells_of gc,hu',cells_of gd1]
   refine((k1.w).mono sY).app1 (by_:=8) (r:=[V.map (h1.next+1)]) hw rfl (by omega) hy1 rfl (by have:=r.lens;simp only[List.length_map,k.len];omega) (by have:=r.lens;simp only[List.length_map,k.len];omega) fun h4 o4 kp n4=>?_
   have nW:=k1.w.ne gd1
   have nW':¬blkOf W (h.next+2):=nW
   have gd4:=kp.2 _ _ (sY.get gd1) nW'
   have ga4:=kp.2 _ _ (sY.get k1.ga) (k1.w.ne k1.ga)
   have nmap:∀{b:Nat} {l:List (V × V)},h'.get b=some (.map l)→¬blkOf W b:=fun hb hbl=>by
    have:=(k1.w.blk hbl).2.2;rw[hb] at this;cases this
   have hY:=sY.next
   simp only[H.next_add] at hY n4
   simp -implicitDefEqProofs(maxSteps:=999999)(disch:=first|with_reducible rfl|omega|(simp only[nA,nS,nD]<;>omega)|fail)only[go_sem,e2,e5,e18,e19,e20,gd4,wr_succ,one_sl,oC,oR,oG,hf]
   have hmap:ms.map (fun b=>[V.map b])++[[V.map (h1.next+1)]]=(ms++[h1.next+1]).map fun b=>[V.map b]:=by simp
   rw[hmap] at o4
   have sF:h.Sub (h4.set (h.next+2) (.cells .rw [.int .i64 a.mins,.int .i64 a.evs,.sl b2 o2 a.cks.length cc2,.sl b o a.rds.length cc,G,f,.sl (h'.add (.cells .rw [V.map (h1.next+1)])).next 0 ((ms.map fun b=>[V.map b]).length+1) (.slk 0 0)])):=o4.1.set (by omega) (by omega) hw _
   have hne:=o4.ne gd4
   have old:∀{z:Nat} {l:List (V × V)},h'.get z=some (.map l)→(h4.set (h.next+2) (.cells .rw [.int .i64 a.mins,.int .i64 a.evs,.sl b2 o2 a.cks.length cc2,.sl b o a.rds.length cc,G,f,.sl (h'.add (.cells .rw [V.map (h1.next+1)])).next 0 ((ms.map fun b=>[V.map b]).length+1) (.slk 0 0)])).get z=some (.map l):=fun{z l} hb=>by
    have hb4:=kp.2 _ _ (sY.get hb) (nmap hb)
    have:z≠h.next+2:=fun e=>by rw[e,gd4] at hb4;cases hb4
    rw[get_set_other this];exact hb4
   rw[H.next_add] at sF old o4 hne
   refine⟨_,_,_,ms++[h1.next+1],rfl,⟨sF,by rw[H.next_set];omega,by rw[get_set_other (by omega)];exact ga4,get_set_same rfl,o4.keep (Keeps.set _ _ _) sF (fun b hb e=>hne (e▸hb)),by simp[k.len],fun j hj hji=>?_⟩,(by simp[ev_c,ev_put,e2]<;>rfl),(by simp[ev_c,ev_put,e5]<;>rfl),(by simp[ev_c,ev_put,e18]<;>rfl),(by simp[ev_c,ev_put,e19]<;>rfl),(by simp[ev_c,ev_put]<;>rfl)⟩
   rcases Nat.lt_or_ge j i with hj2|hj2
   ·obtain⟨bb,l0,e1',m1',mo1⟩:=k1.maps j hj hj2
    exact⟨bb,l0,by rw[List.getElem?_append_left (by rw[k.len];exact hj2)];exact e1',old m1',mo1⟩
   ·have:j=i:=by omega
    subst this
    refine⟨h1.next+1,l,by rw[List.getElem?_append_right (by rw[k.len];exact Nat.le_refl _),k.len];simp,old gm,?_⟩
    rw[hy]
    intro c' hc' s g h1' h2' h3' h4'
    rw[ek,Int.toNat_natCast,hck] at hc'
    cases hc'
    exact mo s g h1' h2' h3' h4' (.inl (by omega))
 ·rintro s ⟨tm,h1,W,ms,rfl,k,e2,e5,e18,e19,e20⟩
  simp -implicitDefEqProofs(maxSteps:=999999)(disch:=first|with_reducible rfl|omega|(simp only[nA,nS,nD]<;>omega)|fail)only[go_sem,e2,e5,e18,e19,e20,Int.lt_irrefl]
  exact q (h.next+2) W ms _ k.sub (by omega) ⟨k.gd,x.mono k.sub,k.w.sl (by rw[List.length_map,k.len];omega),k.len,fun i hi=>k.maps i hi hi⟩
end Go.Ab.Tryz
namespace Go.Ab
theorem clone_core {h:H}{x:V}{sz by_:Nat}{rows:List (List V)}{Q:V→H→Prop}(hw:h.wf)(hx:SlAt h x sz rows)(hl:rows.length*by_≤1000000000)(hl2:rows.length≤1000000000)(q:∀v h',OwnC h h' v sz rows→Q v h'):
  P2 (e_app' (h.add (.cells .rw [])) sz by_ (.sl h.next 0 0 (.fix 0)) x) Q:=by
 have s1:h.Sub (h.add (.cells .rw [])):=(H.Sub.refl hw).add _
 have hx1:=(hx.mono s1).elems
 rw[e_app_eq,hx1.1,hx1.2]
 simp only[ob_some]
 cases hn:rows.length with
 |zero=>
  have e:rows=[]:=List.length_eq_zero_iff.1 hn
  rw[e_app_fix0]
  have:Nat.ble 0 0=true:=rfl
  rw[this,og_true,P2_some]
  exact q _ _ (by rw[e];exact⟨s1,by simp,.inr (.inr ⟨h.next,0,[],rfl,Nat.le_refl _,by rw[H.next_add];omega,get_add_new rfl,by simp,Nat.le_refl _⟩)⟩)
 |succ k=>
  rw[e_app_full (by omega) (elems_0 _ _ _ _ _) (by rw[hn] at hl;simp only[Nat.zero_add];omega) (by omega),grown_eq,P2_some]
  exact q _ _ ⟨s1.add _,hx.1,.inr (.inl ⟨(h.add (.cells .rw [])).next,by rw[hn,Nat.zero_add],by rw[H.next_add];omega,by simp only[H.next_add];omega,by rw[get_add_new rfl];rfl⟩)⟩
theorem range_cut {k n:Nat}(h:k<n):∃r,List.range n=List.range k++k::r:=by
 refine⟨(List.range n).drop (k+1),?_⟩
 have h1:(List.range n).take k=List.range k:=by rw[List.take_range,Nat.min_eq_left (by omega)]
 have h2:=(List.take_append_drop k (List.range n)).symm
 rw[List.drop_eq_getElem_cons (by simpa using h),List.getElem_range,h1] at h2
 exact h2
end Go.Ab
namespace Go.Ab.Tryz
open Go.Proofs
abbrev Runs:=List (Int × Int)
def encX (x:Int × Int):List V:=[.int .i64 x.1,.int .i64 x.2]
theorem cloneRun_ev {h:H}{x:V}{rows:List (List V)}(hw:h.wf)(hx:SlAt h x 2 rows)(hl:rows.length≤1000000)(Q:V→H→Prop)(q:∀v h',OwnC h h' v 2 rows→Q v h'):Ev fnG fastA (.fn 80 [] []) [x] h Q:=by
 refine Ev_body (fd:=c80) rfl rfl rfl ?_
 rcases hx.2.2 with⟨rfl,e⟩|⟨b,o,c,cs,rfl,_⟩
 ·simp -implicitDefEqProofs(maxSteps:=999999)(disch:=first|with_reducible rfl|omega|(simp only[nA,nS,nD]<;>omega)|fail)only[c80,go_sem]
  exact q _ _ (by rw[e];exact(OwnSl.nil (H.Sub.refl hw) 2).c)
 ·simp -implicitDefEqProofs(maxSteps:=999999)(disch:=first|with_reducible rfl|omega|(simp only[nA,nS,nD]<;>omega)|fail)only[c80,go_sem]
  refine clone_core hw hx (by omega) (by omega) fun v h' ov=>?_
  simp -implicitDefEqProofs(maxSteps:=999999)(disch:=first|with_reducible rfl|omega|(simp only[nA,nS,nD]<;>omega)|fail)only[go_sem]
  exact q _ _ ov
def Ck.ns (c:Ck):Nat:=(c.sh-c.sl+1).toNat
def Ck.ng (c:Ck):Nat:=(c.gh-c.gl+1).toNat
def moreL (a:At)(cnt:Nat→Bool):Nat→Runs→List Int→List (Runs × List Int)
 |0,runs,L=>[(runs,L)]
 |n+1,runs,L=>match a.cks[runs.length]? with
  |none=>[]
  |some c=>(List.range c.ns).flatMap fun(u:Nat)=>(List.range c.ng).flatMap fun(v:Nat)=>
   if(readL a cnt runs.length (c.sl+u,c.gl+v) L).2=true then moreL a cnt n (runs++[(c.sl+u,c.gl+v)]) (readL a cnt runs.length (c.sl+u,c.gl+v) L).1 else[]
def casesL (a:At)(cnt:Nat→Bool):List (Runs × List Int):=if(clos (freeL a)).2=true then moreL a cnt a.cks.length [] (clos (freeL a)).1 else[]
def oneL (a:At)(cnt:Nat→Bool)(n:Nat)(runs:Runs)(L:List Int)(c:Ck)(u v:Nat):List (Runs × List Int):=
 if(readL a cnt runs.length (c.sl+u,c.gl+v) L).2=true then moreL a cnt n (runs++[(c.sl+u,c.gl+v)]) (readL a cnt runs.length (c.sl+u,c.gl+v) L).1 else[]
def preL (a:At)(cnt:Nat→Bool)(n:Nat)(runs:Runs)(L:List Int)(c:Ck)(u v:Nat):List (Runs × List Int):=
 (List.range u).flatMap (fun u=>(List.range c.ng).flatMap fun v=>oneL a cnt n runs L c u v)++(List.range v).flatMap fun v=>oneL a cnt n runs L c u v
theorem preL_step (a:At)(cnt:Nat→Bool)(n:Nat)(runs:Runs)(L:List Int)(c:Ck)(u v:Nat):preL a cnt n runs L c u (v+1)=preL a cnt n runs L c u v++oneL a cnt n runs L c u v:=by
 simp only[preL,List.range_succ,List.flatMap_append,List.append_assoc,List.flatMap_cons,List.flatMap_nil,List.append_nil]
theorem preL_row (a:At)(cnt:Nat→Bool)(n:Nat)(runs:Runs)(L:List Int)(c:Ck)(u:Nat):preL a cnt n runs L c (u+1) 0=preL a cnt n runs L c u c.ng:=by
 simp only[preL,List.range_succ,List.flatMap_append,List.flatMap_cons,List.flatMap_nil,List.append_nil,List.range_zero]
theorem moreL_pre {a:At}{cnt:Nat→Bool}{n:Nat}{runs:Runs}{L:List Int}{c:Ck}(hc:a.cks[runs.length]? =some c):moreL a cnt (n+1) runs L=preL a cnt n runs L c c.ns 0:=by
 simp only[moreL,hc,preL,oneL,List.range_zero,List.flatMap_nil,List.append_nil]
theorem preL_in (a:At)(cnt:Nat→Bool)(n:Nat)(runs:Runs)(L:List Int)(c:Ck){u v:Nat}(hu:u<c.ns)(hv:v<c.ng):∃r,preL a cnt n runs L c c.ns 0=preL a cnt n runs L c u v++(oneL a cnt n runs L c u v++r):=by
 obtain⟨r1,e1⟩:=range_cut hu
 obtain⟨r2,e2⟩:=range_cut hv
 refine⟨(r2.flatMap fun v=>oneL a cnt n runs L c u v)++r1.flatMap (fun u=>(List.range c.ng).flatMap fun v=>oneL a cnt n runs L c u v),?_⟩
 have e3:(List.range c.ng).flatMap (fun v=>oneL a cnt n runs L c u v)=(List.range v).flatMap (fun v=>oneL a cnt n runs L c u v)++(oneL a cnt n runs L c u v++r2.flatMap fun v=>oneL a cnt n runs L c u v):=by
  rw[e2,List.flatMap_append,List.flatMap_cons]
 unfold preL
 rw[e1,List.flatMap_append,List.flatMap_cons,e3]
 simp only[List.range_zero,List.flatMap_nil,List.append_nil,List.append_assoc]
end Go.Ab.Tryz
namespace Go.Ab.Tryz
open Go.Proofs
def RdOk (a:At)(cnt:Nat→Bool)(k:Int)(x:Int × Int)(y:Nat→Int):Prop:=
 ∀(j:Nat) (r:Rd),a.rds[j]? =some r→r.ck=k→cnt j=true→(whn x.1 x.2 r.sh (a.mins.toNat+1)).1≤y r.ev.toNat-y 4∧y r.ev.toNat-y 4≤(whn x.1 x.2 r.sh (a.mins.toNat+1)).2
theorem Sol_rdL {L:List Int}(hL:L.length=25){e:Nat}(he:e<5){s:Int × Int}{y:Nat→Int}:Sol y (rdL L e s)↔Sol y L∧s.1≤y e-y 4∧y e-y 4≤s.2:=by
 rw[rdL,Sol_low (by rw[low_len];exact hL) he (by decide),Sol_low hL (by decide) he]
 constructor
 ·rintro⟨⟨h1,h2⟩,h3⟩;exact⟨h1,by omega,by omega⟩
 ·rintro⟨h1,h2,h3⟩;exact⟨⟨h1,by omega⟩,by omega⟩
theorem Sol_gapL {a:At}(r:Right a){L:List Int}(hL:L.length=25){g:Gp}(hg:g∈a.gps){y:Nat→Int}:Sol y (gapL L g)↔Sol y L∧g.lo≤y g.to.toNat-y g.fr.toNat∧y g.to.toNat-y g.fr.toNat≤g.hi:=by
 obtain⟨f,t,e1,e2,hf,ht,_⟩:=r.gap hg
 rw[gapL,e1,e2,Int.toNat_natCast,Int.toNat_natCast,Sol_low (by rw[low_len];exact hL) (by omega) (by omega),Sol_low hL (by omega) (by omega)]
 constructor
 ·rintro⟨⟨h1,h2⟩,h3⟩;exact⟨h1,by omega,by omega⟩
 ·rintro⟨h1,h2,h3⟩;exact⟨⟨h1,by omega⟩,by omega⟩
theorem Sol_gaps {a:At}(r:Right a){y:Nat→Int}:∀{l:List Gp} {L:List Int},(∀g∈l,g∈a.gps)→L.length=25→(Sol y (l.foldl gapL L)↔Sol y L∧∀g∈l,g.lo≤y g.to.toNat-y g.fr.toNat∧y g.to.toNat-y g.fr.toNat≤g.hi)
 |[],L,_,_=>⟨fun h=>⟨h,fun g hg=>absurd hg List.not_mem_nil⟩,fun h=>h.1⟩
 |g::l,L,hl,hL=>by
  have hg:=hl g (List.mem_cons_self ..)
  rw[List.foldl_cons,Sol_gaps r (fun x hx=>hl x (List.mem_cons_of_mem _ hx)) (by rw[gapL,low_len,low_len];exact hL),Sol_gapL r hL hg,List.forall_mem_cons,and_assoc]
theorem Sol_free {a:At}(r:Right a){y:Nat→Int}(hy:y 4=0):Sol y (freeL a)↔(∀e,e<4→0≤y e∧y e≤a.mins)∧∀g∈a.gps,g.lo≤y g.to.toNat-y g.fr.toNat∧y g.to.toNat-y g.fr.toNat≤g.hi:=by
 rw[freeL,Sol_gaps r (L:=bsL a.mins) (fun g hg=>hg) (bsU_len _ _ _),Sol_bs hy]
 constructor
 ·rintro⟨⟨h1,_,_⟩,h2⟩;exact⟨h1,h2⟩
 ·rintro⟨h1,h2⟩;exact⟨⟨h1,fun a b ha hb _=>by have:=h1 a ha;have:=h1 b hb;omega,.inr trivial⟩,h2⟩
theorem readsL_spec {a:At}(r:Right a){cnt:Nat→Bool}{k:Int}{x:Int × Int}{y:Nat→Int}:∀{l:List Rd} {i:Nat} {L:List Int},(∀r∈l,r∈a.rds)→L.length=25→
  ((readsL a cnt k x l i L).2=true→(Sol y (readsL a cnt k x l i L).1↔Sol y L∧∀(j:Nat) (r:Rd),l[j]? =some r→r.ck=k→cnt (i+j)=true→(whn x.1 x.2 r.sh (a.mins.toNat+1)).1≤y r.ev.toNat-y 4∧y r.ev.toNat-y 4≤(whn x.1 x.2 r.sh (a.mins.toNat+1)).2))∧
  ((readsL a cnt k x l i L).2=false→¬∀(j:Nat) (r:Rd),l[j]? =some r→r.ck=k→cnt (i+j)=true→(whn x.1 x.2 r.sh (a.mins.toNat+1)).1≤y r.ev.toNat-y 4∧y r.ev.toNat-y 4≤(whn x.1 x.2 r.sh (a.mins.toNat+1)).2)
 |[],i,L,_,_=>⟨fun _=>⟨fun h=>⟨h,fun j r hr=>by simp at hr⟩,fun h=>h.1⟩,fun h=>by cases h⟩
 |rd::l,i,L,hl,hL=>by
  have hrd:=hl rd (List.mem_cons_self ..)
  obtain⟨yk,ye,ek,ee,hyk,hye,_⟩:=r.rd hrd
  have hl':=fun x hx=>hl x (List.mem_cons_of_mem _ hx)
  have sh:∀{X:Rd→Prop},(∀(j:Nat) (r:Rd),(rd::l)[j]? =some r→r.ck=k→cnt (i+j)=true→X r)↔(rd.ck=k→cnt i=true→X rd)∧∀(j:Nat) (r:Rd),l[j]? =some r→r.ck=k→cnt (i+1+j)=true→X r:=fun{X}=>by
   constructor
   ·intro h;exact⟨h 0 rd rfl,fun j r hr h1 h2=>h (j+1) r hr h1 (by rw[show i+(j+1)=i+1+j by omega];exact h2)⟩
   ·rintro⟨h1,h2⟩ j r hr h3 h4
    cases j with
    |zero=>cases hr;exact h1 h3 h4
    |succ j=>exact h2 j r hr h3 (by rw[show i+1+j=i+(j+1) by omega];exact h4)
  rw[sh (X:=fun r=>(whn x.1 x.2 r.sh (a.mins.toNat+1)).1≤y r.ev.toNat-y 4∧y r.ev.toNat-y 4≤(whn x.1 x.2 r.sh (a.mins.toNat+1)).2)]
  by_cases h1:rd.ck≠k∨cnt i=false
  ·rw[readsL,if_pos h1]
   have ih:=readsL_spec r (cnt:=cnt) (k:=k) (x:=x) (y:=y) (l:=l) (i:=i+1) (L:=L) hl' hL
   have hv:∀{P:Prop},rd.ck=k→cnt i=true→P:=fun{P} a b=>by
    rcases h1 with h1|h1
    ·exact absurd a h1
    ·rw[b] at h1;cases h1
   refine⟨fun ht=>(ih.1 ht).trans ⟨fun h=>⟨h.1,fun a b=>hv a b,h.2⟩,fun h=>⟨h.1,h.2.2⟩⟩,fun ht h=>ih.2 ht h.2⟩
  ·have h1':rd.ck=k∧cnt i=true:=by
    rcases Classical.em (rd.ck=k) with h|h
    ·refine⟨h,?_⟩
     cases hc:cnt i with
     |true=>rfl
     |false=>exact absurd (.inr hc) h1
    ·exact absurd (.inl h) h1
   rw[readsL,if_neg h1]
   by_cases h2:(whn x.1 x.2 rd.sh (a.mins.toNat+1)).2<(whn x.1 x.2 rd.sh (a.mins.toNat+1)).1
   ·rw[if_pos h2]
    exact⟨fun h=>by(cases h),fun _ h=>by have:=h.1 h1'.1 h1'.2;omega⟩
   ·rw[if_neg h2]
    have hre:rd.ev.toNat<5:=by omega
    have ih:=readsL_spec r (cnt:=cnt) (k:=k) (x:=x) (y:=y) (l:=l) (i:=i+1) (L:=rdL L rd.ev.toNat (whn x.1 x.2 rd.sh (a.mins.toNat+1))) hl' (by rw[rdL,low_len,low_len];exact hL)
    refine⟨fun ht=>(ih.1 ht).trans ?_,fun ht h=>ih.2 ht h.2⟩
    rw[Sol_rdL hL hre]
    exact⟨fun h=>⟨h.1.1,fun _ _=>h.1.2,h.2⟩,fun h=>⟨⟨h.1,h.2.1 h1'.1 h1'.2⟩,h.2.2⟩⟩
theorem readL_spec {a:At}(r:Right a){cnt:Nat→Bool}{k:Int}{x:Int × Int}{L:List Int}(hL:In5 240 L):
  ((readL a cnt k x L).2=true→Tri (readL a cnt k x L).1∧In5 240 (readL a cnt k x L).1∧∀y,Sol y (readL a cnt k x L).1↔Sol y L∧RdOk a cnt k x y)∧
  ((readL a cnt k x L).2=false→∀y,Sol y L→¬RdOk a cnt k x y):=by
 have hin:=readsL_in (cnt:=cnt) (k:=k) (x:=x) (i:=0) r (fun y (hy:y∈a.rds)=>hy) hL
 have hs:=fun y=>readsL_spec r (cnt:=cnt) (k:=k) (x:=x) (y:=y) (l:=a.rds) (i:=0) (L:=L) (fun r hr=>hr) hL.len
 simp only[Nat.zero_add] at hs
 unfold readL
 by_cases h1:(readsL a cnt k x a.rds 0 L).2=true
 ·rw[if_pos h1]
  have hc:=clos_spec (by decide) (by decide) hin
  refine⟨fun ht=>?_,fun ht y hy hr=>?_⟩
  ·obtain⟨c1,c2,_,c4⟩:=hc.1 ht
   exact⟨c1,c2,fun y=>(c4 y).symm.trans ((hs y).1 h1)⟩
  ·exact hc.2 ht y (((hs y).1 h1).2 ⟨hy,hr⟩)
 ·rw[if_neg h1]
  exact⟨fun h=>by(cases h),fun _ y _ hr=>(hs y).2 (by simpa using h1) hr⟩
end Go.Ab.Tryz
namespace Go.Ab
theorem over_iv {L:List Int}(hL:L.length=25):over (L.map iv) [V.int .i64 0,.int .i64 0,.int .i64 0,.int .i64 0,.int .i64 0,.int .i64 0,.int .i64 0,.int .i64 0,.int .i64 0,.int .i64 0,.int .i64 0,.int .i64 0,.int .i64 0,.int .i64 0,.int .i64 0,.int .i64 0,.int .i64 0,.int .i64 0,.int .i64 0,.int .i64 0,.int .i64 0,.int .i64 0,.int .i64 0,.int .i64 0,.int .i64 0]=some (L.map iv):=by
 refine over_eq.2 ⟨?_,by rw[List.length_map,hL];exact Nat.le_refl _⟩
 rw[List.drop_eq_nil_of_le (by rw[List.length_map,hL];exact Nat.le_refl _),List.append_nil]
end Go.Ab
namespace Go.Ab.Tryz
open Go.Proofs
abbrev fdV (R:V) (L:List Int):V:=.agg (R::L.map iv)
def Frm (K:H→Nat→Prop)(x z:H):Prop:=Keeps (K x) x z∧∀b,K z b→K x b∨x.next≤b
theorem Frm.trans {K:H→Nat→Prop}{x z w:H}(hx:x.wf)(a:Frm K x z)(b:Frm K z w):Frm K x w:=
 ⟨⟨Nat.le_trans a.1.1 b.1.1,fun c y e n=>b.1.2 c y (a.1.2 c y e n) fun k=>(a.2 c k).elim n fun l=>absurd (hx c y e) (by omega)⟩,fun c k=>(b.2 c k).elim (a.2 c) fun l=>.inr (Nat.le_trans a.1.1 l)⟩
structure Taker (h0:H)(y:V)(all:List (Runs × List Int))(J:Nat→H→Prop)(S:H→Prop)(K:H→Nat→Prop)(n0:Nat):Prop where
 base:∀p x,J p x→h0.Sub x∧n0≤x.next
 more:∀p x x',J p x→x.Sub x'→J p x'
 kn:∀p x b,J p x→K x b→b<x.next
 km:∀p x x',J p x→x.Sub x'→∀b,K x' b→K x b
 step:∀p t,all[p]? =some t→∀x0 x R,J p x0→OwnC x0 x R 2 (t.1.map encX)→Ev fnG fastA y [fdV R t.2] x fun u z=>((u=.bool true∧J (p+1) z)∨(u=.bool false∧S z))∧Frm K x z
theorem Taker.sub {h0:H}{y:V}{all:List (Runs × List Int)}{J:Nat→H→Prop}{S:H→Prop}{K:H→Nat→Prop}{n0:Nat}(tk:Taker h0 y all J S K n0){p:Nat}{x x':H}(hJ:J p x)(s:x.Sub x'):Frm K x x':=⟨Keeps.of s _,fun b hb=>.inl (tk.km _ _ _ hJ s b hb)⟩
theorem drop_at {α:Type}{l m r:List α}{p:Nat}(h:l.drop p=m++r){i:Nat}(hi:i<m.length):l[p+i]? =m[i]? :=by
 have:(l.drop p)[i]? =m[i]? :=by rw[h,List.getElem?_append_left hi]
 rwa[List.getElem?_drop] at this
theorem drop_add {α:Type}{l m r:List α}{p:Nat}(h:l.drop p=m++r):l.drop (p+m.length)=r:=by
 rw[←List.drop_drop,h,List.drop_left]
theorem readL_len {a:At}(r:Right a){cnt:Nat→Bool}{k:Int}{x:Int × Int}{L:List Int}(hL:In5 240 L):(readL a cnt k x L).1.length=25:=by
 have h:=readsL_in (cnt:=cnt) (k:=k) (x:=x) (i:=0) r (fun y (hy:y∈a.rds)=>hy) hL
 unfold readL
 split
 ·rw[clos_len];exact h.len
 ·exact h.len
theorem readL_in {a:At}(r:Right a){cnt:Nat→Bool}{k:Int}{x:Int × Int}{L:List Int}(hL:In5 240 L)(ht:(readL a cnt k x L).2=true):In5 240 (readL a cnt k x L).1:=by
 have h:=readsL_in (cnt:=cnt) (k:=k) (x:=x) (i:=0) r (fun y (hy:y∈a.rds)=>hy) hL
 unfold readL at ht⊢
 split
 ·rename_i h1
  rw[if_pos h1] at ht
  exact((clos_spec (by decide) (by decide) h).1 ht).2.1
 ·rename_i h1
  rw[if_neg h1] at ht;cases ht
structure ZI (b1 b2 b3 d:Nat)(y RR:V)(more:V)(rows:List (List V))(K:H→Nat→Prop)(J:Nat→H→Prop)(L:List Int)(c:Ck)(x:H)(p:Nat)(z:H):Prop where
 j:J p z
 k:Frm K x z
 m:∀b,b=b1∨b=b2∨b=b3∨b=x.next∨b=x.next+1∨blkOf RR b→¬K z b∧b<z.next
 g1:z.get b1=some (.cells .rw [.ptr d 0])
 g2:z.get b2=some (.cells .rw [y])
 g3:z.get b3=some (.cells .rw [more])
 gf:z.get x.next=some (.cells .rw (L.map iv))
 gc:z.get (x.next+1)=some (.cells .rw [.int .i64 c.sl,.int .i64 c.sh,.int .i64 c.gl,.int .i64 c.gh])
 r:SlAt z RR 2 rows
 nx:x.next+1<z.next
set_option maxHeartbeats 16000000 in
theorem more_gen {h0:H}(hw0:h0.wf){d:Nat}{a:At}{C R G f W:V}{ms:List Nat}(dk:Dk h0 d a C R G f W ms)(r:Right a){cnt:Nat→Bool}(hcnt:∀i,i<a.rds.length→PureA h0 f [.int .i64 (i:Int)] (.bool (cnt i)))
  {y:V} (hy:∃l,y=.yld l) {all:List (Runs × List Int)} {J:Nat→H→Prop} {S:H→Prop} {K:H→Nat→Prop} {n0:Nat} (tk:Taker h0 y all J S K n0) {b1 b2 b3:Nat}:
  ∀(n:Nat) (runs:Runs) (L:List Int) (p:Nat) (post:List (Runs × List Int)) (x:H) (RR:V),runs.length+n=a.cks.length→In5 240 L→J p x→x.get b1=some (.cells .rw [.ptr d 0])→x.get b2=some (.cells .rw [y])→x.get b3=some (.cells .rw [.fn 79 [] [.ptr b1 0,.ptr b2 0,.ptr b3 0]])→
   SlAt x RR 2 (runs.map encX)→(∀b,b=b1∨b=b2∨b=b3∨blkOf RR b→¬K x b∧b<x.next)→all.drop p=moreL a cnt n runs L++post→
   Ev fnG fastA (.fn 79 [] [.ptr b1 0,.ptr b2 0,.ptr b3 0]) [RR,.agg (L.map iv)] x fun u z=>((u=.bool true∧J (p+(moreL a cnt n runs L).length) z)∨(u=.bool false∧S z))∧Frm K x z:=by
 intro n
 induction n with
 |zero=>
  intro runs L p post x RR hn hL hJ g1 g2 g3 hR hRK hall
  refine Ev.gen fun Q q=>?_
  obtain⟨s0,n0x⟩:=tk.base _ _ hJ
  have dx:=dk.mono s0
  have lL:=hL.len
  have hlR:=hR.lenE
  have hlC:=dx.x.c.lenE
  have hwx:=s0.wf
  have hlen:((runs.length:Int)=(a.cks.length:Int)):=by omega
  have sA:=(H.Sub.refl hwx).add (.cells .rw (L.map iv))
  have gA:(x.add (.cells .rw (L.map iv))).get x.next=some (.cells .rw (L.map iv)):=get_add_new rfl
  obtain⟨xA,hxA⟩:∃xA,x.add (.cells .rw (L.map iv))=xA:=⟨_,rfl⟩
  have nA:=H.next_add x (.cells .rw (L.map iv))
  rw[hxA] at sA gA nA
  have lb1:=hwx _ _ g1
  have lb2:=hwx _ _ g2
  have ld:=hwx _ _ dx.dk
  refine Ev_body (fd:=c79) rfl rfl rfl ?_
  simp -implicitDefEqProofs(maxSteps:=999999)(disch:=first|with_reducible rfl|omega|(simp only[nA,nS,nD]<;>omega)|fail)only[c79,go_sem,hxA,hlR,hlC,cells_of (sA.get g1),cells_of (sA.get dx.dk),hlen,cells_of (sA.get g2)]
  refine cloneRun_ev sA.wf (hR.mono sA) (by have:=r.lens;rw[List.length_map];omega) _ fun v x2 ov=>?_
  have s2:=ov.1
  have gN:getN 0 25 (L.map iv)=some (L.map iv):=by rw[←lL];exact getN_iv _
  have lnL:lenN (L.map iv)=25:=by rw[lenN_iv,lL]
  have vone:=ov.one
  have sx2:=sA.trans s2
  have hov:=over_iv lL
  have gA2:=s2.get gA
  have lA:=hwx
  obtain⟨l,rfl⟩:=hy
  simp -implicitDefEqProofs(maxSteps:=999999)(disch:=first|with_reducible rfl|omega|(simp only[nA,nS,nD]<;>omega)|fail)only[go_sem,cells_of gA2,gN,lnL,hov,cells_of (sx2.get g2),vone,cells_one vone]
  refine(tk.step p (runs,L) ?_ xA x2 v (tk.more _ _ _ hJ sA) ov).mono fun u z hz=>?_
  ·have h1:=drop_at hall (i:=0) (by simp[moreL])
   simpa[moreL] using h1
  ·obtain⟨hz,hk⟩:=hz
   have e2:=hk.1.cells (cells_of (sx2.get g2)) (fun hb=>(hRK _ (.inr (.inl rfl))).1 (tk.km _ _ _ hJ sx2 _ hb))
   have eA:=hk.1.cells (cells_of gA2) (fun hb=>by have:=tk.kn _ _ _ hJ (tk.km _ _ _ hJ sx2 _ hb);omega)
   have hkx:Frm K x z:=(tk.sub hJ sx2).trans hwx hk
   rcases hz with⟨rfl,hz⟩|⟨rfl,hz⟩
   ·simp -implicitDefEqProofs(maxSteps:=999999)(disch:=first|with_reducible rfl|omega|(simp only[nA,nS,nD]<;>omega)|fail)only[go_sem,cells_of gA,cells_of gA2,cells_of (sA.get g2),cells_of (sx2.get g2),gN,eA,e2]
    exact q _ _ ⟨.inl ⟨rfl,by simpa[moreL] using hz⟩,hkx⟩
   ·simp -implicitDefEqProofs(maxSteps:=999999)(disch:=first|with_reducible rfl|omega|(simp only[nA,nS,nD]<;>omega)|fail)only[go_sem,cells_of gA,cells_of gA2,cells_of (sA.get g2),cells_of (sx2.get g2),gN,eA,e2]
    exact q _ _ ⟨.inr ⟨rfl,hz⟩,hkx⟩
 |succ n ih=>
  intro runs L p post x RR hn hL hJ g1 g2 g3 hR hRK hall
  refine Ev.gen fun Q q=>?_
  obtain⟨s0,n0x⟩:=tk.base _ _ hJ
  have dx:=dk.mono s0
  have lL:=hL.len
  have hlR:=hR.lenE
  have hlC:=dx.x.c.lenE
  have hwx:=s0.wf
  have rl:=r.lens
  have hlen:¬((runs.length:Int)=(a.cks.length:Int)):=by omega
  have hlt:runs.length<a.cks.length:=by omega
  obtain⟨bC,oC,cC,csC,eC,hcC,hqC,hgC,_,_⟩:=dx.x.c.at hlt
  obtain⟨c,hcy⟩:∃c,a.cks[runs.length]=c:=⟨_,rfl⟩
  have hck:a.cks[runs.length]? =some c:=by rw[List.getElem?_eq_getElem hlt,hcy]
  have hcm:c∈a.cks:=List.mem_of_getElem? hck
  have hcb:=r.cb c hcm
  have hco:=r.co c hcm
  simp only[Ck.bd,within,Bool.and_eq_true,inB_iff] at hcb
  simp only[Ck.ord,Bool.and_eq_true,decide_eq_true_eq] at hco
  rw[hcy] at hgC
  simp only[encC] at hgC
  rw[moreL_pre hck] at hall q
  have lb1:=hwx _ _ g1
  have lb2:=hwx _ _ g2
  have lb3:=hwx _ _ g3
  have ld:=hwx _ _ dx.dk
  have lbC:bC<x.next:=(H.cells_eq hcC).elim fun kd e=>hwx _ _ e
  obtain⟨xA,hxA⟩:∃xA,(x.add (.cells .rw (L.map iv))).add (.cells .rw [.int .i64 c.sl,.int .i64 c.sh,.int .i64 c.gl,.int .i64 c.gh])=xA:=⟨_,rfl⟩
  have sA:x.Sub xA:=by rw[←hxA];exact(by repeat(first|assumption|exact H.Sub.refl (by assumption)|refine H.Sub.add ?_ _|refine H.Sub.set ?_ (by first|omega|(simp only[H.next_add,H.next_set,H.next_del]<;>omega)) (by first|omega|(simp only[H.next_add,H.next_set,H.next_del]<;>omega)) (by assumption) _))
  have nxA:xA.next=x.next+2:=by rw[←hxA];simp only[H.next_add]
  have gf:xA.get x.next=some (.cells .rw (L.map iv)):=by rw[←hxA];simp -implicitDefEqProofs(maxSteps:=999999)(disch:=first|with_reducible rfl|omega|(simp only[nA,nS,nD]<;>omega)|fail)only[go_sem]
  have gc:xA.get (x.next+1)=some (.cells .rw [.int .i64 c.sl,.int .i64 c.sh,.int .i64 c.gl,.int .i64 c.gh]):=by rw[←hxA];simp -implicitDefEqProofs(maxSteps:=999999)(disch:=first|with_reducible rfl|omega|(simp only[nA,nS,nD]<;>omega)|fail)only[go_sem]
  have gN:getN 0 25 (L.map iv)=some (L.map iv):=by rw[←lL];exact getN_iv _
  have hn1:(c.ns:Int)=c.sh-c.sl+1:=by unfold Ck.ns;omega
  have hn2:(c.ng:Int)=c.gh-c.gl+1:=by unfold Ck.ng;omega
  subst eC
  refine Ev_body (fd:=c79) rfl rfl rfl ?_
  simp -implicitDefEqProofs(maxSteps:=999999)(disch:=first|with_reducible rfl|omega|(simp only[nA,nS,nD]<;>omega)|fail)only[c79,go_sem,hlR,hlC,cells_of g1,cells_of dx.dk,hlen,hqC (nat_cst runs.length),hcC,hgC]
  rw[hxA]
  skip
  obtain⟨Z,hZ,lZ⟩:∃Z:List Int,Z.map iv=[V.int .i64 0,.int .i64 0,.int .i64 0,.int .i64 0,.int .i64 0,.int .i64 0,.int .i64 0,.int .i64 0,.int .i64 0,.int .i64 0,.int .i64 0,.int .i64 0,.int .i64 0,.int .i64 0,.int .i64 0,.int .i64 0,.int .i64 0,.int .i64 0,.int .i64 0,.int .i64 0,.int .i64 0,.int .i64 0,.int .i64 0,.int .i64 0,.int .i64 0]∧Z.length=25:=⟨List.replicate 25 0,rfl,rfl⟩
  rw[←hZ]
  obtain⟨M,hM⟩:∃M:V,V.fn 79 [] [.ptr b1 0,.ptr b2 0,.ptr b3 0]=M:=⟨_,rfl⟩
  have z0:ZI b1 b2 b3 d y RR M (runs.map encX) K J L c x (p+(preL a cnt n runs L c 0 0).length) xA:=
   ⟨by simpa[preL] using tk.more _ _ _ hJ sA,tk.sub hJ sA,fun b hb=>by
    have hk:K xA b→K x b∧b<x.next:=fun hk=>⟨tk.km _ _ _ hJ sA _ hk,tk.kn _ _ _ hJ (tk.km _ _ _ hJ sA _ hk)⟩
    rcases hb with hb|hb|hb|hb|hb|hb
    ·exact⟨fun q=>(hRK b (.inl hb)).1 (hk q).1,by omega⟩
    ·exact⟨fun q=>(hRK b (.inr (.inl hb))).1 (hk q).1,by omega⟩
    ·exact⟨fun q=>(hRK b (.inr (.inr (.inl hb)))).1 (hk q).1,by omega⟩
    ·exact⟨fun q=>by have:=(hk q).2;omega,by omega⟩
    ·exact⟨fun q=>by have:=(hk q).2;omega,by omega⟩
    ·have:=hRK b (.inr (.inr (.inr hb)))
     exact⟨fun q=>this.1 (hk q).1,by omega⟩,sA.get g1,sA.get g2,by rw[←hM];exact sA.get g3,gf,gc,hR.mono sA,by omega⟩
  refine W_count c.ns (fun u s=>∃tm z,s=⟨tm,z,[]⟩∧ZI b1 b2 b3 d y RR M (runs.map encX) K J L c x (p+(preL a cnt n runs L c u 0).length) z∧
   (Opd.t 0).ev tm=RR∧(Opd.t 2).ev tm=.ptr b1 0∧(Opd.t 4).ev tm=.ptr b3 0∧(Opd.t 6).ev tm=.ptr x.next 0∧(Opd.t 8).ev tm=.ptr (x.next+1) 0∧(Opd.t 9).ev tm=.int .i64 (c.sl+u)) ?_ ?_ (i:=0) (Nat.zero_le _)
   ⟨_,_,rfl,z0,(by simp[ev_c,ev_put]<;>rfl),(by simp[ev_c,ev_put]<;>rfl),(by simp[ev_c,ev_put]<;>rfl),(by simp[ev_c,ev_put]<;>rfl),(by simp[ev_c,ev_put]<;>rfl),(by rw[show c.sl+((0:Nat):Int)=c.sl by simp];exact(by simp[ev_c,ev_put]<;>rfl))⟩
  ·rintro u s hu ⟨tm,z,rfl,zi,e0,e2,e4,e6,e8,e9⟩
   have hu':c.sl+(u:Int)≤c.sh:=by omega
   simp -implicitDefEqProofs(maxSteps:=999999)(disch:=first|with_reducible rfl|omega|(simp only[nA,nS,nD]<;>omega)|fail)only[go_sem,e0,e2,e4,e6,e8,e9,cells_of zi.gc,hu']
   refine W_count c.ng (fun v s=>∃tm z,s=⟨tm,z,[]⟩∧ZI b1 b2 b3 d y RR M (runs.map encX) K J L c x (p+(preL a cnt n runs L c u v).length) z∧
    (Opd.t 0).ev tm=RR∧(Opd.t 2).ev tm=.ptr b1 0∧(Opd.t 4).ev tm=.ptr b3 0∧(Opd.t 6).ev tm=.ptr x.next 0∧(Opd.t 8).ev tm=.ptr (x.next+1) 0∧(Opd.t 9).ev tm=.int .i64 (c.sl+u)∧(Opd.t 10).ev tm=.int .i64 (c.gl+v)) ?_ ?_ (i:=0) (Nat.zero_le _)
    ⟨_,_,rfl,zi,(by simp[ev_c,ev_put,e0]<;>rfl),(by simp[ev_c,ev_put,e2]<;>rfl),(by simp[ev_c,ev_put,e4]<;>rfl),(by simp[ev_c,ev_put,e6]<;>rfl),(by simp[ev_c,ev_put,e8]<;>rfl),(by simp[ev_c,ev_put,e9]<;>rfl),(by rw[show c.gl+((0:Nat):Int)=c.gl by simp];exact(by simp[ev_c,ev_put]<;>rfl))⟩
   ·rintro v s hv ⟨tm,z,rfl,zi,e0,e2,e4,e6,e8,e9,e10⟩
    have hv':c.gl+(v:Int)≤c.gh:=by omega
    obtain⟨sz0,nz0⟩:=tk.base _ _ zi.j
    have hwz:=sz0.wf
    have nz:=zi.nx
    have hRz:=zi.r.lenE
    have w1:wr .i64 (c.gl+(v:Int)+1)=c.gl+((v+1:Nat):Int):=by rw[wr_in (by omega) (by omega)];omega
    obtain⟨rest,hrest⟩:=preL_in a cnt n runs L c hu hv
    have hdrop:all.drop (p+(preL a cnt n runs L c u v).length)=oneL a cnt n runs L c u v++(rest++post):=by
     have h1:all.drop p=preL a cnt n runs L c u v++(oneL a cnt n runs L c u v++(rest++post)):=by rw[hall,hrest];simp only[List.append_assoc]
     exact drop_add h1
    have hstep:p+(preL a cnt n runs L c u (v+1)).length=p+(preL a cnt n runs L c u v).length+(oneL a cnt n runs L c u v).length:=by rw[preL_step,List.length_append,Nat.add_assoc]
    have hrun:RunOf a runs.length (c.sl+(u:Int),c.gl+(v:Int)):=RunOf.mk' hck (by omega) hu' (by omega) hv'
    obtain⟨S1,hS1⟩:∃S1,c.sl+(u:Int)=S1:=⟨_,rfl⟩
    obtain⟨T1,hT1⟩:∃T1,c.gl+(v:Int)=T1:=⟨_,rfl⟩
    rw[hS1] at e9 hrun
    rw[hT1] at e10 hv' hrun w1
    have sz1:=(H.Sub.refl hwz).add (.cells .rw [.int .i64 S1,.int .i64 T1])
    have gz1:(z.add (.cells .rw [.int .i64 S1,.int .i64 T1])).get z.next=some (.cells .rw [.int .i64 S1,.int .i64 T1]):=get_add_new rfl
    have nz1:=H.next_add z (.cells .rw [.int .i64 S1,.int .i64 T1])
    obtain⟨z1,hz1⟩:∃z1,z.add (.cells .rw [.int .i64 S1,.int .i64 T1])=z1:=⟨_,rfl⟩
    rw[hz1] at sz1 gz1 nz1
    have dz1:=dk.mono (sz0.trans sz1)
    simp -implicitDefEqProofs(maxSteps:=999999)(disch:=first|with_reducible rfl|omega|(simp only[nA,nS,nD]<;>omega)|fail)only[go_sem,e0,e2,e4,e6,e8,e9,e10,cells_of zi.gc,hv',hz1,cells_of (sz1.get zi.g1),cells_of (sz1.get zi.gf),gN,hRz,cells_of gz1]
    refine read_ev (x:=(S1,T1)) sz1.wf dz1 r (fun i hi=>(hcnt i hi).mono (sz0.trans sz1)) hL hrun _ fun z2 s2=>?_
    obtain⟨ok,hok⟩:∃ok,(readL a cnt runs.length (S1,T1) L).2=ok:=⟨_,rfl⟩
    obtain⟨L2,hL2⟩:∃L2,(readL a cnt runs.length (S1,T1) L).1=L2:=⟨_,rfl⟩
    have lL2:L2.length=25:=by rw[←hL2];exact readL_len r hL
    have hone:oneL a cnt n runs L c u v=if ok=true then moreL a cnt n (runs++[(S1,T1)]) L2 else[]:=by unfold oneL;rw[hS1,hT1,hok,hL2]
    rw[hok,hL2]
    have gN2:getN 0 25 (L2.map iv)=some (L2.map iv):=by rw[←lL2];exact getN_iv _
    have lnL2:lenN (L2.map iv)=25:=by rw[lenN_iv,lL2]
    have pL2:(z2.add (.cells .rw (Z.map iv))).put z2.next 0 (L2.map iv)=some ((z2.add (.cells .rw (Z.map iv))).set z2.next (.cells .rw (L2.map iv))):=put_ints (L:=Z) (get_add_new rfl) (by omega) (fun e=>by rw[e] at lL2;cases lL2)
    have s3:=(H.Sub.refl s2.wf).add (.cells .rw (L2.map iv))
    have g3:(z2.add (.cells .rw (L2.map iv))).get z2.next=some (.cells .rw (L2.map iv)):=get_add_new rfl
    have n3:=H.next_add z2 (.cells .rw (L2.map iv))
    obtain⟨z3,hz3⟩:∃z3,z2.add (.cells .rw (L2.map iv))=z3:=⟨_,rfl⟩
    rw[hz3] at s3 g3 n3
    have sz3:=(sz1.trans s2).trans s3
    have l2:=s2.next
    have zi3:∀q,J q z3→ZI b1 b2 b3 d y RR M (runs.map encX) K J L c x q z3:=fun q hq=>
     ⟨hq,zi.k.trans hwx (tk.sub zi.j sz3),fun b hb=>⟨fun q=>(zi.m b hb).1 (tk.km _ _ _ zi.j sz3 _ q),by have:=(zi.m b hb).2;have:=sz3.next;omega⟩,sz3.get zi.g1,sz3.get zi.g2,sz3.get zi.g3,sz3.get zi.gf,sz3.get zi.gc,zi.r.mono sz3,by have:=sz3.next;omega⟩
    cases ok with
    |false=>
     rw[if_neg (by simp)] at hone
     simp -implicitDefEqProofs(maxSteps:=999999)(disch:=first|with_reducible rfl|omega|(simp only[nA,nS,nD]<;>omega)|fail)only[go_sem,e0,e2,e4,e6,e8,e9,e10,lnL2,pL2,hz3,w1,Bool.false_eq_true]
     refine⟨_,_,rfl,?_,(by simp[ev_c,ev_put,e0]<;>rfl),(by simp[ev_c,ev_put,e2]<;>rfl),(by simp[ev_c,ev_put,e4]<;>rfl),(by simp[ev_c,ev_put,e6]<;>rfl),(by simp[ev_c,ev_put,e8]<;>rfl),by rw[hS1];exact(by simp[ev_c,ev_put,e9]<;>rfl),(by simp[ev_c,ev_put]<;>rfl)⟩
     rw[hstep,hone]
     exact zi3 _ (tk.more _ _ _ zi.j sz3)
    |true=>
     rw[if_pos rfl] at hone
     have hL2in:In5 240 L2:=by rw[←hL2];exact readL_in r hL hok
     simp -implicitDefEqProofs(maxSteps:=999999)(disch:=first|with_reducible rfl|omega|(simp only[nA,nS,nD]<;>omega)|fail)only[go_sem,e0,e2,e4,e6,e8,e9,e10,lnL2,pL2,hz3,cells_of (sz3.get zi.g3)]
     refine cloneRun_ev sz3.wf (zi.r.mono sz3) (by rw[List.length_map];omega) _ fun vv z4 ov=>?_
     have s4:=ov.1
     have s14:=(s2.trans s3).trans s4
     have l4:=s4.next
     have l3:=sz3.next
     have y5:SlAt (z4.add (.cells .rw [.int .i64 S1,.int .i64 T1])) (.sl z4.next 0 1 (.fix 1)) 2 [[V.int .i64 S1,.int .i64 T1]]:=SlAt.new _ rfl rfl rfl (by simp) (by simp)
     have s5:=(H.Sub.refl s4.wf).add (.cells .rw [.int .i64 S1,.int .i64 T1])
     simp -implicitDefEqProofs(maxSteps:=999999)(disch:=first|with_reducible rfl|omega|(simp only[nA,nS,nD]<;>omega)|fail)only[go_sem,e0,e2,e4,e6,e8,e9,e10,cells_of (s14.get gz1)]
     refine(ov.mono s5).app1 (by_:=16) sz3.wf (by simp) (by omega) y5 rfl (by rw[List.length_map];omega) (by rw[List.length_map];omega) fun R2 z6 o6 ob6 kp6=>?_
     have s6:=o6.1
     have s36:=s3.trans s6
     have s26:=s2.trans s36
     have sz6:=sz3.trans s6
     have l6:=s6.next
     have hmap:runs.map encX++[[V.int .i64 S1,.int .i64 T1]]=(runs++[(S1,T1)]).map encX:=by simp[encX]
     rw[hmap] at o6
     have o6b:∀b,blkOf R2 b→n0≤b:=fun b hb=>by
      have:=(o6.blk hb).1;omega
     have hnm:∀b,b=b1∨b=b2∨b=b3∨blkOf R2 b→¬K z6 b∧b<z6.next:=fun b hb=>by
      have hk:K z6 b→K z b∧b<z.next:=fun hk=>⟨tk.km _ _ _ zi.j sz6 _ hk,tk.kn _ _ _ zi.j (tk.km _ _ _ zi.j sz6 _ hk)⟩
      have l36:=sz3.next
      have l66:=sz6.next
      rcases hb with hb|hb|hb|hb
      ·have w:=zi.m b (.inl hb);exact⟨fun q=>w.1 (hk q).1,by omega⟩
      ·have w:=zi.m b (.inr (.inl hb));exact⟨fun q=>w.1 (hk q).1,by omega⟩
      ·have w:=zi.m b (.inr (.inr (.inl hb)));exact⟨fun q=>w.1 (hk q).1,by omega⟩
      ·have w:=o6.blk hb;exact⟨fun q=>by have:=(hk q).2;omega,w.2.1⟩
     have hrl:(runs++[(S1,T1)]).length+n=a.cks.length:=by rw[List.length_append,List.length_singleton];omega
     simp -implicitDefEqProofs(maxSteps:=999999)(disch:=first|with_reducible rfl|omega|(simp only[nA,nS,nD]<;>omega)|fail)only[go_sem,cells_of (s6.get g3),gN2]
     rw[←hM]
     refine(ih (runs++[(S1,T1)]) L2 (p+(preL a cnt n runs L c u v).length) (rest++post) z6 R2 hrl hL2in (tk.more _ _ _ zi.j sz6) (sz6.get zi.g1) (sz6.get zi.g2) (by rw[hM];exact sz6.get zi.g3) (o6.sl (by have:=r.lens;rw[List.length_map];omega)) hnm (by rw[hdrop,hone])).mono fun uu z7 hz=>?_
     obtain⟨hz,hk⟩:=hz
     have kz7:Frm K z z7:=(tk.sub zi.j sz6).trans hwz hk
     have a3:=cells_of (sz3.get zi.g3)
     have a4:=cells_of ((sz3.trans s4).get zi.g3)
     have a6:=cells_of (sz6.get zi.g3)
     have a7:=hk.1.cells a6 (fun q=>(zi.m b3 (.inr (.inr (.inl rfl)))).1 (tk.km _ _ _ zi.j sz6 _ q))
     have b3':=cells_of ((s2.trans s3).get gz1)
     have b4:=cells_of (s14.get gz1)
     have b6:=cells_of ((s26).get gz1)
     have c3:=cells_of g3
     have c4':=cells_of (s4.get g3)
     have c6:=cells_of (s6.get g3)
     have kn2:∀b,z.next≤b→¬K z6 b:=fun b hb hk=>by have:=tk.kn _ _ _ zi.j (tk.km _ _ _ zi.j sz6 _ hk);omega
     have c7:=hk.1.cells c6 (kn2 _ (by omega))
     have b7:=hk.1.cells b6 (kn2 _ (by omega))
     have a5:=cells_of (s5.get ((sz3.trans s4).get zi.g3))
     have b5:=cells_of (s5.get (s14.get gz1))
     have c5':=cells_of (s5.get (s4.get g3))
     rcases hz with⟨rfl,hz⟩|⟨rfl,hz⟩
     ·simp -implicitDefEqProofs(maxSteps:=999999)(disch:=first|with_reducible rfl|omega|(simp only[nA,nS,nD]<;>omega)|fail)only[go_sem,e0,e2,e4,e6,e8,e9,e10,a3,a4,a5,a6,a7,b3',b4,b5,b6,b7,c3,c4',c5',c6,c7,gN2,w1,hM]
      refine⟨_,_,rfl,?_,(by simp[ev_c,ev_put,e0]<;>rfl),(by simp[ev_c,ev_put,e2]<;>rfl),(by simp[ev_c,ev_put,e4]<;>rfl),(by simp[ev_c,ev_put,e6]<;>rfl),(by simp[ev_c,ev_put,e8]<;>rfl),by rw[hS1];exact(by simp[ev_c,ev_put,e9]<;>rfl),(by simp[ev_c,ev_put]<;>rfl)⟩
      rw[hstep,hone]
      refine⟨hz,zi.k.trans hwx kz7,fun b hb=>⟨fun q=>(kz7.2 b q).elim (zi.m b hb).1 fun l=>by have:=(zi.m b hb).2;omega,by have:=(zi.m b hb).2;have:=kz7.1.1;omega⟩,kz7.1.2 _ _ zi.g1 (zi.m _ (.inl rfl)).1,kz7.1.2 _ _ zi.g2 (zi.m _ (.inr (.inl rfl))).1,kz7.1.2 _ _ zi.g3 (zi.m _ (.inr (.inr (.inl rfl)))).1,kz7.1.2 _ _ zi.gf (zi.m _ (.inr (.inr (.inr (.inl rfl))))).1,kz7.1.2 _ _ zi.gc (zi.m _ (.inr (.inr (.inr (.inr (.inl rfl)))))).1,SlAt_keep zi.r kz7.1 (fun b hb=>(zi.m b (.inr (.inr (.inr (.inr (.inr hb)))))).1),by have:=kz7.1.1;omega⟩
     ·simp -implicitDefEqProofs(maxSteps:=999999)(disch:=first|with_reducible rfl|omega|(simp only[nA,nS,nD]<;>omega)|fail)only[go_sem,e0,e2,e4,e6,e8,e9,e10,a3,a4,a5,a6,a7,b3',b4,b5,b6,b7,c3,c4',c5',c6,c7,gN2,hM]
      exact q _ _ ⟨.inr ⟨rfl,hz⟩,zi.k.trans hwx kz7⟩
   ·rintro s ⟨tm,z,rfl,zi,e0,e2,e4,e6,e8,e9,e10⟩
    have hv':¬c.gl+(c.ng:Int)≤c.gh:=by omega
    have w1:wr .i64 (c.sl+(u:Int)+1)=c.sl+((u+1:Nat):Int):=by rw[wr_in (by omega) (by omega)];omega
    simp -implicitDefEqProofs(maxSteps:=999999)(disch:=first|with_reducible rfl|omega|(simp only[nA,nS,nD]<;>omega)|fail)only[go_sem,e0,e2,e4,e6,e8,e9,e10,cells_of zi.gc,hv',w1]
    exact⟨_,_,rfl,by rw[preL_row];exact zi,(by simp[ev_c,ev_put,e0]<;>rfl),(by simp[ev_c,ev_put,e2]<;>rfl),(by simp[ev_c,ev_put,e4]<;>rfl),(by simp[ev_c,ev_put,e6]<;>rfl),(by simp[ev_c,ev_put,e8]<;>rfl),(by simp[ev_c,ev_put]<;>rfl)⟩
  ·rintro s ⟨tm,z,rfl,zi,e0,e2,e4,e6,e8,e9⟩
   have hu':¬c.sl+(c.ns:Int)≤c.sh:=by omega
   simp -implicitDefEqProofs(maxSteps:=999999)(disch:=first|with_reducible rfl|omega|(simp only[nA,nS,nD]<;>omega)|fail)only[go_sem,e0,e2,e4,e6,e8,e9,cells_of zi.gc,hu']
   exact q _ _ ⟨.inl ⟨rfl,zi.j⟩,zi.k⟩
end Go.Ab.Tryz
namespace Go.Ab.Tryz
open Go.Proofs
theorem free_clos_in {a:At}(r:Right a)(ht:(clos (freeL a)).2=true):In5 240 (clos (freeL a)).1:=((clos_spec (by decide) (by decide) (freeL_in r)).1 ht).2.1
set_option maxHeartbeats 4000000 in
theorem cases_gen {h0:H}(hw0:h0.wf){d:Nat}{a:At}{C R G f W:V}{ms:List Nat}(dk:Dk h0 d a C R G f W ms)(r:Right a){cnt:Nat→Bool}(hcnt:∀i,i<a.rds.length→PureA h0 f [.int .i64 (i:Int)] (.bool (cnt i)))
  {y:V} (hy:∃l,y=.yld l) {J:Nat→H→Prop} {S:H→Prop} {K:H→Nat→Prop} {n0:Nat} (tk:Taker h0 y (casesL a cnt) J S K n0) {b1:Nat} {x:H} (k1:¬K x b1) (hJ:J 0 x) (g1:x.get b1=some (.cells .rw [.ptr d 0])):
  Ev fnG fastA (.fn 78 [] [.ptr b1 0]) [y] x fun u z=>J (casesL a cnt).length z∨S z:=by
 refine Ev.gen fun Q q=>?_
 obtain⟨s0,n0x⟩:=tk.base _ _ hJ
 have dx:=dk.mono s0
 have hwx:=s0.wf
 obtain⟨l,rfl⟩:=hy
 have lb1:=hwx _ _ g1
 obtain⟨xA,hxA⟩:∃xA,(x.add (.cells .rw [.yld l])).add (.cells .rw [.fn 79 [] [.ptr b1 0,.ptr x.next 0,.ptr (x.next+1) 0]])=xA:=⟨_,rfl⟩
 have sA:x.Sub xA:=by rw[←hxA];exact(by repeat(first|assumption|exact H.Sub.refl (by assumption)|refine H.Sub.add ?_ _|refine H.Sub.set ?_ (by first|omega|(simp only[H.next_add,H.next_set,H.next_del]<;>omega)) (by first|omega|(simp only[H.next_add,H.next_set,H.next_del]<;>omega)) (by assumption) _))
 have nxA:xA.next=x.next+2:=by rw[←hxA];simp only[H.next_add]
 have g2:xA.get x.next=some (.cells .rw [.yld l]):=by rw[←hxA];simp -implicitDefEqProofs(maxSteps:=999999)(disch:=first|with_reducible rfl|omega|(simp only[nA,nS,nD]<;>omega)|fail)only[go_sem]
 have g3:xA.get (x.next+1)=some (.cells .rw [.fn 79 [] [.ptr b1 0,.ptr x.next 0,.ptr (x.next+1) 0]]):=by rw[←hxA];simp -implicitDefEqProofs(maxSteps:=999999)(disch:=first|with_reducible rfl|omega|(simp only[nA,nS,nD]<;>omega)|fail)only[go_sem]
 obtain⟨Z,hZ,lZ⟩:∃Z:List Int,Z.map iv=[V.int .i64 0,.int .i64 0,.int .i64 0,.int .i64 0,.int .i64 0,.int .i64 0,.int .i64 0,.int .i64 0,.int .i64 0,.int .i64 0,.int .i64 0,.int .i64 0,.int .i64 0,.int .i64 0,.int .i64 0,.int .i64 0,.int .i64 0,.int .i64 0,.int .i64 0,.int .i64 0,.int .i64 0,.int .i64 0,.int .i64 0,.int .i64 0,.int .i64 0]∧Z.length=25:=⟨List.replicate 25 0,rfl,rfl⟩
 refine Ev_body (fd:=c78) rfl rfl rfl ?_
 simp -implicitDefEqProofs(maxSteps:=999999)(disch:=first|with_reducible rfl|omega|(simp only[nA,nS,nD]<;>omega)|fail)only[c78,go_sem,one_yld,cells_yld]
 rw[hxA,←hZ]
 simp -implicitDefEqProofs(maxSteps:=999999)(disch:=first|with_reducible rfl|omega|(simp only[nA,nS,nD]<;>omega)|fail)only[go_sem,cells_of g1,cells_of (sA.get g1)]
 refine free_ev sA.wf (dx.mono sA) r _ fun h2 s2=>?_
 simp -implicitDefEqProofs(maxSteps:=999999)(disch:=first|with_reducible rfl|omega|(simp only[nA,nS,nD]<;>omega)|fail)only[go_sem]
 refine closed_ev rfl rfl s2.wf (freeL_in r) _ fun h3 s3=>?_
 obtain⟨ok,hok⟩:∃ok,(clos (freeL a)).2=ok:=⟨_,rfl⟩
 obtain⟨L2,hL2⟩:∃L2,(clos (freeL a)).1=L2:=⟨_,rfl⟩
 have lL2:L2.length=25:=by rw[←hL2,clos_len];exact(freeL_in r).len
 rw[hok,hL2]
 have gN2:getN 0 25 (L2.map iv)=some (L2.map iv):=by rw[←lL2];exact getN_iv _
 have lnL2:lenN (L2.map iv)=25:=by rw[lenN_iv,lL2]
 have pL2:(h3.add (.cells .rw (Z.map iv))).put h3.next 0 (L2.map iv)=some ((h3.add (.cells .rw (Z.map iv))).set h3.next (.cells .rw (L2.map iv))):=put_ints (L:=Z) (get_add_new rfl) (by omega) (fun e=>by rw[e] at lL2;cases lL2)
 have s4:=(H.Sub.refl s3.wf).add (.cells .rw (L2.map iv))
 have g4:(h3.add (.cells .rw (L2.map iv))).get h3.next=some (.cells .rw (L2.map iv)):=get_add_new rfl
 obtain⟨h4,hh4⟩:∃h4,h3.add (.cells .rw (L2.map iv))=h4:=⟨_,rfl⟩
 rw[hh4] at s4 g4
 have s24:=(s2.trans s3).trans s4
 have sx4:=sA.trans s24
 cases ok with
 |false=>
  have e:casesL a cnt=[]:=by unfold casesL;rw[hok];simp
  simp -implicitDefEqProofs(maxSteps:=999999)(disch:=first|with_reducible rfl|omega|(simp only[nA,nS,nD]<;>omega)|fail)only[go_sem,lnL2,pL2,hh4,Bool.false_eq_true]
  refine q _ _ (.inl ?_)
  rw[e]
  exact tk.more _ _ _ hJ sx4
 |true=>
  have e:casesL a cnt=moreL a cnt a.cks.length [] L2:=by unfold casesL;rw[hok,hL2];simp
  have hL2in:In5 240 L2:=by rw[←hL2];exact free_clos_in r hok
  simp -implicitDefEqProofs(maxSteps:=999999)(disch:=first|with_reducible rfl|omega|(simp only[nA,nS,nD]<;>omega)|fail)only[go_sem,lnL2,pL2,hh4,cells_of (s24.get g3),cells_of g4,gN2]
  have hnm:∀b,b=b1∨b=x.next∨b=x.next+1∨blkOf .nils b→¬K h4 b∧b<h4.next:=fun b hb=>by
   have hk:K h4 b→K x b∧b<x.next:=fun hk=>⟨tk.km _ _ _ hJ sx4 _ hk,tk.kn _ _ _ hJ (tk.km _ _ _ hJ sx4 _ hk)⟩
   have l4:=s24.next
   rcases hb with hb|hb|hb|hb
   ·subst hb;exact⟨fun q=>k1 (hk q).1,by omega⟩
   ·exact⟨fun q=>by have:=(hk q).2;omega,by omega⟩
   ·exact⟨fun q=>by have:=(hk q).2;omega,by omega⟩
   ·exact(blkOf_nils hb).elim
  have hg:=more_gen hw0 dk r hcnt ⟨l,rfl⟩ tk (b1:=b1) (b2:=x.next) (b3:=x.next+1) a.cks.length [] L2 0 [] h4 .nils (by simp) hL2in (tk.more _ _ _ hJ sx4) (sx4.get g1) (s24.get g2) (s24.get g3) ⟨by simp,by simp,.inl ⟨rfl,rfl⟩⟩ hnm (by rw[e];simp)
  refine hg.mono fun u z hz=>?_
  obtain⟨hz,_⟩:=hz
  rcases hz with⟨rfl,hz⟩|⟨rfl,hz⟩
  ·simp -implicitDefEqProofs(maxSteps:=999999)(disch:=first|with_reducible rfl|omega|(simp only[nA,nS,nD]<;>omega)|fail)only[go_sem]
   refine q _ _ (.inl ?_)
   rw[e];simpa using hz
  ·simp -implicitDefEqProofs(maxSteps:=999999)(disch:=first|with_reducible rfl|omega|(simp only[nA,nS,nD]<;>omega)|fail)only[go_sem]
   exact q _ _ (.inr hz)
end Go.Ab.Tryz
namespace Go.Ab
theorem put_full {h:H}{b:Nat}{old vs:List V}(hb:h.get b=some (.cells .rw old))(hl:vs.length=old.length)(hn:vs≠[])(ho:allOne vs=true):h.put b 0 vs=some (h.set b (.cells .rw vs)):=by
 cases vs with
 |nil=>exact absurd rfl hn
 |cons a K=>
  have hp:putN 0 (a::K) old=some (a::K):=by
   refine(putN_eq (by simp)).2 ⟨?_,by omega⟩
   rw[List.drop_eq_nil_of_le (by omega),List.append_nil,List.take_zero,List.nil_append]
  exact H.put_rw ho hb hp
theorem over_all {vs z:List V}(hl:vs.length=z.length):over vs z=some vs:=by
 refine over_eq.2 ⟨?_,by omega⟩
 rw[List.drop_eq_nil_of_le (by omega),List.append_nil]
theorem flatMap_le {α β:Type}{f:α→List β}{k:Nat}:∀{l:List α},(∀x∈l,(f x).length≤k)→(l.flatMap f).length≤l.length*k
 |[],_=>by simp
 |a::l,h=>by
  have h1:=h a (List.mem_cons_self ..)
  have h2:=flatMap_le (l:=l) fun x hx=>h x (List.mem_cons_of_mem _ hx)
  rw[List.flatMap_cons,List.length_append,List.length_cons,Nat.succ_mul]
  omega
end Go.Ab
namespace Go.Ab.Tryz
open Go.Proofs
theorem moreL_len {a:At}(r:Right a)(cnt:Nat→Bool):∀(n:Nat) (runs:Runs) (L:List Int),(moreL a cnt n runs L).length≤25^n
 |0,_,_=>Nat.le_refl _
 |n+1,runs,L=>by
  unfold moreL
  cases hc:a.cks[runs.length]? with
  |none=>exact Nat.zero_le _
  |some c=>
   have hs:=r.cs c (List.mem_of_getElem? hc)
   simp only[Ck.sm,Bool.and_eq_true,decide_eq_true_eq] at hs
   have n1:c.ns≤5:=by unfold Ck.ns;omega
   have n2:c.ng≤5:=by unfold Ck.ng;omega
   have h2:∀u:Nat,((List.range c.ng).flatMap fun(v:Nat)=>if(readL a cnt runs.length (c.sl+u,c.gl+v) L).2=true then moreL a cnt n (runs++[(c.sl+u,c.gl+v)]) (readL a cnt runs.length (c.sl+u,c.gl+v) L).1 else[]).length≤5*25^n:=fun u=>by
    refine Nat.le_trans (flatMap_le (k:=25^n) fun v _=>?_) (Nat.mul_le_mul_right _ (by rw[List.length_range];exact n2))
    split
    ·exact moreL_len r cnt n _ _
    ·exact Nat.zero_le _
   refine Nat.le_trans (flatMap_le (k:=5*25^n) fun u _=>h2 u) ?_
   refine Nat.le_trans (Nat.mul_le_mul_right _ (by rw[List.length_range];exact n1)) ?_
   rw[Nat.pow_succ];omega
theorem casesL_len {a:At}(r:Right a)(cnt:Nat→Bool):(casesL a cnt).length≤15625:=by
 unfold casesL
 split
 ·exact Nat.le_trans (moreL_len r cnt _ _ _) (Nat.pow_le_pow_right (by decide) r.lens.1:25^a.cks.length≤25^3)
 ·exact Nat.zero_le _
abbrev Fd:=V × Runs × List Int
def rowF (p:Fd):List V:=p.1::p.2.2.map iv
structure FsO (h0 h:H)(y:V)(Ps:List Fd):Prop where
 o:OwnC h0 h y 26 (Ps.map rowF)
 e:∀p∈Ps,OwnC h0 h p.1 2 (p.2.1.map encX)
 l:∀p∈Ps,p.2.2.length=25
theorem moreL_in {a:At}(r:Right a){cnt:Nat→Bool}:∀{n:Nat} {runs:Runs} {L:List Int},In5 240 L→∀t∈moreL a cnt n runs L,In5 240 t.2
 |0,runs,L,h,t,ht=>by rw[moreL,List.mem_singleton] at ht;rw[ht];exact h
 |n+1,runs,L,h,t,ht=>by
  unfold moreL at ht
  cases hc:a.cks[runs.length]? with
  |none=>rw[hc] at ht;cases ht
  |some c=>
   rw[hc] at ht
   simp only[List.mem_flatMap] at ht
   obtain⟨u,_,v,_,ht⟩:=ht
   split at ht
   ·rename_i hk;exact moreL_in r (readL_in r h hk) t ht
   ·cases ht
theorem casesL_in {a:At}(r:Right a){cnt:Nat→Bool}:∀t∈casesL a cnt,In5 240 t.2:=fun t ht=>by
 unfold casesL at ht
 split at ht
 ·rename_i h;exact moreL_in r (free_clos_in r h) t ht
 ·cases ht
structure CI (h:H)(r0:LoopR)(l c e:Nat)(all:List (Runs × List Int))(n:Nat)(x:H)(y:V)(Ps:List Fd):Prop where
 f:FsO h x y Ps
 ps:Ps.map Prod.snd=all.take n
 dj:∀p∈Ps,∀b,blkOf p.1 b→¬blkOf y b∧l<b
 yb:∀b,blkOf y b→l<b
 gl:x.get l=some (.loop r0)
 gd:x.get e=some .dfr
 gc:x.get c=some (.cells .rw [y])
theorem CI.mono {h:H}{r0:LoopR}{l c e:Nat}{all:List (Runs × List Int)}{n:Nat}{x x':H}{y:V}{Ps:List Fd}(k:CI h r0 l c e all n x y Ps)(s:x.Sub x'):CI h r0 l c e all n x' y Ps:=
 ⟨⟨k.f.o.mono s,fun p hp=>(k.f.e p hp).mono s,k.f.l⟩,k.ps,k.dj,k.yb,s.get k.gl,s.get k.gd,s.get k.gc⟩
def CK (l c:Nat)(x:H)(b:Nat):Prop:=b=l∨b=c∨∃y,x.get c=some (.cells .rw [y])∧blkOf y b
theorem CI.frm {h:H}(hw:h.wf){r0:LoopR}{l c e n:Nat}{all:List (Runs × List Int)}{x0 x z h5 h6:H}{y y' R:V}{Ps:List Fd}{t:Runs × List Int}(k:CI h r0 l c e all n x0 y Ps)(hR:OwnC x0 x R 2 (t.1.map encX))(lt:t.2.length=25)(ht:all[n]? =some t)
  (hc:h.next≤c) (hce:c<e) (hel:e<l) (s6:h.Sub h6) (sx6:Keeps (fun b=>b=l) x h6) (o5:OwnC h h5 y' 26 (Ps.map rowF++[rowF (R,t)])) (n5:∀b,blkOf y' b→blkOf y b∨h6.next≤b) (k5:Keeps (blkOf y) h6 h5)
  (hz:z=(h5.set c (.cells .rw [y'])).set l (.loop r0)):CI h r0 l c e all (n+1) z y' (Ps++[(R,t)])∧Frm (CK l c) x z:=by
 have sx:=hR.1
 have kx:=k.mono sx
 have wx:=sx.wf
 have ll:=k.f.o.1.wf _ _ k.gl
 have lx:=sx.next
 have l6:=sx6.1
 have l5:=k5.1
 have s5:=o5.1
 have lc5:c<h5.next:=by omega
 have sz:h.Sub z:=by
  rw[hz]
  exact(s5.set hc lc5 hw _).set (by omega) (by rw[H.next_set];omega) hw _
 have nz:z.next=h5.next:=by rw[hz];simp only[H.next_set]
 have kz:Keeps (fun b=>b=l∨b=c∨blkOf y b) x z:=by
  refine⟨by omega,fun b w g nb=>?_⟩
  rw[hz,get_set_other fun q=>nb (.inl q),get_set_other fun q=>nb (.inr (.inl q))]
  exact k5.2 _ _ (sx6.2 _ _ g fun q=>nb (.inl q)) fun q=>nb (.inr (.inr q))
 have k2:Keeps (fun b=>b=l∨b=c) h5 z:=by
  refine⟨by omega,fun b w g nb=>?_⟩
  rw[hz,get_set_other fun q=>nb (.inl q),get_set_other fun q=>nb (.inr q)];exact g
 have yl:∀b,blkOf y' b→l<b:=fun b hb=>(n5 b hb).elim (k.yb b) fun q=>by omega
 have gl:z.get l=some (.loop r0):=by rw[hz];exact get_set_same rfl
 have gc:z.get c=some (.cells .rw [y']):=by rw[hz,get_set_other (by omega)];exact get_set_same rfl
 refine⟨⟨⟨?_,fun p hp=>?_,fun p hp=>?_⟩,?_,fun p hp b hb=>?_,yl,gl,?_,gc⟩,⟨kz.1,fun b w g nb=>kz.2 b w g fun q=>nb (q.elim .inl fun q=>q.elim (fun q=>.inr (.inl q)) fun q=>.inr (.inr ⟨y,kx.gc,q⟩))⟩,fun b hb=>?_⟩
 ·rw[List.map_append]
  exact o5.keep k2 sz fun b hb q=>by have:=yl b hb;omega
 ·rcases List.mem_append.1 hp with hp|hp
  ·exact(kx.f.e p hp).keep kz sz fun b hb q=>by have:=k.dj p hp b hb;rcases q with q|q|q;omega;omega;exact this.1 q
  ·rw[List.mem_singleton] at hp;subst hp
   exact(hR.base k.f.o.1).keep kz sz fun b hb q=>by
    have:=(hR.blk hb).1
    rcases q with q|q|q;omega;omega;have:=(k.f.o.blk q).2.1;omega
 ·rcases List.mem_append.1 hp with hp|hp
  ·exact k.f.l p hp
  ·rw[List.mem_singleton] at hp;subst hp;exact lt
 ·rw[List.map_append,k.ps,List.take_add_one,ht];rfl
 ·rcases List.mem_append.1 hp with hp|hp
  ·have h1:=k.dj p hp b hb
   refine⟨fun q=>(n5 b q).elim h1.1 fun q=>?_,h1.2⟩
   have:=((k.f.e p hp).blk hb).2.1;omega
  ·rw[List.mem_singleton] at hp;subst hp
   have h1:=hR.blk hb
   refine⟨fun q=>(n5 b q).elim (fun q=>?_) fun q=>?_,by omega⟩
   ·have:=(k.f.o.blk q).2.1;omega
   ·have:=h1.2.1;omega
 ·exact kz.2 _ _ kx.gd fun q=>by rcases q with q|q|q;omega;omega;have:=k.yb _ q;omega
 ·rcases hb with hb|hb|⟨y2,g2,hb⟩
  ·exact .inl (.inl hb)
  ·exact .inl (.inr (.inl hb))
  ·rw[gc] at g2;cases g2
   exact(n5 b hb).elim (fun q=>.inl (.inr (.inr ⟨y,kx.gc,q⟩))) fun q=>.inr (by omega)
end Go.Ab.Tryz
namespace Go.Ab.Tryz
open Go.Proofs
theorem moreL_sound {a:At}(r:Right a){cnt:Nat→Bool}:∀{n:Nat} {runs:Runs} {L:List Int} {t:Runs × List Int},runs.length+n=a.cks.length→In5 240 L→Tri L→t∈moreL a cnt n runs L→
  Tri t.2∧∃suf:Runs,t.1=runs++suf∧suf.length=n∧(∀(j:Nat) s,suf[j]? =some s→RunOf a (runs.length+j) s)∧∀y,Sol y t.2↔Sol y L∧∀(j:Nat) s,suf[j]? =some s→RdOk a cnt ((runs.length+j:Nat):Int) s y
 |0,runs,L,t,hl,hL,tL,ht=>by
  rw[moreL,List.mem_singleton] at ht;subst ht
  exact⟨tL,[],by simp,rfl,fun j s h=>by simp at h,fun y=>⟨fun h=>⟨h,fun j s h=>by simp at h⟩,fun h=>h.1⟩⟩
 |n+1,runs,L,t,hl,hL,tL,ht=>by
  have hlt:runs.length<a.cks.length:=by omega
  have hck:a.cks[runs.length]? =some a.cks[runs.length]:=List.getElem?_eq_getElem hlt
  obtain⟨c,hc⟩:∃c,a.cks[runs.length]=c:=⟨_,rfl⟩
  rw[hc] at hck
  unfold moreL at ht
  rw[hck] at ht
  simp only[List.mem_flatMap,List.mem_range] at ht
  obtain⟨u,hu,v,hv,ht⟩:=ht
  have n1:(c.ns:Int)=c.sh-c.sl+1:=by unfold Ck.ns at hu⊢;omega
  have n2:(c.ng:Int)=c.gh-c.gl+1:=by unfold Ck.ng at hv⊢;omega
  split at ht
  ·rename_i hk
   obtain⟨k1,k2,k3⟩:=(readL_spec r hL).1 hk
   obtain⟨i1,suf,i2,i3,i4,i5⟩:=moreL_sound r (by rw[List.length_append,List.length_singleton];omega) k2 k1 ht
   rw[List.length_append,List.length_singleton] at i4 i5
   have ix:∀j,runs.length+1+j=runs.length+(j+1):=fun j=>by omega
   refine⟨i1,(c.sl+(u:Int),c.gl+(v:Int))::suf,by rw[i2,List.append_assoc];rfl,by rw[List.length_cons,i3],fun j s hs=>?_,fun y=>?_⟩
   ·cases j with
    |zero=>cases hs;exact RunOf.mk' hck (by omega) (by omega) (by omega) (by omega)
    |succ j=>rw[←ix];exact i4 j s hs
   ·rw[i5 y,k3 y]
    constructor
    ·rintro⟨⟨h1,h2⟩,h3⟩
     refine⟨h1,fun j s hs=>?_⟩
     cases j with
     |zero=>cases hs;exact h2
     |succ j=>rw[←ix];exact h3 j s hs
    ·rintro⟨h1,h2⟩
     exact⟨⟨h1,h2 0 _ rfl⟩,fun j s hs=>by rw[ix];exact h2 (j+1) s hs⟩
  ·cases ht
theorem moreL_full {a:At}(r:Right a){cnt:Nat→Bool}{y:Nat→Int}:∀{n:Nat} {runs suf:Runs} {L:List Int},runs.length+n=a.cks.length→In5 240 L→suf.length=n→(∀(j:Nat) s,suf[j]? =some s→RunOf a (runs.length+j) s)→Sol y L→
  (∀(j:Nat) s,suf[j]? =some s→RdOk a cnt ((runs.length+j:Nat):Int) s y)→∃L',(runs++suf,L')∈moreL a cnt n runs L
 |0,runs,suf,L,hl,hL,hs,_,_,_=>by
  rw[List.length_eq_zero_iff.1 hs,List.append_nil]
  exact⟨L,by rw[moreL];exact List.mem_singleton.2 rfl⟩
 |n+1,runs,[],L,hl,hL,hs,_,_,_=>by simp at hs
 |n+1,runs,s::suf,L,hl,hL,hs,hr,hy,hd=>by
  obtain⟨c,hck,h1,h2,h3,h4⟩:=hr 0 s rfl
  have hd0:=hd 0 s rfl
  rw[Nat.add_zero] at hck hd0
  have n1:(c.ns:Int)=c.sh-c.sl+1:=by unfold Ck.ns;omega
  have n2:(c.ng:Int)=c.gh-c.gl+1:=by unfold Ck.ng;omega
  have es:s=(c.sl+((s.1-c.sl).toNat:Int),c.gl+((s.2-c.gl).toNat:Int)):=by
   obtain⟨s1,s2⟩:=s
   simp only at h1 h2 h3 h4⊢
   rw[Int.toNat_of_nonneg (by omega),Int.toNat_of_nonneg (by omega)]
   congr 1<;>omega
  have hsp:=readL_spec (cnt:=cnt) (k:=(runs.length:Int)) (x:=s) r hL
  have hk:(readL a cnt runs.length s L).2=true:=by
   cases hh:(readL a cnt runs.length s L).2 with
   |true=>rfl
   |false=>exact absurd hd0 (hsp.2 hh y hy)
  obtain⟨k1,k2,k3⟩:=hsp.1 hk
  have ix:∀j,runs.length+1+j=runs.length+(j+1):=fun j=>by omega
  obtain⟨L',hL'⟩:=moreL_full r (runs:=runs++[s]) (suf:=suf) (L:=(readL a cnt runs.length s L).1) (n:=n) (by rw[List.length_append,List.length_singleton];omega) k2 (by simpa using hs)
   (fun j x hx=>by rw[List.length_append,List.length_singleton,ix];exact hr (j+1) x hx) ((k3 y).2 ⟨hy,hd0⟩) (fun j x hx=>by rw[List.length_append,List.length_singleton,ix];exact hd (j+1) x hx)
  refine⟨L',?_⟩
  rw[List.append_assoc] at hL'
  unfold moreL
  rw[hck]
  simp only[List.mem_flatMap,List.mem_range]
  refine⟨(s.1-c.sl).toNat,by omega,(s.2-c.gl).toNat,by omega,?_⟩
  rw[←es,if_pos hk]
  exact hL'
structure Tru (a:At)(cnt:Nat→Bool)(runs:Runs)(y:Nat→Int):Prop where
 len:runs.length=a.cks.length
 run:∀(k:Nat) s,runs[k]? =some s→RunOf a k s
 beg:y 4=0
 mins:∀e,e<4→0≤y e∧y e≤a.mins
 gaps:∀g∈a.gps,g.lo≤y g.to.toNat-y g.fr.toNat∧y g.to.toNat-y g.fr.toNat≤g.hi
 rds:∀(j:Nat) (r:Rd),a.rds[j]? =some r→cnt j=true→∀s,runs[r.ck.toNat]? =some s→shw s.1 s.2 (y r.ev.toNat)=r.sh
theorem Tru.ok {a:At}(r:Right a){cnt:Nat→Bool}{runs:Runs}{y:Nat→Int}(hl:runs.length=a.cks.length)(hr:∀(k:Nat) s,runs[k]? =some s→RunOf a k s)(hy:y 4=0)(hm:∀e,e<4→0≤y e∧y e≤a.mins):
  (∀(j:Nat) (rd:Rd),a.rds[j]? =some rd→cnt j=true→∀s,runs[rd.ck.toNat]? =some s→shw s.1 s.2 (y rd.ev.toNat)=rd.sh)↔∀(k:Nat) s,runs[k]? =some s→RdOk a cnt (k:Int) s y:=by
 have key:∀(j:Nat) (rd:Rd),a.rds[j]? =some rd→∀s,runs[rd.ck.toNat]? =some s→(shw s.1 s.2 (y rd.ev.toNat)=rd.sh↔(whn s.1 s.2 rd.sh (a.mins.toNat+1)).1≤y rd.ev.toNat-y 4∧y rd.ev.toNat-y 4≤(whn s.1 s.2 rd.sh (a.mins.toNat+1)).2):=fun j rd hrd s hs=>by
  obtain⟨yk,ye,ek,ee,hyk,hye,_⟩:=r.rd (List.mem_of_getElem? hrd)
  have h1:=hm rd.ev.toNat (by omega)
  obtain⟨_,_,_,_⟩:=(hr _ s hs).run r
  have h3:=r.mins
  rw[hy,show y rd.ev.toNat-0=y rd.ev.toNat by omega]
  exact whn_iff (by omega) h1.1 (by omega)
 constructor
 ·intro h k s hs j rd hrd hk hc
  have hs':runs[rd.ck.toNat]? =some s:=by rw[hk,Int.toNat_natCast];exact hs
  exact(key j rd hrd s hs').1 (h j rd hrd hc s hs')
 ·intro h j rd hrd hc s hs
  obtain⟨yk,ye,ek,ee,hyk,hye,_⟩:=r.rd (List.mem_of_getElem? hrd)
  refine(key j rd hrd s hs).2 (h rd.ck.toNat s hs j rd hrd ?_ hc)
  rw[ek,Int.toNat_natCast]
theorem cases_sound {a:At}(r:Right a){cnt:Nat→Bool}{t:Runs × List Int}(ht:t∈casesL a cnt):Tri t.2∧t.1.length=a.cks.length∧(∀(k:Nat) s,t.1[k]? =some s→RunOf a k s)∧∀y,y 4=0→(Sol y t.2↔Tru a cnt t.1 y):=by
 unfold casesL at ht
 split at ht
 ·rename_i hc
  obtain⟨c1,c2,_,c4⟩:=(clos_spec (by decide) (by decide) (freeL_in r)).1 hc
  obtain⟨h1,suf,h2,h3,h4,h5⟩:=moreL_sound r (by simp) c2 c1 ht
  rw[List.nil_append] at h2
  subst h2
  simp only[List.length_nil,Nat.zero_add] at h4 h5
  refine⟨h1,h3,h4,fun y hy=>?_⟩
  rw[h5 y,←c4 y]
  constructor
  ·rintro⟨q1,q2⟩
   have q3:=(Sol_free r hy).1 q1
   exact⟨h3,h4,hy,q3.1,q3.2,(Tru.ok r h3 h4 hy q3.1).2 q2⟩
  ·intro q
   exact⟨(Sol_free r hy).2 ⟨q.mins,q.gaps⟩,(Tru.ok r h3 h4 hy q.mins).1 q.rds⟩
 ·cases ht
theorem cases_full {a:At}(r:Right a){cnt:Nat→Bool}{runs:Runs}{y:Nat→Int}(h:Tru a cnt runs y):∃L,(runs,L)∈casesL a cnt:=by
 have hf:=(Sol_free r h.beg).2 ⟨h.mins,h.gaps⟩
 have hcs:=clos_spec (by decide) (by decide) (freeL_in r)
 have hc:(clos (freeL a)).2=true:=by
  cases hh:(clos (freeL a)).2 with
  |true=>rfl
  |false=>exact absurd hf (hcs.2 hh y)
 obtain⟨c1,c2,_,c4⟩:=hcs.1 hc
 have:=moreL_full r (cnt:=cnt) (y:=y) (n:=a.cks.length) (runs:=[]) (suf:=runs) (by simp) c2 h.len (fun j s hs=>by simpa using h.run j s hs) ((c4 y).1 hf) (fun j s hs=>by simpa using(Tru.ok r h.len h.run h.beg h.mins).1 h.rds j s hs)
 unfold casesL
 rw[if_pos hc]
 simpa using this
end Go.Ab.Tryz
