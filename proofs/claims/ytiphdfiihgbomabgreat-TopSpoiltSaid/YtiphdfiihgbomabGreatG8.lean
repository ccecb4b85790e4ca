/- Looms: all ways. Looms: spots of a break; which sights it explains. Looms: the breaks of a part. Looms: a loop over the breaks of a part. Looms: tables of ways. Looms: one break more, at one set. Looms: one break more. Looms: one part more. -/
import Derived.Test.YtiphdfiihgbomabGreatG7
set_option linter.unusedSimpArgs false
set_option linter.unusedVariables false
namespace Go.Ab.Tryz
def orI (k:IntKind)(a b:Int):Int:=k.wrap (BitVec.ofInt k.bits a|||BitVec.ofInt k.bits b).toNat
theorem q_ar_or (k:IntKind)(a b:Int):q_ar .or (.int k a) (.int k b)=some (.int k (orI k a b)):=by simp[q_ar,arith,orV,vi,orI]
theorem orI_nat {a b:Nat}(ha:a<1024)(hb:b<1024):orI .i64 (a:Int) (b:Int)=((a|||b:Nat):Int):=by
 have hab:a|||b<1024:=Nat.or_lt_two_pow (n:=10) ha hb
 have h:(BitVec.ofInt IntKind.i64.bits (a:Int)|||BitVec.ofInt IntKind.i64.bits (b:Int)).toNat=a|||b:=by
  rw[BitVec.ofInt_natCast,BitVec.ofInt_natCast,BitVec.toNat_or,BitVec.toNat_ofNat,BitVec.toNat_ofNat,Nat.mod_eq_of_lt (Nat.lt_of_lt_of_le ha (by decide)),Nat.mod_eq_of_lt (Nat.lt_of_lt_of_le hb (by decide))]
 unfold orI
 rw[h,←wr_eq,wr_in (by omega) (by omega)]
theorem shl_nat {k:Nat}(hk:k<10):q_sh .shl (.int .i64 1) (.int .i64 (k:Int))=some (.int .i64 ((2^k:Nat):Int)):=by
 have:∀k:Fin 10,q_sh .shl (.int .i64 1) (.int .i64 ((k.val:Nat):Int))=some (.int .i64 ((2^k.val:Nat):Int)):=by
  intro k
  rcases k with⟨k,hk⟩
  match k,hk with
  |0,_=>rfl
  |1,_=>rfl
  |2,_=>rfl
  |3,_=>rfl
  |4,_=>rfl
  |5,_=>rfl
  |6,_=>rfl
  |7,_=>rfl
  |8,_=>rfl
  |9,_=>rfl
 exact this ⟨k,hk⟩
def encSp (s:Nat × Nat):List V:=[.int .i64 (s.1:Int),.int .i64 (s.2:Int)]
def spL (p f:Nat)(m:Nat):List (Nat × Nat):=(List.range m).map fun i=>(p,f+i)
theorem spL_len (p f m:Nat):(spL p f m).length=m:=by simp[spL]
theorem spL_succ (p f m:Nat):spL p f (m+1)=spL p f m++[(p,f+m)]:=by simp[spL,List.range_succ]
set_option maxHeartbeats 4000000 in
theorem spots_ev {h:H}(hw:h.wf){P S:V}{n t:Nat}{ps:List (V × Bool)}{ss:List St}(a:LmAt h P S n t ps ss){p f e:Nat}(hp:p<n)(hfe:f≤e)(he:e≤12)(Q:V→H→Prop)
  (q:∀X h',h.Sub h'→SlAt h' X 2 ((spL p f (e+1-f)).map encSp)→Q X h'):Ev fnG fastA (.fn 101 [] []) [.agg (lmV n t P S),.agg [.int .i64 (p:Int),.int .i64 (f:Int),.int .i64 (e:Int)]] h Q:=by
 have p1:=a.p.one
 have s1:=a.s.one
 have hip:p<ps.length:=by rw[a.len];exact hp
 refine Ev_body (fd:=c101) rfl rfl rfl ?_
 have sA:=((H.Sub.refl hw).add (.cells .rw (lmV n t P S))).add (.cells .rw [.int .i64 (p:Int),.int .i64 (f:Int),.int .i64 (e:Int)])
 have e1:(h.add (.cells .rw (lmV n t P S))).next=h.next+1:=H.next_add _ _
 have g2:((h.add (.cells .rw (lmV n t P S))).add (.cells .rw [.int .i64 (p:Int),.int .i64 (f:Int),.int .i64 (e:Int)])).cells h.next=some (lmV n t P S):=by rw[cells_add_old (by omega)];exact cells_add_new rfl
 have g3:((h.add (.cells .rw (lmV n t P S))).add (.cells .rw [.int .i64 (p:Int),.int .i64 (f:Int),.int .i64 (e:Int)])).cells (h.next+1)=some [.int .i64 (p:Int),.int .i64 (f:Int),.int .i64 (e:Int)]:=cells_add_new e1.symm
 obtain⟨b,o,c,cs,_,hc,hq,hg,_,_⟩:=a.p.at hip
 have hx:=a.r p hip
 obtain⟨⟨x,wv⟩,hxx⟩:∃y,ps[p]=y:=⟨_,rfl⟩
 rw[hxx] at hg hx
 simp only[encPt] at hg
 have x1:=hx.one
 have lx:q_len x=some (.int .i64 1):=hx.lenE
 have hcA:=sA.cells hc
 simp -implicitDefEqProofs(maxSteps:=999999)(disch:=first|with_reducible rfl|omega|(simp only[nA,nS,nD]<;>omega)|fail)only[c101,go_sem,p1,s1,cells_one p1,cells_one s1,hq (nat_cst p),hc,hg,x1,cells_one x1,lx]
 have eA:((h.add (.cells .rw (lmV n t P S))).add (.cells .rw [.int .i64 (p:Int),.int .i64 (f:Int),.int .i64 (e:Int)])).next=h.next+2:=by simp only[H.next_add]
 generalize H.add (H.add h _) _=hA at sA g2 g3 eA hcA⊢
 have sB:=sA.add (.cells .rw [x,.int .i64 1,.int .i64 0,.bool wv])
 have sAB:=(H.Sub.refl sA.wf).add (.cells .rw [x,.int .i64 1,.int .i64 0,.bool wv])
 have g6:(hA.add (.cells .rw [x,.int .i64 1,.int .i64 0,.bool wv])).cells hA.next=some [x,.int .i64 1,.int .i64 0,.bool wv]:=cells_add_new rfl
 have g3B:=sAB.cells g3
 simp -implicitDefEqProofs(maxSteps:=999999)(disch:=first|with_reducible rfl|omega|(simp only[nA,nS,nD]<;>omega)|fail)only[go_sem,hcA,hg,x1,cells_one x1]
 generalize H.add hA _=hB at sB sAB g6 g3B⊢
 rw[eA] at g6
 simp only[eA,Nat.add_assoc,Nat.reduceAdd]
 clear sAB
 have ff:∀u:Nat,((u:Int)).tmod 1=0:=fun u=>Int.tmod_one _
 have n1:¬(1:Int)=0:=by decide
 simp -implicitDefEqProofs(maxSteps:=999999)(disch:=first|with_reducible rfl|omega|(simp only[nA,nS,nD]<;>omega)|fail)only[go_sem,g6,lx]
 refine W_count 1 (fun i s'=>∃(tm:Go.Ab.T V) (h':H) (X:V),s'=⟨tm,h',[]⟩∧OwnSl hB h' X 2 ((if i=0 then[] else spL p f (e+1-f)).map encSp)∧(Opd.t 3).ev tm=.ptr (h.next+1) 0∧(Opd.t 5).ev tm=X∧(Opd.t 6).ev tm=.ptr (h.next+2) 0∧(Opd.t 17).ev tm=x∧(Opd.t 18).ev tm=.int .i64 1∧(Opd.t 19).ev tm=.int .i64 (i:Int)) ?_ ?_ (i:=0) (Nat.zero_le _)
  ⟨_,_,.nils,rfl,OwnSl.nil (H.Sub.refl sB.wf) 2,(by simp[ev_c,ev_put]<;>rfl),(by simp[ev_c,ev_put]<;>rfl),(by simp[ev_c,ev_put]<;>rfl),(by simp[ev_c,ev_put]<;>rfl),(by simp[ev_c,ev_put]<;>rfl),(by simp only[ev_put];rfl)⟩
 ·rintro i s' hi ⟨tm,h',X,rfl,oX,t3,t5,t6,t17,t18,t19⟩
  obtain rfl:i=0:=by omega
  replace t19:(Opd.t 19).ev tm=.int .i64 0:=t19
  obtain⟨bx,ox,cx,csx,_,hcx,hqx,_,_,hnx⟩:=(hx.mono (sB.trans oX.1)).at (k:=0) (by simp)
  have vx:nth ox csx=some (.int .i64 (p:Int)):=by
   have:=hnx (by omega)
   rw[Nat.zero_mul,Nat.add_zero] at this;exact this
  have hqx0:q_iad 1 x (.int .i64 0)=some (.ptr bx ox):=by
   have:=hqx (nat_cst 0)
   rw[Nat.zero_mul,Nat.add_zero] at this;exact this
  simp -implicitDefEqProofs(maxSteps:=999999)(disch:=first|with_reducible rfl|omega|(simp only[nA,nS,nD]<;>omega)|fail)only[go_sem,t3,t5,t6,t17,t18,t19,show(0:Int)<1 by decide,hqx0,hcx,vx,oX.1.cells g3B]
  refine W_count (e+1-f) (fun j s'=>∃(tm:Go.Ab.T V) (h':H) (X:V),s'=⟨tm,h',[]⟩∧OwnSl hB h' X 2 ((spL p f j).map encSp)∧(Opd.t 3).ev tm=.ptr (h.next+1) 0∧(Opd.t 5).ev tm=X∧(Opd.t 6).ev tm=.ptr (h.next+2) 0∧(Opd.t 8).ev tm=.int .i64 (p:Int)∧(Opd.t 9).ev tm=.int .i64 ((f+j:Nat):Int)∧(Opd.t 17).ev tm=x∧(Opd.t 18).ev tm=.int .i64 1∧(Opd.t 19).ev tm=.int .i64 0) ?_ ?_ (i:=0) (Nat.zero_le _)
   ⟨_,_,X,rfl,oX,(by simp[ev_c,ev_put,t3]<;>rfl),(by simp[ev_c,ev_put,t5]<;>rfl),(by simp[ev_c,ev_put,t6]<;>rfl),(by simp[ev_c,ev_put]<;>rfl),(by simp[ev_c,ev_put]<;>rfl),(by simp[ev_c,ev_put,t17]<;>rfl),(by simp[ev_c,ev_put,t18]<;>rfl),(by simp[ev_c,ev_put,t19]<;>rfl)⟩<;>clear t3 t5 t6 t17 t18 t19
  ·rintro j s' hj ⟨tm,h2,Y,rfl,oY,t3,t5,t6,t8,t9,t17,t18,t19⟩
   have hle:((f+j:Nat):Int)≤(e:Int):=by omega
   have sC:=(H.Sub.refl oY.1.wf).add (.cells .rw [.int .i64 (p:Int),.int .i64 ((f+j:Nat):Int)])
   have g32:=oY.1.cells g3B
   have g62:=oY.1.cells g6
   simp -implicitDefEqProofs(maxSteps:=999999)(disch:=first|with_reducible rfl|omega|(simp only[nA,nS,nD]<;>omega)|fail)only[go_sem,t3,t5,t6,t8,t9,g32,g62,hle,q_ar_rem .i64 n1,ff]
   have ay:SlAt (h2.add (.cells .rw [.int .i64 (p:Int),.int .i64 ((f+j:Nat):Int)])) (.sl h2.next 0 1 (.fix 1)) 2 [encSp (p,f+j)]:=SlAt.new _ rfl rfl rfl (by simp[encSp]) (by simp)
   refine(oY.mono sC).app1 (by_:=16) (r:=encSp (p,f+j)) sB.wf rfl (by omega) ay rfl (by rw[List.length_map,spL_len];omega) (by rw[List.length_map,spL_len];omega) fun hD oD kD nD=>?_
   rw[H.next_add] at oD
   simp -implicitDefEqProofs(maxSteps:=999999)(disch:=first|with_reducible rfl|omega|(simp only[nA,nS,nD]<;>omega)|fail)only[go_sem,t9,wr_succ]
   exact⟨_,_,_,rfl,by rw[spL_succ,List.map_append];exact oD,(by simp[ev_c,ev_put,t3]<;>rfl),(by simp[ev_c,ev_put]<;>rfl),(by simp[ev_c,ev_put,t6]<;>rfl),(by simp[ev_c,ev_put,t8]<;>rfl),(by simp[ev_c,ev_put]<;>rfl),(by simp[ev_c,ev_put,t17]<;>rfl),(by simp[ev_c,ev_put,t18]<;>rfl),(by simp[ev_c,ev_put,t19]<;>rfl)⟩
  ·rintro s' ⟨tm,h2,Y,rfl,oY,t3,t5,t6,t8,t9,t17,t18,t19⟩
   have hle:¬((f+(e+1-f):Nat):Int)≤(e:Int):=by omega
   simp -implicitDefEqProofs(maxSteps:=999999)(disch:=first|with_reducible rfl|omega|(simp only[nA,nS,nD]<;>omega)|fail)only[go_sem,t3,t6,t9,oY.1.cells g3B,hle,t19,wr_succ]
   exact⟨_,_,Y,rfl,oY,(by simp[ev_c,ev_put,t3]<;>rfl),(by simp[ev_c,ev_put,t5]<;>rfl),(by simp[ev_c,ev_put,t6]<;>rfl),(by simp[ev_c,ev_put,t17]<;>rfl),(by simp[ev_c,ev_put,t18]<;>rfl),(by simp only[ev_put];rfl)⟩
 ·rintro s' ⟨tm,h',X,rfl,oX,t3,t5,t6,t17,t18,t19⟩
  replace t19:(Opd.t 19).ev tm=.int .i64 1:=t19
  simp -implicitDefEqProofs(maxSteps:=999999)(disch:=first|with_reducible rfl|omega|(simp only[nA,nS,nD]<;>omega)|fail)only[go_sem,t5,t18,t19,Int.lt_irrefl]
  exact q _ _ (sB.trans oX.1) (oX.sl (by rw[List.length_map];simp only[Nat.one_ne_zero,if_false,spL_len];omega))
def hitS (s:St)(x:Nat × Nat):Bool:=decide (x.1=s.r)&&decide (s.lo≤x.2∧x.2≤s.hi)
theorem has_pure {h:H}(s:St)(x:Nat × Nat):PureA h (.fn 102 [.agg (encSt s)] []) [.agg (encSp x)] (.bool (hitS s x)):=by
 refine fun h1 sh=>?_
 have hw1:=sh.wf
 obtain⟨x1,x2⟩:=x
 have fq:=q_feq_map (n:=2) [(x1:Int),(x2:Int)] [(s.r:Int),(x2:Int)] rfl rfl false
 have sA:=((H.Sub.refl hw1).add (.cells .rw (encSt s))).add (.cells .rw (encSp (x1,x2)))
 rw[Ev_fn]
 simp only[appN]
 refine Ev_body (fd:=c102) rfl rfl rfl ?_
 simp only[encSt,encSp,List.map_cons,List.map_nil,iv] at fq sA⊢
 by_cases hr:x1=s.r
 ·have hd:decide ([(x1:Int),(x2:Int)]=[(s.r:Int),(x2:Int)])=true:=decide_eq_true (by rw[hr])
  have hh:hitS s (x1,x2)=inB (x2:Int) (s.lo:Int) (s.hi:Int):=by
   simp only[hitS,hr,decide_true,Bool.true_and,inB]
   exact decide_eq_decide.2 ⟨fun h=>⟨by omega,by omega⟩,fun h=>⟨by omega,by omega⟩⟩
  rw[hd] at fq
  rw[hh]
  simp -implicitDefEqProofs(maxSteps:=999999)(disch:=first|with_reducible rfl|omega|(simp only[nA,nS,nD]<;>omega)|fail)only[c102,go_sem,fq,ngB,fin_ev]
  exact sA
 ·have hd:decide ([(x1:Int),(x2:Int)]=[(s.r:Int),(x2:Int)])=false:=decide_eq_false fun e=>hr (by injection e with e1 _;omega)
  have hh:hitS s (x1,x2)=false:=by simp[hitS,hr]
  rw[hd] at fq
  rw[hh]
  simp -implicitDefEqProofs(maxSteps:=999999)(disch:=first|with_reducible rfl|omega|(simp only[nA,nS,nD]<;>omega)|fail)only[c102,go_sem,fq,ngB]
  exact sA
end Go.Ab.Tryz
namespace Go.Ab.Tryz
theorem f12_feq:q_feq false 2012 (.agg f12) (.agg f12)=some (.bool true):=rfl
theorem f12_at {n p:Nat}(hp:p<n):getN (p*12) 12 (repN n f12)=some f12:=by
 have h:=getRow (enc:=fun _:Nat=>f12) (sz:=12) (fun _=>rfl) (l:=List.replicate n 0) (k:=p) (by rw[List.length_replicate];exact hp)
 rw[List.map_replicate,←repN_flat] at h
 exact h
def hitK (ss:List St)(p f e k:Nat):Bool:=(ss[k]?).any fun s=>(spL p f (e+1-f)).any (hitS s)
def mkN (ss:List St)(p f e:Nat):Nat→Nat
 |0=>0
 |k+1=>if hitK ss p f e k then mkN ss p f e k|||2^k else mkN ss p f e k
theorem mkN_lt (ss:List St)(p f e:Nat):∀k,mkN ss p f e k<2^k
 |0=>by simp[mkN]
 |k+1=>by
  have ih:=mkN_lt ss p f e k
  have h2:(2:Nat)^k<2^(k+1):=Nat.pow_lt_pow_right (by omega) (by omega)
  unfold mkN
  split
  ·exact Nat.or_lt_two_pow (by omega) h2
  ·omega
theorem mkN_bd (ss:List St)(p f e:Nat){k:Nat}(hk:k≤10):mkN ss p f e k<1024:=Nat.lt_of_lt_of_le (mkN_lt ss p f e k) (Nat.pow_le_pow_right (by omega) hk:2^k≤2^10)
theorem breaks_ev {h:H}(hw:h.wf){d:Nat}{P S B:V}{bO n t:Nat}{ps:List (V × Bool)}{ss:List St}(fd:Fd h d P S B bO n t ps ss){p:Nat}(hp:p<n)(Q:V→H→Prop)
  (q:∀c2 c5 c3 h',h.Sub h'→h.next≤c2∧h.next≤c5∧h.next≤c3→h'.cells c2=some [.ptr d 0]→h'.cells c5=some [.bool true]→h'.cells c3=some [.int .i64 (p:Int)]→Q (.fn 99 [] [.ptr c2 0,.ptr c5 0,.ptr c3 0]) h'):
  Ev fnG fastA (.fn 95 [] []) [.ptr d 0,.int .i64 (p:Int)] h Q:=by
 have hpb:Nat.blt p n=true:=by rw[Nat.blt_eq];exact hp
 have iq:q_iad 12 (.sl bO 0 n (.fix n)) (.int .i64 (p:Int))=some (.ptr bO (p*12)):=by
  simp only[q_iad,nat_cst,hpb,og_true,Nat.zero_add]
 have gf:=f12_at hp
 have ff:=f12_feq
 simp only[f12] at ff
 have gO:=fd.o
 have gd:=fd.g
 obtain⟨r12,hr12⟩:∃r,repN n f12=r:=⟨_,rfl⟩
 rw[hr12] at gO gf
 simp only[f12] at gf
 have s2:h.Sub (((h.add (.cells .rw [.ptr d 0])).add (.cells .rw [.int .i64 (p:Int)])).add (.cells .rw [.bool true])):=(by repeat(first|assumption|exact H.Sub.refl (by assumption)|refine H.Sub.add ?_ _|refine H.Sub.set ?_ (by first|omega|(simp only[H.next_add,H.next_set,H.next_del]<;>omega)) (by first|omega|(simp only[H.next_add,H.next_set,H.next_del]<;>omega)) (by assumption) _))
 have e1:(h.add (.cells .rw [.ptr d 0])).next=h.next+1:=H.next_add _ _
 have e2:((h.add (.cells .rw [.ptr d 0])).add (.cells .rw [.int .i64 (p:Int)])).next=h.next+2:=by simp only[H.next_add]
 have q1:=q h.next (h.next+2) (h.next+1) _ s2 (by omega) (by rw[cells_add_old (by omega),cells_add_old (by omega)];exact cells_add_new rfl) (cells_add_new e2.symm) (by rw[cells_add_old (by omega)];exact cells_add_new e1.symm)
 refine Ev_body (fd:=c95) rfl rfl rfl ?_
 have sA:h.Sub ((h.add (.cells .rw [.ptr d 0])).add (.cells .rw [.int .i64 (p:Int)])):=((H.Sub.refl hw).add _).add _
 have sB:=sA.add (.cells .rw [.bool false])
 have sB2:=(H.Sub.refl sA.wf).add (.cells .rw [.bool false])
 have gdA:=sA.cells gd
 have gOA:=sA.cells gO
 have g2A:((h.add (.cells .rw [.ptr d 0])).add (.cells .rw [.int .i64 (p:Int)])).cells h.next=some [.ptr d 0]:=by rw[cells_add_old (by omega)];exact cells_add_new rfl
 have g3A:((h.add (.cells .rw [.ptr d 0])).add (.cells .rw [.int .i64 (p:Int)])).cells (h.next+1)=some [.int .i64 (p:Int)]:=cells_add_new e1.symm
 have gdB:=sB.cells gd
 have gOB:=sB.cells gO
 have g2B:=sB2.cells g2A
 have g3B:=sB2.cells g3A
 simp -implicitDefEqProofs(maxSteps:=999999)(disch:=first|with_reducible rfl|omega|(simp only[nA,nS,nD]<;>omega)|fail)only[c95,go_sem,gd,iq,gO,gf,ff,gdA,gOA,gdB,gOB]
 exact q1
end Go.Ab.Tryz
namespace Go.Ab.Tryz
set_option maxHeartbeats 8000000 in
theorem breaks1_gen {y:V}{S':Nat→Prop}{I:Nat→Nat→H→Prop}{d c2 c5 c3 p:Nat}{P S B:V}{bO n t:Nat}{ps:List (V × Bool)}{ss:List St}(k:LmOk n t ss)(hp:p<n)
  (hr:∀(f e:Nat) h,f≤e→e<t→I f e h→Ev fnG fastA y [.agg [.int .i64 (p:Int),.int .i64 (f:Int),.int .i64 (e:Int),.int .i64 (mkN ss p f e ss.length:Int)]] h fun u h'=>u=.bool true∧I f (e+1) h'∧Keeps S' h h')
  (hrow:∀(f:Nat) h,f<t→I f t h→I (f+1) (f+1) h)
  (hmono:∀(f e:Nat) h h',I f e h→h.Sub h'→I f e h')
  (hD:∀(f e:Nat) h,I f e h→h.wf∧Fd h d P S B bO n t ps ss∧h.cells c2=some [.ptr d 0]∧h.cells c5=some [.bool true]∧h.cells c3=some [.int .i64 (p:Int)])
  {h:H} (hS:∀c,S' c→c<h.next) (hI:I 0 0 h):
  Ev fnG fastA (.fn 99 [] []) [y,.ptr c2 0,.ptr c5 0,.ptr c3 0] h fun _ h'=>I t t h':=by
 refine Ev.gen fun Q q=>?_
 have k1:=k.nb;have k2:=k.tb;have k3:=k.kb
 obtain⟨w0,f0,a0,b0,c0⟩:=hD 0 0 h hI
 refine Ev_body (fd:=c99) rfl rfl rfl ?_
 simp -implicitDefEqProofs(maxSteps:=999999)(disch:=first|with_reducible rfl|omega|(simp only[nA,nS,nD]<;>omega)|fail)only[c99,go_sem,a0,f0.g]
 refine W_count t (fun f s=>∃tm h',s=⟨tm,h',[]⟩∧I f f h'∧h.next≤h'.next∧(Opd.t 0).ev tm=y∧(Opd.t 1).ev tm=.ptr c2 0∧(Opd.t 2).ev tm=.ptr c5 0∧(Opd.t 3).ev tm=.ptr c3 0∧(Opd.t 14).ev tm=.int .i64 (t:Int)∧(Opd.t 15).ev tm=.int .i64 (f:Int)) ?_ ?_ (i:=0) (Nat.zero_le _)
  ⟨_,_,rfl,hI,Nat.le_refl _,(by simp[ev_c,ev_put]<;>rfl),(by simp[ev_c,ev_put]<;>rfl),(by simp[ev_c,ev_put]<;>rfl),(by simp[ev_c,ev_put]<;>rfl),(by simp[ev_c,ev_put]<;>rfl),(by simp only[ev_put];rfl)⟩
 ·rintro f s hf ⟨tm,h',rfl,hI',hle,t0,t1,t2,t3,t14,t15⟩
  have hf':(f:Int)<(t:Int):=by omega
  simp -implicitDefEqProofs(maxSteps:=999999)(disch:=first|with_reducible rfl|omega|(simp only[nA,nS,nD]<;>omega)|fail)only[go_sem,t0,t1,t2,t3,t14,t15,hf']
  refine W_count (t-f) (fun j s=>∃tm h2,s=⟨tm,h2,[]⟩∧I f (f+j) h2∧h.next≤h2.next∧(Opd.t 0).ev tm=y∧(Opd.t 1).ev tm=.ptr c2 0∧(Opd.t 2).ev tm=.ptr c5 0∧(Opd.t 3).ev tm=.ptr c3 0∧(Opd.t 5).ev tm=.int .i64 (f:Int)∧(Opd.t 6).ev tm=.int .i64 ((f+j:Nat):Int)∧(Opd.t 14).ev tm=.int .i64 (t:Int)∧(Opd.t 15).ev tm=.int .i64 (f:Int)) ?_ ?_ (i:=0) (Nat.zero_le _)
   ⟨_,_,rfl,hI',hle,(by simp[ev_c,ev_put,t0]<;>rfl),(by simp[ev_c,ev_put,t1]<;>rfl),(by simp[ev_c,ev_put,t2]<;>rfl),(by simp[ev_c,ev_put,t3]<;>rfl),(by simp[ev_c,ev_put]<;>rfl),(by simp[ev_c,ev_put]<;>rfl),(by simp[ev_c,ev_put,t14]<;>rfl),(by simp[ev_c,ev_put,t15]<;>rfl)⟩<;>clear t0 t1 t2 t3 t14 t15
  ·rintro j s hj ⟨tm,h2,rfl,I2,hle2,t0,t1,t2,t3,t5,t6,t14,t15⟩
   obtain⟨e,he⟩:∃e,f+j=e:=⟨_,rfl⟩
   rw[he] at I2 t6
   obtain⟨w2,f2,a2,b2,p2⟩:=hD _ _ h2 I2
   have het:(e:Int)<(t:Int):=by omega
   have fS1:=f2.a.s.one
   have fP1:=f2.a.p.one
   have sC:=(H.Sub.refl w2).add (.cells .rw [.int .i64 (p:Int),.int .i64 (f:Int),.int .i64 (e:Int),.int .i64 0])
   have g7:(h2.add (.cells .rw [.int .i64 (p:Int),.int .i64 (f:Int),.int .i64 (e:Int),.int .i64 0])).get h2.next=some (.cells .rw [.int .i64 (p:Int),.int .i64 (f:Int),.int .i64 (e:Int),.int .i64 0]):=get_add_new rfl
   have I2C:=hmono _ _ _ _ I2 sC
   have lC:=H.next_add h2 (.cells .rw [.int .i64 (p:Int),.int .i64 (f:Int),.int .i64 (e:Int),.int .i64 0])
   simp -implicitDefEqProofs(maxSteps:=999999)(disch:=first|with_reducible rfl|omega|(simp only[nA,nS,nD]<;>omega)|fail)only[go_sem,t0,t1,t2,t3,t5,t6,a2,f2.g,het,b2,p2]
   generalize h2.add _=hC at sC g7 I2C lC⊢
   obtain⟨c7,hc7⟩:∃c,h2.next=c:=⟨_,rfl⟩
   rw[hc7] at g7 lC
   simp only[hc7]
   have fC:=f2.mono sC
   have aC:=sC.cells a2
   have lB:q_len B=some (.int .i64 (ss.length:Int)):=by have:=f2.b.lenE;rwa[upN_len] at this
   simp -implicitDefEqProofs(maxSteps:=999999)(disch:=first|with_reducible rfl|omega|(simp only[nA,nS,nD]<;>omega)|fail)only[go_sem,t0,t1,t2,t3,aC,fC.g,lB]
   refine W_count ss.length (fun i s=>∃tm h3,s=⟨tm,h3,[]⟩∧h2.Sub h3∧h3.get c7=some (.cells .rw [.int .i64 (p:Int),.int .i64 (f:Int),.int .i64 (e:Int),.int .i64 (mkN ss p f e i:Int)])∧(Opd.t 0).ev tm=y∧(Opd.t 1).ev tm=.ptr c2 0∧(Opd.t 2).ev tm=.ptr c5 0∧(Opd.t 3).ev tm=.ptr c3 0∧(Opd.t 5).ev tm=.int .i64 (f:Int)∧(Opd.t 6).ev tm=.int .i64 (e:Int)∧(Opd.t 7).ev tm=.ptr c7 0∧(Opd.t 14).ev tm=.int .i64 (t:Int)∧(Opd.t 15).ev tm=.int .i64 (f:Int)∧(Opd.t 51).ev tm=B∧(Opd.t 52).ev tm=.int .i64 (ss.length:Int)∧(Opd.t 53).ev tm=.int .i64 (i:Int)) ?_ ?_ (i:=0) (Nat.zero_le _)
    ⟨_,_,rfl,sC,g7,(by simp[ev_c,ev_put,t0]<;>rfl),(by simp[ev_c,ev_put,t1]<;>rfl),(by simp[ev_c,ev_put,t2]<;>rfl),(by simp[ev_c,ev_put,t3]<;>rfl),(by simp[ev_c,ev_put,t5]<;>rfl),(by simp[ev_c,ev_put,t6]<;>rfl),(by simp[ev_c,ev_put]<;>rfl),(by simp[ev_c,ev_put,t14]<;>rfl),(by simp[ev_c,ev_put,t15]<;>rfl),(by simp[ev_c,ev_put]<;>rfl),(by simp[ev_c,ev_put]<;>rfl),(by simp only[ev_put];rfl)⟩<;>clear t0 t1 t2 t3 t5 t6 t14 t15
   ·rintro i s hi ⟨tm,h3,rfl,s3,g73,t0,t1,t2,t3,t5,t6,t7,t14,t15,t51,t52,t53⟩
    have hi':(i:Int)<(ss.length:Int):=by omega
    have f3:=f2.mono s3
    have a3:=s3.cells a2
    obtain⟨b,o,c,cs,_,hc,hq,_,_,hn0⟩:=f3.b.at (k:=i) (by rw[upN_len];exact hi)
    have v0:nth (o+i*1) cs=some (.int .i64 (i:Int)):=by rw[hn0 (by omega),upN_at];rfl
    obtain⟨b2',o2,c2',cs2,_,hc2,hq2,hg2,_,_⟩:=f3.a.s.at hi
    simp only[encSt] at hg2
    have l7:=H.lt_next s3.wf g73
    simp -implicitDefEqProofs(maxSteps:=999999)(disch:=first|with_reducible rfl|omega|(simp only[nA,nS,nD]<;>omega)|fail)only[go_sem,t1,t7,t51,t52,t53,hi',hq (nat_cst i),hc,v0,a3,f3.g,fP1,fS1,cells_of g73]
    refine spots_ev s3.wf f3.a hp (by omega) (by omega) _ fun X h4 s4 aX=>?_
    have f4:=f3.mono s4
    have a4:=s4.cells a3
    have g74:=s4.get g73
    have hc4:=s4.cells hc2
    simp -implicitDefEqProofs(maxSteps:=999999)(disch:=first|with_reducible rfl|omega|(simp only[nA,nS,nD]<;>omega)|fail)only[go_sem,t1,t7,a3,a4,f3.g,f4.g,cells_of g73,cells_of g74,hq2 (nat_cst i),hc2,hc4,hg2]
    have hh:hitK ss p f e i=(spL p f (e+1-f)).any (hitS ss[i]):=by
     unfold hitK
     rw[List.getElem?_eq_getElem hi];rfl
    have hpu:∀x∈spL p f (e+1-f),PureA h4 (.fn 102 [.agg (encSt ss[i])] []) [.agg (encSp x)] (.bool (hitS ss[i] x)):=fun x _=>has_pure ss[i] x
    refine(fhasFSpot_ev (p:=hitS ss[i]) s4.wf aX hpu).mono fun u h5 hu=>?_
    obtain⟨rfl,s5⟩:=hu
    rw[←hh]
    have f5:=f4.mono s5
    have a5:=s5.cells a4
    have g75:=s5.get g74
    have hc5:=s5.cells hc4
    have s25:=(s3.trans s4).trans s5
    have mb:=mkN_bd ss p f e (k:=i) (by omega)
    cases hhk:hitK ss p f e i with
    |true=>
     have em:mkN ss p f e (i+1)=mkN ss p f e i|||2^i:=by rw[mkN,if_pos hhk]
     have ho:=orI_nat mb (show 2^i<1024 from Nat.lt_of_lt_of_le (Nat.pow_lt_pow_right (by omega) (show i<10 by omega)) (Nat.le_refl _))
     rw[←em] at ho
     have l75:=s25.wf _ _ g75
     simp -implicitDefEqProofs(maxSteps:=999999)(disch:=first|with_reducible rfl|omega|(simp only[nA,nS,nD]<;>omega)|fail)only[go_sem,t1,t7,t53,a3,a4,a5,f3.g,f4.g,f5.g,cells_of g73,cells_of g74,cells_of g75,hq2 (nat_cst i),hc2,hc4,hc5,hg2,shl_nat (show i<10 by omega),q_ar_or,ho,g75,wr_succ]
     exact⟨_,_,rfl,s25.set (by omega) l75 w2 _,get_set_same rfl,(by simp[ev_c,ev_put,t0]<;>rfl),(by simp[ev_c,ev_put,t1]<;>rfl),(by simp[ev_c,ev_put,t2]<;>rfl),(by simp[ev_c,ev_put,t3]<;>rfl),(by simp[ev_c,ev_put,t5]<;>rfl),(by simp[ev_c,ev_put,t6]<;>rfl),(by simp[ev_c,ev_put,t7]<;>rfl),(by simp[ev_c,ev_put,t14]<;>rfl),(by simp[ev_c,ev_put,t15]<;>rfl),(by simp[ev_c,ev_put,t51]<;>rfl),(by simp[ev_c,ev_put,t52]<;>rfl),(by simp[ev_c,ev_put]<;>rfl)⟩
    |false=>
     have em:mkN ss p f e (i+1)=mkN ss p f e i:=by rw[mkN,if_neg (by rw[hhk];simp)]
     simp -implicitDefEqProofs(maxSteps:=999999)(disch:=first|with_reducible rfl|omega|(simp only[nA,nS,nD]<;>omega)|fail)only[go_sem,t1,t7,t53,a3,a4,a5,f3.g,f4.g,f5.g,cells_of g73,cells_of g74,cells_of g75,hq2 (nat_cst i),hc2,hc4,hc5,hg2,wr_succ]
     exact⟨_,_,rfl,s25,by rw[em];exact g75,(by simp[ev_c,ev_put,t0]<;>rfl),(by simp[ev_c,ev_put,t1]<;>rfl),(by simp[ev_c,ev_put,t2]<;>rfl),(by simp[ev_c,ev_put,t3]<;>rfl),(by simp[ev_c,ev_put,t5]<;>rfl),(by simp[ev_c,ev_put,t6]<;>rfl),(by simp[ev_c,ev_put,t7]<;>rfl),(by simp[ev_c,ev_put,t14]<;>rfl),(by simp[ev_c,ev_put,t15]<;>rfl),(by simp[ev_c,ev_put,t51]<;>rfl),(by simp[ev_c,ev_put,t52]<;>rfl),(by simp[ev_c,ev_put]<;>rfl)⟩
   ·rintro s ⟨tm,h3,rfl,s3,g73,t0,t1,t2,t3,t5,t6,t7,t14,t15,t51,t52,t53⟩
    simp -implicitDefEqProofs(maxSteps:=999999)(disch:=first|with_reducible rfl|omega|(simp only[nA,nS,nD]<;>omega)|fail)only[go_sem,t0,t7,t52,t53,Int.lt_irrefl,cells_of g73]
    refine(hr f e h3 (by omega) (by omega) (hmono _ _ _ _ I2 s3)).mono fun u h4 hu=>?_
    obtain⟨rfl,I4,k4⟩:=hu
    simp -implicitDefEqProofs(maxSteps:=999999)(disch:=first|with_reducible rfl|omega|(simp only[nA,nS,nD]<;>omega)|fail)only[go_sem,t6,wr_succ]
    exact⟨_,_,rfl,by rw[show f+(j+1)=e+1 by omega];exact I4,by have:=s3.next;have:=k4.1;omega,(by simp[ev_c,ev_put,t0]<;>rfl),(by simp[ev_c,ev_put,t1]<;>rfl),(by simp[ev_c,ev_put,t2]<;>rfl),(by simp[ev_c,ev_put,t3]<;>rfl),(by simp[ev_c,ev_put,t5]<;>rfl),by rw[show f+(j+1)=e+1 by omega];exact(by simp[ev_c,ev_put]<;>rfl),(by simp[ev_c,ev_put,t14]<;>rfl),(by simp[ev_c,ev_put,t15]<;>rfl)⟩
  ·rintro s ⟨tm,h2,rfl,I2,hle2,t0,t1,t2,t3,t5,t6,t14,t15⟩
   rw[show f+(t-f)=t by omega] at I2 t6
   obtain⟨w2,f2,a2,b2,p2⟩:=hD _ _ h2 I2
   simp -implicitDefEqProofs(maxSteps:=999999)(disch:=first|with_reducible rfl|omega|(simp only[nA,nS,nD]<;>omega)|fail)only[go_sem,t0,t1,t2,t3,t6,t14,t15,a2,f2.g,Int.lt_irrefl,wr_succ]
   exact⟨_,_,rfl,hrow f _ hf I2,hle2,(by simp[ev_c,ev_put,t0]<;>rfl),(by simp[ev_c,ev_put,t1]<;>rfl),(by simp[ev_c,ev_put,t2]<;>rfl),(by simp[ev_c,ev_put,t3]<;>rfl),(by simp[ev_c,ev_put,t14]<;>rfl),(by simp[ev_c,ev_put]<;>rfl)⟩
 ·rintro s ⟨tm,h',rfl,hI',hle,t0,t1,t2,t3,t14,t15⟩
  simp -implicitDefEqProofs(maxSteps:=999999)(disch:=first|with_reducible rfl|omega|(simp only[nA,nS,nD]<;>omega)|fail)only[go_sem,t14,t15,Int.lt_irrefl]
  exact q _ _ hI'
end Go.Ab.Tryz
namespace Go.Ab
theorem OwnSl.base' {h0 h1 h:H}{x:V}{sz:Nat}{rows:List (List V)}(a:OwnSl h1 h x sz rows)(hs:h0.Sub h1):OwnSl h0 h x sz rows:=
 ⟨hs.trans a.1,a.2.1,a.2.2.imp id fun⟨b,e,l1,l2,g⟩=>⟨b,e,Nat.le_trans hs.next l1,l2,g⟩⟩
theorem clone_new {h:H}{x:V}{sz by_:Nat}{rows:List (List V)}{Q:V→H→Prop}(hw:h.wf)(hx:SlAt h x sz rows)(h0:0<rows.length)(hl:rows.length*by_≤1000000000)(hl2:rows.length≤1000000000)
  (q:∀b h',h.Sub h'→h.next≤b→h'.get b=some (.cells (.gr sz) rows.flatten)→Q (.sl b 0 rows.length (.slk 0 0)) h'):P2 (e_app' (h.add (.cells .rw [])) sz by_ (.sl h.next 0 0 (.fix 0)) x) Q:=by
 have s1:h.Sub (h.add (.cells .rw [])):=(H.Sub.refl hw).add _
 have hx1:=(hx.mono s1).elems
 obtain⟨k,hk⟩:∃k,rows.length=k+1:=⟨rows.length-1,by omega⟩
 rw[e_app_eq,hx1.1,hx1.2]
 simp only[ob_some]
 rw[hk,e_app_full (by omega) (elems_0 _ _ _ _ _) (by rw[hk] at hl;simp only[Nat.zero_add];omega) (by omega),grown_eq,P2_some]
 have:=q (h.next+1) ((h.add (.cells .rw [])).add (.cells (.gr sz) rows.flatten)) (s1.add _) (by omega) (get_add_new (by rw[H.next_add]))
 rw[hk] at this
 simpa[H.next_add] using this
end Go.Ab
namespace Go.Ab.Tryz
theorem fcloneBreak_ev {h0 h:H}{x:V}{rows:List (List V)}(o:OwnSl h0 h x 3 rows)(hn:rows=[]→x=.nils)(hl:rows.length≤1000)(Q:V→H→Prop)(q:∀v h',OwnSl h h' v 3 rows→Q v h'):Ev fnG fastA (.fn 96 [] []) [x] h Q:=by
 have hw:=o.1.wf
 refine Ev_body (fd:=c96) rfl rfl rfl ?_
 by_cases hz:rows=[]
 ·have e:=hn hz
  subst e;subst hz
  simp -implicitDefEqProofs(maxSteps:=999999)(disch:=first|with_reducible rfl|omega|(simp only[nA,nS,nD]<;>omega)|fail)only[c96,go_sem]
  exact q _ _ (OwnSl.nil (H.Sub.refl hw) 3)
 ·have hp:0<rows.length:=List.length_pos_iff.2 hz
  rcases o.2.2 with⟨rfl,e⟩|⟨b,rfl,l1,l2,g⟩
  ·exact absurd e hz
  ·simp -implicitDefEqProofs(maxSteps:=999999)(disch:=first|with_reducible rfl|omega|(simp only[nA,nS,nD]<;>omega)|fail)only[c96,go_sem]
   refine clone_new hw (o.sl (by omega)) hp (by omega) (by omega) fun b' h' s' l' g'=>?_
   simp -implicitDefEqProofs(maxSteps:=999999)(disch:=first|with_reducible rfl|omega|(simp only[nA,nS,nD]<;>omega)|fail)only[go_sem]
   exact q _ _ ⟨s',o.2.1,.inr ⟨b',rfl,l',s'.wf _ _ g',g'⟩⟩
theorem fcloneWay_ev {h:H}{x:V}{rows:List (List V)}(hw:h.wf)(hx:SlAt h x 2 rows)(h0:0<rows.length)(hl:rows.length≤100000)(Q:V→H→Prop)(q:∀b h',h.Sub h'→h.next≤b→h'.get b=some (.cells (.gr 2) rows.flatten)→Q (.sl b 0 rows.length (.slk 0 0)) h'):Ev fnG fastA (.fn 94 [] []) [x] h Q:=by
 refine Ev_body (fd:=c94) rfl rfl rfl ?_
 rcases hx.2.2 with⟨rfl,e⟩|⟨b,o,c,cs,rfl,_⟩
 ·rw[e] at h0;simp at h0
 ·simp -implicitDefEqProofs(maxSteps:=999999)(disch:=first|with_reducible rfl|omega|(simp only[nA,nS,nD]<;>omega)|fail)only[c94,go_sem]
  refine clone_new hw hx h0 (by omega) (by omega) fun b' h' s' l' g'=>?_
  simp -implicitDefEqProofs(maxSteps:=999999)(disch:=first|with_reducible rfl|omega|(simp only[nA,nS,nD]<;>omega)|fail)only[go_sem]
  exact q _ _ s' l' g'
def encY (e:Int × V):List V:=[.int .i64 e.1,e.2]
structure Wy (h0 h:H)(b:Nat)(x:V)(N m:Nat)(M:Int)(wl:List (Int × V)):Prop where
 v:(x=.sl b 0 N (.fix N)∧h.get b=some (.cells .rw (wl.map encY).flatten))∨(x=.sl b 0 N (.slk 0 0)∧h.get b=some (.cells (.gr 2) (wl.map encY).flatten))
 lo:h0.next≤b
 len:wl.length=N
 br:∀e∈wl,∃rows:List (List V),rows.length≤m∧OwnSl h0 h e.2 3 rows∧(rows=[]→e.2=.nils)
 mb:∀e∈wl,0≤e.1∧e.1≤M
theorem Wy.g {h0 h:H}{b:Nat}{x:V}{N m:Nat}{M:Int}{wl:List (Int × V)}(w:Wy h0 h b x N m M wl):h.cells b=some (wl.map encY).flatten:=by
 rcases w.v with⟨_,g⟩|⟨_,g⟩<;>exact cells_of g
theorem Wy.lt {h0 h:H}{b:Nat}{x:V}{N m:Nat}{M:Int}{wl:List (Int × V)}(w:Wy h0 h b x N m M wl)(hw:h.wf):b<h.next:=by
 rcases w.v with⟨_,g⟩|⟨_,g⟩<;>exact hw _ _ g
theorem Wy.x1 {h0 h:H}{b:Nat}{x:V}{N m:Nat}{M:Int}{wl:List (Int × V)}(w:Wy h0 h b x N m M wl):x.one=true∧x.cells=[x]∧q_len x=some (.int .i64 (N:Int)):=by
 rcases w.v with⟨rfl,_⟩|⟨rfl,_⟩<;>exact⟨rfl,rfl,rfl⟩
theorem Wy.iad {h0 h:H}{b:Nat}{x:V}{N m:Nat}{M:Int}{wl:List (Int × V)}(w:Wy h0 h b x N m M wl){i:Nat}(hi:i<N):q_iad 2 x (.int .i64 (i:Int))=some (.ptr b (i*2)):=by
 have hb:Nat.blt i N=true:=by rw[Nat.blt_eq];exact hi
 rcases w.v with⟨rfl,_⟩|⟨rfl,_⟩<;>simp only[q_iad,nat_cst,hb,og_true,Nat.zero_add]
theorem Wy.sl {h0 h:H}{b:Nat}{x:V}{N m:Nat}{M:Int}{wl:List (Int × V)}(w:Wy h0 h b x N m M wl)(hN:N≤100000):SlAt h x 2 (wl.map encY):=by
 have hz:∀r∈wl.map encY,r.length=2:=fun r hr=>by obtain⟨y,_,rfl⟩:=List.mem_map.1 hr;rfl
 have hln:(wl.map encY).length=N:=by rw[List.length_map,w.len]
 have hg:getN 0 ((wl.map encY).length*2) (wl.map encY).flatten=some (wl.map encY).flatten:=getN_full (flatten_len hz)
 rcases w.v with⟨rfl,g⟩|⟨rfl,g⟩
 ·exact⟨hz,by omega,.inr ⟨b,0,_,_,by rw[hln],.inr (cells_of g),hg⟩⟩
 ·exact⟨hz,by omega,.inr ⟨b,0,_,_,by rw[hln],.inr (cells_of g),hg⟩⟩
theorem Wy.keep {h0 h h':H}{b:Nat}{x:V}{N m:Nat}{M:Int}{wl:List (Int × V)}{S:Nat→Prop}(w:Wy h0 h b x N m M wl)(k:Keeps S h h')(s:h0.Sub h')(n:¬S b)(n2:∀c cs,S c→h.get c≠some (.cells (.gr 3) cs)):Wy h0 h' b x N m M wl:=
 ⟨w.v.imp (fun⟨e,g⟩=>⟨e,k.2 _ _ g n⟩) fun⟨e,g⟩=>⟨e,k.2 _ _ g n⟩,w.lo,w.len,fun e he=>by
  obtain⟨rows,l,o,z⟩:=w.br e he
  exact⟨rows,l,o.keep k s fun c hc hs=>n2 c _ hs (o.blk hc).2.2,z⟩,w.mb⟩
theorem Wy.mono {h0 h h':H}{b:Nat}{x:V}{N m:Nat}{M:Int}{wl:List (Int × V)}(w:Wy h0 h b x N m M wl)(s:h.Sub h')(s0:h0.Sub h):Wy h0 h' b x N m M wl:=w.keep (Keeps.of s fun _=>False) (s0.trans s) (fun h=>h) fun _ _ h=>h.elim
theorem Wy.put {h0 h:H}{b:Nat}{x:V}{N m:Nat}{L L':Int}{nl:List (Int × V)}(w:Wy h0 h b x N m L nl)(hw0:h0.wf)(s0:h0.Sub h){k:Nat}(hk:k<N){e':Int × V}(he:0≤e'.1∧e'.1≤L')(hl:L≤L')(br:∃rows:List (List V),rows.length≤m∧OwnSl h0 h e'.2 3 rows∧(rows=[]→e'.2=.nils))
  {kd:Kd} {cs:List V} (g:h.get b=some (.cells kd cs)):h0.Sub (h.set b (.cells kd ((nl.set k e').map encY).flatten))∧Keeps (fun c=>c=b) h (h.set b (.cells kd ((nl.set k e').map encY).flatten))∧Wy h0 (h.set b (.cells kd ((nl.set k e').map encY).flatten)) b x N m L' (nl.set k e'):=by
 have lt:=s0.wf _ _ g
 have s1:h0.Sub (h.set b (.cells kd ((nl.set k e').map encY).flatten)):=s0.set w.lo lt hw0 _
 have kk:Keeps (fun c=>c=b) h (h.set b (.cells kd ((nl.set k e').map encY).flatten)):=Keeps.set _ _ _
 have gg:(h.set b (.cells kd ((nl.set k e').map encY).flatten)).get b=some (.cells kd ((nl.set k e').map encY).flatten):=get_set_same rfl
 have n3:∀cs',h.get b≠some (.cells (.gr 3) cs'):=fun cs' e=>by
  rcases w.v with⟨_,g'⟩|⟨_,g'⟩<;>rw[g'] at e<;>cases e
 have keepR:∀(v:V) (rows:List (List V)),OwnSl h0 h v 3 rows→OwnSl h0 (h.set b (.cells kd ((nl.set k e').map encY).flatten)) v 3 rows:=fun v rows o=>
  o.keep kk s1 fun c hc hs=>n3 _ (hs▸(o.blk hc).2.2)
 refine⟨s1,kk,?_,w.lo,by rw[List.length_set];exact w.len,fun e he'=>?_,fun e he'=>?_⟩
 ·rcases w.v with⟨ex,g'⟩|⟨ex,g'⟩
  ·rw[g] at g';cases g'
   exact .inl ⟨ex,gg⟩
  ·rw[g] at g';cases g'
   exact .inr ⟨ex,gg⟩
 ·rcases List.mem_or_eq_of_mem_set he' with h1|rfl
  ·obtain⟨rows,l,o,z⟩:=w.br e h1
   exact⟨rows,l,keepR _ _ o,z⟩
  ·obtain⟨rows,l,o,z⟩:=br
   exact⟨rows,l,keepR _ _ o,z⟩
 ·rcases List.mem_or_eq_of_mem_set he' with h1|rfl
  ·have:=w.mb e h1;omega
  ·exact he
theorem getD_setY {nl:List (Int × V)}{k j:Nat}(hk:k<nl.length)(e':Int × V):(nl.set k e').getD j (0,.nils)=if j=k then e' else nl.getD j (0,.nils):=by
 rw[List.getD_eq_getElem?_getD,List.getElem?_set]
 by_cases e:j=k
 ·subst e;simp[hk]
 ·rw[if_neg (fun h=>e h.symm),if_neg e,List.getD_eq_getElem?_getD]
end Go.Ab.Tryz
namespace Go.Ab.Tryz
def navF:List Bool→C→C
 |[],c=>c
 |b::p,.seq x y=>match b with|true=>navF p y|false=>navF p x
 |b::p,.cond _ x y=>match b with|true=>navF p y|false=>navF p x
 |_::p,.block _ x=>navF p x
 |_::p,.loop x=>navF p x
 |_::p,.scope x=>navF p x
 |_::p,.rf _ _ _ x=>navF p x
 |_::_,c=>c
structure Tb (c5 c7 c8 c3:Nat)(nowV:V)(N i:Nat)(tm:Go.Ab.T V):Prop where
 t5:(Opd.t 5).ev tm=.ptr c5 0
 t7:(Opd.t 7).ev tm=.ptr c7 0
 t8:(Opd.t 8).ev tm=.ptr c8 0
 t3:(Opd.t 3).ev tm=.ptr c3 0
 t42:(Opd.t 42).ev tm=nowV
 t43:(Opd.t 43).ev tm=.int .i64 (N:Int)
 t44:(Opd.t 44).ev tm=.int .i64 (i:Int)
theorem Tb.of {c5 c7 c8 c3 N i:Nat}{nowV:V}{tm tm':Go.Ab.T V}(t:Tb c5 c7 c8 c3 nowV N i tm)(h:∀k,k=3∨k=5∨k=7∨k=8∨k=42∨k=43∨k=44→(Opd.t k).ev tm'=(Opd.t k).ev tm):Tb c5 c7 c8 c3 nowV N i tm':=
 ⟨(h 5 (by omega)).trans t.t5,(h 7 (by omega)).trans t.t7,(h 8 (by omega)).trans t.t8,(h 3 (by omega)).trans t.t3,(h 42 (by omega)).trans t.t42,(h 43 (by omega)).trans t.t43,(h 44 (by omega)).trans t.t44⟩
set_option maxHeartbeats 8000000 in
theorem finW_ev {h0 h:H}(hw0:h0.wf)(s0:h0.Sub h){bN c5 c7 c8 c3 c10 N m i x:Nat}{nowV nextV bs:V}{M L a:Int}{nl:List (Int × V)}(wn:Wy h0 h bN nextV N m L nl)(hx:x<N)(ha:0≤a∧a≤M)(hL:0≤L∧0≤M∧L+M≤4000000000000000000)
  (g10:h.cells c10=some [.int .i64 a,bs]) {tm:Go.Ab.T V} (tb:Tb c5 c7 c8 c3 nowV N i tm) (t10:(Opd.t 10).ev tm=.ptr c10 0) (t11:(Opd.t 11).ev tm=.ptr bN (x*2)) {ro:Option Nat} {df:List Nat}:
  W fnG fastA 98 84 ro (navF [true,true,true,false,true,true,true,true,true,false,true,true,true,false,true,true,true,true,true,true,true,true,true,true,false,true,true,true,true,true] c84.body) ⟨tm,h,df⟩ fun x1 s1=>x1=.nrm∧∃(tm':Go.Ab.T V) (h':H) (ul:List (Int × V)),s1=⟨tm',h',df⟩∧h0.Sub h'∧Keeps (fun c=>c=bN) h h'∧Wy h0 h' bN nextV N m (L+M) ul∧
   (∀j,(ul.getD j (0,.nils)).1=(nl.getD j (0,.nils)).1+if j=x then a else 0)∧Tb c5 c7 c8 c3 nowV N i tm':=by
 have hxl:x<nl.length:=by rw[wn.len];exact hx
 obtain⟨⟨c,cs⟩,hc⟩:∃e,nl[x]=e:=⟨_,rfl⟩
 have hm:=wn.mb _ (List.getElem_mem hxl)
 have hbr:=wn.br _ (List.getElem_mem hxl)
 rw[hc] at hm hbr
 have gr:=getRow (enc:=encY) (sz:=2) (fun _=>rfl) hxl
 rw[hc] at gr
 have n0:nth (x*2) (nl.map encY).flatten=some (.int .i64 c):=nthRow gr (j:=0) (by omega)
 have hput:putN (x*2+0) [.int .i64 (c+a)] (nl.map encY).flatten=some ((nl.set x (c+a,cs)).map encY).flatten:=putCell (enc:=encY) (sz:=2) (j:=0) (fun _=>rfl) hxl (by omega) (by rw[hc];rfl)
 rw[Nat.add_zero] at hput
 have wr1:wr .i64 (c+a)=c+a:=wr_in (by simp only at hm;omega) (by simp only at hm;omega)
 have gN:=wn.g
 have hval:∀j,((nl.set x (c+a,cs)).getD j (0,V.nils)).1=(nl.getD j (0,.nils)).1+if j=x then a else 0:=fun j=>by
  rw[getD_setY hxl]
  by_cases e:j=x
  ·subst e
   rw[if_pos rfl,if_pos rfl,List.getD_eq_getElem?_getD,List.getElem?_eq_getElem hxl,hc];rfl
  ·rw[if_neg e,if_neg e,Int.add_zero]
 simp only[navF,c84]
 rcases wn.v with⟨ex,g⟩|⟨ex,g⟩
 ·obtain⟨p1,p2,p3⟩:=wn.put hw0 s0 hx (e':=(c+a,cs)) (L':=L+M) (by simp only at hm⊢;omega) (by omega) hbr g
  simp -implicitDefEqProofs(maxSteps:=999999)(disch:=first|with_reducible rfl|omega|(simp only[nA,nS,nD]<;>omega)|fail)only[go_sem,t10,t11,gN,n0,g10,wr1,g,hput]
  exact⟨_,_,_,rfl,p1,p2,p3,hval,tb.of fun k hk=>by rcases hk with rfl|rfl|rfl|rfl|rfl|rfl|rfl<;>simp only[ev_put]<;>rfl⟩
 ·obtain⟨p1,p2,p3⟩:=wn.put hw0 s0 hx (e':=(c+a,cs)) (L':=L+M) (by simp only at hm⊢;omega) (by omega) hbr g
  simp -implicitDefEqProofs(maxSteps:=999999)(disch:=first|with_reducible rfl|omega|(simp only[nA,nS,nD]<;>omega)|fail)only[go_sem,t10,t11,gN,n0,g10,wr1,g,hput]
  exact⟨_,_,_,rfl,p1,p2,p3,hval,tb.of fun k hk=>by rcases hk with rfl|rfl|rfl|rfl|rfl|rfl|rfl<;>simp only[ev_put]<;>rfl⟩
set_option maxHeartbeats 8000000 in
theorem stepW_ev {h0 h:H}(hw0:h0.wf)(s0:h0.Sub h){bA bN c5 c7 c8 c3 N m i mk p f e:Nat}{nowV nextV:V}{M L:Int}{wl nl:List (Int × V)}(wa:Wy h0 h bA nowV N m M wl)(wn:Wy h0 h bN nextV N (m+1) L nl)(hm:m≤100)(hN:N≤1024)(nab:bA≠bN)(hi:i<N)(hx:i|||mk<N)(hmk:mk<1024)(hL:0≤L∧0≤M∧L+M≤4000000000000000000)
  (g7:h.get c7=some (.cells .rw [nextV])) (g8:h.get c8=some (.cells .rw [.int .i64 (p:Int),.int .i64 (f:Int),.int .i64 (e:Int),.int .i64 (mk:Int)])) (n7:c7≠bN) (n8:c8≠bN) {tm:Go.Ab.T V} (tb:Tb c5 c7 c8 c3 nowV N i tm) {ro:Option Nat} {df:List Nat}:
  W fnG fastA 98 84 ro (navF [true,true,true,false,true,true,true,true,true,false,true,true,true,false,true,true,true,true,true,true,true,true,true,true,false] c84.body) ⟨tm,h,df⟩ fun x1 s1=>x1=.nrm∧∃(tm':Go.Ab.T V) (h':H) (ul:List (Int × V)),s1=⟨tm',h',df⟩∧h0.Sub h'∧Keeps (fun c=>c=bN) h h'∧Wy h0 h' bN nextV N (m+1) (L+M) ul∧
   (∀j,(ul.getD j (0,.nils)).1=(nl.getD j (0,.nils)).1+if j=i|||mk then(wl.getD i (0,.nils)).1 else 0)∧Tb c5 c7 c8 c3 nowV N i tm':=by
 obtain⟨R,hR⟩:∃R,navF [true,true,true,false,true,true,true,true,true,false,true,true,true,false,true,true,true,true,true,true,true,true,true,true,false,true,true,true,true,true] c84.body=R:=⟨_,rfl⟩
 have hfin:= @finW_ev
 rw[hR] at hfin
 simp only[navF,c84] at hR
 simp only[navF,c84]
 rw[hR]
 clear hR
 have tb0:=tb
 obtain⟨t5,t7,t8,t3,t42,t43,t44⟩:=tb
 have hw:=s0.wf
 have hil:i<wl.length:=by rw[wa.len];exact hi
 obtain⟨x,hxe⟩:∃x,i|||mk=x:=⟨_,rfl⟩
 rw[hxe] at hx⊢
 have hxl:x<nl.length:=by rw[wn.len];exact hx
 obtain⟨⟨a,bs⟩,hab⟩:∃e,wl[i]=e:=⟨_,rfl⟩
 obtain⟨⟨c,cs⟩,hcc⟩:∃e,nl[x]=e:=⟨_,rfl⟩
 have hma:=wa.mb _ (List.getElem_mem hil)
 obtain⟨rows,lr,oR,zR⟩:=wa.br _ (List.getElem_mem hil)
 have hmc:=wn.mb _ (List.getElem_mem hxl)
 obtain⟨rows2,lr2,oR2,zR2⟩:=wn.br _ (List.getElem_mem hxl)
 rw[hab] at hma oR zR
 rw[hcc] at hmc oR2 zR2
 simp only at hma oR zR hmc oR2 zR2
 have hwa:(wl.getD i (0,V.nils)).1=a:=by rw[List.getD_eq_getElem?_getD,List.getElem?_eq_getElem hil,hab];rfl
 rw[hwa]
 have grA:=getRow (enc:=encY) (sz:=2) (fun _=>rfl) hil
 rw[hab] at grA
 simp only[encY] at grA
 have grN:=getRow (enc:=encY) (sz:=2) (fun _=>rfl) hxl
 rw[hcc] at grN
 have nN0:nth (x*2) (nl.map encY).flatten=some (.int .i64 c):=nthRow grN (j:=0) (by omega)
 have nN1:nth (x*2+1) (nl.map encY).flatten=some cs:=nthRow grN (j:=1) (by omega)
 have b1:=(oR.sl (by omega)).one
 have lb:q_len bs=some (.int .i64 (rows.length:Int)):=(oR.sl (by omega)).len
 have lc:q_len cs=some (.int .i64 (rows2.length:Int)):=(oR2.sl (by omega)).len
 have ho:=orI_nat (show i<1024 by omega) hmk
 rw[hxe] at ho
 have iA:=wa.iad hi
 have iN:=wn.iad hx
 have gA:=wa.g
 have sB:=(H.Sub.refl hw).add (.cells .rw [.int .i64 a,bs])
 have g10:(h.add (.cells .rw [.int .i64 a,bs])).get h.next=some (.cells .rw [.int .i64 a,bs]):=get_add_new rfl
 have lN:=wn.lt hw
 have l7:=hw _ _ g7
 have l8:=hw _ _ g8
 simp -implicitDefEqProofs(maxSteps:=999999)(disch:=first|with_reducible rfl|omega|(simp only[nA,nS,nD]<;>omega)|fail)only[go_sem,t42,t44,iA,gA,grA,b1,cells_one b1]
 have wnB:=wn.mono sB s0
 have s0B:=s0.trans sB
 have g7B:=sB.get g7
 have g8B:=sB.get g8
 have oRB:=oR.mono sB
 have lB:=H.next_add h (.cells .rw [.int .i64 a,bs])
 generalize h.add _=hB at sB g10 wnB s0B g7B g8B oRB lB⊢
 obtain⟨c10,hc10⟩:∃c,h.next=c:=⟨_,rfl⟩
 rw[hc10] at g10 lB lN l7 l8⊢
 have kB:∀{S:Nat→Prop},Keeps S h hB:=fun{S}=>Keeps.of sB S
 by_cases ha:a=0
 ·simp -implicitDefEqProofs(maxSteps:=999999)(disch:=first|with_reducible rfl|omega|(simp only[nA,nS,nD]<;>omega)|fail)only[go_sem,cells_of g10,ha]
  refine⟨_,_,nl,rfl,s0B,kB,⟨wnB.v,wnB.lo,wnB.len,wnB.br,fun e he=>by have:=wnB.mb e he;omega⟩,fun j=>by split<;>omega,tb0.of fun k hk=>by rcases hk with rfl|rfl|rfl|rfl|rfl|rfl|rfl<;>simp only[ev_put]<;>rfl⟩
 ·have gNB:=wnB.g
  have wl1:wr .i64 ((rows.length:Int)+1)=(rows.length:Int)+1:=wr_in (by omega) (by omega)
  have endA:∀tm':Go.Ab.T V,(Opd.t 10).ev tm'=.ptr c10 0→(Opd.t 11).ev tm'=.ptr bN (x*2)→Tb c5 c7 c8 c3 nowV N i tm'→W fnG fastA 98 84 ro R ⟨tm',hB,df⟩ fun x1 s1=>x1=.nrm∧∃(tm':Go.Ab.T V) (h':H) (ul:List (Int × V)),s1=⟨tm',h',df⟩∧h0.Sub h'∧Keeps (fun c=>c=bN) h h'∧Wy h0 h' bN nextV N (m+1) (L+M) ul∧
    (∀j,(ul.getD j (0,.nils)).1=(nl.getD j (0,.nils)).1+if j=x then a else 0)∧Tb c5 c7 c8 c3 nowV N i tm':=fun tm' t10 t11 tb'=>by
   refine(hfin hw0 s0B wnB hx hma hL (cells_of g10) tb' t10 t11).mono fun x1 s1 hs=>?_
   obtain⟨rfl,tm2,h2,ul,rfl,q1,q2,q3,q4,q5⟩:=hs
   exact⟨rfl,tm2,h2,ul,rfl,q1,(kB.trans q2).mono fun c hc=>hc.elim id id,q3,q4,q5⟩
  have tbk:∀{tm':Go.Ab.T V},(∀k,k=3∨k=5∨k=7∨k=8∨k=42∨k=43∨k=44→(Opd.t k).ev tm'=(Opd.t k).ev tm)→Tb c5 c7 c8 c3 nowV N i tm':=fun h=>tb0.of h
  by_cases hc0:c=0
  ·simp -implicitDefEqProofs(maxSteps:=999999)(disch:=first|with_reducible rfl|omega|(simp only[nA,nS,nD]<;>omega)|fail)only[go_sem,t7,t8,cells_of g10,ha,cells_of g7B,cells_of g8B,q_ar_or,ho,iN,gNB,nN0,hc0]
   refine fcloneBreak_ev oRB zR (by omega) _ fun v h2 oV=>?_
   have v1:=(oV.sl (by omega)).one
   have g82:=cells_of (oV.1.get g8B)
   have sC:=(H.Sub.refl oV.1.wf).add (.cells .rw [.int .i64 (p:Int),.int .i64 (f:Int),.int .i64 (e:Int)])
   have g83:=sC.cells g82
   have ay:SlAt (h2.add (.cells .rw [.int .i64 (p:Int),.int .i64 (f:Int),.int .i64 (e:Int)])) (.sl h2.next 0 1 (.fix 1)) 3 [[.int .i64 (p:Int),.int .i64 (f:Int),.int .i64 (e:Int)]]:=SlAt.new _ rfl rfl rfl (by simp) (by simp)
   have g102:=cells_of (oV.1.get g10)
   have g103:=sC.cells g102
   simp -implicitDefEqProofs(maxSteps:=999999)(disch:=first|with_reducible rfl|omega|(simp only[nA,nS,nD]<;>omega)|fail)only[go_sem,t8,cells_of g10,g102,g103,cells_of g8B,g82,g83]
   refine(oV.mono sC).app1 (by_:=24) (r:=[.int .i64 (p:Int),.int .i64 (f:Int),.int .i64 (e:Int)]) s0B.wf rfl (by omega) ay rfl (by omega) (by omega) fun h4 oA kA nA=>?_
   have s4:=oA.1
   have wn4:=wnB.mono s4 s0B
   have oA0:=oA.base' s0B
   have g84:=cells_of (s4.get g8B)
   have g104:=s4.get g10
   generalize hY:V.sl (H.next _) 0 _ (.slk 0 0)=Y at oA oA0⊢
   have y1:Y.one=true:=by rw[←hY];rfl
   have yc:Y.cells=[Y]:=by rw[←hY];rfl
   have hput:putN (x*2+1) [Y] (nl.map encY).flatten=some ((nl.set x (c,Y)).map encY).flatten:=putCell (enc:=encY) (sz:=2) (j:=1) (fun _=>rfl) hxl (by omega) (by rw[hcc];rfl)
   have hbr:∃rs:List (List V),rs.length≤m+1∧OwnSl h0 h4 Y 3 rs∧(rs=[]→Y=.nils):=⟨_,by rw[List.length_append];simp;omega,oA0,fun e=>by simp at e⟩
   have endB:∀(kd:Kd) (cs':List V) (tm':Go.Ab.T V),h4.get bN=some (.cells kd cs')→(Opd.t 10).ev tm'=.ptr c10 0→(Opd.t 11).ev tm'=.ptr bN (x*2)→Tb c5 c7 c8 c3 nowV N i tm'→W fnG fastA 98 84 ro R ⟨tm',h4.set bN (.cells kd ((nl.set x (c,Y)).map encY).flatten),df⟩ fun x1 s1=>x1=.nrm∧∃(tm':Go.Ab.T V) (h':H) (ul:List (Int × V)),s1=⟨tm',h',df⟩∧h0.Sub h'∧Keeps (fun c=>c=bN) h h'∧Wy h0 h' bN nextV N (m+1) (L+M) ul∧
     (∀j,(ul.getD j (0,.nils)).1=(nl.getD j (0,.nils)).1+if j=x then a else 0)∧Tb c5 c7 c8 c3 nowV N i tm':=fun kd cs' tm' gk t10 t11 tb'=>by
    obtain⟨p1,p2,p3⟩:=wn4.put hw0 (s0B.trans s4) hx (e':=(c,Y)) (L':=L) (by simp only;omega) (Int.le_refl _) hbr gk
    refine(hfin hw0 p1 p3 hx hma hL (p2.cells (cells_of g104) (by omega)) tb' t10 t11).mono fun x1 s1 hs=>?_
    obtain⟨rfl,tm2,h6,ul,rfl,q1,q2,q3,q4,q5⟩:=hs
    refine⟨rfl,tm2,h6,ul,rfl,q1,(((kB (S:=fun c=>c=bN)).trans (Keeps.of s4 fun c=>c=bN)).trans (p2.trans q2)).mono fun c hc=>hc.elim (fun h=>h.elim id id) fun h=>h.elim id id,q3,fun j=>?_,q5⟩
    rw[q4 j,getD_setY hxl]
    by_cases ej:j=x
    ·subst ej
     have:(nl.getD j (0,V.nils)).1=c:=by rw[List.getD_eq_getElem?_getD,List.getElem?_eq_getElem hxl,hcc];rfl
     rw[if_pos rfl,this]
    ·rw[if_neg ej]
   rcases wn4.v with⟨ex,g⟩|⟨ex,g⟩
   ·simp -implicitDefEqProofs(maxSteps:=999999)(disch:=first|with_reducible rfl|omega|(simp only[nA,nS,nD]<;>omega)|fail)only[go_sem,t8,cells_of g10,g102,g103,cells_of g8B,g82,g83,g84,cells_of g104,y1,yc,g,hput]
    refine(endB _ _ _ g (by simp[ev_c,ev_put]<;>rfl) (by simp[ev_c,ev_put]<;>rfl) (tbk fun k hk=>by rcases hk with rfl|rfl|rfl|rfl|rfl|rfl|rfl<;>simp only[ev_put]<;>rfl)).mono fun x1 s1 hs=>?_
    obtain⟨rfl,hs⟩:=hs
    exact⟨rfl,hs⟩
   ·simp -implicitDefEqProofs(maxSteps:=999999)(disch:=first|with_reducible rfl|omega|(simp only[nA,nS,nD]<;>omega)|fail)only[go_sem,t8,cells_of g10,g102,g103,cells_of g8B,g82,g83,g84,cells_of g104,y1,yc,g,hput]
    refine(endB _ _ _ g (by simp[ev_c,ev_put]<;>rfl) (by simp[ev_c,ev_put]<;>rfl) (tbk fun k hk=>by rcases hk with rfl|rfl|rfl|rfl|rfl|rfl|rfl<;>simp only[ev_put]<;>rfl)).mono fun x1 s1 hs=>?_
    obtain⟨rfl,hs⟩:=hs
    exact⟨rfl,hs⟩
  ·by_cases hlt:(rows.length:Int)+1<(rows2.length:Int)
   ·simp -implicitDefEqProofs(maxSteps:=999999)(disch:=first|with_reducible rfl|omega|(simp only[nA,nS,nD]<;>omega)|fail)only[go_sem,t7,t8,cells_of g10,ha,cells_of g7B,cells_of g8B,q_ar_or,ho,iN,gNB,nN0,nN1,hc0,lb,lc,wl1,hlt]
    refine fcloneBreak_ev oRB zR (by omega) _ fun v h2 oV=>?_
    have v1:=(oV.sl (by omega)).one
    have g82:=cells_of (oV.1.get g8B)
    have sC:=(H.Sub.refl oV.1.wf).add (.cells .rw [.int .i64 (p:Int),.int .i64 (f:Int),.int .i64 (e:Int)])
    have g83:=sC.cells g82
    have ay:SlAt (h2.add (.cells .rw [.int .i64 (p:Int),.int .i64 (f:Int),.int .i64 (e:Int)])) (.sl h2.next 0 1 (.fix 1)) 3 [[.int .i64 (p:Int),.int .i64 (f:Int),.int .i64 (e:Int)]]:=SlAt.new _ rfl rfl rfl (by simp) (by simp)
    have g102:=cells_of (oV.1.get g10)
    have g103:=sC.cells g102
    simp -implicitDefEqProofs(maxSteps:=999999)(disch:=first|with_reducible rfl|omega|(simp only[nA,nS,nD]<;>omega)|fail)only[go_sem,t8,cells_of g10,g102,g103,cells_of g8B,g82,g83]
    refine(oV.mono sC).app1 (by_:=24) (r:=[.int .i64 (p:Int),.int .i64 (f:Int),.int .i64 (e:Int)]) s0B.wf rfl (by omega) ay rfl (by omega) (by omega) fun h4 oA kA nA=>?_
    have s4:=oA.1
    have wn4:=wnB.mono s4 s0B
    have oA0:=oA.base' s0B
    have g84:=cells_of (s4.get g8B)
    have g104:=s4.get g10
    generalize hY:V.sl (H.next _) 0 _ (.slk 0 0)=Y at oA oA0⊢
    have y1:Y.one=true:=by rw[←hY];rfl
    have yc:Y.cells=[Y]:=by rw[←hY];rfl
    have hput:putN (x*2+1) [Y] (nl.map encY).flatten=some ((nl.set x (c,Y)).map encY).flatten:=putCell (enc:=encY) (sz:=2) (j:=1) (fun _=>rfl) hxl (by omega) (by rw[hcc];rfl)
    have hbr:∃rs:List (List V),rs.length≤m+1∧OwnSl h0 h4 Y 3 rs∧(rs=[]→Y=.nils):=⟨_,by rw[List.length_append];simp;omega,oA0,fun e=>by simp at e⟩
    have endB:∀(kd:Kd) (cs':List V) (tm':Go.Ab.T V),h4.get bN=some (.cells kd cs')→(Opd.t 10).ev tm'=.ptr c10 0→(Opd.t 11).ev tm'=.ptr bN (x*2)→Tb c5 c7 c8 c3 nowV N i tm'→W fnG fastA 98 84 ro R ⟨tm',h4.set bN (.cells kd ((nl.set x (c,Y)).map encY).flatten),df⟩ fun x1 s1=>x1=.nrm∧∃(tm':Go.Ab.T V) (h':H) (ul:List (Int × V)),s1=⟨tm',h',df⟩∧h0.Sub h'∧Keeps (fun c=>c=bN) h h'∧Wy h0 h' bN nextV N (m+1) (L+M) ul∧
      (∀j,(ul.getD j (0,.nils)).1=(nl.getD j (0,.nils)).1+if j=x then a else 0)∧Tb c5 c7 c8 c3 nowV N i tm':=fun kd cs' tm' gk t10 t11 tb'=>by
     obtain⟨p1,p2,p3⟩:=wn4.put hw0 (s0B.trans s4) hx (e':=(c,Y)) (L':=L) (by simp only;omega) (Int.le_refl _) hbr gk
     refine(hfin hw0 p1 p3 hx hma hL (p2.cells (cells_of g104) (by omega)) tb' t10 t11).mono fun x1 s1 hs=>?_
     obtain⟨rfl,tm2,h6,ul,rfl,q1,q2,q3,q4,q5⟩:=hs
     refine⟨rfl,tm2,h6,ul,rfl,q1,(((kB (S:=fun c=>c=bN)).trans (Keeps.of s4 fun c=>c=bN)).trans (p2.trans q2)).mono fun c hc=>hc.elim (fun h=>h.elim id id) fun h=>h.elim id id,q3,fun j=>?_,q5⟩
     rw[q4 j,getD_setY hxl]
     by_cases ej:j=x
     ·subst ej
      have:(nl.getD j (0,V.nils)).1=c:=by rw[List.getD_eq_getElem?_getD,List.getElem?_eq_getElem hxl,hcc];rfl
      rw[if_pos rfl,this]
     ·rw[if_neg ej]
    rcases wn4.v with⟨ex,g⟩|⟨ex,g⟩
    ·simp -implicitDefEqProofs(maxSteps:=999999)(disch:=first|with_reducible rfl|omega|(simp only[nA,nS,nD]<;>omega)|fail)only[go_sem,t8,cells_of g10,g102,g103,cells_of g8B,g82,g83,g84,cells_of g104,y1,yc,g,hput]
     refine(endB _ _ _ g (by simp[ev_c,ev_put]<;>rfl) (by simp[ev_c,ev_put]<;>rfl) (tbk fun k hk=>by rcases hk with rfl|rfl|rfl|rfl|rfl|rfl|rfl<;>simp only[ev_put]<;>rfl)).mono fun x1 s1 hs=>?_
     obtain⟨rfl,hs⟩:=hs
     exact⟨rfl,hs⟩
    ·simp -implicitDefEqProofs(maxSteps:=999999)(disch:=first|with_reducible rfl|omega|(simp only[nA,nS,nD]<;>omega)|fail)only[go_sem,t8,cells_of g10,g102,g103,cells_of g8B,g82,g83,g84,cells_of g104,y1,yc,g,hput]
     refine(endB _ _ _ g (by simp[ev_c,ev_put]<;>rfl) (by simp[ev_c,ev_put]<;>rfl) (tbk fun k hk=>by rcases hk with rfl|rfl|rfl|rfl|rfl|rfl|rfl<;>simp only[ev_put]<;>rfl)).mono fun x1 s1 hs=>?_
     obtain⟨rfl,hs⟩:=hs
     exact⟨rfl,hs⟩
   ·simp -implicitDefEqProofs(maxSteps:=999999)(disch:=first|with_reducible rfl|omega|(simp only[nA,nS,nD]<;>omega)|fail)only[go_sem,t7,t8,cells_of g10,ha,cells_of g7B,cells_of g8B,q_ar_or,ho,iN,gNB,nN0,nN1,hc0,lb,lc,wl1,hlt]
    refine(endA _ (by simp[ev_c,ev_put]<;>rfl) (by simp[ev_c,ev_put]<;>rfl) (tbk fun k hk=>by rcases hk with rfl|rfl|rfl|rfl|rfl|rfl|rfl<;>simp only[ev_put]<;>rfl)).mono fun x1 s1 hs=>?_
    obtain⟨rfl,hs⟩:=hs
    exact⟨rfl,hs⟩
end Go.Ab.Tryz
namespace Go.Ab.Tryz
theorem mul_step {i N:Nat}(hi:i<N){M:Int}(h0:0≤M):(i:Int)*M+M≤(N:Int)*M:=by
 have:((i:Int)+1)*M≤(N:Int)*M:=Int.mul_le_mul_of_nonneg_right (by omega) h0
 rw[Int.add_mul,Int.one_mul] at this;exact this
set_option maxHeartbeats 8000000 in
theorem breakW_ev {h0 h:H}(hw0:h0.wf)(s0:h0.Sub h){bA bN c5 c7 c8 c3 N m mk p f e:Nat}{nowV nextV:V}{M L:Int}{wl nl:List (Int × V)}(wa:Wy h0 h bA nowV N m M wl)(wn:Wy h0 h bN nextV N (m+1) L nl)(hm:m≤100)(hN:N≤1024)(nab:bA≠bN)(hx:∀i,i<N→i|||mk<N)(hmk:mk<1024)(hL:0≤L∧0≤M∧L+(N:Int)*M≤4000000000000000000)
  (g5:h.get c5=some (.cells .rw [nowV])) (g7:h.get c7=some (.cells .rw [nextV])) (g8:h.get c8=some (.cells .rw [.int .i64 (p:Int),.int .i64 (f:Int),.int .i64 (e:Int),.int .i64 (mk:Int)])) {gf:FuncId} {u w:List V} (g3:h.get c3=some (.cells .rw [.fn gf u w])) {lt:Bool} (hlt:PureA h0 (.fn gf u w) [.agg [.int .i64 (p:Int),.int .i64 (f:Int),.int .i64 (e:Int),.int .i64 (mk:Int)]] (.bool lt))
  (n5:c5≠bN) (n7:c7≠bN) (n8:c8≠bN) (n3:c3≠bN) {tm:Go.Ab.T V} (t3:(Opd.t 3).ev tm=.ptr c3 0) (t5:(Opd.t 5).ev tm=.ptr c5 0) (t7:(Opd.t 7).ev tm=.ptr c7 0) (t8:(Opd.t 8).ev tm=.ptr c8 0) {ro:Option Nat}:
  W fnG fastA 98 84 ro (navF [true,true,true,false,true,true,true,true,true,false,true,true,true,false,true,true,true] c84.body) ⟨tm,h,[]⟩ fun x1 s1=>x1=.nrm∧∃(tm':Go.Ab.T V) (h':H) (ul:List (Int × V)),s1=⟨tm',h',[]⟩∧h0.Sub h'∧Keeps (fun c=>c=bN) h h'∧Wy h0 h' bN nextV N (m+1) (L+(N:Int)*M) ul∧
   (∀j,(nl.getD j (0,.nils)).1≤(ul.getD j (0,.nils)).1)∧(lt=true→∀i,i<N→(wl.getD i (0,.nils)).1≤(ul.getD (i|||mk) (0,.nils)).1):=by
 have hNM:0≤(N:Int)*M:=Int.mul_nonneg (by omega) hL.2.1
 obtain⟨R,hR⟩:∃R,navF [true,true,true,false,true,true,true,true,true,false,true,true,true,false,true,true,true,true,true,true,true,true,true,true,false] c84.body=R:=⟨_,rfl⟩
 have hst:= @stepW_ev
 rw[hR] at hst
 simp only[navF,c84] at hR
 simp only[navF,c84]
 rw[hR]
 clear hR
 obtain⟨x1',x2',x3'⟩:=wa.x1
 have nn:∀{L':Int} {ul:List (Int × V)} {b:Nat} {h':H} {v:V} {m':Nat} (w':Wy h0 h' b v N m' L' ul) (j:Nat),0≤(ul.getD j (0,V.nils)).1:=fun w' j=>by
  rw[List.getD_eq_getElem?_getD]
  rename_i L' ul b h' v m'
  cases hj:ul[j]? with
  |none=>simp
  |some y=>exact(w'.mb y (List.mem_of_getElem? hj)).1
 simp -implicitDefEqProofs(maxSteps:=999999)(disch:=first|with_reducible rfl|omega|(simp only[nA,nS,nD]<;>omega)|fail)only[go_sem,t3,t5,t7,t8,cells_of g3,cells_of g8]
 refine hlt.use s0 fun h1 s1=>?_
 have s01:=s0.trans s1
 have wn1:=wn.mono s1 s0
 have wa1:=wa.mono s1 s0
 have kS:∀{S:Nat→Prop},Keeps S h h1:=fun{S}=>Keeps.of s1 S
 cases lt with
 |false=>
  simp -implicitDefEqProofs(maxSteps:=999999)(disch:=first|with_reducible rfl|omega|(simp only[nA,nS,nD]<;>omega)|fail)only[go_sem]
  exact⟨_,_,nl,rfl,s01,kS,⟨wn1.v,wn1.lo,wn1.len,wn1.br,fun y hy=>by have:=wn1.mb y hy;omega⟩,fun j=>Int.le_refl _,fun h=>by cases h⟩
 |true=>
  have g51:=s1.get g5
  simp -implicitDefEqProofs(maxSteps:=999999)(disch:=first|with_reducible rfl|omega|(simp only[nA,nS,nD]<;>omega)|fail)only[go_sem,t3,t5,t7,t8,cells_of g51,x3']
  refine W_count N (fun i s=>∃(tm':Go.Ab.T V) (h':H) (ul:List (Int × V)),s=⟨tm',h',[]⟩∧h0.Sub h'∧Keeps (fun c=>c=bN) h1 h'∧Wy h0 h' bN nextV N (m+1) (L+(i:Int)*M) ul∧(∀j,(nl.getD j (0,.nils)).1≤(ul.getD j (0,.nils)).1)∧(∀i',i'<i→(wl.getD i' (0,.nils)).1≤(ul.getD (i'|||mk) (0,.nils)).1)∧Tb c5 c7 c8 c3 nowV N i tm') ?_ ?_ (i:=0) (Nat.zero_le _)
   ⟨_,_,nl,rfl,s01,Keeps.refl _ _,by rw[show L+((0:Nat):Int)*M=L by simp];exact wn1,fun j=>Int.le_refl _,fun i' h=>by omega,⟨(by simp[ev_c,ev_put,t5]<;>rfl),(by simp[ev_c,ev_put,t7]<;>rfl),(by simp[ev_c,ev_put,t8]<;>rfl),(by simp[ev_c,ev_put,t3]<;>rfl),(by simp[ev_c,ev_put]<;>rfl),(by simp[ev_c,ev_put]<;>rfl),by simp only[ev_put];rfl⟩⟩
  ·rintro i s hi ⟨tm',h',ul,rfl,s',k',wu,hmo,hsum,tb⟩
   have hi':(i:Int)<(N:Int):=by omega
   have ms:=mul_step hi hL.2.1
   have hiM:0≤(i:Int)*M:=Int.mul_nonneg (by omega) hL.2.1
   have wa':Wy h0 h' bA nowV N m M wl:=wa1.keep k' s' nab fun c cs hc e=>by
    subst hc
    rcases wn1.v with⟨_,g'⟩|⟨_,g'⟩<;>rw[g'] at e<;>cases e
   have g7':=k'.2 _ _ (s1.get g7) n7
   have g8':=k'.2 _ _ (s1.get g8) n8
   simp -implicitDefEqProofs(maxSteps:=999999)(disch:=first|with_reducible rfl|omega|(simp only[nA,nS,nD]<;>omega)|fail)only[go_sem,tb.t43,tb.t44,hi']
   refine(hst hw0 s' wa' wu hm hN nab hi (hx i hi) hmk ⟨by omega,hL.2.1,by omega⟩ g7' g8' n7 n8 ⟨(by simp[ev_c,ev_put,tb.t5]<;>rfl),(by simp[ev_c,ev_put,tb.t7]<;>rfl),(by simp[ev_c,ev_put,tb.t8]<;>rfl),(by simp[ev_c,ev_put,tb.t3]<;>rfl),(by simp[ev_c,ev_put,tb.t42]<;>rfl),(by simp[ev_c,ev_put,tb.t43]<;>rfl),(by simp[ev_c,ev_put,tb.t44]<;>rfl)⟩).mono fun x2 s2 hs=>?_
   obtain⟨rfl,tm2,h2,vl,rfl,q1,q2,q3,q4,tb2⟩:=hs
   simp -implicitDefEqProofs(maxSteps:=999999)(disch:=first|with_reducible rfl|omega|(simp only[nA,nS,nD]<;>omega)|fail)only[go_sem,tb2.t44,wr_succ]
   refine⟨_,_,vl,rfl,q1,(k'.trans q2).mono fun c hc=>hc.elim id id,by rw[show L+((i+1:Nat):Int)*M=L+(i:Int)*M+M by rw[Int.natCast_add,Int.add_mul];simp;omega];exact q3,fun j=>?_,fun i' hi2=>?_,⟨(by simp[ev_c,ev_put,tb2.t5]<;>rfl),(by simp[ev_c,ev_put,tb2.t7]<;>rfl),(by simp[ev_c,ev_put,tb2.t8]<;>rfl),(by simp[ev_c,ev_put,tb2.t3]<;>rfl),(by simp[ev_c,ev_put,tb2.t42]<;>rfl),(by simp[ev_c,ev_put,tb2.t43]<;>rfl),(by simp[ev_c,ev_put]<;>rfl)⟩⟩
   ·have:=hmo j
    have h3:=nn wa' i
    rw[q4 j]
    split<;>omega
   ·have h3:=nn wa' i
    rw[q4]
    by_cases e:i'=i
    ·subst e
     rw[if_pos rfl]
     have:=nn wu (i'|||mk);omega
    ·have:=hsum i' (by omega)
     split<;>omega
  ·rintro s ⟨tm',h',ul,rfl,s',k',wu,hmo,hsum,tb⟩
   simp -implicitDefEqProofs(maxSteps:=999999)(disch:=first|with_reducible rfl|omega|(simp only[nA,nS,nD]<;>omega)|fail)only[go_sem,tb.t43,tb.t44,Int.lt_irrefl]
   exact⟨_,_,ul,rfl,s',((kS (S:=fun c=>c=bN)).trans k').mono fun c hc=>hc.elim id id,wu,hmo,fun _=>hsum⟩
end Go.Ab.Tryz
namespace Go.Ab
theorem Keeps.fresh {S:Nat→Prop}{h h':H}(hw:h.wf)(k:Keeps (fun c=>S c∨h.next≤c) h h'):Keeps S h h':=⟨k.1,fun c y e n=>k.2 c y e fun hs=>hs.elim n fun hge=>by have:=hw c y e;omega⟩
end Go.Ab
namespace Go.Ab.Tryz
def usN (ss:List St)(t:Nat):Nat→Nat
 |0=>0
 |p+1=>usN ss t p|||mkN ss p 0 (t-1) ss.length
theorem usN_lt (ss:List St)(t:Nat):∀p,usN ss t p<2^ss.length
 |0=>Nat.pow_pos (by omega)
 |p+1=>Nat.or_lt_two_pow (usN_lt ss t p) (mkN_lt ss p 0 (t-1) ss.length)
theorem Wy.le {h0 h:H}{b:Nat}{x:V}{N m:Nat}{L L':Int}{wl:List (Int × V)}(w:Wy h0 h b x N m L wl)(hl:L≤L'):Wy h0 h b x N m L' wl:=⟨w.v,w.lo,w.len,w.br,fun e he=>by have:=w.mb e he;omega⟩
theorem mulL {a b:Nat}(h:a≤b){X:Int}(hx:0≤X):(a:Int)*X≤(b:Int)*X:=Int.mul_le_mul_of_nonneg_right (by omega) hx
def cntN (f e:Nat):Nat:=f*12+e
set_option maxHeartbeats 8000000 in
theorem partW_ev {h0 h:H}(hw0:h0.wf)(s0:h0.Sub h){d:Nat}{P S B:V}{bO n t:Nat}{ps:List (V × Bool)}{ss:List St}(fd:Fd h0 d P S B bO n t ps ss)(k:LmOk n t ss)(hn4:n≤4)(hk6:ss.length≤6){p:Nat}(hp:p<n){bA c5 c3:Nat}{nowV:V}{M:Int}{wl:List (Int × V)}(wa:Wy h0 h bA nowV (2^ss.length) p M wl)(hM:0≤M∧M≤1000000000000)
  (g5:h.get c5=some (.cells .rw [nowV])) (l5:h0.next≤c5) {gf:FuncId} {u w:List V} (g3:h.get c3=some (.cells .rw [.fn gf u w])) {lt:Nat→Nat→Nat→Nat→Bool} (hlt:∀q f e mk:Nat,q<n→PureA h0 (.fn gf u w) [.agg [.int .i64 (q:Int),.int .i64 (f:Int),.int .i64 (e:Int),.int .i64 (mk:Int)]] (.bool (lt q f e mk)))
  (n3:c3≠c5) {tm:Go.Ab.T V} (t0:(Opd.t 0).ev tm=.ptr d 0) (t3:(Opd.t 3).ev tm=.ptr c3 0) (t5:(Opd.t 5).ev tm=.ptr c5 0) (t27:(Opd.t 27).ev tm=.int .i64 (n:Int)) (t28:(Opd.t 28).ev tm=.int .i64 (p:Int)) (ds:List Nat):
  W fnG fastA 98 84 none (navF [true,true,true,false,true,true,true,true,true,false] c84.body) ⟨tm,h,ds⟩ fun x1 s1=>x1=.nrm∧∃(tm':Go.Ab.T V) (h':H) (ul:List (Int × V)) (bN dd:Nat) (nextV:V),s1=⟨tm',h',dd::ds⟩∧h0.Sub h'∧Keeps (fun c=>c=c5) h h'∧Wy h0 h' bN nextV (2^ss.length) (p+1) (M*10000) ul∧h'.get c5=some (.cells .rw [nextV])∧h.next≤dd∧h'.get dd=some .dfr∧
   ((∀q f e mk,lt q f e mk=true)→0<(wl.getD (usN ss t p) (0,.nils)).1→0<(ul.getD (usN ss t (p+1)) (0,.nils)).1)∧(Opd.t 0).ev tm'=.ptr d 0∧(Opd.t 3).ev tm'=.ptr c3 0∧(Opd.t 5).ev tm'=.ptr c5 0∧(Opd.t 27).ev tm'=.int .i64 (n:Int)∧(Opd.t 28).ev tm'=.int .i64 (p:Int):=by
 have k1:=k.nb;have k2:=k.tb;have k3:=k.kb
 have hw:=s0.wf
 have hN:2^ss.length≤64:=(Nat.pow_le_pow_right (by omega) hk6:2^ss.length≤2^6)
 have hN0:0<2^ss.length:=Nat.pow_pos (by omega)
 obtain⟨N,hNe⟩:∃N,2^ss.length=N:=⟨_,rfl⟩
 have hus:=usN_lt ss t p
 have hmk:=fun f e=>mkN_lt ss p f e ss.length
 have hor:∀{i mk:Nat},i<2^ss.length→mk<2^ss.length→i|||mk<2^ss.length:=fun h1 h2=>Nat.or_lt_two_pow h1 h2
 rw[hNe] at wa hN hN0 hus⊢
 simp only[hNe] at hmk hor
 obtain⟨R,hR⟩:∃R,navF [true,true,true,false,true,true,true,true,true,false,true,true,true,false,true,true,true] c84.body=R:=⟨_,rfl⟩
 have hbr:= @breakW_ev
 rw[hR] at hbr
 simp only[navF,c84] at hR
 simp only[navF,c84]
 rw[hR]
 clear hR
 have awl:=wa.sl (by omega)
 have lwl:(wl.map encY).length=N:=by rw[List.length_map,wa.len]
 have lA:=wa.lt hw
 have lc5:=hw _ _ g5
 have lc3:=hw _ _ g3
 simp -implicitDefEqProofs(maxSteps:=999999)(disch:=first|with_reducible rfl|omega|(simp only[nA,nS,nD]<;>omega)|fail)only[go_sem,t5,t28,cells_of g5]
 refine fcloneWay_ev hw awl (by rw[lwl];exact hN0) (by rw[lwl];omega) _ fun bN h1 s1 lN gN=>?_
 rw[lwl]
 have s01:=s0.trans s1
 have wn1:Wy h0 h1 bN (.sl bN 0 N (.slk 0 0)) N (p+1) M wl:=by
  have wb:=wa.mono s1 s0
  exact⟨.inr ⟨rfl,gN⟩,by have:=s0.next;omega,wb.len,fun e he=>by
   obtain⟨rows,l,o,z⟩:=wb.br e he
   exact⟨rows,by omega,o,z⟩,wb.mb⟩
 obtain⟨nextV,hnv⟩:∃v,V.sl bN 0 N (.slk 0 0)=v:=⟨_,rfl⟩
 have nv1:nextV.one=true:=by rw[←hnv];rfl
 have nvc:nextV.cells=[nextV]:=by rw[←hnv];rfl
 rw[hnv] at wn1⊢
 have lN1:=wn1.lt s01.wf
 have s2:=(H.Sub.refl s01.wf).add (.cells .rw [nextV])
 have g7:(h1.add (.cells .rw [nextV])).get h1.next=some (.cells .rw [nextV]):=get_add_new rfl
 have l2:=H.next_add h1 (.cells .rw [nextV])
 simp -implicitDefEqProofs(maxSteps:=999999)(disch:=first|with_reducible rfl|omega|(simp only[nA,nS,nD]<;>omega)|fail)only[go_sem,t0,nv1,nvc]
 have s02:=s01.trans s2
 have wn2:=wn1.mono s2 s01
 have wa2:=(wa.mono s1 s0).mono s2 s01
 have g52:=s2.get (s1.get g5)
 have g32:=s2.get (s1.get g3)
 generalize h1.add _=h2 at s2 g7 l2 s02 wn2 wa2 g52 g32⊢
 obtain⟨c7,hc7⟩:∃c,h1.next=c:=⟨_,rfl⟩
 rw[hc7] at g7 l2 lN1⊢
 have hs12:=s1.next
 refine breaks_ev s02.wf (fd.mono s02) hp _ fun c2 c5' c3' hB sB lB gB2 gB5 gB3=>?_
 have wB:=sB.wf
 simp -implicitDefEqProofs(maxSteps:=999999)(disch:=first|with_reducible rfl|omega|(simp only[nA,nS,nD]<;>omega)|fail)only[go_sem]
 refine W_gen (P:=fun tm=>(Opd.t 0).ev tm=.ptr d 0∧(Opd.t 3).ev tm=.ptr c3 0∧(Opd.t 5).ev tm=.ptr c5 0∧(Opd.t 7).ev tm=.ptr c7 0∧(Opd.t 27).ev tm=.int .i64 (n:Int)∧(Opd.t 28).ev tm=.int .i64 (p:Int)∧(Opd.t 35).ev tm=.fn 99 [] [.ptr c2 0,.ptr c5' 0,.ptr c3' 0]) ⟨(by simp[ev_c,ev_put,t0]<;>rfl),(by simp[ev_c,ev_put,t3]<;>rfl),(by simp[ev_c,ev_put,t5]<;>rfl),(by simp[ev_c,ev_put]<;>rfl),(by simp[ev_c,ev_put,t27]<;>rfl),(by simp[ev_c,ev_put,t28]<;>rfl),(by simp[ev_c,ev_put]<;>rfl)⟩ fun tm ⟨t0,t3,t5,t7,t27,t28,t35⟩=>?_
 refine W_rf t35 ?_
 generalize hr:LoopR.mk _ _ _ _ _ _ _ _ _=r0
 have fB:=congrArg LoopR.body hr
 have fA':=congrArg LoopR.assign hr
 have fN:=congrArg LoopR.n hr
 have fF:=congrArg LoopR.fn hr
 have fP:=congrArg LoopR.ps hr
 have fT:=congrArg LoopR.tm hr
 dsimp only at fB fA' fN fF fP fT
 have hrs:r0.st=.ready:=by rw[←hr]
 have hrp:r0.pend=none:=by rw[←hr]
 have lB1:(hB.add .dfr).next=hB.next+1:=H.next_add _ _
 obtain⟨hC,ehC⟩:∃z,(hB.add .dfr).add (.loop r0)=z:=⟨_,rfl⟩
 have sBC:hB.Sub hC:=by rw[←ehC];exact(((H.Sub.refl wB).add .dfr).add (.loop r0))
 have gCd:hC.get hB.next=some .dfr:=by rw[←ehC,get_add_old (by rw[lB1];omega),get_add_new rfl]
 have gCl:hC.get (hB.next+1)=some (.loop r0):=by rw[←ehC];exact get_add_new lB1.symm
 have nxC:hC.next=hB.next+2:=by rw[←ehC];simp only[H.next_add]
 rw[ehC]
 clear ehC
 have s2C:=sB.trans sBC
 have s0C:=s02.trans s2C
 have wnC:=wn2.mono s2C s02
 have waC:=wa2.mono s2C s02
 have g5C:=s2C.get g52
 have g3C:=s2C.get g32
 have g7C:=s2C.get g7
 have hsB:=sB.next
 have hs2n:=s0.next
 obtain⟨X,hX⟩:∃X,(N:Int)*M=X:=⟨_,rfl⟩
 have hX0:0≤X:=by rw[←hX];exact Int.mul_nonneg (by omega) hM.1
 have hX1:X≤64*M:=by rw[←hX];exact Int.mul_le_mul_of_nonneg_right (by omega) hM.1
 have nab:bA≠bN:=by omega
 obtain⟨I,hI⟩:∃I:Nat→Nat→H→Prop,∀f e z,I f e z↔h0.Sub z∧Keeps (fun c=>c=bN) hC z∧z.get hB.next=some .dfr∧z.get (hB.next+1)=some (.loop r0)∧∃ul,Wy h0 z bN nextV N (p+1) (M+(cntN f e:Int)*X) ul∧((∀q f e mk,lt q f e mk=true)→(0<f∨e=t)→(wl.getD (usN ss t p) (0,.nils)).1≤(ul.getD (usN ss t (p+1)) (0,.nils)).1):=⟨_,fun _ _ _=>Iff.rfl⟩
 have hI0:I 0 0 hC:=(hI _ _ _).2 ⟨s0C,Keeps.refl _ _,gCd,gCl,wl,wnC.le (by simp[cntN]),fun _ h=>by omega⟩
 rw[Ev_fn,show appN [] (appN [V.yld (hB.next+1)] [V.ptr c2 0,V.ptr c5' 0,V.ptr c3' 0])=[.yld (hB.next+1),.ptr c2 0,.ptr c5' 0,.ptr c3' 0] from rfl]
 have l2B:c2<hB.next:=by obtain⟨kk,hk⟩:=H.cells_eq gB2;exact wB _ _ hk
 have l5B:c5'<hB.next:=by obtain⟨kk,hk⟩:=H.cells_eq gB5;exact wB _ _ hk
 have l3B:c3'<hB.next:=by obtain⟨kk,hk⟩:=H.cells_eq gB3;exact wB _ _ hk
 refine(breaks1_gen (y:=.yld (hB.next+1)) (S':=fun c=>c=bN∨c=hB.next+1) (I:=I) (d:=d) (P:=P) (S:=S) (B:=B) (bO:=bO) (n:=n) (t:=t) (ps:=ps) (ss:=ss) k hp (fun f e z hfe het hIz=>?_) (fun f z hf hIz=>?_) (fun f e z z' hIz sz=>?_) (fun f e z hIz=>?_) (fun c hc=>hc.elim (fun e=>by omega) fun e=>by omega) hI0).mono fun u' h7 hu=>?_
 ·obtain⟨w0,kz,gd,gl,ul,wu,pos⟩:=(hI _ _ _).1 hIz
  have ww:=w0.wf
  have hs02:=s02.next
  have ltl:=ww _ _ gl
  refine Ev.gen fun Q2 q2=>?_
  refine Ev_yld (tm:=tm.put (some (.agg [.int .i64 (p:Int),.int .i64 (f:Int),.int .i64 (e:Int),.int .i64 (mkN ss p f e ss.length:Int)])) 36) gl (by rw[←fP,←fT];rfl) ?_
  rw[←fA',←fN,←fF]
  obtain⟨mk,hmke⟩:∃mk,mkN ss p f e ss.length=mk:=⟨_,rfl⟩
  have hmk1:=hmk f e
  rw[hmke] at hmk1⊢
  have sx:=(H.Sub.refl ww).add (.cells .rw [.int .i64 (p:Int),.int .i64 (f:Int),.int .i64 (e:Int),.int .i64 (mk:Int)])
  have g8:(z.add (.cells .rw [.int .i64 (p:Int),.int .i64 (f:Int),.int .i64 (e:Int),.int .i64 (mk:Int)])).get z.next=some (.cells .rw [.int .i64 (p:Int),.int .i64 (f:Int),.int .i64 (e:Int),.int .i64 (mk:Int)]):=get_add_new rfl
  have l8:=H.next_add z (.cells .rw [.int .i64 (p:Int),.int .i64 (f:Int),.int .i64 (e:Int),.int .i64 (mk:Int)])
  simp -implicitDefEqProofs(maxSteps:=999999)(disch:=first|with_reducible rfl|omega|(simp only[nA,nS,nD]<;>omega)|fail)only[go_sem]
  generalize z.add _=z1 at sx g8 l8⊢
  obtain⟨c8,hc8⟩:∃c,z.next=c:=⟨_,rfl⟩
  rw[hc8] at g8 l8 ltl⊢
  unfold Kasg
  refine⟨rfl,r0,sx.get gl,hrs,?_⟩
  obtain⟨rb,hrb⟩:∃rb:LoopR,rb={r0 with st:=.busy}:=⟨_,rfl⟩
  have hrb1:({rb with st:=.ready,pend:=none}:LoopR)=r0:=by rw[hrb];exact rLoop hrs hrp
  rw[←hrb,←fB,←fN,←fF]
  have s0z1:=w0.trans sx
  have kl1:Keeps (fun c=>c=hB.next+1) z1 (z1.set (hB.next+1) (.loop rb)):=Keeps.set _ _ _
  have gl1:(z1.set (hB.next+1) (.loop rb)).get (hB.next+1)=some (.loop rb):=get_set_same rfl
  have s0z2:h0.Sub (z1.set (hB.next+1) (.loop rb)):=s0z1.set (by omega) (by omega) hw0 _
  have nxz:(z1.set (hB.next+1) (.loop rb)).next=z1.next:=H.next_set _ _ _
  have nl3:∀c cs,c=hB.next+1→z1.get c≠some (.cells (.gr 3) cs):=fun c cs hc e'=>by subst hc;rw[sx.get gl] at e';cases e'
  have wu2:=(wu.mono sx w0).keep kl1 s0z2 (by omega) nl3
  have waz:Wy h0 z bA nowV N p M wl:=waC.keep kz w0 nab fun c cs hc e'=>by
   subst hc
   rcases wnC.v with⟨_,g'⟩|⟨_,g'⟩<;>rw[g'] at e'<;>cases e'
  have wa3:=(waz.mono sx w0).keep kl1 s0z2 (by omega) nl3
  have kz2:Keeps (fun c=>c=bN∨c=hB.next+1) hC (z1.set (hB.next+1) (.loop rb)):=((kz.trans (Keeps.of sx fun _=>False)).trans kl1).mono fun c hc=>by
   rcases hc with(hc|hc)|hc
   ·exact .inl hc
   ·exact hc.elim
   ·exact .inr hc
  have g8b:=kl1.2 _ _ g8 (by omega)
  have gdb:=kl1.2 _ _ (sx.get gd) (by omega)
  generalize z1.set (hB.next+1) (.loop rb)=z2 at kl1 gl1 s0z2 nxz wu2 wa3 kz2 g8b gdb⊢
  have g5b:=kz2.2 _ _ g5C (by omega)
  have g3b:=kz2.2 _ _ g3C (by omega)
  have g7b:=kz2.2 _ _ g7C (by omega)
  have hcnt:=mulL (a:=cntN f e) (b:=156) (by unfold cntN;omega) hX0
  have hcnt0:0≤(cntN f e:Int)*X:=Int.mul_nonneg (by omega) hX0
  refine(hbr hw0 s0z2 wa3 wu2 (by omega) (by omega) nab (fun i hi=>hor hi hmk1) (by omega) ⟨by omega,hM.1,by rw[hX];omega⟩ g5b g7b g8b g3b (hlt p f e mk hp) (by omega) (by omega) (by omega) (by omega) (by simp[ev_c,ev_put,t3]<;>rfl) (by simp[ev_c,ev_put,t5]<;>rfl) (by simp[ev_c,ev_put,t7]<;>rfl) (by simp[ev_c,ev_put]<;>rfl)).mono fun x2 s2' hs=>?_
  obtain⟨rfl,tm3,z3,vl,rfl,q1,q2',q3,q4,q5⟩:=hs
  rw[hX] at q3
  have gl3:=q2'.2 _ _ gl1 (by omega)
  have gd3:=q2'.2 _ _ gdb (by omega)
  have ks:Keeps (fun c=>c=hB.next+1) z3 (z3.set (hB.next+1) (.loop {rb with st:=.ready,pend:=none})):=Keeps.set _ _ _
  have gs:(z3.set (hB.next+1) (.loop {rb with st:=.ready,pend:=none})).get (hB.next+1)=some (.loop {rb with st:=.ready,pend:=none}):=get_set_same rfl
  have s4:h0.Sub (z3.set (hB.next+1) (.loop {rb with st:=.ready,pend:=none})):=q1.set (by omega) (q1.wf _ _ gl3) hw0 _
  unfold Kround
  refine⟨rb,gl3,q2 _ _ ⟨rfl,?_⟩⟩
  rw[hrb1] at ks gs s4⊢
  generalize z3.set (hB.next+1) _=z4 at ks gs s4⊢
  have kall:Keeps (fun c=>c=bN∨c=hB.next+1) z z4:=((((Keeps.of sx fun _=>False).trans kl1).trans q2').trans ks).mono fun c hc=>by
   rcases hc with((hc|hc)|hc)|hc
   ·exact hc.elim
   ·exact .inr hc
   ·exact .inl hc
   ·exact .inr hc
  have kz4:Keeps (fun c=>c=bN) hC z4:=by
   have hkk:=(kz2.trans q2').trans ks
   refine⟨hkk.1,fun c y hy hn=>?_⟩
   by_cases hcl:c=hB.next+1
   ·subst hcl
    rw[gCl] at hy;cases hy;exact gs
   ·exact hkk.2 c y hy fun hc=>by
     rcases hc with((hc|hc)|hc)|hc
     ·exact hn hc
     ·exact hcl hc
     ·exact hn hc
     ·exact hcl hc
  refine⟨(hI _ _ _).2 ⟨s4,kz4,ks.2 _ _ gd3 (by omega),gs,vl,(q3.keep ks s4 (by omega) fun c cs hc e'=>by subst hc;rw[gl3] at e';cases e').le (by
   have:cntN f (e+1)=cntN f e+1:=by unfold cntN;omega
   rw[this,Int.natCast_add,Int.add_mul];simp;omega),fun hl hfe'=>?_⟩,kall⟩
  by_cases hfin:f=0∧e+1=t
  ·obtain⟨rfl,het'⟩:=hfin
   have:=q5 (hl _ _ _ _) (usN ss t p) hus
   have e3:usN ss t (p+1)=usN ss t p|||mk:=by rw[usN,←hmke,show t-1=e by omega]
   rw[e3];exact this
  ·have h5:=pos hl (by omega)
   have:=q4 (usN ss t (p+1))
   omega
 ·obtain⟨w,kz,gd,gl,ul,wu,pos⟩:=(hI _ _ _).1 hIz
  exact(hI _ _ _).2 ⟨w,kz,gd,gl,ul,wu.le (by have:=mulL (a:=cntN f t) (b:=cntN (f+1) (f+1)) (by unfold cntN;omega) hX0;omega),fun h _=>pos h (.inr rfl)⟩
 ·obtain⟨w,kz,gd,gl,ul,wu,pos⟩:=(hI _ _ _).1 hIz
  exact(hI _ _ _).2 ⟨w.trans sz,(kz.trans (Keeps.of sz fun _=>False)).mono fun c hc=>hc.elim id fun h=>h.elim,sz.get gd,sz.get gl,ul,wu.mono sz w,pos⟩
 ·obtain⟨w,kz,gd,gl,ul,wu,pos⟩:=(hI _ _ _).1 hIz
  exact⟨w.wf,fd.mono w,kz.cells (sBC.cells gB2) (by omega),kz.cells (sBC.cells gB5) (by omega),kz.cells (sBC.cells gB3) (by omega)⟩
 ·obtain⟨w,kz,gd,gl,ul,wu,pos⟩:=(hI _ _ _).1 hu
  refine⟨r0,gl,by rw[hrs];simp,?_⟩
  rw[hrp]
  have ks:Keeps (fun c=>c=hB.next+1) h7 (h7.set (hB.next+1) (.loop {r0 with st:=.exhausted})):=Keeps.set _ _ _
  have s8:h0.Sub (h7.set (hB.next+1) (.loop {r0 with st:=.exhausted})):=w.set (by have:=s01.next;have:=s02.next;omega) (w.wf _ _ gl) hw0 _
  rw[hrp] at ks s8
  have wu8:=wu.keep ks s8 (by omega) fun c cs hc e=>by subst hc;rw[gl] at e;cases e
  have g58:=ks.2 _ _ (kz.2 _ _ g5C (by omega)) (by omega)
  have g78:=ks.2 _ _ (kz.2 _ _ g7C (by omega)) (by omega)
  have gd8:=ks.2 _ _ gd (by omega)
  generalize h7.set (hB.next+1) _=h8 at ks s8 wu8 g58 g78 gd8⊢
  simp -implicitDefEqProofs(maxSteps:=999999)(disch:=first|with_reducible rfl|omega|(simp only[nA,nS,nD]<;>omega)|fail)only[go_sem,t5,t7,cells_of g78,g58,nv1,nvc]
  have k9:Keeps (fun c=>c=c5) h8 (h8.set c5 (.cells .rw [nextV])):=Keeps.set _ _ _
  have s9:h0.Sub (h8.set c5 (.cells .rw [nextV])):=s8.set l5 (s8.wf _ _ g58) hw0 _
  have wu9:=wu8.keep k9 s9 (by omega) fun c cs hc e=>by subst hc;rw[g58] at e;cases e
  have g59:(h8.set c5 (.cells .rw [nextV])).get c5=some (.cells .rw [nextV]):=get_set_same rfl
  have hs02:=s02.next
  refine⟨_,_,ul,bN,hB.next,nextV,rfl,s9,?_,wu9.le (by
   have:=mulL (a:=cntN t t) (b:=156) (by unfold cntN;omega) hX0
   omega),g59,by omega,k9.2 _ _ gd8 (by omega),fun h1' h2'=>by have:=pos h1' (.inr rfl);omega,(by simp[ev_c,ev_put,t0]<;>rfl),(by simp[ev_c,ev_put,t3]<;>rfl),(by simp[ev_c,ev_put,t5]<;>rfl),(by simp[ev_c,ev_put,t27]<;>rfl),(by simp[ev_c,ev_put,t28]<;>rfl)⟩
  refine Keeps.fresh hw (((((Keeps.of (s1.trans (s2.trans s2C)) fun _=>False).trans kz).trans ks).trans k9).mono fun c hc=>?_)
  rcases hc with((hc|hc)|hc)|hc
  ·exact hc.elim
  ·exact .inr (by omega)
  ·exact .inr (by omega)
  ·exact .inl hc
end Go.Ab.Tryz
namespace Go.Ab.Tryz
set_option maxHeartbeats 8000000 in
theorem ways_ev {h:H}(hw:h.wf){d:Nat}{P S B:V}{bO n t:Nat}{ps:List (V × Bool)}{ss:List St}(fd:Fd h d P S B bO n t ps ss)(k:LmOk n t ss)(hn4:n≤4)(hk6:ss.length≤6){gf:FuncId}{u w:List V}{lt:Nat→Nat→Nat→Nat→Bool}(hlt:∀q f e mk:Nat,q<n→PureA h (.fn gf u w) [.agg [.int .i64 (q:Int),.int .i64 (f:Int),.int .i64 (e:Int),.int .i64 (mk:Int)]] (.bool (lt q f e mk)))
  (Q:V→H→Prop) (q:∀b x wl h',h.Sub h'→Wy h h' b x (2^ss.length) n (10000^n) wl→((∀q f e mk,lt q f e mk=true)→0<(wl.getD (usN ss t n) (0,.nils)).1)→Q x h'):Ev fnG fastA (.fn 84 [] []) [.ptr d 0,.agg [.fn gf u w]] h Q:=by
 have k1:=k.nb;have k3:=k.kb
 have hN:2^ss.length≤64:=(Nat.pow_le_pow_right (by omega) hk6:2^ss.length≤2^6)
 have hN0:0<2^ss.length:=Nat.pow_pos (by omega)
 have hsh:=shl_nat (k:=ss.length) (by omega)
 have lB:q_len B=some (.int .i64 (ss.length:Int)):=by have:=fd.b.lenE;rwa[upN_len] at this
 have lP:q_len P=some (.int .i64 (n:Int)):=by have:=fd.a.p.lenE;rwa[fd.a.len] at this
 have hpart:=fun(N:Nat) (hNe:2^ss.length=N) (h1:H) (s0:h.Sub h1) p (hp:p<n) bA c5 c3 nowV M wl wa hM g5 l5 g3 n3 tm t0 t3 t5 t27 t28 ds=>partW_ev hw (h:=h1) s0 fd k hn4 hk6 (p:=p) hp (bA:=bA) (c5:=c5) (c3:=c3) (nowV:=nowV) (M:=M) (wl:=wl) (by rw[hNe];exact wa) hM g5 l5 (gf:=gf) (u:=u) (w:=w) g3 hlt n3 (tm:=tm) t0 t3 t5 t27 t28 ds
 obtain⟨R,hR⟩:∃R,navF [true,true,true,false,true,true,true,true,true,false] c84.body=R:=⟨_,rfl⟩
 rw[hR] at hpart
 simp only[navF,c84] at hR
 obtain⟨N,hNe⟩:∃N,2^ss.length=N:=⟨_,rfl⟩
 have hpart2:=hpart N hNe
 simp only[hNe] at hpart2
 clear hpart
 rw[hNe] at hN hN0 hsh
 simp only[hNe] at q
 refine Ev_body (fd:=c84) rfl rfl rfl ?_
 simp only[c84]
 rw[hR]
 clear hR
 have s1:=(H.Sub.refl hw).add (.cells .rw [.fn gf u w])
 have g31:(h.add (.cells .rw [.fn gf u w])).get h.next=some (.cells .rw [.fn gf u w]):=get_add_new rfl
 have e1:=H.next_add h (.cells .rw [.fn gf u w])
 simp -implicitDefEqProofs(maxSteps:=999999)(disch:=first|with_reducible rfl|omega|(simp only[nA,nS,nD]<;>omega)|fail)only[go_sem]
 generalize h.add _=h1 at s1 g31 e1⊢
 have am:a_msl h1 32 [V.int .i64 0,.nils] (.int .i64 (N:Int)) (.int .i64 (N:Int))=_:=a_msl_nn' (by omega) (by omega)
 have gd1:=s1.cells fd.g
 have s2:=(H.Sub.refl s1.wf).add (.cells .rw (repN N [V.int .i64 0,.nils]))
 have gA2:(h1.add (.cells .rw (repN N [V.int .i64 0,.nils]))).get (h.next+1)=some (.cells .rw ((List.replicate N ((0:Int),V.nils)).map encY).flatten):=by
  rw[get_add_new e1.symm,List.map_replicate,repN_flat];rfl
 have g32:=s2.get g31
 have e2:=H.next_add h1 (.cells .rw (repN N [V.int .i64 0,.nils]))
 rw[e1] at e2 am
 simp -implicitDefEqProofs(maxSteps:=999999)(disch:=first|with_reducible rfl|omega|(simp only[nA,nS,nD]<;>omega)|fail)only[go_sem,fd.g,gd1,lB,hsh,am]
 generalize h1.add _=h2 at s2 gA2 g32 e2⊢
 have s02:=s1.trans s2
 have s3:=(H.Sub.refl s02.wf).add (.cells .rw [.sl (h.next+1) 0 N (.fix N)])
 have g53:(h2.add (.cells .rw [.sl (h.next+1) 0 N (.fix N)])).get (h.next+2)=some (.cells .rw [.sl (h.next+1) 0 N (.fix N)]):=get_add_new e2.symm
 have gA3:=s3.get gA2
 have g33:=s3.get g32
 have hib:Nat.blt 0 N=true:=by rw[Nat.blt_eq];exact hN0
 have iq:q_iad 2 (.sl (h.next+1) 0 N (.fix N)) (.int .i64 0)=some (.ptr (h.next+1) 0):=by
  have:=(show q_iad 2 (.sl (h.next+1) 0 N (.fix N)) (.int .i64 ((0:Nat):Int))=some (.ptr (h.next+1) (0+0*2)) by simp only[q_iad,nat_cst,hib,og_true])
  exact this
 have hput:putN 0 [.int .i64 1] ((List.replicate N ((0:Int),V.nils)).map encY).flatten=some (((List.replicate N ((0:Int),V.nils)).set 0 (1,.nils)).map encY).flatten:=
  putCell (enc:=encY) (sz:=2) (i:=0) (j:=0) (fun _=>rfl) (by rw[List.length_replicate];exact hN0) (by omega) (by rw[List.getElem_replicate];rfl)
 have gd3:=(s02.trans s3).cells fd.g
 simp only[e1,Nat.add_assoc,Nat.reduceAdd]
 simp -implicitDefEqProofs(maxSteps:=999999)(disch:=first|with_reducible rfl|omega|(simp only[nA,nS,nD]<;>omega)|fail)only[go_sem,cells_of g53,iq,gA3,hput,fd.g,gd3]
 have k4:Keeps (fun c=>c=h.next+1) (h2.add (.cells .rw [.sl (h.next+1) 0 N (.fix N)])) ((h2.add (.cells .rw [.sl (h.next+1) 0 N (.fix N)])).set (h.next+1) (.cells .rw (((List.replicate N ((0:Int),V.nils)).set 0 (1,.nils)).map encY).flatten)):=Keeps.set _ _ _
 have gA4:((h2.add (.cells .rw [.sl (h.next+1) 0 N (.fix N)])).set (h.next+1) (.cells .rw (((List.replicate N ((0:Int),V.nils)).set 0 (1,.nils)).map encY).flatten)).get (h.next+1)=some (.cells .rw (((List.replicate N ((0:Int),V.nils)).set 0 (1,.nils)).map encY).flatten):=get_set_same rfl
 have s4:h.Sub ((h2.add (.cells .rw [.sl (h.next+1) 0 N (.fix N)])).set (h.next+1) (.cells .rw (((List.replicate N ((0:Int),V.nils)).set 0 (1,.nils)).map encY).flatten)):=(s02.trans s3).set (by omega) (by have:=s3.next;omega) hw _
 generalize H.set (H.add h2 _) _ _=h4 at k4 gA4 s4⊢
 have g54:=k4.2 _ _ g53 (by omega)
 have g34:=k4.2 _ _ g33 (by omega)
 simp -implicitDefEqProofs(maxSteps:=999999)(disch:=first|with_reducible rfl|omega|(simp only[nA,nS,nD]<;>omega)|fail)only[go_sem,s4.cells fd.g,lP]
 have w0:Wy h h4 (h.next+1) (.sl (h.next+1) 0 N (.fix N)) N 0 1 ((List.replicate N ((0:Int),V.nils)).set 0 (1,.nils)):=by
  refine⟨.inl ⟨rfl,gA4⟩,by omega,by rw[List.length_set,List.length_replicate],fun e he=>?_,fun e he=>?_⟩
  ·have:e.2=.nils:=by
    rcases List.mem_or_eq_of_mem_set he with h1|rfl
    ·rw[List.mem_replicate] at h1;rw[h1.2]
    ·rfl
   exact⟨[],Nat.le_refl _,by rw[this];exact OwnSl.nil s4 3,fun _=>this⟩
  ·rcases List.mem_or_eq_of_mem_set he with h1|rfl
   ·rw[List.mem_replicate] at h1;rw[h1.2];exact⟨Int.le_refl _,by decide⟩
   ·exact⟨by decide,Int.le_refl _⟩
 have hpos0:0<(((List.replicate N ((0:Int),V.nils)).set 0 (1,.nils)).getD (usN ss t 0) (0,V.nils)).1:=by
  rw[usN,getD_setY (by rw[List.length_replicate];exact hN0),if_pos rfl];decide
 have hM1:∀p:Nat,p<4→(0:Int)≤10000^p∧(10000:Int)^p≤1000000000000:=fun p hp=>by
  rcases(by omega:p=0∨p=1∨p=2∨p=3) with rfl|rfl|rfl|rfl<;>decide
 refine W_count n (fun p s=>∃(tm:Go.Ab.T V) (h':H) (ds:List Nat) (bA:Nat) (nowV:V) (wl:List (Int × V)),s=⟨tm,h',ds⟩∧h.Sub h'∧Wy h h' bA nowV N p (10000^p) wl∧h'.get (h.next+2)=some (.cells .rw [nowV])∧h'.get h.next=some (.cells .rw [.fn gf u w])∧ds.Nodup∧(∀c∈ds,h.next≤c∧h'.get c=some .dfr)∧((∀q f e mk,lt q f e mk=true)→0<(wl.getD (usN ss t p) (0,.nils)).1)∧(Opd.t 0).ev tm=.ptr d 0∧(Opd.t 3).ev tm=.ptr h.next 0∧(Opd.t 5).ev tm=.ptr (h.next+2) 0∧(Opd.t 27).ev tm=.int .i64 (n:Int)∧(Opd.t 28).ev tm=.int .i64 (p:Int)) ?_ ?_ (i:=0) (Nat.zero_le _)
  ⟨_,_,[],_,_,_,rfl,s4,w0,g54,g34,List.nodup_nil,(fun _ hc=>by simp at hc),fun _=>hpos0,(by simp[ev_c,ev_put]<;>rfl),(by simp[ev_c,ev_put]<;>rfl),(by simp[ev_c,ev_put]<;>rfl),(by simp[ev_c,ev_put]<;>rfl),(by simp only[ev_put];rfl)⟩
 ·rintro p s hp ⟨tm,h',ds,bA,nowV,wl,rfl,s',wy,g5,g3,nd,hds,hpos,t0,t3,t5,t27,t28⟩
  have hp':(p:Int)<(n:Int):=by omega
  have w':=s'.wf
  simp -implicitDefEqProofs(maxSteps:=999999)(disch:=first|with_reducible rfl|omega|(simp only[nA,nS,nD]<;>omega)|fail)only[go_sem,t27,t28,hp']
  refine(hpart2 h' s' p hp bA (h.next+2) h.next nowV (10000^p) wl wy (hM1 p (by omega)) g5 (by omega) g3 (by omega) _ (by simp[ev_c,ev_put,t0]<;>rfl) (by simp[ev_c,ev_put,t3]<;>rfl) (by simp[ev_c,ev_put,t5]<;>rfl) (by simp[ev_c,ev_put,t27]<;>rfl) (by simp[ev_c,ev_put,t28]<;>rfl) ds).mono fun x1 s1' hs=>?_
  obtain⟨rfl,tm1,h1',ul,bN,dd,nx,rfl,q1,q2,q3,q4,q5,q6,q7,r0',r3,r5,r27,r28⟩:=hs
  simp -implicitDefEqProofs(maxSteps:=999999)(disch:=first|with_reducible rfl|omega|(simp only[nA,nS,nD]<;>omega)|fail)only[go_sem,r28,wr_succ]
  refine⟨_,_,_,_,_,ul,rfl,q1,by rw[Int.pow_succ];exact q3,q4,q2.2 _ _ g3 (by omega),?_,fun c hc=>?_,fun hl=>q7 hl (hpos hl),(by simp[ev_c,ev_put,r0']<;>rfl),(by simp[ev_c,ev_put,r3]<;>rfl),(by simp[ev_c,ev_put,r5]<;>rfl),(by simp[ev_c,ev_put,r27]<;>rfl),(by simp[ev_c,ev_put]<;>rfl)⟩
  ·refine List.nodup_cons.2 ⟨fun hm=>?_,nd⟩
   have:=w' _ _ (hds _ hm).2
   omega
  ·rcases List.mem_cons.1 hc with rfl|hc
   ·exact⟨by have:=s'.next;omega,q6⟩
   ·obtain⟨h1,h2⟩:=hds _ hc
    exact⟨h1,q2.2 _ _ h2 fun e=>by subst e;rw[g5] at h2;cases h2⟩
 ·rintro s ⟨tm,h',ds,bA,nowV,wl,rfl,s',wy,g5,g3,nd,hds,hpos,t0,t3,t5,t27,t28⟩
  obtain⟨hF,e3,m1,m2,m3⟩:=marks_ok nd fun c hc=>(hds c hc).2
  obtain⟨x1,x2,x3⟩:=wy.x1
  simp -implicitDefEqProofs(maxSteps:=999999)(disch:=first|with_reducible rfl|omega|(simp only[nA,nS,nD]<;>omega)|fail)only[go_sem,t5,t27,t28,Int.lt_irrefl,cells_of g5,Kfin_rets _ _ _ e3]
  have sF:=marks_sub s' hw (fun c hc=>(hds c hc).1) m1 m2 m3
  have kF:Keeps (fun c=>c∈ds) h' hF:=⟨by rw[m3];exact Nat.le_refl _,fun c y hy hn=>by rw[m1 c hn];exact hy⟩
  refine q bA nowV wl hF sF (wy.keep kF sF (fun hm=>?_) fun c cs hc e=>?_) hpos
  ·have:=(hds _ hm).2
   rcases wy.v with⟨_,g⟩|⟨_,g⟩<;>rw[g] at this<;>cases this
  ·rw[(hds _ hc).2] at e;cases e
end Go.Ab.Tryz
