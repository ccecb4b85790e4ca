/- The law SilkProved, on our machine. Made. Read, Weighed. dry. SilkProved: the weighings of a mill of any kind; the proofs that are tried. SilkProved: the proofs that are tried never hold where weights fit. -/
import Derived.Test.YthoghcpemmfebaaGreatG5
import Derived.Test.YthoghcpemmfebaaGreatG7
set_option linter.unusedSimpArgs false
set_option linter.unusedVariables false
namespace Go.Ab
theorem Keeps.new {S:Nat→Prop}{h h':H}(hw:h.wf)(k:Keeps (fun c=>S c∨h.next≤c) h h'):Keeps S h h':=⟨k.1,fun c y e n=>k.2 c y e fun hs=>hs.elim n fun hge=>by have:=hw c y e;omega⟩
namespace Tryz
open Go.Ab.Silk
theorem whole_iff {m:Ml}{lot:Int}:(m.lots.any fun l=>decide (l.frm=lot))= !decide (parts m lot=[]):=by
 have e:(∃a∈m.lots,a.frm=lot)↔¬parts m lot=[]:=by
  constructor
  ·rintro⟨a,ha,e⟩ h
   obtain⟨j,hj,rfl⟩:=List.getElem_of_mem ha
   have:((j:Nat):Int)∈parts m lot:=mem_partsL.2 ⟨j,hj,by simp,e⟩
   rw[h] at this;simp at this
  ·intro h
   obtain⟨p,hp⟩:=List.exists_mem_of_ne_nil _ h
   obtain⟨j,hj,_,e⟩:=mem_partsL.1 hp
   exact⟨_,List.getElem_mem hj,e⟩
 rw[Bool.eq_iff_iff,List.any_eq_true]
 simp only[decide_eq_true_eq,Bool.not_eq_true',decide_eq_false_iff_not]
 exact e
theorem tab_at2 {n i:Nat}(h:i<n)(f:Int→Int):nth i (tab f n)=some (.int .i64 (f (i:Int))):=tab_nth f h
theorem tab_st2 {n i:Nat}(h:i<n)(f:Int→Int)(x:Int):putN i [.int .i64 x] (tab f n)=some (tab (fset f (i:Int) x) n):=tab_put f h x
theorem whole_ev {h:H}{v:V}{m:Ml}(hw:h.wf)(hm:MlIs h v m)(lot:Int)(Q:V→H→Prop)(q:∀h',h.Sub h'→Q (.bool (decide (parts m lot=[]))) h'):Ev fnG fastA (.fn 78 [] []) [v,.int .i64 lot] h Q:=by
 obtain⟨L,W,rfl,aL,aW⟩:=hm
 refine Ev_body (fd:=c78) rfl rfl rfl ?_
 have s1:h.Sub ((h.add (.cells .rw [.int .i64 m.errs,L,W])).add (.cells .rw [.int .i64 lot])):=(by repeat(first|assumption|exact H.Sub.refl (by assumption)|refine H.Sub.add ?_ _|refine H.Sub.set ?_ (by first|omega|(simp only[H.next_add,H.next_set,H.next_del]<;>omega)) (by first|omega|(simp only[H.next_add,H.next_set,H.next_del]<;>omega)) (by assumption) _))
 simp -implicitDefEqProofs(maxSteps:=999999)(disch:=first|with_reducible rfl|omega|(simp only[nA,nS,nD]<;>omega)|fail)only[c78,go_sem]
 have e1:((h.add (.cells .rw [.int .i64 m.errs,L,W])).add (.cells .rw [.int .i64 lot])).cells (h.next+1)=some [.int .i64 lot]:=by simp -implicitDefEqProofs(maxSteps:=999999)(disch:=first|with_reducible rfl|omega|(simp only[nA,nS,nD]<;>omega)|fail)only[go_sem]
 refine(containsFuncLot_ev (p:=fun l:Lt=>decide (l.frm=lot)) s1.wf (aL.mono s1) fun a _ h1 hs1=>?_).mono fun u h2 hu=>?_
 ·have e2:=hs1.cells e1
  obtain⟨_,b2⟩:=H.cells_eq e2
  have l2:=hs1.wf _ _ b2
  refine Ev.gen fun Q2 q2=>?_
  refine Ev_body (fd:=c126) rfl rfl rfl ?_
  simp -implicitDefEqProofs(maxSteps:=999999)(disch:=first|with_reducible rfl|omega|(simp only[nA,nS,nD]<;>omega)|fail)only[c126,go_sem,encL,e2]
  exact q2 _ _ ⟨rfl,(H.Sub.refl hs1.wf).add _⟩
 ·obtain⟨rfl,s2⟩:=hu
  simp -implicitDefEqProofs(maxSteps:=999999)(disch:=first|with_reducible rfl|omega|(simp only[nA,nS,nD]<;>omega)|fail)only[go_sem]
  have:=q h2 (s1.trans s2)
  rw[whole_iff,Bool.not_not];exact this
theorem spGet {h:H}{p:Nat}{x:V}{T:Int}(a:SpAt h p x T):h.get p=some (.cells .rw [x,.int .i64 T,.int .u64 (Classical.choose a)]):=Classical.choose_spec a
set_option maxRecDepth 4000 in
set_option maxHeartbeats 4000000 in
theorem Made_ev {h0 h:H}{p:Nat}{x:V}{bs:List Int}{T:Int}(hs:h0.Sub h)(hw0:h0.wf)(hx:SlAt h0 x 1 (bs.map encU8))(hp0:h0.next≤p)(hp:SpAt h p x T)(hT:0≤T∧T≤1000000){lots drams:Int}(hlots:1≤lots∧lots≤12)(hdr:0≤drams∧drams≤300)(Q:V→H→Prop)
  (q:∀e l r L b h' T',(0≤e∧e≤5)→(1≤l.length∧(l.length:Int)≤lots)→LotsOk l→RealI ⟨e,l,[]⟩ drams (-1) r→h0.Sub h'→SpAt h' p x T'→(0≤T'∧T'≤T+100)→Keeps (fun c=>c=p) h h'→SlAt h' L 2 (l.map encL)→L.one=true→(∀c,blkOf L c→c≠p∧h.next≤c)→h.next≤b→h'.get b=some (.cells .rw (tab r l.length))→
   Q (.tup [.agg [.int .i64 e,L,.nils],.sl b 0 l.length (.fix l.length)]) h'):Ev fnG fastA (.fn 18 [] []) [.ptr p 0,.int .i64 lots,.int .i64 drams] h Q:=by
 have hw:=hs.wf
 have hlp:=hw _ _ (spGet hp)
 refine Ev_body (fd:=c18) rfl rfl rfl ?_
 have sA:=(H.Sub.refl hw).add (.cells .rw [.int .i64 0,.nils,.nils])
 have gA:(h.add (.cells .rw [.int .i64 0,.nils,.nils])).get h.next=some (.cells .rw [.int .i64 0,.nils,.nils]):=get_add_new rfl
 simp -implicitDefEqProofs(maxSteps:=999999)(disch:=first|with_reducible rfl|omega|(simp only[nA,nS,nD]<;>omega)|fail)only[c18,go_sem]
 refine Upto_ev (hs.trans sA) hw0 hx hp0 (hp.mono sA) (by omega) (by omega) _ fun e h1 e0 e1 s1 p1 k1 n1=>?_
 have g1:=k1.2 _ _ gA (by omega)
 rw[H.next_add] at n1
 have sB:=(H.Sub.refl s1.wf).add (.cells .rw [.int .i64 e,.nils,.nils])
 have hB:(h1.add (.cells .rw [.int .i64 e,.nils,.nils])).get (h.next+1)=some (.cells .rw [.int .i64 e,.nils,.nils]):=get_add_new n1.symm
 simp -implicitDefEqProofs(maxSteps:=999999)(disch:=first|with_reducible rfl|omega|(simp only[nA,nS,nD]<;>omega)|fail)only[go_sem,n1]
 refine From_ev (s1.trans sB) hw0 hx hp0 (p1.mono sB) (by omega) (by omega) (by omega) _ fun N h2 N0 N1 s2 p2 k2 n2=>?_
 have g2:=k2.2 _ _ (sB.get g1) (by omega)
 have g82:=k2.2 _ _ hB (by omega)
 rw[H.next_add,n1] at n2
 obtain⟨Nn,rfl⟩:=Int.eq_ofNat_of_zero_le (show 0≤N by omega)
 have K2:Keeps (fun c=>c=p∨h.next≤c) h h2:=by
  refine((((Keeps.of sA (fun _=>False)).trans k1).trans (Keeps.of sB (fun _=>False))).trans k2).mono ?_
  rintro c (((h|h)|h)|h)
  ·exact h.elim
  ·exact .inl h
  ·exact h.elim
  ·exact .inl h
 simp -implicitDefEqProofs(maxSteps:=999999)(disch:=first|with_reducible rfl|omega|(simp only[nA,nS,nD]<;>omega)|fail)only[go_sem]
 refine W_count Nn (fun i s=>∃tm h' L l T',s=⟨tm,h',[]⟩∧h0.Sub h'∧OwnSl h0 h' L 2 (l.map encL)∧l.length=i∧LotsOk l∧SpAt h' p x T'∧0≤T'∧T'≤T+2+3*(i:Int)∧Keeps (fun c=>c=p∨h.next≤c) h h'∧h.next+1<h'.next∧h'.get h.next=some (.cells .rw [.int .i64 0,.nils,.nils])∧h'.get (h.next+1)=some (.cells .rw [.int .i64 e,L,.nils])∧(∀b,blkOf L b→h.next≤b)∧
   (Opd.t 0).ev tm=.ptr p 0∧(Opd.t 2).ev tm=.int .i64 drams∧(Opd.t 6).ev tm=.ptr h.next 0∧(Opd.t 8).ev tm=.ptr (h.next+1) 0∧(Opd.t 19).ev tm=.int .i64 (Nn:Int)∧(Opd.t 20).ev tm=.int .i64 (i:Int))
  ?_ ?_ (i:=0) (Nat.zero_le _) ⟨_,_,.nils,[],T+1+1,rfl,s2,OwnSl.nil s2 2,rfl,LotsOk.nil,p2,by omega,by omega,K2,by omega,g2,g82,fun b hb=>(blkOf_nils hb).elim,(by simp[ev_c,ev_put]<;>rfl),(by simp[ev_c,ev_put]<;>rfl),(by simp[ev_c,ev_put]<;>rfl),(by simp[ev_c,ev_put]<;>rfl),(by simp[ev_c,ev_put]<;>rfl),(by simp[ev_c,ev_put]<;>rfl)⟩
 ·rintro i s hi ⟨tm,hH,L,l,T',rfl,sH,oLH,hli,hlo,pH,T0,T1,KH,lt,g6H,g8H,oLN,t0,t2,t6,t8,t19,t20⟩
  have hi':(i:Int)<(Nn:Int):=by omega
  by_cases hi0:0<(i:Int)
  ·simp -implicitDefEqProofs(maxSteps:=999999)(disch:=first|with_reducible rfl|omega|(simp only[nA,nS,nD]<;>omega)|fail)only[go_sem,t0,t2,t6,t8,t19,t20,hi',hi0]
   refine Once_ev sH hw0 hx hp0 pH (by omega) (by omega) _ fun t h1' s1' p1' k1' n1'=>?_
   have oL1':=oLH.keep k1' s1' fun b hb e=>(oLH.ne (spGet pH)) (e▸hb)
   have g81':=k1'.2 _ _ g8H (by omega)
   have g61':=k1'.2 _ _ g6H (by omega)
   have K1':Keeps (fun c=>c=p∨h.next≤c) h h1':=(KH.trans k1').mono fun c hc=>hc.elim id .inl
   clear pH oLH g8H g6H KH sH s1
   cases t
   ·simp -implicitDefEqProofs(maxSteps:=999999)(disch:=first|with_reducible rfl|omega|(simp only[nA,nS,nD]<;>omega)|fail)only[go_sem,t0,t2,t6,t8,t19,t20,Bool.not_false,wr_in]
    refine From_ev s1' hw0 hx hp0 p1' (by omega) (by omega) (by omega) _ fun f h2' f0 f1 sH pH k2' n2'=>?_
    have oLH:=oL1'.keep k2' sH fun b hb e=>(oL1'.ne (spGet p1')) (e▸hb)
    have g8H:=k2'.2 _ _ g81' (by omega)
    have g6H:=k2'.2 _ _ g61' (by omega)
    have KH:Keeps (fun c=>c=p∨h.next≤c) h h2':=(K1'.trans k2').mono fun c hc=>hc.elim id .inl
    simp -implicitDefEqProofs(maxSteps:=999999)(disch:=first|with_reducible rfl|omega|(simp only[nA,nS,nD]<;>omega)|fail)only[go_sem,t0,t2,t6,t8,t19,t20,cells_of g8H]
    refine Upto_ev sH hw0 hx hp0 pH (by omega) (by omega) _ fun kd h3 kd0 kd1 s3 p3 k3 n3=>?_
    have oL3:=oLH.keep k3 s3 fun b hb e=>(oLH.ne (spGet pH)) (e▸hb)
    have g83:=k3.2 _ _ g8H (by omega)
    have g63:=k3.2 _ _ g6H (by omega)
    have L1:=OwnC.one oL3.c
    have sA:=(H.Sub.refl s3.wf).add (.cells .rw [.int .i64 f,.int .i64 kd])
    have hll:(l.map Go.Ab.Tryz.encL).length≤12:=by simp only[List.length_map];omega
    simp -implicitDefEqProofs(maxSteps:=999999)(disch:=first|with_reducible rfl|omega|(simp only[nA,nS,nD]<;>omega)|fail)only[go_sem,t0,t2,t6,t8,t19,t20,cells_of g8H,cells_of g83]
    refine(oL3.mono sA).app1 (r:=[.int .i64 f,.int .i64 kd]) hw0 rfl (by omega) (SlAt.new _ rfl rfl rfl (by simp) (by simp)) rfl (by omega) (by omega) fun h4 o4 k4 n4=>?_
    have g84:=k4.2 _ _ (sA.get g83) ((oL3.mono sA).ne (sA.get g83))
    have g64:=k4.2 _ _ (sA.get g63) ((oL3.mono sA).ne (sA.get g63))
    have p4:SpAt h4 p x ((T'+1+1)+1):=(p3.mono sA).keep k4 ((oL3.mono sA).ne (spGet (p3.mono sA)))
    have l4:=k4.1
    simp only[H.next_add] at n4 o4 l4
    have z84:=cells_of g84
    have K4:Keeps (fun c=>c=p∨h.next≤c) h h4:=by
     refine(((KH.trans k3).trans (Keeps.of sA (fun _=>False))).trans k4).mono ?_
     rintro c (((h|h)|h)|h)
     ·exact h
     ·exact .inl h
     ·exact h.elim
     ·exact .inr (by have:=(oLH.blk h).1;exact oLN c h)
    simp -implicitDefEqProofs(maxSteps:=999999)(disch:=first|with_reducible rfl|omega|(simp only[nA,nS,nD]<;>omega)|fail)only[go_sem,t0,t2,t6,t8,t19,t20,cells_of g8H,cells_of g83,(sA.cells (cells_of g83)),z84,g84,V.one,V.cells,wr_succ]
    refine⟨_,_,_,l++[⟨f,kd⟩],(T'+1+1)+1,rfl,o4.1.set (by omega) (by omega) hw0 _,?_,by simp[hli],hlo.snoc ⟨by omega,by omega⟩ ⟨by omega,by omega⟩,p4.keep (Keeps.set _ _ _) (by omega),by omega,by omega,(K4.trans (Keeps.set _ _ _)).mono ?_,by simp only[H.next_set];omega,by rw[get_set_other (by omega)];exact g64,get_set_same rfl,?_,(by simp[ev_c,ev_put,t0]<;>rfl),(by simp[ev_c,ev_put,t2]<;>rfl),(by simp[ev_c,ev_put,t6]<;>rfl),(by simp[ev_c,ev_put,t8]<;>rfl),(by simp[ev_c,ev_put,t19]<;>rfl),(by simp[ev_c,ev_put]<;>rfl)⟩
    ·rw[List.map_append]
     exact o4.keep (Keeps.set h4 (h.next+1) _) (o4.1.set (by omega) (by omega) hw0 _) fun b hb e=>(o4.ne g84) (e▸hb)
    ·rintro c (h|h)
     ·exact h
     ·exact .inr (by omega)
    ·rintro b ⟨_,_,_,e⟩;cases e;omega
   ·have sH:=s1'
    have pH:=p1'
    have oLH:=oL1'
    have g8H:=g81'
    have g6H:=g61'
    have KH:=K1'
    simp -implicitDefEqProofs(maxSteps:=999999)(disch:=first|with_reducible rfl|omega|(simp only[nA,nS,nD]<;>omega)|fail)only[go_sem,t0,t2,t6,t8,t19,t20,Bool.not_true,cells_of g8H]
    refine Upto_ev sH hw0 hx hp0 pH (by omega) (by omega) _ fun kd h3 kd0 kd1 s3 p3 k3 n3=>?_
    have oL3:=oLH.keep k3 s3 fun b hb e=>(oLH.ne (spGet pH)) (e▸hb)
    have g83:=k3.2 _ _ g8H (by omega)
    have g63:=k3.2 _ _ g6H (by omega)
    have L1:=OwnC.one oL3.c
    have sA:=(H.Sub.refl s3.wf).add (.cells .rw [.int .i64 (-1),.int .i64 kd])
    have hll:(l.map Go.Ab.Tryz.encL).length≤12:=by simp only[List.length_map];omega
    simp -implicitDefEqProofs(maxSteps:=999999)(disch:=first|with_reducible rfl|omega|(simp only[nA,nS,nD]<;>omega)|fail)only[go_sem,t0,t2,t6,t8,t19,t20,cells_of g8H,cells_of g83]
    refine(oL3.mono sA).app1 (r:=[.int .i64 (-1),.int .i64 kd]) hw0 rfl (by omega) (SlAt.new _ rfl rfl rfl (by simp) (by simp)) rfl (by omega) (by omega) fun h4 o4 k4 n4=>?_
    have g84:=k4.2 _ _ (sA.get g83) ((oL3.mono sA).ne (sA.get g83))
    have g64:=k4.2 _ _ (sA.get g63) ((oL3.mono sA).ne (sA.get g63))
    have p4:SpAt h4 p x ((T'+1)+1):=(p3.mono sA).keep k4 ((oL3.mono sA).ne (spGet (p3.mono sA)))
    have l4:=k4.1
    simp only[H.next_add] at n4 o4 l4
    have z84:=cells_of g84
    have K4:Keeps (fun c=>c=p∨h.next≤c) h h4:=by
     refine(((KH.trans k3).trans (Keeps.of sA (fun _=>False))).trans k4).mono ?_
     rintro c (((h|h)|h)|h)
     ·exact h
     ·exact .inl h
     ·exact h.elim
     ·exact .inr (by have:=(oLH.blk h).1;exact oLN c h)
    simp -implicitDefEqProofs(maxSteps:=999999)(disch:=first|with_reducible rfl|omega|(simp only[nA,nS,nD]<;>omega)|fail)only[go_sem,t0,t2,t6,t8,t19,t20,cells_of g8H,cells_of g83,(sA.cells (cells_of g83)),z84,g84,V.one,V.cells,wr_succ]
    refine⟨_,_,_,l++[⟨(-1),kd⟩],(T'+1)+1,rfl,o4.1.set (by omega) (by omega) hw0 _,?_,by simp[hli],hlo.snoc ⟨by omega,by omega⟩ ⟨by omega,by omega⟩,p4.keep (Keeps.set _ _ _) (by omega),by omega,by omega,(K4.trans (Keeps.set _ _ _)).mono ?_,by simp only[H.next_set];omega,by rw[get_set_other (by omega)];exact g64,get_set_same rfl,?_,(by simp[ev_c,ev_put,t0]<;>rfl),(by simp[ev_c,ev_put,t2]<;>rfl),(by simp[ev_c,ev_put,t6]<;>rfl),(by simp[ev_c,ev_put,t8]<;>rfl),(by simp[ev_c,ev_put,t19]<;>rfl),(by simp[ev_c,ev_put]<;>rfl)⟩
    ·rw[List.map_append]
     exact o4.keep (Keeps.set h4 (h.next+1) _) (o4.1.set (by omega) (by omega) hw0 _) fun b hb e=>(o4.ne g84) (e▸hb)
    ·rintro c (h|h)
     ·exact h
     ·exact .inr (by omega)
    ·rintro b ⟨_,_,_,e⟩;cases e;omega
  ·simp -implicitDefEqProofs(maxSteps:=999999)(disch:=first|with_reducible rfl|omega|(simp only[nA,nS,nD]<;>omega)|fail)only[go_sem,t0,t2,t6,t8,t19,t20,hi',hi0,cells_of g8H]
   refine Upto_ev sH hw0 hx hp0 pH (by omega) (by omega) _ fun kd h3 kd0 kd1 s3 p3 k3 n3=>?_
   have oL3:=oLH.keep k3 s3 fun b hb e=>(oLH.ne (spGet pH)) (e▸hb)
   have g83:=k3.2 _ _ g8H (by omega)
   have g63:=k3.2 _ _ g6H (by omega)
   have L1:=OwnC.one oL3.c
   have sA:=(H.Sub.refl s3.wf).add (.cells .rw [.int .i64 (-1),.int .i64 kd])
   have hll:(l.map Go.Ab.Tryz.encL).length≤12:=by simp only[List.length_map];omega
   simp -implicitDefEqProofs(maxSteps:=999999)(disch:=first|with_reducible rfl|omega|(simp only[nA,nS,nD]<;>omega)|fail)only[go_sem,t0,t2,t6,t8,t19,t20,cells_of g8H,cells_of g83]
   refine(oL3.mono sA).app1 (r:=[.int .i64 (-1),.int .i64 kd]) hw0 rfl (by omega) (SlAt.new _ rfl rfl rfl (by simp) (by simp)) rfl (by omega) (by omega) fun h4 o4 k4 n4=>?_
   have g84:=k4.2 _ _ (sA.get g83) ((oL3.mono sA).ne (sA.get g83))
   have g64:=k4.2 _ _ (sA.get g63) ((oL3.mono sA).ne (sA.get g63))
   have p4:SpAt h4 p x (T'+1):=(p3.mono sA).keep k4 ((oL3.mono sA).ne (spGet (p3.mono sA)))
   have l4:=k4.1
   simp only[H.next_add] at n4 o4 l4
   have z84:=cells_of g84
   have K4:Keeps (fun c=>c=p∨h.next≤c) h h4:=by
    refine(((KH.trans k3).trans (Keeps.of sA (fun _=>False))).trans k4).mono ?_
    rintro c (((h|h)|h)|h)
    ·exact h
    ·exact .inl h
    ·exact h.elim
    ·exact .inr (by have:=(oLH.blk h).1;exact oLN c h)
   simp -implicitDefEqProofs(maxSteps:=999999)(disch:=first|with_reducible rfl|omega|(simp only[nA,nS,nD]<;>omega)|fail)only[go_sem,t0,t2,t6,t8,t19,t20,cells_of g8H,cells_of g83,(sA.cells (cells_of g83)),z84,g84,V.one,V.cells,wr_succ]
   refine⟨_,_,_,l++[⟨(-1),kd⟩],T'+1,rfl,o4.1.set (by omega) (by omega) hw0 _,?_,by simp[hli],hlo.snoc ⟨by omega,by omega⟩ ⟨by omega,by omega⟩,p4.keep (Keeps.set _ _ _) (by omega),by omega,by omega,(K4.trans (Keeps.set _ _ _)).mono ?_,by simp only[H.next_set];omega,by rw[get_set_other (by omega)];exact g64,get_set_same rfl,?_,(by simp[ev_c,ev_put,t0]<;>rfl),(by simp[ev_c,ev_put,t2]<;>rfl),(by simp[ev_c,ev_put,t6]<;>rfl),(by simp[ev_c,ev_put,t8]<;>rfl),(by simp[ev_c,ev_put,t19]<;>rfl),(by simp[ev_c,ev_put]<;>rfl)⟩
   ·rw[List.map_append]
    exact o4.keep (Keeps.set h4 (h.next+1) _) (o4.1.set (by omega) (by omega) hw0 _) fun b hb e=>(o4.ne g84) (e▸hb)
   ·rintro c (h|h)
    ·exact h
    ·exact .inr (by omega)
   ·rintro b ⟨_,_,_,e⟩;cases e;omega
 ·rintro s ⟨tm,hH,L,l,T',rfl,sH,oLH,hli,hlo,pH,T0,T1,KH,lt,g6H,g8H,oLN,t0,t2,t6,t8,t19,t20⟩
  subst hli
  have hN:l.length≤12:=by omega
  have L1:=OwnC.one oLH.c
  have aLH:=oLH.sl (by simp only[List.length_map];omega)
  have hlenL:=aLH.lenE
  obtain⟨m,em⟩:∃m:Ml,m=⟨e,l,[]⟩:=⟨_,rfl⟩
  have em1:m.lots=l:=by rw[em]
  have em2:m.wgs=[]:=by rw[em]
  have em3:m.errs=e:=by rw[em]
  have g:Good m:=by rw[em];exact good_made (by omega) (by omega) hlo
  have F:=forest g
  have nLp:∀b,blkOf L b→b≠p:=fun b hb e=>(oLH.ne (spGet pH)) (e▸hb)
  have nLR:∀b,blkOf L b→b<hH.next:=fun b hb=>(oLH.blk hb).2.1
  have nLt:∀b,blkOf L b→b≠h.next+1∧b≠h.next:=fun b hb=>⟨fun e=>(oLH.ne g8H) (e▸hb),fun e=>(oLH.ne g6H) (e▸hb)⟩
  have hz:=tab_zero l.length
  have sR:=(H.Sub.refl sH.wf).add (.cells .rw (tab (fun _=>0) l.length))
  have gR:(hH.add (.cells .rw (tab (fun _=>0) l.length))).get hH.next=some (.cells .rw (tab (fun _=>0) l.length)):=get_add_new rfl
  have lR:(hH.add (.cells .rw (tab (fun _=>0) l.length))).next=hH.next+1:=H.next_add _ _
  simp -implicitDefEqProofs(maxSteps:=999999)(disch:=first|with_reducible rfl|omega|(simp only[nA,nS,nD]<;>omega)|fail)only[go_sem,t0,t2,t6,t8,t19,t20,Int.lt_irrefl,cells_of g8H,hlenL,a_msl_nm,hz]
  generalize hH.add (.cells .rw (tab (fun _=>0) l.length))=hR at sR gR lR⊢
  have g8R:=sR.get g8H
  have KR:Keeps (fun c=>c=p∨h.next≤c) h hR:=(KH.trans (Keeps.of sR (fun _=>False))).mono fun c hc=>hc.elim id False.elim
  simp -implicitDefEqProofs(maxSteps:=999999)(disch:=first|with_reducible rfl|omega|(simp only[nA,nS,nD]<;>omega)|fail)only[go_sem,t0,t2,t6,t8,cells_of g8R,hlenL,wr_in]
  refine W_loop (fun k s=>∃(tm:Go.Ab.T V) (h':H) (i:Int) (r:Int→Int) (T':Int),s=⟨tm,h',[]⟩∧ -1≤i∧i<(l.length:Int)∧(k:Int)=i+1∧RealI m drams i r∧h0.Sub h'∧SlAt h' L 2 (l.map encL)∧SpAt h' p x T'∧0≤T'∧T'≤T+2+3*(l.length:Int)+((l.length:Int)-1-i)∧Keeps (fun c=>c=p∨h.next≤c) h h'∧hH.next<h'.next∧
    h'.get h.next=some (.cells .rw [.int .i64 0,.nils,.nils])∧h'.get (h.next+1)=some (.cells .rw [.int .i64 e,L,.nils])∧h'.get hH.next=some (.cells .rw (tab r l.length))∧
    (Opd.t 0).ev tm=.ptr p 0∧(Opd.t 2).ev tm=.int .i64 drams∧(Opd.t 6).ev tm=.ptr h.next 0∧(Opd.t 8).ev tm=.ptr (h.next+1) 0∧(Opd.t 11).ev tm=.sl hH.next 0 l.length (.fix l.length)∧(Opd.t 12).ev tm=.int .i64 i)
   ?_ l.length _ ⟨_,_,(l.length:Int)-1,fun _=>0,T',rfl,by omega,by omega,by omega,by have:=RealI.start (D:=drams) g;rw[em1] at this;exact this,sH.trans sR,aLH.mono sR,pH.mono sR,T0,by omega,KR,by omega,sR.get g6H,g8R,gR,(by simp[ev_c,ev_put,t0]<;>rfl),(by simp[ev_c,ev_put,t2]<;>rfl),(by simp[ev_c,ev_put,t6]<;>rfl),(by simp[ev_c,ev_put,t8]<;>rfl),(by simp[ev_c,ev_put]<;>rfl),(by simp[ev_c,ev_put]<;>rfl)⟩
  clear t0 t2 t6 t8 t19 t20 gR g8R sR lR KR pH oLH
  rintro k s ⟨tm,h',i,r,T2,rfl,i0,i1,hk,hI,s',aL',p',T20,T21,K',lt',g6',g8',gR',t0,t2,t6,t8,t11,t12⟩
  by_cases hi0:0≤i
  ·obtain⟨ii,rfl⟩:=Int.eq_ofNat_of_zero_le hi0
   have hii:ii<l.length:=by omega
   have hiim:ii<m.lots.length:=by rw[em1];exact hii
   have hi1m:(ii:Int)<m.lots.length:=by omega
   have hmI:∀hh:H,SlAt hh L 2 (l.map encL)→MlIs hh (.agg [.int .i64 e,L,.nils]) m:=fun hh a=>⟨L,.nils,by rw[em3],by rw[em1];exact a,by rw[em2];exact⟨by simp,by simp,.inl ⟨rfl,rfl⟩⟩⟩
   obtain⟨J,hJ⟩:∃J:St→Prop,∀s,J s↔∃tm h2 r1 d T3,s=⟨tm,h2,[]⟩∧(0≤d∧d≤drams)∧r1=(if parts m (ii:Int)=[] then up1 r (ii:Int) d else r)∧h0.Sub h2∧SlAt h2 L 2 (l.map encL)∧SpAt h2 p x T3∧0≤T3∧T3≤T2+1∧Keeps (fun c=>c=p∨h.next≤c) h h2∧hH.next<h2.next∧
     h2.get h.next=some (.cells .rw [.int .i64 0,.nils,.nils])∧h2.get (h.next+1)=some (.cells .rw [.int .i64 e,L,.nils])∧h2.get hH.next=some (.cells .rw (tab r1 l.length))∧
     (Opd.t 0).ev tm=.ptr p 0∧(Opd.t 2).ev tm=.int .i64 drams∧(Opd.t 6).ev tm=.ptr h.next 0∧(Opd.t 8).ev tm=.ptr (h.next+1) 0∧(Opd.t 11).ev tm=.sl hH.next 0 l.length (.fix l.length)∧(Opd.t 12).ev tm=.int .i64 (ii:Int):=⟨_,fun _=>Iff.rfl⟩
   simp -implicitDefEqProofs(maxSteps:=999999)(disch:=first|with_reducible rfl|omega|(simp only[nA,nS,nD]<;>omega)|fail)only[go_sem,t0,t2,t6,t8,t11,t12,hi0,cells_of g8']
   refine whole_ev s'.wf (hmI _ aL') (ii:Int) _ fun h2 s2'=>?_
   have K2':Keeps (fun c=>c=p∨h.next≤c) h h2:=(K'.trans (Keeps.of s2' (fun _=>False))).mono fun c hc=>hc.elim id False.elim
   have l2':=s2'.next
   simp -implicitDefEqProofs(maxSteps:=999999)(disch:=first|with_reducible rfl|omega|(simp only[nA,nS,nD]<;>omega)|fail)only[go_sem]
   refine PB_cut (p:=parts m (ii:Int)=[]) J ?_ ?_ ?_
   ·intro hp
    simp -implicitDefEqProofs(maxSteps:=999999)(disch:=first|with_reducible rfl|omega|(simp only[nA,nS,nD]<;>omega)|fail)only[go_sem,t0,t2,t6,t8,t11,t12]
    refine Upto_ev (s'.trans s2') hw0 hx hp0 (p'.mono s2') (by omega) (by omega) _ fun d h3 d0 d1 s3 p3 k3 n3=>?_
    have g63:=k3.2 _ _ (s2'.get g6') (by omega)
    have g83:=k3.2 _ _ (s2'.get g8') (by omega)
    have gR3:=k3.2 _ _ (s2'.get gR') (by have:=KH.1;omega)
    have a3:=SlAt_keep (aL'.mono s2') k3 fun b hb e=>nLp b hb e
    simp -implicitDefEqProofs(maxSteps:=999999)(disch:=first|with_reducible rfl|omega|(simp only[nA,nS,nD]<;>omega)|fail)only[go_sem,t0,t2,t6,t8,t11,t12,q_iad_sl (nat_cst ii) hii,Nat.mul_one,gR3,tab_st2 hii]
    have K3:Keeps (fun c=>c=p∨h.next≤c) h (h3.set hH.next (.cells .rw (tab (fset r (ii:Int) d) l.length))):=((K2'.trans k3).trans (Keeps.set _ _ _)).mono (by
     rintro c ((h|h)|h)
     ·exact h
     ·exact .inl h
     ·exact .inr (by have:=KH.1;omega))
    have hb0:h0.next≤hH.next:=by have:=hs.next;have:=KH.1;omega
    exact⟨rfl,(hJ _).2 ⟨_,_,fset r (ii:Int) d,d,T2+1,rfl,⟨d0,by omega⟩,by rw[if_pos hp];rfl,s3.set hb0 (by omega) hw0 _,SlAt_keep a3 (Keeps.set _ _ _) fun b hb e=>by have:=nLR b hb;omega,p3.keep (Keeps.set _ _ _) (by have:=KH.1;omega),by omega,by omega,K3,by rw[H.next_set];omega,
     by rw[get_set_other (by omega)];exact g63,by rw[get_set_other (by omega)];exact g83,get_set_same rfl,(by simp[ev_c,ev_put,t0]<;>rfl),(by simp[ev_c,ev_put,t2]<;>rfl),(by simp[ev_c,ev_put,t6]<;>rfl),(by simp[ev_c,ev_put,t8]<;>rfl),(by simp[ev_c,ev_put,t11]<;>rfl),(by simp[ev_c,ev_put,t12]<;>rfl)⟩⟩
   ·intro hp
    simp -implicitDefEqProofs(maxSteps:=999999)(disch:=first|with_reducible rfl|omega|(simp only[nA,nS,nD]<;>omega)|fail)only[go_sem]
    exact⟨rfl,(hJ _).2 ⟨_,_,r,0,T2,rfl,⟨by omega,by omega⟩,by rw[if_neg hp],s'.trans s2',aL'.mono s2',p'.mono s2',T20,by omega,K2',by omega,s2'.get g6',s2'.get g8',s2'.get gR',(by simp[ev_c,ev_put,t0]<;>rfl),(by simp[ev_c,ev_put,t2]<;>rfl),(by simp[ev_c,ev_put,t6]<;>rfl),(by simp[ev_c,ev_put,t8]<;>rfl),(by simp[ev_c,ev_put,t11]<;>rfl),(by simp[ev_c,ev_put,t12]<;>rfl)⟩⟩
   ·clear t0 t2 t6 t8 t11 t12 g6' g8' gR' aL' p' s2' K2' l2' K' lt' s'
    intro s hs2
    obtain⟨tm,h2,r1,d,T3,rfl,hd,e1,s2,a2,p2',T30,T31,K2',lt2,g62,g82',gR2,t0,t2,t6,t8,t11,t12⟩:=(hJ s).1 hs2
    have hf:frmAt m (ii:Int)=l[ii].frm:=by rw[frmAt_nat hiim];simp only[em1]
    obtain⟨b3,o3,c3,cs3,e3,hcs3,hq3,hgg3,hn3,hn03⟩:=a2.at hii
    have hlow:=frmAt_lt g hi0 hi1m
    have hpush:=hI.push g hi0 hi1m hd e1 (r2:=if frmAt m (ii:Int)= -1 then r1 else up1 r1 (frmAt m (ii:Int)) (r1 (frmAt m (ii:Int))+r1 (ii:Int))) rfl
    obtain⟨hI2,hbd⟩:=hpush
    rw[em1] at hbd
    have hD:drams*((l.length:Int)-(ii:Int))≤300*12:=Int.le_trans (Int.mul_le_mul_of_nonneg_right hdr.2 (by omega)) (by omega)
    rw[hf] at hI2 hbd hlow
    by_cases hr:l[ii].frm= -1
    ·rw[if_pos hr] at hI2
     simp -implicitDefEqProofs(maxSteps:=999999)(disch:=first|with_reducible rfl|omega|(simp only[nA,nS,nD]<;>omega)|fail)only[go_sem,t0,t2,t6,t8,t11,t12,cells_of g82',hq3 (nat_cst ii),hcs3,hn03 (by omega),encL,hr,ne_eq,not_true_eq_false,wr_in]
     exact⟨ii,by omega,_,_,(ii:Int)-1,r1,T3,rfl,by omega,by omega,by omega,hI2,s2,a2,p2',T30,by omega,K2',lt2,g62,g82',gR2,(by simp[ev_c,ev_put,t0]<;>rfl),(by simp[ev_c,ev_put,t2]<;>rfl),(by simp[ev_c,ev_put,t6]<;>rfl),(by simp[ev_c,ev_put,t8]<;>rfl),(by simp[ev_c,ev_put,t11]<;>rfl),(by simp[ev_c,ev_put]<;>rfl)⟩
    ·rw[if_neg hr] at hI2
     have hbd2:=hbd hr
     obtain⟨ff,ef⟩:=Int.eq_ofNat_of_zero_le (show 0≤l[ii].frm by omega)
     rw[ef] at hI2 hbd2 hlow
     have hff:ff<l.length:=by omega
     have hr':¬(ff:Int)= -1:=by omega
     simp -implicitDefEqProofs(maxSteps:=999999)(disch:=first|with_reducible rfl|omega|(simp only[nA,nS,nD]<;>omega)|fail)only[go_sem,t0,t2,t6,t8,t11,t12,cells_of g82',hq3 (nat_cst ii),hcs3,hn03 (by omega),encL,ef,hr',ne_eq,not_false_eq_true,q_iad_sl (nat_cst ii) hii,q_iad_sl (nat_cst ff) hff,Nat.mul_one,cells_of gR2,gR2,tab_at2 hii,tab_at2 hff,tab_st2 hff,wr_in]
     have hb0:h0.next≤hH.next:=by have:=hs.next;have:=KH.1;omega
     have K3:Keeps (fun c=>c=p∨h.next≤c) h (h2.set hH.next (.cells .rw (tab (fset r1 (ff:Int) (r1 (ff:Int)+r1 (ii:Int))) l.length))):=(K2'.trans (Keeps.set _ _ _)).mono (by
      rintro c (h|h)
      ·exact h
      ·exact .inr (by have:=KH.1;omega))
     exact⟨ii,by omega,_,_,(ii:Int)-1,fset r1 (ff:Int) (r1 (ff:Int)+r1 (ii:Int)),T3,rfl,by omega,by omega,by omega,hI2,s2.set hb0 (by omega) hw0 _,SlAt_keep a2 (Keeps.set _ _ _) fun b hb e=>by have:=nLR b hb;omega,p2'.keep (Keeps.set _ _ _) (by have:=KH.1;omega),T30,by omega,K3,by rw[H.next_set];omega,
      by rw[get_set_other (by omega)];exact g62,by rw[get_set_other (by omega)];exact g82',get_set_same rfl,(by simp[ev_c,ev_put,t0]<;>rfl),(by simp[ev_c,ev_put,t2]<;>rfl),(by simp[ev_c,ev_put,t6]<;>rfl),(by simp[ev_c,ev_put,t8]<;>rfl),(by simp[ev_c,ev_put,t11]<;>rfl),(by simp[ev_c,ev_put]<;>rfl)⟩
  ·have hi1':i= -1:=by omega
   subst hi1'
   have hn1:¬(0:Int)≤ -1:=by omega
   simp -implicitDefEqProofs(maxSteps:=999999)(disch:=first|with_reducible rfl|omega|(simp only[nA,nS,nD]<;>omega)|fail)only[go_sem,t0,t2,t6,t8,t11,t12,hn1,cells_of g8',g6',L1,cells_one L1]
   have hb0:h0.next≤h.next:=hs.next
   have K3:Keeps (fun c=>c=p) h (h'.set h.next (.cells .rw [.int .i64 e,L,.nils])):=Keeps.new hw ((K'.trans (Keeps.set _ _ _)).mono (by
    rintro c (h|h)
    ·exact h
    ·exact .inr (by omega)))
   exact q e l r L hH.next _ T2 ⟨e0,by omega⟩ ⟨by omega,by omega⟩ hlo (by rw[←em];exact hI) (s'.set hb0 (by omega) hw0 _) (p'.keep (Keeps.set _ _ _) (by omega)) ⟨T20,by omega⟩ K3 (SlAt_keep aL' (Keeps.set _ _ _) fun b hb e=>(nLt b hb).2 e) L1 (fun c hc=>⟨nLp c hc,oLN c hc⟩) (by have:=KH.1;omega) (by rw[get_set_other (by omega)];exact gR')
end Tryz
end Go.Ab
namespace Go.Ab.Tryz
open Go.Ab.Silk
set_option maxHeartbeats 1000000 in
theorem Read_ev {h0 h:H}{p:Nat}{x L W:V}{bs:List Int}{T e:Int}(hs:h0.Sub h)(hw0:h0.wf)(hx:SlAt h0 x 1 (bs.map encU8))(hp0:h0.next≤p)(hp:SpAt h p x T)(hT:0≤T∧T≤1000000)(hL:L.one=true)(hW:W.one=true)(he:0≤e∧e≤50)(lot:Int){dry:Int}(hd:0≤dry∧dry≤100000)(Q:V→H→Prop)
  (q:∀(w:Wg) h',w.lot=lot→(0≤w.reads∧w.reads≤10000)→(0≤w.lo∧w.lo≤w.hi∧w.hi≤60)→h0.Sub h'→SpAt h' p x (T+4)→Keeps (fun c=>c=p) h h'→Q (.agg (encW w)) h'):Ev fnG fastA (.fn 20 [] []) [.ptr p 0,.agg [.int .i64 e,L,W],.int .i64 lot,.int .i64 dry] h Q:=by
 have hw:=hs.wf
 have hlp:=hw _ _ (spGet hp)
 refine Ev_body (fd:=c20) rfl rfl rfl ?_
 have sA:=((H.Sub.refl hw).add (.cells .rw [.int .i64 e,L,W])).add (.cells .rw [.int .i64 0,.int .i64 0,.int .i64 0,.int .i64 0])
 have gm:((h.add (.cells .rw [.int .i64 e,L,W])).add (.cells .rw [.int .i64 0,.int .i64 0,.int .i64 0,.int .i64 0])).get h.next=some (.cells .rw [.int .i64 e,L,W]):=by simp -implicitDefEqProofs(maxSteps:=999999)(disch:=first|with_reducible rfl|omega|(simp only[nA,nS,nD]<;>omega)|fail)only[go_sem]
 have gr:((h.add (.cells .rw [.int .i64 e,L,W])).add (.cells .rw [.int .i64 0,.int .i64 0,.int .i64 0,.int .i64 0])).get (h.next+1)=some (.cells .rw [.int .i64 0,.int .i64 0,.int .i64 0,.int .i64 0]):=by simp -implicitDefEqProofs(maxSteps:=999999)(disch:=first|with_reducible rfl|omega|(simp only[nA,nS,nD]<;>omega)|fail)only[go_sem]
 have lA:((h.add (.cells .rw [.int .i64 e,L,W])).add (.cells .rw [.int .i64 0,.int .i64 0,.int .i64 0,.int .i64 0])).next=h.next+2:=by simp only[H.next_add]
 simp -implicitDefEqProofs(maxSteps:=999999)(disch:=first|with_reducible rfl|omega|(simp only[nA,nS,nD]<;>omega)|fail)only[c20,go_sem,hL,hW,cells_one hL,cells_one hW]
 generalize((h.add (.cells .rw [.int .i64 e,L,W])).add (.cells .rw [.int .i64 0,.int .i64 0,.int .i64 0,.int .i64 0]))=hA at sA gm gr lA⊢
 have KA:Keeps (fun c=>c=p∨h.next≤c) h hA:=(Keeps.of sA (fun _=>False)).mono fun c hc=>hc.elim
 refine Upto_ev (hs.trans sA) hw0 hx hp0 (hp.mono sA) (by omega) (by omega) _ fun lo h1 lo0 lo1 s1 p1 k1 n1=>?_
 simp -implicitDefEqProofs(maxSteps:=999999)(disch:=first|with_reducible rfl|omega|(simp only[nA,nS,nD]<;>omega)|fail)only[go_sem,wr_in]
 refine From_ev s1 hw0 hx hp0 p1 (by omega) (by omega) (by omega) _ fun hi h2 hi0 hi1 s2 p2 k2 n2=>?_
 simp -implicitDefEqProofs(maxSteps:=999999)(disch:=first|with_reducible rfl|omega|(simp only[nA,nS,nD]<;>omega)|fail)only[go_sem,wr_in]
 refine From_ev s2 hw0 hx hp0 p2 (by omega) (by omega) (by omega) _ fun re h3 re0 re1 s3 p3 k3 n3=>?_
 have k13:=(k1.trans k2).trans k3
 have gm3:=k13.2 _ _ gm (by omega)
 have hmul:0≤dry*(100+re)∧dry*(100+re)≤100000*160:=⟨Int.mul_nonneg hd.1 (by omega),by
  have h1:dry*(100+re)≤100000*(100+re):=Int.mul_le_mul_of_nonneg_right hd.2 (by omega)
  have h2:(100000:Int)*(100+re)≤100000*160:=Int.mul_le_mul_of_nonneg_left (by omega) (by omega)
  omega⟩
 have hq:=tdiv_le (a:=dry*(100+re)+50) (b:=100) (by omega) (by omega)
 have n100:(100:Int)≠0:=by omega
 simp -implicitDefEqProofs(maxSteps:=999999)(disch:=first|with_reducible rfl|omega|(simp only[nA,nS,nD]<;>omega)|fail)only[go_sem,wr_in,q_ar_quo .i64 n100,cells_of gm3]
 refine From_ev s3 hw0 hx hp0 p3 (by omega) (by omega) (by omega) _ fun er h4 er0 er1 s4 p4 k4 n4=>?_
 have k14:=k13.trans k4
 have gr4:=k14.2 _ _ gr (by omega)
 simp -implicitDefEqProofs(maxSteps:=999999)(disch:=first|with_reducible rfl|omega|(simp only[nA,nS,nD]<;>omega)|fail)only[go_sem,wr_in,gr4]
 have K5:Keeps (fun c=>c=p) h (h4.set (h.next+1) (.cells .rw [.int .i64 lot,.int .i64 (min 10000 (max 0 ((dry*(100+re)+50).tdiv 100+er))),.int .i64 lo,.int .i64 hi])):=Keeps.new hw (((KA.trans k14).trans (Keeps.set _ _ _)).mono (by
  rintro c ((h|(((h|h)|h)|h))|h)
  ·exact h
  ·exact .inl h
  ·exact .inl h
  ·exact .inl h
  ·exact .inl h
  ·exact .inr (by omega)))
 have hb0:=hs.next
 have hp4:SpAt h4 p x (T+4):=by
  have e4:T+1+1+1+1=T+4:=by omega
  rw[←e4];exact p4
 exact q ⟨lot,_,lo,hi⟩ _ rfl ⟨by simp only;omega,by simp only;omega⟩ ⟨by simp only;omega,by simp only;omega,by simp only;omega⟩ (s4.set (by omega) (by have:=k14.1;omega) hw0 _) (hp4.keep (Keeps.set _ _ _) (by omega)) K5
end Go.Ab.Tryz
namespace Go.Ab.Tryz
open Go.Ab.Silk
theorem wOfL_bd {ws:List Int}(h:∀i (hi:i<ws.length),0≤ws[i]∧ws[i]≤10000)(p:Int):0≤wOfL ws p∧wOfL ws p≤10000:=by
 unfold wOfL
 rw[List.getD_eq_getElem?_getD]
 by_cases hp:p.toNat<ws.length
 ·rw[List.getElem?_eq_getElem hp];exact h _ hp
 ·rw[List.getElem?_eq_none (by omega)];simp
theorem sumW_bd {x:Int→Int}(h:∀p,0≤x p∧x p≤10000):∀l:List Int,0≤sumL x l∧sumL x l≤10000*(l.length:Int)
 |[]=>by simp[sumL]
 |a::l=>by
  have ih:=sumW_bd h l
  have:=h a
  simp only[sumL,List.length_cons];omega
theorem partsL_take {m:Ml}{k:Int}{i:Nat}(h:i<m.lots.length):partsL k (m.lots.take (i+1)) 0=partsL k (m.lots.take i) 0++(if m.lots[i].frm=k then[(i:Int)] else[]):=by
 rw[List.take_succ_eq_append_getElem h,partsL_app]
 simp only[partsL,List.length_take,Nat.zero_add,Nat.min_eq_left (Nat.le_of_lt h)]
set_option maxHeartbeats 2000000 in
theorem dry_ev {h:H}{v K:V}{m:Ml}{ws:List Int}(hw:h.wf)(hm:MlIs h v m)(g:Good m)(hk:SlAt h K 1 (ws.map encI))(hp:FitsP m ws)(Q:V→H→Prop)(q:∀h',h.Sub h'→Q (.bool true) h'):Ev fnG fastA (.fn 27 [] []) [v,K] h Q:=by
 have hm0:=hm
 obtain⟨L,W,rfl,aL,aW⟩:=hm
 have gl:=g.lots
 obtain⟨hlen,hrg,hnode,hsay⟩:=(fitsP_iff g).1 hp
 have hlenL:=aL.lenE
 have hlenK:=hk.lenE
 rw[hlen] at hlenK
 have K1:=hk.one
 have hz:=tab_zero m.lots.length
 have F:=forest g
 have hwb:=wOfL_bd hrg
 refine Ev_body (fd:=c27) rfl rfl rfl ?_
 have sA:h.Sub (((h.add (.cells .rw [.int .i64 m.errs,L,W])).add (.cells .rw [K])).add (.cells .rw (tab (fun _=>0) m.lots.length))):=(by repeat(first|assumption|exact H.Sub.refl (by assumption)|refine H.Sub.add ?_ _|refine H.Sub.set ?_ (by first|omega|(simp only[H.next_add,H.next_set,H.next_del]<;>omega)) (by first|omega|(simp only[H.next_add,H.next_set,H.next_del]<;>omega)) (by assumption) _))
 have g2:(((h.add (.cells .rw [.int .i64 m.errs,L,W])).add (.cells .rw [K])).add (.cells .rw (tab (fun _=>0) m.lots.length))).get h.next=some (.cells .rw [.int .i64 m.errs,L,W]):=by simp -implicitDefEqProofs(maxSteps:=999999)(disch:=first|with_reducible rfl|omega|(simp only[nA,nS,nD]<;>omega)|fail)only[go_sem]
 have g3:(((h.add (.cells .rw [.int .i64 m.errs,L,W])).add (.cells .rw [K])).add (.cells .rw (tab (fun _=>0) m.lots.length))).get (h.next+1)=some (.cells .rw [K]):=by simp -implicitDefEqProofs(maxSteps:=999999)(disch:=first|with_reducible rfl|omega|(simp only[nA,nS,nD]<;>omega)|fail)only[go_sem]
 have g5:(((h.add (.cells .rw [.int .i64 m.errs,L,W])).add (.cells .rw [K])).add (.cells .rw (tab (fun _=>0) m.lots.length))).get (h.next+2)=some (.cells .rw (tab (fun _=>0) m.lots.length)):=get_add_new (by simp only[H.next_add])
 have lA:(((h.add (.cells .rw [.int .i64 m.errs,L,W])).add (.cells .rw [K])).add (.cells .rw (tab (fun _=>0) m.lots.length))).next=h.next+3:=by simp only[H.next_add]
 simp -implicitDefEqProofs(maxSteps:=999999)(disch:=first|with_reducible rfl|omega|(simp only[nA,nS,nD]<;>omega)|fail)only[c27,go_sem,hlenK,hlenL,K1,cells_one K1,a_msl_nm,hz,ne_eq,not_true_eq_false]
 generalize(((h.add (.cells .rw [.int .i64 m.errs,L,W])).add (.cells .rw [K])).add (.cells .rw (tab (fun _=>0) m.lots.length)))=hA at sA g2 g3 g5 lA⊢
 refine W_count m.lots.length (fun i s=>∃tm h',s=⟨tm,h',[]⟩∧h.Sub h'∧h'.next=h.next+3∧h'.get h.next=some (.cells .rw [.int .i64 m.errs,L,W])∧h'.get (h.next+1)=some (.cells .rw [K])∧h'.get (h.next+2)=some (.cells .rw (tab (fun k=>sumL (wOfL ws) (partsL k (m.lots.take i) 0)) m.lots.length))∧
   (Opd.t 2).ev tm=.ptr h.next 0∧(Opd.t 3).ev tm=.ptr (h.next+1) 0∧(Opd.t 5).ev tm=.sl (h.next+2) 0 m.lots.length (.fix m.lots.length)∧(Opd.t 20).ev tm=K∧(Opd.t 21).ev tm=.int .i64 (m.lots.length:Int)∧(Opd.t 22).ev tm=.int .i64 (i:Int))
  ?_ ?_ (i:=0) (Nat.zero_le _) ⟨_,_,rfl,sA,lA,g2,g3,by simpa[partsL,sumL] using g5,(by simp[ev_c,ev_put]<;>rfl),(by simp[ev_c,ev_put]<;>rfl),(by simp[ev_c,ev_put]<;>rfl),(by simp[ev_c,ev_put]<;>rfl),(by simp[ev_c,ev_put]<;>rfl),(by simp[ev_c,ev_put]<;>rfl)⟩
 ·rintro i s hi ⟨tm,h',rfl,hs,ln,g2',g3',g5',t2,t3,t5,t20,t21,t22⟩
  have hi':(i:Int)<(m.lots.length:Int):=by omega
  have hik:i<ws.length:=by omega
  obtain⟨bK,oK,cK,csK,eK,hcsK,hqK,hgK,hnK,hnK0⟩:=(hk.mono hs).at hik
  have vK:nth (oK+i) csK=some (.int .i64 ws[i]):=by have:=hnK0 (by omega);rw[Nat.mul_one] at this;exact this
  rw[Nat.mul_one] at hqK
  obtain⟨bL,oL,cL,csL,eL,hcsL,hqL,hgL,hnL,hnL0⟩:=(aL.mono hs).at hi
  have hr:=hrg i hik
  have z1:¬ws[i]<0:=by omega
  have z2:¬10000<ws[i]:=by omega
  have hfr:=g.frm i hi
  have hwi:wOfL ws (i:Int)=ws[i]:=wOfL_at hik
  by_cases hf:m.lots[i].frm= -1
  ·have e1:tab (fun k=>sumL (wOfL ws) (partsL k (m.lots.take i) 0)) m.lots.length=tab (fun k=>sumL (wOfL ws) (partsL k (m.lots.take (i+1)) 0)) m.lots.length:=tab_congr fun k k0 k1=>by
    rw[partsL_take hi,if_neg (by omega),List.append_nil]
   rw[e1] at g5'
   simp -implicitDefEqProofs(maxSteps:=999999)(disch:=first|with_reducible rfl|omega|(simp only[nA,nS,nD]<;>omega)|fail)only[go_sem,t2,t3,t5,t20,t21,t22,hi',hqK (nat_cst i),hcsK,vK,z1,z2,cells_of g2',hqL (nat_cst i),hcsL,hnL0 (by omega),encL,hf,ne_eq,not_true_eq_false,wr_succ]
   exact⟨_,_,rfl,hs,ln,g2',g3',g5',(by simp[ev_c,ev_put,t2]<;>rfl),(by simp[ev_c,ev_put,t3]<;>rfl),(by simp[ev_c,ev_put,t5]<;>rfl),(by simp[ev_c,ev_put,t20]<;>rfl),(by simp[ev_c,ev_put,t21]<;>rfl),(by simp[ev_c,ev_put]<;>rfl)⟩
  ·obtain⟨ff,ef⟩:=Int.eq_ofNat_of_zero_le (show 0≤m.lots[i].frm by omega)
   have hff:ff<m.lots.length:=by omega
   have hf':¬(ff:Int)= -1:=by omega
   have hb:=sumW_bd hwb (partsL (ff:Int) (m.lots.take i) 0)
   have hpl:=partsL_len (ff:Int) (m.lots.take i) 0
   rw[List.length_take] at hpl
   have e1:tab (fset (fun k=>sumL (wOfL ws) (partsL k (m.lots.take i) 0)) (ff:Int) (sumL (wOfL ws) (partsL (ff:Int) (m.lots.take i) 0)+ws[i])) m.lots.length=tab (fun k=>sumL (wOfL ws) (partsL k (m.lots.take (i+1)) 0)) m.lots.length:=tab_congr fun k k0 k1=>by
    rw[partsL_take hi,ef]
    unfold fset
    by_cases e:k=(ff:Int)
    ·rw[if_pos e,if_pos e.symm,sumL_append,e];simp only[sumL,hwi];omega
    ·rw[if_neg e,if_neg (fun h=>e h.symm),List.append_nil]
   simp -implicitDefEqProofs(maxSteps:=999999)(disch:=first|with_reducible rfl|omega|(simp only[nA,nS,nD]<;>omega)|fail)only[go_sem,t2,t3,t5,t20,t21,t22,hi',hqK (nat_cst i),hcsK,vK,z1,z2,cells_of g2',hqL (nat_cst i),hcsL,hnL0 (by omega),encL,ef,hf',ne_eq,not_false_eq_true,q_iad_sl (nat_cst ff) hff,Nat.mul_one,cells_of g5',g5',tab_at2 hff,tab_st2 hff,wr_in,e1]
   have hs':=hs.set (b:=h.next+2) (by omega) (by omega) hw (.cells .rw (tab (fun k=>sumL (wOfL ws) (partsL k (m.lots.take (i+1)) 0)) m.lots.length))
   exact⟨_,_,rfl,hs',by rw[H.next_set];exact ln,by rw[get_set_other (by omega)];exact g2',by rw[get_set_other (by omega)];exact g3',get_set_same rfl,(by simp[ev_c,ev_put,t2]<;>rfl),(by simp[ev_c,ev_put,t3]<;>rfl),(by simp[ev_c,ev_put,t5]<;>rfl),(by simp[ev_c,ev_put,t20]<;>rfl),(by simp[ev_c,ev_put,t21]<;>rfl),(by simp[ev_c,ev_put]<;>rfl)⟩
 ·rintro s ⟨tm,h',rfl,hs,ln,g2',g3',g5',t2,t3,t5,t20,t21,t22⟩
  rw[List.take_length] at g5'
  simp -implicitDefEqProofs(maxSteps:=999999)(disch:=first|with_reducible rfl|omega|(simp only[nA,nS,nD]<;>omega)|fail)only[go_sem,t2,t3,t5,t20,t21,t22,Int.lt_irrefl,cells_of g3',hlenK]
  refine W_count m.lots.length (fun i s=>∃tm h'',s=⟨tm,h'',[]⟩∧h'.Sub h''∧(Opd.t 2).ev tm=.ptr h.next 0∧(Opd.t 3).ev tm=.ptr (h.next+1) 0∧(Opd.t 5).ev tm=.sl (h.next+2) 0 m.lots.length (.fix m.lots.length)∧(Opd.t 49).ev tm=K∧(Opd.t 50).ev tm=.int .i64 (m.lots.length:Int)∧(Opd.t 51).ev tm=.int .i64 (i:Int))
   ?_ ?_ (i:=0) (Nat.zero_le _) ⟨_,_,rfl,H.Sub.refl hs.wf,(by simp[ev_c,ev_put,t2]<;>rfl),(by simp[ev_c,ev_put,t3]<;>rfl),(by simp[ev_c,ev_put,t5]<;>rfl),(by simp[ev_c,ev_put]<;>rfl),(by simp[ev_c,ev_put]<;>rfl),(by simp[ev_c,ev_put]<;>rfl)⟩<;>clear t2 t3 t5 t20 t21 t22 tm
  ·rintro i s hi ⟨tm,h'',rfl,hs2,t2,t3,t5,t49,t50,t51⟩
   have hi':(i:Int)<(m.lots.length:Int):=by omega
   have hik:i<ws.length:=by omega
   have hs3:=hs.trans hs2
   obtain⟨bK,oK,cK,csK,eK,hcsK,hqK,hgK,hnK,hnK0⟩:=(hk.mono hs3).at hik
   have vK:nth (oK+i) csK=some (.int .i64 ws[i]):=by have:=hnK0 (by omega);rw[Nat.mul_one] at this;exact this
   rw[Nat.mul_one] at hqK
   have g2'':=hs2.cells (cells_of g2')
   simp -implicitDefEqProofs(maxSteps:=999999)(disch:=first|with_reducible rfl|omega|(simp only[nA,nS,nD]<;>omega)|fail)only[go_sem,t2,t3,t5,t49,t50,t51,hi',hqK (nat_cst i),hcsK,vK,g2'']
   refine whole_ev hs3.wf (hm0.mono hs3) (i:Int) _ fun h3 s3=>?_
   have g5'':=(hs2.trans s3).cells (cells_of g5')
   by_cases hpi:parts m (i:Int)=[]
   ·have hd:decide (parts m (i:Int)=[])=true:=decide_eq_true hpi
    simp -implicitDefEqProofs(maxSteps:=999999)(disch:=first|with_reducible rfl|omega|(simp only[nA,nS,nD]<;>omega)|fail)only[go_sem,t2,t3,t5,t49,t50,t51,hd,wr_succ]
    exact⟨_,_,rfl,hs2.trans s3,(by simp[ev_c,ev_put,t2]<;>rfl),(by simp[ev_c,ev_put,t3]<;>rfl),(by simp[ev_c,ev_put,t5]<;>rfl),(by simp[ev_c,ev_put,t49]<;>rfl),(by simp[ev_c,ev_put,t50]<;>rfl),(by simp[ev_c,ev_put]<;>rfl)⟩
   ·have hd:decide (parts m (i:Int)=[])=false:=decide_eq_false hpi
    have hsum:sumL (wOfL ws) (partsL (i:Int) m.lots 0)=ws[i]:=(hnode i hik hpi).symm
    simp -implicitDefEqProofs(maxSteps:=999999)(disch:=first|with_reducible rfl|omega|(simp only[nA,nS,nD]<;>omega)|fail)only[go_sem,t2,t3,t5,t49,t50,t51,hd,q_iad_sl (nat_cst i) hi,Nat.mul_one,g5'',tab_at2 hi,hsum,ne_eq,not_true_eq_false,wr_succ]
    exact⟨_,_,rfl,hs2.trans s3,(by simp[ev_c,ev_put,t2]<;>rfl),(by simp[ev_c,ev_put,t3]<;>rfl),(by simp[ev_c,ev_put,t5]<;>rfl),(by simp[ev_c,ev_put,t49]<;>rfl),(by simp[ev_c,ev_put,t50]<;>rfl),(by simp[ev_c,ev_put]<;>rfl)⟩
  ·rintro s ⟨tm,h'',rfl,hs2,t2,t3,t5,t49,t50,t51⟩
   have hs3:=hs.trans hs2
   have g2'':=hs2.cells (cells_of g2')
   have g3'':=hs2.cells (cells_of g3')
   simp -implicitDefEqProofs(maxSteps:=999999)(disch:=first|with_reducible rfl|omega|(simp only[nA,nS,nD]<;>omega)|fail)only[go_sem,t2,t3,t5,t49,t50,t51,Int.lt_irrefl,g2'']
   refine(containsFuncWg_ev (p:=fun w:Wg=> !rightM m.errs w (wOfL ws w.lot)) hs3.wf (aW.mono hs3) fun a ha h4 hs4=>?_).mono fun u h5 hu=>?_
   ·refine Ev.gen fun Q2 q2=>?_
    refine Ev_body (fd:=c89) rfl rfl rfl ?_
    have hlot:=g.lot a ha
    have hwg:=g.wg a ha
    have ge:=g.errs
    obtain⟨al,eal⟩:=Int.eq_ofNat_of_zero_le hlot.1
    have hal:al<ws.length:=by omega
    have hr:=hrg al hal
    have e2:=hs4.cells g2''
    have e3:=hs4.cells g3''
    have s4':=hs3.trans hs4
    obtain⟨bK,oK,cK,csK,eK,hcsK,hqK,hgK,hnK,hnK0⟩:=(hk.mono s4').at hal
    have hla:=hs4.next
    have sX:=(H.Sub.refl hs4.wf).add (.cells .rw (encW a))
    have hright:=right_ev (h:=h4.add (.cells .rw (encW a))) (L:=L) (W:=W) (e:=m.errs) (w:=a) (n:=ws[al]) (by omega) (by omega) (by omega) (by omega) (by omega)
    have el2:h.next<h4.next:=by have:=hs2.next;omega
    simp only[encW,eal] at hright sX
    simp -implicitDefEqProofs(maxSteps:=999999)(disch:=first|with_reducible rfl|omega|(simp only[nA,nS,nD]<;>omega)|fail)only[c89,go_sem,encW,eal,e2,e3,sX.cells e2,sX.cells e3,sX.cells hcsK,hqK (nat_cst al),hcsK,hnK0 (by omega),encI,hright]
    refine q2 _ _ ⟨?_,?_⟩
    ·rw[show a.lot=((al:Nat):Int) from eal,wOfL_at hal]
    ·exact((H.Sub.refl hs4.wf).add _).add _ |>.add _
   ·obtain⟨rfl,s5⟩:=hu
    have hany:(m.wgs.any fun w=> !rightM m.errs w (wOfL ws w.lot))=false:=by
     rw[List.any_eq_false]
     intro w hw'
     obtain⟨k,hkk,rfl⟩:=List.getElem_of_mem hw'
     have h1:=hsay k hkk
     have h2:=g.wg _ hw'
     have h3:=hwb m.wgs[k].lot
     have ge:=g.errs
     rw[right_iff (m:=m) (by omega) (by omega) (by omega) h3,decide_eq_true h1];simp
    simp -implicitDefEqProofs(maxSteps:=999999)(disch:=first|with_reducible rfl|omega|(simp only[nA,nS,nD]<;>omega)|fail)only[go_sem,hany,Bool.not_false]
    exact q _ (hs3.trans s5)
end Go.Ab.Tryz
namespace Go.Ab
def navK:List Bool→C→C
 |[],c=>c
 |b::p,.seq x y=>match b with|true=>navK p y|false=>navK p x
 |b::p,.cond _ x y=>match b with|true=>navK p y|false=>navK p x
 |_::p,.block _ x=>navK p x
 |_::p,.loop x=>navK p x
 |_::p,.scope x=>navK p x
 |_::_,c=>c
theorem PBd_cutC {Fn:Nat→Option FD}{fast:Nat→Option (List V→H→Option (V × H))}{N:Nat}{fn:FuncId}{ro:Option Nat}{x:Bool}{a b:C}{s:St}{K:X→St→Prop}(I:St→Prop)(ha:x=true→W Fn fast N fn ro a s (Kcut I))(hb:x=false→W Fn fast N fn ro b s (Kcut I))(tail:∀s',I s'→K .nrm s'):
  PBd (.bool x) (W Fn fast N fn ro a s K) (W Fn fast N fn ro b s K) ⟨⟩:=
 PBd_intro (fun h=>W_cut I (ha h) tail) (fun h=>W_cut I (hb h) tail)
namespace Tryz
open Go.Ab.Silk
def WgsG (n:Nat)(l:List Wg):Prop:=∀w∈l,(0≤w.lot∧w.lot<n)∧(0≤w.reads∧w.reads≤10000)∧(0≤w.lo∧w.lo≤w.hi∧w.hi≤60)
theorem WgsG.good {e:Int}{l:List Lt}{wg:List Wg}(he:0≤e∧e≤50)(h1:1≤l.length∧l.length≤12)(hl:LotsOk l)(hw:WgsG l.length wg)(hn:wg.length≤10):Good ⟨e,l,wg⟩:=by
 have g0:=good_made he h1 hl
 exact⟨h1,hn,he,fun w hm=>by obtain⟨_,b,c⟩:=hw w hm;exact⟨b,⟨c.1,by omega⟩,⟨by omega,c.2.2⟩⟩,g0.kind,g0.frm,fun w hm=>by obtain⟨b,_⟩:=hw w hm;exact⟨b.1,by have:=b.2;simp only;omega⟩,fun w hm=>(hw w hm).2.2.2.1⟩
set_option maxRecDepth 8000 in
set_option maxHeartbeats 8000000 in
theorem prvA_ev {h h3:H}(hw:h.wf){x L v6:V}{bs:List Int}(hx:SlAt h x 1 (bs.map encU8))(hs:h.Sub h3){T3:Int}(p3:SpAt h3 h.next x T3)(hT3:0≤T3∧T3≤1000){e:Int}(he:0≤e∧e≤50){bm bb:Nat}(gm:h3.get bm=some (.cells .rw [.int .i64 e,L,.nils]))(nm:h.next<bm)
  {l:List Lt} {r:Int→Int} (hb:h3.get bb=some (.cells .rw (tab r l.length))) (nb1:bb≠h.next) (nb2:bb≠bm) (L1:L.one=true) (hlenL:q_len L=some (.int .i64 (l.length:Int))) (hl:1≤l.length∧l.length≤12) (hr:∀j:Int,0≤j→j<l.length→0≤r j∧r j≤10000)
  (tm:Go.Ab.T V) (t5:(Opd.t 5).ev tm=.ptr h.next 0) (t6:(Opd.t 6).ev tm=v6) (t7:(Opd.t 7).ev tm=.ptr bm 0) (t8:(Opd.t 8).ev tm=.sl bb 0 l.length (.fix l.length)):
  W fnG fastA 211 4 none (navK [true,true,true,false] c4.body) ⟨tm,h3,[]⟩ fun x1 s=>x1=.nrm∧∃tm' h' W wg,s=⟨tm',h',[]⟩∧h.Sub h'∧OwnSl h h' W 4 (wg.map encW)∧(∀c,blkOf W c→h3.next≤c)∧WgsG l.length wg∧wg.length≤8∧Keeps (fun c=>c=h.next∨c=bm) h3 h'∧
   h'.get bm=some (.cells .rw [.int .i64 e,L,W])∧(Opd.t 6).ev tm'=v6∧(Opd.t 7).ev tm'=.ptr bm 0:=by
 have lm:=hs.wf _ _ gm
 have l0:=hs.next
 simp only[navK,c4]
 simp -implicitDefEqProofs(maxSteps:=999999)(disch:=first|with_reducible rfl|omega|(simp only[nA,nS,nD]<;>omega)|fail)only[go_sem,t5,t6,t7,t8]
 refine Upto_ev hs hw hx (Nat.le_refl _) p3 (by omega) (by omega) _ fun N hB N0 N1 s4 p4 k4 n4=>?_
 obtain⟨Nn,rfl⟩:=Int.eq_ofNat_of_zero_le N0
 simp -implicitDefEqProofs(maxSteps:=999999)(disch:=first|with_reducible rfl|omega|(simp only[nA,nS,nD]<;>omega)|fail)only[go_sem,t5,t6,t7,t8]
 refine W_count Nn (fun i s=>∃(tm:Go.Ab.T V) (h':H) (W:V) (wg:List Wg) (T':Int),s=⟨tm,h',[]⟩∧h.Sub h'∧OwnSl h h' W 4 (wg.map encW)∧(∀c,blkOf W c→h3.next≤c)∧WgsG l.length wg∧wg.length≤i∧SpAt h' h.next x T'∧0≤T'∧T'≤T3+1+7*(i:Int)∧Keeps (fun c=>c=h.next∨c=bm) h3 h'∧
   h'.get bm=some (.cells .rw [.int .i64 e,L,W])∧(Opd.t 5).ev tm=.ptr h.next 0∧(Opd.t 6).ev tm=v6∧(Opd.t 7).ev tm=.ptr bm 0∧(Opd.t 8).ev tm=.sl bb 0 l.length (.fix l.length)∧(Opd.t 35).ev tm=.int .i64 (Nn:Int)∧(Opd.t 36).ev tm=.int .i64 (i:Int))
  ?_ ?_ (i:=0) (Nat.zero_le _) ⟨_,_,.nils,[],T3+1,rfl,s4,OwnSl.nil s4 4,fun c hc=>(blkOf_nils hc).elim,fun w hw=>by simp at hw,by simp,p4,by omega,by omega,k4.mono fun c hc=>.inl hc,k4.2 _ _ gm (by omega),(by simp[ev_c,ev_put,t5]<;>rfl),(by simp[ev_c,ev_put,t6]<;>rfl),(by simp[ev_c,ev_put,t7]<;>rfl),(by simp[ev_c,ev_put,t8]<;>rfl),(by simp[ev_c,ev_put]<;>rfl),(by simp only[ev_put];rfl)⟩<;>clear t5 t6 t7 t8
 ·rintro i s hi ⟨tm,h',W,wg,T',rfl,s',oW,nW,hok,hlen,p',T0,T1,K',gm',t5,t6,t7,t8,t35,t36⟩
  have hi':(i:Int)<(Nn:Int):=by omega
  have W1:=OwnC.one oW.c
  simp -implicitDefEqProofs(maxSteps:=999999)(disch:=first|with_reducible rfl|omega|(simp only[nA,nS,nD]<;>omega)|fail)only[go_sem,t5,t6,t7,t8,t35,t36,hi',cells_of gm',hlenL,wr_in]
  refine Upto_ev s' hw hx (Nat.le_refl _) p' (by omega) (by omega) _ fun lt0 h2 a0 a1 s2 p2 k2 n2=>?_
  obtain⟨ln,rfl⟩:=Int.eq_ofNat_of_zero_le a0
  have hln:ln<l.length:=by omega
  have gb2:=k2.2 _ _ (K'.2 _ _ hb (by omega)) (by omega)
  have gm2:=k2.2 _ _ gm' (by omega)
  have oW2:=oW.keep k2 s2 fun c hc e=>(oW.ne (spGet p')) (e▸hc)
  have hrl:=hr (ln:Int) (by omega) (by omega)
  simp -implicitDefEqProofs(maxSteps:=999999)(disch:=first|with_reducible rfl|omega|(simp only[nA,nS,nD]<;>omega)|fail)only[go_sem,t5,t6,t7,t8,t35,t36,cells_of gm2,L1,W1,cells_one L1,cells_one W1,q_iad_sl (nat_cst ln) hln,Nat.mul_one,cells_of gb2,tab_at2 hln]
  refine From_ev s2 hw hx (Nat.le_refl _) p2 (by omega) (by omega) (by omega) _ fun d h4 d0 d1 s4 p4 k4 n4=>?_
  have gb4:=k4.2 _ _ gb2 (by omega)
  have gm4:=k4.2 _ _ gm2 (by omega)
  have oW4:=oW2.keep k4 s4 fun c hc e=>(oW2.ne (spGet p2)) (e▸hc)
  simp -implicitDefEqProofs(maxSteps:=999999)(disch:=first|with_reducible rfl|omega|(simp only[nA,nS,nD]<;>omega)|fail)only[go_sem,t5,t6,t7,t8,t35,t36,cells_of gm4,L1,W1,cells_one L1,cells_one W1,q_iad_sl (nat_cst ln) hln,Nat.mul_one,cells_of gb4,tab_at2 hln]
  refine Upto_ev s4 hw hx (Nat.le_refl _) p4 (by omega) (by omega) _ fun u h5 u0 u1 s5 p5 k5 n5=>?_
  have gb5:=k5.2 _ _ gb4 (by omega)
  have gm5:=k5.2 _ _ gm4 (by omega)
  have oW5:=oW4.keep k5 s5 fun c hc e=>(oW4.ne (spGet p4)) (e▸hc)
  have hdu: -30≤d*u∧d*u≤30:=by
   obtain rfl|rfl:u=0∨u=1:=by omega
   ·rw[Int.mul_zero];omega
   ·rw[Int.mul_one];omega
  generalize hdv:d*u=dv at hdu
  simp -implicitDefEqProofs(maxSteps:=999999)(disch:=first|with_reducible rfl|omega|(simp only[nA,nS,nD]<;>omega)|fail)only[go_sem,t5,t6,t7,t8,t35,t36,cells_of gm5,L1,W1,cells_one L1,cells_one W1,q_iad_sl (nat_cst ln) hln,Nat.mul_one,cells_of gb5,tab_at2 hln,hdv,wr_in]
  refine Read_ev s5 hw hx (Nat.le_refl _) p5 (by omega) L1 W1 he (ln:Int) (dry:=max 0 (r (ln:Int)+dv)) (by omega) _ fun w h6 wl wr' wd s6 p6 k6=>?_
  have gm6:=k6.2 _ _ gm5 (by omega)
  have oW6:=oW5.keep k6 s6 fun c hc e=>(oW5.ne (spGet p5)) (e▸hc)
  have sC:=(H.Sub.refl s6.wf).add (.cells .rw [.int .i64 w.lot,.int .i64 w.reads,.int .i64 w.lo,.int .i64 w.hi])
  have e5:T'+1+1+1+4=T'+7:=by omega
  rw[e5] at p6
  have K6:=((((K'.trans k2).trans k4).trans k5).trans k6).trans (Keeps.of sC (fun _=>False))
  have l6:h3.next≤h6.next+1:=by have:=K6.1;rwa[H.next_add] at this
  simp -implicitDefEqProofs(maxSteps:=999999)(disch:=first|with_reducible rfl|omega|(simp only[nA,nS,nD]<;>omega)|fail)only[go_sem,t5,t6,t7,t8,t35,t36,cells_of gm2,cells_of gm4,cells_of gm5,cells_of gm6,L1,W1,cells_one L1,cells_one W1,encW]
  refine(oW6.mono sC).app1 (r:=encW w) hw rfl (by omega) (SlAt.new _ rfl rfl (by simp[encW]) (by simp[encW]) (by simp)) rfl (by simp only[List.length_map];omega) (by simp only[List.length_map];omega) fun h8 o8 k8 n8=>?_
  have gm8:=k8.2 _ _ (sC.get gm6) ((oW6.mono sC).ne (sC.get gm6))
  have p8:=(p6.mono sC).keep k8 ((oW6.mono sC).ne (spGet (p6.mono sC)))
  have l8:=k8.1
  simp only[H.next_add] at n8 o8
  have K8:Keeps (fun c=>c=h.next∨c=bm) h3 (h8.set bm (.cells .rw [.int .i64 e,L,.sl (h6.next+1) 0 ((wg.map encW).length+1) (.slk 0 0)])):=Keeps.new hs.wf (((K6.trans k8).trans (Keeps.set _ _ _)).mono (by
   rintro c (((((((h|h)|h)|h)|h)|h)|h)|h)
   ·exact .inl h
   ·exact .inl (.inl h)
   ·exact .inl (.inl h)
   ·exact .inl (.inl h)
   ·exact .inl (.inl h)
   ·exact h.elim
   ·exact .inr (nW c h)
   ·exact .inl (.inr h)))
  simp -implicitDefEqProofs(maxSteps:=999999)(disch:=first|with_reducible rfl|omega|(simp only[nA,nS,nD]<;>omega)|fail)only[go_sem,t5,t6,t7,t8,t35,t36,cells_of gm8,gm8,cells_of (sC.get gm6),cells_of gm2,cells_of gm4,cells_of gm5,cells_of gm6,cells_of gb2,cells_of gb4,cells_of gb5,L1,W1,cells_one L1,cells_one W1,tab_at2 hln,wr_succ]
  refine⟨_,_,.sl (h6.next+1) 0 ((wg.map encW).length+1) (.slk 0 0),wg++[w],T'+7,rfl,o8.1.set (by omega) (by omega) hw _,?_,?_,?_,by simp;omega,p8.keep (Keeps.set _ _ _) (by omega),by omega,by omega,K8,get_set_same rfl,(by simp[ev_c,ev_put,t5]<;>rfl),(by simp[ev_c,ev_put,t6]<;>rfl),(by simp[ev_c,ev_put,t7]<;>rfl),(by simp[ev_c,ev_put,t8]<;>rfl),(by simp[ev_c,ev_put,t35]<;>rfl),(by simp[ev_c,ev_put]<;>rfl)⟩
  ·rw[List.map_append]
   exact o8.keep (Keeps.set h8 bm _) (o8.1.set (by omega) (by omega) hw _) fun c hc e=>(o8.ne gm8) (e▸hc)
  ·rintro c ⟨_,_,_,e⟩;cases e;omega
  ·intro w' hw'
   rw[List.mem_append,List.mem_singleton] at hw'
   rcases hw' with hw'|rfl
   ·exact hok w' hw'
   ·exact⟨⟨by omega,by omega⟩,wr',wd⟩
 ·rintro s ⟨tm,h',W,wg,T',rfl,s',oW,nW,hok,hlen,p',T0,T1,K',gm',t5,t6,t7,t8,t35,t36⟩
  simp -implicitDefEqProofs(maxSteps:=999999)(disch:=first|with_reducible rfl|omega|(simp only[nA,nS,nD]<;>omega)|fail)only[go_sem,t5,t6,t7,t8,t35,t36,Int.lt_irrefl]
  exact⟨_,_,W,wg,rfl,s',oW,nW,hok,by omega,K',gm',(by simp[ev_c,ev_put,t6]<;>rfl),(by simp[ev_c,ev_put,t7]<;>rfl)⟩
structure TrS (h0 h:H)(sp nx:Nat)(y:V)(lot:Int)(m:Ml)(n:Nat)(T:Int)(X Y:V)(low high:List Int)(z:H):Prop where
 s:h0.Sub z
 k:Keeps (fun c=>c=sp∨nx≤c) h z
 spt:SpAt z sp y T
 lt:nx<z.next
 g:z.get nx=some (.cells .rw [.int .i64 lot,X,Y])
 ox:OwnSl h0 z X 1 (low.map encI)
 oy:OwnSl h0 z Y 1 (high.map encI)
 lx:low.length≤n
 ly:high.length≤n
 ix:InW m low
 iy:InW m high
 nX:∀c,blkOf X c→nx<c
 nY:∀c,blkOf Y c→nx<c
 xy:∀c,blkOf X c→¬blkOf Y c
theorem TrS.turn {h0 h z z':H}{sp nx:Nat}{y:V}{lot:Int}{m:Ml}{n:Nat}{T T':Int}{X Y:V}{low high:List Int}(k:TrS h0 h sp nx y lot m n T X Y low high z)(hn:sp<nx)(s:h0.Sub z')(sp':SpAt z' sp y T')(kk:Keeps (fun c=>c=sp) z z'):TrS h0 h sp nx y lot m n T' X Y low high z':=
 ⟨s,(k.k.trans kk).mono fun c hc=>hc.elim id .inl,sp',Nat.lt_of_lt_of_le k.lt kk.1,kk.2 _ _ k.g (by omega),k.ox.keep kk s fun c hc e=>by have:=k.nX c hc;omega,k.oy.keep kk s fun c hc e=>by have:=k.nY c hc;omega,k.lx,k.ly,k.ix,k.iy,k.nX,k.nY,k.xy⟩
theorem InW.snoc {m:Ml}{l:List Int}(h:InW m l){i:Nat}(hi:i<m.wgs.length):InW m (l++[(i:Int)]):=fun a ha=>by
 rcases List.mem_append.1 ha with ha|ha
 ·exact h a ha
 ·rw[List.mem_singleton] at ha;omega
theorem TrS.pushX {h0 h z zc z5:H}{sp nx:Nat}{y:V}{lot:Int}{m:Ml}{n j:Nat}{T:Int}{X Y:V}{low high:List Int}(k:TrS h0 h sp nx y lot m n T X Y low high z)(hw0:h0.wf)(hn:sp<nx)(h0n:h0.next≤nx)(sC:z.Sub zc)
  (o5:OwnSl h0 z5 (.sl zc.next 0 ((low.map encI).length+1) (.slk 0 0)) 1 (low.map encI++[encI (j:Int)])) (k5:Keeps (blkOf X) zc z5) (hj:j<m.wgs.length):TrS h0 h sp nx y lot m (n+1) T (.sl zc.next 0 ((low.map encI).length+1) (.slk 0 0)) (Y) (low++[(j:Int)]) (high) (z5.set nx (.cells .rw [.int .i64 lot,.sl zc.next 0 ((low.map encI).length+1) (.slk 0 0),Y])):=by
 have l1:=sC.next
 have l2:=k5.1
 have l3:=k.lt
 have sS:=o5.1.set (b:=nx) (by omega) (by omega) hw0 (.cells .rw [.int .i64 lot,.sl zc.next 0 ((low.map encI).length+1) (.slk 0 0),Y])
 have nS:∀c,blkOf (.sl zc.next 0 ((low.map encI).length+1) (.slk 0 0)) c→nx<c:=by rintro c ⟨_,_,_,e⟩;cases e;omega
 have oo:=(((k.oy.mono sC).keep k5 o5.1 fun c hc hx=>k.xy c hx hc).keep (Keeps.set z5 nx (.cells .rw [.int .i64 lot,.sl zc.next 0 ((low.map encI).length+1) (.slk 0 0),Y])) sS fun c hc e=>by have:=k.nY c hc;omega)
 refine⟨sS,(((k.k.trans (Keeps.of sC fun _=>False)).trans k5).trans (Keeps.set _ _ _)).mono ?_,((k.spt.mono sC).keep k5 ((k.ox.mono sC).ne (spGet (k.spt.mono sC)))).keep (Keeps.set _ _ _) (by omega),by rw[H.next_set];omega,get_set_same rfl,?_,oo,by rw[List.length_append,List.length_singleton];have:=k.lx;omega,by have:=k.ly;omega,k.ix.snoc hj,k.iy,nS,k.nY,?_⟩
 ·rintro c (((h|h)|h)|h)
  ·exact h
  ·exact h.elim
  ·exact .inr (Nat.le_of_lt (k.nX c h))
  ·exact .inr (by omega)
 ·rw[List.map_append]
  exact o5.keep (Keeps.set _ _ _) sS fun c hc e=>by have:=nS c hc;omega
 ·intro c hx hy
  obtain⟨_,_,_,e⟩:=hx
  cases e
  have:=(k.oy.blk hy).2.1
  omega
theorem TrS.pushY {h0 h z zc z5:H}{sp nx:Nat}{y:V}{lot:Int}{m:Ml}{n j:Nat}{T:Int}{X Y:V}{low high:List Int}(k:TrS h0 h sp nx y lot m n T X Y low high z)(hw0:h0.wf)(hn:sp<nx)(h0n:h0.next≤nx)(sC:z.Sub zc)
  (o5:OwnSl h0 z5 (.sl zc.next 0 ((high.map encI).length+1) (.slk 0 0)) 1 (high.map encI++[encI (j:Int)])) (k5:Keeps (blkOf Y) zc z5) (hj:j<m.wgs.length):TrS h0 h sp nx y lot m (n+1) T (X) (.sl zc.next 0 ((high.map encI).length+1) (.slk 0 0)) (low) (high++[(j:Int)]) (z5.set nx (.cells .rw [.int .i64 lot,X,.sl zc.next 0 ((high.map encI).length+1) (.slk 0 0)])):=by
 have l1:=sC.next
 have l2:=k5.1
 have l3:=k.lt
 have sS:=o5.1.set (b:=nx) (by omega) (by omega) hw0 (.cells .rw [.int .i64 lot,X,.sl zc.next 0 ((high.map encI).length+1) (.slk 0 0)])
 have nS:∀c,blkOf (.sl zc.next 0 ((high.map encI).length+1) (.slk 0 0)) c→nx<c:=by rintro c ⟨_,_,_,e⟩;cases e;omega
 have oo:=(((k.ox.mono sC).keep k5 o5.1 fun c hc hx=>k.xy c hc hx).keep (Keeps.set z5 nx (.cells .rw [.int .i64 lot,X,.sl zc.next 0 ((high.map encI).length+1) (.slk 0 0)])) sS fun c hc e=>by have:=k.nX c hc;omega)
 refine⟨sS,(((k.k.trans (Keeps.of sC fun _=>False)).trans k5).trans (Keeps.set _ _ _)).mono ?_,((k.spt.mono sC).keep k5 ((k.oy.mono sC).ne (spGet (k.spt.mono sC)))).keep (Keeps.set _ _ _) (by omega),by rw[H.next_set];omega,get_set_same rfl,oo,?_,by have:=k.lx;omega,by rw[List.length_append,List.length_singleton];have:=k.ly;omega,k.ix,k.iy.snoc hj,k.nX,nS,?_⟩
 ·rintro c (((h|h)|h)|h)
  ·exact h
  ·exact h.elim
  ·exact .inr (Nat.le_of_lt (k.nY c h))
  ·exact .inr (by omega)
 ·rw[List.map_append]
  exact o5.keep (Keeps.set _ _ _) sS fun c hc e=>by have:=nS c hc;omega
 ·intro c hx hy
  obtain⟨_,_,_,e⟩:=hy
  cases e
  have:=(k.ox.blk hx).2.1
  omega
end Tryz
end Go.Ab
namespace Go.Ab.Tryz
open Go.Ab.Silk
theorem spans_at (b:Box){n i:Nat}(h:i<(spansL b n).length):(spansL b n)[i]=[(b (i:Int)).1,(b (i:Int)).2]:=by simp[spansL]
theorem check_good {m:Ml}(g:Good m):check m=0:=by
 have h1:=g.lots
 have h2:=g.wgs
 have h3:=g.errs
 have c4:m.wgs.all boundedW=true:=List.all_eq_true.2 fun w hw=>by simpa[boundedW] using g.wg w hw
 have c5:m.lots.all (fun l=>allowedK l.kind)=true:=List.all_eq_true.2 fun l hl=>by simpa[allowedK] using g.kind l hl
 have c6:fromsOk m.lots 0=true:=(fromsOk_iff _ _).2 fun i hi=>by simpa using g.frm i hi
 have c7:m.wgs.all (fun w=>inB w.lot 0 ((m.lots.length:Int)-1))=true:=List.all_eq_true.2 fun w hw=>by simpa[inB] using g.lot w hw
 have c8:m.wgs.all (fun w=>decide (w.lo≤w.hi))=true:=List.all_eq_true.2 fun w hw=>by simpa using g.ord w hw
 unfold check
 rw[if_neg (by omega),if_neg (by omega),if_neg (by omega),c4,c5,c6,c7,c8]
 rfl
set_option maxRecDepth 8000 in
set_option maxHeartbeats 8000000 in
theorem prvB_ev {h0 h:H}(hw0:h0.wf){y L Z:V}{cs:List Int}(hy:SlAt h0 y 1 (cs.map encU8))(hs:h0.Sub h){sp bm:Nat}(hp0:h0.next≤sp){T:Int}(hp:SpAt h sp y T)(hT:0≤T∧T≤1000){e:Int}{m:Ml}(gm:h.cells bm=some [.int .i64 e,L,Z])(nm:bm≠sp)(lm:bm<h.next)
  (hm:MlIs h (.agg [.int .i64 e,L,Z]) m) (nL:∀c,blkOf L c→c<h.next∧c≠sp) (nW:∀c,blkOf Z c→c<h.next∧c≠sp) (g:Good m) {e11:Int} (he:e11=0∨∃w,FeasM m allC w) (tm:Go.Ab.T V) (t6:(Opd.t 6).ev tm=.ptr sp 0) (t7:(Opd.t 7).ev tm=.ptr bm 0) (t11:(Opd.t 11).ev tm=.int .i64 e11):
  W fnG fastA 211 4 none (navK [true,true,true,true,true,true,true,true,false] c4.body) ⟨tm,h,[]⟩ fun x1 s=>x1=.nrm∧∃tm' h',s=⟨tm',h',[]⟩:=by
 have hw:=hs.wf
 have lsp:=hw _ _ (spGet hp)
 have c:=check_good g
 have gw:=g.wgs
 have gl:=g.lots
 have ls:=hs.next
 have hlenL:q_len L=some (.int .i64 (m.lots.length:Int)):=by
  obtain⟨_,_,eT,aL,aW⟩:=hm
  cases eT;exact aL.lenE
 have hlenW:q_len Z=some (.int .i64 (m.wgs.length:Int)):=by
  obtain⟨_,_,eT,aL,aW⟩:=hm
  cases eT;exact aW.lenE
 have L1:L.one=true:=by
  obtain⟨_,_,eT,aL,aW⟩:=hm
  cases eT;exact aL.one
 have W1:Z.one=true:=by
  obtain⟨_,_,eT,aL,aW⟩:=hm
  cases eT;exact aW.one
 simp only[navK,c4]
 simp -implicitDefEqProofs(maxSteps:=999999)(disch:=first|with_reducible rfl|omega|(simp only[nA,nS,nD]<;>omega)|fail)only[go_sem]
 refine W_count 8 (fun i s=>∃tm z T',s=⟨tm,z,[]⟩∧h0.Sub z∧Keeps (fun c=>c=sp) h z∧SpAt z sp y T'∧(0≤T'∧T'≤T+30*(i:Int))∧(Opd.t 6).ev tm=.ptr sp 0∧(Opd.t 7).ev tm=.ptr bm 0∧(Opd.t 11).ev tm=.int .i64 e11∧(Opd.t 149).ev tm=.int .i64 (i:Int))
  ?_ ?_ (i:=0) (Nat.zero_le _) ⟨_,_,T,rfl,hs,Keeps.refl _ _,hp,by omega,(by simp[ev_c,ev_put,t6]<;>rfl),(by simp[ev_c,ev_put,t7]<;>rfl),(by simp[ev_c,ev_put,t11]<;>rfl),(by simp only[ev_put];rfl)⟩<;>clear t6 t7 t11
 ·rintro i s hi ⟨tm,z,T',rfl,sz,kz,pz,hT',t6,t7,t11,t149⟩
  have hi':(i:Int)<8:=by omega
  have gz:=kz.cells gm (by omega)
  have lz:=kz.1
  simp -implicitDefEqProofs(maxSteps:=999999)(disch:=first|with_reducible rfl|omega|(simp only[nA,nS,nD]<;>omega)|fail)only[go_sem,t6,t7,t11,t149,hi',gz,hlenL,wr_in]
  refine Upto_ev sz hw0 hy hp0 pz (by omega) (by omega) _ fun lot hB a0 a1 sB pB kB nB=>?_
  have gB:=kB.cells gz (by omega)
  have lB:=kB.1
  have sA:=(H.Sub.refl sB.wf).add (.cells .rw [.int .i64 lot,.nils,.nils])
  have gA:(hB.add (.cells .rw [.int .i64 lot,.nils,.nils])).get hB.next=some (.cells .rw [.int .i64 lot,.nils,.nils]):=get_add_new rfl
  have lA:(hB.add (.cells .rw [.int .i64 lot,.nils,.nils])).next=hB.next+1:=H.next_add _ _
  have gmA:=sA.cells gB
  simp -implicitDefEqProofs(maxSteps:=999999)(disch:=first|with_reducible rfl|omega|(simp only[nA,nS,nD]<;>omega)|fail)only[go_sem,t6,t7,t11,t149,gmA,hlenW]
  generalize hB.add (.cells .rw [.int .i64 lot,.nils,.nils])=hA at sA gA lA gmA⊢
  have tr0:TrS h0 h sp hB.next y lot m 0 (T'+1) .nils .nils [] [] hA:=⟨sB.trans sA,((kz.trans kB).trans (Keeps.of sA fun _=>False)).mono fun c hc=>by
    rcases hc with(h|h)|h
    ·exact .inl h
    ·exact .inl h
    ·exact h.elim,pB.mono sA,by omega,gA,OwnSl.nil (sB.trans sA) 1,OwnSl.nil (sB.trans sA) 1,by simp,by simp,fun a ha=>by simp at ha,fun a ha=>by simp at ha,fun c hc=>(blkOf_nils hc).elim,fun c hc=>(blkOf_nils hc).elim,fun c hc=>(blkOf_nils hc).elim⟩
  have hnx:sp<hB.next:=by omega
  have h0n:h0.next≤hB.next:=by omega
  have hbn:bm<hB.next:=by omega
  refine W_count m.wgs.length (fun j s=>∃tm z2 X Y low high T2,s=⟨tm,z2,[]⟩∧TrS h0 h sp hB.next y lot m j T2 X Y low high z2∧(0≤T2∧T2≤T'+1+2*(j:Int))∧(Opd.t 6).ev tm=.ptr sp 0∧(Opd.t 7).ev tm=.ptr bm 0∧(Opd.t 11).ev tm=.int .i64 e11∧(Opd.t 149).ev tm=.int .i64 (i:Int)∧
    (Opd.t 21).ev tm=.ptr hB.next 0∧(Opd.t 160).ev tm=.int .i64 (m.wgs.length:Int)∧(Opd.t 161).ev tm=.int .i64 (j:Int))
   ?_ ?_ (i:=0) (Nat.zero_le _) ⟨_,_,.nils,.nils,[],[],T'+1,rfl,tr0,by omega,(by simp[ev_c,ev_put,t6]<;>rfl),(by simp[ev_c,ev_put,t7]<;>rfl),(by simp[ev_c,ev_put,t11]<;>rfl),(by simp[ev_c,ev_put,t149]<;>rfl),(by simp[ev_c,ev_put]<;>rfl),(by simp[ev_c,ev_put]<;>rfl),(by simp only[ev_put];rfl)⟩<;>clear t6 t7 t11 t149
  ·rintro j s hj ⟨tm,z2,X,Y,low,high,T2,rfl,k,hT2,t6,t7,t11,t149,t21,t160,t161⟩
   have hj':(j:Int)<(m.wgs.length:Int):=by omega
   have klx:=k.lx
   have kly:=k.ly
   simp -implicitDefEqProofs(maxSteps:=999999)(disch:=first|with_reducible rfl|omega|(simp only[nA,nS,nD]<;>omega)|fail)only[go_sem,t6,t7,t11,t149,t21,t160,t161,hj']
   refine Once_ev k.s hw0 hy hp0 k.spt (by omega) (by omega) _ fun t z3 s3 p3 k3 n3=>?_
   have k':=k.turn hnx s3 p3 k3
   simp -implicitDefEqProofs(maxSteps:=999999)(disch:=first|with_reducible rfl|omega|(simp only[nA,nS,nD]<;>omega)|fail)only[go_sem]
   refine PBd_cutC (fun s'=>∃tm z4 X' low',s'=⟨tm,z4,[]⟩∧TrS h0 h sp hB.next y lot m (j+1) (T2+1) X' Y low' high z4∧(Opd.t 6).ev tm=.ptr sp 0∧(Opd.t 7).ev tm=.ptr bm 0∧(Opd.t 11).ev tm=.int .i64 e11∧(Opd.t 149).ev tm=.int .i64 (i:Int)∧
    (Opd.t 21).ev tm=.ptr hB.next 0∧(Opd.t 22).ev tm=.int .i64 (j:Int)∧(Opd.t 160).ev tm=.int .i64 (m.wgs.length:Int)∧(Opd.t 161).ev tm=.int .i64 (j:Int)) (fun _=>?_) (fun _=>?_) ?_
   ·have sC:=(H.Sub.refl k'.s.wf).add (.cells .rw [.int .i64 (j:Int)])
    simp -implicitDefEqProofs(maxSteps:=999999)(disch:=first|with_reducible rfl|omega|(simp only[nA,nS,nD]<;>omega)|fail)only[go_sem,t6,t7,t11,t149,t21,t160,t161,cells_of k'.g]
    refine(k'.ox.mono sC).app1 (r:=encI (j:Int)) hw0 rfl (by omega) (own1_lit _) rfl (by simp only[List.length_map];omega) (by simp only[List.length_map];omega) fun z5 o5 k5 n5=>?_
    have g5:=k5.2 _ _ (sC.get k'.g) ((k'.ox.mono sC).ne (sC.get k'.g))
    have kk:=k'.pushX hw0 hnx h0n sC o5 k5 hj
    rw[H.next_add] at kk
    simp -implicitDefEqProofs(maxSteps:=999999)(disch:=first|with_reducible rfl|omega|(simp only[nA,nS,nD]<;>omega)|fail)only[go_sem,t6,t7,t11,t149,t21,t160,t161,g5]
    exact⟨rfl,_,_,_,_,rfl,kk,(by simp[ev_c,ev_put,t6]<;>rfl),(by simp[ev_c,ev_put,t7]<;>rfl),(by simp[ev_c,ev_put,t11]<;>rfl),(by simp[ev_c,ev_put,t149]<;>rfl),(by simp[ev_c,ev_put,t21]<;>rfl),(by simp[ev_c,ev_put]<;>rfl),(by simp[ev_c,ev_put,t160]<;>rfl),(by simp[ev_c,ev_put,t161]<;>rfl)⟩
   ·simp -implicitDefEqProofs(maxSteps:=999999)(disch:=first|with_reducible rfl|omega|(simp only[nA,nS,nD]<;>omega)|fail)only[go_sem]
    exact⟨rfl,_,_,X,low,rfl,{k' with lx:=by omega,ly:=by omega},(by simp[ev_c,ev_put,t6]<;>rfl),(by simp[ev_c,ev_put,t7]<;>rfl),(by simp[ev_c,ev_put,t11]<;>rfl),(by simp[ev_c,ev_put,t149]<;>rfl),(by simp[ev_c,ev_put,t21]<;>rfl),(by simp[ev_c,ev_put]<;>rfl),(by simp[ev_c,ev_put,t160]<;>rfl),(by simp[ev_c,ev_put,t161]<;>rfl)⟩
   ·clear t6 t7 t11 t149 t21 t160 t161
    rintro s' ⟨tm,z4,X',low',rfl,k4,t6,t7,t11,t149,t21,t22,t160,t161⟩
    have klx4:=k4.lx
    simp -implicitDefEqProofs(maxSteps:=999999)(disch:=first|with_reducible rfl|omega|(simp only[nA,nS,nD]<;>omega)|fail)only[go_sem,t6,t7,t11,t149,t21,t22,t160,t161]
    refine Once_ev k4.s hw0 hy hp0 k4.spt (by omega) (by omega) _ fun t z6 s6 p6 k6 n6=>?_
    have k':=k4.turn hnx s6 p6 k6
    simp -implicitDefEqProofs(maxSteps:=999999)(disch:=first|with_reducible rfl|omega|(simp only[nA,nS,nD]<;>omega)|fail)only[go_sem]
    have e2:T2+1+1=T2+2:=by omega
    rw[e2] at k'
    refine PBd_cutC (fun s'=>∃tm z4 Y' high',s'=⟨tm,z4,[]⟩∧TrS h0 h sp hB.next y lot m (j+1) (T2+2) X' Y' low' high' z4∧(Opd.t 6).ev tm=.ptr sp 0∧(Opd.t 7).ev tm=.ptr bm 0∧(Opd.t 11).ev tm=.int .i64 e11∧(Opd.t 149).ev tm=.int .i64 (i:Int)∧
     (Opd.t 21).ev tm=.ptr hB.next 0∧(Opd.t 160).ev tm=.int .i64 (m.wgs.length:Int)∧(Opd.t 161).ev tm=.int .i64 (j:Int)) (fun _=>?_) (fun _=>?_) ?_
    ·have sC:=(H.Sub.refl k'.s.wf).add (.cells .rw [.int .i64 (j:Int)])
     simp -implicitDefEqProofs(maxSteps:=999999)(disch:=first|with_reducible rfl|omega|(simp only[nA,nS,nD]<;>omega)|fail)only[go_sem,t6,t7,t11,t149,t21,t22,t160,t161,cells_of k'.g]
     refine(k'.oy.mono sC).app1 (r:=encI (j:Int)) hw0 rfl (by omega) (own1_lit _) rfl (by simp only[List.length_map];omega) (by simp only[List.length_map];omega) fun z5 o5 k5 n5=>?_
     have g5:=k5.2 _ _ (sC.get k'.g) ((k'.oy.mono sC).ne (sC.get k'.g))
     have kk:=k'.pushY hw0 hnx h0n sC o5 k5 hj
     rw[H.next_add] at kk
     simp -implicitDefEqProofs(maxSteps:=999999)(disch:=first|with_reducible rfl|omega|(simp only[nA,nS,nD]<;>omega)|fail)only[go_sem,t6,t7,t11,t149,t21,t22,t160,t161,g5]
     exact⟨rfl,_,_,_,_,rfl,{kk with lx:=klx4,ly:=by rw[List.length_append,List.length_singleton];omega},(by simp[ev_c,ev_put,t6]<;>rfl),(by simp[ev_c,ev_put,t7]<;>rfl),(by simp[ev_c,ev_put,t11]<;>rfl),(by simp[ev_c,ev_put,t149]<;>rfl),(by simp[ev_c,ev_put,t21]<;>rfl),(by simp[ev_c,ev_put,t160]<;>rfl),(by simp[ev_c,ev_put,t161]<;>rfl)⟩
    ·simp -implicitDefEqProofs(maxSteps:=999999)(disch:=first|with_reducible rfl|omega|(simp only[nA,nS,nD]<;>omega)|fail)only[go_sem]
     exact⟨rfl,_,_,Y,high,rfl,k',(by simp[ev_c,ev_put,t6]<;>rfl),(by simp[ev_c,ev_put,t7]<;>rfl),(by simp[ev_c,ev_put,t11]<;>rfl),(by simp[ev_c,ev_put,t149]<;>rfl),(by simp[ev_c,ev_put,t21]<;>rfl),(by simp[ev_c,ev_put,t160]<;>rfl),(by simp[ev_c,ev_put,t161]<;>rfl)⟩
    ·clear t6 t7 t11 t149 t21 t22 t160 t161
     rintro s' ⟨tm,z7,Y',high',rfl,k7,t6,t7,t11,t149,t21,t160,t161⟩
     simp -implicitDefEqProofs(maxSteps:=999999)(disch:=first|with_reducible rfl|omega|(simp only[nA,nS,nD]<;>omega)|fail)only[go_sem,t6,t7,t11,t149,t21,t160,t161,wr_succ]
     exact⟨_,_,X',Y',low',high',T2+2,rfl,k7,by omega,(by simp[ev_c,ev_put,t6]<;>rfl),(by simp[ev_c,ev_put,t7]<;>rfl),(by simp[ev_c,ev_put,t11]<;>rfl),(by simp[ev_c,ev_put,t149]<;>rfl),(by simp[ev_c,ev_put,t21]<;>rfl),(by simp[ev_c,ev_put,t160]<;>rfl),(by simp[ev_c,ev_put]<;>rfl)⟩
  ·rintro s ⟨tm,z2,X,Y,low,high,T2,rfl,k,hT2,t6,t7,t11,t149,t21,t160,t161⟩
   have klx:=k.lx
   have kly:=k.ly
   have gz2:=k.k.cells gm (by omega)
   have X1:=OwnC.one k.ox.c
   have Y1:=OwnC.one k.oy.c
   have mz:=hm.keep k.k (fun e' L' W' e2=>by
    cases e2
    exact⟨fun c hc h=>by have:=nL c hc;omega,fun c hc h=>by have:=nW c hc;omega⟩)
   simp -implicitDefEqProofs(maxSteps:=999999)(disch:=first|with_reducible rfl|omega|(simp only[nA,nS,nD]<;>omega)|fail)only[go_sem,t6,t7,t11,t149,t21,t160,t161,Int.lt_irrefl,gz2,cells_of k.g]
   refine(Proves_ev k.s.wf mz lot k.ox.c k.oy.c (by omega) (by omega)).mono fun u zP hu=>?_
   obtain⟨sP,n,g',rfl,spec⟩:=hu
   have kf:Keeps (fun c=>c=sp) h zP:=Keeps.new hw ((k.k.trans (Keeps.of sP fun _=>False)).mono fun c hc=>by
    rcases hc with(h|h)|h
    ·exact .inl h
    ·exact .inr (by omega)
    ·exact h.elim)
   rcases spec with⟨a,_⟩|⟨_,spec⟩
   ·exact absurd c a
   have key:g'=8∨g'=6∨(g'=0∧1≤n∧e11=0):=by
    have spec':=spec
    rcases spec with⟨a,_⟩|⟨_,⟨_,_,rfl⟩|⟨_,⟨_,_,rfl⟩|⟨a1,a2,rfl⟩⟩⟩
    ·exact absurd ⟨⟨a0,by omega⟩,k.ix,k.iy⟩ a
    ·exact .inl rfl
    ·exact .inr (.inl rfl)
    ·refine .inr (.inr ⟨rfl,by omega,he.resolve_right (tried_false g spec')⟩)
   have fin:=fun(tm:Go.Ab.T V) (t6:(Opd.t 6).ev tm=.ptr sp 0) (t7:(Opd.t 7).ev tm=.ptr bm 0) (t11:(Opd.t 11).ev tm=.int .i64 e11) (t149:(Opd.t 149).ev tm=.int .i64 ((i+1:Nat):Int))=>
    (⟨tm,zP,T2,rfl,k.s.trans sP,kf,k.spt.mono sP,⟨hT2.1,by omega⟩,t6,t7,t11,t149⟩:∃tm' z T',(⟨tm,zP,[]⟩:St)=⟨tm',z,[]⟩∧h0.Sub z∧Keeps (fun c=>c=sp) h z∧SpAt z sp y T'∧(0≤T'∧T'≤T+30*((i+1:Nat):Int))∧(Opd.t 6).ev tm'=.ptr sp 0∧(Opd.t 7).ev tm'=.ptr bm 0∧(Opd.t 11).ev tm'=.int .i64 e11∧(Opd.t 149).ev tm'=.int .i64 ((i+1:Nat):Int))
   rcases key with rfl|rfl|⟨rfl,n1,rfl⟩
   ·have q0:((8:Int)=0)=False:=eq_false (by omega)
    simp -implicitDefEqProofs(maxSteps:=999999)(disch:=first|with_reducible rfl|omega|(simp only[nA,nS,nD]<;>omega)|fail)only[go_sem,t6,t7,t11,t149,t21,q0,decide_false,ne_eq,not_false_eq_true,not_true_eq_false,decide_true,wr_succ]
    exact fin _ (by simp[ev_c,ev_put,t6]<;>rfl) (by simp[ev_c,ev_put,t7]<;>rfl) (by simp[ev_c,ev_put,t11]<;>rfl) (by simp[ev_c,ev_put]<;>rfl)
   ·have q0:((6:Int)=0)=False:=eq_false (by omega)
    have q8:((6:Int)=8)=False:=eq_false (by omega)
    simp -implicitDefEqProofs(maxSteps:=999999)(disch:=first|with_reducible rfl|omega|(simp only[nA,nS,nD]<;>omega)|fail)only[go_sem,t6,t7,t11,t149,t21,q0,q8,decide_false,ne_eq,not_false_eq_true,not_true_eq_false,decide_true,wr_succ]
    exact fin _ (by simp[ev_c,ev_put,t6]<;>rfl) (by simp[ev_c,ev_put,t7]<;>rfl) (by simp[ev_c,ev_put,t11]<;>rfl) (by simp[ev_c,ev_put]<;>rfl)
   ·have q1:¬n<1:=by omega
    simp -implicitDefEqProofs(maxSteps:=999999)(disch:=first|with_reducible rfl|omega|(simp only[nA,nS,nD]<;>omega)|fail)only[go_sem,t6,t7,t11,t149,t21,q1,decide_false,ne_eq,not_false_eq_true,not_true_eq_false,decide_true,wr_succ]
    exact fin _ (by simp[ev_c,ev_put,t6]<;>rfl) (by simp[ev_c,ev_put,t7]<;>rfl) (by simp[ev_c,ev_put,t11]<;>rfl) (by simp[ev_c,ev_put]<;>rfl)
 ·rintro s ⟨tm,z,T',rfl,sz,kz,pz,hT',t6,t7,t11,t149⟩
  have t149:(Opd.t 149).ev tm=.int .i64 8:=t149
  simp -implicitDefEqProofs(maxSteps:=999999)(disch:=first|with_reducible rfl|omega|(simp only[nA,nS,nD]<;>omega)|fail)only[go_sem,t6,t7,t11,t149,Int.lt_irrefl]
  exact⟨_,_,rfl⟩
end Go.Ab.Tryz
namespace Go.Ab.Tryz
open Go.Ab.Silk
set_option maxRecDepth 8000 in
set_option maxHeartbeats 8000000 in
theorem SilkProved_ev {h:H}{x y:V}{bs cs:List Int}(hw:h.wf)(hx:SlAt h x 1 (bs.map encU8))(hy:SlAt h y 1 (cs.map encU8)):Ev fnG fastA (.fn 4 [] []) [x,y] h (fun u _=>u=.bool true):=by
 refine Ev_body (fd:=c4) rfl rfl rfl ?_
 obtain⟨R1,hR1⟩:∃R,navK [true,true,true,false] c4.body=R:=⟨_,rfl⟩
 obtain⟨R2,hR2⟩:∃R,navK [true,true,true,true,true,true,true,true,false] c4.body=R:=⟨_,rfl⟩
 have r1:= @prvA_ev
 have r2:= @prvB_ev
 rw[hR1] at r1
 rw[hR2] at r2
 simp only[navK,c4] at hR1 hR2
 simp only[c4]
 rw[hR1,hR2]
 clear hR1 hR2
 simp -implicitDefEqProofs(maxSteps:=999999)(disch:=first|with_reducible rfl|omega|(simp only[nA,nS,nD]<;>omega)|fail)only[go_sem]
 refine Wound_ev hw hx _ fun h1 s1 p1 n1=>?_
 simp -implicitDefEqProofs(maxSteps:=999999)(disch:=first|with_reducible rfl|omega|(simp only[nA,nS,nD]<;>omega)|fail)only[go_sem]
 refine Wound_ev s1.wf (hy.mono s1) _ fun h2 s12 q2 n2=>?_
 simp -implicitDefEqProofs(maxSteps:=999999)(disch:=first|with_reducible rfl|omega|(simp only[nA,nS,nD]<;>omega)|fail)only[go_sem]
 refine Made_ev (s1.trans s12) hw hx (Nat.le_refl _) (p1.mono s12) (by omega) (lots:=10) (drams:=200) (by omega) (by omega) _ fun e l r L bb h3 T3 he hl hlo hreal s3 p3 hT3 k3 aL L1 hLp hb gb=>?_
 have q3:=q2.keep k3 (by omega)
 have w3:=s3.wf
 have lt3:=w3 _ _ gb
 have n3:=k3.1
 have hL3:∀c,blkOf L c→c<h3.next:=SlAt_lt w3 aL (by intro h;rw[List.map_eq_nil_iff] at h;rw[h] at hl;simp at hl)
 have sA:=(H.Sub.refl w3).add (.cells .rw [.int .i64 e,L,.nils])
 have gA:(h3.add (.cells .rw [.int .i64 e,L,.nils])).get h3.next=some (.cells .rw [.int .i64 e,L,.nils]):=get_add_new rfl
 have lA:(h3.add (.cells .rw [.int .i64 e,L,.nils])).next=h3.next+1:=H.next_add _ _
 simp -implicitDefEqProofs(maxSteps:=999999)(disch:=first|with_reducible rfl|omega|(simp only[nA,nS,nD]<;>omega)|fail)only[go_sem,L1,cells_one L1]
 generalize h3.add (.cells .rw [.int .i64 e,L,.nils])=hA at sA gA lA⊢
 have hrl:∀j:Int,0≤j→j<l.length→0≤r j∧r j≤10000:=fun j j0 j1=>by
  have:=(hreal.last (good_made (e:=e) (by omega) (by omega) hlo) (by omega)).1 j j0 j1
  omega
 refine(r1 hw hx (s3.trans sA) (p3.mono sA) (by omega) (by omega) gA (by omega) (sA.get gb) (by omega) (by omega) L1 aL.lenE (by omega) hrl _ (by simp[ev_c,ev_put]<;>rfl) (by simp[ev_c,ev_put]<;>rfl) (by simp[ev_c,ev_put]<;>rfl) (by simp[ev_c,ev_put]<;>rfl)).mono fun x1 s hx1=>?_
 obtain⟨rfl,tm,h4,Z,wg,rfl,s4,oZ,nZ,hok,hwl,k4,g4,t6,t7⟩:=hx1
 have q4:=(q3.mono sA).keep k4 (by omega)
 have g:=hok.good (e:=e) (by omega) (by omega) hlo (by omega)
 have c:=check_good g
 have l4:=k4.1
 have a4:=SlAt_keep (aL.mono sA) k4 fun c hc e=>by have:=hL3 c hc;have:=(hLp c hc).1;omega
 have hm4:MlIs h4 (.agg [.int .i64 e,L,Z]) ⟨e,l,wg⟩:=⟨L,Z,rfl,a4,oZ.sl (by simp only[List.length_map];omega)⟩
 have Z1:=OwnC.one oZ.c
 have gm4:=cells_of g4
 have nL4:∀c,blkOf L c→c<h4.next∧c≠h1.next:=fun c hc=>⟨by have:=hL3 c hc;omega,by have:=(hLp c hc).2;omega⟩
 have nZ4:∀c,blkOf Z c→c<h4.next∧c≠h1.next:=fun c hc=>⟨(oZ.blk hc).2.1,by have:=nZ c hc;omega⟩
 have l1:=s1.next
 have rest:∀(tm:Go.Ab.T V) (hq:H) (e11:Int),h4.Sub hq→(e11=0∨∃w,FeasM ⟨e,l,wg⟩ allC w)→(Opd.t 6).ev tm=.ptr h1.next 0→(Opd.t 7).ev tm=.ptr h3.next 0→(Opd.t 11).ev tm=.int .i64 e11→_:=
  fun tm hq e11 sq he t6 t7 t11=>r2 (h0:=h) (h:=hq) hw hy (s4.trans sq) (sp:=h1.next) (bm:=h3.next) (by omega) (q4.mono sq) (by omega) (sq.cells gm4) (by omega) (by have:=sq.next;omega) (hm4.mono sq) (fun c hc=>⟨by have:=(nL4 c hc).1;have:=sq.next;omega,(nL4 c hc).2⟩) (fun c hc=>⟨by have:=(nZ4 c hc).1;have:=sq.next;omega,(nZ4 c hc).2⟩) g he tm t6 t7 t11
 clear r1 r2
 simp -implicitDefEqProofs(maxSteps:=999999)(disch:=first|with_reducible rfl|omega|(simp only[nA,nS,nD]<;>omega)|fail)only[go_sem,t6,t7,gm4]
 refine(Prove_own s4.wf hm4).mono fun u h5 hu=>?_
 obtain⟨s45,lot,P,Q,low,high,e5,rfl,oP,oQ,hll,specP⟩:=hu
 have P1:=oP.one
 have Q1:=oQ.one
 have sB:=(H.Sub.refl s45.wf).add (.cells .rw [.int .i64 lot,P,Q])
 have gB:(h5.add (.cells .rw [.int .i64 lot,P,Q])).cells h5.next=some [.int .i64 lot,P,Q]:=cells_add_new rfl
 have s4B:=s45.trans sB
 have gmB:=s4B.cells gm4
 simp -implicitDefEqProofs(maxSteps:=999999)(disch:=first|with_reducible rfl|omega|(simp only[nA,nS,nD]<;>omega)|fail)only[go_sem,t6,t7,P1,Q1,cells_one P1,cells_one Q1,gmB]
 generalize h5.add (.cells .rw [.int .i64 lot,P,Q])=hB at sB gB s4B gmB⊢
 refine(Bounds_ev s4B.wf (hm4.mono s4B)).mono fun u h6 hu=>?_
 obtain⟨s6,X,rows,e6,rfl,aX,spec⟩:=hu
 have s46:=s4B.trans s6
 have gm6:=s46.cells gm4
 have gB6:=s6.cells gB
 rcases specP with⟨a,_⟩|⟨_,⟨hf,rfl,rfl,rfl,rfl⟩|⟨hnf,rfl,lotb,hlt,elow,ehigh⟩⟩
 ·exact absurd c a
 ·rcases spec with⟨a,_⟩|⟨_,a,_⟩|⟨_,b,hbx,rfl,rfl⟩
  ·exact absurd c a
  ·exact absurd hf a
  have h0l:0<l.length:=by omega
  have q60:((6:Int)=0)=False:=eq_false (by omega)
  have f01:(false==true)=false:=rfl
  have hix:0<(spansL b l.length).length:=by rw[spansL_len];omega
  obtain⟨bX,oX,cX,csX,rfl,hcsX,hqX,hgX,hnX,hnX0⟩:=aX.at hix
  have hv0:nth oX csX=some (.int .i64 (b 0).1):=by
   have:=hnX 0 (by omega)
   simp only[Nat.zero_mul,Nat.add_zero] at this
   rw[this,spans_at];rfl
  have hq0:∀n:Nat,q_iad 2 (.sl bX oX (spansL b l.length).length cX) (.int .i64 0)=some (.ptr bX oX):=fun _=>by
   have:=hqX (nat_cst 0)
   rw[Nat.zero_mul,Nat.add_zero] at this;exact this
  simp -implicitDefEqProofs(maxSteps:=999999)(disch:=first|with_reducible rfl|omega|(simp only[nA,nS,nD]<;>omega)|fail)only[go_sem,t6,t7,q60,decide_false,decide_true,ne_eq,not_true_eq_false,not_false_eq_true,gm6,hq0 0,hcsX,hv0,f01]
  refine(Weights_ev s46.wf (hm4.mono s46) 0 (b 0).1).mono fun u h7 hu=>?_
  obtain⟨s7,K,ws,e7,rfl,aK,spec⟩:=hu
  have hne:=hbx.1.ne 0 (by omega) (by simp only;omega)
  have hex:∃v,FeasM ⟨e,l,wg⟩ allC v∧v 0=(b 0).1:=hbx.1.full 0 (b 0).1 (by omega) (by simp only;omega) (by omega) hne
  rcases spec with⟨a,_⟩|⟨_,a,_⟩|⟨_,_,a,_⟩|⟨_,_,rfl,wl2,wf,wv⟩
  ·exact absurd c a
  ·exact absurd ⟨by omega,by simp only;omega⟩ a
  ·exact absurd hex a
  have gm7:=s7.cells gm6
  simp -implicitDefEqProofs(maxSteps:=999999)(disch:=first|with_reducible rfl|omega|(simp only[nA,nS,nD]<;>omega)|fail)only[go_sem,t6,t7,decide_false,decide_true,ne_eq,not_true_eq_false,not_false_eq_true,gm6,gm7,hq0 0,hcsX,hv0]
  refine dry_ev (s46.trans s7).wf ((hm4.mono s46).mono s7) g aK ⟨wl2,wf⟩ _ fun h8 s8=>?_
  simp -implicitDefEqProofs(maxSteps:=999999)(disch:=first|with_reducible rfl|omega|(simp only[nA,nS,nD]<;>omega)|fail)only[go_sem,t6,t7,Bool.not_true]
  refine(rest _ h8 6 (s46.trans (s7.trans s8)) (.inr hf) (by simp[ev_c,ev_put,t6]<;>rfl) (by simp[ev_c,ev_put,t7]<;>rfl) (by simp[ev_c,ev_put]<;>rfl)).mono fun x1 s hx1=>?_
  obtain⟨rfl,tm2,h9,rfl⟩:=hx1
  simp -implicitDefEqProofs(maxSteps:=999999)(disch:=first|with_reducible rfl|omega|(simp only[nA,nS,nD]<;>omega)|fail)only[go_sem,awake_eq]
 ·rcases spec with⟨a,_⟩|⟨_,a,rfl,rfl⟩|⟨_,b,hbx,rfl,rfl⟩
  ·exact absurd c a
  case inr.inr=>exact absurd (hbx.feas g) hnf
  have q70:((7:Int)=0)=False:=eq_false (by omega)
  have f10:(true==false)=false:=rfl
  simp -implicitDefEqProofs(maxSteps:=999999)(disch:=first|with_reducible rfl|omega|(simp only[nA,nS,nD]<;>omega)|fail)only[go_sem,t6,t7,q70,f10,decide_false,decide_true,ne_eq,not_true_eq_false,not_false_eq_true,gm6,gB6]
  have oP6:=oP.mono (sB.trans s6)
  have oQ6:=oQ.mono (sB.trans s6)
  refine(Proves_ev s46.wf (hm4.mono s46) lot oP6 oQ6 hll.1 hll.2).mono fun u h7 hu=>?_
  obtain⟨s7,n,e7,rfl,specV⟩:=hu
  rcases specV with⟨a,_⟩|⟨_,specV⟩
  ·exact absurd c a
  obtain⟨rfl,n1⟩:=found_holds g lotb.1 lotb.2 hlt (by rw[←elow,←ehigh];exact specV)
  obtain⟨lne,lnd⟩:=found_low g specV
  obtain⟨_,hin1,hin2,_⟩:=proofR_ok specV
  have hl10:low.length≤10∧high.length≤10:=⟨by rw[elow];exact(most_bd g lotb.1 lotb.2).2.2,by rw[ehigh];exact(few_bd g lotb.1 lotb.2).2.2⟩
  have s47:=s46.trans s7
  have gm7:=s47.cells gm4
  have gB7:=s7.cells gB6
  have aP:=(oP6.mono s7).sl (by rw[List.length_map];omega)
  have aQ:=(oQ6.mono s7).sl (by rw[List.length_map];omega)
  have w7:=s47.wf
  have sD:=(H.Sub.refl w7).add (.cells .rw (low.map encI).flatten)
  have ap:=fun(R:V→H→Prop)=>app_dup (h0:=h7) (high:=high.map encI) (y:=Q) (Q:=R) sD (Nat.le_refl _) (by rw[H.next_add];omega) (get_add_new rfl) (fun r hr=>by obtain⟨i,_,rfl⟩:=List.mem_map.1 hr;rfl) (aQ.mono sD) (by rw[List.length_map];omega) (by rw[List.length_map];omega)
  rw[List.length_map] at ap
  simp -implicitDefEqProofs(maxSteps:=999999)(disch:=first|with_reducible rfl|omega|(simp only[nA,nS,nD]<;>omega)|fail)only[go_sem,t6,t7,gB7,dupInt_ev w7 aP (by omega),sD.cells gB7]
  refine ap _ fun x' h9 s9 o9 hx9=>?_
  rw[←List.map_append] at o9 hx9
  rw[List.length_map] at hx9
  have hx9':(low++high).Nodup∨∃b,x'=.sl b 0 (low++high).length (.slk 0 0):=by
   by_cases hh:high=[]
   ·left;rw[hh,List.append_nil];exact lnd
   ·exact .inr (hx9 fun h=>hh (List.map_eq_nil_iff.1 h))
  simp -implicitDefEqProofs(maxSteps:=999999)(disch:=first|with_reducible rfl|omega|(simp only[nA,nS,nD]<;>omega)|fail)only[go_sem,t6,t7,gB7,sD.cells gB7]
  refine sortCompact_ev (l:=low++high) o9 w7 (fun h=>lne (List.append_eq_nil_iff.1 h).1) (by rw[List.length_append];omega) hx9' _ fun h10 s10 k10 cm=>?_
  have gm10:=s10.cells gm7
  simp -implicitDefEqProofs(maxSteps:=999999)(disch:=first|with_reducible rfl|omega|(simp only[nA,nS,nD]<;>omega)|fail)only[go_sem,t6,t7,gm10]
  refine cm _ (H.Sub.refl s10.wf) _ fun z h11 s11 k11 cz=>?_
  have gm11:=s11.cells gm7
  have hlr:(risL (low++high)).length≤1000:=by
   have h1:(risL (low++high)).length≤(sortI (low++high)).length:=dd_len
   rw[sortI_len,List.length_append] at h1
   omega
  simp -implicitDefEqProofs(maxSteps:=999999)(disch:=first|with_reducible rfl|omega|(simp only[nA,nS,nD]<;>omega)|fail)only[go_sem,t6,t7,gm10,gm11]
  have s411:=s47.trans s11
  refine(Agree_cut s411.wf (hm4.mono s411) cz (by omega)).mono fun u h12 hu=>?_
  obtain⟨s12',t,rfl,spec⟩:=hu
  have hlE:listE ⟨e,l,wg⟩ (risL (low++high))=0:=listE_ris c fun a ha=>by
   rcases List.mem_append.1 ha with ha|ha
   ·exact hin1 a ha
   ·exact hin2 a ha
  rw[hlE] at spec⊢
  have ht:t=false:=by
   rcases spec with⟨a,_⟩|⟨_,a⟩
   ·exact absurd rfl a
   ·rw[a];exact found_false g specV fun a=>by rw[risL_mem,List.mem_append]
  subst ht
  have n1':¬n<1:=by omega
  simp -implicitDefEqProofs(maxSteps:=999999)(disch:=first|with_reducible rfl|omega|(simp only[nA,nS,nD]<;>omega)|fail)only[go_sem,t6,t7,gm10,gm11,n1',decide_false,ne_eq,not_true_eq_false]
  refine(rest _ h12 0 (s411.trans s12') (.inl rfl) (by simp[ev_c,ev_put,t6]<;>rfl) (by simp[ev_c,ev_put,t7]<;>rfl) (by simp[ev_c,ev_put]<;>rfl)).mono fun x1 s hx1=>?_
  obtain⟨rfl,tm2,h13,rfl⟩:=hx1
  simp -implicitDefEqProofs(maxSteps:=999999)(disch:=first|with_reducible rfl|omega|(simp only[nA,nS,nD]<;>omega)|fail)only[go_sem,awake_eq]
end Go.Ab.Tryz
