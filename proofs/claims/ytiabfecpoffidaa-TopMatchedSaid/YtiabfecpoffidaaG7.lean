/- Sorted. sorting: the first sorting into at most so many sets. What the longest list for which something holds is. Plain. How many: strangers, sets, eyes. Plain. Numbers as sets by bits; into how few sets, of each set from smaller ones. Plain. EyeMore: what one piece more does. Plain; the first rows of a slice. Some eyes, as the law tries them; which lists rise; slices.Compare. slices.Compact, rising, Enough. Witness, Needed. Tellers. Plain. The reference's searches: sets, members, first, Listed. The reference's Most. Whether lists are a sorting, as the reference finds it. Tables of integers as blocks; rows that are stored. -/
import Derived.Test.YtiabfecpoffidaaG4
import Derived.Test.YtiabfecpoffidaaG5
import Derived.Test.YtiabfecpoffidaaG6
set_option linter.unusedSimpArgs false
set_option linter.unusedVariables false
namespace Go.Ab
theorem Keeps.low {S:Nat→Prop}{n:Nat}{h h':H}(k:Keeps (fun c=>S c∨n≤c) h h')(hw:h.wf)(l:h.next≤n):Keeps S h h':=
 ⟨k.1,fun c y e ns=>k.2 c y e fun h0=>h0.elim ns fun h1=>by have:=hw c y e;omega⟩
end Go.Ab
namespace Go.Ab.Try
theorem sorting11_ev {h:H}{d dC pB:Nat}{t:Tb}(hd:DkAt h d t)(g:Good t)(gD:h.cells dC=some [.ptr d 0]){p:Nat}(gP:h.cells pB=some [.int .i64 (p:Int)])(hp:p<t.pieces.length){x:Int}(hx:0≤x∧x<(t.pieces.length:Int)):
  PureA h (.fn 38 [] [.ptr dC 0,.ptr pB 0]) [.int .i64 x] (.bool (mT t x (p:Int))):=by
 intro h1 hs
 obtain⟨i,rfl⟩:=Int.eq_ofNat_of_zero_le hx.1
 refine Ev.gen fun Q q=>?_
 refine Ev_body (fd:=c38) rfl rfl rfl ?_
 simp(disch:=first|omega|simp only[nZ]<;>omega|fail)only[c38,go_sem,hs.cells gD,hs.cells gP]
 refine match_ev hs.wf (hd.mono hs) g (by omega) hp _ fun h2 s2=>?_
 simp(disch:=first|omega|simp only[nZ]<;>omega|fail)only[go_sem]
 exact q _ _ ⟨by simp only[mT,Int.toNat_natCast],s2⟩
abbrev eS (S:List (List Int)):List (List (List V)):=S.map fun l=>l.map encI
theorem eS_set (S:List (List Int))(i:Nat)(l:List Int):(eS S).set i (l.map encI)=eS (S.set i l):=by rw[eS,eS,List.map_set]
set_option maxHeartbeats 4000000 in
theorem sortput_ev {h0:H}(hw0:h0.wf){d:Nat}{t:Tb}(hd:DkAt h0 d t)(g:Good t){dC mC sC pC most:Nat}(l0:h0.next≤sC)(n1:dC≠sC)(n2:mC≠sC)(n3:pC≠sC)(hmost:most≤20):
  ∀(k p:Nat) (S:List (List Int)) (F:Nat→Prop) (h:H) (x:V),p+k=t.pieces.length→S.length≤most→(∀l∈S,l.length≤p∧∀a∈l,0≤a∧a<(p:Int))→h0.Sub h→(∀c,F c→h0.next≤c∧c≠dC∧c≠mC∧c≠sC∧c≠pC∧c<h.next)→
   h.cells dC=some [.ptr d 0]→h.cells mC=some [.int .i64 (most:Int)]→h.cells pC=some [.fn 37 [] [.ptr dC 0,.ptr sC 0,.ptr pC 0,.ptr mC 0]]→h.get sC=some (.cells .rw [x])→LsCut F h x (eS S)→∀Q:V→H→Prop,
   (∀h' x' r,Keeps (fun c=>c=sC∨F c) h h'→h'.wf→h'.get sC=some (.cells .rw [x'])→LsCut (fun c=>F c∨h.next≤c) h' x' (eS (r.getD S))→putR (mT t) most k p S=r→Q (.bool r.isSome) h')→
   Ev fnG fastA (.fn 37 [] [.ptr dC 0,.ptr sC 0,.ptr pC 0,.ptr mC 0]) [.int .i64 (p:Int)] h Q:=by
 intro k
 induction k with
 |zero=>
  intro p S F h x hk hl hm hs hF gD gM gP gS lx Q q
  have s1:=(H.Sub.refl hs.wf).add (.cells .rw [.int .i64 (p:Int)])
  have g1:(h.add (.cells .rw [.int .i64 (p:Int)])).cells h.next=some [.int .i64 (p:Int)]:=cells_add_new rfl
  obtain⟨E,L,P,gd,aE,aL,aP⟩:=hd.mono (hs.trans s1)
  have hlP:=aP.lenE
  have hpn:decide ((p:Int)=(t.pieces.length:Int))=true:=decide_eq_true (by omega)
  have gD1:=s1.cells gD
  have gS1:=s1.get gS
  have l1:=lx.mono s1
  refine Ev_body (fd:=c37) rfl rfl rfl ?_
  simp(disch:=first|omega|simp only[nZ]<;>omega|fail)only[c37,go_sem]
  generalize h.add (.cells .rw [.int .i64 (p:Int)])=h5 at s1 g1 gd gD1 gS1 l1 hlP⊢
  simp(disch:=first|omega|simp only[nZ]<;>omega|fail)only[go_sem,g1,gD1,cells_of gd,hlP,hpn]
  exact q _ x (some S) (Keeps.of s1 _) s1.wf gS1 (l1.up fun b hb _=>.inl hb) rfl
 |succ k ih=>
  intro p S F h x hk hl hm hs hF gD gM gP gS lx Q q
  have hp:p<t.pieces.length:=by omega
  have s1:=(H.Sub.refl hs.wf).add (.cells .rw [.int .i64 (p:Int)])
  have g1:(h.add (.cells .rw [.int .i64 (p:Int)])).cells h.next=some [.int .i64 (p:Int)]:=cells_add_new rfl
  have nx1:(h.add (.cells .rw [.int .i64 (p:Int)])).next=h.next+1:=H.next_add _ _
  obtain⟨E,L,P,gd,aE,aL,aP⟩:=hd.mono (hs.trans s1)
  have hlP:=aP.lenE
  have gp:=g.pieces
  have hpn:decide ((p:Int)=(t.pieces.length:Int))=false:=decide_eq_false (by omega)
  have gD1:=s1.cells gD
  have gM1:=s1.cells gM
  have gP1:=s1.cells gP
  have gS1:=s1.get gS
  have l1:=lx.mono s1
  have lenx:=lx.len (by rw[List.length_map];omega)
  rw[List.length_map] at lenx
  have bD:=(H.cells_eq gD).elim fun kd e=>hs.wf _ _ e
  have bM:=(H.cells_eq gM).elim fun kd e=>hs.wf _ _ e
  have bP:=(H.cells_eq gP).elim fun kd e=>hs.wf _ _ e
  have bS:=hs.wf _ _ gS
  refine Ev_body (fd:=c37) rfl rfl rfl ?_
  simp(disch:=first|omega|simp only[nZ]<;>omega|fail)only[c37,go_sem]
  generalize h.add (.cells .rw [.int .i64 (p:Int)])=h5 at s1 g1 nx1 gd gD1 gM1 gP1 gS1 l1 hlP⊢
  simp(disch:=first|omega|simp only[nZ]<;>omega|fail)only[go_sem,g1,gD,gD1,cells_of gd,hlP,hpn,cells_of gS,cells_of gS1,lenx]
  obtain⟨F1,eF1⟩:∃F1:Nat→Prop,F1=fun c=>F c∨h.next+1≤c:=⟨_,rfl⟩
  have F1n:∀c,F1 c→h0.next≤c∧c≠dC∧c≠mC∧c≠sC∧c≠pC∧c≠h.next:=fun c hc=>by
   subst eF1
   have:=hs.next
   rcases hc with hc|hc
   ·have:=hF c hc;omega
   ·omega
  have F1a:∀c,h.next+1≤c→F1 c:=fun c hc=>by subst eF1;exact .inr hc
  have l1':LsCut F1 h5 x (eS S):=l1.up fun b hb _=>by subst eF1;exact .inl hb
  have fin:∀h' x' r,Keeps (fun c=>c=sC∨F1 c) h5 h'→h'.wf→h'.get sC=some (.cells .rw [x'])→LsCut F1 h' x' (eS (r.getD S))→putR (mT t) most (k+1) p S=r→Q (.bool r.isSome) h':=fun h' x' r k' w' g' l' e=>by
   subst eF1
   refine q h' x' r ?_ w' g' (l'.up fun b hb _=>hb.elim .inl fun h0=>.inr (by omega)) e
   have k1:Keeps (fun c=>(c=sC∨F c)∨h.next≤c) h h':=((Keeps.of s1 fun _=>False).trans k').mono fun c h0=>by
    rcases h0 with h0|h0|h0|h0
    ·exact h0.elim
    ·exact .inl (.inl h0)
    ·exact .inl (.inr h0)
    ·exact .inr (by omega)
   exact k1.low hs.wf (Nat.le_refl _)
  have cell:∀{h':H} {c:Nat} {cs:List V},Keeps (fun c=>c=sC∨F1 c) h5 h'→h5.cells c=some cs→c=dC∨c=mC∨c=pC∨c=h.next→h'.cells c=some cs:=fun k' e hc=>k'.cells e fun h0=>by
   rcases h0 with h0|h0
   ·have:=bS;rcases hc with rfl|rfl|rfl|rfl<;>first|exact n1 h0|exact n2 h0|exact n3 h0|omega
   ·have:=F1n _ h0;rcases hc with rfl|rfl|rfl|rfl<;>omega
  have sub0:∀{h':H},Keeps (fun c=>c=sC∨F1 c) h5 h'→h'.wf→h0.Sub h':=fun k' w'=>k'.sub (hs.trans s1) hw0 (fun c hc=>by
   rcases hc with h0|h0
   ·omega
   ·have:=F1n _ h0;omega) w'
  refine W_count S.length (fun i s=>∃tm hh x',s=⟨tm,hh,[]⟩∧Keeps (fun c=>c=sC∨F1 c) h5 hh∧hh.wf∧hh.get sC=some (.cells .rw [x'])∧LsCut F1 hh x' (eS S)∧
    (∀i',i'<i→(if((S.getD i' []).all fun x=>mT t x (p:Int))=true then putR (mT t) most k (p+1) (S.set i' (S.getD i' []++[(p:Int)])) else none)=none)∧
    (Opd.t 1).ev tm=.ptr dC 0∧(Opd.t 2).ev tm=.ptr sC 0∧(Opd.t 3).ev tm=.ptr pC 0∧(Opd.t 4).ev tm=.ptr mC 0∧(Opd.t 5).ev tm=.ptr h.next 0∧(Opd.t 17).ev tm=.int .i64 (S.length:Int)∧(Opd.t 18).ev tm=.int .i64 (i:Int))
   ?_ ?_ (i:=0) (Nat.zero_le _) ⟨_,_,x,rfl,Keeps.refl _ _,s1.wf,gS1,l1',fun i' hi'=>by omega,(by simp<;>rfl),(by simp<;>rfl),(by simp<;>rfl),(by simp<;>rfl),(by simp<;>rfl),(by simp<;>rfl),(by simp<;>rfl)⟩
  ·rintro i s hi ⟨tm,hh,x',rfl,kk,wh,gx,lx',hno,t1,t2,t3,t4,t5,t17,t18⟩
   have hi':(i:Int)<(S.length:Int):=by omega
   have hie:i<(eS S).length:=by simp;exact hi
   obtain⟨b,o,kd,cs,v,e1,e2,e3,e4,cv,bx,nbv,Fb,upd⟩:=lx'.at (by simp;omega) hie
   have egd:S.getD i []=S[i]:=by rw[List.getD_eq_getElem?_getD,List.getElem?_eq_getElem hi];rfl
   have hmi:=hm _ (List.getElem_mem hi)
   have eSi:(eS S)[i]=S[i].map encI:=by simp[eS]
   rw[eSi] at cv
   have sh:=sub0 kk wh
   have gD':=cell kk gD1 (.inl rfl)
   have g1':=cell kk g1 (.inr (.inr (.inr rfl)))
   have gP':=cell kk gP1 (.inr (.inr (.inl rfl)))
   have sv:=cv.sl (by simp only[List.length_map];omega)
   simp(disch:=first|omega|simp only[nZ]<;>omega|fail)only[go_sem,t1,t2,t3,t4,t5,t17,t18,hi',cells_of gx,e1,cells_of e2,e4]
   refine(everyInt_ev (p:=fun x=>mT t x (p:Int)) wh sv fun a ha=>sorting11_ev (hd.mono sh) g gD' g1' hp (by have:=hmi.2 a ha;omega)).mono fun u h6 hu=>?_
   obtain⟨rfl,s6⟩:=hu
   have k6:Keeps (fun c=>c=sC∨F1 c) h5 h6:=(kk.trans (Keeps.of s6 fun c=>c=sC∨F1 c)).mono fun c h=>by rcases h with h|h<;>exact h
   have gx6:=s6.get gx
   have lx6:=lx'.mono s6
   cases hall:S[i].all fun x=>mT t x (p:Int) with
   |false=>
    simp(disch:=first|omega|simp only[nZ]<;>omega|fail)only[go_sem,t1,t2,t3,t4,t5,t17,t18,Bool.not_false,wr_succ]
    exact⟨_,_,x',rfl,k6,s6.wf,gx6,lx6,fun i' h1=>by
     by_cases e:i'=i
     ·subst e;rw[egd,hall];rfl
     ·exact hno i' (by omega),(by simp[t1]<;>rfl),(by simp[t2]<;>rfl),(by simp[t3]<;>rfl),(by simp[t4]<;>rfl),(by simp[t5]<;>rfl),(by simp[t17]<;>rfl),(by simp<;>rfl)⟩
   |true=>
    have s7:=(H.Sub.refl s6.wf).add (.cells .rw [.int .i64 (p:Int)])
    have own1:SlAt (h6.add (.cells .rw [.int .i64 (p:Int)])) (.sl h6.next 0 1 (.fix 1)) 1 [encI (p:Int)]:=own1_lit
    have n7:(h6.add (.cells .rw [.int .i64 (p:Int)])).next=h6.next+1:=H.next_add _ _
    have k67:Keeps (blkOf v) hh (h6.add (.cells .rw [.int .i64 (p:Int)])):=Keeps.of (s6.trans s7) _
    have gl5:=kk.1
    have n6:=s6.next
    have g1S:=s6.cells g1'
    simp(disch:=first|omega|simp only[nZ]<;>omega|fail)only[go_sem,t1,t2,t3,t4,t5,t17,t18,Bool.not_true,cells_of gx6,e1,s6.cells (cells_of e2),e4,g1S]
    refine(cv.mono (s6.trans s7)).app1 (by_:=8) (r:=encI (p:Int)) s7.wf (F1a _ (by omega)) rfl (by omega) own1 rfl (by simp only[List.length_map];omega) (by simp only[List.length_map];omega) fun v' h8 cv8 nb8 k8 w8=>?_
    have kv8:Keeps (blkOf v) hh h8:=(k67.trans k8).mono fun c h=>by rcases h with h|h<;>exact h
    have ea:S[i].map encI++[encI (p:Int)]=(S[i]++[(p:Int)]).map encI:=by simp
    rw[ea] at cv8
    obtain⟨cs',put8,l8⟩:=upd v' _ h8 kv8 cv8 fun c hc=>(nb8 c hc).imp id fun h=>by omega
    rw[eS_set] at l8
    have e28:=kv8.2 _ _ e2 nbv
    have hpc:putC (some (.cells kd cs)) h8 b o [v']=some (h8.set b (.cells kd cs')):=by rcases e3 with rfl|rfl<;>simp only[putC_rw,putC_gr,put8,setO_some]
    have ov8:=cv8.one
    have bF:∀c,blkOf v c→F1 c:=fun c hc=>(cv.blk hc).1
    have gx8:=kv8.2 _ _ gx fun h0=>absurd rfl (F1n _ (bF _ h0)).2.2.2.1
    have kS:Keeps (fun c=>c=sC∨F1 c) h5 (h8.set b (.cells kd cs')):=((kk.trans kv8).trans (Keeps.set h8 b (.cells kd cs'))).mono fun c h=>by
     rcases h with(h|h)|h
     ·exact h
     ·exact .inr (bF c h)
     ·exact .inr (by rw[h];exact Fb)
    have wS:=H.wf_set w8 (.cells kd cs') e28
    have gxS:(h8.set b (.cells kd cs')).get sC=some (.cells .rw [x']):=by rw[get_set_other (fun h0=>by have:=F1n _ Fb;omega)];exact gx8
    have g18:=kv8.cells g1' fun h0=>absurd rfl (F1n _ (bF _ h0)).2.2.2.2.2
    have gPS:=cell kS gP1 (.inr (.inr (.inl rfl)))
    have g1S':=cell kS g1 (.inr (.inr (.inr rfl)))
    have w1:wr .i64 ((p:Int)+1)=((p+1:Nat):Int):=wr_succ (by omega)
    simp(disch:=first|omega|simp only[nZ]<;>omega|fail)only[go_sem,t1,t2,t3,t4,t5,t17,t18,cells_of gx8,e28,hpc,ov8,cells_one ov8,cells_of e28,e1,e4,g18,g1S,cells_of gx6,s6.cells (cells_of e2),s7.cells (s6.cells (cells_of e2)),s7.cells (cells_of gx6),s7.cells g1S]
    generalize h8.set b (.cells kd cs')=hS at l8 kS wS gxS gPS g1S'⊢
    simp(disch:=first|omega|simp only[nZ]<;>omega|fail)only[go_sem,t1,t2,t3,t4,t5,t17,t18,gPS,g1S',w1]
    have hmS:∀l∈S.set i (S[i]++[(p:Int)]),l.length≤p+1∧∀a∈l,0≤a∧a<((p+1:Nat):Int):=fun l hl0=>by
     rcases List.mem_or_eq_of_mem_set hl0 with h1|rfl
     ·have:=hm l h1
      exact⟨by omega,fun a ha=>by have:=this.2 a ha;omega⟩
     ·refine⟨by simp;omega,fun a ha=>?_⟩
      rcases List.mem_append.1 ha with h1|h1
      ·have:=hmi.2 a h1;omega
      ·rw[List.mem_singleton] at h1;omega
    refine ih (p+1) (S.set i (S[i]++[(p:Int)])) (fun c=>F1 c∧c<hS.next) hS x' (by omega) (by rw[List.length_set];exact hl) hmS (sub0 kS wS) (fun c hc=>by have:=F1n c hc.1;exact⟨this.1,this.2.1,this.2.2.1,this.2.2.2.1,this.2.2.2.2.1,hc.2⟩) (cell kS gD1 (.inl rfl)) (cell kS gM1 (.inr (.inl rfl))) gPS gxS (l8.up fun c hc h1=>⟨hc,h1⟩) _ fun h9 x9 r k9 w9 gx9 l9 e9=>?_
    have l9:LsCut F1 h9 x9 (eS (r.getD (S.set i (S[i]++[(p:Int)])))):=l9.up fun c hc _=>hc.elim (fun h=>h.1) fun h=>F1a _ (by have:=kS.1;omega)
    have k59:Keeps (fun c=>c=sC∨F1 c) h5 h9:=(kS.trans k9).mono fun c h=>by
     rcases h with h|h|h
     ·exact h
     ·exact .inl h
     ·exact .inr h.1
    have hcond:(S[i].all fun x=>mT t x (p:Int))=true:=hall
    have here:(if((S.getD i []).all fun x=>mT t x (p:Int))=true then putR (mT t) most k (p+1) (S.set i (S.getD i []++[(p:Int)])) else none)=r:=by rw[egd,if_pos hcond];exact e9
    cases r with
    |some r'=>
     simp(disch:=first|omega|simp only[nZ]<;>omega|fail)only[go_sem,t1,t2,t3,t4,t5,t17,t18,Option.isSome_some]
     refine fin h9 x9 (some r') k59 w9 gx9 l9 ?_
     unfold putR
     rw[some_first here hno S.length hi]
    |none=>
     rw[Option.getD_none] at l9
     have hi9:i<(eS (S.set i (S[i]++[(p:Int)]))).length:=by simp;exact hi
     obtain⟨b9,o9,kd9,cs9,v9,f1,f2,f3,f4,cv9,bx9,nbv9,Fb9,upd9⟩:=l9.at (by simp;omega) hi9
     have eSi9:(eS (S.set i (S[i]++[(p:Int)])))[i]=S[i].map encI++[encI (p:Int)]:=by simp[eS]
     rw[eSi9] at cv9
     have lv9:q_len v9=some (.int .i64 (((S[i].length+1:Nat):Int))):=by
      have:=cv9.sl (by simp;omega)
      rw[this.len];simp
     obtain⟨y,hy1,hy2,hy3⟩:=cv9.pop (by omega) (by simp;omega)
     rw[List.length_map] at hy1
     obtain⟨cs9',put9,l10⟩:=upd9 y _ h9 (Keeps.refl _ _) hy2 fun c hc=>.inl (hy3 c hc)
     rw[eS_set,List.set_set,List.set_getElem_self] at l10
     have hpc9:putC (some (.cells kd9 cs9)) h9 b9 o9 [y]=some (h9.set b9 (.cells kd9 cs9')):=by rcases f3 with rfl|rfl<;>simp only[putC_rw,putC_gr,put9,setO_some]
     have oy:=hy2.one
     have lm1:((S[i].length+1:Nat):Int)-1=(S[i].length:Int):=by omega
     have k10:Keeps (fun c=>c=sC∨F1 c) h5 (h9.set b9 (.cells kd9 cs9')):=(k59.trans (Keeps.set h9 b9 (.cells kd9 cs9'))).mono fun c h=>by
      rcases h with h|h
      ·exact h
      ·exact .inr (by rw[h];exact Fb9)
     have gx10:(h9.set b9 (.cells kd9 cs9')).get sC=some (.cells .rw [x9]):=by rw[get_set_other (fun h0=>by have:=F1n _ Fb9;omega)];exact gx9
     simp(disch:=first|omega|simp only[nZ]<;>omega|fail)only[go_sem,t1,t2,t3,t4,t5,t17,t18,Option.isSome_none,cells_of gx9,f1,cells_of f2,f4,lv9,lm1,wr_in,evQ_slc,q_slc_to,hy1,f2,hpc9,oy,cells_one oy,wr_succ]
     exact⟨_,_,x9,rfl,k10,H.wf_set w9 _ f2,gx10,l10,fun i' h1=>by
      by_cases e:i'=i
      ·subst e;exact here
      ·exact hno i' (by omega),(by simp[t1]<;>rfl),(by simp[t2]<;>rfl),(by simp[t3]<;>rfl),(by simp[t4]<;>rfl),(by simp[t5]<;>rfl),(by simp[t17]<;>rfl),(by simp<;>rfl)⟩
  ·rintro s ⟨tm,hh,x',rfl,kk,wh,gx,lx',hno,t1,t2,t3,t4,t5,t17,t18⟩
   simp(disch:=first|omega|simp only[nZ]<;>omega|fail)only[go_sem,t1,t2,t3,t4,t5,t17,t18,Int.lt_irrefl]
   have hno:=List.findSome?_eq_none_iff.2 fun i hi=>hno i (List.mem_range.1 hi)
   have lenx':=lx'.len (by rw[List.length_map];omega)
   rw[List.length_map] at lenx'
   have gM':=cell kk gM1 (.inr (.inl rfl))
   have g1':=cell kk g1 (.inr (.inr (.inr rfl)))
   by_cases hmo:S.length=most
   ·have hd1:decide ((S.length:Int)=(most:Int))=true:=decide_eq_true (by omega)
    simp(disch:=first|omega|simp only[nZ]<;>omega|fail)only[go_sem,t2,t3,t4,t5,cells_of gx,lenx',gM',hd1]
    refine fin hh x' none kk wh gx lx' ?_
    unfold putR
    rw[hno]
    simp only
    rw[if_pos hmo]
   ·have hd1:decide ((S.length:Int)=(most:Int))=false:=decide_eq_false (by omega)
    have sA:=(H.Sub.refl wh).add (.cells .rw [.int .i64 (p:Int)])
    have sB:=sA.add (.cells .rw [.sl hh.next 0 1 (.fix 1)])
    simp(disch:=first|omega|simp only[nZ]<;>omega|fail)only[go_sem,t2,t3,t4,t5,cells_of gx,lenx',gM',hd1,g1']
    have nA:(hh.add (.cells .rw [.int .i64 (p:Int)])).next=hh.next+1:=H.next_add _ _
    have gl5:=kk.1
    have bxF:∀c,blkOf x' c→F1 c:=fun c hc=>by
     obtain⟨xs,a1,_⟩:=lx'
     exact(a1.blk hc).1
    have ov:CutO F1 ((hh.add (.cells .rw [.int .i64 (p:Int)])).add (.cells .rw [.sl hh.next 0 1 (.fix 1)])) (.sl hh.next 0 1 (.fix 1)) 1 [encI (p:Int)]:=
     ⟨by simp[encI],.inr (.inr ⟨hh.next,1,[],rfl,F1a _ (by omega),by rw[H.next_add,H.next_add];omega,by rw[get_add_old (by omega),get_add_new rfl];rfl,by simp,by simp⟩)⟩
    have hy:SlAt ((hh.add (.cells .rw [.int .i64 (p:Int)])).add (.cells .rw [.sl hh.next 0 1 (.fix 1)])) (.sl (hh.next+1) 0 1 (.fix 1)) 1 [[.sl hh.next 0 1 (.fix 1)]]:=SlAt.new _ nA.symm rfl rfl (by simp) (by simp)
    refine lx'.push sB (F1a _ (by rw[H.next_add,H.next_add];omega)) (by simp;omega) ov (fun b ⟨_,_,_,e⟩=>by cases e;exact Nat.le_refl _) hy fun x2 h8 l8 k8 nb8 w8=>?_
    have gx8:=k8.2 _ _ (sB.get gx) fun h0=>absurd rfl (F1n _ (bxF _ h0)).2.2.2.1
    have gP8:=k8.cells (sB.cells (cell kk gP1 (.inr (.inr (.inl rfl))))) fun h0=>absurd rfl (F1n _ (bxF _ h0)).2.2.2.2.1
    have g18:=k8.cells (sB.cells g1') fun h0=>absurd rfl (F1n _ (bxF _ h0)).2.2.2.2.2
    have ex2:x2.one=true:=l8.one
    have el8:eS S++[[encI (p:Int)]]=eS (S++[[(p:Int)]]):=by simp[eS]
    rw[el8] at l8
    have kS:Keeps (fun c=>c=sC∨F1 c) h5 (h8.set sC (.cells .rw [x2])):=(((kk.trans (Keeps.of sB fun _=>False)).trans k8).trans (Keeps.set h8 sC (.cells .rw [x2]))).mono fun c h=>by
     rcases h with((h|h)|h)|h
     ·exact h
     ·exact h.elim
     ·exact .inr (bxF c h)
     ·exact .inl h
    have wS:=H.wf_set w8 (.cells .rw [x2]) gx8
    have lS:LsCut F1 (h8.set sC (.cells .rw [x2])) x2 (eS (S++[[(p:Int)]])):=l8.keep (Keeps.set h8 sC (.cells .rw [x2])) fun b hb _=>(F1n _ hb).2.2.2.1
    have gxS:(h8.set sC (.cells .rw [x2])).get sC=some (.cells .rw [x2]):=get_set_same rfl
    have gPS:=cell kS gP1 (.inr (.inr (.inl rfl)))
    have g1S':=cell kS g1 (.inr (.inr (.inr rfl)))
    have w1:wr .i64 ((p:Int)+1)=((p+1:Nat):Int):=wr_succ (by omega)
    simp(disch:=first|omega|simp only[nZ]<;>omega|fail)only[go_sem,t2,t3,t4,t5,gx8,ex2,cells_one ex2]
    generalize h8.set sC (.cells .rw [x2])=hS at kS wS lS gxS gPS g1S'⊢
    simp(disch:=first|omega|simp only[nZ]<;>omega|fail)only[go_sem,t2,t3,t4,t5,gP8,g18,gPS,g1S',w1]
    have hmS:∀l∈S++[[(p:Int)]],l.length≤p+1∧∀a∈l,0≤a∧a<((p+1:Nat):Int):=fun l hl0=>by
     rcases List.mem_append.1 hl0 with h1|h1
     ·have:=hm l h1
      exact⟨by omega,fun a ha=>by have:=this.2 a ha;omega⟩
     ·rw[List.mem_singleton] at h1
      subst h1
      exact⟨by simp,fun a ha=>by rw[List.mem_singleton] at ha;omega⟩
    refine ih (p+1) (S++[[(p:Int)]]) (fun c=>F1 c∧c<hS.next) hS x2 (by omega) (by simp;omega) hmS (sub0 kS wS) (fun c hc=>by have:=F1n c hc.1;exact⟨this.1,this.2.1,this.2.2.1,this.2.2.2.1,this.2.2.2.2.1,hc.2⟩) (cell kS gD1 (.inl rfl)) (cell kS gM1 (.inr (.inl rfl))) gPS gxS (lS.up fun c hc h1=>⟨hc,h1⟩) _ fun h9 x9 r k9 w9 gx9 l9 e9=>?_
    have l9:LsCut F1 h9 x9 (eS (r.getD (S++[[(p:Int)]]))):=l9.up fun c hc _=>hc.elim (fun h=>h.1) fun h=>F1a _ (by have:=kS.1;omega)
    have k59:Keeps (fun c=>c=sC∨F1 c) h5 h9:=(kS.trans k9).mono fun c h=>by
     rcases h with h|h|h
     ·exact h
     ·exact .inl h
     ·exact .inr h.1
    have epR:putR (mT t) most (k+1) p S=r:=by
     unfold putR
     rw[hno]
     simp only
     rw[if_neg hmo];exact e9
    cases r with
    |some r'=>
     simp(disch:=first|omega|simp only[nZ]<;>omega|fail)only[go_sem,t2,t3,t4,t5,Option.isSome_some]
     exact fin h9 x9 (some r') k59 w9 gx9 l9 epR
    |none=>
     rw[Option.getD_none,←el8] at l9
     obtain⟨y,hy1,hy2,hy3⟩:=l9.pop (by simp;omega)
     rw[List.length_map] at hy1
     have oy:=hy2.one
     have ln9:q_len x9=some (.int .i64 ((S.length+1:Nat):Int)):=by rw[l9.len (by simp;omega)];simp
     have lm1:((S.length+1:Nat):Int)-1=(S.length:Int):=by omega
     have k10:Keeps (fun c=>c=sC∨F1 c) h5 (h9.set sC (.cells .rw [y])):=(k59.trans (Keeps.set h9 sC (.cells .rw [y]))).mono fun c h=>by
      rcases h with h|h
      ·exact h
      ·exact .inl h
     have l10:LsCut F1 (h9.set sC (.cells .rw [y])) y (eS S):=hy2.keep (Keeps.set h9 sC (.cells .rw [y])) fun b hb _=>(F1n _ hb).2.2.2.1
     simp(disch:=first|omega|simp only[nZ]<;>omega|fail)only[go_sem,t2,t3,t4,t5,Option.isSome_none,cells_of gx9,ln9,lm1,wr_in,evQ_slc,q_slc_to,hy1,gx9,oy,cells_one oy]
     exact fin _ y none k10 (H.wf_set w9 _ gx9) (get_set_same rfl) l10 epR
theorem sorting_ev {h:H}(hw:h.wf){d:Nat}{t:Tb}(hd:DkAt h d t)(g:Good t){m:Nat}(hm:m≤20)(Q:V→H→Prop)
  (q:∀x h',h.Sub h'→LsCut (fun b=>h.next≤b) h' x (eS ((putR (mT t) m t.pieces.length 0 []).getD []))→Q (.tup [x,.bool (putR (mT t) m t.pieces.length 0 []).isSome]) h'):Ev fnG fastA (.fn 18 [] []) [.ptr d 0,.int .i64 (m:Int)] h Q:=by
 have sA:h.Sub ((((h.add (.cells .rw [.ptr d 0])).add (.cells .rw [.int .i64 (m:Int)])).add (.cells .rw [.nils])).add (.cells .rw [.fn 37 [] [.ptr h.next 0,.ptr (h.next+1+1) 0,.ptr (h.next+1+1+1) 0,.ptr (h.next+1) 0]])):=((((H.Sub.refl hw).add _).add _).add _).add _
 have c1:((((h.add (.cells .rw [.ptr d 0])).add (.cells .rw [.int .i64 (m:Int)])).add (.cells .rw [.nils])).add (.cells .rw [.fn 37 [] [.ptr h.next 0,.ptr (h.next+1+1) 0,.ptr (h.next+1+1+1) 0,.ptr (h.next+1) 0]])).cells h.next=some [.ptr d 0]:=by simp(disch:=first|omega|simp only[nZ]<;>omega|fail)only[go_sem]
 have c2:((((h.add (.cells .rw [.ptr d 0])).add (.cells .rw [.int .i64 (m:Int)])).add (.cells .rw [.nils])).add (.cells .rw [.fn 37 [] [.ptr h.next 0,.ptr (h.next+1+1) 0,.ptr (h.next+1+1+1) 0,.ptr (h.next+1) 0]])).cells (h.next+1)=some [.int .i64 (m:Int)]:=by simp(disch:=first|omega|simp only[nZ]<;>omega|fail)only[go_sem]
 have c3:((((h.add (.cells .rw [.ptr d 0])).add (.cells .rw [.int .i64 (m:Int)])).add (.cells .rw [.nils])).add (.cells .rw [.fn 37 [] [.ptr h.next 0,.ptr (h.next+1+1) 0,.ptr (h.next+1+1+1) 0,.ptr (h.next+1) 0]])).get (h.next+1+1)=some (.cells .rw [.nils]):=by simp(disch:=first|omega|simp only[nZ]<;>omega|fail)only[go_sem]
 have c4:((((h.add (.cells .rw [.ptr d 0])).add (.cells .rw [.int .i64 (m:Int)])).add (.cells .rw [.nils])).add (.cells .rw [.fn 37 [] [.ptr h.next 0,.ptr (h.next+1+1) 0,.ptr (h.next+1+1+1) 0,.ptr (h.next+1) 0]])).cells (h.next+1+1+1)=some [.fn 37 [] [.ptr h.next 0,.ptr (h.next+1+1) 0,.ptr (h.next+1+1+1) 0,.ptr (h.next+1) 0]]:=by simp(disch:=first|omega|simp only[nZ]<;>omega|fail)only[go_sem]
 refine Ev_body (fd:=c18) rfl rfl rfl ?_
 simp(disch:=first|omega|simp only[nZ]<;>omega|fail)only[c18,go_sem]
 generalize((((h.add (.cells .rw [.ptr d 0])).add (.cells .rw [.int .i64 (m:Int)])).add (.cells .rw [.nils])).add (.cells .rw [.fn 37 [] [.ptr h.next 0,.ptr (h.next+1+1) 0,.ptr (h.next+1+1+1) 0,.ptr (h.next+1) 0]]))=h4 at sA c1 c2 c3 c4⊢
 refine sortput_ev hw hd g (dC:=h.next) (mC:=h.next+1) (sC:=h.next+1+1) (pC:=h.next+1+1+1) (most:=m) (by omega) (by omega) (by omega) (by omega) hm t.pieces.length 0 [] (fun _=>False) h4 .nils (by omega) (by simp) (by simp) sA (fun c hc=>hc.elim) c1 c2 c4 c3 (LsCut.nil _ _) _ fun h' x' r k' w' g' l' e=>?_
 subst e
 simp(disch:=first|omega|simp only[nZ]<;>omega|fail)only[go_sem,cells_of g']
 have l4:=sA.next
 exact q x' h' (k'.sub sA hw (fun c hc=>by rcases hc with h0|h0;omega;exact h0.elim) w') (l'.up fun b hb _=>hb.elim (fun h=>h.elim) fun h=>by omega)
set_option maxHeartbeats 1000000 in
theorem Sort_ev {h:H}{v:V}{t:Tb}(hw:h.wf)(ht:TbIs h v t)(Q:V→H→Prop)
  (q:∀y h',h.Sub h'→LsCut (fun b=>h.next≤b) h' y (eS (if check t=0 then(sortR (mT t) t.pieces.length).getD [] else[]))→Q (.tup [y,.int .i64 (check t)]) h'):Ev fnG fastA (.fn 6 [] []) [v] h Q:=by
 have ht0:=ht
 obtain⟨E,L,P,rfl,aE,aL,aP⟩:=ht
 refine Ev_body (fd:=c6) rfl rfl rfl ?_
 have s1:h.Sub (h.add (.cells .rw [E,L,P])):=(by repeat(first|assumption|exact H.Sub.refl (by assumption)|refine H.Sub.add ?_ _|refine H.Sub.set ?_ (by first|omega|(simp only[H.next_add,H.next_set,H.next_del]<;>omega)) (by first|omega|(simp only[H.next_add,H.next_set,H.next_del]<;>omega)) (by assumption) _))
 have g1:(h.add (.cells .rw [E,L,P])).cells h.next=some [E,L,P]:=cells_add_new rfl
 have n1:(h.add (.cells .rw [E,L,P])).next=h.next+1:=H.next_add _ _
 simp(disch:=first|omega|simp only[nZ]<;>omega|fail)only[c6,go_sem]
 refine opened_use s1.wf (ht0.mono s1) _ (fun h5 s45 c=>?_) fun h5 d s15 c g hd=>?_
 ·simp(disch:=first|omega|simp only[nZ]<;>omega|fail)only[go_sem,ne_eq,c,not_false_eq_true]
  exact q _ _ (s1.trans s45) (by rw[if_neg c];exact LsCut.nil _ _)
 have s5:=s1.trans s15
 have gp:=g.pieces
 have hlP:=aP.lenE
 rw[c,if_pos rfl] at q
 simp(disch:=first|omega|simp only[nZ]<;>omega|fail)only[go_sem,ne_eq,not_true_eq_false,s15.cells g1,hlP,wr_succ]
 refine W.mono (Q:=fun x1 s=>x1=.ext 0∧∃tm h' y,s=⟨tm,h',[]⟩∧h5.Sub h'∧LsCut (fun b=>h.next≤b) h' y (eS ((sortR (mT t) t.pieces.length).getD []))∧(Opd.t 6).ev tm=y)
  (W_count (t.pieces.length+1) (fun k s=>∃tm h',s=⟨tm,h',[]⟩∧h5.Sub h'∧(∀m,m<k→putR (mT t) m t.pieces.length 0 []=none)∧
   (Opd.t 4).ev tm=.ptr d 0∧(Opd.t 6).ev tm=.nils∧(Opd.t 21).ev tm=.int .i64 ((t.pieces.length+1:Nat):Int)∧(Opd.t 22).ev tm=.int .i64 (k:Int))
  ?_ ?_ (i:=0) (Nat.zero_le _) ⟨_,_,rfl,H.Sub.refl s15.wf,fun m hm=>by omega,(by simp<;>rfl),(by simp<;>rfl),(by simp<;>rfl),(by simp<;>rfl)⟩) fun x1 s hx1=>?_
 ·rintro k s hk ⟨tm,h',rfl,hs,hno,t4,t6,t21,t22⟩
  have hk':(k:Int)<((t.pieces.length+1:Nat):Int):=by omega
  simp(disch:=first|omega|simp only[nZ]<;>omega|fail)only[go_sem,t4,t6,t21,t22,hk']
  refine sorting_ev hs.wf (hd.mono hs) g (by omega) _ fun x h6 s6 lx=>?_
  have lb:=hs.next
  have lb2:=s15.next
  cases hr:putR (mT t) k t.pieces.length 0 [] with
  |some r=>
   rw[hr] at lx
   simp(disch:=first|omega|simp only[nZ]<;>omega|fail)only[go_sem,t4,t6,t21,t22,Option.isSome_some]
   refine⟨_,_,x,rfl,hs.trans s6,?_,(by simp<;>rfl)⟩
   have e:sortR (mT t) t.pieces.length=some r:=some_first hr hno _ hk
   rw[e]
   exact lx.up fun b hb _=>by omega
  |none=>
   simp(disch:=first|omega|simp only[nZ]<;>omega|fail)only[go_sem,t4,t6,t21,t22,Option.isSome_none,wr_succ]
   exact⟨_,_,rfl,hs.trans s6,fun m hm=>by
    by_cases e:m=k
    ·subst e;exact hr
    ·exact hno m (by omega),(by simp[t4]<;>rfl),(by simp[t6]<;>rfl),(by simp[t21]<;>rfl),(by simp<;>rfl)⟩
 ·rintro s ⟨tm,h',rfl,hs,hno,t4,t6,t21,t22⟩
  simp(disch:=first|omega|simp only[nZ]<;>omega|fail)only[go_sem,t4,t6,t21,t22,Int.lt_irrefl]
  refine⟨_,_,_,rfl,hs,?_,(by simp[t6]<;>rfl)⟩
  have e:sortR (mT t) t.pieces.length=none:=none_all hno
  rw[e]
  exact LsCut.nil _ _
 obtain⟨rfl,tm,h',y,rfl,hs,ly,t6⟩:=hx1
 simp(disch:=first|omega|simp only[nZ]<;>omega|fail)only[go_sem,t6]
 exact q y _ (s5.trans hs) ly
end Go.Ab.Try
namespace Go.Ab.Try
open Go.Ab.Silk (comb Inc lexlt mem_comb find_min)
end Go.Ab.Try
namespace Go.Ab.Try
open Go.Ab.Silk (comb Inc lexlt mem_comb find_min firstOf firstOf_spec IsMin before)
theorem Inc.pw {hi:Int}:∀{i:Int} {l:List Int},Inc hi i l→l.Pairwise (· < ·)
 |_,[],_=>List.Pairwise.nil
 |i,a::l,h=>List.Pairwise.cons (fun x hx=>by have:=h.2.2.mem x hx;omega) (Inc.pw h.2.2)
theorem Inc.nd {hi i:Int}{l:List Int}(h:Inc hi i l):l.Nodup:=(Inc.pw h).imp fun h=>by omega
theorem Inc.of {hi:Int}:∀{i:Int} {l:List Int},l.Pairwise (· < ·)→(∀x∈l,i≤x∧x<hi)→Inc hi i l
 |_,[],_,_=>trivial
 |i,a::l,h,hr=>by
  rw[List.pairwise_cons] at h
  have ha:=hr a (by simp)
  exact⟨ha.1,ha.2,Inc.of h.2 fun x hx=>by have:=h.1 x hx;have:=hr x (by simp[hx]);omega⟩
theorem inc_of {n:Nat}{d:List Int}(nd:d.Nodup)(hr:∀x∈d,0≤x∧x<(n:Int)):∃c:List Int,Inc n 0 c∧c.length=d.length∧∀x,x∈c↔x∈d:=by
 have hm:∀x,x∈(upto n).filter (fun x=>decide (x∈d))↔x∈d:=fun x=>by
  rw[List.mem_filter,mem_upto,decide_eq_true_eq]
  exact⟨fun h=>h.2,fun h=>⟨hr x h,h⟩⟩
 have pw:((upto n).filter (fun x=>decide (x∈d))).Pairwise (· < ·):=by
  refine List.Pairwise.filter _ ?_
  unfold upto
  rw[List.pairwise_map]
  exact List.pairwise_lt_range.imp fun h=>by omega
 have inc:=Inc.of (i:=0) pw fun x hx=>hr x ((hm x).1 hx)
 exact⟨_,inc,((List.perm_ext_iff_of_nodup (Inc.nd inc) nd).2 hm).length_eq,hm⟩
theorem nodup_len {n:Nat}{d:List Int}(nd:d.Nodup)(hr:∀x∈d,0≤x∧x<(n:Int)):d.length≤n:=by
 obtain⟨c,inc,l,_⟩:=inc_of nd hr
 have:=inc.len (by omega)
 omega
theorem mT_comm {t:Tb}(g:Good t)(x y:Int):mT t x y=mT t y x:=MM_comm g y.toNat x.toNat
end Go.Ab.Try
namespace Go.Ab.Try
open Go.Ab.Silk (Inc bitsL bitsL_inc bitsL_onto)
theorem upto_succ (n:Nat):upto (n+1)=upto n++[(n:Int)]:=by unfold upto;rw[List.range_succ,List.map_append];rfl
end Go.Ab.Try
namespace Go.Ab
theorem CutO.to {F:Nat→Prop}{h:H}{x:V}{sz k:Nat}{rows:List (List V)}(a:CutO F h x sz rows)(hsz:0<sz)(hl:rows.length≤1000000)(hk:k≤rows.length):
  ∃y,slcTo h sz x (.int .i64 (k:Int))=some y∧CutO F h y sz (rows.take k)∧∀b,blkOf y b→blkOf x b:=by
 have hi:∀tm,(Opd.c (.int .i64 (k:Int))).ev tm=.int .i64 (k:Int):=fun _=>rfl
 obtain⟨a1,a2⟩:=a
 have hr:∀r∈rows.take k,r.length=sz:=fun r' hr=>a1 r' (List.mem_of_mem_take hr)
 have hlt:(rows.take k).length=k:=by rw[List.length_take];omega
 have fl:=flatten_len a1
 have fl2:=flatten_len hr
 rw[hlt] at fl2
 have esp:rows.flatten=(rows.take k).flatten++(rows.drop k).flatten:=by rw[←List.flatten_append,List.take_append_drop]
 have hml:=Nat.mul_le_mul_right sz hk
 have fld:(rows.drop k).flatten.length=rows.length*sz-k*sz:=by
  have:=congrArg List.length esp
  rw[List.length_append,fl,fl2] at this;omega
 rcases a2 with⟨rfl,rfl⟩|⟨b,rest,j,rfl,l1,l2,hb,hrest⟩|⟨b,c,rest,rfl,l1,l2,hb,hc,hlc⟩
 ·have hk0:k=0:=by simpa using hk
  subst hk0
  refine⟨.nils,?_,⟨by simp,.inl ⟨rfl,rfl⟩⟩,fun b h=>h⟩
  have e1:Nat.ble 0 0=true:=rfl
  simp only[slcTo,q_slc,bnd3,natO,hi,natk_cst,bnds,e1,og_true]
 ·rw[esp,List.append_assoc] at hb
  have e1:Nat.ble 0 k=true:=by simp
  have hall:((rows.take k).flatten++((rows.drop k).flatten++rest)).length=(rows.length+j)*sz:=by rw[List.length_append,List.length_append,fl2,fld,hrest,Nat.add_mul];omega
  have e2:Nat.ble k (rows.length+j)=true:=by simp;omega
  have e3:Nat.ble (rows.length+j) (rows.length+j)=true:=by simp
  have e5:Nat.beq sz sz=true:=by simp
  have e6:Nat.beq 0 (0*sz)=true:=by simp
  have e7:Nat.ble (0+rows.length*sz) ((rows.take k).flatten++((rows.drop k).flatten++rest)).length=true:=by rw[hall,Nat.ble_eq,Nat.zero_add];exact Nat.mul_le_mul_right _ (by omega)
  have e8:slkRoom h b 0 sz=rows.length+j:=by simp only[slkRoom,hb,lenN_eq,hall,Nat.sub_zero];exact Nat.mul_div_cancel _ hsz
  have hcut:CutO F h (.sl b 0 k (.slk 0 0)) sz (rows.take k):=by
   refine⟨hr,.inr (.inl ⟨b,(rows.drop k).flatten++rest,rows.length-k+j,by rw[hlt],l1,l2,hb,?_⟩)⟩
   rw[List.length_append,fld,hrest,Nat.add_mul,Nat.sub_mul]
  by_cases h0:0<rows.length+k
  ·have e4:Nat.blt 0 (rows.length+k)=true:=by rw[Nat.blt_eq];omega
   refine⟨.sl b (0+0*sz) k (.slk (0+0) 0),?_,by rw[Nat.zero_mul];exact hcut,?_⟩
   ·simp only[slcTo,q_slc,slkOk,hb,e5,e6,lenN_eq,e7,og_true,bnd3,natO,hi,natk_cst,bnds,e1,e2,e3,subS,e4,e8,Nat.sub_zero]
   ·rintro b' ⟨_,_,_,e⟩;cases e;exact⟨_,_,_,rfl⟩
  ·have k0:k=0:=by omega
   have r0:rows.length=0:=by omega
   have e4:Nat.blt 0 (rows.length+k)=false:=by rw[k0,r0];rfl
   refine⟨.sl b 0 0 (.slk 0 0),?_,by rw[k0] at hcut⊢;exact hcut,?_⟩
   ·simp only[slcTo,q_slc,slkOk,hb,e5,e6,lenN_eq,e7,og_true,bnd3,natO,hi,natk_cst,bnds,e1,e2,e3,subS,e4,e8,Nat.sub_zero]
   ·rintro b' ⟨_,_,_,e⟩;cases e;exact⟨_,_,_,rfl⟩
 ·rw[esp,List.append_assoc] at hb
  refine⟨.sl b (bsel (Nat.beq c 0) 0 (0+0*sz)) k (.fix c),?_,?_,?_⟩
  ·simp only[slcTo,q_slc]
   rw[subO_to (hi _) hk hlc]
  ·have:bsel (Nat.beq c 0) 0 (0+0*sz)=0:=by cases Nat.beq c 0<;>simp[bsel]
   rw[this]
   exact⟨hr,.inr (.inr ⟨b,c,(rows.drop k).flatten++rest,by rw[hlt],l1,l2,hb,by rw[List.length_append,fld,hlt];omega,by omega⟩)⟩
  ·rintro b' ⟨_,_,_,e⟩;cases e;exact⟨_,_,_,rfl⟩
end Go.Ab
namespace Go.Ab.Try
open Go.Ab.Silk (Inc)
end Go.Ab.Try
namespace Go.Ab.Try
open Go.Ab.Silk (Inc lexlt)
theorem isNaN_eq (a:Int)(h:H)(R:V→H→Prop):Ev fnG fastA (.fn 75 [] []) [.int .i64 a] h R=R (.bool false) h:=by
 refine Ev.det (Ev_body (fd:=c75) rfl rfl rfl ?_) R
 simp(disch:=first|omega|simp only[nZ]<;>omega|fail)only[c75,go_sem,ne_eq,not_true_eq_false,not_false_eq_true]
theorem less_eq (a b:Int)(h:H)(Q:V→H→Prop):Ev fnG fastA (.fn 59 [] []) [.int .i64 a,.int .i64 b] h Q=Q (.bool (decide (a<b))) h:=by
 refine Ev.det (Ev_body (fd:=c59) rfl rfl rfl ?_) Q
 simp(disch:=first|omega|simp only[nZ]<;>omega|fail)only[c59,go_sem,isNaN_eq]
theorem adj_pw {R:Int→Int→Prop}(tr:∀a b c,R a b→R b c→R a c):∀{l:List Int},(∀i (h:i+1<l.length),R l[i] l[i+1])→l.Pairwise R
 |[],_=>List.Pairwise.nil
 |[a],_=>by simp
 |a::b::l,h=>by
  have ih:=adj_pw tr (l:=b::l) fun i hi=>h (i+1) (by simpa using hi)
  rw[List.pairwise_cons] at ih⊢
  have hab:R a b:=h 0 (by simp)
  exact⟨fun x hx=>by
   rcases List.mem_cons.1 hx with rfl|hx
   ·exact hab
   ·exact tr _ _ _ hab (ih.1 x hx),List.pairwise_cons.2 ih⟩
theorem isSorted_ev {h:H}{x:V}{l:List Int}(hx:SlAt h x 1 (l.map encI))(Q:V→H→Prop):Ev fnG fastA (.fn 39 [] []) [x] h Q=Q (.bool (decide (l.Pairwise (· ≤ ·)))) h:=by
 have hlx:=hx.lenE
 have hbd:=hx.boundE
 refine Ev.det (Ev_body (fd:=c39) rfl rfl rfl ?_) Q
 have ew0:wr .i64 ((l.length:Int)-1)=(l.length:Int)-1:=wr_in (by omega) (by omega)
 simp(disch:=first|omega|simp only[nZ]<;>omega|fail)only[c39,go_sem,hlx]
 refine W_loop (fun k s=>∃(tm:Go.Ab.T V) (i:Int),s=⟨tm,h,[]⟩∧k=(i+1).toNat∧ -1≤i∧i<l.length∧(i= -1→l.length=0)∧(∀j (hj:j+1<l.length),i<((j+1:Nat):Int)→l[j]≤l[j+1])∧(Opd.t 0).ev tm=x∧(Opd.t 3).ev tm=.int .i64 i) ?_ l.length _ ⟨_,(l.length:Int)-1,rfl,by omega,by omega,by omega,by omega,fun j hj h0=>by omega,(by simp),(by simp[ew0])⟩
 rintro k s ⟨tm,i,rfl,hk,i0,i1,i2,hord,t0,t3⟩
 by_cases hi:0<i
 ·obtain⟨n,rfl⟩:∃n:Nat,i=((n+1:Nat):Int):=⟨(i-1).toNat,by omega⟩
  have hn1:n+1<l.length:=by omega
  have hn0:n<l.length:=by omega
  obtain⟨b1,o1,c1,cs1,rfl,hc1,hq1,hg1,hn1',hn01⟩:=hx.at hn1
  obtain⟨b2,o2,c2,cs2,e2,hc2,hq2,hg2,hn2',hn02⟩:=hx.at hn0
  have ew:wr .i64 (((n+1:Nat):Int)-1)=(n:Int):=by rw[wr_in (by omega) (by omega)];omega
  by_cases hlt:l[n+1]<l[n]
  ·have hf:decide (l.Pairwise (· ≤ ·))=false:=decide_eq_false fun hp=>by
    have:=List.pairwise_iff_getElem.1 hp n (n+1) hn0 hn1 (by omega);omega
   have dl:decide (l[n+1]<l[n])=true:=decide_eq_true hlt
   simp(disch:=first|omega|simp only[nZ]<;>omega|fail)only[go_sem,t0,t3,hi,hq1 (nat_cst (n+1)),hc1,hn01 (by omega),ew,hq2 (nat_cst n),hc2,hn02 (by omega),encI,less_eq,dl,hf]
  ·have dl:decide (l[n+1]<l[n])=false:=decide_eq_false hlt
   simp(disch:=first|omega|simp only[nZ]<;>omega|fail)only[go_sem,t0,t3,hi,hq1 (nat_cst (n+1)),hc1,hn01 (by omega),ew,hq2 (nat_cst n),hc2,hn02 (by omega),encI,less_eq,dl]
   exact⟨n+1,by omega,_,(n:Int),rfl,by omega,by omega,by omega,by omega,fun j hj h0=>by
    by_cases e:j=n
    ·subst e;omega
    ·exact hord j hj (by omega),(by simp[t0]),(by simp[ew])⟩
 ·have ht:decide (l.Pairwise (· ≤ ·))=true:=decide_eq_true (adj_pw (R:=fun a b=>a≤b) (fun a b c h1 h2=>Int.le_trans h1 h2) fun j hj=>hord j hj (by omega))
  simp(disch:=first|omega|simp only[nZ]<;>omega|fail)only[go_sem,t0,t3,hi,ht]
end Go.Ab.Try
namespace Go.Ab
theorem nth_iv {L:List Int}{i:Nat}(h:i<L.length):nth i (L.map iv)=some (.int .i64 L[i]):=by
 rw[nth_eq,List.getElem?_map,List.getElem?_eq_getElem h];rfl
theorem put_iv {L:List Int}{i:Nat}(h:i<L.length)(v:Int):putN i [.int .i64 v] (L.map iv)=some ((L.set i v).map iv):=by
 have e:L=L.take i++L[i]::L.drop (i+1):=by rw[←List.drop_eq_getElem_cons h,List.take_append_drop]
 have:=putN_app (pre:=(L.take i).map iv) (new:=[iv v]) (old:=[iv L[i]]) (rest:=(L.drop (i+1)).map iv) rfl
 rw[List.length_map,List.length_take,Nat.min_eq_left (by omega)] at this
 have e2:L.map iv=(L.take i).map iv++[iv L[i]]++(L.drop (i+1)).map iv:=by
  rw[show[iv L[i]]=[L[i]].map iv from rfl,←List.map_append,←List.map_append,List.append_assoc]
  exact congrArg (List.map iv) e
 have e3:(L.set i v).map iv=(L.take i).map iv++[iv v]++(L.drop (i+1)).map iv:=by
  rw[List.set_eq_take_append_cons_drop,if_pos h];simp
 rw[e2,e3];exact this
theorem slcFrom_gr {h:H}{b k:Nat}{L:List Int}(hb:h.get b=some (.cells (.gr 1) (L.map iv)))(h0:0<L.length)(hk:k≤L.length):slcFrom h 1 (.sl b 0 L.length (.slk 0 0)) (.int .i64 (k:Int))=some (.sl b k (L.length-k) (.slk k 0)):=by
 have hi:∀tm:T V,(Opd.c (.int .i64 (k:Int))).ev tm=.int .i64 (k:Int):=fun _=>rfl
 have e1:Nat.ble k L.length=true:=by simp;exact hk
 have e2:Nat.ble L.length L.length=true:=by simp
 have e4:Nat.blt 0 (L.length+L.length)=true:=by rw[Nat.blt_eq];omega
 have e5:Nat.beq 1 1=true:=rfl
 have e6:Nat.beq 0 (0*1)=true:=rfl
 have e7:Nat.ble L.length (L.map iv).length=true:=by simp
 have e8:slkRoom h b 0 1=L.length:=by simp[slkRoom,hb,lenN_eq]
 simp only[slcFrom,q_slc,slkOk,hb,lenN_eq,e5,e6,e7,og_true,e8,bnd3,natO,hi,natk_cst,bnds,e1,e2,subS,e4,Nat.mul_one,Nat.zero_add]
namespace Try
open Go.Ab.Silk (Inc lexlt)
def Adj (l:List Int):Prop:=∀i (h:i+1<l.length),l[i]≠l[i+1]
set_option maxHeartbeats 2000000 in
theorem compact_ev {h:H}{b:Nat}{l:List Int}(hw:h.wf)(hb:h.get b=some (.cells (.gr 1) (l.map iv)))(h2:2≤l.length)(hl:l.length≤1000)(Q:V→H→Prop)
  (q:∀y h' (m:Nat),q_len y=some (.int .i64 (m:Int))→(Adj l→m=l.length)→(¬Adj l→m<l.length)→Keeps (fun c=>c=b) h h'→h'.wf→Q y h'):Ev fnG fastA (.fn 40 [] []) [.sl b 0 l.length (.slk 0 0)] h Q:=by
 refine Ev_body (fd:=c40) rfl rfl rfl ?_
 have hn2:¬(l.length:Int)<2:=by omega
 have hiad:∀k:Nat,k<l.length→q_iad 1 (.sl b 0 l.length (.slk 0 0)) (.int .i64 (k:Int))=some (.ptr b k):=fun k hk=>by
  rw[q_iad_sl (nat_cst k) hk,Nat.mul_one,Nat.zero_add]
 simp(disch:=first|omega|simp only[nZ]<;>omega|fail)only[c40,go_sem,hn2]
 refine W_loop (fun kk s=>∃tm i,s=⟨tm,h,[]⟩∧kk=l.length-i∧1≤i∧i≤l.length∧(∀j (hj:j+1<l.length),j+1<i→l[j]≠l[j+1])∧(Opd.t 0).ev tm=.sl b 0 l.length (.slk 0 0)∧(Opd.t 3).ev tm=.int .i64 (i:Int)) ?_ (l.length-1) _ ⟨_,1,rfl,rfl,Nat.le_refl _,by omega,fun j hj h0=>by omega,(by simp),(by simp)⟩
 rintro kk s ⟨tm,i,rfl,hkk,i1,i2,hadj,t0,t3⟩
 by_cases hi:i<l.length
 ·have hi':(i:Int)<(l.length:Int):=by omega
  have e1:(i:Int)-1=((i-1:Nat):Int):=by omega
  have n1:=nth_iv hi
  have n2:=nth_iv (L:=l) (i:=i-1) (by omega)
  by_cases heq:l[i]=l[i-1]
  ·have hna:¬Adj l:=fun ha=>by
    have:=ha (i-1) (by omega)
    simp only[show i-1+1=i by omega] at this
    exact this heq.symm
   have deq:decide (l[i]=l[i-1])=true:=decide_eq_true heq
   have hfrom:=slcFrom_gr hb (by omega) (k:=i) (by omega)
   have lb:=hw _ _ hb
   simp(disch:=first|omega|simp only[nZ]<;>omega|fail)only[go_sem,t0,t3,hi',wr_in,e1,hiad i hi,hiad (i-1) (by omega),cells_of hb,n1,n2,deq,q_slc_from,hfrom]
   refine W.mono (Q:=fun x1 s=>x1=.ext 2∧∃(tm:Go.Ab.T V) (hh:H) (L:List Int) (m:Nat),s=⟨tm,hh,[]⟩∧Keeps (fun c=>c=b) h hh∧hh.wf∧hh.get b=some (.cells (.gr 1) (L.map iv))∧L.length=l.length∧m<l.length∧(Opd.t 0).ev tm=.sl b 0 l.length (.slk 0 0)∧(Opd.t 3).ev tm=.int .i64 (m:Int))
    (W_loop (fun kk s=>∃(tm:Go.Ab.T V) (hh:H) (L:List Int) (m k2:Nat),s=⟨tm,hh,[]⟩∧kk=l.length-i-k2∧1≤k2∧i+k2≤l.length∧m+1≤i+k2∧Keeps (fun c=>c=b) h hh∧hh.wf∧hh.get b=some (.cells (.gr 1) (L.map iv))∧L.length=l.length∧
     (Opd.t 0).ev tm=.sl b 0 l.length (.slk 0 0)∧(Opd.t 3).ev tm=.int .i64 (m:Int)∧(Opd.t 4).ev tm=.sl b i (l.length-i) (.slk i 0)∧(Opd.t 5).ev tm=.int .i64 (k2:Int)) ?_ (l.length-i-1) _
     ⟨_,_,l,i,1,rfl,rfl,Nat.le_refl _,by omega,by omega,Keeps.refl _ _,hw,hb,rfl,(by simp[t0]),(by simp[t3]),(by simp),(by simp)⟩) fun x1 s hx1=>?_
   ·rintro kk s ⟨tm,hh,L,m,k2,rfl,hkk,k1,k3,k4,kp,wh,gL,hL,t0,t3,t4,t5⟩
    by_cases hk:k2<l.length-i
    ·have hk':(k2:Int)<((l.length-i:Nat):Int):=by omega
     have e2:(k2:Int)-1=((k2-1:Nat):Int):=by omega
     have a1:q_iad 1 (.sl b i (l.length-i) (.slk i 0)) (.int .i64 (k2:Int))=some (.ptr b (i+k2)):=by rw[q_iad_sl (nat_cst k2) hk,Nat.mul_one]
     have a2:q_iad 1 (.sl b i (l.length-i) (.slk i 0)) (.int .i64 ((k2-1:Nat):Int))=some (.ptr b (i+(k2-1))):=by rw[q_iad_sl (nat_cst (k2-1)) (by omega),Nat.mul_one]
     have a3:=hiad m (by omega)
     have v1:=nth_iv (L:=L) (i:=i+k2) (by omega)
     have v2:=nth_iv (L:=L) (i:=i+(k2-1)) (by omega)
     cases hd:decide (L[i+k2]'(by omega)≠L[i+(k2-1)]'(by omega)) with
     |false=>
      simp(disch:=first|omega|simp only[nZ]<;>omega|fail)only[go_sem,t0,t3,t4,t5,hk',wr_in,e2,a1,a2,cells_of gL,v1,v2,hd,wr_succ]
      exact⟨_,by omega,_,_,L,m,k2+1,rfl,rfl,by omega,by omega,by omega,kp,wh,gL,hL,(by simp[t0]),(by simp[t3]),(by simp[t4]),(by simp)⟩
     |true=>
      have hp:=put_iv (L:=L) (i:=m) (by omega) (L[i+k2]'(by omega))
      simp(disch:=first|omega|simp only[nZ]<;>omega|fail)only[go_sem,t0,t3,t4,t5,hk',wr_in,e2,a1,a2,a3,cells_of gL,gL,v1,v2,hd,hp,wr_succ]
      exact⟨_,by omega,_,_,_,m+1,k2+1,rfl,rfl,by omega,by omega,by omega,(kp.trans (Keeps.set hh b _)).mono fun c h=>h.elim id id,H.wf_set wh _ gL,get_set_same rfl,by rw[List.length_set];exact hL,(by simp[t0]),(by simp),(by simp[t4]),(by simp)⟩
    ·have hk':¬(k2:Int)<((l.length-i:Nat):Int):=by omega
     simp(disch:=first|omega|simp only[nZ]<;>omega|fail)only[go_sem,t0,t3,t4,t5,hk']
     exact⟨_,_,L,m,rfl,kp,wh,gL,hL,by omega,(by simp[t0]),(by simp[t3])⟩
   clear t0 t3
   obtain⟨rfl,tm,hh,L,m,rfl,kp,wh,gL,hL,hm,t0,t3⟩:=hx1
   have f1:=slcFrom_gr gL (by omega) (k:=m) (by omega)
   rw[hL] at f1
   obtain⟨n,hn⟩:∃n,l.length-m=n+1:=⟨l.length-m-1,by omega⟩
   have hrep:∀n,repN n [V.int .i64 0]=(List.replicate n (0:Int)).map iv:=fun n=>by
    induction n with
    |zero=>rfl
    |succ n ih=>simp only[repN,appN_eq,ih,List.replicate_succ,List.map_cons];rfl
   have hp:putN m ((List.replicate (n+1) (0:Int)).map iv) (L.map iv)=some ((L.take m++List.replicate (n+1) 0).map iv):=by
    have:=putN_app (pre:=(L.take m).map iv) (new:=(List.replicate (n+1) (0:Int)).map iv) (old:=(L.drop m).map iv) (rest:=[]) (by simp;omega)
    rw[List.length_map,List.length_take,Nat.min_eq_left (by omega),List.append_nil,List.append_nil,←List.map_append,List.take_append_drop,←List.map_append] at this
    exact this
   have ho:allOne ((List.replicate (n+1) (0:Int)).map iv)=true:=by
    rw[allOne_eq]
    intro v hv
    obtain⟨_,_,rfl⟩:=List.mem_map.1 hv;rfl
   have hclr:e_clr hh [V.int .i64 0] (.sl b m (l.length-m) (.slk m 0))=some (.und,hh.set b (.cells (.gr 1) ((L.take m++List.replicate (n+1) 0).map iv))):=by
    rw[e_clr_sl,hn,hrep]
    rw[List.replicate_succ,List.map_cons] at hp ho⊢
    rw[H.put_gr ho gL hp,withV_some]
   have wS:=H.wf_set wh (.cells (.gr 1) ((L.take m++List.replicate (n+1) 0).map iv)) gL
   have gS:(hh.set b (.cells (.gr 1) ((L.take m++List.replicate (n+1) 0).map iv))).get b=some (.cells (.gr 1) ((L.take m++List.replicate (n+1) 0).map iv)):=get_set_same rfl
   have ll:(L.take m++List.replicate (n+1) (0:Int)).length=l.length:=by simp;omega
   have lbS:b<(hh.set b (.cells (.gr 1) ((L.take m++List.replicate (n+1) 0).map iv))).next:=wS _ _ gS
   have ct:CutO (fun _=>True) (hh.set b (.cells (.gr 1) ((L.take m++List.replicate (n+1) 0).map iv))) (.sl b 0 l.length (.slk 0 0)) 1 ((L.take m++List.replicate (n+1) (0:Int)).map encI):=
    ⟨fun r hr=>by obtain⟨_,_,rfl⟩:=List.mem_map.1 hr;rfl,.inr (.inl ⟨b,[],0,by rw[List.length_map,ll],trivial,lbS,by rw[List.append_nil,map_flat];exact gS,by simp⟩)⟩
   obtain⟨y,hy1,hy2,hy3⟩:=ct.to (k:=m) (by omega) (by rw[List.length_map,ll];omega) (by rw[List.length_map,ll];omega)
   have ly:q_len y=some (.int .i64 (m:Int)):=by
    have:=(hy2.sl (by rw[List.length_take,List.length_map,ll];omega)).len
    rw[this,List.length_take,List.length_map,ll,Nat.min_eq_left (by omega)]
   simp(disch:=first|omega|simp only[nZ]<;>omega|fail)only[go_sem,t0,t3,q_slc_from,f1,WI_clr,hclr,q_slc_to,hy1]
   exact q y _ m ly (fun ha=>absurd ha hna) (fun _=>hm) ((kp.trans (Keeps.set hh b _)).mono fun c h=>h.elim id id) wS
  ·have deq:decide (l[i]=l[i-1])=false:=decide_eq_false heq
   simp(disch:=first|omega|simp only[nZ]<;>omega|fail)only[go_sem,t0,t3,hi',wr_in,e1,hiad i hi,hiad (i-1) (by omega),cells_of hb,n1,n2,deq,wr_succ]
   exact⟨_,by omega,_,i+1,rfl,rfl,by omega,by omega,fun j hj h0=>by
    by_cases e:j+1=i
    ·subst e;exact fun h=>heq h.symm
    ·exact hadj j hj (by omega),(by simp[t0]),(by simp)⟩
 ·have hi':¬(i:Int)<(l.length:Int):=by omega
  simp(disch:=first|omega|simp only[nZ]<;>omega|fail)only[go_sem,t0,t3,hi']
  exact q _ _ l.length rfl (fun _=>rfl) (fun hna=>absurd (fun j hj=>hadj j hj (by omega)) hna) (Keeps.refl _ _) hw
theorem cloneGr_ev {h:H}{x:V}{l:List Int}(hw:h.wf)(hx:SlAt h x 1 (l.map encI))(hl:l.length≤1000000)(h0:0<l.length)(Q:V→H→Prop)(q:∀b h',h.Sub h'→h.next≤b→h'.get b=some (.cells (.gr 1) (l.map iv))→Q (.sl b 0 l.length (.slk 0 0)) h'):Ev fnG fastA (.fn 41 [] []) [x] h Q:=by
 refine Ev_body (fd:=c41) rfl rfl rfl ?_
 rcases hx.2.2 with⟨rfl,e⟩|⟨b,o,c,cs,rfl,_⟩
 ·have:=congrArg List.length e;simp at this;rw[this] at h0;simp at h0
 ·simp(disch:=first|omega|simp only[nZ]<;>omega|fail)only[c41,go_sem]
  have s1:h.Sub (h.add (.cells .rw [])):=(H.Sub.refl hw).add _
  have hx1:=(hx.mono s1).elems
  rw[map_flat,List.length_map] at hx1
  rw[List.length_map]
  obtain⟨k,hk⟩:∃k,l.length=k+1:=⟨l.length-1,by omega⟩
  rw[e_app_eq,hx1.1,hx1.2]
  simp only[ob_some]
  rw[hk,e_app_full (by omega) (elems_0 _ _ _ _ _) (by simp only[Nat.zero_add];omega) (by omega),grown_eq,P2_some]
  simp(disch:=first|omega|simp only[nZ]<;>omega|fail)only[go_sem]
  have:=q (h.next+1) ((h.add (.cells .rw [])).add (.cells (.gr 1) (l.map iv))) (s1.add _) (by omega) (get_add_new (by rw[H.next_add]))
  rw[hk] at this
  simpa using this
theorem lt_iff {l:List Int}:l.Pairwise (· < ·)↔l.Pairwise (· ≤ ·)∧Adj l:=by
 constructor
 ·intro h
  exact⟨h.imp fun h=>by omega,fun i hi=>by
   have:=List.pairwise_iff_getElem.1 h i (i+1) (by omega) hi (by omega);omega⟩
 ·rintro⟨h1,h2⟩
  refine adj_pw (R:=fun a b=>a<b) (fun a b c h1 h2=>Int.lt_trans h1 h2) fun i hi=>?_
  have:=List.pairwise_iff_getElem.1 h1 i (i+1) (by omega) hi (by omega)
  have:=h2 i hi
  show l[i]<l[i+1]
  omega
theorem rising_ev {h:H}{x:V}{l:List Int}(hw:h.wf)(hx:SlAt h x 1 (l.map encI))(hl:l.length≤1000)(Q:V→H→Prop)(q:∀h',h.Sub h'→Q (.bool (decide (l.Pairwise (· < ·)))) h'):Ev fnG fastA (.fn 20 [] []) [x] h Q:=by
 have hlx:=hx.lenE
 refine Ev_body (fd:=c20) rfl rfl rfl ?_
 by_cases h1:l.Pairwise (· ≤ ·)
 ·have d1:decide (l.Pairwise (· ≤ ·))=true:=decide_eq_true h1
  by_cases h2:2≤l.length
  ·simp(disch:=first|omega|simp only[nZ]<;>omega|fail)only[c20,go_sem,isSorted_ev hx,d1]
   refine cloneGr_ev hw hx (by omega) (by omega) _ fun b h3 s3 nb g3=>?_
   simp(disch:=first|omega|simp only[nZ]<;>omega|fail)only[go_sem]
   refine compact_ev s3.wf g3 h2 hl _ fun y h4 m ly m1 m2 k4 w4=>?_
   have e:decide ((m:Int)=(l.length:Int))=decide (l.Pairwise (· < ·)):=by
    rw[decide_eq_decide,lt_iff]
    constructor
    ·intro he
     refine⟨h1,Classical.byContradiction fun hna=>?_⟩
     have:=m2 hna;omega
    ·rintro⟨_,ha⟩
     rw[m1 ha]
   simp(disch:=first|omega|simp only[nZ]<;>omega|fail)only[go_sem,ly,hlx,e]
   exact q _ (k4.sub s3 hw (fun c hc=>by omega) w4)
  ·have hp:decide (l.Pairwise (· < ·))=true:=decide_eq_true (lt_iff.2 ⟨h1,fun i hi=>by omega⟩)
   rw[hp] at q
   simp(disch:=first|omega|simp only[nZ]<;>omega|fail)only[c20,go_sem,isSorted_ev hx,d1]
   refine cloneInt_ev hw hx (by rw[List.length_map];omega) _ fun v h3 ov=>?_
   have lv:=(ov.sl (by simp only[List.length_map];omega)).lenE
   simp(disch:=first|omega|simp only[nZ]<;>omega|fail)only[go_sem]
   refine Ev_body (fd:=c40) rfl rfl rfl ?_
   have hn2:(l.length:Int)<2:=by omega
   have ee:decide ((l.length:Int)=(l.length:Int))=true:=decide_eq_true rfl
   simp(disch:=first|omega|simp only[nZ]<;>omega|fail)only[c40,go_sem,lv,hn2,hlx,ee]
   exact q _ ov.1
 ·have d1:decide (l.Pairwise (· ≤ ·))=false:=decide_eq_false h1
  have d2:decide (l.Pairwise (· < ·))=false:=decide_eq_false fun h=>h1 (lt_iff.1 h).1
  rw[d2] at q
  simp(disch:=first|omega|simp only[nZ]<;>omega|fail)only[c20,go_sem,isSorted_ev hx,d1]
  exact q _ (H.Sub.refl hw)
end Try
end Go.Ab
namespace Go.Ab.Try
open Go.Ab.Silk (Inc lexlt IsMin)
end Go.Ab.Try
namespace Go.Ab.Try
end Go.Ab.Try
namespace Go.Ab.Try
open Go.Ab.Silk (Inc bitsL lexlt before IsMin)
end Go.Ab.Try
namespace Go.Ab.Try
open Go.Ab.Silk (Inc bitsL lexlt lexlt_irrefl lexlt_trans lexlt_total)
theorem SlAt.elemF {h:H}{v:V}{l:List Int}(a:SlAt h v 1 (l.map encI)){j:Nat}(hj:j<l.length):∃b o cs,q_iad 1 v (.int .i64 (j:Int))=some (.ptr b o)∧h.cells b=some cs∧nth o cs=some (.int .i64 l[j]):=by
 obtain⟨b,o,c,cs,e1,e2,e3,_,_,e4⟩:=a.at hj
 have e5:=e4 (by omega)
 exact⟨b,o+j*1,cs,e3 (nat_cst j),e2,by rw[e5];rfl⟩
end Go.Ab.Try
namespace Go.Ab.Try
def RowI (h:H)(v:V)(l:List Int):Prop:=SlAt h v 1 (l.map encI)∨(l=[]∧∃a,v=.sl0 a)
theorem RowI.mono {h h':H}{v:V}{l:List Int}(a:RowI h v l)(s:h.Sub h'):RowI h' v l:=a.imp (fun a=>a.mono s) id
theorem RowI.sl {h:H}{v:V}{l:List Int}(a:RowI h v l)(hn:l≠[]):SlAt h v 1 (l.map encI):=a.resolve_right fun h=>hn h.1
theorem RowI.lenE {h:H}{v:V}{l:List Int}(a:RowI h v l):q_len v=some (.int .i64 (l.length:Int)):=by
 rcases a with a|⟨rfl,x,rfl⟩
 ·exact a.lenE
 ·rfl
theorem RowI.one {h:H}{v:V}{l:List Int}(a:RowI h v l):v.one=true:=by
 rcases a with a|⟨rfl,x,rfl⟩
 ·exact a.one
 ·rfl
theorem RowI.boundE {h:H}{v:V}{l:List Int}(a:RowI h v l):l.length≤9223372036854775807:=by
 rcases a with a|⟨rfl,x,rfl⟩
 ·exact a.boundE
 ·simp
def RdI (h:H)(x:V)(S:List (List Int)):Prop:=∃xs:List V,SlAt h x 1 (xs.map fun v=>[v])∧xs.length=S.length∧∀i (hi:i<xs.length) (hj:i<S.length),RowI h xs[i] S[i]
theorem RdI.mono {h h':H}{x:V}{S:List (List Int)}(a:RdI h x S)(s:h.Sub h'):RdI h' x S:=by
 obtain⟨xs,a1,a2,a3⟩:=a
 exact⟨xs,a1.mono s,a2,fun i hi hj=>(a3 i hi hj).mono s⟩
theorem RdI.len {h:H}{x:V}{S:List (List Int)}(a:RdI h x S):q_len x=some (.int .i64 (S.length:Int)):=by
 obtain⟨xs,a1,a2,_⟩:=a
 rw[a1.lenE,a2]
theorem RdI.bound {h:H}{x:V}{S:List (List Int)}(a:RdI h x S):S.length≤9223372036854775807:=by
 obtain⟨xs,a1,a2,_⟩:=a
 rw[←a2];exact a1.boundE
theorem RdI.row {h:H}{x:V}{S:List (List Int)}(a:RdI h x S){i:Nat}(hi:i<S.length):∃b o cs v,q_iad 1 x (.int .i64 (i:Int))=some (.ptr b o)∧h.cells b=some cs∧nth o cs=some v∧RowI h v S[i]:=by
 obtain⟨xs,a1,a2,a3⟩:=a
 obtain⟨b,o,c,cs,e1,e2,e3,_,_,e4⟩:=a1.at (k:=i) (by omega)
 have e5:=e4 (by omega)
 exact⟨b,o+i*1,cs,xs[i],e3 (nat_cst i),e2,e5,a3 i (by omega) hi⟩
structure OkP (t:Tb)(l:List Int):Prop where
 up:l.Pairwise (· < ·)
 pc:∀x∈l,0≤x∧x<(t.pieces.length:Int)
 go:l.Pairwise fun a b=>mT t a b=true
structure SrtP (t:Tb)(S:List (List Int)):Prop where
 ne:∀l∈S,l≠[]
 ok:∀l∈S,OkP t l
 nd:S.flatten.Nodup
 len:S.flatten.length=t.pieces.length
theorem OkP.nil (t:Tb):OkP t []:=⟨List.Pairwise.nil,(fun x h=>by cases h),List.Pairwise.nil⟩
theorem flat_take {S:List (List Int)}{k:Nat}(hk:k<S.length):(S.take (k+1)).flatten=(S.take k).flatten++S[k]:=by
 rw[List.take_succ_eq_append_getElem hk,List.flatten_append];simp
end Go.Ab.Try
namespace Go.Ab
namespace Try
end Try
end Go.Ab
namespace Go.Ab
theorem lenE_A (l:List (Int × V)):lenE (encA l)=l.length:=by rw[lenE_eq];simp[encA]
theorem putA_keys (i:Int)(x:V):∀l:List (Int × V),(putA i x l).map Prod.fst=if i∈l.map Prod.fst then l.map Prod.fst else l.map Prod.fst++[i]
 |[]=>rfl
 |p::l=>by
  have ih:=putA_keys i x l
  simp only[putA]
  by_cases h:i=p.1
  ·simp[h]
  ·rw[if_neg h,List.map_cons,ih]
   by_cases h2:i∈l.map Prod.fst
   ·rw[if_pos h2,if_pos (by rw[List.map_cons];exact List.mem_cons_of_mem _ h2),List.map_cons]
   ·rw[if_neg h2,if_neg (by rw[List.map_cons,List.mem_cons];rintro(h3|h3);exact h h3;exact h2 h3),List.map_cons];rfl
theorem perm_of_sub {α:Type}[DecidableEq α]:∀(ks pre:List α),ks.Nodup→(∀x∈ks,x∈pre)→ks.length=pre.length→pre.Perm ks
 |[],pre,_,_,h=>by
  have:pre=[]:=List.length_eq_zero_iff.1 h.symm
  rw[this]
 |k::ks,pre,nd,hs,h=>by
  rw[List.nodup_cons] at nd
  have hk:=hs k (by simp)
  have h1:=List.length_erase_of_mem hk
  have h2:=List.length_pos_of_mem hk
  have:=perm_of_sub ks (pre.erase k) nd.2 (fun x hx=>(List.mem_erase_of_ne (by rintro rfl;exact nd.1 hx)).2 (hs x (by simp[hx]))) (by simp only[List.length_cons] at h;omega)
  exact(List.perm_cons_erase hk).trans (this.cons k)
def SetAt (h:H)(b:Nat)(pre:List Int):Prop:=∃es:List (Int × V),h.get b=some (.map (encA es))∧(es.map Prod.fst).Nodup∧∀z,z∈es.map Prod.fst↔z∈pre
theorem SetAt.mono {h h':H}{b:Nat}{pre:List Int}(a:SetAt h b pre)(s:h.Sub h'):SetAt h' b pre:=by
 obtain⟨es,e,nd,hm⟩:=a
 exact⟨es,s.get e,nd,hm⟩
theorem SetAt.cnt {h:H}{b:Nat}{pre:List Int}(a:SetAt h b pre):∃n:Nat,q_lnm h (.map b)=some (.int .i64 (n:Int))∧(n=pre.length↔pre.Nodup):=by
 obtain⟨es,e,nd,hm⟩:=a
 refine⟨es.length,by simp only[q_lnm,e,lenE_A];rfl,?_⟩
 constructor
 ·intro h
  exact(perm_of_sub (es.map Prod.fst) pre nd (fun x hx=>(hm x).1 hx) (by rw[List.length_map];exact h)).nodup_iff.2 nd
 ·intro h
  have:=((List.perm_ext_iff_of_nodup nd h).2 hm).length_eq
  rw[List.length_map] at this;exact this
theorem SetAt.put {h:H}{b:Nat}{pre:List Int}(a:SetAt h b pre)(i:Int)(x:V){Q:V→H→Prop}(q:∀es,SetAt (h.set b (.map es)) b (pre++[i])→Q .und (h.set b (.map es))):P2 (muC (h.get b) h b (.int .i64 i) x) Q:=by
 obtain⟨es,e,nd,hm⟩:=a
 rw[←e_mup_map,e_mup_A e,P2_some]
 refine q _ ⟨_,get_set_same rfl,?_,fun z=>?_⟩
 ·rw[putA_keys]
  split
  ·exact nd
  ·rename_i hn
   exact List.nodup_append.2 ⟨nd,by simp,fun a ha b hb=>by
    rw[List.mem_singleton] at hb;subst hb
    rintro rfl;exact hn ha⟩
 ·rw[putA_keys]
  split
  ·rename_i hi
   rw[hm,List.mem_append,List.mem_singleton]
   exact⟨.inl,fun h=>h.elim id fun h=>by subst h;exact(hm z).1 hi⟩
  ·rw[List.mem_append,List.mem_append,hm]
namespace Try
theorem go_iff {t:Tb}(g:Good t){l:List Int}(hp:∀x∈l,0≤x∧x<(t.pieces.length:Int)):(l.all fun p=>l.all fun r=>mT t p r)=true↔l.Pairwise fun a b=>mT t a b=true:=by
 simp only[List.all_eq_true]
 constructor
 ·intro h
  exact List.pairwise_iff_getElem.2 fun i j hi hj _=>h _ (List.getElem_mem hi) _ (List.getElem_mem hj)
 ·intro h x hx y hy
  obtain⟨i,hi,rfl⟩:=List.getElem_of_mem hx
  obtain⟨j,hj,rfl⟩:=List.getElem_of_mem hy
  have h':=List.pairwise_iff_getElem.1 h
  rcases Nat.lt_trichotomy i j with c|c|c
  ·exact h' i j hi hj c
  ·subst c
   have:=hp _ hx
   unfold mT matchB
   rw[List.getElem?_eq_getElem (show l[i].toNat<t.pieces.length by omega)]
   exact alike_self g _
  ·rw[mT_comm g];exact h' j i hj hi c
theorem sorted11_ev {h:H}{b6 bP d:Nat}{t:Tb}(g:Good t)(g6:h.cells b6=some [.ptr d 0]){p:Int}(hP:h.cells bP=some [.int .i64 p])(hd:DkAt h d t)(hp:0≤p∧p<(t.pieces.length:Int)){r:Int}(hr:0≤r∧r<(t.pieces.length:Int)):
  PureA h (.fn 24 [] [.ptr b6 0,.ptr bP 0]) [.int .i64 r] (.bool (mT t p r)):=by
 intro h1 hs
 obtain⟨i,rfl⟩:=Int.eq_ofNat_of_zero_le hp.1
 obtain⟨k,rfl⟩:=Int.eq_ofNat_of_zero_le hr.1
 refine Ev.gen fun Q q=>?_
 refine Ev_body (fd:=c24) rfl rfl rfl ?_
 simp(disch:=first|omega|simp only[nZ]<;>omega|fail)only[c24,go_sem,hs.cells g6,hs.cells hP]
 refine match_ev hs.wf (hd.mono hs) g (show i<t.pieces.length by omega) (show k<t.pieces.length by omega) _ fun h2 s2=>?_
 simp(disch:=first|omega|simp only[nZ]<;>omega|fail)only[go_sem]
 exact q _ _ ⟨rfl,s2⟩
theorem sorted1_ev {h:H}{b6 bL d:Nat}{vL:V}{l:List Int}{t:Tb}(g:Good t)(g6:h.cells b6=some [.ptr d 0])(gL:h.cells bL=some [vL])(aL:SlAt h vL 1 (l.map encI))(hd:DkAt h d t)(hp:∀x∈l,0≤x∧x<(t.pieces.length:Int)){p:Int}(hpp:0≤p∧p<(t.pieces.length:Int)):
  PureA h (.fn 23 [] [.ptr bL 0,.ptr b6 0]) [.int .i64 p] (.bool (l.all fun r=>mT t p r)):=by
 intro h1 hs
 refine Ev.gen fun Q q=>?_
 refine Ev_body (fd:=c23) rfl rfl rfl ?_
 have sA:=(H.Sub.refl hs.wf).add (.cells .rw [.int .i64 p])
 have gP:(h1.add (.cells .rw [.int .i64 p])).cells h1.next=some [.int .i64 p]:=cells_add_new rfl
 have s1A:=hs.trans sA
 simp(disch:=first|omega|simp only[nZ]<;>omega|fail)only[c23,go_sem,hs.cells gL,s1A.cells gL]
 refine(everyInt_ev (p:=fun r=>mT t p r) sA.wf (aL.mono s1A) fun r hr=>sorted11_ev g (s1A.cells g6) gP (hd.mono s1A) hpp (hp r hr)).mono fun u h3 hu=>?_
 obtain⟨rfl,s3⟩:=hu
 simp(disch:=first|omega|simp only[nZ]<;>omega|fail)only[go_sem]
 exact q _ _ ⟨rfl,sA.trans s3⟩
set_option maxRecDepth 4000 in
set_option maxHeartbeats 8000000 in
theorem Sorted_ev {h:H}{v y:V}{t:Tb}{S:List (List Int)}(hw:h.wf)(ht:TbIs h v t)(hS:RdI h y S)(hl:S.length≤1000)(hll:∀l∈S,l.length≤1000)(Q:V→H→Prop)
  (q:∀h',h.Sub h'→Q (.tup [.bool (@decide (check t=0∧SrtP t S) (Classical.propDecidable _)),.int .i64 (check t)]) h'):Ev fnG fastA (.fn 10 [] []) [v,y] h Q:=by
 have ht0:=ht
 obtain⟨E,L,P,rfl,aE,aL,aP⟩:=ht
 have hlP:=aP.lenE
 have hlS:=hS.len
 refine Ev_body (fd:=c10) rfl rfl rfl ?_
 have s1:h.Sub (h.add (.cells .rw [E,L,P])):=(by repeat(first|assumption|exact H.Sub.refl (by assumption)|refine H.Sub.add ?_ _|refine H.Sub.set ?_ (by first|omega|(simp only[H.next_add,H.next_set,H.next_del]<;>omega)) (by first|omega|(simp only[H.next_add,H.next_set,H.next_del]<;>omega)) (by assumption) _))
 have g1:(h.add (.cells .rw [E,L,P])).cells h.next=some [E,L,P]:=cells_add_new rfl
 simp(disch:=first|omega|simp only[nZ]<;>omega|fail)only[c10,go_sem]
 generalize h.add (.cells .rw [E,L,P])=h1 at s1 g1⊢
 refine opened_use s1.wf (ht0.mono s1) _ (fun h5 s15 c=>?_) fun h5 d s15 c g hd=>?_
 ·have q':=fun hh (ss:h5.Sub hh)=>q hh ((s1.trans s15).trans ss)
  rw[@decide_eq_false _ (Classical.propDecidable _) (fun a=>c a.1)] at q'
  have ss:h5.Sub ((h5.add (.cells .rw [.nilp])).set h5.next (.cells .rw [.nilp])):=((H.Sub.refl s15.wf).add _).set (b:=h5.next) (Nat.le_refl _) (by rw[H.next_add];omega) s15.wf _
  have ss2:h5.Sub (h5.add (.cells .rw [.nilp])):=(H.Sub.refl s15.wf).add _
  simp(disch:=first|omega|simp only[nZ]<;>omega|fail)only[go_sem,ne_eq,c,not_false_eq_true]
  first|exact q' _ ss|exact q' _ ss2
 have gp:=g.pieces
 have s5:=s1.trans s15
 have s56:h5.Sub (h5.add (.cells .rw [.ptr d 0])):=(H.Sub.refl s15.wf).add _
 have g6:(h5.add (.cells .rw [.ptr d 0])).cells h5.next=some [.ptr d 0]:=cells_add_new rfl
 simp(disch:=first|omega|simp only[nZ]<;>omega|fail)only[go_sem,ne_eq,not_true_eq_false,hlS]
 have n6:(h5.add (.cells .rw [.ptr d 0])).next=h5.next+1:=H.next_add _ _
 generalize h5.add (.cells .rw [.ptr d 0])=h6 at s56 g6 n6⊢
 have s6:=s5.trans s56
 have s16:=s15.trans s56
 rw[c] at q
 have bad:∀hh,h6.Sub hh→¬SrtP t S→Q (.tup [.bool false,.int .i64 0]) hh:=fun hh sh hn=>by
  have:=q hh (s6.trans sh)
  rwa[@decide_eq_false _ (Classical.propDecidable _) (fun a=>hn a.2)] at this
 have sF:=(H.Sub.refl s56.wf).add (.map [])
 have gF:SetAt (h6.add (.map [])) h6.next []:=⟨[],get_add_new rfl,by simp,fun z=>by simp⟩
 have lF:h6.next<(h6.add (.map [])).next:=by rw[H.next_add];omega
 generalize h6.add (.map [])=hF at sF gF lF⊢
 obtain⟨bS,eb⟩:∃bS,h5.next+1=bS:=⟨_,rfl⟩
 rw[n6,eb] at gF lF
 rw[eb]
 refine W_count S.length (fun k s=>∃tm hh,s=⟨tm,hh,[]⟩∧h6.Sub hh∧bS<hh.next∧SetAt hh bS (S.take k).flatten∧(∀a (ha:a<S.length),a<k→S[a]≠[]∧OkP t S[a])∧(S.take k).flatten.length≤10*k∧(Opd.t 2).ev tm=.ptr h.next 0∧(Opd.t 6).ev tm=.ptr h5.next 0∧(Opd.t 8).ev tm=.int .i64 ((S.take k).flatten.length:Int)∧(Opd.t 9).ev tm=.map bS∧(Opd.t 23).ev tm=y∧(Opd.t 24).ev tm=.int .i64 (S.length:Int)∧(Opd.t 25).ev tm=.int .i64 (k:Int))
  ?_ ?_ (i:=0) (Nat.zero_le _) ⟨_,_,rfl,sF,lF,gF,fun a ha h0=>by omega,by simp,(by simp),(by simp),(by simp),(by simp),(by simp),(by simp),(by simp)⟩
 ·rintro k s hk ⟨tm,hh,rfl,sh,lh,gB,hdone,hcnt,t2,t6,t8,t9,t23,t24,t25⟩
  have hk':(k:Int)<(S.length:Int):=by omega
  obtain⟨l,el⟩:∃l,S[k]=l:=⟨_,rfl⟩
  have hlS':l∈S:=by rw[←el];exact List.getElem_mem hk
  have hl1000:=hll l hlS'
  obtain⟨bR,oR,csR,vR,r1,r2,r3,r4⟩:=(hS.mono (s6.trans sh)).row hk
  rw[el] at r4
  have lR:=r4.lenE
  have vR1:=r4.one
  obtain⟨pre,epre⟩:∃pre,(S.take k).flatten=pre:=⟨_,rfl⟩
  have hft:=flat_take hk
  rw[epre,el] at hft
  rw[epre] at gB t8 hcnt
  have sA:=(H.Sub.refl sh.wf).add (.cells .rw [vR])
  have gA:(hh.add (.cells .rw [vR])).cells hh.next=some [vR]:=cells_add_new rfl
  simp(disch:=first|omega|simp only[nZ]<;>omega|fail)only[go_sem,t2,t6,t8,t9,t23,t24,t25,hk',r1,r2,r3,vR1,cells_one vR1,lR]
  generalize hh.add (.cells .rw [vR])=hA at sA gA⊢
  have s6A:=sh.trans sA
  have s1A:=s16.trans s6A
  have g1A:=s1A.cells g1
  by_cases hl0:l.length=0
  ·have hl0':decide ((l.length:Int)=0)=true:=decide_eq_true (by omega)
   simp(disch:=first|omega|simp only[nZ]<;>omega|fail)only[go_sem,t2,t6,t8,t9,t23,t24,t25,hl0',gA,g1A]
   exact bad _ s6A fun a=>a.ne l hlS' (List.length_eq_zero_iff.1 hl0)
  have hl0':decide ((l.length:Int)=0)=false:=decide_eq_false (by omega)
  have r4:=r4.sl fun h=>hl0 (by rw[h];rfl)
  simp(disch:=first|omega|simp only[nZ]<;>omega|fail)only[go_sem,t2,t6,t8,t9,t23,t24,t25,hl0',gA,g1A]
  refine rising_ev sA.wf (r4.mono sA) hl1000 _ fun hB sB=>?_
  have s6B:=s6A.trans sB
  have gAB:=sB.cells gA
  have g1B:=sB.cells g1A
  cases hup:decide (l.Pairwise (· < ·))
  ·simp(disch:=first|omega|simp only[nZ]<;>omega|fail)only[go_sem,t2,t6,t8,t9,t23,t24,t25,Bool.not_false,gAB,g1B]
   exact bad _ s6B fun a=>of_decide_eq_false hup (a.ok l hlS').up
  have pw:=of_decide_eq_true hup
  simp(disch:=first|omega|simp only[nZ]<;>omega|fail)only[go_sem,t2,t6,t8,t9,t23,t24,t25,Bool.not_true,gAB,g1B]
  refine(everyInt_ev (p:=isPc t) sB.wf (r4.mono (sA.trans sB)) fun a _=>fun h7 s7=>Ev.gen fun Q q=>Ev_bound (piece_ev s7.wf (ht0.mono (s6.trans (s6B.trans s7))) a _ fun h8 s8=>q _ _ ⟨rfl,s8⟩)).mono fun u hC hu=>?_
  obtain⟨rfl,sC⟩:=hu
  have s6C:=s6B.trans sC
  have gAC:=sC.cells gAB
  have g1C:=sC.cells g1B
  cases hpc:l.all (isPc t)
  ·simp(disch:=first|omega|simp only[nZ]<;>omega|fail)only[go_sem,t2,t6,t8,t9,t23,t24,t25,Bool.not_false,gAC,g1C]
   exact bad _ s6C fun a=>by
    rw[List.all_eq_false] at hpc
    obtain⟨x,hx,h2⟩:=hpc
    have:=(a.ok l hlS').pc x hx
    exact h2 (by unfold isPc;exact decide_eq_true this)
  have hin:∀x∈l,0≤x∧x<(t.pieces.length:Int):=fun x hx=>by
   have:=List.all_eq_true.1 hpc x hx
   unfold isPc at this;exact of_decide_eq_true this
  simp(disch:=first|omega|simp only[nZ]<;>omega|fail)only[go_sem,t2,t6,t8,t9,t23,t24,t25,Bool.not_true,gAC,g1C]
  refine(everyInt_ev (p:=fun p=>l.all fun r=>mT t p r) sC.wf (r4.mono (sA.trans (sB.trans sC))) fun a ha=>sorted1_ev g (s6C.cells g6) gAC (r4.mono (sA.trans (sB.trans sC))) (hd.mono (s56.trans s6C)) hin (hin a ha)).mono fun u hD hu=>?_
  obtain⟨rfl,sD⟩:=hu
  have s6D:=s6C.trans sD
  have sAD:=sB.trans (sC.trans sD)
  have gAD:=sD.cells gAC
  cases hgo:l.all fun p=>l.all fun r=>mT t p r
  ·simp(disch:=first|omega|simp only[nZ]<;>omega|fail)only[go_sem,t2,t6,t8,t9,t23,t24,t25,Bool.not_false,gAD]
   exact bad _ s6D fun a=>by
    have:=(go_iff g hin).2 (a.ok l hlS').go
    rw[hgo] at this;cases this
  have okl:OkP t l:=⟨pw,hin,(go_iff g hin).1 hgo⟩
  have l9:l.length≤t.pieces.length:=nodup_len (pw.imp fun h=>by omega) hin
  simp(disch:=first|omega|simp only[nZ]<;>omega|fail)only[go_sem,t2,t6,t8,t9,t23,t24,t25,Bool.not_true,gAD,lR]
  have gBD:=gB.mono (sA.trans sAD)
  have lD:=(sA.trans sAD).next
  have r4D:=r4.mono (sA.trans sAD)
  refine W.mono (Q:=fun x1 s=>x1=.ext 2∧∃tm hq,s=⟨tm,hq,[]⟩∧h6.Sub hq∧bS<hq.next∧SetAt hq bS (pre++l)∧(Opd.t 2).ev tm=.ptr h.next 0∧(Opd.t 6).ev tm=.ptr h5.next 0∧(Opd.t 8).ev tm=.int .i64 ((pre++l).length:Int)∧(Opd.t 9).ev tm=.map bS∧(Opd.t 23).ev tm=y∧(Opd.t 24).ev tm=.int .i64 (S.length:Int)∧(Opd.t 25).ev tm=.int .i64 (k:Int))
   (W_count l.length (fun i s=>∃tm hq,s=⟨tm,hq,[]⟩∧h6.Sub hq∧bS<hq.next∧SetAt hq bS (pre++l.take i)∧SlAt hq vR 1 (l.map encI)∧(Opd.t 2).ev tm=.ptr h.next 0∧(Opd.t 6).ev tm=.ptr h5.next 0∧(Opd.t 8).ev tm=.int .i64 ((pre++l.take i).length:Int)∧(Opd.t 9).ev tm=.map bS∧(Opd.t 23).ev tm=y∧(Opd.t 24).ev tm=.int .i64 (S.length:Int)∧(Opd.t 25).ev tm=.int .i64 (k:Int)∧(Opd.t 50).ev tm=vR∧(Opd.t 51).ev tm=.int .i64 (l.length:Int)∧(Opd.t 52).ev tm=.int .i64 (i:Int))
   ?_ ?_ (i:=0) (Nat.zero_le _) ⟨_,_,rfl,s6D,by omega,by simpa using gBD,r4D,(by simp[t2]),(by simp[t6]),by rw[List.take_zero,List.append_nil];exact(by simp[t8]),(by simp[t9]),(by simp[t23]),(by simp[t24]),(by simp[t25]),(by simp),(by simp),(by simp)⟩) fun x1 s hx1=>?_
  ·clear t2 t6 t8 t9 t23 t24 t25
   rintro i s hi ⟨tm,hq,rfl,sq,lq,gq,aq,t2,t6,t8,t9,t23,t24,t25,t50,t51,t52⟩
   have hi':(i:Int)<(l.length:Int):=by omega
   obtain⟨b1,o1,cs1,f1,f2,f3⟩:=SlAt.elemF aq hi
   have lc:(pre++l.take (i+1)).length=(pre++l.take i).length+1:=by
    rw[List.take_succ_eq_append_getElem hi,←List.append_assoc,List.length_append (bs:=[l[i]])];rfl
   have lb:(pre++l.take i).length≤20000:=by rw[List.length_append,List.length_take];omega
   have wc:wr .i64 (((pre++l.take i).length:Int)+1)=((pre++l.take (i+1)).length:Int):=by rw[wr_in (by omega) (by omega)];omega
   have nb:∀b,blkOf vR b→b≠bS:=fun b hb e=>by
    rcases aq.2.2 with⟨rfl,_⟩|⟨b',o',c',cs',e1,e2,e3⟩
    ·obtain⟨_,_,_,e⟩:=hb;cases e
    ·obtain⟨_,_,_,e4⟩:=hb
     rw[e1] at e4;cases e4
     subst e
     rcases e2 with e2|e2
     ·rw[List.map_eq_nil_iff] at e2;rw[e2] at hi;simp at hi
     ·obtain⟨es,ge,_⟩:=gq
      obtain⟨kd,hk2⟩:=H.cells_eq e2
      rw[ge] at hk2;cases hk2
   simp(disch:=first|omega|simp only[nZ]<;>omega|fail)only[go_sem,t2,t6,t8,t9,t23,t24,t25,t50,t51,t52,hi',f1,f2,f3,wc]
   refine gq.put l[i] (.bool true) fun es gq2=>?_
   rw[List.append_assoc,←List.take_succ_eq_append_getElem hi] at gq2
   have k2:=Keeps.set hq bS (.map es)
   have aq2:=SlAt_keep2 aq k2 fun _ b hb=>nb b hb
   have sq2:=sq.set (b:=bS) (by omega) lq s56.wf (.map es)
   have lq2:bS<(hq.set bS (.map es)).next:=by rw[H.next_set];exact lq
   simp(disch:=first|omega|simp only[nZ]<;>omega|fail)only[go_sem,t2,t6,t8,t9,t23,t24,t25,t50,t51,t52,wr_succ]
   exact⟨_,_,rfl,sq2,lq2,gq2,aq2,(by simp[t2]),(by simp[t6]),(by simp),(by simp[t9]),(by simp[t23]),(by simp[t24]),(by simp[t25]),(by simp[t50]),(by simp[t51]),(by simp)⟩
  ·clear t2 t6 t8 t9 t23 t24 t25
   rintro s ⟨tm,hq,rfl,sq,lq,gq,aq,t2,t6,t8,t9,t23,t24,t25,t50,t51,t52⟩
   rw[List.take_length] at gq t8
   simp(disch:=first|omega|simp only[nZ]<;>omega|fail)only[go_sem,t2,t6,t8,t9,t23,t24,t25,t50,t51,t52,Int.lt_irrefl]
   exact⟨_,_,rfl,sq,lq,gq,(by simp[t2]),(by simp[t6]),(by simp[t8]),(by simp[t9]),(by simp[t23]),(by simp[t24]),(by simp[t25])⟩
  clear t2 t6 t8 t9 t23 t24 t25
  obtain⟨rfl,tm,hq,rfl,sq,lq,gq,t2,t6,t8,t9,t23,t24,t25⟩:=hx1
  simp(disch:=first|omega|simp only[nZ]<;>omega|fail)only[go_sem,t2,t6,t8,t9,t23,t24,t25,wr_succ]
  exact⟨_,_,rfl,sq,lq,by rw[hft];exact gq,fun a ha h0=>by
   by_cases e:a=k
   ·subst e;rw[el];exact⟨fun h=>hl0 (by rw[h];rfl),okl⟩
   ·exact hdone a ha (by omega),by rw[hft,List.length_append];omega,(by simp[t2]),(by simp[t6]),by rw[hft];exact(by simp[t8]),(by simp[t9]),(by simp[t23]),(by simp[t24]),(by simp)⟩
 ·rintro s ⟨tm,hh,rfl,sh,lh,gB,hdone,hcnt,t2,t6,t8,t9,t23,t24,t25⟩
  rw[List.take_length] at gB t8 hcnt
  obtain⟨m,hm1,hm2⟩:=gB.cnt
  have g1h:=(s16.trans sh).cells g1
  have hok:(∀l∈S,l≠[])∧(∀l∈S,OkP t l):=⟨fun l hl=>by obtain⟨a,ha,rfl⟩:=List.getElem_of_mem hl;exact(hdone a ha ha).1,fun l hl=>by obtain⟨a,ha,rfl⟩:=List.getElem_of_mem hl;exact(hdone a ha ha).2⟩
  by_cases c1:S.flatten.length=t.pieces.length
  ·have d1:decide ((S.flatten.length:Int)=(t.pieces.length:Int))=true:=decide_eq_true (by omega)
   by_cases c2:S.flatten.Nodup
   ·have d2:decide ((m:Int)=(S.flatten.length:Int))=true:=decide_eq_true (by have:=hm2.2 c2;omega)
    have q':=q hh (s6.trans sh)
    rw[@decide_eq_true _ (Classical.propDecidable _) ⟨rfl,⟨hok.1,hok.2,c2,c1⟩⟩] at q'
    simp(disch:=first|omega|simp only[nZ]<;>omega|fail)only[go_sem,t2,t6,t8,t9,t23,t24,t25,Int.lt_irrefl,g1h,hlP,d1,hm1,d2]
    exact q'
   ·have d2:decide ((m:Int)=(S.flatten.length:Int))=false:=decide_eq_false (by intro h;exact c2 (hm2.1 (by omega)))
    simp(disch:=first|omega|simp only[nZ]<;>omega|fail)only[go_sem,t2,t6,t8,t9,t23,t24,t25,Int.lt_irrefl,g1h,hlP,d1,hm1,d2]
    exact bad _ sh fun a=>c2 a.nd
  ·have d1:decide ((S.flatten.length:Int)=(t.pieces.length:Int))=false:=decide_eq_false (by omega)
   simp(disch:=first|omega|simp only[nZ]<;>omega|fail)only[go_sem,t2,t6,t8,t9,t23,t24,t25,Int.lt_irrefl,g1h,hlP,d1]
   exact bad _ sh fun a=>c1 a.len
end Try
end Go.Ab
