/- EyeTables. The reference's Steps. Add: a table with one more piece. The reference's chain: the first shortest way. The reference's chain, Chain and Kin. Numbers that are wound off bytes: the contracts of Spool. Shades that are wound off; what tells two shades apart, as the law has it. Made: a table that is wound off. The law's own match; the sum of all kin. EyeChains. -/
import Derived.Test.YtkjbamlcgojkmaaGreatG2
import Derived.Test.YtkjbamlcgojkmaaGreatAc7
import Derived.Test.YtkjbamlcgojkmaaGreatG4
set_option linter.unusedSimpArgs false
set_option linter.unusedVariables false
theorem yda {p:Prop}(h:p:=by repeat(first|assumption|exact H.Sub.refl (by assumption)|refine H.Sub.add ?_ _|refine H.Sub.set ?_ (by first|omega|(simp only[H.next_add,H.next_set,H.next_del]<;>omega)) (by first|omega|(simp only[H.next_add,H.next_set,H.next_del]<;>omega)) (by assumption) _)):p:=h
theorem ydb {p:Prop}(h:p:=by simp):p:=h
theorem ydc {p:Prop}(h:p:=by simp only[List.length_map];omega):p:=h
theorem ydd {p:Prop}(h:p:=by omega):p:=h
theorem yde {p:Prop}(h:p:=by simp<;>rfl):p:=h
theorem ydf {p:Prop}(h:p:=by simp[t5]):p:=h
theorem ydg {p:Prop}(h:p:=by simp[t6]):p:=h
theorem ydh {p:Prop}(h:p:=by simp only[H.next_set,H.next_add];omega):p:=h
theorem ydi {p:Prop}(h:p:=by simp[t1]<;>rfl):p:=h
theorem ydj {p:Prop}(h:p:=by simp[t3]<;>rfl):p:=h
theorem ydk {p:Prop}(h:p:=by simp[t9]):p:=h
theorem ydl {p:Prop}(h:p:=by simp[pthE];omega):p:=h
theorem ydm {p:Prop}(h:p:=by simp[c]):p:=h
theorem ydn {p:Prop}(h:p:=by simp[t8]):p:=h
namespace Go.Ab.Tryz
set_option maxHeartbeats 4000000 in
theorem Steps_ev {h:H}{v:V}{t:Tb}(hw:h.wf)(ht:ZK h v t)(g:Good t){s:Nat}(hs:s<t.pieces.length)(Q:V→H→Prop)(q:∀x h',ZG h h' x 1 (((List.range t.pieces.length).map (dstI t s)).map encI)→Q x h'):
  Ev fnG Zm (.fn 174 [] []) [v,.ii (s:Int)] h Q:=by
 have ht0:=ht
 obtain⟨E,L,P,rfl,aE,aL,aP⟩:=ht
 have hlP:=aP.lenE
 have gp:=g.pieces
 refine Zd (fd:=c174) rfl rfl rfl ?_
 have s1:h.Sub (h.add (.bk [E,L,P])):=yda
 have g1:(h.add (.bk [E,L,P])).cells h.next=some [E,L,P]:=Zf rfl
 simp(disch:=omega)only[c174,go_sem]
 refine WX s1.wf (ht0.mono s1) g _ fun x hM oM=>?_
 have sM:(h.add (.bk [E,L,P])).Sub hM:=by obtain⟨_,a1,_⟩:=oM;exact a1.1
 have hm:=a_msl_nn (h:=hM) (by_:=8) (n:=t.pieces.length) (z:=[.ii 0]) ydd ydd
 rw[repN_zero] at hm
 have hiad:∀k:Nat,k<t.pieces.length→ZS 1 (.sl hM.next 0 t.pieces.length (.fix t.pieces.length)) (.ii (k:Int))=some (.ptr hM.next k):=fun k hk=>by
  have e:Nat.blt k t.pieces.length=true:=by rw[Nat.blt_eq];exact hk
  simp only[ZS,Ze,e,Zy,Nat.mul_one,Nat.zero_add]
 have gS:∀f,(hM.add (.bk (Xx f t.pieces.length))).get hM.next=some (.bk (Xx f t.pieces.length)):=fun f=>Zn rfl
 simp(disch:=omega)only[go_sem,sM.cells g1,hlP,hm]
 refine W.mono (Q:=fun x1 s'=>x1=.ext 0∧∃tm f,s'=⟨tm,hM.add (.bk (Xx f t.pieces.length)),[]⟩∧(∀j,j<t.pieces.length→f j= -1)∧tm.E 1=.ii (s:Int)∧tm.E 5=x∧tm.E 6=.sl hM.next 0 t.pieces.length (.fix t.pieces.length))
  (Zh t.pieces.length (fun i s'=>∃tm f,s'=⟨tm,hM.add (.bk (Xx f t.pieces.length)),[]⟩∧(∀j,j<i→f j= -1)∧tm.E 1=.ii (s:Int)∧tm.E 5=x∧tm.E 6=.sl hM.next 0 t.pieces.length (.fix t.pieces.length)∧tm.E 7=.ii (i:Int))
  ?_ ?_ (i:=0) (Nat.zero_le _) ⟨_,fun _=>0,rfl,fun j hj=>by omega,ydb,ydb,ydb,ydb⟩) fun x1 s' hx1=>?_
 ·rintro i s' hi ⟨tm,f,rfl,hf,t1,t5,t6,t7⟩
  have hi':(i:Int)<(t.pieces.length:Int):=by omega
  have hput:=rowI_put (f:=f) hi (-1)
  simp(disch:=omega)only[go_sem,t1,t5,t6,t7,hi',hiad i hi,gS f,hput,Zc]
  exact⟨_,fun j=>if j=i then -1 else f j,rfl,fun j hj=>by
   by_cases e:j=i
   ·simp[e]
   ·simp only[if_neg e];exact hf j ydd,(by simp[t1]),ydf,ydg,ydb⟩
 ·rintro s' ⟨tm,f,rfl,hf,t1,t5,t6,t7⟩
  simp(disch:=omega)only[go_sem,t1,t5,t6,t7,Int.lt_irrefl]
  exact⟨_,f,rfl,hf,(by simp[t1]),ydf,ydg⟩
 obtain⟨rfl,tm,f,rfl,hf,t1,t5,t6⟩:=hx1
 have hput:=rowI_put (f:=f) hs 0
 simp(disch:=omega)only[go_sem,t1,t5,t6,hiad s hs,gS f,hput]
 have hL0:YK t s (fun i=>if i=s then 0 else f i) 0 0 0:=YK.init hs fun j hj=>by
  by_cases e:j=s
  ·simp[e]
  ·simp only[if_neg e];exact hf j hj
 generalize(fun i=>if i=s then(0:Int) else f i)=f0 at hL0⊢
 clear hf hput
 refine Zh t.pieces.length (fun d s'=>∃tm f,s'=⟨tm,hM.add (.bk (Xx f t.pieces.length)),[]⟩∧YK t s f d 0 0∧tm.E 5=x∧tm.E 6=.sl hM.next 0 t.pieces.length (.fix t.pieces.length)∧tm.E 8=.ii (d:Int))
  ?_ ?_ (i:=0) (Nat.zero_le _) ⟨_,f0,rfl,hL0,ydf,ydg,ydb⟩
 ·clear hL0 t1 t5 t6
  rintro d s' hd ⟨tm,f,rfl,hL,t5,t6,t8⟩
  have hd':(d:Int)<(t.pieces.length:Int):=by omega
  simp(disch:=omega)only[go_sem,t5,t6,t8,hd']
  refine Zh t.pieces.length (fun p s'=>∃tm f,s'=⟨tm,hM.add (.bk (Xx f t.pieces.length)),[]⟩∧YK t s f d p 0∧tm.E 5=x∧tm.E 6=.sl hM.next 0 t.pieces.length (.fix t.pieces.length)∧tm.E 8=.ii (d:Int)∧tm.E 9=.ii (p:Int))
   ?_ ?_ (i:=0) (Nat.zero_le _) ⟨_,f,rfl,hL,ydf,ydg,ydn,ydb⟩
  ·clear hL t5 t6 t8
   rintro p s' hp ⟨tm,f,rfl,hL,t5,t6,t8,t9⟩
   have hp':(p:Int)<(t.pieces.length:Int):=by omega
   simp(disch:=omega)only[go_sem,t5,t6,t8,t9,hp']
   refine Zh t.pieces.length (fun k s'=>∃tm f,s'=⟨tm,hM.add (.bk (Xx f t.pieces.length)),[]⟩∧YK t s f d p k∧tm.E 5=x∧tm.E 6=.sl hM.next 0 t.pieces.length (.fix t.pieces.length)∧tm.E 8=.ii (d:Int)∧tm.E 9=.ii (p:Int)∧tm.E 10=.ii (k:Int))
    ?_ ?_ (i:=0) (Nat.zero_le _) ⟨_,f,rfl,hL,ydf,ydg,ydn,ydk,ydb⟩
   ·clear hL t5 t6 t8 t9
    rintro k s' hk ⟨tm,f,rfl,hL,t5,t6,t8,t9,t10⟩
    have hk':(k:Int)<(t.pieces.length:Int):=by omega
    have sF:=(H.Sub.refl sM.wf).add (.bk (Xx f t.pieces.length))
    obtain⟨b,o,cs,row,b2,o2,cs2,m1,m2,m3,m4,m5,m6,_⟩:=mats_at gp (oM.mono sF) hp hk
    have np:=rowI_nth (f:=f) hp
    have nk:=rowI_nth (f:=f) hk
    have hv:=hL.val hp
    by_cases c1:f p=(d:Int)
    ·by_cases c2:f k<0
     ·cases c3:MM t p k with
      |false=>
       simp(disch:=omega)only[go_sem,t5,t6,t8,t9,t10,hk',hiad p hp,hiad k hk,np,nk,c1,c2,m1,m2,m3,m4,m5,m6,c3,Zc]
       exact⟨_,f,rfl,hL.nohit hs hk hp (by rw[c3];simp),ydf,ydg,ydn,ydk,ydb⟩
      |true=>
       have hput:=rowI_put (f:=f) hk ((d+1:Nat):Int)
       simp(disch:=omega)only[go_sem,t5,t6,t8,t9,t10,hk',hiad p hp,hiad k hk,np,nk,c1,c2,m1,m2,m3,m4,m5,m6,c3,Zc,gS f,hput]
       exact⟨_,_,rfl,hL.hit hs hk hp (hv.1 c1) c2 c3,ydf,ydg,ydn,ydk,ydb⟩
     ·simp(disch:=omega)only[go_sem,t5,t6,t8,t9,t10,hk',hiad p hp,hiad k hk,np,nk,c1,c2,Zc]
      exact⟨_,f,rfl,hL.nohit hs hk hp (fun h=>c2 h.2.1),ydf,ydg,ydn,ydk,ydb⟩
    ·simp(disch:=omega)only[go_sem,t5,t6,t8,t9,t10,hk',hiad p hp,hiad k hk,np,nk,c1,Zc]
     exact⟨_,f,rfl,hL.nohit hs hk hp (fun h=>c1 (hv.2 h.1)),ydf,ydg,ydn,ydk,ydb⟩
   ·rintro s' ⟨tm,f,rfl,hL,t5,t6,t8,t9,t10⟩
    simp(disch:=omega)only[go_sem,t5,t6,t8,t9,t10,Int.lt_irrefl,Zc]
    exact⟨_,f,rfl,hL.nextp,ydf,ydg,ydn,ydb⟩
  ·rintro s' ⟨tm,f,rfl,hL,t5,t6,t8,t9⟩
   simp(disch:=omega)only[go_sem,t5,t6,t8,t9,Int.lt_irrefl,Zc]
   exact⟨_,f,rfl,hL.nextd hs,ydf,ydg,ydb⟩
 ·rintro s' ⟨tm,f,rfl,hL,t5,t6,t8⟩
  simp(disch:=omega)only[go_sem,t5,t6,t8,Int.lt_irrefl]
  have ef:Xx f t.pieces.length=(((List.range t.pieces.length).map (dstI t s)).map encI).flatten:=by
   have e1:(List.range t.pieces.length).map f=(List.range t.pieces.length).map (dstI t s):=List.map_congr_left fun j hj=>hL.fin hs (List.mem_range.1 hj)
   rw[rowI_map,e1];rfl
  have sF:=(H.Sub.refl sM.wf).add (.bk (Xx f t.pieces.length))
  exact q _ _ ⟨s1.trans (sM.trans sF),by simp[encI],.inr (.inr ⟨hM.next,t.pieces.length,[],by simp,(s1.trans sM).next,by rw[H.next_add];omega,by rw[gS f,ef,List.append_nil],by simp,by simp⟩)⟩
end Go.Ab.Tryz
namespace Go.Ab
theorem V1 {h:H}{x:V}{sz by_:Nat}{rows:List (List V)}{Q:V→H→Prop}(hw:h.wf)(hx:Zg h x sz rows)(hl:rows.length*by_≤1000000000)(hl2:rows.length≤1000000000)(q:∀v h',ZG h h' v sz rows→Q v h'):
  P2 (Z8 (h.add (.bk [])) sz by_ (.sl h.next 0 0 (.fix 0)) x) Q:=by
 have s1:h.Sub (h.add (.bk [])):=(H.Sub.refl hw).add _
 have hx1:=(hx.mono s1).elems
 rw[Yy,hx1.1,hx1.2]
 simp only[YI]
 cases hn:rows.length with
 |zero=>
  have e:rows=[]:=List.length_eq_zero_iff.1 hn
  rw[WP]
  have:Nat.ble 0 0=true:=rfl
  rw[this,Zy,ZN]
  exact q _ _ (by rw[e];exact⟨s1,by simp,.inr (.inr ⟨h.next,0,[],rfl,Nat.le_refl _,by rw[H.next_add];omega,Zn rfl,by simp,Nat.le_refl _⟩)⟩)
 |succ k=>
  rw[Xl ydd (elems_0 _ _ _ _ _) (by rw[hn] at hl;simp only[Nat.zero_add];omega) ydd,XD,ZN]
  exact q _ _ ⟨s1.add _,hx.1,.inr (.inl ⟨(h.add (.bk [])).next,by rw[hn,Nat.zero_add],by rw[H.next_add];omega,by simp only[H.next_add];omega,by rw[Zn rfl];rfl⟩)⟩
theorem a_msl_n1 {h:H}{by_ n:Nat}{z:List V}(h1:(n+1)*by_≤1099511627776)(h2:n+1≤1099511627776):
  WV h by_ z (.ii (n:Int)) (.ii ((n+1:Nat):Int))=some (.sl h.next 0 n (.fix (n+1)),h.add (.bk (ZH (n+1) z))):=by
 have e1:Nat.ble ((n+1)*by_) 1099511627776=true:=by simpa using h1
 have e2:Nat.ble (n+1) 1099511627776=true:=by simpa using h2
 have e3:Nat.ble n (n+1)=true:=by simp
 simp only[WV,Ze,e1,e2,e3,Zy,lf_eq]
theorem cpy_core {h:H}{x:V}{sz:Nat}{rows:List (List V)}{z:List V}(hx:Zg h x sz rows)(hw:h.wf)(hz:z.length=sz)(ho:ZF rows.flatten=true):
  e_cpy (h.add (.bk (ZH (rows.length+1) z))) sz (.sl h.next 0 rows.length (.fix (rows.length+1))) x=some (.ii (rows.length:Int),h.add (.bk (rows.flatten++z))):=by
 have hx1:=(hx.mono ((H.Sub.refl hw).add (.bk (ZH (rows.length+1) z)))).elems
 have hl:=Zr hx.1
 have hb:Nat.ble rows.length rows.length=true:=by simp
 have ht:takeN (rows.length*sz) rows.flatten=some rows.flatten:=takeN_eq.2 ⟨by rw[←hl,List.take_length],by omega⟩
 have e1:lenV (.sl h.next 0 rows.length (.fix (rows.length+1)))=some rows.length:=rfl
 simp only[e_cpy,e1,hx1.1,hx1.2,hb,ht,cpyTo]
 have hr:ZH (rows.length+1) z=ZH rows.length z++z:=by
  have:∀n,ZH (n+1) z=ZH n z++z:=fun n=>by
   induction n with
   |zero=>simp[ZH,ZY]
   |succ n ih=>
    have e1:ZH (n+1+1) z=z++ZH (n+1) z:=by simp only[ZH,ZY]
    have e2:ZH (n+1) z=z++ZH n z:=by simp only[ZH,ZY]
    rw[e1,ih,←List.append_assoc,←e2,ih]
  exact this _
 cases hv:rows.flatten with
 |nil=>
  have h0:rows.length*sz=0:=by rw[←hl,hv];rfl
  have:ZH rows.length z=[]:=List.length_eq_zero_iff.1 (by rw[XZ,hz];exact h0)
  rw[hr,this]
  simp only[H.put,List.nil_append,Z6];rfl
 |cons v vs=>
  rw[hv] at ho hl
  have hp:Z0 0 (v::vs) (ZH (rows.length+1) z)=some ((v::vs)++z):=by
   rw[hr]
   have:=Xy (pre:=[]) (new:=v::vs) (old:=ZH rows.length z) (rest:=z) (by rw[XZ,hz,hl])
   simpa using this
  rw[H.put_rw ho (Zn rfl) hp,Z6,VP rfl];rfl
namespace Tryz
theorem cloneEye_ev {h:H}{x:V}{rows:List (List V)}(hw:h.wf)(hx:Zg h x 4 rows)(hl:rows.length≤1000000)(Q:V→H→Prop)(q:∀v h',ZG h h' v 4 rows→Q v h'):Ev fnG Zm (.fn 172 [] []) [x] h Q:=by
 refine Zd (fd:=c172) rfl rfl rfl ?_
 rcases hx.2.2 with⟨rfl,e⟩|⟨b,o,c,cs,rfl,_⟩
 ·simp(disch:=omega)only[c172,go_sem]
  exact q _ _ (by rw[e];exact(Zq.nil (H.Sub.refl hw) 4).c)
 ·simp(disch:=omega)only[c172,go_sem]
  refine V1 hw hx ydd ydd fun v h' ov=>?_
  simp(disch:=omega)only[go_sem]
  exact q _ _ ov
theorem cloneLight_ev {h:H}{x:V}{rows:List (List V)}(hw:h.wf)(hx:Zg h x 3 rows)(hl:rows.length≤1000000)(Q:V→H→Prop)(q:∀v h',ZG h h' v 3 rows→Q v h'):Ev fnG Zm (.fn 173 [] []) [x] h Q:=by
 refine Zd (fd:=c173) rfl rfl rfl ?_
 rcases hx.2.2 with⟨rfl,e⟩|⟨b,o,c,cs,rfl,_⟩
 ·simp(disch:=omega)only[c173,go_sem]
  exact q _ _ (by rw[e];exact(Zq.nil (H.Sub.refl hw) 3).c)
 ·simp(disch:=omega)only[c173,go_sem]
  refine V1 hw hx ydd ydd fun v h' ov=>?_
  simp(disch:=omega)only[go_sem]
  exact q _ _ ov
def VI (t:Tb)(s:Sd):Int:=if check t≠0 then check t else if s.within 20=false then 3 else if t.pieces.length=9 then 9 else 0
def addR (t:Tb)(s:Sd):Tb:=if VI t s=0 then⟨t.eyes,t.lights,t.pieces++[s]⟩ else⟨[],[],[]⟩
structure TbOwn (h0 h:H)(X Y Z:V)(t:Tb):Prop where
 x:ZG h0 h X 4 (t.eyes.map Yx)
 y:ZG h0 h Y 3 (t.lights.map Zj)
 z:ZG h0 h Z 3 (t.pieces.map Zj)
 xy:∀b,Zk X b→¬Zk Y b
 xz:∀b,Zk X b→¬Zk Z b
 yz:∀b,Zk Y b→¬Zk Z b
theorem nblk (b:Nat):¬Zk .nils b:=fun⟨_,_,_,e⟩=>by cases e
theorem TbOwn.nil {h0 h:H}(s:h0.Sub h):TbOwn h0 h .nils .nils .nils ⟨[],[],[]⟩:=
 ⟨(Zq.nil s 4).c,(Zq.nil s 3).c,(Zq.nil s 3).c,fun b hb=>absurd hb (nblk b),fun b hb=>absurd hb (nblk b),fun b hb=>absurd hb (nblk b)⟩
set_option maxHeartbeats 1000000 in
theorem Add_ev {h:H}{v:V}{t:Tb}(hw:h.wf)(ht:ZK h v t)(a:Sd)(Q:V→H→Prop)(q:∀X Y Z h',TbOwn h h' X Y Z (addR t a)→Q (.tup [.agg [X,Y,Z],.ii (VI t a)]) h'):
  Ev fnG Zm (.fn 144 [] []) [v,.agg (Zj a)] h Q:=by
 have ht0:=ht
 obtain⟨E,L,P,rfl,aE,aL,aP⟩:=ht
 refine Zd (fd:=c144) rfl rfl rfl ?_
 have s4:h.Sub (((h.add (.bk [E,L,P])).add (.bk [.ii a.x,.ii a.y,.ii a.z])).add (.bk [.nils,.nils,.nils])):=yda
 have q3:(((h.add (.bk [E,L,P])).add (.bk [.ii a.x,.ii a.y,.ii a.z])).add (.bk [.nils,.nils,.nils])).cells h.next=some [E,L,P]:=by simp(disch:=first|omega|simp only[nZ]<;>omega|fail)only[go_sem]
 have q4:(((h.add (.bk [E,L,P])).add (.bk [.ii a.x,.ii a.y,.ii a.z])).add (.bk [.nils,.nils,.nils])).cells (h.next+1)=some [.ii a.x,.ii a.y,.ii a.z]:=by simp(disch:=first|omega|simp only[nZ]<;>omega|fail)only[go_sem]
 have q5:(((h.add (.bk [E,L,P])).add (.bk [.ii a.x,.ii a.y,.ii a.z])).add (.bk [.nils,.nils,.nils])).get (h.next+1+1)=some (.bk [.nils,.nils,.nils]):=by simp(disch:=first|omega|simp only[nZ]<;>omega|fail)only[go_sem]
 have n4:(((h.add (.bk [E,L,P])).add (.bk [.ii a.x,.ii a.y,.ii a.z])).add (.bk [.nils,.nils,.nils])).next=h.next+3:=by simp only[H.next_add]
 simp(disch:=first|omega|simp only[nZ]<;>omega|fail)only[c144,go_sem,Zj]
 generalize(((h.add (.bk [E,L,P])).add (.bk [.ii a.x,.ii a.y,.ii a.z])).add (.bk [.nils,.nils,.nils]))=h4 at s4 q3 q4 q5 n4⊢
 have bad:∀h',h.Sub h'→∀e:Int,e≠0→VI t a=e→Q (.tup [.agg [.nils,.nils,.nils],.ii e]) h':=fun h' s e he e1=>by
  have q':=q .nils .nils .nils _ (by unfold addR;rw[e1,if_neg he];exact TbOwn.nil s)
  rw[e1] at q';exact q'
 refine(check_ev s4.wf (ht0.mono s4)).mono fun u h5 hu=>?_
 obtain⟨rfl,s45⟩:=hu
 have r5:=s45.get q5
 have l5:=s45.next
 by_cases c:check t=0
 case neg=>
  simp(disch:=first|omega|simp only[nZ]<;>omega|fail)only[go_sem,ne_eq,c,not_false_eq_true,r5]
  exact bad _ ((s4.trans s45).set ydd ydd hw _) _ c (by unfold VI;rw[if_pos c])
 have g:=Z5.1 c
 have s5:=s4.trans s45
 have hr:=XY (h:=h5) s5.wf a
 simp only[Zj] at hr
 simp(disch:=first|omega|simp only[nZ]<;>omega|fail)only[go_sem,ne_eq,c,not_true_eq_false,s45.cells q4]
 refine hr _ fun h7 s57=>?_
 have s47:=s45.trans s57
 have s7:=s4.trans s47
 have r7:=s47.get q5
 have l7:=s47.next
 have hlP:=aP.lenE
 have gp:=g.pieces
 cases ca:a.within 20
 ·simp(disch:=first|omega|simp only[nZ]<;>omega|fail)only[go_sem,Bool.not_false,r7]
  exact bad _ (s7.set ydd ydd hw _) 3 (by decide) (by unfold VI;rw[if_neg (by simp[c]),if_pos ca])
 by_cases c9:t.pieces.length=9
 ·have c9':decide ((t.pieces.length:Int)=9)=true:=by simp[c9]
  simp(disch:=first|omega|simp only[nZ]<;>omega|fail)only[go_sem,Bool.not_true,r7,s47.cells q3,hlP,c9',Zv]
  exact bad _ (s7.set ydd ydd hw _) 9 (by decide) (by unfold VI;rw[if_neg (by simp[c]),if_neg (by simp[ca]),if_pos c9])
 have e1:VI t a=0:=by unfold VI;rw[if_neg ydm,if_neg (by simp[ca]),if_neg c9]
 have er:addR t a=⟨t.eyes,t.lights,t.pieces++[a]⟩:=by unfold addR;rw[if_pos e1]
 have c9':decide ((t.pieces.length:Int)=9)=false:=by simp;omega
 have aP7:=aP.mono s7
 have hm:=fun hh=>a_msl_n1 (h:=hh) (by_:=24) (n:=t.pieces.length) (z:=[.ii 0,.ii 0,.ii 0]) ydd ydd
 have hc:=cpy_core (z:=[.ii 0,.ii 0,.ii 0]) aP7 s7.wf rfl (Wb (fun a=>rfl) t.pieces)
 rw[List.length_map] at hc
 have bP:(t.pieces.length:Int)+1=((t.pieces.length+1:Nat):Int):=by omega
 have sA:=(H.Sub.refl s7.wf).add (.bk (ZH (t.pieces.length+1) [.ii 0,.ii 0,.ii 0]))
 have sB:=(H.Sub.refl s7.wf).add (.bk ((t.pieces.map Zj).flatten++[.ii 0,.ii 0,.ii 0]))
 have oZ:ZG h7 (h7.add (.bk ((t.pieces.map Zj).flatten++[.ii 0,.ii 0,.ii 0]))) (.sl h7.next 0 t.pieces.length (.fix (t.pieces.length+1))) 3 (t.pieces.map Zj):=
  ⟨sB,by simp[Zj],.inr (.inr ⟨h7.next,t.pieces.length+1,[.ii 0,.ii 0,.ii 0],by simp,Nat.le_refl _,by rw[H.next_add];omega,Zn rfl,by simp only[List.length_map];simp only[List.length_cons,List.length_nil];omega,by simp⟩)⟩
 have r3:=s47.cells q3
 simp(disch:=first|omega|simp only[nZ]<;>omega|fail)only[go_sem,Bool.not_true,r7,r3,hlP,c9',Zv,Zc,hm,sA.cells r3,hc,sB.cells r3]
 have l8:(h7.add (.bk ((t.pieces.map Zj).flatten++[.ii 0,.ii 0,.ii 0]))).next=h7.next+1:=H.next_add _ _
 generalize(h7.add (.bk ((t.pieces.map Zj).flatten++[.ii 0,.ii 0,.ii 0])))=h8 at sB oZ l8⊢
 have s8:=s7.trans sB
 have gE:=g.eyes.2
 have gL:=g.lights.2
 refine cloneEye_ev s8.wf (aE.mono s8) ydc _ fun X h9 oX=>?_
 have s89:=oX.1
 have r9:=s89.cells (sB.cells r3)
 have r84:=(sB.trans s89).cells (s47.cells q4)
 simp(disch:=first|omega|simp only[nZ]<;>omega|fail)only[go_sem,sB.cells r3,r9,Zv]
 refine cloneLight_ev s89.wf (aL.mono (s8.trans s89)) ydc _ fun Y hA oY=>?_
 have s9A:=oY.1
 have r4A:=s9A.cells r84
 have r3A:=s9A.cells r9
 have sC:=(H.Sub.refl s9A.wf).add (.bk [.ii a.x,.ii a.y,.ii a.z])
 have own1:Zg (hA.add (.bk [.ii a.x,.ii a.y,.ii a.z])) (.sl hA.next 0 1 (.fix 1)) 3 [[.ii a.x,.ii a.y,.ii a.z]]:=Zg.new _ rfl rfl ydb ydb ydb
 simp(disch:=first|omega|simp only[nZ]<;>omega|fail)only[go_sem,sB.cells r3,r9,r3A,r4A,Zv]
 have oZA:=(oZ.mono (s89.trans s9A)).mono sC
 have hXZ:∀b,Zk X b→h8.next≤b:=fun b hb=>(oX.blk hb).1
 have hYZ:∀b,Zk Y b→h9.next≤b:=fun b hb=>(oY.blk hb).1
 have hXl:∀b,Zk X b→b<h9.next:=fun b hb=>(oX.blk hb).2.1
 have hYl:∀b,Zk Y b→b<hA.next:=fun b hb=>(oY.blk hb).2.1
 have lC:=sC.next
 have l9:=s89.next
 refine oZA.app1 (by_:=24) (r:=Zj a) s7.wf rfl ydd own1 rfl ydc ydc fun Z hB oZB hZ kB=>?_
 have sB7:=oZB.1
 have sHB:=s7.trans sB7
 have zo:∀b,Zk (.sl h7.next 0 t.pieces.length (.fix (t.pieces.length+1))) b→b=h7.next:=fun b ⟨_,_,_,e⟩=>by cases e;rfl
 have hZ':∀b,Zk Z b→b=h7.next∨hA.next+1≤b:=fun b hb=>(hZ b hb).imp (zo b) (fun h=>by rwa[H.next_add] at h)
 have x1:=oX.one
 have y1:=oY.one
 have z1:=oZB.one
 have rB:=sB7.get r7
 have lB:=sB7.wf _ _ rB
 have kF:=Zi.set hB (h.next+1+1) (.bk [X,Y,Z])
 have sF:=sHB.set (b:=h.next+1+1) ydd (by have:=sB7.next;omega) hw (.bk [X,Y,Z])
 have fX:=((((oX.base s8).mono s9A).mono sC).keep kB sHB fun b hb hz=>by have:=zo b hz;have:=hXZ b hb;omega).keep kF sF fun b hb hz=>by have:=hXZ b hb;omega
 have fY:=(((oY.base (s8.trans s89)).mono sC).keep kB sHB fun b hb hz=>by have:=zo b hz;have:=hYZ b hb;omega).keep kF sF fun b hb hz=>by have:=hYZ b hb;omega
 have fZ:=(oZB.base s7).keep kF sF fun b hb hz=>by have:=hZ' b hb;have:=s9A.next;omega
 have pm:(t.pieces++[a]).map Zj=t.pieces.map Zj++[Zj a]:=by simp
 have q':=q X Y Z _ (by rw[er];exact⟨fX,fY,by rw[pm];exact fZ,fun b hb hc=>by have:=hXl b hb;have:=hYZ b hc;omega,fun b hb hc=>by have:=hXl b hb;have:=hXZ b hb;have:=hZ' b hc;have:=s9A.next;omega,fun b hb hc=>by have:=hYl b hb;have:=hYZ b hb;have:=hZ' b hc;omega⟩)
 rw[e1] at q'
 simp(disch:=first|omega|simp only[nZ]<;>omega|fail)only[go_sem,sB.cells r3,r9,r3A,r4A,sC.cells r3A,sC.cells r4A,r84,sB.cells (s47.cells q4),Zv,cells_one x1,cells_one y1,cells_one z1,x1,y1,z1,rB]
 exact q'
end Tryz
end Go.Ab
namespace Go.Ab.Tryz
theorem YG {α:Type}{g:Nat→Option α}{p:Nat}{l:α}(h:g p=some l)(hno:∀q,q<p→g q=none):∀n,p<n→(List.range n).findSome? g=some l
 |0,h'=>by omega
 |n+1,h'=>by
  rw[List.range_succ,List.findSome?_append]
  by_cases e:p=n
  ·subst e
   have:(List.range p).findSome? g=none:=List.findSome?_eq_none_iff.2 fun x hx=>hno x (List.mem_range.1 hx)
   rw[this];simp[h]
  ·rw[YG h hno n ydd];rfl
theorem Vr {α:Type}{g:Nat→Option α}{n:Nat}(hno:∀q,q<n→g q=none):(List.range n).findSome? g=none:=List.findSome?_eq_none_iff.2 fun x hx=>hno x (List.mem_range.1 hx)
def Vg (n:Nat)(M:Nat→Nat→Bool)(to:Nat):Nat→List Nat→Nat→Option (List Nat)
 |0,pre,v=>if v=to then some (pre++[v]) else none
 |d+1,pre,v=>(List.range n).findSome? fun p=>if(M v p&& !((pre++[v]).any fun r=>decide (r=p)))=true then Vg n M to d (pre++[v]) p else none
theorem srch_walk {n:Nat}{M:Nat→Nat→Bool}{to:Nat}(sy:∀p q,M p q=M q p):∀{d pre v l},v<n→Vg n M to d pre v=some l→Wk n M d to v
 |0,pre,v,l,hv,h=>by
  unfold Vg at h
  split at h
  ·rename_i e;exact e.symm
  ·cases h
 |d+1,pre,v,l,hv,h=>by
  unfold Vg at h
  obtain⟨p,hp,h1⟩:=List.exists_of_findSome?_eq_some h
  split at h1
  ·rename_i hc
   have hpn:=List.mem_range.1 hp
   have:=srch_walk sy hpn h1
   simp only[Bool.and_eq_true] at hc
   exact⟨p,hpn,this,by rw[sy];exact hc.1⟩
  ·cases h1
theorem srch_grd {n:Nat}{M:Nat→Nat→Bool}{to:Nat}{f:Nat→Option Nat}(sy:∀p q,M p q=M q p)(D:IsD n M to f):∀{d pre v},f v=some d→(∀u∈pre,∀k,f u=some k→d<k)→Vg n M to d pre v=some (pre++[v]++grd n M f d v)
 |0,pre,v,h,hp=>by
  have e:=D.zero v h
  unfold Vg
  rw[if_pos e];simp[grd]
 |d+1,pre,v,h,hpre=>by
  obtain⟨q0,hq0,hq1,hq2⟩:=D.step v d h
  obtain⟨p,hp,hno⟩:=least (P:=fun p=>p<n∧f p=some d∧M v p=true) ⟨q0,hq0,hq1,by rw[sy];exact hq2⟩
  have hg:grd n M f (d+1) v=p::grd n M f d p:=by
   have hf:=find_first (n:=n) (P:=fun p=>decide (f p=some d)&&M v p) hp.1 (by simp[hp.2.1,hp.2.2]) fun q hq=>by
    cases hc:(decide (f q=some d)&&M v q) with
    |false=>rfl
    |true=>
     simp only[Bool.and_eq_true,decide_eq_true_eq] at hc
     have:=hno q ⟨by have:=hp.1;omega,hc.1,hc.2⟩
     omega
   simp only[grd,hf]
  have hih:∀u∈pre++[v],∀k,f u=some k→d<k:=fun u hu k hk=>by
   rcases List.mem_append.1 hu with hu|hu
   ·have:=hpre u hu k hk;omega
   ·rw[List.mem_singleton] at hu;subst hu;rw[h] at hk;cases hk;omega
  unfold Vg
  rw[hg]
  refine YG (p:=p) ?_ (fun q hq=>?_) n hp.1
  ·have hn:((pre++[v]).any fun r=>decide (r=p))=false:=by
    rw[List.any_eq_false]
    intro r hr
    simp only[decide_eq_true_eq]
    intro e;subst e
    have:=hih r hr d hp.2.1;omega
   have hi:=srch_grd sy D hp.2.1 hih
   rw[hn,hp.2.2,hi]
   simp
  ·skip
   split
   ·rename_i hc
    simp only[Bool.and_eq_true] at hc
    cases hs:Vg n M to d (pre++[v]) q with
    |none=>rfl
    |some l=>
     have hqn:q<n:=by have:=hp.1;omega
     obtain⟨j,e,hj⟩:=D.le d q hqn (srch_walk sy hqn hs)
     obtain⟨i,e2,hi⟩:=D.close v q j (D.lt v _ h) e (by rw[sy];exact hc.1)
     rw[h] at e2;cases e2
     have hjd:j=d:=by omega
     subst hjd
     have:=hno q ⟨hqn,e,hc.1⟩
     omega
   ·rfl
theorem hasR_ev {l:List Int}{h:H}{x:V}(hw:h.wf)(hx:Zg h x 1 (l.map encI))(e:Int)(Q:V→H→Prop)(q:∀h',h.Sub h'→Q (.bool (l.any fun r=>decide (r=e))) h'):
  Ev fnG Zm (.fn 73 [] []) [x,.ii e] h Q:=by
 have hb:=hx.boundE
 refine Zd (fd:=c73) rfl rfl rfl ?_
 have lx:=hx.lenE
 simp(disch:=omega)only[c73,go_sem]
 refine Zh l.length (fun i s=>∃tm h',s=⟨tm,h',[]⟩∧h.Sub h'∧(∀j (hj:j<l.length),j<i→l[j]≠e)∧tm.E 0=x∧tm.E 1=.ii e∧tm.E 5=.ii (i:Int))
  ?_ ?_ (i:=0) (Nat.zero_le _) ⟨_,_,rfl,H.Sub.refl hw,fun j hj h0=>by omega,ydb,ydb,ydb⟩
 ·rintro i s hi ⟨tm,h',rfl,hs,hno,e0,e1,e5⟩
  have hi':(i:Int)<(l.length:Int):=by omega
  obtain⟨b,o,c,cs,ex,hc,hq,hg,hn,hn0⟩:=(hx.mono hs).at hi
  have hv:=hn0 ydd
  simp only[encI] at hv
  by_cases hpr:l[i]=e
  ·have hd:decide (l[i]=e)=true:=decide_eq_true hpr
   have ht:(l.any fun r=>decide (r=e))=true:=List.any_eq_true.2 ⟨_,List.getElem_mem hi,hd⟩
   rw[ht] at q
   simp(disch:=omega)only[go_sem,e0,e1,e5,lx,hi',hq (Ze i),hc,hv,hd]
   exact q _ hs
  ·have hd:decide (l[i]=e)=false:=decide_eq_false hpr
   simp(disch:=omega)only[go_sem,e0,e1,e5,lx,hi',hq (Ze i),hc,hv,hd,Zc]
   exact⟨_,_,rfl,hs,fun j hj h0=>by
    by_cases e:j=i
    ·subst e;exact hpr
    ·exact hno j hj ydd,(by simp[e0]),(by simp[e1]),ydb⟩
 ·rintro s ⟨tm,h',rfl,hs,hno,e0,e1,e5⟩
  have hf:(l.any fun r=>decide (r=e))=false:=by
   rw[List.any_eq_false]
   intro r hr
   obtain⟨j,hj,rfl⟩:=List.getElem_of_mem hr
   simpa using hno j hj hj
  rw[hf] at q
  simp(disch:=omega)only[go_sem,e0,e1,e5,lx,Int.lt_irrefl]
  exact q _ hs
end Go.Ab.Tryz
namespace Go.Ab.Tryz
def pthE (l:List Nat):List (List V):=l.map fun(j:Nat)=>encI (j:Int)
def ChOut (h':H)(u:V)(r:Option (List Nat)):Prop:=match r with
 |none=>u=.nils
 |some l=>(∃b o m c,u=.sl b o m c)∧Zg h' u 1 (pthE l)
theorem pth_int (l:List Nat):pthE l=(l.map fun(j:Nat)=>(j:Int)).map encI:=by simp[pthE]
theorem any_int (l:List Nat)(p:Nat):((l.map fun(j:Nat)=>(j:Int)).any fun r=>decide (r=(p:Int)))=l.any fun r=>decide (r=p):=by
 rw[List.any_map]
 congr 1
 funext r
 simp only[Function.comp]
 rw[Bool.eq_iff_iff];simp only[decide_eq_true_eq];omega
set_option maxHeartbeats 4000000 in
theorem chain_ev {t:Tb}(g:Good t){to:Nat}:∀(d:Nat) {h0 h:H} {x y:V} {pre:List Nat} {v:Nat} (hw:h.wf) (hx:ZQ h0 h x (mats t t.pieces.length)) (hy:Zg h y 1 (pthE (pre++[v]))) (hv:v<t.pieces.length) (hl:pre.length+d≤20) (Q:V→H→Prop)
  (q:∀u h',h.Sub h'→ChOut h' u (Vg t.pieces.length (MM t) to d pre v)→Q u h'),Ev fnG Zm (.fn 175 [] []) [x,y,.ii (d:Int),.ii (to:Int)] h Q
 |d,h0,h,x,y,pre,v,hw,hx,hy,hv,hl,Q,q=>by
  have gp:=g.pieces
  refine Zd (fd:=c175) rfl rfl rfl ?_
  have hll:(pre++[v]).length=pre.length+1:=by simp
  have hy':Zg h y 1 ((pre++[v]).map fun(j:Nat)=>encI (j:Int)):=hy
  have leny:=hy'.lenE
  obtain⟨b,o,cc,cs,ex,hcc,hqq,_,_,hn0⟩:=hy'.at (k:=pre.length) ydd
  have hv0:=hn0 ydd
  have hve:(pre++[v])[pre.length]=v:=by simp
  rw[hve] at hv0
  simp only[encI] at hv0
  have ei:(((pre++[v]).length:Int)-1)=(pre.length:Int):=by omega
  have hqi:=hqq (Ze pre.length)
  simp only[Nat.mul_one] at hqi hv0
  have hyl:∃b o m c,y=.sl b o m c:=⟨_,_,_,_,ex⟩
  match d,hl,q with
  |0,hl,q=>
   have hz0:decide (((0:Nat):Int)=0)=true:=rfl
   by_cases hvt:v=to
   ·have hd:decide ((v:Int)=(to:Int))=true:=by simp[hvt]
    have hr:Vg t.pieces.length (MM t) to 0 pre v=some (pre++[v]):=by unfold Vg;rw[if_pos hvt]
    simp(disch:=omega)only[c175,go_sem,leny,ZC,ei,hqi,hcc,hv0,hd,hz0]
    exact q y h (H.Sub.refl hw) (by rw[hr];exact⟨hyl,hy⟩)
   ·have hd:decide ((v:Int)=(to:Int))=false:=by simp;omega
    have hr:Vg t.pieces.length (MM t) to 0 pre v=none:=by unfold Vg;rw[if_neg hvt]
    simp(disch:=omega)only[c175,go_sem,leny,ZC,ei,hqi,hcc,hv0,hd,hz0]
    exact q .nils h (H.Sub.refl hw) (by rw[hr];exact rfl)
  |d+1,hl,q=>
   have hdz:¬((d+1:Nat):Int)=0:=by omega
   have hld:((d+1:Nat):Int)-1=(d:Int):=by omega
   simp(disch:=omega)only[c175,go_sem,leny,ZC,ei,hqi,hcc,hv0,hdz]
   refine Zh t.pieces.length (fun p s=>∃tm h',s=⟨tm,h',[]⟩∧h.Sub h'∧(∀p',p'<p→(if(MM t v p'&& !((pre++[v]).any fun r=>decide (r=p')))=true then Vg t.pieces.length (MM t) to d (pre++[v]) p' else none)=none)∧
     tm.E 0=x∧tm.E 1=y∧tm.E 2=.ii ((d+1:Nat):Int)∧tm.E 3=.ii (to:Int)∧tm.E 9=.ii (v:Int)∧tm.E 10=.ii (p:Int))
    ?_ ?_ (i:=0) (Nat.zero_le _) ⟨_,_,rfl,H.Sub.refl hw,fun p' h0=>by omega,yde,yde,yde,yde,yde,yde⟩
   ·rintro p s hp ⟨tm,h',rfl,hs,hno,t0,t1,t2,t3,t9,t10⟩
    have hp':(p:Int)<(t.pieces.length:Int):=by omega
    obtain⟨b1,o1,cs1,row,b2,o2,cs2,m1,m2,m3,m4,m5,m6,m7⟩:=mats_at gp (hx.mono hs) hv hp
    have nxt:∀p',p'<p+1→(if(MM t v p&& !((pre++[v]).any fun r=>decide (r=p)))=true then Vg t.pieces.length (MM t) to d (pre++[v]) p else none)=none→(if(MM t v p'&& !((pre++[v]).any fun r=>decide (r=p')))=true then Vg t.pieces.length (MM t) to d (pre++[v]) p' else none)=none:=fun p' h1 h2=>by
     by_cases e:p'=p
     ·subst e;exact h2
     ·exact hno p' ydd
    cases hM:MM t v p with
    |false=>
     rw[hM] at m6
     simp(disch:=omega)only[go_sem,t0,t1,t2,t3,t9,t10,m7,hp',m1,m2,m3,m4,m5,m6,Zc]
     exact⟨_,_,rfl,hs,fun p' h1=>nxt p' h1 (by rw[hM];simp),(by simp[t0]<;>rfl),ydi,(by simp[t2]<;>rfl),ydj,(by simp[t9]<;>rfl),yde⟩
    |true=>
     rw[hM] at m6
     simp(disch:=omega)only[go_sem,t0,t1,t2,t3,t9,t10,m7,hp',m1,m2,m3,m4,m5,m6]
     refine hasR_ev hs.wf (by rw[←pth_int];exact hy.mono hs) (p:Int) _ fun h2 s2=>?_
     rw[any_int]
     have hs2:=hs.trans s2
     cases hh:(pre++[v]).any fun r=>decide (r=p) with
     |true=>
      simp(disch:=omega)only[go_sem,t0,t1,t2,t3,t9,t10,Bool.not_true,Zc]
      exact⟨_,_,rfl,hs2,fun p' h1=>nxt p' h1 (by rw[hM,hh];simp),(by simp[t0]<;>rfl),ydi,(by simp[t2]<;>rfl),ydj,(by simp[t9]<;>rfl),yde⟩
     |false=>
      simp(disch:=omega)only[go_sem,t0,t1,t2,t3,t9,t10,Bool.not_false]
      refine V1 (by_:=8) hs2.wf (hy.mono hs2) ydl ydl fun w h3 ow=>?_
      have s3:=ow.1
      have sC:=(H.Sub.refl s3.wf).add (.bk [.ii (p:Int)])
      simp(disch:=omega)only[go_sem,t0,t1,t2,t3,t9,t10]
      refine(ow.mono sC).app1 (by_:=8) (r:=encI (p:Int)) hs2.wf rfl ydd Ye rfl ydl ydl fun w' h4 o4 _ k4=>?_
      have s4:=hs2.trans o4.1
      have ep:pthE (pre++[v])++[encI (p:Int)]=pthE ((pre++[v])++[p]):=by simp[pthE]
      rw[ep] at o4
      have hy4:=o4.sl ydl
      simp(disch:=omega)only[go_sem,t0,t1,t2,t3,t9,t10,ZC,hld]
      refine chain_ev g d s4.wf (hx.mono s4) hy4 hp (by simp;omega) _ fun u h5 s5 hu=>?_
      have hs5:=s4.trans s5
      cases hr:Vg t.pieces.length (MM t) to d (pre++[v]) p with
      |none=>
       rw[hr] at hu
       have hu:u=.nils:=hu
       subst hu
       simp(disch:=omega)only[go_sem,t0,t1,t2,t3,t9,t10,Zc]
       exact⟨_,_,rfl,hs5,fun p' h1=>nxt p' h1 (by rw[hr];simp),(by simp[t0]<;>rfl),ydi,(by simp[t2]<;>rfl),ydj,(by simp[t9]<;>rfl),yde⟩
      |some l=>
       rw[hr] at hu
       obtain⟨⟨b5,o5,m5',c5,rfl⟩,hu⟩:=hu
       simp(disch:=omega)only[go_sem,t0,t1,t2,t3,t9,t10]
       have hfin:Vg t.pieces.length (MM t) to (d+1) pre v=some l:=by
        unfold Vg
        refine YG (p:=p) ?_ hno _ hp
        rw[hM,hh,hr];simp
       exact q _ _ hs5 (by rw[hfin];exact⟨⟨_,_,_,_,rfl⟩,hu⟩)
   ·rintro s ⟨tm,h',rfl,hs,hno,t0,t1,t2,t3,t9,t10⟩
    have hfin:Vg t.pieces.length (MM t) to (d+1) pre v=none:=by
     unfold Vg;exact Vr hno
    obtain⟨b1,o1,cs1,row,b2,o2,cs2,m1,m2,m3,m4,m5,m6,m7⟩:=mats_at gp (hx.mono hs) hv hv
    simp(disch:=omega)only[go_sem,t0,t1,t2,t3,t9,t10,m7,Int.lt_irrefl]
    exact q .nils _ hs (by rw[hfin];exact rfl)
 termination_by d=>d
theorem stp_at {t:Tb}{h0 h:H}{x:V}{s j:Nat}(gp:t.pieces.length≤9)(a:ZG h0 h x 1 (((List.range t.pieces.length).map (dstI t s)).map encI))(hj:j<t.pieces.length):
  ∃b o cs,ZS 1 x (.ii (j:Int))=some (.ptr b o)∧h.cells b=some cs∧nth o cs=some (.ii (dstI t s j))∧q_len x=some (.ii (t.pieces.length:Int)):=by
 have sx:=a.sl (by simp;omega)
 obtain⟨b,o,c,cs,e1,e2,e3,_,_,e4⟩:=sx.at (k:=j) (by simp;exact hj)
 have e5:=e4 ydd
 have hl:=sx.lenE
 simp only[List.length_map,List.length_range] at hl
 exact⟨b,o+j*1,cs,e3 (Ze j),e2,by rw[e5];simp[encI],hl⟩
def rChain (t:Tb)(p r:Nat)(l:List Nat)(ok:Bool):Prop:=(dst t p r=none∧ok=false∧l=[])∨∃k,dst t p r=some k∧ok=true∧l=p::grd t.pieces.length (MM t) (dst t r) k p
set_option maxHeartbeats 2000000 in
theorem rChain_ev {h:H}{v:V}{t:Tb}(hw:h.wf)(ht:ZK h v t)(g:Good t){p r:Nat}(hp:p<t.pieces.length)(hr:r<t.pieces.length)(Q:V→H→Prop)
  (q:∀l ok x h',h.Sub h'→rChain t p r l ok→Zg h' x 1 (pthE l)→Q (.tup [x,.bool ok]) h'):Ev fnG Zm (.fn 150 [] []) [v,.ii (p:Int),.ii (r:Int)] h Q:=by
 have ht0:=ht
 obtain⟨E,L,P,rfl,aE,aL,aP⟩:=ht
 have gp:=g.pieces
 refine Zd (fd:=c150) rfl rfl rfl ?_
 have s1:h.Sub (h.add (.bk [E,L,P])):=yda
 have g1:(h.add (.bk [E,L,P])).cells h.next=some [E,L,P]:=Zf rfl
 simp(disch:=omega)only[c150,go_sem]
 refine Steps_ev s1.wf (ht0.mono s1) g hp _ fun x h2 ox=>?_
 obtain⟨b,o,cs,m1,m2,m3,_⟩:=stp_at gp ox hr
 have s2:=s1.trans ox.1
 cases hd:dst t p r with
 |none=>
  have hI:dstI t p r= -1:=by unfold dstI;rw[hd]
  rw[hI] at m3
  have hn:decide ((-1:Int)<0)=true:=rfl
  simp(disch:=omega)only[go_sem,m1,m2,m3,hn]
  exact q [] false .nils _ s2 (.inl ⟨hd,rfl,rfl⟩) ((Zq.nil s2 1).sl ydb)
 |some k=>
  have hI:dstI t p r=(k:Int):=by unfold dstI;rw[hd]
  rw[hI] at m3
  have hn:¬(k:Int)<0:=by omega
  have hk:=(Y2 hp).bd hd
  simp(disch:=omega)only[go_sem,m1,m2,m3,hn,ox.1.cells g1]
  refine WX s2.wf (ht0.mono s2) g _ fun y h3 oy=>?_
  have s3:h2.Sub h3:=by obtain⟨_,a1,_⟩:=oy;exact a1.1
  have sC:=(H.Sub.refl s3.wf).add (.bk [.ii (p:Int)])
  simp(disch:=omega)only[go_sem]
  refine chain_ev (pre:=[]) (v:=p) g k sC.wf (oy.mono sC) (by exact Ye) hp (by show 0+k≤20;omega) _ fun u h4 s4 hu=>?_
  have hrp:dst t r p=some k:=by rw[dst_comm g hr hp];exact hd
  rw[srch_grd (MM_comm g) (Y2 hr) hrp (fun u hu=>by cases hu)] at hu
  simp(disch:=omega)only[go_sem]
  exact q (p::grd t.pieces.length (MM t) (dst t r) k p) true u _ (s2.trans (s3.trans (sC.trans s4))) (.inr ⟨k,hd,rfl,rfl⟩) (by exact hu.2)
theorem memK_head {t:Tb}(g:Good t){p:Nat}(hp:p<t.pieces.length):∃c l,Xd t p t.pieces.length=c::l∧(c=(p:Int)↔before t p=false):=by
 have key:∀n,n≤t.pieces.length→p<n→∃(c:Nat) (l:List Int),Xd t p n=(c:Int)::l∧c≤p∧rch t p c=true∧∀j,j<c→rch t p j=false:=fun n=>by
  have base:∀n,(∀j,j<n→rch t p j=false)→Xd t p n=[]:=fun n=>by
   induction n with
   |zero=>intro _;rfl
   |succ n ih=>intro h;simp[Xd,ih (fun j hj=>h j ydd),h n ydd]
  induction n with
  |zero=>intro _ h;omega
  |succ n ih=>
   intro hn hpn
   by_cases hall:∀j,j<n→rch t p j=false
   ·have hr:rch t p n=true:=by
     by_cases e:p=n
     ·subst e;exact rch_refl t p
     ·have:=hall p ydd;rw[rch_refl] at this;cases this
    refine⟨n,[],by simp[Xd,base n hall,hr],?_,hr,hall⟩
    by_cases e:p=n
    ·omega
    ·have:=hall p ydd;rw[rch_refl] at this;cases this
   ·obtain⟨c,hc,hmin⟩:=least (P:=fun j=>j<n∧rch t p j=true) (by
     rcases Classical.not_forall.1 hall with⟨j,hj⟩
     rcases Classical.not_imp.1 hj with⟨h1,h2⟩
     exact⟨j,h1,by simpa using h2⟩)
    have hd:∀m,c<m→∃l,Xd t p m=(c:Int)::l:=fun m=>by
     induction m with
     |zero=>intro h;omega
     |succ m ihm=>
      intro hm
      by_cases e:c<m
      ·obtain⟨l,hl⟩:=ihm e
       exact⟨l++if rch t p m=true then[(m:Int)] else[],by simp only[Xd,hl,List.cons_append]⟩
      ·have e:c=m:=by omega
       subst e
       exact⟨[],by simp[Xd,base c (fun j hj=>by
        cases hjr:rch t p j with
        |false=>rfl
        |true=>have:=hmin j ⟨by have:=hc.1;omega,hjr⟩;omega),hc.2]⟩
    obtain⟨l,hl⟩:=hd (n+1) (by have:=hc.1;omega)
    refine⟨c,l,hl,?_,hc.2,fun j hj=>?_⟩
    ·by_cases hpn2:p<n
     ·exact hmin p ⟨hpn2,rch_refl t p⟩
     ·have:=hc.1;omega
    ·cases hjr:rch t p j with
     |false=>rfl
     |true=>have:=hmin j ⟨by have:=hc.1;omega,hjr⟩;omega
 obtain⟨c,l,h1,h2,h3,h4⟩:=key t.pieces.length (Nat.le_refl _) hp
 refine⟨(c:Int),l,h1,?_⟩
 constructor
 ·intro e
  have e:c=p:=by omega
  subst e
  unfold before
  rw[List.any_eq_false]
  intro j hj
  have hj:=List.mem_range.1 hj
  have hjn:j<t.pieces.length:=by omega
  have h5:=h4 j hj
  intro h6
  have:=rch_symm g hp h6
  rw[this] at h5;cases h5
 ·intro hb
  by_cases e:c=p
  ·rw[e]
  ·have hc:c<p:=by omega
   have:before t p=true:=List.any_eq_true.2 ⟨c,List.mem_range.2 hc,rch_symm g ydd h3⟩
   rw[this] at hb;cases hb
set_option maxHeartbeats 4000000 in
theorem rKin_ev {h:H}{v:V}{t:Tb}(hw:h.wf)(ht:ZK h v t)(g:Good t)(Q:V→H→Prop)(q:∀x h',ZQ h h' x ((W0 t t.pieces.length).map fun l=>l.map encI)→Q x h'):
  Ev fnG Zm (.fn 149 [] []) [v] h Q:=by
 have ht0:=ht
 obtain⟨E,L,P,rfl,aE,aL,aP⟩:=ht
 have gp:=g.pieces
 have hlP:=aP.lenE
 refine Zd (fd:=c149) rfl rfl rfl ?_
 have s1:h.Sub (h.add (.bk [E,L,P])):=yda
 have g1:(h.add (.bk [E,L,P])).cells h.next=some [E,L,P]:=Zf rfl
 simp(disch:=omega)only[c149,go_sem]
 generalize h.add (.bk [E,L,P])=h5 at s1 g1⊢
 refine Zh t.pieces.length (fun c s=>∃tm hh y,s=⟨tm,hh,[]⟩∧h5.Sub hh∧ZQ h5 hh y ((W0 t c).map fun l=>l.map encI)∧tm.E 1=.ptr h.next 0∧tm.E 3=y∧tm.E 4=.ii (c:Int))
  ?_ ?_ (i:=0) (Nat.zero_le _) ⟨_,_,.nils,rfl,H.Sub.refl s1.wf,ZQ.nil (H.Sub.refl s1.wf),yde,yde,yde⟩
 ·rintro c s hc ⟨tm,hh,y,rfl,sh,oy,t1,t3,t4⟩
  have hc':(c:Int)<(t.pieces.length:Int):=by omega
  have hkl:=kinK_len t c
  simp(disch:=omega)only[go_sem,t1,t3,t4,hc',sh.cells g1,hlP]
  refine Steps_ev sh.wf (ht0.mono (s1.trans sh)) g hc _ fun x h7 ox=>?_
  have s7:=ox.1
  have o7:=oy.mono s7
  have sh7:=sh.trans s7
  obtain⟨_,_,_,_,_,_,lx⟩:=stp_at gp ox hc
  simp(disch:=omega)only[go_sem,t1,t3,t4]
  refine W.mono (Q:=fun x1 s=>x1=.ext 2∧∃tm hz z,s=⟨tm,hz,[]⟩∧Zq h7 hz z 1 ((Xd t c t.pieces.length).map encI)∧tm.E 1=.ptr h.next 0∧tm.E 3=y∧tm.E 4=.ii (c:Int)∧tm.E 6=z)
   (Zh t.pieces.length (fun k s=>∃tm hz z,s=⟨tm,hz,[]⟩∧Zq h7 hz z 1 ((Xd t c k).map encI)∧tm.E 1=.ptr h.next 0∧tm.E 3=y∧tm.E 4=.ii (c:Int)∧tm.E 5=x∧tm.E 6=z∧tm.E 7=.ii (k:Int))
   ?_ ?_ (i:=0) (Nat.zero_le _) ⟨_,_,.nils,rfl,Zq.nil (H.Sub.refl s7.wf) 1,ydi,ydj,(by simp[t4]<;>rfl),yde,yde,yde⟩) fun x1 s hx1=>?_
  ·rintro k s hk ⟨tm,hz,z,rfl,oz,t1,t3,t4,t5,t6,t7⟩
   have hk':(k:Int)<(t.pieces.length:Int):=by omega
   obtain⟨b,o,cs,m1,m2,m3,_⟩:=stp_at gp (ox.mono oz.1) hk
   have hr:=(Y2 hc).rch hk
   have hml:=Vt t c k
   cases hd:dst t c k with
   |none=>
    rw[hd] at hr
    have hr:rch t c k=false:=hr.symm
    have hI:dstI t c k= -1:=by unfold dstI;rw[hd]
    rw[hI] at m3
    have hn:¬(0:Int)≤ -1:=by omega
    simp(disch:=omega)only[go_sem,t1,t3,t4,t5,t6,t7,lx,hk',m1,m2,m3,hn,Zc]
    exact⟨_,_,z,rfl,by simpa[Xd,hr] using oz,ydi,ydj,(by simp[t4]<;>rfl),(by simp[t5]<;>rfl),(by simp[t6]<;>rfl),yde⟩
   |some kk=>
    rw[hd] at hr
    have hr:rch t c k=true:=hr.symm
    have hI:dstI t c k=(kk:Int):=by unfold dstI;rw[hd]
    rw[hI] at m3
    have hn:(0:Int)≤(kk:Int):=by omega
    have sC:=(H.Sub.refl oz.1.wf).add (.bk [.ii (k:Int)])
    simp(disch:=omega)only[go_sem,t1,t3,t4,t5,t6,t7,lx,hk',m1,m2,m3,hn]
    refine(oz.mono sC).app1 (by_:=8) (r:=encI (k:Int)) s7.wf rfl ydd Ye rfl ydc ydc fun h9 o9 k9 n9=>?_
    simp(disch:=omega)only[go_sem,t1,t3,t4,t5,t6,t7,Zc]
    refine⟨_,_,_,rfl,?_,ydi,ydj,(by simp[t4]<;>rfl),(by simp[t5]<;>rfl),yde,yde⟩
    have e:(Xd t c (k+1)).map encI=(Xd t c k).map encI++[encI (k:Int)]:=by simp[Xd,hr]
    rw[H.next_add,List.length_map] at o9
    rw[e];exact o9
  ·rintro s ⟨tm,hz,z,rfl,oz,t1,t3,t4,t5,t6,t7⟩
   simp(disch:=omega)only[go_sem,t1,t3,t4,t5,t6,t7,lx,Int.lt_irrefl]
   exact⟨_,_,z,rfl,oz,ydi,ydj,(by simp[t4]<;>rfl),(by simp[t6]<;>rfl)⟩
  obtain⟨rfl,tm,hz,z,rfl,oz,t1,t3,t4,t6⟩:=hx1
  have s8:=oz.1
  have hml:=Vt t c t.pieces.length
  have slz:=oz.sl ydc
  obtain⟨c0,l0,hm0,hm1⟩:=memK_head g hc
  have hm3:(Xd t c t.pieces.length)[0]? =some c0:=by rw[hm0];rfl
  have hm4:0<(Xd t c t.pieces.length).length:=by rw[hm0];simp
  obtain⟨b,o,cc,cs,ex,m2,m1,_,_,m4⟩:=slz.at (k:=0) hm4
  have m3:=m4 ydd
  have e0:(Xd t c t.pieces.length)[0]=c0:=by
   rw[List.getElem?_eq_getElem hm4] at hm3;exact Option.some.inj hm3
  rw[e0] at m3
  simp only[encI] at m3
  have m3:nth o cs=some (.ii c0):=by simpa using m3
  have hz0:nat? (.ii 0)=some 0:=rfl
  cases hbf:before t c with
  |true=>
   have hne:decide (c0=(c:Int))=false:=by
    rw[decide_eq_false_iff_not];intro e;have:=hm1.1 e;rw[hbf] at this;cases this
   simp(disch:=omega)only[go_sem,t1,t3,t4,t6,m1 hz0,m2,m3,hne,Zc]
   exact⟨_,_,y,rfl,sh7.trans s8,by simpa[W0,hbf] using o7.mono s8,ydi,ydj,yde⟩
  |false=>
   have heq:decide (c0=(c:Int))=true:=decide_eq_true (hm1.2 hbf)
   have oz1:=ZG.one oz.c
   have sC:=(H.Sub.refl s8.wf).add (.bk [z])
   have own1:Zg (hz.add (.bk [z])) (.sl hz.next 0 1 (.fix 1)) 1 [[z]]:=Zg.new _ rfl rfl ydb ydb ydb
   have dvz:∀b,Zk z b→¬Zk y b:=fun b hb hy=>by
    have h1:=(oz.blk hb).1
    obtain⟨xs,a1,_⟩:=o7
    have h2:=(a1.blk hy).2.1
    omega
   simp(disch:=omega)only[go_sem,t1,t3,t4,t6,m1 hz0,m2,m3,heq,oz1,cells_one oz1]
   refine((o7.mono s8).mono sC).push s1.wf ydc ((oz.c.base sh7).mono sC) dvz own1 fun y' h9 o9 k9=>?_
   have sh9:h5.Sub h9:=by
    obtain⟨_,a1,_⟩:=o9
    exact a1.1
   simp(disch:=omega)only[go_sem,t1,t3,t4,t6,Zc]
   exact⟨_,_,y',rfl,sh9,by simpa[W0,hbf] using o9,ydi,yde,yde⟩
 ·rintro s ⟨tm,hh,y,rfl,sh,oy,t1,t3,t4⟩
  simp(disch:=omega)only[go_sem,t1,t3,t4,sh.cells g1,hlP,Int.lt_irrefl]
  exact q y _ (oy.base s1)
end Go.Ab.Tryz
namespace Go.Ab
namespace Tryz
end Tryz
end Go.Ab
namespace Go.Ab.Tryz
def Yc (t:Tb)(a b:Sd):Nat→List Int
 |0=>[]
 |n+1=>Yc t a b n++if ZO t n a b=true then[(n:Int)] else[]
theorem tellK_len (t:Tb)(a b:Sd):∀n,(Yc t a b n).length≤n
 |0=>Nat.le_refl _
 |n+1=>by
  have:=tellK_len t a b n
  simp only[Yc,List.length_append]
  split<;>simp<;>omega
theorem tellK_nil {t:Tb}{a b:Sd}:∀{n},Yc t a b n=[]↔∀i,i<n→ZO t i a b=false
 |0=>by simp[Yc]
 |n+1=>by
  have ih:=tellK_nil (t:=t) (a:=a) (b:=b) (n:=n)
  simp only[Yc,List.append_eq_nil_iff,ih]
  constructor
  ·rintro⟨h1,h2⟩ m hm
   by_cases e:m=n
   ·subst e
    cases hc:ZO t m a b
    ·rfl
    ·rw[hc] at h2;simp at h2
   ·exact h1 m ydd
  ·intro hh
   exact⟨fun m hm=>hh m ydd,by rw[hh n ydd];rfl⟩
end Go.Ab.Tryz
namespace Go.Ab
namespace Tryz
section
variable {h0 h h' h1:H} {p:Nat} {x X Y Z:V} {t:Tb} {T T1:Int}
end
end Tryz
end Go.Ab
namespace Go.Ab.Tryz
end Go.Ab.Tryz
namespace Go.Ab.Tryz
theorem ChainR_uniq {t:Tb}{p r:Int}{l l':List Int}{e e':Int}(a:ChainR t p r l e)(b:ChainR t p r l' e'):l=l'∧e=e':=by
 rcases a with⟨a1,a2,a3⟩|⟨a1,a2,a3,a4⟩|⟨a1,a2,a3,f,a4,a5⟩<;>rcases b with⟨b1,b2,b3⟩|⟨b1,b2,b3,b4⟩|⟨b1,b2,b3,f',b4,b5⟩
 ·exact⟨by rw[a3,b3],by rw[a2,b2]⟩
 ·exact absurd b1 a1
 ·exact absurd b1 a1
 ·exact absurd a1 b1
 ·exact⟨by rw[a4,b4],by rw[a3,b3]⟩
 ·rcases a2 with h|h
  ·rw[b2] at h;cases h
  ·rw[b3] at h;cases h
 ·exact absurd a1 b1
 ·rcases b2 with h|h
  ·rw[a2] at h;cases h
  ·rw[a3] at h;cases h
 ·have ef:f=f':=funext fun q=>a4.uniq b4 q
  subst ef
  rcases a5 with⟨c1,c2,c3⟩|⟨k,c1,c2,c3⟩<;>rcases b5 with⟨d1,d2,d3⟩|⟨k',d1,d2,d3⟩
  ·exact⟨by rw[c3,d3],by rw[c2,d2]⟩
  ·rw[c1] at d1;cases d1
  ·rw[c1] at d1;cases d1
  ·rw[c1] at d1;cases d1
   exact⟨by rw[c3,d3],by rw[c2,d2]⟩
set_option maxHeartbeats 2000000 in
theorem eqRows_ev {h0 h0' h:H}{x y:V}{ls:List (List Int)}(hw:h.wf)(hx:ZQ h0 h x (ls.map fun l=>l.map encI))(hy:ZQ h0' h y (ls.map fun l=>l.map encI))(hl:ls.length≤1000)(hll:∀l∈ls,l.length≤1000)(Q:V→H→Prop)(q:∀h',h.Sub h'→Q (.bool true) h'):
  Ev fnG Zm (.fn 24 [] []) [x,y] h Q:=by
 obtain⟨xs,a1,a2,a3⟩:=hx
 obtain⟨ys,b1,b2,b3⟩:=hy
 rw[List.length_map] at a2 b2
 have sx:=a1.sl ydc
 have sy:=b1.sl ydc
 have lx:=sx.lenE
 have ly:=sy.lenE
 rw[a2] at lx
 rw[b2] at ly
 refine Zd (fd:=c24) rfl rfl rfl ?_
 simp(disch:=omega)only[c24,go_sem]
 refine Zd (fd:=c90) rfl rfl rfl ?_
 have nn:∀n:Int,decide (n≠n)=false:=fun n=>by simp
 simp(disch:=omega)only[c90,go_sem,lx,ly,nn]
 refine Zh ls.length (fun i s=>∃tm h',s=⟨tm,h',[]⟩∧h.Sub h'∧tm.E 0=x∧tm.E 1=y∧tm.E 2=.fn 86 [] []∧tm.E 15=x∧tm.E 16=.ii (ls.length:Int)∧tm.E 17=.ii (i:Int))
  ?_ ?_ (i:=0) (Nat.zero_le _) ⟨_,_,rfl,H.Sub.refl hw,ydb,ydb,ydb,ydb,ydb,ydb⟩
 ·rintro i s hi ⟨tm,h',rfl,hs,t0,t1,t2,t15,t16,t17⟩
  have hi':(i:Int)<(ls.length:Int):=by omega
  obtain⟨b,o,c,cs,e1,e2,e3,_,_,e4⟩:=(sx.mono hs).at (k:=i) ydd
  obtain⟨b',o',c',cs',f1,f2,f3,_,_,f4⟩:=(sy.mono hs).at (k:=i) ydd
  have e5:=e4 ydd
  have f5:=f4 ydd
  have hxl:=(a3 i ydd (by rw[List.length_map];omega)).1
  have hyl:=(b3 i ydd (by rw[List.length_map];omega)).1
  rw[List.getElem_map] at hxl hyl
  have hle:=hll _ (List.getElem_mem (show i<ls.length by omega))
  have eq:=Vb ((hxl.sl ydc).mono hs) ((hyl.sl ydc).mono hs)
  simp(disch:=omega)only[go_sem,t0,t1,t2,t15,t16,t17,hi',e3 (Ze i),e2,e5,f3 (Ze i),f2,f5]
  refine eq.mono fun u h2 hu=>?_
  obtain⟨rfl,rfl⟩:=hu
  rw[decide_eq_true rfl]
  simp(disch:=omega)only[go_sem,t0,t1,t2,t15,t16,t17,Bool.not_true,Zc]
  exact⟨_,_,rfl,hs,(by simp[t0]),(by simp[t1]),(by simp[t2]),(by simp[t15]),(by simp[t16]),ydb⟩
 ·rintro s ⟨tm,h',rfl,hs,t0,t1,t2,t15,t16,t17⟩
  simp(disch:=omega)only[go_sem,t0,t1,t2,t15,t16,t17,Int.lt_irrefl]
  exact q _ hs
set_option maxHeartbeats 4000000 in
theorem EyeChains_sub {h:H}{v:V}{t:Tb}(hw:h.wf)(ht:ZK h v t)(p r:Int):
  Ev fnG Zm (.fn 99 [] []) [v,.ii p,.ii r] h (fun u h'=>u=.bool true∧h.Sub h'):=by
 have ht0:=ht
 obtain⟨E,L,P,rfl,aE,aL,aP⟩:=ht
 refine Zd (fd:=c99) rfl rfl rfl ?_
 have s3:h.Sub (h.add (.bk [E,L,P])):=yda
 have q3:(h.add (.bk [E,L,P])).cells h.next=some [E,L,P]:=Zf rfl
 have nx:(h.add (.bk [E,L,P])).next=h.next+1:=H.next_add _ _
 simp(disch:=first|omega|simp only[nZ]<;>omega|fail)only[c99,go_sem]
 generalize(h.add (.bk [E,L,P]))=h3 at s3 q3 nx⊢
 refine great_ev s3.wf (ht0.mono s3) _ fun h4 s34=>?_
 cases hg:YO t
 case true=>
  simp(disch:=first|omega|simp only[nZ]<;>omega|fail)only[go_sem,YC]
  first|exact⟨rfl,s3.trans s34⟩|exact s3.trans s34
 have hsm:=Small_of hg
 simp(disch:=first|omega|simp only[nZ]<;>omega|fail)only[go_sem,s34.cells q3]
 refine own_ev s34.wf (ht0.mono (s3.trans s34)) hsm _ fun u h5 s45 hu=>?_
 have s35:=s34.trans s45
 simp(disch:=first|omega|simp only[nZ]<;>omega|fail)only[go_sem,s34.cells q3,s35.cells q3]
 refine Vm s45.wf (ht0.mono (s3.trans s35)) hsm _ fun o h6 s56 ho=>?_
 have s36:=s35.trans s56
 have hu0:=hu.is hsm
 have ho0:=ho
 obtain⟨a1,a2,a3,rfl,hu⟩:=hu
 obtain⟨E2,L2,P2,rfl,o1,o2,o3⟩:=ho
 have lx:=s36.next
 rw[nx] at lx
 have n1:=o1.one
 have n2:=o2.one
 have n3:=o3.one
 have s67:h6.Sub ((((h6.add (.bk [.nils,.nils,.nils])).add (.bk [.nils,.nils,.nils])).set h6.next (.bk [.sl a1 0 t.eyes.length (.fix t.eyes.length),.sl a2 0 t.lights.length (.fix t.lights.length),.sl a3 0 t.pieces.length (.fix t.pieces.length)])).set (h6.next+1) (.bk [E2,L2,P2])):=((((H.Sub.refl s56.wf).add _).add _).set (b:=h6.next) (Nat.le_refl _) (by simp only[H.next_add];omega) s56.wf _).set (b:=h6.next+1) ydd ydh s56.wf _
 have c13:((((h6.add (.bk [.nils,.nils,.nils])).add (.bk [.nils,.nils,.nils])).set h6.next (.bk [.sl a1 0 t.eyes.length (.fix t.eyes.length),.sl a2 0 t.lights.length (.fix t.lights.length),.sl a3 0 t.pieces.length (.fix t.pieces.length)])).set (h6.next+1) (.bk [E2,L2,P2])).cells h6.next=some [.sl a1 0 t.eyes.length (.fix t.eyes.length),.sl a2 0 t.lights.length (.fix t.lights.length),.sl a3 0 t.pieces.length (.fix t.pieces.length)]:=by simp(disch:=first|omega|simp only[nZ]<;>omega|fail)only[go_sem]
 have c14:((((h6.add (.bk [.nils,.nils,.nils])).add (.bk [.nils,.nils,.nils])).set h6.next (.bk [.sl a1 0 t.eyes.length (.fix t.eyes.length),.sl a2 0 t.lights.length (.fix t.lights.length),.sl a3 0 t.pieces.length (.fix t.pieces.length)])).set (h6.next+1) (.bk [E2,L2,P2])).cells (h6.next+1)=some [E2,L2,P2]:=by simp(disch:=first|omega|simp only[nZ]<;>omega|fail)only[go_sem]
 simp(disch:=first|omega|simp only[nZ]<;>omega|fail)only[go_sem,s34.cells q3,s35.cells q3,s36.cells q3,n1,n2,n3]
 generalize((((h6.add (.bk [.nils,.nils,.nils])).add (.bk [.nils,.nils,.nils])).set h6.next (.bk [.sl a1 0 t.eyes.length (.fix t.eyes.length),.sl a2 0 t.lights.length (.fix t.lights.length),.sl a3 0 t.pieces.length (.fix t.pieces.length)])).set (h6.next+1) (.bk [E2,L2,P2]))=h7 at s67 c13 c14⊢
 have s37:=s36.trans s67
 have s7:=s3.trans s37
 refine X2 s7.wf (ho0.mono s67) _ fun h8 s78=>?_
 simp(disch:=first|omega|simp only[nZ]<;>omega|fail)only[go_sem]
 refine Wc (R:=fun x s=>x=.nrm∧∃tm h' x11 x12 l e,s=⟨tm,h',[]⟩∧h7.Sub h'∧ChainR t p r l e∧Zg h' x11 1 (l.map encI)∧ZQ h7 h' x12 ((if check t=0 then W0 t t.pieces.length else[]).map fun l=>l.map encI)∧tm.E 1=.ii p∧tm.E 2=.ii r∧tm.E 3=.ptr h.next 0∧tm.E 7=.ptr h6.next 0∧tm.E 9=.ii (check t)∧tm.E 10=.ii e∧tm.E 11=x11∧tm.E 12=x12) ?_ fun x s hx=>?_
 ·by_cases c:check t=0
  case neg=>
   simp(disch:=first|omega|simp only[nZ]<;>omega|fail)only[go_sem,c]
   exact⟨_,_,.nils,.nils,[],check t,rfl,s78,.inl ⟨c,rfl,rfl⟩,(Zq.nil s78 1).sl ydb,by first|exact ZQ.nil s78|(rw[if_neg c];exact ZQ.nil s78),ydb,ydb,ydb,ydb,ydb,ydb,ydb,ydb⟩
  have g:=Z5.1 c
  have cd:decide (check t=0)=true:=decide_eq_true c
  rw[cd]
  simp(disch:=first|omega|simp only[nZ]<;>omega|fail)only[go_sem,s78.cells c14]
  refine rKin_ev s78.wf (ho0.mono (s67.trans s78)) g _ fun x12 h9 o12=>?_
  have s89:h8.Sub h9:=by obtain⟨_,a1,_⟩:=o12;exact a1.1
  have s79:=s78.trans s89
  have pc:∀n:Int,(if 0≤n∧n<(t.pieces.length:Int) then(0:Int) else 1)=if Y0 t n=true then 0 else 1:=fun n=>by simp[Y0]
  have o12':ZQ h7 h9 x12 ((if check t=0 then W0 t t.pieces.length else[]).map fun l=>l.map encI):=by rw[if_pos c];exact o12.base s78
  simp(disch:=first|omega|simp only[nZ]<;>omega|fail)only[go_sem,s79.cells c14]
  refine X0 s79.wf (ho0.mono (s67.trans s79)) p _ fun hA sA=>?_
  have s7A:=s79.trans sA
  rw[pc]
  cases cp:Y0 t p
  ·simp(disch:=first|omega|simp only[nZ]<;>omega|fail)only[go_sem,d10,Bool.false_eq_true, ↓reduceIte]
   exact⟨_,_,.nils,x12,[],1,rfl,s7A,.inr (.inl ⟨c,.inl cp,rfl,rfl⟩),(Zq.nil s7A 1).sl ydb,o12'.mono sA,ydb,ydb,ydb,ydb,ydb,ydb,ydb,ydb⟩
  simp(disch:=first|omega|simp only[nZ]<;>omega|fail)only[go_sem,d00, ↓reduceIte,s7A.cells c14]
  refine X0 s7A.wf (ho0.mono (s67.trans s7A)) r _ fun hB sB=>?_
  have s7B:=s7A.trans sB
  have s9B:=sA.trans sB
  rw[pc]
  cases cr:Y0 t r
  ·simp(disch:=first|omega|simp only[nZ]<;>omega|fail)only[go_sem,d10,Bool.false_eq_true, ↓reduceIte]
   exact⟨_,_,.nils,x12,[],1,rfl,s7B,.inr (.inl ⟨c,.inr cr,rfl,rfl⟩),(Zq.nil s7B 1).sl ydb,o12'.mono s9B,ydb,ydb,ydb,ydb,ydb,ydb,ydb,ydb⟩
  have cp0:=cp
  have cr0:=cr
  simp only[Y0,decide_eq_true_eq] at cp cr
  obtain⟨i,rfl⟩:=Int.eq_ofNat_of_zero_le cp.1
  obtain⟨k,rfl⟩:=Int.eq_ofNat_of_zero_le cr.1
  have hi:i<t.pieces.length:=by omega
  have hk:k<t.pieces.length:=by omega
  simp(disch:=first|omega|simp only[nZ]<;>omega|fail)only[go_sem,d00, ↓reduceIte,s7B.cells c14]
  refine rChain_ev s7B.wf (ho0.mono (s67.trans s7B)) g hi hk _ fun l ok x11 hC sC hR hx=>?_
  have s7C:=s7B.trans sC
  have s9C:=s9B.trans sC
  rw[pth_int] at hx
  rcases hR with⟨r1,rfl,rfl⟩|⟨kk,r1,rfl,rfl⟩
  ·simp(disch:=first|omega|simp only[nZ]<;>omega|fail)only[go_sem,Bool.not_false]
   exact⟨_,_,x11,x12,_,6,rfl,s7C,.inr (.inr ⟨c,cp0,cr0,dst t k,by rw[Int.toNat_natCast];exact Y2 hk,.inl ⟨by rw[Int.toNat_natCast,dst_comm g hk hi];exact r1,rfl,rfl⟩⟩),hx,o12'.mono s9C,ydb,ydb,ydb,ydb,ydb,ydb,ydb,ydb⟩
  ·simp(disch:=first|omega|simp only[nZ]<;>omega|fail)only[go_sem,Bool.not_true]
   exact⟨_,_,x11,x12,_,0,rfl,s7C,.inr (.inr ⟨c,cp0,cr0,dst t k,by rw[Int.toNat_natCast];exact Y2 hk,.inr ⟨kk,by rw[Int.toNat_natCast,dst_comm g hk hi];exact r1,rfl,by rw[Int.toNat_natCast]⟩⟩),hx,o12'.mono s9C,ydb,ydb,ydb,ydb,ydb,ydb,ydb,ydb⟩
 obtain⟨rfl,tm,h',x11,x12,l,e,rfl,sM,hR,hx11,hx12,t1,t2,t3,t7,t9,t10,t11,t12⟩:=hx
 have sX:=s56.trans (s67.trans sM)
 have s3M:=s37.trans sM
 simp(disch:=first|omega|simp only[nZ]<;>omega|fail)only[go_sem,t1,t2,t3,t7,t9,t10,t11,t12,sM.cells c13]
 refine Chain_ev sM.wf (hu0.mono sX) p r _ fun l' e' y hA sA hR' hy=>?_
 obtain⟨rfl,rfl⟩:=ChainR_uniq hR hR'
 simp(disch:=first|omega|simp only[nZ]<;>omega|fail)only[go_sem,t1,t2,t3,t7,t9,t10,t11,t12,(sM.trans sA).cells c13]
 refine Kin_ev sA.wf (hu0.mono (sX.trans sA)) _ fun z hB oz=>?_
 have sB:hA.Sub hB:=by obtain⟨_,a1,_⟩:=oz;exact a1.1
 have sAB:=sA.trans sB
 have eI:=fun R=>WN (hy.mono sB) (hx11.mono sAB) R
 simp only[decide_eq_true rfl] at eI
 have ee:∀n:Int,decide (n=n)=true:=fun n=>by simp
 simp(disch:=first|omega|simp only[nZ]<;>omega|fail)only[go_sem,t1,t2,t3,t7,t9,t10,t11,t12,ee,eI]
 have hgp:t.pieces.length≤15:=by simp only[YO,decide_eq_false_iff_not] at hg;omega
 refine eqRows_ev sB.wf oz (hx12.mono sAB) (by split<;>(try simp)<;>(try(have:=kinK_len t t.pieces.length;omega))) (fun l hl=>by
  split at hl
  ·obtain⟨rr,_,rfl⟩:=Vv hl
   have:=Vt t rr t.pieces.length;omega
  ·simp at hl) _ fun hC sC=>?_
 have sAC:=sAB.trans sC
 simp(disch:=first|omega|simp only[nZ]<;>omega|fail)only[go_sem,t1,t2,t3,t7,t9,t10,t11,t12,(sM.trans sAC).cells c13,(s3M.trans sAC).cells q3]
 refine same_ev sC.wf (hu0.mono (sX.trans sAC)) (ht0.mono (s3.trans (s3M.trans sAC))) _ fun hD sD=>?_
 rw[decide_eq_true rfl]
 simp(disch:=first|omega|simp only[nZ]<;>omega|fail)only[go_sem,YC]
 first|exact⟨rfl,s3.trans (s3M.trans (sAC.trans sD))⟩|exact s3.trans (s3M.trans (sAC.trans sD))
end Go.Ab.Tryz
namespace Go.Ab.Tryz
theorem TbOwn.is {h0 h:H}{X Y Z:V}{t:Tb}(a:TbOwn h0 h X Y Z t)(hl:t.eyes.length≤1000∧t.lights.length≤1000∧t.pieces.length≤1000):ZK h (.agg [X,Y,Z]) t:=
 ⟨X,Y,Z,rfl,a.x.sl ydc,a.y.sl ydc,a.z.sl ydc⟩
set_option maxHeartbeats 4000000 in
theorem EyeTables_sub {h:H}{v:V}{t:Tb}(hw:h.wf)(ht:ZK h v t)(p r:Int)(a b:Sd):
  Ev fnG Zm (.fn 97 [] []) [v,.agg [.ii p,.ii r],.agg (Zj a),.agg (Zj b)] h (fun u h'=>u=.bool true∧h.Sub h'):=by
 have ht0:=ht
 obtain⟨E,L,P,rfl,aE,aL,aP⟩:=ht
 refine Zd (fd:=c97) rfl rfl rfl ?_
 have s3:h.Sub ((((h.add (.bk [E,L,P])).add (.bk [.ii p,.ii r])).add (.bk [.ii a.x,.ii a.y,.ii a.z])).add (.bk [.ii b.x,.ii b.y,.ii b.z])):=yda
 have q3:((((h.add (.bk [E,L,P])).add (.bk [.ii p,.ii r])).add (.bk [.ii a.x,.ii a.y,.ii a.z])).add (.bk [.ii b.x,.ii b.y,.ii b.z])).cells h.next=some [E,L,P]:=by simp(disch:=first|omega|simp only[nZ]<;>omega|fail)only[go_sem]
 have qk:((((h.add (.bk [E,L,P])).add (.bk [.ii p,.ii r])).add (.bk [.ii a.x,.ii a.y,.ii a.z])).add (.bk [.ii b.x,.ii b.y,.ii b.z])).cells (h.next+1)=some [.ii p,.ii r]:=by simp(disch:=first|omega|simp only[nZ]<;>omega|fail)only[go_sem]
 have q4:((((h.add (.bk [E,L,P])).add (.bk [.ii p,.ii r])).add (.bk [.ii a.x,.ii a.y,.ii a.z])).add (.bk [.ii b.x,.ii b.y,.ii b.z])).cells (h.next+1+1)=some [.ii a.x,.ii a.y,.ii a.z]:=by simp(disch:=first|omega|simp only[nZ]<;>omega|fail)only[go_sem]
 have q5:((((h.add (.bk [E,L,P])).add (.bk [.ii p,.ii r])).add (.bk [.ii a.x,.ii a.y,.ii a.z])).add (.bk [.ii b.x,.ii b.y,.ii b.z])).cells (h.next+1+1+1)=some [.ii b.x,.ii b.y,.ii b.z]:=by simp(disch:=first|omega|simp only[nZ]<;>omega|fail)only[go_sem]
 have nx:((((h.add (.bk [E,L,P])).add (.bk [.ii p,.ii r])).add (.bk [.ii a.x,.ii a.y,.ii a.z])).add (.bk [.ii b.x,.ii b.y,.ii b.z])).next=h.next+4:=by simp only[H.next_add]
 simp(disch:=first|omega|simp only[nZ]<;>omega|fail)only[c97,go_sem,Zj]
 generalize((((h.add (.bk [E,L,P])).add (.bk [.ii p,.ii r])).add (.bk [.ii a.x,.ii a.y,.ii a.z])).add (.bk [.ii b.x,.ii b.y,.ii b.z]))=h3 at s3 q3 qk q4 q5 nx⊢
 refine great_ev s3.wf (ht0.mono s3) _ fun h4 s34=>?_
 cases hg:YO t
 case true=>
  simp(disch:=first|omega|simp only[nZ]<;>omega|fail)only[go_sem,YC]
  first|exact⟨rfl,s3.trans s34⟩|exact s3.trans s34
 have hsm:=Small_of hg
 simp(disch:=first|omega|simp only[nZ]<;>omega|fail)only[go_sem,s34.cells q3]
 refine own_ev s34.wf (ht0.mono (s3.trans s34)) hsm _ fun u h5 s45 hu=>?_
 have s35:=s34.trans s45
 simp(disch:=first|omega|simp only[nZ]<;>omega|fail)only[go_sem,s34.cells q3,s35.cells q3]
 refine Vm s45.wf (ht0.mono (s3.trans s35)) hsm _ fun o h6 s56 ho=>?_
 have s36:=s35.trans s56
 have hu0:=hu.is hsm
 have ho0:=ho
 obtain⟨a1,a2,a3,rfl,hu⟩:=hu
 obtain⟨E2,L2,P2,rfl,o1,o2,o3⟩:=ho
 have lx:=s36.next
 rw[nx] at lx
 have n1:=o1.one
 have n2:=o2.one
 have n3:=o3.one
 have s67:h6.Sub ((((((((h6.add (.bk [.nils,.nils,.nils])).add (.bk [.nils,.nils,.nils])).set h6.next (.bk [.sl a1 0 t.eyes.length (.fix t.eyes.length),.sl a2 0 t.lights.length (.fix t.lights.length),.sl a3 0 t.pieces.length (.fix t.pieces.length)])).set (h6.next+1) (.bk [E2,L2,P2])).add (.bk [.ii 0,.ii 0,.ii 0])).add (.bk [.ii 0,.ii 0,.ii 0])).set (h6.next+1+1) (.bk [.ii a.x,.ii a.y,.ii a.z])).set (h6.next+1+1+1) (.bk [.ii b.x,.ii b.y,.ii b.z])):=(((((((H.Sub.refl s56.wf).add _).add _).set (b:=h6.next) (Nat.le_refl _) (by simp only[H.next_add];omega) s56.wf _).set (b:=h6.next+1) ydd ydh s56.wf _).add _).add _).set (b:=h6.next+1+1) ydd ydh s56.wf _ |>.set (b:=h6.next+1+1+1) ydd ydh s56.wf _
 have c13:((((((((h6.add (.bk [.nils,.nils,.nils])).add (.bk [.nils,.nils,.nils])).set h6.next (.bk [.sl a1 0 t.eyes.length (.fix t.eyes.length),.sl a2 0 t.lights.length (.fix t.lights.length),.sl a3 0 t.pieces.length (.fix t.pieces.length)])).set (h6.next+1) (.bk [E2,L2,P2])).add (.bk [.ii 0,.ii 0,.ii 0])).add (.bk [.ii 0,.ii 0,.ii 0])).set (h6.next+1+1) (.bk [.ii a.x,.ii a.y,.ii a.z])).set (h6.next+1+1+1) (.bk [.ii b.x,.ii b.y,.ii b.z])).cells h6.next=some [.sl a1 0 t.eyes.length (.fix t.eyes.length),.sl a2 0 t.lights.length (.fix t.lights.length),.sl a3 0 t.pieces.length (.fix t.pieces.length)]:=by simp(disch:=first|omega|simp only[nZ]<;>omega|fail)only[go_sem]
 have c14:((((((((h6.add (.bk [.nils,.nils,.nils])).add (.bk [.nils,.nils,.nils])).set h6.next (.bk [.sl a1 0 t.eyes.length (.fix t.eyes.length),.sl a2 0 t.lights.length (.fix t.lights.length),.sl a3 0 t.pieces.length (.fix t.pieces.length)])).set (h6.next+1) (.bk [E2,L2,P2])).add (.bk [.ii 0,.ii 0,.ii 0])).add (.bk [.ii 0,.ii 0,.ii 0])).set (h6.next+1+1) (.bk [.ii a.x,.ii a.y,.ii a.z])).set (h6.next+1+1+1) (.bk [.ii b.x,.ii b.y,.ii b.z])).cells (h6.next+1)=some [E2,L2,P2]:=by simp(disch:=first|omega|simp only[nZ]<;>omega|fail)only[go_sem]
 have c15:((((((((h6.add (.bk [.nils,.nils,.nils])).add (.bk [.nils,.nils,.nils])).set h6.next (.bk [.sl a1 0 t.eyes.length (.fix t.eyes.length),.sl a2 0 t.lights.length (.fix t.lights.length),.sl a3 0 t.pieces.length (.fix t.pieces.length)])).set (h6.next+1) (.bk [E2,L2,P2])).add (.bk [.ii 0,.ii 0,.ii 0])).add (.bk [.ii 0,.ii 0,.ii 0])).set (h6.next+1+1) (.bk [.ii a.x,.ii a.y,.ii a.z])).set (h6.next+1+1+1) (.bk [.ii b.x,.ii b.y,.ii b.z])).cells (h6.next+1+1)=some [.ii a.x,.ii a.y,.ii a.z]:=by simp(disch:=first|omega|simp only[nZ]<;>omega|fail)only[go_sem]
 have c16:((((((((h6.add (.bk [.nils,.nils,.nils])).add (.bk [.nils,.nils,.nils])).set h6.next (.bk [.sl a1 0 t.eyes.length (.fix t.eyes.length),.sl a2 0 t.lights.length (.fix t.lights.length),.sl a3 0 t.pieces.length (.fix t.pieces.length)])).set (h6.next+1) (.bk [E2,L2,P2])).add (.bk [.ii 0,.ii 0,.ii 0])).add (.bk [.ii 0,.ii 0,.ii 0])).set (h6.next+1+1) (.bk [.ii a.x,.ii a.y,.ii a.z])).set (h6.next+1+1+1) (.bk [.ii b.x,.ii b.y,.ii b.z])).cells (h6.next+1+1+1)=some [.ii b.x,.ii b.y,.ii b.z]:=by simp(disch:=first|omega|simp only[nZ]<;>omega|fail)only[go_sem]
 simp(disch:=first|omega|simp only[nZ]<;>omega|fail)only[go_sem,s34.cells q3,s35.cells q3,s36.cells q3,s36.cells q4,s36.cells q5,n1,n2,n3]
 generalize((((((((h6.add (.bk [.nils,.nils,.nils])).add (.bk [.nils,.nils,.nils])).set h6.next (.bk [.sl a1 0 t.eyes.length (.fix t.eyes.length),.sl a2 0 t.lights.length (.fix t.lights.length),.sl a3 0 t.pieces.length (.fix t.pieces.length)])).set (h6.next+1) (.bk [E2,L2,P2])).add (.bk [.ii 0,.ii 0,.ii 0])).add (.bk [.ii 0,.ii 0,.ii 0])).set (h6.next+1+1) (.bk [.ii a.x,.ii a.y,.ii a.z])).set (h6.next+1+1+1) (.bk [.ii b.x,.ii b.y,.ii b.z]))=h7 at s67 c13 c14 c15 c16⊢
 have s37:=s36.trans s67
 have s7:=s3.trans s37
 refine X2 s7.wf (ho0.mono s67) _ fun h8 s78=>?_
 simp(disch:=first|omega|simp only[nZ]<;>omega|fail)only[go_sem,s78.cells c13]
 refine(check_ev s78.wf (hu0.mono (s56.trans (s67.trans s78)))).mono fun u' h9 hu'=>?_
 obtain⟨rfl,s89⟩:=hu'
 have s79:=s78.trans s89
 have nn:∀n:Int,decide (n≠n)=false:=fun n=>by simp
 simp(disch:=first|omega|simp only[nZ]<;>omega|fail)only[go_sem,nn]
 refine Wc (R:=fun x s=>x=.nrm∧∃tm h',s=⟨tm,h',[]⟩∧h7.Sub h'∧tm.E 4=.ptr h.next 0∧tm.E 5=.ptr (h.next+1) 0∧tm.E 6=.ptr (h.next+1+1) 0∧tm.E 7=.ptr (h.next+1+1+1) 0∧tm.E 9=.ptr h6.next 0∧tm.E 14=.ii (Yu t p r a b)∧tm.E 16=.ii (Xm t p r a b)∧tm.E 15=.ii (VI t a)) ?_ fun x s hx=>?_
 ·by_cases c:check t=0
  case neg=>
   have e1:Yu t p r a b=check t:=by unfold Yu;rw[if_pos c]
   have e2:VI t a=check t:=by unfold VI;rw[if_pos c]
   have e3:Xm t p r a b=0:=by unfold Xm;rw[e1,if_neg c]
   simp(disch:=first|omega|simp only[nZ]<;>omega|fail)only[go_sem,c]
   exact⟨_,_,rfl,s79,ydb,ydb,ydb,ydb,ydb,by rw[e1];exact ydb,by rw[e3];exact ydb,by rw[e2];exact ydb⟩
  have g:=Z5.1 c
  have hlE:=aE.lenE
  have hlL:=aL.lenE
  have hlP:=aP.lenE
  have s39:=s37.trans s79
  rw[show decide (check t=0)=true from decide_eq_true c,PBd_true]
  refine W_split (fun s=>∃tm h',s=⟨tm,h',[]⟩∧h7.Sub h'∧tm.E 4=.ptr h.next 0∧tm.E 5=.ptr (h.next+1) 0∧tm.E 6=.ptr (h.next+1+1) 0∧tm.E 7=.ptr (h.next+1+1+1) 0∧tm.E 9=.ptr h6.next 0∧tm.E 11=.ptr (h6.next+1+1) 0∧tm.E 14=.ii (Yu t p r a b)∧tm.E 16=.ii (Xm t p r a b)) ?_ ?_
  ·cases hlk:lookB t p r
   ·have e1:Yu t p r a b=1:=by unfold Yu;rw[if_neg ydm,if_pos hlk]
    have e3:Xm t p r a b=0:=by unfold Xm;rw[e1];rfl
    simp only[lookB,decide_eq_false_iff_not] at hlk
    by_cases p0:p<0
    ·simp(disch:=first|omega|simp only[nZ]<;>omega|fail)only[go_sem,s39.cells qk,s39.cells q3,hlE,hlL,p0,Zv]
     exact⟨_,_,rfl,s79,ydb,ydb,ydb,ydb,ydb,ydb,by rw[e1];exact ydb,by rw[e3];exact ydb⟩
    by_cases p1:(t.eyes.length:Int)≤p
    ·simp(disch:=first|omega|simp only[nZ]<;>omega|fail)only[go_sem,s39.cells qk,s39.cells q3,hlE,hlL,p0,p1,Zv]
     exact⟨_,_,rfl,s79,ydb,ydb,ydb,ydb,ydb,ydb,by rw[e1];exact ydb,by rw[e3];exact ydb⟩
    by_cases r0:r<0
    ·simp(disch:=first|omega|simp only[nZ]<;>omega|fail)only[go_sem,s39.cells qk,s39.cells q3,hlE,hlL,p0,p1,r0,Zv]
     exact⟨_,_,rfl,s79,ydb,ydb,ydb,ydb,ydb,ydb,by rw[e1];exact ydb,by rw[e3];exact ydb⟩
    have r1:(t.lights.length:Int)≤r:=by omega
    simp(disch:=first|omega|simp only[nZ]<;>omega|fail)only[go_sem,s39.cells qk,s39.cells q3,hlE,hlL,p0,p1,r0,r1,Zv]
    exact⟨_,_,rfl,s79,ydb,ydb,ydb,ydb,ydb,ydb,by rw[e1];exact ydb,by rw[e3];exact ydb⟩
   have hlk0:=hlk
   simp only[lookB,decide_eq_true_eq] at hlk
   have p0:¬p<0:=by omega
   have p1:¬(t.eyes.length:Int)≤p:=by omega
   have r0:¬r<0:=by omega
   have r1:¬(t.lights.length:Int)≤r:=by omega
   have d3:decide ((3:Int)≠0)=true:=rfl
   have d0:decide ((0:Int)≠0)=false:=rfl
   have hr:=fun hh (hw:h7.Sub hh) (s:Sd)=>refRight_ev (h:=hh) (hw:=hw.wf) s
   simp only[Zj] at hr
   simp(disch:=first|omega|simp only[nZ]<;>omega|fail)only[go_sem,s39.cells qk,s39.cells q3,hlE,hlL,p0,p1,r0,r1,Zv,s79.cells c15]
   refine hr _ s79 a _ fun hA sA=>?_
   have s7A:=s79.trans sA
   cases ca:a.within 20
   ·have e1:Yu t p r a b=3:=by unfold Yu;rw[if_neg ydm,if_neg (by simp[hlk0]),if_pos (.inl ca)]
    have e3:Xm t p r a b=0:=by unfold Xm;rw[e1];rfl
    simp(disch:=first|omega|simp only[nZ]<;>omega|fail)only[go_sem,d3,Bool.false_eq_true, ↓reduceIte]
    exact⟨_,_,rfl,s7A,ydb,ydb,ydb,ydb,ydb,ydb,by rw[e1];exact ydb,by rw[e3];exact ydb⟩
   simp(disch:=first|omega|simp only[nZ]<;>omega|fail)only[go_sem,d0, ↓reduceIte,s7A.cells c16]
   refine hr _ s7A b _ fun hB sB=>?_
   have s7B:=s7A.trans sB
   cases cb:b.within 20
   ·have e1:Yu t p r a b=3:=by unfold Yu;rw[if_neg ydm,if_neg (by simp[hlk0]),if_pos (.inr cb)]
    have e3:Xm t p r a b=0:=by unfold Xm;rw[e1];rfl
    simp(disch:=first|omega|simp only[nZ]<;>omega|fail)only[go_sem,d3,Bool.false_eq_true, ↓reduceIte]
    exact⟨_,_,rfl,s7B,ydb,ydb,ydb,ydb,ydb,ydb,by rw[e1];exact ydb,by rw[e3];exact ydb⟩
   have e1:Yu t p r a b=0:=by unfold Yu;rw[if_neg ydm,if_neg (by simp[hlk0]),if_neg (by simp[ca,cb])]
   obtain⟨i,rfl⟩:=Int.eq_ofNat_of_zero_le hlk.1.1
   obtain⟨k,rfl⟩:=Int.eq_ofNat_of_zero_le hlk.2.1
   have hi:i<t.eyes.length:=by omega
   have hk:k<t.lights.length:=by omega
   have e3:Xm t (i:Int) (k:Int) a b=Wz t.eyes[i].s t.lights[k] a b:=by
    unfold Xm seesI;rw[e1,if_pos rfl,Int.toNat_natCast,Int.toNat_natCast,List.getElem?_eq_getElem hi,List.getElem?_eq_getElem hk]
   have hse:=refSees_ev (h:=hB) s7B.wf (ho0.mono (s67.trans s7B)) g hi hk (within_iff.1 ca) (within_iff.1 cb)
   simp only[Zj] at hse
   simp(disch:=first|omega|simp only[nZ]<;>omega|fail)only[go_sem,d0, ↓reduceIte,s7B.cells c14,s7B.cells c15,s7B.cells c16,(s37.trans s7B).cells qk]
   refine hse _ fun hC sC=>?_
   simp(disch:=first|omega|simp only[nZ]<;>omega|fail)only[go_sem]
   exact⟨_,_,rfl,(s7B.trans sC),ydb,ydb,ydb,ydb,ydb,ydb,by rw[e1,←c];exact ydb,by rw[e3];exact ydb⟩
  ·rintro s ⟨tm,h',rfl,sM,t4,t5,t6,t7,t9,t11,t14,t16⟩
   have hr:=fun hh (hw:h7.Sub hh) (s:Sd)=>refRight_ev (h:=hh) (hw:=hw.wf) s
   simp only[Zj] at hr
   simp(disch:=first|omega|simp only[nZ]<;>omega|fail)only[go_sem,t4,t5,t6,t7,t9,t11,t14,t16,sM.cells c15]
   refine hr _ sM a _ fun hA sA=>?_
   have s7A:=sM.trans sA
   have s3A:=s37.trans s7A
   cases ca:a.within 20
   ·have e2:VI t a=3:=by unfold VI;rw[if_neg ydm,if_pos ca]
    simp(disch:=first|omega|simp only[nZ]<;>omega|fail)only[go_sem,t4,t5,t6,t7,t9,t11,t14,t16,d30,Bool.false_eq_true, ↓reduceIte]
    exact⟨_,_,rfl,s7A,(by simp[t4]),ydf,ydg,(by simp[t7]),ydk,(by simp[t14]),(by simp[t16]),by rw[e2];exact ydb⟩
   by_cases c9:t.pieces.length=9
   ·have e2:VI t a=9:=by unfold VI;rw[if_neg ydm,if_neg (by simp[ca]),if_pos c9]
    have c9':decide ((t.pieces.length:Int)=9)=true:=by simp[c9]
    simp(disch:=first|omega|simp only[nZ]<;>omega|fail)only[go_sem,t4,t5,t6,t7,t9,t11,t14,t16,d00, ↓reduceIte,s3A.cells q3,hlP,c9',Zv]
    exact⟨_,_,rfl,s7A,(by simp[t4]),ydf,ydg,(by simp[t7]),ydk,(by simp[t14]),(by simp[t16]),by rw[e2];exact ydb⟩
   ·have e2:VI t a=0:=by unfold VI;rw[if_neg ydm,if_neg (by simp[ca]),if_neg c9]
    have c9':decide ((t.pieces.length:Int)=9)=false:=by simp;omega
    simp(disch:=first|omega|simp only[nZ]<;>omega|fail)only[go_sem,t4,t5,t6,t7,t9,t11,t14,t16,d00, ↓reduceIte,s3A.cells q3,hlP,c9',Zv]
    exact⟨_,_,rfl,s7A,(by simp[t4]),ydf,ydg,(by simp[t7]),ydk,(by simp[t14]),(by simp[t16]),by rw[e2];exact ydb⟩
 obtain⟨rfl,tm,h',rfl,sM,t4,t5,t6,t7,t9,t14,t16,t15⟩:=hx
 simp(disch:=first|omega|simp only[nZ]<;>omega|fail)only[go_sem,t4,t5,t6,t7,t9,t14,t16,t15]
 refine Wc (R:=fun x s=>x=.nrm∧∃tm h' X Y Z b17,s=⟨tm,h',[]⟩∧h7.Sub h'∧h'.get b17=some (.bk [X,Y,Z])∧ZK h' (.agg [X,Y,Z]) (addR t a)∧tm.E 4=.ptr h.next 0∧tm.E 5=.ptr (h.next+1) 0∧tm.E 6=.ptr (h.next+1+1) 0∧tm.E 7=.ptr (h.next+1+1+1) 0∧tm.E 9=.ptr h6.next 0∧tm.E 14=.ii (Yu t p r a b)∧tm.E 16=.ii (Xm t p r a b)∧tm.E 15=.ii (VI t a)∧tm.E 17=.ptr b17 0) ?_ fun x s hx=>?_
 ·have s9':=(H.Sub.refl sM.wf).add (.bk [.nils,.nils,.nils])
  have g17:(h'.add (.bk [.nils,.nils,.nils])).get h'.next=some (.bk [.nils,.nils,.nils]):=by simp(disch:=first|omega|simp only[nZ]<;>omega|fail)only[go_sem]
  have sM9:=sM.trans s9'
  by_cases c:VI t a=0
  case neg=>
   simp(disch:=first|omega|simp only[nZ]<;>omega|fail)only[go_sem,c]
   exact⟨_,_,.nils,.nils,.nils,h'.next,rfl,sM9,g17,by unfold addR;rw[if_neg c];exact(TbOwn.nil (H.Sub.refl s9'.wf)).is ydb,(by simp[t4]),ydf,ydg,(by simp[t7]),ydk,(by simp[t14]),(by simp[t16]),(by simp[t15]),ydb⟩
  have er:addR t a=⟨t.eyes,t.lights,t.pieces++[a]⟩:=by unfold addR;rw[if_pos c]
  have s3M:=s37.trans sM9
  have ce:decide (VI t a=0)=true:=decide_eq_true c
  simp(disch:=first|omega|simp only[nZ]<;>omega|fail)only[go_sem,t4,t5,t6,t7,t9,t14,t16,t15,ce,s3M.cells q3]
  refine own_ev s9'.wf (ht0.mono (s3.trans s3M)) hsm _ fun u hA sA hu2=>?_
  have huA:=hu2.is hsm
  obtain⟨w1,w2,w3,rfl,k1,k2,k3,⟨kk1,kk2,kk3⟩,g1,g2,g3⟩:=hu2
  have gA:=sA.get g17
  have lA:=s9'.next
  have l9':=H.next_add h' (.bk [.nils,.nils,.nils])
  have lA9:=sA.next
  have kB:=Zi.set hA h'.next (.bk [.sl w1 0 t.eyes.length (.fix t.eyes.length),.sl w2 0 t.lights.length (.fix t.lights.length),.sl w3 0 t.pieces.length (.fix t.pieces.length)])
  have sMA:=sM9.trans sA
  have l7':=sM.next
  have sB:h7.Sub (hA.set h'.next (.bk [.sl w1 0 t.eyes.length (.fix t.eyes.length),.sl w2 0 t.lights.length (.fix t.lights.length),.sl w3 0 t.pieces.length (.fix t.pieces.length)])):=sMA.set (b:=h'.next) ydd ydd s7.wf _
  have gB:(hA.set h'.next (.bk [.sl w1 0 t.eyes.length (.fix t.eyes.length),.sl w2 0 t.lights.length (.fix t.lights.length),.sl w3 0 t.pieces.length (.fix t.pieces.length)])).get h'.next=some (.bk [.sl w1 0 t.eyes.length (.fix t.eyes.length),.sl w2 0 t.lights.length (.fix t.lights.length),.sl w3 0 t.pieces.length (.fix t.pieces.length)]):=get_set_same rfl
  have oA:ZG (h'.add (.bk [.nils,.nils,.nils])) hA (.sl w3 0 t.pieces.length (.fix t.pieces.length)) 3 (t.pieces.map Zj):=
   ⟨sA,by simp[Zj],.inr (.inr ⟨w3,t.pieces.length,[],by simp,k3.1,k3.2,by rw[List.append_nil];exact g3,by simp,by simp⟩)⟩
  have oB:=(oA.base s9').keep kB ((s9'.trans sA).set (b:=h'.next) (Nat.le_refl _) ydd sM.wf _) fun b ⟨_,_,_,e⟩ hc=>by cases e;omega
  have w1B:(hA.set h'.next (.bk [.sl w1 0 t.eyes.length (.fix t.eyes.length),.sl w2 0 t.lights.length (.fix t.lights.length),.sl w3 0 t.pieces.length (.fix t.pieces.length)])).get w1=some (.bk (t.eyes.map Yx).flatten):=by rw[get_set_other ydd];exact g1
  have w2B:(hA.set h'.next (.bk [.sl w1 0 t.eyes.length (.fix t.eyes.length),.sl w2 0 t.lights.length (.fix t.lights.length),.sl w3 0 t.pieces.length (.fix t.pieces.length)])).get w2=some (.bk (t.lights.map Zj).flatten):=by rw[get_set_other ydd];exact g2
  have lB:(hA.set h'.next (.bk [.sl w1 0 t.eyes.length (.fix t.eyes.length),.sl w2 0 t.lights.length (.fix t.lights.length),.sl w3 0 t.pieces.length (.fix t.pieces.length)])).next=hA.next:=H.next_set _ _ _
  simp(disch:=first|omega|simp only[nZ]<;>omega|fail)only[go_sem,t4,t5,t6,t7,t9,t14,t16,t15,gA]
  generalize hA.set h'.next (.bk [.sl w1 0 t.eyes.length (.fix t.eyes.length),.sl w2 0 t.lights.length (.fix t.lights.length),.sl w3 0 t.pieces.length (.fix t.pieces.length)])=hB at sB gB oB w1B w2B lB⊢
  have qa:=sB.cells ((s37.cells q4))
  have sC:=(H.Sub.refl sB.wf).add (.bk [.ii a.x,.ii a.y,.ii a.z])
  have own1:Zg (hB.add (.bk [.ii a.x,.ii a.y,.ii a.z])) (.sl hB.next 0 1 (.fix 1)) 3 [[.ii a.x,.ii a.y,.ii a.z]]:=Zg.new _ rfl rfl ydb ydb ydb
  simp(disch:=first|omega|simp only[nZ]<;>omega|fail)only[go_sem,t4,t5,t6,t7,t9,t14,t16,t15,Zb gB,qa,Zv]
  have hs3:=hsm.2.2
  refine(oB.mono sC).app1 (by_:=24) (r:=Zj a) sM.wf rfl ydd own1 rfl ydc ydc fun Z hD oD hZ kD=>?_
  have zo:∀b,Zk (.sl w3 0 t.pieces.length (.fix t.pieces.length)) b→b=w3:=fun b ⟨_,_,_,e⟩=>by cases e;rfl
  have lC:=H.next_add hB (.bk [.ii a.x,.ii a.y,.ii a.z])
  have gD:=kD.2 _ _ (sC.get gB) (fun hb=>by have:=zo _ hb;omega)
  have gD1:=kD.2 _ _ (sC.get w1B) (fun hb=>by have:=zo _ hb;omega)
  have gD2:=kD.2 _ _ (sC.get w2B) (fun hb=>by have:=zo _ hb;omega)
  have lD:=oD.1.next
  have lkD:=kD.1
  have z1:=oD.one
  have sD:h7.Sub hD:=sM.trans oD.1
  have kF:=Zi.set hD h'.next (.bk [.sl w1 0 t.eyes.length (.fix t.eyes.length),.sl w2 0 t.lights.length (.fix t.lights.length),Z])
  have sF:=sD.set (b:=h'.next) ydd ydd s7.wf (.bk [.sl w1 0 t.eyes.length (.fix t.eyes.length),.sl w2 0 t.lights.length (.fix t.lights.length),Z])
  have fZ:=oD.keep kF (oD.1.set (b:=h'.next) (Nat.le_refl _) ydd sM.wf _) fun b hb hc=>by
   subst hc
   rcases hZ _ hb with h|h
   ·have:=zo _ h;omega
   ·omega
  have pm:(t.pieces++[a]).map Zj=t.pieces.map Zj++[Zj a]:=by simp
  simp(disch:=first|omega|simp only[nZ]<;>omega|fail)only[go_sem,t4,t5,t6,t7,t9,t14,t16,t15,Zb gD,gD,z1,cells_one z1]
  exact⟨_,_,_,_,_,h'.next,rfl,sF,get_set_same rfl,by
   rw[er]
   exact⟨_,_,_,rfl,Zg.full ydb (by rw[get_set_other (by omega)];exact gD1) (by simp[Yx]) (by simp;have:=hsm.1;omega),Zg.full ydb (by rw[get_set_other (by omega)];exact gD2) (by simp[Zj]) (by simp;have:=hsm.2.1;omega),by rw[pm];exact fZ.sl (by simp only[List.length_append,List.length_map,List.length_singleton];omega)⟩,(by simp[t4]),ydf,ydg,(by simp[t7]),ydk,(by simp[t14]),(by simp[t16]),(by simp[t15]),ydb⟩
 obtain⟨rfl,tm,h',X,Y,Z,b17,rfl,sM,g17,hT,t4,t5,t6,t7,t9,t14,t16,t15,t17⟩:=hx
 have sX:=s56.trans (s67.trans sM)
 have s3M:=s37.trans sM
 have se:=Sees_ev (h:=h') sM.wf (hu0.mono sX) p r a b
 simp only[Zj] at se
 simp(disch:=first|omega|simp only[nZ]<;>omega|fail)only[go_sem,t4,t5,t6,t7,t9,t14,t16,t15,t17,sM.cells c13,s3M.cells qk,s3M.cells q4,s3M.cells q5]
 refine se _ fun hA sA=>?_
 have ad:=Add_ev (h:=hA) sA.wf (hu0.mono (sX.trans sA)) a
 simp only[Zj] at ad
 simp(disch:=first|omega|simp only[nZ]<;>omega|fail)only[go_sem,t4,t5,t6,t7,t9,t14,t16,t15,t17,(sM.trans sA).cells c13,(s3M.trans sA).cells q4]
 refine ad _ fun X' Y' Z' hB oT=>?_
 have hsz:(addR t a).eyes.length≤1000∧(addR t a).lights.length≤1000∧(addR t a).pieces.length≤1000:=by
  simp only[YO,decide_eq_false_iff_not] at hg
  unfold addR
  split
  ·simp only[List.length_append,List.length_singleton];omega
  ·simp
 have sB:=oT.x.1
 have x1:=oT.x.one
 have y1:=oT.y.one
 have z1:=oT.z.one
 have sAB:=sA.trans sB
 have sC:=(H.Sub.refl sB.wf).add (.bk [X',Y',Z'])
 have gC:(hB.add (.bk [X',Y',Z'])).get hB.next=some (.bk [X',Y',Z']):=by simp(disch:=first|omega|simp only[nZ]<;>omega|fail)only[go_sem]
 have iC:=(oT.is hsz).mono sC
 have dn:decide (Yu t p r a b≠Yu t p r a b)=false:=nn _
 simp(disch:=first|omega|simp only[nZ]<;>omega|fail)only[go_sem,t4,t5,t6,t7,t9,t14,t16,t15,t17,x1,y1,z1,cells_one x1,cells_one y1,cells_one z1,nn,Zb gC,(sAB.trans sC).cells (Zb g17)]
 refine same_ev sC.wf iC (hT.mono (sAB.trans sC)) _ fun hD sD=>?_
 rw[decide_eq_true rfl]
 have gD:=sD.get gC
 have oX:=(oT.x.mono sC).mono sD
 have oY:=(oT.y.mono sC).mono sD
 have oZ:=(oT.z.mono sC).mono sD
 have lX:∀b,Zk X' b→b<hB.next:=fun b hb=>(oT.x.blk hb).2.1
 have lY:∀b,Zk Y' b→b<hB.next:=fun b hb=>(oT.y.blk hb).2.1
 simp(disch:=first|omega|simp only[nZ]<;>omega|fail)only[go_sem,t4,t5,t6,t7,t9,t14,t16,t15,t17,Bool.not_true,Zb gD]
 refine oX.clr sA.wf rfl rfl fun hE sE kE=>?_
 have gE:=kE.2 _ _ gD fun hb=>by have:=lX _ hb;omega
 have oYE:=oY.keep kE sE fun b hb hc=>oT.xy b hc hb
 have oZE:=oZ.keep kE sE fun b hb hc=>oT.xz b hc hb
 simp(disch:=first|omega|simp only[nZ]<;>omega|fail)only[go_sem,t4,t5,t6,t7,t9,t14,t16,t15,t17,Zb gE]
 refine oYE.clr sA.wf rfl rfl fun hF sF kF=>?_
 have gF:=kF.2 _ _ gE fun hb=>by have:=lY _ hb;omega
 have oZF:=oZE.keep kF sF fun b hb hc=>oT.yz b hc hb
 simp(disch:=first|omega|simp only[nZ]<;>omega|fail)only[go_sem,t4,t5,t6,t7,t9,t14,t16,t15,t17,Zb gF]
 refine oZF.clr sA.wf rfl rfl fun hG sG kG=>?_
 have sAG:=sA.trans sG
 have sMG:=sM.trans sAG
 simp(disch:=first|omega|simp only[nZ]<;>omega|fail)only[go_sem,t4,t5,t6,t7,t9,t14,t16,t15,t17,sMG.cells c13,(s3M.trans sAG).cells q3]
 refine same_ev sG.wf (hu0.mono (sX.trans sAG)) (ht0.mono (s3.trans (s3M.trans sAG))) _ fun hH sH=>?_
 rw[decide_eq_true rfl]
 simp(disch:=first|omega|simp only[nZ]<;>omega|fail)only[go_sem,YC]
 first|exact⟨rfl,s3.trans (s3M.trans (sAG.trans sH))⟩|exact s3.trans (s3M.trans (sAG.trans sH))
end Go.Ab.Tryz
