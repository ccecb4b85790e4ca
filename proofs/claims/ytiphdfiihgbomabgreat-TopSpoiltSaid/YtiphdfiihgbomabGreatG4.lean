/- Copies of a mill; one weighing more; a lot that is split. What a weighing says: plain laws. What the reference says of a weighing; known, Parts, Line. -/
import Derived.Test.YtiphdfiihgbomabGreatG2
set_option linter.unusedSimpArgs false
set_option linter.unusedVariables false
namespace Go.Ab.Tryz
theorem sayLo_le {m:Ml}{w:Wg}{k:Int}(hk:0≤k)(h4:0≤w.hi):sayLo m w≤k↔100*(w.reads-m.errs)≤k*(100+w.hi):=by
 unfold sayLo
 have hD:0<100+w.hi:=by omega
 have hn:0≤100*max 0 (w.reads-m.errs)+(100+w.hi)-1:=by omega
 have hkD:0≤k*(100+w.hi):=Int.mul_nonneg hk (by omega)
 rw[Int.tdiv_eq_ediv_of_nonneg hn]
 have e:(k+1)*(100+w.hi)=k*(100+w.hi)+(100+w.hi):=by rw[Int.add_mul,Int.one_mul]
 constructor
 ·intro h
  have:(100*max 0 (w.reads-m.errs)+(100+w.hi)-1)/(100+w.hi)<k+1:=by omega
  rw[Int.ediv_lt_iff_lt_mul hD,e] at this
  omega
 ·intro h
  have:(100*max 0 (w.reads-m.errs)+(100+w.hi)-1)/(100+w.hi)<k+1:=by
   rw[Int.ediv_lt_iff_lt_mul hD,e];omega
  omega
theorem le_sayHi {m:Ml}{w:Wg}{k:Int}(hk:k≤10000)(h3:0≤w.lo)(h5:0≤w.reads+m.errs):k≤sayHi m w↔k*(100+w.lo)≤100*(w.reads+m.errs):=by
 unfold sayHi
 have hD:0<100+w.lo:=by omega
 rw[Int.tdiv_eq_ediv_of_nonneg (by omega)]
 rw[←Int.le_ediv_iff_mul_le hD]
 omega
theorem sayLo_nonneg {m:Ml}{w:Wg}(h4:0≤w.hi):0≤sayLo m w:=by
 unfold sayLo
 exact(tdiv_le (by omega) (by omega)).1
end Go.Ab.Tryz
namespace Go.Ab.Tryz
theorem known_ev {h:H}{v:V}{m:Ml}(hw:h.wf)(hm:MlIs h v m)(n:Int):Ev fnG fastA (.fn 20 [] []) [v,.int .i64 n] h fun u h'=>h.Sub h'∧((check m≠0∧u=.tup [.nilp,.int .i64 (check m)])∨
  (check m=0∧¬(0≤n∧n≤(m.lots.length:Int)-1)∧u=.tup [.nilp,.int .i64 1])∨(check m=0∧(0≤n∧n≤(m.lots.length:Int)-1)∧∃d,u=.tup [.ptr d 0,.int .i64 0]∧DkAt h' d m)):=by
 refine Ev.gen fun Q q=>?_
 have hm0:=hm
 obtain⟨L,W,rfl,aL,aW⟩:=hm
 refine Ev_body (fd:=c20) rfl rfl rfl ?_
 have s2:h.Sub (h.add (.cells .rw [.int .i64 m.errs,L,W])):=(by repeat(first|assumption|exact H.Sub.refl (by assumption)|refine H.Sub.add ?_ _|refine H.Sub.set ?_ (by first|omega|(simp only[H.next_add,H.next_set,H.next_del]<;>omega)) (by first|omega|(simp only[H.next_add,H.next_set,H.next_del]<;>omega)) (by assumption) _))
 simp -implicitDefEqProofs(maxSteps:=999999)(disch:=first|with_reducible rfl|omega|(simp only[nA,nS,nD]<;>omega)|fail)only[c20,go_sem]
 refine(opened_dk s2.wf (hm0.mono s2)).mono fun u h3 hu=>?_
 obtain⟨s23,hu⟩:=hu
 have s3:=s2.trans s23
 have g1:h3.cells h.next=some [.int .i64 m.errs,L,W]:=s23.cells (by simp -implicitDefEqProofs(maxSteps:=999999)(disch:=first|with_reducible rfl|omega|(simp only[nA,nS,nD]<;>omega)|fail)only[go_sem])
 rcases hu with⟨c,rfl⟩|⟨c,d,rfl,hd⟩
 ·simp -implicitDefEqProofs(maxSteps:=999999)(disch:=first|with_reducible rfl|omega|(simp only[nA,nS,nD]<;>omega)|fail)only[go_sem,c,g1]
  exact q _ _ ⟨s3,.inl ⟨c,rfl⟩⟩
 simp -implicitDefEqProofs(maxSteps:=999999)(disch:=first|with_reducible rfl|omega|(simp only[nA,nS,nD]<;>omega)|fail)only[go_sem,g1]
 refine lot_ev (hm0.mono s3) n _ (fun h4 s34=>?_) s3.wf
 cases hn:inB n 0 ((m.lots.length:Int)-1)
 ·simp -implicitDefEqProofs(maxSteps:=999999)(disch:=first|with_reducible rfl|omega|(simp only[nA,nS,nD]<;>omega)|fail)only[go_sem]
  exact q _ _ ⟨s3.trans s34,.inr (.inl ⟨c,by simpa[inB] using hn,rfl⟩)⟩
 ·simp -implicitDefEqProofs(maxSteps:=999999)(disch:=first|with_reducible rfl|omega|(simp only[nA,nS,nD]<;>omega)|fail)only[go_sem]
  exact q _ _ ⟨s3.trans s34,.inr (.inr ⟨c,by simpa[inB] using hn,d,rfl,hd.mono s34⟩)⟩
end Go.Ab.Tryz
namespace Go.Ab
theorem a_msl_nm {h:H}{by_ n m:Nat}{z:List V}(h0:n≤m)(h1:m*by_≤1099511627776)(h2:m≤1099511627776):
  a_msl h by_ z (.int .i64 (n:Int)) (.int .i64 (m:Int))=some (.sl h.next 0 n (.fix m),h.add (.cells .rw (repN m z))):=by
 have e1:Nat.ble (m*by_) 1099511627776=true:=by simpa using h1
 have e2:Nat.ble m 1099511627776=true:=by simpa using h2
 have e3:Nat.ble n m=true:=by simpa using h0
 simp only[a_msl,nat_cst,e1,e2,e3,og_true,lf_eq]
theorem e_cpy_new {h0 h:H}{y:V}{sz b c n:Nat}{rows:List (List V)}{z:List V}{Q:V→H→Prop}(hs:h0.Sub h)(hw0:h0.wf)(hy:SlAt h y sz rows)(hn:n=rows.length)(hb:h.get b=some (.cells .rw (repN c z)))(l1:h0.next≤b)(l2:b<h.next)(hz:z.length=sz)(hc:rows.length≤c)
  (ho:allOne rows.flatten=true) (q:∀h',OwnC h0 h' (.sl b 0 n (.fix c)) sz rows→Keeps (fun x=>x=b) h h'→h'.next=h.next→Q (.int .i64 (n:Int)) h'):P2 (e_cpy h sz (.sl b 0 n (.fix c)) y) Q:=by
 subst hn
 obtain⟨e1,e2⟩:=hy.elems
 have hl:=flatten_len hy.1
 have hr:=repN_len z c
 rw[hz] at hr
 have hle:rows.length*sz≤c*sz:=Nat.mul_le_mul_right sz hc
 have hble:Nat.ble rows.length rows.length=true:=by simp
 have ht:takeN (rows.length*sz) rows.flatten=some rows.flatten:=takeN_eq.2 ⟨by rw[←hl,List.take_length],by omega⟩
 have hlen:rows.length*sz+((repN c z).drop (rows.length*sz)).length=c*sz:=by rw[List.length_drop,hr];omega
 simp only[e_cpy,lenV_sl,e1,e2,hble,ht,cpyTo]
 cases hf:rows.flatten with
 |nil=>
  rw[hf] at hl
  simp only[List.length_nil] at hl
  simp only[H.put,withV_some,P2_some]
  refine q h ⟨hs,hy.1,.inr (.inr ⟨b,c,_,rfl,l1,l2,?_,hlen,hc⟩)⟩ (Keeps.refl _ h) rfl
  rw[hb,hf,←hl];simp
 |cons v vs=>
  rw[hf] at ho hl
  have hp:putN 0 (v::vs) (repN c z)=some (v::vs++(repN c z).drop (rows.length*sz)):=by
   rw[putN_0]
   exact over_eq.2 ⟨by rw[hl],by rw[hl,hr];exact hle⟩
  rw[H.put_rw ho hb hp,withV_some,P2_some]
  refine q _ ⟨hs.set l1 l2 hw0 _,hy.1,.inr (.inr ⟨b,c,_,rfl,l1,by rw[H.next_set];exact l2,?_,hlen,hc⟩)⟩ (Keeps.set h b _) (H.next_set _ _ _)
  rw[get_set_same rfl,hf]
end Go.Ab
namespace Go.Ab.Tryz
theorem cloneLot_ev {h:H}{x:V}{l:List Lt}(hw:h.wf)(hx:SlAt h x 2 (l.map encL))(hl:l.length≤1000000)(Q:V→H→Prop)(q:∀v h',OwnC h h' v 2 (l.map encL)→Q v h'):Ev fnG fastA (.fn 51 [] []) [x] h Q:=by
 refine Ev_body (fd:=c51) rfl rfl rfl ?_
 have s1:h.Sub (h.add (.cells .rw [])):=(by repeat(first|assumption|exact H.Sub.refl (by assumption)|refine H.Sub.add ?_ _|refine H.Sub.set ?_ (by first|omega|(simp only[H.next_add,H.next_set,H.next_del]<;>omega)) (by first|omega|(simp only[H.next_add,H.next_set,H.next_del]<;>omega)) (by assumption) _))
 have hx1:=(hx.mono s1).elems
 have ho:=allOne_flat (enc:=encL) (fun _=>rfl) l
 rcases hx.2.2 with⟨rfl,e⟩|⟨b,o,c,cs,rfl,_⟩
 ·simp -implicitDefEqProofs(maxSteps:=999999)(disch:=first|with_reducible rfl|omega|(simp only[nA,nS,nD]<;>omega)|fail)only[c51,go_sem]
  exact q _ _ (by rw[e];exact(OwnSl.nil (H.Sub.refl hw) 2).c)
 ·simp -implicitDefEqProofs(maxSteps:=999999)(disch:=first|with_reducible rfl|omega|(simp only[nA,nS,nD]<;>omega)|fail)only[c51,go_sem]
  rw[e_app_eq,hx1.1,hx1.2]
  simp only[ob_some]
  cases hn:(l.map encL).length with
  |zero=>
   have e:l.map encL=[]:=List.length_eq_zero_iff.1 hn
   simp -implicitDefEqProofs(maxSteps:=999999)(disch:=first|with_reducible rfl|omega|(simp only[nA,nS,nD]<;>omega)|fail)only[go_sem,e_app_fix0,Nat.ble_eq,Nat.le_refl,og_true]
   have:Nat.ble 0 0=true:=rfl
   simp -implicitDefEqProofs(maxSteps:=999999)(disch:=first|with_reducible rfl|omega|(simp only[nA,nS,nD]<;>omega)|fail)only[this,go_sem]
   exact q _ _ (by rw[e];exact⟨s1,by simp,.inr (.inr ⟨h.next,0,[],rfl,Nat.le_refl _,by rw[H.next_add];omega,get_add_new rfl,rfl,Nat.le_refl _⟩)⟩)
  |succ k=>
   rw[e_app_full (by omega) (elems_0 _ _ _ _ _) (by simp at hn;omega) (by simp at hn;omega),grown_eq]
   simp -implicitDefEqProofs(maxSteps:=999999)(disch:=first|with_reducible rfl|omega|(simp only[nA,nS,nD]<;>omega)|fail)only[go_sem]
   refine q _ _ ⟨s1.add _,hx.1,.inr (.inl ⟨h.next+1,by rw[hn],by omega,by simp only[H.next_add];omega,by rw[get_add_new (by rw[H.next_add])]⟩)⟩
theorem copied_ev {h:H}{v:V}{m:Ml}(hw:h.wf)(hm:MlIs h v m)(hl:m.lots.length≤1000∧m.wgs.length≤1000)(Q:V→H→Prop)(q:∀u h',h.Sub h'→MlOwn h h' u m→Q u h'):Ev fnG fastA (.fn 23 [] []) [v] h Q:=by
 obtain⟨L,W,rfl,aL,aW⟩:=hm
 refine Ev_body (fd:=c23) rfl rfl rfl ?_
 have hle:=aW.lenE
 have s2:h.Sub ((h.add (.cells .rw [.int .i64 m.errs,L,W])).add (.cells .rw [.int .i64 0,.nils,.nils])):=(by repeat(first|assumption|exact H.Sub.refl (by assumption)|refine H.Sub.add ?_ _|refine H.Sub.set ?_ (by first|omega|(simp only[H.next_add,H.next_set,H.next_del]<;>omega)) (by first|omega|(simp only[H.next_add,H.next_set,H.next_del]<;>omega)) (by assumption) _))
 have w2:=s2.wf
 have s3:=s2.add (.cells .rw (repN (m.wgs.length+1) [.int .i64 0,.int .i64 0,.int .i64 0,.int .i64 0]))
 have e1:wr .i64 ((m.wgs.length:Int)+1)=((m.wgs.length+1:Nat):Int):=wr_succ (by omega)
 simp -implicitDefEqProofs(maxSteps:=999999)(disch:=first|with_reducible rfl|omega|(simp only[nA,nS,nD]<;>omega)|fail)only[c23,go_sem,hle,e1,a_msl_nm]
 refine e_cpy_new s3 hw (aW.mono s3) (by simp) (get_add_new (by simp only[H.next_add])) (by omega) (by simp only[H.next_add];omega) rfl (by simp) (allOne_flat (fun _=>rfl) _) fun h4 o4 k4 n4=>?_
 simp only[H.next_add] at n4
 have g4a:h4.get h.next=some (.cells .rw [.int .i64 m.errs,L,W]):=k4.2 _ _ (by simp -implicitDefEqProofs(maxSteps:=999999)(disch:=first|with_reducible rfl|omega|(simp only[nA,nS,nD]<;>omega)|fail)only[go_sem]) (by omega)
 have g4b:h4.get (h.next+1)=some (.cells .rw [.int .i64 0,.nils,.nils]):=k4.2 _ _ (by simp -implicitDefEqProofs(maxSteps:=999999)(disch:=first|with_reducible rfl|omega|(simp only[nA,nS,nD]<;>omega)|fail)only[go_sem]) (by omega)
 have s4:=o4.1
 have s23:=(H.Sub.refl w2).add (.cells .rw (repN (m.wgs.length+1) [.int .i64 0,.int .i64 0,.int .i64 0,.int .i64 0]))
 simp -implicitDefEqProofs(maxSteps:=999999)(disch:=first|with_reducible rfl|omega|(simp only[nA,nS,nD]<;>omega)|fail)only[go_sem,cells_of g4a,g4b]
 refine cloneLot_ev s4.wf (aL.mono s4) (by omega) _ fun x h5 o5=>?_
 have s45:=o5.1
 have g5a:=s45.get g4a
 have g5b:=s45.get g4b
 have l5:=s45.next
 have hx1:=o5.one
 have o5':=o5.base s4
 have s6:h.Sub (h5.set (h.next+1) (.cells .rw [.int .i64 m.errs,x,.sl (h.next+1+1) 0 m.wgs.length (.fix (m.wgs.length+1))])):=(s4.trans s45).set (by omega) (by omega) hw _
 have k6:=Keeps.set h5 (h.next+1) (.cells .rw [.int .i64 m.errs,x,.sl (h.next+1+1) 0 m.wgs.length (.fix (m.wgs.length+1))])
 have nx:∀b,blkOf x b→h4.next≤b:=fun b hb=>(o5.blk hb).1
 have hx2:=cells_one hx1
 simp -implicitDefEqProofs(maxSteps:=999999)(disch:=first|with_reducible rfl|omega|(simp only[nA,nS,nD]<;>omega)|fail)only[go_sem,cells_of g4a,cells_of g5a,g5b,hx1,hx2]
 refine q _ _ s6 ⟨_,_,rfl,o5'.keep k6 s6 fun b hb e=>?_,(o4.mono s45).keep k6 s6 fun b hb e=>?_,fun b hb hb2=>?_⟩
 ·have:=nx b hb;omega
 ·obtain⟨_,_,_,e'⟩:=hb;cases e';omega
 ·obtain⟨_,_,_,e'⟩:=hb2;cases e'
  have:=nx _ hb;omega
def Ml.empty:Ml:=⟨0,[],[]⟩
def Ml.weighed (m:Ml)(w:Wg):Ml:=⟨m.errs,m.lots,m.wgs++[w]⟩
def Ml.splitB (m:Ml)(lot:Int)(kinds:List Int):Ml:=⟨m.errs,m.lots++kinds.map (fun k=>⟨lot,k⟩),m.wgs⟩
def weighE (m:Ml)(w:Wg):Int:=if check m≠0 then check m else if(m.wgs.length:Int)=10 then 9 else check (m.weighed w)
def weighM (m:Ml)(w:Wg):Ml:=if weighE m w=0 then m.weighed w else Ml.empty
theorem MlOwn.empty {h0 h:H}(hs:h0.Sub h):MlOwn h0 h (.agg [.int .i64 0,.nils,.nils]) Ml.empty:=⟨.nils,.nils,rfl,(OwnSl.nil hs 2).c,(OwnSl.nil hs 4).c,fun b hb=>(by obtain⟨_,_,_,e⟩:=hb;cases e)⟩
theorem MlOwn.keep {h0 h h':H}{S:Nat→Prop}{v:V}{m:Ml}(a:MlOwn h0 h v m)(k:Keeps S h h')(hs:h0.Sub h')(n:∀b,S b→∀kd cs,h.get b≠some (.cells kd cs)∨b<h0.next):MlOwn h0 h' v m:=by
 obtain⟨L,W,e,a1,a2,a3⟩:=a
 refine⟨L,W,e,a1.keep k hs fun b hb hS=>?_,a2.keep k hs fun b hb hS=>?_,a3⟩
 ·obtain⟨l1,_,kd,cs,hg,_⟩:=a1.blk hb
  rcases n b hS kd cs with h|h
  ·exact h hg
  ·omega
 ·obtain⟨l1,_,kd,cs,hg,_⟩:=a2.blk hb
  rcases n b hS kd cs with h|h
  ·exact h hg
  ·omega
theorem Weigh_ev {h:H}{v:V}{m:Ml}{w:Wg}(hw:h.wf)(hm:MlIs h v m)(Q:V→H→Prop)(q:∀a h',MlOwn h h' a (weighM m w)→h.Sub h'→Q (.tup [a,.int .i64 (weighE m w)]) h'):Ev fnG fastA (.fn 12 [] []) [v,.agg (encW w)] h Q:=by
 have hm0:=hm
 obtain⟨L,W,rfl,aL,aW⟩:=hm
 refine Ev_body (fd:=c12) rfl rfl rfl ?_
 have hle:=aW.lenE
 have s3:h.Sub (((h.add (.cells .rw [.int .i64 m.errs,L,W])).add (.cells .rw (encW w))).add (.cells .rw [.int .i64 0,.nils,.nils])):=(by repeat(first|assumption|exact H.Sub.refl (by assumption)|refine H.Sub.add ?_ _|refine H.Sub.set ?_ (by first|omega|(simp only[H.next_add,H.next_set,H.next_del]<;>omega)) (by first|omega|(simp only[H.next_add,H.next_set,H.next_del]<;>omega)) (by assumption) _))
 simp -implicitDefEqProofs(maxSteps:=999999)(disch:=first|with_reducible rfl|omega|(simp only[nA,nS,nD]<;>omega)|fail)only[c12,go_sem,encW]
 refine(check_ev s3.wf (hm0.mono s3)).mono fun u h4 hu=>?_
 obtain⟨rfl,s34⟩:=hu
 have l4:=s34.next
 simp only[H.next_add] at l4
 have s4:=s3.trans s34
 have g4a:h4.cells h.next=some [.int .i64 m.errs,L,W]:=s34.cells (by simp -implicitDefEqProofs(maxSteps:=999999)(disch:=first|with_reducible rfl|omega|(simp only[nA,nS,nD]<;>omega)|fail)only[go_sem])
 have g4b:h4.cells (h.next+1)=some (encW w):=s34.cells (by simp -implicitDefEqProofs(maxSteps:=999999)(disch:=first|with_reducible rfl|omega|(simp only[nA,nS,nD]<;>omega)|fail)only[go_sem])
 have g4c:h4.get (h.next+1+1)=some (.cells .rw [.int .i64 0,.nils,.nils]):=s34.get (by simp -implicitDefEqProofs(maxSteps:=999999)(disch:=first|with_reducible rfl|omega|(simp only[nA,nS,nD]<;>omega)|fail)only[go_sem])
 by_cases c:check m=0
 case neg=>
  have e1:weighE m w=check m:=by simp[weighE,c]
  have e2:weighM m w=Ml.empty:=by simp[weighM,e1,c]
  simp -implicitDefEqProofs(maxSteps:=999999)(disch:=first|with_reducible rfl|omega|(simp only[nA,nS,nD]<;>omega)|fail)only[go_sem,ne_eq,c,not_false_eq_true,g4c]
  have s5:h.Sub (h4.set (h.next+1+1) (.cells .rw [.int .i64 0,.nils,.nils])):=s4.set (by omega) (by omega) hw _
  have:=q _ _ (e2▸MlOwn.empty s5) s5
  rw[e1] at this;exact this
 by_cases c2:(m.wgs.length:Int)=10
 case pos=>
  have e1:weighE m w=9:=by simp[weighE,c,c2]
  have e2:weighM m w=Ml.empty:=by simp[weighM,e1]
  simp -implicitDefEqProofs(maxSteps:=999999)(disch:=first|with_reducible rfl|omega|(simp only[nA,nS,nD]<;>omega)|fail)only[go_sem,ne_eq,c,not_true_eq_false,g4a,g4c,hle,c2]
  have s5:h.Sub (h4.set (h.next+1+1) (.cells .rw [.int .i64 0,.nils,.nils])):=s4.set (by omega) (by omega) hw _
  have:=q _ _ (e2▸MlOwn.empty s5) s5
  rw[e1] at this;exact this
 have hg:=good_of c
 have gl:=hg.lots
 have gw:=hg.wgs
 have e1:weighE m w=check (m.weighed w):=by simp[weighE,c,c2]
 simp -implicitDefEqProofs(maxSteps:=999999)(disch:=first|with_reducible rfl|omega|(simp only[nA,nS,nD]<;>omega)|fail)only[go_sem,ne_eq,c,not_true_eq_false,g4a,hle,c2]
 refine copied_ev s4.wf (hm0.mono s4) (by omega) _ fun a h5 s45 o5=>?_
 obtain⟨X,Y,rfl,oX,oY,dXY⟩:=o5
 have l5:=s45.next
 have g5b:=s45.cells g4b
 have g5c:=s45.get g4c
 have s5:=s4.trans s45
 have g5c2:h5.cells (h.next+1+1)=some [.int .i64 0,.nils,.nils]:=cells_of g5c
 simp -implicitDefEqProofs(maxSteps:=999999)(disch:=first|with_reducible rfl|omega|(simp only[nA,nS,nD]<;>omega)|fail)only[go_sem,oX.one,oY.one,cells_one oX.one,cells_one oY.one,g5b,encW]
 have s57:=((H.Sub.refl s5.wf).add (.cells .rw [.int .i64 m.errs,X,Y])).add (.cells .rw (encW w))
 have lX:∀b,blkOf X b→h4.next≤b∧b<h5.next:=fun b hb=>⟨(oX.blk hb).1,(oX.blk hb).2.1⟩
 have lY:∀b,blkOf Y b→h4.next≤b∧b<h5.next:=fun b hb=>⟨(oY.blk hb).1,(oY.blk hb).2.1⟩
 refine((oY.base s4).mono s57).app1 (r:=encW w) hw rfl (by omega) (SlAt.new _ (by simp only[H.next_add]) rfl (by simp[encW]) (by simp[encW]) (by simp)) rfl (by simp;omega) (by simp;omega) fun Z h6 o6 dZ k6=>?_
 have g6c:=k6.2 _ _ (s57.get g5c) fun hb=>by have:=lY _ hb;omega
 have g6d:h6.get h5.next=some (.cells .rw [.int .i64 m.errs,X,Y]):=k6.2 _ _ (by simp -implicitDefEqProofs(maxSteps:=999999)(disch:=first|with_reducible rfl|omega|(simp only[nA,nS,nD]<;>omega)|fail)only[go_sem]) fun hb=>by have:=lY _ hb;omega
 have l6:=k6.1
 simp only[H.next_add] at l6
 have s6:=o6.1
 have s7:h.Sub (h6.set h5.next (.cells .rw [.int .i64 m.errs,X,Z])):=s6.set (by have:=s5.next;omega) (by omega) hw _
 have k7:=Keeps.set h6 h5.next (.cells .rw [.int .i64 m.errs,X,Z])
 have nZ:∀b,blkOf Z b→¬b=h5.next:=fun b hb e=>by
  rcases dZ b hb with h|h
  ·have:=lY b h;omega
  ·simp only[H.next_add] at h;omega
 have oX7:=(((oX.base s4).mono s57).keep k6 o6.1 dXY).keep k7 s7 fun b hb e=>by have:=lX b hb;omega
 have oZ7:=o6.keep k7 s7 nZ
 have g7c:(h6.set h5.next (.cells .rw [.int .i64 m.errs,X,Z])).get (h.next+1+1)=some (.cells .rw [.int .i64 0,.nils,.nils]):=by rw[get_set_other (by omega)];exact g6c
 have g7d:(h6.set h5.next (.cells .rw [.int .i64 m.errs,X,Z])).get h5.next=some (.cells .rw [.int .i64 m.errs,X,Z]):=get_set_same rfl
 have dXZ:∀b,blkOf X b→¬blkOf Z b:=fun b hb hz=>by
  rcases dZ b hz with h|h
  ·exact dXY b hb h
  ·have:=lX b hb;simp only[H.next_add] at h;omega
 have l7:(h6.set h5.next (.cells .rw [.int .i64 m.errs,X,Z])).next=h6.next:=H.next_set _ _ _
 have s56:=l6
 simp -implicitDefEqProofs(maxSteps:=999999)(disch:=first|with_reducible rfl|omega|(simp only[nA,nS,nD]<;>omega)|fail)only[go_sem,cells_of g6d,g6d,o6.one,cells_one o6.one]
 generalize h6.set h5.next (.cells .rw [.int .i64 m.errs,X,Z])=h7 at s7 k7 oX7 oZ7 g7c g7d l7⊢
 have own7:MlOwn h h7 (.agg [.int .i64 m.errs,X,Z]) (m.weighed w):=⟨X,Z,rfl,oX7,by simpa[Ml.weighed] using oZ7,dXZ⟩
 refine(check_ev s7.wf (own7.is (by simp[Ml.weighed];omega))).mono fun u h8 hu=>?_
 obtain⟨rfl,s78⟩:=hu
 have g8c:=s78.get g7c
 have g8d:=s78.get g7d
 have l8:=s78.next
 have l5':=s45.next
 by_cases c3:check (m.weighed w)=0
 ·have e2:weighM m w=m.weighed w:=by simp[weighM,e1,c3]
  simp -implicitDefEqProofs(maxSteps:=999999)(disch:=first|with_reducible rfl|omega|(simp only[nA,nS,nD]<;>omega)|fail)only[go_sem,ne_eq,c3,not_true_eq_false,cells_of g8d,g8c,oX.one,o6.one,cells_one oX.one,cells_one o6.one]
  have s9:h.Sub (h8.set (h.next+1+1) (.cells .rw [.int .i64 m.errs,X,Z])):=(s7.trans s78).set (by omega) (by omega) hw _
  have k9:=Keeps.set h8 (h.next+1+1) (.cells .rw [.int .i64 m.errs,X,Z])
  have o8:=own7.mono s78
  have o9:MlOwn h (h8.set (h.next+1+1) (.cells .rw [.int .i64 m.errs,X,Z])) (.agg [.int .i64 m.errs,X,Z]) (weighM m w):=by
   rw[e2]
   refine⟨X,Z,rfl,(oX7.mono s78).keep k9 s9 (fun b hb e=>by have:=lX b hb;omega),?_,dXZ⟩
   have:=(oZ7.mono s78).keep k9 s9 (fun b hb e=>by
    rcases dZ b hb with h|h
    ·have:=lY b h;omega
    ·simp only[H.next_add] at h;omega)
   simpa[Ml.weighed] using this
  have:=q _ _ o9 s9
  rw[e1,c3] at this;exact this
 ·have e2:weighM m w=Ml.empty:=by simp[weighM,e1,c3]
  simp -implicitDefEqProofs(maxSteps:=999999)(disch:=first|with_reducible rfl|omega|(simp only[nA,nS,nD]<;>omega)|fail)only[go_sem,ne_eq,c3,not_false_eq_true,g8c]
  have s9:h.Sub (h8.set (h.next+1+1) (.cells .rw [.int .i64 0,.nils,.nils])):=(s7.trans s78).set (by omega) (by omega) hw _
  have:=q _ _ (e2▸MlOwn.empty s9) s9
  rw[e1] at this;exact this
def splitE (m:Ml)(lot:Int)(kinds:List Int):Int:=if check m≠0 then check m else if¬(0≤lot∧lot≤(m.lots.length:Int)-1) then 1 else if 0<((parts m lot).length:Int) then 5
 else if(kinds.length:Int)=0 then 2 else if 12<(m.lots.length:Int)+(kinds.length:Int) then 9 else if kinds.all allowedK=false then 3 else 0
def splitM (m:Ml)(lot:Int)(kinds:List Int):Ml:=if splitE m lot kinds=0 then m.splitB lot kinds else Ml.empty
theorem allowed_pure (h:H)(k:Int):PureA h (.fn 22 [] []) [.int .i64 k] (.bool (allowedK k)):=fun h1 hs=>by
 rw[allowed_ev];exact⟨rfl,H.Sub.refl hs.wf⟩
theorem Split_ev {h:H}{v K:V}{m:Ml}{kinds:List Int}(hw:h.wf)(hm:MlIs h v m)(hk:SlAt h K 1 (kinds.map encI))(hkl:kinds.length≤1000)(lot:Int)(Q:V→H→Prop)(q:∀a h',MlOwn h h' a (splitM m lot kinds)→h.Sub h'→Q (.tup [a,.int .i64 (splitE m lot kinds)]) h'):
  Ev fnG fastA (.fn 11 [] []) [v,.int .i64 lot,K] h Q:=by
 have hm0:=hm
 obtain⟨L,W,rfl,aL,aW⟩:=hm
 refine Ev_body (fd:=c11) rfl rfl rfl ?_
 have hle:=aL.lenE
 have hlk:=hk.lenE
 have s3:h.Sub ((h.add (.cells .rw [.int .i64 m.errs,L,W])).add (.cells .rw [.int .i64 0,.nils,.nils])):=(by repeat(first|assumption|exact H.Sub.refl (by assumption)|refine H.Sub.add ?_ _|refine H.Sub.set ?_ (by first|omega|(simp only[H.next_add,H.next_set,H.next_del]<;>omega)) (by first|omega|(simp only[H.next_add,H.next_set,H.next_del]<;>omega)) (by assumption) _))
 simp -implicitDefEqProofs(maxSteps:=999999)(disch:=first|with_reducible rfl|omega|(simp only[nA,nS,nD]<;>omega)|fail)only[c11,go_sem]
 refine(known_ev s3.wf (hm0.mono s3) lot).mono fun u h4 hu=>?_
 obtain⟨s34,hu⟩:=hu
 have l4:=s34.next
 simp only[H.next_add] at l4
 have s4:=s3.trans s34
 have g4a:h4.cells h.next=some [.int .i64 m.errs,L,W]:=s34.cells (by simp -implicitDefEqProofs(maxSteps:=999999)(disch:=first|with_reducible rfl|omega|(simp only[nA,nS,nD]<;>omega)|fail)only[go_sem])
 have g4c:h4.get (h.next+1)=some (.cells .rw [.int .i64 0,.nils,.nils]):=s34.get (by simp -implicitDefEqProofs(maxSteps:=999999)(disch:=first|with_reducible rfl|omega|(simp only[nA,nS,nD]<;>omega)|fail)only[go_sem])
 have fin:∀h5 e,h.Sub h5→h.next+1<h5.next→splitE m lot kinds=e→e≠0→Q (.tup [.agg [.int .i64 0,.nils,.nils],.int .i64 e]) (h5.set (h.next+1) (.cells .rw [.int .i64 0,.nils,.nils])):=fun h5 e s l he hne=>by
  have s5:h.Sub (h5.set (h.next+1) (.cells .rw [.int .i64 0,.nils,.nils])):=s.set (by omega) (by omega) hw _
  have e2:splitM m lot kinds=Ml.empty:=by simp[splitM,he,hne]
  have:=q _ _ (e2▸MlOwn.empty s5) s5
  rw[he] at this;exact this
 rcases hu with⟨c,rfl⟩|⟨c,c2,rfl⟩|⟨c,c2,d,rfl,hd⟩
 ·simp -implicitDefEqProofs(maxSteps:=999999)(disch:=first|with_reducible rfl|omega|(simp only[nA,nS,nD]<;>omega)|fail)only[go_sem,ne_eq,c,not_false_eq_true,g4c]
  exact fin _ _ s4 (by omega) (by simp[splitE,c]) c
 ·simp -implicitDefEqProofs(maxSteps:=999999)(disch:=first|with_reducible rfl|omega|(simp only[nA,nS,nD]<;>omega)|fail)only[go_sem,ne_eq,Int.reduceEq,not_false_eq_true,g4c]
  exact fin _ _ s4 (by omega) (by simp only[splitE,c,c2,ne_eq,not_true_eq_false,not_false_eq_true, ↓reduceIte]) (by omega)
 have hg:=good_of c
 have gl:=hg.lots
 have gw:=hg.wgs
 obtain⟨pm,l,L',W',k1,k2,_,_,ap⟩:=id hd
 have hpl:=(ap lot).lenE
 by_cases c3:0<((parts m lot).length:Int)
 ·simp -implicitDefEqProofs(maxSteps:=999999)(disch:=first|with_reducible rfl|omega|(simp only[nA,nS,nD]<;>omega)|fail)only[go_sem,ne_eq,not_true_eq_false,cells_of k1,k2,hpl,c3,g4c]
  exact fin _ _ s4 (by omega) (by simp only[splitE,c,c2,c3,ne_eq,not_true_eq_false,not_false_eq_true,and_self, ↓reduceIte]) (by omega)
 by_cases c4:(kinds.length:Int)=0
 ·simp -implicitDefEqProofs(maxSteps:=999999)(disch:=first|with_reducible rfl|omega|(simp only[nA,nS,nD]<;>omega)|fail)only[go_sem,ne_eq,not_true_eq_false,cells_of k1,k2,hpl,c3,g4c,hlk,c4]
  exact fin _ _ s4 (by omega) (by simp only[splitE,c,c2,c3,c4,ne_eq,not_true_eq_false,not_false_eq_true,and_self, ↓reduceIte]) (by omega)
 by_cases c5:12<(m.lots.length:Int)+(kinds.length:Int)
 ·simp -implicitDefEqProofs(maxSteps:=999999)(disch:=first|with_reducible rfl|omega|(simp only[nA,nS,nD]<;>omega)|fail)only[go_sem,ne_eq,not_true_eq_false,cells_of k1,k2,hpl,c3,g4c,g4a,hle,hlk,c4,wr_in,c5]
  exact fin _ _ s4 (by omega) (by simp only[splitE,c,c2,c3,c4,c5,ne_eq,not_true_eq_false,not_false_eq_true,and_self, ↓reduceIte]) (by omega)
 simp -implicitDefEqProofs(maxSteps:=999999)(disch:=first|with_reducible rfl|omega|(simp only[nA,nS,nD]<;>omega)|fail)only[go_sem,ne_eq,not_true_eq_false,cells_of k1,k2,hpl,c3,g4c,g4a,hle,hlk,c4,wr_in,c5]
 refine(everyKind_ev s4.wf (hk.mono s4) fun k _=>allowed_pure _ k).mono fun u h5 hu=>?_
 obtain⟨rfl,s45⟩:=hu
 have l5:=s45.next
 have s5:=s4.trans s45
 have g5a:=s45.cells g4a
 have g5c:=s45.get g4c
 cases c6:kinds.all allowedK
 ·simp -implicitDefEqProofs(maxSteps:=999999)(disch:=first|with_reducible rfl|omega|(simp only[nA,nS,nD]<;>omega)|fail)only[go_sem,g5c]
  exact fin _ _ s5 (by omega) (by simp only[splitE,c,c2,c3,c4,c5,c6,ne_eq,not_true_eq_false,not_false_eq_true,and_self, ↓reduceIte]) (by omega)
 have he:splitE m lot kinds=0:=by simp only[splitE,c,c2,c3,c4,c5,c6,ne_eq,not_true_eq_false,not_false_eq_true,and_self, ↓reduceIte,Bool.true_eq_false]
 have hM:splitM m lot kinds=m.splitB lot kinds:=by simp[splitM,he]
 rw[he,hM] at q
 simp -implicitDefEqProofs(maxSteps:=999999)(disch:=first|with_reducible rfl|omega|(simp only[nA,nS,nD]<;>omega)|fail)only[go_sem,g5a]
 refine copied_ev s5.wf (hm0.mono s5) (by omega) _ fun a h6 s56 o6=>?_
 obtain⟨X,Y,rfl,oX,oY,dXY⟩:=o6
 have l6:=s56.next
 have g6c:=s56.get g5c
 have s6:=s5.trans s56
 simp -implicitDefEqProofs(maxSteps:=999999)(disch:=first|with_reducible rfl|omega|(simp only[nA,nS,nD]<;>omega)|fail)only[go_sem,oX.one,oY.one,cells_one oX.one,cells_one oY.one,hlk]
 have s7:=s6.add (.cells .rw [.int .i64 m.errs,X,Y])
 have s67:=(H.Sub.refl s6.wf).add (.cells .rw [.int .i64 m.errs,X,Y])
 refine W_count kinds.length (fun i s=>∃tm h' x,s=⟨tm,h',[]⟩∧h.Sub h'∧OwnC h h' x 2 ((m.splitB lot (kinds.take i)).lots.map encL)∧OwnC h h' Y 4 (m.wgs.map encW)∧(∀b,blkOf x b→¬blkOf Y b)∧(∀b,blkOf x b→b≠h6.next∧h.next+1<b)∧h6.next<h'.next∧
   h'.get (h.next+1)=some (.cells .rw [.int .i64 0,.nils,.nils])∧h'.get h6.next=some (.cells .rw [.int .i64 m.errs,x,Y])∧
   (Opd.t 1).ev tm=.int .i64 lot∧(Opd.t 6).ev tm=.ptr (h.next+1) 0∧(Opd.t 10).ev tm=.ptr h6.next 0∧(Opd.t 55).ev tm=K∧(Opd.t 56).ev tm=.int .i64 (kinds.length:Int)∧(Opd.t 57).ev tm=.int .i64 (i:Int))
  ?_ ?_ (i:=0) (Nat.zero_le _) ⟨_,_,X,rfl,s7,by simpa[Ml.splitB] using(oX.base s5).mono s67,(oY.base s5).mono s67,dXY,fun b hb=>by have:=oX.blk hb;omega,by rw[H.next_add];omega,s67.get g6c,get_add_new rfl,(by simp[ev_c,ev_put]<;>rfl),(by simp[ev_c,ev_put]<;>rfl),(by simp[ev_c,ev_put]<;>rfl),(by simp[ev_c,ev_put]<;>rfl),(by simp[ev_c,ev_put]<;>rfl),(by simp[ev_c,ev_put]<;>rfl)⟩
 ·rintro i s hi ⟨tm,h',x,rfl,hs,ox,oY',dx,nx,lt,gc,gd,e1,e6,e10,e55,e56,e57⟩
  have hi':(i:Int)<(kinds.length:Int):=by omega
  obtain⟨b,o,cc,cs,rfl,hcs,hq,hgg,hn,hn0⟩:=(hk.mono hs).at hi
  simp -implicitDefEqProofs(maxSteps:=999999)(disch:=first|with_reducible rfl|omega|(simp only[nA,nS,nD]<;>omega)|fail)only[go_sem,e1,e6,e10,e55,e56,e57,hi',hq (nat_cst i),hcs,hn0 (by omega),encI,cells_of gd]
  have sA:=(H.Sub.refl hs.wf).add (.cells .rw [.int .i64 lot,.int .i64 kinds[i]])
  have lY:∀b,blkOf Y b→h5.next≤b∧b<h6.next:=fun b hb=>⟨(oY.blk hb).1,(oY.blk hb).2.1⟩
  refine(ox.mono sA).app1 (r:=encL ⟨lot,kinds[i]⟩) hw rfl (by omega) (SlAt.new _ rfl rfl rfl (by simp[encL]) (by simp)) rfl (by simp[Ml.splitB];omega) (by simp[Ml.splitB];omega) fun Z h7 o7 dZ k7=>?_
  have l7:=k7.1
  simp only[H.next_add] at l7
  have g7c:=k7.2 _ _ (sA.get gc) fun hb=>by have:=nx _ hb;omega
  have g7d:=k7.2 _ _ (sA.get gd) fun hb=>by have:=nx _ hb;omega
  have s8:h.Sub (h7.set h6.next (.cells .rw [.int .i64 m.errs,Z,Y])):=o7.1.set (by have:=s6.next;omega) (by omega) hw _
  have k8:=Keeps.set h7 h6.next (.cells .rw [.int .i64 m.errs,Z,Y])
  have nZ:∀b,blkOf Z b→b≠h6.next∧h.next+1<b:=fun b hb=>by
   rcases dZ b hb with h|h
   ·exact nx b h
   ·simp only[H.next_add] at h;omega
  simp -implicitDefEqProofs(maxSteps:=999999)(disch:=first|with_reducible rfl|omega|(simp only[nA,nS,nD]<;>omega)|fail)only[go_sem,e1,e6,e10,e55,e56,e57,cells_of g7d,g7d,o7.one,cells_one o7.one,wr_succ]
  refine⟨_,_,Z,rfl,s8,?_,((oY'.mono sA).keep k7 o7.1 fun b hb hx=>dx b hx hb).keep k8 s8 fun b hb e=>by have:=lY b hb;omega,fun b hb hy=>?_,nZ,by rw[H.next_set];omega,by rw[get_set_other (by omega)];exact g7c,get_set_same rfl,(by simp[ev_c,ev_put,e1]<;>rfl),(by simp[ev_c,ev_put,e6]<;>rfl),(by simp[ev_c,ev_put,e10]<;>rfl),(by simp[ev_c,ev_put,e55]<;>rfl),(by simp[ev_c,ev_put,e56]<;>rfl),(by simp[ev_c,ev_put]<;>rfl)⟩
  ·have:=o7.keep k8 s8 fun b hb e=>(nZ b hb).1 e
   have e:(m.splitB lot (kinds.take (i+1))).lots.map encL=(m.splitB lot (kinds.take i)).lots.map encL++[encL ⟨lot,kinds[i]⟩]:=by
    rw[List.take_succ_eq_append_getElem hi]
    simp only[Ml.splitB,List.map_append,List.map_cons,List.map_nil,List.append_assoc]
   rw[e];exact this
  ·rcases dZ b hb with h|h
   ·exact dx b h hy
   ·have:=lY b hy;simp only[H.next_add] at h;omega
 ·rintro s ⟨tm,h',x,rfl,hs,ox,oY',dx,nx,lt,gc,gd,e1,e6,e10,e55,e56,e57⟩
  rw[List.take_length] at ox
  simp -implicitDefEqProofs(maxSteps:=999999)(disch:=first|with_reducible rfl|omega|(simp only[nA,nS,nD]<;>omega)|fail)only[go_sem,e1,e6,e10,e55,e56,e57,Int.lt_irrefl,cells_of gd,gc,ox.one,cells_one ox.one,oY.one,cells_one oY.one]
  have s8:h.Sub (h'.set (h.next+1) (.cells .rw [.int .i64 m.errs,x,Y])):=hs.set (by omega) (by omega) hw _
  have k8:=Keeps.set h' (h.next+1) (.cells .rw [.int .i64 m.errs,x,Y])
  exact q _ _ ⟨x,Y,rfl,ox.keep k8 s8 (fun b hb e=>by have:=nx b hb;omega),oY'.keep k8 s8 (fun b hb e=>by have:=(oY.blk hb).1;have:=s5.next;omega),dx⟩ s8
end Go.Ab.Tryz
namespace Go.Ab
theorem H.Sub.lt {h h':H}(s:h.Sub h'){n:Nat}(l:n<h.next):n<h'.next:=Nat.lt_of_lt_of_le l s.next
namespace Tryz
def vOff (v:V)(S:Nat→Prop):Prop:=∀e L W,v=.agg [e,L,W]→(∀b,blkOf L b→¬S b)∧∀b,blkOf W b→¬S b
theorem MlIs.keep {h h':H}{S:Nat→Prop}{v:V}{m:Ml}(a:MlIs h v m)(k:Keeps S h h')(n:vOff v S):MlIs h' v m:=by
 obtain⟨L,W,rfl,a1,a2⟩:=a
 obtain⟨n1,n2⟩:=n _ _ _ rfl
 exact⟨L,W,rfl,SlAt_keep a1 k n1,SlAt_keep a2 k n2⟩
theorem MlOwn.off {h0 h:H}{v:V}{m:Ml}(a:MlOwn h0 h v m){S:Nat→Prop}(n:∀b,h0.next≤b→¬S b):vOff v S:=by
 obtain⟨L,W,rfl,a1,a2,_⟩:=a
 intro e L' W' e'
 cases e'
 exact⟨fun b hb=>n b (a1.blk hb).1,fun b hb=>n b (a2.blk hb).1⟩
end Tryz
end Go.Ab
