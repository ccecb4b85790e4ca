/- Where, and that of the reference. Fits of the reference: contract. The reference's bounds: All, own, up, Agree, Bounds. Shares by kind: shares, Where. Tables by kind: the plain part. The reference's table. -/
import Derived.Test.YtiphdfiihgbomabGreatGP
import Derived.Test.YtiphdfiihgbomabGreatG5
set_option linter.unusedSimpArgs false
set_option linter.unusedVariables false
namespace Go.Ab.Tryz
open Go.Ab.Silk
end Go.Ab.Tryz
namespace Go.Ab.Tryz
open Go.Ab.Silk
def Um (m:Ml)(c:Nat→Bool):Box:=Uo m.lots.length (parts m) (ownB m c)
theorem Um_bd {m:Ml}(g:Good m)(c:Nat→Bool){i:Int}(i0:0≤i)(i1:i<m.lots.length):0≤(Um m c i).1∧(Um m c i).2≤10000:=by
 have h1:=Uo_own (forest g) (ownB m c) i0 i1
 have h2:=ownB_bd g c i
 unfold Um;omega
theorem agree_iff {m:Ml}(g:Good m){c:Nat→Bool}:(∃w,FeasM m c w)↔∀i:Int,0≤i→i<m.lots.length→(Um m c i).1≤(Um m c i).2:=by
 have gl:=g.lots
 exact feas_iff (forest g) (ownB m c) (by omega)
end Go.Ab.Tryz
namespace Go.Ab.Tryz
open Go.Ab.Silk
def kindAt (m:Ml)(i:Int):Int:=if h:i.toNat<m.lots.length then m.lots[i.toNat].kind else 0
theorem kindAt_at {m:Ml}{i:Nat}(h:i<m.lots.length):kindAt m (i:Int)=m.lots[i].kind:=by unfold kindAt;simp[h]
def chK (m:Ml)(p:Int→Bool):Int→Bool:=fun i=>p (kindAt m i)
def shM (m:Ml)(b:Box)(p:Int→Bool):Box:=sh m.lots.length (parts m) b (chK m p)
theorem conB {m:Ml}(g:Good m){b:Box}(h:ExactM m allC b)(t:Tight m.lots.length (parts m) b):Con m.lots.length (parts m) b:=⟨fun i _ _=>(h.bd g i).1,t.ne,t.node⟩
theorem conU {m:Ml}(g:Good m)(h:∃w,FeasM m allC w):Con m.lots.length (parts m) (Um m allC):=by
 refine⟨fun i i0 i1=>(Um_bd g allC i0 i1).1,(agree_iff g).1 h,fun i i0 i1 hp=>?_⟩
 unfold Um
 rw[Uo_node (forest g) (ownB m allC) i0 i1 hp]
 simp only;omega
theorem feasU {m:Ml}(g:Good m)(w:Int→Int):Feas m.lots.length (parts m) (Um m allC) w↔FeasM m allC w:=by
 constructor
 ·rintro⟨h1,h2⟩
  refine⟨fun i i0 i1=>?_,h2⟩
  have:=Uo_own (forest g) (ownB m allC) i0 i1
  have:=h1 i i0 i1
  unfold Um at this;omega
 ·exact fun f=>⟨fun i i0 i1=>Uo_sound (forest g) f i i0 i1,f.2⟩
theorem feasB {m:Ml}{b:Box}(h:ExactM m allC b)(w:Int→Int):Feas m.lots.length (parts m) b w↔FeasM m allC w:=by
 constructor
 ·rintro⟨h1,h2⟩
  refine⟨fun i i0 i1=>?_,h2⟩
  have hn:=h.1.ne i i0 i1
  obtain⟨w1,f1,e1⟩:=h.1.full i _ i0 i1 (Int.le_refl _) hn
  obtain⟨w2,f2,e2⟩:=h.1.full i _ i0 i1 hn (Int.le_refl _)
  have a1:=f1.1 i i0 i1
  have a2:=f2.1 i i0 i1
  have:=h1 i i0 i1
  omega
 ·exact fun f=>⟨fun i i0 i1=>h.1.sound w f i i0 i1,f.2⟩
theorem sh_same {m:Ml}(g:Good m){b:Box}(h:ExactM m allC b)(t:Tight m.lots.length (parts m) b)(p:Int→Bool){i:Int}(i0:0≤i)(i1:i<m.lots.length)(hf:frmAt m i<0):shM m b p i=shM m (Um m allC) p i:=
 sh_root_eq (forest g) _ (conB g h t) (conU g (h.feas g)) (fun w=>(feasB h w).trans (feasU g w).symm) i0 i1 hf
theorem sum10k:∀{x:Int→Int} {l:List Int},(∀p∈l,0≤x p∧x p≤10000)→(l.length:Int)≤12→0≤sumL x l∧sumL x l≤120000:=fun{x l} h hl=>by
 have e1:∀(l:List Int),sumL (fun _=>(10000:Int)) l=l.length*10000:=fun l=>by
  induction l with
  |nil=>simp[sumL]
  |cons a l ih=>simp only[sumL,ih,List.length_cons,Int.natCast_add];omega
 have a1:=sumL_nonneg (x:=x) (l:=l) fun p hp=>(h p hp).1
 have a2:=sumL_mono (x:=x) (y:=fun _=>10000) (l:=l) fun p hp=>(h p hp).2
 rw[e1] at a2
 omega
set_option maxHeartbeats 2000000 in
theorem shares_ev {m:Ml}(g:Good m){b:Box}(cb:Con m.lots.length (parts m) b)(hbd:∀i:Int,0≤i→i<m.lots.length→(b i).2≤10000){f:V}{p:Int→Bool}{h0:H}(hf1:f.one=true)(hf:∀a,PureA h0 f [.int .i64 a] (.bool (p a))):
  ∀(k:Nat) {h:H} {d:Nat} (lot:Nat),m.lots.length-lot≤k→lot<m.lots.length→h0.Sub h→DkAt h d m→∀(Q:V→H→Prop),
   (∀h',h.Sub h'→Q (.tup [.int .i64 (shM m b p (lot:Int)).1,.int .i64 (shM m b p (lot:Int)).2]) h')→Ev fnG fastA (.fn 27 [] []) [.ptr d 0,.agg (encB b),.int .i64 (lot:Int),f] h Q:=by
 intro k
 induction k with
 |zero=>intro h d lot h1 h2;omega
 |succ k ih=>
  intro h d lot hk hlot h0s hd Q q
  have F:=forest g
  have gl:=g.lots
  have hw:=h0s.wf
  have hd0:=hd
  obtain⟨pm,l,L,W,g1,g2,aL,aW,ap⟩:=hd
  have hl0:(0:Int)≤(lot:Int):=by omega
  have hl1:(lot:Int)<(m.lots.length:Int):=by omega
  have h12:lot<12:=by omega
  obtain⟨n1,n2,n3⟩:=encB_at b h12
  refine Ev_body (fd:=c27) rfl rfl rfl ?_
  have s2:h.Sub (h.add (.cells .rw (encB b))):=(by repeat(first|assumption|exact H.Sub.refl (by assumption)|refine H.Sub.add ?_ _|refine H.Sub.set ?_ (by first|omega|(simp only[H.next_add,H.next_set,H.next_del]<;>omega)) (by first|omega|(simp only[H.next_add,H.next_set,H.next_del]<;>omega)) (by assumption) _))
  have gb:(h.add (.cells .rw (encB b))).cells h.next=some (encB b):=cells_add_new rfl
  have hSh:=sh_eq F b (chK m p) hl0 hl1
  have hsb:=cb.sh F (chK m p)
  have hap:=(ap (lot:Int)).mono s2
  have hlp:=parts_len m (lot:Int)
  have hlenP:=hap.lenE
  obtain⟨ps,eps⟩:∃ps,parts m (lot:Int)=ps:=⟨_,rfl⟩
  obtain⟨X,eX⟩:∃X,found .nils false (lkA (lot:Int) l)=X:=⟨_,rfl⟩
  rw[eX] at hlenP hap
  rw[eps] at hlp hlenP hap hSh
  have hpsm:∀p∈ps,0≤p∧p<m.lots.length∧(lot:Int)<p:=fun p hp=>by
   obtain⟨p0,p1,pf⟩:=(F.mem (lot:Int) p).1 (by rw[eps];exact hp)
   have:=F.lt p p0 p1
   omega
  by_cases hps:ps=[]
  ·have h00:(ps.length:Int)=0:=by rw[hps];rfl
   rw[if_pos hps] at hSh
   obtain⟨bb,o,cc,cs,eb,hcs,hq,hgg,hn,hn0⟩:=(aL.mono s2).at hlot
   have hkind:=kindAt_at hlot
   simp -implicitDefEqProofs(maxSteps:=999999)(disch:=first|with_reducible rfl|omega|(simp only[nA,nS,nD]<;>omega)|fail)only[c27,go_sem,cells_of (s2.get g1),s2.get g2,eX,hlenP,h00,hq (nat_cst lot),hcs,hn 1 (by omega),encL]
   refine((hf m.lots[lot].kind) _ (h0s.trans s2)).mono fun u h3 hu=>?_
   obtain⟨rfl,s23⟩:=hu
   have gb3:=s23.cells gb
   have e:chK m p (lot:Int)=p m.lots[lot].kind:=by unfold chK;rw[hkind]
   rw[e] at hSh
   have hq1:=q h3 (s2.trans s23)
   unfold shM at hq1
   rw[hSh] at hq1
   cases hp:p m.lots[lot].kind
   ·rw[hp] at hq1
    simp -implicitDefEqProofs(maxSteps:=999999)(disch:=first|with_reducible rfl|omega|(simp only[nA,nS,nD]<;>omega)|fail)only[go_sem,q_iaa_ptr (nat_cst lot) h12,gb3,n1,n2]
    exact hq1
   ·rw[hp] at hq1
    simp -implicitDefEqProofs(maxSteps:=999999)(disch:=first|with_reducible rfl|omega|(simp only[nA,nS,nD]<;>omega)|fail)only[go_sem,q_iaa_ptr (nat_cst lot) h12,gb3,n1,n2]
    exact hq1
  ·have h00:¬(ps.length:Int)=0:=by have:=List.length_pos_iff.2 hps;omega
   rw[if_neg hps] at hSh
   have bS:∀j,(0≤sumL (lo1 (shM m b p)) (ps.take j)∧sumL (lo1 (shM m b p)) (ps.take j)≤120000)∧(0≤sumL (hi1 (shM m b p)) (ps.take j)∧sumL (hi1 (shM m b p)) (ps.take j)≤120000):=fun j=>by
    have hb:∀q∈ps.take j,(0≤(shM m b p q).1∧(shM m b p q).1≤10000)∧(0≤(shM m b p q).2∧(shM m b p q).2≤10000):=fun q hq=>by
     obtain⟨p0,p1,_⟩:=hpsm q (List.mem_of_mem_take hq)
     have a1:=hsb q p0 p1
     have a2:=cb.ne q p0 p1
     have a3:=hbd q p0 p1
     unfold shM;omega
    have hl:((ps.take j).length:Int)≤12:=by simp only[List.length_take];omega
    exact⟨sum10k (fun q hq=>(hb q hq).1) hl,sum10k (fun q hq=>(hb q hq).2) hl⟩
   simp -implicitDefEqProofs(maxSteps:=999999)(disch:=first|with_reducible rfl|omega|(simp only[nA,nS,nD]<;>omega)|fail)only[c27,go_sem,cells_of (s2.get g1),s2.get g2,eX,hlenP,h00]
   refine W_count ps.length (fun j s=>∃tm h',s=⟨tm,h',[]⟩∧(h.add (.cells .rw (encB b))).Sub h'∧(Opd.t 0).ev tm=.ptr d 0∧(Opd.t 2).ev tm=.int .i64 (lot:Int)∧(Opd.t 3).ev tm=f∧(Opd.t 5).ev tm=.ptr h.next 0∧(Opd.t 8).ev tm=.int .i64 (sumL (lo1 (shM m b p)) (ps.take j))∧
     (Opd.t 9).ev tm=.int .i64 (sumL (hi1 (shM m b p)) (ps.take j))∧(Opd.t 46).ev tm=X∧(Opd.t 47).ev tm=.int .i64 (ps.length:Int)∧(Opd.t 48).ev tm=.int .i64 (j:Int))
    ?_ ?_ (i:=0) (Nat.zero_le _) ⟨_,_,rfl,H.Sub.refl s2.wf,(by simp[ev_c,ev_put]<;>rfl),(by simp[ev_c,ev_put]<;>rfl),(by simp[ev_c,ev_put]<;>rfl),(by simp[ev_c,ev_put]<;>rfl),(by simp[ev_c,ev_put]<;>rfl),(by simp[ev_c,ev_put]<;>rfl),(by simp[ev_c,ev_put]<;>rfl),(by simp[ev_c,ev_put]<;>rfl),(by simp[ev_c,ev_put]<;>rfl)⟩
   ·rintro j s hj ⟨tm,h',rfl,hs,t0,t2,t3,t5,t8,t9,t46,t47,t48⟩
    have hj':(j:Int)<(ps.length:Int):=by omega
    have hsh:=s2.trans hs
    have gb':=hs.cells gb
    obtain⟨b2,o2,c2,cs2,eb,hcs2,hq2,hgg2,hn2,hn02⟩:=(hap.mono hs).at hj
    subst eb
    obtain⟨p0,p1,p2⟩:=hpsm _ (List.getElem_mem hj)
    obtain⟨pp,ep⟩:=Int.eq_ofNat_of_zero_le p0
    have e1:=sum_take (lo1 (shM m b p)) hj
    have e2:=sum_take (hi1 (shM m b p)) hj
    rw[ep] at e1 e2
    have f1:lo1 (shM m b p) (pp:Int)=(shM m b p (pp:Int)).1:=rfl
    have f2:hi1 (shM m b p) (pp:Int)=(shM m b p (pp:Int)).2:=rfl
    rw[f1] at e1
    rw[f2] at e2
    have bj:=bS j
    have bj1:=bS (j+1)
    simp -implicitDefEqProofs(maxSteps:=999999)(disch:=first|with_reducible rfl|omega|(simp only[nA,nS,nD]<;>omega)|fail)only[go_sem,t0,t2,t3,t5,t8,t9,t46,t47,t48,hj',hq2 (nat_cst j),hcs2,hn02 (by omega),encI,ep,gb',ld_B]
    refine ih pp (by omega) (by omega) (h0s.trans hsh) (hd0.mono hsh) _ fun h5 s45=>?_
    simp -implicitDefEqProofs(maxSteps:=999999)(disch:=first|with_reducible rfl|omega|(simp only[nA,nS,nD]<;>omega)|fail)only[go_sem,t0,t2,t3,t5,t8,t9,t46,t47,t48,wr_in,wr_succ]
    exact⟨_,_,rfl,hs.trans s45,(by simp[ev_c,ev_put,t0]<;>rfl),(by simp[ev_c,ev_put,t2]<;>rfl),(by simp[ev_c,ev_put,t3]<;>rfl),(by simp[ev_c,ev_put,t5]<;>rfl),by rw[e1];exact(by simp[ev_c,ev_put]<;>rfl),by rw[e2];exact(by simp[ev_c,ev_put]<;>rfl),(by simp[ev_c,ev_put,t46]<;>rfl),(by simp[ev_c,ev_put,t47]<;>rfl),(by simp[ev_c,ev_put]<;>rfl)⟩
   ·rintro s ⟨tm,h',rfl,hs,t0,t2,t3,t5,t8,t9,t46,t47,t48⟩
    rw[List.take_length] at t8 t9
    have gb':=hs.cells gb
    have bl:=bS ps.length
    rw[List.take_length] at bl
    have bb0:=cb.nn _ hl0 hl1
    have bb1:=cb.ne _ hl0 hl1
    have bb2:=hbd _ hl0 hl1
    have hSh':shM m b p (lot:Int)=(max (sumL (lo1 (shM m b p)) ps) ((b (lot:Int)).1-sumL (hi1 (shM m b p)) ps),min (sumL (hi1 (shM m b p)) ps) ((b (lot:Int)).2-sumL (lo1 (shM m b p)) ps)):=hSh
    simp -implicitDefEqProofs(maxSteps:=999999)(disch:=first|with_reducible rfl|omega|(simp only[nA,nS,nD]<;>omega)|fail)only[go_sem,t0,t2,t3,t5,t8,t9,t46,t47,t48,Int.lt_irrefl,q_iaa_ptr (nat_cst lot) h12,gb',n1,n2,wr_in]
    refine least_use (l:=[(b (lot:Int)).2-sumL (lo1 (shM m b p)) ps]) (SlAt.new _ rfl (by rfl) (by rfl) (by simp[encI]) (by simp)) ?_
    have s6:h'.Sub (h'.add (.cells .rw [.int .i64 ((b (lot:Int)).2-sumL (lo1 (shM m b p)) ps)])):=(H.Sub.refl (H.Sub.wf hs)).add _
    simp -implicitDefEqProofs(maxSteps:=999999)(disch:=first|with_reducible rfl|omega|(simp only[nA,nS,nD]<;>omega)|fail)only[go_sem,List.foldl,gb',n1,n2,s6.cells gb']
    have hq1:=q _ ((s2.trans hs).trans s6)
    rw[hSh'] at hq1
    exact hq1
end Go.Ab.Tryz
namespace Go.Ab.Tryz
open Go.Ab.Silk
def pK (kind:Int):Int→Bool:=fun k=>decide (k=kind)
def nK (kind:Int):Int→Bool:=fun k=>decide (k≠kind)
def Ua (m:Ml):Box:=Um m allC
def sK (m:Ml)(kind:Int):Box:=shM m (Ua m) (pK kind)
def sN (m:Ml)(kind:Int):Box:=shM m (Ua m) (nK kind)
section
variable {m:Ml} {kind:Int}
theorem sK_quad (g:Good m)(h:∃w,FeasM m allC w){i:Int}(i0:0≤i)(i1:i<m.lots.length):Quad (sK m kind i).1 (sK m kind i).2 (Ua m i).1 (Ua m i).2:=(conU g h).quad (forest g) _ i0 i1
theorem sN_quad (g:Good m)(h:∃w,FeasM m allC w){i:Int}(i0:0≤i)(i1:i<m.lots.length):Quad (sN m kind i).1 (sN m kind i).2 (Ua m i).1 (Ua m i).2:=(conU g h).quad (forest g) _ i0 i1
end
end Go.Ab.Tryz
namespace Go.Ab.Tryz
open Go.Ab.Silk
end Go.Ab.Tryz
namespace Go.Ab.Tryz
open Go.Ab.Silk
theorem where1_pure {h:H}{kind:Int}{b:Nat}(hb:h.cells b=some [.int .i64 kind])(a:Int):PureA h (.fn 28 [] [.ptr b 0]) [.int .i64 a] (.bool (pK kind a)):=fun h1 hs=>by
 have hb1:=hs.cells hb
 refine Ev_body (fd:=c28) rfl rfl rfl ?_
 simp -implicitDefEqProofs(maxSteps:=999999)(disch:=first|with_reducible rfl|omega|(simp only[nA,nS,nD]<;>omega)|fail)only[c28,go_sem,hb1]
 exact⟨rfl,H.Sub.refl hs.wf⟩
theorem where2_pure {h:H}{kind:Int}{b:Nat}(hb:h.cells b=some [.int .i64 kind])(a:Int):PureA h (.fn 29 [] [.ptr b 0]) [.int .i64 a] (.bool (nK kind a)):=fun h1 hs=>by
 have hb1:=hs.cells hb
 refine Ev_body (fd:=c29) rfl rfl rfl ?_
 simp -implicitDefEqProofs(maxSteps:=999999)(disch:=first|with_reducible rfl|omega|(simp only[nA,nS,nD]<;>omega)|fail)only[c29,go_sem,hb1]
 exact⟨rfl,H.Sub.refl hs.wf⟩
def whLo (m:Ml)(kind:Int)(ps:List Int):Int:=sumL (lo1 (sK m kind)) ps
def whHi (m:Ml)(kind:Int)(ps:List Int):Int:=sumL (hi1 (sN m kind)) ps
def WhereR (m:Ml)(kind lo hi e:Int):Prop:=(check m≠0∧e=check m∧lo=0∧hi=0)∨(check m=0∧((allowedK kind=false∧e=3∧lo=0∧hi=0)∨(allowedK kind=true∧
 (((¬∃w,FeasM m allC w)∧e=7∧lo=0∧hi=0)∨((∃w,FeasM m allC w)∧e=0∧lo=whLo m kind (parts m (-1))∧hi=whHi m kind (parts m (-1)))))))
theorem roots {m:Ml}(g:Good m):∀p∈parts m (-1),0≤p∧p<m.lots.length∧frmAt m p<0:=fun p hp=>by
 obtain⟨p0,p1,pf⟩:=((forest g).mem (-1) p).1 hp
 exact⟨p0,p1,by omega⟩
theorem sK_bd {m:Ml}(g:Good m)(hag:∃w,FeasM m allC w)(kind:Int){p:Int}(p0:0≤p)(p1:p<m.lots.length):(0≤(sK m kind p).1∧(sK m kind p).1≤10000)∧(0≤(sN m kind p).2∧(sN m kind p).2≤10000):=by
 obtain⟨a1,a2,a3,a4,a5⟩:=sK_quad (kind:=kind) g hag p0 p1
 obtain⟨b1,b2,b3,b4,b5⟩:=sN_quad (kind:=kind) g hag p0 p1
 have:=Um_bd g allC p0 p1
 unfold Ua at *
 omega
theorem wh_bd {m:Ml}(g:Good m)(hag:∃w,FeasM m allC w)(kind:Int)(j:Nat):(0≤whLo m kind ((parts m (-1)).take j)∧whLo m kind ((parts m (-1)).take j)≤120000)∧(0≤whHi m kind ((parts m (-1)).take j)∧whHi m kind ((parts m (-1)).take j)≤120000):=by
 have hl:(((parts m (-1)).take j).length:Int)≤12:=by have:=parts_len m (-1);have:=g.lots;simp only[List.length_take];omega
 have hb:∀p∈(parts m (-1)).take j,(0≤(sK m kind p).1∧(sK m kind p).1≤10000)∧(0≤(sN m kind p).2∧(sN m kind p).2≤10000):=fun p hp=>by
  obtain⟨p0,p1,_⟩:=roots g p (List.mem_of_mem_take hp)
  exact sK_bd g hag kind p0 p1
 exact⟨sum10k (fun p hp=>(hb p hp).1) hl,sum10k (fun p hp=>(hb p hp).2) hl⟩
set_option maxHeartbeats 2000000 in
theorem Where_ev {h:H}{v:V}{m:Ml}(hw:h.wf)(hm:MlIs h v m)(kind:Int):Ev fnG fastA (.fn 14 [] []) [v,.int .i64 kind] h fun u h'=>h.Sub h'∧∃lo hi e,u=.tup [.agg [.int .i64 lo,.int .i64 hi],.int .i64 e]∧WhereR m kind lo hi e:=by
 refine Ev.gen fun Q q=>?_
 have hm0:=hm
 obtain⟨L,W,rfl,aL,aW⟩:=hm
 refine Ev_body (fd:=c14) rfl rfl rfl ?_
 have s1:h.Sub (((h.add (.cells .rw [.int .i64 m.errs,L,W])).add (.cells .rw [.int .i64 kind])).add (.cells .rw [.int .i64 0,.int .i64 0])):=(by repeat(first|assumption|exact H.Sub.refl (by assumption)|refine H.Sub.add ?_ _|refine H.Sub.set ?_ (by first|omega|(simp only[H.next_add,H.next_set,H.next_del]<;>omega)) (by first|omega|(simp only[H.next_add,H.next_set,H.next_del]<;>omega)) (by assumption) _))
 have g1:(((h.add (.cells .rw [.int .i64 m.errs,L,W])).add (.cells .rw [.int .i64 kind])).add (.cells .rw [.int .i64 0,.int .i64 0])).cells h.next=some [.int .i64 m.errs,L,W]:=by simp -implicitDefEqProofs(maxSteps:=999999)(disch:=first|with_reducible rfl|omega|(simp only[nA,nS,nD]<;>omega)|fail)only[go_sem]
 have k1:(((h.add (.cells .rw [.int .i64 m.errs,L,W])).add (.cells .rw [.int .i64 kind])).add (.cells .rw [.int .i64 0,.int .i64 0])).cells (h.next+1)=some [.int .i64 kind]:=by simp -implicitDefEqProofs(maxSteps:=999999)(disch:=first|with_reducible rfl|omega|(simp only[nA,nS,nD]<;>omega)|fail)only[go_sem]
 have r1:(((h.add (.cells .rw [.int .i64 m.errs,L,W])).add (.cells .rw [.int .i64 kind])).add (.cells .rw [.int .i64 0,.int .i64 0])).get (h.next+1+1)=some (.cells .rw [.int .i64 0,.int .i64 0]):=by simp -implicitDefEqProofs(maxSteps:=999999)(disch:=first|with_reducible rfl|omega|(simp only[nA,nS,nD]<;>omega)|fail)only[go_sem]
 have l1:(((h.add (.cells .rw [.int .i64 m.errs,L,W])).add (.cells .rw [.int .i64 kind])).add (.cells .rw [.int .i64 0,.int .i64 0])).next=h.next+3:=by simp only[H.next_add]
 simp -implicitDefEqProofs(maxSteps:=999999)(disch:=first|with_reducible rfl|omega|(simp only[nA,nS,nD]<;>omega)|fail)only[c14,go_sem]
 generalize(((h.add (.cells .rw [.int .i64 m.errs,L,W])).add (.cells .rw [.int .i64 kind])).add (.cells .rw [.int .i64 0,.int .i64 0]))=h1 at s1 g1 k1 r1 l1⊢
 refine(check_ev s1.wf (hm0.mono s1)).mono fun u h2 hu=>?_
 obtain⟨rfl,s12⟩:=hu
 have s2:=s1.trans s12
 have l2:=s12.next
 have r2:=s12.get r1
 by_cases c:check m=0
 case neg=>
  simp -implicitDefEqProofs(maxSteps:=999999)(disch:=first|with_reducible rfl|omega|(simp only[nA,nS,nD]<;>omega)|fail)only[go_sem,c,ne_eq,not_false_eq_true,r2,cells_of r2]
  exact q _ _ ⟨(by repeat(first|assumption|exact H.Sub.refl (by assumption)|refine H.Sub.add ?_ _|refine H.Sub.set ?_ (by first|omega|(simp only[H.next_add,H.next_set,H.next_del]<;>omega)) (by first|omega|(simp only[H.next_add,H.next_set,H.next_del]<;>omega)) (by assumption) _)),0,0,check m,rfl,.inl ⟨c,rfl,rfl,rfl⟩⟩
 have g:=good_of c
 cases hal:allowedK kind
 case false=>
  simp -implicitDefEqProofs(maxSteps:=999999)(disch:=first|with_reducible rfl|omega|(simp only[nA,nS,nD]<;>omega)|fail)only[go_sem,c,ne_eq,not_true_eq_false,s12.cells k1,allowed_ev,hal,r2,cells_of r2]
  exact q _ _ ⟨(by repeat(first|assumption|exact H.Sub.refl (by assumption)|refine H.Sub.add ?_ _|refine H.Sub.set ?_ (by first|omega|(simp only[H.next_add,H.next_set,H.next_del]<;>omega)) (by first|omega|(simp only[H.next_add,H.next_set,H.next_del]<;>omega)) (by assumption) _)),0,0,3,rfl,.inr ⟨c,.inl ⟨hal,rfl,rfl,rfl⟩⟩⟩
 simp -implicitDefEqProofs(maxSteps:=999999)(disch:=first|with_reducible rfl|omega|(simp only[nA,nS,nD]<;>omega)|fail)only[go_sem,c,ne_eq,not_true_eq_false,s12.cells k1,s12.cells g1,allowed_ev,hal]
 refine(told_ev s2.wf (hm0.mono s2)).mono fun u h3 hu=>?_
 obtain⟨s23,hu⟩:=hu
 have s3:=s2.trans s23
 have l3:=s23.next
 have r3:=s23.get r2
 have gz:(h3.add (.cells .rw (encB zeroB))).get h3.next=some (.cells .rw (encB zeroB)):=get_add_new rfl
 rcases hu with⟨c',_⟩|⟨_,hno,rfl⟩|⟨_,d,b,rfl,hd,hex,ht⟩
 ·exact absurd c c'
 ·have n70:¬(7:Int)=0:=by omega
  simp -implicitDefEqProofs(maxSteps:=999999)(disch:=first|with_reducible rfl|omega|(simp only[nA,nS,nD]<;>omega)|fail)only[go_sem,zerosB,lenB,put_B zeroB zeroB gz,r3,cells_of r3,ne_eq,n70,not_false_eq_true]
  exact q _ _ ⟨(by repeat(first|assumption|exact H.Sub.refl (by assumption)|refine H.Sub.add ?_ _|refine H.Sub.set ?_ (by first|omega|(simp only[H.next_add,H.next_set,H.next_del]<;>omega)) (by first|omega|(simp only[H.next_add,H.next_set,H.next_del]<;>omega)) (by assumption) _)),0,0,7,rfl,.inr ⟨c,.inr ⟨hal,.inl ⟨hno,rfl,rfl,rfl⟩⟩⟩⟩
 ·have hag:=hex.feas g
  have hd0:=hd
  obtain⟨pm,l,L',W',d1,d2,dL,dW,dp⟩:=hd
  simp -implicitDefEqProofs(maxSteps:=999999)(disch:=first|with_reducible rfl|omega|(simp only[nA,nS,nD]<;>omega)|fail)only[go_sem,zerosB,lenB,put_B b zeroB gz,ne_eq,eq_self,not_true_eq_false]
  have s34:h3.Sub ((h3.add (.cells .rw (encB b))).add (.cells .rw [.int .i64 0,.int .i64 0])):=by
   have w3:=s3.wf
   exact(by repeat(first|assumption|exact H.Sub.refl (by assumption)|refine H.Sub.add ?_ _|refine H.Sub.set ?_ (by first|omega|(simp only[H.next_add,H.next_set,H.next_del]<;>omega)) (by first|omega|(simp only[H.next_add,H.next_set,H.next_del]<;>omega)) (by assumption) _))
  have b4:((h3.add (.cells .rw (encB b))).add (.cells .rw [.int .i64 0,.int .i64 0])).cells h3.next=some (encB b):=by simp -implicitDefEqProofs(maxSteps:=999999)(disch:=first|with_reducible rfl|omega|(simp only[nA,nS,nD]<;>omega)|fail)only[go_sem]
  have o4:((h3.add (.cells .rw (encB b))).add (.cells .rw [.int .i64 0,.int .i64 0])).get (h3.next+1)=some (.cells .rw [.int .i64 0,.int .i64 0]):=by simp -implicitDefEqProofs(maxSteps:=999999)(disch:=first|with_reducible rfl|omega|(simp only[nA,nS,nD]<;>omega)|fail)only[go_sem]
  have l4:((h3.add (.cells .rw (encB b))).add (.cells .rw [.int .i64 0,.int .i64 0])).next=h3.next+2:=by simp only[H.next_add,H.next_set]
  generalize((h3.add (.cells .rw (encB b))).add (.cells .rw [.int .i64 0,.int .i64 0]))=h4 at s34 b4 o4 l4⊢
  obtain⟨X,eX⟩:∃X,found .nils false (lkA (-1) l)=X:=⟨_,rfl⟩
  have hdp:=(dp (-1)).mono s34
  rw[eX] at hdp
  have hlenP:=hdp.lenE
  have s4:=s3.trans s34
  have w4:=s4.wf
  have kc4:=(s12.trans (s23.trans s34)).cells k1
  obtain⟨ps,eps⟩:∃ps,parts m (-1)=ps:=⟨_,rfl⟩
  have hro:=roots g
  have hbd:=wh_bd g hag kind
  rw[eps] at hdp hlenP hro hbd
  have hpl:=parts_len m (-1)
  rw[eps] at hpl
  have gl:=g.lots
  have cb:=conB g hex ht
  have hb10:∀i:Int,0≤i→i<m.lots.length→(b i).2≤10000:=fun i _ _=>(hex.bd g i).2.2.2
  simp -implicitDefEqProofs(maxSteps:=999999)(disch:=first|with_reducible rfl|omega|(simp only[nA,nS,nD]<;>omega)|fail)only[go_sem,cells_of (s34.get d1),s34.get d2,eX,hlenP]
  refine W_count ps.length (fun j s=>∃tm h',s=⟨tm,h',[]⟩∧h3.Sub h'∧h3.next+1<h'.next∧h'.cells h3.next=some (encB b)∧h'.get (h3.next+1)=some (.cells .rw [.int .i64 (whLo m kind (ps.take j)),.int .i64 (whHi m kind (ps.take j))])∧
    (Opd.t 3).ev tm=.ptr (h.next+1) 0∧(Opd.t 4).ev tm=.ptr (h.next+1+1) 0∧(Opd.t 7).ev tm=.ptr d 0∧(Opd.t 8).ev tm=.ptr h3.next 0∧(Opd.t 10).ev tm=.ptr (h3.next+1) 0∧(Opd.t 41).ev tm=X∧(Opd.t 42).ev tm=.int .i64 (ps.length:Int)∧(Opd.t 43).ev tm=.int .i64 (j:Int))
   ?_ ?_ (i:=0) (Nat.zero_le _) ⟨_,_,rfl,s34,by omega,b4,o4,(by simp[ev_c,ev_put]<;>rfl),(by simp[ev_c,ev_put]<;>rfl),(by simp[ev_c,ev_put]<;>rfl),(by simp[ev_c,ev_put]<;>rfl),(by simp[ev_c,ev_put]<;>rfl),(by simp[ev_c,ev_put]<;>rfl),(by simp[ev_c,ev_put]<;>rfl),(by simp[ev_c,ev_put]<;>rfl)⟩
  ·rintro j s hj ⟨tm,h',rfl,hs,lt,gb,go,t3,t4,t7,t8,t10,t41,t42,t43⟩
   have hj':(j:Int)<(ps.length:Int):=by omega
   have hdj:=(dp (-1)).mono hs
   rw[eX,eps] at hdj
   obtain⟨b2,o2,c2,cs2,eb,hcs2,hq2,hgg2,hn2,hn02⟩:=hdj.at hj
   subst eb
   obtain⟨p0,p1,p2⟩:=hro _ (List.getElem_mem hj)
   obtain⟨p,ep⟩:=Int.eq_ofNat_of_zero_le p0
   have e1:whLo m kind (ps.take (j+1))=whLo m kind (ps.take j)+(sK m kind (p:Int)).1:=by
    unfold whLo;rw[sum_take _ hj,ep];rfl
   have e2:whHi m kind (ps.take (j+1))=whHi m kind (ps.take j)+(sN m kind (p:Int)).2:=by
    unfold whHi;rw[sum_take _ hj,ep];rfl
   have bj:=hbd j
   have bj1:=hbd (j+1)
   rw[ep] at p0 p1 p2
   have sm1:=sh_same g hex ht (pK kind) p0 p1 p2
   have sm2:=sh_same g hex ht (nK kind) p0 p1 p2
   have kc:=((s12.trans (s23.trans hs))).cells k1
   simp -implicitDefEqProofs(maxSteps:=999999)(disch:=first|with_reducible rfl|omega|(simp only[nA,nS,nD]<;>omega)|fail)only[go_sem,t3,t4,t7,t8,t10,t41,t42,t43,hj',hq2 (nat_cst j),hcs2,hn02 (by omega),encI,ep,gb,ld_B]
   refine shares_ev g cb hb10 (p:=pK kind) (f:=.fn 28 [] [.ptr (h.next+1) 0]) (h0:=h') rfl (fun a=>where1_pure kc a) m.lots.length p (by omega) (by omega) (H.Sub.refl hs.wf) (hd0.mono hs) _ fun h5 s5=>?_
   simp -implicitDefEqProofs(maxSteps:=999999)(disch:=first|with_reducible rfl|omega|(simp only[nA,nS,nD]<;>omega)|fail)only[go_sem,t3,t4,t7,t8,t10,t41,t42,t43,s5.cells gb,ld_B]
   refine shares_ev g cb hb10 (p:=nK kind) (f:=.fn 29 [] [.ptr (h.next+1) 0]) (h0:=h') rfl (fun a=>where2_pure kc a) m.lots.length p (by omega) (by omega) s5 (hd0.mono (hs.trans s5)) _ fun h6 s6=>?_
   have s56:=s5.trans s6
   have go6:=s56.get go
   have lt6:=s56.next
   have w6:=(hs.trans s56).wf
   have f1:(shM m b (pK kind) (p:Int)).1=(sK m kind (p:Int)).1:=by rw[sm1];rfl
   have f2:(shM m b (nK kind) (p:Int)).2=(sN m kind (p:Int)).2:=by rw[sm2];rfl
   simp -implicitDefEqProofs(maxSteps:=999999)(disch:=first|with_reducible rfl|omega|(simp only[nA,nS,nD]<;>omega)|fail)only[go_sem,t3,t4,t7,t8,t10,t41,t42,t43,cells_of go6,f1,f2,wr_in,wr_succ,go6]
   exact⟨_,_,rfl,(hs.trans s56).set (by omega) (by omega) s3.wf _,by simp only[H.next_set];omega,by rw[cells_set_other (by omega)];exact s56.cells gb,by rw[get_set_same rfl,e1,e2],(by simp[ev_c,ev_put,t3]<;>rfl),(by simp[ev_c,ev_put,t4]<;>rfl),(by simp[ev_c,ev_put,t7]<;>rfl),(by simp[ev_c,ev_put,t8]<;>rfl),(by simp[ev_c,ev_put,t10]<;>rfl),(by simp[ev_c,ev_put,t41]<;>rfl),(by simp[ev_c,ev_put,t42]<;>rfl),(by simp[ev_c,ev_put]<;>rfl)⟩
  ·rintro s ⟨tm,h',rfl,hs,lt,gb,go,t3,t4,t7,t8,t10,t41,t42,t43⟩
   rw[List.take_length] at go
   have r4:=hs.get r3
   simp -implicitDefEqProofs(maxSteps:=999999)(disch:=first|with_reducible rfl|omega|(simp only[nA,nS,nD]<;>omega)|fail)only[go_sem,t3,t4,t7,t8,t10,t41,t42,t43,Int.lt_irrefl,cells_of go,r4]
   have h0h:=s3.trans hs
   exact q _ _ ⟨(by repeat(first|assumption|exact H.Sub.refl (by assumption)|refine H.Sub.add ?_ _|refine H.Sub.set ?_ (by first|omega|(simp only[H.next_add,H.next_set,H.next_del]<;>omega)) (by first|omega|(simp only[H.next_add,H.next_set,H.next_del]<;>omega)) (by assumption) _)),_,_,0,rfl,.inr ⟨c,.inr ⟨hal,.inr ⟨hag,rfl,by rw[eps],by rw[eps]⟩⟩⟩⟩
end Go.Ab.Tryz
