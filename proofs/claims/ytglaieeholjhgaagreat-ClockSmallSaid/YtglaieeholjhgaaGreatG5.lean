import Derived.Test.YtglaieeholjhgaaGreatG2
import Derived.Test.YtglaieeholjhgaaGreatG4
set_option linter.unusedSimpArgs false
set_option linter.unusedVariables false
theorem yca {p:Prop}(h:p:=by repeat(first|assumption|exact H.Sub.refl (by assumption)|refine H.Sub.add ?_ _|refine H.Sub.set ?_ (by first|omega|(simp only[H.next_add,H.next_set,H.next_del]<;>omega)) (by first|omega|(simp only[H.next_add,H.next_set,H.next_del]<;>omega)) (by assumption) _)):p:=h
theorem ycb {p:Prop}(h:p:=by omega):p:=h
theorem ycc {p:Prop}(h:p:=by simp[Zm,Zd]<;>rfl):p:=h
theorem ycd {p:Prop}(h:p:=by decide):p:=h
theorem yce {p:Prop}(h:p:=by rw[List.length_map];omega):p:=h
theorem ycf {p:Prop}(h:p:=by simp[Zm,Zd,t5]<;>rfl):p:=h
theorem ycg {p:Prop}(h:p:=by simp[Zm,Zd,t0]<;>rfl):p:=h
theorem ych {p:Prop}(h:p:=by simp[Zm,Zd,t7]<;>rfl):p:=h
theorem yci {p:Prop}(h:p:=by simp[Zm,Zd,t6]<;>rfl):p:=h
theorem ycj {p:Prop}(h:p:=by simp[Zm,Zd,t2]<;>rfl):p:=h
theorem yck {p:Prop}(h:p:=by simp[Zm,Zd,t1]<;>rfl):p:=h
theorem ycl {p:Prop}(h:p:=by simp):p:=h
theorem ycm {p:Prop}(h:p:=by simp[Zm,Zd,t8]<;>rfl):p:=h
theorem ycn {p:Prop}(h:p:=by rw[H.next_add];omega):p:=h
theorem yco {p:Prop}(h:p:=by simp[encI]):p:=h
theorem ycp {p:Prop}(h:p:=by simp[Zm,Zd,t3]<;>rfl):p:=h
theorem ycq {p:Prop}(h:p:=by rw[he];simp):p:=h
theorem ycr {p:Prop}(h:p:=by rw[XZ];omega):p:=h
theorem ycs {p:Prop}(h:p:=by simp[Zm,Zd,t10]<;>rfl):p:=h
theorem yct {p:Prop}(h:p:=by simp[Zm,Zd,t11]<;>rfl):p:=h
namespace Go.Ab.Tryz
open Go.Proofs
theorem cons2_app {h:H}(hw:h.wf){m n:Int}{v:V}{l:List Int}(hv:Zg h v 1 (l.map encI))(hl:l.length≤1000){Q:V→H→Prop}(q:∀y h',h.Sub h'→Zg h' y 1 ((m::n::l).map encI)→Up h.next y→Q y h'):
  P2 (Z2 (h.add (.bk [.ii m,.ii n])) 1 8 (.sl h.next 0 2 (.fix 2)) v) Q:=by
 have s1:h.Sub (h.add (.bk [.ii m,.ii n])):=(H.Sub.refl hw).add _
 have hv1:=(hv.mono s1).elems
 rw[VU,List.length_map] at hv1
 have x1:Zg (h.add (.bk [.ii m,.ii n])) (.sl h.next 0 2 (.fix 2)) 1 [encI m,encI n]:=Zg.new _ rfl rfl rfl yco ycl
 rw[W6,hv1.1,hv1.2]
 simp only[WA]
 cases l with
 |nil=>
  rw[List.length_nil,Ur]
  have:Nat.ble 2 2=true:=rfl
  rw[this,YP,YE]
  exact q _ _ s1 x1 (Up.sl (Nat.le_refl _))
 |cons a l=>
  rw[List.length_cons] at hl
  rw[List.length_cons,W5 ycb x1.elems.1 ycb ycb,VS,YE]
  refine q _ _ (s1.add _) (⟨fun r hr=>by obtain⟨_,_,rfl⟩:=List.mem_map.1 hr;rfl,by rw[List.length_map,List.length_cons,List.length_cons,List.length_cons];omega,.inr ⟨_,0,_,_,by rw[List.length_map,List.length_cons,List.length_cons,List.length_cons];congr 1;omega,.inr (Zu rfl),ZU.2 ⟨?_,?_⟩⟩⟩:Zg _ _ 1 _) (Up.sl ycn)
  ·rw[List.drop_zero,VU]
   have e:([encI m,encI n].flatten++(a::l).map iv)=(m::n::a::l).map iv:=rfl
   rw[e,List.length_map,Nat.mul_one]
   have:((m::n::a::l).map iv).length=(m::n::a::l).length:=List.length_map _
   rw[←this,List.take_length]
  ·simp[encI]
def Xv:List Ck→List (List Int)
 |[]=>[[]]
 |c::cs=>(List.range c.ns).flatMap fun(u:Nat)=>(List.range c.ng).flatMap fun(v:Nat)=>(Xv cs).map fun l=>(c.sl+u)::(c.gl+v)::l
def Yh:List Ck→Nat
 |[]=>1
 |c::cs=>c.ns*(c.ng*Yh cs)
theorem runsL_len:∀cs,(Xv cs).length=Yh cs
 |[]=>rfl
 |c::cs=>by
  rw[Xv,XM (c:=c.ng*Yh cs) (fun x _=>?_),List.length_range,Yh]
  rw[XM (c:=Yh cs) (fun y _=>by rw[List.length_map,runsL_len cs]),List.length_range]
theorem runsL_row:∀{cs:List Ck} {l:List Int},l∈Xv cs→l.length=2*cs.length
 |[],l,h=>by rw[Xv,List.mem_singleton] at h;rw[h];rfl
 |c::cs,l,h=>by
  rw[Xv,List.mem_flatMap] at h
  obtain⟨u,_,h⟩:=h
  obtain⟨v,_,h⟩:=List.mem_flatMap.1 h
  obtain⟨l',hl',rfl⟩:=List.mem_map.1 h
  have:=runsL_row hl'
  simp only[List.length_cons];omega
def preR (c:Ck)(R:List (List Int))(u v j:Nat):List (List Int):=
 ((List.range u).flatMap fun(u:Nat)=>(List.range c.ng).flatMap fun(v:Nat)=>R.map fun l=>(c.sl+u)::(c.gl+v)::l)++((List.range v).flatMap fun(v:Nat)=>R.map fun l=>(c.sl+u)::(c.gl+v)::l)++(R.take j).map fun l=>(c.sl+u)::(c.gl+v)::l
theorem preR_step (c:Ck){R:List (List Int)}(u v:Nat){j:Nat}(hj:j<R.length):preR c R u v (j+1)=preR c R u v j++[(c.sl+u)::(c.gl+v)::R[j]]:=by
 unfold preR
 rw[List.take_add_one,List.getElem?_eq_getElem hj,List.map_append]
 simp only[List.append_assoc];rfl
theorem preR_row (c:Ck)(R:List (List Int))(u v:Nat):preR c R u (v+1) 0=preR c R u v R.length:=by
 simp only[preR,List.take_zero,List.map_nil,List.append_nil,List.take_length,List.range_succ,List.flatMap_append,List.flatMap_cons,List.flatMap_nil,List.append_assoc]
theorem preR_col (c:Ck)(R:List (List Int))(u:Nat):preR c R (u+1) 0 0=preR c R u c.ng 0:=by
 simp only[preR,List.take_zero,List.map_nil,List.append_nil,List.range_zero,List.range_succ,List.flatMap_append,List.flatMap_cons,List.flatMap_nil,List.append_assoc]
theorem preR_len (c:Ck)(R:List (List Int))(u v j:Nat):(preR c R u v j).length=u*(c.ng*R.length)+v*R.length+min j R.length:=by
 unfold preR
 rw[List.length_append,List.length_append,List.length_map,List.length_take,XM (c:=c.ng*R.length) (fun x _=>?_),XM (c:=R.length) (fun y _=>List.length_map _),List.length_range,List.length_range]
 rw[XM (c:=R.length) (fun y _=>List.length_map _),List.length_range]
theorem preR_full (c:Ck)(R:List (List Int)):preR c R c.ns 0 0=(List.range c.ns).flatMap fun(u:Nat)=>(List.range c.ng).flatMap fun(v:Nat)=>R.map fun l=>(c.sl+u)::(c.gl+v)::l:=by
 simp only[preR,List.take_zero,List.map_nil,List.append_nil,List.range_zero,List.flatMap_nil]
theorem runsN_le {c:Ck}{cs:List Ck}(h1:1≤c.ns)(h2:1≤c.ng):Yh cs≤Yh (c::cs):=by
 have a:=Nat.le_mul_of_pos_left (Yh cs) h2
 have b:=Nat.le_mul_of_pos_left (c.ng*Yh cs) h1
 show Yh cs≤c.ns*(c.ng*Yh cs)
 omega
set_option maxHeartbeats 4000000 in
theorem runs_ev {a:At}(r:Zl a):∀(k:Nat) {h:H} (hw:h.wf) {C R G:V} (x:ZP h C R G a) {e:Nat} (he:e+k=a.cks.length) (hb:Yh (a.cks.drop e)≤100000) (Q:V→H→Prop) (q:∀y h',h.Sub h'→LR h.next h' y (Xv (a.cks.drop e))→Q y h'),
  Ev fnG Zi (.fn 108 [] []) [.agg (atV a C R G),.ii (e:Int)] h Q:=by
 have rl:=r.lens
 intro k
 induction k with
 |zero=>
  intro h hw C R G x e he hb Q q
  have oC:=x.c.one;have oR:=x.r.one;have oG:=x.g.one
  have hlC:=x.c.lenE
  have hee:(e:Int)=(a.cks.length:Int):=by omega
  rw[List.drop_eq_nil_of_le ycb] at q
  refine Ze (fd:=c108) rfl rfl rfl ?_
  obtain⟨z,hz⟩:∃z,h.add (.bk (atV a C R G))=z:=⟨_,rfl⟩
  have sz:h.Sub z:=by rw[←hz];exact yca
  have ga:z.get h.next=some (.bk (atV a C R G)):=by rw[←hz];exact Zc rfl
  simp(disch:=omega)only[c108,go_sem,oC,oR,oG,hz,Za ga,hlC,hee]
  try rw[hz]
  refine q _ _ (sz.add _) ⟨[.nils],Zg.new _ (by rw[←hz]) rfl rfl ycl ycl,rfl,fun i v l h1 h2=>?_,Up.sl sz.next,fun v hv=>by rw[List.mem_singleton] at hv;rw[hv];exact Up.nils _⟩
  have hi:=Vf h1
  have:i=0:=by simp at hi;exact hi
  subst this
  cases h1;cases h2
  exact⟨by simp,by simp,.inl ⟨rfl,rfl⟩⟩
 |succ k ih=>
  intro h hw C R G x e he hb Q q
  have oC:=x.c.one;have oR:=x.r.one;have oG:=x.g.one
  have hlC:=x.c.lenE
  have hee:¬(e:Int)=(a.cks.length:Int):=by omega
  have hel:e<a.cks.length:=by omega
  have we:wr .i64 ((e:Int)+1)=((e+1:Nat):Int):=by rw[Zo ycb ycb];omega
  have hm:=List.getElem_mem hel
  have hdrop:a.cks.drop e=a.cks[e]::a.cks.drop (e+1):=List.drop_eq_getElem_cons hel
  have hcb:=r.cb _ hm
  have hco:=r.co _ hm
  simp only[Ck.bd,within,Bool.and_eq_true,Zs] at hcb
  simp only[Ck.ord,Bool.and_eq_true,decide_eq_true_eq] at hco
  rw[hdrop] at hb q
  refine Ze (fd:=c108) rfl rfl rfl ?_
  obtain⟨z,hz⟩:∃z,h.add (.bk (atV a C R G))=z:=⟨_,rfl⟩
  have sz:h.Sub z:=by rw[←hz];exact yca
  have ga:z.get h.next=some (.bk (atV a C R G)):=by rw[←hz];exact Zc rfl
  simp(disch:=omega)only[c108,go_sem,oC,oR,oG,hz,Za ga,hlC,hee,we]
  try rw[hz]
  clear hz
  have n1:1≤a.cks[e].ns:=by unfold Ck.ns;omega
  have n2:1≤a.cks[e].ng:=by unfold Ck.ng;omega
  refine ih sz.wf (x.mono sz) (e:=e+1) ycb (Nat.le_trans (runsN_le n1 n2) hb) _ fun yr z1 s1 kr=>?_
  obtain⟨RR,hRR⟩:∃RR,Xv (a.cks.drop (e+1))=RR:=⟨_,rfl⟩
  have hRl:RR.length=Yh (a.cks.drop (e+1)):=by rw[←hRR,runsL_len]
  have hrow:∀l∈RR,l.length≤1000:=fun l hl=>by
   rw[←hRR] at hl
   have:=runsL_row hl
   rw[List.length_drop] at this;omega
  rw[hRR] at kr
  rw[Xv,hRR] at q
  rw[Yh,←hRl] at hb
  have hlr:=kr.lenE
  have s01:=sz.trans s1
  have ga1:=s1.get ga
  obtain⟨bC,oCC,cC,csC,_,hcC,hqC,hgC,_,_⟩:=(x.c.mono s01).at hel
  generalize a.cks[e]=c at hgC hb q hcb hco n1 n2
  simp only[Z9] at hgC
  obtain⟨z2,hz2⟩:∃z2,z1.add (.bk [.ii c.sl,.ii c.sh,.ii c.gl,.ii c.gh])=z2:=⟨_,rfl⟩
  have s2:z1.Sub z2:=by rw[←hz2];exact(H.Sub.refl s01.wf).add _
  have g6:z2.get z1.next=some (.bk [.ii c.sl,.ii c.sh,.ii c.gl,.ii c.gh]):=by rw[←hz2];exact Zc rfl
  have hw2:=s2.wf
  have hns:((c.ns:Nat):Int)=c.sh-c.sl+1:=by unfold Ck.ns;omega
  have hng:((c.ng:Nat):Int)=c.gh-c.gl+1:=by unfold Ck.ng;omega
  have hpl:∀u v j,u≤c.ns→(u=c.ns→v=0∧j=0)→v≤c.ng→(v=c.ng→j=0)→(preR c RR u v j).length≤1000000:=fun u v j h1 h2 h3 h4=>by
   rw[preR_len]
   have e1:=Nat.mul_le_mul_right (c.ng*RR.length) h1
   have e2:=Nat.mul_le_mul_right RR.length h3
   have e3:=Nat.le_mul_of_pos_left (c.ng*RR.length) n1
   have e4:=Nat.le_mul_of_pos_left RR.length n2
   omega
  have hRb:RR.length≤100000:=by
   have e3:=Nat.le_mul_of_pos_left (c.ng*RR.length) n1
   have e4:=Nat.le_mul_of_pos_left RR.length n2
   omega
  simp(disch:=omega)only[go_sem,Za ga1,hqC (Zb e),hcC,hgC,hz2,Za g6]
  try rw[hz2]
  clear hz2
  refine Zk c.ns (fun u s=>∃tm z3 y vs,s=⟨tm,z3,[]⟩∧LL z2 z3 y (preR c RR u 0 0) vs∧tm.E 5=yr∧tm.E 6=.ptr z1.next 0∧tm.E 7=y∧tm.E 8=.ii (c.sl+(u:Int))) ?_ ?_ (i:=0) (Nat.zero_le _)
   ⟨_,_,_,_,rfl,LL.nil (H.Sub.refl hw2),ycc,ycc,ycc,by rw[show c.sl+((0:Nat):Int)=c.sl by omega];exact ycc⟩
  ·rintro u s hu ⟨tm,z3,y,vs,rfl,ll,t5,t6,t7,t8⟩
   have hu':c.sl+(u:Int)≤c.sh:=by omega
   have s3:=ll.o.1
   simp(disch:=omega)only[go_sem,t5,t6,t7,t8,Za (s3.get g6),hu']
   refine Zk c.ng (fun v s=>∃tm z3 y vs,s=⟨tm,z3,[]⟩∧LL z2 z3 y (preR c RR u v 0) vs∧tm.E 5=yr∧tm.E 6=.ptr z1.next 0∧tm.E 7=y∧tm.E 8=.ii (c.sl+(u:Int))∧tm.E 9=.ii (c.gl+(v:Int))) ?_ ?_ (i:=0) (Nat.zero_le _)
    ⟨_,_,_,_,rfl,ll,ycf,yci,ych,ycm,by rw[show c.gl+((0:Nat):Int)=c.gl by omega];exact ycc⟩
   ·clear ll t5 t6 t7 t8 s3
    rintro v s hv ⟨tm,z3,y,vs,rfl,ll,t5,t6,t7,t8,t9⟩
    have hv':c.gl+(v:Int)≤c.gh:=by omega
    have s3:=ll.o.1
    simp(disch:=omega)only[go_sem,t5,t6,t7,t8,t9,Za (s3.get g6),hv']
    refine Zk RR.length (fun j s=>∃tm z3 y vs,s=⟨tm,z3,[]⟩∧LL z2 z3 y (preR c RR u v j) vs∧tm.E 5=yr∧tm.E 6=.ptr z1.next 0∧tm.E 7=y∧tm.E 8=.ii (c.sl+(u:Int))∧tm.E 9=.ii (c.gl+(v:Int))∧tm.E 10=.ii (j:Int)) ?_ ?_ (i:=0) (Nat.zero_le _)
     ⟨_,_,_,_,rfl,ll,ycf,yci,ych,ycm,(by simp[Zm,Zd,t9]<;>rfl),ycc⟩
    ·clear ll t5 t6 t7 t8 t9 s3
     rintro j s hj ⟨tm,z3,y,vs,rfl,ll,t5,t6,t7,t8,t9,t10⟩
     have hj':(j:Int)<(RR.length:Int):=by omega
     have s3:=ll.o.1
     obtain⟨bb,o,cs,w,hc,hq,hn,hv2,_⟩:=(kr.mono (s2.trans s3)).at_ hj
     have s3a:=(H.Sub.refl s3.wf).add (.bk [.ii (c.sl+(u:Int)),.ii (c.gl+(v:Int))])
     simp(disch:=omega)only[go_sem,t5,t6,t7,t8,t9,t10,hlr,hj',hq (Zb j),hc,s3a.cells hc,hn]
     refine cons2_app s3.wf hv2 (hrow _ (List.getElem_mem hj)) fun y4 z4 s4 x4 u4=>?_
     have o4:=x4.one
     simp(disch:=omega)only[go_sem,t5,t6,t7,t8,t9,t10,o4,cells_one o4]
     refine ll.push hw2 (hpl u v j ycb ycb ycb ycb) s4 x4 (u4.low s3.next) fun y5 z5 l5=>?_
     have w10:wr .i64 ((j:Int)+1)=(j:Int)+1:=Zo ycb ycb
     simp(disch:=omega)only[go_sem,t5,t6,t7,t8,t9,t10,w10]
     exact⟨_,_,_,_,rfl,by rw[preR_step c u v hj];exact l5,ycf,yci,ycc,ycm,(by simp[Zm,Zd,t9]<;>rfl),ycc⟩
    ·clear ll t5 t6 t7 t8 t9 s3
     rintro s ⟨tm,z3,y,vs,rfl,ll,t5,t6,t7,t8,t9,t10⟩
     have w9:wr .i64 (c.gl+(v:Int)+1)=c.gl+((v+1:Nat):Int):=by rw[Zo ycb ycb];omega
     simp(disch:=omega)only[go_sem,t5,t6,t7,t8,t9,t10,hlr,Int.lt_irrefl,w9]
     exact⟨_,_,_,_,rfl,by rw[preR_row];exact ll,ycf,yci,ych,ycm,ycc⟩
   ·clear ll t5 t6 t7 t8 s3
    rintro s ⟨tm,z3,y,vs,rfl,ll,t5,t6,t7,t8,t9⟩
    have hv':¬c.gl+(c.ng:Int)≤c.gh:=by omega
    have s3:=ll.o.1
    have w8:wr .i64 (c.sl+(u:Int)+1)=c.sl+((u+1:Nat):Int):=by rw[Zo ycb ycb];omega
    simp(disch:=omega)only[go_sem,t5,t6,t7,t8,t9,Za (s3.get g6),hv',w8]
    exact⟨_,_,_,_,rfl,by rw[preR_col];exact ll,ycf,yci,ych,ycc⟩
  ·rintro s ⟨tm,z3,y,vs,rfl,ll,t5,t6,t7,t8⟩
   have hu':¬c.sl+(c.ns:Int)≤c.sh:=by omega
   have s3:=ll.o.1
   simp(disch:=omega)only[go_sem,t5,t6,t7,t8,Za (s3.get g6),hu']
   have hfin:=ll.rd (hpl c.ns 0 0 (Nat.le_refl _) (fun _=>⟨rfl,rfl⟩) (Nat.zero_le _) (fun _=>rfl))
   rw[preR_full] at hfin
   exact q _ _ (s01.trans (s2.trans s3)) (hfin.low (s01.trans s2).next)
end Go.Ab.Tryz
namespace Go.Ab.Tryz
open Go.Proofs
def widS (s:Int × Int)(n:Int)(first:Bool):Int × Int:=if first=true then(n,n) else(min s.1 n,max s.2 n)
theorem wider_ev {h:H}(hw:h.wf)(s:Int × Int)(n:Int)(first:Bool)(Q:V→H→Prop)(q:∀h',h.Sub h'→Q (.agg [.ii (widS s n first).1,.ii (widS s n first).2]) h'):
  Ev fnG Zi (.fn 113 [] []) [.agg [.ii s.1,.ii s.2],.ii n,.bool first] h Q:=by
 refine Ze (fd:=c113) rfl rfl rfl ?_
 cases first with
 |true=>
  simp -implicitDefEqProofs(disch:=first|omega|simp only[nZ]<;>omega|fail)only[c113,go_sem]
  exact q _ yca
 |false=>
  simp -implicitDefEqProofs(disch:=first|omega|simp only[nZ]<;>omega|fail)only[c113,go_sem]
  exact q _ yca
end Go.Ab.Tryz
namespace Go.Ab.Tryz
open Go.Proofs
abbrev TT:=List Int × List Int × List Int
def flat2:ZZ→List Int
 |[]=>[]
 |s::l=>s.1::s.2::flat2 l
def XU:List Int→List Int
 |x::_::l=>x::XU l
 |_=>[]
def odds:List Int→List Int
 |_::y::l=>y::odds l
 |_=>[]
theorem evens_flat:∀l:ZZ,XU (flat2 l)=l.map Prod.fst
 |[]=>rfl
 |s::l=>by rw[flat2,XU,evens_flat l];rfl
theorem odds_flat:∀l:ZZ,odds (flat2 l)=l.map Prod.snd
 |[]=>rfl
 |s::l=>by rw[flat2,odds,odds_flat l];rfl
def InCks (cks:List Ck)(runs:ZZ):Prop:=runs.length=cks.length∧∀(k:Nat) s,runs[k]? =some s→∃c,cks[k]? =some c∧c.sl≤s.1∧s.1≤c.sh∧c.gl≤s.2∧s.2≤c.gh
theorem ns_iff {c:Ck}{u:Nat}:u<c.ns↔c.sl+u≤c.sh:=by unfold Ck.ns;omega
theorem ng_iff {c:Ck}{u:Nat}:u<c.ng↔c.gl+u≤c.gh:=by unfold Ck.ng;omega
theorem runsL_mem:∀{cks:List Ck} {l:List Int},l∈Xv cks↔∃runs,l=flat2 runs∧InCks cks runs
 |[],l=>by
  rw[Xv,List.mem_singleton]
  constructor
  ·rintro rfl;exact⟨[],rfl,rfl,fun k s h=>by simp at h⟩
  ·rintro⟨runs,rfl,h,_⟩;rw[List.length_eq_zero_iff.1 h];rfl
 |c::cs,l=>by
  rw[Xv,List.mem_flatMap]
  constructor
  ·rintro⟨u,hu,h⟩
   obtain⟨v,hv,h⟩:=List.mem_flatMap.1 h
   obtain⟨l',hl',rfl⟩:=List.mem_map.1 h
   obtain⟨runs,rfl,h1,h2⟩:=runsL_mem.1 hl'
   have hu:=ns_iff.1 (List.mem_range.1 hu)
   have hv:=ng_iff.1 (List.mem_range.1 hv)
   refine⟨(c.sl+u,c.gl+v)::runs,rfl,by rw[List.length_cons,List.length_cons,h1],fun k s hs=>?_⟩
   cases k with
   |zero=>
    rw[List.getElem?_cons_zero] at hs;cases hs
    exact⟨c,rfl,by show c.sl≤c.sl+u;omega,hu,by show c.gl≤c.gl+v;omega,hv⟩
   |succ k=>rw[List.getElem?_cons_succ] at hs;rw[List.getElem?_cons_succ];exact h2 k s hs
  ·rintro⟨runs,rfl,h1,h2⟩
   cases runs with
   |nil=>cases h1
   |cons s runs=>
    obtain⟨c',hc,q1,q2,q3,q4⟩:=h2 0 s rfl
    cases hc
    refine⟨(s.1-c.sl).toNat,List.mem_range.2 (ns_iff.2 ycb),List.mem_flatMap.2 ⟨(s.2-c.gl).toNat,List.mem_range.2 (ng_iff.2 ycb),List.mem_map.2 ⟨flat2 runs,runsL_mem.2 ⟨runs,rfl,by simpa using h1,fun k s hs=>by simpa using h2 (k+1) s (by simpa using hs)⟩,?_⟩⟩⟩
    rw[show c.sl+((s.1-c.sl).toNat:Int)=s.1 by omega,show c.gl+((s.2-c.gl).toNat:Int)=s.2 by omega];rfl
def allT (a:At):List TT:=((ZN a a.evs.toNat).filter (gapsB a)).flatMap fun tt=>(Xv a.cks).map fun l=>(XU l,odds l,tt)
def Xo (a:At)(t:TT):Int:=Vo a t.1 t.2.1 t.2.2
def Yf (a:At):List TT:=(allT a).filter fun t=>decide (Xo a t=0)
def LenT (a:At)(t:TT):Prop:=t.1.length=a.cks.length∧t.2.1.length=a.cks.length∧(t.2.2.length:Int)=a.evs
theorem time_far {tt:List Int}(h:(tt.length:Int)≤4):Zr tt 4=0:=by
 unfold Zr
 rw[List.getD_eq_getElem?_getD,List.getElem?_eq_none ycb];rfl
theorem allT_mem {a:At}(r:Zl a){t:TT}:t∈allT a↔LenT a t∧Tru a (fun _=>false) (t.1.zip t.2.1) (Zr t.2.2):=by
 have he:=r.evs
 have hm:=r.mins
 unfold allT
 rw[List.mem_flatMap]
 constructor
 ·rintro⟨tt,htt,h⟩
  obtain⟨l,hl,rfl⟩:=List.mem_map.1 h
  obtain⟨runs,rfl,h1,h2⟩:=runsL_mem.1 hl
  rw[List.mem_filter,XW] at htt
  obtain⟨⟨t1,t2⟩,t3⟩:=htt
  simp only[LenT,evens_flat,odds_flat,zip_unzip,List.length_map]
  refine⟨⟨h1,h1,by omega⟩,h1,fun k s hs=>⟨h2 k s hs⟩,time_far ycb,fun e _=>?_,fun g hg=>?_,fun j x _ hc=>by cases hc⟩
  ·unfold Zr
   rw[List.getD_eq_getElem?_getD]
   cases h:tt[e]? with
   |none=>exact⟨Int.le_refl _,by show(0:Int)≤_;omega⟩
   |some t=>
    have:=t2 t (List.mem_of_getElem? h)
    show 0≤t∧t≤a.mins
    omega
  ·unfold gapsB at t3
   have:=List.all_eq_true.1 t3 g hg
   unfold gapB at this
   exact Zs.1 this
 ·obtain⟨ss,gg,tt⟩:=t
  simp only[LenT]
  rintro⟨⟨l1,l2,l3⟩,tr⟩
  refine⟨tt,?_,List.mem_map.2 ⟨flat2 (ss.zip gg),runsL_mem.2 ⟨_,rfl,tr.len,fun k s hs=>(tr.run k s hs).is⟩,?_⟩⟩
  ·rw[List.mem_filter,XW]
   refine⟨⟨by omega,fun t ht=>?_⟩,?_⟩
   ·obtain⟨i,hi,rfl⟩:=List.mem_iff_getElem.1 ht
    have:=tr.mins i ycb
    rw[XG (List.getElem?_eq_getElem hi)] at this
    omega
   ·unfold gapsB
    rw[List.all_eq_true]
    intro g hg
    unfold gapB
    exact Zs.2 (tr.gaps g hg)
  ·rw[evens_flat,odds_flat,List.map_fst_zip ycb,List.map_snd_zip ycb]
theorem V2 {f:Nat→Bool}:∀{n:Nat},ZG f n=0↔∀j,j<n→f j=false
 |0=>by simp[ZG]
 |n+1=>by
  have hb:=WC f n
  have hp:(0:Int)<2^n:=Int.pow_pos ycd
  have ih:=V2 (f:=f) (n:=n)
  unfold ZG
  constructor
  ·intro h j hj
   by_cases hf:f n=true
   ·rw[if_pos hf] at h;omega
   ·rw[if_neg hf] at h
    rcases(by omega:j<n∨j=n) with hj|rfl
    ·exact ih.1 ycb j hj
    ·simpa using hf
  ·intro h
   rw[ih.2 fun j hj=>h j ycb,h n ycb];rfl
theorem tru_cnt {a:At}(r:Zl a){cnt:Nat→Bool}{t:TT}(l:LenT a t):Tru a cnt (t.1.zip t.2.1) (Zr t.2.2)↔Tru a (fun _=>false) (t.1.zip t.2.1) (Zr t.2.2)∧∀j,j<a.rds.length→cnt j=true→Xg a t.1 t.2.1 t.2.2 j=false:=by
 obtain⟨ss,gg,tt⟩:=t
 obtain⟨l1,l2,l3⟩:=l
 simp only at l1 l2 l3⊢
 have key:∀(j:Nat) (x:Rd),a.rds[j]? =some x→(Xg a ss gg tt j=false↔∀s,(ss.zip gg)[x.ck.toNat]? =some s→shw s.1 s.2 (Zr tt x.ev.toNat)=x.sh):=fun j x hx=>by
  obtain⟨k,e,e1,e2,h1,_,_⟩:=r.rdn (List.mem_of_getElem? hx)
  have hs:(ss.zip gg)[x.ck.toNat]? =some (ss.getD x.ck.toNat 0,gg.getD x.ck.toNat 0):=by
   rw[e1,Int.toNat_natCast,Wa,getD_at ycb,getD_at ycb]
   exact⟨List.getElem?_eq_getElem ycb,List.getElem?_eq_getElem ycb⟩
  unfold Xg
  rw[hx]
  simp only[decide_eq_false_iff_not,ne_eq,Decidable.not_not]
  constructor
  ·intro h s q
   rw[hs] at q;cases q
   exact h
  ·intro h;exact h _ hs
 constructor
 ·intro t
  exact⟨⟨t.len,t.run,t.beg,t.mins,t.gaps,fun j x _ hc=>by cases hc⟩,fun j hj hc=>(key j _ (List.getElem?_eq_getElem hj)).2 (t.rds j _ (List.getElem?_eq_getElem hj) hc)⟩
 ·rintro⟨t,h⟩
  exact⟨t.len,t.run,t.beg,t.mins,t.gaps,fun j x hx hc=>(key j x hx).1 (h j (Vf hx) hc)⟩
theorem fitT_mem {a:At}(r:Zl a){t:TT}:t∈Yf a↔LenT a t∧TruA a (t.1.zip t.2.1) (Zr t.2.2):=by
 unfold Yf
 rw[List.mem_filter,allT_mem r,decide_eq_true_eq]
 unfold Xo Vo
 rw[V2]
 constructor
 ·rintro⟨⟨l,h1⟩,h2⟩
  exact⟨l,(tru_cnt r l).2 ⟨h1,fun j hj _=>h2 j hj⟩⟩
 ·rintro⟨l,h⟩
  have:=(tru_cnt r l).1 h
  exact⟨⟨l,this.1⟩,fun j hj=>this.2 j hj rfl⟩
def ttOf (a:At)(runs:ZZ)(y:Nat→Int):TT:=(runs.map Prod.fst,runs.map Prod.snd,(List.range a.evs.toNat).map y)
theorem ttOf_len {a:At}(r:Zl a){runs:ZZ}{y:Nat→Int}{cnt:Nat→Bool}(h:Tru a cnt runs y):LenT a (ttOf a runs y):=by
 have:=r.evs
 exact⟨by rw[ttOf,List.length_map];exact h.len,by rw[ttOf,List.length_map];exact h.len,by rw[ttOf,List.length_map,List.length_range];omega⟩
theorem ttOf_zip (a:At)(runs:ZZ)(y:Nat→Int):(ttOf a runs y).1.zip (ttOf a runs y).2.1=runs:=zip_unzip runs
theorem ttOf_time {a:At}{runs:ZZ}{y:Nat→Int}{e:Nat}(he:(e:Int)<a.evs):Zr (ttOf a runs y).2.2 e=y e:=XG (by rw[ttOf,List.getElem?_map,List.getElem?_range (by omega)];rfl)
theorem ttOf_tru {a:At}(r:Zl a){runs:ZZ}{y:Nat→Int}{cnt:Nat→Bool}(h:Tru a cnt runs y):Tru a cnt ((ttOf a runs y).1.zip (ttOf a runs y).2.1) (Zr (ttOf a runs y).2.2):=by
 rw[ttOf_zip];exact h.cut r
theorem VF {a:At}(r:Zl a){runs:ZZ}{y:Nat→Int}(h:TruA a runs y):ttOf a runs y∈Yf a:=(fitT_mem r).2 ⟨ttOf_len r h,ttOf_tru r h⟩
theorem fitT_nil {a:At}(r:Zl a):Yf a=[]↔ZR a=[]:=by
 rw[noC r]
 constructor
 ·intro h runs y t
  have:=VF r t
  rw[h] at this;cases this
 ·intro h
  cases hh:Yf a with
  |nil=>rfl
  |cons t l=>
   have:t∈Yf a:=by rw[hh];exact List.mem_cons_self ..
   exact absurd ((fitT_mem r).1 this).2 (h _ _)
def ZX:List Int→Int × Int
 |[]=>(0,0)
 |x::l=>(l.foldl min x,l.foldl max x)
theorem Ua {l:List Int}{i:Nat}(hi:i<l.length):ZX (l.take (i+1))=widS (ZX (l.take i)) l[i] (decide (i=0)):=by
 cases l with
 |nil=>cases hi
 |cons x l=>
  cases i with
  |zero=>rfl
  |succ i=>
   have hi2:i<l.length:=by simpa using hi
   have e:l.take (i+1)=l.take i++[l[i]]:=by rw[List.take_add_one,List.getElem?_eq_getElem hi2];rfl
   rw[List.take_succ_cons,List.take_succ_cons,List.getElem_cons_succ]
   have h0:decide (i+1=0)=false:=rfl
   rw[e,h0]
   show((l.take i++[l[i]]).foldl min x,(l.take i++[l[i]]).foldl max x)=(min ((l.take i).foldl min x) l[i],max ((l.take i).foldl max x) l[i])
   rw[List.foldl_append,List.foldl_append];rfl
theorem foldMin:∀{l:List Int} {x:Int},(l.foldl min x=x∨l.foldl min x∈l)∧l.foldl min x≤x∧∀y∈l,l.foldl min x≤y
 |[],x=>⟨.inl rfl,Int.le_refl _,fun y h=>by cases h⟩
 |a::l,x=>by
  obtain⟨h1,h2,h3⟩:=foldMin (l:=l) (x:=min x a)
  rw[List.foldl_cons]
  refine⟨?_,by omega,fun y hy=>?_⟩
  ·rcases h1 with h1|h1
   ·rw[h1]
    rcases(by omega:min x a=x∨min x a=a) with e|e<;>rw[e]
    ·exact .inl rfl
    ·exact .inr (List.mem_cons_self ..)
   ·exact .inr (List.mem_cons_of_mem _ h1)
  ·rcases List.mem_cons.1 hy with rfl|hy
   ·omega
   ·exact h3 y hy
theorem foldMax:∀{l:List Int} {x:Int},(l.foldl max x=x∨l.foldl max x∈l)∧x≤l.foldl max x∧∀y∈l,y≤l.foldl max x
 |[],x=>⟨.inl rfl,Int.le_refl _,fun y h=>by cases h⟩
 |a::l,x=>by
  obtain⟨h1,h2,h3⟩:=foldMax (l:=l) (x:=max x a)
  rw[List.foldl_cons]
  refine⟨?_,by omega,fun y hy=>?_⟩
  ·rcases h1 with h1|h1
   ·rw[h1]
    rcases(by omega:max x a=x∨max x a=a) with e|e<;>rw[e]
    ·exact .inl rfl
    ·exact .inr (List.mem_cons_self ..)
   ·exact .inr (List.mem_cons_of_mem _ h1)
  ·rcases List.mem_cons.1 hy with rfl|hy
   ·omega
   ·exact h3 y hy
theorem wideL_spec {l:List Int}(h:l≠[]):(ZX l).1∈l∧(ZX l).2∈l∧∀x∈l,(ZX l).1≤x∧x≤(ZX l).2:=by
 cases l with
 |nil=>exact absurd rfl h
 |cons x l=>
  obtain⟨h1,h2,h3⟩:=foldMin (l:=l) (x:=x)
  obtain⟨k1,k2,k3⟩:=foldMax (l:=l) (x:=x)
  refine⟨?_,?_,fun y hy=>?_⟩
  ·rcases h1 with h1|h1
   ·show l.foldl min x∈_;rw[h1];exact List.mem_cons_self ..
   ·exact List.mem_cons_of_mem _ h1
  ·rcases k1 with h1|h1
   ·show l.foldl max x∈_;rw[h1];exact List.mem_cons_self ..
   ·exact List.mem_cons_of_mem _ h1
  ·rcases List.mem_cons.1 hy with rfl|hy
   ·exact⟨h2,k2⟩
   ·exact⟨h3 y hy,k3 y hy⟩
theorem wideL_eq {l:List Int}{lo hi:Int}(h1:lo∈l)(h2:hi∈l)(h3:∀x∈l,lo≤x∧x≤hi):ZX l=(lo,hi):=by
 obtain⟨k1,k2,k3⟩:=wideL_spec (List.ne_nil_of_mem h1)
 have a1:=h3 _ k1
 have a2:=h3 _ k2
 have a3:=k3 _ h1
 have a4:=k3 _ h2
 exact Prod.ext (by show _=lo;omega) (by show _=hi;omega)
end Go.Ab.Tryz
namespace Go.Ab.Tryz
open Go.Proofs
set_option maxHeartbeats 4000000 in
theorem agreed_ev {h:H}(hw:h.wf){d:Nat}{a:At}{C R G f W:V}{ms:List Nat}(dk:Dk h d a C R G f W ms)(r:Zl a){cnt:Nat→Bool}(hcnt:∀i,i<a.rds.length→YA h f [.ii (i:Int)] (.bool (cnt i)))
  (Q:V→H→Prop) (q:∀h',h.Sub h'→Q (.bool (decide (Zw a cnt≠[]))) h'):Ev fnG Zi (.fn 87 [] []) [.ptr d 0] h Q:=by
 have cd:∀hh p Q,Ev fnG Zi (.fn 73 [] []) [.ptr p 0] hh Q=Q (.fn 128 [] [.ptr hh.next 0]) (hh.add (.bk [.ptr p 0])):=fun hh p Q=>by
  refine Ev.det (Ze (fd:=c73) rfl rfl rfl ?_) Q
  simp(disch:=omega)only[c73,go_sem]
 refine Ze (fd:=c87) rfl rfl rfl ?_
 obtain⟨h6,hh6⟩:∃h6,(h.add (.bk [.bool false])).add (.bk [.ptr d 0])=h6:=⟨_,rfl⟩
 have s5:h.Sub h6:=by rw[←hh6];exact yca
 have q1:h6.get h.next=some (.bk [.bool false]):=by rw[←hh6];simp -implicitDefEqProofs(disch:=first|omega|simp only[nZ]<;>omega|fail)only[go_sem]
 have q2:h6.get (h.next+1)=some (.bk [.ptr d 0]):=by rw[←hh6];simp -implicitDefEqProofs(disch:=first|omega|simp only[nZ]<;>omega|fail)only[go_sem]
 have n5:h6.next=h.next+2:=by rw[←hh6];simp only[H.next_add]
 simp(disch:=omega)only[c87,go_sem,cd]
 try rw[hh6]
 clear hh6
 refine W_gen (P:=fun tm=>tm.E 2=.ptr h.next 0∧tm.E 4=.fn 128 [] [.ptr (h.next+1) 0]) ⟨ycc,ycc⟩ fun tm ⟨t2,t4⟩=>?_
 refine W_rf t4 ?_
 generalize hr:ZY.mk _ _ _ _ _ _ _ _ _=r0
 have fB:=congrArg ZY.body hr
 have fA:=congrArg ZY.assign hr
 have fN:=congrArg ZY.n hr
 have fF:=congrArg ZY.fn hr
 have fP:=congrArg ZY.ps hr
 have fT:=congrArg ZY.tm hr
 dsimp only at fB fA fN fF fP fT
 have hrs:r0.st=.ready:=by rw[←hr]
 have hrp:r0.pend=none:=by rw[←hr]
 have w6:=s5.wf
 obtain⟨J,hJ⟩:∃J:Nat→H→Prop,∀n x,J n x↔(h.Sub x∧n=0∧h6.next+1<x.next∧x.get (h6.next+1)=some (.loop r0)∧x.get h6.next=some .dfr∧x.get h.next=some (.bk [.bool false])):=⟨_,fun _ _=>Iff.rfl⟩
 obtain⟨S,hS⟩:∃S:H→Prop,∀x,S x↔(h.Sub x∧Zw a cnt≠[]∧x.get h.next=some (.bk [.bool true])∧x.get h6.next=some .dfr∧∃rr,x.get (h6.next+1)=some (.loop rr)∧rr.st=.done∧rr.pend=some .ret):=⟨_,fun _=>Iff.rfl⟩
 have s3:h6.Sub ((h6.add .dfr).add (.loop r0)):=((H.Sub.refl w6).add _).add _
 have j0:J 0 ((h6.add .dfr).add (.loop r0)):=(hJ _ _).2 ⟨s5.trans s3,rfl,by simp only[H.next_add];omega,Zc (by rw[H.next_add]),by rw[ZC ycn];exact Zc rfl,s3.get q1⟩
 have tk:Taker h (.yld (h6.next+1)) (Zw a cnt) J S (fun _ b=>b=h.next∨b=h6.next+1) 0:=by
  refine⟨fun p x hx=>?_,fun p x x' hx s=>?_,fun p x b hx hb=>?_,fun p x x' hx s b hb=>hb,fun p t ht x0 x R hx hR=>?_⟩
  ·exact⟨((hJ _ _).1 hx).1,Nat.zero_le _⟩
  ·obtain⟨k1,k2,k3,k4,k5,k6⟩:=(hJ _ _).1 hx
   exact(hJ _ _).2 ⟨k1.trans s,k2,by have:=s.next;omega,s.get k4,s.get k5,s.get k6⟩
  ·obtain⟨k1,k2,k3,k4,k5,k6⟩:=(hJ _ _).1 hx
   have:=k1.next
   have:=hw
   rcases hb with hb|hb<;>omega
  ·obtain⟨k1,k2,k3,k4,k5,k6⟩:=(hJ _ _).1 hx
   have hne:Zw a cnt≠[]:=fun e=>by rw[e] at ht;simp at ht
   refine Ev.gen fun Q2 q2'=>?_
   have sx:=hR.1
   have wx:=sx.wf
   have lx:=sx.next
   refine Ev_yld (tm:=tm.put (some (fdV R t.2)) 5) (sx.get k4) (by rw[←fP,←fT];rfl) ?_
   rw[←fA,←fN,←fF]
   simp(disch:=omega)only[go_sem]
   unfold Kasg
   refine⟨rfl,r0,sx.get k4,hrs,?_⟩
   obtain⟨rb,hrb⟩:∃rb:ZY,rb={r0 with st:=.busy}:=⟨_,rfl⟩
   rw[←hrb,←fB,←fN,←fF]
   have K3:Zh (fun c=>c=h6.next+1) x (x.set (h6.next+1) (.loop rb)):=Zh.set _ _ _
   have s4:h.Sub (x.set (h6.next+1) (.loop rb)):=(k1.trans sx).set ycb ycb hw _
   have gl3:(x.set (h6.next+1) (.loop rb)).get (h6.next+1)=some (.loop rb):=get_set_same rfl
   have gd3:=K3.2 _ _ (sx.get k5) ycb
   have c1:=K3.2 _ _ (sx.get k6) ycb
   have l3:(x.set (h6.next+1) (.loop rb)).next=x.next:=H.next_set _ _ _
   generalize x.set (h6.next+1) (.loop rb)=h3 at K3 s4 gl3 gd3 c1 l3⊢
   simp(disch:=omega)only[go_sem,t2,t4,c1]
   unfold Kround
   have K4:Zh (fun c=>c=h.next) h3 (h3.set h.next (.bk [.bool true])):=Zh.set _ _ _
   have s6:h.Sub (h3.set h.next (.bk [.bool true])):=s4.set ycb ycb hw _
   have l4:h6.next+1<(h3.set h.next (.bk [.bool true])).next:=by rw[H.next_set];omega
   refine⟨rb,by rw[get_set_other ycb];exact gl3,q2' _ _ ⟨.inr ⟨rfl,(hS _).2 ⟨s6.set ycb l4 hw _,hne,?_,?_,_,get_set_same rfl,rfl,rfl⟩⟩,⟨⟨by rw[H.next_set,H.next_set];omega,fun b w g nb=>?_⟩,fun b hb=>.inl hb⟩⟩⟩
   ·rw[get_set_other ycb,get_set_same rfl]
   ·rw[get_set_other ycb,get_set_other ycb];exact gd3
   ·rw[get_set_other fun e=>nb (.inr e),get_set_other fun e=>nb (.inl e)]
    exact K3.2 _ _ g fun e=>nb (.inr e)
 refine(cases_gen hw dk r hcnt ⟨_,rfl⟩ tk (b1:=h.next+1) (x:=(h6.add .dfr).add (.loop r0)) ycb j0 (s3.get q2)).mono fun u h7 hu=>?_
 rcases hu with hJ7|hS7
 ·obtain⟨s7,hno,lx,gl,gd,g2⟩:=(hJ _ _).1 hJ7
  have hlb:decide (Zw a cnt≠[])=false:=by
   rw[List.length_eq_zero_iff.1 hno];simp
  refine⟨r0,gl,by rw[hrs];simp,?_⟩
  rw[hrp]
  have lt7:=s7.wf _ _ gl
  have s8:h.Sub (h7.set (h6.next+1) (.loop {r0 with st:=.exhausted})):=s7.set ycb lt7 hw _
  have d8:(h7.set (h6.next+1) (.loop {r0 with st:=.exhausted})).get h6.next=some .dfr:=by rw[get_set_other ycb];exact gd
  have c8:(h7.set (h6.next+1) (.loop {r0 with st:=.exhausted})).get h.next=some (.bk [.bool false]):=by rw[get_set_other ycb];exact g2
  rw[hrp] at s8 d8 c8
  generalize h7.set (h6.next+1) _=h8 at s8 d8 c8⊢
  have l8:=s8.wf _ _ c8
  have d9:(h8.set h.next (.bk [.bool false])).get h6.next=some .dfr:=by rw[get_set_other ycb];exact d8
  have s9:h.Sub (h8.set h.next (.bk [.bool false])):=s8.set ycb l8 hw _
  have c9:((h8.set h.next (.bk [.bool false])).del h6.next).cells h.next=some [.bool false]:=by rw[Wv ycb,W8 rfl]
  simp(disch:=omega)only[go_sem,t2,t4,c8,Kfin_ret1 _ _ _ d9,c9]
  rw[hlb] at q
  exact q _ (H.Sub.del s9 ycb hw)
 ·obtain⟨s7,hne,g2,gd,rr,gl,hst,hpe⟩:=(hS _).1 hS7
  have hlb:decide (Zw a cnt≠[])=true:=decide_eq_true hne
  refine⟨rr,gl,by rw[hst];simp,?_⟩
  rw[hpe]
  have lt7:=s7.wf _ _ gl
  have s8:h.Sub (h7.set (h6.next+1) (.loop {rr with st:=.exhausted})):=s7.set ycb lt7 hw _
  have d8:(h7.set (h6.next+1) (.loop {rr with st:=.exhausted})).get h6.next=some .dfr:=by rw[get_set_other ycb];exact gd
  have c8:(h7.set (h6.next+1) (.loop {rr with st:=.exhausted})).get h.next=some (.bk [.bool true]):=by rw[get_set_other ycb];exact g2
  rw[hpe] at s8 d8 c8
  generalize h7.set (h6.next+1) _=h8 at s8 d8 c8⊢
  have c9:(h8.del h6.next).cells h.next=some [.bool true]:=by rw[Wv ycb];exact Za c8
  simp(disch:=omega)only[go_sem,t2,t4,Kfin_ret1 _ _ _ d8,c9]
  rw[hlb] at q
  exact q _ (H.Sub.del s8 ycb hw)
end Go.Ab.Tryz
namespace Go.Ab.Tryz
open Go.Proofs
theorem fits1_ev {h:H}{a:At}{C R G:V}{b:Nat}(gb:h.cells b=some (atV a C R G))(n:Int):YA h (.fn 110 [] [.ptr b 0]) [.ii n] (.bool (inB n 0 a.mins)):=by
 intro h1 s
 refine Ze (fd:=c110) rfl rfl rfl ?_
 simp(disch:=omega)only[c110,go_sem,s.cells gb,Xx]
 exact H.Sub.refl s.wf
theorem fits2_ev {h:H}(hw:h.wf){S Ga Tm:V}{ss gg tt:List Int}(t:WF h S Ga Tm ss gg tt)(hb:∀t∈tt,0≤t∧t≤240){b:Nat}(gb:h.cells b=some [S,Ga,Tm]){y:Rd}{k e:Nat}(e1:y.ck=k)(e2:y.ev=e)(l1:k<ss.length)(l2:k<gg.length)(l3:e<tt.length)(hrun:Wy ss[k] gg[k]):
  E (.fn 111 [] [.ptr b 0]) [.agg (encR y)] h fun u h'=>u=.bool (WX ss gg tt y)∧h.Sub h':=by
 refine Ze (fd:=c111) rfl rfl rfl ?_
 have lb:b<h.next:=(H.cells_eq gb).elim fun kd e=>hw _ _ e
 obtain⟨b1,o1,c1,cs1,ef1,hc1,hq1,_,_,n1⟩:=t.s.at l1
 obtain⟨b2,o2,c2',cs2,ef2,hc2,hq2,_,_,n2⟩:=t.g.at l2
 obtain⟨b3,o3,c3',cs3,ef3,hc3,hq3,_,_,n3⟩:=t.t.at l3
 have v1:=n1 ycd
 have v2:=n2 ycd
 have v3:=n3 ycd
 simp only[encI,List.getElem?_cons_zero] at v1 v2 v3
 have q3:=hb _ (List.getElem_mem l3)
 have hf:WX ss gg tt y=decide (shw ss[k] gg[k] tt[e]=y.sh):=by
  unfold WX
  rw[e1,e2,Int.toNat_natCast,Int.toNat_natCast,getD_at l1,getD_at l2,getD_at l3]
 rw[hf]
 have lb1:b1<h.next:=(H.cells_eq hc1).elim fun kd e=>hw _ _ e
 have lb2:b2<h.next:=(H.cells_eq hc2).elim fun kd e=>hw _ _ e
 have lb3:b3<h.next:=(H.cells_eq hc3).elim fun kd e=>hw _ _ e
 generalize ss[k]=y1 at v1 hrun⊢
 generalize gg[k]=y2 at v2 hrun⊢
 generalize tt[e]=y3 at v3 q3⊢
 simp(disch:=omega)only[c111,go_sem,encR,gb,e1,e2,hq1 (Zb k),hq2 (Zb k),hq3 (Zb e),hc1,hc2,hc3,v1,v2,v3]
 have s1:h.Sub (h.add (.bk [.ii (k:Int),.ii (e:Int),.ii y.sh])):=yca
 have g1:(h.add (.bk [.ii (k:Int),.ii (e:Int),.ii y.sh])).cells h.next=some [.ii (k:Int),.ii (e:Int),.ii y.sh]:=Zu rfl
 refine shows_ev rfl s1.wf hrun q3.1 q3.2 _ fun h4 s4=>?_
 have s14:=s1.trans s4
 simp(disch:=omega)only[go_sem,s4.cells g1,s14.cells gb,s14.cells hc1,s14.cells hc2,s14.cells hc3,gb,hc1,hc2,hc3,v1,v2,v3]
 exact s14
theorem fits3_ev {h:H}(hw:h.wf){S Ga Tm:V}{ss gg tt:List Int}(t:WF h S Ga Tm ss gg tt)(hb:∀t∈tt,0≤t∧t≤240){b:Nat}(gb:h.cells b=some [S,Ga,Tm]){g:Gp}{i e:Nat}(e1:g.fr=i)(e2:g.to=e)(l1:i<tt.length)(l2:e<tt.length):
  E (.fn 112 [] [.ptr b 0]) [.agg (ZF g)] h fun u h'=>u=.bool (gpFit tt g)∧h.Sub h':=by
 refine Ze (fd:=c112) rfl rfl rfl ?_
 have lb:b<h.next:=(H.cells_eq gb).elim fun kd e=>hw _ _ e
 obtain⟨b1,o1,c1,cs1,ef1,hc1,hq1,_,_,n1⟩:=t.t.at l1
 obtain⟨b2,o2,c2',cs2,ef2,hc2,hq2,_,_,n2⟩:=t.t.at l2
 have v1:=n1 ycd
 have v2:=n2 ycd
 simp only[encI,List.getElem?_cons_zero] at v1 v2
 have q1:=hb _ (List.getElem_mem l1)
 have q2:=hb _ (List.getElem_mem l2)
 have lb1:b1<h.next:=(H.cells_eq hc1).elim fun kd e=>hw _ _ e
 have lb2:b2<h.next:=(H.cells_eq hc2).elim fun kd e=>hw _ _ e
 have hgp:gpFit tt g=inB (tt[e]-tt[i]) g.lo g.hi:=by
  unfold gpFit
  rw[e1,e2,Int.toNat_natCast,Int.toNat_natCast,getD_at l1,getD_at l2]
 rw[hgp]
 generalize tt[i]=y1 at v1 q1⊢
 generalize tt[e]=y2 at v2 q2⊢
 have w:wr .i64 (y2-y1)=y2-y1:=Zo ycb ycb
 simp(disch:=omega)only[c112,go_sem,ZF,gb,e1,e2,hq1 (Zb i),hq2 (Zb e),hc1,hc2,v1,v2,w,Xx]
 exact yca
def fitsR (a:At)(ss gg tt:List Int):Bool:=decide (Zn a=0)&&VV a ss gg tt
set_option maxHeartbeats 4000000 in
theorem Fits_ev {h:H}(hw:h.wf){a:At}{C R G:V}(x:ZP h C R G a){S Ga Tm:V}{ss gg tt:List Int}(t:WF h S Ga Tm ss gg tt)(Q:V→H→Prop)(q:∀h',h.Sub h'→Q (.tup [.bool (fitsR a ss gg tt),.ii (Zn a)]) h'):
  Ev fnG Zi (.fn 57 [] []) [.agg (atV a C R G),.agg [S,Ga,Tm]] h Q:=by
 have oC:=x.c.one;have oR:=x.r.one;have oG:=x.g.one
 have oS:=t.s.one;have oGa:=t.g.one;have oTm:=t.t.one
 have hlC:=x.c.lenE;have hlR:=x.r.lenE;have hlG:=x.g.lenE
 have hlS:=t.s.lenE;have hlGa:=t.g.lenE;have hlT:=t.t.lenE
 refine Ze (fd:=c57) rfl rfl rfl ?_
 obtain⟨z,hz⟩:∃z,(h.add (.bk (atV a C R G))).add (.bk [S,Ga,Tm])=z:=⟨_,rfl⟩
 have sz:h.Sub z:=by rw[←hz];exact yca
 have ga:z.get h.next=some (.bk (atV a C R G)):=by rw[←hz];simp -implicitDefEqProofs(disch:=first|omega|simp only[nZ]<;>omega|fail)only[go_sem]
 have gt:z.get (h.next+1)=some (.bk [S,Ga,Tm]):=by rw[←hz];simp -implicitDefEqProofs(disch:=first|omega|simp only[nZ]<;>omega|fail)only[go_sem]
 simp -implicitDefEqProofs(disch:=first|omega|simp only[nZ]<;>omega|fail)only[c57,go_sem,oS,oGa,oTm,oC,oR,oG]
 rw[hz]
 clear hz
 refine Y9 sz.wf ⟨C,R,G,rfl,x.mono sz⟩ _ fun z1 s1=>?_
 have hs1:=sz.trans s1
 by_cases he:Zn a=0
 case neg=>
  simp(disch:=omega)only[go_sem,(decide_eq_true he:decide (Zn a≠0)=true)]
  have:=q z1 hs1
  rwa[show fitsR a ss gg tt=false by simp[fitsR,he]] at this
 have r:=Zz.1 he
 have d0:decide ((0:Int)≠0)=false:=rfl
 have hfR:fitsR a ss gg tt=VV a ss gg tt:=by simp[fitsR,he]
 rw[hfR,he] at q
 rw[he]
 have rl:=r.lens
 have re:=r.evs
 have rm:=r.mins
 have no:VV a ss gg tt=false→∀z',z1.Sub z'→Q (.tup [.bool false,.ii 0]) z':=fun e z' s=>by have:=q z' (hs1.trans s);rwa[e] at this
 have s10:=H.Sub.refl hs1.wf
 have ga1:=s1.get ga
 have gt1:=s1.get gt
 obtain⟨b1,hb1⟩:∃b,decide ((ss.length:Int)≠(a.cks.length:Int))=b:=⟨_,rfl⟩
 obtain⟨b2,hb2⟩:∃b,decide ((gg.length:Int)≠(a.cks.length:Int))=b:=⟨_,rfl⟩
 obtain⟨b3,hb3⟩:∃b,decide ((tt.length:Int)≠a.evs)=b:=⟨_,rfl⟩
 by_cases hl:Wu a ss gg tt=true
 case neg=>
  have hf:VV a ss gg tt=false:=by cases hh:VV a ss gg tt;rfl;exact absurd (Uk.1 hh).1 hl
  have hor:b1=true∨b2=true∨b3=true:=by
   rw[Y4] at hl
   rw[←hb1,←hb2,←hb3]
   simp only[decide_eq_true_eq]
   omega
  cases b1<;>cases b2<;>cases b3
  all_goals try(exfalso;revert hor;decide)
  all_goals
   simp(disch:=omega)only[go_sem,d0,Za ga1,Za gt1,hlC,hlS,hlGa,hlT,hb1,hb2,hb3]
   exact no hf _ s10
 obtain⟨l1,l2,l3⟩:=Y4.1 hl
 have e1:b1=false:=by rw[←hb1];simp;omega
 have e2:b2=false:=by rw[←hb2];simp;omega
 have e3:b3=false:=by rw[←hb3];simp;omega
 subst e1 e2 e3
 simp(disch:=omega)only[go_sem,d0,Za ga1,Za gt1,hlC,hlS,hlGa,hlT,hb1,hb2,hb3]
 refine(everyInt_ev (p:=fun n=>inB n 0 a.mins) hs1.wf (t.t.mono hs1) fun n _=>fits1_ev (Za ga1) n).mono fun u z2 hu=>?_
 obtain⟨rfl,s2⟩:=hu
 have hs2:=hs1.trans s2
 cases htim:tt.all fun n=>inB n 0 a.mins with
 |false=>
  simp(disch:=omega)only[go_sem]
  exact no (by cases hh:VV a ss gg tt;rfl;have:=(Uk.1 hh).2.1;rw[WR,htim] at this;cases this) _ s2
 |true=>
 have hbt:∀y∈tt,0≤y∧y≤240:=fun y hy=>by
  have:=(Zs ..).1 (List.all_eq_true.1 htim y hy);omega
 have ga2:=s2.get ga1
 have gt2:=s2.get gt1
 simp(disch:=omega)only[go_sem,Za ga2,hlC]
 refine Zk a.cks.length (fun i s=>∃tm z',s=⟨tm,z',[]⟩∧z2.Sub z'∧(∀(j:Nat) c s g,j<i→a.cks[j]? =some c→ss[j]? =some s→gg[j]? =some g→XC c (s,g)=true)∧
   tm.E 2=.ptr h.next 0∧tm.E 3=.ptr (h.next+1) 0∧tm.E 46=C∧tm.E 47=.ii (a.cks.length:Int)∧tm.E 48=.ii (i:Int)) ?_ ?_ (i:=0) (Nat.zero_le _)
  ⟨_,_,rfl,H.Sub.refl s2.wf,fun j _ _ _ hj=>absurd hj (Nat.not_lt_zero _),ycc,ycc,ycc,ycc,ycc⟩
 ·rintro i s hi ⟨tm,z',rfl,s',hok,t2,t3,t36,t37,t38⟩
  have hi':(i:Int)<(a.cks.length:Int):=by omega
  have hsz:=hs2.trans s'
  obtain⟨b,o,cc,cs,eC,hc,hq,hg,_,_⟩:=(x.c.mono hsz).at hi
  have his:i<ss.length:=by omega
  have hig:i<gg.length:=by omega
  obtain⟨b1,o1,cc1,cs1,eS,hc1,hq1,_,_,n1⟩:=(t.s.mono hsz).at his
  obtain⟨b2,o2,cc2,cs2,eG,hc2,hq2,_,_,n2⟩:=(t.g.mono hsz).at hig
  have v1:=n1 ycd
  have v2:=n2 ycd
  simp only[encI,List.getElem?_cons_zero] at v1 v2
  have ka:a.cks[i]? =some a.cks[i]:=List.getElem?_eq_getElem hi
  have ks:ss[i]? =some ss[i]:=List.getElem?_eq_getElem his
  have kg:gg[i]? =some gg[i]:=List.getElem?_eq_getElem hig
  generalize a.cks[i]=c at hg ka
  generalize ss[i]=y1 at v1 ks
  generalize gg[i]=y2 at v2 kg
  simp only[Z9] at hg
  have hwz:=hsz.wf
  have lb1:b1<z'.next:=(H.cells_eq hc1).elim fun kd e=>hwz _ _ e
  have lb2:b2<z'.next:=(H.cells_eq hc2).elim fun kd e=>hwz _ _ e
  have ga':=s'.get ga2
  have gt':=s'.get gt2
  have lt':=hwz _ _ gt'
  have hcf:XC c (y1,y2)=(inB y1 c.sl c.sh&&inB y2 c.gl c.gh):=rfl
  have bad:XC c (y1,y2)=false→∀z2,z'.Sub z2→Q (.tup [.bool false,.ii 0]) z2:=fun e z2 s2'=>no (by
   cases hh:VV a ss gg tt
   ·rfl
   ·have:=cksFit_at (Uk.1 hh).2.2.1 ka ks kg
    rw[e] at this;cases this) _ (s2.trans (s'.trans s2'))
  have sz':=H.Sub.refl hwz
  cases k1:inB y1 c.sl c.sh with
  |false=>
   simp(disch:=omega)only[go_sem,t2,t3,t36,t37,t38,hi',hq (Zb i),hc,hg,Za gt',hq1 (Zb i),hc1,v1,Xx,k1]
   exact bad (by rw[hcf,k1];rfl) _ yca
  |true=>
   cases k2:inB y2 c.gl c.gh with
   |false=>
    simp(disch:=omega)only[go_sem,t2,t3,t36,t37,t38,hi',hq (Zb i),hc,hg,Za gt',hq1 (Zb i),hc1,v1,hq2 (Zb i),hc2,v2,Xx,k1,k2]
    exact bad (by rw[hcf,k1,k2];rfl) _ yca
   |true=>
    simp(disch:=omega)only[go_sem,t2,t3,t36,t37,t38,hi',hq (Zb i),hc,hg,Za gt',hq1 (Zb i),hc1,v1,hq2 (Zb i),hc2,v2,Xx,k1,k2,Zj]
    refine⟨_,_,rfl,s'.trans yca,fun j c' s' g' hj q1 q2 q3=>?_,ycj,ycp,(by simp[Zm,Zd,t36]<;>rfl),(by simp[Zm,Zd,t37]<;>rfl),ycc⟩
    by_cases e:j=i
    ·subst e
     rw[ka] at q1;rw[ks] at q2;rw[kg] at q3
     cases q1;cases q2;cases q3
     rw[hcf,k1,k2];rfl
    ·exact hok j c' s' g' ycb q1 q2 q3
 rintro s ⟨tm,z',rfl,s',hok,t2,t3,t36,t37,t38⟩
 have hcks:YX a ss gg=true:=cksFit_of fun j c s g q1 q2 q3=>hok j c s g (Vf q1) q1 q2 q3
 have ga':=s'.get ga2
 have gt':=s'.get gt2
 have hsz:=hs2.trans s'
 simp(disch:=omega)only[go_sem,t2,t3,t36,t37,t38,Int.lt_irrefl,Za ga']
 refine(everyRd_ev (p:=fun y=>WX ss gg tt y) hsz.wf (x.r.mono hsz) fun y hy h2 s2'=>?_).mono fun u z4 hu=>?_
 ·obtain⟨k,e,ek,ee,hk,he',he4⟩:=r.rdn hy
  have hks:k<ss.length:=by omega
  have hkg:k<gg.length:=by omega
  exact fits2_ev s2'.wf (t.mono (hsz.trans s2')) hbt (Za (s2'.get gt')) ek ee hks hkg ycb (ckFit_run r (List.getElem_mem hk) (cksFit_at hcks (List.getElem?_eq_getElem hk) (List.getElem?_eq_getElem hks) (List.getElem?_eq_getElem hkg)))
 obtain⟨rfl,s4⟩:=hu
 cases hrds:a.rds.all fun y=>WX ss gg tt y with
 |false=>
  simp(disch:=omega)only[go_sem]
  exact no (by cases hh:VV a ss gg tt;rfl;have:=(Uk.1 hh).2.2.2.1;rw[hrds] at this;cases this) _ (s2.trans (s'.trans s4))
 |true=>
 have ga4:=s4.get ga'
 have gt4:=s4.get gt'
 have hs4:=hsz.trans s4
 simp(disch:=omega)only[go_sem,Za ga4,t2,t3]
 refine(Um (p:=fun g=>gpFit tt g) hs4.wf (x.g.mono hs4) fun g hg h2 s2'=>?_).mono fun u z5 hu=>?_
 ·obtain⟨i,e,e1,e2,l1',l2',_,_⟩:=r.gpn hg
  exact fits3_ev s2'.wf (t.mono (hs4.trans s2')) hbt (Za (s2'.get gt4)) e1 e2 ycb ycb
 ·obtain⟨rfl,s5⟩:=hu
  simp(disch:=omega)only[go_sem]
  have:=q z5 (hs4.trans s5)
  have e:VV a ss gg tt=a.gps.all fun g=>gpFit tt g:=by
   have hrds':a.rds.all (WX ss gg tt)=true:=hrds
   unfold VV WR
   rw[hl,htim,hcks,hrds'];simp
  rwa[e] at this
end Go.Ab.Tryz
namespace Go.Ab.Tryz
open Go.Proofs
def WV (ss gg tt:List Int):Nat→List (List V)
 |0=>ss.map encI
 |1=>gg.map encI
 |2=>tt.map encI
 |_=>[]
theorem rowsT0 {ss gg tt:List Int}{c:Int}:∀i,i<6→Ys (WV ss gg tt) 0 (WV ss gg tt 0++[encI c]) i=WV (ss++[c]) gg tt i:=fun i hi=>by
 rcases(by omega:i=0∨i=1∨i=2∨i=3∨i=4∨i=5) with rfl|rfl|rfl|rfl|rfl|rfl<;>simp[Ys,WV]
theorem rowsT1 {ss gg tt:List Int}{c:Int}:∀i,i<6→Ys (WV ss gg tt) 1 (WV ss gg tt 1++[encI c]) i=WV ss (gg++[c]) tt i:=fun i hi=>by
 rcases(by omega:i=0∨i=1∨i=2∨i=3∨i=4∨i=5) with rfl|rfl|rfl|rfl|rfl|rfl<;>simp[Ys,WV]
theorem rowsT2 {ss gg tt:List Int}{c:Int}:∀i,i<6→Ys (WV ss gg tt) 2 (WV ss gg tt 2++[encI c]) i=WV ss gg (tt++[c]) i:=fun i hi=>by
 rcases(by omega:i=0∨i=1∨i=2∨i=3∨i=4∨i=5) with rfl|rfl|rfl|rfl|rfl|rfl<;>simp[Ys,WV]
structure SmI (h0 z:H)(b7:Nat)(v:Nat→V)(ss gg tt:List Int):Prop where
 sl:Sl6 h0 z (b7+1) v (fun _=>1) (WV ss gg tt)
 g:z.get b7=some (.bk [v 0,v 1,v 2])
 nx:b7+1≤z.next
theorem SmI.sub {h0 z:H}{b7:Nat}{v:Nat→V}{ss gg tt:List Int}(k:SmI h0 z b7 v ss gg tt):h0.Sub z:=(k.sl.o 0 ycd).1
theorem SmI.mono {h0 z z':H}{b7:Nat}{v:Nat→V}{ss gg tt:List Int}(k:SmI h0 z b7 v ss gg tt)(s:z.Sub z'):SmI h0 z' b7 v ss gg tt:=⟨k.sl.mono s,s.get k.g,Nat.le_trans k.nx s.next⟩
theorem SmI.put {h0 z z':H}{b7:Nat}{v v':Nat→V}{ss gg tt ss' gg' tt':List Int}(k:SmI h0 z b7 v ss gg tt)(hw:h0.wf)(hb:h0.next≤b7){S:Nat→Prop}(kk:Zh S z z')(sl:Sl6 h0 z' (b7+1) v' (fun _=>1) (WV ss' gg' tt')):
  SmI h0 (z'.set b7 (.bk [v' 0,v' 1,v' 2])) b7 v' ss' gg' tt':=by
 have s5:=(sl.o 0 ycb).1
 have l5:=kk.1
 have lz:=k.nx
 have sz:=s5.set (b:=b7) hb ycb hw (.bk [v' 0,v' 1,v' 2])
 exact⟨sl.keep (Zh.set z' b7 (.bk [v' 0,v' 1,v' 2])) sz fun b hb=>by omega,get_set_same rfl,by rw[H.next_set];omega⟩
theorem SmI.tr {h0 z:H}{b7:Nat}{v:Nat→V}{ss gg tt:List Int}(k:SmI h0 z b7 v ss gg tt)(l1:ss.length≤1000)(l2:gg.length≤1000)(l3:tt.length≤1000):WF z (v 0) (v 1) (v 2) ss gg tt:=
 ⟨(k.sl.o 0 ycd).sl (by show(ss.map encI).length≤_;rw[List.length_map];omega),(k.sl.o 1 ycd).sl (by show(gg.map encI).length≤_;rw[List.length_map];omega),(k.sl.o 2 ycd).sl (by show(tt.map encI).length≤_;rw[List.length_map];omega)⟩
theorem tr_nil (h:H):WF h .nils .nils .nils [] [] []:=by
 have:Zg h .nils 1 (([]:List Int).map encI):=⟨by simp,by simp,.inl ⟨rfl,rfl⟩⟩
 exact⟨this,this,this⟩
def YY (a:At):List Int × List Int × List Int:=match ZR a with
 |[]=>([],[],[])
 |t::_=>if ZO a false=0 then(t.1.map Prod.fst,t.1.map Prod.snd,(List.range a.evs.toNat).map fun i=>mg t.2 4 i) else([],[],[])
set_option maxHeartbeats 4000000 in
theorem Some_own {h:H}(hw:h.wf){a:At}{C R G:V}(x:ZP h C R G a)(Q:V→H→Prop)(q:∀S Ga Tm h',h.Sub h'→WF h' S Ga Tm (YY a).1 (YY a).2.1 (YY a).2.2→ZW h h' Tm 1 ((YY a).2.2.map encI)→(∀b,Zq Tm b→¬Zq S b∧¬Zq Ga b)→Q (.tup [.agg [S,Ga,Tm],.ii (ZO a false)]) h'):
  Ev fnG Zi (.fn 6 [] []) [.agg (atV a C R G)] h Q:=by
 have oC:=x.c.one;have oR:=x.r.one;have oG:=x.g.one
 refine Ze (fd:=c6) rfl rfl rfl ?_
 obtain⟨z,hz⟩:∃z,(h.add (.bk (atV a C R G))).add (.bk [.nils,.nils,.nils])=z:=⟨_,rfl⟩
 have sz:h.Sub z:=by rw[←hz];exact yca
 have nz:z.next=h.next+2:=by rw[←hz];simp only[H.next_add]
 have ga:z.get h.next=some (.bk (atV a C R G)):=by rw[←hz];simp -implicitDefEqProofs(disch:=first|omega|simp only[nZ]<;>omega|fail)only[go_sem]
 have gb:z.get (h.next+1)=some (.bk [.nils,.nils,.nils]):=by rw[←hz];simp -implicitDefEqProofs(disch:=first|omega|simp only[nZ]<;>omega|fail)only[go_sem]
 simp -implicitDefEqProofs(disch:=first|omega|simp only[nZ]<;>omega|fail)only[c6,go_sem,oC,oR,oG]
 rw[hz]
 clear hz
 refine VG sz.wf (x.mono sz) false _ (fun z1 s1 he=>?_) fun z1 v y Ps s1 hx hl ho hne r _ he e f=>?_
 ·have l1:=s1.next
  have hs1:=sz.trans s1
  have eT:YY a=([],[],[]):=by
   unfold YY
   split
   ·rfl
   ·rw[if_neg he]
  simp(disch:=omega)only[go_sem,(decide_eq_true he:decide (ZO a false≠0)=true),s1.get gb]
  have s2:=hs1.set (b:=h.next+1) ycb ycb hw (.bk [.nils,.nils,.nils])
  have:=q .nils .nils .nils _ s2 (by rw[eT];exact tr_nil _) (by rw[eT];exact(Zx.nil s2 1).c) fun b hb=>(Zy hb).elim
  exact this
 have l1:=s1.next
 have hs1:=sz.trans s1
 have d0:decide ((0:Int)≠0)=false:=rfl
 obtain⟨p,P',rfl⟩:=List.exists_cons_of_ne_nil hne
 have hpl:=hl p (List.mem_cons_self ..)
 have hpe:=f.e p (List.mem_cons_self ..)
 have hpc:ZR a=(p.2.1,p.2.2)::P'.map Prod.snd:=by rw[←e];rfl
 have hmem:(p.2.1,p.2.2)∈Zw a (fun _=>true):=by show _∈ZR a;rw[hpc];exact List.mem_cons_self ..
 have hlen:p.2.1.length=a.cks.length:=(Yn r hmem).2.1
 have hins:∀(i:Nat) s,p.2.1[i]? =some s→Wn a i s:=(Yn r hmem).2.2.1
 have rl:=r.lens
 have re:=r.evs
 have hso:Zg z1 p.1 2 (p.2.1.map XP):=hpe.sl yce
 have eT:YY a=(p.2.1.map Prod.fst,p.2.1.map Prod.snd,(List.range a.evs.toNat).map fun i=>mg p.2.2 4 i):=by
  unfold YY
  rw[hpc]
  simp only
  rw[if_pos he]
 rw[eT] at q
 obtain⟨bY,oY,cY,csY,eY,hcY,hqY,hgY,hnY,_⟩:=hx.at (k:=0) ycl
 simp only[List.getElem_cons_zero] at hgY hnY
 have hv0:nth oY csY=some p.1:=by have:=hnY 0 ycd;simpa[YW] using this
 have hlR:=hso.lenE
 have sA:=(H.Sub.refl hs1.wf).add (.bk [.nils,.nils,.nils])
 have gA:(z1.add (.bk [.nils,.nils,.nils])).get z1.next=some (.bk [.nils,.nils,.nils]):=Zc rfl
 have nA':=H.next_add z1 (.bk [.nils,.nils,.nils])
 have lbY:bY<z1.next:=(H.cells_eq hcY).elim fun kd e=>hs1.wf _ _ e
 simp(disch:=omega)only[go_sem,d0,hqY nat_zero,hcY,hv0,hlR]
 obtain⟨zA,hzA⟩:∃zA,z1.add (.bk [.nils,.nils,.nils])=zA:=⟨_,rfl⟩
 rw[hzA] at sA gA nA'
 try rw[hzA]
 have w1:=hs1.wf
 have k0:SmI z1 zA z1.next (fun _=>.nils) [] [] []:=by
  refine⟨⟨fun i hi=>?_,fun i hi b hb=>(Zy hb).elim,fun i j _ _ _ b hb=>(Zy hb).elim⟩,gA,by omega⟩
  have:WV [] [] [] i=[]:=by rcases(by omega:i=0∨i=1∨i=2∨i=3∨i=4∨i=5) with rfl|rfl|rfl|rfl|rfl|rfl<;>rfl
  rw[this];exact(Zx.nil sA _).c
 have lzh:h.next+2≤z1.next:=by omega
 refine Zk p.2.1.length (fun i s=>∃tm z' v,s=⟨tm,z',[]⟩∧SmI z1 z' z1.next v ((p.2.1.take i).map Prod.fst) ((p.2.1.take i).map Prod.snd) []∧
   tm.E 1=.ptr h.next 0∧tm.E 2=.ptr (h.next+1) 0∧tm.E 5=y∧tm.E 7=.ptr z1.next 0∧tm.E 24=p.1∧tm.E 25=.ii (p.2.1.length:Int)∧tm.E 26=.ii (i:Int)) ?_ ?_ (i:=0) (Nat.zero_le _)
  ⟨_,_,_,rfl,k0,ycc,ycc,ycc,ycc,ycc,ycc,ycc⟩
 ·clear k0
  rintro i s hi ⟨tm,z',vv,rfl,k,t1,t2,t5,t7,t24,t25,t26⟩
  have hi':(i:Int)<(p.2.1.length:Int):=by omega
  have ks:=k.sub
  obtain⟨b,o,cc,cs,eC,hc,hq,hg,_,_⟩:=(hso.mono ks).at hi
  have htk:p.2.1.take (i+1)=p.2.1.take i++[p.2.1[i]]:=take_at hi
  have e1:(p.2.1.take (i+1)).map Prod.fst=(p.2.1.take i).map Prod.fst++[p.2.1[i].1]:=by rw[htk,List.map_append];rfl
  have e2:(p.2.1.take (i+1)).map Prod.snd=(p.2.1.take i).map Prod.snd++[p.2.1[i].2]:=by rw[htk,List.map_append];rfl
  have la1:((p.2.1.take i).map Prod.fst).length≤3:=by rw[List.length_map,List.length_take];omega
  have la2:((p.2.1.take i).map Prod.snd).length≤3:=by rw[List.length_map,List.length_take];omega
  rw[e1,e2]
  generalize p.2.1[i]=sg at hg⊢
  generalize(p.2.1.take i).map Prod.fst=ss at k la1⊢
  generalize(p.2.1.take i).map Prod.snd=gg at k la2⊢
  simp only[XP] at hg
  have uB:=(H.Sub.refl ks.wf).add (.bk [.ii sg.1,.ii sg.2])
  have kB:=k.mono uB
  have g9:(z'.add (.bk [.ii sg.1,.ii sg.2])).get z'.next=some (.bk [.ii sg.1,.ii sg.2]):=Zc rfl
  have nB:=H.next_add z' (.bk [.ii sg.1,.ii sg.2])
  have lk:=k.nx
  simp(disch:=omega)only[go_sem,t1,t2,t5,t7,t24,t25,t26,hi',hq (Zb i),hc,hg,Za k.g]
  obtain⟨zB,hzB⟩:∃zB,z'.add (.bk [.ii sg.1,.ii sg.2])=zB:=⟨_,rfl⟩
  rw[hzB] at uB kB g9 nB
  try rw[hzB]
  have uh:=(H.Sub.refl kB.sub.wf).add (.bk [.ii sg.1])
  have kh:=kB.mono uh
  have o3:ZW z1 (zB.add (.bk [.ii sg.1])) (vv 0) 1 (ss.map encI):=kh.sl.o 0 ycd
  have sn3:Zg (zB.add (.bk [.ii sg.1])) (.sl (z'.next+1) 0 1 (.fix 1)) 1 [encI sg.1]:=Zg.new _ (by rw[nB]) rfl rfl yco ycl
  have gh1:=kh.g
  have g9h:=uh.get g9
  generalize zB.add (.bk [.ii sg.1])=zh at uh kh o3 sn3 gh1 g9h⊢
  refine o3.app1 (by_:=8) (r:=encI sg.1) w1 rfl ycd sn3 rfl yce yce fun w3 zi oi ni ki=>?_
  have ow3:=oi.one
  have lo0:=kh.sl.lo 0 ycd
  have gi:=ki.2 _ _ gh1 fun hb=>by have:=lo0 _ hb;omega
  have lB9:=kB.sub.wf _ _ g9
  have dB:¬Zq (vv 0) z'.next:=fun hb=>by have:=((k.sl.o 0 ycd).blk hb).2.1;omega
  have g9i:=ki.2 _ _ g9h dB
  have sl3:=(kh.sl.app (i:=0) ycd oi ni kh.nx ki).rw rowsT0
  have uj:=(H.Sub.refl oi.1.wf).add (.bk [.ii sg.2])
  have sl3j:=sl3.mono uj
  have o4:ZW z1 (zi.add (.bk [.ii sg.2])) (vv 1) 1 (gg.map encI):=sl3j.o 1 ycd
  have sn4:Zg (zi.add (.bk [.ii sg.2])) (.sl zi.next 0 1 (.fix 1)) 1 [encI sg.2]:=Zg.new _ rfl rfl rfl yco ycl
  have gj:=uj.get gi
  have g9j:=uj.get g9i
  have li:=ki.1
  have lh:=kh.nx
  simp(disch:=omega)only[go_sem,t1,t2,t5,t7,t24,t25,t26,Za gi,Za g9i,Za gh1,Za g9h,Za kB.g,Za g9]
  generalize zi.add (.bk [.ii sg.2])=zj at uj sl3j o4 sn4 gj g9j⊢
  refine o4.app1 (by_:=8) (r:=encI sg.2) w1 rfl ycd sn4 rfl yce yce fun w4 zk ok nk4 kk=>?_
  have ow4:=ok.one
  have ov2:=(kh.sl.o 2 ycd).one
  have gk:=kk.2 _ _ gj fun hb=>by have:=kh.sl.lo 1 ycd _ hb;omega
  have sl4:=(sl3j.app (i:=1) ycd ok nk4 (by have:=uj.next;omega) kk).rw rowsT1
  have kq:Zh (fun b=>Zq (vv 0) b∨Zq (vv 1) b) zh zk:=((ki.trans (Zh.of uj (fun _=>False))).trans kk).mono fun b hb=>hb.elim (fun hb=>hb.elim .inl False.elim) .inr
  have km:=kh.put w1 (Nat.le_refl _) kq sl4
  simp(disch:=omega)only[go_sem,t1,t2,t5,t7,t24,t25,t26,ow3,cells_one ow3,ow4,cells_one ow4,gk,Za gi,Za g9i,Za gh1,Za g9h,Za gj,Za g9j,Za kB.g,Za g9,Za gk,Zj]
  exact⟨_,_,_,rfl,km,yck,ycj,ycf,ych,(by simp[Zm,Zd,t24]<;>rfl),(by simp[Zm,Zd,t25]<;>rfl),ycc⟩
 clear k0
 rintro s ⟨tm,z',vv,rfl,k,t1,t2,t5,t7,t24,t25,t26⟩
 rw[List.take_length] at k
 have ga':=k.sub.get (s1.get ga)
 simp(disch:=omega)only[go_sem,t1,t2,t5,t7,t24,t25,t26,Int.lt_irrefl,Za ga']
 obtain⟨ne,hne'⟩:∃ne:Nat,a.evs=ne:=⟨a.evs.toNat,by omega⟩
 rw[hne',Int.toNat_natCast] at q
 refine Zk ne (fun i s=>∃tm z' v,s=⟨tm,z',[]⟩∧SmI z1 z' z1.next v (p.2.1.map Prod.fst) (p.2.1.map Prod.snd) ((List.range i).map fun i=>mg p.2.2 4 i)∧
   tm.E 2=.ptr (h.next+1) 0∧tm.E 5=y∧tm.E 7=.ptr z1.next 0∧tm.E 46=.ii (ne:Int)∧tm.E 47=.ii (i:Int)) ?_ ?_ (i:=0) (Nat.zero_le _)
  ⟨_,_,_,rfl,k,ycj,ycf,ych,by rw[←hne'];exact ycc,ycc⟩
 ·clear k t1 t2 t5 t7 t24 t25 t26 ga'
  rintro i s hi ⟨tm,z',vv,rfl,k,t2,t5,t7,t46,t47⟩
  have hi':(i:Int)<(ne:Int):=by omega
  have ks:=k.sub
  have hm:nth (oY+1+4*5+i*1) csY=some (.ii (mg p.2.2 4 i)):=by
   have:=hnY (1+4*5+i*1) ycb
   rw[←Vx,row_at hpl.len ycb ycb] at this
   rw[←this];congr 1;omega
  have lr:((List.range i).map fun i=>mg p.2.2 4 i).length≤4:=by rw[List.length_map,List.length_range];omega
  have e1:((List.range (i+1)).map fun i=>mg p.2.2 4 i)=((List.range i).map fun i=>mg p.2.2 4 i)++[mg p.2.2 4 i]:=by rw[List.range_succ,List.map_append];rfl
  rw[e1]
  generalize((List.range i).map fun i=>mg p.2.2 4 i)=tt at k lr⊢
  generalize mg p.2.2 4 i=m at hm⊢
  have uh:=(H.Sub.refl ks.wf).add (.bk [.ii m])
  have kh:=k.mono uh
  have o3:ZW z1 (z'.add (.bk [.ii m])) (vv 2) 1 (tt.map encI):=kh.sl.o 2 ycd
  have sn3:Zg (z'.add (.bk [.ii m])) (.sl z'.next 0 1 (.fix 1)) 1 [encI m]:=Zg.new _ rfl rfl rfl yco ycl
  have gh1:=kh.g
  have lk:=k.nx
  have hY':=ks.cells hcY
  have i4:VK 5 5 (.ptr bY (oY+1)) (.ii 4)=some (.ptr bY (oY+1+4*5)):=WJ (nat_num 4) ycb
  simp(disch:=omega)only[go_sem,t2,t5,t7,t46,t47,hi',Za k.g,hqY nat_zero,i4,WJ (Zb i),hY',hm]
  generalize z'.add (.bk [.ii m])=zh at uh kh o3 sn3 gh1⊢
  refine o3.app1 (by_:=8) (r:=encI m) w1 rfl ycd sn3 rfl yce yce fun w3 zi oi ni ki=>?_
  have ow3:=oi.one
  have ov0:=(kh.sl.o 0 ycd).one
  have ov1:=(kh.sl.o 1 ycd).one
  have gi:=ki.2 _ _ gh1 fun hb=>by have:=kh.sl.lo 2 ycd _ hb;omega
  have km:=kh.put w1 (Nat.le_refl _) ki ((kh.sl.app (i:=2) ycd oi ni kh.nx ki).rw rowsT2)
  have hYh:=uh.cells hY'
  simp(disch:=omega)only[go_sem,t2,t5,t7,t46,t47,ow3,cells_one ow3,gi,Za gh1,hYh,Za k.g,hY',hm,Zj]
  exact⟨_,_,_,rfl,km,ycj,ycf,ych,(by simp[Zm,Zd,t46]<;>rfl),ycc⟩
 clear k t1 t2 t5 t7 t24 t25 t26 ga'
 rintro s ⟨tm,z',vv,rfl,k,t2,t5,t7,t46,t47⟩
 have ov0:=(k.sl.o 0 ycd).one
 have ov1:=(k.sl.o 1 ycd).one
 have ov2:=(k.sl.o 2 ycd).one
 have lk:=k.nx
 have gb':=k.sub.get (s1.get gb)
 have k2:=Zh.set z' (h.next+1) (.bk [vv 0,vv 1,vv 2])
 have s2:=(hs1.trans k.sub).set (b:=h.next+1) ycb ycb hw (.bk [vv 0,vv 1,vv 2])
 have tr:=k.tr yce yce (by rw[List.length_map,List.length_range];omega)
 have off:∀i,i<3→∀b,Zq (vv i) b→b≠h.next+1:=fun i hi b hb=>by have:=k.sl.lo i ycb b hb;omega
 have tr2:WF (z'.set (h.next+1) (.bk [vv 0,vv 1,vv 2])) (vv 0) (vv 1) (vv 2) (p.2.1.map Prod.fst) (p.2.1.map Prod.snd) ((List.range ne).map fun i=>mg p.2.2 4 i):=
  ⟨Xf tr.s k2 (off 0 ycd),Xf tr.g k2 (off 1 ycd),Xf tr.t k2 (off 2 ycd)⟩
 have o2:ZW z1 z' (vv 2) 1 (((List.range ne).map fun i=>mg p.2.2 4 i).map encI):=k.sl.o 2 ycd
 have q':=q _ _ _ _ s2 tr2 ((o2.base hs1).keep k2 s2 fun b hb e=>off 2 ycd b hb e) fun b hb=>⟨k.sl.dj 2 0 ycd ycd ycd b hb,k.sl.dj 2 1 ycd ycd ycd b hb⟩
 rw[he] at q'
 simp(disch:=omega)only[go_sem,t2,t5,t7,t46,t47,Int.lt_irrefl,Za k.g,gb',ov0,ov1,ov2]
 exact q'
theorem Some_ev {h:H}(hw:h.wf){a:At}{C R G:V}(x:ZP h C R G a)(Q:V→H→Prop)(q:∀S Ga Tm h',h.Sub h'→WF h' S Ga Tm (YY a).1 (YY a).2.1 (YY a).2.2→Q (.tup [.agg [S,Ga,Tm],.ii (ZO a false)]) h'):
  Ev fnG Zi (.fn 6 [] []) [.agg (atV a C R G)] h Q:=Some_own hw x Q fun S Ga Tm h' s t _ _=>q S Ga Tm h' s t
end Go.Ab.Tryz
namespace Go.Ab
theorem put_iv {L:List Int}{i:Nat}(h:i<L.length)(v:Int):Ye i [.ii v] (L.map iv)=some ((L.set i v).map iv):=by
 have e:L=L.take i++L[i]::L.drop (i+1):=by rw[←List.drop_eq_getElem_cons h,List.take_append_drop]
 have:=WZ (pre:=(L.take i).map iv) (new:=[iv v]) (old:=[iv L[i]]) (rest:=(L.drop (i+1)).map iv) rfl
 rw[List.length_map,List.length_take,Nat.min_eq_left ycb] at this
 have e2:L.map iv=(L.take i).map iv++[iv L[i]]++(L.drop (i+1)).map iv:=by
  rw[show[iv L[i]]=[L[i]].map iv from rfl,←List.map_append,←List.map_append,List.append_assoc]
  exact congrArg (List.map iv) e
 have e3:(L.set i v).map iv=(L.take i).map iv++[iv v]++(L.drop (i+1)).map iv:=by
  rw[List.set_eq_take_append_cons_drop,if_pos h];simp
 rw[e2,e3];exact this
namespace Tryz
open Go.Proofs
theorem flat_iv (L:List Int):(L.map encI).flatten=L.map iv:=by
 induction L with
 |nil=>rfl
 |cons a L ih=>rw[List.map_cons,List.flatten_cons,ih];rfl
end Tryz
end Go.Ab
namespace Go.Ab
noncomputable def slcFrom (h:H)(sz:Nat)(x k:V):Option V:=Vk .nil h sz x (some (.c k)) none none
theorem q_slc_from (tm:T V)(h:H)(sz:Nat)(x:V)(y:Opd):Vk tm h sz x (some y) none none=slcFrom h sz x (y.ev tm):=rfl
noncomputable def slcTo (h:H)(sz:Nat)(x k:V):Option V:=Vk .nil h sz x none (some (.c k)) none
theorem q_slc_to (tm:T V)(h:H)(sz:Nat)(x:V)(y:Opd):Vk tm h sz x none (some y) none=slcTo h sz x (y.ev tm):=rfl
theorem slcFrom_gr {h:H}{b k:Nat}{L:List Int}(hb:h.get b=some (.cells (.gr 1) (L.map iv)))(h0:0<L.length)(hk:k≤L.length):slcFrom h 1 (.sl b 0 L.length (.slk 0 0)) (.ii (k:Int))=some (.sl b k (L.length-k) (.slk k 0)):=by
 have hi:∀tm:T V,(Opd.c (.ii (k:Int))).ev tm=.ii (k:Int):=fun _=>rfl
 have e1:Nat.ble k L.length=true:=by simp;exact hk
 have e2:Nat.ble L.length L.length=true:=by simp
 have e4:Nat.blt 0 (L.length+L.length)=true:=by rw[Nat.blt_eq];omega
 have e5:Nat.beq 1 1=true:=rfl
 have e6:Nat.beq 0 (0*1)=true:=rfl
 have e7:Nat.ble L.length (L.map iv).length=true:=by simp
 have e8:XH h b 0 1=L.length:=by simp[XH,hb,Z7]
 simp only[slcFrom,Vk,slkOk,hb,Z7,e5,e6,e7,YP,e8,bnd3,natO,hi,natk_cst,bnds,e1,e2,subS,e4,Nat.mul_one,Nat.zero_add]
theorem slcTo_gr {h:H}{b k:Nat}{L:List Int}(hb:h.get b=some (.cells (.gr 1) (L.map iv)))(h0:0<L.length)(hk:k≤L.length):slcTo h 1 (.sl b 0 L.length (.slk 0 0)) (.ii (k:Int))=some (.sl b 0 k (.slk 0 0)):=by
 have hi:∀tm:T V,(Opd.c (.ii (k:Int))).ev tm=.ii (k:Int):=fun _=>rfl
 have e1:Nat.ble 0 k=true:=by simp
 have e2:Nat.ble k L.length=true:=by simp;exact hk
 have e3:Nat.ble L.length L.length=true:=by simp
 have e4:Nat.blt 0 (L.length+k)=true:=by rw[Nat.blt_eq];omega
 have e5:Nat.beq 1 1=true:=rfl
 have e6:Nat.beq 0 (0*1)=true:=rfl
 have e7:Nat.ble L.length (L.map iv).length=true:=by simp
 have e8:XH h b 0 1=L.length:=by simp[XH,hb,Z7]
 simp only[slcTo,Vk,slkOk,hb,Z7,e5,e6,e7,YP,e8,bnd3,natO,hi,natk_cst,bnds,e1,e2,e3,subS,e4,Nat.mul_one,Nat.zero_add,Nat.sub_zero]
theorem getD_some {l:List Int}{i:Nat}(h:i<l.length):l[i]? =some (l.getD i 0):=by rw[List.getD_eq_getElem?_getD,List.getElem?_eq_getElem h];rfl
theorem dd_ne {l:List Int}{n:Nat}(hn:n<l.length)(h:n=0∨l.getD n 0≠l.getD (n-1) 0):dd l (n+1)=dd l n++[l.getD n 0]:=dd_new (getD_some hn) fun⟨h1,h2⟩=>by
 rcases h with h|h
 ·omega
 ·rw[getD_some ycb] at h2;exact h (Option.some.inj h2).symm
theorem dd_eq {l:List Int}{n:Nat}(hn:n<l.length)(h0:0<n)(h:l.getD n 0=l.getD (n-1) 0):dd l (n+1)=dd l n:=dd_same (getD_some hn) ⟨h0,by rw[getD_some ycb,h]⟩
theorem take_getD {l:List Int}{n:Nat}(hn:n<l.length):l.take (n+1)=l.take n++[l.getD n 0]:=by
 rw[List.take_add_one,getD_some hn];rfl
theorem Zg.cut {h:H}{b m:Nat}{L:List Int}{c:Cap}(hb:h.get b=some (.cells (.gr 1) (L.map iv)))(hm:m≤L.length)(hl:L.length≤1000000):Zg h (.sl b 0 m c) 1 ((L.take m).map fun n=>[.ii n]):=by
 refine⟨fun r hr=>by obtain⟨_,_,rfl⟩:=List.mem_map.1 hr;rfl,by rw[List.length_map,List.length_take];omega,.inr ⟨b,0,c,L.map iv,?_,.inr (Za hb),?_⟩⟩
 ·rw[List.length_map,List.length_take,Nat.min_eq_left hm]
 ·have e:((L.take m).map fun n=>[V.ii n]).flatten=(L.take m).map iv:=by
   generalize L.take m=K
   induction K with
   |nil=>rfl
   |cons a K ih=>rw[List.map_cons,List.flatten_cons,ih];rfl
  rw[e,List.length_map,List.length_take,Nat.min_eq_left hm,Nat.mul_one]
  refine ZU.2 ⟨?_,by rw[List.length_map];omega⟩
  rw[List.drop_zero,←List.map_take]
namespace Tryz
open Go.Proofs
set_option maxHeartbeats 4000000 in
theorem Compact_ev {h0 h:H}{b:Nat}{l:List Int}(hs:h0.Sub h)(hw0:h0.wf)(lb0:h0.next≤b)(hb:h.get b=some (.cells (.gr 1) (l.map iv)))(h1:1≤l.length)(hl:l.length≤100000)(Q:V→H→Prop)
  (q:∀y h',h0.Sub h'→Zh (fun c=>c=b) h h'→Zg h' y 1 ((dd l l.length).map encI)→Q y h'):Ev fnG Zi (.fn 125 [] []) [.sl b 0 l.length (.slk 0 0)] h Q:=by
 have hw:=hs.wf
 have whole:∀{hh:H} {L:List Int},hh.get b=some (.cells (.gr 1) (L.map iv))→L.length=l.length→∀m c,m≤l.length→Zg hh (.sl b 0 m c) 1 ((L.take m).map encI):=fun hg hL m c hm=>Zg.cut hg ycb ycb
 refine Ze (fd:=c125) rfl rfl rfl ?_
 by_cases h2:l.length<2
 ·have hn2:(l.length:Int)<2:=by omega
  have e1:l.length=1:=by omega
  simp(disch:=omega)only[c125,go_sem,hn2]
  have hdd:dd l l.length=l.take l.length:=by
   rw[e1,dd_ne ycb (.inl rfl),take_getD ycb];rfl
  exact q _ _ hs (Zh.refl _ _) (by rw[hdd];exact whole hb rfl _ _ (Nat.le_refl _))
 have hn2:¬(l.length:Int)<2:=by omega
 have hiad:∀k:Nat,k<l.length→Yw 1 (.sl b 0 l.length (.slk 0 0)) (.ii (k:Int))=some (.ptr b k):=fun k hk=>by
  rw[YR (Zb k) hk,Nat.mul_one,Nat.zero_add]
 simp(disch:=omega)only[c125,go_sem,hn2]
 refine W_loop (fun kk s=>∃tm i,s=⟨tm,h,[]⟩∧kk=l.length-i∧1≤i∧i≤l.length∧dd l i=l.take i∧tm.E 0=.sl b 0 l.length (.slk 0 0)∧tm.E 3=.ii (i:Int)) ?_ (l.length-1) _
  ⟨_,1,rfl,rfl,Nat.le_refl _,by omega,by rw[dd_ne ycb (.inl rfl),take_getD ycb];rfl,ycc,ycc⟩
 rintro kk s ⟨tm,i,rfl,hkk,i1,i2,hdd,t0,t3⟩
 by_cases hi:i<l.length
 ·have hi':(i:Int)<(l.length:Int):=by omega
  have e1:(i:Int)-1=((i-1:Nat):Int):=by omega
  have n1:=nth_iv hi
  have n2:=nth_iv (L:=l) (k:=i-1) ycb
  by_cases heq:l.getD i 0=l.getD (i-1) 0
  ·have deq:decide (l.getD i 0=l.getD (i-1) 0)=true:=decide_eq_true heq
   have hfrom:=slcFrom_gr hb ycb (k:=i) ycb
   have lb:=hw _ _ hb
   have hdd1:dd l (i+1)=l.take i:=by rw[dd_eq hi ycb heq,hdd]
   simp(disch:=omega)only[go_sem,t0,t3,hi',Zo,e1,hiad i hi,hiad (i-1) ycb,Za hb,n1,n2,deq,q_slc_from,hfrom]
   refine W.mono (Q:=fun x1 s=>x1=.ext 2∧∃(tm:Go.Ab.T V) (hh:H) (L:List Int) (m:Nat),s=⟨tm,hh,[]⟩∧h0.Sub hh∧Zh (fun c=>c=b) h hh∧hh.get b=some (.cells (.gr 1) (L.map iv))∧L.length=l.length∧m<l.length∧L.take m=dd l l.length∧tm.E 0=.sl b 0 l.length (.slk 0 0)∧tm.E 3=.ii (m:Int))
    (W_loop (fun kk s=>∃(tm:Go.Ab.T V) (hh:H) (L:List Int) (m k2:Nat),s=⟨tm,hh,[]⟩∧kk=l.length-i-k2∧1≤k2∧i+k2≤l.length∧m+1≤i+k2∧h0.Sub hh∧Zh (fun c=>c=b) h hh∧hh.get b=some (.cells (.gr 1) (L.map iv))∧L.length=l.length∧
     L.take m=dd l (i+k2)∧(∀j,i+k2≤j+1→L.getD j 0=l.getD j 0)∧
     tm.E 0=.sl b 0 l.length (.slk 0 0)∧tm.E 3=.ii (m:Int)∧tm.E 4=.sl b i (l.length-i) (.slk i 0)∧tm.E 5=.ii (k2:Int)) ?_ (l.length-i-1) _
     ⟨_,_,l,i,1,rfl,rfl,Nat.le_refl _,by omega,by omega,hs,Zh.refl _ _,hb,rfl,hdd1.symm,fun _ _=>rfl,ycg,ycp,ycc,ycc⟩) fun x1 s hx1=>?_
   ·rintro kk s ⟨tm,hh,L,m,k2,rfl,hkk,k1,k3,k4,sh,kp,gL,hL,hT,hR,t0,t3,t4,t5⟩
    by_cases hk:k2<l.length-i
    ·have hk':(k2:Int)<((l.length-i:Nat):Int):=by omega
     have e2:(k2:Int)-1=((k2-1:Nat):Int):=by omega
     have a1:Yw 1 (.sl b i (l.length-i) (.slk i 0)) (.ii (k2:Int))=some (.ptr b (i+k2)):=by rw[YR (Zb k2) hk,Nat.mul_one]
     have a2:Yw 1 (.sl b i (l.length-i) (.slk i 0)) (.ii ((k2-1:Nat):Int))=some (.ptr b (i+(k2-1))):=by rw[YR (Zb (k2-1)) ycb,Nat.mul_one]
     have a3:=hiad m ycb
     have v1:=nth_iv (L:=L) (k:=i+k2) ycb
     have v2:=nth_iv (L:=L) (k:=i+(k2-1)) ycb
     rw[hR _ ycb] at v1 v2
     have lb2:=sh.wf _ _ gL
     by_cases hd:l.getD (i+k2) 0=l.getD (i+(k2-1)) 0
     ·have hne:decide (l.getD (i+k2) 0≠l.getD (i+(k2-1)) 0)=false:=by simpa using hd
      simp(disch:=omega)only[go_sem,t0,t3,t4,t5,hk',Zo,e2,a1,a2,Za gL,v1,v2,hne,Zj]
      exact⟨_,by omega,_,_,L,m,k2+1,rfl,rfl,by omega,by omega,by omega,sh,kp,gL,hL,by rw[hT,←Nat.add_assoc,dd_eq ycb ycb (by rw[hd];congr 1;omega)],fun j hj=>hR j ycb,ycg,ycp,(by simp[Zm,Zd,t4]<;>rfl),ycc⟩
     ·have hne:decide (l.getD (i+k2) 0≠l.getD (i+(k2-1)) 0)=true:=by simpa using hd
      have hp:=put_iv (L:=L) (i:=m) ycb (l.getD (i+k2) 0)
      simp(disch:=omega)only[go_sem,t0,t3,t4,t5,hk',Zo,e2,a1,a2,a3,Za gL,gL,v1,v2,hne,hp,Zj]
      refine⟨_,by omega,_,_,L.set m (l.getD (i+k2) 0),m+1,k2+1,rfl,rfl,by omega,by omega,by omega,sh.set lb0 lb2 hw0 _,(kp.trans (Zh.set hh b _)).mono fun c h=>h.elim id id,get_set_same rfl,by rw[List.length_set];exact hL,?_,fun j hj=>?_,ycg,ycc,(by simp[Zm,Zd,t4]<;>rfl),ycc⟩
      ·rw[←Nat.add_assoc,dd_ne ycb (.inr (by intro e;apply hd;rw[e];congr 1;omega)),←hT,take_getD (by rw[List.length_set];omega)]
       rw[List.take_set_of_le (Nat.le_refl _)]
       congr 2
       rw[List.getD_eq_getElem?_getD,List.getElem?_set_self ycb];rfl
      ·rw[←hR j ycb,List.getD_eq_getElem?_getD,List.getElem?_set_ne ycb,←List.getD_eq_getElem?_getD]
    ·have hk':¬(k2:Int)<((l.length-i:Nat):Int):=by omega
     have hke:i+k2=l.length:=by omega
     simp(disch:=omega)only[go_sem,t0,t3,t4,t5,hk']
     exact⟨_,_,L,m,rfl,sh,kp,gL,hL,by omega,by rw[hT,hke],ycg,ycp⟩
   clear t0 t3
   obtain⟨rfl,tm,hh,L,m,rfl,sh,kp,gL,hL,hm,hT,t0,t3⟩:=hx1
   have f1:=slcFrom_gr gL ycb (k:=m) ycb
   rw[hL] at f1
   obtain⟨n,hn⟩:∃n,l.length-m=n+1:=⟨l.length-m-1,by omega⟩
   have hrep:∀n,YB n [V.ii 0]=(List.replicate n (0:Int)).map iv:=fun n=>by
    induction n with
    |zero=>rfl
    |succ n ih=>simp only[YB,Ym,ih,List.replicate_succ,List.map_cons];rfl
   have hp:Ye m ((List.replicate (n+1) (0:Int)).map iv) (L.map iv)=some ((L.take m++List.replicate (n+1) 0).map iv):=by
    have:=WZ (pre:=(L.take m).map iv) (new:=(List.replicate (n+1) (0:Int)).map iv) (old:=(L.drop m).map iv) (rest:=[]) (by simp;omega)
    rw[List.length_map,List.length_take,Nat.min_eq_left ycb,List.append_nil,List.append_nil,←List.map_append,List.take_append_drop,←List.map_append] at this
    exact this
   have ho:ZB ((List.replicate (n+1) (0:Int)).map iv)=true:=by
    rw[XD]
    intro v hv
    obtain⟨_,_,rfl⟩:=List.mem_map.1 hv;rfl
   have hclr:e_clr hh [V.ii 0] (.sl b m (l.length-m) (.slk m 0))=some (.und,hh.set b (.cells (.gr 1) ((L.take m++List.replicate (n+1) 0).map iv))):=by
    rw[e_clr_sl,hn,hrep]
    rw[List.replicate_succ,List.map_cons] at hp ho⊢
    rw[H.put_gr ho gL hp,YN]
   have gS:(hh.set b (.cells (.gr 1) ((L.take m++List.replicate (n+1) 0).map iv))).get b=some (.cells (.gr 1) ((L.take m++List.replicate (n+1) 0).map iv)):=get_set_same rfl
   have ll:(L.take m++List.replicate (n+1) (0:Int)).length=l.length:=by simp;omega
   have f2:=slcTo_gr gS ycb (k:=m) ycb
   rw[ll] at f2
   have lb2:=sh.wf _ _ gL
   simp(disch:=omega)only[go_sem,t0,t3,q_slc_from,f1,WI_clr,hclr,q_slc_to,f2]
   refine q _ _ (sh.set lb0 lb2 hw0 _) ((kp.trans (Zh.set hh b _)).mono fun c h=>h.elim id id) ?_
   have:=whole gS ll m (.slk 0 0) ycb
   rw[List.take_append_of_le_length (by rw[List.length_take];omega),List.take_take,Nat.min_self] at this
   rw[←hT];exact this
  ·have dne:decide (l.getD i 0=l.getD (i-1) 0)=false:=decide_eq_false heq
   simp(disch:=omega)only[go_sem,t0,t3,hi',Zo,e1,hiad i hi,hiad (i-1) ycb,Za hb,n1,n2,dne,Zj]
   exact⟨_,by omega,_,i+1,rfl,rfl,by omega,by omega,by rw[dd_ne hi (.inr heq),hdd,take_getD hi],ycg,ycc⟩
 ·have hi':¬(i:Int)<(l.length:Int):=by omega
  have hie:i=l.length:=by omega
  simp(disch:=omega)only[go_sem,t0,t3,hi']
  rw[hie] at hdd
  exact q _ _ hs (Zh.refl _ _) (by rw[hdd];exact whole hb rfl _ _ (Nat.le_refl _))
end Tryz
end Go.Ab
namespace Go.Ab.Tryz
open Go.Proofs
theorem XZ (l:List Int):(Z0 l).length=l.length:=(WS l).length_eq
theorem sort_ev {h:H}{b:Nat}{l:List Int}(hb:h.get b=some (.cells (.gr 1) (l.map iv)))(h1:1≤l.length)(hl:l.length≤100000)(Q:V→H→Prop):
  Ev fnG Zi (.fn 138 [] []) [.sl b 0 l.length (.slk 0 0)] h Q=Q (.tup []) (h.set b (.cells (.gr 1) ((Z0 l).map iv))):=by
 refine Ev.det ⟨1,.tup [],h.set b (.cells (.gr 1) ((Z0 l).map iv)),?_,rfl,rfl⟩ Q
 have e:evV fnG Zi 1 (.fn 138 [] []) [.sl b 0 l.length (.slk 0 0)] h=sortF [.sl b 0 l.length (.slk 0 0)] h:=rfl
 rw[e]
 have b1:Nat.blt 0 l.length=true:=by rw[Nat.blt_eq];omega
 have b2:Nat.blt l.length 4611686018427387904=true:=by rw[Nat.blt_eq];omega
 have hg:Y6 0 l.length (l.map iv)=some (l.map iv):=XL l
 have hi:intsOf (l.map iv)=some l:=intsOf_map l
 have hp:h.put b 0 ((Z0 l).map (V.int .i64))=some (h.set b (.cells (.gr 1) ((Z0 l).map iv))):=by
  obtain⟨v,vs,hv⟩:∃v vs,(Z0 l).map iv=v::vs:=by
   cases hc:(Z0 l).map iv with
   |nil=>have:=congrArg List.length hc;rw[List.length_map,XZ,List.length_nil] at this;omega
   |cons v vs=>exact⟨v,vs,rfl⟩
  have ho:ZB ((Z0 l).map iv)=true:=V6 _
  have hp:Ye 0 ((Z0 l).map iv) (l.map iv)=some ((Z0 l).map iv):=by
   have:=WZ (pre:=[]) (new:=(Z0 l).map iv) (old:=l.map iv) (rest:=[]) (by rw[List.length_map,List.length_map,XZ])
   simpa using this
  show h.put b 0 ((Z0 l).map iv)=_
  rw[hv] at ho hp⊢
  exact H.put_gr ho hb hp
 simp only[sortF,b1,b2,YP,Za hb,hg,hi,hp,YN]
theorem rise_ev {h0 h:H}{w:V}{l:List Int}(o:Zx h0 h w 1 (l.map encI))(hw0:h0.wf)(h1:1≤l.length)(hl:l.length≤100000):∃b,w=.sl b 0 l.length (.slk 0 0)∧h0.next≤b∧h.get b=some (.cells (.gr 1) (l.map iv)):=by
 obtain⟨_,_,o⟩:=o
 rcases o with⟨_,e⟩|⟨b,e,lb,_,g⟩
 ·have:=congrArg List.length e;rw[List.length_map,List.length_nil] at this;omega
 ·rw[List.length_map] at e;rw[flat_iv] at g;exact⟨b,e,lb,g⟩
set_option maxHeartbeats 4000000 in
theorem numbers_ev {h:H}(hw:h.wf){y:V}{Ps:List Fd}(x:Zg h y 26 (Ps.map YW))(hone:∀p∈Ps,ZB (YW p)=true)(hlen:∀p∈Ps,(YW p).length=26)(hne:Ps≠[])(hP:Ps.length≤15625){g:FuncId}{u v:List V}{of:Fd→Int}
  (hp:∀p∈Ps,YA h (.fn g u v) [.agg (YW p)] (.ii (of p))) (Q:V→H→Prop) (q:∀w h',h.Sub h'→Zg h' w 1 ((WW (Ps.map of)).map encI)→Q w h'):Ev fnG Zi (.fn 115 [] []) [y,.fn g u v] h Q:=by
 have hlY:=x.lenE
 refine Ze (fd:=c115) rfl rfl rfl ?_
 simp(disch:=omega)only[c115,go_sem,hlY]
 refine Zk Ps.length (fun i s=>∃tm z w,s=⟨tm,z,[]⟩∧Zx h z w 1 (((Ps.take i).map of).map encI)∧tm.E 1=.fn g u v∧tm.E 5=w∧tm.E 8=y∧tm.E 9=.ii (Ps.length:Int)∧tm.E 10=.ii (i:Int)) ?_ ?_ (i:=0) (Nat.zero_le _)
  ⟨_,_,_,rfl,Zx.nil (H.Sub.refl hw) 1,ycc,ycc,ycc,ycc,ycc⟩
 ·rintro i s hi ⟨tm,z,w,rfl,o,t1,t5,t8,t9,t10⟩
  have hi':(i:Int)<(Ps.length:Int):=by omega
  have sz:=o.1
  obtain⟨b',o',cc',cs',e',hc',hq',hg',_,_⟩:=(x.mono sz).at hi
  have htk:(Ps.take (i+1)).map of=(Ps.take i).map of++[of Ps[i]]:=by rw[take_at hi,List.map_append];rfl
  rw[htk,List.map_append]
  have hpi:=hp _ (List.getElem_mem hi)
  have hoi:=hone _ (List.getElem_mem hi)
  have hli:=hlen _ (List.getElem_mem hi)
  generalize of Ps[i]=m at hpi⊢
  generalize YW Ps[i]=F at hg' hpi hoi hli
  have la:((Ps.take i).map of).length≤15625:=by rw[List.length_map,List.length_take];omega
  generalize(Ps.take i).map of=L at o la⊢
  have nF:F≠[]:=by intro e0;rw[e0] at hli;cases hli
  have lnF:Yt F=26:=by rw[Z7,hli]
  have gNF:Y6 0 26 F=some F:=by rw[←hli];exact ZU.2 ⟨by rw[List.drop_zero,List.take_length],by omega⟩
  have pF:(z.add (.bk [.nils,.ii 0,.ii 0,.ii 0,.ii 0,.ii 0,.ii 0,.ii 0,.ii 0,.ii 0,.ii 0,.ii 0,.ii 0,.ii 0,.ii 0,.ii 0,.ii 0,.ii 0,.ii 0,.ii 0,.ii 0,.ii 0,.ii 0,.ii 0,.ii 0,.ii 0])).put z.next 0 F=some ((z.add (.bk [.nils,.ii 0,.ii 0,.ii 0,.ii 0,.ii 0,.ii 0,.ii 0,.ii 0,.ii 0,.ii 0,.ii 0,.ii 0,.ii 0,.ii 0,.ii 0,.ii 0,.ii 0,.ii 0,.ii 0,.ii 0,.ii 0,.ii 0,.ii 0,.ii 0,.ii 0])).set z.next (.bk F)):=put_full (Zc rfl) (by rw[hli];rfl) nF hoi
  have sA:=(H.Sub.refl sz.wf).add (.bk F)
  have gA:(z.add (.bk F)).get z.next=some (.bk F):=Zc rfl
  obtain⟨zA,hzA⟩:∃zA,z.add (.bk F)=zA:=⟨_,rfl⟩
  rw[hzA] at sA gA
  simp(disch:=omega)only[go_sem,t1,t5,t8,t9,t10,hi',hq' (Zb i),hc',hg',lnF,pF,hzA,Za gA,gNF]
  refine hpi.use (sz.trans sA) fun z2 s2=>?_
  have oA:=o.mono (sA.trans s2)
  have s3:=(H.Sub.refl s2.wf).add (.bk [.ii m])
  have sn:Zg (z2.add (.bk [.ii m])) (.sl z2.next 0 1 (.fix 1)) 1 [encI m]:=Zg.new _ rfl rfl rfl yco ycl
  simp(disch:=omega)only[go_sem,t1,t5,t8,t9,t10]
  refine(oA.mono s3).app1 (by_:=8) (r:=encI m) hw rfl ycb sn rfl yce yce fun z3 o3 k3 n3=>?_
  rw[H.next_add] at o3
  simp(disch:=omega)only[go_sem,t1,t5,t8,t9,t10,Zj]
  exact⟨_,_,_,rfl,o3,yck,ycc,ycm,(by simp[Zm,Zd,t9]<;>rfl),ycc⟩
 ·rintro s ⟨tm,z,w,rfl,o,t1,t5,t8,t9,t10⟩
  rw[List.take_length] at o
  have ll:(Ps.map of).length=Ps.length:=List.length_map _
  have lp:=List.length_pos_iff.2 hne
  obtain⟨b,rfl,lb,gb⟩:=rise_ev o hw ycb ycb
  have lz:=o.1.wf _ _ gb
  have s2:=o.1.set lb lz hw (.cells (.gr 1) ((Z0 (Ps.map of)).map iv))
  have g2:(z.set b (.cells (.gr 1) ((Z0 (Ps.map of)).map iv))).get b=some (.cells (.gr 1) ((Z0 (Ps.map of)).map iv)):=get_set_same rfl
  simp(disch:=omega)only[go_sem,t1,t5,t8,t9,t10,Int.lt_irrefl,sort_ev gb ycb ycb]
  rw[←XZ (Ps.map of)]
  refine Compact_ev s2 hw lb g2 ycr ycr _ fun yy h' s' k' x'=>?_
  simp(disch:=omega)only[go_sem]
  exact q _ _ s' x'
theorem q_feq_X (a b c d:Int):q_feq false 2 (.agg [.ii a,.ii b]) (.agg [.ii c,.ii d])=some (.bool (decide ((a,b)=(c,d)))):=by
 have:=X2 (n:=2) [a,b] [c,d] rfl rfl false
 have e:decide ([a,b]=[c,d])=decide ((a,b)=(c,d)):=by simp
 rw[e] at this
 exact this
set_option maxHeartbeats 4000000 in
theorem settled_ev {h:H}(hw:h.wf){y:V}{Ps:List Fd}(x:Zg h y 26 (Ps.map YW))(hone:∀p∈Ps,ZB (YW p)=true)(hlen:∀p∈Ps,(YW p).length=26)(hne:Ps≠[])(hP:Ps.length≤15625){k:Nat}(hr:∀p∈Ps,Zg h p.1 2 (p.2.1.map XP)∧k<p.2.1.length)
  {g:FuncId} {u v:List V} {of:Int × Int→Int} (hp:∀s,YA h (.fn g u v) [.agg (XP s)] (.ii (of s))) (Q:V→H→Prop)
  (q:∀w h',h.Sub h'→Zg h' w 1 ((WW ((dd (Ps.map fun p=>p.2.1.getD k (0,0)) Ps.length).map of)).map encI)→Q w h'):Ev fnG Zi (.fn 84 [] []) [y,.ii (k:Int),.fn g u v] h Q:=by
 have hlY:=x.lenE
 refine Ze (fd:=c84) rfl rfl rfl ?_
 simp(disch:=omega)only[c84,go_sem,hlY]
 obtain⟨rk,hrk⟩:∃rk,(Ps.map fun p=>p.2.1.getD k (0,0))=rk:=⟨_,rfl⟩
 have lrk:rk.length=Ps.length:=by rw[←hrk,List.length_map]
 rw[hrk] at q
 have rat:∀{i:Nat} (hi:i<Ps.length),rk[i]? =some (Ps[i].2.1.getD k (0,0)):=fun{i} hi=>by rw[←hrk,List.getElem?_map,List.getElem?_eq_getElem hi];rfl
 refine Zk Ps.length (fun i s=>∃tm z w,s=⟨tm,z,[]⟩∧Zx h z w 1 (((dd rk i).map of).map encI)∧tm.E 0=y∧tm.E 1=.ii (k:Int)∧tm.E 2=.fn g u v∧tm.E 7=w∧tm.E 10=y∧tm.E 11=.ii (Ps.length:Int)∧tm.E 12=.ii (i:Int)) ?_ ?_ (i:=0) (Nat.zero_le _)
  ⟨_,_,_,rfl,Zx.nil (H.Sub.refl hw) 1,ycc,ycc,ycc,ycc,ycc,ycc,ycc⟩
 ·rintro i s hi ⟨tm,z,w,rfl,o,t0,t1,t2,t7,t10,t11,t12⟩
  have hi':(i:Int)<(Ps.length:Int):=by omega
  have sz:=o.1
  obtain⟨b',o',cc',cs',e',hc',hq',hg',hn',_⟩:=(x.mono sz).at hi
  have hpm:=List.getElem_mem hi
  have hoi:=hone _ hpm
  have hli:=hlen _ hpm
  obtain⟨hRi,hki⟩:=hr _ hpm
  have rki:=rat hi
  have la:((dd rk i).map of).length≤15625:=by rw[List.length_map];have:=dd_len (l:=rk) (n:=i);omega
  have hnF:nth 0 (YW Ps[i])=some Ps[i].1:=rfl
  obtain⟨bR,oR,cR,csR,eR,hcR,hqR,hgR,_,_⟩:=(hRi.mono sz).at hki
  have hgd:Ps[i].2.1.getD k (0,0)=Ps[i].2.1[k]:=by rw[List.getD_eq_getElem?_getD,List.getElem?_eq_getElem hki];rfl
  rw[hgd] at rki
  generalize Ps[i].2.1[k]=sg at hgR rki
  obtain⟨R,hR⟩:∃R,Ps[i].1=R:=⟨_,rfl⟩
  rw[hR] at hnF hqR
  generalize YW Ps[i]=F at hg' hoi hli hnF
  have nF:F≠[]:=by intro e0;rw[e0] at hli;cases hli
  have lnF:Yt F=26:=by rw[Z7,hli]
  have pF:(z.add (.bk [.nils,.ii 0,.ii 0,.ii 0,.ii 0,.ii 0,.ii 0,.ii 0,.ii 0,.ii 0,.ii 0,.ii 0,.ii 0,.ii 0,.ii 0,.ii 0,.ii 0,.ii 0,.ii 0,.ii 0,.ii 0,.ii 0,.ii 0,.ii 0,.ii 0,.ii 0])).put z.next 0 F=some ((z.add (.bk [.nils,.ii 0,.ii 0,.ii 0,.ii 0,.ii 0,.ii 0,.ii 0,.ii 0,.ii 0,.ii 0,.ii 0,.ii 0,.ii 0,.ii 0,.ii 0,.ii 0,.ii 0,.ii 0,.ii 0,.ii 0,.ii 0,.ii 0,.ii 0,.ii 0,.ii 0])).set z.next (.bk F)):=put_full (Zc rfl) (by rw[hli];rfl) nF hoi
  have sA:=(H.Sub.refl sz.wf).add (.bk F)
  have gA:(z.add (.bk F)).get z.next=some (.bk F):=Zc rfl
  obtain⟨zA,hzA⟩:∃zA,z.add (.bk F)=zA:=⟨_,rfl⟩
  rw[hzA] at sA gA
  simp only[XP] at hgR
  have hcRA:=sA.cells hcR
  have hpi:=hp sg
  have oA:=o.mono sA
  by_cases h0:i=0
  ·have hd:dd rk (i+1)=dd rk i++[sg]:=dd_new rki fun⟨h,_⟩=>by omega
   rw[hd,List.map_append,List.map_append]
   generalize(dd rk i).map of=L at o oA la⊢
   have hz:¬(0:Int)<(i:Int):=by omega
   simp(disch:=omega)only[go_sem,t0,t1,t2,t7,t10,t11,t12,hi',hq' (Zb i),hc',hg',lnF,pF,hzA,Za gA,hz,hnF,hqR (Zb k),hcRA,hgR]
   refine hpi.use (sz.trans sA) fun z2 s2=>?_
   have oB:=oA.mono s2
   have s3:=(H.Sub.refl s2.wf).add (.bk [.ii (of sg)])
   have sn:Zg (z2.add (.bk [.ii (of sg)])) (.sl z2.next 0 1 (.fix 1)) 1 [encI (of sg)]:=Zg.new _ rfl rfl rfl yco ycl
   simp(disch:=omega)only[go_sem,t0,t1,t2,t7,t10,t11,t12]
   refine(oB.mono s3).app1 (by_:=8) (r:=encI (of sg)) hw rfl ycb sn rfl yce yce fun z3 o3 k3 n3=>?_
   rw[H.next_add] at o3
   simp(disch:=omega)only[go_sem,t0,t1,t2,t7,t10,t11,t12,Zj]
   exact⟨_,_,_,rfl,o3,ycg,yck,ycj,ycc,ycs,yct,ycc⟩
  ·have hz:(0:Int)<(i:Int):=by omega
   have hj:i-1<Ps.length:=by omega
   have hw1:wr .i64 ((i:Int)-1)=((i-1:Nat):Int):=by rw[Zo ycb ycb];omega
   obtain⟨b2,o2,cc2,cs2,e2,hc2,hq2,hg2,hn2,_⟩:=(x.mono sz).at hj
   obtain⟨hRj,hkj⟩:=hr _ (List.getElem_mem hj)
   have rkj:=rat hj
   have hgdj:Ps[i-1].2.1.getD k (0,0)=Ps[i-1].2.1[k]:=by rw[List.getD_eq_getElem?_getD,List.getElem?_eq_getElem hkj];rfl
   rw[hgdj] at rkj
   obtain⟨bS,oS,cS,csS,eS,hcS,hqS,hgS,_,_⟩:=(hRj.mono sz).at hkj
   have hnS:nth (o2+(i-1)*26) cs2=some Ps[i-1].1:=by have:=hn2 0 ycd;rw[Nat.add_zero] at this;rw[this];rfl
   generalize Ps[i-1].2.1[k]=sj at hgS rkj
   obtain⟨R2,hR2⟩:∃R2,Ps[i-1].1=R2:=⟨_,rfl⟩
   rw[hR2] at hnS hqS
   simp only[XP] at hgS
   have hc2A:=sA.cells hc2
   have hcSA:=sA.cells hcS
   have hfe:=q_feq_X sg.1 sg.2 sj.1 sj.2
   by_cases heq:sg=sj
   ·have hd:dd rk (i+1)=dd rk i:=dd_same rki ⟨by omega,by rw[rkj,heq]⟩
    have hde:decide ((sg.1,sg.2)=(sj.1,sj.2))=true:=decide_eq_true heq
    rw[hde] at hfe
    rw[hd]
    simp(disch:=omega)only[go_sem,t0,t1,t2,t7,t10,t11,t12,hi',hq' (Zb i),hc',hg',lnF,pF,hzA,Za gA,hz,hnF,hqR (Zb k),hcRA,hgR,hw1,hq2 (Zb (i-1)),hc2A,hnS,hqS (Zb k),hcSA,hgS,hfe,Zj]
    exact⟨_,_,_,rfl,oA,ycg,yck,ycj,ych,ycs,yct,ycc⟩
   ·have hd:dd rk (i+1)=dd rk i++[sg]:=dd_new rki fun⟨_,h⟩=>by rw[rkj] at h;exact heq (Option.some.inj h).symm
    have hde:decide ((sg.1,sg.2)=(sj.1,sj.2))=false:=decide_eq_false heq
    rw[hde] at hfe
    rw[hd,List.map_append,List.map_append]
    generalize(dd rk i).map of=L at o oA la⊢
    simp(disch:=omega)only[go_sem,t0,t1,t2,t7,t10,t11,t12,hi',hq' (Zb i),hc',hg',lnF,pF,hzA,Za gA,hz,hnF,hqR (Zb k),hcRA,hgR,hw1,hq2 (Zb (i-1)),hc2A,hnS,hqS (Zb k),hcSA,hgS,hfe]
    refine hpi.use (sz.trans sA) fun z2 s2=>?_
    have oB:=oA.mono s2
    have s3:=(H.Sub.refl s2.wf).add (.bk [.ii (of sg)])
    have sn:Zg (z2.add (.bk [.ii (of sg)])) (.sl z2.next 0 1 (.fix 1)) 1 [encI (of sg)]:=Zg.new _ rfl rfl rfl yco ycl
    simp(disch:=omega)only[go_sem,t0,t1,t2,t7,t10,t11,t12]
    refine(oB.mono s3).app1 (by_:=8) (r:=encI (of sg)) hw rfl ycb sn rfl yce yce fun z3 o3 k3 n3=>?_
    rw[H.next_add] at o3
    simp(disch:=omega)only[go_sem,t0,t1,t2,t7,t10,t11,t12,Zj]
    exact⟨_,_,_,rfl,o3,ycg,yck,ycj,ycc,ycs,yct,ycc⟩
 ·rintro s ⟨tm,z,w,rfl,o,t0,t1,t2,t7,t10,t11,t12⟩
  have lp:=List.length_pos_iff.2 hne
  have ll:((dd rk Ps.length).map of).length≤15625:=by rw[List.length_map];have:=dd_len (l:=rk) (n:=Ps.length);omega
  have l1:1≤((dd rk Ps.length).map of).length:=by rw[List.length_map];exact dd_pos ycb lp
  generalize(dd rk Ps.length).map of=L at o ll l1 q
  obtain⟨b,rfl,lb,gb⟩:=rise_ev o hw ycb ycb
  have lz:=o.1.wf _ _ gb
  have s2:=o.1.set lb lz hw (.cells (.gr 1) ((Z0 L).map iv))
  have g2:(z.set b (.cells (.gr 1) ((Z0 L).map iv))).get b=some (.cells (.gr 1) ((Z0 L).map iv)):=get_set_same rfl
  simp(disch:=omega)only[go_sem,t0,t1,t2,t7,t10,t11,t12,Int.lt_irrefl,sort_ev gb ycb ycb]
  rw[←XZ L]
  refine Compact_ev s2 hw lb g2 ycr ycr _ fun yy h' s' k' x'=>?_
  simp(disch:=omega)only[go_sem]
  exact q _ _ s' x'
end Go.Ab.Tryz
namespace Go.Ab.Tryz
open Go.Proofs
theorem values_eq {h:H}{x:V}(hx:x.one=true)(Q:V→H→Prop):Ev fnG Zi (.fn 124 [] []) [x] h Q=Q (.fn 152 [] [.ptr h.next 0]) (h.add (.bk [x])):=by
 refine Ev.det (Ze (fd:=c124) rfl rfl rfl ?_) Q
 simp(disch:=omega)only[c124,go_sem,hx,cells_one hx]
theorem vals_gen {h:H}{x:V}{l:List Int}(hx:Zg h x 1 (l.map encI)){b:Nat}(g:h.get b=some (.bk [x])){y:V}(hy:∃l0,y=.yld l0){J:Nat→H→Prop}(base:∀n z,J n z→h.Sub z)
  (step:∀n m,l[n]? =some m→∀z,J n z→Ev fnG Zi y [.ii m] z fun u z'=>u=.bool true∧J (n+1) z') {z:H} (hJ:J 0 z):Ev fnG Zi (.fn 152 [] [.ptr b 0]) [y] z fun _ z'=>J l.length z':=by
 refine Ev.gen fun Q q=>?_
 obtain⟨l0,rfl⟩:=hy
 have s0:=base _ _ hJ
 have hl:=hx.lenE
 refine Ze (fd:=c152) rfl rfl rfl ?_
 simp(disch:=omega)only[c152,go_sem,Za (s0.get g),hl]
 refine Zk l.length (fun i s=>∃tm z,s=⟨tm,z,[]⟩∧J i z∧tm.E 0=.yld l0∧tm.E 5=x∧tm.E 6=.ii (l.length:Int)∧tm.E 7=.ii (i:Int)) ?_ ?_ (i:=0) (Nat.zero_le _)
  ⟨_,_,rfl,hJ,ycc,ycc,ycc,ycc⟩
 ·rintro i s hi ⟨tm,z,rfl,hJ,t0,t5,t6,t7⟩
  have hi':(i:Int)<(l.length:Int):=by omega
  have hb:=hx.2.1
  rw[List.length_map] at hb
  have w7:wr .i64 ((i:Int)+1)=(i:Int)+1:=Zo ycb ycb
  obtain⟨b',o',cc',cs',e',hc',hq',_,_,n'⟩:=(hx.mono (base _ _ hJ)).at hi
  have v:=n' ycd
  simp only[encI,List.getElem?_cons_zero] at v
  simp(disch:=omega)only[go_sem,t0,t5,t6,t7,hi',hq' (Zb i),hc',v]
  refine(step i l[i] (List.getElem?_eq_getElem hi) z hJ).mono fun u z' hz=>?_
  obtain⟨rfl,hJ'⟩:=hz
  simp(disch:=omega)only[go_sem,t0,t5,t6,t7,w7]
  exact⟨_,_,rfl,hJ',ycg,ycf,yci,ycc⟩
 ·rintro s ⟨tm,z,rfl,hJ,t0,t5,t6,t7⟩
  simp(disch:=omega)only[go_sem,t0,t5,t6,t7,Int.lt_irrefl]
  exact q _ _ hJ
set_option maxHeartbeats 4000000 in
theorem appSeqInt_ev {h:H}(hw:h.wf){x:V}{l:List Int}(hx:Zg h x 1 (l.map encI))(hl:l.length≤100000){b:Nat}(g:h.get b=some (.bk [x]))(Q:V→H→Prop)(q:∀w h',Zx h h' w 1 (l.map encI)→(l=[]→w=.nils)→Q w h'):
  Ev fnG Zi (.fn 156 [] []) [.nils,.fn 152 [] [.ptr b 0]] h Q:=by
 refine Ze (fd:=c156) rfl rfl rfl ?_
 simp(disch:=omega)only[c156,go_sem]
 have s1:h.Sub (h.add (.bk [.nils])):=(H.Sub.refl hw).add _
 have gc1:(h.add (.bk [.nils])).get h.next=some (.bk [.nils]):=Zc rfl
 have n1:=H.next_add h (.bk [.nils])
 generalize h.add (.bk [.nils])=h1 at s1 gc1 n1⊢
 have w1:=s1.wf
 refine W_gen (P:=fun tm=>tm.E 2=.ptr h.next 0∧tm.E 6=.fn 152 [] [.ptr b 0]) ⟨ycc,ycc⟩ fun tm ⟨t2,t6⟩=>?_
 refine W_rf t6 ?_
 generalize hr:ZY.mk _ _ _ _ _ _ _ _ _=r0
 have fB:=congrArg ZY.body hr
 have fA:=congrArg ZY.assign hr
 have fN:=congrArg ZY.n hr
 have fF:=congrArg ZY.fn hr
 have fP:=congrArg ZY.ps hr
 have fT:=congrArg ZY.tm hr
 dsimp only at fB fA fN fF fP fT
 have hrs:r0.st=.ready:=by rw[←hr]
 have hrp:r0.pend=none:=by rw[←hr]
 obtain⟨J,hJ⟩:∃J:Nat→H→Prop,∀n x,J n x↔∃y,Zx h x y 1 ((l.take n).map encI)∧(∀c,Zq y c→h1.next+1<c)∧x.get (h1.next+1)=some (.loop r0)∧x.get h1.next=some .dfr∧x.get h.next=some (.bk [y])∧(n=0→y=.nils):=⟨_,fun _ _=>Iff.rfl⟩
 have s3:h.Sub ((h1.add .dfr).add (.loop r0)):=(s1.add _).add _
 have j0:J 0 ((h1.add .dfr).add (.loop r0)):=(hJ _ _).2 ⟨.nils,Zx.nil s3 1,fun b hb=>(Zy hb).elim,Zc (by rw[H.next_add]),by rw[ZC ycn];exact Zc rfl,
  by rw[ZC ycn,ZC ycb];exact gc1,fun _=>rfl⟩
 refine(vals_gen hx g (y:=.yld (h1.next+1)) ⟨_,rfl⟩ (J:=J) (fun n z hz=>?_) (fun n m hm x hx=>?_) j0).mono fun u h7 hJ7=>?_
 ·obtain⟨y,o,_⟩:=(hJ _ _).1 hz;exact o.1
 ·obtain⟨y,o,yb,gl,gd,gc,_⟩:=(hJ _ _).1 hx
  refine Ev.gen fun Q2 q2=>?_
  have sx:=o.1
  have wx:=sx.wf
  have lx:=wx _ _ gl
  have hn:=Vf hm
  refine Ev_yld (tm:=tm.put (some (.ii m)) 7) gl (by rw[←fP,←fT];rfl) ?_
  rw[←fA,←fN,←fF]
  simp(disch:=omega)only[go_sem,t2]
  unfold Kasg
  refine⟨rfl,r0,gl,hrs,?_⟩
  obtain⟨rb,hrb⟩:∃rb:ZY,rb={r0 with st:=.busy}:=⟨_,rfl⟩
  have hrb1:({rb with st:=.ready,pend:=none}:ZY)=r0:=by rw[hrb];exact rLoop hrs hrp
  rw[←hrb,←fB,←fN,←fF]
  have K3:Zh (fun b=>b=h1.next+1) x (x.set (h1.next+1) (.loop rb)):=Zh.set _ _ _
  have s4:h.Sub (x.set (h1.next+1) (.loop rb)):=sx.set ycb ycb hw _
  have gl4:(x.set (h1.next+1) (.loop rb)).get (h1.next+1)=some (.loop rb):=get_set_same rfl
  have n4:(x.set (h1.next+1) (.loop rb)).next=x.next:=H.next_set _ _ _
  have o4:=o.keep K3 s4 fun b hb e=>by have:=yb b hb;omega
  generalize x.set (h1.next+1) (.loop rb)=h4 at K3 s4 gl4 n4 o4⊢
  have gc4:=K3.2 _ _ gc ycb
  have gd4:=K3.2 _ _ gd ycb
  have s5:=(H.Sub.refl s4.wf).add (.bk [.ii m])
  have sn:Zg (h4.add (.bk [.ii m])) (.sl h4.next 0 1 (.fix 1)) 1 [encI m]:=Zg.new _ rfl rfl rfl yco ycl
  have n5:=H.next_add h4 (.bk [.ii m])
  simp(disch:=omega)only[go_sem,t2,Za gc4]
  refine(o4.mono s5).app1 (by_:=8) (r:=encI m) hw rfl ycb sn rfl (by rw[List.length_map,List.length_take];omega) (by rw[List.length_map,List.length_take];omega) fun h6 o6 k6 n6=>?_
  have gl6:=k6.2 _ _ (s5.get gl4) fun hb=>by have:=yb _ hb;omega
  have gd6:=k6.2 _ _ (s5.get gd4) fun hb=>by have:=yb _ hb;omega
  have gc6:=k6.2 _ _ (s5.get gc4) fun hb=>by have:=yb _ hb;omega
  obtain⟨y',hy'⟩:∃y':V,V.sl (h4.add (.bk [.ii m])).next 0 (((l.take n).map encI).length+1) (.slk 0 0)=y':=⟨_,rfl⟩
  have y1':=o6.c.one
  have yb6:∀c,Zq (V.sl (h4.add (.bk [.ii m])).next 0 (((l.take n).map encI).length+1) (.slk 0 0)) c→h1.next+1<c∧c<h6.next:=fun c ⟨o,k,cc,e⟩=>by cases e;omega
  rw[hy'] at o6 y1' yb6⊢
  simp(disch:=omega)only[go_sem,t2,gc6,y1',cells_one y1']
  unfold Kround
  have lc6:=s4.wf _ _ gc4
  have s7:h.Sub (h6.set h.next (.bk [y'])):=o6.1.set ycb ycb hw _
  have s8:h.Sub ((h6.set h.next (.bk [y'])).set (h1.next+1) (.loop r0)):=s7.set ycb (by rw[H.next_set];omega) hw _
  have k7:Zh (fun c=>c=h.next∨c=h1.next+1) h6 ((h6.set h.next (.bk [y'])).set (h1.next+1) (.loop r0)):=⟨by simp only[H.next_set];omega,fun c w gw nb=>by rw[get_set_other fun e=>nb (.inr e),get_set_other fun e=>nb (.inl e)];exact gw⟩
  refine⟨rb,by rw[get_set_other ycb];exact gl6,q2 _ _ ⟨rfl,?_⟩⟩
  rw[hrb1]
  have e7:(l.take (n+1)).map encI=(l.take n).map encI++[encI m]:=by rw[List.take_add_one,hm,List.map_append];rfl
  refine(hJ _ _).2 ⟨y',?_,fun c hc=>(yb6 c hc).1,get_set_same rfl,?_,?_,fun e=>by cases e⟩
  ·rw[e7];exact o6.keep k7 s8 fun c hc e=>by have:=yb6 c hc;omega
  ·exact k7.2 _ _ gd6 ycb
  ·rw[get_set_other ycb];exact get_set_same rfl
 ·obtain⟨y,o,yb,gl,gd,gc,y0⟩:=(hJ _ _).1 hJ7
  refine⟨r0,gl,by rw[hrs];simp,?_⟩
  rw[hrp]
  have s7:=o.1
  have lt7:=s7.wf _ _ gl
  have s8:h.Sub (h7.set (h1.next+1) (.loop {r0 with st:=.exhausted})):=s7.set ycb lt7 hw _
  have K8:Zh (fun c=>c=h1.next+1) h7 (h7.set (h1.next+1) (.loop {r0 with st:=.exhausted})):=Zh.set _ _ _
  have d8:=K8.2 _ _ gd ycb
  have e8:=K8.2 _ _ gc ycb
  rw[hrp] at s8 K8 d8 e8
  generalize h7.set (h1.next+1) _=h8 at s8 K8 d8 e8⊢
  have y1:=o.c.one
  simp(disch:=omega)only[go_sem,t2,Za e8,Kfin_ret1 _ _ _ d8]
  have s9:h.Sub (h8.del h1.next):=H.Sub.del s8 ycb hw
  have K9:Zh (fun c=>c=h1.next+1∨c=h1.next) h7 (h8.del h1.next):=⟨by rw[H.next_del];exact K8.1,fun b w g nb=>by rw[Wb fun e=>nb (.inr e)];exact K8.2 _ _ g fun e=>nb (.inl e)⟩
  rw[List.take_length] at o
  exact q _ _ (o.keep K9 s9 fun b hb e=>by have:=yb b hb;omega) fun e=>y0 (by rw[e];rfl)
theorem collectInt_ev {h:H}(hw:h.wf){x:V}{l:List Int}(hx:Zg h x 1 (l.map encI))(hl:l.length≤100000){b:Nat}(g:h.get b=some (.bk [x]))(Q:V→H→Prop)(q:∀w h',Zx h h' w 1 (l.map encI)→(l=[]→w=.nils)→Q w h'):
  Ev fnG Zi (.fn 151 [] []) [.fn 152 [] [.ptr b 0]] h Q:=by
 refine Ze (fd:=c151) rfl rfl rfl ?_
 simp(disch:=omega)only[c151,go_sem]
 refine appSeqInt_ev hw hx hl g _ fun w h' o o0=>?_
 simp(disch:=omega)only[go_sem]
 exact q _ _ o o0
theorem sort0_ev {h:H}(Q:V→H→Prop):Ev fnG Zi (.fn 138 [] []) [.nils] h Q=Q (.tup []) h:=Ev.det ⟨1,.tup [],h,rfl,rfl,rfl⟩ Q
theorem sorted_ev {h:H}(hw:h.wf){x:V}{l:List Int}(hx:Zg h x 1 (l.map encI))(h0:l≠[])(hl:l.length≤100000){b:Nat}(g:h.get b=some (.bk [x]))(Q:V→H→Prop)
  (q:∀c h',h.Sub h'→h.next≤c→h'.get c=some (.cells (.gr 1) ((Z0 l).map iv))→Q (.sl c 0 l.length (.slk 0 0)) h'):Ev fnG Zi (.fn 123 [] []) [.fn 152 [] [.ptr b 0]] h Q:=by
 refine Ze (fd:=c123) rfl rfl rfl ?_
 simp(disch:=omega)only[c123,go_sem]
 refine collectInt_ev hw hx hl g _ fun w h' o _=>?_
 have l1:=List.length_pos_iff.2 h0
 obtain⟨c,rfl,lc,gc⟩:=rise_ev o hw ycb hl
 have lc2:=o.1.wf _ _ gc
 simp(disch:=omega)only[go_sem,sort_ev gc ycb ycb]
 exact q _ _ (o.1.set lc lc2 hw _) lc (get_set_same rfl)
theorem sorted0_ev {h:H}(hw:h.wf){x:V}(hx:Zg h x 1 (([]:List Int).map encI)){b:Nat}(g:h.get b=some (.bk [x]))(Q:V→H→Prop)
  (q:∀h',h.Sub h'→Q .nils h'):Ev fnG Zi (.fn 123 [] []) [.fn 152 [] [.ptr b 0]] h Q:=by
 refine Ze (fd:=c123) rfl rfl rfl ?_
 simp(disch:=omega)only[c123,go_sem]
 refine collectInt_ev hw hx ycl g _ fun w h' o o0=>?_
 have e:w=.nils:=o0 rfl
 subst e
 simp(disch:=omega)only[go_sem,sort0_ev]
 exact q _ o.1
end Go.Ab.Tryz
namespace Go.Ab.Tryz
open Go.Proofs
def Wt (l:List Int)(i:Nat):Bool:=l.any fun r=>decide ((i:Int)=r)
def X8 (a:At)(l:List Int):Bool × Int:=
 if Zn a≠0 then(false,Zn a) else if(l.all fun i=>inB i 0 ((a.rds.length:Int)-1))=false then(false,1) else if(WW l).length<l.length then(false,5) else(decide (Zw a (Wt l)≠[]),0)
theorem compact0_ev {h:H}(Q:V→H→Prop):Ev fnG Zi (.fn 125 [] []) [.nils] h Q=Q .nils h:=by
 have h02:decide ((0:Int)<2)=true:=rfl
 refine Ev.det (Ze (fd:=c125) rfl rfl rfl ?_) Q
 simp(disch:=omega)only[c125,go_sem,h02]
theorem sortedC_ev {h:H}(hw:h.wf){x:V}{l:List Int}(hx:Zg h x 1 (l.map encI))(hl:l.length≤100000){b:Nat}(g:h.get b=some (.bk [x]))(Q:V→H→Prop)
  (q:∀w h',h.Sub h'→(∀Q2:V→H→Prop,(∀w2 h2,h.Sub h2→Zg h2 w2 1 ((WW l).map encI)→Q2 w2 h2)→Ev fnG Zi (.fn 125 [] []) [w] h' Q2)→Q w h'):Ev fnG Zi (.fn 123 [] []) [.fn 152 [] [.ptr b 0]] h Q:=by
 by_cases hnil:l=[]
 ·subst hnil
  refine sorted0_ev hw hx g _ fun h' s=>q _ _ s fun Q2 q2=>?_
  rw[compact0_ev]
  exact q2 _ _ s (show Zg _ _ 1 (([]:List Int).map encI) from⟨by simp,by simp,.inl ⟨rfl,rfl⟩⟩)
 ·refine sorted_ev hw hx hnil hl g _ fun c h' s lc gc=>q _ _ s fun Q2 q2=>?_
  have hlen:=XZ l
  have lp:=List.length_pos_iff.2 hnil
  rw[←hlen]
  exact Compact_ev s hw lc gc ycb ycb _ fun w2 h2 s2 _ x2=>q2 _ _ s2 x2
theorem agree1_ev {h:H}(hw:h.wf){a:At}{C R G:V}(x:ZP h C R G a){b:Nat}(g:h.get b=some (.bk (atV a C R G)))(n:Int):YA h (.fn 122 [] [.ptr b 0]) [.ii n] (.bool (inB n 0 ((a.rds.length:Int)-1))):=by
 intro h1 s
 refine Ev.gen fun Q q=>?_
 have hlR:=x.r.lenE
 have hb:=x.r.2.1
 rw[List.length_map] at hb
 have w1:wr .i64 ((a.rds.length:Int)-1)=(a.rds.length:Int)-1:=Zo ycb ycb
 refine Ze (fd:=c122) rfl rfl rfl ?_
 simp(disch:=omega)only[c122,go_sem,Za (s.get g),hlR,w1,Xx]
 exact q _ _ ⟨rfl,H.Sub.refl s.wf⟩
theorem some1_ev {h:H}{x:V}{l:List Int}(hx:Zg h x 1 (l.map encI)){b:Nat}(g:h.get b=some (.bk [x]))(n:Int):YA h (.fn 141 [] [.ptr b 0]) [.ii n] (.bool (l.any fun r=>decide (n=r))):=by
 intro h1 s
 refine Ev.gen fun Q q=>?_
 refine Ze (fd:=c141) rfl rfl rfl ?_
 simp(disch:=omega)only[c141,go_sem,Za (s.get g)]
 refine hasInt_ev s.wf (hx.mono s) n _ fun h2 s2=>?_
 simp(disch:=omega)only[go_sem]
 exact q _ _ ⟨rfl,s2⟩
theorem some_eq {h:H}{x:V}(hx:x.one=true)(Q:V→H→Prop):Ev fnG Zi (.fn 90 [] []) [x] h Q=Q (.agg [.fn 141 [] [.ptr h.next 0]]) ((h.add (.bk [x])).add (.bk [.fn 141 [] [.ptr h.next 0]])):=by
 refine Ev.det (Ze (fd:=c90) rfl rfl rfl ?_) Q
 simp -implicitDefEqProofs(disch:=first|omega|simp only[nZ]<;>omega|fail)only[c90,go_sem,hx,cells_one hx]
set_option maxHeartbeats 4000000 in
theorem Agree_ev {h:H}(hw:h.wf){a:At}{C R G:V}(x:ZP h C R G a){y:V}{l:List Int}(hy:Zg h y 1 (l.map encI))(hl:l.length≤100000)(Q:V→H→Prop)(q:∀h',h.Sub h'→Q (.tup [.bool (X8 a l).1,.ii (X8 a l).2]) h'):
  Ev fnG Zi (.fn 69 [] []) [.agg (atV a C R G),y] h Q:=by
 have oC:=x.c.one;have oR:=x.r.one;have oG:=x.g.one
 have oy:=hy.one
 refine Ze (fd:=c69) rfl rfl rfl ?_
 obtain⟨z,hz⟩:∃z,h.add (.bk (atV a C R G))=z:=⟨_,rfl⟩
 have sz:h.Sub z:=by rw[←hz];exact yca
 have ga:z.get h.next=some (.bk (atV a C R G)):=by rw[←hz];exact Zc rfl
 simp(disch:=omega)only[c69,go_sem,oC,oR,oG]
 rw[hz]
 clear hz
 refine Y9 sz.wf ⟨C,R,G,rfl,x.mono sz⟩ _ fun z1 s1=>?_
 have s01:=sz.trans s1
 by_cases he:Zn a=0
 case neg=>
  simp(disch:=omega)only[go_sem,he,ne_eq,not_false_eq_true]
  have e:X8 a l=(false,Zn a):=if_pos he
  rw[e] at q
  exact q _ s01
 have r:=Zz.1 he
 rw[he]
 have g1:=s1.get ga
 simp(disch:=omega)only[go_sem,ne_eq,not_true_eq_false]
 refine(everyInt_ev (p:=fun i=>inB i 0 ((a.rds.length:Int)-1)) s01.wf (hy.mono s01) fun n _=>agree1_ev s01.wf (x.mono s01) g1 n).mono fun _ z2 hv=>?_
 obtain⟨rfl,s2⟩:=hv
 have s02:=s01.trans s2
 cases hall:(l.all fun i=>inB i 0 ((a.rds.length:Int)-1)) with
 |false=>
  have e:X8 a l=(false,1):=by unfold X8;rw[if_neg ycq,if_pos hall]
  rw[e] at q
  simp(disch:=omega)only[go_sem]
  exact q _ s02
 |true=>
 have e:X8 a l=if(WW l).length<l.length then(false,5) else(decide (Zw a (Wt l)≠[]),0):=by unfold X8;rw[if_neg ycq,if_neg (by rw[hall];simp)]
 have sA:=(H.Sub.refl s02.wf).add (.bk [y])
 have gA:(z2.add (.bk [y])).get z2.next=some (.bk [y]):=Zc rfl
 have hly:=hy.lenE
 have g2:=s2.get g1
 simp(disch:=omega)only[go_sem,values_eq oy]
 obtain⟨zA,hzA⟩:∃zA,z2.add (.bk [y])=zA:=⟨_,rfl⟩
 rw[hzA] at sA gA
 try rw[hzA]
 clear hzA
 have s0A:=s02.trans sA
 have hyA:=hy.mono s0A
 refine sortedC_ev sA.wf hyA hl gA _ fun w zB sB hcomp=>?_
 simp(disch:=omega)only[go_sem]
 refine hcomp _ fun w2 zC sC xw=>?_
 have hlw:=xw.lenE
 have s0C:=s0A.trans sC
 have gC:=(sA.trans sC).get g2
 by_cases hd:(WW l).length<l.length
 ·have hd':((WW l).length:Int)<(l.length:Int):=by omega
  rw[if_pos hd] at e
  rw[e] at q
  simp(disch:=omega)only[go_sem,hlw,hly,hd']
  exact q _ s0C
 have hd':¬((WW l).length:Int)<(l.length:Int):=by omega
 rw[if_neg hd] at e
 rw[e] at q
 simp(disch:=omega)only[go_sem,hlw,hly,hd',some_eq oy,Za gC]
 obtain⟨zD,hzD⟩:∃zD,(zC.add (.bk [y])).add (.bk [.fn 141 [] [.ptr zC.next 0]])=zD:=⟨_,rfl⟩
 have sD:zC.Sub zD:=by rw[←hzD];exact((H.Sub.refl sC.wf).add _).add _
 have gD:zD.get zC.next=some (.bk [y]):=by rw[←hzD,ZC ycn];exact Zc rfl
 try rw[hzD]
 clear hzD
 have s0D:=s0C.trans sD
 refine worked_ev s0D.wf (x.mono s0D) r rfl _ fun d W ms zE sE ld dk=>?_
 have s0E:=s0D.trans sE
 simp(disch:=omega)only[go_sem,Za gC,Za (sD.get gC),Za ((sD.trans sE).get gC)]
 refine agreed_ev s0E.wf dk r (cnt:=Wt l) (fun i _=>some1_ev (hy.mono s0E) (sE.get gD) i) _ fun zF sF=>?_
 simp(disch:=omega)only[go_sem,Za gC,Za (sD.get gC)]
 exact q _ (s0E.trans sF)
end Go.Ab.Tryz
namespace Go.Ab.Silk
def YT:Nat→Nat→Int→List (List Int)
 |0,_,_=>[[]]
 |_+1,0,_=>[]
 |k+1,f+1,i=>(YT k f (i+1)).map (fun l=>i::l)++YT (k+1) f (i+1)
def YS:List Int→List Int→Bool
 |a::l,b::r=>if a=b then YS l r else decide (a<b)
 |_,_=>false
def before (a b:List Int):Bool:=if a.length=b.length then YS a b else decide (a.length<b.length)
def Inc (hi:Int):Int→List Int→Prop
 |_,[]=>True
 |i,a::l=>i≤a∧a<hi∧Inc hi (a+1) l
theorem Inc.lower {hi:Int}:∀{i j:Int} {l:List Int},Inc hi i l→j≤i→Inc hi j l
 |_,_,[],_,_=>trivial
 |i,j,a::l,h,hj=>⟨by have:=h.1;omega,h.2.1,h.2.2⟩
theorem Inc.len {hi:Int}:∀{i:Int} {l:List Int},Inc hi i l→i≤hi→(l.length:Int)≤hi-i
 |i,[],_,h=>by simp only[List.length_nil];omega
 |i,a::l,h,hl=>by
  have:=Inc.len h.2.2 (by have:=h.2.1;omega)
  have:=h.1
  simp only[List.length_cons];omega
theorem VO:∀(k f:Nat) (i:Int) (l:List Int),l∈YT k f i↔l.length=k∧Inc (i+f) i l
 |0,f,i,l=>by
  simp only[YT,List.mem_singleton]
  constructor
  ·rintro rfl;exact⟨rfl,trivial⟩
  ·rintro⟨h,_⟩;exact List.length_eq_zero_iff.1 h
 |k+1,0,i,l=>by
  simp only[YT,List.not_mem_nil,false_iff]
  rintro⟨h,h2⟩
  cases l with
  |nil=>cases h
  |cons a l=>have:=h2.1;have:=h2.2.1;omega
 |k+1,f+1,i,l=>by
  simp only[YT,List.mem_append,List.mem_map,VO k f (i+1),VO (k+1) f (i+1)]
  have e:i+1+(f:Int)=i+((f+1:Nat):Int):=by omega
  rw[e]
  constructor
  ·rintro(⟨c,⟨h1,h2⟩,rfl⟩|⟨h1,h2⟩)
   ·exact⟨by simp[h1],Int.le_refl _,by omega,h2⟩
   ·exact⟨h1,h2.lower ycb⟩
  ·rintro⟨h1,h2⟩
   cases l with
   |nil=>cases h1
   |cons a l=>
    simp only[List.length_cons,Nat.add_right_cancel_iff] at h1
    by_cases ha:a=i
    ·subst ha;exact .inl ⟨l,⟨h1,h2.2.2⟩,rfl⟩
    ·exact .inr ⟨by simp[h1],⟨by have:=h2.1;omega,h2.2.1,h2.2.2⟩⟩
theorem lexlt_irrefl:∀l,YS l l=false
 |[]=>rfl
 |a::l=>by simp[YS,lexlt_irrefl l]
theorem lexlt_trans:∀{a b c:List Int},YS a b=true→YS b c=true→YS a c=true
 |[],_,_,h,_=>by simp[YS] at h
 |_::_,[],_,h,_=>by simp[YS] at h
 |_::_,_::_,[],_,h=>by simp[YS] at h
 |x::a,y::b,z::c,h1,h2=>by
  simp only[YS] at *
  by_cases e1:x=y
  ·subst e1
   simp only[↓reduceIte] at h1
   by_cases e2:x=z
   ·subst e2
    simp only[↓reduceIte] at h2⊢
    exact lexlt_trans h1 h2
   ·rw[if_neg e2] at h2⊢;exact h2
  ·rw[if_neg e1] at h1
   by_cases e2:y=z
   ·subst e2;rw[if_neg e1];exact h1
   ·rw[if_neg e2] at h2
    simp only[decide_eq_true_eq] at h1 h2
    rw[if_neg ycb];simp only[decide_eq_true_eq];omega
theorem lexlt_total:∀{a b:List Int},a.length=b.length→YS a b=false→a=b∨YS b a=true
 |[],[],_,_=>.inl rfl
 |[],_::_,h,_=>by cases h
 |_::_,[],h,_=>by cases h
 |x::a,y::b,hl,h=>by
  simp only[YS] at *
  by_cases e:x=y
  ·subst e
   simp only[↓reduceIte] at h⊢
   rcases lexlt_total (by simpa using hl) h with h|h
   ·exact .inl (by rw[h])
   ·exact .inr h
  ·rw[if_neg e] at h
   rw[if_neg (fun e'=>e e'.symm)]
   simp only[decide_eq_false_iff_not] at h
   exact .inr (by simp only[decide_eq_true_eq];omega)
theorem before_irrefl (l:List Int):before l l=false:=by simp[before,lexlt_irrefl]
theorem before_trans {a b c:List Int}(h1:before a b=true)(h2:before b c=true):before a c=true:=by
 unfold before at *
 by_cases e1:a.length=b.length
 ·rw[if_pos e1] at h1
  by_cases e2:b.length=c.length
  ·rw[if_pos e2] at h2;rw[if_pos ycb];exact lexlt_trans h1 h2
  ·rw[if_neg e2] at h2
   simp only[decide_eq_true_eq] at h2
   rw[if_neg ycb];simp only[decide_eq_true_eq];omega
 ·rw[if_neg e1] at h1
  simp only[decide_eq_true_eq] at h1
  by_cases e2:b.length=c.length
  ·rw[if_neg ycb];simp only[decide_eq_true_eq];omega
  ·rw[if_neg e2] at h2
   simp only[decide_eq_true_eq] at h2
   rw[if_neg ycb];simp only[decide_eq_true_eq];omega
theorem before_total {a b:List Int}(h:before a b=false):a=b∨before b a=true:=by
 unfold before at *
 by_cases e:a.length=b.length
 ·rw[if_pos e] at h;rw[if_pos e.symm];exact lexlt_total e h
 ·rw[if_neg e] at h
  rw[if_neg (fun e'=>e e'.symm)]
  simp only[decide_eq_false_iff_not,decide_eq_true_eq] at *
  exact .inr ycb
theorem find_min (P:List Int→Bool):∀(k f:Nat) (i:Int) {c:List Int},(YT k f i).find? P=some c→c∈YT k f i∧P c=true∧∀d∈YT k f i,P d=true→d=c∨YS c d=true
 |0,f,i,c,h=>by
  simp only[YT] at *
  have h1:=List.mem_of_find?_eq_some h
  have h2:=List.find?_some h
  refine⟨h1,h2,fun d hd _=>.inl ?_⟩
  rw[List.mem_singleton] at h1 hd
  rw[h1,hd]
 |k+1,0,i,c,h=>by simp[YT] at h
 |k+1,f+1,i,c,h=>by
  simp only[YT] at *
  rw[List.find?_append] at h
  cases h1:((YT k f (i+1)).map (fun l=>i::l)).find? P with
  |some x=>
   rw[h1] at h
   have hx:x=c:=by simpa using h
   subst hx
   rw[List.find?_map] at h1
   rw[Option.map_eq_some_iff] at h1
   obtain⟨y,h1,rfl⟩:=h1
   obtain⟨m1,m2,m3⟩:=find_min (P∘ fun l=>i::l) k f (i+1) h1
   refine⟨List.mem_append.2 (.inl (List.mem_map.2 ⟨y,m1,rfl⟩)),m2,fun d hd hp=>?_⟩
   rcases List.mem_append.1 hd with hd|hd
   ·obtain⟨z,hz,rfl⟩:=List.mem_map.1 hd
    rcases m3 z hz hp with rfl|h
    ·exact .inl rfl
    ·exact .inr (by simp[YS,h])
   ·right
    obtain⟨d1,d2⟩:=(VO _ _ _ _).1 hd
    cases d with
    |nil=>cases d1
    |cons a d=>
     have:=d2.1
     simp only[YS]
     rw[if_neg ycb];simp only[decide_eq_true_eq];omega
  |none=>
   rw[h1] at h
   have h2:(YT (k+1) f (i+1)).find? P=some c:=by simpa using h
   obtain⟨m1,m2,m3⟩:=find_min P (k+1) f (i+1) h2
   refine⟨List.mem_append.2 (.inr m1),m2,fun d hd hp=>?_⟩
   rcases List.mem_append.1 hd with hd|hd
   ·have:=List.find?_eq_none.1 h1 d hd
    exact absurd hp this
   ·exact m3 d hd hp
def Z8 (P:List Int→Bool)(W:Nat):Nat→Nat→Option (List Int)
 |0,_=>none
 |r+1,k=>match(YT k W 0).find? P with
  |some c=>some c
  |none=>Z8 P W r (k+1)
structure Vd (P:List Int→Bool)(W:Nat)(c:List Int):Prop where
 inc:Inc W 0 c
 holds:P c=true
 min:∀d,Inc W 0 d→P d=true→d=c∨before c d=true
theorem Vd.uniq {P:List Int→Bool}{W:Nat}{c d:List Int}(h:Vd P W c)(k:Vd P W d):c=d:=by
 rcases h.min d k.inc k.holds with e|e
 ·exact e.symm
 ·rcases k.min c h.inc h.holds with e2|e2
  ·exact e2
  ·have:=before_trans e e2
   rw[before_irrefl] at this;cases this
theorem Yl (P:List Int→Bool)(W:Nat):∀(r k:Nat),r+k=W+1→(∀d,Inc W 0 d→d.length<k→P d=false)→
  (∃c,Z8 P W r k=some c∧Vd P W c)∨(Z8 P W r k=none∧∀d,Inc W 0 d→P d=false)
 |0,k,hk,h=>.inr ⟨rfl,fun d hd=>h d hd (by have:=hd.len ycb;omega)⟩
 |r+1,k,hk,h=>by
  simp only[Z8]
  cases hf:(YT k W 0).find? P with
  |some c=>
   obtain⟨m1,m2,m3⟩:=find_min P k W 0 hf
   obtain⟨c1,c2⟩:=(VO _ _ _ _).1 m1
   rw[Int.zero_add] at c2
   refine .inl ⟨c,rfl,c2,m2,fun d hd hp=>?_⟩
   have hl:¬d.length<k:=fun hl=>by rw[h d hd hl] at hp;cases hp
   by_cases e:d.length=k
   ·rcases m3 d ((VO _ _ _ _).2 ⟨e,by rw[Int.zero_add];exact hd⟩) hp with h1|h1
    ·exact .inl h1
    ·exact .inr (by unfold before;rw[if_pos (by omega)];exact h1)
   ·exact .inr (by unfold before;rw[if_neg (by omega)];simp only[decide_eq_true_eq];omega)
  |none=>
   refine Yl P W r (k+1) ycb fun d hd hl=>?_
   by_cases e:d.length=k
   ·have:=List.find?_eq_none.1 hf d ((VO _ _ _ _).2 ⟨e,by rw[Int.zero_add];exact hd⟩)
    simpa using this
   ·exact h d hd ycb
def ZM:Nat→Int→Int→List Int
 |0,_,_=>[]
 |k+1,s,i=>if s%2=1 then i::ZM k (s/2) (i+1) else ZM k (s/2) (i+1)
theorem WN:∀(k:Nat) (s i:Int),Inc (i+k) i (ZM k s i)
 |0,_,_=>trivial
 |k+1,s,i=>by
  have ih:=WN k (s/2) (i+1)
  have e:i+1+(k:Int)=i+((k+1:Nat):Int):=by omega
  rw[e] at ih
  simp only[ZM]
  split
  ·exact⟨Int.le_refl _,by omega,ih⟩
  ·exact ih.lower ycb
theorem Xs:∀(k:Nat) (i:Int) (d:List Int),Inc (i+k) i d→∃s:Int,0≤s∧s<2^k∧ZM k s i=d
 |0,i,[],_=>⟨0,by omega,by decide,rfl⟩
 |0,i,a::d,h=>by have:=h.1;have:=h.2.1;omega
 |k+1,i,d,h=>by
  have e:i+1+(k:Int)=i+((k+1:Nat):Int):=by omega
  have p2:(2:Int)^(k+1)=2^k*2:=Int.pow_succ 2 k
  by_cases hd:∃l,d=i::l
  ·obtain⟨l,rfl⟩:=hd
   obtain⟨s,s0,s1,hs⟩:=Xs k (i+1) l (by rw[e];exact h.2.2)
   refine⟨2*s+1,by omega,by omega,?_⟩
   simp only[ZM]
   rw[if_pos ycb,show(2*s+1)/2=s by omega,hs]
  ·have h2:Inc (i+1+k) (i+1) d:=by
    rw[e]
    cases d with
    |nil=>trivial
    |cons a l=>exact⟨by have:=h.1;have:a≠i:=fun e=>hd ⟨l,by rw[e]⟩;omega,h.2.1,h.2.2⟩
   obtain⟨s,s0,s1,hs⟩:=Xs k (i+1) d h2
   refine⟨2*s,by omega,by omega,?_⟩
   simp only[ZM]
   rw[if_neg ycb,show(2*s)/2=s by omega,hs]
def ZT (P:List Int→Bool)(W:Nat)(s0 s:Int)(best:Option (List Int)):Prop:=match best with
 |none=>∀t,s0≤t→t<s→P (ZM W t 0)=false
 |some c=>(∃t,c=ZM W t 0)∧P c=true∧∀t,s0≤t→t<s→P (ZM W t 0)=true→ZM W t 0=c∨before c (ZM W t 0)=true
theorem ZT.zero (P:List Int→Bool)(W:Nat)(s0:Int):ZT P W s0 s0 none:=fun t h1 h2=>by omega
theorem ZT.take {P:List Int→Bool}{W:Nat}{s0 s:Int}{best:Option (List Int)}(h:ZT P W s0 s best)(hp:P (ZM W s 0)=true)(hb:∀c,best=some c→before (ZM W s 0) c=true):ZT P W s0 (s+1) (some (ZM W s 0)):=by
 refine⟨⟨s,rfl⟩,hp,fun t t0 t1 ht=>?_⟩
 by_cases e:t=s
 ·subst e;exact .inl rfl
 ·cases best with
  |none=>have:=h t t0 ycb;rw[this] at ht;cases ht
  |some c=>
   right
   rcases h.2.2 t t0 ycb ht with h1|h1
   ·rw[h1];exact hb c rfl
   ·exact before_trans (hb c rfl) h1
theorem ZT.skip {P:List Int→Bool}{W:Nat}{s0 s:Int}{best:Option (List Int)}(h:ZT P W s0 s best)(hp:P (ZM W s 0)=false∨∃c,best=some c∧before (ZM W s 0) c=false):ZT P W s0 (s+1) best:=by
 cases best with
 |none=>
  intro t t0 t1
  by_cases e:t=s
  ·subst e
   rcases hp with hp|⟨c,hc,_⟩
   ·exact hp
   ·cases hc
  ·exact h t t0 ycb
 |some c=>
  refine⟨h.1,h.2.1,fun t t0 t1 ht=>?_⟩
  by_cases e:t=s
  ·subst e
   rcases hp with hp|⟨c',hc,hb⟩
   ·rw[hp] at ht;cases ht
   ·cases hc;exact before_total hb
  ·exact h.2.2 t t0 ycb ht
theorem ZT.last {P:List Int→Bool}{W:Nat}{s0:Int}{best:Option (List Int)}(h0:0≤s0)(h:ZT P W s0 (2^W) best)(hs:∀t,0≤t→t<s0→P (ZM W t 0)=false):
  best=Z8 P W (W+1) 0:=by
 have inc:∀t,Inc W 0 (ZM W t 0):=fun t=>by have:=WN W t 0;rwa[Int.zero_add] at this
 have onto:∀d,Inc W 0 d→∃s:Int,0≤s∧s<2^W∧ZM W s 0=d:=fun d hd=>Xs W 0 d (by rw[Int.zero_add];exact hd)
 rcases Yl P W (W+1) 0 ycb (fun d _ h=>by omega) with⟨c,e,m⟩|⟨e,m⟩
 ·rw[e]
  cases best with
  |none=>
   obtain⟨t,t0,t1,rfl⟩:=onto c m.inc
   have hm:=m.holds
   by_cases ht:t<s0
   ·rw[hs t t0 ht] at hm;cases hm
   ·rw[h t ycb t1] at hm;cases hm
  |some d=>
   obtain⟨⟨t,rfl⟩,h2,h3⟩:=h
   have:Vd P W (ZM W t 0):=⟨inc t,h2,fun d hd hp=>by
    obtain⟨u,u0,u1,rfl⟩:=onto d hd
    by_cases hu:u<s0
    ·rw[hs u u0 hu] at hp;cases hp
    ·exact h3 u ycb u1 hp⟩
   rw[this.uniq m]
 ·rw[e]
  cases best with
  |none=>rfl
  |some d=>
   obtain⟨⟨t,rfl⟩,h2,h3⟩:=h
   rw[m _ (inc t)] at h2;cases h2
end Go.Ab.Silk
namespace Go.Ab
theorem Zh.sub {S:Nat→Prop}{h0 h h':H}(k:Zh S h h')(s:h0.Sub h)(hw0:h0.wf)(hS:∀c,S c→h0.next≤c)(hw:h'.wf):h0.Sub h':=
 ⟨⟨Nat.le_trans s.next k.1,fun b y e=>k.2 b y (s.get e) fun hs=>by have:=hS b hs;have:=hw0 b y e;omega⟩,hw⟩
theorem nblk (b:Nat):¬Zq .nils b:=fun⟨_,_,_,e⟩=>by cases e
end Go.Ab
namespace Go.Ab.Tryz
open Go.Proofs
open Go.Ab.Silk (YT)
theorem find_step (P:List Int→Bool)(l:List Int)(k f:Nat)(j:Int):(YT (k+1) (f+1) j).find? (fun c=>P (l++c))=
  match(YT k f (j+1)).find? (fun c=>P ((l++[j])++c)) with|some c=>some (j::c)|none=>(YT (k+1) f (j+1)).find? (fun c=>P (l++c)):=by
 simp only[YT,List.find?_append,List.find?_map]
 have e:(fun c=>P (l++c))∘ (fun l'=>j::l')=fun c=>P ((l++[j])++c):=by
  funext c;simp
 rw[e]
 cases(YT k f (j+1)).find? (fun c=>P ((l++[j])++c))<;>simp
def FnHolds (hb:H)(fv:V)(S:Nat→Prop)(I:H→Prop)(n:Nat)(P:List Int→Bool)(Post:List Int→H→Prop):Prop:=∀(l:List Int) (x:V) (h1:H),(∀a∈l,0≤a∧a<(n:Int))→hb.Sub h1→Zg h1 x 1 (l.map encI)→l.length≤20→(∀b,Zq x b→hb.next≤b∧¬S b)→I h1→
 ∀R:V→H→Prop,(∀h2,Zh S h1 h2→h2.wf→I h2→(P l=true→Post l h2)→R (.bool (P l)) h2)→Ev fnG Zi fv [x] h1 R
def LsRes (P:List Int→Bool)(Post:List Int→H→Prop)(l:List Int)(r:Option (List Int))(t:Bool)(h':H):Prop:=match r with
 |some c=>t=true∧P (l++c)=true∧Post (l++c) h'
 |none=>t=false
set_option maxHeartbeats 2000000 in
theorem lists1_ev {hb:H}(hwb:hb.wf){fv:V}{P:List Int→Bool}{Post:List Int→H→Prop}{S:Nat→Prop}{I:H→Prop}{kC fC nC gC:Nat}{many n:Nat}(hP:FnHolds hb fv S I n P Post)(hI:∀h h',I h→h.Sub h'→I h')(ho:∀c,S c→hb.next≤c)(hS:∀h c,I h→S c→c<h.next)(n1:¬S kC)(n2:¬S fC)(n3:¬S nC)(n4:¬S gC)(hmany:many≤20)(hn:n≤1000):
  ∀(k:Nat) (h:H) (x:V) (l:List Int) (i:Nat),l.length+k=many→(∀a∈l,0≤a∧a<(n:Int))→hb.Sub h→h.cells kC=some [.ii (many:Int)]→h.cells fC=some [fv]→h.cells nC=some [.ii (n:Int)]→h.cells gC=some [.fn 139 [] [.ptr kC 0,.ptr fC 0,.ptr nC 0,.ptr gC 0]]→
   I h→Zg h x 1 (l.map encI)→(∀b,Zq x b→hb.next≤b∧¬S b)→i≤n→∀(Q:V→H→Prop),(∀t h',Zh S h h'→h'.wf→I h'→LsRes P Post l ((YT k (n-i) (i:Int)).find? fun c=>P (l++c)) t h'→Q (.bool t) h')→
   Ev fnG Zi (.fn 139 [] [.ptr kC 0,.ptr fC 0,.ptr nC 0,.ptr gC 0]) [x,.ii (i:Int)] h Q:=by
 intro k
 induction k with
 |zero=>
  intro h x l i hk hlr hs cm ch cd cf go ax nx hi Q q
  have hlx:=ax.lenE
  have hll:(l.length:Int)=(many:Int):=by omega
  refine Ze (fd:=c139) rfl rfl rfl ?_
  simp(disch:=omega)only[c139,go_sem,hlx,hll,cm,ch]
  refine hP l x h hlr hs ax ycb nx go _ fun h2 k2 w2 go2 hp=>?_
  simp(disch:=omega)only[go_sem]
  refine q _ _ k2 w2 go2 ?_
  have e:(YT 0 (n-i) (i:Int)).find? (fun c=>P (l++c))=if P l=true then some [] else none:=by
   simp only[YT,List.find?_cons,List.find?_nil,List.append_nil]
   cases P l<;>rfl
  rw[e]
  cases hpl:P l
  ·exact rfl
  ·exact⟨rfl,by rw[List.append_nil];exact hpl,by rw[List.append_nil];exact hp hpl⟩
 |succ k ih=>
  intro h x l i hk hlr hs cm ch cd cf hgo ax nx hi Q q
  have hlx:=ax.lenE
  have hll:¬(l.length:Int)=(many:Int):=by omega
  refine Ze (fd:=c139) rfl rfl rfl ?_
  simp(disch:=omega)only[c139,go_sem,hlx,hll,cm]
  refine Zk n (fun j s=>∃tm h',s=⟨tm,h',[]⟩∧Zh S h h'∧h'.wf∧I h'∧((YT (k+1) (n-i) (i:Int)).find? fun c=>P (l++c))=((YT (k+1) (n-j) (j:Int)).find? fun c=>P (l++c))∧
    tm.E 0=x∧tm.E 4=.ptr nC 0∧tm.E 5=.ptr gC 0∧tm.E 9=.ii (j:Int))
   ?_ ?_ (i:=i) hi ⟨_,_,rfl,Zh.refl _ _,hs.wf,hgo,rfl,ycc,ycc,ycc,ycc⟩
  ·rintro j s hj ⟨tm,h',rfl,kh,wh,go,hfind,t0,t4,t5,t9⟩
   have hj':(j:Int)<(n:Int):=by omega
   have hs':hb.Sub h':=kh.sub hs hwb ho wh
   have cm':=kh.cells cm n1
   have ch':=kh.cells ch n2
   have cd':=kh.cells cd n3
   have cf':=kh.cells cf n4
   have ax':=Xf ax kh fun b h0=>(nx b h0).2
   have hll2:(l.map encI).length≤20:=by simp;omega
   simp(disch:=omega)only[go_sem,t0,t4,t5,t9,cd',hj',cf']
   refine cloneInt_ev wh ax' ycb _ fun v h1 ov=>?_
   have s01:=ov.1
   have cf1:=s01.cells cf'
   simp(disch:=omega)only[go_sem,t0,t4,t5,t9]
   have s12:=(H.Sub.refl s01.wf).add (.bk [.ii (j:Int)])
   refine(ov.mono s12).app1 (by_:=8) (r:=encI (j:Int)) wh rfl ycb (Zg.new _ rfl rfl rfl yco ycl) rfl ycb ycb fun x2 h2 ox2 dx2 kx2=>?_
   have s02:=ox2.1
   have cf2:=s02.cells cf'
   have e2:l.map encI++[encI (j:Int)]=(l++[(j:Int)]).map encI:=by simp
   have ox2':=ox2
   rw[e2] at ox2'
   have ax2:Zg h2 x2 1 ((l++[(j:Int)]).map encI):=ox2'.sl (by simp;omega)
   simp(disch:=omega)only[go_sem,t0,t4,t5,t9,Zj]
   refine ih h2 x2 (l++[(j:Int)]) (j+1) (by simp;omega) (fun a ha=>(List.mem_append.1 ha).elim (hlr a) fun h=>by rw[List.mem_singleton] at h;omega) (hs'.trans s02) (s02.cells cm') (s02.cells ch') (s02.cells cd') cf2 (hI _ _ go s02) ax2 (fun b h0=>⟨by have:=(ox2.blk h0).1;have:=hs'.next;have:=s01.next;omega,fun hq=>by have:=(ox2.blk h0).1;have:=hS _ _ go hq;omega⟩) ycb _ fun t h3 k23 w3 go3 hres=>?_
   have k03:Zh S h h3:=((kh.trans (Zh.of s02 S)).trans k23).mono fun c h=>by rcases h with(h|h)|h<;>exact h
   have hst:=find_step P l k (n-(j+1)) (j:Int)
   have ef:n-j=(n-(j+1))+1:=by omega
   have ej:((j:Int)+1)=((j+1:Nat):Int):=by omega
   rw[ef,hst,ej] at hfind
   cases hr:(YT k (n-(j+1)) ((j+1:Nat):Int)).find? (fun c=>P ((l++[(j:Int)])++c)) with
   |some c=>
    rw[hr] at hres hfind
    obtain⟨rfl,hp1,hp2⟩:=hres
    simp(disch:=omega)only[go_sem,t0,t4,t5,t9,cf',cf1,s12.cells cf1,cf2]
    refine q _ _ k03 w3 go3 ?_
    rw[hfind]
    exact⟨rfl,by rw[List.append_assoc] at hp1;exact hp1,by rw[List.append_assoc] at hp2;exact hp2⟩
   |none=>
    rw[hr] at hres hfind
    have hres:t=false:=hres
    subst hres
    simp(disch:=omega)only[go_sem,t0,t4,t5,t9,cf',cf1,s12.cells cf1,cf2,Zj]
    exact⟨_,_,rfl,k03,w3,go3,hfind,ycg,(by simp[Zm,Zd,t4]<;>rfl),ycf,ycc⟩
  ·rintro s ⟨tm,h',rfl,kh,wh,hgo',hfind,t0,t4,t5,t9⟩
   have cd':=kh.cells cd n3
   simp(disch:=omega)only[go_sem,t0,t4,t5,t9,cd',Int.lt_irrefl]
   refine q _ _ kh wh hgo' ?_
   rw[hfind,Nat.sub_self]
   exact rfl
theorem lists_ev {hb h:H}(hwb:hb.wf){fv:V}{P:List Int→Bool}{Post:List Int→H→Prop}{S:Nat→Prop}{I:H→Prop}{k n:Nat}(hP:FnHolds hb fv S I n P Post)(hI:∀h h',I h→h.Sub h'→I h')(ho:∀c,S c→hb.next≤c)(hS:∀h c,I h→S c→c<h.next)(h1:fv.one=true)(hs:hb.Sub h)(go:I h)(hk:k≤20)(hn:n≤1000)(Q:V→H→Prop)
  (q:∀t h',Zh S h h'→h'.wf→I h'→LsRes P Post [] ((YT k n 0).find? P) t h'→Q (.bool t) h'):Ev fnG Zi (.fn 88 [] []) [.ii (k:Int),.ii (n:Int),fv] h Q:=by
 have lo:∀c,S c→c<h.next:=fun c=>hS h c go
 refine Ze (fd:=c88) rfl rfl rfl ?_
 have sA:h.Sub ((((h.add (.bk [.ii (k:Int)])).add (.bk [.ii (n:Int)])).add (.bk [fv])).add (.bk [.fn 139 [] [.ptr h.next 0,.ptr (h.next+1+1) 0,.ptr (h.next+1) 0,.ptr (h.next+1+1+1) 0]])):=(((((H.Sub.refl hs.wf).add _).add _).add _).add _)
 have ck:((((h.add (.bk [.ii (k:Int)])).add (.bk [.ii (n:Int)])).add (.bk [fv])).add (.bk [.fn 139 [] [.ptr h.next 0,.ptr (h.next+1+1) 0,.ptr (h.next+1) 0,.ptr (h.next+1+1+1) 0]])).cells h.next=some [.ii (k:Int)]:=by simp -implicitDefEqProofs(disch:=first|omega|simp only[nZ]<;>omega|fail)only[go_sem]
 have cn:((((h.add (.bk [.ii (k:Int)])).add (.bk [.ii (n:Int)])).add (.bk [fv])).add (.bk [.fn 139 [] [.ptr h.next 0,.ptr (h.next+1+1) 0,.ptr (h.next+1) 0,.ptr (h.next+1+1+1) 0]])).cells (h.next+1)=some [.ii (n:Int)]:=by simp -implicitDefEqProofs(disch:=first|omega|simp only[nZ]<;>omega|fail)only[go_sem]
 have cf:((((h.add (.bk [.ii (k:Int)])).add (.bk [.ii (n:Int)])).add (.bk [fv])).add (.bk [.fn 139 [] [.ptr h.next 0,.ptr (h.next+1+1) 0,.ptr (h.next+1) 0,.ptr (h.next+1+1+1) 0]])).cells (h.next+1+1)=some [fv]:=by simp -implicitDefEqProofs(disch:=first|omega|simp only[nZ]<;>omega|fail)only[go_sem]
 have cg:((((h.add (.bk [.ii (k:Int)])).add (.bk [.ii (n:Int)])).add (.bk [fv])).add (.bk [.fn 139 [] [.ptr h.next 0,.ptr (h.next+1+1) 0,.ptr (h.next+1) 0,.ptr (h.next+1+1+1) 0]])).cells (h.next+1+1+1)=some [.fn 139 [] [.ptr h.next 0,.ptr (h.next+1+1) 0,.ptr (h.next+1) 0,.ptr (h.next+1+1+1) 0]]:=by simp -implicitDefEqProofs(disch:=first|omega|simp only[nZ]<;>omega|fail)only[go_sem]
 simp -implicitDefEqProofs(disch:=first|omega|simp only[nZ]<;>omega|fail)only[c88,go_sem,h1,cells_one h1]
 generalize((((h.add (.bk [.ii (k:Int)])).add (.bk [.ii (n:Int)])).add (.bk [fv])).add (.bk [.fn 139 [] [.ptr h.next 0,.ptr (h.next+1+1) 0,.ptr (h.next+1) 0,.ptr (h.next+1+1+1) 0]]))=h5 at sA ck cn cf cg⊢
 have hl:=lists1_ev hwb hP hI ho hS (kC:=h.next) (fC:=h.next+1+1) (nC:=h.next+1) (gC:=h.next+1+1+1) (fun q=>by have:=lo _ q;omega) (fun q=>by have:=lo _ q;omega) (fun q=>by have:=lo _ q;omega) (fun q=>by have:=lo _ q;omega) (many:=k) (n:=n) hk hn k h5 .nils [] 0 ycl ycl (hs.trans sA) ck cf cn cg (hI _ _ go sA) ⟨by simp,by simp,.inl ⟨rfl,rfl⟩⟩ (fun b hb=>absurd hb (nblk b)) (Nat.zero_le _)
 refine hl _ fun t h6 k6 w6 go6 hres=>?_
 simp(disch:=omega)only[go_sem]
 exact q t h6 (((Zh.of sA S).trans k6).mono fun c h=>by rcases h with h|h<;>exact h) w6 go6 (by simpa using hres)
end Go.Ab.Tryz
namespace Go.Ab.Tryz
open Go.Proofs
open Go.Ab.Silk (YT Z8)
theorem VH {h:H}{x:V}{sz:Nat}{rows:List (List V)}(a:Zg h x sz rows)(m:Nat):x≠.map m:=by
 rcases a.2.2 with⟨e,_⟩|⟨_,_,_,_,e,_⟩<;>rw[e]<;>simp
theorem maps_keep {h h':H}{S:Nat→Prop}{W:V}{ms:List Nat}(w:Zg h W 1 (ms.map fun b=>[V.map b]))(k:Zh S h h')(n:∀b cs,S b→h.cells b=some cs→∀m,V.map m ∉cs):Zg h' W 1 (ms.map fun b=>[V.map b]):=by
 obtain⟨a1,a0,a2⟩:=w
 refine⟨a1,a0,?_⟩
 rcases a2 with a2|⟨b,o,c,cs,e1,e2,e3⟩
 ·exact .inl a2
 ·refine .inr ⟨b,o,c,cs,e1,?_,e3⟩
  cases hm:ms with
  |nil=>exact .inl ycl
  |cons m ms'=>
   rw[hm] at e2 e3
   refine .inr ?_
   have e2:=e2.resolve_left ycl
   refine k.cells e2 fun hs=>n b cs hs e2 m ?_
   have h1:=(ZU.1 e3).1
   have h2:V.map m∈(((m::ms').map fun b=>[V.map b]).flatten):=by simp
   rw[h1] at h2
   exact List.mem_of_mem_drop (List.mem_of_mem_take h2)
def DI (hb:H)(a:At)(C R G W:V)(ms:List Nat)(d oC pC:Nat)(h:H):Prop:=∃y0 f,h.get oC=some (.bk [y0])∧(∀m,y0≠.map m)∧(∀m,f≠.map m)∧Dk h d a C R G f W ms∧h.get pC=some (.bk [.ptr d 0])∧hb.Sub h
section
variable {hb:H} {a:At} {C R G W:V} {ms:List Nat} {d oC pC:Nat}
theorem DI.mono {h h':H}(k:DI hb a C R G W ms d oC pC h)(s:h.Sub h'):DI hb a C R G W ms d oC pC h':=by
 obtain⟨y0,f,k1,k2,k3,k4,k5,k6⟩:=k
 exact⟨y0,f,s.get k1,k2,k3,k4.mono s,s.get k5,k6.trans s⟩
theorem DI.lt {h:H}(k:DI hb a C R G W ms d oC pC h)(c:Nat)(hc:c=oC∨c=d):c<h.next:=by
 obtain⟨y0,f,k1,k2,k3,k4,k5,k6⟩:=k
 rcases hc with rfl|rfl
 ·exact k6.wf _ _ k1
 ·exact k6.wf _ _ k4.dk
theorem DI.put {h:H}(hwb:hb.wf)(xb:ZP hb C R G a)(l1:hb.next≤d)(l2:hb.next≤oC)(n1:oC≠d)(n2:pC≠d)(n3:pC≠oC)(k:DI hb a C R G W ms d oC pC h){y f:V}(hy:∀m,y≠.map m)(hf:∀m,f≠.map m):
  DI hb a C R G W ms d oC pC ((h.set oC (.bk [y])).set d (.bk [.ii a.mins,.ii a.evs,C,R,G,f,W]))∧Dk ((h.set oC (.bk [y])).set d (.bk [.ii a.mins,.ii a.evs,C,R,G,f,W])) d a C R G f W ms∧
   Zh (fun c=>c=oC∨c=d) h ((h.set oC (.bk [y])).set d (.bk [.ii a.mins,.ii a.evs,C,R,G,f,W]))∧hb.Sub ((h.set oC (.bk [y])).set d (.bk [.ii a.mins,.ii a.evs,C,R,G,f,W])):=by
 have hlt:=k.lt
 obtain⟨y0,f0,k1,k2,k3,k4,k5,k6⟩:=k
 have lo:=hlt oC (.inl rfl)
 have ld:=hlt d (.inr rfl)
 have s1:hb.Sub (h.set oC (.bk [y])):=k6.set l2 lo hwb _
 have s2:hb.Sub ((h.set oC (.bk [y])).set d (.bk [.ii a.mins,.ii a.evs,C,R,G,f,W])):=s1.set l1 (by rw[H.next_set];exact ld) hwb _
 have kk:Zh (fun c=>c=oC∨c=d) h ((h.set oC (.bk [y])).set d (.bk [.ii a.mins,.ii a.evs,C,R,G,f,W])):=(Zh.set h oC _).trans (Zh.set _ d _)
 have gd:((h.set oC (.bk [y])).set d (.bk [.ii a.mins,.ii a.evs,C,R,G,f,W])).get d=some (.bk [.ii a.mins,.ii a.evs,C,R,G,f,W]):=get_set_same rfl
 have go:((h.set oC (.bk [y])).set d (.bk [.ii a.mins,.ii a.evs,C,R,G,f,W])).get oC=some (.bk [y]):=by rw[get_set_other n1];exact get_set_same rfl
 have dk:Dk ((h.set oC (.bk [y])).set d (.bk [.ii a.mins,.ii a.evs,C,R,G,f,W])) d a C R G f W ms:=by
  refine⟨gd,xb.mono s2,maps_keep k4.w kk fun b cs hs hc m hm=>?_,k4.len,fun i hi=>?_⟩
  ·rcases hs with rfl|rfl
   ·rw[Za k1] at hc;cases hc
    rw[List.mem_singleton] at hm
    exact k2 m hm.symm
   ·rw[Za k4.dk] at hc;cases hc
    simp only[List.mem_cons,List.not_mem_nil,or_false,reduceCtorEq,false_or] at hm
    rcases hm with hm|hm|hm|hm|hm
    ·exact VH xb.c m hm.symm
    ·exact VH xb.r m hm.symm
    ·exact VH xb.g m hm.symm
    ·exact k3 m hm.symm
    ·exact VH k4.w m hm.symm
  ·obtain⟨b,l,e1,e2,e3⟩:=k4.maps i hi
   refine⟨b,l,e1,kk.2 _ _ e2 fun hq=>?_,e3⟩
   rcases hq with rfl|rfl
   ·rw[k1] at e2;cases e2
   ·rw[k4.dk] at e2;cases e2
 exact⟨⟨y,f,go,hy,hf,dk,kk.2 _ _ k5 fun hq=>hq.elim n3 n2,s2⟩,dk,kk,s2⟩
set_option maxHeartbeats 4000000 in
theorem clash1_holds (hwb:hb.wf)(r:Zl a)(xb:ZP hb C R G a)(l1:hb.next≤d)(l2:hb.next≤oC)(n1:oC≠d)(n2:pC≠d)(n3:pC≠oC):
  FnHolds hb (.fn 89 [] [.ptr oC 0,.ptr pC 0]) (fun c=>c=oC∨c=d) (DI hb a C R G W ms d oC pC) a.rds.length (fun l=>decide (Zw a (Wt l)=[])) (fun l h=>∃y,h.get oC=some (.bk [y])∧Zg h y 1 (l.map encI)):=by
 intro l x h1 hlr hs hx hl nx hI Q q
 have hwx:=hs.wf
 have ox:=hx.one
 obtain⟨zA,hzA⟩:∃zA,(h1.add (.bk [x])).add (.bk [.fn 141 [] [.ptr h1.next 0]])=zA:=⟨_,rfl⟩
 have sA:h1.Sub zA:=by rw[←hzA];exact((H.Sub.refl hwx).add _).add _
 have gA:zA.get h1.next=some (.bk [x]):=by rw[←hzA,ZC ycn];exact Zc rfl
 have hIA:=hI.mono sA
 have hlt:=hI.lt
 obtain⟨hI2,dk2,k2,s2⟩:=hIA.put hwb xb l1 l2 n1 n2 n3 (y:=x) (f:=.fn 141 [] [.ptr h1.next 0]) (fun m=>VH hx m) (fun m=>by simp)
 obtain⟨y0,f0,k1,_,_,k4,k5,_⟩:=hI
 obtain⟨zS,hzS⟩:∃zS,(zA.set oC (.bk [x])).set d (.bk [.ii a.mins,.ii a.evs,C,R,G,.fn 141 [] [.ptr h1.next 0],W])=zS:=⟨_,rfl⟩
 have gd':(zA.set oC (.bk [x])).get d=some (.bk [.ii a.mins,.ii a.evs,C,R,G,f0,W]):=by rw[get_set_other n1.symm];exact sA.get k4.dk
 have gpS:zS.get pC=some (.bk [.ptr d 0]):=by rw[←hzS,get_set_other n2,get_set_other n3];exact sA.get k5
 have goS:zS.get oC=some (.bk [x]):=by rw[←hzS,get_set_other n1];exact get_set_same rfl
 rw[hzS] at hI2 dk2 k2 s2
 have gAS:zS.get h1.next=some (.bk [x]):=k2.2 _ _ gA fun hq=>by have:=hlt _ hq;omega
 have hxS:Zg zS x 1 (l.map encI):=Xf (hx.mono sA) k2 fun b hb hq=>(nx b hb).2 hq
 refine Ze (fd:=c89) rfl rfl rfl ?_
 simp(disch:=omega)only[c89,go_sem,Za k5,some_eq ox,hzA,Za (sA.get k5),sA.get k1,ox,cells_one ox,gd',hzS,Za gpS]
 refine agreed_ev s2.wf dk2 r (cnt:=Wt l) (fun i _=>some1_ev hxS gAS i) _ fun z3 s3=>?_
 have e:(!decide (Zw a (Wt l)≠[]))=decide (Zw a (Wt l)=[]):=by simp
 simp(disch:=omega)only[go_sem,e,Za k5,Za (sA.get k5)]
 exact q z3 (((Zh.of sA fun c=>c=oC∨c=d).trans (k2.trans (Zh.of s3 fun c=>c=oC∨c=d))).mono fun c hc=>by
  rcases hc with hc|hc|hc<;>exact hc) (s2.trans s3).wf (hI2.mono s3) fun _=>⟨x,s3.get goS,hxS.mono s3⟩
theorem wrong11_ev {h:H}{x:V}{l:List Int}(hx:Zg h x 1 (l.map encI)){b:Nat}(g:h.get b=some (.bk [x]))(n:Int):YA h (.fn 92 [] [.ptr b 0]) [.ii n] (.bool (!(l.any fun r=>decide (n=r)))):=by
 intro h1 s
 refine Ev.gen fun Q q=>?_
 refine Ze (fd:=c92) rfl rfl rfl ?_
 simp(disch:=omega)only[c92,go_sem,Za (s.get g)]
 refine hasInt_ev s.wf (hx.mono s) n _ fun h2 s2=>?_
 simp(disch:=omega)only[go_sem]
 exact q _ _ ⟨rfl,s2⟩
set_option maxHeartbeats 4000000 in
theorem wrong1_holds (hwb:hb.wf)(r:Zl a)(xb:ZP hb C R G a)(l1:hb.next≤d)(l2:hb.next≤oC)(n1:oC≠d)(n2:pC≠d)(n3:pC≠oC):
  FnHolds hb (.fn 91 [] [.ptr oC 0,.ptr pC 0]) (fun c=>c=oC∨c=d) (DI hb a C R G W ms d oC pC) a.rds.length (fun l=>decide (Zw a (fun i=> !Wt l i)≠[])) (fun l h=>∃y,h.get oC=some (.bk [y])∧Zg h y 1 (l.map encI)):=by
 intro l x h1 hlr hs hx hl nx hI Q q
 have hwx:=hs.wf
 have ox:=hx.one
 obtain⟨zA,hzA⟩:∃zA,h1.add (.bk [x])=zA:=⟨_,rfl⟩
 have sA:h1.Sub zA:=by rw[←hzA];exact(H.Sub.refl hwx).add _
 have gA:zA.get h1.next=some (.bk [x]):=by rw[←hzA];exact Zc rfl
 have hIA:=hI.mono sA
 have hlt:=hI.lt
 obtain⟨hI2,dk2,k2,s2⟩:=hIA.put hwb xb l1 l2 n1 n2 n3 (y:=x) (f:=.fn 92 [] [.ptr h1.next 0]) (fun m=>VH hx m) (fun m=>by simp)
 obtain⟨y0,f0,k1,_,_,k4,k5,_⟩:=hI
 obtain⟨zS,hzS⟩:∃zS,(zA.set oC (.bk [x])).set d (.bk [.ii a.mins,.ii a.evs,C,R,G,.fn 92 [] [.ptr h1.next 0],W])=zS:=⟨_,rfl⟩
 have gd':(zA.set oC (.bk [x])).get d=some (.bk [.ii a.mins,.ii a.evs,C,R,G,f0,W]):=by rw[get_set_other n1.symm];exact sA.get k4.dk
 have gpS:zS.get pC=some (.bk [.ptr d 0]):=by rw[←hzS,get_set_other n2,get_set_other n3];exact sA.get k5
 have goS:zS.get oC=some (.bk [x]):=by rw[←hzS,get_set_other n1];exact get_set_same rfl
 rw[hzS] at hI2 dk2 k2 s2
 have gAS:zS.get h1.next=some (.bk [x]):=k2.2 _ _ gA fun hq=>by have:=hlt _ hq;omega
 have hxS:Zg zS x 1 (l.map encI):=Xf (hx.mono sA) k2 fun b hb hq=>(nx b hb).2 hq
 refine Ze (fd:=c91) rfl rfl rfl ?_
 simp(disch:=omega)only[c91,go_sem,Za k5,hzA,Za gA,Za (sA.get k5),sA.get k1,ox,cells_one ox,gd',hzS,Za gpS]
 refine agreed_ev s2.wf dk2 r (cnt:=fun i=> !Wt l i) (fun i _=>wrong11_ev hxS gAS i) _ fun z3 s3=>?_
 simp(disch:=omega)only[go_sem,Za gA,Za k5,Za (sA.get k5)]
 exact q z3 (((Zh.of sA fun c=>c=oC∨c=d).trans (k2.trans (Zh.of s3 fun c=>c=oC∨c=d))).mono fun c hc=>by
  rcases hc with hc|hc|hc<;>exact hc) (s2.trans s3).wf (hI2.mono s3) fun _=>⟨x,s3.get goS,hxS.mono s3⟩
end
end Go.Ab.Tryz
namespace Go.Ab.Tryz
open Go.Proofs
open Go.Ab.Silk (YT Z8 Yl Vd Inc)
theorem noN {a:At}(r:Zl a){cnt:Nat→Bool}:Zw a cnt=[]↔∀runs y,¬Tru a cnt runs y:=by
 constructor
 ·intro h runs y t
  obtain⟨L,hL⟩:=W9 r t
  rw[h] at hL;cases hL
 ·intro h
  cases hc:Zw a cnt with
  |nil=>rfl
  |cons t l=>
   have ht:t∈Zw a cnt:=by rw[hc];exact List.mem_cons_self ..
   exact absurd (Vq r ht (f:=4) ycb) (h _ _)
theorem tru_fewer {a:At}{c1 c2:Nat→Bool}(h:∀i,i<a.rds.length→c2 i=true→c1 i=true){runs:ZZ}{y:Nat→Int}(t:Tru a c1 runs y):Tru a c2 runs y:=
 ⟨t.len,t.run,t.beg,t.mins,t.gaps,fun j x hx hc s hs=>t.rds j x hx (h j (Vf hx) hc) s hs⟩
def Xr (a:At)(l:List Int):Bool:=decide (Zw a (Wt l)=[])
def Vt (a:At)(l:List Int):Bool:=decide (Zw a (fun i=> !Wt l i)≠[])
def fullL:Nat→Int→List Int
 |0,_=>[]
 |k+1,i=>i::fullL k (i+1)
theorem fullL_inc:∀(k:Nat) (i:Int),Inc (i+k) i (fullL k i)
 |0,_=>trivial
 |k+1,i=>⟨Int.le_refl _,by omega,by have:=fullL_inc k (i+1);rwa[show i+1+(k:Int)=i+((k+1:Nat):Int) by omega] at this⟩
theorem fullL_mem:∀{k:Nat} {i j:Int},i≤j→j<i+k→j∈fullL k i
 |0,i,j,h1,h2=>by omega
 |k+1,i,j,h1,h2=>by
  by_cases e:j=i
  ·rw[e];exact List.mem_cons_self ..
  ·exact List.mem_cons_of_mem _ (fullL_mem ycb ycb)
theorem lstF_mem {l:List Int}{i:Nat}:Wt l i=true↔(i:Int)∈l:=by
 unfold Wt
 rw[List.any_eq_true]
 constructor
 ·rintro⟨x,hx,e⟩;rw[of_decide_eq_true e];exact hx
 ·intro h;exact⟨_,h,by simp⟩
def VB (a:At):Option (List Int):=Z8 (Xr a) a.rds.length (a.rds.length+1) 0
def V9 (a:At):Option (List Int):=Z8 (Vt a) a.rds.length (a.rds.length+1) 0
theorem clashO_spec {a:At}(r:Zl a)(h:ZR a=[]):∃c,VB a=some c∧Vd (Xr a) a.rds.length c:=by
 rcases Yl (Xr a) a.rds.length (a.rds.length+1) 0 rfl (fun d _ hl=>by omega) with h1|⟨_,h2⟩
 ·exact h1
 ·exfalso
  have h3:=h2 (fullL a.rds.length 0) (by have:=fullL_inc a.rds.length 0;rwa[Int.zero_add] at this)
  simp only[Xr,decide_eq_false_iff_not] at h3
  refine h3 ((noN r).2 fun runs y t=>(noC r).1 h runs y (tru_fewer (fun i hi _=>lstF_mem.2 (fullL_mem ycb ycb)) t))
def VA (a:At):List Int × Int:=if Zn a≠0 then([],Zn a) else if ZR a≠[] then([],6) else((VB a).getD [],0)
def Vs (a:At):List Int × Int:=if Zn a≠0 then([],Zn a) else match V9 a with|some l=>(l,0)|none=>([],7)
set_option maxHeartbeats 4000000 in
theorem Clash_ev {h:H}(hw:h.wf){a:At}{C R G:V}(x:ZP h C R G a)(Q:V→H→Prop)(q:∀w h',h.Sub h'→Zg h' w 1 ((VA a).1.map encI)→Q (.tup [w,.ii (VA a).2]) h'):
  Ev fnG Zi (.fn 42 [] []) [.agg (atV a C R G)] h Q:=by
 have oC:=x.c.one;have oR:=x.r.one;have oG:=x.g.one
 have cs:∀hh Q,Ev fnG Zi (.fn 71 [] []) [] hh Q=Q (.agg [allF]) (hh.add (.bk [allF])):=fun hh Q=>by
  refine Ev.det (Ze (fd:=c71) rfl rfl rfl ?_) Q
  simp(disch:=omega)only[c71,go_sem]
 refine Ze (fd:=c42) rfl rfl rfl ?_
 obtain⟨z,hz⟩:∃z,h.add (.bk (atV a C R G))=z:=⟨_,rfl⟩
 have sz:h.Sub z:=by rw[←hz];exact yca
 have ga:z.get h.next=some (.bk (atV a C R G)):=by rw[←hz];exact Zc rfl
 simp(disch:=omega)only[c42,go_sem,oC,oR,oG]
 rw[hz]
 clear hz
 refine Y9 sz.wf ⟨C,R,G,rfl,x.mono sz⟩ _ fun z1 s1=>?_
 have s01:=sz.trans s1
 by_cases he:Zn a=0
 case neg=>
  simp(disch:=omega)only[go_sem,he,ne_eq,not_false_eq_true]
  have e:VA a=([],Zn a):=if_pos he
  rw[e] at q
  exact q _ _ s01 ⟨by simp,by simp,.inl ⟨rfl,rfl⟩⟩
 have r:=Zz.1 he
 rw[he]
 have rl:=r.lens
 have e1:VA a=if ZR a≠[] then([],6) else((VB a).getD [],0):=if_neg ycq
 have g1:=s1.get ga
 simp(disch:=omega)only[go_sem,ne_eq,not_true_eq_false,Za g1,cs]
 obtain⟨zA,hzA⟩:∃zA,z1.add (.bk [allF])=zA:=⟨_,rfl⟩
 have sA:z1.Sub zA:=by rw[←hzA];exact(H.Sub.refl s01.wf).add _
 try rw[hzA]
 clear hzA
 have s0A:=s01.trans sA
 have xA:=x.mono s0A
 refine worked_ev s0A.wf xA r rfl _ fun d W ms zB sB ld dk=>?_
 have gA:=sA.get g1
 have gB:=sB.get gA
 simp(disch:=omega)only[go_sem,Za g1,Za gA,Za gB]
 obtain⟨zC,hzC⟩:∃zC,zB.add (.bk [.ptr d 0])=zC:=⟨_,rfl⟩
 have sC:zB.Sub zC:=by rw[←hzC];exact(H.Sub.refl sB.wf).add _
 have gpC:zC.get zB.next=some (.bk [.ptr d 0]):=by rw[←hzC];exact Zc rfl
 have ldB:=sB.wf _ _ dk.dk
 try simp(disch:=omega)only[go_sem,hzC,Za gpC]
 try rw[hzC]
 clear hzC
 have sAC:=sB.trans sC
 refine agreed_ev sC.wf (dk.mono sC) r (cnt:=fun _=>true) (fun i _=>allF_pure sC.wf i) _ fun zD sD=>?_
 have sAD:=sAC.trans sD
 by_cases hal:ZR a≠[]
 ·have hd:decide (Zw a (fun _=>true)≠[])=true:=decide_eq_true hal
  rw[if_pos hal] at e1
  rw[e1] at q
  rw[hd]
  simp(disch:=omega)only[go_sem]
  exact q _ _ (s0A.trans sAD) ⟨by simp,by simp,.inl ⟨rfl,rfl⟩⟩
 have hd:decide (Zw a (fun _=>true)≠[])=false:=decide_eq_false hal
 have hal':ZR a=[]:=Classical.byContradiction hal
 rw[if_neg hal] at e1
 rw[e1] at q
 rw[hd]
 have hlR:=(x.r).lenE
 have gaD:=sAD.get gA
 have w1:wr .i64 ((a.rds.length:Int)+1)=((a.rds.length+1:Nat):Int):=by rw[Zo ycb ycb];omega
 obtain⟨zE,hzE⟩:∃zE,zD.add (.bk [.nils])=zE:=⟨_,rfl⟩
 have sE:zD.Sub zE:=by rw[←hzE];exact(H.Sub.refl sAD.wf).add _
 have goE:zE.get zD.next=some (.bk [.nils]):=by rw[←hzE];exact Zc rfl
 have gaE:=sE.get gaD
 simp(disch:=omega)only[go_sem,hzE,Za gaE,hlR,w1]
 try rw[hzE]
 clear hzE
 have nBC:=sC.next
 have lpC:=sC.wf _ _ gpC
 have nCD:=sD.next
 have di:DI zA a C R G W ms d zD.next zB.next zE:=⟨.nils,allF,goE,fun m=>by simp,fun m=>by simp,dk.mono (sC.trans (sD.trans sE)),(sD.trans sE).get gpC,sAD.trans sE⟩
 have hsp:=clashO_spec r hal'
 obtain⟨cl,hcl,_⟩:=hsp
 rw[hcl] at q
 have hof:Z8 (Xr a) a.rds.length (a.rds.length+1) 0=some cl:=hcl
 have hF:=clash1_holds (W:=W) (ms:=ms) s0A.wf r xA ld (oC:=zD.next) (pC:=zB.next) ycb ycb ycb ycb
 refine Zk (a.rds.length+1) (fun i s=>∃tm z,s=⟨tm,z,[]⟩∧DI zA a C R G W ms d zD.next zB.next z∧Z8 (Xr a) a.rds.length (a.rds.length+1-i) i=some cl∧
   tm.E 1=.ptr h.next 0∧tm.E 5=.ptr zB.next 0∧tm.E 6=.ptr zD.next 0∧tm.E 21=.ii ((a.rds.length+1:Nat):Int)∧tm.E 22=.ii (i:Int)) ?_ ?_ (i:=0) (Nat.zero_le _)
  ⟨_,_,rfl,di,hof,ycc,ycc,ycc,ycc,ycc⟩
 ·rintro i s hi ⟨tm,z2,rfl,dz,hf,t1,t5,t6,t21,t22⟩
  have hi':(i:Int)<((a.rds.length+1:Nat):Int):=by omega
  have sz2:zA.Sub z2:=by obtain⟨_,_,_,_,_,_,_,k⟩:=dz;exact k
  have ga2:=sz2.get gA
  simp(disch:=omega)only[go_sem,t1,t5,t6,t21,t22,hi',Za ga2,hlR]
  refine lists_ev s0A.wf hF (fun h h' k s=>k.mono s) (fun c hc=>by rcases hc with hc|hc<;>omega) (fun h c k hc=>k.lt c hc) rfl sz2 dz ycb ycb _ fun t z3 k3 w3 i3 hres=>?_
  have hstep:a.rds.length+1-i=(a.rds.length+1-(i+1))+1:=by omega
  rw[hstep,Z8] at hf
  cases hr:(YT i a.rds.length 0).find? (Xr a) with
  |some c=>
   rw[hr] at hf
   have hr2:(YT i a.rds.length 0).find? (fun l=>decide (Zw a (Wt l)=[]))=some c:=hr
   rw[hr2] at hres
   obtain⟨rfl,_,y,gy,xy⟩:=hres
   have hc:c=cl:=Option.some.inj hf
   rw[List.nil_append,hc] at xy
   have s3:zA.Sub z3:=by obtain⟨_,_,_,_,_,_,_,k⟩:=i3;exact k
   simp(disch:=omega)only[go_sem,t1,t5,t6,t21,t22,Za gy]
   exact q _ _ (s0A.trans s3) xy
  |none=>
   rw[hr] at hf
   have hr2:(YT i a.rds.length 0).find? (fun l=>decide (Zw a (Wt l)=[]))=none:=hr
   rw[hr2] at hres
   have hres:t=false:=hres
   subst hres
   simp(disch:=omega)only[go_sem,t1,t5,t6,t21,t22,Zj]
   exact⟨_,_,rfl,i3,hf,yck,ycf,yci,(by simp[Zm,Zd,t21]<;>rfl),ycc⟩
 ·rintro s ⟨tm,z2,rfl,dz,hf,t1,t5,t6,t21,t22⟩
  rw[Nat.sub_self,Z8] at hf
  cases hf
def DW (hb:H)(a:At)(C R G W:V)(ms:List Nat)(d pC:Nat)(h:H):Prop:=∃f,(∀m,f≠.map m)∧Dk h d a C R G f W ms∧h.get pC=some (.bk [.ptr d 0])∧hb.Sub h
set_option maxHeartbeats 4000000 in
theorem Wrong_ev {h:H}(hw:h.wf){a:At}{C R G:V}(x:ZP h C R G a)(Q:V→H→Prop)(q:∀w h',h.Sub h'→Zg h' w 1 ((Vs a).1.map encI)→Q (.tup [w,.ii (Vs a).2]) h'):
  Ev fnG Zi (.fn 43 [] []) [.agg (atV a C R G)] h Q:=by
 have oC:=x.c.one;have oR:=x.r.one;have oG:=x.g.one
 have cs:∀hh Q,Ev fnG Zi (.fn 71 [] []) [] hh Q=Q (.agg [allF]) (hh.add (.bk [allF])):=fun hh Q=>by
  refine Ev.det (Ze (fd:=c71) rfl rfl rfl ?_) Q
  simp(disch:=omega)only[c71,go_sem]
 refine Ze (fd:=c43) rfl rfl rfl ?_
 obtain⟨z,hz⟩:∃z,h.add (.bk (atV a C R G))=z:=⟨_,rfl⟩
 have sz:h.Sub z:=by rw[←hz];exact yca
 have ga:z.get h.next=some (.bk (atV a C R G)):=by rw[←hz];exact Zc rfl
 simp(disch:=omega)only[c43,go_sem,oC,oR,oG]
 rw[hz]
 clear hz
 refine Y9 sz.wf ⟨C,R,G,rfl,x.mono sz⟩ _ fun z1 s1=>?_
 have s01:=sz.trans s1
 by_cases he:Zn a=0
 case neg=>
  simp(disch:=omega)only[go_sem,he,ne_eq,not_false_eq_true]
  have e:Vs a=([],Zn a):=if_pos he
  rw[e] at q
  exact q _ _ s01 ⟨by simp,by simp,.inl ⟨rfl,rfl⟩⟩
 have r:=Zz.1 he
 rw[he]
 have rl:=r.lens
 have e1:Vs a=match V9 a with|some l=>(l,0)|none=>([],7):=if_neg ycq
 have g1:=s1.get ga
 simp(disch:=omega)only[go_sem,ne_eq,not_true_eq_false,Za g1,cs]
 obtain⟨zA,hzA⟩:∃zA,z1.add (.bk [allF])=zA:=⟨_,rfl⟩
 have sA:z1.Sub zA:=by rw[←hzA];exact(H.Sub.refl s01.wf).add _
 try rw[hzA]
 clear hzA
 have s0A:=s01.trans sA
 have xA:=x.mono s0A
 refine worked_ev s0A.wf xA r rfl _ fun d W ms zB sB ld dk=>?_
 have gA:=sA.get g1
 have gB:=sB.get gA
 simp(disch:=omega)only[go_sem,Za g1,Za gA,Za gB]
 obtain⟨zC,hzC⟩:∃zC,zB.add (.bk [.ptr d 0])=zC:=⟨_,rfl⟩
 have sC:zB.Sub zC:=by rw[←hzC];exact(H.Sub.refl sB.wf).add _
 have gpC:zC.get zB.next=some (.bk [.ptr d 0]):=by rw[←hzC];exact Zc rfl
 have ldB:=sB.wf _ _ dk.dk
 have hlR:=(x.r).lenE
 have w1:wr .i64 ((a.rds.length:Int)+1)=((a.rds.length+1:Nat):Int):=by rw[Zo ycb ycb];omega
 have gC:=sC.get gB
 try simp(disch:=omega)only[go_sem,hzC,Za gpC,Za gC,hlR,w1]
 try rw[hzC]
 clear hzC
 have sAC:=sB.trans sC
 have di:DW zA a C R G W ms d zB.next zC:=⟨allF,fun m=>by simp,dk.mono sC,gpC,sAC⟩
 rw[e1] at q
 obtain⟨wo,hwo⟩:∃wo,V9 a=wo:=⟨_,rfl⟩
 rw[hwo] at q
 have hof:Z8 (Vt a) a.rds.length (a.rds.length+1) 0=wo:=hwo
 refine Zk (a.rds.length+1) (fun i s=>∃tm z,s=⟨tm,z,[]⟩∧DW zA a C R G W ms d zB.next z∧Z8 (Vt a) a.rds.length (a.rds.length+1-i) i=wo∧
   tm.E 1=.ptr h.next 0∧tm.E 5=.ptr zB.next 0∧tm.E 19=.ii ((a.rds.length+1:Nat):Int)∧tm.E 20=.ii (i:Int)) ?_ ?_ (i:=0) (Nat.zero_le _)
  ⟨_,_,rfl,di,hof,ycc,ycc,ycc,ycc⟩
 ·rintro i s hi ⟨tm,z2,rfl,dz,hf,t1,t5,t19,t20⟩
  have hi':(i:Int)<((a.rds.length+1:Nat):Int):=by omega
  have sz2:zA.Sub z2:=by obtain⟨_,_,_,_,k⟩:=dz;exact k
  obtain⟨f,df,dk2,gp2,_⟩:=dz
  have lp2:=sz2.wf _ _ gp2
  have ld2:=sz2.wf _ _ dk2.dk
  have nz2:=sz2.next
  obtain⟨z2',hz2⟩:∃z2',z2.add (.bk [.nils])=z2':=⟨_,rfl⟩
  have s22:z2.Sub z2':=by rw[←hz2];exact(H.Sub.refl sz2.wf).add _
  have go2:z2'.get z2.next=some (.bk [.nils]):=by rw[←hz2];exact Zc rfl
  have di2:DI zA a C R G W ms d z2.next zB.next z2':=⟨.nils,f,go2,fun m=>by simp,df,dk2.mono s22,s22.get gp2,sz2.trans s22⟩
  have hF:=wrong1_holds (W:=W) (ms:=ms) s0A.wf r xA ld (oC:=z2.next) (pC:=zB.next) ycb ycb ycb ycb
  have ga2:=(sz2.trans s22).get gA
  simp(disch:=omega)only[go_sem,t1,t5,t19,t20,hi',hz2,Za ga2,hlR]
  try rw[hz2]
  clear hz2
  refine lists_ev s0A.wf hF (fun h h' k s=>k.mono s) (fun c hc=>by rcases hc with hc|hc<;>omega) (fun h c k hc=>k.lt c hc) rfl (sz2.trans s22) di2 ycb ycb _ fun t z3 k3 w3 i3 hres=>?_
  have hstep:a.rds.length+1-i=(a.rds.length+1-(i+1))+1:=by omega
  rw[hstep,Z8] at hf
  cases hr:(YT i a.rds.length 0).find? (Vt a) with
  |some c=>
   rw[hr] at hf
   have hr2:(YT i a.rds.length 0).find? (fun l=>decide (Zw a (fun i=> !Wt l i)≠[]))=some c:=hr
   rw[hr2] at hres
   obtain⟨rfl,_,y,gy,xy⟩:=hres
   rw[List.nil_append] at xy
   rw[←hf] at q
   have s3:zA.Sub z3:=by obtain⟨_,_,_,_,_,_,_,k⟩:=i3;exact k
   simp(disch:=omega)only[go_sem,t1,t5,t19,t20,Za gy]
   exact q _ _ (s0A.trans s3) xy
  |none=>
   rw[hr] at hf
   have hr2:(YT i a.rds.length 0).find? (fun l=>decide (Zw a (fun i=> !Wt l i)≠[]))=none:=hr
   rw[hr2] at hres
   have hres:t=false:=hres
   subst hres
   simp(disch:=omega)only[go_sem,t1,t5,t19,t20,Zj]
   have d3:DW zA a C R G W ms d zB.next z3:=by obtain⟨y0,f3,_,_,k3',k4',k5',k6'⟩:=i3;exact⟨f3,k3',k4',k5',k6'⟩
   exact⟨_,_,rfl,d3,hf,yck,ycf,(by simp[Zm,Zd,t19]<;>rfl),ycc⟩
 ·rintro s ⟨tm,z2,rfl,dz,hf,t1,t5,t19,t20⟩
  rw[Nat.sub_self,Z8] at hf
  rw[←hf] at q
  have sz2:zA.Sub z2:=by obtain⟨_,_,_,_,k⟩:=dz;exact k
  simp(disch:=omega)only[go_sem,t1,t5,t19,t20,Int.lt_irrefl]
  exact q _ _ (s0A.trans sz2) ⟨by simp,by simp,.inl ⟨rfl,rfl⟩⟩
end Go.Ab.Tryz
namespace Go.Ab
namespace Tryz
open Go.Proofs
end Tryz
end Go.Ab
namespace Go.Ab.Tryz
open Go.Proofs
def WU (a:At)(c:Int)(of:Int × Int→Int):List Int:=if ZO a (!a.ckB c)≠0 then[] else setL a c.toNat of
theorem ckB_nat {a:At}{n:Int}(h:a.ckB n=true):∃k:Nat,n=k∧k<a.cks.length:=by
 simp only[At.ckB,Zs] at h
 exact⟨n.toNat,by omega,by omega⟩
theorem sets1_ev {h:H}(s:Int × Int):YA h (.fn 114 [] []) [.agg (XP s)] (.ii s.1):=by
 intro h1 hs
 refine Ze (fd:=c114) rfl rfl rfl ?_
 have hw:=hs.wf
 have s0:=H.Sub.refl hw
 simp(disch:=omega)only[c114,go_sem,XP]
 exact yca
theorem gains1_ev {h:H}(s:Int × Int):YA h (.fn 85 [] []) [.agg (XP s)] (.ii s.2):=by
 intro h1 hs
 refine Ze (fd:=c85) rfl rfl rfl ?_
 have hw:=hs.wf
 have s0:=H.Sub.refl hw
 simp(disch:=omega)only[c85,go_sem,XP]
 exact yca
theorem Wp (h:H):Zg h .nils 1 (([]:List Int).map encI):=⟨by simp,by simp,.inl ⟨rfl,rfl⟩⟩
theorem runsK_of {a:At}{Ps:List Fd}(e:Ps.map Prod.snd=ZR a)(k:Nat):(Ps.map fun p=>p.2.1.getD k (0,0))=runsK a k:=by
 unfold runsK
 rw[←e,List.map_map];rfl
theorem told_runs {a:At}{h h':H}{Ps:List Fd}{y:V}(r:Zl a)(e:Ps.map Prod.snd=ZR a)(f:FsO h h' y Ps)(hin:∀p∈Ps,In5 240 p.2.2){k:Nat}(hk:k<a.cks.length):(∀p∈Ps,Zg h' p.1 2 (p.2.1.map XP)∧k<p.2.1.length)∧(∀p∈Ps,ZB (YW p)=true)∧(∀p∈Ps,(YW p).length=26)∧Ps.length≤15625∧∀p∈Ps,p.2∈Zw a (fun _=>true):=by
 have hm:∀p∈Ps,p.2∈Zw a (fun _=>true):=fun p hp=>by show p.2∈ZR a;rw[←e];exact List.mem_map_of_mem hp
 have rl:=r.lens
 refine⟨fun p hp=>?_,fun p hp=>?_,fun p hp=>by simp[YW,(hin p hp).len],by have:=Va r (fun _=>true);rw[show Zw a (fun _=>true)=Ps.map Prod.snd from e.symm,List.length_map] at this;exact this,hm⟩
 ·have hl:=(Yn r (hm p hp)).2.1
  exact⟨(f.e p hp).sl yce,by omega⟩
 ·rw[YW,Yz,(f.e p hp).one,V6];rfl
set_option maxHeartbeats 2000000 in
theorem Sets_ev {h:H}(hw:h.wf){a:At}{C R G:V}(x:ZP h C R G a)(c:Int)(Q:V→H→Prop)(q:∀w h',h.Sub h'→Zg h' w 1 ((WU a c Prod.fst).map encI)→Q (.tup [w,.ii (ZO a (!a.ckB c))]) h'):
  Ev fnG Zi (.fn 65 [] []) [.agg (atV a C R G),.ii c] h Q:=by
 have oC:=x.c.one;have oR:=x.r.one;have oG:=x.g.one
 refine Ze (fd:=c65) rfl rfl rfl ?_
 obtain⟨z,hz⟩:∃z,h.add (.bk (atV a C R G))=z:=⟨_,rfl⟩
 have sz:h.Sub z:=by rw[←hz];exact yca
 have ga:z.get h.next=some (.bk (atV a C R G)):=by rw[←hz];exact Zc rfl
 simp(disch:=omega)only[c65,go_sem,oC,oR,oG]
 rw[hz]
 clear hz
 refine clock_ev sz.wf (x.mono sz) c _ fun z1 s1=>?_
 have hs1:=sz.trans s1
 have gsA:=s1.get ga
 simp(disch:=omega)only[go_sem]
 refine VG s1.wf (x.mono hs1) (!a.ckB c) _ (fun z2 s2 he=>?_) fun z2 v y Ps s2 hx hl ho hne r hb he e f=>?_
 ·have eR:WU a c Prod.fst=[]:=if_pos he
  have q':=q .nils z2 (hs1.trans s2) (by rw[eR];exact Wp z2)
  simp(disch:=omega)only[go_sem,(decide_eq_true he:decide (ZO a (!a.ckB c)≠0)=true),Za ga,Za gsA,Za (s2.get gsA)]
  exact q'
 ·have hb':a.ckB c=true:=by simpa using hb
  obtain⟨k,rfl,hk⟩:=ckB_nat hb'
  have d0:decide ((0:Int)≠0)=false:=rfl
  obtain⟨hr,hone,hlen,hP,hm⟩:=told_runs r e f hl hk
  have eR:WU a (k:Int) Prod.fst=setL a k Prod.fst:=by unfold WU;rw[if_neg ycq,Int.toNat_natCast]
  simp(disch:=omega)only[go_sem,d0,Za ga,Za gsA,Za (s2.get gsA)]
  refine settled_ev s2.wf hx hone hlen hne hP hr (of:=Prod.fst) (fun s=>sets1_ev s) _ fun w z3 s3 xw=>?_
  simp(disch:=omega)only[go_sem,Za ga,Za gsA,Za (s2.get gsA),Za ((s2.trans s3).get gsA)]
  have hlk:Ps.length=(runsK a k).length:=by rw[←runsK_of e k,List.length_map]
  rw[runsK_of e k,hlk] at xw
  have q':=q w z3 ((hs1.trans s2).trans s3) (by rw[eR];exact xw)
  rwa[he] at q'
set_option maxHeartbeats 2000000 in
theorem Gains_ev {h:H}(hw:h.wf){a:At}{C R G:V}(x:ZP h C R G a)(c:Int)(Q:V→H→Prop)(q:∀w h',h.Sub h'→Zg h' w 1 ((WU a c Prod.snd).map encI)→Q (.tup [w,.ii (ZO a (!a.ckB c))]) h'):
  Ev fnG Zi (.fn 39 [] []) [.agg (atV a C R G),.ii c] h Q:=by
 have oC:=x.c.one;have oR:=x.r.one;have oG:=x.g.one
 refine Ze (fd:=c39) rfl rfl rfl ?_
 obtain⟨z,hz⟩:∃z,h.add (.bk (atV a C R G))=z:=⟨_,rfl⟩
 have sz:h.Sub z:=by rw[←hz];exact yca
 have ga:z.get h.next=some (.bk (atV a C R G)):=by rw[←hz];exact Zc rfl
 simp(disch:=omega)only[c39,go_sem,oC,oR,oG]
 rw[hz]
 clear hz
 refine clock_ev sz.wf (x.mono sz) c _ fun z1 s1=>?_
 have hs1:=sz.trans s1
 have gsA:=s1.get ga
 simp(disch:=omega)only[go_sem]
 refine VG s1.wf (x.mono hs1) (!a.ckB c) _ (fun z2 s2 he=>?_) fun z2 v y Ps s2 hx hl ho hne r hb he e f=>?_
 ·have eR:WU a c Prod.snd=[]:=if_pos he
  have q':=q .nils z2 (hs1.trans s2) (by rw[eR];exact Wp z2)
  simp(disch:=omega)only[go_sem,(decide_eq_true he:decide (ZO a (!a.ckB c)≠0)=true),Za ga,Za gsA,Za (s2.get gsA)]
  exact q'
 ·have hb':a.ckB c=true:=by simpa using hb
  obtain⟨k,rfl,hk⟩:=ckB_nat hb'
  have d0:decide ((0:Int)≠0)=false:=rfl
  obtain⟨hr,hone,hlen,hP,hm⟩:=told_runs r e f hl hk
  have eR:WU a (k:Int) Prod.snd=setL a k Prod.snd:=by unfold WU;rw[if_neg ycq,Int.toNat_natCast]
  simp(disch:=omega)only[go_sem,d0,Za ga,Za gsA,Za (s2.get gsA)]
  refine settled_ev s2.wf hx hone hlen hne hP hr (of:=Prod.snd) (fun s=>gains1_ev s) _ fun w z3 s3 xw=>?_
  simp(disch:=omega)only[go_sem,Za ga,Za gsA,Za (s2.get gsA),Za ((s2.trans s3).get gsA)]
  have hlk:Ps.length=(runsK a k).length:=by rw[←runsK_of e k,List.length_map]
  rw[runsK_of e k,hlk] at xw
  have q':=q w z3 ((hs1.trans s2).trans s3) (by rw[eR];exact xw)
  rwa[he] at q'
end Go.Ab.Tryz
namespace Go.Ab.Tryz
open Go.Proofs
theorem shows1_ev {h:H}{b1 b2:Nat}{k e:Nat}(g1:h.cells b1=some [.ii (k:Int)])(g2:h.cells b2=some [.ii (e:Int)])(he:e<4){p:Fd}(hlen:(YW p).length=26)(hin:In5 240 p.2.2)(hx:Zg h p.1 2 (p.2.1.map XP))(hk:k<p.2.1.length)(hrun:Wy (p.2.1.getD k (0,0)).1 (p.2.1.getD k (0,0)).2)(hm:0≤ -(mg p.2.2 e 4)∧ -(mg p.2.2 e 4)≤240):
  YA h (.fn 116 [] [.ptr b1 0,.ptr b2 0]) [.agg (YW p)] (.ii (shw (p.2.1.getD k (0,0)).1 (p.2.1.getD k (0,0)).2 (-(mg p.2.2 e 4)))):=by
 intro h1 hs
 refine Ev.gen fun Q q=>?_
 have hw:=hs.wf
 have hgd:p.2.1.getD k (0,0)=p.2.1[k]:=by rw[List.getD_eq_getElem?_getD,List.getElem?_eq_getElem hk];rfl
 obtain⟨bR,oR,cR,csR,eR,hcR,hqR,hgR,_,_⟩:=(hx.mono hs).at hk
 have hv0:nth 0 (YW p)=some p.1:=rfl
 have hv1:=row_at hin.len (f:=e) (t:=4) ycb ycb
 have i4:∀sz b o,VK 5 sz (.ptr b o) (.ii 4)=some (.ptr b (o+4*sz)):=fun sz b o=>WJ (nat_num 4) ycb
 have lbR:bR<h1.next:=(H.cells_eq hcR).elim fun kd e=>hw _ _ e
 have hcell:=YW p
 refine Ze (fd:=c116) rfl rfl rfl ?_
 rw[hgd] at hrun q
 generalize p.2.1[k]=sg at hrun hgR q
 simp only[XP] at hgR
 have a1:=hs.cells g1
 have a2:=hs.cells g2
 have lb1:b1<h1.next:=(H.cells_eq a1).elim fun kd e=>hw _ _ e
 have lb2:b2<h1.next:=(H.cells_eq a2).elim fun kd e=>hw _ _ e
 have b0:=hin.lo e 4 ycb ycb;have b1':=hin.hi e 4 ycb ycb
 have w0:wr .i64 (0-mg p.2.2 e 4)= -(mg p.2.2 e 4):=by rw[Zo ycb ycb];omega
 obtain⟨y,hy⟩:∃y, -(mg p.2.2 e 4)=y:=⟨_,rfl⟩
 rw[hy] at hm q
 obtain⟨F,hF⟩:∃F,YW p=F:=⟨_,rfl⟩
 rw[hF] at hv0 hv1 hlen⊢
 have sF:h1.Sub (h1.add (.bk F)):=(H.Sub.refl hw).add _
 have gF:(h1.add (.bk F)).cells h1.next=some F:=Zu rfl
 simp(disch:=omega)only[c116,go_sem,V.cells]
 generalize h1.add (.bk F)=hz at sF gF⊢
 simp(disch:=omega)only[go_sem,gF,hv0,sF.cells a1,sF.cells a2,hqR (Zb k),sF.cells hcR,hgR,XS _ _ _ (show e<5 by omega),i4,hv1,w0,hy]
 refine shows_ev rfl sF.wf hrun hm.1 hm.2 _ fun z4 s4=>?_
 have s14:=sF.trans s4
 simp(disch:=omega)only[go_sem,gF,s4.cells gF,hv0,sF.cells a1,sF.cells a2,s14.cells a1,s14.cells a2,sF.cells hcR,s14.cells hcR,hgR,hv1,hy]
 exact q _ _ ⟨rfl,s14⟩
theorem shows2_ev {h:H}{b1 b2:Nat}{k e:Nat}(g1:h.cells b1=some [.ii (k:Int)])(g2:h.cells b2=some [.ii (e:Int)])(he:e<4){p:Fd}(hlen:(YW p).length=26)(hin:In5 240 p.2.2)(hx:Zg h p.1 2 (p.2.1.map XP))(hk:k<p.2.1.length)(hrun:Wy (p.2.1.getD k (0,0)).1 (p.2.1.getD k (0,0)).2)(hm:0≤mg p.2.2 4 e∧mg p.2.2 4 e≤240):
  YA h (.fn 117 [] [.ptr b1 0,.ptr b2 0]) [.agg (YW p)] (.ii (shw (p.2.1.getD k (0,0)).1 (p.2.1.getD k (0,0)).2 (mg p.2.2 4 e))):=by
 intro h1 hs
 refine Ev.gen fun Q q=>?_
 have hw:=hs.wf
 have hgd:p.2.1.getD k (0,0)=p.2.1[k]:=by rw[List.getD_eq_getElem?_getD,List.getElem?_eq_getElem hk];rfl
 obtain⟨bR,oR,cR,csR,eR,hcR,hqR,hgR,_,_⟩:=(hx.mono hs).at hk
 have hv0:nth 0 (YW p)=some p.1:=rfl
 have hv1:=row_at hin.len (f:=4) (t:=e) ycb ycb
 have i4:∀sz b o,VK 5 sz (.ptr b o) (.ii 4)=some (.ptr b (o+4*sz)):=fun sz b o=>WJ (nat_num 4) ycb
 have lbR:bR<h1.next:=(H.cells_eq hcR).elim fun kd e=>hw _ _ e
 have hcell:=YW p
 refine Ze (fd:=c117) rfl rfl rfl ?_
 rw[hgd] at hrun q
 generalize p.2.1[k]=sg at hrun hgR q
 simp only[XP] at hgR
 have a1:=hs.cells g1
 have a2:=hs.cells g2
 have lb1:b1<h1.next:=(H.cells_eq a1).elim fun kd e=>hw _ _ e
 have lb2:b2<h1.next:=(H.cells_eq a2).elim fun kd e=>hw _ _ e
 have b0:=hin.lo e 4 ycb ycb;have b1':=hin.hi e 4 ycb ycb
 have w0:wr .i64 (0-mg p.2.2 e 4)= -(mg p.2.2 e 4):=by rw[Zo ycb ycb];omega
 obtain⟨y,hy⟩:∃y,mg p.2.2 4 e=y:=⟨_,rfl⟩
 rw[hy] at hm q
 obtain⟨F,hF⟩:∃F,YW p=F:=⟨_,rfl⟩
 rw[hF] at hv0 hv1 hlen⊢
 have sF:h1.Sub (h1.add (.bk F)):=(H.Sub.refl hw).add _
 have gF:(h1.add (.bk F)).cells h1.next=some F:=Zu rfl
 simp(disch:=omega)only[c117,go_sem,V.cells]
 generalize h1.add (.bk F)=hz at sF gF⊢
 simp(disch:=omega)only[go_sem,gF,hv0,sF.cells a1,sF.cells a2,hqR (Zb k),sF.cells hcR,hgR,XS _ _ _ (show e<5 by omega),i4,hv1,w0,hy]
 refine shows_ev rfl sF.wf hrun hm.1 hm.2 _ fun z4 s4=>?_
 have s14:=sF.trans s4
 simp(disch:=omega)only[go_sem,gF,s4.cells gF,hv0,sF.cells a1,sF.cells a2,s14.cells a1,s14.cells a2,sF.cells hcR,s14.cells hcR,hgR,hv1,hy]
 exact q _ _ ⟨rfl,s14⟩
def Vv (a:At)(c e:Int):(Int × Int) × Int:=if ZO a (!a.ckB c|| !a.evB e)≠0 then((0,0),ZO a (!a.ckB c|| !a.evB e)) else((shoLo a c.toNat e.toNat,shoHi a c.toNat e.toNat),0)
theorem shwN_of {a:At}{Ps:List Fd}(e:Ps.map Prod.snd=ZR a)(k:Nat)(m:List Int→Int):WW (Ps.map fun p=>shw (p.2.1.getD k (0,0)).1 (p.2.1.getD k (0,0)).2 (m p.2.2))=Wq a k m:=by
 unfold Wq
 rw[←e,List.map_map];rfl
set_option maxHeartbeats 4000000 in
theorem Shows_ev {h:H}(hw:h.wf){a:At}{C R G:V}(x:ZP h C R G a)(c ev:Int)(Q:V→H→Prop)(q:∀h',h.Sub h'→Q (.tup [spV (Vv a c ev).1,.ii (Vv a c ev).2]) h'):
  Ev fnG Zi (.fn 66 [] []) [.agg (atV a C R G),.ii c,.ii ev] h Q:=by
 have oC:=x.c.one;have oR:=x.r.one;have oG:=x.g.one
 have heq:ZO a (!a.ckB c|| !evW a ev)=ZO a (!a.ckB c|| !a.evB ev):=errT_bad fun r=>by rw[YU r]
 refine Ze (fd:=c66) rfl rfl rfl ?_
 obtain⟨z,hz⟩:∃z,(((h.add (.bk (atV a C R G))).add (.bk [.ii c])).add (.bk [.ii ev])).add (.bk [.ii 0,.ii 0])=z:=⟨_,rfl⟩
 have sz:h.Sub z:=by rw[←hz];exact yca
 have nz:z.next=h.next+4:=by rw[←hz];simp only[H.next_add]
 have ga:z.get h.next=some (.bk (atV a C R G)):=by rw[←hz];simp -implicitDefEqProofs(disch:=first|omega|simp only[nZ]<;>omega|fail)only[go_sem]
 have gc:z.get (h.next+1)=some (.bk [.ii c]):=by rw[←hz];simp -implicitDefEqProofs(disch:=first|omega|simp only[nZ]<;>omega|fail)only[go_sem]
 have ge:z.get (h.next+2)=some (.bk [.ii ev]):=by rw[←hz];simp -implicitDefEqProofs(disch:=first|omega|simp only[nZ]<;>omega|fail)only[go_sem]
 have gs:z.get (h.next+3)=some (.bk [.ii 0,.ii 0]):=by rw[←hz];simp -implicitDefEqProofs(disch:=first|omega|simp only[nZ]<;>omega|fail)only[go_sem]
 simp -implicitDefEqProofs(disch:=first|omega|simp only[nZ]<;>omega|fail)only[c66,go_sem,oC,oR,oG]
 rw[hz]
 clear hz
 rw[show h.next+1+1=h.next+2 from rfl,show h.next+2+1=h.next+3 from rfl]
 refine clock_ev sz.wf (x.mono sz) c _ fun z1 s1=>?_
 have hs1:=sz.trans s1
 have d0:decide ((0:Int)≠0)=false:=rfl
 have tail:∀hz:H,z.Sub hz→∀bad,bad=(!a.ckB c|| !evW a ev)→∀Q2:V→H→Prop,
   (∀h4,hz.Sub h4→ZO a bad≠0→Vv a c ev=((0,0),ZO a bad)→Q2 (.tup [.nilp,.nils,.ii (ZO a bad)]) h4)→
   (∀h4 v y,hz.Sub h4→∀k e:Nat,c=k→ev=e→(Vv a c ev=((shoLo a k e,shoHi a k e),0))→(0<(Wq a k fun L=> -mg L e 4).length)→(0<(Wq a k fun L=>mg L 4 e).length)→(Wq a k fun L=>mg L 4 e).length≤15625→
    (∀h5,h4.Sub h5→∀Q3:V→H→Prop,(∀w h6,h5.Sub h6→Zg h6 w 1 ((Wq a k fun L=> -mg L e 4).map encI)→Q3 w h6)→Ev fnG Zi (.fn 115 [] []) [y,.fn 116 [] [.ptr (h.next+1) 0,.ptr (h.next+2) 0]] h5 Q3)→
    (∀h5,h4.Sub h5→∀Q3:V→H→Prop,(∀w h6,h5.Sub h6→Zg h6 w 1 ((Wq a k fun L=>mg L 4 e).map encI)→Q3 w h6)→Ev fnG Zi (.fn 115 [] []) [y,.fn 117 [] [.ptr (h.next+1) 0,.ptr (h.next+2) 0]] h5 Q3)→
    Q2 (.tup [v,y,.ii 0]) h4)→
   Ev fnG Zi (.fn 15 [] []) [.agg (atV a C R G),.bool bad] hz Q2:=fun hz sz' bad hbad Q2 r1 r2=>by
  subst hbad
  refine VG sz'.wf (x.mono (sz.trans sz')) _ _ (fun h4 s4 he=>r1 h4 s4 he ?_) fun h4 v y Ps s4 hx hl ho hne r hb he e' f=>?_
  ·rw[heq] at he⊢;exact if_pos he
  ·rw[YU r] at hb
   have h1:a.ckB c=true:=by cases hv:a.ckB c<;>simp_all
   have h2:a.evB ev=true:=by cases hv:a.evB ev<;>simp_all
   obtain⟨k,rfl,hk⟩:=ckB_nat h1
   obtain⟨e,rfl,he4⟩:=Xc r h2
   rw[heq] at he
   obtain⟨hr,hone,hlen,hP,hm⟩:=told_runs r e' f hl hk
   have hneC:ZR a≠[]:=fun hc=>hne (List.map_eq_nil_iff.1 (e'.trans hc))
   have hR:Vv a (k:Int) (e:Int)=((shoLo a k e,shoHi a k e),0):=by unfold Vv;rw[if_neg ycq,Int.toNat_natCast,Int.toNat_natCast]
   have hrun:∀p∈Ps,Wy (p.2.1.getD k (0,0)).1 (p.2.1.getD k (0,0)).2:=fun p hp=>by
    have hkl:=(hr p hp).2
    have hg:p.2.1.getD k (0,0)=p.2.1[k]:=by rw[List.getD_eq_getElem?_getD,List.getElem?_eq_getElem hkl];rfl
    rw[hg]
    exact((Yn r (hm p hp)).2.2.1 k _ (List.getElem?_eq_getElem hkl)).run r
   have hmin:∀p∈Ps,(0≤ -mg p.2.2 e 4∧ -mg p.2.2 e 4≤240)∧0≤mg p.2.2 4 e∧mg p.2.2 4 e≤240:=fun p hp=>by
    have t1:=(Vq r (hm p hp) (f:=e) ycb).mins e he4
    have t2:=(Vq r (hm p hp) (f:=4) ycb).mins e he4
    rw[lat_self r (hm p hp) ycb] at t1
    rw[lat_4 r (hm p hp)] at t2
    have:=r.mins
    omega
   have ll:∀m:List Int→Int,(Wq a k m).length≤15625:=fun m=>by
    unfold Wq WW
    refine Nat.le_trans dd_len ?_
    rw[XZ,List.length_map]
    exact Va r _
   refine r2 h4 v y s4 k e rfl rfl hR (shwN_pos hneC) (shwN_pos hneC) (ll _) (fun h5 s5 Q3 q3=>?_) fun h5 s5 Q3 q3=>?_
   ·have gc5:=Za ((sz'.trans (s4.trans s5)).get gc)
    have ge5:=Za ((sz'.trans (s4.trans s5)).get ge)
    refine numbers_ev s5.wf (hx.mono s5) hone hlen hne hP (of:=fun p=>shw (p.2.1.getD k (0,0)).1 (p.2.1.getD k (0,0)).2 (-mg p.2.2 e 4)) (fun p hp=>shows1_ev gc5 ge5 he4 (hlen p hp) (hl p hp) ((hr p hp).1.mono s5) (hr p hp).2 (hrun p hp) (hmin p hp).1) _ fun w h6 s6 xw=>q3 w h6 s6 ?_
    rw[shwN_of e' k fun L=> -mg L e 4] at xw
    exact xw
   ·have gc5:=Za ((sz'.trans (s4.trans s5)).get gc)
    have ge5:=Za ((sz'.trans (s4.trans s5)).get ge)
    refine numbers_ev s5.wf (hx.mono s5) hone hlen hne hP (of:=fun p=>shw (p.2.1.getD k (0,0)).1 (p.2.1.getD k (0,0)).2 (mg p.2.2 4 e)) (fun p hp=>shows2_ev gc5 ge5 he4 (hlen p hp) (hl p hp) ((hr p hp).1.mono s5) (hr p hp).2 (hrun p hp) (hmin p hp).2) _ fun w h6 s6 xw=>q3 w h6 s6 ?_
    rw[shwN_of e' k fun L=>mg L 4 e] at xw
    exact xw
 have fin:∀hz:H,z.Sub hz→∀(u v er:Int),Vv a c ev=((u,v),er)→Q (.tup [spV (u,v),.ii er]) (hz.set (h.next+3) (.bk [.ii u,.ii v])):=fun hz sz' u v er e=>by
  have lz:=sz'.next
  have:=q _ ((sz.trans sz').set (b:=h.next+3) ycb ycb hw (.bk [.ii u,.ii v]))
  rwa[e] at this
 cases hck:a.ckB c with
 |false=>
  rw[hck] at tail
  simp(disch:=omega)only[go_sem,Za gc,Za ga,Za (s1.get ga),Za (s1.get gc)]
  refine tail z1 s1 true rfl _ (fun h4 s4 he hr=>?_) fun h4 v y s4 k e e1 e2 hR l1 l2 l3 n1 n2=>?_
  ·have sx:=s1.trans s4
   simp(disch:=omega)only[go_sem,Za ga,Za gc,Za (s1.get ga),Za (s1.get gc),Za (sx.get ga),Za (sx.get gc),(decide_eq_true he:decide (ZO a true≠0)=true),sx.get gs]
   exact fin _ sx _ _ _ hr
  ·rw[e1] at hck
   exfalso
   unfold Vv at hR
   rw[e1,hck] at hR
   have:ZO a (!false|| !a.evB ev)≠0:=by
    unfold ZO
    by_cases hc0:Zn a=0
    ·rw[if_neg (by rw[hc0];simp),if_pos ycl];decide
    ·rw[if_pos hc0];exact hc0
   rw[if_pos this] at hR
   exact this (congrArg Prod.snd hR)
 |true=>
  rw[hck] at tail
  simp(disch:=omega)only[go_sem,Za gc,Za ga,Za ge,Za (s1.get ga),Za (s1.get gc),Za (s1.get ge)]
  refine WM s1.wf a ev _ fun z2 s2=>?_
  have s12:=s1.trans s2
  obtain⟨bt,hbt0⟩:∃bt,(!evW a ev)=bt:=⟨_,rfl⟩
  simp(disch:=omega)only[go_sem,hbt0,Za gc,Za ga,Za ge,Za (s1.get ga),Za (s1.get gc),Za (s1.get ge),Za (s12.get ga),Za (s12.get gc),Za (s12.get ge)]
  refine tail z2 s12 bt (by rw[←hbt0];rfl) _ (fun h4 s4 he hr=>?_) fun h4 v y s4 k e e1 e2 hR l1 l2 l3 n1 n2=>?_
  ·have sx:=s12.trans s4
   simp(disch:=omega)only[go_sem,Za gc,Za ga,Za ge,Za (s1.get ga),Za (s1.get gc),Za (s1.get ge),Za (s12.get ga),Za (s12.get gc),Za (s12.get ge),Za (sx.get ga),Za (sx.get gc),Za (sx.get ge),(decide_eq_true he:decide (ZO a bt≠0)=true),sx.get gs]
   exact fin _ sx _ _ _ hr
  ·have sx:=s12.trans s4
   simp(disch:=omega)only[go_sem,d0,Za gc,Za ga,Za ge,Za (s1.get ga),Za (s1.get gc),Za (s1.get ge),Za (s12.get ga),Za (s12.get gc),Za (s12.get ge),Za (sx.get ga),Za (sx.get gc),Za (sx.get ge)]
   refine n1 h4 (H.Sub.refl s4.wf) _ fun w1 h5 s5 xw1=>?_
   simp(disch:=omega)only[go_sem]
   refine n2 h5 s5 _ fun w2 h6 s6 xw2=>?_
   have hl2:=xw2.lenE
   obtain⟨b1,o1,c1,cs1,ew1,hc1,hq1,_,_,q1⟩:=(xw1.mono s6).at l1
   obtain⟨b2,o2,c2,cs2,ew2,hc2,hq2,_,_,q2⟩:=xw2.at (k:=(Wq a k fun L=>mg L 4 e).length - 1) ycb
   have v1:=q1 ycd
   have v2:=q2 ycd
   simp only[encI,List.getElem?_cons_zero] at v1 v2
   rw[Nat.zero_mul,Nat.add_zero] at v1
   have g1:(Wq a k fun L=> -mg L e 4)[0]=shoLo a k e:=by unfold shoLo;rw[List.getD_eq_getElem?_getD,List.getElem?_eq_getElem l1];rfl
   have g2:(Wq a k fun L=>mg L 4 e)[(Wq a k fun L=>mg L 4 e).length - 1]' ycb=shoHi a k e:=by unfold shoHi;rw[List.getD_eq_getElem?_getD,List.getElem?_eq_getElem ycb];rfl
   rw[g1] at v1
   rw[g2] at v2
   have w3:wr .i64 (((Wq a k fun L=>mg L 4 e).length:Int)-1)=(((Wq a k fun L=>mg L 4 e).length - 1:Nat):Int):=by rw[Zo ycb ycb];omega
   have hq10:=hq1 nat_zero
   rw[Nat.zero_mul,Nat.add_zero] at hq10
   have sy:=sx.trans (s5.trans s6)
   simp(disch:=omega)only[go_sem,hq10,hc1,v1,hl2,w3,hq2 (Zb _),hc2,v2,sy.get gs]
   exact fin _ sy _ _ _ hR
end Go.Ab.Tryz
namespace Go.Ab
theorem a_msl_nn {h:H}{by_ n:Nat}{z:List V}(h1:n*by_≤1099511627776)(h2:n≤1099511627776):
  V7 h by_ z (.ii (n:Int)) (.ii (n:Int))=some (.sl h.next 0 n (.fix n),h.add (.bk (YB n z))):=a_msl_nm (Nat.le_refl _) h1 h2
namespace Tryz
open Go.Proofs
theorem someT_spec {a:At}(r:Zl a)(hne:ZR a≠[]):∃runs y,TruA a runs y∧YY a=(runs.map Prod.fst,runs.map Prod.snd,(List.range a.evs.toNat).map y):=by
 obtain⟨t,l,h⟩:=List.exists_cons_of_ne_nil hne
 have ht:t∈Zw a (fun _=>true):=by show t∈ZR a;rw[h];exact List.mem_cons_self ..
 refine⟨t.1,latY t.2 4,Vq r ht ycb,?_⟩
 unfold YY
 rw[h]
 simp only
 rw[if_pos (errT_ok r hne)]
 have:(List.range a.evs.toNat).map (fun i=>mg t.2 4 i)=(List.range a.evs.toNat).map (latY t.2 4):=List.map_congr_left fun i _=>(lat_4 r ht i).symm
 rw[this]
theorem someT_fit {a:At}(r:Zl a)(hne:ZR a≠[]):VV a (YY a).1 (YY a).2.1 (YY a).2.2=true:=by
 obtain⟨runs,y,t,e⟩:=someT_spec r hne
 rw[e];exact t.fit r
theorem errT_none {a:At}(r:Zl a)(h:ZR a=[]):ZO a false=7:=by
 unfold ZO
 rw[if_neg (by rw[Zz.2 r];simp),if_neg ycl,if_pos h]
end Tryz
end Go.Ab
namespace Go.Ab.Tryz
open Go.Proofs
variable {a b:At} {ss gg tt:List Int}
end Go.Ab.Tryz
namespace Go.Ab.Silk
theorem Inc.sub {hi:Int}{m l:List Int}(s:m.Sublist l):∀{i:Int},Inc hi i l→Inc hi i m:=by
 induction s with
 |slnil=>intro i h;exact h
 |cons a s ih=>intro i h;exact(ih h.2.2).lower (by have:=h.1;omega)
 |cons_cons a s ih=>intro i h;exact⟨h.1,h.2.1,ih h.2.2⟩
theorem before_len {c d:List Int}(h:d=c∨before c d=true):c.length≤d.length:=by
 rcases h with rfl|h
 ·exact Nat.le_refl _
 ·unfold before at h
  split at h
  ·omega
  ·simp only[decide_eq_true_eq] at h;omega
theorem Vd.len {P:List Int→Bool}{W:Nat}{c d:List Int}(m:Vd P W c)(h:Inc W 0 d)(hp:P d=true):c.length≤d.length:=before_len (m.min d h hp)
end Go.Ab.Silk
namespace Go.Ab.Tryz
open Go.Proofs
open Go.Ab.Silk (YT Z8 Yl Vd Inc)
theorem nodup_len:∀{l m:List Int},l.Nodup→(∀x∈l,x∈m)→l.length≤m.length
 |[],m,_,_=>Nat.zero_le _
 |a::l,m,hn,h=>by
  have ha:=h a (List.mem_cons_self ..)
  have h1:=nodup_len (l:=l) (m:=m.erase a) (List.nodup_cons.1 hn).2 fun x hx=>(List.mem_erase_of_ne (fun e=>by subst e;exact(List.nodup_cons.1 hn).1 hx)).2 (h x (List.mem_cons_of_mem _ hx))
  have h2:=List.length_erase_of_mem ha
  have h3:=List.length_pos_of_mem ha
  rw[List.length_cons];omega
theorem ris_nodup {l:List Int}(h:l.Nodup):¬(WW l).length<l.length:=by
 have:=nodup_len h fun x hx=>risL_mem.2 hx
 omega
variable {a:At} {ss gg tt:List Int} {f:Nat→Bool} {m:Int}
section
variable {b:At}
variable {w:List Int} (mw:Vd (Vt b) b.rds.length w)
include mw
omit mw
end
end Go.Ab.Tryz
namespace Go.Ab.Tryz
open Go.Proofs
open Go.Ab.Silk (Inc ZM WN Xs Z8 Yl Vd)
def sAt (s:Int):Nat→Int
 |0=>s
 |k+1=>sAt s k/2
theorem sAt_nn {s:Int}(h:0≤s):∀k,0≤sAt s k
 |0=>h
 |k+1=>by have:=sAt_nn h k;simp only[sAt];omega
theorem sAt_le {s:Int}(h:0≤s):∀k,sAt s k≤s
 |0=>Int.le_refl _
 |k+1=>by have:=sAt_le h k;have:=sAt_nn h k;simp only[sAt];omega
theorem sAt_half (s:Int):∀k,sAt (s/2) k=sAt s (k+1)
 |0=>rfl
 |k+1=>by have:=sAt_half s k;simp only[sAt] at *;omega
def ZV (s:Int):Nat→Bool:=fun k=>decide (sAt s k%2=1)
def lst (c:Nat→Bool):Nat→List Int
 |0=>[]
 |n+1=>lst c n++if c n=true then[(n:Int)] else[]
theorem lst_len (c:Nat→Bool):∀n,(lst c n).length≤n
 |0=>Nat.le_refl _
 |n+1=>by have:=lst_len c n;simp only[lst,List.length_append];split<;>simp<;>omega
theorem mem_lst (c:Nat→Bool)(i:Nat):∀n,(i:Int)∈lst c n↔i<n∧c i=true
 |0=>by simp[lst]
 |n+1=>by
  simp only[lst,List.mem_append,mem_lst c i n]
  by_cases e:i=n
  ·subst e
   cases c i<;>simp
  ·constructor
   ·rintro(⟨h1,h2⟩|h)
    ·exact⟨by omega,h2⟩
    ·split at h
     ·simp at h;omega
     ·cases h
   ·rintro⟨h1,h2⟩
    exact .inl ⟨by omega,h2⟩
theorem bitsL_snoc:∀(k:Nat) (s i:Int),ZM (k+1) s i=ZM k s i++if ZV s k=true then[i+(k:Int)] else[]
 |0,s,i=>by
  by_cases h:s%2=1<;>simp[ZM,ZV,sAt,h]
 |k+1,s,i=>by
  have ih:=bitsL_snoc k (s/2) (i+1)
  have e:ZV (s/2) k=ZV s (k+1):=by unfold ZV;rw[sAt_half]
  have e2:i+1+(k:Int)=i+((k+1:Nat):Int):=by omega
  rw[e,e2] at ih
  rw[show ZM (k+1+1) s i=if s%2=1 then i::ZM (k+1) (s/2) (i+1) else ZM (k+1) (s/2) (i+1) from rfl,show ZM (k+1) s i=if s%2=1 then i::ZM k (s/2) (i+1) else ZM k (s/2) (i+1) from rfl,ih]
  split<;>simp
theorem lst_bits (s:Int):∀n,lst (ZV s) n=ZM n s 0
 |0=>rfl
 |n+1=>by rw[bitsL_snoc,←lst_bits s n];simp[lst]
theorem VP {s:Int}{i:Nat}(h:sAt s i=0):∀m,i≤m→lst (ZV s) m=lst (ZV s) i∧sAt s m=0
 |0,hm=>by
  have:i=0:=by omega
  subst this;exact⟨rfl,h⟩
 |m+1,hm=>by
  by_cases e:i=m+1
  ·subst e;exact⟨rfl,h⟩
  ·obtain⟨h1,h2⟩:=VP h m ycb
   have hb:ZV s m=false:=by unfold ZV;rw[h2];rfl
   exact⟨by simp[lst,h1,hb],by simp only[sAt];omega⟩
theorem sAt_zero:∀(n:Nat) {s:Int},0≤s→s<2^n→sAt s n=0
 |0,s,h0,h1=>by simp only[sAt];simp at h1;omega
 |n+1,s,h0,h1=>by
  rw[←sAt_half]
  exact sAt_zero n ycb (by rw[Int.pow_succ] at h1;omega)
theorem lst_all {s:Int}{n i:Nat}(h0:0≤s)(h1:s<2^n)(h:sAt s i=0):lst (ZV s) i=ZM n s 0:=by
 rw[←lst_bits]
 have hn:=sAt_zero n h0 h1
 by_cases c:i≤n
 ·exact(VP h n c).1.symm
 ·exact(VP hn i ycb).1
theorem sAt0:∀k,sAt 0 k=0
 |0=>rfl
 |k+1=>by simp only[sAt,sAt0 k];rfl
theorem bitC_half (s:Int)(k:Nat):ZV s (k+1)=ZV (s/2) k:=by unfold ZV;rw[sAt_half]
theorem bitI_low (f:Nat→Bool):∀n,ZG f (n+1)=(if f 0=true then 1 else 0)+2*ZG (fun j=>f (j+1)) n
 |0=>by simp[ZG]
 |n+1=>by
  have ih:=bitI_low f n
  have e:(2:Int)^(n+1)=2*2^n:=by rw[Int.pow_succ];omega
  rw[ZG,ih,ZG,e]
  split<;>split<;>omega
theorem V4:∀(j n:Nat) (f:Nat→Bool),ZV (ZG f n) j=(decide (j<n)&&f j)
 |j,0,f=>by
  have:ZV 0 j=false:=by unfold ZV;rw[sAt0];rfl
  simp[ZG,this]
 |0,n+1,f=>by
  have e:ZV (ZG f (n+1)) 0=decide (ZG f (n+1)%2=1):=rfl
  rw[e,bitI_low]
  cases f 0
  ·simp only[Bool.false_eq_true,if_false,Bool.and_false,decide_eq_false_iff_not];omega
  ·simp only[if_true,Nat.zero_lt_succ,decide_true,Bool.and_true,decide_eq_true_eq];omega
 |j+1,n+1,f=>by
  rw[bitC_half,bitI_low]
  have e:((if f 0=true then 1 else 0)+2*ZG (fun j=>f (j+1)) n)/2=ZG (fun j=>f (j+1)) n:=by split<;>omega
  rw[e,V4 j n]
  simp only[Nat.add_lt_add_iff_right]
theorem bitC_compl:∀(j W:Nat) (n:Int),0≤n→n<2^W→j<W→ZV (2^W-1-n) j= !ZV n j
 |j,0,n,_,_,h=>by omega
 |0,W+1,n,h0,h1,_=>by
  have e:(2:Int)^(W+1)=2*2^W:=by rw[Int.pow_succ];omega
  show decide ((2^(W+1)-1-n)%2=1)= !decide (n%2=1)
  rw[e,Bool.eq_iff_iff]
  simp only[decide_eq_true_eq,Bool.not_eq_true',decide_eq_false_iff_not]
  omega
 |j+1,W+1,n,h0,h1,hj=>by
  have e:(2:Int)^(W+1)=2*2^W:=by rw[Int.pow_succ];omega
  rw[bitC_half,bitC_half,show(2^(W+1)-1-n)/2=2^W-1-n/2 by omega]
  exact bitC_compl j W (n/2) ycb ycb ycb
theorem bitI_congr {f g:Nat→Bool}:∀{n:Nat},(∀j,j<n→f j=g j)→ZG f n=ZG g n
 |0,_=>rfl
 |n+1,h=>by rw[ZG,ZG,bitI_congr fun j hj=>h j ycb,h n ycb]
theorem bitI_upd {f g:Nat→Bool}{k:Nat}(h:∀j,j≠k→g j=f j)(hf:f k=false)(hg:g k=true):∀{n:Nat},k<n→ZG g n=ZG f n+2^k
 |n+1,hk=>by
  rw[ZG,ZG]
  by_cases e:k=n
  ·subst e
   rw[hf,hg,bitI_congr fun j hj=>h j ycb]
   simp
  ·rw[bitI_upd h hf hg ycb,h n ycb];omega
theorem sAt_div:∀(k:Nat) (s:Int),sAt s k=s/2^k
 |0,s=>by simp[sAt]
 |k+1,s=>by
  rw[←sAt_half,sAt_div k,Int.pow_succ,Int.mul_comm,Int.ediv_ediv_of_nonneg ycd]
def commI (a b:Int):Int:=ZG (fun k=>ZV a k&&ZV b k) 8
def agrS (ms:List Int)(s:Int):Bool:=ms.any fun m=>decide (commI m s=0)
def dduS (o:List Int)(m:Int):List Int:=if m∈o then o else o++[m]
def ddu (l:List Int):List Int:=l.foldl dduS []
theorem ddu_mem0:∀{l o:List Int} {m:Int},m∈l.foldl dduS o↔m∈o∨m∈l
 |[],o,m=>by simp
 |x::l,o,m=>by
  rw[List.foldl_cons,ddu_mem0]
  unfold dduS
  split
  ·rename_i h
   rw[List.mem_cons]
   constructor
   ·rintro(q|q);exact .inl q;exact .inr (.inr q)
   ·rintro(q|rfl|q);exact .inl q;exact .inl h;exact .inr q
  ·rw[List.mem_append,List.mem_singleton,List.mem_cons]
   constructor
   ·rintro((q|q)|q);exact .inl q;exact .inr (.inl q);exact .inr (.inr q)
   ·rintro(q|q|q);exact .inl (.inl q);exact .inl (.inr q);exact .inr q
theorem ddu_mem {l:List Int}{m:Int}:m∈ddu l↔m∈l:=by unfold ddu;rw[ddu_mem0];simp
def Vn (a:At):List Int:=ddu ((allT a).map (Xo a))
def agrN (a:At)(c:Nat→Bool):Bool:=decide (Zw a c≠[])
theorem agrN_tru {a:At}(r:Zl a){c:Nat→Bool}:agrN a c=true↔∃runs y,Tru a c runs y:=by
 unfold agrN
 rw[decide_eq_true_eq,ne_eq,noN r]
 constructor
 ·intro h
  refine Classical.byContradiction fun hc=>h fun runs y t=>hc ⟨runs,y,t⟩
 ·rintro⟨runs,y,t⟩ h;exact h _ _ t
theorem agrN_iff {a:At}(r:Zl a){c:Nat→Bool}:agrN a c=true↔∃t∈allT a,∀j,j<a.rds.length→c j=true→Xg a t.1 t.2.1 t.2.2 j=false:=by
 rw[agrN_tru r]
 constructor
 ·rintro⟨runs,y,t⟩
  have tf:Tru a (fun _=>false) runs y:=tru_fewer (fun i _ h=>by cases h) t
  exact⟨ttOf a runs y,(allT_mem r).2 ⟨ttOf_len r t,ttOf_tru r tf⟩,((tru_cnt r (ttOf_len r t)).1 (ttOf_tru r t)).2⟩
 ·rintro⟨t,ht,h⟩
  obtain⟨l,q⟩:=(allT_mem r).1 ht
  exact⟨_,_,(tru_cnt r l).2 ⟨q,h⟩⟩
theorem agrN_congr {a:At}(r:Zl a){c d:Nat→Bool}(h:∀j,j<a.rds.length→c j=d j):agrN a c=agrN a d:=by
 rw[Bool.eq_iff_iff,agrN_iff r,agrN_iff r]
 constructor
 ·rintro⟨t,ht,q⟩;exact⟨t,ht,fun j hj hc=>q j hj (by rw[h j hj];exact hc)⟩
 ·rintro⟨t,ht,q⟩;exact⟨t,ht,fun j hj hc=>q j hj (by rw[←h j hj];exact hc)⟩
theorem agrS_eq {a:At}(r:Zl a)(s:Int):agrS (Vn a) s=agrN a (ZV s):=by
 have rl:=r.lens
 rw[Bool.eq_iff_iff,agrN_iff r]
 unfold agrS Vn
 rw[List.any_eq_true]
 constructor
 ·rintro⟨m,hm,h⟩
  rw[ddu_mem,List.mem_map] at hm
  obtain⟨t,ht,rfl⟩:=hm
  refine⟨t,ht,fun j hj hc=>?_⟩
  have:=V2.1 (of_decide_eq_true h) j ycb
  unfold Xo Vo at this
  rw[V4,hc] at this
  simpa[hj] using this
 ·rintro⟨t,ht,h⟩
  refine⟨Xo a t,ddu_mem.2 (List.mem_map.2 ⟨t,ht,rfl⟩),decide_eq_true (V2.2 fun j hj=>?_)⟩
  unfold Xo Vo
  rw[V4]
  by_cases hw:j<a.rds.length
  ·cases hc:ZV s j
   ·simp
   ·simp[h j hw hc]
  ·simp[hw]
theorem lstF_bits {s:Int}{W i:Nat}(h:i<W):Wt (ZM W s 0) i=ZV s i:=by
 rw[Bool.eq_iff_iff,lstF_mem,←lst_bits,mem_lst]
 simp[h]
theorem clashP_bits {a:At}(r:Zl a)(s:Int):Xr a (ZM a.rds.length s 0)= !agrS (Vn a) s:=by
 have:Xr a (ZM a.rds.length s 0)= !agrN a (Wt (ZM a.rds.length s 0)):=by unfold Xr agrN;simp
 rw[this,agrS_eq r,agrN_congr r fun j hj=>lstF_bits hj]
theorem wrongP_bits {a:At}(r:Zl a){s:Int}(h0:0≤s)(h1:s<2^a.rds.length):Vt a (ZM a.rds.length s 0)=agrS (Vn a) (2^a.rds.length-1-s):=by
 have:Vt a (ZM a.rds.length s 0)=agrN a (fun i=> !Wt (ZM a.rds.length s 0) i):=rfl
 rw[this,agrS_eq r,agrN_congr r fun j hj=>?_]
 rw[lstF_bits hj,bitC_compl j _ s h0 h1 hj]
theorem clashO_none {a:At}(r:Zl a)(h:ZR a≠[]):VB a=none:=by
 unfold VB
 rcases Yl (Xr a) a.rds.length (a.rds.length+1) 0 rfl (fun d _ hl=>by omega) with⟨c,_,m⟩|⟨h1,_⟩
 ·exfalso
  have h3:=m.holds
  simp only[Xr,decide_eq_true_eq] at h3
  refine h ((noC r).2 fun runs y t=>(noN r).1 h3 runs y (tru_fewer (fun i hi _=>rfl) t))
 ·exact h1
def lisE (a:At)(l:List Int):Int:=if(l.all fun i=>inB i 0 ((a.rds.length:Int)-1))=false then 1 else if(WW l).length<l.length then 5 else 0
def lisS (a:At)(l:List Int):Int:=if lisE a l=0 then ZG (Wt l) 8 else 0
theorem agreeR_lis {a:At}(r:Zl a)(l:List Int):X8 a l=(if lisE a l≠0 then false else agrS (Vn a) (lisS a l),lisE a l):=by
 unfold X8
 rw[if_neg (by rw[Zz.2 r];simp)]
 have rl:=r.lens
 by_cases h1:(l.all fun i=>inB i 0 ((a.rds.length:Int)-1))=false
 ·have e:lisE a l=1:=if_pos h1
  rw[if_pos h1,e];rfl
 ·by_cases h2:(WW l).length<l.length
  ·have e:lisE a l=5:=by unfold lisE;rw[if_neg h1,if_pos h2]
   rw[if_neg h1,if_pos h2,e];rfl
  ·have e:lisE a l=0:=by unfold lisE;rw[if_neg h1,if_neg h2]
   have e2:lisS a l=ZG (Wt l) 8:=if_pos e
   rw[if_neg h1,if_neg h2,e,e2,agrS_eq r,if_neg ycl]
   refine Prod.ext ?_ rfl
   show agrN a (Wt l)=_
   exact agrN_congr r fun j hj=>by rw[V4];simp only[show j<8 by omega,decide_true,Bool.true_and]
theorem ris_dbl {l:List Int}{i:Nat}(hi:i<l.length)(h:l[i]∈l.take i):(WW l).length<l.length:=by
 have hn:(WW l).Nodup:=(risL_rise l).imp fun h e=>by subst e;exact absurd h (Int.lt_irrefl _)
 have h1:∀x∈WW l,x∈l.take i++l.drop (i+1):=fun x hx=>by
  have:=risL_mem.1 hx
  rw[←List.take_append_drop i l,List.drop_eq_getElem_cons hi,List.mem_append,List.mem_cons] at this
  rw[List.mem_append]
  rcases this with q|rfl|q
  ·exact .inl q
  ·exact .inl h
  ·exact .inr q
 have:=nodup_len hn h1
 rw[List.length_append,List.length_take,List.length_drop] at this
 omega
theorem ris_take {l:List Int}(h:∀i (hi:i<l.length),l[i] ∉l.take i):¬(WW l).length<l.length:=by
 refine ris_nodup (List.pairwise_iff_getElem.2 fun i j hi hj hij e=>h j hj ?_)
 rw[←e]
 exact List.mem_iff_getElem.2 ⟨i,by rw[List.length_take];omega,by rw[List.getElem_take]⟩
end Go.Ab.Tryz
namespace Go.Ab.Tryz
open Go.Proofs
theorem evL {a:At}(r:Zl a){e:Nat}(h:(e:Int)<a.evs∨e=4):e<5:=by
 have:=r.evs
 omega
theorem time_of {a:At}(r:Zl a){runs:ZZ}{y:Nat→Int}{cnt:Nat→Bool}(t:Tru a cnt runs y){e:Nat}(he:(e:Int)<a.evs∨e=4):Zr (ttOf a runs y).2.2 e=y e:=by
 rcases he with he|rfl
 ·exact ttOf_time he
 ·have l:=(ttOf_len r t).2.2
  have:=r.evs
  rw[time_far ycb,t.beg]
theorem fit_ne {a:At}(r:Zl a)(hne:ZR a≠[]):Yf a≠[]:=fun h=>hne ((fitT_nil r).1 h)
theorem wide_betw {a:At}(r:Zl a)(hne:ZR a≠[]){f t:Nat}(hf:(f:Int)<a.evs∨f=4)(ht:(t:Int)<a.evs∨t=4):ZX ((Yf a).map fun x=>Zr x.2.2 t-Zr x.2.2 f)=Xe f t (allM a):=by
 have f5:=evL r hf
 have t5:=evL r ht
 obtain⟨R1,y1,h1,e1⟩:=betw_lo r hne f5 t5
 obtain⟨R2,y2,h2,e2⟩:=betw_hi r hne f5 t5
 refine wideL_eq (List.mem_map.2 ⟨_,VF r h1,?_⟩) (List.mem_map.2 ⟨_,VF r h2,?_⟩) fun x hx=>?_
 ·rw[time_of r h1 hf,time_of r h1 ht];exact e1
 ·rw[time_of r h2 hf,time_of r h2 ht];exact e2
 ·obtain⟨u,hu,rfl⟩:=List.mem_map.1 hx
  exact(betw_tru r ((fitT_mem r).1 hu).2 f5 t5).2
theorem wide_time {a:At}(r:Zl a)(hne:ZR a≠[]){e:Nat}(he:(e:Int)<a.evs):ZX ((Yf a).map fun x=>Zr x.2.2 e)=Xe 4 e (allM a):=by
 rw[←wide_betw r hne (f:=4) (.inr rfl) (.inl he)]
 congr 1
 refine List.map_congr_left fun u hu=>?_
 have l:=((fitT_mem r).1 hu).1.2.2
 have:=r.evs
 rw[time_far ycb];omega
def befT (l:List TT)(f t:Nat):Int:=if l.countP (fun x=>decide (Zr x.2.2 f<Zr x.2.2 t))=l.length then 1 else if l.countP (fun x=>decide (Zr x.2.2 f<Zr x.2.2 t))=0 then 2 else 0
theorem bef_betw {a:At}(r:Zl a)(hne:ZR a≠[]){f t:Nat}(hf:(f:Int)<a.evs)(ht:(t:Int)<a.evs):befT (Yf a) f t=if 0<(Xe f t (allM a)).1 then 1 else if(Xe f t (allM a)).2≤0 then 2 else 0:=by
 have hw:=wide_betw r hne (f:=f) (t:=t) (.inl hf) (.inl ht)
 have hn:(Yf a).map (fun x=>Zr x.2.2 t-Zr x.2.2 f)≠[]:=fun h=>fit_ne r hne (List.map_eq_nil_iff.1 h)
 obtain⟨k1,k2,k3⟩:=wideL_spec hn
 rw[hw] at k1 k2 k3
 obtain⟨u1,m1,e1⟩:=List.mem_map.1 k1
 obtain⟨u2,m2,e2⟩:=List.mem_map.1 k2
 have k3':∀u∈Yf a,(Xe f t (allM a)).1≤Zr u.2.2 t-Zr u.2.2 f∧Zr u.2.2 t-Zr u.2.2 f≤(Xe f t (allM a)).2:=fun u hu=>k3 _ (List.mem_map.2 ⟨u,hu,rfl⟩)
 unfold befT
 have c1:(Yf a).countP (fun x=>decide (Zr x.2.2 f<Zr x.2.2 t))=(Yf a).length↔0<(Xe f t (allM a)).1:=by
  rw[List.countP_eq_length]
  simp only[decide_eq_true_eq]
  constructor
  ·intro h;have:=h _ m1;omega
  ·intro h u hu;have:=k3' u hu;omega
 have c2:(Yf a).countP (fun x=>decide (Zr x.2.2 f<Zr x.2.2 t))=0↔(Xe f t (allM a)).2≤0:=by
  rw[List.countP_eq_zero]
  simp only[decide_eq_true_eq]
  constructor
  ·intro h;have:=h _ m2;omega
  ·intro h u hu;have:=k3' u hu;omega
 simp only[c1,c2]
theorem wideL_map {α:Type}{l:List α}(h:l≠[]){f:α→Int}{g:Int→Int}(hg:∀x y,x≤y→g x≤g y):ZX (l.map fun u=>g (f u))=(g (ZX (l.map f)).1,g (ZX (l.map f)).2):=by
 have hn:l.map f≠[]:=fun e=>h (List.map_eq_nil_iff.1 e)
 obtain⟨k1,k2,k3⟩:=wideL_spec hn
 obtain⟨u1,m1,e1⟩:=List.mem_map.1 k1
 obtain⟨u2,m2,e2⟩:=List.mem_map.1 k2
 refine wideL_eq (List.mem_map.2 ⟨u1,m1,by rw[e1]⟩) (List.mem_map.2 ⟨u2,m2,by rw[e2]⟩) fun x hx=>?_
 obtain⟨u,hu,rfl⟩:=List.mem_map.1 hx
 have:=k3 _ (List.mem_map.2 ⟨u,hu,rfl⟩)
 exact⟨hg _ _ this.1,hg _ _ this.2⟩
theorem wide_wage {a:At}(r:Zl a)(hne:ZR a≠[]){f t:Nat}(hf:(f:Int)<a.evs)(ht:(t:Int)<a.evs){pay:Int}(hp:0≤pay):ZX ((Yf a).map fun x=>VC (Zr x.2.2 t-Zr x.2.2 f) pay)=(VC (Xe f t (allM a)).1 pay,VC (Xe f t (allM a)).2 pay):=by
 rw[wideL_map (fit_ne r hne) (f:=fun x=>Zr x.2.2 t-Zr x.2.2 f) (g:=fun n=>VC n pay) (fun x y h=>wage_mono hp h),wide_betw r hne (.inl hf) (.inl ht)]
def setsN (l:List TT)(of:TT→Int)(i:Nat):List Int:=((List.range i).map fun n:Nat=>(n:Int)-60).filter fun n=>l.any fun t=>decide (of t=n)
def setsT (l:List TT)(of:TT→Int):List Int:=setsN l of 121
theorem setsT_mem {l:List TT}{of:TT→Int}{n:Int}:n∈setsT l of↔(-60≤n∧n≤60)∧∃t∈l,of t=n:=by
 unfold setsT setsN
 rw[List.mem_filter,List.mem_map,List.any_eq_true]
 simp only[decide_eq_true_eq,List.mem_range]
 refine and_congr_left fun _=>⟨?_,fun h=>⟨(n+60).toNat,by omega,by omega⟩⟩
 rintro⟨u,hu,rfl⟩
 omega
theorem setsT_rise (l:List TT)(of:TT→Int):(setsT l of).Pairwise (· < ·):=by
 unfold setsT setsN
 refine List.Pairwise.filter _ (List.pairwise_map.2 (List.pairwise_lt_range.imp fun h=>?_))
 omega
theorem fit_run {a:At}(r:Zl a){u:TT}(hu:u∈Yf a){k:Nat}(hk:k<a.cks.length):TruA a (u.1.zip u.2.1) (Zr u.2.2)∧(u.1.zip u.2.1)[k]? =some (u.1.getD k 0,u.2.1.getD k 0):=by
 obtain⟨⟨l1,l2,l3⟩,t⟩:=(fitT_mem r).1 hu
 refine⟨t,?_⟩
 rw[Wa,getD_at ycb,getD_at ycb]
 exact⟨List.getElem?_eq_getElem ycb,List.getElem?_eq_getElem ycb⟩
theorem getD_map {runs:ZZ}{k:Nat}{s:Int × Int}(h:runs[k]? =some s):(runs.map Prod.fst).getD k 0=s.1∧(runs.map Prod.snd).getD k 0=s.2:=by
 rw[List.getD_eq_getElem?_getD,List.getD_eq_getElem?_getD,List.getElem?_map,List.getElem?_map,h];exact⟨rfl,rfl⟩
theorem sets_eq {a:At}(r:Zl a){k:Nat}(hk:k<a.cks.length):setsT (Yf a) (fun t=>t.1.getD k 0)=setL a k Prod.fst∧setsT (Yf a) (fun t=>t.2.1.getD k 0)=setL a k Prod.snd:=by
 constructor<;>
 ·refine rise_eq (setsT_rise _ _) (setL_rise ..) fun n=>?_
  rw[setsT_mem,setL_mem r hk]
  constructor
  ·rintro⟨_,u,hu,e⟩
   obtain⟨t,hs⟩:=fit_run r hu hk
   exact⟨_,_,_,t,hs,e⟩
  ·rintro⟨runs,y,s,t,hs,e⟩
   obtain⟨q1,q2,q3,q4⟩:=(t.run k s hs).run r
   have g:=getD_map hs
   refine⟨by omega,ttOf a runs y,VF r t,?_⟩
   first|exact g.1.trans e|exact g.2.trans e
theorem wide_sho {a:At}(r:Zl a)(hne:ZR a≠[]){k e:Nat}(hk:k<a.cks.length)(he:(e:Int)<a.evs):ZX ((Yf a).map fun t=>shw (t.1.getD k 0) (t.2.1.getD k 0) (Zr t.2.2 e))=(shoLo a k e,shoHi a k e):=by
 have e4:e<4:=by have:=r.evs;omega
 obtain⟨⟨R1,y1,s1,h1,q1,e1⟩,R2,y2,s2,h2,q2,e2⟩:=sho_ex r hne hk e4
 have g1:=getD_map q1
 have g2:=getD_map q2
 refine wideL_eq (List.mem_map.2 ⟨_,VF r h1,?_⟩) (List.mem_map.2 ⟨_,VF r h2,?_⟩) fun x hx=>?_
 ·rw[time_of r h1 (.inl he),←e1]
  show shw ((R1.map Prod.fst).getD k 0) ((R1.map Prod.snd).getD k 0) _=_
  rw[g1.1,g1.2]
 ·rw[time_of r h2 (.inl he),←e2]
  show shw ((R2.map Prod.fst).getD k 0) ((R2.map Prod.snd).getD k 0) _=_
  rw[g2.1,g2.2]
 ·obtain⟨u,hu,rfl⟩:=List.mem_map.1 hx
  obtain⟨t,hs⟩:=fit_run r hu hk
  exact sho_tru r hk e4 t hs
end Go.Ab.Tryz
