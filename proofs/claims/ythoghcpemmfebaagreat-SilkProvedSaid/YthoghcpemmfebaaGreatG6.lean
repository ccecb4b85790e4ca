/- The sort of integers in place; slices.Compact, with what it leaves. Proofs of a clash: the plain part. Proofs of a clash: added, most, fewest. Proofs of a clash: Prove, and Above, apart of the reference. A proof that holds shows that no weights fit (plain). Which weighings agree: Contains, agree, Agree, Listed. -/
import Derived.Test.YthoghcpemmfebaaGreatAcA
import Derived.Test.YthoghcpemmfebaaGreatG5
import Derived.Test.YthoghcpemmfebaaGreatGP
set_option linter.unusedSimpArgs false
set_option linter.unusedVariables false
namespace Go.Ab.Tryz
open Go.Ab.Silk
section
variable {n:Nat} {frm:Int→Int} {parts:Int→List Int}
theorem anc_trans {w a b:Int}(h:Anc frm w a)(k:Anc frm a b):Anc frm w b:=by
 induction k with
 |self=>exact h
 |up _ h0 ih=>exact .up ih h0
theorem anc_chain {w a b:Int}(h:Anc frm w a)(k:Anc frm w b):Anc frm a b∨Anc frm b a:=by
 induction h with
 |self=>exact .inl k
 |up _ h0 ih=>
  rcases ih with ih|ih
  ·rcases ih.down with e|⟨_,e⟩
   ·subst e;exact .inr (.up .self h0)
   ·exact .inl e
  ·exact .inr (.up ih h0)
end
theorem mem_line {m:Ml}(g:Good m){j k:Int}(j0:0≤j)(j1:j<m.lots.length):k∈line m j↔Anc (frmAt m) j k:=by
 have:∀(f:Nat) (j:Int),j<f→0≤j→j<m.lots.length→(k∈line m j↔Anc (frmAt m) j k):=by
  intro f
  induction f with
  |zero=>intro j h1 h2;omega
  |succ f ih=>
   intro j hj j0 j1
   have hf:=frmAt_lt g j0 j1
   rw[line_cons g j0 j1,List.mem_cons]
   by_cases h:frmAt m j<0
   ·rw[line_neg m h]
    constructor
    ·rintro(rfl|h')
     ·exact .self
     ·simp at h'
    ·intro a
     rcases a.down with e|⟨e,_⟩
     ·exact .inl e
     ·omega
   ·rw[ih _ (by omega) (by omega) (by omega)]
    constructor
    ·rintro(rfl|h')
     ·exact .self
     ·exact .of_up (by omega) h'
    ·intro a
     rcases a.down with e|⟨_,e⟩
     ·exact .inl e
     ·exact .inr e
 exact this m.lots.length j j1 j0 j1
def wl (m:Ml)(a:Int):Int:=if h:a.toNat<m.wgs.length then m.wgs[a.toNat].lot else 0
def wLo (m:Ml)(a:Int):Int:=if h:a.toNat<m.wgs.length then sayLo m m.wgs[a.toNat] else 0
def wHi (m:Ml)(a:Int):Int:=if h:a.toNat<m.wgs.length then sayHi m m.wgs[a.toNat] else 0
section
variable {m:Ml}
theorem wl_at {i:Nat}(h:i<m.wgs.length):wl m (i:Int)=m.wgs[i].lot:=by unfold wl;simp[h]
theorem wLo_at {i:Nat}(h:i<m.wgs.length):wLo m (i:Int)=sayLo m m.wgs[i]:=by unfold wLo;simp[h]
theorem wHi_at {i:Nat}(h:i<m.wgs.length):wHi m (i:Int)=sayHi m m.wgs[i]:=by unfold wHi;simp[h]
theorem wl_in (g:Good m){a:Int}(a0:0≤a)(a1:a<m.wgs.length):0≤wl m a∧wl m a<m.lots.length:=by
 obtain⟨i,rfl⟩:=Int.eq_ofNat_of_zero_le a0
 have hi:i<m.wgs.length:=by omega
 have:=g.lot _ (List.getElem_mem hi)
 rw[wl_at hi];omega
def Apart (m:Ml)(a b:Int):Prop:=¬Anc (frmAt m) (wl m a) (wl m b)∧¬Anc (frmAt m) (wl m b) (wl m a)
structure Br (m:Ml)(lot:Int)(l:List Int):Prop where
 inw:∀a∈l,0≤a∧a<m.wgs.length
 br:∀a∈l,Anc (frmAt m) (wl m a) lot
 ap:l.Pairwise (Apart m)
theorem Br.nil {lot:Int}:Br m lot []:=⟨by simp,by simp,by simp⟩
theorem Br.single {lot:Int}{i:Nat}(h:i<m.wgs.length)(e:wl m (i:Int)=lot):Br m lot [(i:Int)]:=
 ⟨fun a ha=>by rw[List.mem_singleton] at ha;subst ha;omega,fun a ha=>by rw[List.mem_singleton] at ha;subst ha;rw[e];exact .self,by simp⟩
abbrev Sm:=Int × List Int
def addL:List Sm→Sm
 |[]=>(0,[])
 |s::l=>(s.1+(addL l).1,s.2++(addL l).2)
theorem addL_snoc (s:Sm):∀l:List Sm,addL (l++[s])=((addL l).1+s.1,(addL l).2++s.2)
 |[]=>by simp[addL]
 |a::l=>by
  have ih:=addL_snoc s l
  simp only[List.cons_append,addL,ih,List.append_assoc]
  rw[Int.add_assoc]
theorem addL_sum (f:Int→Sm):∀l:List Int,(addL (l.map f)).1=sumL (fun p=>(f p).1) l
 |[]=>rfl
 |a::l=>by simp only[List.map_cons,addL,sumL,addL_sum f l]
theorem addL_mem (f:Int→Sm){a:Int}:∀{l:List Int},a∈(addL (l.map f)).2↔∃p∈l,a∈(f p).2
 |[]=>by simp[addL]
 |b::l=>by
  simp only[List.map_cons,addL,List.mem_append,addL_mem f (l:=l)]
  simp
theorem addL_of (x:Int→Int)(f:Int→Sm):∀{l:List Int},(∀p∈l,(f p).1=sumL x (f p).2)→(addL (l.map f)).1=sumL x (addL (l.map f)).2
 |[],_=>rfl
 |b::l,h=>by
  simp only[List.map_cons,addL]
  rw[sumL_append,addL_of x f (l:=l) fun p hp=>h p (by simp[hp]),h b (by simp)]
theorem add_br (g:Good m){lot:Int}(l0:0≤lot){f:Int→Sm}:∀{ps:List Int},ps.Nodup→(∀p∈ps,frmAt m p=lot∧Br m p (f p).2)→Br m lot (addL (ps.map f)).2
 |[],_,_=>Br.nil
 |p::ps,hn,h=>by
  rw[List.nodup_cons] at hn
  have ih:=add_br g l0 (f:=f) (ps:=ps) hn.2 fun q hq=>h q (by simp[hq])
  obtain⟨e,b⟩:=h p (by simp)
  simp only[List.map_cons,addL]
  refine⟨fun a ha=>?_,fun a ha=>?_,?_⟩
  ·rw[List.mem_append] at ha
   rcases ha with ha|ha
   ·exact b.inw a ha
   ·exact ih.inw a ha
  ·rw[List.mem_append] at ha
   rcases ha with ha|ha
   ·have:=b.br a ha
    rw[←e];exact .up this (by omega)
   ·exact ih.br a ha
  ·rw[List.pairwise_append]
   refine⟨b.ap,ih.ap,fun a ha c hc=>?_⟩
   obtain⟨q,hq,hcq⟩:=(addL_mem f).1 hc
   obtain⟨e',b'⟩:=h q (by simp[hq])
   have hpq:p≠q:=fun h=>hn.1 (h▸hq)
   have wa:=wl_in g (b.inw a ha).1 (b.inw a ha).2
   have wc:=wl_in g (b'.inw c hcq).1 (b'.inw c hcq).2
   have F:=forest g
   exact⟨fun k=>hpq (Anc.one F wa.1 wa.2 (b.br a ha) (anc_trans k (b'.br c hcq)) (by rw[e,e'])),fun k=>hpq (Anc.one F wc.1 wc.2 (anc_trans k (b.br a ha)) (b'.br c hcq) (by rw[e,e']))⟩
def mostW (m:Ml)(lot:Int):Nat→Sm→Sm
 |0,s=>s
 |j+1,s=>if wl m (j:Int)=lot∧(mostW m lot j s).1<wLo m (j:Int) then(wLo m (j:Int),[(j:Int)]) else mostW m lot j s
def mostF (m:Ml):Nat→Int→Sm
 |0,_=>(0,[])
 |k+1,i=>mostW m i m.wgs.length (addL ((parts m i).map (mostF m k)))
theorem mostF_any (g:Good m):∀(k j:Nat) (i:Int),0≤i→i<m.lots.length→(m.lots.length:Int)-i≤k→(m.lots.length:Int)-i≤j→mostF m k i=mostF m j i
 |0,_,i,h0,h1,h,_=>by omega
 |_+1,0,i,h0,h1,_,h=>by omega
 |k+1,j+1,i,h0,h1,h2,h3=>by
  simp only[mostF]
  rw[List.map_congr_left (g:=mostF m j) fun p hp=>by
   obtain⟨p0,p1,pf⟩:=((forest g).mem _ _).1 hp
   have:=(forest g).lt p p0 p1
   exact mostF_any g k j p p0 p1 (by omega) (by omega)]
def mostP (m:Ml):Int→Sm:=mostF m m.lots.length
theorem mostP_eq (g:Good m){i:Int}(i0:0≤i)(i1:i<m.lots.length):mostP m i=mostW m i m.wgs.length (addL ((parts m i).map (mostP m))):=by
 have e:=mostF_any g m.lots.length (m.lots.length+1) i i0 i1 (by omega) (by omega)
 unfold mostP
 rw[e];rfl
theorem own_step {lot:Int}{j:Nat}(hj:j<m.wgs.length):ownK m allC lot (j+1)=if wl m (j:Int)=lot then(max (ownK m allC lot j).1 (wLo m (j:Int)),min (ownK m allC lot j).2 (wHi m (j:Int))) else ownK m allC lot j:=by
 rw[wl_at hj,wLo_at hj,wHi_at hj]
 by_cases h:m.wgs[j].lot=lot
 ·rw[if_pos h,ownK_hit hj rfl h]
 ·rw[if_neg h,ownK_miss hj (.inr h)]
theorem mostW_val {lot:Int}{s:Sm}(h0:0≤s.1):∀j,j≤m.wgs.length→(mostW m lot j s).1=max s.1 (ownK m allC lot j).1
 |0,_=>by simp only[mostW,ownK];omega
 |j+1,h=>by
  have ih:=mostW_val (lot:=lot) h0 j (by omega)
  rw[own_step (by omega)]
  simp only[mostW]
  by_cases e:wl m (j:Int)=lot
  ·by_cases c:(mostW m lot j s).1<wLo m (j:Int)
   ·rw[if_pos ⟨e,c⟩,if_pos e];simp only;omega
   ·rw[if_neg (fun h=>c h.2),if_pos e];simp only;omega
  ·rw[if_neg (fun h=>e h.1),if_neg e];exact ih
theorem mostW_br {lot:Int}{s:Sm}(hb:Br m lot s.2)(hs:s.1=sumL (wLo m) s.2):∀j,j≤m.wgs.length→Br m lot (mostW m lot j s).2∧(mostW m lot j s).1=sumL (wLo m) (mostW m lot j s).2
 |0,_=>⟨hb,hs⟩
 |j+1,h=>by
  simp only[mostW]
  by_cases c:wl m (j:Int)=lot∧(mostW m lot j s).1<wLo m (j:Int)
  ·rw[if_pos c]
   exact⟨Br.single (by omega) c.1,by simp[sumL]⟩
  ·rw[if_neg c];exact mostW_br hb hs j (by omega)
theorem most_ok (g:Good m):∀i:Int,0≤i→i<m.lots.length→(mostP m i).1=(Um m allC i).1∧(mostP m i).1=sumL (wLo m) (mostP m i).2∧Br m i (mostP m i).2:=by
 have F:=forest g
 refine up_ind F fun i i0 i1 ih=>?_
 have hpm:∀p∈parts m i,0≤p∧p<m.lots.length∧frmAt m p=i:=fun p hp=>(F.mem _ _).1 hp
 have hsum:(addL ((parts m i).map (mostP m))).1=sumL (lo1 (Um m allC)) (parts m i):=by
  rw[addL_sum];exact sumL_congr fun p hp=>(ih p hp).1
 have hnn:0≤(addL ((parts m i).map (mostP m))).1:=by
  rw[hsum]
  exact sumL_nonneg fun p hp=>(Um_bd g allC (hpm p hp).1 (hpm p hp).2.1).1
 have hv:=mostW_val (m:=m) (lot:=i) hnn m.wgs.length (Nat.le_refl _)
 have hb:=mostW_br (m:=m) (lot:=i) (add_br g i0 (F.nodup i) fun p hp=>⟨(hpm p hp).2.2,(ih p hp).2.2⟩) (addL_of (wLo m) _ fun p hp=>(ih p hp).2.1) m.wgs.length (Nat.le_refl _)
 rw[mostP_eq g i0 i1]
 refine⟨?_,hb.2,hb.1⟩
 have hown:=ownB_at (c:=allC) i0 i1
 have hbd:=ownB_bd g allC i
 rw[hv,←hown]
 by_cases hp:parts m i=[]
 ·have hU:Um m allC i=ownB m allC i:=Uo_leaf F _ i0 i1 hp
  rw[hU,hp];simp only[List.map_nil,addL];omega
 ·have hU:Um m allC i=(max (ownB m allC i).1 (sumL (lo1 (Um m allC)) (parts m i)),min (ownB m allC i).2 (sumL (hi1 (Um m allC)) (parts m i))):=Uo_node F (ownB m allC) i0 i1 hp
  rw[hsum,hU];simp only;omega
def fewW (m:Ml)(lot:Int):Nat→Sm→Sm
 |0,s=>s
 |j+1,s=>if wl m (j:Int)=lot∧wHi m (j:Int)<(fewW m lot j s).1 then(wHi m (j:Int),[(j:Int)]) else fewW m lot j s
def few0 (l:List Sm):Sm:=if l≠[]∧(∀s∈l,s.2≠[])∧(addL l).1<10000 then addL l else(10000,[])
def fewF (m:Ml):Nat→Int→Sm
 |0,_=>(0,[])
 |k+1,i=>fewW m i m.wgs.length (few0 ((parts m i).map (fewF m k)))
theorem fewF_any (g:Good m):∀(k j:Nat) (i:Int),0≤i→i<m.lots.length→(m.lots.length:Int)-i≤k→(m.lots.length:Int)-i≤j→fewF m k i=fewF m j i
 |0,_,i,h0,h1,h,_=>by omega
 |_+1,0,i,h0,h1,_,h=>by omega
 |k+1,j+1,i,h0,h1,h2,h3=>by
  simp only[fewF]
  rw[List.map_congr_left (g:=fewF m j) fun p hp=>by
   obtain⟨p0,p1,pf⟩:=((forest g).mem _ _).1 hp
   have:=(forest g).lt p p0 p1
   exact fewF_any g k j p p0 p1 (by omega) (by omega)]
def fewP (m:Ml):Int→Sm:=fewF m m.lots.length
theorem fewP_eq (g:Good m){i:Int}(i0:0≤i)(i1:i<m.lots.length):fewP m i=fewW m i m.wgs.length (few0 ((parts m i).map (fewP m))):=by
 have e:=fewF_any g m.lots.length (m.lots.length+1) i i0 i1 (by omega) (by omega)
 unfold fewP
 rw[e];rfl
theorem fewW_val {lot:Int}{s:Sm}(h0:s.1≤10000):∀j,j≤m.wgs.length→(fewW m lot j s).1=min s.1 (ownK m allC lot j).2
 |0,_=>by simp only[fewW,ownK];omega
 |j+1,h=>by
  have ih:=fewW_val (lot:=lot) h0 j (by omega)
  rw[own_step (by omega)]
  simp only[fewW]
  by_cases e:wl m (j:Int)=lot
  ·by_cases c:wHi m (j:Int)<(fewW m lot j s).1
   ·rw[if_pos ⟨e,c⟩,if_pos e];simp only;omega
   ·rw[if_neg (fun h=>c h.2),if_pos e];simp only;omega
  ·rw[if_neg (fun h=>e h.1),if_neg e];exact ih
structure Few (m:Ml)(lot:Int)(s:Sm):Prop where
 br:Br m lot s.2
 none:s.2=[]→s.1=10000
 sum:s.2≠[]→s.1=sumL (wHi m) s.2
 all:s.2≠[]→∀w:Int,0≤w→w<m.lots.length→parts m w=[]→Anc (frmAt m) w lot→∃a∈s.2,Anc (frmAt m) w (wl m a)
theorem Few.nil {lot:Int}:Few m lot (10000,[]):=⟨Br.nil,fun _=>rfl,fun h=>absurd rfl h,fun h=>absurd rfl h⟩
theorem Few.single {lot:Int}{i:Nat}(h:i<m.wgs.length)(e:wl m (i:Int)=lot):Few m lot (wHi m (i:Int),[(i:Int)]):=
 ⟨Br.single h e,fun h=>by simp at h,fun _=>by simp[sumL],fun _ w _ _ _ a=>⟨(i:Int),by simp,by rw[e];exact a⟩⟩
theorem fewW_few {lot:Int}{s:Sm}(hb:Few m lot s):∀j,j≤m.wgs.length→Few m lot (fewW m lot j s)
 |0,_=>hb
 |j+1,h=>by
  simp only[fewW]
  by_cases c:wl m (j:Int)=lot∧wHi m (j:Int)<(fewW m lot j s).1
  ·rw[if_pos c]
   exact Few.single (by omega) c.1
  ·rw[if_neg c];exact fewW_few hb j (by omega)
theorem sumL_ge {x:Int→Int}{p:Int}{l:List Int}(h:∀p∈l,0≤x p)(hp:p∈l):x p≤sumL x l:=by
 induction l with
 |nil=>simp at hp
 |cons a l ih=>
  have h0:=h a (by simp)
  have h1:=sumL_nonneg (x:=x) (l:=l) fun p hp=>h p (by simp[hp])
  simp only[sumL]
  rcases List.mem_cons.1 hp with rfl|hp
  ·omega
  ·have:=ih (fun p hp=>h p (by simp[hp])) hp;omega
theorem few_ok (g:Good m):∀i:Int,0≤i→i<m.lots.length→(fewP m i).1=(Um m allC i).2∧0≤(fewP m i).1∧Few m i (fewP m i):=by
 have F:=forest g
 refine up_ind F fun i i0 i1 ih=>?_
 have hpm:∀p∈parts m i,0≤p∧p<m.lots.length∧frmAt m p=i:=fun p hp=>(F.mem _ _).1 hp
 have hsum:(addL ((parts m i).map (fewP m))).1=sumL (hi1 (Um m allC)) (parts m i):=by
  rw[addL_sum];exact sumL_congr fun p hp=>(ih p hp).1
 have hnn:∀p∈parts m i,0≤hi1 (Um m allC) p:=fun p hp=>by have:=ih p hp;simp only[hi1];omega
 have hown:=ownB_at (c:=allC) i0 i1
 have hbd:=ownB_bd g allC i
 have hbk:=ownK_bd g allC i m.wgs.length
 have h0:(few0 ((parts m i).map (fewP m))).1≤10000∧0≤(few0 ((parts m i).map (fewP m))).1∧Few m i (few0 ((parts m i).map (fewP m)))∧(min (few0 ((parts m i).map (fewP m))).1 (ownB m allC i).2=(Um m allC i).2):=by
  by_cases hp:parts m i=[]
  ·have hU:Um m allC i=ownB m allC i:=Uo_leaf F _ i0 i1 hp
   rw[hU,hp]
   simp only[List.map_nil,few0,ne_eq,not_true_eq_false,false_and,if_false]
   exact⟨by omega,by omega,Few.nil,by omega⟩
  ·have hU:Um m allC i=(max (ownB m allC i).1 (sumL (lo1 (Um m allC)) (parts m i)),min (ownB m allC i).2 (sumL (hi1 (Um m allC)) (parts m i))):=Uo_node F (ownB m allC) i0 i1 hp
   have hs0:=sumL_nonneg hnn
   by_cases c:(parts m i).map (fewP m)≠[]∧(∀s∈(parts m i).map (fewP m),s.2≠[])∧(addL ((parts m i).map (fewP m))).1<10000
   ·unfold few0
    rw[if_pos c,hsum,hU]
    have hall:∀p∈parts m i,(fewP m p).2≠[]:=fun p hp=>c.2.1 _ (List.mem_map.2 ⟨p,hp,rfl⟩)
    have c3:=c.2.2
    rw[hsum] at c3
    refine⟨by omega,hs0,⟨add_br g i0 (F.nodup i) fun p hp=>⟨(hpm p hp).2.2,(ih p hp).2.2.br⟩,fun h=>?_,fun _=>addL_of (wHi m) _ fun p hp=>(ih p hp).2.2.sum (hall p hp),fun _ w w0 w1 hw ha=>?_⟩,by simp only;omega⟩
    ·obtain⟨p,hp'⟩:=List.exists_mem_of_ne_nil _ hp
     obtain⟨a,ha⟩:=List.exists_mem_of_ne_nil _ (hall p hp')
     have:a∈(addL ((parts m i).map (fewP m))).2:=(addL_mem _).2 ⟨p,hp',ha⟩
     rw[h] at this;simp at this
    ·have hwi:∃p∈parts m i,Anc (frmAt m) w p:=by
      cases ha with
      |self=>exact absurd hw hp
      | @up k hk h0=>
       have hl:=hk.le F w0 w1
       exact⟨k,(F.mem _ _).2 ⟨hl.1,by omega,rfl⟩,hk⟩
     obtain⟨p,hp',hwp⟩:=hwi
     obtain⟨a,ha1,ha2⟩:=(ih p hp').2.2.all (hall p hp') w w0 w1 hw hwp
     exact⟨a,(addL_mem _).2 ⟨p,hp',ha1⟩,ha2⟩
   ·unfold few0
    rw[if_neg c,hU]
    refine⟨by simp,by simp,Few.nil,?_⟩
    have hge:10000≤sumL (hi1 (Um m allC)) (parts m i):=by
     by_cases k:∀s∈(parts m i).map (fewP m),s.2≠[]
     ·have:¬(addL ((parts m i).map (fewP m))).1<10000:=fun h=>c ⟨by simpa using hp,k,h⟩
      rw[hsum] at this;omega
     ·obtain⟨p,hp',hs⟩:∃p∈parts m i,(fewP m p).2=[]:=Classical.byContradiction fun hno=>k fun s hs=>by
       obtain⟨p,hp',rfl⟩:=List.mem_map.1 hs
       exact fun e=>hno ⟨p,hp',e⟩
      have h1:=(ih p hp').2.2.none hs
      have h2:=(ih p hp').1
      have h3:=sumL_ge hnn hp'
      simp only[hi1] at h3
      have e:sumL (hi1 (Um m allC)) (parts m i)=sumL (fun p=>(Um m allC p).2) (parts m i):=rfl
      rw[e];omega
    simp only;omega
 have hv:=fewW_val (m:=m) (lot:=i) h0.1 m.wgs.length (Nat.le_refl _)
 rw[fewP_eq g i0 i1]
 refine⟨by rw[hv,←hown];exact h0.2.2.2,by rw[hv];omega,fewW_few h0.2.2.1 _ (Nat.le_refl _)⟩
theorem nodup_len:∀(k:Nat) {l:List Int},l.Nodup→(∀a∈l,0≤a∧a<k)→l.length≤k
 |0,l,_,h=>by
  cases l with
  |nil=>simp
  |cons a l=>have:=h a (by simp);omega
 |k+1,l,hn,h=>by
  have ih:=nodup_len k (l:=l.erase (k:Int)) (hn.erase _) fun a ha=>by
   rw[hn.mem_erase_iff] at ha
   have:=h a ha.2
   have:=ha.1
   omega
  have:=List.length_erase (a:=(k:Int)) (l:=l)
  split at this<;>omega
theorem Br.len {lot:Int}{l:List Int}(b:Br m lot l):l.length≤m.wgs.length:=by
 refine nodup_len _ ?_ b.inw
 have:=b.ap
 unfold List.Nodup
 exact this.imp fun h e=>by subst e;exact h.1 .self
def Cover (m:Ml)(lot:Int)(high:List Int):Prop:=high=[]∨∀w:Int,0≤w→w<m.lots.length→parts m w=[]→Anc (frmAt m) w lot→∃a∈high,Anc (frmAt m) w (wl m a)
def Within (m:Ml)(lot:Int)(l:List Int):Prop:=∀a∈l,Anc (frmAt m) (wl m a) lot
def InW (m:Ml)(l:List Int):Prop:=∀a∈l,0≤a∧a<m.wgs.length
def sumLow (m:Ml)(low:List Int):Int:=sumL (wLo m) low
def sumHigh (m:Ml)(high:List Int):Int:=if high=[] then 10000 else sumL (wHi m) high
def Proof (m:Ml)(lot:Int)(low high:List Int):Prop:=(Within m lot low∧Within m lot high)∧(low.Pairwise (Apart m)∧high.Pairwise (Apart m))∧Cover m lot high
def ProofR (m:Ml)(lot:Int)(low high:List Int)(n e:Int):Prop:=
 (¬((0≤lot∧lot<m.lots.length)∧InW m low∧InW m high)∧n=0∧e=1)∨
 (((0≤lot∧lot<m.lots.length)∧InW m low∧InW m high)∧
  ((¬Proof m lot low high∧n=0∧e=8)∨(Proof m lot low high∧
   ((sumLow m low≤sumHigh m high∧n=0∧e=6)∨(sumHigh m high<sumLow m low∧n=sumLow m low-sumHigh m high∧e=0)))))
theorem found_holds (g:Good m){lot:Int}(l0:0≤lot)(l1:lot<m.lots.length)(h:(fewP m lot).1<(mostP m lot).1){n e:Int}(r:ProofR m lot (mostP m lot).2 (fewP m lot).2 n e):e=0∧1≤n:=by
 obtain⟨_,m2,m3⟩:=most_ok g lot l0 l1
 obtain⟨_,_,f⟩:=few_ok g lot l0 l1
 have hc:Cover m lot (fewP m lot).2:=by
  by_cases e:(fewP m lot).2=[]
  ·exact .inl e
  ·exact .inr (f.all e)
 have hp:Proof m lot (mostP m lot).2 (fewP m lot).2:=⟨⟨m3.br,f.br.br⟩,⟨m3.ap,f.br.ap⟩,hc⟩
 have hs:sumHigh m (fewP m lot).2=(fewP m lot).1:=by
  unfold sumHigh
  by_cases e:(fewP m lot).2=[]
  ·rw[if_pos e,f.none e]
  ·rw[if_neg e,f.sum e]
 have hl:sumLow m (mostP m lot).2=(mostP m lot).1:=m2.symm
 rcases r with⟨a,_⟩|⟨a,⟨b,_⟩|⟨b,⟨c,_⟩|⟨c,d1,d2⟩⟩⟩
 ·exact absurd ⟨⟨l0,l1⟩,m3.inw,f.br.inw⟩ a
 ·exact absurd hp b
 ·omega
 ·omega
end
end Go.Ab.Tryz
namespace Go.Ab
theorem OwnSl.appn {h0 h:H}{x y:V}{sz by_:Nat}{rows new:List (List V)}{Q:V→H→Prop}(a:OwnSl h0 h x sz rows)(hw0:h0.wf)(hsz:∀r∈new,r.length=sz)
  (he:elems h sz y=some new.flatten) (hl:lenV y=some new.length) (ho:allOne new.flatten=true) (h1:(rows.length+new.length)*by_≤1099511627776) (h2:rows.length+new.length≤1099511627776)
  (q:∀x' h',OwnSl h0 h' x' sz (rows++new)→Keeps (blkOf x) h h'→h.next≤h'.next→Q x' h') (h00:0<sz:=by omega):P2 (e_app' h sz by_ x y) Q:=by
 by_cases hn:new=[]
 ·subst hn
  have q':=q x h (by rw[List.append_nil];exact a) (Keeps.refl _ _) (Nat.le_refl _)
  have e:e_app' h sz by_ x y=some (x,h):=by
   rw[e_app_eq,he,hl]
   simp only[ob_some,List.length_nil]
   rcases a.2.2 with⟨rfl,_⟩|⟨b,rfl,_,_,hb⟩
   ·rfl
   ·have hlen:=flatten_len a.2.1
    simp only[e_app,slkOk,hb]
    have e1:Nat.beq sz sz=true:=by simp
    have e2:Nat.beq 0 (0*sz)=true:=by simp
    have e3:Nat.ble (0+rows.length*sz) (lenN rows.flatten)=true:=by rw[lenN_eq,hlen];simp
    rw[e1];simp only
    rw[e2];simp only
    rw[e3];rfl
  rw[e,P2_some];exact q'
 ·exact a.app hw0 hn hsz he hl ho h1 h2 fun h' o k n=>q _ _ o k (by omega)
namespace Tryz
open Go.Ab.Silk
def encS (e:Sm × V):List V:=[.int .i64 e.1.1,e.2]
def SmsAt (h0 h:H)(l:List (Sm × V)):Prop:=∀e∈l,OwnC h0 h e.2 1 (e.1.2.map encI)
theorem SmsAt.mono {h0 h h':H}{l:List (Sm × V)}(a:SmsAt h0 h l)(hs:h.Sub h'):SmsAt h0 h' l:=fun e he=>(a e he).mono hs
theorem allOne_ints:∀l:List Int,allOne ((l.map encI).flatten)=true
 |[]=>rfl
 |a::l=>by simp only[List.map_cons,List.flatten_cons,encI,List.cons_append,List.nil_append];rw[allOne_cons,allOne_ints l];rfl
theorem addL_bd {C:Int}:∀{l:List Sm},(∀s∈l,0≤s.1∧s.1≤C)→0≤(addL l).1∧(addL l).1≤(l.length:Int)*C
 |[],_=>by simp[addL]
 |s::l,h=>by
  have ih:=addL_bd (C:=C) (l:=l) fun s hs=>h s (by simp[hs])
  have:=h s (by simp)
  simp only[addL,List.length_cons,Int.natCast_add]
  rw[Int.add_mul];omega
theorem addL_len {k:Nat}:∀{l:List Sm},(∀s∈l,s.2.length≤k)→(addL l).2.length≤l.length*k
 |[],_=>by simp[addL]
 |s::l,h=>by
  have ih:=addL_len (k:=k) (l:=l) fun s hs=>h s (by simp[hs])
  have:=h s (by simp)
  simp only[addL,List.length_append,List.length_cons]
  rw[Nat.add_mul];omega
theorem addL_take {l:List Sm}{j:Nat}(hj:j<l.length):addL (l.take (j+1))=((addL (l.take j)).1+l[j].1,(addL (l.take j)).2++l[j].2):=by
 rw[List.take_succ_eq_append_getElem hj,addL_snoc]
set_option maxHeartbeats 2000000 in
theorem added_ev {h hb0:H}{x:V}{l:List (Sm × V)}(hw:h.wf)(hx:SlAt h x 2 (l.map encS))(ha:SmsAt hb0 h l)(hl:l.length≤12)(hb:∀e∈l,0≤e.1.1∧e.1.1≤200000000000000000)(hn:∀e∈l,e.1.2.length≤10)(Q:V→H→Prop)
  (q:∀h' y,OwnSl h h' y 1 ((addL (l.map Prod.fst)).2.map encI)→Q (.agg [.int .i64 (addL (l.map Prod.fst)).1,y]) h'):Ev fnG fastA (.fn 95 [] []) [x] h Q:=by
 have hlen:=hx.lenE
 refine Ev_body (fd:=c95) rfl rfl rfl ?_
 have s2:h.Sub ((h.add (.cells .rw [.int .i64 0,.nils])).add (.cells .rw [.int .i64 0,.nils])):=(by repeat(first|assumption|exact H.Sub.refl (by assumption)|refine H.Sub.add ?_ _|refine H.Sub.set ?_ (by first|omega|(simp only[H.next_add,H.next_set,H.next_del]<;>omega)) (by first|omega|(simp only[H.next_add,H.next_set,H.next_del]<;>omega)) (by assumption) _))
 obtain⟨r,er⟩:∃r,l.map Prod.fst=r:=⟨_,rfl⟩
 have hr:r.length=l.length:=by rw[←er];simp
 have hri:∀j (hj:j<l.length),(r[j]'(by omega))=l[j].1:=fun j hj=>by subst er;simp
 have hb':∀s∈r,0≤s.1∧s.1≤200000000000000000:=fun s hs=>by
  rw[←er] at hs
  obtain⟨e,he,rfl⟩:=List.mem_map.1 hs
  exact hb e he
 have hn':∀s∈r,s.2.length≤10:=fun s hs=>by
  rw[←er] at hs
  obtain⟨e,he,rfl⟩:=List.mem_map.1 hs
  exact hn e he
 have bds:∀j,j≤l.length→0≤(addL (r.take j)).1∧(addL (r.take j)).1≤12*200000000000000000∧(addL (r.take j)).2.length≤120:=fun j hj=>by
  have a1:=addL_bd (l:=r.take j) (C:=200000000000000000) fun s hs=>hb' s (List.mem_of_mem_take hs)
  have a2:=addL_len (l:=r.take j) (k:=10) fun s hs=>hn' s (List.mem_of_mem_take hs)
  rw[List.length_take] at a1 a2
  omega
 rw[er] at q
 simp -implicitDefEqProofs(maxSteps:=999999)(disch:=first|with_reducible rfl|omega|(simp only[nA,nS,nD]<;>omega)|fail)only[c95,go_sem,hlen]
 refine W_count l.length (fun j s=>∃tm h' y,s=⟨tm,h',[]⟩∧OwnSl h h' y 1 ((addL (r.take j)).2.map encI)∧h.next+1<h'.next∧h'.get h.next=some (.cells .rw [.int .i64 0,.nils])∧h'.get (h.next+1)=some (.cells .rw [.int .i64 (addL (r.take j)).1,y])∧
   (Opd.t 2).ev tm=.ptr h.next 0∧(Opd.t 3).ev tm=.ptr (h.next+1) 0∧(Opd.t 6).ev tm=x∧(Opd.t 7).ev tm=.int .i64 (l.length:Int)∧(Opd.t 8).ev tm=.int .i64 (j:Int))
  ?_ ?_ (i:=0) (Nat.zero_le _) ⟨_,_,.nils,rfl,OwnSl.nil s2 1,by simp only[H.next_add];omega,by simp -implicitDefEqProofs(maxSteps:=999999)(disch:=first|with_reducible rfl|omega|(simp only[nA,nS,nD]<;>omega)|fail)only[go_sem],by simp -implicitDefEqProofs(maxSteps:=999999)(disch:=first|with_reducible rfl|omega|(simp only[nA,nS,nD]<;>omega)|fail)only[go_sem,List.take_zero,addL],(by simp[ev_c,ev_put]<;>rfl),(by simp[ev_c,ev_put]<;>rfl),(by simp[ev_c,ev_put]<;>rfl),(by simp[ev_c,ev_put]<;>rfl),(by simp[ev_c,ev_put]<;>rfl)⟩
 ·rintro j s hj ⟨tm,h',y,rfl,oy,lt,g2,g3,t2,t3,t6,t7,t8⟩
  have hj':(j:Int)<(l.length:Int):=by omega
  have hs:=oy.1
  have oe:=(ha _ (List.getElem_mem hj)).mono hs
  have o1:=oe.one
  have ay:=oy.sl (by have:=(bds j (by omega)).2.2;simp only[List.length_map];omega)
  have y1:=ay.one
  obtain⟨b2,o2,c2,cs2,eb,hcs2,hq2,hgg2,hn2,hn02⟩:=(hx.mono hs).at hj
  subst eb
  have hbb:b2<h'.next:=SlAt_lt hs.wf (hx.mono hs) (by intro e;rw[List.map_eq_nil_iff] at e;rw[e] at hj;simp at hj) b2 ⟨_,_,_,rfl⟩
  have sA:h'.Sub (h'.add (.cells .rw [.int .i64 l[j].1.1,l[j].2])):=(H.Sub.refl hs.wf).add _
  have bj:=bds j (by omega)
  have bj1:=bds (j+1) (by omega)
  have e1:=addL_take (l:=r) (j:=j) (by omega)
  rw[hri j hj] at e1
  rw[e1] at bj1
  simp only[List.length_append] at bj1
  have ae:=(oe.mono sA).sl (by have:=hn _ (List.getElem_mem hj);simp only[List.length_map];omega)
  obtain⟨ae1,ae2⟩:=ae.elems
  simp -implicitDefEqProofs(maxSteps:=999999)(disch:=first|with_reducible rfl|omega|(simp only[nA,nS,nD]<;>omega)|fail)only[go_sem,t2,t3,t6,t7,t8,hj',hq2 (nat_cst j),hcs2,hgg2,encS,o1,cells_one o1,cells_of g3,g3,wr_in]
  refine(oy.mono sA).appn hw (new:=l[j].1.2.map encI) (fun r hr=>by(obtain⟨a,_,rfl⟩:=List.mem_map.1 hr;rfl)) ae1 ae2 (allOne_ints _) (by simp only[List.length_map];omega) (by simp only[List.length_map];omega) fun y' h5 o5 k5 n5=>?_
  have hg3:=k5.2 _ _ (sA.get g3) ((oy.mono sA).ne (sA.get g3))
  have hg2:=k5.2 _ _ (sA.get g2) ((oy.mono sA).ne (sA.get g2))
  have hgn:(h'.add (.cells .rw [.int .i64 l[j].1.1,l[j].2])).get h'.next=some (.cells .rw [.int .i64 l[j].1.1,l[j].2]):=get_add_new rfl
  have hgA:=k5.2 _ _ hgn ((oy.mono sA).ne hgn)
  have y1':=OwnC.one o5.c
  simp only[H.next_add] at n5
  have lt5:h.next+1<h5.next:=by omega
  simp -implicitDefEqProofs(maxSteps:=999999)(disch:=first|with_reducible rfl|omega|(simp only[nA,nS,nD]<;>omega)|fail)only[go_sem,t2,t3,t6,t7,t8,cells_of g3,cells_of hg3,cells_of hgA,hg3,y1',cells_one y1',wr_succ]
  exact⟨_,_,y',rfl,by rw[e1,List.map_append];exact o5.keep (Keeps.set h5 (h.next+1) _) (o5.1.set (by omega) lt5 hw _) fun b hb e=>(o5.ne hg3) (e▸hb),by rw[H.next_set];exact lt5,by rw[get_set_other (by omega)];exact hg2,by rw[get_set_same rfl,e1],(by simp[ev_c,ev_put,t2]<;>rfl),(by simp[ev_c,ev_put,t3]<;>rfl),(by simp[ev_c,ev_put,t6]<;>rfl),(by simp[ev_c,ev_put,t7]<;>rfl),(by simp[ev_c,ev_put]<;>rfl)⟩
 ·rintro s ⟨tm,h',y,rfl,oy,lt,g2,g3,t2,t3,t6,t7,t8⟩
  rw[←hr,List.take_length] at oy g3
  have y1:=OwnC.one oy.c
  simp -implicitDefEqProofs(maxSteps:=999999)(disch:=first|with_reducible rfl|omega|(simp only[nA,nS,nD]<;>omega)|fail)only[go_sem,t2,t3,t6,t7,t8,Int.lt_irrefl,cells_of g3,g2,y1,cells_one y1]
  exact q _ y (oy.keep (Keeps.set h' h.next _) (oy.1.set (Nat.le_refl _) (by omega) hw _) fun b hb e=>(oy.ne g2) (e▸hb))
def bigN:Nat→Int
 |0=>20000
 |k+1=>12*bigN k
theorem bigN_ge:∀k,20000≤bigN k
 |0=>Int.le_refl _
 |k+1=>by have:=bigN_ge k;simp only[bigN];omega
theorem sum_const (C:Int):∀l:List Int,sumL (fun _=>C) l=(l.length:Int)*C
 |[]=>by simp[sumL]
 |a::l=>by simp only[sumL,sum_const C l,List.length_cons,Int.natCast_add];rw[Int.add_mul];omega
theorem um_bigN {m:Ml}(g:Good m):∀(k:Nat) (i:Int),(m.lots.length:Int)-i≤k→0≤i→i<m.lots.length→(Um m allC i).1≤bigN k:=by
 intro k
 induction k with
 |zero=>intro i h1 h2 h3;omega
 |succ k ih=>
  intro i hk i0 i1
  have F:=forest g
  have hown:=ownB_at (c:=allC) i0 i1
  have hbk:=ownK_bd g allC i m.wgs.length
  have hge:=bigN_ge (k+1)
  by_cases hp:parts m i=[]
  ·have hU:Um m allC i=ownB m allC i:=Uo_leaf F _ i0 i1 hp
   rw[hU,hown];omega
  ·have hU:Um m allC i=(max (ownB m allC i).1 (sumL (lo1 (Um m allC)) (parts m i)),min (ownB m allC i).2 (sumL (hi1 (Um m allC)) (parts m i))):=Uo_node F (ownB m allC) i0 i1 hp
   have h1:sumL (lo1 (Um m allC)) (parts m i)≤sumL (fun _=>bigN k) (parts m i):=sumL_mono fun p hp=>by
    obtain⟨p0,p1,pf⟩:=(F.mem _ _).1 hp
    have:=F.lt p p0 p1
    exact ih p (by omega) p0 p1
   rw[sum_const] at h1
   have h2:=bigN_ge k
   have h3:((parts m i).length:Int)*bigN k≤12*bigN k:=Int.mul_le_mul_of_nonneg_right (by have:=parts_len m i;have:=g.lots;omega) (by omega)
   have h4:bigN (k+1)=12*bigN k:=rfl
   rw[hU,hown];simp only;omega
theorem most_bd {m:Ml}(g:Good m){i:Int}(i0:0≤i)(i1:i<m.lots.length):0≤(mostP m i).1∧(mostP m i).1≤200000000000000000∧(mostP m i).2.length≤10:=by
 obtain⟨h1,_,h3⟩:=most_ok g i i0 i1
 have h4:=um_bigN g 12 i (by have:=g.lots;omega) i0 i1
 have h5:bigN 12=178322008965120000:=by decide
 have h6:=Um_bd g allC i0 i1
 have h7:=h3.len
 have h8:=g.wgs
 rw[h1];omega
theorem few_bd {m:Ml}(g:Good m){i:Int}(i0:0≤i)(i1:i<m.lots.length):0≤(fewP m i).1∧(fewP m i).1≤200000000000000000∧(fewP m i).2.length≤10:=by
 obtain⟨h1,h2,h3⟩:=few_ok g i i0 i1
 have h6:=Um_bd g allC i0 i1
 have h7:=h3.br.len
 have h8:=g.wgs
 omega
theorem bsl1_own {h0 h:H}(hs:h0.Sub h)(i:Int):OwnC h0 (h.add (.cells .rw [.int .i64 i])) (.sl h.next 0 1 (.fix 1)) 1 ([i].map encI):=
 ⟨hs.add _,fun r hr=>by(obtain⟨a,_,rfl⟩:=List.mem_map.1 hr;rfl),.inr (.inr ⟨h.next,1,[],rfl,hs.next,by rw[H.next_add];omega,get_add_new rfl,rfl,Nat.le_refl _⟩)⟩
set_option maxHeartbeats 4000000 in
theorem most_ev {m:Ml}(g:Good m):∀(k:Nat) {h:H} {d:Nat} (lot:Nat),m.lots.length-lot≤k→lot<m.lots.length→h.wf→DkAt h d m→∀(Q:V→H→Prop),
  (∀h' x,OwnC h h' x 1 ((mostP m (lot:Int)).2.map encI)→Q (.agg [.int .i64 (mostP m (lot:Int)).1,x]) h')→Ev fnG fastA (.fn 38 [] []) [.ptr d 0,.int .i64 (lot:Int)] h Q:=by
 intro k
 induction k with
 |zero=>intro h d lot h1 h2;omega
 |succ k ih=>
  intro h d lot hk hlot hw hd Q q
  have F:=forest g
  have gl:=g.lots
  have gw:=g.wgs
  have hd0:=hd
  obtain⟨pm,l,L,W,g1,g2,aL,aW,ap⟩:=hd
  have hl0:(0:Int)≤(lot:Int):=by omega
  have hl1:(lot:Int)<(m.lots.length:Int):=by omega
  refine Ev_body (fd:=c38) rfl rfl rfl ?_
  have s1:h.Sub (h.add (.cells .rw [.int .i64 0,.nils])):=(by repeat(first|assumption|exact H.Sub.refl (by assumption)|refine H.Sub.add ?_ _|refine H.Sub.set ?_ (by first|omega|(simp only[H.next_add,H.next_set,H.next_del]<;>omega)) (by first|omega|(simp only[H.next_add,H.next_set,H.next_del]<;>omega)) (by assumption) _))
  have hap:=ap (lot:Int)
  have hlp:=parts_len m (lot:Int)
  have hlenP:=hap.lenE
  obtain⟨ps,eps⟩:∃ps,parts m (lot:Int)=ps:=⟨_,rfl⟩
  obtain⟨X,eX⟩:∃X,found .nils false (lkA (lot:Int) l)=X:=⟨_,rfl⟩
  rw[eX] at hlenP hap
  rw[eps] at hlp hlenP hap
  have hpsm:∀p∈ps,0≤p∧p<m.lots.length∧(lot:Int)<p:=fun p hp=>by
   obtain⟨p0,p1,pf⟩:=(F.mem (lot:Int) p).1 (by rw[eps];exact hp)
   have:=F.lt p p0 p1
   omega
  simp -implicitDefEqProofs(maxSteps:=999999)(disch:=first|with_reducible rfl|omega|(simp only[nA,nS,nD]<;>omega)|fail)only[c38,go_sem,cells_of (s1.get g1),s1.get g2,eX,hlenP]
  refine W_count ps.length (fun j s=>∃tm h' lv ls,s=⟨tm,h',[]⟩∧OwnSl h h' lv 2 (ls.map encS)∧SmsAt h h' ls∧ls.map Prod.fst=(ps.take j).map (mostP m)∧h.next<h'.next∧h'.get h.next=some (.cells .rw [.int .i64 0,.nils])∧
    (Opd.t 0).ev tm=.ptr d 0∧(Opd.t 1).ev tm=.int .i64 (lot:Int)∧(Opd.t 4).ev tm=.ptr h.next 0∧(Opd.t 5).ev tm=lv∧(Opd.t 17).ev tm=X∧(Opd.t 18).ev tm=.int .i64 (ps.length:Int)∧(Opd.t 19).ev tm=.int .i64 (j:Int))
   ?_ ?_ (i:=0) (Nat.zero_le _) ⟨_,_,.nils,[],rfl,OwnSl.nil s1 2,fun e he=>by simp at he,rfl,by simp only[H.next_add];omega,by simp -implicitDefEqProofs(maxSteps:=999999)(disch:=first|with_reducible rfl|omega|(simp only[nA,nS,nD]<;>omega)|fail)only[go_sem],(by simp[ev_c,ev_put]<;>rfl),(by simp[ev_c,ev_put]<;>rfl),(by simp[ev_c,ev_put]<;>rfl),(by simp[ev_c,ev_put]<;>rfl),(by simp[ev_c,ev_put]<;>rfl),(by simp[ev_c,ev_put]<;>rfl),(by simp[ev_c,ev_put]<;>rfl)⟩
  ·rintro j s hj ⟨tm,h',lv,ls,rfl,olv,sms,els,lt,g4,t0,t1,t4,t5,t17,t18,t19⟩
   have hj':(j:Int)<(ps.length:Int):=by omega
   have hs:=olv.1
   have hll:ls.length=j:=by have:=congrArg List.length els;simp only[List.length_map,List.length_take] at this;omega
   obtain⟨b2,o2,c2,cs2,eb,hcs2,hq2,hgg2,hn2,hn02⟩:=(hap.mono hs).at hj
   subst eb
   obtain⟨p0,p1,p2⟩:=hpsm _ (List.getElem_mem hj)
   obtain⟨p,ep⟩:=Int.eq_ofNat_of_zero_le p0
   simp -implicitDefEqProofs(maxSteps:=999999)(disch:=first|with_reducible rfl|omega|(simp only[nA,nS,nD]<;>omega)|fail)only[go_sem,t0,t1,t4,t5,t17,t18,t19,hj',hq2 (nat_cst j),hcs2,hn02 (by omega),encI,ep]
   refine ih p (by omega) (by omega) hs.wf (hd0.mono hs) _ fun h5 x o5=>?_
   have s5:=o5.1
   have l5:=s5.next
   have x1:=o5.one
   have sA:=(H.Sub.refl s5.wf).add (.cells .rw [.int .i64 (mostP m (p:Int)).1,x])
   have sB:=s5.trans sA
   have ws:∀b,blkOf lv b→∀e∈ls,¬blkOf e.2 b:=fun b hb e he he2=>by
    obtain⟨_,_,kd,cs,hg,hk⟩:=(sms e he).blk he2
    have hg2:=(olv.blk hb).2.2
    rw[hg2] at hg
    injection hg with hg;injection hg with hg3 _
    rcases hk with rfl|rfl<;>cases hg3
   have wx:∀b,blkOf lv b→¬blkOf x b:=fun b hb hb2=>by
    have a1:=(olv.blk hb).2.1
    have a2:=(o5.blk hb2).1
    omega
   simp -implicitDefEqProofs(maxSteps:=999999)(disch:=first|with_reducible rfl|omega|(simp only[nA,nS,nD]<;>omega)|fail)only[go_sem,x1,cells_one x1]
   refine(olv.mono sB).app1 (r:=encS (mostP m (p:Int),x)) hw rfl (by omega) (SlAt.new _ rfl rfl (by simp[encS]) (by simp[encS]) (by simp)) (by simp only[encS];rw[allOne_cons,allOne_cons,x1];rfl) (by simp only[List.length_map];omega) (by simp only[List.length_map];omega) fun h6 o6 k6 n6=>?_
   have g46:=k6.2 _ _ (sB.get g4) ((olv.mono sB).ne (sB.get g4))
   simp -implicitDefEqProofs(maxSteps:=999999)(disch:=first|with_reducible rfl|omega|(simp only[nA,nS,nD]<;>omega)|fail)only[go_sem,t0,t1,t4,t5,t17,t18,t19,wr_succ]
   simp only[H.next_add] at n6 o6
   refine⟨_,_,_,ls++[(mostP m (p:Int),x)],rfl,by rw[List.map_append];exact o6,?_,?_,by omega,g46,(by simp[ev_c,ev_put,t0]<;>rfl),(by simp[ev_c,ev_put,t1]<;>rfl),(by simp[ev_c,ev_put,t4]<;>rfl),(by simp[ev_c,ev_put]<;>rfl),(by simp[ev_c,ev_put,t17]<;>rfl),(by simp[ev_c,ev_put,t18]<;>rfl),(by simp[ev_c,ev_put]<;>rfl)⟩
   ·intro e he
    rw[List.mem_append,List.mem_singleton] at he
    rcases he with he|rfl
    ·exact((sms e he).mono sB).keep k6 o6.1 fun b hb hb2=>ws b hb2 e he hb
    ·exact((o5.base hs).mono sA).keep k6 o6.1 fun b hb hb2=>wx b hb2 hb
   ·rw[List.map_append,els,List.take_succ_eq_append_getElem hj,List.map_append,ep];rfl
  ·rintro s ⟨tm,h',lv,ls,rfl,olv,sms,els,lt,g4,t0,t1,t4,t5,t17,t18,t19⟩
   rw[List.take_length] at els
   have hs:=olv.1
   have hll:ls.length=ps.length:=by have:=congrArg List.length els;simpa using this
   have hmem:∀e∈ls,∃p∈ps,mostP m p=e.1:=fun e he=>by
    have:e.1∈ls.map Prod.fst:=List.mem_map_of_mem he
    rw[els] at this
    obtain⟨p,hp,e'⟩:=List.mem_map.1 this
    exact⟨p,hp,e'⟩
   have bd:∀e∈ls,0≤e.1.1∧e.1.1≤200000000000000000∧e.1.2.length≤10:=fun e he=>by
    obtain⟨p,hp,e'⟩:=hmem e he
    rw[←e'];exact most_bd g (hpsm p hp).1 (hpsm p hp).2.1
   simp -implicitDefEqProofs(maxSteps:=999999)(disch:=first|with_reducible rfl|omega|(simp only[nA,nS,nD]<;>omega)|fail)only[go_sem,t0,t1,t4,t5,t17,t18,t19,Int.lt_irrefl]
   refine added_ev hs.wf (olv.sl (by simp only[List.length_map];omega)) sms (by omega) (fun e he=>⟨(bd e he).1,(bd e he).2.1⟩) (fun e he=>(bd e he).2.2) _ fun h5 y o5=>?_
   rw[els]
   rw[els] at o5
   have s5:=o5.1
   have hs5:=hs.trans s5
   have l5:=s5.next
   have g45:=s5.get g4
   have y1:=OwnC.one o5.c
   have hP:mostP m (lot:Int)=mostW m (lot:Int) m.wgs.length (addL (ps.map (mostP m))):=by rw[mostP_eq g hl0 hl1,eps]
   obtain⟨S0,eS⟩:∃S0,addL (ps.map (mostP m))=S0:=⟨_,rfl⟩
   rw[eS] at o5 hP
   rw[eS]
   have s6:h5.Sub (h5.add (.cells .rw [.int .i64 S0.1,y])):=(H.Sub.refl s5.wf).add _
   have sW:=hs5.trans s6
   simp -implicitDefEqProofs(maxSteps:=999999)(disch:=first|with_reducible rfl|omega|(simp only[nA,nS,nD]<;>omega)|fail)only[go_sem,t0,t1,t4,y1,cells_one y1,cells_of (sW.get g1),aW.lenE]
   refine W_count m.wgs.length (fun j s=>∃tm h' y,s=⟨tm,h',[]⟩∧OwnC h h' y 1 ((mostW m (lot:Int) j S0).2.map encI)∧(∀b,blkOf y b→b≠h5.next∧h.next<b)∧h5.next<h'.next∧h'.get h.next=some (.cells .rw [.int .i64 0,.nils])∧h'.get h5.next=some (.cells .rw [.int .i64 (mostW m (lot:Int) j S0).1,y])∧
     (Opd.t 0).ev tm=.ptr d 0∧(Opd.t 1).ev tm=.int .i64 (lot:Int)∧(Opd.t 4).ev tm=.ptr h.next 0∧(Opd.t 8).ev tm=.ptr h5.next 0∧(Opd.t 36).ev tm=W∧(Opd.t 37).ev tm=.int .i64 (m.wgs.length:Int)∧(Opd.t 38).ev tm=.int .i64 (j:Int))
    ?_ ?_ (i:=0) (Nat.zero_le _) ⟨_,_,y,rfl,(o5.c.base hs).mono s6,fun b hb=>by have:=o5.blk hb;omega,by simp only[H.next_add];omega,s6.get g45,by rw[get_add_new rfl];rfl,(by simp[ev_c,ev_put,t0]<;>rfl),(by simp[ev_c,ev_put,t1]<;>rfl),(by simp[ev_c,ev_put,t4]<;>rfl),(by simp[ev_c,ev_put]<;>rfl),(by simp[ev_c,ev_put]<;>rfl),(by simp[ev_c,ev_put]<;>rfl),(by simp[ev_c,ev_put]<;>rfl)⟩
   ·clear t0 t1 t4 t5 t17 t18 t19
    rintro j s hj ⟨tm,h',y,rfl,oy,ny,lt',g4',g8,t0,t1,t4,t8,t36,t37,t38⟩
    have hj':(j:Int)<(m.wgs.length:Int):=by omega
    have hs':=oy.1
    have y1:=oy.one
    obtain⟨b2,o2,c2,cs2,eb,hcs2,hq2,hgg2,hn2,hn02⟩:=(aW.mono hs').at hj
    subst eb
    have hbb:b2<h'.next:=SlAt_lt hs'.wf (aW.mono hs') (by intro e;rw[List.map_eq_nil_iff] at e;rw[e] at hj;simp at hj) b2 ⟨_,_,_,rfl⟩
    have est:mostW m (lot:Int) (j+1) S0=if wl m (j:Int)=(lot:Int)∧(mostW m (lot:Int) j S0).1<wLo m (j:Int) then(wLo m (j:Int),[(j:Int)]) else mostW m (lot:Int) j S0:=rfl
    rw[wl_at hj,wLo_at hj] at est
    have sA:h'.Sub (h'.add (.cells .rw [.int .i64 m.wgs[j].lot,.int .i64 m.wgs[j].reads,.int .i64 m.wgs[j].lo,.int .i64 m.wgs[j].hi])):=(H.Sub.refl hs'.wf).add _
    have gA:(h'.add (.cells .rw [.int .i64 m.wgs[j].lot,.int .i64 m.wgs[j].reads,.int .i64 m.wgs[j].lo,.int .i64 m.wgs[j].hi])).cells h'.next=some [.int .i64 m.wgs[j].lot,.int .i64 m.wgs[j].reads,.int .i64 m.wgs[j].lo,.int .i64 m.wgs[j].hi]:=cells_add_new rfl
    simp -implicitDefEqProofs(maxSteps:=999999)(disch:=first|with_reducible rfl|omega|(simp only[nA,nS,nD]<;>omega)|fail)only[go_sem,t0,t1,t4,t8,t36,t37,t38,hj',hq2 (nat_cst j),hcs2,hgg2,encW]
    refine(says_ev (hs'.trans sA).wf (hd0.mono (hs'.trans sA)) g hj).mono fun u h6 hu=>?_
    obtain⟨rfl,s6'⟩:=hu
    have sB:=sA.trans s6'
    have l6:=sB.next
    have l6':=s6'.next
    simp only[H.next_add] at l6'
    have gA6:=s6'.cells gA
    have g86:=sB.get g8
    have g46:=sB.get g4'
    have sC:h6.Sub (h6.add (.cells .rw [.int .i64 (sayLo m m.wgs[j]),.int .i64 (sayHi m m.wgs[j])])):=(H.Sub.refl (hs'.trans sB).wf).add _
    by_cases c1:m.wgs[j].lot=(lot:Int)
    ·by_cases c2:(mostW m (lot:Int) j S0).1<sayLo m m.wgs[j]
     ·rw[if_pos ⟨c1,c2⟩] at est
      have w6:=(hs'.trans sB).wf
      have sD:=(sC.add (.cells .rw [.int .i64 (j:Int)]))
      have hsD:=(hs'.trans sB).trans sD
      simp -implicitDefEqProofs(maxSteps:=999999)(disch:=first|with_reducible rfl|omega|(simp only[nA,nS,nD]<;>omega)|fail)only[go_sem,t0,t1,t4,t8,t36,t37,t38,gA6,c1,c2,cells_of g86,g86,wr_succ]
      refine⟨_,_,.sl (h6.next+1) 0 1 (.fix 1),rfl,?_,?_,by simp only[H.next_set,H.next_add];omega,by rw[get_set_other (by omega)];exact sD.get g46,by rw[est,get_set_same rfl],(by simp[ev_c,ev_put,t0]<;>rfl),(by simp[ev_c,ev_put,t1]<;>rfl),(by simp[ev_c,ev_put,t4]<;>rfl),(by simp[ev_c,ev_put,t8]<;>rfl),(by simp[ev_c,ev_put,t36]<;>rfl),(by simp[ev_c,ev_put,t37]<;>rfl),(by simp[ev_c,ev_put]<;>rfl)⟩
      ·rw[est]
       have:=(bsl1_own ((hs'.trans sB).trans sC) (j:Int)).keep (Keeps.set _ h5.next (.cells .rw [.int .i64 (sayLo m m.wgs[j]),.sl (h6.next+1) 0 1 (.fix 1)])) (H.Sub.set hsD (by omega) (by simp only[H.next_add];omega) hw _) (fun b hb e=>by obtain⟨_,_,_,e2⟩:=hb;cases e2;simp only[H.next_add] at e;omega)
       rw[H.next_add] at this
       exact this
      ·intro b hb;obtain⟨_,_,_,e2⟩:=hb;cases e2;have:=hs5.next;omega
     ·rw[if_neg (fun h=>c2 h.2)] at est
      simp -implicitDefEqProofs(maxSteps:=999999)(disch:=first|with_reducible rfl|omega|(simp only[nA,nS,nD]<;>omega)|fail)only[go_sem,t0,t1,t4,t8,t36,t37,t38,gA6,c1,c2,cells_of g86,wr_succ]
      exact⟨_,_,y,rfl,by rw[est];exact oy.mono (sB.trans sC),ny,by simp only[H.next_add];omega,(sB.trans sC).get g4',by rw[est];exact(sB.trans sC).get g8,(by simp[ev_c,ev_put,t0]<;>rfl),(by simp[ev_c,ev_put,t1]<;>rfl),(by simp[ev_c,ev_put,t4]<;>rfl),(by simp[ev_c,ev_put,t8]<;>rfl),(by simp[ev_c,ev_put,t36]<;>rfl),(by simp[ev_c,ev_put,t37]<;>rfl),(by simp[ev_c,ev_put]<;>rfl)⟩
    ·rw[if_neg (fun h=>c1 h.1)] at est
     simp -implicitDefEqProofs(maxSteps:=999999)(disch:=first|with_reducible rfl|omega|(simp only[nA,nS,nD]<;>omega)|fail)only[go_sem,t0,t1,t4,t8,t36,t37,t38,gA6,c1,wr_succ]
     exact⟨_,_,y,rfl,by rw[est];exact oy.mono (sB.trans sC),ny,by simp only[H.next_add];omega,(sB.trans sC).get g4',by rw[est];exact(sB.trans sC).get g8,(by simp[ev_c,ev_put,t0]<;>rfl),(by simp[ev_c,ev_put,t1]<;>rfl),(by simp[ev_c,ev_put,t4]<;>rfl),(by simp[ev_c,ev_put,t8]<;>rfl),(by simp[ev_c,ev_put,t36]<;>rfl),(by simp[ev_c,ev_put,t37]<;>rfl),(by simp[ev_c,ev_put]<;>rfl)⟩
   ·clear t0 t1 t4 t5 t17 t18 t19
    rintro s ⟨tm,h',y,rfl,oy,ny,lt',g4',g8,t0,t1,t4,t8,t36,t37,t38⟩
    have y1:=oy.one
    rw[←hP] at oy g8
    simp -implicitDefEqProofs(maxSteps:=999999)(disch:=first|with_reducible rfl|omega|(simp only[nA,nS,nD]<;>omega)|fail)only[go_sem,t0,t1,t4,t8,t36,t37,t38,Int.lt_irrefl,cells_of g8,g4',y1,cells_one y1]
    refine q _ y (oy.keep (Keeps.set h' h.next _) (oy.1.set (Nat.le_refl _) (by have:=hs5.next;omega) hw _) fun b hb e=>by have:=(ny b hb).2;omega)
theorem few1_pure {h:H}{h1 h2:H}{e:Sm × V}(o:OwnC h1 h2 e.2 1 (e.1.2.map encI))(hl:e.1.2.length≤10):PureA h (.fn 97 [] []) [.agg (encS e)] (.bool (decide (0<(e.1.2.length:Int)))):=fun hA hs=>by
 have hlen:=(o.sl (by simp only[List.length_map];omega)).lenE
 refine Ev_body (fd:=c97) rfl rfl rfl ?_
 simp -implicitDefEqProofs(maxSteps:=999999)(disch:=first|with_reducible rfl|omega|(simp only[nA,nS,nD]<;>omega)|fail)only[c97,go_sem,encS,hlen]
 exact(H.Sub.refl hs.wf).add _
set_option maxHeartbeats 4000000 in
theorem few_ev {m:Ml}(g:Good m):∀(k:Nat) {h:H} {d:Nat} (lot:Nat),m.lots.length-lot≤k→lot<m.lots.length→h.wf→DkAt h d m→∀(Q:V→H→Prop),
  (∀h' x,OwnC h h' x 1 ((fewP m (lot:Int)).2.map encI)→Q (.agg [.int .i64 (fewP m (lot:Int)).1,x]) h')→Ev fnG fastA (.fn 39 [] []) [.ptr d 0,.int .i64 (lot:Int)] h Q:=by
 intro k
 induction k with
 |zero=>intro h d lot h1 h2;omega
 |succ k ih=>
  intro h d lot hk hlot hw hd Q q
  have F:=forest g
  have gl:=g.lots
  have gw:=g.wgs
  have hd0:=hd
  obtain⟨pm,l,L,W,g1,g2,aL,aW,ap⟩:=hd
  have hl0:(0:Int)≤(lot:Int):=by omega
  have hl1:(lot:Int)<(m.lots.length:Int):=by omega
  refine Ev_body (fd:=c39) rfl rfl rfl ?_
  have s1:h.Sub ((h.add (.cells .rw [.int .i64 0,.nils])).add (.cells .rw [.int .i64 10000,.nils])):=(by repeat(first|assumption|exact H.Sub.refl (by assumption)|refine H.Sub.add ?_ _|refine H.Sub.set ?_ (by first|omega|(simp only[H.next_add,H.next_set,H.next_del]<;>omega)) (by first|omega|(simp only[H.next_add,H.next_set,H.next_del]<;>omega)) (by assumption) _))
  have hap:=ap (lot:Int)
  have hlp:=parts_len m (lot:Int)
  have hlenP:=hap.lenE
  obtain⟨ps,eps⟩:∃ps,parts m (lot:Int)=ps:=⟨_,rfl⟩
  obtain⟨X,eX⟩:∃X,found .nils false (lkA (lot:Int) l)=X:=⟨_,rfl⟩
  rw[eX] at hlenP hap
  rw[eps] at hlp hlenP hap
  have hpsm:∀p∈ps,0≤p∧p<m.lots.length∧(lot:Int)<p:=fun p hp=>by
   obtain⟨p0,p1,pf⟩:=(F.mem (lot:Int) p).1 (by rw[eps];exact hp)
   have:=F.lt p p0 p1
   omega
  obtain⟨J,hJ⟩:∃J:St→Prop,∀s,J s↔∃tm h' y,s=⟨tm,h',[]⟩∧OwnC h h' y 1 ((few0 (ps.map (fewP m))).2.map encI)∧(∀b,blkOf y b→b≠h.next+1∧h.next<b)∧h.next+1<h'.next∧h'.get h.next=some (.cells .rw [.int .i64 0,.nils])∧h'.get (h.next+1)=some (.cells .rw [.int .i64 (few0 (ps.map (fewP m))).1,y])∧
    (Opd.t 0).ev tm=.ptr d 0∧(Opd.t 1).ev tm=.int .i64 (lot:Int)∧(Opd.t 4).ev tm=.ptr h.next 0∧(Opd.t 5).ev tm=.ptr (h.next+1) 0:=⟨_,fun s=>Iff.rfl⟩
  simp only[c39]
  rw[W_assoc,W_assoc,W_assoc,W_assoc,W_seq]
  refine W_cut J ?_ ?_
  ·simp -implicitDefEqProofs(maxSteps:=999999)(disch:=first|with_reducible rfl|omega|(simp only[nA,nS,nD]<;>omega)|fail)only[go_sem,cells_of (s1.get g1),s1.get g2,eX,hlenP]
   refine W_count ps.length (fun j s=>∃tm h' lv ls,s=⟨tm,h',[]⟩∧OwnSl h h' lv 2 (ls.map encS)∧SmsAt h h' ls∧ls.map Prod.fst=(ps.take j).map (fewP m)∧h.next+1<h'.next∧h'.get h.next=some (.cells .rw [.int .i64 0,.nils])∧h'.get (h.next+1)=some (.cells .rw [.int .i64 10000,.nils])∧
     (Opd.t 0).ev tm=.ptr d 0∧(Opd.t 1).ev tm=.int .i64 (lot:Int)∧(Opd.t 4).ev tm=.ptr h.next 0∧(Opd.t 5).ev tm=.ptr (h.next+1) 0∧(Opd.t 6).ev tm=lv∧(Opd.t 19).ev tm=X∧(Opd.t 20).ev tm=.int .i64 (ps.length:Int)∧(Opd.t 21).ev tm=.int .i64 (j:Int))
    ?_ ?_ (i:=0) (Nat.zero_le _) ⟨_,_,.nils,[],rfl,OwnSl.nil s1 2,fun e he=>by simp at he,rfl,by simp only[H.next_add];omega,by simp -implicitDefEqProofs(maxSteps:=999999)(disch:=first|with_reducible rfl|omega|(simp only[nA,nS,nD]<;>omega)|fail)only[go_sem],by simp -implicitDefEqProofs(maxSteps:=999999)(disch:=first|with_reducible rfl|omega|(simp only[nA,nS,nD]<;>omega)|fail)only[go_sem],(by simp[ev_c,ev_put]<;>rfl),(by simp[ev_c,ev_put]<;>rfl),(by simp[ev_c,ev_put]<;>rfl),(by simp[ev_c,ev_put]<;>rfl),(by simp[ev_c,ev_put]<;>rfl),(by simp[ev_c,ev_put]<;>rfl),(by simp[ev_c,ev_put]<;>rfl),(by simp[ev_c,ev_put]<;>rfl)⟩
   ·rintro j s hj ⟨tm,h',lv,ls,rfl,olv,sms,els,lt,g4,g5,t0,t1,t4,t5,t6,t19,t20,t21⟩
    have hj':(j:Int)<(ps.length:Int):=by omega
    have hs:=olv.1
    have hll:ls.length=j:=by have:=congrArg List.length els;simp only[List.length_map,List.length_take] at this;omega
    obtain⟨b2,o2,c2,cs2,eb,hcs2,hq2,hgg2,hn2,hn02⟩:=(hap.mono hs).at hj
    subst eb
    obtain⟨p0,p1,p2⟩:=hpsm _ (List.getElem_mem hj)
    obtain⟨p,ep⟩:=Int.eq_ofNat_of_zero_le p0
    simp -implicitDefEqProofs(maxSteps:=999999)(disch:=first|with_reducible rfl|omega|(simp only[nA,nS,nD]<;>omega)|fail)only[go_sem,t0,t1,t4,t5,t6,t19,t20,t21,hj',hq2 (nat_cst j),hcs2,hn02 (by omega),encI,ep]
    refine ih p (by omega) (by omega) hs.wf (hd0.mono hs) _ fun h5 x o5=>?_
    have s5:=o5.1
    have l5:=s5.next
    have x1:=o5.one
    have sA:=(H.Sub.refl s5.wf).add (.cells .rw [.int .i64 (fewP m (p:Int)).1,x])
    have sB:=s5.trans sA
    have ws:∀b,blkOf lv b→∀e∈ls,¬blkOf e.2 b:=fun b hb e he he2=>by
     obtain⟨_,_,kd,cs,hg,hk⟩:=(sms e he).blk he2
     have hg2:=(olv.blk hb).2.2
     rw[hg2] at hg
     injection hg with hg;injection hg with hg3 _
     rcases hk with rfl|rfl<;>cases hg3
    have wx:∀b,blkOf lv b→¬blkOf x b:=fun b hb hb2=>by
     have a1:=(olv.blk hb).2.1
     have a2:=(o5.blk hb2).1
     omega
    simp -implicitDefEqProofs(maxSteps:=999999)(disch:=first|with_reducible rfl|omega|(simp only[nA,nS,nD]<;>omega)|fail)only[go_sem,x1,cells_one x1]
    refine(olv.mono sB).app1 (r:=encS (fewP m (p:Int),x)) hw rfl (by omega) (SlAt.new _ rfl rfl (by simp[encS]) (by simp[encS]) (by simp)) (by simp only[encS];rw[allOne_cons,allOne_cons,x1];rfl) (by simp only[List.length_map];omega) (by simp only[List.length_map];omega) fun h6 o6 k6 n6=>?_
    have g46:=k6.2 _ _ (sB.get g4) ((olv.mono sB).ne (sB.get g4))
    have g56:=k6.2 _ _ (sB.get g5) ((olv.mono sB).ne (sB.get g5))
    simp -implicitDefEqProofs(maxSteps:=999999)(disch:=first|with_reducible rfl|omega|(simp only[nA,nS,nD]<;>omega)|fail)only[go_sem,t0,t1,t4,t5,t6,t19,t20,t21,wr_succ]
    simp only[H.next_add] at n6 o6
    refine⟨_,_,_,ls++[(fewP m (p:Int),x)],rfl,by rw[List.map_append];exact o6,?_,?_,by omega,g46,g56,(by simp[ev_c,ev_put,t0]<;>rfl),(by simp[ev_c,ev_put,t1]<;>rfl),(by simp[ev_c,ev_put,t4]<;>rfl),(by simp[ev_c,ev_put,t5]<;>rfl),(by simp[ev_c,ev_put]<;>rfl),(by simp[ev_c,ev_put,t19]<;>rfl),(by simp[ev_c,ev_put,t20]<;>rfl),(by simp[ev_c,ev_put]<;>rfl)⟩
    ·intro e he
     rw[List.mem_append,List.mem_singleton] at he
     rcases he with he|rfl
     ·exact((sms e he).mono sB).keep k6 o6.1 fun b hb hb2=>ws b hb2 e he hb
     ·exact((o5.base hs).mono sA).keep k6 o6.1 fun b hb hb2=>wx b hb2 hb
    ·rw[List.map_append,els,List.take_succ_eq_append_getElem hj,List.map_append,ep];rfl
   ·rintro s ⟨tm,h',lv,ls,rfl,olv,sms,els,lt,g4,g5,t0,t1,t4,t5,t6,t19,t20,t21⟩
    rw[List.take_length] at els
    have hs:=olv.1
    have hll:ls.length=ps.length:=by have:=congrArg List.length els;simpa using this
    have hmem:∀e∈ls,∃p∈ps,fewP m p=e.1:=fun e he=>by
     have:e.1∈ls.map Prod.fst:=List.mem_map_of_mem he
     rw[els] at this
     obtain⟨p,hp,e'⟩:=List.mem_map.1 this
     exact⟨p,hp,e'⟩
    have bd:∀e∈ls,0≤e.1.1∧e.1.1≤200000000000000000∧e.1.2.length≤10:=fun e he=>by
     obtain⟨p,hp,e'⟩:=hmem e he
     rw[←e'];exact few_bd g (hpsm p hp).1 (hpsm p hp).2.1
    have alv:=olv.sl (by simp only[List.length_map];omega)
    have hlenV:=alv.lenE
    simp -implicitDefEqProofs(maxSteps:=999999)(disch:=first|with_reducible rfl|omega|(simp only[nA,nS,nD]<;>omega)|fail)only[go_sem,t0,t1,t4,t5,t6,t19,t20,t21,Int.lt_irrefl]
    refine added_ev hs.wf alv sms (by omega) (fun e he=>⟨(bd e he).1,(bd e he).2.1⟩) (fun e he=>(bd e he).2.2) _ fun h5 y o5=>?_
    rw[els]
    rw[els] at o5
    have s5:=o5.1
    have hs5:=hs.trans s5
    have l5:=s5.next
    have y1:=OwnC.one o5.c
    obtain⟨S0,eS⟩:∃S0,addL (ps.map (fewP m))=S0:=⟨_,rfl⟩
    rw[eS] at o5
    rw[eS]
    have s6:h5.Sub (h5.add (.cells .rw [.int .i64 S0.1,y])):=(H.Sub.refl s5.wf).add _
    have g9:(h5.add (.cells .rw [.int .i64 S0.1,y])).get h5.next=some (.cells .rw [.int .i64 S0.1,y]):=get_add_new rfl
    have hne:ps.map (fewP m)≠[]↔0<(ls.length:Int):=by
     rw[hll]
     constructor
     ·intro h
      have:ps≠[]:=fun e=>h (by rw[e];rfl)
      have:=List.length_pos_iff.2 this;omega
     ·intro h e
      rw[List.map_eq_nil_iff] at e;rw[e] at h;simp at h
    have hall:(ls.all fun e=>decide (0<(e.1.2.length:Int)))=true↔∀s∈ps.map (fewP m),s.2≠[]:=by
     rw[←els,List.all_eq_true]
     constructor
     ·intro h s hs
      obtain⟨e,he,rfl⟩:=List.mem_map.1 hs
      have:=h e he
      rw[decide_eq_true_eq] at this
      intro e0;rw[e0] at this;simp at this
     ·intro h e he
      rw[decide_eq_true_eq]
      have:=List.length_pos_iff.2 (h e.1 (List.mem_map_of_mem he));omega
    by_cases c1:0<(ls.length:Int)
    ·simp -implicitDefEqProofs(maxSteps:=999999)(disch:=first|with_reducible rfl|omega|(simp only[nA,nS,nD]<;>omega)|fail)only[go_sem,t0,t1,t4,t5,t6,y1,cells_one y1,hlenV,c1]
     refine(everySum_ev (p:=fun e=>decide (0<(e.1.2.length:Int))) (s5.trans s6).wf (alv.mono (s5.trans s6)) fun e he=>few1_pure (sms e he) (bd e he).2.2).mono fun u h7 hu=>?_
     obtain⟨rfl,s67⟩:=hu
     have s57:=s6.trans s67
     have s7:=hs5.trans s57
     have l7:=s57.next
     have l67:=s67.next
     simp only[H.next_add] at l67
     have g97:=s67.get g9
     have g57:=(s5.trans s57).get g5
     have g47:=(s5.trans s57).get g4
     cases c2:(ls.all fun e=>decide (0<(e.1.2.length:Int)))
     ·have hn:few0 (ps.map (fewP m))=(10000,[]):=by
       unfold few0;rw[if_neg fun h=>by rw[hall.2 h.2.1] at c2;cases c2]
      simp -implicitDefEqProofs(maxSteps:=999999)(disch:=first|with_reducible rfl|omega|(simp only[nA,nS,nD]<;>omega)|fail)only[go_sem,t0,t1,t4,t5,t6]
      exact⟨rfl,(hJ _).2 ⟨_,_,.nils,rfl,by rw[hn];exact(OwnSl.nil s7 1).c,fun b hb=>(blkOf_nils hb).elim,by omega,g47,by rw[hn];exact g57,(by simp[ev_c,ev_put,t0]<;>rfl),(by simp[ev_c,ev_put,t1]<;>rfl),(by simp[ev_c,ev_put,t4]<;>rfl),(by simp[ev_c,ev_put,t5]<;>rfl)⟩⟩
     ·by_cases c3:S0.1<10000
      ·have hn:few0 (ps.map (fewP m))=S0:=by
        unfold few0;rw[if_pos ⟨hne.2 c1,hall.1 c2,by rw[eS];exact c3⟩,eS]
       simp -implicitDefEqProofs(maxSteps:=999999)(disch:=first|with_reducible rfl|omega|(simp only[nA,nS,nD]<;>omega)|fail)only[go_sem,t0,t1,t4,t5,t6,cells_of g97,cells_of g57,c3,y1,cells_one y1,g57]
       have o7:=(o5.c.base hs).mono s57
       have ny:∀b,blkOf y b→b≠h.next+1∧h.next<b:=fun b hb=>by have:=(o5.blk hb).1;omega
       exact⟨rfl,(hJ _).2 ⟨_,_,y,rfl,by rw[hn];exact o7.keep (Keeps.set h7 (h.next+1) _) (s7.set (by omega) (by omega) hw _) fun b hb e=>(ny b hb).1 e,ny,by rw[H.next_set];omega,by rw[get_set_other (by omega)];exact g47,by rw[hn,get_set_same rfl],(by simp[ev_c,ev_put,t0]<;>rfl),(by simp[ev_c,ev_put,t1]<;>rfl),(by simp[ev_c,ev_put,t4]<;>rfl),(by simp[ev_c,ev_put,t5]<;>rfl)⟩⟩
      ·have hn:few0 (ps.map (fewP m))=(10000,[]):=by
        unfold few0;rw[if_neg fun h=>c3 (by rw[←eS];exact h.2.2)]
       simp -implicitDefEqProofs(maxSteps:=999999)(disch:=first|with_reducible rfl|omega|(simp only[nA,nS,nD]<;>omega)|fail)only[go_sem,t0,t1,t4,t5,t6,cells_of g97,cells_of g57,c3]
       exact⟨rfl,(hJ _).2 ⟨_,_,.nils,rfl,by rw[hn];exact(OwnSl.nil s7 1).c,fun b hb=>(blkOf_nils hb).elim,by omega,g47,by rw[hn];exact g57,(by simp[ev_c,ev_put,t0]<;>rfl),(by simp[ev_c,ev_put,t1]<;>rfl),(by simp[ev_c,ev_put,t4]<;>rfl),(by simp[ev_c,ev_put,t5]<;>rfl)⟩⟩
    ·have hn:few0 (ps.map (fewP m))=(10000,[]):=by
      unfold few0;rw[if_neg fun h=>c1 (hne.1 h.1)]
     simp -implicitDefEqProofs(maxSteps:=999999)(disch:=first|with_reducible rfl|omega|(simp only[nA,nS,nD]<;>omega)|fail)only[go_sem,t0,t1,t4,t5,t6,y1,cells_one y1,hlenV,c1]
     exact⟨rfl,(hJ _).2 ⟨_,_,.nils,rfl,by rw[hn];exact(OwnSl.nil (hs5.trans s6) 1).c,fun b hb=>(blkOf_nils hb).elim,by simp only[H.next_add];omega,(s5.trans s6).get g4,by rw[hn];exact(s5.trans s6).get g5,(by simp[ev_c,ev_put,t0]<;>rfl),(by simp[ev_c,ev_put,t1]<;>rfl),(by simp[ev_c,ev_put,t4]<;>rfl),(by simp[ev_c,ev_put,t5]<;>rfl)⟩⟩
  ·intro s hs
   obtain⟨tm,h5,y,rfl,oy,ny,lt,g4,g5,t0,t1,t4,t5⟩:=(hJ s).1 hs
   have hP:fewP m (lot:Int)=fewW m (lot:Int) m.wgs.length (few0 (ps.map (fewP m))):=by rw[fewP_eq g hl0 hl1,eps]
   obtain⟨S0,eS⟩:∃S0,few0 (ps.map (fewP m))=S0:=⟨_,rfl⟩
   rw[eS] at oy g5 hP
   have hs5:=oy.1
   simp -implicitDefEqProofs(maxSteps:=999999)(disch:=first|with_reducible rfl|omega|(simp only[nA,nS,nD]<;>omega)|fail)only[go_sem,t0,t1,t4,t5,cells_of (hs5.get g1),aW.lenE]
   refine W_count m.wgs.length (fun j s=>∃tm h' y,s=⟨tm,h',[]⟩∧OwnC h h' y 1 ((fewW m (lot:Int) j S0).2.map encI)∧(∀b,blkOf y b→b≠h.next+1∧h.next<b)∧h.next+1<h'.next∧h'.get h.next=some (.cells .rw [.int .i64 0,.nils])∧h'.get (h.next+1)=some (.cells .rw [.int .i64 (fewW m (lot:Int) j S0).1,y])∧
     (Opd.t 0).ev tm=.ptr d 0∧(Opd.t 1).ev tm=.int .i64 (lot:Int)∧(Opd.t 4).ev tm=.ptr h.next 0∧(Opd.t 5).ev tm=.ptr (h.next+1) 0∧(Opd.t 53).ev tm=W∧(Opd.t 54).ev tm=.int .i64 (m.wgs.length:Int)∧(Opd.t 55).ev tm=.int .i64 (j:Int))
    ?_ ?_ (i:=0) (Nat.zero_le _) ⟨_,_,y,rfl,oy,ny,lt,g4,g5,(by simp[ev_c,ev_put,t0]<;>rfl),(by simp[ev_c,ev_put,t1]<;>rfl),(by simp[ev_c,ev_put,t4]<;>rfl),(by simp[ev_c,ev_put,t5]<;>rfl),(by simp[ev_c,ev_put]<;>rfl),(by simp[ev_c,ev_put]<;>rfl),(by simp[ev_c,ev_put]<;>rfl)⟩
   ·clear t0 t1 t4 t5 oy ny lt g4 g5
    rintro j s hj ⟨tm,h',y,rfl,oy,ny,lt',g4',g8,t0,t1,t4,t8,t36,t37,t38⟩
    have hj':(j:Int)<(m.wgs.length:Int):=by omega
    have hs':=oy.1
    have y1:=oy.one
    obtain⟨b2,o2,c2,cs2,eb,hcs2,hq2,hgg2,hn2,hn02⟩:=(aW.mono hs').at hj
    subst eb
    have hbb:b2<h'.next:=SlAt_lt hs'.wf (aW.mono hs') (by intro e;rw[List.map_eq_nil_iff] at e;rw[e] at hj;simp at hj) b2 ⟨_,_,_,rfl⟩
    have est:fewW m (lot:Int) (j+1) S0=if wl m (j:Int)=(lot:Int)∧wHi m (j:Int)<(fewW m (lot:Int) j S0).1 then(wHi m (j:Int),[(j:Int)]) else fewW m (lot:Int) j S0:=rfl
    rw[wl_at hj,wHi_at hj] at est
    have sA:h'.Sub (h'.add (.cells .rw [.int .i64 m.wgs[j].lot,.int .i64 m.wgs[j].reads,.int .i64 m.wgs[j].lo,.int .i64 m.wgs[j].hi])):=(H.Sub.refl hs'.wf).add _
    have gA:(h'.add (.cells .rw [.int .i64 m.wgs[j].lot,.int .i64 m.wgs[j].reads,.int .i64 m.wgs[j].lo,.int .i64 m.wgs[j].hi])).cells h'.next=some [.int .i64 m.wgs[j].lot,.int .i64 m.wgs[j].reads,.int .i64 m.wgs[j].lo,.int .i64 m.wgs[j].hi]:=cells_add_new rfl
    simp -implicitDefEqProofs(maxSteps:=999999)(disch:=first|with_reducible rfl|omega|(simp only[nA,nS,nD]<;>omega)|fail)only[go_sem,t0,t1,t4,t8,t36,t37,t38,hj',hq2 (nat_cst j),hcs2,hgg2,encW]
    refine(says_ev (hs'.trans sA).wf (hd0.mono (hs'.trans sA)) g hj).mono fun u h6 hu=>?_
    obtain⟨rfl,s6'⟩:=hu
    have sB:=sA.trans s6'
    have l6:=sB.next
    have l6':=s6'.next
    simp only[H.next_add] at l6'
    have gA6:=s6'.cells gA
    have g86:=sB.get g8
    have g46:=sB.get g4'
    have sC:h6.Sub (h6.add (.cells .rw [.int .i64 (sayLo m m.wgs[j]),.int .i64 (sayHi m m.wgs[j])])):=(H.Sub.refl (hs'.trans sB).wf).add _
    by_cases c1:m.wgs[j].lot=(lot:Int)
    ·by_cases c2:sayHi m m.wgs[j]<(fewW m (lot:Int) j S0).1
     ·rw[if_pos ⟨c1,c2⟩] at est
      have w6:=(hs'.trans sB).wf
      have sD:=(sC.add (.cells .rw [.int .i64 (j:Int)]))
      have hsD:=(hs'.trans sB).trans sD
      simp -implicitDefEqProofs(maxSteps:=999999)(disch:=first|with_reducible rfl|omega|(simp only[nA,nS,nD]<;>omega)|fail)only[go_sem,t0,t1,t4,t8,t36,t37,t38,gA6,c1,c2,cells_of g86,g86,wr_succ]
      refine⟨_,_,.sl (h6.next+1) 0 1 (.fix 1),rfl,?_,?_,by simp only[H.next_set,H.next_add];omega,by rw[get_set_other (by omega)];exact sD.get g46,by rw[est,get_set_same rfl],(by simp[ev_c,ev_put,t0]<;>rfl),(by simp[ev_c,ev_put,t1]<;>rfl),(by simp[ev_c,ev_put,t4]<;>rfl),(by simp[ev_c,ev_put,t8]<;>rfl),(by simp[ev_c,ev_put,t36]<;>rfl),(by simp[ev_c,ev_put,t37]<;>rfl),(by simp[ev_c,ev_put]<;>rfl)⟩
      ·rw[est]
       have:=(bsl1_own ((hs'.trans sB).trans sC) (j:Int)).keep (Keeps.set _ (h.next+1) (.cells .rw [.int .i64 (sayHi m m.wgs[j]),.sl (h6.next+1) 0 1 (.fix 1)])) (H.Sub.set hsD (by omega) (by simp only[H.next_add];omega) hw _) (fun b hb e=>by obtain⟨_,_,_,e2⟩:=hb;cases e2;simp only[H.next_add] at e;omega)
       rw[H.next_add] at this
       exact this
      ·intro b hb;obtain⟨_,_,_,e2⟩:=hb;cases e2;omega
     ·rw[if_neg (fun h=>c2 h.2)] at est
      simp -implicitDefEqProofs(maxSteps:=999999)(disch:=first|with_reducible rfl|omega|(simp only[nA,nS,nD]<;>omega)|fail)only[go_sem,t0,t1,t4,t8,t36,t37,t38,gA6,c1,c2,cells_of g86,wr_succ]
      exact⟨_,_,y,rfl,by rw[est];exact oy.mono (sB.trans sC),ny,by simp only[H.next_add];omega,(sB.trans sC).get g4',by rw[est];exact(sB.trans sC).get g8,(by simp[ev_c,ev_put,t0]<;>rfl),(by simp[ev_c,ev_put,t1]<;>rfl),(by simp[ev_c,ev_put,t4]<;>rfl),(by simp[ev_c,ev_put,t8]<;>rfl),(by simp[ev_c,ev_put,t36]<;>rfl),(by simp[ev_c,ev_put,t37]<;>rfl),(by simp[ev_c,ev_put]<;>rfl)⟩
    ·rw[if_neg (fun h=>c1 h.1)] at est
     simp -implicitDefEqProofs(maxSteps:=999999)(disch:=first|with_reducible rfl|omega|(simp only[nA,nS,nD]<;>omega)|fail)only[go_sem,t0,t1,t4,t8,t36,t37,t38,gA6,c1,wr_succ]
     exact⟨_,_,y,rfl,by rw[est];exact oy.mono (sB.trans sC),ny,by simp only[H.next_add];omega,(sB.trans sC).get g4',by rw[est];exact(sB.trans sC).get g8,(by simp[ev_c,ev_put,t0]<;>rfl),(by simp[ev_c,ev_put,t1]<;>rfl),(by simp[ev_c,ev_put,t4]<;>rfl),(by simp[ev_c,ev_put,t8]<;>rfl),(by simp[ev_c,ev_put,t36]<;>rfl),(by simp[ev_c,ev_put,t37]<;>rfl),(by simp[ev_c,ev_put]<;>rfl)⟩
   ·clear t0 t1 t4 t5 oy ny lt g4 g5
    rintro s ⟨tm,h',y,rfl,oy,ny,lt',g4',g8,t0,t1,t4,t8,t36,t37,t38⟩
    have y1:=oy.one
    rw[←hP] at oy g8
    simp -implicitDefEqProofs(maxSteps:=999999)(disch:=first|with_reducible rfl|omega|(simp only[nA,nS,nD]<;>omega)|fail)only[go_sem,t0,t1,t4,t8,t36,t37,t38,Int.lt_irrefl,cells_of g8,g4',y1,cells_one y1]
    exact q _ y (oy.keep (Keeps.set h' h.next _) (oy.1.set (Nat.le_refl _) (by omega) hw _) fun b hb e=>by have:=(ny b hb).2;omega)
end Go.Ab.Tryz
namespace Go.Ab.Tryz
open Go.Ab.Silk
def ProveR (m:Ml)(lot:Int)(low high:List Int)(e:Int):Prop:=
 (check m≠0∧e=check m∧lot=0∧low=[]∧high=[])∨(check m=0∧
  (((∃w,FeasM m allC w)∧e=6∧lot=0∧low=[]∧high=[])∨((¬∃w,FeasM m allC w)∧e=0∧(0≤lot∧lot<m.lots.length)∧(fewP m lot).1<(mostP m lot).1∧low=(mostP m lot).2∧high=(fewP m lot).2)))
set_option maxHeartbeats 2000000 in
theorem Prove_own {h:H}{v:V}{m:Ml}(hw:h.wf)(hm:MlIs h v m):Ev fnG fastA (.fn 9 [] []) [v] h fun u h'=>h.Sub h'∧∃lot x y low high e,u=.tup [.agg [.int .i64 lot,x,y],.int .i64 e]∧OwnC h h' x 1 (low.map encI)∧OwnC h h' y 1 (high.map encI)∧(low.length≤1000∧high.length≤1000)∧ProveR m lot low high e:=by
 refine Ev.gen fun Q q=>?_
 have hm0:=hm
 obtain⟨L,W,rfl,aL,aW⟩:=hm
 have hlenL:=aL.lenE
 refine Ev_body (fd:=c9) rfl rfl rfl ?_
 have s1:h.Sub ((h.add (.cells .rw [.int .i64 m.errs,L,W])).add (.cells .rw [.int .i64 0,.nils,.nils])):=(by repeat(first|assumption|exact H.Sub.refl (by assumption)|refine H.Sub.add ?_ _|refine H.Sub.set ?_ (by first|omega|(simp only[H.next_add,H.next_set,H.next_del]<;>omega)) (by first|omega|(simp only[H.next_add,H.next_set,H.next_del]<;>omega)) (by assumption) _))
 have g1:((h.add (.cells .rw [.int .i64 m.errs,L,W])).add (.cells .rw [.int .i64 0,.nils,.nils])).cells h.next=some [.int .i64 m.errs,L,W]:=by simp -implicitDefEqProofs(maxSteps:=999999)(disch:=first|with_reducible rfl|omega|(simp only[nA,nS,nD]<;>omega)|fail)only[go_sem]
 have r1:((h.add (.cells .rw [.int .i64 m.errs,L,W])).add (.cells .rw [.int .i64 0,.nils,.nils])).get (h.next+1)=some (.cells .rw [.int .i64 0,.nils,.nils]):=by simp -implicitDefEqProofs(maxSteps:=999999)(disch:=first|with_reducible rfl|omega|(simp only[nA,nS,nD]<;>omega)|fail)only[go_sem]
 have l1:((h.add (.cells .rw [.int .i64 m.errs,L,W])).add (.cells .rw [.int .i64 0,.nils,.nils])).next=h.next+2:=by simp only[H.next_add]
 simp -implicitDefEqProofs(maxSteps:=999999)(disch:=first|with_reducible rfl|omega|(simp only[nA,nS,nD]<;>omega)|fail)only[c9,go_sem]
 generalize((h.add (.cells .rw [.int .i64 m.errs,L,W])).add (.cells .rw [.int .i64 0,.nils,.nils]))=h1 at s1 g1 r1 l1⊢
 refine(opened_dk s1.wf (hm0.mono s1)).mono fun u h2 hu=>?_
 obtain⟨s12,hu⟩:=hu
 have s2:=s1.trans s12
 have l2:=s12.next
 have r2:=s12.get r1
 have nl:∀hh:H,h.Sub hh→OwnC h hh .nils 1 (([]:List Int).map encI):=fun hh w=>(OwnSl.nil w 1).c
 rcases hu with⟨c,rfl⟩|⟨c,d,rfl,hd⟩
 ·simp -implicitDefEqProofs(maxSteps:=999999)(disch:=first|with_reducible rfl|omega|(simp only[nA,nS,nD]<;>omega)|fail)only[go_sem,c,ne_eq,not_false_eq_true,r2,cells_of r2]
  have s3:h.Sub (h2.set (h.next+1) (.cells .rw [.int .i64 0,.nils,.nils])):=(by repeat(first|assumption|exact H.Sub.refl (by assumption)|refine H.Sub.add ?_ _|refine H.Sub.set ?_ (by first|omega|(simp only[H.next_add,H.next_set,H.next_del]<;>omega)) (by first|omega|(simp only[H.next_add,H.next_set,H.next_del]<;>omega)) (by assumption) _))
  exact q _ _ ⟨s3,0,.nils,.nils,[],[],check m,rfl,nl _ s3,nl _ s3,by simp,.inl ⟨c,rfl,rfl,rfl,rfl⟩⟩
 ·have g:=good_of c
  have gl:=g.lots
  simp -implicitDefEqProofs(maxSteps:=999999)(disch:=first|with_reducible rfl|omega|(simp only[nA,nS,nD]<;>omega)|fail)only[go_sem,ne_eq,eq_self,not_true_eq_false,s12.cells g1,hlenL]
  refine W_count m.lots.length (fun i s=>∃tm h',s=⟨tm,h',[]⟩∧h2.Sub h'∧(∀k:Int,0≤k→k<(i:Int)→(mostP m k).1≤(fewP m k).1)∧(Opd.t 2).ev tm=.ptr (h.next+1) 0∧(Opd.t 4).ev tm=.ptr d 0∧(Opd.t 20).ev tm=.int .i64 (m.lots.length:Int)∧(Opd.t 21).ev tm=.int .i64 (i:Int))
   ?_ ?_ (i:=0) (Nat.zero_le _) ⟨_,_,rfl,H.Sub.refl s2.wf,fun k k0 k1=>by omega,(by simp[ev_c,ev_put]<;>rfl),(by simp[ev_c,ev_put]<;>rfl),(by simp[ev_c,ev_put]<;>rfl),(by simp[ev_c,ev_put]<;>rfl)⟩
  ·rintro i s hi ⟨tm,h',rfl,hs,hno,t2,t4,t20,t21⟩
   have hi':(i:Int)<(m.lots.length:Int):=by omega
   have i0:(0:Int)≤(i:Int):=by omega
   have hs2:=s2.trans hs
   simp -implicitDefEqProofs(maxSteps:=999999)(disch:=first|with_reducible rfl|omega|(simp only[nA,nS,nD]<;>omega)|fail)only[go_sem,t2,t4,t20,t21,hi']
   refine most_ev g m.lots.length i (by omega) hi hs2.wf (hd.mono hs) _ fun h5 x o5=>?_
   have s5:=o5.1
   have x1:=o5.one
   simp -implicitDefEqProofs(maxSteps:=999999)(disch:=first|with_reducible rfl|omega|(simp only[nA,nS,nD]<;>omega)|fail)only[go_sem,t2,t4,t20,t21]
   refine few_ev g m.lots.length i (by omega) hi (hs2.trans s5).wf (hd.mono (hs.trans s5)) _ fun h6 y o6=>?_
   have s6:=o6.1
   have y1:=o6.one
   have s26:=(hs.trans s5).trans s6
   have w6:=s26.wf
   have l6:=s26.next
   have s68:h6.Sub ((((h6.add (.cells .rw [.int .i64 0,.nils])).add (.cells .rw [.int .i64 0,.nils])).set h6.next (.cells .rw [.int .i64 (mostP m (i:Int)).1,x])).set (h6.next+1) (.cells .rw [.int .i64 (fewP m (i:Int)).1,y])):=(by repeat(first|assumption|exact H.Sub.refl (by assumption)|refine H.Sub.add ?_ _|refine H.Sub.set ?_ (by first|omega|(simp only[H.next_add,H.next_set,H.next_del]<;>omega)) (by first|omega|(simp only[H.next_add,H.next_set,H.next_del]<;>omega)) (by assumption) _))
   have ga:((((h6.add (.cells .rw [.int .i64 0,.nils])).add (.cells .rw [.int .i64 0,.nils])).set h6.next (.cells .rw [.int .i64 (mostP m (i:Int)).1,x])).set (h6.next+1) (.cells .rw [.int .i64 (fewP m (i:Int)).1,y])).cells h6.next=some [.int .i64 (mostP m (i:Int)).1,x]:=by simp -implicitDefEqProofs(maxSteps:=999999)(disch:=first|with_reducible rfl|omega|(simp only[nA,nS,nD]<;>omega)|fail)only[go_sem]
   have gb:((((h6.add (.cells .rw [.int .i64 0,.nils])).add (.cells .rw [.int .i64 0,.nils])).set h6.next (.cells .rw [.int .i64 (mostP m (i:Int)).1,x])).set (h6.next+1) (.cells .rw [.int .i64 (fewP m (i:Int)).1,y])).cells (h6.next+1)=some [.int .i64 (fewP m (i:Int)).1,y]:=by simp -implicitDefEqProofs(maxSteps:=999999)(disch:=first|with_reducible rfl|omega|(simp only[nA,nS,nD]<;>omega)|fail)only[go_sem]
   simp -implicitDefEqProofs(maxSteps:=999999)(disch:=first|with_reducible rfl|omega|(simp only[nA,nS,nD]<;>omega)|fail)only[go_sem,t2,t4,t20,t21,x1,y1,cells_one x1,cells_one y1]
   generalize((((h6.add (.cells .rw [.int .i64 0,.nils])).add (.cells .rw [.int .i64 0,.nils])).set h6.next (.cells .rw [.int .i64 (mostP m (i:Int)).1,x])).set (h6.next+1) (.cells .rw [.int .i64 (fewP m (i:Int)).1,y]))=h8 at s68 ga gb⊢
   have r8:=(s26.trans s68).get r2
   have l8:=(s26.trans s68).next
   have bd1:=most_bd g i0 hi'
   have bd2:=few_bd g i0 hi'
   by_cases hc:(fewP m (i:Int)).1<(mostP m (i:Int)).1
   ·simp -implicitDefEqProofs(maxSteps:=999999)(disch:=first|with_reducible rfl|omega|(simp only[nA,nS,nD]<;>omega)|fail)only[go_sem,t2,t4,t20,t21,x1,y1,cells_one x1,cells_one y1,hc,r8,cells_of r8,ga,gb]
    have s28:=s2.trans (s26.trans s68)
    have s9:h.Sub (h8.set (h.next+1) (.cells .rw [.int .i64 (i:Int),x,y])):=H.Sub.set s28 (by omega) (by omega) hw _
    have l':=hs.next
    have ox:=((o5.base hs2).mono (s6.trans s68)).keep (Keeps.set h8 (h.next+1) (.cells .rw [.int .i64 (i:Int),x,y])) s9 fun b hb e=>by have:=(o5.blk hb).1;omega
    have oy:=((o6.base (hs2.trans s5)).mono s68).keep (Keeps.set h8 (h.next+1) (.cells .rw [.int .i64 (i:Int),x,y])) s9 fun b hb e=>by have:=(o6.blk hb).1;have:=s5.next;omega
    refine q _ _ ⟨s9,(i:Int),x,y,_,_,0,rfl,ox,oy,⟨by omega,by omega⟩,.inr ⟨c,.inr ⟨fun hf=>?_,rfl,⟨i0,hi'⟩,hc,rfl,rfl⟩⟩⟩
    have:=(agree_iff g).1 hf (i:Int) i0 hi'
    rw[←(most_ok g _ i0 hi').1,←(few_ok g _ i0 hi').1] at this
    omega
   ·have hno':∀k:Int,0≤k→k<((i+1:Nat):Int)→(mostP m k).1≤(fewP m k).1:=fun k k0 k1=>by
     by_cases e:k=(i:Int)
     ·rw[e];omega
     ·exact hno k k0 (by omega)
    simp -implicitDefEqProofs(maxSteps:=999999)(disch:=first|with_reducible rfl|omega|(simp only[nA,nS,nD]<;>omega)|fail)only[go_sem,t2,t4,t20,t21,ga,gb,hc,wr_succ]
    exact⟨_,_,rfl,s26.trans s68,hno',(by simp[ev_c,ev_put,t2]<;>rfl),(by simp[ev_c,ev_put,t4]<;>rfl),(by simp[ev_c,ev_put,t20]<;>rfl),(by simp[ev_c,ev_put]<;>rfl)⟩
  ·rintro s ⟨tm,h',rfl,hs,hno,t2,t4,t20,t21⟩
   have r3:=hs.get r2
   have l3:=hs.next
   have s3:h.Sub (h'.set (h.next+1) (.cells .rw [.int .i64 0,.nils,.nils])):=(s2.trans hs).set (by omega) (by omega) hw _
   simp -implicitDefEqProofs(maxSteps:=999999)(disch:=first|with_reducible rfl|omega|(simp only[nA,nS,nD]<;>omega)|fail)only[go_sem,t2,t4,t20,t21,Int.lt_irrefl,r3,cells_of r3]
   refine q _ _ ⟨s3,0,.nils,.nils,[],[],6,rfl,nl _ s3,nl _ s3,by simp,.inr ⟨c,.inl ⟨(agree_iff g).2 fun i i0 i1=>?_,rfl,rfl,rfl,rfl⟩⟩⟩
   have:=hno i i0 i1
   rw[(most_ok g i i0 i1).1,(few_ok g i i0 i1).1] at this
   exact this
theorem lineF_le (m:Ml):∀(k:Nat) (n:Int),(lineF m k n).length≤k
 |0,_=>by simp[lineF]
 |k+1,n=>by
  have:=lineF_le m k (frmAt m n)
  simp only[lineF]
  split<;>simp<;>omega
theorem line_le (m:Ml)(n:Int):(line m n).length≤13:=lineF_le m 13 n
theorem mem_take_succ {l:List Int}{i:Nat}(h:i<l.length){a:Int}:a∈l.take (i+1)↔a∈l.take i∨a=l[i]:=by
 rw[List.take_succ_eq_append_getElem h,List.mem_append,List.mem_singleton]
end Go.Ab.Tryz
namespace Go.Ab.Tryz
open Go.Ab.Silk
theorem sumL_zero:∀l:List Int,sumL (fun _=>0) l=0
 |[]=>rfl
 |_::l=>by simp only[sumL,sumL_zero l];rfl
theorem sumL_split (f:Int→Int)(q:Int→Int→Bool){ps:List Int}(hn:ps.Nodup):∀{l:List Int},(∀a∈l,∃p∈ps,q p a=true)→(∀a∈l,∀p∈ps,∀p'∈ps,q p a=true→q p' a=true→p=p')→
  sumL f l=sumL (fun p=>sumL f (l.filter (q p))) ps
 |[],_,_=>by simp only[List.filter_nil,sumL,sumL_zero]
 |a::l,h1,h2=>by
  have ih:=sumL_split f q hn (l:=l) (fun b hb=>h1 b (by simp[hb])) fun b hb=>h2 b (by simp[hb])
  obtain⟨p0,hp0,e0⟩:=h1 a (by simp)
  have e:sumL (fun p=>sumL f ((a::l).filter (q p))) ps=sumL (fun p=>up1 (fun _=>0) p0 (f a) p+sumL f (l.filter (q p))) ps:=sumL_congr fun p hp=>by
   by_cases hq:q p a=true
   ·have:p=p0:=h2 a (by simp) p hp p0 hp0 hq e0
    subst this
    rw[List.filter_cons_of_pos hq,up1_same];rfl
   ·rw[List.filter_cons_of_neg hq,up1_ne _ _ (fun h=>hq (by rw[h];exact e0)),Int.zero_add]
  rw[e,sumL_add,sumL_up1 hn hp0,sumL_zero,←ih]
  simp only[sumL];omega
section
variable {m:Ml}
theorem line_iff (g:Good m){a:Int}(ha:0≤a∧a<m.wgs.length)(p:Int):decide (p∈line m (wl m a))=true↔Anc (frmAt m) (wl m a) p:=by
 have:=wl_in g ha.1 ha.2
 rw[decide_eq_true_iff,mem_line g this.1 this.2]
theorem below (g:Good m){j i:Int}(j0:0≤j)(j1:j<m.lots.length)(h:Anc (frmAt m) j i)(hne:j≠i):∃p∈parts m i,Anc (frmAt m) j p:=by
 have:∀{j},Anc (frmAt m) j i→0≤j→j<m.lots.length→j≠i→∃p∈parts m i,Anc (frmAt m) j p:=by
  intro j h
  induction h with
  |self=>intro _ _ h;exact absurd rfl h
  | @up k hk h0 ih=>
   intro j0 j1 _
   have:=hk.le (forest g) j0 j1
   exact⟨k,((forest g).mem _ _).2 ⟨this.1,by omega,rfl⟩,hk⟩
 exact this h j0 j1 hne
theorem upper_le (g:Good m){w:Int→Int}(w0:∀i:Int,0≤i→i<m.lots.length→0≤w i)(hw:∀i:Int,0≤i→i<m.lots.length→parts m i≠[]→w i=sumL w (parts m i)):
  ∀(k:Nat) (i:Int),(m.lots.length:Int)-i≤k→0≤i→i<m.lots.length→∀l:List Int,InW m l→Within m i l→l.Pairwise (Apart m)→sumL (fun a=>w (wl m a)) l≤w i
 |0,i,h,i0,i1,_,_,_,_=>by omega
 |k+1,i,h,i0,i1,l,hin,hwi,hap=>by
  have F:=forest g
  by_cases hx:∃a∈l,wl m a=i
  ·obtain⟨a,ha,e⟩:=hx
   have:∀b∈l,b=a:=fun b hb=>by
    by_cases hb':b=a
    ·exact hb'
    ·exfalso
     obtain⟨i1,hi1,e1⟩:=List.getElem_of_mem ha
     obtain⟨i2,hi2,e2⟩:=List.getElem_of_mem hb
     have hp:=List.pairwise_iff_getElem.1 hap
     have:Apart m a b:=by
      rcases Nat.lt_trichotomy i1 i2 with h|h|h
      ·have:=hp i1 i2 hi1 hi2 h;rw[e1,e2] at this;exact this
      ·subst h;rw[e1] at e2;exact absurd e2.symm hb'
      ·have:=hp i2 i1 hi2 hi1 h;rw[e1,e2] at this;exact⟨this.2,this.1⟩
     exact this.2 (by rw[e];exact hwi b hb)
   have hnd:l.Nodup:=hap.imp fun h e=>by subst e;exact h.1 .self
   have hl:l=[a]:=by
    match l,ha,this,hnd with
    |[b],_,t,_=>rw[t b (by simp)]
    |b::c::r,_,t,n=>
     rw[List.nodup_cons] at n
     exact absurd (by rw[t b (by simp),t c (by simp)];simp) n.1
   rw[hl]
   simp only[sumL,e];omega
  ·by_cases hl:l=[]
   ·subst hl;exact w0 i i0 i1
   have key:∀a∈l,∃p∈parts m i,Anc (frmAt m) (wl m a) p:=fun a ha=>by
    have:=wl_in g (hin a ha).1 (hin a ha).2
    exact below g this.1 this.2 (hwi a ha) fun e=>hx ⟨a,ha,e⟩
   have hne:parts m i≠[]:=by
    obtain⟨a,ha⟩:=List.exists_mem_of_ne_nil l hl
    obtain⟨p,hp,_⟩:=key a ha
    intro e;rw[e] at hp;simp at hp
   rw[hw i i0 i1 hne,sumL_split _ (fun p a=>decide (p∈line m (wl m a))) (F.nodup i) (l:=l)
    (fun a ha=>by obtain⟨p,hp,hpa⟩:=key a ha;exact⟨p,hp,(line_iff g (hin a ha) p).2 hpa⟩)
    (fun a ha p hp p' hp' e e'=>by
     have:=wl_in g (hin a ha).1 (hin a ha).2
     exact Anc.one F this.1 this.2 ((line_iff g (hin a ha) p).1 e) ((line_iff g (hin a ha) p').1 e') (by rw[((F.mem _ _).1 hp).2.2,((F.mem _ _).1 hp').2.2]))]
   refine sumL_mono fun p hp=>?_
   obtain⟨p0,p1,pf⟩:=(F.mem _ _).1 hp
   have:=F.lt p p0 p1
   refine upper_le g w0 hw k p (by omega) p0 p1 _ (fun a ha=>hin a (List.mem_filter.1 ha).1) (fun a ha=>?_) (hap.filter _)
   rw[List.mem_filter] at ha
   exact(line_iff g (hin a ha.1) p).1 ha.2
theorem lower_le (g:Good m){w:Int→Int}(w0:∀i:Int,0≤i→i<m.lots.length→0≤w i)(hw:∀i:Int,0≤i→i<m.lots.length→parts m i≠[]→w i=sumL w (parts m i)):
  ∀(k:Nat) (i:Int),(m.lots.length:Int)-i≤k→0≤i→i<m.lots.length→∀l:List Int,InW m l→Within m i l→
   (∀j:Int,0≤j→j<m.lots.length→parts m j=[]→Anc (frmAt m) j i→∃a∈l,Anc (frmAt m) j (wl m a))→w i≤sumL (fun a=>w (wl m a)) l
 |0,i,h,i0,i1,_,_,_,_=>by omega
 |k+1,i,h,i0,i1,l,hin,hwi,hcv=>by
  have F:=forest g
  have hnn:∀a∈l,0≤w (wl m a):=fun a ha=>by
   have:=wl_in g (hin a ha).1 (hin a ha).2
   exact w0 _ this.1 this.2
  by_cases hx:∃a∈l,wl m a=i
  ·obtain⟨a,ha,e⟩:=hx
   have:=sumL_ge (x:=fun a=>w (wl m a)) hnn ha
   simp only[e] at this
   exact this
  ·have key:∀a∈l,∃p∈parts m i,Anc (frmAt m) (wl m a) p:=fun a ha=>by
    have:=wl_in g (hin a ha).1 (hin a ha).2
    exact below g this.1 this.2 (hwi a ha) fun e=>hx ⟨a,ha,e⟩
   have anti:∀a∈l,¬Anc (frmAt m) i (wl m a):=fun a ha h=>by
    have:=wl_in g (hin a ha).1 (hin a ha).2
    have h1:=h.le F i0 i1
    have h2:=(hwi a ha).le F this.1 this.2
    exact hx ⟨a,ha,by omega⟩
   have hne:parts m i≠[]:=fun e=>by
    obtain⟨a,ha,h⟩:=hcv i i0 i1 e .self
    exact anti a ha h
   rw[hw i i0 i1 hne,sumL_split _ (fun p a=>decide (p∈line m (wl m a))) (F.nodup i) (l:=l)
    (fun a ha=>by obtain⟨p,hp,hpa⟩:=key a ha;exact⟨p,hp,(line_iff g (hin a ha) p).2 hpa⟩)
    (fun a ha p hp p' hp' e e'=>by
     have:=wl_in g (hin a ha).1 (hin a ha).2
     exact Anc.one F this.1 this.2 ((line_iff g (hin a ha) p).1 e) ((line_iff g (hin a ha) p').1 e') (by rw[((F.mem _ _).1 hp).2.2,((F.mem _ _).1 hp').2.2]))]
   refine sumL_mono fun p hp=>?_
   obtain⟨p0,p1,pf⟩:=(F.mem _ _).1 hp
   have:=F.lt p p0 p1
   refine lower_le g w0 hw k p (by omega) p0 p1 _ (fun a ha=>hin a (List.mem_filter.1 ha).1) (fun a ha=>?_) (fun j j0 j1 hj hjp=>?_)
   ·rw[List.mem_filter] at ha
    exact(line_iff g (hin a ha.1) p).1 ha.2
   ·obtain⟨a,ha,hja⟩:=hcv j j0 j1 hj (by rw[←pf];exact .up hjp (by omega))
    have hap:Anc (frmAt m) (wl m a) p:=by
     rcases anc_chain hja hjp with h|h
     ·exact h
     ·rcases h.down with e|⟨_,e⟩
      ·rw[e];exact .self
      ·rw[pf] at e;exact absurd e (anti a ha)
    exact⟨a,List.mem_filter.2 ⟨ha,(line_iff g (hin a ha) p).2 hap⟩,hja⟩
theorem proof_sound (g:Good m){lot:Int}{low high:List Int}(l0:0≤lot)(l1:lot<m.lots.length)(hl:InW m low)(hh:InW m high)(hp:Proof m lot low high){c:Nat→Bool}(hc:∀a:Nat,(a:Int)∈low∨(a:Int)∈high→c a=true)
  (hf:∃w,FeasM m c w):sumLow m low≤sumHigh m high:=by
 obtain⟨w,f1,f2⟩:=hf
 obtain⟨b,o⟩:=(own_iff g).1 f1
 obtain⟨⟨wl1,wh1⟩,⟨al,ah⟩,cv⟩:=hp
 have w0:∀i:Int,0≤i→i<m.lots.length→0≤w i:=fun i i0 i1=>(b i i0 i1).1
 have says:∀a:Int,0≤a∧a<m.wgs.length→(a∈low∨a∈high)→wLo m a≤w (wl m a)∧w (wl m a)≤wHi m a:=fun a ha hm=>by
  obtain⟨k,rfl⟩:=Int.eq_ofNat_of_zero_le ha.1
  have hk:k<m.wgs.length:=by omega
  have:=o k hk (hc k hm)
  rw[wl_at hk,wLo_at hk,wHi_at hk]
  exact this
 have h1:sumLow m low≤w lot:=Int.le_trans (sumL_mono fun a ha=>(says a (hl a ha) (.inl ha)).1) (upper_le g w0 f2 (m.lots.length) lot (by omega) l0 l1 low hl wl1 al)
 have h2:w lot≤sumHigh m high:=by
  unfold sumHigh
  by_cases e:high=[]
  ·rw[if_pos e];exact(b lot l0 l1).2
  ·rw[if_neg e]
   exact Int.le_trans (lower_le g w0 f2 (m.lots.length) lot (by omega) l0 l1 high hh wh1 (cv.resolve_left e)) (sumL_mono fun a ha=>(says a (hh a ha) (.inr ha)).2)
 omega
end
end Go.Ab.Tryz
namespace Go.Ab
theorem subO_to {b o sz n c k:Nat}{tm:T V}{x:Opd}{kd:IntKind}(hx:x.ev tm=.int kd (k:Int))(hk:k≤n)(hc:n≤c):subO b o sz (bnd3 tm n c none (some x) none)=some (.sl b (bsel (Nat.beq c 0) o (o+0*sz)) k (.fix c)):=by
 have e1:Nat.ble 0 k=true:=by simp
 have e2:Nat.ble k c=true:=by simp;omega
 have e3:Nat.ble c c=true:=by simp
 simp only[bnd3,natO,hx,natk_cst,bnds,e1,e2,e3,og_true,subO,sub,Nat.sub_zero]
noncomputable def slcTo (h:H)(sz:Nat)(x k:V):Option V:=q_slc .nil h sz x none (some (.c k)) none
theorem q_slc_to (tm:T V)(h:H)(sz:Nat)(x:V)(y:Opd):q_slc tm h sz x none (some y) none=slcTo h sz x (y.ev tm):=rfl
theorem OwnC.to {h0 h:H}{x:V}{sz k:Nat}{kd:IntKind}{rows:List (List V)}(a:OwnC h0 h x sz rows)(hl:rows.length≤1000000)(hk:k≤rows.length)(hk0:0<rows.length)(h00:0<sz:=by omega):
  ∃y,slcTo h sz x (.int kd (k:Int))=some y∧SlAt h y sz (rows.take k):=by
 have hi:∀tm,(Opd.c (.int kd (k:Int))).ev tm=.int kd (k:Int):=fun _=>rfl
 obtain⟨a0,a1,a2⟩:=a
 have hr:∀r∈rows.take k,r.length=sz:=fun r hr=>a1 r (List.mem_of_mem_take hr)
 have hlt:(rows.take k).length=k:=by rw[List.length_take];omega
 have hfl:(rows.take k).flatten=rows.flatten.take (k*sz):=by
  have h1:=flatten_len hr
  rw[hlt] at h1
  have e:rows.flatten=(rows.take k).flatten++(rows.drop k).flatten:=by rw[←List.flatten_append,List.take_append_drop]
  rw[e,List.take_left' h1]
 rcases a2 with⟨rfl,rfl⟩|⟨b,rfl,l1,l2,hb⟩|⟨b,c,rest,rfl,l1,l2,hb,hc,hlc⟩
 ·simp at hk0
 ·have fl:=flatten_len a1
  have e1:Nat.ble 0 k=true:=by simp
  have e2:Nat.ble k rows.length=true:=by simpa using hk
  have e3:Nat.ble rows.length rows.length=true:=by simp
  have e4:Nat.blt 0 (rows.length+k)=true:=by rw[Nat.blt_eq];omega
  have e5:Nat.beq sz sz=true:=by simp
  have e6:Nat.beq 0 (0*sz)=true:=by simp
  have e7:Nat.ble (0+rows.length*sz) rows.flatten.length=true:=by rw[fl];simp
  have e8:slkRoom h b 0 sz=rows.length:=by simp only[slkRoom,hb,lenN_eq,fl,Nat.sub_zero];exact Nat.mul_div_cancel _ h00
  refine⟨.sl b (0+0*sz) k (.slk (0+0) 0),?_,?_⟩
  ·simp only[slcTo,q_slc,slkOk,hb,e5,e6,lenN_eq,e7,og_true,bnd3,natO,hi,natk_cst,bnds,e1,e2,e3,subS,e4,e8,Nat.sub_zero]
  ·refine⟨hr,by rw[hlt];omega,.inr ⟨b,0+0*sz,_,_,by rw[hlt],.inr (cells_of hb),?_⟩⟩
   refine getN_eq.2 ⟨by rw[hlt];simp[hfl],?_⟩
   rw[hlt,fl]
   have:=Nat.mul_le_mul_right sz hk;omega
 ·have fl:=flatten_len a1
  have hz:bsel (Nat.beq c 0) 0 (0+0*sz)=0:=by cases Nat.beq c 0<;>simp[bsel]
  refine⟨.sl b 0 k (.fix c),?_,?_⟩
  ·simp only[slcTo,q_slc]
   rw[subO_to (hi _) hk hlc,hz]
  ·refine⟨hr,by rw[hlt];omega,.inr ⟨b,0,_,_,by rw[hlt],.inr (cells_of hb),?_⟩⟩
   have:=Nat.mul_le_mul_right sz hk
   refine getN_eq.2 ⟨?_,by rw[hlt,List.length_append,fl];omega⟩
   rw[hlt,List.drop_zero,hfl,List.take_append_of_le_length (by rw[fl];omega)]
def CutC (h:H)(x:V)(sz:Nat)(rows:List (List V)):Prop:=SlAt h x sz rows∧((x=.nils∧rows=[])∨(∃b rest j,x=.sl b 0 rows.length (.slk 0 0)∧h.get b=some (.cells (.gr sz) (rows.flatten++rest))∧rest.length=j*sz)∨∃b o c,x=.sl b o rows.length (.fix c)∧rows.length≤c)
theorem CutC.keep {h h':H}{S:Nat→Prop}{x:V}{sz:Nat}{rows:List (List V)}(a:CutC h x sz rows)(k:Keeps S h h')(n:∀b,blkOf x b→¬S b):CutC h' x sz rows:=by
 refine⟨SlAt_keep a.1 k n,?_⟩
 rcases a.2 with a2|⟨b,rest,j,e,hb,hr⟩|a2
 ·exact .inl a2
 ·exact .inr (.inl ⟨b,rest,j,e,k.2 b _ hb (n b ⟨_,_,_,e⟩),hr⟩)
 ·exact .inr (.inr a2)
theorem CutC.mono {h h':H}{x:V}{sz:Nat}{rows:List (List V)}(a:CutC h x sz rows)(s:h.Sub h'):CutC h' x sz rows:=a.keep (Keeps.of s fun _=>False) fun _ _=>id
theorem OwnC.cut {h0 h:H}{x:V}{sz:Nat}{rows:List (List V)}(a:OwnC h0 h x sz rows)(hl:rows.length≤1000000):CutC h x sz rows:=by
 refine⟨a.sl (by omega),?_⟩
 rcases a.2.2 with a2|⟨b,e,_,_,hb⟩|⟨b,c,rest,e,_,_,hb,_,hc⟩
 ·exact .inl a2
 ·exact .inr (.inl ⟨b,[],0,e,by rw[List.append_nil];exact hb,by simp⟩)
 ·exact .inr (.inr ⟨b,0,c,e,hc⟩)
theorem CutC.to {h:H}{x:V}{sz k:Nat}{kd:IntKind}{rows:List (List V)}(a:CutC h x sz rows)(hl:rows.length≤1000000)(hk:k≤rows.length)(hk0:0<rows.length)(h00:0<sz:=by omega):
  ∃y,slcTo h sz x (.int kd (k:Int))=some y∧SlAt h y sz (rows.take k):=by
 have hi:∀tm,(Opd.c (.int kd (k:Int))).ev tm=.int kd (k:Int):=fun _=>rfl
 obtain⟨⟨a1,_,a0⟩,a2⟩:=a
 have hr:∀r∈rows.take k,r.length=sz:=fun r hr=>a1 r (List.mem_of_mem_take hr)
 have hlt:(rows.take k).length=k:=by rw[List.length_take];omega
 have fl:=flatten_len a1
 have hml:=Nat.mul_le_mul_right sz hk
 have hfl:(rows.take k).flatten=rows.flatten.take (k*sz):=by
  have h1:=flatten_len hr
  rw[hlt] at h1
  have e:rows.flatten=(rows.take k).flatten++(rows.drop k).flatten:=by rw[←List.flatten_append,List.take_append_drop]
  rw[e,List.take_left' h1]
 rcases a0 with⟨rfl,rfl⟩|⟨b,o,c,cs,rfl,hc,hg⟩
 ·simp at hk0
 have hc:h.cells b=some cs:=hc.resolve_left (fun e=>by rw[e] at hk0;simp at hk0)
 obtain⟨g1,g2⟩:=getN_eq.1 hg
 have fin:∀c',SlAt h (.sl b o k c') sz (rows.take k):=fun c'=>⟨hr,by rw[hlt];omega,.inr ⟨b,o,c',cs,by rw[hlt],.inr hc,getN_eq.2 ⟨by rw[hlt,hfl,g1,List.take_take,Nat.min_eq_left hml],by rw[hlt];omega⟩⟩⟩
 rcases a2 with⟨e,_⟩|⟨b',rest,j,e,hb,hr'⟩|⟨b',o',c',e,hcc⟩
 ·cases e
 ·injection e with x1 x2 x3 x4
  subst x1;subst x2;subst x4
  have e1:Nat.ble 0 k=true:=by simp
  have e2:Nat.ble k (rows.length+j)=true:=by simp;omega
  have e3:Nat.ble (rows.length+j) (rows.length+j)=true:=by simp
  have e4:Nat.blt 0 (rows.length+k)=true:=by rw[Nat.blt_eq];omega
  have e5:Nat.beq sz sz=true:=by simp
  have e6:Nat.beq 0 (0*sz)=true:=by simp
  have hall:(rows.flatten++rest).length=(rows.length+j)*sz:=by rw[List.length_append,fl,hr',Nat.add_mul]
  have e7:Nat.ble (0+rows.length*sz) (rows.flatten++rest).length=true:=by rw[hall,Nat.add_mul];simp
  have e8:slkRoom h b 0 sz=rows.length+j:=by simp only[slkRoom,hb,lenN_eq,hall,Nat.sub_zero];exact Nat.mul_div_cancel _ h00
  have hfin:=fin (.slk (0+0) 0)
  refine⟨.sl b (0+0*sz) k (.slk (0+0) 0),?_,by rw[Nat.zero_mul];exact hfin⟩
  simp only[slcTo,q_slc,slkOk,hb,e5,e6,lenN_eq,e7,og_true,bnd3,natO,hi,natk_cst,bnds,e1,e2,e3,subS,e4,e8,Nat.sub_zero]
 ·injection e with x1 x2 x3 x4
  subst x1;subst x2;subst x4
  refine⟨.sl b (bsel (Nat.beq c' 0) o (o+0*sz)) k (.fix c'),?_,?_⟩
  ·simp only[slcTo,q_slc]
   rw[subO_to (hi _) hk hcc]
  ·have:bsel (Nat.beq c' 0) o (o+0*sz)=o:=by cases Nat.beq c' 0<;>simp[bsel]
   rw[this];exact fin _
noncomputable def slcFrom (h:H)(sz:Nat)(x k:V):Option V:=q_slc .nil h sz x (some (.c k)) none none
theorem q_slc_from (tm:T V)(h:H)(sz:Nat)(x:V)(y:Opd):q_slc tm h sz x (some y) none none=slcFrom h sz x (y.ev tm):=rfl
theorem OwnC.from {h0 h:H}{x:V}{sz k:Nat}{kd:IntKind}{rows:List (List V)}(a:OwnC h0 h x sz rows)(hl:rows.length≤1000000)(hk:k≤rows.length)(hk0:0<rows.length)(h00:0<sz:=by omega):
  ∃y,slcFrom h sz x (.int kd (k:Int))=some y∧SlAt h y sz (rows.drop k):=by
 have hi:∀tm,(Opd.c (.int kd (k:Int))).ev tm=.int kd (k:Int):=fun _=>rfl
 obtain⟨a0,a1,a2⟩:=a
 have hr:∀r∈rows.drop k,r.length=sz:=fun r hr=>a1 r (List.mem_of_mem_drop hr)
 have hld:(rows.drop k).length=rows.length-k:=List.length_drop
 have hlt:(rows.take k).length=k:=by rw[List.length_take];omega
 have hfl:(rows.drop k).flatten=rows.flatten.drop (k*sz):=by
  have h1:=flatten_len (sz:=sz) (rows:=rows.take k) fun r hr=>a1 r (List.mem_of_mem_take hr)
  rw[hlt] at h1
  have e:rows.flatten=(rows.take k).flatten++(rows.drop k).flatten:=by rw[←List.flatten_append,List.take_append_drop]
  rw[e,List.drop_left' h1]
 have hmul:(rows.length-k)*sz+k*sz=rows.length*sz:=by rw[←Nat.add_mul,Nat.sub_add_cancel hk]
 have e1:Nat.ble k rows.length=true:=by simpa using hk
 have e3:Nat.ble rows.length rows.length=true:=by simp
 rcases a2 with⟨rfl,rfl⟩|⟨b,rfl,l1,l2,hb⟩|⟨b,c,rest,rfl,l1,l2,hb,hc,hlc⟩
 ·simp at hk0
 ·have fl:=flatten_len a1
  have e4:Nat.blt 0 (rows.length+rows.length)=true:=by rw[Nat.blt_eq];omega
  have e5:Nat.beq sz sz=true:=by simp
  have e6:Nat.beq 0 (0*sz)=true:=by simp
  have e7:Nat.ble (0+rows.length*sz) rows.flatten.length=true:=by rw[fl];simp
  have e8:slkRoom h b 0 sz=rows.length:=by simp only[slkRoom,hb,lenN_eq,fl,Nat.sub_zero];exact Nat.mul_div_cancel _ h00
  refine⟨.sl b (0+k*sz) (rows.length-k) (.slk (0+k) 0),?_,?_⟩
  ·simp only[slcFrom,q_slc,slkOk,hb,e5,e6,lenN_eq,e7,og_true,bnd3,natO,hi,natk_cst,bnds,e1,e3,subS,e4,e8]
  ·refine⟨hr,by rw[hld];omega,.inr ⟨b,0+k*sz,_,_,by rw[hld],.inr (cells_of hb),?_⟩⟩
   refine getN_eq.2 ⟨?_,by rw[hld,fl];omega⟩
   rw[hld,hfl,Nat.zero_add,List.take_of_length_le (by rw[List.length_drop,fl];omega)]
 ·have fl:=flatten_len a1
  have e2:Nat.ble rows.length c=true:=by simpa using hlc
  have e4:Nat.ble c c=true:=by simp
  refine⟨.sl b (bsel (Nat.beq c k) 0 (0+k*sz)) (rows.length-k) (.fix (c-k)),?_,?_⟩
  ·simp only[slcFrom,q_slc,bnd3,natO,hi,natk_cst,bnds,e1,e2,e4,og_true,subO,sub]
  ·refine⟨hr,by rw[hld];omega,.inr ⟨b,_,_,_,by rw[hld],.inr (cells_of hb),?_⟩⟩
   cases hb2:Nat.beq c k with
   |true=>
    have:=Nat.eq_of_beq_eq_true hb2
    have hz:rows.drop k=[]:=List.drop_eq_nil_of_le (by omega)
    rw[hz]
    exact getN_eq.2 ⟨by simp,by simp⟩
   |false=>
    show getN (0+k*sz) _ _=_
    refine getN_eq.2 ⟨?_,by rw[hld,List.length_append,fl];omega⟩
    rw[hld,hfl,Nat.zero_add,List.drop_append_of_le_length (by rw[fl];omega),List.take_append_of_le_length (by rw[List.length_drop,fl];omega),List.take_of_length_le (by rw[List.length_drop,fl];omega)]
namespace Tryz
open Go.Ab.Silk
theorem index_ev {h:H}{x:V}{l:List Int}(hx:SlAt h x 1 (l.map encI))(n:Int):Ev fnG fastA (.fn 144 [] []) [x,.int .i64 n] h fun v h'=>v=.int .i64 (fidx (fun a=>decide (n=a)) l 0)∧h'=h:=by
 have hb:=hx.boundE
 refine Ev_body (fd:=c144) rfl rfl rfl ?_
 simp -implicitDefEqProofs(maxSteps:=999999)(disch:=first|with_reducible rfl|omega|(simp only[nA,nS,nD]<;>omega)|fail)only[c144,go_sem,hx.lenE]
 refine W_count l.length (fun i s=>∃tm,s=⟨tm,h,[]⟩∧(Opd.t 0).ev tm=x∧(Opd.t 1).ev tm=.int .i64 n∧(Opd.t 7).ev tm=.int .i64 (l.length:Int)∧(Opd.t 8).ev tm=.int .i64 (i:Int)∧fidx (fun a=>decide (n=a)) l 0=fidx (fun a=>decide (n=a)) (l.drop i) i)
  ?_ ?_ (i:=0) (Nat.zero_le _) ⟨_,rfl,(by simp[ev_c,ev_put]<;>rfl),(by simp[ev_c,ev_put]<;>rfl),(by simp[ev_c,ev_put]<;>rfl),(by simp[ev_c,ev_put]<;>rfl),rfl⟩
 ·rintro i s hi ⟨tm,rfl,t0,t1,t7,t8,e9⟩
  have hi':(i:Int)<(l.length:Int):=by omega
  obtain⟨b,o,c,cs,rfl,hc,hq,hg,hn,hn0⟩:=hx.at hi
  by_cases he:n=l[i]
  ·simp -implicitDefEqProofs(maxSteps:=999999)(disch:=first|with_reducible rfl|omega|(simp only[nA,nS,nD]<;>omega)|fail)only[go_sem,t0,t1,t7,t8,hi',hq (nat_cst i),hc,hn0 (by omega),encI,he]
   rw[fidx_hit (p:=fun a=>decide (n=a)) hi (by simp[he])] at e9
   rw[←he,e9]
  ·simp -implicitDefEqProofs(maxSteps:=999999)(disch:=first|with_reducible rfl|omega|(simp only[nA,nS,nD]<;>omega)|fail)only[go_sem,t0,t1,t7,t8,hi',hq (nat_cst i),hc,hn0 (by omega),encI,he,wr_succ]
   exact⟨_,rfl,(by simp[ev_c,ev_put,t0]<;>rfl),(by simp[ev_c,ev_put,t1]<;>rfl),(by simp[ev_c,ev_put,t7]<;>rfl),(by simp[ev_c,ev_put]<;>rfl),by rw[e9,fidx_miss hi (by simp[he])]⟩
 ·rintro s ⟨tm,rfl,t0,t1,t7,t8,e9⟩
  simp -implicitDefEqProofs(maxSteps:=999999)(disch:=first|with_reducible rfl|omega|(simp only[nA,nS,nD]<;>omega)|fail)only[go_sem,t0,t1,t7,t8,Int.lt_irrefl]
  rw[e9];simp[fidx]
theorem contains_ev {h:H}{x:V}{l:List Int}(hx:SlAt h x 1 (l.map encI))(n:Int)(Q:V→H→Prop):Ev fnG fastA (.fn 86 [] []) [x,.int .i64 n] h Q=Q (.bool (decide (n∈l))) h:=by
 refine Ev.det (Ev_body (fd:=c86) rfl rfl rfl ?_) Q
 simp -implicitDefEqProofs(maxSteps:=999999)(disch:=first|with_reducible rfl|omega|(simp only[nA,nS,nD]<;>omega)|fail)only[c86,go_sem]
 refine(index_ev hx n).mono fun v h' hv=>?_
 obtain⟨rfl,rfl⟩:=hv
 simp -implicitDefEqProofs(maxSteps:=999999)(disch:=first|with_reducible rfl|omega|(simp only[nA,nS,nD]<;>omega)|fail)only[go_sem]
 congr 1
 rw[fidx_any,Bool.eq_iff_iff,List.any_eq_true,decide_eq_true_eq]
 exact⟨fun⟨a,ha,e⟩=>by(have:=of_decide_eq_true e;subst this;exact ha),fun ha=>⟨n,ha,by simp⟩⟩
def inL (l:List Int)(o:Bool):Nat→Bool:=fun i=> !(decide ((i:Int)∈l)==o)
theorem agree1_pure {h:H}{a b:Nat}{x:V}{l:List Int}{o:Bool}(ha:h.cells a=some [x])(hx:SlAt h x 1 (l.map encI))(hb:h.cells b=some [.bool o])(i:Nat):PureA h (.fn 145 [] [.ptr a 0,.ptr b 0]) [.int .i64 (i:Int)] (.bool (inL l o i)):=fun h1 hs=>by
 have ha1:=hs.cells ha
 have hb1:=hs.cells hb
 refine Ev_body (fd:=c145) rfl rfl rfl ?_
 simp -implicitDefEqProofs(maxSteps:=999999)(disch:=first|with_reducible rfl|omega|(simp only[nA,nS,nD]<;>omega)|fail)only[c145,go_sem,ha1,contains_ev (hx.mono hs),hb1]
 exact⟨rfl,H.Sub.refl hs.wf⟩
noncomputable def agreeB (m:Ml)(c:Nat→Bool):Bool:= @decide (∃w,FeasM m c w) (Classical.propDecidable _)
theorem agreeB_iff {m:Ml}{c:Nat→Bool}{t:Bool}(h:t=true↔∃w,FeasM m c w):t=agreeB m c:=by
 by_cases e:∃w,FeasM m c w
 ·rw[h.2 e];exact(@decide_eq_true _ (Classical.propDecidable _) e).symm
 ·have ht:t=false:=by
   cases t with
   |false=>rfl
   |true=>exact absurd (h.1 rfl) e
  rw[ht];exact(@decide_eq_false _ (Classical.propDecidable _) e).symm
theorem agree_ev {h:H}{d:Nat}{m:Ml}{x:V}{l:List Int}(hw:h.wf)(hd:DkAt h d m)(g:Good m)(hx:SlAt h x 1 (l.map encI))(o:Bool)(Q:V→H→Prop)(q:∀h',h.Sub h'→Q (.bool (agreeB m (inL l o))) h'):
  Ev fnG fastA (.fn 87 [] []) [.ptr d 0,x,.bool o] h Q:=by
 have gl:=g.lots
 refine Ev_body (fd:=c87) rfl rfl rfl ?_
 have s2:h.Sub ((h.add (.cells .rw [x])).add (.cells .rw [.bool o])):=(by repeat(first|assumption|exact H.Sub.refl (by assumption)|refine H.Sub.add ?_ _|refine H.Sub.set ?_ (by first|omega|(simp only[H.next_add,H.next_set,H.next_del]<;>omega)) (by first|omega|(simp only[H.next_add,H.next_set,H.next_del]<;>omega)) (by assumption) _))
 have hx1:=hx.one
 have ga:((h.add (.cells .rw [x])).add (.cells .rw [.bool o])).cells h.next=some [x]:=by simp -implicitDefEqProofs(maxSteps:=999999)(disch:=first|with_reducible rfl|omega|(simp only[nA,nS,nD]<;>omega)|fail)only[go_sem]
 have gb:((h.add (.cells .rw [x])).add (.cells .rw [.bool o])).cells (h.next+1)=some [.bool o]:=by simp -implicitDefEqProofs(maxSteps:=999999)(disch:=first|with_reducible rfl|omega|(simp only[nA,nS,nD]<;>omega)|fail)only[go_sem]
 simp -implicitDefEqProofs(maxSteps:=999999)(disch:=first|with_reducible rfl|omega|(simp only[nA,nS,nD]<;>omega)|fail)only[c87,go_sem,hx1,cells_one hx1,zerosB]
 refine bounds_ev (c:=inL l o) s2.wf (hd.mono s2) g rfl (fun i _=>agree1_pure ga (hx.mono s2) gb i) _ fun r h3 s23 hr=>?_
 have hz:(h3.add (.cells .rw (encB zeroB))).get h3.next=some (.cells .rw (encB zeroB)):=get_add_new rfl
 have s3:=s2.trans s23
 rcases tightR_sem g hr with⟨rfl,hno⟩|⟨b,rfl,hex,ht⟩
 ·simp -implicitDefEqProofs(maxSteps:=999999)(disch:=first|with_reducible rfl|omega|(simp only[nA,nS,nD]<;>omega)|fail)only[go_sem,tightV,zerosB,lenB,put_B zeroB zeroB hz]
  have:=q _ (s3.add (.cells .rw (encB zeroB)))
  rw[←agreeB_iff (t:=false) (by simpa using hno)] at this;exact this
 ·simp -implicitDefEqProofs(maxSteps:=999999)(disch:=first|with_reducible rfl|omega|(simp only[nA,nS,nD]<;>omega)|fail)only[go_sem,tightV,zerosB,lenB,put_B b zeroB hz]
  have:=q _ (s3.add (.cells .rw (encB b)))
  rw[←agreeB_iff (t:=true) (by simpa using hex.feas g)] at this;exact this
def dupAt (l:List Int):Nat→Bool
 |0=>false
 |k+1=>dupAt l k||(match l[k]? with|some n=>decide (n∈l.take k)|none=>false)
theorem dupAt_step {l:List Int}{k:Nat}(h:k<l.length):dupAt l (k+1)=(dupAt l k||decide (l[k]∈l.take k)):=by
 simp only[dupAt]
 rw[List.getElem?_eq_getElem h]
theorem dupAt_up {l:List Int}{k:Nat}(h:dupAt l k=true):∀j,k≤j→dupAt l j=true:=by
 intro j hj
 induction j with
 |zero=>rw[show k=0 by omega] at h;exact h
 |succ j ih=>
  by_cases e:k=j+1
  ·rw[←e];exact h
  ·simp only[dupAt,ih (by omega),Bool.true_or]
def knownB (m:Ml)(l:List Int):Bool:=l.all fun n=>inB n 0 ((m.wgs.length:Int)-1)
def listE (m:Ml)(l:List Int):Int:=if check m≠0 then check m else if knownB m l=false then 1 else if dupAt l l.length=true then 5 else 0
set_option maxHeartbeats 2000000 in
theorem Agree_cut {h:H}{v x:V}{m:Ml}{l:List Int}(hw:h.wf)(hm:MlIs h v m)(hx:CutC h x 1 (l.map encI))(hl:l.length≤1000):Ev fnG fastA (.fn 25 [] []) [v,x] h fun u h'=>h.Sub h'∧∃t,u=.tup [.bool t,.int .i64 (listE m l)]∧
  ((listE m l≠0∧t=false)∨(listE m l=0∧t=agreeB m (inL l false))):=by
 refine Ev.gen fun Q q=>?_
 have hm0:=hm
 have aX:=hx.1
 obtain⟨L,W,rfl,aL,aW⟩:=hm
 have hlenX:=aX.lenE
 refine Ev_body (fd:=c25) rfl rfl rfl ?_
 have s2:h.Sub (h.add (.cells .rw [.int .i64 m.errs,L,W])):=(by repeat(first|assumption|exact H.Sub.refl (by assumption)|refine H.Sub.add ?_ _|refine H.Sub.set ?_ (by first|omega|(simp only[H.next_add,H.next_set,H.next_del]<;>omega)) (by first|omega|(simp only[H.next_add,H.next_set,H.next_del]<;>omega)) (by assumption) _))
 simp -implicitDefEqProofs(maxSteps:=999999)(disch:=first|with_reducible rfl|omega|(simp only[nA,nS,nD]<;>omega)|fail)only[c25,go_sem]
 refine(opened_dk s2.wf (hm0.mono s2)).mono fun u h3 hu=>?_
 obtain⟨s23,hu⟩:=hu
 have s3:=s2.trans s23
 have g1:h3.cells h.next=some [.int .i64 m.errs,L,W]:=s23.cells (cells_add_new rfl)
 rcases hu with⟨c,rfl⟩|⟨c,d,rfl,hd⟩
 ·have e1:listE m l=check m:=by simp[listE,c]
  simp -implicitDefEqProofs(maxSteps:=999999)(disch:=first|with_reducible rfl|omega|(simp only[nA,nS,nD]<;>omega)|fail)only[go_sem,ne_eq,c,not_false_eq_true]
  exact q _ _ ⟨s3,false,by rw[e1],.inl ⟨by rw[e1];exact c,rfl⟩⟩
 have g:=good_of c
 simp -implicitDefEqProofs(maxSteps:=999999)(disch:=first|with_reducible rfl|omega|(simp only[nA,nS,nD]<;>omega)|fail)only[go_sem,ne_eq,not_true_eq_false,g1]
 refine(everyInt_ev (p:=fun n=>inB n 0 ((m.wgs.length:Int)-1)) s3.wf (aX.mono s3) fun n _ h1 hs=>by
  rw[Ev_fn]
  exact weighing_ev ((hm0.mono s3).mono hs) n _ (fun h' s=>⟨rfl,s⟩) hs.wf).mono fun u h4 hu=>?_
 obtain⟨rfl,s34⟩:=hu
 have s4:=s3.trans s34
 cases ck:l.all fun n=>inB n 0 ((m.wgs.length:Int)-1)
 ·have e1:listE m l=1:=by simp only[listE,c,ne_eq,not_true_eq_false, ↓reduceIte,knownB,ck]
  simp -implicitDefEqProofs(maxSteps:=999999)(disch:=first|with_reducible rfl|omega|(simp only[nA,nS,nD]<;>omega)|fail)only[go_sem,Bool.not_false]
  exact q _ _ ⟨s4,false,by rw[e1],.inl ⟨by rw[e1];omega,rfl⟩⟩
 have aX4:=aX.mono s4
 simp -implicitDefEqProofs(maxSteps:=999999)(disch:=first|with_reducible rfl|omega|(simp only[nA,nS,nD]<;>omega)|fail)only[go_sem,Bool.not_true,hlenX]
 refine W_count l.length (fun i s=>∃tm,s=⟨tm,h4,[]⟩∧dupAt l i=false∧(Opd.t 1).ev tm=x∧(Opd.t 6).ev tm=.ptr d 0∧(Opd.t 25).ev tm=x∧(Opd.t 26).ev tm=.int .i64 (l.length:Int)∧(Opd.t 27).ev tm=.int .i64 (i:Int))
  ?_ ?_ (i:=0) (Nat.zero_le _) ⟨_,rfl,rfl,(by simp[ev_c,ev_put]<;>rfl),(by simp[ev_c,ev_put]<;>rfl),(by simp[ev_c,ev_put]<;>rfl),(by simp[ev_c,ev_put]<;>rfl),(by simp[ev_c,ev_put]<;>rfl)⟩
 ·rintro i s hi ⟨tm,rfl,hdup,t1,t6,t25,t26,t27⟩
  have hi':(i:Int)<(l.length:Int):=by omega
  obtain⟨b,o,cc,cs,rfl,hc,hq,hg,hn,hn0⟩:=aX4.at hi
  have hst:=dupAt_step hi
  rw[hdup,Bool.false_or] at hst
  obtain⟨y,hy,aY⟩:=(hx.mono s4).to (kd:=.i64) (k:=i) (by simp;omega) (by simp;omega) (by simp;omega)
  rw[←List.map_take] at aY
  simp -implicitDefEqProofs(maxSteps:=999999)(disch:=first|with_reducible rfl|omega|(simp only[nA,nS,nD]<;>omega)|fail)only[go_sem,t1,t6,t25,t26,t27,hi',hq (nat_cst i),hc,hn0 (by omega),encI,q_slc_to,hy,contains_ev aY]
  by_cases hd2:l[i]∈l.take i
  ·have e1:listE m l=5:=by
    have:=dupAt_up (l:=l) (k:=i+1) (by rw[hst];simp[hd2]) l.length (by omega)
    simp only[listE,c,ne_eq,not_true_eq_false, ↓reduceIte,knownB,ck,this,Bool.true_eq_false]
   simp -implicitDefEqProofs(maxSteps:=999999)(disch:=first|with_reducible rfl|omega|(simp only[nA,nS,nD]<;>omega)|fail)only[go_sem,hd2]
   exact q _ _ ⟨s4,false,by rw[e1],.inl ⟨by rw[e1];omega,rfl⟩⟩
  ·simp -implicitDefEqProofs(maxSteps:=999999)(disch:=first|with_reducible rfl|omega|(simp only[nA,nS,nD]<;>omega)|fail)only[go_sem,hd2,t27,wr_succ]
   exact⟨_,rfl,by rw[hst];simp[hd2],(by simp[ev_c,ev_put,t1]<;>rfl),(by simp[ev_c,ev_put,t6]<;>rfl),(by simp[ev_c,ev_put,t25]<;>rfl),(by simp[ev_c,ev_put,t26]<;>rfl),(by simp[ev_c,ev_put]<;>rfl)⟩
 ·rintro s ⟨tm,rfl,hdup,t1,t6,t25,t26,t27⟩
  have e1:listE m l=0:=by simp only[listE,c,ne_eq,not_true_eq_false, ↓reduceIte,knownB,ck,hdup,Bool.true_eq_false,Bool.false_eq_true]
  simp -implicitDefEqProofs(maxSteps:=999999)(disch:=first|with_reducible rfl|omega|(simp only[nA,nS,nD]<;>omega)|fail)only[go_sem,t1,t6,t25,t26,t27,Int.lt_irrefl]
  refine agree_ev s4.wf (hd.mono s34) g aX4 false _ fun h5 s45=>?_
  simp -implicitDefEqProofs(maxSteps:=999999)(disch:=first|with_reducible rfl|omega|(simp only[nA,nS,nD]<;>omega)|fail)only[go_sem]
  exact q _ _ ⟨s4.trans s45,_,by rw[e1],.inr ⟨e1,rfl⟩⟩
end Tryz
end Go.Ab
namespace Go.Ab
def dd {α:Type}[DecidableEq α](l:List α):Nat→List α
 |0=>[]
 |n+1=>match l[n]? with
  |none=>dd l n
  |some x=>if 0<n∧l[n-1]? =some x then dd l n else dd l n++[x]
section
variable {α:Type} [DecidableEq α] {l:List α}
theorem dd_same {n:Nat}{x:α}(h:l[n]? =some x)(h2:0<n∧l[n-1]? =some x):dd l (n+1)=dd l n:=by simp only[dd,h];rw[if_pos h2]
theorem dd_new {n:Nat}{x:α}(h:l[n]? =some x)(h2:¬(0<n∧l[n-1]? =some x)):dd l (n+1)=dd l n++[x]:=by simp only[dd,h];rw[if_neg h2]
theorem dd_mem {x:α}:∀{n:Nat},x∈dd l n↔∃i,i<n∧l[i]? =some x
 |0=>by simp[dd]
 |n+1=>by
  have ih:=dd_mem (x:=x) (n:=n)
  cases h:l[n]? with
  |none=>
   simp only[dd,h]
   rw[ih]
   constructor
   ·rintro⟨i,hi,e⟩;exact⟨i,by omega,e⟩
   ·rintro⟨i,hi,e⟩
    by_cases hn:i=n
    ·subst hn;rw[h] at e;cases e
    ·exact⟨i,by omega,e⟩
  |some z=>
   by_cases h2:0<n∧l[n-1]? =some z
   ·rw[dd_same h h2,ih]
    constructor
    ·rintro⟨i,hi,e⟩;exact⟨i,by omega,e⟩
    ·rintro⟨i,hi,e⟩
     by_cases hn:i=n
     ·subst hn;rw[h] at e;cases e;exact⟨i-1,by omega,h2.2⟩
     ·exact⟨i,by omega,e⟩
   ·rw[dd_new h h2,List.mem_append,List.mem_singleton,ih]
    constructor
    ·rintro(⟨i,hi,e⟩|rfl)
     ·exact⟨i,by omega,e⟩
     ·exact⟨n,by omega,h⟩
    ·rintro⟨i,hi,e⟩
     by_cases hn:i=n
     ·subst hn;rw[h] at e;cases e;exact .inr rfl
     ·exact .inl ⟨i,by omega,e⟩
theorem dd_all {x:α}:x∈dd l l.length↔x∈l:=by
 rw[dd_mem,List.mem_iff_getElem?]
 constructor
 ·rintro⟨i,_,e⟩;exact⟨i,e⟩
 ·rintro⟨i,e⟩
  refine⟨i,?_,e⟩
  rcases Nat.lt_or_ge i l.length with q|q
  ·exact q
  ·rw[List.getElem?_eq_none q] at e;cases e
theorem dd_len:∀{n:Nat},(dd l n).length≤n
 |0=>by simp[dd]
 |n+1=>by
  have ih:=dd_len (n:=n)
  unfold dd
  split
  ·omega
  ·split
   ·omega
   ·rw[List.length_append,List.length_singleton];omega
end
theorem dd_rise {l:List Int}(h:l.Pairwise (· ≤ ·)):∀{n:Nat},n≤l.length→(dd l n).Pairwise (· < ·)
 |0,_=>by simp[dd]
 |n+1,hn=>by
  have ih:=dd_rise h (n:=n) (by omega)
  have hx:l[n]? =some l[n]:=List.getElem?_eq_getElem (by omega)
  by_cases h2:0<n∧l[n-1]? =some l[n]
  ·rw[dd_same hx h2];exact ih
  ·rw[dd_new hx h2,List.pairwise_append]
   refine⟨ih,List.pairwise_singleton ..,fun a ha b hb=>?_⟩
   rw[List.mem_singleton] at hb;subst hb
   obtain⟨i,hi,e⟩:=dd_mem.1 ha
   have hp:=List.pairwise_iff_getElem.1 h
   rw[List.getElem?_eq_getElem (by omega)] at e
   cases e
   have h3:=hp i n (by omega) (by omega) hi
   have hm:=hp (n-1) n (by omega) (by omega) (by omega)
   have him:l[i]≤l[n-1]:=by
    by_cases e:i=n-1
    ·subst e;exact Int.le_refl _
    ·exact hp i (n-1) (by omega) (by omega) (by omega)
   have hne:l[n-1]≠l[n]:=fun e=>h2 ⟨by omega,by rw[List.getElem?_eq_getElem (by omega),e]⟩
   omega
theorem rise_eq:∀{l r:List Int},l.Pairwise (· < ·)→r.Pairwise (· < ·)→(∀x,x∈l↔x∈r)→l=r
 |[],[],_,_,_=>rfl
 |[],b::r,_,_,h=>absurd ((h b).2 (List.mem_cons_self ..)) List.not_mem_nil
 |a::l,[],_,_,h=>absurd ((h a).1 (List.mem_cons_self ..)) List.not_mem_nil
 |a::l,b::r,h1,h2,h=>by
  rw[List.pairwise_cons] at h1 h2
  have e:a=b:=by
   have ha:=(h a).1 (List.mem_cons_self ..)
   have hb:=(h b).2 (List.mem_cons_self ..)
   rcases List.mem_cons.1 ha with ha|ha
   ·exact ha
   rcases List.mem_cons.1 hb with hb|hb
   ·exact hb.symm
   have:=h1.1 b hb;have:=h2.1 a ha;omega
  subst e
  rw[rise_eq h1.2 h2.2 fun x=>?_]
  constructor
  ·intro hx
   rcases List.mem_cons.1 ((h x).1 (List.mem_cons_of_mem _ hx)) with e|e
   ·have:=h1.1 x hx;omega
   ·exact e
  ·intro hx
   rcases List.mem_cons.1 ((h x).2 (List.mem_cons_of_mem _ hx)) with e|e
   ·have:=h2.1 x hx;omega
   ·exact e
def risL (l:List Int):List Int:=dd (sortI l) (sortI l).length
theorem risL_mem {l:List Int}{x:Int}:x∈risL l↔x∈l:=by unfold risL;rw[dd_all];exact(sortI_perm l).mem_iff
theorem risL_rise (l:List Int):(risL l).Pairwise (· < ·):=dd_rise (sortI_sorted l) (Nat.le_refl _)
theorem nth_iv {L:List Int}{k:Nat}(h:k<L.length):nth k (L.map iv)=some (.int .i64 (L.getD k 0)):=by
 rw[nth_eq,List.getElem?_map,List.getElem?_eq_getElem h,List.getD_eq_getElem?_getD,List.getElem?_eq_getElem h];rfl
theorem put_iv {L:List Int}{i:Nat}(h:i<L.length)(v:Int):putN i [.int .i64 v] (L.map iv)=some ((L.set i v).map iv):=by
 have e:L=L.take i++L[i]::L.drop (i+1):=by rw[←List.drop_eq_getElem_cons h,List.take_append_drop]
 have:=putN_app (pre:=(L.take i).map iv) (new:=[iv v]) (old:=[iv L[i]]) (rest:=(L.drop (i+1)).map iv) rfl
 rw[List.length_map,List.length_take,Nat.min_eq_left (by omega)] at this
 have e2:L.map iv=(L.take i).map iv++[iv L[i]]++(L.drop (i+1)).map iv:=by
  rw[show[iv L[i]]=[L[i]].map iv from rfl,←List.map_append,←List.map_append,List.append_assoc]
  exact congrArg (List.map iv) e
 have e3:(L.set i v).map iv=(L.take i).map iv++[iv v]++(L.drop (i+1)).map iv:=by
  rw[List.set_eq_take_append_cons_drop,if_pos h];simp
 rw[e2,e3];exact this
theorem slcFrom_gr {h:H}{b k:Nat}{L:List Int}(hb:h.get b=some (.cells (.gr 1) (L.map iv)))(h0:0<L.length)(hk:k≤L.length):slcFrom h 1 (.sl b 0 L.length (.slk 0 0)) (.int .i64 (k:Int))=some (.sl b k (L.length-k) (.slk k 0)):=by
 have hi:∀tm:T V,(Opd.c (.int .i64 (k:Int))).ev tm=.int .i64 (k:Int):=fun _=>rfl
 have e1:Nat.ble k L.length=true:=by simp;exact hk
 have e2:Nat.ble L.length L.length=true:=by simp
 have e4:Nat.blt 0 (L.length+L.length)=true:=by rw[Nat.blt_eq];omega
 have e5:Nat.beq 1 1=true:=rfl
 have e6:Nat.beq 0 (0*1)=true:=rfl
 have e7:Nat.ble L.length (L.map iv).length=true:=by simp
 have e8:slkRoom h b 0 1=L.length:=by simp[slkRoom,hb,lenN_eq]
 simp only[slcFrom,q_slc,slkOk,hb,lenN_eq,e5,e6,e7,og_true,e8,bnd3,natO,hi,natk_cst,bnds,e1,e2,subS,e4,Nat.mul_one,Nat.zero_add]
theorem slcTo_gr {h:H}{b k:Nat}{L:List Int}(hb:h.get b=some (.cells (.gr 1) (L.map iv)))(h0:0<L.length)(hk:k≤L.length):slcTo h 1 (.sl b 0 L.length (.slk 0 0)) (.int .i64 (k:Int))=some (.sl b 0 k (.slk 0 0)):=by
 have hi:∀tm:T V,(Opd.c (.int .i64 (k:Int))).ev tm=.int .i64 (k:Int):=fun _=>rfl
 have e1:Nat.ble 0 k=true:=by simp
 have e2:Nat.ble k L.length=true:=by simp;exact hk
 have e3:Nat.ble L.length L.length=true:=by simp
 have e4:Nat.blt 0 (L.length+k)=true:=by rw[Nat.blt_eq];omega
 have e5:Nat.beq 1 1=true:=rfl
 have e6:Nat.beq 0 (0*1)=true:=rfl
 have e7:Nat.ble L.length (L.map iv).length=true:=by simp
 have e8:slkRoom h b 0 1=L.length:=by simp[slkRoom,hb,lenN_eq]
 simp only[slcTo,q_slc,slkOk,hb,lenN_eq,e5,e6,e7,og_true,e8,bnd3,natO,hi,natk_cst,bnds,e1,e2,e3,subS,e4,Nat.mul_one,Nat.zero_add,Nat.sub_zero]
theorem getD_some {l:List Int}{i:Nat}(h:i<l.length):l[i]? =some (l.getD i 0):=by rw[List.getD_eq_getElem?_getD,List.getElem?_eq_getElem h];rfl
theorem dd_ne {l:List Int}{n:Nat}(hn:n<l.length)(h:n=0∨l.getD n 0≠l.getD (n-1) 0):dd l (n+1)=dd l n++[l.getD n 0]:=dd_new (getD_some hn) fun⟨h1,h2⟩=>by
 rcases h with h|h
 ·omega
 ·rw[getD_some (by omega)] at h2;exact h (Option.some.inj h2).symm
theorem dd_eq {l:List Int}{n:Nat}(hn:n<l.length)(h0:0<n)(h:l.getD n 0=l.getD (n-1) 0):dd l (n+1)=dd l n:=dd_same (getD_some hn) ⟨h0,by rw[getD_some (by omega),h]⟩
theorem take_getD {l:List Int}{n:Nat}(hn:n<l.length):l.take (n+1)=l.take n++[l.getD n 0]:=by
 rw[List.take_add_one,getD_some hn];rfl
theorem SlAt.cut {h:H}{b m:Nat}{L:List Int}{c:Cap}(hb:h.get b=some (.cells (.gr 1) (L.map iv)))(hm:m≤L.length)(hl:L.length≤1000000):SlAt h (.sl b 0 m c) 1 ((L.take m).map fun n=>[.int .i64 n]):=by
 refine⟨fun r hr=>by obtain⟨_,_,rfl⟩:=List.mem_map.1 hr;rfl,by rw[List.length_map,List.length_take];omega,.inr ⟨b,0,c,L.map iv,?_,.inr (cells_of hb),?_⟩⟩
 ·rw[List.length_map,List.length_take,Nat.min_eq_left hm]
 ·have e:((L.take m).map fun n=>[V.int .i64 n]).flatten=(L.take m).map iv:=by
   generalize L.take m=K
   induction K with
   |nil=>rfl
   |cons a K ih=>rw[List.map_cons,List.flatten_cons,ih];rfl
  rw[e,List.length_map,List.length_take,Nat.min_eq_left hm,Nat.mul_one]
  refine getN_eq.2 ⟨?_,by rw[List.length_map];omega⟩
  rw[List.drop_zero,←List.map_take]
theorem CutC.ints {h:H}{b m:Nat}{L:List Int}(hb:h.get b=some (.cells (.gr 1) (L.map iv)))(hm:m≤L.length)(hl:L.length≤1000000):CutC h (.sl b 0 m (.slk 0 0)) 1 ((L.take m).map fun n=>[.int .i64 n]):=by
 refine⟨SlAt.cut (c:=.slk 0 0) hb hm hl,.inr (.inl ⟨b,(L.drop m).map iv,L.length-m,?_,?_,?_⟩)⟩
 ·rw[List.length_map,List.length_take,Nat.min_eq_left hm]
 ·have e:∀K:List Int,(K.map fun n=>[V.int .i64 n]).flatten=K.map iv:=fun K=>by
   induction K with
   |nil=>rfl
   |cons a K ih=>rw[List.map_cons,List.flatten_cons,ih];rfl
  rw[e,←List.map_append,List.take_append_drop];exact hb
 ·rw[List.length_map,List.length_drop,Nat.mul_one]
namespace Tryz
open Go.Proofs
theorem sortI_len (l:List Int):(sortI l).length=l.length:=(sortI_perm l).length_eq
theorem flatV (L:List Int):(L.map encI).flatten=L.map (V.int .i64):=by
 induction L with
 |nil=>rfl
 |cons a L ih=>rw[List.map_cons,List.flatten_cons,ih];rfl
theorem allOneV (L:List Int):allOne (L.map (V.int .i64))=true:=allOne_eq.2 fun v hv=>by
 obtain⟨i,_,rfl⟩:=List.mem_map.1 hv
 rfl
theorem getNI (L:List Int)(rest:List V):getN 0 L.length (L.map (V.int .i64)++rest)=some (L.map (V.int .i64)):=by
 refine getN_eq.2 ⟨?_,?_⟩<;>simp
theorem sortC_ev {h0 h:H}{x:V}{l:List Int}(o:OwnC h0 h x 1 (l.map encI))(hw0:h0.wf)(h1:l≠[])(hl:l.length≤100000)(Q:V→H→Prop)
  (q:∀h',OwnC h0 h' x 1 ((sortI l).map encI)→Keeps (blkOf x) h h'→Q (.tup []) h'):Ev fnG fastA (.fn 24 [] []) [x] h Q:=by
 have lp:=List.length_pos_iff.2 h1
 have b1:Nat.blt 0 l.length=true:=by rw[Nat.blt_eq];omega
 have b2:Nat.blt l.length 4611686018427387904=true:=by rw[Nat.blt_eq];omega
 have hi:intsOf (l.map (V.int .i64))=some l:=intsOf_map l
 obtain⟨v,vs,hv⟩:∃v vs,(sortI l).map (V.int .i64)=v::vs:=by
  cases hc:(sortI l).map (V.int .i64) with
  |nil=>have:=congrArg List.length hc;rw[List.length_map,sortI_len,List.length_nil] at this;omega
  |cons v vs=>exact⟨v,vs,rfl⟩
 have ho:allOne (v::vs)=true:=by rw[←hv];exact allOneV _
 have hp:∀rest,putN 0 (v::vs) (l.map (V.int .i64)++rest)=some ((sortI l).map (V.int .i64)++rest):=fun rest=>by
  have:=putN_app (pre:=[]) (new:=(sortI l).map (V.int .i64)) (old:=l.map (V.int .i64)) (rest:=rest) (by rw[List.length_map,List.length_map,sortI_len])
  rw[←hv]
  simpa using this
 obtain⟨s,_,o⟩:=o
 have rl:∀r∈(sortI l).map encI,r.length=1:=fun r hr=>by
  obtain⟨i,_,rfl⟩:=List.mem_map.1 hr
  rfl
 rcases o with⟨_,e⟩|⟨b,e,lb,lt,g⟩|⟨b,c,rest,e,lb,lt,g,k,kc⟩
 ·exact absurd (List.map_eq_nil_iff.1 e) h1
 ·subst e
  rw[List.length_map] at *
  rw[flatV] at g
  have hps:=H.put_gr ho g (by simpa using hp [])
  refine(Ev.det ⟨1,.tup [],h.set b (.cells (.gr 1) ((sortI l).map (V.int .i64))),?_,rfl,rfl⟩ Q).mpr ?_
  ·show sortF [.sl b 0 l.length (.slk 0 0)] h=_
   have hg:=getNI l []
   rw[List.append_nil] at hg
   simp only[sortF,b1,b2,og_true,cells_of g,hg,hi,hv,hps,withV_some]
  ·refine q _ ⟨s.set lb lt hw0 _,rl,.inr (.inl ⟨b,by rw[List.length_map,sortI_len],lb,by rw[H.next_set];exact lt,?_⟩)⟩ ((Keeps.set h b _).mono fun c e=>⟨0,l.length,.slk 0 0,by rw[e]⟩)
   rw[flatV];exact get_set_same rfl
 ·subst e
  rw[List.length_map] at *
  rw[flatV] at g
  have hps:=H.put_rw ho g (hp rest)
  refine(Ev.det ⟨1,.tup [],h.set b (.cells .rw ((sortI l).map (V.int .i64)++rest)),?_,rfl,rfl⟩ Q).mpr ?_
  ·show sortF [.sl b 0 l.length (.fix c)] h=_
   simp only[sortF,b1,b2,og_true,cells_of g,getNI l rest,hi,hv,hps,withV_some]
  ·refine q _ ⟨s.set lb lt hw0 _,rl,.inr (.inr ⟨b,c,rest,by rw[List.length_map,sortI_len],lb,by rw[H.next_set];exact lt,?_,by rw[List.length_map,sortI_len];exact k,by rw[List.length_map,sortI_len];exact kc⟩)⟩ ((Keeps.set h b _).mono fun d e=>⟨0,l.length,.fix c,by rw[e]⟩)
   rw[flatV];exact get_set_same rfl
set_option maxHeartbeats 4000000 in
theorem Compact_ev {h0 h:H}{b:Nat}{l:List Int}(hs:h0.Sub h)(hw0:h0.wf)(lb0:h0.next≤b)(hb:h.get b=some (.cells (.gr 1) (l.map iv)))(h1:1≤l.length)(hl:l.length≤100000)(Q:V→H→Prop)
  (q:∀y h',h0.Sub h'→Keeps (fun c=>c=b) h h'→CutC h' y 1 ((dd l l.length).map encI)→Q y h'):Ev fnG fastA (.fn 26 [] []) [.sl b 0 l.length (.slk 0 0)] h Q:=by
 have hw:=hs.wf
 have whole:∀{hh:H} {L:List Int},hh.get b=some (.cells (.gr 1) (L.map iv))→L.length=l.length→∀m,m≤l.length→CutC hh (.sl b 0 m (.slk 0 0)) 1 ((L.take m).map encI):=fun hg hL m hm=>CutC.ints hg (by omega) (by omega)
 refine Ev_body (fd:=c26) rfl rfl rfl ?_
 by_cases h2:l.length<2
 ·have hn2:(l.length:Int)<2:=by omega
  have e1:l.length=1:=by omega
  simp -implicitDefEqProofs(maxSteps:=999999)(disch:=first|with_reducible rfl|omega|(simp only[nA,nS,nD]<;>omega)|fail)only[c26,go_sem,hn2]
  have hdd:dd l l.length=l.take l.length:=by
   rw[e1,dd_ne (by omega) (.inl rfl),take_getD (by omega)];rfl
  exact q _ _ hs (Keeps.refl _ _) (by rw[hdd];exact whole hb rfl _ (Nat.le_refl _))
 have hn2:¬(l.length:Int)<2:=by omega
 have hiad:∀k:Nat,k<l.length→q_iad 1 (.sl b 0 l.length (.slk 0 0)) (.int .i64 (k:Int))=some (.ptr b k):=fun k hk=>by
  rw[q_iad_sl (nat_cst k) hk,Nat.mul_one,Nat.zero_add]
 simp -implicitDefEqProofs(maxSteps:=999999)(disch:=first|with_reducible rfl|omega|(simp only[nA,nS,nD]<;>omega)|fail)only[c26,go_sem,hn2]
 refine W_loop (fun kk s=>∃tm i,s=⟨tm,h,[]⟩∧kk=l.length-i∧1≤i∧i≤l.length∧dd l i=l.take i∧(Opd.t 0).ev tm=.sl b 0 l.length (.slk 0 0)∧(Opd.t 3).ev tm=.int .i64 (i:Int)) ?_ (l.length-1) _
  ⟨_,1,rfl,rfl,Nat.le_refl _,by omega,by rw[dd_ne (by omega) (.inl rfl),take_getD (by omega)];rfl,(by simp[ev_c,ev_put]<;>rfl),(by simp[ev_c,ev_put]<;>rfl)⟩
 rintro kk s ⟨tm,i,rfl,hkk,i1,i2,hdd,t0,t3⟩
 by_cases hi:i<l.length
 ·have hi':(i:Int)<(l.length:Int):=by omega
  have e1:(i:Int)-1=((i-1:Nat):Int):=by omega
  have n1:=nth_iv hi
  have n2:=nth_iv (L:=l) (k:=i-1) (by omega)
  by_cases heq:l.getD i 0=l.getD (i-1) 0
  ·have deq:decide (l.getD i 0=l.getD (i-1) 0)=true:=decide_eq_true heq
   have hfrom:=slcFrom_gr hb (by omega) (k:=i) (by omega)
   have lb:=hw _ _ hb
   have hdd1:dd l (i+1)=l.take i:=by rw[dd_eq hi (by omega) heq,hdd]
   simp -implicitDefEqProofs(maxSteps:=999999)(disch:=first|with_reducible rfl|omega|(simp only[nA,nS,nD]<;>omega)|fail)only[go_sem,t0,t3,hi',wr_in,e1,hiad i hi,hiad (i-1) (by omega),cells_of hb,n1,n2,deq,q_slc_from,hfrom]
   refine W.mono (Q:=fun x1 s=>x1=.ext 2∧∃(tm:Go.Ab.T V) (hh:H) (L:List Int) (m:Nat),s=⟨tm,hh,[]⟩∧h0.Sub hh∧Keeps (fun c=>c=b) h hh∧hh.get b=some (.cells (.gr 1) (L.map iv))∧L.length=l.length∧m<l.length∧L.take m=dd l l.length∧(Opd.t 0).ev tm=.sl b 0 l.length (.slk 0 0)∧(Opd.t 3).ev tm=.int .i64 (m:Int))
    (W_loop (fun kk s=>∃(tm:Go.Ab.T V) (hh:H) (L:List Int) (m k2:Nat),s=⟨tm,hh,[]⟩∧kk=l.length-i-k2∧1≤k2∧i+k2≤l.length∧m+1≤i+k2∧h0.Sub hh∧Keeps (fun c=>c=b) h hh∧hh.get b=some (.cells (.gr 1) (L.map iv))∧L.length=l.length∧
     L.take m=dd l (i+k2)∧(∀j,i+k2≤j+1→L.getD j 0=l.getD j 0)∧
     (Opd.t 0).ev tm=.sl b 0 l.length (.slk 0 0)∧(Opd.t 3).ev tm=.int .i64 (m:Int)∧(Opd.t 4).ev tm=.sl b i (l.length-i) (.slk i 0)∧(Opd.t 5).ev tm=.int .i64 (k2:Int)) ?_ (l.length-i-1) _
     ⟨_,_,l,i,1,rfl,rfl,Nat.le_refl _,by omega,by omega,hs,Keeps.refl _ _,hb,rfl,hdd1.symm,fun _ _=>rfl,(by simp[ev_c,ev_put,t0]<;>rfl),(by simp[ev_c,ev_put,t3]<;>rfl),(by simp[ev_c,ev_put]<;>rfl),(by simp[ev_c,ev_put]<;>rfl)⟩) fun x1 s hx1=>?_
   ·rintro kk s ⟨tm,hh,L,m,k2,rfl,hkk,k1,k3,k4,sh,kp,gL,hL,hT,hR,t0,t3,t4,t5⟩
    by_cases hk:k2<l.length-i
    ·have hk':(k2:Int)<((l.length-i:Nat):Int):=by omega
     have e2:(k2:Int)-1=((k2-1:Nat):Int):=by omega
     have a1:q_iad 1 (.sl b i (l.length-i) (.slk i 0)) (.int .i64 (k2:Int))=some (.ptr b (i+k2)):=by rw[q_iad_sl (nat_cst k2) hk,Nat.mul_one]
     have a2:q_iad 1 (.sl b i (l.length-i) (.slk i 0)) (.int .i64 ((k2-1:Nat):Int))=some (.ptr b (i+(k2-1))):=by rw[q_iad_sl (nat_cst (k2-1)) (by omega),Nat.mul_one]
     have a3:=hiad m (by omega)
     have v1:=nth_iv (L:=L) (k:=i+k2) (by omega)
     have v2:=nth_iv (L:=L) (k:=i+(k2-1)) (by omega)
     rw[hR _ (by omega)] at v1 v2
     have lb2:=sh.wf _ _ gL
     by_cases hd:l.getD (i+k2) 0=l.getD (i+(k2-1)) 0
     ·have hne:decide (l.getD (i+k2) 0≠l.getD (i+(k2-1)) 0)=false:=by simpa using hd
      simp -implicitDefEqProofs(maxSteps:=999999)(disch:=first|with_reducible rfl|omega|(simp only[nA,nS,nD]<;>omega)|fail)only[go_sem,t0,t3,t4,t5,hk',wr_in,e2,a1,a2,cells_of gL,v1,v2,hne,wr_succ]
      exact⟨_,by omega,_,_,L,m,k2+1,rfl,rfl,by omega,by omega,by omega,sh,kp,gL,hL,by rw[hT,←Nat.add_assoc,dd_eq (by omega) (by omega) (by rw[hd];congr 1;omega)],fun j hj=>hR j (by omega),(by simp[ev_c,ev_put,t0]<;>rfl),(by simp[ev_c,ev_put,t3]<;>rfl),(by simp[ev_c,ev_put,t4]<;>rfl),(by simp[ev_c,ev_put]<;>rfl)⟩
     ·have hne:decide (l.getD (i+k2) 0≠l.getD (i+(k2-1)) 0)=true:=by simpa using hd
      have hp:=put_iv (L:=L) (i:=m) (by omega) (l.getD (i+k2) 0)
      simp -implicitDefEqProofs(maxSteps:=999999)(disch:=first|with_reducible rfl|omega|(simp only[nA,nS,nD]<;>omega)|fail)only[go_sem,t0,t3,t4,t5,hk',wr_in,e2,a1,a2,a3,cells_of gL,gL,v1,v2,hne,hp,wr_succ]
      refine⟨_,by omega,_,_,L.set m (l.getD (i+k2) 0),m+1,k2+1,rfl,rfl,by omega,by omega,by omega,sh.set lb0 lb2 hw0 _,(kp.trans (Keeps.set hh b _)).mono fun c h=>h.elim id id,get_set_same rfl,by rw[List.length_set];exact hL,?_,fun j hj=>?_,(by simp[ev_c,ev_put,t0]<;>rfl),(by simp[ev_c,ev_put]<;>rfl),(by simp[ev_c,ev_put,t4]<;>rfl),(by simp[ev_c,ev_put]<;>rfl)⟩
      ·rw[←Nat.add_assoc,dd_ne (by omega) (.inr (by intro e;apply hd;rw[e];congr 1;omega)),←hT,take_getD (by rw[List.length_set];omega)]
       rw[List.take_set_of_le (Nat.le_refl _)]
       congr 2
       rw[List.getD_eq_getElem?_getD,List.getElem?_set_self (by omega)];rfl
      ·rw[←hR j (by omega),List.getD_eq_getElem?_getD,List.getElem?_set_ne (by omega),←List.getD_eq_getElem?_getD]
    ·have hk':¬(k2:Int)<((l.length-i:Nat):Int):=by omega
     have hke:i+k2=l.length:=by omega
     simp -implicitDefEqProofs(maxSteps:=999999)(disch:=first|with_reducible rfl|omega|(simp only[nA,nS,nD]<;>omega)|fail)only[go_sem,t0,t3,t4,t5,hk']
     exact⟨_,_,L,m,rfl,sh,kp,gL,hL,by omega,by rw[hT,hke],(by simp[ev_c,ev_put,t0]<;>rfl),(by simp[ev_c,ev_put,t3]<;>rfl)⟩
   clear t0 t3
   obtain⟨rfl,tm,hh,L,m,rfl,sh,kp,gL,hL,hm,hT,t0,t3⟩:=hx1
   have f1:=slcFrom_gr gL (by omega) (k:=m) (by omega)
   rw[hL] at f1
   obtain⟨n,hn⟩:∃n,l.length-m=n+1:=⟨l.length-m-1,by omega⟩
   have hrep:∀n,repN n [V.int .i64 0]=(List.replicate n (0:Int)).map iv:=fun n=>by
    induction n with
    |zero=>rfl
    |succ n ih=>simp only[repN,appN_eq,ih,List.replicate_succ,List.map_cons];rfl
   have hp:putN m ((List.replicate (n+1) (0:Int)).map iv) (L.map iv)=some ((L.take m++List.replicate (n+1) 0).map iv):=by
    have:=putN_app (pre:=(L.take m).map iv) (new:=(List.replicate (n+1) (0:Int)).map iv) (old:=(L.drop m).map iv) (rest:=[]) (by simp;omega)
    rw[List.length_map,List.length_take,Nat.min_eq_left (by omega),List.append_nil,List.append_nil,←List.map_append,List.take_append_drop,←List.map_append] at this
    exact this
   have ho:allOne ((List.replicate (n+1) (0:Int)).map iv)=true:=by
    rw[allOne_eq]
    intro v hv
    obtain⟨_,_,rfl⟩:=List.mem_map.1 hv;rfl
   have hclr:e_clr hh [V.int .i64 0] (.sl b m (l.length-m) (.slk m 0))=some (.und,hh.set b (.cells (.gr 1) ((L.take m++List.replicate (n+1) 0).map iv))):=by
    rw[e_clr_sl,hn,hrep]
    rw[List.replicate_succ,List.map_cons] at hp ho⊢
    rw[H.put_gr ho gL hp,withV_some]
   have gS:(hh.set b (.cells (.gr 1) ((L.take m++List.replicate (n+1) 0).map iv))).get b=some (.cells (.gr 1) ((L.take m++List.replicate (n+1) 0).map iv)):=get_set_same rfl
   have ll:(L.take m++List.replicate (n+1) (0:Int)).length=l.length:=by simp;omega
   have f2:=slcTo_gr gS (by omega) (k:=m) (by omega)
   rw[ll] at f2
   have lb2:=sh.wf _ _ gL
   simp -implicitDefEqProofs(maxSteps:=999999)(disch:=first|with_reducible rfl|omega|(simp only[nA,nS,nD]<;>omega)|fail)only[go_sem,t0,t3,q_slc_from,f1,WI_clr,hclr,q_slc_to,f2]
   refine q _ _ (sh.set lb0 lb2 hw0 _) ((kp.trans (Keeps.set hh b _)).mono fun c h=>h.elim id id) ?_
   have:=whole gS ll m (by omega)
   rw[List.take_append_of_le_length (by rw[List.length_take];omega),List.take_take,Nat.min_self] at this
   rw[←hT];exact this
  ·have dne:decide (l.getD i 0=l.getD (i-1) 0)=false:=decide_eq_false heq
   simp -implicitDefEqProofs(maxSteps:=999999)(disch:=first|with_reducible rfl|omega|(simp only[nA,nS,nD]<;>omega)|fail)only[go_sem,t0,t3,hi',wr_in,e1,hiad i hi,hiad (i-1) (by omega),cells_of hb,n1,n2,dne,wr_succ]
   exact⟨_,by omega,_,i+1,rfl,rfl,by omega,by omega,by rw[dd_ne hi (.inr heq),hdd,take_getD hi],(by simp[ev_c,ev_put,t0]<;>rfl),(by simp[ev_c,ev_put]<;>rfl)⟩
 ·have hi':¬(i:Int)<(l.length:Int):=by omega
  have hie:i=l.length:=by omega
  simp -implicitDefEqProofs(maxSteps:=999999)(disch:=first|with_reducible rfl|omega|(simp only[nA,nS,nD]<;>omega)|fail)only[go_sem,t0,t3,hi']
  rw[hie] at hdd
  exact q _ _ hs (Keeps.refl _ _) (by rw[hdd];exact whole hb rfl _ (Nat.le_refl _))
theorem compactR_ev {h:H}{x:V}{l:List Int}(hx:SlAt h x 1 (l.map encI))(hp:l.Pairwise (· < ·))(Q:V→H→Prop):Ev fnG fastA (.fn 26 [] []) [x] h Q=Q x h:=by
 have hlx:=hx.lenE
 have hbd:=hx.boundE
 refine Ev.det (Ev_body (fd:=c26) rfl rfl rfl ?_) Q
 by_cases h2:l.length<2
 ·have hn2:(l.length:Int)<2:=by omega
  simp -implicitDefEqProofs(maxSteps:=999999)(disch:=first|with_reducible rfl|omega|(simp only[nA,nS,nD]<;>omega)|fail)only[c26,go_sem,hlx,hn2]
 have hn2:¬(l.length:Int)<2:=by omega
 simp -implicitDefEqProofs(maxSteps:=999999)(disch:=first|with_reducible rfl|omega|(simp only[nA,nS,nD]<;>omega)|fail)only[c26,go_sem,hlx,hn2]
 refine W_loop (fun kk s=>∃tm i,s=⟨tm,h,[]⟩∧kk=l.length-i∧1≤i∧i≤l.length∧(Opd.t 0).ev tm=x∧(Opd.t 3).ev tm=.int .i64 (i:Int)) ?_ (l.length-1) _
  ⟨_,1,rfl,rfl,Nat.le_refl _,by omega,(by simp[ev_c,ev_put]<;>rfl),(by simp[ev_c,ev_put]<;>rfl)⟩
 rintro kk s ⟨tm,i,rfl,hkk,i1,i2,t0,t3⟩
 by_cases hi:i<l.length
 ·have hi':(i:Int)<(l.length:Int):=by omega
  have e1:(i:Int)-1=((i-1:Nat):Int):=by omega
  obtain⟨b1,o1,c1,cs1,rfl,hc1,hq1,hg1,hn1',hn01⟩:=hx.at hi
  obtain⟨b2,o2,c2,cs2,e2,hc2,hq2,hg2,hn2',hn02⟩:=hx.at (k:=i-1) (by omega)
  have hlt:=List.pairwise_iff_getElem.1 hp (i-1) i (by omega) hi (by omega)
  have hne:decide (l[i]=l[i-1])=false:=decide_eq_false (by omega)
  simp -implicitDefEqProofs(maxSteps:=999999)(disch:=first|with_reducible rfl|omega|(simp only[nA,nS,nD]<;>omega)|fail)only[go_sem,t0,t3,hi',hlx,wr_in,e1,hq1 (nat_cst i),hc1,hn01 (by omega),hq2 (nat_cst (i-1)),hc2,hn02 (by omega),encI,hne,wr_succ]
  exact⟨_,by omega,_,i+1,rfl,rfl,by omega,by omega,(by simp[ev_c,ev_put,t0]<;>rfl),(by simp[ev_c,ev_put]<;>rfl)⟩
 ·have hi':¬(i:Int)<(l.length:Int):=by omega
  simp -implicitDefEqProofs(maxSteps:=999999)(disch:=first|with_reducible rfl|omega|(simp only[nA,nS,nD]<;>omega)|fail)only[go_sem,t0,t3,hi',hlx]
end Tryz
end Go.Ab
