/- Tables by kind: the plain part. Proofs of a clash: whether a proof is one. Proofs of a clash: by how much one holds, by the reference. Proofs of a clash: proof, Proves. What SilkProved says of proofs that are found, and of those that are tried (plain); two lists joined, sorted, without doubles. Numbers that are wound off bytes: the contracts of Spool. What lots really weigh, made from the last one to the first: the plain part. Shares by kind: shares, Where. -/
import Derived.Test.YthoghcpemmfebaaGreatAc7
import Derived.Test.YthoghcpemmfebaaGreatG5
import Derived.Test.YthoghcpemmfebaaGreatGP
import Derived.Test.YthoghcpemmfebaaGreatG6
import Derived.Test.YthoghcpemmfebaaGreatAc8
set_option linter.unusedSimpArgs false
set_option linter.unusedVariables false
namespace Go.Ab.Tryz
open Go.Ab.Silk
structure GenEnv (h0:H)(l:Nat)(I:H→Prop):Prop where
 sub:∀h,I h→h0.Sub h
 mono:∀h h',I h→h.Sub h'→I h'
 lt:∀h,I h→l<h.next
abbrev Kl (l:Nat) (h h':H):Prop:=Keeps (fun b=>b=l) h h'
theorem Kl.trans {l:Nat}{h h' h'':H}(a:Kl l h h')(b:Kl l h' h''):Kl l h h'':=(Keeps.trans a b).mono fun c hc=>hc.elim id id
def GenE (l:Nat)(I S:H→Prop)(f:V)(a:Int)(p:Prop)(h:H):Prop:=Ev fnG fastA f [.int .i64 a] h fun u h'=>(p∧u=.bool true∧I h'∧Kl l h h')∨(¬p∧u=.bool false∧S h')
def GenN (l:Nat)(I S:H→Prop)(f:V)(a:Int)(p:Prop)(h:H):Prop:=Ev fnG fastA f [.int .i64 a] h fun u h'=>(p∧u=.bool false∧I h'∧Kl l h h')∨(¬p∧u=.bool true∧S h')
section
variable {h0:H} {l:Nat} {I S:H→Prop}
theorem index_gen (g:GenEnv h0 l I){L:List Int}{x f:V}{p:Int→Prop}(hx:SlAt h0 x 1 (L.map encI)){h:H}(hI:I h)(hp:∀a∈L,∀h',I h'→Kl l h h'→GenN l I S f a (p a) h'):
  Ev fnG fastA (.fn 159 [] []) [x,f] h fun v h'=>((∀a∈L,p a)∧v=.int .i64 (-1)∧I h'∧Kl l h h')∨((¬∀a∈L,p a)∧(∃k:Nat,v=.int .i64 (k:Int))∧S h'):=by
 have hb:=hx.boundE
 refine Ev.gen fun Q q=>?_
 refine Ev_body (fd:=c159) rfl rfl rfl ?_
 simp -implicitDefEqProofs(maxSteps:=999999)(disch:=first|with_reducible rfl|omega|(simp only[nA,nS,nD]<;>omega)|fail)only[c159,go_sem,hx.lenE]
 refine W_count L.length (fun i s=>∃tm h',s=⟨tm,h',[]⟩∧I h'∧Kl l h h'∧(∀a∈L.take i,p a)∧(Opd.t 0).ev tm=x∧(Opd.t 1).ev tm=f∧(Opd.t 7).ev tm=.int .i64 (L.length:Int)∧(Opd.t 8).ev tm=.int .i64 (i:Int))
  ?_ ?_ (i:=0) (Nat.zero_le _) ⟨_,_,rfl,hI,Keeps.refl _ _,fun a ha=>by simp at ha,(by simp[ev_c,ev_put]<;>rfl),(by simp[ev_c,ev_put]<;>rfl),(by simp[ev_c,ev_put]<;>rfl),(by simp[ev_c,ev_put]<;>rfl)⟩
 ·rintro i s hi ⟨tm,h',rfl,hI',hk,hall,t0,t1,t7,t8⟩
  have hi':(i:Int)<(L.length:Int):=by omega
  obtain⟨b2,o2,c2,cs2,e2,hcs2,hq2,hgg2,hn2,hn02⟩:=(hx.mono (g.sub _ hI')).at hi
  simp -implicitDefEqProofs(maxSteps:=999999)(disch:=first|with_reducible rfl|omega|(simp only[nA,nS,nD]<;>omega)|fail)only[go_sem,t0,t1,t7,t8,hi',hq2 (nat_cst i),hcs2,hn02 (by omega),encI]
  refine(hp _ (List.getElem_mem hi) h' hI' hk).mono fun u h2 hu=>?_
  rcases hu with⟨hpa,rfl,hI2,hk2⟩|⟨hpa,rfl,hS⟩
  ·simp -implicitDefEqProofs(maxSteps:=999999)(disch:=first|with_reducible rfl|omega|(simp only[nA,nS,nD]<;>omega)|fail)only[go_sem,t0,t1,t7,t8,wr_succ]
   refine⟨_,_,rfl,hI2,hk.trans hk2,fun a ha=>?_,(by simp[ev_c,ev_put,t0]<;>rfl),(by simp[ev_c,ev_put,t1]<;>rfl),(by simp[ev_c,ev_put,t7]<;>rfl),(by simp[ev_c,ev_put]<;>rfl)⟩
   rcases(mem_take_succ hi).1 ha with ha|rfl
   ·exact hall a ha
   ·exact hpa
  ·simp -implicitDefEqProofs(maxSteps:=999999)(disch:=first|with_reducible rfl|omega|(simp only[nA,nS,nD]<;>omega)|fail)only[go_sem,t0,t1,t7,t8]
   exact q _ _ (.inr ⟨fun h=>hpa (h _ (List.getElem_mem hi)),⟨i,rfl⟩,hS⟩)
 ·rintro s ⟨tm,h',rfl,hI',hk,hall,t0,t1,t7,t8⟩
  rw[List.take_length] at hall
  simp -implicitDefEqProofs(maxSteps:=999999)(disch:=first|with_reducible rfl|omega|(simp only[nA,nS,nD]<;>omega)|fail)only[go_sem,t0,t1,t7,t8,Int.lt_irrefl]
  exact q _ _ (.inl ⟨hall,rfl,hI',hk⟩)
theorem contains_gen (g:GenEnv h0 l I){L:List Int}{x f:V}{p:Int→Prop}(hx:SlAt h0 x 1 (L.map encI)){h:H}(hI:I h)(hp:∀a∈L,∀h',I h'→Kl l h h'→GenN l I S f a (p a) h'):
  Ev fnG fastA (.fn 127 [] []) [x,f] h fun v h'=>((∀a∈L,p a)∧v=.bool false∧I h'∧Kl l h h')∨((¬∀a∈L,p a)∧v=.bool true∧S h'):=by
 refine Ev.gen fun Q q=>?_
 refine Ev_body (fd:=c127) rfl rfl rfl ?_
 simp -implicitDefEqProofs(maxSteps:=999999)(disch:=first|with_reducible rfl|omega|(simp only[nA,nS,nD]<;>omega)|fail)only[c127,go_sem]
 refine(index_gen g hx hI hp).mono fun v h' hv=>?_
 have n1:¬(0:Int)≤ -1:=by omega
 rcases hv with⟨ha,rfl,hI',hk⟩|⟨ha,⟨k,rfl⟩,hS⟩
 ·simp -implicitDefEqProofs(maxSteps:=999999)(disch:=first|with_reducible rfl|omega|(simp only[nA,nS,nD]<;>omega)|fail)only[go_sem,n1]
  exact q _ _ (.inl ⟨ha,rfl,hI',hk⟩)
 ·have k0:(0:Int)≤(k:Int):=by omega
  simp -implicitDefEqProofs(maxSteps:=999999)(disch:=first|with_reducible rfl|omega|(simp only[nA,nS,nD]<;>omega)|fail)only[go_sem,k0]
  exact q _ _ (.inr ⟨ha,rfl,hS⟩)
theorem every_gen (g:GenEnv h0 l I){L:List Int}{x:V}{f:FuncId}{u w:List V}{p:Int→Prop}(hx:SlAt h0 x 1 (L.map encI)){h:H}(hI:I h)(hp:∀a∈L,∀h',I h'→Kl l h h'→GenE l I S (.fn f u w) a (p a) h')(Q:V→H→Prop)
  (q:∀t h',((∀a∈L,p a)∧t=true∧I h'∧Kl l h h')∨((¬∀a∈L,p a)∧t=false∧S h')→Q (.bool t) h'):Ev fnG fastA (.fn 81 [] []) [x,.fn f u w] h Q:=by
 refine Ev_body (fd:=c81) rfl rfl rfl ?_
 simp -implicitDefEqProofs(maxSteps:=999999)(disch:=first|with_reducible rfl|omega|(simp only[nA,nS,nD]<;>omega)|fail)only[c81,go_sem]
 have s1:h.Sub (h.add (.cells .rw [.fn f u w])):=(H.Sub.refl (g.sub _ hI).wf).add _
 have hl:=g.lt _ hI
 refine(contains_gen g hx (g.mono _ _ hI s1) (p:=p) (S:=S) fun a ha h2 hI2 hk2=>?_).mono fun v h' hv=>?_
 ·have hc:h2.cells h.next=some [.fn f u w]:=hk2.cells (cells_add_new rfl) (by omega)
  have hlt:h.next<h2.next:=by have:=hk2.1;rw[H.next_add] at this;omega
  unfold GenN
  refine Ev.gen fun Q2 q2=>?_
  refine Ev_body (fd:=c128) rfl rfl rfl ?_
  simp -implicitDefEqProofs(maxSteps:=999999)(disch:=first|with_reducible rfl|omega|(simp only[nA,nS,nD]<;>omega)|fail)only[c128,go_sem,hc]
  refine(hp a ha h2 hI2 (Kl.trans (Keeps.of s1 _) hk2)).mono fun u h3 hu=>?_
  rcases hu with⟨hpa,rfl,hI3,hk3⟩|⟨hpa,rfl,hS⟩
  ·simp -implicitDefEqProofs(maxSteps:=999999)(disch:=first|with_reducible rfl|omega|(simp only[nA,nS,nD]<;>omega)|fail)only[go_sem]
   exact q2 _ _ (.inl ⟨hpa,rfl,hI3,hk3⟩)
  ·simp -implicitDefEqProofs(maxSteps:=999999)(disch:=first|with_reducible rfl|omega|(simp only[nA,nS,nD]<;>omega)|fail)only[go_sem]
   exact q2 _ _ (.inr ⟨hpa,rfl,hS⟩)
 ·rcases hv with⟨ha,rfl,hI',hk⟩|⟨ha,rfl,hS⟩
  ·simp -implicitDefEqProofs(maxSteps:=999999)(disch:=first|with_reducible rfl|omega|(simp only[nA,nS,nD]<;>omega)|fail)only[go_sem]
   exact q true _ (.inl ⟨ha,rfl,hI',Kl.trans (Keeps.of s1 _) hk⟩)
  ·simp -implicitDefEqProofs(maxSteps:=999999)(disch:=first|with_reducible rfl|omega|(simp only[nA,nS,nD]<;>omega)|fail)only[go_sem]
   exact q false _ (.inr ⟨ha,rfl,hS⟩)
def AllOk (m:Ml)(ok:Int→Prop)(p:Int):Prop:=∀w:Int,0≤w→w<m.lots.length→parts m w=[]→Anc (frmAt m) w p→ok w
theorem AllOk_leaf {m:Ml}(g:Good m){ok:Int→Prop}{p:Int}(p0:0≤p)(p1:p<m.lots.length)(hp:parts m p=[]):AllOk m ok p↔ok p:=by
 constructor
 ·exact fun h=>h p p0 p1 hp .self
 ·intro h w w0 w1 _ ha
  cases ha with
  |self=>exact h
  | @up k hk h0=>
   have hl:=hk.le (forest g) w0 w1
   have:k∈parts m (frmAt m k):=((forest g).mem _ _).2 ⟨hl.1,by omega,rfl⟩
   rw[hp] at this;simp at this
theorem AllOk_node {m:Ml}(g:Good m){ok:Int→Prop}{p:Int}(p0:0≤p)(hp:parts m p≠[]):AllOk m ok p↔∀q∈parts m p,AllOk m ok q:=by
 constructor
 ·intro h q hq w w0 w1 hw ha
  obtain⟨q0,q1,qf⟩:=((forest g).mem _ _).1 hq
  refine h w w0 w1 hw ?_
  rw[←qf];exact .up ha (by omega)
 ·intro h w w0 w1 hw ha
  cases ha with
  |self=>exact absurd hw hp
  | @up k hk h0=>
   have hl:=hk.le (forest g) w0 w1
   exact h k (((forest g).mem _ _).2 ⟨hl.1,by omega,rfl⟩) w w0 w1 hw hk
theorem down_gen (e:GenEnv h0 l I){m:Ml}(g:Good m){d:Nat}(hd:DkAt h0 d m){y:V}{ok:Int→Prop}(hy:∀w:Int,0≤w→w<m.lots.length→parts m w=[]→∀h',I h'→GenE l I S y w (ok w) h')
  {c1 c3 c4:Nat} (n1:c1≠l) (n3:c3≠l) (n4:c4≠l):∀(k:Nat) (lot:Nat) {h:H},m.lots.length-lot≤k→lot<m.lots.length→I h→h.cells c1=some [.ptr d 0]→h.cells c3=some [y]→h.cells c4=some [.fn 161 [] [.ptr c1 0,.ptr c3 0,.ptr c4 0]]→
  GenE l I S (.fn 161 [] [.ptr c1 0,.ptr c3 0,.ptr c4 0]) (lot:Int) (AllOk m ok (lot:Int)) h:=by
 intro k
 induction k with
 |zero=>intro lot h h1 h2;omega
 |succ k ih=>
  intro lot h hk hlot hI e1 e3 e4
  have F:=forest g
  have hl0:(0:Int)≤(lot:Int):=by omega
  have hl1:(lot:Int)<(m.lots.length:Int):=by omega
  have hs:=e.sub _ hI
  obtain⟨pm,al,L,W,g1,g2,aL,aW,ap⟩:=hd
  have hap:=ap (lot:Int)
  have hlenP:=hap.lenE
  obtain⟨X,eX⟩:∃X,found .nils false (lkA (lot:Int) al)=X:=⟨_,rfl⟩
  rw[eX] at hlenP hap
  unfold GenE
  refine Ev.gen fun Q q=>?_
  refine Ev_body (fd:=c161) rfl rfl rfl ?_
  by_cases hp:parts m (lot:Int)=[]
  ·have h00:((parts m (lot:Int)).length:Int)=0:=by rw[hp];rfl
   simp -implicitDefEqProofs(maxSteps:=999999)(disch:=first|with_reducible rfl|omega|(simp only[nA,nS,nD]<;>omega)|fail)only[c161,go_sem,e1,e3,cells_of (hs.get g1),hs.get g2,eX,hlenP,h00]
   refine(hy (lot:Int) hl0 hl1 hp h hI).mono fun u h' hu=>?_
   have hA:=AllOk_leaf g (ok:=ok) hl0 hl1 hp
   simp -implicitDefEqProofs(maxSteps:=999999)(disch:=first|with_reducible rfl|omega|(simp only[nA,nS,nD]<;>omega)|fail)only[go_sem]
   rcases hu with⟨h1,h2,h3,h4⟩|⟨h1,h2,h3⟩
   ·exact q _ _ (.inl ⟨hA.2 h1,h2,h3,h4⟩)
   ·exact q _ _ (.inr ⟨fun h=>h1 (hA.1 h),h2,h3⟩)
  ·have h00:¬((parts m (lot:Int)).length:Int)=0:=by have:=List.length_pos_iff.2 hp;omega
   simp -implicitDefEqProofs(maxSteps:=999999)(disch:=first|with_reducible rfl|omega|(simp only[nA,nS,nD]<;>omega)|fail)only[c161,go_sem,e1,e3,e4,cells_of (hs.get g1),hs.get g2,eX,hlenP,h00]
   have hA:=AllOk_node g (ok:=ok) hl0 hp
   refine every_gen e hap hI (p:=AllOk m ok) (S:=S) (fun a ha h' hI' hk'=>?_) _ fun t h' ht=>?_
   ·obtain⟨a0,a1,af⟩:=(F.mem _ _).1 ha
    have hlt:=F.lt a a0 a1
    obtain⟨p,rfl⟩:=Int.eq_ofNat_of_zero_le a0
    exact ih p (by omega) (by omega) hI' (hk'.cells e1 n1) (hk'.cells e3 n3) (hk'.cells e4 n4)
   ·simp -implicitDefEqProofs(maxSteps:=999999)(disch:=first|with_reducible rfl|omega|(simp only[nA,nS,nD]<;>omega)|fail)only[go_sem,e1,e4,cells_of (hs.get g1),hs.get g2,eX]
    rcases ht with⟨h1,rfl,h3,h4⟩|⟨h1,rfl,h3⟩
    ·exact q _ _ (.inl ⟨hA.2 h1,rfl,h3,h4⟩)
    ·exact q _ _ (.inr ⟨fun h=>h1 (hA.1 h),rfl,h3⟩)
theorem whole1_gen (e:GenEnv h0 l I){m:Ml}(g:Good m){d:Nat}(hd:DkAt h0 d m){y:V}(hy1:y.one=true){ok:Int→Prop}(hy:∀w:Int,0≤w→w<m.lots.length→parts m w=[]→∀h',I h'→GenE l I S y w (ok w) h')
  {c1 c2:Nat} (n1:c1≠l) {lot:Nat} (hlot:lot<m.lots.length) {h:H} (hI:I h) (e1:h.cells c1=some [.ptr d 0]) (e2:h.cells c2=some [.int .i64 (lot:Int)]) (Q:V→H→Prop)
  (q:∀u h',((AllOk m ok (lot:Int)∧I h')∨(¬AllOk m ok (lot:Int)∧S h'))→Q u h'):Ev fnG fastA (.fn 160 [] [.ptr c1 0,.ptr c2 0]) [y] h Q:=by
 have hw:=(e.sub _ hI).wf
 have hl:=e.lt _ hI
 obtain⟨_,b1⟩:=H.cells_eq e1
 obtain⟨_,b2⟩:=H.cells_eq e2
 have l1:=hw _ _ b1
 have l2:=hw _ _ b2
 refine Ev_body (fd:=c160) rfl rfl rfl ?_
 have sA:h.Sub ((h.add (.cells .rw [y])).add (.cells .rw [.fn 161 [] [.ptr c1 0,.ptr h.next 0,.ptr (h.next+1) 0]])):=((H.Sub.refl hw).add _).add _
 simp -implicitDefEqProofs(maxSteps:=999999)(disch:=first|with_reducible rfl|omega|(simp only[nA,nS,nD]<;>omega)|fail)only[c160,go_sem,hy1,cells_one hy1,e1,e2]
 refine(down_gen e g hd hy (c1:=c1) (c3:=h.next) (c4:=h.next+1) n1 (by omega) (by omega) m.lots.length lot (by omega) hlot (e.mono _ _ hI sA) (sA.cells e1) (by simp -implicitDefEqProofs(maxSteps:=999999)(disch:=first|with_reducible rfl|omega|(simp only[nA,nS,nD]<;>omega)|fail)only[go_sem]) (by simp -implicitDefEqProofs(maxSteps:=999999)(disch:=first|with_reducible rfl|omega|(simp only[nA,nS,nD]<;>omega)|fail)only[go_sem])).mono fun u h' hu=>?_
 simp -implicitDefEqProofs(maxSteps:=999999)(disch:=first|with_reducible rfl|omega|(simp only[nA,nS,nD]<;>omega)|fail)only[go_sem]
 rcases hu with⟨h1,h2,h3,h4⟩|⟨h1,h2,h3⟩
 ·exact q _ _ (.inl ⟨h1,h3⟩)
 ·exact q _ _ (.inr ⟨h1,h3⟩)
end
end Go.Ab.Tryz
namespace Go.Ab
namespace Tryz
open Go.Ab.Silk
theorem sumL_bd {x:Int→Int}{C:Int}{l:List Int}(h:∀p∈l,0≤x p∧x p≤C)(hl:l.length≤1000)(hC:0≤C):0≤sumL x l∧sumL x l≤1000*C:=by
 have a1:=sumL_nonneg (x:=x) (l:=l) fun p hp=>(h p hp).1
 have a2:=sumL_mono (x:=x) (y:=fun _=>C) (l:=l) fun p hp=>(h p hp).2
 rw[sum_const] at a2
 have a3:(l.length:Int)*C≤1000*C:=Int.mul_le_mul_of_nonneg_right (by omega) hC
 omega
theorem wLo_bd {m:Ml}(g:Good m){a:Int}(a0:0≤a)(a1:a<m.wgs.length):(0≤wLo m a∧wLo m a≤20000)∧(0≤wHi m a∧wHi m a≤10000):=by
 obtain⟨i,rfl⟩:=Int.eq_ofNat_of_zero_le a0
 have hi:i<m.wgs.length:=by omega
 have:=say_bd g hi
 rw[wLo_at hi,wHi_at hi];omega
end Go.Ab.Tryz
namespace Go.Ab.Tryz
open Go.Ab.Silk
theorem apart_lt {m:Ml}(g:Good m){l:List Int}(hin:InW m l):l.Pairwise (Apart m)↔∀i k (hi:i<l.length) (hk:k<i),¬wl m (l[k]'(by omega))∈line m (wl m l[i])∧¬wl m l[i]∈line m (wl m (l[k]'(by omega))):=by
 have e:∀i j (hi:i<l.length) (hj:j<l.length),wl m l[i]∈line m (wl m l[j])↔Anc (frmAt m) (wl m l[j]) (wl m l[i]):=fun i j hi hj=>by
  have:=hin _ (List.getElem_mem hj)
  have w:=wl_in g this.1 this.2
  exact mem_line g w.1 w.2
 rw[List.pairwise_iff_getElem]
 constructor
 ·intro h i k hi hk
  have:=h k i (by omega) hi hk
  exact⟨fun a=>this.2 ((e k i (by omega) hi).1 a),fun a=>this.1 ((e i k hi (by omega)).1 a)⟩
 ·intro h i j hi hj hij
  have:=h j i hj hij
  exact⟨fun a=>this.2 ((e j i hj hi).2 a),fun a=>this.1 ((e i j hi hj).2 a)⟩
set_option maxHeartbeats 1000000 in
theorem beside_ev {h hb:H}{d:Nat}{x:V}{m:Ml}{l:List Int}(hw:h.wf)(hd:DkAt h d m)(g:Good m)(hx:OwnC hb h x 1 (l.map encI))(hl:l.length≤1000)(hin:InW m l)(Q:V→H→Prop)(q:∀t h',h.Sub h'→(t=true↔l.Pairwise (Apart m))→Q (.bool t) h'):Ev fnG fastA (.fn 130 [] []) [.ptr d 0,x] h Q:=by
 have hd0:=hd
 obtain⟨pm,al,L,W,g1,g2,aL,aW,ap⟩:=hd
 have aX:=hx.sl (by simp only[List.length_map];omega)
 have hlen:=aX.lenE
 have gl:=g.lots
 refine Ev_body (fd:=c130) rfl rfl rfl ?_
 have hap:=apart_lt g hin
 simp -implicitDefEqProofs(maxSteps:=999999)(disch:=first|with_reducible rfl|omega|(simp only[nA,nS,nD]<;>omega)|fail)only[c130,go_sem,hlen]
 refine W_count l.length (fun i s=>∃tm h',s=⟨tm,h',[]⟩∧h.Sub h'∧(∀i' k (hi:i'<l.length) (hk:k<i'),i'<i→¬wl m (l[k]'(by omega))∈line m (wl m l[i'])∧¬wl m l[i']∈line m (wl m (l[k]'(by omega))))∧
   (Opd.t 0).ev tm=.ptr d 0∧(Opd.t 1).ev tm=x∧(Opd.t 11).ev tm=x∧(Opd.t 12).ev tm=.int .i64 (l.length:Int)∧(Opd.t 13).ev tm=.int .i64 (i:Int))
  ?_ ?_ (i:=0) (Nat.zero_le _) ⟨_,_,rfl,H.Sub.refl hw,fun i' k _ _ h=>by omega,(by simp[ev_c,ev_put]<;>rfl),(by simp[ev_c,ev_put]<;>rfl),(by simp[ev_c,ev_put]<;>rfl),(by simp[ev_c,ev_put]<;>rfl),(by simp[ev_c,ev_put]<;>rfl)⟩
 ·rintro i s hi ⟨tm,h',rfl,hs,hno,t0,t1,t11,t12,t13⟩
  have hi':(i:Int)<(l.length:Int):=by omega
  obtain⟨b1,o1,c1,cs1,e1,hcs1,hq1,hgg1,hn1,hn01⟩:=(aX.mono hs).at hi
  have v1:=hn01 (by omega)
  obtain⟨p0,p1⟩:=hin _ (List.getElem_mem hi)
  obtain⟨p,ep⟩:=Int.eq_ofNat_of_zero_le p0
  have hp:p<m.wgs.length:=by omega
  have w1:wl m l[i]=m.wgs[p].lot:=by rw[ep,wl_at hp]
  have r1:=wl_in g p0 p1
  rw[w1] at r1
  simp only[encI,ep] at v1
  obtain⟨y,hy,aY⟩:=(hx.mono hs).to (kd:=.i64) (k:=i) (by simp only[List.length_map];omega) (by simp only[List.length_map];omega) (by simp only[List.length_map];omega)
  rw[←List.map_take] at aY
  have hlenY:=aY.lenE
  rw[List.length_take,Nat.min_eq_left (by omega)] at hlenY
  simp -implicitDefEqProofs(maxSteps:=999999)(disch:=first|with_reducible rfl|omega|(simp only[nA,nS,nD]<;>omega)|fail)only[go_sem,t0,t1,t11,t12,t13,hi',hq1 (nat_cst i),hcs1,v1,q_slc_to,hy,hlenY]
  refine W_count i (fun k s=>∃tm h2,s=⟨tm,h2,[]⟩∧h'.Sub h2∧(∀k' (hk:k'<i),k'<k→¬wl m (l[k']'(by omega))∈line m (wl m l[i])∧¬wl m l[i]∈line m (wl m (l[k']'(by omega))))∧
    (Opd.t 0).ev tm=.ptr d 0∧(Opd.t 1).ev tm=x∧(Opd.t 6).ev tm=.int .i64 (p:Int)∧(Opd.t 11).ev tm=x∧(Opd.t 12).ev tm=.int .i64 (l.length:Int)∧(Opd.t 13).ev tm=.int .i64 (i:Int)∧(Opd.t 20).ev tm=y∧(Opd.t 21).ev tm=.int .i64 (i:Int)∧(Opd.t 22).ev tm=.int .i64 (k:Int))
   ?_ ?_ (i:=0) (Nat.zero_le _) ⟨_,_,rfl,H.Sub.refl hs.wf,fun k' _ h=>by omega,(by simp[ev_c,ev_put,t0]<;>rfl),(by simp[ev_c,ev_put,t1]<;>rfl),(by simp[ev_c,ev_put]<;>rfl),(by simp[ev_c,ev_put,t11]<;>rfl),(by simp[ev_c,ev_put,t12]<;>rfl),(by simp[ev_c,ev_put,t13]<;>rfl),(by simp[ev_c,ev_put]<;>rfl),(by simp[ev_c,ev_put]<;>rfl),(by simp[ev_c,ev_put]<;>rfl)⟩
  ·clear t0 t1 t11 t12 t13
   rintro k s hk ⟨tm,h2,rfl,hs2,hnk,t0,t1,t6,t11,t12,t13,t20,t21,t22⟩
   have hk':(k:Int)<(i:Int):=by omega
   have hkl:k<l.length:=by omega
   have hS:=hs.trans hs2
   have hkt:k<(l.take i).length:=by rw[List.length_take];omega
   obtain⟨b2,o2,c2,cs2,e2,hcs2,hq2,hgg2,hn2,hn02⟩:=(aY.mono hs2).at hkt
   have v2:=hn02 (by omega)
   rw[List.getElem_take] at v2
   obtain⟨r0,r1'⟩:=hin _ (List.getElem_mem hkl)
   obtain⟨r,er⟩:=Int.eq_ofNat_of_zero_le r0
   have hr:r<m.wgs.length:=by omega
   have w2:wl m l[k]=m.wgs[r].lot:=by rw[er,wl_at hr]
   have r2:=wl_in g r0 r1'
   rw[w2] at r2
   simp only[encI,er] at v2
   obtain⟨b3,o3,c3,cs3,e3,hcs3,hq3,hgg3,hn3,hn03⟩:=(aW.mono hS).at hp
   obtain⟨b4,o4,c4,cs4,e4,hcs4,hq4,hgg4,hn4,hn04⟩:=(aW.mono hS).at hr
   simp -implicitDefEqProofs(maxSteps:=999999)(disch:=first|with_reducible rfl|omega|(simp only[nA,nS,nD]<;>omega)|fail)only[go_sem,t0,t1,t6,t11,t12,t13,t20,t21,t22,hk',hq2 (nat_cst k),hcs2,v2,cells_of (hS.get g1),hq3 (nat_cst p),hq4 (nat_cst r),hcs3,hcs4,hn03 (by omega),hn04 (by omega),encW]
   refine deskLine_ev hS.wf (hd0.mono hS) g (by omega) r1.2 _ fun y1 h5 o5=>?_
   have a5:=o5.sl (by have:=line_le m m.wgs[p].lot;simp only[List.length_map];omega)
   have s5:=o5.1
   have nx:(¬m.wgs[r].lot∈line m m.wgs[p].lot∧¬m.wgs[p].lot∈line m m.wgs[r].lot)→∀k' (hk:k'<i),k'<k+1→¬wl m (l[k']'(by omega))∈line m (wl m l[i])∧¬wl m l[i]∈line m (wl m (l[k']'(by omega))):=fun hn k' hk' hlt=>by
    by_cases e:k'=k
    ·subst e;rw[w1,w2];exact hn
    ·exact hnk k' hk' (by omega)
   have fail:¬(¬m.wgs[r].lot∈line m m.wgs[p].lot∧¬m.wgs[p].lot∈line m m.wgs[r].lot)→¬l.Pairwise (Apart m):=fun hn hp2=>hn (by
    have:=hap.1 hp2 i k hi hk
    rw[w1,w2] at this;exact this)
   by_cases h1:m.wgs[r].lot∈line m m.wgs[p].lot
   ·simp -implicitDefEqProofs(maxSteps:=999999)(disch:=first|with_reducible rfl|omega|(simp only[nA,nS,nD]<;>omega)|fail)only[go_sem,t0,t1,t6,t11,t12,t13,t20,t21,t22,contains_ev a5,h1,decide_true]
    exact q false _ (hS.trans s5) ⟨fun h=>(by cases h),fun h=>absurd h (fail fun h=>h.1 h1)⟩
   ·simp -implicitDefEqProofs(maxSteps:=999999)(disch:=first|with_reducible rfl|omega|(simp only[nA,nS,nD]<;>omega)|fail)only[go_sem,t0,t1,t6,t11,t12,t13,t20,t21,t22,contains_ev a5,h1,decide_false]
    refine deskLine_ev (hS.trans s5).wf (hd0.mono (hS.trans s5)) g (by omega) r2.2 _ fun y2 h6 o6=>?_
    have a6:=o6.sl (by have:=line_le m m.wgs[r].lot;simp only[List.length_map];omega)
    have s6:=o6.1
    by_cases h2:m.wgs[p].lot∈line m m.wgs[r].lot
    ·simp -implicitDefEqProofs(maxSteps:=999999)(disch:=first|with_reducible rfl|omega|(simp only[nA,nS,nD]<;>omega)|fail)only[go_sem,t0,t1,t6,t11,t12,t13,t20,t21,t22,contains_ev a6,h2,decide_true]
     exact q false _ (hS.trans (s5.trans s6)) ⟨fun h=>(by cases h),fun h=>absurd h (fail fun h=>h.2 h2)⟩
    ·simp -implicitDefEqProofs(maxSteps:=999999)(disch:=first|with_reducible rfl|omega|(simp only[nA,nS,nD]<;>omega)|fail)only[go_sem,t0,t1,t6,t11,t12,t13,t20,t21,t22,contains_ev a6,h2,decide_false,wr_succ]
     exact⟨_,_,rfl,hs2.trans (s5.trans s6),nx ⟨h1,h2⟩,(by simp[ev_c,ev_put,t0]<;>rfl),(by simp[ev_c,ev_put,t1]<;>rfl),(by simp[ev_c,ev_put,t6]<;>rfl),(by simp[ev_c,ev_put,t11]<;>rfl),(by simp[ev_c,ev_put,t12]<;>rfl),(by simp[ev_c,ev_put,t13]<;>rfl),(by simp[ev_c,ev_put,t20]<;>rfl),(by simp[ev_c,ev_put,t21]<;>rfl),(by simp[ev_c,ev_put]<;>rfl)⟩
  ·clear t0 t1 t11 t12 t13
   rintro s ⟨tm,h2,rfl,hs2,hnk,t0,t1,t6,t11,t12,t13,t20,t21,t22⟩
   simp -implicitDefEqProofs(maxSteps:=999999)(disch:=first|with_reducible rfl|omega|(simp only[nA,nS,nD]<;>omega)|fail)only[go_sem,t0,t1,t6,t11,t12,t13,t20,t21,t22,Int.lt_irrefl,wr_succ]
   refine⟨_,_,rfl,hs.trans hs2,fun i' k hi2 hk2 hlt=>?_,(by simp[ev_c,ev_put,t0]<;>rfl),(by simp[ev_c,ev_put,t1]<;>rfl),(by simp[ev_c,ev_put,t11]<;>rfl),(by simp[ev_c,ev_put,t12]<;>rfl),(by simp[ev_c,ev_put]<;>rfl)⟩
   by_cases e:i'=i
   ·subst e;exact hnk k hk2 hk2
   ·exact hno i' k hi2 hk2 (by omega)
 ·rintro s ⟨tm,h',rfl,hs,hno,t0,t1,t11,t12,t13⟩
  simp -implicitDefEqProofs(maxSteps:=999999)(disch:=first|with_reducible rfl|omega|(simp only[nA,nS,nD]<;>omega)|fail)only[go_sem,t0,t1,t11,t12,t13,Int.lt_irrefl]
  exact q true _ hs ⟨fun _=>hap.2 fun i k hi hk=>hno i k hi hk hi,fun _=>rfl⟩
theorem within_pure {h:H}{d cd cp:Nat}{m:Ml}{lot:Int}{X Y:V}(hd:DkAt h d m)(g:Good m)(e1:h.cells cd=some [.ptr d 0])(e2:h.cells cp=some [.int .i64 lot,X,Y]){a:Int}(a0:0≤a)(a1:a<m.wgs.length):
  PureA h (.fn 129 [] [.ptr cd 0,.ptr cp 0]) [.int .i64 a] (.bool (decide (lot∈line m (wl m a)))):=fun h1 hs=>by
 obtain⟨p,rfl⟩:=Int.eq_ofNat_of_zero_le a0
 have hp:p<m.wgs.length:=by omega
 have r:=wl_in g a0 a1
 rw[wl_at hp] at r⊢
 have hd1:=hd.mono hs
 have hd0:=hd1
 obtain⟨pm,al,L,W,g1,g2,aL,aW,ap⟩:=hd1
 obtain⟨b3,o3,c3,cs3,e3,hcs3,hq3,hgg3,hn3,hn03⟩:=aW.at hp
 refine Ev.gen fun Q q=>?_
 refine Ev_body (fd:=c129) rfl rfl rfl ?_
 simp -implicitDefEqProofs(maxSteps:=999999)(disch:=first|with_reducible rfl|omega|(simp only[nA,nS,nD]<;>omega)|fail)only[c129,go_sem,hs.cells e1,cells_of g1,hq3 (nat_cst p),hcs3,hn03 (by omega),encW]
 refine deskLine_ev hs.wf hd0 g (by omega) r.2 _ fun y1 h5 o5=>?_
 have a5:=o5.sl (by have:=line_le m m.wgs[p].lot;simp only[List.length_map];omega)
 have s5:=o5.1
 simp -implicitDefEqProofs(maxSteps:=999999)(disch:=first|with_reducible rfl|omega|(simp only[nA,nS,nD]<;>omega)|fail)only[go_sem,hs.cells e1,s5.cells (hs.cells e1),cells_of g1,cells_of (s5.get g1),hcs3,s5.cells hcs3,hn03 (by omega),encW,hs.cells e2,s5.cells (hs.cells e2),contains_ev a5]
 exact q _ _ ⟨rfl,s5⟩
theorem other_pure {h:H}{d cd cw:Nat}{m:Ml}{w:Int}(hd:DkAt h d m)(g:Good m)(e1:h.cells cd=some [.ptr d 0])(e2:h.cells cw=some [.int .i64 w])(w0:0≤w)(w1:w<m.lots.length){a:Int}(a0:0≤a)(a1:a<m.wgs.length):
  PureA h (.fn 132 [] [.ptr cd 0,.ptr cw 0]) [.int .i64 a] (.bool (!decide (wl m a∈line m w))):=fun h1 hs=>by
 obtain⟨p,rfl⟩:=Int.eq_ofNat_of_zero_le a0
 have hp:p<m.wgs.length:=by omega
 rw[wl_at hp]
 have hd1:=hd.mono hs
 have hd0:=hd1
 obtain⟨pm,al,L,W,g1,g2,aL,aW,ap⟩:=hd1
 obtain⟨b3,o3,c3,cs3,e3,hcs3,hq3,hgg3,hn3,hn03⟩:=aW.at hp
 refine Ev.gen fun Q q=>?_
 refine Ev_body (fd:=c132) rfl rfl rfl ?_
 simp -implicitDefEqProofs(maxSteps:=999999)(disch:=first|with_reducible rfl|omega|(simp only[nA,nS,nD]<;>omega)|fail)only[c132,go_sem,hs.cells e1,hs.cells e2]
 refine deskLine_ev hs.wf hd0 g (by omega) w1 _ fun y1 h5 o5=>?_
 have a5:=o5.sl (by have:=line_le m w;simp only[List.length_map];omega)
 have s5:=o5.1
 simp -implicitDefEqProofs(maxSteps:=999999)(disch:=first|with_reducible rfl|omega|(simp only[nA,nS,nD]<;>omega)|fail)only[go_sem,hs.cells e1,hs.cells e2,s5.cells (hs.cells e1),s5.cells (hs.cells e2),cells_of g1,cells_of (s5.get g1),hq3 (nat_cst p),hcs3,s5.cells hcs3,hn03 (by omega),encW,contains_ev a5]
 exact q _ _ ⟨rfl,s5⟩
theorem cover_all {m:Ml}(g:Good m){lot:Int}{high:List Int}(hin:InW m high):Cover m lot high↔AllOk m (fun w=>high=[]∨∃a∈high,wl m a∈line m w) lot:=by
 constructor
 ·rintro(h|h) w w0 w1 hw ha
  ·exact .inl h
  ·obtain⟨a,h1,h2⟩:=h w w0 w1 hw ha
   exact .inr ⟨a,h1,(mem_line g w0 w1).2 h2⟩
 ·intro h
  by_cases e:high=[]
  ·exact .inl e
  ·refine .inr fun w w0 w1 hw ha=>?_
   rcases h w w0 w1 hw ha with h|⟨a,h1,h2⟩
   ·exact absurd h e
   ·exact⟨a,h1,(mem_line g w0 w1).1 h2⟩
set_option maxRecDepth 4000 in
set_option maxHeartbeats 4000000 in
theorem proof_ev {h hb:H}{d:Nat}{X Y:V}{m:Ml}{low high:List Int}{lot:Nat}(hw:h.wf)(hd:DkAt h d m)(g:Good m)(hlot:lot<m.lots.length)(hX:OwnC hb h X 1 (low.map encI))(hY:OwnC hb h Y 1 (high.map encI))(hl:low.length≤1000)(hh:high.length≤1000)
  (hi1:InW m low) (hi2:InW m high) (Q:V→H→Prop) (q:∀t h',h.Sub h'→(t=true↔Proof m (lot:Int) low high)→Q (.bool t) h'):Ev fnG fastA (.fn 82 [] []) [.ptr d 0,.agg [.int .i64 (lot:Int),X,Y]] h Q:=by
 have X1:=hX.one
 have Y1:=hY.one
 have aX:=hX.sl (by simp only[List.length_map];omega)
 have aY:=hY.sl (by simp only[List.length_map];omega)
 have hlenY:=aY.lenE
 have hl0:(0:Int)≤(lot:Int):=by omega
 have hl1:(lot:Int)<(m.lots.length:Int):=by omega
 refine Ev_body (fd:=c82) rfl rfl rfl ?_
 have s1:h.Sub (((h.add (.cells .rw [.ptr d 0])).add (.cells .rw [.int .i64 (lot:Int),X,Y])).add (.cells .rw [.bool false])):=(by repeat(first|assumption|exact H.Sub.refl (by assumption)|refine H.Sub.add ?_ _|refine H.Sub.set ?_ (by first|omega|(simp only[H.next_add,H.next_set,H.next_del]<;>omega)) (by first|omega|(simp only[H.next_add,H.next_set,H.next_del]<;>omega)) (by assumption) _))
 have e1:(((h.add (.cells .rw [.ptr d 0])).add (.cells .rw [.int .i64 (lot:Int),X,Y])).add (.cells .rw [.bool false])).cells h.next=some [.ptr d 0]:=by simp -implicitDefEqProofs(maxSteps:=999999)(disch:=first|with_reducible rfl|omega|(simp only[nA,nS,nD]<;>omega)|fail)only[go_sem]
 have e2:(((h.add (.cells .rw [.ptr d 0])).add (.cells .rw [.int .i64 (lot:Int),X,Y])).add (.cells .rw [.bool false])).cells (h.next+1)=some [.int .i64 (lot:Int),X,Y]:=by simp -implicitDefEqProofs(maxSteps:=999999)(disch:=first|with_reducible rfl|omega|(simp only[nA,nS,nD]<;>omega)|fail)only[go_sem]
 have e3:(((h.add (.cells .rw [.ptr d 0])).add (.cells .rw [.int .i64 (lot:Int),X,Y])).add (.cells .rw [.bool false])).get (h.next+1+1)=some (.cells .rw [.bool false]):=by simp -implicitDefEqProofs(maxSteps:=999999)(disch:=first|with_reducible rfl|omega|(simp only[nA,nS,nD]<;>omega)|fail)only[go_sem]
 have l1:(((h.add (.cells .rw [.ptr d 0])).add (.cells .rw [.int .i64 (lot:Int),X,Y])).add (.cells .rw [.bool false])).next=h.next+3:=by simp only[H.next_add]
 simp -implicitDefEqProofs(maxSteps:=999999)(disch:=first|with_reducible rfl|omega|(simp only[nA,nS,nD]<;>omega)|fail)only[c82,go_sem,X1,Y1,cells_one X1,cells_one Y1]
 generalize(((h.add (.cells .rw [.ptr d 0])).add (.cells .rw [.int .i64 (lot:Int),X,Y])).add (.cells .rw [.bool false]))=h1 at s1 e1 e2 e3 l1⊢
 have hd1:=hd.mono s1
 have wiff:∀l:List Int,InW m l→((l.all fun a=>decide ((lot:Int)∈line m (wl m a)))=true↔Within m (lot:Int) l):=fun l hi=>by
  rw[List.all_eq_true]
  constructor
  ·intro h a ha
   have:=h a ha
   rw[decide_eq_true_eq] at this
   have r:=wl_in g (hi a ha).1 (hi a ha).2
   exact(mem_line g r.1 r.2).1 this
  ·intro h a ha
   rw[decide_eq_true_eq]
   have r:=wl_in g (hi a ha).1 (hi a ha).2
   exact(mem_line g r.1 r.2).2 (h a ha)
 refine(everyInt_ev (p:=fun a=>decide ((lot:Int)∈line m (wl m a))) s1.wf (aX.mono s1) fun a ha=>within_pure hd1 g e1 e2 (hi1 a ha).1 (hi1 a ha).2).mono fun u h2 hu=>?_
 obtain⟨rfl,s12⟩:=hu
 have s2:=s1.trans s12
 have r2:=s12.get e3
 have l2:=s12.next
 cases c1:low.all fun a=>decide ((lot:Int)∈line m (wl m a))
 ·have hno:¬Proof m (lot:Int) low high:=fun hp=>by rw[(wiff low hi1).2 hp.1.1] at c1;cases c1
  simp -implicitDefEqProofs(maxSteps:=999999)(disch:=first|with_reducible rfl|omega|(simp only[nA,nS,nD]<;>omega)|fail)only[go_sem,Bool.not_false,r2,cells_of r2]
  exact q false _ (s2.set (by omega) (by omega) hw _) ⟨fun h=>(by cases h),fun h=>absurd h hno⟩
 have hW1:=(wiff low hi1).1 c1
 simp -implicitDefEqProofs(maxSteps:=999999)(disch:=first|with_reducible rfl|omega|(simp only[nA,nS,nD]<;>omega)|fail)only[go_sem,Bool.not_true,s12.cells e2]
 refine(everyInt_ev (p:=fun a=>decide ((lot:Int)∈line m (wl m a))) s2.wf (aY.mono s2) fun a ha=>within_pure (hd1.mono s12) g (s12.cells e1) (s12.cells e2) (hi2 a ha).1 (hi2 a ha).2).mono fun u h3 hu=>?_
 obtain⟨rfl,s23⟩:=hu
 have s3:=s2.trans s23
 have r3:=s23.get r2
 have l3:=s23.next
 cases c2:high.all fun a=>decide ((lot:Int)∈line m (wl m a))
 ·have hno:¬Proof m (lot:Int) low high:=fun hp=>by rw[(wiff high hi2).2 hp.1.2] at c2;cases c2
  simp -implicitDefEqProofs(maxSteps:=999999)(disch:=first|with_reducible rfl|omega|(simp only[nA,nS,nD]<;>omega)|fail)only[go_sem,Bool.not_false,r3,cells_of r3]
  exact q false _ (s3.set (by omega) (by omega) hw _) ⟨fun h=>(by cases h),fun h=>absurd h hno⟩
 have hW2:=(wiff high hi2).1 c2
 have s13:=s12.trans s23
 simp -implicitDefEqProofs(maxSteps:=999999)(disch:=first|with_reducible rfl|omega|(simp only[nA,nS,nD]<;>omega)|fail)only[go_sem,Bool.not_true,s13.cells e1,s13.cells e2]
 refine beside_ev s3.wf (hd1.mono s13) g (hX.mono s3) hl hi1 _ fun ta h4 s34 hta=>?_
 have s4:=s3.trans s34
 have r4:=s34.get r3
 have l4:=s34.next
 cases ta
 ·have hno:¬Proof m (lot:Int) low high:=fun hp=>by have:=hta.2 hp.2.1.1;cases this
  simp -implicitDefEqProofs(maxSteps:=999999)(disch:=first|with_reducible rfl|omega|(simp only[nA,nS,nD]<;>omega)|fail)only[go_sem,Bool.not_false,r4,cells_of r4]
  exact q false _ (s4.set (by omega) (by omega) hw _) ⟨fun h=>(by cases h),fun h=>absurd h hno⟩
 have hA1:=hta.1 rfl
 have s14:=s13.trans s34
 simp -implicitDefEqProofs(maxSteps:=999999)(disch:=first|with_reducible rfl|omega|(simp only[nA,nS,nD]<;>omega)|fail)only[go_sem,Bool.not_true,s14.cells e1,s14.cells e2]
 refine beside_ev s4.wf (hd1.mono s14) g (hY.mono s4) hh hi2 _ fun tb h5 s45 htb=>?_
 have s5:=s4.trans s45
 have r5:=s45.get r4
 have l5:=s45.next
 cases tb
 ·have hno:¬Proof m (lot:Int) low high:=fun hp=>by have:=htb.2 hp.2.1.2;cases this
  simp -implicitDefEqProofs(maxSteps:=999999)(disch:=first|with_reducible rfl|omega|(simp only[nA,nS,nD]<;>omega)|fail)only[go_sem,Bool.not_false,r5,cells_of r5]
  exact q false _ (s5.set (by omega) (by omega) hw _) ⟨fun h=>(by cases h),fun h=>absurd h hno⟩
 have hA2:=htb.1 rfl
 have s15:=s14.trans s45
 simp -implicitDefEqProofs(maxSteps:=999999)(disch:=first|with_reducible rfl|omega|(simp only[nA,nS,nD]<;>omega)|fail)only[go_sem,Bool.not_true,s15.cells e1,s15.cells e2]
 refine Ev_body (fd:=c131) rfl rfl rfl ?_
 have s56:h5.Sub ((h5.add (.cells .rw [.ptr d 0])).add (.cells .rw [.int .i64 (lot:Int)])):=((H.Sub.refl s5.wf).add _).add _
 have k1:((h5.add (.cells .rw [.ptr d 0])).add (.cells .rw [.int .i64 (lot:Int)])).cells h5.next=some [.ptr d 0]:=by simp -implicitDefEqProofs(maxSteps:=999999)(disch:=first|with_reducible rfl|omega|(simp only[nA,nS,nD]<;>omega)|fail)only[go_sem]
 have k2:((h5.add (.cells .rw [.ptr d 0])).add (.cells .rw [.int .i64 (lot:Int)])).cells (h5.next+1)=some [.int .i64 (lot:Int)]:=by simp -implicitDefEqProofs(maxSteps:=999999)(disch:=first|with_reducible rfl|omega|(simp only[nA,nS,nD]<;>omega)|fail)only[go_sem]
 have l56:((h5.add (.cells .rw [.ptr d 0])).add (.cells .rw [.int .i64 (lot:Int)])).next=h5.next+2:=by simp only[H.next_add]
 simp -implicitDefEqProofs(maxSteps:=999999)(disch:=first|with_reducible rfl|omega|(simp only[nA,nS,nD]<;>omega)|fail)only[c131,go_sem]
 generalize((h5.add (.cells .rw [.ptr d 0])).add (.cells .rw [.int .i64 (lot:Int)]))=h6 at s56 k1 k2 l56⊢
 refine W_gen (P:=fun tm=>(Opd.t 2).ev tm=.ptr h.next 0∧(Opd.t 3).ev tm=.ptr (h.next+1) 0∧(Opd.t 4).ev tm=.ptr (h.next+1+1) 0∧(Opd.t 37).ev tm=.fn 160 [] [.ptr h5.next 0,.ptr (h5.next+1) 0]) ⟨(by simp[ev_c,ev_put]<;>rfl),(by simp[ev_c,ev_put]<;>rfl),(by simp[ev_c,ev_put]<;>rfl),(by simp[ev_c,ev_put]<;>rfl)⟩ fun tm ⟨t2,t3,t4,t37⟩=>?_
 refine W_rf t37 ?_
 generalize hr:LoopR.mk _ _ _ _ _ _ _ _ _=r0
 have w6:=(s5.trans s56).wf
 have w1:=s1.wf
 have s6B:h6.Sub (h6.add .dfr):=(H.Sub.refl w6).add _
 have s16:=s15.trans s56
 have l6:=s16.next
 have lB:(h6.add .dfr).next=h6.next+1:=H.next_add _ _
 have s1B:=s16.trans s6B
 have gB:(h6.add .dfr).get h6.next=some .dfr:=get_add_new rfl
 have hdB:=hd1.mono s1B
 have fB:=congrArg LoopR.body hr
 have fA:=congrArg LoopR.assign hr
 have fN:=congrArg LoopR.n hr
 have fF:=congrArg LoopR.fn hr
 have fP:=congrArg LoopR.ps hr
 have fT:=congrArg LoopR.tm hr
 dsimp only at fB fA fN fF fP fT
 have hrs:r0.st=.ready:=by rw[←hr]
 have hrp:r0.pend=none:=by rw[←hr]
 obtain⟨I,hI⟩:∃I:H→Prop,∀x,I x↔(h6.add .dfr).Sub x∧x.get (h6.next+1)=some (.loop r0):=⟨_,fun _=>Iff.rfl⟩
 obtain⟨S,hS⟩:∃S:H→Prop,∀x,S x↔h.Sub x∧x.get (h.next+1+1)=some (.cells .rw [.bool false])∧x.get h6.next=some .dfr∧h6.next+1<x.next∧∃r,x.get (h6.next+1)=some (.loop r)∧r.st=.done∧r.pend=some .ret:=⟨_,fun _=>Iff.rfl⟩
 have env:GenEnv (h6.add .dfr) (h6.next+1) I:=⟨fun x hx=>((hI x).1 hx).1,fun x y hx hs=>(hI y).2 ⟨((hI x).1 hx).1.trans hs,hs.get ((hI x).1 hx).2⟩,fun x hx=>((hI x).1 hx).1.wf _ _ ((hI x).1 hx).2⟩
 have hcv:=cover_all (lot:=(lot:Int)) g hi2
 have hY5:=hY.mono (s1.trans s1B)
 refine whole1_gen (S:=S) (ok:=fun w=>high=[]∨∃a∈high,wl m a∈line m w) env g hdB rfl (fun w w0' w1' hleaf hx hIx=>?_) (by omega) hlot ((hI _).2 ⟨(H.Sub.refl (H.wf_add w6 _)).add _,get_add_new (by rw[lB])⟩) (by rw[cells_add_old (by omega),cells_add_old (by omega)];exact k1) (by rw[cells_add_old (by omega),cells_add_old (by omega)];exact k2) _ fun u h7 hu=>?_
 ·obtain⟨sx,gx⟩:=(hI _).1 hIx
  have lx:=sx.next
  have gxd:=sx.get gB
  have wx:=sx.wf
  have hlx:=wx _ _ gx
  unfold GenE
  refine Ev.gen fun Q2 q2=>?_
  refine Ev_yld (tm:=tm.put (some (.int .i64 w)) 38) gx (by rw[←fP,←fT];rfl) ?_
  rw[←fA,←fN,←fF]
  have sx2:hx.Sub (hx.add (.cells .rw [.int .i64 w])):=(H.Sub.refl wx).add _
  have gw:(hx.add (.cells .rw [.int .i64 w])).cells hx.next=some [.int .i64 w]:=cells_add_new rfl
  have lw:(hx.add (.cells .rw [.int .i64 w])).next=hx.next+1:=H.next_add _ _
  simp -implicitDefEqProofs(maxSteps:=999999)(disch:=first|with_reducible rfl|omega|(simp only[nA,nS,nD]<;>omega)|fail)only[go_sem,t2,t3,t4]
  unfold Kasg
  refine⟨rfl,r0,sx2.get gx,hrs,?_⟩
  obtain⟨rb,hrb⟩:∃rb:LoopR,rb={r0 with st:=.busy}:=⟨_,rfl⟩
  have hrb1:({rb with st:=.ready,pend:=none}:LoopR)=r0:=by rw[hrb];cases r0;simp_all
  rw[←hrb,←fB,←fN,←fF]
  generalize hx.add (.cells .rw [.int .i64 w])=hy at sx2 gw lw⊢
  have sB3:(h6.add .dfr).Sub (hy.set (h6.next+1) (.loop rb)):=(sx.trans sx2).set (by omega) (by omega) (H.wf_add w6 _) _
  have s13x:=s1B.trans sB3
  have k3:Kl (h6.next+1) hx (hy.set (h6.next+1) (.loop rb)):=Kl.trans (Keeps.of sx2 _) (Keeps.set _ _ _)
  have g3:(hy.set (h6.next+1) (.loop rb)).get (h6.next+1)=some (.loop rb):=get_set_same rfl
  have c3:(hy.set (h6.next+1) (.loop rb)).cells hx.next=some [.int .i64 w]:=by rw[cells_set_other (by omega)];exact gw
  have l3':(hy.set (h6.next+1) (.loop rb)).next=hx.next+1:=by rw[H.next_set];exact lw
  generalize hy.set (h6.next+1) (.loop rb)=h3y at sB3 s13x k3 g3 c3 l3'⊢
  have wy:=sB3.wf
  have fin:∀h4:H,h3y.Sub h4→I (h4.set (h6.next+1) (.loop {rb with st:=.ready,pend:=none}))∧Kl (h6.next+1) hx (h4.set (h6.next+1) (.loop {rb with st:=.ready,pend:=none})):=fun h4 s4=>by
   have:=s4.next
   exact⟨(hI _).2 ⟨(sB3.trans s4).set (by omega) (by omega) (H.wf_add w6 _) _,by rw[get_set_same rfl,hrb1]⟩,Kl.trans (Kl.trans k3 (Keeps.of s4 _)) (Keeps.set _ _ _)⟩
  by_cases hh0:high=[]
  ·have hl0':¬0<(high.length:Int):=by rw[hh0];simp
   simp -implicitDefEqProofs(maxSteps:=999999)(disch:=first|with_reducible rfl|omega|(simp only[nA,nS,nD]<;>omega)|fail)only[go_sem,t2,t3,t4,s13x.cells e2,hlenY,hl0']
   unfold Kround
   exact⟨rb,g3,q2 _ _ (.inl ⟨.inl hh0,rfl,(fin _ (H.Sub.refl wy)).1,(fin _ (H.Sub.refl wy)).2⟩)⟩
  ·have hl0':0<(high.length:Int):=by have:=List.length_pos_iff.2 hh0;omega
   simp -implicitDefEqProofs(maxSteps:=999999)(disch:=first|with_reducible rfl|omega|(simp only[nA,nS,nD]<;>omega)|fail)only[go_sem,t2,t3,t4,s13x.cells e2,hlenY,hl0']
   refine(everyInt_ev (p:=fun a=> !decide (wl m a∈line m w)) wy ((hY5.mono sB3).sl (by simp only[List.length_map];omega)) fun a ha=>other_pure (hdB.mono sB3) g (s13x.cells e1) c3 w0' w1' (hi2 a ha).1 (hi2 a ha).2).mono fun u h4 hu=>?_
   obtain⟨rfl,s34y⟩:=hu
   cases call:high.all fun a=> !decide (wl m a∈line m w)
   ·have hok:∃a∈high,wl m a∈line m w:=by
     rw[List.all_eq_false] at call
     obtain⟨a,ha,hn⟩:=call
     refine⟨a,ha,?_⟩
     simpa using hn
    simp -implicitDefEqProofs(maxSteps:=999999)(disch:=first|with_reducible rfl|omega|(simp only[nA,nS,nD]<;>omega)|fail)only[go_sem,t2,t3,t4]
    unfold Kround
    exact⟨rb,s34y.get g3,q2 _ _ (.inl ⟨.inr hok,rfl,(fin _ s34y).1,(fin _ s34y).2⟩)⟩
   ·have hno:¬(high=[]∨∃a∈high,wl m a∈line m w):=fun h=>by
     rcases h with h|⟨a,ha,h2⟩
     ·exact hh0 h
     ·rw[List.all_eq_true] at call
      have:=call a ha
      simp[h2] at this
    have r4y:=(s13x.trans s34y).get e3
    have l4y:=s34y.next
    have gd4:=(sB3.trans s34y).get gB
    simp -implicitDefEqProofs(maxSteps:=999999)(disch:=first|with_reducible rfl|omega|(simp only[nA,nS,nD]<;>omega)|fail)only[go_sem,t2,t3,t4,r4y,cells_of r4y]
    unfold Kround
    refine⟨rb,by rw[get_set_other (by omega)];exact s34y.get g3,q2 _ _ (.inr ⟨hno,rfl,(hS _).2 ⟨?_,?_,?_,?_,_,get_set_same rfl,rfl,rfl⟩⟩)⟩
    ·exact(((s1.trans s13x).trans s34y).set (by omega) (by omega) hw _).set (by omega) (by rw[H.next_set];omega) hw _
    ·rw[get_set_other (by omega),get_set_same rfl]
    ·rw[get_set_other (by omega),get_set_other (by omega)];exact gd4
    ·rw[H.next_set,H.next_set];omega
 ·rcases hu with⟨hall,hI7⟩|⟨hall,hS7⟩
  ·obtain⟨s7,g7⟩:=(hI _).1 hI7
   have hP:Proof m (lot:Int) low high:=⟨⟨hW1,hW2⟩,⟨hA1,hA2⟩,hcv.2 hall⟩
   have l7:=s7.next
   have lt7:=s7.wf _ _ g7
   have gd7:=s7.get gB
   have r7:=(s1B.trans s7).get e3
   refine⟨r0,g7,by rw[hrs];simp,?_⟩
   rw[hrp]
   have s77:h.Sub (h7.set (h6.next+1) (.loop {r0 with st:=.exhausted})):=((s1.trans s1B).trans s7).set (by omega) (by omega) hw _
   have r77:(h7.set (h6.next+1) (.loop {r0 with st:=.exhausted})).get (h.next+1+1)=some (.cells .rw [.bool false]):=by rw[get_set_other (by omega)];exact r7
   have d77:(h7.set (h6.next+1) (.loop {r0 with st:=.exhausted})).get h6.next=some .dfr:=by rw[get_set_other (by omega)];exact gd7
   have l77:(h7.set (h6.next+1) (.loop {r0 with st:=.exhausted})).next=h7.next:=H.next_set _ _ _
   rw[hrp] at s77 r77 d77 l77
   generalize h7.set (h6.next+1) _=h8 at s77 r77 d77 l77⊢
   have d8:(h8.set (h.next+1+1) (.cells .rw [.bool true])).get h6.next=some .dfr:=by rw[get_set_other (by omega)];exact d77
   simp -implicitDefEqProofs(maxSteps:=999999)(disch:=first|with_reducible rfl|omega|(simp only[nA,nS,nD]<;>omega)|fail)only[go_sem,t2,t3,t4,r77,cells_of r77,Kfin_ret1 _ _ _ d8]
   exact q true _ (H.Sub.del (b:=h6.next) (s77.set (b:=h.next+1+1) (by omega) (by omega) hw (.cells .rw [.bool true])) (by omega) hw) ⟨fun _=>hP,fun _=>rfl⟩
  ·obtain⟨s7,r7,d7,l7,r,g7,hst,hpd⟩:=(hS _).1 hS7
   have hP:¬Proof m (lot:Int) low high:=fun hp=>hall (hcv.1 hp.2.2)
   refine⟨r,g7,by rw[hst];simp,?_⟩
   rw[hpd]
   have s77:h.Sub (h7.set (h6.next+1) (.loop {r with st:=.exhausted})):=s7.set (by omega) (by omega) hw _
   have r77:(h7.set (h6.next+1) (.loop {r with st:=.exhausted})).get (h.next+1+1)=some (.cells .rw [.bool false]):=by rw[get_set_other (by omega)];exact r7
   have d77:(h7.set (h6.next+1) (.loop {r with st:=.exhausted})).get h6.next=some .dfr:=by rw[get_set_other (by omega)];exact d7
   rw[hpd] at s77 r77 d77
   generalize h7.set (h6.next+1) _=h8 at s77 r77 d77⊢
   simp -implicitDefEqProofs(maxSteps:=999999)(disch:=first|with_reducible rfl|omega|(simp only[nA,nS,nD]<;>omega)|fail)only[go_sem,t2,t3,t4,r77,cells_of r77,Kfin_ret1 _ _ _ d77]
   exact q false _ (H.Sub.del (b:=h6.next) s77 (by omega) hw) ⟨fun h=>(by cases h),fun h=>absurd h hP⟩
theorem fld_0 (a b:Int):q_fld false 1 0 (.agg [.int .i64 a,.int .i64 b])=some (.int .i64 a):=rfl
theorem fld_1 (a b:Int):q_fld false 1 1 (.agg [.int .i64 a,.int .i64 b])=some (.int .i64 b):=rfl
set_option maxHeartbeats 4000000 in
theorem Proves_ev {h hb:H}{v X Y:V}{m:Ml}{low high:List Int}(hw:h.wf)(hm:MlIs h v m)(lot:Int)(hX:OwnC hb h X 1 (low.map encI))(hY:OwnC hb h Y 1 (high.map encI))(hl:low.length≤1000)(hh:high.length≤1000):
  Ev fnG fastA (.fn 22 [] []) [v,.agg [.int .i64 lot,X,Y]] h fun u h'=>h.Sub h'∧∃n e,u=.tup [.int .i64 n,.int .i64 e]∧((check m≠0∧n=0∧e=check m)∨(check m=0∧ProofR m lot low high n e)):=by
 refine Ev.gen fun Q q=>?_
 have hm0:=hm
 obtain⟨L,W,rfl,aL,aW⟩:=hm
 have X1:=hX.one
 have Y1:=hY.one
 have aX:=hX.sl (by simp only[List.length_map];omega)
 have aY:=hY.sl (by simp only[List.length_map];omega)
 have hlenX:=aX.lenE
 have hlenY:=aY.lenE
 refine Ev_body (fd:=c22) rfl rfl rfl ?_
 have s1:h.Sub ((h.add (.cells .rw [.int .i64 m.errs,L,W])).add (.cells .rw [.int .i64 lot,X,Y])):=(by repeat(first|assumption|exact H.Sub.refl (by assumption)|refine H.Sub.add ?_ _|refine H.Sub.set ?_ (by first|omega|(simp only[H.next_add,H.next_set,H.next_del]<;>omega)) (by first|omega|(simp only[H.next_add,H.next_set,H.next_del]<;>omega)) (by assumption) _))
 have e1:((h.add (.cells .rw [.int .i64 m.errs,L,W])).add (.cells .rw [.int .i64 lot,X,Y])).cells h.next=some [.int .i64 m.errs,L,W]:=by simp -implicitDefEqProofs(maxSteps:=999999)(disch:=first|with_reducible rfl|omega|(simp only[nA,nS,nD]<;>omega)|fail)only[go_sem]
 have e2:((h.add (.cells .rw [.int .i64 m.errs,L,W])).add (.cells .rw [.int .i64 lot,X,Y])).cells (h.next+1)=some [.int .i64 lot,X,Y]:=by simp -implicitDefEqProofs(maxSteps:=999999)(disch:=first|with_reducible rfl|omega|(simp only[nA,nS,nD]<;>omega)|fail)only[go_sem]
 simp -implicitDefEqProofs(maxSteps:=999999)(disch:=first|with_reducible rfl|omega|(simp only[nA,nS,nD]<;>omega)|fail)only[c22,go_sem,X1,Y1,cells_one X1,cells_one Y1]
 generalize((h.add (.cells .rw [.int .i64 m.errs,L,W])).add (.cells .rw [.int .i64 lot,X,Y]))=h1 at s1 e1 e2⊢
 refine(opened_dk s1.wf (hm0.mono s1)).mono fun u h2 hu=>?_
 obtain⟨s12,hu⟩:=hu
 have s2:=s1.trans s12
 rcases hu with⟨c,rfl⟩|⟨c,d,rfl,hd⟩
 ·simp -implicitDefEqProofs(maxSteps:=999999)(disch:=first|with_reducible rfl|omega|(simp only[nA,nS,nD]<;>omega)|fail)only[go_sem,c,ne_eq,not_false_eq_true,s12.cells e1]
  exact q _ _ ⟨s2,0,check m,rfl,.inl ⟨c,rfl,rfl⟩⟩
 have g:=good_of c
 have gl:=g.lots
 have gw:=g.wgs
 have hib:∀n k:Int,inB n 0 (k-1)=true↔0≤n∧n<k:=fun n k=>by unfold inB;rw[decide_eq_true_eq];omega
 have wiff:∀l:List Int,(l.all fun a=>inB a 0 ((m.wgs.length:Int)-1))=true↔InW m l:=fun l=>by
  rw[List.all_eq_true]
  exact⟨fun h a ha=>(hib _ _).1 (h a ha),fun h a ha=>(hib _ _).2 (h a ha)⟩
 have pw:∀(hh:H),h.Sub hh→∀n:Int,PureA hh (.fn 80 [.agg [.int .i64 m.errs,L,W]] []) [.int .i64 n] (.bool (inB n 0 ((m.wgs.length:Int)-1))):=fun hh hs n h1 hs1=>by
  rw[Ev_fn]
  exact weighing_ev ((hm0.mono hs).mono hs1) n _ (fun h' s=>⟨rfl,s⟩) hs1.wf
 simp -implicitDefEqProofs(maxSteps:=999999)(disch:=first|with_reducible rfl|omega|(simp only[nA,nS,nD]<;>omega)|fail)only[go_sem,ne_eq,eq_self,not_true_eq_false,s12.cells e1,s12.cells e2]
 refine lot_ev (hm0.mono s2) lot _ (fun h3 s23=>?_) s2.wf
 have s3:=s2.trans s23
 have s13:=s12.trans s23
 cases c0:inB lot 0 ((m.lots.length:Int)-1)
 ·have hno:¬(0≤lot∧lot<m.lots.length):=fun h=>by rw[(hib _ _).2 h] at c0;cases c0
  simp -implicitDefEqProofs(maxSteps:=999999)(disch:=first|with_reducible rfl|omega|(simp only[nA,nS,nD]<;>omega)|fail)only[go_sem,Bool.not_false]
  exact q _ _ ⟨s3,0,1,rfl,.inr ⟨c,.inl ⟨fun h=>hno h.1,rfl,rfl⟩⟩⟩
 have hlot:=(hib _ _).1 c0
 simp -implicitDefEqProofs(maxSteps:=999999)(disch:=first|with_reducible rfl|omega|(simp only[nA,nS,nD]<;>omega)|fail)only[go_sem,Bool.not_true,s13.cells e2]
 refine(everyInt_ev (p:=fun a=>inB a 0 ((m.wgs.length:Int)-1)) s3.wf (aX.mono s3) fun a _=>pw _ s3 a).mono fun u h4 hu=>?_
 obtain⟨rfl,s34⟩:=hu
 have s4:=s3.trans s34
 have s14:=s13.trans s34
 cases c1:low.all fun a=>inB a 0 ((m.wgs.length:Int)-1)
 ·have hno:¬InW m low:=fun h=>by rw[(wiff low).2 h] at c1;cases c1
  simp -implicitDefEqProofs(maxSteps:=999999)(disch:=first|with_reducible rfl|omega|(simp only[nA,nS,nD]<;>omega)|fail)only[go_sem,Bool.not_false]
  exact q _ _ ⟨s4,0,1,rfl,.inr ⟨c,.inl ⟨fun h=>hno h.2.1,rfl,rfl⟩⟩⟩
 have hi1:=(wiff low).1 c1
 simp -implicitDefEqProofs(maxSteps:=999999)(disch:=first|with_reducible rfl|omega|(simp only[nA,nS,nD]<;>omega)|fail)only[go_sem,Bool.not_true,s14.cells e2]
 refine(everyInt_ev (p:=fun a=>inB a 0 ((m.wgs.length:Int)-1)) s4.wf (aY.mono s4) fun a _=>pw _ s4 a).mono fun u h5 hu=>?_
 obtain⟨rfl,s45⟩:=hu
 have s5:=s4.trans s45
 have s15:=s14.trans s45
 cases c2:high.all fun a=>inB a 0 ((m.wgs.length:Int)-1)
 ·have hno:¬InW m high:=fun h=>by rw[(wiff high).2 h] at c2;cases c2
  simp -implicitDefEqProofs(maxSteps:=999999)(disch:=first|with_reducible rfl|omega|(simp only[nA,nS,nD]<;>omega)|fail)only[go_sem,Bool.not_false]
  exact q _ _ ⟨s5,0,1,rfl,.inr ⟨c,.inl ⟨fun h=>hno h.2.2,rfl,rfl⟩⟩⟩
 have hi2:=(wiff high).1 c2
 have hBase:(0≤lot∧lot<m.lots.length)∧InW m low∧InW m high:=⟨hlot,hi1,hi2⟩
 obtain⟨lo,rfl⟩:=Int.eq_ofNat_of_zero_le hlot.1
 simp -implicitDefEqProofs(maxSteps:=999999)(disch:=first|with_reducible rfl|omega|(simp only[nA,nS,nD]<;>omega)|fail)only[go_sem,Bool.not_true,s15.cells e2]
 refine proof_ev s5.wf (hd.mono ((s23.trans s34).trans s45)) g (by omega) (hX.mono s5) (hY.mono s5) hl hh hi1 hi2 _ fun t h6 s56 ht=>?_
 have s6:=s5.trans s56
 have s16:=s15.trans s56
 have hd6:=hd.mono (((s23.trans s34).trans s45).trans s56)
 cases t
 ·have hno:¬Proof m (lo:Int) low high:=fun h=>by have:=ht.2 h;cases this
  simp -implicitDefEqProofs(maxSteps:=999999)(disch:=first|with_reducible rfl|omega|(simp only[nA,nS,nD]<;>omega)|fail)only[go_sem,Bool.not_false]
  exact q _ _ ⟨s6,0,8,rfl,.inr ⟨c,.inr ⟨hBase,.inl ⟨hno,rfl,rfl⟩⟩⟩⟩
 have hP:=ht.1 rfl
 have bL:∀k,0≤sumL (wLo m) (low.take k)∧sumL (wLo m) (low.take k)≤1000*20000:=fun k=>sumL_bd (fun p hp=>(wLo_bd g (hi1 p (List.mem_of_mem_take hp)).1 (hi1 p (List.mem_of_mem_take hp)).2).1) (by rw[List.length_take];omega) (by omega)
 have bH:∀k,0≤sumL (wHi m) (high.take k)∧sumL (wHi m) (high.take k)≤1000*10000:=fun k=>sumL_bd (fun p hp=>(wLo_bd g (hi2 p (List.mem_of_mem_take hp)).1 (hi2 p (List.mem_of_mem_take hp)).2).2) (by rw[List.length_take];omega) (by omega)
 simp -implicitDefEqProofs(maxSteps:=999999)(disch:=first|with_reducible rfl|omega|(simp only[nA,nS,nD]<;>omega)|fail)only[go_sem,Bool.not_true,s16.cells e2,hlenX]
 refine W_count low.length (fun k s=>∃tm h',s=⟨tm,h',[]⟩∧h6.Sub h'∧(Opd.t 3).ev tm=.ptr (h.next+1) 0∧(Opd.t 6).ev tm=.ptr d 0∧(Opd.t 9).ev tm=.int .i64 (sumL (wLo m) (low.take k))∧(Opd.t 10).ev tm=.int .i64 10000∧(Opd.t 52).ev tm=X∧(Opd.t 53).ev tm=.int .i64 (low.length:Int)∧(Opd.t 54).ev tm=.int .i64 (k:Int))
  ?_ ?_ (i:=0) (Nat.zero_le _) ⟨_,_,rfl,H.Sub.refl s6.wf,(by simp[ev_c,ev_put]<;>rfl),(by simp[ev_c,ev_put]<;>rfl),(by simp[ev_c,ev_put]<;>rfl),(by simp[ev_c,ev_put]<;>rfl),(by simp[ev_c,ev_put]<;>rfl),(by simp[ev_c,ev_put]<;>rfl),(by simp[ev_c,ev_put]<;>rfl)⟩
 ·rintro k s hk ⟨tm,h',rfl,hsk,t3,t6,t9,t10,t52,t53,t54⟩
  have hk':(k:Int)<(low.length:Int):=by omega
  have hs2:=s6.trans hsk
  obtain⟨b2,o2,c2,cs2,e2',hcs2,hq2,hgg2,hn2,hn02⟩:=(aX.mono hs2).at hk
  have v2:=hn02 (by omega)
  obtain⟨p0,p1⟩:=hi1 _ (List.getElem_mem hk)
  obtain⟨p,ep⟩:=Int.eq_ofNat_of_zero_le p0
  have hp:p<m.wgs.length:=by omega
  simp only[encI,ep] at v2
  have es:=sum_take (wLo m) hk
  rw[ep,wLo_at hp] at es
  have bk:=bL k
  have bk1:=bL (k+1)
  simp -implicitDefEqProofs(maxSteps:=999999)(disch:=first|with_reducible rfl|omega|(simp only[nA,nS,nD]<;>omega)|fail)only[go_sem,t3,t6,t9,t10,t52,t53,t54,hk',hq2 (nat_cst k),hcs2,v2]
  refine(says_ev hs2.wf (hd6.mono hsk) g hp).mono fun u hB hu=>?_
  obtain⟨rfl,sB⟩:=hu
  simp -implicitDefEqProofs(maxSteps:=999999)(disch:=first|with_reducible rfl|omega|(simp only[nA,nS,nD]<;>omega)|fail)only[go_sem,t3,t6,t9,t10,t52,t53,t54,fld_0,wr_in,wr_succ]
  exact⟨_,_,rfl,hsk.trans sB,(by simp[ev_c,ev_put,t3]<;>rfl),(by simp[ev_c,ev_put,t6]<;>rfl),by rw[es];exact(by simp[ev_c,ev_put]<;>rfl),(by simp[ev_c,ev_put,t10]<;>rfl),(by simp[ev_c,ev_put,t52]<;>rfl),(by simp[ev_c,ev_put,t53]<;>rfl),(by simp[ev_c,ev_put]<;>rfl)⟩
 ·rintro s ⟨tm,h7,rfl,s67,t3,t6,t9,t10,t52,t53,t54⟩
  rw[List.take_length] at t9
  have bLl:=bL low.length
  rw[List.take_length] at bLl
  have s7:=s6.trans s67
  have s17:=s16.trans s67
  have hd7:=hd6.mono s67
  obtain⟨B0,hB0⟩:∃B0:Int,B0=if high=[] then 10000 else 0:=⟨_,rfl⟩
  obtain⟨J,hJ⟩:∃J:St→Prop,∀s,J s↔∃tm,s=⟨tm,h7,[]⟩∧(Opd.t 3).ev tm=.ptr (h.next+1) 0∧(Opd.t 6).ev tm=.ptr d 0∧(Opd.t 9).ev tm=.int .i64 (sumL (wLo m) low)∧(Opd.t 10).ev tm=.int .i64 B0:=⟨_,fun _=>Iff.rfl⟩
  simp -implicitDefEqProofs(maxSteps:=999999)(disch:=first|with_reducible rfl|omega|(simp only[nA,nS,nD]<;>omega)|fail)only[go_sem,t3,t6,t9,t10,t52,t53,t54,Int.lt_irrefl,s17.cells e2,hlenY]
  refine PB_cut (p:=0<(high.length:Int)) J ?_ ?_ ?_
  ·intro c
   have hh0:¬high=[]:=fun e=>by rw[e] at c;simp at c
   rw[if_neg hh0] at hB0
   subst hB0
   simp -implicitDefEqProofs(maxSteps:=999999)(disch:=first|with_reducible rfl|omega|(simp only[nA,nS,nD]<;>omega)|fail)only[go_sem]
   exact⟨rfl,(hJ _).2 ⟨_,rfl,(by simp[ev_c,ev_put,t3]<;>rfl),(by simp[ev_c,ev_put,t6]<;>rfl),(by simp[ev_c,ev_put,t9]<;>rfl),(by simp[ev_c,ev_put]<;>rfl)⟩⟩
  ·intro c
   have hh0:high=[]:=List.length_eq_zero_iff.1 (by omega)
   rw[if_pos hh0] at hB0
   subst hB0
   simp -implicitDefEqProofs(maxSteps:=999999)(disch:=first|with_reducible rfl|omega|(simp only[nA,nS,nD]<;>omega)|fail)only[go_sem]
   exact⟨rfl,(hJ _).2 ⟨_,rfl,(by simp[ev_c,ev_put,t3]<;>rfl),(by simp[ev_c,ev_put,t6]<;>rfl),(by simp[ev_c,ev_put,t9]<;>rfl),(by simp[ev_c,ev_put,t10]<;>rfl)⟩⟩
  clear t3 t6 t9 t10 t52 t53 t54
  intro s hs
  obtain⟨tm,rfl,t3,t6,t9,t10⟩:=(hJ s).1 hs
  have hB1:0≤B0∧B0≤10000:=by rw[hB0];split<;>omega
  simp -implicitDefEqProofs(maxSteps:=999999)(disch:=first|with_reducible rfl|omega|(simp only[nA,nS,nD]<;>omega)|fail)only[go_sem,t3,t6,t9,t10,s17.cells e2,hlenY]
  refine W_count high.length (fun k s=>∃tm h',s=⟨tm,h',[]⟩∧h7.Sub h'∧(Opd.t 3).ev tm=.ptr (h.next+1) 0∧(Opd.t 6).ev tm=.ptr d 0∧(Opd.t 9).ev tm=.int .i64 (sumL (wLo m) low)∧(Opd.t 10).ev tm=.int .i64 (B0+sumL (wHi m) (high.take k))∧(Opd.t 70).ev tm=Y∧(Opd.t 71).ev tm=.int .i64 (high.length:Int)∧(Opd.t 72).ev tm=.int .i64 (k:Int))
   ?_ ?_ (i:=0) (Nat.zero_le _) ⟨_,_,rfl,H.Sub.refl s7.wf,(by simp[ev_c,ev_put,t3]<;>rfl),(by simp[ev_c,ev_put,t6]<;>rfl),(by simp[ev_c,ev_put,t9]<;>rfl),by rw[List.take_zero,sumL,Int.add_zero];exact(by simp[ev_c,ev_put,t10]<;>rfl),(by simp[ev_c,ev_put]<;>rfl),(by simp[ev_c,ev_put]<;>rfl),(by simp[ev_c,ev_put]<;>rfl)⟩
  ·clear t3 t6 t9 t10
   rintro k s hk ⟨tm,h',rfl,hsk,t3,t6,t9,t10,t70,t71,t72⟩
   have hk':(k:Int)<(high.length:Int):=by omega
   have hs2:=s7.trans hsk
   obtain⟨b2,o2,c2,cs2,e2',hcs2,hq2,hgg2,hn2,hn02⟩:=(aY.mono hs2).at hk
   have v2:=hn02 (by omega)
   obtain⟨p0,p1⟩:=hi2 _ (List.getElem_mem hk)
   obtain⟨p,ep⟩:=Int.eq_ofNat_of_zero_le p0
   have hp:p<m.wgs.length:=by omega
   simp only[encI,ep] at v2
   have es:=sum_take (wHi m) hk
   rw[ep,wHi_at hp] at es
   have bk:=bH k
   have bk1:=bH (k+1)
   simp -implicitDefEqProofs(maxSteps:=999999)(disch:=first|with_reducible rfl|omega|(simp only[nA,nS,nD]<;>omega)|fail)only[go_sem,t3,t6,t9,t10,t70,t71,t72,hk',hq2 (nat_cst k),hcs2,v2]
   refine(says_ev hs2.wf (hd7.mono hsk) g hp).mono fun u hB hu=>?_
   obtain⟨rfl,sB⟩:=hu
   simp -implicitDefEqProofs(maxSteps:=999999)(disch:=first|with_reducible rfl|omega|(simp only[nA,nS,nD]<;>omega)|fail)only[go_sem,t3,t6,t9,t10,t70,t71,t72,fld_1,wr_in,wr_succ]
   exact⟨_,_,rfl,hsk.trans sB,(by simp[ev_c,ev_put,t3]<;>rfl),(by simp[ev_c,ev_put,t6]<;>rfl),(by simp[ev_c,ev_put,t9]<;>rfl),by rw[es,←Int.add_assoc];exact(by simp[ev_c,ev_put]<;>rfl),(by simp[ev_c,ev_put,t70]<;>rfl),(by simp[ev_c,ev_put,t71]<;>rfl),(by simp[ev_c,ev_put]<;>rfl)⟩
  ·clear t3 t6 t9 t10
   rintro s ⟨tm,h8,rfl,s78,t3,t6,t9,t10,t70,t71,t72⟩
   rw[List.take_length] at t10
   have bHl:=bH high.length
   rw[List.take_length] at bHl
   have s8:=s7.trans s78
   have eH:sumHigh m high=B0+sumL (wHi m) high:=by
    unfold sumHigh;rw[hB0]
    by_cases hh0:high=[]
    ·rw[if_pos hh0,if_pos hh0,hh0];rfl
    ·rw[if_neg hh0,if_neg hh0];omega
   by_cases hc:sumL (wLo m) low≤B0+sumL (wHi m) high
   ·simp -implicitDefEqProofs(maxSteps:=999999)(disch:=first|with_reducible rfl|omega|(simp only[nA,nS,nD]<;>omega)|fail)only[go_sem,t3,t6,t9,t10,t70,t71,t72,Int.lt_irrefl,hc]
    exact q _ _ ⟨s8,0,6,rfl,.inr ⟨c,.inr ⟨hBase,.inr ⟨hP,.inl ⟨by rw[eH];exact hc,rfl,rfl⟩⟩⟩⟩⟩
   ·simp -implicitDefEqProofs(maxSteps:=999999)(disch:=first|with_reducible rfl|omega|(simp only[nA,nS,nD]<;>omega)|fail)only[go_sem,t3,t6,t9,t10,t70,t71,t72,Int.lt_irrefl,hc,wr_in]
    exact q _ _ ⟨s8,_,0,rfl,.inr ⟨c,.inr ⟨hBase,.inr ⟨hP,.inr ⟨by rw[eH];unfold sumLow;omega,by rw[eH];rfl,rfl⟩⟩⟩⟩⟩
end Go.Ab.Tryz
namespace Go.Ab
theorem SlAt.full {h:H}{b n:Nat}{k:Kd}{c:Cap}{sz:Nat}{rows:List (List V)}(hn:n=rows.length)(hb:h.get b=some (.cells k rows.flatten))(hsz:∀r∈rows,r.length=sz)(hl:rows.length≤1000000):SlAt h (.sl b 0 n c) sz rows:=by
 subst hn
 refine⟨hsz,by omega,.inr ⟨b,0,c,_,rfl,.inr (cells_of hb),getN_eq.2 ⟨?_,?_⟩⟩⟩
 ·rw[List.drop_zero,←flatten_len hsz,List.take_length]
 ·rw[flatten_len hsz];omega
theorem app_dup {h0 h:H}{b:Nat}{low high:List (List V)}{y:V}{Q:V→H→Prop}(hs:h0.Sub h)(lb:h0.next≤b)(lt:b<h.next)(gb:h.get b=some (.cells .rw low.flatten))(z1:∀r∈low,r.length=1)(hy:SlAt h y 1 high)(hl:low.length≤1000)(hh:high.length≤1000)
  (q:∀x' h',h.Sub h'→OwnC h0 h' x' 1 (low++high)→(high≠[]→∃b',x'=.sl b' 0 (low++high).length (.slk 0 0))→Q x' h'):P2 (e_app' h 1 8 (.sl b 0 low.length (.fix low.length)) y) Q:=by
 have hy2:=hy.elems
 have fl:=flatten_len z1
 rw[e_app_eq,hy2.1,hy2.2]
 simp only[ob_some]
 by_cases hn:high=[]
 ·subst hn
  have e:Nat.ble low.length low.length=true:=by simp
  simp only[List.length_nil,e_app_fix0,e,og_true,P2_some]
  refine q _ _ (H.Sub.refl hs.wf) ⟨hs,by simpa using z1,.inr (.inr ⟨b,low.length,[],by simp,lb,lt,by simpa using gb,by simp,by simp⟩)⟩ fun h=>absurd rfl h
 ·obtain⟨k,hk⟩:∃k,high.length=k+1:=⟨high.length-1,by have:=List.length_pos_iff.2 hn;omega⟩
  have ho:elems h 1 (.sl b 0 low.length (.fix low.length))=some low.flatten:=by
   have a:SlAt h (.sl b 0 low.length (.fix low.length)) 1 low:=SlAt.full rfl gb z1 (by omega)
   exact a.elems.1
  rw[hk,e_app_full (old:=low.flatten) (by omega) ho (by omega) (by omega),grown_eq,P2_some]
  have hlen:(low++high).length=low.length+(k+1):=by rw[List.length_append,hk]
  refine q _ _ ((H.Sub.refl hs.wf).add _) ⟨hs.add _,fun r hr=>?_,.inr (.inl ⟨h.next,by rw[hlen],hs.next,by rw[H.next_add];omega,?_⟩)⟩ fun _=>⟨_,by rw[hlen]⟩
  ·rcases List.mem_append.1 hr with hr|hr
   ·exact z1 r hr
   ·exact hy.1 r hr
  ·rw[get_add_new rfl,List.flatten_append]
namespace Tryz
open Go.Ab.Silk
theorem agreeB_true {m:Ml}{c:Nat→Bool}:agreeB m c=true↔∃w,FeasM m c w:=by unfold agreeB;simp
theorem Inc_pw {hi:Int}:∀{i:Int} {l:List Int},Inc hi i l→l.Pairwise (· < ·)
 |_,[],_=>List.Pairwise.nil
 |_,a::l,h=>List.Pairwise.cons (fun x hx=>by have:=(h.2.2.mem x hx).1;omega) (Inc_pw h.2.2)
theorem dup_none {l:List Int}(h:l.Pairwise (· < ·)):∀k,k≤l.length→dupAt l k=false
 |0,_=>rfl
 |k+1,hk=>by
  rw[dupAt_step hk,dup_none h k (by omega),Bool.false_or,decide_eq_false_iff_not]
  intro hm
  obtain⟨j,hj,e⟩:=List.mem_iff_getElem.1 hm
  rw[List.getElem_take] at e
  rw[List.length_take] at hj
  have:=List.pairwise_iff_getElem.1 h j k (by omega) hk (by omega)
  omega
theorem listE_inc {m:Ml}(c:check m=0){l:List Int}(h:Inc m.wgs.length 0 l):listE m l=0:=by
 have hk:knownB m l=true:=List.all_eq_true.2 fun n hn=>by
  have:=h.mem n hn
  simp only[inB,decide_eq_true_eq];omega
 unfold listE
 rw[if_neg (by simp[c]),if_neg (by rw[hk];simp),if_neg (by rw[dup_none (Inc_pw h) _ (Nat.le_refl _)];simp)]
theorem Inc_of {n:Int}:∀{l:List Int} {k:Int},l.Pairwise (· < ·)→(∀a∈l,k≤a∧a<n)→Inc n k l
 |[],_,_,_=>trivial
 |a::l,k,hp,hb=>by
  rw[List.pairwise_cons] at hp
  exact⟨(hb a (by simp)).1,(hb a (by simp)).2,Inc_of hp.2 fun b hb'=>⟨by have:=hp.1 b hb';omega,(hb b (by simp[hb'])).2⟩⟩
section
variable {m:Ml}
theorem proofR_ok {lot:Int}{low high:List Int}{n:Int}(r:ProofR m lot low high n 0):(0≤lot∧lot<m.lots.length)∧InW m low∧InW m high∧Proof m lot low high∧sumHigh m high<sumLow m low∧1≤n:=by
 rcases r with⟨_,_,h⟩|⟨⟨a,b,c⟩,⟨_,_,h⟩|⟨p,⟨_,_,h⟩|⟨d,e,_⟩⟩⟩
 ·cases h
 ·cases h
 ·cases h
 ·exact⟨a,b,c,p,d,by omega⟩
theorem found_false (g:Good m){lot:Int}{low high:List Int}{n:Int}(r:ProofR m lot low high n 0){l:List Int}(hl:∀a,a∈l↔a∈low∨a∈high):agreeB m (inL l false)=false:=by
 obtain⟨⟨l0,l1⟩,b,c,p,d,_⟩:=proofR_ok r
 cases h:agreeB m (inL l false)
 ·rfl
 ·have:=proof_sound g l0 l1 b c p (c:=inL l false) (fun a ha=>by have:=(hl a).2 ha;simp[inL,this]) (agreeB_true.1 h)
  omega
theorem tried_false (g:Good m){lot:Int}{low high:List Int}{n:Int}(r:ProofR m lot low high n 0):¬∃w,FeasM m allC w:=fun h=>by
 obtain⟨⟨l0,l1⟩,b,c,p,d,_⟩:=proofR_ok r
 have:=proof_sound g l0 l1 b c p (fun _ _=>rfl) h
 omega
theorem found_low (g:Good m){lot:Int}{low high:List Int}{n:Int}(r:ProofR m lot low high n 0):low≠[]∧low.Nodup:=by
 obtain⟨⟨l0,l1⟩,b,c,p,d,_⟩:=proofR_ok r
 refine⟨fun e=>?_,p.2.1.1.imp fun h e=>by subst e;exact h.1 .self⟩
 subst e
 have h1:0≤sumHigh m high:=by
  unfold sumHigh
  split
  ·omega
  ·exact sumL_nonneg fun a ha=>(wLo_bd g (c a ha).1 (c a ha).2).2.1
 have h2:sumLow m []=0:=rfl
 omega
theorem sorted_rise {l:List Int}(h:l.Nodup):(sortI l).Pairwise (· < ·):=by
 have h1:=sortI_sorted l
 have h2:(sortI l).Nodup:=(sortI_perm l).nodup_iff.2 h
 exact List.pairwise_iff_getElem.2 fun i j hi hj hij=>by
  have a:=List.pairwise_iff_getElem.1 h1 i j hi hj hij
  have b:=List.pairwise_iff_getElem.1 h2 i j hi hj hij
  omega
theorem listE_ris {l:List Int}(c:check m=0)(h:InW m l):listE m (risL l)=0:=listE_inc c (Inc_of (risL_rise l) fun a ha=>h a (risL_mem.1 ha))
end
theorem sortCompact_ev {h0 h:H}{x:V}{l:List Int}(o:OwnC h0 h x 1 (l.map encI))(hw0:h0.wf)(h1:l≠[])(hl:l.length≤1000)(hx:l.Nodup∨∃b,x=.sl b 0 l.length (.slk 0 0))(Q:V→H→Prop)
  (q:∀h',h0.Sub h'→Keeps (blkOf x) h h'→(∀h2,h'.Sub h2→∀Q2:V→H→Prop,(∀y h3,h0.Sub h3→Keeps (blkOf x) h2 h3→CutC h3 y 1 ((risL l).map encI)→Q2 y h3)→Ev fnG fastA (.fn 26 [] []) [x] h2 Q2)→Q (.tup []) h'):Ev fnG fastA (.fn 24 [] []) [x] h Q:=by
 refine sortC_ev o hw0 h1 (by omega) _ fun h' o' k'=>q h' o'.1 k' fun h2 s2 Q2 q2=>?_
 have o2:=o'.mono s2
 have hsl:=sortI_len l
 have lp:=List.length_pos_iff.2 h1
 rcases hx with hx|⟨b,hb⟩
 ·have e:risL l=sortI l:=by
   refine rise_eq (risL_rise l) (sorted_rise hx) fun a=>?_
   rw[risL_mem,(sortI_perm l).mem_iff]
  rw[compactR_ev (o2.sl (by rw[List.length_map];omega)) (sorted_rise hx)]
  refine q2 _ _ o2.1 (Keeps.refl _ _) ?_
  rw[e]
  exact o2.cut (by rw[List.length_map];omega)
 ·subst hb
  obtain⟨s0,_,c⟩:=o2
  rcases c with⟨e,_⟩|⟨b',e,lb,lt,g⟩|⟨b',c',rest,e,_⟩
  ·cases e
  ·injection e with e1 e2 e3 e4
   subst e1
   rw[flatV] at g
   have:=Compact_ev (l:=sortI l) s0 hw0 lb g (by omega) (by omega) Q2
   rw[hsl] at this
   refine this fun y h3 s3 k3 c3=>q2 y h3 s3 (k3.mono fun c hc=>⟨0,l.length,.slk 0 0,by rw[hc]⟩) ?_
   unfold risL
   rwa[hsl]
  ·injection e with _ _ _ e4
   cases e4
end Tryz
end Go.Ab
namespace Go.Ab
theorem q_shr_3 (a:Int):q_sh .shr (.int .u64 a) (.int .u64 3)=some (.int .u64 (a.fdiv (2^(min 3 IntKind.u64.bits)))):=rfl
theorem q_shr_19 (a:Int):q_sh .shr (.int .u64 a) (.int .u64 19)=some (.int .u64 (a.fdiv (2^(min 19 IntKind.u64.bits)))):=rfl
def xorI (k:IntKind)(a b:Int):Int:=k.wrap (BitVec.ofInt k.bits a^^^BitVec.ofInt k.bits b).toNat
def andI (k:IntKind)(a b:Int):Int:=k.wrap (BitVec.ofInt k.bits a&&& BitVec.ofInt k.bits b).toNat
theorem q_ar_xor (k:IntKind)(a b:Int):q_ar .xor (.int k a) (.int k b)=some (.int k (xorI k a b)):=by simp[q_ar,arith,xorV,vi,xorI]
theorem q_ar_and (k:IntKind)(a b:Int):q_ar .and (.int k a) (.int k b)=some (.int k (andI k a b)):=by simp[q_ar,arith,andV,vi,andI]
theorem and_bd (a:Int):0≤andI .i64 a 65535∧andI .i64 a 65535≤65535:=by
 have h:(BitVec.ofInt IntKind.i64.bits a&&& BitVec.ofInt IntKind.i64.bits 65535).toNat≤65535:=by
  rw[BitVec.toNat_and]
  exact Nat.le_trans Nat.and_le_right (by decide)
 unfold andI
 rw[←wr_eq,wr_in (by omega) (by omega)]
 omega
namespace Tryz
def encU8 (n:Int):List V:=[.int .u8 n]
def SpAt (h:H)(p:Nat)(x:V)(T:Int):Prop:=∃st,h.get p=some (.cells .rw [x,.int .i64 T,.int .u64 st])
theorem SpAt.mono {h h':H}{p:Nat}{x:V}{T:Int}(a:SpAt h p x T)(hs:h.Sub h'):SpAt h' p x T:=by
 obtain⟨st,a⟩:=a
 exact⟨st,hs.get a⟩
theorem SpAt.keep {h h':H}{p:Nat}{x:V}{T:Int}{S:Nat→Prop}(a:SpAt h p x T)(k:Keeps S h h')(n:¬S p):SpAt h' p x T:=by
 obtain⟨st,a⟩:=a
 exact⟨st,k.2 _ _ a n⟩
set_option maxHeartbeats 1000000 in
theorem turn_ev {h0 h:H}{p:Nat}{x:V}{bs:List Int}{T:Int}(hs:h0.Sub h)(hw0:h0.wf)(hx:SlAt h0 x 1 (bs.map encU8))(hp0:h0.next≤p)(hp:SpAt h p x T)(hT:0≤T∧T≤1000000000)(Q:V→H→Prop)
  (q:∀r h',0≤r→r≤65535→h0.Sub h'→SpAt h' p x (T+1)→Keeps (fun b=>b=p) h h'→h'.next=h.next→Q (.int .i64 r) h'):Ev fnG fastA (.fn 79 [] []) [.ptr p 0] h Q:=by
 obtain⟨st,hp⟩:=hp
 have hw:=hs.wf
 have hlp:=hw _ _ hp
 have hx1:=hx.one
 have hlen:=hx.lenE
 have hc:=cells_of hp
 refine Ev_body (fd:=c79) rfl rfl rfl ?_
 have fin:∀(st':Int) (r:Int),0≤r→r≤65535→Q (.int .i64 r) (h.set p (.cells .rw [x,.int .i64 (T+1),.int .u64 st'])):=fun st' r r0 r1=>
  q r _ r0 r1 (hs.set hp0 hlp hw0 _) ⟨st',get_set_same rfl⟩ (Keeps.set _ _ _) (H.next_set _ _ _)
 by_cases h1:0<(bs.length:Int)
 ·have hT0:0≤T.tmod (bs.length:Int):=Int.tmod_nonneg _ hT.1
  have hT1:T.tmod (bs.length:Int)<(bs.length:Int):=Int.tmod_lt_of_pos _ h1
  obtain⟨i,ei⟩:=Int.eq_ofNat_of_zero_le hT0
  have hi:i<bs.length:=by omega
  obtain⟨b2,o2,c2,cs2,e2,hcs2,hq2,hgg2,hn2,hn02⟩:=(hx.mono hs).at hi
  have v2:=hn02 (by omega)
  simp only[encU8] at v2
  have hbb:b2≠p:=by
   have:=SlAt_lt hw0 hx (by intro e;rw[List.map_eq_nil_iff] at e;rw[e] at hi;simp at hi) b2 ⟨_,_,_,e2⟩
   omega
  have hne:¬(bs.length:Int)=0:=by omega
  by_cases h2:(bs.length:Int)<T+1
  ·simp -implicitDefEqProofs(maxSteps:=999999)(disch:=first|with_reducible rfl|omega|(simp only[nA,nS,nD]<;>omega)|fail)only[c79,go_sem,hc,hlen,h1,q_ar_rem .i64 hne,ei,hq2 (nat_cst i),hcs2,v2,hp,wr_in,h2,hx1,q_shr_3,q_shr_19,q_ar_xor,q_ar_and]
   exact fin _ _ (and_bd _).1 (and_bd _).2
  ·simp -implicitDefEqProofs(maxSteps:=999999)(disch:=first|with_reducible rfl|omega|(simp only[nA,nS,nD]<;>omega)|fail)only[c79,go_sem,hc,hlen,h1,q_ar_rem .i64 hne,ei,hq2 (nat_cst i),hcs2,v2,hp,wr_in,h2,hx1,q_shr_3,q_shr_19,q_ar_xor,q_ar_and]
   exact fin _ _ (and_bd _).1 (and_bd _).2
 ·by_cases h2:(bs.length:Int)<T+1
  ·simp -implicitDefEqProofs(maxSteps:=999999)(disch:=first|with_reducible rfl|omega|(simp only[nA,nS,nD]<;>omega)|fail)only[c79,go_sem,hc,hlen,h1,hp,wr_in,h2,hx1,q_shr_3,q_shr_19,q_ar_xor,q_ar_and]
   exact fin _ _ (and_bd _).1 (and_bd _).2
  ·omega
theorem Upto_ev {h0 h:H}{p:Nat}{x:V}{bs:List Int}{T:Int}(hs:h0.Sub h)(hw0:h0.wf)(hx:SlAt h0 x 1 (bs.map encU8))(hp0:h0.next≤p)(hp:SpAt h p x T)(hT:0≤T∧T≤1000000000){n:Int}(hn: -1000000000≤n∧n≤1000000000)(Q:V→H→Prop)
  (q:∀r h',0≤r→r≤max 0 n→h0.Sub h'→SpAt h' p x (T+1)→Keeps (fun b=>b=p) h h'→h'.next=h.next→Q (.int .i64 r) h'):Ev fnG fastA (.fn 19 [] []) [.ptr p 0,.int .i64 n] h Q:=by
 refine Ev_body (fd:=c19) rfl rfl rfl ?_
 simp -implicitDefEqProofs(maxSteps:=999999)(disch:=first|with_reducible rfl|omega|(simp only[nA,nS,nD]<;>omega)|fail)only[c19,go_sem]
 refine turn_ev hs hw0 hx hp0 hp hT _ fun r h' r0 r1 s' p' k' n'=>?_
 have hm:¬max 1 (n+1)=0:=by omega
 have e0:0≤r.tmod (max 1 (n+1)):=Int.tmod_nonneg _ r0
 have e1:r.tmod (max 1 (n+1))<max 1 (n+1):=Int.tmod_lt_of_pos _ (by omega)
 simp -implicitDefEqProofs(maxSteps:=999999)(disch:=first|with_reducible rfl|omega|(simp only[nA,nS,nD]<;>omega)|fail)only[go_sem,wr_in,q_ar_rem .i64 hm]
 exact q _ _ e0 (by omega) s' p' k' n'
theorem From_ev {h0 h:H}{p:Nat}{x:V}{bs:List Int}{T:Int}(hs:h0.Sub h)(hw0:h0.wf)(hx:SlAt h0 x 1 (bs.map encU8))(hp0:h0.next≤p)(hp:SpAt h p x T)(hT:0≤T∧T≤1000000000){lo hi:Int}(hlo: -1000000≤lo∧lo≤1000000)(hhi: -1000000≤hi∧hi≤1000000)(Q:V→H→Prop)
  (q:∀r h',lo≤r→r≤max lo hi→h0.Sub h'→SpAt h' p x (T+1)→Keeps (fun b=>b=p) h h'→h'.next=h.next→Q (.int .i64 r) h'):Ev fnG fastA (.fn 21 [] []) [.ptr p 0,.int .i64 lo,.int .i64 hi] h Q:=by
 refine Ev_body (fd:=c21) rfl rfl rfl ?_
 simp -implicitDefEqProofs(maxSteps:=999999)(disch:=first|with_reducible rfl|omega|(simp only[nA,nS,nD]<;>omega)|fail)only[c21,go_sem,wr_in]
 refine Upto_ev hs hw0 hx hp0 hp hT (by omega) _ fun r h' r0 r1 s' p' k' n'=>?_
 simp -implicitDefEqProofs(maxSteps:=999999)(disch:=first|with_reducible rfl|omega|(simp only[nA,nS,nD]<;>omega)|fail)only[go_sem,wr_in]
 exact q _ _ (by omega) (by omega) s' p' k' n'
theorem Once_ev {h0 h:H}{p:Nat}{x:V}{bs:List Int}{T:Int}(hs:h0.Sub h)(hw0:h0.wf)(hx:SlAt h0 x 1 (bs.map encU8))(hp0:h0.next≤p)(hp:SpAt h p x T)(hT:0≤T∧T≤1000000000){n:Int}(hn:0≤n∧n≤1000000)(Q:V→H→Prop)
  (q:∀t h',h0.Sub h'→SpAt h' p x (T+1)→Keeps (fun b=>b=p) h h'→h'.next=h.next→Q (.bool t) h'):Ev fnG fastA (.fn 28 [] []) [.ptr p 0,.int .i64 n] h Q:=by
 refine Ev_body (fd:=c28) rfl rfl rfl ?_
 simp -implicitDefEqProofs(maxSteps:=999999)(disch:=first|with_reducible rfl|omega|(simp only[nA,nS,nD]<;>omega)|fail)only[c28,go_sem,wr_in]
 refine Upto_ev hs hw0 hx hp0 hp hT (by omega) _ fun r h' r0 r1 s' p' k' n'=>?_
 simp -implicitDefEqProofs(maxSteps:=999999)(disch:=first|with_reducible rfl|omega|(simp only[nA,nS,nD]<;>omega)|fail)only[go_sem]
 exact q _ _ s' p' k' n'
theorem Wound_ev {h:H}{x:V}{bs:List Int}(hw:h.wf)(hx:SlAt h x 1 (bs.map encU8))(Q:V→H→Prop)(q:∀h',h.Sub h'→SpAt h' h.next x 0→h'.next=h.next+1→Q (.ptr h.next 0) h'):Ev fnG fastA (.fn 17 [] []) [x] h Q:=by
 have hx1:=hx.one
 refine Ev_body (fd:=c17) rfl rfl rfl ?_
 simp -implicitDefEqProofs(maxSteps:=999999)(disch:=first|with_reducible rfl|omega|(simp only[nA,nS,nD]<;>omega)|fail)only[c17,go_sem,hx.lenE,hx1,cells_one hx1]
 exact q _ ((H.Sub.refl hw).add _) ⟨_,get_add_new rfl⟩ (H.next_add _ _)
end Tryz
end Go.Ab
namespace Go.Ab.Tryz
open Go.Ab.Silk
def LotsOk (l:List Lt):Prop:=∀j (hj:j<l.length),(-1≤l[j].frm∧l[j].frm≤(j:Int)-1)∧(0≤l[j].kind∧l[j].kind≤3)
theorem LotsOk.nil:LotsOk []:=fun j hj=>by simp at hj
theorem LotsOk.snoc {l:List Lt}(h:LotsOk l){f k:Int}(h1: -1≤f∧f≤(l.length:Int)-1)(h2:0≤k∧k≤3):LotsOk (l++[⟨f,k⟩]):=fun j hj=>by
 by_cases e:j<l.length
 ·rw[List.getElem_append_left e];exact h j e
 ·have:j=l.length:=by simp at hj;omega
  subst this
  simp;exact⟨h1,h2⟩
theorem good_made {e:Int}{l:List Lt}(he:0≤e∧e≤50)(h1:1≤l.length∧l.length≤12)(h:LotsOk l):Good ⟨e,l,[]⟩:=
 ⟨h1,by simp,he,by simp,fun a ha=>by
  obtain⟨j,hj,rfl⟩:=List.getElem_of_mem ha
  exact(h j hj).2,fun i hi=>(h i hi).1,by simp,by simp⟩
def allL (n:Nat):List Int:=(List.range n).map fun(k:Nat)=>(k:Int)
theorem mem_allL {n:Nat}{i:Int}:i∈allL n↔0≤i∧i<n:=by
 unfold allL
 rw[List.mem_map]
 constructor
 ·rintro⟨k,hk,rfl⟩
  have:=List.mem_range.1 hk;omega
 ·rintro⟨h0,h1⟩
  exact⟨i.toNat,List.mem_range.2 (by omega),by omega⟩
theorem allL_nodup (n:Nat):(allL n).Nodup:=by
 unfold allL List.Nodup
 rw[List.pairwise_map]
 exact List.nodup_range.imp fun h e=>h (by omega)
def potG (m:Ml)(r:Int→Int)(i:Int):Int→Int:=fun j=>if j≤i∨frmAt m j<0 then r j else 0
def pot (m:Ml)(r:Int→Int)(i:Int):Int:=sumL (potG m r i) (allL m.lots.length)
structure RealI (m:Ml)(D i:Int)(r:Int→Int):Prop where
 node:∀j:Int,i<j→j<m.lots.length→parts m j≠[]→r j=sumL r (parts m j)
 acc:∀j:Int,0≤j→j≤i→r j=sumL r ((parts m j).filter fun q=>decide (i<q))
 nn:∀j:Int,0≤j→j<m.lots.length→0≤r j
 lim:pot m r i≤D*((m.lots.length:Int)-1-i)
section
variable {m:Ml} {D:Int}
theorem RealI.start (g:Good m):RealI m D ((m.lots.length:Int)-1) fun _=>0:=by
 have z:∀l:List Int,sumL (fun _=>(0:Int)) l=0:=fun l=>by
  induction l with
  |nil=>rfl
  |cons a l ih=>simp only[sumL,ih];omega
 refine⟨fun j h1 h2=>by omega,fun j _ _=>(z _).symm,fun j _ _=>Int.le_refl _,?_⟩
 have e:pot m (fun _=>0) ((m.lots.length:Int)-1)=0:=by
  unfold pot
  rw[sumL_congr (y:=fun _=>0) fun p _=>by unfold potG;split<;>rfl]
  exact z _
 rw[e]
 have:(m.lots.length:Int)-1-((m.lots.length:Int)-1)=0:=by omega
 rw[this];omega
theorem sumL_filter (x:Int→Int){i:Int}:∀{l:List Int},l.Nodup→sumL x (l.filter fun q=>decide (i-1<q))=sumL x (l.filter fun q=>decide (i<q))+(if i∈l then x i else 0)
 |[],_=>by simp[sumL]
 |a::l,h=>by
  rw[List.nodup_cons] at h
  have ih:=sumL_filter x (i:=i) h.2
  simp only[List.filter_cons,List.mem_cons]
  by_cases e:i=a
  ·subst e
   have h1:decide (i-1<i)=true:=by rw[decide_eq_true_eq];omega
   have h2:decide (i<i)=false:=by rw[decide_eq_false_iff_not];omega
   rw[if_neg h.1] at ih
   simp only[h1,h2,if_true,Bool.false_eq_true,if_false,true_or,sumL,ih]
   omega
  ·have h3:decide (i-1<a)=decide (i<a):=by
    by_cases c:i<a
    ·rw[decide_eq_true c,decide_eq_true (by omega)]
    ·rw[decide_eq_false c,decide_eq_false (by omega)]
   rw[h3]
   simp only[e,false_or]
   by_cases c:i<a
   ·simp only[decide_eq_true c,if_true,sumL,ih];omega
   ·simp only[decide_eq_false c,Bool.false_eq_true,if_false,ih]
theorem potG_nn {r:Int→Int}(h:∀j:Int,0≤j→j<m.lots.length→0≤r j)(i:Int):∀j∈allL m.lots.length,0≤potG m r i j:=fun j hj=>by
 have:=mem_allL.1 hj
 unfold potG;split
 ·exact h j this.1 this.2
 ·exact Int.le_refl _
theorem sumL_ge' {x:Int→Int}{p:Int}{l:List Int}(h:∀p∈l,0≤x p)(hp:p∈l):x p≤sumL x l:=by
 induction l with
 |nil=>simp at hp
 |cons a l ih=>
  have h0:=h a (by simp)
  have h1:=sumL_nonneg (x:=x) (l:=l) fun p hp=>h p (by simp[hp])
  simp only[sumL]
  rcases List.mem_cons.1 hp with rfl|hp
  ·omega
  ·have:=ih (fun p hp=>h p (by simp[hp])) hp;omega
theorem RealI.done (g:Good m){i:Int}{r:Int→Int}(h:RealI m D i r)(i0:0≤i)(i1:i<m.lots.length){d:Int}(hd:0≤d∧d≤D){r1:Int→Int}(e1:r1=if parts m i=[] then up1 r i d else r):
  (∀j:Int,j≠i→r1 j=r j)∧(∀j:Int,0≤j→j<m.lots.length→0≤r1 j)∧(parts m i≠[]→r1 i=sumL r1 (parts m i))∧pot m r1 i≤D*((m.lots.length:Int)-i):=by
 have F:=forest g
 have hl:D*((m.lots.length:Int)-i)=D*((m.lots.length:Int)-1-i)+D:=by
  rw[show(m.lots.length:Int)-i=((m.lots.length:Int)-1-i)+1 by omega,Int.mul_add,Int.mul_one]
 have hlim:=h.lim
 have hacc:=h.acc i i0 (Int.le_refl _)
 by_cases hp:parts m i=[]
 ·rw[if_pos hp] at e1
  have hz:r i=0:=by rw[hacc,hp];rfl
  subst e1
  refine⟨fun j hj=>up1_ne r d hj,fun j j0 j1=>?_,fun hn=>absurd hp hn,?_⟩
  ·by_cases e:j=i
   ·subst e;rw[up1_same];exact hd.1
   ·rw[up1_ne r d e];exact h.nn j j0 j1
  ·have e2:potG m (up1 r i d) i=up1 (potG m r i) i d:=by
    funext j
    unfold potG up1
    by_cases e:j=i
    ·subst e;simp
    ·simp[e]
   unfold pot
   rw[e2,sumL_up1 (allL_nodup _) (mem_allL.2 ⟨i0,i1⟩)]
   have:potG m r i i=0:=by unfold potG;rw[if_pos (.inl (Int.le_refl _)),hz]
   unfold pot at hlim
   omega
 ·rw[if_neg hp] at e1
  subst e1
  refine⟨fun j _=>rfl,h.nn,fun _=>?_,by omega⟩
  rw[hacc,List.filter_eq_self.2 fun q hq=>?_]
  obtain⟨q0,q1,qf⟩:=(F.mem _ _).1 hq
  have:=F.lt q q0 q1
  rw[decide_eq_true_eq];omega
theorem sum_two {x:Int→Int}{a b:Int}{l:List Int}(hn:l.Nodup)(h:∀p∈l,0≤x p)(ha:a∈l)(hb:b∈l)(hab:a≠b):x a+x b≤sumL x l:=by
 have e:=sumL_up1 (x:=x) (v:=0) hn ha
 have h2:=sumL_ge' (x:=up1 x a 0) (l:=l) (fun p hp=>by
   by_cases c:p=a
   ·subst c;rw[up1_same];exact Int.le_refl _
   ·rw[up1_ne x 0 c];exact h p hp) hb
 rw[up1_ne x 0 (Ne.symm hab)] at h2
 omega
theorem RealI.push (g:Good m){i:Int}{r:Int→Int}(h:RealI m D i r)(i0:0≤i)(i1:i<m.lots.length){d:Int}(hd:0≤d∧d≤D){r1 r2:Int→Int}(e1:r1=if parts m i=[] then up1 r i d else r)
  (e2:r2=if frmAt m i= -1 then r1 else up1 r1 (frmAt m i) (r1 (frmAt m i)+r1 i)):RealI m D (i-1) r2∧(frmAt m i≠ -1→0≤r1 (frmAt m i)∧0≤r1 i∧r1 (frmAt m i)+r1 i≤D*((m.lots.length:Int)-i)):=by
 have F:=forest g
 obtain⟨d1,d2,d3,d4⟩:=h.done g i0 i1 hd e1
 have hf:=F.lt i i0 i1
 have hl:(m.lots.length:Int)-1-(i-1)=(m.lots.length:Int)-i:=by omega
 have hlow:=frmAt_lt g i0 i1
 have acc1:∀j:Int,0≤j→j≤i-1→r1 j=sumL r1 ((parts m j).filter fun q=>decide (i<q)):=fun j j0 j1=>by
  rw[d1 j (by omega),h.acc j j0 (by omega)]
  refine sumL_congr fun q hq=>(d1 q ?_).symm
  have:=(List.mem_filter.1 hq).2
  rw[decide_eq_true_eq] at this;omega
 have node1:∀j:Int,i-1<j→j<m.lots.length→parts m j≠[]→r1 j=sumL r1 (parts m j):=fun j j0 j1 hp=>by
  by_cases e:j=i
  ·subst e;exact d3 hp
  ·rw[d1 j e,h.node j (by omega) j1 hp]
   refine sumL_congr fun q hq=>(d1 q ?_).symm
   obtain⟨q0,q1,qf⟩:=(F.mem _ _).1 hq
   have:=F.lt q q0 q1
   omega
 by_cases hr:frmAt m i= -1
 ·rw[if_pos hr] at e2
  subst e2
  refine⟨⟨node1,fun j j0 j1=>?_,d2,?_⟩,fun h=>absurd hr h⟩
  ·rw[sumL_filter r2 (F.nodup j),if_neg fun hm=>by
    obtain⟨_,_,qf⟩:=(F.mem _ _).1 hm
    omega,Int.add_zero]
   exact acc1 j j0 j1
  ·rw[hl]
   have e3:pot m r2 (i-1)=pot m r2 i:=by
    unfold pot
    refine sumL_congr fun j hj=>?_
    unfold potG
    by_cases e:j=i
    ·subst e;rw[if_pos (.inr (by omega)),if_pos (.inl (Int.le_refl _))]
    ·by_cases c:j≤i-1∨frmAt m j<0
     ·rw[if_pos c,if_pos (by omega)]
     ·rw[if_neg c,if_neg (by omega)]
   rw[e3];exact d4
 ·rw[if_neg hr] at e2
  obtain⟨f,ef⟩:∃f,frmAt m i=f:=⟨_,rfl⟩
  rw[ef] at e2 hf hr hlow
  have f0:0≤f:=by omega
  have f1:f<m.lots.length:=by omega
  have hin:i∈parts m f:=(F.mem _ _).2 ⟨i0,i1,ef⟩
  have hsum:r1 f+r1 i≤pot m r1 i:=by
   have:=sum_two (x:=potG m r1 i) (a:=f) (b:=i) (allL_nodup _) (potG_nn d2 i) (mem_allL.2 ⟨f0,f1⟩) (mem_allL.2 ⟨i0,i1⟩) (by omega)
   unfold potG at this
   rw[if_pos (.inl (by omega)),if_pos (.inl (Int.le_refl _))] at this
   exact this
  rw[ef]
  refine⟨?_,fun _=>⟨d2 f f0 f1,d2 i i0 i1,by omega⟩⟩
  subst e2
  have oth:∀j:Int,j≠f→up1 r1 f (r1 f+r1 i) j=r1 j:=fun j hj=>up1_ne _ _ hj
  refine⟨fun j j0 j1 hp=>?_,fun j j0 j1=>?_,fun j j0 j1=>?_,?_⟩
  ·rw[oth j (by omega),node1 j j0 j1 hp]
   refine sumL_congr fun q hq=>(oth q ?_).symm
   obtain⟨q0,q1,qf⟩:=(F.mem _ _).1 hq
   have:=F.lt q q0 q1
   omega
  ·have e4:sumL (up1 r1 f (r1 f+r1 i)) ((parts m j).filter fun q=>decide (i-1<q))=sumL r1 ((parts m j).filter fun q=>decide (i-1<q)):=by
    refine sumL_congr fun q hq=>oth q ?_
    have:=(List.mem_filter.1 hq).2
    rw[decide_eq_true_eq] at this;omega
   rw[e4,sumL_filter r1 (F.nodup j),←acc1 j j0 j1]
   by_cases e:j=f
   ·subst e;rw[up1_same,if_pos hin]
   ·rw[oth j e,if_neg fun hm=>by
     obtain⟨_,_,qf⟩:=(F.mem _ _).1 hm
     omega,Int.add_zero]
  ·by_cases e:j=f
   ·subst e;rw[up1_same]
    have:=d2 j j0 j1
    have:=d2 i i0 i1
    omega
   ·rw[oth j e];exact d2 j j0 j1
  ·rw[hl]
   have e3:potG m (up1 r1 f (r1 f+r1 i)) (i-1)=up1 (up1 (potG m r1 i) f (potG m r1 i f+r1 i)) i 0:=by
    funext j
    unfold potG up1
    by_cases e:j=i
    ·subst e
     rw[if_neg (by omega)];simp
    ·by_cases c:j=f
     ·subst c;rw[if_pos (.inl (by omega))];simp[e];omega
     ·simp only[e,c,if_false]
      by_cases k:j≤i-1∨frmAt m j<0
      ·rw[if_pos k,if_pos (by omega)]
      ·rw[if_neg k,if_neg (by omega)]
   unfold pot at d4⊢
   rw[e3,sumL_up1 (allL_nodup _) (mem_allL.2 ⟨i0,i1⟩),sumL_up1 (allL_nodup _) (mem_allL.2 ⟨f0,f1⟩),up1_ne _ _ (by omega)]
   have:potG m r1 i i=r1 i:=by unfold potG;rw[if_pos (.inl (Int.le_refl _))]
   omega
theorem RealI.last (g:Good m){r:Int→Int}(h:RealI m D (-1) r)(hD:0≤D):(∀j:Int,0≤j→j<m.lots.length→0≤r j∧r j≤12*D)∧∀j:Int,0≤j→j<m.lots.length→parts m j≠[]→r j=sumL r (parts m j):=by
 have F:=forest g
 have gl:=g.lots
 have hlim:=h.lim
 have hl:D*((m.lots.length:Int)-1- -1)≤D*12:=Int.mul_le_mul_of_nonneg_left (by omega) hD
 have hup:∀(k:Nat) (j:Int),j<k→0≤j→j<m.lots.length→r j≤12*D:=by
  intro k
  induction k with
  |zero=>intro j h1 h2;omega
  |succ k ih=>
   intro j hj j0 j1
   have hf:=F.lt j j0 j1
   by_cases c:frmAt m j<0
   ·have:=sumL_ge' (x:=potG m r (-1)) (potG_nn h.nn (-1)) (mem_allL.2 ⟨j0,j1⟩)
    unfold potG at this
    rw[if_pos (.inr c)] at this
    unfold pot potG at hlim
    omega
   ·have hin:j∈parts m (frmAt m j):=(F.mem _ _).2 ⟨j0,j1,rfl⟩
    have h1:=ih (frmAt m j) (by omega) (by omega) (by omega)
    rw[h.node (frmAt m j) (by omega) (by omega) (fun e=>by rw[e] at hin;simp at hin)] at h1
    have:=sumL_ge' (x:=r) (l:=parts m (frmAt m j)) (fun q hq=>by
     obtain⟨q0,q1,_⟩:=(F.mem _ _).1 hq
     exact h.nn q q0 q1) hin
    omega
 exact⟨fun j j0 j1=>⟨h.nn j j0 j1,hup m.lots.length j j1 j0 j1⟩,fun j j0 j1 hp=>h.node j (by omega) j1 hp⟩
end
end Go.Ab.Tryz
namespace Go.Ab.Tryz
open Go.Ab.Silk
end Go.Ab.Tryz
namespace Go.Ab.Tryz
open Go.Ab.Silk
def tab (f:Int→Int)(n:Nat):List V:=(List.range n).map fun(i:Nat)=>iv (f (i:Int))
def fset (f:Int→Int)(i x:Int):Int→Int:=fun k=>if k=i then x else f k
theorem tab_len (f:Int→Int)(n:Nat):(tab f n).length=n:=by simp[tab]
theorem tab_nth (f:Int→Int){n i:Nat}(h:i<n):nth i (tab f n)=some (.int .i64 (f (i:Int))):=by
 rw[nth_get,List.getElem?_eq_getElem (by rw[tab_len];exact h)]
 simp[tab,iv]
theorem ints_put:∀(l:List Int) (i:Nat) (x:Int),i<l.length→putN i [.int .i64 x] (l.map iv)=some ((l.set i x).map iv)
 |[],i,b,h=>by simp at h
 |a::l,0,b,_=>by simp[putN_0,over_s,over_0,consV_some,iv]
 |a::l,i+1,b,h=>by
  have ih:=ints_put l i b (by simpa using h)
  simp only[List.map_cons,putN_s,ih,consV_some,List.set_cons_succ]
theorem tab_put (f:Int→Int){n i:Nat}(h:i<n)(x:Int):putN i [.int .i64 x] (tab f n)=some (tab (fset f (i:Int) x) n):=by
 have e:∀g:Int→Int,tab g n=((List.range n).map fun(i:Nat)=>g (i:Int)).map iv:=fun g=>by simp[tab]
 rw[e,e,ints_put _ _ _ (by simpa using h)]
 congr 2
 refine List.ext_getElem (by simp) fun k h1 h2=>?_
 rw[List.getElem_set]
 simp only[List.getElem_map,List.getElem_range,fset]
 by_cases c:i=k
 ·subst c;simp
 ·rw[if_neg c,if_neg (by omega)]
theorem tab_congr {f g:Int→Int}{n:Nat}(h:∀k:Int,0≤k→k<n→f k=g k):tab f n=tab g n:=by
 unfold tab
 refine List.map_congr_left fun i hi=>?_
 have:i<n:=List.mem_range.1 hi
 rw[h (i:Int) (by omega) (by omega)]
theorem tab_zero:∀n:Nat,repN n [V.int .i64 0]=tab (fun _=>0) n:=fun n=>by
 have:∀n,repN n [V.int .i64 0]=List.replicate n (iv 0):=fun n=>by
  induction n with
  |zero=>rfl
  |succ n ih=>rw[repN,appN_eq,ih];rfl
 rw[this]
 refine List.ext_getElem (by simp[tab]) fun k h1 h2=>?_
 simp[tab]
section
variable {m:Ml} {kind:Int}
end
end Go.Ab.Tryz
