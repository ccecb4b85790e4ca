/- Fits, of the program and of the reference: contracts. Bounds of all lots, as narrow as can be: the contracts of narrow, tight. The bounds of all lots by the weighings that count: silk.bounds, told. told, Bounds, Widest: contracts. Weights and Fits: contracts. -/
import Derived.Test.YtiphdfiihgbomabGreatG4
import Derived.Test.YtiphdfiihgbomabGreatGP
import Derived.Test.YtiphdfiihgbomabGreatAc4
set_option linter.unusedSimpArgs false
set_option linter.unusedVariables false
namespace Go.Ab
theorem Keeps.sub {S:Nat→Prop}{h0 h h':H}(k:Keeps S h h')(s:h0.Sub h)(hw0:h0.wf)(hS:∀c,S c→h0.next≤c)(hw:h'.wf):h0.Sub h':=
 ⟨⟨Nat.le_trans s.next k.1,fun b x e=>k.2 b x (s.get e) fun hs=>by have:=hS b hs;have:=hw0 b x e;omega⟩,hw⟩
theorem Keeps.wf_set {h:H}(hw:h.wf){b:Nat}{y:Blk}(x:Blk)(hb:h.get b=some y):Keeps (fun c=>c=b) h (h.set b x)∧(h.set b x).wf:=⟨Keeps.set h b x,H.wf_set hw x hb⟩
namespace Tryz
open Go.Ab.Silk
theorem mem_partsL {k:Int}:∀{l:List Lt} {i:Nat} {p:Int},p∈partsL k l i↔∃j,∃hj:j<l.length,p=((i+j:Nat):Int)∧l[j].frm=k
 |[],i,p=>by simp[partsL]
 |a::l,i,p=>by
  have ih:=mem_partsL (k:=k) (l:=l) (i:=i+1) (p:=p)
  have e:(∃j,∃hj:j<(a::l).length,p=((i+j:Nat):Int)∧(a::l)[j].frm=k)↔(p=(i:Int)∧a.frm=k)∨∃j,∃hj:j<l.length,p=((i+1+j:Nat):Int)∧l[j].frm=k:=by
   constructor
   ·rintro⟨j,hj,h1,h2⟩
    cases j with
    |zero=>exact .inl ⟨by simpa using h1,h2⟩
    |succ j=>exact .inr ⟨j,by simpa using hj,by omega,h2⟩
   ·rintro(⟨h1,h2⟩|⟨j,hj,h1,h2⟩)
    ·exact⟨0,by simp,by simpa using h1,h2⟩
    ·exact⟨j+1,by simpa using hj,by omega,h2⟩
  rw[e,←ih]
  simp only[partsL]
  by_cases h:a.frm=k
  ·simp[h]
  ·simp[h]
theorem partsL_nodup {k:Int}:∀(l:List Lt) (i:Nat),(partsL k l i).Nodup
 |[],i=>by simp[partsL]
 |a::l,i=>by
  have ih:=partsL_nodup (k:=k) l (i+1)
  simp only[partsL]
  by_cases h:a.frm=k
  ·rw[if_pos h,List.nodup_cons]
   refine⟨fun hm=>?_,ih⟩
   obtain⟨j,hj,e,_⟩:=mem_partsL.1 hm
   omega
  ·rw[if_neg h];exact ih
theorem forest {m:Ml}(g:Good m):Forest m.lots.length (frmAt m) (parts m):=by
 refine⟨fun i i0 i1=>?_,fun i p=>?_,fun i=>partsL_nodup _ _⟩
 ·have:=frmAt_lt g i0 i1;omega
 ·unfold parts
  rw[mem_partsL]
  constructor
  ·rintro⟨j,hj,rfl,hf⟩
   simp only[Nat.zero_add]
   exact⟨by omega,by omega,by rw[frmAt_nat hj];exact hf⟩
  ·rintro⟨p0,p1,hf⟩
   obtain⟨j,rfl⟩:=Int.eq_ofNat_of_zero_le p0
   exact⟨j,by omega,by simp,by rw[←frmAt_nat (by omega)];exact hf⟩
def intsB (b:Box):List Int:=[(b 0).1,(b 0).2,(b 1).1,(b 1).2,(b 2).1,(b 2).2,(b 3).1,(b 3).2,(b 4).1,(b 4).2,(b 5).1,(b 5).2,(b 6).1,(b 6).2,(b 7).1,(b 7).2,(b 8).1,(b 8).2,(b 9).1,(b 9).2,(b 10).1,(b 10).2,(b 11).1,(b 11).2]
def encB (b:Box):List V:=(intsB b).map iv
def updB (b:Box)(i:Int)(p:Int × Int):Box:=fun k=>if k=i then p else b k
theorem lt12 {i:Nat}(h:i<12):i=0∨i=1∨i=2∨i=3∨i=4∨i=5∨i=6∨i=7∨i=8∨i=9∨i=10∨i=11:=by omega
theorem encB_at (b:Box){i:Nat}(hi:i<12):nth (i*2) (encB b)=some (.int .i64 (b i).1)∧nth (i*2+1) (encB b)=some (.int .i64 (b i).2)∧getN (i*2) 2 (encB b)=some [.int .i64 (b i).1,.int .i64 (b i).2]:=by
 rcases lt12 hi with rfl|rfl|rfl|rfl|rfl|rfl|rfl|rfl|rfl|rfl|rfl|rfl<;>exact⟨rfl,rfl,rfl⟩
theorem encB_put (b:Box){i:Nat}(hi:i<12)(x y:Int):putN (i*2) [.int .i64 x,.int .i64 y] (encB b)=some (encB (updB b i (x,y))):=by
 rcases lt12 hi with rfl|rfl|rfl|rfl|rfl|rfl|rfl|rfl|rfl|rfl|rfl|rfl<;>rfl
theorem encB_put2 (b:Box){i:Nat}(hi:i<12)(y:Int):putN (i*2+1) [.int .i64 y] (encB b)=some (encB (updB b i ((b i).1,y))):=by
 rcases lt12 hi with rfl|rfl|rfl|rfl|rfl|rfl|rfl|rfl|rfl|rfl|rfl|rfl<;>rfl
theorem intsB_iff (b c:Box):intsB b=intsB c↔∀i:Int,0≤i→i<12→b i=c i:=by
 constructor
 ·intro h i i0 i1
  obtain⟨j,rfl⟩:=Int.eq_ofNat_of_zero_le i0
  have hj:j<12:=by omega
  simp only[intsB,List.cons.injEq,and_true] at h
  obtain⟨a0,a1,a2,a3,a4,a5,a6,a7,a8,a9,b0,b1,b2,b3,b4,b5,b6,b7,b8,b9,d0,d1,d2,d3⟩:=h
  rcases lt12 hj with rfl|rfl|rfl|rfl|rfl|rfl|rfl|rfl|rfl|rfl|rfl|rfl<;>exact Prod.ext (by assumption) (by assumption)
 ·intro h
  simp only[intsB,h 0 (by omega) (by omega),h 1 (by omega) (by omega),h 2 (by omega) (by omega),h 3 (by omega) (by omega),h 4 (by omega) (by omega),h 5 (by omega) (by omega),h 6 (by omega) (by omega),h 7 (by omega) (by omega),h 8 (by omega) (by omega),h 9 (by omega) (by omega),h 10 (by omega) (by omega),h 11 (by omega) (by omega)]
theorem q_feq_B (ng:Bool)(b c:Box):q_feq ng 24 (.agg (encB b)) (.agg (encB c))=some (.bool (ngB ng (decide (intsB b=intsB c)))):=q_feq_map (n:=24) (intsB b) (intsB c) rfl rfl ng
def zeroB:Box:=fun _=>(0,0)
theorem narrow_upd (b:Box)(i lo hi:Int):narrow b i lo hi=updB b i (max (b i).1 lo,min (b i).2 hi):=rfl
theorem updB_same (b:Box)(i:Int):updB b i (b i)=b:=by
 funext k
 by_cases h:k=i
 ·subst h;simp[updB]
 ·simp[updB,h]
theorem ld_B (b:Box):getN 0 24 (encB b)=some (encB b):=rfl
theorem narrow_ev {h:H}{p i:Nat}{b:Box}(hw:h.wf)(hp:h.get p=some (.cells .rw (encB b)))(hi:i<12)(lo hi':Int)(Q:V→H→Prop)
  (q:∀h',h'.get p=some (.cells .rw (encB (narrow b i lo hi')))→Keeps (fun c=>c=p) h h'→h'.wf→Q (.tup []) h'):Ev fnG fastA (.fn 92 [] [.ptr p 0]) [.int .i64 (i:Int),.int .i64 lo,.int .i64 hi'] h Q:=by
 obtain⟨n1,n2,n3⟩:=encB_at b hi
 have hc:=cells_of hp
 have hlp:=hw _ _ hp
 refine Ev_body (fd:=c92) rfl rfl rfl ?_
 simp -implicitDefEqProofs(maxSteps:=999999)(disch:=first|with_reducible rfl|omega|(simp only[nA,nS,nD]<;>omega)|fail)only[c92,go_sem,q_iaa_ptr (nat_cst i) hi,hc,n1,n2]
 refine least_use (l:=[hi']) (SlAt.new _ rfl (by rfl) (by rfl) (by simp[encI]) (by simp)) ?_
 have s1:h.Sub ((h.add (.cells .rw [.int .i64 hi'])).add (.cells .rw [.int .i64 (max (b i).1 lo),.int .i64 (min (b i).2 hi')])):=(by repeat(first|assumption|exact H.Sub.refl (by assumption)|refine H.Sub.add ?_ _|refine H.Sub.set ?_ (by first|omega|(simp only[H.next_add,H.next_set,H.next_del]<;>omega)) (by first|omega|(simp only[H.next_add,H.next_set,H.next_del]<;>omega)) (by assumption) _))
 have k1:=Keeps.of s1 (fun c=>c=p)
 have hp1:=s1.get hp
 by_cases e:max (b i).1 lo=(b i).1∧min (b i).2 hi'=(b i).2
 ·have hnb:narrow b i lo hi'=b:=by
   rw[narrow_upd,e.1,e.2];exact updB_same b i
  simp -implicitDefEqProofs(maxSteps:=999999)(disch:=first|with_reducible rfl|omega|(simp only[nA,nS,nD]<;>omega)|fail)only[go_sem,q_iaa_ptr (nat_cst i) hi,hc,n1,n2,n3,List.foldl,q_feq_2,e.1,e.2,ngB,and_self,Bool.not_true]
  have:=q _ (by rw[hnb];exact hp1) k1 s1.wf
  rw[e.1,e.2] at this;exact this
 ·simp -implicitDefEqProofs(maxSteps:=999999)(disch:=first|with_reducible rfl|omega|(simp only[nA,nS,nD]<;>omega)|fail)only[go_sem,q_iaa_ptr (nat_cst i) hi,hc,n1,n2,n3,List.foldl,q_feq_2,e,ngB,Bool.not_false,hp,encB_put b hi]
  obtain⟨k2,w2⟩:=Keeps.wf_set s1.wf (.cells .rw (encB (narrow b i lo hi'))) hp1
  exact q _ (get_set_same rfl) ((k1.trans k2).mono fun c h=>by rcases h with h|h<;>exact h) w2
def Bd (C:Int)(b:Box):Prop:=∀k:Int, -C≤(b k).1∧(b k).1≤C∧ -C≤(b k).2∧(b k).2≤C
theorem Bd.mono {C D:Int}{b:Box}(h:Bd C b)(hc:C≤D):Bd D b:=fun k=>by have:=h k;omega
theorem Bd.narrow {C:Int}{b:Box}(h:Bd C b){i lo hi:Int}(h1: -C≤lo∧lo≤C)(h2: -C≤hi∧hi≤C):Bd C (narrow b i lo hi):=fun k=>by
 have hk:=h k
 by_cases e:k=i
 ·subst e;rw[narrow_same];simp only;omega
 ·rw[narrow_ne _ _ _ e];exact hk
theorem sum_bd {x:Int→Int}{C:Int}:∀{l:List Int},(∀p, -C≤x p∧x p≤C)→0≤C→(l.length:Int)≤12→ -(12*C)≤sumL x l∧sumL x l≤12*C:=by
 have:∀(l:List Int),(∀p, -C≤x p∧x p≤C)→ -((l.length:Int)*C)≤sumL x l∧sumL x l≤(l.length:Int)*C:=by
  intro l h
  induction l with
  |nil=>simp[sumL]
  |cons p l ih=>
   have:=h p
   simp only[sumL,List.length_cons]
   rw[Int.natCast_add,Int.add_mul]
   omega
 intro l h h0 hl
 have h1:=this l h
 have h2:=Int.mul_le_mul_of_nonneg_right hl h0
 omega
theorem downs_bd {bf:Box}{K C lo hi:Int}{i:Int}(hK:0≤K)(hKC:K≤C)(hbf:Bd K bf)(hlo: -(12*K)≤lo∧lo≤12*K)(hhi: -(12*K)≤hi∧hi≤12*K):∀(l:List Int) (b:Box),i ∉l→Bd (C+25*K) b→(-(C+12*K)≤(b i).1∧(b i).1≤C+12*K∧ -(C+12*K)≤(b i).2∧(b i).2≤C+12*K)→
  Bd (C+25*K) (downs bf i lo hi l b)
 |[],b,_,h,_=>h
 |p::l,b,hi',h,hb=>by
  rw[List.mem_cons,not_or] at hi'
  have hp:=hbf p
  simp only[downs]
  refine downs_bd hK hKC hbf hlo hhi l _ hi'.2 (h.narrow (by omega) (by omega)) ?_
  rw[narrow_ne _ _ _ hi'.1];exact hb
theorem lotStep_bd {m:Ml}(g:Good m){bf b c:Box}{K C:Int}{i:Int}(hK:0≤K)(hKC:K≤C)(hbf:Bd K bf)(hb:Bd C b)(he:∀p∈parts m i,b p=bf p)(h0:0≤i)(h:lotStep (parts m) bf b i=some c):Bd (C+25*K) c:=by
 unfold lotStep at h
 split at h
 ·cases h
 ·split at h
  ·cases h;exact hb.mono (by omega)
  ·cases h
   have hl:((parts m i).length:Int)≤12:=by have:=parts_len m i;have:=g.lots;omega
   have e1:sumL (lo1 b) (parts m i)=sumL (lo1 bf) (parts m i):=sumL_congr fun p hp=>by simp only[lo1,he p hp]
   have e2:sumL (hi1 b) (parts m i)=sumL (hi1 bf) (parts m i):=sumL_congr fun p hp=>by simp only[hi1,he p hp]
   have b1:=sum_bd (x:=lo1 bf) (C:=K) (l:=parts m i) (fun p=>by have:=hbf p;simp only[lo1];omega) hK hl
   have b2:=sum_bd (x:=hi1 bf) (C:=K) (l:=parts m i) (fun p=>by have:=hbf p;simp only[hi1];omega) hK hl
   rw[e1,e2]
   have hbi:=hb i
   refine downs_bd hK hKC hbf b1 b2 _ _ (fun hm=>?_) ((hb.mono (by omega)).narrow (by omega) (by omega)) ?_
   ·obtain⟨p0,p1,pf⟩:=((forest g).mem _ _).1 hm
    have:=(forest g).lt i p0 p1;omega
   ·rw[narrow_same];simp only;omega
theorem passF_bd {m:Ml}(g:Good m){bf:Box}{K:Int}(hK:0≤K)(hbf:Bd K bf):∀(k:Nat) (i:Int) (b c:Box) (C:Int),K≤C→0≤i→Bd C b→Silk.Fresh m.lots.length (frmAt m) bf b i→passF (parts m) bf k i b=some c→Bd (C+25*K*k) c
 |0,i,b,c,C,_,_,hb,_,h=>by cases h;exact hb.mono (by simp)
 |k+1,i,b,c,C,hC,i0,hb,hf,h=>by
  simp only[passF] at h
  cases h1:lotStep (parts m) bf b i with
  |none=>rw[h1] at h;cases h
  |some d=>
   rw[h1] at h
   have:=passF_bd g hK hbf k (i+1) d c (C+25*K) (by omega) (by omega) (lotStep_bd g hK hC hbf hb (hf.at (forest g)) i0 h1) (hf.step (forest g) i0 h1) h
   have e:C+25*K+25*K*(k:Int)=C+25*K*((k+1:Nat):Int):=by
    rw[Int.natCast_add,Int.mul_add];omega
   rw[←e];exact this
def InvB (b:Box):Prop:=∀k:Int,0≤(b k).1∧(b k).1≤4000000∧ -4000000≤(b k).2∧(b k).2≤10000
theorem InvB.bd {b:Box}(h:InvB b):Bd 4000000 b:=fun k=>by have:=h k;omega
theorem InvB.pass {m:Ml}(g:Good m){b c:Box}(h:InvB b)(hout:∀j:Int,¬(0≤j∧j<m.lots.length)→b j=(0,0))(hp:passF (parts m) b m.lots.length 0 b=some c):InvB c∧∀j:Int,¬(0≤j∧j<m.lots.length)→c j=(0,0):=by
 have hs:∀j:Int,0≤(b j).1∧(b j).1≤10000∧ -10000≤(b j).2∧(b j).2≤10000:=fun j=>by
  by_cases hj:0≤j∧j<m.lots.length
  ·have:=passF_start _ _ _ _ hp j hj.1 (by omega)
   have:=h j;omega
  ·rw[hout j hj];omega
 have hbd:Bd 10000 b:=fun k=>by have:=hs k;omega
 have h2:=passF_bd g (by omega) hbd m.lots.length 0 b c 10000 (by omega) (by omega) hbd (fun _ _ _ _=>rfl) hp
 have hn:=passF_nrw _ _ hp
 have gl:=g.lots
 refine⟨fun k=>?_,fun j hj=>by rw[passF_out (forest g) _ _ _ _ (by omega) (by omega) hp j hj];exact hout j hj⟩
 have a1:=h2 k
 have a2:=hn k
 have a3:=hs k
 omega
theorem zerosB:([.int .i64 0,.int .i64 0,.int .i64 0,.int .i64 0,.int .i64 0,.int .i64 0,.int .i64 0,.int .i64 0,.int .i64 0,.int .i64 0,.int .i64 0,.int .i64 0,.int .i64 0,.int .i64 0,.int .i64 0,.int .i64 0,.int .i64 0,.int .i64 0,.int .i64 0,.int .i64 0,.int .i64 0,.int .i64 0,.int .i64 0,.int .i64 0]:List V)=encB zeroB:=rfl
theorem lenB (b:Box):lenN (encB b)=24:=rfl
theorem put_B {h:H}{p:Nat}(b c:Box)(hp:h.get p=some (.cells .rw (encB c))):h.put p 0 (encB b)=some (h.set p (.cells .rw (encB b))):=by
 have hpn:putN 0 (encB b) (encB c)=some (encB b):=by
  rw[putN_0];exact over_eq.2 ⟨rfl,Nat.le_refl _⟩
 exact H.put_rw (v:=iv (b 0).1) rfl hp hpn
def tightV (r:Option Box):V:=match r with
 |none=>.tup [.agg (encB zeroB),.bool false]
 |some c=>.tup [.agg (encB c),.bool true]
theorem sum_take (x:Int→Int){l:List Int}{j:Nat}(hj:j<l.length):sumL x (l.take (j+1))=sumL x (l.take j)+x l[j]:=by
 rw[List.take_succ_eq_append_getElem hj,sumL_append];simp[sumL]
theorem downs_drop {bf:Box}{i lo hi:Int}{l:List Int}{j:Nat}(hj:j<l.length)(b:Box):downs bf i lo hi (l.drop j) b=downs bf i lo hi (l.drop (j+1)) (narrow b l[j] ((b i).1-(hi-(bf l[j]).2)) ((b i).2-(lo-(bf l[j]).1))):=by
 rw[List.drop_eq_getElem_cons hj];rfl
set_option maxHeartbeats 4000000 in
theorem tight_ev {h:H}{d:Nat}{m:Ml}{b:Box}(hw:h.wf)(hd:DkAt h d m)(g:Good m)(hb:InvB b)(hout:∀j:Int,¬(0≤j∧j<m.lots.length)→b j=(0,0))(Q:V→H→Prop)
  (q:∀r h',h.Sub h'→TightR m.lots.length (parts m) b r→Q (tightV r) h'):Ev fnG fastA (.fn 80 [] []) [.ptr d 0,.agg (encB b)] h Q:=by
 obtain⟨pm,l,L,W,g1,g2,aL,aW,ap⟩:=hd
 have F:=forest g
 have gl:=g.lots
 have hld:=hw _ _ g1
 have hlp:=hw _ _ g2
 have hlenL:=aL.lenE
 refine Ev_body (fd:=c80) rfl rfl rfl ?_
 have s1:h.Sub ((h.add (.cells .rw (encB b))).add (.cells .rw (encB zeroB))):=(by repeat(first|assumption|exact H.Sub.refl (by assumption)|refine H.Sub.add ?_ _|refine H.Sub.set ?_ (by first|omega|(simp only[H.next_add,H.next_set,H.next_del]<;>omega)) (by first|omega|(simp only[H.next_add,H.next_set,H.next_del]<;>omega)) (by assumption) _))
 simp -implicitDefEqProofs(maxSteps:=999999)(disch:=first|with_reducible rfl|omega|(simp only[nA,nS,nD]<;>omega)|fail)only[c80,go_sem,zerosB]
 refine W_loop (fun k s=>∃tm h' c,s=⟨tm,h',[]⟩∧h.Sub h'∧h.next+1<h'.next∧h'.get h.next=some (.cells .rw (encB c))∧h'.get (h.next+1)=some (.cells .rw (encB zeroB))∧InvB c∧(∀j:Int,¬(0≤j∧j<m.lots.length)→c j=(0,0))∧
   (∀r,TightR m.lots.length (parts m) c r→TightR m.lots.length (parts m) b r)∧(Silk.room m.lots.length c+1).toNat≤k∧(Opd.t 0).ev tm=.ptr d 0∧(Opd.t 3).ev tm=.ptr h.next 0∧(Opd.t 4).ev tm=.ptr (h.next+1) 0∧(Opd.t 6).ev tm=.fn 92 [] [.ptr h.next 0])
  ?_ (Silk.room m.lots.length b+1).toNat _ ⟨_,_,b,rfl,s1,by simp only[H.next_add];omega,by simp -implicitDefEqProofs(maxSteps:=999999)(disch:=first|with_reducible rfl|omega|(simp only[nA,nS,nD]<;>omega)|fail)only[go_sem],by simp -implicitDefEqProofs(maxSteps:=999999)(disch:=first|with_reducible rfl|omega|(simp only[nA,nS,nD]<;>omega)|fail)only[go_sem],hb,hout,fun r h=>h,Nat.le_refl _,(by simp[ev_c,ev_put]<;>rfl),(by simp[ev_c,ev_put]<;>rfl),(by simp[ev_c,ev_put]<;>rfl),(by simp[ev_c,ev_put]<;>rfl)⟩
 rintro k s ⟨tm,h',c,rfl,hs,lt,gb,gz,hi,ho,hR,hk,t0,t3,t4,t6⟩
 have gz':(h'.add (.cells .rw (encB zeroB))).get h'.next=some (.cells .rw (encB zeroB)):=get_add_new rfl
 simp -implicitDefEqProofs(maxSteps:=999999)(disch:=first|with_reducible rfl|omega|(simp only[nA,nS,nD]<;>omega)|fail)only[go_sem,t0,t3,t4,t6,cells_of gb,ld_B,zerosB,lenB,put_B c zeroB gz',cells_of (hs.get g1),hlenL]
 have sB:=(H.Sub.refl hs.wf).add (.cells .rw (encB c))
 have hs1:=hs.trans sB
 have gb1:=sB.get gb
 have gz1:=sB.get gz
 have gf1:(h'.add (.cells .rw (encB c))).get h'.next=some (.cells .rw (encB c)):=get_add_new rfl
 have l1:(h'.add (.cells .rw (encB c))).next=h'.next+1:=H.next_add _ _
 generalize h'.add (.cells .rw (encB c))=h1 at sB hs1 gb1 gz1 gf1 l1⊢
 clear gz'
 refine W_count m.lots.length (fun i s=>∃tm h2 e,s=⟨tm,h2,[]⟩∧h.Sub h2∧h'.next<h2.next∧h2.get h.next=some (.cells .rw (encB e))∧h2.get (h.next+1)=some (.cells .rw (encB zeroB))∧h2.get h'.next=some (.cells .rw (encB c))∧
   passF (parts m) c m.lots.length 0 c=passF (parts m) c (m.lots.length-i) (i:Int) e∧Silk.Fresh m.lots.length (frmAt m) c e (i:Int)∧Bd (4000000+100000000*i) e∧
   (Opd.t 0).ev tm=.ptr d 0∧(Opd.t 3).ev tm=.ptr h.next 0∧(Opd.t 4).ev tm=.ptr (h.next+1) 0∧(Opd.t 6).ev tm=.fn 92 [] [.ptr h.next 0]∧(Opd.t 7).ev tm=.ptr h'.next 0∧(Opd.t 23).ev tm=.int .i64 (m.lots.length:Int)∧(Opd.t 24).ev tm=.int .i64 (i:Int))
  ?_ ?_ (i:=0) (Nat.zero_le _) ⟨_,_,c,rfl,hs1,by omega,gb1,gz1,gf1,rfl,fun _ _ _ _=>rfl,hi.bd.mono (by omega),(by simp[ev_c,ev_put,t0]<;>rfl),(by simp[ev_c,ev_put,t3]<;>rfl),(by simp[ev_c,ev_put,t4]<;>rfl),(by simp[ev_c,ev_put,t6]<;>rfl),(by simp[ev_c,ev_put]<;>rfl),(by simp[ev_c,ev_put]<;>rfl),(by simp[ev_c,ev_put]<;>rfl)⟩<;>clear t0 t3 t4 t6 tm
 ·rintro i s hin ⟨tm,h2,e,rfl,hs2,lt2,gb2,gz2,gf2,hpass,hfr,hbd,t0,t3,t4,t6,t7,t23,t24⟩
  have hin':(i:Int)<(m.lots.length:Int):=by omega
  have hi12:i<12:=by omega
  obtain⟨n1,n2,n3⟩:=encB_at e hi12
  have hstep:m.lots.length-i=(m.lots.length-(i+1))+1:=by omega
  rw[hstep,passF] at hpass
  have hbdi:=hbd (i:Int)
  by_cases hc:(e i).2<(e i).1
  ·simp -implicitDefEqProofs(maxSteps:=999999)(disch:=first|with_reducible rfl|omega|(simp only[nA,nS,nD]<;>omega)|fail)only[go_sem,t0,t3,t4,t6,t7,t23,t24,hin',q_iaa_ptr (nat_cst i) hi12,cells_of gb2,n1,n2,hc,zerosB,lenB,put_B zeroB zeroB gz2,ld_B]
   have hnone:lotStep (parts m) c e (i:Int)=none:=by unfold lotStep;rw[if_pos hc]
   rw[hnone] at hpass
   exact q none _ (hs2.set (by omega) (by have:=hs2.next;omega) hw _) (hR none (.bad hpass))
  have hap:=(ap (i:Int)).mono hs2
  have hlp:=parts_len m (i:Int)
  have hlenP:=hap.lenE
  by_cases hps:parts m (i:Int)=[]
  ·have h0:((parts m (i:Int)).length:Int)=0:=by rw[hps];rfl
   have hsome:lotStep (parts m) c e (i:Int)=some e:=by unfold lotStep;rw[if_neg hc,if_pos hps]
   have hfr':=hfr.step F (by omega) hsome
   rw[hsome] at hpass
   simp -implicitDefEqProofs(maxSteps:=999999)(disch:=first|with_reducible rfl|omega|(simp only[nA,nS,nD]<;>omega)|fail)only[go_sem,t0,t3,t4,t6,t7,t23,t24,hin',q_iaa_ptr (nat_cst i) hi12,cells_of gb2,n1,n2,hc,cells_of (hs2.get g1),hs2.get g2,hlenP,h0,wr_succ]
   exact⟨_,_,e,rfl,hs2,lt2,gb2,gz2,gf2,hpass,hfr',hbd.mono (by omega),(by simp[ev_c,ev_put,t0]<;>rfl),(by simp[ev_c,ev_put,t3]<;>rfl),(by simp[ev_c,ev_put,t4]<;>rfl),(by simp[ev_c,ev_put,t6]<;>rfl),(by simp[ev_c,ev_put,t7]<;>rfl),(by simp[ev_c,ev_put,t23]<;>rfl),(by simp[ev_c,ev_put]<;>rfl)⟩
  have h0:¬((parts m (i:Int)).length:Int)=0:=by have:=List.length_pos_iff.2 hps;omega
  obtain⟨ps,eps⟩:∃ps,parts m (i:Int)=ps:=⟨_,rfl⟩
  obtain⟨X,eX⟩:∃X,found .nils false (lkA (i:Int) l)=X:=⟨_,rfl⟩
  rw[eX] at hlenP hap
  rw[eps] at hlp hlenP hap h0 hps
  have hpsm:∀p∈ps,0≤p∧p<m.lots.length∧frmAt m p=(i:Int):=fun p hp=>(F.mem _ _).1 (by rw[eps];exact hp)
  simp -implicitDefEqProofs(maxSteps:=999999)(disch:=first|with_reducible rfl|omega|(simp only[nA,nS,nD]<;>omega)|fail)only[go_sem,t0,t3,t4,t6,t7,t23,t24,hin',q_iaa_ptr (nat_cst i) hi12,cells_of gb2,n1,n2,hc,cells_of (hs2.get g1),hs2.get g2,eX,hlenP,h0]
  have bdS:∀(x:Int→Int) (l':List Int),(∀p, -(4000000+100000000*(i:Int))≤x p∧x p≤4000000+100000000*(i:Int))→(l'.length:Int)≤12→ -(12*(4000000+100000000*(i:Int)))≤sumL x l'∧sumL x l'≤12*(4000000+100000000*(i:Int)):=fun x l' h1 h2=>sum_bd h1 (by omega) h2
  refine W_count ps.length (fun j s=>∃tm,s=⟨tm,h2,[]⟩∧(Opd.t 0).ev tm=.ptr d 0∧(Opd.t 3).ev tm=.ptr h.next 0∧(Opd.t 4).ev tm=.ptr (h.next+1) 0∧(Opd.t 6).ev tm=.fn 92 [] [.ptr h.next 0]∧(Opd.t 7).ev tm=.ptr h'.next 0∧(Opd.t 8).ev tm=.int .i64 (i:Int)∧(Opd.t 9).ev tm=X∧
    (Opd.t 10).ev tm=.int .i64 (sumL (lo1 e) (ps.take j))∧(Opd.t 11).ev tm=.int .i64 (sumL (hi1 e) (ps.take j))∧(Opd.t 23).ev tm=.int .i64 (m.lots.length:Int)∧(Opd.t 24).ev tm=.int .i64 (i:Int)∧(Opd.t 46).ev tm=X∧(Opd.t 47).ev tm=.int .i64 (ps.length:Int)∧(Opd.t 48).ev tm=.int .i64 (j:Int))
   ?_ ?_ (i:=0) (Nat.zero_le _) ⟨_,rfl,(by simp[ev_c,ev_put,t0]<;>rfl),(by simp[ev_c,ev_put,t3]<;>rfl),(by simp[ev_c,ev_put,t4]<;>rfl),(by simp[ev_c,ev_put,t6]<;>rfl),(by simp[ev_c,ev_put,t7]<;>rfl),(by simp[ev_c,ev_put]<;>rfl),(by simp[ev_c,ev_put]<;>rfl),(by simp[ev_c,ev_put]<;>rfl),(by simp[ev_c,ev_put]<;>rfl),(by simp[ev_c,ev_put,t23]<;>rfl),(by simp[ev_c,ev_put,t24]<;>rfl),(by simp[ev_c,ev_put]<;>rfl),(by simp[ev_c,ev_put]<;>rfl),(by simp[ev_c,ev_put]<;>rfl)⟩<;>clear t0 t3 t4 t6 t7 t23 t24 tm
  ·rintro j s hj ⟨tm,rfl,t0,t3,t4,t6,t7,t8,t9,t10,t11,t23,t24,t46,t47,t48⟩
   have hj':(j:Int)<(ps.length:Int):=by omega
   obtain⟨bb,o,cc,cs,eb,hcs,hq,hgg,hn,hn0⟩:=hap.at hj
   obtain⟨p0,p1,pf⟩:=hpsm _ (List.getElem_mem hj)
   obtain⟨p,ep⟩:=Int.eq_ofNat_of_zero_le p0
   have hp12:p<12:=by omega
   obtain⟨m1,m2,m3⟩:=encB_at e hp12
   have v1:=bdS (lo1 e) (ps.take j) (fun p=>by have:=hbd p;simp only[lo1];omega) (by simp only[List.length_take];omega)
   have v2:=bdS (hi1 e) (ps.take j) (fun p=>by have:=hbd p;simp only[hi1];omega) (by simp only[List.length_take];omega)
   have hbp:=hbd (p:Int)
   have e1:=sum_take (lo1 e) hj
   have e2:=sum_take (hi1 e) hj
   rw[ep] at e1 e2
   simp only[lo1,hi1] at e1 e2 v1 v2
   simp -implicitDefEqProofs(maxSteps:=999999)(disch:=first|with_reducible rfl|omega|(simp only[nA,nS,nD]<;>omega)|fail)only[go_sem,t0,t3,t4,t6,t7,t8,t9,t10,t11,t23,t24,t46,t47,t48,hj',hq (nat_cst j),hcs,hn0 (by omega),encI,ep,q_iaa_ptr (nat_cst p) hp12,cells_of gb2,m1,m2,wr_in,wr_succ,lo1,hi1]
   exact⟨_,rfl,(by simp[ev_c,ev_put,t0]<;>rfl),(by simp[ev_c,ev_put,t3]<;>rfl),(by simp[ev_c,ev_put,t4]<;>rfl),(by simp[ev_c,ev_put,t6]<;>rfl),(by simp[ev_c,ev_put,t7]<;>rfl),(by simp[ev_c,ev_put,t8]<;>rfl),(by simp[ev_c,ev_put,t9]<;>rfl),by rw[e1];exact(by simp[ev_c,ev_put]<;>rfl),by rw[e2];exact(by simp[ev_c,ev_put]<;>rfl),(by simp[ev_c,ev_put,t23]<;>rfl),(by simp[ev_c,ev_put,t24]<;>rfl),(by simp[ev_c,ev_put,t46]<;>rfl),(by simp[ev_c,ev_put,t47]<;>rfl),(by simp[ev_c,ev_put]<;>rfl)⟩
  ·rintro s ⟨tm,rfl,t0,t3,t4,t6,t7,t8,t9,t10,t11,t23,t24,t46,t47,t48⟩
   rw[List.take_length] at t10 t11
   have v1:=bdS (lo1 e) ps (fun p=>by have:=hbd p;simp only[lo1];omega) (by omega)
   have v2:=bdS (hi1 e) ps (fun p=>by have:=hbd p;simp only[hi1];omega) (by omega)
   obtain⟨slo,eslo⟩:∃x,sumL (lo1 e) ps=x:=⟨_,rfl⟩
   obtain⟨shi,eshi⟩:∃x,sumL (hi1 e) ps=x:=⟨_,rfl⟩
   rw[eslo] at t10 v1
   rw[eshi] at t11 v2
   have hsome:lotStep (parts m) c e (i:Int)=some (downs c (i:Int) slo shi ps (narrow e (i:Int) slo shi)):=by
    unfold lotStep
    rw[if_neg hc,eps,if_neg hps,eslo,eshi]
   rw[hsome] at hpass
   have hfr':=hfr.step F (by omega) hsome
   have hbd':=lotStep_bd g (K:=4000000) (by omega) (by omega) hi.bd hbd (hfr.at F) (by omega) hsome
   have hcf:∀p∈ps,e p=c p:=fun p hp=>hfr.at F p (by rw[eps];exact hp)
   simp -implicitDefEqProofs(maxSteps:=999999)(disch:=first|with_reducible rfl|omega|(simp only[nA,nS,nD]<;>omega)|fail)only[go_sem,t0,t3,t4,t6,t7,t8,t9,t10,t11,t23,t24,t46,t47,t48,Int.lt_irrefl]
   refine narrow_ev hs2.wf gb2 hi12 slo shi _ fun h3 gb3 k3 w3=>?_
   have hs3:h.Sub h3:=k3.sub hs2 hw (fun c hc=>by omega) w3
   have gz3:=k3.2 _ _ gz2 (by omega)
   have gf3:=k3.2 _ _ gf2 (by omega)
   have l3:=k3.1
   have hx2:=hap.elems
   simp -implicitDefEqProofs(maxSteps:=999999)(disch:=first|with_reducible rfl|omega|(simp only[nA,nS,nD]<;>omega)|fail)only[go_sem,t0,t3,t4,t6,t7,t8,t9,t10,t11,t23,t24,t46,t47,t48,hlenP]
   refine W_count ps.length (fun j s=>∃tm h4 e4,s=⟨tm,h4,[]⟩∧h.Sub h4∧h'.next<h4.next∧h4.get h.next=some (.cells .rw (encB e4))∧h4.get (h.next+1)=some (.cells .rw (encB zeroB))∧h4.get h'.next=some (.cells .rw (encB c))∧
     downs c (i:Int) slo shi ps (narrow e (i:Int) slo shi)=downs c (i:Int) slo shi (ps.drop j) e4∧e4 (i:Int)=narrow e (i:Int) slo shi (i:Int)∧
     (Opd.t 0).ev tm=.ptr d 0∧(Opd.t 3).ev tm=.ptr h.next 0∧(Opd.t 4).ev tm=.ptr (h.next+1) 0∧(Opd.t 6).ev tm=.fn 92 [] [.ptr h.next 0]∧(Opd.t 7).ev tm=.ptr h'.next 0∧(Opd.t 8).ev tm=.int .i64 (i:Int)∧
     (Opd.t 10).ev tm=.int .i64 slo∧(Opd.t 11).ev tm=.int .i64 shi∧(Opd.t 23).ev tm=.int .i64 (m.lots.length:Int)∧(Opd.t 24).ev tm=.int .i64 (i:Int)∧(Opd.t 70).ev tm=X∧(Opd.t 71).ev tm=.int .i64 (ps.length:Int)∧(Opd.t 72).ev tm=.int .i64 (j:Int))
    ?_ ?_ (i:=0) (Nat.zero_le _) ⟨_,_,_,rfl,hs3,by omega,gb3,gz3,gf3,rfl,rfl,(by simp[ev_c,ev_put,t0]<;>rfl),(by simp[ev_c,ev_put,t3]<;>rfl),(by simp[ev_c,ev_put,t4]<;>rfl),(by simp[ev_c,ev_put,t6]<;>rfl),(by simp[ev_c,ev_put,t7]<;>rfl),(by simp[ev_c,ev_put,t8]<;>rfl),(by simp[ev_c,ev_put,t10]<;>rfl),(by simp[ev_c,ev_put,t11]<;>rfl),(by simp[ev_c,ev_put,t23]<;>rfl),(by simp[ev_c,ev_put,t24]<;>rfl),(by simp[ev_c,ev_put]<;>rfl),(by simp[ev_c,ev_put]<;>rfl),(by simp[ev_c,ev_put]<;>rfl)⟩<;>clear t0 t3 t4 t6 t7 t8 t9 t10 t11 t23 t24 t46 t47 t48 tm
   ·rintro j s hj ⟨tm,h4,e4,rfl,hs4,lt4,gb4,gz4,gf4,hdn,hei,t0,t3,t4,t6,t7,t8,t10,t11,t23,t24,t70,t71,t72⟩
    have hj':(j:Int)<(ps.length:Int):=by omega
    have hap4:=(ap (i:Int)).mono hs4
    rw[eX,eps] at hap4
    obtain⟨bb,o,cc,cs,eb,hcs,hq,hgg,hn,hn0⟩:=hap4.at hj
    obtain⟨p0,p1,pf⟩:=hpsm _ (List.getElem_mem hj)
    have hlt:=F.lt _ p0 p1
    obtain⟨p,ep⟩:=Int.eq_ofNat_of_zero_le p0
    have hp12:p<12:=by omega
    obtain⟨m1,m2,m3⟩:=encB_at c hp12
    obtain⟨u1,u2,u3⟩:=encB_at e4 hi12
    rw[downs_drop hj,ep] at hdn
    have hcp:=hi (p:Int)
    have b4: -60000000000≤(e4 (i:Int)).1∧(e4 (i:Int)).1≤60000000000∧ -60000000000≤(e4 (i:Int)).2∧(e4 (i:Int)).2≤60000000000:=by
     rw[hei,narrow_same];simp only;omega
    simp -implicitDefEqProofs(maxSteps:=999999)(disch:=first|with_reducible rfl|omega|(simp only[nA,nS,nD]<;>omega)|fail)only[go_sem,t0,t3,t4,t6,t7,t8,t10,t11,t23,t24,t70,t71,t72,hj',hq (nat_cst j),hcs,hn0 (by omega),encI,ep,q_iaa_ptr (nat_cst p) hp12,q_iaa_ptr (nat_cst i) hi12,cells_of gb4,cells_of gf4,m1,m2,u1,u2,wr_in]
    refine narrow_ev hs4.wf gb4 hp12 _ _ _ fun h5 gb5 k5 w5=>?_
    have hs5:h.Sub h5:=k5.sub hs4 hw (fun c hc=>by omega) w5
    have gz5:=k5.2 _ _ gz4 (by omega)
    have gf5:=k5.2 _ _ gf4 (by omega)
    have l5:=k5.1
    simp -implicitDefEqProofs(maxSteps:=999999)(disch:=first|with_reducible rfl|omega|(simp only[nA,nS,nD]<;>omega)|fail)only[go_sem,t0,t3,t4,t6,t7,t8,t10,t11,t23,t24,t70,t71,t72,wr_succ,cells_of gb4,cells_of gf4,m1,m2,u1,u2]
    exact⟨_,_,_,rfl,hs5,by omega,gb5,gz5,gf5,hdn,by rw[narrow_ne _ _ _ (by omega)];exact hei,(by simp[ev_c,ev_put,t0]<;>rfl),(by simp[ev_c,ev_put,t3]<;>rfl),(by simp[ev_c,ev_put,t4]<;>rfl),(by simp[ev_c,ev_put,t6]<;>rfl),(by simp[ev_c,ev_put,t7]<;>rfl),(by simp[ev_c,ev_put,t8]<;>rfl),(by simp[ev_c,ev_put,t10]<;>rfl),(by simp[ev_c,ev_put,t11]<;>rfl),(by simp[ev_c,ev_put,t23]<;>rfl),(by simp[ev_c,ev_put,t24]<;>rfl),(by simp[ev_c,ev_put,t70]<;>rfl),(by simp[ev_c,ev_put,t71]<;>rfl),(by simp[ev_c,ev_put]<;>rfl)⟩
   ·rintro s ⟨tm,h4,e4,rfl,hs4,lt4,gb4,gz4,gf4,hdn,hei,t0,t3,t4,t6,t7,t8,t10,t11,t23,t24,t70,t71,t72⟩
    rw[List.drop_length] at hdn
    have hdn':downs c (i:Int) slo shi ps (narrow e (i:Int) slo shi)=e4:=hdn
    rw[hdn'] at hpass hfr' hbd'
    simp -implicitDefEqProofs(maxSteps:=999999)(disch:=first|with_reducible rfl|omega|(simp only[nA,nS,nD]<;>omega)|fail)only[go_sem,t0,t3,t4,t6,t7,t8,t10,t11,t23,t24,t70,t71,t72,Int.lt_irrefl,wr_succ]
    exact⟨_,_,e4,rfl,hs4,lt4,gb4,gz4,gf4,hpass,hfr',hbd'.mono (by omega),(by simp[ev_c,ev_put,t0]<;>rfl),(by simp[ev_c,ev_put,t3]<;>rfl),(by simp[ev_c,ev_put,t4]<;>rfl),(by simp[ev_c,ev_put,t6]<;>rfl),(by simp[ev_c,ev_put,t7]<;>rfl),(by simp[ev_c,ev_put,t23]<;>rfl),(by simp[ev_c,ev_put]<;>rfl)⟩
 ·rintro s ⟨tm,h2,e,rfl,hs2,lt2,gb2,gz2,gf2,hpass,hfr,hbd,t0,t3,t4,t6,t7,t23,t24⟩
  rw[Nat.sub_self] at hpass
  have hpass':passF (parts m) c m.lots.length 0 c=some e:=hpass
  obtain⟨hie,hoe⟩:=hi.pass g ho hpass'
  by_cases hec:intsB e=intsB c
  ·have hEq:e=c:=funext fun j=>by
    by_cases hj:0≤j∧j<m.lots.length
    ·exact(intsB_iff e c).1 hec j hj.1 (by omega)
    ·rw[hoe j hj,ho j hj]
   subst hEq
   simp -implicitDefEqProofs(maxSteps:=999999)(disch:=first|with_reducible rfl|omega|(simp only[nA,nS,nD]<;>omega)|fail)only[go_sem,t0,t3,t4,t6,t7,t23,t24,Int.lt_irrefl,cells_of gb2,cells_of gf2,ld_B,q_feq_B,ngB,zerosB,lenB,put_B e zeroB gz2]
   exact q (some e) _ (hs2.set (by omega) (by have:=hs2.next;omega) hw _) (hR _ (.done hpass'))
  ·simp -implicitDefEqProofs(maxSteps:=999999)(disch:=first|with_reducible rfl|omega|(simp only[nA,nS,nD]<;>omega)|fail)only[go_sem,t0,t3,t4,t6,t7,t23,t24,Int.lt_irrefl,cells_of gb2,cells_of gf2,ld_B,q_feq_B,ngB,hec]
   have hne:∃j:Int,0≤j∧j<m.lots.length∧e j≠c j:=by
    by_cases hall:∃j:Int,0≤j∧j<m.lots.length∧e j≠c j
    ·exact hall
    ·exfalso
     refine hec ((intsB_iff e c).2 fun j j0 j1=>?_)
     by_cases hj:j<m.lots.length
     ·by_cases he:e j=c j
      ·exact he
      ·exact absurd ⟨j,j0,hj,he⟩ hall
     ·rw[hoe j (by omega),ho j (by omega)]
   obtain⟨j,j0,j1,hj⟩:=hne
   have r1:=room_lt (passF_nrw _ _ hpass') m.lots.length j j0 j1 hj
   have r2:=room_nonneg (b:=c) m.lots.length fun i i0 i1=>passF_start _ _ _ _ hpass' i i0 (by omega)
   exact⟨(Silk.room m.lots.length e+1).toNat,by omega,_,_,e,rfl,hs2,by omega,gb2,gz2,hie,hoe,fun r hr=>hR r (.more hpass' hr),Nat.le_refl _,(by simp[ev_c,ev_put,t0]<;>rfl),(by simp[ev_c,ev_put,t3]<;>rfl),(by simp[ev_c,ev_put,t4]<;>rfl),(by simp[ev_c,ev_put,t6]<;>rfl)⟩
end Tryz
end Go.Ab
namespace Go.Ab.Tryz
open Go.Ab.Silk
def ownK (m:Ml)(c:Nat→Bool)(lot:Int):Nat→Int × Int
 |0=>(0,10000)
 |k+1=>match m.wgs[k]? with
  |none=>ownK m c lot k
  |some w=>if c k=true∧w.lot=lot then(max (ownK m c lot k).1 (sayLo m w),min (ownK m c lot k).2 (sayHi m w)) else ownK m c lot k
theorem ownK_hit {m:Ml}{c:Nat→Bool}{lot:Int}{k:Nat}(hk:k<m.wgs.length)(hc:c k=true)(hl:m.wgs[k].lot=lot):ownK m c lot (k+1)=(max (ownK m c lot k).1 (sayLo m m.wgs[k]),min (ownK m c lot k).2 (sayHi m m.wgs[k])):=by
 simp only[ownK]
 rw[List.getElem?_eq_getElem hk]
 simp[hc,hl]
theorem ownK_miss {m:Ml}{c:Nat→Bool}{lot:Int}{k:Nat}(hk:k<m.wgs.length)(h:c k=false∨m.wgs[k].lot≠lot):ownK m c lot (k+1)=ownK m c lot k:=by
 simp only[ownK]
 rw[List.getElem?_eq_getElem hk]
 simp only
 rw[if_neg]
 rintro⟨h1,h2⟩
 rcases h with h|h
 ·rw[h] at h1;cases h1
 ·exact h h2
theorem say_bd {m:Ml}(g:Good m){k:Nat}(hk:k<m.wgs.length):0≤sayLo m m.wgs[k]∧sayLo m m.wgs[k]≤20000∧0≤sayHi m m.wgs[k]∧sayHi m m.wgs[k]≤10000:=by
 have w1:=g.wg _ (List.getElem_mem hk)
 have w2:=g.errs
 have q2:=tdiv_le (a:=100*(m.wgs[k].reads+m.errs)) (b:=100+m.wgs[k].lo) (by omega) (by omega)
 have h1:=sayLo_nonneg (m:=m) (w:=m.wgs[k]) (by omega)
 refine⟨h1,?_,?_,?_⟩
 ·rw[sayLo_le (by omega) (by omega)]
  have:=Int.mul_le_mul_of_nonneg_left (show(100:Int)≤100+m.wgs[k].hi by omega) (show(0:Int)≤20000 by omega)
  omega
 ·unfold sayHi;omega
 ·unfold sayHi;omega
theorem ownK_bd {m:Ml}(g:Good m)(c:Nat→Bool)(lot:Int):∀k,0≤(ownK m c lot k).1∧(ownK m c lot k).1≤20000∧0≤(ownK m c lot k).2∧(ownK m c lot k).2≤10000
 |0=>by simp[ownK]
 |k+1=>by
  have ih:=ownK_bd g c lot k
  by_cases hk:k<m.wgs.length
  ·by_cases h:c k=true∧m.wgs[k].lot=lot
   ·have:=say_bd g hk
    rw[ownK_hit hk h.1 h.2];simp only;omega
   ·rw[ownK_miss hk (by
     by_cases h1:c k=true
     ·exact .inr fun h2=>h ⟨h1,h2⟩
     ·exact .inl (by simpa using h1))]
    exact ih
  ·simp only[ownK]
   rw[List.getElem?_eq_none (by omega)]
   exact ih
def boxK (m:Ml)(c:Nat→Bool)(k:Nat):Box:=fun lot=>if 0≤lot∧lot<m.lots.length then ownK m c lot k else(0,0)
def ownB (m:Ml)(c:Nat→Bool):Box:=boxK m c m.wgs.length
theorem boxK_out {m:Ml}{c:Nat→Bool}{k:Nat}:∀j:Int,¬(0≤j∧j<m.lots.length)→boxK m c k j=(0,0):=fun j h=>by unfold boxK;rw[if_neg h]
theorem boxK_inv {m:Ml}(g:Good m)(c:Nat→Bool)(k:Nat):InvB (boxK m c k):=fun j=>by
 unfold boxK
 split
 ·have:=ownK_bd g c j k;omega
 ·simp
theorem boxK_hit {m:Ml}(g:Good m){c:Nat→Bool}{k:Nat}(hk:k<m.wgs.length)(hc:c k=true):boxK m c (k+1)=updB (boxK m c k) m.wgs[k].lot (max (boxK m c k m.wgs[k].lot).1 (sayLo m m.wgs[k]),min (boxK m c k m.wgs[k].lot).2 (sayHi m m.wgs[k])):=by
 have hl:=g.lot _ (List.getElem_mem hk)
 funext lot
 unfold boxK updB
 by_cases e:lot=m.wgs[k].lot
 ·subst e
  rw[if_pos ⟨hl.1,by omega⟩,if_pos rfl,if_pos ⟨hl.1,by omega⟩,ownK_hit hk hc rfl]
 ·rw[if_neg e]
  dsimp only
  rw[ownK_miss hk (.inr fun e'=>e e'.symm)]
theorem boxK_miss {m:Ml}{c:Nat→Bool}{k:Nat}(hk:k<m.wgs.length)(hc:c k=false):boxK m c (k+1)=boxK m c k:=by
 funext lot
 unfold boxK
 rw[ownK_miss hk (.inl hc)]
def lotsB (i:Nat):Box:=fun lot=>if 0≤lot∧lot<i then(0,10000) else(0,0)
theorem lotsB_step (i:Nat):lotsB (i+1)=updB (lotsB i) (i:Int) ((lotsB i (i:Int)).1,10000):=by
 funext lot
 unfold lotsB updB
 by_cases e:lot=(i:Int)
 ·subst e
  rw[if_pos (by omega),if_pos rfl,if_neg (by omega)]
 ·rw[if_neg e]
  dsimp only
  by_cases h:0≤lot∧lot<(i:Int)
  ·rw[if_pos (by omega),if_pos h]
  ·rw[if_neg (by omega),if_neg h]
theorem lotsB_all (m:Ml)(c:Nat→Bool):lotsB m.lots.length=boxK m c 0:=rfl
set_option maxHeartbeats 2000000 in
theorem bounds_ev {h:H}{d:Nat}{m:Ml}{f:V}{c:Nat→Bool}(hw:h.wf)(hd:DkAt h d m)(g:Good m)(hf1:f.one=true)(hf:∀i,i<m.wgs.length→PureA h f [.int .i64 (i:Int)] (.bool (c i)))(Q:V→H→Prop)
  (q:∀r h',h.Sub h'→TightR m.lots.length (parts m) (ownB m c) r→Q (tightV r) h'):Ev fnG fastA (.fn 59 [] []) [.ptr d 0,.agg [f]] h Q:=by
 have hd0:=hd
 obtain⟨pm,l,L,W,g1,g2,aL,aW,ap⟩:=hd
 have gl:=g.lots
 have hld:=hw _ _ g1
 have hlenL:=aL.lenE
 have hlenW:=aW.lenE
 refine Ev_body (fd:=c59) rfl rfl rfl ?_
 have s1:h.Sub (((h.add (.cells .rw [f])).add (.cells .rw (encB zeroB))).add (.cells .rw (encB zeroB))):=(by repeat(first|assumption|exact H.Sub.refl (by assumption)|refine H.Sub.add ?_ _|refine H.Sub.set ?_ (by first|omega|(simp only[H.next_add,H.next_set,H.next_del]<;>omega)) (by first|omega|(simp only[H.next_add,H.next_set,H.next_del]<;>omega)) (by assumption) _))
 have ez:encB zeroB=encB (lotsB 0):=by
  rw[show lotsB 0=zeroB from funext fun lot=>by unfold lotsB zeroB;rw[if_neg (by omega)]]
 have gw:=g.wgs
 simp -implicitDefEqProofs(maxSteps:=999999)(disch:=first|with_reducible rfl|omega|(simp only[nA,nS,nD]<;>omega)|fail)only[c59,go_sem,zerosB,hf1,cells_of g1,hlenL]
 refine W_count m.lots.length (fun i s=>∃tm h',s=⟨tm,h',[]⟩∧h.Sub h'∧h.next+2<h'.next∧h'.get h.next=some (.cells .rw [f])∧h'.get (h.next+1)=some (.cells .rw (encB zeroB))∧h'.get (h.next+1+1)=some (.cells .rw (encB (lotsB i)))∧
   (Opd.t 0).ev tm=.ptr d 0∧(Opd.t 3).ev tm=.ptr h.next 0∧(Opd.t 4).ev tm=.ptr (h.next+1) 0∧(Opd.t 6).ev tm=.ptr (h.next+1+1) 0∧(Opd.t 16).ev tm=.int .i64 (m.lots.length:Int)∧(Opd.t 17).ev tm=.int .i64 (i:Int))
  ?_ ?_ (i:=0) (Nat.zero_le _) ⟨_,_,rfl,s1,by simp only[H.next_add];omega,by simp -implicitDefEqProofs(maxSteps:=999999)(disch:=first|with_reducible rfl|omega|(simp only[nA,nS,nD]<;>omega)|fail)only[go_sem],by simp -implicitDefEqProofs(maxSteps:=999999)(disch:=first|with_reducible rfl|omega|(simp only[nA,nS,nD]<;>omega)|fail)only[go_sem],by rw[←ez];simp -implicitDefEqProofs(maxSteps:=999999)(disch:=first|with_reducible rfl|omega|(simp only[nA,nS,nD]<;>omega)|fail)only[go_sem],(by simp[ev_c,ev_put]<;>rfl),(by simp[ev_c,ev_put]<;>rfl),(by simp[ev_c,ev_put]<;>rfl),(by simp[ev_c,ev_put]<;>rfl),(by simp[ev_c,ev_put]<;>rfl),(by simp[ev_c,ev_put]<;>rfl)⟩
 ·rintro i s hi ⟨tm,h',rfl,hs,lt,ga,gb,gc,t0,t3,t4,t6,t16,t17⟩
  have hi':(i:Int)<(m.lots.length:Int):=by omega
  have hi12:i<12:=by omega
  have hput:=encB_put2 (lotsB i) hi12 10000
  rw[←lotsB_step] at hput
  simp -implicitDefEqProofs(maxSteps:=999999)(disch:=first|with_reducible rfl|omega|(simp only[nA,nS,nD]<;>omega)|fail)only[go_sem,t0,t3,t4,t6,t16,t17,hi',q_iaa_ptr (nat_cst i) hi12,gc,hput,wr_succ]
  have s2:=hs.set (b:=h.next+1+1) (by omega) (by omega) hw (.cells .rw (encB (lotsB (i+1))))
  exact⟨_,_,rfl,s2,by rw[H.next_set];omega,by rw[get_set_other (by omega)];exact ga,by rw[get_set_other (by omega)];exact gb,get_set_same rfl,(by simp[ev_c,ev_put,t0]<;>rfl),(by simp[ev_c,ev_put,t3]<;>rfl),(by simp[ev_c,ev_put,t4]<;>rfl),(by simp[ev_c,ev_put,t6]<;>rfl),(by simp[ev_c,ev_put,t16]<;>rfl),(by simp[ev_c,ev_put]<;>rfl)⟩
 rintro s ⟨tm,h',rfl,hs,lt,ga,gb,gc,t0,t3,t4,t6,t16,t17⟩
 rw[lotsB_all m c] at gc
 simp -implicitDefEqProofs(maxSteps:=999999)(disch:=first|with_reducible rfl|omega|(simp only[nA,nS,nD]<;>omega)|fail)only[go_sem,t0,t3,t4,t6,t16,t17,Int.lt_irrefl,cells_of (hs.get g1),hlenW]
 refine W_count m.wgs.length (fun i s=>∃tm h',s=⟨tm,h',[]⟩∧h.Sub h'∧h.next+2<h'.next∧h'.get h.next=some (.cells .rw [f])∧h'.get (h.next+1)=some (.cells .rw (encB zeroB))∧h'.get (h.next+1+1)=some (.cells .rw (encB (boxK m c i)))∧
   (Opd.t 0).ev tm=.ptr d 0∧(Opd.t 3).ev tm=.ptr h.next 0∧(Opd.t 4).ev tm=.ptr (h.next+1) 0∧(Opd.t 6).ev tm=.ptr (h.next+1+1) 0∧(Opd.t 28).ev tm=W∧(Opd.t 29).ev tm=.int .i64 (m.wgs.length:Int)∧(Opd.t 30).ev tm=.int .i64 (i:Int))
  ?_ ?_ (i:=0) (Nat.zero_le _) ⟨_,_,rfl,hs,lt,ga,gb,gc,(by simp[ev_c,ev_put,t0]<;>rfl),(by simp[ev_c,ev_put,t3]<;>rfl),(by simp[ev_c,ev_put,t4]<;>rfl),(by simp[ev_c,ev_put,t6]<;>rfl),(by simp[ev_c,ev_put]<;>rfl),(by simp[ev_c,ev_put]<;>rfl),(by simp[ev_c,ev_put]<;>rfl)⟩<;>clear t0 t3 t4 t6 t16 t17 ga gb gc lt hs h' tm
 ·rintro i s hi ⟨tm,h',rfl,hs,lt,ga,gb,gc,t0,t3,t4,t6,t28,t29,t30⟩
  have hi':(i:Int)<(m.wgs.length:Int):=by omega
  obtain⟨bb,o,cc,cs,rfl,hcs,hq,hgg,hn,hn0⟩:=(aW.mono hs).at hi
  have hl:=g.lot _ (List.getElem_mem hi)
  obtain⟨lt',elt⟩:=Int.eq_ofNat_of_zero_le hl.1
  have hlt12:lt'<12:=by omega
  have hsay:=say_bd g hi
  have sA:=(H.Sub.refl hs.wf).add (.cells .rw (encW m.wgs[i]))
  have hsA:=hs.trans sA
  simp -implicitDefEqProofs(maxSteps:=999999)(disch:=first|with_reducible rfl|omega|(simp only[nA,nS,nD]<;>omega)|fail)only[go_sem,t0,t3,t4,t6,t28,t29,t30,hi',hq (nat_cst i),hcs,hgg,encW]
  refine(says_ev hsA.wf (hd0.mono hsA) g hi).mono fun u h3 hu=>?_
  obtain⟨rfl,s23⟩:=hu
  have hs3:=hsA.trans s23
  have l3:=s23.next
  rw[H.next_add] at l3
  have s34:=(H.Sub.refl hs3.wf).add (.cells .rw [.int .i64 (sayLo m m.wgs[i]),.int .i64 (sayHi m m.wgs[i])])
  have hs4:=hs3.trans s34
  have ga3:=(sA.trans s23).get ga
  have gb3:=(sA.trans s23).get gb
  have gc3:=(sA.trans s23).get gc
  have gw3:h3.cells h'.next=some (encW m.wgs[i]):=s23.cells (cells_add_new rfl)
  simp -implicitDefEqProofs(maxSteps:=999999)(disch:=first|with_reducible rfl|omega|(simp only[nA,nS,nD]<;>omega)|fail)only[go_sem,t0,t3,t4,t6,t28,t29,t30,cells_of ga3]
  refine(hf i hi).use hs4 fun h5 s45=>?_
  have hs5:=hs4.trans s45
  have l5:=s45.next
  rw[H.next_add] at l5
  have ga5:=(s34.trans s45).get ga3
  have gb5:=(s34.trans s45).get gb3
  have gc5:=(s34.trans s45).get gc3
  have gw5:=(s34.trans s45).cells gw3
  have gs5:h5.cells h3.next=some [.int .i64 (sayLo m m.wgs[i]),.int .i64 (sayHi m m.wgs[i])]:=s45.cells (cells_add_new rfl)
  cases hc:c i
  ·simp -implicitDefEqProofs(maxSteps:=999999)(disch:=first|with_reducible rfl|omega|(simp only[nA,nS,nD]<;>omega)|fail)only[go_sem,t0,t3,t4,t6,t28,t29,t30,hc,wr_succ]
   exact⟨_,_,rfl,hs5,by omega,ga5,gb5,by rw[boxK_miss hi hc];exact gc5,(by simp[ev_c,ev_put,t0]<;>rfl),(by simp[ev_c,ev_put,t3]<;>rfl),(by simp[ev_c,ev_put,t4]<;>rfl),(by simp[ev_c,ev_put,t6]<;>rfl),(by simp[ev_c,ev_put,t28]<;>rfl),(by simp[ev_c,ev_put,t29]<;>rfl),(by simp[ev_c,ev_put]<;>rfl)⟩
  ·obtain⟨n1,n2,n3⟩:=encB_at (boxK m c i) hlt12
   have hput:=fun x y=>encB_put (boxK m c i) hlt12 x y
   simp -implicitDefEqProofs(maxSteps:=999999)(disch:=first|with_reducible rfl|omega|(simp only[nA,nS,nD]<;>omega)|fail)only[go_sem,t0,t3,t4,t6,t28,t29,t30,hc,gw5,encW,gs5,elt,q_iaa_ptr (nat_cst lt') hlt12,cells_of gc5,n1,n2]
   refine least_use (l:=[sayHi m m.wgs[i]]) (SlAt.new _ rfl (by rfl) (by rfl) (by simp[encI]) (by simp)) ?_
   have s56:=(H.Sub.refl hs5.wf).add (.cells .rw [.int .i64 (sayHi m m.wgs[i])])
   have gc6:=s56.get gc5
   have hhit:=boxK_hit g hi hc
   rw[elt] at hhit
   have hs6:=(hs5.trans s56).set (b:=h.next+1+1) (by omega) (by rw[H.next_add];omega) hw (.cells .rw (encB (boxK m c (i+1))))
   simp -implicitDefEqProofs(maxSteps:=999999)(disch:=first|with_reducible rfl|omega|(simp only[nA,nS,nD]<;>omega)|fail)only[go_sem,t0,t3,t4,t6,t28,t29,t30,hc,gw5,encW,gs5,elt,q_iaa_ptr (nat_cst lt') hlt12,cells_of gc5,cells_of gc6,gc6,n1,n2,List.foldl,hput,←hhit,wr_succ]
   exact⟨_,_,rfl,hs6,by rw[H.next_set,H.next_add];omega,by rw[get_set_other (by omega)];exact s56.get ga5,by rw[get_set_other (by omega)];exact s56.get gb5,get_set_same rfl,(by simp[ev_c,ev_put,t0]<;>rfl),(by simp[ev_c,ev_put,t3]<;>rfl),(by simp[ev_c,ev_put,t4]<;>rfl),(by simp[ev_c,ev_put,t6]<;>rfl),(by simp[ev_c,ev_put,t28]<;>rfl),(by simp[ev_c,ev_put,t29]<;>rfl),(by simp[ev_c,ev_put]<;>rfl)⟩
 ·rintro s ⟨tm,h',rfl,hs,lt,ga,gb,gc,t0,t3,t4,t6,t28,t29,t30⟩
  simp -implicitDefEqProofs(maxSteps:=999999)(disch:=first|with_reducible rfl|omega|(simp only[nA,nS,nD]<;>omega)|fail)only[go_sem,t0,t3,t4,t6,t28,t29,t30,Int.lt_irrefl,cells_of gc,ld_B]
  refine tight_ev hs.wf (hd0.mono hs) g (boxK_inv g c _) boxK_out _ fun r h2 s12 hr=>?_
  have gb2:=s12.get gb
  have hs2:=hs.trans s12
  have l2:=s12.next
  cases r with
  |none=>
   simp -implicitDefEqProofs(maxSteps:=999999)(disch:=first|with_reducible rfl|omega|(simp only[nA,nS,nD]<;>omega)|fail)only[go_sem,tightV,t0,t3,t4,t6,lenB,put_B zeroB zeroB gb2,ld_B]
   exact q none _ (hs2.set (by omega) (by omega) hw _) hr
  |some b=>
   simp -implicitDefEqProofs(maxSteps:=999999)(disch:=first|with_reducible rfl|omega|(simp only[nA,nS,nD]<;>omega)|fail)only[go_sem,tightV,t0,t3,t4,t6,lenB,put_B b zeroB gb2,ld_B]
   exact q (some b) _ (hs2.set (by omega) (by omega) hw _) hr
end Go.Ab.Tryz
namespace Go.Ab
def slaV (n sz b:Nat)(v:V):Option V:=match natK? v with
 |some e=>og (bnds 0 e n) (og (Nat.ble n n) (some (sub b 0 sz (0,e,n))))
 |none=>none
theorem q_sla_to (tm:T V)(n sz b:Nat)(x:Opd):q_sla tm n sz (.ptr b 0) none (some x) none=slaV n sz b (x.ev tm):=by
 simp only[q_sla,bnd3,natO,slaV]
 cases natK? (x.ev tm) with
 |none=>rfl
 |some e=>
  simp only
  cases bnds 0 e n
  ·rfl
  ·simp only[og_true];cases Nat.ble n n<;>rfl
theorem slaV_int {n sz b k:Nat}(hk:k≤n)(hn:0<n):slaV n sz b (.int .i64 (k:Int))=some (.sl b 0 k (.fix n)):=by
 have e1:Nat.ble 0 k=true:=by simp
 have e2:Nat.ble k n=true:=by simpa using hk
 have e3:Nat.ble n n=true:=by simp
 have e4:Nat.beq n 0=false:=by
  cases hb:Nat.beq n 0 with
  |false=>rfl
  |true=>have:=Nat.eq_of_beq_eq_true hb;omega
 simp only[slaV,natk_cst,bnds,e1,e2,e3,og_true,sub,e4,bsel_false,Nat.zero_mul,Nat.add_zero,Nat.sub_zero]
theorem clone_core {h:H}{x:V}{sz by_:Nat}{rows:List (List V)}{Q:V→H→Prop}(hw:h.wf)(hx:SlAt h x sz rows)(hl:rows.length*by_≤1000000000)(hl2:rows.length≤1000000000)(q:∀v h',OwnC h h' v sz rows→Q v h'):
  P2 (e_app' (h.add (.cells .rw [])) sz by_ (.sl h.next 0 0 (.fix 0)) x) Q:=by
 have s1:h.Sub (h.add (.cells .rw [])):=(H.Sub.refl hw).add _
 have hx1:=(hx.mono s1).elems
 rw[e_app_eq,hx1.1,hx1.2]
 simp only[ob_some]
 cases hn:rows.length with
 |zero=>
  have e:rows=[]:=List.length_eq_zero_iff.1 hn
  rw[e_app_fix0]
  have:Nat.ble 0 0=true:=rfl
  rw[this,og_true,P2_some]
  exact q _ _ (by rw[e];exact⟨s1,by simp,.inr (.inr ⟨h.next,0,[],rfl,Nat.le_refl _,by rw[H.next_add];omega,get_add_new rfl,by simp,Nat.le_refl _⟩)⟩)
 |succ k=>
  rw[e_app_full (by omega) (elems_0 _ _ _ _ _) (by rw[hn] at hl;simp only[Nat.zero_add];omega) (by omega),grown_eq,P2_some]
  exact q _ _ ⟨s1.add _,hx.1,.inr (.inl ⟨(h.add (.cells .rw [])).next,by rw[hn,Nat.zero_add],by rw[H.next_add];omega,by simp only[H.next_add];omega,by rw[get_add_new rfl];rfl⟩)⟩
namespace Tryz
open Go.Ab.Silk
theorem cloneSpan_ev {h:H}{x:V}{rows:List (List V)}(hw:h.wf)(hx:SlAt h x 2 rows)(hl:rows.length≤1000000)(Q:V→H→Prop)(q:∀v h',OwnC h h' v 2 rows→Q v h'):Ev fnG fastA (.fn 26 [] []) [x] h Q:=by
 refine Ev_body (fd:=c26) rfl rfl rfl ?_
 rcases hx.2.2 with⟨rfl,e⟩|⟨b,o,c,cs,rfl,_⟩
 ·simp -implicitDefEqProofs(maxSteps:=999999)(disch:=first|with_reducible rfl|omega|(simp only[nA,nS,nD]<;>omega)|fail)only[c26,go_sem]
  exact q _ _ (by rw[e];exact(OwnSl.nil (H.Sub.refl hw) 2).c)
 ·simp -implicitDefEqProofs(maxSteps:=999999)(disch:=first|with_reducible rfl|omega|(simp only[nA,nS,nD]<;>omega)|fail)only[c26,go_sem]
  refine clone_core hw hx (by omega) (by omega) fun v h' ov=>?_
  simp -implicitDefEqProofs(maxSteps:=999999)(disch:=first|with_reducible rfl|omega|(simp only[nA,nS,nD]<;>omega)|fail)only[go_sem]
  exact q _ _ ov
theorem all_ev (h:H)(Q:V→H→Prop):Ev fnG fastA (.fn 60 [] []) [] h Q=Q (.agg [.fn 81 [] []]) (h.add (.cells .rw [.fn 81 [] []])):=by
 refine Ev.det (Ev_body (fd:=c60) rfl rfl rfl ?_) Q
 simp -implicitDefEqProofs(maxSteps:=999999)(disch:=first|with_reducible rfl|omega|(simp only[nA,nS,nD]<;>omega)|fail)only[c60,go_sem]
theorem all1_pure (h:H)(x:V):PureA h (.fn 81 [] []) [x] (.bool true):=fun h1 hs=>by
 refine Ev_body (fd:=c81) rfl rfl rfl ?_
 simp -implicitDefEqProofs(maxSteps:=999999)(disch:=first|with_reducible rfl|omega|(simp only[nA,nS,nD]<;>omega)|fail)only[c81,go_sem]
 exact H.Sub.refl hs.wf
def allC:Nat→Bool:=fun _=>true
def FeasM (m:Ml)(c:Nat→Bool)(w:Int→Int):Prop:=Feas m.lots.length (parts m) (ownB m c) w
def ExactM (m:Ml)(c:Nat→Bool)(b:Box):Prop:=Exact m.lots.length (parts m) (ownB m c) b∧∀j:Int,¬(0≤j∧j<m.lots.length)→b j=(0,0)
theorem tightR_sem {m:Ml}(g:Good m){c:Nat→Bool}{r:Option Box}(h:TightR m.lots.length (parts m) (ownB m c) r):(r=none∧¬∃w,FeasM m c w)∨∃b,r=some b∧ExactM m c b∧Tight m.lots.length (parts m) b:=by
 have gl:=g.lots
 cases r with
 |none=>exact .inl ⟨rfl,(h.none_iff (forest g) (by omega)).1 rfl⟩
 |some b=>exact .inr ⟨b,rfl,⟨h.exact (forest g),fun j hj=>by rw[h.out (forest g) j hj];exact boxK_out j hj⟩,h.nrw.2⟩
theorem ExactM.feas {m:Ml}(g:Good m){c:Nat→Bool}{b:Box}(h:ExactM m c b):∃w,FeasM m c w:=by
 have gl:=g.lots
 obtain⟨w,f,_⟩:=h.1.full 0 _ (by omega) (by omega) (Int.le_refl _) (h.1.ne 0 (by omega) (by omega))
 exact⟨w,f⟩
theorem ownB_bd {m:Ml}(g:Good m)(c:Nat→Bool)(j:Int):0≤(ownB m c j).1∧(ownB m c j).2≤10000:=by
 have:=boxK_inv g c m.wgs.length j
 exact⟨this.1,this.2.2.2⟩
theorem ExactM.bd {m:Ml}(g:Good m){c:Nat→Bool}{b:Box}(h:ExactM m c b)(j:Int):0≤(b j).1∧(b j).1≤10000∧0≤(b j).2∧(b j).2≤10000:=by
 by_cases hj:0≤j∧j<m.lots.length
 ·have hn:=h.1.ne j hj.1 hj.2
  obtain⟨w1,f1,e1⟩:=h.1.full j _ hj.1 hj.2 (Int.le_refl _) hn
  obtain⟨w2,f2,e2⟩:=h.1.full j _ hj.1 hj.2 hn (Int.le_refl _)
  have h1:=f1.1 j hj.1 hj.2
  have h2:=f2.1 j hj.1 hj.2
  have:=ownB_bd g c j
  omega
 ·rw[h.2 j hj];simp
theorem SlAt_keep2 {h h':H}{S:Nat→Prop}{x:V}{sz:Nat}{rows:List (List V)}(a:SlAt h x sz rows)(k:Keeps S h h')(n:rows≠[]→∀b,blkOf x b→¬S b):SlAt h' x sz rows:=by
 obtain⟨a1,a0,a2⟩:=a
 refine⟨a1,a0,?_⟩
 rcases a2 with a2|⟨b,o,c,cs,e1,e2,e3⟩
 ·exact .inl a2
 ·refine .inr ⟨b,o,c,cs,e1,?_,e3⟩
  by_cases hr:rows=[]
  ·exact .inl hr
  ·exact .inr (k.cells (e2.resolve_left hr) (n hr b ⟨_,_,_,e1⟩))
theorem SlAt_lt {h:H}{x:V}{sz:Nat}{rows:List (List V)}(hw:h.wf)(a:SlAt h x sz rows)(hr:rows≠[]):∀b,blkOf x b→b<h.next:=by
 rintro b ⟨o',n',c',e⟩
 rcases a.2.2 with⟨rfl,_⟩|⟨b',o,c,cs,e1,e2,e3⟩
 ·cases e
 ·rw[e1] at e;cases e
  obtain⟨k,hk⟩:=H.cells_eq (e2.resolve_left hr)
  exact hw _ _ hk
theorem opened_keep {h0 h:H}{v:V}{m:Ml}(hs:h0.Sub h)(hw0:h0.wf)(hm:MlIs h0 v m):Ev fnG fastA (.fn 47 [] []) [v] h fun u h'=>h.Sub h'∧((check m≠0∧u=.tup [.nilp,.int .i64 (check m)])∨
  (check m=0∧∃d,u=.tup [.ptr d 0,.int .i64 0]∧DkAt h' d m∧∀(h'':H) (S:Nat→Prop),Keeps S h' h''→(∀c,S c→h0.next≤c∧c<h.next)→DkAt h'' d m)):=by
 refine(opened_ev hs.wf (hm.mono hs)).mono fun u h' hu=>?_
 obtain⟨hs',hu|⟨c,d,pm,l,L,W,e1,ld,lp,e2,g1,g2,pt⟩⟩:=hu
 ·exact⟨hs',.inl hu⟩
 ·obtain⟨L',W',e,aL,aW⟩:=hm
  rw[e2] at e;cases e
  have hgl:=(good_of c).lots
  have hparts:∀k,SlAt h' (found .nils false (lkA k l)) 1 ((parts m k).map encI)∧∀b,blkOf (found .nils false (lkA k l)) b→h.next≤b:=fun k=>by
   have hl:=parts_len m k
   rcases pt.1 k with⟨f1,f2⟩|⟨s,f1,f2⟩
   ·rw[f1,f2];exact⟨(OwnSl.nil hs' 1).sl (by simp),fun b hb=>(blkOf_nils hb).elim⟩
   ·rw[f1];exact⟨f2.sl (by simp only[List.length_map];omega),fun b hb=>(f2.blk hb).1⟩
  refine⟨hs',.inr ⟨c,d,e1,⟨pm,l,L,W,g1,g2,(aL.mono hs).mono hs',(aW.mono hs).mono hs',fun k=>(hparts k).1⟩,fun h'' S k hS=>⟨pm,l,L,W,k.2 _ _ g1 fun h=>by have:=hS _ h;omega,k.2 _ _ g2 fun h=>by have:=hS _ h;omega,?_,?_,fun j=>?_⟩⟩⟩
  ·exact SlAt_keep2 ((aL.mono hs).mono hs') k fun hr b hb h=>by have:=SlAt_lt hw0 aL hr b hb;have:=hS _ h;omega
  ·exact SlAt_keep2 ((aW.mono hs).mono hs') k fun hr b hb h=>by have:=SlAt_lt hw0 aW hr b hb;have:=hS _ h;omega
  ·exact SlAt_keep2 (hparts j).1 k fun _ b hb h=>by have:=(hparts j).2 b hb;have:=hS _ h;omega
theorem told_ev {h:H}{v:V}{m:Ml}(hw:h.wf)(hm:MlIs h v m):Ev fnG fastA (.fn 25 [] []) [v] h fun u h'=>h.Sub h'∧((check m≠0∧u=.tup [.nilp,.agg (encB zeroB),.int .i64 (check m)])∨
  (check m=0∧(¬∃w,FeasM m allC w)∧u=.tup [.nilp,.agg (encB zeroB),.int .i64 7])∨
  (check m=0∧∃d b,u=.tup [.ptr d 0,.agg (encB b),.int .i64 0]∧DkAt h' d m∧ExactM m allC b∧Tight m.lots.length (parts m) b)):=by
 refine Ev.gen fun Q q=>?_
 have hm0:=hm
 obtain⟨L,W,rfl,aL,aW⟩:=hm
 refine Ev_body (fd:=c25) rfl rfl rfl ?_
 have s2:h.Sub ((h.add (.cells .rw [.int .i64 m.errs,L,W])).add (.cells .rw (encB zeroB))):=(by repeat(first|assumption|exact H.Sub.refl (by assumption)|refine H.Sub.add ?_ _|refine H.Sub.set ?_ (by first|omega|(simp only[H.next_add,H.next_set,H.next_del]<;>omega)) (by first|omega|(simp only[H.next_add,H.next_set,H.next_del]<;>omega)) (by assumption) _))
 simp -implicitDefEqProofs(maxSteps:=999999)(disch:=first|with_reducible rfl|omega|(simp only[nA,nS,nD]<;>omega)|fail)only[c25,go_sem,zerosB]
 refine(opened_keep s2 hw hm0).mono fun u h3 hu=>?_
 obtain⟨s23,hu⟩:=hu
 have l3:=s23.next
 simp only[H.next_add] at l3
 have s3:=s2.trans s23
 have g2:h3.get (h.next+1)=some (.cells .rw (encB zeroB)):=s23.get (by simp -implicitDefEqProofs(maxSteps:=999999)(disch:=first|with_reducible rfl|omega|(simp only[nA,nS,nD]<;>omega)|fail)only[go_sem])
 rcases hu with⟨c,rfl⟩|⟨c,d,rfl,hd,hkeep⟩
 ·simp -implicitDefEqProofs(maxSteps:=999999)(disch:=first|with_reducible rfl|omega|(simp only[nA,nS,nD]<;>omega)|fail)only[go_sem,c,ne_eq,not_false_eq_true,zerosB,lenB,put_B zeroB zeroB g2,ld_B]
  exact q _ _ ⟨s3.set (by omega) (by omega) hw _,.inl ⟨c,rfl⟩⟩
 have g:=good_of c
 have s34:=(H.Sub.refl s3.wf).add (.cells .rw [.fn 81 [] []])
 simp -implicitDefEqProofs(maxSteps:=999999)(disch:=first|with_reducible rfl|omega|(simp only[nA,nS,nD]<;>omega)|fail)only[go_sem,c,ne_eq,not_true_eq_false,all_ev]
 refine bounds_ev (c:=allC) (H.Sub.wf s34) (hd.mono s34) g rfl (fun i _=>all1_pure _ _) _ fun r h4 s44 hr=>?_
 have s4:=s3.trans (s34.trans s44)
 have l4:=(s34.trans s44).next
 have g4:=(s34.trans s44).get g2
 have hz:(h4.add (.cells .rw (encB zeroB))).get h4.next=some (.cells .rw (encB zeroB)):=get_add_new rfl
 rcases tightR_sem g hr with⟨rfl,hno⟩|⟨b,rfl,hex,ht⟩
 ·have s45:=(H.Sub.refl s4.wf).add (.cells .rw (encB zeroB))
  have g5:=s45.get g4
  simp -implicitDefEqProofs(maxSteps:=999999)(disch:=first|with_reducible rfl|omega|(simp only[nA,nS,nD]<;>omega)|fail)only[go_sem,tightV,zerosB,lenB,put_B zeroB zeroB hz,put_B zeroB zeroB g5,ld_B]
  exact q _ _ ⟨(s4.trans s45).set (by omega) (by rw[H.next_add];omega) hw _,.inr (.inl ⟨c,hno,rfl⟩)⟩
 ·have s45:=(H.Sub.refl s4.wf).add (.cells .rw (encB b))
  have g5:=s45.get g4
  have e5:(h4.add (.cells .rw (encB b))).cells h4.next=some (encB b):=cells_add_new rfl
  simp -implicitDefEqProofs(maxSteps:=999999)(disch:=first|with_reducible rfl|omega|(simp only[nA,nS,nD]<;>omega)|fail)only[go_sem,tightV,zerosB,lenB,put_B b zeroB hz,e5,put_B b zeroB g5,ld_B]
  have k6:=(Keeps.of (s34.trans (s44.trans s45)) (fun c=>c=h.next+1)).trans (Keeps.set (h4.add (.cells .rw (encB b))) (h.next+1) (.cells .rw (encB b)))
  exact q _ _ ⟨(s4.trans s45).set (by omega) (by rw[H.next_add];omega) hw _,.inr (.inr ⟨c,d,b,rfl,hkeep _ _ k6 (fun c hc=>by simp only[H.next_add];omega),hex,ht⟩)⟩
def spansL (b:Box)(n:Nat):List (List Int):=(List.range n).map fun(i:Nat)=>[(b (i:Int)).1,(b (i:Int)).2]
theorem spansL_len (b:Box)(n:Nat):(spansL b n).length=n:=by simp[spansL]
theorem take_B (b:Box){n:Nat}(hn:n≤12):getN 0 (n*2) (encB b)=some ((spansL b n).map (List.map iv)).flatten:=by
 have:n=0∨n=1∨n=2∨n=3∨n=4∨n=5∨n=6∨n=7∨n=8∨n=9∨n=10∨n=11∨n=12:=by omega
 rcases this with rfl|rfl|rfl|rfl|rfl|rfl|rfl|rfl|rfl|rfl|rfl|rfl|rfl<;>rfl
theorem spans_sl {h:H}{p:Nat}{b:Box}(hp:h.cells p=some (encB b)){n:Nat}(hn:n≤12):SlAt h (.sl p 0 n (.fix 12)) 2 ((spansL b n).map (List.map iv)):=by
 refine⟨fun r hr=>?_,by simp[spansL_len];omega,.inr ⟨p,0,.fix 12,_,by simp[spansL_len],.inr hp,?_⟩⟩
 ·obtain⟨s,hs,rfl⟩:=List.mem_map.1 hr
  obtain⟨i,_,rfl⟩:=List.mem_map.1 hs
  rfl
 ·rw[List.length_map,spansL_len];exact take_B b hn
theorem Bounds_own {h:H}{v:V}{m:Ml}(hw:h.wf)(hm:MlIs h v m):Ev fnG fastA (.fn 13 [] []) [v] h fun u h'=>h.Sub h'∧∃x l e,u=.tup [x,.int .i64 e]∧OwnC h h' x 2 (l.map (List.map iv))∧l.length≤12∧((check m≠0∧e=check m∧l=[])∨
  (check m=0∧(¬∃w,FeasM m allC w)∧e=7∧l=[])∨(check m=0∧∃b,ExactM m allC b∧e=0∧l=spansL b m.lots.length)):=by
 refine Ev.gen fun Q q=>?_
 have hm0:=hm
 obtain⟨L,W,rfl,aL,aW⟩:=hm
 refine Ev_body (fd:=c13) rfl rfl rfl ?_
 have hlenL:=aL.lenE
 have s2:h.Sub (h.add (.cells .rw [.int .i64 m.errs,L,W])):=(by repeat(first|assumption|exact H.Sub.refl (by assumption)|refine H.Sub.add ?_ _|refine H.Sub.set ?_ (by first|omega|(simp only[H.next_add,H.next_set,H.next_del]<;>omega)) (by first|omega|(simp only[H.next_add,H.next_set,H.next_del]<;>omega)) (by assumption) _))
 simp -implicitDefEqProofs(maxSteps:=999999)(disch:=first|with_reducible rfl|omega|(simp only[nA,nS,nD]<;>omega)|fail)only[c13,go_sem,zerosB]
 refine(told_ev s2.wf (hm0.mono s2)).mono fun u h3 hu=>?_
 obtain⟨s23,hu⟩:=hu
 have l3:=s23.next
 simp only[H.next_add] at l3
 have s3:=s2.trans s23
 have g2:h3.cells h.next=some [.int .i64 m.errs,L,W]:=s23.cells (cells_add_new rfl)
 have hz:(h3.add (.cells .rw (encB zeroB))).get h3.next=some (.cells .rw (encB zeroB)):=get_add_new rfl
 rcases hu with⟨c,rfl⟩|⟨c,hno,rfl⟩|⟨c,d,b,rfl,hd,hex,_⟩
 ·have s4:=s3.add (.cells .rw (encB zeroB))
  simp -implicitDefEqProofs(maxSteps:=999999)(disch:=first|with_reducible rfl|omega|(simp only[nA,nS,nD]<;>omega)|fail)only[go_sem,zerosB,lenB,put_B zeroB zeroB hz,c,ne_eq,not_false_eq_true]
  exact q _ _ ⟨s4,.nils,[],check m,rfl,(OwnSl.nil s4 2).c,by simp,.inl ⟨c,rfl,rfl⟩⟩
 ·have s4:=s3.add (.cells .rw (encB zeroB))
  simp -implicitDefEqProofs(maxSteps:=999999)(disch:=first|with_reducible rfl|omega|(simp only[nA,nS,nD]<;>omega)|fail)only[go_sem,zerosB,lenB,put_B zeroB zeroB hz,ne_eq,Int.reduceEq,not_false_eq_true]
  exact q _ _ ⟨s4,.nils,[],7,rfl,(OwnSl.nil s4 2).c,by simp,.inr (.inl ⟨c,hno,rfl,rfl⟩)⟩
 ·have g:=good_of c
  have gl:=g.lots
  have s4:=s3.add (.cells .rw (encB b))
  have g4:(h3.add (.cells .rw (encB b))).cells h3.next=some (encB b):=cells_add_new rfl
  have hsl:=spans_sl g4 (n:=m.lots.length) (by omega)
  simp -implicitDefEqProofs(maxSteps:=999999)(disch:=first|with_reducible rfl|omega|(simp only[nA,nS,nD]<;>omega)|fail)only[go_sem,zerosB,lenB,put_B b zeroB hz,ne_eq,not_true_eq_false,g2,hlenL,q_sla_to,slaV_int]
  refine cloneSpan_ev s4.wf hsl (by simp[spansL_len];omega) _ fun x h5 ox=>?_
  simp -implicitDefEqProofs(maxSteps:=999999)(disch:=first|with_reducible rfl|omega|(simp only[nA,nS,nD]<;>omega)|fail)only[go_sem]
  exact q _ _ ⟨s4.trans ox.1,x,_,0,rfl,ox.base s4,by rw[spansL_len];omega,.inr (.inr ⟨c,b,hex,rfl,rfl⟩)⟩
theorem Bounds_ev {h:H}{v:V}{m:Ml}(hw:h.wf)(hm:MlIs h v m):Ev fnG fastA (.fn 13 [] []) [v] h fun u h'=>h.Sub h'∧∃x l e,u=.tup [x,.int .i64 e]∧SlAt h' x 2 (l.map (List.map iv))∧((check m≠0∧e=check m∧l=[])∨
  (check m=0∧(¬∃w,FeasM m allC w)∧e=7∧l=[])∨(check m=0∧∃b,ExactM m allC b∧e=0∧l=spansL b m.lots.length)):=
 (Bounds_own hw hm).mono fun u h' hu=>by
  obtain⟨hs,x,l,e,rfl,ox,hl,spec⟩:=hu
  exact⟨hs,x,l,e,rfl,ox.sl (by simp only[List.length_map];omega),spec⟩
end Tryz
end Go.Ab
namespace Go.Ab.Tryz
open Go.Ab.Silk
theorem InvB.of {m:Ml}(g:Good m){b:Box}(ht:Tight m.lots.length (parts m) b)(hn:Nrw (ownB m allC) b)(ho:∀j:Int,¬(0≤j∧j<m.lots.length)→b j=(0,0)):∀j:Int,0≤(b j).1∧(b j).1≤10000∧0≤(b j).2∧(b j).2≤10000:=fun j=>by
 by_cases hj:0≤j∧j<m.lots.length
 ·have h1:=ht.ne j hj.1 hj.2
  have h2:=hn j
  have h3:=ownB_bd g allC j
  omega
 ·rw[ho j hj];simp
end Go.Ab.Tryz
namespace Go.Ab.Tryz
open Go.Ab.Silk
end Go.Ab.Tryz
