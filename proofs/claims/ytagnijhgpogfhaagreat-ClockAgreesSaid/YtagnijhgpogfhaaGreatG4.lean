/- The law ClockAgrees. Lists without neighbours that are the same; to what a clock can have been set, what it gains, what it shows (plain). Contracts: fits, as the law has it; Fits. Contracts: gaps that hold, readings that are missed (ref). Contracts: readings that are missed (ref). Own slices of an attic; copied, Read, Know. copied, checked, Read, Know. Contracts of the generic functions on integers. Lists of lists of integers in memory. Contracts: all times (ref). Contracts: all runs of all clocks (ref). Contract: a span made wider (ref). All truths of the reference, and those that fit (plain). Whether some truth agrees with the readings that count. Contract: Fits. Contract: Some. Contract: a truth near another one. Contract: slices.Compact on integers, with what it leaves. Contracts: the sort of integers; numbers, settled. slices.Values, slices.Collect, slices.Sorted of integers. Contract: Agree. The shortest lists, and of these the first, for which something holds: plain Lean. All rising lists of so many numbers, one by one, until one holds. Contracts: Clash and Wrong. Contracts: Clash and Wrong, whole. slices.Delete of one number. Contracts: Sets, Gains, Shows. Contract: Shows. What is told of times, and one clock more that is right (plain). More is known, and true: what is told is no wider (plain). Some readings changed: which are wrong, and which clash (plain). Numbers as sets by bits; which readings agree, by the sets that truths miss (plain). What the truths of the reference tell is what the clocks tell (plain). Lists of truths in memory. Contract: all truths (ref). Contracts: the truths that fit, and what they tell of times (ref). Contracts: what truths tell of times, wages and numbers that are shown (ref; printed by a program of ours). Contracts: which was before; to what clocks were set (ref). Contracts: bits that two sets have, whether readings agree, which list comes first, the numbers that a set names, the sets that truths miss (ref). Contracts: the sets that truths miss, listed readings, all sets gone through (ref). Contract: all sets of readings gone through (ref). Contract: whether an attic has more truths than are compared. Cells side by side; what times are told, for right attics (plain). The law ClockTimes. -/
import Derived.Test.YtagnijhgpogfhaaGreatG2
set_option linter.unusedSimpArgs false
set_option linter.unusedVariables false
namespace Go.Ab
def dd {α:Type}[DecidableEq α](l:List α):Nat→List α
 |0=>[]
 |n+1=>match l[n]? with
  |none=>dd l n
  |some x=>if 0<n∧l[n-1]? =some x then dd l n else dd l n++[x]
section
variable {α:Type} [DecidableEq α] {l:List α}
theorem dd_same {n:Nat}{x:α}(h:l[n]? =some x)(h2:0<n∧l[n-1]? =some x):dd l (n+1)=dd l n:=by simp only[dd,h];rw[if_pos h2]
theorem dd_new {n:Nat}{x:α}(h:l[n]? =some x)(h2:¬(0<n∧l[n-1]? =some x)):dd l (n+1)=dd l n++[x]:=by simp only[dd,h];rw[if_neg h2]
theorem dd_mem {x:α}:∀{n:Nat},x∈dd l n↔∃i,i<n∧l[i]? =some x
 |0=>by simp[dd]
 |n+1=>by
  have ih:=dd_mem (x:=x) (n:=n)
  cases h:l[n]? with
  |none=>
   simp only[dd,h]
   rw[ih]
   constructor
   ·rintro⟨i,hi,e⟩;exact⟨i,by omega,e⟩
   ·rintro⟨i,hi,e⟩
    by_cases hn:i=n
    ·subst hn;rw[h] at e;cases e
    ·exact⟨i,by omega,e⟩
  |some z=>
   by_cases h2:0<n∧l[n-1]? =some z
   ·rw[dd_same h h2,ih]
    constructor
    ·rintro⟨i,hi,e⟩;exact⟨i,by omega,e⟩
    ·rintro⟨i,hi,e⟩
     by_cases hn:i=n
     ·subst hn;rw[h] at e;cases e;exact⟨i-1,by omega,h2.2⟩
     ·exact⟨i,by omega,e⟩
   ·rw[dd_new h h2,List.mem_append,List.mem_singleton,ih]
    constructor
    ·rintro(⟨i,hi,e⟩|rfl)
     ·exact⟨i,by omega,e⟩
     ·exact⟨n,by omega,h⟩
    ·rintro⟨i,hi,e⟩
     by_cases hn:i=n
     ·subst hn;rw[h] at e;cases e;exact .inr rfl
     ·exact .inl ⟨i,by omega,e⟩
theorem dd_all {x:α}:x∈dd l l.length↔x∈l:=by
 rw[dd_mem,List.mem_iff_getElem?]
 constructor
 ·rintro⟨i,_,e⟩;exact⟨i,e⟩
 ·rintro⟨i,e⟩
  refine⟨i,?_,e⟩
  rcases Nat.lt_or_ge i l.length with q|q
  ·exact q
  ·rw[List.getElem?_eq_none q] at e;cases e
end
theorem dd_rise {l:List Int}(h:l.Pairwise (· ≤ ·)):∀{n:Nat},n≤l.length→(dd l n).Pairwise (· < ·)
 |0,_=>by simp[dd]
 |n+1,hn=>by
  have ih:=dd_rise h (n:=n) (by omega)
  have hx:l[n]? =some l[n]:=List.getElem?_eq_getElem (by omega)
  by_cases h2:0<n∧l[n-1]? =some l[n]
  ·rw[dd_same hx h2];exact ih
  ·rw[dd_new hx h2,List.pairwise_append]
   refine⟨ih,List.pairwise_singleton ..,fun a ha b hb=>?_⟩
   rw[List.mem_singleton] at hb;subst hb
   obtain⟨i,hi,e⟩:=dd_mem.1 ha
   have hp:=List.pairwise_iff_getElem.1 h
   rw[List.getElem?_eq_getElem (by omega)] at e
   cases e
   have h3:=hp i n (by omega) (by omega) hi
   have hm:=hp (n-1) n (by omega) (by omega) (by omega)
   have him:l[i]≤l[n-1]:=by
    by_cases e:i=n-1
    ·subst e;exact Int.le_refl _
    ·exact hp i (n-1) (by omega) (by omega) (by omega)
   have hne:l[n-1]≠l[n]:=fun e=>h2 ⟨by omega,by rw[List.getElem?_eq_getElem (by omega),e]⟩
   omega
def risL (l:List Int):List Int:=dd (sortI l) (sortI l).length
theorem risL_mem {l:List Int}{x:Int}:x∈risL l↔x∈l:=by unfold risL;rw[dd_all];exact(sortI_perm l).mem_iff
theorem risL_rise (l:List Int):(risL l).Pairwise (· < ·):=dd_rise (sortI_sorted l) (Nat.le_refl _)
namespace Tryz
open Go.Proofs
end Tryz
end Go.Ab
namespace Go.Ab.Tryz
open Go.Proofs
structure TrAt (h:H)(S G T:V)(ss gg tt:List Int):Prop where
 s:SlAt h S 1 (ss.map encI)
 g:SlAt h G 1 (gg.map encI)
 t:SlAt h T 1 (tt.map encI)
theorem TrAt.mono {h h':H}{S G T:V}{ss gg tt:List Int}(x:TrAt h S G T ss gg tt)(s:h.Sub h'):TrAt h' S G T ss gg tt:=⟨x.s.mono s,x.g.mono s,x.t.mono s⟩
end Go.Ab.Tryz
namespace Go.Ab.Tryz
open Go.Proofs
def gapB (tt:List Int)(g:Gp):Bool:=inB (timeF tt g.to.toNat-timeF tt g.fr.toNat) g.lo g.hi
def gapsB (a:At)(tt:List Int):Bool:=a.gps.all (gapB tt)
theorem all_take_ok {α:Type}{p:α→Bool}{l:List α}{i:Nat}(hi:i<l.length)(h:(l.take i).all p=true)(hp:p l[i]=true):(l.take (i+1)).all p=true:=by
 rw[List.take_add_one,List.getElem?_eq_getElem hi,List.all_append,h]
 simp[hp]
theorem all_bad {α:Type}{p:α→Bool}{l:List α}{i:Nat}(hi:i<l.length)(hp:p l[i]=false):l.all p=false:=by
 rw[←Bool.not_eq_true,List.all_eq_true]
 intro h
 rw[h _ (List.getElem_mem hi)] at hp;cases hp
set_option maxHeartbeats 2000000 in
theorem refGaps_ev {h:H}(hw:h.wf){a:At}{C R G:V}(x:AtAt h C R G a)(r:Right a){y:V}{tt:List Int}(hy:SlAt h y 1 (tt.map encI))(hl:(tt.length:Int)=a.evs)(hb:∀t∈tt,0≤t∧t≤240)(Q:V→H→Prop)(q:∀h',h.Sub h'→Q (.bool (gapsB a tt)) h'):
  Ev fnG fastA (.fn 96 [] []) [.agg (atV a C R G),y] h Q:=by
 have oC:=x.c.one;have oR:=x.r.one;have oG:=x.g.one
 have oy:=hy.one
 have hlG:=x.g.lenE
 have rl:=r.lens
 refine Ev_body (fd:=c96) rfl rfl rfl ?_
 obtain⟨z,hz⟩:∃z,h.add (.cells .rw (atV a C R G))=z:=⟨_,rfl⟩
 have sz:h.Sub z:=by rw[←hz];exact(by repeat(first|assumption|exact H.Sub.refl (by assumption)|refine H.Sub.add ?_ _|refine H.Sub.set ?_ (by first|omega|(simp only[H.next_add,H.next_set,H.next_del]<;>omega)) (by first|omega|(simp only[H.next_add,H.next_set,H.next_del]<;>omega)) (by assumption) _))
 have ga:z.get h.next=some (.cells .rw (atV a C R G)):=by rw[←hz];exact get_add_new rfl
 simp -implicitDefEqProofs(maxSteps:=999999)(disch:=first|with_reducible rfl|omega|(simp only[nA,nS,nD]<;>omega)|fail)only[c96,go_sem,oC,oR,oG]
 rw[hz]
 clear hz
 refine W_count a.gps.length (fun i s=>∃tm z',s=⟨tm,z',[]⟩∧z.Sub z'∧(a.gps.take i).all (gapB tt)=true∧(Opd.t 1).ev tm=y∧(Opd.t 2).ev tm=.ptr h.next 0∧(Opd.t 5).ev tm=.int .i64 (i:Int)) ?_ ?_ (i:=0) (Nat.zero_le _)
  ⟨_,_,rfl,H.Sub.refl sz.wf,by simp,(by simp[ev_c,ev_put]<;>rfl),(by simp[ev_c,ev_put]<;>rfl),(by simp[ev_c,ev_put]<;>rfl)⟩
 ·rintro i s hi ⟨tm,z',rfl,sz',hall,t1,t2,t5⟩
  have hi':(i:Int)<(a.gps.length:Int):=by omega
  have s0:=sz.trans sz'
  obtain⟨bG,oGG,cG,csG,_,hcG,hqG,hgG,_,_⟩:=(x.g.mono s0).at hi
  have hm:=List.getElem_mem hi
  have hok:=fun hp=>all_take_ok (p:=gapB tt) hi hall hp
  have hbad:=fun hp=>all_bad (p:=gapB tt) hi hp
  generalize a.gps[i]=g at hgG hm hok hbad
  obtain⟨fr,to,e1,e2,f1,f2,_,_⟩:=r.gpn hm
  have hfr:fr<tt.length:=by omega
  have hto:to<tt.length:=by omega
  have hbf:=hb _ (List.getElem_mem hfr)
  have hbt:=hb _ (List.getElem_mem hto)
  have vf:=timeF_at (List.getElem?_eq_getElem hfr)
  have vt:=timeF_at (List.getElem?_eq_getElem hto)
  have hgap:gapB tt g=inB (tt[to]-tt[fr]) g.lo g.hi:=by unfold gapB;rw[e1,e2,Int.toNat_natCast,Int.toNat_natCast,vf,vt]
  simp only[encG,e1,e2] at hgG
  obtain⟨z2,hz2⟩:∃z2,z'.add (.cells .rw [.int .i64 (fr:Int),.int .i64 (to:Int),.int .i64 g.lo,.int .i64 g.hi])=z2:=⟨_,rfl⟩
  have s2:z'.Sub z2:=by rw[←hz2];exact(H.Sub.refl s0.wf).add _
  have g6:z2.get z'.next=some (.cells .rw [.int .i64 (fr:Int),.int .i64 (to:Int),.int .i64 g.lo,.int .i64 g.hi]):=by rw[←hz2];exact get_add_new rfl
  have s02:=s0.trans s2
  obtain⟨bF,oF,cF,csF,_,hcF,hqF,_,_,nF⟩:=(hy.mono s02).at hfr
  obtain⟨bT,oT,cT,csT,_,hcT,hqT,_,_,nT⟩:=(hy.mono s02).at hto
  have wF:=nF (by decide)
  have wT:=nT (by decide)
  simp only[encI,List.getElem?_cons_zero] at wF wT
  generalize tt[fr]=vfr at wF hbf hgap
  generalize tt[to]=vto at wT hbt hgap
  have ws:wr .i64 (vto-vfr)=vto-vfr:=wr_in (by omega) (by omega)
  cases hg:inB (vto-vfr) g.lo g.hi with
  |true=>
   rw[hg] at hgap
   simp -implicitDefEqProofs(maxSteps:=999999)(disch:=first|with_reducible rfl|omega|(simp only[nA,nS,nD]<;>omega)|fail)only[go_sem,t1,t2,t5,hlG,hi',cells_of (sz'.get ga),hqG (nat_cst i),hcG,hgG,hz2,cells_of g6,hqF (nat_cst fr),hqT (nat_cst to),hcF,hcT,wF,wT,ws,off_eq,hg,wr_succ]
   exact⟨_,_,rfl,sz'.trans s2,hok hgap,(by simp[ev_c,ev_put,t1]<;>rfl),(by simp[ev_c,ev_put,t2]<;>rfl),(by simp[ev_c,ev_put]<;>rfl)⟩
  |false=>
   rw[hg] at hgap
   have e:gapsB a tt=false:=hbad hgap
   rw[e] at q
   simp -implicitDefEqProofs(maxSteps:=999999)(disch:=first|with_reducible rfl|omega|(simp only[nA,nS,nD]<;>omega)|fail)only[go_sem,t1,t2,t5,hlG,hi',cells_of (sz'.get ga),hqG (nat_cst i),hcG,hgG,hz2,cells_of g6,hqF (nat_cst fr),hqT (nat_cst to),hcF,hcT,wF,wT,ws,off_eq,hg]
   exact q _ s02
 ·rintro s ⟨tm,z',rfl,sz',hall,t1,t2,t5⟩
  rw[List.take_length] at hall
  have e:gapsB a tt=true:=hall
  rw[e] at q
  simp -implicitDefEqProofs(maxSteps:=999999)(disch:=first|with_reducible rfl|omega|(simp only[nA,nS,nD]<;>omega)|fail)only[go_sem,t1,t2,t5,hlG,Int.lt_irrefl,cells_of (sz'.get ga)]
  exact q _ (sz.trans sz')
end Go.Ab.Tryz
namespace Go.Ab.Tryz
open Go.Proofs
def bitI (f:Nat→Bool):Nat→Int
 |0=>0
 |i+1=>bitI f i+if f i=true then 2^i else 0
theorem bitI_bd (f:Nat→Bool):∀i,0≤bitI f i∧bitI f i<2^i
 |0=>by simp[bitI]
 |i+1=>by
  have h:=bitI_bd f i
  have e:(2:Int)^(i+1)=2*2^i:=by rw[Int.pow_succ];omega
  unfold bitI
  split<;>omega
def missB (a:At)(ss gg tt:List Int)(i:Nat):Bool:=match a.rds[i]? with
 |some r=>decide (shw (ss.getD r.ck.toNat 0) (gg.getD r.ck.toNat 0) (timeF tt r.ev.toNat)≠r.sh)
 |none=>false
def missI (a:At)(ss gg tt:List Int):Int:=bitI (missB a ss gg tt) a.rds.length
theorem pow8 {i:Nat}(h:i≤8):1≤(2:Int)^i∧(2:Int)^i≤256:=by
 rcases(by omega:i=0∨i=1∨i=2∨i=3∨i=4∨i=5∨i=6∨i=7∨i=8) with rfl|rfl|rfl|rfl|rfl|rfl|rfl|rfl|rfl<;>decide
set_option maxHeartbeats 4000000 in
theorem Missed_ev {h:H}(hw:h.wf){a:At}{C R G:V}(x:AtAt h C R G a)(r:Right a){S Ga Tm:V}{ss gg tt:List Int}(t:TrAt h S Ga Tm ss gg tt)(ls:ss.length=a.cks.length)(lg:gg.length=a.cks.length)(hl:(tt.length:Int)=a.evs)(hb:∀t∈tt,0≤t∧t≤240)
  (hrun:∀(k:Nat) s g,ss[k]? =some s→gg[k]? =some g→RunIn s g) (Q:V→H→Prop) (q:∀h',h.Sub h'→Q (.int .i64 (missI a ss gg tt)) h'):
  Ev fnG fastA (.fn 93 [] []) [.agg (atV a C R G),.agg [S,Ga,Tm]] h Q:=by
 have oC:=x.c.one;have oR:=x.r.one;have oG:=x.g.one
 have oS:=t.s.one;have oGa:=t.g.one;have oTm:=t.t.one
 have hlR:=x.r.lenE
 have rl:=r.lens
 refine Ev_body (fd:=c93) rfl rfl rfl ?_
 obtain⟨z,hz⟩:∃z,(h.add (.cells .rw (atV a C R G))).add (.cells .rw [S,Ga,Tm])=z:=⟨_,rfl⟩
 have sz:h.Sub z:=by rw[←hz];exact(by repeat(first|assumption|exact H.Sub.refl (by assumption)|refine H.Sub.add ?_ _|refine H.Sub.set ?_ (by first|omega|(simp only[H.next_add,H.next_set,H.next_del]<;>omega)) (by first|omega|(simp only[H.next_add,H.next_set,H.next_del]<;>omega)) (by assumption) _))
 have ga:z.get h.next=some (.cells .rw (atV a C R G)):=by rw[←hz];simp -implicitDefEqProofs(maxSteps:=999999)(disch:=first|with_reducible rfl|omega|(simp only[nA,nS,nD]<;>omega)|fail)only[go_sem]
 have gt:z.get (h.next+1)=some (.cells .rw [S,Ga,Tm]):=by rw[←hz];simp -implicitDefEqProofs(maxSteps:=999999)(disch:=first|with_reducible rfl|omega|(simp only[nA,nS,nD]<;>omega)|fail)only[go_sem]
 simp -implicitDefEqProofs(maxSteps:=999999)(disch:=first|with_reducible rfl|omega|(simp only[nA,nS,nD]<;>omega)|fail)only[c93,go_sem,oC,oR,oG,oS,oGa,oTm]
 rw[hz]
 clear hz
 refine W_count a.rds.length (fun i s=>∃tm z',s=⟨tm,z',[]⟩∧z.Sub z'∧(Opd.t 2).ev tm=.ptr h.next 0∧(Opd.t 3).ev tm=.ptr (h.next+1) 0∧(Opd.t 5).ev tm=.int .i64 (bitI (missB a ss gg tt) i)∧(Opd.t 6).ev tm=.int .i64 (2^i)∧(Opd.t 7).ev tm=.int .i64 (i:Int)) ?_ ?_ (i:=0) (Nat.zero_le _)
  ⟨_,_,rfl,H.Sub.refl sz.wf,(by simp[ev_c,ev_put]<;>rfl),(by simp[ev_c,ev_put]<;>rfl),(by simp[ev_c,ev_put]<;>rfl),(by simp[ev_c,ev_put]<;>rfl),(by simp[ev_c,ev_put]<;>rfl)⟩
 ·rintro i s hi ⟨tm,z',rfl,sz',t2,t3,t5,t6,t7⟩
  have hi':(i:Int)<(a.rds.length:Int):=by omega
  have s0:=sz.trans sz'
  obtain⟨bR,oRR,cR,csR,_,hcR,hqR,hgR,_,_⟩:=(x.r.mono s0).at hi
  have hm:=List.getElem_mem hi
  have hg0:a.rds[i]? =some a.rds[i]:=List.getElem?_eq_getElem hi
  generalize a.rds[i]=rr at hgR hm hg0
  obtain⟨k,e,e1,e2,f1,f2,_⟩:=r.rdn hm
  have hkS:k<ss.length:=by omega
  have hkG:k<gg.length:=by omega
  have hel:e<tt.length:=by omega
  have hbt:=hb _ (List.getElem_mem hel)
  have vt:=timeF_at (List.getElem?_eq_getElem hel)
  have hrn:=hrun k _ _ (List.getElem?_eq_getElem hkS) (List.getElem?_eq_getElem hkG)
  have gS:ss.getD k 0=ss[k]:=by rw[List.getD_eq_getElem?_getD,List.getElem?_eq_getElem hkS];rfl
  have gG:gg.getD k 0=gg[k]:=by rw[List.getD_eq_getElem?_getD,List.getElem?_eq_getElem hkG];rfl
  have hms:missB a ss gg tt i=decide (shw ss[k] gg[k] tt[e]≠rr.sh):=by unfold missB;rw[hg0];simp only[e1,e2,Int.toNat_natCast,gS,gG,vt]
  simp only[encR,e1,e2] at hgR
  obtain⟨z2,hz2⟩:∃z2,z'.add (.cells .rw [.int .i64 (k:Int),.int .i64 (e:Int),.int .i64 rr.sh])=z2:=⟨_,rfl⟩
  have s2:z'.Sub z2:=by rw[←hz2];exact(H.Sub.refl s0.wf).add _
  have g8:z2.get z'.next=some (.cells .rw [.int .i64 (k:Int),.int .i64 (e:Int),.int .i64 rr.sh]):=by rw[←hz2];exact get_add_new rfl
  have s02:=s0.trans s2
  have gt2:=(sz'.trans s2).get gt
  obtain⟨bS,oSS,cS,csS,_,hcS,hqS,_,_,nS⟩:=(t.s.mono s02).at hkS
  obtain⟨bG,oGG,cG,csG,_,hcG,hqG,_,_,nG⟩:=(t.g.mono s02).at hkG
  obtain⟨bT,oTT,cT,csT,_,hcT,hqT,_,_,nT⟩:=(t.t.mono s02).at hel
  have wS:=nS (by decide)
  have wG:=nG (by decide)
  have wT:=nT (by decide)
  simp only[encI,List.getElem?_cons_zero] at wS wG wT
  generalize ss[k]=sk at wS hrn hms
  generalize gg[k]=gk at wG hrn hms
  generalize tt[e]=te at wT hbt hms
  have hp:=pow8 (i:=i) (by omega)
  have hbi:=bitI_bd (missB a ss gg tt) i
  have e3:(2:Int)^(i+1)=2*2^i:=by rw[Int.pow_succ];omega
  have w2:wr .i64 (2*2^i)=2^(i+1):=by rw[e3];exact wr_in (by omega) (by omega)
  have w5:wr .i64 (bitI (missB a ss gg tt) i+2^i)=bitI (missB a ss gg tt) i+2^i:=wr_in (by omega) (by omega)
  simp -implicitDefEqProofs(maxSteps:=999999)(disch:=first|with_reducible rfl|omega|(simp only[nA,nS,nD]<;>omega)|fail)only[go_sem,t2,t3,t5,t6,t7,hlR,hi',cells_of (sz'.get ga),hqR (nat_cst i),hcR,hgR,hz2,cells_of g8,cells_of gt2,hqS (nat_cst k),hqG (nat_cst k),hqT (nat_cst e),hcS,hcG,hcT,wS,wG,wT]
  try rw[hz2]
  clear hz2
  refine refShown_ev s02.wf hrn hbt.1 hbt.2 _ ?_
  by_cases hc:shw sk gk te=rr.sh
  ·have hmf:missB a ss gg tt i=false:=by rw[hms];simp[hc]
   have hb1:bitI (missB a ss gg tt) (i+1)=bitI (missB a ss gg tt) i:=by rw[bitI,hmf];simp
   simp -implicitDefEqProofs(maxSteps:=999999)(disch:=first|with_reducible rfl|omega|(simp only[nA,nS,nD]<;>omega)|fail)only[go_sem,t2,t3,t5,t6,t7,hc,ne_eq,not_true_eq_false,decide_true,decide_false,cells_of g8,cells_of gt2,hcS,hcG,hcT,wS,wG,wT,w2,wr_succ]
   exact⟨_,_,rfl,sz'.trans s2,(by simp[ev_c,ev_put,t2]<;>rfl),(by simp[ev_c,ev_put,t3]<;>rfl),by rw[hb1];exact(by simp[ev_c,ev_put,t5]<;>rfl),(by simp[ev_c,ev_put]<;>rfl),(by simp[ev_c,ev_put]<;>rfl)⟩
  ·have hmf:missB a ss gg tt i=true:=by rw[hms];simp[hc]
   have hb1:bitI (missB a ss gg tt) (i+1)=bitI (missB a ss gg tt) i+2^i:=by rw[bitI,hmf];simp
   simp -implicitDefEqProofs(maxSteps:=999999)(disch:=first|with_reducible rfl|omega|(simp only[nA,nS,nD]<;>omega)|fail)only[go_sem,t2,t3,t5,t6,t7,hc,ne_eq,not_false_eq_true,decide_true,decide_false,cells_of g8,cells_of gt2,hcS,hcG,hcT,wS,wG,wT,w2,w5,wr_succ]
   exact⟨_,_,rfl,sz'.trans s2,(by simp[ev_c,ev_put,t2]<;>rfl),(by simp[ev_c,ev_put,t3]<;>rfl),by rw[hb1];exact(by simp[ev_c,ev_put]<;>rfl),(by simp[ev_c,ev_put]<;>rfl),(by simp[ev_c,ev_put]<;>rfl)⟩
 ·rintro s ⟨tm,z',rfl,sz',t2,t3,t5,t6,t7⟩
  simp -implicitDefEqProofs(maxSteps:=999999)(disch:=first|with_reducible rfl|omega|(simp only[nA,nS,nD]<;>omega)|fail)only[go_sem,t2,t3,t5,t6,t7,hlR,Int.lt_irrefl,cells_of (sz'.get ga)]
  exact q _ (sz.trans sz')
end Go.Ab.Tryz
namespace Go.Ab
theorem a_msl_nm {h:H}{by_ n m:Nat}{z:List V}(h0:n≤m)(h1:m*by_≤1099511627776)(h2:m≤1099511627776):
  a_msl h by_ z (.int .i64 (n:Int)) (.int .i64 (m:Int))=some (.sl h.next 0 n (.fix m),h.add (.cells .rw (repN m z))):=by
 have e1:Nat.ble (m*by_) 1099511627776=true:=by simpa using h1
 have e2:Nat.ble m 1099511627776=true:=by simpa using h2
 have e3:Nat.ble n m=true:=by simpa using h0
 simp only[a_msl,nat_cst,e1,e2,e3,og_true,lf_eq]
end Go.Ab
namespace Go.Ab.Tryz
open Go.Proofs
structure AtOw (h0 h:H)(C R G:V)(a:At):Prop where
 c:OwnC h0 h C 4 (a.cks.map encC)
 r:OwnC h0 h R 3 (a.rds.map encR)
 g:OwnC h0 h G 4 (a.gps.map encG)
 cr:∀b,blkOf C b→¬blkOf R b
 cg:∀b,blkOf C b→¬blkOf G b
 rg:∀b,blkOf R b→¬blkOf G b
variable {h0 h1 h h':H} {C R G:V} {a:At}
theorem AtOw.sub (o:AtOw h0 h C R G a):h0.Sub h:=o.c.1
theorem AtOw.at_ (o:AtOw h0 h C R G a)(l:SmallA a):AtAt h C R G a:=
 ⟨o.c.sl (by rw[List.length_map];have:=l.c;omega),o.r.sl (by rw[List.length_map];have:=l.r;omega),o.g.sl (by rw[List.length_map];have:=l.g;omega)⟩
theorem AtOw.mono (o:AtOw h0 h C R G a)(s:h.Sub h'):AtOw h0 h' C R G a:=⟨o.c.mono s,o.r.mono s,o.g.mono s,o.cr,o.cg,o.rg⟩
theorem AtOw.base (o:AtOw h1 h C R G a)(s:h0.Sub h1):AtOw h0 h C R G a:=⟨o.c.base s,o.r.base s,o.g.base s,o.cr,o.cg,o.rg⟩
def atBlk (C R G:V)(b:Nat):Prop:=blkOf C b∨blkOf R b∨blkOf G b
theorem AtOw.blk (o:AtOw h0 h C R G a){b:Nat}(hb:atBlk C R G b):h0.next≤b∧b<h.next:=by
 rcases hb with hb|hb|hb
 ·exact⟨(o.c.blk hb).1,(o.c.blk hb).2.1⟩
 ·exact⟨(o.r.blk hb).1,(o.r.blk hb).2.1⟩
 ·exact⟨(o.g.blk hb).1,(o.g.blk hb).2.1⟩
theorem AtOw.keep (o:AtOw h0 h C R G a){S:Nat→Prop}(k:Keeps S h h')(s:h0.Sub h')(n:∀b,atBlk C R G b→¬S b):AtOw h0 h' C R G a:=
 ⟨o.c.keep k s fun b hb=>n b (.inl hb),o.r.keep k s fun b hb=>n b (.inr (.inl hb)),o.g.keep k s fun b hb=>n b (.inr (.inr hb)),o.cr,o.cg,o.rg⟩
theorem OwnC.full {sz n b:Nat}{x:V}{rows:List (List V)}(hs:h0.Sub h)(hx:x=.sl b 0 n (.fix n))(hn:n=rows.length)(hr:∀r∈rows,r.length=sz)(l1:h0.next≤b)(l2:b<h.next)(hg:h.get b=some (.cells .rw rows.flatten)):OwnC h0 h x sz rows:=by
 subst hn
 exact⟨hs,hr,.inr (.inr ⟨b,rows.length,[],hx,l1,l2,by rw[List.append_nil];exact hg,by rw[List.length_nil,Nat.add_zero],Nat.le_refl _⟩)⟩
theorem AtNew.ow (n:AtNew h0 h C R G a):AtOw h0 h C R G a:=by
 obtain⟨b1,b2,b3,rfl,rfl,rfl,l0,l1,l2,l3,g1,g2,g3⟩:=n.is
 refine⟨OwnC.full n.s rfl (by simp) (fun r hr=>by obtain⟨c,_,rfl⟩:=List.mem_map.1 hr;rfl) (by omega) (by omega) g1,OwnC.full n.s rfl (by simp) (fun r hr=>by obtain⟨c,_,rfl⟩:=List.mem_map.1 hr;rfl) (by omega) (by omega) g2,
  OwnC.full n.s rfl (by simp) (fun r hr=>by obtain⟨c,_,rfl⟩:=List.mem_map.1 hr;rfl) (by omega) (by omega) g3,?_,?_,?_⟩<;>(rintro b ⟨_,_,_,e⟩ ⟨_,_,_,e'⟩;cases e;cases e';omega)
def At.none:At:=⟨0,0,[],[],[]⟩
theorem AtOw.none (s:h0.Sub h):AtOw h0 h .nils .nils .nils At.none:=⟨(OwnSl.nil s 4).c,(OwnSl.nil s 3).c,(OwnSl.nil s 4).c,fun b hb=>(blkOf_nils hb).elim,fun b hb=>(blkOf_nils hb).elim,fun b hb=>(blkOf_nils hb).elim⟩
end Go.Ab.Tryz
namespace Go.Ab.Tryz
open Go.Proofs
end Go.Ab.Tryz
namespace Go.Ab.Tryz
open Go.Proofs
theorem indexFuncInt_ev {l:List Int}{p:Int→Bool}{h:H}{x f:V}(hw:h.wf)(hx:SlAt h x 1 (l.map encI))(hp:∀a∈l,PureA h f [.int .i64 a] (.bool (p a))):
  E (.fn 143 [] []) [x,f] h fun v h'=>v=.int .i64 (fidx p l 0)∧h.Sub h':=by
 have hb:=hx.boundE
 refine Ev_body (fd:=c143) rfl rfl rfl ?_
 simp -implicitDefEqProofs(maxSteps:=999999)(disch:=first|with_reducible rfl|omega|(simp only[nA,nS,nD]<;>omega)|fail)only[c143,go_sem,hx.lenE]
 refine W_count l.length (fun i s=>∃tm h',s=⟨tm,h',[]⟩∧h.Sub h'∧(Opd.t 0).ev tm=x∧(Opd.t 1).ev tm=f∧(Opd.t 7).ev tm=.int .i64 (l.length:Int)∧(Opd.t 8).ev tm=.int .i64 (i:Int)∧fidx p l 0=fidx p (l.drop i) i)
  ?_ ?_ (i:=0) (Nat.zero_le _) ⟨_,_,rfl,H.Sub.refl hw,(by simp[ev_c,ev_put]<;>rfl),(by simp[ev_c,ev_put]<;>rfl),(by simp[ev_c,ev_put]<;>rfl),(by simp only[ev_put];rfl),rfl⟩
 ·rintro i s hi ⟨tm,h',rfl,hs,e0,e1,e7,e8,e9⟩
  have hi':(i:Int)<(l.length:Int):=by omega
  obtain⟨b,o,c,cs,rfl,hc,hq,hg,hn,hn0⟩:=(hx.mono hs).at hi
  simp -implicitDefEqProofs(maxSteps:=999999)(disch:=first|with_reducible rfl|omega|(simp only[nA,nS,nD]<;>omega)|fail)only[go_sem,e0,e1,e7,e8,hi',hq (nat_cst i),hc,hn0 (by omega),encI]
  refine(hp _ (List.getElem_mem hi)).use hs fun h2 hs2=>?_
  cases hpr:p l[i] with
  |true=>
   simp -implicitDefEqProofs(maxSteps:=999999)(disch:=first|with_reducible rfl|omega|(simp only[nA,nS,nD]<;>omega)|fail)only[go_sem,e0,e1,e7,e8]
   exact⟨by rw[e9,fidx_hit hi hpr],hs.trans hs2⟩
  |false=>
   simp -implicitDefEqProofs(maxSteps:=999999)(disch:=first|with_reducible rfl|omega|(simp only[nA,nS,nD]<;>omega)|fail)only[go_sem,e0,e1,e7,e8,wr_succ]
   exact⟨_,_,rfl,hs.trans hs2,(by simp[ev_c,ev_put,e0]<;>rfl),(by simp[ev_c,ev_put,e1]<;>rfl),(by simp[ev_c,ev_put,e7]<;>rfl),(by simp[ev_c,ev_put]<;>rfl),by rw[e9,fidx_miss hi hpr]⟩
 ·rintro s ⟨tm,h',rfl,hs,e0,e1,e7,e8,e9⟩
  simp -implicitDefEqProofs(maxSteps:=999999)(disch:=first|with_reducible rfl|omega|(simp only[nA,nS,nD]<;>omega)|fail)only[go_sem,e0,e1,e7,e8,Int.lt_irrefl]
  exact⟨by rw[e9];simp[fidx],hs⟩
theorem containsFuncInt_ev {l:List Int}{p:Int→Bool}{h:H}{x f:V}(hw:h.wf)(hx:SlAt h x 1 (l.map encI))(hp:∀a∈l,PureA h f [.int .i64 a] (.bool (p a))):
  E (.fn 58 [] []) [x,f] h fun v h'=>v=.bool (l.any p)∧h.Sub h':=by
 refine Ev_body (fd:=c58) rfl rfl rfl ?_
 simp -implicitDefEqProofs(maxSteps:=999999)(disch:=first|with_reducible rfl|omega|(simp only[nA,nS,nD]<;>omega)|fail)only[c58,go_sem]
 refine(indexFuncInt_ev hw hx hp).mono fun v h' hv=>?_
 obtain⟨rfl,hs⟩:=hv
 simp -implicitDefEqProofs(maxSteps:=999999)(disch:=first|with_reducible rfl|omega|(simp only[nA,nS,nD]<;>omega)|fail)only[go_sem]
 exact⟨by rw[fidx_any],hs⟩
theorem everyInt_ev {l:List Int}{p:Int→Bool}{h:H}{x:V}{g:FuncId}{u w:List V}(hw:h.wf)(hx:SlAt h x 1 (l.map encI))(hp:∀a∈l,PureA h (.fn g u w) [.int .i64 a] (.bool (p a))):
  E (.fn 112 [] []) [x,.fn g u w] h fun v h'=>v=.bool (l.all p)∧h.Sub h':=by
 refine Ev_body (fd:=c112) rfl rfl rfl ?_
 simp -implicitDefEqProofs(maxSteps:=999999)(disch:=first|with_reducible rfl|omega|(simp only[nA,nS,nD]<;>omega)|fail)only[c112,go_sem]
 have hs1:h.Sub (h.add (.cells .rw [.fn g u w])):=(H.Sub.refl hw).add _
 refine(containsFuncInt_ev (p:=fun a=> !p a) hs1.wf (hx.mono hs1) fun a ha h2 hs2=>?_).mono fun v h' hv=>?_
 ·have hc:h2.cells h.next=some [.fn g u w]:=hs2.cells (cells_add_new rfl)
  have hl:h.next<h2.next:=by have:=hs2.next;rw[H.next_add] at this;omega
  refine Ev_body (fd:=c159) rfl rfl rfl ?_
  simp -implicitDefEqProofs(maxSteps:=999999)(disch:=first|with_reducible rfl|omega|(simp only[nA,nS,nD]<;>omega)|fail)only[c159,go_sem,hc]
  refine((hp a ha).mono hs1).use hs2 fun h3 hs3=>?_
  simp -implicitDefEqProofs(maxSteps:=999999)(disch:=first|with_reducible rfl|omega|(simp only[nA,nS,nD]<;>omega)|fail)only[go_sem]
  exact hs3
 ·obtain⟨rfl,hs⟩:=hv
  simp -implicitDefEqProofs(maxSteps:=999999)(disch:=first|with_reducible rfl|omega|(simp only[nA,nS,nD]<;>omega)|fail)only[go_sem]
  exact⟨by rw[any_not],hs1.trans hs⟩
theorem indexInt_ev {l:List Int}{h:H}{x:V}(hw:h.wf)(hx:SlAt h x 1 (l.map encI))(e:Int):
  E (.fn 142 [] []) [x,.int .i64 e] h fun v h'=>v=.int .i64 (fidx (fun r=>decide (e=r)) l 0)∧h.Sub h':=by
 have hb:=hx.boundE
 refine Ev_body (fd:=c142) rfl rfl rfl ?_
 simp -implicitDefEqProofs(maxSteps:=999999)(disch:=first|with_reducible rfl|omega|(simp only[nA,nS,nD]<;>omega)|fail)only[c142,go_sem,hx.lenE]
 refine W_count l.length (fun i s=>∃tm h',s=⟨tm,h',[]⟩∧h.Sub h'∧(Opd.t 0).ev tm=x∧(Opd.t 1).ev tm=.int .i64 e∧(Opd.t 7).ev tm=.int .i64 (l.length:Int)∧(Opd.t 8).ev tm=.int .i64 (i:Int)∧fidx (fun r=>decide (e=r)) l 0=fidx (fun r=>decide (e=r)) (l.drop i) i)
  ?_ ?_ (i:=0) (Nat.zero_le _) ⟨_,_,rfl,H.Sub.refl hw,(by simp[ev_c,ev_put]<;>rfl),(by simp[ev_c,ev_put]<;>rfl),(by simp[ev_c,ev_put]<;>rfl),(by simp[ev_c,ev_put]<;>rfl),rfl⟩
 ·rintro i s hi ⟨tm,h',rfl,hs,e0,e1,e7,e8,e9⟩
  have hi':(i:Int)<(l.length:Int):=by omega
  obtain⟨b,o,c,cs,rfl,hc,hq,hg,hn,hn0⟩:=(hx.mono hs).at hi
  have hv:=hn0 (by omega)
  simp only[encI] at hv
  simp -implicitDefEqProofs(maxSteps:=999999)(disch:=first|with_reducible rfl|omega|(simp only[nA,nS,nD]<;>omega)|fail)only[go_sem,e0,e1,e7,e8,hi',hq (nat_cst i),hc,hv]
  by_cases hpr:e=l[i]
  ·have hd:decide (e=l[i])=true:=decide_eq_true hpr
   simp -implicitDefEqProofs(maxSteps:=999999)(disch:=first|with_reducible rfl|omega|(simp only[nA,nS,nD]<;>omega)|fail)only[go_sem,e0,e1,e7,e8,hd,hpr]
   exact⟨by first|rw[e9,fidx_hit hi hd]|(rw[←hpr];rw[e9,fidx_hit hi hd]),hs⟩
  ·have hd:decide (e=l[i])=false:=decide_eq_false hpr
   simp -implicitDefEqProofs(maxSteps:=999999)(disch:=first|with_reducible rfl|omega|(simp only[nA,nS,nD]<;>omega)|fail)only[go_sem,e0,e1,e7,e8,hd,hpr,wr_succ]
   exact⟨_,_,rfl,hs,(by simp[ev_c,ev_put,e0]<;>rfl),(by simp[ev_c,ev_put,e1]<;>rfl),(by simp[ev_c,ev_put,e7]<;>rfl),(by simp[ev_c,ev_put]<;>rfl),by rw[e9,fidx_miss hi hd]⟩
 ·rintro s ⟨tm,h',rfl,hs,e0,e1,e7,e8,e9⟩
  simp -implicitDefEqProofs(maxSteps:=999999)(disch:=first|with_reducible rfl|omega|(simp only[nA,nS,nD]<;>omega)|fail)only[go_sem,e0,e1,e7,e8,Int.lt_irrefl]
  exact⟨by rw[e9];simp[fidx],hs⟩
theorem hasInt_ev {l:List Int}{h:H}{x:V}(hw:h.wf)(hx:SlAt h x 1 (l.map encI))(e:Int)(Q:V→H→Prop)(q:∀h',h.Sub h'→Q (.bool (l.any fun r=>decide (e=r))) h'):
  Ev fnG fastA (.fn 57 [] []) [x,.int .i64 e] h Q:=by
 refine Ev_body (fd:=c57) rfl rfl rfl ?_
 simp -implicitDefEqProofs(maxSteps:=999999)(disch:=first|with_reducible rfl|omega|(simp only[nA,nS,nD]<;>omega)|fail)only[c57,go_sem]
 refine(indexInt_ev hw hx e).mono fun v h' hv=>?_
 obtain⟨rfl,hs⟩:=hv
 simp -implicitDefEqProofs(maxSteps:=999999)(disch:=first|with_reducible rfl|omega|(simp only[nA,nS,nD]<;>omega)|fail)only[go_sem]
 rw[fidx_any]
 exact q _ hs
theorem dupInt_ev {h:H}{x:V}{l:List Int}(hw:h.wf)(hx:SlAt h x 1 (l.map encI))(hl:l.length≤1000000)(Q:V→H→Prop):
  Ev fnG fastA (.fn 40 [] []) [x] h Q=Q (.sl h.next 0 l.length (.fix l.length)) (h.add (.cells .rw (l.map encI).flatten)):=by
 refine Ev.det (Ev_body (fd:=c40) rfl rfl rfl ?_) Q
 simp -implicitDefEqProofs(maxSteps:=999999)(disch:=first|with_reducible rfl|omega|(simp only[nA,nS,nD]<;>omega)|fail)only[c40,go_sem,hx.lenE,a_msl_0n]
 have:=dup_core (by_:=8) (z:=[.int .i64 0]) hx hw rfl (by omega) (allOne_flat (fun a=>rfl) l)
 rw[List.length_map] at this
 simp -implicitDefEqProofs(maxSteps:=999999)(disch:=first|with_reducible rfl|omega|(simp only[nA,nS,nD]<;>omega)|fail)only[go_sem,this]
theorem cloneInt_ev {h:H}{x:V}{rows:List (List V)}(hw:h.wf)(hx:SlAt h x 1 rows)(hl:rows.length≤1000000)(Q:V→H→Prop)(q:∀v h',OwnC h h' v 1 rows→Q v h'):Ev fnG fastA (.fn 153 [] []) [x] h Q:=by
 refine Ev_body (fd:=c153) rfl rfl rfl ?_
 rcases hx.2.2 with⟨rfl,e⟩|⟨b,o,c,cs,rfl,_⟩
 ·simp -implicitDefEqProofs(maxSteps:=999999)(disch:=first|with_reducible rfl|omega|(simp only[nA,nS,nD]<;>omega)|fail)only[c153,go_sem]
  exact q _ _ (by rw[e];exact(OwnSl.nil (H.Sub.refl hw) 1).c)
 ·simp -implicitDefEqProofs(maxSteps:=999999)(disch:=first|with_reducible rfl|omega|(simp only[nA,nS,nD]<;>omega)|fail)only[c153,go_sem]
  refine clone_core hw hx (by omega) (by omega) fun v h' ov=>?_
  simp -implicitDefEqProofs(maxSteps:=999999)(disch:=first|with_reducible rfl|omega|(simp only[nA,nS,nD]<;>omega)|fail)only[go_sem]
  exact q _ _ ov
end Go.Ab.Tryz
namespace Go.Ab.Tryz
open Go.Proofs
theorem sl_noInt {h:H}{x:V}{sz:Nat}{rows:List (List V)}(a:SlAt h x sz rows)(k:IntKind)(m:Int):x≠.int k m:=by
 rcases a.2.2 with⟨e,_⟩|⟨_,_,_,_,e,_⟩<;>rw[e]<;>simp
theorem ints_keep {h h':H}{S:Nat→Prop}{x:V}{l:List Int}(w:SlAt h x 1 (l.map encI))(k:Keeps S h h')(n:∀b cs,S b→h.cells b=some cs→∀m,V.int .i64 m ∉cs):SlAt h' x 1 (l.map encI):=by
 obtain⟨a1,a0,a2⟩:=w
 refine⟨a1,a0,?_⟩
 rcases a2 with a2|⟨b,o,c,cs,e1,e2,e3⟩
 ·exact .inl a2
 ·refine .inr ⟨b,o,c,cs,e1,?_,e3⟩
  cases hm:l with
  |nil=>exact .inl (by simp)
  |cons m ms'=>
   rw[hm] at e2 e3
   refine .inr ?_
   have e2:=e2.resolve_left (by simp)
   refine k.cells e2 fun hs=>n b cs hs e2 m ?_
   have h1:=(getN_eq.1 e3).1
   have h2:V.int .i64 m∈(((m::ms').map encI).flatten):=by simp[encI]
   rw[h1] at h2
   exact List.mem_of_mem_drop (List.mem_of_mem_take h2)
def Up (n:Nat)(x:V):Prop:=∀b,blkOf x b→n≤b
theorem Up.nils (n:Nat):Up n .nils:=fun b h=>(blkOf_nils h).elim
theorem Up.low {n n':Nat}{x:V}(u:Up n x)(h:n'≤n):Up n' x:=fun b hb=>Nat.le_trans h (u b hb)
theorem Up.sl {n b o k:Nat}{c:Cap}(h:n≤b):Up n (.sl b o k c):=fun b' ⟨_,_,_,e⟩=>by cases e;exact h
theorem ownUp {h0 h:H}{x:V}{sz:Nat}{rows:List (List V)}(a:OwnSl h0 h x sz rows):Up h0.next x:=fun b hb=>(a.blk hb).1
theorem slKeepU {h h':H}{S:Nat→Prop}{x:V}{sz n:Nat}{rows:List (List V)}(w:SlAt h x sz rows)(u:Up n x)(k:Keeps S h h')(hS:∀b,S b→b<n):SlAt h' x sz rows:=by
 obtain⟨a1,a0,a2⟩:=w
 refine⟨a1,a0,?_⟩
 rcases a2 with a2|⟨b,o,c,cs,e1,e2,e3⟩
 ·exact .inl a2
 ·refine .inr ⟨b,o,c,cs,e1,e2.imp id fun e2=>k.cells e2 fun hs=>?_,e3⟩
  have h1:=hS b hs
  have h2:=u b ⟨_,_,_,e1⟩
  omega
structure LL (h0 h:H)(y:V)(L:List (List Int))(vs:List V):Prop where
 o:OwnSl h0 h y 1 (vs.map fun v=>[v])
 len:vs.length=L.length
 e:∀(i:Nat) (v:V) (l:List Int),vs[i]? =some v→L[i]? =some l→SlAt h v 1 (l.map encI)
 u:∀v∈vs,Up h0.next v
variable {h0 h h':H} {y:V} {L:List (List Int)} {vs:List V}
theorem LL.mono (k:LL h0 h y L vs)(s:h.Sub h'):LL h0 h' y L vs:=⟨k.o.mono s,k.len,fun i v l h1 h2=>(k.e i v l h1 h2).mono s,k.u⟩
theorem LL.nil (s:h0.Sub h):LL h0 h .nils [] []:=⟨OwnSl.nil s 1,rfl,fun i v l h1 _=>by simp at h1,fun v hv=>by cases hv⟩
theorem LL.vs_noInt (k:LL h0 h y L vs):∀v∈vs,∀m,v≠.int .i64 m:=fun v hv m=>by
 obtain⟨i,hi,e⟩:=List.getElem_of_mem hv
 have h1:vs[i]? =some v:=by rw[List.getElem?_eq_getElem hi,e]
 have hi2:i<L.length:=by rw[←k.len];exact hi
 have h2:L[i]? =some L[i]:=List.getElem?_eq_getElem hi2
 exact sl_noInt (k.e i v _ h1 h2) _ _
theorem flat_single:∀vs:List V,(vs.map fun v=>[v]).flatten=vs
 |[]=>rfl
 |a::l=>by rw[List.map_cons,List.flatten_cons,flat_single l];rfl
theorem LL.one (k:LL h0 h y L vs):∀v∈vs,v.one=true:=fun v hv=>by
 obtain⟨i,hi,e⟩:=List.getElem_of_mem hv
 have h1:vs[i]? =some v:=by rw[List.getElem?_eq_getElem hi,e]
 have hi2:i<L.length:=by rw[←k.len];exact hi
 have h2:L[i]? =some L[i]:=List.getElem?_eq_getElem hi2
 exact(k.e i v _ h1 h2).one
theorem LL.push (k:LL h0 h y L vs)(hw0:h0.wf)(hl:L.length≤1000000){h1:H}(s:h.Sub h1){v:V}{l:List Int}(hv:SlAt h1 v 1 (l.map encI))(hu:Up h0.next v){Q:V→H→Prop}(q:∀y' h',LL h0 h' y' (L++[l]) (vs++[v])→Q y' h'):
  P2 (e_app' (h1.add (.cells .rw [v])) 1 24 y (.sl h1.next 0 1 (.fix 1))) Q:=by
 have s2:=(H.Sub.refl s.wf).add (.cells .rw [v])
 have k2:=k.mono (s.trans s2)
 have hv2:=hv.mono s2
 have hlen:=k.len
 refine k2.o.app1 (by_:=24) (r:=[v]) hw0 rfl (by omega) (SlAt.new _ rfl rfl (by simp) (by simp) (by simp)) (by rw[allOne_cons,hv.one];rfl) (by rw[List.length_map];omega) (by rw[List.length_map];omega) fun h' o' kk _=>q _ _ ⟨by rw[List.map_append];exact o',by simp[hlen],fun i v' l' e1 e2=>?_,fun v' hv'=>?_⟩
 rotate_left
 ·rcases List.mem_append.1 hv' with hv'|hv'
  ·exact k.u v' hv'
  ·rw[List.mem_singleton] at hv';rw[hv'];exact hu
 have hno:∀b cs,blkOf y b→(h1.add (.cells .rw [v])).cells b=some cs→∀m,V.int .i64 m ∉cs:=fun b cs hb hc=>by
  rcases k2.o.2.2 with⟨e,_⟩|⟨b2,e,_,_,g⟩
  ·rw[e] at hb;exact(blkOf_nils hb).elim
  ·obtain⟨o,n,c,e2⟩:=hb
   rw[e] at e2;cases e2
   rw[cells_of g] at hc;cases hc
   rw[flat_single]
   exact fun m hm=>k.vs_noInt _ hm m rfl
 rcases mem_get_app.1 e1 with e1|⟨q1,rfl⟩
 ·rcases mem_get_app.1 e2 with e2|⟨q2,_⟩
  ·exact ints_keep (k2.e i v' l' e1 e2) kk hno
  ·have:=getl e1;omega
 ·rcases mem_get_app.1 e2 with e2|⟨_,rfl⟩
  ·have:=getl e2;omega
  ·exact ints_keep hv2 kk hno
def LR (n:Nat)(h:H)(y:V)(L:List (List Int)):Prop:=∃vs:List V,SlAt h y 1 (vs.map fun v=>[v])∧vs.length=L.length∧(∀(i:Nat) (v:V) (l:List Int),vs[i]? =some v→L[i]? =some l→SlAt h v 1 (l.map encI))∧Up n y∧∀v∈vs,Up n v
theorem LL.rd (k:LL h0 h y L vs)(hl:L.length≤1000000):LR h0.next h y L:=⟨vs,k.o.c.sl (by rw[List.length_map,k.len];omega),k.len,k.e,(ownUp k.o),k.u⟩
variable {n n':Nat}
theorem LR.mono (k:LR n h y L)(s:h.Sub h'):LR n h' y L:=by
 obtain⟨vs,k1,k2,k3,k4⟩:=k
 exact⟨vs,k1.mono s,k2,fun i v l h1 h2=>(k3 i v l h1 h2).mono s,k4⟩
theorem LR.low (k:LR n h y L)(s:n'≤n):LR n' h y L:=by
 obtain⟨vs,k1,k2,k3,k4,k5⟩:=k
 exact⟨vs,k1,k2,k3,k4.low s,fun v hv=>(k5 v hv).low s⟩
theorem LR.lenE (k:LR n h y L):q_len y=some (.int .i64 (L.length:Int)):=by
 obtain⟨vs,k1,k2,k3⟩:=k
 have:=k1.lenE
 rw[←k2];exact this
theorem LR.at_ (k:LR n h y L){i:Nat}(hi:i<L.length):∃b o cs v,h.cells b=some cs∧(∀{u:V},nat? u=some i→q_iad 1 y u=some (.ptr b o))∧nth o cs=some v∧SlAt h v 1 (L[i].map encI)∧Up n v:=by
 obtain⟨vs,k1,k2,k3,k4,k5⟩:=k
 have hi2:i<vs.length:=by rw[k2];exact hi
 obtain⟨b,o,c,cs,_,hc,hq,_,_,hn⟩:=k1.at hi2
 have v0:=hn (by decide)
 simp only[List.getElem?_cons_zero] at v0
 exact⟨b,_,cs,vs[i],hc,hq,v0,k3 i _ _ (List.getElem?_eq_getElem hi2) (List.getElem?_eq_getElem hi),k5 _ (List.getElem_mem hi2)⟩
end Go.Ab.Tryz
namespace Go.Ab.Tryz
open Go.Proofs
theorem flat_encI:∀l:List Int,(l.map encI).flatten=l.map iv
 |[]=>rfl
 |a::l=>by rw[List.map_cons,List.flatten_cons,flat_encI l];rfl
theorem cons_app {h:H}(hw:h.wf){m:Int}{v:V}{l:List Int}(hv:SlAt h v 1 (l.map encI))(hl:l.length≤1000){Q:V→H→Prop}(q:∀y h',h.Sub h'→SlAt h' y 1 ((m::l).map encI)→Up h.next y→Q y h'):
  P2 (e_app' (h.add (.cells .rw [.int .i64 m])) 1 8 (.sl h.next 0 1 (.fix 1)) v) Q:=by
 have s1:h.Sub (h.add (.cells .rw [.int .i64 m])):=(H.Sub.refl hw).add _
 have hv1:=(hv.mono s1).elems
 rw[flat_encI,List.length_map] at hv1
 have x1:SlAt (h.add (.cells .rw [.int .i64 m])) (.sl h.next 0 1 (.fix 1)) 1 [encI m]:=SlAt.new _ rfl rfl rfl (by simp[encI]) (by simp)
 rw[e_app_eq,hv1.1,hv1.2]
 simp only[ob_some]
 cases l with
 |nil=>
  rw[List.length_nil,e_app_fix0]
  have:Nat.ble 1 1=true:=rfl
  rw[this,og_true,P2_some]
  exact q _ _ s1 x1 (Up.sl (Nat.le_refl _))
 |cons a l=>
  rw[List.length_cons] at hl
  rw[List.length_cons,e_app_full (by omega) x1.elems.1 (by omega) (by omega),grown_eq,P2_some]
  refine q _ _ (s1.add _) (⟨fun r hr=>by obtain⟨_,_,rfl⟩:=List.mem_map.1 hr;rfl,by rw[List.length_map,List.length_cons,List.length_cons];omega,.inr ⟨_,0,_,_,by rw[List.length_map,List.length_cons,List.length_cons];congr 1;omega,.inr (cells_add_new rfl),getN_eq.2 ⟨?_,?_⟩⟩⟩:SlAt _ _ 1 _) (Up.sl (by rw[H.next_add];omega))
  ·rw[List.drop_zero,flat_encI]
   have e:([encI m].flatten++(a::l).map iv)=(m::a::l).map iv:=rfl
   rw[e,List.length_map,Nat.mul_one]
   have:((m::a::l).map iv).length=(m::a::l).length:=List.length_map _
   rw[←this,List.take_length]
  ·simp[encI]
def timesL (a:At):Nat→List (List Int)
 |0=>[[]]
 |k+1=>(List.range (a.mins.toNat+1)).flatMap fun(m:Nat)=>(timesL a k).map fun l=>(m:Int)::l
theorem flat_len {α β:Type}{f:α→List β}{c:Nat}:∀{l:List α},(∀x∈l,(f x).length=c)→(l.flatMap f).length=l.length*c
 |[],_=>by simp
 |a::l,h=>by
  rw[List.flatMap_cons,List.length_append,h a (List.mem_cons_self ..),flat_len fun x hx=>h x (List.mem_cons_of_mem _ hx),List.length_cons,Nat.succ_mul]
  omega
theorem timesL_len (a:At):∀k,(timesL a k).length=(a.mins.toNat+1)^k
 |0=>rfl
 |k+1=>by
  rw[timesL,flat_len (c:=(timesL a k).length) (fun x _=>List.length_map _),List.length_range,timesL_len a k,Nat.pow_succ,Nat.mul_comm]
theorem timesL_mem {a:At}:∀{k:Nat} {l:List Int},l∈timesL a k↔l.length=k∧∀t∈l,0≤t∧t<a.mins.toNat+1
 |0,l=>by
  rw[timesL,List.mem_singleton]
  constructor
  ·rintro rfl;exact⟨rfl,fun t ht=>by cases ht⟩
  ·rintro⟨h,_⟩;exact List.length_eq_zero_iff.1 h
 |k+1,l=>by
  rw[timesL,List.mem_flatMap]
  constructor
  ·rintro⟨m,hm,hl⟩
   obtain⟨l',hl',rfl⟩:=List.mem_map.1 hl
   obtain⟨h1,h2⟩:=timesL_mem.1 hl'
   have:=List.mem_range.1 hm
   refine⟨by rw[List.length_cons,h1],fun t ht=>?_⟩
   rcases List.mem_cons.1 ht with rfl|ht
   ·omega
   ·exact h2 t ht
  ·rintro⟨h1,h2⟩
   cases l with
   |nil=>cases h1
   |cons t l=>
    have ht:=h2 t (List.mem_cons_self ..)
    refine⟨t.toNat,List.mem_range.2 (by omega),List.mem_map.2 ⟨l,timesL_mem.2 ⟨by simpa using h1,fun x hx=>h2 x (List.mem_cons_of_mem _ hx)⟩,?_⟩⟩
    rw[Int.toNat_of_nonneg ht.1]
set_option maxHeartbeats 4000000 in
theorem times_ev {a:At}(r:Right a):∀(k:Nat) {h:H} (hw:h.wf) {C R G:V} (x:AtAt h C R G a) {e:Nat} (he:(e:Int)+k=a.evs) (hb:(a.mins.toNat+1)^k≤100000) (Q:V→H→Prop) (q:∀y h',h.Sub h'→LR h.next h' y (timesL a k)→Q y h'),
  Ev fnG fastA (.fn 94 [] []) [.agg (atV a C R G),.int .i64 (e:Int)] h Q:=by
 have hev:=r.evs
 have hmn:=r.mins
 intro k
 induction k with
 |zero=>
  intro h hw C R G x e he hb Q q
  have oC:=x.c.one;have oR:=x.r.one;have oG:=x.g.one
  have hee:(e:Int)=a.evs:=by omega
  refine Ev_body (fd:=c94) rfl rfl rfl ?_
  obtain⟨z,hz⟩:∃z,h.add (.cells .rw (atV a C R G))=z:=⟨_,rfl⟩
  have sz:h.Sub z:=by rw[←hz];exact(by repeat(first|assumption|exact H.Sub.refl (by assumption)|refine H.Sub.add ?_ _|refine H.Sub.set ?_ (by first|omega|(simp only[H.next_add,H.next_set,H.next_del]<;>omega)) (by first|omega|(simp only[H.next_add,H.next_set,H.next_del]<;>omega)) (by assumption) _))
  have ga:z.get h.next=some (.cells .rw (atV a C R G)):=by rw[←hz];exact get_add_new rfl
  simp -implicitDefEqProofs(maxSteps:=999999)(disch:=first|with_reducible rfl|omega|(simp only[nA,nS,nD]<;>omega)|fail)only[c94,go_sem,oC,oR,oG,hz,cells_of ga,hee]
  try rw[hz]
  refine q _ _ (sz.add _) ⟨[.nils],SlAt.new _ (by rw[←hz]) rfl rfl (by simp) (by simp),rfl,fun i v l h1 h2=>?_,Up.sl sz.next,fun v hv=>by rw[List.mem_singleton] at hv;rw[hv];exact Up.nils _⟩
  have hi:=getl h1
  have:i=0:=by simp at hi;exact hi
  subst this
  cases h1;cases h2
  exact⟨by simp,by simp,.inl ⟨rfl,rfl⟩⟩
 |succ k ih=>
  intro h hw C R G x e he hb Q q
  have oC:=x.c.one;have oR:=x.r.one;have oG:=x.g.one
  have hee:¬(e:Int)=a.evs:=by omega
  have we:wr .i64 ((e:Int)+1)=((e+1:Nat):Int):=by rw[wr_in (by omega) (by omega)];omega
  have hb1:(a.mins.toNat+1)^k≤100000:=Nat.le_trans (Nat.pow_le_pow_right (by omega) (by omega)) hb
  refine Ev_body (fd:=c94) rfl rfl rfl ?_
  obtain⟨z,hz⟩:∃z,h.add (.cells .rw (atV a C R G))=z:=⟨_,rfl⟩
  have sz:h.Sub z:=by rw[←hz];exact(by repeat(first|assumption|exact H.Sub.refl (by assumption)|refine H.Sub.add ?_ _|refine H.Sub.set ?_ (by first|omega|(simp only[H.next_add,H.next_set,H.next_del]<;>omega)) (by first|omega|(simp only[H.next_add,H.next_set,H.next_del]<;>omega)) (by assumption) _))
  have ga:z.get h.next=some (.cells .rw (atV a C R G)):=by rw[←hz];exact get_add_new rfl
  simp -implicitDefEqProofs(maxSteps:=999999)(disch:=first|with_reducible rfl|omega|(simp only[nA,nS,nD]<;>omega)|fail)only[c94,go_sem,oC,oR,oG,hz,cells_of ga,hee,we]
  try rw[hz]
  clear hz
  refine ih sz.wf (x.mono sz) (e:=e+1) (by omega) hb1 _ fun yr z1 s1 kr=>?_
  have hlr:=kr.lenE
  have s01:=sz.trans s1
  have ga1:=s1.get ga
  have hw1:=s01.wf
  obtain⟨M,hM⟩:∃M:Nat,a.mins=M:=⟨a.mins.toNat,by omega⟩
  have hM2:a.mins.toNat=M:=by omega
  have hfull:(timesL a (k+1))=(List.range (M+1)).flatMap fun(m:Nat)=>(timesL a k).map fun l=>(m:Int)::l:=by rw[timesL,hM2]
  have hlen1:(timesL a k).length≤100000:=by rw[timesL_len];exact hb1
  have hpre:∀i,i≤M+1→((List.range i).flatMap fun(m:Nat)=>(timesL a k).map fun l=>(m:Int)::l).length≤100000:=fun i hi=>by
   rw[flat_len (c:=(timesL a k).length) (fun x _=>List.length_map _),List.length_range,timesL_len,hM2]
   have h1:=Nat.mul_le_mul_right ((M+1)^k) hi
   rw[hM2,Nat.pow_succ,Nat.mul_comm] at hb
   omega
  simp -implicitDefEqProofs(maxSteps:=999999)(disch:=first|with_reducible rfl|omega|(simp only[nA,nS,nD]<;>omega)|fail)only[go_sem]
  refine W_count (M+1) (fun i s=>∃tm z2 y vs,s=⟨tm,z2,[]⟩∧LL z1 z2 y ((List.range i).flatMap fun(m:Nat)=>(timesL a k).map fun l=>(m:Int)::l) vs∧
    (Opd.t 2).ev tm=.ptr h.next 0∧(Opd.t 5).ev tm=yr∧(Opd.t 6).ev tm=y∧(Opd.t 7).ev tm=.int .i64 (i:Int)) ?_ ?_ (i:=0) (Nat.zero_le _)
   ⟨_,_,_,_,rfl,LL.nil (H.Sub.refl hw1),(by simp[ev_c,ev_put]<;>rfl),(by simp[ev_c,ev_put]<;>rfl),(by simp[ev_c,ev_put]<;>rfl),(by simp[ev_c,ev_put]<;>rfl)⟩
  ·rintro i s hi ⟨tm,z2,y,vs,rfl,ll,t2,t5,t6,t7⟩
   have hi':(i:Int)≤(M:Int):=by omega
   have s2:=ll.o.1
   simp -implicitDefEqProofs(maxSteps:=999999)(disch:=first|with_reducible rfl|omega|(simp only[nA,nS,nD]<;>omega)|fail)only[go_sem,t2,t5,t6,t7,cells_of (s2.get ga1),hM,hi']
   refine W_count (timesL a k).length (fun j s=>∃tm z2 y vs,s=⟨tm,z2,[]⟩∧LL z1 z2 y (((List.range i).flatMap fun(m:Nat)=>(timesL a k).map fun l=>(m:Int)::l)++((timesL a k).take j).map fun l=>(i:Int)::l) vs∧
     (Opd.t 2).ev tm=.ptr h.next 0∧(Opd.t 5).ev tm=yr∧(Opd.t 6).ev tm=y∧(Opd.t 7).ev tm=.int .i64 (i:Int)∧(Opd.t 8).ev tm=.int .i64 (j:Int)) ?_ ?_ (i:=0) (Nat.zero_le _)
    ⟨_,_,_,_,rfl,by simpa using ll,(by simp[ev_c,ev_put,t2]<;>rfl),(by simp[ev_c,ev_put,t5]<;>rfl),(by simp[ev_c,ev_put,t6]<;>rfl),(by simp[ev_c,ev_put,t7]<;>rfl),(by simp[ev_c,ev_put]<;>rfl)⟩
   ·clear ll t2 t5 t6 t7 s2
    rintro j s hj ⟨tm,z2,y,vs,rfl,ll,t2,t5,t6,t7,t8⟩
    have hj':(j:Int)<((timesL a k).length:Int):=by omega
    have s2:=ll.o.1
    obtain⟨bb,o,cs,v,hc,hq,hn,hv,_⟩:=(kr.mono s2).at_ hj
    have hlk:=(timesL_mem.1 (List.getElem_mem hj)).1
    have hst:(timesL a k).take (j+1)=(timesL a k).take j++[(timesL a k)[j]]:=by rw[List.take_add_one,List.getElem?_eq_getElem hj];rfl
    have hlt:=hpre i (by omega)
    have s2a:=(H.Sub.refl s2.wf).add (.cells .rw [.int .i64 (i:Int)])
    simp -implicitDefEqProofs(maxSteps:=999999)(disch:=first|with_reducible rfl|omega|(simp only[nA,nS,nD]<;>omega)|fail)only[go_sem,t2,t5,t6,t7,t8,hlr,hj',hq (nat_cst j),hc,s2a.cells hc,hn]
    refine cons_app s2.wf hv (by omega) fun y3 z3 s3 x3 u3=>?_
    have o3:=x3.one
    simp -implicitDefEqProofs(maxSteps:=999999)(disch:=first|with_reducible rfl|omega|(simp only[nA,nS,nD]<;>omega)|fail)only[go_sem,t2,t5,t6,t7,t8,o3,cells_one o3]
    refine ll.push hw1 (by rw[List.length_append,List.length_map,List.length_take];omega) s3 x3 (u3.low s2.next) fun y4 z4 l4=>?_
    simp -implicitDefEqProofs(maxSteps:=999999)(disch:=first|with_reducible rfl|omega|(simp only[nA,nS,nD]<;>omega)|fail)only[go_sem,t2,t5,t6,t7,t8,wr_succ]
    exact⟨_,_,_,_,rfl,by rw[hst,List.map_append,←List.append_assoc];exact l4,(by simp[ev_c,ev_put,t2]<;>rfl),(by simp[ev_c,ev_put,t5]<;>rfl),(by simp[ev_c,ev_put]<;>rfl),(by simp[ev_c,ev_put,t7]<;>rfl),(by simp[ev_c,ev_put]<;>rfl)⟩
   ·clear ll t2 t5 t6 t7 s2
    rintro s ⟨tm,z2,y,vs,rfl,ll,t2,t5,t6,t7,t8⟩
    have hjj:¬((timesL a k).length:Int)<((timesL a k).length:Int):=by omega
    rw[List.take_length] at ll
    have w7:wr .i64 ((i:Int)+1)=((i+1:Nat):Int):=by rw[wr_in (by omega) (by omega)];omega
    simp -implicitDefEqProofs(maxSteps:=999999)(disch:=first|with_reducible rfl|omega|(simp only[nA,nS,nD]<;>omega)|fail)only[go_sem,t2,t5,t6,t7,t8,hlr,hjj,w7]
    exact⟨_,_,_,_,rfl,by(try rw[List.range_succ]);rw[List.flatMap_append];simpa using ll,(by simp[ev_c,ev_put,t2]<;>rfl),(by simp[ev_c,ev_put,t5]<;>rfl),(by simp[ev_c,ev_put,t6]<;>rfl),(by simp[ev_c,ev_put]<;>rfl)⟩
  ·rintro s ⟨tm,z2,y,vs,rfl,ll,t2,t5,t6,t7⟩
   have hi':¬((M+1:Nat):Int)≤(M:Int):=by omega
   have s2:=ll.o.1
   rw[←hfull] at ll
   simp -implicitDefEqProofs(maxSteps:=999999)(disch:=first|with_reducible rfl|omega|(simp only[nA,nS,nD]<;>omega)|fail)only[go_sem,t2,t5,t6,t7,cells_of (s2.get ga1),hM,hi']
   exact q _ _ (s01.trans s2) ((ll.rd (by rw[timesL_len];omega)).low s01.next)
end Go.Ab.Tryz
namespace Go.Ab.Tryz
open Go.Proofs
theorem cons2_app {h:H}(hw:h.wf){m n:Int}{v:V}{l:List Int}(hv:SlAt h v 1 (l.map encI))(hl:l.length≤1000){Q:V→H→Prop}(q:∀y h',h.Sub h'→SlAt h' y 1 ((m::n::l).map encI)→Up h.next y→Q y h'):
  P2 (e_app' (h.add (.cells .rw [.int .i64 m,.int .i64 n])) 1 8 (.sl h.next 0 2 (.fix 2)) v) Q:=by
 have s1:h.Sub (h.add (.cells .rw [.int .i64 m,.int .i64 n])):=(H.Sub.refl hw).add _
 have hv1:=(hv.mono s1).elems
 rw[flat_encI,List.length_map] at hv1
 have x1:SlAt (h.add (.cells .rw [.int .i64 m,.int .i64 n])) (.sl h.next 0 2 (.fix 2)) 1 [encI m,encI n]:=SlAt.new _ rfl rfl rfl (by simp[encI]) (by simp)
 rw[e_app_eq,hv1.1,hv1.2]
 simp only[ob_some]
 cases l with
 |nil=>
  rw[List.length_nil,e_app_fix0]
  have:Nat.ble 2 2=true:=rfl
  rw[this,og_true,P2_some]
  exact q _ _ s1 x1 (Up.sl (Nat.le_refl _))
 |cons a l=>
  rw[List.length_cons] at hl
  rw[List.length_cons,e_app_full (by omega) x1.elems.1 (by omega) (by omega),grown_eq,P2_some]
  refine q _ _ (s1.add _) (⟨fun r hr=>by obtain⟨_,_,rfl⟩:=List.mem_map.1 hr;rfl,by rw[List.length_map,List.length_cons,List.length_cons,List.length_cons];omega,.inr ⟨_,0,_,_,by rw[List.length_map,List.length_cons,List.length_cons,List.length_cons];congr 1;omega,.inr (cells_add_new rfl),getN_eq.2 ⟨?_,?_⟩⟩⟩:SlAt _ _ 1 _) (Up.sl (by rw[H.next_add];omega))
  ·rw[List.drop_zero,flat_encI]
   have e:([encI m,encI n].flatten++(a::l).map iv)=(m::n::a::l).map iv:=rfl
   rw[e,List.length_map,Nat.mul_one]
   have:((m::n::a::l).map iv).length=(m::n::a::l).length:=List.length_map _
   rw[←this,List.take_length]
  ·simp[encI]
def runsL:List Ck→List (List Int)
 |[]=>[[]]
 |c::cs=>(List.range c.ns).flatMap fun(u:Nat)=>(List.range c.ng).flatMap fun(v:Nat)=>(runsL cs).map fun l=>(c.sl+u)::(c.gl+v)::l
def runsN:List Ck→Nat
 |[]=>1
 |c::cs=>c.ns*(c.ng*runsN cs)
theorem runsL_len:∀cs,(runsL cs).length=runsN cs
 |[]=>rfl
 |c::cs=>by
  rw[runsL,flat_len (c:=c.ng*runsN cs) (fun x _=>?_),List.length_range,runsN]
  rw[flat_len (c:=runsN cs) (fun y _=>by rw[List.length_map,runsL_len cs]),List.length_range]
theorem runsL_row:∀{cs:List Ck} {l:List Int},l∈runsL cs→l.length=2*cs.length
 |[],l,h=>by rw[runsL,List.mem_singleton] at h;rw[h];rfl
 |c::cs,l,h=>by
  rw[runsL,List.mem_flatMap] at h
  obtain⟨u,_,h⟩:=h
  obtain⟨v,_,h⟩:=List.mem_flatMap.1 h
  obtain⟨l',hl',rfl⟩:=List.mem_map.1 h
  have:=runsL_row hl'
  simp only[List.length_cons];omega
def preR (c:Ck)(R:List (List Int))(u v j:Nat):List (List Int):=
 ((List.range u).flatMap fun(u:Nat)=>(List.range c.ng).flatMap fun(v:Nat)=>R.map fun l=>(c.sl+u)::(c.gl+v)::l)++((List.range v).flatMap fun(v:Nat)=>R.map fun l=>(c.sl+u)::(c.gl+v)::l)++(R.take j).map fun l=>(c.sl+u)::(c.gl+v)::l
theorem preR_step (c:Ck){R:List (List Int)}(u v:Nat){j:Nat}(hj:j<R.length):preR c R u v (j+1)=preR c R u v j++[(c.sl+u)::(c.gl+v)::R[j]]:=by
 unfold preR
 rw[List.take_add_one,List.getElem?_eq_getElem hj,List.map_append]
 simp only[List.append_assoc];rfl
theorem preR_row (c:Ck)(R:List (List Int))(u v:Nat):preR c R u (v+1) 0=preR c R u v R.length:=by
 simp only[preR,List.take_zero,List.map_nil,List.append_nil,List.take_length,List.range_succ,List.flatMap_append,List.flatMap_cons,List.flatMap_nil,List.append_assoc]
theorem preR_col (c:Ck)(R:List (List Int))(u:Nat):preR c R (u+1) 0 0=preR c R u c.ng 0:=by
 simp only[preR,List.take_zero,List.map_nil,List.append_nil,List.range_zero,List.range_succ,List.flatMap_append,List.flatMap_cons,List.flatMap_nil,List.append_assoc]
theorem preR_len (c:Ck)(R:List (List Int))(u v j:Nat):(preR c R u v j).length=u*(c.ng*R.length)+v*R.length+min j R.length:=by
 unfold preR
 rw[List.length_append,List.length_append,List.length_map,List.length_take,flat_len (c:=c.ng*R.length) (fun x _=>?_),flat_len (c:=R.length) (fun y _=>List.length_map _),List.length_range,List.length_range]
 rw[flat_len (c:=R.length) (fun y _=>List.length_map _),List.length_range]
theorem preR_full (c:Ck)(R:List (List Int)):preR c R c.ns 0 0=(List.range c.ns).flatMap fun(u:Nat)=>(List.range c.ng).flatMap fun(v:Nat)=>R.map fun l=>(c.sl+u)::(c.gl+v)::l:=by
 simp only[preR,List.take_zero,List.map_nil,List.append_nil,List.range_zero,List.flatMap_nil]
theorem runsN_le {c:Ck}{cs:List Ck}(h1:1≤c.ns)(h2:1≤c.ng):runsN cs≤runsN (c::cs):=by
 have a:=Nat.le_mul_of_pos_left (runsN cs) h2
 have b:=Nat.le_mul_of_pos_left (c.ng*runsN cs) h1
 show runsN cs≤c.ns*(c.ng*runsN cs)
 omega
set_option maxHeartbeats 4000000 in
theorem runs_ev {a:At}(r:Right a):∀(k:Nat) {h:H} (hw:h.wf) {C R G:V} (x:AtAt h C R G a) {e:Nat} (he:e+k=a.cks.length) (hb:runsN (a.cks.drop e)≤100000) (Q:V→H→Prop) (q:∀y h',h.Sub h'→LR h.next h' y (runsL (a.cks.drop e))→Q y h'),
  Ev fnG fastA (.fn 95 [] []) [.agg (atV a C R G),.int .i64 (e:Int)] h Q:=by
 have rl:=r.lens
 intro k
 induction k with
 |zero=>
  intro h hw C R G x e he hb Q q
  have oC:=x.c.one;have oR:=x.r.one;have oG:=x.g.one
  have hlC:=x.c.lenE
  have hee:(e:Int)=(a.cks.length:Int):=by omega
  rw[List.drop_eq_nil_of_le (by omega)] at q
  refine Ev_body (fd:=c95) rfl rfl rfl ?_
  obtain⟨z,hz⟩:∃z,h.add (.cells .rw (atV a C R G))=z:=⟨_,rfl⟩
  have sz:h.Sub z:=by rw[←hz];exact(by repeat(first|assumption|exact H.Sub.refl (by assumption)|refine H.Sub.add ?_ _|refine H.Sub.set ?_ (by first|omega|(simp only[H.next_add,H.next_set,H.next_del]<;>omega)) (by first|omega|(simp only[H.next_add,H.next_set,H.next_del]<;>omega)) (by assumption) _))
  have ga:z.get h.next=some (.cells .rw (atV a C R G)):=by rw[←hz];exact get_add_new rfl
  simp -implicitDefEqProofs(maxSteps:=999999)(disch:=first|with_reducible rfl|omega|(simp only[nA,nS,nD]<;>omega)|fail)only[c95,go_sem,oC,oR,oG,hz,cells_of ga,hlC,hee]
  try rw[hz]
  refine q _ _ (sz.add _) ⟨[.nils],SlAt.new _ (by rw[←hz]) rfl rfl (by simp) (by simp),rfl,fun i v l h1 h2=>?_,Up.sl sz.next,fun v hv=>by rw[List.mem_singleton] at hv;rw[hv];exact Up.nils _⟩
  have hi:=getl h1
  have:i=0:=by simp at hi;exact hi
  subst this
  cases h1;cases h2
  exact⟨by simp,by simp,.inl ⟨rfl,rfl⟩⟩
 |succ k ih=>
  intro h hw C R G x e he hb Q q
  have oC:=x.c.one;have oR:=x.r.one;have oG:=x.g.one
  have hlC:=x.c.lenE
  have hee:¬(e:Int)=(a.cks.length:Int):=by omega
  have hel:e<a.cks.length:=by omega
  have we:wr .i64 ((e:Int)+1)=((e+1:Nat):Int):=by rw[wr_in (by omega) (by omega)];omega
  have hm:=List.getElem_mem hel
  have hdrop:a.cks.drop e=a.cks[e]::a.cks.drop (e+1):=List.drop_eq_getElem_cons hel
  have hcb:=r.cb _ hm
  have hco:=r.co _ hm
  simp only[Ck.bd,within,Bool.and_eq_true,inB_iff] at hcb
  simp only[Ck.ord,Bool.and_eq_true,decide_eq_true_eq] at hco
  rw[hdrop] at hb q
  refine Ev_body (fd:=c95) rfl rfl rfl ?_
  obtain⟨z,hz⟩:∃z,h.add (.cells .rw (atV a C R G))=z:=⟨_,rfl⟩
  have sz:h.Sub z:=by rw[←hz];exact(by repeat(first|assumption|exact H.Sub.refl (by assumption)|refine H.Sub.add ?_ _|refine H.Sub.set ?_ (by first|omega|(simp only[H.next_add,H.next_set,H.next_del]<;>omega)) (by first|omega|(simp only[H.next_add,H.next_set,H.next_del]<;>omega)) (by assumption) _))
  have ga:z.get h.next=some (.cells .rw (atV a C R G)):=by rw[←hz];exact get_add_new rfl
  simp -implicitDefEqProofs(maxSteps:=999999)(disch:=first|with_reducible rfl|omega|(simp only[nA,nS,nD]<;>omega)|fail)only[c95,go_sem,oC,oR,oG,hz,cells_of ga,hlC,hee,we]
  try rw[hz]
  clear hz
  have n1:1≤a.cks[e].ns:=by unfold Ck.ns;omega
  have n2:1≤a.cks[e].ng:=by unfold Ck.ng;omega
  refine ih sz.wf (x.mono sz) (e:=e+1) (by omega) (Nat.le_trans (runsN_le n1 n2) hb) _ fun yr z1 s1 kr=>?_
  obtain⟨RR,hRR⟩:∃RR,runsL (a.cks.drop (e+1))=RR:=⟨_,rfl⟩
  have hRl:RR.length=runsN (a.cks.drop (e+1)):=by rw[←hRR,runsL_len]
  have hrow:∀l∈RR,l.length≤1000:=fun l hl=>by
   rw[←hRR] at hl
   have:=runsL_row hl
   rw[List.length_drop] at this;omega
  rw[hRR] at kr
  rw[runsL,hRR] at q
  rw[runsN,←hRl] at hb
  have hlr:=kr.lenE
  have s01:=sz.trans s1
  have ga1:=s1.get ga
  obtain⟨bC,oCC,cC,csC,_,hcC,hqC,hgC,_,_⟩:=(x.c.mono s01).at hel
  generalize a.cks[e]=c at hgC hb q hcb hco n1 n2
  simp only[encC] at hgC
  obtain⟨z2,hz2⟩:∃z2,z1.add (.cells .rw [.int .i64 c.sl,.int .i64 c.sh,.int .i64 c.gl,.int .i64 c.gh])=z2:=⟨_,rfl⟩
  have s2:z1.Sub z2:=by rw[←hz2];exact(H.Sub.refl s01.wf).add _
  have g6:z2.get z1.next=some (.cells .rw [.int .i64 c.sl,.int .i64 c.sh,.int .i64 c.gl,.int .i64 c.gh]):=by rw[←hz2];exact get_add_new rfl
  have hw2:=s2.wf
  have hns:((c.ns:Nat):Int)=c.sh-c.sl+1:=by unfold Ck.ns;omega
  have hng:((c.ng:Nat):Int)=c.gh-c.gl+1:=by unfold Ck.ng;omega
  have hpl:∀u v j,u≤c.ns→(u=c.ns→v=0∧j=0)→v≤c.ng→(v=c.ng→j=0)→(preR c RR u v j).length≤1000000:=fun u v j h1 h2 h3 h4=>by
   rw[preR_len]
   have e1:=Nat.mul_le_mul_right (c.ng*RR.length) h1
   have e2:=Nat.mul_le_mul_right RR.length h3
   have e3:=Nat.le_mul_of_pos_left (c.ng*RR.length) n1
   have e4:=Nat.le_mul_of_pos_left RR.length n2
   omega
  have hRb:RR.length≤100000:=by
   have e3:=Nat.le_mul_of_pos_left (c.ng*RR.length) n1
   have e4:=Nat.le_mul_of_pos_left RR.length n2
   omega
  simp -implicitDefEqProofs(maxSteps:=999999)(disch:=first|with_reducible rfl|omega|(simp only[nA,nS,nD]<;>omega)|fail)only[go_sem,cells_of ga1,hqC (nat_cst e),hcC,hgC,hz2,cells_of g6]
  try rw[hz2]
  clear hz2
  refine W_count c.ns (fun u s=>∃tm z3 y vs,s=⟨tm,z3,[]⟩∧LL z2 z3 y (preR c RR u 0 0) vs∧(Opd.t 5).ev tm=yr∧(Opd.t 6).ev tm=.ptr z1.next 0∧(Opd.t 7).ev tm=y∧(Opd.t 8).ev tm=.int .i64 (c.sl+(u:Int))) ?_ ?_ (i:=0) (Nat.zero_le _)
   ⟨_,_,_,_,rfl,LL.nil (H.Sub.refl hw2),(by simp[ev_c,ev_put]<;>rfl),(by simp[ev_c,ev_put]<;>rfl),(by simp[ev_c,ev_put]<;>rfl),by rw[show c.sl+((0:Nat):Int)=c.sl by omega];exact(by simp[ev_c,ev_put]<;>rfl)⟩
  ·rintro u s hu ⟨tm,z3,y,vs,rfl,ll,t5,t6,t7,t8⟩
   have hu':c.sl+(u:Int)≤c.sh:=by omega
   have s3:=ll.o.1
   simp -implicitDefEqProofs(maxSteps:=999999)(disch:=first|with_reducible rfl|omega|(simp only[nA,nS,nD]<;>omega)|fail)only[go_sem,t5,t6,t7,t8,cells_of (s3.get g6),hu']
   refine W_count c.ng (fun v s=>∃tm z3 y vs,s=⟨tm,z3,[]⟩∧LL z2 z3 y (preR c RR u v 0) vs∧(Opd.t 5).ev tm=yr∧(Opd.t 6).ev tm=.ptr z1.next 0∧(Opd.t 7).ev tm=y∧(Opd.t 8).ev tm=.int .i64 (c.sl+(u:Int))∧(Opd.t 9).ev tm=.int .i64 (c.gl+(v:Int))) ?_ ?_ (i:=0) (Nat.zero_le _)
    ⟨_,_,_,_,rfl,ll,(by simp[ev_c,ev_put,t5]<;>rfl),(by simp[ev_c,ev_put,t6]<;>rfl),(by simp[ev_c,ev_put,t7]<;>rfl),(by simp[ev_c,ev_put,t8]<;>rfl),by rw[show c.gl+((0:Nat):Int)=c.gl by omega];exact(by simp[ev_c,ev_put]<;>rfl)⟩
   ·clear ll t5 t6 t7 t8 s3
    rintro v s hv ⟨tm,z3,y,vs,rfl,ll,t5,t6,t7,t8,t9⟩
    have hv':c.gl+(v:Int)≤c.gh:=by omega
    have s3:=ll.o.1
    simp -implicitDefEqProofs(maxSteps:=999999)(disch:=first|with_reducible rfl|omega|(simp only[nA,nS,nD]<;>omega)|fail)only[go_sem,t5,t6,t7,t8,t9,cells_of (s3.get g6),hv']
    refine W_count RR.length (fun j s=>∃tm z3 y vs,s=⟨tm,z3,[]⟩∧LL z2 z3 y (preR c RR u v j) vs∧(Opd.t 5).ev tm=yr∧(Opd.t 6).ev tm=.ptr z1.next 0∧(Opd.t 7).ev tm=y∧(Opd.t 8).ev tm=.int .i64 (c.sl+(u:Int))∧(Opd.t 9).ev tm=.int .i64 (c.gl+(v:Int))∧(Opd.t 10).ev tm=.int .i64 (j:Int)) ?_ ?_ (i:=0) (Nat.zero_le _)
     ⟨_,_,_,_,rfl,ll,(by simp[ev_c,ev_put,t5]<;>rfl),(by simp[ev_c,ev_put,t6]<;>rfl),(by simp[ev_c,ev_put,t7]<;>rfl),(by simp[ev_c,ev_put,t8]<;>rfl),(by simp[ev_c,ev_put,t9]<;>rfl),(by simp[ev_c,ev_put]<;>rfl)⟩
    ·clear ll t5 t6 t7 t8 t9 s3
     rintro j s hj ⟨tm,z3,y,vs,rfl,ll,t5,t6,t7,t8,t9,t10⟩
     have hj':(j:Int)<(RR.length:Int):=by omega
     have s3:=ll.o.1
     obtain⟨bb,o,cs,w,hc,hq,hn,hv2,_⟩:=(kr.mono (s2.trans s3)).at_ hj
     have s3a:=(H.Sub.refl s3.wf).add (.cells .rw [.int .i64 (c.sl+(u:Int)),.int .i64 (c.gl+(v:Int))])
     simp -implicitDefEqProofs(maxSteps:=999999)(disch:=first|with_reducible rfl|omega|(simp only[nA,nS,nD]<;>omega)|fail)only[go_sem,t5,t6,t7,t8,t9,t10,hlr,hj',hq (nat_cst j),hc,s3a.cells hc,hn]
     refine cons2_app s3.wf hv2 (hrow _ (List.getElem_mem hj)) fun y4 z4 s4 x4 u4=>?_
     have o4:=x4.one
     simp -implicitDefEqProofs(maxSteps:=999999)(disch:=first|with_reducible rfl|omega|(simp only[nA,nS,nD]<;>omega)|fail)only[go_sem,t5,t6,t7,t8,t9,t10,o4,cells_one o4]
     refine ll.push hw2 (hpl u v j (by omega) (by omega) (by omega) (by omega)) s4 x4 (u4.low s3.next) fun y5 z5 l5=>?_
     have w10:wr .i64 ((j:Int)+1)=(j:Int)+1:=wr_in (by omega) (by omega)
     simp -implicitDefEqProofs(maxSteps:=999999)(disch:=first|with_reducible rfl|omega|(simp only[nA,nS,nD]<;>omega)|fail)only[go_sem,t5,t6,t7,t8,t9,t10,w10]
     exact⟨_,_,_,_,rfl,by rw[preR_step c u v hj];exact l5,(by simp[ev_c,ev_put,t5]<;>rfl),(by simp[ev_c,ev_put,t6]<;>rfl),(by simp[ev_c,ev_put]<;>rfl),(by simp[ev_c,ev_put,t8]<;>rfl),(by simp[ev_c,ev_put,t9]<;>rfl),(by simp[ev_c,ev_put]<;>rfl)⟩
    ·clear ll t5 t6 t7 t8 t9 s3
     rintro s ⟨tm,z3,y,vs,rfl,ll,t5,t6,t7,t8,t9,t10⟩
     have w9:wr .i64 (c.gl+(v:Int)+1)=c.gl+((v+1:Nat):Int):=by rw[wr_in (by omega) (by omega)];omega
     simp -implicitDefEqProofs(maxSteps:=999999)(disch:=first|with_reducible rfl|omega|(simp only[nA,nS,nD]<;>omega)|fail)only[go_sem,t5,t6,t7,t8,t9,t10,hlr,Int.lt_irrefl,w9]
     exact⟨_,_,_,_,rfl,by rw[preR_row];exact ll,(by simp[ev_c,ev_put,t5]<;>rfl),(by simp[ev_c,ev_put,t6]<;>rfl),(by simp[ev_c,ev_put,t7]<;>rfl),(by simp[ev_c,ev_put,t8]<;>rfl),(by simp[ev_c,ev_put]<;>rfl)⟩
   ·clear ll t5 t6 t7 t8 s3
    rintro s ⟨tm,z3,y,vs,rfl,ll,t5,t6,t7,t8,t9⟩
    have hv':¬c.gl+(c.ng:Int)≤c.gh:=by omega
    have s3:=ll.o.1
    have w8:wr .i64 (c.sl+(u:Int)+1)=c.sl+((u+1:Nat):Int):=by rw[wr_in (by omega) (by omega)];omega
    simp -implicitDefEqProofs(maxSteps:=999999)(disch:=first|with_reducible rfl|omega|(simp only[nA,nS,nD]<;>omega)|fail)only[go_sem,t5,t6,t7,t8,t9,cells_of (s3.get g6),hv',w8]
    exact⟨_,_,_,_,rfl,by rw[preR_col];exact ll,(by simp[ev_c,ev_put,t5]<;>rfl),(by simp[ev_c,ev_put,t6]<;>rfl),(by simp[ev_c,ev_put,t7]<;>rfl),(by simp[ev_c,ev_put]<;>rfl)⟩
  ·rintro s ⟨tm,z3,y,vs,rfl,ll,t5,t6,t7,t8⟩
   have hu':¬c.sl+(c.ns:Int)≤c.sh:=by omega
   have s3:=ll.o.1
   simp -implicitDefEqProofs(maxSteps:=999999)(disch:=first|with_reducible rfl|omega|(simp only[nA,nS,nD]<;>omega)|fail)only[go_sem,t5,t6,t7,t8,cells_of (s3.get g6),hu']
   have hfin:=ll.rd (hpl c.ns 0 0 (Nat.le_refl _) (fun _=>⟨rfl,rfl⟩) (Nat.zero_le _) (fun _=>rfl))
   rw[preR_full] at hfin
   exact q _ _ (s01.trans (s2.trans s3)) (hfin.low (s01.trans s2).next)
end Go.Ab.Tryz
namespace Go.Ab.Tryz
open Go.Proofs
end Go.Ab.Tryz
namespace Go.Ab.Tryz
open Go.Proofs
abbrev TT:=List Int × List Int × List Int
def flat2:Runs→List Int
 |[]=>[]
 |s::l=>s.1::s.2::flat2 l
def evens:List Int→List Int
 |x::_::l=>x::evens l
 |_=>[]
def odds:List Int→List Int
 |_::y::l=>y::odds l
 |_=>[]
theorem evens_flat:∀l:Runs,evens (flat2 l)=l.map Prod.fst
 |[]=>rfl
 |s::l=>by rw[flat2,evens,evens_flat l];rfl
theorem odds_flat:∀l:Runs,odds (flat2 l)=l.map Prod.snd
 |[]=>rfl
 |s::l=>by rw[flat2,odds,odds_flat l];rfl
def InCks (cks:List Ck)(runs:Runs):Prop:=runs.length=cks.length∧∀(k:Nat) s,runs[k]? =some s→∃c,cks[k]? =some c∧c.sl≤s.1∧s.1≤c.sh∧c.gl≤s.2∧s.2≤c.gh
theorem ns_iff {c:Ck}{u:Nat}:u<c.ns↔c.sl+u≤c.sh:=by unfold Ck.ns;omega
theorem ng_iff {c:Ck}{u:Nat}:u<c.ng↔c.gl+u≤c.gh:=by unfold Ck.ng;omega
theorem runsL_mem:∀{cks:List Ck} {l:List Int},l∈runsL cks↔∃runs,l=flat2 runs∧InCks cks runs
 |[],l=>by
  rw[runsL,List.mem_singleton]
  constructor
  ·rintro rfl;exact⟨[],rfl,rfl,fun k s h=>by simp at h⟩
  ·rintro⟨runs,rfl,h,_⟩;rw[List.length_eq_zero_iff.1 h];rfl
 |c::cs,l=>by
  rw[runsL,List.mem_flatMap]
  constructor
  ·rintro⟨u,hu,h⟩
   obtain⟨v,hv,h⟩:=List.mem_flatMap.1 h
   obtain⟨l',hl',rfl⟩:=List.mem_map.1 h
   obtain⟨runs,rfl,h1,h2⟩:=runsL_mem.1 hl'
   have hu:=ns_iff.1 (List.mem_range.1 hu)
   have hv:=ng_iff.1 (List.mem_range.1 hv)
   refine⟨(c.sl+u,c.gl+v)::runs,rfl,by rw[List.length_cons,List.length_cons,h1],fun k s hs=>?_⟩
   cases k with
   |zero=>
    rw[List.getElem?_cons_zero] at hs;cases hs
    exact⟨c,rfl,by show c.sl≤c.sl+u;omega,hu,by show c.gl≤c.gl+v;omega,hv⟩
   |succ k=>rw[List.getElem?_cons_succ] at hs;rw[List.getElem?_cons_succ];exact h2 k s hs
  ·rintro⟨runs,rfl,h1,h2⟩
   cases runs with
   |nil=>cases h1
   |cons s runs=>
    obtain⟨c',hc,q1,q2,q3,q4⟩:=h2 0 s rfl
    cases hc
    refine⟨(s.1-c.sl).toNat,List.mem_range.2 (ns_iff.2 (by omega)),List.mem_flatMap.2 ⟨(s.2-c.gl).toNat,List.mem_range.2 (ng_iff.2 (by omega)),List.mem_map.2 ⟨flat2 runs,runsL_mem.2 ⟨runs,rfl,by simpa using h1,fun k s hs=>by simpa using h2 (k+1) s (by simpa using hs)⟩,?_⟩⟩⟩
    rw[show c.sl+((s.1-c.sl).toNat:Int)=s.1 by omega,show c.gl+((s.2-c.gl).toNat:Int)=s.2 by omega];rfl
def allT (a:At):List TT:=((timesL a a.evs.toNat).filter (gapsB a)).flatMap fun tt=>(runsL a.cks).map fun l=>(evens l,odds l,tt)
def missT (a:At)(t:TT):Int:=missI a t.1 t.2.1 t.2.2
def LenT (a:At)(t:TT):Prop:=t.1.length=a.cks.length∧t.2.1.length=a.cks.length∧(t.2.2.length:Int)=a.evs
theorem time_far {tt:List Int}(h:(tt.length:Int)≤4):timeF tt 4=0:=by
 unfold timeF
 rw[List.getD_eq_getElem?_getD,List.getElem?_eq_none (by omega)];rfl
theorem allT_mem {a:At}(r:Right a){t:TT}:t∈allT a↔LenT a t∧Tru a (fun _=>false) (t.1.zip t.2.1) (timeF t.2.2):=by
 have he:=r.evs
 have hm:=r.mins
 unfold allT
 rw[List.mem_flatMap]
 constructor
 ·rintro⟨tt,htt,h⟩
  obtain⟨l,hl,rfl⟩:=List.mem_map.1 h
  obtain⟨runs,rfl,h1,h2⟩:=runsL_mem.1 hl
  rw[List.mem_filter,timesL_mem] at htt
  obtain⟨⟨t1,t2⟩,t3⟩:=htt
  simp only[LenT,evens_flat,odds_flat,zip_unzip,List.length_map]
  refine⟨⟨h1,h1,by omega⟩,h1,fun k s hs=>⟨h2 k s hs⟩,time_far (by omega),fun e _=>?_,fun g hg=>?_,fun j x _ hc=>by cases hc⟩
  ·unfold timeF
   rw[List.getD_eq_getElem?_getD]
   cases h:tt[e]? with
   |none=>exact⟨Int.le_refl _,by show(0:Int)≤_;omega⟩
   |some t=>
    have:=t2 t (List.mem_of_getElem? h)
    show 0≤t∧t≤a.mins
    omega
  ·unfold gapsB at t3
   have:=List.all_eq_true.1 t3 g hg
   unfold gapB at this
   exact inB_iff.1 this
 ·obtain⟨ss,gg,tt⟩:=t
  simp only[LenT]
  rintro⟨⟨l1,l2,l3⟩,tr⟩
  refine⟨tt,?_,List.mem_map.2 ⟨flat2 (ss.zip gg),runsL_mem.2 ⟨_,rfl,tr.len,fun k s hs=>(tr.run k s hs).is⟩,?_⟩⟩
  ·rw[List.mem_filter,timesL_mem]
   refine⟨⟨by omega,fun t ht=>?_⟩,?_⟩
   ·obtain⟨i,hi,rfl⟩:=List.mem_iff_getElem.1 ht
    have:=tr.mins i (by omega)
    rw[timeF_at (List.getElem?_eq_getElem hi)] at this
    omega
   ·unfold gapsB
    rw[List.all_eq_true]
    intro g hg
    unfold gapB
    exact inB_iff.2 (tr.gaps g hg)
  ·rw[evens_flat,odds_flat,List.map_fst_zip (by omega),List.map_snd_zip (by omega)]
theorem bitI_zero {f:Nat→Bool}:∀{n:Nat},bitI f n=0↔∀j,j<n→f j=false
 |0=>by simp[bitI]
 |n+1=>by
  have hb:=bitI_bd f n
  have hp:(0:Int)<2^n:=Int.pow_pos (by decide)
  have ih:=bitI_zero (f:=f) (n:=n)
  unfold bitI
  constructor
  ·intro h j hj
   by_cases hf:f n=true
   ·rw[if_pos hf] at h;omega
   ·rw[if_neg hf] at h
    rcases(by omega:j<n∨j=n) with hj|rfl
    ·exact ih.1 (by omega) j hj
    ·simpa using hf
  ·intro h
   rw[ih.2 fun j hj=>h j (by omega),h n (by omega)];rfl
theorem tru_cnt {a:At}(r:Right a){cnt:Nat→Bool}{t:TT}(l:LenT a t):Tru a cnt (t.1.zip t.2.1) (timeF t.2.2)↔Tru a (fun _=>false) (t.1.zip t.2.1) (timeF t.2.2)∧∀j,j<a.rds.length→cnt j=true→missB a t.1 t.2.1 t.2.2 j=false:=by
 obtain⟨ss,gg,tt⟩:=t
 obtain⟨l1,l2,l3⟩:=l
 simp only at l1 l2 l3⊢
 have key:∀(j:Nat) (x:Rd),a.rds[j]? =some x→(missB a ss gg tt j=false↔∀s,(ss.zip gg)[x.ck.toNat]? =some s→shw s.1 s.2 (timeF tt x.ev.toNat)=x.sh):=fun j x hx=>by
  obtain⟨k,e,e1,e2,h1,_,_⟩:=r.rdn (List.mem_of_getElem? hx)
  have hs:(ss.zip gg)[x.ck.toNat]? =some (ss.getD x.ck.toNat 0,gg.getD x.ck.toNat 0):=by
   rw[e1,Int.toNat_natCast,zip_get,getD_at (by omega),getD_at (by omega)]
   exact⟨List.getElem?_eq_getElem (by omega),List.getElem?_eq_getElem (by omega)⟩
  unfold missB
  rw[hx]
  simp only[decide_eq_false_iff_not,ne_eq,Decidable.not_not]
  constructor
  ·intro h s q
   rw[hs] at q;cases q
   exact h
  ·intro h;exact h _ hs
 constructor
 ·intro t
  exact⟨⟨t.len,t.run,t.beg,t.mins,t.gaps,fun j x _ hc=>by cases hc⟩,fun j hj hc=>(key j _ (List.getElem?_eq_getElem hj)).2 (t.rds j _ (List.getElem?_eq_getElem hj) hc)⟩
 ·rintro⟨t,h⟩
  exact⟨t.len,t.run,t.beg,t.mins,t.gaps,fun j x hx hc=>(key j x hx).1 (h j (getl hx) hc)⟩
def ttOf (a:At)(runs:Runs)(y:Nat→Int):TT:=(runs.map Prod.fst,runs.map Prod.snd,(List.range a.evs.toNat).map y)
theorem ttOf_len {a:At}(r:Right a){runs:Runs}{y:Nat→Int}{cnt:Nat→Bool}(h:Tru a cnt runs y):LenT a (ttOf a runs y):=by
 have:=r.evs
 exact⟨by rw[ttOf,List.length_map];exact h.len,by rw[ttOf,List.length_map];exact h.len,by rw[ttOf,List.length_map,List.length_range];omega⟩
theorem ttOf_zip (a:At)(runs:Runs)(y:Nat→Int):(ttOf a runs y).1.zip (ttOf a runs y).2.1=runs:=zip_unzip runs
theorem ttOf_tru {a:At}(r:Right a){runs:Runs}{y:Nat→Int}{cnt:Nat→Bool}(h:Tru a cnt runs y):Tru a cnt ((ttOf a runs y).1.zip (ttOf a runs y).2.1) (timeF (ttOf a runs y).2.2):=by
 rw[ttOf_zip];exact h.cut r
end Go.Ab.Tryz
namespace Go.Ab.Tryz
open Go.Proofs
set_option maxHeartbeats 4000000 in
theorem agreed_ev {h:H}(hw:h.wf){d:Nat}{a:At}{C R G f W:V}{ms:List Nat}(dk:Dk h d a C R G f W ms)(r:Right a){cnt:Nat→Bool}(hcnt:∀i,i<a.rds.length→PureA h f [.int .i64 (i:Int)] (.bool (cnt i)))
  (Q:V→H→Prop) (q:∀h',h.Sub h'→Q (.bool (decide (casesL a cnt≠[]))) h'):Ev fnG fastA (.fn 87 [] []) [.ptr d 0] h Q:=by
 have cd:∀hh p Q,Ev fnG fastA (.fn 147 [] []) [.ptr p 0] hh Q=Q (.fn 173 [] [.ptr hh.next 0]) (hh.add (.cells .rw [.ptr p 0])):=fun hh p Q=>by
  refine Ev.det (Ev_body (fd:=c147) rfl rfl rfl ?_) Q
  simp -implicitDefEqProofs(maxSteps:=999999)(disch:=first|with_reducible rfl|omega|(simp only[nA,nS,nD]<;>omega)|fail)only[c147,go_sem]
 refine Ev_body (fd:=c87) rfl rfl rfl ?_
 obtain⟨h6,hh6⟩:∃h6,(h.add (.cells .rw [.bool false])).add (.cells .rw [.ptr d 0])=h6:=⟨_,rfl⟩
 have s5:h.Sub h6:=by rw[←hh6];exact(by repeat(first|assumption|exact H.Sub.refl (by assumption)|refine H.Sub.add ?_ _|refine H.Sub.set ?_ (by first|omega|(simp only[H.next_add,H.next_set,H.next_del]<;>omega)) (by first|omega|(simp only[H.next_add,H.next_set,H.next_del]<;>omega)) (by assumption) _))
 have q1:h6.get h.next=some (.cells .rw [.bool false]):=by rw[←hh6];simp -implicitDefEqProofs(maxSteps:=999999)(disch:=first|with_reducible rfl|omega|(simp only[nA,nS,nD]<;>omega)|fail)only[go_sem]
 have q2:h6.get (h.next+1)=some (.cells .rw [.ptr d 0]):=by rw[←hh6];simp -implicitDefEqProofs(maxSteps:=999999)(disch:=first|with_reducible rfl|omega|(simp only[nA,nS,nD]<;>omega)|fail)only[go_sem]
 have n5:h6.next=h.next+2:=by rw[←hh6];simp only[H.next_add]
 simp -implicitDefEqProofs(maxSteps:=999999)(disch:=first|with_reducible rfl|omega|(simp only[nA,nS,nD]<;>omega)|fail)only[c87,go_sem,cd]
 try rw[hh6]
 clear hh6
 refine W_gen (P:=fun tm=>(Opd.t 2).ev tm=.ptr h.next 0∧(Opd.t 4).ev tm=.fn 173 [] [.ptr (h.next+1) 0]) ⟨(by simp[ev_c,ev_put]<;>rfl),(by simp[ev_c,ev_put]<;>rfl)⟩ fun tm ⟨t2,t4⟩=>?_
 refine W_rf t4 ?_
 generalize hr:LoopR.mk _ _ _ _ _ _ _ _ _=r0
 have fB:=congrArg LoopR.body hr
 have fA:=congrArg LoopR.assign hr
 have fN:=congrArg LoopR.n hr
 have fF:=congrArg LoopR.fn hr
 have fP:=congrArg LoopR.ps hr
 have fT:=congrArg LoopR.tm hr
 dsimp only at fB fA fN fF fP fT
 have hrs:r0.st=.ready:=by rw[←hr]
 have hrp:r0.pend=none:=by rw[←hr]
 have w6:=s5.wf
 obtain⟨J,hJ⟩:∃J:Nat→H→Prop,∀n x,J n x↔(h.Sub x∧n=0∧h6.next+1<x.next∧x.get (h6.next+1)=some (.loop r0)∧x.get h6.next=some .dfr∧x.get h.next=some (.cells .rw [.bool false])):=⟨_,fun _ _=>Iff.rfl⟩
 obtain⟨S,hS⟩:∃S:H→Prop,∀x,S x↔(h.Sub x∧casesL a cnt≠[]∧x.get h.next=some (.cells .rw [.bool true])∧x.get h6.next=some .dfr∧∃rr,x.get (h6.next+1)=some (.loop rr)∧rr.st=.done∧rr.pend=some .ret):=⟨_,fun _=>Iff.rfl⟩
 have s3:h6.Sub ((h6.add .dfr).add (.loop r0)):=((H.Sub.refl w6).add _).add _
 have j0:J 0 ((h6.add .dfr).add (.loop r0)):=(hJ _ _).2 ⟨s5.trans s3,rfl,by simp only[H.next_add];omega,get_add_new (by rw[H.next_add]),by rw[get_add_old (by rw[H.next_add];omega)];exact get_add_new rfl,s3.get q1⟩
 have tk:Taker h (.yld (h6.next+1)) (casesL a cnt) J S (fun _ b=>b=h.next∨b=h6.next+1) 0:=by
  refine⟨fun p x hx=>?_,fun p x x' hx s=>?_,fun p x b hx hb=>?_,fun p x x' hx s b hb=>hb,fun p t ht x0 x R hx hR=>?_⟩
  ·exact⟨((hJ _ _).1 hx).1,Nat.zero_le _⟩
  ·obtain⟨k1,k2,k3,k4,k5,k6⟩:=(hJ _ _).1 hx
   exact(hJ _ _).2 ⟨k1.trans s,k2,by have:=s.next;omega,s.get k4,s.get k5,s.get k6⟩
  ·obtain⟨k1,k2,k3,k4,k5,k6⟩:=(hJ _ _).1 hx
   have:=k1.next
   have:=hw
   rcases hb with hb|hb<;>omega
  ·obtain⟨k1,k2,k3,k4,k5,k6⟩:=(hJ _ _).1 hx
   have hne:casesL a cnt≠[]:=fun e=>by rw[e] at ht;simp at ht
   refine Ev.gen fun Q2 q2'=>?_
   have sx:=hR.1
   have wx:=sx.wf
   have lx:=sx.next
   refine Ev_yld (tm:=tm.put (some (fdV R t.2)) 5) (sx.get k4) (by rw[←fP,←fT];rfl) ?_
   rw[←fA,←fN,←fF]
   simp -implicitDefEqProofs(maxSteps:=999999)(disch:=first|with_reducible rfl|omega|(simp only[nA,nS,nD]<;>omega)|fail)only[go_sem]
   unfold Kasg
   refine⟨rfl,r0,sx.get k4,hrs,?_⟩
   obtain⟨rb,hrb⟩:∃rb:LoopR,rb={r0 with st:=.busy}:=⟨_,rfl⟩
   rw[←hrb,←fB,←fN,←fF]
   have K3:Keeps (fun c=>c=h6.next+1) x (x.set (h6.next+1) (.loop rb)):=Keeps.set _ _ _
   have s4:h.Sub (x.set (h6.next+1) (.loop rb)):=(k1.trans sx).set (by omega) (by omega) hw _
   have gl3:(x.set (h6.next+1) (.loop rb)).get (h6.next+1)=some (.loop rb):=get_set_same rfl
   have gd3:=K3.2 _ _ (sx.get k5) (by omega)
   have c1:=K3.2 _ _ (sx.get k6) (by omega)
   have l3:(x.set (h6.next+1) (.loop rb)).next=x.next:=H.next_set _ _ _
   generalize x.set (h6.next+1) (.loop rb)=h3 at K3 s4 gl3 gd3 c1 l3⊢
   simp -implicitDefEqProofs(maxSteps:=999999)(disch:=first|with_reducible rfl|omega|(simp only[nA,nS,nD]<;>omega)|fail)only[go_sem,t2,t4,c1]
   unfold Kround
   have K4:Keeps (fun c=>c=h.next) h3 (h3.set h.next (.cells .rw [.bool true])):=Keeps.set _ _ _
   have s6:h.Sub (h3.set h.next (.cells .rw [.bool true])):=s4.set (by omega) (by omega) hw _
   have l4:h6.next+1<(h3.set h.next (.cells .rw [.bool true])).next:=by rw[H.next_set];omega
   refine⟨rb,by rw[get_set_other (by omega)];exact gl3,q2' _ _ ⟨.inr ⟨rfl,(hS _).2 ⟨s6.set (by omega) l4 hw _,hne,?_,?_,_,get_set_same rfl,rfl,rfl⟩⟩,⟨⟨by rw[H.next_set,H.next_set];omega,fun b w g nb=>?_⟩,fun b hb=>.inl hb⟩⟩⟩
   ·rw[get_set_other (by omega),get_set_same rfl]
   ·rw[get_set_other (by omega),get_set_other (by omega)];exact gd3
   ·rw[get_set_other fun e=>nb (.inr e),get_set_other fun e=>nb (.inl e)]
    exact K3.2 _ _ g fun e=>nb (.inr e)
 refine(cases_gen hw dk r hcnt ⟨_,rfl⟩ tk (b1:=h.next+1) (x:=(h6.add .dfr).add (.loop r0)) (by omega) j0 (s3.get q2)).mono fun u h7 hu=>?_
 rcases hu with hJ7|hS7
 ·obtain⟨s7,hno,lx,gl,gd,g2⟩:=(hJ _ _).1 hJ7
  have hlb:decide (casesL a cnt≠[])=false:=by
   rw[List.length_eq_zero_iff.1 hno];simp
  refine⟨r0,gl,by rw[hrs];simp,?_⟩
  rw[hrp]
  have lt7:=s7.wf _ _ gl
  have s8:h.Sub (h7.set (h6.next+1) (.loop {r0 with st:=.exhausted})):=s7.set (by omega) lt7 hw _
  have d8:(h7.set (h6.next+1) (.loop {r0 with st:=.exhausted})).get h6.next=some .dfr:=by rw[get_set_other (by omega)];exact gd
  have c8:(h7.set (h6.next+1) (.loop {r0 with st:=.exhausted})).get h.next=some (.cells .rw [.bool false]):=by rw[get_set_other (by omega)];exact g2
  rw[hrp] at s8 d8 c8
  generalize h7.set (h6.next+1) _=h8 at s8 d8 c8⊢
  have l8:=s8.wf _ _ c8
  have d9:(h8.set h.next (.cells .rw [.bool false])).get h6.next=some .dfr:=by rw[get_set_other (by omega)];exact d8
  have s9:h.Sub (h8.set h.next (.cells .rw [.bool false])):=s8.set (by omega) l8 hw _
  have c9:((h8.set h.next (.cells .rw [.bool false])).del h6.next).cells h.next=some [.bool false]:=by rw[cells_del_other (by omega),cells_set_same rfl]
  simp -implicitDefEqProofs(maxSteps:=999999)(disch:=first|with_reducible rfl|omega|(simp only[nA,nS,nD]<;>omega)|fail)only[go_sem,t2,t4,c8,Kfin_ret1 _ _ _ d9,c9]
  rw[hlb] at q
  exact q _ (H.Sub.del s9 (by omega) hw)
 ·obtain⟨s7,hne,g2,gd,rr,gl,hst,hpe⟩:=(hS _).1 hS7
  have hlb:decide (casesL a cnt≠[])=true:=decide_eq_true hne
  refine⟨rr,gl,by rw[hst];simp,?_⟩
  rw[hpe]
  have lt7:=s7.wf _ _ gl
  have s8:h.Sub (h7.set (h6.next+1) (.loop {rr with st:=.exhausted})):=s7.set (by omega) lt7 hw _
  have d8:(h7.set (h6.next+1) (.loop {rr with st:=.exhausted})).get h6.next=some .dfr:=by rw[get_set_other (by omega)];exact gd
  have c8:(h7.set (h6.next+1) (.loop {rr with st:=.exhausted})).get h.next=some (.cells .rw [.bool true]):=by rw[get_set_other (by omega)];exact g2
  rw[hpe] at s8 d8 c8
  generalize h7.set (h6.next+1) _=h8 at s8 d8 c8⊢
  have c9:(h8.del h6.next).cells h.next=some [.bool true]:=by rw[cells_del_other (by omega)];exact cells_of c8
  simp -implicitDefEqProofs(maxSteps:=999999)(disch:=first|with_reducible rfl|omega|(simp only[nA,nS,nD]<;>omega)|fail)only[go_sem,t2,t4,Kfin_ret1 _ _ _ d8,c9]
  rw[hlb] at q
  exact q _ (H.Sub.del s8 (by omega) hw)
end Go.Ab.Tryz
namespace Go.Ab.Tryz
open Go.Proofs
end Go.Ab.Tryz
namespace Go.Ab.Tryz
open Go.Proofs
end Go.Ab.Tryz
namespace Go.Ab
theorem put_iv {L:List Int}{i:Nat}(h:i<L.length)(v:Int):putN i [.int .i64 v] (L.map iv)=some ((L.set i v).map iv):=by
 have e:L=L.take i++L[i]::L.drop (i+1):=by rw[←List.drop_eq_getElem_cons h,List.take_append_drop]
 have:=putN_app (pre:=(L.take i).map iv) (new:=[iv v]) (old:=[iv L[i]]) (rest:=(L.drop (i+1)).map iv) rfl
 rw[List.length_map,List.length_take,Nat.min_eq_left (by omega)] at this
 have e2:L.map iv=(L.take i).map iv++[iv L[i]]++(L.drop (i+1)).map iv:=by
  rw[show[iv L[i]]=[L[i]].map iv from rfl,←List.map_append,←List.map_append,List.append_assoc]
  exact congrArg (List.map iv) e
 have e3:(L.set i v).map iv=(L.take i).map iv++[iv v]++(L.drop (i+1)).map iv:=by
  rw[List.set_eq_take_append_cons_drop,if_pos h];simp
 rw[e2,e3];exact this
namespace Tryz
open Go.Proofs
theorem flat_iv (L:List Int):(L.map encI).flatten=L.map iv:=by
 induction L with
 |nil=>rfl
 |cons a L ih=>rw[List.map_cons,List.flatten_cons,ih];rfl
end Tryz
end Go.Ab
namespace Go.Ab
noncomputable def slcFrom (h:H)(sz:Nat)(x k:V):Option V:=q_slc .nil h sz x (some (.c k)) none none
theorem q_slc_from (tm:T V)(h:H)(sz:Nat)(x:V)(y:Opd):q_slc tm h sz x (some y) none none=slcFrom h sz x (y.ev tm):=rfl
noncomputable def slcTo (h:H)(sz:Nat)(x k:V):Option V:=q_slc .nil h sz x none (some (.c k)) none
theorem q_slc_to (tm:T V)(h:H)(sz:Nat)(x:V)(y:Opd):q_slc tm h sz x none (some y) none=slcTo h sz x (y.ev tm):=rfl
theorem slcFrom_gr {h:H}{b k:Nat}{L:List Int}(hb:h.get b=some (.cells (.gr 1) (L.map iv)))(h0:0<L.length)(hk:k≤L.length):slcFrom h 1 (.sl b 0 L.length (.slk 0 0)) (.int .i64 (k:Int))=some (.sl b k (L.length-k) (.slk k 0)):=by
 have hi:∀tm:T V,(Opd.c (.int .i64 (k:Int))).ev tm=.int .i64 (k:Int):=fun _=>rfl
 have e1:Nat.ble k L.length=true:=by simp;exact hk
 have e2:Nat.ble L.length L.length=true:=by simp
 have e4:Nat.blt 0 (L.length+L.length)=true:=by rw[Nat.blt_eq];omega
 have e5:Nat.beq 1 1=true:=rfl
 have e6:Nat.beq 0 (0*1)=true:=rfl
 have e7:Nat.ble L.length (L.map iv).length=true:=by simp
 have e8:slkRoom h b 0 1=L.length:=by simp[slkRoom,hb,lenN_eq]
 simp only[slcFrom,q_slc,slkOk,hb,lenN_eq,e5,e6,e7,og_true,e8,bnd3,natO,hi,natk_cst,bnds,e1,e2,subS,e4,Nat.mul_one,Nat.zero_add]
theorem slcTo_gr {h:H}{b k:Nat}{L:List Int}(hb:h.get b=some (.cells (.gr 1) (L.map iv)))(h0:0<L.length)(hk:k≤L.length):slcTo h 1 (.sl b 0 L.length (.slk 0 0)) (.int .i64 (k:Int))=some (.sl b 0 k (.slk 0 0)):=by
 have hi:∀tm:T V,(Opd.c (.int .i64 (k:Int))).ev tm=.int .i64 (k:Int):=fun _=>rfl
 have e1:Nat.ble 0 k=true:=by simp
 have e2:Nat.ble k L.length=true:=by simp;exact hk
 have e3:Nat.ble L.length L.length=true:=by simp
 have e4:Nat.blt 0 (L.length+k)=true:=by rw[Nat.blt_eq];omega
 have e5:Nat.beq 1 1=true:=rfl
 have e6:Nat.beq 0 (0*1)=true:=rfl
 have e7:Nat.ble L.length (L.map iv).length=true:=by simp
 have e8:slkRoom h b 0 1=L.length:=by simp[slkRoom,hb,lenN_eq]
 simp only[slcTo,q_slc,slkOk,hb,lenN_eq,e5,e6,e7,og_true,e8,bnd3,natO,hi,natk_cst,bnds,e1,e2,e3,subS,e4,Nat.mul_one,Nat.zero_add,Nat.sub_zero]
theorem getD_some {l:List Int}{i:Nat}(h:i<l.length):l[i]? =some (l.getD i 0):=by rw[List.getD_eq_getElem?_getD,List.getElem?_eq_getElem h];rfl
theorem dd_ne {l:List Int}{n:Nat}(hn:n<l.length)(h:n=0∨l.getD n 0≠l.getD (n-1) 0):dd l (n+1)=dd l n++[l.getD n 0]:=dd_new (getD_some hn) fun⟨h1,h2⟩=>by
 rcases h with h|h
 ·omega
 ·rw[getD_some (by omega)] at h2;exact h (Option.some.inj h2).symm
theorem dd_eq {l:List Int}{n:Nat}(hn:n<l.length)(h0:0<n)(h:l.getD n 0=l.getD (n-1) 0):dd l (n+1)=dd l n:=dd_same (getD_some hn) ⟨h0,by rw[getD_some (by omega),h]⟩
theorem take_getD {l:List Int}{n:Nat}(hn:n<l.length):l.take (n+1)=l.take n++[l.getD n 0]:=by
 rw[List.take_add_one,getD_some hn];rfl
theorem SlAt.cut {h:H}{b m:Nat}{L:List Int}{c:Cap}(hb:h.get b=some (.cells (.gr 1) (L.map iv)))(hm:m≤L.length)(hl:L.length≤1000000):SlAt h (.sl b 0 m c) 1 ((L.take m).map fun n=>[.int .i64 n]):=by
 refine⟨fun r hr=>by obtain⟨_,_,rfl⟩:=List.mem_map.1 hr;rfl,by rw[List.length_map,List.length_take];omega,.inr ⟨b,0,c,L.map iv,?_,.inr (cells_of hb),?_⟩⟩
 ·rw[List.length_map,List.length_take,Nat.min_eq_left hm]
 ·have e:((L.take m).map fun n=>[V.int .i64 n]).flatten=(L.take m).map iv:=by
   generalize L.take m=K
   induction K with
   |nil=>rfl
   |cons a K ih=>rw[List.map_cons,List.flatten_cons,ih];rfl
  rw[e,List.length_map,List.length_take,Nat.min_eq_left hm,Nat.mul_one]
  refine getN_eq.2 ⟨?_,by rw[List.length_map];omega⟩
  rw[List.drop_zero,←List.map_take]
namespace Tryz
open Go.Proofs
set_option maxHeartbeats 4000000 in
theorem Compact_ev {h0 h:H}{b:Nat}{l:List Int}(hs:h0.Sub h)(hw0:h0.wf)(lb0:h0.next≤b)(hb:h.get b=some (.cells (.gr 1) (l.map iv)))(h1:1≤l.length)(hl:l.length≤100000)(Q:V→H→Prop)
  (q:∀y h',h0.Sub h'→Keeps (fun c=>c=b) h h'→SlAt h' y 1 ((dd l l.length).map encI)→Q y h'):Ev fnG fastA (.fn 116 [] []) [.sl b 0 l.length (.slk 0 0)] h Q:=by
 have hw:=hs.wf
 have whole:∀{hh:H} {L:List Int},hh.get b=some (.cells (.gr 1) (L.map iv))→L.length=l.length→∀m c,m≤l.length→SlAt hh (.sl b 0 m c) 1 ((L.take m).map encI):=fun hg hL m c hm=>SlAt.cut hg (by omega) (by omega)
 refine Ev_body (fd:=c116) rfl rfl rfl ?_
 by_cases h2:l.length<2
 ·have hn2:(l.length:Int)<2:=by omega
  have e1:l.length=1:=by omega
  simp -implicitDefEqProofs(maxSteps:=999999)(disch:=first|with_reducible rfl|omega|(simp only[nA,nS,nD]<;>omega)|fail)only[c116,go_sem,hn2]
  have hdd:dd l l.length=l.take l.length:=by
   rw[e1,dd_ne (by omega) (.inl rfl),take_getD (by omega)];rfl
  exact q _ _ hs (Keeps.refl _ _) (by rw[hdd];exact whole hb rfl _ _ (Nat.le_refl _))
 have hn2:¬(l.length:Int)<2:=by omega
 have hiad:∀k:Nat,k<l.length→q_iad 1 (.sl b 0 l.length (.slk 0 0)) (.int .i64 (k:Int))=some (.ptr b k):=fun k hk=>by
  rw[q_iad_sl (nat_cst k) hk,Nat.mul_one,Nat.zero_add]
 simp -implicitDefEqProofs(maxSteps:=999999)(disch:=first|with_reducible rfl|omega|(simp only[nA,nS,nD]<;>omega)|fail)only[c116,go_sem,hn2]
 refine W_loop (fun kk s=>∃tm i,s=⟨tm,h,[]⟩∧kk=l.length-i∧1≤i∧i≤l.length∧dd l i=l.take i∧(Opd.t 0).ev tm=.sl b 0 l.length (.slk 0 0)∧(Opd.t 3).ev tm=.int .i64 (i:Int)) ?_ (l.length-1) _
  ⟨_,1,rfl,rfl,Nat.le_refl _,by omega,by rw[dd_ne (by omega) (.inl rfl),take_getD (by omega)];rfl,(by simp[ev_c,ev_put]<;>rfl),(by simp[ev_c,ev_put]<;>rfl)⟩
 rintro kk s ⟨tm,i,rfl,hkk,i1,i2,hdd,t0,t3⟩
 by_cases hi:i<l.length
 ·have hi':(i:Int)<(l.length:Int):=by omega
  have e1:(i:Int)-1=((i-1:Nat):Int):=by omega
  have n1:=nth_iv hi
  have n2:=nth_iv (L:=l) (k:=i-1) (by omega)
  by_cases heq:l.getD i 0=l.getD (i-1) 0
  ·have deq:decide (l.getD i 0=l.getD (i-1) 0)=true:=decide_eq_true heq
   have hfrom:=slcFrom_gr hb (by omega) (k:=i) (by omega)
   have lb:=hw _ _ hb
   have hdd1:dd l (i+1)=l.take i:=by rw[dd_eq hi (by omega) heq,hdd]
   simp -implicitDefEqProofs(maxSteps:=999999)(disch:=first|with_reducible rfl|omega|(simp only[nA,nS,nD]<;>omega)|fail)only[go_sem,t0,t3,hi',wr_in,e1,hiad i hi,hiad (i-1) (by omega),cells_of hb,n1,n2,deq,q_slc_from,hfrom]
   refine W.mono (Q:=fun x1 s=>x1=.ext 2∧∃(tm:Go.Ab.T V) (hh:H) (L:List Int) (m:Nat),s=⟨tm,hh,[]⟩∧h0.Sub hh∧Keeps (fun c=>c=b) h hh∧hh.get b=some (.cells (.gr 1) (L.map iv))∧L.length=l.length∧m<l.length∧L.take m=dd l l.length∧(Opd.t 0).ev tm=.sl b 0 l.length (.slk 0 0)∧(Opd.t 3).ev tm=.int .i64 (m:Int))
    (W_loop (fun kk s=>∃(tm:Go.Ab.T V) (hh:H) (L:List Int) (m k2:Nat),s=⟨tm,hh,[]⟩∧kk=l.length-i-k2∧1≤k2∧i+k2≤l.length∧m+1≤i+k2∧h0.Sub hh∧Keeps (fun c=>c=b) h hh∧hh.get b=some (.cells (.gr 1) (L.map iv))∧L.length=l.length∧
     L.take m=dd l (i+k2)∧(∀j,i+k2≤j+1→L.getD j 0=l.getD j 0)∧
     (Opd.t 0).ev tm=.sl b 0 l.length (.slk 0 0)∧(Opd.t 3).ev tm=.int .i64 (m:Int)∧(Opd.t 4).ev tm=.sl b i (l.length-i) (.slk i 0)∧(Opd.t 5).ev tm=.int .i64 (k2:Int)) ?_ (l.length-i-1) _
     ⟨_,_,l,i,1,rfl,rfl,Nat.le_refl _,by omega,by omega,hs,Keeps.refl _ _,hb,rfl,hdd1.symm,fun _ _=>rfl,(by simp[ev_c,ev_put,t0]<;>rfl),(by simp[ev_c,ev_put,t3]<;>rfl),(by simp[ev_c,ev_put]<;>rfl),(by simp[ev_c,ev_put]<;>rfl)⟩) fun x1 s hx1=>?_
   ·rintro kk s ⟨tm,hh,L,m,k2,rfl,hkk,k1,k3,k4,sh,kp,gL,hL,hT,hR,t0,t3,t4,t5⟩
    by_cases hk:k2<l.length-i
    ·have hk':(k2:Int)<((l.length-i:Nat):Int):=by omega
     have e2:(k2:Int)-1=((k2-1:Nat):Int):=by omega
     have a1:q_iad 1 (.sl b i (l.length-i) (.slk i 0)) (.int .i64 (k2:Int))=some (.ptr b (i+k2)):=by rw[q_iad_sl (nat_cst k2) hk,Nat.mul_one]
     have a2:q_iad 1 (.sl b i (l.length-i) (.slk i 0)) (.int .i64 ((k2-1:Nat):Int))=some (.ptr b (i+(k2-1))):=by rw[q_iad_sl (nat_cst (k2-1)) (by omega),Nat.mul_one]
     have a3:=hiad m (by omega)
     have v1:=nth_iv (L:=L) (k:=i+k2) (by omega)
     have v2:=nth_iv (L:=L) (k:=i+(k2-1)) (by omega)
     rw[hR _ (by omega)] at v1 v2
     have lb2:=sh.wf _ _ gL
     by_cases hd:l.getD (i+k2) 0=l.getD (i+(k2-1)) 0
     ·have hne:decide (l.getD (i+k2) 0≠l.getD (i+(k2-1)) 0)=false:=by simpa using hd
      simp -implicitDefEqProofs(maxSteps:=999999)(disch:=first|with_reducible rfl|omega|(simp only[nA,nS,nD]<;>omega)|fail)only[go_sem,t0,t3,t4,t5,hk',wr_in,e2,a1,a2,cells_of gL,v1,v2,hne,wr_succ]
      exact⟨_,by omega,_,_,L,m,k2+1,rfl,rfl,by omega,by omega,by omega,sh,kp,gL,hL,by rw[hT,←Nat.add_assoc,dd_eq (by omega) (by omega) (by rw[hd];congr 1;omega)],fun j hj=>hR j (by omega),(by simp[ev_c,ev_put,t0]<;>rfl),(by simp[ev_c,ev_put,t3]<;>rfl),(by simp[ev_c,ev_put,t4]<;>rfl),(by simp[ev_c,ev_put]<;>rfl)⟩
     ·have hne:decide (l.getD (i+k2) 0≠l.getD (i+(k2-1)) 0)=true:=by simpa using hd
      have hp:=put_iv (L:=L) (i:=m) (by omega) (l.getD (i+k2) 0)
      simp -implicitDefEqProofs(maxSteps:=999999)(disch:=first|with_reducible rfl|omega|(simp only[nA,nS,nD]<;>omega)|fail)only[go_sem,t0,t3,t4,t5,hk',wr_in,e2,a1,a2,a3,cells_of gL,gL,v1,v2,hne,hp,wr_succ]
      refine⟨_,by omega,_,_,L.set m (l.getD (i+k2) 0),m+1,k2+1,rfl,rfl,by omega,by omega,by omega,sh.set lb0 lb2 hw0 _,(kp.trans (Keeps.set hh b _)).mono fun c h=>h.elim id id,get_set_same rfl,by rw[List.length_set];exact hL,?_,fun j hj=>?_,(by simp[ev_c,ev_put,t0]<;>rfl),(by simp[ev_c,ev_put]<;>rfl),(by simp[ev_c,ev_put,t4]<;>rfl),(by simp[ev_c,ev_put]<;>rfl)⟩
      ·rw[←Nat.add_assoc,dd_ne (by omega) (.inr (by intro e;apply hd;rw[e];congr 1;omega)),←hT,take_getD (by rw[List.length_set];omega)]
       rw[List.take_set_of_le (Nat.le_refl _)]
       congr 2
       rw[List.getD_eq_getElem?_getD,List.getElem?_set_self (by omega)];rfl
      ·rw[←hR j (by omega),List.getD_eq_getElem?_getD,List.getElem?_set_ne (by omega),←List.getD_eq_getElem?_getD]
    ·have hk':¬(k2:Int)<((l.length-i:Nat):Int):=by omega
     have hke:i+k2=l.length:=by omega
     simp -implicitDefEqProofs(maxSteps:=999999)(disch:=first|with_reducible rfl|omega|(simp only[nA,nS,nD]<;>omega)|fail)only[go_sem,t0,t3,t4,t5,hk']
     exact⟨_,_,L,m,rfl,sh,kp,gL,hL,by omega,by rw[hT,hke],(by simp[ev_c,ev_put,t0]<;>rfl),(by simp[ev_c,ev_put,t3]<;>rfl)⟩
   clear t0 t3
   obtain⟨rfl,tm,hh,L,m,rfl,sh,kp,gL,hL,hm,hT,t0,t3⟩:=hx1
   have f1:=slcFrom_gr gL (by omega) (k:=m) (by omega)
   rw[hL] at f1
   obtain⟨n,hn⟩:∃n,l.length-m=n+1:=⟨l.length-m-1,by omega⟩
   have hrep:∀n,repN n [V.int .i64 0]=(List.replicate n (0:Int)).map iv:=fun n=>by
    induction n with
    |zero=>rfl
    |succ n ih=>simp only[repN,appN_eq,ih,List.replicate_succ,List.map_cons];rfl
   have hp:putN m ((List.replicate (n+1) (0:Int)).map iv) (L.map iv)=some ((L.take m++List.replicate (n+1) 0).map iv):=by
    have:=putN_app (pre:=(L.take m).map iv) (new:=(List.replicate (n+1) (0:Int)).map iv) (old:=(L.drop m).map iv) (rest:=[]) (by simp;omega)
    rw[List.length_map,List.length_take,Nat.min_eq_left (by omega),List.append_nil,List.append_nil,←List.map_append,List.take_append_drop,←List.map_append] at this
    exact this
   have ho:allOne ((List.replicate (n+1) (0:Int)).map iv)=true:=by
    rw[allOne_eq]
    intro v hv
    obtain⟨_,_,rfl⟩:=List.mem_map.1 hv;rfl
   have hclr:e_clr hh [V.int .i64 0] (.sl b m (l.length-m) (.slk m 0))=some (.und,hh.set b (.cells (.gr 1) ((L.take m++List.replicate (n+1) 0).map iv))):=by
    rw[e_clr_sl,hn,hrep]
    rw[List.replicate_succ,List.map_cons] at hp ho⊢
    rw[H.put_gr ho gL hp,withV_some]
   have gS:(hh.set b (.cells (.gr 1) ((L.take m++List.replicate (n+1) 0).map iv))).get b=some (.cells (.gr 1) ((L.take m++List.replicate (n+1) 0).map iv)):=get_set_same rfl
   have ll:(L.take m++List.replicate (n+1) (0:Int)).length=l.length:=by simp;omega
   have f2:=slcTo_gr gS (by omega) (k:=m) (by omega)
   rw[ll] at f2
   have lb2:=sh.wf _ _ gL
   simp -implicitDefEqProofs(maxSteps:=999999)(disch:=first|with_reducible rfl|omega|(simp only[nA,nS,nD]<;>omega)|fail)only[go_sem,t0,t3,q_slc_from,f1,WI_clr,hclr,q_slc_to,f2]
   refine q _ _ (sh.set lb0 lb2 hw0 _) ((kp.trans (Keeps.set hh b _)).mono fun c h=>h.elim id id) ?_
   have:=whole gS ll m (.slk 0 0) (by omega)
   rw[List.take_append_of_le_length (by rw[List.length_take];omega),List.take_take,Nat.min_self] at this
   rw[←hT];exact this
  ·have dne:decide (l.getD i 0=l.getD (i-1) 0)=false:=decide_eq_false heq
   simp -implicitDefEqProofs(maxSteps:=999999)(disch:=first|with_reducible rfl|omega|(simp only[nA,nS,nD]<;>omega)|fail)only[go_sem,t0,t3,hi',wr_in,e1,hiad i hi,hiad (i-1) (by omega),cells_of hb,n1,n2,dne,wr_succ]
   exact⟨_,by omega,_,i+1,rfl,rfl,by omega,by omega,by rw[dd_ne hi (.inr heq),hdd,take_getD hi],(by simp[ev_c,ev_put,t0]<;>rfl),(by simp[ev_c,ev_put]<;>rfl)⟩
 ·have hi':¬(i:Int)<(l.length:Int):=by omega
  have hie:i=l.length:=by omega
  simp -implicitDefEqProofs(maxSteps:=999999)(disch:=first|with_reducible rfl|omega|(simp only[nA,nS,nD]<;>omega)|fail)only[go_sem,t0,t3,hi']
  rw[hie] at hdd
  exact q _ _ hs (Keeps.refl _ _) (by rw[hdd];exact whole hb rfl _ _ (Nat.le_refl _))
end Tryz
end Go.Ab
namespace Go.Ab.Tryz
open Go.Proofs
theorem sortI_len (l:List Int):(sortI l).length=l.length:=(sortI_perm l).length_eq
theorem sort_ev {h:H}{b:Nat}{l:List Int}(hb:h.get b=some (.cells (.gr 1) (l.map iv)))(h1:1≤l.length)(hl:l.length≤100000)(Q:V→H→Prop):
  Ev fnG fastA (.fn 149 [] []) [.sl b 0 l.length (.slk 0 0)] h Q=Q (.tup []) (h.set b (.cells (.gr 1) ((sortI l).map iv))):=by
 refine Ev.det ⟨1,.tup [],h.set b (.cells (.gr 1) ((sortI l).map iv)),?_,rfl,rfl⟩ Q
 have e:evV fnG fastA 1 (.fn 149 [] []) [.sl b 0 l.length (.slk 0 0)] h=sortF [.sl b 0 l.length (.slk 0 0)] h:=rfl
 rw[e]
 have b1:Nat.blt 0 l.length=true:=by rw[Nat.blt_eq];omega
 have b2:Nat.blt l.length 4611686018427387904=true:=by rw[Nat.blt_eq];omega
 have hg:getN 0 l.length (l.map iv)=some (l.map iv):=getN_iv l
 have hi:intsOf (l.map iv)=some l:=intsOf_map l
 have hp:h.put b 0 ((sortI l).map (V.int .i64))=some (h.set b (.cells (.gr 1) ((sortI l).map iv))):=by
  obtain⟨v,vs,hv⟩:∃v vs,(sortI l).map iv=v::vs:=by
   cases hc:(sortI l).map iv with
   |nil=>have:=congrArg List.length hc;rw[List.length_map,sortI_len,List.length_nil] at this;omega
   |cons v vs=>exact⟨v,vs,rfl⟩
  have ho:allOne ((sortI l).map iv)=true:=allOne_iv _
  have hp:putN 0 ((sortI l).map iv) (l.map iv)=some ((sortI l).map iv):=by
   have:=putN_app (pre:=[]) (new:=(sortI l).map iv) (old:=l.map iv) (rest:=[]) (by rw[List.length_map,List.length_map,sortI_len])
   simpa using this
  show h.put b 0 ((sortI l).map iv)=_
  rw[hv] at ho hp⊢
  exact H.put_gr ho hb hp
 simp only[sortF,b1,b2,og_true,cells_of hb,hg,hi,hp,withV_some]
theorem rise_ev {h0 h:H}{w:V}{l:List Int}(o:OwnSl h0 h w 1 (l.map encI))(hw0:h0.wf)(h1:1≤l.length)(hl:l.length≤100000):∃b,w=.sl b 0 l.length (.slk 0 0)∧h0.next≤b∧h.get b=some (.cells (.gr 1) (l.map iv)):=by
 obtain⟨_,_,o⟩:=o
 rcases o with⟨_,e⟩|⟨b,e,lb,_,g⟩
 ·have:=congrArg List.length e;rw[List.length_map,List.length_nil] at this;omega
 ·rw[List.length_map] at e;rw[flat_iv] at g;exact⟨b,e,lb,g⟩
end Go.Ab.Tryz
namespace Go.Ab.Tryz
open Go.Proofs
theorem values_eq {h:H}{x:V}(hx:x.one=true)(Q:V→H→Prop):Ev fnG fastA (.fn 115 [] []) [x] h Q=Q (.fn 161 [] [.ptr h.next 0]) (h.add (.cells .rw [x])):=by
 refine Ev.det (Ev_body (fd:=c115) rfl rfl rfl ?_) Q
 simp -implicitDefEqProofs(maxSteps:=999999)(disch:=first|with_reducible rfl|omega|(simp only[nA,nS,nD]<;>omega)|fail)only[c115,go_sem,hx,cells_one hx]
theorem vals_gen {h:H}{x:V}{l:List Int}(hx:SlAt h x 1 (l.map encI)){b:Nat}(g:h.get b=some (.cells .rw [x])){y:V}(hy:∃l0,y=.yld l0){J:Nat→H→Prop}(base:∀n z,J n z→h.Sub z)
  (step:∀n m,l[n]? =some m→∀z,J n z→Ev fnG fastA y [.int .i64 m] z fun u z'=>u=.bool true∧J (n+1) z') {z:H} (hJ:J 0 z):Ev fnG fastA (.fn 161 [] [.ptr b 0]) [y] z fun _ z'=>J l.length z':=by
 refine Ev.gen fun Q q=>?_
 obtain⟨l0,rfl⟩:=hy
 have s0:=base _ _ hJ
 have hl:=hx.lenE
 refine Ev_body (fd:=c161) rfl rfl rfl ?_
 simp -implicitDefEqProofs(maxSteps:=999999)(disch:=first|with_reducible rfl|omega|(simp only[nA,nS,nD]<;>omega)|fail)only[c161,go_sem,cells_of (s0.get g),hl]
 refine W_count l.length (fun i s=>∃tm z,s=⟨tm,z,[]⟩∧J i z∧(Opd.t 0).ev tm=.yld l0∧(Opd.t 5).ev tm=x∧(Opd.t 6).ev tm=.int .i64 (l.length:Int)∧(Opd.t 7).ev tm=.int .i64 (i:Int)) ?_ ?_ (i:=0) (Nat.zero_le _)
  ⟨_,_,rfl,hJ,(by simp[ev_c,ev_put]<;>rfl),(by simp[ev_c,ev_put]<;>rfl),(by simp[ev_c,ev_put]<;>rfl),(by simp[ev_c,ev_put]<;>rfl)⟩
 ·rintro i s hi ⟨tm,z,rfl,hJ,t0,t5,t6,t7⟩
  have hi':(i:Int)<(l.length:Int):=by omega
  have hb:=hx.2.1
  rw[List.length_map] at hb
  have w7:wr .i64 ((i:Int)+1)=(i:Int)+1:=wr_in (by omega) (by omega)
  obtain⟨b',o',cc',cs',e',hc',hq',_,_,n'⟩:=(hx.mono (base _ _ hJ)).at hi
  have v:=n' (by decide)
  simp only[encI,List.getElem?_cons_zero] at v
  simp -implicitDefEqProofs(maxSteps:=999999)(disch:=first|with_reducible rfl|omega|(simp only[nA,nS,nD]<;>omega)|fail)only[go_sem,t0,t5,t6,t7,hi',hq' (nat_cst i),hc',v]
  refine(step i l[i] (List.getElem?_eq_getElem hi) z hJ).mono fun u z' hz=>?_
  obtain⟨rfl,hJ'⟩:=hz
  simp -implicitDefEqProofs(maxSteps:=999999)(disch:=first|with_reducible rfl|omega|(simp only[nA,nS,nD]<;>omega)|fail)only[go_sem,t0,t5,t6,t7,w7]
  exact⟨_,_,rfl,hJ',(by simp[ev_c,ev_put,t0]<;>rfl),(by simp[ev_c,ev_put,t5]<;>rfl),(by simp[ev_c,ev_put,t6]<;>rfl),(by simp[ev_c,ev_put]<;>rfl)⟩
 ·rintro s ⟨tm,z,rfl,hJ,t0,t5,t6,t7⟩
  simp -implicitDefEqProofs(maxSteps:=999999)(disch:=first|with_reducible rfl|omega|(simp only[nA,nS,nD]<;>omega)|fail)only[go_sem,t0,t5,t6,t7,Int.lt_irrefl]
  exact q _ _ hJ
set_option maxHeartbeats 4000000 in
theorem appSeqInt_ev {h:H}(hw:h.wf){x:V}{l:List Int}(hx:SlAt h x 1 (l.map encI))(hl:l.length≤100000){b:Nat}(g:h.get b=some (.cells .rw [x]))(Q:V→H→Prop)(q:∀w h',OwnSl h h' w 1 (l.map encI)→(l=[]→w=.nils)→Q w h'):
  Ev fnG fastA (.fn 181 [] []) [.nils,.fn 161 [] [.ptr b 0]] h Q:=by
 refine Ev_body (fd:=c181) rfl rfl rfl ?_
 simp -implicitDefEqProofs(maxSteps:=999999)(disch:=first|with_reducible rfl|omega|(simp only[nA,nS,nD]<;>omega)|fail)only[c181,go_sem]
 have s1:h.Sub (h.add (.cells .rw [.nils])):=(H.Sub.refl hw).add _
 have gc1:(h.add (.cells .rw [.nils])).get h.next=some (.cells .rw [.nils]):=get_add_new rfl
 have n1:=H.next_add h (.cells .rw [.nils])
 generalize h.add (.cells .rw [.nils])=h1 at s1 gc1 n1⊢
 have w1:=s1.wf
 refine W_gen (P:=fun tm=>(Opd.t 2).ev tm=.ptr h.next 0∧(Opd.t 6).ev tm=.fn 161 [] [.ptr b 0]) ⟨(by simp[ev_c,ev_put]<;>rfl),(by simp[ev_c,ev_put]<;>rfl)⟩ fun tm ⟨t2,t6⟩=>?_
 refine W_rf t6 ?_
 generalize hr:LoopR.mk _ _ _ _ _ _ _ _ _=r0
 have fB:=congrArg LoopR.body hr
 have fA:=congrArg LoopR.assign hr
 have fN:=congrArg LoopR.n hr
 have fF:=congrArg LoopR.fn hr
 have fP:=congrArg LoopR.ps hr
 have fT:=congrArg LoopR.tm hr
 dsimp only at fB fA fN fF fP fT
 have hrs:r0.st=.ready:=by rw[←hr]
 have hrp:r0.pend=none:=by rw[←hr]
 obtain⟨J,hJ⟩:∃J:Nat→H→Prop,∀n x,J n x↔∃y,OwnSl h x y 1 ((l.take n).map encI)∧(∀c,blkOf y c→h1.next+1<c)∧x.get (h1.next+1)=some (.loop r0)∧x.get h1.next=some .dfr∧x.get h.next=some (.cells .rw [y])∧(n=0→y=.nils):=⟨_,fun _ _=>Iff.rfl⟩
 have s3:h.Sub ((h1.add .dfr).add (.loop r0)):=(s1.add _).add _
 have j0:J 0 ((h1.add .dfr).add (.loop r0)):=(hJ _ _).2 ⟨.nils,OwnSl.nil s3 1,fun b hb=>(blkOf_nils hb).elim,get_add_new (by rw[H.next_add]),by rw[get_add_old (by rw[H.next_add];omega)];exact get_add_new rfl,
  by rw[get_add_old (by rw[H.next_add];omega),get_add_old (by omega)];exact gc1,fun _=>rfl⟩
 refine(vals_gen hx g (y:=.yld (h1.next+1)) ⟨_,rfl⟩ (J:=J) (fun n z hz=>?_) (fun n m hm x hx=>?_) j0).mono fun u h7 hJ7=>?_
 ·obtain⟨y,o,_⟩:=(hJ _ _).1 hz;exact o.1
 ·obtain⟨y,o,yb,gl,gd,gc,_⟩:=(hJ _ _).1 hx
  refine Ev.gen fun Q2 q2=>?_
  have sx:=o.1
  have wx:=sx.wf
  have lx:=wx _ _ gl
  have hn:=getl hm
  refine Ev_yld (tm:=tm.put (some (.int .i64 m)) 7) gl (by rw[←fP,←fT];rfl) ?_
  rw[←fA,←fN,←fF]
  simp -implicitDefEqProofs(maxSteps:=999999)(disch:=first|with_reducible rfl|omega|(simp only[nA,nS,nD]<;>omega)|fail)only[go_sem,t2]
  unfold Kasg
  refine⟨rfl,r0,gl,hrs,?_⟩
  obtain⟨rb,hrb⟩:∃rb:LoopR,rb={r0 with st:=.busy}:=⟨_,rfl⟩
  have hrb1:({rb with st:=.ready,pend:=none}:LoopR)=r0:=by rw[hrb];exact rLoop hrs hrp
  rw[←hrb,←fB,←fN,←fF]
  have K3:Keeps (fun b=>b=h1.next+1) x (x.set (h1.next+1) (.loop rb)):=Keeps.set _ _ _
  have s4:h.Sub (x.set (h1.next+1) (.loop rb)):=sx.set (by omega) (by omega) hw _
  have gl4:(x.set (h1.next+1) (.loop rb)).get (h1.next+1)=some (.loop rb):=get_set_same rfl
  have n4:(x.set (h1.next+1) (.loop rb)).next=x.next:=H.next_set _ _ _
  have o4:=o.keep K3 s4 fun b hb e=>by have:=yb b hb;omega
  generalize x.set (h1.next+1) (.loop rb)=h4 at K3 s4 gl4 n4 o4⊢
  have gc4:=K3.2 _ _ gc (by omega)
  have gd4:=K3.2 _ _ gd (by omega)
  have s5:=(H.Sub.refl s4.wf).add (.cells .rw [.int .i64 m])
  have sn:SlAt (h4.add (.cells .rw [.int .i64 m])) (.sl h4.next 0 1 (.fix 1)) 1 [encI m]:=SlAt.new _ rfl rfl rfl (by simp[encI]) (by simp)
  have n5:=H.next_add h4 (.cells .rw [.int .i64 m])
  simp -implicitDefEqProofs(maxSteps:=999999)(disch:=first|with_reducible rfl|omega|(simp only[nA,nS,nD]<;>omega)|fail)only[go_sem,t2,cells_of gc4]
  refine(o4.mono s5).app1 (by_:=8) (r:=encI m) hw rfl (by omega) sn rfl (by rw[List.length_map,List.length_take];omega) (by rw[List.length_map,List.length_take];omega) fun h6 o6 k6 n6=>?_
  have gl6:=k6.2 _ _ (s5.get gl4) fun hb=>by have:=yb _ hb;omega
  have gd6:=k6.2 _ _ (s5.get gd4) fun hb=>by have:=yb _ hb;omega
  have gc6:=k6.2 _ _ (s5.get gc4) fun hb=>by have:=yb _ hb;omega
  obtain⟨y',hy'⟩:∃y':V,V.sl (h4.add (.cells .rw [.int .i64 m])).next 0 (((l.take n).map encI).length+1) (.slk 0 0)=y':=⟨_,rfl⟩
  have y1':=o6.c.one
  have yb6:∀c,blkOf (V.sl (h4.add (.cells .rw [.int .i64 m])).next 0 (((l.take n).map encI).length+1) (.slk 0 0)) c→h1.next+1<c∧c<h6.next:=fun c ⟨o,k,cc,e⟩=>by cases e;omega
  rw[hy'] at o6 y1' yb6⊢
  simp -implicitDefEqProofs(maxSteps:=999999)(disch:=first|with_reducible rfl|omega|(simp only[nA,nS,nD]<;>omega)|fail)only[go_sem,t2,gc6,y1',cells_one y1']
  unfold Kround
  have lc6:=s4.wf _ _ gc4
  have s7:h.Sub (h6.set h.next (.cells .rw [y'])):=o6.1.set (by omega) (by omega) hw _
  have s8:h.Sub ((h6.set h.next (.cells .rw [y'])).set (h1.next+1) (.loop r0)):=s7.set (by omega) (by rw[H.next_set];omega) hw _
  have k7:Keeps (fun c=>c=h.next∨c=h1.next+1) h6 ((h6.set h.next (.cells .rw [y'])).set (h1.next+1) (.loop r0)):=⟨by simp only[H.next_set];omega,fun c w gw nb=>by rw[get_set_other fun e=>nb (.inr e),get_set_other fun e=>nb (.inl e)];exact gw⟩
  refine⟨rb,by rw[get_set_other (by omega)];exact gl6,q2 _ _ ⟨rfl,?_⟩⟩
  rw[hrb1]
  have e7:(l.take (n+1)).map encI=(l.take n).map encI++[encI m]:=by rw[List.take_add_one,hm,List.map_append];rfl
  refine(hJ _ _).2 ⟨y',?_,fun c hc=>(yb6 c hc).1,get_set_same rfl,?_,?_,fun e=>by cases e⟩
  ·rw[e7];exact o6.keep k7 s8 fun c hc e=>by have:=yb6 c hc;omega
  ·exact k7.2 _ _ gd6 (by omega)
  ·rw[get_set_other (by omega)];exact get_set_same rfl
 ·obtain⟨y,o,yb,gl,gd,gc,y0⟩:=(hJ _ _).1 hJ7
  refine⟨r0,gl,by rw[hrs];simp,?_⟩
  rw[hrp]
  have s7:=o.1
  have lt7:=s7.wf _ _ gl
  have s8:h.Sub (h7.set (h1.next+1) (.loop {r0 with st:=.exhausted})):=s7.set (by omega) lt7 hw _
  have K8:Keeps (fun c=>c=h1.next+1) h7 (h7.set (h1.next+1) (.loop {r0 with st:=.exhausted})):=Keeps.set _ _ _
  have d8:=K8.2 _ _ gd (by omega)
  have e8:=K8.2 _ _ gc (by omega)
  rw[hrp] at s8 K8 d8 e8
  generalize h7.set (h1.next+1) _=h8 at s8 K8 d8 e8⊢
  have y1:=o.c.one
  simp -implicitDefEqProofs(maxSteps:=999999)(disch:=first|with_reducible rfl|omega|(simp only[nA,nS,nD]<;>omega)|fail)only[go_sem,t2,cells_of e8,Kfin_ret1 _ _ _ d8]
  have s9:h.Sub (h8.del h1.next):=H.Sub.del s8 (by omega) hw
  have K9:Keeps (fun c=>c=h1.next+1∨c=h1.next) h7 (h8.del h1.next):=⟨by rw[H.next_del];exact K8.1,fun b w g nb=>by rw[get_del_other fun e=>nb (.inr e)];exact K8.2 _ _ g fun e=>nb (.inl e)⟩
  rw[List.take_length] at o
  exact q _ _ (o.keep K9 s9 fun b hb e=>by have:=yb b hb;omega) fun e=>y0 (by rw[e];rfl)
theorem collectInt_ev {h:H}(hw:h.wf){x:V}{l:List Int}(hx:SlAt h x 1 (l.map encI))(hl:l.length≤100000){b:Nat}(g:h.get b=some (.cells .rw [x]))(Q:V→H→Prop)(q:∀w h',OwnSl h h' w 1 (l.map encI)→(l=[]→w=.nils)→Q w h'):
  Ev fnG fastA (.fn 160 [] []) [.fn 161 [] [.ptr b 0]] h Q:=by
 refine Ev_body (fd:=c160) rfl rfl rfl ?_
 simp -implicitDefEqProofs(maxSteps:=999999)(disch:=first|with_reducible rfl|omega|(simp only[nA,nS,nD]<;>omega)|fail)only[c160,go_sem]
 refine appSeqInt_ev hw hx hl g _ fun w h' o o0=>?_
 simp -implicitDefEqProofs(maxSteps:=999999)(disch:=first|with_reducible rfl|omega|(simp only[nA,nS,nD]<;>omega)|fail)only[go_sem]
 exact q _ _ o o0
theorem sort0_ev {h:H}(Q:V→H→Prop):Ev fnG fastA (.fn 149 [] []) [.nils] h Q=Q (.tup []) h:=Ev.det ⟨1,.tup [],h,rfl,rfl,rfl⟩ Q
theorem sorted_ev {h:H}(hw:h.wf){x:V}{l:List Int}(hx:SlAt h x 1 (l.map encI))(h0:l≠[])(hl:l.length≤100000){b:Nat}(g:h.get b=some (.cells .rw [x]))(Q:V→H→Prop)
  (q:∀c h',h.Sub h'→h.next≤c→h'.get c=some (.cells (.gr 1) ((sortI l).map iv))→Q (.sl c 0 l.length (.slk 0 0)) h'):Ev fnG fastA (.fn 114 [] []) [.fn 161 [] [.ptr b 0]] h Q:=by
 refine Ev_body (fd:=c114) rfl rfl rfl ?_
 simp -implicitDefEqProofs(maxSteps:=999999)(disch:=first|with_reducible rfl|omega|(simp only[nA,nS,nD]<;>omega)|fail)only[c114,go_sem]
 refine collectInt_ev hw hx hl g _ fun w h' o _=>?_
 have l1:=List.length_pos_iff.2 h0
 obtain⟨c,rfl,lc,gc⟩:=rise_ev o hw (by omega) hl
 have lc2:=o.1.wf _ _ gc
 simp -implicitDefEqProofs(maxSteps:=999999)(disch:=first|with_reducible rfl|omega|(simp only[nA,nS,nD]<;>omega)|fail)only[go_sem,sort_ev gc (by omega) (by omega)]
 exact q _ _ (o.1.set lc lc2 hw _) lc (get_set_same rfl)
theorem sorted0_ev {h:H}(hw:h.wf){x:V}(hx:SlAt h x 1 (([]:List Int).map encI)){b:Nat}(g:h.get b=some (.cells .rw [x]))(Q:V→H→Prop)
  (q:∀h',h.Sub h'→Q .nils h'):Ev fnG fastA (.fn 114 [] []) [.fn 161 [] [.ptr b 0]] h Q:=by
 refine Ev_body (fd:=c114) rfl rfl rfl ?_
 simp -implicitDefEqProofs(maxSteps:=999999)(disch:=first|with_reducible rfl|omega|(simp only[nA,nS,nD]<;>omega)|fail)only[c114,go_sem]
 refine collectInt_ev hw hx (by simp) g _ fun w h' o o0=>?_
 have e:w=.nils:=o0 rfl
 subst e
 simp -implicitDefEqProofs(maxSteps:=999999)(disch:=first|with_reducible rfl|omega|(simp only[nA,nS,nD]<;>omega)|fail)only[go_sem,sort0_ev]
 exact q _ o.1
end Go.Ab.Tryz
namespace Go.Ab.Tryz
open Go.Proofs
def lstF (l:List Int)(i:Nat):Bool:=l.any fun r=>decide ((i:Int)=r)
def agreeR (a:At)(l:List Int):Bool × Int:=
 if checkA a≠0 then(false,checkA a) else if(l.all fun i=>inB i 0 ((a.rds.length:Int)-1))=false then(false,1) else if(risL l).length<l.length then(false,5) else(decide (casesL a (lstF l)≠[]),0)
theorem compact0_ev {h:H}(Q:V→H→Prop):Ev fnG fastA (.fn 116 [] []) [.nils] h Q=Q .nils h:=by
 have h02:decide ((0:Int)<2)=true:=rfl
 refine Ev.det (Ev_body (fd:=c116) rfl rfl rfl ?_) Q
 simp -implicitDefEqProofs(maxSteps:=999999)(disch:=first|with_reducible rfl|omega|(simp only[nA,nS,nD]<;>omega)|fail)only[c116,go_sem,h02]
theorem sortedC_ev {h:H}(hw:h.wf){x:V}{l:List Int}(hx:SlAt h x 1 (l.map encI))(hl:l.length≤100000){b:Nat}(g:h.get b=some (.cells .rw [x]))(Q:V→H→Prop)
  (q:∀w h',h.Sub h'→(∀Q2:V→H→Prop,(∀w2 h2,h.Sub h2→SlAt h2 w2 1 ((risL l).map encI)→Q2 w2 h2)→Ev fnG fastA (.fn 116 [] []) [w] h' Q2)→Q w h'):Ev fnG fastA (.fn 114 [] []) [.fn 161 [] [.ptr b 0]] h Q:=by
 by_cases hnil:l=[]
 ·subst hnil
  refine sorted0_ev hw hx g _ fun h' s=>q _ _ s fun Q2 q2=>?_
  rw[compact0_ev]
  exact q2 _ _ s (show SlAt _ _ 1 (([]:List Int).map encI) from⟨by simp,by simp,.inl ⟨rfl,rfl⟩⟩)
 ·refine sorted_ev hw hx hnil hl g _ fun c h' s lc gc=>q _ _ s fun Q2 q2=>?_
  have hlen:=sortI_len l
  have lp:=List.length_pos_iff.2 hnil
  rw[←hlen]
  exact Compact_ev s hw lc gc (by omega) (by omega) _ fun w2 h2 s2 _ x2=>q2 _ _ s2 x2
theorem agree1_ev {h:H}(hw:h.wf){a:At}{C R G:V}(x:AtAt h C R G a){b:Nat}(g:h.get b=some (.cells .rw (atV a C R G)))(n:Int):PureA h (.fn 113 [] [.ptr b 0]) [.int .i64 n] (.bool (inB n 0 ((a.rds.length:Int)-1))):=by
 intro h1 s
 refine Ev.gen fun Q q=>?_
 have hlR:=x.r.lenE
 have hb:=x.r.2.1
 rw[List.length_map] at hb
 have w1:wr .i64 ((a.rds.length:Int)-1)=(a.rds.length:Int)-1:=wr_in (by omega) (by omega)
 refine Ev_body (fd:=c113) rfl rfl rfl ?_
 simp -implicitDefEqProofs(maxSteps:=999999)(disch:=first|with_reducible rfl|omega|(simp only[nA,nS,nD]<;>omega)|fail)only[c113,go_sem,cells_of (s.get g),hlR,w1,in_eq]
 exact q _ _ ⟨rfl,H.Sub.refl s.wf⟩
theorem some1_ev {h:H}{x:V}{l:List Int}(hx:SlAt h x 1 (l.map encI)){b:Nat}(g:h.get b=some (.cells .rw [x]))(n:Int):PureA h (.fn 162 [] [.ptr b 0]) [.int .i64 n] (.bool (l.any fun r=>decide (n=r))):=by
 intro h1 s
 refine Ev.gen fun Q q=>?_
 refine Ev_body (fd:=c162) rfl rfl rfl ?_
 simp -implicitDefEqProofs(maxSteps:=999999)(disch:=first|with_reducible rfl|omega|(simp only[nA,nS,nD]<;>omega)|fail)only[c162,go_sem,cells_of (s.get g)]
 refine hasInt_ev s.wf (hx.mono s) n _ fun h2 s2=>?_
 simp -implicitDefEqProofs(maxSteps:=999999)(disch:=first|with_reducible rfl|omega|(simp only[nA,nS,nD]<;>omega)|fail)only[go_sem]
 exact q _ _ ⟨rfl,s2⟩
theorem some_eq {h:H}{x:V}(hx:x.one=true)(Q:V→H→Prop):Ev fnG fastA (.fn 117 [] []) [x] h Q=Q (.agg [.fn 162 [] [.ptr h.next 0]]) ((h.add (.cells .rw [x])).add (.cells .rw [.fn 162 [] [.ptr h.next 0]])):=by
 refine Ev.det (Ev_body (fd:=c117) rfl rfl rfl ?_) Q
 simp -implicitDefEqProofs(maxSteps:=999999)(disch:=first|with_reducible rfl|omega|(simp only[nA,nS,nD]<;>omega)|fail)only[c117,go_sem,hx,cells_one hx]
set_option maxHeartbeats 4000000 in
theorem Agree_ev {h:H}(hw:h.wf){a:At}{C R G:V}(x:AtAt h C R G a){y:V}{l:List Int}(hy:SlAt h y 1 (l.map encI))(hl:l.length≤100000)(Q:V→H→Prop)(q:∀h',h.Sub h'→Q (.tup [.bool (agreeR a l).1,.int .i64 (agreeR a l).2]) h'):
  Ev fnG fastA (.fn 43 [] []) [.agg (atV a C R G),y] h Q:=by
 have oC:=x.c.one;have oR:=x.r.one;have oG:=x.g.one
 have oy:=hy.one
 refine Ev_body (fd:=c43) rfl rfl rfl ?_
 obtain⟨z,hz⟩:∃z,h.add (.cells .rw (atV a C R G))=z:=⟨_,rfl⟩
 have sz:h.Sub z:=by rw[←hz];exact(by repeat(first|assumption|exact H.Sub.refl (by assumption)|refine H.Sub.add ?_ _|refine H.Sub.set ?_ (by first|omega|(simp only[H.next_add,H.next_set,H.next_del]<;>omega)) (by first|omega|(simp only[H.next_add,H.next_set,H.next_del]<;>omega)) (by assumption) _))
 have ga:z.get h.next=some (.cells .rw (atV a C R G)):=by rw[←hz];exact get_add_new rfl
 simp -implicitDefEqProofs(maxSteps:=999999)(disch:=first|with_reducible rfl|omega|(simp only[nA,nS,nD]<;>omega)|fail)only[c43,go_sem,oC,oR,oG]
 rw[hz]
 clear hz
 refine check_ev sz.wf ⟨C,R,G,rfl,x.mono sz⟩ _ fun z1 s1=>?_
 have s01:=sz.trans s1
 by_cases he:checkA a=0
 case neg=>
  simp -implicitDefEqProofs(maxSteps:=999999)(disch:=first|with_reducible rfl|omega|(simp only[nA,nS,nD]<;>omega)|fail)only[go_sem,he,ne_eq,not_false_eq_true]
  have e:agreeR a l=(false,checkA a):=if_pos he
  rw[e] at q
  exact q _ s01
 have r:=checkA_iff.1 he
 rw[he]
 have g1:=s1.get ga
 simp -implicitDefEqProofs(maxSteps:=999999)(disch:=first|with_reducible rfl|omega|(simp only[nA,nS,nD]<;>omega)|fail)only[go_sem,ne_eq,not_true_eq_false]
 refine(everyInt_ev (p:=fun i=>inB i 0 ((a.rds.length:Int)-1)) s01.wf (hy.mono s01) fun n _=>agree1_ev s01.wf (x.mono s01) g1 n).mono fun _ z2 hv=>?_
 obtain⟨rfl,s2⟩:=hv
 have s02:=s01.trans s2
 cases hall:(l.all fun i=>inB i 0 ((a.rds.length:Int)-1)) with
 |false=>
  have e:agreeR a l=(false,1):=by unfold agreeR;rw[if_neg (by rw[he];simp),if_pos hall]
  rw[e] at q
  simp -implicitDefEqProofs(maxSteps:=999999)(disch:=first|with_reducible rfl|omega|(simp only[nA,nS,nD]<;>omega)|fail)only[go_sem]
  exact q _ s02
 |true=>
 have e:agreeR a l=if(risL l).length<l.length then(false,5) else(decide (casesL a (lstF l)≠[]),0):=by unfold agreeR;rw[if_neg (by rw[he];simp),if_neg (by rw[hall];simp)]
 have sA:=(H.Sub.refl s02.wf).add (.cells .rw [y])
 have gA:(z2.add (.cells .rw [y])).get z2.next=some (.cells .rw [y]):=get_add_new rfl
 have hly:=hy.lenE
 have g2:=s2.get g1
 simp -implicitDefEqProofs(maxSteps:=999999)(disch:=first|with_reducible rfl|omega|(simp only[nA,nS,nD]<;>omega)|fail)only[go_sem,values_eq oy]
 obtain⟨zA,hzA⟩:∃zA,z2.add (.cells .rw [y])=zA:=⟨_,rfl⟩
 rw[hzA] at sA gA
 try rw[hzA]
 clear hzA
 have s0A:=s02.trans sA
 have hyA:=hy.mono s0A
 refine sortedC_ev sA.wf hyA hl gA _ fun w zB sB hcomp=>?_
 simp -implicitDefEqProofs(maxSteps:=999999)(disch:=first|with_reducible rfl|omega|(simp only[nA,nS,nD]<;>omega)|fail)only[go_sem]
 refine hcomp _ fun w2 zC sC xw=>?_
 have hlw:=xw.lenE
 have s0C:=s0A.trans sC
 have gC:=(sA.trans sC).get g2
 by_cases hd:(risL l).length<l.length
 ·have hd':((risL l).length:Int)<(l.length:Int):=by omega
  rw[if_pos hd] at e
  rw[e] at q
  simp -implicitDefEqProofs(maxSteps:=999999)(disch:=first|with_reducible rfl|omega|(simp only[nA,nS,nD]<;>omega)|fail)only[go_sem,hlw,hly,hd']
  exact q _ s0C
 have hd':¬((risL l).length:Int)<(l.length:Int):=by omega
 rw[if_neg hd] at e
 rw[e] at q
 simp -implicitDefEqProofs(maxSteps:=999999)(disch:=first|with_reducible rfl|omega|(simp only[nA,nS,nD]<;>omega)|fail)only[go_sem,hlw,hly,hd',some_eq oy,cells_of gC]
 obtain⟨zD,hzD⟩:∃zD,(zC.add (.cells .rw [y])).add (.cells .rw [.fn 162 [] [.ptr zC.next 0]])=zD:=⟨_,rfl⟩
 have sD:zC.Sub zD:=by rw[←hzD];exact((H.Sub.refl sC.wf).add _).add _
 have gD:zD.get zC.next=some (.cells .rw [y]):=by rw[←hzD,get_add_old (by rw[H.next_add];omega)];exact get_add_new rfl
 try rw[hzD]
 clear hzD
 have s0D:=s0C.trans sD
 refine worked_ev s0D.wf (x.mono s0D) r rfl _ fun d W ms zE sE ld dk=>?_
 have s0E:=s0D.trans sE
 simp -implicitDefEqProofs(maxSteps:=999999)(disch:=first|with_reducible rfl|omega|(simp only[nA,nS,nD]<;>omega)|fail)only[go_sem,cells_of gC,cells_of (sD.get gC),cells_of ((sD.trans sE).get gC)]
 refine agreed_ev s0E.wf dk r (cnt:=lstF l) (fun i _=>some1_ev (hy.mono s0E) (sE.get gD) i) _ fun zF sF=>?_
 simp -implicitDefEqProofs(maxSteps:=999999)(disch:=first|with_reducible rfl|omega|(simp only[nA,nS,nD]<;>omega)|fail)only[go_sem,cells_of gC,cells_of (sD.get gC)]
 exact q _ (s0E.trans sF)
end Go.Ab.Tryz
namespace Go.Ab.Silk
def comb:Nat→Nat→Int→List (List Int)
 |0,_,_=>[[]]
 |_+1,0,_=>[]
 |k+1,f+1,i=>(comb k f (i+1)).map (fun l=>i::l)++comb (k+1) f (i+1)
def lexlt:List Int→List Int→Bool
 |a::l,b::r=>if a=b then lexlt l r else decide (a<b)
 |_,_=>false
def before (a b:List Int):Bool:=if a.length=b.length then lexlt a b else decide (a.length<b.length)
def Inc (hi:Int):Int→List Int→Prop
 |_,[]=>True
 |i,a::l=>i≤a∧a<hi∧Inc hi (a+1) l
theorem Inc.lower {hi:Int}:∀{i j:Int} {l:List Int},Inc hi i l→j≤i→Inc hi j l
 |_,_,[],_,_=>trivial
 |i,j,a::l,h,hj=>⟨by have:=h.1;omega,h.2.1,h.2.2⟩
theorem Inc.len {hi:Int}:∀{i:Int} {l:List Int},Inc hi i l→i≤hi→(l.length:Int)≤hi-i
 |i,[],_,h=>by simp only[List.length_nil];omega
 |i,a::l,h,hl=>by
  have:=Inc.len h.2.2 (by have:=h.2.1;omega)
  have:=h.1
  simp only[List.length_cons];omega
theorem mem_comb:∀(k f:Nat) (i:Int) (l:List Int),l∈comb k f i↔l.length=k∧Inc (i+f) i l
 |0,f,i,l=>by
  simp only[comb,List.mem_singleton]
  constructor
  ·rintro rfl;exact⟨rfl,trivial⟩
  ·rintro⟨h,_⟩;exact List.length_eq_zero_iff.1 h
 |k+1,0,i,l=>by
  simp only[comb,List.not_mem_nil,false_iff]
  rintro⟨h,h2⟩
  cases l with
  |nil=>cases h
  |cons a l=>have:=h2.1;have:=h2.2.1;omega
 |k+1,f+1,i,l=>by
  simp only[comb,List.mem_append,List.mem_map,mem_comb k f (i+1),mem_comb (k+1) f (i+1)]
  have e:i+1+(f:Int)=i+((f+1:Nat):Int):=by omega
  rw[e]
  constructor
  ·rintro(⟨c,⟨h1,h2⟩,rfl⟩|⟨h1,h2⟩)
   ·exact⟨by simp[h1],Int.le_refl _,by omega,h2⟩
   ·exact⟨h1,h2.lower (by omega)⟩
  ·rintro⟨h1,h2⟩
   cases l with
   |nil=>cases h1
   |cons a l=>
    simp only[List.length_cons,Nat.add_right_cancel_iff] at h1
    by_cases ha:a=i
    ·subst ha;exact .inl ⟨l,⟨h1,h2.2.2⟩,rfl⟩
    ·exact .inr ⟨by simp[h1],⟨by have:=h2.1;omega,h2.2.1,h2.2.2⟩⟩
theorem lexlt_irrefl:∀l,lexlt l l=false
 |[]=>rfl
 |a::l=>by simp[lexlt,lexlt_irrefl l]
theorem lexlt_trans:∀{a b c:List Int},lexlt a b=true→lexlt b c=true→lexlt a c=true
 |[],_,_,h,_=>by simp[lexlt] at h
 |_::_,[],_,h,_=>by simp[lexlt] at h
 |_::_,_::_,[],_,h=>by simp[lexlt] at h
 |x::a,y::b,z::c,h1,h2=>by
  simp only[lexlt] at *
  by_cases e1:x=y
  ·subst e1
   simp only[↓reduceIte] at h1
   by_cases e2:x=z
   ·subst e2
    simp only[↓reduceIte] at h2⊢
    exact lexlt_trans h1 h2
   ·rw[if_neg e2] at h2⊢;exact h2
  ·rw[if_neg e1] at h1
   by_cases e2:y=z
   ·subst e2;rw[if_neg e1];exact h1
   ·rw[if_neg e2] at h2
    simp only[decide_eq_true_eq] at h1 h2
    rw[if_neg (by omega)];simp only[decide_eq_true_eq];omega
theorem lexlt_total:∀{a b:List Int},a.length=b.length→lexlt a b=false→a=b∨lexlt b a=true
 |[],[],_,_=>.inl rfl
 |[],_::_,h,_=>by cases h
 |_::_,[],h,_=>by cases h
 |x::a,y::b,hl,h=>by
  simp only[lexlt] at *
  by_cases e:x=y
  ·subst e
   simp only[↓reduceIte] at h⊢
   rcases lexlt_total (by simpa using hl) h with h|h
   ·exact .inl (by rw[h])
   ·exact .inr h
  ·rw[if_neg e] at h
   rw[if_neg (fun e'=>e e'.symm)]
   simp only[decide_eq_false_iff_not] at h
   exact .inr (by simp only[decide_eq_true_eq];omega)
theorem before_irrefl (l:List Int):before l l=false:=by simp[before,lexlt_irrefl]
theorem before_trans {a b c:List Int}(h1:before a b=true)(h2:before b c=true):before a c=true:=by
 unfold before at *
 by_cases e1:a.length=b.length
 ·rw[if_pos e1] at h1
  by_cases e2:b.length=c.length
  ·rw[if_pos e2] at h2;rw[if_pos (by omega)];exact lexlt_trans h1 h2
  ·rw[if_neg e2] at h2
   simp only[decide_eq_true_eq] at h2
   rw[if_neg (by omega)];simp only[decide_eq_true_eq];omega
 ·rw[if_neg e1] at h1
  simp only[decide_eq_true_eq] at h1
  by_cases e2:b.length=c.length
  ·rw[if_neg (by omega)];simp only[decide_eq_true_eq];omega
  ·rw[if_neg e2] at h2
   simp only[decide_eq_true_eq] at h2
   rw[if_neg (by omega)];simp only[decide_eq_true_eq];omega
theorem before_total {a b:List Int}(h:before a b=false):a=b∨before b a=true:=by
 unfold before at *
 by_cases e:a.length=b.length
 ·rw[if_pos e] at h;rw[if_pos e.symm];exact lexlt_total e h
 ·rw[if_neg e] at h
  rw[if_neg (fun e'=>e e'.symm)]
  simp only[decide_eq_false_iff_not,decide_eq_true_eq] at *
  exact .inr (by omega)
theorem find_min (P:List Int→Bool):∀(k f:Nat) (i:Int) {c:List Int},(comb k f i).find? P=some c→c∈comb k f i∧P c=true∧∀d∈comb k f i,P d=true→d=c∨lexlt c d=true
 |0,f,i,c,h=>by
  simp only[comb] at *
  have h1:=List.mem_of_find?_eq_some h
  have h2:=List.find?_some h
  refine⟨h1,h2,fun d hd _=>.inl ?_⟩
  rw[List.mem_singleton] at h1 hd
  rw[h1,hd]
 |k+1,0,i,c,h=>by simp[comb] at h
 |k+1,f+1,i,c,h=>by
  simp only[comb] at *
  rw[List.find?_append] at h
  cases h1:((comb k f (i+1)).map (fun l=>i::l)).find? P with
  |some x=>
   rw[h1] at h
   have hx:x=c:=by simpa using h
   subst hx
   rw[List.find?_map] at h1
   rw[Option.map_eq_some_iff] at h1
   obtain⟨y,h1,rfl⟩:=h1
   obtain⟨m1,m2,m3⟩:=find_min (P∘ fun l=>i::l) k f (i+1) h1
   refine⟨List.mem_append.2 (.inl (List.mem_map.2 ⟨y,m1,rfl⟩)),m2,fun d hd hp=>?_⟩
   rcases List.mem_append.1 hd with hd|hd
   ·obtain⟨z,hz,rfl⟩:=List.mem_map.1 hd
    rcases m3 z hz hp with rfl|h
    ·exact .inl rfl
    ·exact .inr (by simp[lexlt,h])
   ·right
    obtain⟨d1,d2⟩:=(mem_comb _ _ _ _).1 hd
    cases d with
    |nil=>cases d1
    |cons a d=>
     have:=d2.1
     simp only[lexlt]
     rw[if_neg (by omega)];simp only[decide_eq_true_eq];omega
  |none=>
   rw[h1] at h
   have h2:(comb (k+1) f (i+1)).find? P=some c:=by simpa using h
   obtain⟨m1,m2,m3⟩:=find_min P (k+1) f (i+1) h2
   refine⟨List.mem_append.2 (.inr m1),m2,fun d hd hp=>?_⟩
   rcases List.mem_append.1 hd with hd|hd
   ·have:=List.find?_eq_none.1 h1 d hd
    exact absurd hp this
   ·exact m3 d hd hp
def firstOf (P:List Int→Bool)(W:Nat):Nat→Nat→Option (List Int)
 |0,_=>none
 |r+1,k=>match(comb k W 0).find? P with
  |some c=>some c
  |none=>firstOf P W r (k+1)
structure IsMin (P:List Int→Bool)(W:Nat)(c:List Int):Prop where
 inc:Inc W 0 c
 holds:P c=true
 min:∀d,Inc W 0 d→P d=true→d=c∨before c d=true
theorem IsMin.uniq {P:List Int→Bool}{W:Nat}{c d:List Int}(h:IsMin P W c)(k:IsMin P W d):c=d:=by
 rcases h.min d k.inc k.holds with e|e
 ·exact e.symm
 ·rcases k.min c h.inc h.holds with e2|e2
  ·exact e2
  ·have:=before_trans e e2
   rw[before_irrefl] at this;cases this
theorem firstOf_spec (P:List Int→Bool)(W:Nat):∀(r k:Nat),r+k=W+1→(∀d,Inc W 0 d→d.length<k→P d=false)→
  (∃c,firstOf P W r k=some c∧IsMin P W c)∨(firstOf P W r k=none∧∀d,Inc W 0 d→P d=false)
 |0,k,hk,h=>.inr ⟨rfl,fun d hd=>h d hd (by have:=hd.len (by omega);omega)⟩
 |r+1,k,hk,h=>by
  simp only[firstOf]
  cases hf:(comb k W 0).find? P with
  |some c=>
   obtain⟨m1,m2,m3⟩:=find_min P k W 0 hf
   obtain⟨c1,c2⟩:=(mem_comb _ _ _ _).1 m1
   rw[Int.zero_add] at c2
   refine .inl ⟨c,rfl,c2,m2,fun d hd hp=>?_⟩
   have hl:¬d.length<k:=fun hl=>by rw[h d hd hl] at hp;cases hp
   by_cases e:d.length=k
   ·rcases m3 d ((mem_comb _ _ _ _).2 ⟨e,by rw[Int.zero_add];exact hd⟩) hp with h1|h1
    ·exact .inl h1
    ·exact .inr (by unfold before;rw[if_pos (by omega)];exact h1)
   ·exact .inr (by unfold before;rw[if_neg (by omega)];simp only[decide_eq_true_eq];omega)
  |none=>
   refine firstOf_spec P W r (k+1) (by omega) fun d hd hl=>?_
   by_cases e:d.length=k
   ·have:=List.find?_eq_none.1 hf d ((mem_comb _ _ _ _).2 ⟨e,by rw[Int.zero_add];exact hd⟩)
    simpa using this
   ·exact h d hd (by omega)
def bitsL:Nat→Int→Int→List Int
 |0,_,_=>[]
 |k+1,s,i=>if s%2=1 then i::bitsL k (s/2) (i+1) else bitsL k (s/2) (i+1)
theorem bitsL_inc:∀(k:Nat) (s i:Int),Inc (i+k) i (bitsL k s i)
 |0,_,_=>trivial
 |k+1,s,i=>by
  have ih:=bitsL_inc k (s/2) (i+1)
  have e:i+1+(k:Int)=i+((k+1:Nat):Int):=by omega
  rw[e] at ih
  simp only[bitsL]
  split
  ·exact⟨Int.le_refl _,by omega,ih⟩
  ·exact ih.lower (by omega)
theorem bitsL_onto:∀(k:Nat) (i:Int) (d:List Int),Inc (i+k) i d→∃s:Int,0≤s∧s<2^k∧bitsL k s i=d
 |0,i,[],_=>⟨0,by omega,by decide,rfl⟩
 |0,i,a::d,h=>by have:=h.1;have:=h.2.1;omega
 |k+1,i,d,h=>by
  have e:i+1+(k:Int)=i+((k+1:Nat):Int):=by omega
  have p2:(2:Int)^(k+1)=2^k*2:=Int.pow_succ 2 k
  by_cases hd:∃l,d=i::l
  ·obtain⟨l,rfl⟩:=hd
   obtain⟨s,s0,s1,hs⟩:=bitsL_onto k (i+1) l (by rw[e];exact h.2.2)
   refine⟨2*s+1,by omega,by omega,?_⟩
   simp only[bitsL]
   rw[if_pos (by omega),show(2*s+1)/2=s by omega,hs]
  ·have h2:Inc (i+1+k) (i+1) d:=by
    rw[e]
    cases d with
    |nil=>trivial
    |cons a l=>exact⟨by have:=h.1;have:a≠i:=fun e=>hd ⟨l,by rw[e]⟩;omega,h.2.1,h.2.2⟩
   obtain⟨s,s0,s1,hs⟩:=bitsL_onto k (i+1) d h2
   refine⟨2*s,by omega,by omega,?_⟩
   simp only[bitsL]
   rw[if_neg (by omega),show(2*s)/2=s by omega,hs]
def BestUpto (P:List Int→Bool)(W:Nat)(s0 s:Int)(best:Option (List Int)):Prop:=match best with
 |none=>∀t,s0≤t→t<s→P (bitsL W t 0)=false
 |some c=>(∃t,c=bitsL W t 0)∧P c=true∧∀t,s0≤t→t<s→P (bitsL W t 0)=true→bitsL W t 0=c∨before c (bitsL W t 0)=true
theorem BestUpto.zero (P:List Int→Bool)(W:Nat)(s0:Int):BestUpto P W s0 s0 none:=fun t h1 h2=>by omega
theorem BestUpto.take {P:List Int→Bool}{W:Nat}{s0 s:Int}{best:Option (List Int)}(h:BestUpto P W s0 s best)(hp:P (bitsL W s 0)=true)(hb:∀c,best=some c→before (bitsL W s 0) c=true):BestUpto P W s0 (s+1) (some (bitsL W s 0)):=by
 refine⟨⟨s,rfl⟩,hp,fun t t0 t1 ht=>?_⟩
 by_cases e:t=s
 ·subst e;exact .inl rfl
 ·cases best with
  |none=>have:=h t t0 (by omega);rw[this] at ht;cases ht
  |some c=>
   right
   rcases h.2.2 t t0 (by omega) ht with h1|h1
   ·rw[h1];exact hb c rfl
   ·exact before_trans (hb c rfl) h1
theorem BestUpto.skip {P:List Int→Bool}{W:Nat}{s0 s:Int}{best:Option (List Int)}(h:BestUpto P W s0 s best)(hp:P (bitsL W s 0)=false∨∃c,best=some c∧before (bitsL W s 0) c=false):BestUpto P W s0 (s+1) best:=by
 cases best with
 |none=>
  intro t t0 t1
  by_cases e:t=s
  ·subst e
   rcases hp with hp|⟨c,hc,_⟩
   ·exact hp
   ·cases hc
  ·exact h t t0 (by omega)
 |some c=>
  refine⟨h.1,h.2.1,fun t t0 t1 ht=>?_⟩
  by_cases e:t=s
  ·subst e
   rcases hp with hp|⟨c',hc,hb⟩
   ·rw[hp] at ht;cases ht
   ·cases hc;exact before_total hb
  ·exact h.2.2 t t0 (by omega) ht
theorem BestUpto.last {P:List Int→Bool}{W:Nat}{s0:Int}{best:Option (List Int)}(h0:0≤s0)(h:BestUpto P W s0 (2^W) best)(hs:∀t,0≤t→t<s0→P (bitsL W t 0)=false):
  best=firstOf P W (W+1) 0:=by
 have inc:∀t,Inc W 0 (bitsL W t 0):=fun t=>by have:=bitsL_inc W t 0;rwa[Int.zero_add] at this
 have onto:∀d,Inc W 0 d→∃s:Int,0≤s∧s<2^W∧bitsL W s 0=d:=fun d hd=>bitsL_onto W 0 d (by rw[Int.zero_add];exact hd)
 rcases firstOf_spec P W (W+1) 0 (by omega) (fun d _ h=>by omega) with⟨c,e,m⟩|⟨e,m⟩
 ·rw[e]
  cases best with
  |none=>
   obtain⟨t,t0,t1,rfl⟩:=onto c m.inc
   have hm:=m.holds
   by_cases ht:t<s0
   ·rw[hs t t0 ht] at hm;cases hm
   ·rw[h t (by omega) t1] at hm;cases hm
  |some d=>
   obtain⟨⟨t,rfl⟩,h2,h3⟩:=h
   have:IsMin P W (bitsL W t 0):=⟨inc t,h2,fun d hd hp=>by
    obtain⟨u,u0,u1,rfl⟩:=onto d hd
    by_cases hu:u<s0
    ·rw[hs u u0 hu] at hp;cases hp
    ·exact h3 u (by omega) u1 hp⟩
   rw[this.uniq m]
 ·rw[e]
  cases best with
  |none=>rfl
  |some d=>
   obtain⟨⟨t,rfl⟩,h2,h3⟩:=h
   rw[m _ (inc t)] at h2;cases h2
end Go.Ab.Silk
namespace Go.Ab
theorem Keeps.sub {S:Nat→Prop}{h0 h h':H}(k:Keeps S h h')(s:h0.Sub h)(hw0:h0.wf)(hS:∀c,S c→h0.next≤c)(hw:h'.wf):h0.Sub h':=
 ⟨⟨Nat.le_trans s.next k.1,fun b y e=>k.2 b y (s.get e) fun hs=>by have:=hS b hs;have:=hw0 b y e;omega⟩,hw⟩
theorem nblk (b:Nat):¬blkOf .nils b:=fun⟨_,_,_,e⟩=>by cases e
end Go.Ab
namespace Go.Ab.Tryz
open Go.Proofs
open Go.Ab.Silk (comb)
theorem find_step (P:List Int→Bool)(l:List Int)(k f:Nat)(j:Int):(comb (k+1) (f+1) j).find? (fun c=>P (l++c))=
  match(comb k f (j+1)).find? (fun c=>P ((l++[j])++c)) with|some c=>some (j::c)|none=>(comb (k+1) f (j+1)).find? (fun c=>P (l++c)):=by
 simp only[comb,List.find?_append,List.find?_map]
 have e:(fun c=>P (l++c))∘ (fun l'=>j::l')=fun c=>P ((l++[j])++c):=by
  funext c;simp
 rw[e]
 cases(comb k f (j+1)).find? (fun c=>P ((l++[j])++c))<;>simp
def FnHolds (hb:H)(fv:V)(S:Nat→Prop)(I:H→Prop)(n:Nat)(P:List Int→Bool)(Post:List Int→H→Prop):Prop:=∀(l:List Int) (x:V) (h1:H),(∀a∈l,0≤a∧a<(n:Int))→hb.Sub h1→SlAt h1 x 1 (l.map encI)→l.length≤20→(∀b,blkOf x b→hb.next≤b∧¬S b)→I h1→
 ∀R:V→H→Prop,(∀h2,Keeps S h1 h2→h2.wf→I h2→(P l=true→Post l h2)→R (.bool (P l)) h2)→Ev fnG fastA fv [x] h1 R
def LsRes (P:List Int→Bool)(Post:List Int→H→Prop)(l:List Int)(r:Option (List Int))(t:Bool)(h':H):Prop:=match r with
 |some c=>t=true∧P (l++c)=true∧Post (l++c) h'
 |none=>t=false
set_option maxHeartbeats 2000000 in
theorem lists1_ev {hb:H}(hwb:hb.wf){fv:V}{P:List Int→Bool}{Post:List Int→H→Prop}{S:Nat→Prop}{I:H→Prop}{kC fC nC gC:Nat}{many n:Nat}(hP:FnHolds hb fv S I n P Post)(hI:∀h h',I h→h.Sub h'→I h')(ho:∀c,S c→hb.next≤c)(hS:∀h c,I h→S c→c<h.next)(n1:¬S kC)(n2:¬S fC)(n3:¬S nC)(n4:¬S gC)(hmany:many≤20)(hn:n≤1000):
  ∀(k:Nat) (h:H) (x:V) (l:List Int) (i:Nat),l.length+k=many→(∀a∈l,0≤a∧a<(n:Int))→hb.Sub h→h.cells kC=some [.int .i64 (many:Int)]→h.cells fC=some [fv]→h.cells nC=some [.int .i64 (n:Int)]→h.cells gC=some [.fn 152 [] [.ptr kC 0,.ptr fC 0,.ptr nC 0,.ptr gC 0]]→
   I h→SlAt h x 1 (l.map encI)→(∀b,blkOf x b→hb.next≤b∧¬S b)→i≤n→∀(Q:V→H→Prop),(∀t h',Keeps S h h'→h'.wf→I h'→LsRes P Post l ((comb k (n-i) (i:Int)).find? fun c=>P (l++c)) t h'→Q (.bool t) h')→
   Ev fnG fastA (.fn 152 [] [.ptr kC 0,.ptr fC 0,.ptr nC 0,.ptr gC 0]) [x,.int .i64 (i:Int)] h Q:=by
 intro k
 induction k with
 |zero=>
  intro h x l i hk hlr hs cm ch cd cf go ax nx hi Q q
  have hlx:=ax.lenE
  have hll:(l.length:Int)=(many:Int):=by omega
  refine Ev_body (fd:=c152) rfl rfl rfl ?_
  simp -implicitDefEqProofs(maxSteps:=999999)(disch:=first|with_reducible rfl|omega|(simp only[nA,nS,nD]<;>omega)|fail)only[c152,go_sem,hlx,hll,cm,ch]
  refine hP l x h hlr hs ax (by omega) nx go _ fun h2 k2 w2 go2 hp=>?_
  simp -implicitDefEqProofs(maxSteps:=999999)(disch:=first|with_reducible rfl|omega|(simp only[nA,nS,nD]<;>omega)|fail)only[go_sem]
  refine q _ _ k2 w2 go2 ?_
  have e:(comb 0 (n-i) (i:Int)).find? (fun c=>P (l++c))=if P l=true then some [] else none:=by
   simp only[comb,List.find?_cons,List.find?_nil,List.append_nil]
   cases P l<;>rfl
  rw[e]
  cases hpl:P l
  ·exact rfl
  ·exact⟨rfl,by rw[List.append_nil];exact hpl,by rw[List.append_nil];exact hp hpl⟩
 |succ k ih=>
  intro h x l i hk hlr hs cm ch cd cf hgo ax nx hi Q q
  have hlx:=ax.lenE
  have hll:¬(l.length:Int)=(many:Int):=by omega
  refine Ev_body (fd:=c152) rfl rfl rfl ?_
  simp -implicitDefEqProofs(maxSteps:=999999)(disch:=first|with_reducible rfl|omega|(simp only[nA,nS,nD]<;>omega)|fail)only[c152,go_sem,hlx,hll,cm]
  refine W_count n (fun j s=>∃tm h',s=⟨tm,h',[]⟩∧Keeps S h h'∧h'.wf∧I h'∧((comb (k+1) (n-i) (i:Int)).find? fun c=>P (l++c))=((comb (k+1) (n-j) (j:Int)).find? fun c=>P (l++c))∧
    (Opd.t 0).ev tm=x∧(Opd.t 4).ev tm=.ptr nC 0∧(Opd.t 5).ev tm=.ptr gC 0∧(Opd.t 9).ev tm=.int .i64 (j:Int))
   ?_ ?_ (i:=i) hi ⟨_,_,rfl,Keeps.refl _ _,hs.wf,hgo,rfl,(by simp[ev_c,ev_put]<;>rfl),(by simp[ev_c,ev_put]<;>rfl),(by simp[ev_c,ev_put]<;>rfl),(by simp[ev_c,ev_put]<;>rfl)⟩
  ·rintro j s hj ⟨tm,h',rfl,kh,wh,go,hfind,t0,t4,t5,t9⟩
   have hj':(j:Int)<(n:Int):=by omega
   have hs':hb.Sub h':=kh.sub hs hwb ho wh
   have cm':=kh.cells cm n1
   have ch':=kh.cells ch n2
   have cd':=kh.cells cd n3
   have cf':=kh.cells cf n4
   have ax':=SlAt_keep ax kh fun b h0=>(nx b h0).2
   have hll2:(l.map encI).length≤20:=by simp;omega
   simp -implicitDefEqProofs(maxSteps:=999999)(disch:=first|with_reducible rfl|omega|(simp only[nA,nS,nD]<;>omega)|fail)only[go_sem,t0,t4,t5,t9,cd',hj',cf']
   refine cloneInt_ev wh ax' (by omega) _ fun v h1 ov=>?_
   have s01:=ov.1
   have cf1:=s01.cells cf'
   simp -implicitDefEqProofs(maxSteps:=999999)(disch:=first|with_reducible rfl|omega|(simp only[nA,nS,nD]<;>omega)|fail)only[go_sem,t0,t4,t5,t9]
   have s12:=(H.Sub.refl s01.wf).add (.cells .rw [.int .i64 (j:Int)])
   refine(ov.mono s12).app1 (by_:=8) (r:=encI (j:Int)) wh rfl (by omega) (SlAt.new _ rfl rfl rfl (by simp[encI]) (by simp)) rfl (by omega) (by omega) fun x2 h2 ox2 dx2 kx2=>?_
   have s02:=ox2.1
   have cf2:=s02.cells cf'
   have e2:l.map encI++[encI (j:Int)]=(l++[(j:Int)]).map encI:=by simp
   have ox2':=ox2
   rw[e2] at ox2'
   have ax2:SlAt h2 x2 1 ((l++[(j:Int)]).map encI):=ox2'.sl (by simp;omega)
   simp -implicitDefEqProofs(maxSteps:=999999)(disch:=first|with_reducible rfl|omega|(simp only[nA,nS,nD]<;>omega)|fail)only[go_sem,t0,t4,t5,t9,wr_succ]
   refine ih h2 x2 (l++[(j:Int)]) (j+1) (by simp;omega) (fun a ha=>(List.mem_append.1 ha).elim (hlr a) fun h=>by rw[List.mem_singleton] at h;omega) (hs'.trans s02) (s02.cells cm') (s02.cells ch') (s02.cells cd') cf2 (hI _ _ go s02) ax2 (fun b h0=>⟨by have:=(ox2.blk h0).1;have:=hs'.next;have:=s01.next;omega,fun hq=>by have:=(ox2.blk h0).1;have:=hS _ _ go hq;omega⟩) (by omega) _ fun t h3 k23 w3 go3 hres=>?_
   have k03:Keeps S h h3:=((kh.trans (Keeps.of s02 S)).trans k23).mono fun c h=>by rcases h with(h|h)|h<;>exact h
   have hst:=find_step P l k (n-(j+1)) (j:Int)
   have ef:n-j=(n-(j+1))+1:=by omega
   have ej:((j:Int)+1)=((j+1:Nat):Int):=by omega
   rw[ef,hst,ej] at hfind
   cases hr:(comb k (n-(j+1)) ((j+1:Nat):Int)).find? (fun c=>P ((l++[(j:Int)])++c)) with
   |some c=>
    rw[hr] at hres hfind
    obtain⟨rfl,hp1,hp2⟩:=hres
    simp -implicitDefEqProofs(maxSteps:=999999)(disch:=first|with_reducible rfl|omega|(simp only[nA,nS,nD]<;>omega)|fail)only[go_sem,t0,t4,t5,t9,cf',cf1,s12.cells cf1,cf2]
    refine q _ _ k03 w3 go3 ?_
    rw[hfind]
    exact⟨rfl,by rw[List.append_assoc] at hp1;exact hp1,by rw[List.append_assoc] at hp2;exact hp2⟩
   |none=>
    rw[hr] at hres hfind
    have hres:t=false:=hres
    subst hres
    simp -implicitDefEqProofs(maxSteps:=999999)(disch:=first|with_reducible rfl|omega|(simp only[nA,nS,nD]<;>omega)|fail)only[go_sem,t0,t4,t5,t9,cf',cf1,s12.cells cf1,cf2,wr_succ]
    exact⟨_,_,rfl,k03,w3,go3,hfind,(by simp[ev_c,ev_put,t0]<;>rfl),(by simp[ev_c,ev_put,t4]<;>rfl),(by simp[ev_c,ev_put,t5]<;>rfl),(by simp[ev_c,ev_put]<;>rfl)⟩
  ·rintro s ⟨tm,h',rfl,kh,wh,hgo',hfind,t0,t4,t5,t9⟩
   have cd':=kh.cells cd n3
   simp -implicitDefEqProofs(maxSteps:=999999)(disch:=first|with_reducible rfl|omega|(simp only[nA,nS,nD]<;>omega)|fail)only[go_sem,t0,t4,t5,t9,cd',Int.lt_irrefl]
   refine q _ _ kh wh hgo' ?_
   rw[hfind,Nat.sub_self]
   exact rfl
theorem lists_ev {hb h:H}(hwb:hb.wf){fv:V}{P:List Int→Bool}{Post:List Int→H→Prop}{S:Nat→Prop}{I:H→Prop}{k n:Nat}(hP:FnHolds hb fv S I n P Post)(hI:∀h h',I h→h.Sub h'→I h')(ho:∀c,S c→hb.next≤c)(hS:∀h c,I h→S c→c<h.next)(h1:fv.one=true)(hs:hb.Sub h)(go:I h)(hk:k≤20)(hn:n≤1000)(Q:V→H→Prop)
  (q:∀t h',Keeps S h h'→h'.wf→I h'→LsRes P Post [] ((comb k n 0).find? P) t h'→Q (.bool t) h'):Ev fnG fastA (.fn 84 [] []) [.int .i64 (k:Int),.int .i64 (n:Int),fv] h Q:=by
 have lo:∀c,S c→c<h.next:=fun c=>hS h c go
 refine Ev_body (fd:=c84) rfl rfl rfl ?_
 have sA:h.Sub ((((h.add (.cells .rw [.int .i64 (k:Int)])).add (.cells .rw [.int .i64 (n:Int)])).add (.cells .rw [fv])).add (.cells .rw [.fn 152 [] [.ptr h.next 0,.ptr (h.next+1+1) 0,.ptr (h.next+1) 0,.ptr (h.next+1+1+1) 0]])):=(((((H.Sub.refl hs.wf).add _).add _).add _).add _)
 have ck:((((h.add (.cells .rw [.int .i64 (k:Int)])).add (.cells .rw [.int .i64 (n:Int)])).add (.cells .rw [fv])).add (.cells .rw [.fn 152 [] [.ptr h.next 0,.ptr (h.next+1+1) 0,.ptr (h.next+1) 0,.ptr (h.next+1+1+1) 0]])).cells h.next=some [.int .i64 (k:Int)]:=by simp -implicitDefEqProofs(maxSteps:=999999)(disch:=first|with_reducible rfl|omega|(simp only[nA,nS,nD]<;>omega)|fail)only[go_sem]
 have cn:((((h.add (.cells .rw [.int .i64 (k:Int)])).add (.cells .rw [.int .i64 (n:Int)])).add (.cells .rw [fv])).add (.cells .rw [.fn 152 [] [.ptr h.next 0,.ptr (h.next+1+1) 0,.ptr (h.next+1) 0,.ptr (h.next+1+1+1) 0]])).cells (h.next+1)=some [.int .i64 (n:Int)]:=by simp -implicitDefEqProofs(maxSteps:=999999)(disch:=first|with_reducible rfl|omega|(simp only[nA,nS,nD]<;>omega)|fail)only[go_sem]
 have cf:((((h.add (.cells .rw [.int .i64 (k:Int)])).add (.cells .rw [.int .i64 (n:Int)])).add (.cells .rw [fv])).add (.cells .rw [.fn 152 [] [.ptr h.next 0,.ptr (h.next+1+1) 0,.ptr (h.next+1) 0,.ptr (h.next+1+1+1) 0]])).cells (h.next+1+1)=some [fv]:=by simp -implicitDefEqProofs(maxSteps:=999999)(disch:=first|with_reducible rfl|omega|(simp only[nA,nS,nD]<;>omega)|fail)only[go_sem]
 have cg:((((h.add (.cells .rw [.int .i64 (k:Int)])).add (.cells .rw [.int .i64 (n:Int)])).add (.cells .rw [fv])).add (.cells .rw [.fn 152 [] [.ptr h.next 0,.ptr (h.next+1+1) 0,.ptr (h.next+1) 0,.ptr (h.next+1+1+1) 0]])).cells (h.next+1+1+1)=some [.fn 152 [] [.ptr h.next 0,.ptr (h.next+1+1) 0,.ptr (h.next+1) 0,.ptr (h.next+1+1+1) 0]]:=by simp -implicitDefEqProofs(maxSteps:=999999)(disch:=first|with_reducible rfl|omega|(simp only[nA,nS,nD]<;>omega)|fail)only[go_sem]
 simp -implicitDefEqProofs(maxSteps:=999999)(disch:=first|with_reducible rfl|omega|(simp only[nA,nS,nD]<;>omega)|fail)only[c84,go_sem,h1,cells_one h1]
 generalize((((h.add (.cells .rw [.int .i64 (k:Int)])).add (.cells .rw [.int .i64 (n:Int)])).add (.cells .rw [fv])).add (.cells .rw [.fn 152 [] [.ptr h.next 0,.ptr (h.next+1+1) 0,.ptr (h.next+1) 0,.ptr (h.next+1+1+1) 0]]))=h5 at sA ck cn cf cg⊢
 have hl:=lists1_ev hwb hP hI ho hS (kC:=h.next) (fC:=h.next+1+1) (nC:=h.next+1) (gC:=h.next+1+1+1) (fun q=>by have:=lo _ q;omega) (fun q=>by have:=lo _ q;omega) (fun q=>by have:=lo _ q;omega) (fun q=>by have:=lo _ q;omega) (many:=k) (n:=n) hk hn k h5 .nils [] 0 (by simp) (by simp) (hs.trans sA) ck cf cn cg (hI _ _ go sA) ⟨by simp,by simp,.inl ⟨rfl,rfl⟩⟩ (fun b hb=>absurd hb (nblk b)) (Nat.zero_le _)
 refine hl _ fun t h6 k6 w6 go6 hres=>?_
 simp -implicitDefEqProofs(maxSteps:=999999)(disch:=first|with_reducible rfl|omega|(simp only[nA,nS,nD]<;>omega)|fail)only[go_sem]
 exact q t h6 (((Keeps.of sA S).trans k6).mono fun c h=>by rcases h with h|h<;>exact h) w6 go6 (by simpa using hres)
end Go.Ab.Tryz
namespace Go.Ab.Tryz
open Go.Proofs
open Go.Ab.Silk (comb firstOf)
theorem sl_noMap {h:H}{x:V}{sz:Nat}{rows:List (List V)}(a:SlAt h x sz rows)(m:Nat):x≠.map m:=by
 rcases a.2.2 with⟨e,_⟩|⟨_,_,_,_,e,_⟩<;>rw[e]<;>simp
theorem maps_keep {h h':H}{S:Nat→Prop}{W:V}{ms:List Nat}(w:SlAt h W 1 (ms.map fun b=>[V.map b]))(k:Keeps S h h')(n:∀b cs,S b→h.cells b=some cs→∀m,V.map m ∉cs):SlAt h' W 1 (ms.map fun b=>[V.map b]):=by
 obtain⟨a1,a0,a2⟩:=w
 refine⟨a1,a0,?_⟩
 rcases a2 with a2|⟨b,o,c,cs,e1,e2,e3⟩
 ·exact .inl a2
 ·refine .inr ⟨b,o,c,cs,e1,?_,e3⟩
  cases hm:ms with
  |nil=>exact .inl (by simp)
  |cons m ms'=>
   rw[hm] at e2 e3
   refine .inr ?_
   have e2:=e2.resolve_left (by simp)
   refine k.cells e2 fun hs=>n b cs hs e2 m ?_
   have h1:=(getN_eq.1 e3).1
   have h2:V.map m∈(((m::ms').map fun b=>[V.map b]).flatten):=by simp
   rw[h1] at h2
   exact List.mem_of_mem_drop (List.mem_of_mem_take h2)
def DI (hb:H)(a:At)(C R G W:V)(ms:List Nat)(d oC pC:Nat)(h:H):Prop:=∃y0 f,h.get oC=some (.cells .rw [y0])∧(∀m,y0≠.map m)∧(∀m,f≠.map m)∧Dk h d a C R G f W ms∧h.get pC=some (.cells .rw [.ptr d 0])∧hb.Sub h
section
variable {hb:H} {a:At} {C R G W:V} {ms:List Nat} {d oC pC:Nat}
theorem DI.mono {h h':H}(k:DI hb a C R G W ms d oC pC h)(s:h.Sub h'):DI hb a C R G W ms d oC pC h':=by
 obtain⟨y0,f,k1,k2,k3,k4,k5,k6⟩:=k
 exact⟨y0,f,s.get k1,k2,k3,k4.mono s,s.get k5,k6.trans s⟩
theorem DI.lt {h:H}(k:DI hb a C R G W ms d oC pC h)(c:Nat)(hc:c=oC∨c=d):c<h.next:=by
 obtain⟨y0,f,k1,k2,k3,k4,k5,k6⟩:=k
 rcases hc with rfl|rfl
 ·exact k6.wf _ _ k1
 ·exact k6.wf _ _ k4.dk
theorem DI.put {h:H}(hwb:hb.wf)(xb:AtAt hb C R G a)(l1:hb.next≤d)(l2:hb.next≤oC)(n1:oC≠d)(n2:pC≠d)(n3:pC≠oC)(k:DI hb a C R G W ms d oC pC h){y f:V}(hy:∀m,y≠.map m)(hf:∀m,f≠.map m):
  DI hb a C R G W ms d oC pC ((h.set oC (.cells .rw [y])).set d (.cells .rw [.int .i64 a.mins,.int .i64 a.evs,C,R,G,f,W]))∧Dk ((h.set oC (.cells .rw [y])).set d (.cells .rw [.int .i64 a.mins,.int .i64 a.evs,C,R,G,f,W])) d a C R G f W ms∧
   Keeps (fun c=>c=oC∨c=d) h ((h.set oC (.cells .rw [y])).set d (.cells .rw [.int .i64 a.mins,.int .i64 a.evs,C,R,G,f,W]))∧hb.Sub ((h.set oC (.cells .rw [y])).set d (.cells .rw [.int .i64 a.mins,.int .i64 a.evs,C,R,G,f,W])):=by
 have hlt:=k.lt
 obtain⟨y0,f0,k1,k2,k3,k4,k5,k6⟩:=k
 have lo:=hlt oC (.inl rfl)
 have ld:=hlt d (.inr rfl)
 have s1:hb.Sub (h.set oC (.cells .rw [y])):=k6.set l2 lo hwb _
 have s2:hb.Sub ((h.set oC (.cells .rw [y])).set d (.cells .rw [.int .i64 a.mins,.int .i64 a.evs,C,R,G,f,W])):=s1.set l1 (by rw[H.next_set];exact ld) hwb _
 have kk:Keeps (fun c=>c=oC∨c=d) h ((h.set oC (.cells .rw [y])).set d (.cells .rw [.int .i64 a.mins,.int .i64 a.evs,C,R,G,f,W])):=(Keeps.set h oC _).trans (Keeps.set _ d _)
 have gd:((h.set oC (.cells .rw [y])).set d (.cells .rw [.int .i64 a.mins,.int .i64 a.evs,C,R,G,f,W])).get d=some (.cells .rw [.int .i64 a.mins,.int .i64 a.evs,C,R,G,f,W]):=get_set_same rfl
 have go:((h.set oC (.cells .rw [y])).set d (.cells .rw [.int .i64 a.mins,.int .i64 a.evs,C,R,G,f,W])).get oC=some (.cells .rw [y]):=by rw[get_set_other n1];exact get_set_same rfl
 have dk:Dk ((h.set oC (.cells .rw [y])).set d (.cells .rw [.int .i64 a.mins,.int .i64 a.evs,C,R,G,f,W])) d a C R G f W ms:=by
  refine⟨gd,xb.mono s2,maps_keep k4.w kk fun b cs hs hc m hm=>?_,k4.len,fun i hi=>?_⟩
  ·rcases hs with rfl|rfl
   ·rw[cells_of k1] at hc;cases hc
    rw[List.mem_singleton] at hm
    exact k2 m hm.symm
   ·rw[cells_of k4.dk] at hc;cases hc
    simp only[List.mem_cons,List.not_mem_nil,or_false,reduceCtorEq,false_or] at hm
    rcases hm with hm|hm|hm|hm|hm
    ·exact sl_noMap xb.c m hm.symm
    ·exact sl_noMap xb.r m hm.symm
    ·exact sl_noMap xb.g m hm.symm
    ·exact k3 m hm.symm
    ·exact sl_noMap k4.w m hm.symm
  ·obtain⟨b,l,e1,e2,e3⟩:=k4.maps i hi
   refine⟨b,l,e1,kk.2 _ _ e2 fun hq=>?_,e3⟩
   rcases hq with rfl|rfl
   ·rw[k1] at e2;cases e2
   ·rw[k4.dk] at e2;cases e2
 exact⟨⟨y,f,go,hy,hf,dk,kk.2 _ _ k5 fun hq=>hq.elim n3 n2,s2⟩,dk,kk,s2⟩
set_option maxHeartbeats 4000000 in
theorem clash1_holds (hwb:hb.wf)(r:Right a)(xb:AtAt hb C R G a)(l1:hb.next≤d)(l2:hb.next≤oC)(n1:oC≠d)(n2:pC≠d)(n3:pC≠oC):
  FnHolds hb (.fn 118 [] [.ptr oC 0,.ptr pC 0]) (fun c=>c=oC∨c=d) (DI hb a C R G W ms d oC pC) a.rds.length (fun l=>decide (casesL a (lstF l)=[])) (fun l h=>∃y,h.get oC=some (.cells .rw [y])∧SlAt h y 1 (l.map encI)):=by
 intro l x h1 hlr hs hx hl nx hI Q q
 have hwx:=hs.wf
 have ox:=hx.one
 obtain⟨zA,hzA⟩:∃zA,(h1.add (.cells .rw [x])).add (.cells .rw [.fn 162 [] [.ptr h1.next 0]])=zA:=⟨_,rfl⟩
 have sA:h1.Sub zA:=by rw[←hzA];exact((H.Sub.refl hwx).add _).add _
 have gA:zA.get h1.next=some (.cells .rw [x]):=by rw[←hzA,get_add_old (by rw[H.next_add];omega)];exact get_add_new rfl
 have hIA:=hI.mono sA
 have hlt:=hI.lt
 obtain⟨hI2,dk2,k2,s2⟩:=hIA.put hwb xb l1 l2 n1 n2 n3 (y:=x) (f:=.fn 162 [] [.ptr h1.next 0]) (fun m=>sl_noMap hx m) (fun m=>by simp)
 obtain⟨y0,f0,k1,_,_,k4,k5,_⟩:=hI
 obtain⟨zS,hzS⟩:∃zS,(zA.set oC (.cells .rw [x])).set d (.cells .rw [.int .i64 a.mins,.int .i64 a.evs,C,R,G,.fn 162 [] [.ptr h1.next 0],W])=zS:=⟨_,rfl⟩
 have gd':(zA.set oC (.cells .rw [x])).get d=some (.cells .rw [.int .i64 a.mins,.int .i64 a.evs,C,R,G,f0,W]):=by rw[get_set_other n1.symm];exact sA.get k4.dk
 have gpS:zS.get pC=some (.cells .rw [.ptr d 0]):=by rw[←hzS,get_set_other n2,get_set_other n3];exact sA.get k5
 have goS:zS.get oC=some (.cells .rw [x]):=by rw[←hzS,get_set_other n1];exact get_set_same rfl
 rw[hzS] at hI2 dk2 k2 s2
 have gAS:zS.get h1.next=some (.cells .rw [x]):=k2.2 _ _ gA fun hq=>by have:=hlt _ hq;omega
 have hxS:SlAt zS x 1 (l.map encI):=SlAt_keep (hx.mono sA) k2 fun b hb hq=>(nx b hb).2 hq
 refine Ev_body (fd:=c118) rfl rfl rfl ?_
 simp -implicitDefEqProofs(maxSteps:=999999)(disch:=first|with_reducible rfl|omega|(simp only[nA,nS,nD]<;>omega)|fail)only[c118,go_sem,cells_of k5,some_eq ox,hzA,cells_of (sA.get k5),sA.get k1,ox,cells_one ox,gd',hzS,cells_of gpS]
 refine agreed_ev s2.wf dk2 r (cnt:=lstF l) (fun i _=>some1_ev hxS gAS i) _ fun z3 s3=>?_
 have e:(!decide (casesL a (lstF l)≠[]))=decide (casesL a (lstF l)=[]):=by simp
 simp -implicitDefEqProofs(maxSteps:=999999)(disch:=first|with_reducible rfl|omega|(simp only[nA,nS,nD]<;>omega)|fail)only[go_sem,e,cells_of k5,cells_of (sA.get k5)]
 exact q z3 (((Keeps.of sA fun c=>c=oC∨c=d).trans (k2.trans (Keeps.of s3 fun c=>c=oC∨c=d))).mono fun c hc=>by
  rcases hc with hc|hc|hc<;>exact hc) (s2.trans s3).wf (hI2.mono s3) fun _=>⟨x,s3.get goS,hxS.mono s3⟩
theorem wrong11_ev {h:H}{x:V}{l:List Int}(hx:SlAt h x 1 (l.map encI)){b:Nat}(g:h.get b=some (.cells .rw [x]))(n:Int):PureA h (.fn 86 [] [.ptr b 0]) [.int .i64 n] (.bool (!(l.any fun r=>decide (n=r)))):=by
 intro h1 s
 refine Ev.gen fun Q q=>?_
 refine Ev_body (fd:=c86) rfl rfl rfl ?_
 simp -implicitDefEqProofs(maxSteps:=999999)(disch:=first|with_reducible rfl|omega|(simp only[nA,nS,nD]<;>omega)|fail)only[c86,go_sem,cells_of (s.get g)]
 refine hasInt_ev s.wf (hx.mono s) n _ fun h2 s2=>?_
 simp -implicitDefEqProofs(maxSteps:=999999)(disch:=first|with_reducible rfl|omega|(simp only[nA,nS,nD]<;>omega)|fail)only[go_sem]
 exact q _ _ ⟨rfl,s2⟩
set_option maxHeartbeats 4000000 in
theorem wrong1_holds (hwb:hb.wf)(r:Right a)(xb:AtAt hb C R G a)(l1:hb.next≤d)(l2:hb.next≤oC)(n1:oC≠d)(n2:pC≠d)(n3:pC≠oC):
  FnHolds hb (.fn 85 [] [.ptr oC 0,.ptr pC 0]) (fun c=>c=oC∨c=d) (DI hb a C R G W ms d oC pC) a.rds.length (fun l=>decide (casesL a (fun i=> !lstF l i)≠[])) (fun l h=>∃y,h.get oC=some (.cells .rw [y])∧SlAt h y 1 (l.map encI)):=by
 intro l x h1 hlr hs hx hl nx hI Q q
 have hwx:=hs.wf
 have ox:=hx.one
 obtain⟨zA,hzA⟩:∃zA,h1.add (.cells .rw [x])=zA:=⟨_,rfl⟩
 have sA:h1.Sub zA:=by rw[←hzA];exact(H.Sub.refl hwx).add _
 have gA:zA.get h1.next=some (.cells .rw [x]):=by rw[←hzA];exact get_add_new rfl
 have hIA:=hI.mono sA
 have hlt:=hI.lt
 obtain⟨hI2,dk2,k2,s2⟩:=hIA.put hwb xb l1 l2 n1 n2 n3 (y:=x) (f:=.fn 86 [] [.ptr h1.next 0]) (fun m=>sl_noMap hx m) (fun m=>by simp)
 obtain⟨y0,f0,k1,_,_,k4,k5,_⟩:=hI
 obtain⟨zS,hzS⟩:∃zS,(zA.set oC (.cells .rw [x])).set d (.cells .rw [.int .i64 a.mins,.int .i64 a.evs,C,R,G,.fn 86 [] [.ptr h1.next 0],W])=zS:=⟨_,rfl⟩
 have gd':(zA.set oC (.cells .rw [x])).get d=some (.cells .rw [.int .i64 a.mins,.int .i64 a.evs,C,R,G,f0,W]):=by rw[get_set_other n1.symm];exact sA.get k4.dk
 have gpS:zS.get pC=some (.cells .rw [.ptr d 0]):=by rw[←hzS,get_set_other n2,get_set_other n3];exact sA.get k5
 have goS:zS.get oC=some (.cells .rw [x]):=by rw[←hzS,get_set_other n1];exact get_set_same rfl
 rw[hzS] at hI2 dk2 k2 s2
 have gAS:zS.get h1.next=some (.cells .rw [x]):=k2.2 _ _ gA fun hq=>by have:=hlt _ hq;omega
 have hxS:SlAt zS x 1 (l.map encI):=SlAt_keep (hx.mono sA) k2 fun b hb hq=>(nx b hb).2 hq
 refine Ev_body (fd:=c85) rfl rfl rfl ?_
 simp -implicitDefEqProofs(maxSteps:=999999)(disch:=first|with_reducible rfl|omega|(simp only[nA,nS,nD]<;>omega)|fail)only[c85,go_sem,cells_of k5,hzA,cells_of gA,cells_of (sA.get k5),sA.get k1,ox,cells_one ox,gd',hzS,cells_of gpS]
 refine agreed_ev s2.wf dk2 r (cnt:=fun i=> !lstF l i) (fun i _=>wrong11_ev hxS gAS i) _ fun z3 s3=>?_
 simp -implicitDefEqProofs(maxSteps:=999999)(disch:=first|with_reducible rfl|omega|(simp only[nA,nS,nD]<;>omega)|fail)only[go_sem,cells_of gA,cells_of k5,cells_of (sA.get k5)]
 exact q z3 (((Keeps.of sA fun c=>c=oC∨c=d).trans (k2.trans (Keeps.of s3 fun c=>c=oC∨c=d))).mono fun c hc=>by
  rcases hc with hc|hc|hc<;>exact hc) (s2.trans s3).wf (hI2.mono s3) fun _=>⟨x,s3.get goS,hxS.mono s3⟩
end
end Go.Ab.Tryz
namespace Go.Ab.Tryz
open Go.Proofs
open Go.Ab.Silk (comb firstOf firstOf_spec IsMin Inc)
theorem noN {a:At}(r:Right a){cnt:Nat→Bool}:casesL a cnt=[]↔∀runs y,¬Tru a cnt runs y:=by
 constructor
 ·intro h runs y t
  obtain⟨L,hL⟩:=cases_full r t
  rw[h] at hL;cases hL
 ·intro h
  cases hc:casesL a cnt with
  |nil=>rfl
  |cons t l=>
   have ht:t∈casesL a cnt:=by rw[hc];exact List.mem_cons_self ..
   exact absurd (lat_tru r ht (f:=4) (by omega)) (h _ _)
theorem tru_fewer {a:At}{c1 c2:Nat→Bool}(h:∀i,i<a.rds.length→c2 i=true→c1 i=true){runs:Runs}{y:Nat→Int}(t:Tru a c1 runs y):Tru a c2 runs y:=
 ⟨t.len,t.run,t.beg,t.mins,t.gaps,fun j x hx hc s hs=>t.rds j x hx (h j (getl hx) hc) s hs⟩
def clashP (a:At)(l:List Int):Bool:=decide (casesL a (lstF l)=[])
def wrongP (a:At)(l:List Int):Bool:=decide (casesL a (fun i=> !lstF l i)≠[])
def fullL:Nat→Int→List Int
 |0,_=>[]
 |k+1,i=>i::fullL k (i+1)
theorem fullL_inc:∀(k:Nat) (i:Int),Inc (i+k) i (fullL k i)
 |0,_=>trivial
 |k+1,i=>⟨Int.le_refl _,by omega,by have:=fullL_inc k (i+1);rwa[show i+1+(k:Int)=i+((k+1:Nat):Int) by omega] at this⟩
theorem fullL_mem:∀{k:Nat} {i j:Int},i≤j→j<i+k→j∈fullL k i
 |0,i,j,h1,h2=>by omega
 |k+1,i,j,h1,h2=>by
  by_cases e:j=i
  ·rw[e];exact List.mem_cons_self ..
  ·exact List.mem_cons_of_mem _ (fullL_mem (by omega) (by omega))
theorem lstF_mem {l:List Int}{i:Nat}:lstF l i=true↔(i:Int)∈l:=by
 unfold lstF
 rw[List.any_eq_true]
 constructor
 ·rintro⟨x,hx,e⟩;rw[of_decide_eq_true e];exact hx
 ·intro h;exact⟨_,h,by simp⟩
def clashO (a:At):Option (List Int):=firstOf (clashP a) a.rds.length (a.rds.length+1) 0
def wrongO (a:At):Option (List Int):=firstOf (wrongP a) a.rds.length (a.rds.length+1) 0
theorem clashO_spec {a:At}(r:Right a)(h:allC a=[]):∃c,clashO a=some c∧IsMin (clashP a) a.rds.length c:=by
 rcases firstOf_spec (clashP a) a.rds.length (a.rds.length+1) 0 rfl (fun d _ hl=>by omega) with h1|⟨_,h2⟩
 ·exact h1
 ·exfalso
  have h3:=h2 (fullL a.rds.length 0) (by have:=fullL_inc a.rds.length 0;rwa[Int.zero_add] at this)
  simp only[clashP,decide_eq_false_iff_not] at h3
  refine h3 ((noN r).2 fun runs y t=>(noC r).1 h runs y (tru_fewer (fun i hi _=>lstF_mem.2 (fullL_mem (by omega) (by omega))) t))
def clashR (a:At):List Int × Int:=if checkA a≠0 then([],checkA a) else if allC a≠[] then([],6) else((clashO a).getD [],0)
def wrongR (a:At):List Int × Int:=if checkA a≠0 then([],checkA a) else match wrongO a with|some l=>(l,0)|none=>([],7)
set_option maxHeartbeats 4000000 in
theorem Clash_ev {h:H}(hw:h.wf){a:At}{C R G:V}(x:AtAt h C R G a)(Q:V→H→Prop)(q:∀w h',h.Sub h'→SlAt h' w 1 ((clashR a).1.map encI)→Q (.tup [w,.int .i64 (clashR a).2]) h'):
  Ev fnG fastA (.fn 44 [] []) [.agg (atV a C R G)] h Q:=by
 have oC:=x.c.one;have oR:=x.r.one;have oG:=x.g.one
 have cs:∀hh Q,Ev fnG fastA (.fn 83 [] []) [] hh Q=Q (.agg [allF]) (hh.add (.cells .rw [allF])):=fun hh Q=>by
  refine Ev.det (Ev_body (fd:=c83) rfl rfl rfl ?_) Q
  simp -implicitDefEqProofs(maxSteps:=999999)(disch:=first|with_reducible rfl|omega|(simp only[nA,nS,nD]<;>omega)|fail)only[c83,go_sem]
 refine Ev_body (fd:=c44) rfl rfl rfl ?_
 obtain⟨z,hz⟩:∃z,h.add (.cells .rw (atV a C R G))=z:=⟨_,rfl⟩
 have sz:h.Sub z:=by rw[←hz];exact(by repeat(first|assumption|exact H.Sub.refl (by assumption)|refine H.Sub.add ?_ _|refine H.Sub.set ?_ (by first|omega|(simp only[H.next_add,H.next_set,H.next_del]<;>omega)) (by first|omega|(simp only[H.next_add,H.next_set,H.next_del]<;>omega)) (by assumption) _))
 have ga:z.get h.next=some (.cells .rw (atV a C R G)):=by rw[←hz];exact get_add_new rfl
 simp -implicitDefEqProofs(maxSteps:=999999)(disch:=first|with_reducible rfl|omega|(simp only[nA,nS,nD]<;>omega)|fail)only[c44,go_sem,oC,oR,oG]
 rw[hz]
 clear hz
 refine check_ev sz.wf ⟨C,R,G,rfl,x.mono sz⟩ _ fun z1 s1=>?_
 have s01:=sz.trans s1
 by_cases he:checkA a=0
 case neg=>
  simp -implicitDefEqProofs(maxSteps:=999999)(disch:=first|with_reducible rfl|omega|(simp only[nA,nS,nD]<;>omega)|fail)only[go_sem,he,ne_eq,not_false_eq_true]
  have e:clashR a=([],checkA a):=if_pos he
  rw[e] at q
  exact q _ _ s01 ⟨by simp,by simp,.inl ⟨rfl,rfl⟩⟩
 have r:=checkA_iff.1 he
 rw[he]
 have rl:=r.lens
 have e1:clashR a=if allC a≠[] then([],6) else((clashO a).getD [],0):=if_neg (by rw[he];simp)
 have g1:=s1.get ga
 simp -implicitDefEqProofs(maxSteps:=999999)(disch:=first|with_reducible rfl|omega|(simp only[nA,nS,nD]<;>omega)|fail)only[go_sem,ne_eq,not_true_eq_false,cells_of g1,cs]
 obtain⟨zA,hzA⟩:∃zA,z1.add (.cells .rw [allF])=zA:=⟨_,rfl⟩
 have sA:z1.Sub zA:=by rw[←hzA];exact(H.Sub.refl s01.wf).add _
 try rw[hzA]
 clear hzA
 have s0A:=s01.trans sA
 have xA:=x.mono s0A
 refine worked_ev s0A.wf xA r rfl _ fun d W ms zB sB ld dk=>?_
 have gA:=sA.get g1
 have gB:=sB.get gA
 simp -implicitDefEqProofs(maxSteps:=999999)(disch:=first|with_reducible rfl|omega|(simp only[nA,nS,nD]<;>omega)|fail)only[go_sem,cells_of g1,cells_of gA,cells_of gB]
 obtain⟨zC,hzC⟩:∃zC,zB.add (.cells .rw [.ptr d 0])=zC:=⟨_,rfl⟩
 have sC:zB.Sub zC:=by rw[←hzC];exact(H.Sub.refl sB.wf).add _
 have gpC:zC.get zB.next=some (.cells .rw [.ptr d 0]):=by rw[←hzC];exact get_add_new rfl
 have ldB:=sB.wf _ _ dk.dk
 try simp -implicitDefEqProofs(maxSteps:=999999)(disch:=first|with_reducible rfl|omega|(simp only[nA,nS,nD]<;>omega)|fail)only[go_sem,hzC,cells_of gpC]
 try rw[hzC]
 clear hzC
 have sAC:=sB.trans sC
 refine agreed_ev sC.wf (dk.mono sC) r (cnt:=fun _=>true) (fun i _=>allF_pure sC.wf i) _ fun zD sD=>?_
 have sAD:=sAC.trans sD
 by_cases hal:allC a≠[]
 ·have hd:decide (casesL a (fun _=>true)≠[])=true:=decide_eq_true hal
  rw[if_pos hal] at e1
  rw[e1] at q
  rw[hd]
  simp -implicitDefEqProofs(maxSteps:=999999)(disch:=first|with_reducible rfl|omega|(simp only[nA,nS,nD]<;>omega)|fail)only[go_sem]
  exact q _ _ (s0A.trans sAD) ⟨by simp,by simp,.inl ⟨rfl,rfl⟩⟩
 have hd:decide (casesL a (fun _=>true)≠[])=false:=decide_eq_false hal
 have hal':allC a=[]:=Classical.byContradiction hal
 rw[if_neg hal] at e1
 rw[e1] at q
 rw[hd]
 have hlR:=(x.r).lenE
 have gaD:=sAD.get gA
 have w1:wr .i64 ((a.rds.length:Int)+1)=((a.rds.length+1:Nat):Int):=by rw[wr_in (by omega) (by omega)];omega
 obtain⟨zE,hzE⟩:∃zE,zD.add (.cells .rw [.nils])=zE:=⟨_,rfl⟩
 have sE:zD.Sub zE:=by rw[←hzE];exact(H.Sub.refl sAD.wf).add _
 have goE:zE.get zD.next=some (.cells .rw [.nils]):=by rw[←hzE];exact get_add_new rfl
 have gaE:=sE.get gaD
 simp -implicitDefEqProofs(maxSteps:=999999)(disch:=first|with_reducible rfl|omega|(simp only[nA,nS,nD]<;>omega)|fail)only[go_sem,hzE,cells_of gaE,hlR,w1]
 try rw[hzE]
 clear hzE
 have nBC:=sC.next
 have lpC:=sC.wf _ _ gpC
 have nCD:=sD.next
 have di:DI zA a C R G W ms d zD.next zB.next zE:=⟨.nils,allF,goE,fun m=>by simp,fun m=>by simp,dk.mono (sC.trans (sD.trans sE)),(sD.trans sE).get gpC,sAD.trans sE⟩
 have hsp:=clashO_spec r hal'
 obtain⟨cl,hcl,_⟩:=hsp
 rw[hcl] at q
 have hof:firstOf (clashP a) a.rds.length (a.rds.length+1) 0=some cl:=hcl
 have hF:=clash1_holds (W:=W) (ms:=ms) s0A.wf r xA ld (oC:=zD.next) (pC:=zB.next) (by omega) (by omega) (by omega) (by omega)
 refine W_count (a.rds.length+1) (fun i s=>∃tm z,s=⟨tm,z,[]⟩∧DI zA a C R G W ms d zD.next zB.next z∧firstOf (clashP a) a.rds.length (a.rds.length+1-i) i=some cl∧
   (Opd.t 1).ev tm=.ptr h.next 0∧(Opd.t 5).ev tm=.ptr zB.next 0∧(Opd.t 6).ev tm=.ptr zD.next 0∧(Opd.t 21).ev tm=.int .i64 ((a.rds.length+1:Nat):Int)∧(Opd.t 22).ev tm=.int .i64 (i:Int)) ?_ ?_ (i:=0) (Nat.zero_le _)
  ⟨_,_,rfl,di,hof,(by simp[ev_c,ev_put]<;>rfl),(by simp[ev_c,ev_put]<;>rfl),(by simp[ev_c,ev_put]<;>rfl),(by simp[ev_c,ev_put]<;>rfl),(by simp[ev_c,ev_put]<;>rfl)⟩
 ·rintro i s hi ⟨tm,z2,rfl,dz,hf,t1,t5,t6,t21,t22⟩
  have hi':(i:Int)<((a.rds.length+1:Nat):Int):=by omega
  have sz2:zA.Sub z2:=by obtain⟨_,_,_,_,_,_,_,k⟩:=dz;exact k
  have ga2:=sz2.get gA
  simp -implicitDefEqProofs(maxSteps:=999999)(disch:=first|with_reducible rfl|omega|(simp only[nA,nS,nD]<;>omega)|fail)only[go_sem,t1,t5,t6,t21,t22,hi',cells_of ga2,hlR]
  refine lists_ev s0A.wf hF (fun h h' k s=>k.mono s) (fun c hc=>by rcases hc with hc|hc<;>omega) (fun h c k hc=>k.lt c hc) rfl sz2 dz (by omega) (by omega) _ fun t z3 k3 w3 i3 hres=>?_
  have hstep:a.rds.length+1-i=(a.rds.length+1-(i+1))+1:=by omega
  rw[hstep,firstOf] at hf
  cases hr:(comb i a.rds.length 0).find? (clashP a) with
  |some c=>
   rw[hr] at hf
   have hr2:(comb i a.rds.length 0).find? (fun l=>decide (casesL a (lstF l)=[]))=some c:=hr
   rw[hr2] at hres
   obtain⟨rfl,_,y,gy,xy⟩:=hres
   have hc:c=cl:=Option.some.inj hf
   rw[List.nil_append,hc] at xy
   have s3:zA.Sub z3:=by obtain⟨_,_,_,_,_,_,_,k⟩:=i3;exact k
   simp -implicitDefEqProofs(maxSteps:=999999)(disch:=first|with_reducible rfl|omega|(simp only[nA,nS,nD]<;>omega)|fail)only[go_sem,t1,t5,t6,t21,t22,cells_of gy]
   exact q _ _ (s0A.trans s3) xy
  |none=>
   rw[hr] at hf
   have hr2:(comb i a.rds.length 0).find? (fun l=>decide (casesL a (lstF l)=[]))=none:=hr
   rw[hr2] at hres
   have hres:t=false:=hres
   subst hres
   simp -implicitDefEqProofs(maxSteps:=999999)(disch:=first|with_reducible rfl|omega|(simp only[nA,nS,nD]<;>omega)|fail)only[go_sem,t1,t5,t6,t21,t22,wr_succ]
   exact⟨_,_,rfl,i3,hf,(by simp[ev_c,ev_put,t1]<;>rfl),(by simp[ev_c,ev_put,t5]<;>rfl),(by simp[ev_c,ev_put,t6]<;>rfl),(by simp[ev_c,ev_put,t21]<;>rfl),(by simp[ev_c,ev_put]<;>rfl)⟩
 ·rintro s ⟨tm,z2,rfl,dz,hf,t1,t5,t6,t21,t22⟩
  rw[Nat.sub_self,firstOf] at hf
  cases hf
def DW (hb:H)(a:At)(C R G W:V)(ms:List Nat)(d pC:Nat)(h:H):Prop:=∃f,(∀m,f≠.map m)∧Dk h d a C R G f W ms∧h.get pC=some (.cells .rw [.ptr d 0])∧hb.Sub h
set_option maxHeartbeats 4000000 in
theorem Wrong_ev {h:H}(hw:h.wf){a:At}{C R G:V}(x:AtAt h C R G a)(Q:V→H→Prop)(q:∀w h',h.Sub h'→SlAt h' w 1 ((wrongR a).1.map encI)→Q (.tup [w,.int .i64 (wrongR a).2]) h'):
  Ev fnG fastA (.fn 21 [] []) [.agg (atV a C R G)] h Q:=by
 have oC:=x.c.one;have oR:=x.r.one;have oG:=x.g.one
 have cs:∀hh Q,Ev fnG fastA (.fn 83 [] []) [] hh Q=Q (.agg [allF]) (hh.add (.cells .rw [allF])):=fun hh Q=>by
  refine Ev.det (Ev_body (fd:=c83) rfl rfl rfl ?_) Q
  simp -implicitDefEqProofs(maxSteps:=999999)(disch:=first|with_reducible rfl|omega|(simp only[nA,nS,nD]<;>omega)|fail)only[c83,go_sem]
 refine Ev_body (fd:=c21) rfl rfl rfl ?_
 obtain⟨z,hz⟩:∃z,h.add (.cells .rw (atV a C R G))=z:=⟨_,rfl⟩
 have sz:h.Sub z:=by rw[←hz];exact(by repeat(first|assumption|exact H.Sub.refl (by assumption)|refine H.Sub.add ?_ _|refine H.Sub.set ?_ (by first|omega|(simp only[H.next_add,H.next_set,H.next_del]<;>omega)) (by first|omega|(simp only[H.next_add,H.next_set,H.next_del]<;>omega)) (by assumption) _))
 have ga:z.get h.next=some (.cells .rw (atV a C R G)):=by rw[←hz];exact get_add_new rfl
 simp -implicitDefEqProofs(maxSteps:=999999)(disch:=first|with_reducible rfl|omega|(simp only[nA,nS,nD]<;>omega)|fail)only[c21,go_sem,oC,oR,oG]
 rw[hz]
 clear hz
 refine check_ev sz.wf ⟨C,R,G,rfl,x.mono sz⟩ _ fun z1 s1=>?_
 have s01:=sz.trans s1
 by_cases he:checkA a=0
 case neg=>
  simp -implicitDefEqProofs(maxSteps:=999999)(disch:=first|with_reducible rfl|omega|(simp only[nA,nS,nD]<;>omega)|fail)only[go_sem,he,ne_eq,not_false_eq_true]
  have e:wrongR a=([],checkA a):=if_pos he
  rw[e] at q
  exact q _ _ s01 ⟨by simp,by simp,.inl ⟨rfl,rfl⟩⟩
 have r:=checkA_iff.1 he
 rw[he]
 have rl:=r.lens
 have e1:wrongR a=match wrongO a with|some l=>(l,0)|none=>([],7):=if_neg (by rw[he];simp)
 have g1:=s1.get ga
 simp -implicitDefEqProofs(maxSteps:=999999)(disch:=first|with_reducible rfl|omega|(simp only[nA,nS,nD]<;>omega)|fail)only[go_sem,ne_eq,not_true_eq_false,cells_of g1,cs]
 obtain⟨zA,hzA⟩:∃zA,z1.add (.cells .rw [allF])=zA:=⟨_,rfl⟩
 have sA:z1.Sub zA:=by rw[←hzA];exact(H.Sub.refl s01.wf).add _
 try rw[hzA]
 clear hzA
 have s0A:=s01.trans sA
 have xA:=x.mono s0A
 refine worked_ev s0A.wf xA r rfl _ fun d W ms zB sB ld dk=>?_
 have gA:=sA.get g1
 have gB:=sB.get gA
 simp -implicitDefEqProofs(maxSteps:=999999)(disch:=first|with_reducible rfl|omega|(simp only[nA,nS,nD]<;>omega)|fail)only[go_sem,cells_of g1,cells_of gA,cells_of gB]
 obtain⟨zC,hzC⟩:∃zC,zB.add (.cells .rw [.ptr d 0])=zC:=⟨_,rfl⟩
 have sC:zB.Sub zC:=by rw[←hzC];exact(H.Sub.refl sB.wf).add _
 have gpC:zC.get zB.next=some (.cells .rw [.ptr d 0]):=by rw[←hzC];exact get_add_new rfl
 have ldB:=sB.wf _ _ dk.dk
 have hlR:=(x.r).lenE
 have w1:wr .i64 ((a.rds.length:Int)+1)=((a.rds.length+1:Nat):Int):=by rw[wr_in (by omega) (by omega)];omega
 have gC:=sC.get gB
 try simp -implicitDefEqProofs(maxSteps:=999999)(disch:=first|with_reducible rfl|omega|(simp only[nA,nS,nD]<;>omega)|fail)only[go_sem,hzC,cells_of gpC,cells_of gC,hlR,w1]
 try rw[hzC]
 clear hzC
 have sAC:=sB.trans sC
 have di:DW zA a C R G W ms d zB.next zC:=⟨allF,fun m=>by simp,dk.mono sC,gpC,sAC⟩
 rw[e1] at q
 obtain⟨wo,hwo⟩:∃wo,wrongO a=wo:=⟨_,rfl⟩
 rw[hwo] at q
 have hof:firstOf (wrongP a) a.rds.length (a.rds.length+1) 0=wo:=hwo
 refine W_count (a.rds.length+1) (fun i s=>∃tm z,s=⟨tm,z,[]⟩∧DW zA a C R G W ms d zB.next z∧firstOf (wrongP a) a.rds.length (a.rds.length+1-i) i=wo∧
   (Opd.t 1).ev tm=.ptr h.next 0∧(Opd.t 5).ev tm=.ptr zB.next 0∧(Opd.t 19).ev tm=.int .i64 ((a.rds.length+1:Nat):Int)∧(Opd.t 20).ev tm=.int .i64 (i:Int)) ?_ ?_ (i:=0) (Nat.zero_le _)
  ⟨_,_,rfl,di,hof,(by simp[ev_c,ev_put]<;>rfl),(by simp[ev_c,ev_put]<;>rfl),(by simp[ev_c,ev_put]<;>rfl),(by simp[ev_c,ev_put]<;>rfl)⟩
 ·rintro i s hi ⟨tm,z2,rfl,dz,hf,t1,t5,t19,t20⟩
  have hi':(i:Int)<((a.rds.length+1:Nat):Int):=by omega
  have sz2:zA.Sub z2:=by obtain⟨_,_,_,_,k⟩:=dz;exact k
  obtain⟨f,df,dk2,gp2,_⟩:=dz
  have lp2:=sz2.wf _ _ gp2
  have ld2:=sz2.wf _ _ dk2.dk
  have nz2:=sz2.next
  obtain⟨z2',hz2⟩:∃z2',z2.add (.cells .rw [.nils])=z2':=⟨_,rfl⟩
  have s22:z2.Sub z2':=by rw[←hz2];exact(H.Sub.refl sz2.wf).add _
  have go2:z2'.get z2.next=some (.cells .rw [.nils]):=by rw[←hz2];exact get_add_new rfl
  have di2:DI zA a C R G W ms d z2.next zB.next z2':=⟨.nils,f,go2,fun m=>by simp,df,dk2.mono s22,s22.get gp2,sz2.trans s22⟩
  have hF:=wrong1_holds (W:=W) (ms:=ms) s0A.wf r xA ld (oC:=z2.next) (pC:=zB.next) (by omega) (by omega) (by omega) (by omega)
  have ga2:=(sz2.trans s22).get gA
  simp -implicitDefEqProofs(maxSteps:=999999)(disch:=first|with_reducible rfl|omega|(simp only[nA,nS,nD]<;>omega)|fail)only[go_sem,t1,t5,t19,t20,hi',hz2,cells_of ga2,hlR]
  try rw[hz2]
  clear hz2
  refine lists_ev s0A.wf hF (fun h h' k s=>k.mono s) (fun c hc=>by rcases hc with hc|hc<;>omega) (fun h c k hc=>k.lt c hc) rfl (sz2.trans s22) di2 (by omega) (by omega) _ fun t z3 k3 w3 i3 hres=>?_
  have hstep:a.rds.length+1-i=(a.rds.length+1-(i+1))+1:=by omega
  rw[hstep,firstOf] at hf
  cases hr:(comb i a.rds.length 0).find? (wrongP a) with
  |some c=>
   rw[hr] at hf
   have hr2:(comb i a.rds.length 0).find? (fun l=>decide (casesL a (fun i=> !lstF l i)≠[]))=some c:=hr
   rw[hr2] at hres
   obtain⟨rfl,_,y,gy,xy⟩:=hres
   rw[List.nil_append] at xy
   rw[←hf] at q
   have s3:zA.Sub z3:=by obtain⟨_,_,_,_,_,_,_,k⟩:=i3;exact k
   simp -implicitDefEqProofs(maxSteps:=999999)(disch:=first|with_reducible rfl|omega|(simp only[nA,nS,nD]<;>omega)|fail)only[go_sem,t1,t5,t19,t20,cells_of gy]
   exact q _ _ (s0A.trans s3) xy
  |none=>
   rw[hr] at hf
   have hr2:(comb i a.rds.length 0).find? (fun l=>decide (casesL a (fun i=> !lstF l i)≠[]))=none:=hr
   rw[hr2] at hres
   have hres:t=false:=hres
   subst hres
   simp -implicitDefEqProofs(maxSteps:=999999)(disch:=first|with_reducible rfl|omega|(simp only[nA,nS,nD]<;>omega)|fail)only[go_sem,t1,t5,t19,t20,wr_succ]
   have d3:DW zA a C R G W ms d zB.next z3:=by obtain⟨y0,f3,_,_,k3',k4',k5',k6'⟩:=i3;exact⟨f3,k3',k4',k5',k6'⟩
   exact⟨_,_,rfl,d3,hf,(by simp[ev_c,ev_put,t1]<;>rfl),(by simp[ev_c,ev_put,t5]<;>rfl),(by simp[ev_c,ev_put,t19]<;>rfl),(by simp[ev_c,ev_put]<;>rfl)⟩
 ·rintro s ⟨tm,z2,rfl,dz,hf,t1,t5,t19,t20⟩
  rw[Nat.sub_self,firstOf] at hf
  rw[←hf] at q
  have sz2:zA.Sub z2:=by obtain⟨_,_,_,_,k⟩:=dz;exact k
  simp -implicitDefEqProofs(maxSteps:=999999)(disch:=first|with_reducible rfl|omega|(simp only[nA,nS,nD]<;>omega)|fail)only[go_sem,t1,t5,t19,t20,Int.lt_irrefl]
  exact q _ _ (s0A.trans sz2) ⟨by simp,by simp,.inl ⟨rfl,rfl⟩⟩
end Go.Ab.Tryz
namespace Go.Ab
namespace Tryz
open Go.Proofs
end Tryz
end Go.Ab
namespace Go.Ab.Tryz
open Go.Proofs
theorem sl_nil (h:H):SlAt h .nils 1 (([]:List Int).map encI):=⟨by simp,by simp,.inl ⟨rfl,rfl⟩⟩
end Go.Ab.Tryz
namespace Go.Ab.Tryz
open Go.Proofs
end Go.Ab.Tryz
namespace Go.Ab
theorem a_msl_nn {h:H}{by_ n:Nat}{z:List V}(h1:n*by_≤1099511627776)(h2:n≤1099511627776):
  a_msl h by_ z (.int .i64 (n:Int)) (.int .i64 (n:Int))=some (.sl h.next 0 n (.fix n),h.add (.cells .rw (repN n z))):=a_msl_nm (Nat.le_refl _) h1 h2
namespace Tryz
open Go.Proofs
end Tryz
end Go.Ab
namespace Go.Ab.Tryz
open Go.Proofs
variable {a b:At} {ss gg tt:List Int}
end Go.Ab.Tryz
namespace Go.Ab.Silk
theorem Inc.sub {hi:Int}{m l:List Int}(s:m.Sublist l):∀{i:Int},Inc hi i l→Inc hi i m:=by
 induction s with
 |slnil=>intro i h;exact h
 |cons a s ih=>intro i h;exact(ih h.2.2).lower (by have:=h.1;omega)
 |cons_cons a s ih=>intro i h;exact⟨h.1,h.2.1,ih h.2.2⟩
theorem before_len {c d:List Int}(h:d=c∨before c d=true):c.length≤d.length:=by
 rcases h with rfl|h
 ·exact Nat.le_refl _
 ·unfold before at h
  split at h
  ·omega
  ·simp only[decide_eq_true_eq] at h;omega
theorem IsMin.len {P:List Int→Bool}{W:Nat}{c d:List Int}(m:IsMin P W c)(h:Inc W 0 d)(hp:P d=true):c.length≤d.length:=before_len (m.min d h hp)
end Go.Ab.Silk
namespace Go.Ab.Tryz
open Go.Proofs
open Go.Ab.Silk (comb firstOf firstOf_spec IsMin Inc)
theorem nodup_len:∀{l m:List Int},l.Nodup→(∀x∈l,x∈m)→l.length≤m.length
 |[],m,_,_=>Nat.zero_le _
 |a::l,m,hn,h=>by
  have ha:=h a (List.mem_cons_self ..)
  have h1:=nodup_len (l:=l) (m:=m.erase a) (List.nodup_cons.1 hn).2 fun x hx=>(List.mem_erase_of_ne (fun e=>by subst e;exact(List.nodup_cons.1 hn).1 hx)).2 (h x (List.mem_cons_of_mem _ hx))
  have h2:=List.length_erase_of_mem ha
  have h3:=List.length_pos_of_mem ha
  rw[List.length_cons];omega
theorem ris_nodup {l:List Int}(h:l.Nodup):¬(risL l).length<l.length:=by
 have:=nodup_len h fun x hx=>risL_mem.2 hx
 omega
variable {a:At} {ss gg tt:List Int} {f:Nat→Bool} {m:Int}
section
variable {b:At}
variable {w:List Int} (mw:IsMin (wrongP b) b.rds.length w)
include mw
omit mw
end
end Go.Ab.Tryz
namespace Go.Ab.Tryz
open Go.Proofs
open Go.Ab.Silk (Inc bitsL bitsL_inc bitsL_onto firstOf firstOf_spec IsMin)
def sAt (s:Int):Nat→Int
 |0=>s
 |k+1=>sAt s k/2
theorem sAt_nn {s:Int}(h:0≤s):∀k,0≤sAt s k
 |0=>h
 |k+1=>by have:=sAt_nn h k;simp only[sAt];omega
theorem sAt_le {s:Int}(h:0≤s):∀k,sAt s k≤s
 |0=>Int.le_refl _
 |k+1=>by have:=sAt_le h k;have:=sAt_nn h k;simp only[sAt];omega
theorem sAt_half (s:Int):∀k,sAt (s/2) k=sAt s (k+1)
 |0=>rfl
 |k+1=>by have:=sAt_half s k;simp only[sAt] at *;omega
def bitC (s:Int):Nat→Bool:=fun k=>decide (sAt s k%2=1)
def lst (c:Nat→Bool):Nat→List Int
 |0=>[]
 |n+1=>lst c n++if c n=true then[(n:Int)] else[]
theorem lst_len (c:Nat→Bool):∀n,(lst c n).length≤n
 |0=>Nat.le_refl _
 |n+1=>by have:=lst_len c n;simp only[lst,List.length_append];split<;>simp<;>omega
theorem mem_lst (c:Nat→Bool)(i:Nat):∀n,(i:Int)∈lst c n↔i<n∧c i=true
 |0=>by simp[lst]
 |n+1=>by
  simp only[lst,List.mem_append,mem_lst c i n]
  by_cases e:i=n
  ·subst e
   cases c i<;>simp
  ·constructor
   ·rintro(⟨h1,h2⟩|h)
    ·exact⟨by omega,h2⟩
    ·split at h
     ·simp at h;omega
     ·cases h
   ·rintro⟨h1,h2⟩
    exact .inl ⟨by omega,h2⟩
theorem bitsL_snoc:∀(k:Nat) (s i:Int),bitsL (k+1) s i=bitsL k s i++if bitC s k=true then[i+(k:Int)] else[]
 |0,s,i=>by
  by_cases h:s%2=1<;>simp[bitsL,bitC,sAt,h]
 |k+1,s,i=>by
  have ih:=bitsL_snoc k (s/2) (i+1)
  have e:bitC (s/2) k=bitC s (k+1):=by unfold bitC;rw[sAt_half]
  have e2:i+1+(k:Int)=i+((k+1:Nat):Int):=by omega
  rw[e,e2] at ih
  rw[show bitsL (k+1+1) s i=if s%2=1 then i::bitsL (k+1) (s/2) (i+1) else bitsL (k+1) (s/2) (i+1) from rfl,show bitsL (k+1) s i=if s%2=1 then i::bitsL k (s/2) (i+1) else bitsL k (s/2) (i+1) from rfl,ih]
  split<;>simp
theorem lst_bits (s:Int):∀n,lst (bitC s) n=bitsL n s 0
 |0=>rfl
 |n+1=>by rw[bitsL_snoc,←lst_bits s n];simp[lst]
theorem lst_stop {s:Int}{i:Nat}(h:sAt s i=0):∀m,i≤m→lst (bitC s) m=lst (bitC s) i∧sAt s m=0
 |0,hm=>by
  have:i=0:=by omega
  subst this;exact⟨rfl,h⟩
 |m+1,hm=>by
  by_cases e:i=m+1
  ·subst e;exact⟨rfl,h⟩
  ·obtain⟨h1,h2⟩:=lst_stop h m (by omega)
   have hb:bitC s m=false:=by unfold bitC;rw[h2];rfl
   exact⟨by simp[lst,h1,hb],by simp only[sAt];omega⟩
theorem sAt_zero:∀(n:Nat) {s:Int},0≤s→s<2^n→sAt s n=0
 |0,s,h0,h1=>by simp only[sAt];simp at h1;omega
 |n+1,s,h0,h1=>by
  rw[←sAt_half]
  exact sAt_zero n (by omega) (by rw[Int.pow_succ] at h1;omega)
theorem lst_all {s:Int}{n i:Nat}(h0:0≤s)(h1:s<2^n)(h:sAt s i=0):lst (bitC s) i=bitsL n s 0:=by
 rw[←lst_bits]
 have hn:=sAt_zero n h0 h1
 by_cases c:i≤n
 ·exact(lst_stop h n c).1.symm
 ·exact(lst_stop hn i (by omega)).1
theorem sAt0:∀k,sAt 0 k=0
 |0=>rfl
 |k+1=>by simp only[sAt,sAt0 k];rfl
theorem bitC_half (s:Int)(k:Nat):bitC s (k+1)=bitC (s/2) k:=by unfold bitC;rw[sAt_half]
theorem bitI_low (f:Nat→Bool):∀n,bitI f (n+1)=(if f 0=true then 1 else 0)+2*bitI (fun j=>f (j+1)) n
 |0=>by simp[bitI]
 |n+1=>by
  have ih:=bitI_low f n
  have e:(2:Int)^(n+1)=2*2^n:=by rw[Int.pow_succ];omega
  rw[bitI,ih,bitI,e]
  split<;>split<;>omega
theorem bitC_bitI:∀(j n:Nat) (f:Nat→Bool),bitC (bitI f n) j=(decide (j<n)&&f j)
 |j,0,f=>by
  have:bitC 0 j=false:=by unfold bitC;rw[sAt0];rfl
  simp[bitI,this]
 |0,n+1,f=>by
  have e:bitC (bitI f (n+1)) 0=decide (bitI f (n+1)%2=1):=rfl
  rw[e,bitI_low]
  cases f 0
  ·simp only[Bool.false_eq_true,if_false,Bool.and_false,decide_eq_false_iff_not];omega
  ·simp only[if_true,Nat.zero_lt_succ,decide_true,Bool.and_true,decide_eq_true_eq];omega
 |j+1,n+1,f=>by
  rw[bitC_half,bitI_low]
  have e:((if f 0=true then 1 else 0)+2*bitI (fun j=>f (j+1)) n)/2=bitI (fun j=>f (j+1)) n:=by split<;>omega
  rw[e,bitC_bitI j n]
  simp only[Nat.add_lt_add_iff_right]
theorem bitC_compl:∀(j W:Nat) (n:Int),0≤n→n<2^W→j<W→bitC (2^W-1-n) j= !bitC n j
 |j,0,n,_,_,h=>by omega
 |0,W+1,n,h0,h1,_=>by
  have e:(2:Int)^(W+1)=2*2^W:=by rw[Int.pow_succ];omega
  show decide ((2^(W+1)-1-n)%2=1)= !decide (n%2=1)
  rw[e,Bool.eq_iff_iff]
  simp only[decide_eq_true_eq,Bool.not_eq_true',decide_eq_false_iff_not]
  omega
 |j+1,W+1,n,h0,h1,hj=>by
  have e:(2:Int)^(W+1)=2*2^W:=by rw[Int.pow_succ];omega
  rw[bitC_half,bitC_half,show(2^(W+1)-1-n)/2=2^W-1-n/2 by omega]
  exact bitC_compl j W (n/2) (by omega) (by omega) (by omega)
theorem bitI_congr {f g:Nat→Bool}:∀{n:Nat},(∀j,j<n→f j=g j)→bitI f n=bitI g n
 |0,_=>rfl
 |n+1,h=>by rw[bitI,bitI,bitI_congr fun j hj=>h j (by omega),h n (by omega)]
theorem bitI_upd {f g:Nat→Bool}{k:Nat}(h:∀j,j≠k→g j=f j)(hf:f k=false)(hg:g k=true):∀{n:Nat},k<n→bitI g n=bitI f n+2^k
 |n+1,hk=>by
  rw[bitI,bitI]
  by_cases e:k=n
  ·subst e
   rw[hf,hg,bitI_congr fun j hj=>h j (by omega)]
   simp
  ·rw[bitI_upd h hf hg (by omega),h n (by omega)];omega
theorem sAt_div:∀(k:Nat) (s:Int),sAt s k=s/2^k
 |0,s=>by simp[sAt]
 |k+1,s=>by
  rw[←sAt_half,sAt_div k,Int.pow_succ,Int.mul_comm,Int.ediv_ediv_of_nonneg (by decide)]
def commI (a b:Int):Int:=bitI (fun k=>bitC a k&&bitC b k) 8
def agrS (ms:List Int)(s:Int):Bool:=ms.any fun m=>decide (commI m s=0)
def dduS (o:List Int)(m:Int):List Int:=if m∈o then o else o++[m]
def ddu (l:List Int):List Int:=l.foldl dduS []
theorem ddu_mem0:∀{l o:List Int} {m:Int},m∈l.foldl dduS o↔m∈o∨m∈l
 |[],o,m=>by simp
 |x::l,o,m=>by
  rw[List.foldl_cons,ddu_mem0]
  unfold dduS
  split
  ·rename_i h
   rw[List.mem_cons]
   constructor
   ·rintro(q|q);exact .inl q;exact .inr (.inr q)
   ·rintro(q|rfl|q);exact .inl q;exact .inl h;exact .inr q
  ·rw[List.mem_append,List.mem_singleton,List.mem_cons]
   constructor
   ·rintro((q|q)|q);exact .inl q;exact .inr (.inl q);exact .inr (.inr q)
   ·rintro(q|q|q);exact .inl (.inl q);exact .inl (.inr q);exact .inr q
theorem ddu_mem {l:List Int}{m:Int}:m∈ddu l↔m∈l:=by unfold ddu;rw[ddu_mem0];simp
def missL (a:At):List Int:=ddu ((allT a).map (missT a))
def agrN (a:At)(c:Nat→Bool):Bool:=decide (casesL a c≠[])
theorem agrN_tru {a:At}(r:Right a){c:Nat→Bool}:agrN a c=true↔∃runs y,Tru a c runs y:=by
 unfold agrN
 rw[decide_eq_true_eq,ne_eq,noN r]
 constructor
 ·intro h
  refine Classical.byContradiction fun hc=>h fun runs y t=>hc ⟨runs,y,t⟩
 ·rintro⟨runs,y,t⟩ h;exact h _ _ t
theorem agrN_iff {a:At}(r:Right a){c:Nat→Bool}:agrN a c=true↔∃t∈allT a,∀j,j<a.rds.length→c j=true→missB a t.1 t.2.1 t.2.2 j=false:=by
 rw[agrN_tru r]
 constructor
 ·rintro⟨runs,y,t⟩
  have tf:Tru a (fun _=>false) runs y:=tru_fewer (fun i _ h=>by cases h) t
  exact⟨ttOf a runs y,(allT_mem r).2 ⟨ttOf_len r t,ttOf_tru r tf⟩,((tru_cnt r (ttOf_len r t)).1 (ttOf_tru r t)).2⟩
 ·rintro⟨t,ht,h⟩
  obtain⟨l,q⟩:=(allT_mem r).1 ht
  exact⟨_,_,(tru_cnt r l).2 ⟨q,h⟩⟩
theorem agrN_congr {a:At}(r:Right a){c d:Nat→Bool}(h:∀j,j<a.rds.length→c j=d j):agrN a c=agrN a d:=by
 rw[Bool.eq_iff_iff,agrN_iff r,agrN_iff r]
 constructor
 ·rintro⟨t,ht,q⟩;exact⟨t,ht,fun j hj hc=>q j hj (by rw[h j hj];exact hc)⟩
 ·rintro⟨t,ht,q⟩;exact⟨t,ht,fun j hj hc=>q j hj (by rw[←h j hj];exact hc)⟩
theorem agrS_eq {a:At}(r:Right a)(s:Int):agrS (missL a) s=agrN a (bitC s):=by
 have rl:=r.lens
 rw[Bool.eq_iff_iff,agrN_iff r]
 unfold agrS missL
 rw[List.any_eq_true]
 constructor
 ·rintro⟨m,hm,h⟩
  rw[ddu_mem,List.mem_map] at hm
  obtain⟨t,ht,rfl⟩:=hm
  refine⟨t,ht,fun j hj hc=>?_⟩
  have:=bitI_zero.1 (of_decide_eq_true h) j (by omega)
  unfold missT missI at this
  rw[bitC_bitI,hc] at this
  simpa[hj] using this
 ·rintro⟨t,ht,h⟩
  refine⟨missT a t,ddu_mem.2 (List.mem_map.2 ⟨t,ht,rfl⟩),decide_eq_true (bitI_zero.2 fun j hj=>?_)⟩
  unfold missT missI
  rw[bitC_bitI]
  by_cases hw:j<a.rds.length
  ·cases hc:bitC s j
   ·simp
   ·simp[h j hw hc]
  ·simp[hw]
theorem lstF_bits {s:Int}{W i:Nat}(h:i<W):lstF (bitsL W s 0) i=bitC s i:=by
 rw[Bool.eq_iff_iff,lstF_mem,←lst_bits,mem_lst]
 simp[h]
theorem clashP_bits {a:At}(r:Right a)(s:Int):clashP a (bitsL a.rds.length s 0)= !agrS (missL a) s:=by
 have:clashP a (bitsL a.rds.length s 0)= !agrN a (lstF (bitsL a.rds.length s 0)):=by unfold clashP agrN;simp
 rw[this,agrS_eq r,agrN_congr r fun j hj=>lstF_bits hj]
theorem wrongP_bits {a:At}(r:Right a){s:Int}(h0:0≤s)(h1:s<2^a.rds.length):wrongP a (bitsL a.rds.length s 0)=agrS (missL a) (2^a.rds.length-1-s):=by
 have:wrongP a (bitsL a.rds.length s 0)=agrN a (fun i=> !lstF (bitsL a.rds.length s 0) i):=rfl
 rw[this,agrS_eq r,agrN_congr r fun j hj=>?_]
 rw[lstF_bits hj,bitC_compl j _ s h0 h1 hj]
theorem clashO_none {a:At}(r:Right a)(h:allC a≠[]):clashO a=none:=by
 unfold clashO
 rcases firstOf_spec (clashP a) a.rds.length (a.rds.length+1) 0 rfl (fun d _ hl=>by omega) with⟨c,_,m⟩|⟨h1,_⟩
 ·exfalso
  have h3:=m.holds
  simp only[clashP,decide_eq_true_eq] at h3
  refine h ((noC r).2 fun runs y t=>(noN r).1 h3 runs y (tru_fewer (fun i hi _=>rfl) t))
 ·exact h1
def lisE (a:At)(l:List Int):Int:=if(l.all fun i=>inB i 0 ((a.rds.length:Int)-1))=false then 1 else if(risL l).length<l.length then 5 else 0
def lisS (a:At)(l:List Int):Int:=if lisE a l=0 then bitI (lstF l) 8 else 0
theorem agreeR_lis {a:At}(r:Right a)(l:List Int):agreeR a l=(if lisE a l≠0 then false else agrS (missL a) (lisS a l),lisE a l):=by
 unfold agreeR
 rw[if_neg (by rw[checkA_iff.2 r];simp)]
 have rl:=r.lens
 by_cases h1:(l.all fun i=>inB i 0 ((a.rds.length:Int)-1))=false
 ·have e:lisE a l=1:=if_pos h1
  rw[if_pos h1,e];rfl
 ·by_cases h2:(risL l).length<l.length
  ·have e:lisE a l=5:=by unfold lisE;rw[if_neg h1,if_pos h2]
   rw[if_neg h1,if_pos h2,e];rfl
  ·have e:lisE a l=0:=by unfold lisE;rw[if_neg h1,if_neg h2]
   have e2:lisS a l=bitI (lstF l) 8:=if_pos e
   rw[if_neg h1,if_neg h2,e,e2,agrS_eq r,if_neg (by simp)]
   refine Prod.ext ?_ rfl
   show agrN a (lstF l)=_
   exact agrN_congr r fun j hj=>by rw[bitC_bitI];simp only[show j<8 by omega,decide_true,Bool.true_and]
theorem ris_dbl {l:List Int}{i:Nat}(hi:i<l.length)(h:l[i]∈l.take i):(risL l).length<l.length:=by
 have hn:(risL l).Nodup:=(risL_rise l).imp fun h e=>by subst e;exact absurd h (Int.lt_irrefl _)
 have h1:∀x∈risL l,x∈l.take i++l.drop (i+1):=fun x hx=>by
  have:=risL_mem.1 hx
  rw[←List.take_append_drop i l,List.drop_eq_getElem_cons hi,List.mem_append,List.mem_cons] at this
  rw[List.mem_append]
  rcases this with q|rfl|q
  ·exact .inl q
  ·exact .inl h
  ·exact .inr q
 have:=nodup_len hn h1
 rw[List.length_append,List.length_take,List.length_drop] at this
 omega
theorem ris_take {l:List Int}(h:∀i (hi:i<l.length),l[i] ∉l.take i):¬(risL l).length<l.length:=by
 refine ris_nodup (List.pairwise_iff_getElem.2 fun i j hi hj hij e=>h j hj ?_)
 rw[←e]
 exact List.mem_iff_getElem.2 ⟨i,by rw[List.length_take];omega,by rw[List.getElem_take]⟩
end Go.Ab.Tryz
namespace Go.Ab.Tryz
open Go.Proofs
end Go.Ab.Tryz
namespace Go.Ab.Tryz
open Go.Proofs
abbrev V3:=V × V × V
def row3 (v:V3):List V:=[v.1,v.2.1,v.2.2]
def TrT (h:H)(v:V3)(t:TT):Prop:=TrAt h v.1 v.2.1 v.2.2 t.1 t.2.1 t.2.2
def Up3 (n:Nat)(v:V3):Prop:=Up n v.1∧Up n v.2.1∧Up n v.2.2
structure TL (n:Nat)(h0 h:H)(y:V)(L:List TT)(vs:List V3):Prop where
 o:OwnSl h0 h y 3 (vs.map row3)
 len:vs.length=L.length
 e:∀(i:Nat) (v:V3) (t:TT),vs[i]? =some v→L[i]? =some t→TrT h v t
 u:∀v∈vs,Up3 n v
variable {h0 h h':H} {y:V} {L:List TT} {vs:List V3} {n n':Nat}
theorem TrT.mono {v:V3}{t:TT}(k:TrT h v t)(s:h.Sub h'):TrT h' v t:=TrAt.mono k s
theorem TrT.one {v:V3}{t:TT}(k:TrT h v t):allOne (row3 v)=true:=by
 have h1:=k.s.one;have h2:=k.g.one;have h3:=k.t.one
 unfold row3
 rw[allOne_cons,allOne_cons,allOne_cons,h1,h2,h3];rfl
theorem TrT.noInt {v:V3}{t:TT}(k:TrT h v t)(m:Int):V.int .i64 m ∉row3 v:=by
 unfold row3
 simp only[List.mem_cons,List.not_mem_nil,or_false,not_or]
 exact⟨fun e=>sl_noInt k.s _ m e.symm,fun e=>sl_noInt k.g _ m e.symm,fun e=>sl_noInt k.t _ m e.symm⟩
theorem TrT.keep {S:Nat→Prop}{v:V3}{t:TT}(w:TrT h v t)(k:Keeps S h h')(n:∀b cs,S b→h.cells b=some cs→∀m,V.int .i64 m ∉cs):TrT h' v t:=⟨ints_keep w.s k n,ints_keep w.g k n,ints_keep w.t k n⟩
theorem TL.mono (k:TL n h0 h y L vs)(s:h.Sub h'):TL n h0 h' y L vs:=⟨k.o.mono s,k.len,fun i v l h1 h2=>(k.e i v l h1 h2).mono s,k.u⟩
theorem TL.nil (s:h0.Sub h):TL n h0 h .nils [] []:=⟨OwnSl.nil s 3,rfl,fun i v l h1 _=>by simp at h1,fun v hv=>by cases hv⟩
theorem TL.at0 (k:TL n h0 h y L vs){v:V3}(hv:v∈vs):∃t,TrT h v t:=by
 obtain⟨i,hi,e⟩:=List.getElem_of_mem hv
 have h1:vs[i]? =some v:=by rw[List.getElem?_eq_getElem hi,e]
 have hi2:i<L.length:=by rw[←k.len];exact hi
 exact⟨_,k.e i v _ h1 (List.getElem?_eq_getElem hi2)⟩
theorem TL.push (k:TL n h0 h y L vs)(hw0:h0.wf)(hl:L.length≤1000000){x:V}{v:V3}{t:TT}(hx:SlAt h x 3 [row3 v])(hv:TrT h v t)(hu:Up3 n v){Q:V→H→Prop}(q:∀y' h',TL n h0 h' y' (L++[t]) (vs++[v])→Keeps (blkOf y) h h'→Q y' h'):
  P2 (e_app' h 3 72 y x) Q:=by
 have hlen:=k.len
 refine k.o.app1 (by_:=72) (r:=row3 v) hw0 rfl (by omega) hx hv.one (by rw[List.length_map];omega) (by rw[List.length_map];omega) fun h' o' kk _=>q _ _ ⟨by rw[List.map_append];exact o',by simp[hlen],fun i v' l' e1 e2=>?_,fun v' hv'=>?_⟩ kk
 rotate_left
 ·rcases List.mem_append.1 hv' with hv'|hv'
  ·exact k.u v' hv'
  ·rw[List.mem_singleton] at hv';rw[hv'];exact hu
 have hno:∀b cs,blkOf y b→h.cells b=some cs→∀m,V.int .i64 m ∉cs:=fun b cs hb hc=>by
  rcases k.o.2.2 with⟨e,_⟩|⟨b2,e,_,_,g⟩
  ·rw[e] at hb;exact(blkOf_nils hb).elim
  ·obtain⟨o,n,c,e2⟩:=hb
   rw[e] at e2;cases e2
   rw[cells_of g] at hc;cases hc
   intro m hm
   obtain⟨r,hr,hm⟩:=List.mem_flatten.1 hm
   obtain⟨u,hu,rfl⟩:=List.mem_map.1 hr
   obtain⟨t',ht'⟩:=k.at0 hu
   exact ht'.noInt m hm
 rcases mem_get_app.1 e1 with e1|⟨q1,rfl⟩
 ·rcases mem_get_app.1 e2 with e2|⟨q2,_⟩
  ·exact(k.e i v' l' e1 e2).keep kk hno
  ·have:=getl e1;omega
 ·rcases mem_get_app.1 e2 with e2|⟨_,rfl⟩
  ·have:=getl e2;omega
  ·exact hv.keep kk hno
def TR (n:Nat)(h:H)(y:V)(L:List TT):Prop:=∃vs:List V3,SlAt h y 3 (vs.map row3)∧vs.length=L.length∧(∀(i:Nat) (v:V3) (t:TT),vs[i]? =some v→L[i]? =some t→TrT h v t)∧Up n y∧∀v∈vs,Up3 n v
theorem TL.rd (k:TL n h0 h y L vs)(hl:L.length≤1000000)(hn:n≤h0.next):TR n h y L:=⟨vs,k.o.c.sl (by rw[List.length_map,k.len];omega),k.len,k.e,(ownUp k.o).low hn,k.u⟩
theorem TR.mono (k:TR n h y L)(s:h.Sub h'):TR n h' y L:=by
 obtain⟨vs,k1,k2,k3,k4⟩:=k
 exact⟨vs,k1.mono s,k2,fun i v l h1 h2=>(k3 i v l h1 h2).mono s,k4⟩
theorem TR.low (k:TR n h y L)(s:n'≤n):TR n' h y L:=by
 obtain⟨vs,k1,k2,k3,k4,k5⟩:=k
 exact⟨vs,k1,k2,k3,k4.low s,fun v hv=>⟨(k5 v hv).1.low s,(k5 v hv).2.1.low s,(k5 v hv).2.2.low s⟩⟩
theorem TR.keep {S:Nat→Prop}(k:TR n h y L)(kk:Keeps S h h')(hS:∀b,S b→b<n):TR n h' y L:=by
 obtain⟨vs,k1,k2,k3,k4,k5⟩:=k
 refine⟨vs,slKeepU k1 k4 kk hS,k2,fun i v l h1 h2=>?_,k4,k5⟩
 have t:=k3 i v l h1 h2
 obtain⟨u1,u2,u3⟩:=k5 v (List.mem_of_getElem? h1)
 exact⟨slKeepU t.s u1 kk hS,slKeepU t.g u2 kk hS,slKeepU t.t u3 kk hS⟩
theorem TR.lenE (k:TR n h y L):q_len y=some (.int .i64 (L.length:Int)):=by
 obtain⟨vs,k1,k2,k3⟩:=k
 have:=k1.lenE
 rw[←k2];exact this
theorem TR.one (k:TR n h y L):y.one=true:=by
 obtain⟨vs,k1,k2,k3⟩:=k
 exact k1.one
theorem TR.at_ (k:TR n h y L){i:Nat}(hi:i<L.length):∃b o cs v,h.cells b=some cs∧(∀{u:V},nat? u=some i→q_iad 3 y u=some (.ptr b o))∧getN o 3 cs=some (row3 v)∧nth o cs=some v.1∧nth (o+1) cs=some v.2.1∧nth (o+2) cs=some v.2.2∧TrT h v L[i]∧Up3 n v:=by
 obtain⟨vs,k1,k2,k3,k4,k5⟩:=k
 have hi2:i<vs.length:=by rw[k2];exact hi
 obtain⟨b,o,c,cs,_,hc,hq,hg,hn,hn0⟩:=k1.at hi2
 refine⟨b,_,cs,vs[i],hc,hq,hg,hn0 (by decide),hn 1 (by decide),hn 2 (by decide),k3 i _ _ (List.getElem?_eq_getElem hi2) (List.getElem?_eq_getElem hi),k5 _ (List.getElem_mem hi2)⟩
end Go.Ab.Tryz
namespace Go.Ab.Tryz
open Go.Proofs
theorem evens_at:∀{l:List Int} {j:Nat},2*j+1<l.length→(evens l)[j]? =l[2*j]? ∧(odds l)[j]? =l[2*j+1]?
 |[],j,h=>by simp at h
 |[x],j,h=>by simp at h
 |x::y::l,0,h=>by simp[evens,odds]
 |x::y::l,j+1,h=>by
  have:=evens_at (l:=l) (j:=j) (by simp only[List.length_cons] at h;omega)
  rw[evens,odds,List.getElem?_cons_succ,List.getElem?_cons_succ,this.1,this.2,show 2*(j+1)=2*j+1+1 from rfl,show 2*j+1+1+1=(2*j+1)+1+1 from rfl]
  simp only[List.getElem?_cons_succ,and_self]
theorem evens_len:∀l:List Int,(evens l).length=l.length/2∧(odds l).length=l.length/2
 |[]=>⟨rfl,rfl⟩
 |[x]=>⟨by simp[evens],by simp[odds]⟩
 |x::y::l=>by
  have:=evens_len l
  simp only[evens,odds,List.length_cons,this.1,this.2]
  omega
def ofT (RR:List (List Int))(tt:List Int):List TT:=RR.map fun l=>(evens l,odds l,tt)
def uptoT (a:At)(T RR:List (List Int))(i:Nat):List TT:=((T.take i).filter (gapsB a)).flatMap (ofT RR)
theorem uptoT_step {a:At}{T:List (List Int)}(RR:List (List Int)){i:Nat}(hi:i<T.length):uptoT a T RR (i+1)=uptoT a T RR i++if gapsB a T[i]=true then ofT RR T[i] else[]:=by
 unfold uptoT
 rw[List.take_add_one,List.getElem?_eq_getElem hi,List.filter_append,List.flatMap_append]
 congr 1
 simp only[Option.toList_some,List.filter_cons,List.filter_nil]
 split<;>simp
theorem uptoT_len {a:At}{T RR:List (List Int)}(i:Nat):(uptoT a T RR i).length≤T.length*RR.length:=by
 unfold uptoT
 rw[flat_len (c:=RR.length) fun x _=>by unfold ofT;rw[List.length_map]]
 refine Nat.mul_le_mul_right _ (Nat.le_trans (List.length_filter_le ..) ?_)
 rw[List.length_take];omega
theorem uptoT_all (a:At):uptoT a (timesL a a.evs.toNat) (runsL a.cks) (timesL a a.evs.toNat).length=allT a:=by
 unfold uptoT allT
 rw[List.take_length];rfl
theorem own_app {h0 h:H}(hw0:h0.wf){S:V}{l:List Int}(o:OwnSl h0 h S 1 (l.map encI))(hl:l.length≤1000000){n:Int}{Q:V→H→Prop}(q:∀S' h',OwnSl h0 h' S' 1 ((l++[n]).map encI)→(∀b,blkOf S' b→h.next≤b)→Keeps (blkOf S) h h'→Q S' h'):
  P2 (e_app' (h.add (.cells .rw [.int .i64 n])) 1 8 S (.sl h.next 0 1 (.fix 1))) Q:=by
 have s:=(H.Sub.refl o.1.wf).add (.cells .rw [.int .i64 n])
 refine(o.mono s).app1 (by_:=8) (r:=encI n) hw0 rfl (by omega) (SlAt.new _ rfl rfl (by simp[encI]) (by simp[encI]) (by simp)) rfl (by rw[List.length_map];omega) (by rw[List.length_map];omega) fun h' o' kk _=>q _ _ (by rw[List.map_append];exact o') (fun b hb=>?_) ((Keeps.of s (fun _=>False)).trans kk |>.mono fun c hc=>hc.elim (fun f=>f.elim) id)
 obtain⟨_,_,_,e⟩:=hb
 cases e
 rw[H.next_add];omega
set_option maxHeartbeats 8000000 in
theorem All_ev {h:H}(hw:h.wf){a:At}{C R G:V}(x:AtAt h C R G a)(r:Right a)(hb:(a.mins.toNat+1)^a.evs.toNat*runsN a.cks≤100000)(hb1:(a.mins.toNat+1)^a.evs.toNat≤100000)(hb2:runsN a.cks≤100000)(Q:V→H→Prop)(q:∀y h',h.Sub h'→TR h.next h' y (allT a)→Q y h'):
  Ev fnG fastA (.fn 27 [] []) [.agg (atV a C R G)] h Q:=by
 have oC:=x.c.one;have oR:=x.r.one;have oG:=x.g.one
 have hev:=r.evs
 have hmn:=r.mins
 have rl:=r.lens
 refine Ev_body (fd:=c27) rfl rfl rfl ?_
 obtain⟨z,hz⟩:∃z,h.add (.cells .rw (atV a C R G))=z:=⟨_,rfl⟩
 have sz:h.Sub z:=by rw[←hz];exact(by repeat(first|assumption|exact H.Sub.refl (by assumption)|refine H.Sub.add ?_ _|refine H.Sub.set ?_ (by first|omega|(simp only[H.next_add,H.next_set,H.next_del]<;>omega)) (by first|omega|(simp only[H.next_add,H.next_set,H.next_del]<;>omega)) (by assumption) _))
 have ga:z.get h.next=some (.cells .rw (atV a C R G)):=by rw[←hz];exact get_add_new rfl
 simp -implicitDefEqProofs(maxSteps:=999999)(disch:=first|with_reducible rfl|omega|(simp only[nA,nS,nD]<;>omega)|fail)only[c27,go_sem,oC,oR,oG,hz,cells_of ga]
 try rw[hz]
 clear hz
 refine times_ev r a.evs.toNat sz.wf (x.mono sz) (e:=0) (by omega) hb1 _ fun yl z1 s1 kl=>?_
 have s01:=sz.trans s1
 simp -implicitDefEqProofs(maxSteps:=999999)(disch:=first|with_reducible rfl|omega|(simp only[nA,nS,nD]<;>omega)|fail)only[go_sem,cells_of ga,cells_of (s1.get ga),oC,oR,oG]
 refine runs_ev r a.cks.length s01.wf (x.mono s01) (e:=0) (by omega) (by simpa using hb2) _ fun yc z2 s2 kc=>?_
 rw[List.drop_zero] at kc
 have s02:=s01.trans s2
 have ga2:=(s1.trans s2).get ga
 have kl2:=kl.mono s2
 have hT:∀tt∈timesL a a.evs.toNat,(tt.length:Int)=a.evs∧∀t∈tt,0≤t∧t≤240:=fun tt ht=>by
  obtain⟨h1,h2⟩:=timesL_mem.1 ht
  exact⟨by omega,fun t ht=>by have:=h2 t ht;omega⟩
 have hTl:=timesL_len a a.evs.toNat
 have hRl:=runsL_len a.cks
 have hrow:∀l∈runsL a.cks,l.length=2*a.cks.length:=fun l hl=>runsL_row hl
 have hall:=uptoT_all a
 have hlen:∀i,(uptoT a (timesL a a.evs.toNat) (runsL a.cks) i).length≤100000:=fun i=>Nat.le_trans (uptoT_len i) (by rw[hTl,hRl];exact hb)
 have hlen2:∀tt,(ofT (runsL a.cks) tt).length≤100000:=fun tt=>by unfold ofT;rw[List.length_map,hRl];exact hb2
 have hl1:(timesL a a.evs.toNat).length≤100000:=by rw[hTl];exact hb1
 have hl2:(runsL a.cks).length≤100000:=by rw[hRl];exact hb2
 generalize timesL a a.evs.toNat=T at *
 generalize runsL a.cks=RR at *
 have hlT:=kl2.lenE
 have hlR:=kc.lenE
 have hw2:=s02.wf
 simp -implicitDefEqProofs(maxSteps:=999999)(disch:=first|with_reducible rfl|omega|(simp only[nA,nS,nD]<;>omega)|fail)only[go_sem,cells_of ga,cells_of (s1.get ga),cells_of ga2,oC,oR,oG]
 refine W_count T.length (fun i s=>∃tm z3 y vs,s=⟨tm,z3,[]⟩∧TL h.next z2 z3 y (uptoT a T RR i) vs∧(Opd.t 1).ev tm=.ptr h.next 0∧(Opd.t 3).ev tm=yl∧(Opd.t 4).ev tm=yc∧(Opd.t 5).ev tm=y∧(Opd.t 6).ev tm=.int .i64 (i:Int)) ?_ ?_ (i:=0) (Nat.zero_le _)
  ⟨_,_,_,_,rfl,TL.nil (H.Sub.refl hw2),(by simp[ev_c,ev_put]<;>rfl),(by simp[ev_c,ev_put]<;>rfl),(by simp[ev_c,ev_put]<;>rfl),(by simp[ev_c,ev_put]<;>rfl),(by simp[ev_c,ev_put]<;>rfl)⟩
 ·rintro i s hi ⟨tm,z3,y,vs,rfl,tl,t1,t3,t4,t5,t6⟩
  have hi':(i:Int)<(T.length:Int):=by omega
  have s3:=tl.o.1
  have s03:=s02.trans s3
  obtain⟨bb,o,cs,w,hc,hq,hn,hwt,uw⟩:=kl2.at_ hi
  obtain⟨ht1,ht2⟩:=hT _ (List.getElem_mem hi)
  have hstep:=uptoT_step (a:=a) RR hi
  have hli:=hlen i
  generalize T[i]=tt at hwt ht1 ht2 hstep
  have ow:=hwt.one
  simp -implicitDefEqProofs(maxSteps:=999999)(disch:=first|with_reducible rfl|omega|(simp only[nA,nS,nD]<;>omega)|fail)only[go_sem,t1,t3,t4,t5,t6,hlT,hi',hq (nat_cst i),s3.cells hc,hn,cells_of (s3.get ga2),oC,oR,oG]
  refine refGaps_ev s03.wf (x.mono s03) r (hwt.mono s3) ht1 ht2 _ fun z4 s4=>?_
  have tl4:=tl.mono s4
  have s24:=s3.trans s4
  cases hg:gapsB a tt with
  |false=>
   rw[hg] at hstep
   simp -implicitDefEqProofs(maxSteps:=999999)(disch:=first|with_reducible rfl|omega|(simp only[nA,nS,nD]<;>omega)|fail)only[go_sem,t1,t3,t4,t5,t6,hq (nat_cst i),s3.cells hc,s24.cells hc,hn,cells_of (s24.get ga2),cells_of (s3.get ga2),oC,oR,oG,wr_succ]
   exact⟨_,_,_,_,rfl,by rw[hstep];simpa using tl4,(by simp[ev_c,ev_put,t1]<;>rfl),(by simp[ev_c,ev_put,t3]<;>rfl),(by simp[ev_c,ev_put,t4]<;>rfl),(by simp[ev_c,ev_put,t5]<;>rfl),(by simp[ev_c,ev_put]<;>rfl)⟩
  |true=>
   rw[hg,if_pos rfl] at hstep
   simp -implicitDefEqProofs(maxSteps:=999999)(disch:=first|with_reducible rfl|omega|(simp only[nA,nS,nD]<;>omega)|fail)only[go_sem,t1,t3,t4,t5,t6,hq (nat_cst i),s3.cells hc,s24.cells hc,hn,cells_of (s24.get ga2),cells_of (s3.get ga2),oC,oR,oG]
   clear tl
   refine W_count RR.length (fun k s=>∃tm z5 y vs,s=⟨tm,z5,[]⟩∧TL h.next z2 z5 y (uptoT a T RR i++(ofT RR tt).take k) vs∧(Opd.t 1).ev tm=.ptr h.next 0∧(Opd.t 3).ev tm=yl∧(Opd.t 4).ev tm=yc∧(Opd.t 5).ev tm=y∧(Opd.t 6).ev tm=.int .i64 (i:Int)∧(Opd.t 7).ev tm=.int .i64 (k:Int)) ?_ ?_ (i:=0) (Nat.zero_le _)
    ⟨_,_,_,_,rfl,by simpa using tl4,(by simp[ev_c,ev_put,t1]<;>rfl),(by simp[ev_c,ev_put,t3]<;>rfl),(by simp[ev_c,ev_put,t4]<;>rfl),(by simp[ev_c,ev_put,t5]<;>rfl),(by simp[ev_c,ev_put,t6]<;>rfl),(by simp[ev_c,ev_put]<;>rfl)⟩
   ·clear tl4 t1 t3 t4 t5 t6
    rintro k s hk ⟨tm,z5,y,vs,rfl,tl,t1,t3,t4,t5,t6,t7⟩
    have hk':(k:Int)<(RR.length:Int):=by omega
    have s25:=tl.o.1
    have hw5:=s25.wf
    obtain⟨bb2,o2,cs2,w2,hc2,hq2,hn2,hwr,_⟩:=(kc.mono s25).at_ hk
    have hrl:=hrow _ (List.getElem_mem hk)
    have hst:(ofT RR tt)[k]? =some (evens RR[k],odds RR[k],tt):=by unfold ofT;rw[List.getElem?_map,List.getElem?_eq_getElem hk];rfl
    generalize RR[k]=row at hwr hrl hst
    have hlr:=hwr.lenE
    have e1:=evens_len row
    have hw5t:=hwt.mono s25
    have o5:=hw5t.one
    obtain⟨z6,hz6⟩:∃z6,z5.add (.cells .rw [.nils,.nils,w])=z6:=⟨_,rfl⟩
    have s6:z5.Sub z6:=by rw[←hz6];exact(by repeat(first|assumption|exact H.Sub.refl (by assumption)|refine H.Sub.add ?_ _|refine H.Sub.set ?_ (by first|omega|(simp only[H.next_add,H.next_set,H.next_del]<;>omega)) (by first|omega|(simp only[H.next_add,H.next_set,H.next_del]<;>omega)) (by assumption) _))
    have g6:z6.get z5.next=some (.cells .rw [.nils,.nils,w]):=by rw[←hz6];exact get_add_new rfl
    simp -implicitDefEqProofs(maxSteps:=999999)(disch:=first|with_reducible rfl|omega|(simp only[nA,nS,nD]<;>omega)|fail)only[go_sem,t1,t3,t4,t5,t6,t7,hlR,hk',hq (nat_cst i),s25.cells hc,hn,o5,cells_one o5]
    try rw[hz6]
    clear hz6
    refine W_count a.cks.length (fun j s=>∃tm z7 S Ga,s=⟨tm,z7,[]⟩∧OwnSl z5 z7 S 1 (((evens row).take j).map encI)∧OwnSl z5 z7 Ga 1 (((odds row).take j).map encI)∧(∀b,blkOf S b→¬blkOf Ga b)∧z7.get z5.next=some (.cells .rw [S,Ga,w])∧
      (Opd.t 1).ev tm=.ptr h.next 0∧(Opd.t 3).ev tm=yl∧(Opd.t 4).ev tm=yc∧(Opd.t 5).ev tm=y∧(Opd.t 6).ev tm=.int .i64 (i:Int)∧(Opd.t 7).ev tm=.int .i64 (k:Int)∧(Opd.t 8).ev tm=.ptr z5.next 0∧(Opd.t 9).ev tm=.int .i64 ((2*j:Nat):Int)) ?_ ?_ (i:=0) (Nat.zero_le _)
     ⟨_,_,_,_,rfl,OwnSl.nil s6 1,OwnSl.nil s6 1,fun b hb=>(blkOf_nils hb).elim,g6,(by simp[ev_c,ev_put,t1]<;>rfl),(by simp[ev_c,ev_put,t3]<;>rfl),(by simp[ev_c,ev_put,t4]<;>rfl),(by simp[ev_c,ev_put,t5]<;>rfl),(by simp[ev_c,ev_put,t6]<;>rfl),(by simp[ev_c,ev_put,t7]<;>rfl),(by simp[ev_c,ev_put]<;>rfl),(by simp[ev_c,ev_put]<;>rfl)⟩
    ·clear t1 t3 t4 t5 t6 t7 g6 s6
     rintro j s hj ⟨tm,z7,S,Ga,rfl,oS,oG',dj,g8,t1,t3,t4,t5,t6,t7,t8,t9⟩
     have s7:=oS.1
     have hj':((2*j:Nat):Int)<(row.length:Int):=by omega
     have hp:2*j+1<row.length:=by omega
     obtain⟨v1,v2⟩:=evens_at hp
     have h2j:2*j<row.length:=by omega
     rw[List.getElem?_eq_getElem h2j] at v1
     rw[List.getElem?_eq_getElem hp] at v2
     obtain⟨b3,o3,m3,cs3,ex3,hc3,hq3,_,_,n3⟩:=hwr.at h2j
     obtain⟨b4,o4,m4,cs4,ex4,hc4',hq4,_,_,n4⟩:=hwr.at hp
     have n3:=n3 (by decide)
     have n4:=n4 (by decide)
     simp only[encI,List.getElem?_cons_zero] at n3 n4
     generalize row[2*j]=u1 at n3 v1
     generalize row[2*j+1]=u2 at n4 v2
     have a1:(evens row).take (j+1)=(evens row).take j++[u1]:=by rw[List.take_add_one,v1];rfl
     have a2:(odds row).take (j+1)=(odds row).take j++[u2]:=by rw[List.take_add_one,v2];rfl
     have w4:wr .i64 (((2*j:Nat):Int)+1)=((2*j+1:Nat):Int):=by rw[wr_in (by omega) (by omega)];omega
     have w9:wr .i64 (((2*j:Nat):Int)+2)=((2*(j+1):Nat):Int):=by rw[wr_in (by omega) (by omega)];omega
     have s7c:=s7.cells hc2
     have s73:=s7.cells hc3
     have s74:=s7.cells hc4'
     have oneS:=(oS.c.sl (by rw[List.length_map,List.length_take];omega)).one
     have oneG:=(oG'.c.sl (by rw[List.length_map,List.length_take];omega)).one
     have s8:=(H.Sub.refl s7.wf).add (.cells .rw [.int .i64 u1])
     simp -implicitDefEqProofs(maxSteps:=999999)(disch:=first|with_reducible rfl|omega|(simp only[nA,nS,nD]<;>omega)|fail)only[go_sem,t1,t3,t4,t5,t6,t7,t8,t9,hlR,hq2 (nat_cst k),s7c,hn2,hlr,hj',cells_of g8,hq3 (nat_cst (2*j)),s73,n3,s8.cells s7c,cells_of (s8.get g8),s8.cells s73]
     refine own_app hw5 oS (by rw[List.length_take];omega) fun S' z9 oS' nb kk=>?_
     have oG2:=oG'.keep kk oS'.1 fun b hb hs=>dj b hs hb
     have g9:=kk.2 _ _ g8 (oS.ne g8)
     have s9:=oS'.1
     have dj2:∀b,blkOf S' b→¬blkOf Ga b:=fun b hb hg=>by have:=nb b hb;have:=(oG'.blk hg).2.1;omega
     have l9:=s9.wf _ _ g9
     have s10:z5.Sub (z9.set z5.next (.cells .rw [S',Ga,w])):=s9.set (Nat.le_refl _) (by omega) hw5 _
     have k10:=Keeps.set z9 z5.next (.cells .rw [S',Ga,w])
     have oS3:=oS'.keep k10 s10 fun b hb e=>by subst e;exact oS'.ne g9 hb
     have oG3:=oG2.keep k10 s10 fun b hb e=>by subst e;exact oG2.ne g9 hb
     have g10:(z9.set z5.next (.cells .rw [S',Ga,w])).get z5.next=some (.cells .rw [S',Ga,w]):=get_set_same rfl
     have oneS':=(oS'.c.sl (by rw[List.length_map,List.length_append,List.length_take];simp only[List.length_singleton];omega)).one
     simp -implicitDefEqProofs(maxSteps:=999999)(disch:=first|with_reducible rfl|omega|(simp only[nA,nS,nD]<;>omega)|fail)only[go_sem,t1,t3,t4,t5,t6,t7,t8,t9,hlR,hq2 (nat_cst k),hn2,hq3 (nat_cst (2*j)),n3,s8.cells s7c,s8.cells s73,cells_of (s8.get g8),s9.cells hc2,s9.cells hc3,cells_of g9,g9,oneS',cells_one oneS']
     obtain⟨z10,hz10⟩:∃z10,z9.set z5.next (.cells .rw [S',Ga,w])=z10:=⟨_,rfl⟩
     rw[hz10] at s10 k10 oS3 oG3 g10
     try rw[hz10]
     clear hz10
     have s11:=(H.Sub.refl s10.wf).add (.cells .rw [.int .i64 u2])
     simp -implicitDefEqProofs(maxSteps:=999999)(disch:=first|with_reducible rfl|omega|(simp only[nA,nS,nD]<;>omega)|fail)only[go_sem,t1,t3,t4,t5,t6,t7,t8,t9,hlR,hq2 (nat_cst k),hn2,s10.cells hc2,cells_of g10,w4,hq4 (nat_cst (2*j+1)),s10.cells hc4',n4,(s10.trans s11).cells hc2,(s10.trans s11).cells hc4',cells_of (s11.get g10)]
     refine own_app hw5 oG3 (by rw[List.length_take];omega) fun G2 z11 oG4 nb2 kk2=>?_
     have oS4:=oS3.keep kk2 oG4.1 fun b hb hs=>dj2 b hb hs
     have g11:=kk2.2 _ _ g10 (oG3.ne g10)
     have s11':=oG4.1
     have dj3:∀b,blkOf S' b→¬blkOf G2 b:=fun b hb hg=>by have:=nb2 b hg;have:=(oS3.blk hb).2.1;omega
     have l11:=s11'.wf _ _ g11
     have s12:z5.Sub (z11.set z5.next (.cells .rw [S',G2,w])):=s11'.set (Nat.le_refl _) (by omega) hw5 _
     have k12:=Keeps.set z11 z5.next (.cells .rw [S',G2,w])
     have oS5:=oS4.keep k12 s12 fun b hb e=>by subst e;exact oS4.ne g11 hb
     have oG5:=oG4.keep k12 s12 fun b hb e=>by subst e;exact oG4.ne g11 hb
     have oneG':=(oG4.c.sl (by rw[List.length_map,List.length_append,List.length_take];simp only[List.length_singleton];omega)).one
     simp -implicitDefEqProofs(maxSteps:=999999)(disch:=first|with_reducible rfl|omega|(simp only[nA,nS,nD]<;>omega)|fail)only[go_sem,t1,t3,t4,t5,t6,t7,t8,t9,hlR,hq2 (nat_cst k),hn2,(s10.trans s11).cells hc2,(s10.trans s11).cells hc4',cells_of (s11.get g10),s11'.cells hc2,s11'.cells hc4',hq4 (nat_cst (2*j+1)),w4,n4,cells_of g11,g11,oneG',cells_one oneG',w9]
     exact⟨_,_,S',G2,rfl,by rw[a1];exact oS5,by rw[a2];exact oG5,dj3,get_set_same rfl,(by simp[ev_c,ev_put,t1]<;>rfl),(by simp[ev_c,ev_put,t3]<;>rfl),(by simp[ev_c,ev_put,t4]<;>rfl),(by simp[ev_c,ev_put,t5]<;>rfl),(by simp[ev_c,ev_put,t6]<;>rfl),(by simp[ev_c,ev_put,t7]<;>rfl),(by simp[ev_c,ev_put,t8]<;>rfl),(by simp[ev_c,ev_put]<;>rfl)⟩
    ·clear t1 t3 t4 t5 t6 t7 g6 s6
     rintro s ⟨tm,z7,S,Ga,rfl,oS,oG',dj,g8,t1,t3,t4,t5,t6,t7,t8,t9⟩
     have s7:=oS.1
     have hj':¬((2*a.cks.length:Nat):Int)<(row.length:Int):=by omega
     rw[List.take_of_length_le (by omega)] at oS oG'
     have sS:=oS.c.sl (by rw[List.length_map];omega)
     have sG:=oG'.c.sl (by rw[List.length_map];omega)
     have oneS:=sS.one
     have oneG:=sG.one
     have hv:TrT z7 (S,Ga,w) (evens row,odds row,tt):=⟨sS,sG,hw5t.mono s7⟩
     have sA:=(H.Sub.refl s7.wf).add (.cells .rw [S,Ga,w])
     simp -implicitDefEqProofs(maxSteps:=999999)(disch:=first|with_reducible rfl|omega|(simp only[nA,nS,nD]<;>omega)|fail)only[go_sem,t1,t3,t4,t5,t6,t7,t8,t9,hlR,hq2 (nat_cst k),s7.cells hc2,hn2,hlr,hj',cells_of g8,oneS,oneG,o5]
     have hw5n:=s25.next
     have lz2:=s02.next
     refine(tl.mono (s7.trans sA)).push hw2 (by have:=hlen2 tt;rw[List.length_append,List.length_take];omega) (v:=(S,Ga,w)) (t:=(evens row,odds row,tt)) (SlAt.new _ rfl rfl (by simp[row3]) (by simp[row3]) (by simp)) (hv.mono sA) ⟨(ownUp oS).low (by omega),(ownUp oG').low (by omega),uw.low sz.next⟩ fun y5 z9 l5 _=>?_
     simp -implicitDefEqProofs(maxSteps:=999999)(disch:=first|with_reducible rfl|omega|(simp only[nA,nS,nD]<;>omega)|fail)only[go_sem,t1,t3,t4,t5,t6,t7,t8,t9,wr_succ]
     have e2:(ofT RR tt).take (k+1)=(ofT RR tt).take k++[(evens row,odds row,tt)]:=by rw[List.take_add_one,hst];rfl
     exact⟨_,_,_,_,rfl,by rw[e2,←List.append_assoc];exact l5,(by simp[ev_c,ev_put,t1]<;>rfl),(by simp[ev_c,ev_put,t3]<;>rfl),(by simp[ev_c,ev_put,t4]<;>rfl),(by simp[ev_c,ev_put]<;>rfl),(by simp[ev_c,ev_put,t6]<;>rfl),(by simp[ev_c,ev_put]<;>rfl)⟩
   ·clear tl4 t1 t3 t4 t5 t6
    rintro s ⟨tm,z5,y,vs,rfl,tl,t1,t3,t4,t5,t6,t7⟩
    have hk':¬(RR.length:Int)<(RR.length:Int):=by omega
    have hlo:(ofT RR tt).take RR.length=ofT RR tt:=List.take_of_length_le (by unfold ofT;rw[List.length_map];exact Nat.le_refl _)
    rw[hlo,←hstep] at tl
    simp -implicitDefEqProofs(maxSteps:=999999)(disch:=first|with_reducible rfl|omega|(simp only[nA,nS,nD]<;>omega)|fail)only[go_sem,t1,t3,t4,t5,t6,t7,hlR,hk',wr_succ]
    exact⟨_,_,_,_,rfl,tl,(by simp[ev_c,ev_put,t1]<;>rfl),(by simp[ev_c,ev_put,t3]<;>rfl),(by simp[ev_c,ev_put,t4]<;>rfl),(by simp[ev_c,ev_put,t5]<;>rfl),(by simp[ev_c,ev_put]<;>rfl)⟩
 ·rintro s ⟨tm,z3,y,vs,rfl,tl,t1,t3,t4,t5,t6⟩
  rw[hall] at tl
  have s3:=tl.o.1
  simp -implicitDefEqProofs(maxSteps:=999999)(disch:=first|with_reducible rfl|omega|(simp only[nA,nS,nD]<;>omega)|fail)only[go_sem,t1,t3,t4,t5,t6,hlT,Int.lt_irrefl]
  exact q _ _ (s02.trans s3) (tl.rd (by rw[←hall];have:=hlen T.length;omega) s02.next)
end Go.Ab.Tryz
namespace Go.Ab.Tryz
open Go.Proofs
structure InT (a:At)(t:TT):Prop where
 l:LenT a t
 m:∀x∈t.2.2,0≤x∧x≤240
 r:∀(k:Nat) s g,t.1[k]? =some s→t.2.1[k]? =some g→RunIn s g
theorem allT_in {a:At}(r:Right a){t:TT}(h:t∈allT a):InT a t:=by
 obtain⟨l,tr⟩:=(allT_mem r).1 h
 have he:=r.evs
 have hm:=r.mins
 refine⟨l,fun x hx=>?_,fun k s g h1 h2=>(tr.run k (s,g) (zip_get.2 ⟨h1,h2⟩)).run r⟩
 obtain⟨i,hi,rfl⟩:=List.mem_iff_getElem.1 hx
 have l3:=l.2.2
 have:=tr.mins i (by omega)
 rw[timeF_at (List.getElem?_eq_getElem hi)] at this
 omega
theorem allT_len (a:At):(allT a).length≤(a.mins.toNat+1)^a.evs.toNat*runsN a.cks:=by
 have:=uptoT_len (a:=a) (T:=timesL a a.evs.toNat) (RR:=runsL a.cks) (timesL a a.evs.toNat).length
 rw[uptoT_all,timesL_len,runsL_len] at this
 exact this
end Go.Ab.Tryz
namespace Go.Ab.Tryz
open Go.Proofs
end Go.Ab.Tryz
namespace Go.Ab.Tryz
open Go.Proofs
theorem any_take {α:Type}{l:List α}{p:α→Bool}{j:Nat}(h:j<l.length):(l.take (j+1)).any p=((l.take j).any p||p l[j]):=by
 rw[take_at h,List.any_append];simp
end Go.Ab.Tryz
namespace Go.Ab
def rowB (f:Nat→Bool)(n:Nat):List V:=(List.range n).map fun j=>.bool (f j)
theorem rowB_len (f:Nat→Bool)(n:Nat):(rowB f n).length=n:=by simp[rowB]
theorem rowB_nth {f:Nat→Bool}{n j:Nat}(h:j<n):nth j (rowB f n)=some (.bool (f j)):=by
 rw[nth_get];simp[rowB,h]
theorem rowB_put {f:Nat→Bool}{n j:Nat}(h:j<n)(b:Bool):putN j [.bool b] (rowB f n)=some (rowB (fun i=>if i=j then b else f i) n):=by
 have hl:=rowB_len f n
 have e:(rowB f n).set j (.bool b)=(rowB f n).take j++[.bool b]++(rowB f n).drop (j+1):=by
  rw[List.set_eq_take_append_cons_drop,if_pos (by omega),List.append_assoc];rfl
 refine(putN_eq (by simp)).2 ⟨?_,by rw[hl];exact h⟩
 show _=(rowB f n).take j++[.bool b]++(rowB f n).drop (j+1)
 rw[←e]
 refine List.ext_getElem (by simp[rowB]) fun i h1 h2=>?_
 rw[List.getElem_set]
 simp only[rowB,List.getElem_map,List.getElem_range]
 by_cases c:j=i
 ·subst c;simp
 ·rw[if_neg (fun e=>c e.symm),if_neg c]
theorem repN_false (n:Nat):repN n [.bool false]=rowB (fun _=>false) n:=by
 induction n with
 |zero=>rfl
 |succ n ih=>
  have:rowB (fun _=>false) (n+1)=[.bool false]++rowB (fun _=>false) n:=by
   simp only[rowB,List.range_succ_eq_map,List.map_cons,List.map_map];rfl
  rw[this,←ih];simp only[repN,appN_eq]
namespace Tryz
open Go.Proofs
open Go.Ab.Silk (Inc bitsL bitsL_inc bitsL_onto lexlt before firstOf IsMin)
theorem sAt_far {s:Int}(h0:0≤s)(h1:s<256){i:Nat}(h:8≤i):sAt s i=0:=by
 have:=sAt_zero 8 h0 (by simpa using h1)
 exact(lst_stop this i h).2
theorem bit_far {a:Int}{i j:Nat}(h:sAt a i=0)(hij:i≤j):bitC a j=false:=by
 unfold bitC
 rw[(lst_stop h j hij).2];rfl
theorem bitI_stop {f:Nat→Bool}{i:Nat}(h:∀j,i≤j→f j=false):∀{n:Nat},i≤n→bitI f n=bitI f i
 |0,hn=>by rw[show i=0 by omega]
 |n+1,hn=>by
  by_cases e:i=n+1
  ·rw[e]
  ·rw[bitI,h n (by omega),bitI_stop h (by omega)];simp
set_option maxHeartbeats 4000000 in
theorem common_ev {h:H}{a b:Int}(a0:0≤a)(a1:a<256)(b0:0≤b)(b1:b<256)(Q:V→H→Prop):Ev fnG fastA (.fn 158 [] []) [.int .i64 a,.int .i64 b] h Q=Q (.int .i64 (commI a b)) h:=by
 refine Ev.det (Ev_body (fd:=c158) rfl rfl rfl ?_) Q
 simp -implicitDefEqProofs(maxSteps:=999999)(disch:=first|with_reducible rfl|omega|(simp only[nA,nS,nD]<;>omega)|fail)only[c158,go_sem]
 refine W_loop (fun k s=>∃tm i,s=⟨tm,h,[]⟩∧k=(sAt a i).toNat∧i≤8∧(Opd.t 0).ev tm=.int .i64 (sAt a i)∧(Opd.t 1).ev tm=.int .i64 (sAt b i)∧(Opd.t 5).ev tm=.int .i64 (bitI (fun k=>bitC a k&&bitC b k) i)∧(Opd.t 6).ev tm=.int .i64 (2^i)) ?_ (sAt a 0).toNat _
  ⟨_,0,rfl,rfl,by omega,(by simp[ev_c,ev_put]<;>rfl),(by simp[ev_c,ev_put]<;>rfl),(by simp[ev_c,ev_put]<;>rfl),(by simp[ev_c,ev_put]<;>rfl)⟩
 rintro k s ⟨tm,i,rfl,rfl,hi8,t0,t1,t5,t6⟩
 have n0:=sAt_nn a0 i
 have n1:=sAt_le a0 i
 have m0:=sAt_nn b0 i
 have m1:=sAt_le b0 i
 have fin:sAt a i=0∨sAt b i=0→bitI (fun k=>bitC a k&&bitC b k) i=commI a b:=fun hz=>by
  unfold commI
  refine(bitI_stop (fun j hj=>?_) hi8).symm
  rcases hz with hz|hz
  ·rw[bit_far hz hj];rfl
  ·rw[bit_far hz hj];simp
 by_cases hz:sAt a i=0
 ·have hnl:¬(0:Int)<sAt a i:=by omega
  simp -implicitDefEqProofs(maxSteps:=999999)(disch:=first|with_reducible rfl|omega|(simp only[nA,nS,nD]<;>omega)|fail)only[go_sem,t0,t1,t5,t6,hnl]
  rw[fin (.inl hz)]
  try exact⟨rfl,rfl⟩
 have hp:(0:Int)<sAt a i:=by omega
 by_cases hy:sAt b i=0
 ·have hnl:¬(0:Int)<sAt b i:=by omega
  simp -implicitDefEqProofs(maxSteps:=999999)(disch:=first|with_reducible rfl|omega|(simp only[nA,nS,nD]<;>omega)|fail)only[go_sem,t0,t1,t5,t6,hp,hnl]
  rw[fin (.inr hy)]
  try exact⟨rfl,rfl⟩
 have hq:(0:Int)<sAt b i:=by omega
 have hi:i<8:=Nat.lt_of_not_le fun hc=>hz (sAt_far a0 a1 hc)
 have e1:(sAt a i).tmod 2=sAt a i%2:=Int.tmod_eq_emod_of_nonneg n0
 have e2:(sAt b i).tmod 2=sAt b i%2:=Int.tmod_eq_emod_of_nonneg m0
 have d1:wr .i64 ((sAt a i).tdiv 2)=sAt a (i+1):=by
  rw[Int.tdiv_eq_ediv_of_nonneg n0,wr_in (by omega) (by omega)];rfl
 have d2:wr .i64 ((sAt b i).tdiv 2)=sAt b (i+1):=by
  rw[Int.tdiv_eq_ediv_of_nonneg m0,wr_in (by omega) (by omega)];rfl
 have hlt:(sAt a (i+1)).toNat<(sAt a i).toNat:=by simp only[sAt];omega
 have hpw:=pow8 (i:=i) (by omega)
 have e3:(2:Int)^(i+1)=2*2^i:=by rw[Int.pow_succ];omega
 have w6:wr .i64 (2*2^i)=2^(i+1):=by rw[e3];exact wr_in (by omega) (by omega)
 have hbd:=bitI_bd (fun k=>bitC a k&&bitC b k) i
 have w5:wr .i64 (bitI (fun k=>bitC a k&&bitC b k) i+2^i)=bitI (fun k=>bitC a k&&bitC b k) i+2^i:=wr_in (by omega) (by omega)
 have q2:=q_ar_rem .i64 (a:=sAt a i) (show(2:Int)≠0 by decide)
 have st:bitI (fun k=>bitC a k&&bitC b k) (i+1)=bitI (fun k=>bitC a k&&bitC b k) i+if(bitC a i&&bitC b i)=true then 2^i else 0:=rfl
 cases ha:bitC a i with
 |false=>
  have hc:¬sAt a i%2=1:=by unfold bitC at ha;simpa using ha
  rw[ha] at st
  simp -implicitDefEqProofs(maxSteps:=999999)(disch:=first|with_reducible rfl|omega|(simp only[nA,nS,nD]<;>omega)|fail)only[go_sem,t0,t1,t5,t6,hp,hq,q_ar_rem .i64 (show(2:Int)≠0 by decide),q_ar_quo .i64 (show(2:Int)≠0 by decide),e1,e2,hc,d1,d2,w6]
  exact⟨_,hlt,_,i+1,rfl,rfl,hi,(by simp[ev_c,ev_put]<;>rfl),(by simp[ev_c,ev_put]<;>rfl),by rw[st];simpa using(by simp[ev_c,ev_put,t5]<;>rfl),(by simp[ev_c,ev_put]<;>rfl)⟩
 |true=>
  have hc:sAt a i%2=1:=by unfold bitC at ha;simpa using ha
  cases hb:bitC b i with
  |false=>
   have hd:¬sAt b i%2=1:=by unfold bitC at hb;simpa using hb
   rw[ha,hb] at st
   simp -implicitDefEqProofs(maxSteps:=999999)(disch:=first|with_reducible rfl|omega|(simp only[nA,nS,nD]<;>omega)|fail)only[go_sem,t0,t1,t5,t6,hp,hq,q_ar_rem .i64 (show(2:Int)≠0 by decide),q_ar_quo .i64 (show(2:Int)≠0 by decide),e1,e2,hc,hd,d1,d2,w6]
   exact⟨_,hlt,_,i+1,rfl,rfl,hi,(by simp[ev_c,ev_put]<;>rfl),(by simp[ev_c,ev_put]<;>rfl),by rw[st];simpa using(by simp[ev_c,ev_put,t5]<;>rfl),(by simp[ev_c,ev_put]<;>rfl)⟩
  |true=>
   have hd:sAt b i%2=1:=by unfold bitC at hb;simpa using hb
   rw[ha,hb] at st
   simp -implicitDefEqProofs(maxSteps:=999999)(disch:=first|with_reducible rfl|omega|(simp only[nA,nS,nD]<;>omega)|fail)only[go_sem,t0,t1,t5,t6,hp,hq,q_ar_rem .i64 (show(2:Int)≠0 by decide),q_ar_quo .i64 (show(2:Int)≠0 by decide),e1,e2,hc,hd,d1,d2,w5,w6]
   exact⟨_,hlt,_,i+1,rfl,rfl,hi,(by simp[ev_c,ev_put]<;>rfl),(by simp[ev_c,ev_put]<;>rfl),by rw[st];exact(by simp[ev_c,ev_put]<;>rfl),(by simp[ev_c,ev_put]<;>rfl)⟩
set_option maxHeartbeats 1000000 in
theorem ref10Agree_ev {h:H}{y:V}{ms:List Int}(hy:SlAt h y 1 (ms.map encI))(hl:ms.length≤100000)(hb:∀m∈ms,0≤m∧m<256){s:Int}(s0:0≤s)(s1:s<256)(Q:V→H→Prop):Ev fnG fastA (.fn 111 [] []) [y,.int .i64 s] h Q=Q (.bool (agrS ms s)) h:=by
 have hlM:=hy.lenE
 refine Ev.det (Ev_body (fd:=c111) rfl rfl rfl ?_) Q
 simp -implicitDefEqProofs(maxSteps:=999999)(disch:=first|with_reducible rfl|omega|(simp only[nA,nS,nD]<;>omega)|fail)only[c111,go_sem]
 refine W_count ms.length (fun i st=>∃tm,st=⟨tm,h,[]⟩∧(ms.take i).any (fun m=>decide (commI m s=0))=false∧(Opd.t 0).ev tm=y∧(Opd.t 1).ev tm=.int .i64 s∧(Opd.t 5).ev tm=.int .i64 (i:Int)) ?_ ?_ (i:=0) (Nat.zero_le _)
  ⟨_,rfl,by simp,(by simp[ev_c,ev_put]<;>rfl),(by simp[ev_c,ev_put]<;>rfl),(by simp[ev_c,ev_put]<;>rfl)⟩
 ·rintro i st hi ⟨tm,rfl,hno,t0,t1,t5⟩
  have hi':(i:Int)<(ms.length:Int):=by omega
  obtain⟨b,o,k,cs,_,hc,hq,_,_,hn⟩:=hy.at hi
  have hn:=hn (by decide)
  simp only[encI,List.getElem?_cons_zero] at hn
  have hbi:=hb _ (List.getElem_mem hi)
  have hany:=any_take (p:=fun m=>decide (commI m s=0)) hi
  rw[hno,Bool.false_or] at hany
  have hin:=List.getElem_mem hi
  generalize ms[i]=m at hn hbi hany hin
  by_cases e:commI m s=0
  ·have e2:agrS ms s=true:=List.any_eq_true.2 ⟨m,hin,decide_eq_true e⟩
   simp -implicitDefEqProofs(maxSteps:=999999)(disch:=first|with_reducible rfl|omega|(simp only[nA,nS,nD]<;>omega)|fail)only[go_sem,t0,t1,t5,hlM,hi',hq (nat_cst i),hc,hn,common_ev hbi.1 hbi.2 s0 s1,e]
   rw[e2]
   try exact⟨rfl,rfl⟩
  ·simp -implicitDefEqProofs(maxSteps:=999999)(disch:=first|with_reducible rfl|omega|(simp only[nA,nS,nD]<;>omega)|fail)only[go_sem,t0,t1,t5,hlM,hi',hq (nat_cst i),hc,hn,common_ev hbi.1 hbi.2 s0 s1,e,wr_succ]
   exact⟨_,rfl,by rw[hany];exact decide_eq_false e,(by simp[ev_c,ev_put,t0]<;>rfl),(by simp[ev_c,ev_put,t1]<;>rfl),(by simp[ev_c,ev_put]<;>rfl)⟩
 ·rintro st ⟨tm,rfl,hno,t0,t1,t5⟩
  rw[List.take_length] at hno
  have e2:agrS ms s=false:=hno
  simp -implicitDefEqProofs(maxSteps:=999999)(disch:=first|with_reducible rfl|omega|(simp only[nA,nS,nD]<;>omega)|fail)only[go_sem,t0,t1,t5,hlM,Int.lt_irrefl]
  rw[e2]
  try exact⟨rfl,rfl⟩
theorem lexlt_drop {a b:List Int}{i:Nat}(h1:i<a.length)(h2:i<b.length):lexlt (a.drop i) (b.drop i)=if a[i]=b[i] then lexlt (a.drop (i+1)) (b.drop (i+1)) else decide (a[i]<b[i]):=by
 rw[List.drop_eq_getElem_cons h1,List.drop_eq_getElem_cons h2];rfl
set_option maxHeartbeats 1000000 in
theorem ahead_ev {h:H}{x y:V}{a b:List Int}(hx:SlAt h x 1 (a.map encI))(hy:SlAt h y 1 (b.map encI))(Q:V→H→Prop):Ev fnG fastA (.fn 110 [] []) [x,y] h Q=Q (.bool (before a b)) h:=by
 have hlx:=hx.lenE
 have hly:=hy.lenE
 refine Ev.det (Ev_body (fd:=c110) rfl rfl rfl ?_) Q
 by_cases e:a.length=b.length
 case neg=>
  have e':¬(a.length:Int)=(b.length:Int):=by omega
  have eb:before a b=decide ((a.length:Int)<(b.length:Int)):=by
   unfold before;rw[if_neg e,Bool.eq_iff_iff];simp only[decide_eq_true_eq];omega
  simp -implicitDefEqProofs(maxSteps:=999999)(disch:=first|with_reducible rfl|omega|(simp only[nA,nS,nD]<;>omega)|fail)only[c110,go_sem,hlx,hly,e',ne_eq,not_false_eq_true]
  rw[eb]
  try exact⟨rfl,rfl⟩
 have e':(a.length:Int)=(b.length:Int):=by omega
 have eb:before a b=lexlt a b:=by unfold before;rw[if_pos e]
 simp -implicitDefEqProofs(maxSteps:=999999)(disch:=first|with_reducible rfl|omega|(simp only[nA,nS,nD]<;>omega)|fail)only[c110,go_sem,hlx,hly,e',ne_eq,not_true_eq_false]
 refine W_count a.length (fun i s=>∃tm,s=⟨tm,h,[]⟩∧lexlt a b=lexlt (a.drop i) (b.drop i)∧(Opd.t 0).ev tm=x∧(Opd.t 1).ev tm=y∧(Opd.t 5).ev tm=.int .i64 (i:Int))
  ?_ ?_ (i:=0) (Nat.zero_le _) ⟨_,rfl,rfl,(by simp[ev_c,ev_put]<;>rfl),(by simp[ev_c,ev_put]<;>rfl),(by simp[ev_c,ev_put]<;>rfl)⟩
 ·rintro i s hi ⟨tm,rfl,hd,t0,t1,t5⟩
  have hbx:=hx.boundE
  have hi':(i:Int)<(b.length:Int):=by omega
  have hib:i<b.length:=by omega
  obtain⟨b1,o1,k1,cs1,ex1,hc1,hq1,hg1,hn1,hn01⟩:=hx.at hi
  obtain⟨b2,o2,k2,cs2,ex2,hc2,hq2,hg2,hn2,hn02⟩:=hy.at hib
  have hn01:=hn01 (by decide)
  have hn02:=hn02 (by decide)
  simp only[encI,List.getElem?_cons_zero] at hn01 hn02
  have hst:=lexlt_drop hi hib
  generalize a[i]=u at hn01 hst
  generalize b[i]=v at hn02 hst
  by_cases he:u=v
  ·rw[if_pos he] at hst
   simp -implicitDefEqProofs(maxSteps:=999999)(disch:=first|with_reducible rfl|omega|(simp only[nA,nS,nD]<;>omega)|fail)only[go_sem,t0,t1,t5,hlx,hly,e',hi',hq1 (nat_cst i),hc1,hn01,hq2 (nat_cst i),hc2,hn02,he,ne_eq,not_true_eq_false,wr_succ]
   exact⟨_,rfl,by rw[hd,hst],(by simp[ev_c,ev_put,t0]<;>rfl),(by simp[ev_c,ev_put,t1]<;>rfl),(by simp[ev_c,ev_put]<;>rfl)⟩
  ·rw[if_neg he] at hst
   simp -implicitDefEqProofs(maxSteps:=999999)(disch:=first|with_reducible rfl|omega|(simp only[nA,nS,nD]<;>omega)|fail)only[go_sem,t0,t1,t5,hlx,hly,e',hi',hq1 (nat_cst i),hc1,hn01,hq2 (nat_cst i),hc2,hn02,he,ne_eq,not_false_eq_true]
   rw[eb,hd,hst]
   try exact⟨rfl,rfl⟩
 ·rintro s ⟨tm,rfl,hd,t0,t1,t5⟩
  have hi':¬(a.length:Int)<(b.length:Int):=by omega
  simp -implicitDefEqProofs(maxSteps:=999999)(disch:=first|with_reducible rfl|omega|(simp only[nA,nS,nD]<;>omega)|fail)only[go_sem,t0,t1,t5,hlx,hly,hi',Int.lt_irrefl]
  rw[eb,hd,List.drop_length,show b.drop a.length=[] by rw[e,List.drop_length]]
  first|exact⟨rfl,rfl⟩|rfl
set_option maxHeartbeats 1000000 in
theorem members_ev {h:H}{n:Nat}{s:Int}(hw:h.wf)(hn:n≤8)(h0:0≤s)(h1:s<2^n)(Q:V→H→Prop)(q:∀y h',h.Sub h'→SlAt h' y 1 ((bitsL n s 0).map encI)→Q y h'):Ev fnG fastA (.fn 109 [] []) [.int .i64 s] h Q:=by
 have hb:=(pow8 hn).2
 refine Ev_body (fd:=c109) rfl rfl rfl ?_
 simp -implicitDefEqProofs(maxSteps:=999999)(disch:=first|with_reducible rfl|omega|(simp only[nA,nS,nD]<;>omega)|fail)only[c109,go_sem]
 refine W_loop (fun k st=>∃tm h' y i,st=⟨tm,h',[]⟩∧k=(sAt s i).toNat∧i≤n∧OwnSl h h' y 1 ((lst (bitC s) i).map encI)∧(Opd.t 0).ev tm=.int .i64 (sAt s i)∧(Opd.t 3).ev tm=y∧(Opd.t 4).ev tm=.int .i64 (i:Int)) ?_ (sAt s 0).toNat _
  ⟨_,_,.nils,0,rfl,rfl,Nat.zero_le _,OwnSl.nil (H.Sub.refl hw) 1,(by simp[ev_c,ev_put]<;>rfl),(by simp[ev_c,ev_put]<;>rfl),(by simp[ev_c,ev_put]<;>rfl)⟩
 rintro k st ⟨tm,h',y,i,rfl,rfl,hin,oy,t0,t3,t4⟩
 have n0:=sAt_nn h0 i
 have n1:=sAt_le h0 i
 have hln:=lst_len (bitC s) i
 by_cases hz:sAt s i=0
 ·have hnl:¬(0:Int)<sAt s i:=by omega
  simp -implicitDefEqProofs(maxSteps:=999999)(disch:=first|with_reducible rfl|omega|(simp only[nA,nS,nD]<;>omega)|fail)only[go_sem,t0,t3,t4,hnl]
  refine q _ _ oy.1 ?_
  rw[←lst_all h0 h1 hz];exact oy.c.sl (by rw[List.length_map];omega)
 ·have hp:(0:Int)<sAt s i:=by omega
  have hin':i<n:=by
   have:=sAt_zero n h0 h1
   refine Nat.lt_of_not_le fun hc=>hz ?_
   exact(lst_stop this i hc).2
  have e1:(sAt s i).tmod 2=sAt s i%2:=Int.tmod_eq_emod_of_nonneg n0
  have e2:wr .i64 ((sAt s i).tdiv 2)=sAt s (i+1):=by
   rw[Int.tdiv_eq_ediv_of_nonneg n0,wr_in (by omega) (by omega)];rfl
  have hlt:(sAt s (i+1)).toNat<(sAt s i).toNat:=by simp only[sAt];omega
  have wi:wr .i64 ((i:Int)+1)=((i+1:Nat):Int):=by rw[wr_in (by omega) (by omega)];omega
  cases hbt:bitC s i
  ·have hc:¬sAt s i%2=1:=by unfold bitC at hbt;simpa using hbt
   have e3:lst (bitC s) (i+1)=lst (bitC s) i:=by simp[lst,hbt]
   simp -implicitDefEqProofs(maxSteps:=999999)(disch:=first|with_reducible rfl|omega|(simp only[nA,nS,nD]<;>omega)|fail)only[go_sem,t0,t3,t4,hp,q_ar_rem .i64 (show(2:Int)≠0 by decide),q_ar_quo .i64 (show(2:Int)≠0 by decide),e1,e2,hc,wi]
   exact⟨_,hlt,_,_,y,i+1,rfl,rfl,hin',by rw[e3];exact oy,(by simp[ev_c,ev_put]<;>rfl),(by simp[ev_c,ev_put,t3]<;>rfl),(by simp[ev_c,ev_put]<;>rfl)⟩
  ·have hc:sAt s i%2=1:=by unfold bitC at hbt;simpa using hbt
   have e3:lst (bitC s) (i+1)=lst (bitC s) i++[(i:Int)]:=by simp[lst,hbt]
   simp -implicitDefEqProofs(maxSteps:=999999)(disch:=first|with_reducible rfl|omega|(simp only[nA,nS,nD]<;>omega)|fail)only[go_sem,t0,t3,t4,hp,q_ar_rem .i64 (show(2:Int)≠0 by decide),q_ar_quo .i64 (show(2:Int)≠0 by decide),e1,e2,hc,wi]
   refine own_app hw oy (by omega) fun y2 h2 oy2 _ _=>?_
   simp -implicitDefEqProofs(maxSteps:=999999)(disch:=first|with_reducible rfl|omega|(simp only[nA,nS,nD]<;>omega)|fail)only[go_sem,t0,t3,t4,q_ar_rem .i64 (show(2:Int)≠0 by decide),q_ar_quo .i64 (show(2:Int)≠0 by decide),e2,wi]
   exact⟨_,hlt,_,_,y2,i+1,rfl,rfl,hin',by rw[e3];exact oy2,(by simp[ev_c,ev_put]<;>rfl),(by simp[ev_c,ev_put]<;>rfl),(by simp[ev_c,ev_put]<;>rfl)⟩
end Tryz
end Go.Ab
namespace Go.Ab.Tryz
open Go.Proofs
open Go.Ab.Silk (Inc bitsL bitsL_inc bitsL_onto lexlt before firstOf firstOf_spec IsMin BestUpto)
theorem missT_bd {a:At}(r:Right a)(t:TT):0≤missT a t∧missT a t<256:=by
 have h:=bitI_bd (missB a t.1 t.2.1 t.2.2) a.rds.length
 have hp:=pow8 r.lens.2.1
 unfold missT missI
 omega
theorem dduS_len (o:List Int)(m:Int):(dduS o m).length≤o.length+1:=by
 unfold dduS
 split
 ·omega
 ·rw[List.length_append,List.length_singleton];exact Nat.le_refl _
theorem foldl_step {l:List Int}{i:Nat}{x:Int}(h:l[i]? =some x):(l.take (i+1)).foldl dduS []=dduS ((l.take i).foldl dduS []) x:=by
 rw[List.take_add_one,h,List.foldl_append];rfl
theorem ddu_len:∀(l o:List Int),(l.foldl dduS o).length≤o.length+l.length
 |[],o=>by simp
 |x::l,o=>by
  have h1:=ddu_len l (dduS o x)
  have h2:=dduS_len o x
  rw[List.foldl_cons,List.length_cons];omega
theorem missL_bd {a:At}(r:Right a):∀m∈missL a,0≤m∧m<256:=fun m hm=>by
 unfold missL at hm
 rw[ddu_mem,List.mem_map] at hm
 obtain⟨t,_,rfl⟩:=hm
 exact missT_bd r t
set_option maxHeartbeats 8000000 in
theorem misses_ev {h:H}(hw:h.wf){a:At}{C R G:V}(x:AtAt h C R G a)(r:Right a){y0:V}{n:Nat}(ty:TR n h y0 (allT a))(hl:(allT a).length≤100000)(Q:V→H→Prop)(q:∀y h',h.Sub h'→SlAt h' y 1 ((missL a).map encI)→Q y h'):
  Ev fnG fastA (.fn 108 [] []) [.agg (atV a C R G),y0] h Q:=by
 have oC:=x.c.one;have oR:=x.r.one;have oG:=x.g.one
 have hlA:=ty.lenE
 refine Ev_body (fd:=c108) rfl rfl rfl ?_
 obtain⟨z,hz⟩:∃z,h.add (.cells .rw (atV a C R G))=z:=⟨_,rfl⟩
 have sz:h.Sub z:=by rw[←hz];exact(by repeat(first|assumption|exact H.Sub.refl (by assumption)|refine H.Sub.add ?_ _|refine H.Sub.set ?_ (by first|omega|(simp only[H.next_add,H.next_set,H.next_del]<;>omega)) (by first|omega|(simp only[H.next_add,H.next_set,H.next_del]<;>omega)) (by assumption) _))
 have ga:z.get h.next=some (.cells .rw (atV a C R G)):=by rw[←hz];exact get_add_new rfl
 have hm:=a_msl_nn (h:=z) (by_:=1) (n:=256) (z:=[.bool false]) (by omega) (by omega)
 rw[repN_false] at hm
 have hm':a_msl z 1 [.bool false] (.int .i64 256) (.int .i64 256)=_:=hm
 obtain⟨rw0,hrw0⟩:∃rw0,rowB (fun _=>false) 256=rw0:=⟨_,rfl⟩
 rw[hrw0] at hm'
 simp -implicitDefEqProofs(maxSteps:=999999)(disch:=first|with_reducible rfl|omega|(simp only[nA,nS,nD]<;>omega)|fail)only[c108,go_sem,oC,oR,oG,hz,hm']
 obtain⟨z1,hz1⟩:∃z1,z.add (.cells .rw rw0)=z1:=⟨_,rfl⟩
 have s1:z.Sub z1:=by rw[←hz1];exact(H.Sub.refl sz.wf).add _
 have gB:z1.get z.next=some (.cells .rw (rowB (fun _=>false) 256)):=by rw[hrw0,←hz1];exact get_add_new rfl
 rw[hz1]
 clear hz hz1 hm hm'
 have hwz:=sz.wf
 obtain⟨M,hM⟩:∃M:List Int,(allT a).map (missT a)=M:=⟨_,rfl⟩
 have hMl:M.length=(allT a).length:=by rw[←hM,List.length_map]
 have hin:=fun t (ht:t∈allT a)=>allT_in r ht
 have hfin:M.foldl dduS []=missL a:=by rw[←hM];rfl
 have hMg:∀(i:Nat) t,(allT a)[i]? =some t→M[i]? =some (missT a t):=fun i t ht=>by rw[←hM,List.getElem?_map,ht];rfl
 generalize allT a=A at *
 refine W_count A.length (fun i s=>∃tm z2 y,s=⟨tm,z2,[]⟩∧OwnSl z z2 y 1 (((M.take i).foldl dduS []).map encI)∧z2.get z.next=some (.cells .rw (rowB (fun q=>decide ((q:Int)∈(M.take i).foldl dduS [])) 256))∧
   (Opd.t 1).ev tm=y0∧(Opd.t 2).ev tm=.ptr h.next 0∧(Opd.t 5).ev tm=.sl z.next 0 256 (.fix 256)∧(Opd.t 6).ev tm=y∧(Opd.t 7).ev tm=.int .i64 (i:Int)) ?_ ?_ (i:=0) (Nat.zero_le _)
  ⟨_,_,_,rfl,OwnSl.nil s1 1,by rw[gB];simp[rowB],(by simp[ev_c,ev_put]<;>rfl),(by simp[ev_c,ev_put]<;>rfl),(by simp[ev_c,ev_put]<;>rfl),(by simp[ev_c,ev_put]<;>rfl),(by simp[ev_c,ev_put]<;>rfl)⟩
 ·rintro i s hi ⟨tm,z2,y,rfl,oy,gb,t1,t2,t5,t6,t7⟩
  have hi':(i:Int)<(A.length:Int):=by omega
  have s2:=oy.1
  have s02:=sz.trans s2
  obtain⟨bb,o,cs,v,hc,hq,hg,hn0,hn1,hn2,hv,hu⟩:=(ty.mono s02).at_ hi
  have hti:=hin _ (List.getElem_mem hi)
  have hst:=foldl_step (hMg i _ (List.getElem?_eq_getElem hi))
  have hlo:=ddu_len (M.take i) []
  rw[List.length_take,List.length_nil] at hlo
  generalize A[i]=t at hv hti hst
  generalize(M.take i).foldl dduS []=O at oy gb hst hlo
  have hmb:=missT_bd r t
  obtain⟨ss,gg,tt⟩:=t
  obtain⟨S,Ga,Tm⟩:=v
  obtain⟨l1,l2,l3⟩:=hti.l
  simp only[row3] at hg
  have oS:=hv.s.one;have oGa:=hv.g.one;have oT:=hv.t.one
  simp only at oS oGa oT
  simp -implicitDefEqProofs(maxSteps:=999999)(disch:=first|with_reducible rfl|omega|(simp only[nA,nS,nD]<;>omega)|fail)only[go_sem,t1,t2,t5,t6,t7,hlA,hi',hq (nat_cst i),hc,hg,cells_of (s2.get ga),oC,oR,oG]
  refine Missed_ev s02.wf (x.mono s02) r hv l1 l2 l3 hti.m hti.r _ fun z3 s3=>?_
  have oy3:=oy.mono s3
  have gb3:=s3.get gb
  have hmm:missT a (ss,gg,tt)=missI a ss gg tt:=rfl
  rw[hmm] at hmb hst
  generalize missI a ss gg tt=m0 at hmb hst
  obtain⟨m,hm⟩:∃m:Nat,m0=m:=⟨m0.toNat,by omega⟩
  subst hm
  have hm256:m<256:=by omega
  have hiad:q_iad 1 (.sl z.next 0 256 (.fix 256)) (.int .i64 (m:Int))=some (.ptr z.next m):=by
   have e:Nat.blt m 256=true:=by rw[Nat.blt_eq];exact hm256
   simp only[q_iad,nat_cst,e,og_true,Nat.mul_one,Nat.zero_add]
  have hnth:=rowB_nth (f:=fun q=>decide ((q:Int)∈O)) hm256
  have lb:=s3.next
  by_cases hmem:(m:Int)∈O
  ·have e:dduS O m=O:=if_pos hmem
   have hn:=hnth
   simp only[hmem,decide_true] at hn
   simp -implicitDefEqProofs(maxSteps:=999999)(disch:=first|with_reducible rfl|omega|(simp only[nA,nS,nD]<;>omega)|fail)only[go_sem,t1,t2,t5,t6,t7,hq (nat_cst i),hc,s3.cells hc,hg,cells_of (s2.get ga),cells_of ((s2.trans s3).get ga),oC,oR,oG,oS,oGa,oT,hiad,cells_of gb3,hn,wr_succ]
   exact⟨_,_,y,rfl,by rw[hst,e];exact oy3,by rw[hst,e];exact gb3,(by simp[ev_c,ev_put,t1]<;>rfl),(by simp[ev_c,ev_put,t2]<;>rfl),(by simp[ev_c,ev_put,t5]<;>rfl),(by simp[ev_c,ev_put,t6]<;>rfl),(by simp[ev_c,ev_put]<;>rfl)⟩
  ·have e:dduS O m=O++[(m:Int)]:=if_neg hmem
   have hn:=hnth
   simp only[hmem,decide_false] at hn
   have hput:=rowB_put (f:=fun q=>decide ((q:Int)∈O)) hm256 true
   have er:rowB (fun j=>if j=m then true else decide ((j:Int)∈O)) 256=rowB (fun q=>decide ((q:Int)∈O++[(m:Int)])) 256:=by
    unfold rowB
    refine List.map_congr_left fun j hj=>?_
    congr 1
    dsimp only
    rw[Bool.eq_iff_iff]
    by_cases e2:j=m
    ·subst e2;simp
    ·have:¬(j:Int)=(m:Int):=by omega
     rw[if_neg e2];simp[this]
   rw[er] at hput
   have lb3:=(s2.trans s3).wf _ _ gb3
   have sset:z.Sub (z3.set z.next (.cells .rw (rowB (fun q=>decide ((q:Int)∈O++[(m:Int)])) 256))):=(s2.trans s3).set (Nat.le_refl _) lb3 hwz _
   have oyS:=oy3.keep (Keeps.set z3 z.next (.cells .rw (rowB (fun q=>decide ((q:Int)∈O++[(m:Int)])) 256))) sset fun b hb e=>by subst e;exact oy3.ne gb3 hb
   have gbS:(z3.set z.next (.cells .rw (rowB (fun q=>decide ((q:Int)∈O++[(m:Int)])) 256))).get z.next=some (.cells .rw (rowB (fun q=>decide ((q:Int)∈O++[(m:Int)])) 256)):=get_set_same rfl
   simp -implicitDefEqProofs(maxSteps:=999999)(disch:=first|with_reducible rfl|omega|(simp only[nA,nS,nD]<;>omega)|fail)only[go_sem,t1,t2,t5,t6,t7,hq (nat_cst i),hc,s3.cells hc,hg,cells_of (s2.get ga),cells_of ((s2.trans s3).get ga),oC,oR,oG,oS,oGa,oT,hiad,cells_of gb3,gb3,hn,hput]
   obtain⟨zs,hzs⟩:∃zs,z3.set z.next (.cells .rw (rowB (fun q=>decide ((q:Int)∈O++[(m:Int)])) 256))=zs:=⟨_,rfl⟩
   have nzs:zs.next=z3.next:=by rw[←hzs,H.next_set]
   rw[hzs] at oyS gbS
   try rw[hzs]
   rw[←nzs]
   clear hzs
   refine own_app hwz oyS (by omega) fun y' z4 oy4 _ kk=>?_
   have gb4:=kk.2 _ _ gbS (oyS.ne gbS)
   simp -implicitDefEqProofs(maxSteps:=999999)(disch:=first|with_reducible rfl|omega|(simp only[nA,nS,nD]<;>omega)|fail)only[go_sem,t1,t2,t5,t6,t7,wr_succ]
   exact⟨_,_,y',rfl,by rw[hst,e];exact oy4,by rw[hst,e];exact gb4,(by simp[ev_c,ev_put,t1]<;>rfl),(by simp[ev_c,ev_put,t2]<;>rfl),(by simp[ev_c,ev_put,t5]<;>rfl),(by simp[ev_c,ev_put]<;>rfl),(by simp[ev_c,ev_put]<;>rfl)⟩
 ·rintro s ⟨tm,z2,y,rfl,oy,gb,t1,t2,t5,t6,t7⟩
  rw[←hMl,List.take_length,hfin] at oy
  simp -implicitDefEqProofs(maxSteps:=999999)(disch:=first|with_reducible rfl|omega|(simp only[nA,nS,nD]<;>omega)|fail)only[go_sem,t1,t2,t5,t6,t7,hlA,Int.lt_irrefl]
  have hlm:=ddu_len M []
  rw[hfin,List.length_nil] at hlm
  exact q _ _ (sz.trans oy.1) (oy.c.sl (by rw[List.length_map];omega))
def memF (l:List Int)(j:Nat):Bool:=decide ((j:Int)∈l)
theorem memF_lst (l:List Int):bitI (memF l) 8=bitI (lstF l) 8:=bitI_congr fun j _=>by
 rw[Bool.eq_iff_iff,lstF_mem];simp[memF]
set_option maxHeartbeats 8000000 in
theorem Listed_ev {h:H}(hw:h.wf){a:At}{C R G:V}(x:AtAt h C R G a)(r:Right a){y:V}{l:List Int}(hy:SlAt h y 1 (l.map encI))(hl:l.length≤1000)(Q:V→H→Prop)(q:∀h',h.Sub h'→Q (.tup [.int .i64 (lisS a l),.int .i64 (lisE a l)]) h'):
  Ev fnG fastA (.fn 41 [] []) [.agg (atV a C R G),y] h Q:=by
 have oC:=x.c.one;have oR:=x.r.one;have oG:=x.g.one
 have hlR:=x.r.lenE
 have hlY:=hy.lenE
 have rl:=r.lens
 have wm:wr .i64 ((a.rds.length:Int)-1)=(a.rds.length:Int)-1:=wr_in (by omega) (by omega)
 refine Ev_body (fd:=c41) rfl rfl rfl ?_
 obtain⟨z,hz⟩:∃z,h.add (.cells .rw (atV a C R G))=z:=⟨_,rfl⟩
 have sz:h.Sub z:=by rw[←hz];exact(by repeat(first|assumption|exact H.Sub.refl (by assumption)|refine H.Sub.add ?_ _|refine H.Sub.set ?_ (by first|omega|(simp only[H.next_add,H.next_set,H.next_del]<;>omega)) (by first|omega|(simp only[H.next_add,H.next_set,H.next_del]<;>omega)) (by assumption) _))
 have ga:z.get h.next=some (.cells .rw (atV a C R G)):=by rw[←hz];exact get_add_new rfl
 simp -implicitDefEqProofs(maxSteps:=999999)(disch:=first|with_reducible rfl|omega|(simp only[nA,nS,nD]<;>omega)|fail)only[c41,go_sem,oC,oR,oG]
 rw[hz]
 clear hz
 have hyz:=hy.mono sz
 obtain⟨ok,hok⟩:∃ok:Int→Bool,ok=fun i=>inB i 0 ((a.rds.length:Int)-1):=⟨_,rfl⟩
 have q1:l.all ok=false→Q (.tup [.int .i64 0,.int .i64 1]) z:=fun e=>by
  have e1:lisE a l=1:=by unfold lisE;rw[←hok,if_pos e]
  have e2:lisS a l=0:=by unfold lisS;rw[if_neg (by rw[e1];simp)]
  have:=q _ sz
  rwa[e1,e2] at this
 refine W.mono (Q:=fun x1 s=>(x1=.ext 0∧l.all ok=true∧∃tm,s=⟨tm,z,[]⟩∧(Opd.t 1).ev tm=y∧(Opd.t 2).ev tm=.ptr h.next 0)∨(x1=.ret∧l.all ok=false∧∃tm,s=⟨tm,z,[]⟩∧(Opd.t 4).ev tm=.int .i64 0∧(Opd.t 5).ev tm=.int .i64 1))
  (W_count l.length (fun i s=>∃tm,s=⟨tm,z,[]⟩∧(l.take i).all ok=true∧(Opd.t 1).ev tm=y∧(Opd.t 2).ev tm=.ptr h.next 0∧(Opd.t 6).ev tm=.int .i64 (i:Int))
  ?_ ?_ (i:=0) (Nat.zero_le _) ⟨_,rfl,by simp,(by simp[ev_c,ev_put]<;>rfl),(by simp[ev_c,ev_put]<;>rfl),(by simp[ev_c,ev_put]<;>rfl)⟩) fun x1 s hx1=>?_
 ·rintro i s hi ⟨tm,rfl,hall,t1,t2,t6⟩
  have hi':(i:Int)<(l.length:Int):=by omega
  obtain⟨b,o,k,cs,_,hc,hq,_,_,hn⟩:=hyz.at hi
  have hn:=hn (by decide)
  simp only[encI,List.getElem?_cons_zero] at hn
  have h1:=fun hp=>all_take_ok (p:=ok) hi hall hp
  have h2:=fun hp=>all_bad (p:=ok) hi hp
  generalize l[i]=u at hn h1 h2
  rw[hok] at h1 h2
  simp only at h1 h2
  rw[←hok] at h1 h2
  cases b1:inB u 0 ((a.rds.length:Int)-1) with
  |false=>
   have e:=h2 b1
   simp -implicitDefEqProofs(maxSteps:=999999)(disch:=first|with_reducible rfl|omega|(simp only[nA,nS,nD]<;>omega)|fail)only[go_sem,t1,t2,t6,hlY,hi',hq (nat_cst i),hc,hn,cells_of ga,hlR,wm,off_eq,b1]
   first|exact .inr ⟨rfl,e,_,rfl,(by simp[ev_c,ev_put]<;>rfl),(by simp[ev_c,ev_put]<;>rfl)⟩|exact .inr ⟨e,_,rfl,(by simp[ev_c,ev_put]<;>rfl),(by simp[ev_c,ev_put]<;>rfl)⟩|exact⟨e,_,rfl,(by simp[ev_c,ev_put]<;>rfl),(by simp[ev_c,ev_put]<;>rfl)⟩
  |true=>
   simp -implicitDefEqProofs(maxSteps:=999999)(disch:=first|with_reducible rfl|omega|(simp only[nA,nS,nD]<;>omega)|fail)only[go_sem,t1,t2,t6,hlY,hi',hq (nat_cst i),hc,hn,cells_of ga,hlR,wm,off_eq,b1,wr_succ]
   exact⟨_,rfl,h1 b1,(by simp[ev_c,ev_put,t1]<;>rfl),(by simp[ev_c,ev_put,t2]<;>rfl),(by simp[ev_c,ev_put]<;>rfl)⟩
 ·rintro s ⟨tm,rfl,hall,t1,t2,t6⟩
  rw[List.take_length] at hall
  simp -implicitDefEqProofs(maxSteps:=999999)(disch:=first|with_reducible rfl|omega|(simp only[nA,nS,nD]<;>omega)|fail)only[go_sem,t1,t2,t6,hlY,Int.lt_irrefl]
  first|exact .inl ⟨rfl,hall,_,rfl,(by simp[ev_c,ev_put,t1]<;>rfl),(by simp[ev_c,ev_put,t2]<;>rfl)⟩|exact .inl ⟨hall,_,rfl,(by simp[ev_c,ev_put,t1]<;>rfl),(by simp[ev_c,ev_put,t2]<;>rfl)⟩|exact⟨hall,_,rfl,(by simp[ev_c,ev_put,t1]<;>rfl),(by simp[ev_c,ev_put,t2]<;>rfl)⟩
 rcases hx1 with⟨rfl,ha,tm,rfl,t1,t2⟩|⟨rfl,ha,tm,rfl,t4,t5⟩
 case inr=>
  simp -implicitDefEqProofs(maxSteps:=999999)(disch:=first|with_reducible rfl|omega|(simp only[nA,nS,nD]<;>omega)|fail)only[go_sem,t4,t5]
  exact q1 ha
 clear q1
 have hall:∀u∈l,0≤u∧u<8:=fun u hu=>by
  have:=List.all_eq_true.1 ha u hu
  rw[hok] at this
  have:=inB_iff.1 this
  omega
 have e0:lisE a l=if(risL l).length<l.length then 5 else 0:=by unfold lisE;rw[←hok,if_neg (by rw[ha];simp)]
 simp -implicitDefEqProofs(maxSteps:=999999)(disch:=first|with_reducible rfl|omega|(simp only[nA,nS,nD]<;>omega)|fail)only[go_sem,t1,t2]
 refine W_count l.length (fun i s=>∃tm,s=⟨tm,z,[]⟩∧(∀j (hj:j<l.length),j<i→l[j] ∉l.take j)∧(Opd.t 1).ev tm=y∧(Opd.t 7).ev tm=.int .i64 (bitI (memF (l.take i)) 8)∧(Opd.t 8).ev tm=.int .i64 (i:Int))
  ?_ ?_ (i:=0) (Nat.zero_le _) ⟨_,rfl,fun j hj h0=>by omega,(by simp[ev_c,ev_put,t1]<;>rfl),by rw[List.take_zero,show bitI (memF []) 8=0 from bitI_zero.2 fun j _=>by simp[memF]];exact(by simp[ev_c,ev_put]<;>rfl),(by simp[ev_c,ev_put]<;>rfl)⟩
 ·clear t1 t2
  rintro i s hi ⟨tm,rfl,hno,t1,t7,t8⟩
  have hi':(i:Int)<(l.length:Int):=by omega
  obtain⟨b,o,kk,cs,_,hc,hq,_,_,hn⟩:=hyz.at hi
  have hn:=hn (by decide)
  simp only[encI,List.getElem?_cons_zero] at hn
  have hu:=hall _ (List.getElem_mem hi)
  have htk:=take_at hi
  have hdb:=fun hm=>ris_dbl hi hm
  have hnx:l[i] ∉l.take i→∀j (hj:j<l.length),j<i+1→l[j] ∉l.take j:=fun hm j hj h0=>by
   by_cases e:j=i
   ·subst e;exact hm
   ·exact hno j hj (by omega)
  generalize l[i]=u at hn hu htk hdb hnx
  obtain⟨k,rfl⟩:∃k:Nat,u=k:=⟨u.toNat,by omega⟩
  have hk8:k<8:=by omega
  simp -implicitDefEqProofs(maxSteps:=999999)(disch:=first|with_reducible rfl|omega|(simp only[nA,nS,nD]<;>omega)|fail)only[go_sem,t1,t7,t8,hlY,hi']
  refine W_count k (fun j s=>∃tm,s=⟨tm,z,[]⟩∧(Opd.t 1).ev tm=y∧(Opd.t 7).ev tm=.int .i64 (bitI (memF (l.take i)) 8)∧(Opd.t 8).ev tm=.int .i64 (i:Int)∧(Opd.t 9).ev tm=.int .i64 (2^j)∧(Opd.t 10).ev tm=.int .i64 (j:Int))
   ?_ ?_ (i:=0) (Nat.zero_le _) ⟨_,rfl,(by simp[ev_c,ev_put,t1]<;>rfl),(by simp[ev_c,ev_put,t7]<;>rfl),(by simp[ev_c,ev_put,t8]<;>rfl),(by simp[ev_c,ev_put]<;>rfl),(by simp[ev_c,ev_put]<;>rfl)⟩
  ·clear t1 t7 t8
   rintro j s hj ⟨tm,rfl,t1,t7,t8,t9,t10⟩
   have hj':(j:Int)<(k:Int):=by omega
   have hp:=pow8 (i:=j) (by omega)
   have e3:(2:Int)^(j+1)=2*2^j:=by rw[Int.pow_succ];omega
   have w2:wr .i64 (2*2^j)=2^(j+1):=by rw[e3];exact wr_in (by omega) (by omega)
   simp -implicitDefEqProofs(maxSteps:=999999)(disch:=first|with_reducible rfl|omega|(simp only[nA,nS,nD]<;>omega)|fail)only[go_sem,t1,t7,t8,t9,t10,hq (nat_cst i),hc,hn,hj',w2,wr_succ]
   exact⟨_,rfl,(by simp[ev_c,ev_put,t1]<;>rfl),(by simp[ev_c,ev_put,t7]<;>rfl),(by simp[ev_c,ev_put,t8]<;>rfl),(by simp[ev_c,ev_put]<;>rfl),(by simp[ev_c,ev_put]<;>rfl)⟩
  ·clear t1 t7 t8
   rintro s ⟨tm,rfl,t1,t7,t8,t9,t10⟩
   have hp:=pow8 (i:=k) (by omega)
   have hbd:=bitI_bd (memF (l.take i)) 8
   have h256:(2:Int)^8=256:=by decide
   have hne:(2:Int)^k≠0:=by omega
   have hbit:bitC (bitI (memF (l.take i)) 8) k=memF (l.take i) k:=by rw[bitC_bitI];simp[hk8]
   have hsA:sAt (bitI (memF (l.take i)) 8) k=bitI (memF (l.take i)) 8/2^k:=sAt_div k _
   have hn0:=sAt_nn hbd.1 k
   have hn1:=sAt_le hbd.1 k
   have d1:wr .i64 ((bitI (memF (l.take i)) 8).tdiv (2^k))=sAt (bitI (memF (l.take i)) 8) k:=by
    rw[Int.tdiv_eq_ediv_of_nonneg hbd.1,←hsA,wr_in (by omega) (by omega)]
   have d2:(sAt (bitI (memF (l.take i)) 8) k).tmod 2=sAt (bitI (memF (l.take i)) 8) k%2:=Int.tmod_eq_emod_of_nonneg hn0
   by_cases hm:(k:Int)∈l.take i
   ·have hm1:memF (l.take i) k=true:=decide_eq_true hm
    rw[hm1] at hbit
    have hc1:sAt (bitI (memF (l.take i)) 8) k%2=1:=by unfold bitC at hbit;simpa using hbit
    have e1:lisE a l=5:=by rw[e0,if_pos (hdb hm)]
    have e2:lisS a l=0:=by unfold lisS;rw[if_neg (by rw[e1];simp)]
    rw[e1,e2] at q
    simp -implicitDefEqProofs(maxSteps:=999999)(disch:=first|with_reducible rfl|omega|(simp only[nA,nS,nD]<;>omega)|fail)only[go_sem,t1,t7,t8,t9,t10,hq (nat_cst i),hc,hn,Int.lt_irrefl,q_ar_quo .i64 hne,q_ar_rem .i64 (show(2:Int)≠0 by decide),d1,d2,hc1]
    exact q _ sz
   ·have hm1:memF (l.take i) k=false:=decide_eq_false hm
    rw[hm1] at hbit
    have hc1:¬sAt (bitI (memF (l.take i)) 8) k%2=1:=by unfold bitC at hbit;simpa using hbit
    have up:bitI (memF (l.take (i+1))) 8=bitI (memF (l.take i)) 8+2^k:=by
     rw[htk]
     refine bitI_upd (fun j hj=>?_) hm1 (by simp[memF]) hk8
     have:¬(j:Int)=(k:Int):=by omega
     simp[memF,this]
    have hbd2:=bitI_bd (memF (l.take (i+1))) 8
    have w7:wr .i64 (bitI (memF (l.take i)) 8+2^k)=bitI (memF (l.take (i+1))) 8:=by rw[up];exact wr_in (by omega) (by omega)
    simp -implicitDefEqProofs(maxSteps:=999999)(disch:=first|with_reducible rfl|omega|(simp only[nA,nS,nD]<;>omega)|fail)only[go_sem,t1,t7,t8,t9,t10,hq (nat_cst i),hc,hn,Int.lt_irrefl,q_ar_quo .i64 hne,q_ar_rem .i64 (show(2:Int)≠0 by decide),d1,d2,hc1,w7,wr_succ]
    exact⟨_,rfl,hnx hm,(by simp[ev_c,ev_put,t1]<;>rfl),(by simp[ev_c,ev_put]<;>rfl),(by simp[ev_c,ev_put]<;>rfl)⟩
 ·clear t1 t2
  rintro s ⟨tm,rfl,hno,t1,t7,t8⟩
  have e1:lisE a l=0:=by rw[e0,if_neg (ris_take fun i hi=>hno i hi hi)]
  have e2:lisS a l=bitI (memF l) 8:=by unfold lisS;rw[if_pos e1,memF_lst]
  rw[List.take_length] at t7
  rw[e1,e2] at q
  simp -implicitDefEqProofs(maxSteps:=999999)(disch:=first|with_reducible rfl|omega|(simp only[nA,nS,nD]<;>omega)|fail)only[go_sem,t1,t7,t8,hlY,Int.lt_irrefl]
  exact q _ sz
end Go.Ab.Tryz
namespace Go.Ab.Tryz
open Go.Proofs
open Go.Ab.Silk (Inc bitsL bitsL_inc bitsL_onto lexlt before firstOf firstOf_spec IsMin BestUpto)
theorem best0 (P:List Int→Bool)(W:Nat):BestUpto P W 0 0 none:=BestUpto.zero P W 0
structure TmA (h:H)(a:At)(y2:Int)(ym:V)(tm:Go.Ab.T V):Prop where
 t2:(Opd.t 2).ev tm=.int .i64 y2
 t3:(Opd.t 3).ev tm=.ptr h.next 0
 t11:(Opd.t 11).ev tm=ym
 t12:(Opd.t 12).ev tm=.int .i64 (2^a.rds.length)
set_option maxHeartbeats 16000000 in
theorem Sets10_ev {h:H}(hw:h.wf){a:At}{C R G:V}(x:AtAt h C R G a)(r:Right a){y0:V}{n:Nat}(ty:TR n h y0 (allT a))(hl:(allT a).length≤100000){st:Int}(st0:0≤st)(st1:st<256)(Q:V→H→Prop)
  (q:∀yc yw h',h.Sub h'→SlAt h' yc 1 (((clashO a).getD []).map encI)→SlAt h' yw 1 (((wrongO a).getD []).map encI)→Q (.tup [.bool (agrS (missL a) st),yc,.bool (clashO a).isSome,yw,.bool (wrongO a).isSome]) h'):
  Ev fnG fastA (.fn 42 [] []) [.agg (atV a C R G),y0,.int .i64 st] h Q:=by
 have oC:=x.c.one;have oR:=x.r.one;have oG:=x.g.one
 have hlR:=x.r.lenE
 have rl:=r.lens
 have oy:=ty.one
 refine Ev_body (fd:=c42) rfl rfl rfl ?_
 obtain⟨z,hz⟩:∃z,h.add (.cells .rw (atV a C R G))=z:=⟨_,rfl⟩
 have sz:h.Sub z:=by rw[←hz];exact(by repeat(first|assumption|exact H.Sub.refl (by assumption)|refine H.Sub.add ?_ _|refine H.Sub.set ?_ (by first|omega|(simp only[H.next_add,H.next_set,H.next_del]<;>omega)) (by first|omega|(simp only[H.next_add,H.next_set,H.next_del]<;>omega)) (by assumption) _))
 have ga:z.get h.next=some (.cells .rw (atV a C R G)):=by rw[←hz];exact get_add_new rfl
 simp -implicitDefEqProofs(maxSteps:=999999)(disch:=first|with_reducible rfl|omega|(simp only[nA,nS,nD]<;>omega)|fail)only[c42,go_sem,oC,oR,oG,hz,cells_of ga]
 try rw[hz]
 clear hz
 refine misses_ev sz.wf (x.mono sz) r (ty.mono sz) hl _ fun ym z1 s1 hm=>?_
 have s01:=sz.trans s1
 have ga1:=s1.get ga
 have hmb:=missL_bd r
 have hml:(missL a).length≤100000:=by
  have:=ddu_len ((allT a).map (missT a)) []
  rw[List.length_map,List.length_nil] at this
  unfold missL ddu;omega
 have hp8:=pow8 (i:=a.rds.length) rl.2.1
 have pc:=clashP_bits r
 have pw:=fun{s:Int}=>wrongP_bits (s:=s) r
 generalize missL a=ms at hm hmb hml pc pw q
 simp -implicitDefEqProofs(maxSteps:=999999)(disch:=first|with_reducible rfl|omega|(simp only[nA,nS,nD]<;>omega)|fail)only[go_sem]
 refine W_count a.rds.length (fun i s=>∃tm,s=⟨tm,z1,[]⟩∧(Opd.t 2).ev tm=.int .i64 st∧(Opd.t 3).ev tm=.ptr h.next 0∧(Opd.t 7).ev tm=.nils∧(Opd.t 8).ev tm=.bool false∧(Opd.t 9).ev tm=.nils∧(Opd.t 10).ev tm=.bool false∧(Opd.t 11).ev tm=ym∧(Opd.t 12).ev tm=.int .i64 (2^i)∧(Opd.t 13).ev tm=.int .i64 (i:Int)) ?_ ?_ (i:=0) (Nat.zero_le _)
  ⟨_,rfl,(by simp[ev_c,ev_put]<;>rfl),(by simp[ev_c,ev_put]<;>rfl),(by simp[ev_c,ev_put]<;>rfl),(by simp[ev_c,ev_put]<;>rfl),(by simp[ev_c,ev_put]<;>rfl),(by simp[ev_c,ev_put]<;>rfl),(by simp[ev_c,ev_put]<;>rfl),(by simp[ev_c,ev_put]<;>rfl),(by simp[ev_c,ev_put]<;>rfl)⟩
 ·rintro i s hi ⟨tm,rfl,t2,t3,t7,t8,t9,t10,t11,t12,t13⟩
  have hi':(i:Int)<(a.rds.length:Int):=by omega
  have hp:=pow8 (i:=i) (by omega)
  have e3:(2:Int)^(i+1)=2*2^i:=by rw[Int.pow_succ];omega
  have w2:wr .i64 (2*2^i)=2^(i+1):=by rw[e3];exact wr_in (by omega) (by omega)
  simp -implicitDefEqProofs(maxSteps:=999999)(disch:=first|with_reducible rfl|omega|(simp only[nA,nS,nD]<;>omega)|fail)only[go_sem,t2,t3,t7,t8,t9,t10,t11,t12,t13,cells_of ga1,hlR,hi',w2,wr_succ]
  exact⟨_,rfl,(by simp[ev_c,ev_put,t2]<;>rfl),(by simp[ev_c,ev_put,t3]<;>rfl),(by simp[ev_c,ev_put,t7]<;>rfl),(by simp[ev_c,ev_put,t8]<;>rfl),(by simp[ev_c,ev_put,t9]<;>rfl),(by simp[ev_c,ev_put,t10]<;>rfl),(by simp[ev_c,ev_put,t11]<;>rfl),(by simp[ev_c,ev_put]<;>rfl),(by simp[ev_c,ev_put]<;>rfl)⟩
 ·rintro s ⟨tm,rfl,t2,t3,t7,t8,t9,t10,t11,t12,t13⟩
  simp -implicitDefEqProofs(maxSteps:=999999)(disch:=first|with_reducible rfl|omega|(simp only[nA,nS,nD]<;>omega)|fail)only[go_sem,t2,t3,t7,t8,t9,t10,t11,t12,t13,cells_of ga1,hlR,Int.lt_irrefl]
  obtain⟨N,hN⟩:∃N:Nat,(2:Int)^a.rds.length=N:=⟨2^a.rds.length,by simp⟩
  obtain⟨A,hA⟩:∃A:Nat→Option (List Int)→Option (List Int)→St→Prop,∀i bc bw s,A i bc bw s↔∃tm z' yc yw,s=⟨tm,z',[]⟩∧z1.Sub z'∧TmA h a st ym tm∧SlAt z' yc 1 ((bc.getD []).map encI)∧SlAt z' yw 1 ((bw.getD []).map encI)∧
    (Opd.t 7).ev tm=yc∧(Opd.t 8).ev tm=.bool bc.isSome∧(Opd.t 9).ev tm=yw∧(Opd.t 10).ev tm=.bool bw.isSome∧(Opd.t 14).ev tm=.int .i64 (i:Int):=⟨_,fun _ _ _ _=>Iff.rfl⟩
  refine W_count N (fun i s=>∃bc bw,A i bc bw s∧BestUpto (clashP a) a.rds.length 0 (i:Int) bc∧BestUpto (wrongP a) a.rds.length 0 (i:Int) bw) ?_ ?_ (i:=0) (Nat.zero_le _)
   ⟨none,none,(hA _ _ _ _).2 ⟨_,_,_,_,rfl,H.Sub.refl s1.wf,⟨(by simp[ev_c,ev_put,t2]<;>rfl),(by simp[ev_c,ev_put,t3]<;>rfl),(by simp[ev_c,ev_put,t11]<;>rfl),(by simp[ev_c,ev_put,t12]<;>rfl)⟩,sl_nil _,sl_nil _,(by simp[ev_c,ev_put,t7]<;>rfl),(by simp[ev_c,ev_put,t8]<;>rfl),(by simp[ev_c,ev_put,t9]<;>rfl),(by simp[ev_c,ev_put,t10]<;>rfl),(by simp[ev_c,ev_put]<;>rfl)⟩,best0 _ _,best0 _ _⟩
  ·clear t2 t3 t7 t8 t9 t10 t11 t12 t13
   rintro i s hi ⟨bc,bw,hs,b1,b2⟩
   have hiN:(i:Int)<2^a.rds.length:=by omega
   have hi256:(i:Int)<256:=by omega
   have i0:(0:Int)≤(i:Int):=by omega
   obtain⟨tm,z',yc,yw,rfl,s',⟨t2,t3,t11,t12⟩,kc,kw,t7,t8,t9,t10,t14⟩:=(hA _ _ _ _).1 hs
   simp -implicitDefEqProofs(maxSteps:=999999)(disch:=first|with_reducible rfl|omega|(simp only[nA,nS,nD]<;>omega)|fail)only[go_sem,t12,t14,hiN]
   obtain⟨L,hL⟩:∃L,bitsL a.rds.length (i:Int) 0=L:=⟨_,rfl⟩
   refine members_ev s'.wf rl.2.1 i0 hiN _ fun y15 z2 s2 k15=>?_
   simp only[Kput_app,putD_some,WO_cons,WI_mv,WO_nil,Kops_app,Kseq_nrm]
   have s12:=s'.trans s2
   have hm2:=hm.mono s12
   have kc2:=kc.mono s2
   have kw2:=kw.mono s2
   have eA:=fun R=>ref10Agree_ev hm2 hml hmb i0 hi256 R
   refine W_split (fun s=>∃tm yc bc',s=⟨tm,z2,[]⟩∧TmA h a st ym tm∧SlAt z2 yc 1 ((bc'.getD []).map encI)∧(Opd.t 7).ev tm=yc∧(Opd.t 8).ev tm=.bool bc'.isSome∧(Opd.t 9).ev tm=yw∧(Opd.t 10).ev tm=.bool bw.isSome∧(Opd.t 14).ev tm=.int .i64 (i:Int)∧(Opd.t 15).ev tm=y15∧BestUpto (clashP a) a.rds.length 0 ((i:Int)+1) bc') ?_ ?_
   ·have pci:=pc (i:Int)
    have tk:=fun hp hb=>b1.take hp hb
    have sk:=fun hp=>b1.skip hp
    rw[hL] at k15
    cases bc with
    |none=>
     cases hag:agrS ms (i:Int) with
     |true=>
      rw[hag] at pci
      have:=sk (.inl pci)
      simp -implicitDefEqProofs(maxSteps:=999999)(disch:=first|with_reducible rfl|omega|(simp only[nA,nS,nD]<;>omega)|fail)only[go_sem,t2,t3,t7,t8,t9,t10,t11,t12,t14,Option.isSome_none,Option.isSome_some,eA,hag]
      exact⟨_,_,none,rfl,⟨(by simp[ev_c,ev_put,t2]<;>rfl),(by simp[ev_c,ev_put,t3]<;>rfl),(by simp[ev_c,ev_put,t11]<;>rfl),(by simp[ev_c,ev_put,t12]<;>rfl)⟩,kc2,(by simp[ev_c,ev_put,t7]<;>rfl),(by simp[ev_c,ev_put,t8]<;>rfl),(by simp[ev_c,ev_put,t9]<;>rfl),(by simp[ev_c,ev_put,t10]<;>rfl),(by simp[ev_c,ev_put,t14]<;>rfl),(by simp[ev_c,ev_put]<;>rfl),this⟩
     |false=>
      rw[hag] at pci
      have:=tk pci fun c hc=>by cases hc
      rw[hL] at this
      simp -implicitDefEqProofs(maxSteps:=999999)(disch:=first|with_reducible rfl|omega|(simp only[nA,nS,nD]<;>omega)|fail)only[go_sem,t2,t3,t7,t8,t9,t10,t11,t12,t14,Option.isSome_none,Option.isSome_some,eA,hag]
      exact⟨_,_,some L,rfl,⟨(by simp[ev_c,ev_put,t2]<;>rfl),(by simp[ev_c,ev_put,t3]<;>rfl),(by simp[ev_c,ev_put,t11]<;>rfl),(by simp[ev_c,ev_put,t12]<;>rfl)⟩,k15,(by simp[ev_c,ev_put]<;>rfl),(by simp[ev_c,ev_put]<;>rfl),(by simp[ev_c,ev_put,t9]<;>rfl),(by simp[ev_c,ev_put,t10]<;>rfl),(by simp[ev_c,ev_put,t14]<;>rfl),(by simp[ev_c,ev_put]<;>rfl),this⟩
    |some c=>
     have eB:=fun R=>ahead_ev k15 kc2 R
     simp only[Option.getD_some] at eB
     cases hbf:before L c with
     |false=>
      have:=sk (.inr ⟨c,rfl,by rw[hL];exact hbf⟩)
      simp -implicitDefEqProofs(maxSteps:=999999)(disch:=first|with_reducible rfl|omega|(simp only[nA,nS,nD]<;>omega)|fail)only[go_sem,t2,t3,t7,t8,t9,t10,t11,t12,t14,Option.isSome_none,Option.isSome_some,eA,eB,hbf]
      exact⟨_,_,some c,rfl,⟨(by simp[ev_c,ev_put,t2]<;>rfl),(by simp[ev_c,ev_put,t3]<;>rfl),(by simp[ev_c,ev_put,t11]<;>rfl),(by simp[ev_c,ev_put,t12]<;>rfl)⟩,kc2,(by simp[ev_c,ev_put,t7]<;>rfl),(by simp[ev_c,ev_put,t8]<;>rfl),(by simp[ev_c,ev_put,t9]<;>rfl),(by simp[ev_c,ev_put,t10]<;>rfl),(by simp[ev_c,ev_put,t14]<;>rfl),(by simp[ev_c,ev_put]<;>rfl),this⟩
     |true=>
      cases hag:agrS ms (i:Int) with
      |true=>
       rw[hag] at pci
       have:=sk (.inl pci)
       simp -implicitDefEqProofs(maxSteps:=999999)(disch:=first|with_reducible rfl|omega|(simp only[nA,nS,nD]<;>omega)|fail)only[go_sem,t2,t3,t7,t8,t9,t10,t11,t12,t14,Option.isSome_none,Option.isSome_some,eA,eB,hbf,hag]
       exact⟨_,_,some c,rfl,⟨(by simp[ev_c,ev_put,t2]<;>rfl),(by simp[ev_c,ev_put,t3]<;>rfl),(by simp[ev_c,ev_put,t11]<;>rfl),(by simp[ev_c,ev_put,t12]<;>rfl)⟩,kc2,(by simp[ev_c,ev_put,t7]<;>rfl),(by simp[ev_c,ev_put,t8]<;>rfl),(by simp[ev_c,ev_put,t9]<;>rfl),(by simp[ev_c,ev_put,t10]<;>rfl),(by simp[ev_c,ev_put,t14]<;>rfl),(by simp[ev_c,ev_put]<;>rfl),this⟩
      |false=>
       rw[hag] at pci
       have:=tk pci fun c' hc'=>by cases hc';rw[hL];exact hbf
       rw[hL] at this
       simp -implicitDefEqProofs(maxSteps:=999999)(disch:=first|with_reducible rfl|omega|(simp only[nA,nS,nD]<;>omega)|fail)only[go_sem,t2,t3,t7,t8,t9,t10,t11,t12,t14,Option.isSome_none,Option.isSome_some,eA,eB,hbf,hag]
       exact⟨_,_,some L,rfl,⟨(by simp[ev_c,ev_put,t2]<;>rfl),(by simp[ev_c,ev_put,t3]<;>rfl),(by simp[ev_c,ev_put,t11]<;>rfl),(by simp[ev_c,ev_put,t12]<;>rfl)⟩,k15,(by simp[ev_c,ev_put]<;>rfl),(by simp[ev_c,ev_put]<;>rfl),(by simp[ev_c,ev_put,t9]<;>rfl),(by simp[ev_c,ev_put,t10]<;>rfl),(by simp[ev_c,ev_put,t14]<;>rfl),(by simp[ev_c,ev_put]<;>rfl),this⟩
   ·clear t2 t3 t11 t12 t7 t8 t9 t10 t14 kc2 kc b1 hs
    rintro s ⟨tm,yc,bc',rfl,⟨t2,t3,t11,t12⟩,kc2,t7,t8,t9,t10,t14,t15,b1⟩
    have pwi:=pw i0 hiN
    have j0:(0:Int)≤2^a.rds.length-1-(i:Int):=by omega
    have j256:2^a.rds.length-1-(i:Int)<256:=by omega
    have eA:=fun R=>ref10Agree_ev hm2 hml hmb j0 j256 R
    have w1:wr .i64 (2^a.rds.length-1)=2^a.rds.length-1:=wr_in (by omega) (by omega)
    have w2:wr .i64 (2^a.rds.length-1-(i:Int))=2^a.rds.length-1-(i:Int):=wr_in (by omega) (by omega)
    have w14:wr .i64 ((i:Int)+1)=((i+1:Nat):Int):=by rw[wr_in (by omega) (by omega)];omega
    have ei:(i:Int)+1=((i+1:Nat):Int):=by omega
    rw[ei] at b1
    have tk:=fun hp hb=>b2.take hp hb
    have sk:=fun hp=>b2.skip hp
    rw[ei] at tk sk
    rw[hL] at k15
    have fin:∀tm' bw' yw',TmA h a st ym tm'→SlAt z2 yw' 1 ((bw'.getD []).map encI)→(Opd.t 7).ev tm'=yc→(Opd.t 8).ev tm'=.bool bc'.isSome→(Opd.t 9).ev tm'=yw'→(Opd.t 10).ev tm'=.bool bw'.isSome→(Opd.t 14).ev tm'=.int .i64 ((i+1:Nat):Int)→BestUpto (wrongP a) a.rds.length 0 ((i+1:Nat):Int) bw'→
      ∃bc bw,A (i+1) bc bw ⟨tm',z2,[]⟩∧BestUpto (clashP a) a.rds.length 0 ((i+1:Nat):Int) bc∧BestUpto (wrongP a) a.rds.length 0 ((i+1:Nat):Int) bw:=fun tm' bw' yw' u k u7 u8 u9 u10 u14 b=>
     ⟨bc',bw',(hA _ _ _ _).2 ⟨_,_,_,_,rfl,s12,u,kc2,k,u7,u8,u9,u10,u14⟩,b1,b⟩
    cases bw with
    |none=>
     cases hag:agrS ms (2^a.rds.length-1-(i:Int)) with
     |false=>
      rw[hag] at pwi
      have:=sk (.inl pwi)
      simp -implicitDefEqProofs(maxSteps:=999999)(disch:=first|with_reducible rfl|omega|(simp only[nA,nS,nD]<;>omega)|fail)only[go_sem,t2,t3,t7,t8,t9,t10,t11,t12,t14,t15,Option.isSome_none,Option.isSome_some,eA,hag,w1,w2,w14]
      exact fin _ none yw ⟨(by simp[ev_c,ev_put,t2]<;>rfl),(by simp[ev_c,ev_put,t3]<;>rfl),(by simp[ev_c,ev_put,t11]<;>rfl),(by simp[ev_c,ev_put,t12]<;>rfl)⟩ kw2 (by simp[ev_c,ev_put,t7]<;>rfl) (by simp[ev_c,ev_put,t8]<;>rfl) (by simp[ev_c,ev_put,t9]<;>rfl) (by simp[ev_c,ev_put,t10]<;>rfl) (by simp[ev_c,ev_put]<;>rfl) this
     |true=>
      rw[hag] at pwi
      have:=tk pwi fun c hc=>by cases hc
      rw[hL] at this
      simp -implicitDefEqProofs(maxSteps:=999999)(disch:=first|with_reducible rfl|omega|(simp only[nA,nS,nD]<;>omega)|fail)only[go_sem,t2,t3,t7,t8,t9,t10,t11,t12,t14,t15,Option.isSome_none,Option.isSome_some,eA,hag,w1,w2,w14]
      exact fin _ (some L) y15 ⟨(by simp[ev_c,ev_put,t2]<;>rfl),(by simp[ev_c,ev_put,t3]<;>rfl),(by simp[ev_c,ev_put,t11]<;>rfl),(by simp[ev_c,ev_put,t12]<;>rfl)⟩ k15 (by simp[ev_c,ev_put,t7]<;>rfl) (by simp[ev_c,ev_put,t8]<;>rfl) (by simp[ev_c,ev_put]<;>rfl) (by simp[ev_c,ev_put]<;>rfl) (by simp[ev_c,ev_put]<;>rfl) this
    |some c=>
     have eB:=fun R=>ahead_ev k15 kw2 R
     simp only[Option.getD_some] at eB
     cases hbf:before L c with
     |false=>
      have:=sk (.inr ⟨c,rfl,by rw[hL];exact hbf⟩)
      simp -implicitDefEqProofs(maxSteps:=999999)(disch:=first|with_reducible rfl|omega|(simp only[nA,nS,nD]<;>omega)|fail)only[go_sem,t2,t3,t7,t8,t9,t10,t11,t12,t14,t15,Option.isSome_none,Option.isSome_some,eA,eB,hbf,w1,w2,w14]
      exact fin _ (some c) yw ⟨(by simp[ev_c,ev_put,t2]<;>rfl),(by simp[ev_c,ev_put,t3]<;>rfl),(by simp[ev_c,ev_put,t11]<;>rfl),(by simp[ev_c,ev_put,t12]<;>rfl)⟩ kw2 (by simp[ev_c,ev_put,t7]<;>rfl) (by simp[ev_c,ev_put,t8]<;>rfl) (by simp[ev_c,ev_put,t9]<;>rfl) (by simp[ev_c,ev_put,t10]<;>rfl) (by simp[ev_c,ev_put]<;>rfl) this
     |true=>
      cases hag:agrS ms (2^a.rds.length-1-(i:Int)) with
      |false=>
       rw[hag] at pwi
       have:=sk (.inl pwi)
       simp -implicitDefEqProofs(maxSteps:=999999)(disch:=first|with_reducible rfl|omega|(simp only[nA,nS,nD]<;>omega)|fail)only[go_sem,t2,t3,t7,t8,t9,t10,t11,t12,t14,t15,Option.isSome_none,Option.isSome_some,eA,eB,hbf,hag,w1,w2,w14]
       exact fin _ (some c) yw ⟨(by simp[ev_c,ev_put,t2]<;>rfl),(by simp[ev_c,ev_put,t3]<;>rfl),(by simp[ev_c,ev_put,t11]<;>rfl),(by simp[ev_c,ev_put,t12]<;>rfl)⟩ kw2 (by simp[ev_c,ev_put,t7]<;>rfl) (by simp[ev_c,ev_put,t8]<;>rfl) (by simp[ev_c,ev_put,t9]<;>rfl) (by simp[ev_c,ev_put,t10]<;>rfl) (by simp[ev_c,ev_put]<;>rfl) this
      |true=>
       rw[hag] at pwi
       have:=tk pwi fun c' hc'=>by cases hc';rw[hL];exact hbf
       rw[hL] at this
       simp -implicitDefEqProofs(maxSteps:=999999)(disch:=first|with_reducible rfl|omega|(simp only[nA,nS,nD]<;>omega)|fail)only[go_sem,t2,t3,t7,t8,t9,t10,t11,t12,t14,t15,Option.isSome_none,Option.isSome_some,eA,eB,hbf,hag,w1,w2,w14]
       exact fin _ (some L) y15 ⟨(by simp[ev_c,ev_put,t2]<;>rfl),(by simp[ev_c,ev_put,t3]<;>rfl),(by simp[ev_c,ev_put,t11]<;>rfl),(by simp[ev_c,ev_put,t12]<;>rfl)⟩ k15 (by simp[ev_c,ev_put,t7]<;>rfl) (by simp[ev_c,ev_put,t8]<;>rfl) (by simp[ev_c,ev_put]<;>rfl) (by simp[ev_c,ev_put]<;>rfl) (by simp[ev_c,ev_put]<;>rfl) this
  ·clear t2 t3 t7 t8 t9 t10 t11 t12 t13
   rintro s ⟨bc,bw,hs,b1,b2⟩
   obtain⟨tm,z',yc,yw,rfl,s',⟨t2,t3,t11,t12⟩,kc,kw,t7,t8,t9,t10,t14⟩:=(hA _ _ _ _).1 hs
   rw[←hN] at b1 b2 t14
   have ec:=b1.last (Int.le_refl _) fun t h1 h2=>by omega
   have ew:=b2.last (Int.le_refl _) fun t h1 h2=>by omega
   subst ec
   subst ew
   have eA:=fun R=>ref10Agree_ev (hm.mono s') hml hmb st0 st1 R
   simp -implicitDefEqProofs(maxSteps:=999999)(disch:=first|with_reducible rfl|omega|(simp only[nA,nS,nD]<;>omega)|fail)only[go_sem,t2,t3,t7,t8,t9,t10,t11,t12,t14,Int.lt_irrefl,eA]
   exact q _ _ _ (s01.trans s') kc kw
end Go.Ab.Tryz
namespace Go.Ab.Tryz
open Go.Proofs
def facI (s:Int × Int):Int:=if -60≤s.1∧s.2≤60∧s.1≤s.2 then min (s.2-s.1+1) 100 else 1
theorem facI_bd (s:Int × Int):1≤facI s∧facI s≤100:=by unfold facI;split<;>omega
theorem mul_in {n p:Int}(h1:1≤n∧n≤2500)(h2:1≤p∧p≤1000):1≤n*p∧n*p≤2500000:=by
 have a:=Int.mul_le_mul h1.2 h2.2 (by omega) (by decide)
 have b:=Int.mul_le_mul h1.1 h2.1 (by decide) (by omega)
 omega
def remC (c:Ck)(R:Nat):Nat→Nat
 |0=>c.ns*(c.ng*R)
 |1=>c.ng*R
 |_=>R
def cntC (c:Ck):Nat→Nat
 |0=>c.ns
 |_=>c.ng
theorem remC_step (c:Ck)(R:Nat){j:Nat}(h:j<2):remC c R j=cntC c j*remC c R (j+1):=by
 rcases(by omega:j=0∨j=1) with rfl|rfl<;>rfl
theorem fac_cnt {a:At}(r:Right a){c:Ck}(hc:c∈a.cks){j:Nat}(h:j<2):facI (([(c.sl,c.sh),(c.gl,c.gh)]:Runs)[j]'h)=(cntC c j:Int):=by
 have hcb:=r.cb _ hc
 have hco:=r.co _ hc
 have hcs:=r.cs _ hc
 simp only[Ck.bd,within,Bool.and_eq_true,inB_iff] at hcb
 simp only[Ck.ord,Bool.and_eq_true,decide_eq_true_eq] at hco
 simp only[Ck.sm,Bool.and_eq_true,decide_eq_true_eq] at hcs
 rcases(by omega:j=0∨j=1) with rfl|rfl
 ·show facI (c.sl,c.sh)=(c.ns:Int)
  unfold facI Ck.ns
  rw[if_pos (by simp only;omega)]
  simp only;omega
 ·show facI (c.gl,c.gh)=(c.ng:Int)
  unfold facI Ck.ng
  rw[if_pos (by simp only;omega)]
  simp only;omega
set_option maxHeartbeats 8000000 in
theorem wide_ev {h:H}(hw:h.wf){a:At}{C R G:V}(x:AtAt h C R G a)(Q:V→H→Prop)(q:∀b h',h.Sub h'→(b=false→greatA a=false∧(Right a→(a.mins.toNat+1)^a.evs.toNat*runsN a.cks≤2500))→Q (.bool b) h'):
  Ev fnG fastA (.fn 23 [] []) [.agg (atV a C R G)] h Q:=by
 have oC:=x.c.one;have oR:=x.r.one;have oG:=x.g.one
 have hlC:=x.c.lenE
 refine Ev_body (fd:=c23) rfl rfl rfl ?_
 obtain⟨z,hz⟩:∃z,h.add (.cells .rw (atV a C R G))=z:=⟨_,rfl⟩
 have sz:h.Sub z:=by rw[←hz];exact(by repeat(first|assumption|exact H.Sub.refl (by assumption)|refine H.Sub.add ?_ _|refine H.Sub.set ?_ (by first|omega|(simp only[H.next_add,H.next_set,H.next_del]<;>omega)) (by first|omega|(simp only[H.next_add,H.next_set,H.next_del]<;>omega)) (by assumption) _))
 have ga:z.get h.next=some (.cells .rw (atV a C R G)):=by rw[←hz];exact get_add_new rfl
 obtain⟨P,hP⟩:∃P,min (max 1 (wr .i64 (a.mins+1))) 1000=P:=⟨_,rfl⟩
 have hPb:1≤P∧P≤1000:=by omega
 have hPr:Right a→P=((a.mins.toNat+1:Nat):Int):=fun r=>by
  have:=r.mins
  rw[←hP,wr_in (by omega) (by omega)];omega
 simp -implicitDefEqProofs(maxSteps:=999999)(disch:=first|with_reducible rfl|omega|(simp only[nA,nS,nD]<;>omega)|fail)only[c23,go_sem,oC,oR,oG]
 rw[hz]
 clear hz
 refine W_count (min a.evs 4).toNat (fun i s=>∃tm,s=⟨tm,z,[]⟩∧(1≤P^i∧P^i≤2500)∧(Opd.t 1).ev tm=.ptr h.next 0∧(Opd.t 3).ev tm=.int .i64 (P^i)∧(Opd.t 10).ev tm=.int .i64 (min a.evs 4)∧(Opd.t 11).ev tm=.int .i64 (i:Int)) ?_ ?_ (i:=0) (Nat.zero_le _)
  ⟨_,rfl,by simp,(by simp[ev_c,ev_put]<;>rfl),(by simp[ev_c,ev_put]<;>rfl),(by simp[ev_c,ev_put]<;>rfl),(by simp[ev_c,ev_put]<;>rfl)⟩
 ·rintro i s hi ⟨tm,rfl,hn,t1,t3,t10,t11⟩
  have hi':(i:Int)<min a.evs 4:=by omega
  have hm:=mul_in hn hPb
  have w1:wr .i64 (P^i*P)=P^(i+1):=by rw[Int.pow_succ];exact wr_in (by omega) (by omega)
  have w2:wr .i64 ((i:Int)+1)=((i+1:Nat):Int):=by rw[wr_in (by omega) (by omega)];omega
  rw[←Int.pow_succ] at hm
  by_cases hc:(2500:Int)<P^(i+1)
  ·simp -implicitDefEqProofs(maxSteps:=999999)(disch:=first|with_reducible rfl|omega|(simp only[nA,nS,nD]<;>omega)|fail)only[go_sem,t1,t3,t10,t11,hi',cells_of ga,hP,w1,hc]
   exact q _ _ sz fun h=>by cases h
  ·simp -implicitDefEqProofs(maxSteps:=999999)(disch:=first|with_reducible rfl|omega|(simp only[nA,nS,nD]<;>omega)|fail)only[go_sem,t1,t3,t10,t11,hi',cells_of ga,hP,w1,w2,hc]
   exact⟨_,rfl,⟨hm.1,Int.not_lt.1 hc⟩,(by simp[ev_c,ev_put,t1]<;>rfl),(by simp[ev_c,ev_put]<;>rfl),(by simp[ev_c,ev_put,t10]<;>rfl),(by simp[ev_c,ev_put]<;>rfl)⟩
 ·rintro s ⟨tm,rfl,hn,t1,t3,t10,t11⟩
  have hi':¬((min a.evs 4).toNat:Int)<min a.evs 4:=by omega
  obtain⟨N0,hN0⟩:∃N0,P^(min a.evs 4).toNat=N0:=⟨_,rfl⟩
  rw[hN0] at hn t3
  have hNr:Right a→N0=(((a.mins.toNat+1)^a.evs.toNat:Nat):Int):=fun r=>by
   have he:=r.evs
   rw[←hN0,hPr r,show(min a.evs 4).toNat=a.evs.toNat by omega]
   simp
  simp -implicitDefEqProofs(maxSteps:=999999)(disch:=first|with_reducible rfl|omega|(simp only[nA,nS,nD]<;>omega)|fail)only[go_sem,t1,t3,t10,t11,hi',cells_of ga,hlC]
  refine W_count a.cks.length (fun k s=>∃tm z2 n,s=⟨tm,z2,[]⟩∧z.Sub z2∧(1≤n∧n≤2500)∧(Right a→n*(runsN (a.cks.drop k):Int)=(((a.mins.toNat+1)^a.evs.toNat*runsN a.cks:Nat):Int))∧
    (Opd.t 1).ev tm=.ptr h.next 0∧(Opd.t 3).ev tm=.int .i64 n∧(Opd.t 24).ev tm=C∧(Opd.t 25).ev tm=.int .i64 (a.cks.length:Int)∧(Opd.t 26).ev tm=.int .i64 (k:Int)) ?_ ?_ (i:=0) (Nat.zero_le _)
   ⟨_,_,N0,rfl,H.Sub.refl sz.wf,hn,fun r=>by rw[hNr r,List.drop_zero,Int.natCast_mul],(by simp[ev_c,ev_put,t1]<;>rfl),(by simp[ev_c,ev_put,t3]<;>rfl),(by simp[ev_c,ev_put]<;>rfl),(by simp[ev_c,ev_put]<;>rfl),(by simp[ev_c,ev_put]<;>rfl)⟩
  ·clear t1 t3 t10 t11 hn hi'
   rintro k s hk ⟨tm,z2,n,rfl,s2,hn,hr,t1,t3,t24,t25,t26⟩
   have hk':(k:Int)<(a.cks.length:Int):=by omega
   have s02:=sz.trans s2
   obtain⟨bC,oCC,cC,csC,_,hcC,hqC,hgC,_,_⟩:=(x.c.mono s02).at hk
   have hmem:=List.getElem_mem hk
   have hdrop:a.cks.drop k=a.cks[k]::a.cks.drop (k+1):=List.drop_eq_getElem_cons hk
   rw[hdrop,runsN] at hr
   generalize a.cks[k]=c at hgC hmem hr
   simp only[encC] at hgC
   obtain⟨z3,hz3⟩:∃z3,z2.add (.cells .rw [.int .i64 c.sl,.int .i64 c.sh,.int .i64 c.gl,.int .i64 c.gh])=z3:=⟨_,rfl⟩
   have s3:z2.Sub z3:=by rw[←hz3];exact(H.Sub.refl s02.wf).add _
   have g5:z3.get z2.next=some (.cells .rw [.int .i64 c.sl,.int .i64 c.sh,.int .i64 c.gl,.int .i64 c.gh]):=by rw[←hz3];exact get_add_new rfl
   simp -implicitDefEqProofs(maxSteps:=999999)(disch:=first|with_reducible rfl|omega|(simp only[nA,nS,nD]<;>omega)|fail)only[go_sem,t1,t3,t24,t25,t26,hk',hqC (nat_cst k),hcC,hgC,hz3,cells_of g5]
   obtain⟨z4,hz4⟩:∃z4,z3.add (.cells .rw [.int .i64 c.sl,.int .i64 c.sh,.int .i64 c.gl,.int .i64 c.gh])=z4:=⟨_,rfl⟩
   have s4:z3.Sub z4:=by rw[←hz4];exact(H.Sub.refl s3.wf).add _
   have xx:SlAt z4 (.sl z3.next 0 2 (.fix 2)) 2 (([(c.sl,c.sh),(c.gl,c.gh)]:Runs).map encX):=by rw[←hz4];exact SlAt.new _ rfl rfl rfl (by simp[encX]) (by simp)
   try rw[hz4]
   clear hz4
   have s24:=s2.trans (s3.trans s4)
   have hr0:Right a→n*(remC c (runsN (a.cks.drop (k+1))) 0:Int)=(((a.mins.toNat+1)^a.evs.toNat*runsN a.cks:Nat):Int):=hr
   generalize runsN (a.cks.drop (k+1))=RR at hr0
   refine W_count 2 (fun j s=>∃tm z5 n,s=⟨tm,z5,[]⟩∧z4.Sub z5∧(1≤n∧n≤2500)∧(Right a→n*(remC c RR j:Int)=(((a.mins.toNat+1)^a.evs.toNat*runsN a.cks:Nat):Int))∧
     (Opd.t 1).ev tm=.ptr h.next 0∧(Opd.t 3).ev tm=.int .i64 n∧(Opd.t 24).ev tm=C∧(Opd.t 25).ev tm=.int .i64 (a.cks.length:Int)∧(Opd.t 26).ev tm=.int .i64 (k:Int)∧(Opd.t 34).ev tm=.sl z3.next 0 2 (.fix 2)∧(Opd.t 35).ev tm=.int .i64 2∧(Opd.t 36).ev tm=.int .i64 (j:Int)) ?_ ?_ (i:=0) (Nat.zero_le _)
    ⟨_,_,n,rfl,H.Sub.refl s4.wf,hn,hr0,(by simp[ev_c,ev_put,t1]<;>rfl),(by simp[ev_c,ev_put,t3]<;>rfl),(by simp[ev_c,ev_put,t24]<;>rfl),(by simp[ev_c,ev_put,t25]<;>rfl),(by simp[ev_c,ev_put,t26]<;>rfl),(by simp[ev_c,ev_put]<;>rfl),(by simp[ev_c,ev_put]<;>rfl),(by simp[ev_c,ev_put]<;>rfl)⟩
   ·clear t1 t3 t24 t25 t26 hn hr hr0
    rintro j s hj ⟨tm,z5,n,rfl,s5,hn,hr,t1,t3,t24,t25,t26,t34,t35,t36⟩
    have hj':(j:Int)<2:=by omega
    have hf:=fun r=>fac_cnt r hmem hj
    obtain⟨bX,oX,cX,csX,_,hcX,hqX,hgX,_,_⟩:=(xx.mono s5).at hj
    have hrem:=remC_step c RR hj
    generalize([(c.sl,c.sh),(c.gl,c.gh)]:Runs)[j]=sp at hgX hf
    obtain⟨lo,hi⟩:=sp
    simp only[encX] at hgX
    obtain⟨z6,hz6⟩:∃z6,z5.add (.cells .rw [.int .i64 lo,.int .i64 hi])=z6:=⟨_,rfl⟩
    have s6:z5.Sub z6:=by rw[←hz6];exact(H.Sub.refl s5.wf).add _
    have g7:z6.get z5.next=some (.cells .rw [.int .i64 lo,.int .i64 hi]):=by rw[←hz6];exact get_add_new rfl
    have s06:=sz.trans (s24.trans (s5.trans s6))
    have w36:wr .i64 ((j:Int)+1)=((j+1:Nat):Int):=by rw[wr_in (by omega) (by omega)];omega
    have hb:=facI_bd (lo,hi)
    have hm:=mul_in hn ⟨hb.1,Int.le_trans hb.2 (by decide)⟩
    have hr':Right a→n*facI (lo,hi)*(remC c RR (j+1):Int)=(((a.mins.toNat+1)^a.evs.toNat*runsN a.cks:Nat):Int):=fun r=>by
     rw[←hr r,hrem,hf r,Int.natCast_mul,Int.mul_assoc]
    have no:facI (lo,hi)=1→n*facI (lo,hi)=n:=fun e=>by rw[e,Int.mul_one]
    have fin:∀m tm',n*facI (lo,hi)=m→(Opd.t 1).ev tm'=.ptr h.next 0→(Opd.t 3).ev tm'=.int .i64 m→(Opd.t 24).ev tm'=C→(Opd.t 25).ev tm'=.int .i64 (a.cks.length:Int)→(Opd.t 26).ev tm'=.int .i64 (k:Int)→(Opd.t 34).ev tm'=.sl z3.next 0 2 (.fix 2)→(Opd.t 35).ev tm'=.int .i64 2→(Opd.t 36).ev tm'=.int .i64 ((j+1:Nat):Int)→m≤2500→
      ∃tm z5 n,(⟨tm',z6,[]⟩:St)=⟨tm,z5,[]⟩∧z4.Sub z5∧(1≤n∧n≤2500)∧(Right a→n*(remC c RR (j+1):Int)=(((a.mins.toNat+1)^a.evs.toNat*runsN a.cks:Nat):Int))∧
       (Opd.t 1).ev tm=.ptr h.next 0∧(Opd.t 3).ev tm=.int .i64 n∧(Opd.t 24).ev tm=C∧(Opd.t 25).ev tm=.int .i64 (a.cks.length:Int)∧(Opd.t 26).ev tm=.int .i64 (k:Int)∧(Opd.t 34).ev tm=.sl z3.next 0 2 (.fix 2)∧(Opd.t 35).ev tm=.int .i64 2∧(Opd.t 36).ev tm=.int .i64 ((j+1:Nat):Int):=fun m tm' e1 u1 u3 u24 u25 u26 u34 u35 u36 hle=>by
     subst e1
     exact⟨tm',z6,_,rfl,s5.trans s6,⟨hm.1,hle⟩,hr',u1,u3,u24,u25,u26,u34,u35,u36⟩
    have nn:¬(2500:Int)<n:=by omega
    by_cases d1: -60≤lo
    case neg=>
     have e:=no (by unfold facI;rw[if_neg (by simp only;omega)])
     simp -implicitDefEqProofs(maxSteps:=999999)(disch:=first|with_reducible rfl|omega|(simp only[nA,nS,nD]<;>omega)|fail)only[go_sem,t1,t3,t24,t25,t26,t34,t35,t36,hj',hqX (nat_cst j),hcX,hgX,hz6,cells_of g7,d1,nn,w36]
     exact fin _ _ e (by simp[ev_c,ev_put,t1]<;>rfl) (by simp[ev_c,ev_put,t3]<;>rfl) (by simp[ev_c,ev_put,t24]<;>rfl) (by simp[ev_c,ev_put,t25]<;>rfl) (by simp[ev_c,ev_put,t26]<;>rfl) (by simp[ev_c,ev_put,t34]<;>rfl) (by simp[ev_c,ev_put,t35]<;>rfl) (by simp[ev_c,ev_put]<;>rfl) (by omega)
    by_cases d2:hi≤60
    case neg=>
     have e:=no (by unfold facI;rw[if_neg (by simp only;omega)])
     simp -implicitDefEqProofs(maxSteps:=999999)(disch:=first|with_reducible rfl|omega|(simp only[nA,nS,nD]<;>omega)|fail)only[go_sem,t1,t3,t24,t25,t26,t34,t35,t36,hj',hqX (nat_cst j),hcX,hgX,hz6,cells_of g7,d1,d2,nn,w36]
     exact fin _ _ e (by simp[ev_c,ev_put,t1]<;>rfl) (by simp[ev_c,ev_put,t3]<;>rfl) (by simp[ev_c,ev_put,t24]<;>rfl) (by simp[ev_c,ev_put,t25]<;>rfl) (by simp[ev_c,ev_put,t26]<;>rfl) (by simp[ev_c,ev_put,t34]<;>rfl) (by simp[ev_c,ev_put,t35]<;>rfl) (by simp[ev_c,ev_put]<;>rfl) (by omega)
    by_cases d3:lo≤hi
    case neg=>
     have e:=no (by unfold facI;rw[if_neg (by simp only;omega)])
     simp -implicitDefEqProofs(maxSteps:=999999)(disch:=first|with_reducible rfl|omega|(simp only[nA,nS,nD]<;>omega)|fail)only[go_sem,t1,t3,t24,t25,t26,t34,t35,t36,hj',hqX (nat_cst j),hcX,hgX,hz6,cells_of g7,d1,d2,d3,nn,w36]
     exact fin _ _ e (by simp[ev_c,ev_put,t1]<;>rfl) (by simp[ev_c,ev_put,t3]<;>rfl) (by simp[ev_c,ev_put,t24]<;>rfl) (by simp[ev_c,ev_put,t25]<;>rfl) (by simp[ev_c,ev_put,t26]<;>rfl) (by simp[ev_c,ev_put,t34]<;>rfl) (by simp[ev_c,ev_put,t35]<;>rfl) (by simp[ev_c,ev_put]<;>rfl) (by omega)
    have ef:facI (lo,hi)=min (hi-lo+1) 100:=by unfold facI;rw[if_pos ⟨d1,d2,d3⟩]
    have w1:wr .i64 (hi-lo)=hi-lo:=wr_in (by omega) (by omega)
    have w2:wr .i64 (hi-lo+1)=hi-lo+1:=wr_in (by omega) (by omega)
    have w3:wr .i64 (n*min (hi-lo+1) 100)=n*facI (lo,hi):=by rw[ef];rw[ef] at hm;exact wr_in (by omega) (by omega)
    by_cases hc:(2500:Int)<n*facI (lo,hi)
    ·simp -implicitDefEqProofs(maxSteps:=999999)(disch:=first|with_reducible rfl|omega|(simp only[nA,nS,nD]<;>omega)|fail)only[go_sem,t1,t3,t24,t25,t26,t34,t35,t36,hj',hqX (nat_cst j),hcX,hgX,hz6,cells_of g7,d1,d2,d3,w1,w2,w3,hc]
     exact q _ _ s06 fun h=>by cases h
    ·simp -implicitDefEqProofs(maxSteps:=999999)(disch:=first|with_reducible rfl|omega|(simp only[nA,nS,nD]<;>omega)|fail)only[go_sem,t1,t3,t24,t25,t26,t34,t35,t36,hj',hqX (nat_cst j),hcX,hgX,hz6,cells_of g7,d1,d2,d3,w1,w2,w3,hc,w36]
     exact fin _ _ rfl (by simp[ev_c,ev_put,t1]<;>rfl) (by simp[ev_c,ev_put]<;>rfl) (by simp[ev_c,ev_put,t24]<;>rfl) (by simp[ev_c,ev_put,t25]<;>rfl) (by simp[ev_c,ev_put,t26]<;>rfl) (by simp[ev_c,ev_put,t34]<;>rfl) (by simp[ev_c,ev_put,t35]<;>rfl) (by simp[ev_c,ev_put]<;>rfl) (by omega)
   ·clear t1 t3 t24 t25 t26 hn hr hr0
    rintro s ⟨tm,z5,n,rfl,s5,hn,hr,t1,t3,t24,t25,t26,t34,t35,t36⟩
    have hj':¬((2:Nat):Int)<2:=by omega
    have w26:wr .i64 ((k:Int)+1)=((k+1:Nat):Int):=by rw[wr_in (by omega) (by have:=x.c.2.1;rw[List.length_map] at this;omega)];omega
    simp -implicitDefEqProofs(maxSteps:=999999)(disch:=first|with_reducible rfl|omega|(simp only[nA,nS,nD]<;>omega)|fail)only[go_sem,t1,t3,t24,t25,t26,t34,t35,t36,hj',w26]
    exact⟨_,_,n,rfl,s24.trans s5,hn,hr,(by simp[ev_c,ev_put,t1]<;>rfl),(by simp[ev_c,ev_put,t3]<;>rfl),(by simp[ev_c,ev_put,t24]<;>rfl),(by simp[ev_c,ev_put,t25]<;>rfl),(by simp[ev_c,ev_put]<;>rfl)⟩
  ·clear t1 t3 t10 t11 hn hi'
   rintro s ⟨tm,z2,n,rfl,s2,hn,hr,t1,t3,t24,t25,t26⟩
   rw[List.drop_length,runsN] at hr
   have s02:=sz.trans s2
   simp -implicitDefEqProofs(maxSteps:=999999)(disch:=first|with_reducible rfl|omega|(simp only[nA,nS,nD]<;>omega)|fail)only[go_sem,t1,t3,t24,t25,t26,Int.lt_irrefl,cells_of (s2.get ga),oC,oR,oG]
   refine great_ev s02.wf (x.mono s02) _ fun z3 s3=>?_
   simp -implicitDefEqProofs(maxSteps:=999999)(disch:=first|with_reducible rfl|omega|(simp only[nA,nS,nD]<;>omega)|fail)only[go_sem]
   refine q _ _ (s02.trans s3) fun hg=>⟨hg,fun r=>?_⟩
   have:=hr r
   omega
end Go.Ab.Tryz
namespace Go.Ab.Tryz
open Go.Proofs
variable {z5 z z':H} {cs:List (List V)} {n0:Nat}
def erV (a:At)(f t:Int):Int:=if a.evB f=true∧a.evB t=true then 0 else 1
def er7 (a:At)(e:Int):Int:=if e=0∧allC a=[] then 7 else e
theorem evV_ok {a:At}{f t:Int}(h:er7 a (erV a f t)=0):(a.evB f=true∧a.evB t=true)∧allC a≠[]:=by
 unfold er7 erV at h
 by_cases hb:a.evB f=true∧a.evB t=true
 ·rw[if_pos hb] at h
  exact⟨hb,fun e=>by rw[if_pos ⟨rfl,e⟩] at h;cases h⟩
 ·rw[if_neg hb,if_neg (by simp)] at h;cases h
end Go.Ab.Tryz
namespace Go.Ab
end Go.Ab
namespace Go.Ab.Tryz
open Go.Proofs
theorem runsN_pos:∀{cs:List Ck},(∀c∈cs,1≤c.ns∧1≤c.ng)→1≤runsN cs
 |[],_=>Nat.le_refl _
 |c::cs,h=>by
  have h0:=h c (List.mem_cons_self ..)
  exact Nat.le_trans (runsN_pos fun c hc=>h c (List.mem_cons_of_mem _ hc)) (runsN_le h0.1 h0.2)
theorem wide_bds {a:At}(r:Right a)(h:(a.mins.toNat+1)^a.evs.toNat*runsN a.cks≤2500):(a.mins.toNat+1)^a.evs.toNat≤2500∧runsN a.cks≤2500:=by
 have h1:1≤runsN a.cks:=runsN_pos fun c hc=>by
  have hco:=r.co _ hc
  simp only[Ck.ord,Bool.and_eq_true,decide_eq_true_eq] at hco
  unfold Ck.ns Ck.ng
  omega
 have h2:1≤(a.mins.toNat+1)^a.evs.toNat:=Nat.one_le_pow _ _ (by omega)
 exact⟨Nat.le_trans (Nat.le_mul_of_pos_right _ h1) h,Nat.le_trans (Nat.le_mul_of_pos_left _ h2) h⟩
def i1 (n:Int):List V:=[.int .i64 n]
def i2 (s:Int × Int):List V:=[.int .i64 s.1,.int .i64 s.2]
end Go.Ab.Tryz
namespace Go.Ab.Tryz
open Go.Proofs
theorem clashR_r {a:At}(r:Right a):clashR a=((clashO a).getD [],if(clashO a).isSome=true then 0 else 6):=by
 unfold clashR
 rw[if_neg (by rw[checkA_iff.2 r];simp)]
 by_cases h:allC a=[]
 ·obtain⟨c,e,_⟩:=clashO_spec r h
  rw[if_neg (by simp[h]),e];rfl
 ·rw[if_pos h,clashO_none r h];rfl
theorem wrongR_r {a:At}(r:Right a):wrongR a=((wrongO a).getD [],if(wrongO a).isSome=true then 0 else 7):=by
 unfold wrongR
 rw[if_neg (by rw[checkA_iff.2 r];simp)]
 cases wrongO a<;>rfl
theorem lisS_bd (a:At)(l:List Int):0≤lisS a l∧lisS a l<256:=by
 unfold lisS
 split
 ·have:=bitI_bd (lstF l) 8
  have h:(2:Int)^8=256:=by decide
  omega
 ·omega
structure TmG (h:H)(b5:Nat)(y y7:V)(tm:Go.Ab.T V):Prop where
 t1:(Opd.t 1).ev tm=y
 t2:(Opd.t 2).ev tm=.ptr h.next 0
 t5:(Opd.t 5).ev tm=.ptr b5 0
 t7:(Opd.t 7).ev tm=y7
set_option maxHeartbeats 16000000 in
theorem ClockAgrees_ev {h:H}(hw:h.wf){a:At}{C R G:V}(x:AtAt h C R G a){y:V}{l:List Int}(hy:SlAt h y 1 (l.map encI)):Ev fnG fastA (.fn 6 [] []) [.agg (atV a C R G),y] h fun v _=>v=.bool true:=by
 refine Ev.gen fun Q q=>?_
 have oC:=x.c.one;have oR:=x.r.one;have oG:=x.g.one
 have oy:=hy.one
 have h1:=hy.lenE
 refine Ev_body (fd:=c6) rfl rfl rfl ?_
 obtain⟨z,hz⟩:∃z,h.add (.cells .rw (atV a C R G))=z:=⟨_,rfl⟩
 have sz:h.Sub z:=by rw[←hz];exact(by repeat(first|assumption|exact H.Sub.refl (by assumption)|refine H.Sub.add ?_ _|refine H.Sub.set ?_ (by first|omega|(simp only[H.next_add,H.next_set,H.next_del]<;>omega)) (by first|omega|(simp only[H.next_add,H.next_set,H.next_del]<;>omega)) (by assumption) _))
 have nz:z.next=h.next+1:=by rw[←hz];simp only[H.next_add]
 have ga:z.get h.next=some (.cells .rw (atV a C R G)):=by rw[←hz];exact get_add_new rfl
 simp -implicitDefEqProofs(maxSteps:=999999)(disch:=first|with_reducible rfl|omega|(simp only[nA,nS,nD]<;>omega)|fail)only[c6,go_sem,oC,oR,oG,hz,cells_of ga]
 try rw[hz]
 clear hz
 refine wide_ev sz.wf (x.mono sz) _ fun wd z1 s1 hwd=>?_
 cases wd with
 |true=>
  simp -implicitDefEqProofs(maxSteps:=999999)(disch:=first|with_reducible rfl|omega|(simp only[nA,nS,nD]<;>omega)|fail)only[go_sem,awake_eq]
  exact q _ _ rfl
 |false=>
 obtain⟨hg,hbd⟩:=hwd rfl
 clear hwd
 have hl:a.cks.length≤8∧a.rds.length≤12∧a.gps.length≤9:=by
  simp only[greatA,decide_eq_false_iff_not] at hg
  omega
 have sm:SmallA a:=⟨by omega,by omega,by omega⟩
 have s01:=sz.trans s1
 by_cases g1:(12:Int)<(l.length:Int)
 ·simp -implicitDefEqProofs(maxSteps:=999999)(disch:=first|with_reducible rfl|omega|(simp only[nA,nS,nD]<;>omega)|fail)only[go_sem,h1,g1,awake_eq]
  exact q _ _ rfl
 simp -implicitDefEqProofs(maxSteps:=999999)(disch:=first|with_reducible rfl|omega|(simp only[nA,nS,nD]<;>omega)|fail)only[go_sem,cells_of (s1.get ga),h1,g1,oC,oR,oG]
 refine own_ev s01.wf (x.mono s01) sm _ fun C1 R1 G1 z2 n2=>?_
 have s2:=n2.s
 have s02:=s01.trans s2
 have s12:=s1.trans s2
 simp -implicitDefEqProofs(maxSteps:=999999)(disch:=first|with_reducible rfl|omega|(simp only[nA,nS,nD]<;>omega)|fail)only[go_sem,cells_of (s1.get ga),cells_of (s12.get ga),oC,oR,oG]
 refine theirs_ev s02.wf (x.mono s02) sm _ fun C2 R2 G2 z3 s3 x3=>?_
 have s03:=s02.trans s3
 have x1:=(n2.at_ sm).mono s3
 have o1C:=x1.c.one;have o1R:=x1.r.one;have o1G:=x1.g.one
 have o2C:=x3.c.one;have o2R:=x3.r.one;have o2G:=x3.g.one
 have w3:=s03.wf
 have sd:=(H.Sub.refl w3).add (.cells .rw (l.map encI).flatten)
 have a1:SlAt (z3.add (.cells .rw (l.map encI).flatten)) (.sl z3.next 0 l.length (.fix l.length)) 1 (l.map encI):=SlAt.new _ rfl (by rw[List.length_map]) rfl (by simp[encI]) (by rw[List.length_map];omega)
 simp -implicitDefEqProofs(maxSteps:=999999)(disch:=first|with_reducible rfl|omega|(simp only[nA,nS,nD]<;>omega)|fail)only[go_sem,cells_of (s1.get ga),cells_of (s12.get ga),cells_of ((s12.trans s3).get ga),cells_of (sd.get ((s12.trans s3).get ga)),dupInt_ev w3 (hy.mono s03) (by omega),o1C,o1R,o1G,o2C,o2R,o2G,oC,oR,oG]
 obtain⟨y7,hy7⟩:∃y7,V.sl z3.next 0 l.length (.fix l.length)=y7:=⟨_,rfl⟩
 obtain⟨z4,hz4⟩:∃z4,(((((z3.add (.cells .rw (l.map encI).flatten)).add (.cells .rw [.int .i64 0,.int .i64 0,.nils,.nils,.nils])).add (.cells .rw [.int .i64 0,.int .i64 0,.nils,.nils,.nils])).set (z3.next+1) (.cells .rw (atV a C1 R1 G1))).set (z3.next+1+1) (.cells .rw (atV a C2 R2 G2)))=z4:=⟨_,rfl⟩
 have sd4:(z3.add (.cells .rw (l.map encI).flatten)).Sub z4:=by
  rw[←hz4]
  have hwd:=sd.wf
  exact(((((H.Sub.refl hwd).add _).add _).set (by simp only[H.next_add];omega) (by simp only[H.next_add];omega) hwd _).set (by simp only[H.next_add];omega) (by simp only[H.next_set,H.next_add];omega) hwd _)
 have s4:z3.Sub z4:=sd.trans sd4
 have g9:z4.get (z3.next+1)=some (.cells .rw (atV a C1 R1 G1)):=by rw[←hz4];simp -implicitDefEqProofs(maxSteps:=999999)(disch:=first|with_reducible rfl|omega|(simp only[nA,nS,nD]<;>omega)|fail)only[go_sem]
 have g10:z4.get (z3.next+1+1)=some (.cells .rw (atV a C2 R2 G2)):=by rw[←hz4];simp -implicitDefEqProofs(maxSteps:=999999)(disch:=first|with_reducible rfl|omega|(simp only[nA,nS,nD]<;>omega)|fail)only[go_sem]
 have mine:=a1.mono sd4
 rw[hy7] at mine
 try rw[hz4]
 try rw[hy7]
 clear hz4 a1 sd sd4
 have s04:=s03.trans s4
 refine refCheck_ev s04.wf (x3.mono s4) sm _ fun z6 s6=>?_
 have s36:=s4.trans s6
 have s06:=s03.trans s36
 have x1':=x1.mono s36
 have x3':=x3.mono s36
 have xa:=x.mono s06
 have ga6:=(s12.trans (s3.trans s36)).get ga
 have g95:=s6.get g9
 have g105:=s6.get g10
 have mine6:=mine.mono s6
 have yy6:=hy.mono s06
 clear g9 g10 mine x1 x3 ga n2
 simp -implicitDefEqProofs(maxSteps:=999999)(disch:=first|with_reducible rfl|omega|(simp only[nA,nS,nD]<;>omega)|fail)only[go_sem]
 obtain⟨K,hK⟩:∃K:St→Prop,∀s,K s↔∃tm z yc yw,s=⟨tm,z,[]⟩∧TmG h (z3.next+1) y y7 tm∧(Opd.t 8).ev tm=.int .i64 (agreeR a l).2∧(Opd.t 9).ev tm=.int .i64 (clashR a).2∧(Opd.t 10).ev tm=.int .i64 (wrongR a).2∧(Opd.t 11).ev tm=yc∧(Opd.t 12).ev tm=yw∧(Opd.t 13).ev tm=.bool (agreeR a l).1∧z6.Sub z∧SlAt z yc 1 ((clashR a).1.map encI)∧SlAt z yw 1 ((wrongR a).1.map encI):=⟨_,fun s=>Iff.rfl⟩
 refine PB_cut (p:=checkA a=0) K ?_ ?_ ?_
 ·intro he
  have r:=checkA_iff.1 he
  obtain⟨hb1,hb2⟩:=wide_bds r (hbd r)
  have hb:=hbd r
  have eA:=agreeR_lis r l
  have eC:=clashR_r r
  have eW:=wrongR_r r
  have lb:=lisS_bd a l
  rw[he]
  simp -implicitDefEqProofs(maxSteps:=999999)(disch:=first|with_reducible rfl|omega|(simp only[nA,nS,nD]<;>omega)|fail)only[go_sem,cells_of g105,o2C,o2R,o2G]
  refine Listed_ev s06.wf x3' r yy6 (by omega) _ fun z7 s7=>?_
  simp -implicitDefEqProofs(maxSteps:=999999)(disch:=first|with_reducible rfl|omega|(simp only[nA,nS,nD]<;>omega)|fail)only[go_sem,cells_of (s7.get g105),o2C,o2R,o2G]
  refine All_ev (s06.trans s7).wf (x3'.mono s7) r (by omega) (by omega) (by omega) _ fun yl z8 s8 tr=>?_
  have s68:=s7.trans s8
  simp -implicitDefEqProofs(maxSteps:=999999)(disch:=first|with_reducible rfl|omega|(simp only[nA,nS,nD]<;>omega)|fail)only[go_sem,cells_of (s7.get g105),cells_of (s68.get g105),o2C,o2R,o2G,tr.one]
  refine Sets10_ev (s06.trans s68).wf (x3'.mono s68) r tr (by have:=allT_len a;omega) lb.1 lb.2 _ fun yc yw z9 s9 kc kw=>?_
  have s69:=s68.trans s9
  have oyc:=kc.one
  have oyw:=kw.one
  simp only[eA,eC,eW] at hK
  generalize agrS (missL a) (lisS a l)=ag at hK
  generalize lisE a l=er at hK
  generalize clashO a=oc at hK kc
  generalize wrongO a=ow at hK kw
  have fin:∀tm' e u v ag',TmG h (z3.next+1) y y7 tm'→(Opd.t 8).ev tm'=.int .i64 e→(Opd.t 9).ev tm'=.int .i64 u→(Opd.t 10).ev tm'=.int .i64 v→(Opd.t 11).ev tm'=yc→(Opd.t 12).ev tm'=yw→(Opd.t 13).ev tm'=.bool ag'→e=er→u=(if oc.isSome=true then 0 else 6)→v=(if ow.isSome=true then 0 else 7)→ag'=(if er≠0 then false else ag)→K ⟨tm',z9,[]⟩:=fun tm' e u v ag' k k8 k9 k10 k11 k12 k13 e1 e2 e3 e4=>by
   subst e1;subst e2;subst e3;subst e4
   exact(hK _).2 ⟨_,_,yc,yw,rfl,k,k8,k9,k10,k11,k12,k13,s69,kc,kw⟩
  have nn:∀n:Int,((if(true:Bool)=true then(0:Int) else n)=0)∧((if(false:Bool)=true then(0:Int) else n)=n):=fun n=>⟨rfl,rfl⟩
  by_cases h0:er=0
  ·cases hc:oc.isSome<;>cases hw2:ow.isSome<;>
   ·simp -implicitDefEqProofs(maxSteps:=999999)(disch:=first|with_reducible rfl|omega|(simp only[nA,nS,nD]<;>omega)|fail)only[go_sem,cells_of (s7.get g105),cells_of (s68.get g105),cells_of (s69.get g105),o2C,o2R,o2G,tr.one,oyc,oyw,h0,hc,hw2,ne_eq,not_true_eq_false]
    exact⟨rfl,fin _ _ _ _ _ ⟨(by simp[ev_c,ev_put]<;>rfl),(by simp[ev_c,ev_put]<;>rfl),(by simp[ev_c,ev_put]<;>rfl),(by simp[ev_c,ev_put]<;>rfl)⟩ (by simp[ev_c,ev_put]<;>rfl) (by simp[ev_c,ev_put]<;>rfl) (by simp[ev_c,ev_put]<;>rfl) (by simp[ev_c,ev_put]<;>rfl) (by simp[ev_c,ev_put]<;>rfl) (by simp[ev_c,ev_put]<;>rfl) h0.symm (by rw[hc];rfl) (by rw[hw2];rfl) (by rw[h0];rfl)⟩
  ·cases hc:oc.isSome<;>cases hw2:ow.isSome<;>
   ·simp -implicitDefEqProofs(maxSteps:=999999)(disch:=first|with_reducible rfl|omega|(simp only[nA,nS,nD]<;>omega)|fail)only[go_sem,cells_of (s7.get g105),cells_of (s68.get g105),cells_of (s69.get g105),o2C,o2R,o2G,tr.one,oyc,oyw,h0,hc,hw2,ne_eq,not_false_eq_true]
    exact⟨rfl,fin _ _ _ _ _ ⟨(by simp[ev_c,ev_put]<;>rfl),(by simp[ev_c,ev_put]<;>rfl),(by simp[ev_c,ev_put]<;>rfl),(by simp[ev_c,ev_put]<;>rfl)⟩ (by simp[ev_c,ev_put]<;>rfl) (by simp[ev_c,ev_put]<;>rfl) (by simp[ev_c,ev_put]<;>rfl) (by simp[ev_c,ev_put]<;>rfl) (by simp[ev_c,ev_put]<;>rfl) (by simp[ev_c,ev_put]<;>rfl) rfl (by rw[hc];rfl) (by rw[hw2];rfl) (by rw[if_pos h0])⟩
 ·intro he
  have eA:agreeR a l=(false,checkA a):=by unfold agreeR;rw[if_pos he]
  have eC:clashR a=([],checkA a):=by unfold clashR;rw[if_pos he]
  have eW:wrongR a=([],checkA a):=by unfold wrongR;rw[if_pos he]
  simp -implicitDefEqProofs(maxSteps:=999999)(disch:=first|with_reducible rfl|omega|(simp only[nA,nS,nD]<;>omega)|fail)only[go_sem]
  exact⟨rfl,(hK _).2 ⟨_,_,.nils,.nils,rfl,⟨(by simp[ev_c,ev_put]<;>rfl),(by simp[ev_c,ev_put]<;>rfl),(by simp[ev_c,ev_put]<;>rfl),(by simp[ev_c,ev_put]<;>rfl)⟩,by rw[eA];exact(by simp[ev_c,ev_put]<;>rfl),by rw[eC];exact(by simp[ev_c,ev_put]<;>rfl),by rw[eW];exact(by simp[ev_c,ev_put]<;>rfl),(by simp[ev_c,ev_put]<;>rfl),(by simp[ev_c,ev_put]<;>rfl),by rw[eA];exact(by simp[ev_c,ev_put]<;>rfl),H.Sub.refl s06.wf,by rw[eC];exact sl_nil _,by rw[eW];exact sl_nil _⟩⟩
 ·rintro s hs
  obtain⟨tm,z7,yc,yw,rfl,⟨t1,t2,t5,t7⟩,t8,t9,t10,t11,t12,t13,s7,kc,kw⟩:=(hK s).1 hs
  have s07:=s06.trans s7
  have m7:=mine6.mono s7
  have y7':=yy6.mono s7
  simp -implicitDefEqProofs(maxSteps:=999999)(disch:=first|with_reducible rfl|omega|(simp only[nA,nS,nD]<;>omega)|fail)only[go_sem,t1,t2,t5,t7,t8,t9,t10,t11,t12,t13,cells_of (s7.get g95),o1C,o1R,o1G]
  refine Agree_ev s07.wf (x1'.mono s7) m7 (by omega) _ fun z8 s8=>?_
  have s78:=s7.trans s8
  simp -implicitDefEqProofs(maxSteps:=999999)(disch:=first|with_reducible rfl|omega|(simp only[nA,nS,nD]<;>omega)|fail)only[go_sem,t1,t2,t5,t7,t8,t9,t10,t11,t12,t13,cells_of (s78.get g95),o1C,o1R,o1G]
  refine Clash_ev (s06.trans s78).wf (x1'.mono s78) _ fun w1 z9 s9 k1=>?_
  have s79:=s78.trans s9
  simp -implicitDefEqProofs(maxSteps:=999999)(disch:=first|with_reducible rfl|omega|(simp only[nA,nS,nD]<;>omega)|fail)only[go_sem,t1,t2,t5,t7,t8,t9,t10,t11,t12,t13,cells_of (s79.get g95),o1C,o1R,o1G]
  refine Wrong_ev (s06.trans s79).wf (x1'.mono s79) _ fun w2 zA sA k2=>?_
  have s7A:=s79.trans sA
  have s8A:=s8.trans (s9.trans sA)
  have q1:=fun R=>eqInt_ev (k1.mono sA) (kc.mono s8A) R
  have q2:=fun R=>eqInt_ev k2 (kw.mono s8A) R
  have hbq:∀b:Bool,(b==b)=true:=fun b=>by cases b<;>rfl
  simp -implicitDefEqProofs(maxSteps:=999999)(disch:=first|with_reducible rfl|omega|(simp only[nA,nS,nD]<;>omega)|fail)only[go_sem,t1,t2,t5,t7,t8,t9,t10,t11,t12,t13,hbq,q1,q2,cells_of (s7A.get g95),cells_of (s7A.get ga6),o1C,o1R,o1G,oC,oR,oG]
  refine same_ev (s06.trans s7A).wf (x1'.mono s7A) (xa.mono s7A) _ fun zX sX=>?_
  have s7X:=s7A.trans sX
  have q3:=fun R=>eqInt_ev (mine6.mono s7X) (yy6.mono s7X) R
  rw[sameB_iff.2 rfl]
  simp -implicitDefEqProofs(maxSteps:=999999)(disch:=first|with_reducible rfl|omega|(simp only[nA,nS,nD]<;>omega)|fail)only[go_sem,t1,t7,q3,awake_eq]
  exact q _ _ rfl
end Go.Ab.Tryz
