/- The law ClockNamed: up to the renamed attic. Whether some truth agrees with the readings that count. Numbers that are wound off bytes: the contracts of Spool. A truth that is wound off numbers: Made. Slices that are made side by side. Made: the slices' invariants; an attic with its truth (plain). Made. Distances only sink (plain); wages. Truths that fit, as the code asks for them (plain). What is known more of an attic, and truths (plain). Lists without neighbours that are the same; to what a clock can have been set, what it gains, what it shows (plain). Contracts: fits, as the law has it; Fits. Equal, Eq, Dup of clocks, readings and gaps (printed by a program of ours). great, Own, same: attics as the law looks at them. theirs: an attic of the reference. The reference's Check of an attic: its parts. The reference's Check of an attic: the round over its clocks. Own slices of an attic; copied, Read, Know. copied, checked, Read, Know. Contracts of the generic functions on integers. Contract: Fits. Contract: Some. Contract: a truth near another one. Contract: slices.Compact on integers, with what it leaves. Contracts: the sort of integers; numbers, settled. slices.Values, slices.Collect, slices.Sorted of integers. Contract: Agree. The shortest lists, and of these the first, for which something holds: plain Lean. All rising lists of so many numbers, one by one, until one holds. Contracts: Clash and Wrong. Contracts: Clash and Wrong, whole. slices.Delete of one number. Contracts: Sets, Gains, Shows. Contract: Shows. What is told of times, and one clock more that is right (plain). More is known, and true: what is told is no wider (plain). Some readings changed: which are wrong, and which clash (plain). slices.Delete of one number out of a block of fixed length. The law ClockClashed. Order of a spool; entries that are stored by their numbers. Other numbers of events and clocks, another order of readings and gaps: the same truths (plain). Contracts: gaps that hold, readings that are missed (ref). Contracts: readings that are missed (ref). Lists of lists of integers in memory. Contracts: all times (ref). Contracts: all runs of all clocks (ref). Contract: a span made wider (ref). All truths of the reference, and those that fit (plain). What the truths of the reference tell is what the clocks tell (plain). Lists of truths in memory. Contract: all truths (ref). Contracts: the truths that fit, and what they tell of times (ref). Contracts: what truths tell of times, wages and numbers that are shown (ref; printed by a program of ours). Contracts: which was before; to what clocks were set (ref). Contract: whether an attic has more truths than are compared. Cells side by side; what times are told, for right attics (plain). The law ClockTimes. -/
import Derived.Test.YtagnijhgpogfhaaGreatG2
import Derived.Test.YtagnijhgpogfhaaGreatAc7
set_option linter.unusedSimpArgs false
set_option linter.unusedVariables false
namespace Go.Ab.Tryz
open Go.Proofs
set_option maxHeartbeats 4000000 in
theorem agreed_ev {h:H}(hw:h.wf){d:Nat}{a:At}{C R G f W:V}{ms:List Nat}(dk:Dk h d a C R G f W ms)(r:Right a){cnt:Nat→Bool}(hcnt:∀i,i<a.rds.length→PureA h f [.int .i64 (i:Int)] (.bool (cnt i)))
  (Q:V→H→Prop) (q:∀h',h.Sub h'→Q (.bool (decide (casesL a cnt≠[]))) h'):Ev fnG fastA (.fn 87 [] []) [.ptr d 0] h Q:=by
 have cd:∀hh p Q,Ev fnG fastA (.fn 147 [] []) [.ptr p 0] hh Q=Q (.fn 173 [] [.ptr hh.next 0]) (hh.add (.cells .rw [.ptr p 0])):=fun hh p Q=>by
  refine Ev.det (Ev_body (fd:=c147) rfl rfl rfl ?_) Q
  simp -implicitDefEqProofs(maxSteps:=999999)(disch:=first|with_reducible rfl|omega|(simp only[nA,nS,nD]<;>omega)|fail)only[c147,go_sem]
 refine Ev_body (fd:=c87) rfl rfl rfl ?_
 obtain⟨h6,hh6⟩:∃h6,(h.add (.cells .rw [.bool false])).add (.cells .rw [.ptr d 0])=h6:=⟨_,rfl⟩
 have s5:h.Sub h6:=by rw[←hh6];exact(by repeat(first|assumption|exact H.Sub.refl (by assumption)|refine H.Sub.add ?_ _|refine H.Sub.set ?_ (by first|omega|(simp only[H.next_add,H.next_set,H.next_del]<;>omega)) (by first|omega|(simp only[H.next_add,H.next_set,H.next_del]<;>omega)) (by assumption) _))
 have q1:h6.get h.next=some (.cells .rw [.bool false]):=by rw[←hh6];simp -implicitDefEqProofs(maxSteps:=999999)(disch:=first|with_reducible rfl|omega|(simp only[nA,nS,nD]<;>omega)|fail)only[go_sem]
 have q2:h6.get (h.next+1)=some (.cells .rw [.ptr d 0]):=by rw[←hh6];simp -implicitDefEqProofs(maxSteps:=999999)(disch:=first|with_reducible rfl|omega|(simp only[nA,nS,nD]<;>omega)|fail)only[go_sem]
 have n5:h6.next=h.next+2:=by rw[←hh6];simp only[H.next_add]
 simp -implicitDefEqProofs(maxSteps:=999999)(disch:=first|with_reducible rfl|omega|(simp only[nA,nS,nD]<;>omega)|fail)only[c87,go_sem,cd]
 try rw[hh6]
 clear hh6
 refine W_gen (P:=fun tm=>(Opd.t 2).ev tm=.ptr h.next 0∧(Opd.t 4).ev tm=.fn 173 [] [.ptr (h.next+1) 0]) ⟨(by simp[ev_c,ev_put]<;>rfl),(by simp[ev_c,ev_put]<;>rfl)⟩ fun tm ⟨t2,t4⟩=>?_
 refine W_rf t4 ?_
 generalize hr:LoopR.mk _ _ _ _ _ _ _ _ _=r0
 have fB:=congrArg LoopR.body hr
 have fA:=congrArg LoopR.assign hr
 have fN:=congrArg LoopR.n hr
 have fF:=congrArg LoopR.fn hr
 have fP:=congrArg LoopR.ps hr
 have fT:=congrArg LoopR.tm hr
 dsimp only at fB fA fN fF fP fT
 have hrs:r0.st=.ready:=by rw[←hr]
 have hrp:r0.pend=none:=by rw[←hr]
 have w6:=s5.wf
 obtain⟨J,hJ⟩:∃J:Nat→H→Prop,∀n x,J n x↔(h.Sub x∧n=0∧h6.next+1<x.next∧x.get (h6.next+1)=some (.loop r0)∧x.get h6.next=some .dfr∧x.get h.next=some (.cells .rw [.bool false])):=⟨_,fun _ _=>Iff.rfl⟩
 obtain⟨S,hS⟩:∃S:H→Prop,∀x,S x↔(h.Sub x∧casesL a cnt≠[]∧x.get h.next=some (.cells .rw [.bool true])∧x.get h6.next=some .dfr∧∃rr,x.get (h6.next+1)=some (.loop rr)∧rr.st=.done∧rr.pend=some .ret):=⟨_,fun _=>Iff.rfl⟩
 have s3:h6.Sub ((h6.add .dfr).add (.loop r0)):=((H.Sub.refl w6).add _).add _
 have j0:J 0 ((h6.add .dfr).add (.loop r0)):=(hJ _ _).2 ⟨s5.trans s3,rfl,by simp only[H.next_add];omega,get_add_new (by rw[H.next_add]),by rw[get_add_old (by rw[H.next_add];omega)];exact get_add_new rfl,s3.get q1⟩
 have tk:Taker h (.yld (h6.next+1)) (casesL a cnt) J S (fun _ b=>b=h.next∨b=h6.next+1) 0:=by
  refine⟨fun p x hx=>?_,fun p x x' hx s=>?_,fun p x b hx hb=>?_,fun p x x' hx s b hb=>hb,fun p t ht x0 x R hx hR=>?_⟩
  ·exact⟨((hJ _ _).1 hx).1,Nat.zero_le _⟩
  ·obtain⟨k1,k2,k3,k4,k5,k6⟩:=(hJ _ _).1 hx
   exact(hJ _ _).2 ⟨k1.trans s,k2,by have:=s.next;omega,s.get k4,s.get k5,s.get k6⟩
  ·obtain⟨k1,k2,k3,k4,k5,k6⟩:=(hJ _ _).1 hx
   have:=k1.next
   have:=hw
   rcases hb with hb|hb<;>omega
  ·obtain⟨k1,k2,k3,k4,k5,k6⟩:=(hJ _ _).1 hx
   have hne:casesL a cnt≠[]:=fun e=>by rw[e] at ht;simp at ht
   refine Ev.gen fun Q2 q2'=>?_
   have sx:=hR.1
   have wx:=sx.wf
   have lx:=sx.next
   refine Ev_yld (tm:=tm.put (some (fdV R t.2)) 5) (sx.get k4) (by rw[←fP,←fT];rfl) ?_
   rw[←fA,←fN,←fF]
   simp -implicitDefEqProofs(maxSteps:=999999)(disch:=first|with_reducible rfl|omega|(simp only[nA,nS,nD]<;>omega)|fail)only[go_sem]
   unfold Kasg
   refine⟨rfl,r0,sx.get k4,hrs,?_⟩
   obtain⟨rb,hrb⟩:∃rb:LoopR,rb={r0 with st:=.busy}:=⟨_,rfl⟩
   rw[←hrb,←fB,←fN,←fF]
   have K3:Keeps (fun c=>c=h6.next+1) x (x.set (h6.next+1) (.loop rb)):=Keeps.set _ _ _
   have s4:h.Sub (x.set (h6.next+1) (.loop rb)):=(k1.trans sx).set (by omega) (by omega) hw _
   have gl3:(x.set (h6.next+1) (.loop rb)).get (h6.next+1)=some (.loop rb):=get_set_same rfl
   have gd3:=K3.2 _ _ (sx.get k5) (by omega)
   have c1:=K3.2 _ _ (sx.get k6) (by omega)
   have l3:(x.set (h6.next+1) (.loop rb)).next=x.next:=H.next_set _ _ _
   generalize x.set (h6.next+1) (.loop rb)=h3 at K3 s4 gl3 gd3 c1 l3⊢
   simp -implicitDefEqProofs(maxSteps:=999999)(disch:=first|with_reducible rfl|omega|(simp only[nA,nS,nD]<;>omega)|fail)only[go_sem,t2,t4,c1]
   unfold Kround
   have K4:Keeps (fun c=>c=h.next) h3 (h3.set h.next (.cells .rw [.bool true])):=Keeps.set _ _ _
   have s6:h.Sub (h3.set h.next (.cells .rw [.bool true])):=s4.set (by omega) (by omega) hw _
   have l4:h6.next+1<(h3.set h.next (.cells .rw [.bool true])).next:=by rw[H.next_set];omega
   refine⟨rb,by rw[get_set_other (by omega)];exact gl3,q2' _ _ ⟨.inr ⟨rfl,(hS _).2 ⟨s6.set (by omega) l4 hw _,hne,?_,?_,_,get_set_same rfl,rfl,rfl⟩⟩,⟨⟨by rw[H.next_set,H.next_set];omega,fun b w g nb=>?_⟩,fun b hb=>.inl hb⟩⟩⟩
   ·rw[get_set_other (by omega),get_set_same rfl]
   ·rw[get_set_other (by omega),get_set_other (by omega)];exact gd3
   ·rw[get_set_other fun e=>nb (.inr e),get_set_other fun e=>nb (.inl e)]
    exact K3.2 _ _ g fun e=>nb (.inr e)
 refine(cases_gen hw dk r hcnt ⟨_,rfl⟩ tk (b1:=h.next+1) (x:=(h6.add .dfr).add (.loop r0)) (by omega) j0 (s3.get q2)).mono fun u h7 hu=>?_
 rcases hu with hJ7|hS7
 ·obtain⟨s7,hno,lx,gl,gd,g2⟩:=(hJ _ _).1 hJ7
  have hlb:decide (casesL a cnt≠[])=false:=by
   rw[List.length_eq_zero_iff.1 hno];simp
  refine⟨r0,gl,by rw[hrs];simp,?_⟩
  rw[hrp]
  have lt7:=s7.wf _ _ gl
  have s8:h.Sub (h7.set (h6.next+1) (.loop {r0 with st:=.exhausted})):=s7.set (by omega) lt7 hw _
  have d8:(h7.set (h6.next+1) (.loop {r0 with st:=.exhausted})).get h6.next=some .dfr:=by rw[get_set_other (by omega)];exact gd
  have c8:(h7.set (h6.next+1) (.loop {r0 with st:=.exhausted})).get h.next=some (.cells .rw [.bool false]):=by rw[get_set_other (by omega)];exact g2
  rw[hrp] at s8 d8 c8
  generalize h7.set (h6.next+1) _=h8 at s8 d8 c8⊢
  have l8:=s8.wf _ _ c8
  have d9:(h8.set h.next (.cells .rw [.bool false])).get h6.next=some .dfr:=by rw[get_set_other (by omega)];exact d8
  have s9:h.Sub (h8.set h.next (.cells .rw [.bool false])):=s8.set (by omega) l8 hw _
  have c9:((h8.set h.next (.cells .rw [.bool false])).del h6.next).cells h.next=some [.bool false]:=by rw[cells_del_other (by omega),cells_set_same rfl]
  simp -implicitDefEqProofs(maxSteps:=999999)(disch:=first|with_reducible rfl|omega|(simp only[nA,nS,nD]<;>omega)|fail)only[go_sem,t2,t4,c8,Kfin_ret1 _ _ _ d9,c9]
  rw[hlb] at q
  exact q _ (H.Sub.del s9 (by omega) hw)
 ·obtain⟨s7,hne,g2,gd,rr,gl,hst,hpe⟩:=(hS _).1 hS7
  have hlb:decide (casesL a cnt≠[])=true:=decide_eq_true hne
  refine⟨rr,gl,by rw[hst];simp,?_⟩
  rw[hpe]
  have lt7:=s7.wf _ _ gl
  have s8:h.Sub (h7.set (h6.next+1) (.loop {rr with st:=.exhausted})):=s7.set (by omega) lt7 hw _
  have d8:(h7.set (h6.next+1) (.loop {rr with st:=.exhausted})).get h6.next=some .dfr:=by rw[get_set_other (by omega)];exact gd
  have c8:(h7.set (h6.next+1) (.loop {rr with st:=.exhausted})).get h.next=some (.cells .rw [.bool true]):=by rw[get_set_other (by omega)];exact g2
  rw[hpe] at s8 d8 c8
  generalize h7.set (h6.next+1) _=h8 at s8 d8 c8⊢
  have c9:(h8.del h6.next).cells h.next=some [.bool true]:=by rw[cells_del_other (by omega)];exact cells_of c8
  simp -implicitDefEqProofs(maxSteps:=999999)(disch:=first|with_reducible rfl|omega|(simp only[nA,nS,nD]<;>omega)|fail)only[go_sem,t2,t4,Kfin_ret1 _ _ _ d8,c9]
  rw[hlb] at q
  exact q _ (H.Sub.del s8 (by omega) hw)
end Go.Ab.Tryz
namespace Go.Ab
theorem SlAt_lt {h:H}{x:V}{sz:Nat}{rows:List (List V)}(hw:h.wf)(a:SlAt h x sz rows)(hr:rows≠[]):∀b,blkOf x b→b<h.next:=by
 rintro b ⟨o',n',c',e⟩
 rcases a.2.2 with⟨rfl,_⟩|⟨b',o,c,cs,e1,e2,e3⟩
 ·cases e
 ·rw[e1] at e;cases e
  obtain⟨k,hk⟩:=H.cells_eq (e2.resolve_left hr)
  exact hw _ _ hk
theorem q_shr_3 (a:Int):q_sh .shr (.int .u64 a) (.int .u64 3)=some (.int .u64 (a.fdiv (2^(min 3 IntKind.u64.bits)))):=rfl
theorem q_shr_19 (a:Int):q_sh .shr (.int .u64 a) (.int .u64 19)=some (.int .u64 (a.fdiv (2^(min 19 IntKind.u64.bits)))):=rfl
def xorI (k:IntKind)(a b:Int):Int:=k.wrap (BitVec.ofInt k.bits a^^^BitVec.ofInt k.bits b).toNat
def andI (k:IntKind)(a b:Int):Int:=k.wrap (BitVec.ofInt k.bits a&&& BitVec.ofInt k.bits b).toNat
theorem q_ar_xor (k:IntKind)(a b:Int):q_ar .xor (.int k a) (.int k b)=some (.int k (xorI k a b)):=by simp[q_ar,arith,xorV,vi,xorI]
theorem q_ar_and (k:IntKind)(a b:Int):q_ar .and (.int k a) (.int k b)=some (.int k (andI k a b)):=by simp[q_ar,arith,andV,vi,andI]
theorem and_bd (a:Int):0≤andI .i64 a 65535∧andI .i64 a 65535≤65535:=by
 have h:(BitVec.ofInt IntKind.i64.bits a&&& BitVec.ofInt IntKind.i64.bits 65535).toNat≤65535:=by
  rw[BitVec.toNat_and]
  exact Nat.le_trans Nat.and_le_right (by decide)
 unfold andI
 rw[←wr_eq,wr_in (by omega) (by omega)]
 omega
namespace Tryz
def SpAt (h:H)(p:Nat)(x:V)(T:Int):Prop:=∃st,h.get p=some (.cells .rw [x,.int .i64 T,.int .u64 st])
theorem SpAt.mono {h h':H}{p:Nat}{x:V}{T:Int}(a:SpAt h p x T)(hs:h.Sub h'):SpAt h' p x T:=by
 obtain⟨st,a⟩:=a
 exact⟨st,hs.get a⟩
theorem SpAt.keep {h h':H}{p:Nat}{x:V}{T:Int}{S:Nat→Prop}(a:SpAt h p x T)(k:Keeps S h h')(n:¬S p):SpAt h' p x T:=by
 obtain⟨st,a⟩:=a
 exact⟨st,k.2 _ _ a n⟩
set_option maxHeartbeats 1000000 in
theorem turn_ev {h0 h:H}{p:Nat}{x:V}{bs:List Int}{T:Int}(hs:h0.Sub h)(hw0:h0.wf)(hx:SlAt h0 x 1 (bs.map encU8))(hp0:h0.next≤p)(hp:SpAt h p x T)(hT:0≤T∧T≤1000000000)(Q:V→H→Prop)
  (q:∀r h',0≤r→r≤65535→h0.Sub h'→SpAt h' p x (T+1)→Keeps (fun b=>b=p) h h'→h'.next=h.next→Q (.int .i64 r) h'):Ev fnG fastA (.fn 139 [] []) [.ptr p 0] h Q:=by
 obtain⟨st,hp⟩:=hp
 have hw:=hs.wf
 have hlp:=hw _ _ hp
 have hx1:=hx.one
 have hlen:=hx.lenE
 have hc:=cells_of hp
 refine Ev_body (fd:=c139) rfl rfl rfl ?_
 have fin:∀(st':Int) (r:Int),0≤r→r≤65535→Q (.int .i64 r) (h.set p (.cells .rw [x,.int .i64 (T+1),.int .u64 st'])):=fun st' r r0 r1=>
  q r _ r0 r1 (hs.set hp0 hlp hw0 _) ⟨st',get_set_same rfl⟩ (Keeps.set _ _ _) (H.next_set _ _ _)
 by_cases h1:0<(bs.length:Int)
 ·have hT0:0≤T.tmod (bs.length:Int):=Int.tmod_nonneg _ hT.1
  have hT1:T.tmod (bs.length:Int)<(bs.length:Int):=Int.tmod_lt_of_pos _ h1
  obtain⟨i,ei⟩:=Int.eq_ofNat_of_zero_le hT0
  have hi:i<bs.length:=by omega
  obtain⟨b2,o2,c2,cs2,e2,hcs2,hq2,hgg2,hn2,hn02⟩:=(hx.mono hs).at hi
  have v2:=hn02 (by omega)
  simp only[encU8] at v2
  have hbb:b2≠p:=by
   have:=SlAt_lt hw0 hx (by intro e;rw[List.map_eq_nil_iff] at e;rw[e] at hi;simp at hi) b2 ⟨_,_,_,e2⟩
   omega
  have hne:¬(bs.length:Int)=0:=by omega
  by_cases h2:(bs.length:Int)<T+1
  ·simp -implicitDefEqProofs(maxSteps:=999999)(disch:=first|with_reducible rfl|omega|(simp only[nA,nS,nD]<;>omega)|fail)only[c139,go_sem,hc,hlen,h1,q_ar_rem .i64 hne,ei,hq2 (nat_cst i),hcs2,v2,hp,wr_in,h2,hx1,q_shr_3,q_shr_19,q_ar_xor,q_ar_and]
   exact fin _ _ (and_bd _).1 (and_bd _).2
  ·simp -implicitDefEqProofs(maxSteps:=999999)(disch:=first|with_reducible rfl|omega|(simp only[nA,nS,nD]<;>omega)|fail)only[c139,go_sem,hc,hlen,h1,q_ar_rem .i64 hne,ei,hq2 (nat_cst i),hcs2,v2,hp,wr_in,h2,hx1,q_shr_3,q_shr_19,q_ar_xor,q_ar_and]
   exact fin _ _ (and_bd _).1 (and_bd _).2
 ·by_cases h2:(bs.length:Int)<T+1
  ·simp -implicitDefEqProofs(maxSteps:=999999)(disch:=first|with_reducible rfl|omega|(simp only[nA,nS,nD]<;>omega)|fail)only[c139,go_sem,hc,hlen,h1,hp,wr_in,h2,hx1,q_shr_3,q_shr_19,q_ar_xor,q_ar_and]
   exact fin _ _ (and_bd _).1 (and_bd _).2
  ·omega
theorem Upto_ev {h0 h:H}{p:Nat}{x:V}{bs:List Int}{T:Int}(hs:h0.Sub h)(hw0:h0.wf)(hx:SlAt h0 x 1 (bs.map encU8))(hp0:h0.next≤p)(hp:SpAt h p x T)(hT:0≤T∧T≤1000000000){n:Int}(hn: -1000000000≤n∧n≤1000000000)(Q:V→H→Prop)
  (q:∀r h',0≤r→r≤max 0 n→h0.Sub h'→SpAt h' p x (T+1)→Keeps (fun b=>b=p) h h'→h'.next=h.next→Q (.int .i64 r) h'):Ev fnG fastA (.fn 53 [] []) [.ptr p 0,.int .i64 n] h Q:=by
 refine Ev_body (fd:=c53) rfl rfl rfl ?_
 simp -implicitDefEqProofs(maxSteps:=999999)(disch:=first|with_reducible rfl|omega|(simp only[nA,nS,nD]<;>omega)|fail)only[c53,go_sem]
 refine turn_ev hs hw0 hx hp0 hp hT _ fun r h' r0 r1 s' p' k' n'=>?_
 have hm:¬max 1 (n+1)=0:=by omega
 have e0:0≤r.tmod (max 1 (n+1)):=Int.tmod_nonneg _ r0
 have e1:r.tmod (max 1 (n+1))<max 1 (n+1):=Int.tmod_lt_of_pos _ (by omega)
 simp -implicitDefEqProofs(maxSteps:=999999)(disch:=first|with_reducible rfl|omega|(simp only[nA,nS,nD]<;>omega)|fail)only[go_sem,wr_in,q_ar_rem .i64 hm]
 exact q _ _ e0 (by omega) s' p' k' n'
theorem From_ev {h0 h:H}{p:Nat}{x:V}{bs:List Int}{T:Int}(hs:h0.Sub h)(hw0:h0.wf)(hx:SlAt h0 x 1 (bs.map encU8))(hp0:h0.next≤p)(hp:SpAt h p x T)(hT:0≤T∧T≤1000000000){lo hi:Int}(hlo: -1000000≤lo∧lo≤1000000)(hhi: -1000000≤hi∧hi≤1000000)(Q:V→H→Prop)
  (q:∀r h',lo≤r→r≤max lo hi→h0.Sub h'→SpAt h' p x (T+1)→Keeps (fun b=>b=p) h h'→h'.next=h.next→Q (.int .i64 r) h'):Ev fnG fastA (.fn 70 [] []) [.ptr p 0,.int .i64 lo,.int .i64 hi] h Q:=by
 refine Ev_body (fd:=c70) rfl rfl rfl ?_
 simp -implicitDefEqProofs(maxSteps:=999999)(disch:=first|with_reducible rfl|omega|(simp only[nA,nS,nD]<;>omega)|fail)only[c70,go_sem,wr_in]
 refine Upto_ev hs hw0 hx hp0 hp hT (by omega) _ fun r h' r0 r1 s' p' k' n'=>?_
 simp -implicitDefEqProofs(maxSteps:=999999)(disch:=first|with_reducible rfl|omega|(simp only[nA,nS,nD]<;>omega)|fail)only[go_sem,wr_in]
 exact q _ _ (by omega) (by omega) s' p' k' n'
theorem Wound_ev {h:H}{x:V}{bs:List Int}(hw:h.wf)(hx:SlAt h x 1 (bs.map encU8))(Q:V→H→Prop)(q:∀h',h.Sub h'→SpAt h' h.next x 0→h'.next=h.next+1→Q (.ptr h.next 0) h'):Ev fnG fastA (.fn 15 [] []) [x] h Q:=by
 have hx1:=hx.one
 refine Ev_body (fd:=c15) rfl rfl rfl ?_
 simp -implicitDefEqProofs(maxSteps:=999999)(disch:=first|with_reducible rfl|omega|(simp only[nA,nS,nD]<;>omega)|fail)only[c15,go_sem,hx.lenE,hx1,cells_one hx1]
 exact q _ ((H.Sub.refl hw).add _) ⟨_,get_add_new rfl⟩ (H.next_add _ _)
end Tryz
end Go.Ab
namespace Go.Ab
theorem Keeps.new {S:Nat→Prop}{h h':H}(hw:h.wf)(k:Keeps (fun c=>S c∨h.next≤c) h h'):Keeps S h h':=⟨k.1,fun c y e n=>k.2 c y e fun hs=>hs.elim n fun hge=>by have:=hw c y e;omega⟩
structure Sl6 (h0 z:H)(n1:Nat)(v:Nat→V)(sz:Nat→Nat)(rows:Nat→List (List V)):Prop where
 o:∀i,i<6→OwnC h0 z (v i) (sz i) (rows i)
 lo:∀i,i<6→∀b,blkOf (v i) b→n1≤b
 dj:∀i j,i<6→j<6→i≠j→∀b,blkOf (v i) b→¬blkOf (v j) b
variable {h0 z z':H} {n1:Nat} {v:Nat→V} {sz:Nat→Nat} {rows:Nat→List (List V)}
theorem Sl6.keep (k:Sl6 h0 z n1 v sz rows){S:Nat→Prop}(kk:Keeps S z z')(s:h0.Sub z')(hS:∀b,S b→b<n1):Sl6 h0 z' n1 v sz rows:=
 ⟨fun i hi=>(k.o i hi).keep kk s fun b hb q=>by have:=k.lo i hi b hb;have:=hS b q;omega,k.lo,k.dj⟩
theorem Sl6.rw (k:Sl6 h0 z n1 v sz rows){rows':Nat→List (List V)}(e:∀i,i<6→rows i=rows' i):Sl6 h0 z n1 v sz rows':=⟨fun i hi=>by rw[←e i hi];exact k.o i hi,k.lo,k.dj⟩
theorem Sl6.mono (k:Sl6 h0 z n1 v sz rows)(s:z.Sub z'):Sl6 h0 z' n1 v sz rows:=⟨fun i hi=>(k.o i hi).mono s,k.lo,k.dj⟩
def updF {α:Type}(f:Nat→α)(i:Nat)(x:α)(j:Nat):α:=if j=i then x else f j
theorem updF_same {α:Type}(f:Nat→α)(i:Nat)(x:α):updF f i x i=x:=if_pos rfl
theorem updF_other {α:Type}(f:Nat→α){i j:Nat}(x:α)(h:j≠i):updF f i x j=f j:=if_neg h
theorem Sl6.app (k:Sl6 h0 z n1 v sz rows){i:Nat}(hi:i<6){w:V}{r:List V}(o:OwnC h0 z' w (sz i) (rows i++[r]))(n:∀b,blkOf w b→blkOf (v i) b∨z.next≤b)(hz:n1≤z.next)(kk:Keeps (blkOf (v i)) z z'):
  Sl6 h0 z' n1 (updF v i w) sz (updF rows i (rows i++[r])):=by
 refine⟨fun j hj=>?_,fun j hj b hb=>?_,fun j l hj hl hjl b hb=>?_⟩
 ·by_cases e:j=i
  ·subst e;rw[updF_same,updF_same];exact o
  ·rw[updF_other _ _ e,updF_other _ _ e]
   exact(k.o j hj).keep kk o.1 fun b hb=>k.dj j i hj hi e b hb
 ·by_cases e:j=i
  ·subst e;rw[updF_same] at hb
   exact(n b hb).elim (k.lo j hi b) fun q=>by omega
  ·rw[updF_other _ _ e] at hb;exact k.lo j hj b hb
 ·by_cases e:j=i
  ·subst e
   rw[updF_same] at hb;rw[updF_other _ _ (Ne.symm hjl)]
   exact(n b hb).elim (k.dj j l hi hl hjl b) fun q w=>by have:=((k.o l hl).blk w).2.1;omega
  ·rw[updF_other _ _ e] at hb
   by_cases e2:l=i
   ·subst e2;rw[updF_same]
    intro w
    exact(n b w).elim (k.dj j l hj hi e b hb) fun q=>by have:=((k.o j hj).blk hb).2.1;omega
   ·rw[updF_other _ _ e2];exact k.dj j l hj hl hjl b hb
end Go.Ab
namespace Go.Ab.Tryz
open Go.Proofs
set_option maxHeartbeats 1000000 in
theorem around_ev {h0 h:H}{p:Nat}{x:V}{bs:List Int}{T:Int}(hs:h0.Sub h)(hw0:h0.wf)(hx:SlAt h0 x 1 (bs.map encU8))(hp0:h0.next≤p)(hp:SpAt h p x T)(hT:0≤T∧T≤100000000){n wide most:Int}(h1:0≤wide∧wide≤100)(h2:0≤most∧most≤1000)(h3: -most≤n∧n≤most)(Q:V→H→Prop)
  (q:∀lo hi h',lo≤n→n≤hi→ -most≤lo→hi≤most→hi-lo≤wide→h0.Sub h'→SpAt h' p x (T+2)→Keeps (fun b=>b=p) h h'→Q (spV (lo,hi)) h'):Ev fnG fastA (.fn 71 [] []) [.ptr p 0,.int .i64 n,.int .i64 wide,.int .i64 most] h Q:=by
 have hw:=hs.wf
 have hlp:p<h.next:=by obtain⟨st,g⟩:=hp;exact hw _ _ g
 refine Ev_body (fd:=c71) rfl rfl rfl ?_
 have sA:=(H.Sub.refl hw).add (.cells .rw [.int .i64 0,.int .i64 0])
 have gA:(h.add (.cells .rw [.int .i64 0,.int .i64 0])).get h.next=some (.cells .rw [.int .i64 0,.int .i64 0]):=get_add_new rfl
 have nA:=H.next_add h (.cells .rw [.int .i64 0,.int .i64 0])
 have w0:wr .i64 (0-most)= -most:=by rw[wr_in (by omega) (by omega)];omega
 simp -implicitDefEqProofs(maxSteps:=999999)(disch:=first|with_reducible rfl|omega|(simp only[nA,nS,nD]<;>omega)|fail)only[c71,go_sem,w0]
 generalize h.add (.cells .rw [.int .i64 0,.int .i64 0])=hA at sA gA nA⊢
 refine Upto_ev (hs.trans sA) hw0 hx hp0 (hp.mono sA) (by omega) (by omega) _ fun r1 h1 a0 a1 s1 p1 k1 n1=>?_
 have g1:=k1.2 _ _ gA (by omega)
 have w1:wr .i64 (n-r1)=n-r1:=wr_in (by omega) (by omega)
 obtain⟨lo,hlo⟩:∃lo,max (-most) (n-r1)=lo:=⟨_,rfl⟩
 simp -implicitDefEqProofs(maxSteps:=999999)(disch:=first|with_reducible rfl|omega|(simp only[nA,nS,nD]<;>omega)|fail)only[go_sem,w1,hlo]
 refine Upto_ev s1 hw0 hx hp0 p1 (by omega) (by omega) _ fun r2 h2' b0 b1 s2 p2 k2 n2=>?_
 have g2:=k2.2 _ _ g1 (by omega)
 have w2:wr .i64 (lo+r2)=lo+r2:=wr_in (by omega) (by omega)
 obtain⟨hi,hhi⟩:∃hi,min most (max n (lo+r2))=hi:=⟨_,rfl⟩
 simp -implicitDefEqProofs(maxSteps:=999999)(disch:=first|with_reducible rfl|omega|(simp only[nA,nS,nD]<;>omega)|fail)only[go_sem,w2,hhi,g2]
 refine q lo hi _ (by omega) (by omega) (by omega) (by omega) (by omega) (s2.set (b:=h.next) (by have:=hs.next;omega) (by omega) hw0 _) ?_ ?_
 ·have e:T+1+1=T+2:=by omega
  rw[←e];exact p2.keep (Keeps.set _ _ _) (by omega)
 ·refine Keeps.new hw ((((Keeps.of sA (fun _=>False)).trans k1).trans k2).trans (Keeps.set h2' h.next _) |>.mono ?_)
  rintro c (((h|h)|h)|h)
  ·exact h.elim
  ·exact .inl h
  ·exact .inl h
  ·exact .inr (by omega)
end Go.Ab.Tryz
namespace Go.Ab.Tryz
open Go.Proofs
def sz6:Nat→Nat
 |0=>4
 |1=>3
 |2=>4
 |_=>1
def rowsM (a:At)(ss gg tt:List Int):Nat→List (List V)
 |0=>a.cks.map encC
 |1=>a.rds.map encR
 |2=>a.gps.map encG
 |3=>ss.map encI
 |4=>gg.map encI
 |5=>tt.map encI
 |_=>[]
structure Mi (h0:H)(p:Nat)(x:V)(n1 c0:Nat)(a:At)(ss gg tt:List Int)(T:Int)(v:Nat→V)(z:H):Prop where
 s:h0.Sub z
 sp:SpAt z p x T
 sl:Sl6 h0 z n1 v sz6 (rowsM a ss gg tt)
 ga:z.get (c0+2)=some (.cells .rw [.int .i64 a.mins,.int .i64 a.evs,v 0,v 1,v 2])
 gt:z.get (c0+3)=some (.cells .rw [v 3,v 4,v 5])
 g0:z.get c0=some (.cells .rw [.int .i64 0,.int .i64 0,.nils,.nils,.nils])
 g1:z.get (c0+1)=some (.cells .rw [.nils,.nils,.nils])
 nx:n1≤z.next
variable {h0:H} {p:Nat} {x:V} {n1 c0:Nat} {a a':At} {ss gg tt ss' gg' tt':List Int} {T T':Int} {v v':Nat→V} {z z5:H}
theorem Mi.turn (k:Mi h0 p x n1 c0 a ss gg tt T v z)(hp:p<c0)(hn:c0+4=n1)(s:h0.Sub z5)(sp:SpAt z5 p x T')(kk:Keeps (fun b=>b=p) z z5):Mi h0 p x n1 c0 a ss gg tt T' v z5:=
 ⟨s,sp,k.sl.keep kk s fun b hb=>by omega,kk.2 _ _ k.ga (by omega),kk.2 _ _ k.gt (by omega),kk.2 _ _ k.g0 (by omega),kk.2 _ _ k.g1 (by omega),by have:=kk.1;have:=k.nx;omega⟩
theorem Mi.mono (k:Mi h0 p x n1 c0 a ss gg tt T v z)(s:z.Sub z5):Mi h0 p x n1 c0 a ss gg tt T v z5:=
 ⟨k.s.trans s,k.sp.mono s,k.sl.mono s,s.get k.ga,s.get k.gt,s.get k.g0,s.get k.g1,by have:=s.next;have:=k.nx;omega⟩
theorem Mi.putA (k:Mi h0 p x n1 c0 a ss gg tt T v z)(hw:h0.wf)(hp:p<c0)(hn:c0+4=n1)(hc:h0.next≤c0){S:Nat→Prop}(kk:Keeps S z z5)(hS:∀b,S b→n1≤b)(sl:Sl6 h0 z5 n1 v' sz6 (rowsM a' ss gg tt))(hm:a'.mins=a.mins)(he:a'.evs=a.evs)
  (e3:v' 3=v 3) (e4:v' 4=v 4) (e5:v' 5=v 5):Mi h0 p x n1 c0 a' ss gg tt T v' (z5.set (c0+2) (.cells .rw [.int .i64 a.mins,.int .i64 a.evs,v' 0,v' 1,v' 2])):=by
 have hn':∀b,b<n1→¬S b:=fun b hb q=>by have:=hS b q;omega
 have s5:=(sl.o 0 (by omega)).1
 have l5:=kk.1
 have lz:=k.nx
 have sz:h0.Sub (z5.set (c0+2) (.cells .rw [.int .i64 a.mins,.int .i64 a.evs,v' 0,v' 1,v' 2])):=s5.set (by omega) (by omega) hw _
 have k2:=Keeps.set z5 (c0+2) (.cells .rw [.int .i64 a.mins,.int .i64 a.evs,v' 0,v' 1,v' 2])
 refine⟨sz,(k.sp.keep kk (hn' _ (by omega))).keep k2 (by omega),sl.keep k2 sz fun b hb=>by omega,by rw[get_set_same rfl,hm,he],?_,?_,?_,by rw[H.next_set];omega⟩
 ·rw[e3,e4,e5];exact k2.2 _ _ (kk.2 _ _ k.gt (hn' _ (by omega))) (by omega)
 ·exact k2.2 _ _ (kk.2 _ _ k.g0 (hn' _ (by omega))) (by omega)
 ·exact k2.2 _ _ (kk.2 _ _ k.g1 (hn' _ (by omega))) (by omega)
theorem Mi.putT (k:Mi h0 p x n1 c0 a ss gg tt T v z)(hw:h0.wf)(hp:p<c0)(hn:c0+4=n1)(hc:h0.next≤c0){S:Nat→Prop}(kk:Keeps S z z5)(hS:∀b,S b→n1≤b)(sl:Sl6 h0 z5 n1 v' sz6 (rowsM a ss' gg' tt'))
  (e0:v' 0=v 0) (e1:v' 1=v 1) (e2:v' 2=v 2):Mi h0 p x n1 c0 a ss' gg' tt' T v' (z5.set (c0+3) (.cells .rw [v' 3,v' 4,v' 5])):=by
 have hn':∀b,b<n1→¬S b:=fun b hb q=>by have:=hS b q;omega
 have s5:=(sl.o 0 (by omega)).1
 have l5:=kk.1
 have lz:=k.nx
 have sz:h0.Sub (z5.set (c0+3) (.cells .rw [v' 3,v' 4,v' 5])):=s5.set (by omega) (by omega) hw _
 have k2:=Keeps.set z5 (c0+3) (.cells .rw [v' 3,v' 4,v' 5])
 refine⟨sz,(k.sp.keep kk (hn' _ (by omega))).keep k2 (by omega),sl.keep k2 sz fun b hb=>by omega,?_,get_set_same rfl,?_,?_,by rw[H.next_set];omega⟩
 ·rw[e0,e1,e2];exact k2.2 _ _ (kk.2 _ _ k.ga (hn' _ (by omega))) (by omega)
 ·exact k2.2 _ _ (kk.2 _ _ k.g0 (hn' _ (by omega))) (by omega)
 ·exact k2.2 _ _ (kk.2 _ _ k.g1 (hn' _ (by omega))) (by omega)
structure MkOk (a:At)(ss gg tt:List Int):Prop where
 m:1≤a.mins∧a.mins≤240
 e:1≤a.evs∧a.evs≤4
 cl:a.cks.length≤2
 rl:a.rds.length≤6
 gl:a.gps.length≤2
 ls:ss.length=a.cks.length
 lg:gg.length=a.cks.length
 lt:tt.length≤4
 ck:∀(k:Nat) c s g,a.cks[k]? =some c→ss[k]? =some s→gg[k]? =some g→c.sl≤s∧s≤c.sh∧c.gl≤g∧g≤c.gh
 cb:∀c∈a.cks, -60≤c.sl∧c.sh≤60∧ -30≤c.gl∧c.gh≤30∧c.sl≤c.sh∧c.gl≤c.gh∧c.sh-c.sl≤3∧c.gh-c.gl≤3
 tm:∀t∈tt,0≤t∧t≤a.mins
 rd:∀r∈a.rds,0≤r.ck∧0≤r.ev∧∃s g t,ss[r.ck.toNat]? =some s∧gg[r.ck.toNat]? =some g∧tt[r.ev.toNat]? =some t∧r.sh=shw s g t
 gp:∀g∈a.gps,0≤g.fr∧0≤g.to∧∃t1 t2,tt[g.fr.toNat]? =some t1∧tt[g.to.toNat]? =some t2∧g.lo≤t2-t1∧t2-t1≤g.hi∧ -240≤g.lo∧g.hi≤240
theorem getl {α:Type}{l:List α}{i:Nat}{x:α}(h:l[i]? =some x):i<l.length:=by
 rcases Nat.lt_or_ge i l.length with q|q
 ·exact q
 ·rw[List.getElem?_eq_none q] at h;cases h
theorem MkOk.run {a:At}{ss gg tt:List Int}(k:MkOk a ss gg tt){i:Nat}{s g:Int}(hs:ss[i]? =some s)(hg:gg[i]? =some g):RunIn s g:=by
 have hi:=getl hs
 rw[k.ls] at hi
 have h1:=k.ck i _ s g (List.getElem?_eq_getElem hi) hs hg
 have h2:=k.cb _ (List.getElem_mem hi)
 exact⟨by omega,by omega,by omega,by omega⟩
theorem MkOk.right {a:At}{ss gg tt:List Int}(k:MkOk a ss gg tt)(hl:(tt.length:Int)=a.evs):Right a:=by
 have hm:=k.m;have he:=k.e;have h1:=k.cl;have h2:=k.rl;have h3:=k.gl
 refine⟨?_,fun c hc=>?_,fun r hr=>?_,fun g hg=>?_,fun r hr=>?_,fun g hg=>?_,fun c hc=>?_,fun g hg=>?_,fun c hc=>?_⟩
 ·simp only[At.sz,Bool.and_eq_true,decide_eq_true_eq,inB_iff];omega
 ·have:=k.cb c hc
  simp only[Ck.bd,within,Bool.and_eq_true,inB_iff];omega
 ·obtain⟨_,_,s,g,t,e1,e2,e3,e4⟩:=k.rd r hr
  have ht:=k.tm t (List.mem_of_getElem? e3)
  have:=shw_bd (k.run e1 e2) ht.1 (by omega)
  simp only[Rd.bd,inB_iff];omega
 ·obtain⟨_,_,t1,t2,e1,e2,e3,e4,e5,e6⟩:=k.gp g hg
  have q1:=k.tm t1 (List.mem_of_getElem? e1)
  have q2:=k.tm t2 (List.mem_of_getElem? e2)
  simp only[Gp.bd,within,Bool.and_eq_true,inB_iff];omega
 ·obtain⟨_,_,s,g,t,e1,e2,e3,e4⟩:=k.rd r hr
  have q1:=getl e1;have q2:=getl e3;have q3:=k.ls
  simp only[At.rdOk,At.ckB,At.evB,Bool.and_eq_true,inB_iff];omega
 ·obtain⟨_,_,t1,t2,e1,e2,e3,e4,e5,e6⟩:=k.gp g hg
  have q1:=getl e1;have q2:=getl e2
  simp only[At.gpOk,At.evB,Bool.and_eq_true,inB_iff];omega
 ·have:=k.cb c hc
  simp only[Ck.ord,Bool.and_eq_true,decide_eq_true_eq];omega
 ·obtain⟨_,_,t1,t2,e1,e2,e3,e4,e5,e6⟩:=k.gp g hg
  simp only[Gp.ord,decide_eq_true_eq];omega
 ·have:=k.cb c hc
  simp only[Ck.sm,Bool.and_eq_true,decide_eq_true_eq];omega
def timeF (tt:List Int)(e:Nat):Int:=tt.getD e 0
theorem timeF_at {tt:List Int}{e:Nat}{t:Int}(h:tt[e]? =some t):timeF tt e=t:=by unfold timeF;rw[List.getD_eq_getElem?_getD,h];rfl
theorem MkOk.tru {a:At}{ss gg tt:List Int}(k:MkOk a ss gg tt):Tru a (fun _=>true) (ss.zip gg) (timeF tt):=by
 have hm:=k.m
 have zp:∀{i:Nat} {s:Int × Int},(ss.zip gg)[i]? =some s→ss[i]? =some s.1∧gg[i]? =some s.2:=fun{i s} h=>by
  have:=List.getElem?_zip_eq_some.1 h
  exact this
 refine⟨by rw[List.length_zip,k.ls,k.lg,Nat.min_self],fun i s hs=>?_,?_,fun e he=>?_,fun g hg=>?_,fun j r hr _ s hs=>?_⟩
 ·obtain⟨h1,h2⟩:=zp hs
  have hi:=getl h1
  rw[k.ls] at hi
  have hc:a.cks[i]? =some a.cks[i]:=List.getElem?_eq_getElem hi
  obtain⟨q1,q2,q3,q4⟩:=k.ck i _ _ _ hc h1 h2
  exact RunOf.mk' hc q1 q2 q3 q4
 ·unfold timeF
  rw[List.getD_eq_getElem?_getD,List.getElem?_eq_none k.lt];rfl
 ·unfold timeF
  rw[List.getD_eq_getElem?_getD]
  cases h:tt[e]? with
  |none=>exact⟨Int.le_refl _,by show(0:Int)≤_;omega⟩
  |some t=>exact k.tm t (List.mem_of_getElem? h)
 ·obtain⟨_,_,t1,t2,e1,e2,e3,e4,e5,e6⟩:=k.gp g hg
  rw[timeF_at e1,timeF_at e2];exact⟨e3,e4⟩
 ·obtain⟨_,_,s',g,t,e1,e2,e3,e4⟩:=k.rd r (List.mem_of_getElem? hr)
  obtain⟨h1,h2⟩:=zp hs
  rw[e1] at h1;rw[e2] at h2
  cases h1;cases h2
  rw[timeF_at e3,e4]
end Go.Ab.Tryz
namespace Go.Ab.Tryz
open Go.Proofs
structure MkAt (h0 h:H)(p:Nat)(x:V)(T:Int)(a:At)(ss gg tt:List Int)(C R G S Ga Tm:V):Prop where
 s:h0.Sub h
 sp:SpAt h p x T
 at_:AtAt h C R G a
 as_:SlAt h S 1 (ss.map encI)
 ag:SlAt h Ga 1 (gg.map encI)
 am:SlAt h Tm 1 (tt.map encI)
 ok:MkOk a ss gg tt
 lt:(tt.length:Int)=a.evs
theorem rowsUp {a a':At}{ss gg tt ss' gg' tt':List Int}{j:Nat}{r:List V}(h0:updF (rowsM a ss gg tt) j (rowsM a ss gg tt j++[r]) 0=a'.cks.map encC)(h1:updF (rowsM a ss gg tt) j (rowsM a ss gg tt j++[r]) 1=a'.rds.map encR)(h2:updF (rowsM a ss gg tt) j (rowsM a ss gg tt j++[r]) 2=a'.gps.map encG)
  (h3:updF (rowsM a ss gg tt) j (rowsM a ss gg tt j++[r]) 3=ss'.map encI) (h4:updF (rowsM a ss gg tt) j (rowsM a ss gg tt j++[r]) 4=gg'.map encI) (h5:updF (rowsM a ss gg tt) j (rowsM a ss gg tt j++[r]) 5=tt'.map encI):∀i,i<6→updF (rowsM a ss gg tt) j (rowsM a ss gg tt j++[r]) i=rowsM a' ss' gg' tt' i:=fun i hi=>by
 rcases(by omega:i=0∨i=1∨i=2∨i=3∨i=4∨i=5) with rfl|rfl|rfl|rfl|rfl|rfl
 ·exact h0
 ·exact h1
 ·exact h2
 ·exact h3
 ·exact h4
 ·exact h5
theorem rows0 {a:At}{ss gg tt:List Int}{c:Ck}:∀i,i<6→updF (rowsM a ss gg tt) 0 (rowsM a ss gg tt 0++[encC c]) i=rowsM {a with cks:=a.cks++[c]} ss gg tt i:=rowsUp (by simp[updF,rowsM]) (by simp[updF,rowsM]) (by simp[updF,rowsM]) (by simp[updF,rowsM]) (by simp[updF,rowsM]) (by simp[updF,rowsM])
theorem rows1 {a:At}{ss gg tt:List Int}{c:Rd}:∀i,i<6→updF (rowsM a ss gg tt) 1 (rowsM a ss gg tt 1++[encR c]) i=rowsM {a with rds:=a.rds++[c]} ss gg tt i:=rowsUp (by simp[updF,rowsM]) (by simp[updF,rowsM]) (by simp[updF,rowsM]) (by simp[updF,rowsM]) (by simp[updF,rowsM]) (by simp[updF,rowsM])
theorem rows2 {a:At}{ss gg tt:List Int}{c:Gp}:∀i,i<6→updF (rowsM a ss gg tt) 2 (rowsM a ss gg tt 2++[encG c]) i=rowsM {a with gps:=a.gps++[c]} ss gg tt i:=rowsUp (by simp[updF,rowsM]) (by simp[updF,rowsM]) (by simp[updF,rowsM]) (by simp[updF,rowsM]) (by simp[updF,rowsM]) (by simp[updF,rowsM])
theorem rows3 {a:At}{ss gg tt:List Int}{c:Int}:∀i,i<6→updF (rowsM a ss gg tt) 3 (rowsM a ss gg tt 3++[encI c]) i=rowsM a (ss++[c]) gg tt i:=rowsUp (by simp[updF,rowsM]) (by simp[updF,rowsM]) (by simp[updF,rowsM]) (by simp[updF,rowsM]) (by simp[updF,rowsM]) (by simp[updF,rowsM])
theorem rows4 {a:At}{ss gg tt:List Int}{c:Int}:∀i,i<6→updF (rowsM a ss gg tt) 4 (rowsM a ss gg tt 4++[encI c]) i=rowsM a ss (gg++[c]) tt i:=rowsUp (by simp[updF,rowsM]) (by simp[updF,rowsM]) (by simp[updF,rowsM]) (by simp[updF,rowsM]) (by simp[updF,rowsM]) (by simp[updF,rowsM])
theorem rows5 {a:At}{ss gg tt:List Int}{c:Int}:∀i,i<6→updF (rowsM a ss gg tt) 5 (rowsM a ss gg tt 5++[encI c]) i=rowsM a ss gg (tt++[c]) i:=rowsUp (by simp[updF,rowsM]) (by simp[updF,rowsM]) (by simp[updF,rowsM]) (by simp[updF,rowsM]) (by simp[updF,rowsM]) (by simp[updF,rowsM])
theorem get_app1 {α:Type}{l:List α}{x y:α}{i:Nat}(h:(l++[x])[i]? =some y):l[i]? =some y∧i<l.length∨i=l.length∧y=x:=by
 rcases Nat.lt_or_ge i l.length with q|q
 ·rw[List.getElem?_append_left q] at h;exact .inl ⟨h,q⟩
 ·rw[List.getElem?_append_right q] at h
  have:i-l.length=0:=by
   cases hh:i-l.length with
   |zero=>rfl
   |succ n=>rw[hh] at h;simp at h
  rw[this] at h
  cases h
  exact .inr ⟨by omega,rfl⟩
theorem get_more {α:Type}{l:List α}{x y:α}{i:Nat}(h:l[i]? =some y):(l++[x])[i]? =some y:=by rw[List.getElem?_append_left (getl h)];exact h
theorem MkOk.clock {a:At}{ss gg tt:List Int}(k:MkOk a ss gg tt)(hl:a.cks.length+1≤2){sl sh gl gh st gn:Int}(h1:sl≤st∧st≤sh)(h2:gl≤gn∧gn≤gh)(h3: -60≤sl∧sh≤60∧sh-sl≤3)(h4: -30≤gl∧gh≤30∧gh-gl≤3):
  MkOk {a with cks:=a.cks++[⟨sl,sh,gl,gh⟩]} (ss++[st]) (gg++[gn]) tt:=by
 refine⟨k.m,k.e,by simp only[List.length_append,List.length_singleton];exact hl,k.rl,k.gl,by simp only[List.length_append,List.length_singleton,k.ls],by simp only[List.length_append,List.length_singleton,k.lg],k.lt,fun i c s g hc hs hg=>?_,fun c hc=>?_,k.tm,fun r hr=>?_,k.gp⟩
 ·have ls:=k.ls;have lg:=k.lg
  rcases get_app1 hc with⟨hc,q⟩|⟨q,rfl⟩
  ·rcases get_app1 hs with⟨hs,_⟩|⟨q2,_⟩
   ·rcases get_app1 hg with⟨hg,_⟩|⟨q3,_⟩
    ·exact k.ck i c s g hc hs hg
    ·omega
   ·omega
  ·rcases get_app1 hs with⟨_,q2⟩|⟨_,rfl⟩
   ·omega
   ·rcases get_app1 hg with⟨_,q3⟩|⟨_,rfl⟩
    ·omega
    ·exact⟨h1.1,h1.2,h2.1,h2.2⟩
 ·rcases List.mem_append.1 hc with hc|hc
  ·exact k.cb c hc
  ·rw[List.mem_singleton] at hc;subst hc
   exact⟨h3.1,h3.2.1,h4.1,h4.2.1,Int.le_trans h1.1 h1.2,Int.le_trans h2.1 h2.2,h3.2.2,h4.2.2⟩
 ·obtain⟨r1,r2,s,g,t,e1,e2,e3,e4⟩:=k.rd r hr
  exact⟨r1,r2,s,g,t,get_more e1,get_more e2,e3,e4⟩
theorem MkOk.read {a:At}{ss gg tt:List Int}(k:MkOk a ss gg tt)(hl:a.rds.length+1≤6){i e:Nat}{s g t:Int}(e1:ss[i]? =some s)(e2:gg[i]? =some g)(e3:tt[e]? =some t):MkOk {a with rds:=a.rds++[⟨i,e,shw s g t⟩]} ss gg tt:=by
 refine⟨k.m,k.e,k.cl,by simp only[List.length_append,List.length_singleton];exact hl,k.gl,k.ls,k.lg,k.lt,k.ck,k.cb,k.tm,fun r hr=>?_,k.gp⟩
 rcases List.mem_append.1 hr with hr|hr
 ·exact k.rd r hr
 ·rw[List.mem_singleton] at hr;subst hr
  exact⟨Int.natCast_nonneg _,Int.natCast_nonneg _,s,g,t,e1,e2,e3,rfl⟩
theorem MkOk.gap {a:At}{ss gg tt:List Int}(k:MkOk a ss gg tt)(hl:a.gps.length+1≤2){i e:Nat}{t1 t2 lo hi:Int}(e1:tt[i]? =some t1)(e2:tt[e]? =some t2)(h1:lo≤t2-t1∧t2-t1≤hi)(h2: -240≤lo∧hi≤240):MkOk {a with gps:=a.gps++[⟨i,e,lo,hi⟩]} ss gg tt:=by
 refine⟨k.m,k.e,k.cl,k.rl,by simp only[List.length_append,List.length_singleton];exact hl,k.ls,k.lg,k.lt,k.ck,k.cb,k.tm,k.rd,fun g hg=>?_⟩
 rcases List.mem_append.1 hg with hg|hg
 ·exact k.gp g hg
 ·rw[List.mem_singleton] at hg;subst hg
  exact⟨Int.natCast_nonneg _,Int.natCast_nonneg _,t1,t2,e1,e2,h1.1,h1.2,h2.1,h2.2⟩
theorem Mi.side {h0 z z5:H}{p:Nat}{x:V}{n1 c0:Nat}{a:At}{ss gg tt:List Int}{T:Int}{v:Nat→V}(k:Mi h0 p x n1 c0 a ss gg tt T v z)(hp:p<c0)(hn:c0+4=n1){b0:Nat}(hb:n1≤b0)(hne:∀i,i<6→∀b,blkOf (v i) b→b≠b0)(s:h0.Sub z5)(kk:Keeps (fun b=>b=b0) z z5):Mi h0 p x n1 c0 a ss gg tt T v z5:=
 ⟨s,k.sp.keep kk (by omega),⟨fun i hi=>(k.sl.o i hi).keep kk s fun b hb q=>hne i hi b hb q,k.sl.lo,k.sl.dj⟩,kk.2 _ _ k.ga (by omega),kk.2 _ _ k.gt (by omega),kk.2 _ _ k.g0 (by omega),kk.2 _ _ k.g1 (by omega),by have:=kk.1;have:=k.nx;omega⟩
structure FT (p c0:Nat)(K N:Int)(tm:T V):Prop where
 t0:(Opd.t 0).ev tm=.ptr p 0
 t3:(Opd.t 3).ev tm=.int .i64 K
 t4:(Opd.t 4).ev tm=.int .i64 N
 t10:(Opd.t 10).ev tm=.ptr c0 0
 t11:(Opd.t 11).ev tm=.ptr (c0+1) 0
 t12:(Opd.t 12).ev tm=.ptr (c0+2) 0
 t13:(Opd.t 13).ev tm=.ptr (c0+3) 0
structure MkOwn (h0 h:H)(p:Nat)(a:At)(C R G S Ga Tm:V):Prop where
 r:OwnC h0 h R 3 (a.rds.map encR)
 lo:∀b,blkOf R b→p<b
 dj:∀b,blkOf R b→¬blkOf C b∧¬blkOf G b∧¬blkOf S b∧¬blkOf Ga b∧¬blkOf Tm b
set_option maxHeartbeats 8000000 in
theorem Made2_ev {h0 h:H}{p:Nat}{x:V}{bs:List Int}{T:Int}(hs:h0.Sub h)(hw0:h0.wf)(hx:SlAt h0 x 1 (bs.map encU8))(hp0:h0.next≤p)(hp:SpAt h p x T)(hT:0≤T∧T≤10000000){M E K N:Int}(hM:1≤M∧M≤240)(hE:1≤E∧E≤4)(hK:0≤K∧K≤2)(hN:0≤N∧N≤6)(Q:V→H→Prop)
  (q:∀h' T' a ss gg tt C R G S Ga Tm,MkAt h0 h' p x T' a ss gg tt C R G S Ga Tm→MkOwn h0 h' p a C R G S Ga Tm→Q (.tup [.agg (atV a C R G),.agg [S,Ga,Tm]]) h'):Ev fnG fastA (.fn 14 [] []) [.ptr p 0,.int .i64 M,.int .i64 E,.int .i64 K,.int .i64 N] h Q:=by
 have hw:=hs.wf
 have l0:=hs.next
 have hlp:p<h.next:=by obtain⟨st,g⟩:=hp;exact hw _ _ g
 refine Ev_body (fd:=c14) rfl rfl rfl ?_
 have s1:h.Sub ((h.add (.cells .rw [.int .i64 0,.int .i64 0,.nils,.nils,.nils])).add (.cells .rw [.nils,.nils,.nils])):=(by repeat(first|assumption|exact H.Sub.refl (by assumption)|refine H.Sub.add ?_ _|refine H.Sub.set ?_ (by first|omega|(simp only[H.next_add,H.next_set,H.next_del]<;>omega)) (by first|omega|(simp only[H.next_add,H.next_set,H.next_del]<;>omega)) (by assumption) _))
 have a0:((h.add (.cells .rw [.int .i64 0,.int .i64 0,.nils,.nils,.nils])).add (.cells .rw [.nils,.nils,.nils])).get h.next=some (.cells .rw [.int .i64 0,.int .i64 0,.nils,.nils,.nils]):=by simp -implicitDefEqProofs(maxSteps:=999999)(disch:=first|with_reducible rfl|omega|(simp only[nA,nS,nD]<;>omega)|fail)only[go_sem]
 have a1:((h.add (.cells .rw [.int .i64 0,.int .i64 0,.nils,.nils,.nils])).add (.cells .rw [.nils,.nils,.nils])).get (h.next+1)=some (.cells .rw [.nils,.nils,.nils]):=by simp -implicitDefEqProofs(maxSteps:=999999)(disch:=first|with_reducible rfl|omega|(simp only[nA,nS,nD]<;>omega)|fail)only[go_sem]
 have n1:((h.add (.cells .rw [.int .i64 0,.int .i64 0,.nils,.nils,.nils])).add (.cells .rw [.nils,.nils,.nils])).next=h.next+2:=by simp only[H.next_add]
 simp -implicitDefEqProofs(maxSteps:=999999)(disch:=first|with_reducible rfl|omega|(simp only[nA,nS,nD]<;>omega)|fail)only[c14,go_sem]
 generalize(h.add (.cells .rw [.int .i64 0,.int .i64 0,.nils,.nils,.nils])).add (.cells .rw [.nils,.nils,.nils])=h1 at s1 a0 a1 n1⊢
 refine From_ev (hs.trans s1) hw0 hx hp0 (hp.mono s1) (by omega) (by omega) (by omega) _ fun mins h2 m0 m1 s2 p2 k2 n2=>?_
 simp -implicitDefEqProofs(maxSteps:=999999)(disch:=first|with_reducible rfl|omega|(simp only[nA,nS,nD]<;>omega)|fail)only[go_sem]
 refine From_ev s2 hw0 hx hp0 p2 (by omega) (by omega) (by omega) _ fun evs h3 v0 v1 s3 p3 k3 n3=>?_
 have b0:=k3.2 _ _ (k2.2 _ _ a0 (by omega)) (by omega)
 have b1:=k3.2 _ _ (k2.2 _ _ a1 (by omega)) (by omega)
 have n3':h3.next=h.next+2:=by omega
 have e2:h.next+2=h3.next:=n3'.symm
 obtain⟨c0,hc0⟩:∃c0,h.next=c0:=⟨_,rfl⟩
 have k0:Mi h0 p x (c0+4) c0 ⟨mins,evs,[],[],[]⟩ [] [] [] (T+2) (fun _=>.nils) ((h3.add (.cells .rw [.int .i64 mins,.int .i64 evs,.nils,.nils,.nils])).add (.cells .rw [.nils,.nils,.nils])):=by
  have s5:h3.Sub ((h3.add (.cells .rw [.int .i64 mins,.int .i64 evs,.nils,.nils,.nils])).add (.cells .rw [.nils,.nils,.nils])):=((H.Sub.refl s3.wf).add _).add _
  have p3':=p3.mono s5
  rw[show T+1+1=T+2 by omega] at p3'
  refine⟨s3.trans s5,p3',⟨fun i hi=>?_,fun i hi b hb=>(blkOf_nils hb).elim,fun i j _ _ _ b hb=>(blkOf_nils hb).elim⟩,?_,?_,?_,?_,by simp only[H.next_add];omega⟩
  ·have:rowsM ⟨mins,evs,[],[],[]⟩ [] [] [] i=[]:=by rcases(by omega:i=0∨i=1∨i=2∨i=3∨i=4∨i=5) with rfl|rfl|rfl|rfl|rfl|rfl<;>rfl
   rw[this];exact(OwnSl.nil (s3.trans s5) _).c
  ·rw[get_add_old (by rw[H.next_add];omega),get_add_new (by omega)]
  ·rw[get_add_new (by rw[H.next_add];omega)]
  ·rw[←hc0];exact s5.get b0
  ·rw[←hc0];exact s5.get b1
 have hlp0:p<c0:=by omega
 have l00:h0.next≤c0:=by omega
 simp -implicitDefEqProofs(maxSteps:=999999)(disch:=first|with_reducible rfl|omega|(simp only[nA,nS,nD]<;>omega)|fail)only[go_sem]
 generalize(h3.add (.cells .rw [.int .i64 mins,.int .i64 evs,.nils,.nils,.nils])).add (.cells .rw [.nils,.nils,.nils])=h4 at k0⊢
 rw[n3',hc0,show c0+2+1=c0+3 from rfl]
 obtain⟨ev,hev⟩:∃ev:Nat,evs=ev:=⟨evs.toNat,by omega⟩
 subst hev
 refine W_count ev (fun i s=>∃tm z v tt T',s=⟨tm,z,[]⟩∧Mi h0 p x (c0+4) c0 ⟨mins,ev,[],[],[]⟩ [] [] tt T' v z∧tt.length=i∧(∀t∈tt,0≤t∧t≤mins)∧(0≤T'∧T'≤T+2+i)∧FT p c0 K N tm∧(Opd.t 26).ev tm=.int .i64 (ev:Int)∧(Opd.t 27).ev tm=.int .i64 (i:Int)) ?_ ?_ (i:=0) (Nat.zero_le _)
  ⟨_,_,_,[],_,rfl,k0,rfl,fun t ht=>absurd ht List.not_mem_nil,by omega,⟨(by simp[ev_c,ev_put]<;>rfl),(by simp[ev_c,ev_put]<;>rfl),(by simp[ev_c,ev_put]<;>rfl),(by simp[ev_c,ev_put]<;>rfl),(by simp[ev_c,ev_put]<;>rfl),(by simp[ev_c,ev_put]<;>rfl),(by simp[ev_c,ev_put]<;>rfl)⟩,(by simp[ev_c,ev_put]<;>rfl),(by simp[ev_c,ev_put]<;>rfl)⟩
 ·rintro i s hi ⟨tm,z,v,tt,T',rfl,k,lt,ht,hT',⟨e0,e3,e4,e10,e11,e12,e13⟩,e26,e27⟩
  have hi':(i:Int)<(ev:Int):=by omega
  have lz:=k.nx
  simp -implicitDefEqProofs(maxSteps:=999999)(disch:=first|with_reducible rfl|omega|(simp only[nA,nS,nD]<;>omega)|fail)only[go_sem,e0,e12,e13,e26,e27,hi',cells_of k.ga,cells_of k.gt]
  refine Upto_ev k.s hw0 hx hp0 k.sp (by omega) (by omega) _ fun r z1 r0 r1 u1 p1 q1 nn1=>?_
  have k1:=k.turn hlp0 rfl u1 p1 q1
  have u2:=(H.Sub.refl u1.wf).add (.cells .rw [.int .i64 r])
  have k2:=k1.mono u2
  have o2:=k2.sl.o 5 (by decide)
  have ov3:=(k2.sl.o 3 (by decide)).one
  have ov4:=(k2.sl.o 4 (by decide)).one
  have sn:SlAt (z1.add (.cells .rw [.int .i64 r])) (.sl z1.next 0 1 (.fix 1)) 1 [encI r]:=SlAt.new _ rfl rfl rfl (by simp[encI]) (by simp)
  have lr:(rowsM ⟨mins,ev,[],[],[]⟩ [] [] tt 5).length≤4:=by show(tt.map encI).length≤4;rw[List.length_map];omega
  simp -implicitDefEqProofs(maxSteps:=999999)(disch:=first|with_reducible rfl|omega|(simp only[nA,nS,nD]<;>omega)|fail)only[go_sem,e0,e12,e13,e26,e27,cells_of k.ga,cells_of k.gt,cells_of k1.ga,cells_of k1.gt]
  generalize z1.add (.cells .rw [.int .i64 r])=z2 at u2 k2 o2 sn⊢
  refine o2.app1 (by_:=8) (r:=encI r) hw0 rfl (by decide) sn rfl (by omega) (by omega) fun w z5 o5 n5 k5=>?_
  have ow:=o5.one
  have nb:¬blkOf (v 5) (c0+3):=fun hb=>by have:=k2.sl.lo 5 (by decide) _ hb;omega
  have g5:=k5.2 _ _ k2.gt nb
  have km:=k2.putT hw0 hlp0 rfl l00 k5 (fun b hb=>k2.sl.lo 5 (by decide) b hb) ((k2.sl.app (by decide) o5 n5 k2.nx k5).rw rows5) rfl rfl rfl
  simp -implicitDefEqProofs(maxSteps:=999999)(disch:=first|with_reducible rfl|omega|(simp only[nA,nS,nD]<;>omega)|fail)only[go_sem,e0,e12,e13,e26,e27,g5,ow,cells_one ow,wr_succ,cells_of k.ga,cells_of k1.ga,cells_of k2.ga,cells_of k.gt,cells_of k1.gt,cells_of k2.gt,cells_of g5]
  exact⟨_,_,_,tt++[r],T'+1,rfl,km,by rw[List.length_append,List.length_singleton];omega,fun t h=>(List.mem_append.1 h).elim (ht t) fun h=>by rw[List.mem_singleton] at h;subst h;omega,by omega,⟨(by simp[ev_c,ev_put,e0]<;>rfl),(by simp[ev_c,ev_put,e3]<;>rfl),(by simp[ev_c,ev_put,e4]<;>rfl),(by simp[ev_c,ev_put,e10]<;>rfl),(by simp[ev_c,ev_put,e11]<;>rfl),(by simp[ev_c,ev_put,e12]<;>rfl),(by simp[ev_c,ev_put,e13]<;>rfl)⟩,(by simp[ev_c,ev_put,e26]<;>rfl),(by simp[ev_c,ev_put]<;>rfl)⟩
 ·rintro s ⟨tm,z,v,tt,T',rfl,k,lt,ht,hT',⟨e0,e3,e4,e10,e11,e12,e13⟩,e26,e27⟩
  have hi':¬((ev:Int)<(ev:Int)):=by omega
  simp -implicitDefEqProofs(maxSteps:=999999)(disch:=first|with_reducible rfl|omega|(simp only[nA,nS,nD]<;>omega)|fail)only[go_sem,e0,e3,e4,e10,e11,e12,e13,e26,e27,hi']
  have lte:tt.length≤4:=by omega
  have rt:(tt.length:Int)=ev:=by omega
  refine Upto_ev k.s hw0 hx hp0 k.sp (by omega) (by omega) _ fun nc z1 c0' c1' u1 p1 q1 nn1=>?_
  obtain⟨nk,hnk⟩:∃nk:Nat,nc=nk:=⟨nc.toNat,by omega⟩
  subst hnk
  have k:=k.turn hlp0 rfl u1 p1 q1
  have mk:MkOk ⟨mins,ev,[],[],[]⟩ [] [] tt:=⟨by show 1≤mins∧mins≤240;omega,by show 1≤(ev:Int)∧(ev:Int)≤4;omega,Nat.zero_le _,Nat.zero_le _,Nat.zero_le _,rfl,rfl,lte,fun k c s g h=>by simp at h,fun c h=>absurd h List.not_mem_nil,ht,fun r h=>absurd h List.not_mem_nil,fun g h=>absurd h List.not_mem_nil⟩
  simp -implicitDefEqProofs(maxSteps:=999999)(disch:=first|with_reducible rfl|omega|(simp only[nA,nS,nD]<;>omega)|fail)only[go_sem,e0,e3,e4,e10,e11,e12,e13]
  refine W_count nk (fun i s=>∃tm z v a ss gg T',s=⟨tm,z,[]⟩∧Mi h0 p x (c0+4) c0 a ss gg tt T' v z∧MkOk a ss gg tt∧a.mins=mins∧a.evs=ev∧a.cks.length=i∧a.rds=[]∧a.gps=[]∧(0≤T'∧T'≤T+20+10*i)∧FT p c0 K N tm∧(Opd.t 41).ev tm=.int .i64 (nk:Int)∧(Opd.t 42).ev tm=.int .i64 (i:Int)) ?_ ?_ (i:=0) (Nat.zero_le _)
   ⟨_,_,_,_,[],[],_,rfl,k,mk,rfl,rfl,rfl,rfl,rfl,by omega,⟨(by simp[ev_c,ev_put,e0]<;>rfl),(by simp[ev_c,ev_put,e3]<;>rfl),(by simp[ev_c,ev_put,e4]<;>rfl),(by simp[ev_c,ev_put,e10]<;>rfl),(by simp[ev_c,ev_put,e11]<;>rfl),(by simp[ev_c,ev_put,e12]<;>rfl),(by simp[ev_c,ev_put,e13]<;>rfl)⟩,(by simp[ev_c,ev_put]<;>rfl),(by simp[ev_c,ev_put]<;>rfl)⟩
  ·clear mk k
   rintro i s hi ⟨tm,z,v,a,ss,gg,T',rfl,k,mk,am,ae,la,ar,ag,hT',⟨e0,e3,e4,e10,e11,e12,e13⟩,e41,e42⟩
   have hi':(i:Int)<(nk:Int):=by omega
   simp -implicitDefEqProofs(maxSteps:=999999)(disch:=first|with_reducible rfl|omega|(simp only[nA,nS,nD]<;>omega)|fail)only[go_sem,e0,e12,e13,e41,e42,hi']
   refine From_ev k.s hw0 hx hp0 k.sp (by omega) (by omega) (by omega) _ fun st za sa0 sa1 ua pa qa _=>?_
   have ka:=k.turn hlp0 rfl ua pa qa
   simp -implicitDefEqProofs(maxSteps:=999999)(disch:=first|with_reducible rfl|omega|(simp only[nA,nS,nD]<;>omega)|fail)only[go_sem,e0,e12,e13,e41,e42]
   refine From_ev ka.s hw0 hx hp0 ka.sp (by omega) (by omega) (by omega) _ fun gn zb gb0 gb1 ub pb qb _=>?_
   have kb:=ka.turn hlp0 rfl ub pb qb
   simp -implicitDefEqProofs(maxSteps:=999999)(disch:=first|with_reducible rfl|omega|(simp only[nA,nS,nD]<;>omega)|fail)only[go_sem,e0,e12,e13,e41,e42,cells_of kb.ga,cells_of kb.gt]
   refine around_ev kb.s hw0 hx hp0 kb.sp (by omega) (by omega) (by omega) (by omega) _ fun sl sh zc r1 r2 r3 r4 r5 uc pc qc=>?_
   have kc:=kb.turn hlp0 rfl uc pc qc
   simp -implicitDefEqProofs(maxSteps:=999999)(disch:=first|with_reducible rfl|omega|(simp only[nA,nS,nD]<;>omega)|fail)only[go_sem,e0,e12,e13,e41,e42,cells_of kb.ga,cells_of kb.gt,cells_of kc.ga,cells_of kc.gt]
   refine around_ev kc.s hw0 hx hp0 kc.sp (by omega) (by omega) (by omega) (by omega) _ fun gl gh zd y1 y2 y3 y4 y5 ud pd qd=>?_
   have kd:=kc.turn hlp0 rfl ud pd qd
   have ue:=(H.Sub.refl ud.wf).add (.cells .rw [.int .i64 sl,.int .i64 sh,.int .i64 gl,.int .i64 gh])
   have ke:=kd.mono ue
   have o0:=ke.sl.o 0 (by decide)
   have sn:SlAt (zd.add (.cells .rw [.int .i64 sl,.int .i64 sh,.int .i64 gl,.int .i64 gh])) (.sl zd.next 0 1 (.fix 1)) 4 [encC ⟨sl,sh,gl,gh⟩]:=SlAt.new _ rfl rfl rfl (by simp[encC]) (by simp)
   have hcl:=mk.cl
   have lr:(rowsM a ss gg tt 0).length≤2:=by show(a.cks.map encC).length≤2;rw[List.length_map];omega
   simp -implicitDefEqProofs(maxSteps:=999999)(disch:=first|with_reducible rfl|omega|(simp only[nA,nS,nD]<;>omega)|fail)only[go_sem,e0,e12,e13,e41,e42,cells_of kb.ga,cells_of kb.gt,cells_of kc.ga,cells_of kc.gt,cells_of kd.ga,cells_of kd.gt]
   generalize zd.add (.cells .rw [.int .i64 sl,.int .i64 sh,.int .i64 gl,.int .i64 gh])=ze at ue ke o0 sn⊢
   refine o0.app1 (by_:=32) (r:=encC ⟨sl,sh,gl,gh⟩) hw0 rfl (by decide) sn rfl (by omega) (by omega) fun w zf of nf kf=>?_
   have ow:=of.one
   have nb:¬blkOf (v 0) (c0+2):=fun hb=>by have:=ke.sl.lo 0 (by decide) _ hb;omega
   have nb3:¬blkOf (v 0) (c0+3):=fun hb=>by have:=ke.sl.lo 0 (by decide) _ hb;omega
   have gf:=kf.2 _ _ ke.ga nb
   have gf3:=kf.2 _ _ ke.gt nb3
   have kg:=ke.putA (a':={a with cks:=a.cks++[⟨sl,sh,gl,gh⟩]}) hw0 hlp0 rfl l00 kf (fun b hb=>ke.sl.lo 0 (by decide) b hb) ((ke.sl.app (by decide) of nf ke.nx kf).rw rows0) rfl rfl rfl rfl rfl
   simp -implicitDefEqProofs(maxSteps:=999999)(disch:=first|with_reducible rfl|omega|(simp only[nA,nS,nD]<;>omega)|fail)only[go_sem,e0,e12,e13,e41,e42,gf,ow,cells_one ow,cells_of kb.ga,cells_of kb.gt,cells_of kc.ga,cells_of kc.gt,cells_of kd.ga,cells_of kd.gt,cells_of ke.ga,cells_of gf,cells_of gf3]
   have nzg:(zf.set (c0+2) (.cells .rw [.int .i64 a.mins,.int .i64 a.evs,w,v 1,v 2])).next=zf.next:=H.next_set _ _ _
   have kg':Mi h0 p x (c0+4) c0 {a with cks:=a.cks++[⟨sl,sh,gl,gh⟩]} ss gg tt (T'+1+1+2+2) (updF v 0 w) (zf.set (c0+2) (.cells .rw [.int .i64 a.mins,.int .i64 a.evs,w,v 1,v 2])):=kg
   generalize zf.set (c0+2) (.cells .rw [.int .i64 a.mins,.int .i64 a.evs,w,v 1,v 2])=zg at kg' nzg⊢
   have uh:=(H.Sub.refl kg'.s.wf).add (.cells .rw [.int .i64 st])
   have kh:=kg'.mono uh
   have o3:OwnC h0 (zg.add (.cells .rw [.int .i64 st])) (v 3) 1 (ss.map encI):=kh.sl.o 3 (by decide)
   have lss:ss.length≤2:=by rw[mk.ls];exact hcl
   have lgg:gg.length≤2:=by rw[mk.lg];exact hcl
   have sn3:SlAt (zg.add (.cells .rw [.int .i64 st])) (.sl zf.next 0 1 (.fix 1)) 1 [encI st]:=SlAt.new _ nzg.symm rfl rfl (by simp[encI]) (by simp)
   have gg1:zg.get (c0+3)=some (.cells .rw [v 3,v 4,v 5]):=kg'.gt
   have gh1:(zg.add (.cells .rw [.int .i64 st])).get (c0+3)=some (.cells .rw [v 3,v 4,v 5]):=kh.gt
   generalize zg.add (.cells .rw [.int .i64 st])=zh at uh kh o3 sn3 gh1⊢
   refine o3.app1 (by_:=8) (r:=encI st) hw0 rfl (by decide) sn3 rfl (by rw[List.length_map];omega) (by rw[List.length_map];omega) fun w3 zi oi ni ki=>?_
   have ow3:=oi.one
   have nb4:¬blkOf (v 3) (c0+3):=fun hb=>by have:=kh.sl.lo 3 (by decide) _ hb;omega
   have gi:=ki.2 _ _ gh1 nb4
   have sl3:=(kh.sl.app (i:=3) (by decide) oi ni kh.nx ki).rw rows3
   have uj:=(H.Sub.refl oi.1.wf).add (.cells .rw [.int .i64 gn])
   have sl3j:=sl3.mono uj
   have o4:OwnC h0 (zi.add (.cells .rw [.int .i64 gn])) (v 4) 1 (gg.map encI):=sl3j.o 4 (by decide)
   have sn4:SlAt (zi.add (.cells .rw [.int .i64 gn])) (.sl zi.next 0 1 (.fix 1)) 1 [encI gn]:=SlAt.new _ rfl rfl rfl (by simp[encI]) (by simp)
   have gj:=uj.get gi
   have lj:=uj.next
   have li:=ki.1
   have lh:=kh.nx
   simp -implicitDefEqProofs(maxSteps:=999999)(disch:=first|with_reducible rfl|omega|(simp only[nA,nS,nD]<;>omega)|fail)only[go_sem,e0,e12,e13,e41,e42,cells_of gg1,cells_of gh1,cells_of gi]
   generalize zi.add (.cells .rw [.int .i64 gn])=zj at uj sl3j o4 sn4 gj lj⊢
   refine o4.app1 (by_:=8) (r:=encI gn) hw0 rfl (by decide) sn4 rfl (by rw[List.length_map];omega) (by rw[List.length_map];omega) fun w4 zk ok nk4 kk=>?_
   have ow4:=ok.one
   have ov5:=(sl3j.o 5 (by decide)).one
   have nb5:¬blkOf (v 4) (c0+3):=fun hb=>by have:=kh.sl.lo 4 (by decide) _ hb;omega
   have gk:=kk.2 _ _ gj nb5
   have sl4:=(sl3j.app (i:=4) (by decide) ok nk4 (by omega) kk).rw rows4
   have kq:Keeps (fun b=>blkOf (v 3) b∨blkOf (v 4) b) zh zk:=((ki.trans (Keeps.of uj (fun _=>False))).trans kk).mono fun b hb=>hb.elim (fun hb=>hb.elim .inl False.elim) .inr
   have km:=kh.putT hw0 hlp0 rfl l00 kq (fun b hb=>hb.elim (kh.sl.lo 3 (by decide) b) (kh.sl.lo 4 (by decide) b)) sl4 rfl rfl rfl
   simp -implicitDefEqProofs(maxSteps:=999999)(disch:=first|with_reducible rfl|omega|(simp only[nA,nS,nD]<;>omega)|fail)only[go_sem,e0,e12,e13,e41,e42,ow3,cells_one ow3,ow4,cells_one ow4,gk,cells_of gg1,cells_of gh1,cells_of gi,cells_of gj,cells_of gk,wr_succ]
   refine⟨_,_,_,_,_,_,_,rfl,km,mk.clock (by omega) ⟨r1,r2⟩ ⟨y1,y2⟩ ⟨r3,r4,r5⟩ ⟨y3,y4,y5⟩,am,ae,by simp only[List.length_append,List.length_singleton];omega,ar,ag,by omega,⟨(by simp[ev_c,ev_put,e0]<;>rfl),(by simp[ev_c,ev_put,e3]<;>rfl),(by simp[ev_c,ev_put,e4]<;>rfl),(by simp[ev_c,ev_put,e10]<;>rfl),(by simp[ev_c,ev_put,e11]<;>rfl),(by simp[ev_c,ev_put,e12]<;>rfl),(by simp[ev_c,ev_put,e13]<;>rfl)⟩,(by simp[ev_c,ev_put,e41]<;>rfl),(by simp[ev_c,ev_put]<;>rfl)⟩
  ·clear mk k
   rintro s ⟨tm,z,v,a,ss,gg,T',rfl,k,mk,am,ae,la,ar,ag,hT',⟨e0,e3,e4,e10,e11,e12,e13⟩,e41,e42⟩
   have hi':¬((nk:Int)<(nk:Int)):=by omega
   simp -implicitDefEqProofs(maxSteps:=999999)(disch:=first|with_reducible rfl|omega|(simp only[nA,nS,nD]<;>omega)|fail)only[go_sem,e0,e3,e4,e10,e11,e12,e13,e41,e42,hi']
   refine Upto_ev k.s hw0 hx hp0 k.sp (by omega) (by omega) _ fun nr z1 nr0 nr1 u1 p1 q1 nn1=>?_
   obtain⟨kr,hkr⟩:∃kr:Nat,nr=kr:=⟨nr.toNat,by omega⟩
   subst hkr
   have k:=k.turn hlp0 rfl u1 p1 q1
   simp -implicitDefEqProofs(maxSteps:=999999)(disch:=first|with_reducible rfl|omega|(simp only[nA,nS,nD]<;>omega)|fail)only[go_sem,e0,e3,e4,e10,e11,e12,e13]
   refine W_count kr (fun i s=>∃tm z v a T',s=⟨tm,z,[]⟩∧Mi h0 p x (c0+4) c0 a ss gg tt T' v z∧MkOk a ss gg tt∧a.mins=mins∧a.evs=ev∧a.rds.length≤i∧a.gps=[]∧(0≤T'∧T'≤T+100+10*i)∧FT p c0 K N tm∧(Opd.t 75).ev tm=.int .i64 (kr:Int)∧(Opd.t 76).ev tm=.int .i64 (i:Int)) ?_ ?_ (i:=0) (Nat.zero_le _)
    ⟨_,_,_,_,_,rfl,k,mk,am,ae,by rw[ar];exact Nat.zero_le _,ag,by omega,⟨(by simp[ev_c,ev_put,e0]<;>rfl),(by simp[ev_c,ev_put,e3]<;>rfl),(by simp[ev_c,ev_put,e4]<;>rfl),(by simp[ev_c,ev_put,e10]<;>rfl),(by simp[ev_c,ev_put,e11]<;>rfl),(by simp[ev_c,ev_put,e12]<;>rfl),(by simp[ev_c,ev_put,e13]<;>rfl)⟩,(by simp[ev_c,ev_put]<;>rfl),(by simp[ev_c,ev_put]<;>rfl)⟩
   ·clear mk k am ae ar ag la
    rintro i s hi ⟨tm,z,v,a,T',rfl,k,mk,am,ae,la,ag,hT',⟨e0,e3,e4,e10,e11,e12,e13⟩,e75,e76⟩
    have hi':(i:Int)<(kr:Int):=by omega
    have oC:=k.sl.o 0 (by decide)
    have hlC:q_len (v 0)=some (.int .i64 (a.cks.length:Int)):=(oC.sl (by show(a.cks.map encC).length≤_;rw[List.length_map];have:=mk.cl;omega)).lenE
    by_cases h0c:a.cks.length=0
    ·have hc':¬(0:Int)<(a.cks.length:Int):=by omega
     simp -implicitDefEqProofs(maxSteps:=999999)(disch:=first|with_reducible rfl|omega|(simp only[nA,nS,nD]<;>omega)|fail)only[go_sem,e0,e12,e13,e75,e76,hi',cells_of k.ga,hlC,hc',wr_succ]
     exact⟨_,_,_,_,_,rfl,k,mk,am,ae,by omega,ag,by omega,⟨(by simp[ev_c,ev_put,e0]<;>rfl),(by simp[ev_c,ev_put,e3]<;>rfl),(by simp[ev_c,ev_put,e4]<;>rfl),(by simp[ev_c,ev_put,e10]<;>rfl),(by simp[ev_c,ev_put,e11]<;>rfl),(by simp[ev_c,ev_put,e12]<;>rfl),(by simp[ev_c,ev_put,e13]<;>rfl)⟩,(by simp[ev_c,ev_put,e75]<;>rfl),(by simp[ev_c,ev_put]<;>rfl)⟩
    have hc':(0:Int)<(a.cks.length:Int):=by omega
    have hcl:=mk.cl
    have wc:wr .i64 ((a.cks.length:Int)-1)=(a.cks.length:Int)-1:=wr_in (by omega) (by omega)
    have we:wr .i64 (a.evs-1)=a.evs-1:=wr_in (by omega) (by omega)
    simp -implicitDefEqProofs(maxSteps:=999999)(disch:=first|with_reducible rfl|omega|(simp only[nA,nS,nD]<;>omega)|fail)only[go_sem,e0,e12,e13,e75,e76,hi',cells_of k.ga,hlC,hc',wc]
    refine Upto_ev k.s hw0 hx hp0 k.sp (by omega) (by omega) _ fun ik za ia0 ia1 ua pa qa _=>?_
    have ka:=k.turn hlp0 rfl ua pa qa
    simp -implicitDefEqProofs(maxSteps:=999999)(disch:=first|with_reducible rfl|omega|(simp only[nA,nS,nD]<;>omega)|fail)only[go_sem,e0,e12,e13,e75,e76,cells_of k.ga,cells_of ka.ga,we]
    refine Upto_ev ka.s hw0 hx hp0 ka.sp (by omega) (by omega) _ fun ie zb ib0 ib1 ub pb qb _=>?_
    have kb:=ka.turn hlp0 rfl ub pb qb
    obtain⟨jk,hjk⟩:∃jk:Nat,ik=jk:=⟨ik.toNat,by omega⟩
    obtain⟨je,hje⟩:∃je:Nat,ie=je:=⟨ie.toNat,by omega⟩
    subst hjk;subst hje
    have lss:=mk.ls
    have lgg:=mk.lg
    have hjs:jk<ss.length:=by omega
    have hjg:jk<gg.length:=by omega
    have hjt:je<tt.length:=by omega
    have uc:=(H.Sub.refl ub.wf).add (.cells .rw [.int .i64 (jk:Int),.int .i64 (je:Int),.int .i64 0])
    have kc:=kb.mono uc
    have g16:(zb.add (.cells .rw [.int .i64 (jk:Int),.int .i64 (je:Int),.int .i64 0])).get zb.next=some (.cells .rw [.int .i64 (jk:Int),.int .i64 (je:Int),.int .i64 0]):=get_add_new rfl
    have nzc:=H.next_add zb (.cells .rw [.int .i64 (jk:Int),.int .i64 (je:Int),.int .i64 0])
    obtain⟨zc,hzc⟩:∃zc,zb.add (.cells .rw [.int .i64 (jk:Int),.int .i64 (je:Int),.int .i64 0])=zc:=⟨_,rfl⟩
    rw[hzc] at uc kc g16 nzc
    have xs:SlAt zc (v 3) 1 (ss.map encI):=(kc.sl.o 3 (by decide)).sl (by show(ss.map encI).length≤_;rw[List.length_map];omega)
    have xg:SlAt zc (v 4) 1 (gg.map encI):=(kc.sl.o 4 (by decide)).sl (by show(gg.map encI).length≤_;rw[List.length_map];omega)
    have xt:SlAt zc (v 5) 1 (tt.map encI):=(kc.sl.o 5 (by decide)).sl (by show(tt.map encI).length≤_;rw[List.length_map];omega)
    obtain⟨bs3,os3,cs3,rs3,es3,hs3,qs3,_,_,ns3⟩:=xs.at hjs
    obtain⟨bs4,os4,cs4,rs4,es4,hs4,qs4,_,_,ns4⟩:=xg.at hjg
    obtain⟨bs5,os5,cs5,rs5,es5,hs5,qs5,_,_,ns5⟩:=xt.at hjt
    have v3:=ns3 (by decide)
    have v4:=ns4 (by decide)
    have v5:=ns5 (by decide)
    simp only[encI,List.getElem?_cons_zero] at v3 v4 v5
    have i3:ss[jk]? =some ss[jk]:=List.getElem?_eq_getElem hjs
    have i4:gg[jk]? =some gg[jk]:=List.getElem?_eq_getElem hjg
    have i5:tt[je]? =some tt[je]:=List.getElem?_eq_getElem hjt
    have hrun:=mk.run i3 i4
    have htm:=mk.tm _ (List.getElem_mem hjt)
    generalize ss[jk]=sv at v3 i3 hrun
    generalize gg[jk]=gv at v4 i4 hrun
    generalize tt[je]=tv at v5 i5 htm
    simp -implicitDefEqProofs(maxSteps:=999999)(disch:=first|with_reducible rfl|omega|(simp only[nA,nS,nD]<;>omega)|fail)only[go_sem,e0,e12,e13,e75,e76,cells_of k.ga,cells_of ka.ga,cells_of kb.ga,hzc,cells_of kc.gt,cells_of g16,qs3 (nat_cst jk),qs4 (nat_cst jk),qs5 (nat_cst je),hs3,hs4,hs5,v3,v4,v5]
    refine lshows_ev kc.s.wf hrun htm.1 (by omega) _ ?_
    subst hzc
    have ud:=(H.Sub.refl ub.wf).add (.cells .rw [.int .i64 (jk:Int),.int .i64 (je:Int),.int .i64 (shw sv gv tv)])
    have kd:=kb.mono ud
    have gd16:(zb.add (.cells .rw [.int .i64 (jk:Int),.int .i64 (je:Int),.int .i64 (shw sv gv tv)])).get zb.next=some (.cells .rw [.int .i64 (jk:Int),.int .i64 (je:Int),.int .i64 (shw sv gv tv)]):=get_add_new rfl
    have nzd:=H.next_add zb (.cells .rw [.int .i64 (jk:Int),.int .i64 (je:Int),.int .i64 (shw sv gv tv)])
    simp -implicitDefEqProofs(maxSteps:=999999)(disch:=first|with_reducible rfl|omega|(simp only[nA,nS,nD]<;>omega)|fail)only[go_sem,e0,e12,e13,e75,e76,cells_of kc.gt,cells_of g16,g16,qs3 (nat_cst jk),qs4 (nat_cst jk),qs5 (nat_cst je),hs3,hs4,hs5,v3,v4,v5,cells_of kd.ga,cells_of gd16]
    generalize zb.add (.cells .rw [.int .i64 (jk:Int),.int .i64 (je:Int),.int .i64 (shw sv gv tv)])=zd at ud kd gd16 nzd⊢
    have ue:=(H.Sub.refl ud.wf).add (.cells .rw [.int .i64 (jk:Int),.int .i64 (je:Int),.int .i64 (shw sv gv tv)])
    have ke:=kd.mono ue
    have o1:=ke.sl.o 1 (by decide)
    have sn:SlAt (zd.add (.cells .rw [.int .i64 (jk:Int),.int .i64 (je:Int),.int .i64 (shw sv gv tv)])) (.sl zd.next 0 1 (.fix 1)) 3 [encR ⟨jk,je,shw sv gv tv⟩]:=SlAt.new _ rfl rfl rfl (by simp[encR]) (by simp)
    rw[nzd] at sn
    have hrl:=mk.rl
    have lr:(rowsM a ss gg tt 1).length≤6:=by show(a.rds.map encR).length≤6;rw[List.length_map];omega
    skip
    generalize zd.add (.cells .rw [.int .i64 (jk:Int),.int .i64 (je:Int),.int .i64 (shw sv gv tv)])=ze at ue ke o1 sn⊢
    refine o1.app1 (by_:=24) (r:=encR ⟨jk,je,shw sv gv tv⟩) hw0 rfl (by decide) sn rfl (by omega) (by omega) fun w zf of nf kf=>?_
    have ow:=of.one
    have nb:¬blkOf (v 1) (c0+2):=fun hb=>by have:=ke.sl.lo 1 (by decide) _ hb;omega
    have gf:=kf.2 _ _ ke.ga nb
    have kg:=ke.putA (a':={a with rds:=a.rds++[⟨jk,je,shw sv gv tv⟩]}) hw0 hlp0 rfl l00 kf (fun b hb=>ke.sl.lo 1 (by decide) b hb) ((ke.sl.app (by decide) of nf ke.nx kf).rw rows1) rfl rfl rfl rfl rfl
    simp -implicitDefEqProofs(maxSteps:=999999)(disch:=first|with_reducible rfl|omega|(simp only[nA,nS,nD]<;>omega)|fail)only[go_sem,e0,e12,e13,e75,e76,gf,ow,cells_one ow,cells_of kd.ga,cells_of ke.ga,wr_succ]
    exact⟨_,_,_,_,_,rfl,kg,mk.read (by omega) i3 i4 i5,am,ae,by simp only[List.length_append,List.length_singleton];omega,ag,by omega,⟨(by simp[ev_c,ev_put,e0]<;>rfl),(by simp[ev_c,ev_put,e3]<;>rfl),(by simp[ev_c,ev_put,e4]<;>rfl),(by simp[ev_c,ev_put,e10]<;>rfl),(by simp[ev_c,ev_put,e11]<;>rfl),(by simp[ev_c,ev_put,e12]<;>rfl),(by simp[ev_c,ev_put,e13]<;>rfl)⟩,(by simp[ev_c,ev_put,e75]<;>rfl),(by simp[ev_c,ev_put]<;>rfl)⟩
   ·clear mk k am ae ar ag la
    rintro s ⟨tm,z,v,a,T',rfl,k,mk,am,ae,la,ag,hT',⟨e0,e3,e4,e10,e11,e12,e13⟩,e75,e76⟩
    have hi':¬((kr:Int)<(kr:Int)):=by omega
    simp -implicitDefEqProofs(maxSteps:=999999)(disch:=first|with_reducible rfl|omega|(simp only[nA,nS,nD]<;>omega)|fail)only[go_sem,e0,e3,e4,e10,e11,e12,e13,e75,e76,hi']
    refine Upto_ev k.s hw0 hx hp0 k.sp (by omega) (by omega) _ fun nr z1 ng0 ng1 u1 p1 q1 nn1=>?_
    obtain⟨kn,hkn⟩:∃kn:Nat,nr=kn:=⟨nr.toNat,by omega⟩
    subst hkn
    have k:=k.turn hlp0 rfl u1 p1 q1
    simp -implicitDefEqProofs(maxSteps:=999999)(disch:=first|with_reducible rfl|omega|(simp only[nA,nS,nD]<;>omega)|fail)only[go_sem,e0,e3,e4,e10,e11,e12,e13]
    refine W_count kn (fun i s=>∃tm z v a T',s=⟨tm,z,[]⟩∧Mi h0 p x (c0+4) c0 a ss gg tt T' v z∧MkOk a ss gg tt∧a.mins=mins∧a.evs=ev∧a.gps.length=i∧(0≤T'∧T'≤T+1000+10*i)∧FT p c0 K N tm∧(Opd.t 122).ev tm=.int .i64 (kn:Int)∧(Opd.t 123).ev tm=.int .i64 (i:Int)) ?_ ?_ (i:=0) (Nat.zero_le _)
     ⟨_,_,_,_,_,rfl,k,mk,am,ae,by rw[ag];rfl,by omega,⟨(by simp[ev_c,ev_put,e0]<;>rfl),(by simp[ev_c,ev_put,e3]<;>rfl),(by simp[ev_c,ev_put,e4]<;>rfl),(by simp[ev_c,ev_put,e10]<;>rfl),(by simp[ev_c,ev_put,e11]<;>rfl),(by simp[ev_c,ev_put,e12]<;>rfl),(by simp[ev_c,ev_put,e13]<;>rfl)⟩,(by simp[ev_c,ev_put]<;>rfl),(by simp[ev_c,ev_put]<;>rfl)⟩
    ·clear mk k am ae ag la
     rintro i s hi ⟨tm,z,v,a,T',rfl,k,mk,am,ae,la,hT',⟨e0,e3,e4,e10,e11,e12,e13⟩,e122,e123⟩
     have hi':(i:Int)<(kn:Int):=by omega
     have we:wr .i64 (a.evs-1)=a.evs-1:=wr_in (by omega) (by omega)
     simp -implicitDefEqProofs(maxSteps:=999999)(disch:=first|with_reducible rfl|omega|(simp only[nA,nS,nD]<;>omega)|fail)only[go_sem,e0,e12,e13,e122,e123,hi',cells_of k.ga,we]
     refine Upto_ev k.s hw0 hx hp0 k.sp (by omega) (by omega) _ fun ik za ia0 ia1 ua pa qa _=>?_
     have ka:=k.turn hlp0 rfl ua pa qa
     simp -implicitDefEqProofs(maxSteps:=999999)(disch:=first|with_reducible rfl|omega|(simp only[nA,nS,nD]<;>omega)|fail)only[go_sem,e0,e12,e13,e122,e123,cells_of k.ga,cells_of ka.ga,we]
     refine Upto_ev ka.s hw0 hx hp0 ka.sp (by omega) (by omega) _ fun ie zb ib0 ib1 ub pb qb _=>?_
     have kb:=ka.turn hlp0 rfl ub pb qb
     obtain⟨jk,hjk⟩:∃jk:Nat,ik=jk:=⟨ik.toNat,by omega⟩
     obtain⟨je,hje⟩:∃je:Nat,ie=je:=⟨ie.toNat,by omega⟩
     subst hjk;subst hje
     have hjk:jk<tt.length:=by omega
     have hjt:je<tt.length:=by omega
     have uc:=(H.Sub.refl ub.wf).add (.cells .rw [.int .i64 (jk:Int),.int .i64 (je:Int),.int .i64 0,.int .i64 0])
     have kc:=kb.mono uc
     have g17:(zb.add (.cells .rw [.int .i64 (jk:Int),.int .i64 (je:Int),.int .i64 0,.int .i64 0])).get zb.next=some (.cells .rw [.int .i64 (jk:Int),.int .i64 (je:Int),.int .i64 0,.int .i64 0]):=get_add_new rfl
     have nzc:=H.next_add zb (.cells .rw [.int .i64 (jk:Int),.int .i64 (je:Int),.int .i64 0,.int .i64 0])
     obtain⟨zc,hzc⟩:∃zc,zb.add (.cells .rw [.int .i64 (jk:Int),.int .i64 (je:Int),.int .i64 0,.int .i64 0])=zc:=⟨_,rfl⟩
     rw[hzc] at uc kc g17 nzc
     have xt:SlAt zc (v 5) 1 (tt.map encI):=(kc.sl.o 5 (by decide)).sl (by show(tt.map encI).length≤_;rw[List.length_map];omega)
     obtain⟨bs4,os4,cs4,rs4,es4,hs4,qs4,_,_,ns4⟩:=xt.at hjk
     obtain⟨bs5,os5,cs5,rs5,es5,hs5,qs5,_,_,ns5⟩:=xt.at hjt
     have v4:=ns4 (by decide)
     have v5:=ns5 (by decide)
     simp only[encI,List.getElem?_cons_zero] at v4 v5
     have i4:tt[jk]? =some tt[jk]:=List.getElem?_eq_getElem hjk
     have i5:tt[je]? =some tt[je]:=List.getElem?_eq_getElem hjt
     have htm:=mk.tm _ (List.getElem_mem hjt)
     have htk:=mk.tm _ (List.getElem_mem hjk)
     generalize tt[jk]=kv at v4 i4 htk
     generalize tt[je]=tv at v5 i5 htm
     have wd:wr .i64 (tv-kv)=tv-kv:=wr_in (by omega) (by omega)
     simp -implicitDefEqProofs(maxSteps:=999999)(disch:=first|with_reducible rfl|omega|(simp only[nA,nS,nD]<;>omega)|fail)only[go_sem,e0,e12,e13,e122,e123,cells_of k.ga,cells_of ka.ga,cells_of kb.ga,hzc,cells_of kc.gt,cells_of g17,qs4 (nat_cst jk),qs5 (nat_cst je),hs4,hs5,v4,v5,wd]
     refine around_ev kc.s hw0 hx hp0 kc.sp (by omega) (by omega) (by omega) (by omega) _ fun lo hi zd r1 r2 r3 r4 r5 ud pd qd=>?_
     have kd:=kc.turn hlp0 rfl ud pd qd
     have lkb:=kb.nx
     have g17d:=qd.2 _ _ g17 (by omega)
     have lzd:=qd.1
     have qe:=Keeps.set zd zb.next (.cells .rw [.int .i64 (jk:Int),.int .i64 (je:Int),.int .i64 lo,.int .i64 hi])
     have ue:h0.Sub (zd.set zb.next (.cells .rw [.int .i64 (jk:Int),.int .i64 (je:Int),.int .i64 lo,.int .i64 hi])):=ud.set (by have:=ub.next;omega) (by omega) hw0 _
     have ke:=kd.side hlp0 rfl lkb (fun i hi b hb e=>by have:=((kb.sl.o i hi).blk hb).2.1;omega) ue qe
     have ge17:(zd.set zb.next (.cells .rw [.int .i64 (jk:Int),.int .i64 (je:Int),.int .i64 lo,.int .i64 hi])).get zb.next=some (.cells .rw [.int .i64 (jk:Int),.int .i64 (je:Int),.int .i64 lo,.int .i64 hi]):=get_set_same rfl
     have hs5d:=hs5;have hs4d:=hs4
     simp -implicitDefEqProofs(maxSteps:=999999)(disch:=first|with_reducible rfl|omega|(simp only[nA,nS,nD]<;>omega)|fail)only[go_sem,e0,e12,e13,e122,e123,cells_of kc.gt,cells_of kd.gt,cells_of g17,cells_of g17d,g17d,qs4 (nat_cst jk),qs5 (nat_cst je),hs4,hs5,v4,v5,cells_of ke.ga,cells_of ge17]
     have nze:(zd.set zb.next (.cells .rw [.int .i64 (jk:Int),.int .i64 (je:Int),.int .i64 lo,.int .i64 hi])).next=zd.next:=H.next_set _ _ _
     generalize zd.set zb.next (.cells .rw [.int .i64 (jk:Int),.int .i64 (je:Int),.int .i64 lo,.int .i64 hi])=ze at ue ke ge17 nze⊢
     have uf:=(H.Sub.refl ue.wf).add (.cells .rw [.int .i64 (jk:Int),.int .i64 (je:Int),.int .i64 lo,.int .i64 hi])
     have kf':=ke.mono uf
     have o2:=kf'.sl.o 2 (by decide)
     have sn:SlAt (ze.add (.cells .rw [.int .i64 (jk:Int),.int .i64 (je:Int),.int .i64 lo,.int .i64 hi])) (.sl zd.next 0 1 (.fix 1)) 4 [encG ⟨jk,je,lo,hi⟩]:=SlAt.new _ nze.symm rfl rfl (by simp[encG]) (by simp)
     have hgl:=mk.gl
     have lr:(rowsM a ss gg tt 2).length≤2:=by show(a.gps.map encG).length≤2;rw[List.length_map];omega
     generalize ze.add (.cells .rw [.int .i64 (jk:Int),.int .i64 (je:Int),.int .i64 lo,.int .i64 hi])=zf at uf kf' o2 sn⊢
     refine o2.app1 (by_:=32) (r:=encG ⟨jk,je,lo,hi⟩) hw0 rfl (by decide) sn rfl (by omega) (by omega) fun w zg og ng kg=>?_
     have ow:=og.one
     have nb:¬blkOf (v 2) (c0+2):=fun hb=>by have:=kf'.sl.lo 2 (by decide) _ hb;omega
     have gg:=kg.2 _ _ kf'.ga nb
     have km:=kf'.putA (a':={a with gps:=a.gps++[⟨jk,je,lo,hi⟩]}) hw0 hlp0 rfl l00 kg (fun b hb=>kf'.sl.lo 2 (by decide) b hb) ((kf'.sl.app (by decide) og ng kf'.nx kg).rw rows2) rfl rfl rfl rfl rfl
     simp -implicitDefEqProofs(maxSteps:=999999)(disch:=first|with_reducible rfl|omega|(simp only[nA,nS,nD]<;>omega)|fail)only[go_sem,e0,e12,e13,e122,e123,gg,ow,cells_one ow,wr_succ]
     exact⟨_,_,_,_,_,rfl,km,mk.gap (by omega) i4 i5 ⟨r1,r2⟩ ⟨r3,r4⟩,am,ae,by simp only[List.length_append,List.length_singleton];omega,by omega,⟨(by simp[ev_c,ev_put,e0]<;>rfl),(by simp[ev_c,ev_put,e3]<;>rfl),(by simp[ev_c,ev_put,e4]<;>rfl),(by simp[ev_c,ev_put,e10]<;>rfl),(by simp[ev_c,ev_put,e11]<;>rfl),(by simp[ev_c,ev_put,e12]<;>rfl),(by simp[ev_c,ev_put,e13]<;>rfl)⟩,(by simp[ev_c,ev_put,e122]<;>rfl),(by simp[ev_c,ev_put]<;>rfl)⟩
    ·rintro s ⟨tm,z,v,a,T',rfl,k,mk,am,ae,la,hT',⟨e0,e3,e4,e10,e11,e12,e13⟩,e122,e123⟩
     have hi':¬((kn:Int)<(kn:Int)):=by omega
     have oo:=fun i (hi:i<6)=>(k.sl.o i hi).one
     have y0:=oo 0 (by decide);have y1:=oo 1 (by decide);have y2:=oo 2 (by decide);have y3:=oo 3 (by decide);have y4:=oo 4 (by decide);have y5:=oo 5 (by decide)
     have lz:=k.nx
     simp -implicitDefEqProofs(maxSteps:=999999)(disch:=first|with_reducible rfl|omega|(simp only[nA,nS,nD]<;>omega)|fail)only[go_sem,e0,e3,e4,e10,e11,e12,e13,e122,e123,hi',cells_of k.ga,cells_of k.gt,k.g0,k.g1,y0,y1,y2,y3,y4,y5]
     have s7:h0.Sub ((z.set c0 (.cells .rw [.int .i64 a.mins,.int .i64 a.evs,v 0,v 1,v 2])).set (c0+1) (.cells .rw [v 3,v 4,v 5])):=(k.s.set l00 (by omega) hw0 _).set (by omega) (by rw[H.next_set];omega) hw0 _
     have kz:=(Keeps.set z c0 (.cells .rw [.int .i64 a.mins,.int .i64 a.evs,v 0,v 1,v 2])).trans (Keeps.set (z.set c0 (.cells .rw [.int .i64 a.mins,.int .i64 a.evs,v 0,v 1,v 2])) (c0+1) (.cells .rw [v 3,v 4,v 5]))
     have sl:=k.sl.keep kz s7 fun b hb=>by rcases hb with hb|hb<;>omega
     have q1:=mk.cl;have q2:=mk.rl;have q3:=mk.gl;have q4:=mk.ls;have q5:=mk.lg
     have w:∀i,i<6→(rowsM a ss gg tt i).length≤6→SlAt _ (v i) (sz6 i) (rowsM a ss gg tt i):=fun i hi hl=>(sl.o i hi).sl (by omega)
     exact q _ T' a ss gg tt _ _ _ _ _ _ ⟨s7,k.sp.keep kz (by omega),⟨w 0 (by decide) (by show(a.cks.map encC).length≤6;rw[List.length_map];omega),w 1 (by decide) (by show(a.rds.map encR).length≤6;rw[List.length_map];omega),w 2 (by decide) (by show(a.gps.map encG).length≤6;rw[List.length_map];omega)⟩,
      w 3 (by decide) (by show(ss.map encI).length≤6;rw[List.length_map];omega),w 4 (by decide) (by show(gg.map encI).length≤6;rw[List.length_map];omega),w 5 (by decide) (by show(tt.map encI).length≤6;rw[List.length_map];omega),mk,by omega⟩ ⟨sl.o 1 (by decide),fun b hb=>by have:=sl.lo 1 (by decide) b hb;omega,fun b hb=>⟨fun hc=>sl.dj 1 0 (by decide) (by decide) (by decide) b hb hc,fun hc=>sl.dj 1 2 (by decide) (by decide) (by decide) b hb hc,fun hc=>sl.dj 1 3 (by decide) (by decide) (by decide) b hb hc,fun hc=>sl.dj 1 4 (by decide) (by decide) (by decide) b hb hc,fun hc=>sl.dj 1 5 (by decide) (by decide) (by decide) b hb hc⟩⟩
end Go.Ab.Tryz
namespace Go.Ab.Tryz
open Go.Proofs
theorem low_le {L:List Int}(hL:L.length=25){a b:Nat}(ha:a<5)(hb:b<5)(v:Int){x y:Nat}(hx:x<5)(hy:y<5):mg (low L a b v) x y≤mg L x y:=by
 rw[mg_low hL ha hb v x y hx hy]
 split
 ·rename_i e;obtain⟨rfl,rfl⟩:=e;omega
 ·exact Int.le_refl _
theorem rdL_le {L:List Int}(hL:L.length=25){e:Nat}(he:e<5)(s:Int × Int){x y:Nat}(hx:x<5)(hy:y<5):mg (rdL L e s) x y≤mg L x y:=
 Int.le_trans (low_le (by rw[low_len];exact hL) he (by decide) _ hx hy) (low_le hL (by decide) he _ hx hy)
theorem readsL_le {a:At}(r:Right a){cnt:Nat→Bool}{k:Int}{x:Int × Int}{u v:Nat}(hu:u<5)(hv:v<5):∀{l:List Rd} {i:Nat} {L:List Int},(∀r∈l,r∈a.rds)→L.length=25→mg (readsL a cnt k x l i L).1 u v≤mg L u v
 |[],_,_,_,_=>Int.le_refl _
 |rd::l,i,L,hl,hL=>by
  obtain⟨yk,ye,ek,ee,hyk,hye,_⟩:=r.rd (hl rd (List.mem_cons_self ..))
  have hl':=fun x hx=>hl x (List.mem_cons_of_mem _ hx)
  rw[readsL]
  split
  ·exact readsL_le r hu hv hl' hL
  ·split
   ·exact Int.le_refl _
   ·exact Int.le_trans (readsL_le r hu hv hl' (by rw[rdL,low_len,low_len];exact hL)) (rdL_le hL (by omega) _ hu hv)
theorem readL_le {a:At}(r:Right a){cnt:Nat→Bool}{k:Int}{x:Int × Int}{L:List Int}(hL:In5 240 L)(ht:(readL a cnt k x L).2=true){u v:Nat}(hu:u<5)(hv:v<5):mg (readL a cnt k x L).1 u v≤mg L u v:=by
 have hin:=readsL_in (cnt:=cnt) (k:=k) (x:=x) (i:=0) r (fun y (hy:y∈a.rds)=>hy) hL
 unfold readL at ht⊢
 by_cases h1:(readsL a cnt k x a.rds 0 L).2=true
 ·rw[if_pos h1] at ht⊢
  exact Int.le_trans (((clos_spec (by decide) (by decide) hin).1 ht).2.2.1 u v hu hv) (readsL_le r hu hv (fun r hr=>hr) hL.len)
 ·rw[if_neg h1] at ht;cases ht
theorem moreL_le {a:At}(r:Right a){cnt:Nat→Bool}{u v:Nat}(hu:u<5)(hv:v<5):∀{n:Nat} {runs:Runs} {L:List Int},In5 240 L→∀t∈moreL a cnt n runs L,mg t.2 u v≤mg L u v
 |0,runs,L,h,t,ht=>by rw[moreL,List.mem_singleton] at ht;rw[ht];exact Int.le_refl _
 |n+1,runs,L,h,t,ht=>by
  unfold moreL at ht
  cases hc:a.cks[runs.length]? with
  |none=>rw[hc] at ht;cases ht
  |some c=>
   rw[hc] at ht
   simp only[List.mem_flatMap] at ht
   obtain⟨i,_,j,_,ht⟩:=ht
   split at ht
   ·rename_i hk;exact Int.le_trans (moreL_le r hu hv (readL_in r h hk) t ht) (readL_le r h hk hu hv)
   ·cases ht
theorem gaps_le {a:At}(r:Right a){u v:Nat}(hu:u<5)(hv:v<5):∀{l:List Gp} {L:List Int},(∀g∈l,g∈a.gps)→L.length=25→mg (l.foldl gapL L) u v≤mg L u v
 |[],_,_,_=>Int.le_refl _
 |g::l,L,hl,hL=>by
  obtain⟨f,t,e1,e2,hf,ht,_⟩:=r.gap (hl g (List.mem_cons_self ..))
  rw[List.foldl_cons]
  refine Int.le_trans (gaps_le r hu hv (fun x hx=>hl x (List.mem_cons_of_mem _ hx)) (by rw[gapL,low_len,low_len];exact hL)) ?_
  rw[gapL,e1,e2,Int.toNat_natCast,Int.toNat_natCast]
  exact Int.le_trans (low_le (by rw[low_len];exact hL) (by omega) (by omega) _ hu hv) (low_le hL (by omega) (by omega) _ hu hv)
theorem cases_diag {a:At}(r:Right a){cnt:Nat→Bool}{t:Runs × List Int}(ht:t∈casesL a cnt){u:Nat}(hu:u<5):mg t.2 u u=0:=by
 have hd:=(cases_sound r ht).1.diag u hu
 unfold casesL at ht
 split at ht
 ·rename_i hc
  have h1:=moreL_le r hu hu (free_clos_in r hc) t ht
  have h2:=((clos_spec (by decide) (by decide) (freeL_in r)).1 hc).2.2.1 u u hu hu
  have h3:mg (freeL a) u u≤mg (bsL a.mins) u u:=gaps_le r hu hu (fun g hg=>hg) (bsU_len _ _ _)
  rw[mg_bs _ hu hu,if_pos (.inr rfl)] at h3
  omega
 ·cases ht
abbrev allM (a:At):List (List Int):=(allC a).map Prod.snd
end Go.Ab.Tryz
namespace Go.Ab.Tryz
open Go.Proofs
def latY (L:List Int)(f b:Nat):Int:=mg L f b-mg L f 4
theorem lat_tru {a:At}(r:Right a){cnt:Nat→Bool}{t:Runs × List Int}(ht:t∈casesL a cnt){f:Nat}(hf:f<5):Tru a cnt t.1 (latY t.2 f):=by
 obtain⟨tri,_,_,hs⟩:=cases_sound r ht
 refine(hs _ (by simp[latY])).1 fun c d hc hd=>?_
 have:=tri.tri f d c hf hd hc
 unfold latY;omega
theorem Right.rdn {a:At}(r:Right a){x:Rd}(hx:x∈a.rds):∃i e:Nat,x.ck=i∧x.ev=e∧i<a.cks.length∧(e:Int)<a.evs∧e<4:=by
 have h:=r.ro x hx
 have he:=r.evs
 simp only[At.rdOk,At.ckB,At.evB,Bool.and_eq_true,inB_iff] at h
 exact⟨x.ck.toNat,x.ev.toNat,by omega,by omega,by omega,by omega,by omega⟩
theorem Right.gpn {a:At}(r:Right a){x:Gp}(hx:x∈a.gps):∃i e:Nat,x.fr=i∧x.to=e∧(i:Int)<a.evs∧(e:Int)<a.evs∧i<4∧e<4:=by
 have h:=r.go x hx
 have he:=r.evs
 simp only[At.gpOk,At.evB,Bool.and_eq_true,inB_iff] at h
 exact⟨x.fr.toNat,x.to.toNat,by omega,by omega,by omega,by omega,by omega,by omega⟩
theorem Tru.cut {a:At}(r:Right a){cnt:Nat→Bool}{runs:Runs}{y:Nat→Int}(t:Tru a cnt runs y):Tru a cnt runs (timeF ((List.range a.evs.toNat).map y)):=by
 have he:=r.evs
 have hm:=r.mins
 have key:∀e:Nat,(e:Int)<a.evs→timeF ((List.range a.evs.toNat).map y) e=y e:=fun e h=>timeF_at (by rw[List.getElem?_map,List.getElem?_range (by omega)];rfl)
 have key2:∀e:Nat,a.evs≤(e:Int)→timeF ((List.range a.evs.toNat).map y) e=0:=fun e h=>by
  unfold timeF
  rw[List.getD_eq_getElem?_getD,List.getElem?_eq_none (by rw[List.length_map,List.length_range];omega)];rfl
 refine⟨t.len,t.run,key2 4 (by omega),fun e h=>?_,fun g hg=>?_,fun j x hx hc s hs=>?_⟩
 ·rcases(by omega:(e:Int)<a.evs∨a.evs≤(e:Int)) with h1|h1
  ·rw[key e h1];exact t.mins e h
  ·rw[key2 e h1];omega
 ·obtain⟨i,e,e1,e2,h1,h2,_,_⟩:=r.gpn hg
  have:=t.gaps g hg
  rw[e1,e2,Int.toNat_natCast,Int.toNat_natCast] at this⊢
  rw[key i h1,key e h2];exact this
 ·obtain⟨i,e,e1,e2,_,h2,_⟩:=r.rdn (List.mem_of_getElem? hx)
  have:=t.rds j x hx hc s hs
  rw[e2,Int.toNat_natCast] at this⊢
  rw[key e h2];exact this
end Go.Ab.Tryz
namespace Go.Ab.Tryz
open Go.Proofs
abbrev TruA (a:At) (runs:Runs) (y:Nat→Int):Prop:=Tru a (fun _=>true) runs y
theorem noC {a:At}(r:Right a):allC a=[]↔∀runs y,¬TruA a runs y:=by
 constructor
 ·intro h runs y t
  obtain⟨L,hL⟩:=cases_full r t
  have:(runs,L)∈allC a:=hL
  rw[h] at this;cases this
 ·intro h
  cases hc:allC a with
  |nil=>rfl
  |cons t l=>
   have ht:t∈casesL a (fun _=>true):=by show t∈allC a;rw[hc];exact List.mem_cons_self ..
   exact absurd (lat_tru r ht (f:=4) (by omega)) (h _ _)
theorem betw_hi {a:At}(r:Right a)(hne:allC a≠[]){f t:Nat}(hf:f<5)(ht:t<5):∃runs y,TruA a runs y∧y t-y f=(betw f t (allM a)).2:=by
 obtain⟨M,hM,h1⟩:=betw_ex (f:=f) (t:=t) (l:=allM a) (fun e=>hne (List.map_eq_nil_iff.1 e))
 obtain⟨u,hu,rfl⟩:=List.mem_map.1 hM
 exact⟨u.1,latY u.2 f,lat_tru r hu hf,by have:=cases_diag r hu hf;unfold latY;omega⟩
theorem betw_lo {a:At}(r:Right a)(hne:allC a≠[]){f t:Nat}(hf:f<5)(ht:t<5):∃runs y,TruA a runs y∧y t-y f=(betw f t (allM a)).1:=by
 obtain⟨runs,y,h,e⟩:=betw_hi r hne ht hf
 refine⟨runs,y,h,?_⟩
 rw[betw_dual] at e
 simp only at e
 omega
def At.addG (a:At)(g:Gp):At:={a with gps:=a.gps++[g]}
end Go.Ab.Tryz
namespace Go.Ab
def dd {α:Type}[DecidableEq α](l:List α):Nat→List α
 |0=>[]
 |n+1=>match l[n]? with
  |none=>dd l n
  |some x=>if 0<n∧l[n-1]? =some x then dd l n else dd l n++[x]
section
variable {α:Type} [DecidableEq α] {l:List α}
theorem dd_same {n:Nat}{x:α}(h:l[n]? =some x)(h2:0<n∧l[n-1]? =some x):dd l (n+1)=dd l n:=by simp only[dd,h];rw[if_pos h2]
theorem dd_new {n:Nat}{x:α}(h:l[n]? =some x)(h2:¬(0<n∧l[n-1]? =some x)):dd l (n+1)=dd l n++[x]:=by simp only[dd,h];rw[if_neg h2]
theorem dd_mem {x:α}:∀{n:Nat},x∈dd l n↔∃i,i<n∧l[i]? =some x
 |0=>by simp[dd]
 |n+1=>by
  have ih:=dd_mem (x:=x) (n:=n)
  cases h:l[n]? with
  |none=>
   simp only[dd,h]
   rw[ih]
   constructor
   ·rintro⟨i,hi,e⟩;exact⟨i,by omega,e⟩
   ·rintro⟨i,hi,e⟩
    by_cases hn:i=n
    ·subst hn;rw[h] at e;cases e
    ·exact⟨i,by omega,e⟩
  |some z=>
   by_cases h2:0<n∧l[n-1]? =some z
   ·rw[dd_same h h2,ih]
    constructor
    ·rintro⟨i,hi,e⟩;exact⟨i,by omega,e⟩
    ·rintro⟨i,hi,e⟩
     by_cases hn:i=n
     ·subst hn;rw[h] at e;cases e;exact⟨i-1,by omega,h2.2⟩
     ·exact⟨i,by omega,e⟩
   ·rw[dd_new h h2,List.mem_append,List.mem_singleton,ih]
    constructor
    ·rintro(⟨i,hi,e⟩|rfl)
     ·exact⟨i,by omega,e⟩
     ·exact⟨n,by omega,h⟩
    ·rintro⟨i,hi,e⟩
     by_cases hn:i=n
     ·subst hn;rw[h] at e;cases e;exact .inr rfl
     ·exact .inl ⟨i,by omega,e⟩
theorem dd_all {x:α}:x∈dd l l.length↔x∈l:=by
 rw[dd_mem,List.mem_iff_getElem?]
 constructor
 ·rintro⟨i,_,e⟩;exact⟨i,e⟩
 ·rintro⟨i,e⟩
  refine⟨i,?_,e⟩
  rcases Nat.lt_or_ge i l.length with q|q
  ·exact q
  ·rw[List.getElem?_eq_none q] at e;cases e
theorem dd_len:∀{n:Nat},(dd l n).length≤n
 |0=>by simp[dd]
 |n+1=>by
  have ih:=dd_len (n:=n)
  unfold dd
  split
  ·omega
  ·split
   ·omega
   ·rw[List.length_append,List.length_singleton];omega
theorem dd_pos {n:Nat}(hl:0<l.length)(hn:0<n):0<(dd l n).length:=by
 have:l[0]∈dd l n:=dd_mem.2 ⟨0,hn,List.getElem?_eq_getElem hl⟩
 exact List.length_pos_of_mem this
end
theorem dd_rise {l:List Int}(h:l.Pairwise (· ≤ ·)):∀{n:Nat},n≤l.length→(dd l n).Pairwise (· < ·)
 |0,_=>by simp[dd]
 |n+1,hn=>by
  have ih:=dd_rise h (n:=n) (by omega)
  have hx:l[n]? =some l[n]:=List.getElem?_eq_getElem (by omega)
  by_cases h2:0<n∧l[n-1]? =some l[n]
  ·rw[dd_same hx h2];exact ih
  ·rw[dd_new hx h2,List.pairwise_append]
   refine⟨ih,List.pairwise_singleton ..,fun a ha b hb=>?_⟩
   rw[List.mem_singleton] at hb;subst hb
   obtain⟨i,hi,e⟩:=dd_mem.1 ha
   have hp:=List.pairwise_iff_getElem.1 h
   rw[List.getElem?_eq_getElem (by omega)] at e
   cases e
   have h3:=hp i n (by omega) (by omega) hi
   have hm:=hp (n-1) n (by omega) (by omega) (by omega)
   have him:l[i]≤l[n-1]:=by
    by_cases e:i=n-1
    ·subst e;exact Int.le_refl _
    ·exact hp i (n-1) (by omega) (by omega) (by omega)
   have hne:l[n-1]≠l[n]:=fun e=>h2 ⟨by omega,by rw[List.getElem?_eq_getElem (by omega),e]⟩
   omega
theorem rise_eq:∀{l r:List Int},l.Pairwise (· < ·)→r.Pairwise (· < ·)→(∀x,x∈l↔x∈r)→l=r
 |[],[],_,_,_=>rfl
 |[],b::r,_,_,h=>absurd ((h b).2 (List.mem_cons_self ..)) List.not_mem_nil
 |a::l,[],_,_,h=>absurd ((h a).1 (List.mem_cons_self ..)) List.not_mem_nil
 |a::l,b::r,h1,h2,h=>by
  rw[List.pairwise_cons] at h1 h2
  have e:a=b:=by
   have ha:=(h a).1 (List.mem_cons_self ..)
   have hb:=(h b).2 (List.mem_cons_self ..)
   rcases List.mem_cons.1 ha with ha|ha
   ·exact ha
   rcases List.mem_cons.1 hb with hb|hb
   ·exact hb.symm
   have:=h1.1 b hb;have:=h2.1 a ha;omega
  subst e
  rw[rise_eq h1.2 h2.2 fun x=>?_]
  constructor
  ·intro hx
   rcases List.mem_cons.1 ((h x).1 (List.mem_cons_of_mem _ hx)) with e|e
   ·have:=h1.1 x hx;omega
   ·exact e
  ·intro hx
   rcases List.mem_cons.1 ((h x).2 (List.mem_cons_of_mem _ hx)) with e|e
   ·have:=h2.1 x hx;omega
   ·exact e
def risL (l:List Int):List Int:=dd (sortI l) (sortI l).length
theorem risL_mem {l:List Int}{x:Int}:x∈risL l↔x∈l:=by unfold risL;rw[dd_all];exact(sortI_perm l).mem_iff
theorem risL_rise (l:List Int):(risL l).Pairwise (· < ·):=dd_rise (sortI_sorted l) (Nat.le_refl _)
namespace Tryz
open Go.Proofs
def runsK (a:At)(k:Nat):Runs:=(allC a).map fun t=>t.1.getD k (0,0)
def setL (a:At)(k:Nat)(of:Int × Int→Int):List Int:=risL ((dd (runsK a k) (runsK a k).length).map of)
theorem setL_rise (a:At)(k:Nat)(of:Int × Int→Int):(setL a k of).Pairwise (· < ·):=risL_rise _
theorem setL_mem {a:At}(r:Right a){k:Nat}(hk:k<a.cks.length){of:Int × Int→Int}{n:Int}:n∈setL a k of↔∃runs y s,TruA a runs y∧runs[k]? =some s∧of s=n:=by
 unfold setL
 rw[risL_mem,List.mem_map]
 constructor
 ·rintro⟨s,hs,e⟩
  rw[dd_all,runsK,List.mem_map] at hs
  obtain⟨t,ht,es⟩:=hs
  have hl:=(cases_sound r ht).2.1
  refine⟨t.1,_,s,lat_tru r ht (f:=4) (by omega),?_,e⟩
  rw[←es,List.getD_eq_getElem?_getD,List.getElem?_eq_getElem (by omega)];rfl
 ·rintro⟨runs,y,s,t,hs,e⟩
  obtain⟨L,hL⟩:=cases_full r t
  refine⟨s,?_,e⟩
  rw[dd_all,runsK,List.mem_map]
  exact⟨(runs,L),hL,by rw[List.getD_eq_getElem?_getD];show(runs[k]?).getD _=s;rw[hs];rfl⟩
end Tryz
end Go.Ab
namespace Go.Ab.Tryz
open Go.Proofs
end Go.Ab.Tryz
namespace Go.Ab.Tryz
open Go.Proofs
theorem allOne_flat {α:Type}{enc:α→List V}(h:∀a,allOne (enc a)=true)(l:List α):allOne (l.map enc).flatten=true:=by
 rw[allOne_eq]
 intro v hv
 obtain⟨r,hr,hvr⟩:=List.mem_flatten.1 hv
 obtain⟨a,_,rfl⟩:=List.mem_map.1 hr
 exact allOne_eq.1 (h a) v hvr
theorem SlAt.full {h:H}{b n:Nat}{k:Kd}{c:Cap}{sz:Nat}{rows:List (List V)}(hn:n=rows.length)(hb:h.get b=some (.cells k rows.flatten))(hsz:∀r∈rows,r.length=sz)(hl:rows.length≤1000000):SlAt h (.sl b 0 n c) sz rows:=by
 subst hn
 refine⟨hsz,by omega,.inr ⟨b,0,c,_,rfl,.inr (cells_of hb),getN_eq.2 ⟨?_,?_⟩⟩⟩
 ·rw[List.drop_zero,←flatten_len hsz,List.take_length]
 ·rw[flatten_len hsz];omega
theorem dupClock_ev {h:H}{x:V}{l:List Ck}(hw:h.wf)(hx:SlAt h x 4 (l.map encC))(hl:l.length≤1000000)(Q:V→H→Prop):
  Ev fnG fastA (.fn 72 [] []) [x] h Q=Q (.sl h.next 0 l.length (.fix l.length)) (h.add (.cells .rw (l.map encC).flatten)):=by
 refine Ev.det (Ev_body (fd:=c72) rfl rfl rfl ?_) Q
 simp -implicitDefEqProofs(maxSteps:=999999)(disch:=first|with_reducible rfl|omega|(simp only[nA,nS,nD]<;>omega)|fail)only[c72,go_sem,hx.lenE,a_msl_0n]
 have:=dup_core (by_:=32) (z:=[.int .i64 0,.int .i64 0,.int .i64 0,.int .i64 0]) hx hw rfl (by omega) (allOne_flat (fun a=>rfl) l)
 rw[List.length_map] at this
 simp -implicitDefEqProofs(maxSteps:=999999)(disch:=first|with_reducible rfl|omega|(simp only[nA,nS,nD]<;>omega)|fail)only[go_sem,this]
theorem dupReading_ev {h:H}{x:V}{l:List Rd}(hw:h.wf)(hx:SlAt h x 3 (l.map encR))(hl:l.length≤1000000)(Q:V→H→Prop):
  Ev fnG fastA (.fn 73 [] []) [x] h Q=Q (.sl h.next 0 l.length (.fix l.length)) (h.add (.cells .rw (l.map encR).flatten)):=by
 refine Ev.det (Ev_body (fd:=c73) rfl rfl rfl ?_) Q
 simp -implicitDefEqProofs(maxSteps:=999999)(disch:=first|with_reducible rfl|omega|(simp only[nA,nS,nD]<;>omega)|fail)only[c73,go_sem,hx.lenE,a_msl_0n]
 have:=dup_core (by_:=24) (z:=[.int .i64 0,.int .i64 0,.int .i64 0]) hx hw rfl (by omega) (allOne_flat (fun a=>rfl) l)
 rw[List.length_map] at this
 simp -implicitDefEqProofs(maxSteps:=999999)(disch:=first|with_reducible rfl|omega|(simp only[nA,nS,nD]<;>omega)|fail)only[go_sem,this]
theorem dupGap_ev {h:H}{x:V}{l:List Gp}(hw:h.wf)(hx:SlAt h x 4 (l.map encG))(hl:l.length≤1000000)(Q:V→H→Prop):
  Ev fnG fastA (.fn 74 [] []) [x] h Q=Q (.sl h.next 0 l.length (.fix l.length)) (h.add (.cells .rw (l.map encG).flatten)):=by
 refine Ev.det (Ev_body (fd:=c74) rfl rfl rfl ?_) Q
 simp -implicitDefEqProofs(maxSteps:=999999)(disch:=first|with_reducible rfl|omega|(simp only[nA,nS,nD]<;>omega)|fail)only[c74,go_sem,hx.lenE,a_msl_0n]
 have:=dup_core (by_:=32) (z:=[.int .i64 0,.int .i64 0,.int .i64 0,.int .i64 0]) hx hw rfl (by omega) (allOne_flat (fun a=>rfl) l)
 rw[List.length_map] at this
 simp -implicitDefEqProofs(maxSteps:=999999)(disch:=first|with_reducible rfl|omega|(simp only[nA,nS,nD]<;>omega)|fail)only[go_sem,this]
end Go.Ab.Tryz
namespace Go.Ab.Tryz
open Go.Proofs
structure AtNew (h0 h:H)(C R G:V)(a:At):Prop where
 s:h0.Sub h
 is:∃b1 b2 b3,C=.sl b1 0 a.cks.length (.fix a.cks.length)∧R=.sl b2 0 a.rds.length (.fix a.rds.length)∧G=.sl b3 0 a.gps.length (.fix a.gps.length)∧h0.next≤b1∧b1<b2∧b2<b3∧b3<h.next∧
  h.get b1=some (.cells .rw (a.cks.map encC).flatten)∧h.get b2=some (.cells .rw (a.rds.map encR).flatten)∧h.get b3=some (.cells .rw (a.gps.map encG).flatten)
structure SmallA (a:At):Prop where
 c:a.cks.length≤100
 r:a.rds.length≤100
 g:a.gps.length≤100
theorem AtNew.at_ {h0 h:H}{C R G:V}{a:At}(n:AtNew h0 h C R G a)(l:SmallA a):AtAt h C R G a:=by
 obtain⟨b1,b2,b3,rfl,rfl,rfl,_,_,_,_,g1,g2,g3⟩:=n.is
 exact⟨SlAt.full (by simp) g1 (fun r hr=>by obtain⟨c,_,rfl⟩:=List.mem_map.1 hr;rfl) (by rw[List.length_map];have:=l.c;omega),
  SlAt.full (by simp) g2 (fun r hr=>by obtain⟨c,_,rfl⟩:=List.mem_map.1 hr;rfl) (by rw[List.length_map];have:=l.r;omega),
  SlAt.full (by simp) g3 (fun r hr=>by obtain⟨c,_,rfl⟩:=List.mem_map.1 hr;rfl) (by rw[List.length_map];have:=l.g;omega)⟩
set_option maxHeartbeats 1000000 in
theorem own_ev {h:H}(hw:h.wf){a:At}{C R G:V}(x:AtAt h C R G a)(l:SmallA a)(Q:V→H→Prop)(q:∀C' R' G' h',AtNew h h' C' R' G' a→Q (.agg (atV a C' R' G')) h'):Ev fnG fastA (.fn 17 [] []) [.agg (atV a C R G)] h Q:=by
 obtain⟨l1,l2,l3⟩:=l
 have oC:=x.c.one;have oR:=x.r.one;have oG:=x.g.one
 refine Ev_body (fd:=c17) rfl rfl rfl ?_
 have s2:h.Sub ((h.add (.cells .rw (atV a C R G))).add (.cells .rw [.int .i64 0,.int .i64 0,.nils,.nils,.nils])):=(by repeat(first|assumption|exact H.Sub.refl (by assumption)|refine H.Sub.add ?_ _|refine H.Sub.set ?_ (by first|omega|(simp only[H.next_add,H.next_set,H.next_del]<;>omega)) (by first|omega|(simp only[H.next_add,H.next_set,H.next_del]<;>omega)) (by assumption) _))
 have s3:=s2.add (.cells .rw (a.cks.map encC).flatten)
 have s4:=s3.add (.cells .rw (a.rds.map encR).flatten)
 have s5:=s4.add (.cells .rw (a.gps.map encG).flatten)
 simp -implicitDefEqProofs(maxSteps:=999999)(disch:=first|with_reducible rfl|omega|(simp only[nA,nS,nD]<;>omega)|fail)only[c17,go_sem,dupClock_ev s2.wf (x.c.mono s2) (by omega),dupReading_ev s3.wf (x.r.mono s3) (by omega),dupGap_ev s4.wf (x.g.mono s4) (by omega),evQ_ld]
 refine q _ _ _ _ ⟨(by repeat(first|assumption|exact H.Sub.refl (by assumption)|refine H.Sub.add ?_ _|refine H.Sub.set ?_ (by first|omega|(simp only[H.next_add,H.next_set,H.next_del]<;>omega)) (by first|omega|(simp only[H.next_add,H.next_set,H.next_del]<;>omega)) (by assumption) _)),h.next+1+1,h.next+1+1+1,h.next+1+1+1+1,rfl,rfl,rfl,by omega,by omega,by omega,by simp only[H.next_set,H.next_add];omega,?_,?_,?_⟩
 all_goals simp -implicitDefEqProofs(maxSteps:=999999)(disch:=first|with_reducible rfl|omega|(simp only[nA,nS,nD]<;>omega)|fail)only[go_sem]
end Go.Ab.Tryz
namespace Go.Ab.Tryz
open Go.Proofs
end Go.Ab.Tryz
namespace Go.Ab.Tryz
open Go.Proofs
end Go.Ab.Tryz
namespace Go.Ab.Tryz
open Go.Proofs
def lg2 (lo hi m:Int):Bool:=within lo hi m&&decide (4<hi-lo)
def Ck.lg (c:Ck):Bool:=lg2 c.sl c.sh 60||lg2 c.gl c.gh 30
structure RC (h:H)(a:At)(C R G:V)(tm:T V)(z:H)(b3 b4 b5 b6:Bool):Prop where
 s:h.Sub z
 g1:z.get h.next=some (.cells .rw (atV a C R G))
 t1:(Opd.t 1).ev tm=.ptr h.next 0
 t3:(Opd.t 3).ev tm=.bool b3
 t4:(Opd.t 4).ev tm=.bool b4
 t5:(Opd.t 5).ev tm=.bool b5
 t6:(Opd.t 6).ev tm=.bool b6
theorem RC.sub {h:H}{a:At}{C R G:V}{tm:Go.Ab.T V}{z z':H}{b3 b4 b5 b6:Bool}(k:RC h a C R G tm z b3 b4 b5 b6)(s:z.Sub z'):h.Sub z'∧z'.get h.next=some (.cells .rw (atV a C R G)):=⟨k.s.trans s,s.get k.g1⟩
end Go.Ab.Tryz
namespace Go.Ab
theorem a_msl_nm {h:H}{by_ n m:Nat}{z:List V}(h0:n≤m)(h1:m*by_≤1099511627776)(h2:m≤1099511627776):
  a_msl h by_ z (.int .i64 (n:Int)) (.int .i64 (m:Int))=some (.sl h.next 0 n (.fix m),h.add (.cells .rw (repN m z))):=by
 have e1:Nat.ble (m*by_) 1099511627776=true:=by simpa using h1
 have e2:Nat.ble m 1099511627776=true:=by simpa using h2
 have e3:Nat.ble n m=true:=by simpa using h0
 simp only[a_msl,nat_cst,e1,e2,e3,og_true,lf_eq]
end Go.Ab
namespace Go.Ab.Tryz
open Go.Proofs
structure AtOw (h0 h:H)(C R G:V)(a:At):Prop where
 c:OwnC h0 h C 4 (a.cks.map encC)
 r:OwnC h0 h R 3 (a.rds.map encR)
 g:OwnC h0 h G 4 (a.gps.map encG)
 cr:∀b,blkOf C b→¬blkOf R b
 cg:∀b,blkOf C b→¬blkOf G b
 rg:∀b,blkOf R b→¬blkOf G b
variable {h0 h1 h h':H} {C R G:V} {a:At}
theorem AtOw.sub (o:AtOw h0 h C R G a):h0.Sub h:=o.c.1
theorem AtOw.at_ (o:AtOw h0 h C R G a)(l:SmallA a):AtAt h C R G a:=
 ⟨o.c.sl (by rw[List.length_map];have:=l.c;omega),o.r.sl (by rw[List.length_map];have:=l.r;omega),o.g.sl (by rw[List.length_map];have:=l.g;omega)⟩
theorem AtOw.mono (o:AtOw h0 h C R G a)(s:h.Sub h'):AtOw h0 h' C R G a:=⟨o.c.mono s,o.r.mono s,o.g.mono s,o.cr,o.cg,o.rg⟩
theorem AtOw.base (o:AtOw h1 h C R G a)(s:h0.Sub h1):AtOw h0 h C R G a:=⟨o.c.base s,o.r.base s,o.g.base s,o.cr,o.cg,o.rg⟩
def atBlk (C R G:V)(b:Nat):Prop:=blkOf C b∨blkOf R b∨blkOf G b
theorem AtOw.blk (o:AtOw h0 h C R G a){b:Nat}(hb:atBlk C R G b):h0.next≤b∧b<h.next:=by
 rcases hb with hb|hb|hb
 ·exact⟨(o.c.blk hb).1,(o.c.blk hb).2.1⟩
 ·exact⟨(o.r.blk hb).1,(o.r.blk hb).2.1⟩
 ·exact⟨(o.g.blk hb).1,(o.g.blk hb).2.1⟩
theorem AtOw.keep (o:AtOw h0 h C R G a){S:Nat→Prop}(k:Keeps S h h')(s:h0.Sub h')(n:∀b,atBlk C R G b→¬S b):AtOw h0 h' C R G a:=
 ⟨o.c.keep k s fun b hb=>n b (.inl hb),o.r.keep k s fun b hb=>n b (.inr (.inl hb)),o.g.keep k s fun b hb=>n b (.inr (.inr hb)),o.cr,o.cg,o.rg⟩
theorem OwnC.full {sz n b:Nat}{x:V}{rows:List (List V)}(hs:h0.Sub h)(hx:x=.sl b 0 n (.fix n))(hn:n=rows.length)(hr:∀r∈rows,r.length=sz)(l1:h0.next≤b)(l2:b<h.next)(hg:h.get b=some (.cells .rw rows.flatten)):OwnC h0 h x sz rows:=by
 subst hn
 exact⟨hs,hr,.inr (.inr ⟨b,rows.length,[],hx,l1,l2,by rw[List.append_nil];exact hg,by rw[List.length_nil,Nat.add_zero],Nat.le_refl _⟩)⟩
theorem AtNew.ow (n:AtNew h0 h C R G a):AtOw h0 h C R G a:=by
 obtain⟨b1,b2,b3,rfl,rfl,rfl,l0,l1,l2,l3,g1,g2,g3⟩:=n.is
 refine⟨OwnC.full n.s rfl (by simp) (fun r hr=>by obtain⟨c,_,rfl⟩:=List.mem_map.1 hr;rfl) (by omega) (by omega) g1,OwnC.full n.s rfl (by simp) (fun r hr=>by obtain⟨c,_,rfl⟩:=List.mem_map.1 hr;rfl) (by omega) (by omega) g2,
  OwnC.full n.s rfl (by simp) (fun r hr=>by obtain⟨c,_,rfl⟩:=List.mem_map.1 hr;rfl) (by omega) (by omega) g3,?_,?_,?_⟩<;>(rintro b ⟨_,_,_,e⟩ ⟨_,_,_,e'⟩;cases e;cases e';omega)
def At.none:At:=⟨0,0,[],[],[]⟩
theorem AtOw.none (s:h0.Sub h):AtOw h0 h .nils .nils .nils At.none:=⟨(OwnSl.nil s 4).c,(OwnSl.nil s 3).c,(OwnSl.nil s 4).c,fun b hb=>(blkOf_nils hb).elim,fun b hb=>(blkOf_nils hb).elim,fun b hb=>(blkOf_nils hb).elim⟩
end Go.Ab.Tryz
namespace Go.Ab.Tryz
open Go.Proofs
end Go.Ab.Tryz
namespace Go.Ab.Tryz
open Go.Proofs
theorem indexInt_ev {l:List Int}{h:H}{x:V}(hw:h.wf)(hx:SlAt h x 1 (l.map encI))(e:Int):
  E (.fn 142 [] []) [x,.int .i64 e] h fun v h'=>v=.int .i64 (fidx (fun r=>decide (e=r)) l 0)∧h.Sub h':=by
 have hb:=hx.boundE
 refine Ev_body (fd:=c142) rfl rfl rfl ?_
 simp -implicitDefEqProofs(maxSteps:=999999)(disch:=first|with_reducible rfl|omega|(simp only[nA,nS,nD]<;>omega)|fail)only[c142,go_sem,hx.lenE]
 refine W_count l.length (fun i s=>∃tm h',s=⟨tm,h',[]⟩∧h.Sub h'∧(Opd.t 0).ev tm=x∧(Opd.t 1).ev tm=.int .i64 e∧(Opd.t 7).ev tm=.int .i64 (l.length:Int)∧(Opd.t 8).ev tm=.int .i64 (i:Int)∧fidx (fun r=>decide (e=r)) l 0=fidx (fun r=>decide (e=r)) (l.drop i) i)
  ?_ ?_ (i:=0) (Nat.zero_le _) ⟨_,_,rfl,H.Sub.refl hw,(by simp[ev_c,ev_put]<;>rfl),(by simp[ev_c,ev_put]<;>rfl),(by simp[ev_c,ev_put]<;>rfl),(by simp[ev_c,ev_put]<;>rfl),rfl⟩
 ·rintro i s hi ⟨tm,h',rfl,hs,e0,e1,e7,e8,e9⟩
  have hi':(i:Int)<(l.length:Int):=by omega
  obtain⟨b,o,c,cs,rfl,hc,hq,hg,hn,hn0⟩:=(hx.mono hs).at hi
  have hv:=hn0 (by omega)
  simp only[encI] at hv
  simp -implicitDefEqProofs(maxSteps:=999999)(disch:=first|with_reducible rfl|omega|(simp only[nA,nS,nD]<;>omega)|fail)only[go_sem,e0,e1,e7,e8,hi',hq (nat_cst i),hc,hv]
  by_cases hpr:e=l[i]
  ·have hd:decide (e=l[i])=true:=decide_eq_true hpr
   simp -implicitDefEqProofs(maxSteps:=999999)(disch:=first|with_reducible rfl|omega|(simp only[nA,nS,nD]<;>omega)|fail)only[go_sem,e0,e1,e7,e8,hd,hpr]
   exact⟨by first|rw[e9,fidx_hit hi hd]|(rw[←hpr];rw[e9,fidx_hit hi hd]),hs⟩
  ·have hd:decide (e=l[i])=false:=decide_eq_false hpr
   simp -implicitDefEqProofs(maxSteps:=999999)(disch:=first|with_reducible rfl|omega|(simp only[nA,nS,nD]<;>omega)|fail)only[go_sem,e0,e1,e7,e8,hd,hpr,wr_succ]
   exact⟨_,_,rfl,hs,(by simp[ev_c,ev_put,e0]<;>rfl),(by simp[ev_c,ev_put,e1]<;>rfl),(by simp[ev_c,ev_put,e7]<;>rfl),(by simp[ev_c,ev_put]<;>rfl),by rw[e9,fidx_miss hi hd]⟩
 ·rintro s ⟨tm,h',rfl,hs,e0,e1,e7,e8,e9⟩
  simp -implicitDefEqProofs(maxSteps:=999999)(disch:=first|with_reducible rfl|omega|(simp only[nA,nS,nD]<;>omega)|fail)only[go_sem,e0,e1,e7,e8,Int.lt_irrefl]
  exact⟨by rw[e9];simp[fidx],hs⟩
theorem hasInt_ev {l:List Int}{h:H}{x:V}(hw:h.wf)(hx:SlAt h x 1 (l.map encI))(e:Int)(Q:V→H→Prop)(q:∀h',h.Sub h'→Q (.bool (l.any fun r=>decide (e=r))) h'):
  Ev fnG fastA (.fn 57 [] []) [x,.int .i64 e] h Q:=by
 refine Ev_body (fd:=c57) rfl rfl rfl ?_
 simp -implicitDefEqProofs(maxSteps:=999999)(disch:=first|with_reducible rfl|omega|(simp only[nA,nS,nD]<;>omega)|fail)only[c57,go_sem]
 refine(indexInt_ev hw hx e).mono fun v h' hv=>?_
 obtain⟨rfl,hs⟩:=hv
 simp -implicitDefEqProofs(maxSteps:=999999)(disch:=first|with_reducible rfl|omega|(simp only[nA,nS,nD]<;>omega)|fail)only[go_sem]
 rw[fidx_any]
 exact q _ hs
theorem cloneInt_ev {h:H}{x:V}{rows:List (List V)}(hw:h.wf)(hx:SlAt h x 1 rows)(hl:rows.length≤1000000)(Q:V→H→Prop)(q:∀v h',OwnC h h' v 1 rows→Q v h'):Ev fnG fastA (.fn 153 [] []) [x] h Q:=by
 refine Ev_body (fd:=c153) rfl rfl rfl ?_
 rcases hx.2.2 with⟨rfl,e⟩|⟨b,o,c,cs,rfl,_⟩
 ·simp -implicitDefEqProofs(maxSteps:=999999)(disch:=first|with_reducible rfl|omega|(simp only[nA,nS,nD]<;>omega)|fail)only[c153,go_sem]
  exact q _ _ (by rw[e];exact(OwnSl.nil (H.Sub.refl hw) 1).c)
 ·simp -implicitDefEqProofs(maxSteps:=999999)(disch:=first|with_reducible rfl|omega|(simp only[nA,nS,nD]<;>omega)|fail)only[c153,go_sem]
  refine clone_core hw hx (by omega) (by omega) fun v h' ov=>?_
  simp -implicitDefEqProofs(maxSteps:=999999)(disch:=first|with_reducible rfl|omega|(simp only[nA,nS,nD]<;>omega)|fail)only[go_sem]
  exact q _ _ ov
end Go.Ab.Tryz
namespace Go.Ab.Tryz
open Go.Proofs
end Go.Ab.Tryz
namespace Go.Ab.Tryz
open Go.Proofs
end Go.Ab.Tryz
namespace Go.Ab
theorem put_iv {L:List Int}{i:Nat}(h:i<L.length)(v:Int):putN i [.int .i64 v] (L.map iv)=some ((L.set i v).map iv):=by
 have e:L=L.take i++L[i]::L.drop (i+1):=by rw[←List.drop_eq_getElem_cons h,List.take_append_drop]
 have:=putN_app (pre:=(L.take i).map iv) (new:=[iv v]) (old:=[iv L[i]]) (rest:=(L.drop (i+1)).map iv) rfl
 rw[List.length_map,List.length_take,Nat.min_eq_left (by omega)] at this
 have e2:L.map iv=(L.take i).map iv++[iv L[i]]++(L.drop (i+1)).map iv:=by
  rw[show[iv L[i]]=[L[i]].map iv from rfl,←List.map_append,←List.map_append,List.append_assoc]
  exact congrArg (List.map iv) e
 have e3:(L.set i v).map iv=(L.take i).map iv++[iv v]++(L.drop (i+1)).map iv:=by
  rw[List.set_eq_take_append_cons_drop,if_pos h];simp
 rw[e2,e3];exact this
namespace Tryz
open Go.Proofs
theorem flat_iv (L:List Int):(L.map encI).flatten=L.map iv:=by
 induction L with
 |nil=>rfl
 |cons a L ih=>rw[List.map_cons,List.flatten_cons,ih];rfl
end Tryz
end Go.Ab
namespace Go.Ab
noncomputable def slcFrom (h:H)(sz:Nat)(x k:V):Option V:=q_slc .nil h sz x (some (.c k)) none none
theorem q_slc_from (tm:T V)(h:H)(sz:Nat)(x:V)(y:Opd):q_slc tm h sz x (some y) none none=slcFrom h sz x (y.ev tm):=rfl
noncomputable def slcTo (h:H)(sz:Nat)(x k:V):Option V:=q_slc .nil h sz x none (some (.c k)) none
theorem q_slc_to (tm:T V)(h:H)(sz:Nat)(x:V)(y:Opd):q_slc tm h sz x none (some y) none=slcTo h sz x (y.ev tm):=rfl
theorem slcFrom_gr {h:H}{b k:Nat}{L:List Int}(hb:h.get b=some (.cells (.gr 1) (L.map iv)))(h0:0<L.length)(hk:k≤L.length):slcFrom h 1 (.sl b 0 L.length (.slk 0 0)) (.int .i64 (k:Int))=some (.sl b k (L.length-k) (.slk k 0)):=by
 have hi:∀tm:T V,(Opd.c (.int .i64 (k:Int))).ev tm=.int .i64 (k:Int):=fun _=>rfl
 have e1:Nat.ble k L.length=true:=by simp;exact hk
 have e2:Nat.ble L.length L.length=true:=by simp
 have e4:Nat.blt 0 (L.length+L.length)=true:=by rw[Nat.blt_eq];omega
 have e5:Nat.beq 1 1=true:=rfl
 have e6:Nat.beq 0 (0*1)=true:=rfl
 have e7:Nat.ble L.length (L.map iv).length=true:=by simp
 have e8:slkRoom h b 0 1=L.length:=by simp[slkRoom,hb,lenN_eq]
 simp only[slcFrom,q_slc,slkOk,hb,lenN_eq,e5,e6,e7,og_true,e8,bnd3,natO,hi,natk_cst,bnds,e1,e2,subS,e4,Nat.mul_one,Nat.zero_add]
theorem slcTo_gr {h:H}{b k:Nat}{L:List Int}(hb:h.get b=some (.cells (.gr 1) (L.map iv)))(h0:0<L.length)(hk:k≤L.length):slcTo h 1 (.sl b 0 L.length (.slk 0 0)) (.int .i64 (k:Int))=some (.sl b 0 k (.slk 0 0)):=by
 have hi:∀tm:T V,(Opd.c (.int .i64 (k:Int))).ev tm=.int .i64 (k:Int):=fun _=>rfl
 have e1:Nat.ble 0 k=true:=by simp
 have e2:Nat.ble k L.length=true:=by simp;exact hk
 have e3:Nat.ble L.length L.length=true:=by simp
 have e4:Nat.blt 0 (L.length+k)=true:=by rw[Nat.blt_eq];omega
 have e5:Nat.beq 1 1=true:=rfl
 have e6:Nat.beq 0 (0*1)=true:=rfl
 have e7:Nat.ble L.length (L.map iv).length=true:=by simp
 have e8:slkRoom h b 0 1=L.length:=by simp[slkRoom,hb,lenN_eq]
 simp only[slcTo,q_slc,slkOk,hb,lenN_eq,e5,e6,e7,og_true,e8,bnd3,natO,hi,natk_cst,bnds,e1,e2,e3,subS,e4,Nat.mul_one,Nat.zero_add,Nat.sub_zero]
theorem getD_some {l:List Int}{i:Nat}(h:i<l.length):l[i]? =some (l.getD i 0):=by rw[List.getD_eq_getElem?_getD,List.getElem?_eq_getElem h];rfl
theorem dd_ne {l:List Int}{n:Nat}(hn:n<l.length)(h:n=0∨l.getD n 0≠l.getD (n-1) 0):dd l (n+1)=dd l n++[l.getD n 0]:=dd_new (getD_some hn) fun⟨h1,h2⟩=>by
 rcases h with h|h
 ·omega
 ·rw[getD_some (by omega)] at h2;exact h (Option.some.inj h2).symm
theorem dd_eq {l:List Int}{n:Nat}(hn:n<l.length)(h0:0<n)(h:l.getD n 0=l.getD (n-1) 0):dd l (n+1)=dd l n:=dd_same (getD_some hn) ⟨h0,by rw[getD_some (by omega),h]⟩
theorem take_getD {l:List Int}{n:Nat}(hn:n<l.length):l.take (n+1)=l.take n++[l.getD n 0]:=by
 rw[List.take_add_one,getD_some hn];rfl
theorem SlAt.cut {h:H}{b m:Nat}{L:List Int}{c:Cap}(hb:h.get b=some (.cells (.gr 1) (L.map iv)))(hm:m≤L.length)(hl:L.length≤1000000):SlAt h (.sl b 0 m c) 1 ((L.take m).map fun n=>[.int .i64 n]):=by
 refine⟨fun r hr=>by obtain⟨_,_,rfl⟩:=List.mem_map.1 hr;rfl,by rw[List.length_map,List.length_take];omega,.inr ⟨b,0,c,L.map iv,?_,.inr (cells_of hb),?_⟩⟩
 ·rw[List.length_map,List.length_take,Nat.min_eq_left hm]
 ·have e:((L.take m).map fun n=>[V.int .i64 n]).flatten=(L.take m).map iv:=by
   generalize L.take m=K
   induction K with
   |nil=>rfl
   |cons a K ih=>rw[List.map_cons,List.flatten_cons,ih];rfl
  rw[e,List.length_map,List.length_take,Nat.min_eq_left hm,Nat.mul_one]
  refine getN_eq.2 ⟨?_,by rw[List.length_map];omega⟩
  rw[List.drop_zero,←List.map_take]
namespace Tryz
open Go.Proofs
set_option maxHeartbeats 4000000 in
theorem Compact_ev {h0 h:H}{b:Nat}{l:List Int}(hs:h0.Sub h)(hw0:h0.wf)(lb0:h0.next≤b)(hb:h.get b=some (.cells (.gr 1) (l.map iv)))(h1:1≤l.length)(hl:l.length≤100000)(Q:V→H→Prop)
  (q:∀y h',h0.Sub h'→Keeps (fun c=>c=b) h h'→SlAt h' y 1 ((dd l l.length).map encI)→Q y h'):Ev fnG fastA (.fn 116 [] []) [.sl b 0 l.length (.slk 0 0)] h Q:=by
 have hw:=hs.wf
 have whole:∀{hh:H} {L:List Int},hh.get b=some (.cells (.gr 1) (L.map iv))→L.length=l.length→∀m c,m≤l.length→SlAt hh (.sl b 0 m c) 1 ((L.take m).map encI):=fun hg hL m c hm=>SlAt.cut hg (by omega) (by omega)
 refine Ev_body (fd:=c116) rfl rfl rfl ?_
 by_cases h2:l.length<2
 ·have hn2:(l.length:Int)<2:=by omega
  have e1:l.length=1:=by omega
  simp -implicitDefEqProofs(maxSteps:=999999)(disch:=first|with_reducible rfl|omega|(simp only[nA,nS,nD]<;>omega)|fail)only[c116,go_sem,hn2]
  have hdd:dd l l.length=l.take l.length:=by
   rw[e1,dd_ne (by omega) (.inl rfl),take_getD (by omega)];rfl
  exact q _ _ hs (Keeps.refl _ _) (by rw[hdd];exact whole hb rfl _ _ (Nat.le_refl _))
 have hn2:¬(l.length:Int)<2:=by omega
 have hiad:∀k:Nat,k<l.length→q_iad 1 (.sl b 0 l.length (.slk 0 0)) (.int .i64 (k:Int))=some (.ptr b k):=fun k hk=>by
  rw[q_iad_sl (nat_cst k) hk,Nat.mul_one,Nat.zero_add]
 simp -implicitDefEqProofs(maxSteps:=999999)(disch:=first|with_reducible rfl|omega|(simp only[nA,nS,nD]<;>omega)|fail)only[c116,go_sem,hn2]
 refine W_loop (fun kk s=>∃tm i,s=⟨tm,h,[]⟩∧kk=l.length-i∧1≤i∧i≤l.length∧dd l i=l.take i∧(Opd.t 0).ev tm=.sl b 0 l.length (.slk 0 0)∧(Opd.t 3).ev tm=.int .i64 (i:Int)) ?_ (l.length-1) _
  ⟨_,1,rfl,rfl,Nat.le_refl _,by omega,by rw[dd_ne (by omega) (.inl rfl),take_getD (by omega)];rfl,(by simp[ev_c,ev_put]<;>rfl),(by simp[ev_c,ev_put]<;>rfl)⟩
 rintro kk s ⟨tm,i,rfl,hkk,i1,i2,hdd,t0,t3⟩
 by_cases hi:i<l.length
 ·have hi':(i:Int)<(l.length:Int):=by omega
  have e1:(i:Int)-1=((i-1:Nat):Int):=by omega
  have n1:=nth_iv hi
  have n2:=nth_iv (L:=l) (k:=i-1) (by omega)
  by_cases heq:l.getD i 0=l.getD (i-1) 0
  ·have deq:decide (l.getD i 0=l.getD (i-1) 0)=true:=decide_eq_true heq
   have hfrom:=slcFrom_gr hb (by omega) (k:=i) (by omega)
   have lb:=hw _ _ hb
   have hdd1:dd l (i+1)=l.take i:=by rw[dd_eq hi (by omega) heq,hdd]
   simp -implicitDefEqProofs(maxSteps:=999999)(disch:=first|with_reducible rfl|omega|(simp only[nA,nS,nD]<;>omega)|fail)only[go_sem,t0,t3,hi',wr_in,e1,hiad i hi,hiad (i-1) (by omega),cells_of hb,n1,n2,deq,q_slc_from,hfrom]
   refine W.mono (Q:=fun x1 s=>x1=.ext 2∧∃(tm:Go.Ab.T V) (hh:H) (L:List Int) (m:Nat),s=⟨tm,hh,[]⟩∧h0.Sub hh∧Keeps (fun c=>c=b) h hh∧hh.get b=some (.cells (.gr 1) (L.map iv))∧L.length=l.length∧m<l.length∧L.take m=dd l l.length∧(Opd.t 0).ev tm=.sl b 0 l.length (.slk 0 0)∧(Opd.t 3).ev tm=.int .i64 (m:Int))
    (W_loop (fun kk s=>∃(tm:Go.Ab.T V) (hh:H) (L:List Int) (m k2:Nat),s=⟨tm,hh,[]⟩∧kk=l.length-i-k2∧1≤k2∧i+k2≤l.length∧m+1≤i+k2∧h0.Sub hh∧Keeps (fun c=>c=b) h hh∧hh.get b=some (.cells (.gr 1) (L.map iv))∧L.length=l.length∧
     L.take m=dd l (i+k2)∧(∀j,i+k2≤j+1→L.getD j 0=l.getD j 0)∧
     (Opd.t 0).ev tm=.sl b 0 l.length (.slk 0 0)∧(Opd.t 3).ev tm=.int .i64 (m:Int)∧(Opd.t 4).ev tm=.sl b i (l.length-i) (.slk i 0)∧(Opd.t 5).ev tm=.int .i64 (k2:Int)) ?_ (l.length-i-1) _
     ⟨_,_,l,i,1,rfl,rfl,Nat.le_refl _,by omega,by omega,hs,Keeps.refl _ _,hb,rfl,hdd1.symm,fun _ _=>rfl,(by simp[ev_c,ev_put,t0]<;>rfl),(by simp[ev_c,ev_put,t3]<;>rfl),(by simp[ev_c,ev_put]<;>rfl),(by simp[ev_c,ev_put]<;>rfl)⟩) fun x1 s hx1=>?_
   ·rintro kk s ⟨tm,hh,L,m,k2,rfl,hkk,k1,k3,k4,sh,kp,gL,hL,hT,hR,t0,t3,t4,t5⟩
    by_cases hk:k2<l.length-i
    ·have hk':(k2:Int)<((l.length-i:Nat):Int):=by omega
     have e2:(k2:Int)-1=((k2-1:Nat):Int):=by omega
     have a1:q_iad 1 (.sl b i (l.length-i) (.slk i 0)) (.int .i64 (k2:Int))=some (.ptr b (i+k2)):=by rw[q_iad_sl (nat_cst k2) hk,Nat.mul_one]
     have a2:q_iad 1 (.sl b i (l.length-i) (.slk i 0)) (.int .i64 ((k2-1:Nat):Int))=some (.ptr b (i+(k2-1))):=by rw[q_iad_sl (nat_cst (k2-1)) (by omega),Nat.mul_one]
     have a3:=hiad m (by omega)
     have v1:=nth_iv (L:=L) (k:=i+k2) (by omega)
     have v2:=nth_iv (L:=L) (k:=i+(k2-1)) (by omega)
     rw[hR _ (by omega)] at v1 v2
     have lb2:=sh.wf _ _ gL
     by_cases hd:l.getD (i+k2) 0=l.getD (i+(k2-1)) 0
     ·have hne:decide (l.getD (i+k2) 0≠l.getD (i+(k2-1)) 0)=false:=by simpa using hd
      simp -implicitDefEqProofs(maxSteps:=999999)(disch:=first|with_reducible rfl|omega|(simp only[nA,nS,nD]<;>omega)|fail)only[go_sem,t0,t3,t4,t5,hk',wr_in,e2,a1,a2,cells_of gL,v1,v2,hne,wr_succ]
      exact⟨_,by omega,_,_,L,m,k2+1,rfl,rfl,by omega,by omega,by omega,sh,kp,gL,hL,by rw[hT,←Nat.add_assoc,dd_eq (by omega) (by omega) (by rw[hd];congr 1;omega)],fun j hj=>hR j (by omega),(by simp[ev_c,ev_put,t0]<;>rfl),(by simp[ev_c,ev_put,t3]<;>rfl),(by simp[ev_c,ev_put,t4]<;>rfl),(by simp[ev_c,ev_put]<;>rfl)⟩
     ·have hne:decide (l.getD (i+k2) 0≠l.getD (i+(k2-1)) 0)=true:=by simpa using hd
      have hp:=put_iv (L:=L) (i:=m) (by omega) (l.getD (i+k2) 0)
      simp -implicitDefEqProofs(maxSteps:=999999)(disch:=first|with_reducible rfl|omega|(simp only[nA,nS,nD]<;>omega)|fail)only[go_sem,t0,t3,t4,t5,hk',wr_in,e2,a1,a2,a3,cells_of gL,gL,v1,v2,hne,hp,wr_succ]
      refine⟨_,by omega,_,_,L.set m (l.getD (i+k2) 0),m+1,k2+1,rfl,rfl,by omega,by omega,by omega,sh.set lb0 lb2 hw0 _,(kp.trans (Keeps.set hh b _)).mono fun c h=>h.elim id id,get_set_same rfl,by rw[List.length_set];exact hL,?_,fun j hj=>?_,(by simp[ev_c,ev_put,t0]<;>rfl),(by simp[ev_c,ev_put]<;>rfl),(by simp[ev_c,ev_put,t4]<;>rfl),(by simp[ev_c,ev_put]<;>rfl)⟩
      ·rw[←Nat.add_assoc,dd_ne (by omega) (.inr (by intro e;apply hd;rw[e];congr 1;omega)),←hT,take_getD (by rw[List.length_set];omega)]
       rw[List.take_set_of_le (Nat.le_refl _)]
       congr 2
       rw[List.getD_eq_getElem?_getD,List.getElem?_set_self (by omega)];rfl
      ·rw[←hR j (by omega),List.getD_eq_getElem?_getD,List.getElem?_set_ne (by omega),←List.getD_eq_getElem?_getD]
    ·have hk':¬(k2:Int)<((l.length-i:Nat):Int):=by omega
     have hke:i+k2=l.length:=by omega
     simp -implicitDefEqProofs(maxSteps:=999999)(disch:=first|with_reducible rfl|omega|(simp only[nA,nS,nD]<;>omega)|fail)only[go_sem,t0,t3,t4,t5,hk']
     exact⟨_,_,L,m,rfl,sh,kp,gL,hL,by omega,by rw[hT,hke],(by simp[ev_c,ev_put,t0]<;>rfl),(by simp[ev_c,ev_put,t3]<;>rfl)⟩
   clear t0 t3
   obtain⟨rfl,tm,hh,L,m,rfl,sh,kp,gL,hL,hm,hT,t0,t3⟩:=hx1
   have f1:=slcFrom_gr gL (by omega) (k:=m) (by omega)
   rw[hL] at f1
   obtain⟨n,hn⟩:∃n,l.length-m=n+1:=⟨l.length-m-1,by omega⟩
   have hrep:∀n,repN n [V.int .i64 0]=(List.replicate n (0:Int)).map iv:=fun n=>by
    induction n with
    |zero=>rfl
    |succ n ih=>simp only[repN,appN_eq,ih,List.replicate_succ,List.map_cons];rfl
   have hp:putN m ((List.replicate (n+1) (0:Int)).map iv) (L.map iv)=some ((L.take m++List.replicate (n+1) 0).map iv):=by
    have:=putN_app (pre:=(L.take m).map iv) (new:=(List.replicate (n+1) (0:Int)).map iv) (old:=(L.drop m).map iv) (rest:=[]) (by simp;omega)
    rw[List.length_map,List.length_take,Nat.min_eq_left (by omega),List.append_nil,List.append_nil,←List.map_append,List.take_append_drop,←List.map_append] at this
    exact this
   have ho:allOne ((List.replicate (n+1) (0:Int)).map iv)=true:=by
    rw[allOne_eq]
    intro v hv
    obtain⟨_,_,rfl⟩:=List.mem_map.1 hv;rfl
   have hclr:e_clr hh [V.int .i64 0] (.sl b m (l.length-m) (.slk m 0))=some (.und,hh.set b (.cells (.gr 1) ((L.take m++List.replicate (n+1) 0).map iv))):=by
    rw[e_clr_sl,hn,hrep]
    rw[List.replicate_succ,List.map_cons] at hp ho⊢
    rw[H.put_gr ho gL hp,withV_some]
   have gS:(hh.set b (.cells (.gr 1) ((L.take m++List.replicate (n+1) 0).map iv))).get b=some (.cells (.gr 1) ((L.take m++List.replicate (n+1) 0).map iv)):=get_set_same rfl
   have ll:(L.take m++List.replicate (n+1) (0:Int)).length=l.length:=by simp;omega
   have f2:=slcTo_gr gS (by omega) (k:=m) (by omega)
   rw[ll] at f2
   have lb2:=sh.wf _ _ gL
   simp -implicitDefEqProofs(maxSteps:=999999)(disch:=first|with_reducible rfl|omega|(simp only[nA,nS,nD]<;>omega)|fail)only[go_sem,t0,t3,q_slc_from,f1,WI_clr,hclr,q_slc_to,f2]
   refine q _ _ (sh.set lb0 lb2 hw0 _) ((kp.trans (Keeps.set hh b _)).mono fun c h=>h.elim id id) ?_
   have:=whole gS ll m (.slk 0 0) (by omega)
   rw[List.take_append_of_le_length (by rw[List.length_take];omega),List.take_take,Nat.min_self] at this
   rw[←hT];exact this
  ·have dne:decide (l.getD i 0=l.getD (i-1) 0)=false:=decide_eq_false heq
   simp -implicitDefEqProofs(maxSteps:=999999)(disch:=first|with_reducible rfl|omega|(simp only[nA,nS,nD]<;>omega)|fail)only[go_sem,t0,t3,hi',wr_in,e1,hiad i hi,hiad (i-1) (by omega),cells_of hb,n1,n2,dne,wr_succ]
   exact⟨_,by omega,_,i+1,rfl,rfl,by omega,by omega,by rw[dd_ne hi (.inr heq),hdd,take_getD hi],(by simp[ev_c,ev_put,t0]<;>rfl),(by simp[ev_c,ev_put]<;>rfl)⟩
 ·have hi':¬(i:Int)<(l.length:Int):=by omega
  have hie:i=l.length:=by omega
  simp -implicitDefEqProofs(maxSteps:=999999)(disch:=first|with_reducible rfl|omega|(simp only[nA,nS,nD]<;>omega)|fail)only[go_sem,t0,t3,hi']
  rw[hie] at hdd
  exact q _ _ hs (Keeps.refl _ _) (by rw[hdd];exact whole hb rfl _ _ (Nat.le_refl _))
end Tryz
end Go.Ab
namespace Go.Ab.Tryz
open Go.Proofs
theorem sortI_len (l:List Int):(sortI l).length=l.length:=(sortI_perm l).length_eq
theorem sort_ev {h:H}{b:Nat}{l:List Int}(hb:h.get b=some (.cells (.gr 1) (l.map iv)))(h1:1≤l.length)(hl:l.length≤100000)(Q:V→H→Prop):
  Ev fnG fastA (.fn 149 [] []) [.sl b 0 l.length (.slk 0 0)] h Q=Q (.tup []) (h.set b (.cells (.gr 1) ((sortI l).map iv))):=by
 refine Ev.det ⟨1,.tup [],h.set b (.cells (.gr 1) ((sortI l).map iv)),?_,rfl,rfl⟩ Q
 have e:evV fnG fastA 1 (.fn 149 [] []) [.sl b 0 l.length (.slk 0 0)] h=sortF [.sl b 0 l.length (.slk 0 0)] h:=rfl
 rw[e]
 have b1:Nat.blt 0 l.length=true:=by rw[Nat.blt_eq];omega
 have b2:Nat.blt l.length 4611686018427387904=true:=by rw[Nat.blt_eq];omega
 have hg:getN 0 l.length (l.map iv)=some (l.map iv):=getN_iv l
 have hi:intsOf (l.map iv)=some l:=intsOf_map l
 have hp:h.put b 0 ((sortI l).map (V.int .i64))=some (h.set b (.cells (.gr 1) ((sortI l).map iv))):=by
  obtain⟨v,vs,hv⟩:∃v vs,(sortI l).map iv=v::vs:=by
   cases hc:(sortI l).map iv with
   |nil=>have:=congrArg List.length hc;rw[List.length_map,sortI_len,List.length_nil] at this;omega
   |cons v vs=>exact⟨v,vs,rfl⟩
  have ho:allOne ((sortI l).map iv)=true:=allOne_iv _
  have hp:putN 0 ((sortI l).map iv) (l.map iv)=some ((sortI l).map iv):=by
   have:=putN_app (pre:=[]) (new:=(sortI l).map iv) (old:=l.map iv) (rest:=[]) (by rw[List.length_map,List.length_map,sortI_len])
   simpa using this
  show h.put b 0 ((sortI l).map iv)=_
  rw[hv] at ho hp⊢
  exact H.put_gr ho hb hp
 simp only[sortF,b1,b2,og_true,cells_of hb,hg,hi,hp,withV_some]
theorem rise_ev {h0 h:H}{w:V}{l:List Int}(o:OwnSl h0 h w 1 (l.map encI))(hw0:h0.wf)(h1:1≤l.length)(hl:l.length≤100000):∃b,w=.sl b 0 l.length (.slk 0 0)∧h0.next≤b∧h.get b=some (.cells (.gr 1) (l.map iv)):=by
 obtain⟨_,_,o⟩:=o
 rcases o with⟨_,e⟩|⟨b,e,lb,_,g⟩
 ·have:=congrArg List.length e;rw[List.length_map,List.length_nil] at this;omega
 ·rw[List.length_map] at e;rw[flat_iv] at g;exact⟨b,e,lb,g⟩
theorem q_feq_X (a b c d:Int):q_feq false 2 (.agg [.int .i64 a,.int .i64 b]) (.agg [.int .i64 c,.int .i64 d])=some (.bool (decide ((a,b)=(c,d)))):=by
 have:=q_feq_map (n:=2) [a,b] [c,d] rfl rfl false
 have e:decide ([a,b]=[c,d])=decide ((a,b)=(c,d)):=by simp
 rw[e] at this
 exact this
set_option maxHeartbeats 4000000 in
theorem settled_ev {h:H}(hw:h.wf){y:V}{Ps:List Fd}(x:SlAt h y 26 (Ps.map rowF))(hone:∀p∈Ps,allOne (rowF p)=true)(hlen:∀p∈Ps,(rowF p).length=26)(hne:Ps≠[])(hP:Ps.length≤15625){k:Nat}(hr:∀p∈Ps,SlAt h p.1 2 (p.2.1.map encX)∧k<p.2.1.length)
  {g:FuncId} {u v:List V} {of:Int × Int→Int} (hp:∀s,PureA h (.fn g u v) [.agg (encX s)] (.int .i64 (of s))) (Q:V→H→Prop)
  (q:∀w h',h.Sub h'→SlAt h' w 1 ((risL ((dd (Ps.map fun p=>p.2.1.getD k (0,0)) Ps.length).map of)).map encI)→Q w h'):Ev fnG fastA (.fn 79 [] []) [y,.int .i64 (k:Int),.fn g u v] h Q:=by
 have hlY:=x.lenE
 refine Ev_body (fd:=c79) rfl rfl rfl ?_
 simp -implicitDefEqProofs(maxSteps:=999999)(disch:=first|with_reducible rfl|omega|(simp only[nA,nS,nD]<;>omega)|fail)only[c79,go_sem,hlY]
 obtain⟨rk,hrk⟩:∃rk,(Ps.map fun p=>p.2.1.getD k (0,0))=rk:=⟨_,rfl⟩
 have lrk:rk.length=Ps.length:=by rw[←hrk,List.length_map]
 rw[hrk] at q
 have rat:∀{i:Nat} (hi:i<Ps.length),rk[i]? =some (Ps[i].2.1.getD k (0,0)):=fun{i} hi=>by rw[←hrk,List.getElem?_map,List.getElem?_eq_getElem hi];rfl
 refine W_count Ps.length (fun i s=>∃tm z w,s=⟨tm,z,[]⟩∧OwnSl h z w 1 (((dd rk i).map of).map encI)∧(Opd.t 0).ev tm=y∧(Opd.t 1).ev tm=.int .i64 (k:Int)∧(Opd.t 2).ev tm=.fn g u v∧(Opd.t 7).ev tm=w∧(Opd.t 10).ev tm=y∧(Opd.t 11).ev tm=.int .i64 (Ps.length:Int)∧(Opd.t 12).ev tm=.int .i64 (i:Int)) ?_ ?_ (i:=0) (Nat.zero_le _)
  ⟨_,_,_,rfl,OwnSl.nil (H.Sub.refl hw) 1,(by simp[ev_c,ev_put]<;>rfl),(by simp[ev_c,ev_put]<;>rfl),(by simp[ev_c,ev_put]<;>rfl),(by simp[ev_c,ev_put]<;>rfl),(by simp[ev_c,ev_put]<;>rfl),(by simp[ev_c,ev_put]<;>rfl),(by simp[ev_c,ev_put]<;>rfl)⟩
 ·rintro i s hi ⟨tm,z,w,rfl,o,t0,t1,t2,t7,t10,t11,t12⟩
  have hi':(i:Int)<(Ps.length:Int):=by omega
  have sz:=o.1
  obtain⟨b',o',cc',cs',e',hc',hq',hg',hn',_⟩:=(x.mono sz).at hi
  have hpm:=List.getElem_mem hi
  have hoi:=hone _ hpm
  have hli:=hlen _ hpm
  obtain⟨hRi,hki⟩:=hr _ hpm
  have rki:=rat hi
  have la:((dd rk i).map of).length≤15625:=by rw[List.length_map];have:=dd_len (l:=rk) (n:=i);omega
  have hnF:nth 0 (rowF Ps[i])=some Ps[i].1:=rfl
  obtain⟨bR,oR,cR,csR,eR,hcR,hqR,hgR,_,_⟩:=(hRi.mono sz).at hki
  have hgd:Ps[i].2.1.getD k (0,0)=Ps[i].2.1[k]:=by rw[List.getD_eq_getElem?_getD,List.getElem?_eq_getElem hki];rfl
  rw[hgd] at rki
  generalize Ps[i].2.1[k]=sg at hgR rki
  obtain⟨R,hR⟩:∃R,Ps[i].1=R:=⟨_,rfl⟩
  rw[hR] at hnF hqR
  generalize rowF Ps[i]=F at hg' hoi hli hnF
  have nF:F≠[]:=by intro e0;rw[e0] at hli;cases hli
  have lnF:lenN F=26:=by rw[lenN_eq,hli]
  have pF:(z.add (.cells .rw [.nils,.int .i64 0,.int .i64 0,.int .i64 0,.int .i64 0,.int .i64 0,.int .i64 0,.int .i64 0,.int .i64 0,.int .i64 0,.int .i64 0,.int .i64 0,.int .i64 0,.int .i64 0,.int .i64 0,.int .i64 0,.int .i64 0,.int .i64 0,.int .i64 0,.int .i64 0,.int .i64 0,.int .i64 0,.int .i64 0,.int .i64 0,.int .i64 0,.int .i64 0])).put z.next 0 F=some ((z.add (.cells .rw [.nils,.int .i64 0,.int .i64 0,.int .i64 0,.int .i64 0,.int .i64 0,.int .i64 0,.int .i64 0,.int .i64 0,.int .i64 0,.int .i64 0,.int .i64 0,.int .i64 0,.int .i64 0,.int .i64 0,.int .i64 0,.int .i64 0,.int .i64 0,.int .i64 0,.int .i64 0,.int .i64 0,.int .i64 0,.int .i64 0,.int .i64 0,.int .i64 0,.int .i64 0])).set z.next (.cells .rw F)):=put_full (get_add_new rfl) (by rw[hli];rfl) nF hoi
  have sA:=(H.Sub.refl sz.wf).add (.cells .rw F)
  have gA:(z.add (.cells .rw F)).get z.next=some (.cells .rw F):=get_add_new rfl
  obtain⟨zA,hzA⟩:∃zA,z.add (.cells .rw F)=zA:=⟨_,rfl⟩
  rw[hzA] at sA gA
  simp only[encX] at hgR
  have hcRA:=sA.cells hcR
  have hpi:=hp sg
  have oA:=o.mono sA
  by_cases h0:i=0
  ·have hd:dd rk (i+1)=dd rk i++[sg]:=dd_new rki fun⟨h,_⟩=>by omega
   rw[hd,List.map_append,List.map_append]
   generalize(dd rk i).map of=L at o oA la⊢
   have hz:¬(0:Int)<(i:Int):=by omega
   simp -implicitDefEqProofs(maxSteps:=999999)(disch:=first|with_reducible rfl|omega|(simp only[nA,nS,nD]<;>omega)|fail)only[go_sem,t0,t1,t2,t7,t10,t11,t12,hi',hq' (nat_cst i),hc',hg',lnF,pF,hzA,cells_of gA,hz,hnF,hqR (nat_cst k),hcRA,hgR]
   refine hpi.use (sz.trans sA) fun z2 s2=>?_
   have oB:=oA.mono s2
   have s3:=(H.Sub.refl s2.wf).add (.cells .rw [.int .i64 (of sg)])
   have sn:SlAt (z2.add (.cells .rw [.int .i64 (of sg)])) (.sl z2.next 0 1 (.fix 1)) 1 [encI (of sg)]:=SlAt.new _ rfl rfl rfl (by simp[encI]) (by simp)
   simp -implicitDefEqProofs(maxSteps:=999999)(disch:=first|with_reducible rfl|omega|(simp only[nA,nS,nD]<;>omega)|fail)only[go_sem,t0,t1,t2,t7,t10,t11,t12]
   refine(oB.mono s3).app1 (by_:=8) (r:=encI (of sg)) hw rfl (by omega) sn rfl (by rw[List.length_map];omega) (by rw[List.length_map];omega) fun z3 o3 k3 n3=>?_
   rw[H.next_add] at o3
   simp -implicitDefEqProofs(maxSteps:=999999)(disch:=first|with_reducible rfl|omega|(simp only[nA,nS,nD]<;>omega)|fail)only[go_sem,t0,t1,t2,t7,t10,t11,t12,wr_succ]
   exact⟨_,_,_,rfl,o3,(by simp[ev_c,ev_put,t0]<;>rfl),(by simp[ev_c,ev_put,t1]<;>rfl),(by simp[ev_c,ev_put,t2]<;>rfl),(by simp[ev_c,ev_put]<;>rfl),(by simp[ev_c,ev_put,t10]<;>rfl),(by simp[ev_c,ev_put,t11]<;>rfl),(by simp[ev_c,ev_put]<;>rfl)⟩
  ·have hz:(0:Int)<(i:Int):=by omega
   have hj:i-1<Ps.length:=by omega
   have hw1:wr .i64 ((i:Int)-1)=((i-1:Nat):Int):=by rw[wr_in (by omega) (by omega)];omega
   obtain⟨b2,o2,cc2,cs2,e2,hc2,hq2,hg2,hn2,_⟩:=(x.mono sz).at hj
   obtain⟨hRj,hkj⟩:=hr _ (List.getElem_mem hj)
   have rkj:=rat hj
   have hgdj:Ps[i-1].2.1.getD k (0,0)=Ps[i-1].2.1[k]:=by rw[List.getD_eq_getElem?_getD,List.getElem?_eq_getElem hkj];rfl
   rw[hgdj] at rkj
   obtain⟨bS,oS,cS,csS,eS,hcS,hqS,hgS,_,_⟩:=(hRj.mono sz).at hkj
   have hnS:nth (o2+(i-1)*26) cs2=some Ps[i-1].1:=by have:=hn2 0 (by decide);rw[Nat.add_zero] at this;rw[this];rfl
   generalize Ps[i-1].2.1[k]=sj at hgS rkj
   obtain⟨R2,hR2⟩:∃R2,Ps[i-1].1=R2:=⟨_,rfl⟩
   rw[hR2] at hnS hqS
   simp only[encX] at hgS
   have hc2A:=sA.cells hc2
   have hcSA:=sA.cells hcS
   have hfe:=q_feq_X sg.1 sg.2 sj.1 sj.2
   by_cases heq:sg=sj
   ·have hd:dd rk (i+1)=dd rk i:=dd_same rki ⟨by omega,by rw[rkj,heq]⟩
    have hde:decide ((sg.1,sg.2)=(sj.1,sj.2))=true:=decide_eq_true heq
    rw[hde] at hfe
    rw[hd]
    simp -implicitDefEqProofs(maxSteps:=999999)(disch:=first|with_reducible rfl|omega|(simp only[nA,nS,nD]<;>omega)|fail)only[go_sem,t0,t1,t2,t7,t10,t11,t12,hi',hq' (nat_cst i),hc',hg',lnF,pF,hzA,cells_of gA,hz,hnF,hqR (nat_cst k),hcRA,hgR,hw1,hq2 (nat_cst (i-1)),hc2A,hnS,hqS (nat_cst k),hcSA,hgS,hfe,wr_succ]
    exact⟨_,_,_,rfl,oA,(by simp[ev_c,ev_put,t0]<;>rfl),(by simp[ev_c,ev_put,t1]<;>rfl),(by simp[ev_c,ev_put,t2]<;>rfl),(by simp[ev_c,ev_put,t7]<;>rfl),(by simp[ev_c,ev_put,t10]<;>rfl),(by simp[ev_c,ev_put,t11]<;>rfl),(by simp[ev_c,ev_put]<;>rfl)⟩
   ·have hd:dd rk (i+1)=dd rk i++[sg]:=dd_new rki fun⟨_,h⟩=>by rw[rkj] at h;exact heq (Option.some.inj h).symm
    have hde:decide ((sg.1,sg.2)=(sj.1,sj.2))=false:=decide_eq_false heq
    rw[hde] at hfe
    rw[hd,List.map_append,List.map_append]
    generalize(dd rk i).map of=L at o oA la⊢
    simp -implicitDefEqProofs(maxSteps:=999999)(disch:=first|with_reducible rfl|omega|(simp only[nA,nS,nD]<;>omega)|fail)only[go_sem,t0,t1,t2,t7,t10,t11,t12,hi',hq' (nat_cst i),hc',hg',lnF,pF,hzA,cells_of gA,hz,hnF,hqR (nat_cst k),hcRA,hgR,hw1,hq2 (nat_cst (i-1)),hc2A,hnS,hqS (nat_cst k),hcSA,hgS,hfe]
    refine hpi.use (sz.trans sA) fun z2 s2=>?_
    have oB:=oA.mono s2
    have s3:=(H.Sub.refl s2.wf).add (.cells .rw [.int .i64 (of sg)])
    have sn:SlAt (z2.add (.cells .rw [.int .i64 (of sg)])) (.sl z2.next 0 1 (.fix 1)) 1 [encI (of sg)]:=SlAt.new _ rfl rfl rfl (by simp[encI]) (by simp)
    simp -implicitDefEqProofs(maxSteps:=999999)(disch:=first|with_reducible rfl|omega|(simp only[nA,nS,nD]<;>omega)|fail)only[go_sem,t0,t1,t2,t7,t10,t11,t12]
    refine(oB.mono s3).app1 (by_:=8) (r:=encI (of sg)) hw rfl (by omega) sn rfl (by rw[List.length_map];omega) (by rw[List.length_map];omega) fun z3 o3 k3 n3=>?_
    rw[H.next_add] at o3
    simp -implicitDefEqProofs(maxSteps:=999999)(disch:=first|with_reducible rfl|omega|(simp only[nA,nS,nD]<;>omega)|fail)only[go_sem,t0,t1,t2,t7,t10,t11,t12,wr_succ]
    exact⟨_,_,_,rfl,o3,(by simp[ev_c,ev_put,t0]<;>rfl),(by simp[ev_c,ev_put,t1]<;>rfl),(by simp[ev_c,ev_put,t2]<;>rfl),(by simp[ev_c,ev_put]<;>rfl),(by simp[ev_c,ev_put,t10]<;>rfl),(by simp[ev_c,ev_put,t11]<;>rfl),(by simp[ev_c,ev_put]<;>rfl)⟩
 ·rintro s ⟨tm,z,w,rfl,o,t0,t1,t2,t7,t10,t11,t12⟩
  have lp:=List.length_pos_iff.2 hne
  have ll:((dd rk Ps.length).map of).length≤15625:=by rw[List.length_map];have:=dd_len (l:=rk) (n:=Ps.length);omega
  have l1:1≤((dd rk Ps.length).map of).length:=by rw[List.length_map];exact dd_pos (by omega) lp
  generalize(dd rk Ps.length).map of=L at o ll l1 q
  obtain⟨b,rfl,lb,gb⟩:=rise_ev o hw (by omega) (by omega)
  have lz:=o.1.wf _ _ gb
  have s2:=o.1.set lb lz hw (.cells (.gr 1) ((sortI L).map iv))
  have g2:(z.set b (.cells (.gr 1) ((sortI L).map iv))).get b=some (.cells (.gr 1) ((sortI L).map iv)):=get_set_same rfl
  simp -implicitDefEqProofs(maxSteps:=999999)(disch:=first|with_reducible rfl|omega|(simp only[nA,nS,nD]<;>omega)|fail)only[go_sem,t0,t1,t2,t7,t10,t11,t12,Int.lt_irrefl,sort_ev gb (by omega) (by omega)]
  rw[←sortI_len L]
  refine Compact_ev s2 hw lb g2 (by rw[sortI_len];omega) (by rw[sortI_len];omega) _ fun yy h' s' k' x'=>?_
  simp -implicitDefEqProofs(maxSteps:=999999)(disch:=first|with_reducible rfl|omega|(simp only[nA,nS,nD]<;>omega)|fail)only[go_sem]
  exact q _ _ s' x'
end Go.Ab.Tryz
namespace Go.Ab.Tryz
open Go.Proofs
end Go.Ab.Tryz
namespace Go.Ab.Tryz
open Go.Proofs
def lstF (l:List Int)(i:Nat):Bool:=l.any fun r=>decide ((i:Int)=r)
end Go.Ab.Tryz
namespace Go.Ab.Silk
def comb:Nat→Nat→Int→List (List Int)
 |0,_,_=>[[]]
 |_+1,0,_=>[]
 |k+1,f+1,i=>(comb k f (i+1)).map (fun l=>i::l)++comb (k+1) f (i+1)
def lexlt:List Int→List Int→Bool
 |a::l,b::r=>if a=b then lexlt l r else decide (a<b)
 |_,_=>false
def before (a b:List Int):Bool:=if a.length=b.length then lexlt a b else decide (a.length<b.length)
def Inc (hi:Int):Int→List Int→Prop
 |_,[]=>True
 |i,a::l=>i≤a∧a<hi∧Inc hi (a+1) l
theorem Inc.lower {hi:Int}:∀{i j:Int} {l:List Int},Inc hi i l→j≤i→Inc hi j l
 |_,_,[],_,_=>trivial
 |i,j,a::l,h,hj=>⟨by have:=h.1;omega,h.2.1,h.2.2⟩
theorem Inc.mem {hi:Int}:∀{i:Int} {l:List Int},Inc hi i l→∀x∈l,i≤x∧x<hi
 |_,[],_,x,hx=>by cases hx
 |i,a::l,h,x,hx=>by
  rcases List.mem_cons.1 hx with rfl|hx
  ·exact⟨h.1,h.2.1⟩
  ·have:=Inc.mem h.2.2 x hx;have:=h.1;omega
theorem Inc.len {hi:Int}:∀{i:Int} {l:List Int},Inc hi i l→i≤hi→(l.length:Int)≤hi-i
 |i,[],_,h=>by simp only[List.length_nil];omega
 |i,a::l,h,hl=>by
  have:=Inc.len h.2.2 (by have:=h.2.1;omega)
  have:=h.1
  simp only[List.length_cons];omega
theorem mem_comb:∀(k f:Nat) (i:Int) (l:List Int),l∈comb k f i↔l.length=k∧Inc (i+f) i l
 |0,f,i,l=>by
  simp only[comb,List.mem_singleton]
  constructor
  ·rintro rfl;exact⟨rfl,trivial⟩
  ·rintro⟨h,_⟩;exact List.length_eq_zero_iff.1 h
 |k+1,0,i,l=>by
  simp only[comb,List.not_mem_nil,false_iff]
  rintro⟨h,h2⟩
  cases l with
  |nil=>cases h
  |cons a l=>have:=h2.1;have:=h2.2.1;omega
 |k+1,f+1,i,l=>by
  simp only[comb,List.mem_append,List.mem_map,mem_comb k f (i+1),mem_comb (k+1) f (i+1)]
  have e:i+1+(f:Int)=i+((f+1:Nat):Int):=by omega
  rw[e]
  constructor
  ·rintro(⟨c,⟨h1,h2⟩,rfl⟩|⟨h1,h2⟩)
   ·exact⟨by simp[h1],Int.le_refl _,by omega,h2⟩
   ·exact⟨h1,h2.lower (by omega)⟩
  ·rintro⟨h1,h2⟩
   cases l with
   |nil=>cases h1
   |cons a l=>
    simp only[List.length_cons,Nat.add_right_cancel_iff] at h1
    by_cases ha:a=i
    ·subst ha;exact .inl ⟨l,⟨h1,h2.2.2⟩,rfl⟩
    ·exact .inr ⟨by simp[h1],⟨by have:=h2.1;omega,h2.2.1,h2.2.2⟩⟩
theorem find_min (P:List Int→Bool):∀(k f:Nat) (i:Int) {c:List Int},(comb k f i).find? P=some c→c∈comb k f i∧P c=true∧∀d∈comb k f i,P d=true→d=c∨lexlt c d=true
 |0,f,i,c,h=>by
  simp only[comb] at *
  have h1:=List.mem_of_find?_eq_some h
  have h2:=List.find?_some h
  refine⟨h1,h2,fun d hd _=>.inl ?_⟩
  rw[List.mem_singleton] at h1 hd
  rw[h1,hd]
 |k+1,0,i,c,h=>by simp[comb] at h
 |k+1,f+1,i,c,h=>by
  simp only[comb] at *
  rw[List.find?_append] at h
  cases h1:((comb k f (i+1)).map (fun l=>i::l)).find? P with
  |some x=>
   rw[h1] at h
   have hx:x=c:=by simpa using h
   subst hx
   rw[List.find?_map] at h1
   rw[Option.map_eq_some_iff] at h1
   obtain⟨y,h1,rfl⟩:=h1
   obtain⟨m1,m2,m3⟩:=find_min (P∘ fun l=>i::l) k f (i+1) h1
   refine⟨List.mem_append.2 (.inl (List.mem_map.2 ⟨y,m1,rfl⟩)),m2,fun d hd hp=>?_⟩
   rcases List.mem_append.1 hd with hd|hd
   ·obtain⟨z,hz,rfl⟩:=List.mem_map.1 hd
    rcases m3 z hz hp with rfl|h
    ·exact .inl rfl
    ·exact .inr (by simp[lexlt,h])
   ·right
    obtain⟨d1,d2⟩:=(mem_comb _ _ _ _).1 hd
    cases d with
    |nil=>cases d1
    |cons a d=>
     have:=d2.1
     simp only[lexlt]
     rw[if_neg (by omega)];simp only[decide_eq_true_eq];omega
  |none=>
   rw[h1] at h
   have h2:(comb (k+1) f (i+1)).find? P=some c:=by simpa using h
   obtain⟨m1,m2,m3⟩:=find_min P (k+1) f (i+1) h2
   refine⟨List.mem_append.2 (.inr m1),m2,fun d hd hp=>?_⟩
   rcases List.mem_append.1 hd with hd|hd
   ·have:=List.find?_eq_none.1 h1 d hd
    exact absurd hp this
   ·exact m3 d hd hp
def firstOf (P:List Int→Bool)(W:Nat):Nat→Nat→Option (List Int)
 |0,_=>none
 |r+1,k=>match(comb k W 0).find? P with
  |some c=>some c
  |none=>firstOf P W r (k+1)
structure IsMin (P:List Int→Bool)(W:Nat)(c:List Int):Prop where
 inc:Inc W 0 c
 holds:P c=true
 min:∀d,Inc W 0 d→P d=true→d=c∨before c d=true
theorem firstOf_spec (P:List Int→Bool)(W:Nat):∀(r k:Nat),r+k=W+1→(∀d,Inc W 0 d→d.length<k→P d=false)→
  (∃c,firstOf P W r k=some c∧IsMin P W c)∨(firstOf P W r k=none∧∀d,Inc W 0 d→P d=false)
 |0,k,hk,h=>.inr ⟨rfl,fun d hd=>h d hd (by have:=hd.len (by omega);omega)⟩
 |r+1,k,hk,h=>by
  simp only[firstOf]
  cases hf:(comb k W 0).find? P with
  |some c=>
   obtain⟨m1,m2,m3⟩:=find_min P k W 0 hf
   obtain⟨c1,c2⟩:=(mem_comb _ _ _ _).1 m1
   rw[Int.zero_add] at c2
   refine .inl ⟨c,rfl,c2,m2,fun d hd hp=>?_⟩
   have hl:¬d.length<k:=fun hl=>by rw[h d hd hl] at hp;cases hp
   by_cases e:d.length=k
   ·rcases m3 d ((mem_comb _ _ _ _).2 ⟨e,by rw[Int.zero_add];exact hd⟩) hp with h1|h1
    ·exact .inl h1
    ·exact .inr (by unfold before;rw[if_pos (by omega)];exact h1)
   ·exact .inr (by unfold before;rw[if_neg (by omega)];simp only[decide_eq_true_eq];omega)
  |none=>
   refine firstOf_spec P W r (k+1) (by omega) fun d hd hl=>?_
   by_cases e:d.length=k
   ·have:=List.find?_eq_none.1 hf d ((mem_comb _ _ _ _).2 ⟨e,by rw[Int.zero_add];exact hd⟩)
    simpa using this
   ·exact h d hd (by omega)
end Go.Ab.Silk
namespace Go.Ab
theorem Keeps.sub {S:Nat→Prop}{h0 h h':H}(k:Keeps S h h')(s:h0.Sub h)(hw0:h0.wf)(hS:∀c,S c→h0.next≤c)(hw:h'.wf):h0.Sub h':=
 ⟨⟨Nat.le_trans s.next k.1,fun b y e=>k.2 b y (s.get e) fun hs=>by have:=hS b hs;have:=hw0 b y e;omega⟩,hw⟩
theorem nblk (b:Nat):¬blkOf .nils b:=fun⟨_,_,_,e⟩=>by cases e
end Go.Ab
namespace Go.Ab.Tryz
open Go.Proofs
open Go.Ab.Silk (comb)
theorem find_step (P:List Int→Bool)(l:List Int)(k f:Nat)(j:Int):(comb (k+1) (f+1) j).find? (fun c=>P (l++c))=
  match(comb k f (j+1)).find? (fun c=>P ((l++[j])++c)) with|some c=>some (j::c)|none=>(comb (k+1) f (j+1)).find? (fun c=>P (l++c)):=by
 simp only[comb,List.find?_append,List.find?_map]
 have e:(fun c=>P (l++c))∘ (fun l'=>j::l')=fun c=>P ((l++[j])++c):=by
  funext c;simp
 rw[e]
 cases(comb k f (j+1)).find? (fun c=>P ((l++[j])++c))<;>simp
def FnHolds (hb:H)(fv:V)(S:Nat→Prop)(I:H→Prop)(n:Nat)(P:List Int→Bool)(Post:List Int→H→Prop):Prop:=∀(l:List Int) (x:V) (h1:H),(∀a∈l,0≤a∧a<(n:Int))→hb.Sub h1→SlAt h1 x 1 (l.map encI)→l.length≤20→(∀b,blkOf x b→hb.next≤b∧¬S b)→I h1→
 ∀R:V→H→Prop,(∀h2,Keeps S h1 h2→h2.wf→I h2→(P l=true→Post l h2)→R (.bool (P l)) h2)→Ev fnG fastA fv [x] h1 R
def LsRes (P:List Int→Bool)(Post:List Int→H→Prop)(l:List Int)(r:Option (List Int))(t:Bool)(h':H):Prop:=match r with
 |some c=>t=true∧P (l++c)=true∧Post (l++c) h'
 |none=>t=false
set_option maxHeartbeats 2000000 in
theorem lists1_ev {hb:H}(hwb:hb.wf){fv:V}{P:List Int→Bool}{Post:List Int→H→Prop}{S:Nat→Prop}{I:H→Prop}{kC fC nC gC:Nat}{many n:Nat}(hP:FnHolds hb fv S I n P Post)(hI:∀h h',I h→h.Sub h'→I h')(ho:∀c,S c→hb.next≤c)(hS:∀h c,I h→S c→c<h.next)(n1:¬S kC)(n2:¬S fC)(n3:¬S nC)(n4:¬S gC)(hmany:many≤20)(hn:n≤1000):
  ∀(k:Nat) (h:H) (x:V) (l:List Int) (i:Nat),l.length+k=many→(∀a∈l,0≤a∧a<(n:Int))→hb.Sub h→h.cells kC=some [.int .i64 (many:Int)]→h.cells fC=some [fv]→h.cells nC=some [.int .i64 (n:Int)]→h.cells gC=some [.fn 152 [] [.ptr kC 0,.ptr fC 0,.ptr nC 0,.ptr gC 0]]→
   I h→SlAt h x 1 (l.map encI)→(∀b,blkOf x b→hb.next≤b∧¬S b)→i≤n→∀(Q:V→H→Prop),(∀t h',Keeps S h h'→h'.wf→I h'→LsRes P Post l ((comb k (n-i) (i:Int)).find? fun c=>P (l++c)) t h'→Q (.bool t) h')→
   Ev fnG fastA (.fn 152 [] [.ptr kC 0,.ptr fC 0,.ptr nC 0,.ptr gC 0]) [x,.int .i64 (i:Int)] h Q:=by
 intro k
 induction k with
 |zero=>
  intro h x l i hk hlr hs cm ch cd cf go ax nx hi Q q
  have hlx:=ax.lenE
  have hll:(l.length:Int)=(many:Int):=by omega
  refine Ev_body (fd:=c152) rfl rfl rfl ?_
  simp -implicitDefEqProofs(maxSteps:=999999)(disch:=first|with_reducible rfl|omega|(simp only[nA,nS,nD]<;>omega)|fail)only[c152,go_sem,hlx,hll,cm,ch]
  refine hP l x h hlr hs ax (by omega) nx go _ fun h2 k2 w2 go2 hp=>?_
  simp -implicitDefEqProofs(maxSteps:=999999)(disch:=first|with_reducible rfl|omega|(simp only[nA,nS,nD]<;>omega)|fail)only[go_sem]
  refine q _ _ k2 w2 go2 ?_
  have e:(comb 0 (n-i) (i:Int)).find? (fun c=>P (l++c))=if P l=true then some [] else none:=by
   simp only[comb,List.find?_cons,List.find?_nil,List.append_nil]
   cases P l<;>rfl
  rw[e]
  cases hpl:P l
  ·exact rfl
  ·exact⟨rfl,by rw[List.append_nil];exact hpl,by rw[List.append_nil];exact hp hpl⟩
 |succ k ih=>
  intro h x l i hk hlr hs cm ch cd cf hgo ax nx hi Q q
  have hlx:=ax.lenE
  have hll:¬(l.length:Int)=(many:Int):=by omega
  refine Ev_body (fd:=c152) rfl rfl rfl ?_
  simp -implicitDefEqProofs(maxSteps:=999999)(disch:=first|with_reducible rfl|omega|(simp only[nA,nS,nD]<;>omega)|fail)only[c152,go_sem,hlx,hll,cm]
  refine W_count n (fun j s=>∃tm h',s=⟨tm,h',[]⟩∧Keeps S h h'∧h'.wf∧I h'∧((comb (k+1) (n-i) (i:Int)).find? fun c=>P (l++c))=((comb (k+1) (n-j) (j:Int)).find? fun c=>P (l++c))∧
    (Opd.t 0).ev tm=x∧(Opd.t 4).ev tm=.ptr nC 0∧(Opd.t 5).ev tm=.ptr gC 0∧(Opd.t 9).ev tm=.int .i64 (j:Int))
   ?_ ?_ (i:=i) hi ⟨_,_,rfl,Keeps.refl _ _,hs.wf,hgo,rfl,(by simp[ev_c,ev_put]<;>rfl),(by simp[ev_c,ev_put]<;>rfl),(by simp[ev_c,ev_put]<;>rfl),(by simp[ev_c,ev_put]<;>rfl)⟩
  ·rintro j s hj ⟨tm,h',rfl,kh,wh,go,hfind,t0,t4,t5,t9⟩
   have hj':(j:Int)<(n:Int):=by omega
   have hs':hb.Sub h':=kh.sub hs hwb ho wh
   have cm':=kh.cells cm n1
   have ch':=kh.cells ch n2
   have cd':=kh.cells cd n3
   have cf':=kh.cells cf n4
   have ax':=SlAt_keep ax kh fun b h0=>(nx b h0).2
   have hll2:(l.map encI).length≤20:=by simp;omega
   simp -implicitDefEqProofs(maxSteps:=999999)(disch:=first|with_reducible rfl|omega|(simp only[nA,nS,nD]<;>omega)|fail)only[go_sem,t0,t4,t5,t9,cd',hj',cf']
   refine cloneInt_ev wh ax' (by omega) _ fun v h1 ov=>?_
   have s01:=ov.1
   have cf1:=s01.cells cf'
   simp -implicitDefEqProofs(maxSteps:=999999)(disch:=first|with_reducible rfl|omega|(simp only[nA,nS,nD]<;>omega)|fail)only[go_sem,t0,t4,t5,t9]
   have s12:=(H.Sub.refl s01.wf).add (.cells .rw [.int .i64 (j:Int)])
   refine(ov.mono s12).app1 (by_:=8) (r:=encI (j:Int)) wh rfl (by omega) (SlAt.new _ rfl rfl rfl (by simp[encI]) (by simp)) rfl (by omega) (by omega) fun x2 h2 ox2 dx2 kx2=>?_
   have s02:=ox2.1
   have cf2:=s02.cells cf'
   have e2:l.map encI++[encI (j:Int)]=(l++[(j:Int)]).map encI:=by simp
   have ox2':=ox2
   rw[e2] at ox2'
   have ax2:SlAt h2 x2 1 ((l++[(j:Int)]).map encI):=ox2'.sl (by simp;omega)
   simp -implicitDefEqProofs(maxSteps:=999999)(disch:=first|with_reducible rfl|omega|(simp only[nA,nS,nD]<;>omega)|fail)only[go_sem,t0,t4,t5,t9,wr_succ]
   refine ih h2 x2 (l++[(j:Int)]) (j+1) (by simp;omega) (fun a ha=>(List.mem_append.1 ha).elim (hlr a) fun h=>by rw[List.mem_singleton] at h;omega) (hs'.trans s02) (s02.cells cm') (s02.cells ch') (s02.cells cd') cf2 (hI _ _ go s02) ax2 (fun b h0=>⟨by have:=(ox2.blk h0).1;have:=hs'.next;have:=s01.next;omega,fun hq=>by have:=(ox2.blk h0).1;have:=hS _ _ go hq;omega⟩) (by omega) _ fun t h3 k23 w3 go3 hres=>?_
   have k03:Keeps S h h3:=((kh.trans (Keeps.of s02 S)).trans k23).mono fun c h=>by rcases h with(h|h)|h<;>exact h
   have hst:=find_step P l k (n-(j+1)) (j:Int)
   have ef:n-j=(n-(j+1))+1:=by omega
   have ej:((j:Int)+1)=((j+1:Nat):Int):=by omega
   rw[ef,hst,ej] at hfind
   cases hr:(comb k (n-(j+1)) ((j+1:Nat):Int)).find? (fun c=>P ((l++[(j:Int)])++c)) with
   |some c=>
    rw[hr] at hres hfind
    obtain⟨rfl,hp1,hp2⟩:=hres
    simp -implicitDefEqProofs(maxSteps:=999999)(disch:=first|with_reducible rfl|omega|(simp only[nA,nS,nD]<;>omega)|fail)only[go_sem,t0,t4,t5,t9,cf',cf1,s12.cells cf1,cf2]
    refine q _ _ k03 w3 go3 ?_
    rw[hfind]
    exact⟨rfl,by rw[List.append_assoc] at hp1;exact hp1,by rw[List.append_assoc] at hp2;exact hp2⟩
   |none=>
    rw[hr] at hres hfind
    have hres:t=false:=hres
    subst hres
    simp -implicitDefEqProofs(maxSteps:=999999)(disch:=first|with_reducible rfl|omega|(simp only[nA,nS,nD]<;>omega)|fail)only[go_sem,t0,t4,t5,t9,cf',cf1,s12.cells cf1,cf2,wr_succ]
    exact⟨_,_,rfl,k03,w3,go3,hfind,(by simp[ev_c,ev_put,t0]<;>rfl),(by simp[ev_c,ev_put,t4]<;>rfl),(by simp[ev_c,ev_put,t5]<;>rfl),(by simp[ev_c,ev_put]<;>rfl)⟩
  ·rintro s ⟨tm,h',rfl,kh,wh,hgo',hfind,t0,t4,t5,t9⟩
   have cd':=kh.cells cd n3
   simp -implicitDefEqProofs(maxSteps:=999999)(disch:=first|with_reducible rfl|omega|(simp only[nA,nS,nD]<;>omega)|fail)only[go_sem,t0,t4,t5,t9,cd',Int.lt_irrefl]
   refine q _ _ kh wh hgo' ?_
   rw[hfind,Nat.sub_self]
   exact rfl
theorem lists_ev {hb h:H}(hwb:hb.wf){fv:V}{P:List Int→Bool}{Post:List Int→H→Prop}{S:Nat→Prop}{I:H→Prop}{k n:Nat}(hP:FnHolds hb fv S I n P Post)(hI:∀h h',I h→h.Sub h'→I h')(ho:∀c,S c→hb.next≤c)(hS:∀h c,I h→S c→c<h.next)(h1:fv.one=true)(hs:hb.Sub h)(go:I h)(hk:k≤20)(hn:n≤1000)(Q:V→H→Prop)
  (q:∀t h',Keeps S h h'→h'.wf→I h'→LsRes P Post [] ((comb k n 0).find? P) t h'→Q (.bool t) h'):Ev fnG fastA (.fn 84 [] []) [.int .i64 (k:Int),.int .i64 (n:Int),fv] h Q:=by
 have lo:∀c,S c→c<h.next:=fun c=>hS h c go
 refine Ev_body (fd:=c84) rfl rfl rfl ?_
 have sA:h.Sub ((((h.add (.cells .rw [.int .i64 (k:Int)])).add (.cells .rw [.int .i64 (n:Int)])).add (.cells .rw [fv])).add (.cells .rw [.fn 152 [] [.ptr h.next 0,.ptr (h.next+1+1) 0,.ptr (h.next+1) 0,.ptr (h.next+1+1+1) 0]])):=(((((H.Sub.refl hs.wf).add _).add _).add _).add _)
 have ck:((((h.add (.cells .rw [.int .i64 (k:Int)])).add (.cells .rw [.int .i64 (n:Int)])).add (.cells .rw [fv])).add (.cells .rw [.fn 152 [] [.ptr h.next 0,.ptr (h.next+1+1) 0,.ptr (h.next+1) 0,.ptr (h.next+1+1+1) 0]])).cells h.next=some [.int .i64 (k:Int)]:=by simp -implicitDefEqProofs(maxSteps:=999999)(disch:=first|with_reducible rfl|omega|(simp only[nA,nS,nD]<;>omega)|fail)only[go_sem]
 have cn:((((h.add (.cells .rw [.int .i64 (k:Int)])).add (.cells .rw [.int .i64 (n:Int)])).add (.cells .rw [fv])).add (.cells .rw [.fn 152 [] [.ptr h.next 0,.ptr (h.next+1+1) 0,.ptr (h.next+1) 0,.ptr (h.next+1+1+1) 0]])).cells (h.next+1)=some [.int .i64 (n:Int)]:=by simp -implicitDefEqProofs(maxSteps:=999999)(disch:=first|with_reducible rfl|omega|(simp only[nA,nS,nD]<;>omega)|fail)only[go_sem]
 have cf:((((h.add (.cells .rw [.int .i64 (k:Int)])).add (.cells .rw [.int .i64 (n:Int)])).add (.cells .rw [fv])).add (.cells .rw [.fn 152 [] [.ptr h.next 0,.ptr (h.next+1+1) 0,.ptr (h.next+1) 0,.ptr (h.next+1+1+1) 0]])).cells (h.next+1+1)=some [fv]:=by simp -implicitDefEqProofs(maxSteps:=999999)(disch:=first|with_reducible rfl|omega|(simp only[nA,nS,nD]<;>omega)|fail)only[go_sem]
 have cg:((((h.add (.cells .rw [.int .i64 (k:Int)])).add (.cells .rw [.int .i64 (n:Int)])).add (.cells .rw [fv])).add (.cells .rw [.fn 152 [] [.ptr h.next 0,.ptr (h.next+1+1) 0,.ptr (h.next+1) 0,.ptr (h.next+1+1+1) 0]])).cells (h.next+1+1+1)=some [.fn 152 [] [.ptr h.next 0,.ptr (h.next+1+1) 0,.ptr (h.next+1) 0,.ptr (h.next+1+1+1) 0]]:=by simp -implicitDefEqProofs(maxSteps:=999999)(disch:=first|with_reducible rfl|omega|(simp only[nA,nS,nD]<;>omega)|fail)only[go_sem]
 simp -implicitDefEqProofs(maxSteps:=999999)(disch:=first|with_reducible rfl|omega|(simp only[nA,nS,nD]<;>omega)|fail)only[c84,go_sem,h1,cells_one h1]
 generalize((((h.add (.cells .rw [.int .i64 (k:Int)])).add (.cells .rw [.int .i64 (n:Int)])).add (.cells .rw [fv])).add (.cells .rw [.fn 152 [] [.ptr h.next 0,.ptr (h.next+1+1) 0,.ptr (h.next+1) 0,.ptr (h.next+1+1+1) 0]]))=h5 at sA ck cn cf cg⊢
 have hl:=lists1_ev hwb hP hI ho hS (kC:=h.next) (fC:=h.next+1+1) (nC:=h.next+1) (gC:=h.next+1+1+1) (fun q=>by have:=lo _ q;omega) (fun q=>by have:=lo _ q;omega) (fun q=>by have:=lo _ q;omega) (fun q=>by have:=lo _ q;omega) (many:=k) (n:=n) hk hn k h5 .nils [] 0 (by simp) (by simp) (hs.trans sA) ck cf cn cg (hI _ _ go sA) ⟨by simp,by simp,.inl ⟨rfl,rfl⟩⟩ (fun b hb=>absurd hb (nblk b)) (Nat.zero_le _)
 refine hl _ fun t h6 k6 w6 go6 hres=>?_
 simp -implicitDefEqProofs(maxSteps:=999999)(disch:=first|with_reducible rfl|omega|(simp only[nA,nS,nD]<;>omega)|fail)only[go_sem]
 exact q t h6 (((Keeps.of sA S).trans k6).mono fun c h=>by rcases h with h|h<;>exact h) w6 go6 (by simpa using hres)
end Go.Ab.Tryz
namespace Go.Ab.Tryz
open Go.Proofs
open Go.Ab.Silk (comb firstOf)
theorem sl_noMap {h:H}{x:V}{sz:Nat}{rows:List (List V)}(a:SlAt h x sz rows)(m:Nat):x≠.map m:=by
 rcases a.2.2 with⟨e,_⟩|⟨_,_,_,_,e,_⟩<;>rw[e]<;>simp
theorem maps_keep {h h':H}{S:Nat→Prop}{W:V}{ms:List Nat}(w:SlAt h W 1 (ms.map fun b=>[V.map b]))(k:Keeps S h h')(n:∀b cs,S b→h.cells b=some cs→∀m,V.map m ∉cs):SlAt h' W 1 (ms.map fun b=>[V.map b]):=by
 obtain⟨a1,a0,a2⟩:=w
 refine⟨a1,a0,?_⟩
 rcases a2 with a2|⟨b,o,c,cs,e1,e2,e3⟩
 ·exact .inl a2
 ·refine .inr ⟨b,o,c,cs,e1,?_,e3⟩
  cases hm:ms with
  |nil=>exact .inl (by simp)
  |cons m ms'=>
   rw[hm] at e2 e3
   refine .inr ?_
   have e2:=e2.resolve_left (by simp)
   refine k.cells e2 fun hs=>n b cs hs e2 m ?_
   have h1:=(getN_eq.1 e3).1
   have h2:V.map m∈(((m::ms').map fun b=>[V.map b]).flatten):=by simp
   rw[h1] at h2
   exact List.mem_of_mem_drop (List.mem_of_mem_take h2)
def DI (hb:H)(a:At)(C R G W:V)(ms:List Nat)(d oC pC:Nat)(h:H):Prop:=∃y0 f,h.get oC=some (.cells .rw [y0])∧(∀m,y0≠.map m)∧(∀m,f≠.map m)∧Dk h d a C R G f W ms∧h.get pC=some (.cells .rw [.ptr d 0])∧hb.Sub h
section
variable {hb:H} {a:At} {C R G W:V} {ms:List Nat} {d oC pC:Nat}
theorem DI.mono {h h':H}(k:DI hb a C R G W ms d oC pC h)(s:h.Sub h'):DI hb a C R G W ms d oC pC h':=by
 obtain⟨y0,f,k1,k2,k3,k4,k5,k6⟩:=k
 exact⟨y0,f,s.get k1,k2,k3,k4.mono s,s.get k5,k6.trans s⟩
theorem DI.lt {h:H}(k:DI hb a C R G W ms d oC pC h)(c:Nat)(hc:c=oC∨c=d):c<h.next:=by
 obtain⟨y0,f,k1,k2,k3,k4,k5,k6⟩:=k
 rcases hc with rfl|rfl
 ·exact k6.wf _ _ k1
 ·exact k6.wf _ _ k4.dk
theorem DI.put {h:H}(hwb:hb.wf)(xb:AtAt hb C R G a)(l1:hb.next≤d)(l2:hb.next≤oC)(n1:oC≠d)(n2:pC≠d)(n3:pC≠oC)(k:DI hb a C R G W ms d oC pC h){y f:V}(hy:∀m,y≠.map m)(hf:∀m,f≠.map m):
  DI hb a C R G W ms d oC pC ((h.set oC (.cells .rw [y])).set d (.cells .rw [.int .i64 a.mins,.int .i64 a.evs,C,R,G,f,W]))∧Dk ((h.set oC (.cells .rw [y])).set d (.cells .rw [.int .i64 a.mins,.int .i64 a.evs,C,R,G,f,W])) d a C R G f W ms∧
   Keeps (fun c=>c=oC∨c=d) h ((h.set oC (.cells .rw [y])).set d (.cells .rw [.int .i64 a.mins,.int .i64 a.evs,C,R,G,f,W]))∧hb.Sub ((h.set oC (.cells .rw [y])).set d (.cells .rw [.int .i64 a.mins,.int .i64 a.evs,C,R,G,f,W])):=by
 have hlt:=k.lt
 obtain⟨y0,f0,k1,k2,k3,k4,k5,k6⟩:=k
 have lo:=hlt oC (.inl rfl)
 have ld:=hlt d (.inr rfl)
 have s1:hb.Sub (h.set oC (.cells .rw [y])):=k6.set l2 lo hwb _
 have s2:hb.Sub ((h.set oC (.cells .rw [y])).set d (.cells .rw [.int .i64 a.mins,.int .i64 a.evs,C,R,G,f,W])):=s1.set l1 (by rw[H.next_set];exact ld) hwb _
 have kk:Keeps (fun c=>c=oC∨c=d) h ((h.set oC (.cells .rw [y])).set d (.cells .rw [.int .i64 a.mins,.int .i64 a.evs,C,R,G,f,W])):=(Keeps.set h oC _).trans (Keeps.set _ d _)
 have gd:((h.set oC (.cells .rw [y])).set d (.cells .rw [.int .i64 a.mins,.int .i64 a.evs,C,R,G,f,W])).get d=some (.cells .rw [.int .i64 a.mins,.int .i64 a.evs,C,R,G,f,W]):=get_set_same rfl
 have go:((h.set oC (.cells .rw [y])).set d (.cells .rw [.int .i64 a.mins,.int .i64 a.evs,C,R,G,f,W])).get oC=some (.cells .rw [y]):=by rw[get_set_other n1];exact get_set_same rfl
 have dk:Dk ((h.set oC (.cells .rw [y])).set d (.cells .rw [.int .i64 a.mins,.int .i64 a.evs,C,R,G,f,W])) d a C R G f W ms:=by
  refine⟨gd,xb.mono s2,maps_keep k4.w kk fun b cs hs hc m hm=>?_,k4.len,fun i hi=>?_⟩
  ·rcases hs with rfl|rfl
   ·rw[cells_of k1] at hc;cases hc
    rw[List.mem_singleton] at hm
    exact k2 m hm.symm
   ·rw[cells_of k4.dk] at hc;cases hc
    simp only[List.mem_cons,List.not_mem_nil,or_false,reduceCtorEq,false_or] at hm
    rcases hm with hm|hm|hm|hm|hm
    ·exact sl_noMap xb.c m hm.symm
    ·exact sl_noMap xb.r m hm.symm
    ·exact sl_noMap xb.g m hm.symm
    ·exact k3 m hm.symm
    ·exact sl_noMap k4.w m hm.symm
  ·obtain⟨b,l,e1,e2,e3⟩:=k4.maps i hi
   refine⟨b,l,e1,kk.2 _ _ e2 fun hq=>?_,e3⟩
   rcases hq with rfl|rfl
   ·rw[k1] at e2;cases e2
   ·rw[k4.dk] at e2;cases e2
 exact⟨⟨y,f,go,hy,hf,dk,kk.2 _ _ k5 fun hq=>hq.elim n3 n2,s2⟩,dk,kk,s2⟩
theorem wrong11_ev {h:H}{x:V}{l:List Int}(hx:SlAt h x 1 (l.map encI)){b:Nat}(g:h.get b=some (.cells .rw [x]))(n:Int):PureA h (.fn 86 [] [.ptr b 0]) [.int .i64 n] (.bool (!(l.any fun r=>decide (n=r)))):=by
 intro h1 s
 refine Ev.gen fun Q q=>?_
 refine Ev_body (fd:=c86) rfl rfl rfl ?_
 simp -implicitDefEqProofs(maxSteps:=999999)(disch:=first|with_reducible rfl|omega|(simp only[nA,nS,nD]<;>omega)|fail)only[c86,go_sem,cells_of (s.get g)]
 refine hasInt_ev s.wf (hx.mono s) n _ fun h2 s2=>?_
 simp -implicitDefEqProofs(maxSteps:=999999)(disch:=first|with_reducible rfl|omega|(simp only[nA,nS,nD]<;>omega)|fail)only[go_sem]
 exact q _ _ ⟨rfl,s2⟩
set_option maxHeartbeats 4000000 in
theorem wrong1_holds (hwb:hb.wf)(r:Right a)(xb:AtAt hb C R G a)(l1:hb.next≤d)(l2:hb.next≤oC)(n1:oC≠d)(n2:pC≠d)(n3:pC≠oC):
  FnHolds hb (.fn 85 [] [.ptr oC 0,.ptr pC 0]) (fun c=>c=oC∨c=d) (DI hb a C R G W ms d oC pC) a.rds.length (fun l=>decide (casesL a (fun i=> !lstF l i)≠[])) (fun l h=>∃y,h.get oC=some (.cells .rw [y])∧SlAt h y 1 (l.map encI)):=by
 intro l x h1 hlr hs hx hl nx hI Q q
 have hwx:=hs.wf
 have ox:=hx.one
 obtain⟨zA,hzA⟩:∃zA,h1.add (.cells .rw [x])=zA:=⟨_,rfl⟩
 have sA:h1.Sub zA:=by rw[←hzA];exact(H.Sub.refl hwx).add _
 have gA:zA.get h1.next=some (.cells .rw [x]):=by rw[←hzA];exact get_add_new rfl
 have hIA:=hI.mono sA
 have hlt:=hI.lt
 obtain⟨hI2,dk2,k2,s2⟩:=hIA.put hwb xb l1 l2 n1 n2 n3 (y:=x) (f:=.fn 86 [] [.ptr h1.next 0]) (fun m=>sl_noMap hx m) (fun m=>by simp)
 obtain⟨y0,f0,k1,_,_,k4,k5,_⟩:=hI
 obtain⟨zS,hzS⟩:∃zS,(zA.set oC (.cells .rw [x])).set d (.cells .rw [.int .i64 a.mins,.int .i64 a.evs,C,R,G,.fn 86 [] [.ptr h1.next 0],W])=zS:=⟨_,rfl⟩
 have gd':(zA.set oC (.cells .rw [x])).get d=some (.cells .rw [.int .i64 a.mins,.int .i64 a.evs,C,R,G,f0,W]):=by rw[get_set_other n1.symm];exact sA.get k4.dk
 have gpS:zS.get pC=some (.cells .rw [.ptr d 0]):=by rw[←hzS,get_set_other n2,get_set_other n3];exact sA.get k5
 have goS:zS.get oC=some (.cells .rw [x]):=by rw[←hzS,get_set_other n1];exact get_set_same rfl
 rw[hzS] at hI2 dk2 k2 s2
 have gAS:zS.get h1.next=some (.cells .rw [x]):=k2.2 _ _ gA fun hq=>by have:=hlt _ hq;omega
 have hxS:SlAt zS x 1 (l.map encI):=SlAt_keep (hx.mono sA) k2 fun b hb hq=>(nx b hb).2 hq
 refine Ev_body (fd:=c85) rfl rfl rfl ?_
 simp -implicitDefEqProofs(maxSteps:=999999)(disch:=first|with_reducible rfl|omega|(simp only[nA,nS,nD]<;>omega)|fail)only[c85,go_sem,cells_of k5,hzA,cells_of gA,cells_of (sA.get k5),sA.get k1,ox,cells_one ox,gd',hzS,cells_of gpS]
 refine agreed_ev s2.wf dk2 r (cnt:=fun i=> !lstF l i) (fun i _=>wrong11_ev hxS gAS i) _ fun z3 s3=>?_
 simp -implicitDefEqProofs(maxSteps:=999999)(disch:=first|with_reducible rfl|omega|(simp only[nA,nS,nD]<;>omega)|fail)only[go_sem,cells_of gA,cells_of k5,cells_of (sA.get k5)]
 exact q z3 (((Keeps.of sA fun c=>c=oC∨c=d).trans (k2.trans (Keeps.of s3 fun c=>c=oC∨c=d))).mono fun c hc=>by
  rcases hc with hc|hc|hc<;>exact hc) (s2.trans s3).wf (hI2.mono s3) fun _=>⟨x,s3.get goS,hxS.mono s3⟩
end
end Go.Ab.Tryz
namespace Go.Ab.Tryz
open Go.Proofs
open Go.Ab.Silk (comb firstOf firstOf_spec IsMin Inc)
theorem noN {a:At}(r:Right a){cnt:Nat→Bool}:casesL a cnt=[]↔∀runs y,¬Tru a cnt runs y:=by
 constructor
 ·intro h runs y t
  obtain⟨L,hL⟩:=cases_full r t
  rw[h] at hL;cases hL
 ·intro h
  cases hc:casesL a cnt with
  |nil=>rfl
  |cons t l=>
   have ht:t∈casesL a cnt:=by rw[hc];exact List.mem_cons_self ..
   exact absurd (lat_tru r ht (f:=4) (by omega)) (h _ _)
theorem tru_fewer {a:At}{c1 c2:Nat→Bool}(h:∀i,i<a.rds.length→c2 i=true→c1 i=true){runs:Runs}{y:Nat→Int}(t:Tru a c1 runs y):Tru a c2 runs y:=
 ⟨t.len,t.run,t.beg,t.mins,t.gaps,fun j x hx hc s hs=>t.rds j x hx (h j (getl hx) hc) s hs⟩
def wrongP (a:At)(l:List Int):Bool:=decide (casesL a (fun i=> !lstF l i)≠[])
def fullL:Nat→Int→List Int
 |0,_=>[]
 |k+1,i=>i::fullL k (i+1)
theorem fullL_inc:∀(k:Nat) (i:Int),Inc (i+k) i (fullL k i)
 |0,_=>trivial
 |k+1,i=>⟨Int.le_refl _,by omega,by have:=fullL_inc k (i+1);rwa[show i+1+(k:Int)=i+((k+1:Nat):Int) by omega] at this⟩
theorem fullL_mem:∀{k:Nat} {i j:Int},i≤j→j<i+k→j∈fullL k i
 |0,i,j,h1,h2=>by omega
 |k+1,i,j,h1,h2=>by
  by_cases e:j=i
  ·rw[e];exact List.mem_cons_self ..
  ·exact List.mem_cons_of_mem _ (fullL_mem (by omega) (by omega))
theorem lstF_mem {l:List Int}{i:Nat}:lstF l i=true↔(i:Int)∈l:=by
 unfold lstF
 rw[List.any_eq_true]
 constructor
 ·rintro⟨x,hx,e⟩;rw[of_decide_eq_true e];exact hx
 ·intro h;exact⟨_,h,by simp⟩
def wrongO (a:At):Option (List Int):=firstOf (wrongP a) a.rds.length (a.rds.length+1) 0
def wrongR (a:At):List Int × Int:=if checkA a≠0 then([],checkA a) else match wrongO a with|some l=>(l,0)|none=>([],7)
def DW (hb:H)(a:At)(C R G W:V)(ms:List Nat)(d pC:Nat)(h:H):Prop:=∃f,(∀m,f≠.map m)∧Dk h d a C R G f W ms∧h.get pC=some (.cells .rw [.ptr d 0])∧hb.Sub h
set_option maxHeartbeats 4000000 in
theorem Wrong_ev {h:H}(hw:h.wf){a:At}{C R G:V}(x:AtAt h C R G a)(Q:V→H→Prop)(q:∀w h',h.Sub h'→SlAt h' w 1 ((wrongR a).1.map encI)→Q (.tup [w,.int .i64 (wrongR a).2]) h'):
  Ev fnG fastA (.fn 21 [] []) [.agg (atV a C R G)] h Q:=by
 have oC:=x.c.one;have oR:=x.r.one;have oG:=x.g.one
 have cs:∀hh Q,Ev fnG fastA (.fn 83 [] []) [] hh Q=Q (.agg [allF]) (hh.add (.cells .rw [allF])):=fun hh Q=>by
  refine Ev.det (Ev_body (fd:=c83) rfl rfl rfl ?_) Q
  simp -implicitDefEqProofs(maxSteps:=999999)(disch:=first|with_reducible rfl|omega|(simp only[nA,nS,nD]<;>omega)|fail)only[c83,go_sem]
 refine Ev_body (fd:=c21) rfl rfl rfl ?_
 obtain⟨z,hz⟩:∃z,h.add (.cells .rw (atV a C R G))=z:=⟨_,rfl⟩
 have sz:h.Sub z:=by rw[←hz];exact(by repeat(first|assumption|exact H.Sub.refl (by assumption)|refine H.Sub.add ?_ _|refine H.Sub.set ?_ (by first|omega|(simp only[H.next_add,H.next_set,H.next_del]<;>omega)) (by first|omega|(simp only[H.next_add,H.next_set,H.next_del]<;>omega)) (by assumption) _))
 have ga:z.get h.next=some (.cells .rw (atV a C R G)):=by rw[←hz];exact get_add_new rfl
 simp -implicitDefEqProofs(maxSteps:=999999)(disch:=first|with_reducible rfl|omega|(simp only[nA,nS,nD]<;>omega)|fail)only[c21,go_sem,oC,oR,oG]
 rw[hz]
 clear hz
 refine check_ev sz.wf ⟨C,R,G,rfl,x.mono sz⟩ _ fun z1 s1=>?_
 have s01:=sz.trans s1
 by_cases he:checkA a=0
 case neg=>
  simp -implicitDefEqProofs(maxSteps:=999999)(disch:=first|with_reducible rfl|omega|(simp only[nA,nS,nD]<;>omega)|fail)only[go_sem,he,ne_eq,not_false_eq_true]
  have e:wrongR a=([],checkA a):=if_pos he
  rw[e] at q
  exact q _ _ s01 ⟨by simp,by simp,.inl ⟨rfl,rfl⟩⟩
 have r:=checkA_iff.1 he
 rw[he]
 have rl:=r.lens
 have e1:wrongR a=match wrongO a with|some l=>(l,0)|none=>([],7):=if_neg (by rw[he];simp)
 have g1:=s1.get ga
 simp -implicitDefEqProofs(maxSteps:=999999)(disch:=first|with_reducible rfl|omega|(simp only[nA,nS,nD]<;>omega)|fail)only[go_sem,ne_eq,not_true_eq_false,cells_of g1,cs]
 obtain⟨zA,hzA⟩:∃zA,z1.add (.cells .rw [allF])=zA:=⟨_,rfl⟩
 have sA:z1.Sub zA:=by rw[←hzA];exact(H.Sub.refl s01.wf).add _
 try rw[hzA]
 clear hzA
 have s0A:=s01.trans sA
 have xA:=x.mono s0A
 refine worked_ev s0A.wf xA r rfl _ fun d W ms zB sB ld dk=>?_
 have gA:=sA.get g1
 have gB:=sB.get gA
 simp -implicitDefEqProofs(maxSteps:=999999)(disch:=first|with_reducible rfl|omega|(simp only[nA,nS,nD]<;>omega)|fail)only[go_sem,cells_of g1,cells_of gA,cells_of gB]
 obtain⟨zC,hzC⟩:∃zC,zB.add (.cells .rw [.ptr d 0])=zC:=⟨_,rfl⟩
 have sC:zB.Sub zC:=by rw[←hzC];exact(H.Sub.refl sB.wf).add _
 have gpC:zC.get zB.next=some (.cells .rw [.ptr d 0]):=by rw[←hzC];exact get_add_new rfl
 have ldB:=sB.wf _ _ dk.dk
 have hlR:=(x.r).lenE
 have w1:wr .i64 ((a.rds.length:Int)+1)=((a.rds.length+1:Nat):Int):=by rw[wr_in (by omega) (by omega)];omega
 have gC:=sC.get gB
 try simp -implicitDefEqProofs(maxSteps:=999999)(disch:=first|with_reducible rfl|omega|(simp only[nA,nS,nD]<;>omega)|fail)only[go_sem,hzC,cells_of gpC,cells_of gC,hlR,w1]
 try rw[hzC]
 clear hzC
 have sAC:=sB.trans sC
 have di:DW zA a C R G W ms d zB.next zC:=⟨allF,fun m=>by simp,dk.mono sC,gpC,sAC⟩
 rw[e1] at q
 obtain⟨wo,hwo⟩:∃wo,wrongO a=wo:=⟨_,rfl⟩
 rw[hwo] at q
 have hof:firstOf (wrongP a) a.rds.length (a.rds.length+1) 0=wo:=hwo
 refine W_count (a.rds.length+1) (fun i s=>∃tm z,s=⟨tm,z,[]⟩∧DW zA a C R G W ms d zB.next z∧firstOf (wrongP a) a.rds.length (a.rds.length+1-i) i=wo∧
   (Opd.t 1).ev tm=.ptr h.next 0∧(Opd.t 5).ev tm=.ptr zB.next 0∧(Opd.t 19).ev tm=.int .i64 ((a.rds.length+1:Nat):Int)∧(Opd.t 20).ev tm=.int .i64 (i:Int)) ?_ ?_ (i:=0) (Nat.zero_le _)
  ⟨_,_,rfl,di,hof,(by simp[ev_c,ev_put]<;>rfl),(by simp[ev_c,ev_put]<;>rfl),(by simp[ev_c,ev_put]<;>rfl),(by simp[ev_c,ev_put]<;>rfl)⟩
 ·rintro i s hi ⟨tm,z2,rfl,dz,hf,t1,t5,t19,t20⟩
  have hi':(i:Int)<((a.rds.length+1:Nat):Int):=by omega
  have sz2:zA.Sub z2:=by obtain⟨_,_,_,_,k⟩:=dz;exact k
  obtain⟨f,df,dk2,gp2,_⟩:=dz
  have lp2:=sz2.wf _ _ gp2
  have ld2:=sz2.wf _ _ dk2.dk
  have nz2:=sz2.next
  obtain⟨z2',hz2⟩:∃z2',z2.add (.cells .rw [.nils])=z2':=⟨_,rfl⟩
  have s22:z2.Sub z2':=by rw[←hz2];exact(H.Sub.refl sz2.wf).add _
  have go2:z2'.get z2.next=some (.cells .rw [.nils]):=by rw[←hz2];exact get_add_new rfl
  have di2:DI zA a C R G W ms d z2.next zB.next z2':=⟨.nils,f,go2,fun m=>by simp,df,dk2.mono s22,s22.get gp2,sz2.trans s22⟩
  have hF:=wrong1_holds (W:=W) (ms:=ms) s0A.wf r xA ld (oC:=z2.next) (pC:=zB.next) (by omega) (by omega) (by omega) (by omega)
  have ga2:=(sz2.trans s22).get gA
  simp -implicitDefEqProofs(maxSteps:=999999)(disch:=first|with_reducible rfl|omega|(simp only[nA,nS,nD]<;>omega)|fail)only[go_sem,t1,t5,t19,t20,hi',hz2,cells_of ga2,hlR]
  try rw[hz2]
  clear hz2
  refine lists_ev s0A.wf hF (fun h h' k s=>k.mono s) (fun c hc=>by rcases hc with hc|hc<;>omega) (fun h c k hc=>k.lt c hc) rfl (sz2.trans s22) di2 (by omega) (by omega) _ fun t z3 k3 w3 i3 hres=>?_
  have hstep:a.rds.length+1-i=(a.rds.length+1-(i+1))+1:=by omega
  rw[hstep,firstOf] at hf
  cases hr:(comb i a.rds.length 0).find? (wrongP a) with
  |some c=>
   rw[hr] at hf
   have hr2:(comb i a.rds.length 0).find? (fun l=>decide (casesL a (fun i=> !lstF l i)≠[]))=some c:=hr
   rw[hr2] at hres
   obtain⟨rfl,_,y,gy,xy⟩:=hres
   rw[List.nil_append] at xy
   rw[←hf] at q
   have s3:zA.Sub z3:=by obtain⟨_,_,_,_,_,_,_,k⟩:=i3;exact k
   simp -implicitDefEqProofs(maxSteps:=999999)(disch:=first|with_reducible rfl|omega|(simp only[nA,nS,nD]<;>omega)|fail)only[go_sem,t1,t5,t19,t20,cells_of gy]
   exact q _ _ (s0A.trans s3) xy
  |none=>
   rw[hr] at hf
   have hr2:(comb i a.rds.length 0).find? (fun l=>decide (casesL a (fun i=> !lstF l i)≠[]))=none:=hr
   rw[hr2] at hres
   have hres:t=false:=hres
   subst hres
   simp -implicitDefEqProofs(maxSteps:=999999)(disch:=first|with_reducible rfl|omega|(simp only[nA,nS,nD]<;>omega)|fail)only[go_sem,t1,t5,t19,t20,wr_succ]
   have d3:DW zA a C R G W ms d zB.next z3:=by obtain⟨y0,f3,_,_,k3',k4',k5',k6'⟩:=i3;exact⟨f3,k3',k4',k5',k6'⟩
   exact⟨_,_,rfl,d3,hf,(by simp[ev_c,ev_put,t1]<;>rfl),(by simp[ev_c,ev_put,t5]<;>rfl),(by simp[ev_c,ev_put,t19]<;>rfl),(by simp[ev_c,ev_put]<;>rfl)⟩
 ·rintro s ⟨tm,z2,rfl,dz,hf,t1,t5,t19,t20⟩
  rw[Nat.sub_self,firstOf] at hf
  rw[←hf] at q
  have sz2:zA.Sub z2:=by obtain⟨_,_,_,_,k⟩:=dz;exact k
  simp -implicitDefEqProofs(maxSteps:=999999)(disch:=first|with_reducible rfl|omega|(simp only[nA,nS,nD]<;>omega)|fail)only[go_sem,t1,t5,t19,t20,Int.lt_irrefl]
  exact q _ _ (s0A.trans sz2) ⟨by simp,by simp,.inl ⟨rfl,rfl⟩⟩
end Go.Ab.Tryz
namespace Go.Ab
namespace Tryz
open Go.Proofs
end Tryz
end Go.Ab
namespace Go.Ab.Tryz
open Go.Proofs
def setsR (a:At)(c:Int)(of:Int × Int→Int):List Int:=if errT a (!a.ckB c)≠0 then[] else setL a c.toNat of
theorem ckB_nat {a:At}{n:Int}(h:a.ckB n=true):∃k:Nat,n=k∧k<a.cks.length:=by
 simp only[At.ckB,inB_iff] at h
 exact⟨n.toNat,by omega,by omega⟩
theorem gains1_ev {h:H}(s:Int × Int):PureA h (.fn 80 [] []) [.agg (encX s)] (.int .i64 s.2):=by
 intro h1 hs
 refine Ev_body (fd:=c80) rfl rfl rfl ?_
 have hw:=hs.wf
 have s0:=H.Sub.refl hw
 simp -implicitDefEqProofs(maxSteps:=999999)(disch:=first|with_reducible rfl|omega|(simp only[nA,nS,nD]<;>omega)|fail)only[c80,go_sem,encX]
 exact(by repeat(first|assumption|exact H.Sub.refl (by assumption)|refine H.Sub.add ?_ _|refine H.Sub.set ?_ (by first|omega|(simp only[H.next_add,H.next_set,H.next_del]<;>omega)) (by first|omega|(simp only[H.next_add,H.next_set,H.next_del]<;>omega)) (by assumption) _))
theorem sl_nil (h:H):SlAt h .nils 1 (([]:List Int).map encI):=⟨by simp,by simp,.inl ⟨rfl,rfl⟩⟩
theorem runsK_of {a:At}{Ps:List Fd}(e:Ps.map Prod.snd=allC a)(k:Nat):(Ps.map fun p=>p.2.1.getD k (0,0))=runsK a k:=by
 unfold runsK
 rw[←e,List.map_map];rfl
theorem told_runs {a:At}{h h':H}{Ps:List Fd}{y:V}(r:Right a)(e:Ps.map Prod.snd=allC a)(f:FsO h h' y Ps)(hin:∀p∈Ps,In5 240 p.2.2){k:Nat}(hk:k<a.cks.length):(∀p∈Ps,SlAt h' p.1 2 (p.2.1.map encX)∧k<p.2.1.length)∧(∀p∈Ps,allOne (rowF p)=true)∧(∀p∈Ps,(rowF p).length=26)∧Ps.length≤15625∧∀p∈Ps,p.2∈casesL a (fun _=>true):=by
 have hm:∀p∈Ps,p.2∈casesL a (fun _=>true):=fun p hp=>by show p.2∈allC a;rw[←e];exact List.mem_map_of_mem hp
 have rl:=r.lens
 refine⟨fun p hp=>?_,fun p hp=>?_,fun p hp=>by simp[rowF,(hin p hp).len],by have:=casesL_len r (fun _=>true);rw[show casesL a (fun _=>true)=Ps.map Prod.snd from e.symm,List.length_map] at this;exact this,hm⟩
 ·have hl:=(cases_sound r (hm p hp)).2.1
  exact⟨(f.e p hp).sl (by rw[List.length_map];omega),by omega⟩
 ·rw[rowF,allOne_cons,(f.e p hp).one,allOne_iv];rfl
set_option maxHeartbeats 2000000 in
theorem Gains_ev {h:H}(hw:h.wf){a:At}{C R G:V}(x:AtAt h C R G a)(c:Int)(Q:V→H→Prop)(q:∀w h',h.Sub h'→SlAt h' w 1 ((setsR a c Prod.snd).map encI)→Q (.tup [w,.int .i64 (errT a (!a.ckB c))]) h'):
  Ev fnG fastA (.fn 19 [] []) [.agg (atV a C R G),.int .i64 c] h Q:=by
 have oC:=x.c.one;have oR:=x.r.one;have oG:=x.g.one
 refine Ev_body (fd:=c19) rfl rfl rfl ?_
 obtain⟨z,hz⟩:∃z,h.add (.cells .rw (atV a C R G))=z:=⟨_,rfl⟩
 have sz:h.Sub z:=by rw[←hz];exact(by repeat(first|assumption|exact H.Sub.refl (by assumption)|refine H.Sub.add ?_ _|refine H.Sub.set ?_ (by first|omega|(simp only[H.next_add,H.next_set,H.next_del]<;>omega)) (by first|omega|(simp only[H.next_add,H.next_set,H.next_del]<;>omega)) (by assumption) _))
 have ga:z.get h.next=some (.cells .rw (atV a C R G)):=by rw[←hz];exact get_add_new rfl
 simp -implicitDefEqProofs(maxSteps:=999999)(disch:=first|with_reducible rfl|omega|(simp only[nA,nS,nD]<;>omega)|fail)only[c19,go_sem,oC,oR,oG]
 rw[hz]
 clear hz
 refine clock_ev sz.wf (x.mono sz) c _ fun z1 s1=>?_
 have hs1:=sz.trans s1
 have gsA:=s1.get ga
 simp -implicitDefEqProofs(maxSteps:=999999)(disch:=first|with_reducible rfl|omega|(simp only[nA,nS,nD]<;>omega)|fail)only[go_sem]
 refine told_ev2 s1.wf (x.mono hs1) (!a.ckB c) _ (fun z2 s2 he=>?_) fun z2 v y Ps s2 hx hl ho hne r hb he e f=>?_
 ·have eR:setsR a c Prod.snd=[]:=if_pos he
  have q':=q .nils z2 (hs1.trans s2) (by rw[eR];exact sl_nil z2)
  simp -implicitDefEqProofs(maxSteps:=999999)(disch:=first|with_reducible rfl|omega|(simp only[nA,nS,nD]<;>omega)|fail)only[go_sem,(decide_eq_true he:decide (errT a (!a.ckB c)≠0)=true),cells_of ga,cells_of gsA,cells_of (s2.get gsA)]
  exact q'
 ·have hb':a.ckB c=true:=by simpa using hb
  obtain⟨k,rfl,hk⟩:=ckB_nat hb'
  have d0:decide ((0:Int)≠0)=false:=rfl
  obtain⟨hr,hone,hlen,hP,hm⟩:=told_runs r e f hl hk
  have eR:setsR a (k:Int) Prod.snd=setL a k Prod.snd:=by unfold setsR;rw[if_neg (by rw[he];simp),Int.toNat_natCast]
  simp -implicitDefEqProofs(maxSteps:=999999)(disch:=first|with_reducible rfl|omega|(simp only[nA,nS,nD]<;>omega)|fail)only[go_sem,d0,cells_of ga,cells_of gsA,cells_of (s2.get gsA)]
  refine settled_ev s2.wf hx hone hlen hne hP hr (of:=Prod.snd) (fun s=>gains1_ev s) _ fun w z3 s3 xw=>?_
  simp -implicitDefEqProofs(maxSteps:=999999)(disch:=first|with_reducible rfl|omega|(simp only[nA,nS,nD]<;>omega)|fail)only[go_sem,cells_of ga,cells_of gsA,cells_of (s2.get gsA),cells_of ((s2.trans s3).get gsA)]
  have hlk:Ps.length=(runsK a k).length:=by rw[←runsK_of e k,List.length_map]
  rw[runsK_of e k,hlk] at xw
  have q':=q w z3 ((hs1.trans s2).trans s3) (by rw[eR];exact xw)
  rwa[he] at q'
end Go.Ab.Tryz
namespace Go.Ab.Tryz
open Go.Proofs
end Go.Ab.Tryz
namespace Go.Ab
theorem rows_put {α:Type}{enc:α→List V}{sz:Nat}(hsz:∀a,(enc a).length=sz)(l:List α){k:Nat}(hk:k<l.length)(a:α):putN (k*sz) (enc a) (l.map enc).flatten=some ((l.set k a).map enc).flatten:=by
 have e:l=l.take k++l[k]::l.drop (k+1):=by rw[List.getElem_cons_drop,List.take_append_drop]
 have e2:l.set k a=l.take k++a::l.drop (k+1):=by rw[List.set_eq_take_append_cons_drop,if_pos hk]
 have hl:((l.take k).map enc).flatten.length=k*sz:=by
  have h1:=flatten_len (sz:=sz) (rows:=(l.take k).map enc) fun r hr=>by obtain⟨x,_,rfl⟩:=List.mem_map.1 hr;exact hsz x
  rw[h1,List.length_map,List.length_take,Nat.min_eq_left (by omega)]
 have f1:=congrArg (fun t=>(t.map enc).flatten) e
 have f2:=congrArg (fun t=>(t.map enc).flatten) e2
 simp only[List.map_append,List.map_cons,List.flatten_append,List.flatten_cons,←List.append_assoc] at f1 f2
 rw[f1,f2,←hl]
 exact putN_app (by rw[hsz,hsz])
namespace Tryz
open Go.Proofs
end Tryz
end Go.Ab
namespace Go.Ab.Tryz
open Go.Proofs
variable {a b:At} {ss gg tt:List Int}
end Go.Ab.Tryz
namespace Go.Ab.Silk
theorem Inc.sub {hi:Int}{m l:List Int}(s:m.Sublist l):∀{i:Int},Inc hi i l→Inc hi i m:=by
 induction s with
 |slnil=>intro i h;exact h
 |cons a s ih=>intro i h;exact(ih h.2.2).lower (by have:=h.1;omega)
 |cons_cons a s ih=>intro i h;exact⟨h.1,h.2.1,ih h.2.2⟩
theorem Inc.nodup {hi:Int}:∀{i:Int} {l:List Int},Inc hi i l→l.Nodup
 |_,[],_=>List.nodup_nil
 |i,a::l,h=>List.nodup_cons.2 ⟨fun hm=>by have:=h.2.2.mem a hm;omega,Inc.nodup h.2.2⟩
theorem before_len {c d:List Int}(h:d=c∨before c d=true):c.length≤d.length:=by
 rcases h with rfl|h
 ·exact Nat.le_refl _
 ·unfold before at h
  split at h
  ·omega
  ·simp only[decide_eq_true_eq] at h;omega
theorem IsMin.len {P:List Int→Bool}{W:Nat}{c d:List Int}(m:IsMin P W c)(h:Inc W 0 d)(hp:P d=true):c.length≤d.length:=before_len (m.min d h hp)
end Go.Ab.Silk
namespace Go.Ab.Tryz
open Go.Proofs
open Go.Ab.Silk (comb firstOf firstOf_spec IsMin Inc)
theorem nodup_len:∀{l m:List Int},l.Nodup→(∀x∈l,x∈m)→l.length≤m.length
 |[],m,_,_=>Nat.zero_le _
 |a::l,m,hn,h=>by
  have ha:=h a (List.mem_cons_self ..)
  have h1:=nodup_len (l:=l) (m:=m.erase a) (List.nodup_cons.1 hn).2 fun x hx=>(List.mem_erase_of_ne (fun e=>by subst e;exact(List.nodup_cons.1 hn).1 hx)).2 (h x (List.mem_cons_of_mem _ hx))
  have h2:=List.length_erase_of_mem ha
  have h3:=List.length_pos_of_mem ha
  rw[List.length_cons];omega
def chgL (f:Nat→Bool)(m:Int)(l:List Rd)(i:Nat):List Rd:=l.mapIdx fun j r=>if j<i∧f j=true then{r with sh:=r.sh+m} else r
theorem chgL_len (f:Nat→Bool)(m:Int)(l:List Rd)(i:Nat):(chgL f m l i).length=l.length:=by simp[chgL]
theorem chgL_at (f:Nat→Bool)(m:Int)(l:List Rd)(i j:Nat):(chgL f m l i)[j]? =(l[j]?).map fun r=>if j<i∧f j=true then{r with sh:=r.sh+m} else r:=by simp[chgL]
def At.chg (a:At)(f:Nat→Bool)(m:Int):At:={a with rds:=chgL f m a.rds a.rds.length}
variable {a:At} {ss gg tt:List Int} {f:Nat→Bool} {m:Int}
theorem chg_get {j:Nat}{z:Rd}(h:(a.chg f m).rds[j]? =some z):∃r,a.rds[j]? =some r∧z=if f j=true then{r with sh:=r.sh+m} else r:=by
 rw[show(a.chg f m).rds=chgL f m a.rds a.rds.length from rfl,chgL_at,Option.map_eq_some_iff] at h
 obtain⟨r,h1,h2⟩:=h
 have:=getl h1
 exact⟨r,h1,by rw[←h2];simp[this]⟩
theorem right_chg (k:MkOk a ss gg tt)(lt:(tt.length:Int)=a.evs)(hm:0≤m∧m≤100):Right (a.chg f m):=by
 have r:=k.right lt
 have hmins:=k.m
 have hl:=r.lens
 have h0:=r.mins
 have he:=r.evs
 have lr:(a.chg f m).rds.length=a.rds.length:=chgL_len ..
 have key:∀z∈(a.chg f m).rds,∃r∈a.rds,z.ck=r.ck∧z.ev=r.ev∧ -999≤z.sh∧z.sh≤999:=fun z hz=>by
  obtain⟨j,hj,e⟩:=List.getElem_of_mem hz
  obtain⟨x,h1,h2⟩:=chg_get (j:=j) (z:=z) (by rw[List.getElem?_eq_getElem hj,e])
  have hx:=List.mem_of_getElem? h1
  obtain⟨_,_,s,g,t,e1,e2,e3,e4⟩:=k.rd x hx
  have ht:=k.tm t (List.mem_of_getElem? e3)
  have hb:=shw_bd (k.run e1 e2) ht.1 (by omega)
  refine⟨x,hx,?_⟩
  rw[h2]
  split
  ·refine⟨rfl,rfl,?_⟩
   show -999≤x.sh+m∧x.sh+m≤999
   omega
  ·exact⟨rfl,rfl,by omega⟩
 refine⟨?_,r.cb,fun z hz=>?_,r.gb,fun z hz=>?_,r.go,r.co,r.gd,r.cs⟩
 ·have e1:(a.chg f m).evs=a.evs:=rfl
  have e2:(a.chg f m).mins=a.mins:=rfl
  have e3:(a.chg f m).cks=a.cks:=rfl
  have e4:(a.chg f m).gps=a.gps:=rfl
  clear key
  simp only[At.sz,Bool.and_eq_true,decide_eq_true_eq,inB_iff,lr,e1,e2,e3,e4]
  exact⟨by omega,by omega,by first|omega|exact decide_eq_true (by omega),by first|omega|exact decide_eq_true (by omega),by first|omega|exact decide_eq_true (by omega)⟩
 ·obtain⟨x,hx,e1,e2,e3⟩:=key z hz
  exact(inB_iff ..).2 e3
 ·obtain⟨x,hx,e1,e2,e3⟩:=key z hz
  have:=r.ro x hx
  simp only[At.rdOk] at this⊢
  rw[e1,e2];exact this
theorem chg_tru (t:TruA a (ss.zip gg) (timeF tt)){cnt:Nat→Bool}(h:∀i,i<a.rds.length→cnt i=true→f i=false):Tru (a.chg f m) cnt (ss.zip gg) (timeF tt):=
 ⟨t.len,fun k s hs=>⟨(t.run k s hs).is⟩,t.beg,t.mins,t.gaps,fun j z hz hc s hs=>by
  obtain⟨r,h1,h2⟩:=chg_get hz
  rw[h j (getl h1) hc] at h2
  have e:z=r:=by simpa using h2
  subst e
  exact t.rds j z h1 rfl s hs⟩
theorem fullL_in {k:Nat}{i j:Int}(h:j∈fullL k i):i≤j∧j<i+k:=(fullL_inc k i).mem j h
theorem full_inc0 (n:Nat):Inc n 0 (fullL n 0):=by have:=fullL_inc n 0;rwa[Int.zero_add] at this
theorem fullL_len:∀(k:Nat) (i:Int),(fullL k i).length=k
 |0,_=>rfl
 |k+1,i=>by rw[fullL,List.length_cons,fullL_len k (i+1)]
section
variable {b:At}
theorem wrongO_some (r:Right b){D:List Int}(hi:Inc b.rds.length 0 D)(hp:wrongP b D=true):∃w,wrongO b=some w∧IsMin (wrongP b) b.rds.length w:=by
 rcases firstOf_spec (wrongP b) b.rds.length (b.rds.length+1) 0 rfl (fun d _ hl=>by omega) with h1|⟨_,h2⟩
 ·exact h1
 ·rw[h2 D hi] at hp;cases hp
theorem wrongP_tru (r:Right b){l:List Int}:wrongP b l=true↔∃runs y,Tru b (fun i=> !lstF l i) runs y:=by
 unfold wrongP
 rw[decide_eq_true_eq,Ne,noN r]
 constructor
 ·intro h
  exact Classical.byContradiction fun hn=>h fun runs y t=>hn ⟨runs,y,t⟩
 ·rintro⟨runs,y,t⟩ h;exact h _ _ t
variable {w:List Int} (mw:IsMin (wrongP b) b.rds.length w)
include mw
omit mw
end
end Go.Ab.Tryz
namespace Go.Ab
namespace Tryz
open Go.Proofs
end Tryz
end Go.Ab
namespace Go.Ab
theorem OwnC.putAt {h0 h:H}{R:V}{sz:Nat}{rows:List (List V)}(o:OwnC h0 h R sz rows)(hw0:h0.wf){k:Nat}{row:List V}(hk:rows[k]? =some row){j:Nat}{pre post:List V}{old v:V}(hrow:row=pre++old::post)(hj:pre.length=j)(hv:v.one=true):
  ∃b h',blkOf R b∧h.put b (k*sz+j) [v]=some h'∧OwnC h0 h' R sz (rows.set k (pre++v::post))∧Keeps (fun c=>c=b) h h'∧h'.next=h.next∧(∀{u:V},nat? u=some k→q_iad sz R u=some (.ptr b (k*sz)))∧∃cs,h.cells b=some cs∧nth (k*sz+j) cs=some old:=by
 obtain⟨s0,hsz,o⟩:=o
 have hkl:k<rows.length:=by
  rcases Nat.lt_or_ge k rows.length with q|q
  ·exact q
  ·rw[List.getElem?_eq_none q] at hk;cases hk
 have hrl:row.length=sz:=hsz _ (List.mem_of_getElem? hk)
 have hal:(pre++v::post).length=sz:=by rw[←hrl,hrow];simp
 have hall:∀r∈rows.set k (pre++v::post),r.length=sz:=fun r hr=>by
  rcases List.mem_or_eq_of_mem_set hr with hr|hr
  ·exact hsz r hr
  ·rw[hr];exact hal
 have e0:rows=rows.take k++row::rows.drop (k+1):=by
  have h2:=(List.take_append_drop k rows).symm
  rw[List.drop_eq_getElem_cons hkl] at h2
  rw[List.getElem?_eq_getElem hkl] at hk
  cases hk;exact h2
 have e1:rows.set k (pre++v::post)=rows.take k++(pre++v::post)::rows.drop (k+1):=by rw[List.set_eq_take_append_cons_drop,if_pos hkl]
 have hl:(rows.take k).flatten.length=k*sz:=by
  rw[flatten_len (sz:=sz) (rows:=rows.take k) fun r hr=>hsz r (List.mem_of_mem_take hr),List.length_take,Nat.min_eq_left (by omega)]
 have f0:rows.flatten=((rows.take k).flatten++pre)++[old]++(post++(rows.drop (k+1)).flatten):=by
  have:=congrArg List.flatten e0
  rw[List.flatten_append,List.flatten_cons,hrow] at this
  simpa using this
 have f1:(rows.set k (pre++v::post)).flatten=((rows.take k).flatten++pre)++[v]++(post++(rows.drop (k+1)).flatten):=by
  have:=congrArg List.flatten e1
  rw[List.flatten_append,List.flatten_cons] at this
  simpa using this
 have hpl:((rows.take k).flatten++pre).length=k*sz+j:=by rw[List.length_append,hl,hj]
 have hput:∀rest:List V,putN (k*sz+j) [v] (rows.flatten++rest)=some ((rows.set k (pre++v::post)).flatten++rest):=fun rest=>by
  have:=putN_app (pre:=(rows.take k).flatten++pre) (new:=[v]) (old:=[old]) (rest:=post++(rows.drop (k+1)).flatten++rest) rfl
  rw[hpl] at this
  rw[f0,f1]
  simpa using this
 have hnth:∀rest:List V,nth (k*sz+j) (rows.flatten++rest)=some old:=fun rest=>by
  rw[nth_eq,f0,List.append_assoc,List.append_assoc,←hpl,List.getElem?_append_right (Nat.le_refl _),Nat.sub_self]
  rfl
 have hone:allOne [v]=true:=by rw[allOne_cons,hv];rfl
 have hls:(rows.set k (pre++v::post)).length=rows.length:=List.length_set ..
 rcases o with⟨rfl,e⟩|⟨b,rfl,l1,l2,hb⟩|⟨b,c,rest,rfl,l1,l2,hb,hc,hle⟩
 ·rw[e] at hkl;exact absurd hkl (Nat.not_lt_zero _)
 ·have hp:=hput []
  rw[List.append_nil,List.append_nil] at hp
  refine⟨b,_,⟨_,_,_,rfl⟩,H.put_gr hone hb hp,⟨s0.set l1 l2 hw0 _,hall,.inr (.inl ⟨b,by rw[hls],l1,by rw[H.next_set];exact l2,get_set_same rfl⟩)⟩,Keeps.set h b _,H.next_set _ _ _,fun hu=>by rw[q_iad_sl hu hkl];simp,_,cells_of hb,by have:=hnth [];rwa[List.append_nil] at this⟩
 ·refine⟨b,_,⟨_,_,_,rfl⟩,H.put_rw hone hb (hput rest),⟨s0.set l1 l2 hw0 _,hall,.inr (.inr ⟨b,c,rest,by rw[hls],l1,by rw[H.next_set];exact l2,get_set_same rfl,by rw[hls];exact hc,by rw[hls];exact hle⟩)⟩,Keeps.set h b _,H.next_set _ _ _,fun hu=>by rw[q_iad_sl hu hkl];simp,_,cells_of hb,hnth rest⟩
end Go.Ab
namespace Go.Ab.Tryz
open Go.Proofs
open Go.Ab.Silk (IsMin Inc)
end Go.Ab.Tryz
namespace Go.Ab.Tryz
open Go.Proofs
theorem q_iad_sl2 {b n sz i:Nat}{c:Cap}{u:V}(hu:nat? u=some i)(h:i<n):q_iad sz (.sl b 0 n c) u=some (.ptr b (i*sz)):=by
 have e:Nat.blt i n=true:=by rw[Nat.blt_eq];exact h
 simp only[q_iad,hu,e,og_true,Nat.zero_add]
def tab (f:Int→Int)(n:Nat):List V:=(List.range n).map fun(i:Nat)=>iv (f (i:Int))
def fset (f:Int→Int)(i x:Int):Int→Int:=fun k=>if k=i then x else f k
theorem tab_len (f:Int→Int)(n:Nat):(tab f n).length=n:=by simp[tab]
theorem tab_nth (f:Int→Int){n i:Nat}(h:i<n):nth i (tab f n)=some (.int .i64 (f (i:Int))):=by
 rw[nth_get,List.getElem?_eq_getElem (by rw[tab_len];exact h)]
 simp[tab,iv]
theorem ints_put:∀(l:List Int) (i:Nat) (x:Int),i<l.length→putN i [.int .i64 x] (l.map iv)=some ((l.set i x).map iv)
 |[],i,b,h=>by simp at h
 |a::l,0,b,_=>by simp[putN_0,over_s,over_0,consV_some,iv]
 |a::l,i+1,b,h=>by
  have ih:=ints_put l i b (by simpa using h)
  simp only[List.map_cons,putN_s,ih,consV_some,List.set_cons_succ]
theorem tab_put (f:Int→Int){n i:Nat}(h:i<n)(x:Int):putN i [.int .i64 x] (tab f n)=some (tab (fset f (i:Int) x) n):=by
 have e:∀g:Int→Int,tab g n=((List.range n).map fun(i:Nat)=>g (i:Int)).map iv:=fun g=>by simp[tab]
 rw[e,e,ints_put _ _ _ (by simpa using h)]
 congr 2
 refine List.ext_getElem (by simp) fun k h1 h2=>?_
 rw[List.getElem_set]
 simp only[List.getElem_map,List.getElem_range,fset]
 by_cases c:i=k
 ·subst c;simp
 ·rw[if_neg c,if_neg (by omega)]
theorem tab_zero:∀n:Nat,repN n [V.int .i64 0]=tab (fun _=>0) n:=fun n=>by
 have:∀n,repN n [V.int .i64 0]=List.replicate n (iv 0):=fun n=>by
  induction n with
  |zero=>rfl
  |succ n ih=>rw[repN,appN_eq,ih];rfl
 rw[this]
 refine List.ext_getElem (by simp[tab]) fun k h1 h2=>?_
 simp[tab]
theorem tab_at2 {n i:Nat}(h:i<n)(f:Int→Int):nth i (tab f n)=some (.int .i64 (f (i:Int))):=tab_nth f h
theorem tab_st2 {n i:Nat}(h:i<n)(f:Int→Int)(x:Int):putN i [.int .i64 x] (tab f n)=some (tab (fset f (i:Int) x) n):=tab_put f h x
def PermI (f:Int→Int)(n:Int):Prop:=(∀a:Int,0≤a→a<n→0≤f a∧f a<n)∧∀a b:Int,0≤a→a<n→0≤b→b<n→f a=f b→a=b
theorem PermI.step {f:Int→Int}{i j:Int}(h:PermI f i)(i0:0≤i)(j0:0≤j)(j1:j≤i):PermI (fset (fset f i (f j)) j i) (i+1):=by
 obtain⟨h1,h2⟩:=h
 have hf:∀a:Int,0≤a→a<i+1→fset (fset f i (f j)) j i a=i∧a=j∨fset (fset f i (f j)) j i a=f j∧a=i∧j<i∨fset (fset f i (f j)) j i a=f a∧a≠j∧a<i:=fun a a0 a1=>by
  unfold fset
  by_cases e:a=j
  ·exact .inl ⟨if_pos e,e⟩
  ·by_cases e2:a=i
   ·exact .inr (.inl ⟨by rw[if_neg e,if_pos e2],e2,by omega⟩)
   ·exact .inr (.inr ⟨by rw[if_neg e,if_neg e2],e,by omega⟩)
 refine⟨fun a a0 a1=>?_,fun a b a0 a1 b0 b1 e=>?_⟩
 ·rcases hf a a0 a1 with⟨e,_⟩|⟨e,_,hj⟩|⟨e,_,ha⟩
  ·omega
  ·have:=h1 j j0 hj;omega
  ·have:=h1 a a0 ha;omega
 ·rcases hf a a0 a1 with⟨ea,ha⟩|⟨ea,ha,hj⟩|⟨ea,ha,hai⟩<;>rcases hf b b0 b1 with⟨eb,hb⟩|⟨eb,hb,hj'⟩|⟨eb,hb,hbi⟩
  ·omega
  ·have:=h1 j j0 hj';omega
  ·have:=h1 b b0 hbi;omega
  ·have:=h1 j j0 hj;omega
  ·omega
  ·have:=h2 j b j0 hj b0 hbi (by omega);omega
  ·have:=h1 a a0 hai;omega
  ·have:=h2 a j a0 hai j0 hj' (by omega);omega
  ·exact h2 a b a0 hai b0 hbi (by omega)
theorem Order_ev {h0 h:H}{p:Nat}{x:V}{bs:List Int}{T:Int}(hs:h0.Sub h)(hw0:h0.wf)(hx:SlAt h0 x 1 (bs.map encU8))(hp0:h0.next≤p)(hp:SpAt h p x T)(hT:0≤T∧T≤1000000){n:Nat}(hn:n≤1000)(Q:V→H→Prop)
  (q:∀f b h' T',PermI f n→(0≤T'∧T'≤T+(n:Int))→h0.Sub h'→SpAt h' p x T'→Keeps (fun c=>c=p) h h'→h.next≤b→h'.get b=some (.cells .rw (tab f n))→Q (.sl b 0 n (.fix n)) h'):Ev fnG fastA (.fn 16 [] []) [.ptr p 0,.int .i64 (n:Int)] h Q:=by
 have hw:=hs.wf
 have hlp:=hw _ _ ((Classical.choose_spec hp))
 refine Ev_body (fd:=c16) rfl rfl rfl ?_
 have hz:=tab_zero n
 have emx:max 0 (n:Int)=((n:Nat):Int):=by omega
 have sR:=(H.Sub.refl hw).add (.cells .rw (tab (fun _=>0) n))
 have gR:(h.add (.cells .rw (tab (fun _=>0) n))).get h.next=some (.cells .rw (tab (fun _=>0) n)):=get_add_new rfl
 have lR:(h.add (.cells .rw (tab (fun _=>0) n))).next=h.next+1:=H.next_add _ _
 simp -implicitDefEqProofs(maxSteps:=999999)(disch:=first|with_reducible rfl|omega|(simp only[nA,nS,nD]<;>omega)|fail)only[c16,go_sem,emx,a_msl_nm,hz]
 generalize h.add (.cells .rw (tab (fun _=>0) n))=hR at sR gR lR⊢
 have KR:Keeps (fun c=>c=p∨h.next≤c) h hR:=(Keeps.of sR (fun _=>False)).mono fun c hc=>hc.elim
 refine W_count n (fun i s=>∃(tm:Go.Ab.T V) (h':H) (f:Int→Int) (T':Int),s=⟨tm,h',[]⟩∧PermI f (i:Int)∧h0.Sub h'∧SpAt h' p x T'∧0≤T'∧T'≤T+(i:Int)∧Keeps (fun c=>c=p∨h.next≤c) h h'∧h'.get h.next=some (.cells .rw (tab f n))∧h.next<h'.next∧
   (Opd.t 0).ev tm=.ptr p 0∧(Opd.t 5).ev tm=.sl h.next 0 n (.fix n)∧(Opd.t 12).ev tm=.int .i64 (n:Int)∧(Opd.t 13).ev tm=.int .i64 (i:Int))
  ?_ ?_ (i:=0) (Nat.zero_le _) ⟨_,_,fun _=>0,T,rfl,⟨fun a _ _=>by omega,fun a b _ _ _ _=>by omega⟩,hs.trans sR,hp.mono sR,hT.1,by omega,KR,gR,by omega,(by simp[ev_c,ev_put]<;>rfl),(by simp[ev_c,ev_put]<;>rfl),(by simp[ev_c,ev_put]<;>rfl),(by simp[ev_c,ev_put]<;>rfl)⟩
 ·rintro i s hi ⟨tm,h',f,T',rfl,hf,s',p',T0,T1,K',g',lt,t0,t5,t12,t13⟩
  have hi':(i:Int)<(n:Int):=by omega
  simp -implicitDefEqProofs(maxSteps:=999999)(disch:=first|with_reducible rfl|omega|(simp only[nA,nS,nD]<;>omega)|fail)only[go_sem,t0,t5,t12,t13,hi']
  refine Upto_ev s' hw0 hx hp0 p' (by omega) (by omega) _ fun j h2 j0 j1 s2 p2 k2 n2=>?_
  obtain⟨jn,rfl⟩:=Int.eq_ofNat_of_zero_le j0
  have hj:jn<n:=by omega
  have g2:=k2.2 _ _ g' (by omega)
  have hst:=hf.step (j:=(jn:Int)) (by omega) (by omega) (by omega)
  have hst':PermI (fset (fset f (i:Int) (f (jn:Int))) (jn:Int) (i:Int)) ((i+1:Nat):Int):=by rw[show((i+1:Nat):Int)=(i:Int)+1 by omega];exact hst
  have g3:(h2.set h.next (.cells .rw (tab (fset f (i:Int) (f (jn:Int))) n))).get h.next=some (.cells .rw (tab (fset f (i:Int) (f (jn:Int))) n)):=get_set_same rfl
  simp -implicitDefEqProofs(maxSteps:=999999)(disch:=first|with_reducible rfl|omega|(simp only[nA,nS,nD]<;>omega)|fail)only[go_sem,t0,t5,t12,t13,q_iad_sl2 (nat_cst jn) hj,q_iad_sl2 (nat_cst i) hi,Nat.mul_one,cells_of g2,g2,tab_at2 hj,tab_st2 hi,tab_st2 hj,wr_succ]
  have hb:=hs.next
  refine⟨_,_,fset (fset f (i:Int) (f (jn:Int))) (jn:Int) (i:Int),T'+1,rfl,hst',s2.set hb (by omega) hw0 _,p2.keep (Keeps.set _ _ _) (by omega),by omega,by omega,?_,get_set_same rfl,by rw[H.next_set];omega,(by simp[ev_c,ev_put,t0]<;>rfl),(by simp[ev_c,ev_put,t5]<;>rfl),(by simp[ev_c,ev_put,t12]<;>rfl),(by simp[ev_c,ev_put]<;>rfl)⟩
  refine((K'.trans k2).trans (Keeps.set _ _ _)).mono ?_
  rintro c ((h|h)|h)
  ·exact h
  ·exact .inl h
  ·exact .inr (by omega)
 ·rintro s ⟨tm,h',f,T',rfl,hf,s',p',T0,T1,K',g',lt,t0,t5,t12,t13⟩
  simp -implicitDefEqProofs(maxSteps:=999999)(disch:=first|with_reducible rfl|omega|(simp only[nA,nS,nD]<;>omega)|fail)only[go_sem,t0,t5,t12,t13,Int.lt_irrefl]
  exact q f _ _ T' hf ⟨T0,T1⟩ s' p' (Keeps.new hw K') (Nat.le_refl _) g'
theorem PermI.nat {f:Int→Int}{n:Nat}(h:PermI f (n:Int)):(∀i,i<n→(f (i:Int)).toNat<n∧f (i:Int)=(((f (i:Int)).toNat:Nat):Int))∧∀i j,i<n→j<n→(f (i:Int)).toNat=(f (j:Int)).toNat→i=j:=by
 refine⟨fun i hi=>?_,fun i j hi hj e=>?_⟩
 ·have:=h.1 (i:Int) (by omega) (by omega);omega
 ·have h1:=h.1 (i:Int) (by omega) (by omega)
  have h2:=h.1 (j:Int) (by omega) (by omega)
  have:=h.2 (i:Int) (j:Int) (by omega) (by omega) (by omega) (by omega) (by omega)
  omega
def stG {α:Type}(init l:List α)(f:Nat→Nat):Nat→List α
 |0=>init
 |n+1=>match l[n]? with
  |some a=>(stG init l f n).set (f n) a
  |none=>stG init l f n
theorem stG_len {α:Type}(init l:List α)(f:Nat→Nat):∀n,(stG init l f n).length=init.length
 |0=>rfl
 |n+1=>by
  simp only[stG]
  split
  ·rw[List.length_set,stG_len init l f n]
  ·exact stG_len init l f n
theorem stG_succ {α:Type}{init l:List α}{f:Nat→Nat}{n:Nat}{a:α}(h:l[n]? =some a):stG init l f (n+1)=(stG init l f n).set (f n) a:=by
 simp only[stG,h]
theorem stG_at {α:Type}{init l:List α}{f:Nat→Nat}(hl:init.length=l.length)(lt:∀i,i<l.length→f i<l.length)(inj:∀i j,i<l.length→j<l.length→f i=f j→i=j):∀n,n≤l.length→∀i,i<n→(stG init l f n)[f i]? =l[i]?
 |0,_,i,h=>by omega
 |n+1,hn,i,hi=>by
  rw[stG_succ (List.getElem?_eq_getElem (show n<l.length by omega))]
  by_cases e:i=n
  ·subst e
   rw[List.getElem?_set_self (by rw[stG_len,hl];exact lt i (by omega)),List.getElem?_eq_getElem]
  ·rw[List.getElem?_set_ne (fun h=>e (inj n i (by omega) (by omega) h).symm)]
   exact stG_at hl lt inj n (by omega) i (by omega)
theorem nodup_leN:∀(n:Nat) (l:List Nat),l.Nodup→(∀x∈l,x<n)→l.length≤n:=fun n l h1 h2=>by
 have:=nodup_len (l:=l.map fun x:Nat=>(x:Int)) (m:=fullL n 0) (by
  rw[List.Nodup,List.pairwise_map]
  exact h1.imp fun h e=>h (by omega)) fun x hx=>by
   obtain⟨y,hy,rfl⟩:=List.mem_map.1 hx
   have:=h2 y hy
   exact fullL_mem (by omega) (by omega)
 rw[List.length_map,fullL_len] at this
 exact this
theorem inj_surj {n:Nat}{f:Nat→Nat}(lt:∀i,i<n→f i<n)(inj:∀i j,i<n→j<n→f i=f j→i=j){k:Nat}(hk:k<n):∃i,i<n∧f i=k:=by
 refine Classical.byContradiction fun hc=>?_
 have nd:(k::(List.range n).map f).Nodup:=by
  rw[List.nodup_cons]
  refine⟨fun h=>?_,?_⟩
  ·obtain⟨i,hi,e⟩:=List.mem_map.1 h
   exact hc ⟨i,List.mem_range.1 hi,e⟩
  ·rw[List.Nodup,List.pairwise_map]
   exact List.nodup_range.imp_of_mem fun{a b} ha hb hne e=>hne (inj a b (List.mem_range.1 ha) (List.mem_range.1 hb) e)
 have:=nodup_leN n _ nd fun x hx=>by
  rcases List.mem_cons.1 hx with rfl|hx
  ·exact hk
  ·obtain⟨i,hi,rfl⟩:=List.mem_map.1 hx
   exact lt i (List.mem_range.1 hi)
 rw[List.length_cons,List.length_map,List.length_range] at this
 omega
end Go.Ab.Tryz
namespace Go.Ab.Tryz
open Go.Proofs
open Go.Ab.Silk (Inc before IsMin IsMin.len)
def ltN (f:Nat→Nat)(n:Nat):Prop:=∀i,i<n→f i<n
def injN (f:Nat→Nat)(n:Nat):Prop:=∀i j,i<n→j<n→f i=f j→i=j
theorem inv_ex {n:Nat}{f:Nat→Nat}(lt:ltN f n)(inj:injN f n):∃g:Nat→Nat,ltN g n∧injN g n∧(∀k,k<n→f (g k)=k)∧∀i,i<n→g (f i)=i:=by
 obtain⟨g,hg⟩:∃g:Nat→Nat,∀k,k<n→g k<n∧f (g k)=k:=by
  refine⟨fun k=>if h:k<n then(inj_surj lt inj h).choose else 0,fun k hk=>?_⟩
  dsimp only
  rw[dif_pos hk]
  exact(inj_surj lt inj hk).choose_spec
 refine⟨g,fun k hk=>(hg k hk).1,fun i j hi hj e=>?_,fun k hk=>(hg k hk).2,fun i hi=>?_⟩
 ·rw[←(hg i hi).2,←(hg j hj).2,e]
 ·exact inj _ _ (hg _ (lt i hi)).1 hi (hg _ (lt i hi)).2
structure Ren (b o:At)(fc fe fr fg:Nat→Nat):Prop where
 mins:o.mins=b.mins
 evs:o.evs=b.evs
 lc:o.cks.length=b.cks.length
 lr:o.rds.length=b.rds.length
 lg:o.gps.length=b.gps.length
 ct:ltN fc b.cks.length
 ci:injN fc b.cks.length
 et:ltN fe b.evs.toNat
 ei:injN fe b.evs.toNat
 rt:ltN fr b.rds.length
 ri:injN fr b.rds.length
 gt:ltN fg b.gps.length
 gi:injN fg b.gps.length
 c:∀i,i<b.cks.length→o.cks[fc i]? =b.cks[i]?
 r:∀(i:Nat) x,b.rds[i]? =some x→o.rds[fr i]? =some ⟨(fc x.ck.toNat:Int),(fe x.ev.toNat:Int),x.sh⟩
 g:∀(i:Nat) x,b.gps[i]? =some x→o.gps[fg i]? =some ⟨(fe x.fr.toNat:Int),(fe x.to.toNat:Int),x.lo,x.hi⟩
variable {b o:At} {fc fe fr fg:Nat→Nat}
theorem Ren.ckO (R:Ren b o fc fe fr fg){x:Ck}(h:x∈o.cks):x∈b.cks:=by
 obtain⟨k,hk,rfl⟩:=List.mem_iff_getElem.1 h
 obtain⟨i,hi,rfl⟩:=inj_surj R.ct R.ci (k:=k) (by have:=R.lc;omega)
 have:=R.c i hi
 rw[List.getElem?_eq_getElem hk,List.getElem?_eq_getElem hi] at this
 rw[Option.some.inj this];exact List.getElem_mem hi
theorem Ren.rdO (R:Ren b o fc fe fr fg){k:Nat}{x:Rd}(h:o.rds[k]? =some x):∃i y,i<b.rds.length∧k=fr i∧b.rds[i]? =some y∧x=⟨(fc y.ck.toNat:Int),(fe y.ev.toNat:Int),y.sh⟩:=by
 have hk:=getl h
 obtain⟨i,hi,rfl⟩:=inj_surj R.rt R.ri (k:=k) (by have:=R.lr;omega)
 have e:=R.r i _ (List.getElem?_eq_getElem hi)
 rw[h] at e
 exact⟨i,_,hi,rfl,List.getElem?_eq_getElem hi,Option.some.inj e⟩
theorem Ren.gpO (R:Ren b o fc fe fr fg){x:Gp}(h:x∈o.gps):∃y∈b.gps,x=⟨(fe y.fr.toNat:Int),(fe y.to.toNat:Int),y.lo,y.hi⟩:=by
 obtain⟨k,hk,rfl⟩:=List.mem_iff_getElem.1 h
 obtain⟨i,hi,rfl⟩:=inj_surj R.gt R.gi (k:=k) (by have:=R.lg;omega)
 have e:=R.g i _ (List.getElem?_eq_getElem hi)
 rw[List.getElem?_eq_getElem hk] at e
 exact⟨_,List.getElem_mem hi,Option.some.inj e⟩
theorem Ren.right (R:Ren b o fc fe fr fg)(r:Right b):Right o:=by
 have he:=r.evs
 refine⟨?_,fun c hc=>r.cb c (R.ckO hc),fun x hx=>?_,fun x hx=>?_,fun x hx=>?_,fun x hx=>?_,fun c hc=>r.co c (R.ckO hc),fun x hx=>?_,fun c hc=>r.cs c (R.ckO hc)⟩
 ·have:=r.sz
  unfold At.sz at this⊢
  rw[R.mins,R.evs,R.lc,R.lr,R.lg];exact this
 ·obtain⟨k,hk⟩:=List.mem_iff_getElem?.1 hx
  obtain⟨i,y,hi,_,hy,rfl⟩:=R.rdO hk
  exact r.rb y (List.mem_of_getElem? hy)
 ·obtain⟨y,hy,rfl⟩:=R.gpO hx
  exact r.gb y hy
 ·obtain⟨k,hk⟩:=List.mem_iff_getElem?.1 hx
  obtain⟨i,y,hi,_,hy,rfl⟩:=R.rdO hk
  obtain⟨p,e,e1,e2,h1,h2,_⟩:=r.rdn (List.mem_of_getElem? hy)
  have hc:=R.ct p h1
  have hv:=R.et e (by omega)
  have:=R.lc
  have:=R.evs
  simp only[At.rdOk,At.ckB,At.evB,Bool.and_eq_true,inB_iff,e1,e2,Int.toNat_natCast]
  omega
 ·obtain⟨y,hy,rfl⟩:=R.gpO hx
  obtain⟨p,e,e1,e2,h1,h2,_,_⟩:=r.gpn hy
  have hc:=R.et p (by omega)
  have hv:=R.et e (by omega)
  have:=R.evs
  simp only[At.gpOk,At.evB,Bool.and_eq_true,inB_iff,e1,e2,Int.toNat_natCast]
  omega
 ·obtain⟨y,hy,rfl⟩:=R.gpO hx
  exact r.gd y hy
theorem Ren.rev (R:Ren b o fc fe fr fg)(r:Right b):∃gc ge gr gg,Ren o b gc ge gr gg∧(∀i,i<b.cks.length→gc (fc i)=i)∧(∀i,i<b.evs.toNat→ge (fe i)=i)∧∀i,i<b.rds.length→gr (fr i)=i:=by
 obtain⟨gc,c1,c2,c3,c4⟩:=inv_ex R.ct R.ci
 obtain⟨ge,e1,e2,e3,e4⟩:=inv_ex R.et R.ei
 obtain⟨gr,r1,r2,r3,r4⟩:=inv_ex R.rt R.ri
 obtain⟨gg,g1,g2,g3,g4⟩:=inv_ex R.gt R.gi
 have lc:=R.lc;have lr:=R.lr;have lg:=R.lg;have le:=R.evs
 have he:=r.evs
 refine⟨gc,ge,gr,gg,⟨R.mins.symm,le.symm,lc.symm,lr.symm,lg.symm,by rw[lc];exact c1,by rw[lc];exact c2,by rw[le];exact e1,by rw[le];exact e2,by rw[lr];exact r1,by rw[lr];exact r2,by rw[lg];exact g1,by rw[lg];exact g2,fun i hi=>?_,fun i x hx=>?_,fun i x hx=>?_⟩,c4,e4,r4⟩
 ·rw[lc] at hi
  have:=R.c (gc i) (c1 i hi)
  rw[c3 i hi] at this;exact this.symm
 ·obtain⟨j,y,hj,rfl,hy,rfl⟩:=R.rdO hx
  obtain⟨p,e,q1,q2,h1,h2,_⟩:=r.rdn (List.mem_of_getElem? hy)
  rw[r4 j hj,hy]
  simp only[q1,q2,Int.toNat_natCast,c4 p h1,e4 e (by omega)]
  obtain⟨u,v,w⟩:=y
  simp only at q1 q2
  rw[q1,q2]
 ·have hk:=getl hx
  obtain⟨j,hj,rfl⟩:=inj_surj R.gt R.gi (k:=i) (by omega)
  have e0:=R.g j _ (List.getElem?_eq_getElem hj)
  rw[hx] at e0
  have ex:=Option.some.inj e0
  obtain⟨p,e,q1,q2,h1,h2,_,_⟩:=r.gpn (List.getElem_mem hj)
  rw[g4 j hj,List.getElem?_eq_getElem hj,ex]
  generalize b.gps[j]=y at q1 q2
  simp only[q1,q2,Int.toNat_natCast,e4 p (by omega),e4 e (by omega)]
  obtain⟨u,v,w1,w2⟩:=y
  simp only at q1 q2
  rw[q1,q2]
theorem Ren.tru (R:Ren b o fc fe fr fg)(r:Right b){cnt cnt':Nat→Bool}(hc:∀j,j<b.rds.length→cnt' (fr j)=true→cnt j=true){runs:Runs}{y:Nat→Int}(t:Tru b cnt runs y):
  ∃runs' y',Tru o cnt' runs' y'∧(∀k,k<b.cks.length→runs'[fc k]? =runs[k]?)∧∀e:Nat,(e:Int)<b.evs→y' (fe e)=y e:=by
 obtain⟨ge,e1,e2,e3,e4⟩:=inv_ex R.et R.ei
 have he:=r.evs
 have hm:=r.mins
 have hlen:=t.len
 obtain⟨runs',hr⟩:∃runs',stG runs runs fc runs.length=runs':=⟨_,rfl⟩
 have h1:runs'.length=runs.length:=by rw[←hr,stG_len]
 have h2:∀k,k<b.cks.length→runs'[fc k]? =runs[k]? :=fun k hk=>by
  rw[←hr]
  exact stG_at rfl (by rw[hlen];exact R.ct) (by rw[hlen];exact R.ci) _ (Nat.le_refl _) k (by omega)
 have hy:∀e:Nat,(e:Int)<b.evs→(fun e':Nat=>if(e':Int)<b.evs then y (ge e') else 0) (fe e)=y e:=fun e h=>by
  have:=R.et e (by omega)
  dsimp only
  rw[if_pos (by omega),e4 e (by omega)]
 obtain⟨y',hy'⟩:∃y':Nat→Int,(fun e':Nat=>if(e':Int)<b.evs then y (ge e') else 0)=y':=⟨_,rfl⟩
 rw[hy'] at hy
 refine⟨runs',y',⟨by rw[h1,hlen,R.lc],fun k s hs=>?_,?_,fun e h=>?_,fun g hg=>?_,fun j x hx hcj s hs=>?_⟩,h2,hy⟩
 ·have hk:=getl hs
  obtain⟨i,hi,rfl⟩:=inj_surj R.ct R.ci (k:=k) (by omega)
  rw[h2 i hi] at hs
  obtain⟨⟨c,hc,h⟩⟩:=t.run i s hs
  exact⟨⟨c,by rw[R.c i hi];exact hc,h⟩⟩
 ·rw[←hy']
  dsimp only
  rw[if_neg (by omega)]
 ·rw[←hy',R.mins]
  dsimp only
  split
  ·rename_i h
   have:=e1 e (by omega)
   exact t.mins _ (by omega)
  ·omega
 ·obtain⟨x,hx,rfl⟩:=R.gpO hg
  obtain⟨p,e,q1,q2,k1,k2,_,_⟩:=r.gpn hx
  have:=t.gaps x hx
  simp only[q1,q2,Int.toNat_natCast] at this⊢
  rw[hy p k1,hy e k2];exact this
 ·obtain⟨i,x0,hi,rfl,hx0,rfl⟩:=R.rdO hx
  obtain⟨p,e,q1,q2,k1,k2,_⟩:=r.rdn (List.mem_of_getElem? hx0)
  have:=t.rds i x0 hx0 (hc i hi hcj) s
  simp only[q1,q2,Int.toNat_natCast] at this hs⊢
  rw[h2 p k1] at hs
  rw[hy e k2];exact this hs
theorem Ren.nilO (R:Ren b o fc fe fr fg)(r:Right b):allC b=[]↔allC o=[]:=by
 have ro:=R.right r
 obtain⟨gc,ge,gr,gg,S,_,_,_⟩:=R.rev r
 rw[noC r,noC ro]
 constructor
 ·intro h runs y t
  obtain⟨runs',y',t',_⟩:=S.tru ro (cnt':=fun _=>true) (fun _ _ _=>rfl) t
  exact h _ _ t'
 ·intro h runs y t
  obtain⟨runs',y',t',_⟩:=R.tru r (cnt':=fun _=>true) (fun _ _ _=>rfl) t
  exact h _ _ t'
theorem Ren.betw (R:Ren b o fc fe fr fg)(r:Right b)(hne:allC b≠[]){e:Nat}(he:(e:Int)<b.evs):(betw 4 (fe e) (allM o)).1≤(betw 4 e (allM b)).1∧(betw 4 e (allM b)).2≤(betw 4 (fe e) (allM o)).2:=by
 have ro:=R.right r
 have hv:=r.evs
 have h5:=R.et e (by omega)
 obtain⟨runs,y,t,e1⟩:=betw_lo r hne (f:=4) (t:=e) (by omega) (by omega)
 obtain⟨runs',y',t',_,hy⟩:=R.tru r (cnt':=fun _=>true) (fun _ _ _=>rfl) t
 have b1:=(betw_tru ro t' (f:=4) (t:=fe e) (by omega) (by omega)).2
 rw[hy e he,t'.beg] at b1
 rw[t.beg] at e1
 obtain⟨runs2,y2,t2,e2⟩:=betw_hi r hne (f:=4) (t:=e) (by omega) (by omega)
 obtain⟨runs2',y2',t2',_,hy2⟩:=R.tru r (cnt':=fun _=>true) (fun _ _ _=>rfl) t2
 have b2:=(betw_tru ro t2' (f:=4) (t:=fe e) (by omega) (by omega)).2
 rw[hy2 e he,t2'.beg] at b2
 rw[t2.beg] at e2
 unfold allM
 unfold allM at e1 e2
 omega
theorem errT_bd {a:At}(r:Right a){bad:Bool}(h:bad=false):errT a bad=if allC a=[] then 7 else 0:=by
 unfold errT
 rw[if_neg (by rw[checkA_iff.2 r];simp),h,if_neg (by simp)]
theorem Ren.time (R:Ren b o fc fe fr fg)(r:Right b){e:Nat}(he:(e:Int)<b.evs):timeR o (fe e:Int)=timeR b (e:Int)∧((timeR b (e:Int)).2=0∨(timeR b (e:Int)).2=7):=by
 have ro:=R.right r
 have hv:=r.evs
 have h5:=R.et e (by omega)
 have n1:=R.nilO r
 have b1:b.evB (e:Int)=true:=by unfold At.evB;rw[inB_iff];omega
 have b2:o.evB (fe e:Int)=true:=by unfold At.evB;rw[inB_iff,R.evs];omega
 have e1:=errT_bd r (bad:= !b.evB (e:Int)) (by rw[b1];rfl)
 have e2:=errT_bd ro (bad:= !o.evB (fe e:Int)) (by rw[b2];rfl)
 unfold timeR
 rw[e1,e2]
 by_cases h:allC b=[]
 ·rw[if_pos h,if_pos (n1.1 h),if_pos (by decide)]
  exact⟨rfl,.inr rfl⟩
 ·have h':allC o≠[]:=fun q=>h (n1.2 q)
  rw[if_neg h,if_neg h',if_neg (by simp),if_neg (by simp)]
  refine⟨?_,.inl rfl⟩
  obtain⟨gc,ge,gr,gg,S,_,s2,_⟩:=R.rev r
  have k1:=R.betw r h he
  have k2:=S.betw ro h' (e:=fe e) (by rw[R.evs];omega)
  rw[s2 e (by omega)] at k2
  unfold allM at k1 k2
  rw[Int.toNat_natCast,Int.toNat_natCast]
  have e3:Go.Ab.Tryz.betw 4 (fe e) ((allC o).map Prod.snd)=Go.Ab.Tryz.betw 4 e ((allC b).map Prod.snd):=Prod.ext (by omega) (by omega)
  rw[e3]
theorem Ren.sets1 (R:Ren b o fc fe fr fg)(r:Right b){k:Nat}(hk:k<b.cks.length){n:Int}(h:n∈setL b k Prod.snd):n∈setL o (fc k) Prod.snd:=by
 have ro:=R.right r
 obtain⟨runs,y,s,t,hs,e⟩:=(setL_mem r hk).1 h
 obtain⟨runs',y',t',hr,_⟩:=R.tru r (cnt':=fun _=>true) (fun _ _ _=>rfl) t
 exact(setL_mem ro (by rw[R.lc];exact R.ct k hk)).2 ⟨runs',y',s,t',by rw[hr k hk];exact hs,e⟩
theorem Ren.gains (R:Ren b o fc fe fr fg)(r:Right b){k:Nat}(hk:k<b.cks.length):errT o (!o.ckB (fc k:Int))=errT b (!b.ckB (k:Int))∧setsR o (fc k:Int) Prod.snd=setsR b (k:Int) Prod.snd:=by
 have ro:=R.right r
 have n1:=R.nilO r
 have hf:=R.ct k hk
 have b1:b.ckB (k:Int)=true:=by unfold At.ckB;rw[inB_iff];omega
 have b2:o.ckB (fc k:Int)=true:=by unfold At.ckB;rw[inB_iff,R.lc];omega
 have e1:errT o (!o.ckB (fc k:Int))=errT b (!b.ckB (k:Int)):=by
  rw[errT_bd r (by rw[b1];rfl),errT_bd ro (by rw[b2];rfl)]
  by_cases h:allC b=[]
  ·rw[if_pos h,if_pos (n1.1 h)]
  ·rw[if_neg h,if_neg (fun q=>h (n1.2 q))]
 refine⟨e1,?_⟩
 unfold setsR
 rw[e1]
 split
 ·rfl
 ·rw[Int.toNat_natCast,Int.toNat_natCast]
  obtain⟨gc,ge,gr,gg,S,s1,_,_⟩:=R.rev r
  refine rise_eq (setL_rise ..) (setL_rise ..) fun n=>⟨fun h=>?_,fun h=>R.sets1 r hk h⟩
  have:=S.sets1 ro (k:=fc k) (by rw[R.lc];exact hf) h
  rwa[s1 k hk] at this
theorem Ren.wrong (R:Ren b o fc fe fr fg)(r:Right b){w v:List Int}(mw:IsMin (wrongP b) b.rds.length w)(mv:IsMin (wrongP o) o.rds.length v):v.length≤w.length:=by
 have ro:=R.right r
 obtain⟨D,hD⟩:∃D:List Int,D=(fullL b.rds.length 0).filter (fun x=>(w.map fun j=>(fr j.toNat:Int)).any fun u=>decide (u=x)):=⟨_,rfl⟩
 have hinc:Inc o.rds.length 0 D:=by rw[hD,R.lr];exact(full_inc0 _).sub List.filter_sublist
 have hmem:∀x,x∈D↔(0≤x∧x<b.rds.length)∧∃j∈w,(fr j.toNat:Int)=x:=fun x=>by
  rw[hD,List.mem_filter,List.any_eq_true]
  constructor
  ·rintro⟨h1,u,hu,e⟩
   obtain⟨j,hj,rfl⟩:=List.mem_map.1 hu
   have:=fullL_in h1
   exact⟨by omega,j,hj,of_decide_eq_true e⟩
  ·rintro⟨h1,j,hj,e⟩
   exact⟨fullL_mem (by omega) (by omega),_,List.mem_map.2 ⟨j,hj,rfl⟩,decide_eq_true e⟩
 have hlen:D.length≤w.length:=by
  have:=nodup_len (l:=D) (m:=w.map fun j=>(fr j.toNat:Int)) hinc.nodup fun x hx=>by
   obtain⟨_,j,hj,e⟩:=(hmem x).1 hx
   exact List.mem_map.2 ⟨j,hj,e⟩
  rwa[List.length_map] at this
 obtain⟨runs,y,t⟩:=(wrongP_tru r).1 mw.holds
 obtain⟨runs',y',t',_⟩:=R.tru r (cnt':=fun i=> !lstF D i) (fun j hj h=>by
  cases hl:lstF w j with
  |false=>rfl
  |true=>
   have h1:=lstF_mem.1 hl
   have h2:=R.rt j hj
   have:lstF D (fr j)=true:=lstF_mem.2 ((hmem _).2 ⟨by omega,j,h1,by rw[Int.toNat_natCast]⟩)
   rw[this] at h;cases h) t
 have hp:wrongP o D=true:=(wrongP_tru ro).2 ⟨_,_,t'⟩
 exact Nat.le_trans (mv.len hinc hp) hlen
theorem Ren.wrong_eq (R:Ren b o fc fe fr fg)(r:Right b){runs:Runs}{y:Nat→Int}(t:Tru b (fun _=>false) runs y):∃w v,wrongR b=(w,0)∧wrongR o=(v,0)∧v.length=w.length:=by
 have ro:=R.right r
 obtain⟨runs',y',t',_⟩:=R.tru r (cnt':=fun _=>false) (fun _ _ h=>by cases h) t
 have full:∀{a:At} (ra:Right a) {ru:Runs} {z:Nat→Int},Tru a (fun _=>false) ru z→∃w,wrongO a=some w∧IsMin (wrongP a) a.rds.length w:=fun{a} ra {ru z} ta=>
  wrongO_some ra (full_inc0 _) ((wrongP_tru ra).2 ⟨ru,z,tru_fewer (fun i hi h=>by
   have:lstF (fullL a.rds.length 0) i=true:=lstF_mem.2 (fullL_mem (by omega) (by omega))
   rw[this] at h;cases h) ta⟩)
 obtain⟨w,hw,mw⟩:=full r t
 obtain⟨v,hv,mv⟩:=full ro t'
 obtain⟨gc,ge,gr,gg,S,_,_,_⟩:=R.rev r
 have l1:=R.wrong r mw mv
 have l2:=S.wrong ro mv mw
 refine⟨w,v,?_,?_,by omega⟩
 ·unfold wrongR;rw[if_neg (by rw[checkA_iff.2 r];simp),hw]
 ·unfold wrongR;rw[if_neg (by rw[checkA_iff.2 ro];simp),hv]
end Go.Ab.Tryz
namespace Go.Ab.Tryz
open Go.Proofs
end Go.Ab.Tryz
namespace Go.Ab.Tryz
open Go.Proofs
end Go.Ab.Tryz
namespace Go.Ab.Tryz
open Go.Proofs
variable {h0 h h':H} {y:V} {L:List (List Int)} {vs:List V}
variable {n n':Nat}
end Go.Ab.Tryz
namespace Go.Ab.Tryz
open Go.Proofs
end Go.Ab.Tryz
namespace Go.Ab.Tryz
open Go.Proofs
end Go.Ab.Tryz
namespace Go.Ab.Tryz
open Go.Proofs
end Go.Ab.Tryz
namespace Go.Ab.Tryz
open Go.Proofs
abbrev TT:=List Int × List Int × List Int
end Go.Ab.Tryz
namespace Go.Ab.Tryz
open Go.Proofs
end Go.Ab.Tryz
namespace Go.Ab.Tryz
open Go.Proofs
abbrev V3:=V × V × V
variable {h0 h h':H} {y:V} {L:List TT} {vs:List V3} {n n':Nat}
end Go.Ab.Tryz
namespace Go.Ab.Tryz
open Go.Proofs
end Go.Ab.Tryz
namespace Go.Ab.Tryz
open Go.Proofs
end Go.Ab.Tryz
namespace Go.Ab.Tryz
open Go.Proofs
end Go.Ab.Tryz
namespace Go.Ab.Tryz
open Go.Proofs
end Go.Ab.Tryz
namespace Go.Ab.Tryz
open Go.Proofs
end Go.Ab.Tryz
namespace Go.Ab.Tryz
open Go.Proofs
variable {z5 z z':H} {cs:List (List V)} {n0:Nat}
def erV (a:At)(f t:Int):Int:=if a.evB f=true∧a.evB t=true then 0 else 1
def er7 (a:At)(e:Int):Int:=if e=0∧allC a=[] then 7 else e
theorem evV_ok {a:At}{f t:Int}(h:er7 a (erV a f t)=0):(a.evB f=true∧a.evB t=true)∧allC a≠[]:=by
 unfold er7 erV at h
 by_cases hb:a.evB f=true∧a.evB t=true
 ·rw[if_pos hb] at h
  exact⟨hb,fun e=>by rw[if_pos ⟨rfl,e⟩] at h;cases h⟩
 ·rw[if_neg hb,if_neg (by simp)] at h;cases h
end Go.Ab.Tryz
namespace Go.Ab
end Go.Ab
namespace Go.Ab.Tryz
open Go.Proofs
def i1 (n:Int):List V:=[.int .i64 n]
def i2 (s:Int × Int):List V:=[.int .i64 s.1,.int .i64 s.2]
end Go.Ab.Tryz
namespace Go.Ab.Tryz
open Go.Proofs
theorem chg_one {l:List Rd}{k:Nat}{r:Rd}(hk:l[k]? =some r)(m:Int):chgL (fun i=>decide (i=k)) m l l.length=l.set k {r with sh:=r.sh+m}:=by
 have hl:=getl hk
 refine List.ext_getElem? fun j=>?_
 rw[chgL_at,List.getElem?_set]
 by_cases e:k=j
 ·subst e
  rw[if_pos rfl,if_pos hl,hk]
  simp[hl]
 ·rw[if_neg e]
  have:¬j=k:=fun q=>e q.symm
  cases l[j]? <;>simp[this]
structure NS (B:Int)(z hh:H)(p:Nat)(y:V)(f1 f2:Int→Int)(ob1 ob2 d c1' c2' c3' n1 n2 n3 ne:Nat)(a:At):Prop where
 s:z.Sub hh
 sp:∃T,0≤T∧T≤B∧SpAt hh p y T
 g1:hh.get ob1=some (.cells .rw (tab f1 n1))
 g2:hh.get ob2=some (.cells .rw (tab f2 ne))
 gd:hh.get d=some (.cells .rw (atV a (.sl c1' 0 n1 (.fix n1)) (.sl c2' 0 n2 (.fix n2)) (.sl c3' 0 n3 (.fix n3))))
 gc:hh.get c1'=some (.cells .rw (a.cks.map encC).flatten)
 gr:hh.get c2'=some (.cells .rw (a.rds.map encR).flatten)
 gg:hh.get c3'=some (.cells .rw (a.gps.map encG).flatten)
structure NO (z:H)(p ob1 ob2 d c1' c2' c3':Nat):Prop where
 q0:z.next≤p
 q1:p<ob1
 q2:ob1<ob2
 q3:ob2<c1'
 q4:c1'<c2'
 q5:c2'<c3'
 q6:c3'<d
variable {B B':Int} {z hh hh':H} {p:Nat} {y:V} {f1 f2:Int→Int} {ob1 ob2 d c1' c2' c3' n1 n2 n3 ne:Nat} {a:At}
theorem NS.mono (k:NS B z hh p y f1 f2 ob1 ob2 d c1' c2' c3' n1 n2 n3 ne a)(s:hh.Sub hh'):NS B z hh' p y f1 f2 ob1 ob2 d c1' c2' c3' n1 n2 n3 ne a:=by
 obtain⟨T,T0,T1,sp⟩:=k.sp
 exact⟨k.s.trans s,⟨T,T0,T1,sp.mono s⟩,s.get k.g1,s.get k.g2,s.get k.gd,s.get k.gc,s.get k.gr,s.get k.gg⟩
theorem NS.sets (k:NS B z hh p y f1 f2 ob1 ob2 d c1' c2' c3' n1 n2 n3 ne a)(o:NO z p ob1 ob2 d c1' c2' c3')(hw:z.wf){a':At}(hm:a'.mins=a.mins∧a'.evs=a.evs){b:Nat}{x:List V}
  (h:b=c1'∧x=(a'.cks.map encC).flatten∧a'.rds=a.rds∧a'.gps=a.gps∨b=c2'∧x=(a'.rds.map encR).flatten∧a'.cks=a.cks∧a'.gps=a.gps∨b=c3'∧x=(a'.gps.map encG).flatten∧a'.cks=a.cks∧a'.rds=a.rds):
  NS B z (hh.set b (.cells .rw x)) p y f1 f2 ob1 ob2 d c1' c2' c3' n1 n2 n3 ne a':=by
 obtain⟨T,T0,T1,sp⟩:=k.sp
 obtain⟨o0,o1,o2,o3,o4,o5,o6⟩:=o
 have hb:c1'≤b∧b≤c3':=by rcases h with⟨h,_⟩|⟨h,_⟩|⟨h,_⟩<;>omega
 have lb:=k.s.wf _ _ k.gd
 have gd:=k.gd
 simp only[atV] at gd⊢
 refine⟨k.s.set (by omega) (by omega) hw _,⟨T,T0,T1,sp.keep (Keeps.set ..) (by omega)⟩,by rw[get_set_other (by omega)];exact k.g1,by rw[get_set_other (by omega)];exact k.g2,by rw[get_set_other (by omega),gd];simp only[atV,hm.1,hm.2],?_,?_,?_⟩
 ·rcases h with⟨h,hx,e1,e2⟩|⟨h,hx,e1,e2⟩|⟨h,hx,e1,e2⟩
  ·subst h;rw[get_set_same rfl,hx]
  ·rw[get_set_other (by omega),e1];exact k.gc
  ·rw[get_set_other (by omega),e1];exact k.gc
 ·rcases h with⟨h,hx,e1,e2⟩|⟨h,hx,e1,e2⟩|⟨h,hx,e1,e2⟩
  ·rw[get_set_other (by omega),e1];exact k.gr
  ·subst h;rw[get_set_same rfl,hx]
  ·rw[get_set_other (by omega),e2];exact k.gr
 ·rcases h with⟨h,hx,e1,e2⟩|⟨h,hx,e1,e2⟩|⟨h,hx,e1,e2⟩
  ·rw[get_set_other (by omega),e2];exact k.gg
  ·rw[get_set_other (by omega),e2];exact k.gg
  ·subst h;rw[get_set_same rfl,hx]
theorem NS.turn (k:NS B z hh p y f1 f2 ob1 ob2 d c1' c2' c3' n1 n2 n3 ne a)(o:NO z p ob1 ob2 d c1' c2' c3')(s:z.Sub hh')(kk:Keeps (fun c=>c=p) hh hh'){T:Int}(T0:0≤T)(T1:T≤B')(sp:SpAt hh' p y T):NS B' z hh' p y f1 f2 ob1 ob2 d c1' c2' c3' n1 n2 n3 ne a:=by
 obtain⟨o0,o1,o2,o3,o4,o5,o6⟩:=o
 exact⟨s,⟨T,T0,T1,sp⟩,kk.2 _ _ k.g1 (by omega),kk.2 _ _ k.g2 (by omega),kk.2 _ _ k.gd (by omega),kk.2 _ _ k.gc (by omega),kk.2 _ _ k.gr (by omega),kk.2 _ _ k.gg (by omega)⟩
theorem NS.at_ (k:NS B z hh p y f1 f2 ob1 ob2 d c1' c2' c3' n1 n2 n3 ne a)(h1:a.cks.length=n1)(h2:a.rds.length=n2)(h3:a.gps.length=n3)(b:n1≤100∧n2≤100∧n3≤100):AtAt hh (.sl c1' 0 n1 (.fix n1)) (.sl c2' 0 n2 (.fix n2)) (.sl c3' 0 n3 (.fix n3)) a:=by
 have key:∀{α:Type} {enc:α→List V} {l:List α} {c n sz:Nat},(∀x,(enc x).length=sz)→l.length=n→n≤100→hh.get c=some (.cells .rw (l.map enc).flatten)→SlAt hh (.sl c 0 n (.fix n)) sz (l.map enc):=fun{α enc l c n sz} he hl hn hg=>by
  have hf:=flatten_len (sz:=sz) (rows:=l.map enc) fun r hr=>by obtain⟨x,_,rfl⟩:=List.mem_map.1 hr;exact he x
  refine⟨fun r hr=>by obtain⟨x,_,rfl⟩:=List.mem_map.1 hr;exact he x,by rw[List.length_map];omega,.inr ⟨c,0,.fix n,_,by rw[List.length_map,hl],.inr (cells_of hg),getN_eq.2 ⟨?_,by rw[hf];omega⟩⟩⟩
  rw[List.drop_zero,←hf,List.take_length]
 exact⟨key (fun _=>rfl) h1 b.1 k.gc,key (fun _=>rfl) h2 b.2.1 k.gr,key (fun _=>rfl) h3 b.2.2 k.gg⟩
set_option maxHeartbeats 16000000 in
theorem ClockNamed_ev {h:H}{x y:V}{bs os:List Int}(hw:h.wf)(hx:SlAt h x 1 (bs.map encU8))(hy:SlAt h y 1 (os.map encU8)){u:Int}(hu:0≤u∧u≤255):
  Ev fnG fastA (.fn 3 [] []) [x,y,.int .u8 u] h fun v _=>v=.bool true:=by
 refine Ev.gen fun Q q=>?_
 refine Ev_body (fd:=c3) rfl rfl rfl ?_
 simp only[c3]
 rw[W_assoc,W_assoc]
 obtain⟨J1,hJ1⟩:∃J:St→Prop,∀s,J s↔∃tm z b C R G p7,s=⟨tm,z,[]⟩∧h.Sub z∧AtAt z C R G b∧Right b∧(∃runs y,Tru b (fun _=>false) runs y)∧z.get p7=some (.cells .rw (atV b C R G))∧(Opd.t 1).ev tm=y∧(Opd.t 7).ev tm=.ptr p7 0:=⟨_,fun s=>Iff.rfl⟩
 refine W_split J1 ?_ fun s hs=>?_
 ·simp -implicitDefEqProofs(maxSteps:=999999)(disch:=first|with_reducible rfl|omega|(simp only[nA,nS,nD]<;>omega)|fail)only[go_sem]
  refine Wound_ev hw hx _ fun h1 s1 p1 n1=>?_
  simp -implicitDefEqProofs(maxSteps:=999999)(disch:=first|with_reducible rfl|omega|(simp only[nA,nS,nD]<;>omega)|fail)only[go_sem]
  refine Made2_ev s1 hw hx (Nat.le_refl _) p1 (by omega) (by omega) (by omega) (by omega) (by omega) _ fun h2 T2 a ss gg tt C R G S Ga Tm mk mo=>?_
  have ok:=mk.ok
  have r:=ok.right mk.lt
  have tru:=ok.tru
  have lt:=mk.lt
  have oC:=mk.at_.c.one;have oR:=mk.at_.r.one;have oG:=mk.at_.g.one
  have oS:=mk.as_.one;have oGa:=mk.ag.one;have oTm:=mk.am.one
  have hw2:=mk.s.wf
  obtain⟨hA,hhA⟩:∃hA,((((h2.add (.cells .rw [.int .i64 0,.int .i64 0,.nils,.nils,.nils])).add (.cells .rw [.nils,.nils,.nils])).set h2.next (.cells .rw (atV a C R G))).set (h2.next+1) (.cells .rw [S,Ga,Tm]))=hA:=⟨_,rfl⟩
  have sA:h2.Sub hA:=by rw[←hhA];exact(by repeat(first|assumption|exact H.Sub.refl (by assumption)|refine H.Sub.add ?_ _|refine H.Sub.set ?_ (by first|omega|(simp only[H.next_add,H.next_set,H.next_del]<;>omega)) (by first|omega|(simp only[H.next_add,H.next_set,H.next_del]<;>omega)) (by assumption) _))
  have g7:hA.get h2.next=some (.cells .rw (atV a C R G)):=by rw[←hhA];simp -implicitDefEqProofs(maxSteps:=999999)(disch:=first|with_reducible rfl|omega|(simp only[nA,nS,nD]<;>omega)|fail)only[go_sem]
  have xA:=mk.at_.mono sA
  have hlR:=xA.r.lenE
  have lr:=ok.rl
  have l2:∀b,blkOf R b→b<h2.next:=fun b hb=>(mo.r.blk hb).2.1
  by_cases hl0:(0:Int)<(a.rds.length:Int)
  case neg=>
   simp -implicitDefEqProofs(maxSteps:=999999)(disch:=first|with_reducible rfl|omega|(simp only[nA,nS,nD]<;>omega)|fail)only[go_sem,oC,oR,oG,oS,oGa,oTm,hhA,cells_of g7,hlR,hl0]
   exact(hJ1 _).2 ⟨_,_,a,C,R,G,h2.next,rfl,mk.s.trans sA,xA,r,⟨_,_,tru_fewer (fun i _ h=>by cases h) tru⟩,g7,(by simp[ev_c,ev_put]<;>rfl),(by simp[ev_c,ev_put]<;>rfl)⟩
  have m2:u.tmod 2=u%2:=Int.tmod_eq_emod_of_nonneg hu.1
  by_cases hpar:u%2=0
  case neg=>
   simp -implicitDefEqProofs(maxSteps:=999999)(disch:=first|with_reducible rfl|omega|(simp only[nA,nS,nD]<;>omega)|fail)only[go_sem,oC,oR,oG,oS,oGa,oTm,hhA,cells_of g7,hlR,hl0,q_ar_rem .u8 (show(2:Int)≠0 by decide),m2,hpar]
   exact(hJ1 _).2 ⟨_,_,a,C,R,G,h2.next,rfl,mk.s.trans sA,xA,r,⟨_,_,tru_fewer (fun i _ h=>by cases h) tru⟩,g7,(by simp[ev_c,ev_put]<;>rfl),(by simp[ev_c,ev_put]<;>rfl)⟩
  have hne:(a.rds.length:Int)≠0:=by omega
  have t0:=Int.tmod_nonneg (a.rds.length:Int) hu.1
  have t1:=Int.tmod_lt_of_pos u hl0
  obtain⟨k,hk⟩:∃k:Nat,u.tmod (a.rds.length:Int)=k:=⟨(u.tmod (a.rds.length:Int)).toNat,by omega⟩
  have hkl:k<a.rds.length:=by omega
  obtain⟨mm,hmm⟩:∃mm,u.tmod 7=mm:=⟨_,rfl⟩
  have hmb:0≤mm∧mm≤100:=by
   have h1:=Int.tmod_nonneg 7 hu.1
   have h2:=Int.tmod_lt_of_pos u (show(0:Int)<7 by decide)
   omega
  have wu:wr .i64 u=u:=wr_in (by omega) (by omega)
  obtain⟨rr,hrr⟩:∃rr,a.rds[k]=rr:=⟨_,rfl⟩
  have hk1:a.rds[k]? =some rr:=by rw[List.getElem?_eq_getElem hkl,hrr]
  obtain⟨_,_,sv,gv,tv,e1,e2,e3,e4⟩:=ok.rd rr (by rw[←hrr];exact List.getElem_mem hkl)
  have htv:=ok.tm tv (List.mem_of_getElem? e3)
  have hm:=ok.m
  have hsb:=shw_bd (ok.run e1 e2) htv.1 (by omega)
  have wsh:wr .i64 (rr.sh+mm)=rr.sh+mm:=wr_in (by omega) (by omega)
  have oRA:=mo.r.mono sA
  obtain⟨b,z',hbk,hput,o',k',n',hq',cs,hcs,hnth⟩:=oRA.putAt (k:=k) (j:=2) (pre:=[.int .i64 rr.ck,.int .i64 rr.ev]) (post:=[]) (old:=.int .i64 rr.sh) (v:=.int .i64 (rr.sh+mm)) hw (row:=encR rr) (by rw[List.getElem?_map,hk1];rfl) rfl rfl rfl
  have hc1:=chg_one hk1 mm
  have e5:(a.rds.map encR).set k ([V.int .i64 rr.ck,.int .i64 rr.ev]++[.int .i64 (rr.sh+mm)])=(chgL (fun i=>decide (i=k)) mm a.rds a.rds.length).map encR:=by rw[hc1,List.map_set];rfl
  rw[e5] at o'
  have hr:=right_chg (f:=fun i=>decide (i=k)) ok lt hmb
  have hfalse:Tru (a.chg (fun i=>decide (i=k)) mm) (fun _=>false) (ss.zip gg) (timeF tt):=chg_tru tru fun i _ h=>by cases h
  have kz:=k'.mono (T:=blkOf R) fun c hc=>hc▸hbk
  have g7z:=kz.2 _ _ g7 fun hb=>by have:=l2 _ hb;omega
  have dj:=mo.dj
  have xb:AtAt z' C R G (a.chg (fun i=>decide (i=k)) mm):=⟨SlAt_keep xA.c kz fun c h1 h2=>(dj c h2).1 h1,o'.sl (by rw[List.length_map,chgL_len];omega),SlAt_keep xA.g kz fun c h1 h2=>(dj c h2).2.1 h1⟩
  simp -implicitDefEqProofs(maxSteps:=999999)(disch:=first|with_reducible rfl|omega|(simp only[nA,nS,nD]<;>omega)|fail)only[go_sem,oC,oR,oG,oS,oGa,oTm,hhA,cells_of g7,hlR,hl0,q_ar_rem .u8 (show(2:Int)≠0 by decide),m2,hpar,wu,q_ar_rem .i64 hne,hk,hq' (nat_cst k),hcs,hnth,q_ar_rem .i64 (show(7:Int)≠0 by decide),hmm,wsh,hput]
  exact(hJ1 _).2 ⟨_,_,_,C,R,G,h2.next,rfl,o'.1,xb,hr,⟨_,_,hfalse⟩,g7z,(by simp[ev_c,ev_put]<;>rfl),(by simp[ev_c,ev_put]<;>rfl)⟩
 obtain⟨tm,z,b,C,R,G,p7,rfl,sz,xb,r,⟨runsF,yF,tF⟩,g7,t1,t7⟩:=(hJ1 s).1 hs
 have hwz:=sz.wf
 have oC:=xb.c.one;have oR:=xb.r.one;have oG:=xb.g.one
 have hlC:=xb.c.lenE;have hlR:=xb.r.lenE;have hlG:=xb.g.lenE
 have rl:=r.lens
 have re:=r.evs
 have hyz:=hy.mono sz
 have sm:SmallA b:=⟨by omega,by omega,by omega⟩
 have lp7:=hwz _ _ g7
 obtain⟨ne,hne⟩:∃ne:Nat,b.evs=ne:=⟨b.evs.toNat,by omega⟩
 rw[W_assoc,W_assoc]
 obtain⟨J2,hJ2⟩:∃J:Int→(Int→Int)→(Int→Int)→(Nat × Nat × Nat × Nat × Nat × Nat × Nat)→At→St→Prop,∀B f1 f2 P o s,J B f1 f2 P o s↔∃tm z',s=⟨tm,z',[]⟩∧NS B z z' P.1 y f1 f2 P.2.1 P.2.2.1 P.2.2.2.1 P.2.2.2.2.1 P.2.2.2.2.2.1 P.2.2.2.2.2.2 b.cks.length b.rds.length b.gps.length ne o∧
   (Opd.t 7).ev tm=.ptr p7 0∧(Opd.t 9).ev tm=.ptr P.1 0∧(Opd.t 10).ev tm=.sl P.2.1 0 b.cks.length (.fix b.cks.length)∧(Opd.t 11).ev tm=.sl P.2.2.1 0 ne (.fix ne)∧(Opd.t 12).ev tm=.ptr P.2.2.2.1 0:=⟨_,fun _ _ _ _ _ _=>Iff.rfl⟩
 refine W_split (fun s=>∃f1 f2 P,PermI f1 (b.cks.length:Int)∧PermI f2 (ne:Int)∧NO z P.1 P.2.1 P.2.2.1 P.2.2.2.1 P.2.2.2.2.1 P.2.2.2.2.2.1 P.2.2.2.2.2.2∧J2 10 f1 f2 P b s) ?_ ?_
 ·simp -implicitDefEqProofs(maxSteps:=999999)(disch:=first|with_reducible rfl|omega|(simp only[nA,nS,nD]<;>omega)|fail)only[go_sem,t1,t7]
  refine Wound_ev hwz hyz _ fun z1 s1 p1 n1=>?_
  simp -implicitDefEqProofs(maxSteps:=999999)(disch:=first|with_reducible rfl|omega|(simp only[nA,nS,nD]<;>omega)|fail)only[go_sem,t1,t7,cells_of (s1.get g7),hlC]
  refine Order_ev s1 hwz hyz (Nat.le_refl _) p1 (by omega) (n:=b.cks.length) (by omega) _ fun f1 ob1 z2 T1 hp1 hT1 s2 p2 k2 ho1 go1=>?_
  simp -implicitDefEqProofs(maxSteps:=999999)(disch:=first|with_reducible rfl|omega|(simp only[nA,nS,nD]<;>omega)|fail)only[go_sem,t1,t7,cells_of (s1.get g7),cells_of (s2.get g7),hlC,hne]
  refine Order_ev s2 hwz hyz (Nat.le_refl _) p2 (by omega) (n:=ne) (by omega) _ fun f2 ob2 z3 T2 hp2 hT2 s3 p3 k3 ho2 go2=>?_
  have lo1:=s2.wf _ _ go1
  have lo2:=s3.wf _ _ go2
  have lz:=s1.next
  have go1':=k3.2 _ _ go1 (by omega)
  simp -implicitDefEqProofs(maxSteps:=999999)(disch:=first|with_reducible rfl|omega|(simp only[nA,nS,nD]<;>omega)|fail)only[go_sem,t1,t7,cells_of (s1.get g7),cells_of (s2.get g7),cells_of (s3.get g7),hlC,hne,oC,oR,oG]
  have eag:(V.agg [V.int .i64 b.mins,V.int .i64 (ne:Int),C,R,G])=.agg (atV b C R G):=by rw[←hne]
  rw[eag]
  refine own_ev s3.wf (xb.mono s3) sm _ fun C' R' G' z4 n4=>?_
  obtain⟨b1,b2,b3,rfl,rfl,rfl,l1,l2,l3,l4,q1,q2,q3⟩:=n4.is
  have s34:=n4.s
  have s4:=s3.trans s34
  obtain⟨z5,hz5⟩:∃z5,z4.add (.cells .rw (atV b (.sl b1 0 b.cks.length (.fix b.cks.length)) (.sl b2 0 b.rds.length (.fix b.rds.length)) (.sl b3 0 b.gps.length (.fix b.gps.length))))=z5:=⟨_,rfl⟩
  have s45:z4.Sub z5:=by rw[←hz5];exact(H.Sub.refl s4.wf).add _
  have gd5:z5.get z4.next=some (.cells .rw (atV b (.sl b1 0 b.cks.length (.fix b.cks.length)) (.sl b2 0 b.rds.length (.fix b.rds.length)) (.sl b3 0 b.gps.length (.fix b.gps.length)))):=by rw[←hz5];exact get_add_new rfl
  simp -implicitDefEqProofs(maxSteps:=999999)(disch:=first|with_reducible rfl|omega|(simp only[nA,nS,nD]<;>omega)|fail)only[go_sem,t1,t7,hz5]
  try rw[hz5]
  clear hz5
  have s35:=s34.trans s45
  refine⟨f1,f2,(z.next,ob1,ob2,z4.next,b1,b2,b3),hp1,hp2,⟨Nat.le_refl _,by simp only;omega,by simp only;omega,by simp only;omega,by simp only;omega,by simp only;omega,by simp only;omega⟩,(hJ2 _ _ _ _ _ _).2 ⟨_,_,rfl,⟨s4.trans s45,⟨T2,hT2.1,by omega,p3.mono s35⟩,s35.get go1',s35.get go2,gd5,s45.get q1,s45.get q2,s45.get q3⟩,(by simp[ev_c,ev_put,t7]<;>rfl),(by simp[ev_c,ev_put]<;>rfl),(by simp[ev_c,ev_put]<;>rfl),(by simp[ev_c,ev_put]<;>rfl),(by simp[ev_c,ev_put]<;>rfl)⟩⟩
 clear t1 t7
 rintro s ⟨f1,f2,P,hp1,hp2,no,hs⟩
 obtain⟨pc,ob1,ob2,d,c1',c2',c3'⟩:=P
 obtain⟨o0,o1,o2,o3,o4,o5,o6⟩:=id no
 simp only at o0 o1 o2 o3 o4 o5 o6
 obtain⟨pf1,pi1⟩:=hp1.nat
 obtain⟨pf2,pi2⟩:=hp2.nat
 obtain⟨F1,hF1⟩:∃F:Nat→Nat,∀i:Nat,(f1 (i:Int)).toNat=F i:=⟨_,fun _=>rfl⟩
 obtain⟨F2,hF2⟩:∃F:Nat→Nat,∀i:Nat,(f2 (i:Int)).toNat=F i:=⟨_,fun _=>rfl⟩
 simp only[hF1] at pf1 pi1
 simp only[hF2] at pf2 pi2
 have hzb:∀{bb:Nat} {Z:H} {cs:List V},z.cells bb=some cs→z.Sub Z→Z.cells bb=some cs:=fun h s=>s.cells h
 refine W_split (J2 10 f1 f2 (pc,ob1,ob2,d,c1',c2',c3') {b with cks:=stG b.cks b.cks F1 b.cks.length}) ?_ fun s hs=>?_
 ·obtain⟨tm,z',rfl,k,t7,t9,t10,t11,t12⟩:=(hJ2 _ _ _ _ _ _).1 hs
  simp -implicitDefEqProofs(maxSteps:=999999)(disch:=first|with_reducible rfl|omega|(simp only[nA,nS,nD]<;>omega)|fail)only[go_sem,t10]
  refine W_count b.cks.length (fun i s=>∃tm z',s=⟨tm,z',[]⟩∧NS 10 z z' pc y f1 f2 ob1 ob2 d c1' c2' c3' b.cks.length b.rds.length b.gps.length ne {b with cks:=stG b.cks b.cks F1 i}∧
    (Opd.t 7).ev tm=.ptr p7 0∧(Opd.t 9).ev tm=.ptr pc 0∧(Opd.t 10).ev tm=.sl ob1 0 b.cks.length (.fix b.cks.length)∧(Opd.t 11).ev tm=.sl ob2 0 ne (.fix ne)∧(Opd.t 12).ev tm=.ptr d 0∧(Opd.t 82).ev tm=.sl ob1 0 b.cks.length (.fix b.cks.length)∧(Opd.t 83).ev tm=.int .i64 (b.cks.length:Int)∧(Opd.t 84).ev tm=.int .i64 (i:Int)) ?_ ?_ (i:=0) (Nat.zero_le _)
   ⟨_,_,rfl,k,(by simp[ev_c,ev_put,t7]<;>rfl),(by simp[ev_c,ev_put,t9]<;>rfl),(by simp[ev_c,ev_put,t10]<;>rfl),(by simp[ev_c,ev_put,t11]<;>rfl),(by simp[ev_c,ev_put,t12]<;>rfl),(by simp[ev_c,ev_put]<;>rfl),(by simp[ev_c,ev_put]<;>rfl),(by simp[ev_c,ev_put]<;>rfl)⟩
  ·clear k t7 t9 t10 t11 t12 hs
   rintro i s hi ⟨tm,z',rfl,k,t7,t9,t10,t11,t12,t82,t83,t84⟩
   have hi':(i:Int)<(b.cks.length:Int):=by omega
   obtain⟨fl,fe⟩:=pf1 i hi
   obtain⟨bE,oE,kE,csE,_,hcE,hqE,hgE,_,_⟩:=xb.c.at hi
   have hcE':=k.s.cells hcE
   have htab:nth i (tab f1 b.cks.length)=some (.int .i64 (F1 i:Int)):=by rw[tab_at2 hi,fe]
   have hput:=rows_put (enc:=encC) (sz:=4) (fun _=>rfl) (stG b.cks b.cks F1 i) (k:=F1 i) (by rw[stG_len];exact fl) b.cks[i]
   rw[←stG_succ (List.getElem?_eq_getElem hi)] at hput
   simp only[encC] at hgE
   have hput':putN (F1 i*4) [V.int .i64 b.cks[i].sl,.int .i64 b.cks[i].sh,.int .i64 b.cks[i].gl,.int .i64 b.cks[i].gh] ((stG b.cks b.cks F1 i).map encC).flatten=some ((stG b.cks b.cks F1 (i+1)).map encC).flatten:=hput
   have g7z:=k.s.get g7
   have gd:=k.gd
   have gc:=k.gc
   simp only at gc
   simp -implicitDefEqProofs(maxSteps:=999999)(disch:=first|with_reducible rfl|omega|(simp only[nA,nS,nD]<;>omega)|fail)only[go_sem,t7,t9,t10,t11,t12,t82,t83,t84,hi',q_iad_sl (nat_cst i) hi,q_iad_sl (nat_cst (F1 i)) fl,Nat.mul_one,cells_of k.g1,htab,cells_of g7z,cells_of gd,hqE (nat_cst i),hcE',hgE,cells_of gc,gc,hput',wr_succ]
   exact⟨_,_,rfl,NS.sets (a':={b with cks:=stG b.cks b.cks F1 (i+1)}) k no hwz ⟨rfl,rfl⟩ (.inl ⟨rfl,rfl,rfl,rfl⟩),(by simp[ev_c,ev_put,t7]<;>rfl),(by simp[ev_c,ev_put,t9]<;>rfl),(by simp[ev_c,ev_put,t10]<;>rfl),(by simp[ev_c,ev_put,t11]<;>rfl),(by simp[ev_c,ev_put,t12]<;>rfl),(by simp[ev_c,ev_put,t82]<;>rfl),(by simp[ev_c,ev_put,t83]<;>rfl),(by simp[ev_c,ev_put]<;>rfl)⟩
  ·clear k t7 t9 t10 t11 t12 hs
   rintro s ⟨tm,z',rfl,k,t7,t9,t10,t11,t12,t82,t83,t84⟩
   simp -implicitDefEqProofs(maxSteps:=999999)(disch:=first|with_reducible rfl|omega|(simp only[nA,nS,nD]<;>omega)|fail)only[go_sem,t82,t83,t84,Int.lt_irrefl]
   exact(hJ2 _ _ _ _ _ _).2 ⟨_,_,rfl,k,(by simp[ev_c,ev_put,t7]<;>rfl),(by simp[ev_c,ev_put,t9]<;>rfl),(by simp[ev_c,ev_put,t10]<;>rfl),(by simp[ev_c,ev_put,t11]<;>rfl),(by simp[ev_c,ev_put,t12]<;>rfl)⟩
 obtain⟨ren,hren⟩:∃ren:Rd→Rd,∀x,ren x=⟨(F1 x.ck.toNat:Int),(F2 x.ev.toNat:Int),x.sh⟩:=⟨_,fun _=>rfl⟩
 obtain⟨reg,hreg⟩:∃reg:Gp→Gp,∀x,reg x=⟨(F2 x.fr.toNat:Int),(F2 x.to.toNat:Int),x.lo,x.hi⟩:=⟨_,fun _=>rfl⟩
 obtain⟨ck',hck'⟩:∃ck',stG b.cks b.cks F1 b.cks.length=ck':=⟨_,rfl⟩
 rw[hck'] at hs
 refine W_split (fun s=>∃f3,PermI f3 (b.rds.length:Int)∧J2 20 f1 f2 (pc,ob1,ob2,d,c1',c2',c3') {b with cks:=ck',rds:=stG b.rds (b.rds.map ren) (fun i=>(f3 (i:Int)).toNat) b.rds.length} s) ?_ ?_
 ·obtain⟨tm,z',rfl,k,t7,t9,t10,t11,t12⟩:=(hJ2 _ _ _ _ _ _).1 hs
  obtain⟨T,T0,T1,sp⟩:=k.sp
  simp -implicitDefEqProofs(maxSteps:=999999)(disch:=first|with_reducible rfl|omega|(simp only[nA,nS,nD]<;>omega)|fail)only[go_sem,t7,t9,t10,cells_of (k.s.get g7),hlR]
  refine Order_ev k.s hwz hyz o0 sp (by omega) (n:=b.rds.length) (by omega) _ fun f3 ob3 z2 T2 hp3 hT2 s2 p2 k2 ho3 go3=>?_
  have lo3:=s2.wf _ _ go3
  have ld:=k.s.wf _ _ k.gd
  simp only at ld ho3
  obtain⟨pf3,pi3⟩:=hp3.nat
  have kk:=NS.turn (B':=20) k no s2 k2 hT2.1 (by omega) p2
  obtain⟨F3,hF3⟩:∃F:Nat→Nat,(fun i:Nat=>(f3 (i:Int)).toNat)=F:=⟨_,rfl⟩
  have hF3':∀i:Nat,(f3 (i:Int)).toNat=F3 i:=fun i=>by rw[←hF3]
  simp only[hF3'] at pf3 pi3
  simp -implicitDefEqProofs(maxSteps:=999999)(disch:=first|with_reducible rfl|omega|(simp only[nA,nS,nD]<;>omega)|fail)only[go_sem,t7,t9,t10]
  refine W_count b.rds.length (fun i s=>∃tm z',s=⟨tm,z',[]⟩∧NS 20 z z' pc y f1 f2 ob1 ob2 d c1' c2' c3' b.cks.length b.rds.length b.gps.length ne {b with cks:=ck',rds:=stG b.rds (b.rds.map ren) F3 i}∧z'.get ob3=some (.cells .rw (tab f3 b.rds.length))∧
    (Opd.t 7).ev tm=.ptr p7 0∧(Opd.t 9).ev tm=.ptr pc 0∧(Opd.t 10).ev tm=.sl ob1 0 b.cks.length (.fix b.cks.length)∧(Opd.t 11).ev tm=.sl ob2 0 ne (.fix ne)∧(Opd.t 12).ev tm=.ptr d 0∧(Opd.t 103).ev tm=.sl ob3 0 b.rds.length (.fix b.rds.length)∧(Opd.t 104).ev tm=.int .i64 (b.rds.length:Int)∧(Opd.t 105).ev tm=.int .i64 (i:Int)) ?_ ?_ (i:=0) (Nat.zero_le _)
   ⟨_,_,rfl,kk,go3,(by simp[ev_c,ev_put,t7]<;>rfl),(by simp[ev_c,ev_put,t9]<;>rfl),(by simp[ev_c,ev_put,t10]<;>rfl),(by simp[ev_c,ev_put,t11]<;>rfl),(by simp[ev_c,ev_put,t12]<;>rfl),(by simp[ev_c,ev_put]<;>rfl),(by simp[ev_c,ev_put]<;>rfl),(by simp[ev_c,ev_put]<;>rfl)⟩
  ·clear k kk t7 t9 t10 t11 t12 hs sp
   rintro i s hi ⟨tm,z',rfl,k,go,t7,t9,t10,t11,t12,t103,t104,t105⟩
   have hi':(i:Int)<(b.rds.length:Int):=by omega
   obtain⟨fl,fe⟩:=pf3 i hi
   obtain⟨bE,oE,kE,csE,_,hcE,hqE,hgE,_,_⟩:=xb.r.at hi
   have hcE':=k.s.cells hcE
   have htab:nth i (tab f3 b.rds.length)=some (.int .i64 (F3 i:Int)):=by rw[tab_at2 hi,fe]
   have hmi:(b.rds.map ren)[i]? =some (ren b.rds[i]):=by rw[List.getElem?_map,List.getElem?_eq_getElem hi];rfl
   have hput:=rows_put (enc:=encR) (sz:=3) (fun _=>rfl) (stG b.rds (b.rds.map ren) F3 i) (k:=F3 i) (by rw[stG_len];exact fl) (ren b.rds[i])
   rw[←stG_succ hmi] at hput
   obtain⟨pk,pe,e1,e2,h1,h2,_⟩:=r.rdn (List.getElem_mem hi)
   generalize b.rds[i]=rr at hgE hput e1 e2
   simp only[encR,hren,e1,e2,Int.toNat_natCast] at hgE hput
   obtain⟨gl1,ge1⟩:=pf1 pk h1
   obtain⟨gl2,ge2⟩:=pf2 pe (by omega)
   have htab1:nth pk (tab f1 b.cks.length)=some (.int .i64 (F1 pk:Int)):=by rw[tab_at2 h1,ge1]
   have htab2:nth pe (tab f2 ne)=some (.int .i64 (F2 pe:Int)):=by rw[tab_at2 (by omega),ge2]
   obtain⟨z3,hz3⟩:∃z3,z'.add (.cells .rw [.int .i64 (pk:Int),.int .i64 (pe:Int),.int .i64 rr.sh])=z3:=⟨_,rfl⟩
   have s3:z'.Sub z3:=by rw[←hz3];exact(H.Sub.refl k.s.wf).add _
   have g17:z3.get z'.next=some (.cells .rw [.int .i64 (pk:Int),.int .i64 (pe:Int),.int .i64 rr.sh]):=by rw[←hz3];exact get_add_new rfl
   have k3:=k.mono s3
   have g7z:=k.s.get g7
   have gd:=k3.gd
   have gr:=k3.gr
   simp only at gr
   have hp1':pk<b.cks.length:=h1
   have hp2':pe<ne:=by omega
   simp -implicitDefEqProofs(maxSteps:=999999)(disch:=first|with_reducible rfl|omega|(simp only[nA,nS,nD]<;>omega)|fail)only[go_sem,t7,t9,t10,t11,t12,t103,t104,t105,hi',q_iad_sl (nat_cst i) hi,Nat.mul_one,cells_of go,htab,cells_of g7z,hqE (nat_cst i),hcE',hgE,hz3]
   try rw[hz3]
   clear hz3
   simp -implicitDefEqProofs(maxSteps:=999999)(disch:=first|with_reducible rfl|omega|(simp only[nA,nS,nD]<;>omega)|fail)only[go_sem,t7,t9,t10,t11,t12,t103,t104,t105,q_iad_sl (nat_cst (F3 i)) fl,q_iad_sl (nat_cst pk) hp1',q_iad_sl (nat_cst pe) hp2',Nat.mul_one,cells_of g17,cells_of gd,cells_of k3.g1,cells_of k3.g2,htab1,htab2,cells_of gr,gr,hput,wr_succ]
   exact⟨_,_,rfl,NS.sets (a':={b with cks:=ck',rds:=stG b.rds (b.rds.map ren) F3 (i+1)}) k3 no hwz ⟨rfl,rfl⟩ (.inr (.inl ⟨rfl,rfl,rfl,rfl⟩)),by rw[get_set_other (by omega)];exact s3.get go,(by simp[ev_c,ev_put,t7]<;>rfl),(by simp[ev_c,ev_put,t9]<;>rfl),(by simp[ev_c,ev_put,t10]<;>rfl),(by simp[ev_c,ev_put,t11]<;>rfl),(by simp[ev_c,ev_put,t12]<;>rfl),(by simp[ev_c,ev_put,t103]<;>rfl),(by simp[ev_c,ev_put,t104]<;>rfl),(by simp[ev_c,ev_put]<;>rfl)⟩
  ·clear k kk t7 t9 t10 t11 t12 hs sp
   rintro s ⟨tm,z',rfl,k,go,t7,t9,t10,t11,t12,t103,t104,t105⟩
   simp -implicitDefEqProofs(maxSteps:=999999)(disch:=first|with_reducible rfl|omega|(simp only[nA,nS,nD]<;>omega)|fail)only[go_sem,t103,t104,t105,Int.lt_irrefl]
   exact⟨f3,hp3,(hJ2 _ _ _ _ _ _).2 ⟨_,_,rfl,by rw[hF3];exact k,(by simp[ev_c,ev_put,t7]<;>rfl),(by simp[ev_c,ev_put,t9]<;>rfl),(by simp[ev_c,ev_put,t10]<;>rfl),(by simp[ev_c,ev_put,t11]<;>rfl),(by simp[ev_c,ev_put,t12]<;>rfl)⟩⟩
 rintro s ⟨f3,hp3,hs⟩
 obtain⟨pf3,pi3⟩:=hp3.nat
 obtain⟨F3,hF3⟩:∃F:Nat→Nat,(fun i:Nat=>(f3 (i:Int)).toNat)=F:=⟨_,rfl⟩
 have hF3':∀i:Nat,(f3 (i:Int)).toNat=F3 i:=fun i=>by rw[←hF3]
 simp only[hF3'] at pf3 pi3
 rw[hF3] at hs
 obtain⟨rd',hrd'⟩:∃rd',stG b.rds (b.rds.map ren) F3 b.rds.length=rd':=⟨_,rfl⟩
 rw[hrd'] at hs
 refine W_split (fun s=>∃f4,PermI f4 (b.gps.length:Int)∧J2 30 f1 f2 (pc,ob1,ob2,d,c1',c2',c3') {b with cks:=ck',rds:=rd',gps:=stG b.gps (b.gps.map reg) (fun i=>(f4 (i:Int)).toNat) b.gps.length} s) ?_ ?_
 ·obtain⟨tm,z',rfl,k,t7,t9,t10,t11,t12⟩:=(hJ2 _ _ _ _ _ _).1 hs
  obtain⟨T,T0,T1,sp⟩:=k.sp
  simp -implicitDefEqProofs(maxSteps:=999999)(disch:=first|with_reducible rfl|omega|(simp only[nA,nS,nD]<;>omega)|fail)only[go_sem,t7,t9,t11,cells_of (k.s.get g7),hlG]
  refine Order_ev k.s hwz hyz o0 sp (by omega) (n:=b.gps.length) (by omega) _ fun f4 ob3 z2 T2 hp4 hT2 s2 p2 k2 ho3 go3=>?_
  have lo3:=s2.wf _ _ go3
  have ld:=k.s.wf _ _ k.gd
  simp only at ld ho3
  obtain⟨pf4,pi4⟩:=hp4.nat
  have kk:=NS.turn (B':=30) k no s2 k2 hT2.1 (by omega) p2
  obtain⟨F4,hF4⟩:∃F:Nat→Nat,(fun i:Nat=>(f4 (i:Int)).toNat)=F:=⟨_,rfl⟩
  have hF4':∀i:Nat,(f4 (i:Int)).toNat=F4 i:=fun i=>by rw[←hF4]
  simp only[hF4'] at pf4 pi4
  simp -implicitDefEqProofs(maxSteps:=999999)(disch:=first|with_reducible rfl|omega|(simp only[nA,nS,nD]<;>omega)|fail)only[go_sem,t7,t9,t11]
  refine W_count b.gps.length (fun i s=>∃tm z',s=⟨tm,z',[]⟩∧NS 30 z z' pc y f1 f2 ob1 ob2 d c1' c2' c3' b.cks.length b.rds.length b.gps.length ne {b with cks:=ck',rds:=rd',gps:=stG b.gps (b.gps.map reg) F4 i}∧z'.get ob3=some (.cells .rw (tab f4 b.gps.length))∧
    (Opd.t 7).ev tm=.ptr p7 0∧(Opd.t 9).ev tm=.ptr pc 0∧(Opd.t 10).ev tm=.sl ob1 0 b.cks.length (.fix b.cks.length)∧(Opd.t 11).ev tm=.sl ob2 0 ne (.fix ne)∧(Opd.t 12).ev tm=.ptr d 0∧(Opd.t 137).ev tm=.sl ob3 0 b.gps.length (.fix b.gps.length)∧(Opd.t 138).ev tm=.int .i64 (b.gps.length:Int)∧(Opd.t 139).ev tm=.int .i64 (i:Int)) ?_ ?_ (i:=0) (Nat.zero_le _)
   ⟨_,_,rfl,kk,go3,(by simp[ev_c,ev_put,t7]<;>rfl),(by simp[ev_c,ev_put,t9]<;>rfl),(by simp[ev_c,ev_put,t10]<;>rfl),(by simp[ev_c,ev_put,t11]<;>rfl),(by simp[ev_c,ev_put,t12]<;>rfl),(by simp[ev_c,ev_put]<;>rfl),(by simp[ev_c,ev_put]<;>rfl),(by simp[ev_c,ev_put]<;>rfl)⟩
  ·clear k kk t7 t9 t10 t11 t12 hs sp
   rintro i s hi ⟨tm,z',rfl,k,go,t7,t9,t10,t11,t12,t103,t104,t105⟩
   have hi':(i:Int)<(b.gps.length:Int):=by omega
   obtain⟨fl,fe⟩:=pf4 i hi
   obtain⟨bE,oE,kE,csE,_,hcE,hqE,hgE,_,_⟩:=xb.g.at hi
   have hcE':=k.s.cells hcE
   have htab:nth i (tab f4 b.gps.length)=some (.int .i64 (F4 i:Int)):=by rw[tab_at2 hi,fe]
   have hmi:(b.gps.map reg)[i]? =some (reg b.gps[i]):=by rw[List.getElem?_map,List.getElem?_eq_getElem hi];rfl
   have hput:=rows_put (enc:=encG) (sz:=4) (fun _=>rfl) (stG b.gps (b.gps.map reg) F4 i) (k:=F4 i) (by rw[stG_len];exact fl) (reg b.gps[i])
   rw[←stG_succ hmi] at hput
   obtain⟨pk,pe,e1,e2,h1,h2,_,_⟩:=r.gpn (List.getElem_mem hi)
   generalize b.gps[i]=rr at hgE hput e1 e2
   simp only[encG,hreg,e1,e2,Int.toNat_natCast] at hgE hput
   obtain⟨gl1,ge1⟩:=pf2 pk (by omega)
   obtain⟨gl2,ge2⟩:=pf2 pe (by omega)
   have hp1':pk<ne:=by omega
   have hp2':pe<ne:=by omega
   have htab1:nth pk (tab f2 ne)=some (.int .i64 (F2 pk:Int)):=by rw[tab_at2 hp1',ge1]
   have htab2:nth pe (tab f2 ne)=some (.int .i64 (F2 pe:Int)):=by rw[tab_at2 hp2',ge2]
   obtain⟨z3,hz3⟩:∃z3,z'.add (.cells .rw [.int .i64 (pk:Int),.int .i64 (pe:Int),.int .i64 rr.lo,.int .i64 rr.hi])=z3:=⟨_,rfl⟩
   have s3:z'.Sub z3:=by rw[←hz3];exact(H.Sub.refl k.s.wf).add _
   have g17:z3.get z'.next=some (.cells .rw [.int .i64 (pk:Int),.int .i64 (pe:Int),.int .i64 rr.lo,.int .i64 rr.hi]):=by rw[←hz3];exact get_add_new rfl
   have k3:=k.mono s3
   have g7z:=k.s.get g7
   have gd:=k3.gd
   have gr:=k3.gg
   simp only at gr
   simp -implicitDefEqProofs(maxSteps:=999999)(disch:=first|with_reducible rfl|omega|(simp only[nA,nS,nD]<;>omega)|fail)only[go_sem,t7,t9,t10,t11,t12,t103,t104,t105,hi',q_iad_sl (nat_cst i) hi,Nat.mul_one,cells_of go,htab,cells_of g7z,hqE (nat_cst i),hcE',hgE,hz3]
   try rw[hz3]
   clear hz3
   simp -implicitDefEqProofs(maxSteps:=999999)(disch:=first|with_reducible rfl|omega|(simp only[nA,nS,nD]<;>omega)|fail)only[go_sem,t7,t9,t10,t11,t12,t103,t104,t105,q_iad_sl (nat_cst (F4 i)) fl,q_iad_sl (nat_cst pk) hp1',q_iad_sl (nat_cst pe) hp2',Nat.mul_one,cells_of g17,cells_of gd,cells_of k3.g2,htab1,htab2,cells_of gr,gr,hput,wr_succ]
   exact⟨_,_,rfl,NS.sets (a':={b with cks:=ck',rds:=rd',gps:=stG b.gps (b.gps.map reg) F4 (i+1)}) k3 no hwz ⟨rfl,rfl⟩ (.inr (.inr ⟨rfl,rfl,rfl,rfl⟩)),by rw[get_set_other (by omega)];exact s3.get go,(by simp[ev_c,ev_put,t7]<;>rfl),(by simp[ev_c,ev_put,t9]<;>rfl),(by simp[ev_c,ev_put,t10]<;>rfl),(by simp[ev_c,ev_put,t11]<;>rfl),(by simp[ev_c,ev_put,t12]<;>rfl),(by simp[ev_c,ev_put,t103]<;>rfl),(by simp[ev_c,ev_put,t104]<;>rfl),(by simp[ev_c,ev_put]<;>rfl)⟩
  ·clear k kk t7 t9 t10 t11 t12 hs sp
   rintro s ⟨tm,z',rfl,k,go,t7,t9,t10,t11,t12,t103,t104,t105⟩
   simp -implicitDefEqProofs(maxSteps:=999999)(disch:=first|with_reducible rfl|omega|(simp only[nA,nS,nD]<;>omega)|fail)only[go_sem,t103,t104,t105,Int.lt_irrefl]
   exact⟨f4,hp4,(hJ2 _ _ _ _ _ _).2 ⟨_,_,rfl,by rw[hF4];exact k,(by simp[ev_c,ev_put,t7]<;>rfl),(by simp[ev_c,ev_put,t9]<;>rfl),(by simp[ev_c,ev_put,t10]<;>rfl),(by simp[ev_c,ev_put,t11]<;>rfl),(by simp[ev_c,ev_put,t12]<;>rfl)⟩⟩
 rintro s ⟨f4,hp4,hs⟩
 obtain⟨pf4,pi4⟩:=hp4.nat
 obtain⟨F4,hF4⟩:∃F:Nat→Nat,(fun i:Nat=>(f4 (i:Int)).toNat)=F:=⟨_,rfl⟩
 have hF4':∀i:Nat,(f4 (i:Int)).toNat=F4 i:=fun i=>by rw[←hF4]
 simp only[hF4'] at pf4 pi4
 rw[hF4] at hs
 obtain⟨gp',hgp'⟩:∃gp',stG b.gps (b.gps.map reg) F4 b.gps.length=gp':=⟨_,rfl⟩
 rw[hgp'] at hs
 obtain⟨o,ho⟩:∃o:At,{b with cks:=ck',rds:=rd',gps:=gp'}=o:=⟨_,rfl⟩
 rw[ho] at hs
 have R:Ren b o F1 F2 F3 F4:=by
  have hne':b.evs.toNat=ne:=by omega
  rw[←ho]
  refine⟨rfl,rfl,by show ck'.length=_;rw[←hck',stG_len],by show rd'.length=_;rw[←hrd',stG_len],by show gp'.length=_;rw[←hgp',stG_len],fun i hi=>(pf1 i hi).1,pi1,by rw[hne'];exact fun i hi=>(pf2 i hi).1,by rw[hne'];exact pi2,fun i hi=>(pf3 i hi).1,pi3,fun i hi=>(pf4 i hi).1,pi4,fun i hi=>?_,fun i x hx=>?_,fun i x hx=>?_⟩
  ·show ck'[F1 i]? =_
   rw[←hck']
   exact stG_at rfl (fun i hi=>(pf1 i hi).1) pi1 _ (Nat.le_refl _) i hi
  ·show rd'[F3 i]? =_
   rw[←hrd']
   have hi:=getl hx
   have:=stG_at (init:=b.rds) (l:=b.rds.map ren) (f:=F3) (by rw[List.length_map]) (by rw[List.length_map];exact fun i hi=>(pf3 i hi).1) (by rw[List.length_map];exact pi3) b.rds.length (by rw[List.length_map];exact Nat.le_refl _) i hi
   rw[this,List.getElem?_map,hx,Option.map_some,hren]
  ·show gp'[F4 i]? =_
   rw[←hgp']
   have hi:=getl hx
   have:=stG_at (init:=b.gps) (l:=b.gps.map reg) (f:=F4) (by rw[List.length_map]) (by rw[List.length_map];exact fun i hi=>(pf4 i hi).1) (by rw[List.length_map];exact pi4) b.gps.length (by rw[List.length_map];exact Nat.le_refl _) i hi
   rw[this,List.getElem?_map,hx,Option.map_some,hreg]
 have ro:=R.right r
 obtain⟨CC,hCC⟩:∃CC,V.sl c1' 0 b.cks.length (.fix b.cks.length)=CC:=⟨_,rfl⟩
 obtain⟨RC,hRC⟩:∃RC,V.sl c2' 0 b.rds.length (.fix b.rds.length)=RC:=⟨_,rfl⟩
 obtain⟨GC,hGC⟩:∃GC,V.sl c3' 0 b.gps.length (.fix b.gps.length)=GC:=⟨_,rfl⟩
 obtain⟨tm,z',rfl,k,t7,t9,t10,t11,t12⟩:=(hJ2 _ _ _ _ _ _).1 hs
 have xo:=k.at_ R.lc R.lr R.lg ⟨by omega,by omega,by omega⟩
 have gd:=k.gd
 simp only at gd xo
 rw[hCC,hRC,hGC] at gd xo
 have g1:=k.g1
 have g2:=k.g2
 simp only at g1 g2
 have g7z:=k.s.get g7
 have xbz:=xb.mono k.s
 have ooC:=xo.c.one;have ooR:=xo.r.one;have ooG:=xo.g.one
 have szz:=sz.trans k.s
 obtain⟨K,hK⟩:∃K:St→Prop,∀s,K s↔∃tm z2,s=⟨tm,z2,[]⟩∧z'.Sub z2∧(Opd.t 7).ev tm=.ptr p7 0∧(Opd.t 10).ev tm=.sl ob1 0 b.cks.length (.fix b.cks.length)∧(Opd.t 11).ev tm=.sl ob2 0 ne (.fix ne)∧(Opd.t 12).ev tm=.ptr d 0:=⟨_,fun _=>Iff.rfl⟩
 have fqn:∀u v:Int,q_feq true 2 (.agg [.int .i64 u,.int .i64 v]) (.agg [.int .i64 u,.int .i64 v])=some (.bool false):=fun u v=>by
  have:=q_feq_map (n:=2) [u,v] [u,v] rfl rfl true
  simpa[iv,ngB] using this
 simp -implicitDefEqProofs(maxSteps:=999999)(disch:=first|with_reducible rfl|omega|(simp only[nA,nS,nD]<;>omega)|fail)only[go_sem,t11]
 refine W_count ne (fun i s=>∃tm z2,s=⟨tm,z2,[]⟩∧z'.Sub z2∧(Opd.t 7).ev tm=.ptr p7 0∧(Opd.t 10).ev tm=.sl ob1 0 b.cks.length (.fix b.cks.length)∧(Opd.t 11).ev tm=.sl ob2 0 ne (.fix ne)∧(Opd.t 12).ev tm=.ptr d 0∧(Opd.t 167).ev tm=.sl ob2 0 ne (.fix ne)∧(Opd.t 168).ev tm=.int .i64 (ne:Int)∧(Opd.t 169).ev tm=.int .i64 (i:Int)) ?_ ?_ (i:=0) (Nat.zero_le _)
  ⟨_,_,rfl,H.Sub.refl k.s.wf,(by simp[ev_c,ev_put,t7]<;>rfl),(by simp[ev_c,ev_put,t10]<;>rfl),(by simp[ev_c,ev_put,t11]<;>rfl),(by simp[ev_c,ev_put,t12]<;>rfl),(by simp[ev_c,ev_put]<;>rfl),(by simp[ev_c,ev_put]<;>rfl),(by simp[ev_c,ev_put]<;>rfl)⟩
 ·clear t7 t9 t10 t11 t12 hs
  rintro i s hi ⟨tm,z2,rfl,s2,t7,t10,t11,t12,t167,t168,t169⟩
  have hi':(i:Int)<(ne:Int):=by omega
  obtain⟨fl,fe⟩:=pf2 i hi
  have htab:nth i (tab f2 ne)=some (.int .i64 (F2 i:Int)):=by rw[tab_at2 hi,fe]
  obtain⟨et,eo⟩:=R.time r (e:=i) (by omega)
  simp -implicitDefEqProofs(maxSteps:=999999)(disch:=first|with_reducible rfl|omega|(simp only[nA,nS,nD]<;>omega)|fail)only[go_sem,t7,t10,t11,t12,t167,t168,t169,hi',q_iad_sl (nat_cst i) hi,Nat.mul_one,Nat.zero_add,cells_of (s2.get g2),htab,cells_of (s2.get g7z),oC,oR,oG]
  refine time_ev (szz.trans s2).wf (xbz.mono s2) (i:Int) _ fun z3 s3=>?_
  obtain⟨z4,hz4⟩:∃z4,z3.add (.cells .rw [.int .i64 (timeR b (i:Int)).1.1,.int .i64 (timeR b (i:Int)).1.2])=z4:=⟨_,rfl⟩
  have s4:z3.Sub z4:=by rw[←hz4];exact(H.Sub.refl s3.wf).add _
  have g23:z4.get z3.next=some (.cells .rw [.int .i64 (timeR b (i:Int)).1.1,.int .i64 (timeR b (i:Int)).1.2]):=by rw[←hz4];exact get_add_new rfl
  have s24:=s2.trans (s3.trans s4)
  simp -implicitDefEqProofs(maxSteps:=999999)(disch:=first|with_reducible rfl|omega|(simp only[nA,nS,nD]<;>omega)|fail)only[go_sem,t7,t10,t11,t12,t167,t168,t169,hz4,cells_of (s24.get gd),ooC,ooR,ooG]
  try rw[hz4]
  clear hz4
  refine time_ev (szz.trans s24).wf (xo.mono s24) (F2 i:Int) _ fun z5 s5=>?_
  rw[et]
  obtain⟨z6,hz6⟩:∃z6,z5.add (.cells .rw [.int .i64 (timeR b (i:Int)).1.1,.int .i64 (timeR b (i:Int)).1.2])=z6:=⟨_,rfl⟩
  have s6:z5.Sub z6:=by rw[←hz6];exact(H.Sub.refl s5.wf).add _
  have g25:z6.get z5.next=some (.cells .rw [.int .i64 (timeR b (i:Int)).1.1,.int .i64 (timeR b (i:Int)).1.2]):=by rw[←hz6];exact get_add_new rfl
  have s26:=s24.trans (s5.trans s6)
  have w1:wr .i64 ((i:Int)+1)=((i+1:Nat):Int):=by rw[wr_in (by omega) (by omega)];omega
  generalize timeR b (i:Int)=tr at eo g23 g25 hz6⊢
  obtain⟨⟨ta,tb⟩,te⟩:=tr
  simp only at eo g23 g25 hz6
  have d77:((7:Int)=7)=True:=eq_self _
  have d70:((7:Int)=0)=False:=eq_false (by decide)
  rcases eo with rfl|rfl
  ·simp -implicitDefEqProofs(maxSteps:=999999)(disch:=first|with_reducible rfl|omega|(simp only[nA,nS,nD]<;>omega)|fail)only[go_sem,t7,t10,t11,t12,t167,t168,t169,hz6,fqn,cells_of g25,cells_of ((s5.trans s6).get g23),ne_eq,not_true_eq_false,w1]
   exact⟨_,_,rfl,s26,(by simp[ev_c,ev_put,t7]<;>rfl),(by simp[ev_c,ev_put,t10]<;>rfl),(by simp[ev_c,ev_put,t11]<;>rfl),(by simp[ev_c,ev_put,t12]<;>rfl),(by simp[ev_c,ev_put,t167]<;>rfl),(by simp[ev_c,ev_put,t168]<;>rfl),(by simp[ev_c,ev_put]<;>rfl)⟩
  ·simp -implicitDefEqProofs(maxSteps:=999999)(disch:=first|with_reducible rfl|omega|(simp only[nA,nS,nD]<;>omega)|fail)only[go_sem,t7,t10,t11,t12,t167,t168,t169,hz6,fqn,d77,d70,cells_of g25,cells_of ((s5.trans s6).get g23),ne_eq,not_true_eq_false,not_false_eq_true,w1]
   exact⟨_,_,rfl,s26,(by simp[ev_c,ev_put,t7]<;>rfl),(by simp[ev_c,ev_put,t10]<;>rfl),(by simp[ev_c,ev_put,t11]<;>rfl),(by simp[ev_c,ev_put,t12]<;>rfl),(by simp[ev_c,ev_put,t167]<;>rfl),(by simp[ev_c,ev_put,t168]<;>rfl),(by simp[ev_c,ev_put]<;>rfl)⟩
 ·clear t7 t9 t10 t11 t12 hs
  rintro s ⟨tm,z2,rfl,s2,t7,t10,t11,t12,t167,t168,t169⟩
  simp -implicitDefEqProofs(maxSteps:=999999)(disch:=first|with_reducible rfl|omega|(simp only[nA,nS,nD]<;>omega)|fail)only[go_sem,t10,t167,t168,t169,Int.lt_irrefl]
  refine W_count b.cks.length (fun i s=>∃tm z2,s=⟨tm,z2,[]⟩∧z'.Sub z2∧(Opd.t 7).ev tm=.ptr p7 0∧(Opd.t 12).ev tm=.ptr d 0∧(Opd.t 203).ev tm=.sl ob1 0 b.cks.length (.fix b.cks.length)∧(Opd.t 204).ev tm=.int .i64 (b.cks.length:Int)∧(Opd.t 205).ev tm=.int .i64 (i:Int)) ?_ ?_ (i:=0) (Nat.zero_le _)
   ⟨_,_,rfl,s2,(by simp[ev_c,ev_put,t7]<;>rfl),(by simp[ev_c,ev_put,t12]<;>rfl),(by simp[ev_c,ev_put]<;>rfl),(by simp[ev_c,ev_put]<;>rfl),(by simp[ev_c,ev_put]<;>rfl)⟩
  ·clear s2 t7 t10 t11 t12 t167 t168 t169
   rintro i s hi ⟨tm,z2,rfl,s2,t7,t12,t203,t204,t205⟩
   have hi':(i:Int)<(b.cks.length:Int):=by omega
   obtain⟨fl,fe⟩:=pf1 i hi
   have htab:nth i (tab f1 b.cks.length)=some (.int .i64 (F1 i:Int)):=by rw[tab_at2 hi,fe]
   obtain⟨ge1,ge2⟩:=R.gains r hi
   have w1:wr .i64 ((i:Int)+1)=((i+1:Nat):Int):=by rw[wr_in (by omega) (by omega)];omega
   simp -implicitDefEqProofs(maxSteps:=999999)(disch:=first|with_reducible rfl|omega|(simp only[nA,nS,nD]<;>omega)|fail)only[go_sem,t7,t12,t203,t204,t205,hi',q_iad_sl (nat_cst i) hi,Nat.mul_one,Nat.zero_add,cells_of (s2.get g1),htab,cells_of (s2.get g7z),oC,oR,oG]
   refine Gains_ev (szz.trans s2).wf (xbz.mono s2) (i:Int) _ fun w3 z3 s3 k3=>?_
   have s23:=s2.trans s3
   simp -implicitDefEqProofs(maxSteps:=999999)(disch:=first|with_reducible rfl|omega|(simp only[nA,nS,nD]<;>omega)|fail)only[go_sem,t7,t12,t203,t204,t205,cells_of (s23.get gd),ooC,ooR,ooG]
   refine Gains_ev (szz.trans s23).wf (xo.mono s23) (F1 i:Int) _ fun w4 z4 s4 k4=>?_
   rw[ge1]
   rw[ge2] at k4
   have q1:=fun Q=>eqInt_ev (k3.mono s4) k4 Q
   simp -implicitDefEqProofs(maxSteps:=999999)(disch:=first|with_reducible rfl|omega|(simp only[nA,nS,nD]<;>omega)|fail)only[go_sem,t7,t12,t203,t204,t205,q1,ne_eq,not_true_eq_false,w1]
   exact⟨_,_,rfl,s23.trans s4,(by simp[ev_c,ev_put,t7]<;>rfl),(by simp[ev_c,ev_put,t12]<;>rfl),(by simp[ev_c,ev_put,t203]<;>rfl),(by simp[ev_c,ev_put,t204]<;>rfl),(by simp[ev_c,ev_put]<;>rfl)⟩
  ·clear s2 t7 t10 t11 t12 t167 t168 t169
   rintro s ⟨tm,z2,rfl,s2,t7,t12,t203,t204,t205⟩
   obtain⟨w,v,ew,ev,elen⟩:=R.wrong_eq r tF
   simp -implicitDefEqProofs(maxSteps:=999999)(disch:=first|with_reducible rfl|omega|(simp only[nA,nS,nD]<;>omega)|fail)only[go_sem,t7,t12,t203,t204,t205,Int.lt_irrefl,cells_of (s2.get g7z),oC,oR,oG]
   refine Wrong_ev (szz.trans s2).wf (xbz.mono s2) _ fun w3 z3 s3 k3=>?_
   have s23:=s2.trans s3
   rw[ew] at k3⊢
   simp -implicitDefEqProofs(maxSteps:=999999)(disch:=first|with_reducible rfl|omega|(simp only[nA,nS,nD]<;>omega)|fail)only[go_sem,t7,t12,cells_of (s23.get gd),ooC,ooR,ooG]
   refine Wrong_ev (szz.trans s23).wf (xo.mono s23) _ fun w4 z4 s4 k4=>?_
   rw[ev] at k4⊢
   have l3:=k3.lenE
   have l4:=k4.lenE
   simp only at l3 l4
   rw[elen] at l4
   simp -implicitDefEqProofs(maxSteps:=999999)(disch:=first|with_reducible rfl|omega|(simp only[nA,nS,nD]<;>omega)|fail)only[go_sem,t7,t12,l3,l4,awake_eq]
   exact q _ _ rfl
end Go.Ab.Tryz
