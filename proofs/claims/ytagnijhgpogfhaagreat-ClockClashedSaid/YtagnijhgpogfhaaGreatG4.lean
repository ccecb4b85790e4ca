/- The law ClockClashed. Whether some truth agrees with the readings that count. The cases of the clocks are just all truths (plain). The least and the greatest differences over all cases (plain). What the law itself says a clock shows; whether a number is inside. Numbers that are wound off bytes: the contracts of Spool. A truth that is wound off numbers: Made. Slices that are made side by side. Made: the slices' invariants; an attic with its truth (plain). Made. Distances only sink (plain); wages. Truths that fit, as the code asks for them (plain). What is known more of an attic, and truths (plain). Lists without neighbours that are the same; to what a clock can have been set, what it gains, what it shows (plain). Contracts: fits, as the law has it; Fits. Equal, Eq, Dup of clocks, readings and gaps (printed by a program of ours). great, Own, same: attics as the law looks at them. theirs: an attic of the reference. The reference's Check of an attic: its parts. The reference's Check of an attic: the round over its clocks. Own slices of an attic; copied, Read, Know. copied, checked, Read, Know. Contracts of the generic functions on integers. Contract: Fits. Contract: Some. Contract: a truth near another one. Contract: slices.Compact on integers, with what it leaves. Contracts: the sort of integers; numbers, settled. slices.Values, slices.Collect, slices.Sorted of integers. Contract: Agree. The shortest lists, and of these the first, for which something holds: plain Lean. All rising lists of so many numbers, one by one, until one holds. Contracts: Clash and Wrong. Contracts: Clash and Wrong, whole. slices.Delete of one number. Contracts: Sets, Gains, Shows. Contract: Shows. What is told of times, and one clock more that is right (plain). More is known, and true: what is told is no wider (plain). Some readings changed: which are wrong, and which clash (plain). slices.Delete of one number out of a block of fixed length. -/
import Derived.Test.YtagnijhgpogfhaaGreatG2
import Derived.Test.YtagnijhgpogfhaaGreatAc7
set_option linter.unusedSimpArgs false
set_option linter.unusedVariables false
namespace Go.Ab.Tryz
open Go.Proofs
set_option maxHeartbeats 4000000 in
theorem agreed_ev {h:H}(hw:h.wf){d:Nat}{a:At}{C R G f W:V}{ms:List Nat}(dk:Dk h d a C R G f W ms)(r:Right a){cnt:Nat→Bool}(hcnt:∀i,i<a.rds.length→PureA h f [.int .i64 (i:Int)] (.bool (cnt i)))
  (Q:V→H→Prop) (q:∀h',h.Sub h'→Q (.bool (decide (casesL a cnt≠[]))) h'):Ev fnG fastA (.fn 87 [] []) [.ptr d 0] h Q:=by
 have cd:∀hh p Q,Ev fnG fastA (.fn 147 [] []) [.ptr p 0] hh Q=Q (.fn 173 [] [.ptr hh.next 0]) (hh.add (.cells .rw [.ptr p 0])):=fun hh p Q=>by
  refine Ev.det (Ev_body (fd:=c147) rfl rfl rfl ?_) Q
  simp -implicitDefEqProofs(maxSteps:=999999)(disch:=first|with_reducible rfl|omega|(simp only[nA,nS,nD]<;>omega)|fail)only[c147,go_sem]
 refine Ev_body (fd:=c87) rfl rfl rfl ?_
 obtain⟨h6,hh6⟩:∃h6,(h.add (.cells .rw [.bool false])).add (.cells .rw [.ptr d 0])=h6:=⟨_,rfl⟩
 have s5:h.Sub h6:=by rw[←hh6];exact(by repeat(first|assumption|exact H.Sub.refl (by assumption)|refine H.Sub.add ?_ _|refine H.Sub.set ?_ (by first|omega|(simp only[H.next_add,H.next_set,H.next_del]<;>omega)) (by first|omega|(simp only[H.next_add,H.next_set,H.next_del]<;>omega)) (by assumption) _))
 have q1:h6.get h.next=some (.cells .rw [.bool false]):=by rw[←hh6];simp -implicitDefEqProofs(maxSteps:=999999)(disch:=first|with_reducible rfl|omega|(simp only[nA,nS,nD]<;>omega)|fail)only[go_sem]
 have q2:h6.get (h.next+1)=some (.cells .rw [.ptr d 0]):=by rw[←hh6];simp -implicitDefEqProofs(maxSteps:=999999)(disch:=first|with_reducible rfl|omega|(simp only[nA,nS,nD]<;>omega)|fail)only[go_sem]
 have n5:h6.next=h.next+2:=by rw[←hh6];simp only[H.next_add]
 simp -implicitDefEqProofs(maxSteps:=999999)(disch:=first|with_reducible rfl|omega|(simp only[nA,nS,nD]<;>omega)|fail)only[c87,go_sem,cd]
 try rw[hh6]
 clear hh6
 refine W_gen (P:=fun tm=>(Opd.t 2).ev tm=.ptr h.next 0∧(Opd.t 4).ev tm=.fn 173 [] [.ptr (h.next+1) 0]) ⟨(by simp[ev_c,ev_put]<;>rfl),(by simp[ev_c,ev_put]<;>rfl)⟩ fun tm ⟨t2,t4⟩=>?_
 refine W_rf t4 ?_
 generalize hr:LoopR.mk _ _ _ _ _ _ _ _ _=r0
 have fB:=congrArg LoopR.body hr
 have fA:=congrArg LoopR.assign hr
 have fN:=congrArg LoopR.n hr
 have fF:=congrArg LoopR.fn hr
 have fP:=congrArg LoopR.ps hr
 have fT:=congrArg LoopR.tm hr
 dsimp only at fB fA fN fF fP fT
 have hrs:r0.st=.ready:=by rw[←hr]
 have hrp:r0.pend=none:=by rw[←hr]
 have w6:=s5.wf
 obtain⟨J,hJ⟩:∃J:Nat→H→Prop,∀n x,J n x↔(h.Sub x∧n=0∧h6.next+1<x.next∧x.get (h6.next+1)=some (.loop r0)∧x.get h6.next=some .dfr∧x.get h.next=some (.cells .rw [.bool false])):=⟨_,fun _ _=>Iff.rfl⟩
 obtain⟨S,hS⟩:∃S:H→Prop,∀x,S x↔(h.Sub x∧casesL a cnt≠[]∧x.get h.next=some (.cells .rw [.bool true])∧x.get h6.next=some .dfr∧∃rr,x.get (h6.next+1)=some (.loop rr)∧rr.st=.done∧rr.pend=some .ret):=⟨_,fun _=>Iff.rfl⟩
 have s3:h6.Sub ((h6.add .dfr).add (.loop r0)):=((H.Sub.refl w6).add _).add _
 have j0:J 0 ((h6.add .dfr).add (.loop r0)):=(hJ _ _).2 ⟨s5.trans s3,rfl,by simp only[H.next_add];omega,get_add_new (by rw[H.next_add]),by rw[get_add_old (by rw[H.next_add];omega)];exact get_add_new rfl,s3.get q1⟩
 have tk:Taker h (.yld (h6.next+1)) (casesL a cnt) J S (fun _ b=>b=h.next∨b=h6.next+1) 0:=by
  refine⟨fun p x hx=>?_,fun p x x' hx s=>?_,fun p x b hx hb=>?_,fun p x x' hx s b hb=>hb,fun p t ht x0 x R hx hR=>?_⟩
  ·exact⟨((hJ _ _).1 hx).1,Nat.zero_le _⟩
  ·obtain⟨k1,k2,k3,k4,k5,k6⟩:=(hJ _ _).1 hx
   exact(hJ _ _).2 ⟨k1.trans s,k2,by have:=s.next;omega,s.get k4,s.get k5,s.get k6⟩
  ·obtain⟨k1,k2,k3,k4,k5,k6⟩:=(hJ _ _).1 hx
   have:=k1.next
   have:=hw
   rcases hb with hb|hb<;>omega
  ·obtain⟨k1,k2,k3,k4,k5,k6⟩:=(hJ _ _).1 hx
   have hne:casesL a cnt≠[]:=fun e=>by rw[e] at ht;simp at ht
   refine Ev.gen fun Q2 q2'=>?_
   have sx:=hR.1
   have wx:=sx.wf
   have lx:=sx.next
   refine Ev_yld (tm:=tm.put (some (fdV R t.2)) 5) (sx.get k4) (by rw[←fP,←fT];rfl) ?_
   rw[←fA,←fN,←fF]
   simp -implicitDefEqProofs(maxSteps:=999999)(disch:=first|with_reducible rfl|omega|(simp only[nA,nS,nD]<;>omega)|fail)only[go_sem]
   unfold Kasg
   refine⟨rfl,r0,sx.get k4,hrs,?_⟩
   obtain⟨rb,hrb⟩:∃rb:LoopR,rb={r0 with st:=.busy}:=⟨_,rfl⟩
   rw[←hrb,←fB,←fN,←fF]
   have K3:Keeps (fun c=>c=h6.next+1) x (x.set (h6.next+1) (.loop rb)):=Keeps.set _ _ _
   have s4:h.Sub (x.set (h6.next+1) (.loop rb)):=(k1.trans sx).set (by omega) (by omega) hw _
   have gl3:(x.set (h6.next+1) (.loop rb)).get (h6.next+1)=some (.loop rb):=get_set_same rfl
   have gd3:=K3.2 _ _ (sx.get k5) (by omega)
   have c1:=K3.2 _ _ (sx.get k6) (by omega)
   have l3:(x.set (h6.next+1) (.loop rb)).next=x.next:=H.next_set _ _ _
   generalize x.set (h6.next+1) (.loop rb)=h3 at K3 s4 gl3 gd3 c1 l3⊢
   simp -implicitDefEqProofs(maxSteps:=999999)(disch:=first|with_reducible rfl|omega|(simp only[nA,nS,nD]<;>omega)|fail)only[go_sem,t2,t4,c1]
   unfold Kround
   have K4:Keeps (fun c=>c=h.next) h3 (h3.set h.next (.cells .rw [.bool true])):=Keeps.set _ _ _
   have s6:h.Sub (h3.set h.next (.cells .rw [.bool true])):=s4.set (by omega) (by omega) hw _
   have l4:h6.next+1<(h3.set h.next (.cells .rw [.bool true])).next:=by rw[H.next_set];omega
   refine⟨rb,by rw[get_set_other (by omega)];exact gl3,q2' _ _ ⟨.inr ⟨rfl,(hS _).2 ⟨s6.set (by omega) l4 hw _,hne,?_,?_,_,get_set_same rfl,rfl,rfl⟩⟩,⟨⟨by rw[H.next_set,H.next_set];omega,fun b w g nb=>?_⟩,fun b hb=>.inl hb⟩⟩⟩
   ·rw[get_set_other (by omega),get_set_same rfl]
   ·rw[get_set_other (by omega),get_set_other (by omega)];exact gd3
   ·rw[get_set_other fun e=>nb (.inr e),get_set_other fun e=>nb (.inl e)]
    exact K3.2 _ _ g fun e=>nb (.inr e)
 refine(cases_gen hw dk r hcnt ⟨_,rfl⟩ tk (b1:=h.next+1) (x:=(h6.add .dfr).add (.loop r0)) (by omega) j0 (s3.get q2)).mono fun u h7 hu=>?_
 rcases hu with hJ7|hS7
 ·obtain⟨s7,hno,lx,gl,gd,g2⟩:=(hJ _ _).1 hJ7
  have hlb:decide (casesL a cnt≠[])=false:=by
   rw[List.length_eq_zero_iff.1 hno];simp
  refine⟨r0,gl,by rw[hrs];simp,?_⟩
  rw[hrp]
  have lt7:=s7.wf _ _ gl
  have s8:h.Sub (h7.set (h6.next+1) (.loop {r0 with st:=.exhausted})):=s7.set (by omega) lt7 hw _
  have d8:(h7.set (h6.next+1) (.loop {r0 with st:=.exhausted})).get h6.next=some .dfr:=by rw[get_set_other (by omega)];exact gd
  have c8:(h7.set (h6.next+1) (.loop {r0 with st:=.exhausted})).get h.next=some (.cells .rw [.bool false]):=by rw[get_set_other (by omega)];exact g2
  rw[hrp] at s8 d8 c8
  generalize h7.set (h6.next+1) _=h8 at s8 d8 c8⊢
  have l8:=s8.wf _ _ c8
  have d9:(h8.set h.next (.cells .rw [.bool false])).get h6.next=some .dfr:=by rw[get_set_other (by omega)];exact d8
  have s9:h.Sub (h8.set h.next (.cells .rw [.bool false])):=s8.set (by omega) l8 hw _
  have c9:((h8.set h.next (.cells .rw [.bool false])).del h6.next).cells h.next=some [.bool false]:=by rw[cells_del_other (by omega),cells_set_same rfl]
  simp -implicitDefEqProofs(maxSteps:=999999)(disch:=first|with_reducible rfl|omega|(simp only[nA,nS,nD]<;>omega)|fail)only[go_sem,t2,t4,c8,Kfin_ret1 _ _ _ d9,c9]
  rw[hlb] at q
  exact q _ (H.Sub.del s9 (by omega) hw)
 ·obtain⟨s7,hne,g2,gd,rr,gl,hst,hpe⟩:=(hS _).1 hS7
  have hlb:decide (casesL a cnt≠[])=true:=decide_eq_true hne
  refine⟨rr,gl,by rw[hst];simp,?_⟩
  rw[hpe]
  have lt7:=s7.wf _ _ gl
  have s8:h.Sub (h7.set (h6.next+1) (.loop {rr with st:=.exhausted})):=s7.set (by omega) lt7 hw _
  have d8:(h7.set (h6.next+1) (.loop {rr with st:=.exhausted})).get h6.next=some .dfr:=by rw[get_set_other (by omega)];exact gd
  have c8:(h7.set (h6.next+1) (.loop {rr with st:=.exhausted})).get h.next=some (.cells .rw [.bool true]):=by rw[get_set_other (by omega)];exact g2
  rw[hpe] at s8 d8 c8
  generalize h7.set (h6.next+1) _=h8 at s8 d8 c8⊢
  have c9:(h8.del h6.next).cells h.next=some [.bool true]:=by rw[cells_del_other (by omega)];exact cells_of c8
  simp -implicitDefEqProofs(maxSteps:=999999)(disch:=first|with_reducible rfl|omega|(simp only[nA,nS,nD]<;>omega)|fail)only[go_sem,t2,t4,Kfin_ret1 _ _ _ d8,c9]
  rw[hlb] at q
  exact q _ (H.Sub.del s8 (by omega) hw)
end Go.Ab.Tryz
namespace Go.Ab.Tryz
open Go.Proofs
theorem moreL_sound {a:At}(r:Right a){cnt:Nat→Bool}:∀{n:Nat} {runs:Runs} {L:List Int} {t:Runs × List Int},runs.length+n=a.cks.length→In5 240 L→Tri L→t∈moreL a cnt n runs L→
  Tri t.2∧∃suf:Runs,t.1=runs++suf∧suf.length=n∧(∀(j:Nat) s,suf[j]? =some s→RunOf a (runs.length+j) s)∧∀y,Sol y t.2↔Sol y L∧∀(j:Nat) s,suf[j]? =some s→RdOk a cnt ((runs.length+j:Nat):Int) s y
 |0,runs,L,t,hl,hL,tL,ht=>by
  rw[moreL,List.mem_singleton] at ht;subst ht
  exact⟨tL,[],by simp,rfl,fun j s h=>by simp at h,fun y=>⟨fun h=>⟨h,fun j s h=>by simp at h⟩,fun h=>h.1⟩⟩
 |n+1,runs,L,t,hl,hL,tL,ht=>by
  have hlt:runs.length<a.cks.length:=by omega
  have hck:a.cks[runs.length]? =some a.cks[runs.length]:=List.getElem?_eq_getElem hlt
  obtain⟨c,hc⟩:∃c,a.cks[runs.length]=c:=⟨_,rfl⟩
  rw[hc] at hck
  unfold moreL at ht
  rw[hck] at ht
  simp only[List.mem_flatMap,List.mem_range] at ht
  obtain⟨u,hu,v,hv,ht⟩:=ht
  have n1:(c.ns:Int)=c.sh-c.sl+1:=by unfold Ck.ns at hu⊢;omega
  have n2:(c.ng:Int)=c.gh-c.gl+1:=by unfold Ck.ng at hv⊢;omega
  split at ht
  ·rename_i hk
   obtain⟨k1,k2,k3⟩:=(readL_spec r hL).1 hk
   obtain⟨i1,suf,i2,i3,i4,i5⟩:=moreL_sound r (by rw[List.length_append,List.length_singleton];omega) k2 k1 ht
   rw[List.length_append,List.length_singleton] at i4 i5
   have ix:∀j,runs.length+1+j=runs.length+(j+1):=fun j=>by omega
   refine⟨i1,(c.sl+(u:Int),c.gl+(v:Int))::suf,by rw[i2,List.append_assoc];rfl,by rw[List.length_cons,i3],fun j s hs=>?_,fun y=>?_⟩
   ·cases j with
    |zero=>cases hs;exact RunOf.mk' hck (by omega) (by omega) (by omega) (by omega)
    |succ j=>rw[←ix];exact i4 j s hs
   ·rw[i5 y,k3 y]
    constructor
    ·rintro⟨⟨h1,h2⟩,h3⟩
     refine⟨h1,fun j s hs=>?_⟩
     cases j with
     |zero=>cases hs;exact h2
     |succ j=>rw[←ix];exact h3 j s hs
    ·rintro⟨h1,h2⟩
     exact⟨⟨h1,h2 0 _ rfl⟩,fun j s hs=>by rw[ix];exact h2 (j+1) s hs⟩
  ·cases ht
theorem moreL_full {a:At}(r:Right a){cnt:Nat→Bool}{y:Nat→Int}:∀{n:Nat} {runs suf:Runs} {L:List Int},runs.length+n=a.cks.length→In5 240 L→suf.length=n→(∀(j:Nat) s,suf[j]? =some s→RunOf a (runs.length+j) s)→Sol y L→
  (∀(j:Nat) s,suf[j]? =some s→RdOk a cnt ((runs.length+j:Nat):Int) s y)→∃L',(runs++suf,L')∈moreL a cnt n runs L
 |0,runs,suf,L,hl,hL,hs,_,_,_=>by
  rw[List.length_eq_zero_iff.1 hs,List.append_nil]
  exact⟨L,by rw[moreL];exact List.mem_singleton.2 rfl⟩
 |n+1,runs,[],L,hl,hL,hs,_,_,_=>by simp at hs
 |n+1,runs,s::suf,L,hl,hL,hs,hr,hy,hd=>by
  obtain⟨c,hck,h1,h2,h3,h4⟩:=hr 0 s rfl
  have hd0:=hd 0 s rfl
  rw[Nat.add_zero] at hck hd0
  have n1:(c.ns:Int)=c.sh-c.sl+1:=by unfold Ck.ns;omega
  have n2:(c.ng:Int)=c.gh-c.gl+1:=by unfold Ck.ng;omega
  have es:s=(c.sl+((s.1-c.sl).toNat:Int),c.gl+((s.2-c.gl).toNat:Int)):=by
   obtain⟨s1,s2⟩:=s
   simp only at h1 h2 h3 h4⊢
   rw[Int.toNat_of_nonneg (by omega),Int.toNat_of_nonneg (by omega)]
   congr 1<;>omega
  have hsp:=readL_spec (cnt:=cnt) (k:=(runs.length:Int)) (x:=s) r hL
  have hk:(readL a cnt runs.length s L).2=true:=by
   cases hh:(readL a cnt runs.length s L).2 with
   |true=>rfl
   |false=>exact absurd hd0 (hsp.2 hh y hy)
  obtain⟨k1,k2,k3⟩:=hsp.1 hk
  have ix:∀j,runs.length+1+j=runs.length+(j+1):=fun j=>by omega
  obtain⟨L',hL'⟩:=moreL_full r (runs:=runs++[s]) (suf:=suf) (L:=(readL a cnt runs.length s L).1) (n:=n) (by rw[List.length_append,List.length_singleton];omega) k2 (by simpa using hs)
   (fun j x hx=>by rw[List.length_append,List.length_singleton,ix];exact hr (j+1) x hx) ((k3 y).2 ⟨hy,hd0⟩) (fun j x hx=>by rw[List.length_append,List.length_singleton,ix];exact hd (j+1) x hx)
  refine⟨L',?_⟩
  rw[List.append_assoc] at hL'
  unfold moreL
  rw[hck]
  simp only[List.mem_flatMap,List.mem_range]
  refine⟨(s.1-c.sl).toNat,by omega,(s.2-c.gl).toNat,by omega,?_⟩
  rw[←es,if_pos hk]
  exact hL'
structure Tru (a:At)(cnt:Nat→Bool)(runs:Runs)(y:Nat→Int):Prop where
 len:runs.length=a.cks.length
 run:∀(k:Nat) s,runs[k]? =some s→RunOf a k s
 beg:y 4=0
 mins:∀e,e<4→0≤y e∧y e≤a.mins
 gaps:∀g∈a.gps,g.lo≤y g.to.toNat-y g.fr.toNat∧y g.to.toNat-y g.fr.toNat≤g.hi
 rds:∀(j:Nat) (r:Rd),a.rds[j]? =some r→cnt j=true→∀s,runs[r.ck.toNat]? =some s→shw s.1 s.2 (y r.ev.toNat)=r.sh
theorem Tru.ok {a:At}(r:Right a){cnt:Nat→Bool}{runs:Runs}{y:Nat→Int}(hl:runs.length=a.cks.length)(hr:∀(k:Nat) s,runs[k]? =some s→RunOf a k s)(hy:y 4=0)(hm:∀e,e<4→0≤y e∧y e≤a.mins):
  (∀(j:Nat) (rd:Rd),a.rds[j]? =some rd→cnt j=true→∀s,runs[rd.ck.toNat]? =some s→shw s.1 s.2 (y rd.ev.toNat)=rd.sh)↔∀(k:Nat) s,runs[k]? =some s→RdOk a cnt (k:Int) s y:=by
 have key:∀(j:Nat) (rd:Rd),a.rds[j]? =some rd→∀s,runs[rd.ck.toNat]? =some s→(shw s.1 s.2 (y rd.ev.toNat)=rd.sh↔(whn s.1 s.2 rd.sh (a.mins.toNat+1)).1≤y rd.ev.toNat-y 4∧y rd.ev.toNat-y 4≤(whn s.1 s.2 rd.sh (a.mins.toNat+1)).2):=fun j rd hrd s hs=>by
  obtain⟨yk,ye,ek,ee,hyk,hye,_⟩:=r.rd (List.mem_of_getElem? hrd)
  have h1:=hm rd.ev.toNat (by omega)
  obtain⟨_,_,_,_⟩:=(hr _ s hs).run r
  have h3:=r.mins
  rw[hy,show y rd.ev.toNat-0=y rd.ev.toNat by omega]
  exact whn_iff (by omega) h1.1 (by omega)
 constructor
 ·intro h k s hs j rd hrd hk hc
  have hs':runs[rd.ck.toNat]? =some s:=by rw[hk,Int.toNat_natCast];exact hs
  exact(key j rd hrd s hs').1 (h j rd hrd hc s hs')
 ·intro h j rd hrd hc s hs
  obtain⟨yk,ye,ek,ee,hyk,hye,_⟩:=r.rd (List.mem_of_getElem? hrd)
  refine(key j rd hrd s hs).2 (h rd.ck.toNat s hs j rd hrd ?_ hc)
  rw[ek,Int.toNat_natCast]
theorem cases_sound {a:At}(r:Right a){cnt:Nat→Bool}{t:Runs × List Int}(ht:t∈casesL a cnt):Tri t.2∧t.1.length=a.cks.length∧(∀(k:Nat) s,t.1[k]? =some s→RunOf a k s)∧∀y,y 4=0→(Sol y t.2↔Tru a cnt t.1 y):=by
 unfold casesL at ht
 split at ht
 ·rename_i hc
  obtain⟨c1,c2,_,c4⟩:=(clos_spec (by decide) (by decide) (freeL_in r)).1 hc
  obtain⟨h1,suf,h2,h3,h4,h5⟩:=moreL_sound r (by simp) c2 c1 ht
  rw[List.nil_append] at h2
  subst h2
  simp only[List.length_nil,Nat.zero_add] at h4 h5
  refine⟨h1,h3,h4,fun y hy=>?_⟩
  rw[h5 y,←c4 y]
  constructor
  ·rintro⟨q1,q2⟩
   have q3:=(Sol_free r hy).1 q1
   exact⟨h3,h4,hy,q3.1,q3.2,(Tru.ok r h3 h4 hy q3.1).2 q2⟩
  ·intro q
   exact⟨(Sol_free r hy).2 ⟨q.mins,q.gaps⟩,(Tru.ok r h3 h4 hy q.mins).1 q.rds⟩
 ·cases ht
theorem cases_full {a:At}(r:Right a){cnt:Nat→Bool}{runs:Runs}{y:Nat→Int}(h:Tru a cnt runs y):∃L,(runs,L)∈casesL a cnt:=by
 have hf:=(Sol_free r h.beg).2 ⟨h.mins,h.gaps⟩
 have hcs:=clos_spec (by decide) (by decide) (freeL_in r)
 have hc:(clos (freeL a)).2=true:=by
  cases hh:(clos (freeL a)).2 with
  |true=>rfl
  |false=>exact absurd hf (hcs.2 hh y)
 obtain⟨c1,c2,_,c4⟩:=hcs.1 hc
 have:=moreL_full r (cnt:=cnt) (y:=y) (n:=a.cks.length) (runs:=[]) (suf:=runs) (by simp) c2 h.len (fun j s hs=>by simpa using h.run j s hs) ((c4 y).1 hf) (fun j s hs=>by simpa using(Tru.ok r h.len h.run h.beg h.mins).1 h.rds j s hs)
 unfold casesL
 rw[if_pos hc]
 simpa using this
end Go.Ab.Tryz
namespace Go.Ab.Tryz
open Go.Proofs
end Go.Ab.Tryz
namespace Go.Ab
theorem shw_succ (set gain:Int)(i:Nat):shw set gain ((i+1:Nat):Int)=shw set gain i+1+((i:Int)*gain%60+gain)/60∧((i+1:Nat):Int)*gain%60=(((i:Int)*gain%60+gain))%60:=by
 have e:((i+1:Nat):Int)*gain=(i:Int)*gain+gain:=by rw[Int.natCast_add,Int.add_mul];simp
 unfold shw
 rw[e]
 constructor<;>omega
end Go.Ab
namespace Go.Ab.Tryz
open Go.Proofs
set_option maxHeartbeats 1000000 in
theorem lshows_ev {h:H}(hw:h.wf){set gain m:Int}(r:RunIn set gain)(h0:0≤m)(h1:m≤240)(Q:V→H→Prop)(q:Q (.int .i64 (shw set gain m)) h):
  Ev fnG fastA (.fn 61 [] []) [.int .i64 set,.int .i64 gain,.int .i64 m] h Q:=by
 have a0:=r.s0;have a1:=r.s1;have a2:=r.g0;have a3:=r.g1
 obtain⟨n,rfl⟩:=Int.eq_ofNat_of_zero_le h0
 refine Ev_body (fd:=c61) rfl rfl rfl ?_
 simp -implicitDefEqProofs(maxSteps:=999999)(disch:=first|with_reducible rfl|omega|(simp only[nA,nS,nD]<;>omega)|fail)only[c61,go_sem]
 refine W_count n (fun i s=>∃tm,s=⟨tm,h,[]⟩∧(Opd.t 1).ev tm=.int .i64 gain∧(Opd.t 7).ev tm=.int .i64 (shw set gain i)∧(Opd.t 8).ev tm=.int .i64 ((i:Int)*gain%60)∧(Opd.t 10).ev tm=.int .i64 (n:Int)∧(Opd.t 11).ev tm=.int .i64 (i:Int))
  ?_ ?_ (i:=0) (Nat.zero_le _) ⟨_,rfl,(by simp[ev_c,ev_put]<;>rfl),(by rw[show shw set gain ((0:Nat):Int)=set by simp[shw]];exact(by simp[ev_c,ev_put]<;>rfl)),(by rw[show((0:Nat):Int)*gain%60=0 by simp];exact(by simp[ev_c,ev_put]<;>rfl)),(by simp[ev_c,ev_put]<;>rfl),(by simp[ev_c,ev_put]<;>rfl)⟩
 ·rintro i s hi ⟨tm,rfl,e1,e7,e8,e10,e11⟩
  have hi':(i:Int)<(n:Int):=by omega
  obtain⟨k1,k2⟩:=shw_succ set gain i
  obtain⟨R,hR⟩:∃R,(i:Int)*gain%60=R:=⟨_,rfl⟩
  have hR0:0≤R∧R<60:=by omega
  obtain⟨S,hS⟩:∃S,shw set gain i=S:=⟨_,rfl⟩
  have hS0:=shw_bd (m:=i) r (by omega) (by omega)
  rw[hS] at hS0 e7 k1
  rw[hR] at e8 k1 k2
  have w1:wr .i64 (S+1)=S+1:=wr_in (by omega) (by omega)
  have w2:wr .i64 (R+gain)=R+gain:=wr_in (by omega) (by omega)
  simp -implicitDefEqProofs(maxSteps:=999999)(disch:=first|with_reducible rfl|omega|(simp only[nA,nS,nD]<;>omega)|fail)only[go_sem,e1,e7,e8,e10,e11,hi',w1,w2]
  refine W_count (-((R+gain)/60)).toNat (fun j s=>∃tm,s=⟨tm,h,[]⟩∧(Opd.t 1).ev tm=.int .i64 gain∧(Opd.t 7).ev tm=.int .i64 (S+1-j)∧(Opd.t 8).ev tm=.int .i64 (R+gain+60*j)∧(Opd.t 10).ev tm=.int .i64 (n:Int)∧(Opd.t 11).ev tm=.int .i64 (i:Int))
   ?_ ?_ (i:=0) (Nat.zero_le _) ⟨_,rfl,(by simp[ev_c,ev_put,e1]<;>rfl),(by rw[show S+1-((0:Nat):Int)=S+1 by simp];exact(by simp[ev_c,ev_put]<;>rfl)),(by rw[show R+gain+60*((0:Nat):Int)=R+gain by simp];exact(by simp[ev_c,ev_put]<;>rfl)),(by simp[ev_c,ev_put,e10]<;>rfl),(by simp[ev_c,ev_put,e11]<;>rfl)⟩
  ·rintro j s hj ⟨tm,rfl,e1,e7,e8,e10,e11⟩
   have hlt:R+gain+60*(j:Int)<0:=by omega
   have w3:wr .i64 (S+1-j-1)=S+1-((j+1:Nat):Int):=by rw[wr_in (by omega) (by omega)];omega
   have w4:wr .i64 (R+gain+60*(j:Int)+60)=R+gain+60*((j+1:Nat):Int):=by rw[wr_in (by omega) (by omega)];omega
   simp -implicitDefEqProofs(maxSteps:=999999)(disch:=first|with_reducible rfl|omega|(simp only[nA,nS,nD]<;>omega)|fail)only[go_sem,e1,e7,e8,e10,e11,hlt,w3,w4]
   exact⟨_,rfl,(by simp[ev_c,ev_put,e1]<;>rfl),(by simp[ev_c,ev_put]<;>rfl),(by simp[ev_c,ev_put]<;>rfl),(by simp[ev_c,ev_put,e10]<;>rfl),(by simp[ev_c,ev_put,e11]<;>rfl)⟩
  ·rintro s ⟨tm,rfl,e1,e7,e8,e10,e11⟩
   obtain⟨j,hj⟩:∃j:Nat,(-((R+gain)/60)).toNat=j:=⟨_,rfl⟩
   rw[hj] at e7 e8
   have hlt:¬R+gain+60*(j:Int)<0:=by omega
   simp -implicitDefEqProofs(maxSteps:=999999)(disch:=first|with_reducible rfl|omega|(simp only[nA,nS,nD]<;>omega)|fail)only[go_sem,e1,e7,e8,e10,e11,hlt]
   refine W_count ((R+gain)/60).toNat (fun q s=>∃tm,s=⟨tm,h,[]⟩∧(Opd.t 1).ev tm=.int .i64 gain∧(Opd.t 7).ev tm=.int .i64 (S+1-j+q)∧(Opd.t 8).ev tm=.int .i64 (R+gain+60*j-60*q)∧(Opd.t 10).ev tm=.int .i64 (n:Int)∧(Opd.t 11).ev tm=.int .i64 (i:Int))
    ?_ ?_ (i:=0) (Nat.zero_le _) ⟨_,rfl,(by simp[ev_c,ev_put,e1]<;>rfl),(by rw[show S+1-(j:Int)+((0:Nat):Int)=S+1-j by simp];exact(by simp[ev_c,ev_put,e7]<;>rfl)),(by rw[show R+gain+60*(j:Int)-60*((0:Nat):Int)=R+gain+60*j by simp];exact(by simp[ev_c,ev_put,e8]<;>rfl)),(by simp[ev_c,ev_put,e10]<;>rfl),(by simp[ev_c,ev_put,e11]<;>rfl)⟩
   ·rintro q s hq ⟨tm,rfl,e1,e7,e8,e10,e11⟩
    have hgt:59<R+gain+60*(j:Int)-60*(q:Int):=by omega
    have w3:wr .i64 (S+1-(j:Int)+q+1)=S+1-(j:Int)+((q+1:Nat):Int):=by rw[wr_in (by omega) (by omega)];omega
    have w4:wr .i64 (R+gain+60*(j:Int)-60*q-60)=R+gain+60*(j:Int)-60*((q+1:Nat):Int):=by rw[wr_in (by omega) (by omega)];omega
    simp -implicitDefEqProofs(maxSteps:=999999)(disch:=first|with_reducible rfl|omega|(simp only[nA,nS,nD]<;>omega)|fail)only[go_sem,e1,e7,e8,e10,e11,hgt,w3,w4]
    exact⟨_,rfl,(by simp[ev_c,ev_put,e1]<;>rfl),(by simp[ev_c,ev_put]<;>rfl),(by simp[ev_c,ev_put]<;>rfl),(by simp[ev_c,ev_put,e10]<;>rfl),(by simp[ev_c,ev_put,e11]<;>rfl)⟩
   ·rintro s ⟨tm,rfl,e1,e7,e8,e10,e11⟩
    obtain⟨q,hq⟩:∃q:Nat,((R+gain)/60).toNat=q:=⟨_,rfl⟩
    rw[hq] at e7 e8
    have hgt:¬59<R+gain+60*(j:Int)-60*(q:Int):=by omega
    have x1:S+1-(j:Int)+q=shw set gain ((i+1:Nat):Int):=by rw[k1];omega
    have x2:R+gain+60*(j:Int)-60*q=((i+1:Nat):Int)*gain%60:=by rw[k2];omega
    rw[x1] at e7
    rw[x2] at e8 hgt
    simp -implicitDefEqProofs(maxSteps:=999999)(disch:=first|with_reducible rfl|omega|(simp only[nA,nS,nD]<;>omega)|fail)only[go_sem,e1,e7,e8,e10,e11,hgt,wr_succ]
    exact⟨_,rfl,(by simp[ev_c,ev_put,e1]<;>rfl),(by simp[ev_c,ev_put,e7]<;>rfl),(by simp[ev_c,ev_put,e8]<;>rfl),(by simp[ev_c,ev_put,e10]<;>rfl),(by simp[ev_c,ev_put]<;>rfl)⟩
 ·rintro s ⟨tm,rfl,e1,e7,e8,e10,e11⟩
  simp -implicitDefEqProofs(maxSteps:=999999)(disch:=first|with_reducible rfl|omega|(simp only[nA,nS,nD]<;>omega)|fail)only[go_sem,e1,e7,e8,e10,e11,Int.lt_irrefl]
  exact q
end Go.Ab.Tryz
namespace Go.Ab
theorem SlAt_lt {h:H}{x:V}{sz:Nat}{rows:List (List V)}(hw:h.wf)(a:SlAt h x sz rows)(hr:rows≠[]):∀b,blkOf x b→b<h.next:=by
 rintro b ⟨o',n',c',e⟩
 rcases a.2.2 with⟨rfl,_⟩|⟨b',o,c,cs,e1,e2,e3⟩
 ·cases e
 ·rw[e1] at e;cases e
  obtain⟨k,hk⟩:=H.cells_eq (e2.resolve_left hr)
  exact hw _ _ hk
theorem q_shr_3 (a:Int):q_sh .shr (.int .u64 a) (.int .u64 3)=some (.int .u64 (a.fdiv (2^(min 3 IntKind.u64.bits)))):=rfl
theorem q_shr_19 (a:Int):q_sh .shr (.int .u64 a) (.int .u64 19)=some (.int .u64 (a.fdiv (2^(min 19 IntKind.u64.bits)))):=rfl
def xorI (k:IntKind)(a b:Int):Int:=k.wrap (BitVec.ofInt k.bits a^^^BitVec.ofInt k.bits b).toNat
def andI (k:IntKind)(a b:Int):Int:=k.wrap (BitVec.ofInt k.bits a&&& BitVec.ofInt k.bits b).toNat
theorem q_ar_xor (k:IntKind)(a b:Int):q_ar .xor (.int k a) (.int k b)=some (.int k (xorI k a b)):=by simp[q_ar,arith,xorV,vi,xorI]
theorem q_ar_and (k:IntKind)(a b:Int):q_ar .and (.int k a) (.int k b)=some (.int k (andI k a b)):=by simp[q_ar,arith,andV,vi,andI]
theorem and_bd (a:Int):0≤andI .i64 a 65535∧andI .i64 a 65535≤65535:=by
 have h:(BitVec.ofInt IntKind.i64.bits a&&& BitVec.ofInt IntKind.i64.bits 65535).toNat≤65535:=by
  rw[BitVec.toNat_and]
  exact Nat.le_trans Nat.and_le_right (by decide)
 unfold andI
 rw[←wr_eq,wr_in (by omega) (by omega)]
 omega
namespace Tryz
def SpAt (h:H)(p:Nat)(x:V)(T:Int):Prop:=∃st,h.get p=some (.cells .rw [x,.int .i64 T,.int .u64 st])
theorem SpAt.mono {h h':H}{p:Nat}{x:V}{T:Int}(a:SpAt h p x T)(hs:h.Sub h'):SpAt h' p x T:=by
 obtain⟨st,a⟩:=a
 exact⟨st,hs.get a⟩
theorem SpAt.keep {h h':H}{p:Nat}{x:V}{T:Int}{S:Nat→Prop}(a:SpAt h p x T)(k:Keeps S h h')(n:¬S p):SpAt h' p x T:=by
 obtain⟨st,a⟩:=a
 exact⟨st,k.2 _ _ a n⟩
set_option maxHeartbeats 1000000 in
theorem turn_ev {h0 h:H}{p:Nat}{x:V}{bs:List Int}{T:Int}(hs:h0.Sub h)(hw0:h0.wf)(hx:SlAt h0 x 1 (bs.map encU8))(hp0:h0.next≤p)(hp:SpAt h p x T)(hT:0≤T∧T≤1000000000)(Q:V→H→Prop)
  (q:∀r h',0≤r→r≤65535→h0.Sub h'→SpAt h' p x (T+1)→Keeps (fun b=>b=p) h h'→h'.next=h.next→Q (.int .i64 r) h'):Ev fnG fastA (.fn 139 [] []) [.ptr p 0] h Q:=by
 obtain⟨st,hp⟩:=hp
 have hw:=hs.wf
 have hlp:=hw _ _ hp
 have hx1:=hx.one
 have hlen:=hx.lenE
 have hc:=cells_of hp
 refine Ev_body (fd:=c139) rfl rfl rfl ?_
 have fin:∀(st':Int) (r:Int),0≤r→r≤65535→Q (.int .i64 r) (h.set p (.cells .rw [x,.int .i64 (T+1),.int .u64 st'])):=fun st' r r0 r1=>
  q r _ r0 r1 (hs.set hp0 hlp hw0 _) ⟨st',get_set_same rfl⟩ (Keeps.set _ _ _) (H.next_set _ _ _)
 by_cases h1:0<(bs.length:Int)
 ·have hT0:0≤T.tmod (bs.length:Int):=Int.tmod_nonneg _ hT.1
  have hT1:T.tmod (bs.length:Int)<(bs.length:Int):=Int.tmod_lt_of_pos _ h1
  obtain⟨i,ei⟩:=Int.eq_ofNat_of_zero_le hT0
  have hi:i<bs.length:=by omega
  obtain⟨b2,o2,c2,cs2,e2,hcs2,hq2,hgg2,hn2,hn02⟩:=(hx.mono hs).at hi
  have v2:=hn02 (by omega)
  simp only[encU8] at v2
  have hbb:b2≠p:=by
   have:=SlAt_lt hw0 hx (by intro e;rw[List.map_eq_nil_iff] at e;rw[e] at hi;simp at hi) b2 ⟨_,_,_,e2⟩
   omega
  have hne:¬(bs.length:Int)=0:=by omega
  by_cases h2:(bs.length:Int)<T+1
  ·simp -implicitDefEqProofs(maxSteps:=999999)(disch:=first|with_reducible rfl|omega|(simp only[nA,nS,nD]<;>omega)|fail)only[c139,go_sem,hc,hlen,h1,q_ar_rem .i64 hne,ei,hq2 (nat_cst i),hcs2,v2,hp,wr_in,h2,hx1,q_shr_3,q_shr_19,q_ar_xor,q_ar_and]
   exact fin _ _ (and_bd _).1 (and_bd _).2
  ·simp -implicitDefEqProofs(maxSteps:=999999)(disch:=first|with_reducible rfl|omega|(simp only[nA,nS,nD]<;>omega)|fail)only[c139,go_sem,hc,hlen,h1,q_ar_rem .i64 hne,ei,hq2 (nat_cst i),hcs2,v2,hp,wr_in,h2,hx1,q_shr_3,q_shr_19,q_ar_xor,q_ar_and]
   exact fin _ _ (and_bd _).1 (and_bd _).2
 ·by_cases h2:(bs.length:Int)<T+1
  ·simp -implicitDefEqProofs(maxSteps:=999999)(disch:=first|with_reducible rfl|omega|(simp only[nA,nS,nD]<;>omega)|fail)only[c139,go_sem,hc,hlen,h1,hp,wr_in,h2,hx1,q_shr_3,q_shr_19,q_ar_xor,q_ar_and]
   exact fin _ _ (and_bd _).1 (and_bd _).2
  ·omega
theorem Upto_ev {h0 h:H}{p:Nat}{x:V}{bs:List Int}{T:Int}(hs:h0.Sub h)(hw0:h0.wf)(hx:SlAt h0 x 1 (bs.map encU8))(hp0:h0.next≤p)(hp:SpAt h p x T)(hT:0≤T∧T≤1000000000){n:Int}(hn: -1000000000≤n∧n≤1000000000)(Q:V→H→Prop)
  (q:∀r h',0≤r→r≤max 0 n→h0.Sub h'→SpAt h' p x (T+1)→Keeps (fun b=>b=p) h h'→h'.next=h.next→Q (.int .i64 r) h'):Ev fnG fastA (.fn 53 [] []) [.ptr p 0,.int .i64 n] h Q:=by
 refine Ev_body (fd:=c53) rfl rfl rfl ?_
 simp -implicitDefEqProofs(maxSteps:=999999)(disch:=first|with_reducible rfl|omega|(simp only[nA,nS,nD]<;>omega)|fail)only[c53,go_sem]
 refine turn_ev hs hw0 hx hp0 hp hT _ fun r h' r0 r1 s' p' k' n'=>?_
 have hm:¬max 1 (n+1)=0:=by omega
 have e0:0≤r.tmod (max 1 (n+1)):=Int.tmod_nonneg _ r0
 have e1:r.tmod (max 1 (n+1))<max 1 (n+1):=Int.tmod_lt_of_pos _ (by omega)
 simp -implicitDefEqProofs(maxSteps:=999999)(disch:=first|with_reducible rfl|omega|(simp only[nA,nS,nD]<;>omega)|fail)only[go_sem,wr_in,q_ar_rem .i64 hm]
 exact q _ _ e0 (by omega) s' p' k' n'
theorem From_ev {h0 h:H}{p:Nat}{x:V}{bs:List Int}{T:Int}(hs:h0.Sub h)(hw0:h0.wf)(hx:SlAt h0 x 1 (bs.map encU8))(hp0:h0.next≤p)(hp:SpAt h p x T)(hT:0≤T∧T≤1000000000){lo hi:Int}(hlo: -1000000≤lo∧lo≤1000000)(hhi: -1000000≤hi∧hi≤1000000)(Q:V→H→Prop)
  (q:∀r h',lo≤r→r≤max lo hi→h0.Sub h'→SpAt h' p x (T+1)→Keeps (fun b=>b=p) h h'→h'.next=h.next→Q (.int .i64 r) h'):Ev fnG fastA (.fn 70 [] []) [.ptr p 0,.int .i64 lo,.int .i64 hi] h Q:=by
 refine Ev_body (fd:=c70) rfl rfl rfl ?_
 simp -implicitDefEqProofs(maxSteps:=999999)(disch:=first|with_reducible rfl|omega|(simp only[nA,nS,nD]<;>omega)|fail)only[c70,go_sem,wr_in]
 refine Upto_ev hs hw0 hx hp0 hp hT (by omega) _ fun r h' r0 r1 s' p' k' n'=>?_
 simp -implicitDefEqProofs(maxSteps:=999999)(disch:=first|with_reducible rfl|omega|(simp only[nA,nS,nD]<;>omega)|fail)only[go_sem,wr_in]
 exact q _ _ (by omega) (by omega) s' p' k' n'
theorem Wound_ev {h:H}{x:V}{bs:List Int}(hw:h.wf)(hx:SlAt h x 1 (bs.map encU8))(Q:V→H→Prop)(q:∀h',h.Sub h'→SpAt h' h.next x 0→h'.next=h.next+1→Q (.ptr h.next 0) h'):Ev fnG fastA (.fn 15 [] []) [x] h Q:=by
 have hx1:=hx.one
 refine Ev_body (fd:=c15) rfl rfl rfl ?_
 simp -implicitDefEqProofs(maxSteps:=999999)(disch:=first|with_reducible rfl|omega|(simp only[nA,nS,nD]<;>omega)|fail)only[c15,go_sem,hx.lenE,hx1,cells_one hx1]
 exact q _ ((H.Sub.refl hw).add _) ⟨_,get_add_new rfl⟩ (H.next_add _ _)
end Tryz
end Go.Ab
namespace Go.Ab
theorem Keeps.new {S:Nat→Prop}{h h':H}(hw:h.wf)(k:Keeps (fun c=>S c∨h.next≤c) h h'):Keeps S h h':=⟨k.1,fun c y e n=>k.2 c y e fun hs=>hs.elim n fun hge=>by have:=hw c y e;omega⟩
structure Sl6 (h0 z:H)(n1:Nat)(v:Nat→V)(sz:Nat→Nat)(rows:Nat→List (List V)):Prop where
 o:∀i,i<6→OwnC h0 z (v i) (sz i) (rows i)
 lo:∀i,i<6→∀b,blkOf (v i) b→n1≤b
 dj:∀i j,i<6→j<6→i≠j→∀b,blkOf (v i) b→¬blkOf (v j) b
variable {h0 z z':H} {n1:Nat} {v:Nat→V} {sz:Nat→Nat} {rows:Nat→List (List V)}
theorem Sl6.keep (k:Sl6 h0 z n1 v sz rows){S:Nat→Prop}(kk:Keeps S z z')(s:h0.Sub z')(hS:∀b,S b→b<n1):Sl6 h0 z' n1 v sz rows:=
 ⟨fun i hi=>(k.o i hi).keep kk s fun b hb q=>by have:=k.lo i hi b hb;have:=hS b q;omega,k.lo,k.dj⟩
theorem Sl6.rw (k:Sl6 h0 z n1 v sz rows){rows':Nat→List (List V)}(e:∀i,i<6→rows i=rows' i):Sl6 h0 z n1 v sz rows':=⟨fun i hi=>by rw[←e i hi];exact k.o i hi,k.lo,k.dj⟩
theorem Sl6.mono (k:Sl6 h0 z n1 v sz rows)(s:z.Sub z'):Sl6 h0 z' n1 v sz rows:=⟨fun i hi=>(k.o i hi).mono s,k.lo,k.dj⟩
def updF {α:Type}(f:Nat→α)(i:Nat)(x:α)(j:Nat):α:=if j=i then x else f j
theorem updF_same {α:Type}(f:Nat→α)(i:Nat)(x:α):updF f i x i=x:=if_pos rfl
theorem updF_other {α:Type}(f:Nat→α){i j:Nat}(x:α)(h:j≠i):updF f i x j=f j:=if_neg h
theorem Sl6.app (k:Sl6 h0 z n1 v sz rows){i:Nat}(hi:i<6){w:V}{r:List V}(o:OwnC h0 z' w (sz i) (rows i++[r]))(n:∀b,blkOf w b→blkOf (v i) b∨z.next≤b)(hz:n1≤z.next)(kk:Keeps (blkOf (v i)) z z'):
  Sl6 h0 z' n1 (updF v i w) sz (updF rows i (rows i++[r])):=by
 refine⟨fun j hj=>?_,fun j hj b hb=>?_,fun j l hj hl hjl b hb=>?_⟩
 ·by_cases e:j=i
  ·subst e;rw[updF_same,updF_same];exact o
  ·rw[updF_other _ _ e,updF_other _ _ e]
   exact(k.o j hj).keep kk o.1 fun b hb=>k.dj j i hj hi e b hb
 ·by_cases e:j=i
  ·subst e;rw[updF_same] at hb
   exact(n b hb).elim (k.lo j hi b) fun q=>by omega
  ·rw[updF_other _ _ e] at hb;exact k.lo j hj b hb
 ·by_cases e:j=i
  ·subst e
   rw[updF_same] at hb;rw[updF_other _ _ (Ne.symm hjl)]
   exact(n b hb).elim (k.dj j l hi hl hjl b) fun q w=>by have:=((k.o l hl).blk w).2.1;omega
  ·rw[updF_other _ _ e] at hb
   by_cases e2:l=i
   ·subst e2;rw[updF_same]
    intro w
    exact(n b w).elim (k.dj j l hj hi e b hb) fun q=>by have:=((k.o j hj).blk hb).2.1;omega
   ·rw[updF_other _ _ e2];exact k.dj j l hj hl hjl b hb
end Go.Ab
namespace Go.Ab.Tryz
open Go.Proofs
set_option maxHeartbeats 1000000 in
theorem around_ev {h0 h:H}{p:Nat}{x:V}{bs:List Int}{T:Int}(hs:h0.Sub h)(hw0:h0.wf)(hx:SlAt h0 x 1 (bs.map encU8))(hp0:h0.next≤p)(hp:SpAt h p x T)(hT:0≤T∧T≤100000000){n wide most:Int}(h1:0≤wide∧wide≤100)(h2:0≤most∧most≤1000)(h3: -most≤n∧n≤most)(Q:V→H→Prop)
  (q:∀lo hi h',lo≤n→n≤hi→ -most≤lo→hi≤most→hi-lo≤wide→h0.Sub h'→SpAt h' p x (T+2)→Keeps (fun b=>b=p) h h'→Q (spV (lo,hi)) h'):Ev fnG fastA (.fn 71 [] []) [.ptr p 0,.int .i64 n,.int .i64 wide,.int .i64 most] h Q:=by
 have hw:=hs.wf
 have hlp:p<h.next:=by obtain⟨st,g⟩:=hp;exact hw _ _ g
 refine Ev_body (fd:=c71) rfl rfl rfl ?_
 have sA:=(H.Sub.refl hw).add (.cells .rw [.int .i64 0,.int .i64 0])
 have gA:(h.add (.cells .rw [.int .i64 0,.int .i64 0])).get h.next=some (.cells .rw [.int .i64 0,.int .i64 0]):=get_add_new rfl
 have nA:=H.next_add h (.cells .rw [.int .i64 0,.int .i64 0])
 have w0:wr .i64 (0-most)= -most:=by rw[wr_in (by omega) (by omega)];omega
 simp -implicitDefEqProofs(maxSteps:=999999)(disch:=first|with_reducible rfl|omega|(simp only[nA,nS,nD]<;>omega)|fail)only[c71,go_sem,w0]
 generalize h.add (.cells .rw [.int .i64 0,.int .i64 0])=hA at sA gA nA⊢
 refine Upto_ev (hs.trans sA) hw0 hx hp0 (hp.mono sA) (by omega) (by omega) _ fun r1 h1 a0 a1 s1 p1 k1 n1=>?_
 have g1:=k1.2 _ _ gA (by omega)
 have w1:wr .i64 (n-r1)=n-r1:=wr_in (by omega) (by omega)
 obtain⟨lo,hlo⟩:∃lo,max (-most) (n-r1)=lo:=⟨_,rfl⟩
 simp -implicitDefEqProofs(maxSteps:=999999)(disch:=first|with_reducible rfl|omega|(simp only[nA,nS,nD]<;>omega)|fail)only[go_sem,w1,hlo]
 refine Upto_ev s1 hw0 hx hp0 p1 (by omega) (by omega) _ fun r2 h2' b0 b1 s2 p2 k2 n2=>?_
 have g2:=k2.2 _ _ g1 (by omega)
 have w2:wr .i64 (lo+r2)=lo+r2:=wr_in (by omega) (by omega)
 obtain⟨hi,hhi⟩:∃hi,min most (max n (lo+r2))=hi:=⟨_,rfl⟩
 simp -implicitDefEqProofs(maxSteps:=999999)(disch:=first|with_reducible rfl|omega|(simp only[nA,nS,nD]<;>omega)|fail)only[go_sem,w2,hhi,g2]
 refine q lo hi _ (by omega) (by omega) (by omega) (by omega) (by omega) (s2.set (b:=h.next) (by have:=hs.next;omega) (by omega) hw0 _) ?_ ?_
 ·have e:T+1+1=T+2:=by omega
  rw[←e];exact p2.keep (Keeps.set _ _ _) (by omega)
 ·refine Keeps.new hw ((((Keeps.of sA (fun _=>False)).trans k1).trans k2).trans (Keeps.set h2' h.next _) |>.mono ?_)
  rintro c (((h|h)|h)|h)
  ·exact h.elim
  ·exact .inl h
  ·exact .inl h
  ·exact .inr (by omega)
end Go.Ab.Tryz
namespace Go.Ab.Tryz
open Go.Proofs
def sz6:Nat→Nat
 |0=>4
 |1=>3
 |2=>4
 |_=>1
def rowsM (a:At)(ss gg tt:List Int):Nat→List (List V)
 |0=>a.cks.map encC
 |1=>a.rds.map encR
 |2=>a.gps.map encG
 |3=>ss.map encI
 |4=>gg.map encI
 |5=>tt.map encI
 |_=>[]
structure Mi (h0:H)(p:Nat)(x:V)(n1 c0:Nat)(a:At)(ss gg tt:List Int)(T:Int)(v:Nat→V)(z:H):Prop where
 s:h0.Sub z
 sp:SpAt z p x T
 sl:Sl6 h0 z n1 v sz6 (rowsM a ss gg tt)
 ga:z.get (c0+2)=some (.cells .rw [.int .i64 a.mins,.int .i64 a.evs,v 0,v 1,v 2])
 gt:z.get (c0+3)=some (.cells .rw [v 3,v 4,v 5])
 g0:z.get c0=some (.cells .rw [.int .i64 0,.int .i64 0,.nils,.nils,.nils])
 g1:z.get (c0+1)=some (.cells .rw [.nils,.nils,.nils])
 nx:n1≤z.next
variable {h0:H} {p:Nat} {x:V} {n1 c0:Nat} {a a':At} {ss gg tt ss' gg' tt':List Int} {T T':Int} {v v':Nat→V} {z z5:H}
theorem Mi.turn (k:Mi h0 p x n1 c0 a ss gg tt T v z)(hp:p<c0)(hn:c0+4=n1)(s:h0.Sub z5)(sp:SpAt z5 p x T')(kk:Keeps (fun b=>b=p) z z5):Mi h0 p x n1 c0 a ss gg tt T' v z5:=
 ⟨s,sp,k.sl.keep kk s fun b hb=>by omega,kk.2 _ _ k.ga (by omega),kk.2 _ _ k.gt (by omega),kk.2 _ _ k.g0 (by omega),kk.2 _ _ k.g1 (by omega),by have:=kk.1;have:=k.nx;omega⟩
theorem Mi.mono (k:Mi h0 p x n1 c0 a ss gg tt T v z)(s:z.Sub z5):Mi h0 p x n1 c0 a ss gg tt T v z5:=
 ⟨k.s.trans s,k.sp.mono s,k.sl.mono s,s.get k.ga,s.get k.gt,s.get k.g0,s.get k.g1,by have:=s.next;have:=k.nx;omega⟩
theorem Mi.putA (k:Mi h0 p x n1 c0 a ss gg tt T v z)(hw:h0.wf)(hp:p<c0)(hn:c0+4=n1)(hc:h0.next≤c0){S:Nat→Prop}(kk:Keeps S z z5)(hS:∀b,S b→n1≤b)(sl:Sl6 h0 z5 n1 v' sz6 (rowsM a' ss gg tt))(hm:a'.mins=a.mins)(he:a'.evs=a.evs)
  (e3:v' 3=v 3) (e4:v' 4=v 4) (e5:v' 5=v 5):Mi h0 p x n1 c0 a' ss gg tt T v' (z5.set (c0+2) (.cells .rw [.int .i64 a.mins,.int .i64 a.evs,v' 0,v' 1,v' 2])):=by
 have hn':∀b,b<n1→¬S b:=fun b hb q=>by have:=hS b q;omega
 have s5:=(sl.o 0 (by omega)).1
 have l5:=kk.1
 have lz:=k.nx
 have sz:h0.Sub (z5.set (c0+2) (.cells .rw [.int .i64 a.mins,.int .i64 a.evs,v' 0,v' 1,v' 2])):=s5.set (by omega) (by omega) hw _
 have k2:=Keeps.set z5 (c0+2) (.cells .rw [.int .i64 a.mins,.int .i64 a.evs,v' 0,v' 1,v' 2])
 refine⟨sz,(k.sp.keep kk (hn' _ (by omega))).keep k2 (by omega),sl.keep k2 sz fun b hb=>by omega,by rw[get_set_same rfl,hm,he],?_,?_,?_,by rw[H.next_set];omega⟩
 ·rw[e3,e4,e5];exact k2.2 _ _ (kk.2 _ _ k.gt (hn' _ (by omega))) (by omega)
 ·exact k2.2 _ _ (kk.2 _ _ k.g0 (hn' _ (by omega))) (by omega)
 ·exact k2.2 _ _ (kk.2 _ _ k.g1 (hn' _ (by omega))) (by omega)
theorem Mi.putT (k:Mi h0 p x n1 c0 a ss gg tt T v z)(hw:h0.wf)(hp:p<c0)(hn:c0+4=n1)(hc:h0.next≤c0){S:Nat→Prop}(kk:Keeps S z z5)(hS:∀b,S b→n1≤b)(sl:Sl6 h0 z5 n1 v' sz6 (rowsM a ss' gg' tt'))
  (e0:v' 0=v 0) (e1:v' 1=v 1) (e2:v' 2=v 2):Mi h0 p x n1 c0 a ss' gg' tt' T v' (z5.set (c0+3) (.cells .rw [v' 3,v' 4,v' 5])):=by
 have hn':∀b,b<n1→¬S b:=fun b hb q=>by have:=hS b q;omega
 have s5:=(sl.o 0 (by omega)).1
 have l5:=kk.1
 have lz:=k.nx
 have sz:h0.Sub (z5.set (c0+3) (.cells .rw [v' 3,v' 4,v' 5])):=s5.set (by omega) (by omega) hw _
 have k2:=Keeps.set z5 (c0+3) (.cells .rw [v' 3,v' 4,v' 5])
 refine⟨sz,(k.sp.keep kk (hn' _ (by omega))).keep k2 (by omega),sl.keep k2 sz fun b hb=>by omega,?_,get_set_same rfl,?_,?_,by rw[H.next_set];omega⟩
 ·rw[e0,e1,e2];exact k2.2 _ _ (kk.2 _ _ k.ga (hn' _ (by omega))) (by omega)
 ·exact k2.2 _ _ (kk.2 _ _ k.g0 (hn' _ (by omega))) (by omega)
 ·exact k2.2 _ _ (kk.2 _ _ k.g1 (hn' _ (by omega))) (by omega)
structure MkOk (a:At)(ss gg tt:List Int):Prop where
 m:1≤a.mins∧a.mins≤240
 e:1≤a.evs∧a.evs≤4
 cl:a.cks.length≤2
 rl:a.rds.length≤6
 gl:a.gps.length≤2
 ls:ss.length=a.cks.length
 lg:gg.length=a.cks.length
 lt:tt.length≤4
 ck:∀(k:Nat) c s g,a.cks[k]? =some c→ss[k]? =some s→gg[k]? =some g→c.sl≤s∧s≤c.sh∧c.gl≤g∧g≤c.gh
 cb:∀c∈a.cks, -60≤c.sl∧c.sh≤60∧ -30≤c.gl∧c.gh≤30∧c.sl≤c.sh∧c.gl≤c.gh∧c.sh-c.sl≤3∧c.gh-c.gl≤3
 tm:∀t∈tt,0≤t∧t≤a.mins
 rd:∀r∈a.rds,0≤r.ck∧0≤r.ev∧∃s g t,ss[r.ck.toNat]? =some s∧gg[r.ck.toNat]? =some g∧tt[r.ev.toNat]? =some t∧r.sh=shw s g t
 gp:∀g∈a.gps,0≤g.fr∧0≤g.to∧∃t1 t2,tt[g.fr.toNat]? =some t1∧tt[g.to.toNat]? =some t2∧g.lo≤t2-t1∧t2-t1≤g.hi∧ -240≤g.lo∧g.hi≤240
theorem getl {α:Type}{l:List α}{i:Nat}{x:α}(h:l[i]? =some x):i<l.length:=by
 rcases Nat.lt_or_ge i l.length with q|q
 ·exact q
 ·rw[List.getElem?_eq_none q] at h;cases h
theorem MkOk.run {a:At}{ss gg tt:List Int}(k:MkOk a ss gg tt){i:Nat}{s g:Int}(hs:ss[i]? =some s)(hg:gg[i]? =some g):RunIn s g:=by
 have hi:=getl hs
 rw[k.ls] at hi
 have h1:=k.ck i _ s g (List.getElem?_eq_getElem hi) hs hg
 have h2:=k.cb _ (List.getElem_mem hi)
 exact⟨by omega,by omega,by omega,by omega⟩
theorem MkOk.right {a:At}{ss gg tt:List Int}(k:MkOk a ss gg tt)(hl:(tt.length:Int)=a.evs):Right a:=by
 have hm:=k.m;have he:=k.e;have h1:=k.cl;have h2:=k.rl;have h3:=k.gl
 refine⟨?_,fun c hc=>?_,fun r hr=>?_,fun g hg=>?_,fun r hr=>?_,fun g hg=>?_,fun c hc=>?_,fun g hg=>?_,fun c hc=>?_⟩
 ·simp only[At.sz,Bool.and_eq_true,decide_eq_true_eq,inB_iff];omega
 ·have:=k.cb c hc
  simp only[Ck.bd,within,Bool.and_eq_true,inB_iff];omega
 ·obtain⟨_,_,s,g,t,e1,e2,e3,e4⟩:=k.rd r hr
  have ht:=k.tm t (List.mem_of_getElem? e3)
  have:=shw_bd (k.run e1 e2) ht.1 (by omega)
  simp only[Rd.bd,inB_iff];omega
 ·obtain⟨_,_,t1,t2,e1,e2,e3,e4,e5,e6⟩:=k.gp g hg
  have q1:=k.tm t1 (List.mem_of_getElem? e1)
  have q2:=k.tm t2 (List.mem_of_getElem? e2)
  simp only[Gp.bd,within,Bool.and_eq_true,inB_iff];omega
 ·obtain⟨_,_,s,g,t,e1,e2,e3,e4⟩:=k.rd r hr
  have q1:=getl e1;have q2:=getl e3;have q3:=k.ls
  simp only[At.rdOk,At.ckB,At.evB,Bool.and_eq_true,inB_iff];omega
 ·obtain⟨_,_,t1,t2,e1,e2,e3,e4,e5,e6⟩:=k.gp g hg
  have q1:=getl e1;have q2:=getl e2
  simp only[At.gpOk,At.evB,Bool.and_eq_true,inB_iff];omega
 ·have:=k.cb c hc
  simp only[Ck.ord,Bool.and_eq_true,decide_eq_true_eq];omega
 ·obtain⟨_,_,t1,t2,e1,e2,e3,e4,e5,e6⟩:=k.gp g hg
  simp only[Gp.ord,decide_eq_true_eq];omega
 ·have:=k.cb c hc
  simp only[Ck.sm,Bool.and_eq_true,decide_eq_true_eq];omega
def timeF (tt:List Int)(e:Nat):Int:=tt.getD e 0
theorem timeF_at {tt:List Int}{e:Nat}{t:Int}(h:tt[e]? =some t):timeF tt e=t:=by unfold timeF;rw[List.getD_eq_getElem?_getD,h];rfl
theorem MkOk.tru {a:At}{ss gg tt:List Int}(k:MkOk a ss gg tt):Tru a (fun _=>true) (ss.zip gg) (timeF tt):=by
 have hm:=k.m
 have zp:∀{i:Nat} {s:Int × Int},(ss.zip gg)[i]? =some s→ss[i]? =some s.1∧gg[i]? =some s.2:=fun{i s} h=>by
  have:=List.getElem?_zip_eq_some.1 h
  exact this
 refine⟨by rw[List.length_zip,k.ls,k.lg,Nat.min_self],fun i s hs=>?_,?_,fun e he=>?_,fun g hg=>?_,fun j r hr _ s hs=>?_⟩
 ·obtain⟨h1,h2⟩:=zp hs
  have hi:=getl h1
  rw[k.ls] at hi
  have hc:a.cks[i]? =some a.cks[i]:=List.getElem?_eq_getElem hi
  obtain⟨q1,q2,q3,q4⟩:=k.ck i _ _ _ hc h1 h2
  exact RunOf.mk' hc q1 q2 q3 q4
 ·unfold timeF
  rw[List.getD_eq_getElem?_getD,List.getElem?_eq_none k.lt];rfl
 ·unfold timeF
  rw[List.getD_eq_getElem?_getD]
  cases h:tt[e]? with
  |none=>exact⟨Int.le_refl _,by show(0:Int)≤_;omega⟩
  |some t=>exact k.tm t (List.mem_of_getElem? h)
 ·obtain⟨_,_,t1,t2,e1,e2,e3,e4,e5,e6⟩:=k.gp g hg
  rw[timeF_at e1,timeF_at e2];exact⟨e3,e4⟩
 ·obtain⟨_,_,s',g,t,e1,e2,e3,e4⟩:=k.rd r (List.mem_of_getElem? hr)
  obtain⟨h1,h2⟩:=zp hs
  rw[e1] at h1;rw[e2] at h2
  cases h1;cases h2
  rw[timeF_at e3,e4]
end Go.Ab.Tryz
namespace Go.Ab.Tryz
open Go.Proofs
structure MkAt (h0 h:H)(p:Nat)(x:V)(T:Int)(a:At)(ss gg tt:List Int)(C R G S Ga Tm:V):Prop where
 s:h0.Sub h
 sp:SpAt h p x T
 at_:AtAt h C R G a
 as_:SlAt h S 1 (ss.map encI)
 ag:SlAt h Ga 1 (gg.map encI)
 am:SlAt h Tm 1 (tt.map encI)
 ok:MkOk a ss gg tt
 lt:(tt.length:Int)=a.evs
theorem rowsUp {a a':At}{ss gg tt ss' gg' tt':List Int}{j:Nat}{r:List V}(h0:updF (rowsM a ss gg tt) j (rowsM a ss gg tt j++[r]) 0=a'.cks.map encC)(h1:updF (rowsM a ss gg tt) j (rowsM a ss gg tt j++[r]) 1=a'.rds.map encR)(h2:updF (rowsM a ss gg tt) j (rowsM a ss gg tt j++[r]) 2=a'.gps.map encG)
  (h3:updF (rowsM a ss gg tt) j (rowsM a ss gg tt j++[r]) 3=ss'.map encI) (h4:updF (rowsM a ss gg tt) j (rowsM a ss gg tt j++[r]) 4=gg'.map encI) (h5:updF (rowsM a ss gg tt) j (rowsM a ss gg tt j++[r]) 5=tt'.map encI):∀i,i<6→updF (rowsM a ss gg tt) j (rowsM a ss gg tt j++[r]) i=rowsM a' ss' gg' tt' i:=fun i hi=>by
 rcases(by omega:i=0∨i=1∨i=2∨i=3∨i=4∨i=5) with rfl|rfl|rfl|rfl|rfl|rfl
 ·exact h0
 ·exact h1
 ·exact h2
 ·exact h3
 ·exact h4
 ·exact h5
theorem rows0 {a:At}{ss gg tt:List Int}{c:Ck}:∀i,i<6→updF (rowsM a ss gg tt) 0 (rowsM a ss gg tt 0++[encC c]) i=rowsM {a with cks:=a.cks++[c]} ss gg tt i:=rowsUp (by simp[updF,rowsM]) (by simp[updF,rowsM]) (by simp[updF,rowsM]) (by simp[updF,rowsM]) (by simp[updF,rowsM]) (by simp[updF,rowsM])
theorem rows1 {a:At}{ss gg tt:List Int}{c:Rd}:∀i,i<6→updF (rowsM a ss gg tt) 1 (rowsM a ss gg tt 1++[encR c]) i=rowsM {a with rds:=a.rds++[c]} ss gg tt i:=rowsUp (by simp[updF,rowsM]) (by simp[updF,rowsM]) (by simp[updF,rowsM]) (by simp[updF,rowsM]) (by simp[updF,rowsM]) (by simp[updF,rowsM])
theorem rows2 {a:At}{ss gg tt:List Int}{c:Gp}:∀i,i<6→updF (rowsM a ss gg tt) 2 (rowsM a ss gg tt 2++[encG c]) i=rowsM {a with gps:=a.gps++[c]} ss gg tt i:=rowsUp (by simp[updF,rowsM]) (by simp[updF,rowsM]) (by simp[updF,rowsM]) (by simp[updF,rowsM]) (by simp[updF,rowsM]) (by simp[updF,rowsM])
theorem rows3 {a:At}{ss gg tt:List Int}{c:Int}:∀i,i<6→updF (rowsM a ss gg tt) 3 (rowsM a ss gg tt 3++[encI c]) i=rowsM a (ss++[c]) gg tt i:=rowsUp (by simp[updF,rowsM]) (by simp[updF,rowsM]) (by simp[updF,rowsM]) (by simp[updF,rowsM]) (by simp[updF,rowsM]) (by simp[updF,rowsM])
theorem rows4 {a:At}{ss gg tt:List Int}{c:Int}:∀i,i<6→updF (rowsM a ss gg tt) 4 (rowsM a ss gg tt 4++[encI c]) i=rowsM a ss (gg++[c]) tt i:=rowsUp (by simp[updF,rowsM]) (by simp[updF,rowsM]) (by simp[updF,rowsM]) (by simp[updF,rowsM]) (by simp[updF,rowsM]) (by simp[updF,rowsM])
theorem rows5 {a:At}{ss gg tt:List Int}{c:Int}:∀i,i<6→updF (rowsM a ss gg tt) 5 (rowsM a ss gg tt 5++[encI c]) i=rowsM a ss gg (tt++[c]) i:=rowsUp (by simp[updF,rowsM]) (by simp[updF,rowsM]) (by simp[updF,rowsM]) (by simp[updF,rowsM]) (by simp[updF,rowsM]) (by simp[updF,rowsM])
theorem get_app1 {α:Type}{l:List α}{x y:α}{i:Nat}(h:(l++[x])[i]? =some y):l[i]? =some y∧i<l.length∨i=l.length∧y=x:=by
 rcases Nat.lt_or_ge i l.length with q|q
 ·rw[List.getElem?_append_left q] at h;exact .inl ⟨h,q⟩
 ·rw[List.getElem?_append_right q] at h
  have:i-l.length=0:=by
   cases hh:i-l.length with
   |zero=>rfl
   |succ n=>rw[hh] at h;simp at h
  rw[this] at h
  cases h
  exact .inr ⟨by omega,rfl⟩
theorem get_more {α:Type}{l:List α}{x y:α}{i:Nat}(h:l[i]? =some y):(l++[x])[i]? =some y:=by rw[List.getElem?_append_left (getl h)];exact h
theorem MkOk.clock {a:At}{ss gg tt:List Int}(k:MkOk a ss gg tt)(hl:a.cks.length+1≤2){sl sh gl gh st gn:Int}(h1:sl≤st∧st≤sh)(h2:gl≤gn∧gn≤gh)(h3: -60≤sl∧sh≤60∧sh-sl≤3)(h4: -30≤gl∧gh≤30∧gh-gl≤3):
  MkOk {a with cks:=a.cks++[⟨sl,sh,gl,gh⟩]} (ss++[st]) (gg++[gn]) tt:=by
 refine⟨k.m,k.e,by simp only[List.length_append,List.length_singleton];exact hl,k.rl,k.gl,by simp only[List.length_append,List.length_singleton,k.ls],by simp only[List.length_append,List.length_singleton,k.lg],k.lt,fun i c s g hc hs hg=>?_,fun c hc=>?_,k.tm,fun r hr=>?_,k.gp⟩
 ·have ls:=k.ls;have lg:=k.lg
  rcases get_app1 hc with⟨hc,q⟩|⟨q,rfl⟩
  ·rcases get_app1 hs with⟨hs,_⟩|⟨q2,_⟩
   ·rcases get_app1 hg with⟨hg,_⟩|⟨q3,_⟩
    ·exact k.ck i c s g hc hs hg
    ·omega
   ·omega
  ·rcases get_app1 hs with⟨_,q2⟩|⟨_,rfl⟩
   ·omega
   ·rcases get_app1 hg with⟨_,q3⟩|⟨_,rfl⟩
    ·omega
    ·exact⟨h1.1,h1.2,h2.1,h2.2⟩
 ·rcases List.mem_append.1 hc with hc|hc
  ·exact k.cb c hc
  ·rw[List.mem_singleton] at hc;subst hc
   exact⟨h3.1,h3.2.1,h4.1,h4.2.1,Int.le_trans h1.1 h1.2,Int.le_trans h2.1 h2.2,h3.2.2,h4.2.2⟩
 ·obtain⟨r1,r2,s,g,t,e1,e2,e3,e4⟩:=k.rd r hr
  exact⟨r1,r2,s,g,t,get_more e1,get_more e2,e3,e4⟩
theorem MkOk.read {a:At}{ss gg tt:List Int}(k:MkOk a ss gg tt)(hl:a.rds.length+1≤6){i e:Nat}{s g t:Int}(e1:ss[i]? =some s)(e2:gg[i]? =some g)(e3:tt[e]? =some t):MkOk {a with rds:=a.rds++[⟨i,e,shw s g t⟩]} ss gg tt:=by
 refine⟨k.m,k.e,k.cl,by simp only[List.length_append,List.length_singleton];exact hl,k.gl,k.ls,k.lg,k.lt,k.ck,k.cb,k.tm,fun r hr=>?_,k.gp⟩
 rcases List.mem_append.1 hr with hr|hr
 ·exact k.rd r hr
 ·rw[List.mem_singleton] at hr;subst hr
  exact⟨Int.natCast_nonneg _,Int.natCast_nonneg _,s,g,t,e1,e2,e3,rfl⟩
theorem MkOk.gap {a:At}{ss gg tt:List Int}(k:MkOk a ss gg tt)(hl:a.gps.length+1≤2){i e:Nat}{t1 t2 lo hi:Int}(e1:tt[i]? =some t1)(e2:tt[e]? =some t2)(h1:lo≤t2-t1∧t2-t1≤hi)(h2: -240≤lo∧hi≤240):MkOk {a with gps:=a.gps++[⟨i,e,lo,hi⟩]} ss gg tt:=by
 refine⟨k.m,k.e,k.cl,k.rl,by simp only[List.length_append,List.length_singleton];exact hl,k.ls,k.lg,k.lt,k.ck,k.cb,k.tm,k.rd,fun g hg=>?_⟩
 rcases List.mem_append.1 hg with hg|hg
 ·exact k.gp g hg
 ·rw[List.mem_singleton] at hg;subst hg
  exact⟨Int.natCast_nonneg _,Int.natCast_nonneg _,t1,t2,e1,e2,h1.1,h1.2,h2.1,h2.2⟩
theorem Mi.side {h0 z z5:H}{p:Nat}{x:V}{n1 c0:Nat}{a:At}{ss gg tt:List Int}{T:Int}{v:Nat→V}(k:Mi h0 p x n1 c0 a ss gg tt T v z)(hp:p<c0)(hn:c0+4=n1){b0:Nat}(hb:n1≤b0)(hne:∀i,i<6→∀b,blkOf (v i) b→b≠b0)(s:h0.Sub z5)(kk:Keeps (fun b=>b=b0) z z5):Mi h0 p x n1 c0 a ss gg tt T v z5:=
 ⟨s,k.sp.keep kk (by omega),⟨fun i hi=>(k.sl.o i hi).keep kk s fun b hb q=>hne i hi b hb q,k.sl.lo,k.sl.dj⟩,kk.2 _ _ k.ga (by omega),kk.2 _ _ k.gt (by omega),kk.2 _ _ k.g0 (by omega),kk.2 _ _ k.g1 (by omega),by have:=kk.1;have:=k.nx;omega⟩
structure FT (p c0:Nat)(K N:Int)(tm:T V):Prop where
 t0:(Opd.t 0).ev tm=.ptr p 0
 t3:(Opd.t 3).ev tm=.int .i64 K
 t4:(Opd.t 4).ev tm=.int .i64 N
 t10:(Opd.t 10).ev tm=.ptr c0 0
 t11:(Opd.t 11).ev tm=.ptr (c0+1) 0
 t12:(Opd.t 12).ev tm=.ptr (c0+2) 0
 t13:(Opd.t 13).ev tm=.ptr (c0+3) 0
structure MkOwn (h0 h:H)(p:Nat)(a:At)(C R G S Ga Tm:V):Prop where
 r:OwnC h0 h R 3 (a.rds.map encR)
 lo:∀b,blkOf R b→p<b
 dj:∀b,blkOf R b→¬blkOf C b∧¬blkOf G b∧¬blkOf S b∧¬blkOf Ga b∧¬blkOf Tm b
set_option maxHeartbeats 8000000 in
theorem Made2_ev {h0 h:H}{p:Nat}{x:V}{bs:List Int}{T:Int}(hs:h0.Sub h)(hw0:h0.wf)(hx:SlAt h0 x 1 (bs.map encU8))(hp0:h0.next≤p)(hp:SpAt h p x T)(hT:0≤T∧T≤10000000){M E K N:Int}(hM:1≤M∧M≤240)(hE:1≤E∧E≤4)(hK:0≤K∧K≤2)(hN:0≤N∧N≤6)(Q:V→H→Prop)
  (q:∀h' T' a ss gg tt C R G S Ga Tm,MkAt h0 h' p x T' a ss gg tt C R G S Ga Tm→MkOwn h0 h' p a C R G S Ga Tm→Q (.tup [.agg (atV a C R G),.agg [S,Ga,Tm]]) h'):Ev fnG fastA (.fn 14 [] []) [.ptr p 0,.int .i64 M,.int .i64 E,.int .i64 K,.int .i64 N] h Q:=by
 have hw:=hs.wf
 have l0:=hs.next
 have hlp:p<h.next:=by obtain⟨st,g⟩:=hp;exact hw _ _ g
 refine Ev_body (fd:=c14) rfl rfl rfl ?_
 have s1:h.Sub ((h.add (.cells .rw [.int .i64 0,.int .i64 0,.nils,.nils,.nils])).add (.cells .rw [.nils,.nils,.nils])):=(by repeat(first|assumption|exact H.Sub.refl (by assumption)|refine H.Sub.add ?_ _|refine H.Sub.set ?_ (by first|omega|(simp only[H.next_add,H.next_set,H.next_del]<;>omega)) (by first|omega|(simp only[H.next_add,H.next_set,H.next_del]<;>omega)) (by assumption) _))
 have a0:((h.add (.cells .rw [.int .i64 0,.int .i64 0,.nils,.nils,.nils])).add (.cells .rw [.nils,.nils,.nils])).get h.next=some (.cells .rw [.int .i64 0,.int .i64 0,.nils,.nils,.nils]):=by simp -implicitDefEqProofs(maxSteps:=999999)(disch:=first|with_reducible rfl|omega|(simp only[nA,nS,nD]<;>omega)|fail)only[go_sem]
 have a1:((h.add (.cells .rw [.int .i64 0,.int .i64 0,.nils,.nils,.nils])).add (.cells .rw [.nils,.nils,.nils])).get (h.next+1)=some (.cells .rw [.nils,.nils,.nils]):=by simp -implicitDefEqProofs(maxSteps:=999999)(disch:=first|with_reducible rfl|omega|(simp only[nA,nS,nD]<;>omega)|fail)only[go_sem]
 have n1:((h.add (.cells .rw [.int .i64 0,.int .i64 0,.nils,.nils,.nils])).add (.cells .rw [.nils,.nils,.nils])).next=h.next+2:=by simp only[H.next_add]
 simp -implicitDefEqProofs(maxSteps:=999999)(disch:=first|with_reducible rfl|omega|(simp only[nA,nS,nD]<;>omega)|fail)only[c14,go_sem]
 generalize(h.add (.cells .rw [.int .i64 0,.int .i64 0,.nils,.nils,.nils])).add (.cells .rw [.nils,.nils,.nils])=h1 at s1 a0 a1 n1⊢
 refine From_ev (hs.trans s1) hw0 hx hp0 (hp.mono s1) (by omega) (by omega) (by omega) _ fun mins h2 m0 m1 s2 p2 k2 n2=>?_
 simp -implicitDefEqProofs(maxSteps:=999999)(disch:=first|with_reducible rfl|omega|(simp only[nA,nS,nD]<;>omega)|fail)only[go_sem]
 refine From_ev s2 hw0 hx hp0 p2 (by omega) (by omega) (by omega) _ fun evs h3 v0 v1 s3 p3 k3 n3=>?_
 have b0:=k3.2 _ _ (k2.2 _ _ a0 (by omega)) (by omega)
 have b1:=k3.2 _ _ (k2.2 _ _ a1 (by omega)) (by omega)
 have n3':h3.next=h.next+2:=by omega
 have e2:h.next+2=h3.next:=n3'.symm
 obtain⟨c0,hc0⟩:∃c0,h.next=c0:=⟨_,rfl⟩
 have k0:Mi h0 p x (c0+4) c0 ⟨mins,evs,[],[],[]⟩ [] [] [] (T+2) (fun _=>.nils) ((h3.add (.cells .rw [.int .i64 mins,.int .i64 evs,.nils,.nils,.nils])).add (.cells .rw [.nils,.nils,.nils])):=by
  have s5:h3.Sub ((h3.add (.cells .rw [.int .i64 mins,.int .i64 evs,.nils,.nils,.nils])).add (.cells .rw [.nils,.nils,.nils])):=((H.Sub.refl s3.wf).add _).add _
  have p3':=p3.mono s5
  rw[show T+1+1=T+2 by omega] at p3'
  refine⟨s3.trans s5,p3',⟨fun i hi=>?_,fun i hi b hb=>(blkOf_nils hb).elim,fun i j _ _ _ b hb=>(blkOf_nils hb).elim⟩,?_,?_,?_,?_,by simp only[H.next_add];omega⟩
  ·have:rowsM ⟨mins,evs,[],[],[]⟩ [] [] [] i=[]:=by rcases(by omega:i=0∨i=1∨i=2∨i=3∨i=4∨i=5) with rfl|rfl|rfl|rfl|rfl|rfl<;>rfl
   rw[this];exact(OwnSl.nil (s3.trans s5) _).c
  ·rw[get_add_old (by rw[H.next_add];omega),get_add_new (by omega)]
  ·rw[get_add_new (by rw[H.next_add];omega)]
  ·rw[←hc0];exact s5.get b0
  ·rw[←hc0];exact s5.get b1
 have hlp0:p<c0:=by omega
 have l00:h0.next≤c0:=by omega
 simp -implicitDefEqProofs(maxSteps:=999999)(disch:=first|with_reducible rfl|omega|(simp only[nA,nS,nD]<;>omega)|fail)only[go_sem]
 generalize(h3.add (.cells .rw [.int .i64 mins,.int .i64 evs,.nils,.nils,.nils])).add (.cells .rw [.nils,.nils,.nils])=h4 at k0⊢
 rw[n3',hc0,show c0+2+1=c0+3 from rfl]
 obtain⟨ev,hev⟩:∃ev:Nat,evs=ev:=⟨evs.toNat,by omega⟩
 subst hev
 refine W_count ev (fun i s=>∃tm z v tt T',s=⟨tm,z,[]⟩∧Mi h0 p x (c0+4) c0 ⟨mins,ev,[],[],[]⟩ [] [] tt T' v z∧tt.length=i∧(∀t∈tt,0≤t∧t≤mins)∧(0≤T'∧T'≤T+2+i)∧FT p c0 K N tm∧(Opd.t 26).ev tm=.int .i64 (ev:Int)∧(Opd.t 27).ev tm=.int .i64 (i:Int)) ?_ ?_ (i:=0) (Nat.zero_le _)
  ⟨_,_,_,[],_,rfl,k0,rfl,fun t ht=>absurd ht List.not_mem_nil,by omega,⟨(by simp[ev_c,ev_put]<;>rfl),(by simp[ev_c,ev_put]<;>rfl),(by simp[ev_c,ev_put]<;>rfl),(by simp[ev_c,ev_put]<;>rfl),(by simp[ev_c,ev_put]<;>rfl),(by simp[ev_c,ev_put]<;>rfl),(by simp[ev_c,ev_put]<;>rfl)⟩,(by simp[ev_c,ev_put]<;>rfl),(by simp[ev_c,ev_put]<;>rfl)⟩
 ·rintro i s hi ⟨tm,z,v,tt,T',rfl,k,lt,ht,hT',⟨e0,e3,e4,e10,e11,e12,e13⟩,e26,e27⟩
  have hi':(i:Int)<(ev:Int):=by omega
  have lz:=k.nx
  simp -implicitDefEqProofs(maxSteps:=999999)(disch:=first|with_reducible rfl|omega|(simp only[nA,nS,nD]<;>omega)|fail)only[go_sem,e0,e12,e13,e26,e27,hi',cells_of k.ga,cells_of k.gt]
  refine Upto_ev k.s hw0 hx hp0 k.sp (by omega) (by omega) _ fun r z1 r0 r1 u1 p1 q1 nn1=>?_
  have k1:=k.turn hlp0 rfl u1 p1 q1
  have u2:=(H.Sub.refl u1.wf).add (.cells .rw [.int .i64 r])
  have k2:=k1.mono u2
  have o2:=k2.sl.o 5 (by decide)
  have ov3:=(k2.sl.o 3 (by decide)).one
  have ov4:=(k2.sl.o 4 (by decide)).one
  have sn:SlAt (z1.add (.cells .rw [.int .i64 r])) (.sl z1.next 0 1 (.fix 1)) 1 [encI r]:=SlAt.new _ rfl rfl rfl (by simp[encI]) (by simp)
  have lr:(rowsM ⟨mins,ev,[],[],[]⟩ [] [] tt 5).length≤4:=by show(tt.map encI).length≤4;rw[List.length_map];omega
  simp -implicitDefEqProofs(maxSteps:=999999)(disch:=first|with_reducible rfl|omega|(simp only[nA,nS,nD]<;>omega)|fail)only[go_sem,e0,e12,e13,e26,e27,cells_of k.ga,cells_of k.gt,cells_of k1.ga,cells_of k1.gt]
  generalize z1.add (.cells .rw [.int .i64 r])=z2 at u2 k2 o2 sn⊢
  refine o2.app1 (by_:=8) (r:=encI r) hw0 rfl (by decide) sn rfl (by omega) (by omega) fun w z5 o5 n5 k5=>?_
  have ow:=o5.one
  have nb:¬blkOf (v 5) (c0+3):=fun hb=>by have:=k2.sl.lo 5 (by decide) _ hb;omega
  have g5:=k5.2 _ _ k2.gt nb
  have km:=k2.putT hw0 hlp0 rfl l00 k5 (fun b hb=>k2.sl.lo 5 (by decide) b hb) ((k2.sl.app (by decide) o5 n5 k2.nx k5).rw rows5) rfl rfl rfl
  simp -implicitDefEqProofs(maxSteps:=999999)(disch:=first|with_reducible rfl|omega|(simp only[nA,nS,nD]<;>omega)|fail)only[go_sem,e0,e12,e13,e26,e27,g5,ow,cells_one ow,wr_succ,cells_of k.ga,cells_of k1.ga,cells_of k2.ga,cells_of k.gt,cells_of k1.gt,cells_of k2.gt,cells_of g5]
  exact⟨_,_,_,tt++[r],T'+1,rfl,km,by rw[List.length_append,List.length_singleton];omega,fun t h=>(List.mem_append.1 h).elim (ht t) fun h=>by rw[List.mem_singleton] at h;subst h;omega,by omega,⟨(by simp[ev_c,ev_put,e0]<;>rfl),(by simp[ev_c,ev_put,e3]<;>rfl),(by simp[ev_c,ev_put,e4]<;>rfl),(by simp[ev_c,ev_put,e10]<;>rfl),(by simp[ev_c,ev_put,e11]<;>rfl),(by simp[ev_c,ev_put,e12]<;>rfl),(by simp[ev_c,ev_put,e13]<;>rfl)⟩,(by simp[ev_c,ev_put,e26]<;>rfl),(by simp[ev_c,ev_put]<;>rfl)⟩
 ·rintro s ⟨tm,z,v,tt,T',rfl,k,lt,ht,hT',⟨e0,e3,e4,e10,e11,e12,e13⟩,e26,e27⟩
  have hi':¬((ev:Int)<(ev:Int)):=by omega
  simp -implicitDefEqProofs(maxSteps:=999999)(disch:=first|with_reducible rfl|omega|(simp only[nA,nS,nD]<;>omega)|fail)only[go_sem,e0,e3,e4,e10,e11,e12,e13,e26,e27,hi']
  have lte:tt.length≤4:=by omega
  have rt:(tt.length:Int)=ev:=by omega
  refine Upto_ev k.s hw0 hx hp0 k.sp (by omega) (by omega) _ fun nc z1 c0' c1' u1 p1 q1 nn1=>?_
  obtain⟨nk,hnk⟩:∃nk:Nat,nc=nk:=⟨nc.toNat,by omega⟩
  subst hnk
  have k:=k.turn hlp0 rfl u1 p1 q1
  have mk:MkOk ⟨mins,ev,[],[],[]⟩ [] [] tt:=⟨by show 1≤mins∧mins≤240;omega,by show 1≤(ev:Int)∧(ev:Int)≤4;omega,Nat.zero_le _,Nat.zero_le _,Nat.zero_le _,rfl,rfl,lte,fun k c s g h=>by simp at h,fun c h=>absurd h List.not_mem_nil,ht,fun r h=>absurd h List.not_mem_nil,fun g h=>absurd h List.not_mem_nil⟩
  simp -implicitDefEqProofs(maxSteps:=999999)(disch:=first|with_reducible rfl|omega|(simp only[nA,nS,nD]<;>omega)|fail)only[go_sem,e0,e3,e4,e10,e11,e12,e13]
  refine W_count nk (fun i s=>∃tm z v a ss gg T',s=⟨tm,z,[]⟩∧Mi h0 p x (c0+4) c0 a ss gg tt T' v z∧MkOk a ss gg tt∧a.mins=mins∧a.evs=ev∧a.cks.length=i∧a.rds=[]∧a.gps=[]∧(0≤T'∧T'≤T+20+10*i)∧FT p c0 K N tm∧(Opd.t 41).ev tm=.int .i64 (nk:Int)∧(Opd.t 42).ev tm=.int .i64 (i:Int)) ?_ ?_ (i:=0) (Nat.zero_le _)
   ⟨_,_,_,_,[],[],_,rfl,k,mk,rfl,rfl,rfl,rfl,rfl,by omega,⟨(by simp[ev_c,ev_put,e0]<;>rfl),(by simp[ev_c,ev_put,e3]<;>rfl),(by simp[ev_c,ev_put,e4]<;>rfl),(by simp[ev_c,ev_put,e10]<;>rfl),(by simp[ev_c,ev_put,e11]<;>rfl),(by simp[ev_c,ev_put,e12]<;>rfl),(by simp[ev_c,ev_put,e13]<;>rfl)⟩,(by simp[ev_c,ev_put]<;>rfl),(by simp[ev_c,ev_put]<;>rfl)⟩
  ·clear mk k
   rintro i s hi ⟨tm,z,v,a,ss,gg,T',rfl,k,mk,am,ae,la,ar,ag,hT',⟨e0,e3,e4,e10,e11,e12,e13⟩,e41,e42⟩
   have hi':(i:Int)<(nk:Int):=by omega
   simp -implicitDefEqProofs(maxSteps:=999999)(disch:=first|with_reducible rfl|omega|(simp only[nA,nS,nD]<;>omega)|fail)only[go_sem,e0,e12,e13,e41,e42,hi']
   refine From_ev k.s hw0 hx hp0 k.sp (by omega) (by omega) (by omega) _ fun st za sa0 sa1 ua pa qa _=>?_
   have ka:=k.turn hlp0 rfl ua pa qa
   simp -implicitDefEqProofs(maxSteps:=999999)(disch:=first|with_reducible rfl|omega|(simp only[nA,nS,nD]<;>omega)|fail)only[go_sem,e0,e12,e13,e41,e42]
   refine From_ev ka.s hw0 hx hp0 ka.sp (by omega) (by omega) (by omega) _ fun gn zb gb0 gb1 ub pb qb _=>?_
   have kb:=ka.turn hlp0 rfl ub pb qb
   simp -implicitDefEqProofs(maxSteps:=999999)(disch:=first|with_reducible rfl|omega|(simp only[nA,nS,nD]<;>omega)|fail)only[go_sem,e0,e12,e13,e41,e42,cells_of kb.ga,cells_of kb.gt]
   refine around_ev kb.s hw0 hx hp0 kb.sp (by omega) (by omega) (by omega) (by omega) _ fun sl sh zc r1 r2 r3 r4 r5 uc pc qc=>?_
   have kc:=kb.turn hlp0 rfl uc pc qc
   simp -implicitDefEqProofs(maxSteps:=999999)(disch:=first|with_reducible rfl|omega|(simp only[nA,nS,nD]<;>omega)|fail)only[go_sem,e0,e12,e13,e41,e42,cells_of kb.ga,cells_of kb.gt,cells_of kc.ga,cells_of kc.gt]
   refine around_ev kc.s hw0 hx hp0 kc.sp (by omega) (by omega) (by omega) (by omega) _ fun gl gh zd y1 y2 y3 y4 y5 ud pd qd=>?_
   have kd:=kc.turn hlp0 rfl ud pd qd
   have ue:=(H.Sub.refl ud.wf).add (.cells .rw [.int .i64 sl,.int .i64 sh,.int .i64 gl,.int .i64 gh])
   have ke:=kd.mono ue
   have o0:=ke.sl.o 0 (by decide)
   have sn:SlAt (zd.add (.cells .rw [.int .i64 sl,.int .i64 sh,.int .i64 gl,.int .i64 gh])) (.sl zd.next 0 1 (.fix 1)) 4 [encC ⟨sl,sh,gl,gh⟩]:=SlAt.new _ rfl rfl rfl (by simp[encC]) (by simp)
   have hcl:=mk.cl
   have lr:(rowsM a ss gg tt 0).length≤2:=by show(a.cks.map encC).length≤2;rw[List.length_map];omega
   simp -implicitDefEqProofs(maxSteps:=999999)(disch:=first|with_reducible rfl|omega|(simp only[nA,nS,nD]<;>omega)|fail)only[go_sem,e0,e12,e13,e41,e42,cells_of kb.ga,cells_of kb.gt,cells_of kc.ga,cells_of kc.gt,cells_of kd.ga,cells_of kd.gt]
   generalize zd.add (.cells .rw [.int .i64 sl,.int .i64 sh,.int .i64 gl,.int .i64 gh])=ze at ue ke o0 sn⊢
   refine o0.app1 (by_:=32) (r:=encC ⟨sl,sh,gl,gh⟩) hw0 rfl (by decide) sn rfl (by omega) (by omega) fun w zf of nf kf=>?_
   have ow:=of.one
   have nb:¬blkOf (v 0) (c0+2):=fun hb=>by have:=ke.sl.lo 0 (by decide) _ hb;omega
   have nb3:¬blkOf (v 0) (c0+3):=fun hb=>by have:=ke.sl.lo 0 (by decide) _ hb;omega
   have gf:=kf.2 _ _ ke.ga nb
   have gf3:=kf.2 _ _ ke.gt nb3
   have kg:=ke.putA (a':={a with cks:=a.cks++[⟨sl,sh,gl,gh⟩]}) hw0 hlp0 rfl l00 kf (fun b hb=>ke.sl.lo 0 (by decide) b hb) ((ke.sl.app (by decide) of nf ke.nx kf).rw rows0) rfl rfl rfl rfl rfl
   simp -implicitDefEqProofs(maxSteps:=999999)(disch:=first|with_reducible rfl|omega|(simp only[nA,nS,nD]<;>omega)|fail)only[go_sem,e0,e12,e13,e41,e42,gf,ow,cells_one ow,cells_of kb.ga,cells_of kb.gt,cells_of kc.ga,cells_of kc.gt,cells_of kd.ga,cells_of kd.gt,cells_of ke.ga,cells_of gf,cells_of gf3]
   have nzg:(zf.set (c0+2) (.cells .rw [.int .i64 a.mins,.int .i64 a.evs,w,v 1,v 2])).next=zf.next:=H.next_set _ _ _
   have kg':Mi h0 p x (c0+4) c0 {a with cks:=a.cks++[⟨sl,sh,gl,gh⟩]} ss gg tt (T'+1+1+2+2) (updF v 0 w) (zf.set (c0+2) (.cells .rw [.int .i64 a.mins,.int .i64 a.evs,w,v 1,v 2])):=kg
   generalize zf.set (c0+2) (.cells .rw [.int .i64 a.mins,.int .i64 a.evs,w,v 1,v 2])=zg at kg' nzg⊢
   have uh:=(H.Sub.refl kg'.s.wf).add (.cells .rw [.int .i64 st])
   have kh:=kg'.mono uh
   have o3:OwnC h0 (zg.add (.cells .rw [.int .i64 st])) (v 3) 1 (ss.map encI):=kh.sl.o 3 (by decide)
   have lss:ss.length≤2:=by rw[mk.ls];exact hcl
   have lgg:gg.length≤2:=by rw[mk.lg];exact hcl
   have sn3:SlAt (zg.add (.cells .rw [.int .i64 st])) (.sl zf.next 0 1 (.fix 1)) 1 [encI st]:=SlAt.new _ nzg.symm rfl rfl (by simp[encI]) (by simp)
   have gg1:zg.get (c0+3)=some (.cells .rw [v 3,v 4,v 5]):=kg'.gt
   have gh1:(zg.add (.cells .rw [.int .i64 st])).get (c0+3)=some (.cells .rw [v 3,v 4,v 5]):=kh.gt
   generalize zg.add (.cells .rw [.int .i64 st])=zh at uh kh o3 sn3 gh1⊢
   refine o3.app1 (by_:=8) (r:=encI st) hw0 rfl (by decide) sn3 rfl (by rw[List.length_map];omega) (by rw[List.length_map];omega) fun w3 zi oi ni ki=>?_
   have ow3:=oi.one
   have nb4:¬blkOf (v 3) (c0+3):=fun hb=>by have:=kh.sl.lo 3 (by decide) _ hb;omega
   have gi:=ki.2 _ _ gh1 nb4
   have sl3:=(kh.sl.app (i:=3) (by decide) oi ni kh.nx ki).rw rows3
   have uj:=(H.Sub.refl oi.1.wf).add (.cells .rw [.int .i64 gn])
   have sl3j:=sl3.mono uj
   have o4:OwnC h0 (zi.add (.cells .rw [.int .i64 gn])) (v 4) 1 (gg.map encI):=sl3j.o 4 (by decide)
   have sn4:SlAt (zi.add (.cells .rw [.int .i64 gn])) (.sl zi.next 0 1 (.fix 1)) 1 [encI gn]:=SlAt.new _ rfl rfl rfl (by simp[encI]) (by simp)
   have gj:=uj.get gi
   have lj:=uj.next
   have li:=ki.1
   have lh:=kh.nx
   simp -implicitDefEqProofs(maxSteps:=999999)(disch:=first|with_reducible rfl|omega|(simp only[nA,nS,nD]<;>omega)|fail)only[go_sem,e0,e12,e13,e41,e42,cells_of gg1,cells_of gh1,cells_of gi]
   generalize zi.add (.cells .rw [.int .i64 gn])=zj at uj sl3j o4 sn4 gj lj⊢
   refine o4.app1 (by_:=8) (r:=encI gn) hw0 rfl (by decide) sn4 rfl (by rw[List.length_map];omega) (by rw[List.length_map];omega) fun w4 zk ok nk4 kk=>?_
   have ow4:=ok.one
   have ov5:=(sl3j.o 5 (by decide)).one
   have nb5:¬blkOf (v 4) (c0+3):=fun hb=>by have:=kh.sl.lo 4 (by decide) _ hb;omega
   have gk:=kk.2 _ _ gj nb5
   have sl4:=(sl3j.app (i:=4) (by decide) ok nk4 (by omega) kk).rw rows4
   have kq:Keeps (fun b=>blkOf (v 3) b∨blkOf (v 4) b) zh zk:=((ki.trans (Keeps.of uj (fun _=>False))).trans kk).mono fun b hb=>hb.elim (fun hb=>hb.elim .inl False.elim) .inr
   have km:=kh.putT hw0 hlp0 rfl l00 kq (fun b hb=>hb.elim (kh.sl.lo 3 (by decide) b) (kh.sl.lo 4 (by decide) b)) sl4 rfl rfl rfl
   simp -implicitDefEqProofs(maxSteps:=999999)(disch:=first|with_reducible rfl|omega|(simp only[nA,nS,nD]<;>omega)|fail)only[go_sem,e0,e12,e13,e41,e42,ow3,cells_one ow3,ow4,cells_one ow4,gk,cells_of gg1,cells_of gh1,cells_of gi,cells_of gj,cells_of gk,wr_succ]
   refine⟨_,_,_,_,_,_,_,rfl,km,mk.clock (by omega) ⟨r1,r2⟩ ⟨y1,y2⟩ ⟨r3,r4,r5⟩ ⟨y3,y4,y5⟩,am,ae,by simp only[List.length_append,List.length_singleton];omega,ar,ag,by omega,⟨(by simp[ev_c,ev_put,e0]<;>rfl),(by simp[ev_c,ev_put,e3]<;>rfl),(by simp[ev_c,ev_put,e4]<;>rfl),(by simp[ev_c,ev_put,e10]<;>rfl),(by simp[ev_c,ev_put,e11]<;>rfl),(by simp[ev_c,ev_put,e12]<;>rfl),(by simp[ev_c,ev_put,e13]<;>rfl)⟩,(by simp[ev_c,ev_put,e41]<;>rfl),(by simp[ev_c,ev_put]<;>rfl)⟩
  ·clear mk k
   rintro s ⟨tm,z,v,a,ss,gg,T',rfl,k,mk,am,ae,la,ar,ag,hT',⟨e0,e3,e4,e10,e11,e12,e13⟩,e41,e42⟩
   have hi':¬((nk:Int)<(nk:Int)):=by omega
   simp -implicitDefEqProofs(maxSteps:=999999)(disch:=first|with_reducible rfl|omega|(simp only[nA,nS,nD]<;>omega)|fail)only[go_sem,e0,e3,e4,e10,e11,e12,e13,e41,e42,hi']
   refine Upto_ev k.s hw0 hx hp0 k.sp (by omega) (by omega) _ fun nr z1 nr0 nr1 u1 p1 q1 nn1=>?_
   obtain⟨kr,hkr⟩:∃kr:Nat,nr=kr:=⟨nr.toNat,by omega⟩
   subst hkr
   have k:=k.turn hlp0 rfl u1 p1 q1
   simp -implicitDefEqProofs(maxSteps:=999999)(disch:=first|with_reducible rfl|omega|(simp only[nA,nS,nD]<;>omega)|fail)only[go_sem,e0,e3,e4,e10,e11,e12,e13]
   refine W_count kr (fun i s=>∃tm z v a T',s=⟨tm,z,[]⟩∧Mi h0 p x (c0+4) c0 a ss gg tt T' v z∧MkOk a ss gg tt∧a.mins=mins∧a.evs=ev∧a.rds.length≤i∧a.gps=[]∧(0≤T'∧T'≤T+100+10*i)∧FT p c0 K N tm∧(Opd.t 75).ev tm=.int .i64 (kr:Int)∧(Opd.t 76).ev tm=.int .i64 (i:Int)) ?_ ?_ (i:=0) (Nat.zero_le _)
    ⟨_,_,_,_,_,rfl,k,mk,am,ae,by rw[ar];exact Nat.zero_le _,ag,by omega,⟨(by simp[ev_c,ev_put,e0]<;>rfl),(by simp[ev_c,ev_put,e3]<;>rfl),(by simp[ev_c,ev_put,e4]<;>rfl),(by simp[ev_c,ev_put,e10]<;>rfl),(by simp[ev_c,ev_put,e11]<;>rfl),(by simp[ev_c,ev_put,e12]<;>rfl),(by simp[ev_c,ev_put,e13]<;>rfl)⟩,(by simp[ev_c,ev_put]<;>rfl),(by simp[ev_c,ev_put]<;>rfl)⟩
   ·clear mk k am ae ar ag la
    rintro i s hi ⟨tm,z,v,a,T',rfl,k,mk,am,ae,la,ag,hT',⟨e0,e3,e4,e10,e11,e12,e13⟩,e75,e76⟩
    have hi':(i:Int)<(kr:Int):=by omega
    have oC:=k.sl.o 0 (by decide)
    have hlC:q_len (v 0)=some (.int .i64 (a.cks.length:Int)):=(oC.sl (by show(a.cks.map encC).length≤_;rw[List.length_map];have:=mk.cl;omega)).lenE
    by_cases h0c:a.cks.length=0
    ·have hc':¬(0:Int)<(a.cks.length:Int):=by omega
     simp -implicitDefEqProofs(maxSteps:=999999)(disch:=first|with_reducible rfl|omega|(simp only[nA,nS,nD]<;>omega)|fail)only[go_sem,e0,e12,e13,e75,e76,hi',cells_of k.ga,hlC,hc',wr_succ]
     exact⟨_,_,_,_,_,rfl,k,mk,am,ae,by omega,ag,by omega,⟨(by simp[ev_c,ev_put,e0]<;>rfl),(by simp[ev_c,ev_put,e3]<;>rfl),(by simp[ev_c,ev_put,e4]<;>rfl),(by simp[ev_c,ev_put,e10]<;>rfl),(by simp[ev_c,ev_put,e11]<;>rfl),(by simp[ev_c,ev_put,e12]<;>rfl),(by simp[ev_c,ev_put,e13]<;>rfl)⟩,(by simp[ev_c,ev_put,e75]<;>rfl),(by simp[ev_c,ev_put]<;>rfl)⟩
    have hc':(0:Int)<(a.cks.length:Int):=by omega
    have hcl:=mk.cl
    have wc:wr .i64 ((a.cks.length:Int)-1)=(a.cks.length:Int)-1:=wr_in (by omega) (by omega)
    have we:wr .i64 (a.evs-1)=a.evs-1:=wr_in (by omega) (by omega)
    simp -implicitDefEqProofs(maxSteps:=999999)(disch:=first|with_reducible rfl|omega|(simp only[nA,nS,nD]<;>omega)|fail)only[go_sem,e0,e12,e13,e75,e76,hi',cells_of k.ga,hlC,hc',wc]
    refine Upto_ev k.s hw0 hx hp0 k.sp (by omega) (by omega) _ fun ik za ia0 ia1 ua pa qa _=>?_
    have ka:=k.turn hlp0 rfl ua pa qa
    simp -implicitDefEqProofs(maxSteps:=999999)(disch:=first|with_reducible rfl|omega|(simp only[nA,nS,nD]<;>omega)|fail)only[go_sem,e0,e12,e13,e75,e76,cells_of k.ga,cells_of ka.ga,we]
    refine Upto_ev ka.s hw0 hx hp0 ka.sp (by omega) (by omega) _ fun ie zb ib0 ib1 ub pb qb _=>?_
    have kb:=ka.turn hlp0 rfl ub pb qb
    obtain⟨jk,hjk⟩:∃jk:Nat,ik=jk:=⟨ik.toNat,by omega⟩
    obtain⟨je,hje⟩:∃je:Nat,ie=je:=⟨ie.toNat,by omega⟩
    subst hjk;subst hje
    have lss:=mk.ls
    have lgg:=mk.lg
    have hjs:jk<ss.length:=by omega
    have hjg:jk<gg.length:=by omega
    have hjt:je<tt.length:=by omega
    have uc:=(H.Sub.refl ub.wf).add (.cells .rw [.int .i64 (jk:Int),.int .i64 (je:Int),.int .i64 0])
    have kc:=kb.mono uc
    have g16:(zb.add (.cells .rw [.int .i64 (jk:Int),.int .i64 (je:Int),.int .i64 0])).get zb.next=some (.cells .rw [.int .i64 (jk:Int),.int .i64 (je:Int),.int .i64 0]):=get_add_new rfl
    have nzc:=H.next_add zb (.cells .rw [.int .i64 (jk:Int),.int .i64 (je:Int),.int .i64 0])
    obtain⟨zc,hzc⟩:∃zc,zb.add (.cells .rw [.int .i64 (jk:Int),.int .i64 (je:Int),.int .i64 0])=zc:=⟨_,rfl⟩
    rw[hzc] at uc kc g16 nzc
    have xs:SlAt zc (v 3) 1 (ss.map encI):=(kc.sl.o 3 (by decide)).sl (by show(ss.map encI).length≤_;rw[List.length_map];omega)
    have xg:SlAt zc (v 4) 1 (gg.map encI):=(kc.sl.o 4 (by decide)).sl (by show(gg.map encI).length≤_;rw[List.length_map];omega)
    have xt:SlAt zc (v 5) 1 (tt.map encI):=(kc.sl.o 5 (by decide)).sl (by show(tt.map encI).length≤_;rw[List.length_map];omega)
    obtain⟨bs3,os3,cs3,rs3,es3,hs3,qs3,_,_,ns3⟩:=xs.at hjs
    obtain⟨bs4,os4,cs4,rs4,es4,hs4,qs4,_,_,ns4⟩:=xg.at hjg
    obtain⟨bs5,os5,cs5,rs5,es5,hs5,qs5,_,_,ns5⟩:=xt.at hjt
    have v3:=ns3 (by decide)
    have v4:=ns4 (by decide)
    have v5:=ns5 (by decide)
    simp only[encI,List.getElem?_cons_zero] at v3 v4 v5
    have i3:ss[jk]? =some ss[jk]:=List.getElem?_eq_getElem hjs
    have i4:gg[jk]? =some gg[jk]:=List.getElem?_eq_getElem hjg
    have i5:tt[je]? =some tt[je]:=List.getElem?_eq_getElem hjt
    have hrun:=mk.run i3 i4
    have htm:=mk.tm _ (List.getElem_mem hjt)
    generalize ss[jk]=sv at v3 i3 hrun
    generalize gg[jk]=gv at v4 i4 hrun
    generalize tt[je]=tv at v5 i5 htm
    simp -implicitDefEqProofs(maxSteps:=999999)(disch:=first|with_reducible rfl|omega|(simp only[nA,nS,nD]<;>omega)|fail)only[go_sem,e0,e12,e13,e75,e76,cells_of k.ga,cells_of ka.ga,cells_of kb.ga,hzc,cells_of kc.gt,cells_of g16,qs3 (nat_cst jk),qs4 (nat_cst jk),qs5 (nat_cst je),hs3,hs4,hs5,v3,v4,v5]
    refine lshows_ev kc.s.wf hrun htm.1 (by omega) _ ?_
    subst hzc
    have ud:=(H.Sub.refl ub.wf).add (.cells .rw [.int .i64 (jk:Int),.int .i64 (je:Int),.int .i64 (shw sv gv tv)])
    have kd:=kb.mono ud
    have gd16:(zb.add (.cells .rw [.int .i64 (jk:Int),.int .i64 (je:Int),.int .i64 (shw sv gv tv)])).get zb.next=some (.cells .rw [.int .i64 (jk:Int),.int .i64 (je:Int),.int .i64 (shw sv gv tv)]):=get_add_new rfl
    have nzd:=H.next_add zb (.cells .rw [.int .i64 (jk:Int),.int .i64 (je:Int),.int .i64 (shw sv gv tv)])
    simp -implicitDefEqProofs(maxSteps:=999999)(disch:=first|with_reducible rfl|omega|(simp only[nA,nS,nD]<;>omega)|fail)only[go_sem,e0,e12,e13,e75,e76,cells_of kc.gt,cells_of g16,g16,qs3 (nat_cst jk),qs4 (nat_cst jk),qs5 (nat_cst je),hs3,hs4,hs5,v3,v4,v5,cells_of kd.ga,cells_of gd16]
    generalize zb.add (.cells .rw [.int .i64 (jk:Int),.int .i64 (je:Int),.int .i64 (shw sv gv tv)])=zd at ud kd gd16 nzd⊢
    have ue:=(H.Sub.refl ud.wf).add (.cells .rw [.int .i64 (jk:Int),.int .i64 (je:Int),.int .i64 (shw sv gv tv)])
    have ke:=kd.mono ue
    have o1:=ke.sl.o 1 (by decide)
    have sn:SlAt (zd.add (.cells .rw [.int .i64 (jk:Int),.int .i64 (je:Int),.int .i64 (shw sv gv tv)])) (.sl zd.next 0 1 (.fix 1)) 3 [encR ⟨jk,je,shw sv gv tv⟩]:=SlAt.new _ rfl rfl rfl (by simp[encR]) (by simp)
    rw[nzd] at sn
    have hrl:=mk.rl
    have lr:(rowsM a ss gg tt 1).length≤6:=by show(a.rds.map encR).length≤6;rw[List.length_map];omega
    skip
    generalize zd.add (.cells .rw [.int .i64 (jk:Int),.int .i64 (je:Int),.int .i64 (shw sv gv tv)])=ze at ue ke o1 sn⊢
    refine o1.app1 (by_:=24) (r:=encR ⟨jk,je,shw sv gv tv⟩) hw0 rfl (by decide) sn rfl (by omega) (by omega) fun w zf of nf kf=>?_
    have ow:=of.one
    have nb:¬blkOf (v 1) (c0+2):=fun hb=>by have:=ke.sl.lo 1 (by decide) _ hb;omega
    have gf:=kf.2 _ _ ke.ga nb
    have kg:=ke.putA (a':={a with rds:=a.rds++[⟨jk,je,shw sv gv tv⟩]}) hw0 hlp0 rfl l00 kf (fun b hb=>ke.sl.lo 1 (by decide) b hb) ((ke.sl.app (by decide) of nf ke.nx kf).rw rows1) rfl rfl rfl rfl rfl
    simp -implicitDefEqProofs(maxSteps:=999999)(disch:=first|with_reducible rfl|omega|(simp only[nA,nS,nD]<;>omega)|fail)only[go_sem,e0,e12,e13,e75,e76,gf,ow,cells_one ow,cells_of kd.ga,cells_of ke.ga,wr_succ]
    exact⟨_,_,_,_,_,rfl,kg,mk.read (by omega) i3 i4 i5,am,ae,by simp only[List.length_append,List.length_singleton];omega,ag,by omega,⟨(by simp[ev_c,ev_put,e0]<;>rfl),(by simp[ev_c,ev_put,e3]<;>rfl),(by simp[ev_c,ev_put,e4]<;>rfl),(by simp[ev_c,ev_put,e10]<;>rfl),(by simp[ev_c,ev_put,e11]<;>rfl),(by simp[ev_c,ev_put,e12]<;>rfl),(by simp[ev_c,ev_put,e13]<;>rfl)⟩,(by simp[ev_c,ev_put,e75]<;>rfl),(by simp[ev_c,ev_put]<;>rfl)⟩
   ·clear mk k am ae ar ag la
    rintro s ⟨tm,z,v,a,T',rfl,k,mk,am,ae,la,ag,hT',⟨e0,e3,e4,e10,e11,e12,e13⟩,e75,e76⟩
    have hi':¬((kr:Int)<(kr:Int)):=by omega
    simp -implicitDefEqProofs(maxSteps:=999999)(disch:=first|with_reducible rfl|omega|(simp only[nA,nS,nD]<;>omega)|fail)only[go_sem,e0,e3,e4,e10,e11,e12,e13,e75,e76,hi']
    refine Upto_ev k.s hw0 hx hp0 k.sp (by omega) (by omega) _ fun nr z1 ng0 ng1 u1 p1 q1 nn1=>?_
    obtain⟨kn,hkn⟩:∃kn:Nat,nr=kn:=⟨nr.toNat,by omega⟩
    subst hkn
    have k:=k.turn hlp0 rfl u1 p1 q1
    simp -implicitDefEqProofs(maxSteps:=999999)(disch:=first|with_reducible rfl|omega|(simp only[nA,nS,nD]<;>omega)|fail)only[go_sem,e0,e3,e4,e10,e11,e12,e13]
    refine W_count kn (fun i s=>∃tm z v a T',s=⟨tm,z,[]⟩∧Mi h0 p x (c0+4) c0 a ss gg tt T' v z∧MkOk a ss gg tt∧a.mins=mins∧a.evs=ev∧a.gps.length=i∧(0≤T'∧T'≤T+1000+10*i)∧FT p c0 K N tm∧(Opd.t 122).ev tm=.int .i64 (kn:Int)∧(Opd.t 123).ev tm=.int .i64 (i:Int)) ?_ ?_ (i:=0) (Nat.zero_le _)
     ⟨_,_,_,_,_,rfl,k,mk,am,ae,by rw[ag];rfl,by omega,⟨(by simp[ev_c,ev_put,e0]<;>rfl),(by simp[ev_c,ev_put,e3]<;>rfl),(by simp[ev_c,ev_put,e4]<;>rfl),(by simp[ev_c,ev_put,e10]<;>rfl),(by simp[ev_c,ev_put,e11]<;>rfl),(by simp[ev_c,ev_put,e12]<;>rfl),(by simp[ev_c,ev_put,e13]<;>rfl)⟩,(by simp[ev_c,ev_put]<;>rfl),(by simp[ev_c,ev_put]<;>rfl)⟩
    ·clear mk k am ae ag la
     rintro i s hi ⟨tm,z,v,a,T',rfl,k,mk,am,ae,la,hT',⟨e0,e3,e4,e10,e11,e12,e13⟩,e122,e123⟩
     have hi':(i:Int)<(kn:Int):=by omega
     have we:wr .i64 (a.evs-1)=a.evs-1:=wr_in (by omega) (by omega)
     simp -implicitDefEqProofs(maxSteps:=999999)(disch:=first|with_reducible rfl|omega|(simp only[nA,nS,nD]<;>omega)|fail)only[go_sem,e0,e12,e13,e122,e123,hi',cells_of k.ga,we]
     refine Upto_ev k.s hw0 hx hp0 k.sp (by omega) (by omega) _ fun ik za ia0 ia1 ua pa qa _=>?_
     have ka:=k.turn hlp0 rfl ua pa qa
     simp -implicitDefEqProofs(maxSteps:=999999)(disch:=first|with_reducible rfl|omega|(simp only[nA,nS,nD]<;>omega)|fail)only[go_sem,e0,e12,e13,e122,e123,cells_of k.ga,cells_of ka.ga,we]
     refine Upto_ev ka.s hw0 hx hp0 ka.sp (by omega) (by omega) _ fun ie zb ib0 ib1 ub pb qb _=>?_
     have kb:=ka.turn hlp0 rfl ub pb qb
     obtain⟨jk,hjk⟩:∃jk:Nat,ik=jk:=⟨ik.toNat,by omega⟩
     obtain⟨je,hje⟩:∃je:Nat,ie=je:=⟨ie.toNat,by omega⟩
     subst hjk;subst hje
     have hjk:jk<tt.length:=by omega
     have hjt:je<tt.length:=by omega
     have uc:=(H.Sub.refl ub.wf).add (.cells .rw [.int .i64 (jk:Int),.int .i64 (je:Int),.int .i64 0,.int .i64 0])
     have kc:=kb.mono uc
     have g17:(zb.add (.cells .rw [.int .i64 (jk:Int),.int .i64 (je:Int),.int .i64 0,.int .i64 0])).get zb.next=some (.cells .rw [.int .i64 (jk:Int),.int .i64 (je:Int),.int .i64 0,.int .i64 0]):=get_add_new rfl
     have nzc:=H.next_add zb (.cells .rw [.int .i64 (jk:Int),.int .i64 (je:Int),.int .i64 0,.int .i64 0])
     obtain⟨zc,hzc⟩:∃zc,zb.add (.cells .rw [.int .i64 (jk:Int),.int .i64 (je:Int),.int .i64 0,.int .i64 0])=zc:=⟨_,rfl⟩
     rw[hzc] at uc kc g17 nzc
     have xt:SlAt zc (v 5) 1 (tt.map encI):=(kc.sl.o 5 (by decide)).sl (by show(tt.map encI).length≤_;rw[List.length_map];omega)
     obtain⟨bs4,os4,cs4,rs4,es4,hs4,qs4,_,_,ns4⟩:=xt.at hjk
     obtain⟨bs5,os5,cs5,rs5,es5,hs5,qs5,_,_,ns5⟩:=xt.at hjt
     have v4:=ns4 (by decide)
     have v5:=ns5 (by decide)
     simp only[encI,List.getElem?_cons_zero] at v4 v5
     have i4:tt[jk]? =some tt[jk]:=List.getElem?_eq_getElem hjk
     have i5:tt[je]? =some tt[je]:=List.getElem?_eq_getElem hjt
     have htm:=mk.tm _ (List.getElem_mem hjt)
     have htk:=mk.tm _ (List.getElem_mem hjk)
     generalize tt[jk]=kv at v4 i4 htk
     generalize tt[je]=tv at v5 i5 htm
     have wd:wr .i64 (tv-kv)=tv-kv:=wr_in (by omega) (by omega)
     simp -implicitDefEqProofs(maxSteps:=999999)(disch:=first|with_reducible rfl|omega|(simp only[nA,nS,nD]<;>omega)|fail)only[go_sem,e0,e12,e13,e122,e123,cells_of k.ga,cells_of ka.ga,cells_of kb.ga,hzc,cells_of kc.gt,cells_of g17,qs4 (nat_cst jk),qs5 (nat_cst je),hs4,hs5,v4,v5,wd]
     refine around_ev kc.s hw0 hx hp0 kc.sp (by omega) (by omega) (by omega) (by omega) _ fun lo hi zd r1 r2 r3 r4 r5 ud pd qd=>?_
     have kd:=kc.turn hlp0 rfl ud pd qd
     have lkb:=kb.nx
     have g17d:=qd.2 _ _ g17 (by omega)
     have lzd:=qd.1
     have qe:=Keeps.set zd zb.next (.cells .rw [.int .i64 (jk:Int),.int .i64 (je:Int),.int .i64 lo,.int .i64 hi])
     have ue:h0.Sub (zd.set zb.next (.cells .rw [.int .i64 (jk:Int),.int .i64 (je:Int),.int .i64 lo,.int .i64 hi])):=ud.set (by have:=ub.next;omega) (by omega) hw0 _
     have ke:=kd.side hlp0 rfl lkb (fun i hi b hb e=>by have:=((kb.sl.o i hi).blk hb).2.1;omega) ue qe
     have ge17:(zd.set zb.next (.cells .rw [.int .i64 (jk:Int),.int .i64 (je:Int),.int .i64 lo,.int .i64 hi])).get zb.next=some (.cells .rw [.int .i64 (jk:Int),.int .i64 (je:Int),.int .i64 lo,.int .i64 hi]):=get_set_same rfl
     have hs5d:=hs5;have hs4d:=hs4
     simp -implicitDefEqProofs(maxSteps:=999999)(disch:=first|with_reducible rfl|omega|(simp only[nA,nS,nD]<;>omega)|fail)only[go_sem,e0,e12,e13,e122,e123,cells_of kc.gt,cells_of kd.gt,cells_of g17,cells_of g17d,g17d,qs4 (nat_cst jk),qs5 (nat_cst je),hs4,hs5,v4,v5,cells_of ke.ga,cells_of ge17]
     have nze:(zd.set zb.next (.cells .rw [.int .i64 (jk:Int),.int .i64 (je:Int),.int .i64 lo,.int .i64 hi])).next=zd.next:=H.next_set _ _ _
     generalize zd.set zb.next (.cells .rw [.int .i64 (jk:Int),.int .i64 (je:Int),.int .i64 lo,.int .i64 hi])=ze at ue ke ge17 nze⊢
     have uf:=(H.Sub.refl ue.wf).add (.cells .rw [.int .i64 (jk:Int),.int .i64 (je:Int),.int .i64 lo,.int .i64 hi])
     have kf':=ke.mono uf
     have o2:=kf'.sl.o 2 (by decide)
     have sn:SlAt (ze.add (.cells .rw [.int .i64 (jk:Int),.int .i64 (je:Int),.int .i64 lo,.int .i64 hi])) (.sl zd.next 0 1 (.fix 1)) 4 [encG ⟨jk,je,lo,hi⟩]:=SlAt.new _ nze.symm rfl rfl (by simp[encG]) (by simp)
     have hgl:=mk.gl
     have lr:(rowsM a ss gg tt 2).length≤2:=by show(a.gps.map encG).length≤2;rw[List.length_map];omega
     generalize ze.add (.cells .rw [.int .i64 (jk:Int),.int .i64 (je:Int),.int .i64 lo,.int .i64 hi])=zf at uf kf' o2 sn⊢
     refine o2.app1 (by_:=32) (r:=encG ⟨jk,je,lo,hi⟩) hw0 rfl (by decide) sn rfl (by omega) (by omega) fun w zg og ng kg=>?_
     have ow:=og.one
     have nb:¬blkOf (v 2) (c0+2):=fun hb=>by have:=kf'.sl.lo 2 (by decide) _ hb;omega
     have gg:=kg.2 _ _ kf'.ga nb
     have km:=kf'.putA (a':={a with gps:=a.gps++[⟨jk,je,lo,hi⟩]}) hw0 hlp0 rfl l00 kg (fun b hb=>kf'.sl.lo 2 (by decide) b hb) ((kf'.sl.app (by decide) og ng kf'.nx kg).rw rows2) rfl rfl rfl rfl rfl
     simp -implicitDefEqProofs(maxSteps:=999999)(disch:=first|with_reducible rfl|omega|(simp only[nA,nS,nD]<;>omega)|fail)only[go_sem,e0,e12,e13,e122,e123,gg,ow,cells_one ow,wr_succ]
     exact⟨_,_,_,_,_,rfl,km,mk.gap (by omega) i4 i5 ⟨r1,r2⟩ ⟨r3,r4⟩,am,ae,by simp only[List.length_append,List.length_singleton];omega,by omega,⟨(by simp[ev_c,ev_put,e0]<;>rfl),(by simp[ev_c,ev_put,e3]<;>rfl),(by simp[ev_c,ev_put,e4]<;>rfl),(by simp[ev_c,ev_put,e10]<;>rfl),(by simp[ev_c,ev_put,e11]<;>rfl),(by simp[ev_c,ev_put,e12]<;>rfl),(by simp[ev_c,ev_put,e13]<;>rfl)⟩,(by simp[ev_c,ev_put,e122]<;>rfl),(by simp[ev_c,ev_put]<;>rfl)⟩
    ·rintro s ⟨tm,z,v,a,T',rfl,k,mk,am,ae,la,hT',⟨e0,e3,e4,e10,e11,e12,e13⟩,e122,e123⟩
     have hi':¬((kn:Int)<(kn:Int)):=by omega
     have oo:=fun i (hi:i<6)=>(k.sl.o i hi).one
     have y0:=oo 0 (by decide);have y1:=oo 1 (by decide);have y2:=oo 2 (by decide);have y3:=oo 3 (by decide);have y4:=oo 4 (by decide);have y5:=oo 5 (by decide)
     have lz:=k.nx
     simp -implicitDefEqProofs(maxSteps:=999999)(disch:=first|with_reducible rfl|omega|(simp only[nA,nS,nD]<;>omega)|fail)only[go_sem,e0,e3,e4,e10,e11,e12,e13,e122,e123,hi',cells_of k.ga,cells_of k.gt,k.g0,k.g1,y0,y1,y2,y3,y4,y5]
     have s7:h0.Sub ((z.set c0 (.cells .rw [.int .i64 a.mins,.int .i64 a.evs,v 0,v 1,v 2])).set (c0+1) (.cells .rw [v 3,v 4,v 5])):=(k.s.set l00 (by omega) hw0 _).set (by omega) (by rw[H.next_set];omega) hw0 _
     have kz:=(Keeps.set z c0 (.cells .rw [.int .i64 a.mins,.int .i64 a.evs,v 0,v 1,v 2])).trans (Keeps.set (z.set c0 (.cells .rw [.int .i64 a.mins,.int .i64 a.evs,v 0,v 1,v 2])) (c0+1) (.cells .rw [v 3,v 4,v 5]))
     have sl:=k.sl.keep kz s7 fun b hb=>by rcases hb with hb|hb<;>omega
     have q1:=mk.cl;have q2:=mk.rl;have q3:=mk.gl;have q4:=mk.ls;have q5:=mk.lg
     have w:∀i,i<6→(rowsM a ss gg tt i).length≤6→SlAt _ (v i) (sz6 i) (rowsM a ss gg tt i):=fun i hi hl=>(sl.o i hi).sl (by omega)
     exact q _ T' a ss gg tt _ _ _ _ _ _ ⟨s7,k.sp.keep kz (by omega),⟨w 0 (by decide) (by show(a.cks.map encC).length≤6;rw[List.length_map];omega),w 1 (by decide) (by show(a.rds.map encR).length≤6;rw[List.length_map];omega),w 2 (by decide) (by show(a.gps.map encG).length≤6;rw[List.length_map];omega)⟩,
      w 3 (by decide) (by show(ss.map encI).length≤6;rw[List.length_map];omega),w 4 (by decide) (by show(gg.map encI).length≤6;rw[List.length_map];omega),w 5 (by decide) (by show(tt.map encI).length≤6;rw[List.length_map];omega),mk,by omega⟩ ⟨sl.o 1 (by decide),fun b hb=>by have:=sl.lo 1 (by decide) b hb;omega,fun b hb=>⟨fun hc=>sl.dj 1 0 (by decide) (by decide) (by decide) b hb hc,fun hc=>sl.dj 1 2 (by decide) (by decide) (by decide) b hb hc,fun hc=>sl.dj 1 3 (by decide) (by decide) (by decide) b hb hc,fun hc=>sl.dj 1 4 (by decide) (by decide) (by decide) b hb hc,fun hc=>sl.dj 1 5 (by decide) (by decide) (by decide) b hb hc⟩⟩
end Go.Ab.Tryz
namespace Go.Ab.Tryz
open Go.Proofs
theorem errT_ok {a:At}(r:Right a)(hne:allC a≠[]):errT a false=0:=by
 unfold errT;rw[if_neg (by rw[checkA_iff.2 r];simp),if_neg (by simp),if_neg hne]
end Go.Ab.Tryz
namespace Go.Ab.Tryz
open Go.Proofs
def latY (L:List Int)(f b:Nat):Int:=mg L f b-mg L f 4
theorem lat_tru {a:At}(r:Right a){cnt:Nat→Bool}{t:Runs × List Int}(ht:t∈casesL a cnt){f:Nat}(hf:f<5):Tru a cnt t.1 (latY t.2 f):=by
 obtain⟨tri,_,_,hs⟩:=cases_sound r ht
 refine(hs _ (by simp[latY])).1 fun c d hc hd=>?_
 have:=tri.tri f d c hf hd hc
 unfold latY;omega
def ckFit (c:Ck)(x:Int × Int):Bool:=inB x.1 c.sl c.sh&&inB x.2 c.gl c.gh
def rdFit (ss gg tt:List Int)(r:Rd):Bool:=decide (shw (ss.getD r.ck.toNat 0) (gg.getD r.ck.toNat 0) (tt.getD r.ev.toNat 0)=r.sh)
def gpFit (tt:List Int)(g:Gp):Bool:=inB (tt.getD g.to.toNat 0-tt.getD g.fr.toNat 0) g.lo g.hi
def lenFit (a:At)(ss gg tt:List Int):Bool:=decide (ss.length=a.cks.length)&&(decide (gg.length=a.cks.length)&&decide ((tt.length:Int)=a.evs))
def cksFit (a:At)(ss gg:List Int):Bool:=(a.cks.zip (ss.zip gg)).all fun x=>ckFit x.1 x.2
def timFit (a:At)(tt:List Int):Bool:=tt.all fun t=>inB t 0 a.mins
def fitB (a:At)(ss gg tt:List Int):Bool:=lenFit a ss gg tt&&(timFit a tt&&(cksFit a ss gg&&(a.rds.all (rdFit ss gg tt)&&a.gps.all (gpFit tt))))
theorem lenFit_iff {a:At}{ss gg tt:List Int}:lenFit a ss gg tt=true↔ss.length=a.cks.length∧gg.length=a.cks.length∧(tt.length:Int)=a.evs:=by
 simp only[lenFit,Bool.and_eq_true,decide_eq_true_eq]
theorem getD_at {l:List Int}{i:Nat}(h:i<l.length):l.getD i 0=l[i]:=by rw[List.getD_eq_getElem?_getD,List.getElem?_eq_getElem h];rfl
theorem Right.rdn {a:At}(r:Right a){x:Rd}(hx:x∈a.rds):∃i e:Nat,x.ck=i∧x.ev=e∧i<a.cks.length∧(e:Int)<a.evs∧e<4:=by
 have h:=r.ro x hx
 have he:=r.evs
 simp only[At.rdOk,At.ckB,At.evB,Bool.and_eq_true,inB_iff] at h
 exact⟨x.ck.toNat,x.ev.toNat,by omega,by omega,by omega,by omega,by omega⟩
theorem Right.gpn {a:At}(r:Right a){x:Gp}(hx:x∈a.gps):∃i e:Nat,x.fr=i∧x.to=e∧(i:Int)<a.evs∧(e:Int)<a.evs∧i<4∧e<4:=by
 have h:=r.go x hx
 have he:=r.evs
 simp only[At.gpOk,At.evB,Bool.and_eq_true,inB_iff] at h
 exact⟨x.fr.toNat,x.to.toNat,by omega,by omega,by omega,by omega,by omega,by omega⟩
theorem zip_get {ss gg:List Int}{i:Nat}{s:Int × Int}:(ss.zip gg)[i]? =some s↔ss[i]? =some s.1∧gg[i]? =some s.2:=List.getElem?_zip_eq_some
theorem fitB_iff {a:At}(r:Right a){ss gg tt:List Int}:fitB a ss gg tt=true↔(ss.length=a.cks.length∧gg.length=a.cks.length∧(tt.length:Int)=a.evs)∧Tru a (fun _=>true) (ss.zip gg) (timeF tt):=by
 have he:=r.evs
 have hm:=r.mins
 simp only[fitB,Bool.and_eq_true,lenFit_iff,timFit,cksFit,List.all_eq_true]
 refine and_congr_right fun⟨l1,l2,l3⟩=>⟨fun⟨h1,h2,h3,h4⟩=>?_,fun t=>⟨fun n hn=>?_,fun x hx=>?_,fun x hx=>?_,fun x hx=>?_⟩⟩
 ·refine⟨by rw[List.length_zip,l1,l2,Nat.min_self],fun k s hs=>?_,?_,fun e _=>?_,fun g hg=>?_,fun j x hx _ s hs=>?_⟩
  ·obtain⟨q1,q2⟩:=zip_get.1 hs
   have hk:=getl q1
   have hc:a.cks[k]? =some a.cks[k]:=List.getElem?_eq_getElem (by omega)
   have:=h2 (a.cks[k],s) (List.mem_of_getElem? (i:=k) (List.getElem?_zip_eq_some.2 ⟨hc,hs⟩))
   simp only[ckFit,Bool.and_eq_true,inB_iff] at this
   exact RunOf.mk' hc this.1.1 this.1.2 this.2.1 this.2.2
  ·unfold timeF
   rw[List.getD_eq_getElem?_getD,List.getElem?_eq_none (by omega)];rfl
  ·unfold timeF
   rw[List.getD_eq_getElem?_getD]
   cases h:tt[e]? with
   |none=>exact⟨Int.le_refl _,by show(0:Int)≤_;omega⟩
   |some t=>exact(inB_iff ..).1 (h1 t (List.mem_of_getElem? h))
  ·have:=h4 g hg
   simp only[gpFit,inB_iff] at this
   exact this
  ·obtain⟨q1,q2⟩:=zip_get.1 hs
   have:=h3 x (List.mem_of_getElem? hx)
   simp only[rdFit,decide_eq_true_eq] at this
   rw[List.getD_eq_getElem?_getD,List.getD_eq_getElem?_getD,q1,q2] at this
   exact this
 ·obtain⟨i,hi,rfl⟩:=List.mem_iff_getElem.1 hn
  have:=t.mins i (by omega)
  rw[inB_iff]
  rwa[timeF_at (List.getElem?_eq_getElem hi)] at this
 ·obtain⟨i,hi⟩:=List.mem_iff_getElem?.1 hx
  obtain⟨q1,q2⟩:=List.getElem?_zip_eq_some.1 hi
  obtain⟨⟨c,hc,h1,h2,h3,h4⟩⟩:=t.run i _ q2
  rw[q1] at hc;cases hc
  simp only[ckFit,Bool.and_eq_true,inB_iff]
  exact⟨⟨h1,h2⟩,h3,h4⟩
 ·obtain⟨j,hj⟩:=List.mem_iff_getElem?.1 hx
  obtain⟨i,e,ei,ee,hi,_,_⟩:=r.rdn hx
  have hs:(ss.zip gg)[x.ck.toNat]? =some (ss.getD x.ck.toNat 0,gg.getD x.ck.toNat 0):=by
   rw[ei,Int.toNat_natCast,zip_get,getD_at (by omega),getD_at (by omega)]
   exact⟨List.getElem?_eq_getElem (by omega),List.getElem?_eq_getElem (by omega)⟩
  simp only[rdFit,decide_eq_true_eq]
  exact t.rds j x hj rfl _ hs
 ·simp only[gpFit,inB_iff]
  exact t.gaps x hx
theorem Tru.cut {a:At}(r:Right a){cnt:Nat→Bool}{runs:Runs}{y:Nat→Int}(t:Tru a cnt runs y):Tru a cnt runs (timeF ((List.range a.evs.toNat).map y)):=by
 have he:=r.evs
 have hm:=r.mins
 have key:∀e:Nat,(e:Int)<a.evs→timeF ((List.range a.evs.toNat).map y) e=y e:=fun e h=>timeF_at (by rw[List.getElem?_map,List.getElem?_range (by omega)];rfl)
 have key2:∀e:Nat,a.evs≤(e:Int)→timeF ((List.range a.evs.toNat).map y) e=0:=fun e h=>by
  unfold timeF
  rw[List.getD_eq_getElem?_getD,List.getElem?_eq_none (by rw[List.length_map,List.length_range];omega)];rfl
 refine⟨t.len,t.run,key2 4 (by omega),fun e h=>?_,fun g hg=>?_,fun j x hx hc s hs=>?_⟩
 ·rcases(by omega:(e:Int)<a.evs∨a.evs≤(e:Int)) with h1|h1
  ·rw[key e h1];exact t.mins e h
  ·rw[key2 e h1];omega
 ·obtain⟨i,e,e1,e2,h1,h2,_,_⟩:=r.gpn hg
  have:=t.gaps g hg
  rw[e1,e2,Int.toNat_natCast,Int.toNat_natCast] at this⊢
  rw[key i h1,key e h2];exact this
 ·obtain⟨i,e,e1,e2,_,h2,_⟩:=r.rdn (List.mem_of_getElem? hx)
  have:=t.rds j x hx hc s hs
  rw[e2,Int.toNat_natCast] at this⊢
  rw[key e h2];exact this
end Go.Ab.Tryz
namespace Go.Ab.Tryz
open Go.Proofs
abbrev TruA (a:At) (runs:Runs) (y:Nat→Int):Prop:=Tru a (fun _=>true) runs y
theorem noC {a:At}(r:Right a):allC a=[]↔∀runs y,¬TruA a runs y:=by
 constructor
 ·intro h runs y t
  obtain⟨L,hL⟩:=cases_full r t
  have:(runs,L)∈allC a:=hL
  rw[h] at this;cases this
 ·intro h
  cases hc:allC a with
  |nil=>rfl
  |cons t l=>
   have ht:t∈casesL a (fun _=>true):=by show t∈allC a;rw[hc];exact List.mem_cons_self ..
   exact absurd (lat_tru r ht (f:=4) (by omega)) (h _ _)
def At.addG (a:At)(g:Gp):At:={a with gps:=a.gps++[g]}
end Go.Ab.Tryz
namespace Go.Ab
def dd {α:Type}[DecidableEq α](l:List α):Nat→List α
 |0=>[]
 |n+1=>match l[n]? with
  |none=>dd l n
  |some x=>if 0<n∧l[n-1]? =some x then dd l n else dd l n++[x]
section
variable {α:Type} [DecidableEq α] {l:List α}
theorem dd_same {n:Nat}{x:α}(h:l[n]? =some x)(h2:0<n∧l[n-1]? =some x):dd l (n+1)=dd l n:=by simp only[dd,h];rw[if_pos h2]
theorem dd_new {n:Nat}{x:α}(h:l[n]? =some x)(h2:¬(0<n∧l[n-1]? =some x)):dd l (n+1)=dd l n++[x]:=by simp only[dd,h];rw[if_neg h2]
theorem dd_mem {x:α}:∀{n:Nat},x∈dd l n↔∃i,i<n∧l[i]? =some x
 |0=>by simp[dd]
 |n+1=>by
  have ih:=dd_mem (x:=x) (n:=n)
  cases h:l[n]? with
  |none=>
   simp only[dd,h]
   rw[ih]
   constructor
   ·rintro⟨i,hi,e⟩;exact⟨i,by omega,e⟩
   ·rintro⟨i,hi,e⟩
    by_cases hn:i=n
    ·subst hn;rw[h] at e;cases e
    ·exact⟨i,by omega,e⟩
  |some z=>
   by_cases h2:0<n∧l[n-1]? =some z
   ·rw[dd_same h h2,ih]
    constructor
    ·rintro⟨i,hi,e⟩;exact⟨i,by omega,e⟩
    ·rintro⟨i,hi,e⟩
     by_cases hn:i=n
     ·subst hn;rw[h] at e;cases e;exact⟨i-1,by omega,h2.2⟩
     ·exact⟨i,by omega,e⟩
   ·rw[dd_new h h2,List.mem_append,List.mem_singleton,ih]
    constructor
    ·rintro(⟨i,hi,e⟩|rfl)
     ·exact⟨i,by omega,e⟩
     ·exact⟨n,by omega,h⟩
    ·rintro⟨i,hi,e⟩
     by_cases hn:i=n
     ·subst hn;rw[h] at e;cases e;exact .inr rfl
     ·exact .inl ⟨i,by omega,e⟩
theorem dd_all {x:α}:x∈dd l l.length↔x∈l:=by
 rw[dd_mem,List.mem_iff_getElem?]
 constructor
 ·rintro⟨i,_,e⟩;exact⟨i,e⟩
 ·rintro⟨i,e⟩
  refine⟨i,?_,e⟩
  rcases Nat.lt_or_ge i l.length with q|q
  ·exact q
  ·rw[List.getElem?_eq_none q] at e;cases e
end
def risL (l:List Int):List Int:=dd (sortI l) (sortI l).length
theorem risL_mem {l:List Int}{x:Int}:x∈risL l↔x∈l:=by unfold risL;rw[dd_all];exact(sortI_perm l).mem_iff
namespace Tryz
open Go.Proofs
end Tryz
end Go.Ab
namespace Go.Ab.Tryz
open Go.Proofs
structure TrAt (h:H)(S G T:V)(ss gg tt:List Int):Prop where
 s:SlAt h S 1 (ss.map encI)
 g:SlAt h G 1 (gg.map encI)
 t:SlAt h T 1 (tt.map encI)
theorem TrAt.mono {h h':H}{S G T:V}{ss gg tt:List Int}(x:TrAt h S G T ss gg tt)(s:h.Sub h'):TrAt h' S G T ss gg tt:=⟨x.s.mono s,x.g.mono s,x.t.mono s⟩
theorem ckFit_no {c:Ck}{s g:Int}:ckFit c (s,g)=false↔s<c.sl∨c.sh<s∨g<c.gl∨c.gh<g:=by
 rw[←Bool.not_eq_true]
 simp only[ckFit,Bool.and_eq_true,inB_iff]
 omega
theorem cksFit_of {a:At}{ss gg:List Int}(h:∀(j:Nat) c s g,a.cks[j]? =some c→ss[j]? =some s→gg[j]? =some g→ckFit c (s,g)=true):cksFit a ss gg=true:=by
 refine List.all_eq_true.2 fun x hx=>?_
 obtain⟨i,hi⟩:=List.mem_iff_getElem?.1 hx
 obtain⟨q1,q2⟩:=List.getElem?_zip_eq_some.1 hi
 obtain⟨q3,q4⟩:=zip_get.1 q2
 exact h i _ _ _ q1 q3 q4
theorem cksFit_at {a:At}{ss gg:List Int}(h:cksFit a ss gg=true){j:Nat}{c:Ck}{s g:Int}(q1:a.cks[j]? =some c)(q2:ss[j]? =some s)(q3:gg[j]? =some g):ckFit c (s,g)=true:=
 List.all_eq_true.1 h (c,(s,g)) (List.mem_of_getElem? (i:=j) (List.getElem?_zip_eq_some.2 ⟨q1,zip_get.2 ⟨q2,q3⟩⟩))
theorem fitB_parts {a:At}{ss gg tt:List Int}:fitB a ss gg tt=true↔lenFit a ss gg tt=true∧timFit a tt=true∧cksFit a ss gg=true∧a.rds.all (rdFit ss gg tt)=true∧a.gps.all (gpFit tt)=true:=by
 simp only[fitB,Bool.and_eq_true]
theorem ckFit_run {a:At}(r:Right a){c:Ck}(hc:c∈a.cks){s g:Int}(h:ckFit c (s,g)=true):RunIn s g:=by
 have:=r.cb c hc
 simp only[Ck.bd,within,Bool.and_eq_true,inB_iff] at this
 simp only[ckFit,Bool.and_eq_true,inB_iff] at h
 exact⟨by omega,by omega,by omega,by omega⟩
theorem lfits1_ev {h:H}(hw:h.wf){S Ga Tm:V}{ss gg tt:List Int}(t:TrAt h S Ga Tm ss gg tt)(hb:∀t∈tt,0≤t∧t≤240){b:Nat}(gb:h.cells b=some [S,Ga,Tm]){g:Gp}{i e:Nat}(e1:g.fr=i)(e2:g.to=e)(l1:i<tt.length)(l2:e<tt.length):
  E (.fn 137 [] [.ptr b 0]) [.agg (encG g)] h fun u h'=>u=.bool (!gpFit tt g)∧h.Sub h':=by
 refine Ev_body (fd:=c137) rfl rfl rfl ?_
 have lb:b<h.next:=(H.cells_eq gb).elim fun kd e=>hw _ _ e
 have s1:h.Sub (h.add (.cells .rw (encG g))):=(by repeat(first|assumption|exact H.Sub.refl (by assumption)|refine H.Sub.add ?_ _|refine H.Sub.set ?_ (by first|omega|(simp only[H.next_add,H.next_set,H.next_del]<;>omega)) (by first|omega|(simp only[H.next_add,H.next_set,H.next_del]<;>omega)) (by assumption) _))
 obtain⟨b1,o1,c1,cs1,ef1,hc1,hq1,_,_,n1⟩:=t.t.at l1
 obtain⟨b2,o2,c2',cs2,ef2,hc2,hq2,_,_,n2⟩:=t.t.at l2
 have v1:=n1 (by decide)
 have v2:=n2 (by decide)
 simp only[encI,List.getElem?_cons_zero] at v1 v2
 have q1:=hb _ (List.getElem_mem l1)
 have q2:=hb _ (List.getElem_mem l2)
 have lb1:b1<h.next:=(H.cells_eq hc1).elim fun kd e=>hw _ _ e
 have lb2:b2<h.next:=(H.cells_eq hc2).elim fun kd e=>hw _ _ e
 have hgp:gpFit tt g=inB (tt[e]-tt[i]) g.lo g.hi:=by
  unfold gpFit
  rw[e1,e2,Int.toNat_natCast,Int.toNat_natCast,getD_at l1,getD_at l2]
 rw[hgp]
 generalize tt[i]=y1 at v1 q1⊢
 generalize tt[e]=y2 at v2 q2⊢
 have w:wr .i64 (y2-y1)=y2-y1:=wr_in (by omega) (by omega)
 by_cases k1:y2-y1<g.lo
 ·have eB:inB (y2-y1) g.lo g.hi=false:=by rw[←Bool.not_eq_true,inB_iff];omega
  simp -implicitDefEqProofs(maxSteps:=999999)(disch:=first|with_reducible rfl|omega|(simp only[nA,nS,nD]<;>omega)|fail)only[c137,go_sem,encG,gb,e1,e2,hq1 (nat_cst i),hq2 (nat_cst e),hc1,hc2,v1,v2,w,k1]
  rw[eB]
  exact⟨rfl,(by repeat(first|assumption|exact H.Sub.refl (by assumption)|refine H.Sub.add ?_ _|refine H.Sub.set ?_ (by first|omega|(simp only[H.next_add,H.next_set,H.next_del]<;>omega)) (by first|omega|(simp only[H.next_add,H.next_set,H.next_del]<;>omega)) (by assumption) _))⟩
 ·have eB:(!inB (y2-y1) g.lo g.hi)=decide (g.hi<y2-y1):=by rw[Bool.eq_iff_iff];simp[inB]<;>omega
  rw[eB]
  simp -implicitDefEqProofs(maxSteps:=999999)(disch:=first|with_reducible rfl|omega|(simp only[nA,nS,nD]<;>omega)|fail)only[c137,go_sem,encG,gb,e1,e2,hq1 (nat_cst i),hq2 (nat_cst e),hc1,hc2,v1,v2,w,k1]
  exact(by repeat(first|assumption|exact H.Sub.refl (by assumption)|refine H.Sub.add ?_ _|refine H.Sub.set ?_ (by first|omega|(simp only[H.next_add,H.next_set,H.next_del]<;>omega)) (by first|omega|(simp only[H.next_add,H.next_set,H.next_del]<;>omega)) (by assumption) _))
set_option maxHeartbeats 4000000 in
theorem lfits_ev {h:H}(hw:h.wf){a:At}{C R G:V}(x:AtAt h C R G a)(r:Right a){S Ga Tm:V}{ss gg tt:List Int}(t:TrAt h S Ga Tm ss gg tt)(Q:V→H→Prop)(q:∀h',h.Sub h'→Q (.bool (fitB a ss gg tt)) h'):
  Ev fnG fastA (.fn 50 [] []) [.agg (atV a C R G),.agg [S,Ga,Tm]] h Q:=by
 have oC:=x.c.one;have oR:=x.r.one;have oG:=x.g.one
 have oS:=t.s.one;have oGa:=t.g.one;have oTm:=t.t.one
 have hlC:=x.c.lenE;have hlR:=x.r.lenE;have hlG:=x.g.lenE
 have hlS:=t.s.lenE;have hlGa:=t.g.lenE;have hlT:=t.t.lenE
 have rl:=r.lens
 have re:=r.evs
 have rm:=r.mins
 refine Ev_body (fd:=c50) rfl rfl rfl ?_
 obtain⟨z,hz⟩:∃z,(h.add (.cells .rw (atV a C R G))).add (.cells .rw [S,Ga,Tm])=z:=⟨_,rfl⟩
 have sz:h.Sub z:=by rw[←hz];exact(by repeat(first|assumption|exact H.Sub.refl (by assumption)|refine H.Sub.add ?_ _|refine H.Sub.set ?_ (by first|omega|(simp only[H.next_add,H.next_set,H.next_del]<;>omega)) (by first|omega|(simp only[H.next_add,H.next_set,H.next_del]<;>omega)) (by assumption) _))
 have ga:z.get h.next=some (.cells .rw (atV a C R G)):=by rw[←hz];simp -implicitDefEqProofs(maxSteps:=999999)(disch:=first|with_reducible rfl|omega|(simp only[nA,nS,nD]<;>omega)|fail)only[go_sem]
 have gt:z.get (h.next+1)=some (.cells .rw [S,Ga,Tm]):=by rw[←hz];simp -implicitDefEqProofs(maxSteps:=999999)(disch:=first|with_reducible rfl|omega|(simp only[nA,nS,nD]<;>omega)|fail)only[go_sem]
 have no:fitB a ss gg tt=false→∀z',z.Sub z'→Q (.bool false) z':=fun e z' s=>by have:=q z' (sz.trans s);rwa[e] at this
 have sz0:=H.Sub.refl sz.wf
 obtain⟨b1,hb1⟩:∃b,decide ((ss.length:Int)≠(a.cks.length:Int))=b:=⟨_,rfl⟩
 obtain⟨b2,hb2⟩:∃b,decide ((gg.length:Int)≠(a.cks.length:Int))=b:=⟨_,rfl⟩
 obtain⟨b3,hb3⟩:∃b,decide ((tt.length:Int)≠a.evs)=b:=⟨_,rfl⟩
 by_cases hl:lenFit a ss gg tt=true
 case neg=>
  have hf:fitB a ss gg tt=false:=by cases hh:fitB a ss gg tt;rfl;exact absurd (fitB_parts.1 hh).1 hl
  have hor:b1=true∨b2=true∨b3=true:=by
   rw[lenFit_iff] at hl
   rw[←hb1,←hb2,←hb3]
   simp only[decide_eq_true_eq]
   omega
  cases b1<;>cases b2<;>cases b3
  all_goals try(exfalso;revert hor;decide)
  all_goals
   simp -implicitDefEqProofs(maxSteps:=999999)(disch:=first|with_reducible rfl|omega|(simp only[nA,nS,nD]<;>omega)|fail)only[c50,go_sem,oS,oGa,oTm,oC,oR,oG,hlC,hlS,hlGa,hlT,hb1,hb2,hb3]
   rw[hz]
   exact no hf _ sz0
 obtain⟨l1,l2,l3⟩:=lenFit_iff.1 hl
 have e1:b1=false:=by rw[←hb1];simp;omega
 have e2:b2=false:=by rw[←hb2];simp;omega
 have e3:b3=false:=by rw[←hb3];simp;omega
 subst e1 e2 e3
 simp -implicitDefEqProofs(maxSteps:=999999)(disch:=first|with_reducible rfl|omega|(simp only[nA,nS,nD]<;>omega)|fail)only[c50,go_sem,oS,oGa,oTm,oC,oR,oG,hlC,hlS,hlGa,hlT,hb1,hb2,hb3]
 rw[hz]
 clear hz
 refine W_count a.cks.length (fun i s=>∃tm z',s=⟨tm,z',[]⟩∧z.Sub z'∧(∀(j:Nat) c s g,j<i→a.cks[j]? =some c→ss[j]? =some s→gg[j]? =some g→ckFit c (s,g)=true)∧
   (Opd.t 2).ev tm=.ptr h.next 0∧(Opd.t 3).ev tm=.ptr (h.next+1) 0∧(Opd.t 36).ev tm=C∧(Opd.t 37).ev tm=.int .i64 (a.cks.length:Int)∧(Opd.t 38).ev tm=.int .i64 (i:Int)) ?_ ?_ (i:=0) (Nat.zero_le _)
  ⟨_,_,rfl,sz0,fun j _ _ _ hj=>absurd hj (Nat.not_lt_zero _),(by simp[ev_c,ev_put]<;>rfl),(by simp[ev_c,ev_put]<;>rfl),(by simp[ev_c,ev_put]<;>rfl),(by simp[ev_c,ev_put]<;>rfl),(by simp[ev_c,ev_put]<;>rfl)⟩
 ·rintro i s hi ⟨tm,z',rfl,s',hok,t2,t3,t36,t37,t38⟩
  have hi':(i:Int)<(a.cks.length:Int):=by omega
  have hsz:=sz.trans s'
  obtain⟨b,o,cc,cs,eC,hc,hq,hg,_,_⟩:=(x.c.mono hsz).at hi
  have his:i<ss.length:=by omega
  have hig:i<gg.length:=by omega
  obtain⟨b1,o1,cc1,cs1,eS,hc1,hq1,_,_,n1⟩:=(t.s.mono hsz).at his
  obtain⟨b2,o2,cc2,cs2,eG,hc2,hq2,_,_,n2⟩:=(t.g.mono hsz).at hig
  have v1:=n1 (by decide)
  have v2:=n2 (by decide)
  simp only[encI,List.getElem?_cons_zero] at v1 v2
  have ka:a.cks[i]? =some a.cks[i]:=List.getElem?_eq_getElem hi
  have ks:ss[i]? =some ss[i]:=List.getElem?_eq_getElem his
  have kg:gg[i]? =some gg[i]:=List.getElem?_eq_getElem hig
  generalize a.cks[i]=c at hg ka
  generalize ss[i]=y1 at v1 ks
  generalize gg[i]=y2 at v2 kg
  simp only[encC] at hg
  have hwz:=hsz.wf
  have lb1:b1<z'.next:=(H.cells_eq hc1).elim fun kd e=>hwz _ _ e
  have lb2:b2<z'.next:=(H.cells_eq hc2).elim fun kd e=>hwz _ _ e
  have ga':=s'.get ga
  have gt':=s'.get gt
  have lt':=hwz _ _ gt'
  have bad:ckFit c (y1,y2)=false→∀z2,z'.Sub z2→Q (.bool false) z2:=fun e z2 s2=>no (by
   cases hh:fitB a ss gg tt
   ·rfl
   ·have:=cksFit_at (fitB_parts.1 hh).2.2.1 ka ks kg
    rw[e] at this;cases this) _ (s'.trans s2)
  have sz':=H.Sub.refl hwz
  by_cases k1:y1<c.sl
  ·simp -implicitDefEqProofs(maxSteps:=999999)(disch:=first|with_reducible rfl|omega|(simp only[nA,nS,nD]<;>omega)|fail)only[go_sem,t2,t3,t36,t37,t38,hi',hq (nat_cst i),hc,hg,cells_of gt',hq1 (nat_cst i),hc1,v1,k1]
   exact bad (ckFit_no.2 (.inl k1)) _ (by repeat(first|assumption|exact H.Sub.refl (by assumption)|refine H.Sub.add ?_ _|refine H.Sub.set ?_ (by first|omega|(simp only[H.next_add,H.next_set,H.next_del]<;>omega)) (by first|omega|(simp only[H.next_add,H.next_set,H.next_del]<;>omega)) (by assumption) _))
  by_cases k2:c.sh<y1
  ·simp -implicitDefEqProofs(maxSteps:=999999)(disch:=first|with_reducible rfl|omega|(simp only[nA,nS,nD]<;>omega)|fail)only[go_sem,t2,t3,t36,t37,t38,hi',hq (nat_cst i),hc,hg,cells_of gt',hq1 (nat_cst i),hc1,v1,k1,k2]
   exact bad (ckFit_no.2 (.inr (.inl k2))) _ (by repeat(first|assumption|exact H.Sub.refl (by assumption)|refine H.Sub.add ?_ _|refine H.Sub.set ?_ (by first|omega|(simp only[H.next_add,H.next_set,H.next_del]<;>omega)) (by first|omega|(simp only[H.next_add,H.next_set,H.next_del]<;>omega)) (by assumption) _))
  by_cases k3:y2<c.gl
  ·simp -implicitDefEqProofs(maxSteps:=999999)(disch:=first|with_reducible rfl|omega|(simp only[nA,nS,nD]<;>omega)|fail)only[go_sem,t2,t3,t36,t37,t38,hi',hq (nat_cst i),hc,hg,cells_of gt',hq1 (nat_cst i),hc1,v1,hq2 (nat_cst i),hc2,v2,k1,k2,k3]
   exact bad (ckFit_no.2 (.inr (.inr (.inl k3)))) _ (by repeat(first|assumption|exact H.Sub.refl (by assumption)|refine H.Sub.add ?_ _|refine H.Sub.set ?_ (by first|omega|(simp only[H.next_add,H.next_set,H.next_del]<;>omega)) (by first|omega|(simp only[H.next_add,H.next_set,H.next_del]<;>omega)) (by assumption) _))
  by_cases k4:c.gh<y2
  ·simp -implicitDefEqProofs(maxSteps:=999999)(disch:=first|with_reducible rfl|omega|(simp only[nA,nS,nD]<;>omega)|fail)only[go_sem,t2,t3,t36,t37,t38,hi',hq (nat_cst i),hc,hg,cells_of gt',hq1 (nat_cst i),hc1,v1,hq2 (nat_cst i),hc2,v2,k1,k2,k3,k4]
   exact bad (ckFit_no.2 (.inr (.inr (.inr k4)))) _ (by repeat(first|assumption|exact H.Sub.refl (by assumption)|refine H.Sub.add ?_ _|refine H.Sub.set ?_ (by first|omega|(simp only[H.next_add,H.next_set,H.next_del]<;>omega)) (by first|omega|(simp only[H.next_add,H.next_set,H.next_del]<;>omega)) (by assumption) _))
  ·simp -implicitDefEqProofs(maxSteps:=999999)(disch:=first|with_reducible rfl|omega|(simp only[nA,nS,nD]<;>omega)|fail)only[go_sem,t2,t3,t36,t37,t38,hi',hq (nat_cst i),hc,hg,cells_of gt',hq1 (nat_cst i),hc1,v1,hq2 (nat_cst i),hc2,v2,k1,k2,k3,k4,wr_succ]
   refine⟨_,_,rfl,s'.trans (by repeat(first|assumption|exact H.Sub.refl (by assumption)|refine H.Sub.add ?_ _|refine H.Sub.set ?_ (by first|omega|(simp only[H.next_add,H.next_set,H.next_del]<;>omega)) (by first|omega|(simp only[H.next_add,H.next_set,H.next_del]<;>omega)) (by assumption) _)),fun j c' s' g' hj q1 q2 q3=>?_,(by simp[ev_c,ev_put,t2]<;>rfl),(by simp[ev_c,ev_put,t3]<;>rfl),(by simp[ev_c,ev_put,t36]<;>rfl),(by simp[ev_c,ev_put,t37]<;>rfl),(by simp[ev_c,ev_put]<;>rfl)⟩
   by_cases e:j=i
   ·subst e
    rw[ka] at q1;rw[ks] at q2;rw[kg] at q3
    cases q1;cases q2;cases q3
    cases hh:ckFit c (y1,y2)
    ·have:=ckFit_no.1 hh;omega
    ·rfl
   ·exact hok j c' s' g' (by omega) q1 q2 q3
 rintro s ⟨tm,z',rfl,s',hok,t2,t3,t36,t37,t38⟩
 have hcks:cksFit a ss gg=true:=cksFit_of fun j c s g q1 q2 q3=>hok j c s g (getl q1) q1 q2 q3
 have gt':=s'.get gt
 simp -implicitDefEqProofs(maxSteps:=999999)(disch:=first|with_reducible rfl|omega|(simp only[nA,nS,nD]<;>omega)|fail)only[go_sem,t2,t3,t36,t37,t38,Int.lt_irrefl,cells_of gt',hlT]
 refine W_count tt.length (fun i s=>∃tm z',s=⟨tm,z',[]⟩∧z.Sub z'∧(∀(j:Nat) y,j<i→tt[j]? =some y→inB y 0 a.mins=true)∧
   (Opd.t 2).ev tm=.ptr h.next 0∧(Opd.t 3).ev tm=.ptr (h.next+1) 0∧(Opd.t 87).ev tm=Tm∧(Opd.t 88).ev tm=.int .i64 (tt.length:Int)∧(Opd.t 89).ev tm=.int .i64 (i:Int)) ?_ ?_ (i:=0) (Nat.zero_le _)
  ⟨_,_,rfl,s',fun j _ hj=>absurd hj (Nat.not_lt_zero _),(by simp[ev_c,ev_put,t2]<;>rfl),(by simp[ev_c,ev_put,t3]<;>rfl),(by simp[ev_c,ev_put]<;>rfl),(by simp[ev_c,ev_put]<;>rfl),(by simp[ev_c,ev_put]<;>rfl)⟩
 ·clear t2 t3 t36 t37 t38 gt'
  rintro i s hi ⟨tm,z',rfl,s',hok,t2,t3,t87,t88,t89⟩
  have hi':(i:Int)<(tt.length:Int):=by omega
  have hsz:=sz.trans s'
  obtain⟨b,o,cc,cs,eC,hc,hq,hg,_,n0⟩:=(t.t.mono hsz).at hi
  have v0:=n0 (by decide)
  simp only[encI,List.getElem?_cons_zero] at v0
  have ka:tt[i]? =some tt[i]:=List.getElem?_eq_getElem hi
  generalize tt[i]=y at v0 ka
  have ga':=s'.get ga
  have bad:inB y 0 a.mins=false→Q (.bool false) z':=fun e=>no (by
   cases hh:fitB a ss gg tt
   ·rfl
   ·have:=List.all_eq_true.1 (fitB_parts.1 hh).2.1 y (List.mem_of_getElem? ka)
    rw[e] at this;cases this) _ s'
  by_cases k1:y<0
  ·simp -implicitDefEqProofs(maxSteps:=999999)(disch:=first|with_reducible rfl|omega|(simp only[nA,nS,nD]<;>omega)|fail)only[go_sem,t2,t3,t87,t88,t89,hi',hq (nat_cst i),hc,v0,k1]
   exact bad (by rw[←Bool.not_eq_true,inB_iff];omega)
  by_cases k2:a.mins<y
  ·simp -implicitDefEqProofs(maxSteps:=999999)(disch:=first|with_reducible rfl|omega|(simp only[nA,nS,nD]<;>omega)|fail)only[go_sem,t2,t3,t87,t88,t89,hi',hq (nat_cst i),hc,v0,k1,k2,cells_of ga']
   exact bad (by rw[←Bool.not_eq_true,inB_iff];omega)
  ·simp -implicitDefEqProofs(maxSteps:=999999)(disch:=first|with_reducible rfl|omega|(simp only[nA,nS,nD]<;>omega)|fail)only[go_sem,t2,t3,t87,t88,t89,hi',hq (nat_cst i),hc,v0,k1,k2,cells_of ga',wr_succ]
   refine⟨_,_,rfl,s',fun j y' hj q1=>?_,(by simp[ev_c,ev_put,t2]<;>rfl),(by simp[ev_c,ev_put,t3]<;>rfl),(by simp[ev_c,ev_put,t87]<;>rfl),(by simp[ev_c,ev_put,t88]<;>rfl),(by simp[ev_c,ev_put]<;>rfl)⟩
   by_cases e:j=i
   ·subst e
    rw[ka] at q1;cases q1
    rw[inB_iff];omega
   ·exact hok j y' (by omega) q1
 clear t2 t3 t36 t37 t38 gt' s' hok z' tm
 rintro s ⟨tm,z',rfl,s',hok,t2,t3,t87,t88,t89⟩
 have htim:timFit a tt=true:=List.all_eq_true.2 fun y hy=>by
  obtain⟨j,hj⟩:=List.mem_iff_getElem?.1 hy
  exact hok j y (getl hj) hj
 have hbt:∀y∈tt,0≤y∧y≤240:=fun y hy=>by
  have:=(inB_iff ..).1 (List.all_eq_true.1 htim y hy);omega
 have ga':=s'.get ga
 simp -implicitDefEqProofs(maxSteps:=999999)(disch:=first|with_reducible rfl|omega|(simp only[nA,nS,nD]<;>omega)|fail)only[go_sem,t2,t3,t87,t88,t89,Int.lt_irrefl,cells_of ga',hlR]
 refine W_count a.rds.length (fun i s=>∃tm z',s=⟨tm,z',[]⟩∧z.Sub z'∧(∀(j:Nat) y,j<i→a.rds[j]? =some y→rdFit ss gg tt y=true)∧
   (Opd.t 2).ev tm=.ptr h.next 0∧(Opd.t 3).ev tm=.ptr (h.next+1) 0∧(Opd.t 103).ev tm=R∧(Opd.t 104).ev tm=.int .i64 (a.rds.length:Int)∧(Opd.t 105).ev tm=.int .i64 (i:Int)) ?_ ?_ (i:=0) (Nat.zero_le _)
  ⟨_,_,rfl,s',fun j _ hj=>absurd hj (Nat.not_lt_zero _),(by simp[ev_c,ev_put,t2]<;>rfl),(by simp[ev_c,ev_put,t3]<;>rfl),(by simp[ev_c,ev_put]<;>rfl),(by simp[ev_c,ev_put]<;>rfl),(by simp[ev_c,ev_put]<;>rfl)⟩
 ·clear t2 t3 t87 t88 t89 ga' s' hok z' tm
  rintro i s hi ⟨tm,z',rfl,s',hok,t2,t3,t103,t104,t105⟩
  have hi':(i:Int)<(a.rds.length:Int):=by omega
  have hsz:=sz.trans s'
  obtain⟨b,o,cc,cs,eC,hc,hq,hg,_,n0⟩:=(x.r.mono hsz).at hi
  have ka:a.rds[i]? =some a.rds[i]:=List.getElem?_eq_getElem hi
  generalize a.rds[i]=y at hg ka
  obtain⟨k,e,ek,ee,hk,he,he4⟩:=r.rdn (List.mem_of_getElem? ka)
  have hks:k<ss.length:=by omega
  have hkg:k<gg.length:=by omega
  have hkt:e<tt.length:=by omega
  obtain⟨b1,o1,cc1,cs1,eS,hc1,hq1,_,_,n1⟩:=(t.s.mono hsz).at hks
  obtain⟨b2,o2,cc2,cs2,eG,hc2,hq2,_,_,n2⟩:=(t.g.mono hsz).at hkg
  obtain⟨b3,o3,cc3,cs3,eT,hc3,hq3,_,_,n3⟩:=(t.t.mono hsz).at hkt
  have v1:=n1 (by decide)
  have v2:=n2 (by decide)
  have v3:=n3 (by decide)
  simp only[encI,List.getElem?_cons_zero] at v1 v2 v3
  have hf:rdFit ss gg tt y=decide (shw ss[k] gg[k] tt[e]=y.sh):=by
   unfold rdFit
   rw[ek,ee,Int.toNat_natCast,Int.toNat_natCast,getD_at hks,getD_at hkg,getD_at hkt]
  have hrun:RunIn ss[k] gg[k]:=ckFit_run r (List.getElem_mem hk) (cksFit_at hcks (List.getElem?_eq_getElem hk) (List.getElem?_eq_getElem hks) (List.getElem?_eq_getElem hkg))
  have hti:=hbt _ (List.getElem_mem hkt)
  generalize ss[k]=y1 at v1 hf hrun
  generalize gg[k]=y2 at v2 hf hrun
  generalize tt[e]=y3 at v3 hf hti
  simp only[encR,ek,ee] at hg
  have hwz:=hsz.wf
  have lb1:b1<z'.next:=(H.cells_eq hc1).elim fun kd e=>hwz _ _ e
  have lb2:b2<z'.next:=(H.cells_eq hc2).elim fun kd e=>hwz _ _ e
  have lb3:b3<z'.next:=(H.cells_eq hc3).elim fun kd e=>hwz _ _ e
  have gt':=s'.get gt
  have lt':=hwz _ _ gt'
  have sz':=H.Sub.refl hwz
  simp -implicitDefEqProofs(maxSteps:=999999)(disch:=first|with_reducible rfl|omega|(simp only[nA,nS,nD]<;>omega)|fail)only[go_sem,t2,t3,t103,t104,t105,hi',hq (nat_cst i),hc,hg,cells_of gt',hq1 (nat_cst k),hq2 (nat_cst k),hq3 (nat_cst e),hc1,hc2,hc3,v1,v2,v3]
  refine lshows_ev (by exact((by repeat(first|assumption|exact H.Sub.refl (by assumption)|refine H.Sub.add ?_ _|refine H.Sub.set ?_ (by first|omega|(simp only[H.next_add,H.next_set,H.next_del]<;>omega)) (by first|omega|(simp only[H.next_add,H.next_set,H.next_del]<;>omega)) (by assumption) _)):z'.Sub _).wf) hrun hti.1 hti.2 _ ?_
  by_cases k1:shw y1 y2 y3=y.sh
  ·rw[decide_eq_true k1] at hf
   simp -implicitDefEqProofs(maxSteps:=999999)(disch:=first|with_reducible rfl|omega|(simp only[nA,nS,nD]<;>omega)|fail)only[go_sem,t2,t3,t103,t104,t105,k1,ne_eq,not_true_eq_false,wr_succ,cells_of gt',hc1,hc2,hc3,v1,v2,v3]
   refine⟨_,_,rfl,s'.trans (by repeat(first|assumption|exact H.Sub.refl (by assumption)|refine H.Sub.add ?_ _|refine H.Sub.set ?_ (by first|omega|(simp only[H.next_add,H.next_set,H.next_del]<;>omega)) (by first|omega|(simp only[H.next_add,H.next_set,H.next_del]<;>omega)) (by assumption) _)),fun j y' hj q1=>?_,(by simp[ev_c,ev_put,t2]<;>rfl),(by simp[ev_c,ev_put,t3]<;>rfl),(by simp[ev_c,ev_put,t103]<;>rfl),(by simp[ev_c,ev_put,t104]<;>rfl),(by simp[ev_c,ev_put]<;>rfl)⟩
   by_cases e:j=i
   ·subst e
    rw[ka] at q1;cases q1;exact hf
   ·exact hok j y' (by omega) q1
  ·rw[decide_eq_false k1] at hf
   simp -implicitDefEqProofs(maxSteps:=999999)(disch:=first|with_reducible rfl|omega|(simp only[nA,nS,nD]<;>omega)|fail)only[go_sem,t2,t3,t103,t104,t105,k1,ne_eq,not_false_eq_true,cells_of gt',hc1,hc2,hc3,v1,v2,v3]
   refine no ?_ _ (s'.trans (by repeat(first|assumption|exact H.Sub.refl (by assumption)|refine H.Sub.add ?_ _|refine H.Sub.set ?_ (by first|omega|(simp only[H.next_add,H.next_set,H.next_del]<;>omega)) (by first|omega|(simp only[H.next_add,H.next_set,H.next_del]<;>omega)) (by assumption) _)))
   cases hh:fitB a ss gg tt
   ·rfl
   ·have:=List.all_eq_true.1 (fitB_parts.1 hh).2.2.2.1 y (List.mem_of_getElem? ka)
    rw[hf] at this;cases this
 clear t2 t3 t87 t88 t89 ga' s' hok z' tm
 rintro s ⟨tm,z',rfl,s',hok,t2,t3,t103,t104,t105⟩
 have hrds:a.rds.all (rdFit ss gg tt)=true:=List.all_eq_true.2 fun y hy=>by
  obtain⟨j,hj⟩:=List.mem_iff_getElem?.1 hy
  exact hok j y (getl hj) hj
 have hsz:=sz.trans s'
 have ga':=s'.get ga
 simp -implicitDefEqProofs(maxSteps:=999999)(disch:=first|with_reducible rfl|omega|(simp only[nA,nS,nD]<;>omega)|fail)only[go_sem,t2,t3,t103,t104,t105,Int.lt_irrefl,cells_of ga',hlR]
 refine(containsFuncGp_ev (p:=fun g=> !gpFit tt g) hsz.wf (x.g.mono hsz) fun g hg h2 s2=>?_).mono fun u h' hu=>?_
 ·obtain⟨i,e,e1,e2,l1',l2',_,_⟩:=r.gpn hg
  exact lfits1_ev s2.wf (t.mono (hsz.trans s2)) hbt (cells_of (s2.get (s'.get gt))) e1 e2 (by omega) (by omega)
 ·obtain⟨rfl,s2⟩:=hu
  simp -implicitDefEqProofs(maxSteps:=999999)(disch:=first|with_reducible rfl|omega|(simp only[nA,nS,nD]<;>omega)|fail)only[go_sem]
  have:=q h' (hsz.trans s2)
  have e:fitB a ss gg tt= !(a.gps.any fun g=> !gpFit tt g):=by
   unfold fitB
   rw[hl,htim,hcks,hrds,any_not];simp
  rwa[e] at this
end Go.Ab.Tryz
namespace Go.Ab.Tryz
open Go.Proofs
theorem allOne_flat {α:Type}{enc:α→List V}(h:∀a,allOne (enc a)=true)(l:List α):allOne (l.map enc).flatten=true:=by
 rw[allOne_eq]
 intro v hv
 obtain⟨r,hr,hvr⟩:=List.mem_flatten.1 hv
 obtain⟨a,_,rfl⟩:=List.mem_map.1 hr
 exact allOne_eq.1 (h a) v hvr
end Go.Ab.Tryz
namespace Go.Ab.Tryz
open Go.Proofs
end Go.Ab.Tryz
namespace Go.Ab.Tryz
open Go.Proofs
theorem take_at {α:Type}{l:List α}{i:Nat}(hi:i<l.length):l.take (i+1)=l.take i++[l[i]]:=List.take_succ_eq_append_getElem hi
end Go.Ab.Tryz
namespace Go.Ab.Tryz
open Go.Proofs
end Go.Ab.Tryz
namespace Go.Ab.Tryz
open Go.Proofs
def lg2 (lo hi m:Int):Bool:=within lo hi m&&decide (4<hi-lo)
def Ck.lg (c:Ck):Bool:=lg2 c.sl c.sh 60||lg2 c.gl c.gh 30
structure RC (h:H)(a:At)(C R G:V)(tm:T V)(z:H)(b3 b4 b5 b6:Bool):Prop where
 s:h.Sub z
 g1:z.get h.next=some (.cells .rw (atV a C R G))
 t1:(Opd.t 1).ev tm=.ptr h.next 0
 t3:(Opd.t 3).ev tm=.bool b3
 t4:(Opd.t 4).ev tm=.bool b4
 t5:(Opd.t 5).ev tm=.bool b5
 t6:(Opd.t 6).ev tm=.bool b6
theorem RC.sub {h:H}{a:At}{C R G:V}{tm:Go.Ab.T V}{z z':H}{b3 b4 b5 b6:Bool}(k:RC h a C R G tm z b3 b4 b5 b6)(s:z.Sub z'):h.Sub z'∧z'.get h.next=some (.cells .rw (atV a C R G)):=⟨k.s.trans s,s.get k.g1⟩
end Go.Ab.Tryz
namespace Go.Ab
end Go.Ab
namespace Go.Ab.Tryz
open Go.Proofs
variable {h0 h1 h h':H} {C R G:V} {a:At}
def At.none:At:=⟨0,0,[],[],[]⟩
end Go.Ab.Tryz
namespace Go.Ab.Tryz
open Go.Proofs
end Go.Ab.Tryz
namespace Go.Ab.Tryz
open Go.Proofs
theorem indexFuncInt_ev {l:List Int}{p:Int→Bool}{h:H}{x f:V}(hw:h.wf)(hx:SlAt h x 1 (l.map encI))(hp:∀a∈l,PureA h f [.int .i64 a] (.bool (p a))):
  E (.fn 143 [] []) [x,f] h fun v h'=>v=.int .i64 (fidx p l 0)∧h.Sub h':=by
 have hb:=hx.boundE
 refine Ev_body (fd:=c143) rfl rfl rfl ?_
 simp -implicitDefEqProofs(maxSteps:=999999)(disch:=first|with_reducible rfl|omega|(simp only[nA,nS,nD]<;>omega)|fail)only[c143,go_sem,hx.lenE]
 refine W_count l.length (fun i s=>∃tm h',s=⟨tm,h',[]⟩∧h.Sub h'∧(Opd.t 0).ev tm=x∧(Opd.t 1).ev tm=f∧(Opd.t 7).ev tm=.int .i64 (l.length:Int)∧(Opd.t 8).ev tm=.int .i64 (i:Int)∧fidx p l 0=fidx p (l.drop i) i)
  ?_ ?_ (i:=0) (Nat.zero_le _) ⟨_,_,rfl,H.Sub.refl hw,(by simp[ev_c,ev_put]<;>rfl),(by simp[ev_c,ev_put]<;>rfl),(by simp[ev_c,ev_put]<;>rfl),(by simp only[ev_put];rfl),rfl⟩
 ·rintro i s hi ⟨tm,h',rfl,hs,e0,e1,e7,e8,e9⟩
  have hi':(i:Int)<(l.length:Int):=by omega
  obtain⟨b,o,c,cs,rfl,hc,hq,hg,hn,hn0⟩:=(hx.mono hs).at hi
  simp -implicitDefEqProofs(maxSteps:=999999)(disch:=first|with_reducible rfl|omega|(simp only[nA,nS,nD]<;>omega)|fail)only[go_sem,e0,e1,e7,e8,hi',hq (nat_cst i),hc,hn0 (by omega),encI]
  refine(hp _ (List.getElem_mem hi)).use hs fun h2 hs2=>?_
  cases hpr:p l[i] with
  |true=>
   simp -implicitDefEqProofs(maxSteps:=999999)(disch:=first|with_reducible rfl|omega|(simp only[nA,nS,nD]<;>omega)|fail)only[go_sem,e0,e1,e7,e8]
   exact⟨by rw[e9,fidx_hit hi hpr],hs.trans hs2⟩
  |false=>
   simp -implicitDefEqProofs(maxSteps:=999999)(disch:=first|with_reducible rfl|omega|(simp only[nA,nS,nD]<;>omega)|fail)only[go_sem,e0,e1,e7,e8,wr_succ]
   exact⟨_,_,rfl,hs.trans hs2,(by simp[ev_c,ev_put,e0]<;>rfl),(by simp[ev_c,ev_put,e1]<;>rfl),(by simp[ev_c,ev_put,e7]<;>rfl),(by simp[ev_c,ev_put]<;>rfl),by rw[e9,fidx_miss hi hpr]⟩
 ·rintro s ⟨tm,h',rfl,hs,e0,e1,e7,e8,e9⟩
  simp -implicitDefEqProofs(maxSteps:=999999)(disch:=first|with_reducible rfl|omega|(simp only[nA,nS,nD]<;>omega)|fail)only[go_sem,e0,e1,e7,e8,Int.lt_irrefl]
  exact⟨by rw[e9];simp[fidx],hs⟩
theorem containsFuncInt_ev {l:List Int}{p:Int→Bool}{h:H}{x f:V}(hw:h.wf)(hx:SlAt h x 1 (l.map encI))(hp:∀a∈l,PureA h f [.int .i64 a] (.bool (p a))):
  E (.fn 58 [] []) [x,f] h fun v h'=>v=.bool (l.any p)∧h.Sub h':=by
 refine Ev_body (fd:=c58) rfl rfl rfl ?_
 simp -implicitDefEqProofs(maxSteps:=999999)(disch:=first|with_reducible rfl|omega|(simp only[nA,nS,nD]<;>omega)|fail)only[c58,go_sem]
 refine(indexFuncInt_ev hw hx hp).mono fun v h' hv=>?_
 obtain⟨rfl,hs⟩:=hv
 simp -implicitDefEqProofs(maxSteps:=999999)(disch:=first|with_reducible rfl|omega|(simp only[nA,nS,nD]<;>omega)|fail)only[go_sem]
 exact⟨by rw[fidx_any],hs⟩
theorem everyInt_ev {l:List Int}{p:Int→Bool}{h:H}{x:V}{g:FuncId}{u w:List V}(hw:h.wf)(hx:SlAt h x 1 (l.map encI))(hp:∀a∈l,PureA h (.fn g u w) [.int .i64 a] (.bool (p a))):
  E (.fn 112 [] []) [x,.fn g u w] h fun v h'=>v=.bool (l.all p)∧h.Sub h':=by
 refine Ev_body (fd:=c112) rfl rfl rfl ?_
 simp -implicitDefEqProofs(maxSteps:=999999)(disch:=first|with_reducible rfl|omega|(simp only[nA,nS,nD]<;>omega)|fail)only[c112,go_sem]
 have hs1:h.Sub (h.add (.cells .rw [.fn g u w])):=(H.Sub.refl hw).add _
 refine(containsFuncInt_ev (p:=fun a=> !p a) hs1.wf (hx.mono hs1) fun a ha h2 hs2=>?_).mono fun v h' hv=>?_
 ·have hc:h2.cells h.next=some [.fn g u w]:=hs2.cells (cells_add_new rfl)
  have hl:h.next<h2.next:=by have:=hs2.next;rw[H.next_add] at this;omega
  refine Ev_body (fd:=c159) rfl rfl rfl ?_
  simp -implicitDefEqProofs(maxSteps:=999999)(disch:=first|with_reducible rfl|omega|(simp only[nA,nS,nD]<;>omega)|fail)only[c159,go_sem,hc]
  refine((hp a ha).mono hs1).use hs2 fun h3 hs3=>?_
  simp -implicitDefEqProofs(maxSteps:=999999)(disch:=first|with_reducible rfl|omega|(simp only[nA,nS,nD]<;>omega)|fail)only[go_sem]
  exact hs3
 ·obtain⟨rfl,hs⟩:=hv
  simp -implicitDefEqProofs(maxSteps:=999999)(disch:=first|with_reducible rfl|omega|(simp only[nA,nS,nD]<;>omega)|fail)only[go_sem]
  exact⟨by rw[any_not],hs1.trans hs⟩
theorem indexInt_ev {l:List Int}{h:H}{x:V}(hw:h.wf)(hx:SlAt h x 1 (l.map encI))(e:Int):
  E (.fn 142 [] []) [x,.int .i64 e] h fun v h'=>v=.int .i64 (fidx (fun r=>decide (e=r)) l 0)∧h.Sub h':=by
 have hb:=hx.boundE
 refine Ev_body (fd:=c142) rfl rfl rfl ?_
 simp -implicitDefEqProofs(maxSteps:=999999)(disch:=first|with_reducible rfl|omega|(simp only[nA,nS,nD]<;>omega)|fail)only[c142,go_sem,hx.lenE]
 refine W_count l.length (fun i s=>∃tm h',s=⟨tm,h',[]⟩∧h.Sub h'∧(Opd.t 0).ev tm=x∧(Opd.t 1).ev tm=.int .i64 e∧(Opd.t 7).ev tm=.int .i64 (l.length:Int)∧(Opd.t 8).ev tm=.int .i64 (i:Int)∧fidx (fun r=>decide (e=r)) l 0=fidx (fun r=>decide (e=r)) (l.drop i) i)
  ?_ ?_ (i:=0) (Nat.zero_le _) ⟨_,_,rfl,H.Sub.refl hw,(by simp[ev_c,ev_put]<;>rfl),(by simp[ev_c,ev_put]<;>rfl),(by simp[ev_c,ev_put]<;>rfl),(by simp[ev_c,ev_put]<;>rfl),rfl⟩
 ·rintro i s hi ⟨tm,h',rfl,hs,e0,e1,e7,e8,e9⟩
  have hi':(i:Int)<(l.length:Int):=by omega
  obtain⟨b,o,c,cs,rfl,hc,hq,hg,hn,hn0⟩:=(hx.mono hs).at hi
  have hv:=hn0 (by omega)
  simp only[encI] at hv
  simp -implicitDefEqProofs(maxSteps:=999999)(disch:=first|with_reducible rfl|omega|(simp only[nA,nS,nD]<;>omega)|fail)only[go_sem,e0,e1,e7,e8,hi',hq (nat_cst i),hc,hv]
  by_cases hpr:e=l[i]
  ·have hd:decide (e=l[i])=true:=decide_eq_true hpr
   simp -implicitDefEqProofs(maxSteps:=999999)(disch:=first|with_reducible rfl|omega|(simp only[nA,nS,nD]<;>omega)|fail)only[go_sem,e0,e1,e7,e8,hd,hpr]
   exact⟨by first|rw[e9,fidx_hit hi hd]|(rw[←hpr];rw[e9,fidx_hit hi hd]),hs⟩
  ·have hd:decide (e=l[i])=false:=decide_eq_false hpr
   simp -implicitDefEqProofs(maxSteps:=999999)(disch:=first|with_reducible rfl|omega|(simp only[nA,nS,nD]<;>omega)|fail)only[go_sem,e0,e1,e7,e8,hd,hpr,wr_succ]
   exact⟨_,_,rfl,hs,(by simp[ev_c,ev_put,e0]<;>rfl),(by simp[ev_c,ev_put,e1]<;>rfl),(by simp[ev_c,ev_put,e7]<;>rfl),(by simp[ev_c,ev_put]<;>rfl),by rw[e9,fidx_miss hi hd]⟩
 ·rintro s ⟨tm,h',rfl,hs,e0,e1,e7,e8,e9⟩
  simp -implicitDefEqProofs(maxSteps:=999999)(disch:=first|with_reducible rfl|omega|(simp only[nA,nS,nD]<;>omega)|fail)only[go_sem,e0,e1,e7,e8,Int.lt_irrefl]
  exact⟨by rw[e9];simp[fidx],hs⟩
theorem hasInt_ev {l:List Int}{h:H}{x:V}(hw:h.wf)(hx:SlAt h x 1 (l.map encI))(e:Int)(Q:V→H→Prop)(q:∀h',h.Sub h'→Q (.bool (l.any fun r=>decide (e=r))) h'):
  Ev fnG fastA (.fn 57 [] []) [x,.int .i64 e] h Q:=by
 refine Ev_body (fd:=c57) rfl rfl rfl ?_
 simp -implicitDefEqProofs(maxSteps:=999999)(disch:=first|with_reducible rfl|omega|(simp only[nA,nS,nD]<;>omega)|fail)only[c57,go_sem]
 refine(indexInt_ev hw hx e).mono fun v h' hv=>?_
 obtain⟨rfl,hs⟩:=hv
 simp -implicitDefEqProofs(maxSteps:=999999)(disch:=first|with_reducible rfl|omega|(simp only[nA,nS,nD]<;>omega)|fail)only[go_sem]
 rw[fidx_any]
 exact q _ hs
theorem dupInt_ev {h:H}{x:V}{l:List Int}(hw:h.wf)(hx:SlAt h x 1 (l.map encI))(hl:l.length≤1000000)(Q:V→H→Prop):
  Ev fnG fastA (.fn 40 [] []) [x] h Q=Q (.sl h.next 0 l.length (.fix l.length)) (h.add (.cells .rw (l.map encI).flatten)):=by
 refine Ev.det (Ev_body (fd:=c40) rfl rfl rfl ?_) Q
 simp -implicitDefEqProofs(maxSteps:=999999)(disch:=first|with_reducible rfl|omega|(simp only[nA,nS,nD]<;>omega)|fail)only[c40,go_sem,hx.lenE,a_msl_0n]
 have:=dup_core (by_:=8) (z:=[.int .i64 0]) hx hw rfl (by omega) (allOne_flat (fun a=>rfl) l)
 rw[List.length_map] at this
 simp -implicitDefEqProofs(maxSteps:=999999)(disch:=first|with_reducible rfl|omega|(simp only[nA,nS,nD]<;>omega)|fail)only[go_sem,this]
theorem cloneInt_ev {h:H}{x:V}{rows:List (List V)}(hw:h.wf)(hx:SlAt h x 1 rows)(hl:rows.length≤1000000)(Q:V→H→Prop)(q:∀v h',OwnC h h' v 1 rows→Q v h'):Ev fnG fastA (.fn 153 [] []) [x] h Q:=by
 refine Ev_body (fd:=c153) rfl rfl rfl ?_
 rcases hx.2.2 with⟨rfl,e⟩|⟨b,o,c,cs,rfl,_⟩
 ·simp -implicitDefEqProofs(maxSteps:=999999)(disch:=first|with_reducible rfl|omega|(simp only[nA,nS,nD]<;>omega)|fail)only[c153,go_sem]
  exact q _ _ (by rw[e];exact(OwnSl.nil (H.Sub.refl hw) 1).c)
 ·simp -implicitDefEqProofs(maxSteps:=999999)(disch:=first|with_reducible rfl|omega|(simp only[nA,nS,nD]<;>omega)|fail)only[c153,go_sem]
  refine clone_core hw hx (by omega) (by omega) fun v h' ov=>?_
  simp -implicitDefEqProofs(maxSteps:=999999)(disch:=first|with_reducible rfl|omega|(simp only[nA,nS,nD]<;>omega)|fail)only[go_sem]
  exact q _ _ ov
end Go.Ab.Tryz
namespace Go.Ab.Tryz
open Go.Proofs
end Go.Ab.Tryz
namespace Go.Ab.Tryz
open Go.Proofs
def rowsT (ss gg tt:List Int):Nat→List (List V)
 |0=>ss.map encI
 |1=>gg.map encI
 |2=>tt.map encI
 |_=>[]
theorem rowsT0 {ss gg tt:List Int}{c:Int}:∀i,i<6→updF (rowsT ss gg tt) 0 (rowsT ss gg tt 0++[encI c]) i=rowsT (ss++[c]) gg tt i:=fun i hi=>by
 rcases(by omega:i=0∨i=1∨i=2∨i=3∨i=4∨i=5) with rfl|rfl|rfl|rfl|rfl|rfl<;>simp[updF,rowsT]
theorem rowsT1 {ss gg tt:List Int}{c:Int}:∀i,i<6→updF (rowsT ss gg tt) 1 (rowsT ss gg tt 1++[encI c]) i=rowsT ss (gg++[c]) tt i:=fun i hi=>by
 rcases(by omega:i=0∨i=1∨i=2∨i=3∨i=4∨i=5) with rfl|rfl|rfl|rfl|rfl|rfl<;>simp[updF,rowsT]
theorem rowsT2 {ss gg tt:List Int}{c:Int}:∀i,i<6→updF (rowsT ss gg tt) 2 (rowsT ss gg tt 2++[encI c]) i=rowsT ss gg (tt++[c]) i:=fun i hi=>by
 rcases(by omega:i=0∨i=1∨i=2∨i=3∨i=4∨i=5) with rfl|rfl|rfl|rfl|rfl|rfl<;>simp[updF,rowsT]
structure SmI (h0 z:H)(b7:Nat)(v:Nat→V)(ss gg tt:List Int):Prop where
 sl:Sl6 h0 z (b7+1) v (fun _=>1) (rowsT ss gg tt)
 g:z.get b7=some (.cells .rw [v 0,v 1,v 2])
 nx:b7+1≤z.next
theorem SmI.sub {h0 z:H}{b7:Nat}{v:Nat→V}{ss gg tt:List Int}(k:SmI h0 z b7 v ss gg tt):h0.Sub z:=(k.sl.o 0 (by decide)).1
theorem SmI.mono {h0 z z':H}{b7:Nat}{v:Nat→V}{ss gg tt:List Int}(k:SmI h0 z b7 v ss gg tt)(s:z.Sub z'):SmI h0 z' b7 v ss gg tt:=⟨k.sl.mono s,s.get k.g,Nat.le_trans k.nx s.next⟩
theorem SmI.put {h0 z z':H}{b7:Nat}{v v':Nat→V}{ss gg tt ss' gg' tt':List Int}(k:SmI h0 z b7 v ss gg tt)(hw:h0.wf)(hb:h0.next≤b7){S:Nat→Prop}(kk:Keeps S z z')(sl:Sl6 h0 z' (b7+1) v' (fun _=>1) (rowsT ss' gg' tt')):
  SmI h0 (z'.set b7 (.cells .rw [v' 0,v' 1,v' 2])) b7 v' ss' gg' tt':=by
 have s5:=(sl.o 0 (by omega)).1
 have l5:=kk.1
 have lz:=k.nx
 have sz:=s5.set (b:=b7) hb (by omega) hw (.cells .rw [v' 0,v' 1,v' 2])
 exact⟨sl.keep (Keeps.set z' b7 (.cells .rw [v' 0,v' 1,v' 2])) sz fun b hb=>by omega,get_set_same rfl,by rw[H.next_set];omega⟩
theorem SmI.tr {h0 z:H}{b7:Nat}{v:Nat→V}{ss gg tt:List Int}(k:SmI h0 z b7 v ss gg tt)(l1:ss.length≤1000)(l2:gg.length≤1000)(l3:tt.length≤1000):TrAt z (v 0) (v 1) (v 2) ss gg tt:=
 ⟨(k.sl.o 0 (by decide)).sl (by show(ss.map encI).length≤_;rw[List.length_map];omega),(k.sl.o 1 (by decide)).sl (by show(gg.map encI).length≤_;rw[List.length_map];omega),(k.sl.o 2 (by decide)).sl (by show(tt.map encI).length≤_;rw[List.length_map];omega)⟩
theorem tr_nil (h:H):TrAt h .nils .nils .nils [] [] []:=by
 have:SlAt h .nils 1 (([]:List Int).map encI):=⟨by simp,by simp,.inl ⟨rfl,rfl⟩⟩
 exact⟨this,this,this⟩
def someT (a:At):List Int × List Int × List Int:=match allC a with
 |[]=>([],[],[])
 |t::_=>if errT a false=0 then(t.1.map Prod.fst,t.1.map Prod.snd,(List.range a.evs.toNat).map fun i=>mg t.2 4 i) else([],[],[])
set_option maxHeartbeats 4000000 in
theorem Some_ev {h:H}(hw:h.wf){a:At}{C R G:V}(x:AtAt h C R G a)(Q:V→H→Prop)(q:∀S Ga Tm h',h.Sub h'→TrAt h' S Ga Tm (someT a).1 (someT a).2.1 (someT a).2.2→Q (.tup [.agg [S,Ga,Tm],.int .i64 (errT a false)]) h'):
  Ev fnG fastA (.fn 48 [] []) [.agg (atV a C R G)] h Q:=by
 have oC:=x.c.one;have oR:=x.r.one;have oG:=x.g.one
 refine Ev_body (fd:=c48) rfl rfl rfl ?_
 obtain⟨z,hz⟩:∃z,(h.add (.cells .rw (atV a C R G))).add (.cells .rw [.nils,.nils,.nils])=z:=⟨_,rfl⟩
 have sz:h.Sub z:=by rw[←hz];exact(by repeat(first|assumption|exact H.Sub.refl (by assumption)|refine H.Sub.add ?_ _|refine H.Sub.set ?_ (by first|omega|(simp only[H.next_add,H.next_set,H.next_del]<;>omega)) (by first|omega|(simp only[H.next_add,H.next_set,H.next_del]<;>omega)) (by assumption) _))
 have nz:z.next=h.next+2:=by rw[←hz];simp only[H.next_add]
 have ga:z.get h.next=some (.cells .rw (atV a C R G)):=by rw[←hz];simp -implicitDefEqProofs(maxSteps:=999999)(disch:=first|with_reducible rfl|omega|(simp only[nA,nS,nD]<;>omega)|fail)only[go_sem]
 have gb:z.get (h.next+1)=some (.cells .rw [.nils,.nils,.nils]):=by rw[←hz];simp -implicitDefEqProofs(maxSteps:=999999)(disch:=first|with_reducible rfl|omega|(simp only[nA,nS,nD]<;>omega)|fail)only[go_sem]
 simp -implicitDefEqProofs(maxSteps:=999999)(disch:=first|with_reducible rfl|omega|(simp only[nA,nS,nD]<;>omega)|fail)only[c48,go_sem,oC,oR,oG]
 rw[hz]
 clear hz
 refine told_ev2 sz.wf (x.mono sz) false _ (fun z1 s1 he=>?_) fun z1 v y Ps s1 hx hl ho hne r _ he e f=>?_
 ·have l1:=s1.next
  have hs1:=sz.trans s1
  have eT:someT a=([],[],[]):=by
   unfold someT
   split
   ·rfl
   ·rw[if_neg he]
  simp -implicitDefEqProofs(maxSteps:=999999)(disch:=first|with_reducible rfl|omega|(simp only[nA,nS,nD]<;>omega)|fail)only[go_sem,(decide_eq_true he:decide (errT a false≠0)=true),s1.get gb]
  have s2:=hs1.set (b:=h.next+1) (by omega) (by omega) hw (.cells .rw [.nils,.nils,.nils])
  have:=q .nils .nils .nils _ s2 (by rw[eT];exact tr_nil _)
  exact this
 have l1:=s1.next
 have hs1:=sz.trans s1
 have d0:decide ((0:Int)≠0)=false:=rfl
 obtain⟨p,P',rfl⟩:=List.exists_cons_of_ne_nil hne
 have hpl:=hl p (List.mem_cons_self ..)
 have hpe:=f.e p (List.mem_cons_self ..)
 have hpc:allC a=(p.2.1,p.2.2)::P'.map Prod.snd:=by rw[←e];rfl
 have hmem:(p.2.1,p.2.2)∈casesL a (fun _=>true):=by show _∈allC a;rw[hpc];exact List.mem_cons_self ..
 have hlen:p.2.1.length=a.cks.length:=(cases_sound r hmem).2.1
 have hins:∀(i:Nat) s,p.2.1[i]? =some s→RunOf a i s:=(cases_sound r hmem).2.2.1
 have rl:=r.lens
 have re:=r.evs
 have hso:SlAt z1 p.1 2 (p.2.1.map encX):=hpe.sl (by rw[List.length_map];omega)
 have eT:someT a=(p.2.1.map Prod.fst,p.2.1.map Prod.snd,(List.range a.evs.toNat).map fun i=>mg p.2.2 4 i):=by
  unfold someT
  rw[hpc]
  simp only
  rw[if_pos he]
 rw[eT] at q
 obtain⟨bY,oY,cY,csY,eY,hcY,hqY,hgY,hnY,_⟩:=hx.at (k:=0) (by simp)
 simp only[List.getElem_cons_zero] at hgY hnY
 have hv0:nth oY csY=some p.1:=by have:=hnY 0 (by decide);simpa[rowF] using this
 have hlR:=hso.lenE
 have sA:=(H.Sub.refl hs1.wf).add (.cells .rw [.nils,.nils,.nils])
 have gA:(z1.add (.cells .rw [.nils,.nils,.nils])).get z1.next=some (.cells .rw [.nils,.nils,.nils]):=get_add_new rfl
 have nA':=H.next_add z1 (.cells .rw [.nils,.nils,.nils])
 have lbY:bY<z1.next:=(H.cells_eq hcY).elim fun kd e=>hs1.wf _ _ e
 simp -implicitDefEqProofs(maxSteps:=999999)(disch:=first|with_reducible rfl|omega|(simp only[nA,nS,nD]<;>omega)|fail)only[go_sem,d0,hqY nat_zero,hcY,hv0,hlR]
 obtain⟨zA,hzA⟩:∃zA,z1.add (.cells .rw [.nils,.nils,.nils])=zA:=⟨_,rfl⟩
 rw[hzA] at sA gA nA'
 try rw[hzA]
 have w1:=hs1.wf
 have k0:SmI z1 zA z1.next (fun _=>.nils) [] [] []:=by
  refine⟨⟨fun i hi=>?_,fun i hi b hb=>(blkOf_nils hb).elim,fun i j _ _ _ b hb=>(blkOf_nils hb).elim⟩,gA,by omega⟩
  have:rowsT [] [] [] i=[]:=by rcases(by omega:i=0∨i=1∨i=2∨i=3∨i=4∨i=5) with rfl|rfl|rfl|rfl|rfl|rfl<;>rfl
  rw[this];exact(OwnSl.nil sA _).c
 have lzh:h.next+2≤z1.next:=by omega
 refine W_count p.2.1.length (fun i s=>∃tm z' v,s=⟨tm,z',[]⟩∧SmI z1 z' z1.next v ((p.2.1.take i).map Prod.fst) ((p.2.1.take i).map Prod.snd) []∧
   (Opd.t 1).ev tm=.ptr h.next 0∧(Opd.t 2).ev tm=.ptr (h.next+1) 0∧(Opd.t 5).ev tm=y∧(Opd.t 7).ev tm=.ptr z1.next 0∧(Opd.t 24).ev tm=p.1∧(Opd.t 25).ev tm=.int .i64 (p.2.1.length:Int)∧(Opd.t 26).ev tm=.int .i64 (i:Int)) ?_ ?_ (i:=0) (Nat.zero_le _)
  ⟨_,_,_,rfl,k0,(by simp[ev_c,ev_put]<;>rfl),(by simp[ev_c,ev_put]<;>rfl),(by simp[ev_c,ev_put]<;>rfl),(by simp[ev_c,ev_put]<;>rfl),(by simp[ev_c,ev_put]<;>rfl),(by simp[ev_c,ev_put]<;>rfl),(by simp[ev_c,ev_put]<;>rfl)⟩
 ·clear k0
  rintro i s hi ⟨tm,z',vv,rfl,k,t1,t2,t5,t7,t24,t25,t26⟩
  have hi':(i:Int)<(p.2.1.length:Int):=by omega
  have ks:=k.sub
  obtain⟨b,o,cc,cs,eC,hc,hq,hg,_,_⟩:=(hso.mono ks).at hi
  have htk:p.2.1.take (i+1)=p.2.1.take i++[p.2.1[i]]:=take_at hi
  have e1:(p.2.1.take (i+1)).map Prod.fst=(p.2.1.take i).map Prod.fst++[p.2.1[i].1]:=by rw[htk,List.map_append];rfl
  have e2:(p.2.1.take (i+1)).map Prod.snd=(p.2.1.take i).map Prod.snd++[p.2.1[i].2]:=by rw[htk,List.map_append];rfl
  have la1:((p.2.1.take i).map Prod.fst).length≤3:=by rw[List.length_map,List.length_take];omega
  have la2:((p.2.1.take i).map Prod.snd).length≤3:=by rw[List.length_map,List.length_take];omega
  rw[e1,e2]
  generalize p.2.1[i]=sg at hg⊢
  generalize(p.2.1.take i).map Prod.fst=ss at k la1⊢
  generalize(p.2.1.take i).map Prod.snd=gg at k la2⊢
  simp only[encX] at hg
  have uB:=(H.Sub.refl ks.wf).add (.cells .rw [.int .i64 sg.1,.int .i64 sg.2])
  have kB:=k.mono uB
  have g9:(z'.add (.cells .rw [.int .i64 sg.1,.int .i64 sg.2])).get z'.next=some (.cells .rw [.int .i64 sg.1,.int .i64 sg.2]):=get_add_new rfl
  have nB:=H.next_add z' (.cells .rw [.int .i64 sg.1,.int .i64 sg.2])
  have lk:=k.nx
  simp -implicitDefEqProofs(maxSteps:=999999)(disch:=first|with_reducible rfl|omega|(simp only[nA,nS,nD]<;>omega)|fail)only[go_sem,t1,t2,t5,t7,t24,t25,t26,hi',hq (nat_cst i),hc,hg,cells_of k.g]
  obtain⟨zB,hzB⟩:∃zB,z'.add (.cells .rw [.int .i64 sg.1,.int .i64 sg.2])=zB:=⟨_,rfl⟩
  rw[hzB] at uB kB g9 nB
  try rw[hzB]
  have uh:=(H.Sub.refl kB.sub.wf).add (.cells .rw [.int .i64 sg.1])
  have kh:=kB.mono uh
  have o3:OwnC z1 (zB.add (.cells .rw [.int .i64 sg.1])) (vv 0) 1 (ss.map encI):=kh.sl.o 0 (by decide)
  have sn3:SlAt (zB.add (.cells .rw [.int .i64 sg.1])) (.sl (z'.next+1) 0 1 (.fix 1)) 1 [encI sg.1]:=SlAt.new _ (by rw[nB]) rfl rfl (by simp[encI]) (by simp)
  have gh1:=kh.g
  have g9h:=uh.get g9
  generalize zB.add (.cells .rw [.int .i64 sg.1])=zh at uh kh o3 sn3 gh1 g9h⊢
  refine o3.app1 (by_:=8) (r:=encI sg.1) w1 rfl (by decide) sn3 rfl (by rw[List.length_map];omega) (by rw[List.length_map];omega) fun w3 zi oi ni ki=>?_
  have ow3:=oi.one
  have lo0:=kh.sl.lo 0 (by decide)
  have gi:=ki.2 _ _ gh1 fun hb=>by have:=lo0 _ hb;omega
  have lB9:=kB.sub.wf _ _ g9
  have dB:¬blkOf (vv 0) z'.next:=fun hb=>by have:=((k.sl.o 0 (by decide)).blk hb).2.1;omega
  have g9i:=ki.2 _ _ g9h dB
  have sl3:=(kh.sl.app (i:=0) (by decide) oi ni kh.nx ki).rw rowsT0
  have uj:=(H.Sub.refl oi.1.wf).add (.cells .rw [.int .i64 sg.2])
  have sl3j:=sl3.mono uj
  have o4:OwnC z1 (zi.add (.cells .rw [.int .i64 sg.2])) (vv 1) 1 (gg.map encI):=sl3j.o 1 (by decide)
  have sn4:SlAt (zi.add (.cells .rw [.int .i64 sg.2])) (.sl zi.next 0 1 (.fix 1)) 1 [encI sg.2]:=SlAt.new _ rfl rfl rfl (by simp[encI]) (by simp)
  have gj:=uj.get gi
  have g9j:=uj.get g9i
  have li:=ki.1
  have lh:=kh.nx
  simp -implicitDefEqProofs(maxSteps:=999999)(disch:=first|with_reducible rfl|omega|(simp only[nA,nS,nD]<;>omega)|fail)only[go_sem,t1,t2,t5,t7,t24,t25,t26,cells_of gi,cells_of g9i,cells_of gh1,cells_of g9h,cells_of kB.g,cells_of g9]
  generalize zi.add (.cells .rw [.int .i64 sg.2])=zj at uj sl3j o4 sn4 gj g9j⊢
  refine o4.app1 (by_:=8) (r:=encI sg.2) w1 rfl (by decide) sn4 rfl (by rw[List.length_map];omega) (by rw[List.length_map];omega) fun w4 zk ok nk4 kk=>?_
  have ow4:=ok.one
  have ov2:=(kh.sl.o 2 (by decide)).one
  have gk:=kk.2 _ _ gj fun hb=>by have:=kh.sl.lo 1 (by decide) _ hb;omega
  have sl4:=(sl3j.app (i:=1) (by decide) ok nk4 (by have:=uj.next;omega) kk).rw rowsT1
  have kq:Keeps (fun b=>blkOf (vv 0) b∨blkOf (vv 1) b) zh zk:=((ki.trans (Keeps.of uj (fun _=>False))).trans kk).mono fun b hb=>hb.elim (fun hb=>hb.elim .inl False.elim) .inr
  have km:=kh.put w1 (Nat.le_refl _) kq sl4
  simp -implicitDefEqProofs(maxSteps:=999999)(disch:=first|with_reducible rfl|omega|(simp only[nA,nS,nD]<;>omega)|fail)only[go_sem,t1,t2,t5,t7,t24,t25,t26,ow3,cells_one ow3,ow4,cells_one ow4,gk,cells_of gi,cells_of g9i,cells_of gh1,cells_of g9h,cells_of gj,cells_of g9j,cells_of kB.g,cells_of g9,cells_of gk,wr_succ]
  exact⟨_,_,_,rfl,km,(by simp[ev_c,ev_put,t1]<;>rfl),(by simp[ev_c,ev_put,t2]<;>rfl),(by simp[ev_c,ev_put,t5]<;>rfl),(by simp[ev_c,ev_put,t7]<;>rfl),(by simp[ev_c,ev_put,t24]<;>rfl),(by simp[ev_c,ev_put,t25]<;>rfl),(by simp[ev_c,ev_put]<;>rfl)⟩
 clear k0
 rintro s ⟨tm,z',vv,rfl,k,t1,t2,t5,t7,t24,t25,t26⟩
 rw[List.take_length] at k
 have ga':=k.sub.get (s1.get ga)
 simp -implicitDefEqProofs(maxSteps:=999999)(disch:=first|with_reducible rfl|omega|(simp only[nA,nS,nD]<;>omega)|fail)only[go_sem,t1,t2,t5,t7,t24,t25,t26,Int.lt_irrefl,cells_of ga']
 obtain⟨ne,hne'⟩:∃ne:Nat,a.evs=ne:=⟨a.evs.toNat,by omega⟩
 rw[hne',Int.toNat_natCast] at q
 refine W_count ne (fun i s=>∃tm z' v,s=⟨tm,z',[]⟩∧SmI z1 z' z1.next v (p.2.1.map Prod.fst) (p.2.1.map Prod.snd) ((List.range i).map fun i=>mg p.2.2 4 i)∧
   (Opd.t 2).ev tm=.ptr (h.next+1) 0∧(Opd.t 5).ev tm=y∧(Opd.t 7).ev tm=.ptr z1.next 0∧(Opd.t 46).ev tm=.int .i64 (ne:Int)∧(Opd.t 47).ev tm=.int .i64 (i:Int)) ?_ ?_ (i:=0) (Nat.zero_le _)
  ⟨_,_,_,rfl,k,(by simp[ev_c,ev_put,t2]<;>rfl),(by simp[ev_c,ev_put,t5]<;>rfl),(by simp[ev_c,ev_put,t7]<;>rfl),by rw[←hne'];exact(by simp[ev_c,ev_put]<;>rfl),(by simp[ev_c,ev_put]<;>rfl)⟩
 ·clear k t1 t2 t5 t7 t24 t25 t26 ga'
  rintro i s hi ⟨tm,z',vv,rfl,k,t2,t5,t7,t46,t47⟩
  have hi':(i:Int)<(ne:Int):=by omega
  have ks:=k.sub
  have hm:nth (oY+1+4*5+i*1) csY=some (.int .i64 (mg p.2.2 4 i)):=by
   have:=hnY (1+4*5+i*1) (by omega)
   rw[←nth_eq,row_at hpl.len (by omega) (by omega)] at this
   rw[←this];congr 1;omega
  have lr:((List.range i).map fun i=>mg p.2.2 4 i).length≤4:=by rw[List.length_map,List.length_range];omega
  have e1:((List.range (i+1)).map fun i=>mg p.2.2 4 i)=((List.range i).map fun i=>mg p.2.2 4 i)++[mg p.2.2 4 i]:=by rw[List.range_succ,List.map_append];rfl
  rw[e1]
  generalize((List.range i).map fun i=>mg p.2.2 4 i)=tt at k lr⊢
  generalize mg p.2.2 4 i=m at hm⊢
  have uh:=(H.Sub.refl ks.wf).add (.cells .rw [.int .i64 m])
  have kh:=k.mono uh
  have o3:OwnC z1 (z'.add (.cells .rw [.int .i64 m])) (vv 2) 1 (tt.map encI):=kh.sl.o 2 (by decide)
  have sn3:SlAt (z'.add (.cells .rw [.int .i64 m])) (.sl z'.next 0 1 (.fix 1)) 1 [encI m]:=SlAt.new _ rfl rfl rfl (by simp[encI]) (by simp)
  have gh1:=kh.g
  have lk:=k.nx
  have hY':=ks.cells hcY
  have i4:q_iaa 5 5 (.ptr bY (oY+1)) (.int .i64 4)=some (.ptr bY (oY+1+4*5)):=q_iaa_ptr (nat_num 4) (by omega)
  simp -implicitDefEqProofs(maxSteps:=999999)(disch:=first|with_reducible rfl|omega|(simp only[nA,nS,nD]<;>omega)|fail)only[go_sem,t2,t5,t7,t46,t47,hi',cells_of k.g,hqY nat_zero,i4,q_iaa_ptr (nat_cst i),hY',hm]
  generalize z'.add (.cells .rw [.int .i64 m])=zh at uh kh o3 sn3 gh1⊢
  refine o3.app1 (by_:=8) (r:=encI m) w1 rfl (by decide) sn3 rfl (by rw[List.length_map];omega) (by rw[List.length_map];omega) fun w3 zi oi ni ki=>?_
  have ow3:=oi.one
  have ov0:=(kh.sl.o 0 (by decide)).one
  have ov1:=(kh.sl.o 1 (by decide)).one
  have gi:=ki.2 _ _ gh1 fun hb=>by have:=kh.sl.lo 2 (by decide) _ hb;omega
  have km:=kh.put w1 (Nat.le_refl _) ki ((kh.sl.app (i:=2) (by decide) oi ni kh.nx ki).rw rowsT2)
  have hYh:=uh.cells hY'
  simp -implicitDefEqProofs(maxSteps:=999999)(disch:=first|with_reducible rfl|omega|(simp only[nA,nS,nD]<;>omega)|fail)only[go_sem,t2,t5,t7,t46,t47,ow3,cells_one ow3,gi,cells_of gh1,hYh,cells_of k.g,hY',hm,wr_succ]
  exact⟨_,_,_,rfl,km,(by simp[ev_c,ev_put,t2]<;>rfl),(by simp[ev_c,ev_put,t5]<;>rfl),(by simp[ev_c,ev_put,t7]<;>rfl),(by simp[ev_c,ev_put,t46]<;>rfl),(by simp[ev_c,ev_put]<;>rfl)⟩
 clear k t1 t2 t5 t7 t24 t25 t26 ga'
 rintro s ⟨tm,z',vv,rfl,k,t2,t5,t7,t46,t47⟩
 have ov0:=(k.sl.o 0 (by decide)).one
 have ov1:=(k.sl.o 1 (by decide)).one
 have ov2:=(k.sl.o 2 (by decide)).one
 have lk:=k.nx
 have gb':=k.sub.get (s1.get gb)
 have k2:=Keeps.set z' (h.next+1) (.cells .rw [vv 0,vv 1,vv 2])
 have s2:=(hs1.trans k.sub).set (b:=h.next+1) (by omega) (by omega) hw (.cells .rw [vv 0,vv 1,vv 2])
 have tr:=k.tr (by rw[List.length_map];omega) (by rw[List.length_map];omega) (by rw[List.length_map,List.length_range];omega)
 have off:∀i,i<3→∀b,blkOf (vv i) b→b≠h.next+1:=fun i hi b hb=>by have:=k.sl.lo i (by omega) b hb;omega
 have tr2:TrAt (z'.set (h.next+1) (.cells .rw [vv 0,vv 1,vv 2])) (vv 0) (vv 1) (vv 2) (p.2.1.map Prod.fst) (p.2.1.map Prod.snd) ((List.range ne).map fun i=>mg p.2.2 4 i):=
  ⟨SlAt_keep tr.s k2 (off 0 (by decide)),SlAt_keep tr.g k2 (off 1 (by decide)),SlAt_keep tr.t k2 (off 2 (by decide))⟩
 have q':=q _ _ _ _ s2 tr2
 rw[he] at q'
 simp -implicitDefEqProofs(maxSteps:=999999)(disch:=first|with_reducible rfl|omega|(simp only[nA,nS,nD]<;>omega)|fail)only[go_sem,t2,t5,t7,t46,t47,Int.lt_irrefl,cells_of k.g,gb',ov0,ov1,ov2]
 exact q'
end Go.Ab.Tryz
namespace Go.Ab
theorem put_iv {L:List Int}{i:Nat}(h:i<L.length)(v:Int):putN i [.int .i64 v] (L.map iv)=some ((L.set i v).map iv):=by
 have e:L=L.take i++L[i]::L.drop (i+1):=by rw[←List.drop_eq_getElem_cons h,List.take_append_drop]
 have:=putN_app (pre:=(L.take i).map iv) (new:=[iv v]) (old:=[iv L[i]]) (rest:=(L.drop (i+1)).map iv) rfl
 rw[List.length_map,List.length_take,Nat.min_eq_left (by omega)] at this
 have e2:L.map iv=(L.take i).map iv++[iv L[i]]++(L.drop (i+1)).map iv:=by
  rw[show[iv L[i]]=[L[i]].map iv from rfl,←List.map_append,←List.map_append,List.append_assoc]
  exact congrArg (List.map iv) e
 have e3:(L.set i v).map iv=(L.take i).map iv++[iv v]++(L.drop (i+1)).map iv:=by
  rw[List.set_eq_take_append_cons_drop,if_pos h];simp
 rw[e2,e3];exact this
namespace Tryz
open Go.Proofs
theorem flat_iv (L:List Int):(L.map encI).flatten=L.map iv:=by
 induction L with
 |nil=>rfl
 |cons a L ih=>rw[List.map_cons,List.flatten_cons,ih];rfl
end Tryz
end Go.Ab
namespace Go.Ab
noncomputable def slcFrom (h:H)(sz:Nat)(x k:V):Option V:=q_slc .nil h sz x (some (.c k)) none none
theorem q_slc_from (tm:T V)(h:H)(sz:Nat)(x:V)(y:Opd):q_slc tm h sz x (some y) none none=slcFrom h sz x (y.ev tm):=rfl
noncomputable def slcTo (h:H)(sz:Nat)(x k:V):Option V:=q_slc .nil h sz x none (some (.c k)) none
theorem q_slc_to (tm:T V)(h:H)(sz:Nat)(x:V)(y:Opd):q_slc tm h sz x none (some y) none=slcTo h sz x (y.ev tm):=rfl
theorem slcFrom_gr {h:H}{b k:Nat}{L:List Int}(hb:h.get b=some (.cells (.gr 1) (L.map iv)))(h0:0<L.length)(hk:k≤L.length):slcFrom h 1 (.sl b 0 L.length (.slk 0 0)) (.int .i64 (k:Int))=some (.sl b k (L.length-k) (.slk k 0)):=by
 have hi:∀tm:T V,(Opd.c (.int .i64 (k:Int))).ev tm=.int .i64 (k:Int):=fun _=>rfl
 have e1:Nat.ble k L.length=true:=by simp;exact hk
 have e2:Nat.ble L.length L.length=true:=by simp
 have e4:Nat.blt 0 (L.length+L.length)=true:=by rw[Nat.blt_eq];omega
 have e5:Nat.beq 1 1=true:=rfl
 have e6:Nat.beq 0 (0*1)=true:=rfl
 have e7:Nat.ble L.length (L.map iv).length=true:=by simp
 have e8:slkRoom h b 0 1=L.length:=by simp[slkRoom,hb,lenN_eq]
 simp only[slcFrom,q_slc,slkOk,hb,lenN_eq,e5,e6,e7,og_true,e8,bnd3,natO,hi,natk_cst,bnds,e1,e2,subS,e4,Nat.mul_one,Nat.zero_add]
theorem slcTo_gr {h:H}{b k:Nat}{L:List Int}(hb:h.get b=some (.cells (.gr 1) (L.map iv)))(h0:0<L.length)(hk:k≤L.length):slcTo h 1 (.sl b 0 L.length (.slk 0 0)) (.int .i64 (k:Int))=some (.sl b 0 k (.slk 0 0)):=by
 have hi:∀tm:T V,(Opd.c (.int .i64 (k:Int))).ev tm=.int .i64 (k:Int):=fun _=>rfl
 have e1:Nat.ble 0 k=true:=by simp
 have e2:Nat.ble k L.length=true:=by simp;exact hk
 have e3:Nat.ble L.length L.length=true:=by simp
 have e4:Nat.blt 0 (L.length+k)=true:=by rw[Nat.blt_eq];omega
 have e5:Nat.beq 1 1=true:=rfl
 have e6:Nat.beq 0 (0*1)=true:=rfl
 have e7:Nat.ble L.length (L.map iv).length=true:=by simp
 have e8:slkRoom h b 0 1=L.length:=by simp[slkRoom,hb,lenN_eq]
 simp only[slcTo,q_slc,slkOk,hb,lenN_eq,e5,e6,e7,og_true,e8,bnd3,natO,hi,natk_cst,bnds,e1,e2,e3,subS,e4,Nat.mul_one,Nat.zero_add,Nat.sub_zero]
theorem getD_some {l:List Int}{i:Nat}(h:i<l.length):l[i]? =some (l.getD i 0):=by rw[List.getD_eq_getElem?_getD,List.getElem?_eq_getElem h];rfl
theorem dd_ne {l:List Int}{n:Nat}(hn:n<l.length)(h:n=0∨l.getD n 0≠l.getD (n-1) 0):dd l (n+1)=dd l n++[l.getD n 0]:=dd_new (getD_some hn) fun⟨h1,h2⟩=>by
 rcases h with h|h
 ·omega
 ·rw[getD_some (by omega)] at h2;exact h (Option.some.inj h2).symm
theorem dd_eq {l:List Int}{n:Nat}(hn:n<l.length)(h0:0<n)(h:l.getD n 0=l.getD (n-1) 0):dd l (n+1)=dd l n:=dd_same (getD_some hn) ⟨h0,by rw[getD_some (by omega),h]⟩
theorem take_getD {l:List Int}{n:Nat}(hn:n<l.length):l.take (n+1)=l.take n++[l.getD n 0]:=by
 rw[List.take_add_one,getD_some hn];rfl
theorem SlAt.cut {h:H}{b m:Nat}{L:List Int}{c:Cap}(hb:h.get b=some (.cells (.gr 1) (L.map iv)))(hm:m≤L.length)(hl:L.length≤1000000):SlAt h (.sl b 0 m c) 1 ((L.take m).map fun n=>[.int .i64 n]):=by
 refine⟨fun r hr=>by obtain⟨_,_,rfl⟩:=List.mem_map.1 hr;rfl,by rw[List.length_map,List.length_take];omega,.inr ⟨b,0,c,L.map iv,?_,.inr (cells_of hb),?_⟩⟩
 ·rw[List.length_map,List.length_take,Nat.min_eq_left hm]
 ·have e:((L.take m).map fun n=>[V.int .i64 n]).flatten=(L.take m).map iv:=by
   generalize L.take m=K
   induction K with
   |nil=>rfl
   |cons a K ih=>rw[List.map_cons,List.flatten_cons,ih];rfl
  rw[e,List.length_map,List.length_take,Nat.min_eq_left hm,Nat.mul_one]
  refine getN_eq.2 ⟨?_,by rw[List.length_map];omega⟩
  rw[List.drop_zero,←List.map_take]
namespace Tryz
open Go.Proofs
set_option maxHeartbeats 4000000 in
theorem Compact_ev {h0 h:H}{b:Nat}{l:List Int}(hs:h0.Sub h)(hw0:h0.wf)(lb0:h0.next≤b)(hb:h.get b=some (.cells (.gr 1) (l.map iv)))(h1:1≤l.length)(hl:l.length≤100000)(Q:V→H→Prop)
  (q:∀y h',h0.Sub h'→Keeps (fun c=>c=b) h h'→SlAt h' y 1 ((dd l l.length).map encI)→Q y h'):Ev fnG fastA (.fn 116 [] []) [.sl b 0 l.length (.slk 0 0)] h Q:=by
 have hw:=hs.wf
 have whole:∀{hh:H} {L:List Int},hh.get b=some (.cells (.gr 1) (L.map iv))→L.length=l.length→∀m c,m≤l.length→SlAt hh (.sl b 0 m c) 1 ((L.take m).map encI):=fun hg hL m c hm=>SlAt.cut hg (by omega) (by omega)
 refine Ev_body (fd:=c116) rfl rfl rfl ?_
 by_cases h2:l.length<2
 ·have hn2:(l.length:Int)<2:=by omega
  have e1:l.length=1:=by omega
  simp -implicitDefEqProofs(maxSteps:=999999)(disch:=first|with_reducible rfl|omega|(simp only[nA,nS,nD]<;>omega)|fail)only[c116,go_sem,hn2]
  have hdd:dd l l.length=l.take l.length:=by
   rw[e1,dd_ne (by omega) (.inl rfl),take_getD (by omega)];rfl
  exact q _ _ hs (Keeps.refl _ _) (by rw[hdd];exact whole hb rfl _ _ (Nat.le_refl _))
 have hn2:¬(l.length:Int)<2:=by omega
 have hiad:∀k:Nat,k<l.length→q_iad 1 (.sl b 0 l.length (.slk 0 0)) (.int .i64 (k:Int))=some (.ptr b k):=fun k hk=>by
  rw[q_iad_sl (nat_cst k) hk,Nat.mul_one,Nat.zero_add]
 simp -implicitDefEqProofs(maxSteps:=999999)(disch:=first|with_reducible rfl|omega|(simp only[nA,nS,nD]<;>omega)|fail)only[c116,go_sem,hn2]
 refine W_loop (fun kk s=>∃tm i,s=⟨tm,h,[]⟩∧kk=l.length-i∧1≤i∧i≤l.length∧dd l i=l.take i∧(Opd.t 0).ev tm=.sl b 0 l.length (.slk 0 0)∧(Opd.t 3).ev tm=.int .i64 (i:Int)) ?_ (l.length-1) _
  ⟨_,1,rfl,rfl,Nat.le_refl _,by omega,by rw[dd_ne (by omega) (.inl rfl),take_getD (by omega)];rfl,(by simp[ev_c,ev_put]<;>rfl),(by simp[ev_c,ev_put]<;>rfl)⟩
 rintro kk s ⟨tm,i,rfl,hkk,i1,i2,hdd,t0,t3⟩
 by_cases hi:i<l.length
 ·have hi':(i:Int)<(l.length:Int):=by omega
  have e1:(i:Int)-1=((i-1:Nat):Int):=by omega
  have n1:=nth_iv hi
  have n2:=nth_iv (L:=l) (k:=i-1) (by omega)
  by_cases heq:l.getD i 0=l.getD (i-1) 0
  ·have deq:decide (l.getD i 0=l.getD (i-1) 0)=true:=decide_eq_true heq
   have hfrom:=slcFrom_gr hb (by omega) (k:=i) (by omega)
   have lb:=hw _ _ hb
   have hdd1:dd l (i+1)=l.take i:=by rw[dd_eq hi (by omega) heq,hdd]
   simp -implicitDefEqProofs(maxSteps:=999999)(disch:=first|with_reducible rfl|omega|(simp only[nA,nS,nD]<;>omega)|fail)only[go_sem,t0,t3,hi',wr_in,e1,hiad i hi,hiad (i-1) (by omega),cells_of hb,n1,n2,deq,q_slc_from,hfrom]
   refine W.mono (Q:=fun x1 s=>x1=.ext 2∧∃(tm:Go.Ab.T V) (hh:H) (L:List Int) (m:Nat),s=⟨tm,hh,[]⟩∧h0.Sub hh∧Keeps (fun c=>c=b) h hh∧hh.get b=some (.cells (.gr 1) (L.map iv))∧L.length=l.length∧m<l.length∧L.take m=dd l l.length∧(Opd.t 0).ev tm=.sl b 0 l.length (.slk 0 0)∧(Opd.t 3).ev tm=.int .i64 (m:Int))
    (W_loop (fun kk s=>∃(tm:Go.Ab.T V) (hh:H) (L:List Int) (m k2:Nat),s=⟨tm,hh,[]⟩∧kk=l.length-i-k2∧1≤k2∧i+k2≤l.length∧m+1≤i+k2∧h0.Sub hh∧Keeps (fun c=>c=b) h hh∧hh.get b=some (.cells (.gr 1) (L.map iv))∧L.length=l.length∧
     L.take m=dd l (i+k2)∧(∀j,i+k2≤j+1→L.getD j 0=l.getD j 0)∧
     (Opd.t 0).ev tm=.sl b 0 l.length (.slk 0 0)∧(Opd.t 3).ev tm=.int .i64 (m:Int)∧(Opd.t 4).ev tm=.sl b i (l.length-i) (.slk i 0)∧(Opd.t 5).ev tm=.int .i64 (k2:Int)) ?_ (l.length-i-1) _
     ⟨_,_,l,i,1,rfl,rfl,Nat.le_refl _,by omega,by omega,hs,Keeps.refl _ _,hb,rfl,hdd1.symm,fun _ _=>rfl,(by simp[ev_c,ev_put,t0]<;>rfl),(by simp[ev_c,ev_put,t3]<;>rfl),(by simp[ev_c,ev_put]<;>rfl),(by simp[ev_c,ev_put]<;>rfl)⟩) fun x1 s hx1=>?_
   ·rintro kk s ⟨tm,hh,L,m,k2,rfl,hkk,k1,k3,k4,sh,kp,gL,hL,hT,hR,t0,t3,t4,t5⟩
    by_cases hk:k2<l.length-i
    ·have hk':(k2:Int)<((l.length-i:Nat):Int):=by omega
     have e2:(k2:Int)-1=((k2-1:Nat):Int):=by omega
     have a1:q_iad 1 (.sl b i (l.length-i) (.slk i 0)) (.int .i64 (k2:Int))=some (.ptr b (i+k2)):=by rw[q_iad_sl (nat_cst k2) hk,Nat.mul_one]
     have a2:q_iad 1 (.sl b i (l.length-i) (.slk i 0)) (.int .i64 ((k2-1:Nat):Int))=some (.ptr b (i+(k2-1))):=by rw[q_iad_sl (nat_cst (k2-1)) (by omega),Nat.mul_one]
     have a3:=hiad m (by omega)
     have v1:=nth_iv (L:=L) (k:=i+k2) (by omega)
     have v2:=nth_iv (L:=L) (k:=i+(k2-1)) (by omega)
     rw[hR _ (by omega)] at v1 v2
     have lb2:=sh.wf _ _ gL
     by_cases hd:l.getD (i+k2) 0=l.getD (i+(k2-1)) 0
     ·have hne:decide (l.getD (i+k2) 0≠l.getD (i+(k2-1)) 0)=false:=by simpa using hd
      simp -implicitDefEqProofs(maxSteps:=999999)(disch:=first|with_reducible rfl|omega|(simp only[nA,nS,nD]<;>omega)|fail)only[go_sem,t0,t3,t4,t5,hk',wr_in,e2,a1,a2,cells_of gL,v1,v2,hne,wr_succ]
      exact⟨_,by omega,_,_,L,m,k2+1,rfl,rfl,by omega,by omega,by omega,sh,kp,gL,hL,by rw[hT,←Nat.add_assoc,dd_eq (by omega) (by omega) (by rw[hd];congr 1;omega)],fun j hj=>hR j (by omega),(by simp[ev_c,ev_put,t0]<;>rfl),(by simp[ev_c,ev_put,t3]<;>rfl),(by simp[ev_c,ev_put,t4]<;>rfl),(by simp[ev_c,ev_put]<;>rfl)⟩
     ·have hne:decide (l.getD (i+k2) 0≠l.getD (i+(k2-1)) 0)=true:=by simpa using hd
      have hp:=put_iv (L:=L) (i:=m) (by omega) (l.getD (i+k2) 0)
      simp -implicitDefEqProofs(maxSteps:=999999)(disch:=first|with_reducible rfl|omega|(simp only[nA,nS,nD]<;>omega)|fail)only[go_sem,t0,t3,t4,t5,hk',wr_in,e2,a1,a2,a3,cells_of gL,gL,v1,v2,hne,hp,wr_succ]
      refine⟨_,by omega,_,_,L.set m (l.getD (i+k2) 0),m+1,k2+1,rfl,rfl,by omega,by omega,by omega,sh.set lb0 lb2 hw0 _,(kp.trans (Keeps.set hh b _)).mono fun c h=>h.elim id id,get_set_same rfl,by rw[List.length_set];exact hL,?_,fun j hj=>?_,(by simp[ev_c,ev_put,t0]<;>rfl),(by simp[ev_c,ev_put]<;>rfl),(by simp[ev_c,ev_put,t4]<;>rfl),(by simp[ev_c,ev_put]<;>rfl)⟩
      ·rw[←Nat.add_assoc,dd_ne (by omega) (.inr (by intro e;apply hd;rw[e];congr 1;omega)),←hT,take_getD (by rw[List.length_set];omega)]
       rw[List.take_set_of_le (Nat.le_refl _)]
       congr 2
       rw[List.getD_eq_getElem?_getD,List.getElem?_set_self (by omega)];rfl
      ·rw[←hR j (by omega),List.getD_eq_getElem?_getD,List.getElem?_set_ne (by omega),←List.getD_eq_getElem?_getD]
    ·have hk':¬(k2:Int)<((l.length-i:Nat):Int):=by omega
     have hke:i+k2=l.length:=by omega
     simp -implicitDefEqProofs(maxSteps:=999999)(disch:=first|with_reducible rfl|omega|(simp only[nA,nS,nD]<;>omega)|fail)only[go_sem,t0,t3,t4,t5,hk']
     exact⟨_,_,L,m,rfl,sh,kp,gL,hL,by omega,by rw[hT,hke],(by simp[ev_c,ev_put,t0]<;>rfl),(by simp[ev_c,ev_put,t3]<;>rfl)⟩
   clear t0 t3
   obtain⟨rfl,tm,hh,L,m,rfl,sh,kp,gL,hL,hm,hT,t0,t3⟩:=hx1
   have f1:=slcFrom_gr gL (by omega) (k:=m) (by omega)
   rw[hL] at f1
   obtain⟨n,hn⟩:∃n,l.length-m=n+1:=⟨l.length-m-1,by omega⟩
   have hrep:∀n,repN n [V.int .i64 0]=(List.replicate n (0:Int)).map iv:=fun n=>by
    induction n with
    |zero=>rfl
    |succ n ih=>simp only[repN,appN_eq,ih,List.replicate_succ,List.map_cons];rfl
   have hp:putN m ((List.replicate (n+1) (0:Int)).map iv) (L.map iv)=some ((L.take m++List.replicate (n+1) 0).map iv):=by
    have:=putN_app (pre:=(L.take m).map iv) (new:=(List.replicate (n+1) (0:Int)).map iv) (old:=(L.drop m).map iv) (rest:=[]) (by simp;omega)
    rw[List.length_map,List.length_take,Nat.min_eq_left (by omega),List.append_nil,List.append_nil,←List.map_append,List.take_append_drop,←List.map_append] at this
    exact this
   have ho:allOne ((List.replicate (n+1) (0:Int)).map iv)=true:=by
    rw[allOne_eq]
    intro v hv
    obtain⟨_,_,rfl⟩:=List.mem_map.1 hv;rfl
   have hclr:e_clr hh [V.int .i64 0] (.sl b m (l.length-m) (.slk m 0))=some (.und,hh.set b (.cells (.gr 1) ((L.take m++List.replicate (n+1) 0).map iv))):=by
    rw[e_clr_sl,hn,hrep]
    rw[List.replicate_succ,List.map_cons] at hp ho⊢
    rw[H.put_gr ho gL hp,withV_some]
   have gS:(hh.set b (.cells (.gr 1) ((L.take m++List.replicate (n+1) 0).map iv))).get b=some (.cells (.gr 1) ((L.take m++List.replicate (n+1) 0).map iv)):=get_set_same rfl
   have ll:(L.take m++List.replicate (n+1) (0:Int)).length=l.length:=by simp;omega
   have f2:=slcTo_gr gS (by omega) (k:=m) (by omega)
   rw[ll] at f2
   have lb2:=sh.wf _ _ gL
   simp -implicitDefEqProofs(maxSteps:=999999)(disch:=first|with_reducible rfl|omega|(simp only[nA,nS,nD]<;>omega)|fail)only[go_sem,t0,t3,q_slc_from,f1,WI_clr,hclr,q_slc_to,f2]
   refine q _ _ (sh.set lb0 lb2 hw0 _) ((kp.trans (Keeps.set hh b _)).mono fun c h=>h.elim id id) ?_
   have:=whole gS ll m (.slk 0 0) (by omega)
   rw[List.take_append_of_le_length (by rw[List.length_take];omega),List.take_take,Nat.min_self] at this
   rw[←hT];exact this
  ·have dne:decide (l.getD i 0=l.getD (i-1) 0)=false:=decide_eq_false heq
   simp -implicitDefEqProofs(maxSteps:=999999)(disch:=first|with_reducible rfl|omega|(simp only[nA,nS,nD]<;>omega)|fail)only[go_sem,t0,t3,hi',wr_in,e1,hiad i hi,hiad (i-1) (by omega),cells_of hb,n1,n2,dne,wr_succ]
   exact⟨_,by omega,_,i+1,rfl,rfl,by omega,by omega,by rw[dd_ne hi (.inr heq),hdd,take_getD hi],(by simp[ev_c,ev_put,t0]<;>rfl),(by simp[ev_c,ev_put]<;>rfl)⟩
 ·have hi':¬(i:Int)<(l.length:Int):=by omega
  have hie:i=l.length:=by omega
  simp -implicitDefEqProofs(maxSteps:=999999)(disch:=first|with_reducible rfl|omega|(simp only[nA,nS,nD]<;>omega)|fail)only[go_sem,t0,t3,hi']
  rw[hie] at hdd
  exact q _ _ hs (Keeps.refl _ _) (by rw[hdd];exact whole hb rfl _ _ (Nat.le_refl _))
end Tryz
end Go.Ab
namespace Go.Ab.Tryz
open Go.Proofs
theorem sortI_len (l:List Int):(sortI l).length=l.length:=(sortI_perm l).length_eq
theorem sort_ev {h:H}{b:Nat}{l:List Int}(hb:h.get b=some (.cells (.gr 1) (l.map iv)))(h1:1≤l.length)(hl:l.length≤100000)(Q:V→H→Prop):
  Ev fnG fastA (.fn 149 [] []) [.sl b 0 l.length (.slk 0 0)] h Q=Q (.tup []) (h.set b (.cells (.gr 1) ((sortI l).map iv))):=by
 refine Ev.det ⟨1,.tup [],h.set b (.cells (.gr 1) ((sortI l).map iv)),?_,rfl,rfl⟩ Q
 have e:evV fnG fastA 1 (.fn 149 [] []) [.sl b 0 l.length (.slk 0 0)] h=sortF [.sl b 0 l.length (.slk 0 0)] h:=rfl
 rw[e]
 have b1:Nat.blt 0 l.length=true:=by rw[Nat.blt_eq];omega
 have b2:Nat.blt l.length 4611686018427387904=true:=by rw[Nat.blt_eq];omega
 have hg:getN 0 l.length (l.map iv)=some (l.map iv):=getN_iv l
 have hi:intsOf (l.map iv)=some l:=intsOf_map l
 have hp:h.put b 0 ((sortI l).map (V.int .i64))=some (h.set b (.cells (.gr 1) ((sortI l).map iv))):=by
  obtain⟨v,vs,hv⟩:∃v vs,(sortI l).map iv=v::vs:=by
   cases hc:(sortI l).map iv with
   |nil=>have:=congrArg List.length hc;rw[List.length_map,sortI_len,List.length_nil] at this;omega
   |cons v vs=>exact⟨v,vs,rfl⟩
  have ho:allOne ((sortI l).map iv)=true:=allOne_iv _
  have hp:putN 0 ((sortI l).map iv) (l.map iv)=some ((sortI l).map iv):=by
   have:=putN_app (pre:=[]) (new:=(sortI l).map iv) (old:=l.map iv) (rest:=[]) (by rw[List.length_map,List.length_map,sortI_len])
   simpa using this
  show h.put b 0 ((sortI l).map iv)=_
  rw[hv] at ho hp⊢
  exact H.put_gr ho hb hp
 simp only[sortF,b1,b2,og_true,cells_of hb,hg,hi,hp,withV_some]
theorem rise_ev {h0 h:H}{w:V}{l:List Int}(o:OwnSl h0 h w 1 (l.map encI))(hw0:h0.wf)(h1:1≤l.length)(hl:l.length≤100000):∃b,w=.sl b 0 l.length (.slk 0 0)∧h0.next≤b∧h.get b=some (.cells (.gr 1) (l.map iv)):=by
 obtain⟨_,_,o⟩:=o
 rcases o with⟨_,e⟩|⟨b,e,lb,_,g⟩
 ·have:=congrArg List.length e;rw[List.length_map,List.length_nil] at this;omega
 ·rw[List.length_map] at e;rw[flat_iv] at g;exact⟨b,e,lb,g⟩
end Go.Ab.Tryz
namespace Go.Ab.Tryz
open Go.Proofs
theorem values_eq {h:H}{x:V}(hx:x.one=true)(Q:V→H→Prop):Ev fnG fastA (.fn 115 [] []) [x] h Q=Q (.fn 161 [] [.ptr h.next 0]) (h.add (.cells .rw [x])):=by
 refine Ev.det (Ev_body (fd:=c115) rfl rfl rfl ?_) Q
 simp -implicitDefEqProofs(maxSteps:=999999)(disch:=first|with_reducible rfl|omega|(simp only[nA,nS,nD]<;>omega)|fail)only[c115,go_sem,hx,cells_one hx]
theorem vals_gen {h:H}{x:V}{l:List Int}(hx:SlAt h x 1 (l.map encI)){b:Nat}(g:h.get b=some (.cells .rw [x])){y:V}(hy:∃l0,y=.yld l0){J:Nat→H→Prop}(base:∀n z,J n z→h.Sub z)
  (step:∀n m,l[n]? =some m→∀z,J n z→Ev fnG fastA y [.int .i64 m] z fun u z'=>u=.bool true∧J (n+1) z') {z:H} (hJ:J 0 z):Ev fnG fastA (.fn 161 [] [.ptr b 0]) [y] z fun _ z'=>J l.length z':=by
 refine Ev.gen fun Q q=>?_
 obtain⟨l0,rfl⟩:=hy
 have s0:=base _ _ hJ
 have hl:=hx.lenE
 refine Ev_body (fd:=c161) rfl rfl rfl ?_
 simp -implicitDefEqProofs(maxSteps:=999999)(disch:=first|with_reducible rfl|omega|(simp only[nA,nS,nD]<;>omega)|fail)only[c161,go_sem,cells_of (s0.get g),hl]
 refine W_count l.length (fun i s=>∃tm z,s=⟨tm,z,[]⟩∧J i z∧(Opd.t 0).ev tm=.yld l0∧(Opd.t 5).ev tm=x∧(Opd.t 6).ev tm=.int .i64 (l.length:Int)∧(Opd.t 7).ev tm=.int .i64 (i:Int)) ?_ ?_ (i:=0) (Nat.zero_le _)
  ⟨_,_,rfl,hJ,(by simp[ev_c,ev_put]<;>rfl),(by simp[ev_c,ev_put]<;>rfl),(by simp[ev_c,ev_put]<;>rfl),(by simp[ev_c,ev_put]<;>rfl)⟩
 ·rintro i s hi ⟨tm,z,rfl,hJ,t0,t5,t6,t7⟩
  have hi':(i:Int)<(l.length:Int):=by omega
  have hb:=hx.2.1
  rw[List.length_map] at hb
  have w7:wr .i64 ((i:Int)+1)=(i:Int)+1:=wr_in (by omega) (by omega)
  obtain⟨b',o',cc',cs',e',hc',hq',_,_,n'⟩:=(hx.mono (base _ _ hJ)).at hi
  have v:=n' (by decide)
  simp only[encI,List.getElem?_cons_zero] at v
  simp -implicitDefEqProofs(maxSteps:=999999)(disch:=first|with_reducible rfl|omega|(simp only[nA,nS,nD]<;>omega)|fail)only[go_sem,t0,t5,t6,t7,hi',hq' (nat_cst i),hc',v]
  refine(step i l[i] (List.getElem?_eq_getElem hi) z hJ).mono fun u z' hz=>?_
  obtain⟨rfl,hJ'⟩:=hz
  simp -implicitDefEqProofs(maxSteps:=999999)(disch:=first|with_reducible rfl|omega|(simp only[nA,nS,nD]<;>omega)|fail)only[go_sem,t0,t5,t6,t7,w7]
  exact⟨_,_,rfl,hJ',(by simp[ev_c,ev_put,t0]<;>rfl),(by simp[ev_c,ev_put,t5]<;>rfl),(by simp[ev_c,ev_put,t6]<;>rfl),(by simp[ev_c,ev_put]<;>rfl)⟩
 ·rintro s ⟨tm,z,rfl,hJ,t0,t5,t6,t7⟩
  simp -implicitDefEqProofs(maxSteps:=999999)(disch:=first|with_reducible rfl|omega|(simp only[nA,nS,nD]<;>omega)|fail)only[go_sem,t0,t5,t6,t7,Int.lt_irrefl]
  exact q _ _ hJ
set_option maxHeartbeats 4000000 in
theorem appSeqInt_ev {h:H}(hw:h.wf){x:V}{l:List Int}(hx:SlAt h x 1 (l.map encI))(hl:l.length≤100000){b:Nat}(g:h.get b=some (.cells .rw [x]))(Q:V→H→Prop)(q:∀w h',OwnSl h h' w 1 (l.map encI)→(l=[]→w=.nils)→Q w h'):
  Ev fnG fastA (.fn 181 [] []) [.nils,.fn 161 [] [.ptr b 0]] h Q:=by
 refine Ev_body (fd:=c181) rfl rfl rfl ?_
 simp -implicitDefEqProofs(maxSteps:=999999)(disch:=first|with_reducible rfl|omega|(simp only[nA,nS,nD]<;>omega)|fail)only[c181,go_sem]
 have s1:h.Sub (h.add (.cells .rw [.nils])):=(H.Sub.refl hw).add _
 have gc1:(h.add (.cells .rw [.nils])).get h.next=some (.cells .rw [.nils]):=get_add_new rfl
 have n1:=H.next_add h (.cells .rw [.nils])
 generalize h.add (.cells .rw [.nils])=h1 at s1 gc1 n1⊢
 have w1:=s1.wf
 refine W_gen (P:=fun tm=>(Opd.t 2).ev tm=.ptr h.next 0∧(Opd.t 6).ev tm=.fn 161 [] [.ptr b 0]) ⟨(by simp[ev_c,ev_put]<;>rfl),(by simp[ev_c,ev_put]<;>rfl)⟩ fun tm ⟨t2,t6⟩=>?_
 refine W_rf t6 ?_
 generalize hr:LoopR.mk _ _ _ _ _ _ _ _ _=r0
 have fB:=congrArg LoopR.body hr
 have fA:=congrArg LoopR.assign hr
 have fN:=congrArg LoopR.n hr
 have fF:=congrArg LoopR.fn hr
 have fP:=congrArg LoopR.ps hr
 have fT:=congrArg LoopR.tm hr
 dsimp only at fB fA fN fF fP fT
 have hrs:r0.st=.ready:=by rw[←hr]
 have hrp:r0.pend=none:=by rw[←hr]
 obtain⟨J,hJ⟩:∃J:Nat→H→Prop,∀n x,J n x↔∃y,OwnSl h x y 1 ((l.take n).map encI)∧(∀c,blkOf y c→h1.next+1<c)∧x.get (h1.next+1)=some (.loop r0)∧x.get h1.next=some .dfr∧x.get h.next=some (.cells .rw [y])∧(n=0→y=.nils):=⟨_,fun _ _=>Iff.rfl⟩
 have s3:h.Sub ((h1.add .dfr).add (.loop r0)):=(s1.add _).add _
 have j0:J 0 ((h1.add .dfr).add (.loop r0)):=(hJ _ _).2 ⟨.nils,OwnSl.nil s3 1,fun b hb=>(blkOf_nils hb).elim,get_add_new (by rw[H.next_add]),by rw[get_add_old (by rw[H.next_add];omega)];exact get_add_new rfl,
  by rw[get_add_old (by rw[H.next_add];omega),get_add_old (by omega)];exact gc1,fun _=>rfl⟩
 refine(vals_gen hx g (y:=.yld (h1.next+1)) ⟨_,rfl⟩ (J:=J) (fun n z hz=>?_) (fun n m hm x hx=>?_) j0).mono fun u h7 hJ7=>?_
 ·obtain⟨y,o,_⟩:=(hJ _ _).1 hz;exact o.1
 ·obtain⟨y,o,yb,gl,gd,gc,_⟩:=(hJ _ _).1 hx
  refine Ev.gen fun Q2 q2=>?_
  have sx:=o.1
  have wx:=sx.wf
  have lx:=wx _ _ gl
  have hn:=getl hm
  refine Ev_yld (tm:=tm.put (some (.int .i64 m)) 7) gl (by rw[←fP,←fT];rfl) ?_
  rw[←fA,←fN,←fF]
  simp -implicitDefEqProofs(maxSteps:=999999)(disch:=first|with_reducible rfl|omega|(simp only[nA,nS,nD]<;>omega)|fail)only[go_sem,t2]
  unfold Kasg
  refine⟨rfl,r0,gl,hrs,?_⟩
  obtain⟨rb,hrb⟩:∃rb:LoopR,rb={r0 with st:=.busy}:=⟨_,rfl⟩
  have hrb1:({rb with st:=.ready,pend:=none}:LoopR)=r0:=by rw[hrb];exact rLoop hrs hrp
  rw[←hrb,←fB,←fN,←fF]
  have K3:Keeps (fun b=>b=h1.next+1) x (x.set (h1.next+1) (.loop rb)):=Keeps.set _ _ _
  have s4:h.Sub (x.set (h1.next+1) (.loop rb)):=sx.set (by omega) (by omega) hw _
  have gl4:(x.set (h1.next+1) (.loop rb)).get (h1.next+1)=some (.loop rb):=get_set_same rfl
  have n4:(x.set (h1.next+1) (.loop rb)).next=x.next:=H.next_set _ _ _
  have o4:=o.keep K3 s4 fun b hb e=>by have:=yb b hb;omega
  generalize x.set (h1.next+1) (.loop rb)=h4 at K3 s4 gl4 n4 o4⊢
  have gc4:=K3.2 _ _ gc (by omega)
  have gd4:=K3.2 _ _ gd (by omega)
  have s5:=(H.Sub.refl s4.wf).add (.cells .rw [.int .i64 m])
  have sn:SlAt (h4.add (.cells .rw [.int .i64 m])) (.sl h4.next 0 1 (.fix 1)) 1 [encI m]:=SlAt.new _ rfl rfl rfl (by simp[encI]) (by simp)
  have n5:=H.next_add h4 (.cells .rw [.int .i64 m])
  simp -implicitDefEqProofs(maxSteps:=999999)(disch:=first|with_reducible rfl|omega|(simp only[nA,nS,nD]<;>omega)|fail)only[go_sem,t2,cells_of gc4]
  refine(o4.mono s5).app1 (by_:=8) (r:=encI m) hw rfl (by omega) sn rfl (by rw[List.length_map,List.length_take];omega) (by rw[List.length_map,List.length_take];omega) fun h6 o6 k6 n6=>?_
  have gl6:=k6.2 _ _ (s5.get gl4) fun hb=>by have:=yb _ hb;omega
  have gd6:=k6.2 _ _ (s5.get gd4) fun hb=>by have:=yb _ hb;omega
  have gc6:=k6.2 _ _ (s5.get gc4) fun hb=>by have:=yb _ hb;omega
  obtain⟨y',hy'⟩:∃y':V,V.sl (h4.add (.cells .rw [.int .i64 m])).next 0 (((l.take n).map encI).length+1) (.slk 0 0)=y':=⟨_,rfl⟩
  have y1':=o6.c.one
  have yb6:∀c,blkOf (V.sl (h4.add (.cells .rw [.int .i64 m])).next 0 (((l.take n).map encI).length+1) (.slk 0 0)) c→h1.next+1<c∧c<h6.next:=fun c ⟨o,k,cc,e⟩=>by cases e;omega
  rw[hy'] at o6 y1' yb6⊢
  simp -implicitDefEqProofs(maxSteps:=999999)(disch:=first|with_reducible rfl|omega|(simp only[nA,nS,nD]<;>omega)|fail)only[go_sem,t2,gc6,y1',cells_one y1']
  unfold Kround
  have lc6:=s4.wf _ _ gc4
  have s7:h.Sub (h6.set h.next (.cells .rw [y'])):=o6.1.set (by omega) (by omega) hw _
  have s8:h.Sub ((h6.set h.next (.cells .rw [y'])).set (h1.next+1) (.loop r0)):=s7.set (by omega) (by rw[H.next_set];omega) hw _
  have k7:Keeps (fun c=>c=h.next∨c=h1.next+1) h6 ((h6.set h.next (.cells .rw [y'])).set (h1.next+1) (.loop r0)):=⟨by simp only[H.next_set];omega,fun c w gw nb=>by rw[get_set_other fun e=>nb (.inr e),get_set_other fun e=>nb (.inl e)];exact gw⟩
  refine⟨rb,by rw[get_set_other (by omega)];exact gl6,q2 _ _ ⟨rfl,?_⟩⟩
  rw[hrb1]
  have e7:(l.take (n+1)).map encI=(l.take n).map encI++[encI m]:=by rw[List.take_add_one,hm,List.map_append];rfl
  refine(hJ _ _).2 ⟨y',?_,fun c hc=>(yb6 c hc).1,get_set_same rfl,?_,?_,fun e=>by cases e⟩
  ·rw[e7];exact o6.keep k7 s8 fun c hc e=>by have:=yb6 c hc;omega
  ·exact k7.2 _ _ gd6 (by omega)
  ·rw[get_set_other (by omega)];exact get_set_same rfl
 ·obtain⟨y,o,yb,gl,gd,gc,y0⟩:=(hJ _ _).1 hJ7
  refine⟨r0,gl,by rw[hrs];simp,?_⟩
  rw[hrp]
  have s7:=o.1
  have lt7:=s7.wf _ _ gl
  have s8:h.Sub (h7.set (h1.next+1) (.loop {r0 with st:=.exhausted})):=s7.set (by omega) lt7 hw _
  have K8:Keeps (fun c=>c=h1.next+1) h7 (h7.set (h1.next+1) (.loop {r0 with st:=.exhausted})):=Keeps.set _ _ _
  have d8:=K8.2 _ _ gd (by omega)
  have e8:=K8.2 _ _ gc (by omega)
  rw[hrp] at s8 K8 d8 e8
  generalize h7.set (h1.next+1) _=h8 at s8 K8 d8 e8⊢
  have y1:=o.c.one
  simp -implicitDefEqProofs(maxSteps:=999999)(disch:=first|with_reducible rfl|omega|(simp only[nA,nS,nD]<;>omega)|fail)only[go_sem,t2,cells_of e8,Kfin_ret1 _ _ _ d8]
  have s9:h.Sub (h8.del h1.next):=H.Sub.del s8 (by omega) hw
  have K9:Keeps (fun c=>c=h1.next+1∨c=h1.next) h7 (h8.del h1.next):=⟨by rw[H.next_del];exact K8.1,fun b w g nb=>by rw[get_del_other fun e=>nb (.inr e)];exact K8.2 _ _ g fun e=>nb (.inl e)⟩
  rw[List.take_length] at o
  exact q _ _ (o.keep K9 s9 fun b hb e=>by have:=yb b hb;omega) fun e=>y0 (by rw[e];rfl)
theorem collectInt_ev {h:H}(hw:h.wf){x:V}{l:List Int}(hx:SlAt h x 1 (l.map encI))(hl:l.length≤100000){b:Nat}(g:h.get b=some (.cells .rw [x]))(Q:V→H→Prop)(q:∀w h',OwnSl h h' w 1 (l.map encI)→(l=[]→w=.nils)→Q w h'):
  Ev fnG fastA (.fn 160 [] []) [.fn 161 [] [.ptr b 0]] h Q:=by
 refine Ev_body (fd:=c160) rfl rfl rfl ?_
 simp -implicitDefEqProofs(maxSteps:=999999)(disch:=first|with_reducible rfl|omega|(simp only[nA,nS,nD]<;>omega)|fail)only[c160,go_sem]
 refine appSeqInt_ev hw hx hl g _ fun w h' o o0=>?_
 simp -implicitDefEqProofs(maxSteps:=999999)(disch:=first|with_reducible rfl|omega|(simp only[nA,nS,nD]<;>omega)|fail)only[go_sem]
 exact q _ _ o o0
theorem sort0_ev {h:H}(Q:V→H→Prop):Ev fnG fastA (.fn 149 [] []) [.nils] h Q=Q (.tup []) h:=Ev.det ⟨1,.tup [],h,rfl,rfl,rfl⟩ Q
theorem sorted_ev {h:H}(hw:h.wf){x:V}{l:List Int}(hx:SlAt h x 1 (l.map encI))(h0:l≠[])(hl:l.length≤100000){b:Nat}(g:h.get b=some (.cells .rw [x]))(Q:V→H→Prop)
  (q:∀c h',h.Sub h'→h.next≤c→h'.get c=some (.cells (.gr 1) ((sortI l).map iv))→Q (.sl c 0 l.length (.slk 0 0)) h'):Ev fnG fastA (.fn 114 [] []) [.fn 161 [] [.ptr b 0]] h Q:=by
 refine Ev_body (fd:=c114) rfl rfl rfl ?_
 simp -implicitDefEqProofs(maxSteps:=999999)(disch:=first|with_reducible rfl|omega|(simp only[nA,nS,nD]<;>omega)|fail)only[c114,go_sem]
 refine collectInt_ev hw hx hl g _ fun w h' o _=>?_
 have l1:=List.length_pos_iff.2 h0
 obtain⟨c,rfl,lc,gc⟩:=rise_ev o hw (by omega) hl
 have lc2:=o.1.wf _ _ gc
 simp -implicitDefEqProofs(maxSteps:=999999)(disch:=first|with_reducible rfl|omega|(simp only[nA,nS,nD]<;>omega)|fail)only[go_sem,sort_ev gc (by omega) (by omega)]
 exact q _ _ (o.1.set lc lc2 hw _) lc (get_set_same rfl)
theorem sorted0_ev {h:H}(hw:h.wf){x:V}(hx:SlAt h x 1 (([]:List Int).map encI)){b:Nat}(g:h.get b=some (.cells .rw [x]))(Q:V→H→Prop)
  (q:∀h',h.Sub h'→Q .nils h'):Ev fnG fastA (.fn 114 [] []) [.fn 161 [] [.ptr b 0]] h Q:=by
 refine Ev_body (fd:=c114) rfl rfl rfl ?_
 simp -implicitDefEqProofs(maxSteps:=999999)(disch:=first|with_reducible rfl|omega|(simp only[nA,nS,nD]<;>omega)|fail)only[c114,go_sem]
 refine collectInt_ev hw hx (by simp) g _ fun w h' o o0=>?_
 have e:w=.nils:=o0 rfl
 subst e
 simp -implicitDefEqProofs(maxSteps:=999999)(disch:=first|with_reducible rfl|omega|(simp only[nA,nS,nD]<;>omega)|fail)only[go_sem,sort0_ev]
 exact q _ o.1
end Go.Ab.Tryz
namespace Go.Ab.Tryz
open Go.Proofs
def lstF (l:List Int)(i:Nat):Bool:=l.any fun r=>decide ((i:Int)=r)
def agreeR (a:At)(l:List Int):Bool × Int:=
 if checkA a≠0 then(false,checkA a) else if(l.all fun i=>inB i 0 ((a.rds.length:Int)-1))=false then(false,1) else if(risL l).length<l.length then(false,5) else(decide (casesL a (lstF l)≠[]),0)
theorem compact0_ev {h:H}(Q:V→H→Prop):Ev fnG fastA (.fn 116 [] []) [.nils] h Q=Q .nils h:=by
 have h02:decide ((0:Int)<2)=true:=rfl
 refine Ev.det (Ev_body (fd:=c116) rfl rfl rfl ?_) Q
 simp -implicitDefEqProofs(maxSteps:=999999)(disch:=first|with_reducible rfl|omega|(simp only[nA,nS,nD]<;>omega)|fail)only[c116,go_sem,h02]
theorem sortedC_ev {h:H}(hw:h.wf){x:V}{l:List Int}(hx:SlAt h x 1 (l.map encI))(hl:l.length≤100000){b:Nat}(g:h.get b=some (.cells .rw [x]))(Q:V→H→Prop)
  (q:∀w h',h.Sub h'→(∀Q2:V→H→Prop,(∀w2 h2,h.Sub h2→SlAt h2 w2 1 ((risL l).map encI)→Q2 w2 h2)→Ev fnG fastA (.fn 116 [] []) [w] h' Q2)→Q w h'):Ev fnG fastA (.fn 114 [] []) [.fn 161 [] [.ptr b 0]] h Q:=by
 by_cases hnil:l=[]
 ·subst hnil
  refine sorted0_ev hw hx g _ fun h' s=>q _ _ s fun Q2 q2=>?_
  rw[compact0_ev]
  exact q2 _ _ s (show SlAt _ _ 1 (([]:List Int).map encI) from⟨by simp,by simp,.inl ⟨rfl,rfl⟩⟩)
 ·refine sorted_ev hw hx hnil hl g _ fun c h' s lc gc=>q _ _ s fun Q2 q2=>?_
  have hlen:=sortI_len l
  have lp:=List.length_pos_iff.2 hnil
  rw[←hlen]
  exact Compact_ev s hw lc gc (by omega) (by omega) _ fun w2 h2 s2 _ x2=>q2 _ _ s2 x2
theorem agree1_ev {h:H}(hw:h.wf){a:At}{C R G:V}(x:AtAt h C R G a){b:Nat}(g:h.get b=some (.cells .rw (atV a C R G)))(n:Int):PureA h (.fn 113 [] [.ptr b 0]) [.int .i64 n] (.bool (inB n 0 ((a.rds.length:Int)-1))):=by
 intro h1 s
 refine Ev.gen fun Q q=>?_
 have hlR:=x.r.lenE
 have hb:=x.r.2.1
 rw[List.length_map] at hb
 have w1:wr .i64 ((a.rds.length:Int)-1)=(a.rds.length:Int)-1:=wr_in (by omega) (by omega)
 refine Ev_body (fd:=c113) rfl rfl rfl ?_
 simp -implicitDefEqProofs(maxSteps:=999999)(disch:=first|with_reducible rfl|omega|(simp only[nA,nS,nD]<;>omega)|fail)only[c113,go_sem,cells_of (s.get g),hlR,w1,in_eq]
 exact q _ _ ⟨rfl,H.Sub.refl s.wf⟩
theorem some1_ev {h:H}{x:V}{l:List Int}(hx:SlAt h x 1 (l.map encI)){b:Nat}(g:h.get b=some (.cells .rw [x]))(n:Int):PureA h (.fn 162 [] [.ptr b 0]) [.int .i64 n] (.bool (l.any fun r=>decide (n=r))):=by
 intro h1 s
 refine Ev.gen fun Q q=>?_
 refine Ev_body (fd:=c162) rfl rfl rfl ?_
 simp -implicitDefEqProofs(maxSteps:=999999)(disch:=first|with_reducible rfl|omega|(simp only[nA,nS,nD]<;>omega)|fail)only[c162,go_sem,cells_of (s.get g)]
 refine hasInt_ev s.wf (hx.mono s) n _ fun h2 s2=>?_
 simp -implicitDefEqProofs(maxSteps:=999999)(disch:=first|with_reducible rfl|omega|(simp only[nA,nS,nD]<;>omega)|fail)only[go_sem]
 exact q _ _ ⟨rfl,s2⟩
theorem some_eq {h:H}{x:V}(hx:x.one=true)(Q:V→H→Prop):Ev fnG fastA (.fn 117 [] []) [x] h Q=Q (.agg [.fn 162 [] [.ptr h.next 0]]) ((h.add (.cells .rw [x])).add (.cells .rw [.fn 162 [] [.ptr h.next 0]])):=by
 refine Ev.det (Ev_body (fd:=c117) rfl rfl rfl ?_) Q
 simp -implicitDefEqProofs(maxSteps:=999999)(disch:=first|with_reducible rfl|omega|(simp only[nA,nS,nD]<;>omega)|fail)only[c117,go_sem,hx,cells_one hx]
set_option maxHeartbeats 4000000 in
theorem Agree_ev {h:H}(hw:h.wf){a:At}{C R G:V}(x:AtAt h C R G a){y:V}{l:List Int}(hy:SlAt h y 1 (l.map encI))(hl:l.length≤100000)(Q:V→H→Prop)(q:∀h',h.Sub h'→Q (.tup [.bool (agreeR a l).1,.int .i64 (agreeR a l).2]) h'):
  Ev fnG fastA (.fn 43 [] []) [.agg (atV a C R G),y] h Q:=by
 have oC:=x.c.one;have oR:=x.r.one;have oG:=x.g.one
 have oy:=hy.one
 refine Ev_body (fd:=c43) rfl rfl rfl ?_
 obtain⟨z,hz⟩:∃z,h.add (.cells .rw (atV a C R G))=z:=⟨_,rfl⟩
 have sz:h.Sub z:=by rw[←hz];exact(by repeat(first|assumption|exact H.Sub.refl (by assumption)|refine H.Sub.add ?_ _|refine H.Sub.set ?_ (by first|omega|(simp only[H.next_add,H.next_set,H.next_del]<;>omega)) (by first|omega|(simp only[H.next_add,H.next_set,H.next_del]<;>omega)) (by assumption) _))
 have ga:z.get h.next=some (.cells .rw (atV a C R G)):=by rw[←hz];exact get_add_new rfl
 simp -implicitDefEqProofs(maxSteps:=999999)(disch:=first|with_reducible rfl|omega|(simp only[nA,nS,nD]<;>omega)|fail)only[c43,go_sem,oC,oR,oG]
 rw[hz]
 clear hz
 refine check_ev sz.wf ⟨C,R,G,rfl,x.mono sz⟩ _ fun z1 s1=>?_
 have s01:=sz.trans s1
 by_cases he:checkA a=0
 case neg=>
  simp -implicitDefEqProofs(maxSteps:=999999)(disch:=first|with_reducible rfl|omega|(simp only[nA,nS,nD]<;>omega)|fail)only[go_sem,he,ne_eq,not_false_eq_true]
  have e:agreeR a l=(false,checkA a):=if_pos he
  rw[e] at q
  exact q _ s01
 have r:=checkA_iff.1 he
 rw[he]
 have g1:=s1.get ga
 simp -implicitDefEqProofs(maxSteps:=999999)(disch:=first|with_reducible rfl|omega|(simp only[nA,nS,nD]<;>omega)|fail)only[go_sem,ne_eq,not_true_eq_false]
 refine(everyInt_ev (p:=fun i=>inB i 0 ((a.rds.length:Int)-1)) s01.wf (hy.mono s01) fun n _=>agree1_ev s01.wf (x.mono s01) g1 n).mono fun _ z2 hv=>?_
 obtain⟨rfl,s2⟩:=hv
 have s02:=s01.trans s2
 cases hall:(l.all fun i=>inB i 0 ((a.rds.length:Int)-1)) with
 |false=>
  have e:agreeR a l=(false,1):=by unfold agreeR;rw[if_neg (by rw[he];simp),if_pos hall]
  rw[e] at q
  simp -implicitDefEqProofs(maxSteps:=999999)(disch:=first|with_reducible rfl|omega|(simp only[nA,nS,nD]<;>omega)|fail)only[go_sem]
  exact q _ s02
 |true=>
 have e:agreeR a l=if(risL l).length<l.length then(false,5) else(decide (casesL a (lstF l)≠[]),0):=by unfold agreeR;rw[if_neg (by rw[he];simp),if_neg (by rw[hall];simp)]
 have sA:=(H.Sub.refl s02.wf).add (.cells .rw [y])
 have gA:(z2.add (.cells .rw [y])).get z2.next=some (.cells .rw [y]):=get_add_new rfl
 have hly:=hy.lenE
 have g2:=s2.get g1
 simp -implicitDefEqProofs(maxSteps:=999999)(disch:=first|with_reducible rfl|omega|(simp only[nA,nS,nD]<;>omega)|fail)only[go_sem,values_eq oy]
 obtain⟨zA,hzA⟩:∃zA,z2.add (.cells .rw [y])=zA:=⟨_,rfl⟩
 rw[hzA] at sA gA
 try rw[hzA]
 clear hzA
 have s0A:=s02.trans sA
 have hyA:=hy.mono s0A
 refine sortedC_ev sA.wf hyA hl gA _ fun w zB sB hcomp=>?_
 simp -implicitDefEqProofs(maxSteps:=999999)(disch:=first|with_reducible rfl|omega|(simp only[nA,nS,nD]<;>omega)|fail)only[go_sem]
 refine hcomp _ fun w2 zC sC xw=>?_
 have hlw:=xw.lenE
 have s0C:=s0A.trans sC
 have gC:=(sA.trans sC).get g2
 by_cases hd:(risL l).length<l.length
 ·have hd':((risL l).length:Int)<(l.length:Int):=by omega
  rw[if_pos hd] at e
  rw[e] at q
  simp -implicitDefEqProofs(maxSteps:=999999)(disch:=first|with_reducible rfl|omega|(simp only[nA,nS,nD]<;>omega)|fail)only[go_sem,hlw,hly,hd']
  exact q _ s0C
 have hd':¬((risL l).length:Int)<(l.length:Int):=by omega
 rw[if_neg hd] at e
 rw[e] at q
 simp -implicitDefEqProofs(maxSteps:=999999)(disch:=first|with_reducible rfl|omega|(simp only[nA,nS,nD]<;>omega)|fail)only[go_sem,hlw,hly,hd',some_eq oy,cells_of gC]
 obtain⟨zD,hzD⟩:∃zD,(zC.add (.cells .rw [y])).add (.cells .rw [.fn 162 [] [.ptr zC.next 0]])=zD:=⟨_,rfl⟩
 have sD:zC.Sub zD:=by rw[←hzD];exact((H.Sub.refl sC.wf).add _).add _
 have gD:zD.get zC.next=some (.cells .rw [y]):=by rw[←hzD,get_add_old (by rw[H.next_add];omega)];exact get_add_new rfl
 try rw[hzD]
 clear hzD
 have s0D:=s0C.trans sD
 refine worked_ev s0D.wf (x.mono s0D) r rfl _ fun d W ms zE sE ld dk=>?_
 have s0E:=s0D.trans sE
 simp -implicitDefEqProofs(maxSteps:=999999)(disch:=first|with_reducible rfl|omega|(simp only[nA,nS,nD]<;>omega)|fail)only[go_sem,cells_of gC,cells_of (sD.get gC),cells_of ((sD.trans sE).get gC)]
 refine agreed_ev s0E.wf dk r (cnt:=lstF l) (fun i _=>some1_ev (hy.mono s0E) (sE.get gD) i) _ fun zF sF=>?_
 simp -implicitDefEqProofs(maxSteps:=999999)(disch:=first|with_reducible rfl|omega|(simp only[nA,nS,nD]<;>omega)|fail)only[go_sem,cells_of gC,cells_of (sD.get gC)]
 exact q _ (s0E.trans sF)
end Go.Ab.Tryz
namespace Go.Ab.Silk
def comb:Nat→Nat→Int→List (List Int)
 |0,_,_=>[[]]
 |_+1,0,_=>[]
 |k+1,f+1,i=>(comb k f (i+1)).map (fun l=>i::l)++comb (k+1) f (i+1)
def lexlt:List Int→List Int→Bool
 |a::l,b::r=>if a=b then lexlt l r else decide (a<b)
 |_,_=>false
def before (a b:List Int):Bool:=if a.length=b.length then lexlt a b else decide (a.length<b.length)
def Inc (hi:Int):Int→List Int→Prop
 |_,[]=>True
 |i,a::l=>i≤a∧a<hi∧Inc hi (a+1) l
theorem Inc.lower {hi:Int}:∀{i j:Int} {l:List Int},Inc hi i l→j≤i→Inc hi j l
 |_,_,[],_,_=>trivial
 |i,j,a::l,h,hj=>⟨by have:=h.1;omega,h.2.1,h.2.2⟩
theorem Inc.mem {hi:Int}:∀{i:Int} {l:List Int},Inc hi i l→∀x∈l,i≤x∧x<hi
 |_,[],_,x,hx=>by cases hx
 |i,a::l,h,x,hx=>by
  rcases List.mem_cons.1 hx with rfl|hx
  ·exact⟨h.1,h.2.1⟩
  ·have:=Inc.mem h.2.2 x hx;have:=h.1;omega
theorem Inc.len {hi:Int}:∀{i:Int} {l:List Int},Inc hi i l→i≤hi→(l.length:Int)≤hi-i
 |i,[],_,h=>by simp only[List.length_nil];omega
 |i,a::l,h,hl=>by
  have:=Inc.len h.2.2 (by have:=h.2.1;omega)
  have:=h.1
  simp only[List.length_cons];omega
theorem mem_comb:∀(k f:Nat) (i:Int) (l:List Int),l∈comb k f i↔l.length=k∧Inc (i+f) i l
 |0,f,i,l=>by
  simp only[comb,List.mem_singleton]
  constructor
  ·rintro rfl;exact⟨rfl,trivial⟩
  ·rintro⟨h,_⟩;exact List.length_eq_zero_iff.1 h
 |k+1,0,i,l=>by
  simp only[comb,List.not_mem_nil,false_iff]
  rintro⟨h,h2⟩
  cases l with
  |nil=>cases h
  |cons a l=>have:=h2.1;have:=h2.2.1;omega
 |k+1,f+1,i,l=>by
  simp only[comb,List.mem_append,List.mem_map,mem_comb k f (i+1),mem_comb (k+1) f (i+1)]
  have e:i+1+(f:Int)=i+((f+1:Nat):Int):=by omega
  rw[e]
  constructor
  ·rintro(⟨c,⟨h1,h2⟩,rfl⟩|⟨h1,h2⟩)
   ·exact⟨by simp[h1],Int.le_refl _,by omega,h2⟩
   ·exact⟨h1,h2.lower (by omega)⟩
  ·rintro⟨h1,h2⟩
   cases l with
   |nil=>cases h1
   |cons a l=>
    simp only[List.length_cons,Nat.add_right_cancel_iff] at h1
    by_cases ha:a=i
    ·subst ha;exact .inl ⟨l,⟨h1,h2.2.2⟩,rfl⟩
    ·exact .inr ⟨by simp[h1],⟨by have:=h2.1;omega,h2.2.1,h2.2.2⟩⟩
theorem find_min (P:List Int→Bool):∀(k f:Nat) (i:Int) {c:List Int},(comb k f i).find? P=some c→c∈comb k f i∧P c=true∧∀d∈comb k f i,P d=true→d=c∨lexlt c d=true
 |0,f,i,c,h=>by
  simp only[comb] at *
  have h1:=List.mem_of_find?_eq_some h
  have h2:=List.find?_some h
  refine⟨h1,h2,fun d hd _=>.inl ?_⟩
  rw[List.mem_singleton] at h1 hd
  rw[h1,hd]
 |k+1,0,i,c,h=>by simp[comb] at h
 |k+1,f+1,i,c,h=>by
  simp only[comb] at *
  rw[List.find?_append] at h
  cases h1:((comb k f (i+1)).map (fun l=>i::l)).find? P with
  |some x=>
   rw[h1] at h
   have hx:x=c:=by simpa using h
   subst hx
   rw[List.find?_map] at h1
   rw[Option.map_eq_some_iff] at h1
   obtain⟨y,h1,rfl⟩:=h1
   obtain⟨m1,m2,m3⟩:=find_min (P∘ fun l=>i::l) k f (i+1) h1
   refine⟨List.mem_append.2 (.inl (List.mem_map.2 ⟨y,m1,rfl⟩)),m2,fun d hd hp=>?_⟩
   rcases List.mem_append.1 hd with hd|hd
   ·obtain⟨z,hz,rfl⟩:=List.mem_map.1 hd
    rcases m3 z hz hp with rfl|h
    ·exact .inl rfl
    ·exact .inr (by simp[lexlt,h])
   ·right
    obtain⟨d1,d2⟩:=(mem_comb _ _ _ _).1 hd
    cases d with
    |nil=>cases d1
    |cons a d=>
     have:=d2.1
     simp only[lexlt]
     rw[if_neg (by omega)];simp only[decide_eq_true_eq];omega
  |none=>
   rw[h1] at h
   have h2:(comb (k+1) f (i+1)).find? P=some c:=by simpa using h
   obtain⟨m1,m2,m3⟩:=find_min P (k+1) f (i+1) h2
   refine⟨List.mem_append.2 (.inr m1),m2,fun d hd hp=>?_⟩
   rcases List.mem_append.1 hd with hd|hd
   ·have:=List.find?_eq_none.1 h1 d hd
    exact absurd hp this
   ·exact m3 d hd hp
def firstOf (P:List Int→Bool)(W:Nat):Nat→Nat→Option (List Int)
 |0,_=>none
 |r+1,k=>match(comb k W 0).find? P with
  |some c=>some c
  |none=>firstOf P W r (k+1)
structure IsMin (P:List Int→Bool)(W:Nat)(c:List Int):Prop where
 inc:Inc W 0 c
 holds:P c=true
 min:∀d,Inc W 0 d→P d=true→d=c∨before c d=true
theorem firstOf_spec (P:List Int→Bool)(W:Nat):∀(r k:Nat),r+k=W+1→(∀d,Inc W 0 d→d.length<k→P d=false)→
  (∃c,firstOf P W r k=some c∧IsMin P W c)∨(firstOf P W r k=none∧∀d,Inc W 0 d→P d=false)
 |0,k,hk,h=>.inr ⟨rfl,fun d hd=>h d hd (by have:=hd.len (by omega);omega)⟩
 |r+1,k,hk,h=>by
  simp only[firstOf]
  cases hf:(comb k W 0).find? P with
  |some c=>
   obtain⟨m1,m2,m3⟩:=find_min P k W 0 hf
   obtain⟨c1,c2⟩:=(mem_comb _ _ _ _).1 m1
   rw[Int.zero_add] at c2
   refine .inl ⟨c,rfl,c2,m2,fun d hd hp=>?_⟩
   have hl:¬d.length<k:=fun hl=>by rw[h d hd hl] at hp;cases hp
   by_cases e:d.length=k
   ·rcases m3 d ((mem_comb _ _ _ _).2 ⟨e,by rw[Int.zero_add];exact hd⟩) hp with h1|h1
    ·exact .inl h1
    ·exact .inr (by unfold before;rw[if_pos (by omega)];exact h1)
   ·exact .inr (by unfold before;rw[if_neg (by omega)];simp only[decide_eq_true_eq];omega)
  |none=>
   refine firstOf_spec P W r (k+1) (by omega) fun d hd hl=>?_
   by_cases e:d.length=k
   ·have:=List.find?_eq_none.1 hf d ((mem_comb _ _ _ _).2 ⟨e,by rw[Int.zero_add];exact hd⟩)
    simpa using this
   ·exact h d hd (by omega)
end Go.Ab.Silk
namespace Go.Ab
theorem Keeps.sub {S:Nat→Prop}{h0 h h':H}(k:Keeps S h h')(s:h0.Sub h)(hw0:h0.wf)(hS:∀c,S c→h0.next≤c)(hw:h'.wf):h0.Sub h':=
 ⟨⟨Nat.le_trans s.next k.1,fun b y e=>k.2 b y (s.get e) fun hs=>by have:=hS b hs;have:=hw0 b y e;omega⟩,hw⟩
theorem nblk (b:Nat):¬blkOf .nils b:=fun⟨_,_,_,e⟩=>by cases e
end Go.Ab
namespace Go.Ab.Tryz
open Go.Proofs
open Go.Ab.Silk (comb)
theorem find_step (P:List Int→Bool)(l:List Int)(k f:Nat)(j:Int):(comb (k+1) (f+1) j).find? (fun c=>P (l++c))=
  match(comb k f (j+1)).find? (fun c=>P ((l++[j])++c)) with|some c=>some (j::c)|none=>(comb (k+1) f (j+1)).find? (fun c=>P (l++c)):=by
 simp only[comb,List.find?_append,List.find?_map]
 have e:(fun c=>P (l++c))∘ (fun l'=>j::l')=fun c=>P ((l++[j])++c):=by
  funext c;simp
 rw[e]
 cases(comb k f (j+1)).find? (fun c=>P ((l++[j])++c))<;>simp
def FnHolds (hb:H)(fv:V)(S:Nat→Prop)(I:H→Prop)(n:Nat)(P:List Int→Bool)(Post:List Int→H→Prop):Prop:=∀(l:List Int) (x:V) (h1:H),(∀a∈l,0≤a∧a<(n:Int))→hb.Sub h1→SlAt h1 x 1 (l.map encI)→l.length≤20→(∀b,blkOf x b→hb.next≤b∧¬S b)→I h1→
 ∀R:V→H→Prop,(∀h2,Keeps S h1 h2→h2.wf→I h2→(P l=true→Post l h2)→R (.bool (P l)) h2)→Ev fnG fastA fv [x] h1 R
def LsRes (P:List Int→Bool)(Post:List Int→H→Prop)(l:List Int)(r:Option (List Int))(t:Bool)(h':H):Prop:=match r with
 |some c=>t=true∧P (l++c)=true∧Post (l++c) h'
 |none=>t=false
set_option maxHeartbeats 2000000 in
theorem lists1_ev {hb:H}(hwb:hb.wf){fv:V}{P:List Int→Bool}{Post:List Int→H→Prop}{S:Nat→Prop}{I:H→Prop}{kC fC nC gC:Nat}{many n:Nat}(hP:FnHolds hb fv S I n P Post)(hI:∀h h',I h→h.Sub h'→I h')(ho:∀c,S c→hb.next≤c)(hS:∀h c,I h→S c→c<h.next)(n1:¬S kC)(n2:¬S fC)(n3:¬S nC)(n4:¬S gC)(hmany:many≤20)(hn:n≤1000):
  ∀(k:Nat) (h:H) (x:V) (l:List Int) (i:Nat),l.length+k=many→(∀a∈l,0≤a∧a<(n:Int))→hb.Sub h→h.cells kC=some [.int .i64 (many:Int)]→h.cells fC=some [fv]→h.cells nC=some [.int .i64 (n:Int)]→h.cells gC=some [.fn 152 [] [.ptr kC 0,.ptr fC 0,.ptr nC 0,.ptr gC 0]]→
   I h→SlAt h x 1 (l.map encI)→(∀b,blkOf x b→hb.next≤b∧¬S b)→i≤n→∀(Q:V→H→Prop),(∀t h',Keeps S h h'→h'.wf→I h'→LsRes P Post l ((comb k (n-i) (i:Int)).find? fun c=>P (l++c)) t h'→Q (.bool t) h')→
   Ev fnG fastA (.fn 152 [] [.ptr kC 0,.ptr fC 0,.ptr nC 0,.ptr gC 0]) [x,.int .i64 (i:Int)] h Q:=by
 intro k
 induction k with
 |zero=>
  intro h x l i hk hlr hs cm ch cd cf go ax nx hi Q q
  have hlx:=ax.lenE
  have hll:(l.length:Int)=(many:Int):=by omega
  refine Ev_body (fd:=c152) rfl rfl rfl ?_
  simp -implicitDefEqProofs(maxSteps:=999999)(disch:=first|with_reducible rfl|omega|(simp only[nA,nS,nD]<;>omega)|fail)only[c152,go_sem,hlx,hll,cm,ch]
  refine hP l x h hlr hs ax (by omega) nx go _ fun h2 k2 w2 go2 hp=>?_
  simp -implicitDefEqProofs(maxSteps:=999999)(disch:=first|with_reducible rfl|omega|(simp only[nA,nS,nD]<;>omega)|fail)only[go_sem]
  refine q _ _ k2 w2 go2 ?_
  have e:(comb 0 (n-i) (i:Int)).find? (fun c=>P (l++c))=if P l=true then some [] else none:=by
   simp only[comb,List.find?_cons,List.find?_nil,List.append_nil]
   cases P l<;>rfl
  rw[e]
  cases hpl:P l
  ·exact rfl
  ·exact⟨rfl,by rw[List.append_nil];exact hpl,by rw[List.append_nil];exact hp hpl⟩
 |succ k ih=>
  intro h x l i hk hlr hs cm ch cd cf hgo ax nx hi Q q
  have hlx:=ax.lenE
  have hll:¬(l.length:Int)=(many:Int):=by omega
  refine Ev_body (fd:=c152) rfl rfl rfl ?_
  simp -implicitDefEqProofs(maxSteps:=999999)(disch:=first|with_reducible rfl|omega|(simp only[nA,nS,nD]<;>omega)|fail)only[c152,go_sem,hlx,hll,cm]
  refine W_count n (fun j s=>∃tm h',s=⟨tm,h',[]⟩∧Keeps S h h'∧h'.wf∧I h'∧((comb (k+1) (n-i) (i:Int)).find? fun c=>P (l++c))=((comb (k+1) (n-j) (j:Int)).find? fun c=>P (l++c))∧
    (Opd.t 0).ev tm=x∧(Opd.t 4).ev tm=.ptr nC 0∧(Opd.t 5).ev tm=.ptr gC 0∧(Opd.t 9).ev tm=.int .i64 (j:Int))
   ?_ ?_ (i:=i) hi ⟨_,_,rfl,Keeps.refl _ _,hs.wf,hgo,rfl,(by simp[ev_c,ev_put]<;>rfl),(by simp[ev_c,ev_put]<;>rfl),(by simp[ev_c,ev_put]<;>rfl),(by simp[ev_c,ev_put]<;>rfl)⟩
  ·rintro j s hj ⟨tm,h',rfl,kh,wh,go,hfind,t0,t4,t5,t9⟩
   have hj':(j:Int)<(n:Int):=by omega
   have hs':hb.Sub h':=kh.sub hs hwb ho wh
   have cm':=kh.cells cm n1
   have ch':=kh.cells ch n2
   have cd':=kh.cells cd n3
   have cf':=kh.cells cf n4
   have ax':=SlAt_keep ax kh fun b h0=>(nx b h0).2
   have hll2:(l.map encI).length≤20:=by simp;omega
   simp -implicitDefEqProofs(maxSteps:=999999)(disch:=first|with_reducible rfl|omega|(simp only[nA,nS,nD]<;>omega)|fail)only[go_sem,t0,t4,t5,t9,cd',hj',cf']
   refine cloneInt_ev wh ax' (by omega) _ fun v h1 ov=>?_
   have s01:=ov.1
   have cf1:=s01.cells cf'
   simp -implicitDefEqProofs(maxSteps:=999999)(disch:=first|with_reducible rfl|omega|(simp only[nA,nS,nD]<;>omega)|fail)only[go_sem,t0,t4,t5,t9]
   have s12:=(H.Sub.refl s01.wf).add (.cells .rw [.int .i64 (j:Int)])
   refine(ov.mono s12).app1 (by_:=8) (r:=encI (j:Int)) wh rfl (by omega) (SlAt.new _ rfl rfl rfl (by simp[encI]) (by simp)) rfl (by omega) (by omega) fun x2 h2 ox2 dx2 kx2=>?_
   have s02:=ox2.1
   have cf2:=s02.cells cf'
   have e2:l.map encI++[encI (j:Int)]=(l++[(j:Int)]).map encI:=by simp
   have ox2':=ox2
   rw[e2] at ox2'
   have ax2:SlAt h2 x2 1 ((l++[(j:Int)]).map encI):=ox2'.sl (by simp;omega)
   simp -implicitDefEqProofs(maxSteps:=999999)(disch:=first|with_reducible rfl|omega|(simp only[nA,nS,nD]<;>omega)|fail)only[go_sem,t0,t4,t5,t9,wr_succ]
   refine ih h2 x2 (l++[(j:Int)]) (j+1) (by simp;omega) (fun a ha=>(List.mem_append.1 ha).elim (hlr a) fun h=>by rw[List.mem_singleton] at h;omega) (hs'.trans s02) (s02.cells cm') (s02.cells ch') (s02.cells cd') cf2 (hI _ _ go s02) ax2 (fun b h0=>⟨by have:=(ox2.blk h0).1;have:=hs'.next;have:=s01.next;omega,fun hq=>by have:=(ox2.blk h0).1;have:=hS _ _ go hq;omega⟩) (by omega) _ fun t h3 k23 w3 go3 hres=>?_
   have k03:Keeps S h h3:=((kh.trans (Keeps.of s02 S)).trans k23).mono fun c h=>by rcases h with(h|h)|h<;>exact h
   have hst:=find_step P l k (n-(j+1)) (j:Int)
   have ef:n-j=(n-(j+1))+1:=by omega
   have ej:((j:Int)+1)=((j+1:Nat):Int):=by omega
   rw[ef,hst,ej] at hfind
   cases hr:(comb k (n-(j+1)) ((j+1:Nat):Int)).find? (fun c=>P ((l++[(j:Int)])++c)) with
   |some c=>
    rw[hr] at hres hfind
    obtain⟨rfl,hp1,hp2⟩:=hres
    simp -implicitDefEqProofs(maxSteps:=999999)(disch:=first|with_reducible rfl|omega|(simp only[nA,nS,nD]<;>omega)|fail)only[go_sem,t0,t4,t5,t9,cf',cf1,s12.cells cf1,cf2]
    refine q _ _ k03 w3 go3 ?_
    rw[hfind]
    exact⟨rfl,by rw[List.append_assoc] at hp1;exact hp1,by rw[List.append_assoc] at hp2;exact hp2⟩
   |none=>
    rw[hr] at hres hfind
    have hres:t=false:=hres
    subst hres
    simp -implicitDefEqProofs(maxSteps:=999999)(disch:=first|with_reducible rfl|omega|(simp only[nA,nS,nD]<;>omega)|fail)only[go_sem,t0,t4,t5,t9,cf',cf1,s12.cells cf1,cf2,wr_succ]
    exact⟨_,_,rfl,k03,w3,go3,hfind,(by simp[ev_c,ev_put,t0]<;>rfl),(by simp[ev_c,ev_put,t4]<;>rfl),(by simp[ev_c,ev_put,t5]<;>rfl),(by simp[ev_c,ev_put]<;>rfl)⟩
  ·rintro s ⟨tm,h',rfl,kh,wh,hgo',hfind,t0,t4,t5,t9⟩
   have cd':=kh.cells cd n3
   simp -implicitDefEqProofs(maxSteps:=999999)(disch:=first|with_reducible rfl|omega|(simp only[nA,nS,nD]<;>omega)|fail)only[go_sem,t0,t4,t5,t9,cd',Int.lt_irrefl]
   refine q _ _ kh wh hgo' ?_
   rw[hfind,Nat.sub_self]
   exact rfl
theorem lists_ev {hb h:H}(hwb:hb.wf){fv:V}{P:List Int→Bool}{Post:List Int→H→Prop}{S:Nat→Prop}{I:H→Prop}{k n:Nat}(hP:FnHolds hb fv S I n P Post)(hI:∀h h',I h→h.Sub h'→I h')(ho:∀c,S c→hb.next≤c)(hS:∀h c,I h→S c→c<h.next)(h1:fv.one=true)(hs:hb.Sub h)(go:I h)(hk:k≤20)(hn:n≤1000)(Q:V→H→Prop)
  (q:∀t h',Keeps S h h'→h'.wf→I h'→LsRes P Post [] ((comb k n 0).find? P) t h'→Q (.bool t) h'):Ev fnG fastA (.fn 84 [] []) [.int .i64 (k:Int),.int .i64 (n:Int),fv] h Q:=by
 have lo:∀c,S c→c<h.next:=fun c=>hS h c go
 refine Ev_body (fd:=c84) rfl rfl rfl ?_
 have sA:h.Sub ((((h.add (.cells .rw [.int .i64 (k:Int)])).add (.cells .rw [.int .i64 (n:Int)])).add (.cells .rw [fv])).add (.cells .rw [.fn 152 [] [.ptr h.next 0,.ptr (h.next+1+1) 0,.ptr (h.next+1) 0,.ptr (h.next+1+1+1) 0]])):=(((((H.Sub.refl hs.wf).add _).add _).add _).add _)
 have ck:((((h.add (.cells .rw [.int .i64 (k:Int)])).add (.cells .rw [.int .i64 (n:Int)])).add (.cells .rw [fv])).add (.cells .rw [.fn 152 [] [.ptr h.next 0,.ptr (h.next+1+1) 0,.ptr (h.next+1) 0,.ptr (h.next+1+1+1) 0]])).cells h.next=some [.int .i64 (k:Int)]:=by simp -implicitDefEqProofs(maxSteps:=999999)(disch:=first|with_reducible rfl|omega|(simp only[nA,nS,nD]<;>omega)|fail)only[go_sem]
 have cn:((((h.add (.cells .rw [.int .i64 (k:Int)])).add (.cells .rw [.int .i64 (n:Int)])).add (.cells .rw [fv])).add (.cells .rw [.fn 152 [] [.ptr h.next 0,.ptr (h.next+1+1) 0,.ptr (h.next+1) 0,.ptr (h.next+1+1+1) 0]])).cells (h.next+1)=some [.int .i64 (n:Int)]:=by simp -implicitDefEqProofs(maxSteps:=999999)(disch:=first|with_reducible rfl|omega|(simp only[nA,nS,nD]<;>omega)|fail)only[go_sem]
 have cf:((((h.add (.cells .rw [.int .i64 (k:Int)])).add (.cells .rw [.int .i64 (n:Int)])).add (.cells .rw [fv])).add (.cells .rw [.fn 152 [] [.ptr h.next 0,.ptr (h.next+1+1) 0,.ptr (h.next+1) 0,.ptr (h.next+1+1+1) 0]])).cells (h.next+1+1)=some [fv]:=by simp -implicitDefEqProofs(maxSteps:=999999)(disch:=first|with_reducible rfl|omega|(simp only[nA,nS,nD]<;>omega)|fail)only[go_sem]
 have cg:((((h.add (.cells .rw [.int .i64 (k:Int)])).add (.cells .rw [.int .i64 (n:Int)])).add (.cells .rw [fv])).add (.cells .rw [.fn 152 [] [.ptr h.next 0,.ptr (h.next+1+1) 0,.ptr (h.next+1) 0,.ptr (h.next+1+1+1) 0]])).cells (h.next+1+1+1)=some [.fn 152 [] [.ptr h.next 0,.ptr (h.next+1+1) 0,.ptr (h.next+1) 0,.ptr (h.next+1+1+1) 0]]:=by simp -implicitDefEqProofs(maxSteps:=999999)(disch:=first|with_reducible rfl|omega|(simp only[nA,nS,nD]<;>omega)|fail)only[go_sem]
 simp -implicitDefEqProofs(maxSteps:=999999)(disch:=first|with_reducible rfl|omega|(simp only[nA,nS,nD]<;>omega)|fail)only[c84,go_sem,h1,cells_one h1]
 generalize((((h.add (.cells .rw [.int .i64 (k:Int)])).add (.cells .rw [.int .i64 (n:Int)])).add (.cells .rw [fv])).add (.cells .rw [.fn 152 [] [.ptr h.next 0,.ptr (h.next+1+1) 0,.ptr (h.next+1) 0,.ptr (h.next+1+1+1) 0]]))=h5 at sA ck cn cf cg⊢
 have hl:=lists1_ev hwb hP hI ho hS (kC:=h.next) (fC:=h.next+1+1) (nC:=h.next+1) (gC:=h.next+1+1+1) (fun q=>by have:=lo _ q;omega) (fun q=>by have:=lo _ q;omega) (fun q=>by have:=lo _ q;omega) (fun q=>by have:=lo _ q;omega) (many:=k) (n:=n) hk hn k h5 .nils [] 0 (by simp) (by simp) (hs.trans sA) ck cf cn cg (hI _ _ go sA) ⟨by simp,by simp,.inl ⟨rfl,rfl⟩⟩ (fun b hb=>absurd hb (nblk b)) (Nat.zero_le _)
 refine hl _ fun t h6 k6 w6 go6 hres=>?_
 simp -implicitDefEqProofs(maxSteps:=999999)(disch:=first|with_reducible rfl|omega|(simp only[nA,nS,nD]<;>omega)|fail)only[go_sem]
 exact q t h6 (((Keeps.of sA S).trans k6).mono fun c h=>by rcases h with h|h<;>exact h) w6 go6 (by simpa using hres)
end Go.Ab.Tryz
namespace Go.Ab.Tryz
open Go.Proofs
open Go.Ab.Silk (comb firstOf)
theorem sl_noMap {h:H}{x:V}{sz:Nat}{rows:List (List V)}(a:SlAt h x sz rows)(m:Nat):x≠.map m:=by
 rcases a.2.2 with⟨e,_⟩|⟨_,_,_,_,e,_⟩<;>rw[e]<;>simp
theorem maps_keep {h h':H}{S:Nat→Prop}{W:V}{ms:List Nat}(w:SlAt h W 1 (ms.map fun b=>[V.map b]))(k:Keeps S h h')(n:∀b cs,S b→h.cells b=some cs→∀m,V.map m ∉cs):SlAt h' W 1 (ms.map fun b=>[V.map b]):=by
 obtain⟨a1,a0,a2⟩:=w
 refine⟨a1,a0,?_⟩
 rcases a2 with a2|⟨b,o,c,cs,e1,e2,e3⟩
 ·exact .inl a2
 ·refine .inr ⟨b,o,c,cs,e1,?_,e3⟩
  cases hm:ms with
  |nil=>exact .inl (by simp)
  |cons m ms'=>
   rw[hm] at e2 e3
   refine .inr ?_
   have e2:=e2.resolve_left (by simp)
   refine k.cells e2 fun hs=>n b cs hs e2 m ?_
   have h1:=(getN_eq.1 e3).1
   have h2:V.map m∈(((m::ms').map fun b=>[V.map b]).flatten):=by simp
   rw[h1] at h2
   exact List.mem_of_mem_drop (List.mem_of_mem_take h2)
def DI (hb:H)(a:At)(C R G W:V)(ms:List Nat)(d oC pC:Nat)(h:H):Prop:=∃y0 f,h.get oC=some (.cells .rw [y0])∧(∀m,y0≠.map m)∧(∀m,f≠.map m)∧Dk h d a C R G f W ms∧h.get pC=some (.cells .rw [.ptr d 0])∧hb.Sub h
section
variable {hb:H} {a:At} {C R G W:V} {ms:List Nat} {d oC pC:Nat}
theorem DI.mono {h h':H}(k:DI hb a C R G W ms d oC pC h)(s:h.Sub h'):DI hb a C R G W ms d oC pC h':=by
 obtain⟨y0,f,k1,k2,k3,k4,k5,k6⟩:=k
 exact⟨y0,f,s.get k1,k2,k3,k4.mono s,s.get k5,k6.trans s⟩
theorem DI.lt {h:H}(k:DI hb a C R G W ms d oC pC h)(c:Nat)(hc:c=oC∨c=d):c<h.next:=by
 obtain⟨y0,f,k1,k2,k3,k4,k5,k6⟩:=k
 rcases hc with rfl|rfl
 ·exact k6.wf _ _ k1
 ·exact k6.wf _ _ k4.dk
theorem DI.put {h:H}(hwb:hb.wf)(xb:AtAt hb C R G a)(l1:hb.next≤d)(l2:hb.next≤oC)(n1:oC≠d)(n2:pC≠d)(n3:pC≠oC)(k:DI hb a C R G W ms d oC pC h){y f:V}(hy:∀m,y≠.map m)(hf:∀m,f≠.map m):
  DI hb a C R G W ms d oC pC ((h.set oC (.cells .rw [y])).set d (.cells .rw [.int .i64 a.mins,.int .i64 a.evs,C,R,G,f,W]))∧Dk ((h.set oC (.cells .rw [y])).set d (.cells .rw [.int .i64 a.mins,.int .i64 a.evs,C,R,G,f,W])) d a C R G f W ms∧
   Keeps (fun c=>c=oC∨c=d) h ((h.set oC (.cells .rw [y])).set d (.cells .rw [.int .i64 a.mins,.int .i64 a.evs,C,R,G,f,W]))∧hb.Sub ((h.set oC (.cells .rw [y])).set d (.cells .rw [.int .i64 a.mins,.int .i64 a.evs,C,R,G,f,W])):=by
 have hlt:=k.lt
 obtain⟨y0,f0,k1,k2,k3,k4,k5,k6⟩:=k
 have lo:=hlt oC (.inl rfl)
 have ld:=hlt d (.inr rfl)
 have s1:hb.Sub (h.set oC (.cells .rw [y])):=k6.set l2 lo hwb _
 have s2:hb.Sub ((h.set oC (.cells .rw [y])).set d (.cells .rw [.int .i64 a.mins,.int .i64 a.evs,C,R,G,f,W])):=s1.set l1 (by rw[H.next_set];exact ld) hwb _
 have kk:Keeps (fun c=>c=oC∨c=d) h ((h.set oC (.cells .rw [y])).set d (.cells .rw [.int .i64 a.mins,.int .i64 a.evs,C,R,G,f,W])):=(Keeps.set h oC _).trans (Keeps.set _ d _)
 have gd:((h.set oC (.cells .rw [y])).set d (.cells .rw [.int .i64 a.mins,.int .i64 a.evs,C,R,G,f,W])).get d=some (.cells .rw [.int .i64 a.mins,.int .i64 a.evs,C,R,G,f,W]):=get_set_same rfl
 have go:((h.set oC (.cells .rw [y])).set d (.cells .rw [.int .i64 a.mins,.int .i64 a.evs,C,R,G,f,W])).get oC=some (.cells .rw [y]):=by rw[get_set_other n1];exact get_set_same rfl
 have dk:Dk ((h.set oC (.cells .rw [y])).set d (.cells .rw [.int .i64 a.mins,.int .i64 a.evs,C,R,G,f,W])) d a C R G f W ms:=by
  refine⟨gd,xb.mono s2,maps_keep k4.w kk fun b cs hs hc m hm=>?_,k4.len,fun i hi=>?_⟩
  ·rcases hs with rfl|rfl
   ·rw[cells_of k1] at hc;cases hc
    rw[List.mem_singleton] at hm
    exact k2 m hm.symm
   ·rw[cells_of k4.dk] at hc;cases hc
    simp only[List.mem_cons,List.not_mem_nil,or_false,reduceCtorEq,false_or] at hm
    rcases hm with hm|hm|hm|hm|hm
    ·exact sl_noMap xb.c m hm.symm
    ·exact sl_noMap xb.r m hm.symm
    ·exact sl_noMap xb.g m hm.symm
    ·exact k3 m hm.symm
    ·exact sl_noMap k4.w m hm.symm
  ·obtain⟨b,l,e1,e2,e3⟩:=k4.maps i hi
   refine⟨b,l,e1,kk.2 _ _ e2 fun hq=>?_,e3⟩
   rcases hq with rfl|rfl
   ·rw[k1] at e2;cases e2
   ·rw[k4.dk] at e2;cases e2
 exact⟨⟨y,f,go,hy,hf,dk,kk.2 _ _ k5 fun hq=>hq.elim n3 n2,s2⟩,dk,kk,s2⟩
set_option maxHeartbeats 4000000 in
theorem clash1_holds (hwb:hb.wf)(r:Right a)(xb:AtAt hb C R G a)(l1:hb.next≤d)(l2:hb.next≤oC)(n1:oC≠d)(n2:pC≠d)(n3:pC≠oC):
  FnHolds hb (.fn 118 [] [.ptr oC 0,.ptr pC 0]) (fun c=>c=oC∨c=d) (DI hb a C R G W ms d oC pC) a.rds.length (fun l=>decide (casesL a (lstF l)=[])) (fun l h=>∃y,h.get oC=some (.cells .rw [y])∧SlAt h y 1 (l.map encI)):=by
 intro l x h1 hlr hs hx hl nx hI Q q
 have hwx:=hs.wf
 have ox:=hx.one
 obtain⟨zA,hzA⟩:∃zA,(h1.add (.cells .rw [x])).add (.cells .rw [.fn 162 [] [.ptr h1.next 0]])=zA:=⟨_,rfl⟩
 have sA:h1.Sub zA:=by rw[←hzA];exact((H.Sub.refl hwx).add _).add _
 have gA:zA.get h1.next=some (.cells .rw [x]):=by rw[←hzA,get_add_old (by rw[H.next_add];omega)];exact get_add_new rfl
 have hIA:=hI.mono sA
 have hlt:=hI.lt
 obtain⟨hI2,dk2,k2,s2⟩:=hIA.put hwb xb l1 l2 n1 n2 n3 (y:=x) (f:=.fn 162 [] [.ptr h1.next 0]) (fun m=>sl_noMap hx m) (fun m=>by simp)
 obtain⟨y0,f0,k1,_,_,k4,k5,_⟩:=hI
 obtain⟨zS,hzS⟩:∃zS,(zA.set oC (.cells .rw [x])).set d (.cells .rw [.int .i64 a.mins,.int .i64 a.evs,C,R,G,.fn 162 [] [.ptr h1.next 0],W])=zS:=⟨_,rfl⟩
 have gd':(zA.set oC (.cells .rw [x])).get d=some (.cells .rw [.int .i64 a.mins,.int .i64 a.evs,C,R,G,f0,W]):=by rw[get_set_other n1.symm];exact sA.get k4.dk
 have gpS:zS.get pC=some (.cells .rw [.ptr d 0]):=by rw[←hzS,get_set_other n2,get_set_other n3];exact sA.get k5
 have goS:zS.get oC=some (.cells .rw [x]):=by rw[←hzS,get_set_other n1];exact get_set_same rfl
 rw[hzS] at hI2 dk2 k2 s2
 have gAS:zS.get h1.next=some (.cells .rw [x]):=k2.2 _ _ gA fun hq=>by have:=hlt _ hq;omega
 have hxS:SlAt zS x 1 (l.map encI):=SlAt_keep (hx.mono sA) k2 fun b hb hq=>(nx b hb).2 hq
 refine Ev_body (fd:=c118) rfl rfl rfl ?_
 simp -implicitDefEqProofs(maxSteps:=999999)(disch:=first|with_reducible rfl|omega|(simp only[nA,nS,nD]<;>omega)|fail)only[c118,go_sem,cells_of k5,some_eq ox,hzA,cells_of (sA.get k5),sA.get k1,ox,cells_one ox,gd',hzS,cells_of gpS]
 refine agreed_ev s2.wf dk2 r (cnt:=lstF l) (fun i _=>some1_ev hxS gAS i) _ fun z3 s3=>?_
 have e:(!decide (casesL a (lstF l)≠[]))=decide (casesL a (lstF l)=[]):=by simp
 simp -implicitDefEqProofs(maxSteps:=999999)(disch:=first|with_reducible rfl|omega|(simp only[nA,nS,nD]<;>omega)|fail)only[go_sem,e,cells_of k5,cells_of (sA.get k5)]
 exact q z3 (((Keeps.of sA fun c=>c=oC∨c=d).trans (k2.trans (Keeps.of s3 fun c=>c=oC∨c=d))).mono fun c hc=>by
  rcases hc with hc|hc|hc<;>exact hc) (s2.trans s3).wf (hI2.mono s3) fun _=>⟨x,s3.get goS,hxS.mono s3⟩
theorem wrong11_ev {h:H}{x:V}{l:List Int}(hx:SlAt h x 1 (l.map encI)){b:Nat}(g:h.get b=some (.cells .rw [x]))(n:Int):PureA h (.fn 86 [] [.ptr b 0]) [.int .i64 n] (.bool (!(l.any fun r=>decide (n=r)))):=by
 intro h1 s
 refine Ev.gen fun Q q=>?_
 refine Ev_body (fd:=c86) rfl rfl rfl ?_
 simp -implicitDefEqProofs(maxSteps:=999999)(disch:=first|with_reducible rfl|omega|(simp only[nA,nS,nD]<;>omega)|fail)only[c86,go_sem,cells_of (s.get g)]
 refine hasInt_ev s.wf (hx.mono s) n _ fun h2 s2=>?_
 simp -implicitDefEqProofs(maxSteps:=999999)(disch:=first|with_reducible rfl|omega|(simp only[nA,nS,nD]<;>omega)|fail)only[go_sem]
 exact q _ _ ⟨rfl,s2⟩
set_option maxHeartbeats 4000000 in
theorem wrong1_holds (hwb:hb.wf)(r:Right a)(xb:AtAt hb C R G a)(l1:hb.next≤d)(l2:hb.next≤oC)(n1:oC≠d)(n2:pC≠d)(n3:pC≠oC):
  FnHolds hb (.fn 85 [] [.ptr oC 0,.ptr pC 0]) (fun c=>c=oC∨c=d) (DI hb a C R G W ms d oC pC) a.rds.length (fun l=>decide (casesL a (fun i=> !lstF l i)≠[])) (fun l h=>∃y,h.get oC=some (.cells .rw [y])∧SlAt h y 1 (l.map encI)):=by
 intro l x h1 hlr hs hx hl nx hI Q q
 have hwx:=hs.wf
 have ox:=hx.one
 obtain⟨zA,hzA⟩:∃zA,h1.add (.cells .rw [x])=zA:=⟨_,rfl⟩
 have sA:h1.Sub zA:=by rw[←hzA];exact(H.Sub.refl hwx).add _
 have gA:zA.get h1.next=some (.cells .rw [x]):=by rw[←hzA];exact get_add_new rfl
 have hIA:=hI.mono sA
 have hlt:=hI.lt
 obtain⟨hI2,dk2,k2,s2⟩:=hIA.put hwb xb l1 l2 n1 n2 n3 (y:=x) (f:=.fn 86 [] [.ptr h1.next 0]) (fun m=>sl_noMap hx m) (fun m=>by simp)
 obtain⟨y0,f0,k1,_,_,k4,k5,_⟩:=hI
 obtain⟨zS,hzS⟩:∃zS,(zA.set oC (.cells .rw [x])).set d (.cells .rw [.int .i64 a.mins,.int .i64 a.evs,C,R,G,.fn 86 [] [.ptr h1.next 0],W])=zS:=⟨_,rfl⟩
 have gd':(zA.set oC (.cells .rw [x])).get d=some (.cells .rw [.int .i64 a.mins,.int .i64 a.evs,C,R,G,f0,W]):=by rw[get_set_other n1.symm];exact sA.get k4.dk
 have gpS:zS.get pC=some (.cells .rw [.ptr d 0]):=by rw[←hzS,get_set_other n2,get_set_other n3];exact sA.get k5
 have goS:zS.get oC=some (.cells .rw [x]):=by rw[←hzS,get_set_other n1];exact get_set_same rfl
 rw[hzS] at hI2 dk2 k2 s2
 have gAS:zS.get h1.next=some (.cells .rw [x]):=k2.2 _ _ gA fun hq=>by have:=hlt _ hq;omega
 have hxS:SlAt zS x 1 (l.map encI):=SlAt_keep (hx.mono sA) k2 fun b hb hq=>(nx b hb).2 hq
 refine Ev_body (fd:=c85) rfl rfl rfl ?_
 simp -implicitDefEqProofs(maxSteps:=999999)(disch:=first|with_reducible rfl|omega|(simp only[nA,nS,nD]<;>omega)|fail)only[c85,go_sem,cells_of k5,hzA,cells_of gA,cells_of (sA.get k5),sA.get k1,ox,cells_one ox,gd',hzS,cells_of gpS]
 refine agreed_ev s2.wf dk2 r (cnt:=fun i=> !lstF l i) (fun i _=>wrong11_ev hxS gAS i) _ fun z3 s3=>?_
 simp -implicitDefEqProofs(maxSteps:=999999)(disch:=first|with_reducible rfl|omega|(simp only[nA,nS,nD]<;>omega)|fail)only[go_sem,cells_of gA,cells_of k5,cells_of (sA.get k5)]
 exact q z3 (((Keeps.of sA fun c=>c=oC∨c=d).trans (k2.trans (Keeps.of s3 fun c=>c=oC∨c=d))).mono fun c hc=>by
  rcases hc with hc|hc|hc<;>exact hc) (s2.trans s3).wf (hI2.mono s3) fun _=>⟨x,s3.get goS,hxS.mono s3⟩
end
end Go.Ab.Tryz
namespace Go.Ab.Tryz
open Go.Proofs
open Go.Ab.Silk (comb firstOf firstOf_spec IsMin Inc)
theorem noN {a:At}(r:Right a){cnt:Nat→Bool}:casesL a cnt=[]↔∀runs y,¬Tru a cnt runs y:=by
 constructor
 ·intro h runs y t
  obtain⟨L,hL⟩:=cases_full r t
  rw[h] at hL;cases hL
 ·intro h
  cases hc:casesL a cnt with
  |nil=>rfl
  |cons t l=>
   have ht:t∈casesL a cnt:=by rw[hc];exact List.mem_cons_self ..
   exact absurd (lat_tru r ht (f:=4) (by omega)) (h _ _)
theorem tru_fewer {a:At}{c1 c2:Nat→Bool}(h:∀i,i<a.rds.length→c2 i=true→c1 i=true){runs:Runs}{y:Nat→Int}(t:Tru a c1 runs y):Tru a c2 runs y:=
 ⟨t.len,t.run,t.beg,t.mins,t.gaps,fun j x hx hc s hs=>t.rds j x hx (h j (getl hx) hc) s hs⟩
def clashP (a:At)(l:List Int):Bool:=decide (casesL a (lstF l)=[])
def wrongP (a:At)(l:List Int):Bool:=decide (casesL a (fun i=> !lstF l i)≠[])
def fullL:Nat→Int→List Int
 |0,_=>[]
 |k+1,i=>i::fullL k (i+1)
theorem fullL_inc:∀(k:Nat) (i:Int),Inc (i+k) i (fullL k i)
 |0,_=>trivial
 |k+1,i=>⟨Int.le_refl _,by omega,by have:=fullL_inc k (i+1);rwa[show i+1+(k:Int)=i+((k+1:Nat):Int) by omega] at this⟩
theorem fullL_mem:∀{k:Nat} {i j:Int},i≤j→j<i+k→j∈fullL k i
 |0,i,j,h1,h2=>by omega
 |k+1,i,j,h1,h2=>by
  by_cases e:j=i
  ·rw[e];exact List.mem_cons_self ..
  ·exact List.mem_cons_of_mem _ (fullL_mem (by omega) (by omega))
theorem lstF_mem {l:List Int}{i:Nat}:lstF l i=true↔(i:Int)∈l:=by
 unfold lstF
 rw[List.any_eq_true]
 constructor
 ·rintro⟨x,hx,e⟩;rw[of_decide_eq_true e];exact hx
 ·intro h;exact⟨_,h,by simp⟩
def clashO (a:At):Option (List Int):=firstOf (clashP a) a.rds.length (a.rds.length+1) 0
def wrongO (a:At):Option (List Int):=firstOf (wrongP a) a.rds.length (a.rds.length+1) 0
theorem clashO_spec {a:At}(r:Right a)(h:allC a=[]):∃c,clashO a=some c∧IsMin (clashP a) a.rds.length c:=by
 rcases firstOf_spec (clashP a) a.rds.length (a.rds.length+1) 0 rfl (fun d _ hl=>by omega) with h1|⟨_,h2⟩
 ·exact h1
 ·exfalso
  have h3:=h2 (fullL a.rds.length 0) (by have:=fullL_inc a.rds.length 0;rwa[Int.zero_add] at this)
  simp only[clashP,decide_eq_false_iff_not] at h3
  refine h3 ((noN r).2 fun runs y t=>(noC r).1 h runs y (tru_fewer (fun i hi _=>lstF_mem.2 (fullL_mem (by omega) (by omega))) t))
def clashR (a:At):List Int × Int:=if checkA a≠0 then([],checkA a) else if allC a≠[] then([],6) else((clashO a).getD [],0)
def wrongR (a:At):List Int × Int:=if checkA a≠0 then([],checkA a) else match wrongO a with|some l=>(l,0)|none=>([],7)
set_option maxHeartbeats 4000000 in
theorem Clash_ev {h:H}(hw:h.wf){a:At}{C R G:V}(x:AtAt h C R G a)(Q:V→H→Prop)(q:∀w h',h.Sub h'→SlAt h' w 1 ((clashR a).1.map encI)→Q (.tup [w,.int .i64 (clashR a).2]) h'):
  Ev fnG fastA (.fn 44 [] []) [.agg (atV a C R G)] h Q:=by
 have oC:=x.c.one;have oR:=x.r.one;have oG:=x.g.one
 have cs:∀hh Q,Ev fnG fastA (.fn 83 [] []) [] hh Q=Q (.agg [allF]) (hh.add (.cells .rw [allF])):=fun hh Q=>by
  refine Ev.det (Ev_body (fd:=c83) rfl rfl rfl ?_) Q
  simp -implicitDefEqProofs(maxSteps:=999999)(disch:=first|with_reducible rfl|omega|(simp only[nA,nS,nD]<;>omega)|fail)only[c83,go_sem]
 refine Ev_body (fd:=c44) rfl rfl rfl ?_
 obtain⟨z,hz⟩:∃z,h.add (.cells .rw (atV a C R G))=z:=⟨_,rfl⟩
 have sz:h.Sub z:=by rw[←hz];exact(by repeat(first|assumption|exact H.Sub.refl (by assumption)|refine H.Sub.add ?_ _|refine H.Sub.set ?_ (by first|omega|(simp only[H.next_add,H.next_set,H.next_del]<;>omega)) (by first|omega|(simp only[H.next_add,H.next_set,H.next_del]<;>omega)) (by assumption) _))
 have ga:z.get h.next=some (.cells .rw (atV a C R G)):=by rw[←hz];exact get_add_new rfl
 simp -implicitDefEqProofs(maxSteps:=999999)(disch:=first|with_reducible rfl|omega|(simp only[nA,nS,nD]<;>omega)|fail)only[c44,go_sem,oC,oR,oG]
 rw[hz]
 clear hz
 refine check_ev sz.wf ⟨C,R,G,rfl,x.mono sz⟩ _ fun z1 s1=>?_
 have s01:=sz.trans s1
 by_cases he:checkA a=0
 case neg=>
  simp -implicitDefEqProofs(maxSteps:=999999)(disch:=first|with_reducible rfl|omega|(simp only[nA,nS,nD]<;>omega)|fail)only[go_sem,he,ne_eq,not_false_eq_true]
  have e:clashR a=([],checkA a):=if_pos he
  rw[e] at q
  exact q _ _ s01 ⟨by simp,by simp,.inl ⟨rfl,rfl⟩⟩
 have r:=checkA_iff.1 he
 rw[he]
 have rl:=r.lens
 have e1:clashR a=if allC a≠[] then([],6) else((clashO a).getD [],0):=if_neg (by rw[he];simp)
 have g1:=s1.get ga
 simp -implicitDefEqProofs(maxSteps:=999999)(disch:=first|with_reducible rfl|omega|(simp only[nA,nS,nD]<;>omega)|fail)only[go_sem,ne_eq,not_true_eq_false,cells_of g1,cs]
 obtain⟨zA,hzA⟩:∃zA,z1.add (.cells .rw [allF])=zA:=⟨_,rfl⟩
 have sA:z1.Sub zA:=by rw[←hzA];exact(H.Sub.refl s01.wf).add _
 try rw[hzA]
 clear hzA
 have s0A:=s01.trans sA
 have xA:=x.mono s0A
 refine worked_ev s0A.wf xA r rfl _ fun d W ms zB sB ld dk=>?_
 have gA:=sA.get g1
 have gB:=sB.get gA
 simp -implicitDefEqProofs(maxSteps:=999999)(disch:=first|with_reducible rfl|omega|(simp only[nA,nS,nD]<;>omega)|fail)only[go_sem,cells_of g1,cells_of gA,cells_of gB]
 obtain⟨zC,hzC⟩:∃zC,zB.add (.cells .rw [.ptr d 0])=zC:=⟨_,rfl⟩
 have sC:zB.Sub zC:=by rw[←hzC];exact(H.Sub.refl sB.wf).add _
 have gpC:zC.get zB.next=some (.cells .rw [.ptr d 0]):=by rw[←hzC];exact get_add_new rfl
 have ldB:=sB.wf _ _ dk.dk
 try simp -implicitDefEqProofs(maxSteps:=999999)(disch:=first|with_reducible rfl|omega|(simp only[nA,nS,nD]<;>omega)|fail)only[go_sem,hzC,cells_of gpC]
 try rw[hzC]
 clear hzC
 have sAC:=sB.trans sC
 refine agreed_ev sC.wf (dk.mono sC) r (cnt:=fun _=>true) (fun i _=>allF_pure sC.wf i) _ fun zD sD=>?_
 have sAD:=sAC.trans sD
 by_cases hal:allC a≠[]
 ·have hd:decide (casesL a (fun _=>true)≠[])=true:=decide_eq_true hal
  rw[if_pos hal] at e1
  rw[e1] at q
  rw[hd]
  simp -implicitDefEqProofs(maxSteps:=999999)(disch:=first|with_reducible rfl|omega|(simp only[nA,nS,nD]<;>omega)|fail)only[go_sem]
  exact q _ _ (s0A.trans sAD) ⟨by simp,by simp,.inl ⟨rfl,rfl⟩⟩
 have hd:decide (casesL a (fun _=>true)≠[])=false:=decide_eq_false hal
 have hal':allC a=[]:=Classical.byContradiction hal
 rw[if_neg hal] at e1
 rw[e1] at q
 rw[hd]
 have hlR:=(x.r).lenE
 have gaD:=sAD.get gA
 have w1:wr .i64 ((a.rds.length:Int)+1)=((a.rds.length+1:Nat):Int):=by rw[wr_in (by omega) (by omega)];omega
 obtain⟨zE,hzE⟩:∃zE,zD.add (.cells .rw [.nils])=zE:=⟨_,rfl⟩
 have sE:zD.Sub zE:=by rw[←hzE];exact(H.Sub.refl sAD.wf).add _
 have goE:zE.get zD.next=some (.cells .rw [.nils]):=by rw[←hzE];exact get_add_new rfl
 have gaE:=sE.get gaD
 simp -implicitDefEqProofs(maxSteps:=999999)(disch:=first|with_reducible rfl|omega|(simp only[nA,nS,nD]<;>omega)|fail)only[go_sem,hzE,cells_of gaE,hlR,w1]
 try rw[hzE]
 clear hzE
 have nBC:=sC.next
 have lpC:=sC.wf _ _ gpC
 have nCD:=sD.next
 have di:DI zA a C R G W ms d zD.next zB.next zE:=⟨.nils,allF,goE,fun m=>by simp,fun m=>by simp,dk.mono (sC.trans (sD.trans sE)),(sD.trans sE).get gpC,sAD.trans sE⟩
 have hsp:=clashO_spec r hal'
 obtain⟨cl,hcl,_⟩:=hsp
 rw[hcl] at q
 have hof:firstOf (clashP a) a.rds.length (a.rds.length+1) 0=some cl:=hcl
 have hF:=clash1_holds (W:=W) (ms:=ms) s0A.wf r xA ld (oC:=zD.next) (pC:=zB.next) (by omega) (by omega) (by omega) (by omega)
 refine W_count (a.rds.length+1) (fun i s=>∃tm z,s=⟨tm,z,[]⟩∧DI zA a C R G W ms d zD.next zB.next z∧firstOf (clashP a) a.rds.length (a.rds.length+1-i) i=some cl∧
   (Opd.t 1).ev tm=.ptr h.next 0∧(Opd.t 5).ev tm=.ptr zB.next 0∧(Opd.t 6).ev tm=.ptr zD.next 0∧(Opd.t 21).ev tm=.int .i64 ((a.rds.length+1:Nat):Int)∧(Opd.t 22).ev tm=.int .i64 (i:Int)) ?_ ?_ (i:=0) (Nat.zero_le _)
  ⟨_,_,rfl,di,hof,(by simp[ev_c,ev_put]<;>rfl),(by simp[ev_c,ev_put]<;>rfl),(by simp[ev_c,ev_put]<;>rfl),(by simp[ev_c,ev_put]<;>rfl),(by simp[ev_c,ev_put]<;>rfl)⟩
 ·rintro i s hi ⟨tm,z2,rfl,dz,hf,t1,t5,t6,t21,t22⟩
  have hi':(i:Int)<((a.rds.length+1:Nat):Int):=by omega
  have sz2:zA.Sub z2:=by obtain⟨_,_,_,_,_,_,_,k⟩:=dz;exact k
  have ga2:=sz2.get gA
  simp -implicitDefEqProofs(maxSteps:=999999)(disch:=first|with_reducible rfl|omega|(simp only[nA,nS,nD]<;>omega)|fail)only[go_sem,t1,t5,t6,t21,t22,hi',cells_of ga2,hlR]
  refine lists_ev s0A.wf hF (fun h h' k s=>k.mono s) (fun c hc=>by rcases hc with hc|hc<;>omega) (fun h c k hc=>k.lt c hc) rfl sz2 dz (by omega) (by omega) _ fun t z3 k3 w3 i3 hres=>?_
  have hstep:a.rds.length+1-i=(a.rds.length+1-(i+1))+1:=by omega
  rw[hstep,firstOf] at hf
  cases hr:(comb i a.rds.length 0).find? (clashP a) with
  |some c=>
   rw[hr] at hf
   have hr2:(comb i a.rds.length 0).find? (fun l=>decide (casesL a (lstF l)=[]))=some c:=hr
   rw[hr2] at hres
   obtain⟨rfl,_,y,gy,xy⟩:=hres
   have hc:c=cl:=Option.some.inj hf
   rw[List.nil_append,hc] at xy
   have s3:zA.Sub z3:=by obtain⟨_,_,_,_,_,_,_,k⟩:=i3;exact k
   simp -implicitDefEqProofs(maxSteps:=999999)(disch:=first|with_reducible rfl|omega|(simp only[nA,nS,nD]<;>omega)|fail)only[go_sem,t1,t5,t6,t21,t22,cells_of gy]
   exact q _ _ (s0A.trans s3) xy
  |none=>
   rw[hr] at hf
   have hr2:(comb i a.rds.length 0).find? (fun l=>decide (casesL a (lstF l)=[]))=none:=hr
   rw[hr2] at hres
   have hres:t=false:=hres
   subst hres
   simp -implicitDefEqProofs(maxSteps:=999999)(disch:=first|with_reducible rfl|omega|(simp only[nA,nS,nD]<;>omega)|fail)only[go_sem,t1,t5,t6,t21,t22,wr_succ]
   exact⟨_,_,rfl,i3,hf,(by simp[ev_c,ev_put,t1]<;>rfl),(by simp[ev_c,ev_put,t5]<;>rfl),(by simp[ev_c,ev_put,t6]<;>rfl),(by simp[ev_c,ev_put,t21]<;>rfl),(by simp[ev_c,ev_put]<;>rfl)⟩
 ·rintro s ⟨tm,z2,rfl,dz,hf,t1,t5,t6,t21,t22⟩
  rw[Nat.sub_self,firstOf] at hf
  cases hf
def DW (hb:H)(a:At)(C R G W:V)(ms:List Nat)(d pC:Nat)(h:H):Prop:=∃f,(∀m,f≠.map m)∧Dk h d a C R G f W ms∧h.get pC=some (.cells .rw [.ptr d 0])∧hb.Sub h
set_option maxHeartbeats 4000000 in
theorem Wrong_ev {h:H}(hw:h.wf){a:At}{C R G:V}(x:AtAt h C R G a)(Q:V→H→Prop)(q:∀w h',h.Sub h'→SlAt h' w 1 ((wrongR a).1.map encI)→Q (.tup [w,.int .i64 (wrongR a).2]) h'):
  Ev fnG fastA (.fn 21 [] []) [.agg (atV a C R G)] h Q:=by
 have oC:=x.c.one;have oR:=x.r.one;have oG:=x.g.one
 have cs:∀hh Q,Ev fnG fastA (.fn 83 [] []) [] hh Q=Q (.agg [allF]) (hh.add (.cells .rw [allF])):=fun hh Q=>by
  refine Ev.det (Ev_body (fd:=c83) rfl rfl rfl ?_) Q
  simp -implicitDefEqProofs(maxSteps:=999999)(disch:=first|with_reducible rfl|omega|(simp only[nA,nS,nD]<;>omega)|fail)only[c83,go_sem]
 refine Ev_body (fd:=c21) rfl rfl rfl ?_
 obtain⟨z,hz⟩:∃z,h.add (.cells .rw (atV a C R G))=z:=⟨_,rfl⟩
 have sz:h.Sub z:=by rw[←hz];exact(by repeat(first|assumption|exact H.Sub.refl (by assumption)|refine H.Sub.add ?_ _|refine H.Sub.set ?_ (by first|omega|(simp only[H.next_add,H.next_set,H.next_del]<;>omega)) (by first|omega|(simp only[H.next_add,H.next_set,H.next_del]<;>omega)) (by assumption) _))
 have ga:z.get h.next=some (.cells .rw (atV a C R G)):=by rw[←hz];exact get_add_new rfl
 simp -implicitDefEqProofs(maxSteps:=999999)(disch:=first|with_reducible rfl|omega|(simp only[nA,nS,nD]<;>omega)|fail)only[c21,go_sem,oC,oR,oG]
 rw[hz]
 clear hz
 refine check_ev sz.wf ⟨C,R,G,rfl,x.mono sz⟩ _ fun z1 s1=>?_
 have s01:=sz.trans s1
 by_cases he:checkA a=0
 case neg=>
  simp -implicitDefEqProofs(maxSteps:=999999)(disch:=first|with_reducible rfl|omega|(simp only[nA,nS,nD]<;>omega)|fail)only[go_sem,he,ne_eq,not_false_eq_true]
  have e:wrongR a=([],checkA a):=if_pos he
  rw[e] at q
  exact q _ _ s01 ⟨by simp,by simp,.inl ⟨rfl,rfl⟩⟩
 have r:=checkA_iff.1 he
 rw[he]
 have rl:=r.lens
 have e1:wrongR a=match wrongO a with|some l=>(l,0)|none=>([],7):=if_neg (by rw[he];simp)
 have g1:=s1.get ga
 simp -implicitDefEqProofs(maxSteps:=999999)(disch:=first|with_reducible rfl|omega|(simp only[nA,nS,nD]<;>omega)|fail)only[go_sem,ne_eq,not_true_eq_false,cells_of g1,cs]
 obtain⟨zA,hzA⟩:∃zA,z1.add (.cells .rw [allF])=zA:=⟨_,rfl⟩
 have sA:z1.Sub zA:=by rw[←hzA];exact(H.Sub.refl s01.wf).add _
 try rw[hzA]
 clear hzA
 have s0A:=s01.trans sA
 have xA:=x.mono s0A
 refine worked_ev s0A.wf xA r rfl _ fun d W ms zB sB ld dk=>?_
 have gA:=sA.get g1
 have gB:=sB.get gA
 simp -implicitDefEqProofs(maxSteps:=999999)(disch:=first|with_reducible rfl|omega|(simp only[nA,nS,nD]<;>omega)|fail)only[go_sem,cells_of g1,cells_of gA,cells_of gB]
 obtain⟨zC,hzC⟩:∃zC,zB.add (.cells .rw [.ptr d 0])=zC:=⟨_,rfl⟩
 have sC:zB.Sub zC:=by rw[←hzC];exact(H.Sub.refl sB.wf).add _
 have gpC:zC.get zB.next=some (.cells .rw [.ptr d 0]):=by rw[←hzC];exact get_add_new rfl
 have ldB:=sB.wf _ _ dk.dk
 have hlR:=(x.r).lenE
 have w1:wr .i64 ((a.rds.length:Int)+1)=((a.rds.length+1:Nat):Int):=by rw[wr_in (by omega) (by omega)];omega
 have gC:=sC.get gB
 try simp -implicitDefEqProofs(maxSteps:=999999)(disch:=first|with_reducible rfl|omega|(simp only[nA,nS,nD]<;>omega)|fail)only[go_sem,hzC,cells_of gpC,cells_of gC,hlR,w1]
 try rw[hzC]
 clear hzC
 have sAC:=sB.trans sC
 have di:DW zA a C R G W ms d zB.next zC:=⟨allF,fun m=>by simp,dk.mono sC,gpC,sAC⟩
 rw[e1] at q
 obtain⟨wo,hwo⟩:∃wo,wrongO a=wo:=⟨_,rfl⟩
 rw[hwo] at q
 have hof:firstOf (wrongP a) a.rds.length (a.rds.length+1) 0=wo:=hwo
 refine W_count (a.rds.length+1) (fun i s=>∃tm z,s=⟨tm,z,[]⟩∧DW zA a C R G W ms d zB.next z∧firstOf (wrongP a) a.rds.length (a.rds.length+1-i) i=wo∧
   (Opd.t 1).ev tm=.ptr h.next 0∧(Opd.t 5).ev tm=.ptr zB.next 0∧(Opd.t 19).ev tm=.int .i64 ((a.rds.length+1:Nat):Int)∧(Opd.t 20).ev tm=.int .i64 (i:Int)) ?_ ?_ (i:=0) (Nat.zero_le _)
  ⟨_,_,rfl,di,hof,(by simp[ev_c,ev_put]<;>rfl),(by simp[ev_c,ev_put]<;>rfl),(by simp[ev_c,ev_put]<;>rfl),(by simp[ev_c,ev_put]<;>rfl)⟩
 ·rintro i s hi ⟨tm,z2,rfl,dz,hf,t1,t5,t19,t20⟩
  have hi':(i:Int)<((a.rds.length+1:Nat):Int):=by omega
  have sz2:zA.Sub z2:=by obtain⟨_,_,_,_,k⟩:=dz;exact k
  obtain⟨f,df,dk2,gp2,_⟩:=dz
  have lp2:=sz2.wf _ _ gp2
  have ld2:=sz2.wf _ _ dk2.dk
  have nz2:=sz2.next
  obtain⟨z2',hz2⟩:∃z2',z2.add (.cells .rw [.nils])=z2':=⟨_,rfl⟩
  have s22:z2.Sub z2':=by rw[←hz2];exact(H.Sub.refl sz2.wf).add _
  have go2:z2'.get z2.next=some (.cells .rw [.nils]):=by rw[←hz2];exact get_add_new rfl
  have di2:DI zA a C R G W ms d z2.next zB.next z2':=⟨.nils,f,go2,fun m=>by simp,df,dk2.mono s22,s22.get gp2,sz2.trans s22⟩
  have hF:=wrong1_holds (W:=W) (ms:=ms) s0A.wf r xA ld (oC:=z2.next) (pC:=zB.next) (by omega) (by omega) (by omega) (by omega)
  have ga2:=(sz2.trans s22).get gA
  simp -implicitDefEqProofs(maxSteps:=999999)(disch:=first|with_reducible rfl|omega|(simp only[nA,nS,nD]<;>omega)|fail)only[go_sem,t1,t5,t19,t20,hi',hz2,cells_of ga2,hlR]
  try rw[hz2]
  clear hz2
  refine lists_ev s0A.wf hF (fun h h' k s=>k.mono s) (fun c hc=>by rcases hc with hc|hc<;>omega) (fun h c k hc=>k.lt c hc) rfl (sz2.trans s22) di2 (by omega) (by omega) _ fun t z3 k3 w3 i3 hres=>?_
  have hstep:a.rds.length+1-i=(a.rds.length+1-(i+1))+1:=by omega
  rw[hstep,firstOf] at hf
  cases hr:(comb i a.rds.length 0).find? (wrongP a) with
  |some c=>
   rw[hr] at hf
   have hr2:(comb i a.rds.length 0).find? (fun l=>decide (casesL a (fun i=> !lstF l i)≠[]))=some c:=hr
   rw[hr2] at hres
   obtain⟨rfl,_,y,gy,xy⟩:=hres
   rw[List.nil_append] at xy
   rw[←hf] at q
   have s3:zA.Sub z3:=by obtain⟨_,_,_,_,_,_,_,k⟩:=i3;exact k
   simp -implicitDefEqProofs(maxSteps:=999999)(disch:=first|with_reducible rfl|omega|(simp only[nA,nS,nD]<;>omega)|fail)only[go_sem,t1,t5,t19,t20,cells_of gy]
   exact q _ _ (s0A.trans s3) xy
  |none=>
   rw[hr] at hf
   have hr2:(comb i a.rds.length 0).find? (fun l=>decide (casesL a (fun i=> !lstF l i)≠[]))=none:=hr
   rw[hr2] at hres
   have hres:t=false:=hres
   subst hres
   simp -implicitDefEqProofs(maxSteps:=999999)(disch:=first|with_reducible rfl|omega|(simp only[nA,nS,nD]<;>omega)|fail)only[go_sem,t1,t5,t19,t20,wr_succ]
   have d3:DW zA a C R G W ms d zB.next z3:=by obtain⟨y0,f3,_,_,k3',k4',k5',k6'⟩:=i3;exact⟨f3,k3',k4',k5',k6'⟩
   exact⟨_,_,rfl,d3,hf,(by simp[ev_c,ev_put,t1]<;>rfl),(by simp[ev_c,ev_put,t5]<;>rfl),(by simp[ev_c,ev_put,t19]<;>rfl),(by simp[ev_c,ev_put]<;>rfl)⟩
 ·rintro s ⟨tm,z2,rfl,dz,hf,t1,t5,t19,t20⟩
  rw[Nat.sub_self,firstOf] at hf
  rw[←hf] at q
  have sz2:zA.Sub z2:=by obtain⟨_,_,_,_,k⟩:=dz;exact k
  simp -implicitDefEqProofs(maxSteps:=999999)(disch:=first|with_reducible rfl|omega|(simp only[nA,nS,nD]<;>omega)|fail)only[go_sem,t1,t5,t19,t20,Int.lt_irrefl]
  exact q _ _ (s0A.trans sz2) ⟨by simp,by simp,.inl ⟨rfl,rfl⟩⟩
end Go.Ab.Tryz
namespace Go.Ab
noncomputable def slcM (h:H)(sz:Nat)(x lo hi mx:V):Option V:=q_slc .nil h sz x (some (.c lo)) (some (.c hi)) (some (.c mx))
theorem q_slc_m (tm:T V)(h:H)(sz:Nat)(x:V)(lo hi mx:Opd):q_slc tm h sz x (some lo) (some hi) (some mx)=slcM h sz x (lo.ev tm) (hi.ev tm) (mx.ev tm):=rfl
noncomputable def slcB (h:H)(sz:Nat)(x lo hi:V):Option V:=q_slc .nil h sz x (some (.c lo)) (some (.c hi)) none
theorem q_slc_b (tm:T V)(h:H)(sz:Nat)(x:V)(lo hi:Opd):q_slc tm h sz x (some lo) (some hi) none=slcB h sz x (lo.ev tm) (hi.ev tm):=rfl
namespace Tryz
open Go.Proofs
theorem flatI:∀l:List Int,(l.map encI).flatten=l.map iv
 |[]=>rfl
 |a::l=>by rw[List.map_cons,List.flatten_cons,flatI l];rfl
theorem erase_take {l:List Int}{k:Nat}:l.eraseIdx k=l.take k++l.drop (k+1):=List.eraseIdx_eq_take_drop_succ l k
end Tryz
end Go.Ab
namespace Go.Ab.Tryz
open Go.Proofs
end Go.Ab.Tryz
namespace Go.Ab.Tryz
open Go.Proofs
end Go.Ab.Tryz
namespace Go.Ab
namespace Tryz
open Go.Proofs
theorem errT_none {a:At}(r:Right a)(h:allC a=[]):errT a false=7:=by
 unfold errT
 rw[if_neg (by rw[checkA_iff.2 r];simp),if_neg (by simp),if_pos h]
end Tryz
end Go.Ab
namespace Go.Ab.Tryz
open Go.Proofs
variable {a b:At} {ss gg tt:List Int}
end Go.Ab.Tryz
namespace Go.Ab.Silk
theorem Inc.sub {hi:Int}{m l:List Int}(s:m.Sublist l):∀{i:Int},Inc hi i l→Inc hi i m:=by
 induction s with
 |slnil=>intro i h;exact h
 |cons a s ih=>intro i h;exact(ih h.2.2).lower (by have:=h.1;omega)
 |cons_cons a s ih=>intro i h;exact⟨h.1,h.2.1,ih h.2.2⟩
theorem Inc.nodup {hi:Int}:∀{i:Int} {l:List Int},Inc hi i l→l.Nodup
 |_,[],_=>List.nodup_nil
 |i,a::l,h=>List.nodup_cons.2 ⟨fun hm=>by have:=h.2.2.mem a hm;omega,Inc.nodup h.2.2⟩
theorem before_len {c d:List Int}(h:d=c∨before c d=true):c.length≤d.length:=by
 rcases h with rfl|h
 ·exact Nat.le_refl _
 ·unfold before at h
  split at h
  ·omega
  ·simp only[decide_eq_true_eq] at h;omega
theorem IsMin.len {P:List Int→Bool}{W:Nat}{c d:List Int}(m:IsMin P W c)(h:Inc W 0 d)(hp:P d=true):c.length≤d.length:=before_len (m.min d h hp)
end Go.Ab.Silk
namespace Go.Ab.Tryz
open Go.Proofs
open Go.Ab.Silk (comb firstOf firstOf_spec IsMin Inc)
theorem any_memR {l:List Int}{n:Int}:(l.any fun r=>decide (n=r))=decide (n∈l):=by
 rw[Bool.eq_iff_iff,List.any_eq_true,decide_eq_true_eq]
 constructor
 ·rintro⟨x,hx,e⟩;rw[of_decide_eq_true e];exact hx
 ·intro h;exact⟨n,h,by simp⟩
theorem nodup_len:∀{l m:List Int},l.Nodup→(∀x∈l,x∈m)→l.length≤m.length
 |[],m,_,_=>Nat.zero_le _
 |a::l,m,hn,h=>by
  have ha:=h a (List.mem_cons_self ..)
  have h1:=nodup_len (l:=l) (m:=m.erase a) (List.nodup_cons.1 hn).2 fun x hx=>(List.mem_erase_of_ne (fun e=>by subst e;exact(List.nodup_cons.1 hn).1 hx)).2 (h x (List.mem_cons_of_mem _ hx))
  have h2:=List.length_erase_of_mem ha
  have h3:=List.length_pos_of_mem ha
  rw[List.length_cons];omega
theorem ris_nodup {l:List Int}(h:l.Nodup):¬(risL l).length<l.length:=by
 have:=nodup_len h fun x hx=>risL_mem.2 hx
 omega
theorem agreeR_ok {b:At}(r:Right b){l:List Int}(hi:∀x∈l,0≤x∧x<(b.rds.length:Int))(hn:l.Nodup):agreeR b l=(decide (casesL b (lstF l)≠[]),0):=by
 unfold agreeR
 rw[if_neg (by rw[checkA_iff.2 r];simp),if_neg,if_neg (ris_nodup hn)]
 rw[Bool.not_eq_false,List.all_eq_true]
 intro x hx
 have:=hi x hx
 exact(inB_iff ..).2 (by omega)
def chgL (f:Nat→Bool)(m:Int)(l:List Rd)(i:Nat):List Rd:=l.mapIdx fun j r=>if j<i∧f j=true then{r with sh:=r.sh+m} else r
theorem chgL_len (f:Nat→Bool)(m:Int)(l:List Rd)(i:Nat):(chgL f m l i).length=l.length:=by simp[chgL]
theorem chgL_at (f:Nat→Bool)(m:Int)(l:List Rd)(i j:Nat):(chgL f m l i)[j]? =(l[j]?).map fun r=>if j<i∧f j=true then{r with sh:=r.sh+m} else r:=by simp[chgL]
theorem chgL_0 (f:Nat→Bool)(m:Int)(l:List Rd):chgL f m l 0=l:=by
 refine List.ext_getElem? fun j=>?_
 rw[chgL_at]
 cases l[j]? <;>simp
theorem chgL_no {f:Nat→Bool}(m:Int)(l:List Rd){i:Nat}(h:f i=false):chgL f m l (i+1)=chgL f m l i:=by
 refine List.ext_getElem? fun j=>?_
 rw[chgL_at,chgL_at]
 congr 1
 funext r
 by_cases e:j=i
 ·subst e;simp[h]
 ·by_cases e2:j<i
  ·simp[e2,Nat.lt_succ_of_lt e2]
  ·simp[e2,show¬j<i+1 by omega]
theorem chgL_yes {f:Nat→Bool}(m:Int){l:List Rd}{i:Nat}{r:Rd}(h:f i=true)(hr:l[i]? =some r):(chgL f m l i)[i]? =some r∧chgL f m l (i+1)=(chgL f m l i).set i {r with sh:=r.sh+m}:=by
 refine⟨by rw[chgL_at,hr];simp,List.ext_getElem? fun j=>?_⟩
 have hi:=getl hr
 rw[chgL_at,List.getElem?_set,chgL_at,chgL_len]
 by_cases e:i=j
 ·subst e
  rw[if_pos rfl,if_pos hi,hr]
  simp[h]
 ·rw[if_neg e]
  congr 1
  funext z
  by_cases e2:j<i
  ·simp[e2,Nat.lt_succ_of_lt e2]
  ·simp[e2,show¬j<i+1 by omega]
def At.chg (a:At)(f:Nat→Bool)(m:Int):At:={a with rds:=chgL f m a.rds a.rds.length}
variable {a:At} {ss gg tt:List Int} {f:Nat→Bool} {m:Int}
theorem chg_get {j:Nat}{z:Rd}(h:(a.chg f m).rds[j]? =some z):∃r,a.rds[j]? =some r∧z=if f j=true then{r with sh:=r.sh+m} else r:=by
 rw[show(a.chg f m).rds=chgL f m a.rds a.rds.length from rfl,chgL_at,Option.map_eq_some_iff] at h
 obtain⟨r,h1,h2⟩:=h
 have:=getl h1
 exact⟨r,h1,by rw[←h2];simp[this]⟩
theorem right_chg (k:MkOk a ss gg tt)(lt:(tt.length:Int)=a.evs)(hm:0≤m∧m≤100):Right (a.chg f m):=by
 have r:=k.right lt
 have hmins:=k.m
 have hl:=r.lens
 have h0:=r.mins
 have he:=r.evs
 have lr:(a.chg f m).rds.length=a.rds.length:=chgL_len ..
 have key:∀z∈(a.chg f m).rds,∃r∈a.rds,z.ck=r.ck∧z.ev=r.ev∧ -999≤z.sh∧z.sh≤999:=fun z hz=>by
  obtain⟨j,hj,e⟩:=List.getElem_of_mem hz
  obtain⟨x,h1,h2⟩:=chg_get (j:=j) (z:=z) (by rw[List.getElem?_eq_getElem hj,e])
  have hx:=List.mem_of_getElem? h1
  obtain⟨_,_,s,g,t,e1,e2,e3,e4⟩:=k.rd x hx
  have ht:=k.tm t (List.mem_of_getElem? e3)
  have hb:=shw_bd (k.run e1 e2) ht.1 (by omega)
  refine⟨x,hx,?_⟩
  rw[h2]
  split
  ·refine⟨rfl,rfl,?_⟩
   show -999≤x.sh+m∧x.sh+m≤999
   omega
  ·exact⟨rfl,rfl,by omega⟩
 refine⟨?_,r.cb,fun z hz=>?_,r.gb,fun z hz=>?_,r.go,r.co,r.gd,r.cs⟩
 ·have e1:(a.chg f m).evs=a.evs:=rfl
  have e2:(a.chg f m).mins=a.mins:=rfl
  have e3:(a.chg f m).cks=a.cks:=rfl
  have e4:(a.chg f m).gps=a.gps:=rfl
  clear key
  simp only[At.sz,Bool.and_eq_true,decide_eq_true_eq,inB_iff,lr,e1,e2,e3,e4]
  exact⟨by omega,by omega,by first|omega|exact decide_eq_true (by omega),by first|omega|exact decide_eq_true (by omega),by first|omega|exact decide_eq_true (by omega)⟩
 ·obtain⟨x,hx,e1,e2,e3⟩:=key z hz
  exact(inB_iff ..).2 e3
 ·obtain⟨x,hx,e1,e2,e3⟩:=key z hz
  have:=r.ro x hx
  simp only[At.rdOk] at this⊢
  rw[e1,e2];exact this
theorem chg_tru (t:TruA a (ss.zip gg) (timeF tt)){cnt:Nat→Bool}(h:∀i,i<a.rds.length→cnt i=true→f i=false):Tru (a.chg f m) cnt (ss.zip gg) (timeF tt):=
 ⟨t.len,fun k s hs=>⟨(t.run k s hs).is⟩,t.beg,t.mins,t.gaps,fun j z hz hc s hs=>by
  obtain⟨r,h1,h2⟩:=chg_get hz
  rw[h j (getl h1) hc] at h2
  have e:z=r:=by simpa using h2
  subst e
  exact t.rds j z h1 rfl s hs⟩
def chgI (f:Nat→Bool)(n:Nat):List Int:=(fullL n 0).filter fun x=>f x.toNat
theorem fullL_in {k:Nat}{i j:Int}(h:j∈fullL k i):i≤j∧j<i+k:=(fullL_inc k i).mem j h
theorem chgI_mem {n:Nat}{i:Nat}:(i:Int)∈chgI f n↔i<n∧f i=true:=by
 unfold chgI
 rw[List.mem_filter,Int.toNat_natCast]
 constructor
 ·rintro⟨h1,h2⟩;have:=fullL_in h1;exact⟨by omega,h2⟩
 ·rintro⟨h1,h2⟩;exact⟨fullL_mem (by omega) (by omega),h2⟩
theorem full_inc0 (n:Nat):Inc n 0 (fullL n 0):=by have:=fullL_inc n 0;rwa[Int.zero_add] at this
theorem chgI_inc (n:Nat):Inc n 0 (chgI f n):=(full_inc0 n).sub List.filter_sublist
def restL (w:List Int)(n:Nat):List Int:=(fullL n 0).filter fun x=> !(w.any fun r=>decide (x=r))
theorem restL_mem {w:List Int}{n:Nat}{x:Int}:x∈restL w n↔(0≤x∧x<n)∧x ∉w:=by
 unfold restL
 rw[List.mem_filter,any_memR,Bool.not_eq_true',decide_eq_false_iff_not]
 constructor
 ·rintro⟨h1,h2⟩;have:=fullL_in h1;exact⟨by omega,h2⟩
 ·rintro⟨h1,h2⟩;exact⟨fullL_mem h1.1 (by omega),h2⟩
theorem restL_inc (w:List Int)(n:Nat):Inc n 0 (restL w n):=(full_inc0 n).sub List.filter_sublist
theorem filt_inc:∀(k:Nat) (i:Int) (w:List Int),Inc (i+k) i w→(fullL k i).filter (fun x=>w.any fun r=>decide (x=r))=w
 |0,i,w,h=>by
  cases w with
  |nil=>rfl
  |cons a w=>have:=h.1;have:=h.2.1;omega
 |k+1,i,w,h=>by
  have e:i+((k+1:Nat):Int)=i+1+(k:Int):=by omega
  rw[e] at h
  rw[fullL,List.filter_cons]
  cases w with
  |nil=>
   simp
  |cons a w=>
   by_cases ea:a=i
   ·subst ea
    have h1:((a::w).any fun r=>decide (a=r))=true:=by simp
    rw[if_pos h1]
    have h2:=filt_inc k (a+1) w h.2.2
    have h3:(fullL k (a+1)).filter (fun x=>(a::w).any fun r=>decide (x=r))=(fullL k (a+1)).filter (fun x=>w.any fun r=>decide (x=r)):=List.filter_congr fun x hx=>by
     have:=fullL_in hx
     rw[List.any_cons,decide_eq_false (by omega),Bool.false_or]
    rw[h3,h2]
   ·have h1:¬((a::w).any fun r=>decide (i=r))=true:=by
     rw[any_memR,decide_eq_true_eq]
     intro hm
     have:=Inc.mem h i hm
     rcases List.mem_cons.1 hm with rfl|hm
     ·exact ea rfl
     ·have:=h.2.2.mem i hm;have:=h.1;omega
    rw[if_neg h1]
    exact filt_inc k (i+1) (a::w) ⟨by have:=h.1;omega,h.2.1,h.2.2⟩
theorem fullL_len:∀(k:Nat) (i:Int),(fullL k i).length=k
 |0,_=>rfl
 |k+1,i=>by rw[fullL,List.length_cons,fullL_len k (i+1)]
theorem filter_len {p:Int→Bool}:∀l:List Int,(l.filter p).length+(l.filter fun x=> !p x).length=l.length
 |[]=>rfl
 |a::l=>by
  have ih:=filter_len (p:=p) l
  rw[List.filter_cons,List.filter_cons]
  cases p a<;>simp<;>omega
theorem restL_len {w:List Int}{n:Nat}(h:Inc n 0 w):(restL w n).length+w.length=n:=by
 have h1:=filt_inc n 0 w (by rw[Int.zero_add];exact h)
 have h2:=filter_len (p:=fun x=>w.any fun r=>decide (x=r)) (fullL n 0)
 rw[h1,fullL_len] at h2
 unfold restL
 omega
section
variable {b:At}
theorem wrongO_some (r:Right b){D:List Int}(hi:Inc b.rds.length 0 D)(hp:wrongP b D=true):∃w,wrongO b=some w∧IsMin (wrongP b) b.rds.length w:=by
 rcases firstOf_spec (wrongP b) b.rds.length (b.rds.length+1) 0 rfl (fun d _ hl=>by omega) with h1|⟨_,h2⟩
 ·exact h1
 ·rw[h2 D hi] at hp;cases hp
theorem wrongP_tru (r:Right b){l:List Int}:wrongP b l=true↔∃runs y,Tru b (fun i=> !lstF l i) runs y:=by
 unfold wrongP
 rw[decide_eq_true_eq,Ne,noN r]
 constructor
 ·intro h
  exact Classical.byContradiction fun hn=>h fun runs y t=>hn ⟨runs,y,t⟩
 ·rintro⟨runs,y,t⟩ h;exact h _ _ t
theorem cnt_tru (r:Right b){cnt:Nat→Bool}:casesL b cnt≠[]↔∃runs y,Tru b cnt runs y:=by
 rw[Ne,noN r]
 constructor
 ·intro h
  exact Classical.byContradiction fun hn=>h fun runs y t=>hn ⟨runs,y,t⟩
 ·rintro⟨runs,y,t⟩ h;exact h _ _ t
variable {w:List Int} (mw:IsMin (wrongP b) b.rds.length w)
include mw
theorem wrong_nil (r:Right b):w=[]↔allC b≠[]:=by
 constructor
 ·rintro rfl
  have:=mw.holds
  unfold wrongP at this
  rw[decide_eq_true_eq] at this
  exact this
 ·intro h
  have:=mw.len (d:=[]) trivial (by unfold wrongP;rw[decide_eq_true_eq];exact h)
  exact List.length_eq_zero_iff.1 (by simpa using this)
theorem rest_tru (r:Right b):∃runs y,Tru b (lstF (restL w b.rds.length)) runs y:=by
 obtain⟨runs,y,t⟩:=(wrongP_tru r).1 mw.holds
 refine⟨runs,y,tru_fewer (fun i hi hc=>?_) t⟩
 have h1:=(restL_mem.1 (lstF_mem.1 hc)).2
 rw[Bool.not_eq_true']
 exact Bool.eq_false_iff.2 fun hq=>h1 (lstF_mem.1 hq)
theorem rest_agree (r:Right b):agreeR b (restL w b.rds.length)=(true,0):=by
 rw[agreeR_ok r (fun x hx=>(restL_mem.1 hx).1) (restL_inc _ _).nodup,decide_eq_true ((cnt_tru r).2 (rest_tru mw r))]
theorem rest_more (r:Right b){i:Int}(hi:i∈w):agreeR b (restL w b.rds.length++[i])=(false,0):=by
 have hb:=mw.inc.mem i hi
 have hn:i ∉restL w b.rds.length:=fun h=>(restL_mem.1 h).2 hi
 have hno:¬casesL b (lstF (restL w b.rds.length++[i]))≠[]:=by
  intro hc
  obtain⟨runs,y,t⟩:=(cnt_tru r).1 hc
  have hs:(w.erase i).Sublist w:=List.erase_sublist
  have hp:wrongP b (w.erase i)=true:=(wrongP_tru r).2 ⟨runs,y,tru_fewer (fun j hj hc=>by
   rw[Bool.not_eq_true'] at hc
   refine lstF_mem.2 ?_
   by_cases e:(j:Int)=i
   ·rw[e];exact List.mem_append_right _ (List.mem_singleton.2 rfl)
   ·refine List.mem_append_left _ (restL_mem.2 ⟨by omega,fun hm=>?_⟩)
    have:=lstF_mem.2 ((List.mem_erase_of_ne e).2 hm)
    rw[hc] at this;cases this) t⟩
  have h1:=mw.len (mw.inc.sub hs) hp
  have h2:=List.length_erase_of_mem hi
  have h3:=List.length_pos_of_mem hi
  omega
 have hmem:∀x∈restL w b.rds.length++[i],0≤x∧x<(b.rds.length:Int):=fun x hx=>by
  rcases List.mem_append.1 hx with hx|hx
  ·exact(restL_mem.1 hx).1
  ·rw[List.mem_singleton] at hx;subst hx;exact hb
 have hnd:(restL w b.rds.length++[i]).Nodup:=by
  refine List.nodup_append.2 ⟨(restL_inc _ _).nodup,by simp,fun x hx z hz e=>?_⟩
  rw[List.mem_singleton] at hz;subst hz;subst e;exact hn hx
 rw[agreeR_ok r hmem hnd,decide_eq_false hno]
omit mw
theorem clash_agree (r:Right b){l:List Int}(ml:IsMin (clashP b) b.rds.length l):agreeR b l=(false,0):=by
 have h:=ml.holds
 unfold clashP at h
 rw[decide_eq_true_eq] at h
 rw[agreeR_ok r (fun x hx=>ml.inc.mem x hx) ml.inc.nodup,decide_eq_false (by rw[h];simp)]
theorem clash_less (r:Right b){l:List Int}(ml:IsMin (clashP b) b.rds.length l){k:Nat}(hk:k<l.length):agreeR b (l.eraseIdx k)=(true,0):=by
 have hs:(l.eraseIdx k).Sublist l:=List.eraseIdx_sublist l k
 have hi:=ml.inc.sub hs
 have hne:casesL b (lstF (l.eraseIdx k))≠[]:=fun hc=>by
  have h1:=ml.len hi (by unfold clashP;rw[decide_eq_true_eq];exact hc)
  have h2:=List.length_eraseIdx_of_lt hk
  omega
 rw[agreeR_ok r (fun x hx=>hi.mem x hx) hi.nodup,decide_eq_true hne]
theorem clash_some (r:Right b){l:List Int}(ml:IsMin (clashP b) b.rds.length l){runs:Runs}{y:Nat→Int}(t:Tru b (fun _=>false) runs y):l≠[]:=by
 rintro rfl
 have h:=ml.holds
 unfold clashP at h
 rw[decide_eq_true_eq] at h
 exact(noN r).1 h _ _ t
theorem clash_wrong (r:Right b){l:List Int}(ml:IsMin (clashP b) b.rds.length l)(mw:IsMin (wrongP b) b.rds.length w):∃i∈l,i∈w:=by
 refine Classical.byContradiction fun hn=>?_
 have h:=ml.holds
 unfold clashP at h
 rw[decide_eq_true_eq] at h
 obtain⟨runs,y,t⟩:=rest_tru mw r
 refine(noN r).1 h runs y (tru_fewer (fun i hi hc=>lstF_mem.2 (restL_mem.2 ⟨by omega,fun hm=>hn ⟨_,lstF_mem.1 hc,hm⟩⟩)) t)
end
theorem wrongP_chg (r:Right (a.chg f m))(t:TruA a (ss.zip gg) (timeF tt)):wrongP (a.chg f m) (chgI f a.rds.length)=true:=
 (wrongP_tru r).2 ⟨_,_,chg_tru t fun i hi hc=>by
  rw[Bool.not_eq_true'] at hc
  refine Bool.eq_false_iff.2 fun hq=>?_
  have:=lstF_mem.2 (chgI_mem.2 ⟨hi,hq⟩)
  rw[hc] at this;cases this⟩
end Go.Ab.Tryz
namespace Go.Ab
namespace Tryz
open Go.Proofs
set_option maxHeartbeats 1000000 in
theorem deleteF_ev {h:H}{b:Nat}{l:List Int}{k:Nat}(hw:h.wf)(hb:h.get b=some (.cells .rw (l.map iv)))(hk:k<l.length)(hl:l.length≤1000000)(Q:V→H→Prop)
  (q:∀h',Keeps (fun c=>c=b) h h'→h'.wf→h'.get b=some (.cells .rw ((l.eraseIdx k).map iv++[iv 0]))→Q (.sl b 0 (l.eraseIdx k).length (.fix l.length)) h'):Ev fnG fastA (.fn 60 [] []) [.sl b 0 l.length (.fix l.length),.int .i64 (k:Int),.int .i64 ((k+1:Nat):Int)] h Q:=by
 have lb:=hw _ _ hb
 have hel:(l.eraseIdx k).length=l.length-1:=List.length_eraseIdx_of_lt hk
 have hi:∀(n:Nat) tm,(Opd.c (.int .i64 (n:Int))).ev tm=.int .i64 (n:Int):=fun _ _=>rfl
 have b1:Nat.ble k (k+1)=true:=by simp
 have b2:Nat.ble (k+1) l.length=true:=by simp;omega
 have b3:Nat.ble l.length l.length=true:=by simp
 have b4:Nat.blt 0 l.length=true:=by rw[Nat.blt_eq];omega
 have b5:Nat.beq 1 1=true:=rfl
 have b6:Nat.beq 0 (0*1)=true:=rfl
 have b7:Nat.ble 0 k=true:=by simp
 have b8:Nat.ble k l.length=true:=by simp;omega
 have b9:Nat.blt 0 (l.length+k)=true:=by rw[Nat.blt_eq];omega
 have b10:Nat.blt 0 (l.length+l.length)=true:=by rw[Nat.blt_eq];omega
 have lm:(l.map iv).length=l.length:=List.length_map ..
 have z0:bsel (Nat.beq l.length 0) 0 (0+0*1)=0:=by cases Nat.beq l.length 0<;>rfl
 obtain⟨oF,hoF⟩:∃oF,bsel (Nat.beq l.length (k+1)) 0 (0+(k+1)*1)=oF:=⟨_,rfl⟩
 have hoF2:k+1<l.length→oF=k+1:=fun h=>by
  have e:Nat.beq l.length (k+1)=false:=by
   cases hh:Nat.beq l.length (k+1) with
   |false=>rfl
   |true=>have:=Nat.eq_of_beq_eq_true hh;omega
  rw[←hoF,e];simp[bsel]
 have e1:slcM h 1 (.sl b 0 l.length (.fix l.length)) (.int .i64 (k:Int)) (.int .i64 ((k+1:Nat):Int)) (.int .i64 (l.length:Int))=some (sub b 0 1 (k,k+1,l.length)):=by
  simp only[slcM,q_slc,og_true,bnd3,natO,hi,natk_cst,bnds,b1,b2,b3,subO]
 have e2:slcTo h 1 (.sl b 0 l.length (.fix l.length)) (.int .i64 (k:Int))=some (.sl b 0 k (.fix l.length)):=by
  simp only[slcTo,q_slc,og_true,bnd3,natO,hi,natk_cst,bnds,b3,b7,b8,subO,sub,z0,Nat.sub_zero]
 have e3:slcFrom h 1 (.sl b 0 l.length (.fix l.length)) (.int .i64 ((k+1:Nat):Int))=some (.sl b oF (l.length-(k+1)) (.fix (l.length-(k+1)))):=by
  simp only[slcFrom,q_slc,og_true,bnd3,natO,hi,natk_cst,bnds,b3,b2,subO,sub,hoF]
 have hne:¬(k:Int)=((k+1:Nat):Int):=by omega
 refine Ev_body (fd:=c60) rfl rfl rfl ?_
 have key:∃h2,e_app' h 1 8 (.sl b 0 k (.fix l.length)) (.sl b oF (l.length-(k+1)) (.fix (l.length-(k+1))))=some (.sl b 0 (l.length-1) (.fix l.length),h2)∧Keeps (fun c=>c=b) h h2∧h2.wf∧∃y,h2.get b=some (.cells .rw ((l.eraseIdx k).map iv++[iv y])):=by
  rw[e_app_eq]
  cases hn:l.length-(k+1) with
  |zero=>
   have hk1:k=l.length-1:=by omega
   refine⟨h,?_,Keeps.refl _ _,hw,l[k],?_⟩
   ·simp only[elems,ob_some,lenV_sl,e_app_fix0,b8,og_true]
    rw[hk1]
   ·rw[hb,erase_take]
    have hd:l.drop (k+1)=[]:=List.drop_eq_nil_of_le (by omega)
    have:l=l.take k++[l[k]]:=by
     have h1:=(List.take_append_drop k l).symm
     rw[List.drop_eq_getElem_cons hk,hd] at h1;exact h1
    rw[hd,List.append_nil]
    have h2:=congrArg (List.map iv) this
    rw[List.map_append] at h2
    rw[h2];rfl
  |succ j=>
   have hj:l.length=k+1+(j+1):=by omega
   have hd:(l.drop (k+1)).length=j+1:=by simp;omega
   have hget:getN (k+1) ((j+1)*1) (l.map iv)=some ((l.drop (k+1)).map iv):=getN_eq.2 ⟨by rw[Nat.mul_one,←List.map_drop,List.take_of_length_le (by rw[List.length_map,hd];exact Nat.le_refl _)],by simp;omega⟩
   have ho2:=hoF2 (by omega)
   subst ho2
   have hone:allOne ((l.drop (k+1)).map iv)=true:=by
    rw[allOne_eq];intro v hv;obtain⟨_,_,rfl⟩:=List.mem_map.1 hv;rfl
   obtain⟨v,vs,hv⟩:∃v vs,(l.drop (k+1)).map iv=v::vs:=by
    cases e:(l.drop (k+1)).map iv with
    |nil=>have:=congrArg List.length e;simp at this;omega
    |cons v vs=>exact⟨v,vs,rfl⟩
   have hlast:l.length-1<l.length:=by omega
   have hp:putN (0+k*1) ((l.drop (k+1)).map iv) (l.map iv)=some ((l.eraseIdx k).map iv++[iv l[l.length-1]]):=by
    have e0:l.map iv=(l.take k).map iv++((l.drop k).take (j+1)).map iv++[iv l[l.length-1]]:=by
     have h1:l=l.take k++((l.drop k).take (j+1)++(l.drop k).drop (j+1)):=by rw[List.take_append_drop,List.take_append_drop]
     have h2:(l.drop k).drop (j+1)=[l[l.length-1]]:=by
      rw[List.drop_drop,show k+(j+1)=l.length-1 by omega,List.drop_eq_getElem_cons hlast,List.drop_eq_nil_of_le (by omega)]
     rw[h2] at h1
     conv=>lhs;rw[h1]
     simp
    have:=putN_app (pre:=(l.take k).map iv) (new:=(l.drop (k+1)).map iv) (old:=((l.drop k).take (j+1)).map iv) (rest:=[iv l[l.length-1]]) (by simp;omega)
    rw[←e0] at this
    rw[show 0+k*1=((l.take k).map iv).length by simp;omega,this,erase_take,List.map_append]
   have hp2:=H.put_rw (h:=h) (b:=b) (by rw[←hv];exact hone) hb (by rw[←hv];exact hp)
   rw[←hv] at hp2
   refine⟨_,?_,Keeps.set h b _,H.wf_set hw _ hb,l[l.length-1],get_set_same rfl⟩
   simp only[elems,cells_of hb,hget,ob_some,lenV_sl]
   rw[e_app_fix (by omega),hp2,withV_some]
   rw[show k+(j+1)=l.length-1 by omega]
 obtain⟨h2,ka,k2,w2,y,g2⟩:=key
 have bf:Nat.beq l.length (l.length-1)=false:=by
  cases hh:Nat.beq l.length (l.length-1) with
  |false=>rfl
  |true=>have:=Nat.eq_of_beq_eq_true hh;omega
 have c1:Nat.ble (l.length-1) l.length=true:=by simp
 have e4:slcB h2 1 (.sl b 0 (l.length-1) (.fix l.length)) (.int .i64 ((l.length-1:Nat):Int)) (.int .i64 (l.length:Int))=some (.sl b (l.length-1) 1 (.fix 1)):=by
  simp only[slcB,q_slc,og_true,bnd3,natO,hi,natk_cst,bnds,c1,b3,subO,sub,bf,bsel,Nat.mul_one,Nat.zero_add]
  rw[show l.length-(l.length-1)=1 by omega]
 have hp3:putN (l.length-1) [iv 0] ((l.eraseIdx k).map iv++[iv y])=some ((l.eraseIdx k).map iv++[iv 0]):=by
  have:=putN_app (pre:=(l.eraseIdx k).map iv) (new:=[iv 0]) (old:=[iv y]) (rest:=[]) rfl
  simpa[hel] using this
 have e5:e_clr h2 [.int .i64 0] (.sl b (l.length-1) 1 (.fix 1))=some (.und,h2.set b (.cells .rw ((l.eraseIdx k).map iv++[iv 0]))):=by
  have hr:repN 1 [V.int .i64 0]=[iv 0]:=rfl
  rw[e_clr_sl,hr,H.put_rw (by rfl) g2 hp3,withV_some]
 simp -implicitDefEqProofs(maxSteps:=999999)(disch:=first|with_reducible rfl|omega|(simp only[nA,nS,nD]<;>omega)|fail)only[c60,go_sem,q_slc_m,q_slc_to,q_slc_from,q_slc_b,e1,hne,e2,e3,ka,e4,e5,evQ_slc]
 rw[←hel]
 exact q _ ((k2.trans (Keeps.set h2 b _)).mono fun c h=>h.elim id id) (H.wf_set w2 _ g2) (get_set_same rfl)
end Tryz
end Go.Ab
namespace Go.Ab
theorem OwnC.putAt {h0 h:H}{R:V}{sz:Nat}{rows:List (List V)}(o:OwnC h0 h R sz rows)(hw0:h0.wf){k:Nat}{row:List V}(hk:rows[k]? =some row){j:Nat}{pre post:List V}{old v:V}(hrow:row=pre++old::post)(hj:pre.length=j)(hv:v.one=true):
  ∃b h',blkOf R b∧h.put b (k*sz+j) [v]=some h'∧OwnC h0 h' R sz (rows.set k (pre++v::post))∧Keeps (fun c=>c=b) h h'∧h'.next=h.next∧(∀{u:V},nat? u=some k→q_iad sz R u=some (.ptr b (k*sz)))∧∃cs,h.cells b=some cs∧nth (k*sz+j) cs=some old:=by
 obtain⟨s0,hsz,o⟩:=o
 have hkl:k<rows.length:=by
  rcases Nat.lt_or_ge k rows.length with q|q
  ·exact q
  ·rw[List.getElem?_eq_none q] at hk;cases hk
 have hrl:row.length=sz:=hsz _ (List.mem_of_getElem? hk)
 have hal:(pre++v::post).length=sz:=by rw[←hrl,hrow];simp
 have hall:∀r∈rows.set k (pre++v::post),r.length=sz:=fun r hr=>by
  rcases List.mem_or_eq_of_mem_set hr with hr|hr
  ·exact hsz r hr
  ·rw[hr];exact hal
 have e0:rows=rows.take k++row::rows.drop (k+1):=by
  have h2:=(List.take_append_drop k rows).symm
  rw[List.drop_eq_getElem_cons hkl] at h2
  rw[List.getElem?_eq_getElem hkl] at hk
  cases hk;exact h2
 have e1:rows.set k (pre++v::post)=rows.take k++(pre++v::post)::rows.drop (k+1):=by rw[List.set_eq_take_append_cons_drop,if_pos hkl]
 have hl:(rows.take k).flatten.length=k*sz:=by
  rw[flatten_len (sz:=sz) (rows:=rows.take k) fun r hr=>hsz r (List.mem_of_mem_take hr),List.length_take,Nat.min_eq_left (by omega)]
 have f0:rows.flatten=((rows.take k).flatten++pre)++[old]++(post++(rows.drop (k+1)).flatten):=by
  have:=congrArg List.flatten e0
  rw[List.flatten_append,List.flatten_cons,hrow] at this
  simpa using this
 have f1:(rows.set k (pre++v::post)).flatten=((rows.take k).flatten++pre)++[v]++(post++(rows.drop (k+1)).flatten):=by
  have:=congrArg List.flatten e1
  rw[List.flatten_append,List.flatten_cons] at this
  simpa using this
 have hpl:((rows.take k).flatten++pre).length=k*sz+j:=by rw[List.length_append,hl,hj]
 have hput:∀rest:List V,putN (k*sz+j) [v] (rows.flatten++rest)=some ((rows.set k (pre++v::post)).flatten++rest):=fun rest=>by
  have:=putN_app (pre:=(rows.take k).flatten++pre) (new:=[v]) (old:=[old]) (rest:=post++(rows.drop (k+1)).flatten++rest) rfl
  rw[hpl] at this
  rw[f0,f1]
  simpa using this
 have hnth:∀rest:List V,nth (k*sz+j) (rows.flatten++rest)=some old:=fun rest=>by
  rw[nth_eq,f0,List.append_assoc,List.append_assoc,←hpl,List.getElem?_append_right (Nat.le_refl _),Nat.sub_self]
  rfl
 have hone:allOne [v]=true:=by rw[allOne_cons,hv];rfl
 have hls:(rows.set k (pre++v::post)).length=rows.length:=List.length_set ..
 rcases o with⟨rfl,e⟩|⟨b,rfl,l1,l2,hb⟩|⟨b,c,rest,rfl,l1,l2,hb,hc,hle⟩
 ·rw[e] at hkl;exact absurd hkl (Nat.not_lt_zero _)
 ·have hp:=hput []
  rw[List.append_nil,List.append_nil] at hp
  refine⟨b,_,⟨_,_,_,rfl⟩,H.put_gr hone hb hp,⟨s0.set l1 l2 hw0 _,hall,.inr (.inl ⟨b,by rw[hls],l1,by rw[H.next_set];exact l2,get_set_same rfl⟩)⟩,Keeps.set h b _,H.next_set _ _ _,fun hu=>by rw[q_iad_sl hu hkl];simp,_,cells_of hb,by have:=hnth [];rwa[List.append_nil] at this⟩
 ·refine⟨b,_,⟨_,_,_,rfl⟩,H.put_rw hone hb (hput rest),⟨s0.set l1 l2 hw0 _,hall,.inr (.inr ⟨b,c,rest,by rw[hls],l1,by rw[H.next_set];exact l2,get_set_same rfl,by rw[hls];exact hc,by rw[hls];exact hle⟩)⟩,Keeps.set h b _,H.next_set _ _ _,fun hu=>by rw[q_iad_sl hu hkl];simp,_,cells_of hb,hnth rest⟩
end Go.Ab
namespace Go.Ab.Tryz
open Go.Proofs
open Go.Ab.Silk (IsMin Inc)
theorem shr_ex (u:Int):∃Y:Nat→Int,∀i:Nat,q_sh .shr (.int .u8 u) (.int .i64 (i:Int))=some (.int .u8 (Y i)):=by
 exact⟨fun i=>u.fdiv (2^(min i IntKind.u8.bits)),fun i=>rfl⟩
theorem fullL_snoc:∀(k:Nat) (i:Int),fullL (k+1) i=fullL k i++[i+k]
 |0,i=>by simp[fullL]
 |k+1,i=>by
  have:=fullL_snoc k (i+1)
  rw[fullL,this,fullL,List.cons_append,show i+1+(k:Int)=i+((k+1:Nat):Int) by omega]
theorem chgI_step (f:Nat→Bool)(k:Nat):chgI f (k+1)=chgI f k++if f k=true then[(k:Int)] else[]:=by
 unfold chgI
 rw[fullL_snoc,List.filter_append,Int.zero_add]
 congr 1
 simp only[List.filter_cons,List.filter_nil,Int.toNat_natCast]
theorem restL_step (w:List Int)(k:Nat):restL w (k+1)=restL w k++if(w.any fun r=>decide ((k:Int)=r))=true then[] else[(k:Int)]:=by
 unfold restL
 rw[fullL_snoc,List.filter_append,Int.zero_add]
 congr 1
 simp only[List.filter_cons,List.filter_nil]
 cases(w.any fun r=>decide ((k:Int)=r))<;>rfl
theorem clashed1_ev {h:H}{b:Nat}{w:V}{l:List Int}(gb:h.get b=some (.cells .rw [w]))(xw:SlAt h w 1 (l.map encI))(n:Int):PureA h (.fn 59 [] [.ptr b 0]) [.int .i64 n] (.bool (l.any fun r=>decide (n=r))):=by
 intro h1 s
 refine Ev.gen fun Q q=>?_
 refine Ev_body (fd:=c59) rfl rfl rfl ?_
 simp -implicitDefEqProofs(maxSteps:=999999)(disch:=first|with_reducible rfl|omega|(simp only[nA,nS,nD]<;>omega)|fail)only[c59,go_sem,cells_of (s.get gb)]
 refine hasInt_ev s.wf (xw.mono s) n _ fun h2 s2=>?_
 simp -implicitDefEqProofs(maxSteps:=999999)(disch:=first|with_reducible rfl|omega|(simp only[nA,nS,nD]<;>omega)|fail)only[go_sem]
 exact q _ _ ⟨rfl,s2⟩
set_option maxHeartbeats 8000000 in
theorem ClockClashed_ev {h:H}{x:V}{bs:List Int}(hw:h.wf)(hx:SlAt h x 1 (bs.map encU8)){u1 u2:Int}(hu1:0≤u1∧u1≤255)(hu2:0≤u2∧u2≤255):
  Ev fnG fastA (.fn 10 [] []) [x,.int .u8 u1,.int .u8 u2] h fun v _=>v=.bool true:=by
 refine Ev.gen fun Q q=>?_
 refine Ev_body (fd:=c10) rfl rfl rfl ?_
 simp -implicitDefEqProofs(maxSteps:=999999)(disch:=first|with_reducible rfl|omega|(simp only[nA,nS,nD]<;>omega)|fail)only[c10,go_sem]
 refine Wound_ev hw hx _ fun h1 s1 p1 n1=>?_
 simp -implicitDefEqProofs(maxSteps:=999999)(disch:=first|with_reducible rfl|omega|(simp only[nA,nS,nD]<;>omega)|fail)only[go_sem]
 refine Made2_ev s1 hw hx (Nat.le_refl _) p1 (by omega) (by omega) (by omega) (by omega) (by omega) _ fun h2 T2 a ss gg tt C R G S Ga Tm mk mo=>?_
 have ok:=mk.ok
 have r:=ok.right mk.lt
 have tru:=ok.tru
 have he:=ok.e
 have hm:=ok.m
 have lt:=mk.lt
 have oC:=mk.at_.c.one;have oR:=mk.at_.r.one;have oG:=mk.at_.g.one
 have oS:=mk.as_.one;have oGa:=mk.ag.one;have oTm:=mk.am.one
 have hw2:=mk.s.wf
 obtain⟨hA,hhA⟩:∃hA,((((h2.add (.cells .rw [.int .i64 0,.int .i64 0,.nils,.nils,.nils])).add (.cells .rw [.nils,.nils,.nils])).set h2.next (.cells .rw (atV a C R G))).set (h2.next+1) (.cells .rw [S,Ga,Tm]))=hA:=⟨_,rfl⟩
 have sA:h2.Sub hA:=by rw[←hhA];exact(by repeat(first|assumption|exact H.Sub.refl (by assumption)|refine H.Sub.add ?_ _|refine H.Sub.set ?_ (by first|omega|(simp only[H.next_add,H.next_set,H.next_del]<;>omega)) (by first|omega|(simp only[H.next_add,H.next_set,H.next_del]<;>omega)) (by assumption) _))
 have g7:hA.get h2.next=some (.cells .rw (atV a C R G)):=by rw[←hhA];simp -implicitDefEqProofs(maxSteps:=999999)(disch:=first|with_reducible rfl|omega|(simp only[nA,nS,nD]<;>omega)|fail)only[go_sem]
 have g8:hA.get (h2.next+1)=some (.cells .rw [S,Ga,Tm]):=by rw[←hhA];simp -implicitDefEqProofs(maxSteps:=999999)(disch:=first|with_reducible rfl|omega|(simp only[nA,nS,nD]<;>omega)|fail)only[go_sem]
 have trR:TrAt hA S Ga Tm ss gg tt:=TrAt.mono ⟨mk.as_,mk.ag,mk.am⟩ sA
 have xA:=mk.at_.mono sA
 have hne:allC a≠[]:=fun hc=>(noC r).1 hc _ _ tru
 have hlR:=xA.r.lenE
 have z2:wr .i64 u2=u2:=wr_in (by omega) (by omega)
 have e0:clashR a=([],6):=by unfold clashR;rw[if_neg (by rw[checkA_iff.2 r];simp),if_pos hne]
 simp -implicitDefEqProofs(maxSteps:=999999)(disch:=first|with_reducible rfl|omega|(simp only[nA,nS,nD]<;>omega)|fail)only[go_sem,oC,oR,oG,oS,oGa,oTm,hhA,cells_of g7]
 clear hhA
 refine Clash_ev sA.wf xA _ fun w0 h3 s3 _=>?_
 rw[e0]
 have d66:decide ((6:Int)=6)=true:=rfl
 simp -implicitDefEqProofs(maxSteps:=999999)(disch:=first|with_reducible rfl|omega|(simp only[nA,nS,nD]<;>omega)|fail)only[go_sem,d66,ne_eq,not_true_eq_false,cells_of (s3.get g7),hlR]
 obtain⟨mm,hmm⟩:∃mm,1+u2.tmod 40=mm:=⟨_,rfl⟩
 have hmb:0≤mm∧mm≤100:=by
  have h1:=Int.tmod_nonneg 40 hu2.1
  have h2:=Int.tmod_lt_of_pos u2 (show(0:Int)<40 by decide)
  omega
 have wmm:wr .i64 (1+u2.tmod 40)=mm:=by rw[hmm];exact wr_in (by omega) (by omega)
 have h40:¬(40:Int)=0:=by decide
 have s23:=sA.trans s3
 have g73:=s3.get g7
 have oR3:=mo.r.mono s23
 have lr:=ok.rl
 have l2:∀b,blkOf R b→b<h2.next:=fun b hb=>(mo.r.blk hb).2.1
 obtain⟨Y,hY⟩:=shr_ex u1
 obtain⟨f,hf⟩:∃f:Nat→Bool,∀i,decide (andI .u8 (Y i) 1=1)=f i:=⟨_,fun _=>rfl⟩
 refine W_count a.rds.length (fun i s=>∃tm z,s=⟨tm,z,[]⟩∧Keeps (blkOf R) h3 z∧h.Sub z∧OwnC h z R 3 ((chgL f mm a.rds i).map encR)∧
   (Opd.t 1).ev tm=.int .u8 u1∧(Opd.t 2).ev tm=.int .u8 u2∧(Opd.t 7).ev tm=.ptr h2.next 0∧(Opd.t 8).ev tm=.ptr (h2.next+1) 0∧(Opd.t 11).ev tm=.int .i64 ((chgI f i).length:Int)∧(Opd.t 45).ev tm=.int .i64 (a.rds.length:Int)∧(Opd.t 46).ev tm=.int .i64 (i:Int)) ?_ ?_ (i:=0) (Nat.zero_le _)
  ⟨_,_,rfl,Keeps.refl _ _,mk.s.trans s23,by rw[chgL_0];exact oR3,(by simp[ev_c,ev_put]<;>rfl),(by simp[ev_c,ev_put]<;>rfl),(by simp[ev_c,ev_put]<;>rfl),(by simp[ev_c,ev_put]<;>rfl),(by simp[ev_c,ev_put]<;>rfl),(by simp[ev_c,ev_put]<;>rfl),(by simp[ev_c,ev_put]<;>rfl)⟩
 ·rintro i s hi ⟨tm,z,rfl,kz,sz,oz,t1,t2,t7,t8,t11,t45,t46⟩
  have hi':(i:Int)<(a.rds.length:Int):=by omega
  have g7z:=kz.2 _ _ g73 fun hb=>by have:=l2 _ hb;omega
  have hstep:=chgI_step f i
  cases hfi:f i with
  |false=>
   rw[hfi] at hstep
   have hc:=chgL_no mm a.rds hfi
   simp -implicitDefEqProofs(maxSteps:=999999)(disch:=first|with_reducible rfl|omega|(simp only[nA,nS,nD]<;>omega)|fail)only[go_sem,t1,t2,t7,t8,t11,t45,t46,hi',hY,q_ar_and,hf,hfi,wr_succ]
   exact⟨_,_,rfl,kz,sz,by rw[hc];exact oz,(by simp[ev_c,ev_put,t1]<;>rfl),(by simp[ev_c,ev_put,t2]<;>rfl),(by simp[ev_c,ev_put,t7]<;>rfl),(by simp[ev_c,ev_put,t8]<;>rfl),by rw[hstep,if_neg (by simp),List.append_nil];exact(by simp[ev_c,ev_put,t11]<;>rfl),(by simp[ev_c,ev_put,t45]<;>rfl),(by simp[ev_c,ev_put]<;>rfl)⟩
  |true=>
   rw[hfi] at hstep
   have hc:=chgL_yes (m:=mm) hfi (List.getElem?_eq_getElem hi)
   obtain⟨rr,hrr⟩:∃rr,a.rds[i]=rr:=⟨_,rfl⟩
   rw[hrr] at hc
   obtain⟨hc1,hc2⟩:=hc
   have hrow:((chgL f mm a.rds i).map encR)[i]? =some (encR rr):=by rw[List.getElem?_map,hc1];rfl
   obtain⟨_,_,sv,gv,tv,e1,e2,e3,e4⟩:=ok.rd rr (by rw[←hrr];exact List.getElem_mem hi)
   have htv:=ok.tm tv (List.mem_of_getElem? e3)
   have hsb:=shw_bd (ok.run e1 e2) htv.1 (by omega)
   have wsh:wr .i64 (rr.sh+mm)=rr.sh+mm:=wr_in (by omega) (by omega)
   obtain⟨b,z',hbk,hput,o',k',n',hq',cs,hcs,hnth⟩:=oz.putAt (k:=i) (j:=2) (pre:=[.int .i64 rr.ck,.int .i64 rr.ev]) (post:=[]) (old:=.int .i64 rr.sh) (v:=.int .i64 (rr.sh+mm)) hw hrow rfl rfl rfl
   have e5:((chgL f mm a.rds i).map encR).set i ([V.int .i64 rr.ck,.int .i64 rr.ev]++[.int .i64 (rr.sh+mm)])=(chgL f mm a.rds (i+1)).map encR:=by rw[hc2,List.map_set];rfl
   rw[e5] at o'
   have lc:((chgI f i).length:Int)≤i:=by
    have:=List.length_filter_le (fun x:Int=>f x.toNat) (fullL i 0)
    rw[fullL_len] at this
    unfold chgI;omega
   have wc:wr .i64 ((chgI f i).length+1)=((chgI f i).length:Int)+1:=wr_in (by omega) (by omega)
   simp -implicitDefEqProofs(maxSteps:=999999)(disch:=first|with_reducible rfl|omega|(simp only[nA,nS,nD]<;>omega)|fail)only[go_sem,t1,t2,t7,t8,t11,t45,t46,hi',hY,q_ar_and,hf,hfi,cells_of g7z,hq' (nat_cst i),hcs,hnth,z2,q_ar_rem .i64 h40,wmm,wsh,hput,wc,wr_succ]
   exact⟨_,_,rfl,(kz.trans k').mono fun c hc=>hc.elim id fun hc=>hc▸hbk,o'.1,o',(by simp[ev_c,ev_put,t1]<;>rfl),(by simp[ev_c,ev_put,t2]<;>rfl),(by simp[ev_c,ev_put,t7]<;>rfl),(by simp[ev_c,ev_put,t8]<;>rfl),by rw[hstep,if_pos rfl,List.length_append];exact(by simp[ev_c,ev_put]<;>rfl),(by simp[ev_c,ev_put,t45]<;>rfl),(by simp[ev_c,ev_put]<;>rfl)⟩
 ·rintro s ⟨tm,z,rfl,kz,sz,oz,t1,t2,t7,t8,t11,t45,t46⟩
  have hwz:=sz.wf
  have dj:=mo.dj
  obtain⟨n,hn⟩:∃n,a.rds.length=n:=⟨_,rfl⟩
  have g7z:=kz.2 _ _ g73 fun hb=>by have:=l2 _ hb;omega
  have g8z:=kz.2 _ _ (s3.get g8) fun hb=>by have:=l2 _ hb;omega
  obtain⟨b,hb⟩:∃b,a.chg f mm=b:=⟨_,rfl⟩
  have lb:b.rds.length=n:=by rw[←hb,←hn];exact chgL_len ..
  have hr:Right b:=by rw[←hb];exact right_chg ok lt hmb
  have hwp:wrongP b (chgI f n)=true:=by rw[←hb,←hn];exact wrongP_chg (by rw[hb];exact hr) tru
  have hci:Inc b.rds.length 0 (chgI f n):=by rw[lb];exact chgI_inc n
  have hfalse:Tru b (fun _=>false) (ss.zip gg) (timeF tt):=by rw[←hb];exact chg_tru tru fun i _ h=>by cases h
  have xb:AtAt z C R G b:=by
   rw[←hb]
   exact⟨SlAt_keep (xA.c.mono s3) kz fun c h1 h2=>(dj c h2).1 h1,oz.sl (by rw[List.length_map,chgL_len];omega),SlAt_keep (xA.g.mono s3) kz fun c h1 h2=>(dj c h2).2.1 h1⟩
  have trz:TrAt z S Ga Tm ss gg tt:=⟨SlAt_keep (trR.s.mono s3) kz fun c h1 h2=>(dj c h2).2.2.1 h1,SlAt_keep (trR.g.mono s3) kz fun c h1 h2=>(dj c h2).2.2.2.1 h1,SlAt_keep (trR.t.mono s3) kz fun c h1 h2=>(dj c h2).2.2.2.2 h1⟩
  have eat:atV a C R G=atV b C R G:=by rw[←hb];rfl
  rw[eat] at g7z
  have hlb:=xb.r.lenE
  rw[lb] at hlb
  obtain⟨w,hwo,mw⟩:=wrongO_some hr hci hwp
  have hlw:=mw.len hci hwp
  have ewr:wrongR b=(w,0):=by unfold wrongR;rw[if_neg (by rw[checkA_iff.2 hr];simp),hwo]
  have hwn:=wrong_nil mw hr
  have incw:=mw.inc
  rw[lb] at incw
  have nlw:¬((chgI f n).length:Int)<(w.length:Int):=by omega
  have hfit:=fitB_iff hr (ss:=ss) (gg:=gg) (tt:=tt)
  simp only[hn] at t11 t45 t46
  have hni:¬(n:Int)<(n:Int):=by omega
  simp -implicitDefEqProofs(maxSteps:=999999)(disch:=first|with_reducible rfl|omega|(simp only[nA,nS,nD]<;>omega)|fail)only[go_sem,t1,t2,t7,t8,t11,t45,t46,hn,hni,cells_of g7z]
  refine Some_ev hwz xb _ fun S1 G1 T1 y1 v1 tr1=>?_
  have o1S:=tr1.s.one;have o1G:=tr1.g.one;have o1T:=tr1.t.one
  obtain⟨y2,hy2⟩:∃y2,y1.add (.cells .rw [S1,G1,T1])=y2:=⟨_,rfl⟩
  have v2:y1.Sub y2:=by rw[←hy2];exact(H.Sub.refl v1.wf).add _
  have v02:=v1.trans v2
  simp -implicitDefEqProofs(maxSteps:=999999)(disch:=first|with_reducible rfl|omega|(simp only[nA,nS,nD]<;>omega)|fail)only[go_sem,t1,t2,t7,t8,t11,t45,t46,o1S,o1G,o1T,hy2,cells_of (v02.get g7z)]
  try rw[hy2]
  clear hy2
  refine Clash_ev v02.wf (xb.mono v02) _ fun cl y3 v3 xcl=>?_
  have v03:=v02.trans v3
  have ocl:=xcl.one
  simp -implicitDefEqProofs(maxSteps:=999999)(disch:=first|with_reducible rfl|omega|(simp only[nA,nS,nD]<;>omega)|fail)only[go_sem,t1,t2,t7,t8,t11,t45,t46,ocl,cells_of (v03.get g7z)]
  refine Wrong_ev v03.wf (xb.mono v03) _ fun W1 y4 v4 xw=>?_
  rw[ewr] at xw⊢
  replace xw:SlAt y4 W1 1 (w.map encI):=xw
  have v04:=v03.trans v4
  have ow:=xw.one
  have hlW:=xw.lenE
  obtain⟨y5,hy5⟩:∃y5,y4.add (.cells .rw [W1])=y5:=⟨_,rfl⟩
  have v5:y4.Sub y5:=by rw[←hy5];exact(H.Sub.refl v4.wf).add _
  have g17:y5.get y4.next=some (.cells .rw [W1]):=by rw[←hy5];exact get_add_new rfl
  have v05:=v04.trans v5
  have g75:=v05.get g7z
  have g85:=v05.get g8z
  have hbb:∀b:Bool,(!(b==b))=false:=fun b=>by cases b<;>rfl
  have d70:decide ((7:Int)=0)=false:=rfl
  have d60:decide ((6:Int)=0)=false:=rfl
  have d06:decide ((0:Int)=6)=false:=rfl
  have d77:decide ((7:Int)=7)=true:=rfl
  have d00:decide ((0:Int)=0)=true:=rfl
  have p70:¬(7:Int)=0:=by decide
  have p60:¬(6:Int)=0:=by decide
  have p06:¬(0:Int)=6:=by decide
  by_cases hal:allC b=[]
  ·have e1:=errT_none hr hal
   obtain⟨l,hcl,ml⟩:=clashO_spec hr hal
   have ecl:clashR b=(l,0):=by unfold clashR;rw[if_neg (by rw[checkA_iff.2 hr];simp),if_neg (by rw[hal];simp),hcl];rfl
   have hw0:¬(w.length:Int)=0:=fun h=>(hwn.1 (List.length_eq_zero_iff.1 (by omega))) hal
   have hfb:fitB b ss gg tt=false:=Bool.eq_false_iff.2 fun h=>(noC hr).1 hal _ _ (hfit.1 h).2
   rw[ecl] at xcl⊢
   replace xcl:SlAt y3 cl 1 (l.map encI):=xcl
   rw[e1]
   simp -implicitDefEqProofs(maxSteps:=999999)(disch:=first|with_reducible rfl|omega|(simp only[nA,nS,nD]<;>omega)|fail)only[go_sem,t1,t2,t7,t8,t11,t45,t46,ow,cells_one ow,hy5,cells_of g17,hlW,nlw,hw0,hbb,d70,d60,d06,d77,d00,p70,p60,p06,ne_eq,not_true_eq_false,not_false_eq_true,decide_true,decide_false,cells_of g75,cells_of g85]
   refine lfits_ev v05.wf (xb.mono v05) hr (trz.mono v05) _ fun y6 v6=>?_
   have v06:=v05.trans v6
   have g76:=v06.get g7z
   have g176:=v6.get g17
   have hw6:=v06.wf
   have xw6:=xw.mono (v5.trans v6)
   have xcl6:=xcl.mono (v4.trans (v5.trans v6))
   have xb6:=xb.mono v06
   rw[hfb]
   simp -implicitDefEqProofs(maxSteps:=999999)(disch:=first|with_reducible rfl|omega|(simp only[nA,nS,nD]<;>omega)|fail)only[go_sem,t1,t2,t7,t8,t11,t45,t46,hbb,d70,d60,d06,d77,d00,p70,p60,p06,ne_eq,not_true_eq_false,not_false_eq_true,decide_true,decide_false,cells_of g76,hlb]
   refine W_count n (fun i s=>∃tm z y,s=⟨tm,z,[]⟩∧OwnC y6 z y 1 ((restL w i).map encI)∧(Opd.t 7).ev tm=.ptr h2.next 0∧(Opd.t 15).ev tm=cl∧(Opd.t 16).ev tm=.int .i64 0∧(Opd.t 17).ev tm=.ptr y4.next 0∧(Opd.t 19).ev tm=y∧(Opd.t 135).ev tm=.int .i64 (n:Int)∧(Opd.t 136).ev tm=.int .i64 (i:Int)) ?_ ?_ (i:=0) (Nat.zero_le _)
    ⟨_,_,_,rfl,(OwnSl.nil (H.Sub.refl hw6) 1).c,(by simp[ev_c,ev_put,t7]<;>rfl),(by simp[ev_c,ev_put]<;>rfl),(by simp[ev_c,ev_put]<;>rfl),(by simp[ev_c,ev_put]<;>rfl),(by simp[ev_c,ev_put]<;>rfl),(by simp[ev_c,ev_put]<;>rfl),(by simp[ev_c,ev_put]<;>rfl)⟩
   ·clear t1 t2 t7 t8 t11 t45 t46
    rintro i s hi ⟨tm,z3,y,rfl,oy,t7,t15,t16,t17,t19,t135,t136⟩
    have hi':(i:Int)<(n:Int):=by omega
    have sy:=oy.1
    have hst:=restL_step w i
    simp -implicitDefEqProofs(maxSteps:=999999)(disch:=first|with_reducible rfl|omega|(simp only[nA,nS,nD]<;>omega)|fail)only[go_sem,t7,t15,t16,t17,t19,t135,t136,hi',cells_of (sy.get g176)]
    refine hasInt_ev sy.wf (xw6.mono sy) (i:Int) _ fun z4 s4=>?_
    cases hany:(w.any fun r=>decide ((i:Int)=r)) with
    |true=>
     rw[if_pos hany,List.append_nil] at hst
     simp -implicitDefEqProofs(maxSteps:=999999)(disch:=first|with_reducible rfl|omega|(simp only[nA,nS,nD]<;>omega)|fail)only[go_sem,t7,t15,t16,t17,t19,t135,t136,wr_succ]
     exact⟨_,_,_,rfl,by rw[hst];exact oy.mono s4,(by simp[ev_c,ev_put,t7]<;>rfl),(by simp[ev_c,ev_put,t15]<;>rfl),(by simp[ev_c,ev_put,t16]<;>rfl),(by simp[ev_c,ev_put,t17]<;>rfl),(by simp[ev_c,ev_put,t19]<;>rfl),(by simp[ev_c,ev_put,t135]<;>rfl),(by simp[ev_c,ev_put]<;>rfl)⟩
    |false=>
     rw[if_neg (by rw[hany];simp)] at hst
     have s5:=(H.Sub.refl s4.wf).add (.cells .rw [.int .i64 (i:Int)])
     have lrest:(restL w i).length≤i:=by have:=List.length_filter_le (fun x:Int=> !(w.any fun r=>decide (x=r))) (fullL i 0);rw[fullL_len] at this;exact this
     simp -implicitDefEqProofs(maxSteps:=999999)(disch:=first|with_reducible rfl|omega|(simp only[nA,nS,nD]<;>omega)|fail)only[go_sem,t7,t15,t16,t17,t19,t135,t136]
     refine((oy.mono s4).mono s5).app1 (by_:=8) (r:=encI (i:Int)) hw6 rfl (by omega) (SlAt.new _ rfl rfl rfl (by simp[encI]) (by simp)) rfl (by rw[List.length_map];omega) (by rw[List.length_map];omega) fun y' z5 o5 b5 k5=>?_
     simp -implicitDefEqProofs(maxSteps:=999999)(disch:=first|with_reducible rfl|omega|(simp only[nA,nS,nD]<;>omega)|fail)only[go_sem,t7,t15,t16,t17,t19,t135,t136,wr_succ]
     exact⟨_,_,_,rfl,by rw[hst,List.map_append];exact o5,(by simp[ev_c,ev_put,t7]<;>rfl),(by simp[ev_c,ev_put,t15]<;>rfl),(by simp[ev_c,ev_put,t16]<;>rfl),(by simp[ev_c,ev_put,t17]<;>rfl),(by simp[ev_c,ev_put]<;>rfl),(by simp[ev_c,ev_put,t135]<;>rfl),(by simp[ev_c,ev_put]<;>rfl)⟩
   ·clear t1 t2 t7 t8 t11 t45 t46
    rintro s ⟨tm,z3,y,rfl,oy,t7,t15,t16,t17,t19,t135,t136⟩
    have sy:=oy.1
    have lrl:=restL_len incw
    have xy:SlAt z3 y 1 ((restL w n).map encI):=oy.sl (by rw[List.length_map];omega)
    have hly:=xy.lenE
    have ra:=rest_agree mw hr
    rw[lb] at ra
    have wl:wr .i64 ((n:Int)-(w.length:Int))=((restL w n).length:Int):=by rw[wr_in (by omega) (by omega)];omega
    simp -implicitDefEqProofs(maxSteps:=999999)(disch:=first|with_reducible rfl|omega|(simp only[nA,nS,nD]<;>omega)|fail)only[go_sem,t7,t15,t16,t17,t19,t135,t136,hni,cells_of (sy.get g76)]
    refine Agree_ev sy.wf (xb6.mono sy) xy (by omega) _ fun z4 s4=>?_
    rw[ra]
    have s64:=sy.trans s4
    have xy4:=xy.mono s4
    simp -implicitDefEqProofs(maxSteps:=999999)(disch:=first|with_reducible rfl|omega|(simp only[nA,nS,nD]<;>omega)|fail)only[go_sem,t7,t15,t16,t17,t19,t135,t136,ne_eq,not_true_eq_false,hly,hlb,hlW,cells_of (s64.get g76),cells_of (s64.get g176),wl]
    refine W_count w.length (fun j s=>∃tm z,s=⟨tm,z,[]⟩∧z4.Sub z∧(Opd.t 7).ev tm=.ptr h2.next 0∧(Opd.t 15).ev tm=cl∧(Opd.t 16).ev tm=.int .i64 0∧(Opd.t 17).ev tm=.ptr y4.next 0∧(Opd.t 19).ev tm=y∧(Opd.t 171).ev tm=W1∧(Opd.t 172).ev tm=.int .i64 (w.length:Int)∧(Opd.t 173).ev tm=.int .i64 (j:Int)) ?_ ?_ (i:=0) (Nat.zero_le _)
     ⟨_,_,rfl,H.Sub.refl s64.wf,(by simp[ev_c,ev_put,t7]<;>rfl),(by simp[ev_c,ev_put,t15]<;>rfl),(by simp[ev_c,ev_put,t16]<;>rfl),(by simp[ev_c,ev_put,t17]<;>rfl),(by simp[ev_c,ev_put,t19]<;>rfl),(by simp[ev_c,ev_put]<;>rfl),(by simp[ev_c,ev_put]<;>rfl),(by simp[ev_c,ev_put]<;>rfl)⟩
    ·clear t7 t15 t16 t17 t19 t135 t136
     rintro j s hj ⟨tm,z5,rfl,s5,t7,t15,t16,t17,t19,t171,t172,t173⟩
     have hj':(j:Int)<(w.length:Int):=by omega
     have s65:=s64.trans s5
     obtain⟨bW,oWW,cW,csW,_,hcW,hqW,_,_,nW⟩:=(xw6.mono s65).at hj
     have vW:=nW (by decide)
     simp only[encI,List.getElem?_cons_zero] at vW
     have hmemj:w[j]∈w:=List.getElem_mem hj
     have rm:=rest_more mw hr hmemj
     rw[lb] at rm
     generalize w[j]=q1 at vW rm
     have xy5:=xy4.mono s5
     have g75':=s65.get g76
     simp -implicitDefEqProofs(maxSteps:=999999)(disch:=first|with_reducible rfl|omega|(simp only[nA,nS,nD]<;>omega)|fail)only[go_sem,t7,t15,t16,t17,t19,t171,t172,t173,hj',hqW (nat_cst j),hcW,vW,cells_of g75',dupInt_ev s65.wf xy5 (by omega)]
     obtain⟨z6,hz6⟩:∃z6,z5.add (.cells .rw ((restL w n).map encI).flatten)=z6:=⟨_,rfl⟩
     have s6:z5.Sub z6:=by rw[←hz6];exact(H.Sub.refl s65.wf).add _
     have n6:z6.next=z5.next+1:=by rw[←hz6];exact H.next_add _ _
     have oD:OwnC z5 z6 (.sl z5.next 0 (restL w n).length (.fix (restL w n).length)) 1 ((restL w n).map encI):=⟨s6,fun r hr=>by obtain⟨_,_,rfl⟩:=List.mem_map.1 hr;rfl,.inr (.inr ⟨z5.next,(restL w n).length,[],by rw[List.length_map],Nat.le_refl _,by omega,by rw[←hz6,List.append_nil];exact get_add_new rfl,by simp,by rw[List.length_map];exact Nat.le_refl _⟩)⟩
     try rw[hz6]
     have s7:=(H.Sub.refl s6.wf).add (.cells .rw [.int .i64 q1])
     refine(oD.mono s7).app1 (by_:=8) (r:=encI q1) s65.wf rfl (by omega) (SlAt.new _ (by omega) rfl rfl (by simp[encI]) (by simp)) rfl (by rw[List.length_map];omega) (by rw[List.length_map];omega) fun y' z8 o8 b8 k8=>?_
     have s8:=o8.1
     have x8:SlAt z8 y' 1 ((restL w n++[q1]).map encI):=by rw[List.map_append];exact o8.sl (by simp;omega)
     simp -implicitDefEqProofs(maxSteps:=999999)(disch:=first|with_reducible rfl|omega|(simp only[nA,nS,nD]<;>omega)|fail)only[go_sem,t7,t15,t16,t17,t19,t171,t172,t173,cells_of g75',cells_of (s8.get g75'),cells_of (s6.get g75'),cells_of ((s6.trans s7).get g75')]
     refine Agree_ev s8.wf (xb6.mono (s65.trans s8)) x8 (by simp;omega) _ fun z9 s9=>?_
     rw[rm]
     simp -implicitDefEqProofs(maxSteps:=999999)(disch:=first|with_reducible rfl|omega|(simp only[nA,nS,nD]<;>omega)|fail)only[go_sem,t7,t15,t16,t17,t19,t171,t172,t173,ne_eq,not_true_eq_false,cells_of g75',cells_of (s8.get g75'),cells_of (s6.get g75'),cells_of ((s6.trans s7).get g75'),wr_succ]
     exact⟨_,_,rfl,s5.trans (s8.trans s9),(by simp[ev_c,ev_put,t7]<;>rfl),(by simp[ev_c,ev_put,t15]<;>rfl),(by simp[ev_c,ev_put,t16]<;>rfl),(by simp[ev_c,ev_put,t17]<;>rfl),(by simp[ev_c,ev_put,t19]<;>rfl),(by simp[ev_c,ev_put,t171]<;>rfl),(by simp[ev_c,ev_put,t172]<;>rfl),(by simp[ev_c,ev_put]<;>rfl)⟩
    ·clear t7 t15 t16 t17 t19 t135 t136
     rintro s ⟨tm,z5,rfl,s5,t7,t15,t16,t17,t19,t171,t172,t173⟩
     have s65:=s64.trans s5
     have hwi:¬(w.length:Int)<(w.length:Int):=by omega
     simp -implicitDefEqProofs(maxSteps:=999999)(disch:=first|with_reducible rfl|omega|(simp only[nA,nS,nD]<;>omega)|fail)only[go_sem,t7,t15,t16,t17,t19,t171,t172,t173,hwi,ne_eq,not_true_eq_false,cells_of (s65.get g76)]
     have ll:l.length≤n:=by have:=ml.inc.len (by omega);rw[lb] at this;omega
     have xcl5:=xcl6.mono s65
     have hlcl:=xcl5.lenE
     have hl0:¬(l.length:Int)=0:=fun h=>clash_some hr ml hfalse (List.length_eq_zero_iff.1 (by omega))
     refine Agree_ev s65.wf (xb6.mono s65) xcl5 (by omega) _ fun z6 s6=>?_
     rw[clash_agree hr ml]
     have s66:=s65.trans s6
     simp -implicitDefEqProofs(maxSteps:=999999)(disch:=first|with_reducible rfl|omega|(simp only[nA,nS,nD]<;>omega)|fail)only[go_sem,t7,t15,t16,t17,t19,t171,t172,t173,ne_eq,not_true_eq_false,hlcl,hl0]
     refine(containsFuncInt_ev (p:=fun n=>w.any fun r=>decide (n=r)) s66.wf (xcl6.mono s66) fun n _=>clashed1_ev (s66.get g176) (xw6.mono s66) n).mono fun _ z7 hv=>?_
     obtain⟨rfl,s7⟩:=hv
     have hcw:(l.any fun n=>w.any fun r=>decide (n=r))=true:=by
      obtain⟨i,h1,h2⟩:=clash_wrong hr ml mw
      exact List.any_eq_true.2 ⟨i,h1,by rw[any_memR];exact decide_eq_true h2⟩
     rw[hcw]
     have s67:=s66.trans s7
     simp -implicitDefEqProofs(maxSteps:=999999)(disch:=first|with_reducible rfl|omega|(simp only[nA,nS,nD]<;>omega)|fail)only[go_sem,t7,t15,t16,t17,t19,t171,t172,t173,hlcl]
     refine W_count l.length (fun k s=>∃tm z,s=⟨tm,z,[]⟩∧z7.Sub z∧(Opd.t 7).ev tm=.ptr h2.next 0∧(Opd.t 15).ev tm=cl∧(Opd.t 219).ev tm=.int .i64 (l.length:Int)∧(Opd.t 220).ev tm=.int .i64 (k:Int)) ?_ ?_ (i:=0) (Nat.zero_le _)
      ⟨_,_,rfl,H.Sub.refl s67.wf,(by simp[ev_c,ev_put,t7]<;>rfl),(by simp[ev_c,ev_put,t15]<;>rfl),(by simp[ev_c,ev_put]<;>rfl),(by simp[ev_c,ev_put]<;>rfl)⟩
     ·clear t7 t15 t16 t17 t19 t171 t172 t173
      rintro k s hk ⟨tm,z8,rfl,s8,t7,t15,t219,t220⟩
      have hk':(k:Int)<(l.length:Int):=by omega
      have s68:=s67.trans s8
      have x8:=xcl6.mono s68
      have wk:wr .i64 ((k:Int)+1)=((k+1:Nat):Int):=by rw[wr_in (by omega) (by omega)];omega
      simp -implicitDefEqProofs(maxSteps:=999999)(disch:=first|with_reducible rfl|omega|(simp only[nA,nS,nD]<;>omega)|fail)only[go_sem,t7,t15,t219,t220,hk',cells_of (s68.get g76),dupInt_ev s68.wf x8 (by omega),wk]
      obtain⟨z9,hz9⟩:∃z9,z8.add (.cells .rw (l.map encI).flatten)=z9:=⟨_,rfl⟩
      have s9:z8.Sub z9:=by rw[←hz9];exact(H.Sub.refl s68.wf).add _
      have g9:z9.get z8.next=some (.cells .rw (l.map iv)):=by rw[←hz9,←flatI];exact get_add_new rfl
      try rw[hz9]
      refine deleteF_ev s9.wf g9 hk (by omega) _ fun z10 k10 w10 g10=>?_
      have s10:z8.Sub z10:=k10.sub (H.Sub.refl s68.wf |>.trans s9) s68.wf (fun c hc=>by omega) w10
      have hel:(l.eraseIdx k).length=l.length-1:=List.length_eraseIdx_of_lt hk
      have x10:SlAt z10 (.sl z8.next 0 (l.eraseIdx k).length (.fix l.length)) 1 ((l.eraseIdx k).map encI):=by
       refine⟨fun r hr=>by obtain⟨_,_,rfl⟩:=List.mem_map.1 hr;rfl,by rw[List.length_map];omega,.inr ⟨z8.next,0,_,_,by rw[List.length_map],.inr (cells_of g10),getN_eq.2 ⟨?_,?_⟩⟩⟩
       ·rw[List.drop_zero,flatI,List.length_map,Nat.mul_one]
        have:((l.eraseIdx k).map iv).length=(l.eraseIdx k).length:=List.length_map _
        rw[←this,List.take_left'];rfl
       ·simp
      have g78:=s68.get g76
      simp -implicitDefEqProofs(maxSteps:=999999)(disch:=first|with_reducible rfl|omega|(simp only[nA,nS,nD]<;>omega)|fail)only[go_sem,t7,t15,t219,t220,cells_of g78,cells_of (s9.get g78),cells_of (s10.get g78)]
      refine Agree_ev s10.wf (xb6.mono (s68.trans s10)) x10 (by omega) _ fun z11 s11=>?_
      rw[clash_less hr ml hk]
      simp -implicitDefEqProofs(maxSteps:=999999)(disch:=first|with_reducible rfl|omega|(simp only[nA,nS,nD]<;>omega)|fail)only[go_sem,t7,t15,t219,t220,ne_eq,not_true_eq_false,cells_of g78,cells_of (s9.get g78),cells_of (s10.get g78),wr_succ]
      exact⟨_,_,rfl,s8.trans (s10.trans s11),(by simp[ev_c,ev_put,t7]<;>rfl),(by simp[ev_c,ev_put,t15]<;>rfl),(by simp[ev_c,ev_put,t219]<;>rfl),(by simp[ev_c,ev_put]<;>rfl)⟩
     ·clear t7 t15 t16 t17 t19 t171 t172 t173
      rintro s ⟨tm,z8,rfl,s8,t7,t15,t219,t220⟩
      have hll:¬(l.length:Int)<(l.length:Int):=by omega
      simp -implicitDefEqProofs(maxSteps:=999999)(disch:=first|with_reducible rfl|omega|(simp only[nA,nS,nD]<;>omega)|fail)only[go_sem,t7,t15,t219,t220,hll,awake_eq]
      exact q _ _ rfl
  ·have e1:=errT_ok hr hal
   have ecl:clashR b=([],6):=by unfold clashR;rw[if_neg (by rw[checkA_iff.2 hr];simp),if_pos hal]
   have hw0':w=[]:=hwn.2 hal
   have hw0:(w.length:Int)=0:=by rw[hw0'];rfl
   have nl0:¬((chgI f n).length:Int)<0:=by omega
   rw[ecl] at xcl⊢
   rw[e1]
   simp -implicitDefEqProofs(maxSteps:=999999)(disch:=first|with_reducible rfl|omega|(simp only[nA,nS,nD]<;>omega)|fail)only[go_sem,t1,t2,t7,t8,t11,t45,t46,ow,cells_one ow,hy5,cells_of g17,hlW,nlw,nl0,hw0,hbb,d66,d70,d60,d06,d77,d00,p70,p60,p06,ne_eq,not_true_eq_false,not_false_eq_true,decide_true,decide_false,cells_of g75,cells_of g85]
   refine lfits_ev v05.wf (xb.mono v05) hr (trz.mono v05) _ fun y6 v6=>?_
   have v06:=v05.trans v6
   have g76:=v06.get g7z
   have g176:=v6.get g17
   have hw6:=v06.wf
   have xw6:=xw.mono (v5.trans v6)
   have xcl6:=xcl.mono (v4.trans (v5.trans v6))
   have xb6:=xb.mono v06
   generalize fitB b ss gg tt=fb
   cases fb with
   |true=>
    simp -implicitDefEqProofs(maxSteps:=999999)(disch:=first|with_reducible rfl|omega|(simp only[nA,nS,nD]<;>omega)|fail)only[go_sem,t1,t2,t7,t8,t11,t45,t46,hbb,d70,d60,d06,d77,d00,p70,p60,p06,ne_eq,not_true_eq_false,not_false_eq_true,decide_true,decide_false,cells_of g76,hlb]
    refine W_count n (fun i s=>∃tm z y,s=⟨tm,z,[]⟩∧OwnC y6 z y 1 ((restL w i).map encI)∧(Opd.t 7).ev tm=.ptr h2.next 0∧(Opd.t 15).ev tm=cl∧(Opd.t 16).ev tm=.int .i64 6∧(Opd.t 17).ev tm=.ptr y4.next 0∧(Opd.t 19).ev tm=y∧(Opd.t 135).ev tm=.int .i64 (n:Int)∧(Opd.t 136).ev tm=.int .i64 (i:Int)) ?_ ?_ (i:=0) (Nat.zero_le _)
     ⟨_,_,_,rfl,(OwnSl.nil (H.Sub.refl hw6) 1).c,(by simp[ev_c,ev_put,t7]<;>rfl),(by simp[ev_c,ev_put]<;>rfl),(by simp[ev_c,ev_put]<;>rfl),(by simp[ev_c,ev_put]<;>rfl),(by simp[ev_c,ev_put]<;>rfl),(by simp[ev_c,ev_put]<;>rfl),(by simp[ev_c,ev_put]<;>rfl)⟩
    ·clear t1 t2 t7 t8 t11 t45 t46
     rintro i s hi ⟨tm,z3,y,rfl,oy,t7,t15,t16,t17,t19,t135,t136⟩
     have hi':(i:Int)<(n:Int):=by omega
     have sy:=oy.1
     have hst:=restL_step w i
     simp -implicitDefEqProofs(maxSteps:=999999)(disch:=first|with_reducible rfl|omega|(simp only[nA,nS,nD]<;>omega)|fail)only[go_sem,t7,t15,t16,t17,t19,t135,t136,hi',cells_of (sy.get g176)]
     refine hasInt_ev sy.wf (xw6.mono sy) (i:Int) _ fun z4 s4=>?_
     cases hany:(w.any fun r=>decide ((i:Int)=r)) with
     |true=>
      rw[if_pos hany,List.append_nil] at hst
      simp -implicitDefEqProofs(maxSteps:=999999)(disch:=first|with_reducible rfl|omega|(simp only[nA,nS,nD]<;>omega)|fail)only[go_sem,t7,t15,t16,t17,t19,t135,t136,wr_succ]
      exact⟨_,_,_,rfl,by rw[hst];exact oy.mono s4,(by simp[ev_c,ev_put,t7]<;>rfl),(by simp[ev_c,ev_put,t15]<;>rfl),(by simp[ev_c,ev_put,t16]<;>rfl),(by simp[ev_c,ev_put,t17]<;>rfl),(by simp[ev_c,ev_put,t19]<;>rfl),(by simp[ev_c,ev_put,t135]<;>rfl),(by simp[ev_c,ev_put]<;>rfl)⟩
     |false=>
      rw[if_neg (by rw[hany];simp)] at hst
      have s5:=(H.Sub.refl s4.wf).add (.cells .rw [.int .i64 (i:Int)])
      have lrest:(restL w i).length≤i:=by have:=List.length_filter_le (fun x:Int=> !(w.any fun r=>decide (x=r))) (fullL i 0);rw[fullL_len] at this;exact this
      simp -implicitDefEqProofs(maxSteps:=999999)(disch:=first|with_reducible rfl|omega|(simp only[nA,nS,nD]<;>omega)|fail)only[go_sem,t7,t15,t16,t17,t19,t135,t136]
      refine((oy.mono s4).mono s5).app1 (by_:=8) (r:=encI (i:Int)) hw6 rfl (by omega) (SlAt.new _ rfl rfl rfl (by simp[encI]) (by simp)) rfl (by rw[List.length_map];omega) (by rw[List.length_map];omega) fun y' z5 o5 b5 k5=>?_
      simp -implicitDefEqProofs(maxSteps:=999999)(disch:=first|with_reducible rfl|omega|(simp only[nA,nS,nD]<;>omega)|fail)only[go_sem,t7,t15,t16,t17,t19,t135,t136,wr_succ]
      exact⟨_,_,_,rfl,by rw[hst,List.map_append];exact o5,(by simp[ev_c,ev_put,t7]<;>rfl),(by simp[ev_c,ev_put,t15]<;>rfl),(by simp[ev_c,ev_put,t16]<;>rfl),(by simp[ev_c,ev_put,t17]<;>rfl),(by simp[ev_c,ev_put]<;>rfl),(by simp[ev_c,ev_put,t135]<;>rfl),(by simp[ev_c,ev_put]<;>rfl)⟩
    ·clear t1 t2 t7 t8 t11 t45 t46
     rintro s ⟨tm,z3,y,rfl,oy,t7,t15,t16,t17,t19,t135,t136⟩
     have sy:=oy.1
     have lrl:=restL_len incw
     have xy:SlAt z3 y 1 ((restL w n).map encI):=oy.sl (by rw[List.length_map];omega)
     have hly:=xy.lenE
     have ra:=rest_agree mw hr
     rw[lb] at ra
     have wl:wr .i64 ((n:Int)-(w.length:Int))=((restL w n).length:Int):=by rw[wr_in (by omega) (by omega)];omega
     simp -implicitDefEqProofs(maxSteps:=999999)(disch:=first|with_reducible rfl|omega|(simp only[nA,nS,nD]<;>omega)|fail)only[go_sem,t7,t15,t16,t17,t19,t135,t136,hni,cells_of (sy.get g76)]
     refine Agree_ev sy.wf (xb6.mono sy) xy (by omega) _ fun z4 s4=>?_
     rw[ra]
     have s64:=sy.trans s4
     have xy4:=xy.mono s4
     simp -implicitDefEqProofs(maxSteps:=999999)(disch:=first|with_reducible rfl|omega|(simp only[nA,nS,nD]<;>omega)|fail)only[go_sem,t7,t15,t16,t17,t19,t135,t136,ne_eq,not_true_eq_false,hly,hlb,hlW,cells_of (s64.get g76),cells_of (s64.get g176),wl]
     refine W_count w.length (fun j s=>∃tm z,s=⟨tm,z,[]⟩∧z4.Sub z∧(Opd.t 7).ev tm=.ptr h2.next 0∧(Opd.t 15).ev tm=cl∧(Opd.t 16).ev tm=.int .i64 6∧(Opd.t 17).ev tm=.ptr y4.next 0∧(Opd.t 19).ev tm=y∧(Opd.t 171).ev tm=W1∧(Opd.t 172).ev tm=.int .i64 (w.length:Int)∧(Opd.t 173).ev tm=.int .i64 (j:Int)) ?_ ?_ (i:=0) (Nat.zero_le _)
      ⟨_,_,rfl,H.Sub.refl s64.wf,(by simp[ev_c,ev_put,t7]<;>rfl),(by simp[ev_c,ev_put,t15]<;>rfl),(by simp[ev_c,ev_put,t16]<;>rfl),(by simp[ev_c,ev_put,t17]<;>rfl),(by simp[ev_c,ev_put,t19]<;>rfl),(by simp[ev_c,ev_put]<;>rfl),(by simp[ev_c,ev_put]<;>rfl),(by simp[ev_c,ev_put]<;>rfl)⟩
     ·clear t7 t15 t16 t17 t19 t135 t136
      rintro j s hj ⟨tm,z5,rfl,s5,t7,t15,t16,t17,t19,t171,t172,t173⟩
      have hj':(j:Int)<(w.length:Int):=by omega
      have s65:=s64.trans s5
      obtain⟨bW,oWW,cW,csW,_,hcW,hqW,_,_,nW⟩:=(xw6.mono s65).at hj
      have vW:=nW (by decide)
      simp only[encI,List.getElem?_cons_zero] at vW
      have hmemj:w[j]∈w:=List.getElem_mem hj
      have rm:=rest_more mw hr hmemj
      rw[lb] at rm
      generalize w[j]=q1 at vW rm
      have xy5:=xy4.mono s5
      have g75':=s65.get g76
      simp -implicitDefEqProofs(maxSteps:=999999)(disch:=first|with_reducible rfl|omega|(simp only[nA,nS,nD]<;>omega)|fail)only[go_sem,t7,t15,t16,t17,t19,t171,t172,t173,hj',hqW (nat_cst j),hcW,vW,cells_of g75',dupInt_ev s65.wf xy5 (by omega)]
      obtain⟨z6,hz6⟩:∃z6,z5.add (.cells .rw ((restL w n).map encI).flatten)=z6:=⟨_,rfl⟩
      have s6:z5.Sub z6:=by rw[←hz6];exact(H.Sub.refl s65.wf).add _
      have n6:z6.next=z5.next+1:=by rw[←hz6];exact H.next_add _ _
      have oD:OwnC z5 z6 (.sl z5.next 0 (restL w n).length (.fix (restL w n).length)) 1 ((restL w n).map encI):=⟨s6,fun r hr=>by obtain⟨_,_,rfl⟩:=List.mem_map.1 hr;rfl,.inr (.inr ⟨z5.next,(restL w n).length,[],by rw[List.length_map],Nat.le_refl _,by omega,by rw[←hz6,List.append_nil];exact get_add_new rfl,by simp,by rw[List.length_map];exact Nat.le_refl _⟩)⟩
      try rw[hz6]
      have s7:=(H.Sub.refl s6.wf).add (.cells .rw [.int .i64 q1])
      refine(oD.mono s7).app1 (by_:=8) (r:=encI q1) s65.wf rfl (by omega) (SlAt.new _ (by omega) rfl rfl (by simp[encI]) (by simp)) rfl (by rw[List.length_map];omega) (by rw[List.length_map];omega) fun y' z8 o8 b8 k8=>?_
      have s8:=o8.1
      have x8:SlAt z8 y' 1 ((restL w n++[q1]).map encI):=by rw[List.map_append];exact o8.sl (by simp;omega)
      simp -implicitDefEqProofs(maxSteps:=999999)(disch:=first|with_reducible rfl|omega|(simp only[nA,nS,nD]<;>omega)|fail)only[go_sem,t7,t15,t16,t17,t19,t171,t172,t173,cells_of g75',cells_of (s8.get g75'),cells_of (s6.get g75'),cells_of ((s6.trans s7).get g75')]
      refine Agree_ev s8.wf (xb6.mono (s65.trans s8)) x8 (by simp;omega) _ fun z9 s9=>?_
      rw[rm]
      simp -implicitDefEqProofs(maxSteps:=999999)(disch:=first|with_reducible rfl|omega|(simp only[nA,nS,nD]<;>omega)|fail)only[go_sem,t7,t15,t16,t17,t19,t171,t172,t173,ne_eq,not_true_eq_false,cells_of g75',cells_of (s8.get g75'),cells_of (s6.get g75'),cells_of ((s6.trans s7).get g75'),wr_succ]
      exact⟨_,_,rfl,s5.trans (s8.trans s9),(by simp[ev_c,ev_put,t7]<;>rfl),(by simp[ev_c,ev_put,t15]<;>rfl),(by simp[ev_c,ev_put,t16]<;>rfl),(by simp[ev_c,ev_put,t17]<;>rfl),(by simp[ev_c,ev_put,t19]<;>rfl),(by simp[ev_c,ev_put,t171]<;>rfl),(by simp[ev_c,ev_put,t172]<;>rfl),(by simp[ev_c,ev_put]<;>rfl)⟩
     ·clear t7 t15 t16 t17 t19 t135 t136
      rintro s ⟨tm,z5,rfl,s5,t7,t15,t16,t17,t19,t171,t172,t173⟩
      have s65:=s64.trans s5
      have hwi:¬(w.length:Int)<(w.length:Int):=by omega
      simp -implicitDefEqProofs(maxSteps:=999999)(disch:=first|with_reducible rfl|omega|(simp only[nA,nS,nD]<;>omega)|fail)only[go_sem,t7,t15,t16,t17,t19,t171,t172,t173,hwi,d60,p60,ne_eq,not_false_eq_true,decide_true,awake_eq]
      exact q _ _ rfl
   |false=>
    simp -implicitDefEqProofs(maxSteps:=999999)(disch:=first|with_reducible rfl|omega|(simp only[nA,nS,nD]<;>omega)|fail)only[go_sem,t1,t2,t7,t8,t11,t45,t46,hbb,d70,d60,d06,d77,d00,p70,p60,p06,ne_eq,not_true_eq_false,not_false_eq_true,decide_true,decide_false,cells_of g76,hlb]
    refine W_count n (fun i s=>∃tm z y,s=⟨tm,z,[]⟩∧OwnC y6 z y 1 ((restL w i).map encI)∧(Opd.t 7).ev tm=.ptr h2.next 0∧(Opd.t 15).ev tm=cl∧(Opd.t 16).ev tm=.int .i64 6∧(Opd.t 17).ev tm=.ptr y4.next 0∧(Opd.t 19).ev tm=y∧(Opd.t 135).ev tm=.int .i64 (n:Int)∧(Opd.t 136).ev tm=.int .i64 (i:Int)) ?_ ?_ (i:=0) (Nat.zero_le _)
     ⟨_,_,_,rfl,(OwnSl.nil (H.Sub.refl hw6) 1).c,(by simp[ev_c,ev_put,t7]<;>rfl),(by simp[ev_c,ev_put]<;>rfl),(by simp[ev_c,ev_put]<;>rfl),(by simp[ev_c,ev_put]<;>rfl),(by simp[ev_c,ev_put]<;>rfl),(by simp[ev_c,ev_put]<;>rfl),(by simp[ev_c,ev_put]<;>rfl)⟩
    ·clear t1 t2 t7 t8 t11 t45 t46
     rintro i s hi ⟨tm,z3,y,rfl,oy,t7,t15,t16,t17,t19,t135,t136⟩
     have hi':(i:Int)<(n:Int):=by omega
     have sy:=oy.1
     have hst:=restL_step w i
     simp -implicitDefEqProofs(maxSteps:=999999)(disch:=first|with_reducible rfl|omega|(simp only[nA,nS,nD]<;>omega)|fail)only[go_sem,t7,t15,t16,t17,t19,t135,t136,hi',cells_of (sy.get g176)]
     refine hasInt_ev sy.wf (xw6.mono sy) (i:Int) _ fun z4 s4=>?_
     cases hany:(w.any fun r=>decide ((i:Int)=r)) with
     |true=>
      rw[if_pos hany,List.append_nil] at hst
      simp -implicitDefEqProofs(maxSteps:=999999)(disch:=first|with_reducible rfl|omega|(simp only[nA,nS,nD]<;>omega)|fail)only[go_sem,t7,t15,t16,t17,t19,t135,t136,wr_succ]
      exact⟨_,_,_,rfl,by rw[hst];exact oy.mono s4,(by simp[ev_c,ev_put,t7]<;>rfl),(by simp[ev_c,ev_put,t15]<;>rfl),(by simp[ev_c,ev_put,t16]<;>rfl),(by simp[ev_c,ev_put,t17]<;>rfl),(by simp[ev_c,ev_put,t19]<;>rfl),(by simp[ev_c,ev_put,t135]<;>rfl),(by simp[ev_c,ev_put]<;>rfl)⟩
     |false=>
      rw[if_neg (by rw[hany];simp)] at hst
      have s5:=(H.Sub.refl s4.wf).add (.cells .rw [.int .i64 (i:Int)])
      have lrest:(restL w i).length≤i:=by have:=List.length_filter_le (fun x:Int=> !(w.any fun r=>decide (x=r))) (fullL i 0);rw[fullL_len] at this;exact this
      simp -implicitDefEqProofs(maxSteps:=999999)(disch:=first|with_reducible rfl|omega|(simp only[nA,nS,nD]<;>omega)|fail)only[go_sem,t7,t15,t16,t17,t19,t135,t136]
      refine((oy.mono s4).mono s5).app1 (by_:=8) (r:=encI (i:Int)) hw6 rfl (by omega) (SlAt.new _ rfl rfl rfl (by simp[encI]) (by simp)) rfl (by rw[List.length_map];omega) (by rw[List.length_map];omega) fun y' z5 o5 b5 k5=>?_
      simp -implicitDefEqProofs(maxSteps:=999999)(disch:=first|with_reducible rfl|omega|(simp only[nA,nS,nD]<;>omega)|fail)only[go_sem,t7,t15,t16,t17,t19,t135,t136,wr_succ]
      exact⟨_,_,_,rfl,by rw[hst,List.map_append];exact o5,(by simp[ev_c,ev_put,t7]<;>rfl),(by simp[ev_c,ev_put,t15]<;>rfl),(by simp[ev_c,ev_put,t16]<;>rfl),(by simp[ev_c,ev_put,t17]<;>rfl),(by simp[ev_c,ev_put]<;>rfl),(by simp[ev_c,ev_put,t135]<;>rfl),(by simp[ev_c,ev_put]<;>rfl)⟩
    ·clear t1 t2 t7 t8 t11 t45 t46
     rintro s ⟨tm,z3,y,rfl,oy,t7,t15,t16,t17,t19,t135,t136⟩
     have sy:=oy.1
     have lrl:=restL_len incw
     have xy:SlAt z3 y 1 ((restL w n).map encI):=oy.sl (by rw[List.length_map];omega)
     have hly:=xy.lenE
     have ra:=rest_agree mw hr
     rw[lb] at ra
     have wl:wr .i64 ((n:Int)-(w.length:Int))=((restL w n).length:Int):=by rw[wr_in (by omega) (by omega)];omega
     simp -implicitDefEqProofs(maxSteps:=999999)(disch:=first|with_reducible rfl|omega|(simp only[nA,nS,nD]<;>omega)|fail)only[go_sem,t7,t15,t16,t17,t19,t135,t136,hni,cells_of (sy.get g76)]
     refine Agree_ev sy.wf (xb6.mono sy) xy (by omega) _ fun z4 s4=>?_
     rw[ra]
     have s64:=sy.trans s4
     have xy4:=xy.mono s4
     simp -implicitDefEqProofs(maxSteps:=999999)(disch:=first|with_reducible rfl|omega|(simp only[nA,nS,nD]<;>omega)|fail)only[go_sem,t7,t15,t16,t17,t19,t135,t136,ne_eq,not_true_eq_false,hly,hlb,hlW,cells_of (s64.get g76),cells_of (s64.get g176),wl]
     refine W_count w.length (fun j s=>∃tm z,s=⟨tm,z,[]⟩∧z4.Sub z∧(Opd.t 7).ev tm=.ptr h2.next 0∧(Opd.t 15).ev tm=cl∧(Opd.t 16).ev tm=.int .i64 6∧(Opd.t 17).ev tm=.ptr y4.next 0∧(Opd.t 19).ev tm=y∧(Opd.t 171).ev tm=W1∧(Opd.t 172).ev tm=.int .i64 (w.length:Int)∧(Opd.t 173).ev tm=.int .i64 (j:Int)) ?_ ?_ (i:=0) (Nat.zero_le _)
      ⟨_,_,rfl,H.Sub.refl s64.wf,(by simp[ev_c,ev_put,t7]<;>rfl),(by simp[ev_c,ev_put,t15]<;>rfl),(by simp[ev_c,ev_put,t16]<;>rfl),(by simp[ev_c,ev_put,t17]<;>rfl),(by simp[ev_c,ev_put,t19]<;>rfl),(by simp[ev_c,ev_put]<;>rfl),(by simp[ev_c,ev_put]<;>rfl),(by simp[ev_c,ev_put]<;>rfl)⟩
     ·clear t7 t15 t16 t17 t19 t135 t136
      rintro j s hj ⟨tm,z5,rfl,s5,t7,t15,t16,t17,t19,t171,t172,t173⟩
      have hj':(j:Int)<(w.length:Int):=by omega
      have s65:=s64.trans s5
      obtain⟨bW,oWW,cW,csW,_,hcW,hqW,_,_,nW⟩:=(xw6.mono s65).at hj
      have vW:=nW (by decide)
      simp only[encI,List.getElem?_cons_zero] at vW
      have hmemj:w[j]∈w:=List.getElem_mem hj
      have rm:=rest_more mw hr hmemj
      rw[lb] at rm
      generalize w[j]=q1 at vW rm
      have xy5:=xy4.mono s5
      have g75':=s65.get g76
      simp -implicitDefEqProofs(maxSteps:=999999)(disch:=first|with_reducible rfl|omega|(simp only[nA,nS,nD]<;>omega)|fail)only[go_sem,t7,t15,t16,t17,t19,t171,t172,t173,hj',hqW (nat_cst j),hcW,vW,cells_of g75',dupInt_ev s65.wf xy5 (by omega)]
      obtain⟨z6,hz6⟩:∃z6,z5.add (.cells .rw ((restL w n).map encI).flatten)=z6:=⟨_,rfl⟩
      have s6:z5.Sub z6:=by rw[←hz6];exact(H.Sub.refl s65.wf).add _
      have n6:z6.next=z5.next+1:=by rw[←hz6];exact H.next_add _ _
      have oD:OwnC z5 z6 (.sl z5.next 0 (restL w n).length (.fix (restL w n).length)) 1 ((restL w n).map encI):=⟨s6,fun r hr=>by obtain⟨_,_,rfl⟩:=List.mem_map.1 hr;rfl,.inr (.inr ⟨z5.next,(restL w n).length,[],by rw[List.length_map],Nat.le_refl _,by omega,by rw[←hz6,List.append_nil];exact get_add_new rfl,by simp,by rw[List.length_map];exact Nat.le_refl _⟩)⟩
      try rw[hz6]
      have s7:=(H.Sub.refl s6.wf).add (.cells .rw [.int .i64 q1])
      refine(oD.mono s7).app1 (by_:=8) (r:=encI q1) s65.wf rfl (by omega) (SlAt.new _ (by omega) rfl rfl (by simp[encI]) (by simp)) rfl (by rw[List.length_map];omega) (by rw[List.length_map];omega) fun y' z8 o8 b8 k8=>?_
      have s8:=o8.1
      have x8:SlAt z8 y' 1 ((restL w n++[q1]).map encI):=by rw[List.map_append];exact o8.sl (by simp;omega)
      simp -implicitDefEqProofs(maxSteps:=999999)(disch:=first|with_reducible rfl|omega|(simp only[nA,nS,nD]<;>omega)|fail)only[go_sem,t7,t15,t16,t17,t19,t171,t172,t173,cells_of g75',cells_of (s8.get g75'),cells_of (s6.get g75'),cells_of ((s6.trans s7).get g75')]
      refine Agree_ev s8.wf (xb6.mono (s65.trans s8)) x8 (by simp;omega) _ fun z9 s9=>?_
      rw[rm]
      simp -implicitDefEqProofs(maxSteps:=999999)(disch:=first|with_reducible rfl|omega|(simp only[nA,nS,nD]<;>omega)|fail)only[go_sem,t7,t15,t16,t17,t19,t171,t172,t173,ne_eq,not_true_eq_false,cells_of g75',cells_of (s8.get g75'),cells_of (s6.get g75'),cells_of ((s6.trans s7).get g75'),wr_succ]
      exact⟨_,_,rfl,s5.trans (s8.trans s9),(by simp[ev_c,ev_put,t7]<;>rfl),(by simp[ev_c,ev_put,t15]<;>rfl),(by simp[ev_c,ev_put,t16]<;>rfl),(by simp[ev_c,ev_put,t17]<;>rfl),(by simp[ev_c,ev_put,t19]<;>rfl),(by simp[ev_c,ev_put,t171]<;>rfl),(by simp[ev_c,ev_put,t172]<;>rfl),(by simp[ev_c,ev_put]<;>rfl)⟩
     ·clear t7 t15 t16 t17 t19 t135 t136
      rintro s ⟨tm,z5,rfl,s5,t7,t15,t16,t17,t19,t171,t172,t173⟩
      have s65:=s64.trans s5
      have hwi:¬(w.length:Int)<(w.length:Int):=by omega
      simp -implicitDefEqProofs(maxSteps:=999999)(disch:=first|with_reducible rfl|omega|(simp only[nA,nS,nD]<;>omega)|fail)only[go_sem,t7,t15,t16,t17,t19,t171,t172,t173,hwi,d60,p60,ne_eq,not_false_eq_true,decide_true,awake_eq]
      exact q _ _ rfl
end Go.Ab.Tryz
