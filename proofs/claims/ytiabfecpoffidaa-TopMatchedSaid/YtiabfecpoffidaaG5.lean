/- The law's own match; the sum of all kin. How far, whoever finds it; the reference's table of matches. The reference's steps, layer by layer. Plain. The reference's Steps. Add: a table with one more piece. The reference's chain: the first shortest way. The reference's chain, Chain and Kin. Numbers that are wound off bytes: the contracts of Spool. Shades that are wound off; what tells two shades apart, as the law has it. Made: a table that is wound off. -/
import Derived.Test.YtiabfecpoffidaaG2
import Derived.Test.YtiabfecpoffidaaAc7
import Derived.Test.YtiabfecpoffidaaG4
set_option linter.unusedSimpArgs false
set_option linter.unusedVariables false
namespace Go.Ab
namespace Try
end Try
end Go.Ab
namespace Go.Ab
namespace Try
section
variable {t:Tb} {s:Nat} {f:Nat→Int} {d p q:Nat}
end
end Try
end Go.Ab
namespace Go.Ab.Try
end Go.Ab.Try
namespace Go.Ab
theorem clone_core {h:H}{x:V}{sz by_:Nat}{rows:List (List V)}{Q:V→H→Prop}(hw:h.wf)(hx:SlAt h x sz rows)(hl:rows.length*by_≤1000000000)(hl2:rows.length≤1000000000)(q:∀v h',OwnC h h' v sz rows→Q v h'):
  P2 (e_app' (h.add (.cells .rw [])) sz by_ (.sl h.next 0 0 (.fix 0)) x) Q:=by
 have s1:h.Sub (h.add (.cells .rw [])):=(H.Sub.refl hw).add _
 have hx1:=(hx.mono s1).elems
 rw[e_app_eq,hx1.1,hx1.2]
 simp only[ob_some]
 cases hn:rows.length with
 |zero=>
  have e:rows=[]:=List.length_eq_zero_iff.1 hn
  rw[e_app_fix0]
  have:Nat.ble 0 0=true:=rfl
  rw[this,og_true,P2_some]
  exact q _ _ (by rw[e];exact⟨s1,by simp,.inr (.inr ⟨h.next,0,[],rfl,Nat.le_refl _,by rw[H.next_add];omega,get_add_new rfl,by simp,Nat.le_refl _⟩)⟩)
 |succ k=>
  rw[e_app_full (by omega) (elems_0 _ _ _ _ _) (by rw[hn] at hl;simp only[Nat.zero_add];omega) (by omega),grown_eq,P2_some]
  exact q _ _ ⟨s1.add _,hx.1,.inr (.inl ⟨(h.add (.cells .rw [])).next,by rw[hn,Nat.zero_add],by rw[H.next_add];omega,by simp only[H.next_add];omega,by rw[get_add_new rfl];rfl⟩)⟩
namespace Try
theorem cloneEye_ev {h:H}{x:V}{rows:List (List V)}(hw:h.wf)(hx:SlAt h x 4 rows)(hl:rows.length≤1000000)(Q:V→H→Prop)(q:∀v h',OwnC h h' v 4 rows→Q v h'):Ev fnG fastA (.fn 7 [] []) [x] h Q:=by
 refine Ev_body (fd:=c7) rfl rfl rfl ?_
 rcases hx.2.2 with⟨rfl,e⟩|⟨b,o,c,cs,rfl,_⟩
 ·simp(disch:=first|omega|simp only[nZ]<;>omega|fail)only[c7,go_sem]
  exact q _ _ (by rw[e];exact(OwnSl.nil (H.Sub.refl hw) 4).c)
 ·simp(disch:=first|omega|simp only[nZ]<;>omega|fail)only[c7,go_sem]
  refine clone_core hw hx (by omega) (by omega) fun v h' ov=>?_
  simp(disch:=first|omega|simp only[nZ]<;>omega|fail)only[go_sem]
  exact q _ _ ov
theorem nblk (b:Nat):¬blkOf .nils b:=fun⟨_,_,_,e⟩=>by cases e
end Try
end Go.Ab
namespace Go.Ab.Try
theorem some_first {α:Type}{g:Nat→Option α}{p:Nat}{l:α}(h:g p=some l)(hno:∀q,q<p→g q=none):∀n,p<n→(List.range n).findSome? g=some l
 |0,h'=>by omega
 |n+1,h'=>by
  rw[List.range_succ,List.findSome?_append]
  by_cases e:p=n
  ·subst e
   have:(List.range p).findSome? g=none:=List.findSome?_eq_none_iff.2 fun x hx=>hno x (List.mem_range.1 hx)
   rw[this];simp[h]
  ·rw[some_first h hno n (by omega)];rfl
theorem none_all {α:Type}{g:Nat→Option α}{n:Nat}(hno:∀q,q<n→g q=none):(List.range n).findSome? g=none:=List.findSome?_eq_none_iff.2 fun x hx=>hno x (List.mem_range.1 hx)
end Go.Ab.Try
namespace Go.Ab.Try
end Go.Ab.Try
namespace Go.Ab
theorem SlAt_lt {h:H}{x:V}{sz:Nat}{rows:List (List V)}(hw:h.wf)(a:SlAt h x sz rows)(hr:rows≠[]):∀b,blkOf x b→b<h.next:=by
 rintro b ⟨o',n',c',e⟩
 rcases a.2.2 with⟨rfl,_⟩|⟨b',o,c,cs,e1,e2,e3⟩
 ·cases e
 ·rw[e1] at e;cases e
  obtain⟨k,hk⟩:=H.cells_eq (e2.resolve_left hr)
  exact hw _ _ hk
theorem q_shr_3 (a:Int):q_sh .shr (.int .u64 a) (.int .u64 3)=some (.int .u64 (a.fdiv (2^(min 3 IntKind.u64.bits)))):=rfl
theorem q_shr_19 (a:Int):q_sh .shr (.int .u64 a) (.int .u64 19)=some (.int .u64 (a.fdiv (2^(min 19 IntKind.u64.bits)))):=rfl
def xorI (k:IntKind)(a b:Int):Int:=k.wrap (BitVec.ofInt k.bits a^^^BitVec.ofInt k.bits b).toNat
def andI (k:IntKind)(a b:Int):Int:=k.wrap (BitVec.ofInt k.bits a&&& BitVec.ofInt k.bits b).toNat
theorem q_ar_xor (k:IntKind)(a b:Int):q_ar .xor (.int k a) (.int k b)=some (.int k (xorI k a b)):=by simp[q_ar,arith,xorV,vi,xorI]
theorem q_ar_and (k:IntKind)(a b:Int):q_ar .and (.int k a) (.int k b)=some (.int k (andI k a b)):=by simp[q_ar,arith,andV,vi,andI]
theorem and_bd (a:Int):0≤andI .i64 a 65535∧andI .i64 a 65535≤65535:=by
 have h:(BitVec.ofInt IntKind.i64.bits a&&& BitVec.ofInt IntKind.i64.bits 65535).toNat≤65535:=by
  rw[BitVec.toNat_and]
  exact Nat.le_trans Nat.and_le_right (by decide)
 unfold andI
 rw[←wr_eq,wr_in (by omega) (by omega)]
 omega
namespace Try
def encU8 (n:Int):List V:=[.int .u8 n]
def SpAt (h:H)(p:Nat)(x:V)(T:Int):Prop:=∃st,h.get p=some (.cells .rw [x,.int .i64 T,.int .u64 st])
theorem SpAt.mono {h h':H}{p:Nat}{x:V}{T:Int}(a:SpAt h p x T)(hs:h.Sub h'):SpAt h' p x T:=by
 obtain⟨st,a⟩:=a
 exact⟨st,hs.get a⟩
theorem SpAt.keep {h h':H}{p:Nat}{x:V}{T:Int}{S:Nat→Prop}(a:SpAt h p x T)(k:Keeps S h h')(n:¬S p):SpAt h' p x T:=by
 obtain⟨st,a⟩:=a
 exact⟨st,k.2 _ _ a n⟩
set_option maxHeartbeats 1000000 in
theorem turn_ev {h0 h:H}{p:Nat}{x:V}{bs:List Int}{T:Int}(hs:h0.Sub h)(hw0:h0.wf)(hx:SlAt h0 x 1 (bs.map encU8))(hp0:h0.next≤p)(hp:SpAt h p x T)(hT:0≤T∧T≤1000000000)(Q:V→H→Prop)
  (q:∀r h',0≤r→r≤65535→h0.Sub h'→SpAt h' p x (T+1)→Keeps (fun b=>b=p) h h'→h'.next=h.next→Q (.int .i64 r) h'):Ev fnG fastA (.fn 19 [] []) [.ptr p 0] h Q:=by
 obtain⟨st,hp⟩:=hp
 have hw:=hs.wf
 have hlp:=hw _ _ hp
 have hx1:=hx.one
 have hlen:=hx.lenE
 have hc:=cells_of hp
 refine Ev_body (fd:=c19) rfl rfl rfl ?_
 have fin:∀(st':Int) (r:Int),0≤r→r≤65535→Q (.int .i64 r) (h.set p (.cells .rw [x,.int .i64 (T+1),.int .u64 st'])):=fun st' r r0 r1=>
  q r _ r0 r1 (hs.set hp0 hlp hw0 _) ⟨st',get_set_same rfl⟩ (Keeps.set _ _ _) (H.next_set _ _ _)
 by_cases h1:0<(bs.length:Int)
 ·have hT0:0≤T.tmod (bs.length:Int):=Int.tmod_nonneg _ hT.1
  have hT1:T.tmod (bs.length:Int)<(bs.length:Int):=Int.tmod_lt_of_pos _ h1
  obtain⟨i,ei⟩:=Int.eq_ofNat_of_zero_le hT0
  have hi:i<bs.length:=by omega
  obtain⟨b2,o2,c2,cs2,e2,hcs2,hq2,hgg2,hn2,hn02⟩:=(hx.mono hs).at hi
  have v2:=hn02 (by omega)
  simp only[encU8] at v2
  have hbb:b2≠p:=by
   have:=SlAt_lt hw0 hx (by intro e;rw[List.map_eq_nil_iff] at e;rw[e] at hi;simp at hi) b2 ⟨_,_,_,e2⟩
   omega
  have hne:¬(bs.length:Int)=0:=by omega
  by_cases h2:(bs.length:Int)<T+1
  ·simp(disch:=first|omega|simp only[nZ]<;>omega|fail)only[c19,go_sem,hc,hlen,h1,q_ar_rem .i64 hne,ei,hq2 (nat_cst i),hcs2,v2,hp,wr_in,h2,hx1,q_shr_3,q_shr_19,q_ar_xor,q_ar_and]
   exact fin _ _ (and_bd _).1 (and_bd _).2
  ·simp(disch:=first|omega|simp only[nZ]<;>omega|fail)only[c19,go_sem,hc,hlen,h1,q_ar_rem .i64 hne,ei,hq2 (nat_cst i),hcs2,v2,hp,wr_in,h2,hx1,q_shr_3,q_shr_19,q_ar_xor,q_ar_and]
   exact fin _ _ (and_bd _).1 (and_bd _).2
 ·by_cases h2:(bs.length:Int)<T+1
  ·simp(disch:=first|omega|simp only[nZ]<;>omega|fail)only[c19,go_sem,hc,hlen,h1,hp,wr_in,h2,hx1,q_shr_3,q_shr_19,q_ar_xor,q_ar_and]
   exact fin _ _ (and_bd _).1 (and_bd _).2
  ·omega
theorem Upto_ev {h0 h:H}{p:Nat}{x:V}{bs:List Int}{T:Int}(hs:h0.Sub h)(hw0:h0.wf)(hx:SlAt h0 x 1 (bs.map encU8))(hp0:h0.next≤p)(hp:SpAt h p x T)(hT:0≤T∧T≤1000000000){n:Int}(hn: -1000000000≤n∧n≤1000000000)(Q:V→H→Prop)
  (q:∀r h',0≤r→r≤max 0 n→h0.Sub h'→SpAt h' p x (T+1)→Keeps (fun b=>b=p) h h'→h'.next=h.next→Q (.int .i64 r) h'):Ev fnG fastA (.fn 8 [] []) [.ptr p 0,.int .i64 n] h Q:=by
 refine Ev_body (fd:=c8) rfl rfl rfl ?_
 simp(disch:=first|omega|simp only[nZ]<;>omega|fail)only[c8,go_sem]
 refine turn_ev hs hw0 hx hp0 hp hT _ fun r h' r0 r1 s' p' k' n'=>?_
 have hm:¬max 1 (n+1)=0:=by omega
 have e0:0≤r.tmod (max 1 (n+1)):=Int.tmod_nonneg _ r0
 have e1:r.tmod (max 1 (n+1))<max 1 (n+1):=Int.tmod_lt_of_pos _ (by omega)
 simp(disch:=first|omega|simp only[nZ]<;>omega|fail)only[go_sem,wr_in,q_ar_rem .i64 hm]
 exact q _ _ e0 (by omega) s' p' k' n'
theorem From_ev {h0 h:H}{p:Nat}{x:V}{bs:List Int}{T:Int}(hs:h0.Sub h)(hw0:h0.wf)(hx:SlAt h0 x 1 (bs.map encU8))(hp0:h0.next≤p)(hp:SpAt h p x T)(hT:0≤T∧T≤1000000000){lo hi:Int}(hlo: -1000000≤lo∧lo≤1000000)(hhi: -1000000≤hi∧hi≤1000000)(Q:V→H→Prop)
  (q:∀r h',lo≤r→r≤max lo hi→h0.Sub h'→SpAt h' p x (T+1)→Keeps (fun b=>b=p) h h'→h'.next=h.next→Q (.int .i64 r) h'):Ev fnG fastA (.fn 9 [] []) [.ptr p 0,.int .i64 lo,.int .i64 hi] h Q:=by
 refine Ev_body (fd:=c9) rfl rfl rfl ?_
 simp(disch:=first|omega|simp only[nZ]<;>omega|fail)only[c9,go_sem,wr_in]
 refine Upto_ev hs hw0 hx hp0 hp hT (by omega) _ fun r h' r0 r1 s' p' k' n'=>?_
 simp(disch:=first|omega|simp only[nZ]<;>omega|fail)only[go_sem,wr_in]
 exact q _ _ (by omega) (by omega) s' p' k' n'
theorem Once_ev {h0 h:H}{p:Nat}{x:V}{bs:List Int}{T:Int}(hs:h0.Sub h)(hw0:h0.wf)(hx:SlAt h0 x 1 (bs.map encU8))(hp0:h0.next≤p)(hp:SpAt h p x T)(hT:0≤T∧T≤1000000000){n:Int}(hn:0≤n∧n≤1000000)(Q:V→H→Prop)
  (q:∀t h',h0.Sub h'→SpAt h' p x (T+1)→Keeps (fun b=>b=p) h h'→h'.next=h.next→Q (.bool t) h'):Ev fnG fastA (.fn 16 [] []) [.ptr p 0,.int .i64 n] h Q:=by
 refine Ev_body (fd:=c16) rfl rfl rfl ?_
 simp(disch:=first|omega|simp only[nZ]<;>omega|fail)only[c16,go_sem,wr_in]
 refine Upto_ev hs hw0 hx hp0 hp hT (by omega) _ fun r h' r0 r1 s' p' k' n'=>?_
 simp(disch:=first|omega|simp only[nZ]<;>omega|fail)only[go_sem]
 exact q _ _ s' p' k' n'
theorem Wound_ev {h:H}{x:V}{bs:List Int}(hw:h.wf)(hx:SlAt h x 1 (bs.map encU8))(Q:V→H→Prop)(q:∀h',h.Sub h'→SpAt h' h.next x 0→h'.next=h.next+1→Q (.ptr h.next 0) h'):Ev fnG fastA (.fn 5 [] []) [x] h Q:=by
 have hx1:=hx.one
 refine Ev_body (fd:=c5) rfl rfl rfl ?_
 simp(disch:=first|omega|simp only[nZ]<;>omega|fail)only[c5,go_sem,hx.lenE,hx1,cells_one hx1]
 exact q _ ((H.Sub.refl hw).add _) ⟨_,get_add_new rfl⟩ (H.next_add _ _)
end Try
end Go.Ab
namespace Go.Ab.Try
theorem shade_ev {h0 h:H}{p:Nat}{x:V}{bs:List Int}{T:Int}(hs:h0.Sub h)(hw0:h0.wf)(hx:SlAt h0 x 1 (bs.map encU8))(hp0:h0.next≤p)(hp:SpAt h p x T)(hT:0≤T∧T≤100000000){n:Int}(hn:0≤n∧n≤1000000)(Q:V→H→Prop)
  (q:∀s h',InS s n→h0.Sub h'→SpAt h' p x (T+3)→Keeps (fun b=>b=p) h h'→Q (.agg (encD s)) h'):Ev fnG fastA (.fn 15 [] []) [.ptr p 0,.int .i64 n] h Q:=by
 have hw:=hs.wf
 have hlp:p<h.next:=by obtain⟨st,g⟩:=hp;exact hw _ _ g
 refine Ev_body (fd:=c15) rfl rfl rfl ?_
 have sA:=(H.Sub.refl hw).add (.cells .rw [.int .i64 0,.int .i64 0,.int .i64 0])
 have gA:(h.add (.cells .rw [.int .i64 0,.int .i64 0,.int .i64 0])).get h.next=some (.cells .rw [.int .i64 0,.int .i64 0,.int .i64 0]):=get_add_new rfl
 simp(disch:=first|omega|simp only[nZ]<;>omega|fail)only[c15,go_sem]
 refine Upto_ev (hs.trans sA) hw0 hx hp0 (hp.mono sA) (by omega) (by omega) _ fun r1 h1 a0 a1 s1 p1 k1 n1=>?_
 have g1:=k1.2 _ _ gA (by omega)
 simp(disch:=first|omega|simp only[nZ]<;>omega|fail)only[go_sem]
 refine Upto_ev s1 hw0 hx hp0 p1 (by omega) (by omega) _ fun r2 h2 b0 b1 s2 p2 k2 n2=>?_
 have g2:=k2.2 _ _ g1 (by omega)
 simp(disch:=first|omega|simp only[nZ]<;>omega|fail)only[go_sem]
 refine Upto_ev s2 hw0 hx hp0 p2 (by omega) (by omega) _ fun r3 h3 c0 c1 s3 p3 k3 n3=>?_
 have g3:=k3.2 _ _ g2 (by omega)
 rw[H.next_add] at n1
 simp(disch:=first|omega|simp only[nZ]<;>omega|fail)only[go_sem,g3]
 refine q ⟨r1,r2,r3⟩ _ ⟨(by omega:0≤r1∧r1≤n),(by omega:0≤r2∧r2≤n),(by omega:0≤r3∧r3≤n)⟩ (s3.set (b:=h.next) (by have:=hs.next;omega) (by omega) hw0 _) ?_ ?_
 ·have e:T+1+1+1=T+3:=by omega
  rw[←e];exact p3.keep (Keeps.set _ _ _) (by omega)
 ·refine Keeps.new hw ((((((Keeps.of sA (fun _=>False)).trans k1).trans k2).trans k3).trans (Keeps.set h3 h.next _)).mono ?_)
  rintro c ((((h|h)|h)|h)|h)
  ·exact h.elim
  ·exact .inl h
  ·exact .inl h
  ·exact .inl h
  ·exact .inr (by omega)
end Go.Ab.Try
namespace Go.Ab
theorem OwnSl.dj {h0 h:H}{x y:V}{m n:Nat}{r s:List (List V)}(a:OwnSl h0 h x m r)(b:OwnSl h0 h y n s)(hmn:m≠n):∀c,blkOf x c→¬blkOf y c:=fun c hx hy=>by
 have h1:=(a.blk hx).2.2
 rw[(b.blk hy).2.2] at h1
 injection h1 with h1
 injection h1 with h1 h2
 injection h1 with h1
 exact hmn h1.symm
namespace Try
theorem spGet {h:H}{p:Nat}{x:V}{T:Int}(a:SpAt h p x T):h.get p=some (.cells .rw [x,.int .i64 T,.int .u64 (Classical.choose a)]):=Classical.choose_spec a
structure MkSt (h0 h h':H)(p:Nat)(x:V)(X Y Z:V)(t:Tb)(T:Int):Prop where
 s:h0.Sub h'
 ox:OwnSl h0 h' X 4 (t.eyes.map encE)
 oy:OwnSl h0 h' Y 3 (t.lights.map encD)
 oz:OwnSl h0 h' Z 3 (t.pieces.map encD)
 xn:∀b,blkOf X b→h.next≤b
 yn:∀b,blkOf Y b→h.next≤b
 zn:∀b,blkOf Z b→h.next≤b
 yz:∀b,blkOf Y b→¬blkOf Z b
 sp:SpAt h' p x T
 k:Keeps (fun c=>c=p∨h.next≤c) h h'
 g8:h'.get h.next=some (.cells .rw [.nils,.nils,.nils])
 g9:h'.get (h.next+1)=some (.cells .rw [X,Y,Z])
 lt:h.next+1<h'.next
section
variable {h0 h h' h1:H} {p:Nat} {x X Y Z:V} {t:Tb} {T T1:Int}
theorem MkSt.read (a:MkSt h0 h h' p x X Y Z t T)(hp:p<h.next)(s1:h0.Sub h1)(p1:SpAt h1 p x T1)(k1:Keeps (fun c=>c=p) h' h1):MkSt h0 h h1 p x X Y Z t T1:=by
 have g:=spGet a.sp
 exact⟨s1,a.ox.keep k1 s1 fun b hb e=>by subst e;exact a.ox.ne g hb,a.oy.keep k1 s1 fun b hb e=>by subst e;exact a.oy.ne g hb,a.oz.keep k1 s1 fun b hb e=>by subst e;exact a.oz.ne g hb,a.xn,a.yn,a.zn,a.yz,p1,
  (a.k.trans k1).mono fun c hc=>hc.elim id .inl,k1.2 _ _ a.g8 (by omega),k1.2 _ _ a.g9 (by omega),Nat.lt_of_lt_of_le a.lt k1.1⟩
theorem MkSt.sub (a:MkSt h0 h h' p x X Y Z t T)(s:h'.Sub h1):MkSt h0 h h1 p x X Y Z t T:=
 ⟨a.s.trans s,a.ox.mono s,a.oy.mono s,a.oz.mono s,a.xn,a.yn,a.zn,a.yz,a.sp.mono s,(a.k.trans (Keeps.of s (fun _=>False))).mono fun c hc=>hc.elim id fun h=>h.elim,s.get a.g8,s.get a.g9,Nat.lt_of_lt_of_le a.lt s.next⟩
theorem MkSt.row (a:MkSt h0 h h' p x X Y Z t T)(hw0:h0.wf)(hp:p<h.next){b:Nat}{cs:List V}(hb:h'.get b=some (.cells .rw cs))(l:h.next+1<b)(l0:h0.next≤h.next)(y:Blk):MkSt h0 h (h'.set b y) p x X Y Z t T:=by
 have lb:=a.s.wf _ _ hb
 have s1:=a.s.set (b:=b) (by omega) lb hw0 y
 have kb:=Keeps.set h' b y
 exact⟨s1,a.ox.keep kb s1 fun c hc e=>by subst e;exact a.ox.ne hb hc,a.oy.keep kb s1 fun c hc e=>by subst e;exact a.oy.ne hb hc,a.oz.keep kb s1 fun c hc e=>by subst e;exact a.oz.ne hb hc,a.xn,a.yn,a.zn,a.yz,a.sp.keep kb (by omega),
  (a.k.trans kb).mono fun c hc=>hc.elim id fun e=>.inr (by omega),by rw[get_set_other (by omega)];exact a.g8,by rw[get_set_other (by omega)];exact a.g9,by rw[H.next_set];exact a.lt⟩
theorem fresh {n m:Nat}{c:Cap}{b:Nat}(hb:blkOf (.sl n 0 m c) b):b=n:=by obtain⟨_,_,_,e⟩:=hb;cases e;rfl
theorem MkSt.appX (a:MkSt h0 h h' p x X Y Z t T)(hw0:h0.wf)(hp:p<h.next)(l0:h0.next≤h.next){e:Ey}{n:Nat}{h4:H}(o4:OwnSl h0 h4 (.sl h'.next 0 n (.slk 0 0)) 4 (t.eyes.map encE++[encE e]))(k4:Keeps (blkOf X) h' h4)(n4:h4.next=h'.next+1):
  MkSt h0 h (h4.set (h.next+1) (.cells .rw [.sl h'.next 0 n (.slk 0 0),Y,Z])) p x (.sl h'.next 0 n (.slk 0 0)) Y Z ⟨t.eyes++[e],t.lights,t.pieces⟩ T:=by
 have g9:=k4.2 _ _ a.g9 (a.ox.ne a.g9)
 have g8:=k4.2 _ _ a.g8 (a.ox.ne a.g8)
 have sp:=a.sp.keep k4 (a.ox.ne (spGet a.sp))
 have lt:=a.lt
 have s1:=o4.1.set (b:=h.next+1) (by omega) (by omega) hw0 (.cells .rw [.sl h'.next 0 n (.slk 0 0),Y,Z])
 have kb:=Keeps.set h4 (h.next+1) (.cells .rw [.sl h'.next 0 n (.slk 0 0),Y,Z])
 have oY:=a.oy.keep k4 o4.1 fun b hb hc=>a.ox.dj a.oy (by decide) b hc hb
 have oZ:=a.oz.keep k4 o4.1 fun b hb hc=>a.ox.dj a.oz (by decide) b hc hb
 refine⟨s1,?_,oY.keep kb s1 fun b hb e=>by subst e;exact oY.ne g9 hb,oZ.keep kb s1 fun b hb e=>by subst e;exact oZ.ne g9 hb,fun b hb=>by have:=fresh hb;omega,a.yn,a.zn,a.yz,sp.keep kb (by omega),?_,by rw[get_set_other (by omega)];exact g8,get_set_same rfl,by rw[H.next_set];omega⟩
 ·show OwnSl h0 _ _ 4 ((t.eyes++[e]).map encE)
  rw[List.map_append]
  exact o4.keep kb s1 fun b hb e=>by subst e;exact o4.ne g9 hb
 ·refine((a.k.trans k4).trans kb).mono ?_
  rintro c ((h|h)|h)
  ·exact h
  ·exact .inr (a.xn c h)
  ·exact .inr (by omega)
theorem MkSt.appY (a:MkSt h0 h h' p x X Y Z t T)(hw0:h0.wf)(hp:p<h.next)(l0:h0.next≤h.next){e:Sd}{n:Nat}{h4:H}(o4:OwnSl h0 h4 (.sl h'.next 0 n (.slk 0 0)) 3 (t.lights.map encD++[encD e]))(k4:Keeps (blkOf Y) h' h4)(n4:h4.next=h'.next+1):
  MkSt h0 h (h4.set (h.next+1) (.cells .rw [X,.sl h'.next 0 n (.slk 0 0),Z])) p x X (.sl h'.next 0 n (.slk 0 0)) Z ⟨t.eyes,t.lights++[e],t.pieces⟩ T:=by
 have g9:=k4.2 _ _ a.g9 (a.oy.ne a.g9)
 have g8:=k4.2 _ _ a.g8 (a.oy.ne a.g8)
 have sp:=a.sp.keep k4 (a.oy.ne (spGet a.sp))
 have lt:=a.lt
 have s1:=o4.1.set (b:=h.next+1) (by omega) (by omega) hw0 (.cells .rw [X,.sl h'.next 0 n (.slk 0 0),Z])
 have kb:=Keeps.set h4 (h.next+1) (.cells .rw [X,.sl h'.next 0 n (.slk 0 0),Z])
 have oX:=a.ox.keep k4 o4.1 fun b hb hc=>a.ox.dj a.oy (by decide) b hb hc
 have oZ:=a.oz.keep k4 o4.1 fun b hb hc=>a.yz b hc hb
 refine⟨s1,oX.keep kb s1 fun b hb e=>by subst e;exact oX.ne g9 hb,?_,oZ.keep kb s1 fun b hb e=>by subst e;exact oZ.ne g9 hb,a.xn,fun b hb=>by have:=fresh hb;omega,a.zn,fun b hb hc=>by have:=fresh hb;have:=(a.oz.blk hc).2.1;omega,sp.keep kb (by omega),?_,by rw[get_set_other (by omega)];exact g8,get_set_same rfl,by rw[H.next_set];omega⟩
 ·show OwnSl h0 _ _ 3 ((t.lights++[e]).map encD)
  rw[List.map_append]
  exact o4.keep kb s1 fun b hb e=>by subst e;exact o4.ne g9 hb
 ·refine((a.k.trans k4).trans kb).mono ?_
  rintro c ((h|h)|h)
  ·exact h
  ·exact .inr (a.yn c h)
  ·exact .inr (by omega)
theorem MkSt.appZ (a:MkSt h0 h h' p x X Y Z t T)(hw0:h0.wf)(hp:p<h.next)(l0:h0.next≤h.next){e:Sd}{n:Nat}{h4:H}(o4:OwnSl h0 h4 (.sl h'.next 0 n (.slk 0 0)) 3 (t.pieces.map encD++[encD e]))(k4:Keeps (blkOf Z) h' h4)(n4:h4.next=h'.next+1):
  MkSt h0 h (h4.set (h.next+1) (.cells .rw [X,Y,.sl h'.next 0 n (.slk 0 0)])) p x X Y (.sl h'.next 0 n (.slk 0 0)) ⟨t.eyes,t.lights,t.pieces++[e]⟩ T:=by
 have g9:=k4.2 _ _ a.g9 (a.oz.ne a.g9)
 have g8:=k4.2 _ _ a.g8 (a.oz.ne a.g8)
 have sp:=a.sp.keep k4 (a.oz.ne (spGet a.sp))
 have lt:=a.lt
 have s1:=o4.1.set (b:=h.next+1) (by omega) (by omega) hw0 (.cells .rw [X,Y,.sl h'.next 0 n (.slk 0 0)])
 have kb:=Keeps.set h4 (h.next+1) (.cells .rw [X,Y,.sl h'.next 0 n (.slk 0 0)])
 have oX:=a.ox.keep k4 o4.1 fun b hb hc=>a.ox.dj a.oz (by decide) b hb hc
 have oY:=a.oy.keep k4 o4.1 fun b hb hc=>a.yz b hb hc
 refine⟨s1,oX.keep kb s1 fun b hb e=>by subst e;exact oX.ne g9 hb,oY.keep kb s1 fun b hb e=>by subst e;exact oY.ne g9 hb,?_,a.xn,a.yn,fun b hb=>by have:=fresh hb;omega,fun b hb hc=>by have:=fresh hc;have:=(a.oy.blk hb).2.1;omega,sp.keep kb (by omega),?_,by rw[get_set_other (by omega)];exact g8,get_set_same rfl,by rw[H.next_set];omega⟩
 ·show OwnSl h0 _ _ 3 ((t.pieces++[e]).map encD)
  rw[List.map_append]
  exact o4.keep kb s1 fun b hb e=>by subst e;exact o4.ne g9 hb
 ·refine((a.k.trans k4).trans kb).mono ?_
  rintro c ((h|h)|h)
  ·exact h
  ·exact .inr (a.zn c h)
  ·exact .inr (by omega)
end
set_option maxRecDepth 4000 in
set_option maxHeartbeats 4000000 in
theorem Made_ev {h0 h:H}{p:Nat}{x:V}{bs:List Int}{T:Int}(hs:h0.Sub h)(hw0:h0.wf)(hx:SlAt h0 x 1 (bs.map encU8))(hp0:h0.next≤p)(hp:SpAt h p x T)(hT:0≤T∧T≤1000000){ne nl np:Int}(hne:1≤ne∧ne≤6)(hnl:1≤nl∧nl≤4)(hnp:0≤np∧np≤9)(Q:V→H→Prop)
  (q:∀X Y Z t h' T',Good t→(t.pieces.length:Int)≤np→(t.eyes.length:Int)≤ne→(t.lights.length:Int)≤nl→(0≤T'∧T'≤T+200)→MkSt h0 h h' p x X Y Z t T'→Q (.agg [X,Y,Z]) (h'.set h.next (.cells .rw [X,Y,Z]))):Ev fnG fastA (.fn 4 [] []) [.ptr p 0,.int .i64 ne,.int .i64 nl,.int .i64 np] h Q:=by
 have hw:=hs.wf
 have l0:=hs.next
 have hlp:=hw _ _ (spGet hp)
 refine Ev_body (fd:=c4) rfl rfl rfl ?_
 have sA:h.Sub ((h.add (.cells .rw [.nils,.nils,.nils])).add (.cells .rw [.nils,.nils,.nils])):=((H.Sub.refl hw).add _).add _
 have m0:MkSt h0 h ((h.add (.cells .rw [.nils,.nils,.nils])).add (.cells .rw [.nils,.nils,.nils])) p x .nils .nils .nils ⟨[],[],[]⟩ T:=
  ⟨hs.trans sA,OwnSl.nil (hs.trans sA) 4,OwnSl.nil (hs.trans sA) 3,OwnSl.nil (hs.trans sA) 3,fun b hb=>absurd hb (nblk b),fun b hb=>absurd hb (nblk b),fun b hb=>absurd hb (nblk b),fun b hb=>absurd hb (nblk b),hp.mono sA,Keeps.of sA _,by simp(disch:=first|omega|simp only[nZ]<;>omega|fail)only[go_sem],by simp(disch:=first|omega|simp only[nZ]<;>omega|fail)only[go_sem],by simp only[H.next_add];omega⟩
 simp(disch:=first|omega|simp only[nZ]<;>omega|fail)only[c4,go_sem]
 generalize((h.add (.cells .rw [.nils,.nils,.nils])).add (.cells .rw [.nils,.nils,.nils]))=hA at sA m0⊢
 refine From_ev m0.s hw0 hx hp0 m0.sp (by omega) (by omega) (by omega) _ fun N h2 N0 N1 s2 p2 k2 n2=>?_
 have m2:=m0.read hlp s2 p2 k2
 obtain⟨Nn,rfl⟩:=Int.eq_ofNat_of_zero_le (show 0≤N by omega)
 simp(disch:=first|omega|simp only[nZ]<;>omega|fail)only[go_sem]
 refine W.mono (Q:=fun X s=>X=.ext 0∧∃tm h' X es T',s=⟨tm,h',[]⟩∧MkSt h0 h h' p x X .nils .nils ⟨es,[],[]⟩ T'∧es.length=Nn∧(∀e∈es,InS e.s 4∧1≤e.frm∧e.frm≤400)∧0≤T'∧T'≤T+1+6*(Nn:Int)∧(Opd.t 0).ev tm=.ptr p 0∧(Opd.t 2).ev tm=.int .i64 nl∧(Opd.t 3).ev tm=.int .i64 np∧(Opd.t 8).ev tm=.ptr h.next 0∧(Opd.t 9).ev tm=.ptr (h.next+1) 0)
  (W_count Nn (fun i s=>∃tm h' X es T',s=⟨tm,h',[]⟩∧MkSt h0 h h' p x X .nils .nils ⟨es,[],[]⟩ T'∧es.length=i∧(∀e∈es,InS e.s 4∧1≤e.frm∧e.frm≤400)∧0≤T'∧T'≤T+1+6*(i:Int)∧(Opd.t 0).ev tm=.ptr p 0∧(Opd.t 2).ev tm=.int .i64 nl∧(Opd.t 3).ev tm=.int .i64 np∧(Opd.t 8).ev tm=.ptr h.next 0∧(Opd.t 9).ev tm=.ptr (h.next+1) 0∧(Opd.t 14).ev tm=.int .i64 (Nn:Int)∧(Opd.t 15).ev tm=.int .i64 (i:Int))
  ?_ ?_ (i:=0) (Nat.zero_le _) ⟨_,_,.nils,[],T+1,rfl,m2,rfl,by simp,by omega,by omega,(by simp),(by simp),(by simp),(by simp),(by simp),(by simp),(by simp)⟩) fun x1 s hx1=>?_
 ·rintro i s hi ⟨tm,hH,X,es,T',rfl,m,hlen,hes,T0,T1,t0,t2,t3,t8,t9,t14,t15⟩
  have hi':(i:Int)<(Nn:Int):=by omega
  simp(disch:=first|omega|simp only[nZ]<;>omega|fail)only[go_sem,t0,t2,t3,t8,t9,t14,t15,hi']
  refine shade_ev m.s hw0 hx hp0 m.sp (by omega) (by omega) _ fun sd h3 hsd s3 p3 k3=>?_
  have m3:=m.read hlp s3 p3 k3
  have s34:=(H.Sub.refl s3.wf).add (.cells .rw [.int .i64 sd.x,.int .i64 sd.y,.int .i64 sd.z,.int .i64 0])
  have m4:=m3.sub s34
  have gA:(h3.add (.cells .rw [.int .i64 sd.x,.int .i64 sd.y,.int .i64 sd.z,.int .i64 0])).get h3.next=some (.cells .rw [.int .i64 sd.x,.int .i64 sd.y,.int .i64 sd.z,.int .i64 0]):=get_add_new rfl
  have lb:=m3.lt
  simp(disch:=first|omega|simp only[nZ]<;>omega|fail)only[go_sem,t0,t2,t3,t8,t9,t14,t15,encD]
  generalize(h3.add (.cells .rw [.int .i64 sd.x,.int .i64 sd.y,.int .i64 sd.z,.int .i64 0]))=h4 at m4 gA⊢
  generalize h3.next=bA at gA lb⊢
  refine Once_ev m4.s hw0 hx hp0 m4.sp (by omega) (by omega) _ fun oc h5 s5 p5 k5 n5=>?_
  have m5:=m4.read hlp s5 p5 k5
  have g5:=k5.2 _ _ gA (by omega)
  simp(disch:=first|omega|simp only[nZ]<;>omega|fail)only[go_sem,t0,t2,t3,t8,t9,t14,t15]
  refine PBd_join (R:=fun x1 s=>x1=.nrm∧∃tm hh s' T'',s=⟨tm,hh,[]⟩∧MkSt h0 h hh p x X .nils .nils ⟨es,[],[]⟩ T''∧hh.get bA=some (.cells .rw [.int .i64 s'.x,.int .i64 s'.y,.int .i64 s'.z,.int .i64 0])∧InS s' 4∧0≤T''∧T''≤T'+5∧(Opd.t 0).ev tm=.ptr p 0∧(Opd.t 2).ev tm=.int .i64 nl∧(Opd.t 3).ev tm=.int .i64 np∧(Opd.t 8).ev tm=.ptr h.next 0∧(Opd.t 9).ev tm=.ptr (h.next+1) 0∧(Opd.t 10).ev tm=.ptr bA 0∧(Opd.t 14).ev tm=.int .i64 (Nn:Int)∧(Opd.t 15).ev tm=.int .i64 (i:Int)) ?_ fun x1 s hx1=>?_
  ·cases oc
   ·simp(disch:=first|omega|simp only[nZ]<;>omega|fail)only[go_sem]
    exact⟨_,_,sd,_,rfl,m5,g5,hsd,by omega,by omega,(by simp[t0]),(by simp[t2]),(by simp[t3]),(by simp[t8]),(by simp[t9]),(by simp),(by simp[t14]),(by simp[t15])⟩
   ·simp(disch:=first|omega|simp only[nZ]<;>omega|fail)only[go_sem,t0]
    refine Upto_ev m5.s hw0 hx hp0 m5.sp (by omega) (by omega) _ fun j h6 j0 j1 s6 p6 k6 n6=>?_
    have m6:=m5.read hlp s6 p6 k6
    have g6:=k6.2 _ _ g5 (by omega)
    obtain⟨jn,rfl⟩:=Int.eq_ofNat_of_zero_le j0
    have hj:jn<3:=by omega
    have hput:putN jn [.int .i64 0] [.int .i64 sd.x,.int .i64 sd.y,.int .i64 sd.z,.int .i64 0]=some [.int .i64 (sd.put jn 0).x,.int .i64 (sd.put jn 0).y,.int .i64 (sd.put jn 0).z,.int .i64 0]:=by
     rcases(by omega:jn=0∨jn=1∨jn=2) with rfl|rfl|rfl<;>rfl
    simp(disch:=first|omega|simp only[nZ]<;>omega|fail)only[go_sem,t0,q_iaa_ptr (nat_cst jn) hj,Nat.mul_one,g6,hput]
    exact⟨_,_,sd.put jn 0,_,rfl,m6.row hw0 hlp g6 (by omega) l0 _,get_set_same rfl,put_in hsd jn (by omega),by omega,by omega,(by simp[t0]),(by simp[t2]),(by simp[t3]),(by simp[t8]),(by simp[t9]),(by simp),(by simp[t14]),(by simp[t15])⟩
  obtain⟨rfl,tm,hh,s',T'',rfl,m7,g7,hs',T2,T3,t0,t2,t3,t8,t9,t10,t14,t15⟩:=hx1
  have z0:∀b,q_iaa 3 1 (.ptr b 0) (.int .i64 0)=some (.ptr b 0):=fun b=>rfl
  have z1:∀b,q_iaa 3 1 (.ptr b 0) (.int .i64 1)=some (.ptr b 1):=fun b=>rfl
  have z2:∀b,q_iaa 3 1 (.ptr b 0) (.int .i64 2)=some (.ptr b 2):=fun b=>rfl
  have hb1:=hs'.x
  have hb2:=hs'.y
  have hb3:=hs'.z
  simp(disch:=first|omega|simp only[nZ]<;>omega|fail)only[go_sem,t0,t2,t3,t8,t9,t10,t14,t15,z0,z1,z2,cells_of g7,wr_in]
  refine Upto_ev m7.s hw0 hx hp0 m7.sp (by omega) (by omega) _ fun f h8 f0 f1 s8 p8 k8 n8=>?_
  have m8:=m7.read hlp s8 p8 k8
  have g8:=k8.2 _ _ g7 (by omega)
  have m9:=m8.row hw0 hlp g8 (by omega) l0 (.cells .rw [.int .i64 s'.x,.int .i64 s'.y,.int .i64 s'.z,.int .i64 (1+f)])
  have g9:(h8.set bA (.cells .rw [.int .i64 s'.x,.int .i64 s'.y,.int .i64 s'.z,.int .i64 (1+f)])).cells bA=some [.int .i64 s'.x,.int .i64 s'.y,.int .i64 s'.z,.int .i64 (1+f)]:=cells_of (get_set_same rfl)
  have sC:=(H.Sub.refl m9.s.wf).add (.cells .rw [.int .i64 s'.x,.int .i64 s'.y,.int .i64 s'.z,.int .i64 (1+f)])
  have m10:=m9.sub sC
  have own4:SlAt ((h8.set bA (.cells .rw [.int .i64 s'.x,.int .i64 s'.y,.int .i64 s'.z,.int .i64 (1+f)])).add (.cells .rw [.int .i64 s'.x,.int .i64 s'.y,.int .i64 s'.z,.int .i64 (1+f)])) (.sl h8.next 0 1 (.fix 1)) 4 [[.int .i64 s'.x,.int .i64 s'.y,.int .i64 s'.z,.int .i64 (1+f)]]:=SlAt.new _ (by rw[H.next_set]) rfl (by simp) (by simp) (by simp)
  simp(disch:=first|omega|simp only[nZ]<;>omega|fail)only[go_sem,t0,t2,t3,t8,t9,t10,t14,t15,wr_in,g8,cells_of m8.g9]
  generalize((h8.set bA (.cells .rw [.int .i64 s'.x,.int .i64 s'.y,.int .i64 s'.z,.int .i64 (1+f)])).add (.cells .rw [.int .i64 s'.x,.int .i64 s'.y,.int .i64 s'.z,.int .i64 (1+f)]))=hC at m10 own4⊢
  refine m10.ox.app1 (by_:=32) (r:=encE ⟨s',1+f⟩) hw0 rfl (by omega) own4 rfl (by simp only[List.length_map];omega) (by simp only[List.length_map];omega) fun h9 o9 k9 n9=>?_
  have m11:=m10.appX hw0 hlp l0 (e:=⟨s',1+f⟩) o9 k9 n9
  have g11:=k9.2 _ _ m10.g9 (m10.ox.ne m10.g9)
  simp(disch:=first|omega|simp only[nZ]<;>omega|fail)only[go_sem,t0,t2,t3,t8,t9,t10,t14,t15,g11,wr_succ]
  exact⟨_,_,_,_,_,rfl,m11,by simp[hlen],fun e he=>by
   rcases List.mem_append.1 he with h|h
   ·exact hes e h
   ·rw[List.mem_singleton] at h;subst h;exact⟨hs',by show 1≤1+f;omega,by show 1+f≤400;omega⟩,by omega,by omega,(by simp[t0]),(by simp[t2]),(by simp[t3]),(by simp[t8]),(by simp[t9]),(by simp[t14]),(by simp)⟩
 ·rintro s ⟨tm,hH,X,es,T',rfl,m,hlen,hes,T0,T1,t0,t2,t3,t8,t9,t14,t15⟩
  simp(disch:=first|omega|simp only[nZ]<;>omega|fail)only[go_sem,t0,t2,t3,t8,t9,t14,t15,Int.lt_irrefl]
  exact⟨_,_,_,_,_,rfl,m,hlen,hes,T0,T1,(by simp[t0]),(by simp[t2]),(by simp[t3]),(by simp[t8]),(by simp[t9])⟩
 obtain⟨rfl,tm,hA,X,es,T1,rfl,m,hle,hes,T0,Tb1,t0,t2,t3,t8,t9⟩:=hx1
 simp(disch:=first|omega|simp only[nZ]<;>omega|fail)only[go_sem,t0,t2,t3,t8,t9]
 refine From_ev m.s hw0 hx hp0 m.sp (by omega) (by omega) (by omega) _ fun N h2 N2 N3 s2 p2 k2 n2=>?_
 have m2:=m.read hlp s2 p2 k2
 obtain⟨Ln,rfl⟩:=Int.eq_ofNat_of_zero_le (show 0≤N by omega)
 simp(disch:=first|omega|simp only[nZ]<;>omega|fail)only[go_sem,t0,t2,t3,t8,t9]
 refine W.mono (Q:=fun x1 s=>x1=.ext 2∧∃tm h' Y ls T',s=⟨tm,h',[]⟩∧MkSt h0 h h' p x X Y .nils ⟨es,ls,[]⟩ T'∧ls.length=Ln∧(∀e∈ls,InS e 3)∧0≤T'∧T'≤T1+1+3*(Ln:Int)∧(Opd.t 0).ev tm=.ptr p 0∧(Opd.t 3).ev tm=.int .i64 np∧(Opd.t 8).ev tm=.ptr h.next 0∧(Opd.t 9).ev tm=.ptr (h.next+1) 0)
  (W_count Ln (fun i s=>∃tm h' Y ls T',s=⟨tm,h',[]⟩∧MkSt h0 h h' p x X Y .nils ⟨es,ls,[]⟩ T'∧ls.length=i∧(∀e∈ls,InS e 3)∧0≤T'∧T'≤T1+1+3*(i:Int)∧(Opd.t 0).ev tm=.ptr p 0∧(Opd.t 3).ev tm=.int .i64 np∧(Opd.t 8).ev tm=.ptr h.next 0∧(Opd.t 9).ev tm=.ptr (h.next+1) 0∧(Opd.t 51).ev tm=.int .i64 (Ln:Int)∧(Opd.t 52).ev tm=.int .i64 (i:Int))
  ?_ ?_ (i:=0) (Nat.zero_le _) ⟨_,_,.nils,[],T1+1,rfl,m2,rfl,by simp,by omega,by omega,(by simp[t0]),(by simp[t3]),(by simp[t8]),(by simp[t9]),(by simp),(by simp)⟩) fun x1 s hx1=>?_
 ·rintro i s hi ⟨tm,hH,Y,ls,T',rfl,m,hlen,hes,T0,T1,t0,t3,t8,t9,t14,t15⟩
  have hi':(i:Int)<(Ln:Int):=by omega
  have c9:=cells_of m.g9
  simp(disch:=first|omega|simp only[nZ]<;>omega|fail)only[go_sem,t0,t3,t8,t9,t14,t15,hi',c9]
  refine shade_ev m.s hw0 hx hp0 m.sp (by omega) (by omega) _ fun sd h3 hsd s3 p3 k3=>?_
  have m3:=m.read hlp s3 p3 k3
  have c93:=cells_of m3.g9
  have s34:=(H.Sub.refl s3.wf).add (.cells .rw [.int .i64 sd.x,.int .i64 sd.y,.int .i64 sd.z])
  have m10:=m3.sub s34
  have own3:SlAt (h3.add (.cells .rw [.int .i64 sd.x,.int .i64 sd.y,.int .i64 sd.z])) (.sl h3.next 0 1 (.fix 1)) 3 [[.int .i64 sd.x,.int .i64 sd.y,.int .i64 sd.z]]:=SlAt.new _ rfl rfl (by simp) (by simp) (by simp)
  simp(disch:=first|omega|simp only[nZ]<;>omega|fail)only[go_sem,t0,t3,t8,t9,t14,t15,encD,c9,c93]
  generalize(h3.add (.cells .rw [.int .i64 sd.x,.int .i64 sd.y,.int .i64 sd.z]))=hC at m10 own3⊢
  refine m10.oy.app1 (by_:=24) (r:=encD sd) hw0 rfl (by omega) own3 rfl (by simp only[List.length_map];omega) (by simp only[List.length_map];omega) fun h9 o9 k9 n9=>?_
  have m11:=m10.appY hw0 hlp l0 (e:=sd) o9 k9 n9
  have g11:=k9.2 _ _ m10.g9 (m10.oy.ne m10.g9)
  simp(disch:=first|omega|simp only[nZ]<;>omega|fail)only[go_sem,t0,t3,t8,t9,t14,t15,g11,c9,c93,cells_of m10.g9,wr_succ]
  exact⟨_,_,_,_,_,rfl,m11,by simp[hlen],fun e he=>by
   rcases List.mem_append.1 he with h|h
   ·exact hes e h
   ·rw[List.mem_singleton] at h;subst h;exact hsd,by omega,by omega,(by simp[t0]),(by simp[t3]),(by simp[t8]),(by simp[t9]),(by simp[t14]),(by simp)⟩
 ·rintro s ⟨tm,hH,Y,ls,T',rfl,m,hlen,hes,T0,T1,t0,t3,t8,t9,t14,t15⟩
  simp(disch:=first|omega|simp only[nZ]<;>omega|fail)only[go_sem,t0,t3,t8,t9,t14,t15,Int.lt_irrefl]
  exact⟨_,_,_,_,_,rfl,m,hlen,hes,T0,T1,(by simp[t0]),(by simp[t3]),(by simp[t8]),(by simp[t9])⟩
 obtain⟨rfl,tm,hB,Y,ls,T2,rfl,m,hll,hls,T0',Tb2,t0,t3,t8,t9⟩:=hx1
 simp(disch:=first|omega|simp only[nZ]<;>omega|fail)only[go_sem,t0,t3,t8,t9]
 refine From_ev m.s hw0 hx hp0 m.sp (by omega) (by omega) (by omega) _ fun w h3 w0 w1 s3 p3 k3 n3=>?_
 have m3:=m.read hlp s3 p3 k3
 simp(disch:=first|omega|simp only[nZ]<;>omega|fail)only[go_sem,t0,t3,t8,t9]
 refine Upto_ev m3.s hw0 hx hp0 m3.sp (by omega) (by omega) _ fun N h4 N4 N5 s4 p4 k4 n4=>?_
 have m4:=m3.read hlp s4 p4 k4
 obtain⟨Pn,rfl⟩:=Int.eq_ofNat_of_zero_le N4
 simp(disch:=first|omega|simp only[nZ]<;>omega|fail)only[go_sem,t0,t3,t8,t9]
 refine W.mono (Q:=fun x1 s=>x1=.ext 4∧∃tm h' Z ps T',s=⟨tm,h',[]⟩∧MkSt h0 h h' p x X Y Z ⟨es,ls,ps⟩ T'∧ps.length=Pn∧(∀e∈ps,InS e 20)∧0≤T'∧T'≤T2+2+3*(Pn:Int)∧(Opd.t 8).ev tm=.ptr h.next 0∧(Opd.t 9).ev tm=.ptr (h.next+1) 0)
  (W_count Pn (fun i s=>∃tm h' Z ps T',s=⟨tm,h',[]⟩∧MkSt h0 h h' p x X Y Z ⟨es,ls,ps⟩ T'∧ps.length=i∧(∀e∈ps,InS e 20)∧0≤T'∧T'≤T2+2+3*(i:Int)∧(Opd.t 0).ev tm=.ptr p 0∧(Opd.t 8).ev tm=.ptr h.next 0∧(Opd.t 9).ev tm=.ptr (h.next+1) 0∧(Opd.t 11).ev tm=.int .i64 w∧(Opd.t 66).ev tm=.int .i64 (Pn:Int)∧(Opd.t 67).ev tm=.int .i64 (i:Int))
  ?_ ?_ (i:=0) (Nat.zero_le _) ⟨_,_,.nils,[],_,rfl,m4,rfl,by simp,by omega,by omega,(by simp[t0]),(by simp[t8]),(by simp[t9]),(by simp),(by simp),(by simp)⟩) fun x1 s hx1=>?_
 ·rintro i s hi ⟨tm,hH,Z,ps,T',rfl,m,hlen,hes,T0,T1,t0,t8,t9,t11,t14,t15⟩
  have hi':(i:Int)<(Pn:Int):=by omega
  have c9:=cells_of m.g9
  simp(disch:=first|omega|simp only[nZ]<;>omega|fail)only[go_sem,t0,t8,t9,t11,t14,t15,hi',c9]
  refine shade_ev m.s hw0 hx hp0 m.sp (by omega) (by omega) _ fun sd h3 hsd s3 p3 k3=>?_
  have m3:=m.read hlp s3 p3 k3
  have c93:=cells_of m3.g9
  have s34:=(H.Sub.refl s3.wf).add (.cells .rw [.int .i64 sd.x,.int .i64 sd.y,.int .i64 sd.z])
  have m10:=m3.sub s34
  have own3:SlAt (h3.add (.cells .rw [.int .i64 sd.x,.int .i64 sd.y,.int .i64 sd.z])) (.sl h3.next 0 1 (.fix 1)) 3 [[.int .i64 sd.x,.int .i64 sd.y,.int .i64 sd.z]]:=SlAt.new _ rfl rfl (by simp) (by simp) (by simp)
  have hb1:=hsd.x
  have hb2:=hsd.y
  have hb3:=hsd.z
  simp(disch:=first|omega|simp only[nZ]<;>omega|fail)only[go_sem,t0,t8,t9,t11,t14,t15,encD,c9,c93]
  generalize(h3.add (.cells .rw [.int .i64 sd.x,.int .i64 sd.y,.int .i64 sd.z]))=hC at m10 own3⊢
  refine m10.oz.app1 (by_:=24) (r:=encD sd) hw0 rfl (by omega) own3 rfl (by simp only[List.length_map];omega) (by simp only[List.length_map];omega) fun h9 o9 k9 n9=>?_
  have m11:=m10.appZ hw0 hlp l0 (e:=sd) o9 k9 n9
  have g11:=k9.2 _ _ m10.g9 (m10.oz.ne m10.g9)
  simp(disch:=first|omega|simp only[nZ]<;>omega|fail)only[go_sem,t0,t8,t9,t11,t14,t15,g11,c9,c93,cells_of m10.g9,wr_succ]
  exact⟨_,_,_,_,_,rfl,m11,by simp[hlen],fun e he=>by
   rcases List.mem_append.1 he with h|h
   ·exact hes e h
   ·rw[List.mem_singleton] at h;subst h;exact⟨by omega,by omega,by omega⟩,by omega,by omega,(by simp[t0]),(by simp[t8]),(by simp[t9]),(by simp[t11]),(by simp[t14]),(by simp)⟩
 ·rintro s ⟨tm,hH,Z,ps,T',rfl,m,hlen,hes,T0,T1,t0,t8,t9,t11,t14,t15⟩
  simp(disch:=first|omega|simp only[nZ]<;>omega|fail)only[go_sem,t0,t8,t9,t11,t14,t15,Int.lt_irrefl]
  exact⟨_,_,_,_,_,rfl,m,hlen,hes,T0,T1,(by simp[t8]),(by simp[t9])⟩
 obtain⟨rfl,tm,hB,Z,ps,T3,rfl,m,hpl,hps,T0',Tb3,t8,t9⟩:=hx1
 have x1:=OwnC.one m.ox.c
 have y1:=OwnC.one m.oy.c
 have z1:=OwnC.one m.oz.c
 simp(disch:=first|omega|simp only[nZ]<;>omega|fail)only[go_sem,t8,t9,cells_of m.g9,m.g8,x1,y1,z1,cells_one x1,cells_one y1,cells_one z1]
 exact q X Y Z ⟨es,ls,ps⟩ _ T3 ⟨⟨by show 1≤es.length;omega,by show es.length≤6;omega⟩,⟨by show 1≤ls.length;omega,by show ls.length≤4;omega⟩,by show ps.length≤9;omega,hes,hls,hps⟩ (by show(ps.length:Int)≤np;omega) (by show(es.length:Int)≤ne;omega) (by show(ls.length:Int)≤nl;omega) ⟨by omega,by omega⟩ m
theorem MkSt.is {h0 h h':H}{p:Nat}{x X Y Z:V}{t:Tb}{T:Int}(m:MkSt h0 h h' p x X Y Z t T)(g:Good t)(hw0:h0.wf)(hp:p<h.next)(l0:h0.next≤h.next):h0.Sub (h'.set h.next (.cells .rw [X,Y,Z]))∧TbIs (h'.set h.next (.cells .rw [X,Y,Z])) (.agg [X,Y,Z]) t∧SpAt (h'.set h.next (.cells .rw [X,Y,Z])) p x T:=by
 have l8:=m.lt
 have s1:=m.s.set (b:=h.next) l0 (by omega) hw0 (.cells .rw [X,Y,Z])
 have kb:=Keeps.set h' h.next (.cells .rw [X,Y,Z])
 have gp:=g.pieces
 refine⟨s1,⟨X,Y,Z,rfl,(m.ox.keep kb s1 fun b hb e=>?_).sl ?_,(m.oy.keep kb s1 fun b hb e=>?_).sl ?_,(m.oz.keep kb s1 fun b hb e=>?_).sl ?_⟩,m.sp.keep kb (by omega)⟩
 ·subst e;exact m.ox.ne m.g8 hb
 ·simp only[List.length_map];have:=g.eyes;omega
 ·subst e;exact m.oy.ne m.g8 hb
 ·simp only[List.length_map];have:=g.lights;omega
 ·subst e;exact m.oz.ne m.g8 hb
 ·simp only[List.length_map];omega
end Try
end Go.Ab
namespace Go.Ab.Try
end Go.Ab.Try
