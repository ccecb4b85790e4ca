/- The law ClockTruths. Numbers that are wound off bytes: the contracts of Spool. A truth that is wound off numbers: Made. Slices that are made side by side. Made: the slices' invariants; an attic with its truth (plain). Made. Distances only sink (plain); wages. Equal, Eq, Dup of clocks, readings and gaps (printed by a program of ours). great, Own, same: attics as the law looks at them. theirs: an attic of the reference. The reference's Check of an attic: its parts. The reference's Check of an attic: the round over its clocks. Truths that fit, as the code asks for them (plain). What is known more of an attic, and truths (plain). Lists without neighbours that are the same; to what a clock can have been set, what it gains, what it shows (plain). Contracts: fits, as the law has it; Fits. Contracts: gaps that hold, readings that are missed (ref). Contracts: readings that are missed (ref). Own slices of an attic; copied, Read, Know. copied, checked, Read, Know. Contracts of the generic functions on integers. Lists of lists of integers in memory. Contract: Fits. Contract: Some. Contracts: whether it is a truth, and fits (ref); a truth told. Contracts: all times (ref). Contracts: all runs of all clocks (ref). Contract: a span made wider (ref). All truths of the reference, and those that fit (plain). What the truths of the reference tell is what the clocks tell (plain). Lists of truths in memory. Contract: all truths (ref). Contracts: the truths that fit, and what they tell of times (ref). Contracts: what truths tell of times, wages and numbers that are shown (ref; printed by a program of ours). Contracts: which was before; to what clocks were set (ref). Contract: whether an attic has more truths than are compared. Cells side by side; what times are told, for right attics (plain). The law ClockTimes. Contract: a truth near another one. What is told of times, and one clock more that is right (plain). -/
import Derived.Test.YtagnijhgpogfhaaGreatG2
import Derived.Test.YtagnijhgpogfhaaGreatAc7
set_option linter.unusedSimpArgs false
set_option linter.unusedVariables false
namespace Go.Ab
namespace Tryz
end Tryz
end Go.Ab
namespace Go.Ab
theorem Keeps.new {S:Nat→Prop}{h h':H}(hw:h.wf)(k:Keeps (fun c=>S c∨h.next≤c) h h'):Keeps S h h':=⟨k.1,fun c y e n=>k.2 c y e fun hs=>hs.elim n fun hge=>by have:=hw c y e;omega⟩
structure Sl6 (h0 z:H)(n1:Nat)(v:Nat→V)(sz:Nat→Nat)(rows:Nat→List (List V)):Prop where
 o:∀i,i<6→OwnC h0 z (v i) (sz i) (rows i)
 lo:∀i,i<6→∀b,blkOf (v i) b→n1≤b
 dj:∀i j,i<6→j<6→i≠j→∀b,blkOf (v i) b→¬blkOf (v j) b
variable {h0 z z':H} {n1:Nat} {v:Nat→V} {sz:Nat→Nat} {rows:Nat→List (List V)}
theorem Sl6.keep (k:Sl6 h0 z n1 v sz rows){S:Nat→Prop}(kk:Keeps S z z')(s:h0.Sub z')(hS:∀b,S b→b<n1):Sl6 h0 z' n1 v sz rows:=
 ⟨fun i hi=>(k.o i hi).keep kk s fun b hb q=>by have:=k.lo i hi b hb;have:=hS b q;omega,k.lo,k.dj⟩
theorem Sl6.rw (k:Sl6 h0 z n1 v sz rows){rows':Nat→List (List V)}(e:∀i,i<6→rows i=rows' i):Sl6 h0 z n1 v sz rows':=⟨fun i hi=>by rw[←e i hi];exact k.o i hi,k.lo,k.dj⟩
theorem Sl6.mono (k:Sl6 h0 z n1 v sz rows)(s:z.Sub z'):Sl6 h0 z' n1 v sz rows:=⟨fun i hi=>(k.o i hi).mono s,k.lo,k.dj⟩
def updF {α:Type}(f:Nat→α)(i:Nat)(x:α)(j:Nat):α:=if j=i then x else f j
theorem updF_same {α:Type}(f:Nat→α)(i:Nat)(x:α):updF f i x i=x:=if_pos rfl
theorem updF_other {α:Type}(f:Nat→α){i j:Nat}(x:α)(h:j≠i):updF f i x j=f j:=if_neg h
theorem Sl6.app (k:Sl6 h0 z n1 v sz rows){i:Nat}(hi:i<6){w:V}{r:List V}(o:OwnC h0 z' w (sz i) (rows i++[r]))(n:∀b,blkOf w b→blkOf (v i) b∨z.next≤b)(hz:n1≤z.next)(kk:Keeps (blkOf (v i)) z z'):
  Sl6 h0 z' n1 (updF v i w) sz (updF rows i (rows i++[r])):=by
 refine⟨fun j hj=>?_,fun j hj b hb=>?_,fun j l hj hl hjl b hb=>?_⟩
 ·by_cases e:j=i
  ·subst e;rw[updF_same,updF_same];exact o
  ·rw[updF_other _ _ e,updF_other _ _ e]
   exact(k.o j hj).keep kk o.1 fun b hb=>k.dj j i hj hi e b hb
 ·by_cases e:j=i
  ·subst e;rw[updF_same] at hb
   exact(n b hb).elim (k.lo j hi b) fun q=>by omega
  ·rw[updF_other _ _ e] at hb;exact k.lo j hj b hb
 ·by_cases e:j=i
  ·subst e
   rw[updF_same] at hb;rw[updF_other _ _ (Ne.symm hjl)]
   exact(n b hb).elim (k.dj j l hi hl hjl b) fun q w=>by have:=((k.o l hl).blk w).2.1;omega
  ·rw[updF_other _ _ e] at hb
   by_cases e2:l=i
   ·subst e2;rw[updF_same]
    intro w
    exact(n b w).elim (k.dj j l hj hi e b hb) fun q=>by have:=((k.o j hj).blk hb).2.1;omega
   ·rw[updF_other _ _ e2];exact k.dj j l hj hl hjl b hb
end Go.Ab
namespace Go.Ab.Tryz
open Go.Proofs
end Go.Ab.Tryz
namespace Go.Ab.Tryz
open Go.Proofs
def sz6:Nat→Nat
 |0=>4
 |1=>3
 |2=>4
 |_=>1
def rowsM (a:At)(ss gg tt:List Int):Nat→List (List V)
 |0=>a.cks.map encC
 |1=>a.rds.map encR
 |2=>a.gps.map encG
 |3=>ss.map encI
 |4=>gg.map encI
 |5=>tt.map encI
 |_=>[]
variable {h0:H} {p:Nat} {x:V} {n1 c0:Nat} {a a':At} {ss gg tt ss' gg' tt':List Int} {T T':Int} {v v':Nat→V} {z z5:H}
theorem getl {α:Type}{l:List α}{i:Nat}{x:α}(h:l[i]? =some x):i<l.length:=by
 rcases Nat.lt_or_ge i l.length with q|q
 ·exact q
 ·rw[List.getElem?_eq_none q] at h;cases h
def timeF (tt:List Int)(e:Nat):Int:=tt.getD e 0
theorem timeF_at {tt:List Int}{e:Nat}{t:Int}(h:tt[e]? =some t):timeF tt e=t:=by unfold timeF;rw[List.getD_eq_getElem?_getD,h];rfl
end Go.Ab.Tryz
namespace Go.Ab.Tryz
open Go.Proofs
theorem rowsUp {a a':At}{ss gg tt ss' gg' tt':List Int}{j:Nat}{r:List V}(h0:updF (rowsM a ss gg tt) j (rowsM a ss gg tt j++[r]) 0=a'.cks.map encC)(h1:updF (rowsM a ss gg tt) j (rowsM a ss gg tt j++[r]) 1=a'.rds.map encR)(h2:updF (rowsM a ss gg tt) j (rowsM a ss gg tt j++[r]) 2=a'.gps.map encG)
  (h3:updF (rowsM a ss gg tt) j (rowsM a ss gg tt j++[r]) 3=ss'.map encI) (h4:updF (rowsM a ss gg tt) j (rowsM a ss gg tt j++[r]) 4=gg'.map encI) (h5:updF (rowsM a ss gg tt) j (rowsM a ss gg tt j++[r]) 5=tt'.map encI):∀i,i<6→updF (rowsM a ss gg tt) j (rowsM a ss gg tt j++[r]) i=rowsM a' ss' gg' tt' i:=fun i hi=>by
 rcases(by omega:i=0∨i=1∨i=2∨i=3∨i=4∨i=5) with rfl|rfl|rfl|rfl|rfl|rfl
 ·exact h0
 ·exact h1
 ·exact h2
 ·exact h3
 ·exact h4
 ·exact h5
theorem rows0 {a:At}{ss gg tt:List Int}{c:Ck}:∀i,i<6→updF (rowsM a ss gg tt) 0 (rowsM a ss gg tt 0++[encC c]) i=rowsM {a with cks:=a.cks++[c]} ss gg tt i:=rowsUp (by simp[updF,rowsM]) (by simp[updF,rowsM]) (by simp[updF,rowsM]) (by simp[updF,rowsM]) (by simp[updF,rowsM]) (by simp[updF,rowsM])
theorem rows1 {a:At}{ss gg tt:List Int}{c:Rd}:∀i,i<6→updF (rowsM a ss gg tt) 1 (rowsM a ss gg tt 1++[encR c]) i=rowsM {a with rds:=a.rds++[c]} ss gg tt i:=rowsUp (by simp[updF,rowsM]) (by simp[updF,rowsM]) (by simp[updF,rowsM]) (by simp[updF,rowsM]) (by simp[updF,rowsM]) (by simp[updF,rowsM])
theorem rows2 {a:At}{ss gg tt:List Int}{c:Gp}:∀i,i<6→updF (rowsM a ss gg tt) 2 (rowsM a ss gg tt 2++[encG c]) i=rowsM {a with gps:=a.gps++[c]} ss gg tt i:=rowsUp (by simp[updF,rowsM]) (by simp[updF,rowsM]) (by simp[updF,rowsM]) (by simp[updF,rowsM]) (by simp[updF,rowsM]) (by simp[updF,rowsM])
end Go.Ab.Tryz
namespace Go.Ab.Tryz
open Go.Proofs
theorem low_le {L:List Int}(hL:L.length=25){a b:Nat}(ha:a<5)(hb:b<5)(v:Int){x y:Nat}(hx:x<5)(hy:y<5):mg (low L a b v) x y≤mg L x y:=by
 rw[mg_low hL ha hb v x y hx hy]
 split
 ·rename_i e;obtain⟨rfl,rfl⟩:=e;omega
 ·exact Int.le_refl _
theorem rdL_le {L:List Int}(hL:L.length=25){e:Nat}(he:e<5)(s:Int × Int){x y:Nat}(hx:x<5)(hy:y<5):mg (rdL L e s) x y≤mg L x y:=
 Int.le_trans (low_le (by rw[low_len];exact hL) he (by decide) _ hx hy) (low_le hL (by decide) he _ hx hy)
theorem readsL_le {a:At}(r:Right a){cnt:Nat→Bool}{k:Int}{x:Int × Int}{u v:Nat}(hu:u<5)(hv:v<5):∀{l:List Rd} {i:Nat} {L:List Int},(∀r∈l,r∈a.rds)→L.length=25→mg (readsL a cnt k x l i L).1 u v≤mg L u v
 |[],_,_,_,_=>Int.le_refl _
 |rd::l,i,L,hl,hL=>by
  obtain⟨yk,ye,ek,ee,hyk,hye,_⟩:=r.rd (hl rd (List.mem_cons_self ..))
  have hl':=fun x hx=>hl x (List.mem_cons_of_mem _ hx)
  rw[readsL]
  split
  ·exact readsL_le r hu hv hl' hL
  ·split
   ·exact Int.le_refl _
   ·exact Int.le_trans (readsL_le r hu hv hl' (by rw[rdL,low_len,low_len];exact hL)) (rdL_le hL (by omega) _ hu hv)
theorem readL_le {a:At}(r:Right a){cnt:Nat→Bool}{k:Int}{x:Int × Int}{L:List Int}(hL:In5 240 L)(ht:(readL a cnt k x L).2=true){u v:Nat}(hu:u<5)(hv:v<5):mg (readL a cnt k x L).1 u v≤mg L u v:=by
 have hin:=readsL_in (cnt:=cnt) (k:=k) (x:=x) (i:=0) r (fun y (hy:y∈a.rds)=>hy) hL
 unfold readL at ht⊢
 by_cases h1:(readsL a cnt k x a.rds 0 L).2=true
 ·rw[if_pos h1] at ht⊢
  exact Int.le_trans (((clos_spec (by decide) (by decide) hin).1 ht).2.2.1 u v hu hv) (readsL_le r hu hv (fun r hr=>hr) hL.len)
 ·rw[if_neg h1] at ht;cases ht
theorem moreL_le {a:At}(r:Right a){cnt:Nat→Bool}{u v:Nat}(hu:u<5)(hv:v<5):∀{n:Nat} {runs:Runs} {L:List Int},In5 240 L→∀t∈moreL a cnt n runs L,mg t.2 u v≤mg L u v
 |0,runs,L,h,t,ht=>by rw[moreL,List.mem_singleton] at ht;rw[ht];exact Int.le_refl _
 |n+1,runs,L,h,t,ht=>by
  unfold moreL at ht
  cases hc:a.cks[runs.length]? with
  |none=>rw[hc] at ht;cases ht
  |some c=>
   rw[hc] at ht
   simp only[List.mem_flatMap] at ht
   obtain⟨i,_,j,_,ht⟩:=ht
   split at ht
   ·rename_i hk;exact Int.le_trans (moreL_le r hu hv (readL_in r h hk) t ht) (readL_le r h hk hu hv)
   ·cases ht
theorem gaps_le {a:At}(r:Right a){u v:Nat}(hu:u<5)(hv:v<5):∀{l:List Gp} {L:List Int},(∀g∈l,g∈a.gps)→L.length=25→mg (l.foldl gapL L) u v≤mg L u v
 |[],_,_,_=>Int.le_refl _
 |g::l,L,hl,hL=>by
  obtain⟨f,t,e1,e2,hf,ht,_⟩:=r.gap (hl g (List.mem_cons_self ..))
  rw[List.foldl_cons]
  refine Int.le_trans (gaps_le r hu hv (fun x hx=>hl x (List.mem_cons_of_mem _ hx)) (by rw[gapL,low_len,low_len];exact hL)) ?_
  rw[gapL,e1,e2,Int.toNat_natCast,Int.toNat_natCast]
  exact Int.le_trans (low_le (by rw[low_len];exact hL) (by omega) (by omega) _ hu hv) (low_le hL (by omega) (by omega) _ hu hv)
theorem cases_diag {a:At}(r:Right a){cnt:Nat→Bool}{t:Runs × List Int}(ht:t∈casesL a cnt){u:Nat}(hu:u<5):mg t.2 u u=0:=by
 have hd:=(cases_sound r ht).1.diag u hu
 unfold casesL at ht
 split at ht
 ·rename_i hc
  have h1:=moreL_le r hu hu (free_clos_in r hc) t ht
  have h2:=((clos_spec (by decide) (by decide) (freeL_in r)).1 hc).2.2.1 u u hu hu
  have h3:mg (freeL a) u u≤mg (bsL a.mins) u u:=gaps_le r hu hu (fun g hg=>hg) (bsU_len _ _ _)
  rw[mg_bs _ hu hu,if_pos (.inr rfl)] at h3
  omega
 ·cases ht
theorem errT_ok {a:At}(r:Right a)(hne:allC a≠[]):errT a false=0:=by
 unfold errT;rw[if_neg (by rw[checkA_iff.2 r];simp),if_neg (by simp),if_neg hne]
end Go.Ab.Tryz
namespace Go.Ab.Tryz
open Go.Proofs
theorem allOne_flat {α:Type}{enc:α→List V}(h:∀a,allOne (enc a)=true)(l:List α):allOne (l.map enc).flatten=true:=by
 rw[allOne_eq]
 intro v hv
 obtain⟨r,hr,hvr⟩:=List.mem_flatten.1 hv
 obtain⟨a,_,rfl⟩:=List.mem_map.1 hr
 exact allOne_eq.1 (h a) v hvr
theorem SlAt.full {h:H}{b n:Nat}{k:Kd}{c:Cap}{sz:Nat}{rows:List (List V)}(hn:n=rows.length)(hb:h.get b=some (.cells k rows.flatten))(hsz:∀r∈rows,r.length=sz)(hl:rows.length≤1000000):SlAt h (.sl b 0 n c) sz rows:=by
 subst hn
 refine⟨hsz,by omega,.inr ⟨b,0,c,_,rfl,.inr (cells_of hb),getN_eq.2 ⟨?_,?_⟩⟩⟩
 ·rw[List.drop_zero,←flatten_len hsz,List.take_length]
 ·rw[flatten_len hsz];omega
theorem equalClock_ev {l r:List (List Int)}{h:H}{x y:V}(hx:SlAt h x 4 (l.map (List.map iv)))(hy:SlAt h y 4 (r.map (List.map iv))):
  Ev fnG fastA (.fn 155 [] []) [x,y] h fun v h'=>v=.bool (decide (l=r))∧h'=h:=by
 have hb:=hx.boundE
 refine Ev_body (fd:=c155) rfl rfl rfl ?_
 by_cases hl:l.length=r.length
 ·have hl':(l.length:Int)=(r.length:Int):=by omega
  simp -implicitDefEqProofs(maxSteps:=999999)(disch:=first|with_reducible rfl|omega|(simp only[nA,nS,nD]<;>omega)|fail)only[c155,go_sem,hx.lenE,hy.lenE,hl',ne_eq,not_true_eq_false]
  refine W_count l.length (fun i s=>∃tm,s=⟨tm,h,[]⟩∧(Opd.t 0).ev tm=x∧(Opd.t 1).ev tm=y∧(Opd.t 12).ev tm=.int .i64 (l.length:Int)∧(Opd.t 13).ev tm=.int .i64 (i:Int)∧l.take i=r.take i)
   ?_ ?_ (i:=0) (Nat.zero_le _) ⟨_,rfl,(by simp[ev_c,ev_put]<;>rfl),(by simp[ev_c,ev_put]<;>rfl),(by simp only[ev_put, ↓reduceIte,Nat.reduceEqDiff,hl]),(by simp only[ev_put];rfl),rfl⟩
  ·rintro i s hi ⟨tm,rfl,e0,e1,e12,e13,e9⟩
   have hi':(i:Int)<(l.length:Int):=by omega
   have hi2:i<r.length:=by omega
   obtain⟨b,o,c,cs,rfl,hc,hq,hg,hn,hn0⟩:=hx.at hi
   obtain⟨b2,o2,c2,cs2,rfl,hc2,hq2,hg2,hn2,hn02⟩:=hy.at hi2
   have h1:(l[i]=r[i])↔l.take (i+1)=r.take (i+1):=by
    rw[List.take_succ_eq_append_getElem hi,List.take_succ_eq_append_getElem hi2,e9];simp only[List.append_cancel_left_eq,List.cons.injEq,and_true]
   have hf:=q_feq_map l[i] r[i] (n:=4) (by simpa using hx.1 _ (List.mem_map_of_mem (List.getElem_mem hi))) (by simpa using hy.1 _ (List.mem_map_of_mem (List.getElem_mem hi2))) true
   by_cases he:l[i]=r[i]
   ·rw[he] at hf
    simp -implicitDefEqProofs(maxSteps:=999999)(disch:=first|with_reducible rfl|omega|(simp only[nA,nS,nD]<;>omega)|fail)only[go_sem,e0,e1,e12,e13,hi',hq (nat_cst i),hq2 (nat_cst i),hc,hc2,hg,hg2,hf,he,ngB,wr_succ]
    exact⟨_,rfl,(by simp[ev_c,ev_put,e0]<;>rfl),(by simp[ev_c,ev_put,e1]<;>rfl),(by simp[ev_c,ev_put,e12]<;>rfl),(by simp[ev_c,ev_put]<;>rfl),h1.1 he⟩
   ·simp -implicitDefEqProofs(maxSteps:=999999)(disch:=first|with_reducible rfl|omega|(simp only[nA,nS,nD]<;>omega)|fail)only[go_sem,e0,e1,e12,e13,hi',hq (nat_cst i),hq2 (nat_cst i),hc,hc2,hg,hg2,hf,he,ngB,wr_succ]
    rw[decide_eq_false]
    intro e;exact he (h1.2 (by rw[e]))
  ·rintro s ⟨tm,rfl,e0,e1,e12,e13,e9⟩
   simp -implicitDefEqProofs(maxSteps:=999999)(disch:=first|with_reducible rfl|omega|(simp only[nA,nS,nD]<;>omega)|fail)only[go_sem,e0,e1,e12,e13,Int.lt_irrefl]
   rw[decide_eq_true]
   rw[List.take_length,hl,List.take_length] at e9;exact e9
 ·have hl':¬(l.length:Int)=(r.length:Int):=by omega
  simp -implicitDefEqProofs(maxSteps:=999999)(disch:=first|with_reducible rfl|omega|(simp only[nA,nS,nD]<;>omega)|fail)only[c155,go_sem,hx.lenE,hy.lenE,hl',ne_eq,not_false_eq_true]
  rw[decide_eq_false]
  intro e;exact hl (by rw[e])
theorem eqClock_ev {l r:List (List Int)}{h:H}{x y:V}(hx:SlAt h x 4 (l.map (List.map iv)))(hy:SlAt h y 4 (r.map (List.map iv)))(Q:V→H→Prop):
  Ev fnG fastA (.fn 99 [] []) [x,y] h Q=Q (.bool (decide (l=r))) h:=by
 refine Ev.det (Ev_body (fd:=c99) rfl rfl rfl ?_) Q
 simp -implicitDefEqProofs(maxSteps:=999999)(disch:=first|with_reducible rfl|omega|(simp only[nA,nS,nD]<;>omega)|fail)only[c99,go_sem]
 refine(equalClock_ev hx hy).mono fun v h' hv=>?_
 obtain⟨rfl,rfl⟩:=hv
 simp -implicitDefEqProofs(maxSteps:=999999)(disch:=first|with_reducible rfl|omega|(simp only[nA,nS,nD]<;>omega)|fail)only[go_sem]
theorem equalReading_ev {l r:List (List Int)}{h:H}{x y:V}(hx:SlAt h x 3 (l.map (List.map iv)))(hy:SlAt h y 3 (r.map (List.map iv))):
  Ev fnG fastA (.fn 156 [] []) [x,y] h fun v h'=>v=.bool (decide (l=r))∧h'=h:=by
 have hb:=hx.boundE
 refine Ev_body (fd:=c156) rfl rfl rfl ?_
 by_cases hl:l.length=r.length
 ·have hl':(l.length:Int)=(r.length:Int):=by omega
  simp -implicitDefEqProofs(maxSteps:=999999)(disch:=first|with_reducible rfl|omega|(simp only[nA,nS,nD]<;>omega)|fail)only[c156,go_sem,hx.lenE,hy.lenE,hl',ne_eq,not_true_eq_false]
  refine W_count l.length (fun i s=>∃tm,s=⟨tm,h,[]⟩∧(Opd.t 0).ev tm=x∧(Opd.t 1).ev tm=y∧(Opd.t 12).ev tm=.int .i64 (l.length:Int)∧(Opd.t 13).ev tm=.int .i64 (i:Int)∧l.take i=r.take i)
   ?_ ?_ (i:=0) (Nat.zero_le _) ⟨_,rfl,(by simp[ev_c,ev_put]<;>rfl),(by simp[ev_c,ev_put]<;>rfl),(by simp only[ev_put, ↓reduceIte,Nat.reduceEqDiff,hl]),(by simp only[ev_put];rfl),rfl⟩
  ·rintro i s hi ⟨tm,rfl,e0,e1,e12,e13,e9⟩
   have hi':(i:Int)<(l.length:Int):=by omega
   have hi2:i<r.length:=by omega
   obtain⟨b,o,c,cs,rfl,hc,hq,hg,hn,hn0⟩:=hx.at hi
   obtain⟨b2,o2,c2,cs2,rfl,hc2,hq2,hg2,hn2,hn02⟩:=hy.at hi2
   have h1:(l[i]=r[i])↔l.take (i+1)=r.take (i+1):=by
    rw[List.take_succ_eq_append_getElem hi,List.take_succ_eq_append_getElem hi2,e9];simp only[List.append_cancel_left_eq,List.cons.injEq,and_true]
   have hf:=q_feq_map l[i] r[i] (n:=3) (by simpa using hx.1 _ (List.mem_map_of_mem (List.getElem_mem hi))) (by simpa using hy.1 _ (List.mem_map_of_mem (List.getElem_mem hi2))) true
   by_cases he:l[i]=r[i]
   ·rw[he] at hf
    simp -implicitDefEqProofs(maxSteps:=999999)(disch:=first|with_reducible rfl|omega|(simp only[nA,nS,nD]<;>omega)|fail)only[go_sem,e0,e1,e12,e13,hi',hq (nat_cst i),hq2 (nat_cst i),hc,hc2,hg,hg2,hf,he,ngB,wr_succ]
    exact⟨_,rfl,(by simp[ev_c,ev_put,e0]<;>rfl),(by simp[ev_c,ev_put,e1]<;>rfl),(by simp[ev_c,ev_put,e12]<;>rfl),(by simp[ev_c,ev_put]<;>rfl),h1.1 he⟩
   ·simp -implicitDefEqProofs(maxSteps:=999999)(disch:=first|with_reducible rfl|omega|(simp only[nA,nS,nD]<;>omega)|fail)only[go_sem,e0,e1,e12,e13,hi',hq (nat_cst i),hq2 (nat_cst i),hc,hc2,hg,hg2,hf,he,ngB,wr_succ]
    rw[decide_eq_false]
    intro e;exact he (h1.2 (by rw[e]))
  ·rintro s ⟨tm,rfl,e0,e1,e12,e13,e9⟩
   simp -implicitDefEqProofs(maxSteps:=999999)(disch:=first|with_reducible rfl|omega|(simp only[nA,nS,nD]<;>omega)|fail)only[go_sem,e0,e1,e12,e13,Int.lt_irrefl]
   rw[decide_eq_true]
   rw[List.take_length,hl,List.take_length] at e9;exact e9
 ·have hl':¬(l.length:Int)=(r.length:Int):=by omega
  simp -implicitDefEqProofs(maxSteps:=999999)(disch:=first|with_reducible rfl|omega|(simp only[nA,nS,nD]<;>omega)|fail)only[c156,go_sem,hx.lenE,hy.lenE,hl',ne_eq,not_false_eq_true]
  rw[decide_eq_false]
  intro e;exact hl (by rw[e])
theorem eqReading_ev {l r:List (List Int)}{h:H}{x y:V}(hx:SlAt h x 3 (l.map (List.map iv)))(hy:SlAt h y 3 (r.map (List.map iv)))(Q:V→H→Prop):
  Ev fnG fastA (.fn 100 [] []) [x,y] h Q=Q (.bool (decide (l=r))) h:=by
 refine Ev.det (Ev_body (fd:=c100) rfl rfl rfl ?_) Q
 simp -implicitDefEqProofs(maxSteps:=999999)(disch:=first|with_reducible rfl|omega|(simp only[nA,nS,nD]<;>omega)|fail)only[c100,go_sem]
 refine(equalReading_ev hx hy).mono fun v h' hv=>?_
 obtain⟨rfl,rfl⟩:=hv
 simp -implicitDefEqProofs(maxSteps:=999999)(disch:=first|with_reducible rfl|omega|(simp only[nA,nS,nD]<;>omega)|fail)only[go_sem]
theorem equalGap_ev {l r:List (List Int)}{h:H}{x y:V}(hx:SlAt h x 4 (l.map (List.map iv)))(hy:SlAt h y 4 (r.map (List.map iv))):
  Ev fnG fastA (.fn 157 [] []) [x,y] h fun v h'=>v=.bool (decide (l=r))∧h'=h:=by
 have hb:=hx.boundE
 refine Ev_body (fd:=c157) rfl rfl rfl ?_
 by_cases hl:l.length=r.length
 ·have hl':(l.length:Int)=(r.length:Int):=by omega
  simp -implicitDefEqProofs(maxSteps:=999999)(disch:=first|with_reducible rfl|omega|(simp only[nA,nS,nD]<;>omega)|fail)only[c157,go_sem,hx.lenE,hy.lenE,hl',ne_eq,not_true_eq_false]
  refine W_count l.length (fun i s=>∃tm,s=⟨tm,h,[]⟩∧(Opd.t 0).ev tm=x∧(Opd.t 1).ev tm=y∧(Opd.t 12).ev tm=.int .i64 (l.length:Int)∧(Opd.t 13).ev tm=.int .i64 (i:Int)∧l.take i=r.take i)
   ?_ ?_ (i:=0) (Nat.zero_le _) ⟨_,rfl,(by simp[ev_c,ev_put]<;>rfl),(by simp[ev_c,ev_put]<;>rfl),(by simp only[ev_put, ↓reduceIte,Nat.reduceEqDiff,hl]),(by simp only[ev_put];rfl),rfl⟩
  ·rintro i s hi ⟨tm,rfl,e0,e1,e12,e13,e9⟩
   have hi':(i:Int)<(l.length:Int):=by omega
   have hi2:i<r.length:=by omega
   obtain⟨b,o,c,cs,rfl,hc,hq,hg,hn,hn0⟩:=hx.at hi
   obtain⟨b2,o2,c2,cs2,rfl,hc2,hq2,hg2,hn2,hn02⟩:=hy.at hi2
   have h1:(l[i]=r[i])↔l.take (i+1)=r.take (i+1):=by
    rw[List.take_succ_eq_append_getElem hi,List.take_succ_eq_append_getElem hi2,e9];simp only[List.append_cancel_left_eq,List.cons.injEq,and_true]
   have hf:=q_feq_map l[i] r[i] (n:=4) (by simpa using hx.1 _ (List.mem_map_of_mem (List.getElem_mem hi))) (by simpa using hy.1 _ (List.mem_map_of_mem (List.getElem_mem hi2))) true
   by_cases he:l[i]=r[i]
   ·rw[he] at hf
    simp -implicitDefEqProofs(maxSteps:=999999)(disch:=first|with_reducible rfl|omega|(simp only[nA,nS,nD]<;>omega)|fail)only[go_sem,e0,e1,e12,e13,hi',hq (nat_cst i),hq2 (nat_cst i),hc,hc2,hg,hg2,hf,he,ngB,wr_succ]
    exact⟨_,rfl,(by simp[ev_c,ev_put,e0]<;>rfl),(by simp[ev_c,ev_put,e1]<;>rfl),(by simp[ev_c,ev_put,e12]<;>rfl),(by simp[ev_c,ev_put]<;>rfl),h1.1 he⟩
   ·simp -implicitDefEqProofs(maxSteps:=999999)(disch:=first|with_reducible rfl|omega|(simp only[nA,nS,nD]<;>omega)|fail)only[go_sem,e0,e1,e12,e13,hi',hq (nat_cst i),hq2 (nat_cst i),hc,hc2,hg,hg2,hf,he,ngB,wr_succ]
    rw[decide_eq_false]
    intro e;exact he (h1.2 (by rw[e]))
  ·rintro s ⟨tm,rfl,e0,e1,e12,e13,e9⟩
   simp -implicitDefEqProofs(maxSteps:=999999)(disch:=first|with_reducible rfl|omega|(simp only[nA,nS,nD]<;>omega)|fail)only[go_sem,e0,e1,e12,e13,Int.lt_irrefl]
   rw[decide_eq_true]
   rw[List.take_length,hl,List.take_length] at e9;exact e9
 ·have hl':¬(l.length:Int)=(r.length:Int):=by omega
  simp -implicitDefEqProofs(maxSteps:=999999)(disch:=first|with_reducible rfl|omega|(simp only[nA,nS,nD]<;>omega)|fail)only[c157,go_sem,hx.lenE,hy.lenE,hl',ne_eq,not_false_eq_true]
  rw[decide_eq_false]
  intro e;exact hl (by rw[e])
theorem eqGap_ev {l r:List (List Int)}{h:H}{x y:V}(hx:SlAt h x 4 (l.map (List.map iv)))(hy:SlAt h y 4 (r.map (List.map iv)))(Q:V→H→Prop):
  Ev fnG fastA (.fn 101 [] []) [x,y] h Q=Q (.bool (decide (l=r))) h:=by
 refine Ev.det (Ev_body (fd:=c101) rfl rfl rfl ?_) Q
 simp -implicitDefEqProofs(maxSteps:=999999)(disch:=first|with_reducible rfl|omega|(simp only[nA,nS,nD]<;>omega)|fail)only[c101,go_sem]
 refine(equalGap_ev hx hy).mono fun v h' hv=>?_
 obtain⟨rfl,rfl⟩:=hv
 simp -implicitDefEqProofs(maxSteps:=999999)(disch:=first|with_reducible rfl|omega|(simp only[nA,nS,nD]<;>omega)|fail)only[go_sem]
theorem dupClock_ev {h:H}{x:V}{l:List Ck}(hw:h.wf)(hx:SlAt h x 4 (l.map encC))(hl:l.length≤1000000)(Q:V→H→Prop):
  Ev fnG fastA (.fn 72 [] []) [x] h Q=Q (.sl h.next 0 l.length (.fix l.length)) (h.add (.cells .rw (l.map encC).flatten)):=by
 refine Ev.det (Ev_body (fd:=c72) rfl rfl rfl ?_) Q
 simp -implicitDefEqProofs(maxSteps:=999999)(disch:=first|with_reducible rfl|omega|(simp only[nA,nS,nD]<;>omega)|fail)only[c72,go_sem,hx.lenE,a_msl_0n]
 have:=dup_core (by_:=32) (z:=[.int .i64 0,.int .i64 0,.int .i64 0,.int .i64 0]) hx hw rfl (by omega) (allOne_flat (fun a=>rfl) l)
 rw[List.length_map] at this
 simp -implicitDefEqProofs(maxSteps:=999999)(disch:=first|with_reducible rfl|omega|(simp only[nA,nS,nD]<;>omega)|fail)only[go_sem,this]
theorem dupReading_ev {h:H}{x:V}{l:List Rd}(hw:h.wf)(hx:SlAt h x 3 (l.map encR))(hl:l.length≤1000000)(Q:V→H→Prop):
  Ev fnG fastA (.fn 73 [] []) [x] h Q=Q (.sl h.next 0 l.length (.fix l.length)) (h.add (.cells .rw (l.map encR).flatten)):=by
 refine Ev.det (Ev_body (fd:=c73) rfl rfl rfl ?_) Q
 simp -implicitDefEqProofs(maxSteps:=999999)(disch:=first|with_reducible rfl|omega|(simp only[nA,nS,nD]<;>omega)|fail)only[c73,go_sem,hx.lenE,a_msl_0n]
 have:=dup_core (by_:=24) (z:=[.int .i64 0,.int .i64 0,.int .i64 0]) hx hw rfl (by omega) (allOne_flat (fun a=>rfl) l)
 rw[List.length_map] at this
 simp -implicitDefEqProofs(maxSteps:=999999)(disch:=first|with_reducible rfl|omega|(simp only[nA,nS,nD]<;>omega)|fail)only[go_sem,this]
theorem dupGap_ev {h:H}{x:V}{l:List Gp}(hw:h.wf)(hx:SlAt h x 4 (l.map encG))(hl:l.length≤1000000)(Q:V→H→Prop):
  Ev fnG fastA (.fn 74 [] []) [x] h Q=Q (.sl h.next 0 l.length (.fix l.length)) (h.add (.cells .rw (l.map encG).flatten)):=by
 refine Ev.det (Ev_body (fd:=c74) rfl rfl rfl ?_) Q
 simp -implicitDefEqProofs(maxSteps:=999999)(disch:=first|with_reducible rfl|omega|(simp only[nA,nS,nD]<;>omega)|fail)only[c74,go_sem,hx.lenE,a_msl_0n]
 have:=dup_core (by_:=32) (z:=[.int .i64 0,.int .i64 0,.int .i64 0,.int .i64 0]) hx hw rfl (by omega) (allOne_flat (fun a=>rfl) l)
 rw[List.length_map] at this
 simp -implicitDefEqProofs(maxSteps:=999999)(disch:=first|with_reducible rfl|omega|(simp only[nA,nS,nD]<;>omega)|fail)only[go_sem,this]
end Go.Ab.Tryz
namespace Go.Ab.Tryz
open Go.Proofs
def greatA (a:At):Bool:=decide (8<a.cks.length∨12<a.rds.length∨9<a.gps.length)
theorem great_ev {h:H}(hw:h.wf){a:At}{C R G:V}(x:AtAt h C R G a)(Q:V→H→Prop)(q:∀h',h.Sub h'→Q (.bool (greatA a)) h'):Ev fnG fastA (.fn 54 [] []) [.agg (atV a C R G)] h Q:=by
 have q':=q _ ((by repeat(first|assumption|exact H.Sub.refl (by assumption)|refine H.Sub.add ?_ _|refine H.Sub.set ?_ (by first|omega|(simp only[H.next_add,H.next_set,H.next_del]<;>omega)) (by first|omega|(simp only[H.next_add,H.next_set,H.next_del]<;>omega)) (by assumption) _)):h.Sub (h.add (.cells .rw (atV a C R G))))
 have hlC:=x.c.lenE
 have hlR:=x.r.lenE
 have hlG:=x.g.lenE
 refine Ev_body (fd:=c54) rfl rfl rfl ?_
 by_cases k1:8<(a.cks.length:Int)
 ·simp -implicitDefEqProofs(maxSteps:=999999)(disch:=first|with_reducible rfl|omega|(simp only[nA,nS,nD]<;>omega)|fail)only[c54,go_sem,hlC,hlR,hlG,k1]
  have e:greatA a=true:=by simp only[greatA,decide_eq_true_eq];omega
  rw[e] at q';exact q'
 by_cases k2:12<(a.rds.length:Int)
 ·simp -implicitDefEqProofs(maxSteps:=999999)(disch:=first|with_reducible rfl|omega|(simp only[nA,nS,nD]<;>omega)|fail)only[c54,go_sem,hlC,hlR,hlG,k1,k2]
  have e:greatA a=true:=by simp only[greatA,decide_eq_true_eq];omega
  rw[e] at q';exact q'
 ·simp -implicitDefEqProofs(maxSteps:=999999)(disch:=first|with_reducible rfl|omega|(simp only[nA,nS,nD]<;>omega)|fail)only[c54,go_sem,hlC,hlR,hlG,k1,k2]
  have e:greatA a=decide (9<(a.gps.length:Int)):=by rw[Bool.eq_iff_iff];simp only[greatA,decide_eq_true_eq];omega
  rw[e] at q';exact q'
structure AtNew (h0 h:H)(C R G:V)(a:At):Prop where
 s:h0.Sub h
 is:∃b1 b2 b3,C=.sl b1 0 a.cks.length (.fix a.cks.length)∧R=.sl b2 0 a.rds.length (.fix a.rds.length)∧G=.sl b3 0 a.gps.length (.fix a.gps.length)∧h0.next≤b1∧b1<b2∧b2<b3∧b3<h.next∧
  h.get b1=some (.cells .rw (a.cks.map encC).flatten)∧h.get b2=some (.cells .rw (a.rds.map encR).flatten)∧h.get b3=some (.cells .rw (a.gps.map encG).flatten)
structure SmallA (a:At):Prop where
 c:a.cks.length≤100
 r:a.rds.length≤100
 g:a.gps.length≤100
theorem AtNew.at_ {h0 h:H}{C R G:V}{a:At}(n:AtNew h0 h C R G a)(l:SmallA a):AtAt h C R G a:=by
 obtain⟨b1,b2,b3,rfl,rfl,rfl,_,_,_,_,g1,g2,g3⟩:=n.is
 exact⟨SlAt.full (by simp) g1 (fun r hr=>by obtain⟨c,_,rfl⟩:=List.mem_map.1 hr;rfl) (by rw[List.length_map];have:=l.c;omega),
  SlAt.full (by simp) g2 (fun r hr=>by obtain⟨c,_,rfl⟩:=List.mem_map.1 hr;rfl) (by rw[List.length_map];have:=l.r;omega),
  SlAt.full (by simp) g3 (fun r hr=>by obtain⟨c,_,rfl⟩:=List.mem_map.1 hr;rfl) (by rw[List.length_map];have:=l.g;omega)⟩
set_option maxHeartbeats 1000000 in
theorem own_ev {h:H}(hw:h.wf){a:At}{C R G:V}(x:AtAt h C R G a)(l:SmallA a)(Q:V→H→Prop)(q:∀C' R' G' h',AtNew h h' C' R' G' a→Q (.agg (atV a C' R' G')) h'):Ev fnG fastA (.fn 17 [] []) [.agg (atV a C R G)] h Q:=by
 obtain⟨l1,l2,l3⟩:=l
 have oC:=x.c.one;have oR:=x.r.one;have oG:=x.g.one
 refine Ev_body (fd:=c17) rfl rfl rfl ?_
 have s2:h.Sub ((h.add (.cells .rw (atV a C R G))).add (.cells .rw [.int .i64 0,.int .i64 0,.nils,.nils,.nils])):=(by repeat(first|assumption|exact H.Sub.refl (by assumption)|refine H.Sub.add ?_ _|refine H.Sub.set ?_ (by first|omega|(simp only[H.next_add,H.next_set,H.next_del]<;>omega)) (by first|omega|(simp only[H.next_add,H.next_set,H.next_del]<;>omega)) (by assumption) _))
 have s3:=s2.add (.cells .rw (a.cks.map encC).flatten)
 have s4:=s3.add (.cells .rw (a.rds.map encR).flatten)
 have s5:=s4.add (.cells .rw (a.gps.map encG).flatten)
 simp -implicitDefEqProofs(maxSteps:=999999)(disch:=first|with_reducible rfl|omega|(simp only[nA,nS,nD]<;>omega)|fail)only[c17,go_sem,dupClock_ev s2.wf (x.c.mono s2) (by omega),dupReading_ev s3.wf (x.r.mono s3) (by omega),dupGap_ev s4.wf (x.g.mono s4) (by omega),evQ_ld]
 refine q _ _ _ _ ⟨(by repeat(first|assumption|exact H.Sub.refl (by assumption)|refine H.Sub.add ?_ _|refine H.Sub.set ?_ (by first|omega|(simp only[H.next_add,H.next_set,H.next_del]<;>omega)) (by first|omega|(simp only[H.next_add,H.next_set,H.next_del]<;>omega)) (by assumption) _)),h.next+1+1,h.next+1+1+1,h.next+1+1+1+1,rfl,rfl,rfl,by omega,by omega,by omega,by simp only[H.next_set,H.next_add];omega,?_,?_,?_⟩
 all_goals simp -implicitDefEqProofs(maxSteps:=999999)(disch:=first|with_reducible rfl|omega|(simp only[nA,nS,nD]<;>omega)|fail)only[go_sem]
def rowCk (c:Ck):List Int:=[c.sl,c.sh,c.gl,c.gh]
def rowRd (r:Rd):List Int:=[r.ck,r.ev,r.sh]
def rowGp (g:Gp):List Int:=[g.fr,g.to,g.lo,g.hi]
theorem map_inj {α:Type}{f:α→List Int}(hf:∀a b,f a=f b→a=b){a b:List α}:a.map f=b.map f↔a=b:=⟨fun h=>by
 induction a generalizing b with
 |nil=>cases b with
  |nil=>rfl
  |cons y b=>cases h
 |cons x a ih=>cases b with
  |nil=>cases h
  |cons y b=>
   simp only[List.map_cons,List.cons.injEq] at h
   rw[hf _ _ h.1,ih h.2],fun h=>by rw[h]⟩
theorem rowCk_inj (a b:Ck)(h:rowCk a=rowCk b):a=b:=by cases a;cases b;simpa[rowCk] using h
theorem rowRd_inj (a b:Rd)(h:rowRd a=rowRd b):a=b:=by cases a;cases b;simpa[rowRd] using h
theorem rowGp_inj (a b:Gp)(h:rowGp a=rowGp b):a=b:=by cases a;cases b;simpa[rowGp] using h
theorem rowCk_enc (l:List Ck):l.map encC=(l.map rowCk).map (List.map iv):=by rw[List.map_map];rfl
theorem rowRd_enc (l:List Rd):l.map encR=(l.map rowRd).map (List.map iv):=by rw[List.map_map];rfl
theorem rowGp_enc (l:List Gp):l.map encG=(l.map rowGp).map (List.map iv):=by rw[List.map_map];rfl
def sameB (a b:At):Bool:=decide (a.mins=b.mins)&&decide (a.evs=b.evs)&&decide (a.cks.map rowCk=b.cks.map rowCk)&&decide (a.rds.map rowRd=b.rds.map rowRd)&&decide (a.gps.map rowGp=b.gps.map rowGp)
theorem sameB_iff {a b:At}:sameB a b=true↔a=b:=by
 unfold sameB
 simp only[Bool.and_eq_true,decide_eq_true_eq,map_inj rowCk_inj,map_inj rowRd_inj,map_inj rowGp_inj]
 constructor
 ·rintro⟨⟨⟨⟨h1,h2⟩,h3⟩,h4⟩,h5⟩;cases a;cases b;simp_all
 ·rintro rfl;exact⟨⟨⟨⟨rfl,rfl⟩,rfl⟩,rfl⟩,rfl⟩
set_option maxHeartbeats 1000000 in
theorem same_ev {h:H}(hw:h.wf){a b:At}{C R G C' R' G':V}(x:AtAt h C R G a)(y:AtAt h C' R' G' b)(Q:V→H→Prop)(q:∀h',h.Sub h'→Q (.bool (sameB a b)) h'):Ev fnG fastA (.fn 35 [] []) [.agg (atV a C R G),.agg (atV b C' R' G')] h Q:=by
 have s2:h.Sub ((h.add (.cells .rw (atV a C R G))).add (.cells .rw (atV b C' R' G'))):=(by repeat(first|assumption|exact H.Sub.refl (by assumption)|refine H.Sub.add ?_ _|refine H.Sub.set ?_ (by first|omega|(simp only[H.next_add,H.next_set,H.next_del]<;>omega)) (by first|omega|(simp only[H.next_add,H.next_set,H.next_del]<;>omega)) (by assumption) _))
 have q':=q _ s2
 have x2:=x.mono s2
 have y2:=y.mono s2
 have xc:=x2.c;have yc:=y2.c;have xr:=x2.r;have yr:=y2.r;have xg:=x2.g;have yg:=y2.g
 rw[rowCk_enc] at xc yc
 rw[rowRd_enc] at xr yr
 rw[rowGp_enc] at xg yg
 have e1:=fun Q=>eqClock_ev xc yc Q
 have e2:=fun Q=>eqReading_ev xr yr Q
 have e3:=fun Q=>eqGap_ev xg yg Q
 refine Ev_body (fd:=c35) rfl rfl rfl ?_
 obtain⟨p1,h1⟩:∃p,decide (a.mins=b.mins)=p:=⟨_,rfl⟩
 obtain⟨p2,h2⟩:∃p,decide (a.evs=b.evs)=p:=⟨_,rfl⟩
 obtain⟨p3,h3⟩:∃p,decide (a.cks.map rowCk=b.cks.map rowCk)=p:=⟨_,rfl⟩
 obtain⟨p4,h4⟩:∃p,decide (a.rds.map rowRd=b.rds.map rowRd)=p:=⟨_,rfl⟩
 obtain⟨p5,h5⟩:∃p,decide (a.gps.map rowGp=b.gps.map rowGp)=p:=⟨_,rfl⟩
 rw[h3] at e1
 rw[h4] at e2
 rw[h5] at e3
 unfold sameB at q'
 rw[h1,h2,h3,h4,h5] at q'
 cases p1<;>cases p2<;>cases p3<;>cases p4<;>(simp -implicitDefEqProofs(maxSteps:=999999)(disch:=first|with_reducible rfl|omega|(simp only[nA,nS,nD]<;>omega)|fail)only[c35,go_sem,h1,h2,e1,e2,e3];exact q')
end Go.Ab.Tryz
namespace Go.Ab.Tryz
open Go.Proofs
structure ThI (h:H)(a:At)(C R G:V)(a':At)(v:Nat→V)(z:H):Prop where
 s:h.Sub z
 sl:Sl6 h z (h.next+3) v sz6 (rowsM a' [] [] [])
 g3:z.get (h.next+2)=some (.cells .rw [.int .i64 a.mins,.int .i64 a.evs,v 0,v 1,v 2])
 g1:z.get h.next=some (.cells .rw (atV a C R G))
 g2:z.get (h.next+1)=some (.cells .rw [.int .i64 0,.int .i64 0,.nils,.nils,.nils])
 nx:h.next+3≤z.next
theorem ThI.mono {h:H}{a:At}{C R G:V}{a':At}{v:Nat→V}{z z':H}(k:ThI h a C R G a' v z)(s:z.Sub z'):ThI h a C R G a' v z':=
 ⟨k.s.trans s,k.sl.mono s,s.get k.g3,s.get k.g1,s.get k.g2,Nat.le_trans k.nx s.next⟩
theorem ThI.put {h:H}(hw:h.wf){a:At}{C R G:V}{a' a'':At}{v v':Nat→V}{z z5:H}(k:ThI h a C R G a' v z){S:Nat→Prop}(kk:Keeps S z z5)(hS:∀b,S b→h.next+3≤b)(sl:Sl6 h z5 (h.next+3) v' sz6 (rowsM a'' [] [] [])):
  ThI h a C R G a'' v' (z5.set (h.next+2) (.cells .rw [.int .i64 a.mins,.int .i64 a.evs,v' 0,v' 1,v' 2])):=by
 have hn:∀b,b<h.next+3→¬S b:=fun b hb q=>by have:=hS b q;omega
 have s5:=(sl.o 0 (by omega)).1
 have l5:=kk.1
 have lz:=k.nx
 have sz:=s5.set (b:=h.next+2) (by omega) (by omega) hw (.cells .rw [.int .i64 a.mins,.int .i64 a.evs,v' 0,v' 1,v' 2])
 have k2:=Keeps.set z5 (h.next+2) (.cells .rw [.int .i64 a.mins,.int .i64 a.evs,v' 0,v' 1,v' 2])
 exact⟨sz,sl.keep k2 sz fun b hb=>by omega,get_set_same rfl,k2.2 _ _ (kk.2 _ _ k.g1 (hn _ (by omega))) (by omega),k2.2 _ _ (kk.2 _ _ k.g2 (hn _ (by omega))) (by omega),by rw[H.next_set];omega⟩
theorem take_at {α:Type}{l:List α}{i:Nat}(hi:i<l.length):l.take (i+1)=l.take i++[l[i]]:=List.take_succ_eq_append_getElem hi
set_option maxRecDepth 10000 in
set_option maxHeartbeats 4000000 in
theorem theirs_ev {h:H}(hw:h.wf){a:At}{C R G:V}(x:AtAt h C R G a)(l:SmallA a)(Q:V→H→Prop)(q:∀C' R' G' h',h.Sub h'→AtAt h' C' R' G' a→Q (.agg (atV a C' R' G')) h'):Ev fnG fastA (.fn 24 [] []) [.agg (atV a C R G)] h Q:=by
 obtain⟨l1,l2,l3⟩:=l
 have oC:=x.c.one;have oR:=x.r.one;have oG:=x.g.one
 have hlC:=x.c.lenE;have hlR:=x.r.lenE;have hlG:=x.g.lenE
 have k0:ThI h a C R G ⟨a.mins,a.evs,[],[],[]⟩ (fun _=>.nils) (((h.add (.cells .rw (atV a C R G))).add (.cells .rw [.int .i64 0,.int .i64 0,.nils,.nils,.nils])).add (.cells .rw [.int .i64 a.mins,.int .i64 a.evs,.nils,.nils,.nils])):=by
  refine⟨(by repeat(first|assumption|exact H.Sub.refl (by assumption)|refine H.Sub.add ?_ _|refine H.Sub.set ?_ (by first|omega|(simp only[H.next_add,H.next_set,H.next_del]<;>omega)) (by first|omega|(simp only[H.next_add,H.next_set,H.next_del]<;>omega)) (by assumption) _)),⟨fun i hi=>?_,fun i hi b hb=>(blkOf_nils hb).elim,fun i j _ _ _ b hb=>(blkOf_nils hb).elim⟩,by simp -implicitDefEqProofs(maxSteps:=999999)(disch:=first|with_reducible rfl|omega|(simp only[nA,nS,nD]<;>omega)|fail)only[go_sem],by simp -implicitDefEqProofs(maxSteps:=999999)(disch:=first|with_reducible rfl|omega|(simp only[nA,nS,nD]<;>omega)|fail)only[go_sem],by simp -implicitDefEqProofs(maxSteps:=999999)(disch:=first|with_reducible rfl|omega|(simp only[nA,nS,nD]<;>omega)|fail)only[go_sem],by simp only[H.next_add];omega⟩
  have:rowsM ⟨a.mins,a.evs,[],[],[]⟩ [] [] [] i=[]:=by rcases(by omega:i=0∨i=1∨i=2∨i=3∨i=4∨i=5) with rfl|rfl|rfl|rfl|rfl|rfl<;>rfl
  rw[this];exact(OwnSl.nil ((by repeat(first|assumption|exact H.Sub.refl (by assumption)|refine H.Sub.add ?_ _|refine H.Sub.set ?_ (by first|omega|(simp only[H.next_add,H.next_set,H.next_del]<;>omega)) (by first|omega|(simp only[H.next_add,H.next_set,H.next_del]<;>omega)) (by assumption) _))) _).c
 refine Ev_body (fd:=c24) rfl rfl rfl ?_
 simp -implicitDefEqProofs(maxSteps:=999999)(disch:=first|with_reducible rfl|omega|(simp only[nA,nS,nD]<;>omega)|fail)only[c24,go_sem,hlC]
 generalize((h.add (.cells .rw (atV a C R G))).add (.cells .rw [.int .i64 0,.int .i64 0,.nils,.nils,.nils])).add (.cells .rw [.int .i64 a.mins,.int .i64 a.evs,.nils,.nils,.nils])=h3 at k0⊢
 rw[show h.next+1+1=h.next+2 from rfl]
 refine W_count a.cks.length (fun i s=>∃tm z v,s=⟨tm,z,[]⟩∧ThI h a C R G ⟨a.mins,a.evs,a.cks.take i,[],[]⟩ v z∧(Opd.t 1).ev tm=.ptr h.next 0∧(Opd.t 2).ev tm=.ptr (h.next+1) 0∧(Opd.t 3).ev tm=.ptr (h.next+2) 0∧(Opd.t 16).ev tm=C∧(Opd.t 17).ev tm=.int .i64 (a.cks.length:Int)∧(Opd.t 18).ev tm=.int .i64 (i:Int)) ?_ ?_ (i:=0) (Nat.zero_le _)
  ⟨_,_,_,rfl,k0,(by simp[ev_c,ev_put]<;>rfl),(by simp[ev_c,ev_put]<;>rfl),(by simp[ev_c,ev_put]<;>rfl),(by simp[ev_c,ev_put]<;>rfl),(by simp[ev_c,ev_put]<;>rfl),(by simp[ev_c,ev_put]<;>rfl)⟩
 ·rintro i s hi ⟨tm,z,v,rfl,k,e1,e2,e3,e16,e17,e18⟩
  have hi':(i:Int)<(a.cks.length:Int):=by omega
  obtain⟨b,o,cc,cs,eC,hc,hq,hg,_,_⟩:=(x.c.mono k.s).at hi
  have hst:=take_at hi
  generalize a.cks[i]=c at hg hst
  simp only[encC] at hg
  have s1:=(H.Sub.refl k.s.wf).add (.cells .rw [.int .i64 c.sl,.int .i64 c.sh,.int .i64 c.gl,.int .i64 c.gh])
  have k1:=k.mono s1
  have g5:(z.add (.cells .rw [.int .i64 c.sl,.int .i64 c.sh,.int .i64 c.gl,.int .i64 c.gh])).get z.next=some (.cells .rw [.int .i64 c.sl,.int .i64 c.sh,.int .i64 c.gl,.int .i64 c.gh]):=get_add_new rfl
  have nz1:=H.next_add z (.cells .rw [.int .i64 c.sl,.int .i64 c.sh,.int .i64 c.gl,.int .i64 c.gh])
  obtain⟨z1,hz1⟩:∃z1,z.add (.cells .rw [.int .i64 c.sl,.int .i64 c.sh,.int .i64 c.gl,.int .i64 c.gh])=z1:=⟨_,rfl⟩
  rw[hz1] at s1 k1 g5 nz1
  have s2:=(H.Sub.refl k1.s.wf).add (.cells .rw [.int .i64 c.sl,.int .i64 c.sh,.int .i64 c.gl,.int .i64 c.gh])
  have k2:=k1.mono s2
  have o2:=k2.sl.o 0 (by decide)
  have sn:SlAt (z1.add (.cells .rw [.int .i64 c.sl,.int .i64 c.sh,.int .i64 c.gl,.int .i64 c.gh])) (.sl z1.next 0 1 (.fix 1)) 4 [encC c]:=SlAt.new _ rfl rfl rfl (by simp[encC]) (by simp)
  have lr:(rowsM ⟨a.mins,a.evs,a.cks.take i,[],[]⟩ [] [] [] 0).length≤100:=by show((a.cks.take i).map encC).length≤100;rw[List.length_map,List.length_take];omega
  simp -implicitDefEqProofs(maxSteps:=999999)(disch:=first|with_reducible rfl|omega|(simp only[nA,nS,nD]<;>omega)|fail)only[go_sem,e1,e2,e3,e16,e17,e18,hi',hq (nat_cst i),hc,hg,hz1,cells_of k1.g3,cells_of g5]
  generalize z1.add (.cells .rw [.int .i64 c.sl,.int .i64 c.sh,.int .i64 c.gl,.int .i64 c.gh])=z2 at s2 k2 o2 sn⊢
  refine o2.app1 (by_:=32) (r:=encC c) hw rfl (by decide) sn rfl (by omega) (by omega) fun w z5 o5 n5 k5=>?_
  have ow:=o5.one
  have nb:¬blkOf (v 0) (h.next+2):=fun hb=>by have:=k2.sl.lo 0 (by decide) _ hb;omega
  have g5':=k5.2 _ _ k2.g3 nb
  have km:=k2.put hw k5 (fun b hb=>k2.sl.lo 0 (by decide) b hb) ((k2.sl.app (by decide) o5 n5 k2.nx k5).rw rows0)
  simp -implicitDefEqProofs(maxSteps:=999999)(disch:=first|with_reducible rfl|omega|(simp only[nA,nS,nD]<;>omega)|fail)only[go_sem,e1,e2,e3,e16,e17,e18,g5',ow,cells_one ow,wr_succ]
  exact⟨_,_,_,rfl,by rw[hst];exact km,(by simp[ev_c,ev_put,e1]<;>rfl),(by simp[ev_c,ev_put,e2]<;>rfl),(by simp[ev_c,ev_put,e3]<;>rfl),(by simp[ev_c,ev_put,e16]<;>rfl),(by simp[ev_c,ev_put,e17]<;>rfl),(by simp[ev_c,ev_put]<;>rfl)⟩
 rintro s ⟨tm,z,v,rfl,k,e1,e2,e3,e16,e17,e18⟩
 have hi':¬((a.cks.length:Int)<(a.cks.length:Int)):=by omega
 rw[List.take_of_length_le (Nat.le_refl _)] at k
 simp -implicitDefEqProofs(maxSteps:=999999)(disch:=first|with_reducible rfl|omega|(simp only[nA,nS,nD]<;>omega)|fail)only[go_sem,e1,e2,e3,e16,e17,e18,hi',cells_of k.g1,hlR]
 refine W_count a.rds.length (fun i s=>∃tm z v,s=⟨tm,z,[]⟩∧ThI h a C R G ⟨a.mins,a.evs,a.cks,a.rds.take i,[]⟩ v z∧(Opd.t 1).ev tm=.ptr h.next 0∧(Opd.t 2).ev tm=.ptr (h.next+1) 0∧(Opd.t 3).ev tm=.ptr (h.next+2) 0∧(Opd.t 30).ev tm=R∧(Opd.t 31).ev tm=.int .i64 (a.rds.length:Int)∧(Opd.t 32).ev tm=.int .i64 (i:Int)) ?_ ?_ (i:=0) (Nat.zero_le _)
  ⟨_,_,_,rfl,k,(by simp[ev_c,ev_put,e1]<;>rfl),(by simp[ev_c,ev_put,e2]<;>rfl),(by simp[ev_c,ev_put,e3]<;>rfl),(by simp[ev_c,ev_put]<;>rfl),(by simp[ev_c,ev_put]<;>rfl),(by simp[ev_c,ev_put]<;>rfl)⟩
 ·clear k
  rintro i s hi ⟨tm,z,v,rfl,k,e1,e2,e3,e30,e31,e32⟩
  have hi':(i:Int)<(a.rds.length:Int):=by omega
  obtain⟨b,o,cc,cs,eC,hc,hq,hg,_,_⟩:=(x.r.mono k.s).at hi
  have hst:=take_at hi
  generalize a.rds[i]=c at hg hst
  simp only[encR] at hg
  have s1:=(H.Sub.refl k.s.wf).add (.cells .rw [.int .i64 c.ck,.int .i64 c.ev,.int .i64 c.sh])
  have k1:=k.mono s1
  have g5:(z.add (.cells .rw [.int .i64 c.ck,.int .i64 c.ev,.int .i64 c.sh])).get z.next=some (.cells .rw [.int .i64 c.ck,.int .i64 c.ev,.int .i64 c.sh]):=get_add_new rfl
  have nz1:=H.next_add z (.cells .rw [.int .i64 c.ck,.int .i64 c.ev,.int .i64 c.sh])
  obtain⟨z1,hz1⟩:∃z1,z.add (.cells .rw [.int .i64 c.ck,.int .i64 c.ev,.int .i64 c.sh])=z1:=⟨_,rfl⟩
  rw[hz1] at s1 k1 g5 nz1
  have s2:=(H.Sub.refl k1.s.wf).add (.cells .rw [.int .i64 c.ck,.int .i64 c.ev,.int .i64 c.sh])
  have k2:=k1.mono s2
  have o2:=k2.sl.o 1 (by decide)
  have sn:SlAt (z1.add (.cells .rw [.int .i64 c.ck,.int .i64 c.ev,.int .i64 c.sh])) (.sl z1.next 0 1 (.fix 1)) 3 [encR c]:=SlAt.new _ rfl rfl rfl (by simp[encR]) (by simp)
  have lr:(rowsM ⟨a.mins,a.evs,a.cks,a.rds.take i,[]⟩ [] [] [] 1).length≤100:=by show((a.rds.take i).map encR).length≤100;rw[List.length_map,List.length_take];omega
  simp -implicitDefEqProofs(maxSteps:=999999)(disch:=first|with_reducible rfl|omega|(simp only[nA,nS,nD]<;>omega)|fail)only[go_sem,e1,e2,e3,e30,e31,e32,hi',hq (nat_cst i),hc,hg,hz1,cells_of k1.g3,cells_of g5]
  generalize z1.add (.cells .rw [.int .i64 c.ck,.int .i64 c.ev,.int .i64 c.sh])=z2 at s2 k2 o2 sn⊢
  refine o2.app1 (by_:=24) (r:=encR c) hw rfl (by decide) sn rfl (by omega) (by omega) fun w z5 o5 n5 k5=>?_
  have ow:=o5.one
  have nb:¬blkOf (v 1) (h.next+2):=fun hb=>by have:=k2.sl.lo 1 (by decide) _ hb;omega
  have g5':=k5.2 _ _ k2.g3 nb
  have km:=k2.put hw k5 (fun b hb=>k2.sl.lo 1 (by decide) b hb) ((k2.sl.app (by decide) o5 n5 k2.nx k5).rw rows1)
  simp -implicitDefEqProofs(maxSteps:=999999)(disch:=first|with_reducible rfl|omega|(simp only[nA,nS,nD]<;>omega)|fail)only[go_sem,e1,e2,e3,e30,e31,e32,g5',ow,cells_one ow,wr_succ]
  exact⟨_,_,_,rfl,by rw[hst];exact km,(by simp[ev_c,ev_put,e1]<;>rfl),(by simp[ev_c,ev_put,e2]<;>rfl),(by simp[ev_c,ev_put,e3]<;>rfl),(by simp[ev_c,ev_put,e30]<;>rfl),(by simp[ev_c,ev_put,e31]<;>rfl),(by simp[ev_c,ev_put]<;>rfl)⟩
 clear k
 rintro s ⟨tm,z,v,rfl,k,e1,e2,e3,e30,e31,e32⟩
 have hi':¬((a.rds.length:Int)<(a.rds.length:Int)):=by omega
 rw[List.take_of_length_le (Nat.le_refl _)] at k
 simp -implicitDefEqProofs(maxSteps:=999999)(disch:=first|with_reducible rfl|omega|(simp only[nA,nS,nD]<;>omega)|fail)only[go_sem,e1,e2,e3,e30,e31,e32,hi',cells_of k.g1,hlG]
 refine W_count a.gps.length (fun i s=>∃tm z v,s=⟨tm,z,[]⟩∧ThI h a C R G ⟨a.mins,a.evs,a.cks,a.rds,a.gps.take i⟩ v z∧(Opd.t 1).ev tm=.ptr h.next 0∧(Opd.t 2).ev tm=.ptr (h.next+1) 0∧(Opd.t 3).ev tm=.ptr (h.next+2) 0∧(Opd.t 44).ev tm=G∧(Opd.t 45).ev tm=.int .i64 (a.gps.length:Int)∧(Opd.t 46).ev tm=.int .i64 (i:Int)) ?_ ?_ (i:=0) (Nat.zero_le _)
  ⟨_,_,_,rfl,k,(by simp[ev_c,ev_put,e1]<;>rfl),(by simp[ev_c,ev_put,e2]<;>rfl),(by simp[ev_c,ev_put,e3]<;>rfl),(by simp[ev_c,ev_put]<;>rfl),(by simp[ev_c,ev_put]<;>rfl),(by simp[ev_c,ev_put]<;>rfl)⟩
 ·clear k
  rintro i s hi ⟨tm,z,v,rfl,k,e1,e2,e3,e44,e45,e46⟩
  have hi':(i:Int)<(a.gps.length:Int):=by omega
  obtain⟨b,o,cc,cs,eC,hc,hq,hg,_,_⟩:=(x.g.mono k.s).at hi
  have hst:=take_at hi
  generalize a.gps[i]=c at hg hst
  simp only[encG] at hg
  have s1:=(H.Sub.refl k.s.wf).add (.cells .rw [.int .i64 c.fr,.int .i64 c.to,.int .i64 c.lo,.int .i64 c.hi])
  have k1:=k.mono s1
  have g5:(z.add (.cells .rw [.int .i64 c.fr,.int .i64 c.to,.int .i64 c.lo,.int .i64 c.hi])).get z.next=some (.cells .rw [.int .i64 c.fr,.int .i64 c.to,.int .i64 c.lo,.int .i64 c.hi]):=get_add_new rfl
  have nz1:=H.next_add z (.cells .rw [.int .i64 c.fr,.int .i64 c.to,.int .i64 c.lo,.int .i64 c.hi])
  obtain⟨z1,hz1⟩:∃z1,z.add (.cells .rw [.int .i64 c.fr,.int .i64 c.to,.int .i64 c.lo,.int .i64 c.hi])=z1:=⟨_,rfl⟩
  rw[hz1] at s1 k1 g5 nz1
  have s2:=(H.Sub.refl k1.s.wf).add (.cells .rw [.int .i64 c.fr,.int .i64 c.to,.int .i64 c.lo,.int .i64 c.hi])
  have k2:=k1.mono s2
  have o2:=k2.sl.o 2 (by decide)
  have sn:SlAt (z1.add (.cells .rw [.int .i64 c.fr,.int .i64 c.to,.int .i64 c.lo,.int .i64 c.hi])) (.sl z1.next 0 1 (.fix 1)) 4 [encG c]:=SlAt.new _ rfl rfl rfl (by simp[encG]) (by simp)
  have lr:(rowsM ⟨a.mins,a.evs,a.cks,a.rds,a.gps.take i⟩ [] [] [] 2).length≤100:=by show((a.gps.take i).map encG).length≤100;rw[List.length_map,List.length_take];omega
  simp -implicitDefEqProofs(maxSteps:=999999)(disch:=first|with_reducible rfl|omega|(simp only[nA,nS,nD]<;>omega)|fail)only[go_sem,e1,e2,e3,e44,e45,e46,hi',hq (nat_cst i),hc,hg,hz1,cells_of k1.g3,cells_of g5]
  generalize z1.add (.cells .rw [.int .i64 c.fr,.int .i64 c.to,.int .i64 c.lo,.int .i64 c.hi])=z2 at s2 k2 o2 sn⊢
  refine o2.app1 (by_:=32) (r:=encG c) hw rfl (by decide) sn rfl (by omega) (by omega) fun w z5 o5 n5 k5=>?_
  have ow:=o5.one
  have nb:¬blkOf (v 2) (h.next+2):=fun hb=>by have:=k2.sl.lo 2 (by decide) _ hb;omega
  have g5':=k5.2 _ _ k2.g3 nb
  have km:=k2.put hw k5 (fun b hb=>k2.sl.lo 2 (by decide) b hb) ((k2.sl.app (by decide) o5 n5 k2.nx k5).rw rows2)
  simp -implicitDefEqProofs(maxSteps:=999999)(disch:=first|with_reducible rfl|omega|(simp only[nA,nS,nD]<;>omega)|fail)only[go_sem,e1,e2,e3,e44,e45,e46,g5',ow,cells_one ow,wr_succ]
  exact⟨_,_,_,rfl,by rw[hst];exact km,(by simp[ev_c,ev_put,e1]<;>rfl),(by simp[ev_c,ev_put,e2]<;>rfl),(by simp[ev_c,ev_put,e3]<;>rfl),(by simp[ev_c,ev_put,e44]<;>rfl),(by simp[ev_c,ev_put,e45]<;>rfl),(by simp[ev_c,ev_put]<;>rfl)⟩
 rintro s ⟨tm,z,v,rfl,k,e1,e2,e3,e44,e45,e46⟩
 have hi':¬((a.gps.length:Int)<(a.gps.length:Int)):=by omega
 rw[List.take_of_length_le (Nat.le_refl _)] at k
 have y0:=(k.sl.o 0 (by decide)).one;have y1:=(k.sl.o 1 (by decide)).one;have y2:=(k.sl.o 2 (by decide)).one
 have lz:=k.nx
 simp -implicitDefEqProofs(maxSteps:=999999)(disch:=first|with_reducible rfl|omega|(simp only[nA,nS,nD]<;>omega)|fail)only[go_sem,e1,e2,e3,e44,e45,e46,hi',cells_of k.g1,cells_of k.g3,k.g2,y0,y1,y2]
 have s7:=k.s.set (b:=h.next+1) (by omega) (by omega) hw (.cells .rw [.int .i64 a.mins,.int .i64 a.evs,v 0,v 1,v 2])
 have sl:=k.sl.keep (Keeps.set z (h.next+1) (.cells .rw [.int .i64 a.mins,.int .i64 a.evs,v 0,v 1,v 2])) s7 fun b hb=>by omega
 refine q _ _ _ _ s7 ⟨(sl.o 0 (by decide)).sl ?_,(sl.o 1 (by decide)).sl ?_,(sl.o 2 (by decide)).sl ?_⟩
 ·show(a.cks.map encC).length≤_;rw[List.length_map];omega
 ·show(a.rds.map encR).length≤_;rw[List.length_map];omega
 ·show(a.gps.map encG).length≤_;rw[List.length_map];omega
end Go.Ab.Tryz
namespace Go.Ab.Tryz
open Go.Proofs
theorem off_eq (h:H)(n lo hi:Int)(Q:V→H→Prop):Ev fnG fastA (.fn 91 [] []) [.int .i64 n,.int .i64 lo,.int .i64 hi] h Q=Q (.bool (!inB n lo hi)) h:=by
 refine Ev.det ?_ Q
 refine Ev_body (fd:=c91) rfl rfl rfl ?_
 by_cases h1:n<lo
 ·have e:(!inB n lo hi)=true:=by
   have:¬lo≤n:=by omega
   simp[inB,this]
  rw[e]
  simp -implicitDefEqProofs(maxSteps:=999999)(disch:=first|with_reducible rfl|omega|(simp only[nA,nS,nD]<;>omega)|fail)only[c91,go_sem,h1]
 ·have e:(!inB n lo hi)=decide (hi<n):=by
   have h2:lo≤n:=by omega
   rw[Bool.eq_iff_iff];simp[inB,h2]
  rw[e]
  simp -implicitDefEqProofs(maxSteps:=999999)(disch:=first|with_reducible rfl|omega|(simp only[nA,nS,nD]<;>omega)|fail)only[c91,go_sem,h1]
theorem far_eq (h:H)(lo hi m:Int)(hm:0≤m∧m≤1000)(Q:V→H→Prop):Ev fnG fastA (.fn 92 [] []) [.agg [.int .i64 lo,.int .i64 hi],.int .i64 m] h Q=Q (.bool (!within lo hi m)) (h.add (.cells .rw [.int .i64 lo,.int .i64 hi])):=by
 refine Ev.det ?_ Q
 refine Ev_body (fd:=c92) rfl rfl rfl ?_
 have w:wr .i64 (0-m)= -m:=by rw[wr_in (by omega) (by omega)];omega
 cases h1:inB lo (-m) m with
 |true=>
  have e:within lo hi m=inB hi (-m) m:=by rw[within,h1,Bool.true_and]
  rw[e]
  simp -implicitDefEqProofs(maxSteps:=999999)(disch:=first|with_reducible rfl|omega|(simp only[nA,nS,nD]<;>omega)|fail)only[c92,go_sem,off_eq,w,h1]
 |false=>
  have e:within lo hi m=false:=by rw[within,h1,Bool.false_and]
  rw[e]
  simp -implicitDefEqProofs(maxSteps:=999999)(disch:=first|with_reducible rfl|omega|(simp only[nA,nS,nD]<;>omega)|fail)only[c92,go_sem,off_eq,w,h1]
end Go.Ab.Tryz
namespace Go.Ab.Tryz
open Go.Proofs
def lg2 (lo hi m:Int):Bool:=within lo hi m&&decide (4<hi-lo)
def Ck.lg (c:Ck):Bool:=lg2 c.sl c.sh 60||lg2 c.gl c.gh 30
structure RC (h:H)(a:At)(C R G:V)(tm:T V)(z:H)(b3 b4 b5 b6:Bool):Prop where
 s:h.Sub z
 g1:z.get h.next=some (.cells .rw (atV a C R G))
 t1:(Opd.t 1).ev tm=.ptr h.next 0
 t3:(Opd.t 3).ev tm=.bool b3
 t4:(Opd.t 4).ev tm=.bool b4
 t5:(Opd.t 5).ev tm=.bool b5
 t6:(Opd.t 6).ev tm=.bool b6
def RCs (h:H)(a:At)(C R G:V)(t:Nat)(i:Nat)(b3 b4 b5 b6:Bool)(s:St):Prop:=∃tm z,s=⟨tm,z,[]⟩∧RC h a C R G tm z b3 b4 b5 b6∧(Opd.t t).ev tm=.int .i64 (i:Int)
def RCp (h:H)(a:At)(C R G:V)(t:Nat)(i:Nat)(p:Nat)(cs:List V)(b3 b4 b5 b6:Bool)(s:St):Prop:=∃tm z b,s=⟨tm,z,[]⟩∧RC h a C R G tm z b3 b4 b5 b6∧(Opd.t t).ev tm=.int .i64 (i:Int)∧(Opd.t p).ev tm=.ptr b 0∧z.get b=some (.cells .rw cs)
theorem RC.sub {h:H}{a:At}{C R G:V}{tm:Go.Ab.T V}{z z':H}{b3 b4 b5 b6:Bool}(k:RC h a C R G tm z b3 b4 b5 b6)(s:z.Sub z'):h.Sub z'∧z'.get h.next=some (.cells .rw (atV a C R G)):=⟨k.s.trans s,s.get k.g1⟩
theorem Ck.lg_eq (c:Ck):c.lg=((within c.sl c.sh 60&&decide (4<c.sh-c.sl))||(within c.gl c.gh 30&&decide (4<c.gh-c.gl))):=rfl
theorem Ck.ord_eq (c:Ck):(!c.ord)=(decide (c.sh<c.sl)||decide (c.gh<c.gl)):=by
 rw[Bool.eq_iff_iff];simp[Ck.ord]<;>omega
theorem lg_sm:∀{l:List Ck},l.all Ck.bd=true→l.any Ck.lg= !(l.all Ck.sm)
 |[],_=>rfl
 |c::l,h=>by
  rw[List.all_cons,Bool.and_eq_true] at h
  rw[List.any_cons,List.all_cons,lg_sm h.2,Bool.not_and]
  congr 1
  have h1:=h.1
  rw[Ck.bd,Bool.and_eq_true] at h1
  rw[c.lg_eq,h1.1,h1.2,Bool.true_and,Bool.true_and]
  rw[Bool.eq_iff_iff];simp[Ck.sm]<;>omega
theorem chk_of {a:At}(hs:a.sz=true):checkA a=if(!(a.cks.all Ck.bd)|| !(a.rds.all Rd.bd)|| !(a.gps.all Gp.bd))=true then 3 else if(!(a.rds.all a.rdOk)|| !(a.gps.all a.gpOk))=true then 1 else if(!(a.cks.all Ck.ord)|| !(a.gps.all Gp.ord))=true then 4 else if a.cks.any Ck.lg=true then 10 else 0:=by
 unfold checkA
 rw[hs]
 cases h1:a.cks.all Ck.bd
 ·simp
 ·rw[lg_sm h1]
  cases a.rds.all Rd.bd<;>cases a.gps.all Gp.bd<;>cases a.rds.all a.rdOk<;>cases a.gps.all a.gpOk<;>cases a.cks.all Ck.ord<;>cases a.gps.all Gp.ord<;>cases a.cks.all Ck.sm<;>rfl
set_option maxRecDepth 10000 in
set_option maxHeartbeats 8000000 in
theorem refCheck_ev {h:H}(hw:h.wf){a:At}{C R G:V}(x:AtAt h C R G a)(l:SmallA a)(Q:V→H→Prop)(q:∀h',h.Sub h'→Q (.int .i64 (checkA a)) h'):Ev fnG fastA (.fn 25 [] []) [.agg (atV a C R G)] h Q:=by
 obtain⟨l1,l2,l3⟩:=l
 have oC:=x.c.one;have oR:=x.r.one;have oG:=x.g.one
 have hlC:=x.c.lenE;have hlR:=x.r.lenE;have hlG:=x.g.lenE
 have s1:h.Sub (h.add (.cells .rw (atV a C R G))):=(by repeat(first|assumption|exact H.Sub.refl (by assumption)|refine H.Sub.add ?_ _|refine H.Sub.set ?_ (by first|omega|(simp only[H.next_add,H.next_set,H.next_del]<;>omega)) (by first|omega|(simp only[H.next_add,H.next_set,H.next_del]<;>omega)) (by assumption) _))
 have bad:a.sz=false→Q (.int .i64 2) (h.add (.cells .rw (atV a C R G))):=fun e=>by
  have:=q _ s1
  rwa[checkA,if_pos e] at this
 refine Ev_body (fd:=c25) rfl rfl rfl ?_
 by_cases hsz:a.sz=true
 case neg=>
  have hsz':a.sz=false:=by simpa using hsz
  have b:=bad hsz'
  unfold At.sz at hsz'
  cases p1:inB a.mins 1 240 with
  |false=>simp -implicitDefEqProofs(maxSteps:=999999)(disch:=first|with_reducible rfl|omega|(simp only[nA,nS,nD]<;>omega)|fail)only[c25,go_sem,off_eq,p1];exact b
  |true=>
   cases p2:inB a.evs 1 4 with
   |false=>simp -implicitDefEqProofs(maxSteps:=999999)(disch:=first|with_reducible rfl|omega|(simp only[nA,nS,nD]<;>omega)|fail)only[c25,go_sem,off_eq,p1,p2];exact b
   |true=>
    by_cases p3:3<(a.cks.length:Int)
    ·simp -implicitDefEqProofs(maxSteps:=999999)(disch:=first|with_reducible rfl|omega|(simp only[nA,nS,nD]<;>omega)|fail)only[c25,go_sem,off_eq,p1,p2,hlC,p3];exact b
    by_cases p4:8<(a.rds.length:Int)
    ·simp -implicitDefEqProofs(maxSteps:=999999)(disch:=first|with_reducible rfl|omega|(simp only[nA,nS,nD]<;>omega)|fail)only[c25,go_sem,off_eq,p1,p2,hlC,hlR,p3,p4];exact b
    by_cases p5:4<(a.gps.length:Int)
    ·simp -implicitDefEqProofs(maxSteps:=999999)(disch:=first|with_reducible rfl|omega|(simp only[nA,nS,nD]<;>omega)|fail)only[c25,go_sem,off_eq,p1,p2,hlC,hlR,hlG,p3,p4,p5];exact b
    ·exfalso
     rw[p1,p2] at hsz'
     have e3:a.cks.length≤3:=by omega
     have e4:a.rds.length≤8:=by omega
     have e5:a.gps.length≤4:=by omega
     simp[e3,e4,e5] at hsz'
 have hs:=hsz
 simp only[At.sz,Bool.and_eq_true,decide_eq_true_eq] at hs
 obtain⟨p1,p2,p3,p4,p5⟩:=hs
 have p3':¬3<(a.cks.length:Int):=by omega
 have p4':¬8<(a.rds.length:Int):=by omega
 have p5':¬4<(a.gps.length:Int):=by omega
 simp -implicitDefEqProofs(maxSteps:=999999)(disch:=first|with_reducible rfl|omega|(simp only[nA,nS,nD]<;>omega)|fail)only[c25,go_sem,off_eq,p1,p2,hlC,hlR,hlG,p3',p4',p5']
 have hw1:=s1.wf
 refine W_count a.cks.length (fun i s=>RCs h a C R G 7 i (!((a.cks.take i).all Ck.bd)) false (!((a.cks.take i).all Ck.ord)) ((a.cks.take i).any Ck.lg) s) ?_ ?_ (i:=0) (Nat.zero_le _)
  ⟨_,_,rfl,⟨s1,by simp -implicitDefEqProofs(maxSteps:=999999)(disch:=first|with_reducible rfl|omega|(simp only[nA,nS,nD]<;>omega)|fail)only[go_sem],(by simp[ev_c,ev_put]<;>rfl),(by simp[ev_c,ev_put]<;>rfl),(by simp[ev_c,ev_put]<;>rfl),(by simp[ev_c,ev_put]<;>rfl),(by simp[ev_c,ev_put]<;>rfl)⟩,(by simp[ev_c,ev_put]<;>rfl)⟩
 ·intro i s hi
  have hi':(i:Int)<(a.cks.length:Int):=by omega
  have hst:=take_at hi
  rw[hst,List.all_append,List.all_append,List.any_append]
  simp only[List.all_cons,List.all_nil,List.any_cons,List.any_nil,Bool.and_true,Bool.or_false,Bool.not_and]
  rw[a.cks[i].lg_eq,a.cks[i].ord_eq]
  have hbd:a.cks[i].bd=(within a.cks[i].sl a.cks[i].sh 60&&within a.cks[i].gl a.cks[i].gh 30):=rfl
  rw[hbd,Bool.not_and]
  generalize(!((a.cks.take i).all Ck.bd))=b3
  generalize(!((a.cks.take i).all Ck.ord))=b5
  generalize((a.cks.take i).any Ck.lg)=b6
  intro hs
  refine W_split (RCs h a C R G 7 i b3 false b5 b6) ?_ ?_
  ·obtain⟨tm,z,rfl,k,t7⟩:=hs
   obtain⟨zs,g1,t1,t3,t4,t5,t6⟩:=k
   simp -implicitDefEqProofs(maxSteps:=999999)(disch:=first|with_reducible rfl|omega|(simp only[nA,nS,nD]<;>omega)|fail)only[go_sem,t1,t3,t4,t5,t6,t7,hi',cells_of g1,hlC]
   exact⟨_,_,rfl,⟨zs,g1,(by simp[ev_c,ev_put,t1]<;>rfl),(by simp[ev_c,ev_put,t3]<;>rfl),(by simp[ev_c,ev_put,t4]<;>rfl),(by simp[ev_c,ev_put,t5]<;>rfl),(by simp[ev_c,ev_put,t6]<;>rfl)⟩,(by simp[ev_c,ev_put,t7]<;>rfl)⟩
  clear hs
  intro s hs
  refine W_split (RCs h a C R G 7 i (b3||(!within a.cks[i].sl a.cks[i].sh 60|| !within a.cks[i].gl a.cks[i].gh 30)) false (b5||(decide (a.cks[i].sh<a.cks[i].sl)||decide (a.cks[i].gh<a.cks[i].gl))) (b6||(within a.cks[i].sl a.cks[i].sh 60&&decide (4<a.cks[i].sh - a.cks[i].sl)||within a.cks[i].gl a.cks[i].gh 30&&decide (4<a.cks[i].gh - a.cks[i].gl)))) ?_ ?_
  ·rw[W_block]
   refine W_split (RCp h a C R G 7 i 8 (encC a.cks[i]) b3 false b5 b6) ?_ ?_
   ·obtain⟨tm,z,rfl,k,t7⟩:=hs
    obtain⟨zs,g1,t1,t3,t4,t5,t6⟩:=id k
    obtain⟨b,o,cc,cs,eC,hc,hq,hg,_,_⟩:=(x.c.mono zs).at hi
    generalize a.cks[i]=c at hg⊢
    simp only[encC] at hg⊢
    have hwz:=zs.wf
    simp -implicitDefEqProofs(maxSteps:=999999)(disch:=first|with_reducible rfl|omega|(simp only[nA,nS,nD]<;>omega)|fail)only[go_sem,t1,t3,t4,t5,t6,t7,cells_of g1,hq (nat_cst i),hc,hg]
    exact⟨_,_,_,rfl,⟨(k.sub ((by repeat(first|assumption|exact H.Sub.refl (by assumption)|refine H.Sub.add ?_ _|refine H.Sub.set ?_ (by first|omega|(simp only[H.next_add,H.next_set,H.next_del]<;>omega)) (by first|omega|(simp only[H.next_add,H.next_set,H.next_del]<;>omega)) (by assumption) _)))).1,(k.sub ((by repeat(first|assumption|exact H.Sub.refl (by assumption)|refine H.Sub.add ?_ _|refine H.Sub.set ?_ (by first|omega|(simp only[H.next_add,H.next_set,H.next_del]<;>omega)) (by first|omega|(simp only[H.next_add,H.next_set,H.next_del]<;>omega)) (by assumption) _)))).2,(by simp[ev_c,ev_put,t1]<;>rfl),(by simp[ev_c,ev_put,t3]<;>rfl),(by simp[ev_c,ev_put,t4]<;>rfl),(by simp[ev_c,ev_put,t5]<;>rfl),(by simp[ev_c,ev_put,t6]<;>rfl)⟩,(by simp[ev_c,ev_put,t7]<;>rfl),(by simp[ev_c,ev_put]<;>rfl),get_add_new rfl⟩
   clear hs
   intro s hs
   generalize a.cks[i]=c at hs⊢
   have f1:=fun hh Q=>far_eq hh c.sl c.sh 60 (by omega) Q
   have f2:=fun hh Q=>far_eq hh c.gl c.gh 30 (by omega) Q
   have wr1:within c.sl c.sh 60=true→wr .i64 (c.sh-c.sl)=c.sh-c.sl:=fun h=>by
    simp only[within,Bool.and_eq_true,inB_iff] at h
    exact wr_in (by omega) (by omega)
   have wr2:within c.gl c.gh 30=true→wr .i64 (c.gh-c.gl)=c.gh-c.gl:=fun h=>by
    simp only[within,Bool.and_eq_true,inB_iff] at h
    exact wr_in (by omega) (by omega)
   simp only[encC] at hs⊢
   generalize within c.sl c.sh 60=w1 at f1 wr1⊢
   generalize within c.gl c.gh 30=w2 at f2 wr2⊢
   refine W_split (RCp h a C R G 7 i 8 (encC c) (b3||(!w1|| !w2)) false b5 b6) ?_ ?_
   ·obtain⟨tm,z,b,rfl,k,t7,t8,gb⟩:=hs
    obtain⟨zs,g1,t1,t3,t4,t5,t6⟩:=id k
    have hwz:=zs.wf
    have lb:=hwz _ _ gb
    simp only[encC]
    cases b3<;>cases w1<;>cases w2
    all_goals
     simp -implicitDefEqProofs(maxSteps:=999999)(disch:=first|with_reducible rfl|omega|(simp only[nA,nS,nD]<;>omega)|fail)only[go_sem,t1,t3,t4,t5,t6,t7,t8,cells_of gb,f1,f2]
     have sz:=H.Sub.refl hwz
     exact⟨_,_,_,rfl,⟨(k.sub ((by repeat(first|assumption|exact H.Sub.refl (by assumption)|refine H.Sub.add ?_ _|refine H.Sub.set ?_ (by first|omega|(simp only[H.next_add,H.next_set,H.next_del]<;>omega)) (by first|omega|(simp only[H.next_add,H.next_set,H.next_del]<;>omega)) (by assumption) _)))).1,(k.sub ((by repeat(first|assumption|exact H.Sub.refl (by assumption)|refine H.Sub.add ?_ _|refine H.Sub.set ?_ (by first|omega|(simp only[H.next_add,H.next_set,H.next_del]<;>omega)) (by first|omega|(simp only[H.next_add,H.next_set,H.next_del]<;>omega)) (by assumption) _)))).2,(by simp[ev_c,ev_put,t1]<;>rfl),(by simp[ev_c,ev_put,t3]<;>rfl),(by simp[ev_c,ev_put,t4]<;>rfl),(by simp[ev_c,ev_put,t5]<;>rfl),(by simp[ev_c,ev_put,t6]<;>rfl)⟩,(by simp[ev_c,ev_put,t7]<;>rfl),(by simp[ev_c,ev_put,t8]<;>rfl),((by repeat(first|assumption|exact H.Sub.refl (by assumption)|refine H.Sub.add ?_ _|refine H.Sub.set ?_ (by first|omega|(simp only[H.next_add,H.next_set,H.next_del]<;>omega)) (by first|omega|(simp only[H.next_add,H.next_set,H.next_del]<;>omega)) (by assumption) _)):z.Sub _).get gb⟩
   clear hs
   intro s hs
   generalize(b3||(!w1|| !w2))=b3' at hs⊢
   refine W_split (RCp h a C R G 7 i 8 (encC c) b3' false (b5||(decide (c.sh<c.sl)||decide (c.gh<c.gl))) b6) ?_ ?_
   ·obtain⟨tm,z,b,rfl,k,t7,t8,gb⟩:=hs
    obtain⟨zs,g1,t1,t3,t4,t5,t6⟩:=id k
    simp only[encC] at gb⊢
    obtain⟨o1,ho1⟩:∃o1,decide (c.sh<c.sl)=o1:=⟨_,rfl⟩
    obtain⟨o2,ho2⟩:∃o2,decide (c.gh<c.gl)=o2:=⟨_,rfl⟩
    rw[ho1,ho2]
    cases b5<;>cases o1<;>cases o2
    all_goals
     simp -implicitDefEqProofs(maxSteps:=999999)(disch:=first|with_reducible rfl|omega|(simp only[nA,nS,nD]<;>omega)|fail)only[go_sem,t1,t3,t4,t5,t6,t7,t8,cells_of gb,ho1,ho2]
     exact⟨_,_,_,rfl,⟨k.s,k.g1,(by simp[ev_c,ev_put,t1]<;>rfl),(by simp[ev_c,ev_put,t3]<;>rfl),(by simp[ev_c,ev_put,t4]<;>rfl),(by simp[ev_c,ev_put,t5]<;>rfl),(by simp[ev_c,ev_put,t6]<;>rfl)⟩,(by simp[ev_c,ev_put,t7]<;>rfl),(by simp[ev_c,ev_put,t8]<;>rfl),gb⟩
   clear hs
   intro s hs
   generalize(b5||(decide (c.sh<c.sl)||decide (c.gh<c.gl)))=b5' at hs⊢
   obtain⟨tm,z,b,rfl,k,t7,t8,gb⟩:=hs
   obtain⟨zs,g1,t1,t3,t4,t5,t6⟩:=id k
   have hwz:=zs.wf
   have lb:=hwz _ _ gb
   simp only[encC] at gb
   obtain⟨d1,hd1⟩:∃d1,decide (4<c.sh-c.sl)=d1:=⟨_,rfl⟩
   obtain⟨d2,hd2⟩:∃d2,decide (4<c.gh-c.gl)=d2:=⟨_,rfl⟩
   rw[hd1,hd2]
   cases b6<;>cases w1<;>cases w2<;>cases d1<;>cases d2
   all_goals
    simp -implicitDefEqProofs(maxSteps:=999999)(disch:=first|with_reducible rfl|omega|(simp only[nA,nS,nD]<;>omega)|fail)only[go_sem,t1,t3,t4,t5,t6,t7,t8,cells_of gb,f1,f2,hd1,hd2,wr1,wr2]
    have sz:=H.Sub.refl hwz
    exact⟨_,_,rfl,⟨(k.sub ((by repeat(first|assumption|exact H.Sub.refl (by assumption)|refine H.Sub.add ?_ _|refine H.Sub.set ?_ (by first|omega|(simp only[H.next_add,H.next_set,H.next_del]<;>omega)) (by first|omega|(simp only[H.next_add,H.next_set,H.next_del]<;>omega)) (by assumption) _)))).1,(k.sub ((by repeat(first|assumption|exact H.Sub.refl (by assumption)|refine H.Sub.add ?_ _|refine H.Sub.set ?_ (by first|omega|(simp only[H.next_add,H.next_set,H.next_del]<;>omega)) (by first|omega|(simp only[H.next_add,H.next_set,H.next_del]<;>omega)) (by assumption) _)))).2,(by simp[ev_c,ev_put,t1]<;>rfl),(by simp[ev_c,ev_put,t3]<;>rfl),(by simp[ev_c,ev_put,t4]<;>rfl),(by simp[ev_c,ev_put,t5]<;>rfl),(by simp[ev_c,ev_put,t6]<;>rfl)⟩,(by simp[ev_c,ev_put,t7]<;>rfl)⟩
  clear hs
  rintro s ⟨tm,z,rfl,⟨zs,g1,t1,t3,t4,t5,t6⟩,t7⟩
  simp -implicitDefEqProofs(maxSteps:=999999)(disch:=first|with_reducible rfl|omega|(simp only[nA,nS,nD]<;>omega)|fail)only[go_sem,t1,t3,t4,t5,t6,t7,wr_succ]
  exact⟨_,_,rfl,⟨zs,g1,(by simp[ev_c,ev_put,t1]<;>rfl),(by simp[ev_c,ev_put,t3]<;>rfl),(by simp[ev_c,ev_put,t4]<;>rfl),(by simp[ev_c,ev_put,t5]<;>rfl),(by simp[ev_c,ev_put,t6]<;>rfl)⟩,(by simp[ev_c,ev_put]<;>rfl)⟩
 ·rintro s ⟨tm,z,rfl,⟨zs,g1,t1,t3,t4,t5,t6⟩,t7⟩
  rw[List.take_length] at t3 t5 t6
  simp -implicitDefEqProofs(maxSteps:=999999)(disch:=first|with_reducible rfl|omega|(simp only[nA,nS,nD]<;>omega)|fail)only[go_sem,t1,t3,t4,t5,t6,t7,cells_of g1,hlC,Int.lt_irrefl]
  refine W_count a.rds.length (fun i s=>RCs h a C R G 9 i (!(a.cks.all Ck.bd)|| !((a.rds.take i).all Rd.bd)) (!((a.rds.take i).all a.rdOk)) (!(a.cks.all Ck.ord)) (a.cks.any Ck.lg) s) ?_ ?_ (i:=0) (Nat.zero_le _)
   ⟨_,_,rfl,⟨zs,g1,(by simp[ev_c,ev_put,t1]<;>rfl),by rw[List.take_zero,List.all_nil,Bool.not_true,Bool.or_false];exact(by simp[ev_c,ev_put,t3]<;>rfl),(by simp[ev_c,ev_put,t4]<;>rfl),(by simp[ev_c,ev_put,t5]<;>rfl),(by simp[ev_c,ev_put,t6]<;>rfl)⟩,(by simp[ev_c,ev_put]<;>rfl)⟩
  ·clear t1 t3 t4 t5 t6 t7 g1 zs
   intro i s hi
   have hi':(i:Int)<(a.rds.length:Int):=by omega
   have hst:=take_at hi
   rw[hst,List.all_append,List.all_append]
   simp only[List.all_cons,List.all_nil,Bool.and_true,Bool.not_and]
   rw[←Bool.or_assoc]
   generalize(!(a.cks.all Ck.bd)|| !((a.rds.take i).all Rd.bd))=b3
   generalize(!((a.rds.take i).all a.rdOk))=b4
   generalize(!(a.cks.all Ck.ord))=b5
   generalize(a.cks.any Ck.lg)=b6
   intro hs
   have w1:wr .i64 ((a.cks.length:Int)-1)=(a.cks.length:Int)-1:=wr_in (by omega) (by omega)
   have ev1:=(inB_iff ..).1 p2
   have w2:wr .i64 (a.evs-1)=a.evs-1:=wr_in (by omega) (by omega)
   refine W_split (RCs h a C R G 9 i b3 b4 b5 b6) ?_ ?_
   ·obtain⟨tm,z,rfl,k,t7⟩:=hs
    obtain⟨zs,g1,t1,t3,t4,t5,t6⟩:=k
    simp -implicitDefEqProofs(maxSteps:=999999)(disch:=first|with_reducible rfl|omega|(simp only[nA,nS,nD]<;>omega)|fail)only[go_sem,t1,t3,t4,t5,t6,t7,hi',cells_of g1,hlR]
    exact⟨_,_,rfl,⟨zs,g1,(by simp[ev_c,ev_put,t1]<;>rfl),(by simp[ev_c,ev_put,t3]<;>rfl),(by simp[ev_c,ev_put,t4]<;>rfl),(by simp[ev_c,ev_put,t5]<;>rfl),(by simp[ev_c,ev_put,t6]<;>rfl)⟩,(by simp[ev_c,ev_put,t7]<;>rfl)⟩
   clear hs
   intro s hs
   refine W_split (RCs h a C R G 9 i (b3|| !Rd.bd a.rds[i]) (b4|| !a.rdOk a.rds[i]) b5 b6) ?_ ?_
   ·rw[W_block]
    refine W_split (RCp h a C R G 9 i 10 (encR a.rds[i]) b3 b4 b5 b6) ?_ ?_
    ·obtain⟨tm,z,rfl,k,t7⟩:=hs
     obtain⟨zs,g1,t1,t3,t4,t5,t6⟩:=id k
     obtain⟨b,o,cc,cs,eC,hc,hq,hg,_,_⟩:=(x.r.mono zs).at hi
     generalize a.rds[i]=c at hg⊢
     simp only[encR] at hg⊢
     have hwz:=zs.wf
     simp -implicitDefEqProofs(maxSteps:=999999)(disch:=first|with_reducible rfl|omega|(simp only[nA,nS,nD]<;>omega)|fail)only[go_sem,t1,t3,t4,t5,t6,t7,cells_of g1,hq (nat_cst i),hc,hg]
     exact⟨_,_,_,rfl,⟨(k.sub ((by repeat(first|assumption|exact H.Sub.refl (by assumption)|refine H.Sub.add ?_ _|refine H.Sub.set ?_ (by first|omega|(simp only[H.next_add,H.next_set,H.next_del]<;>omega)) (by first|omega|(simp only[H.next_add,H.next_set,H.next_del]<;>omega)) (by assumption) _)))).1,(k.sub ((by repeat(first|assumption|exact H.Sub.refl (by assumption)|refine H.Sub.add ?_ _|refine H.Sub.set ?_ (by first|omega|(simp only[H.next_add,H.next_set,H.next_del]<;>omega)) (by first|omega|(simp only[H.next_add,H.next_set,H.next_del]<;>omega)) (by assumption) _)))).2,(by simp[ev_c,ev_put,t1]<;>rfl),(by simp[ev_c,ev_put,t3]<;>rfl),(by simp[ev_c,ev_put,t4]<;>rfl),(by simp[ev_c,ev_put,t5]<;>rfl),(by simp[ev_c,ev_put,t6]<;>rfl)⟩,(by simp[ev_c,ev_put,t7]<;>rfl),(by simp[ev_c,ev_put]<;>rfl),get_add_new rfl⟩
    clear hs
    intro s hs
    generalize a.rds[i]=c at hs⊢
    have ebd:c.bd=inB c.sh (-999) 999:=rfl
    have eok:a.rdOk c=(inB c.ck 0 ((a.cks.length:Int)-1)&&inB c.ev 0 (a.evs-1)):=rfl
    rw[ebd,eok,Bool.not_and]
    have f0:=fun hh Q=>off_eq hh c.sh (-999) 999 Q
    have f1:=fun hh Q=>off_eq hh c.ck 0 ((a.cks.length:Int)-1) Q
    have f2:=fun hh Q=>off_eq hh c.ev 0 (a.evs-1) Q
    simp only[encR] at hs⊢
    generalize inB c.sh (-999) 999=u0 at f0⊢
    generalize inB c.ck 0 ((a.cks.length:Int)-1)=u1 at f1⊢
    generalize inB c.ev 0 (a.evs-1)=u2 at f2⊢
    refine W_split (RCp h a C R G 9 i 10 (encR c) (b3|| !u0) b4 b5 b6) ?_ ?_
    ·obtain⟨tm,z,b,rfl,k,t7,t8,gb⟩:=hs
     obtain⟨zs,g1,t1,t3,t4,t5,t6⟩:=id k
     simp only[encR]
     cases b3
     all_goals
      simp -implicitDefEqProofs(maxSteps:=999999)(disch:=first|with_reducible rfl|omega|(simp only[nA,nS,nD]<;>omega)|fail)only[go_sem,t1,t3,t4,t5,t6,t7,t8,cells_of gb,f0]
      exact⟨_,_,_,rfl,⟨k.s,k.g1,(by simp[ev_c,ev_put,t1]<;>rfl),(by simp[ev_c,ev_put,t3]<;>rfl),(by simp[ev_c,ev_put,t4]<;>rfl),(by simp[ev_c,ev_put,t5]<;>rfl),(by simp[ev_c,ev_put,t6]<;>rfl)⟩,(by simp[ev_c,ev_put,t7]<;>rfl),(by simp[ev_c,ev_put,t8]<;>rfl),gb⟩
    clear hs
    intro s hs
    generalize(b3|| !u0)=b3' at hs⊢
    obtain⟨tm,z,b,rfl,k,t7,t8,gb⟩:=hs
    obtain⟨zs,g1,t1,t3,t4,t5,t6⟩:=id k
    simp only[encR] at gb
    cases b4<;>cases u1<;>cases u2
    all_goals
     simp -implicitDefEqProofs(maxSteps:=999999)(disch:=first|with_reducible rfl|omega|(simp only[nA,nS,nD]<;>omega)|fail)only[go_sem,t1,t3,t4,t5,t6,t7,t8,cells_of gb,cells_of g1,hlC,w1,w2,f1,f2]
     exact⟨_,_,rfl,⟨k.s,k.g1,(by simp[ev_c,ev_put,t1]<;>rfl),(by simp[ev_c,ev_put,t3]<;>rfl),(by simp[ev_c,ev_put,t4]<;>rfl),(by simp[ev_c,ev_put,t5]<;>rfl),(by simp[ev_c,ev_put,t6]<;>rfl)⟩,(by simp[ev_c,ev_put,t7]<;>rfl)⟩
   clear hs
   rintro s ⟨tm,z,rfl,⟨zs,g1,t1,t3,t4,t5,t6⟩,t7⟩
   simp -implicitDefEqProofs(maxSteps:=999999)(disch:=first|with_reducible rfl|omega|(simp only[nA,nS,nD]<;>omega)|fail)only[go_sem,t1,t3,t4,t5,t6,t7,wr_succ]
   exact⟨_,_,rfl,⟨zs,g1,(by simp[ev_c,ev_put,t1]<;>rfl),(by simp[ev_c,ev_put,t3]<;>rfl),(by simp[ev_c,ev_put,t4]<;>rfl),(by simp[ev_c,ev_put,t5]<;>rfl),(by simp[ev_c,ev_put,t6]<;>rfl)⟩,(by simp[ev_c,ev_put]<;>rfl)⟩
  clear t1 t3 t4 t5 t6 t7 g1 zs
  rintro s ⟨tm,z,rfl,⟨zs,g1,t1,t3,t4,t5,t6⟩,t7⟩
  rw[List.take_length] at t3 t4
  simp -implicitDefEqProofs(maxSteps:=999999)(disch:=first|with_reducible rfl|omega|(simp only[nA,nS,nD]<;>omega)|fail)only[go_sem,t1,t3,t4,t5,t6,t7,cells_of g1,hlR,Int.lt_irrefl]
  refine W_count a.gps.length (fun i s=>RCs h a C R G 11 i (!(a.cks.all Ck.bd)|| !(a.rds.all Rd.bd)|| !((a.gps.take i).all Gp.bd)) (!(a.rds.all a.rdOk)|| !((a.gps.take i).all a.gpOk)) (!(a.cks.all Ck.ord)|| !((a.gps.take i).all Gp.ord)) (a.cks.any Ck.lg) s) ?_ ?_ (i:=0) (Nat.zero_le _)
   ⟨_,_,rfl,⟨zs,g1,(by simp[ev_c,ev_put,t1]<;>rfl),by rw[List.take_zero,List.all_nil,Bool.not_true,Bool.or_false];exact(by simp[ev_c,ev_put,t3]<;>rfl),by rw[List.take_zero,List.all_nil,Bool.not_true,Bool.or_false];exact(by simp[ev_c,ev_put,t4]<;>rfl),by rw[List.take_zero,List.all_nil,Bool.not_true,Bool.or_false];exact(by simp[ev_c,ev_put,t5]<;>rfl),(by simp[ev_c,ev_put,t6]<;>rfl)⟩,(by simp[ev_c,ev_put]<;>rfl)⟩
  ·clear t1 t3 t4 t5 t6 t7 g1 zs
   intro i s hi
   have hi':(i:Int)<(a.gps.length:Int):=by omega
   have hst:=take_at hi
   rw[hst,List.all_append,List.all_append,List.all_append]
   simp only[List.all_cons,List.all_nil,Bool.and_true,Bool.not_and]
   rw[←Bool.or_assoc,←Bool.or_assoc,←Bool.or_assoc]
   generalize(!(a.cks.all Ck.bd)|| !(a.rds.all Rd.bd)|| !((a.gps.take i).all Gp.bd))=b3
   generalize(!(a.rds.all a.rdOk)|| !((a.gps.take i).all a.gpOk))=b4
   generalize(!(a.cks.all Ck.ord)|| !((a.gps.take i).all Gp.ord))=b5
   generalize(a.cks.any Ck.lg)=b6
   intro hs
   have ev1:=(inB_iff ..).1 p2
   have w2:wr .i64 (a.evs-1)=a.evs-1:=wr_in (by omega) (by omega)
   refine W_split (RCs h a C R G 11 i b3 b4 b5 b6) ?_ ?_
   ·obtain⟨tm,z,rfl,k,t7⟩:=hs
    obtain⟨zs,g1,t1,t3,t4,t5,t6⟩:=k
    simp -implicitDefEqProofs(maxSteps:=999999)(disch:=first|with_reducible rfl|omega|(simp only[nA,nS,nD]<;>omega)|fail)only[go_sem,t1,t3,t4,t5,t6,t7,hi',cells_of g1,hlG]
    exact⟨_,_,rfl,⟨zs,g1,(by simp[ev_c,ev_put,t1]<;>rfl),(by simp[ev_c,ev_put,t3]<;>rfl),(by simp[ev_c,ev_put,t4]<;>rfl),(by simp[ev_c,ev_put,t5]<;>rfl),(by simp[ev_c,ev_put,t6]<;>rfl)⟩,(by simp[ev_c,ev_put,t7]<;>rfl)⟩
   clear hs
   intro s hs
   refine W_split (RCs h a C R G 11 i (b3|| !Gp.bd a.gps[i]) (b4|| !a.gpOk a.gps[i]) (b5|| !Gp.ord a.gps[i]) b6) ?_ ?_
   ·rw[W_block]
    refine W_split (RCp h a C R G 11 i 12 (encG a.gps[i]) b3 b4 b5 b6) ?_ ?_
    ·obtain⟨tm,z,rfl,k,t7⟩:=hs
     obtain⟨zs,g1,t1,t3,t4,t5,t6⟩:=id k
     obtain⟨b,o,cc,cs,eC,hc,hq,hg,_,_⟩:=(x.g.mono zs).at hi
     generalize a.gps[i]=c at hg⊢
     simp only[encG] at hg⊢
     have hwz:=zs.wf
     simp -implicitDefEqProofs(maxSteps:=999999)(disch:=first|with_reducible rfl|omega|(simp only[nA,nS,nD]<;>omega)|fail)only[go_sem,t1,t3,t4,t5,t6,t7,cells_of g1,hq (nat_cst i),hc,hg]
     exact⟨_,_,_,rfl,⟨(k.sub ((by repeat(first|assumption|exact H.Sub.refl (by assumption)|refine H.Sub.add ?_ _|refine H.Sub.set ?_ (by first|omega|(simp only[H.next_add,H.next_set,H.next_del]<;>omega)) (by first|omega|(simp only[H.next_add,H.next_set,H.next_del]<;>omega)) (by assumption) _)))).1,(k.sub ((by repeat(first|assumption|exact H.Sub.refl (by assumption)|refine H.Sub.add ?_ _|refine H.Sub.set ?_ (by first|omega|(simp only[H.next_add,H.next_set,H.next_del]<;>omega)) (by first|omega|(simp only[H.next_add,H.next_set,H.next_del]<;>omega)) (by assumption) _)))).2,(by simp[ev_c,ev_put,t1]<;>rfl),(by simp[ev_c,ev_put,t3]<;>rfl),(by simp[ev_c,ev_put,t4]<;>rfl),(by simp[ev_c,ev_put,t5]<;>rfl),(by simp[ev_c,ev_put,t6]<;>rfl)⟩,(by simp[ev_c,ev_put,t7]<;>rfl),(by simp[ev_c,ev_put]<;>rfl),get_add_new rfl⟩
    clear hs
    intro s hs
    generalize a.gps[i]=c at hs⊢
    have ebd:c.bd=within c.lo c.hi 240:=rfl
    have eok:a.gpOk c=(inB c.fr 0 (a.evs-1)&&inB c.to 0 (a.evs-1)):=rfl
    have eod:(!c.ord)=decide (c.hi<c.lo):=by rw[Bool.eq_iff_iff];simp[Gp.ord]<;>omega
    rw[ebd,eok,eod,Bool.not_and]
    have f0:=fun hh Q=>far_eq hh c.lo c.hi 240 (by omega) Q
    have f1:=fun hh Q=>off_eq hh c.fr 0 (a.evs-1) Q
    have f2:=fun hh Q=>off_eq hh c.to 0 (a.evs-1) Q
    simp only[encG] at hs⊢
    generalize within c.lo c.hi 240=u0 at f0⊢
    generalize inB c.fr 0 (a.evs-1)=u1 at f1⊢
    generalize inB c.to 0 (a.evs-1)=u2 at f2⊢
    obtain⟨o1,ho1⟩:∃o1,decide (c.hi<c.lo)=o1:=⟨_,rfl⟩
    rw[ho1]
    refine W_split (RCp h a C R G 11 i 12 (encG c) (b3|| !u0) b4 b5 b6) ?_ ?_
    ·obtain⟨tm,z,b,rfl,k,t7,t8,gb⟩:=hs
     obtain⟨zs,g1,t1,t3,t4,t5,t6⟩:=id k
     have hwz:=zs.wf
     simp only[encG]
     cases b3
     all_goals
      simp -implicitDefEqProofs(maxSteps:=999999)(disch:=first|with_reducible rfl|omega|(simp only[nA,nS,nD]<;>omega)|fail)only[go_sem,t1,t3,t4,t5,t6,t7,t8,cells_of gb,f0]
      have sz:=H.Sub.refl hwz
      exact⟨_,_,_,rfl,⟨(k.sub ((by repeat(first|assumption|exact H.Sub.refl (by assumption)|refine H.Sub.add ?_ _|refine H.Sub.set ?_ (by first|omega|(simp only[H.next_add,H.next_set,H.next_del]<;>omega)) (by first|omega|(simp only[H.next_add,H.next_set,H.next_del]<;>omega)) (by assumption) _)))).1,(k.sub ((by repeat(first|assumption|exact H.Sub.refl (by assumption)|refine H.Sub.add ?_ _|refine H.Sub.set ?_ (by first|omega|(simp only[H.next_add,H.next_set,H.next_del]<;>omega)) (by first|omega|(simp only[H.next_add,H.next_set,H.next_del]<;>omega)) (by assumption) _)))).2,(by simp[ev_c,ev_put,t1]<;>rfl),(by simp[ev_c,ev_put,t3]<;>rfl),(by simp[ev_c,ev_put,t4]<;>rfl),(by simp[ev_c,ev_put,t5]<;>rfl),(by simp[ev_c,ev_put,t6]<;>rfl)⟩,(by simp[ev_c,ev_put,t7]<;>rfl),(by simp[ev_c,ev_put,t8]<;>rfl),((by repeat(first|assumption|exact H.Sub.refl (by assumption)|refine H.Sub.add ?_ _|refine H.Sub.set ?_ (by first|omega|(simp only[H.next_add,H.next_set,H.next_del]<;>omega)) (by first|omega|(simp only[H.next_add,H.next_set,H.next_del]<;>omega)) (by assumption) _)):z.Sub _).get gb⟩
    clear hs
    intro s hs
    generalize(b3|| !u0)=b3' at hs⊢
    refine W_split (RCp h a C R G 11 i 12 (encG c) b3' (b4||(!u1|| !u2)) b5 b6) ?_ ?_
    ·obtain⟨tm,z,b,rfl,k,t7,t8,gb⟩:=hs
     obtain⟨zs,g1,t1,t3,t4,t5,t6⟩:=id k
     simp only[encG] at gb⊢
     cases b4<;>cases u1<;>cases u2
     all_goals
      simp -implicitDefEqProofs(maxSteps:=999999)(disch:=first|with_reducible rfl|omega|(simp only[nA,nS,nD]<;>omega)|fail)only[go_sem,t1,t3,t4,t5,t6,t7,t8,cells_of gb,cells_of g1,w2,f1,f2]
      exact⟨_,_,_,rfl,⟨k.s,k.g1,(by simp[ev_c,ev_put,t1]<;>rfl),(by simp[ev_c,ev_put,t3]<;>rfl),(by simp[ev_c,ev_put,t4]<;>rfl),(by simp[ev_c,ev_put,t5]<;>rfl),(by simp[ev_c,ev_put,t6]<;>rfl)⟩,(by simp[ev_c,ev_put,t7]<;>rfl),(by simp[ev_c,ev_put,t8]<;>rfl),gb⟩
    clear hs
    intro s hs
    generalize(b4||(!u1|| !u2))=b4' at hs⊢
    obtain⟨tm,z,b,rfl,k,t7,t8,gb⟩:=hs
    obtain⟨zs,g1,t1,t3,t4,t5,t6⟩:=id k
    simp only[encG] at gb
    cases b5
    all_goals
     simp -implicitDefEqProofs(maxSteps:=999999)(disch:=first|with_reducible rfl|omega|(simp only[nA,nS,nD]<;>omega)|fail)only[go_sem,t1,t3,t4,t5,t6,t7,t8,cells_of gb,ho1]
     exact⟨_,_,rfl,⟨k.s,k.g1,(by simp[ev_c,ev_put,t1]<;>rfl),(by simp[ev_c,ev_put,t3]<;>rfl),(by simp[ev_c,ev_put,t4]<;>rfl),(by simp[ev_c,ev_put,t5]<;>rfl),(by simp[ev_c,ev_put,t6]<;>rfl)⟩,(by simp[ev_c,ev_put,t7]<;>rfl)⟩
   clear hs
   rintro s ⟨tm,z,rfl,⟨zs,g1,t1,t3,t4,t5,t6⟩,t7⟩
   simp -implicitDefEqProofs(maxSteps:=999999)(disch:=first|with_reducible rfl|omega|(simp only[nA,nS,nD]<;>omega)|fail)only[go_sem,t1,t3,t4,t5,t6,t7,wr_succ]
   exact⟨_,_,rfl,⟨zs,g1,(by simp[ev_c,ev_put,t1]<;>rfl),(by simp[ev_c,ev_put,t3]<;>rfl),(by simp[ev_c,ev_put,t4]<;>rfl),(by simp[ev_c,ev_put,t5]<;>rfl),(by simp[ev_c,ev_put,t6]<;>rfl)⟩,(by simp[ev_c,ev_put]<;>rfl)⟩
  clear t1 t3 t4 t5 t6 t7 g1 zs
  rintro s ⟨tm,z,rfl,⟨zs,g1,t1,t3,t4,t5,t6⟩,t7⟩
  rw[List.take_length] at t3 t4 t5
  have q':=q z zs
  rw[chk_of hsz] at q'
  simp -implicitDefEqProofs(maxSteps:=999999)(disch:=first|with_reducible rfl|omega|(simp only[nA,nS,nD]<;>omega)|fail)only[go_sem,t1,t3,t4,t5,t6,t7,cells_of g1,hlG,Int.lt_irrefl]
  generalize(!(a.cks.all Ck.bd)|| !(a.rds.all Rd.bd)|| !(a.gps.all Gp.bd))=b3 at q' t3⊢
  generalize(!(a.rds.all a.rdOk)|| !(a.gps.all a.gpOk))=b4 at q' t4⊢
  generalize(!(a.cks.all Ck.ord)|| !(a.gps.all Gp.ord))=b5 at q' t5⊢
  generalize(a.cks.any Ck.lg)=b6 at q' t6⊢
  cases b3 with
  |true=>simp -implicitDefEqProofs(maxSteps:=999999)(disch:=first|with_reducible rfl|omega|(simp only[nA,nS,nD]<;>omega)|fail)only[go_sem,t1,t3,t4,t5,t6];exact q'
  |false=>
   cases b4 with
   |true=>simp -implicitDefEqProofs(maxSteps:=999999)(disch:=first|with_reducible rfl|omega|(simp only[nA,nS,nD]<;>omega)|fail)only[go_sem,t1,t3,t4,t5,t6];exact q'
   |false=>
    cases b5 with
    |true=>simp -implicitDefEqProofs(maxSteps:=999999)(disch:=first|with_reducible rfl|omega|(simp only[nA,nS,nD]<;>omega)|fail)only[go_sem,t1,t3,t4,t5,t6];exact q'
    |false=>
     cases b6 with
     |true=>simp -implicitDefEqProofs(maxSteps:=999999)(disch:=first|with_reducible rfl|omega|(simp only[nA,nS,nD]<;>omega)|fail)only[go_sem,t1,t3,t4,t5,t6];exact q'
     |false=>simp -implicitDefEqProofs(maxSteps:=999999)(disch:=first|with_reducible rfl|omega|(simp only[nA,nS,nD]<;>omega)|fail)only[go_sem,t1,t3,t4,t5,t6];exact q'
end Go.Ab.Tryz
namespace Go.Ab.Tryz
open Go.Proofs
def latY (L:List Int)(f b:Nat):Int:=mg L f b-mg L f 4
theorem lat_tru {a:At}(r:Right a){cnt:Nat→Bool}{t:Runs × List Int}(ht:t∈casesL a cnt){f:Nat}(hf:f<5):Tru a cnt t.1 (latY t.2 f):=by
 obtain⟨tri,_,_,hs⟩:=cases_sound r ht
 refine(hs _ (by simp[latY])).1 fun c d hc hd=>?_
 have:=tri.tri f d c hf hd hc
 unfold latY;omega
theorem lat_4 {a:At}(r:Right a){cnt:Nat→Bool}{t:Runs × List Int}(ht:t∈casesL a cnt)(b:Nat):latY t.2 4 b=mg t.2 4 b:=by
 have:=cases_diag r ht (u:=4) (by omega)
 unfold latY;omega
def ckFit (c:Ck)(x:Int × Int):Bool:=inB x.1 c.sl c.sh&&inB x.2 c.gl c.gh
def rdFit (ss gg tt:List Int)(r:Rd):Bool:=decide (shw (ss.getD r.ck.toNat 0) (gg.getD r.ck.toNat 0) (tt.getD r.ev.toNat 0)=r.sh)
def gpFit (tt:List Int)(g:Gp):Bool:=inB (tt.getD g.to.toNat 0-tt.getD g.fr.toNat 0) g.lo g.hi
def lenFit (a:At)(ss gg tt:List Int):Bool:=decide (ss.length=a.cks.length)&&(decide (gg.length=a.cks.length)&&decide ((tt.length:Int)=a.evs))
def cksFit (a:At)(ss gg:List Int):Bool:=(a.cks.zip (ss.zip gg)).all fun x=>ckFit x.1 x.2
def timFit (a:At)(tt:List Int):Bool:=tt.all fun t=>inB t 0 a.mins
def fitB (a:At)(ss gg tt:List Int):Bool:=lenFit a ss gg tt&&(timFit a tt&&(cksFit a ss gg&&(a.rds.all (rdFit ss gg tt)&&a.gps.all (gpFit tt))))
theorem lenFit_iff {a:At}{ss gg tt:List Int}:lenFit a ss gg tt=true↔ss.length=a.cks.length∧gg.length=a.cks.length∧(tt.length:Int)=a.evs:=by
 simp only[lenFit,Bool.and_eq_true,decide_eq_true_eq]
theorem getD_at {l:List Int}{i:Nat}(h:i<l.length):l.getD i 0=l[i]:=by rw[List.getD_eq_getElem?_getD,List.getElem?_eq_getElem h];rfl
theorem Right.rdn {a:At}(r:Right a){x:Rd}(hx:x∈a.rds):∃i e:Nat,x.ck=i∧x.ev=e∧i<a.cks.length∧(e:Int)<a.evs∧e<4:=by
 have h:=r.ro x hx
 have he:=r.evs
 simp only[At.rdOk,At.ckB,At.evB,Bool.and_eq_true,inB_iff] at h
 exact⟨x.ck.toNat,x.ev.toNat,by omega,by omega,by omega,by omega,by omega⟩
theorem Right.gpn {a:At}(r:Right a){x:Gp}(hx:x∈a.gps):∃i e:Nat,x.fr=i∧x.to=e∧(i:Int)<a.evs∧(e:Int)<a.evs∧i<4∧e<4:=by
 have h:=r.go x hx
 have he:=r.evs
 simp only[At.gpOk,At.evB,Bool.and_eq_true,inB_iff] at h
 exact⟨x.fr.toNat,x.to.toNat,by omega,by omega,by omega,by omega,by omega,by omega⟩
theorem zip_get {ss gg:List Int}{i:Nat}{s:Int × Int}:(ss.zip gg)[i]? =some s↔ss[i]? =some s.1∧gg[i]? =some s.2:=List.getElem?_zip_eq_some
theorem fitB_iff {a:At}(r:Right a){ss gg tt:List Int}:fitB a ss gg tt=true↔(ss.length=a.cks.length∧gg.length=a.cks.length∧(tt.length:Int)=a.evs)∧Tru a (fun _=>true) (ss.zip gg) (timeF tt):=by
 have he:=r.evs
 have hm:=r.mins
 simp only[fitB,Bool.and_eq_true,lenFit_iff,timFit,cksFit,List.all_eq_true]
 refine and_congr_right fun⟨l1,l2,l3⟩=>⟨fun⟨h1,h2,h3,h4⟩=>?_,fun t=>⟨fun n hn=>?_,fun x hx=>?_,fun x hx=>?_,fun x hx=>?_⟩⟩
 ·refine⟨by rw[List.length_zip,l1,l2,Nat.min_self],fun k s hs=>?_,?_,fun e _=>?_,fun g hg=>?_,fun j x hx _ s hs=>?_⟩
  ·obtain⟨q1,q2⟩:=zip_get.1 hs
   have hk:=getl q1
   have hc:a.cks[k]? =some a.cks[k]:=List.getElem?_eq_getElem (by omega)
   have:=h2 (a.cks[k],s) (List.mem_of_getElem? (i:=k) (List.getElem?_zip_eq_some.2 ⟨hc,hs⟩))
   simp only[ckFit,Bool.and_eq_true,inB_iff] at this
   exact RunOf.mk' hc this.1.1 this.1.2 this.2.1 this.2.2
  ·unfold timeF
   rw[List.getD_eq_getElem?_getD,List.getElem?_eq_none (by omega)];rfl
  ·unfold timeF
   rw[List.getD_eq_getElem?_getD]
   cases h:tt[e]? with
   |none=>exact⟨Int.le_refl _,by show(0:Int)≤_;omega⟩
   |some t=>exact(inB_iff ..).1 (h1 t (List.mem_of_getElem? h))
  ·have:=h4 g hg
   simp only[gpFit,inB_iff] at this
   exact this
  ·obtain⟨q1,q2⟩:=zip_get.1 hs
   have:=h3 x (List.mem_of_getElem? hx)
   simp only[rdFit,decide_eq_true_eq] at this
   rw[List.getD_eq_getElem?_getD,List.getD_eq_getElem?_getD,q1,q2] at this
   exact this
 ·obtain⟨i,hi,rfl⟩:=List.mem_iff_getElem.1 hn
  have:=t.mins i (by omega)
  rw[inB_iff]
  rwa[timeF_at (List.getElem?_eq_getElem hi)] at this
 ·obtain⟨i,hi⟩:=List.mem_iff_getElem?.1 hx
  obtain⟨q1,q2⟩:=List.getElem?_zip_eq_some.1 hi
  obtain⟨⟨c,hc,h1,h2,h3,h4⟩⟩:=t.run i _ q2
  rw[q1] at hc;cases hc
  simp only[ckFit,Bool.and_eq_true,inB_iff]
  exact⟨⟨h1,h2⟩,h3,h4⟩
 ·obtain⟨j,hj⟩:=List.mem_iff_getElem?.1 hx
  obtain⟨i,e,ei,ee,hi,_,_⟩:=r.rdn hx
  have hs:(ss.zip gg)[x.ck.toNat]? =some (ss.getD x.ck.toNat 0,gg.getD x.ck.toNat 0):=by
   rw[ei,Int.toNat_natCast,zip_get,getD_at (by omega),getD_at (by omega)]
   exact⟨List.getElem?_eq_getElem (by omega),List.getElem?_eq_getElem (by omega)⟩
  simp only[rdFit,decide_eq_true_eq]
  exact t.rds j x hj rfl _ hs
 ·simp only[gpFit,inB_iff]
  exact t.gaps x hx
theorem Tru.cut {a:At}(r:Right a){cnt:Nat→Bool}{runs:Runs}{y:Nat→Int}(t:Tru a cnt runs y):Tru a cnt runs (timeF ((List.range a.evs.toNat).map y)):=by
 have he:=r.evs
 have hm:=r.mins
 have key:∀e:Nat,(e:Int)<a.evs→timeF ((List.range a.evs.toNat).map y) e=y e:=fun e h=>timeF_at (by rw[List.getElem?_map,List.getElem?_range (by omega)];rfl)
 have key2:∀e:Nat,a.evs≤(e:Int)→timeF ((List.range a.evs.toNat).map y) e=0:=fun e h=>by
  unfold timeF
  rw[List.getD_eq_getElem?_getD,List.getElem?_eq_none (by rw[List.length_map,List.length_range];omega)];rfl
 refine⟨t.len,t.run,key2 4 (by omega),fun e h=>?_,fun g hg=>?_,fun j x hx hc s hs=>?_⟩
 ·rcases(by omega:(e:Int)<a.evs∨a.evs≤(e:Int)) with h1|h1
  ·rw[key e h1];exact t.mins e h
  ·rw[key2 e h1];omega
 ·obtain⟨i,e,e1,e2,h1,h2,_,_⟩:=r.gpn hg
  have:=t.gaps g hg
  rw[e1,e2,Int.toNat_natCast,Int.toNat_natCast] at this⊢
  rw[key i h1,key e h2];exact this
 ·obtain⟨i,e,e1,e2,_,h2,_⟩:=r.rdn (List.mem_of_getElem? hx)
  have:=t.rds j x hx hc s hs
  rw[e2,Int.toNat_natCast] at this⊢
  rw[key e h2];exact this
theorem zip_unzip (l:Runs):(l.map Prod.fst).zip (l.map Prod.snd)=l:=by
 induction l with
 |nil=>rfl
 |cons x l ih=>simp only[List.map_cons,List.zip_cons_cons,ih]
theorem Tru.fit {a:At}(r:Right a){runs:Runs}{y:Nat→Int}(t:Tru a (fun _=>true) runs y):fitB a (runs.map Prod.fst) (runs.map Prod.snd) ((List.range a.evs.toNat).map y)=true:=by
 have he:=r.evs
 refine(fitB_iff r).2 ⟨⟨by rw[List.length_map];exact t.len,by rw[List.length_map];exact t.len,by rw[List.length_map,List.length_range];omega⟩,?_⟩
 rw[zip_unzip]
 exact t.cut r
end Go.Ab.Tryz
namespace Go.Ab.Tryz
open Go.Proofs
abbrev TruA (a:At) (runs:Runs) (y:Nat→Int):Prop:=Tru a (fun _=>true) runs y
theorem noC {a:At}(r:Right a):allC a=[]↔∀runs y,¬TruA a runs y:=by
 constructor
 ·intro h runs y t
  obtain⟨L,hL⟩:=cases_full r t
  have:(runs,L)∈allC a:=hL
  rw[h] at this;cases this
 ·intro h
  cases hc:allC a with
  |nil=>rfl
  |cons t l=>
   have ht:t∈casesL a (fun _=>true):=by show t∈allC a;rw[hc];exact List.mem_cons_self ..
   exact absurd (lat_tru r ht (f:=4) (by omega)) (h _ _)
def At.addG (a:At)(g:Gp):At:={a with gps:=a.gps++[g]}
theorem mem_get_app {α:Type}{l:List α}{x:α}{i:Nat}{y:α}:(l++[x])[i]? =some y↔l[i]? =some y∨i=l.length∧y=x:=by
 rcases Nat.lt_trichotomy i l.length with h|h|h
 ·rw[List.getElem?_append_left h]
  constructor
  ·exact .inl
  ·rintro(h'|⟨h',_⟩)
   ·exact h'
   ·omega
 ·subst h
  rw[List.getElem?_append_right (Nat.le_refl _),Nat.sub_self,List.getElem?_eq_none (Nat.le_refl _)]
  simp only[List.getElem?_cons_zero,Option.some.injEq,reduceCtorEq,false_or,true_and]
  exact eq_comm
 ·rw[List.getElem?_eq_none (by simp;omega),List.getElem?_eq_none (by omega)]
  constructor
  ·intro h';cases h'
  ·rintro(h'|⟨h',_⟩)
   ·cases h'
   ·omega
end Go.Ab.Tryz
namespace Go.Ab
section
variable {α:Type} [DecidableEq α] {l:List α}
end
namespace Tryz
open Go.Proofs
end Tryz
end Go.Ab
namespace Go.Ab.Tryz
open Go.Proofs
structure TrAt (h:H)(S G T:V)(ss gg tt:List Int):Prop where
 s:SlAt h S 1 (ss.map encI)
 g:SlAt h G 1 (gg.map encI)
 t:SlAt h T 1 (tt.map encI)
theorem TrAt.mono {h h':H}{S G T:V}{ss gg tt:List Int}(x:TrAt h S G T ss gg tt)(s:h.Sub h'):TrAt h' S G T ss gg tt:=⟨x.s.mono s,x.g.mono s,x.t.mono s⟩
theorem cksFit_of {a:At}{ss gg:List Int}(h:∀(j:Nat) c s g,a.cks[j]? =some c→ss[j]? =some s→gg[j]? =some g→ckFit c (s,g)=true):cksFit a ss gg=true:=by
 refine List.all_eq_true.2 fun x hx=>?_
 obtain⟨i,hi⟩:=List.mem_iff_getElem?.1 hx
 obtain⟨q1,q2⟩:=List.getElem?_zip_eq_some.1 hi
 obtain⟨q3,q4⟩:=zip_get.1 q2
 exact h i _ _ _ q1 q3 q4
theorem cksFit_at {a:At}{ss gg:List Int}(h:cksFit a ss gg=true){j:Nat}{c:Ck}{s g:Int}(q1:a.cks[j]? =some c)(q2:ss[j]? =some s)(q3:gg[j]? =some g):ckFit c (s,g)=true:=
 List.all_eq_true.1 h (c,(s,g)) (List.mem_of_getElem? (i:=j) (List.getElem?_zip_eq_some.2 ⟨q1,zip_get.2 ⟨q2,q3⟩⟩))
theorem fitB_parts {a:At}{ss gg tt:List Int}:fitB a ss gg tt=true↔lenFit a ss gg tt=true∧timFit a tt=true∧cksFit a ss gg=true∧a.rds.all (rdFit ss gg tt)=true∧a.gps.all (gpFit tt)=true:=by
 simp only[fitB,Bool.and_eq_true]
theorem ckFit_run {a:At}(r:Right a){c:Ck}(hc:c∈a.cks){s g:Int}(h:ckFit c (s,g)=true):RunIn s g:=by
 have:=r.cb c hc
 simp only[Ck.bd,within,Bool.and_eq_true,inB_iff] at this
 simp only[ckFit,Bool.and_eq_true,inB_iff] at h
 exact⟨by omega,by omega,by omega,by omega⟩
end Go.Ab.Tryz
namespace Go.Ab.Tryz
open Go.Proofs
def gapB (tt:List Int)(g:Gp):Bool:=inB (timeF tt g.to.toNat-timeF tt g.fr.toNat) g.lo g.hi
def gapsB (a:At)(tt:List Int):Bool:=a.gps.all (gapB tt)
theorem all_take_ok {α:Type}{p:α→Bool}{l:List α}{i:Nat}(hi:i<l.length)(h:(l.take i).all p=true)(hp:p l[i]=true):(l.take (i+1)).all p=true:=by
 rw[List.take_add_one,List.getElem?_eq_getElem hi,List.all_append,h]
 simp[hp]
theorem all_bad {α:Type}{p:α→Bool}{l:List α}{i:Nat}(hi:i<l.length)(hp:p l[i]=false):l.all p=false:=by
 rw[←Bool.not_eq_true,List.all_eq_true]
 intro h
 rw[h _ (List.getElem_mem hi)] at hp;cases hp
set_option maxHeartbeats 2000000 in
theorem refGaps_ev {h:H}(hw:h.wf){a:At}{C R G:V}(x:AtAt h C R G a)(r:Right a){y:V}{tt:List Int}(hy:SlAt h y 1 (tt.map encI))(hl:(tt.length:Int)=a.evs)(hb:∀t∈tt,0≤t∧t≤240)(Q:V→H→Prop)(q:∀h',h.Sub h'→Q (.bool (gapsB a tt)) h'):
  Ev fnG fastA (.fn 96 [] []) [.agg (atV a C R G),y] h Q:=by
 have oC:=x.c.one;have oR:=x.r.one;have oG:=x.g.one
 have oy:=hy.one
 have hlG:=x.g.lenE
 have rl:=r.lens
 refine Ev_body (fd:=c96) rfl rfl rfl ?_
 obtain⟨z,hz⟩:∃z,h.add (.cells .rw (atV a C R G))=z:=⟨_,rfl⟩
 have sz:h.Sub z:=by rw[←hz];exact(by repeat(first|assumption|exact H.Sub.refl (by assumption)|refine H.Sub.add ?_ _|refine H.Sub.set ?_ (by first|omega|(simp only[H.next_add,H.next_set,H.next_del]<;>omega)) (by first|omega|(simp only[H.next_add,H.next_set,H.next_del]<;>omega)) (by assumption) _))
 have ga:z.get h.next=some (.cells .rw (atV a C R G)):=by rw[←hz];exact get_add_new rfl
 simp -implicitDefEqProofs(maxSteps:=999999)(disch:=first|with_reducible rfl|omega|(simp only[nA,nS,nD]<;>omega)|fail)only[c96,go_sem,oC,oR,oG]
 rw[hz]
 clear hz
 refine W_count a.gps.length (fun i s=>∃tm z',s=⟨tm,z',[]⟩∧z.Sub z'∧(a.gps.take i).all (gapB tt)=true∧(Opd.t 1).ev tm=y∧(Opd.t 2).ev tm=.ptr h.next 0∧(Opd.t 5).ev tm=.int .i64 (i:Int)) ?_ ?_ (i:=0) (Nat.zero_le _)
  ⟨_,_,rfl,H.Sub.refl sz.wf,by simp,(by simp[ev_c,ev_put]<;>rfl),(by simp[ev_c,ev_put]<;>rfl),(by simp[ev_c,ev_put]<;>rfl)⟩
 ·rintro i s hi ⟨tm,z',rfl,sz',hall,t1,t2,t5⟩
  have hi':(i:Int)<(a.gps.length:Int):=by omega
  have s0:=sz.trans sz'
  obtain⟨bG,oGG,cG,csG,_,hcG,hqG,hgG,_,_⟩:=(x.g.mono s0).at hi
  have hm:=List.getElem_mem hi
  have hok:=fun hp=>all_take_ok (p:=gapB tt) hi hall hp
  have hbad:=fun hp=>all_bad (p:=gapB tt) hi hp
  generalize a.gps[i]=g at hgG hm hok hbad
  obtain⟨fr,to,e1,e2,f1,f2,_,_⟩:=r.gpn hm
  have hfr:fr<tt.length:=by omega
  have hto:to<tt.length:=by omega
  have hbf:=hb _ (List.getElem_mem hfr)
  have hbt:=hb _ (List.getElem_mem hto)
  have vf:=timeF_at (List.getElem?_eq_getElem hfr)
  have vt:=timeF_at (List.getElem?_eq_getElem hto)
  have hgap:gapB tt g=inB (tt[to]-tt[fr]) g.lo g.hi:=by unfold gapB;rw[e1,e2,Int.toNat_natCast,Int.toNat_natCast,vf,vt]
  simp only[encG,e1,e2] at hgG
  obtain⟨z2,hz2⟩:∃z2,z'.add (.cells .rw [.int .i64 (fr:Int),.int .i64 (to:Int),.int .i64 g.lo,.int .i64 g.hi])=z2:=⟨_,rfl⟩
  have s2:z'.Sub z2:=by rw[←hz2];exact(H.Sub.refl s0.wf).add _
  have g6:z2.get z'.next=some (.cells .rw [.int .i64 (fr:Int),.int .i64 (to:Int),.int .i64 g.lo,.int .i64 g.hi]):=by rw[←hz2];exact get_add_new rfl
  have s02:=s0.trans s2
  obtain⟨bF,oF,cF,csF,_,hcF,hqF,_,_,nF⟩:=(hy.mono s02).at hfr
  obtain⟨bT,oT,cT,csT,_,hcT,hqT,_,_,nT⟩:=(hy.mono s02).at hto
  have wF:=nF (by decide)
  have wT:=nT (by decide)
  simp only[encI,List.getElem?_cons_zero] at wF wT
  generalize tt[fr]=vfr at wF hbf hgap
  generalize tt[to]=vto at wT hbt hgap
  have ws:wr .i64 (vto-vfr)=vto-vfr:=wr_in (by omega) (by omega)
  cases hg:inB (vto-vfr) g.lo g.hi with
  |true=>
   rw[hg] at hgap
   simp -implicitDefEqProofs(maxSteps:=999999)(disch:=first|with_reducible rfl|omega|(simp only[nA,nS,nD]<;>omega)|fail)only[go_sem,t1,t2,t5,hlG,hi',cells_of (sz'.get ga),hqG (nat_cst i),hcG,hgG,hz2,cells_of g6,hqF (nat_cst fr),hqT (nat_cst to),hcF,hcT,wF,wT,ws,off_eq,hg,wr_succ]
   exact⟨_,_,rfl,sz'.trans s2,hok hgap,(by simp[ev_c,ev_put,t1]<;>rfl),(by simp[ev_c,ev_put,t2]<;>rfl),(by simp[ev_c,ev_put]<;>rfl)⟩
  |false=>
   rw[hg] at hgap
   have e:gapsB a tt=false:=hbad hgap
   rw[e] at q
   simp -implicitDefEqProofs(maxSteps:=999999)(disch:=first|with_reducible rfl|omega|(simp only[nA,nS,nD]<;>omega)|fail)only[go_sem,t1,t2,t5,hlG,hi',cells_of (sz'.get ga),hqG (nat_cst i),hcG,hgG,hz2,cells_of g6,hqF (nat_cst fr),hqT (nat_cst to),hcF,hcT,wF,wT,ws,off_eq,hg]
   exact q _ s02
 ·rintro s ⟨tm,z',rfl,sz',hall,t1,t2,t5⟩
  rw[List.take_length] at hall
  have e:gapsB a tt=true:=hall
  rw[e] at q
  simp -implicitDefEqProofs(maxSteps:=999999)(disch:=first|with_reducible rfl|omega|(simp only[nA,nS,nD]<;>omega)|fail)only[go_sem,t1,t2,t5,hlG,Int.lt_irrefl,cells_of (sz'.get ga)]
  exact q _ (sz.trans sz')
end Go.Ab.Tryz
namespace Go.Ab.Tryz
open Go.Proofs
def bitI (f:Nat→Bool):Nat→Int
 |0=>0
 |i+1=>bitI f i+if f i=true then 2^i else 0
theorem bitI_bd (f:Nat→Bool):∀i,0≤bitI f i∧bitI f i<2^i
 |0=>by simp[bitI]
 |i+1=>by
  have h:=bitI_bd f i
  have e:(2:Int)^(i+1)=2*2^i:=by rw[Int.pow_succ];omega
  unfold bitI
  split<;>omega
def missB (a:At)(ss gg tt:List Int)(i:Nat):Bool:=match a.rds[i]? with
 |some r=>decide (shw (ss.getD r.ck.toNat 0) (gg.getD r.ck.toNat 0) (timeF tt r.ev.toNat)≠r.sh)
 |none=>false
def missI (a:At)(ss gg tt:List Int):Int:=bitI (missB a ss gg tt) a.rds.length
theorem pow8 {i:Nat}(h:i≤8):1≤(2:Int)^i∧(2:Int)^i≤256:=by
 rcases(by omega:i=0∨i=1∨i=2∨i=3∨i=4∨i=5∨i=6∨i=7∨i=8) with rfl|rfl|rfl|rfl|rfl|rfl|rfl|rfl|rfl<;>decide
set_option maxHeartbeats 4000000 in
theorem Missed_ev {h:H}(hw:h.wf){a:At}{C R G:V}(x:AtAt h C R G a)(r:Right a){S Ga Tm:V}{ss gg tt:List Int}(t:TrAt h S Ga Tm ss gg tt)(ls:ss.length=a.cks.length)(lg:gg.length=a.cks.length)(hl:(tt.length:Int)=a.evs)(hb:∀t∈tt,0≤t∧t≤240)
  (hrun:∀(k:Nat) s g,ss[k]? =some s→gg[k]? =some g→RunIn s g) (Q:V→H→Prop) (q:∀h',h.Sub h'→Q (.int .i64 (missI a ss gg tt)) h'):
  Ev fnG fastA (.fn 93 [] []) [.agg (atV a C R G),.agg [S,Ga,Tm]] h Q:=by
 have oC:=x.c.one;have oR:=x.r.one;have oG:=x.g.one
 have oS:=t.s.one;have oGa:=t.g.one;have oTm:=t.t.one
 have hlR:=x.r.lenE
 have rl:=r.lens
 refine Ev_body (fd:=c93) rfl rfl rfl ?_
 obtain⟨z,hz⟩:∃z,(h.add (.cells .rw (atV a C R G))).add (.cells .rw [S,Ga,Tm])=z:=⟨_,rfl⟩
 have sz:h.Sub z:=by rw[←hz];exact(by repeat(first|assumption|exact H.Sub.refl (by assumption)|refine H.Sub.add ?_ _|refine H.Sub.set ?_ (by first|omega|(simp only[H.next_add,H.next_set,H.next_del]<;>omega)) (by first|omega|(simp only[H.next_add,H.next_set,H.next_del]<;>omega)) (by assumption) _))
 have ga:z.get h.next=some (.cells .rw (atV a C R G)):=by rw[←hz];simp -implicitDefEqProofs(maxSteps:=999999)(disch:=first|with_reducible rfl|omega|(simp only[nA,nS,nD]<;>omega)|fail)only[go_sem]
 have gt:z.get (h.next+1)=some (.cells .rw [S,Ga,Tm]):=by rw[←hz];simp -implicitDefEqProofs(maxSteps:=999999)(disch:=first|with_reducible rfl|omega|(simp only[nA,nS,nD]<;>omega)|fail)only[go_sem]
 simp -implicitDefEqProofs(maxSteps:=999999)(disch:=first|with_reducible rfl|omega|(simp only[nA,nS,nD]<;>omega)|fail)only[c93,go_sem,oC,oR,oG,oS,oGa,oTm]
 rw[hz]
 clear hz
 refine W_count a.rds.length (fun i s=>∃tm z',s=⟨tm,z',[]⟩∧z.Sub z'∧(Opd.t 2).ev tm=.ptr h.next 0∧(Opd.t 3).ev tm=.ptr (h.next+1) 0∧(Opd.t 5).ev tm=.int .i64 (bitI (missB a ss gg tt) i)∧(Opd.t 6).ev tm=.int .i64 (2^i)∧(Opd.t 7).ev tm=.int .i64 (i:Int)) ?_ ?_ (i:=0) (Nat.zero_le _)
  ⟨_,_,rfl,H.Sub.refl sz.wf,(by simp[ev_c,ev_put]<;>rfl),(by simp[ev_c,ev_put]<;>rfl),(by simp[ev_c,ev_put]<;>rfl),(by simp[ev_c,ev_put]<;>rfl),(by simp[ev_c,ev_put]<;>rfl)⟩
 ·rintro i s hi ⟨tm,z',rfl,sz',t2,t3,t5,t6,t7⟩
  have hi':(i:Int)<(a.rds.length:Int):=by omega
  have s0:=sz.trans sz'
  obtain⟨bR,oRR,cR,csR,_,hcR,hqR,hgR,_,_⟩:=(x.r.mono s0).at hi
  have hm:=List.getElem_mem hi
  have hg0:a.rds[i]? =some a.rds[i]:=List.getElem?_eq_getElem hi
  generalize a.rds[i]=rr at hgR hm hg0
  obtain⟨k,e,e1,e2,f1,f2,_⟩:=r.rdn hm
  have hkS:k<ss.length:=by omega
  have hkG:k<gg.length:=by omega
  have hel:e<tt.length:=by omega
  have hbt:=hb _ (List.getElem_mem hel)
  have vt:=timeF_at (List.getElem?_eq_getElem hel)
  have hrn:=hrun k _ _ (List.getElem?_eq_getElem hkS) (List.getElem?_eq_getElem hkG)
  have gS:ss.getD k 0=ss[k]:=by rw[List.getD_eq_getElem?_getD,List.getElem?_eq_getElem hkS];rfl
  have gG:gg.getD k 0=gg[k]:=by rw[List.getD_eq_getElem?_getD,List.getElem?_eq_getElem hkG];rfl
  have hms:missB a ss gg tt i=decide (shw ss[k] gg[k] tt[e]≠rr.sh):=by unfold missB;rw[hg0];simp only[e1,e2,Int.toNat_natCast,gS,gG,vt]
  simp only[encR,e1,e2] at hgR
  obtain⟨z2,hz2⟩:∃z2,z'.add (.cells .rw [.int .i64 (k:Int),.int .i64 (e:Int),.int .i64 rr.sh])=z2:=⟨_,rfl⟩
  have s2:z'.Sub z2:=by rw[←hz2];exact(H.Sub.refl s0.wf).add _
  have g8:z2.get z'.next=some (.cells .rw [.int .i64 (k:Int),.int .i64 (e:Int),.int .i64 rr.sh]):=by rw[←hz2];exact get_add_new rfl
  have s02:=s0.trans s2
  have gt2:=(sz'.trans s2).get gt
  obtain⟨bS,oSS,cS,csS,_,hcS,hqS,_,_,nS⟩:=(t.s.mono s02).at hkS
  obtain⟨bG,oGG,cG,csG,_,hcG,hqG,_,_,nG⟩:=(t.g.mono s02).at hkG
  obtain⟨bT,oTT,cT,csT,_,hcT,hqT,_,_,nT⟩:=(t.t.mono s02).at hel
  have wS:=nS (by decide)
  have wG:=nG (by decide)
  have wT:=nT (by decide)
  simp only[encI,List.getElem?_cons_zero] at wS wG wT
  generalize ss[k]=sk at wS hrn hms
  generalize gg[k]=gk at wG hrn hms
  generalize tt[e]=te at wT hbt hms
  have hp:=pow8 (i:=i) (by omega)
  have hbi:=bitI_bd (missB a ss gg tt) i
  have e3:(2:Int)^(i+1)=2*2^i:=by rw[Int.pow_succ];omega
  have w2:wr .i64 (2*2^i)=2^(i+1):=by rw[e3];exact wr_in (by omega) (by omega)
  have w5:wr .i64 (bitI (missB a ss gg tt) i+2^i)=bitI (missB a ss gg tt) i+2^i:=wr_in (by omega) (by omega)
  simp -implicitDefEqProofs(maxSteps:=999999)(disch:=first|with_reducible rfl|omega|(simp only[nA,nS,nD]<;>omega)|fail)only[go_sem,t2,t3,t5,t6,t7,hlR,hi',cells_of (sz'.get ga),hqR (nat_cst i),hcR,hgR,hz2,cells_of g8,cells_of gt2,hqS (nat_cst k),hqG (nat_cst k),hqT (nat_cst e),hcS,hcG,hcT,wS,wG,wT]
  try rw[hz2]
  clear hz2
  refine refShown_ev s02.wf hrn hbt.1 hbt.2 _ ?_
  by_cases hc:shw sk gk te=rr.sh
  ·have hmf:missB a ss gg tt i=false:=by rw[hms];simp[hc]
   have hb1:bitI (missB a ss gg tt) (i+1)=bitI (missB a ss gg tt) i:=by rw[bitI,hmf];simp
   simp -implicitDefEqProofs(maxSteps:=999999)(disch:=first|with_reducible rfl|omega|(simp only[nA,nS,nD]<;>omega)|fail)only[go_sem,t2,t3,t5,t6,t7,hc,ne_eq,not_true_eq_false,decide_true,decide_false,cells_of g8,cells_of gt2,hcS,hcG,hcT,wS,wG,wT,w2,wr_succ]
   exact⟨_,_,rfl,sz'.trans s2,(by simp[ev_c,ev_put,t2]<;>rfl),(by simp[ev_c,ev_put,t3]<;>rfl),by rw[hb1];exact(by simp[ev_c,ev_put,t5]<;>rfl),(by simp[ev_c,ev_put]<;>rfl),(by simp[ev_c,ev_put]<;>rfl)⟩
  ·have hmf:missB a ss gg tt i=true:=by rw[hms];simp[hc]
   have hb1:bitI (missB a ss gg tt) (i+1)=bitI (missB a ss gg tt) i+2^i:=by rw[bitI,hmf];simp
   simp -implicitDefEqProofs(maxSteps:=999999)(disch:=first|with_reducible rfl|omega|(simp only[nA,nS,nD]<;>omega)|fail)only[go_sem,t2,t3,t5,t6,t7,hc,ne_eq,not_false_eq_true,decide_true,decide_false,cells_of g8,cells_of gt2,hcS,hcG,hcT,wS,wG,wT,w2,w5,wr_succ]
   exact⟨_,_,rfl,sz'.trans s2,(by simp[ev_c,ev_put,t2]<;>rfl),(by simp[ev_c,ev_put,t3]<;>rfl),by rw[hb1];exact(by simp[ev_c,ev_put]<;>rfl),(by simp[ev_c,ev_put]<;>rfl),(by simp[ev_c,ev_put]<;>rfl)⟩
 ·rintro s ⟨tm,z',rfl,sz',t2,t3,t5,t6,t7⟩
  simp -implicitDefEqProofs(maxSteps:=999999)(disch:=first|with_reducible rfl|omega|(simp only[nA,nS,nD]<;>omega)|fail)only[go_sem,t2,t3,t5,t6,t7,hlR,Int.lt_irrefl,cells_of (sz'.get ga)]
  exact q _ (sz.trans sz')
end Go.Ab.Tryz
namespace Go.Ab
end Go.Ab
namespace Go.Ab.Tryz
open Go.Proofs
structure AtOw (h0 h:H)(C R G:V)(a:At):Prop where
 c:OwnC h0 h C 4 (a.cks.map encC)
 r:OwnC h0 h R 3 (a.rds.map encR)
 g:OwnC h0 h G 4 (a.gps.map encG)
 cr:∀b,blkOf C b→¬blkOf R b
 cg:∀b,blkOf C b→¬blkOf G b
 rg:∀b,blkOf R b→¬blkOf G b
variable {h0 h1 h h':H} {C R G:V} {a:At}
theorem AtOw.sub (o:AtOw h0 h C R G a):h0.Sub h:=o.c.1
theorem AtOw.at_ (o:AtOw h0 h C R G a)(l:SmallA a):AtAt h C R G a:=
 ⟨o.c.sl (by rw[List.length_map];have:=l.c;omega),o.r.sl (by rw[List.length_map];have:=l.r;omega),o.g.sl (by rw[List.length_map];have:=l.g;omega)⟩
theorem AtOw.mono (o:AtOw h0 h C R G a)(s:h.Sub h'):AtOw h0 h' C R G a:=⟨o.c.mono s,o.r.mono s,o.g.mono s,o.cr,o.cg,o.rg⟩
theorem AtOw.base (o:AtOw h1 h C R G a)(s:h0.Sub h1):AtOw h0 h C R G a:=⟨o.c.base s,o.r.base s,o.g.base s,o.cr,o.cg,o.rg⟩
def atBlk (C R G:V)(b:Nat):Prop:=blkOf C b∨blkOf R b∨blkOf G b
theorem AtOw.blk (o:AtOw h0 h C R G a){b:Nat}(hb:atBlk C R G b):h0.next≤b∧b<h.next:=by
 rcases hb with hb|hb|hb
 ·exact⟨(o.c.blk hb).1,(o.c.blk hb).2.1⟩
 ·exact⟨(o.r.blk hb).1,(o.r.blk hb).2.1⟩
 ·exact⟨(o.g.blk hb).1,(o.g.blk hb).2.1⟩
theorem AtOw.keep (o:AtOw h0 h C R G a){S:Nat→Prop}(k:Keeps S h h')(s:h0.Sub h')(n:∀b,atBlk C R G b→¬S b):AtOw h0 h' C R G a:=
 ⟨o.c.keep k s fun b hb=>n b (.inl hb),o.r.keep k s fun b hb=>n b (.inr (.inl hb)),o.g.keep k s fun b hb=>n b (.inr (.inr hb)),o.cr,o.cg,o.rg⟩
theorem OwnC.full {sz n b:Nat}{x:V}{rows:List (List V)}(hs:h0.Sub h)(hx:x=.sl b 0 n (.fix n))(hn:n=rows.length)(hr:∀r∈rows,r.length=sz)(l1:h0.next≤b)(l2:b<h.next)(hg:h.get b=some (.cells .rw rows.flatten)):OwnC h0 h x sz rows:=by
 subst hn
 exact⟨hs,hr,.inr (.inr ⟨b,rows.length,[],hx,l1,l2,by rw[List.append_nil];exact hg,by rw[List.length_nil,Nat.add_zero],Nat.le_refl _⟩)⟩
theorem AtNew.ow (n:AtNew h0 h C R G a):AtOw h0 h C R G a:=by
 obtain⟨b1,b2,b3,rfl,rfl,rfl,l0,l1,l2,l3,g1,g2,g3⟩:=n.is
 refine⟨OwnC.full n.s rfl (by simp) (fun r hr=>by obtain⟨c,_,rfl⟩:=List.mem_map.1 hr;rfl) (by omega) (by omega) g1,OwnC.full n.s rfl (by simp) (fun r hr=>by obtain⟨c,_,rfl⟩:=List.mem_map.1 hr;rfl) (by omega) (by omega) g2,
  OwnC.full n.s rfl (by simp) (fun r hr=>by obtain⟨c,_,rfl⟩:=List.mem_map.1 hr;rfl) (by omega) (by omega) g3,?_,?_,?_⟩<;>(rintro b ⟨_,_,_,e⟩ ⟨_,_,_,e'⟩;cases e;cases e';omega)
def At.none:At:=⟨0,0,[],[],[]⟩
theorem AtOw.none (s:h0.Sub h):AtOw h0 h .nils .nils .nils At.none:=⟨(OwnSl.nil s 4).c,(OwnSl.nil s 3).c,(OwnSl.nil s 4).c,fun b hb=>(blkOf_nils hb).elim,fun b hb=>(blkOf_nils hb).elim,fun b hb=>(blkOf_nils hb).elim⟩
end Go.Ab.Tryz
namespace Go.Ab.Tryz
open Go.Proofs
end Go.Ab.Tryz
namespace Go.Ab.Tryz
open Go.Proofs
theorem indexFuncInt_ev {l:List Int}{p:Int→Bool}{h:H}{x f:V}(hw:h.wf)(hx:SlAt h x 1 (l.map encI))(hp:∀a∈l,PureA h f [.int .i64 a] (.bool (p a))):
  E (.fn 143 [] []) [x,f] h fun v h'=>v=.int .i64 (fidx p l 0)∧h.Sub h':=by
 have hb:=hx.boundE
 refine Ev_body (fd:=c143) rfl rfl rfl ?_
 simp -implicitDefEqProofs(maxSteps:=999999)(disch:=first|with_reducible rfl|omega|(simp only[nA,nS,nD]<;>omega)|fail)only[c143,go_sem,hx.lenE]
 refine W_count l.length (fun i s=>∃tm h',s=⟨tm,h',[]⟩∧h.Sub h'∧(Opd.t 0).ev tm=x∧(Opd.t 1).ev tm=f∧(Opd.t 7).ev tm=.int .i64 (l.length:Int)∧(Opd.t 8).ev tm=.int .i64 (i:Int)∧fidx p l 0=fidx p (l.drop i) i)
  ?_ ?_ (i:=0) (Nat.zero_le _) ⟨_,_,rfl,H.Sub.refl hw,(by simp[ev_c,ev_put]<;>rfl),(by simp[ev_c,ev_put]<;>rfl),(by simp[ev_c,ev_put]<;>rfl),(by simp only[ev_put];rfl),rfl⟩
 ·rintro i s hi ⟨tm,h',rfl,hs,e0,e1,e7,e8,e9⟩
  have hi':(i:Int)<(l.length:Int):=by omega
  obtain⟨b,o,c,cs,rfl,hc,hq,hg,hn,hn0⟩:=(hx.mono hs).at hi
  simp -implicitDefEqProofs(maxSteps:=999999)(disch:=first|with_reducible rfl|omega|(simp only[nA,nS,nD]<;>omega)|fail)only[go_sem,e0,e1,e7,e8,hi',hq (nat_cst i),hc,hn0 (by omega),encI]
  refine(hp _ (List.getElem_mem hi)).use hs fun h2 hs2=>?_
  cases hpr:p l[i] with
  |true=>
   simp -implicitDefEqProofs(maxSteps:=999999)(disch:=first|with_reducible rfl|omega|(simp only[nA,nS,nD]<;>omega)|fail)only[go_sem,e0,e1,e7,e8]
   exact⟨by rw[e9,fidx_hit hi hpr],hs.trans hs2⟩
  |false=>
   simp -implicitDefEqProofs(maxSteps:=999999)(disch:=first|with_reducible rfl|omega|(simp only[nA,nS,nD]<;>omega)|fail)only[go_sem,e0,e1,e7,e8,wr_succ]
   exact⟨_,_,rfl,hs.trans hs2,(by simp[ev_c,ev_put,e0]<;>rfl),(by simp[ev_c,ev_put,e1]<;>rfl),(by simp[ev_c,ev_put,e7]<;>rfl),(by simp[ev_c,ev_put]<;>rfl),by rw[e9,fidx_miss hi hpr]⟩
 ·rintro s ⟨tm,h',rfl,hs,e0,e1,e7,e8,e9⟩
  simp -implicitDefEqProofs(maxSteps:=999999)(disch:=first|with_reducible rfl|omega|(simp only[nA,nS,nD]<;>omega)|fail)only[go_sem,e0,e1,e7,e8,Int.lt_irrefl]
  exact⟨by rw[e9];simp[fidx],hs⟩
theorem containsFuncInt_ev {l:List Int}{p:Int→Bool}{h:H}{x f:V}(hw:h.wf)(hx:SlAt h x 1 (l.map encI))(hp:∀a∈l,PureA h f [.int .i64 a] (.bool (p a))):
  E (.fn 58 [] []) [x,f] h fun v h'=>v=.bool (l.any p)∧h.Sub h':=by
 refine Ev_body (fd:=c58) rfl rfl rfl ?_
 simp -implicitDefEqProofs(maxSteps:=999999)(disch:=first|with_reducible rfl|omega|(simp only[nA,nS,nD]<;>omega)|fail)only[c58,go_sem]
 refine(indexFuncInt_ev hw hx hp).mono fun v h' hv=>?_
 obtain⟨rfl,hs⟩:=hv
 simp -implicitDefEqProofs(maxSteps:=999999)(disch:=first|with_reducible rfl|omega|(simp only[nA,nS,nD]<;>omega)|fail)only[go_sem]
 exact⟨by rw[fidx_any],hs⟩
theorem everyInt_ev {l:List Int}{p:Int→Bool}{h:H}{x:V}{g:FuncId}{u w:List V}(hw:h.wf)(hx:SlAt h x 1 (l.map encI))(hp:∀a∈l,PureA h (.fn g u w) [.int .i64 a] (.bool (p a))):
  E (.fn 112 [] []) [x,.fn g u w] h fun v h'=>v=.bool (l.all p)∧h.Sub h':=by
 refine Ev_body (fd:=c112) rfl rfl rfl ?_
 simp -implicitDefEqProofs(maxSteps:=999999)(disch:=first|with_reducible rfl|omega|(simp only[nA,nS,nD]<;>omega)|fail)only[c112,go_sem]
 have hs1:h.Sub (h.add (.cells .rw [.fn g u w])):=(H.Sub.refl hw).add _
 refine(containsFuncInt_ev (p:=fun a=> !p a) hs1.wf (hx.mono hs1) fun a ha h2 hs2=>?_).mono fun v h' hv=>?_
 ·have hc:h2.cells h.next=some [.fn g u w]:=hs2.cells (cells_add_new rfl)
  have hl:h.next<h2.next:=by have:=hs2.next;rw[H.next_add] at this;omega
  refine Ev_body (fd:=c159) rfl rfl rfl ?_
  simp -implicitDefEqProofs(maxSteps:=999999)(disch:=first|with_reducible rfl|omega|(simp only[nA,nS,nD]<;>omega)|fail)only[c159,go_sem,hc]
  refine((hp a ha).mono hs1).use hs2 fun h3 hs3=>?_
  simp -implicitDefEqProofs(maxSteps:=999999)(disch:=first|with_reducible rfl|omega|(simp only[nA,nS,nD]<;>omega)|fail)only[go_sem]
  exact hs3
 ·obtain⟨rfl,hs⟩:=hv
  simp -implicitDefEqProofs(maxSteps:=999999)(disch:=first|with_reducible rfl|omega|(simp only[nA,nS,nD]<;>omega)|fail)only[go_sem]
  exact⟨by rw[any_not],hs1.trans hs⟩
theorem dupInt_ev {h:H}{x:V}{l:List Int}(hw:h.wf)(hx:SlAt h x 1 (l.map encI))(hl:l.length≤1000000)(Q:V→H→Prop):
  Ev fnG fastA (.fn 40 [] []) [x] h Q=Q (.sl h.next 0 l.length (.fix l.length)) (h.add (.cells .rw (l.map encI).flatten)):=by
 refine Ev.det (Ev_body (fd:=c40) rfl rfl rfl ?_) Q
 simp -implicitDefEqProofs(maxSteps:=999999)(disch:=first|with_reducible rfl|omega|(simp only[nA,nS,nD]<;>omega)|fail)only[c40,go_sem,hx.lenE,a_msl_0n]
 have:=dup_core (by_:=8) (z:=[.int .i64 0]) hx hw rfl (by omega) (allOne_flat (fun a=>rfl) l)
 rw[List.length_map] at this
 simp -implicitDefEqProofs(maxSteps:=999999)(disch:=first|with_reducible rfl|omega|(simp only[nA,nS,nD]<;>omega)|fail)only[go_sem,this]
end Go.Ab.Tryz
namespace Go.Ab.Tryz
open Go.Proofs
theorem sl_noInt {h:H}{x:V}{sz:Nat}{rows:List (List V)}(a:SlAt h x sz rows)(k:IntKind)(m:Int):x≠.int k m:=by
 rcases a.2.2 with⟨e,_⟩|⟨_,_,_,_,e,_⟩<;>rw[e]<;>simp
theorem ints_keep {h h':H}{S:Nat→Prop}{x:V}{l:List Int}(w:SlAt h x 1 (l.map encI))(k:Keeps S h h')(n:∀b cs,S b→h.cells b=some cs→∀m,V.int .i64 m ∉cs):SlAt h' x 1 (l.map encI):=by
 obtain⟨a1,a0,a2⟩:=w
 refine⟨a1,a0,?_⟩
 rcases a2 with a2|⟨b,o,c,cs,e1,e2,e3⟩
 ·exact .inl a2
 ·refine .inr ⟨b,o,c,cs,e1,?_,e3⟩
  cases hm:l with
  |nil=>exact .inl (by simp)
  |cons m ms'=>
   rw[hm] at e2 e3
   refine .inr ?_
   have e2:=e2.resolve_left (by simp)
   refine k.cells e2 fun hs=>n b cs hs e2 m ?_
   have h1:=(getN_eq.1 e3).1
   have h2:V.int .i64 m∈(((m::ms').map encI).flatten):=by simp[encI]
   rw[h1] at h2
   exact List.mem_of_mem_drop (List.mem_of_mem_take h2)
def Up (n:Nat)(x:V):Prop:=∀b,blkOf x b→n≤b
theorem Up.nils (n:Nat):Up n .nils:=fun b h=>(blkOf_nils h).elim
theorem Up.low {n n':Nat}{x:V}(u:Up n x)(h:n'≤n):Up n' x:=fun b hb=>Nat.le_trans h (u b hb)
theorem Up.sl {n b o k:Nat}{c:Cap}(h:n≤b):Up n (.sl b o k c):=fun b' ⟨_,_,_,e⟩=>by cases e;exact h
theorem ownUp {h0 h:H}{x:V}{sz:Nat}{rows:List (List V)}(a:OwnSl h0 h x sz rows):Up h0.next x:=fun b hb=>(a.blk hb).1
theorem slKeepU {h h':H}{S:Nat→Prop}{x:V}{sz n:Nat}{rows:List (List V)}(w:SlAt h x sz rows)(u:Up n x)(k:Keeps S h h')(hS:∀b,S b→b<n):SlAt h' x sz rows:=by
 obtain⟨a1,a0,a2⟩:=w
 refine⟨a1,a0,?_⟩
 rcases a2 with a2|⟨b,o,c,cs,e1,e2,e3⟩
 ·exact .inl a2
 ·refine .inr ⟨b,o,c,cs,e1,e2.imp id fun e2=>k.cells e2 fun hs=>?_,e3⟩
  have h1:=hS b hs
  have h2:=u b ⟨_,_,_,e1⟩
  omega
structure LL (h0 h:H)(y:V)(L:List (List Int))(vs:List V):Prop where
 o:OwnSl h0 h y 1 (vs.map fun v=>[v])
 len:vs.length=L.length
 e:∀(i:Nat) (v:V) (l:List Int),vs[i]? =some v→L[i]? =some l→SlAt h v 1 (l.map encI)
 u:∀v∈vs,Up h0.next v
variable {h0 h h':H} {y:V} {L:List (List Int)} {vs:List V}
theorem LL.mono (k:LL h0 h y L vs)(s:h.Sub h'):LL h0 h' y L vs:=⟨k.o.mono s,k.len,fun i v l h1 h2=>(k.e i v l h1 h2).mono s,k.u⟩
theorem LL.nil (s:h0.Sub h):LL h0 h .nils [] []:=⟨OwnSl.nil s 1,rfl,fun i v l h1 _=>by simp at h1,fun v hv=>by cases hv⟩
theorem LL.vs_noInt (k:LL h0 h y L vs):∀v∈vs,∀m,v≠.int .i64 m:=fun v hv m=>by
 obtain⟨i,hi,e⟩:=List.getElem_of_mem hv
 have h1:vs[i]? =some v:=by rw[List.getElem?_eq_getElem hi,e]
 have hi2:i<L.length:=by rw[←k.len];exact hi
 have h2:L[i]? =some L[i]:=List.getElem?_eq_getElem hi2
 exact sl_noInt (k.e i v _ h1 h2) _ _
theorem flat_single:∀vs:List V,(vs.map fun v=>[v]).flatten=vs
 |[]=>rfl
 |a::l=>by rw[List.map_cons,List.flatten_cons,flat_single l];rfl
theorem LL.one (k:LL h0 h y L vs):∀v∈vs,v.one=true:=fun v hv=>by
 obtain⟨i,hi,e⟩:=List.getElem_of_mem hv
 have h1:vs[i]? =some v:=by rw[List.getElem?_eq_getElem hi,e]
 have hi2:i<L.length:=by rw[←k.len];exact hi
 have h2:L[i]? =some L[i]:=List.getElem?_eq_getElem hi2
 exact(k.e i v _ h1 h2).one
theorem LL.push (k:LL h0 h y L vs)(hw0:h0.wf)(hl:L.length≤1000000){h1:H}(s:h.Sub h1){v:V}{l:List Int}(hv:SlAt h1 v 1 (l.map encI))(hu:Up h0.next v){Q:V→H→Prop}(q:∀y' h',LL h0 h' y' (L++[l]) (vs++[v])→Q y' h'):
  P2 (e_app' (h1.add (.cells .rw [v])) 1 24 y (.sl h1.next 0 1 (.fix 1))) Q:=by
 have s2:=(H.Sub.refl s.wf).add (.cells .rw [v])
 have k2:=k.mono (s.trans s2)
 have hv2:=hv.mono s2
 have hlen:=k.len
 refine k2.o.app1 (by_:=24) (r:=[v]) hw0 rfl (by omega) (SlAt.new _ rfl rfl (by simp) (by simp) (by simp)) (by rw[allOne_cons,hv.one];rfl) (by rw[List.length_map];omega) (by rw[List.length_map];omega) fun h' o' kk _=>q _ _ ⟨by rw[List.map_append];exact o',by simp[hlen],fun i v' l' e1 e2=>?_,fun v' hv'=>?_⟩
 rotate_left
 ·rcases List.mem_append.1 hv' with hv'|hv'
  ·exact k.u v' hv'
  ·rw[List.mem_singleton] at hv';rw[hv'];exact hu
 have hno:∀b cs,blkOf y b→(h1.add (.cells .rw [v])).cells b=some cs→∀m,V.int .i64 m ∉cs:=fun b cs hb hc=>by
  rcases k2.o.2.2 with⟨e,_⟩|⟨b2,e,_,_,g⟩
  ·rw[e] at hb;exact(blkOf_nils hb).elim
  ·obtain⟨o,n,c,e2⟩:=hb
   rw[e] at e2;cases e2
   rw[cells_of g] at hc;cases hc
   rw[flat_single]
   exact fun m hm=>k.vs_noInt _ hm m rfl
 rcases mem_get_app.1 e1 with e1|⟨q1,rfl⟩
 ·rcases mem_get_app.1 e2 with e2|⟨q2,_⟩
  ·exact ints_keep (k2.e i v' l' e1 e2) kk hno
  ·have:=getl e1;omega
 ·rcases mem_get_app.1 e2 with e2|⟨_,rfl⟩
  ·have:=getl e2;omega
  ·exact ints_keep hv2 kk hno
def LR (n:Nat)(h:H)(y:V)(L:List (List Int)):Prop:=∃vs:List V,SlAt h y 1 (vs.map fun v=>[v])∧vs.length=L.length∧(∀(i:Nat) (v:V) (l:List Int),vs[i]? =some v→L[i]? =some l→SlAt h v 1 (l.map encI))∧Up n y∧∀v∈vs,Up n v
theorem LL.rd (k:LL h0 h y L vs)(hl:L.length≤1000000):LR h0.next h y L:=⟨vs,k.o.c.sl (by rw[List.length_map,k.len];omega),k.len,k.e,(ownUp k.o),k.u⟩
variable {n n':Nat}
theorem LR.mono (k:LR n h y L)(s:h.Sub h'):LR n h' y L:=by
 obtain⟨vs,k1,k2,k3,k4⟩:=k
 exact⟨vs,k1.mono s,k2,fun i v l h1 h2=>(k3 i v l h1 h2).mono s,k4⟩
theorem LR.low (k:LR n h y L)(s:n'≤n):LR n' h y L:=by
 obtain⟨vs,k1,k2,k3,k4,k5⟩:=k
 exact⟨vs,k1,k2,k3,k4.low s,fun v hv=>(k5 v hv).low s⟩
theorem LR.lenE (k:LR n h y L):q_len y=some (.int .i64 (L.length:Int)):=by
 obtain⟨vs,k1,k2,k3⟩:=k
 have:=k1.lenE
 rw[←k2];exact this
theorem LR.at_ (k:LR n h y L){i:Nat}(hi:i<L.length):∃b o cs v,h.cells b=some cs∧(∀{u:V},nat? u=some i→q_iad 1 y u=some (.ptr b o))∧nth o cs=some v∧SlAt h v 1 (L[i].map encI)∧Up n v:=by
 obtain⟨vs,k1,k2,k3,k4,k5⟩:=k
 have hi2:i<vs.length:=by rw[k2];exact hi
 obtain⟨b,o,c,cs,_,hc,hq,_,_,hn⟩:=k1.at hi2
 have v0:=hn (by decide)
 simp only[List.getElem?_cons_zero] at v0
 exact⟨b,_,cs,vs[i],hc,hq,v0,k3 i _ _ (List.getElem?_eq_getElem hi2) (List.getElem?_eq_getElem hi),k5 _ (List.getElem_mem hi2)⟩
end Go.Ab.Tryz
namespace Go.Ab.Tryz
open Go.Proofs
theorem fits1_ev {h:H}{a:At}{C R G:V}{b:Nat}(gb:h.cells b=some (atV a C R G))(n:Int):PureA h (.fn 120 [] [.ptr b 0]) [.int .i64 n] (.bool (inB n 0 a.mins)):=by
 intro h1 s
 refine Ev_body (fd:=c120) rfl rfl rfl ?_
 simp -implicitDefEqProofs(maxSteps:=999999)(disch:=first|with_reducible rfl|omega|(simp only[nA,nS,nD]<;>omega)|fail)only[c120,go_sem,s.cells gb,in_eq]
 exact H.Sub.refl s.wf
theorem fits2_ev {h:H}(hw:h.wf){S Ga Tm:V}{ss gg tt:List Int}(t:TrAt h S Ga Tm ss gg tt)(hb:∀t∈tt,0≤t∧t≤240){b:Nat}(gb:h.cells b=some [S,Ga,Tm]){y:Rd}{k e:Nat}(e1:y.ck=k)(e2:y.ev=e)(l1:k<ss.length)(l2:k<gg.length)(l3:e<tt.length)(hrun:RunIn ss[k] gg[k]):
  E (.fn 122 [] [.ptr b 0]) [.agg (encR y)] h fun u h'=>u=.bool (rdFit ss gg tt y)∧h.Sub h':=by
 refine Ev_body (fd:=c122) rfl rfl rfl ?_
 have lb:b<h.next:=(H.cells_eq gb).elim fun kd e=>hw _ _ e
 obtain⟨b1,o1,c1,cs1,ef1,hc1,hq1,_,_,n1⟩:=t.s.at l1
 obtain⟨b2,o2,c2',cs2,ef2,hc2,hq2,_,_,n2⟩:=t.g.at l2
 obtain⟨b3,o3,c3',cs3,ef3,hc3,hq3,_,_,n3⟩:=t.t.at l3
 have v1:=n1 (by decide)
 have v2:=n2 (by decide)
 have v3:=n3 (by decide)
 simp only[encI,List.getElem?_cons_zero] at v1 v2 v3
 have q3:=hb _ (List.getElem_mem l3)
 have hf:rdFit ss gg tt y=decide (shw ss[k] gg[k] tt[e]=y.sh):=by
  unfold rdFit
  rw[e1,e2,Int.toNat_natCast,Int.toNat_natCast,getD_at l1,getD_at l2,getD_at l3]
 rw[hf]
 have lb1:b1<h.next:=(H.cells_eq hc1).elim fun kd e=>hw _ _ e
 have lb2:b2<h.next:=(H.cells_eq hc2).elim fun kd e=>hw _ _ e
 have lb3:b3<h.next:=(H.cells_eq hc3).elim fun kd e=>hw _ _ e
 generalize ss[k]=y1 at v1 hrun⊢
 generalize gg[k]=y2 at v2 hrun⊢
 generalize tt[e]=y3 at v3 q3⊢
 simp -implicitDefEqProofs(maxSteps:=999999)(disch:=first|with_reducible rfl|omega|(simp only[nA,nS,nD]<;>omega)|fail)only[c122,go_sem,encR,gb,e1,e2,hq1 (nat_cst k),hq2 (nat_cst k),hq3 (nat_cst e),hc1,hc2,hc3,v1,v2,v3]
 have s1:h.Sub (h.add (.cells .rw [.int .i64 (k:Int),.int .i64 (e:Int),.int .i64 y.sh])):=(by repeat(first|assumption|exact H.Sub.refl (by assumption)|refine H.Sub.add ?_ _|refine H.Sub.set ?_ (by first|omega|(simp only[H.next_add,H.next_set,H.next_del]<;>omega)) (by first|omega|(simp only[H.next_add,H.next_set,H.next_del]<;>omega)) (by assumption) _))
 have g1:(h.add (.cells .rw [.int .i64 (k:Int),.int .i64 (e:Int),.int .i64 y.sh])).cells h.next=some [.int .i64 (k:Int),.int .i64 (e:Int),.int .i64 y.sh]:=cells_add_new rfl
 refine shows_ev rfl s1.wf hrun q3.1 q3.2 _ fun h4 s4=>?_
 have s14:=s1.trans s4
 simp -implicitDefEqProofs(maxSteps:=999999)(disch:=first|with_reducible rfl|omega|(simp only[nA,nS,nD]<;>omega)|fail)only[go_sem,s4.cells g1,s14.cells gb,s14.cells hc1,s14.cells hc2,s14.cells hc3,gb,hc1,hc2,hc3,v1,v2,v3]
 exact s14
theorem fits3_ev {h:H}(hw:h.wf){S Ga Tm:V}{ss gg tt:List Int}(t:TrAt h S Ga Tm ss gg tt)(hb:∀t∈tt,0≤t∧t≤240){b:Nat}(gb:h.cells b=some [S,Ga,Tm]){g:Gp}{i e:Nat}(e1:g.fr=i)(e2:g.to=e)(l1:i<tt.length)(l2:e<tt.length):
  E (.fn 124 [] [.ptr b 0]) [.agg (encG g)] h fun u h'=>u=.bool (gpFit tt g)∧h.Sub h':=by
 refine Ev_body (fd:=c124) rfl rfl rfl ?_
 have lb:b<h.next:=(H.cells_eq gb).elim fun kd e=>hw _ _ e
 obtain⟨b1,o1,c1,cs1,ef1,hc1,hq1,_,_,n1⟩:=t.t.at l1
 obtain⟨b2,o2,c2',cs2,ef2,hc2,hq2,_,_,n2⟩:=t.t.at l2
 have v1:=n1 (by decide)
 have v2:=n2 (by decide)
 simp only[encI,List.getElem?_cons_zero] at v1 v2
 have q1:=hb _ (List.getElem_mem l1)
 have q2:=hb _ (List.getElem_mem l2)
 have lb1:b1<h.next:=(H.cells_eq hc1).elim fun kd e=>hw _ _ e
 have lb2:b2<h.next:=(H.cells_eq hc2).elim fun kd e=>hw _ _ e
 have hgp:gpFit tt g=inB (tt[e]-tt[i]) g.lo g.hi:=by
  unfold gpFit
  rw[e1,e2,Int.toNat_natCast,Int.toNat_natCast,getD_at l1,getD_at l2]
 rw[hgp]
 generalize tt[i]=y1 at v1 q1⊢
 generalize tt[e]=y2 at v2 q2⊢
 have w:wr .i64 (y2-y1)=y2-y1:=wr_in (by omega) (by omega)
 simp -implicitDefEqProofs(maxSteps:=999999)(disch:=first|with_reducible rfl|omega|(simp only[nA,nS,nD]<;>omega)|fail)only[c124,go_sem,encG,gb,e1,e2,hq1 (nat_cst i),hq2 (nat_cst e),hc1,hc2,v1,v2,w,in_eq]
 exact(by repeat(first|assumption|exact H.Sub.refl (by assumption)|refine H.Sub.add ?_ _|refine H.Sub.set ?_ (by first|omega|(simp only[H.next_add,H.next_set,H.next_del]<;>omega)) (by first|omega|(simp only[H.next_add,H.next_set,H.next_del]<;>omega)) (by assumption) _))
def fitsR (a:At)(ss gg tt:List Int):Bool:=decide (checkA a=0)&&fitB a ss gg tt
set_option maxHeartbeats 4000000 in
theorem Fits_ev {h:H}(hw:h.wf){a:At}{C R G:V}(x:AtAt h C R G a){S Ga Tm:V}{ss gg tt:List Int}(t:TrAt h S Ga Tm ss gg tt)(Q:V→H→Prop)(q:∀h',h.Sub h'→Q (.tup [.bool (fitsR a ss gg tt),.int .i64 (checkA a)]) h'):
  Ev fnG fastA (.fn 47 [] []) [.agg (atV a C R G),.agg [S,Ga,Tm]] h Q:=by
 have oC:=x.c.one;have oR:=x.r.one;have oG:=x.g.one
 have oS:=t.s.one;have oGa:=t.g.one;have oTm:=t.t.one
 have hlC:=x.c.lenE;have hlR:=x.r.lenE;have hlG:=x.g.lenE
 have hlS:=t.s.lenE;have hlGa:=t.g.lenE;have hlT:=t.t.lenE
 refine Ev_body (fd:=c47) rfl rfl rfl ?_
 obtain⟨z,hz⟩:∃z,(h.add (.cells .rw (atV a C R G))).add (.cells .rw [S,Ga,Tm])=z:=⟨_,rfl⟩
 have sz:h.Sub z:=by rw[←hz];exact(by repeat(first|assumption|exact H.Sub.refl (by assumption)|refine H.Sub.add ?_ _|refine H.Sub.set ?_ (by first|omega|(simp only[H.next_add,H.next_set,H.next_del]<;>omega)) (by first|omega|(simp only[H.next_add,H.next_set,H.next_del]<;>omega)) (by assumption) _))
 have ga:z.get h.next=some (.cells .rw (atV a C R G)):=by rw[←hz];simp -implicitDefEqProofs(maxSteps:=999999)(disch:=first|with_reducible rfl|omega|(simp only[nA,nS,nD]<;>omega)|fail)only[go_sem]
 have gt:z.get (h.next+1)=some (.cells .rw [S,Ga,Tm]):=by rw[←hz];simp -implicitDefEqProofs(maxSteps:=999999)(disch:=first|with_reducible rfl|omega|(simp only[nA,nS,nD]<;>omega)|fail)only[go_sem]
 simp -implicitDefEqProofs(maxSteps:=999999)(disch:=first|with_reducible rfl|omega|(simp only[nA,nS,nD]<;>omega)|fail)only[c47,go_sem,oS,oGa,oTm,oC,oR,oG]
 rw[hz]
 clear hz
 refine check_ev sz.wf ⟨C,R,G,rfl,x.mono sz⟩ _ fun z1 s1=>?_
 have hs1:=sz.trans s1
 by_cases he:checkA a=0
 case neg=>
  simp -implicitDefEqProofs(maxSteps:=999999)(disch:=first|with_reducible rfl|omega|(simp only[nA,nS,nD]<;>omega)|fail)only[go_sem,(decide_eq_true he:decide (checkA a≠0)=true)]
  have:=q z1 hs1
  rwa[show fitsR a ss gg tt=false by simp[fitsR,he]] at this
 have r:=checkA_iff.1 he
 have d0:decide ((0:Int)≠0)=false:=rfl
 have hfR:fitsR a ss gg tt=fitB a ss gg tt:=by simp[fitsR,he]
 rw[hfR,he] at q
 rw[he]
 have rl:=r.lens
 have re:=r.evs
 have rm:=r.mins
 have no:fitB a ss gg tt=false→∀z',z1.Sub z'→Q (.tup [.bool false,.int .i64 0]) z':=fun e z' s=>by have:=q z' (hs1.trans s);rwa[e] at this
 have s10:=H.Sub.refl hs1.wf
 have ga1:=s1.get ga
 have gt1:=s1.get gt
 obtain⟨b1,hb1⟩:∃b,decide ((ss.length:Int)≠(a.cks.length:Int))=b:=⟨_,rfl⟩
 obtain⟨b2,hb2⟩:∃b,decide ((gg.length:Int)≠(a.cks.length:Int))=b:=⟨_,rfl⟩
 obtain⟨b3,hb3⟩:∃b,decide ((tt.length:Int)≠a.evs)=b:=⟨_,rfl⟩
 by_cases hl:lenFit a ss gg tt=true
 case neg=>
  have hf:fitB a ss gg tt=false:=by cases hh:fitB a ss gg tt;rfl;exact absurd (fitB_parts.1 hh).1 hl
  have hor:b1=true∨b2=true∨b3=true:=by
   rw[lenFit_iff] at hl
   rw[←hb1,←hb2,←hb3]
   simp only[decide_eq_true_eq]
   omega
  cases b1<;>cases b2<;>cases b3
  all_goals try(exfalso;revert hor;decide)
  all_goals
   simp -implicitDefEqProofs(maxSteps:=999999)(disch:=first|with_reducible rfl|omega|(simp only[nA,nS,nD]<;>omega)|fail)only[go_sem,d0,cells_of ga1,cells_of gt1,hlC,hlS,hlGa,hlT,hb1,hb2,hb3]
   exact no hf _ s10
 obtain⟨l1,l2,l3⟩:=lenFit_iff.1 hl
 have e1:b1=false:=by rw[←hb1];simp;omega
 have e2:b2=false:=by rw[←hb2];simp;omega
 have e3:b3=false:=by rw[←hb3];simp;omega
 subst e1 e2 e3
 simp -implicitDefEqProofs(maxSteps:=999999)(disch:=first|with_reducible rfl|omega|(simp only[nA,nS,nD]<;>omega)|fail)only[go_sem,d0,cells_of ga1,cells_of gt1,hlC,hlS,hlGa,hlT,hb1,hb2,hb3]
 refine(everyInt_ev (p:=fun n=>inB n 0 a.mins) hs1.wf (t.t.mono hs1) fun n _=>fits1_ev (cells_of ga1) n).mono fun u z2 hu=>?_
 obtain⟨rfl,s2⟩:=hu
 have hs2:=hs1.trans s2
 cases htim:tt.all fun n=>inB n 0 a.mins with
 |false=>
  simp -implicitDefEqProofs(maxSteps:=999999)(disch:=first|with_reducible rfl|omega|(simp only[nA,nS,nD]<;>omega)|fail)only[go_sem]
  exact no (by cases hh:fitB a ss gg tt;rfl;have:=(fitB_parts.1 hh).2.1;rw[timFit,htim] at this;cases this) _ s2
 |true=>
 have hbt:∀y∈tt,0≤y∧y≤240:=fun y hy=>by
  have:=(inB_iff ..).1 (List.all_eq_true.1 htim y hy);omega
 have ga2:=s2.get ga1
 have gt2:=s2.get gt1
 simp -implicitDefEqProofs(maxSteps:=999999)(disch:=first|with_reducible rfl|omega|(simp only[nA,nS,nD]<;>omega)|fail)only[go_sem,cells_of ga2,hlC]
 refine W_count a.cks.length (fun i s=>∃tm z',s=⟨tm,z',[]⟩∧z2.Sub z'∧(∀(j:Nat) c s g,j<i→a.cks[j]? =some c→ss[j]? =some s→gg[j]? =some g→ckFit c (s,g)=true)∧
   (Opd.t 2).ev tm=.ptr h.next 0∧(Opd.t 3).ev tm=.ptr (h.next+1) 0∧(Opd.t 46).ev tm=C∧(Opd.t 47).ev tm=.int .i64 (a.cks.length:Int)∧(Opd.t 48).ev tm=.int .i64 (i:Int)) ?_ ?_ (i:=0) (Nat.zero_le _)
  ⟨_,_,rfl,H.Sub.refl s2.wf,fun j _ _ _ hj=>absurd hj (Nat.not_lt_zero _),(by simp[ev_c,ev_put]<;>rfl),(by simp[ev_c,ev_put]<;>rfl),(by simp[ev_c,ev_put]<;>rfl),(by simp[ev_c,ev_put]<;>rfl),(by simp[ev_c,ev_put]<;>rfl)⟩
 ·rintro i s hi ⟨tm,z',rfl,s',hok,t2,t3,t36,t37,t38⟩
  have hi':(i:Int)<(a.cks.length:Int):=by omega
  have hsz:=hs2.trans s'
  obtain⟨b,o,cc,cs,eC,hc,hq,hg,_,_⟩:=(x.c.mono hsz).at hi
  have his:i<ss.length:=by omega
  have hig:i<gg.length:=by omega
  obtain⟨b1,o1,cc1,cs1,eS,hc1,hq1,_,_,n1⟩:=(t.s.mono hsz).at his
  obtain⟨b2,o2,cc2,cs2,eG,hc2,hq2,_,_,n2⟩:=(t.g.mono hsz).at hig
  have v1:=n1 (by decide)
  have v2:=n2 (by decide)
  simp only[encI,List.getElem?_cons_zero] at v1 v2
  have ka:a.cks[i]? =some a.cks[i]:=List.getElem?_eq_getElem hi
  have ks:ss[i]? =some ss[i]:=List.getElem?_eq_getElem his
  have kg:gg[i]? =some gg[i]:=List.getElem?_eq_getElem hig
  generalize a.cks[i]=c at hg ka
  generalize ss[i]=y1 at v1 ks
  generalize gg[i]=y2 at v2 kg
  simp only[encC] at hg
  have hwz:=hsz.wf
  have lb1:b1<z'.next:=(H.cells_eq hc1).elim fun kd e=>hwz _ _ e
  have lb2:b2<z'.next:=(H.cells_eq hc2).elim fun kd e=>hwz _ _ e
  have ga':=s'.get ga2
  have gt':=s'.get gt2
  have lt':=hwz _ _ gt'
  have hcf:ckFit c (y1,y2)=(inB y1 c.sl c.sh&&inB y2 c.gl c.gh):=rfl
  have bad:ckFit c (y1,y2)=false→∀z2,z'.Sub z2→Q (.tup [.bool false,.int .i64 0]) z2:=fun e z2 s2'=>no (by
   cases hh:fitB a ss gg tt
   ·rfl
   ·have:=cksFit_at (fitB_parts.1 hh).2.2.1 ka ks kg
    rw[e] at this;cases this) _ (s2.trans (s'.trans s2'))
  have sz':=H.Sub.refl hwz
  cases k1:inB y1 c.sl c.sh with
  |false=>
   simp -implicitDefEqProofs(maxSteps:=999999)(disch:=first|with_reducible rfl|omega|(simp only[nA,nS,nD]<;>omega)|fail)only[go_sem,t2,t3,t36,t37,t38,hi',hq (nat_cst i),hc,hg,cells_of gt',hq1 (nat_cst i),hc1,v1,in_eq,k1]
   exact bad (by rw[hcf,k1];rfl) _ (by repeat(first|assumption|exact H.Sub.refl (by assumption)|refine H.Sub.add ?_ _|refine H.Sub.set ?_ (by first|omega|(simp only[H.next_add,H.next_set,H.next_del]<;>omega)) (by first|omega|(simp only[H.next_add,H.next_set,H.next_del]<;>omega)) (by assumption) _))
  |true=>
   cases k2:inB y2 c.gl c.gh with
   |false=>
    simp -implicitDefEqProofs(maxSteps:=999999)(disch:=first|with_reducible rfl|omega|(simp only[nA,nS,nD]<;>omega)|fail)only[go_sem,t2,t3,t36,t37,t38,hi',hq (nat_cst i),hc,hg,cells_of gt',hq1 (nat_cst i),hc1,v1,hq2 (nat_cst i),hc2,v2,in_eq,k1,k2]
    exact bad (by rw[hcf,k1,k2];rfl) _ (by repeat(first|assumption|exact H.Sub.refl (by assumption)|refine H.Sub.add ?_ _|refine H.Sub.set ?_ (by first|omega|(simp only[H.next_add,H.next_set,H.next_del]<;>omega)) (by first|omega|(simp only[H.next_add,H.next_set,H.next_del]<;>omega)) (by assumption) _))
   |true=>
    simp -implicitDefEqProofs(maxSteps:=999999)(disch:=first|with_reducible rfl|omega|(simp only[nA,nS,nD]<;>omega)|fail)only[go_sem,t2,t3,t36,t37,t38,hi',hq (nat_cst i),hc,hg,cells_of gt',hq1 (nat_cst i),hc1,v1,hq2 (nat_cst i),hc2,v2,in_eq,k1,k2,wr_succ]
    refine⟨_,_,rfl,s'.trans (by repeat(first|assumption|exact H.Sub.refl (by assumption)|refine H.Sub.add ?_ _|refine H.Sub.set ?_ (by first|omega|(simp only[H.next_add,H.next_set,H.next_del]<;>omega)) (by first|omega|(simp only[H.next_add,H.next_set,H.next_del]<;>omega)) (by assumption) _)),fun j c' s' g' hj q1 q2 q3=>?_,(by simp[ev_c,ev_put,t2]<;>rfl),(by simp[ev_c,ev_put,t3]<;>rfl),(by simp[ev_c,ev_put,t36]<;>rfl),(by simp[ev_c,ev_put,t37]<;>rfl),(by simp[ev_c,ev_put]<;>rfl)⟩
    by_cases e:j=i
    ·subst e
     rw[ka] at q1;rw[ks] at q2;rw[kg] at q3
     cases q1;cases q2;cases q3
     rw[hcf,k1,k2];rfl
    ·exact hok j c' s' g' (by omega) q1 q2 q3
 rintro s ⟨tm,z',rfl,s',hok,t2,t3,t36,t37,t38⟩
 have hcks:cksFit a ss gg=true:=cksFit_of fun j c s g q1 q2 q3=>hok j c s g (getl q1) q1 q2 q3
 have ga':=s'.get ga2
 have gt':=s'.get gt2
 have hsz:=hs2.trans s'
 simp -implicitDefEqProofs(maxSteps:=999999)(disch:=first|with_reducible rfl|omega|(simp only[nA,nS,nD]<;>omega)|fail)only[go_sem,t2,t3,t36,t37,t38,Int.lt_irrefl,cells_of ga']
 refine(everyRd_ev (p:=fun y=>rdFit ss gg tt y) hsz.wf (x.r.mono hsz) fun y hy h2 s2'=>?_).mono fun u z4 hu=>?_
 ·obtain⟨k,e,ek,ee,hk,he',he4⟩:=r.rdn hy
  have hks:k<ss.length:=by omega
  have hkg:k<gg.length:=by omega
  exact fits2_ev s2'.wf (t.mono (hsz.trans s2')) hbt (cells_of (s2'.get gt')) ek ee hks hkg (by omega) (ckFit_run r (List.getElem_mem hk) (cksFit_at hcks (List.getElem?_eq_getElem hk) (List.getElem?_eq_getElem hks) (List.getElem?_eq_getElem hkg)))
 obtain⟨rfl,s4⟩:=hu
 cases hrds:a.rds.all fun y=>rdFit ss gg tt y with
 |false=>
  simp -implicitDefEqProofs(maxSteps:=999999)(disch:=first|with_reducible rfl|omega|(simp only[nA,nS,nD]<;>omega)|fail)only[go_sem]
  exact no (by cases hh:fitB a ss gg tt;rfl;have:=(fitB_parts.1 hh).2.2.2.1;rw[hrds] at this;cases this) _ (s2.trans (s'.trans s4))
 |true=>
 have ga4:=s4.get ga'
 have gt4:=s4.get gt'
 have hs4:=hsz.trans s4
 simp -implicitDefEqProofs(maxSteps:=999999)(disch:=first|with_reducible rfl|omega|(simp only[nA,nS,nD]<;>omega)|fail)only[go_sem,cells_of ga4,t2,t3]
 refine(everyGp_ev (p:=fun g=>gpFit tt g) hs4.wf (x.g.mono hs4) fun g hg h2 s2'=>?_).mono fun u z5 hu=>?_
 ·obtain⟨i,e,e1,e2,l1',l2',_,_⟩:=r.gpn hg
  exact fits3_ev s2'.wf (t.mono (hs4.trans s2')) hbt (cells_of (s2'.get gt4)) e1 e2 (by omega) (by omega)
 ·obtain⟨rfl,s5⟩:=hu
  simp -implicitDefEqProofs(maxSteps:=999999)(disch:=first|with_reducible rfl|omega|(simp only[nA,nS,nD]<;>omega)|fail)only[go_sem]
  have:=q z5 (hs4.trans s5)
  have e:fitB a ss gg tt=a.gps.all fun g=>gpFit tt g:=by
   have hrds':a.rds.all (rdFit ss gg tt)=true:=hrds
   unfold fitB timFit
   rw[hl,htim,hcks,hrds'];simp
  rwa[e] at this
end Go.Ab.Tryz
namespace Go.Ab.Tryz
open Go.Proofs
def rowsT (ss gg tt:List Int):Nat→List (List V)
 |0=>ss.map encI
 |1=>gg.map encI
 |2=>tt.map encI
 |_=>[]
theorem rowsT0 {ss gg tt:List Int}{c:Int}:∀i,i<6→updF (rowsT ss gg tt) 0 (rowsT ss gg tt 0++[encI c]) i=rowsT (ss++[c]) gg tt i:=fun i hi=>by
 rcases(by omega:i=0∨i=1∨i=2∨i=3∨i=4∨i=5) with rfl|rfl|rfl|rfl|rfl|rfl<;>simp[updF,rowsT]
theorem rowsT1 {ss gg tt:List Int}{c:Int}:∀i,i<6→updF (rowsT ss gg tt) 1 (rowsT ss gg tt 1++[encI c]) i=rowsT ss (gg++[c]) tt i:=fun i hi=>by
 rcases(by omega:i=0∨i=1∨i=2∨i=3∨i=4∨i=5) with rfl|rfl|rfl|rfl|rfl|rfl<;>simp[updF,rowsT]
theorem rowsT2 {ss gg tt:List Int}{c:Int}:∀i,i<6→updF (rowsT ss gg tt) 2 (rowsT ss gg tt 2++[encI c]) i=rowsT ss gg (tt++[c]) i:=fun i hi=>by
 rcases(by omega:i=0∨i=1∨i=2∨i=3∨i=4∨i=5) with rfl|rfl|rfl|rfl|rfl|rfl<;>simp[updF,rowsT]
structure SmI (h0 z:H)(b7:Nat)(v:Nat→V)(ss gg tt:List Int):Prop where
 sl:Sl6 h0 z (b7+1) v (fun _=>1) (rowsT ss gg tt)
 g:z.get b7=some (.cells .rw [v 0,v 1,v 2])
 nx:b7+1≤z.next
theorem SmI.sub {h0 z:H}{b7:Nat}{v:Nat→V}{ss gg tt:List Int}(k:SmI h0 z b7 v ss gg tt):h0.Sub z:=(k.sl.o 0 (by decide)).1
theorem SmI.mono {h0 z z':H}{b7:Nat}{v:Nat→V}{ss gg tt:List Int}(k:SmI h0 z b7 v ss gg tt)(s:z.Sub z'):SmI h0 z' b7 v ss gg tt:=⟨k.sl.mono s,s.get k.g,Nat.le_trans k.nx s.next⟩
theorem SmI.put {h0 z z':H}{b7:Nat}{v v':Nat→V}{ss gg tt ss' gg' tt':List Int}(k:SmI h0 z b7 v ss gg tt)(hw:h0.wf)(hb:h0.next≤b7){S:Nat→Prop}(kk:Keeps S z z')(sl:Sl6 h0 z' (b7+1) v' (fun _=>1) (rowsT ss' gg' tt')):
  SmI h0 (z'.set b7 (.cells .rw [v' 0,v' 1,v' 2])) b7 v' ss' gg' tt':=by
 have s5:=(sl.o 0 (by omega)).1
 have l5:=kk.1
 have lz:=k.nx
 have sz:=s5.set (b:=b7) hb (by omega) hw (.cells .rw [v' 0,v' 1,v' 2])
 exact⟨sl.keep (Keeps.set z' b7 (.cells .rw [v' 0,v' 1,v' 2])) sz fun b hb=>by omega,get_set_same rfl,by rw[H.next_set];omega⟩
theorem SmI.tr {h0 z:H}{b7:Nat}{v:Nat→V}{ss gg tt:List Int}(k:SmI h0 z b7 v ss gg tt)(l1:ss.length≤1000)(l2:gg.length≤1000)(l3:tt.length≤1000):TrAt z (v 0) (v 1) (v 2) ss gg tt:=
 ⟨(k.sl.o 0 (by decide)).sl (by show(ss.map encI).length≤_;rw[List.length_map];omega),(k.sl.o 1 (by decide)).sl (by show(gg.map encI).length≤_;rw[List.length_map];omega),(k.sl.o 2 (by decide)).sl (by show(tt.map encI).length≤_;rw[List.length_map];omega)⟩
theorem tr_nil (h:H):TrAt h .nils .nils .nils [] [] []:=by
 have:SlAt h .nils 1 (([]:List Int).map encI):=⟨by simp,by simp,.inl ⟨rfl,rfl⟩⟩
 exact⟨this,this,this⟩
def someT (a:At):List Int × List Int × List Int:=match allC a with
 |[]=>([],[],[])
 |t::_=>if errT a false=0 then(t.1.map Prod.fst,t.1.map Prod.snd,(List.range a.evs.toNat).map fun i=>mg t.2 4 i) else([],[],[])
set_option maxHeartbeats 4000000 in
theorem Some_ev {h:H}(hw:h.wf){a:At}{C R G:V}(x:AtAt h C R G a)(Q:V→H→Prop)(q:∀S Ga Tm h',h.Sub h'→TrAt h' S Ga Tm (someT a).1 (someT a).2.1 (someT a).2.2→Q (.tup [.agg [S,Ga,Tm],.int .i64 (errT a false)]) h'):
  Ev fnG fastA (.fn 48 [] []) [.agg (atV a C R G)] h Q:=by
 have oC:=x.c.one;have oR:=x.r.one;have oG:=x.g.one
 refine Ev_body (fd:=c48) rfl rfl rfl ?_
 obtain⟨z,hz⟩:∃z,(h.add (.cells .rw (atV a C R G))).add (.cells .rw [.nils,.nils,.nils])=z:=⟨_,rfl⟩
 have sz:h.Sub z:=by rw[←hz];exact(by repeat(first|assumption|exact H.Sub.refl (by assumption)|refine H.Sub.add ?_ _|refine H.Sub.set ?_ (by first|omega|(simp only[H.next_add,H.next_set,H.next_del]<;>omega)) (by first|omega|(simp only[H.next_add,H.next_set,H.next_del]<;>omega)) (by assumption) _))
 have nz:z.next=h.next+2:=by rw[←hz];simp only[H.next_add]
 have ga:z.get h.next=some (.cells .rw (atV a C R G)):=by rw[←hz];simp -implicitDefEqProofs(maxSteps:=999999)(disch:=first|with_reducible rfl|omega|(simp only[nA,nS,nD]<;>omega)|fail)only[go_sem]
 have gb:z.get (h.next+1)=some (.cells .rw [.nils,.nils,.nils]):=by rw[←hz];simp -implicitDefEqProofs(maxSteps:=999999)(disch:=first|with_reducible rfl|omega|(simp only[nA,nS,nD]<;>omega)|fail)only[go_sem]
 simp -implicitDefEqProofs(maxSteps:=999999)(disch:=first|with_reducible rfl|omega|(simp only[nA,nS,nD]<;>omega)|fail)only[c48,go_sem,oC,oR,oG]
 rw[hz]
 clear hz
 refine told_ev2 sz.wf (x.mono sz) false _ (fun z1 s1 he=>?_) fun z1 v y Ps s1 hx hl ho hne r _ he e f=>?_
 ·have l1:=s1.next
  have hs1:=sz.trans s1
  have eT:someT a=([],[],[]):=by
   unfold someT
   split
   ·rfl
   ·rw[if_neg he]
  simp -implicitDefEqProofs(maxSteps:=999999)(disch:=first|with_reducible rfl|omega|(simp only[nA,nS,nD]<;>omega)|fail)only[go_sem,(decide_eq_true he:decide (errT a false≠0)=true),s1.get gb]
  have s2:=hs1.set (b:=h.next+1) (by omega) (by omega) hw (.cells .rw [.nils,.nils,.nils])
  have:=q .nils .nils .nils _ s2 (by rw[eT];exact tr_nil _)
  exact this
 have l1:=s1.next
 have hs1:=sz.trans s1
 have d0:decide ((0:Int)≠0)=false:=rfl
 obtain⟨p,P',rfl⟩:=List.exists_cons_of_ne_nil hne
 have hpl:=hl p (List.mem_cons_self ..)
 have hpe:=f.e p (List.mem_cons_self ..)
 have hpc:allC a=(p.2.1,p.2.2)::P'.map Prod.snd:=by rw[←e];rfl
 have hmem:(p.2.1,p.2.2)∈casesL a (fun _=>true):=by show _∈allC a;rw[hpc];exact List.mem_cons_self ..
 have hlen:p.2.1.length=a.cks.length:=(cases_sound r hmem).2.1
 have hins:∀(i:Nat) s,p.2.1[i]? =some s→RunOf a i s:=(cases_sound r hmem).2.2.1
 have rl:=r.lens
 have re:=r.evs
 have hso:SlAt z1 p.1 2 (p.2.1.map encX):=hpe.sl (by rw[List.length_map];omega)
 have eT:someT a=(p.2.1.map Prod.fst,p.2.1.map Prod.snd,(List.range a.evs.toNat).map fun i=>mg p.2.2 4 i):=by
  unfold someT
  rw[hpc]
  simp only
  rw[if_pos he]
 rw[eT] at q
 obtain⟨bY,oY,cY,csY,eY,hcY,hqY,hgY,hnY,_⟩:=hx.at (k:=0) (by simp)
 simp only[List.getElem_cons_zero] at hgY hnY
 have hv0:nth oY csY=some p.1:=by have:=hnY 0 (by decide);simpa[rowF] using this
 have hlR:=hso.lenE
 have sA:=(H.Sub.refl hs1.wf).add (.cells .rw [.nils,.nils,.nils])
 have gA:(z1.add (.cells .rw [.nils,.nils,.nils])).get z1.next=some (.cells .rw [.nils,.nils,.nils]):=get_add_new rfl
 have nA':=H.next_add z1 (.cells .rw [.nils,.nils,.nils])
 have lbY:bY<z1.next:=(H.cells_eq hcY).elim fun kd e=>hs1.wf _ _ e
 simp -implicitDefEqProofs(maxSteps:=999999)(disch:=first|with_reducible rfl|omega|(simp only[nA,nS,nD]<;>omega)|fail)only[go_sem,d0,hqY nat_zero,hcY,hv0,hlR]
 obtain⟨zA,hzA⟩:∃zA,z1.add (.cells .rw [.nils,.nils,.nils])=zA:=⟨_,rfl⟩
 rw[hzA] at sA gA nA'
 try rw[hzA]
 have w1:=hs1.wf
 have k0:SmI z1 zA z1.next (fun _=>.nils) [] [] []:=by
  refine⟨⟨fun i hi=>?_,fun i hi b hb=>(blkOf_nils hb).elim,fun i j _ _ _ b hb=>(blkOf_nils hb).elim⟩,gA,by omega⟩
  have:rowsT [] [] [] i=[]:=by rcases(by omega:i=0∨i=1∨i=2∨i=3∨i=4∨i=5) with rfl|rfl|rfl|rfl|rfl|rfl<;>rfl
  rw[this];exact(OwnSl.nil sA _).c
 have lzh:h.next+2≤z1.next:=by omega
 refine W_count p.2.1.length (fun i s=>∃tm z' v,s=⟨tm,z',[]⟩∧SmI z1 z' z1.next v ((p.2.1.take i).map Prod.fst) ((p.2.1.take i).map Prod.snd) []∧
   (Opd.t 1).ev tm=.ptr h.next 0∧(Opd.t 2).ev tm=.ptr (h.next+1) 0∧(Opd.t 5).ev tm=y∧(Opd.t 7).ev tm=.ptr z1.next 0∧(Opd.t 24).ev tm=p.1∧(Opd.t 25).ev tm=.int .i64 (p.2.1.length:Int)∧(Opd.t 26).ev tm=.int .i64 (i:Int)) ?_ ?_ (i:=0) (Nat.zero_le _)
  ⟨_,_,_,rfl,k0,(by simp[ev_c,ev_put]<;>rfl),(by simp[ev_c,ev_put]<;>rfl),(by simp[ev_c,ev_put]<;>rfl),(by simp[ev_c,ev_put]<;>rfl),(by simp[ev_c,ev_put]<;>rfl),(by simp[ev_c,ev_put]<;>rfl),(by simp[ev_c,ev_put]<;>rfl)⟩
 ·clear k0
  rintro i s hi ⟨tm,z',vv,rfl,k,t1,t2,t5,t7,t24,t25,t26⟩
  have hi':(i:Int)<(p.2.1.length:Int):=by omega
  have ks:=k.sub
  obtain⟨b,o,cc,cs,eC,hc,hq,hg,_,_⟩:=(hso.mono ks).at hi
  have htk:p.2.1.take (i+1)=p.2.1.take i++[p.2.1[i]]:=take_at hi
  have e1:(p.2.1.take (i+1)).map Prod.fst=(p.2.1.take i).map Prod.fst++[p.2.1[i].1]:=by rw[htk,List.map_append];rfl
  have e2:(p.2.1.take (i+1)).map Prod.snd=(p.2.1.take i).map Prod.snd++[p.2.1[i].2]:=by rw[htk,List.map_append];rfl
  have la1:((p.2.1.take i).map Prod.fst).length≤3:=by rw[List.length_map,List.length_take];omega
  have la2:((p.2.1.take i).map Prod.snd).length≤3:=by rw[List.length_map,List.length_take];omega
  rw[e1,e2]
  generalize p.2.1[i]=sg at hg⊢
  generalize(p.2.1.take i).map Prod.fst=ss at k la1⊢
  generalize(p.2.1.take i).map Prod.snd=gg at k la2⊢
  simp only[encX] at hg
  have uB:=(H.Sub.refl ks.wf).add (.cells .rw [.int .i64 sg.1,.int .i64 sg.2])
  have kB:=k.mono uB
  have g9:(z'.add (.cells .rw [.int .i64 sg.1,.int .i64 sg.2])).get z'.next=some (.cells .rw [.int .i64 sg.1,.int .i64 sg.2]):=get_add_new rfl
  have nB:=H.next_add z' (.cells .rw [.int .i64 sg.1,.int .i64 sg.2])
  have lk:=k.nx
  simp -implicitDefEqProofs(maxSteps:=999999)(disch:=first|with_reducible rfl|omega|(simp only[nA,nS,nD]<;>omega)|fail)only[go_sem,t1,t2,t5,t7,t24,t25,t26,hi',hq (nat_cst i),hc,hg,cells_of k.g]
  obtain⟨zB,hzB⟩:∃zB,z'.add (.cells .rw [.int .i64 sg.1,.int .i64 sg.2])=zB:=⟨_,rfl⟩
  rw[hzB] at uB kB g9 nB
  try rw[hzB]
  have uh:=(H.Sub.refl kB.sub.wf).add (.cells .rw [.int .i64 sg.1])
  have kh:=kB.mono uh
  have o3:OwnC z1 (zB.add (.cells .rw [.int .i64 sg.1])) (vv 0) 1 (ss.map encI):=kh.sl.o 0 (by decide)
  have sn3:SlAt (zB.add (.cells .rw [.int .i64 sg.1])) (.sl (z'.next+1) 0 1 (.fix 1)) 1 [encI sg.1]:=SlAt.new _ (by rw[nB]) rfl rfl (by simp[encI]) (by simp)
  have gh1:=kh.g
  have g9h:=uh.get g9
  generalize zB.add (.cells .rw [.int .i64 sg.1])=zh at uh kh o3 sn3 gh1 g9h⊢
  refine o3.app1 (by_:=8) (r:=encI sg.1) w1 rfl (by decide) sn3 rfl (by rw[List.length_map];omega) (by rw[List.length_map];omega) fun w3 zi oi ni ki=>?_
  have ow3:=oi.one
  have lo0:=kh.sl.lo 0 (by decide)
  have gi:=ki.2 _ _ gh1 fun hb=>by have:=lo0 _ hb;omega
  have lB9:=kB.sub.wf _ _ g9
  have dB:¬blkOf (vv 0) z'.next:=fun hb=>by have:=((k.sl.o 0 (by decide)).blk hb).2.1;omega
  have g9i:=ki.2 _ _ g9h dB
  have sl3:=(kh.sl.app (i:=0) (by decide) oi ni kh.nx ki).rw rowsT0
  have uj:=(H.Sub.refl oi.1.wf).add (.cells .rw [.int .i64 sg.2])
  have sl3j:=sl3.mono uj
  have o4:OwnC z1 (zi.add (.cells .rw [.int .i64 sg.2])) (vv 1) 1 (gg.map encI):=sl3j.o 1 (by decide)
  have sn4:SlAt (zi.add (.cells .rw [.int .i64 sg.2])) (.sl zi.next 0 1 (.fix 1)) 1 [encI sg.2]:=SlAt.new _ rfl rfl rfl (by simp[encI]) (by simp)
  have gj:=uj.get gi
  have g9j:=uj.get g9i
  have li:=ki.1
  have lh:=kh.nx
  simp -implicitDefEqProofs(maxSteps:=999999)(disch:=first|with_reducible rfl|omega|(simp only[nA,nS,nD]<;>omega)|fail)only[go_sem,t1,t2,t5,t7,t24,t25,t26,cells_of gi,cells_of g9i,cells_of gh1,cells_of g9h,cells_of kB.g,cells_of g9]
  generalize zi.add (.cells .rw [.int .i64 sg.2])=zj at uj sl3j o4 sn4 gj g9j⊢
  refine o4.app1 (by_:=8) (r:=encI sg.2) w1 rfl (by decide) sn4 rfl (by rw[List.length_map];omega) (by rw[List.length_map];omega) fun w4 zk ok nk4 kk=>?_
  have ow4:=ok.one
  have ov2:=(kh.sl.o 2 (by decide)).one
  have gk:=kk.2 _ _ gj fun hb=>by have:=kh.sl.lo 1 (by decide) _ hb;omega
  have sl4:=(sl3j.app (i:=1) (by decide) ok nk4 (by have:=uj.next;omega) kk).rw rowsT1
  have kq:Keeps (fun b=>blkOf (vv 0) b∨blkOf (vv 1) b) zh zk:=((ki.trans (Keeps.of uj (fun _=>False))).trans kk).mono fun b hb=>hb.elim (fun hb=>hb.elim .inl False.elim) .inr
  have km:=kh.put w1 (Nat.le_refl _) kq sl4
  simp -implicitDefEqProofs(maxSteps:=999999)(disch:=first|with_reducible rfl|omega|(simp only[nA,nS,nD]<;>omega)|fail)only[go_sem,t1,t2,t5,t7,t24,t25,t26,ow3,cells_one ow3,ow4,cells_one ow4,gk,cells_of gi,cells_of g9i,cells_of gh1,cells_of g9h,cells_of gj,cells_of g9j,cells_of kB.g,cells_of g9,cells_of gk,wr_succ]
  exact⟨_,_,_,rfl,km,(by simp[ev_c,ev_put,t1]<;>rfl),(by simp[ev_c,ev_put,t2]<;>rfl),(by simp[ev_c,ev_put,t5]<;>rfl),(by simp[ev_c,ev_put,t7]<;>rfl),(by simp[ev_c,ev_put,t24]<;>rfl),(by simp[ev_c,ev_put,t25]<;>rfl),(by simp[ev_c,ev_put]<;>rfl)⟩
 clear k0
 rintro s ⟨tm,z',vv,rfl,k,t1,t2,t5,t7,t24,t25,t26⟩
 rw[List.take_length] at k
 have ga':=k.sub.get (s1.get ga)
 simp -implicitDefEqProofs(maxSteps:=999999)(disch:=first|with_reducible rfl|omega|(simp only[nA,nS,nD]<;>omega)|fail)only[go_sem,t1,t2,t5,t7,t24,t25,t26,Int.lt_irrefl,cells_of ga']
 obtain⟨ne,hne'⟩:∃ne:Nat,a.evs=ne:=⟨a.evs.toNat,by omega⟩
 rw[hne',Int.toNat_natCast] at q
 refine W_count ne (fun i s=>∃tm z' v,s=⟨tm,z',[]⟩∧SmI z1 z' z1.next v (p.2.1.map Prod.fst) (p.2.1.map Prod.snd) ((List.range i).map fun i=>mg p.2.2 4 i)∧
   (Opd.t 2).ev tm=.ptr (h.next+1) 0∧(Opd.t 5).ev tm=y∧(Opd.t 7).ev tm=.ptr z1.next 0∧(Opd.t 46).ev tm=.int .i64 (ne:Int)∧(Opd.t 47).ev tm=.int .i64 (i:Int)) ?_ ?_ (i:=0) (Nat.zero_le _)
  ⟨_,_,_,rfl,k,(by simp[ev_c,ev_put,t2]<;>rfl),(by simp[ev_c,ev_put,t5]<;>rfl),(by simp[ev_c,ev_put,t7]<;>rfl),by rw[←hne'];exact(by simp[ev_c,ev_put]<;>rfl),(by simp[ev_c,ev_put]<;>rfl)⟩
 ·clear k t1 t2 t5 t7 t24 t25 t26 ga'
  rintro i s hi ⟨tm,z',vv,rfl,k,t2,t5,t7,t46,t47⟩
  have hi':(i:Int)<(ne:Int):=by omega
  have ks:=k.sub
  have hm:nth (oY+1+4*5+i*1) csY=some (.int .i64 (mg p.2.2 4 i)):=by
   have:=hnY (1+4*5+i*1) (by omega)
   rw[←nth_eq,row_at hpl.len (by omega) (by omega)] at this
   rw[←this];congr 1;omega
  have lr:((List.range i).map fun i=>mg p.2.2 4 i).length≤4:=by rw[List.length_map,List.length_range];omega
  have e1:((List.range (i+1)).map fun i=>mg p.2.2 4 i)=((List.range i).map fun i=>mg p.2.2 4 i)++[mg p.2.2 4 i]:=by rw[List.range_succ,List.map_append];rfl
  rw[e1]
  generalize((List.range i).map fun i=>mg p.2.2 4 i)=tt at k lr⊢
  generalize mg p.2.2 4 i=m at hm⊢
  have uh:=(H.Sub.refl ks.wf).add (.cells .rw [.int .i64 m])
  have kh:=k.mono uh
  have o3:OwnC z1 (z'.add (.cells .rw [.int .i64 m])) (vv 2) 1 (tt.map encI):=kh.sl.o 2 (by decide)
  have sn3:SlAt (z'.add (.cells .rw [.int .i64 m])) (.sl z'.next 0 1 (.fix 1)) 1 [encI m]:=SlAt.new _ rfl rfl rfl (by simp[encI]) (by simp)
  have gh1:=kh.g
  have lk:=k.nx
  have hY':=ks.cells hcY
  have i4:q_iaa 5 5 (.ptr bY (oY+1)) (.int .i64 4)=some (.ptr bY (oY+1+4*5)):=q_iaa_ptr (nat_num 4) (by omega)
  simp -implicitDefEqProofs(maxSteps:=999999)(disch:=first|with_reducible rfl|omega|(simp only[nA,nS,nD]<;>omega)|fail)only[go_sem,t2,t5,t7,t46,t47,hi',cells_of k.g,hqY nat_zero,i4,q_iaa_ptr (nat_cst i),hY',hm]
  generalize z'.add (.cells .rw [.int .i64 m])=zh at uh kh o3 sn3 gh1⊢
  refine o3.app1 (by_:=8) (r:=encI m) w1 rfl (by decide) sn3 rfl (by rw[List.length_map];omega) (by rw[List.length_map];omega) fun w3 zi oi ni ki=>?_
  have ow3:=oi.one
  have ov0:=(kh.sl.o 0 (by decide)).one
  have ov1:=(kh.sl.o 1 (by decide)).one
  have gi:=ki.2 _ _ gh1 fun hb=>by have:=kh.sl.lo 2 (by decide) _ hb;omega
  have km:=kh.put w1 (Nat.le_refl _) ki ((kh.sl.app (i:=2) (by decide) oi ni kh.nx ki).rw rowsT2)
  have hYh:=uh.cells hY'
  simp -implicitDefEqProofs(maxSteps:=999999)(disch:=first|with_reducible rfl|omega|(simp only[nA,nS,nD]<;>omega)|fail)only[go_sem,t2,t5,t7,t46,t47,ow3,cells_one ow3,gi,cells_of gh1,hYh,cells_of k.g,hY',hm,wr_succ]
  exact⟨_,_,_,rfl,km,(by simp[ev_c,ev_put,t2]<;>rfl),(by simp[ev_c,ev_put,t5]<;>rfl),(by simp[ev_c,ev_put,t7]<;>rfl),(by simp[ev_c,ev_put,t46]<;>rfl),(by simp[ev_c,ev_put]<;>rfl)⟩
 clear k t1 t2 t5 t7 t24 t25 t26 ga'
 rintro s ⟨tm,z',vv,rfl,k,t2,t5,t7,t46,t47⟩
 have ov0:=(k.sl.o 0 (by decide)).one
 have ov1:=(k.sl.o 1 (by decide)).one
 have ov2:=(k.sl.o 2 (by decide)).one
 have lk:=k.nx
 have gb':=k.sub.get (s1.get gb)
 have k2:=Keeps.set z' (h.next+1) (.cells .rw [vv 0,vv 1,vv 2])
 have s2:=(hs1.trans k.sub).set (b:=h.next+1) (by omega) (by omega) hw (.cells .rw [vv 0,vv 1,vv 2])
 have tr:=k.tr (by rw[List.length_map];omega) (by rw[List.length_map];omega) (by rw[List.length_map,List.length_range];omega)
 have off:∀i,i<3→∀b,blkOf (vv i) b→b≠h.next+1:=fun i hi b hb=>by have:=k.sl.lo i (by omega) b hb;omega
 have tr2:TrAt (z'.set (h.next+1) (.cells .rw [vv 0,vv 1,vv 2])) (vv 0) (vv 1) (vv 2) (p.2.1.map Prod.fst) (p.2.1.map Prod.snd) ((List.range ne).map fun i=>mg p.2.2 4 i):=
  ⟨SlAt_keep tr.s k2 (off 0 (by decide)),SlAt_keep tr.g k2 (off 1 (by decide)),SlAt_keep tr.t k2 (off 2 (by decide))⟩
 have q':=q _ _ _ _ s2 tr2
 rw[he] at q'
 simp -implicitDefEqProofs(maxSteps:=999999)(disch:=first|with_reducible rfl|omega|(simp only[nA,nS,nD]<;>omega)|fail)only[go_sem,t2,t5,t7,t46,t47,Int.lt_irrefl,cells_of k.g,gb',ov0,ov1,ov2]
 exact q'
end Go.Ab.Tryz
namespace Go.Ab.Tryz
open Go.Proofs
theorem missI_fit {a:At}(ss gg tt:List Int):decide (missI a ss gg tt=0)=a.rds.all (rdFit ss gg tt):=by
 rw[Bool.eq_iff_iff,decide_eq_true_eq,List.all_eq_true]
 unfold missI
 have key:∀n,n≤a.rds.length→(bitI (missB a ss gg tt) n=0↔∀j (hj:j<a.rds.length),j<n→rdFit ss gg tt a.rds[j]=true):=fun n hn=>by
  induction n with
  |zero=>simp[bitI]
  |succ n ih=>
   have hb:=bitI_bd (missB a ss gg tt) n
   have hp:(0:Int)<2^n:=Int.pow_pos (by decide)
   have hm:missB a ss gg tt n= !rdFit ss gg tt a.rds[n]:=by
    unfold missB rdFit
    rw[List.getElem?_eq_getElem (by omega)]
    simp[timeF]
   rw[bitI,hm]
   have ih:=ih (by omega)
   constructor
   ·intro h j hj hn
    by_cases e:j=n
    ·subst e
     cases hr:rdFit ss gg tt a.rds[j] with
     |true=>rfl
     |false=>rw[hr] at h;simp at h;omega
    ·refine ih.1 ?_ j hj (by omega)
     split at h<;>omega
   ·intro h
    rw[ih.2 fun j hj hn=>h j hj (by omega),h n (by omega) (by omega)];rfl
 rw[key _ (Nat.le_refl _)]
 constructor
 ·intro h x hx
  obtain⟨j,hj,rfl⟩:=List.mem_iff_getElem.1 hx
  exact h j hj hj
 ·intro h j hj _
  exact h _ (List.getElem_mem hj)
def rgtB (a:At)(ss gg tt:List Int):Bool:=lenFit a ss gg tt&&(cksFit a ss gg&&timFit a tt)
theorem fitB_r (a:At)(ss gg tt:List Int):fitB a ss gg tt=(rgtB a ss gg tt&&(gapsB a tt&&decide (missI a ss gg tt=0))):=by
 rw[missI_fit]
 unfold fitB rgtB
 have:gapsB a tt=a.gps.all (gpFit tt):=rfl
 rw[this]
 cases lenFit a ss gg tt<;>cases cksFit a ss gg<;>cases timFit a tt<;>cases a.gps.all (gpFit tt)<;>simp
theorem cks_at {a:At}{ss gg:List Int}{i:Nat}(h1:i<a.cks.length)(h2:i<ss.length)(h3:i<gg.length)(h:cksFit a ss gg=true):ckFit a.cks[i] (ss[i],gg[i])=true:=by
 unfold cksFit at h
 rw[List.all_eq_true] at h
 have:=h (a.cks[i],(ss[i],gg[i])) (List.mem_of_getElem? (i:=i) (by rw[List.getElem?_zip_eq_some];exact⟨List.getElem?_eq_getElem h1,zip_get.2 ⟨List.getElem?_eq_getElem h2,List.getElem?_eq_getElem h3⟩⟩))
 exact this
theorem cks_all {a:At}{ss gg:List Int}(l1:ss.length=a.cks.length)(l2:gg.length=a.cks.length)(h:∀i (h1:i<a.cks.length),ckFit a.cks[i] (ss[i],gg[i])=true):cksFit a ss gg=true:=by
 unfold cksFit
 rw[List.all_eq_true]
 intro x hx
 obtain⟨i,hi⟩:=List.mem_iff_getElem?.1 hx
 obtain⟨q1,q2⟩:=List.getElem?_zip_eq_some.1 hi
 obtain⟨q3,q4⟩:=zip_get.1 q2
 obtain⟨cc,s,g⟩:=x
 simp only at q1 q3 q4
 have hl:=getl q1
 have:=h i hl
 rw[List.getElem?_eq_getElem hl] at q1
 rw[List.getElem?_eq_getElem (by omega)] at q3 q4
 cases q1;cases q3;cases q4
 exact this
set_option maxHeartbeats 8000000 in
theorem refRight_ev {h:H}(hw:h.wf){a:At}{C R G:V}(x:AtAt h C R G a)(r:Right a){S Ga Tm:V}{ss gg tt:List Int}(t:TrAt h S Ga Tm ss gg tt)(Q:V→H→Prop)(q:∀h',h.Sub h'→Q (.bool (rgtB a ss gg tt)) h'):
  Ev fnG fastA (.fn 119 [] []) [.agg (atV a C R G),.agg [S,Ga,Tm]] h Q:=by
 have oC:=x.c.one;have oR:=x.r.one;have oG:=x.g.one
 have oS:=t.s.one;have oGa:=t.g.one;have oTm:=t.t.one
 have hlC:=x.c.lenE
 have h1:=t.s.lenE;have h2:=t.g.lenE;have h3:=t.t.lenE
 have rl:=r.lens
 have re:=r.evs
 refine Ev_body (fd:=c119) rfl rfl rfl ?_
 obtain⟨z,hz⟩:∃z,(h.add (.cells .rw (atV a C R G))).add (.cells .rw [S,Ga,Tm])=z:=⟨_,rfl⟩
 have sz:h.Sub z:=by rw[←hz];exact(by repeat(first|assumption|exact H.Sub.refl (by assumption)|refine H.Sub.add ?_ _|refine H.Sub.set ?_ (by first|omega|(simp only[H.next_add,H.next_set,H.next_del]<;>omega)) (by first|omega|(simp only[H.next_add,H.next_set,H.next_del]<;>omega)) (by assumption) _))
 have ga:z.get h.next=some (.cells .rw (atV a C R G)):=by rw[←hz];simp -implicitDefEqProofs(maxSteps:=999999)(disch:=first|with_reducible rfl|omega|(simp only[nA,nS,nD]<;>omega)|fail)only[go_sem]
 have gt:z.get (h.next+1)=some (.cells .rw [S,Ga,Tm]):=by rw[←hz];simp -implicitDefEqProofs(maxSteps:=999999)(disch:=first|with_reducible rfl|omega|(simp only[nA,nS,nD]<;>omega)|fail)only[go_sem]
 have no:lenFit a ss gg tt=false→Q (.bool false) z:=fun e=>by
  have:=q _ sz
  unfold rgtB at this
  rwa[e,Bool.false_and] at this
 by_cases l1:(ss.length:Int)=(a.cks.length:Int)
 case neg=>
  have e:lenFit a ss gg tt=false:=by rw[←Bool.not_eq_true,lenFit_iff];omega
  simp -implicitDefEqProofs(maxSteps:=999999)(disch:=first|with_reducible rfl|omega|(simp only[nA,nS,nD]<;>omega)|fail)only[c119,go_sem,oC,oR,oG,oS,oGa,oTm,hz,cells_of ga,cells_of gt,hlC,h1,h2,h3,l1,ne_eq,not_false_eq_true]
  try rw[hz]
  exact no e
 by_cases l2:(gg.length:Int)=(a.cks.length:Int)
 case neg=>
  have e:lenFit a ss gg tt=false:=by rw[←Bool.not_eq_true,lenFit_iff];omega
  simp -implicitDefEqProofs(maxSteps:=999999)(disch:=first|with_reducible rfl|omega|(simp only[nA,nS,nD]<;>omega)|fail)only[c119,go_sem,oC,oR,oG,oS,oGa,oTm,hz,cells_of ga,cells_of gt,hlC,h1,h2,h3,l1,l2,ne_eq,not_false_eq_true,not_true_eq_false]
  try rw[hz]
  exact no e
 by_cases l3:(tt.length:Int)=a.evs
 case neg=>
  have e:lenFit a ss gg tt=false:=by rw[←Bool.not_eq_true,lenFit_iff];omega
  simp -implicitDefEqProofs(maxSteps:=999999)(disch:=first|with_reducible rfl|omega|(simp only[nA,nS,nD]<;>omega)|fail)only[c119,go_sem,oC,oR,oG,oS,oGa,oTm,hz,cells_of ga,cells_of gt,hlC,h1,h2,h3,l1,l2,l3,ne_eq,not_false_eq_true,not_true_eq_false]
  try rw[hz]
  exact no e
 have eL:lenFit a ss gg tt=true:=lenFit_iff.2 ⟨by omega,by omega,l3⟩
 have q':∀h',h.Sub h'→Q (.bool (cksFit a ss gg&&timFit a tt)) h':=fun h' s=>by
  have:=q _ s
  unfold rgtB at this
  rwa[eL,Bool.true_and] at this
 clear no q
 simp -implicitDefEqProofs(maxSteps:=999999)(disch:=first|with_reducible rfl|omega|(simp only[nA,nS,nD]<;>omega)|fail)only[c119,go_sem,oC,oR,oG,oS,oGa,oTm,hz,cells_of ga,cells_of gt,hlC,h1,h2,h3,l1,l2,l3,ne_eq,not_true_eq_false]
 try rw[hz]
 clear hz
 refine W.mono (Q:=fun x1 s=>(x1=.ext 0∧cksFit a ss gg=true∧∃tm,s=⟨tm,z,[]⟩∧(Opd.t 2).ev tm=.ptr h.next 0∧(Opd.t 3).ev tm=.ptr (h.next+1) 0)∨(x1=.ret∧cksFit a ss gg=false∧∃tm,s=⟨tm,z,[]⟩∧(Opd.t 4).ev tm=.bool false))
  (W_count a.cks.length (fun i s=>∃tm,s=⟨tm,z,[]⟩∧(∀j (hj:j<a.cks.length),j<i→ckFit a.cks[j] (ss[j],gg[j])=true)∧(Opd.t 2).ev tm=.ptr h.next 0∧(Opd.t 3).ev tm=.ptr (h.next+1) 0∧(Opd.t 5).ev tm=.int .i64 (i:Int))
  ?_ ?_ (i:=0) (Nat.zero_le _) ⟨_,rfl,fun j hj h0=>by omega,(by simp[ev_c,ev_put]<;>rfl),(by simp[ev_c,ev_put]<;>rfl),(by simp[ev_c,ev_put]<;>rfl)⟩) fun x1 s hx1=>?_
 ·rintro i s hi ⟨tm,rfl,hall,t2,t3,t5⟩
  have hi':(i:Int)<(a.cks.length:Int):=by omega
  have hiS:i<ss.length:=by omega
  have hiG:i<gg.length:=by omega
  obtain⟨bC,o1,k1,csC,_,hcC,hqC,_,hnC,hn0C⟩:=(x.c.mono sz).at hi
  obtain⟨bS,o2,k2,csS,_,hcS,hqS,_,_,nS'⟩:=(t.s.mono sz).at hiS
  obtain⟨bG,o3,k3,csG,_,hcG,hqG,_,_,nG'⟩:=(t.g.mono sz).at hiG
  have nS':=nS' (by decide)
  have nG':=nG' (by decide)
  simp only[encI,List.getElem?_cons_zero] at nS' nG'
  have v0:=hn0C (by decide)
  have v1:=hnC 1 (by decide)
  have v2:=hnC 2 (by decide)
  have v3:=hnC 3 (by decide)
  have hno:ckFit a.cks[i] (ss[i],gg[i])=false→cksFit a ss gg=false:=fun e=>by
   cases hc:cksFit a ss gg with
   |false=>rfl
   |true=>rw[cks_at hi hiS hiG hc] at e;cases e
  have hok:ckFit a.cks[i] (ss[i],gg[i])=true→∀j (hj:j<a.cks.length),j<i+1→ckFit a.cks[j] (ss[j],gg[j])=true:=fun e j hj h0=>by
   by_cases e2:j=i
   ·subst e2;exact e
   ·exact hall j hj (by omega)
  generalize a.cks[i]=c0 at v0 v1 v2 v3 hno hok
  generalize ss[i]=sv at nS' hno hok
  generalize gg[i]=gv at nG' hno hok
  simp only[encC,List.getElem?_cons_zero,List.getElem?_cons_succ] at v0 v1 v2 v3
  cases b1:inB sv c0.sl c0.sh with
  |false=>
   have e:=hno (by unfold ckFit;rw[b1,Bool.false_and])
   simp -implicitDefEqProofs(maxSteps:=999999)(disch:=first|with_reducible rfl|omega|(simp only[nA,nS,nD]<;>omega)|fail)only[go_sem,t2,t3,t5,hi',hlC,cells_of ga,cells_of gt,hqC (nat_cst i),hcC,v0,v1,v2,v3,hqS (nat_cst i),hcS,nS',hqG (nat_cst i),hcG,nG',off_eq,b1]
   first|exact .inr ⟨rfl,e,_,rfl,(by simp[ev_c,ev_put]<;>rfl)⟩|exact .inr ⟨e,_,rfl,(by simp[ev_c,ev_put]<;>rfl)⟩|exact⟨e,_,rfl,(by simp[ev_c,ev_put]<;>rfl)⟩
  |true=>
   cases b2:inB gv c0.gl c0.gh with
   |false=>
    have e:=hno (by unfold ckFit;rw[b1,b2];rfl)
    simp -implicitDefEqProofs(maxSteps:=999999)(disch:=first|with_reducible rfl|omega|(simp only[nA,nS,nD]<;>omega)|fail)only[go_sem,t2,t3,t5,hi',hlC,cells_of ga,cells_of gt,hqC (nat_cst i),hcC,v0,v1,v2,v3,hqS (nat_cst i),hcS,nS',hqG (nat_cst i),hcG,nG',off_eq,b1,b2]
    first|exact .inr ⟨rfl,e,_,rfl,(by simp[ev_c,ev_put]<;>rfl)⟩|exact .inr ⟨e,_,rfl,(by simp[ev_c,ev_put]<;>rfl)⟩|exact⟨e,_,rfl,(by simp[ev_c,ev_put]<;>rfl)⟩
   |true=>
    have e:=hok (by unfold ckFit;rw[b1,b2];rfl)
    simp -implicitDefEqProofs(maxSteps:=999999)(disch:=first|with_reducible rfl|omega|(simp only[nA,nS,nD]<;>omega)|fail)only[go_sem,t2,t3,t5,hi',hlC,cells_of ga,cells_of gt,hqC (nat_cst i),hcC,v0,v1,v2,v3,hqS (nat_cst i),hcS,nS',hqG (nat_cst i),hcG,nG',off_eq,b1,b2,wr_succ]
    exact⟨_,rfl,e,(by simp[ev_c,ev_put,t2]<;>rfl),(by simp[ev_c,ev_put,t3]<;>rfl),(by simp[ev_c,ev_put]<;>rfl)⟩
 ·rintro s ⟨tm,rfl,hall,t2,t3,t5⟩
  have e:cksFit a ss gg=true:=cks_all (by omega) (by omega) fun i h1=>hall i h1 h1
  simp -implicitDefEqProofs(maxSteps:=999999)(disch:=first|with_reducible rfl|omega|(simp only[nA,nS,nD]<;>omega)|fail)only[go_sem,t2,t3,t5,hlC,cells_of ga,cells_of gt,Int.lt_irrefl]
  first|exact .inl ⟨rfl,e,_,rfl,(by simp[ev_c,ev_put,t2]<;>rfl),(by simp[ev_c,ev_put,t3]<;>rfl)⟩|exact .inl ⟨e,_,rfl,(by simp[ev_c,ev_put,t2]<;>rfl),(by simp[ev_c,ev_put,t3]<;>rfl)⟩|exact⟨e,_,rfl,(by simp[ev_c,ev_put,t2]<;>rfl),(by simp[ev_c,ev_put,t3]<;>rfl)⟩
 rcases hx1 with⟨rfl,e,tm,rfl,t2,t3⟩|⟨rfl,e,tm,rfl,t4⟩
 ·rw[e,Bool.true_and] at q'
  simp -implicitDefEqProofs(maxSteps:=999999)(disch:=first|with_reducible rfl|omega|(simp only[nA,nS,nD]<;>omega)|fail)only[go_sem,t2,t3]
  refine W_count tt.length (fun i s=>∃tm,s=⟨tm,z,[]⟩∧(tt.take i).all (fun t=>inB t 0 a.mins)=true∧(Opd.t 2).ev tm=.ptr h.next 0∧(Opd.t 3).ev tm=.ptr (h.next+1) 0∧(Opd.t 6).ev tm=.int .i64 (i:Int))
   ?_ ?_ (i:=0) (Nat.zero_le _) ⟨_,rfl,by simp,(by simp[ev_c,ev_put,t2]<;>rfl),(by simp[ev_c,ev_put,t3]<;>rfl),(by simp[ev_c,ev_put]<;>rfl)⟩
  ·clear t2 t3
   rintro i s hi ⟨tm,rfl,hall,t2,t3,t6⟩
   have hi':(i:Int)<a.evs:=by omega
   obtain⟨bT,o2,k2,csT,_,hcT,hqT,_,_,nT'⟩:=(t.t.mono sz).at hi
   have nT':=nT' (by decide)
   simp only[encI,List.getElem?_cons_zero] at nT'
   have hok:=fun hp=>all_take_ok (p:=fun t=>inB t 0 a.mins) hi hall hp
   have hbad:=fun hp=>all_bad (p:=fun t=>inB t 0 a.mins) hi hp
   generalize tt[i]=tv at nT' hok hbad
   cases b1:inB tv 0 a.mins with
   |false=>
    have e:timFit a tt=false:=hbad b1
    rw[e] at q'
    simp -implicitDefEqProofs(maxSteps:=999999)(disch:=first|with_reducible rfl|omega|(simp only[nA,nS,nD]<;>omega)|fail)only[go_sem,t2,t3,t6,hi',cells_of ga,cells_of gt,hqT (nat_cst i),hcT,nT',off_eq,b1]
    exact q' _ sz
   |true=>
    simp -implicitDefEqProofs(maxSteps:=999999)(disch:=first|with_reducible rfl|omega|(simp only[nA,nS,nD]<;>omega)|fail)only[go_sem,t2,t3,t6,hi',cells_of ga,cells_of gt,hqT (nat_cst i),hcT,nT',off_eq,b1,wr_succ]
    exact⟨_,rfl,hok b1,(by simp[ev_c,ev_put,t2]<;>rfl),(by simp[ev_c,ev_put,t3]<;>rfl),(by simp[ev_c,ev_put]<;>rfl)⟩
  ·clear t2 t3
   rintro s ⟨tm,rfl,hall,t2,t3,t6⟩
   rw[List.take_length] at hall
   have e:timFit a tt=true:=hall
   rw[e] at q'
   have hi':¬(tt.length:Int)<a.evs:=by omega
   simp -implicitDefEqProofs(maxSteps:=999999)(disch:=first|with_reducible rfl|omega|(simp only[nA,nS,nD]<;>omega)|fail)only[go_sem,t2,t3,t6,hi',cells_of ga,cells_of gt]
   exact q' _ sz
 ·rw[e,Bool.false_and] at q'
  simp -implicitDefEqProofs(maxSteps:=999999)(disch:=first|with_reducible rfl|omega|(simp only[nA,nS,nD]<;>omega)|fail)only[go_sem,t4]
  exact q' _ sz
set_option maxHeartbeats 4000000 in
theorem refFits_ev {h:H}(hw:h.wf){a:At}{C R G:V}(x:AtAt h C R G a)(r:Right a){S Ga Tm:V}{ss gg tt:List Int}(t:TrAt h S Ga Tm ss gg tt)(Q:V→H→Prop)(q:∀h',h.Sub h'→Q (.bool (fitB a ss gg tt)) h'):
  Ev fnG fastA (.fn 45 [] []) [.agg (atV a C R G),.agg [S,Ga,Tm]] h Q:=by
 have oC:=x.c.one;have oR:=x.r.one;have oG:=x.g.one
 have oS:=t.s.one;have oGa:=t.g.one;have oTm:=t.t.one
 refine Ev_body (fd:=c45) rfl rfl rfl ?_
 obtain⟨z,hz⟩:∃z,(h.add (.cells .rw (atV a C R G))).add (.cells .rw [S,Ga,Tm])=z:=⟨_,rfl⟩
 have sz:h.Sub z:=by rw[←hz];exact(by repeat(first|assumption|exact H.Sub.refl (by assumption)|refine H.Sub.add ?_ _|refine H.Sub.set ?_ (by first|omega|(simp only[H.next_add,H.next_set,H.next_del]<;>omega)) (by first|omega|(simp only[H.next_add,H.next_set,H.next_del]<;>omega)) (by assumption) _))
 have ga:z.get h.next=some (.cells .rw (atV a C R G)):=by rw[←hz];simp -implicitDefEqProofs(maxSteps:=999999)(disch:=first|with_reducible rfl|omega|(simp only[nA,nS,nD]<;>omega)|fail)only[go_sem]
 have gt:z.get (h.next+1)=some (.cells .rw [S,Ga,Tm]):=by rw[←hz];simp -implicitDefEqProofs(maxSteps:=999999)(disch:=first|with_reducible rfl|omega|(simp only[nA,nS,nD]<;>omega)|fail)only[go_sem]
 rw[fitB_r] at q
 simp -implicitDefEqProofs(maxSteps:=999999)(disch:=first|with_reducible rfl|omega|(simp only[nA,nS,nD]<;>omega)|fail)only[c45,go_sem,oC,oR,oG,oS,oGa,oTm,hz,cells_of ga,cells_of gt]
 try rw[hz]
 clear hz
 refine refRight_ev sz.wf (x.mono sz) r (t.mono sz) _ fun z1 s1=>?_
 have s01:=sz.trans s1
 cases e:rgtB a ss gg tt with
 |false=>
  rw[e] at q
  simp -implicitDefEqProofs(maxSteps:=999999)(disch:=first|with_reducible rfl|omega|(simp only[nA,nS,nD]<;>omega)|fail)only[go_sem]
  exact q _ s01
 |true=>
  rw[e,Bool.true_and] at q
  simp only[rgtB,Bool.and_eq_true,lenFit_iff] at e
  obtain⟨⟨l1,l2,l3⟩,e1,e2⟩:=e
  have hm:=r.mins
  have ht:∀t∈tt,0≤t∧t≤240:=fun t ht=>by
   unfold timFit at e2
   have:=inB_iff.1 (List.all_eq_true.1 e2 t ht)
   omega
  have hrun:∀(k:Nat) s g,ss[k]? =some s→gg[k]? =some g→RunIn s g:=fun k s g h1 h2=>by
   have lk:=getl h1
   have lk2:=getl h2
   have lc:k<a.cks.length:=by omega
   have:=cks_at lc lk lk2 e1
   rw[List.getElem?_eq_getElem lk] at h1
   rw[List.getElem?_eq_getElem lk2] at h2
   cases h1;cases h2
   simp only[ckFit,Bool.and_eq_true,inB_iff] at this
   exact(RunOf.mk ⟨_,List.getElem?_eq_getElem lc,this.1.1,this.1.2,this.2.1,this.2.2⟩:RunOf a k (ss[k],gg[k])).run r
  simp -implicitDefEqProofs(maxSteps:=999999)(disch:=first|with_reducible rfl|omega|(simp only[nA,nS,nD]<;>omega)|fail)only[go_sem,cells_of (s1.get ga),cells_of (s1.get gt),oC,oR,oG,oS,oGa,oTm]
  refine refGaps_ev s01.wf (x.mono s01) r (t.t.mono s01) l3 ht _ fun z2 s2=>?_
  have s12:=s1.trans s2
  have s02:=s01.trans s2
  cases e3:gapsB a tt with
  |false=>
   rw[e3] at q
   simp -implicitDefEqProofs(maxSteps:=999999)(disch:=first|with_reducible rfl|omega|(simp only[nA,nS,nD]<;>omega)|fail)only[go_sem]
   exact q _ s02
  |true=>
   rw[e3,Bool.true_and] at q
   simp -implicitDefEqProofs(maxSteps:=999999)(disch:=first|with_reducible rfl|omega|(simp only[nA,nS,nD]<;>omega)|fail)only[go_sem,cells_of (s12.get ga),cells_of (s12.get gt),oC,oR,oG,oS,oGa,oTm]
   refine Missed_ev s02.wf (x.mono s02) r (t.mono s02) l1 l2 l3 ht hrun _ fun z3 s3=>?_
   simp -implicitDefEqProofs(maxSteps:=999999)(disch:=first|with_reducible rfl|omega|(simp only[nA,nS,nD]<;>omega)|fail)only[go_sem]
   exact q _ (s02.trans s3)
theorem lawTold_ev {h:H}(hw:h.wf){S Ga Tm:V}{ss gg tt:List Int}(t:TrAt h S Ga Tm ss gg tt)(l:ss.length≤1000∧gg.length≤1000∧tt.length≤1000)(Q:V→H→Prop)(q:∀S' G' T' h',h.Sub h'→TrAt h' S' G' T' ss gg tt→Q (.agg [S',G',T']) h'):
  Ev fnG fastA (.fn 46 [] []) [.agg [S,Ga,Tm]] h Q:=by
 obtain⟨l1,l2,l3⟩:=l
 have oS:=t.s.one;have oGa:=t.g.one;have oTm:=t.t.one
 obtain⟨z2,hz2⟩:∃z2,(h.add (.cells .rw [S,Ga,Tm])).add (.cells .rw [.nils,.nils,.nils])=z2:=⟨_,rfl⟩
 have s2:h.Sub z2:=by rw[←hz2];exact(by repeat(first|assumption|exact H.Sub.refl (by assumption)|refine H.Sub.add ?_ _|refine H.Sub.set ?_ (by first|omega|(simp only[H.next_add,H.next_set,H.next_del]<;>omega)) (by first|omega|(simp only[H.next_add,H.next_set,H.next_del]<;>omega)) (by assumption) _))
 have g1:z2.get h.next=some (.cells .rw [S,Ga,Tm]):=by rw[←hz2];simp -implicitDefEqProofs(maxSteps:=999999)(disch:=first|with_reducible rfl|omega|(simp only[nA,nS,nD]<;>omega)|fail)only[go_sem]
 have g2:z2.get (h.next+1)=some (.cells .rw [.nils,.nils,.nils]):=by rw[←hz2];simp -implicitDefEqProofs(maxSteps:=999999)(disch:=first|with_reducible rfl|omega|(simp only[nA,nS,nD]<;>omega)|fail)only[go_sem]
 have s3:=(H.Sub.refl s2.wf).add (.cells .rw (ss.map encI).flatten)
 have s4:=s3.add (.cells .rw (gg.map encI).flatten)
 have s5:=s4.add (.cells .rw (tt.map encI).flatten)
 have n2':z2.next=h.next+2:=by rw[←hz2];simp only[H.next_add]
 refine Ev_body (fd:=c46) rfl rfl rfl ?_
 simp -implicitDefEqProofs(maxSteps:=999999)(disch:=first|with_reducible rfl|omega|(simp only[nA,nS,nD]<;>omega)|fail)only[c46,go_sem,oS,oGa,oTm]
 rw[hz2]
 clear hz2
 have w2:=s2.wf
 have w3:=s3.wf
 have w4:=s4.wf
 simp -implicitDefEqProofs(maxSteps:=999999)(disch:=first|with_reducible rfl|omega|(simp only[nA,nS,nD]<;>omega)|fail)only[go_sem,dupInt_ev w2 (t.s.mono s2) (by omega),dupInt_ev w3 (t.g.mono (s2.trans s3)) (by omega),dupInt_ev w4 (t.t.mono (s2.trans s4)) (by omega),cells_of g1,cells_of (s3.get g1),cells_of (s4.get g1),cells_of (s5.get g1),s5.get g2]
 have n2:z2.next=h.next+2:=n2'
 have lS:∀l:List Int,l.length≤1000→(l.map encI).length≤9223372036854775807:=fun l hl=>by rw[List.length_map];omega
 have a1:SlAt (z2.add (.cells .rw (ss.map encI).flatten)) (.sl z2.next 0 ss.length (.fix ss.length)) 1 (ss.map encI):=SlAt.new _ rfl (by rw[List.length_map]) rfl (by simp[encI]) (lS _ l1)
 have a2:SlAt ((z2.add (.cells .rw (ss.map encI).flatten)).add (.cells .rw (gg.map encI).flatten)) (.sl (z2.next+1) 0 gg.length (.fix gg.length)) 1 (gg.map encI):=SlAt.new _ (by rw[H.next_add]) (by rw[List.length_map]) rfl (by simp[encI]) (lS _ l2)
 have a3:SlAt (((z2.add (.cells .rw (ss.map encI).flatten)).add (.cells .rw (gg.map encI).flatten)).add (.cells .rw (tt.map encI).flatten)) (.sl (z2.next+1+1) 0 tt.length (.fix tt.length)) 1 (tt.map encI):=SlAt.new _ (by rw[H.next_add,H.next_add]) (by rw[List.length_map]) rfl (by simp[encI]) (lS _ l3)
 have b1:=a1.mono (((H.Sub.refl s3.wf).add (.cells .rw (gg.map encI).flatten)).add (.cells .rw (tt.map encI).flatten))
 have b2:=a2.mono ((H.Sub.refl s4.wf).add (.cells .rw (tt.map encI).flatten))
 refine q _ _ _ _ ((s2.trans s5).set (by omega) (by simp only[H.next_add];omega) hw _) ⟨slKeepU b1 (Up.sl (n:=z2.next) (Nat.le_refl _)) (Keeps.set ..) fun b e=>by omega,slKeepU b2 (Up.sl (n:=z2.next) (by omega)) (Keeps.set ..) fun b e=>by omega,slKeepU a3 (Up.sl (n:=z2.next) (by omega)) (Keeps.set ..) fun b e=>by omega⟩
end Go.Ab.Tryz
namespace Go.Ab.Tryz
open Go.Proofs
theorem flat_encI:∀l:List Int,(l.map encI).flatten=l.map iv
 |[]=>rfl
 |a::l=>by rw[List.map_cons,List.flatten_cons,flat_encI l];rfl
theorem cons_app {h:H}(hw:h.wf){m:Int}{v:V}{l:List Int}(hv:SlAt h v 1 (l.map encI))(hl:l.length≤1000){Q:V→H→Prop}(q:∀y h',h.Sub h'→SlAt h' y 1 ((m::l).map encI)→Up h.next y→Q y h'):
  P2 (e_app' (h.add (.cells .rw [.int .i64 m])) 1 8 (.sl h.next 0 1 (.fix 1)) v) Q:=by
 have s1:h.Sub (h.add (.cells .rw [.int .i64 m])):=(H.Sub.refl hw).add _
 have hv1:=(hv.mono s1).elems
 rw[flat_encI,List.length_map] at hv1
 have x1:SlAt (h.add (.cells .rw [.int .i64 m])) (.sl h.next 0 1 (.fix 1)) 1 [encI m]:=SlAt.new _ rfl rfl rfl (by simp[encI]) (by simp)
 rw[e_app_eq,hv1.1,hv1.2]
 simp only[ob_some]
 cases l with
 |nil=>
  rw[List.length_nil,e_app_fix0]
  have:Nat.ble 1 1=true:=rfl
  rw[this,og_true,P2_some]
  exact q _ _ s1 x1 (Up.sl (Nat.le_refl _))
 |cons a l=>
  rw[List.length_cons] at hl
  rw[List.length_cons,e_app_full (by omega) x1.elems.1 (by omega) (by omega),grown_eq,P2_some]
  refine q _ _ (s1.add _) (⟨fun r hr=>by obtain⟨_,_,rfl⟩:=List.mem_map.1 hr;rfl,by rw[List.length_map,List.length_cons,List.length_cons];omega,.inr ⟨_,0,_,_,by rw[List.length_map,List.length_cons,List.length_cons];congr 1;omega,.inr (cells_add_new rfl),getN_eq.2 ⟨?_,?_⟩⟩⟩:SlAt _ _ 1 _) (Up.sl (by rw[H.next_add];omega))
  ·rw[List.drop_zero,flat_encI]
   have e:([encI m].flatten++(a::l).map iv)=(m::a::l).map iv:=rfl
   rw[e,List.length_map,Nat.mul_one]
   have:((m::a::l).map iv).length=(m::a::l).length:=List.length_map _
   rw[←this,List.take_length]
  ·simp[encI]
def timesL (a:At):Nat→List (List Int)
 |0=>[[]]
 |k+1=>(List.range (a.mins.toNat+1)).flatMap fun(m:Nat)=>(timesL a k).map fun l=>(m:Int)::l
theorem flat_len {α β:Type}{f:α→List β}{c:Nat}:∀{l:List α},(∀x∈l,(f x).length=c)→(l.flatMap f).length=l.length*c
 |[],_=>by simp
 |a::l,h=>by
  rw[List.flatMap_cons,List.length_append,h a (List.mem_cons_self ..),flat_len fun x hx=>h x (List.mem_cons_of_mem _ hx),List.length_cons,Nat.succ_mul]
  omega
theorem timesL_len (a:At):∀k,(timesL a k).length=(a.mins.toNat+1)^k
 |0=>rfl
 |k+1=>by
  rw[timesL,flat_len (c:=(timesL a k).length) (fun x _=>List.length_map _),List.length_range,timesL_len a k,Nat.pow_succ,Nat.mul_comm]
theorem timesL_mem {a:At}:∀{k:Nat} {l:List Int},l∈timesL a k↔l.length=k∧∀t∈l,0≤t∧t<a.mins.toNat+1
 |0,l=>by
  rw[timesL,List.mem_singleton]
  constructor
  ·rintro rfl;exact⟨rfl,fun t ht=>by cases ht⟩
  ·rintro⟨h,_⟩;exact List.length_eq_zero_iff.1 h
 |k+1,l=>by
  rw[timesL,List.mem_flatMap]
  constructor
  ·rintro⟨m,hm,hl⟩
   obtain⟨l',hl',rfl⟩:=List.mem_map.1 hl
   obtain⟨h1,h2⟩:=timesL_mem.1 hl'
   have:=List.mem_range.1 hm
   refine⟨by rw[List.length_cons,h1],fun t ht=>?_⟩
   rcases List.mem_cons.1 ht with rfl|ht
   ·omega
   ·exact h2 t ht
  ·rintro⟨h1,h2⟩
   cases l with
   |nil=>cases h1
   |cons t l=>
    have ht:=h2 t (List.mem_cons_self ..)
    refine⟨t.toNat,List.mem_range.2 (by omega),List.mem_map.2 ⟨l,timesL_mem.2 ⟨by simpa using h1,fun x hx=>h2 x (List.mem_cons_of_mem _ hx)⟩,?_⟩⟩
    rw[Int.toNat_of_nonneg ht.1]
set_option maxHeartbeats 4000000 in
theorem times_ev {a:At}(r:Right a):∀(k:Nat) {h:H} (hw:h.wf) {C R G:V} (x:AtAt h C R G a) {e:Nat} (he:(e:Int)+k=a.evs) (hb:(a.mins.toNat+1)^k≤100000) (Q:V→H→Prop) (q:∀y h',h.Sub h'→LR h.next h' y (timesL a k)→Q y h'),
  Ev fnG fastA (.fn 94 [] []) [.agg (atV a C R G),.int .i64 (e:Int)] h Q:=by
 have hev:=r.evs
 have hmn:=r.mins
 intro k
 induction k with
 |zero=>
  intro h hw C R G x e he hb Q q
  have oC:=x.c.one;have oR:=x.r.one;have oG:=x.g.one
  have hee:(e:Int)=a.evs:=by omega
  refine Ev_body (fd:=c94) rfl rfl rfl ?_
  obtain⟨z,hz⟩:∃z,h.add (.cells .rw (atV a C R G))=z:=⟨_,rfl⟩
  have sz:h.Sub z:=by rw[←hz];exact(by repeat(first|assumption|exact H.Sub.refl (by assumption)|refine H.Sub.add ?_ _|refine H.Sub.set ?_ (by first|omega|(simp only[H.next_add,H.next_set,H.next_del]<;>omega)) (by first|omega|(simp only[H.next_add,H.next_set,H.next_del]<;>omega)) (by assumption) _))
  have ga:z.get h.next=some (.cells .rw (atV a C R G)):=by rw[←hz];exact get_add_new rfl
  simp -implicitDefEqProofs(maxSteps:=999999)(disch:=first|with_reducible rfl|omega|(simp only[nA,nS,nD]<;>omega)|fail)only[c94,go_sem,oC,oR,oG,hz,cells_of ga,hee]
  try rw[hz]
  refine q _ _ (sz.add _) ⟨[.nils],SlAt.new _ (by rw[←hz]) rfl rfl (by simp) (by simp),rfl,fun i v l h1 h2=>?_,Up.sl sz.next,fun v hv=>by rw[List.mem_singleton] at hv;rw[hv];exact Up.nils _⟩
  have hi:=getl h1
  have:i=0:=by simp at hi;exact hi
  subst this
  cases h1;cases h2
  exact⟨by simp,by simp,.inl ⟨rfl,rfl⟩⟩
 |succ k ih=>
  intro h hw C R G x e he hb Q q
  have oC:=x.c.one;have oR:=x.r.one;have oG:=x.g.one
  have hee:¬(e:Int)=a.evs:=by omega
  have we:wr .i64 ((e:Int)+1)=((e+1:Nat):Int):=by rw[wr_in (by omega) (by omega)];omega
  have hb1:(a.mins.toNat+1)^k≤100000:=Nat.le_trans (Nat.pow_le_pow_right (by omega) (by omega)) hb
  refine Ev_body (fd:=c94) rfl rfl rfl ?_
  obtain⟨z,hz⟩:∃z,h.add (.cells .rw (atV a C R G))=z:=⟨_,rfl⟩
  have sz:h.Sub z:=by rw[←hz];exact(by repeat(first|assumption|exact H.Sub.refl (by assumption)|refine H.Sub.add ?_ _|refine H.Sub.set ?_ (by first|omega|(simp only[H.next_add,H.next_set,H.next_del]<;>omega)) (by first|omega|(simp only[H.next_add,H.next_set,H.next_del]<;>omega)) (by assumption) _))
  have ga:z.get h.next=some (.cells .rw (atV a C R G)):=by rw[←hz];exact get_add_new rfl
  simp -implicitDefEqProofs(maxSteps:=999999)(disch:=first|with_reducible rfl|omega|(simp only[nA,nS,nD]<;>omega)|fail)only[c94,go_sem,oC,oR,oG,hz,cells_of ga,hee,we]
  try rw[hz]
  clear hz
  refine ih sz.wf (x.mono sz) (e:=e+1) (by omega) hb1 _ fun yr z1 s1 kr=>?_
  have hlr:=kr.lenE
  have s01:=sz.trans s1
  have ga1:=s1.get ga
  have hw1:=s01.wf
  obtain⟨M,hM⟩:∃M:Nat,a.mins=M:=⟨a.mins.toNat,by omega⟩
  have hM2:a.mins.toNat=M:=by omega
  have hfull:(timesL a (k+1))=(List.range (M+1)).flatMap fun(m:Nat)=>(timesL a k).map fun l=>(m:Int)::l:=by rw[timesL,hM2]
  have hlen1:(timesL a k).length≤100000:=by rw[timesL_len];exact hb1
  have hpre:∀i,i≤M+1→((List.range i).flatMap fun(m:Nat)=>(timesL a k).map fun l=>(m:Int)::l).length≤100000:=fun i hi=>by
   rw[flat_len (c:=(timesL a k).length) (fun x _=>List.length_map _),List.length_range,timesL_len,hM2]
   have h1:=Nat.mul_le_mul_right ((M+1)^k) hi
   rw[hM2,Nat.pow_succ,Nat.mul_comm] at hb
   omega
  simp -implicitDefEqProofs(maxSteps:=999999)(disch:=first|with_reducible rfl|omega|(simp only[nA,nS,nD]<;>omega)|fail)only[go_sem]
  refine W_count (M+1) (fun i s=>∃tm z2 y vs,s=⟨tm,z2,[]⟩∧LL z1 z2 y ((List.range i).flatMap fun(m:Nat)=>(timesL a k).map fun l=>(m:Int)::l) vs∧
    (Opd.t 2).ev tm=.ptr h.next 0∧(Opd.t 5).ev tm=yr∧(Opd.t 6).ev tm=y∧(Opd.t 7).ev tm=.int .i64 (i:Int)) ?_ ?_ (i:=0) (Nat.zero_le _)
   ⟨_,_,_,_,rfl,LL.nil (H.Sub.refl hw1),(by simp[ev_c,ev_put]<;>rfl),(by simp[ev_c,ev_put]<;>rfl),(by simp[ev_c,ev_put]<;>rfl),(by simp[ev_c,ev_put]<;>rfl)⟩
  ·rintro i s hi ⟨tm,z2,y,vs,rfl,ll,t2,t5,t6,t7⟩
   have hi':(i:Int)≤(M:Int):=by omega
   have s2:=ll.o.1
   simp -implicitDefEqProofs(maxSteps:=999999)(disch:=first|with_reducible rfl|omega|(simp only[nA,nS,nD]<;>omega)|fail)only[go_sem,t2,t5,t6,t7,cells_of (s2.get ga1),hM,hi']
   refine W_count (timesL a k).length (fun j s=>∃tm z2 y vs,s=⟨tm,z2,[]⟩∧LL z1 z2 y (((List.range i).flatMap fun(m:Nat)=>(timesL a k).map fun l=>(m:Int)::l)++((timesL a k).take j).map fun l=>(i:Int)::l) vs∧
     (Opd.t 2).ev tm=.ptr h.next 0∧(Opd.t 5).ev tm=yr∧(Opd.t 6).ev tm=y∧(Opd.t 7).ev tm=.int .i64 (i:Int)∧(Opd.t 8).ev tm=.int .i64 (j:Int)) ?_ ?_ (i:=0) (Nat.zero_le _)
    ⟨_,_,_,_,rfl,by simpa using ll,(by simp[ev_c,ev_put,t2]<;>rfl),(by simp[ev_c,ev_put,t5]<;>rfl),(by simp[ev_c,ev_put,t6]<;>rfl),(by simp[ev_c,ev_put,t7]<;>rfl),(by simp[ev_c,ev_put]<;>rfl)⟩
   ·clear ll t2 t5 t6 t7 s2
    rintro j s hj ⟨tm,z2,y,vs,rfl,ll,t2,t5,t6,t7,t8⟩
    have hj':(j:Int)<((timesL a k).length:Int):=by omega
    have s2:=ll.o.1
    obtain⟨bb,o,cs,v,hc,hq,hn,hv,_⟩:=(kr.mono s2).at_ hj
    have hlk:=(timesL_mem.1 (List.getElem_mem hj)).1
    have hst:(timesL a k).take (j+1)=(timesL a k).take j++[(timesL a k)[j]]:=by rw[List.take_add_one,List.getElem?_eq_getElem hj];rfl
    have hlt:=hpre i (by omega)
    have s2a:=(H.Sub.refl s2.wf).add (.cells .rw [.int .i64 (i:Int)])
    simp -implicitDefEqProofs(maxSteps:=999999)(disch:=first|with_reducible rfl|omega|(simp only[nA,nS,nD]<;>omega)|fail)only[go_sem,t2,t5,t6,t7,t8,hlr,hj',hq (nat_cst j),hc,s2a.cells hc,hn]
    refine cons_app s2.wf hv (by omega) fun y3 z3 s3 x3 u3=>?_
    have o3:=x3.one
    simp -implicitDefEqProofs(maxSteps:=999999)(disch:=first|with_reducible rfl|omega|(simp only[nA,nS,nD]<;>omega)|fail)only[go_sem,t2,t5,t6,t7,t8,o3,cells_one o3]
    refine ll.push hw1 (by rw[List.length_append,List.length_map,List.length_take];omega) s3 x3 (u3.low s2.next) fun y4 z4 l4=>?_
    simp -implicitDefEqProofs(maxSteps:=999999)(disch:=first|with_reducible rfl|omega|(simp only[nA,nS,nD]<;>omega)|fail)only[go_sem,t2,t5,t6,t7,t8,wr_succ]
    exact⟨_,_,_,_,rfl,by rw[hst,List.map_append,←List.append_assoc];exact l4,(by simp[ev_c,ev_put,t2]<;>rfl),(by simp[ev_c,ev_put,t5]<;>rfl),(by simp[ev_c,ev_put]<;>rfl),(by simp[ev_c,ev_put,t7]<;>rfl),(by simp[ev_c,ev_put]<;>rfl)⟩
   ·clear ll t2 t5 t6 t7 s2
    rintro s ⟨tm,z2,y,vs,rfl,ll,t2,t5,t6,t7,t8⟩
    have hjj:¬((timesL a k).length:Int)<((timesL a k).length:Int):=by omega
    rw[List.take_length] at ll
    have w7:wr .i64 ((i:Int)+1)=((i+1:Nat):Int):=by rw[wr_in (by omega) (by omega)];omega
    simp -implicitDefEqProofs(maxSteps:=999999)(disch:=first|with_reducible rfl|omega|(simp only[nA,nS,nD]<;>omega)|fail)only[go_sem,t2,t5,t6,t7,t8,hlr,hjj,w7]
    exact⟨_,_,_,_,rfl,by(try rw[List.range_succ]);rw[List.flatMap_append];simpa using ll,(by simp[ev_c,ev_put,t2]<;>rfl),(by simp[ev_c,ev_put,t5]<;>rfl),(by simp[ev_c,ev_put,t6]<;>rfl),(by simp[ev_c,ev_put]<;>rfl)⟩
  ·rintro s ⟨tm,z2,y,vs,rfl,ll,t2,t5,t6,t7⟩
   have hi':¬((M+1:Nat):Int)≤(M:Int):=by omega
   have s2:=ll.o.1
   rw[←hfull] at ll
   simp -implicitDefEqProofs(maxSteps:=999999)(disch:=first|with_reducible rfl|omega|(simp only[nA,nS,nD]<;>omega)|fail)only[go_sem,t2,t5,t6,t7,cells_of (s2.get ga1),hM,hi']
   exact q _ _ (s01.trans s2) ((ll.rd (by rw[timesL_len];omega)).low s01.next)
end Go.Ab.Tryz
namespace Go.Ab.Tryz
open Go.Proofs
theorem cons2_app {h:H}(hw:h.wf){m n:Int}{v:V}{l:List Int}(hv:SlAt h v 1 (l.map encI))(hl:l.length≤1000){Q:V→H→Prop}(q:∀y h',h.Sub h'→SlAt h' y 1 ((m::n::l).map encI)→Up h.next y→Q y h'):
  P2 (e_app' (h.add (.cells .rw [.int .i64 m,.int .i64 n])) 1 8 (.sl h.next 0 2 (.fix 2)) v) Q:=by
 have s1:h.Sub (h.add (.cells .rw [.int .i64 m,.int .i64 n])):=(H.Sub.refl hw).add _
 have hv1:=(hv.mono s1).elems
 rw[flat_encI,List.length_map] at hv1
 have x1:SlAt (h.add (.cells .rw [.int .i64 m,.int .i64 n])) (.sl h.next 0 2 (.fix 2)) 1 [encI m,encI n]:=SlAt.new _ rfl rfl rfl (by simp[encI]) (by simp)
 rw[e_app_eq,hv1.1,hv1.2]
 simp only[ob_some]
 cases l with
 |nil=>
  rw[List.length_nil,e_app_fix0]
  have:Nat.ble 2 2=true:=rfl
  rw[this,og_true,P2_some]
  exact q _ _ s1 x1 (Up.sl (Nat.le_refl _))
 |cons a l=>
  rw[List.length_cons] at hl
  rw[List.length_cons,e_app_full (by omega) x1.elems.1 (by omega) (by omega),grown_eq,P2_some]
  refine q _ _ (s1.add _) (⟨fun r hr=>by obtain⟨_,_,rfl⟩:=List.mem_map.1 hr;rfl,by rw[List.length_map,List.length_cons,List.length_cons,List.length_cons];omega,.inr ⟨_,0,_,_,by rw[List.length_map,List.length_cons,List.length_cons,List.length_cons];congr 1;omega,.inr (cells_add_new rfl),getN_eq.2 ⟨?_,?_⟩⟩⟩:SlAt _ _ 1 _) (Up.sl (by rw[H.next_add];omega))
  ·rw[List.drop_zero,flat_encI]
   have e:([encI m,encI n].flatten++(a::l).map iv)=(m::n::a::l).map iv:=rfl
   rw[e,List.length_map,Nat.mul_one]
   have:((m::n::a::l).map iv).length=(m::n::a::l).length:=List.length_map _
   rw[←this,List.take_length]
  ·simp[encI]
def runsL:List Ck→List (List Int)
 |[]=>[[]]
 |c::cs=>(List.range c.ns).flatMap fun(u:Nat)=>(List.range c.ng).flatMap fun(v:Nat)=>(runsL cs).map fun l=>(c.sl+u)::(c.gl+v)::l
def runsN:List Ck→Nat
 |[]=>1
 |c::cs=>c.ns*(c.ng*runsN cs)
theorem runsL_len:∀cs,(runsL cs).length=runsN cs
 |[]=>rfl
 |c::cs=>by
  rw[runsL,flat_len (c:=c.ng*runsN cs) (fun x _=>?_),List.length_range,runsN]
  rw[flat_len (c:=runsN cs) (fun y _=>by rw[List.length_map,runsL_len cs]),List.length_range]
theorem runsL_row:∀{cs:List Ck} {l:List Int},l∈runsL cs→l.length=2*cs.length
 |[],l,h=>by rw[runsL,List.mem_singleton] at h;rw[h];rfl
 |c::cs,l,h=>by
  rw[runsL,List.mem_flatMap] at h
  obtain⟨u,_,h⟩:=h
  obtain⟨v,_,h⟩:=List.mem_flatMap.1 h
  obtain⟨l',hl',rfl⟩:=List.mem_map.1 h
  have:=runsL_row hl'
  simp only[List.length_cons];omega
def preR (c:Ck)(R:List (List Int))(u v j:Nat):List (List Int):=
 ((List.range u).flatMap fun(u:Nat)=>(List.range c.ng).flatMap fun(v:Nat)=>R.map fun l=>(c.sl+u)::(c.gl+v)::l)++((List.range v).flatMap fun(v:Nat)=>R.map fun l=>(c.sl+u)::(c.gl+v)::l)++(R.take j).map fun l=>(c.sl+u)::(c.gl+v)::l
theorem preR_step (c:Ck){R:List (List Int)}(u v:Nat){j:Nat}(hj:j<R.length):preR c R u v (j+1)=preR c R u v j++[(c.sl+u)::(c.gl+v)::R[j]]:=by
 unfold preR
 rw[List.take_add_one,List.getElem?_eq_getElem hj,List.map_append]
 simp only[List.append_assoc];rfl
theorem preR_row (c:Ck)(R:List (List Int))(u v:Nat):preR c R u (v+1) 0=preR c R u v R.length:=by
 simp only[preR,List.take_zero,List.map_nil,List.append_nil,List.take_length,List.range_succ,List.flatMap_append,List.flatMap_cons,List.flatMap_nil,List.append_assoc]
theorem preR_col (c:Ck)(R:List (List Int))(u:Nat):preR c R (u+1) 0 0=preR c R u c.ng 0:=by
 simp only[preR,List.take_zero,List.map_nil,List.append_nil,List.range_zero,List.range_succ,List.flatMap_append,List.flatMap_cons,List.flatMap_nil,List.append_assoc]
theorem preR_len (c:Ck)(R:List (List Int))(u v j:Nat):(preR c R u v j).length=u*(c.ng*R.length)+v*R.length+min j R.length:=by
 unfold preR
 rw[List.length_append,List.length_append,List.length_map,List.length_take,flat_len (c:=c.ng*R.length) (fun x _=>?_),flat_len (c:=R.length) (fun y _=>List.length_map _),List.length_range,List.length_range]
 rw[flat_len (c:=R.length) (fun y _=>List.length_map _),List.length_range]
theorem preR_full (c:Ck)(R:List (List Int)):preR c R c.ns 0 0=(List.range c.ns).flatMap fun(u:Nat)=>(List.range c.ng).flatMap fun(v:Nat)=>R.map fun l=>(c.sl+u)::(c.gl+v)::l:=by
 simp only[preR,List.take_zero,List.map_nil,List.append_nil,List.range_zero,List.flatMap_nil]
theorem runsN_le {c:Ck}{cs:List Ck}(h1:1≤c.ns)(h2:1≤c.ng):runsN cs≤runsN (c::cs):=by
 have a:=Nat.le_mul_of_pos_left (runsN cs) h2
 have b:=Nat.le_mul_of_pos_left (c.ng*runsN cs) h1
 show runsN cs≤c.ns*(c.ng*runsN cs)
 omega
set_option maxHeartbeats 4000000 in
theorem runs_ev {a:At}(r:Right a):∀(k:Nat) {h:H} (hw:h.wf) {C R G:V} (x:AtAt h C R G a) {e:Nat} (he:e+k=a.cks.length) (hb:runsN (a.cks.drop e)≤100000) (Q:V→H→Prop) (q:∀y h',h.Sub h'→LR h.next h' y (runsL (a.cks.drop e))→Q y h'),
  Ev fnG fastA (.fn 95 [] []) [.agg (atV a C R G),.int .i64 (e:Int)] h Q:=by
 have rl:=r.lens
 intro k
 induction k with
 |zero=>
  intro h hw C R G x e he hb Q q
  have oC:=x.c.one;have oR:=x.r.one;have oG:=x.g.one
  have hlC:=x.c.lenE
  have hee:(e:Int)=(a.cks.length:Int):=by omega
  rw[List.drop_eq_nil_of_le (by omega)] at q
  refine Ev_body (fd:=c95) rfl rfl rfl ?_
  obtain⟨z,hz⟩:∃z,h.add (.cells .rw (atV a C R G))=z:=⟨_,rfl⟩
  have sz:h.Sub z:=by rw[←hz];exact(by repeat(first|assumption|exact H.Sub.refl (by assumption)|refine H.Sub.add ?_ _|refine H.Sub.set ?_ (by first|omega|(simp only[H.next_add,H.next_set,H.next_del]<;>omega)) (by first|omega|(simp only[H.next_add,H.next_set,H.next_del]<;>omega)) (by assumption) _))
  have ga:z.get h.next=some (.cells .rw (atV a C R G)):=by rw[←hz];exact get_add_new rfl
  simp -implicitDefEqProofs(maxSteps:=999999)(disch:=first|with_reducible rfl|omega|(simp only[nA,nS,nD]<;>omega)|fail)only[c95,go_sem,oC,oR,oG,hz,cells_of ga,hlC,hee]
  try rw[hz]
  refine q _ _ (sz.add _) ⟨[.nils],SlAt.new _ (by rw[←hz]) rfl rfl (by simp) (by simp),rfl,fun i v l h1 h2=>?_,Up.sl sz.next,fun v hv=>by rw[List.mem_singleton] at hv;rw[hv];exact Up.nils _⟩
  have hi:=getl h1
  have:i=0:=by simp at hi;exact hi
  subst this
  cases h1;cases h2
  exact⟨by simp,by simp,.inl ⟨rfl,rfl⟩⟩
 |succ k ih=>
  intro h hw C R G x e he hb Q q
  have oC:=x.c.one;have oR:=x.r.one;have oG:=x.g.one
  have hlC:=x.c.lenE
  have hee:¬(e:Int)=(a.cks.length:Int):=by omega
  have hel:e<a.cks.length:=by omega
  have we:wr .i64 ((e:Int)+1)=((e+1:Nat):Int):=by rw[wr_in (by omega) (by omega)];omega
  have hm:=List.getElem_mem hel
  have hdrop:a.cks.drop e=a.cks[e]::a.cks.drop (e+1):=List.drop_eq_getElem_cons hel
  have hcb:=r.cb _ hm
  have hco:=r.co _ hm
  simp only[Ck.bd,within,Bool.and_eq_true,inB_iff] at hcb
  simp only[Ck.ord,Bool.and_eq_true,decide_eq_true_eq] at hco
  rw[hdrop] at hb q
  refine Ev_body (fd:=c95) rfl rfl rfl ?_
  obtain⟨z,hz⟩:∃z,h.add (.cells .rw (atV a C R G))=z:=⟨_,rfl⟩
  have sz:h.Sub z:=by rw[←hz];exact(by repeat(first|assumption|exact H.Sub.refl (by assumption)|refine H.Sub.add ?_ _|refine H.Sub.set ?_ (by first|omega|(simp only[H.next_add,H.next_set,H.next_del]<;>omega)) (by first|omega|(simp only[H.next_add,H.next_set,H.next_del]<;>omega)) (by assumption) _))
  have ga:z.get h.next=some (.cells .rw (atV a C R G)):=by rw[←hz];exact get_add_new rfl
  simp -implicitDefEqProofs(maxSteps:=999999)(disch:=first|with_reducible rfl|omega|(simp only[nA,nS,nD]<;>omega)|fail)only[c95,go_sem,oC,oR,oG,hz,cells_of ga,hlC,hee,we]
  try rw[hz]
  clear hz
  have n1:1≤a.cks[e].ns:=by unfold Ck.ns;omega
  have n2:1≤a.cks[e].ng:=by unfold Ck.ng;omega
  refine ih sz.wf (x.mono sz) (e:=e+1) (by omega) (Nat.le_trans (runsN_le n1 n2) hb) _ fun yr z1 s1 kr=>?_
  obtain⟨RR,hRR⟩:∃RR,runsL (a.cks.drop (e+1))=RR:=⟨_,rfl⟩
  have hRl:RR.length=runsN (a.cks.drop (e+1)):=by rw[←hRR,runsL_len]
  have hrow:∀l∈RR,l.length≤1000:=fun l hl=>by
   rw[←hRR] at hl
   have:=runsL_row hl
   rw[List.length_drop] at this;omega
  rw[hRR] at kr
  rw[runsL,hRR] at q
  rw[runsN,←hRl] at hb
  have hlr:=kr.lenE
  have s01:=sz.trans s1
  have ga1:=s1.get ga
  obtain⟨bC,oCC,cC,csC,_,hcC,hqC,hgC,_,_⟩:=(x.c.mono s01).at hel
  generalize a.cks[e]=c at hgC hb q hcb hco n1 n2
  simp only[encC] at hgC
  obtain⟨z2,hz2⟩:∃z2,z1.add (.cells .rw [.int .i64 c.sl,.int .i64 c.sh,.int .i64 c.gl,.int .i64 c.gh])=z2:=⟨_,rfl⟩
  have s2:z1.Sub z2:=by rw[←hz2];exact(H.Sub.refl s01.wf).add _
  have g6:z2.get z1.next=some (.cells .rw [.int .i64 c.sl,.int .i64 c.sh,.int .i64 c.gl,.int .i64 c.gh]):=by rw[←hz2];exact get_add_new rfl
  have hw2:=s2.wf
  have hns:((c.ns:Nat):Int)=c.sh-c.sl+1:=by unfold Ck.ns;omega
  have hng:((c.ng:Nat):Int)=c.gh-c.gl+1:=by unfold Ck.ng;omega
  have hpl:∀u v j,u≤c.ns→(u=c.ns→v=0∧j=0)→v≤c.ng→(v=c.ng→j=0)→(preR c RR u v j).length≤1000000:=fun u v j h1 h2 h3 h4=>by
   rw[preR_len]
   have e1:=Nat.mul_le_mul_right (c.ng*RR.length) h1
   have e2:=Nat.mul_le_mul_right RR.length h3
   have e3:=Nat.le_mul_of_pos_left (c.ng*RR.length) n1
   have e4:=Nat.le_mul_of_pos_left RR.length n2
   omega
  have hRb:RR.length≤100000:=by
   have e3:=Nat.le_mul_of_pos_left (c.ng*RR.length) n1
   have e4:=Nat.le_mul_of_pos_left RR.length n2
   omega
  simp -implicitDefEqProofs(maxSteps:=999999)(disch:=first|with_reducible rfl|omega|(simp only[nA,nS,nD]<;>omega)|fail)only[go_sem,cells_of ga1,hqC (nat_cst e),hcC,hgC,hz2,cells_of g6]
  try rw[hz2]
  clear hz2
  refine W_count c.ns (fun u s=>∃tm z3 y vs,s=⟨tm,z3,[]⟩∧LL z2 z3 y (preR c RR u 0 0) vs∧(Opd.t 5).ev tm=yr∧(Opd.t 6).ev tm=.ptr z1.next 0∧(Opd.t 7).ev tm=y∧(Opd.t 8).ev tm=.int .i64 (c.sl+(u:Int))) ?_ ?_ (i:=0) (Nat.zero_le _)
   ⟨_,_,_,_,rfl,LL.nil (H.Sub.refl hw2),(by simp[ev_c,ev_put]<;>rfl),(by simp[ev_c,ev_put]<;>rfl),(by simp[ev_c,ev_put]<;>rfl),by rw[show c.sl+((0:Nat):Int)=c.sl by omega];exact(by simp[ev_c,ev_put]<;>rfl)⟩
  ·rintro u s hu ⟨tm,z3,y,vs,rfl,ll,t5,t6,t7,t8⟩
   have hu':c.sl+(u:Int)≤c.sh:=by omega
   have s3:=ll.o.1
   simp -implicitDefEqProofs(maxSteps:=999999)(disch:=first|with_reducible rfl|omega|(simp only[nA,nS,nD]<;>omega)|fail)only[go_sem,t5,t6,t7,t8,cells_of (s3.get g6),hu']
   refine W_count c.ng (fun v s=>∃tm z3 y vs,s=⟨tm,z3,[]⟩∧LL z2 z3 y (preR c RR u v 0) vs∧(Opd.t 5).ev tm=yr∧(Opd.t 6).ev tm=.ptr z1.next 0∧(Opd.t 7).ev tm=y∧(Opd.t 8).ev tm=.int .i64 (c.sl+(u:Int))∧(Opd.t 9).ev tm=.int .i64 (c.gl+(v:Int))) ?_ ?_ (i:=0) (Nat.zero_le _)
    ⟨_,_,_,_,rfl,ll,(by simp[ev_c,ev_put,t5]<;>rfl),(by simp[ev_c,ev_put,t6]<;>rfl),(by simp[ev_c,ev_put,t7]<;>rfl),(by simp[ev_c,ev_put,t8]<;>rfl),by rw[show c.gl+((0:Nat):Int)=c.gl by omega];exact(by simp[ev_c,ev_put]<;>rfl)⟩
   ·clear ll t5 t6 t7 t8 s3
    rintro v s hv ⟨tm,z3,y,vs,rfl,ll,t5,t6,t7,t8,t9⟩
    have hv':c.gl+(v:Int)≤c.gh:=by omega
    have s3:=ll.o.1
    simp -implicitDefEqProofs(maxSteps:=999999)(disch:=first|with_reducible rfl|omega|(simp only[nA,nS,nD]<;>omega)|fail)only[go_sem,t5,t6,t7,t8,t9,cells_of (s3.get g6),hv']
    refine W_count RR.length (fun j s=>∃tm z3 y vs,s=⟨tm,z3,[]⟩∧LL z2 z3 y (preR c RR u v j) vs∧(Opd.t 5).ev tm=yr∧(Opd.t 6).ev tm=.ptr z1.next 0∧(Opd.t 7).ev tm=y∧(Opd.t 8).ev tm=.int .i64 (c.sl+(u:Int))∧(Opd.t 9).ev tm=.int .i64 (c.gl+(v:Int))∧(Opd.t 10).ev tm=.int .i64 (j:Int)) ?_ ?_ (i:=0) (Nat.zero_le _)
     ⟨_,_,_,_,rfl,ll,(by simp[ev_c,ev_put,t5]<;>rfl),(by simp[ev_c,ev_put,t6]<;>rfl),(by simp[ev_c,ev_put,t7]<;>rfl),(by simp[ev_c,ev_put,t8]<;>rfl),(by simp[ev_c,ev_put,t9]<;>rfl),(by simp[ev_c,ev_put]<;>rfl)⟩
    ·clear ll t5 t6 t7 t8 t9 s3
     rintro j s hj ⟨tm,z3,y,vs,rfl,ll,t5,t6,t7,t8,t9,t10⟩
     have hj':(j:Int)<(RR.length:Int):=by omega
     have s3:=ll.o.1
     obtain⟨bb,o,cs,w,hc,hq,hn,hv2,_⟩:=(kr.mono (s2.trans s3)).at_ hj
     have s3a:=(H.Sub.refl s3.wf).add (.cells .rw [.int .i64 (c.sl+(u:Int)),.int .i64 (c.gl+(v:Int))])
     simp -implicitDefEqProofs(maxSteps:=999999)(disch:=first|with_reducible rfl|omega|(simp only[nA,nS,nD]<;>omega)|fail)only[go_sem,t5,t6,t7,t8,t9,t10,hlr,hj',hq (nat_cst j),hc,s3a.cells hc,hn]
     refine cons2_app s3.wf hv2 (hrow _ (List.getElem_mem hj)) fun y4 z4 s4 x4 u4=>?_
     have o4:=x4.one
     simp -implicitDefEqProofs(maxSteps:=999999)(disch:=first|with_reducible rfl|omega|(simp only[nA,nS,nD]<;>omega)|fail)only[go_sem,t5,t6,t7,t8,t9,t10,o4,cells_one o4]
     refine ll.push hw2 (hpl u v j (by omega) (by omega) (by omega) (by omega)) s4 x4 (u4.low s3.next) fun y5 z5 l5=>?_
     have w10:wr .i64 ((j:Int)+1)=(j:Int)+1:=wr_in (by omega) (by omega)
     simp -implicitDefEqProofs(maxSteps:=999999)(disch:=first|with_reducible rfl|omega|(simp only[nA,nS,nD]<;>omega)|fail)only[go_sem,t5,t6,t7,t8,t9,t10,w10]
     exact⟨_,_,_,_,rfl,by rw[preR_step c u v hj];exact l5,(by simp[ev_c,ev_put,t5]<;>rfl),(by simp[ev_c,ev_put,t6]<;>rfl),(by simp[ev_c,ev_put]<;>rfl),(by simp[ev_c,ev_put,t8]<;>rfl),(by simp[ev_c,ev_put,t9]<;>rfl),(by simp[ev_c,ev_put]<;>rfl)⟩
    ·clear ll t5 t6 t7 t8 t9 s3
     rintro s ⟨tm,z3,y,vs,rfl,ll,t5,t6,t7,t8,t9,t10⟩
     have w9:wr .i64 (c.gl+(v:Int)+1)=c.gl+((v+1:Nat):Int):=by rw[wr_in (by omega) (by omega)];omega
     simp -implicitDefEqProofs(maxSteps:=999999)(disch:=first|with_reducible rfl|omega|(simp only[nA,nS,nD]<;>omega)|fail)only[go_sem,t5,t6,t7,t8,t9,t10,hlr,Int.lt_irrefl,w9]
     exact⟨_,_,_,_,rfl,by rw[preR_row];exact ll,(by simp[ev_c,ev_put,t5]<;>rfl),(by simp[ev_c,ev_put,t6]<;>rfl),(by simp[ev_c,ev_put,t7]<;>rfl),(by simp[ev_c,ev_put,t8]<;>rfl),(by simp[ev_c,ev_put]<;>rfl)⟩
   ·clear ll t5 t6 t7 t8 s3
    rintro s ⟨tm,z3,y,vs,rfl,ll,t5,t6,t7,t8,t9⟩
    have hv':¬c.gl+(c.ng:Int)≤c.gh:=by omega
    have s3:=ll.o.1
    have w8:wr .i64 (c.sl+(u:Int)+1)=c.sl+((u+1:Nat):Int):=by rw[wr_in (by omega) (by omega)];omega
    simp -implicitDefEqProofs(maxSteps:=999999)(disch:=first|with_reducible rfl|omega|(simp only[nA,nS,nD]<;>omega)|fail)only[go_sem,t5,t6,t7,t8,t9,cells_of (s3.get g6),hv',w8]
    exact⟨_,_,_,_,rfl,by rw[preR_col];exact ll,(by simp[ev_c,ev_put,t5]<;>rfl),(by simp[ev_c,ev_put,t6]<;>rfl),(by simp[ev_c,ev_put,t7]<;>rfl),(by simp[ev_c,ev_put]<;>rfl)⟩
  ·rintro s ⟨tm,z3,y,vs,rfl,ll,t5,t6,t7,t8⟩
   have hu':¬c.sl+(c.ns:Int)≤c.sh:=by omega
   have s3:=ll.o.1
   simp -implicitDefEqProofs(maxSteps:=999999)(disch:=first|with_reducible rfl|omega|(simp only[nA,nS,nD]<;>omega)|fail)only[go_sem,t5,t6,t7,t8,cells_of (s3.get g6),hu']
   have hfin:=ll.rd (hpl c.ns 0 0 (Nat.le_refl _) (fun _=>⟨rfl,rfl⟩) (Nat.zero_le _) (fun _=>rfl))
   rw[preR_full] at hfin
   exact q _ _ (s01.trans (s2.trans s3)) (hfin.low (s01.trans s2).next)
end Go.Ab.Tryz
namespace Go.Ab.Tryz
open Go.Proofs
end Go.Ab.Tryz
namespace Go.Ab.Tryz
open Go.Proofs
abbrev TT:=List Int × List Int × List Int
def flat2:Runs→List Int
 |[]=>[]
 |s::l=>s.1::s.2::flat2 l
def evens:List Int→List Int
 |x::_::l=>x::evens l
 |_=>[]
def odds:List Int→List Int
 |_::y::l=>y::odds l
 |_=>[]
theorem evens_flat:∀l:Runs,evens (flat2 l)=l.map Prod.fst
 |[]=>rfl
 |s::l=>by rw[flat2,evens,evens_flat l];rfl
theorem odds_flat:∀l:Runs,odds (flat2 l)=l.map Prod.snd
 |[]=>rfl
 |s::l=>by rw[flat2,odds,odds_flat l];rfl
def InCks (cks:List Ck)(runs:Runs):Prop:=runs.length=cks.length∧∀(k:Nat) s,runs[k]? =some s→∃c,cks[k]? =some c∧c.sl≤s.1∧s.1≤c.sh∧c.gl≤s.2∧s.2≤c.gh
theorem ns_iff {c:Ck}{u:Nat}:u<c.ns↔c.sl+u≤c.sh:=by unfold Ck.ns;omega
theorem ng_iff {c:Ck}{u:Nat}:u<c.ng↔c.gl+u≤c.gh:=by unfold Ck.ng;omega
theorem runsL_mem:∀{cks:List Ck} {l:List Int},l∈runsL cks↔∃runs,l=flat2 runs∧InCks cks runs
 |[],l=>by
  rw[runsL,List.mem_singleton]
  constructor
  ·rintro rfl;exact⟨[],rfl,rfl,fun k s h=>by simp at h⟩
  ·rintro⟨runs,rfl,h,_⟩;rw[List.length_eq_zero_iff.1 h];rfl
 |c::cs,l=>by
  rw[runsL,List.mem_flatMap]
  constructor
  ·rintro⟨u,hu,h⟩
   obtain⟨v,hv,h⟩:=List.mem_flatMap.1 h
   obtain⟨l',hl',rfl⟩:=List.mem_map.1 h
   obtain⟨runs,rfl,h1,h2⟩:=runsL_mem.1 hl'
   have hu:=ns_iff.1 (List.mem_range.1 hu)
   have hv:=ng_iff.1 (List.mem_range.1 hv)
   refine⟨(c.sl+u,c.gl+v)::runs,rfl,by rw[List.length_cons,List.length_cons,h1],fun k s hs=>?_⟩
   cases k with
   |zero=>
    rw[List.getElem?_cons_zero] at hs;cases hs
    exact⟨c,rfl,by show c.sl≤c.sl+u;omega,hu,by show c.gl≤c.gl+v;omega,hv⟩
   |succ k=>rw[List.getElem?_cons_succ] at hs;rw[List.getElem?_cons_succ];exact h2 k s hs
  ·rintro⟨runs,rfl,h1,h2⟩
   cases runs with
   |nil=>cases h1
   |cons s runs=>
    obtain⟨c',hc,q1,q2,q3,q4⟩:=h2 0 s rfl
    cases hc
    refine⟨(s.1-c.sl).toNat,List.mem_range.2 (ns_iff.2 (by omega)),List.mem_flatMap.2 ⟨(s.2-c.gl).toNat,List.mem_range.2 (ng_iff.2 (by omega)),List.mem_map.2 ⟨flat2 runs,runsL_mem.2 ⟨runs,rfl,by simpa using h1,fun k s hs=>by simpa using h2 (k+1) s (by simpa using hs)⟩,?_⟩⟩⟩
    rw[show c.sl+((s.1-c.sl).toNat:Int)=s.1 by omega,show c.gl+((s.2-c.gl).toNat:Int)=s.2 by omega];rfl
def allT (a:At):List TT:=((timesL a a.evs.toNat).filter (gapsB a)).flatMap fun tt=>(runsL a.cks).map fun l=>(evens l,odds l,tt)
def missT (a:At)(t:TT):Int:=missI a t.1 t.2.1 t.2.2
def fitT (a:At):List TT:=(allT a).filter fun t=>decide (missT a t=0)
def LenT (a:At)(t:TT):Prop:=t.1.length=a.cks.length∧t.2.1.length=a.cks.length∧(t.2.2.length:Int)=a.evs
theorem time_far {tt:List Int}(h:(tt.length:Int)≤4):timeF tt 4=0:=by
 unfold timeF
 rw[List.getD_eq_getElem?_getD,List.getElem?_eq_none (by omega)];rfl
theorem allT_mem {a:At}(r:Right a){t:TT}:t∈allT a↔LenT a t∧Tru a (fun _=>false) (t.1.zip t.2.1) (timeF t.2.2):=by
 have he:=r.evs
 have hm:=r.mins
 unfold allT
 rw[List.mem_flatMap]
 constructor
 ·rintro⟨tt,htt,h⟩
  obtain⟨l,hl,rfl⟩:=List.mem_map.1 h
  obtain⟨runs,rfl,h1,h2⟩:=runsL_mem.1 hl
  rw[List.mem_filter,timesL_mem] at htt
  obtain⟨⟨t1,t2⟩,t3⟩:=htt
  simp only[LenT,evens_flat,odds_flat,zip_unzip,List.length_map]
  refine⟨⟨h1,h1,by omega⟩,h1,fun k s hs=>⟨h2 k s hs⟩,time_far (by omega),fun e _=>?_,fun g hg=>?_,fun j x _ hc=>by cases hc⟩
  ·unfold timeF
   rw[List.getD_eq_getElem?_getD]
   cases h:tt[e]? with
   |none=>exact⟨Int.le_refl _,by show(0:Int)≤_;omega⟩
   |some t=>
    have:=t2 t (List.mem_of_getElem? h)
    show 0≤t∧t≤a.mins
    omega
  ·unfold gapsB at t3
   have:=List.all_eq_true.1 t3 g hg
   unfold gapB at this
   exact inB_iff.1 this
 ·obtain⟨ss,gg,tt⟩:=t
  simp only[LenT]
  rintro⟨⟨l1,l2,l3⟩,tr⟩
  refine⟨tt,?_,List.mem_map.2 ⟨flat2 (ss.zip gg),runsL_mem.2 ⟨_,rfl,tr.len,fun k s hs=>(tr.run k s hs).is⟩,?_⟩⟩
  ·rw[List.mem_filter,timesL_mem]
   refine⟨⟨by omega,fun t ht=>?_⟩,?_⟩
   ·obtain⟨i,hi,rfl⟩:=List.mem_iff_getElem.1 ht
    have:=tr.mins i (by omega)
    rw[timeF_at (List.getElem?_eq_getElem hi)] at this
    omega
   ·unfold gapsB
    rw[List.all_eq_true]
    intro g hg
    unfold gapB
    exact inB_iff.2 (tr.gaps g hg)
  ·rw[evens_flat,odds_flat,List.map_fst_zip (by omega),List.map_snd_zip (by omega)]
theorem bitI_zero {f:Nat→Bool}:∀{n:Nat},bitI f n=0↔∀j,j<n→f j=false
 |0=>by simp[bitI]
 |n+1=>by
  have hb:=bitI_bd f n
  have hp:(0:Int)<2^n:=Int.pow_pos (by decide)
  have ih:=bitI_zero (f:=f) (n:=n)
  unfold bitI
  constructor
  ·intro h j hj
   by_cases hf:f n=true
   ·rw[if_pos hf] at h;omega
   ·rw[if_neg hf] at h
    rcases(by omega:j<n∨j=n) with hj|rfl
    ·exact ih.1 (by omega) j hj
    ·simpa using hf
  ·intro h
   rw[ih.2 fun j hj=>h j (by omega),h n (by omega)];rfl
theorem tru_cnt {a:At}(r:Right a){cnt:Nat→Bool}{t:TT}(l:LenT a t):Tru a cnt (t.1.zip t.2.1) (timeF t.2.2)↔Tru a (fun _=>false) (t.1.zip t.2.1) (timeF t.2.2)∧∀j,j<a.rds.length→cnt j=true→missB a t.1 t.2.1 t.2.2 j=false:=by
 obtain⟨ss,gg,tt⟩:=t
 obtain⟨l1,l2,l3⟩:=l
 simp only at l1 l2 l3⊢
 have key:∀(j:Nat) (x:Rd),a.rds[j]? =some x→(missB a ss gg tt j=false↔∀s,(ss.zip gg)[x.ck.toNat]? =some s→shw s.1 s.2 (timeF tt x.ev.toNat)=x.sh):=fun j x hx=>by
  obtain⟨k,e,e1,e2,h1,_,_⟩:=r.rdn (List.mem_of_getElem? hx)
  have hs:(ss.zip gg)[x.ck.toNat]? =some (ss.getD x.ck.toNat 0,gg.getD x.ck.toNat 0):=by
   rw[e1,Int.toNat_natCast,zip_get,getD_at (by omega),getD_at (by omega)]
   exact⟨List.getElem?_eq_getElem (by omega),List.getElem?_eq_getElem (by omega)⟩
  unfold missB
  rw[hx]
  simp only[decide_eq_false_iff_not,ne_eq,Decidable.not_not]
  constructor
  ·intro h s q
   rw[hs] at q;cases q
   exact h
  ·intro h;exact h _ hs
 constructor
 ·intro t
  exact⟨⟨t.len,t.run,t.beg,t.mins,t.gaps,fun j x _ hc=>by cases hc⟩,fun j hj hc=>(key j _ (List.getElem?_eq_getElem hj)).2 (t.rds j _ (List.getElem?_eq_getElem hj) hc)⟩
 ·rintro⟨t,h⟩
  exact⟨t.len,t.run,t.beg,t.mins,t.gaps,fun j x hx hc=>(key j x hx).1 (h j (getl hx) hc)⟩
theorem fitT_mem {a:At}(r:Right a){t:TT}:t∈fitT a↔LenT a t∧TruA a (t.1.zip t.2.1) (timeF t.2.2):=by
 unfold fitT
 rw[List.mem_filter,allT_mem r,decide_eq_true_eq]
 unfold missT missI
 rw[bitI_zero]
 constructor
 ·rintro⟨⟨l,h1⟩,h2⟩
  exact⟨l,(tru_cnt r l).2 ⟨h1,fun j hj _=>h2 j hj⟩⟩
 ·rintro⟨l,h⟩
  have:=(tru_cnt r l).1 h
  exact⟨⟨l,this.1⟩,fun j hj=>this.2 j hj rfl⟩
def ttOf (a:At)(runs:Runs)(y:Nat→Int):TT:=(runs.map Prod.fst,runs.map Prod.snd,(List.range a.evs.toNat).map y)
theorem ttOf_len {a:At}(r:Right a){runs:Runs}{y:Nat→Int}{cnt:Nat→Bool}(h:Tru a cnt runs y):LenT a (ttOf a runs y):=by
 have:=r.evs
 exact⟨by rw[ttOf,List.length_map];exact h.len,by rw[ttOf,List.length_map];exact h.len,by rw[ttOf,List.length_map,List.length_range];omega⟩
theorem ttOf_zip (a:At)(runs:Runs)(y:Nat→Int):(ttOf a runs y).1.zip (ttOf a runs y).2.1=runs:=zip_unzip runs
theorem ttOf_tru {a:At}(r:Right a){runs:Runs}{y:Nat→Int}{cnt:Nat→Bool}(h:Tru a cnt runs y):Tru a cnt ((ttOf a runs y).1.zip (ttOf a runs y).2.1) (timeF (ttOf a runs y).2.2):=by
 rw[ttOf_zip];exact h.cut r
theorem ttOf_mem {a:At}(r:Right a){runs:Runs}{y:Nat→Int}(h:TruA a runs y):ttOf a runs y∈fitT a:=(fitT_mem r).2 ⟨ttOf_len r h,ttOf_tru r h⟩
theorem fitT_nil {a:At}(r:Right a):fitT a=[]↔allC a=[]:=by
 rw[noC r]
 constructor
 ·intro h runs y t
  have:=ttOf_mem r t
  rw[h] at this;cases this
 ·intro h
  cases hh:fitT a with
  |nil=>rfl
  |cons t l=>
   have:t∈fitT a:=by rw[hh];exact List.mem_cons_self ..
   exact absurd ((fitT_mem r).1 this).2 (h _ _)
end Go.Ab.Tryz
namespace Go.Ab.Tryz
open Go.Proofs
theorem fit_ne {a:At}(r:Right a)(hne:allC a≠[]):fitT a≠[]:=fun h=>hne ((fitT_nil r).1 h)
end Go.Ab.Tryz
namespace Go.Ab.Tryz
open Go.Proofs
abbrev V3:=V × V × V
def row3 (v:V3):List V:=[v.1,v.2.1,v.2.2]
def TrT (h:H)(v:V3)(t:TT):Prop:=TrAt h v.1 v.2.1 v.2.2 t.1 t.2.1 t.2.2
def Up3 (n:Nat)(v:V3):Prop:=Up n v.1∧Up n v.2.1∧Up n v.2.2
structure TL (n:Nat)(h0 h:H)(y:V)(L:List TT)(vs:List V3):Prop where
 o:OwnSl h0 h y 3 (vs.map row3)
 len:vs.length=L.length
 e:∀(i:Nat) (v:V3) (t:TT),vs[i]? =some v→L[i]? =some t→TrT h v t
 u:∀v∈vs,Up3 n v
variable {h0 h h':H} {y:V} {L:List TT} {vs:List V3} {n n':Nat}
theorem TrT.mono {v:V3}{t:TT}(k:TrT h v t)(s:h.Sub h'):TrT h' v t:=TrAt.mono k s
theorem TrT.one {v:V3}{t:TT}(k:TrT h v t):allOne (row3 v)=true:=by
 have h1:=k.s.one;have h2:=k.g.one;have h3:=k.t.one
 unfold row3
 rw[allOne_cons,allOne_cons,allOne_cons,h1,h2,h3];rfl
theorem TrT.noInt {v:V3}{t:TT}(k:TrT h v t)(m:Int):V.int .i64 m ∉row3 v:=by
 unfold row3
 simp only[List.mem_cons,List.not_mem_nil,or_false,not_or]
 exact⟨fun e=>sl_noInt k.s _ m e.symm,fun e=>sl_noInt k.g _ m e.symm,fun e=>sl_noInt k.t _ m e.symm⟩
theorem TrT.keep {S:Nat→Prop}{v:V3}{t:TT}(w:TrT h v t)(k:Keeps S h h')(n:∀b cs,S b→h.cells b=some cs→∀m,V.int .i64 m ∉cs):TrT h' v t:=⟨ints_keep w.s k n,ints_keep w.g k n,ints_keep w.t k n⟩
theorem TL.mono (k:TL n h0 h y L vs)(s:h.Sub h'):TL n h0 h' y L vs:=⟨k.o.mono s,k.len,fun i v l h1 h2=>(k.e i v l h1 h2).mono s,k.u⟩
theorem TL.nil (s:h0.Sub h):TL n h0 h .nils [] []:=⟨OwnSl.nil s 3,rfl,fun i v l h1 _=>by simp at h1,fun v hv=>by cases hv⟩
theorem TL.at0 (k:TL n h0 h y L vs){v:V3}(hv:v∈vs):∃t,TrT h v t:=by
 obtain⟨i,hi,e⟩:=List.getElem_of_mem hv
 have h1:vs[i]? =some v:=by rw[List.getElem?_eq_getElem hi,e]
 have hi2:i<L.length:=by rw[←k.len];exact hi
 exact⟨_,k.e i v _ h1 (List.getElem?_eq_getElem hi2)⟩
theorem TL.push (k:TL n h0 h y L vs)(hw0:h0.wf)(hl:L.length≤1000000){x:V}{v:V3}{t:TT}(hx:SlAt h x 3 [row3 v])(hv:TrT h v t)(hu:Up3 n v){Q:V→H→Prop}(q:∀y' h',TL n h0 h' y' (L++[t]) (vs++[v])→Keeps (blkOf y) h h'→Q y' h'):
  P2 (e_app' h 3 72 y x) Q:=by
 have hlen:=k.len
 refine k.o.app1 (by_:=72) (r:=row3 v) hw0 rfl (by omega) hx hv.one (by rw[List.length_map];omega) (by rw[List.length_map];omega) fun h' o' kk _=>q _ _ ⟨by rw[List.map_append];exact o',by simp[hlen],fun i v' l' e1 e2=>?_,fun v' hv'=>?_⟩ kk
 rotate_left
 ·rcases List.mem_append.1 hv' with hv'|hv'
  ·exact k.u v' hv'
  ·rw[List.mem_singleton] at hv';rw[hv'];exact hu
 have hno:∀b cs,blkOf y b→h.cells b=some cs→∀m,V.int .i64 m ∉cs:=fun b cs hb hc=>by
  rcases k.o.2.2 with⟨e,_⟩|⟨b2,e,_,_,g⟩
  ·rw[e] at hb;exact(blkOf_nils hb).elim
  ·obtain⟨o,n,c,e2⟩:=hb
   rw[e] at e2;cases e2
   rw[cells_of g] at hc;cases hc
   intro m hm
   obtain⟨r,hr,hm⟩:=List.mem_flatten.1 hm
   obtain⟨u,hu,rfl⟩:=List.mem_map.1 hr
   obtain⟨t',ht'⟩:=k.at0 hu
   exact ht'.noInt m hm
 rcases mem_get_app.1 e1 with e1|⟨q1,rfl⟩
 ·rcases mem_get_app.1 e2 with e2|⟨q2,_⟩
  ·exact(k.e i v' l' e1 e2).keep kk hno
  ·have:=getl e1;omega
 ·rcases mem_get_app.1 e2 with e2|⟨_,rfl⟩
  ·have:=getl e2;omega
  ·exact hv.keep kk hno
def TR (n:Nat)(h:H)(y:V)(L:List TT):Prop:=∃vs:List V3,SlAt h y 3 (vs.map row3)∧vs.length=L.length∧(∀(i:Nat) (v:V3) (t:TT),vs[i]? =some v→L[i]? =some t→TrT h v t)∧Up n y∧∀v∈vs,Up3 n v
theorem TL.rd (k:TL n h0 h y L vs)(hl:L.length≤1000000)(hn:n≤h0.next):TR n h y L:=⟨vs,k.o.c.sl (by rw[List.length_map,k.len];omega),k.len,k.e,(ownUp k.o).low hn,k.u⟩
theorem TR.mono (k:TR n h y L)(s:h.Sub h'):TR n h' y L:=by
 obtain⟨vs,k1,k2,k3,k4⟩:=k
 exact⟨vs,k1.mono s,k2,fun i v l h1 h2=>(k3 i v l h1 h2).mono s,k4⟩
theorem TR.low (k:TR n h y L)(s:n'≤n):TR n' h y L:=by
 obtain⟨vs,k1,k2,k3,k4,k5⟩:=k
 exact⟨vs,k1,k2,k3,k4.low s,fun v hv=>⟨(k5 v hv).1.low s,(k5 v hv).2.1.low s,(k5 v hv).2.2.low s⟩⟩
theorem TR.keep {S:Nat→Prop}(k:TR n h y L)(kk:Keeps S h h')(hS:∀b,S b→b<n):TR n h' y L:=by
 obtain⟨vs,k1,k2,k3,k4,k5⟩:=k
 refine⟨vs,slKeepU k1 k4 kk hS,k2,fun i v l h1 h2=>?_,k4,k5⟩
 have t:=k3 i v l h1 h2
 obtain⟨u1,u2,u3⟩:=k5 v (List.mem_of_getElem? h1)
 exact⟨slKeepU t.s u1 kk hS,slKeepU t.g u2 kk hS,slKeepU t.t u3 kk hS⟩
theorem TR.lenE (k:TR n h y L):q_len y=some (.int .i64 (L.length:Int)):=by
 obtain⟨vs,k1,k2,k3⟩:=k
 have:=k1.lenE
 rw[←k2];exact this
theorem TR.one (k:TR n h y L):y.one=true:=by
 obtain⟨vs,k1,k2,k3⟩:=k
 exact k1.one
theorem TR.at_ (k:TR n h y L){i:Nat}(hi:i<L.length):∃b o cs v,h.cells b=some cs∧(∀{u:V},nat? u=some i→q_iad 3 y u=some (.ptr b o))∧getN o 3 cs=some (row3 v)∧nth o cs=some v.1∧nth (o+1) cs=some v.2.1∧nth (o+2) cs=some v.2.2∧TrT h v L[i]∧Up3 n v:=by
 obtain⟨vs,k1,k2,k3,k4,k5⟩:=k
 have hi2:i<vs.length:=by rw[k2];exact hi
 obtain⟨b,o,c,cs,_,hc,hq,hg,hn,hn0⟩:=k1.at hi2
 refine⟨b,_,cs,vs[i],hc,hq,hg,hn0 (by decide),hn 1 (by decide),hn 2 (by decide),k3 i _ _ (List.getElem?_eq_getElem hi2) (List.getElem?_eq_getElem hi),k5 _ (List.getElem_mem hi2)⟩
end Go.Ab.Tryz
namespace Go.Ab.Tryz
open Go.Proofs
theorem evens_at:∀{l:List Int} {j:Nat},2*j+1<l.length→(evens l)[j]? =l[2*j]? ∧(odds l)[j]? =l[2*j+1]?
 |[],j,h=>by simp at h
 |[x],j,h=>by simp at h
 |x::y::l,0,h=>by simp[evens,odds]
 |x::y::l,j+1,h=>by
  have:=evens_at (l:=l) (j:=j) (by simp only[List.length_cons] at h;omega)
  rw[evens,odds,List.getElem?_cons_succ,List.getElem?_cons_succ,this.1,this.2,show 2*(j+1)=2*j+1+1 from rfl,show 2*j+1+1+1=(2*j+1)+1+1 from rfl]
  simp only[List.getElem?_cons_succ,and_self]
theorem evens_len:∀l:List Int,(evens l).length=l.length/2∧(odds l).length=l.length/2
 |[]=>⟨rfl,rfl⟩
 |[x]=>⟨by simp[evens],by simp[odds]⟩
 |x::y::l=>by
  have:=evens_len l
  simp only[evens,odds,List.length_cons,this.1,this.2]
  omega
def ofT (RR:List (List Int))(tt:List Int):List TT:=RR.map fun l=>(evens l,odds l,tt)
def uptoT (a:At)(T RR:List (List Int))(i:Nat):List TT:=((T.take i).filter (gapsB a)).flatMap (ofT RR)
theorem uptoT_step {a:At}{T:List (List Int)}(RR:List (List Int)){i:Nat}(hi:i<T.length):uptoT a T RR (i+1)=uptoT a T RR i++if gapsB a T[i]=true then ofT RR T[i] else[]:=by
 unfold uptoT
 rw[List.take_add_one,List.getElem?_eq_getElem hi,List.filter_append,List.flatMap_append]
 congr 1
 simp only[Option.toList_some,List.filter_cons,List.filter_nil]
 split<;>simp
theorem uptoT_len {a:At}{T RR:List (List Int)}(i:Nat):(uptoT a T RR i).length≤T.length*RR.length:=by
 unfold uptoT
 rw[flat_len (c:=RR.length) fun x _=>by unfold ofT;rw[List.length_map]]
 refine Nat.mul_le_mul_right _ (Nat.le_trans (List.length_filter_le ..) ?_)
 rw[List.length_take];omega
theorem uptoT_all (a:At):uptoT a (timesL a a.evs.toNat) (runsL a.cks) (timesL a a.evs.toNat).length=allT a:=by
 unfold uptoT allT
 rw[List.take_length];rfl
theorem own_app {h0 h:H}(hw0:h0.wf){S:V}{l:List Int}(o:OwnSl h0 h S 1 (l.map encI))(hl:l.length≤1000){n:Int}{Q:V→H→Prop}(q:∀S' h',OwnSl h0 h' S' 1 ((l++[n]).map encI)→(∀b,blkOf S' b→h.next≤b)→Keeps (blkOf S) h h'→Q S' h'):
  P2 (e_app' (h.add (.cells .rw [.int .i64 n])) 1 8 S (.sl h.next 0 1 (.fix 1))) Q:=by
 have s:=(H.Sub.refl o.1.wf).add (.cells .rw [.int .i64 n])
 refine(o.mono s).app1 (by_:=8) (r:=encI n) hw0 rfl (by omega) (SlAt.new _ rfl rfl (by simp[encI]) (by simp[encI]) (by simp)) rfl (by rw[List.length_map];omega) (by rw[List.length_map];omega) fun h' o' kk _=>q _ _ (by rw[List.map_append];exact o') (fun b hb=>?_) ((Keeps.of s (fun _=>False)).trans kk |>.mono fun c hc=>hc.elim (fun f=>f.elim) id)
 obtain⟨_,_,_,e⟩:=hb
 cases e
 rw[H.next_add];omega
set_option maxHeartbeats 8000000 in
theorem All_ev {h:H}(hw:h.wf){a:At}{C R G:V}(x:AtAt h C R G a)(r:Right a)(hb:(a.mins.toNat+1)^a.evs.toNat*runsN a.cks≤100000)(hb1:(a.mins.toNat+1)^a.evs.toNat≤100000)(hb2:runsN a.cks≤100000)(Q:V→H→Prop)(q:∀y h',h.Sub h'→TR h.next h' y (allT a)→Q y h'):
  Ev fnG fastA (.fn 27 [] []) [.agg (atV a C R G)] h Q:=by
 have oC:=x.c.one;have oR:=x.r.one;have oG:=x.g.one
 have hev:=r.evs
 have hmn:=r.mins
 have rl:=r.lens
 refine Ev_body (fd:=c27) rfl rfl rfl ?_
 obtain⟨z,hz⟩:∃z,h.add (.cells .rw (atV a C R G))=z:=⟨_,rfl⟩
 have sz:h.Sub z:=by rw[←hz];exact(by repeat(first|assumption|exact H.Sub.refl (by assumption)|refine H.Sub.add ?_ _|refine H.Sub.set ?_ (by first|omega|(simp only[H.next_add,H.next_set,H.next_del]<;>omega)) (by first|omega|(simp only[H.next_add,H.next_set,H.next_del]<;>omega)) (by assumption) _))
 have ga:z.get h.next=some (.cells .rw (atV a C R G)):=by rw[←hz];exact get_add_new rfl
 simp -implicitDefEqProofs(maxSteps:=999999)(disch:=first|with_reducible rfl|omega|(simp only[nA,nS,nD]<;>omega)|fail)only[c27,go_sem,oC,oR,oG,hz,cells_of ga]
 try rw[hz]
 clear hz
 refine times_ev r a.evs.toNat sz.wf (x.mono sz) (e:=0) (by omega) hb1 _ fun yl z1 s1 kl=>?_
 have s01:=sz.trans s1
 simp -implicitDefEqProofs(maxSteps:=999999)(disch:=first|with_reducible rfl|omega|(simp only[nA,nS,nD]<;>omega)|fail)only[go_sem,cells_of ga,cells_of (s1.get ga),oC,oR,oG]
 refine runs_ev r a.cks.length s01.wf (x.mono s01) (e:=0) (by omega) (by simpa using hb2) _ fun yc z2 s2 kc=>?_
 rw[List.drop_zero] at kc
 have s02:=s01.trans s2
 have ga2:=(s1.trans s2).get ga
 have kl2:=kl.mono s2
 have hT:∀tt∈timesL a a.evs.toNat,(tt.length:Int)=a.evs∧∀t∈tt,0≤t∧t≤240:=fun tt ht=>by
  obtain⟨h1,h2⟩:=timesL_mem.1 ht
  exact⟨by omega,fun t ht=>by have:=h2 t ht;omega⟩
 have hTl:=timesL_len a a.evs.toNat
 have hRl:=runsL_len a.cks
 have hrow:∀l∈runsL a.cks,l.length=2*a.cks.length:=fun l hl=>runsL_row hl
 have hall:=uptoT_all a
 have hlen:∀i,(uptoT a (timesL a a.evs.toNat) (runsL a.cks) i).length≤100000:=fun i=>Nat.le_trans (uptoT_len i) (by rw[hTl,hRl];exact hb)
 have hlen2:∀tt,(ofT (runsL a.cks) tt).length≤100000:=fun tt=>by unfold ofT;rw[List.length_map,hRl];exact hb2
 have hl1:(timesL a a.evs.toNat).length≤100000:=by rw[hTl];exact hb1
 have hl2:(runsL a.cks).length≤100000:=by rw[hRl];exact hb2
 generalize timesL a a.evs.toNat=T at *
 generalize runsL a.cks=RR at *
 have hlT:=kl2.lenE
 have hlR:=kc.lenE
 have hw2:=s02.wf
 simp -implicitDefEqProofs(maxSteps:=999999)(disch:=first|with_reducible rfl|omega|(simp only[nA,nS,nD]<;>omega)|fail)only[go_sem,cells_of ga,cells_of (s1.get ga),cells_of ga2,oC,oR,oG]
 refine W_count T.length (fun i s=>∃tm z3 y vs,s=⟨tm,z3,[]⟩∧TL h.next z2 z3 y (uptoT a T RR i) vs∧(Opd.t 1).ev tm=.ptr h.next 0∧(Opd.t 3).ev tm=yl∧(Opd.t 4).ev tm=yc∧(Opd.t 5).ev tm=y∧(Opd.t 6).ev tm=.int .i64 (i:Int)) ?_ ?_ (i:=0) (Nat.zero_le _)
  ⟨_,_,_,_,rfl,TL.nil (H.Sub.refl hw2),(by simp[ev_c,ev_put]<;>rfl),(by simp[ev_c,ev_put]<;>rfl),(by simp[ev_c,ev_put]<;>rfl),(by simp[ev_c,ev_put]<;>rfl),(by simp[ev_c,ev_put]<;>rfl)⟩
 ·rintro i s hi ⟨tm,z3,y,vs,rfl,tl,t1,t3,t4,t5,t6⟩
  have hi':(i:Int)<(T.length:Int):=by omega
  have s3:=tl.o.1
  have s03:=s02.trans s3
  obtain⟨bb,o,cs,w,hc,hq,hn,hwt,uw⟩:=kl2.at_ hi
  obtain⟨ht1,ht2⟩:=hT _ (List.getElem_mem hi)
  have hstep:=uptoT_step (a:=a) RR hi
  have hli:=hlen i
  generalize T[i]=tt at hwt ht1 ht2 hstep
  have ow:=hwt.one
  simp -implicitDefEqProofs(maxSteps:=999999)(disch:=first|with_reducible rfl|omega|(simp only[nA,nS,nD]<;>omega)|fail)only[go_sem,t1,t3,t4,t5,t6,hlT,hi',hq (nat_cst i),s3.cells hc,hn,cells_of (s3.get ga2),oC,oR,oG]
  refine refGaps_ev s03.wf (x.mono s03) r (hwt.mono s3) ht1 ht2 _ fun z4 s4=>?_
  have tl4:=tl.mono s4
  have s24:=s3.trans s4
  cases hg:gapsB a tt with
  |false=>
   rw[hg] at hstep
   simp -implicitDefEqProofs(maxSteps:=999999)(disch:=first|with_reducible rfl|omega|(simp only[nA,nS,nD]<;>omega)|fail)only[go_sem,t1,t3,t4,t5,t6,hq (nat_cst i),s3.cells hc,s24.cells hc,hn,cells_of (s24.get ga2),cells_of (s3.get ga2),oC,oR,oG,wr_succ]
   exact⟨_,_,_,_,rfl,by rw[hstep];simpa using tl4,(by simp[ev_c,ev_put,t1]<;>rfl),(by simp[ev_c,ev_put,t3]<;>rfl),(by simp[ev_c,ev_put,t4]<;>rfl),(by simp[ev_c,ev_put,t5]<;>rfl),(by simp[ev_c,ev_put]<;>rfl)⟩
  |true=>
   rw[hg,if_pos rfl] at hstep
   simp -implicitDefEqProofs(maxSteps:=999999)(disch:=first|with_reducible rfl|omega|(simp only[nA,nS,nD]<;>omega)|fail)only[go_sem,t1,t3,t4,t5,t6,hq (nat_cst i),s3.cells hc,s24.cells hc,hn,cells_of (s24.get ga2),cells_of (s3.get ga2),oC,oR,oG]
   clear tl
   refine W_count RR.length (fun k s=>∃tm z5 y vs,s=⟨tm,z5,[]⟩∧TL h.next z2 z5 y (uptoT a T RR i++(ofT RR tt).take k) vs∧(Opd.t 1).ev tm=.ptr h.next 0∧(Opd.t 3).ev tm=yl∧(Opd.t 4).ev tm=yc∧(Opd.t 5).ev tm=y∧(Opd.t 6).ev tm=.int .i64 (i:Int)∧(Opd.t 7).ev tm=.int .i64 (k:Int)) ?_ ?_ (i:=0) (Nat.zero_le _)
    ⟨_,_,_,_,rfl,by simpa using tl4,(by simp[ev_c,ev_put,t1]<;>rfl),(by simp[ev_c,ev_put,t3]<;>rfl),(by simp[ev_c,ev_put,t4]<;>rfl),(by simp[ev_c,ev_put,t5]<;>rfl),(by simp[ev_c,ev_put,t6]<;>rfl),(by simp[ev_c,ev_put]<;>rfl)⟩
   ·clear tl4 t1 t3 t4 t5 t6
    rintro k s hk ⟨tm,z5,y,vs,rfl,tl,t1,t3,t4,t5,t6,t7⟩
    have hk':(k:Int)<(RR.length:Int):=by omega
    have s25:=tl.o.1
    have hw5:=s25.wf
    obtain⟨bb2,o2,cs2,w2,hc2,hq2,hn2,hwr,_⟩:=(kc.mono s25).at_ hk
    have hrl:=hrow _ (List.getElem_mem hk)
    have hst:(ofT RR tt)[k]? =some (evens RR[k],odds RR[k],tt):=by unfold ofT;rw[List.getElem?_map,List.getElem?_eq_getElem hk];rfl
    generalize RR[k]=row at hwr hrl hst
    have hlr:=hwr.lenE
    have e1:=evens_len row
    have hw5t:=hwt.mono s25
    have o5:=hw5t.one
    obtain⟨z6,hz6⟩:∃z6,z5.add (.cells .rw [.nils,.nils,w])=z6:=⟨_,rfl⟩
    have s6:z5.Sub z6:=by rw[←hz6];exact(by repeat(first|assumption|exact H.Sub.refl (by assumption)|refine H.Sub.add ?_ _|refine H.Sub.set ?_ (by first|omega|(simp only[H.next_add,H.next_set,H.next_del]<;>omega)) (by first|omega|(simp only[H.next_add,H.next_set,H.next_del]<;>omega)) (by assumption) _))
    have g6:z6.get z5.next=some (.cells .rw [.nils,.nils,w]):=by rw[←hz6];exact get_add_new rfl
    simp -implicitDefEqProofs(maxSteps:=999999)(disch:=first|with_reducible rfl|omega|(simp only[nA,nS,nD]<;>omega)|fail)only[go_sem,t1,t3,t4,t5,t6,t7,hlR,hk',hq (nat_cst i),s25.cells hc,hn,o5,cells_one o5]
    try rw[hz6]
    clear hz6
    refine W_count a.cks.length (fun j s=>∃tm z7 S Ga,s=⟨tm,z7,[]⟩∧OwnSl z5 z7 S 1 (((evens row).take j).map encI)∧OwnSl z5 z7 Ga 1 (((odds row).take j).map encI)∧(∀b,blkOf S b→¬blkOf Ga b)∧z7.get z5.next=some (.cells .rw [S,Ga,w])∧
      (Opd.t 1).ev tm=.ptr h.next 0∧(Opd.t 3).ev tm=yl∧(Opd.t 4).ev tm=yc∧(Opd.t 5).ev tm=y∧(Opd.t 6).ev tm=.int .i64 (i:Int)∧(Opd.t 7).ev tm=.int .i64 (k:Int)∧(Opd.t 8).ev tm=.ptr z5.next 0∧(Opd.t 9).ev tm=.int .i64 ((2*j:Nat):Int)) ?_ ?_ (i:=0) (Nat.zero_le _)
     ⟨_,_,_,_,rfl,OwnSl.nil s6 1,OwnSl.nil s6 1,fun b hb=>(blkOf_nils hb).elim,g6,(by simp[ev_c,ev_put,t1]<;>rfl),(by simp[ev_c,ev_put,t3]<;>rfl),(by simp[ev_c,ev_put,t4]<;>rfl),(by simp[ev_c,ev_put,t5]<;>rfl),(by simp[ev_c,ev_put,t6]<;>rfl),(by simp[ev_c,ev_put,t7]<;>rfl),(by simp[ev_c,ev_put]<;>rfl),(by simp[ev_c,ev_put]<;>rfl)⟩
    ·clear t1 t3 t4 t5 t6 t7 g6 s6
     rintro j s hj ⟨tm,z7,S,Ga,rfl,oS,oG',dj,g8,t1,t3,t4,t5,t6,t7,t8,t9⟩
     have s7:=oS.1
     have hj':((2*j:Nat):Int)<(row.length:Int):=by omega
     have hp:2*j+1<row.length:=by omega
     obtain⟨v1,v2⟩:=evens_at hp
     have h2j:2*j<row.length:=by omega
     rw[List.getElem?_eq_getElem h2j] at v1
     rw[List.getElem?_eq_getElem hp] at v2
     obtain⟨b3,o3,m3,cs3,ex3,hc3,hq3,_,_,n3⟩:=hwr.at h2j
     obtain⟨b4,o4,m4,cs4,ex4,hc4',hq4,_,_,n4⟩:=hwr.at hp
     have n3:=n3 (by decide)
     have n4:=n4 (by decide)
     simp only[encI,List.getElem?_cons_zero] at n3 n4
     generalize row[2*j]=u1 at n3 v1
     generalize row[2*j+1]=u2 at n4 v2
     have a1:(evens row).take (j+1)=(evens row).take j++[u1]:=by rw[List.take_add_one,v1];rfl
     have a2:(odds row).take (j+1)=(odds row).take j++[u2]:=by rw[List.take_add_one,v2];rfl
     have w4:wr .i64 (((2*j:Nat):Int)+1)=((2*j+1:Nat):Int):=by rw[wr_in (by omega) (by omega)];omega
     have w9:wr .i64 (((2*j:Nat):Int)+2)=((2*(j+1):Nat):Int):=by rw[wr_in (by omega) (by omega)];omega
     have s7c:=s7.cells hc2
     have s73:=s7.cells hc3
     have s74:=s7.cells hc4'
     have oneS:=(oS.c.sl (by rw[List.length_map,List.length_take];omega)).one
     have oneG:=(oG'.c.sl (by rw[List.length_map,List.length_take];omega)).one
     have s8:=(H.Sub.refl s7.wf).add (.cells .rw [.int .i64 u1])
     simp -implicitDefEqProofs(maxSteps:=999999)(disch:=first|with_reducible rfl|omega|(simp only[nA,nS,nD]<;>omega)|fail)only[go_sem,t1,t3,t4,t5,t6,t7,t8,t9,hlR,hq2 (nat_cst k),s7c,hn2,hlr,hj',cells_of g8,hq3 (nat_cst (2*j)),s73,n3,s8.cells s7c,cells_of (s8.get g8),s8.cells s73]
     refine own_app hw5 oS (by rw[List.length_take];omega) fun S' z9 oS' nb kk=>?_
     have oG2:=oG'.keep kk oS'.1 fun b hb hs=>dj b hs hb
     have g9:=kk.2 _ _ g8 (oS.ne g8)
     have s9:=oS'.1
     have dj2:∀b,blkOf S' b→¬blkOf Ga b:=fun b hb hg=>by have:=nb b hb;have:=(oG'.blk hg).2.1;omega
     have l9:=s9.wf _ _ g9
     have s10:z5.Sub (z9.set z5.next (.cells .rw [S',Ga,w])):=s9.set (Nat.le_refl _) (by omega) hw5 _
     have k10:=Keeps.set z9 z5.next (.cells .rw [S',Ga,w])
     have oS3:=oS'.keep k10 s10 fun b hb e=>by subst e;exact oS'.ne g9 hb
     have oG3:=oG2.keep k10 s10 fun b hb e=>by subst e;exact oG2.ne g9 hb
     have g10:(z9.set z5.next (.cells .rw [S',Ga,w])).get z5.next=some (.cells .rw [S',Ga,w]):=get_set_same rfl
     have oneS':=(oS'.c.sl (by rw[List.length_map,List.length_append,List.length_take];simp only[List.length_singleton];omega)).one
     simp -implicitDefEqProofs(maxSteps:=999999)(disch:=first|with_reducible rfl|omega|(simp only[nA,nS,nD]<;>omega)|fail)only[go_sem,t1,t3,t4,t5,t6,t7,t8,t9,hlR,hq2 (nat_cst k),hn2,hq3 (nat_cst (2*j)),n3,s8.cells s7c,s8.cells s73,cells_of (s8.get g8),s9.cells hc2,s9.cells hc3,cells_of g9,g9,oneS',cells_one oneS']
     obtain⟨z10,hz10⟩:∃z10,z9.set z5.next (.cells .rw [S',Ga,w])=z10:=⟨_,rfl⟩
     rw[hz10] at s10 k10 oS3 oG3 g10
     try rw[hz10]
     clear hz10
     have s11:=(H.Sub.refl s10.wf).add (.cells .rw [.int .i64 u2])
     simp -implicitDefEqProofs(maxSteps:=999999)(disch:=first|with_reducible rfl|omega|(simp only[nA,nS,nD]<;>omega)|fail)only[go_sem,t1,t3,t4,t5,t6,t7,t8,t9,hlR,hq2 (nat_cst k),hn2,s10.cells hc2,cells_of g10,w4,hq4 (nat_cst (2*j+1)),s10.cells hc4',n4,(s10.trans s11).cells hc2,(s10.trans s11).cells hc4',cells_of (s11.get g10)]
     refine own_app hw5 oG3 (by rw[List.length_take];omega) fun G2 z11 oG4 nb2 kk2=>?_
     have oS4:=oS3.keep kk2 oG4.1 fun b hb hs=>dj2 b hb hs
     have g11:=kk2.2 _ _ g10 (oG3.ne g10)
     have s11':=oG4.1
     have dj3:∀b,blkOf S' b→¬blkOf G2 b:=fun b hb hg=>by have:=nb2 b hg;have:=(oS3.blk hb).2.1;omega
     have l11:=s11'.wf _ _ g11
     have s12:z5.Sub (z11.set z5.next (.cells .rw [S',G2,w])):=s11'.set (Nat.le_refl _) (by omega) hw5 _
     have k12:=Keeps.set z11 z5.next (.cells .rw [S',G2,w])
     have oS5:=oS4.keep k12 s12 fun b hb e=>by subst e;exact oS4.ne g11 hb
     have oG5:=oG4.keep k12 s12 fun b hb e=>by subst e;exact oG4.ne g11 hb
     have oneG':=(oG4.c.sl (by rw[List.length_map,List.length_append,List.length_take];simp only[List.length_singleton];omega)).one
     simp -implicitDefEqProofs(maxSteps:=999999)(disch:=first|with_reducible rfl|omega|(simp only[nA,nS,nD]<;>omega)|fail)only[go_sem,t1,t3,t4,t5,t6,t7,t8,t9,hlR,hq2 (nat_cst k),hn2,(s10.trans s11).cells hc2,(s10.trans s11).cells hc4',cells_of (s11.get g10),s11'.cells hc2,s11'.cells hc4',hq4 (nat_cst (2*j+1)),w4,n4,cells_of g11,g11,oneG',cells_one oneG',w9]
     exact⟨_,_,S',G2,rfl,by rw[a1];exact oS5,by rw[a2];exact oG5,dj3,get_set_same rfl,(by simp[ev_c,ev_put,t1]<;>rfl),(by simp[ev_c,ev_put,t3]<;>rfl),(by simp[ev_c,ev_put,t4]<;>rfl),(by simp[ev_c,ev_put,t5]<;>rfl),(by simp[ev_c,ev_put,t6]<;>rfl),(by simp[ev_c,ev_put,t7]<;>rfl),(by simp[ev_c,ev_put,t8]<;>rfl),(by simp[ev_c,ev_put]<;>rfl)⟩
    ·clear t1 t3 t4 t5 t6 t7 g6 s6
     rintro s ⟨tm,z7,S,Ga,rfl,oS,oG',dj,g8,t1,t3,t4,t5,t6,t7,t8,t9⟩
     have s7:=oS.1
     have hj':¬((2*a.cks.length:Nat):Int)<(row.length:Int):=by omega
     rw[List.take_of_length_le (by omega)] at oS oG'
     have sS:=oS.c.sl (by rw[List.length_map];omega)
     have sG:=oG'.c.sl (by rw[List.length_map];omega)
     have oneS:=sS.one
     have oneG:=sG.one
     have hv:TrT z7 (S,Ga,w) (evens row,odds row,tt):=⟨sS,sG,hw5t.mono s7⟩
     have sA:=(H.Sub.refl s7.wf).add (.cells .rw [S,Ga,w])
     simp -implicitDefEqProofs(maxSteps:=999999)(disch:=first|with_reducible rfl|omega|(simp only[nA,nS,nD]<;>omega)|fail)only[go_sem,t1,t3,t4,t5,t6,t7,t8,t9,hlR,hq2 (nat_cst k),s7.cells hc2,hn2,hlr,hj',cells_of g8,oneS,oneG,o5]
     have hw5n:=s25.next
     have lz2:=s02.next
     refine(tl.mono (s7.trans sA)).push hw2 (by have:=hlen2 tt;rw[List.length_append,List.length_take];omega) (v:=(S,Ga,w)) (t:=(evens row,odds row,tt)) (SlAt.new _ rfl rfl (by simp[row3]) (by simp[row3]) (by simp)) (hv.mono sA) ⟨(ownUp oS).low (by omega),(ownUp oG').low (by omega),uw.low sz.next⟩ fun y5 z9 l5 _=>?_
     simp -implicitDefEqProofs(maxSteps:=999999)(disch:=first|with_reducible rfl|omega|(simp only[nA,nS,nD]<;>omega)|fail)only[go_sem,t1,t3,t4,t5,t6,t7,t8,t9,wr_succ]
     have e2:(ofT RR tt).take (k+1)=(ofT RR tt).take k++[(evens row,odds row,tt)]:=by rw[List.take_add_one,hst];rfl
     exact⟨_,_,_,_,rfl,by rw[e2,←List.append_assoc];exact l5,(by simp[ev_c,ev_put,t1]<;>rfl),(by simp[ev_c,ev_put,t3]<;>rfl),(by simp[ev_c,ev_put,t4]<;>rfl),(by simp[ev_c,ev_put]<;>rfl),(by simp[ev_c,ev_put,t6]<;>rfl),(by simp[ev_c,ev_put]<;>rfl)⟩
   ·clear tl4 t1 t3 t4 t5 t6
    rintro s ⟨tm,z5,y,vs,rfl,tl,t1,t3,t4,t5,t6,t7⟩
    have hk':¬(RR.length:Int)<(RR.length:Int):=by omega
    have hlo:(ofT RR tt).take RR.length=ofT RR tt:=List.take_of_length_le (by unfold ofT;rw[List.length_map];exact Nat.le_refl _)
    rw[hlo,←hstep] at tl
    simp -implicitDefEqProofs(maxSteps:=999999)(disch:=first|with_reducible rfl|omega|(simp only[nA,nS,nD]<;>omega)|fail)only[go_sem,t1,t3,t4,t5,t6,t7,hlR,hk',wr_succ]
    exact⟨_,_,_,_,rfl,tl,(by simp[ev_c,ev_put,t1]<;>rfl),(by simp[ev_c,ev_put,t3]<;>rfl),(by simp[ev_c,ev_put,t4]<;>rfl),(by simp[ev_c,ev_put,t5]<;>rfl),(by simp[ev_c,ev_put]<;>rfl)⟩
 ·rintro s ⟨tm,z3,y,vs,rfl,tl,t1,t3,t4,t5,t6⟩
  rw[hall] at tl
  have s3:=tl.o.1
  simp -implicitDefEqProofs(maxSteps:=999999)(disch:=first|with_reducible rfl|omega|(simp only[nA,nS,nD]<;>omega)|fail)only[go_sem,t1,t3,t4,t5,t6,hlT,Int.lt_irrefl]
  exact q _ _ (s02.trans s3) (tl.rd (by rw[←hall];have:=hlen T.length;omega) s02.next)
end Go.Ab.Tryz
namespace Go.Ab.Tryz
open Go.Proofs
structure InT (a:At)(t:TT):Prop where
 l:LenT a t
 m:∀x∈t.2.2,0≤x∧x≤240
 r:∀(k:Nat) s g,t.1[k]? =some s→t.2.1[k]? =some g→RunIn s g
theorem allT_in {a:At}(r:Right a){t:TT}(h:t∈allT a):InT a t:=by
 obtain⟨l,tr⟩:=(allT_mem r).1 h
 have he:=r.evs
 have hm:=r.mins
 refine⟨l,fun x hx=>?_,fun k s g h1 h2=>(tr.run k (s,g) (zip_get.2 ⟨h1,h2⟩)).run r⟩
 obtain⟨i,hi,rfl⟩:=List.mem_iff_getElem.1 hx
 have l3:=l.2.2
 have:=tr.mins i (by omega)
 rw[timeF_at (List.getElem?_eq_getElem hi)] at this
 omega
theorem allT_len (a:At):(allT a).length≤(a.mins.toNat+1)^a.evs.toNat*runsN a.cks:=by
 have:=uptoT_len (a:=a) (T:=timesL a a.evs.toNat) (RR:=runsL a.cks) (timesL a a.evs.toNat).length
 rw[uptoT_all,timesL_len,runsL_len] at this
 exact this
set_option maxHeartbeats 4000000 in
theorem Fitting_ev {h:H}(hw:h.wf){a:At}{C R G:V}(x:AtAt h C R G a)(r:Right a){y0:V}{n:Nat}(ty:TR n h y0 (allT a))(hn:n≤h.next)(hl:(allT a).length≤100000)(Q:V→H→Prop)(q:∀y h',h.Sub h'→TR n h' y (fitT a)→Q y h'):
  Ev fnG fastA (.fn 26 [] []) [.agg (atV a C R G),y0] h Q:=by
 have oC:=x.c.one;have oR:=x.r.one;have oG:=x.g.one
 have oy:=ty.one
 refine Ev_body (fd:=c26) rfl rfl rfl ?_
 obtain⟨z,hz⟩:∃z,h.add (.cells .rw (atV a C R G))=z:=⟨_,rfl⟩
 have sz:h.Sub z:=by rw[←hz];exact(by repeat(first|assumption|exact H.Sub.refl (by assumption)|refine H.Sub.add ?_ _|refine H.Sub.set ?_ (by first|omega|(simp only[H.next_add,H.next_set,H.next_del]<;>omega)) (by first|omega|(simp only[H.next_add,H.next_set,H.next_del]<;>omega)) (by assumption) _))
 have ga:z.get h.next=some (.cells .rw (atV a C R G)):=by rw[←hz];exact get_add_new rfl
 simp -implicitDefEqProofs(maxSteps:=999999)(disch:=first|with_reducible rfl|omega|(simp only[nA,nS,nD]<;>omega)|fail)only[c26,go_sem,oC,oR,oG]
 rw[hz]
 clear hz
 have hlA:=ty.lenE
 have hin:=fun t (ht:t∈allT a)=>allT_in r ht
 have hst:∀i (hi:i<(allT a).length),((allT a).take (i+1)).filter (fun t=>decide (missT a t=0))=((allT a).take i).filter (fun t=>decide (missT a t=0))++if missT a (allT a)[i]=0 then[(allT a)[i]] else[]:=fun i hi=>by
  rw[List.take_add_one,List.getElem?_eq_getElem hi,List.filter_append]
  congr 1
  simp only[Option.toList_some,List.filter_cons,List.filter_nil,decide_eq_true_eq]
 have hfl:∀i,(((allT a).take i).filter (fun t=>decide (missT a t=0))).length≤100000:=fun i=>Nat.le_trans (List.length_filter_le ..) (by rw[List.length_take];omega)
 have hfin:((allT a).take (allT a).length).filter (fun t=>decide (missT a t=0))=fitT a:=by rw[List.take_length];rfl
 generalize allT a=A at *
 refine W_count A.length (fun i s=>∃tm z2 y vs,s=⟨tm,z2,[]⟩∧TL n z z2 y ((A.take i).filter fun t=>decide (missT a t=0)) vs∧(Opd.t 1).ev tm=y0∧(Opd.t 2).ev tm=.ptr h.next 0∧(Opd.t 5).ev tm=y∧(Opd.t 6).ev tm=.int .i64 (i:Int)) ?_ ?_ (i:=0) (Nat.zero_le _)
  ⟨_,_,_,_,rfl,TL.nil (H.Sub.refl sz.wf),(by simp[ev_c,ev_put]<;>rfl),(by simp[ev_c,ev_put]<;>rfl),(by simp[ev_c,ev_put]<;>rfl),(by simp[ev_c,ev_put]<;>rfl)⟩
 ·rintro i s hi ⟨tm,z2,y,vs,rfl,tl,t1,t2,t5,t6⟩
  have hi':(i:Int)<(A.length:Int):=by omega
  have s2:=tl.o.1
  have s02:=sz.trans s2
  obtain⟨bb,o,cs,v,hc,hq,hg,hn0,hn1,hn2,hv,hu⟩:=(ty.mono s02).at_ hi
  have hti:=hin _ (List.getElem_mem hi)
  have hs:=hst i hi
  have hfi:=hfl i
  generalize A[i]=t at hv hti hs
  obtain⟨ss,gg,tt⟩:=t
  obtain⟨S,Ga,Tm⟩:=v
  obtain⟨l1,l2,l3⟩:=hti.l
  simp only[row3] at hg
  have oS:=hv.s.one;have oGa:=hv.g.one;have oT:=hv.t.one
  simp only at oS oGa oT
  have hrow:=hv.one
  simp -implicitDefEqProofs(maxSteps:=999999)(disch:=first|with_reducible rfl|omega|(simp only[nA,nS,nD]<;>omega)|fail)only[go_sem,t1,t2,t5,t6,hlA,hi',hq (nat_cst i),hc,hg,cells_of (s2.get ga),oC,oR,oG]
  refine Missed_ev s02.wf (x.mono s02) r hv l1 l2 l3 hti.m hti.r _ fun z3 s3=>?_
  have tl3:=tl.mono s3
  have hv3:=hv.mono s3
  by_cases hm:missI a ss gg tt=0
  ·rw[show missT a (ss,gg,tt)=missI a ss gg tt from rfl,if_pos hm] at hs
   simp -implicitDefEqProofs(maxSteps:=999999)(disch:=first|with_reducible rfl|omega|(simp only[nA,nS,nD]<;>omega)|fail)only[go_sem,t1,t2,t5,t6,hm,hq (nat_cst i),hc,s3.cells hc,hg,cells_of (s2.get ga),cells_of ((s2.trans s3).get ga),oC,oR,oG,oS,oGa,oT]
   have sA:=(H.Sub.refl s3.wf).add (.cells .rw [S,Ga,Tm])
   refine(tl3.mono sA).push sz.wf (by omega) (v:=(S,Ga,Tm)) (t:=(ss,gg,tt)) (SlAt.new _ rfl rfl (by simp[row3]) (by simp[row3]) (by simp)) (hv3.mono sA) hu fun y5 z5 l5 _=>?_
   simp -implicitDefEqProofs(maxSteps:=999999)(disch:=first|with_reducible rfl|omega|(simp only[nA,nS,nD]<;>omega)|fail)only[go_sem,t1,t2,t5,t6,wr_succ]
   exact⟨_,_,_,_,rfl,by rw[hs];exact l5,(by simp[ev_c,ev_put,t1]<;>rfl),(by simp[ev_c,ev_put,t2]<;>rfl),(by simp[ev_c,ev_put]<;>rfl),(by simp[ev_c,ev_put]<;>rfl)⟩
  ·rw[show missT a (ss,gg,tt)=missI a ss gg tt from rfl,if_neg hm] at hs
   simp -implicitDefEqProofs(maxSteps:=999999)(disch:=first|with_reducible rfl|omega|(simp only[nA,nS,nD]<;>omega)|fail)only[go_sem,t1,t2,t5,t6,hm,hq (nat_cst i),hc,s3.cells hc,hg,cells_of (s2.get ga),cells_of ((s2.trans s3).get ga),oC,oR,oG,wr_succ]
   exact⟨_,_,_,_,rfl,by rw[hs];simpa using tl3,(by simp[ev_c,ev_put,t1]<;>rfl),(by simp[ev_c,ev_put,t2]<;>rfl),(by simp[ev_c,ev_put,t5]<;>rfl),(by simp[ev_c,ev_put]<;>rfl)⟩
 ·rintro s ⟨tm,z2,y,vs,rfl,tl,t1,t2,t5,t6⟩
  rw[hfin] at tl
  have s2:=tl.o.1
  simp -implicitDefEqProofs(maxSteps:=999999)(disch:=first|with_reducible rfl|omega|(simp only[nA,nS,nD]<;>omega)|fail)only[go_sem,t1,t2,t5,t6,hlA,Int.lt_irrefl]
  exact q _ _ (sz.trans s2) (tl.rd (by rw[←hfin];have:=hfl A.length;omega) (Nat.le_trans hn sz.next))
end Go.Ab.Tryz
namespace Go.Ab.Tryz
open Go.Proofs
end Go.Ab.Tryz
namespace Go.Ab.Tryz
open Go.Proofs
end Go.Ab.Tryz
namespace Go.Ab.Tryz
open Go.Proofs
def facI (s:Int × Int):Int:=if -60≤s.1∧s.2≤60∧s.1≤s.2 then min (s.2-s.1+1) 100 else 1
theorem facI_bd (s:Int × Int):1≤facI s∧facI s≤100:=by unfold facI;split<;>omega
theorem mul_in {n p:Int}(h1:1≤n∧n≤2500)(h2:1≤p∧p≤1000):1≤n*p∧n*p≤2500000:=by
 have a:=Int.mul_le_mul h1.2 h2.2 (by omega) (by decide)
 have b:=Int.mul_le_mul h1.1 h2.1 (by decide) (by omega)
 omega
def remC (c:Ck)(R:Nat):Nat→Nat
 |0=>c.ns*(c.ng*R)
 |1=>c.ng*R
 |_=>R
def cntC (c:Ck):Nat→Nat
 |0=>c.ns
 |_=>c.ng
theorem remC_step (c:Ck)(R:Nat){j:Nat}(h:j<2):remC c R j=cntC c j*remC c R (j+1):=by
 rcases(by omega:j=0∨j=1) with rfl|rfl<;>rfl
theorem fac_cnt {a:At}(r:Right a){c:Ck}(hc:c∈a.cks){j:Nat}(h:j<2):facI (([(c.sl,c.sh),(c.gl,c.gh)]:Runs)[j]'h)=(cntC c j:Int):=by
 have hcb:=r.cb _ hc
 have hco:=r.co _ hc
 have hcs:=r.cs _ hc
 simp only[Ck.bd,within,Bool.and_eq_true,inB_iff] at hcb
 simp only[Ck.ord,Bool.and_eq_true,decide_eq_true_eq] at hco
 simp only[Ck.sm,Bool.and_eq_true,decide_eq_true_eq] at hcs
 rcases(by omega:j=0∨j=1) with rfl|rfl
 ·show facI (c.sl,c.sh)=(c.ns:Int)
  unfold facI Ck.ns
  rw[if_pos (by simp only;omega)]
  simp only;omega
 ·show facI (c.gl,c.gh)=(c.ng:Int)
  unfold facI Ck.ng
  rw[if_pos (by simp only;omega)]
  simp only;omega
set_option maxHeartbeats 8000000 in
theorem wide_ev {h:H}(hw:h.wf){a:At}{C R G:V}(x:AtAt h C R G a)(Q:V→H→Prop)(q:∀b h',h.Sub h'→(b=false→greatA a=false∧(Right a→(a.mins.toNat+1)^a.evs.toNat*runsN a.cks≤2500))→Q (.bool b) h'):
  Ev fnG fastA (.fn 23 [] []) [.agg (atV a C R G)] h Q:=by
 have oC:=x.c.one;have oR:=x.r.one;have oG:=x.g.one
 have hlC:=x.c.lenE
 refine Ev_body (fd:=c23) rfl rfl rfl ?_
 obtain⟨z,hz⟩:∃z,h.add (.cells .rw (atV a C R G))=z:=⟨_,rfl⟩
 have sz:h.Sub z:=by rw[←hz];exact(by repeat(first|assumption|exact H.Sub.refl (by assumption)|refine H.Sub.add ?_ _|refine H.Sub.set ?_ (by first|omega|(simp only[H.next_add,H.next_set,H.next_del]<;>omega)) (by first|omega|(simp only[H.next_add,H.next_set,H.next_del]<;>omega)) (by assumption) _))
 have ga:z.get h.next=some (.cells .rw (atV a C R G)):=by rw[←hz];exact get_add_new rfl
 obtain⟨P,hP⟩:∃P,min (max 1 (wr .i64 (a.mins+1))) 1000=P:=⟨_,rfl⟩
 have hPb:1≤P∧P≤1000:=by omega
 have hPr:Right a→P=((a.mins.toNat+1:Nat):Int):=fun r=>by
  have:=r.mins
  rw[←hP,wr_in (by omega) (by omega)];omega
 simp -implicitDefEqProofs(maxSteps:=999999)(disch:=first|with_reducible rfl|omega|(simp only[nA,nS,nD]<;>omega)|fail)only[c23,go_sem,oC,oR,oG]
 rw[hz]
 clear hz
 refine W_count (min a.evs 4).toNat (fun i s=>∃tm,s=⟨tm,z,[]⟩∧(1≤P^i∧P^i≤2500)∧(Opd.t 1).ev tm=.ptr h.next 0∧(Opd.t 3).ev tm=.int .i64 (P^i)∧(Opd.t 10).ev tm=.int .i64 (min a.evs 4)∧(Opd.t 11).ev tm=.int .i64 (i:Int)) ?_ ?_ (i:=0) (Nat.zero_le _)
  ⟨_,rfl,by simp,(by simp[ev_c,ev_put]<;>rfl),(by simp[ev_c,ev_put]<;>rfl),(by simp[ev_c,ev_put]<;>rfl),(by simp[ev_c,ev_put]<;>rfl)⟩
 ·rintro i s hi ⟨tm,rfl,hn,t1,t3,t10,t11⟩
  have hi':(i:Int)<min a.evs 4:=by omega
  have hm:=mul_in hn hPb
  have w1:wr .i64 (P^i*P)=P^(i+1):=by rw[Int.pow_succ];exact wr_in (by omega) (by omega)
  have w2:wr .i64 ((i:Int)+1)=((i+1:Nat):Int):=by rw[wr_in (by omega) (by omega)];omega
  rw[←Int.pow_succ] at hm
  by_cases hc:(2500:Int)<P^(i+1)
  ·simp -implicitDefEqProofs(maxSteps:=999999)(disch:=first|with_reducible rfl|omega|(simp only[nA,nS,nD]<;>omega)|fail)only[go_sem,t1,t3,t10,t11,hi',cells_of ga,hP,w1,hc]
   exact q _ _ sz fun h=>by cases h
  ·simp -implicitDefEqProofs(maxSteps:=999999)(disch:=first|with_reducible rfl|omega|(simp only[nA,nS,nD]<;>omega)|fail)only[go_sem,t1,t3,t10,t11,hi',cells_of ga,hP,w1,w2,hc]
   exact⟨_,rfl,⟨hm.1,Int.not_lt.1 hc⟩,(by simp[ev_c,ev_put,t1]<;>rfl),(by simp[ev_c,ev_put]<;>rfl),(by simp[ev_c,ev_put,t10]<;>rfl),(by simp[ev_c,ev_put]<;>rfl)⟩
 ·rintro s ⟨tm,rfl,hn,t1,t3,t10,t11⟩
  have hi':¬((min a.evs 4).toNat:Int)<min a.evs 4:=by omega
  obtain⟨N0,hN0⟩:∃N0,P^(min a.evs 4).toNat=N0:=⟨_,rfl⟩
  rw[hN0] at hn t3
  have hNr:Right a→N0=(((a.mins.toNat+1)^a.evs.toNat:Nat):Int):=fun r=>by
   have he:=r.evs
   rw[←hN0,hPr r,show(min a.evs 4).toNat=a.evs.toNat by omega]
   simp
  simp -implicitDefEqProofs(maxSteps:=999999)(disch:=first|with_reducible rfl|omega|(simp only[nA,nS,nD]<;>omega)|fail)only[go_sem,t1,t3,t10,t11,hi',cells_of ga,hlC]
  refine W_count a.cks.length (fun k s=>∃tm z2 n,s=⟨tm,z2,[]⟩∧z.Sub z2∧(1≤n∧n≤2500)∧(Right a→n*(runsN (a.cks.drop k):Int)=(((a.mins.toNat+1)^a.evs.toNat*runsN a.cks:Nat):Int))∧
    (Opd.t 1).ev tm=.ptr h.next 0∧(Opd.t 3).ev tm=.int .i64 n∧(Opd.t 24).ev tm=C∧(Opd.t 25).ev tm=.int .i64 (a.cks.length:Int)∧(Opd.t 26).ev tm=.int .i64 (k:Int)) ?_ ?_ (i:=0) (Nat.zero_le _)
   ⟨_,_,N0,rfl,H.Sub.refl sz.wf,hn,fun r=>by rw[hNr r,List.drop_zero,Int.natCast_mul],(by simp[ev_c,ev_put,t1]<;>rfl),(by simp[ev_c,ev_put,t3]<;>rfl),(by simp[ev_c,ev_put]<;>rfl),(by simp[ev_c,ev_put]<;>rfl),(by simp[ev_c,ev_put]<;>rfl)⟩
  ·clear t1 t3 t10 t11 hn hi'
   rintro k s hk ⟨tm,z2,n,rfl,s2,hn,hr,t1,t3,t24,t25,t26⟩
   have hk':(k:Int)<(a.cks.length:Int):=by omega
   have s02:=sz.trans s2
   obtain⟨bC,oCC,cC,csC,_,hcC,hqC,hgC,_,_⟩:=(x.c.mono s02).at hk
   have hmem:=List.getElem_mem hk
   have hdrop:a.cks.drop k=a.cks[k]::a.cks.drop (k+1):=List.drop_eq_getElem_cons hk
   rw[hdrop,runsN] at hr
   generalize a.cks[k]=c at hgC hmem hr
   simp only[encC] at hgC
   obtain⟨z3,hz3⟩:∃z3,z2.add (.cells .rw [.int .i64 c.sl,.int .i64 c.sh,.int .i64 c.gl,.int .i64 c.gh])=z3:=⟨_,rfl⟩
   have s3:z2.Sub z3:=by rw[←hz3];exact(H.Sub.refl s02.wf).add _
   have g5:z3.get z2.next=some (.cells .rw [.int .i64 c.sl,.int .i64 c.sh,.int .i64 c.gl,.int .i64 c.gh]):=by rw[←hz3];exact get_add_new rfl
   simp -implicitDefEqProofs(maxSteps:=999999)(disch:=first|with_reducible rfl|omega|(simp only[nA,nS,nD]<;>omega)|fail)only[go_sem,t1,t3,t24,t25,t26,hk',hqC (nat_cst k),hcC,hgC,hz3,cells_of g5]
   obtain⟨z4,hz4⟩:∃z4,z3.add (.cells .rw [.int .i64 c.sl,.int .i64 c.sh,.int .i64 c.gl,.int .i64 c.gh])=z4:=⟨_,rfl⟩
   have s4:z3.Sub z4:=by rw[←hz4];exact(H.Sub.refl s3.wf).add _
   have xx:SlAt z4 (.sl z3.next 0 2 (.fix 2)) 2 (([(c.sl,c.sh),(c.gl,c.gh)]:Runs).map encX):=by rw[←hz4];exact SlAt.new _ rfl rfl rfl (by simp[encX]) (by simp)
   try rw[hz4]
   clear hz4
   have s24:=s2.trans (s3.trans s4)
   have hr0:Right a→n*(remC c (runsN (a.cks.drop (k+1))) 0:Int)=(((a.mins.toNat+1)^a.evs.toNat*runsN a.cks:Nat):Int):=hr
   generalize runsN (a.cks.drop (k+1))=RR at hr0
   refine W_count 2 (fun j s=>∃tm z5 n,s=⟨tm,z5,[]⟩∧z4.Sub z5∧(1≤n∧n≤2500)∧(Right a→n*(remC c RR j:Int)=(((a.mins.toNat+1)^a.evs.toNat*runsN a.cks:Nat):Int))∧
     (Opd.t 1).ev tm=.ptr h.next 0∧(Opd.t 3).ev tm=.int .i64 n∧(Opd.t 24).ev tm=C∧(Opd.t 25).ev tm=.int .i64 (a.cks.length:Int)∧(Opd.t 26).ev tm=.int .i64 (k:Int)∧(Opd.t 34).ev tm=.sl z3.next 0 2 (.fix 2)∧(Opd.t 35).ev tm=.int .i64 2∧(Opd.t 36).ev tm=.int .i64 (j:Int)) ?_ ?_ (i:=0) (Nat.zero_le _)
    ⟨_,_,n,rfl,H.Sub.refl s4.wf,hn,hr0,(by simp[ev_c,ev_put,t1]<;>rfl),(by simp[ev_c,ev_put,t3]<;>rfl),(by simp[ev_c,ev_put,t24]<;>rfl),(by simp[ev_c,ev_put,t25]<;>rfl),(by simp[ev_c,ev_put,t26]<;>rfl),(by simp[ev_c,ev_put]<;>rfl),(by simp[ev_c,ev_put]<;>rfl),(by simp[ev_c,ev_put]<;>rfl)⟩
   ·clear t1 t3 t24 t25 t26 hn hr hr0
    rintro j s hj ⟨tm,z5,n,rfl,s5,hn,hr,t1,t3,t24,t25,t26,t34,t35,t36⟩
    have hj':(j:Int)<2:=by omega
    have hf:=fun r=>fac_cnt r hmem hj
    obtain⟨bX,oX,cX,csX,_,hcX,hqX,hgX,_,_⟩:=(xx.mono s5).at hj
    have hrem:=remC_step c RR hj
    generalize([(c.sl,c.sh),(c.gl,c.gh)]:Runs)[j]=sp at hgX hf
    obtain⟨lo,hi⟩:=sp
    simp only[encX] at hgX
    obtain⟨z6,hz6⟩:∃z6,z5.add (.cells .rw [.int .i64 lo,.int .i64 hi])=z6:=⟨_,rfl⟩
    have s6:z5.Sub z6:=by rw[←hz6];exact(H.Sub.refl s5.wf).add _
    have g7:z6.get z5.next=some (.cells .rw [.int .i64 lo,.int .i64 hi]):=by rw[←hz6];exact get_add_new rfl
    have s06:=sz.trans (s24.trans (s5.trans s6))
    have w36:wr .i64 ((j:Int)+1)=((j+1:Nat):Int):=by rw[wr_in (by omega) (by omega)];omega
    have hb:=facI_bd (lo,hi)
    have hm:=mul_in hn ⟨hb.1,Int.le_trans hb.2 (by decide)⟩
    have hr':Right a→n*facI (lo,hi)*(remC c RR (j+1):Int)=(((a.mins.toNat+1)^a.evs.toNat*runsN a.cks:Nat):Int):=fun r=>by
     rw[←hr r,hrem,hf r,Int.natCast_mul,Int.mul_assoc]
    have no:facI (lo,hi)=1→n*facI (lo,hi)=n:=fun e=>by rw[e,Int.mul_one]
    have fin:∀m tm',n*facI (lo,hi)=m→(Opd.t 1).ev tm'=.ptr h.next 0→(Opd.t 3).ev tm'=.int .i64 m→(Opd.t 24).ev tm'=C→(Opd.t 25).ev tm'=.int .i64 (a.cks.length:Int)→(Opd.t 26).ev tm'=.int .i64 (k:Int)→(Opd.t 34).ev tm'=.sl z3.next 0 2 (.fix 2)→(Opd.t 35).ev tm'=.int .i64 2→(Opd.t 36).ev tm'=.int .i64 ((j+1:Nat):Int)→m≤2500→
      ∃tm z5 n,(⟨tm',z6,[]⟩:St)=⟨tm,z5,[]⟩∧z4.Sub z5∧(1≤n∧n≤2500)∧(Right a→n*(remC c RR (j+1):Int)=(((a.mins.toNat+1)^a.evs.toNat*runsN a.cks:Nat):Int))∧
       (Opd.t 1).ev tm=.ptr h.next 0∧(Opd.t 3).ev tm=.int .i64 n∧(Opd.t 24).ev tm=C∧(Opd.t 25).ev tm=.int .i64 (a.cks.length:Int)∧(Opd.t 26).ev tm=.int .i64 (k:Int)∧(Opd.t 34).ev tm=.sl z3.next 0 2 (.fix 2)∧(Opd.t 35).ev tm=.int .i64 2∧(Opd.t 36).ev tm=.int .i64 ((j+1:Nat):Int):=fun m tm' e1 u1 u3 u24 u25 u26 u34 u35 u36 hle=>by
     subst e1
     exact⟨tm',z6,_,rfl,s5.trans s6,⟨hm.1,hle⟩,hr',u1,u3,u24,u25,u26,u34,u35,u36⟩
    have nn:¬(2500:Int)<n:=by omega
    by_cases d1: -60≤lo
    case neg=>
     have e:=no (by unfold facI;rw[if_neg (by simp only;omega)])
     simp -implicitDefEqProofs(maxSteps:=999999)(disch:=first|with_reducible rfl|omega|(simp only[nA,nS,nD]<;>omega)|fail)only[go_sem,t1,t3,t24,t25,t26,t34,t35,t36,hj',hqX (nat_cst j),hcX,hgX,hz6,cells_of g7,d1,nn,w36]
     exact fin _ _ e (by simp[ev_c,ev_put,t1]<;>rfl) (by simp[ev_c,ev_put,t3]<;>rfl) (by simp[ev_c,ev_put,t24]<;>rfl) (by simp[ev_c,ev_put,t25]<;>rfl) (by simp[ev_c,ev_put,t26]<;>rfl) (by simp[ev_c,ev_put,t34]<;>rfl) (by simp[ev_c,ev_put,t35]<;>rfl) (by simp[ev_c,ev_put]<;>rfl) (by omega)
    by_cases d2:hi≤60
    case neg=>
     have e:=no (by unfold facI;rw[if_neg (by simp only;omega)])
     simp -implicitDefEqProofs(maxSteps:=999999)(disch:=first|with_reducible rfl|omega|(simp only[nA,nS,nD]<;>omega)|fail)only[go_sem,t1,t3,t24,t25,t26,t34,t35,t36,hj',hqX (nat_cst j),hcX,hgX,hz6,cells_of g7,d1,d2,nn,w36]
     exact fin _ _ e (by simp[ev_c,ev_put,t1]<;>rfl) (by simp[ev_c,ev_put,t3]<;>rfl) (by simp[ev_c,ev_put,t24]<;>rfl) (by simp[ev_c,ev_put,t25]<;>rfl) (by simp[ev_c,ev_put,t26]<;>rfl) (by simp[ev_c,ev_put,t34]<;>rfl) (by simp[ev_c,ev_put,t35]<;>rfl) (by simp[ev_c,ev_put]<;>rfl) (by omega)
    by_cases d3:lo≤hi
    case neg=>
     have e:=no (by unfold facI;rw[if_neg (by simp only;omega)])
     simp -implicitDefEqProofs(maxSteps:=999999)(disch:=first|with_reducible rfl|omega|(simp only[nA,nS,nD]<;>omega)|fail)only[go_sem,t1,t3,t24,t25,t26,t34,t35,t36,hj',hqX (nat_cst j),hcX,hgX,hz6,cells_of g7,d1,d2,d3,nn,w36]
     exact fin _ _ e (by simp[ev_c,ev_put,t1]<;>rfl) (by simp[ev_c,ev_put,t3]<;>rfl) (by simp[ev_c,ev_put,t24]<;>rfl) (by simp[ev_c,ev_put,t25]<;>rfl) (by simp[ev_c,ev_put,t26]<;>rfl) (by simp[ev_c,ev_put,t34]<;>rfl) (by simp[ev_c,ev_put,t35]<;>rfl) (by simp[ev_c,ev_put]<;>rfl) (by omega)
    have ef:facI (lo,hi)=min (hi-lo+1) 100:=by unfold facI;rw[if_pos ⟨d1,d2,d3⟩]
    have w1:wr .i64 (hi-lo)=hi-lo:=wr_in (by omega) (by omega)
    have w2:wr .i64 (hi-lo+1)=hi-lo+1:=wr_in (by omega) (by omega)
    have w3:wr .i64 (n*min (hi-lo+1) 100)=n*facI (lo,hi):=by rw[ef];rw[ef] at hm;exact wr_in (by omega) (by omega)
    by_cases hc:(2500:Int)<n*facI (lo,hi)
    ·simp -implicitDefEqProofs(maxSteps:=999999)(disch:=first|with_reducible rfl|omega|(simp only[nA,nS,nD]<;>omega)|fail)only[go_sem,t1,t3,t24,t25,t26,t34,t35,t36,hj',hqX (nat_cst j),hcX,hgX,hz6,cells_of g7,d1,d2,d3,w1,w2,w3,hc]
     exact q _ _ s06 fun h=>by cases h
    ·simp -implicitDefEqProofs(maxSteps:=999999)(disch:=first|with_reducible rfl|omega|(simp only[nA,nS,nD]<;>omega)|fail)only[go_sem,t1,t3,t24,t25,t26,t34,t35,t36,hj',hqX (nat_cst j),hcX,hgX,hz6,cells_of g7,d1,d2,d3,w1,w2,w3,hc,w36]
     exact fin _ _ rfl (by simp[ev_c,ev_put,t1]<;>rfl) (by simp[ev_c,ev_put]<;>rfl) (by simp[ev_c,ev_put,t24]<;>rfl) (by simp[ev_c,ev_put,t25]<;>rfl) (by simp[ev_c,ev_put,t26]<;>rfl) (by simp[ev_c,ev_put,t34]<;>rfl) (by simp[ev_c,ev_put,t35]<;>rfl) (by simp[ev_c,ev_put]<;>rfl) (by omega)
   ·clear t1 t3 t24 t25 t26 hn hr hr0
    rintro s ⟨tm,z5,n,rfl,s5,hn,hr,t1,t3,t24,t25,t26,t34,t35,t36⟩
    have hj':¬((2:Nat):Int)<2:=by omega
    have w26:wr .i64 ((k:Int)+1)=((k+1:Nat):Int):=by rw[wr_in (by omega) (by have:=x.c.2.1;rw[List.length_map] at this;omega)];omega
    simp -implicitDefEqProofs(maxSteps:=999999)(disch:=first|with_reducible rfl|omega|(simp only[nA,nS,nD]<;>omega)|fail)only[go_sem,t1,t3,t24,t25,t26,t34,t35,t36,hj',w26]
    exact⟨_,_,n,rfl,s24.trans s5,hn,hr,(by simp[ev_c,ev_put,t1]<;>rfl),(by simp[ev_c,ev_put,t3]<;>rfl),(by simp[ev_c,ev_put,t24]<;>rfl),(by simp[ev_c,ev_put,t25]<;>rfl),(by simp[ev_c,ev_put]<;>rfl)⟩
  ·clear t1 t3 t10 t11 hn hi'
   rintro s ⟨tm,z2,n,rfl,s2,hn,hr,t1,t3,t24,t25,t26⟩
   rw[List.drop_length,runsN] at hr
   have s02:=sz.trans s2
   simp -implicitDefEqProofs(maxSteps:=999999)(disch:=first|with_reducible rfl|omega|(simp only[nA,nS,nD]<;>omega)|fail)only[go_sem,t1,t3,t24,t25,t26,Int.lt_irrefl,cells_of (s2.get ga),oC,oR,oG]
   refine great_ev s02.wf (x.mono s02) _ fun z3 s3=>?_
   simp -implicitDefEqProofs(maxSteps:=999999)(disch:=first|with_reducible rfl|omega|(simp only[nA,nS,nD]<;>omega)|fail)only[go_sem]
   refine q _ _ (s02.trans s3) fun hg=>⟨hg,fun r=>?_⟩
   have:=hr r
   omega
end Go.Ab.Tryz
namespace Go.Ab.Tryz
open Go.Proofs
variable {z5 z z':H} {cs:List (List V)} {n0:Nat}
def erV (a:At)(f t:Int):Int:=if a.evB f=true∧a.evB t=true then 0 else 1
def er7 (a:At)(e:Int):Int:=if e=0∧allC a=[] then 7 else e
theorem errT_r {a:At}(r:Right a)(b:Bool):errT a b=er7 a (if b=true then 1 else 0):=by
 unfold errT er7
 rw[if_neg (by rw[checkA_iff.2 r];simp)]
 cases b with
 |true=>simp
 |false=>
  by_cases h:allC a=[]<;>simp[h]
theorem evV_ok {a:At}{f t:Int}(h:er7 a (erV a f t)=0):(a.evB f=true∧a.evB t=true)∧allC a≠[]:=by
 unfold er7 erV at h
 by_cases hb:a.evB f=true∧a.evB t=true
 ·rw[if_pos hb] at h
  exact⟨hb,fun e=>by rw[if_pos ⟨rfl,e⟩] at h;cases h⟩
 ·rw[if_neg hb,if_neg (by simp)] at h;cases h
end Go.Ab.Tryz
namespace Go.Ab
end Go.Ab
namespace Go.Ab.Tryz
open Go.Proofs
theorem errT_no {a:At}(h:checkA a≠0)(b:Bool):errT a b=checkA a:=if_pos h
theorem runsN_pos:∀{cs:List Ck},(∀c∈cs,1≤c.ns∧1≤c.ng)→1≤runsN cs
 |[],_=>Nat.le_refl _
 |c::cs,h=>by
  have h0:=h c (List.mem_cons_self ..)
  exact Nat.le_trans (runsN_pos fun c hc=>h c (List.mem_cons_of_mem _ hc)) (runsN_le h0.1 h0.2)
theorem wide_bds {a:At}(r:Right a)(h:(a.mins.toNat+1)^a.evs.toNat*runsN a.cks≤2500):(a.mins.toNat+1)^a.evs.toNat≤2500∧runsN a.cks≤2500:=by
 have h1:1≤runsN a.cks:=runsN_pos fun c hc=>by
  have hco:=r.co _ hc
  simp only[Ck.ord,Bool.and_eq_true,decide_eq_true_eq] at hco
  unfold Ck.ns Ck.ng
  omega
 have h2:1≤(a.mins.toNat+1)^a.evs.toNat:=Nat.one_le_pow _ _ (by omega)
 exact⟨Nat.le_trans (Nat.le_mul_of_pos_right _ h1) h,Nat.le_trans (Nat.le_mul_of_pos_left _ h2) h⟩
def i1 (n:Int):List V:=[.int .i64 n]
def i2 (s:Int × Int):List V:=[.int .i64 s.1,.int .i64 s.2]
end Go.Ab.Tryz
namespace Go.Ab
namespace Tryz
open Go.Proofs
end Tryz
end Go.Ab
namespace Go.Ab
namespace Tryz
open Go.Proofs
theorem someT_spec {a:At}(r:Right a)(hne:allC a≠[]):∃runs y,TruA a runs y∧someT a=(runs.map Prod.fst,runs.map Prod.snd,(List.range a.evs.toNat).map y):=by
 obtain⟨t,l,h⟩:=List.exists_cons_of_ne_nil hne
 have ht:t∈casesL a (fun _=>true):=by show t∈allC a;rw[h];exact List.mem_cons_self ..
 refine⟨t.1,latY t.2 4,lat_tru r ht (by omega),?_⟩
 unfold someT
 rw[h]
 simp only
 rw[if_pos (errT_ok r hne)]
 have:(List.range a.evs.toNat).map (fun i=>mg t.2 4 i)=(List.range a.evs.toNat).map (latY t.2 4):=List.map_congr_left fun i _=>(lat_4 r ht i).symm
 rw[this]
theorem someT_fit {a:At}(r:Right a)(hne:allC a≠[]):fitB a (someT a).1 (someT a).2.1 (someT a).2.2=true:=by
 obtain⟨runs,y,t,e⟩:=someT_spec r hne
 rw[e];exact t.fit r
theorem errT_none {a:At}(r:Right a)(h:allC a=[]):errT a false=7:=by
 unfold errT
 rw[if_neg (by rw[checkA_iff.2 r];simp),if_neg (by simp),if_pos h]
end Tryz
end Go.Ab
namespace Go.Ab.Tryz
open Go.Proofs
theorem someT_no {a:At}(h:errT a false≠0):someT a=([],[],[]):=by
 unfold someT
 split
 ·rfl
 ·rw[if_neg h]
structure TmS (h:H)(b5 b7:Nat)(a:At)(ss gg tt:List Int)(tm:Go.Ab.T V):Prop where
 t2:(Opd.t 2).ev tm=.ptr h.next 0
 t3:(Opd.t 3).ev tm=.ptr (h.next+1) 0
 t5:(Opd.t 5).ev tm=.ptr b5 0
 t6:(Opd.t 6).ev tm=.ptr (b5+1) 0
 t7:(Opd.t 7).ev tm=.ptr b7 0
 t8:(Opd.t 8).ev tm=.int .i64 (checkA a)
set_option maxHeartbeats 16000000 in
theorem ClockTruths_ev {h:H}(hw:h.wf){a:At}{C R G:V}(x:AtAt h C R G a){S Ga Tm:V}{ss gg tt:List Int}(t:TrAt h S Ga Tm ss gg tt):Ev fnG fastA (.fn 7 [] []) [.agg (atV a C R G),.agg [S,Ga,Tm]] h fun v _=>v=.bool true:=by
 refine Ev.gen fun Q q=>?_
 have oC:=x.c.one;have oR:=x.r.one;have oG:=x.g.one
 have oS:=t.s.one;have oGa:=t.g.one;have oTm:=t.t.one
 have h1:=t.s.lenE;have h2:=t.g.lenE;have h3:=t.t.lenE
 refine Ev_body (fd:=c7) rfl rfl rfl ?_
 obtain⟨z,hz⟩:∃z,(h.add (.cells .rw (atV a C R G))).add (.cells .rw [S,Ga,Tm])=z:=⟨_,rfl⟩
 have sz:h.Sub z:=by rw[←hz];exact(by repeat(first|assumption|exact H.Sub.refl (by assumption)|refine H.Sub.add ?_ _|refine H.Sub.set ?_ (by first|omega|(simp only[H.next_add,H.next_set,H.next_del]<;>omega)) (by first|omega|(simp only[H.next_add,H.next_set,H.next_del]<;>omega)) (by assumption) _))
 have nz:z.next=h.next+2:=by rw[←hz];simp only[H.next_add]
 have ga:z.get h.next=some (.cells .rw (atV a C R G)):=by rw[←hz];simp -implicitDefEqProofs(maxSteps:=999999)(disch:=first|with_reducible rfl|omega|(simp only[nA,nS,nD]<;>omega)|fail)only[go_sem]
 have gt:z.get (h.next+1)=some (.cells .rw [S,Ga,Tm]):=by rw[←hz];simp -implicitDefEqProofs(maxSteps:=999999)(disch:=first|with_reducible rfl|omega|(simp only[nA,nS,nD]<;>omega)|fail)only[go_sem]
 simp -implicitDefEqProofs(maxSteps:=999999)(disch:=first|with_reducible rfl|omega|(simp only[nA,nS,nD]<;>omega)|fail)only[c7,go_sem,oC,oR,oG,oS,oGa,oTm,hz,cells_of ga]
 try rw[hz]
 clear hz
 refine wide_ev sz.wf (x.mono sz) _ fun wd z1 s1 hwd=>?_
 cases wd with
 |true=>
  simp -implicitDefEqProofs(maxSteps:=999999)(disch:=first|with_reducible rfl|omega|(simp only[nA,nS,nD]<;>omega)|fail)only[go_sem,awake_eq]
  exact q _ _ rfl
 |false=>
 obtain⟨hg,hbd⟩:=hwd rfl
 clear hwd
 have hl:a.cks.length≤8∧a.rds.length≤12∧a.gps.length≤9:=by
  simp only[greatA,decide_eq_false_iff_not] at hg
  omega
 have sm:SmallA a:=⟨by omega,by omega,by omega⟩
 have s01:=sz.trans s1
 by_cases g1:(12:Int)<(ss.length:Int)
 ·simp -implicitDefEqProofs(maxSteps:=999999)(disch:=first|with_reducible rfl|omega|(simp only[nA,nS,nD]<;>omega)|fail)only[go_sem,cells_of (s1.get gt),h1,g1,awake_eq]
  exact q _ _ rfl
 by_cases g2:(12:Int)<(gg.length:Int)
 ·simp -implicitDefEqProofs(maxSteps:=999999)(disch:=first|with_reducible rfl|omega|(simp only[nA,nS,nD]<;>omega)|fail)only[go_sem,cells_of (s1.get gt),h1,h2,g1,g2,awake_eq]
  exact q _ _ rfl
 by_cases g3:(12:Int)<(tt.length:Int)
 ·simp -implicitDefEqProofs(maxSteps:=999999)(disch:=first|with_reducible rfl|omega|(simp only[nA,nS,nD]<;>omega)|fail)only[go_sem,cells_of (s1.get gt),h1,h2,h3,g1,g2,g3,awake_eq]
  exact q _ _ rfl
 simp -implicitDefEqProofs(maxSteps:=999999)(disch:=first|with_reducible rfl|omega|(simp only[nA,nS,nD]<;>omega)|fail)only[go_sem,cells_of (s1.get gt),cells_of (s1.get ga),h1,h2,h3,g1,g2,g3,oC,oR,oG]
 refine own_ev s01.wf (x.mono s01) sm _ fun C1 R1 G1 z2 n2=>?_
 have s2:=n2.s
 have s02:=s01.trans s2
 have s12:=s1.trans s2
 simp -implicitDefEqProofs(maxSteps:=999999)(disch:=first|with_reducible rfl|omega|(simp only[nA,nS,nD]<;>omega)|fail)only[go_sem,cells_of (s1.get ga),cells_of (s12.get ga),oC,oR,oG]
 refine theirs_ev s02.wf (x.mono s02) sm _ fun C2 R2 G2 z3 s3 x3=>?_
 have s03:=s02.trans s3
 have x1:=(n2.at_ sm).mono s3
 have o1C:=x1.c.one;have o1R:=x1.r.one;have o1G:=x1.g.one
 have o2C:=x3.c.one;have o2R:=x3.r.one;have o2G:=x3.g.one
 simp -implicitDefEqProofs(maxSteps:=999999)(disch:=first|with_reducible rfl|omega|(simp only[nA,nS,nD]<;>omega)|fail)only[go_sem,cells_of (s1.get ga),cells_of (s12.get ga),cells_of ((s12.trans s3).get ga),o1C,o1R,o1G,o2C,o2R,o2G,oC,oR,oG]
 obtain⟨z4,hz4⟩:∃z4,((((z3.add (.cells .rw [.int .i64 0,.int .i64 0,.nils,.nils,.nils])).add (.cells .rw [.int .i64 0,.int .i64 0,.nils,.nils,.nils])).set z3.next (.cells .rw (atV a C1 R1 G1))).set (z3.next+1) (.cells .rw (atV a C2 R2 G2)))=z4:=⟨_,rfl⟩
 have s4:z3.Sub z4:=by have:=s03.wf;rw[←hz4];exact(by repeat(first|assumption|exact H.Sub.refl (by assumption)|refine H.Sub.add ?_ _|refine H.Sub.set ?_ (by first|omega|(simp only[H.next_add,H.next_set,H.next_del]<;>omega)) (by first|omega|(simp only[H.next_add,H.next_set,H.next_del]<;>omega)) (by assumption) _))
 have g9:z4.get z3.next=some (.cells .rw (atV a C1 R1 G1)):=by rw[←hz4];simp -implicitDefEqProofs(maxSteps:=999999)(disch:=first|with_reducible rfl|omega|(simp only[nA,nS,nD]<;>omega)|fail)only[go_sem]
 have g10:z4.get (z3.next+1)=some (.cells .rw (atV a C2 R2 G2)):=by rw[←hz4];simp -implicitDefEqProofs(maxSteps:=999999)(disch:=first|with_reducible rfl|omega|(simp only[nA,nS,nD]<;>omega)|fail)only[go_sem]
 try rw[hz4]
 have s04:=s03.trans s4
 have gt4:=(s12.trans (s3.trans s4)).get gt
 have w4:=s04.wf
 have sd1:=(H.Sub.refl w4).add (.cells .rw (ss.map encI).flatten)
 have sd2:=sd1.add (.cells .rw (gg.map encI).flatten)
 have sd3:=sd2.add (.cells .rw (tt.map encI).flatten)
 have lS:∀l:List Int,l.length≤1000→(l.map encI).length≤9223372036854775807:=fun l hl=>by rw[List.length_map];omega
 have a1:SlAt (z4.add (.cells .rw (ss.map encI).flatten)) (.sl z4.next 0 ss.length (.fix ss.length)) 1 (ss.map encI):=SlAt.new _ rfl (by rw[List.length_map]) rfl (by simp[encI]) (lS _ (by omega))
 have a2:SlAt ((z4.add (.cells .rw (ss.map encI).flatten)).add (.cells .rw (gg.map encI).flatten)) (.sl (z4.next+1) 0 gg.length (.fix gg.length)) 1 (gg.map encI):=SlAt.new _ (by rw[H.next_add]) (by rw[List.length_map]) rfl (by simp[encI]) (lS _ (by omega))
 have a3:SlAt (((z4.add (.cells .rw (ss.map encI).flatten)).add (.cells .rw (gg.map encI).flatten)).add (.cells .rw (tt.map encI).flatten)) (.sl (z4.next+1+1) 0 tt.length (.fix tt.length)) 1 (tt.map encI):=SlAt.new _ (by rw[H.next_add,H.next_add]) (by rw[List.length_map]) rfl (by simp[encI]) (lS _ (by omega))
 have b1:=a1.mono (((H.Sub.refl sd1.wf).add (.cells .rw (gg.map encI).flatten)).add (.cells .rw (tt.map encI).flatten))
 have b2:=a2.mono ((H.Sub.refl sd2.wf).add (.cells .rw (tt.map encI).flatten))
 simp -implicitDefEqProofs(maxSteps:=999999)(disch:=first|with_reducible rfl|omega|(simp only[nA,nS,nD]<;>omega)|fail)only[go_sem,dupInt_ev w4 (t.s.mono s04) (by omega),dupInt_ev sd1.wf (t.g.mono (s04.trans sd1)) (by omega),dupInt_ev sd2.wf (t.t.mono (s04.trans sd2)) (by omega),cells_of gt4,cells_of (sd1.get gt4),cells_of (sd2.get gt4),cells_of (sd3.get gt4),cells_of (sd3.get g10),o2C,o2R,o2G]
 obtain⟨z5,hz5⟩:∃z5,(((z4.add (.cells .rw (ss.map encI).flatten)).add (.cells .rw (gg.map encI).flatten)).add (.cells .rw (tt.map encI).flatten)).add (.cells .rw [.sl z4.next 0 ss.length (.fix ss.length),.sl (z4.next+1) 0 gg.length (.fix gg.length),.sl (z4.next+1+1) 0 tt.length (.fix tt.length)])=z5:=⟨_,rfl⟩
 obtain⟨S',hS⟩:∃S',V.sl z4.next 0 ss.length (.fix ss.length)=S':=⟨_,rfl⟩
 obtain⟨G',hG⟩:∃G',V.sl (z4.next+1) 0 gg.length (.fix gg.length)=G':=⟨_,rfl⟩
 obtain⟨T',hT⟩:∃T',V.sl (z4.next+1+1) 0 tt.length (.fix tt.length)=T':=⟨_,rfl⟩
 have sd4:z4.Sub z5:=by rw[←hz5];exact sd3.add _
 have g7:z5.get (z4.next+1+1+1)=some (.cells .rw [S',G',T']):=by rw[←hz5,←hS,←hG,←hT];exact get_add_new (by simp only[H.next_add])
 have mine:TrAt z5 S' G' T' ss gg tt:=by
  rw[←hz5,←hS,←hG,←hT]
  exact⟨b1.mono ((H.Sub.refl sd3.wf).add _),b2.mono ((H.Sub.refl sd3.wf).add _),a3.mono ((H.Sub.refl sd3.wf).add _)⟩
 rw[hS,hG,hT] at hz5
 rw[hS,hG,hT,hz5]
 clear hz5 hS hG hT a1 a2 a3 b1 b2 sd1 sd2 sd3
 have s05:=s04.trans sd4
 have g10':=sd4.get g10
 simp -implicitDefEqProofs(maxSteps:=999999)(disch:=first|with_reducible rfl|omega|(simp only[nA,nS,nD]<;>omega)|fail)only[go_sem,cells_of g10',o2C,o2R,o2G]
 refine refCheck_ev s05.wf (x3.mono (s4.trans sd4)) sm _ fun z6 s6=>?_
 have s36:=s4.trans (sd4.trans s6)
 have s06:=s05.trans s6
 have x1':=x1.mono s36
 have x3':=x3.mono s36
 have xa:=x.mono s06
 have ga6:=(s12.trans (s3.trans s36)).get ga
 have gt6:=(s12.trans (s3.trans s36)).get gt
 have g95:=(sd4.trans s6).get g9
 have g105:=(sd4.trans s6).get g10
 have g75:=s6.get g7
 have mine6:=mine.mono s6
 clear g9 g10 g10' g7 mine x1 x3 ga gt n2 gt4 hz4
 simp -implicitDefEqProofs(maxSteps:=999999)(disch:=first|with_reducible rfl|omega|(simp only[nA,nS,nD]<;>omega)|fail)only[go_sem]
 obtain⟨K,hK⟩:∃K:St→Prop,∀s,K s↔∃tm z,s=⟨tm,z,[]⟩∧TmS h z3.next (z4.next+1+1+1) a ss gg tt tm∧(Opd.t 9).ev tm=.int .i64 (errT a false)∧(Opd.t 10).ev tm=.bool (fitsR a ss gg tt)∧z6.Sub z:=⟨_,fun s=>Iff.rfl⟩
 refine PB_cut (p:=checkA a=0) K ?_ ?_ ?_
 ·intro he
  have r:=checkA_iff.1 he
  obtain⟨hb1,hb2⟩:=wide_bds r (hbd r)
  have hb:=hbd r
  have eF:fitsR a ss gg tt=fitB a ss gg tt:=by unfold fitsR;simp[he]
  simp -implicitDefEqProofs(maxSteps:=999999)(disch:=first|with_reducible rfl|omega|(simp only[nA,nS,nD]<;>omega)|fail)only[go_sem,cells_of g105,cells_of gt6,o2C,o2R,o2G,oS,oGa,oTm]
  refine lawTold_ev s06.wf (t.mono s06) ⟨by omega,by omega,by omega⟩ _ fun S2 G2' T2 z7 s7 t7=>?_
  have oS2:=t7.s.one;have oG2:=t7.g.one;have oT2:=t7.t.one
  simp -implicitDefEqProofs(maxSteps:=999999)(disch:=first|with_reducible rfl|omega|(simp only[nA,nS,nD]<;>omega)|fail)only[go_sem,cells_of g105,cells_of gt6,cells_of (s7.get g105),cells_of (s7.get gt6),o2C,o2R,o2G,oS,oGa,oTm,oS2,oG2,oT2]
  refine refFits_ev (s06.trans s7).wf (x3'.mono s7) r t7 _ fun z8 s8=>?_
  have s68:=s7.trans s8
  simp -implicitDefEqProofs(maxSteps:=999999)(disch:=first|with_reducible rfl|omega|(simp only[nA,nS,nD]<;>omega)|fail)only[go_sem,cells_of g105,cells_of gt6,cells_of (s7.get g105),cells_of (s7.get gt6),cells_of (s68.get g105),cells_of (s68.get gt6),o2C,o2R,o2G,oS,oGa,oTm]
  refine All_ev (s06.trans s68).wf (x3'.mono s68) r (by omega) (by omega) (by omega) _ fun yl z9 s9 tr=>?_
  have s69:=s68.trans s9
  simp -implicitDefEqProofs(maxSteps:=999999)(disch:=first|with_reducible rfl|omega|(simp only[nA,nS,nD]<;>omega)|fail)only[go_sem,cells_of (s68.get g105),cells_of (s69.get g105),o2C,o2R,o2G,tr.one]
  refine Fitting_ev (s06.trans s69).wf (x3'.mono s69) r tr s9.next (by have:=allT_len a;omega) _ fun yf z10 s10 tf=>?_
  have s6a:=s69.trans s10
  have hlF:=tf.lenE
  by_cases hne:allC a=[]
  ·have hF0:((fitT a).length:Int)=0:=by rw[(fitT_nil r).2 hne];rfl
   have e7:errT a false=7:=errT_none r hne
   simp -implicitDefEqProofs(maxSteps:=999999)(disch:=first|with_reducible rfl|omega|(simp only[nA,nS,nD]<;>omega)|fail)only[go_sem,cells_of (s68.get g105),cells_of (s69.get g105),cells_of (s6a.get g105),o2C,o2R,o2G,tr.one,hlF,hF0]
   exact⟨rfl,(hK _).2 ⟨_,_,rfl,⟨(by simp[ev_c,ev_put]<;>rfl),(by simp[ev_c,ev_put]<;>rfl),(by simp[ev_c,ev_put]<;>rfl),(by simp[ev_c,ev_put]<;>rfl),(by simp[ev_c,ev_put]<;>rfl),(by simp[ev_c,ev_put]<;>rfl)⟩,by rw[e7];exact(by simp[ev_c,ev_put]<;>rfl),by rw[eF];exact(by simp[ev_c,ev_put]<;>rfl),s6a⟩⟩
  ·have hF0:¬((fitT a).length:Int)=0:=fun q=>fit_ne r hne (List.length_eq_zero_iff.1 (by omega))
   have e7:errT a false=checkA a:=by rw[errT_r r,he];unfold er7;rw[if_neg (fun q=>hne q.2)];rfl
   simp -implicitDefEqProofs(maxSteps:=999999)(disch:=first|with_reducible rfl|omega|(simp only[nA,nS,nD]<;>omega)|fail)only[go_sem,cells_of (s68.get g105),cells_of (s69.get g105),cells_of (s6a.get g105),o2C,o2R,o2G,tr.one,hlF,hF0]
   exact⟨rfl,(hK _).2 ⟨_,_,rfl,⟨(by simp[ev_c,ev_put]<;>rfl),(by simp[ev_c,ev_put]<;>rfl),(by simp[ev_c,ev_put]<;>rfl),(by simp[ev_c,ev_put]<;>rfl),(by simp[ev_c,ev_put]<;>rfl),(by simp[ev_c,ev_put]<;>rfl)⟩,by rw[e7];exact(by simp[ev_c,ev_put]<;>rfl),by rw[eF];exact(by simp[ev_c,ev_put]<;>rfl),s6a⟩⟩
 ·intro he
  have e7:errT a false=checkA a:=errT_no he false
  have eF:fitsR a ss gg tt=false:=by unfold fitsR;simp[he]
  simp -implicitDefEqProofs(maxSteps:=999999)(disch:=first|with_reducible rfl|omega|(simp only[nA,nS,nD]<;>omega)|fail)only[go_sem]
  exact⟨rfl,(hK _).2 ⟨_,_,rfl,⟨(by simp[ev_c,ev_put]<;>rfl),(by simp[ev_c,ev_put]<;>rfl),(by simp[ev_c,ev_put]<;>rfl),(by simp[ev_c,ev_put]<;>rfl),(by simp[ev_c,ev_put]<;>rfl),(by simp[ev_c,ev_put]<;>rfl)⟩,by rw[e7];exact(by simp[ev_c,ev_put]<;>rfl),by rw[eF];exact(by simp[ev_c,ev_put]<;>rfl),H.Sub.refl s06.wf⟩⟩
 ·rintro s hs
  obtain⟨tm,z7,rfl,⟨t2,t3,t5,t6,t7,t8⟩,t9,t10,s7⟩:=(hK s).1 hs
  have s07:=s06.trans s7
  have m7:=mine6.mono s7
  have oS':=m7.s.one;have oG':=m7.g.one;have oT':=m7.t.one
  simp -implicitDefEqProofs(maxSteps:=999999)(disch:=first|with_reducible rfl|omega|(simp only[nA,nS,nD]<;>omega)|fail)only[go_sem,t2,t3,t5,t6,t7,t8,t9,t10,cells_of (s7.get g95),cells_of (s7.get g75),o1C,o1R,o1G,oS',oG',oT']
  refine Fits_ev s07.wf (x1'.mono s7) m7 _ fun z8 s8=>?_
  have s78:=s7.trans s8
  simp -implicitDefEqProofs(maxSteps:=999999)(disch:=first|with_reducible rfl|omega|(simp only[nA,nS,nD]<;>omega)|fail)only[go_sem,t2,t3,t5,t6,t7,t8,t9,t10,cells_of (s78.get g95),o1C,o1R,o1G]
  refine Some_ev (s06.trans s78).wf (x1'.mono s78) _ fun S3 G3 T3 z9 s9 tr=>?_
  have s79:=s78.trans s9
  have oS3:=tr.s.one;have oG3:=tr.g.one;have oT3:=tr.t.one
  obtain⟨zA,hzA⟩:∃zA,z9.add (.cells .rw [S3,G3,T3])=zA:=⟨_,rfl⟩
  have sA:z9.Sub zA:=by rw[←hzA];exact(H.Sub.refl s9.wf).add _
  have g13:zA.get z9.next=some (.cells .rw [S3,G3,T3]):=by rw[←hzA];exact get_add_new rfl
  have s7A:=s79.trans sA
  have s7B:=s8.trans (s9.trans sA)
  have trA:=tr.mono sA
  have k1:=trA.s.lenE;have k2:=trA.g.lenE;have k3:=trA.t.lenE
  obtain⟨fl,hfl⟩:∃fl,fitsR a ss gg tt=fl:=⟨_,rfl⟩
  rw[hfl] at t10
  by_cases hu:errT a false=0
  ·have hc0:checkA a=0:=by
    by_cases h:checkA a=0
    ·exact h
    ·rw[errT_no h] at hu;exact absurd hu h
   have r:=checkA_iff.1 hc0
   have hne:allC a≠[]:=fun e=>by rw[errT_none r e] at hu;cases hu
   have hfit:=someT_fit r hne
   have hfb:(!fl==fl)=false:=by cases fl<;>rfl
   obtain⟨runs,y,tu,eS⟩:=someT_spec r hne
   have lens:(someT a).1.length≤1000∧(someT a).2.1.length≤1000∧(someT a).2.2.length≤1000:=by
    have:=tu.len
    have:=r.lens
    have:=r.evs
    rw[eS]
    simp only[List.length_map,List.length_range]
    omega
   simp -implicitDefEqProofs(maxSteps:=999999)(disch:=first|with_reducible rfl|omega|(simp only[nA,nS,nD]<;>omega)|fail)only[go_sem,t2,t3,t5,t6,t7,t8,t9,t10,hzA,hfl,hu,hc0,hfb,cells_of g13,k1,k2,k3,oS3,oG3,oT3,ne_eq,not_true_eq_false,cells_of ((s7.trans s7B).get g105),o2C,o2R,o2G]
   try rw[hzA]
   refine lawTold_ev (s07.trans s7B).wf trA lens _ fun S4 G4 T4 zB sB tB=>?_
   have oS4:=tB.s.one;have oG4:=tB.g.one;have oT4:=tB.t.one
   have s7C:=s7B.trans sB
   simp -implicitDefEqProofs(maxSteps:=999999)(disch:=first|with_reducible rfl|omega|(simp only[nA,nS,nD]<;>omega)|fail)only[go_sem,t2,t3,t5,t6,t7,t8,t9,t10,cells_of g13,cells_of (sB.get g13),cells_of ((s7.trans s7B).get g105),cells_of ((s7.trans s7C).get g105),o2C,o2R,o2G,oS3,oG3,oT3,oS4,oG4,oT4]
   refine refFits_ev (s07.trans s7C).wf (x3'.mono (s7.trans s7C)) r tB _ fun zD sD=>?_
   have s7D:=s7C.trans sD
   rw[hfit]
   simp -implicitDefEqProofs(maxSteps:=999999)(disch:=first|with_reducible rfl|omega|(simp only[nA,nS,nD]<;>omega)|fail)only[go_sem,t2,t3,t5,t6,t7,t8,t9,t10,cells_of g13,cells_of (sB.get g13),cells_of ((sB.trans sD).get g13),cells_of ((s7.trans s7B).get g105),cells_of ((s7.trans s7C).get g105),cells_of ((s7.trans s7D).get g105),cells_of ((s7.trans s7D).get g95),cells_of ((s7.trans s7D).get ga6),o1C,o1R,o1G,oC,oR,oG,o2C,o2R,o2G,oS3,oG3,oT3,oS4,oG4,oT4]
   refine same_ev (s07.trans s7D).wf (x1'.mono (s7.trans s7D)) (xa.mono (s7.trans s7D)) _ fun zX sX=>?_
   have s7X:=s7D.trans sX
   have q1:=fun R=>eqInt_ev (m7.s.mono s7X) (t.s.mono (s07.trans s7X)) R
   have q2:=fun R=>eqInt_ev (m7.g.mono s7X) (t.g.mono (s07.trans s7X)) R
   have q3:=fun R=>eqInt_ev (m7.t.mono s7X) (t.t.mono (s07.trans s7X)) R
   rw[sameB_iff.2 rfl]
   simp -implicitDefEqProofs(maxSteps:=999999)(disch:=first|with_reducible rfl|omega|(simp only[nA,nS,nD]<;>omega)|fail)only[go_sem,t2,t3,t5,t6,t7,cells_of ((s7.trans s7X).get g75),cells_of ((s7.trans s7X).get gt6),q1,q2,q3,awake_eq]
   exact q _ _ rfl
  ·have hfb:(!fl==fl)=false:=by cases fl<;>rfl
   have k1:q_len S3=some (.int .i64 0):=by have:=trA.s.lenE;rw[someT_no hu] at this;exact this
   have k2:q_len G3=some (.int .i64 0):=by have:=trA.g.lenE;rw[someT_no hu] at this;exact this
   have k3:q_len T3=some (.int .i64 0):=by have:=trA.t.lenE;rw[someT_no hu] at this;exact this
   have w0:wr .i64 0=0:=rfl
   simp -implicitDefEqProofs(maxSteps:=999999)(disch:=first|with_reducible rfl|omega|(simp only[nA,nS,nD]<;>omega)|fail)only[go_sem,t2,t3,t5,t6,t7,t8,t9,t10,hzA,hfl,hu,hfb,cells_of g13,k1,k2,k3,w0,Int.add_zero,Int.lt_irrefl,oS3,oG3,oT3,ne_eq,not_true_eq_false,not_false_eq_true,cells_of ((s7.trans s7B).get g95),cells_of ((s7.trans s7B).get ga6),o1C,o1R,o1G,oC,oR,oG,o2C,o2R,o2G]
   try rw[hzA]
   refine same_ev (s07.trans s7B).wf (x1'.mono (s7.trans s7B)) (xa.mono (s7.trans s7B)) _ fun zX sX=>?_
   have s7X:=s7B.trans sX
   have q1:=fun R=>eqInt_ev (m7.s.mono s7X) (t.s.mono (s07.trans s7X)) R
   have q2:=fun R=>eqInt_ev (m7.g.mono s7X) (t.g.mono (s07.trans s7X)) R
   have q3:=fun R=>eqInt_ev (m7.t.mono s7X) (t.t.mono (s07.trans s7X)) R
   rw[sameB_iff.2 rfl]
   simp -implicitDefEqProofs(maxSteps:=999999)(disch:=first|with_reducible rfl|omega|(simp only[nA,nS,nD]<;>omega)|fail)only[go_sem,t2,t3,t5,t6,t7,cells_of ((s7.trans s7X).get g75),cells_of ((s7.trans s7X).get gt6),q1,q2,q3,awake_eq]
   exact q _ _ rfl
end Go.Ab.Tryz
