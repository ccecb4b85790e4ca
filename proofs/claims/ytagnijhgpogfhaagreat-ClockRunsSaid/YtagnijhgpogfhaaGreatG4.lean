/- The law ClockRuns. Numbers that are wound off bytes: the contracts of Spool. A truth that is wound off numbers: Made. Slices that are made side by side. Made: the slices' invariants; an attic with its truth (plain). Made. Distances only sink (plain); wages. Equal, Eq, Dup of clocks, readings and gaps (printed by a program of ours). great, Own, same: attics as the law looks at them. theirs: an attic of the reference. The reference's Check of an attic: its parts. The reference's Check of an attic: the round over its clocks. Truths that fit, as the code asks for them (plain). What is known more of an attic, and truths (plain). Lists without neighbours that are the same; to what a clock can have been set, what it gains, what it shows (plain). Contracts: fits, as the law has it; Fits. Contracts: gaps that hold, readings that are missed (ref). Contracts: readings that are missed (ref). Own slices of an attic; copied, Read, Know. copied, checked, Read, Know. Contracts of the generic functions on integers. Lists of lists of integers in memory. Contracts: all times (ref). Contracts: all runs of all clocks (ref). Contract: a span made wider (ref). All truths of the reference, and those that fit (plain). What the truths of the reference tell is what the clocks tell (plain). Lists of truths in memory. Contract: all truths (ref). Contracts: the truths that fit, and what they tell of times (ref). Contracts: what truths tell of times, wages and numbers that are shown (ref; printed by a program of ours). Contracts: which was before; to what clocks were set (ref). Contract: whether an attic has more truths than are compared. Cells side by side; what times are told, for right attics (plain). The law ClockTimes. Contract: Fits. Contract: Some. Contract: a truth near another one. Contract: slices.Compact on integers, with what it leaves. Contracts: the sort of integers; numbers, settled. Contracts: Sets, Gains, Shows. Contract: Shows. -/
import Derived.Test.YtagnijhgpogfhaaGreatG2
import Derived.Test.YtagnijhgpogfhaaGreatAc7
set_option linter.unusedSimpArgs false
set_option linter.unusedVariables false
namespace Go.Ab
namespace Tryz
end Tryz
end Go.Ab
namespace Go.Ab
theorem Keeps.new {S:Nat→Prop}{h h':H}(hw:h.wf)(k:Keeps (fun c=>S c∨h.next≤c) h h'):Keeps S h h':=⟨k.1,fun c y e n=>k.2 c y e fun hs=>hs.elim n fun hge=>by have:=hw c y e;omega⟩
structure Sl6 (h0 z:H)(n1:Nat)(v:Nat→V)(sz:Nat→Nat)(rows:Nat→List (List V)):Prop where
 o:∀i,i<6→OwnC h0 z (v i) (sz i) (rows i)
 lo:∀i,i<6→∀b,blkOf (v i) b→n1≤b
 dj:∀i j,i<6→j<6→i≠j→∀b,blkOf (v i) b→¬blkOf (v j) b
variable {h0 z z':H} {n1:Nat} {v:Nat→V} {sz:Nat→Nat} {rows:Nat→List (List V)}
theorem Sl6.keep (k:Sl6 h0 z n1 v sz rows){S:Nat→Prop}(kk:Keeps S z z')(s:h0.Sub z')(hS:∀b,S b→b<n1):Sl6 h0 z' n1 v sz rows:=
 ⟨fun i hi=>(k.o i hi).keep kk s fun b hb q=>by have:=k.lo i hi b hb;have:=hS b q;omega,k.lo,k.dj⟩
theorem Sl6.rw (k:Sl6 h0 z n1 v sz rows){rows':Nat→List (List V)}(e:∀i,i<6→rows i=rows' i):Sl6 h0 z n1 v sz rows':=⟨fun i hi=>by rw[←e i hi];exact k.o i hi,k.lo,k.dj⟩
theorem Sl6.mono (k:Sl6 h0 z n1 v sz rows)(s:z.Sub z'):Sl6 h0 z' n1 v sz rows:=⟨fun i hi=>(k.o i hi).mono s,k.lo,k.dj⟩
def updF {α:Type}(f:Nat→α)(i:Nat)(x:α)(j:Nat):α:=if j=i then x else f j
theorem updF_same {α:Type}(f:Nat→α)(i:Nat)(x:α):updF f i x i=x:=if_pos rfl
theorem updF_other {α:Type}(f:Nat→α){i j:Nat}(x:α)(h:j≠i):updF f i x j=f j:=if_neg h
theorem Sl6.app (k:Sl6 h0 z n1 v sz rows){i:Nat}(hi:i<6){w:V}{r:List V}(o:OwnC h0 z' w (sz i) (rows i++[r]))(n:∀b,blkOf w b→blkOf (v i) b∨z.next≤b)(hz:n1≤z.next)(kk:Keeps (blkOf (v i)) z z'):
  Sl6 h0 z' n1 (updF v i w) sz (updF rows i (rows i++[r])):=by
 refine⟨fun j hj=>?_,fun j hj b hb=>?_,fun j l hj hl hjl b hb=>?_⟩
 ·by_cases e:j=i
  ·subst e;rw[updF_same,updF_same];exact o
  ·rw[updF_other _ _ e,updF_other _ _ e]
   exact(k.o j hj).keep kk o.1 fun b hb=>k.dj j i hj hi e b hb
 ·by_cases e:j=i
  ·subst e;rw[updF_same] at hb
   exact(n b hb).elim (k.lo j hi b) fun q=>by omega
  ·rw[updF_other _ _ e] at hb;exact k.lo j hj b hb
 ·by_cases e:j=i
  ·subst e
   rw[updF_same] at hb;rw[updF_other _ _ (Ne.symm hjl)]
   exact(n b hb).elim (k.dj j l hi hl hjl b) fun q w=>by have:=((k.o l hl).blk w).2.1;omega
  ·rw[updF_other _ _ e] at hb
   by_cases e2:l=i
   ·subst e2;rw[updF_same]
    intro w
    exact(n b w).elim (k.dj j l hj hi e b hb) fun q=>by have:=((k.o j hj).blk hb).2.1;omega
   ·rw[updF_other _ _ e2];exact k.dj j l hj hl hjl b hb
end Go.Ab
namespace Go.Ab.Tryz
open Go.Proofs
end Go.Ab.Tryz
namespace Go.Ab.Tryz
open Go.Proofs
def sz6:Nat→Nat
 |0=>4
 |1=>3
 |2=>4
 |_=>1
def rowsM (a:At)(ss gg tt:List Int):Nat→List (List V)
 |0=>a.cks.map encC
 |1=>a.rds.map encR
 |2=>a.gps.map encG
 |3=>ss.map encI
 |4=>gg.map encI
 |5=>tt.map encI
 |_=>[]
variable {h0:H} {p:Nat} {x:V} {n1 c0:Nat} {a a':At} {ss gg tt ss' gg' tt':List Int} {T T':Int} {v v':Nat→V} {z z5:H}
theorem getl {α:Type}{l:List α}{i:Nat}{x:α}(h:l[i]? =some x):i<l.length:=by
 rcases Nat.lt_or_ge i l.length with q|q
 ·exact q
 ·rw[List.getElem?_eq_none q] at h;cases h
def timeF (tt:List Int)(e:Nat):Int:=tt.getD e 0
theorem timeF_at {tt:List Int}{e:Nat}{t:Int}(h:tt[e]? =some t):timeF tt e=t:=by unfold timeF;rw[List.getD_eq_getElem?_getD,h];rfl
end Go.Ab.Tryz
namespace Go.Ab.Tryz
open Go.Proofs
theorem rowsUp {a a':At}{ss gg tt ss' gg' tt':List Int}{j:Nat}{r:List V}(h0:updF (rowsM a ss gg tt) j (rowsM a ss gg tt j++[r]) 0=a'.cks.map encC)(h1:updF (rowsM a ss gg tt) j (rowsM a ss gg tt j++[r]) 1=a'.rds.map encR)(h2:updF (rowsM a ss gg tt) j (rowsM a ss gg tt j++[r]) 2=a'.gps.map encG)
  (h3:updF (rowsM a ss gg tt) j (rowsM a ss gg tt j++[r]) 3=ss'.map encI) (h4:updF (rowsM a ss gg tt) j (rowsM a ss gg tt j++[r]) 4=gg'.map encI) (h5:updF (rowsM a ss gg tt) j (rowsM a ss gg tt j++[r]) 5=tt'.map encI):∀i,i<6→updF (rowsM a ss gg tt) j (rowsM a ss gg tt j++[r]) i=rowsM a' ss' gg' tt' i:=fun i hi=>by
 rcases(by omega:i=0∨i=1∨i=2∨i=3∨i=4∨i=5) with rfl|rfl|rfl|rfl|rfl|rfl
 ·exact h0
 ·exact h1
 ·exact h2
 ·exact h3
 ·exact h4
 ·exact h5
theorem rows0 {a:At}{ss gg tt:List Int}{c:Ck}:∀i,i<6→updF (rowsM a ss gg tt) 0 (rowsM a ss gg tt 0++[encC c]) i=rowsM {a with cks:=a.cks++[c]} ss gg tt i:=rowsUp (by simp[updF,rowsM]) (by simp[updF,rowsM]) (by simp[updF,rowsM]) (by simp[updF,rowsM]) (by simp[updF,rowsM]) (by simp[updF,rowsM])
theorem rows1 {a:At}{ss gg tt:List Int}{c:Rd}:∀i,i<6→updF (rowsM a ss gg tt) 1 (rowsM a ss gg tt 1++[encR c]) i=rowsM {a with rds:=a.rds++[c]} ss gg tt i:=rowsUp (by simp[updF,rowsM]) (by simp[updF,rowsM]) (by simp[updF,rowsM]) (by simp[updF,rowsM]) (by simp[updF,rowsM]) (by simp[updF,rowsM])
theorem rows2 {a:At}{ss gg tt:List Int}{c:Gp}:∀i,i<6→updF (rowsM a ss gg tt) 2 (rowsM a ss gg tt 2++[encG c]) i=rowsM {a with gps:=a.gps++[c]} ss gg tt i:=rowsUp (by simp[updF,rowsM]) (by simp[updF,rowsM]) (by simp[updF,rowsM]) (by simp[updF,rowsM]) (by simp[updF,rowsM]) (by simp[updF,rowsM])
end Go.Ab.Tryz
namespace Go.Ab.Tryz
open Go.Proofs
theorem low_le {L:List Int}(hL:L.length=25){a b:Nat}(ha:a<5)(hb:b<5)(v:Int){x y:Nat}(hx:x<5)(hy:y<5):mg (low L a b v) x y≤mg L x y:=by
 rw[mg_low hL ha hb v x y hx hy]
 split
 ·rename_i e;obtain⟨rfl,rfl⟩:=e;omega
 ·exact Int.le_refl _
theorem rdL_le {L:List Int}(hL:L.length=25){e:Nat}(he:e<5)(s:Int × Int){x y:Nat}(hx:x<5)(hy:y<5):mg (rdL L e s) x y≤mg L x y:=
 Int.le_trans (low_le (by rw[low_len];exact hL) he (by decide) _ hx hy) (low_le hL (by decide) he _ hx hy)
theorem readsL_le {a:At}(r:Right a){cnt:Nat→Bool}{k:Int}{x:Int × Int}{u v:Nat}(hu:u<5)(hv:v<5):∀{l:List Rd} {i:Nat} {L:List Int},(∀r∈l,r∈a.rds)→L.length=25→mg (readsL a cnt k x l i L).1 u v≤mg L u v
 |[],_,_,_,_=>Int.le_refl _
 |rd::l,i,L,hl,hL=>by
  obtain⟨yk,ye,ek,ee,hyk,hye,_⟩:=r.rd (hl rd (List.mem_cons_self ..))
  have hl':=fun x hx=>hl x (List.mem_cons_of_mem _ hx)
  rw[readsL]
  split
  ·exact readsL_le r hu hv hl' hL
  ·split
   ·exact Int.le_refl _
   ·exact Int.le_trans (readsL_le r hu hv hl' (by rw[rdL,low_len,low_len];exact hL)) (rdL_le hL (by omega) _ hu hv)
theorem readL_le {a:At}(r:Right a){cnt:Nat→Bool}{k:Int}{x:Int × Int}{L:List Int}(hL:In5 240 L)(ht:(readL a cnt k x L).2=true){u v:Nat}(hu:u<5)(hv:v<5):mg (readL a cnt k x L).1 u v≤mg L u v:=by
 have hin:=readsL_in (cnt:=cnt) (k:=k) (x:=x) (i:=0) r (fun y (hy:y∈a.rds)=>hy) hL
 unfold readL at ht⊢
 by_cases h1:(readsL a cnt k x a.rds 0 L).2=true
 ·rw[if_pos h1] at ht⊢
  exact Int.le_trans (((clos_spec (by decide) (by decide) hin).1 ht).2.2.1 u v hu hv) (readsL_le r hu hv (fun r hr=>hr) hL.len)
 ·rw[if_neg h1] at ht;cases ht
theorem moreL_le {a:At}(r:Right a){cnt:Nat→Bool}{u v:Nat}(hu:u<5)(hv:v<5):∀{n:Nat} {runs:Runs} {L:List Int},In5 240 L→∀t∈moreL a cnt n runs L,mg t.2 u v≤mg L u v
 |0,runs,L,h,t,ht=>by rw[moreL,List.mem_singleton] at ht;rw[ht];exact Int.le_refl _
 |n+1,runs,L,h,t,ht=>by
  unfold moreL at ht
  cases hc:a.cks[runs.length]? with
  |none=>rw[hc] at ht;cases ht
  |some c=>
   rw[hc] at ht
   simp only[List.mem_flatMap] at ht
   obtain⟨i,_,j,_,ht⟩:=ht
   split at ht
   ·rename_i hk;exact Int.le_trans (moreL_le r hu hv (readL_in r h hk) t ht) (readL_le r h hk hu hv)
   ·cases ht
theorem gaps_le {a:At}(r:Right a){u v:Nat}(hu:u<5)(hv:v<5):∀{l:List Gp} {L:List Int},(∀g∈l,g∈a.gps)→L.length=25→mg (l.foldl gapL L) u v≤mg L u v
 |[],_,_,_=>Int.le_refl _
 |g::l,L,hl,hL=>by
  obtain⟨f,t,e1,e2,hf,ht,_⟩:=r.gap (hl g (List.mem_cons_self ..))
  rw[List.foldl_cons]
  refine Int.le_trans (gaps_le r hu hv (fun x hx=>hl x (List.mem_cons_of_mem _ hx)) (by rw[gapL,low_len,low_len];exact hL)) ?_
  rw[gapL,e1,e2,Int.toNat_natCast,Int.toNat_natCast]
  exact Int.le_trans (low_le (by rw[low_len];exact hL) (by omega) (by omega) _ hu hv) (low_le hL (by omega) (by omega) _ hu hv)
theorem cases_diag {a:At}(r:Right a){cnt:Nat→Bool}{t:Runs × List Int}(ht:t∈casesL a cnt){u:Nat}(hu:u<5):mg t.2 u u=0:=by
 have hd:=(cases_sound r ht).1.diag u hu
 unfold casesL at ht
 split at ht
 ·rename_i hc
  have h1:=moreL_le r hu hu (free_clos_in r hc) t ht
  have h2:=((clos_spec (by decide) (by decide) (freeL_in r)).1 hc).2.2.1 u u hu hu
  have h3:mg (freeL a) u u≤mg (bsL a.mins) u u:=gaps_le r hu hu (fun g hg=>hg) (bsU_len _ _ _)
  rw[mg_bs _ hu hu,if_pos (.inr rfl)] at h3
  omega
 ·cases ht
end Go.Ab.Tryz
namespace Go.Ab.Tryz
open Go.Proofs
theorem allOne_flat {α:Type}{enc:α→List V}(h:∀a,allOne (enc a)=true)(l:List α):allOne (l.map enc).flatten=true:=by
 rw[allOne_eq]
 intro v hv
 obtain⟨r,hr,hvr⟩:=List.mem_flatten.1 hv
 obtain⟨a,_,rfl⟩:=List.mem_map.1 hr
 exact allOne_eq.1 (h a) v hvr
theorem SlAt.full {h:H}{b n:Nat}{k:Kd}{c:Cap}{sz:Nat}{rows:List (List V)}(hn:n=rows.length)(hb:h.get b=some (.cells k rows.flatten))(hsz:∀r∈rows,r.length=sz)(hl:rows.length≤1000000):SlAt h (.sl b 0 n c) sz rows:=by
 subst hn
 refine⟨hsz,by omega,.inr ⟨b,0,c,_,rfl,.inr (cells_of hb),getN_eq.2 ⟨?_,?_⟩⟩⟩
 ·rw[List.drop_zero,←flatten_len hsz,List.take_length]
 ·rw[flatten_len hsz];omega
theorem equalClock_ev {l r:List (List Int)}{h:H}{x y:V}(hx:SlAt h x 4 (l.map (List.map iv)))(hy:SlAt h y 4 (r.map (List.map iv))):
  Ev fnG fastA (.fn 155 [] []) [x,y] h fun v h'=>v=.bool (decide (l=r))∧h'=h:=by
 have hb:=hx.boundE
 refine Ev_body (fd:=c155) rfl rfl rfl ?_
 by_cases hl:l.length=r.length
 ·have hl':(l.length:Int)=(r.length:Int):=by omega
  simp -implicitDefEqProofs(maxSteps:=999999)(disch:=first|with_reducible rfl|omega|(simp only[nA,nS,nD]<;>omega)|fail)only[c155,go_sem,hx.lenE,hy.lenE,hl',ne_eq,not_true_eq_false]
  refine W_count l.length (fun i s=>∃tm,s=⟨tm,h,[]⟩∧(Opd.t 0).ev tm=x∧(Opd.t 1).ev tm=y∧(Opd.t 12).ev tm=.int .i64 (l.length:Int)∧(Opd.t 13).ev tm=.int .i64 (i:Int)∧l.take i=r.take i)
   ?_ ?_ (i:=0) (Nat.zero_le _) ⟨_,rfl,(by simp[ev_c,ev_put]<;>rfl),(by simp[ev_c,ev_put]<;>rfl),(by simp only[ev_put, ↓reduceIte,Nat.reduceEqDiff,hl]),(by simp only[ev_put];rfl),rfl⟩
  ·rintro i s hi ⟨tm,rfl,e0,e1,e12,e13,e9⟩
   have hi':(i:Int)<(l.length:Int):=by omega
   have hi2:i<r.length:=by omega
   obtain⟨b,o,c,cs,rfl,hc,hq,hg,hn,hn0⟩:=hx.at hi
   obtain⟨b2,o2,c2,cs2,rfl,hc2,hq2,hg2,hn2,hn02⟩:=hy.at hi2
   have h1:(l[i]=r[i])↔l.take (i+1)=r.take (i+1):=by
    rw[List.take_succ_eq_append_getElem hi,List.take_succ_eq_append_getElem hi2,e9];simp only[List.append_cancel_left_eq,List.cons.injEq,and_true]
   have hf:=q_feq_map l[i] r[i] (n:=4) (by simpa using hx.1 _ (List.mem_map_of_mem (List.getElem_mem hi))) (by simpa using hy.1 _ (List.mem_map_of_mem (List.getElem_mem hi2))) true
   by_cases he:l[i]=r[i]
   ·rw[he] at hf
    simp -implicitDefEqProofs(maxSteps:=999999)(disch:=first|with_reducible rfl|omega|(simp only[nA,nS,nD]<;>omega)|fail)only[go_sem,e0,e1,e12,e13,hi',hq (nat_cst i),hq2 (nat_cst i),hc,hc2,hg,hg2,hf,he,ngB,wr_succ]
    exact⟨_,rfl,(by simp[ev_c,ev_put,e0]<;>rfl),(by simp[ev_c,ev_put,e1]<;>rfl),(by simp[ev_c,ev_put,e12]<;>rfl),(by simp[ev_c,ev_put]<;>rfl),h1.1 he⟩
   ·simp -implicitDefEqProofs(maxSteps:=999999)(disch:=first|with_reducible rfl|omega|(simp only[nA,nS,nD]<;>omega)|fail)only[go_sem,e0,e1,e12,e13,hi',hq (nat_cst i),hq2 (nat_cst i),hc,hc2,hg,hg2,hf,he,ngB,wr_succ]
    rw[decide_eq_false]
    intro e;exact he (h1.2 (by rw[e]))
  ·rintro s ⟨tm,rfl,e0,e1,e12,e13,e9⟩
   simp -implicitDefEqProofs(maxSteps:=999999)(disch:=first|with_reducible rfl|omega|(simp only[nA,nS,nD]<;>omega)|fail)only[go_sem,e0,e1,e12,e13,Int.lt_irrefl]
   rw[decide_eq_true]
   rw[List.take_length,hl,List.take_length] at e9;exact e9
 ·have hl':¬(l.length:Int)=(r.length:Int):=by omega
  simp -implicitDefEqProofs(maxSteps:=999999)(disch:=first|with_reducible rfl|omega|(simp only[nA,nS,nD]<;>omega)|fail)only[c155,go_sem,hx.lenE,hy.lenE,hl',ne_eq,not_false_eq_true]
  rw[decide_eq_false]
  intro e;exact hl (by rw[e])
theorem eqClock_ev {l r:List (List Int)}{h:H}{x y:V}(hx:SlAt h x 4 (l.map (List.map iv)))(hy:SlAt h y 4 (r.map (List.map iv)))(Q:V→H→Prop):
  Ev fnG fastA (.fn 99 [] []) [x,y] h Q=Q (.bool (decide (l=r))) h:=by
 refine Ev.det (Ev_body (fd:=c99) rfl rfl rfl ?_) Q
 simp -implicitDefEqProofs(maxSteps:=999999)(disch:=first|with_reducible rfl|omega|(simp only[nA,nS,nD]<;>omega)|fail)only[c99,go_sem]
 refine(equalClock_ev hx hy).mono fun v h' hv=>?_
 obtain⟨rfl,rfl⟩:=hv
 simp -implicitDefEqProofs(maxSteps:=999999)(disch:=first|with_reducible rfl|omega|(simp only[nA,nS,nD]<;>omega)|fail)only[go_sem]
theorem equalReading_ev {l r:List (List Int)}{h:H}{x y:V}(hx:SlAt h x 3 (l.map (List.map iv)))(hy:SlAt h y 3 (r.map (List.map iv))):
  Ev fnG fastA (.fn 156 [] []) [x,y] h fun v h'=>v=.bool (decide (l=r))∧h'=h:=by
 have hb:=hx.boundE
 refine Ev_body (fd:=c156) rfl rfl rfl ?_
 by_cases hl:l.length=r.length
 ·have hl':(l.length:Int)=(r.length:Int):=by omega
  simp -implicitDefEqProofs(maxSteps:=999999)(disch:=first|with_reducible rfl|omega|(simp only[nA,nS,nD]<;>omega)|fail)only[c156,go_sem,hx.lenE,hy.lenE,hl',ne_eq,not_true_eq_false]
  refine W_count l.length (fun i s=>∃tm,s=⟨tm,h,[]⟩∧(Opd.t 0).ev tm=x∧(Opd.t 1).ev tm=y∧(Opd.t 12).ev tm=.int .i64 (l.length:Int)∧(Opd.t 13).ev tm=.int .i64 (i:Int)∧l.take i=r.take i)
   ?_ ?_ (i:=0) (Nat.zero_le _) ⟨_,rfl,(by simp[ev_c,ev_put]<;>rfl),(by simp[ev_c,ev_put]<;>rfl),(by simp only[ev_put, ↓reduceIte,Nat.reduceEqDiff,hl]),(by simp only[ev_put];rfl),rfl⟩
  ·rintro i s hi ⟨tm,rfl,e0,e1,e12,e13,e9⟩
   have hi':(i:Int)<(l.length:Int):=by omega
   have hi2:i<r.length:=by omega
   obtain⟨b,o,c,cs,rfl,hc,hq,hg,hn,hn0⟩:=hx.at hi
   obtain⟨b2,o2,c2,cs2,rfl,hc2,hq2,hg2,hn2,hn02⟩:=hy.at hi2
   have h1:(l[i]=r[i])↔l.take (i+1)=r.take (i+1):=by
    rw[List.take_succ_eq_append_getElem hi,List.take_succ_eq_append_getElem hi2,e9];simp only[List.append_cancel_left_eq,List.cons.injEq,and_true]
   have hf:=q_feq_map l[i] r[i] (n:=3) (by simpa using hx.1 _ (List.mem_map_of_mem (List.getElem_mem hi))) (by simpa using hy.1 _ (List.mem_map_of_mem (List.getElem_mem hi2))) true
   by_cases he:l[i]=r[i]
   ·rw[he] at hf
    simp -implicitDefEqProofs(maxSteps:=999999)(disch:=first|with_reducible rfl|omega|(simp only[nA,nS,nD]<;>omega)|fail)only[go_sem,e0,e1,e12,e13,hi',hq (nat_cst i),hq2 (nat_cst i),hc,hc2,hg,hg2,hf,he,ngB,wr_succ]
    exact⟨_,rfl,(by simp[ev_c,ev_put,e0]<;>rfl),(by simp[ev_c,ev_put,e1]<;>rfl),(by simp[ev_c,ev_put,e12]<;>rfl),(by simp[ev_c,ev_put]<;>rfl),h1.1 he⟩
   ·simp -implicitDefEqProofs(maxSteps:=999999)(disch:=first|with_reducible rfl|omega|(simp only[nA,nS,nD]<;>omega)|fail)only[go_sem,e0,e1,e12,e13,hi',hq (nat_cst i),hq2 (nat_cst i),hc,hc2,hg,hg2,hf,he,ngB,wr_succ]
    rw[decide_eq_false]
    intro e;exact he (h1.2 (by rw[e]))
  ·rintro s ⟨tm,rfl,e0,e1,e12,e13,e9⟩
   simp -implicitDefEqProofs(maxSteps:=999999)(disch:=first|with_reducible rfl|omega|(simp only[nA,nS,nD]<;>omega)|fail)only[go_sem,e0,e1,e12,e13,Int.lt_irrefl]
   rw[decide_eq_true]
   rw[List.take_length,hl,List.take_length] at e9;exact e9
 ·have hl':¬(l.length:Int)=(r.length:Int):=by omega
  simp -implicitDefEqProofs(maxSteps:=999999)(disch:=first|with_reducible rfl|omega|(simp only[nA,nS,nD]<;>omega)|fail)only[c156,go_sem,hx.lenE,hy.lenE,hl',ne_eq,not_false_eq_true]
  rw[decide_eq_false]
  intro e;exact hl (by rw[e])
theorem eqReading_ev {l r:List (List Int)}{h:H}{x y:V}(hx:SlAt h x 3 (l.map (List.map iv)))(hy:SlAt h y 3 (r.map (List.map iv)))(Q:V→H→Prop):
  Ev fnG fastA (.fn 100 [] []) [x,y] h Q=Q (.bool (decide (l=r))) h:=by
 refine Ev.det (Ev_body (fd:=c100) rfl rfl rfl ?_) Q
 simp -implicitDefEqProofs(maxSteps:=999999)(disch:=first|with_reducible rfl|omega|(simp only[nA,nS,nD]<;>omega)|fail)only[c100,go_sem]
 refine(equalReading_ev hx hy).mono fun v h' hv=>?_
 obtain⟨rfl,rfl⟩:=hv
 simp -implicitDefEqProofs(maxSteps:=999999)(disch:=first|with_reducible rfl|omega|(simp only[nA,nS,nD]<;>omega)|fail)only[go_sem]
theorem equalGap_ev {l r:List (List Int)}{h:H}{x y:V}(hx:SlAt h x 4 (l.map (List.map iv)))(hy:SlAt h y 4 (r.map (List.map iv))):
  Ev fnG fastA (.fn 157 [] []) [x,y] h fun v h'=>v=.bool (decide (l=r))∧h'=h:=by
 have hb:=hx.boundE
 refine Ev_body (fd:=c157) rfl rfl rfl ?_
 by_cases hl:l.length=r.length
 ·have hl':(l.length:Int)=(r.length:Int):=by omega
  simp -implicitDefEqProofs(maxSteps:=999999)(disch:=first|with_reducible rfl|omega|(simp only[nA,nS,nD]<;>omega)|fail)only[c157,go_sem,hx.lenE,hy.lenE,hl',ne_eq,not_true_eq_false]
  refine W_count l.length (fun i s=>∃tm,s=⟨tm,h,[]⟩∧(Opd.t 0).ev tm=x∧(Opd.t 1).ev tm=y∧(Opd.t 12).ev tm=.int .i64 (l.length:Int)∧(Opd.t 13).ev tm=.int .i64 (i:Int)∧l.take i=r.take i)
   ?_ ?_ (i:=0) (Nat.zero_le _) ⟨_,rfl,(by simp[ev_c,ev_put]<;>rfl),(by simp[ev_c,ev_put]<;>rfl),(by simp only[ev_put, ↓reduceIte,Nat.reduceEqDiff,hl]),(by simp only[ev_put];rfl),rfl⟩
  ·rintro i s hi ⟨tm,rfl,e0,e1,e12,e13,e9⟩
   have hi':(i:Int)<(l.length:Int):=by omega
   have hi2:i<r.length:=by omega
   obtain⟨b,o,c,cs,rfl,hc,hq,hg,hn,hn0⟩:=hx.at hi
   obtain⟨b2,o2,c2,cs2,rfl,hc2,hq2,hg2,hn2,hn02⟩:=hy.at hi2
   have h1:(l[i]=r[i])↔l.take (i+1)=r.take (i+1):=by
    rw[List.take_succ_eq_append_getElem hi,List.take_succ_eq_append_getElem hi2,e9];simp only[List.append_cancel_left_eq,List.cons.injEq,and_true]
   have hf:=q_feq_map l[i] r[i] (n:=4) (by simpa using hx.1 _ (List.mem_map_of_mem (List.getElem_mem hi))) (by simpa using hy.1 _ (List.mem_map_of_mem (List.getElem_mem hi2))) true
   by_cases he:l[i]=r[i]
   ·rw[he] at hf
    simp -implicitDefEqProofs(maxSteps:=999999)(disch:=first|with_reducible rfl|omega|(simp only[nA,nS,nD]<;>omega)|fail)only[go_sem,e0,e1,e12,e13,hi',hq (nat_cst i),hq2 (nat_cst i),hc,hc2,hg,hg2,hf,he,ngB,wr_succ]
    exact⟨_,rfl,(by simp[ev_c,ev_put,e0]<;>rfl),(by simp[ev_c,ev_put,e1]<;>rfl),(by simp[ev_c,ev_put,e12]<;>rfl),(by simp[ev_c,ev_put]<;>rfl),h1.1 he⟩
   ·simp -implicitDefEqProofs(maxSteps:=999999)(disch:=first|with_reducible rfl|omega|(simp only[nA,nS,nD]<;>omega)|fail)only[go_sem,e0,e1,e12,e13,hi',hq (nat_cst i),hq2 (nat_cst i),hc,hc2,hg,hg2,hf,he,ngB,wr_succ]
    rw[decide_eq_false]
    intro e;exact he (h1.2 (by rw[e]))
  ·rintro s ⟨tm,rfl,e0,e1,e12,e13,e9⟩
   simp -implicitDefEqProofs(maxSteps:=999999)(disch:=first|with_reducible rfl|omega|(simp only[nA,nS,nD]<;>omega)|fail)only[go_sem,e0,e1,e12,e13,Int.lt_irrefl]
   rw[decide_eq_true]
   rw[List.take_length,hl,List.take_length] at e9;exact e9
 ·have hl':¬(l.length:Int)=(r.length:Int):=by omega
  simp -implicitDefEqProofs(maxSteps:=999999)(disch:=first|with_reducible rfl|omega|(simp only[nA,nS,nD]<;>omega)|fail)only[c157,go_sem,hx.lenE,hy.lenE,hl',ne_eq,not_false_eq_true]
  rw[decide_eq_false]
  intro e;exact hl (by rw[e])
theorem eqGap_ev {l r:List (List Int)}{h:H}{x y:V}(hx:SlAt h x 4 (l.map (List.map iv)))(hy:SlAt h y 4 (r.map (List.map iv)))(Q:V→H→Prop):
  Ev fnG fastA (.fn 101 [] []) [x,y] h Q=Q (.bool (decide (l=r))) h:=by
 refine Ev.det (Ev_body (fd:=c101) rfl rfl rfl ?_) Q
 simp -implicitDefEqProofs(maxSteps:=999999)(disch:=first|with_reducible rfl|omega|(simp only[nA,nS,nD]<;>omega)|fail)only[c101,go_sem]
 refine(equalGap_ev hx hy).mono fun v h' hv=>?_
 obtain⟨rfl,rfl⟩:=hv
 simp -implicitDefEqProofs(maxSteps:=999999)(disch:=first|with_reducible rfl|omega|(simp only[nA,nS,nD]<;>omega)|fail)only[go_sem]
theorem dupClock_ev {h:H}{x:V}{l:List Ck}(hw:h.wf)(hx:SlAt h x 4 (l.map encC))(hl:l.length≤1000000)(Q:V→H→Prop):
  Ev fnG fastA (.fn 72 [] []) [x] h Q=Q (.sl h.next 0 l.length (.fix l.length)) (h.add (.cells .rw (l.map encC).flatten)):=by
 refine Ev.det (Ev_body (fd:=c72) rfl rfl rfl ?_) Q
 simp -implicitDefEqProofs(maxSteps:=999999)(disch:=first|with_reducible rfl|omega|(simp only[nA,nS,nD]<;>omega)|fail)only[c72,go_sem,hx.lenE,a_msl_0n]
 have:=dup_core (by_:=32) (z:=[.int .i64 0,.int .i64 0,.int .i64 0,.int .i64 0]) hx hw rfl (by omega) (allOne_flat (fun a=>rfl) l)
 rw[List.length_map] at this
 simp -implicitDefEqProofs(maxSteps:=999999)(disch:=first|with_reducible rfl|omega|(simp only[nA,nS,nD]<;>omega)|fail)only[go_sem,this]
theorem dupReading_ev {h:H}{x:V}{l:List Rd}(hw:h.wf)(hx:SlAt h x 3 (l.map encR))(hl:l.length≤1000000)(Q:V→H→Prop):
  Ev fnG fastA (.fn 73 [] []) [x] h Q=Q (.sl h.next 0 l.length (.fix l.length)) (h.add (.cells .rw (l.map encR).flatten)):=by
 refine Ev.det (Ev_body (fd:=c73) rfl rfl rfl ?_) Q
 simp -implicitDefEqProofs(maxSteps:=999999)(disch:=first|with_reducible rfl|omega|(simp only[nA,nS,nD]<;>omega)|fail)only[c73,go_sem,hx.lenE,a_msl_0n]
 have:=dup_core (by_:=24) (z:=[.int .i64 0,.int .i64 0,.int .i64 0]) hx hw rfl (by omega) (allOne_flat (fun a=>rfl) l)
 rw[List.length_map] at this
 simp -implicitDefEqProofs(maxSteps:=999999)(disch:=first|with_reducible rfl|omega|(simp only[nA,nS,nD]<;>omega)|fail)only[go_sem,this]
theorem dupGap_ev {h:H}{x:V}{l:List Gp}(hw:h.wf)(hx:SlAt h x 4 (l.map encG))(hl:l.length≤1000000)(Q:V→H→Prop):
  Ev fnG fastA (.fn 74 [] []) [x] h Q=Q (.sl h.next 0 l.length (.fix l.length)) (h.add (.cells .rw (l.map encG).flatten)):=by
 refine Ev.det (Ev_body (fd:=c74) rfl rfl rfl ?_) Q
 simp -implicitDefEqProofs(maxSteps:=999999)(disch:=first|with_reducible rfl|omega|(simp only[nA,nS,nD]<;>omega)|fail)only[c74,go_sem,hx.lenE,a_msl_0n]
 have:=dup_core (by_:=32) (z:=[.int .i64 0,.int .i64 0,.int .i64 0,.int .i64 0]) hx hw rfl (by omega) (allOne_flat (fun a=>rfl) l)
 rw[List.length_map] at this
 simp -implicitDefEqProofs(maxSteps:=999999)(disch:=first|with_reducible rfl|omega|(simp only[nA,nS,nD]<;>omega)|fail)only[go_sem,this]
end Go.Ab.Tryz
namespace Go.Ab.Tryz
open Go.Proofs
def greatA (a:At):Bool:=decide (8<a.cks.length∨12<a.rds.length∨9<a.gps.length)
theorem great_ev {h:H}(hw:h.wf){a:At}{C R G:V}(x:AtAt h C R G a)(Q:V→H→Prop)(q:∀h',h.Sub h'→Q (.bool (greatA a)) h'):Ev fnG fastA (.fn 54 [] []) [.agg (atV a C R G)] h Q:=by
 have q':=q _ ((by repeat(first|assumption|exact H.Sub.refl (by assumption)|refine H.Sub.add ?_ _|refine H.Sub.set ?_ (by first|omega|(simp only[H.next_add,H.next_set,H.next_del]<;>omega)) (by first|omega|(simp only[H.next_add,H.next_set,H.next_del]<;>omega)) (by assumption) _)):h.Sub (h.add (.cells .rw (atV a C R G))))
 have hlC:=x.c.lenE
 have hlR:=x.r.lenE
 have hlG:=x.g.lenE
 refine Ev_body (fd:=c54) rfl rfl rfl ?_
 by_cases k1:8<(a.cks.length:Int)
 ·simp -implicitDefEqProofs(maxSteps:=999999)(disch:=first|with_reducible rfl|omega|(simp only[nA,nS,nD]<;>omega)|fail)only[c54,go_sem,hlC,hlR,hlG,k1]
  have e:greatA a=true:=by simp only[greatA,decide_eq_true_eq];omega
  rw[e] at q';exact q'
 by_cases k2:12<(a.rds.length:Int)
 ·simp -implicitDefEqProofs(maxSteps:=999999)(disch:=first|with_reducible rfl|omega|(simp only[nA,nS,nD]<;>omega)|fail)only[c54,go_sem,hlC,hlR,hlG,k1,k2]
  have e:greatA a=true:=by simp only[greatA,decide_eq_true_eq];omega
  rw[e] at q';exact q'
 ·simp -implicitDefEqProofs(maxSteps:=999999)(disch:=first|with_reducible rfl|omega|(simp only[nA,nS,nD]<;>omega)|fail)only[c54,go_sem,hlC,hlR,hlG,k1,k2]
  have e:greatA a=decide (9<(a.gps.length:Int)):=by rw[Bool.eq_iff_iff];simp only[greatA,decide_eq_true_eq];omega
  rw[e] at q';exact q'
structure AtNew (h0 h:H)(C R G:V)(a:At):Prop where
 s:h0.Sub h
 is:∃b1 b2 b3,C=.sl b1 0 a.cks.length (.fix a.cks.length)∧R=.sl b2 0 a.rds.length (.fix a.rds.length)∧G=.sl b3 0 a.gps.length (.fix a.gps.length)∧h0.next≤b1∧b1<b2∧b2<b3∧b3<h.next∧
  h.get b1=some (.cells .rw (a.cks.map encC).flatten)∧h.get b2=some (.cells .rw (a.rds.map encR).flatten)∧h.get b3=some (.cells .rw (a.gps.map encG).flatten)
structure SmallA (a:At):Prop where
 c:a.cks.length≤100
 r:a.rds.length≤100
 g:a.gps.length≤100
theorem AtNew.at_ {h0 h:H}{C R G:V}{a:At}(n:AtNew h0 h C R G a)(l:SmallA a):AtAt h C R G a:=by
 obtain⟨b1,b2,b3,rfl,rfl,rfl,_,_,_,_,g1,g2,g3⟩:=n.is
 exact⟨SlAt.full (by simp) g1 (fun r hr=>by obtain⟨c,_,rfl⟩:=List.mem_map.1 hr;rfl) (by rw[List.length_map];have:=l.c;omega),
  SlAt.full (by simp) g2 (fun r hr=>by obtain⟨c,_,rfl⟩:=List.mem_map.1 hr;rfl) (by rw[List.length_map];have:=l.r;omega),
  SlAt.full (by simp) g3 (fun r hr=>by obtain⟨c,_,rfl⟩:=List.mem_map.1 hr;rfl) (by rw[List.length_map];have:=l.g;omega)⟩
set_option maxHeartbeats 1000000 in
theorem own_ev {h:H}(hw:h.wf){a:At}{C R G:V}(x:AtAt h C R G a)(l:SmallA a)(Q:V→H→Prop)(q:∀C' R' G' h',AtNew h h' C' R' G' a→Q (.agg (atV a C' R' G')) h'):Ev fnG fastA (.fn 17 [] []) [.agg (atV a C R G)] h Q:=by
 obtain⟨l1,l2,l3⟩:=l
 have oC:=x.c.one;have oR:=x.r.one;have oG:=x.g.one
 refine Ev_body (fd:=c17) rfl rfl rfl ?_
 have s2:h.Sub ((h.add (.cells .rw (atV a C R G))).add (.cells .rw [.int .i64 0,.int .i64 0,.nils,.nils,.nils])):=(by repeat(first|assumption|exact H.Sub.refl (by assumption)|refine H.Sub.add ?_ _|refine H.Sub.set ?_ (by first|omega|(simp only[H.next_add,H.next_set,H.next_del]<;>omega)) (by first|omega|(simp only[H.next_add,H.next_set,H.next_del]<;>omega)) (by assumption) _))
 have s3:=s2.add (.cells .rw (a.cks.map encC).flatten)
 have s4:=s3.add (.cells .rw (a.rds.map encR).flatten)
 have s5:=s4.add (.cells .rw (a.gps.map encG).flatten)
 simp -implicitDefEqProofs(maxSteps:=999999)(disch:=first|with_reducible rfl|omega|(simp only[nA,nS,nD]<;>omega)|fail)only[c17,go_sem,dupClock_ev s2.wf (x.c.mono s2) (by omega),dupReading_ev s3.wf (x.r.mono s3) (by omega),dupGap_ev s4.wf (x.g.mono s4) (by omega),evQ_ld]
 refine q _ _ _ _ ⟨(by repeat(first|assumption|exact H.Sub.refl (by assumption)|refine H.Sub.add ?_ _|refine H.Sub.set ?_ (by first|omega|(simp only[H.next_add,H.next_set,H.next_del]<;>omega)) (by first|omega|(simp only[H.next_add,H.next_set,H.next_del]<;>omega)) (by assumption) _)),h.next+1+1,h.next+1+1+1,h.next+1+1+1+1,rfl,rfl,rfl,by omega,by omega,by omega,by simp only[H.next_set,H.next_add];omega,?_,?_,?_⟩
 all_goals simp -implicitDefEqProofs(maxSteps:=999999)(disch:=first|with_reducible rfl|omega|(simp only[nA,nS,nD]<;>omega)|fail)only[go_sem]
def rowCk (c:Ck):List Int:=[c.sl,c.sh,c.gl,c.gh]
def rowRd (r:Rd):List Int:=[r.ck,r.ev,r.sh]
def rowGp (g:Gp):List Int:=[g.fr,g.to,g.lo,g.hi]
theorem map_inj {α:Type}{f:α→List Int}(hf:∀a b,f a=f b→a=b){a b:List α}:a.map f=b.map f↔a=b:=⟨fun h=>by
 induction a generalizing b with
 |nil=>cases b with
  |nil=>rfl
  |cons y b=>cases h
 |cons x a ih=>cases b with
  |nil=>cases h
  |cons y b=>
   simp only[List.map_cons,List.cons.injEq] at h
   rw[hf _ _ h.1,ih h.2],fun h=>by rw[h]⟩
theorem rowCk_inj (a b:Ck)(h:rowCk a=rowCk b):a=b:=by cases a;cases b;simpa[rowCk] using h
theorem rowRd_inj (a b:Rd)(h:rowRd a=rowRd b):a=b:=by cases a;cases b;simpa[rowRd] using h
theorem rowGp_inj (a b:Gp)(h:rowGp a=rowGp b):a=b:=by cases a;cases b;simpa[rowGp] using h
theorem rowCk_enc (l:List Ck):l.map encC=(l.map rowCk).map (List.map iv):=by rw[List.map_map];rfl
theorem rowRd_enc (l:List Rd):l.map encR=(l.map rowRd).map (List.map iv):=by rw[List.map_map];rfl
theorem rowGp_enc (l:List Gp):l.map encG=(l.map rowGp).map (List.map iv):=by rw[List.map_map];rfl
def sameB (a b:At):Bool:=decide (a.mins=b.mins)&&decide (a.evs=b.evs)&&decide (a.cks.map rowCk=b.cks.map rowCk)&&decide (a.rds.map rowRd=b.rds.map rowRd)&&decide (a.gps.map rowGp=b.gps.map rowGp)
theorem sameB_iff {a b:At}:sameB a b=true↔a=b:=by
 unfold sameB
 simp only[Bool.and_eq_true,decide_eq_true_eq,map_inj rowCk_inj,map_inj rowRd_inj,map_inj rowGp_inj]
 constructor
 ·rintro⟨⟨⟨⟨h1,h2⟩,h3⟩,h4⟩,h5⟩;cases a;cases b;simp_all
 ·rintro rfl;exact⟨⟨⟨⟨rfl,rfl⟩,rfl⟩,rfl⟩,rfl⟩
set_option maxHeartbeats 1000000 in
theorem same_ev {h:H}(hw:h.wf){a b:At}{C R G C' R' G':V}(x:AtAt h C R G a)(y:AtAt h C' R' G' b)(Q:V→H→Prop)(q:∀h',h.Sub h'→Q (.bool (sameB a b)) h'):Ev fnG fastA (.fn 35 [] []) [.agg (atV a C R G),.agg (atV b C' R' G')] h Q:=by
 have s2:h.Sub ((h.add (.cells .rw (atV a C R G))).add (.cells .rw (atV b C' R' G'))):=(by repeat(first|assumption|exact H.Sub.refl (by assumption)|refine H.Sub.add ?_ _|refine H.Sub.set ?_ (by first|omega|(simp only[H.next_add,H.next_set,H.next_del]<;>omega)) (by first|omega|(simp only[H.next_add,H.next_set,H.next_del]<;>omega)) (by assumption) _))
 have q':=q _ s2
 have x2:=x.mono s2
 have y2:=y.mono s2
 have xc:=x2.c;have yc:=y2.c;have xr:=x2.r;have yr:=y2.r;have xg:=x2.g;have yg:=y2.g
 rw[rowCk_enc] at xc yc
 rw[rowRd_enc] at xr yr
 rw[rowGp_enc] at xg yg
 have e1:=fun Q=>eqClock_ev xc yc Q
 have e2:=fun Q=>eqReading_ev xr yr Q
 have e3:=fun Q=>eqGap_ev xg yg Q
 refine Ev_body (fd:=c35) rfl rfl rfl ?_
 obtain⟨p1,h1⟩:∃p,decide (a.mins=b.mins)=p:=⟨_,rfl⟩
 obtain⟨p2,h2⟩:∃p,decide (a.evs=b.evs)=p:=⟨_,rfl⟩
 obtain⟨p3,h3⟩:∃p,decide (a.cks.map rowCk=b.cks.map rowCk)=p:=⟨_,rfl⟩
 obtain⟨p4,h4⟩:∃p,decide (a.rds.map rowRd=b.rds.map rowRd)=p:=⟨_,rfl⟩
 obtain⟨p5,h5⟩:∃p,decide (a.gps.map rowGp=b.gps.map rowGp)=p:=⟨_,rfl⟩
 rw[h3] at e1
 rw[h4] at e2
 rw[h5] at e3
 unfold sameB at q'
 rw[h1,h2,h3,h4,h5] at q'
 cases p1<;>cases p2<;>cases p3<;>cases p4<;>(simp -implicitDefEqProofs(maxSteps:=999999)(disch:=first|with_reducible rfl|omega|(simp only[nA,nS,nD]<;>omega)|fail)only[c35,go_sem,h1,h2,e1,e2,e3];exact q')
end Go.Ab.Tryz
namespace Go.Ab.Tryz
open Go.Proofs
structure ThI (h:H)(a:At)(C R G:V)(a':At)(v:Nat→V)(z:H):Prop where
 s:h.Sub z
 sl:Sl6 h z (h.next+3) v sz6 (rowsM a' [] [] [])
 g3:z.get (h.next+2)=some (.cells .rw [.int .i64 a.mins,.int .i64 a.evs,v 0,v 1,v 2])
 g1:z.get h.next=some (.cells .rw (atV a C R G))
 g2:z.get (h.next+1)=some (.cells .rw [.int .i64 0,.int .i64 0,.nils,.nils,.nils])
 nx:h.next+3≤z.next
theorem ThI.mono {h:H}{a:At}{C R G:V}{a':At}{v:Nat→V}{z z':H}(k:ThI h a C R G a' v z)(s:z.Sub z'):ThI h a C R G a' v z':=
 ⟨k.s.trans s,k.sl.mono s,s.get k.g3,s.get k.g1,s.get k.g2,Nat.le_trans k.nx s.next⟩
theorem ThI.put {h:H}(hw:h.wf){a:At}{C R G:V}{a' a'':At}{v v':Nat→V}{z z5:H}(k:ThI h a C R G a' v z){S:Nat→Prop}(kk:Keeps S z z5)(hS:∀b,S b→h.next+3≤b)(sl:Sl6 h z5 (h.next+3) v' sz6 (rowsM a'' [] [] [])):
  ThI h a C R G a'' v' (z5.set (h.next+2) (.cells .rw [.int .i64 a.mins,.int .i64 a.evs,v' 0,v' 1,v' 2])):=by
 have hn:∀b,b<h.next+3→¬S b:=fun b hb q=>by have:=hS b q;omega
 have s5:=(sl.o 0 (by omega)).1
 have l5:=kk.1
 have lz:=k.nx
 have sz:=s5.set (b:=h.next+2) (by omega) (by omega) hw (.cells .rw [.int .i64 a.mins,.int .i64 a.evs,v' 0,v' 1,v' 2])
 have k2:=Keeps.set z5 (h.next+2) (.cells .rw [.int .i64 a.mins,.int .i64 a.evs,v' 0,v' 1,v' 2])
 exact⟨sz,sl.keep k2 sz fun b hb=>by omega,get_set_same rfl,k2.2 _ _ (kk.2 _ _ k.g1 (hn _ (by omega))) (by omega),k2.2 _ _ (kk.2 _ _ k.g2 (hn _ (by omega))) (by omega),by rw[H.next_set];omega⟩
theorem take_at {α:Type}{l:List α}{i:Nat}(hi:i<l.length):l.take (i+1)=l.take i++[l[i]]:=List.take_succ_eq_append_getElem hi
set_option maxRecDepth 10000 in
set_option maxHeartbeats 4000000 in
theorem theirs_ev {h:H}(hw:h.wf){a:At}{C R G:V}(x:AtAt h C R G a)(l:SmallA a)(Q:V→H→Prop)(q:∀C' R' G' h',h.Sub h'→AtAt h' C' R' G' a→Q (.agg (atV a C' R' G')) h'):Ev fnG fastA (.fn 24 [] []) [.agg (atV a C R G)] h Q:=by
 obtain⟨l1,l2,l3⟩:=l
 have oC:=x.c.one;have oR:=x.r.one;have oG:=x.g.one
 have hlC:=x.c.lenE;have hlR:=x.r.lenE;have hlG:=x.g.lenE
 have k0:ThI h a C R G ⟨a.mins,a.evs,[],[],[]⟩ (fun _=>.nils) (((h.add (.cells .rw (atV a C R G))).add (.cells .rw [.int .i64 0,.int .i64 0,.nils,.nils,.nils])).add (.cells .rw [.int .i64 a.mins,.int .i64 a.evs,.nils,.nils,.nils])):=by
  refine⟨(by repeat(first|assumption|exact H.Sub.refl (by assumption)|refine H.Sub.add ?_ _|refine H.Sub.set ?_ (by first|omega|(simp only[H.next_add,H.next_set,H.next_del]<;>omega)) (by first|omega|(simp only[H.next_add,H.next_set,H.next_del]<;>omega)) (by assumption) _)),⟨fun i hi=>?_,fun i hi b hb=>(blkOf_nils hb).elim,fun i j _ _ _ b hb=>(blkOf_nils hb).elim⟩,by simp -implicitDefEqProofs(maxSteps:=999999)(disch:=first|with_reducible rfl|omega|(simp only[nA,nS,nD]<;>omega)|fail)only[go_sem],by simp -implicitDefEqProofs(maxSteps:=999999)(disch:=first|with_reducible rfl|omega|(simp only[nA,nS,nD]<;>omega)|fail)only[go_sem],by simp -implicitDefEqProofs(maxSteps:=999999)(disch:=first|with_reducible rfl|omega|(simp only[nA,nS,nD]<;>omega)|fail)only[go_sem],by simp only[H.next_add];omega⟩
  have:rowsM ⟨a.mins,a.evs,[],[],[]⟩ [] [] [] i=[]:=by rcases(by omega:i=0∨i=1∨i=2∨i=3∨i=4∨i=5) with rfl|rfl|rfl|rfl|rfl|rfl<;>rfl
  rw[this];exact(OwnSl.nil ((by repeat(first|assumption|exact H.Sub.refl (by assumption)|refine H.Sub.add ?_ _|refine H.Sub.set ?_ (by first|omega|(simp only[H.next_add,H.next_set,H.next_del]<;>omega)) (by first|omega|(simp only[H.next_add,H.next_set,H.next_del]<;>omega)) (by assumption) _))) _).c
 refine Ev_body (fd:=c24) rfl rfl rfl ?_
 simp -implicitDefEqProofs(maxSteps:=999999)(disch:=first|with_reducible rfl|omega|(simp only[nA,nS,nD]<;>omega)|fail)only[c24,go_sem,hlC]
 generalize((h.add (.cells .rw (atV a C R G))).add (.cells .rw [.int .i64 0,.int .i64 0,.nils,.nils,.nils])).add (.cells .rw [.int .i64 a.mins,.int .i64 a.evs,.nils,.nils,.nils])=h3 at k0⊢
 rw[show h.next+1+1=h.next+2 from rfl]
 refine W_count a.cks.length (fun i s=>∃tm z v,s=⟨tm,z,[]⟩∧ThI h a C R G ⟨a.mins,a.evs,a.cks.take i,[],[]⟩ v z∧(Opd.t 1).ev tm=.ptr h.next 0∧(Opd.t 2).ev tm=.ptr (h.next+1) 0∧(Opd.t 3).ev tm=.ptr (h.next+2) 0∧(Opd.t 16).ev tm=C∧(Opd.t 17).ev tm=.int .i64 (a.cks.length:Int)∧(Opd.t 18).ev tm=.int .i64 (i:Int)) ?_ ?_ (i:=0) (Nat.zero_le _)
  ⟨_,_,_,rfl,k0,(by simp[ev_c,ev_put]<;>rfl),(by simp[ev_c,ev_put]<;>rfl),(by simp[ev_c,ev_put]<;>rfl),(by simp[ev_c,ev_put]<;>rfl),(by simp[ev_c,ev_put]<;>rfl),(by simp[ev_c,ev_put]<;>rfl)⟩
 ·rintro i s hi ⟨tm,z,v,rfl,k,e1,e2,e3,e16,e17,e18⟩
  have hi':(i:Int)<(a.cks.length:Int):=by omega
  obtain⟨b,o,cc,cs,eC,hc,hq,hg,_,_⟩:=(x.c.mono k.s).at hi
  have hst:=take_at hi
  generalize a.cks[i]=c at hg hst
  simp only[encC] at hg
  have s1:=(H.Sub.refl k.s.wf).add (.cells .rw [.int .i64 c.sl,.int .i64 c.sh,.int .i64 c.gl,.int .i64 c.gh])
  have k1:=k.mono s1
  have g5:(z.add (.cells .rw [.int .i64 c.sl,.int .i64 c.sh,.int .i64 c.gl,.int .i64 c.gh])).get z.next=some (.cells .rw [.int .i64 c.sl,.int .i64 c.sh,.int .i64 c.gl,.int .i64 c.gh]):=get_add_new rfl
  have nz1:=H.next_add z (.cells .rw [.int .i64 c.sl,.int .i64 c.sh,.int .i64 c.gl,.int .i64 c.gh])
  obtain⟨z1,hz1⟩:∃z1,z.add (.cells .rw [.int .i64 c.sl,.int .i64 c.sh,.int .i64 c.gl,.int .i64 c.gh])=z1:=⟨_,rfl⟩
  rw[hz1] at s1 k1 g5 nz1
  have s2:=(H.Sub.refl k1.s.wf).add (.cells .rw [.int .i64 c.sl,.int .i64 c.sh,.int .i64 c.gl,.int .i64 c.gh])
  have k2:=k1.mono s2
  have o2:=k2.sl.o 0 (by decide)
  have sn:SlAt (z1.add (.cells .rw [.int .i64 c.sl,.int .i64 c.sh,.int .i64 c.gl,.int .i64 c.gh])) (.sl z1.next 0 1 (.fix 1)) 4 [encC c]:=SlAt.new _ rfl rfl rfl (by simp[encC]) (by simp)
  have lr:(rowsM ⟨a.mins,a.evs,a.cks.take i,[],[]⟩ [] [] [] 0).length≤100:=by show((a.cks.take i).map encC).length≤100;rw[List.length_map,List.length_take];omega
  simp -implicitDefEqProofs(maxSteps:=999999)(disch:=first|with_reducible rfl|omega|(simp only[nA,nS,nD]<;>omega)|fail)only[go_sem,e1,e2,e3,e16,e17,e18,hi',hq (nat_cst i),hc,hg,hz1,cells_of k1.g3,cells_of g5]
  generalize z1.add (.cells .rw [.int .i64 c.sl,.int .i64 c.sh,.int .i64 c.gl,.int .i64 c.gh])=z2 at s2 k2 o2 sn⊢
  refine o2.app1 (by_:=32) (r:=encC c) hw rfl (by decide) sn rfl (by omega) (by omega) fun w z5 o5 n5 k5=>?_
  have ow:=o5.one
  have nb:¬blkOf (v 0) (h.next+2):=fun hb=>by have:=k2.sl.lo 0 (by decide) _ hb;omega
  have g5':=k5.2 _ _ k2.g3 nb
  have km:=k2.put hw k5 (fun b hb=>k2.sl.lo 0 (by decide) b hb) ((k2.sl.app (by decide) o5 n5 k2.nx k5).rw rows0)
  simp -implicitDefEqProofs(maxSteps:=999999)(disch:=first|with_reducible rfl|omega|(simp only[nA,nS,nD]<;>omega)|fail)only[go_sem,e1,e2,e3,e16,e17,e18,g5',ow,cells_one ow,wr_succ]
  exact⟨_,_,_,rfl,by rw[hst];exact km,(by simp[ev_c,ev_put,e1]<;>rfl),(by simp[ev_c,ev_put,e2]<;>rfl),(by simp[ev_c,ev_put,e3]<;>rfl),(by simp[ev_c,ev_put,e16]<;>rfl),(by simp[ev_c,ev_put,e17]<;>rfl),(by simp[ev_c,ev_put]<;>rfl)⟩
 rintro s ⟨tm,z,v,rfl,k,e1,e2,e3,e16,e17,e18⟩
 have hi':¬((a.cks.length:Int)<(a.cks.length:Int)):=by omega
 rw[List.take_of_length_le (Nat.le_refl _)] at k
 simp -implicitDefEqProofs(maxSteps:=999999)(disch:=first|with_reducible rfl|omega|(simp only[nA,nS,nD]<;>omega)|fail)only[go_sem,e1,e2,e3,e16,e17,e18,hi',cells_of k.g1,hlR]
 refine W_count a.rds.length (fun i s=>∃tm z v,s=⟨tm,z,[]⟩∧ThI h a C R G ⟨a.mins,a.evs,a.cks,a.rds.take i,[]⟩ v z∧(Opd.t 1).ev tm=.ptr h.next 0∧(Opd.t 2).ev tm=.ptr (h.next+1) 0∧(Opd.t 3).ev tm=.ptr (h.next+2) 0∧(Opd.t 30).ev tm=R∧(Opd.t 31).ev tm=.int .i64 (a.rds.length:Int)∧(Opd.t 32).ev tm=.int .i64 (i:Int)) ?_ ?_ (i:=0) (Nat.zero_le _)
  ⟨_,_,_,rfl,k,(by simp[ev_c,ev_put,e1]<;>rfl),(by simp[ev_c,ev_put,e2]<;>rfl),(by simp[ev_c,ev_put,e3]<;>rfl),(by simp[ev_c,ev_put]<;>rfl),(by simp[ev_c,ev_put]<;>rfl),(by simp[ev_c,ev_put]<;>rfl)⟩
 ·clear k
  rintro i s hi ⟨tm,z,v,rfl,k,e1,e2,e3,e30,e31,e32⟩
  have hi':(i:Int)<(a.rds.length:Int):=by omega
  obtain⟨b,o,cc,cs,eC,hc,hq,hg,_,_⟩:=(x.r.mono k.s).at hi
  have hst:=take_at hi
  generalize a.rds[i]=c at hg hst
  simp only[encR] at hg
  have s1:=(H.Sub.refl k.s.wf).add (.cells .rw [.int .i64 c.ck,.int .i64 c.ev,.int .i64 c.sh])
  have k1:=k.mono s1
  have g5:(z.add (.cells .rw [.int .i64 c.ck,.int .i64 c.ev,.int .i64 c.sh])).get z.next=some (.cells .rw [.int .i64 c.ck,.int .i64 c.ev,.int .i64 c.sh]):=get_add_new rfl
  have nz1:=H.next_add z (.cells .rw [.int .i64 c.ck,.int .i64 c.ev,.int .i64 c.sh])
  obtain⟨z1,hz1⟩:∃z1,z.add (.cells .rw [.int .i64 c.ck,.int .i64 c.ev,.int .i64 c.sh])=z1:=⟨_,rfl⟩
  rw[hz1] at s1 k1 g5 nz1
  have s2:=(H.Sub.refl k1.s.wf).add (.cells .rw [.int .i64 c.ck,.int .i64 c.ev,.int .i64 c.sh])
  have k2:=k1.mono s2
  have o2:=k2.sl.o 1 (by decide)
  have sn:SlAt (z1.add (.cells .rw [.int .i64 c.ck,.int .i64 c.ev,.int .i64 c.sh])) (.sl z1.next 0 1 (.fix 1)) 3 [encR c]:=SlAt.new _ rfl rfl rfl (by simp[encR]) (by simp)
  have lr:(rowsM ⟨a.mins,a.evs,a.cks,a.rds.take i,[]⟩ [] [] [] 1).length≤100:=by show((a.rds.take i).map encR).length≤100;rw[List.length_map,List.length_take];omega
  simp -implicitDefEqProofs(maxSteps:=999999)(disch:=first|with_reducible rfl|omega|(simp only[nA,nS,nD]<;>omega)|fail)only[go_sem,e1,e2,e3,e30,e31,e32,hi',hq (nat_cst i),hc,hg,hz1,cells_of k1.g3,cells_of g5]
  generalize z1.add (.cells .rw [.int .i64 c.ck,.int .i64 c.ev,.int .i64 c.sh])=z2 at s2 k2 o2 sn⊢
  refine o2.app1 (by_:=24) (r:=encR c) hw rfl (by decide) sn rfl (by omega) (by omega) fun w z5 o5 n5 k5=>?_
  have ow:=o5.one
  have nb:¬blkOf (v 1) (h.next+2):=fun hb=>by have:=k2.sl.lo 1 (by decide) _ hb;omega
  have g5':=k5.2 _ _ k2.g3 nb
  have km:=k2.put hw k5 (fun b hb=>k2.sl.lo 1 (by decide) b hb) ((k2.sl.app (by decide) o5 n5 k2.nx k5).rw rows1)
  simp -implicitDefEqProofs(maxSteps:=999999)(disch:=first|with_reducible rfl|omega|(simp only[nA,nS,nD]<;>omega)|fail)only[go_sem,e1,e2,e3,e30,e31,e32,g5',ow,cells_one ow,wr_succ]
  exact⟨_,_,_,rfl,by rw[hst];exact km,(by simp[ev_c,ev_put,e1]<;>rfl),(by simp[ev_c,ev_put,e2]<;>rfl),(by simp[ev_c,ev_put,e3]<;>rfl),(by simp[ev_c,ev_put,e30]<;>rfl),(by simp[ev_c,ev_put,e31]<;>rfl),(by simp[ev_c,ev_put]<;>rfl)⟩
 clear k
 rintro s ⟨tm,z,v,rfl,k,e1,e2,e3,e30,e31,e32⟩
 have hi':¬((a.rds.length:Int)<(a.rds.length:Int)):=by omega
 rw[List.take_of_length_le (Nat.le_refl _)] at k
 simp -implicitDefEqProofs(maxSteps:=999999)(disch:=first|with_reducible rfl|omega|(simp only[nA,nS,nD]<;>omega)|fail)only[go_sem,e1,e2,e3,e30,e31,e32,hi',cells_of k.g1,hlG]
 refine W_count a.gps.length (fun i s=>∃tm z v,s=⟨tm,z,[]⟩∧ThI h a C R G ⟨a.mins,a.evs,a.cks,a.rds,a.gps.take i⟩ v z∧(Opd.t 1).ev tm=.ptr h.next 0∧(Opd.t 2).ev tm=.ptr (h.next+1) 0∧(Opd.t 3).ev tm=.ptr (h.next+2) 0∧(Opd.t 44).ev tm=G∧(Opd.t 45).ev tm=.int .i64 (a.gps.length:Int)∧(Opd.t 46).ev tm=.int .i64 (i:Int)) ?_ ?_ (i:=0) (Nat.zero_le _)
  ⟨_,_,_,rfl,k,(by simp[ev_c,ev_put,e1]<;>rfl),(by simp[ev_c,ev_put,e2]<;>rfl),(by simp[ev_c,ev_put,e3]<;>rfl),(by simp[ev_c,ev_put]<;>rfl),(by simp[ev_c,ev_put]<;>rfl),(by simp[ev_c,ev_put]<;>rfl)⟩
 ·clear k
  rintro i s hi ⟨tm,z,v,rfl,k,e1,e2,e3,e44,e45,e46⟩
  have hi':(i:Int)<(a.gps.length:Int):=by omega
  obtain⟨b,o,cc,cs,eC,hc,hq,hg,_,_⟩:=(x.g.mono k.s).at hi
  have hst:=take_at hi
  generalize a.gps[i]=c at hg hst
  simp only[encG] at hg
  have s1:=(H.Sub.refl k.s.wf).add (.cells .rw [.int .i64 c.fr,.int .i64 c.to,.int .i64 c.lo,.int .i64 c.hi])
  have k1:=k.mono s1
  have g5:(z.add (.cells .rw [.int .i64 c.fr,.int .i64 c.to,.int .i64 c.lo,.int .i64 c.hi])).get z.next=some (.cells .rw [.int .i64 c.fr,.int .i64 c.to,.int .i64 c.lo,.int .i64 c.hi]):=get_add_new rfl
  have nz1:=H.next_add z (.cells .rw [.int .i64 c.fr,.int .i64 c.to,.int .i64 c.lo,.int .i64 c.hi])
  obtain⟨z1,hz1⟩:∃z1,z.add (.cells .rw [.int .i64 c.fr,.int .i64 c.to,.int .i64 c.lo,.int .i64 c.hi])=z1:=⟨_,rfl⟩
  rw[hz1] at s1 k1 g5 nz1
  have s2:=(H.Sub.refl k1.s.wf).add (.cells .rw [.int .i64 c.fr,.int .i64 c.to,.int .i64 c.lo,.int .i64 c.hi])
  have k2:=k1.mono s2
  have o2:=k2.sl.o 2 (by decide)
  have sn:SlAt (z1.add (.cells .rw [.int .i64 c.fr,.int .i64 c.to,.int .i64 c.lo,.int .i64 c.hi])) (.sl z1.next 0 1 (.fix 1)) 4 [encG c]:=SlAt.new _ rfl rfl rfl (by simp[encG]) (by simp)
  have lr:(rowsM ⟨a.mins,a.evs,a.cks,a.rds,a.gps.take i⟩ [] [] [] 2).length≤100:=by show((a.gps.take i).map encG).length≤100;rw[List.length_map,List.length_take];omega
  simp -implicitDefEqProofs(maxSteps:=999999)(disch:=first|with_reducible rfl|omega|(simp only[nA,nS,nD]<;>omega)|fail)only[go_sem,e1,e2,e3,e44,e45,e46,hi',hq (nat_cst i),hc,hg,hz1,cells_of k1.g3,cells_of g5]
  generalize z1.add (.cells .rw [.int .i64 c.fr,.int .i64 c.to,.int .i64 c.lo,.int .i64 c.hi])=z2 at s2 k2 o2 sn⊢
  refine o2.app1 (by_:=32) (r:=encG c) hw rfl (by decide) sn rfl (by omega) (by omega) fun w z5 o5 n5 k5=>?_
  have ow:=o5.one
  have nb:¬blkOf (v 2) (h.next+2):=fun hb=>by have:=k2.sl.lo 2 (by decide) _ hb;omega
  have g5':=k5.2 _ _ k2.g3 nb
  have km:=k2.put hw k5 (fun b hb=>k2.sl.lo 2 (by decide) b hb) ((k2.sl.app (by decide) o5 n5 k2.nx k5).rw rows2)
  simp -implicitDefEqProofs(maxSteps:=999999)(disch:=first|with_reducible rfl|omega|(simp only[nA,nS,nD]<;>omega)|fail)only[go_sem,e1,e2,e3,e44,e45,e46,g5',ow,cells_one ow,wr_succ]
  exact⟨_,_,_,rfl,by rw[hst];exact km,(by simp[ev_c,ev_put,e1]<;>rfl),(by simp[ev_c,ev_put,e2]<;>rfl),(by simp[ev_c,ev_put,e3]<;>rfl),(by simp[ev_c,ev_put,e44]<;>rfl),(by simp[ev_c,ev_put,e45]<;>rfl),(by simp[ev_c,ev_put]<;>rfl)⟩
 rintro s ⟨tm,z,v,rfl,k,e1,e2,e3,e44,e45,e46⟩
 have hi':¬((a.gps.length:Int)<(a.gps.length:Int)):=by omega
 rw[List.take_of_length_le (Nat.le_refl _)] at k
 have y0:=(k.sl.o 0 (by decide)).one;have y1:=(k.sl.o 1 (by decide)).one;have y2:=(k.sl.o 2 (by decide)).one
 have lz:=k.nx
 simp -implicitDefEqProofs(maxSteps:=999999)(disch:=first|with_reducible rfl|omega|(simp only[nA,nS,nD]<;>omega)|fail)only[go_sem,e1,e2,e3,e44,e45,e46,hi',cells_of k.g1,cells_of k.g3,k.g2,y0,y1,y2]
 have s7:=k.s.set (b:=h.next+1) (by omega) (by omega) hw (.cells .rw [.int .i64 a.mins,.int .i64 a.evs,v 0,v 1,v 2])
 have sl:=k.sl.keep (Keeps.set z (h.next+1) (.cells .rw [.int .i64 a.mins,.int .i64 a.evs,v 0,v 1,v 2])) s7 fun b hb=>by omega
 refine q _ _ _ _ s7 ⟨(sl.o 0 (by decide)).sl ?_,(sl.o 1 (by decide)).sl ?_,(sl.o 2 (by decide)).sl ?_⟩
 ·show(a.cks.map encC).length≤_;rw[List.length_map];omega
 ·show(a.rds.map encR).length≤_;rw[List.length_map];omega
 ·show(a.gps.map encG).length≤_;rw[List.length_map];omega
end Go.Ab.Tryz
namespace Go.Ab.Tryz
open Go.Proofs
theorem off_eq (h:H)(n lo hi:Int)(Q:V→H→Prop):Ev fnG fastA (.fn 91 [] []) [.int .i64 n,.int .i64 lo,.int .i64 hi] h Q=Q (.bool (!inB n lo hi)) h:=by
 refine Ev.det ?_ Q
 refine Ev_body (fd:=c91) rfl rfl rfl ?_
 by_cases h1:n<lo
 ·have e:(!inB n lo hi)=true:=by
   have:¬lo≤n:=by omega
   simp[inB,this]
  rw[e]
  simp -implicitDefEqProofs(maxSteps:=999999)(disch:=first|with_reducible rfl|omega|(simp only[nA,nS,nD]<;>omega)|fail)only[c91,go_sem,h1]
 ·have e:(!inB n lo hi)=decide (hi<n):=by
   have h2:lo≤n:=by omega
   rw[Bool.eq_iff_iff];simp[inB,h2]
  rw[e]
  simp -implicitDefEqProofs(maxSteps:=999999)(disch:=first|with_reducible rfl|omega|(simp only[nA,nS,nD]<;>omega)|fail)only[c91,go_sem,h1]
theorem far_eq (h:H)(lo hi m:Int)(hm:0≤m∧m≤1000)(Q:V→H→Prop):Ev fnG fastA (.fn 92 [] []) [.agg [.int .i64 lo,.int .i64 hi],.int .i64 m] h Q=Q (.bool (!within lo hi m)) (h.add (.cells .rw [.int .i64 lo,.int .i64 hi])):=by
 refine Ev.det ?_ Q
 refine Ev_body (fd:=c92) rfl rfl rfl ?_
 have w:wr .i64 (0-m)= -m:=by rw[wr_in (by omega) (by omega)];omega
 cases h1:inB lo (-m) m with
 |true=>
  have e:within lo hi m=inB hi (-m) m:=by rw[within,h1,Bool.true_and]
  rw[e]
  simp -implicitDefEqProofs(maxSteps:=999999)(disch:=first|with_reducible rfl|omega|(simp only[nA,nS,nD]<;>omega)|fail)only[c92,go_sem,off_eq,w,h1]
 |false=>
  have e:within lo hi m=false:=by rw[within,h1,Bool.false_and]
  rw[e]
  simp -implicitDefEqProofs(maxSteps:=999999)(disch:=first|with_reducible rfl|omega|(simp only[nA,nS,nD]<;>omega)|fail)only[c92,go_sem,off_eq,w,h1]
end Go.Ab.Tryz
namespace Go.Ab.Tryz
open Go.Proofs
def lg2 (lo hi m:Int):Bool:=within lo hi m&&decide (4<hi-lo)
def Ck.lg (c:Ck):Bool:=lg2 c.sl c.sh 60||lg2 c.gl c.gh 30
structure RC (h:H)(a:At)(C R G:V)(tm:T V)(z:H)(b3 b4 b5 b6:Bool):Prop where
 s:h.Sub z
 g1:z.get h.next=some (.cells .rw (atV a C R G))
 t1:(Opd.t 1).ev tm=.ptr h.next 0
 t3:(Opd.t 3).ev tm=.bool b3
 t4:(Opd.t 4).ev tm=.bool b4
 t5:(Opd.t 5).ev tm=.bool b5
 t6:(Opd.t 6).ev tm=.bool b6
def RCs (h:H)(a:At)(C R G:V)(t:Nat)(i:Nat)(b3 b4 b5 b6:Bool)(s:St):Prop:=∃tm z,s=⟨tm,z,[]⟩∧RC h a C R G tm z b3 b4 b5 b6∧(Opd.t t).ev tm=.int .i64 (i:Int)
def RCp (h:H)(a:At)(C R G:V)(t:Nat)(i:Nat)(p:Nat)(cs:List V)(b3 b4 b5 b6:Bool)(s:St):Prop:=∃tm z b,s=⟨tm,z,[]⟩∧RC h a C R G tm z b3 b4 b5 b6∧(Opd.t t).ev tm=.int .i64 (i:Int)∧(Opd.t p).ev tm=.ptr b 0∧z.get b=some (.cells .rw cs)
theorem RC.sub {h:H}{a:At}{C R G:V}{tm:Go.Ab.T V}{z z':H}{b3 b4 b5 b6:Bool}(k:RC h a C R G tm z b3 b4 b5 b6)(s:z.Sub z'):h.Sub z'∧z'.get h.next=some (.cells .rw (atV a C R G)):=⟨k.s.trans s,s.get k.g1⟩
theorem Ck.lg_eq (c:Ck):c.lg=((within c.sl c.sh 60&&decide (4<c.sh-c.sl))||(within c.gl c.gh 30&&decide (4<c.gh-c.gl))):=rfl
theorem Ck.ord_eq (c:Ck):(!c.ord)=(decide (c.sh<c.sl)||decide (c.gh<c.gl)):=by
 rw[Bool.eq_iff_iff];simp[Ck.ord]<;>omega
theorem lg_sm:∀{l:List Ck},l.all Ck.bd=true→l.any Ck.lg= !(l.all Ck.sm)
 |[],_=>rfl
 |c::l,h=>by
  rw[List.all_cons,Bool.and_eq_true] at h
  rw[List.any_cons,List.all_cons,lg_sm h.2,Bool.not_and]
  congr 1
  have h1:=h.1
  rw[Ck.bd,Bool.and_eq_true] at h1
  rw[c.lg_eq,h1.1,h1.2,Bool.true_and,Bool.true_and]
  rw[Bool.eq_iff_iff];simp[Ck.sm]<;>omega
theorem chk_of {a:At}(hs:a.sz=true):checkA a=if(!(a.cks.all Ck.bd)|| !(a.rds.all Rd.bd)|| !(a.gps.all Gp.bd))=true then 3 else if(!(a.rds.all a.rdOk)|| !(a.gps.all a.gpOk))=true then 1 else if(!(a.cks.all Ck.ord)|| !(a.gps.all Gp.ord))=true then 4 else if a.cks.any Ck.lg=true then 10 else 0:=by
 unfold checkA
 rw[hs]
 cases h1:a.cks.all Ck.bd
 ·simp
 ·rw[lg_sm h1]
  cases a.rds.all Rd.bd<;>cases a.gps.all Gp.bd<;>cases a.rds.all a.rdOk<;>cases a.gps.all a.gpOk<;>cases a.cks.all Ck.ord<;>cases a.gps.all Gp.ord<;>cases a.cks.all Ck.sm<;>rfl
set_option maxRecDepth 10000 in
set_option maxHeartbeats 8000000 in
theorem refCheck_ev {h:H}(hw:h.wf){a:At}{C R G:V}(x:AtAt h C R G a)(l:SmallA a)(Q:V→H→Prop)(q:∀h',h.Sub h'→Q (.int .i64 (checkA a)) h'):Ev fnG fastA (.fn 25 [] []) [.agg (atV a C R G)] h Q:=by
 obtain⟨l1,l2,l3⟩:=l
 have oC:=x.c.one;have oR:=x.r.one;have oG:=x.g.one
 have hlC:=x.c.lenE;have hlR:=x.r.lenE;have hlG:=x.g.lenE
 have s1:h.Sub (h.add (.cells .rw (atV a C R G))):=(by repeat(first|assumption|exact H.Sub.refl (by assumption)|refine H.Sub.add ?_ _|refine H.Sub.set ?_ (by first|omega|(simp only[H.next_add,H.next_set,H.next_del]<;>omega)) (by first|omega|(simp only[H.next_add,H.next_set,H.next_del]<;>omega)) (by assumption) _))
 have bad:a.sz=false→Q (.int .i64 2) (h.add (.cells .rw (atV a C R G))):=fun e=>by
  have:=q _ s1
  rwa[checkA,if_pos e] at this
 refine Ev_body (fd:=c25) rfl rfl rfl ?_
 by_cases hsz:a.sz=true
 case neg=>
  have hsz':a.sz=false:=by simpa using hsz
  have b:=bad hsz'
  unfold At.sz at hsz'
  cases p1:inB a.mins 1 240 with
  |false=>simp -implicitDefEqProofs(maxSteps:=999999)(disch:=first|with_reducible rfl|omega|(simp only[nA,nS,nD]<;>omega)|fail)only[c25,go_sem,off_eq,p1];exact b
  |true=>
   cases p2:inB a.evs 1 4 with
   |false=>simp -implicitDefEqProofs(maxSteps:=999999)(disch:=first|with_reducible rfl|omega|(simp only[nA,nS,nD]<;>omega)|fail)only[c25,go_sem,off_eq,p1,p2];exact b
   |true=>
    by_cases p3:3<(a.cks.length:Int)
    ·simp -implicitDefEqProofs(maxSteps:=999999)(disch:=first|with_reducible rfl|omega|(simp only[nA,nS,nD]<;>omega)|fail)only[c25,go_sem,off_eq,p1,p2,hlC,p3];exact b
    by_cases p4:8<(a.rds.length:Int)
    ·simp -implicitDefEqProofs(maxSteps:=999999)(disch:=first|with_reducible rfl|omega|(simp only[nA,nS,nD]<;>omega)|fail)only[c25,go_sem,off_eq,p1,p2,hlC,hlR,p3,p4];exact b
    by_cases p5:4<(a.gps.length:Int)
    ·simp -implicitDefEqProofs(maxSteps:=999999)(disch:=first|with_reducible rfl|omega|(simp only[nA,nS,nD]<;>omega)|fail)only[c25,go_sem,off_eq,p1,p2,hlC,hlR,hlG,p3,p4,p5];exact b
    ·exfalso
     rw[p1,p2] at hsz'
     have e3:a.cks.length≤3:=by omega
     have e4:a.rds.length≤8:=by omega
     have e5:a.gps.length≤4:=by omega
     simp[e3,e4,e5] at hsz'
 have hs:=hsz
 simp only[At.sz,Bool.and_eq_true,decide_eq_true_eq] at hs
 obtain⟨p1,p2,p3,p4,p5⟩:=hs
 have p3':¬3<(a.cks.length:Int):=by omega
 have p4':¬8<(a.rds.length:Int):=by omega
 have p5':¬4<(a.gps.length:Int):=by omega
 simp -implicitDefEqProofs(maxSteps:=999999)(disch:=first|with_reducible rfl|omega|(simp only[nA,nS,nD]<;>omega)|fail)only[c25,go_sem,off_eq,p1,p2,hlC,hlR,hlG,p3',p4',p5']
 have hw1:=s1.wf
 refine W_count a.cks.length (fun i s=>RCs h a C R G 7 i (!((a.cks.take i).all Ck.bd)) false (!((a.cks.take i).all Ck.ord)) ((a.cks.take i).any Ck.lg) s) ?_ ?_ (i:=0) (Nat.zero_le _)
  ⟨_,_,rfl,⟨s1,by simp -implicitDefEqProofs(maxSteps:=999999)(disch:=first|with_reducible rfl|omega|(simp only[nA,nS,nD]<;>omega)|fail)only[go_sem],(by simp[ev_c,ev_put]<;>rfl),(by simp[ev_c,ev_put]<;>rfl),(by simp[ev_c,ev_put]<;>rfl),(by simp[ev_c,ev_put]<;>rfl),(by simp[ev_c,ev_put]<;>rfl)⟩,(by simp[ev_c,ev_put]<;>rfl)⟩
 ·intro i s hi
  have hi':(i:Int)<(a.cks.length:Int):=by omega
  have hst:=take_at hi
  rw[hst,List.all_append,List.all_append,List.any_append]
  simp only[List.all_cons,List.all_nil,List.any_cons,List.any_nil,Bool.and_true,Bool.or_false,Bool.not_and]
  rw[a.cks[i].lg_eq,a.cks[i].ord_eq]
  have hbd:a.cks[i].bd=(within a.cks[i].sl a.cks[i].sh 60&&within a.cks[i].gl a.cks[i].gh 30):=rfl
  rw[hbd,Bool.not_and]
  generalize(!((a.cks.take i).all Ck.bd))=b3
  generalize(!((a.cks.take i).all Ck.ord))=b5
  generalize((a.cks.take i).any Ck.lg)=b6
  intro hs
  refine W_split (RCs h a C R G 7 i b3 false b5 b6) ?_ ?_
  ·obtain⟨tm,z,rfl,k,t7⟩:=hs
   obtain⟨zs,g1,t1,t3,t4,t5,t6⟩:=k
   simp -implicitDefEqProofs(maxSteps:=999999)(disch:=first|with_reducible rfl|omega|(simp only[nA,nS,nD]<;>omega)|fail)only[go_sem,t1,t3,t4,t5,t6,t7,hi',cells_of g1,hlC]
   exact⟨_,_,rfl,⟨zs,g1,(by simp[ev_c,ev_put,t1]<;>rfl),(by simp[ev_c,ev_put,t3]<;>rfl),(by simp[ev_c,ev_put,t4]<;>rfl),(by simp[ev_c,ev_put,t5]<;>rfl),(by simp[ev_c,ev_put,t6]<;>rfl)⟩,(by simp[ev_c,ev_put,t7]<;>rfl)⟩
  clear hs
  intro s hs
  refine W_split (RCs h a C R G 7 i (b3||(!within a.cks[i].sl a.cks[i].sh 60|| !within a.cks[i].gl a.cks[i].gh 30)) false (b5||(decide (a.cks[i].sh<a.cks[i].sl)||decide (a.cks[i].gh<a.cks[i].gl))) (b6||(within a.cks[i].sl a.cks[i].sh 60&&decide (4<a.cks[i].sh - a.cks[i].sl)||within a.cks[i].gl a.cks[i].gh 30&&decide (4<a.cks[i].gh - a.cks[i].gl)))) ?_ ?_
  ·rw[W_block]
   refine W_split (RCp h a C R G 7 i 8 (encC a.cks[i]) b3 false b5 b6) ?_ ?_
   ·obtain⟨tm,z,rfl,k,t7⟩:=hs
    obtain⟨zs,g1,t1,t3,t4,t5,t6⟩:=id k
    obtain⟨b,o,cc,cs,eC,hc,hq,hg,_,_⟩:=(x.c.mono zs).at hi
    generalize a.cks[i]=c at hg⊢
    simp only[encC] at hg⊢
    have hwz:=zs.wf
    simp -implicitDefEqProofs(maxSteps:=999999)(disch:=first|with_reducible rfl|omega|(simp only[nA,nS,nD]<;>omega)|fail)only[go_sem,t1,t3,t4,t5,t6,t7,cells_of g1,hq (nat_cst i),hc,hg]
    exact⟨_,_,_,rfl,⟨(k.sub ((by repeat(first|assumption|exact H.Sub.refl (by assumption)|refine H.Sub.add ?_ _|refine H.Sub.set ?_ (by first|omega|(simp only[H.next_add,H.next_set,H.next_del]<;>omega)) (by first|omega|(simp only[H.next_add,H.next_set,H.next_del]<;>omega)) (by assumption) _)))).1,(k.sub ((by repeat(first|assumption|exact H.Sub.refl (by assumption)|refine H.Sub.add ?_ _|refine H.Sub.set ?_ (by first|omega|(simp only[H.next_add,H.next_set,H.next_del]<;>omega)) (by first|omega|(simp only[H.next_add,H.next_set,H.next_del]<;>omega)) (by assumption) _)))).2,(by simp[ev_c,ev_put,t1]<;>rfl),(by simp[ev_c,ev_put,t3]<;>rfl),(by simp[ev_c,ev_put,t4]<;>rfl),(by simp[ev_c,ev_put,t5]<;>rfl),(by simp[ev_c,ev_put,t6]<;>rfl)⟩,(by simp[ev_c,ev_put,t7]<;>rfl),(by simp[ev_c,ev_put]<;>rfl),get_add_new rfl⟩
   clear hs
   intro s hs
   generalize a.cks[i]=c at hs⊢
   have f1:=fun hh Q=>far_eq hh c.sl c.sh 60 (by omega) Q
   have f2:=fun hh Q=>far_eq hh c.gl c.gh 30 (by omega) Q
   have wr1:within c.sl c.sh 60=true→wr .i64 (c.sh-c.sl)=c.sh-c.sl:=fun h=>by
    simp only[within,Bool.and_eq_true,inB_iff] at h
    exact wr_in (by omega) (by omega)
   have wr2:within c.gl c.gh 30=true→wr .i64 (c.gh-c.gl)=c.gh-c.gl:=fun h=>by
    simp only[within,Bool.and_eq_true,inB_iff] at h
    exact wr_in (by omega) (by omega)
   simp only[encC] at hs⊢
   generalize within c.sl c.sh 60=w1 at f1 wr1⊢
   generalize within c.gl c.gh 30=w2 at f2 wr2⊢
   refine W_split (RCp h a C R G 7 i 8 (encC c) (b3||(!w1|| !w2)) false b5 b6) ?_ ?_
   ·obtain⟨tm,z,b,rfl,k,t7,t8,gb⟩:=hs
    obtain⟨zs,g1,t1,t3,t4,t5,t6⟩:=id k
    have hwz:=zs.wf
    have lb:=hwz _ _ gb
    simp only[encC]
    cases b3<;>cases w1<;>cases w2
    all_goals
     simp -implicitDefEqProofs(maxSteps:=999999)(disch:=first|with_reducible rfl|omega|(simp only[nA,nS,nD]<;>omega)|fail)only[go_sem,t1,t3,t4,t5,t6,t7,t8,cells_of gb,f1,f2]
     have sz:=H.Sub.refl hwz
     exact⟨_,_,_,rfl,⟨(k.sub ((by repeat(first|assumption|exact H.Sub.refl (by assumption)|refine H.Sub.add ?_ _|refine H.Sub.set ?_ (by first|omega|(simp only[H.next_add,H.next_set,H.next_del]<;>omega)) (by first|omega|(simp only[H.next_add,H.next_set,H.next_del]<;>omega)) (by assumption) _)))).1,(k.sub ((by repeat(first|assumption|exact H.Sub.refl (by assumption)|refine H.Sub.add ?_ _|refine H.Sub.set ?_ (by first|omega|(simp only[H.next_add,H.next_set,H.next_del]<;>omega)) (by first|omega|(simp only[H.next_add,H.next_set,H.next_del]<;>omega)) (by assumption) _)))).2,(by simp[ev_c,ev_put,t1]<;>rfl),(by simp[ev_c,ev_put,t3]<;>rfl),(by simp[ev_c,ev_put,t4]<;>rfl),(by simp[ev_c,ev_put,t5]<;>rfl),(by simp[ev_c,ev_put,t6]<;>rfl)⟩,(by simp[ev_c,ev_put,t7]<;>rfl),(by simp[ev_c,ev_put,t8]<;>rfl),((by repeat(first|assumption|exact H.Sub.refl (by assumption)|refine H.Sub.add ?_ _|refine H.Sub.set ?_ (by first|omega|(simp only[H.next_add,H.next_set,H.next_del]<;>omega)) (by first|omega|(simp only[H.next_add,H.next_set,H.next_del]<;>omega)) (by assumption) _)):z.Sub _).get gb⟩
   clear hs
   intro s hs
   generalize(b3||(!w1|| !w2))=b3' at hs⊢
   refine W_split (RCp h a C R G 7 i 8 (encC c) b3' false (b5||(decide (c.sh<c.sl)||decide (c.gh<c.gl))) b6) ?_ ?_
   ·obtain⟨tm,z,b,rfl,k,t7,t8,gb⟩:=hs
    obtain⟨zs,g1,t1,t3,t4,t5,t6⟩:=id k
    simp only[encC] at gb⊢
    obtain⟨o1,ho1⟩:∃o1,decide (c.sh<c.sl)=o1:=⟨_,rfl⟩
    obtain⟨o2,ho2⟩:∃o2,decide (c.gh<c.gl)=o2:=⟨_,rfl⟩
    rw[ho1,ho2]
    cases b5<;>cases o1<;>cases o2
    all_goals
     simp -implicitDefEqProofs(maxSteps:=999999)(disch:=first|with_reducible rfl|omega|(simp only[nA,nS,nD]<;>omega)|fail)only[go_sem,t1,t3,t4,t5,t6,t7,t8,cells_of gb,ho1,ho2]
     exact⟨_,_,_,rfl,⟨k.s,k.g1,(by simp[ev_c,ev_put,t1]<;>rfl),(by simp[ev_c,ev_put,t3]<;>rfl),(by simp[ev_c,ev_put,t4]<;>rfl),(by simp[ev_c,ev_put,t5]<;>rfl),(by simp[ev_c,ev_put,t6]<;>rfl)⟩,(by simp[ev_c,ev_put,t7]<;>rfl),(by simp[ev_c,ev_put,t8]<;>rfl),gb⟩
   clear hs
   intro s hs
   generalize(b5||(decide (c.sh<c.sl)||decide (c.gh<c.gl)))=b5' at hs⊢
   obtain⟨tm,z,b,rfl,k,t7,t8,gb⟩:=hs
   obtain⟨zs,g1,t1,t3,t4,t5,t6⟩:=id k
   have hwz:=zs.wf
   have lb:=hwz _ _ gb
   simp only[encC] at gb
   obtain⟨d1,hd1⟩:∃d1,decide (4<c.sh-c.sl)=d1:=⟨_,rfl⟩
   obtain⟨d2,hd2⟩:∃d2,decide (4<c.gh-c.gl)=d2:=⟨_,rfl⟩
   rw[hd1,hd2]
   cases b6<;>cases w1<;>cases w2<;>cases d1<;>cases d2
   all_goals
    simp -implicitDefEqProofs(maxSteps:=999999)(disch:=first|with_reducible rfl|omega|(simp only[nA,nS,nD]<;>omega)|fail)only[go_sem,t1,t3,t4,t5,t6,t7,t8,cells_of gb,f1,f2,hd1,hd2,wr1,wr2]
    have sz:=H.Sub.refl hwz
    exact⟨_,_,rfl,⟨(k.sub ((by repeat(first|assumption|exact H.Sub.refl (by assumption)|refine H.Sub.add ?_ _|refine H.Sub.set ?_ (by first|omega|(simp only[H.next_add,H.next_set,H.next_del]<;>omega)) (by first|omega|(simp only[H.next_add,H.next_set,H.next_del]<;>omega)) (by assumption) _)))).1,(k.sub ((by repeat(first|assumption|exact H.Sub.refl (by assumption)|refine H.Sub.add ?_ _|refine H.Sub.set ?_ (by first|omega|(simp only[H.next_add,H.next_set,H.next_del]<;>omega)) (by first|omega|(simp only[H.next_add,H.next_set,H.next_del]<;>omega)) (by assumption) _)))).2,(by simp[ev_c,ev_put,t1]<;>rfl),(by simp[ev_c,ev_put,t3]<;>rfl),(by simp[ev_c,ev_put,t4]<;>rfl),(by simp[ev_c,ev_put,t5]<;>rfl),(by simp[ev_c,ev_put,t6]<;>rfl)⟩,(by simp[ev_c,ev_put,t7]<;>rfl)⟩
  clear hs
  rintro s ⟨tm,z,rfl,⟨zs,g1,t1,t3,t4,t5,t6⟩,t7⟩
  simp -implicitDefEqProofs(maxSteps:=999999)(disch:=first|with_reducible rfl|omega|(simp only[nA,nS,nD]<;>omega)|fail)only[go_sem,t1,t3,t4,t5,t6,t7,wr_succ]
  exact⟨_,_,rfl,⟨zs,g1,(by simp[ev_c,ev_put,t1]<;>rfl),(by simp[ev_c,ev_put,t3]<;>rfl),(by simp[ev_c,ev_put,t4]<;>rfl),(by simp[ev_c,ev_put,t5]<;>rfl),(by simp[ev_c,ev_put,t6]<;>rfl)⟩,(by simp[ev_c,ev_put]<;>rfl)⟩
 ·rintro s ⟨tm,z,rfl,⟨zs,g1,t1,t3,t4,t5,t6⟩,t7⟩
  rw[List.take_length] at t3 t5 t6
  simp -implicitDefEqProofs(maxSteps:=999999)(disch:=first|with_reducible rfl|omega|(simp only[nA,nS,nD]<;>omega)|fail)only[go_sem,t1,t3,t4,t5,t6,t7,cells_of g1,hlC,Int.lt_irrefl]
  refine W_count a.rds.length (fun i s=>RCs h a C R G 9 i (!(a.cks.all Ck.bd)|| !((a.rds.take i).all Rd.bd)) (!((a.rds.take i).all a.rdOk)) (!(a.cks.all Ck.ord)) (a.cks.any Ck.lg) s) ?_ ?_ (i:=0) (Nat.zero_le _)
   ⟨_,_,rfl,⟨zs,g1,(by simp[ev_c,ev_put,t1]<;>rfl),by rw[List.take_zero,List.all_nil,Bool.not_true,Bool.or_false];exact(by simp[ev_c,ev_put,t3]<;>rfl),(by simp[ev_c,ev_put,t4]<;>rfl),(by simp[ev_c,ev_put,t5]<;>rfl),(by simp[ev_c,ev_put,t6]<;>rfl)⟩,(by simp[ev_c,ev_put]<;>rfl)⟩
  ·clear t1 t3 t4 t5 t6 t7 g1 zs
   intro i s hi
   have hi':(i:Int)<(a.rds.length:Int):=by omega
   have hst:=take_at hi
   rw[hst,List.all_append,List.all_append]
   simp only[List.all_cons,List.all_nil,Bool.and_true,Bool.not_and]
   rw[←Bool.or_assoc]
   generalize(!(a.cks.all Ck.bd)|| !((a.rds.take i).all Rd.bd))=b3
   generalize(!((a.rds.take i).all a.rdOk))=b4
   generalize(!(a.cks.all Ck.ord))=b5
   generalize(a.cks.any Ck.lg)=b6
   intro hs
   have w1:wr .i64 ((a.cks.length:Int)-1)=(a.cks.length:Int)-1:=wr_in (by omega) (by omega)
   have ev1:=(inB_iff ..).1 p2
   have w2:wr .i64 (a.evs-1)=a.evs-1:=wr_in (by omega) (by omega)
   refine W_split (RCs h a C R G 9 i b3 b4 b5 b6) ?_ ?_
   ·obtain⟨tm,z,rfl,k,t7⟩:=hs
    obtain⟨zs,g1,t1,t3,t4,t5,t6⟩:=k
    simp -implicitDefEqProofs(maxSteps:=999999)(disch:=first|with_reducible rfl|omega|(simp only[nA,nS,nD]<;>omega)|fail)only[go_sem,t1,t3,t4,t5,t6,t7,hi',cells_of g1,hlR]
    exact⟨_,_,rfl,⟨zs,g1,(by simp[ev_c,ev_put,t1]<;>rfl),(by simp[ev_c,ev_put,t3]<;>rfl),(by simp[ev_c,ev_put,t4]<;>rfl),(by simp[ev_c,ev_put,t5]<;>rfl),(by simp[ev_c,ev_put,t6]<;>rfl)⟩,(by simp[ev_c,ev_put,t7]<;>rfl)⟩
   clear hs
   intro s hs
   refine W_split (RCs h a C R G 9 i (b3|| !Rd.bd a.rds[i]) (b4|| !a.rdOk a.rds[i]) b5 b6) ?_ ?_
   ·rw[W_block]
    refine W_split (RCp h a C R G 9 i 10 (encR a.rds[i]) b3 b4 b5 b6) ?_ ?_
    ·obtain⟨tm,z,rfl,k,t7⟩:=hs
     obtain⟨zs,g1,t1,t3,t4,t5,t6⟩:=id k
     obtain⟨b,o,cc,cs,eC,hc,hq,hg,_,_⟩:=(x.r.mono zs).at hi
     generalize a.rds[i]=c at hg⊢
     simp only[encR] at hg⊢
     have hwz:=zs.wf
     simp -implicitDefEqProofs(maxSteps:=999999)(disch:=first|with_reducible rfl|omega|(simp only[nA,nS,nD]<;>omega)|fail)only[go_sem,t1,t3,t4,t5,t6,t7,cells_of g1,hq (nat_cst i),hc,hg]
     exact⟨_,_,_,rfl,⟨(k.sub ((by repeat(first|assumption|exact H.Sub.refl (by assumption)|refine H.Sub.add ?_ _|refine H.Sub.set ?_ (by first|omega|(simp only[H.next_add,H.next_set,H.next_del]<;>omega)) (by first|omega|(simp only[H.next_add,H.next_set,H.next_del]<;>omega)) (by assumption) _)))).1,(k.sub ((by repeat(first|assumption|exact H.Sub.refl (by assumption)|refine H.Sub.add ?_ _|refine H.Sub.set ?_ (by first|omega|(simp only[H.next_add,H.next_set,H.next_del]<;>omega)) (by first|omega|(simp only[H.next_add,H.next_set,H.next_del]<;>omega)) (by assumption) _)))).2,(by simp[ev_c,ev_put,t1]<;>rfl),(by simp[ev_c,ev_put,t3]<;>rfl),(by simp[ev_c,ev_put,t4]<;>rfl),(by simp[ev_c,ev_put,t5]<;>rfl),(by simp[ev_c,ev_put,t6]<;>rfl)⟩,(by simp[ev_c,ev_put,t7]<;>rfl),(by simp[ev_c,ev_put]<;>rfl),get_add_new rfl⟩
    clear hs
    intro s hs
    generalize a.rds[i]=c at hs⊢
    have ebd:c.bd=inB c.sh (-999) 999:=rfl
    have eok:a.rdOk c=(inB c.ck 0 ((a.cks.length:Int)-1)&&inB c.ev 0 (a.evs-1)):=rfl
    rw[ebd,eok,Bool.not_and]
    have f0:=fun hh Q=>off_eq hh c.sh (-999) 999 Q
    have f1:=fun hh Q=>off_eq hh c.ck 0 ((a.cks.length:Int)-1) Q
    have f2:=fun hh Q=>off_eq hh c.ev 0 (a.evs-1) Q
    simp only[encR] at hs⊢
    generalize inB c.sh (-999) 999=u0 at f0⊢
    generalize inB c.ck 0 ((a.cks.length:Int)-1)=u1 at f1⊢
    generalize inB c.ev 0 (a.evs-1)=u2 at f2⊢
    refine W_split (RCp h a C R G 9 i 10 (encR c) (b3|| !u0) b4 b5 b6) ?_ ?_
    ·obtain⟨tm,z,b,rfl,k,t7,t8,gb⟩:=hs
     obtain⟨zs,g1,t1,t3,t4,t5,t6⟩:=id k
     simp only[encR]
     cases b3
     all_goals
      simp -implicitDefEqProofs(maxSteps:=999999)(disch:=first|with_reducible rfl|omega|(simp only[nA,nS,nD]<;>omega)|fail)only[go_sem,t1,t3,t4,t5,t6,t7,t8,cells_of gb,f0]
      exact⟨_,_,_,rfl,⟨k.s,k.g1,(by simp[ev_c,ev_put,t1]<;>rfl),(by simp[ev_c,ev_put,t3]<;>rfl),(by simp[ev_c,ev_put,t4]<;>rfl),(by simp[ev_c,ev_put,t5]<;>rfl),(by simp[ev_c,ev_put,t6]<;>rfl)⟩,(by simp[ev_c,ev_put,t7]<;>rfl),(by simp[ev_c,ev_put,t8]<;>rfl),gb⟩
    clear hs
    intro s hs
    generalize(b3|| !u0)=b3' at hs⊢
    obtain⟨tm,z,b,rfl,k,t7,t8,gb⟩:=hs
    obtain⟨zs,g1,t1,t3,t4,t5,t6⟩:=id k
    simp only[encR] at gb
    cases b4<;>cases u1<;>cases u2
    all_goals
     simp -implicitDefEqProofs(maxSteps:=999999)(disch:=first|with_reducible rfl|omega|(simp only[nA,nS,nD]<;>omega)|fail)only[go_sem,t1,t3,t4,t5,t6,t7,t8,cells_of gb,cells_of g1,hlC,w1,w2,f1,f2]
     exact⟨_,_,rfl,⟨k.s,k.g1,(by simp[ev_c,ev_put,t1]<;>rfl),(by simp[ev_c,ev_put,t3]<;>rfl),(by simp[ev_c,ev_put,t4]<;>rfl),(by simp[ev_c,ev_put,t5]<;>rfl),(by simp[ev_c,ev_put,t6]<;>rfl)⟩,(by simp[ev_c,ev_put,t7]<;>rfl)⟩
   clear hs
   rintro s ⟨tm,z,rfl,⟨zs,g1,t1,t3,t4,t5,t6⟩,t7⟩
   simp -implicitDefEqProofs(maxSteps:=999999)(disch:=first|with_reducible rfl|omega|(simp only[nA,nS,nD]<;>omega)|fail)only[go_sem,t1,t3,t4,t5,t6,t7,wr_succ]
   exact⟨_,_,rfl,⟨zs,g1,(by simp[ev_c,ev_put,t1]<;>rfl),(by simp[ev_c,ev_put,t3]<;>rfl),(by simp[ev_c,ev_put,t4]<;>rfl),(by simp[ev_c,ev_put,t5]<;>rfl),(by simp[ev_c,ev_put,t6]<;>rfl)⟩,(by simp[ev_c,ev_put]<;>rfl)⟩
  clear t1 t3 t4 t5 t6 t7 g1 zs
  rintro s ⟨tm,z,rfl,⟨zs,g1,t1,t3,t4,t5,t6⟩,t7⟩
  rw[List.take_length] at t3 t4
  simp -implicitDefEqProofs(maxSteps:=999999)(disch:=first|with_reducible rfl|omega|(simp only[nA,nS,nD]<;>omega)|fail)only[go_sem,t1,t3,t4,t5,t6,t7,cells_of g1,hlR,Int.lt_irrefl]
  refine W_count a.gps.length (fun i s=>RCs h a C R G 11 i (!(a.cks.all Ck.bd)|| !(a.rds.all Rd.bd)|| !((a.gps.take i).all Gp.bd)) (!(a.rds.all a.rdOk)|| !((a.gps.take i).all a.gpOk)) (!(a.cks.all Ck.ord)|| !((a.gps.take i).all Gp.ord)) (a.cks.any Ck.lg) s) ?_ ?_ (i:=0) (Nat.zero_le _)
   ⟨_,_,rfl,⟨zs,g1,(by simp[ev_c,ev_put,t1]<;>rfl),by rw[List.take_zero,List.all_nil,Bool.not_true,Bool.or_false];exact(by simp[ev_c,ev_put,t3]<;>rfl),by rw[List.take_zero,List.all_nil,Bool.not_true,Bool.or_false];exact(by simp[ev_c,ev_put,t4]<;>rfl),by rw[List.take_zero,List.all_nil,Bool.not_true,Bool.or_false];exact(by simp[ev_c,ev_put,t5]<;>rfl),(by simp[ev_c,ev_put,t6]<;>rfl)⟩,(by simp[ev_c,ev_put]<;>rfl)⟩
  ·clear t1 t3 t4 t5 t6 t7 g1 zs
   intro i s hi
   have hi':(i:Int)<(a.gps.length:Int):=by omega
   have hst:=take_at hi
   rw[hst,List.all_append,List.all_append,List.all_append]
   simp only[List.all_cons,List.all_nil,Bool.and_true,Bool.not_and]
   rw[←Bool.or_assoc,←Bool.or_assoc,←Bool.or_assoc]
   generalize(!(a.cks.all Ck.bd)|| !(a.rds.all Rd.bd)|| !((a.gps.take i).all Gp.bd))=b3
   generalize(!(a.rds.all a.rdOk)|| !((a.gps.take i).all a.gpOk))=b4
   generalize(!(a.cks.all Ck.ord)|| !((a.gps.take i).all Gp.ord))=b5
   generalize(a.cks.any Ck.lg)=b6
   intro hs
   have ev1:=(inB_iff ..).1 p2
   have w2:wr .i64 (a.evs-1)=a.evs-1:=wr_in (by omega) (by omega)
   refine W_split (RCs h a C R G 11 i b3 b4 b5 b6) ?_ ?_
   ·obtain⟨tm,z,rfl,k,t7⟩:=hs
    obtain⟨zs,g1,t1,t3,t4,t5,t6⟩:=k
    simp -implicitDefEqProofs(maxSteps:=999999)(disch:=first|with_reducible rfl|omega|(simp only[nA,nS,nD]<;>omega)|fail)only[go_sem,t1,t3,t4,t5,t6,t7,hi',cells_of g1,hlG]
    exact⟨_,_,rfl,⟨zs,g1,(by simp[ev_c,ev_put,t1]<;>rfl),(by simp[ev_c,ev_put,t3]<;>rfl),(by simp[ev_c,ev_put,t4]<;>rfl),(by simp[ev_c,ev_put,t5]<;>rfl),(by simp[ev_c,ev_put,t6]<;>rfl)⟩,(by simp[ev_c,ev_put,t7]<;>rfl)⟩
   clear hs
   intro s hs
   refine W_split (RCs h a C R G 11 i (b3|| !Gp.bd a.gps[i]) (b4|| !a.gpOk a.gps[i]) (b5|| !Gp.ord a.gps[i]) b6) ?_ ?_
   ·rw[W_block]
    refine W_split (RCp h a C R G 11 i 12 (encG a.gps[i]) b3 b4 b5 b6) ?_ ?_
    ·obtain⟨tm,z,rfl,k,t7⟩:=hs
     obtain⟨zs,g1,t1,t3,t4,t5,t6⟩:=id k
     obtain⟨b,o,cc,cs,eC,hc,hq,hg,_,_⟩:=(x.g.mono zs).at hi
     generalize a.gps[i]=c at hg⊢
     simp only[encG] at hg⊢
     have hwz:=zs.wf
     simp -implicitDefEqProofs(maxSteps:=999999)(disch:=first|with_reducible rfl|omega|(simp only[nA,nS,nD]<;>omega)|fail)only[go_sem,t1,t3,t4,t5,t6,t7,cells_of g1,hq (nat_cst i),hc,hg]
     exact⟨_,_,_,rfl,⟨(k.sub ((by repeat(first|assumption|exact H.Sub.refl (by assumption)|refine H.Sub.add ?_ _|refine H.Sub.set ?_ (by first|omega|(simp only[H.next_add,H.next_set,H.next_del]<;>omega)) (by first|omega|(simp only[H.next_add,H.next_set,H.next_del]<;>omega)) (by assumption) _)))).1,(k.sub ((by repeat(first|assumption|exact H.Sub.refl (by assumption)|refine H.Sub.add ?_ _|refine H.Sub.set ?_ (by first|omega|(simp only[H.next_add,H.next_set,H.next_del]<;>omega)) (by first|omega|(simp only[H.next_add,H.next_set,H.next_del]<;>omega)) (by assumption) _)))).2,(by simp[ev_c,ev_put,t1]<;>rfl),(by simp[ev_c,ev_put,t3]<;>rfl),(by simp[ev_c,ev_put,t4]<;>rfl),(by simp[ev_c,ev_put,t5]<;>rfl),(by simp[ev_c,ev_put,t6]<;>rfl)⟩,(by simp[ev_c,ev_put,t7]<;>rfl),(by simp[ev_c,ev_put]<;>rfl),get_add_new rfl⟩
    clear hs
    intro s hs
    generalize a.gps[i]=c at hs⊢
    have ebd:c.bd=within c.lo c.hi 240:=rfl
    have eok:a.gpOk c=(inB c.fr 0 (a.evs-1)&&inB c.to 0 (a.evs-1)):=rfl
    have eod:(!c.ord)=decide (c.hi<c.lo):=by rw[Bool.eq_iff_iff];simp[Gp.ord]<;>omega
    rw[ebd,eok,eod,Bool.not_and]
    have f0:=fun hh Q=>far_eq hh c.lo c.hi 240 (by omega) Q
    have f1:=fun hh Q=>off_eq hh c.fr 0 (a.evs-1) Q
    have f2:=fun hh Q=>off_eq hh c.to 0 (a.evs-1) Q
    simp only[encG] at hs⊢
    generalize within c.lo c.hi 240=u0 at f0⊢
    generalize inB c.fr 0 (a.evs-1)=u1 at f1⊢
    generalize inB c.to 0 (a.evs-1)=u2 at f2⊢
    obtain⟨o1,ho1⟩:∃o1,decide (c.hi<c.lo)=o1:=⟨_,rfl⟩
    rw[ho1]
    refine W_split (RCp h a C R G 11 i 12 (encG c) (b3|| !u0) b4 b5 b6) ?_ ?_
    ·obtain⟨tm,z,b,rfl,k,t7,t8,gb⟩:=hs
     obtain⟨zs,g1,t1,t3,t4,t5,t6⟩:=id k
     have hwz:=zs.wf
     simp only[encG]
     cases b3
     all_goals
      simp -implicitDefEqProofs(maxSteps:=999999)(disch:=first|with_reducible rfl|omega|(simp only[nA,nS,nD]<;>omega)|fail)only[go_sem,t1,t3,t4,t5,t6,t7,t8,cells_of gb,f0]
      have sz:=H.Sub.refl hwz
      exact⟨_,_,_,rfl,⟨(k.sub ((by repeat(first|assumption|exact H.Sub.refl (by assumption)|refine H.Sub.add ?_ _|refine H.Sub.set ?_ (by first|omega|(simp only[H.next_add,H.next_set,H.next_del]<;>omega)) (by first|omega|(simp only[H.next_add,H.next_set,H.next_del]<;>omega)) (by assumption) _)))).1,(k.sub ((by repeat(first|assumption|exact H.Sub.refl (by assumption)|refine H.Sub.add ?_ _|refine H.Sub.set ?_ (by first|omega|(simp only[H.next_add,H.next_set,H.next_del]<;>omega)) (by first|omega|(simp only[H.next_add,H.next_set,H.next_del]<;>omega)) (by assumption) _)))).2,(by simp[ev_c,ev_put,t1]<;>rfl),(by simp[ev_c,ev_put,t3]<;>rfl),(by simp[ev_c,ev_put,t4]<;>rfl),(by simp[ev_c,ev_put,t5]<;>rfl),(by simp[ev_c,ev_put,t6]<;>rfl)⟩,(by simp[ev_c,ev_put,t7]<;>rfl),(by simp[ev_c,ev_put,t8]<;>rfl),((by repeat(first|assumption|exact H.Sub.refl (by assumption)|refine H.Sub.add ?_ _|refine H.Sub.set ?_ (by first|omega|(simp only[H.next_add,H.next_set,H.next_del]<;>omega)) (by first|omega|(simp only[H.next_add,H.next_set,H.next_del]<;>omega)) (by assumption) _)):z.Sub _).get gb⟩
    clear hs
    intro s hs
    generalize(b3|| !u0)=b3' at hs⊢
    refine W_split (RCp h a C R G 11 i 12 (encG c) b3' (b4||(!u1|| !u2)) b5 b6) ?_ ?_
    ·obtain⟨tm,z,b,rfl,k,t7,t8,gb⟩:=hs
     obtain⟨zs,g1,t1,t3,t4,t5,t6⟩:=id k
     simp only[encG] at gb⊢
     cases b4<;>cases u1<;>cases u2
     all_goals
      simp -implicitDefEqProofs(maxSteps:=999999)(disch:=first|with_reducible rfl|omega|(simp only[nA,nS,nD]<;>omega)|fail)only[go_sem,t1,t3,t4,t5,t6,t7,t8,cells_of gb,cells_of g1,w2,f1,f2]
      exact⟨_,_,_,rfl,⟨k.s,k.g1,(by simp[ev_c,ev_put,t1]<;>rfl),(by simp[ev_c,ev_put,t3]<;>rfl),(by simp[ev_c,ev_put,t4]<;>rfl),(by simp[ev_c,ev_put,t5]<;>rfl),(by simp[ev_c,ev_put,t6]<;>rfl)⟩,(by simp[ev_c,ev_put,t7]<;>rfl),(by simp[ev_c,ev_put,t8]<;>rfl),gb⟩
    clear hs
    intro s hs
    generalize(b4||(!u1|| !u2))=b4' at hs⊢
    obtain⟨tm,z,b,rfl,k,t7,t8,gb⟩:=hs
    obtain⟨zs,g1,t1,t3,t4,t5,t6⟩:=id k
    simp only[encG] at gb
    cases b5
    all_goals
     simp -implicitDefEqProofs(maxSteps:=999999)(disch:=first|with_reducible rfl|omega|(simp only[nA,nS,nD]<;>omega)|fail)only[go_sem,t1,t3,t4,t5,t6,t7,t8,cells_of gb,ho1]
     exact⟨_,_,rfl,⟨k.s,k.g1,(by simp[ev_c,ev_put,t1]<;>rfl),(by simp[ev_c,ev_put,t3]<;>rfl),(by simp[ev_c,ev_put,t4]<;>rfl),(by simp[ev_c,ev_put,t5]<;>rfl),(by simp[ev_c,ev_put,t6]<;>rfl)⟩,(by simp[ev_c,ev_put,t7]<;>rfl)⟩
   clear hs
   rintro s ⟨tm,z,rfl,⟨zs,g1,t1,t3,t4,t5,t6⟩,t7⟩
   simp -implicitDefEqProofs(maxSteps:=999999)(disch:=first|with_reducible rfl|omega|(simp only[nA,nS,nD]<;>omega)|fail)only[go_sem,t1,t3,t4,t5,t6,t7,wr_succ]
   exact⟨_,_,rfl,⟨zs,g1,(by simp[ev_c,ev_put,t1]<;>rfl),(by simp[ev_c,ev_put,t3]<;>rfl),(by simp[ev_c,ev_put,t4]<;>rfl),(by simp[ev_c,ev_put,t5]<;>rfl),(by simp[ev_c,ev_put,t6]<;>rfl)⟩,(by simp[ev_c,ev_put]<;>rfl)⟩
  clear t1 t3 t4 t5 t6 t7 g1 zs
  rintro s ⟨tm,z,rfl,⟨zs,g1,t1,t3,t4,t5,t6⟩,t7⟩
  rw[List.take_length] at t3 t4 t5
  have q':=q z zs
  rw[chk_of hsz] at q'
  simp -implicitDefEqProofs(maxSteps:=999999)(disch:=first|with_reducible rfl|omega|(simp only[nA,nS,nD]<;>omega)|fail)only[go_sem,t1,t3,t4,t5,t6,t7,cells_of g1,hlG,Int.lt_irrefl]
  generalize(!(a.cks.all Ck.bd)|| !(a.rds.all Rd.bd)|| !(a.gps.all Gp.bd))=b3 at q' t3⊢
  generalize(!(a.rds.all a.rdOk)|| !(a.gps.all a.gpOk))=b4 at q' t4⊢
  generalize(!(a.cks.all Ck.ord)|| !(a.gps.all Gp.ord))=b5 at q' t5⊢
  generalize(a.cks.any Ck.lg)=b6 at q' t6⊢
  cases b3 with
  |true=>simp -implicitDefEqProofs(maxSteps:=999999)(disch:=first|with_reducible rfl|omega|(simp only[nA,nS,nD]<;>omega)|fail)only[go_sem,t1,t3,t4,t5,t6];exact q'
  |false=>
   cases b4 with
   |true=>simp -implicitDefEqProofs(maxSteps:=999999)(disch:=first|with_reducible rfl|omega|(simp only[nA,nS,nD]<;>omega)|fail)only[go_sem,t1,t3,t4,t5,t6];exact q'
   |false=>
    cases b5 with
    |true=>simp -implicitDefEqProofs(maxSteps:=999999)(disch:=first|with_reducible rfl|omega|(simp only[nA,nS,nD]<;>omega)|fail)only[go_sem,t1,t3,t4,t5,t6];exact q'
    |false=>
     cases b6 with
     |true=>simp -implicitDefEqProofs(maxSteps:=999999)(disch:=first|with_reducible rfl|omega|(simp only[nA,nS,nD]<;>omega)|fail)only[go_sem,t1,t3,t4,t5,t6];exact q'
     |false=>simp -implicitDefEqProofs(maxSteps:=999999)(disch:=first|with_reducible rfl|omega|(simp only[nA,nS,nD]<;>omega)|fail)only[go_sem,t1,t3,t4,t5,t6];exact q'
end Go.Ab.Tryz
namespace Go.Ab.Tryz
open Go.Proofs
def latY (L:List Int)(f b:Nat):Int:=mg L f b-mg L f 4
theorem lat_tru {a:At}(r:Right a){cnt:Nat→Bool}{t:Runs × List Int}(ht:t∈casesL a cnt){f:Nat}(hf:f<5):Tru a cnt t.1 (latY t.2 f):=by
 obtain⟨tri,_,_,hs⟩:=cases_sound r ht
 refine(hs _ (by simp[latY])).1 fun c d hc hd=>?_
 have:=tri.tri f d c hf hd hc
 unfold latY;omega
theorem lat_4 {a:At}(r:Right a){cnt:Nat→Bool}{t:Runs × List Int}(ht:t∈casesL a cnt)(b:Nat):latY t.2 4 b=mg t.2 4 b:=by
 have:=cases_diag r ht (u:=4) (by omega)
 unfold latY;omega
theorem lat_self {a:At}(r:Right a){cnt:Nat→Bool}{t:Runs × List Int}(ht:t∈casesL a cnt){b:Nat}(hb:b<5):latY t.2 b b= -mg t.2 b 4:=by
 have:=cases_diag r ht (u:=b) hb
 unfold latY;omega
theorem getD_at {l:List Int}{i:Nat}(h:i<l.length):l.getD i 0=l[i]:=by rw[List.getD_eq_getElem?_getD,List.getElem?_eq_getElem h];rfl
theorem Right.rdn {a:At}(r:Right a){x:Rd}(hx:x∈a.rds):∃i e:Nat,x.ck=i∧x.ev=e∧i<a.cks.length∧(e:Int)<a.evs∧e<4:=by
 have h:=r.ro x hx
 have he:=r.evs
 simp only[At.rdOk,At.ckB,At.evB,Bool.and_eq_true,inB_iff] at h
 exact⟨x.ck.toNat,x.ev.toNat,by omega,by omega,by omega,by omega,by omega⟩
theorem Right.gpn {a:At}(r:Right a){x:Gp}(hx:x∈a.gps):∃i e:Nat,x.fr=i∧x.to=e∧(i:Int)<a.evs∧(e:Int)<a.evs∧i<4∧e<4:=by
 have h:=r.go x hx
 have he:=r.evs
 simp only[At.gpOk,At.evB,Bool.and_eq_true,inB_iff] at h
 exact⟨x.fr.toNat,x.to.toNat,by omega,by omega,by omega,by omega,by omega,by omega⟩
theorem zip_get {ss gg:List Int}{i:Nat}{s:Int × Int}:(ss.zip gg)[i]? =some s↔ss[i]? =some s.1∧gg[i]? =some s.2:=List.getElem?_zip_eq_some
theorem Tru.cut {a:At}(r:Right a){cnt:Nat→Bool}{runs:Runs}{y:Nat→Int}(t:Tru a cnt runs y):Tru a cnt runs (timeF ((List.range a.evs.toNat).map y)):=by
 have he:=r.evs
 have hm:=r.mins
 have key:∀e:Nat,(e:Int)<a.evs→timeF ((List.range a.evs.toNat).map y) e=y e:=fun e h=>timeF_at (by rw[List.getElem?_map,List.getElem?_range (by omega)];rfl)
 have key2:∀e:Nat,a.evs≤(e:Int)→timeF ((List.range a.evs.toNat).map y) e=0:=fun e h=>by
  unfold timeF
  rw[List.getD_eq_getElem?_getD,List.getElem?_eq_none (by rw[List.length_map,List.length_range];omega)];rfl
 refine⟨t.len,t.run,key2 4 (by omega),fun e h=>?_,fun g hg=>?_,fun j x hx hc s hs=>?_⟩
 ·rcases(by omega:(e:Int)<a.evs∨a.evs≤(e:Int)) with h1|h1
  ·rw[key e h1];exact t.mins e h
  ·rw[key2 e h1];omega
 ·obtain⟨i,e,e1,e2,h1,h2,_,_⟩:=r.gpn hg
  have:=t.gaps g hg
  rw[e1,e2,Int.toNat_natCast,Int.toNat_natCast] at this⊢
  rw[key i h1,key e h2];exact this
 ·obtain⟨i,e,e1,e2,_,h2,_⟩:=r.rdn (List.mem_of_getElem? hx)
  have:=t.rds j x hx hc s hs
  rw[e2,Int.toNat_natCast] at this⊢
  rw[key e h2];exact this
theorem zip_unzip (l:Runs):(l.map Prod.fst).zip (l.map Prod.snd)=l:=by
 induction l with
 |nil=>rfl
 |cons x l ih=>simp only[List.map_cons,List.zip_cons_cons,ih]
end Go.Ab.Tryz
namespace Go.Ab.Tryz
open Go.Proofs
abbrev TruA (a:At) (runs:Runs) (y:Nat→Int):Prop:=Tru a (fun _=>true) runs y
theorem noC {a:At}(r:Right a):allC a=[]↔∀runs y,¬TruA a runs y:=by
 constructor
 ·intro h runs y t
  obtain⟨L,hL⟩:=cases_full r t
  have:(runs,L)∈allC a:=hL
  rw[h] at this;cases this
 ·intro h
  cases hc:allC a with
  |nil=>rfl
  |cons t l=>
   have ht:t∈casesL a (fun _=>true):=by show t∈allC a;rw[hc];exact List.mem_cons_self ..
   exact absurd (lat_tru r ht (f:=4) (by omega)) (h _ _)
def At.addG (a:At)(g:Gp):At:={a with gps:=a.gps++[g]}
theorem mem_get_app {α:Type}{l:List α}{x:α}{i:Nat}{y:α}:(l++[x])[i]? =some y↔l[i]? =some y∨i=l.length∧y=x:=by
 rcases Nat.lt_trichotomy i l.length with h|h|h
 ·rw[List.getElem?_append_left h]
  constructor
  ·exact .inl
  ·rintro(h'|⟨h',_⟩)
   ·exact h'
   ·omega
 ·subst h
  rw[List.getElem?_append_right (Nat.le_refl _),Nat.sub_self,List.getElem?_eq_none (Nat.le_refl _)]
  simp only[List.getElem?_cons_zero,Option.some.injEq,reduceCtorEq,false_or,true_and]
  exact eq_comm
 ·rw[List.getElem?_eq_none (by simp;omega),List.getElem?_eq_none (by omega)]
  constructor
  ·intro h';cases h'
  ·rintro(h'|⟨h',_⟩)
   ·cases h'
   ·omega
end Go.Ab.Tryz
namespace Go.Ab
def dd {α:Type}[DecidableEq α](l:List α):Nat→List α
 |0=>[]
 |n+1=>match l[n]? with
  |none=>dd l n
  |some x=>if 0<n∧l[n-1]? =some x then dd l n else dd l n++[x]
section
variable {α:Type} [DecidableEq α] {l:List α}
theorem dd_same {n:Nat}{x:α}(h:l[n]? =some x)(h2:0<n∧l[n-1]? =some x):dd l (n+1)=dd l n:=by simp only[dd,h];rw[if_pos h2]
theorem dd_new {n:Nat}{x:α}(h:l[n]? =some x)(h2:¬(0<n∧l[n-1]? =some x)):dd l (n+1)=dd l n++[x]:=by simp only[dd,h];rw[if_neg h2]
theorem dd_mem {x:α}:∀{n:Nat},x∈dd l n↔∃i,i<n∧l[i]? =some x
 |0=>by simp[dd]
 |n+1=>by
  have ih:=dd_mem (x:=x) (n:=n)
  cases h:l[n]? with
  |none=>
   simp only[dd,h]
   rw[ih]
   constructor
   ·rintro⟨i,hi,e⟩;exact⟨i,by omega,e⟩
   ·rintro⟨i,hi,e⟩
    by_cases hn:i=n
    ·subst hn;rw[h] at e;cases e
    ·exact⟨i,by omega,e⟩
  |some z=>
   by_cases h2:0<n∧l[n-1]? =some z
   ·rw[dd_same h h2,ih]
    constructor
    ·rintro⟨i,hi,e⟩;exact⟨i,by omega,e⟩
    ·rintro⟨i,hi,e⟩
     by_cases hn:i=n
     ·subst hn;rw[h] at e;cases e;exact⟨i-1,by omega,h2.2⟩
     ·exact⟨i,by omega,e⟩
   ·rw[dd_new h h2,List.mem_append,List.mem_singleton,ih]
    constructor
    ·rintro(⟨i,hi,e⟩|rfl)
     ·exact⟨i,by omega,e⟩
     ·exact⟨n,by omega,h⟩
    ·rintro⟨i,hi,e⟩
     by_cases hn:i=n
     ·subst hn;rw[h] at e;cases e;exact .inr rfl
     ·exact .inl ⟨i,by omega,e⟩
theorem dd_all {x:α}:x∈dd l l.length↔x∈l:=by
 rw[dd_mem,List.mem_iff_getElem?]
 constructor
 ·rintro⟨i,_,e⟩;exact⟨i,e⟩
 ·rintro⟨i,e⟩
  refine⟨i,?_,e⟩
  rcases Nat.lt_or_ge i l.length with q|q
  ·exact q
  ·rw[List.getElem?_eq_none q] at e;cases e
theorem dd_len:∀{n:Nat},(dd l n).length≤n
 |0=>by simp[dd]
 |n+1=>by
  have ih:=dd_len (n:=n)
  unfold dd
  split
  ·omega
  ·split
   ·omega
   ·rw[List.length_append,List.length_singleton];omega
theorem dd_pos {n:Nat}(hl:0<l.length)(hn:0<n):0<(dd l n).length:=by
 have:l[0]∈dd l n:=dd_mem.2 ⟨0,hn,List.getElem?_eq_getElem hl⟩
 exact List.length_pos_of_mem this
end
theorem dd_rise {l:List Int}(h:l.Pairwise (· ≤ ·)):∀{n:Nat},n≤l.length→(dd l n).Pairwise (· < ·)
 |0,_=>by simp[dd]
 |n+1,hn=>by
  have ih:=dd_rise h (n:=n) (by omega)
  have hx:l[n]? =some l[n]:=List.getElem?_eq_getElem (by omega)
  by_cases h2:0<n∧l[n-1]? =some l[n]
  ·rw[dd_same hx h2];exact ih
  ·rw[dd_new hx h2,List.pairwise_append]
   refine⟨ih,List.pairwise_singleton ..,fun a ha b hb=>?_⟩
   rw[List.mem_singleton] at hb;subst hb
   obtain⟨i,hi,e⟩:=dd_mem.1 ha
   have hp:=List.pairwise_iff_getElem.1 h
   rw[List.getElem?_eq_getElem (by omega)] at e
   cases e
   have h3:=hp i n (by omega) (by omega) hi
   have hm:=hp (n-1) n (by omega) (by omega) (by omega)
   have him:l[i]≤l[n-1]:=by
    by_cases e:i=n-1
    ·subst e;exact Int.le_refl _
    ·exact hp i (n-1) (by omega) (by omega) (by omega)
   have hne:l[n-1]≠l[n]:=fun e=>h2 ⟨by omega,by rw[List.getElem?_eq_getElem (by omega),e]⟩
   omega
theorem rise_eq:∀{l r:List Int},l.Pairwise (· < ·)→r.Pairwise (· < ·)→(∀x,x∈l↔x∈r)→l=r
 |[],[],_,_,_=>rfl
 |[],b::r,_,_,h=>absurd ((h b).2 (List.mem_cons_self ..)) List.not_mem_nil
 |a::l,[],_,_,h=>absurd ((h a).1 (List.mem_cons_self ..)) List.not_mem_nil
 |a::l,b::r,h1,h2,h=>by
  rw[List.pairwise_cons] at h1 h2
  have e:a=b:=by
   have ha:=(h a).1 (List.mem_cons_self ..)
   have hb:=(h b).2 (List.mem_cons_self ..)
   rcases List.mem_cons.1 ha with ha|ha
   ·exact ha
   rcases List.mem_cons.1 hb with hb|hb
   ·exact hb.symm
   have:=h1.1 b hb;have:=h2.1 a ha;omega
  subst e
  rw[rise_eq h1.2 h2.2 fun x=>?_]
  constructor
  ·intro hx
   rcases List.mem_cons.1 ((h x).1 (List.mem_cons_of_mem _ hx)) with e|e
   ·have:=h1.1 x hx;omega
   ·exact e
  ·intro hx
   rcases List.mem_cons.1 ((h x).2 (List.mem_cons_of_mem _ hx)) with e|e
   ·have:=h2.1 x hx;omega
   ·exact e
def risL (l:List Int):List Int:=dd (sortI l) (sortI l).length
theorem risL_mem {l:List Int}{x:Int}:x∈risL l↔x∈l:=by unfold risL;rw[dd_all];exact(sortI_perm l).mem_iff
theorem risL_rise (l:List Int):(risL l).Pairwise (· < ·):=dd_rise (sortI_sorted l) (Nat.le_refl _)
theorem rise_head {l:List Int}(h:l.Pairwise (· < ·)){x:Int}(hx:x∈l)(h0:0<l.length):l[0]≤x:=by
 obtain⟨i,hi,rfl⟩:=List.mem_iff_getElem.1 hx
 by_cases e:i=0
 ·subst e;exact Int.le_refl _
 ·have:=List.pairwise_iff_getElem.1 h 0 i h0 hi (by omega);omega
theorem rise_last {l:List Int}(h:l.Pairwise (· < ·)){x:Int}(hx:x∈l):x≤l[l.length-1]'(by have:=List.length_pos_of_mem hx;omega):=by
 obtain⟨i,hi,rfl⟩:=List.mem_iff_getElem.1 hx
 by_cases e:i=l.length-1
 ·subst e;exact Int.le_refl _
 ·have:=List.pairwise_iff_getElem.1 h i (l.length-1) hi (by omega) (by omega);omega
namespace Tryz
open Go.Proofs
def runsK (a:At)(k:Nat):Runs:=(allC a).map fun t=>t.1.getD k (0,0)
def setL (a:At)(k:Nat)(of:Int × Int→Int):List Int:=risL ((dd (runsK a k) (runsK a k).length).map of)
theorem setL_rise (a:At)(k:Nat)(of:Int × Int→Int):(setL a k of).Pairwise (· < ·):=risL_rise _
theorem setL_mem {a:At}(r:Right a){k:Nat}(hk:k<a.cks.length){of:Int × Int→Int}{n:Int}:n∈setL a k of↔∃runs y s,TruA a runs y∧runs[k]? =some s∧of s=n:=by
 unfold setL
 rw[risL_mem,List.mem_map]
 constructor
 ·rintro⟨s,hs,e⟩
  rw[dd_all,runsK,List.mem_map] at hs
  obtain⟨t,ht,es⟩:=hs
  have hl:=(cases_sound r ht).2.1
  refine⟨t.1,_,s,lat_tru r ht (f:=4) (by omega),?_,e⟩
  rw[←es,List.getD_eq_getElem?_getD,List.getElem?_eq_getElem (by omega)];rfl
 ·rintro⟨runs,y,s,t,hs,e⟩
  obtain⟨L,hL⟩:=cases_full r t
  refine⟨s,?_,e⟩
  rw[dd_all,runsK,List.mem_map]
  exact⟨(runs,L),hL,by rw[List.getD_eq_getElem?_getD];show(runs[k]?).getD _=s;rw[hs];rfl⟩
def shwN (a:At)(k:Nat)(m:List Int→Int):List Int:=risL ((allC a).map fun t=>shw (t.1.getD k (0,0)).1 (t.1.getD k (0,0)).2 (m t.2))
theorem shwN_mem {a:At}{k:Nat}{m:List Int→Int}{n:Int}:n∈shwN a k m↔∃t∈allC a,shw (t.1.getD k (0,0)).1 (t.1.getD k (0,0)).2 (m t.2)=n:=by
 unfold shwN
 rw[risL_mem,List.mem_map]
theorem shwN_pos {a:At}{k:Nat}{m:List Int→Int}(h:allC a≠[]):0<(shwN a k m).length:=by
 obtain⟨t,ht⟩:=List.exists_mem_of_ne_nil _ h
 exact List.length_pos_of_mem (shwN_mem.2 ⟨t,ht,rfl⟩)
def shoLo (a:At)(k e:Nat):Int:=(shwN a k fun L=> -mg L e 4).getD 0 0
def shoHi (a:At)(k e:Nat):Int:=(shwN a k fun L=>mg L 4 e).getD ((shwN a k fun L=>mg L 4 e).length - 1) 0
theorem sho_tru {a:At}(r:Right a){k e:Nat}(hk:k<a.cks.length)(he:e<4){runs:Runs}{y:Nat→Int}(t:TruA a runs y){s:Int × Int}(hs:runs[k]? =some s):shoLo a k e≤shw s.1 s.2 (y e)∧shw s.1 s.2 (y e)≤shoHi a k e:=by
 obtain⟨L,hL⟩:=cases_full r t
 obtain⟨tri,_,hr,hsol⟩:=cases_sound r hL
 have sol:=(hsol y t.beg).2 t
 have h1:=sol 4 e (by omega) (by omega)
 have h2:=sol e 4 (by omega) (by omega)
 rw[t.beg] at h1 h2
 have hrun:=(hr k s hs).run r
 have g:=hrun.g0
 have e1:runs.getD k (0,0)=s:=by rw[List.getD_eq_getElem?_getD,hs];rfl
 have m1:shw s.1 s.2 (-mg L e 4)∈shwN a k fun L=> -mg L e 4:=shwN_mem.2 ⟨(runs,L),hL,by show shw (runs.getD k (0,0)).1 _ _=_;rw[e1]⟩
 have m2:shw s.1 s.2 (mg L 4 e)∈shwN a k fun L=>mg L 4 e:=shwN_mem.2 ⟨(runs,L),hL,by show shw (runs.getD k (0,0)).1 _ _=_;rw[e1]⟩
 have p1:=List.length_pos_of_mem m1
 have p2:=List.length_pos_of_mem m2
 have q1:=rise_head (risL_rise _) m1 p1
 have q2:=rise_last (risL_rise _) m2
 have k1:=shw_mono (set:=s.1) (gain:=s.2) (by omega) (show -mg L e 4≤y e by simp only at h2⊢;omega)
 have k2:=shw_mono (set:=s.1) (gain:=s.2) (by omega) (show y e≤mg L 4 e by simp only at h1⊢;omega)
 unfold shoLo shoHi
 rw[List.getD_eq_getElem?_getD,List.getD_eq_getElem?_getD,List.getElem?_eq_getElem p1,List.getElem?_eq_getElem (by omega)]
 exact⟨Int.le_trans q1 k1,Int.le_trans k2 q2⟩
theorem sho_ex {a:At}(r:Right a)(hne:allC a≠[]){k e:Nat}(hk:k<a.cks.length)(he:e<4):
  (∃runs y s,TruA a runs y∧runs[k]? =some s∧shw s.1 s.2 (y e)=shoLo a k e)∧∃runs y s,TruA a runs y∧runs[k]? =some s∧shw s.1 s.2 (y e)=shoHi a k e:=by
 have key:∀{m:List Int→Int} {f:Nat} {i:Nat},f<5→(∀t∈allC a,latY t.2 f e=m t.2)→i<(shwN a k m).length→∃runs y s,TruA a runs y∧runs[k]? =some s∧shw s.1 s.2 (y e)=(shwN a k m).getD i 0:=fun{m f i} hf hm hi=>by
  rw[List.getD_eq_getElem?_getD,List.getElem?_eq_getElem hi]
  obtain⟨t,ht,h⟩:=shwN_mem.1 (List.getElem_mem hi)
  have hl:=(cases_sound r ht).2.1
  refine⟨t.1,latY t.2 f,t.1.getD k (0,0),lat_tru r ht hf,?_,?_⟩
  ·rw[List.getD_eq_getElem?_getD,List.getElem?_eq_getElem (by omega)];rfl
  ·rw[hm t ht];exact h
 exact⟨key (f:=e) (by omega) (fun t ht=>lat_self r ht (by omega)) (shwN_pos hne),key (f:=4) (by omega) (fun t ht=>lat_4 r ht e) (by have:=shwN_pos (a:=a) (k:=k) (m:=fun L=>mg L 4 e) hne;omega)⟩
end Tryz
end Go.Ab
namespace Go.Ab.Tryz
open Go.Proofs
structure TrAt (h:H)(S G T:V)(ss gg tt:List Int):Prop where
 s:SlAt h S 1 (ss.map encI)
 g:SlAt h G 1 (gg.map encI)
 t:SlAt h T 1 (tt.map encI)
theorem TrAt.mono {h h':H}{S G T:V}{ss gg tt:List Int}(x:TrAt h S G T ss gg tt)(s:h.Sub h'):TrAt h' S G T ss gg tt:=⟨x.s.mono s,x.g.mono s,x.t.mono s⟩
end Go.Ab.Tryz
namespace Go.Ab.Tryz
open Go.Proofs
def gapB (tt:List Int)(g:Gp):Bool:=inB (timeF tt g.to.toNat-timeF tt g.fr.toNat) g.lo g.hi
def gapsB (a:At)(tt:List Int):Bool:=a.gps.all (gapB tt)
theorem all_take_ok {α:Type}{p:α→Bool}{l:List α}{i:Nat}(hi:i<l.length)(h:(l.take i).all p=true)(hp:p l[i]=true):(l.take (i+1)).all p=true:=by
 rw[List.take_add_one,List.getElem?_eq_getElem hi,List.all_append,h]
 simp[hp]
theorem all_bad {α:Type}{p:α→Bool}{l:List α}{i:Nat}(hi:i<l.length)(hp:p l[i]=false):l.all p=false:=by
 rw[←Bool.not_eq_true,List.all_eq_true]
 intro h
 rw[h _ (List.getElem_mem hi)] at hp;cases hp
set_option maxHeartbeats 2000000 in
theorem refGaps_ev {h:H}(hw:h.wf){a:At}{C R G:V}(x:AtAt h C R G a)(r:Right a){y:V}{tt:List Int}(hy:SlAt h y 1 (tt.map encI))(hl:(tt.length:Int)=a.evs)(hb:∀t∈tt,0≤t∧t≤240)(Q:V→H→Prop)(q:∀h',h.Sub h'→Q (.bool (gapsB a tt)) h'):
  Ev fnG fastA (.fn 96 [] []) [.agg (atV a C R G),y] h Q:=by
 have oC:=x.c.one;have oR:=x.r.one;have oG:=x.g.one
 have oy:=hy.one
 have hlG:=x.g.lenE
 have rl:=r.lens
 refine Ev_body (fd:=c96) rfl rfl rfl ?_
 obtain⟨z,hz⟩:∃z,h.add (.cells .rw (atV a C R G))=z:=⟨_,rfl⟩
 have sz:h.Sub z:=by rw[←hz];exact(by repeat(first|assumption|exact H.Sub.refl (by assumption)|refine H.Sub.add ?_ _|refine H.Sub.set ?_ (by first|omega|(simp only[H.next_add,H.next_set,H.next_del]<;>omega)) (by first|omega|(simp only[H.next_add,H.next_set,H.next_del]<;>omega)) (by assumption) _))
 have ga:z.get h.next=some (.cells .rw (atV a C R G)):=by rw[←hz];exact get_add_new rfl
 simp -implicitDefEqProofs(maxSteps:=999999)(disch:=first|with_reducible rfl|omega|(simp only[nA,nS,nD]<;>omega)|fail)only[c96,go_sem,oC,oR,oG]
 rw[hz]
 clear hz
 refine W_count a.gps.length (fun i s=>∃tm z',s=⟨tm,z',[]⟩∧z.Sub z'∧(a.gps.take i).all (gapB tt)=true∧(Opd.t 1).ev tm=y∧(Opd.t 2).ev tm=.ptr h.next 0∧(Opd.t 5).ev tm=.int .i64 (i:Int)) ?_ ?_ (i:=0) (Nat.zero_le _)
  ⟨_,_,rfl,H.Sub.refl sz.wf,by simp,(by simp[ev_c,ev_put]<;>rfl),(by simp[ev_c,ev_put]<;>rfl),(by simp[ev_c,ev_put]<;>rfl)⟩
 ·rintro i s hi ⟨tm,z',rfl,sz',hall,t1,t2,t5⟩
  have hi':(i:Int)<(a.gps.length:Int):=by omega
  have s0:=sz.trans sz'
  obtain⟨bG,oGG,cG,csG,_,hcG,hqG,hgG,_,_⟩:=(x.g.mono s0).at hi
  have hm:=List.getElem_mem hi
  have hok:=fun hp=>all_take_ok (p:=gapB tt) hi hall hp
  have hbad:=fun hp=>all_bad (p:=gapB tt) hi hp
  generalize a.gps[i]=g at hgG hm hok hbad
  obtain⟨fr,to,e1,e2,f1,f2,_,_⟩:=r.gpn hm
  have hfr:fr<tt.length:=by omega
  have hto:to<tt.length:=by omega
  have hbf:=hb _ (List.getElem_mem hfr)
  have hbt:=hb _ (List.getElem_mem hto)
  have vf:=timeF_at (List.getElem?_eq_getElem hfr)
  have vt:=timeF_at (List.getElem?_eq_getElem hto)
  have hgap:gapB tt g=inB (tt[to]-tt[fr]) g.lo g.hi:=by unfold gapB;rw[e1,e2,Int.toNat_natCast,Int.toNat_natCast,vf,vt]
  simp only[encG,e1,e2] at hgG
  obtain⟨z2,hz2⟩:∃z2,z'.add (.cells .rw [.int .i64 (fr:Int),.int .i64 (to:Int),.int .i64 g.lo,.int .i64 g.hi])=z2:=⟨_,rfl⟩
  have s2:z'.Sub z2:=by rw[←hz2];exact(H.Sub.refl s0.wf).add _
  have g6:z2.get z'.next=some (.cells .rw [.int .i64 (fr:Int),.int .i64 (to:Int),.int .i64 g.lo,.int .i64 g.hi]):=by rw[←hz2];exact get_add_new rfl
  have s02:=s0.trans s2
  obtain⟨bF,oF,cF,csF,_,hcF,hqF,_,_,nF⟩:=(hy.mono s02).at hfr
  obtain⟨bT,oT,cT,csT,_,hcT,hqT,_,_,nT⟩:=(hy.mono s02).at hto
  have wF:=nF (by decide)
  have wT:=nT (by decide)
  simp only[encI,List.getElem?_cons_zero] at wF wT
  generalize tt[fr]=vfr at wF hbf hgap
  generalize tt[to]=vto at wT hbt hgap
  have ws:wr .i64 (vto-vfr)=vto-vfr:=wr_in (by omega) (by omega)
  cases hg:inB (vto-vfr) g.lo g.hi with
  |true=>
   rw[hg] at hgap
   simp -implicitDefEqProofs(maxSteps:=999999)(disch:=first|with_reducible rfl|omega|(simp only[nA,nS,nD]<;>omega)|fail)only[go_sem,t1,t2,t5,hlG,hi',cells_of (sz'.get ga),hqG (nat_cst i),hcG,hgG,hz2,cells_of g6,hqF (nat_cst fr),hqT (nat_cst to),hcF,hcT,wF,wT,ws,off_eq,hg,wr_succ]
   exact⟨_,_,rfl,sz'.trans s2,hok hgap,(by simp[ev_c,ev_put,t1]<;>rfl),(by simp[ev_c,ev_put,t2]<;>rfl),(by simp[ev_c,ev_put]<;>rfl)⟩
  |false=>
   rw[hg] at hgap
   have e:gapsB a tt=false:=hbad hgap
   rw[e] at q
   simp -implicitDefEqProofs(maxSteps:=999999)(disch:=first|with_reducible rfl|omega|(simp only[nA,nS,nD]<;>omega)|fail)only[go_sem,t1,t2,t5,hlG,hi',cells_of (sz'.get ga),hqG (nat_cst i),hcG,hgG,hz2,cells_of g6,hqF (nat_cst fr),hqT (nat_cst to),hcF,hcT,wF,wT,ws,off_eq,hg]
   exact q _ s02
 ·rintro s ⟨tm,z',rfl,sz',hall,t1,t2,t5⟩
  rw[List.take_length] at hall
  have e:gapsB a tt=true:=hall
  rw[e] at q
  simp -implicitDefEqProofs(maxSteps:=999999)(disch:=first|with_reducible rfl|omega|(simp only[nA,nS,nD]<;>omega)|fail)only[go_sem,t1,t2,t5,hlG,Int.lt_irrefl,cells_of (sz'.get ga)]
  exact q _ (sz.trans sz')
end Go.Ab.Tryz
namespace Go.Ab.Tryz
open Go.Proofs
def bitI (f:Nat→Bool):Nat→Int
 |0=>0
 |i+1=>bitI f i+if f i=true then 2^i else 0
theorem bitI_bd (f:Nat→Bool):∀i,0≤bitI f i∧bitI f i<2^i
 |0=>by simp[bitI]
 |i+1=>by
  have h:=bitI_bd f i
  have e:(2:Int)^(i+1)=2*2^i:=by rw[Int.pow_succ];omega
  unfold bitI
  split<;>omega
def missB (a:At)(ss gg tt:List Int)(i:Nat):Bool:=match a.rds[i]? with
 |some r=>decide (shw (ss.getD r.ck.toNat 0) (gg.getD r.ck.toNat 0) (timeF tt r.ev.toNat)≠r.sh)
 |none=>false
def missI (a:At)(ss gg tt:List Int):Int:=bitI (missB a ss gg tt) a.rds.length
theorem pow8 {i:Nat}(h:i≤8):1≤(2:Int)^i∧(2:Int)^i≤256:=by
 rcases(by omega:i=0∨i=1∨i=2∨i=3∨i=4∨i=5∨i=6∨i=7∨i=8) with rfl|rfl|rfl|rfl|rfl|rfl|rfl|rfl|rfl<;>decide
set_option maxHeartbeats 4000000 in
theorem Missed_ev {h:H}(hw:h.wf){a:At}{C R G:V}(x:AtAt h C R G a)(r:Right a){S Ga Tm:V}{ss gg tt:List Int}(t:TrAt h S Ga Tm ss gg tt)(ls:ss.length=a.cks.length)(lg:gg.length=a.cks.length)(hl:(tt.length:Int)=a.evs)(hb:∀t∈tt,0≤t∧t≤240)
  (hrun:∀(k:Nat) s g,ss[k]? =some s→gg[k]? =some g→RunIn s g) (Q:V→H→Prop) (q:∀h',h.Sub h'→Q (.int .i64 (missI a ss gg tt)) h'):
  Ev fnG fastA (.fn 93 [] []) [.agg (atV a C R G),.agg [S,Ga,Tm]] h Q:=by
 have oC:=x.c.one;have oR:=x.r.one;have oG:=x.g.one
 have oS:=t.s.one;have oGa:=t.g.one;have oTm:=t.t.one
 have hlR:=x.r.lenE
 have rl:=r.lens
 refine Ev_body (fd:=c93) rfl rfl rfl ?_
 obtain⟨z,hz⟩:∃z,(h.add (.cells .rw (atV a C R G))).add (.cells .rw [S,Ga,Tm])=z:=⟨_,rfl⟩
 have sz:h.Sub z:=by rw[←hz];exact(by repeat(first|assumption|exact H.Sub.refl (by assumption)|refine H.Sub.add ?_ _|refine H.Sub.set ?_ (by first|omega|(simp only[H.next_add,H.next_set,H.next_del]<;>omega)) (by first|omega|(simp only[H.next_add,H.next_set,H.next_del]<;>omega)) (by assumption) _))
 have ga:z.get h.next=some (.cells .rw (atV a C R G)):=by rw[←hz];simp -implicitDefEqProofs(maxSteps:=999999)(disch:=first|with_reducible rfl|omega|(simp only[nA,nS,nD]<;>omega)|fail)only[go_sem]
 have gt:z.get (h.next+1)=some (.cells .rw [S,Ga,Tm]):=by rw[←hz];simp -implicitDefEqProofs(maxSteps:=999999)(disch:=first|with_reducible rfl|omega|(simp only[nA,nS,nD]<;>omega)|fail)only[go_sem]
 simp -implicitDefEqProofs(maxSteps:=999999)(disch:=first|with_reducible rfl|omega|(simp only[nA,nS,nD]<;>omega)|fail)only[c93,go_sem,oC,oR,oG,oS,oGa,oTm]
 rw[hz]
 clear hz
 refine W_count a.rds.length (fun i s=>∃tm z',s=⟨tm,z',[]⟩∧z.Sub z'∧(Opd.t 2).ev tm=.ptr h.next 0∧(Opd.t 3).ev tm=.ptr (h.next+1) 0∧(Opd.t 5).ev tm=.int .i64 (bitI (missB a ss gg tt) i)∧(Opd.t 6).ev tm=.int .i64 (2^i)∧(Opd.t 7).ev tm=.int .i64 (i:Int)) ?_ ?_ (i:=0) (Nat.zero_le _)
  ⟨_,_,rfl,H.Sub.refl sz.wf,(by simp[ev_c,ev_put]<;>rfl),(by simp[ev_c,ev_put]<;>rfl),(by simp[ev_c,ev_put]<;>rfl),(by simp[ev_c,ev_put]<;>rfl),(by simp[ev_c,ev_put]<;>rfl)⟩
 ·rintro i s hi ⟨tm,z',rfl,sz',t2,t3,t5,t6,t7⟩
  have hi':(i:Int)<(a.rds.length:Int):=by omega
  have s0:=sz.trans sz'
  obtain⟨bR,oRR,cR,csR,_,hcR,hqR,hgR,_,_⟩:=(x.r.mono s0).at hi
  have hm:=List.getElem_mem hi
  have hg0:a.rds[i]? =some a.rds[i]:=List.getElem?_eq_getElem hi
  generalize a.rds[i]=rr at hgR hm hg0
  obtain⟨k,e,e1,e2,f1,f2,_⟩:=r.rdn hm
  have hkS:k<ss.length:=by omega
  have hkG:k<gg.length:=by omega
  have hel:e<tt.length:=by omega
  have hbt:=hb _ (List.getElem_mem hel)
  have vt:=timeF_at (List.getElem?_eq_getElem hel)
  have hrn:=hrun k _ _ (List.getElem?_eq_getElem hkS) (List.getElem?_eq_getElem hkG)
  have gS:ss.getD k 0=ss[k]:=by rw[List.getD_eq_getElem?_getD,List.getElem?_eq_getElem hkS];rfl
  have gG:gg.getD k 0=gg[k]:=by rw[List.getD_eq_getElem?_getD,List.getElem?_eq_getElem hkG];rfl
  have hms:missB a ss gg tt i=decide (shw ss[k] gg[k] tt[e]≠rr.sh):=by unfold missB;rw[hg0];simp only[e1,e2,Int.toNat_natCast,gS,gG,vt]
  simp only[encR,e1,e2] at hgR
  obtain⟨z2,hz2⟩:∃z2,z'.add (.cells .rw [.int .i64 (k:Int),.int .i64 (e:Int),.int .i64 rr.sh])=z2:=⟨_,rfl⟩
  have s2:z'.Sub z2:=by rw[←hz2];exact(H.Sub.refl s0.wf).add _
  have g8:z2.get z'.next=some (.cells .rw [.int .i64 (k:Int),.int .i64 (e:Int),.int .i64 rr.sh]):=by rw[←hz2];exact get_add_new rfl
  have s02:=s0.trans s2
  have gt2:=(sz'.trans s2).get gt
  obtain⟨bS,oSS,cS,csS,_,hcS,hqS,_,_,nS⟩:=(t.s.mono s02).at hkS
  obtain⟨bG,oGG,cG,csG,_,hcG,hqG,_,_,nG⟩:=(t.g.mono s02).at hkG
  obtain⟨bT,oTT,cT,csT,_,hcT,hqT,_,_,nT⟩:=(t.t.mono s02).at hel
  have wS:=nS (by decide)
  have wG:=nG (by decide)
  have wT:=nT (by decide)
  simp only[encI,List.getElem?_cons_zero] at wS wG wT
  generalize ss[k]=sk at wS hrn hms
  generalize gg[k]=gk at wG hrn hms
  generalize tt[e]=te at wT hbt hms
  have hp:=pow8 (i:=i) (by omega)
  have hbi:=bitI_bd (missB a ss gg tt) i
  have e3:(2:Int)^(i+1)=2*2^i:=by rw[Int.pow_succ];omega
  have w2:wr .i64 (2*2^i)=2^(i+1):=by rw[e3];exact wr_in (by omega) (by omega)
  have w5:wr .i64 (bitI (missB a ss gg tt) i+2^i)=bitI (missB a ss gg tt) i+2^i:=wr_in (by omega) (by omega)
  simp -implicitDefEqProofs(maxSteps:=999999)(disch:=first|with_reducible rfl|omega|(simp only[nA,nS,nD]<;>omega)|fail)only[go_sem,t2,t3,t5,t6,t7,hlR,hi',cells_of (sz'.get ga),hqR (nat_cst i),hcR,hgR,hz2,cells_of g8,cells_of gt2,hqS (nat_cst k),hqG (nat_cst k),hqT (nat_cst e),hcS,hcG,hcT,wS,wG,wT]
  try rw[hz2]
  clear hz2
  refine refShown_ev s02.wf hrn hbt.1 hbt.2 _ ?_
  by_cases hc:shw sk gk te=rr.sh
  ·have hmf:missB a ss gg tt i=false:=by rw[hms];simp[hc]
   have hb1:bitI (missB a ss gg tt) (i+1)=bitI (missB a ss gg tt) i:=by rw[bitI,hmf];simp
   simp -implicitDefEqProofs(maxSteps:=999999)(disch:=first|with_reducible rfl|omega|(simp only[nA,nS,nD]<;>omega)|fail)only[go_sem,t2,t3,t5,t6,t7,hc,ne_eq,not_true_eq_false,decide_true,decide_false,cells_of g8,cells_of gt2,hcS,hcG,hcT,wS,wG,wT,w2,wr_succ]
   exact⟨_,_,rfl,sz'.trans s2,(by simp[ev_c,ev_put,t2]<;>rfl),(by simp[ev_c,ev_put,t3]<;>rfl),by rw[hb1];exact(by simp[ev_c,ev_put,t5]<;>rfl),(by simp[ev_c,ev_put]<;>rfl),(by simp[ev_c,ev_put]<;>rfl)⟩
  ·have hmf:missB a ss gg tt i=true:=by rw[hms];simp[hc]
   have hb1:bitI (missB a ss gg tt) (i+1)=bitI (missB a ss gg tt) i+2^i:=by rw[bitI,hmf];simp
   simp -implicitDefEqProofs(maxSteps:=999999)(disch:=first|with_reducible rfl|omega|(simp only[nA,nS,nD]<;>omega)|fail)only[go_sem,t2,t3,t5,t6,t7,hc,ne_eq,not_false_eq_true,decide_true,decide_false,cells_of g8,cells_of gt2,hcS,hcG,hcT,wS,wG,wT,w2,w5,wr_succ]
   exact⟨_,_,rfl,sz'.trans s2,(by simp[ev_c,ev_put,t2]<;>rfl),(by simp[ev_c,ev_put,t3]<;>rfl),by rw[hb1];exact(by simp[ev_c,ev_put]<;>rfl),(by simp[ev_c,ev_put]<;>rfl),(by simp[ev_c,ev_put]<;>rfl)⟩
 ·rintro s ⟨tm,z',rfl,sz',t2,t3,t5,t6,t7⟩
  simp -implicitDefEqProofs(maxSteps:=999999)(disch:=first|with_reducible rfl|omega|(simp only[nA,nS,nD]<;>omega)|fail)only[go_sem,t2,t3,t5,t6,t7,hlR,Int.lt_irrefl,cells_of (sz'.get ga)]
  exact q _ (sz.trans sz')
end Go.Ab.Tryz
namespace Go.Ab
end Go.Ab
namespace Go.Ab.Tryz
open Go.Proofs
structure AtOw (h0 h:H)(C R G:V)(a:At):Prop where
 c:OwnC h0 h C 4 (a.cks.map encC)
 r:OwnC h0 h R 3 (a.rds.map encR)
 g:OwnC h0 h G 4 (a.gps.map encG)
 cr:∀b,blkOf C b→¬blkOf R b
 cg:∀b,blkOf C b→¬blkOf G b
 rg:∀b,blkOf R b→¬blkOf G b
variable {h0 h1 h h':H} {C R G:V} {a:At}
theorem AtOw.sub (o:AtOw h0 h C R G a):h0.Sub h:=o.c.1
theorem AtOw.at_ (o:AtOw h0 h C R G a)(l:SmallA a):AtAt h C R G a:=
 ⟨o.c.sl (by rw[List.length_map];have:=l.c;omega),o.r.sl (by rw[List.length_map];have:=l.r;omega),o.g.sl (by rw[List.length_map];have:=l.g;omega)⟩
theorem AtOw.mono (o:AtOw h0 h C R G a)(s:h.Sub h'):AtOw h0 h' C R G a:=⟨o.c.mono s,o.r.mono s,o.g.mono s,o.cr,o.cg,o.rg⟩
theorem AtOw.base (o:AtOw h1 h C R G a)(s:h0.Sub h1):AtOw h0 h C R G a:=⟨o.c.base s,o.r.base s,o.g.base s,o.cr,o.cg,o.rg⟩
def atBlk (C R G:V)(b:Nat):Prop:=blkOf C b∨blkOf R b∨blkOf G b
theorem AtOw.blk (o:AtOw h0 h C R G a){b:Nat}(hb:atBlk C R G b):h0.next≤b∧b<h.next:=by
 rcases hb with hb|hb|hb
 ·exact⟨(o.c.blk hb).1,(o.c.blk hb).2.1⟩
 ·exact⟨(o.r.blk hb).1,(o.r.blk hb).2.1⟩
 ·exact⟨(o.g.blk hb).1,(o.g.blk hb).2.1⟩
theorem AtOw.keep (o:AtOw h0 h C R G a){S:Nat→Prop}(k:Keeps S h h')(s:h0.Sub h')(n:∀b,atBlk C R G b→¬S b):AtOw h0 h' C R G a:=
 ⟨o.c.keep k s fun b hb=>n b (.inl hb),o.r.keep k s fun b hb=>n b (.inr (.inl hb)),o.g.keep k s fun b hb=>n b (.inr (.inr hb)),o.cr,o.cg,o.rg⟩
theorem OwnC.full {sz n b:Nat}{x:V}{rows:List (List V)}(hs:h0.Sub h)(hx:x=.sl b 0 n (.fix n))(hn:n=rows.length)(hr:∀r∈rows,r.length=sz)(l1:h0.next≤b)(l2:b<h.next)(hg:h.get b=some (.cells .rw rows.flatten)):OwnC h0 h x sz rows:=by
 subst hn
 exact⟨hs,hr,.inr (.inr ⟨b,rows.length,[],hx,l1,l2,by rw[List.append_nil];exact hg,by rw[List.length_nil,Nat.add_zero],Nat.le_refl _⟩)⟩
theorem AtNew.ow (n:AtNew h0 h C R G a):AtOw h0 h C R G a:=by
 obtain⟨b1,b2,b3,rfl,rfl,rfl,l0,l1,l2,l3,g1,g2,g3⟩:=n.is
 refine⟨OwnC.full n.s rfl (by simp) (fun r hr=>by obtain⟨c,_,rfl⟩:=List.mem_map.1 hr;rfl) (by omega) (by omega) g1,OwnC.full n.s rfl (by simp) (fun r hr=>by obtain⟨c,_,rfl⟩:=List.mem_map.1 hr;rfl) (by omega) (by omega) g2,
  OwnC.full n.s rfl (by simp) (fun r hr=>by obtain⟨c,_,rfl⟩:=List.mem_map.1 hr;rfl) (by omega) (by omega) g3,?_,?_,?_⟩<;>(rintro b ⟨_,_,_,e⟩ ⟨_,_,_,e'⟩;cases e;cases e';omega)
def At.none:At:=⟨0,0,[],[],[]⟩
theorem AtOw.none (s:h0.Sub h):AtOw h0 h .nils .nils .nils At.none:=⟨(OwnSl.nil s 4).c,(OwnSl.nil s 3).c,(OwnSl.nil s 4).c,fun b hb=>(blkOf_nils hb).elim,fun b hb=>(blkOf_nils hb).elim,fun b hb=>(blkOf_nils hb).elim⟩
end Go.Ab.Tryz
namespace Go.Ab.Tryz
open Go.Proofs
end Go.Ab.Tryz
namespace Go.Ab.Tryz
open Go.Proofs
end Go.Ab.Tryz
namespace Go.Ab.Tryz
open Go.Proofs
theorem sl_noInt {h:H}{x:V}{sz:Nat}{rows:List (List V)}(a:SlAt h x sz rows)(k:IntKind)(m:Int):x≠.int k m:=by
 rcases a.2.2 with⟨e,_⟩|⟨_,_,_,_,e,_⟩<;>rw[e]<;>simp
theorem ints_keep {h h':H}{S:Nat→Prop}{x:V}{l:List Int}(w:SlAt h x 1 (l.map encI))(k:Keeps S h h')(n:∀b cs,S b→h.cells b=some cs→∀m,V.int .i64 m ∉cs):SlAt h' x 1 (l.map encI):=by
 obtain⟨a1,a0,a2⟩:=w
 refine⟨a1,a0,?_⟩
 rcases a2 with a2|⟨b,o,c,cs,e1,e2,e3⟩
 ·exact .inl a2
 ·refine .inr ⟨b,o,c,cs,e1,?_,e3⟩
  cases hm:l with
  |nil=>exact .inl (by simp)
  |cons m ms'=>
   rw[hm] at e2 e3
   refine .inr ?_
   have e2:=e2.resolve_left (by simp)
   refine k.cells e2 fun hs=>n b cs hs e2 m ?_
   have h1:=(getN_eq.1 e3).1
   have h2:V.int .i64 m∈(((m::ms').map encI).flatten):=by simp[encI]
   rw[h1] at h2
   exact List.mem_of_mem_drop (List.mem_of_mem_take h2)
def Up (n:Nat)(x:V):Prop:=∀b,blkOf x b→n≤b
theorem Up.nils (n:Nat):Up n .nils:=fun b h=>(blkOf_nils h).elim
theorem Up.low {n n':Nat}{x:V}(u:Up n x)(h:n'≤n):Up n' x:=fun b hb=>Nat.le_trans h (u b hb)
theorem Up.sl {n b o k:Nat}{c:Cap}(h:n≤b):Up n (.sl b o k c):=fun b' ⟨_,_,_,e⟩=>by cases e;exact h
theorem ownUp {h0 h:H}{x:V}{sz:Nat}{rows:List (List V)}(a:OwnSl h0 h x sz rows):Up h0.next x:=fun b hb=>(a.blk hb).1
theorem slKeepU {h h':H}{S:Nat→Prop}{x:V}{sz n:Nat}{rows:List (List V)}(w:SlAt h x sz rows)(u:Up n x)(k:Keeps S h h')(hS:∀b,S b→b<n):SlAt h' x sz rows:=by
 obtain⟨a1,a0,a2⟩:=w
 refine⟨a1,a0,?_⟩
 rcases a2 with a2|⟨b,o,c,cs,e1,e2,e3⟩
 ·exact .inl a2
 ·refine .inr ⟨b,o,c,cs,e1,e2.imp id fun e2=>k.cells e2 fun hs=>?_,e3⟩
  have h1:=hS b hs
  have h2:=u b ⟨_,_,_,e1⟩
  omega
structure LL (h0 h:H)(y:V)(L:List (List Int))(vs:List V):Prop where
 o:OwnSl h0 h y 1 (vs.map fun v=>[v])
 len:vs.length=L.length
 e:∀(i:Nat) (v:V) (l:List Int),vs[i]? =some v→L[i]? =some l→SlAt h v 1 (l.map encI)
 u:∀v∈vs,Up h0.next v
variable {h0 h h':H} {y:V} {L:List (List Int)} {vs:List V}
theorem LL.mono (k:LL h0 h y L vs)(s:h.Sub h'):LL h0 h' y L vs:=⟨k.o.mono s,k.len,fun i v l h1 h2=>(k.e i v l h1 h2).mono s,k.u⟩
theorem LL.nil (s:h0.Sub h):LL h0 h .nils [] []:=⟨OwnSl.nil s 1,rfl,fun i v l h1 _=>by simp at h1,fun v hv=>by cases hv⟩
theorem LL.vs_noInt (k:LL h0 h y L vs):∀v∈vs,∀m,v≠.int .i64 m:=fun v hv m=>by
 obtain⟨i,hi,e⟩:=List.getElem_of_mem hv
 have h1:vs[i]? =some v:=by rw[List.getElem?_eq_getElem hi,e]
 have hi2:i<L.length:=by rw[←k.len];exact hi
 have h2:L[i]? =some L[i]:=List.getElem?_eq_getElem hi2
 exact sl_noInt (k.e i v _ h1 h2) _ _
theorem flat_single:∀vs:List V,(vs.map fun v=>[v]).flatten=vs
 |[]=>rfl
 |a::l=>by rw[List.map_cons,List.flatten_cons,flat_single l];rfl
theorem LL.one (k:LL h0 h y L vs):∀v∈vs,v.one=true:=fun v hv=>by
 obtain⟨i,hi,e⟩:=List.getElem_of_mem hv
 have h1:vs[i]? =some v:=by rw[List.getElem?_eq_getElem hi,e]
 have hi2:i<L.length:=by rw[←k.len];exact hi
 have h2:L[i]? =some L[i]:=List.getElem?_eq_getElem hi2
 exact(k.e i v _ h1 h2).one
theorem LL.push (k:LL h0 h y L vs)(hw0:h0.wf)(hl:L.length≤1000000){h1:H}(s:h.Sub h1){v:V}{l:List Int}(hv:SlAt h1 v 1 (l.map encI))(hu:Up h0.next v){Q:V→H→Prop}(q:∀y' h',LL h0 h' y' (L++[l]) (vs++[v])→Q y' h'):
  P2 (e_app' (h1.add (.cells .rw [v])) 1 24 y (.sl h1.next 0 1 (.fix 1))) Q:=by
 have s2:=(H.Sub.refl s.wf).add (.cells .rw [v])
 have k2:=k.mono (s.trans s2)
 have hv2:=hv.mono s2
 have hlen:=k.len
 refine k2.o.app1 (by_:=24) (r:=[v]) hw0 rfl (by omega) (SlAt.new _ rfl rfl (by simp) (by simp) (by simp)) (by rw[allOne_cons,hv.one];rfl) (by rw[List.length_map];omega) (by rw[List.length_map];omega) fun h' o' kk _=>q _ _ ⟨by rw[List.map_append];exact o',by simp[hlen],fun i v' l' e1 e2=>?_,fun v' hv'=>?_⟩
 rotate_left
 ·rcases List.mem_append.1 hv' with hv'|hv'
  ·exact k.u v' hv'
  ·rw[List.mem_singleton] at hv';rw[hv'];exact hu
 have hno:∀b cs,blkOf y b→(h1.add (.cells .rw [v])).cells b=some cs→∀m,V.int .i64 m ∉cs:=fun b cs hb hc=>by
  rcases k2.o.2.2 with⟨e,_⟩|⟨b2,e,_,_,g⟩
  ·rw[e] at hb;exact(blkOf_nils hb).elim
  ·obtain⟨o,n,c,e2⟩:=hb
   rw[e] at e2;cases e2
   rw[cells_of g] at hc;cases hc
   rw[flat_single]
   exact fun m hm=>k.vs_noInt _ hm m rfl
 rcases mem_get_app.1 e1 with e1|⟨q1,rfl⟩
 ·rcases mem_get_app.1 e2 with e2|⟨q2,_⟩
  ·exact ints_keep (k2.e i v' l' e1 e2) kk hno
  ·have:=getl e1;omega
 ·rcases mem_get_app.1 e2 with e2|⟨_,rfl⟩
  ·have:=getl e2;omega
  ·exact ints_keep hv2 kk hno
def LR (n:Nat)(h:H)(y:V)(L:List (List Int)):Prop:=∃vs:List V,SlAt h y 1 (vs.map fun v=>[v])∧vs.length=L.length∧(∀(i:Nat) (v:V) (l:List Int),vs[i]? =some v→L[i]? =some l→SlAt h v 1 (l.map encI))∧Up n y∧∀v∈vs,Up n v
theorem LL.rd (k:LL h0 h y L vs)(hl:L.length≤1000000):LR h0.next h y L:=⟨vs,k.o.c.sl (by rw[List.length_map,k.len];omega),k.len,k.e,(ownUp k.o),k.u⟩
variable {n n':Nat}
theorem LR.mono (k:LR n h y L)(s:h.Sub h'):LR n h' y L:=by
 obtain⟨vs,k1,k2,k3,k4⟩:=k
 exact⟨vs,k1.mono s,k2,fun i v l h1 h2=>(k3 i v l h1 h2).mono s,k4⟩
theorem LR.low (k:LR n h y L)(s:n'≤n):LR n' h y L:=by
 obtain⟨vs,k1,k2,k3,k4,k5⟩:=k
 exact⟨vs,k1,k2,k3,k4.low s,fun v hv=>(k5 v hv).low s⟩
theorem LR.lenE (k:LR n h y L):q_len y=some (.int .i64 (L.length:Int)):=by
 obtain⟨vs,k1,k2,k3⟩:=k
 have:=k1.lenE
 rw[←k2];exact this
theorem LR.at_ (k:LR n h y L){i:Nat}(hi:i<L.length):∃b o cs v,h.cells b=some cs∧(∀{u:V},nat? u=some i→q_iad 1 y u=some (.ptr b o))∧nth o cs=some v∧SlAt h v 1 (L[i].map encI)∧Up n v:=by
 obtain⟨vs,k1,k2,k3,k4,k5⟩:=k
 have hi2:i<vs.length:=by rw[k2];exact hi
 obtain⟨b,o,c,cs,_,hc,hq,_,_,hn⟩:=k1.at hi2
 have v0:=hn (by decide)
 simp only[List.getElem?_cons_zero] at v0
 exact⟨b,_,cs,vs[i],hc,hq,v0,k3 i _ _ (List.getElem?_eq_getElem hi2) (List.getElem?_eq_getElem hi),k5 _ (List.getElem_mem hi2)⟩
end Go.Ab.Tryz
namespace Go.Ab.Tryz
open Go.Proofs
theorem flat_encI:∀l:List Int,(l.map encI).flatten=l.map iv
 |[]=>rfl
 |a::l=>by rw[List.map_cons,List.flatten_cons,flat_encI l];rfl
theorem cons_app {h:H}(hw:h.wf){m:Int}{v:V}{l:List Int}(hv:SlAt h v 1 (l.map encI))(hl:l.length≤1000){Q:V→H→Prop}(q:∀y h',h.Sub h'→SlAt h' y 1 ((m::l).map encI)→Up h.next y→Q y h'):
  P2 (e_app' (h.add (.cells .rw [.int .i64 m])) 1 8 (.sl h.next 0 1 (.fix 1)) v) Q:=by
 have s1:h.Sub (h.add (.cells .rw [.int .i64 m])):=(H.Sub.refl hw).add _
 have hv1:=(hv.mono s1).elems
 rw[flat_encI,List.length_map] at hv1
 have x1:SlAt (h.add (.cells .rw [.int .i64 m])) (.sl h.next 0 1 (.fix 1)) 1 [encI m]:=SlAt.new _ rfl rfl rfl (by simp[encI]) (by simp)
 rw[e_app_eq,hv1.1,hv1.2]
 simp only[ob_some]
 cases l with
 |nil=>
  rw[List.length_nil,e_app_fix0]
  have:Nat.ble 1 1=true:=rfl
  rw[this,og_true,P2_some]
  exact q _ _ s1 x1 (Up.sl (Nat.le_refl _))
 |cons a l=>
  rw[List.length_cons] at hl
  rw[List.length_cons,e_app_full (by omega) x1.elems.1 (by omega) (by omega),grown_eq,P2_some]
  refine q _ _ (s1.add _) (⟨fun r hr=>by obtain⟨_,_,rfl⟩:=List.mem_map.1 hr;rfl,by rw[List.length_map,List.length_cons,List.length_cons];omega,.inr ⟨_,0,_,_,by rw[List.length_map,List.length_cons,List.length_cons];congr 1;omega,.inr (cells_add_new rfl),getN_eq.2 ⟨?_,?_⟩⟩⟩:SlAt _ _ 1 _) (Up.sl (by rw[H.next_add];omega))
  ·rw[List.drop_zero,flat_encI]
   have e:([encI m].flatten++(a::l).map iv)=(m::a::l).map iv:=rfl
   rw[e,List.length_map,Nat.mul_one]
   have:((m::a::l).map iv).length=(m::a::l).length:=List.length_map _
   rw[←this,List.take_length]
  ·simp[encI]
def timesL (a:At):Nat→List (List Int)
 |0=>[[]]
 |k+1=>(List.range (a.mins.toNat+1)).flatMap fun(m:Nat)=>(timesL a k).map fun l=>(m:Int)::l
theorem flat_len {α β:Type}{f:α→List β}{c:Nat}:∀{l:List α},(∀x∈l,(f x).length=c)→(l.flatMap f).length=l.length*c
 |[],_=>by simp
 |a::l,h=>by
  rw[List.flatMap_cons,List.length_append,h a (List.mem_cons_self ..),flat_len fun x hx=>h x (List.mem_cons_of_mem _ hx),List.length_cons,Nat.succ_mul]
  omega
theorem timesL_len (a:At):∀k,(timesL a k).length=(a.mins.toNat+1)^k
 |0=>rfl
 |k+1=>by
  rw[timesL,flat_len (c:=(timesL a k).length) (fun x _=>List.length_map _),List.length_range,timesL_len a k,Nat.pow_succ,Nat.mul_comm]
theorem timesL_mem {a:At}:∀{k:Nat} {l:List Int},l∈timesL a k↔l.length=k∧∀t∈l,0≤t∧t<a.mins.toNat+1
 |0,l=>by
  rw[timesL,List.mem_singleton]
  constructor
  ·rintro rfl;exact⟨rfl,fun t ht=>by cases ht⟩
  ·rintro⟨h,_⟩;exact List.length_eq_zero_iff.1 h
 |k+1,l=>by
  rw[timesL,List.mem_flatMap]
  constructor
  ·rintro⟨m,hm,hl⟩
   obtain⟨l',hl',rfl⟩:=List.mem_map.1 hl
   obtain⟨h1,h2⟩:=timesL_mem.1 hl'
   have:=List.mem_range.1 hm
   refine⟨by rw[List.length_cons,h1],fun t ht=>?_⟩
   rcases List.mem_cons.1 ht with rfl|ht
   ·omega
   ·exact h2 t ht
  ·rintro⟨h1,h2⟩
   cases l with
   |nil=>cases h1
   |cons t l=>
    have ht:=h2 t (List.mem_cons_self ..)
    refine⟨t.toNat,List.mem_range.2 (by omega),List.mem_map.2 ⟨l,timesL_mem.2 ⟨by simpa using h1,fun x hx=>h2 x (List.mem_cons_of_mem _ hx)⟩,?_⟩⟩
    rw[Int.toNat_of_nonneg ht.1]
set_option maxHeartbeats 4000000 in
theorem times_ev {a:At}(r:Right a):∀(k:Nat) {h:H} (hw:h.wf) {C R G:V} (x:AtAt h C R G a) {e:Nat} (he:(e:Int)+k=a.evs) (hb:(a.mins.toNat+1)^k≤100000) (Q:V→H→Prop) (q:∀y h',h.Sub h'→LR h.next h' y (timesL a k)→Q y h'),
  Ev fnG fastA (.fn 94 [] []) [.agg (atV a C R G),.int .i64 (e:Int)] h Q:=by
 have hev:=r.evs
 have hmn:=r.mins
 intro k
 induction k with
 |zero=>
  intro h hw C R G x e he hb Q q
  have oC:=x.c.one;have oR:=x.r.one;have oG:=x.g.one
  have hee:(e:Int)=a.evs:=by omega
  refine Ev_body (fd:=c94) rfl rfl rfl ?_
  obtain⟨z,hz⟩:∃z,h.add (.cells .rw (atV a C R G))=z:=⟨_,rfl⟩
  have sz:h.Sub z:=by rw[←hz];exact(by repeat(first|assumption|exact H.Sub.refl (by assumption)|refine H.Sub.add ?_ _|refine H.Sub.set ?_ (by first|omega|(simp only[H.next_add,H.next_set,H.next_del]<;>omega)) (by first|omega|(simp only[H.next_add,H.next_set,H.next_del]<;>omega)) (by assumption) _))
  have ga:z.get h.next=some (.cells .rw (atV a C R G)):=by rw[←hz];exact get_add_new rfl
  simp -implicitDefEqProofs(maxSteps:=999999)(disch:=first|with_reducible rfl|omega|(simp only[nA,nS,nD]<;>omega)|fail)only[c94,go_sem,oC,oR,oG,hz,cells_of ga,hee]
  try rw[hz]
  refine q _ _ (sz.add _) ⟨[.nils],SlAt.new _ (by rw[←hz]) rfl rfl (by simp) (by simp),rfl,fun i v l h1 h2=>?_,Up.sl sz.next,fun v hv=>by rw[List.mem_singleton] at hv;rw[hv];exact Up.nils _⟩
  have hi:=getl h1
  have:i=0:=by simp at hi;exact hi
  subst this
  cases h1;cases h2
  exact⟨by simp,by simp,.inl ⟨rfl,rfl⟩⟩
 |succ k ih=>
  intro h hw C R G x e he hb Q q
  have oC:=x.c.one;have oR:=x.r.one;have oG:=x.g.one
  have hee:¬(e:Int)=a.evs:=by omega
  have we:wr .i64 ((e:Int)+1)=((e+1:Nat):Int):=by rw[wr_in (by omega) (by omega)];omega
  have hb1:(a.mins.toNat+1)^k≤100000:=Nat.le_trans (Nat.pow_le_pow_right (by omega) (by omega)) hb
  refine Ev_body (fd:=c94) rfl rfl rfl ?_
  obtain⟨z,hz⟩:∃z,h.add (.cells .rw (atV a C R G))=z:=⟨_,rfl⟩
  have sz:h.Sub z:=by rw[←hz];exact(by repeat(first|assumption|exact H.Sub.refl (by assumption)|refine H.Sub.add ?_ _|refine H.Sub.set ?_ (by first|omega|(simp only[H.next_add,H.next_set,H.next_del]<;>omega)) (by first|omega|(simp only[H.next_add,H.next_set,H.next_del]<;>omega)) (by assumption) _))
  have ga:z.get h.next=some (.cells .rw (atV a C R G)):=by rw[←hz];exact get_add_new rfl
  simp -implicitDefEqProofs(maxSteps:=999999)(disch:=first|with_reducible rfl|omega|(simp only[nA,nS,nD]<;>omega)|fail)only[c94,go_sem,oC,oR,oG,hz,cells_of ga,hee,we]
  try rw[hz]
  clear hz
  refine ih sz.wf (x.mono sz) (e:=e+1) (by omega) hb1 _ fun yr z1 s1 kr=>?_
  have hlr:=kr.lenE
  have s01:=sz.trans s1
  have ga1:=s1.get ga
  have hw1:=s01.wf
  obtain⟨M,hM⟩:∃M:Nat,a.mins=M:=⟨a.mins.toNat,by omega⟩
  have hM2:a.mins.toNat=M:=by omega
  have hfull:(timesL a (k+1))=(List.range (M+1)).flatMap fun(m:Nat)=>(timesL a k).map fun l=>(m:Int)::l:=by rw[timesL,hM2]
  have hlen1:(timesL a k).length≤100000:=by rw[timesL_len];exact hb1
  have hpre:∀i,i≤M+1→((List.range i).flatMap fun(m:Nat)=>(timesL a k).map fun l=>(m:Int)::l).length≤100000:=fun i hi=>by
   rw[flat_len (c:=(timesL a k).length) (fun x _=>List.length_map _),List.length_range,timesL_len,hM2]
   have h1:=Nat.mul_le_mul_right ((M+1)^k) hi
   rw[hM2,Nat.pow_succ,Nat.mul_comm] at hb
   omega
  simp -implicitDefEqProofs(maxSteps:=999999)(disch:=first|with_reducible rfl|omega|(simp only[nA,nS,nD]<;>omega)|fail)only[go_sem]
  refine W_count (M+1) (fun i s=>∃tm z2 y vs,s=⟨tm,z2,[]⟩∧LL z1 z2 y ((List.range i).flatMap fun(m:Nat)=>(timesL a k).map fun l=>(m:Int)::l) vs∧
    (Opd.t 2).ev tm=.ptr h.next 0∧(Opd.t 5).ev tm=yr∧(Opd.t 6).ev tm=y∧(Opd.t 7).ev tm=.int .i64 (i:Int)) ?_ ?_ (i:=0) (Nat.zero_le _)
   ⟨_,_,_,_,rfl,LL.nil (H.Sub.refl hw1),(by simp[ev_c,ev_put]<;>rfl),(by simp[ev_c,ev_put]<;>rfl),(by simp[ev_c,ev_put]<;>rfl),(by simp[ev_c,ev_put]<;>rfl)⟩
  ·rintro i s hi ⟨tm,z2,y,vs,rfl,ll,t2,t5,t6,t7⟩
   have hi':(i:Int)≤(M:Int):=by omega
   have s2:=ll.o.1
   simp -implicitDefEqProofs(maxSteps:=999999)(disch:=first|with_reducible rfl|omega|(simp only[nA,nS,nD]<;>omega)|fail)only[go_sem,t2,t5,t6,t7,cells_of (s2.get ga1),hM,hi']
   refine W_count (timesL a k).length (fun j s=>∃tm z2 y vs,s=⟨tm,z2,[]⟩∧LL z1 z2 y (((List.range i).flatMap fun(m:Nat)=>(timesL a k).map fun l=>(m:Int)::l)++((timesL a k).take j).map fun l=>(i:Int)::l) vs∧
     (Opd.t 2).ev tm=.ptr h.next 0∧(Opd.t 5).ev tm=yr∧(Opd.t 6).ev tm=y∧(Opd.t 7).ev tm=.int .i64 (i:Int)∧(Opd.t 8).ev tm=.int .i64 (j:Int)) ?_ ?_ (i:=0) (Nat.zero_le _)
    ⟨_,_,_,_,rfl,by simpa using ll,(by simp[ev_c,ev_put,t2]<;>rfl),(by simp[ev_c,ev_put,t5]<;>rfl),(by simp[ev_c,ev_put,t6]<;>rfl),(by simp[ev_c,ev_put,t7]<;>rfl),(by simp[ev_c,ev_put]<;>rfl)⟩
   ·clear ll t2 t5 t6 t7 s2
    rintro j s hj ⟨tm,z2,y,vs,rfl,ll,t2,t5,t6,t7,t8⟩
    have hj':(j:Int)<((timesL a k).length:Int):=by omega
    have s2:=ll.o.1
    obtain⟨bb,o,cs,v,hc,hq,hn,hv,_⟩:=(kr.mono s2).at_ hj
    have hlk:=(timesL_mem.1 (List.getElem_mem hj)).1
    have hst:(timesL a k).take (j+1)=(timesL a k).take j++[(timesL a k)[j]]:=by rw[List.take_add_one,List.getElem?_eq_getElem hj];rfl
    have hlt:=hpre i (by omega)
    have s2a:=(H.Sub.refl s2.wf).add (.cells .rw [.int .i64 (i:Int)])
    simp -implicitDefEqProofs(maxSteps:=999999)(disch:=first|with_reducible rfl|omega|(simp only[nA,nS,nD]<;>omega)|fail)only[go_sem,t2,t5,t6,t7,t8,hlr,hj',hq (nat_cst j),hc,s2a.cells hc,hn]
    refine cons_app s2.wf hv (by omega) fun y3 z3 s3 x3 u3=>?_
    have o3:=x3.one
    simp -implicitDefEqProofs(maxSteps:=999999)(disch:=first|with_reducible rfl|omega|(simp only[nA,nS,nD]<;>omega)|fail)only[go_sem,t2,t5,t6,t7,t8,o3,cells_one o3]
    refine ll.push hw1 (by rw[List.length_append,List.length_map,List.length_take];omega) s3 x3 (u3.low s2.next) fun y4 z4 l4=>?_
    simp -implicitDefEqProofs(maxSteps:=999999)(disch:=first|with_reducible rfl|omega|(simp only[nA,nS,nD]<;>omega)|fail)only[go_sem,t2,t5,t6,t7,t8,wr_succ]
    exact⟨_,_,_,_,rfl,by rw[hst,List.map_append,←List.append_assoc];exact l4,(by simp[ev_c,ev_put,t2]<;>rfl),(by simp[ev_c,ev_put,t5]<;>rfl),(by simp[ev_c,ev_put]<;>rfl),(by simp[ev_c,ev_put,t7]<;>rfl),(by simp[ev_c,ev_put]<;>rfl)⟩
   ·clear ll t2 t5 t6 t7 s2
    rintro s ⟨tm,z2,y,vs,rfl,ll,t2,t5,t6,t7,t8⟩
    have hjj:¬((timesL a k).length:Int)<((timesL a k).length:Int):=by omega
    rw[List.take_length] at ll
    have w7:wr .i64 ((i:Int)+1)=((i+1:Nat):Int):=by rw[wr_in (by omega) (by omega)];omega
    simp -implicitDefEqProofs(maxSteps:=999999)(disch:=first|with_reducible rfl|omega|(simp only[nA,nS,nD]<;>omega)|fail)only[go_sem,t2,t5,t6,t7,t8,hlr,hjj,w7]
    exact⟨_,_,_,_,rfl,by(try rw[List.range_succ]);rw[List.flatMap_append];simpa using ll,(by simp[ev_c,ev_put,t2]<;>rfl),(by simp[ev_c,ev_put,t5]<;>rfl),(by simp[ev_c,ev_put,t6]<;>rfl),(by simp[ev_c,ev_put]<;>rfl)⟩
  ·rintro s ⟨tm,z2,y,vs,rfl,ll,t2,t5,t6,t7⟩
   have hi':¬((M+1:Nat):Int)≤(M:Int):=by omega
   have s2:=ll.o.1
   rw[←hfull] at ll
   simp -implicitDefEqProofs(maxSteps:=999999)(disch:=first|with_reducible rfl|omega|(simp only[nA,nS,nD]<;>omega)|fail)only[go_sem,t2,t5,t6,t7,cells_of (s2.get ga1),hM,hi']
   exact q _ _ (s01.trans s2) ((ll.rd (by rw[timesL_len];omega)).low s01.next)
end Go.Ab.Tryz
namespace Go.Ab.Tryz
open Go.Proofs
theorem cons2_app {h:H}(hw:h.wf){m n:Int}{v:V}{l:List Int}(hv:SlAt h v 1 (l.map encI))(hl:l.length≤1000){Q:V→H→Prop}(q:∀y h',h.Sub h'→SlAt h' y 1 ((m::n::l).map encI)→Up h.next y→Q y h'):
  P2 (e_app' (h.add (.cells .rw [.int .i64 m,.int .i64 n])) 1 8 (.sl h.next 0 2 (.fix 2)) v) Q:=by
 have s1:h.Sub (h.add (.cells .rw [.int .i64 m,.int .i64 n])):=(H.Sub.refl hw).add _
 have hv1:=(hv.mono s1).elems
 rw[flat_encI,List.length_map] at hv1
 have x1:SlAt (h.add (.cells .rw [.int .i64 m,.int .i64 n])) (.sl h.next 0 2 (.fix 2)) 1 [encI m,encI n]:=SlAt.new _ rfl rfl rfl (by simp[encI]) (by simp)
 rw[e_app_eq,hv1.1,hv1.2]
 simp only[ob_some]
 cases l with
 |nil=>
  rw[List.length_nil,e_app_fix0]
  have:Nat.ble 2 2=true:=rfl
  rw[this,og_true,P2_some]
  exact q _ _ s1 x1 (Up.sl (Nat.le_refl _))
 |cons a l=>
  rw[List.length_cons] at hl
  rw[List.length_cons,e_app_full (by omega) x1.elems.1 (by omega) (by omega),grown_eq,P2_some]
  refine q _ _ (s1.add _) (⟨fun r hr=>by obtain⟨_,_,rfl⟩:=List.mem_map.1 hr;rfl,by rw[List.length_map,List.length_cons,List.length_cons,List.length_cons];omega,.inr ⟨_,0,_,_,by rw[List.length_map,List.length_cons,List.length_cons,List.length_cons];congr 1;omega,.inr (cells_add_new rfl),getN_eq.2 ⟨?_,?_⟩⟩⟩:SlAt _ _ 1 _) (Up.sl (by rw[H.next_add];omega))
  ·rw[List.drop_zero,flat_encI]
   have e:([encI m,encI n].flatten++(a::l).map iv)=(m::n::a::l).map iv:=rfl
   rw[e,List.length_map,Nat.mul_one]
   have:((m::n::a::l).map iv).length=(m::n::a::l).length:=List.length_map _
   rw[←this,List.take_length]
  ·simp[encI]
def runsL:List Ck→List (List Int)
 |[]=>[[]]
 |c::cs=>(List.range c.ns).flatMap fun(u:Nat)=>(List.range c.ng).flatMap fun(v:Nat)=>(runsL cs).map fun l=>(c.sl+u)::(c.gl+v)::l
def runsN:List Ck→Nat
 |[]=>1
 |c::cs=>c.ns*(c.ng*runsN cs)
theorem runsL_len:∀cs,(runsL cs).length=runsN cs
 |[]=>rfl
 |c::cs=>by
  rw[runsL,flat_len (c:=c.ng*runsN cs) (fun x _=>?_),List.length_range,runsN]
  rw[flat_len (c:=runsN cs) (fun y _=>by rw[List.length_map,runsL_len cs]),List.length_range]
theorem runsL_row:∀{cs:List Ck} {l:List Int},l∈runsL cs→l.length=2*cs.length
 |[],l,h=>by rw[runsL,List.mem_singleton] at h;rw[h];rfl
 |c::cs,l,h=>by
  rw[runsL,List.mem_flatMap] at h
  obtain⟨u,_,h⟩:=h
  obtain⟨v,_,h⟩:=List.mem_flatMap.1 h
  obtain⟨l',hl',rfl⟩:=List.mem_map.1 h
  have:=runsL_row hl'
  simp only[List.length_cons];omega
def preR (c:Ck)(R:List (List Int))(u v j:Nat):List (List Int):=
 ((List.range u).flatMap fun(u:Nat)=>(List.range c.ng).flatMap fun(v:Nat)=>R.map fun l=>(c.sl+u)::(c.gl+v)::l)++((List.range v).flatMap fun(v:Nat)=>R.map fun l=>(c.sl+u)::(c.gl+v)::l)++(R.take j).map fun l=>(c.sl+u)::(c.gl+v)::l
theorem preR_step (c:Ck){R:List (List Int)}(u v:Nat){j:Nat}(hj:j<R.length):preR c R u v (j+1)=preR c R u v j++[(c.sl+u)::(c.gl+v)::R[j]]:=by
 unfold preR
 rw[List.take_add_one,List.getElem?_eq_getElem hj,List.map_append]
 simp only[List.append_assoc];rfl
theorem preR_row (c:Ck)(R:List (List Int))(u v:Nat):preR c R u (v+1) 0=preR c R u v R.length:=by
 simp only[preR,List.take_zero,List.map_nil,List.append_nil,List.take_length,List.range_succ,List.flatMap_append,List.flatMap_cons,List.flatMap_nil,List.append_assoc]
theorem preR_col (c:Ck)(R:List (List Int))(u:Nat):preR c R (u+1) 0 0=preR c R u c.ng 0:=by
 simp only[preR,List.take_zero,List.map_nil,List.append_nil,List.range_zero,List.range_succ,List.flatMap_append,List.flatMap_cons,List.flatMap_nil,List.append_assoc]
theorem preR_len (c:Ck)(R:List (List Int))(u v j:Nat):(preR c R u v j).length=u*(c.ng*R.length)+v*R.length+min j R.length:=by
 unfold preR
 rw[List.length_append,List.length_append,List.length_map,List.length_take,flat_len (c:=c.ng*R.length) (fun x _=>?_),flat_len (c:=R.length) (fun y _=>List.length_map _),List.length_range,List.length_range]
 rw[flat_len (c:=R.length) (fun y _=>List.length_map _),List.length_range]
theorem preR_full (c:Ck)(R:List (List Int)):preR c R c.ns 0 0=(List.range c.ns).flatMap fun(u:Nat)=>(List.range c.ng).flatMap fun(v:Nat)=>R.map fun l=>(c.sl+u)::(c.gl+v)::l:=by
 simp only[preR,List.take_zero,List.map_nil,List.append_nil,List.range_zero,List.flatMap_nil]
theorem runsN_le {c:Ck}{cs:List Ck}(h1:1≤c.ns)(h2:1≤c.ng):runsN cs≤runsN (c::cs):=by
 have a:=Nat.le_mul_of_pos_left (runsN cs) h2
 have b:=Nat.le_mul_of_pos_left (c.ng*runsN cs) h1
 show runsN cs≤c.ns*(c.ng*runsN cs)
 omega
set_option maxHeartbeats 4000000 in
theorem runs_ev {a:At}(r:Right a):∀(k:Nat) {h:H} (hw:h.wf) {C R G:V} (x:AtAt h C R G a) {e:Nat} (he:e+k=a.cks.length) (hb:runsN (a.cks.drop e)≤100000) (Q:V→H→Prop) (q:∀y h',h.Sub h'→LR h.next h' y (runsL (a.cks.drop e))→Q y h'),
  Ev fnG fastA (.fn 95 [] []) [.agg (atV a C R G),.int .i64 (e:Int)] h Q:=by
 have rl:=r.lens
 intro k
 induction k with
 |zero=>
  intro h hw C R G x e he hb Q q
  have oC:=x.c.one;have oR:=x.r.one;have oG:=x.g.one
  have hlC:=x.c.lenE
  have hee:(e:Int)=(a.cks.length:Int):=by omega
  rw[List.drop_eq_nil_of_le (by omega)] at q
  refine Ev_body (fd:=c95) rfl rfl rfl ?_
  obtain⟨z,hz⟩:∃z,h.add (.cells .rw (atV a C R G))=z:=⟨_,rfl⟩
  have sz:h.Sub z:=by rw[←hz];exact(by repeat(first|assumption|exact H.Sub.refl (by assumption)|refine H.Sub.add ?_ _|refine H.Sub.set ?_ (by first|omega|(simp only[H.next_add,H.next_set,H.next_del]<;>omega)) (by first|omega|(simp only[H.next_add,H.next_set,H.next_del]<;>omega)) (by assumption) _))
  have ga:z.get h.next=some (.cells .rw (atV a C R G)):=by rw[←hz];exact get_add_new rfl
  simp -implicitDefEqProofs(maxSteps:=999999)(disch:=first|with_reducible rfl|omega|(simp only[nA,nS,nD]<;>omega)|fail)only[c95,go_sem,oC,oR,oG,hz,cells_of ga,hlC,hee]
  try rw[hz]
  refine q _ _ (sz.add _) ⟨[.nils],SlAt.new _ (by rw[←hz]) rfl rfl (by simp) (by simp),rfl,fun i v l h1 h2=>?_,Up.sl sz.next,fun v hv=>by rw[List.mem_singleton] at hv;rw[hv];exact Up.nils _⟩
  have hi:=getl h1
  have:i=0:=by simp at hi;exact hi
  subst this
  cases h1;cases h2
  exact⟨by simp,by simp,.inl ⟨rfl,rfl⟩⟩
 |succ k ih=>
  intro h hw C R G x e he hb Q q
  have oC:=x.c.one;have oR:=x.r.one;have oG:=x.g.one
  have hlC:=x.c.lenE
  have hee:¬(e:Int)=(a.cks.length:Int):=by omega
  have hel:e<a.cks.length:=by omega
  have we:wr .i64 ((e:Int)+1)=((e+1:Nat):Int):=by rw[wr_in (by omega) (by omega)];omega
  have hm:=List.getElem_mem hel
  have hdrop:a.cks.drop e=a.cks[e]::a.cks.drop (e+1):=List.drop_eq_getElem_cons hel
  have hcb:=r.cb _ hm
  have hco:=r.co _ hm
  simp only[Ck.bd,within,Bool.and_eq_true,inB_iff] at hcb
  simp only[Ck.ord,Bool.and_eq_true,decide_eq_true_eq] at hco
  rw[hdrop] at hb q
  refine Ev_body (fd:=c95) rfl rfl rfl ?_
  obtain⟨z,hz⟩:∃z,h.add (.cells .rw (atV a C R G))=z:=⟨_,rfl⟩
  have sz:h.Sub z:=by rw[←hz];exact(by repeat(first|assumption|exact H.Sub.refl (by assumption)|refine H.Sub.add ?_ _|refine H.Sub.set ?_ (by first|omega|(simp only[H.next_add,H.next_set,H.next_del]<;>omega)) (by first|omega|(simp only[H.next_add,H.next_set,H.next_del]<;>omega)) (by assumption) _))
  have ga:z.get h.next=some (.cells .rw (atV a C R G)):=by rw[←hz];exact get_add_new rfl
  simp -implicitDefEqProofs(maxSteps:=999999)(disch:=first|with_reducible rfl|omega|(simp only[nA,nS,nD]<;>omega)|fail)only[c95,go_sem,oC,oR,oG,hz,cells_of ga,hlC,hee,we]
  try rw[hz]
  clear hz
  have n1:1≤a.cks[e].ns:=by unfold Ck.ns;omega
  have n2:1≤a.cks[e].ng:=by unfold Ck.ng;omega
  refine ih sz.wf (x.mono sz) (e:=e+1) (by omega) (Nat.le_trans (runsN_le n1 n2) hb) _ fun yr z1 s1 kr=>?_
  obtain⟨RR,hRR⟩:∃RR,runsL (a.cks.drop (e+1))=RR:=⟨_,rfl⟩
  have hRl:RR.length=runsN (a.cks.drop (e+1)):=by rw[←hRR,runsL_len]
  have hrow:∀l∈RR,l.length≤1000:=fun l hl=>by
   rw[←hRR] at hl
   have:=runsL_row hl
   rw[List.length_drop] at this;omega
  rw[hRR] at kr
  rw[runsL,hRR] at q
  rw[runsN,←hRl] at hb
  have hlr:=kr.lenE
  have s01:=sz.trans s1
  have ga1:=s1.get ga
  obtain⟨bC,oCC,cC,csC,_,hcC,hqC,hgC,_,_⟩:=(x.c.mono s01).at hel
  generalize a.cks[e]=c at hgC hb q hcb hco n1 n2
  simp only[encC] at hgC
  obtain⟨z2,hz2⟩:∃z2,z1.add (.cells .rw [.int .i64 c.sl,.int .i64 c.sh,.int .i64 c.gl,.int .i64 c.gh])=z2:=⟨_,rfl⟩
  have s2:z1.Sub z2:=by rw[←hz2];exact(H.Sub.refl s01.wf).add _
  have g6:z2.get z1.next=some (.cells .rw [.int .i64 c.sl,.int .i64 c.sh,.int .i64 c.gl,.int .i64 c.gh]):=by rw[←hz2];exact get_add_new rfl
  have hw2:=s2.wf
  have hns:((c.ns:Nat):Int)=c.sh-c.sl+1:=by unfold Ck.ns;omega
  have hng:((c.ng:Nat):Int)=c.gh-c.gl+1:=by unfold Ck.ng;omega
  have hpl:∀u v j,u≤c.ns→(u=c.ns→v=0∧j=0)→v≤c.ng→(v=c.ng→j=0)→(preR c RR u v j).length≤1000000:=fun u v j h1 h2 h3 h4=>by
   rw[preR_len]
   have e1:=Nat.mul_le_mul_right (c.ng*RR.length) h1
   have e2:=Nat.mul_le_mul_right RR.length h3
   have e3:=Nat.le_mul_of_pos_left (c.ng*RR.length) n1
   have e4:=Nat.le_mul_of_pos_left RR.length n2
   omega
  have hRb:RR.length≤100000:=by
   have e3:=Nat.le_mul_of_pos_left (c.ng*RR.length) n1
   have e4:=Nat.le_mul_of_pos_left RR.length n2
   omega
  simp -implicitDefEqProofs(maxSteps:=999999)(disch:=first|with_reducible rfl|omega|(simp only[nA,nS,nD]<;>omega)|fail)only[go_sem,cells_of ga1,hqC (nat_cst e),hcC,hgC,hz2,cells_of g6]
  try rw[hz2]
  clear hz2
  refine W_count c.ns (fun u s=>∃tm z3 y vs,s=⟨tm,z3,[]⟩∧LL z2 z3 y (preR c RR u 0 0) vs∧(Opd.t 5).ev tm=yr∧(Opd.t 6).ev tm=.ptr z1.next 0∧(Opd.t 7).ev tm=y∧(Opd.t 8).ev tm=.int .i64 (c.sl+(u:Int))) ?_ ?_ (i:=0) (Nat.zero_le _)
   ⟨_,_,_,_,rfl,LL.nil (H.Sub.refl hw2),(by simp[ev_c,ev_put]<;>rfl),(by simp[ev_c,ev_put]<;>rfl),(by simp[ev_c,ev_put]<;>rfl),by rw[show c.sl+((0:Nat):Int)=c.sl by omega];exact(by simp[ev_c,ev_put]<;>rfl)⟩
  ·rintro u s hu ⟨tm,z3,y,vs,rfl,ll,t5,t6,t7,t8⟩
   have hu':c.sl+(u:Int)≤c.sh:=by omega
   have s3:=ll.o.1
   simp -implicitDefEqProofs(maxSteps:=999999)(disch:=first|with_reducible rfl|omega|(simp only[nA,nS,nD]<;>omega)|fail)only[go_sem,t5,t6,t7,t8,cells_of (s3.get g6),hu']
   refine W_count c.ng (fun v s=>∃tm z3 y vs,s=⟨tm,z3,[]⟩∧LL z2 z3 y (preR c RR u v 0) vs∧(Opd.t 5).ev tm=yr∧(Opd.t 6).ev tm=.ptr z1.next 0∧(Opd.t 7).ev tm=y∧(Opd.t 8).ev tm=.int .i64 (c.sl+(u:Int))∧(Opd.t 9).ev tm=.int .i64 (c.gl+(v:Int))) ?_ ?_ (i:=0) (Nat.zero_le _)
    ⟨_,_,_,_,rfl,ll,(by simp[ev_c,ev_put,t5]<;>rfl),(by simp[ev_c,ev_put,t6]<;>rfl),(by simp[ev_c,ev_put,t7]<;>rfl),(by simp[ev_c,ev_put,t8]<;>rfl),by rw[show c.gl+((0:Nat):Int)=c.gl by omega];exact(by simp[ev_c,ev_put]<;>rfl)⟩
   ·clear ll t5 t6 t7 t8 s3
    rintro v s hv ⟨tm,z3,y,vs,rfl,ll,t5,t6,t7,t8,t9⟩
    have hv':c.gl+(v:Int)≤c.gh:=by omega
    have s3:=ll.o.1
    simp -implicitDefEqProofs(maxSteps:=999999)(disch:=first|with_reducible rfl|omega|(simp only[nA,nS,nD]<;>omega)|fail)only[go_sem,t5,t6,t7,t8,t9,cells_of (s3.get g6),hv']
    refine W_count RR.length (fun j s=>∃tm z3 y vs,s=⟨tm,z3,[]⟩∧LL z2 z3 y (preR c RR u v j) vs∧(Opd.t 5).ev tm=yr∧(Opd.t 6).ev tm=.ptr z1.next 0∧(Opd.t 7).ev tm=y∧(Opd.t 8).ev tm=.int .i64 (c.sl+(u:Int))∧(Opd.t 9).ev tm=.int .i64 (c.gl+(v:Int))∧(Opd.t 10).ev tm=.int .i64 (j:Int)) ?_ ?_ (i:=0) (Nat.zero_le _)
     ⟨_,_,_,_,rfl,ll,(by simp[ev_c,ev_put,t5]<;>rfl),(by simp[ev_c,ev_put,t6]<;>rfl),(by simp[ev_c,ev_put,t7]<;>rfl),(by simp[ev_c,ev_put,t8]<;>rfl),(by simp[ev_c,ev_put,t9]<;>rfl),(by simp[ev_c,ev_put]<;>rfl)⟩
    ·clear ll t5 t6 t7 t8 t9 s3
     rintro j s hj ⟨tm,z3,y,vs,rfl,ll,t5,t6,t7,t8,t9,t10⟩
     have hj':(j:Int)<(RR.length:Int):=by omega
     have s3:=ll.o.1
     obtain⟨bb,o,cs,w,hc,hq,hn,hv2,_⟩:=(kr.mono (s2.trans s3)).at_ hj
     have s3a:=(H.Sub.refl s3.wf).add (.cells .rw [.int .i64 (c.sl+(u:Int)),.int .i64 (c.gl+(v:Int))])
     simp -implicitDefEqProofs(maxSteps:=999999)(disch:=first|with_reducible rfl|omega|(simp only[nA,nS,nD]<;>omega)|fail)only[go_sem,t5,t6,t7,t8,t9,t10,hlr,hj',hq (nat_cst j),hc,s3a.cells hc,hn]
     refine cons2_app s3.wf hv2 (hrow _ (List.getElem_mem hj)) fun y4 z4 s4 x4 u4=>?_
     have o4:=x4.one
     simp -implicitDefEqProofs(maxSteps:=999999)(disch:=first|with_reducible rfl|omega|(simp only[nA,nS,nD]<;>omega)|fail)only[go_sem,t5,t6,t7,t8,t9,t10,o4,cells_one o4]
     refine ll.push hw2 (hpl u v j (by omega) (by omega) (by omega) (by omega)) s4 x4 (u4.low s3.next) fun y5 z5 l5=>?_
     have w10:wr .i64 ((j:Int)+1)=(j:Int)+1:=wr_in (by omega) (by omega)
     simp -implicitDefEqProofs(maxSteps:=999999)(disch:=first|with_reducible rfl|omega|(simp only[nA,nS,nD]<;>omega)|fail)only[go_sem,t5,t6,t7,t8,t9,t10,w10]
     exact⟨_,_,_,_,rfl,by rw[preR_step c u v hj];exact l5,(by simp[ev_c,ev_put,t5]<;>rfl),(by simp[ev_c,ev_put,t6]<;>rfl),(by simp[ev_c,ev_put]<;>rfl),(by simp[ev_c,ev_put,t8]<;>rfl),(by simp[ev_c,ev_put,t9]<;>rfl),(by simp[ev_c,ev_put]<;>rfl)⟩
    ·clear ll t5 t6 t7 t8 t9 s3
     rintro s ⟨tm,z3,y,vs,rfl,ll,t5,t6,t7,t8,t9,t10⟩
     have w9:wr .i64 (c.gl+(v:Int)+1)=c.gl+((v+1:Nat):Int):=by rw[wr_in (by omega) (by omega)];omega
     simp -implicitDefEqProofs(maxSteps:=999999)(disch:=first|with_reducible rfl|omega|(simp only[nA,nS,nD]<;>omega)|fail)only[go_sem,t5,t6,t7,t8,t9,t10,hlr,Int.lt_irrefl,w9]
     exact⟨_,_,_,_,rfl,by rw[preR_row];exact ll,(by simp[ev_c,ev_put,t5]<;>rfl),(by simp[ev_c,ev_put,t6]<;>rfl),(by simp[ev_c,ev_put,t7]<;>rfl),(by simp[ev_c,ev_put,t8]<;>rfl),(by simp[ev_c,ev_put]<;>rfl)⟩
   ·clear ll t5 t6 t7 t8 s3
    rintro s ⟨tm,z3,y,vs,rfl,ll,t5,t6,t7,t8,t9⟩
    have hv':¬c.gl+(c.ng:Int)≤c.gh:=by omega
    have s3:=ll.o.1
    have w8:wr .i64 (c.sl+(u:Int)+1)=c.sl+((u+1:Nat):Int):=by rw[wr_in (by omega) (by omega)];omega
    simp -implicitDefEqProofs(maxSteps:=999999)(disch:=first|with_reducible rfl|omega|(simp only[nA,nS,nD]<;>omega)|fail)only[go_sem,t5,t6,t7,t8,t9,cells_of (s3.get g6),hv',w8]
    exact⟨_,_,_,_,rfl,by rw[preR_col];exact ll,(by simp[ev_c,ev_put,t5]<;>rfl),(by simp[ev_c,ev_put,t6]<;>rfl),(by simp[ev_c,ev_put,t7]<;>rfl),(by simp[ev_c,ev_put]<;>rfl)⟩
  ·rintro s ⟨tm,z3,y,vs,rfl,ll,t5,t6,t7,t8⟩
   have hu':¬c.sl+(c.ns:Int)≤c.sh:=by omega
   have s3:=ll.o.1
   simp -implicitDefEqProofs(maxSteps:=999999)(disch:=first|with_reducible rfl|omega|(simp only[nA,nS,nD]<;>omega)|fail)only[go_sem,t5,t6,t7,t8,cells_of (s3.get g6),hu']
   have hfin:=ll.rd (hpl c.ns 0 0 (Nat.le_refl _) (fun _=>⟨rfl,rfl⟩) (Nat.zero_le _) (fun _=>rfl))
   rw[preR_full] at hfin
   exact q _ _ (s01.trans (s2.trans s3)) (hfin.low (s01.trans s2).next)
end Go.Ab.Tryz
namespace Go.Ab.Tryz
open Go.Proofs
def widS (s:Int × Int)(n:Int)(first:Bool):Int × Int:=if first=true then(n,n) else(min s.1 n,max s.2 n)
theorem wider_ev {h:H}(hw:h.wf)(s:Int × Int)(n:Int)(first:Bool)(Q:V→H→Prop)(q:∀h',h.Sub h'→Q (.agg [.int .i64 (widS s n first).1,.int .i64 (widS s n first).2]) h'):
  Ev fnG fastA (.fn 97 [] []) [.agg [.int .i64 s.1,.int .i64 s.2],.int .i64 n,.bool first] h Q:=by
 refine Ev_body (fd:=c97) rfl rfl rfl ?_
 cases first with
 |true=>
  simp -implicitDefEqProofs(maxSteps:=999999)(disch:=first|with_reducible rfl|omega|(simp only[nA,nS,nD]<;>omega)|fail)only[c97,go_sem]
  exact q _ (by repeat(first|assumption|exact H.Sub.refl (by assumption)|refine H.Sub.add ?_ _|refine H.Sub.set ?_ (by first|omega|(simp only[H.next_add,H.next_set,H.next_del]<;>omega)) (by first|omega|(simp only[H.next_add,H.next_set,H.next_del]<;>omega)) (by assumption) _))
 |false=>
  simp -implicitDefEqProofs(maxSteps:=999999)(disch:=first|with_reducible rfl|omega|(simp only[nA,nS,nD]<;>omega)|fail)only[c97,go_sem]
  exact q _ (by repeat(first|assumption|exact H.Sub.refl (by assumption)|refine H.Sub.add ?_ _|refine H.Sub.set ?_ (by first|omega|(simp only[H.next_add,H.next_set,H.next_del]<;>omega)) (by first|omega|(simp only[H.next_add,H.next_set,H.next_del]<;>omega)) (by assumption) _))
end Go.Ab.Tryz
namespace Go.Ab.Tryz
open Go.Proofs
abbrev TT:=List Int × List Int × List Int
def flat2:Runs→List Int
 |[]=>[]
 |s::l=>s.1::s.2::flat2 l
def evens:List Int→List Int
 |x::_::l=>x::evens l
 |_=>[]
def odds:List Int→List Int
 |_::y::l=>y::odds l
 |_=>[]
theorem evens_flat:∀l:Runs,evens (flat2 l)=l.map Prod.fst
 |[]=>rfl
 |s::l=>by rw[flat2,evens,evens_flat l];rfl
theorem odds_flat:∀l:Runs,odds (flat2 l)=l.map Prod.snd
 |[]=>rfl
 |s::l=>by rw[flat2,odds,odds_flat l];rfl
def InCks (cks:List Ck)(runs:Runs):Prop:=runs.length=cks.length∧∀(k:Nat) s,runs[k]? =some s→∃c,cks[k]? =some c∧c.sl≤s.1∧s.1≤c.sh∧c.gl≤s.2∧s.2≤c.gh
theorem ns_iff {c:Ck}{u:Nat}:u<c.ns↔c.sl+u≤c.sh:=by unfold Ck.ns;omega
theorem ng_iff {c:Ck}{u:Nat}:u<c.ng↔c.gl+u≤c.gh:=by unfold Ck.ng;omega
theorem runsL_mem:∀{cks:List Ck} {l:List Int},l∈runsL cks↔∃runs,l=flat2 runs∧InCks cks runs
 |[],l=>by
  rw[runsL,List.mem_singleton]
  constructor
  ·rintro rfl;exact⟨[],rfl,rfl,fun k s h=>by simp at h⟩
  ·rintro⟨runs,rfl,h,_⟩;rw[List.length_eq_zero_iff.1 h];rfl
 |c::cs,l=>by
  rw[runsL,List.mem_flatMap]
  constructor
  ·rintro⟨u,hu,h⟩
   obtain⟨v,hv,h⟩:=List.mem_flatMap.1 h
   obtain⟨l',hl',rfl⟩:=List.mem_map.1 h
   obtain⟨runs,rfl,h1,h2⟩:=runsL_mem.1 hl'
   have hu:=ns_iff.1 (List.mem_range.1 hu)
   have hv:=ng_iff.1 (List.mem_range.1 hv)
   refine⟨(c.sl+u,c.gl+v)::runs,rfl,by rw[List.length_cons,List.length_cons,h1],fun k s hs=>?_⟩
   cases k with
   |zero=>
    rw[List.getElem?_cons_zero] at hs;cases hs
    exact⟨c,rfl,by show c.sl≤c.sl+u;omega,hu,by show c.gl≤c.gl+v;omega,hv⟩
   |succ k=>rw[List.getElem?_cons_succ] at hs;rw[List.getElem?_cons_succ];exact h2 k s hs
  ·rintro⟨runs,rfl,h1,h2⟩
   cases runs with
   |nil=>cases h1
   |cons s runs=>
    obtain⟨c',hc,q1,q2,q3,q4⟩:=h2 0 s rfl
    cases hc
    refine⟨(s.1-c.sl).toNat,List.mem_range.2 (ns_iff.2 (by omega)),List.mem_flatMap.2 ⟨(s.2-c.gl).toNat,List.mem_range.2 (ng_iff.2 (by omega)),List.mem_map.2 ⟨flat2 runs,runsL_mem.2 ⟨runs,rfl,by simpa using h1,fun k s hs=>by simpa using h2 (k+1) s (by simpa using hs)⟩,?_⟩⟩⟩
    rw[show c.sl+((s.1-c.sl).toNat:Int)=s.1 by omega,show c.gl+((s.2-c.gl).toNat:Int)=s.2 by omega];rfl
def allT (a:At):List TT:=((timesL a a.evs.toNat).filter (gapsB a)).flatMap fun tt=>(runsL a.cks).map fun l=>(evens l,odds l,tt)
def missT (a:At)(t:TT):Int:=missI a t.1 t.2.1 t.2.2
def fitT (a:At):List TT:=(allT a).filter fun t=>decide (missT a t=0)
def LenT (a:At)(t:TT):Prop:=t.1.length=a.cks.length∧t.2.1.length=a.cks.length∧(t.2.2.length:Int)=a.evs
theorem time_far {tt:List Int}(h:(tt.length:Int)≤4):timeF tt 4=0:=by
 unfold timeF
 rw[List.getD_eq_getElem?_getD,List.getElem?_eq_none (by omega)];rfl
theorem allT_mem {a:At}(r:Right a){t:TT}:t∈allT a↔LenT a t∧Tru a (fun _=>false) (t.1.zip t.2.1) (timeF t.2.2):=by
 have he:=r.evs
 have hm:=r.mins
 unfold allT
 rw[List.mem_flatMap]
 constructor
 ·rintro⟨tt,htt,h⟩
  obtain⟨l,hl,rfl⟩:=List.mem_map.1 h
  obtain⟨runs,rfl,h1,h2⟩:=runsL_mem.1 hl
  rw[List.mem_filter,timesL_mem] at htt
  obtain⟨⟨t1,t2⟩,t3⟩:=htt
  simp only[LenT,evens_flat,odds_flat,zip_unzip,List.length_map]
  refine⟨⟨h1,h1,by omega⟩,h1,fun k s hs=>⟨h2 k s hs⟩,time_far (by omega),fun e _=>?_,fun g hg=>?_,fun j x _ hc=>by cases hc⟩
  ·unfold timeF
   rw[List.getD_eq_getElem?_getD]
   cases h:tt[e]? with
   |none=>exact⟨Int.le_refl _,by show(0:Int)≤_;omega⟩
   |some t=>
    have:=t2 t (List.mem_of_getElem? h)
    show 0≤t∧t≤a.mins
    omega
  ·unfold gapsB at t3
   have:=List.all_eq_true.1 t3 g hg
   unfold gapB at this
   exact inB_iff.1 this
 ·obtain⟨ss,gg,tt⟩:=t
  simp only[LenT]
  rintro⟨⟨l1,l2,l3⟩,tr⟩
  refine⟨tt,?_,List.mem_map.2 ⟨flat2 (ss.zip gg),runsL_mem.2 ⟨_,rfl,tr.len,fun k s hs=>(tr.run k s hs).is⟩,?_⟩⟩
  ·rw[List.mem_filter,timesL_mem]
   refine⟨⟨by omega,fun t ht=>?_⟩,?_⟩
   ·obtain⟨i,hi,rfl⟩:=List.mem_iff_getElem.1 ht
    have:=tr.mins i (by omega)
    rw[timeF_at (List.getElem?_eq_getElem hi)] at this
    omega
   ·unfold gapsB
    rw[List.all_eq_true]
    intro g hg
    unfold gapB
    exact inB_iff.2 (tr.gaps g hg)
  ·rw[evens_flat,odds_flat,List.map_fst_zip (by omega),List.map_snd_zip (by omega)]
theorem bitI_zero {f:Nat→Bool}:∀{n:Nat},bitI f n=0↔∀j,j<n→f j=false
 |0=>by simp[bitI]
 |n+1=>by
  have hb:=bitI_bd f n
  have hp:(0:Int)<2^n:=Int.pow_pos (by decide)
  have ih:=bitI_zero (f:=f) (n:=n)
  unfold bitI
  constructor
  ·intro h j hj
   by_cases hf:f n=true
   ·rw[if_pos hf] at h;omega
   ·rw[if_neg hf] at h
    rcases(by omega:j<n∨j=n) with hj|rfl
    ·exact ih.1 (by omega) j hj
    ·simpa using hf
  ·intro h
   rw[ih.2 fun j hj=>h j (by omega),h n (by omega)];rfl
theorem tru_cnt {a:At}(r:Right a){cnt:Nat→Bool}{t:TT}(l:LenT a t):Tru a cnt (t.1.zip t.2.1) (timeF t.2.2)↔Tru a (fun _=>false) (t.1.zip t.2.1) (timeF t.2.2)∧∀j,j<a.rds.length→cnt j=true→missB a t.1 t.2.1 t.2.2 j=false:=by
 obtain⟨ss,gg,tt⟩:=t
 obtain⟨l1,l2,l3⟩:=l
 simp only at l1 l2 l3⊢
 have key:∀(j:Nat) (x:Rd),a.rds[j]? =some x→(missB a ss gg tt j=false↔∀s,(ss.zip gg)[x.ck.toNat]? =some s→shw s.1 s.2 (timeF tt x.ev.toNat)=x.sh):=fun j x hx=>by
  obtain⟨k,e,e1,e2,h1,_,_⟩:=r.rdn (List.mem_of_getElem? hx)
  have hs:(ss.zip gg)[x.ck.toNat]? =some (ss.getD x.ck.toNat 0,gg.getD x.ck.toNat 0):=by
   rw[e1,Int.toNat_natCast,zip_get,getD_at (by omega),getD_at (by omega)]
   exact⟨List.getElem?_eq_getElem (by omega),List.getElem?_eq_getElem (by omega)⟩
  unfold missB
  rw[hx]
  simp only[decide_eq_false_iff_not,ne_eq,Decidable.not_not]
  constructor
  ·intro h s q
   rw[hs] at q;cases q
   exact h
  ·intro h;exact h _ hs
 constructor
 ·intro t
  exact⟨⟨t.len,t.run,t.beg,t.mins,t.gaps,fun j x _ hc=>by cases hc⟩,fun j hj hc=>(key j _ (List.getElem?_eq_getElem hj)).2 (t.rds j _ (List.getElem?_eq_getElem hj) hc)⟩
 ·rintro⟨t,h⟩
  exact⟨t.len,t.run,t.beg,t.mins,t.gaps,fun j x hx hc=>(key j x hx).1 (h j (getl hx) hc)⟩
theorem fitT_mem {a:At}(r:Right a){t:TT}:t∈fitT a↔LenT a t∧TruA a (t.1.zip t.2.1) (timeF t.2.2):=by
 unfold fitT
 rw[List.mem_filter,allT_mem r,decide_eq_true_eq]
 unfold missT missI
 rw[bitI_zero]
 constructor
 ·rintro⟨⟨l,h1⟩,h2⟩
  exact⟨l,(tru_cnt r l).2 ⟨h1,fun j hj _=>h2 j hj⟩⟩
 ·rintro⟨l,h⟩
  have:=(tru_cnt r l).1 h
  exact⟨⟨l,this.1⟩,fun j hj=>this.2 j hj rfl⟩
def ttOf (a:At)(runs:Runs)(y:Nat→Int):TT:=(runs.map Prod.fst,runs.map Prod.snd,(List.range a.evs.toNat).map y)
theorem ttOf_len {a:At}(r:Right a){runs:Runs}{y:Nat→Int}{cnt:Nat→Bool}(h:Tru a cnt runs y):LenT a (ttOf a runs y):=by
 have:=r.evs
 exact⟨by rw[ttOf,List.length_map];exact h.len,by rw[ttOf,List.length_map];exact h.len,by rw[ttOf,List.length_map,List.length_range];omega⟩
theorem ttOf_zip (a:At)(runs:Runs)(y:Nat→Int):(ttOf a runs y).1.zip (ttOf a runs y).2.1=runs:=zip_unzip runs
theorem ttOf_time {a:At}{runs:Runs}{y:Nat→Int}{e:Nat}(he:(e:Int)<a.evs):timeF (ttOf a runs y).2.2 e=y e:=timeF_at (by rw[ttOf,List.getElem?_map,List.getElem?_range (by omega)];rfl)
theorem ttOf_tru {a:At}(r:Right a){runs:Runs}{y:Nat→Int}{cnt:Nat→Bool}(h:Tru a cnt runs y):Tru a cnt ((ttOf a runs y).1.zip (ttOf a runs y).2.1) (timeF (ttOf a runs y).2.2):=by
 rw[ttOf_zip];exact h.cut r
theorem ttOf_mem {a:At}(r:Right a){runs:Runs}{y:Nat→Int}(h:TruA a runs y):ttOf a runs y∈fitT a:=(fitT_mem r).2 ⟨ttOf_len r h,ttOf_tru r h⟩
theorem fitT_nil {a:At}(r:Right a):fitT a=[]↔allC a=[]:=by
 rw[noC r]
 constructor
 ·intro h runs y t
  have:=ttOf_mem r t
  rw[h] at this;cases this
 ·intro h
  cases hh:fitT a with
  |nil=>rfl
  |cons t l=>
   have:t∈fitT a:=by rw[hh];exact List.mem_cons_self ..
   exact absurd ((fitT_mem r).1 this).2 (h _ _)
def wideL:List Int→Int × Int
 |[]=>(0,0)
 |x::l=>(l.foldl min x,l.foldl max x)
theorem wideL_step {l:List Int}{i:Nat}(hi:i<l.length):wideL (l.take (i+1))=widS (wideL (l.take i)) l[i] (decide (i=0)):=by
 cases l with
 |nil=>cases hi
 |cons x l=>
  cases i with
  |zero=>rfl
  |succ i=>
   have hi2:i<l.length:=by simpa using hi
   have e:l.take (i+1)=l.take i++[l[i]]:=by rw[List.take_add_one,List.getElem?_eq_getElem hi2];rfl
   rw[List.take_succ_cons,List.take_succ_cons,List.getElem_cons_succ]
   have h0:decide (i+1=0)=false:=rfl
   rw[e,h0]
   show((l.take i++[l[i]]).foldl min x,(l.take i++[l[i]]).foldl max x)=(min ((l.take i).foldl min x) l[i],max ((l.take i).foldl max x) l[i])
   rw[List.foldl_append,List.foldl_append];rfl
theorem foldMin:∀{l:List Int} {x:Int},(l.foldl min x=x∨l.foldl min x∈l)∧l.foldl min x≤x∧∀y∈l,l.foldl min x≤y
 |[],x=>⟨.inl rfl,Int.le_refl _,fun y h=>by cases h⟩
 |a::l,x=>by
  obtain⟨h1,h2,h3⟩:=foldMin (l:=l) (x:=min x a)
  rw[List.foldl_cons]
  refine⟨?_,by omega,fun y hy=>?_⟩
  ·rcases h1 with h1|h1
   ·rw[h1]
    rcases(by omega:min x a=x∨min x a=a) with e|e<;>rw[e]
    ·exact .inl rfl
    ·exact .inr (List.mem_cons_self ..)
   ·exact .inr (List.mem_cons_of_mem _ h1)
  ·rcases List.mem_cons.1 hy with rfl|hy
   ·omega
   ·exact h3 y hy
theorem foldMax:∀{l:List Int} {x:Int},(l.foldl max x=x∨l.foldl max x∈l)∧x≤l.foldl max x∧∀y∈l,y≤l.foldl max x
 |[],x=>⟨.inl rfl,Int.le_refl _,fun y h=>by cases h⟩
 |a::l,x=>by
  obtain⟨h1,h2,h3⟩:=foldMax (l:=l) (x:=max x a)
  rw[List.foldl_cons]
  refine⟨?_,by omega,fun y hy=>?_⟩
  ·rcases h1 with h1|h1
   ·rw[h1]
    rcases(by omega:max x a=x∨max x a=a) with e|e<;>rw[e]
    ·exact .inl rfl
    ·exact .inr (List.mem_cons_self ..)
   ·exact .inr (List.mem_cons_of_mem _ h1)
  ·rcases List.mem_cons.1 hy with rfl|hy
   ·omega
   ·exact h3 y hy
theorem wideL_spec {l:List Int}(h:l≠[]):(wideL l).1∈l∧(wideL l).2∈l∧∀x∈l,(wideL l).1≤x∧x≤(wideL l).2:=by
 cases l with
 |nil=>exact absurd rfl h
 |cons x l=>
  obtain⟨h1,h2,h3⟩:=foldMin (l:=l) (x:=x)
  obtain⟨k1,k2,k3⟩:=foldMax (l:=l) (x:=x)
  refine⟨?_,?_,fun y hy=>?_⟩
  ·rcases h1 with h1|h1
   ·show l.foldl min x∈_;rw[h1];exact List.mem_cons_self ..
   ·exact List.mem_cons_of_mem _ h1
  ·rcases k1 with h1|h1
   ·show l.foldl max x∈_;rw[h1];exact List.mem_cons_self ..
   ·exact List.mem_cons_of_mem _ h1
  ·rcases List.mem_cons.1 hy with rfl|hy
   ·exact⟨h2,k2⟩
   ·exact⟨h3 y hy,k3 y hy⟩
theorem wideL_eq {l:List Int}{lo hi:Int}(h1:lo∈l)(h2:hi∈l)(h3:∀x∈l,lo≤x∧x≤hi):wideL l=(lo,hi):=by
 obtain⟨k1,k2,k3⟩:=wideL_spec (List.ne_nil_of_mem h1)
 have a1:=h3 _ k1
 have a2:=h3 _ k2
 have a3:=k3 _ h1
 have a4:=k3 _ h2
 exact Prod.ext (by show _=lo;omega) (by show _=hi;omega)
end Go.Ab.Tryz
namespace Go.Ab.Tryz
open Go.Proofs
theorem time_of {a:At}(r:Right a){runs:Runs}{y:Nat→Int}{cnt:Nat→Bool}(t:Tru a cnt runs y){e:Nat}(he:(e:Int)<a.evs∨e=4):timeF (ttOf a runs y).2.2 e=y e:=by
 rcases he with he|rfl
 ·exact ttOf_time he
 ·have l:=(ttOf_len r t).2.2
  have:=r.evs
  rw[time_far (by omega),t.beg]
theorem fit_ne {a:At}(r:Right a)(hne:allC a≠[]):fitT a≠[]:=fun h=>hne ((fitT_nil r).1 h)
def setsN (l:List TT)(of:TT→Int)(i:Nat):List Int:=((List.range i).map fun n:Nat=>(n:Int)-60).filter fun n=>l.any fun t=>decide (of t=n)
def setsT (l:List TT)(of:TT→Int):List Int:=setsN l of 121
theorem setsT_mem {l:List TT}{of:TT→Int}{n:Int}:n∈setsT l of↔(-60≤n∧n≤60)∧∃t∈l,of t=n:=by
 unfold setsT setsN
 rw[List.mem_filter,List.mem_map,List.any_eq_true]
 simp only[decide_eq_true_eq,List.mem_range]
 refine and_congr_left fun _=>⟨?_,fun h=>⟨(n+60).toNat,by omega,by omega⟩⟩
 rintro⟨u,hu,rfl⟩
 omega
theorem setsT_rise (l:List TT)(of:TT→Int):(setsT l of).Pairwise (· < ·):=by
 unfold setsT setsN
 refine List.Pairwise.filter _ (List.pairwise_map.2 (List.pairwise_lt_range.imp fun h=>?_))
 omega
theorem fit_run {a:At}(r:Right a){u:TT}(hu:u∈fitT a){k:Nat}(hk:k<a.cks.length):TruA a (u.1.zip u.2.1) (timeF u.2.2)∧(u.1.zip u.2.1)[k]? =some (u.1.getD k 0,u.2.1.getD k 0):=by
 obtain⟨⟨l1,l2,l3⟩,t⟩:=(fitT_mem r).1 hu
 refine⟨t,?_⟩
 rw[zip_get,getD_at (by omega),getD_at (by omega)]
 exact⟨List.getElem?_eq_getElem (by omega),List.getElem?_eq_getElem (by omega)⟩
theorem getD_map {runs:Runs}{k:Nat}{s:Int × Int}(h:runs[k]? =some s):(runs.map Prod.fst).getD k 0=s.1∧(runs.map Prod.snd).getD k 0=s.2:=by
 rw[List.getD_eq_getElem?_getD,List.getD_eq_getElem?_getD,List.getElem?_map,List.getElem?_map,h];exact⟨rfl,rfl⟩
theorem sets_eq {a:At}(r:Right a){k:Nat}(hk:k<a.cks.length):setsT (fitT a) (fun t=>t.1.getD k 0)=setL a k Prod.fst∧setsT (fitT a) (fun t=>t.2.1.getD k 0)=setL a k Prod.snd:=by
 constructor<;>
 ·refine rise_eq (setsT_rise _ _) (setL_rise ..) fun n=>?_
  rw[setsT_mem,setL_mem r hk]
  constructor
  ·rintro⟨_,u,hu,e⟩
   obtain⟨t,hs⟩:=fit_run r hu hk
   exact⟨_,_,_,t,hs,e⟩
  ·rintro⟨runs,y,s,t,hs,e⟩
   obtain⟨q1,q2,q3,q4⟩:=(t.run k s hs).run r
   have g:=getD_map hs
   refine⟨by omega,ttOf a runs y,ttOf_mem r t,?_⟩
   first|exact g.1.trans e|exact g.2.trans e
theorem wide_sho {a:At}(r:Right a)(hne:allC a≠[]){k e:Nat}(hk:k<a.cks.length)(he:(e:Int)<a.evs):wideL ((fitT a).map fun t=>shw (t.1.getD k 0) (t.2.1.getD k 0) (timeF t.2.2 e))=(shoLo a k e,shoHi a k e):=by
 have e4:e<4:=by have:=r.evs;omega
 obtain⟨⟨R1,y1,s1,h1,q1,e1⟩,R2,y2,s2,h2,q2,e2⟩:=sho_ex r hne hk e4
 have g1:=getD_map q1
 have g2:=getD_map q2
 refine wideL_eq (List.mem_map.2 ⟨_,ttOf_mem r h1,?_⟩) (List.mem_map.2 ⟨_,ttOf_mem r h2,?_⟩) fun x hx=>?_
 ·rw[time_of r h1 (.inl he),←e1]
  show shw ((R1.map Prod.fst).getD k 0) ((R1.map Prod.snd).getD k 0) _=_
  rw[g1.1,g1.2]
 ·rw[time_of r h2 (.inl he),←e2]
  show shw ((R2.map Prod.fst).getD k 0) ((R2.map Prod.snd).getD k 0) _=_
  rw[g2.1,g2.2]
 ·obtain⟨u,hu,rfl⟩:=List.mem_map.1 hx
  obtain⟨t,hs⟩:=fit_run r hu hk
  exact sho_tru r hk e4 t hs
end Go.Ab.Tryz
namespace Go.Ab.Tryz
open Go.Proofs
abbrev V3:=V × V × V
def row3 (v:V3):List V:=[v.1,v.2.1,v.2.2]
def TrT (h:H)(v:V3)(t:TT):Prop:=TrAt h v.1 v.2.1 v.2.2 t.1 t.2.1 t.2.2
def Up3 (n:Nat)(v:V3):Prop:=Up n v.1∧Up n v.2.1∧Up n v.2.2
structure TL (n:Nat)(h0 h:H)(y:V)(L:List TT)(vs:List V3):Prop where
 o:OwnSl h0 h y 3 (vs.map row3)
 len:vs.length=L.length
 e:∀(i:Nat) (v:V3) (t:TT),vs[i]? =some v→L[i]? =some t→TrT h v t
 u:∀v∈vs,Up3 n v
variable {h0 h h':H} {y:V} {L:List TT} {vs:List V3} {n n':Nat}
theorem TrT.mono {v:V3}{t:TT}(k:TrT h v t)(s:h.Sub h'):TrT h' v t:=TrAt.mono k s
theorem TrT.one {v:V3}{t:TT}(k:TrT h v t):allOne (row3 v)=true:=by
 have h1:=k.s.one;have h2:=k.g.one;have h3:=k.t.one
 unfold row3
 rw[allOne_cons,allOne_cons,allOne_cons,h1,h2,h3];rfl
theorem TrT.noInt {v:V3}{t:TT}(k:TrT h v t)(m:Int):V.int .i64 m ∉row3 v:=by
 unfold row3
 simp only[List.mem_cons,List.not_mem_nil,or_false,not_or]
 exact⟨fun e=>sl_noInt k.s _ m e.symm,fun e=>sl_noInt k.g _ m e.symm,fun e=>sl_noInt k.t _ m e.symm⟩
theorem TrT.keep {S:Nat→Prop}{v:V3}{t:TT}(w:TrT h v t)(k:Keeps S h h')(n:∀b cs,S b→h.cells b=some cs→∀m,V.int .i64 m ∉cs):TrT h' v t:=⟨ints_keep w.s k n,ints_keep w.g k n,ints_keep w.t k n⟩
theorem TL.mono (k:TL n h0 h y L vs)(s:h.Sub h'):TL n h0 h' y L vs:=⟨k.o.mono s,k.len,fun i v l h1 h2=>(k.e i v l h1 h2).mono s,k.u⟩
theorem TL.nil (s:h0.Sub h):TL n h0 h .nils [] []:=⟨OwnSl.nil s 3,rfl,fun i v l h1 _=>by simp at h1,fun v hv=>by cases hv⟩
theorem TL.at0 (k:TL n h0 h y L vs){v:V3}(hv:v∈vs):∃t,TrT h v t:=by
 obtain⟨i,hi,e⟩:=List.getElem_of_mem hv
 have h1:vs[i]? =some v:=by rw[List.getElem?_eq_getElem hi,e]
 have hi2:i<L.length:=by rw[←k.len];exact hi
 exact⟨_,k.e i v _ h1 (List.getElem?_eq_getElem hi2)⟩
theorem TL.push (k:TL n h0 h y L vs)(hw0:h0.wf)(hl:L.length≤1000000){x:V}{v:V3}{t:TT}(hx:SlAt h x 3 [row3 v])(hv:TrT h v t)(hu:Up3 n v){Q:V→H→Prop}(q:∀y' h',TL n h0 h' y' (L++[t]) (vs++[v])→Keeps (blkOf y) h h'→Q y' h'):
  P2 (e_app' h 3 72 y x) Q:=by
 have hlen:=k.len
 refine k.o.app1 (by_:=72) (r:=row3 v) hw0 rfl (by omega) hx hv.one (by rw[List.length_map];omega) (by rw[List.length_map];omega) fun h' o' kk _=>q _ _ ⟨by rw[List.map_append];exact o',by simp[hlen],fun i v' l' e1 e2=>?_,fun v' hv'=>?_⟩ kk
 rotate_left
 ·rcases List.mem_append.1 hv' with hv'|hv'
  ·exact k.u v' hv'
  ·rw[List.mem_singleton] at hv';rw[hv'];exact hu
 have hno:∀b cs,blkOf y b→h.cells b=some cs→∀m,V.int .i64 m ∉cs:=fun b cs hb hc=>by
  rcases k.o.2.2 with⟨e,_⟩|⟨b2,e,_,_,g⟩
  ·rw[e] at hb;exact(blkOf_nils hb).elim
  ·obtain⟨o,n,c,e2⟩:=hb
   rw[e] at e2;cases e2
   rw[cells_of g] at hc;cases hc
   intro m hm
   obtain⟨r,hr,hm⟩:=List.mem_flatten.1 hm
   obtain⟨u,hu,rfl⟩:=List.mem_map.1 hr
   obtain⟨t',ht'⟩:=k.at0 hu
   exact ht'.noInt m hm
 rcases mem_get_app.1 e1 with e1|⟨q1,rfl⟩
 ·rcases mem_get_app.1 e2 with e2|⟨q2,_⟩
  ·exact(k.e i v' l' e1 e2).keep kk hno
  ·have:=getl e1;omega
 ·rcases mem_get_app.1 e2 with e2|⟨_,rfl⟩
  ·have:=getl e2;omega
  ·exact hv.keep kk hno
def TR (n:Nat)(h:H)(y:V)(L:List TT):Prop:=∃vs:List V3,SlAt h y 3 (vs.map row3)∧vs.length=L.length∧(∀(i:Nat) (v:V3) (t:TT),vs[i]? =some v→L[i]? =some t→TrT h v t)∧Up n y∧∀v∈vs,Up3 n v
theorem TL.rd (k:TL n h0 h y L vs)(hl:L.length≤1000000)(hn:n≤h0.next):TR n h y L:=⟨vs,k.o.c.sl (by rw[List.length_map,k.len];omega),k.len,k.e,(ownUp k.o).low hn,k.u⟩
theorem TR.mono (k:TR n h y L)(s:h.Sub h'):TR n h' y L:=by
 obtain⟨vs,k1,k2,k3,k4⟩:=k
 exact⟨vs,k1.mono s,k2,fun i v l h1 h2=>(k3 i v l h1 h2).mono s,k4⟩
theorem TR.low (k:TR n h y L)(s:n'≤n):TR n' h y L:=by
 obtain⟨vs,k1,k2,k3,k4,k5⟩:=k
 exact⟨vs,k1,k2,k3,k4.low s,fun v hv=>⟨(k5 v hv).1.low s,(k5 v hv).2.1.low s,(k5 v hv).2.2.low s⟩⟩
theorem TR.keep {S:Nat→Prop}(k:TR n h y L)(kk:Keeps S h h')(hS:∀b,S b→b<n):TR n h' y L:=by
 obtain⟨vs,k1,k2,k3,k4,k5⟩:=k
 refine⟨vs,slKeepU k1 k4 kk hS,k2,fun i v l h1 h2=>?_,k4,k5⟩
 have t:=k3 i v l h1 h2
 obtain⟨u1,u2,u3⟩:=k5 v (List.mem_of_getElem? h1)
 exact⟨slKeepU t.s u1 kk hS,slKeepU t.g u2 kk hS,slKeepU t.t u3 kk hS⟩
theorem TR.lenE (k:TR n h y L):q_len y=some (.int .i64 (L.length:Int)):=by
 obtain⟨vs,k1,k2,k3⟩:=k
 have:=k1.lenE
 rw[←k2];exact this
theorem TR.one (k:TR n h y L):y.one=true:=by
 obtain⟨vs,k1,k2,k3⟩:=k
 exact k1.one
theorem TR.at_ (k:TR n h y L){i:Nat}(hi:i<L.length):∃b o cs v,h.cells b=some cs∧(∀{u:V},nat? u=some i→q_iad 3 y u=some (.ptr b o))∧getN o 3 cs=some (row3 v)∧nth o cs=some v.1∧nth (o+1) cs=some v.2.1∧nth (o+2) cs=some v.2.2∧TrT h v L[i]∧Up3 n v:=by
 obtain⟨vs,k1,k2,k3,k4,k5⟩:=k
 have hi2:i<vs.length:=by rw[k2];exact hi
 obtain⟨b,o,c,cs,_,hc,hq,hg,hn,hn0⟩:=k1.at hi2
 refine⟨b,_,cs,vs[i],hc,hq,hg,hn0 (by decide),hn 1 (by decide),hn 2 (by decide),k3 i _ _ (List.getElem?_eq_getElem hi2) (List.getElem?_eq_getElem hi),k5 _ (List.getElem_mem hi2)⟩
end Go.Ab.Tryz
namespace Go.Ab.Tryz
open Go.Proofs
theorem evens_at:∀{l:List Int} {j:Nat},2*j+1<l.length→(evens l)[j]? =l[2*j]? ∧(odds l)[j]? =l[2*j+1]?
 |[],j,h=>by simp at h
 |[x],j,h=>by simp at h
 |x::y::l,0,h=>by simp[evens,odds]
 |x::y::l,j+1,h=>by
  have:=evens_at (l:=l) (j:=j) (by simp only[List.length_cons] at h;omega)
  rw[evens,odds,List.getElem?_cons_succ,List.getElem?_cons_succ,this.1,this.2,show 2*(j+1)=2*j+1+1 from rfl,show 2*j+1+1+1=(2*j+1)+1+1 from rfl]
  simp only[List.getElem?_cons_succ,and_self]
theorem evens_len:∀l:List Int,(evens l).length=l.length/2∧(odds l).length=l.length/2
 |[]=>⟨rfl,rfl⟩
 |[x]=>⟨by simp[evens],by simp[odds]⟩
 |x::y::l=>by
  have:=evens_len l
  simp only[evens,odds,List.length_cons,this.1,this.2]
  omega
def ofT (RR:List (List Int))(tt:List Int):List TT:=RR.map fun l=>(evens l,odds l,tt)
def uptoT (a:At)(T RR:List (List Int))(i:Nat):List TT:=((T.take i).filter (gapsB a)).flatMap (ofT RR)
theorem uptoT_step {a:At}{T:List (List Int)}(RR:List (List Int)){i:Nat}(hi:i<T.length):uptoT a T RR (i+1)=uptoT a T RR i++if gapsB a T[i]=true then ofT RR T[i] else[]:=by
 unfold uptoT
 rw[List.take_add_one,List.getElem?_eq_getElem hi,List.filter_append,List.flatMap_append]
 congr 1
 simp only[Option.toList_some,List.filter_cons,List.filter_nil]
 split<;>simp
theorem uptoT_len {a:At}{T RR:List (List Int)}(i:Nat):(uptoT a T RR i).length≤T.length*RR.length:=by
 unfold uptoT
 rw[flat_len (c:=RR.length) fun x _=>by unfold ofT;rw[List.length_map]]
 refine Nat.mul_le_mul_right _ (Nat.le_trans (List.length_filter_le ..) ?_)
 rw[List.length_take];omega
theorem uptoT_all (a:At):uptoT a (timesL a a.evs.toNat) (runsL a.cks) (timesL a a.evs.toNat).length=allT a:=by
 unfold uptoT allT
 rw[List.take_length];rfl
theorem own_app {h0 h:H}(hw0:h0.wf){S:V}{l:List Int}(o:OwnSl h0 h S 1 (l.map encI))(hl:l.length≤1000){n:Int}{Q:V→H→Prop}(q:∀S' h',OwnSl h0 h' S' 1 ((l++[n]).map encI)→(∀b,blkOf S' b→h.next≤b)→Keeps (blkOf S) h h'→Q S' h'):
  P2 (e_app' (h.add (.cells .rw [.int .i64 n])) 1 8 S (.sl h.next 0 1 (.fix 1))) Q:=by
 have s:=(H.Sub.refl o.1.wf).add (.cells .rw [.int .i64 n])
 refine(o.mono s).app1 (by_:=8) (r:=encI n) hw0 rfl (by omega) (SlAt.new _ rfl rfl (by simp[encI]) (by simp[encI]) (by simp)) rfl (by rw[List.length_map];omega) (by rw[List.length_map];omega) fun h' o' kk _=>q _ _ (by rw[List.map_append];exact o') (fun b hb=>?_) ((Keeps.of s (fun _=>False)).trans kk |>.mono fun c hc=>hc.elim (fun f=>f.elim) id)
 obtain⟨_,_,_,e⟩:=hb
 cases e
 rw[H.next_add];omega
set_option maxHeartbeats 8000000 in
theorem All_ev {h:H}(hw:h.wf){a:At}{C R G:V}(x:AtAt h C R G a)(r:Right a)(hb:(a.mins.toNat+1)^a.evs.toNat*runsN a.cks≤100000)(hb1:(a.mins.toNat+1)^a.evs.toNat≤100000)(hb2:runsN a.cks≤100000)(Q:V→H→Prop)(q:∀y h',h.Sub h'→TR h.next h' y (allT a)→Q y h'):
  Ev fnG fastA (.fn 27 [] []) [.agg (atV a C R G)] h Q:=by
 have oC:=x.c.one;have oR:=x.r.one;have oG:=x.g.one
 have hev:=r.evs
 have hmn:=r.mins
 have rl:=r.lens
 refine Ev_body (fd:=c27) rfl rfl rfl ?_
 obtain⟨z,hz⟩:∃z,h.add (.cells .rw (atV a C R G))=z:=⟨_,rfl⟩
 have sz:h.Sub z:=by rw[←hz];exact(by repeat(first|assumption|exact H.Sub.refl (by assumption)|refine H.Sub.add ?_ _|refine H.Sub.set ?_ (by first|omega|(simp only[H.next_add,H.next_set,H.next_del]<;>omega)) (by first|omega|(simp only[H.next_add,H.next_set,H.next_del]<;>omega)) (by assumption) _))
 have ga:z.get h.next=some (.cells .rw (atV a C R G)):=by rw[←hz];exact get_add_new rfl
 simp -implicitDefEqProofs(maxSteps:=999999)(disch:=first|with_reducible rfl|omega|(simp only[nA,nS,nD]<;>omega)|fail)only[c27,go_sem,oC,oR,oG,hz,cells_of ga]
 try rw[hz]
 clear hz
 refine times_ev r a.evs.toNat sz.wf (x.mono sz) (e:=0) (by omega) hb1 _ fun yl z1 s1 kl=>?_
 have s01:=sz.trans s1
 simp -implicitDefEqProofs(maxSteps:=999999)(disch:=first|with_reducible rfl|omega|(simp only[nA,nS,nD]<;>omega)|fail)only[go_sem,cells_of ga,cells_of (s1.get ga),oC,oR,oG]
 refine runs_ev r a.cks.length s01.wf (x.mono s01) (e:=0) (by omega) (by simpa using hb2) _ fun yc z2 s2 kc=>?_
 rw[List.drop_zero] at kc
 have s02:=s01.trans s2
 have ga2:=(s1.trans s2).get ga
 have kl2:=kl.mono s2
 have hT:∀tt∈timesL a a.evs.toNat,(tt.length:Int)=a.evs∧∀t∈tt,0≤t∧t≤240:=fun tt ht=>by
  obtain⟨h1,h2⟩:=timesL_mem.1 ht
  exact⟨by omega,fun t ht=>by have:=h2 t ht;omega⟩
 have hTl:=timesL_len a a.evs.toNat
 have hRl:=runsL_len a.cks
 have hrow:∀l∈runsL a.cks,l.length=2*a.cks.length:=fun l hl=>runsL_row hl
 have hall:=uptoT_all a
 have hlen:∀i,(uptoT a (timesL a a.evs.toNat) (runsL a.cks) i).length≤100000:=fun i=>Nat.le_trans (uptoT_len i) (by rw[hTl,hRl];exact hb)
 have hlen2:∀tt,(ofT (runsL a.cks) tt).length≤100000:=fun tt=>by unfold ofT;rw[List.length_map,hRl];exact hb2
 have hl1:(timesL a a.evs.toNat).length≤100000:=by rw[hTl];exact hb1
 have hl2:(runsL a.cks).length≤100000:=by rw[hRl];exact hb2
 generalize timesL a a.evs.toNat=T at *
 generalize runsL a.cks=RR at *
 have hlT:=kl2.lenE
 have hlR:=kc.lenE
 have hw2:=s02.wf
 simp -implicitDefEqProofs(maxSteps:=999999)(disch:=first|with_reducible rfl|omega|(simp only[nA,nS,nD]<;>omega)|fail)only[go_sem,cells_of ga,cells_of (s1.get ga),cells_of ga2,oC,oR,oG]
 refine W_count T.length (fun i s=>∃tm z3 y vs,s=⟨tm,z3,[]⟩∧TL h.next z2 z3 y (uptoT a T RR i) vs∧(Opd.t 1).ev tm=.ptr h.next 0∧(Opd.t 3).ev tm=yl∧(Opd.t 4).ev tm=yc∧(Opd.t 5).ev tm=y∧(Opd.t 6).ev tm=.int .i64 (i:Int)) ?_ ?_ (i:=0) (Nat.zero_le _)
  ⟨_,_,_,_,rfl,TL.nil (H.Sub.refl hw2),(by simp[ev_c,ev_put]<;>rfl),(by simp[ev_c,ev_put]<;>rfl),(by simp[ev_c,ev_put]<;>rfl),(by simp[ev_c,ev_put]<;>rfl),(by simp[ev_c,ev_put]<;>rfl)⟩
 ·rintro i s hi ⟨tm,z3,y,vs,rfl,tl,t1,t3,t4,t5,t6⟩
  have hi':(i:Int)<(T.length:Int):=by omega
  have s3:=tl.o.1
  have s03:=s02.trans s3
  obtain⟨bb,o,cs,w,hc,hq,hn,hwt,uw⟩:=kl2.at_ hi
  obtain⟨ht1,ht2⟩:=hT _ (List.getElem_mem hi)
  have hstep:=uptoT_step (a:=a) RR hi
  have hli:=hlen i
  generalize T[i]=tt at hwt ht1 ht2 hstep
  have ow:=hwt.one
  simp -implicitDefEqProofs(maxSteps:=999999)(disch:=first|with_reducible rfl|omega|(simp only[nA,nS,nD]<;>omega)|fail)only[go_sem,t1,t3,t4,t5,t6,hlT,hi',hq (nat_cst i),s3.cells hc,hn,cells_of (s3.get ga2),oC,oR,oG]
  refine refGaps_ev s03.wf (x.mono s03) r (hwt.mono s3) ht1 ht2 _ fun z4 s4=>?_
  have tl4:=tl.mono s4
  have s24:=s3.trans s4
  cases hg:gapsB a tt with
  |false=>
   rw[hg] at hstep
   simp -implicitDefEqProofs(maxSteps:=999999)(disch:=first|with_reducible rfl|omega|(simp only[nA,nS,nD]<;>omega)|fail)only[go_sem,t1,t3,t4,t5,t6,hq (nat_cst i),s3.cells hc,s24.cells hc,hn,cells_of (s24.get ga2),cells_of (s3.get ga2),oC,oR,oG,wr_succ]
   exact⟨_,_,_,_,rfl,by rw[hstep];simpa using tl4,(by simp[ev_c,ev_put,t1]<;>rfl),(by simp[ev_c,ev_put,t3]<;>rfl),(by simp[ev_c,ev_put,t4]<;>rfl),(by simp[ev_c,ev_put,t5]<;>rfl),(by simp[ev_c,ev_put]<;>rfl)⟩
  |true=>
   rw[hg,if_pos rfl] at hstep
   simp -implicitDefEqProofs(maxSteps:=999999)(disch:=first|with_reducible rfl|omega|(simp only[nA,nS,nD]<;>omega)|fail)only[go_sem,t1,t3,t4,t5,t6,hq (nat_cst i),s3.cells hc,s24.cells hc,hn,cells_of (s24.get ga2),cells_of (s3.get ga2),oC,oR,oG]
   clear tl
   refine W_count RR.length (fun k s=>∃tm z5 y vs,s=⟨tm,z5,[]⟩∧TL h.next z2 z5 y (uptoT a T RR i++(ofT RR tt).take k) vs∧(Opd.t 1).ev tm=.ptr h.next 0∧(Opd.t 3).ev tm=yl∧(Opd.t 4).ev tm=yc∧(Opd.t 5).ev tm=y∧(Opd.t 6).ev tm=.int .i64 (i:Int)∧(Opd.t 7).ev tm=.int .i64 (k:Int)) ?_ ?_ (i:=0) (Nat.zero_le _)
    ⟨_,_,_,_,rfl,by simpa using tl4,(by simp[ev_c,ev_put,t1]<;>rfl),(by simp[ev_c,ev_put,t3]<;>rfl),(by simp[ev_c,ev_put,t4]<;>rfl),(by simp[ev_c,ev_put,t5]<;>rfl),(by simp[ev_c,ev_put,t6]<;>rfl),(by simp[ev_c,ev_put]<;>rfl)⟩
   ·clear tl4 t1 t3 t4 t5 t6
    rintro k s hk ⟨tm,z5,y,vs,rfl,tl,t1,t3,t4,t5,t6,t7⟩
    have hk':(k:Int)<(RR.length:Int):=by omega
    have s25:=tl.o.1
    have hw5:=s25.wf
    obtain⟨bb2,o2,cs2,w2,hc2,hq2,hn2,hwr,_⟩:=(kc.mono s25).at_ hk
    have hrl:=hrow _ (List.getElem_mem hk)
    have hst:(ofT RR tt)[k]? =some (evens RR[k],odds RR[k],tt):=by unfold ofT;rw[List.getElem?_map,List.getElem?_eq_getElem hk];rfl
    generalize RR[k]=row at hwr hrl hst
    have hlr:=hwr.lenE
    have e1:=evens_len row
    have hw5t:=hwt.mono s25
    have o5:=hw5t.one
    obtain⟨z6,hz6⟩:∃z6,z5.add (.cells .rw [.nils,.nils,w])=z6:=⟨_,rfl⟩
    have s6:z5.Sub z6:=by rw[←hz6];exact(by repeat(first|assumption|exact H.Sub.refl (by assumption)|refine H.Sub.add ?_ _|refine H.Sub.set ?_ (by first|omega|(simp only[H.next_add,H.next_set,H.next_del]<;>omega)) (by first|omega|(simp only[H.next_add,H.next_set,H.next_del]<;>omega)) (by assumption) _))
    have g6:z6.get z5.next=some (.cells .rw [.nils,.nils,w]):=by rw[←hz6];exact get_add_new rfl
    simp -implicitDefEqProofs(maxSteps:=999999)(disch:=first|with_reducible rfl|omega|(simp only[nA,nS,nD]<;>omega)|fail)only[go_sem,t1,t3,t4,t5,t6,t7,hlR,hk',hq (nat_cst i),s25.cells hc,hn,o5,cells_one o5]
    try rw[hz6]
    clear hz6
    refine W_count a.cks.length (fun j s=>∃tm z7 S Ga,s=⟨tm,z7,[]⟩∧OwnSl z5 z7 S 1 (((evens row).take j).map encI)∧OwnSl z5 z7 Ga 1 (((odds row).take j).map encI)∧(∀b,blkOf S b→¬blkOf Ga b)∧z7.get z5.next=some (.cells .rw [S,Ga,w])∧
      (Opd.t 1).ev tm=.ptr h.next 0∧(Opd.t 3).ev tm=yl∧(Opd.t 4).ev tm=yc∧(Opd.t 5).ev tm=y∧(Opd.t 6).ev tm=.int .i64 (i:Int)∧(Opd.t 7).ev tm=.int .i64 (k:Int)∧(Opd.t 8).ev tm=.ptr z5.next 0∧(Opd.t 9).ev tm=.int .i64 ((2*j:Nat):Int)) ?_ ?_ (i:=0) (Nat.zero_le _)
     ⟨_,_,_,_,rfl,OwnSl.nil s6 1,OwnSl.nil s6 1,fun b hb=>(blkOf_nils hb).elim,g6,(by simp[ev_c,ev_put,t1]<;>rfl),(by simp[ev_c,ev_put,t3]<;>rfl),(by simp[ev_c,ev_put,t4]<;>rfl),(by simp[ev_c,ev_put,t5]<;>rfl),(by simp[ev_c,ev_put,t6]<;>rfl),(by simp[ev_c,ev_put,t7]<;>rfl),(by simp[ev_c,ev_put]<;>rfl),(by simp[ev_c,ev_put]<;>rfl)⟩
    ·clear t1 t3 t4 t5 t6 t7 g6 s6
     rintro j s hj ⟨tm,z7,S,Ga,rfl,oS,oG',dj,g8,t1,t3,t4,t5,t6,t7,t8,t9⟩
     have s7:=oS.1
     have hj':((2*j:Nat):Int)<(row.length:Int):=by omega
     have hp:2*j+1<row.length:=by omega
     obtain⟨v1,v2⟩:=evens_at hp
     have h2j:2*j<row.length:=by omega
     rw[List.getElem?_eq_getElem h2j] at v1
     rw[List.getElem?_eq_getElem hp] at v2
     obtain⟨b3,o3,m3,cs3,ex3,hc3,hq3,_,_,n3⟩:=hwr.at h2j
     obtain⟨b4,o4,m4,cs4,ex4,hc4',hq4,_,_,n4⟩:=hwr.at hp
     have n3:=n3 (by decide)
     have n4:=n4 (by decide)
     simp only[encI,List.getElem?_cons_zero] at n3 n4
     generalize row[2*j]=u1 at n3 v1
     generalize row[2*j+1]=u2 at n4 v2
     have a1:(evens row).take (j+1)=(evens row).take j++[u1]:=by rw[List.take_add_one,v1];rfl
     have a2:(odds row).take (j+1)=(odds row).take j++[u2]:=by rw[List.take_add_one,v2];rfl
     have w4:wr .i64 (((2*j:Nat):Int)+1)=((2*j+1:Nat):Int):=by rw[wr_in (by omega) (by omega)];omega
     have w9:wr .i64 (((2*j:Nat):Int)+2)=((2*(j+1):Nat):Int):=by rw[wr_in (by omega) (by omega)];omega
     have s7c:=s7.cells hc2
     have s73:=s7.cells hc3
     have s74:=s7.cells hc4'
     have oneS:=(oS.c.sl (by rw[List.length_map,List.length_take];omega)).one
     have oneG:=(oG'.c.sl (by rw[List.length_map,List.length_take];omega)).one
     have s8:=(H.Sub.refl s7.wf).add (.cells .rw [.int .i64 u1])
     simp -implicitDefEqProofs(maxSteps:=999999)(disch:=first|with_reducible rfl|omega|(simp only[nA,nS,nD]<;>omega)|fail)only[go_sem,t1,t3,t4,t5,t6,t7,t8,t9,hlR,hq2 (nat_cst k),s7c,hn2,hlr,hj',cells_of g8,hq3 (nat_cst (2*j)),s73,n3,s8.cells s7c,cells_of (s8.get g8),s8.cells s73]
     refine own_app hw5 oS (by rw[List.length_take];omega) fun S' z9 oS' nb kk=>?_
     have oG2:=oG'.keep kk oS'.1 fun b hb hs=>dj b hs hb
     have g9:=kk.2 _ _ g8 (oS.ne g8)
     have s9:=oS'.1
     have dj2:∀b,blkOf S' b→¬blkOf Ga b:=fun b hb hg=>by have:=nb b hb;have:=(oG'.blk hg).2.1;omega
     have l9:=s9.wf _ _ g9
     have s10:z5.Sub (z9.set z5.next (.cells .rw [S',Ga,w])):=s9.set (Nat.le_refl _) (by omega) hw5 _
     have k10:=Keeps.set z9 z5.next (.cells .rw [S',Ga,w])
     have oS3:=oS'.keep k10 s10 fun b hb e=>by subst e;exact oS'.ne g9 hb
     have oG3:=oG2.keep k10 s10 fun b hb e=>by subst e;exact oG2.ne g9 hb
     have g10:(z9.set z5.next (.cells .rw [S',Ga,w])).get z5.next=some (.cells .rw [S',Ga,w]):=get_set_same rfl
     have oneS':=(oS'.c.sl (by rw[List.length_map,List.length_append,List.length_take];simp only[List.length_singleton];omega)).one
     simp -implicitDefEqProofs(maxSteps:=999999)(disch:=first|with_reducible rfl|omega|(simp only[nA,nS,nD]<;>omega)|fail)only[go_sem,t1,t3,t4,t5,t6,t7,t8,t9,hlR,hq2 (nat_cst k),hn2,hq3 (nat_cst (2*j)),n3,s8.cells s7c,s8.cells s73,cells_of (s8.get g8),s9.cells hc2,s9.cells hc3,cells_of g9,g9,oneS',cells_one oneS']
     obtain⟨z10,hz10⟩:∃z10,z9.set z5.next (.cells .rw [S',Ga,w])=z10:=⟨_,rfl⟩
     rw[hz10] at s10 k10 oS3 oG3 g10
     try rw[hz10]
     clear hz10
     have s11:=(H.Sub.refl s10.wf).add (.cells .rw [.int .i64 u2])
     simp -implicitDefEqProofs(maxSteps:=999999)(disch:=first|with_reducible rfl|omega|(simp only[nA,nS,nD]<;>omega)|fail)only[go_sem,t1,t3,t4,t5,t6,t7,t8,t9,hlR,hq2 (nat_cst k),hn2,s10.cells hc2,cells_of g10,w4,hq4 (nat_cst (2*j+1)),s10.cells hc4',n4,(s10.trans s11).cells hc2,(s10.trans s11).cells hc4',cells_of (s11.get g10)]
     refine own_app hw5 oG3 (by rw[List.length_take];omega) fun G2 z11 oG4 nb2 kk2=>?_
     have oS4:=oS3.keep kk2 oG4.1 fun b hb hs=>dj2 b hb hs
     have g11:=kk2.2 _ _ g10 (oG3.ne g10)
     have s11':=oG4.1
     have dj3:∀b,blkOf S' b→¬blkOf G2 b:=fun b hb hg=>by have:=nb2 b hg;have:=(oS3.blk hb).2.1;omega
     have l11:=s11'.wf _ _ g11
     have s12:z5.Sub (z11.set z5.next (.cells .rw [S',G2,w])):=s11'.set (Nat.le_refl _) (by omega) hw5 _
     have k12:=Keeps.set z11 z5.next (.cells .rw [S',G2,w])
     have oS5:=oS4.keep k12 s12 fun b hb e=>by subst e;exact oS4.ne g11 hb
     have oG5:=oG4.keep k12 s12 fun b hb e=>by subst e;exact oG4.ne g11 hb
     have oneG':=(oG4.c.sl (by rw[List.length_map,List.length_append,List.length_take];simp only[List.length_singleton];omega)).one
     simp -implicitDefEqProofs(maxSteps:=999999)(disch:=first|with_reducible rfl|omega|(simp only[nA,nS,nD]<;>omega)|fail)only[go_sem,t1,t3,t4,t5,t6,t7,t8,t9,hlR,hq2 (nat_cst k),hn2,(s10.trans s11).cells hc2,(s10.trans s11).cells hc4',cells_of (s11.get g10),s11'.cells hc2,s11'.cells hc4',hq4 (nat_cst (2*j+1)),w4,n4,cells_of g11,g11,oneG',cells_one oneG',w9]
     exact⟨_,_,S',G2,rfl,by rw[a1];exact oS5,by rw[a2];exact oG5,dj3,get_set_same rfl,(by simp[ev_c,ev_put,t1]<;>rfl),(by simp[ev_c,ev_put,t3]<;>rfl),(by simp[ev_c,ev_put,t4]<;>rfl),(by simp[ev_c,ev_put,t5]<;>rfl),(by simp[ev_c,ev_put,t6]<;>rfl),(by simp[ev_c,ev_put,t7]<;>rfl),(by simp[ev_c,ev_put,t8]<;>rfl),(by simp[ev_c,ev_put]<;>rfl)⟩
    ·clear t1 t3 t4 t5 t6 t7 g6 s6
     rintro s ⟨tm,z7,S,Ga,rfl,oS,oG',dj,g8,t1,t3,t4,t5,t6,t7,t8,t9⟩
     have s7:=oS.1
     have hj':¬((2*a.cks.length:Nat):Int)<(row.length:Int):=by omega
     rw[List.take_of_length_le (by omega)] at oS oG'
     have sS:=oS.c.sl (by rw[List.length_map];omega)
     have sG:=oG'.c.sl (by rw[List.length_map];omega)
     have oneS:=sS.one
     have oneG:=sG.one
     have hv:TrT z7 (S,Ga,w) (evens row,odds row,tt):=⟨sS,sG,hw5t.mono s7⟩
     have sA:=(H.Sub.refl s7.wf).add (.cells .rw [S,Ga,w])
     simp -implicitDefEqProofs(maxSteps:=999999)(disch:=first|with_reducible rfl|omega|(simp only[nA,nS,nD]<;>omega)|fail)only[go_sem,t1,t3,t4,t5,t6,t7,t8,t9,hlR,hq2 (nat_cst k),s7.cells hc2,hn2,hlr,hj',cells_of g8,oneS,oneG,o5]
     have hw5n:=s25.next
     have lz2:=s02.next
     refine(tl.mono (s7.trans sA)).push hw2 (by have:=hlen2 tt;rw[List.length_append,List.length_take];omega) (v:=(S,Ga,w)) (t:=(evens row,odds row,tt)) (SlAt.new _ rfl rfl (by simp[row3]) (by simp[row3]) (by simp)) (hv.mono sA) ⟨(ownUp oS).low (by omega),(ownUp oG').low (by omega),uw.low sz.next⟩ fun y5 z9 l5 _=>?_
     simp -implicitDefEqProofs(maxSteps:=999999)(disch:=first|with_reducible rfl|omega|(simp only[nA,nS,nD]<;>omega)|fail)only[go_sem,t1,t3,t4,t5,t6,t7,t8,t9,wr_succ]
     have e2:(ofT RR tt).take (k+1)=(ofT RR tt).take k++[(evens row,odds row,tt)]:=by rw[List.take_add_one,hst];rfl
     exact⟨_,_,_,_,rfl,by rw[e2,←List.append_assoc];exact l5,(by simp[ev_c,ev_put,t1]<;>rfl),(by simp[ev_c,ev_put,t3]<;>rfl),(by simp[ev_c,ev_put,t4]<;>rfl),(by simp[ev_c,ev_put]<;>rfl),(by simp[ev_c,ev_put,t6]<;>rfl),(by simp[ev_c,ev_put]<;>rfl)⟩
   ·clear tl4 t1 t3 t4 t5 t6
    rintro s ⟨tm,z5,y,vs,rfl,tl,t1,t3,t4,t5,t6,t7⟩
    have hk':¬(RR.length:Int)<(RR.length:Int):=by omega
    have hlo:(ofT RR tt).take RR.length=ofT RR tt:=List.take_of_length_le (by unfold ofT;rw[List.length_map];exact Nat.le_refl _)
    rw[hlo,←hstep] at tl
    simp -implicitDefEqProofs(maxSteps:=999999)(disch:=first|with_reducible rfl|omega|(simp only[nA,nS,nD]<;>omega)|fail)only[go_sem,t1,t3,t4,t5,t6,t7,hlR,hk',wr_succ]
    exact⟨_,_,_,_,rfl,tl,(by simp[ev_c,ev_put,t1]<;>rfl),(by simp[ev_c,ev_put,t3]<;>rfl),(by simp[ev_c,ev_put,t4]<;>rfl),(by simp[ev_c,ev_put,t5]<;>rfl),(by simp[ev_c,ev_put]<;>rfl)⟩
 ·rintro s ⟨tm,z3,y,vs,rfl,tl,t1,t3,t4,t5,t6⟩
  rw[hall] at tl
  have s3:=tl.o.1
  simp -implicitDefEqProofs(maxSteps:=999999)(disch:=first|with_reducible rfl|omega|(simp only[nA,nS,nD]<;>omega)|fail)only[go_sem,t1,t3,t4,t5,t6,hlT,Int.lt_irrefl]
  exact q _ _ (s02.trans s3) (tl.rd (by rw[←hall];have:=hlen T.length;omega) s02.next)
end Go.Ab.Tryz
namespace Go.Ab.Tryz
open Go.Proofs
structure InT (a:At)(t:TT):Prop where
 l:LenT a t
 m:∀x∈t.2.2,0≤x∧x≤240
 r:∀(k:Nat) s g,t.1[k]? =some s→t.2.1[k]? =some g→RunIn s g
theorem allT_in {a:At}(r:Right a){t:TT}(h:t∈allT a):InT a t:=by
 obtain⟨l,tr⟩:=(allT_mem r).1 h
 have he:=r.evs
 have hm:=r.mins
 refine⟨l,fun x hx=>?_,fun k s g h1 h2=>(tr.run k (s,g) (zip_get.2 ⟨h1,h2⟩)).run r⟩
 obtain⟨i,hi,rfl⟩:=List.mem_iff_getElem.1 hx
 have l3:=l.2.2
 have:=tr.mins i (by omega)
 rw[timeF_at (List.getElem?_eq_getElem hi)] at this
 omega
theorem fitT_in {a:At}(r:Right a){t:TT}(h:t∈fitT a):InT a t:=allT_in r (List.mem_filter.1 h).1
theorem allT_len (a:At):(allT a).length≤(a.mins.toNat+1)^a.evs.toNat*runsN a.cks:=by
 have:=uptoT_len (a:=a) (T:=timesL a a.evs.toNat) (RR:=runsL a.cks) (timesL a a.evs.toNat).length
 rw[uptoT_all,timesL_len,runsL_len] at this
 exact this
theorem fitT_len (a:At):(fitT a).length≤(a.mins.toNat+1)^a.evs.toNat*runsN a.cks:=Nat.le_trans (List.length_filter_le ..) (allT_len a)
set_option maxHeartbeats 4000000 in
theorem Fitting_ev {h:H}(hw:h.wf){a:At}{C R G:V}(x:AtAt h C R G a)(r:Right a){y0:V}{n:Nat}(ty:TR n h y0 (allT a))(hn:n≤h.next)(hl:(allT a).length≤100000)(Q:V→H→Prop)(q:∀y h',h.Sub h'→TR n h' y (fitT a)→Q y h'):
  Ev fnG fastA (.fn 26 [] []) [.agg (atV a C R G),y0] h Q:=by
 have oC:=x.c.one;have oR:=x.r.one;have oG:=x.g.one
 have oy:=ty.one
 refine Ev_body (fd:=c26) rfl rfl rfl ?_
 obtain⟨z,hz⟩:∃z,h.add (.cells .rw (atV a C R G))=z:=⟨_,rfl⟩
 have sz:h.Sub z:=by rw[←hz];exact(by repeat(first|assumption|exact H.Sub.refl (by assumption)|refine H.Sub.add ?_ _|refine H.Sub.set ?_ (by first|omega|(simp only[H.next_add,H.next_set,H.next_del]<;>omega)) (by first|omega|(simp only[H.next_add,H.next_set,H.next_del]<;>omega)) (by assumption) _))
 have ga:z.get h.next=some (.cells .rw (atV a C R G)):=by rw[←hz];exact get_add_new rfl
 simp -implicitDefEqProofs(maxSteps:=999999)(disch:=first|with_reducible rfl|omega|(simp only[nA,nS,nD]<;>omega)|fail)only[c26,go_sem,oC,oR,oG]
 rw[hz]
 clear hz
 have hlA:=ty.lenE
 have hin:=fun t (ht:t∈allT a)=>allT_in r ht
 have hst:∀i (hi:i<(allT a).length),((allT a).take (i+1)).filter (fun t=>decide (missT a t=0))=((allT a).take i).filter (fun t=>decide (missT a t=0))++if missT a (allT a)[i]=0 then[(allT a)[i]] else[]:=fun i hi=>by
  rw[List.take_add_one,List.getElem?_eq_getElem hi,List.filter_append]
  congr 1
  simp only[Option.toList_some,List.filter_cons,List.filter_nil,decide_eq_true_eq]
 have hfl:∀i,(((allT a).take i).filter (fun t=>decide (missT a t=0))).length≤100000:=fun i=>Nat.le_trans (List.length_filter_le ..) (by rw[List.length_take];omega)
 have hfin:((allT a).take (allT a).length).filter (fun t=>decide (missT a t=0))=fitT a:=by rw[List.take_length];rfl
 generalize allT a=A at *
 refine W_count A.length (fun i s=>∃tm z2 y vs,s=⟨tm,z2,[]⟩∧TL n z z2 y ((A.take i).filter fun t=>decide (missT a t=0)) vs∧(Opd.t 1).ev tm=y0∧(Opd.t 2).ev tm=.ptr h.next 0∧(Opd.t 5).ev tm=y∧(Opd.t 6).ev tm=.int .i64 (i:Int)) ?_ ?_ (i:=0) (Nat.zero_le _)
  ⟨_,_,_,_,rfl,TL.nil (H.Sub.refl sz.wf),(by simp[ev_c,ev_put]<;>rfl),(by simp[ev_c,ev_put]<;>rfl),(by simp[ev_c,ev_put]<;>rfl),(by simp[ev_c,ev_put]<;>rfl)⟩
 ·rintro i s hi ⟨tm,z2,y,vs,rfl,tl,t1,t2,t5,t6⟩
  have hi':(i:Int)<(A.length:Int):=by omega
  have s2:=tl.o.1
  have s02:=sz.trans s2
  obtain⟨bb,o,cs,v,hc,hq,hg,hn0,hn1,hn2,hv,hu⟩:=(ty.mono s02).at_ hi
  have hti:=hin _ (List.getElem_mem hi)
  have hs:=hst i hi
  have hfi:=hfl i
  generalize A[i]=t at hv hti hs
  obtain⟨ss,gg,tt⟩:=t
  obtain⟨S,Ga,Tm⟩:=v
  obtain⟨l1,l2,l3⟩:=hti.l
  simp only[row3] at hg
  have oS:=hv.s.one;have oGa:=hv.g.one;have oT:=hv.t.one
  simp only at oS oGa oT
  have hrow:=hv.one
  simp -implicitDefEqProofs(maxSteps:=999999)(disch:=first|with_reducible rfl|omega|(simp only[nA,nS,nD]<;>omega)|fail)only[go_sem,t1,t2,t5,t6,hlA,hi',hq (nat_cst i),hc,hg,cells_of (s2.get ga),oC,oR,oG]
  refine Missed_ev s02.wf (x.mono s02) r hv l1 l2 l3 hti.m hti.r _ fun z3 s3=>?_
  have tl3:=tl.mono s3
  have hv3:=hv.mono s3
  by_cases hm:missI a ss gg tt=0
  ·rw[show missT a (ss,gg,tt)=missI a ss gg tt from rfl,if_pos hm] at hs
   simp -implicitDefEqProofs(maxSteps:=999999)(disch:=first|with_reducible rfl|omega|(simp only[nA,nS,nD]<;>omega)|fail)only[go_sem,t1,t2,t5,t6,hm,hq (nat_cst i),hc,s3.cells hc,hg,cells_of (s2.get ga),cells_of ((s2.trans s3).get ga),oC,oR,oG,oS,oGa,oT]
   have sA:=(H.Sub.refl s3.wf).add (.cells .rw [S,Ga,Tm])
   refine(tl3.mono sA).push sz.wf (by omega) (v:=(S,Ga,Tm)) (t:=(ss,gg,tt)) (SlAt.new _ rfl rfl (by simp[row3]) (by simp[row3]) (by simp)) (hv3.mono sA) hu fun y5 z5 l5 _=>?_
   simp -implicitDefEqProofs(maxSteps:=999999)(disch:=first|with_reducible rfl|omega|(simp only[nA,nS,nD]<;>omega)|fail)only[go_sem,t1,t2,t5,t6,wr_succ]
   exact⟨_,_,_,_,rfl,by rw[hs];exact l5,(by simp[ev_c,ev_put,t1]<;>rfl),(by simp[ev_c,ev_put,t2]<;>rfl),(by simp[ev_c,ev_put]<;>rfl),(by simp[ev_c,ev_put]<;>rfl)⟩
  ·rw[show missT a (ss,gg,tt)=missI a ss gg tt from rfl,if_neg hm] at hs
   simp -implicitDefEqProofs(maxSteps:=999999)(disch:=first|with_reducible rfl|omega|(simp only[nA,nS,nD]<;>omega)|fail)only[go_sem,t1,t2,t5,t6,hm,hq (nat_cst i),hc,s3.cells hc,hg,cells_of (s2.get ga),cells_of ((s2.trans s3).get ga),oC,oR,oG,wr_succ]
   exact⟨_,_,_,_,rfl,by rw[hs];simpa using tl3,(by simp[ev_c,ev_put,t1]<;>rfl),(by simp[ev_c,ev_put,t2]<;>rfl),(by simp[ev_c,ev_put,t5]<;>rfl),(by simp[ev_c,ev_put]<;>rfl)⟩
 ·rintro s ⟨tm,z2,y,vs,rfl,tl,t1,t2,t5,t6⟩
  rw[hfin] at tl
  have s2:=tl.o.1
  simp -implicitDefEqProofs(maxSteps:=999999)(disch:=first|with_reducible rfl|omega|(simp only[nA,nS,nD]<;>omega)|fail)only[go_sem,t1,t2,t5,t6,hlA,Int.lt_irrefl]
  exact q _ _ (sz.trans s2) (tl.rd (by rw[←hfin];have:=hfl A.length;omega) (Nat.le_trans hn sz.next))
end Go.Ab.Tryz
namespace Go.Ab.Tryz
open Go.Proofs
theorem dec_nat0 (i:Nat):decide ((i:Int)=0)=decide (i=0):=by
 rw[Bool.eq_iff_iff];simp only[decide_eq_true_eq];omega
theorem time_at {a:At}{t:TT}(k:InT a t){e:Nat}(he:(e:Int)<a.evs):∃he':e<t.2.2.length,timeF t.2.2 e=t.2.2[e]∧0≤t.2.2[e]∧t.2.2[e]≤240:=by
 have:=k.l.2.2
 have h1:e<t.2.2.length:=by omega
 exact⟨h1,timeF_at (List.getElem?_eq_getElem h1),k.m _ (List.getElem_mem h1)⟩
set_option maxHeartbeats 4000000 in
theorem refShows_ev {h:H}(hw:h.wf){a:At}{y0:V}{n:Nat}{L:List TT}(ty:TR n h y0 L)(hL:∀t∈L,InT a t)(hl:L.length≤100000){f k:Nat}(hf:(f:Int)<a.evs)(hk:k<a.cks.length)(Q:V→H→Prop)
  (q:∀h',h.Sub h'→Q (spV (wideL (L.map fun x=>shw (x.1.getD k 0) (x.2.1.getD k 0) (timeF x.2.2 f)))) h'):Ev fnG fastA (.fn 37 [] []) [y0,.int .i64 (k:Int),.int .i64 (f:Int)] h Q:=by
 have hlL:=ty.lenE
 obtain⟨Wd,hWd⟩:∃Wd:List Int,L.map (fun x=>shw (x.1.getD k 0) (x.2.1.getD k 0) (timeF x.2.2 f))=Wd:=⟨_,rfl⟩
 have hWl:Wd.length=L.length:=by rw[←hWd,List.length_map]
 have s1:h.Sub (h.add (.cells .rw [.int .i64 0,.int .i64 0])):=(H.Sub.refl hw).add _
 have s2:h.Sub ((h.add (.cells .rw [.int .i64 0,.int .i64 0])).add (.cells .rw [.int .i64 0,.int .i64 0])):=s1.add _
 refine Ev_body (fd:=c37) rfl rfl rfl ?_
 simp -implicitDefEqProofs(maxSteps:=999999)(disch:=first|with_reducible rfl|omega|(simp only[nA,nS,nD]<;>omega)|fail)only[c37,go_sem]
 refine W_count L.length (fun i s=>∃tm h',s=⟨tm,h',[]⟩∧h.Sub h'∧h.next+1<h'.next∧h'.get h.next=some (.cells .rw [.int .i64 0,.int .i64 0])∧h'.get (h.next+1)=some (.cells .rw [.int .i64 (wideL (Wd.take i)).1,.int .i64 (wideL (Wd.take i)).2])∧
   (Opd.t 0).ev tm=y0∧(Opd.t 1).ev tm=.int .i64 (k:Int)∧(Opd.t 2).ev tm=.int .i64 (f:Int)∧(Opd.t 6).ev tm=.ptr h.next 0∧(Opd.t 7).ev tm=.ptr (h.next+1) 0∧(Opd.t 8).ev tm=.int .i64 (i:Int)) ?_ ?_ (i:=0) (Nat.zero_le _)
  ⟨_,_,rfl,(by repeat(first|assumption|exact H.Sub.refl (by assumption)|refine H.Sub.add ?_ _|refine H.Sub.set ?_ (by first|omega|(simp only[H.next_add,H.next_set,H.next_del]<;>omega)) (by first|omega|(simp only[H.next_add,H.next_set,H.next_del]<;>omega)) (by assumption) _)),by simp only[H.next_add];omega,by simp -implicitDefEqProofs(maxSteps:=999999)(disch:=first|with_reducible rfl|omega|(simp only[nA,nS,nD]<;>omega)|fail)only[go_sem],by rw[List.take_zero];simp -implicitDefEqProofs(maxSteps:=999999)(disch:=first|with_reducible rfl|omega|(simp only[nA,nS,nD]<;>omega)|fail)only[go_sem,wideL],(by simp[ev_c,ev_put]<;>rfl),(by simp[ev_c,ev_put]<;>rfl),(by simp[ev_c,ev_put]<;>rfl),(by simp[ev_c,ev_put]<;>rfl),(by simp[ev_c,ev_put]<;>rfl),(by simp[ev_c,ev_put]<;>rfl)⟩
 ·rintro i s hi ⟨tm,h1,rfl,sh,nx,g6,g7,e0,e1,e2,er,eo,ei⟩
  have hi':(i:Int)<(L.length:Int):=by omega
  have hw1:=sh.wf
  have hiW:i<Wd.length:=by omega
  obtain⟨bb,oo,cs,v,hc,hq,hg,hn0,hn1,hn2,hv,_⟩:=(ty.mono sh).at_ hi
  have hti:=hL _ (List.getElem_mem hi)
  have hst:=wideL_step hiW
  have hWi:Wd[i]=(fun x:TT=>shw (x.1.getD k 0) (x.2.1.getD k 0) (timeF x.2.2 f)) L[i]:=by simp only[←hWd,List.getElem_map]
  rw[hWi] at hst
  generalize L[i]=t at hv hti hst
  simp only at hst
  obtain⟨l1,v1,lo1,hi1⟩:=time_at hti hf
  obtain⟨b1,o1,k1,cs1,_,hc1,hq1,_,_,m1⟩:=(hv.t.mono (H.Sub.refl hw1)).at l1
  have m1:=m1 (by decide)
  simp only[encI,List.getElem?_cons_zero] at m1
  rw[v1] at hst
  generalize t.2.2[f]=x1 at m1 hst lo1 hi1
  obtain⟨l1',l2',l3'⟩:=hti.l
  have lkS:k<t.1.length:=by omega
  have lkG:k<t.2.1.length:=by omega
  have hrn:=hti.r k _ _ (List.getElem?_eq_getElem lkS) (List.getElem?_eq_getElem lkG)
  obtain⟨b2,o2,k2,cs2,_,hc2,hq2,_,_,m2⟩:=(hv.s.mono (H.Sub.refl hw1)).at lkS
  obtain⟨b3,o3,k3,cs3,_,hc3,hq3,_,_,m3⟩:=(hv.g.mono (H.Sub.refl hw1)).at lkG
  have m2:=m2 (by decide)
  have m3:=m3 (by decide)
  simp only[encI,List.getElem?_cons_zero] at m2 m3
  rw[getD_at lkS,getD_at lkG] at hst
  generalize t.1[k]=x2 at m2 hst hrn
  generalize t.2.1[k]=x3 at m3 hst hrn
  simp -implicitDefEqProofs(maxSteps:=999999)(disch:=first|with_reducible rfl|omega|(simp only[nA,nS,nD]<;>omega)|fail)only[go_sem,e0,e1,e2,er,eo,ei,hlL,hi',hq (nat_cst i),hc,hn0,hn1,hn2,cells_of g7,hq1 (nat_cst f),hc1,m1,hq2 (nat_cst k),hc2,m2,hq3 (nat_cst k),hc3,m3]
  refine refShown_ev hw1 hrn lo1 hi1 _ ?_
  simp -implicitDefEqProofs(maxSteps:=999999)(disch:=first|with_reducible rfl|omega|(simp only[nA,nS,nD]<;>omega)|fail)only[go_sem,e0,e1,e2,er,eo,ei,hlL,hq (nat_cst i),hc,hn0,hn1,hn2,cells_of g7,hq1 (nat_cst f),hc1,m1,hq2 (nat_cst k),hc2,m2,hq3 (nat_cst k),hc3,m3]
  refine wider_ev sh.wf (wideL (Wd.take i)) _ _ _ fun h2 s2'=>?_
  have s12:=s2'
  have n2:=s12.next
  rw[dec_nat0,←hst]
  simp -implicitDefEqProofs(maxSteps:=999999)(disch:=first|with_reducible rfl|omega|(simp only[nA,nS,nD]<;>omega)|fail)only[go_sem,e0,e1,e2,er,eo,ei,hlL,hq (nat_cst i),hc,s12.cells hc,hn0,hn1,hn2,cells_of g7,cells_of (s12.get g7),s12.get g7,hq1 (nat_cst f),hc1,m1,hq2 (nat_cst k),hc2,m2,hq3 (nat_cst k),hc3,m3,wr_succ]
  exact⟨_,_,rfl,(sh.trans s12).set (by omega) (by omega) hw _,by rw[H.next_set];omega,by rw[get_set_other (by omega)];exact s12.get g6,by rw[get_set_same rfl],(by simp[ev_c,ev_put,e0]<;>rfl),(by simp[ev_c,ev_put,e1]<;>rfl),(by simp[ev_c,ev_put,e2]<;>rfl),(by simp[ev_c,ev_put,er]<;>rfl),(by simp[ev_c,ev_put,eo]<;>rfl),(by simp[ev_c,ev_put]<;>rfl)⟩
 ·rintro s ⟨tm,h1,rfl,sh,nx,g6,g7,e0,e1,e2,er,eo,ei⟩
  rw[←hWl,List.take_length,←hWd] at g7
  simp -implicitDefEqProofs(maxSteps:=999999)(disch:=first|with_reducible rfl|omega|(simp only[nA,nS,nD]<;>omega)|fail)only[go_sem,e0,e1,e2,er,eo,ei,hlL,Int.lt_irrefl,cells_of g6,cells_of g7,g6,g7]
  exact q _ (sh.set (Nat.le_refl _) (by omega) hw _)
end Go.Ab.Tryz
namespace Go.Ab.Tryz
open Go.Proofs
theorem setsN_step (l:List TT)(of:TT→Int)(i:Nat):setsN l of (i+1)=setsN l of i++if(l.any fun t=>decide (of t=(i:Int)-60))=true then[(i:Int)-60] else[]:=by
 unfold setsN
 rw[List.range_succ,List.map_append,List.filter_append]
 congr 1
 simp only[List.map_cons,List.map_nil,List.filter_cons,List.filter_nil]
theorem setsN_len (l:List TT)(of:TT→Int)(i:Nat):(setsN l of i).length≤i:=by
 unfold setsN
 refine Nat.le_trans (List.length_filter_le ..) ?_
 rw[List.length_map,List.length_range];exact Nat.le_refl _
theorem any_take {α:Type}{l:List α}{p:α→Bool}{j:Nat}(h:j<l.length):(l.take (j+1)).any p=((l.take j).any p||p l[j]):=by
 rw[take_at h,List.any_append];simp
set_option maxHeartbeats 8000000 in
theorem refRuns_ev {h:H}(hw:h.wf){a:At}{y0:V}{n:Nat}{L:List TT}(ty:TR n h y0 L)(hL:∀t∈L,InT a t)(hl:L.length≤100000){k:Nat}(hk:k<a.cks.length)(Q:V→H→Prop)
  (q:∀y1 y2 h',h.Sub h'→SlAt h' y1 1 ((setsT L fun t=>t.1.getD k 0).map encI)→SlAt h' y2 1 ((setsT L fun t=>t.2.1.getD k 0).map encI)→Up h.next y1→Up h.next y2→Q (.tup [y1,y2]) h'):
  Ev fnG fastA (.fn 36 [] []) [y0,.int .i64 (k:Int)] h Q:=by
 have hlL:=ty.lenE
 obtain⟨p1,hp1⟩:∃p1:TT→Int,(fun t:TT=>t.1.getD k 0)=p1:=⟨_,rfl⟩
 obtain⟨p2,hp2⟩:∃p2:TT→Int,(fun t:TT=>t.2.1.getD k 0)=p2:=⟨_,rfl⟩
 rw[hp1,hp2] at q
 refine Ev_body (fd:=c36) rfl rfl rfl ?_
 simp -implicitDefEqProofs(maxSteps:=999999)(disch:=first|with_reducible rfl|omega|(simp only[nA,nS,nD]<;>omega)|fail)only[c36,go_sem]
 refine W_count 121 (fun i s=>∃tm z S G,s=⟨tm,z,[]⟩∧OwnSl h z S 1 ((setsN L p1 i).map encI)∧OwnSl h z G 1 ((setsN L p2 i).map encI)∧(∀b,blkOf S b→¬blkOf G b)∧
   (Opd.t 0).ev tm=y0∧(Opd.t 1).ev tm=.int .i64 (k:Int)∧(Opd.t 6).ev tm=S∧(Opd.t 7).ev tm=G∧(Opd.t 8).ev tm=.int .i64 ((i:Int)-60)) ?_ ?_ (i:=0) (Nat.zero_le _)
  ⟨_,_,_,_,rfl,OwnSl.nil (H.Sub.refl hw) 1,OwnSl.nil (H.Sub.refl hw) 1,fun b hb=>(blkOf_nils hb).elim,(by simp[ev_c,ev_put]<;>rfl),(by simp[ev_c,ev_put]<;>rfl),(by simp[ev_c,ev_put]<;>rfl),(by simp[ev_c,ev_put]<;>rfl),(by simp[ev_c,ev_put]<;>rfl)⟩
 ·rintro i s hi ⟨tm,z,S,G,rfl,oS,oG,dj,e0,e1,e6,e7,e8⟩
  have hi':(i:Int)-60≤60:=by omega
  have sz:=oS.1
  simp -implicitDefEqProofs(maxSteps:=999999)(disch:=first|with_reducible rfl|omega|(simp only[nA,nS,nD]<;>omega)|fail)only[go_sem,e0,e1,e6,e7,e8,hi']
  refine W_count L.length (fun j s=>∃tm,s=⟨tm,z,[]⟩∧(Opd.t 0).ev tm=y0∧(Opd.t 1).ev tm=.int .i64 (k:Int)∧(Opd.t 6).ev tm=S∧(Opd.t 7).ev tm=G∧(Opd.t 8).ev tm=.int .i64 ((i:Int)-60)∧
    (Opd.t 9).ev tm=.bool ((L.take j).any fun t=>decide (p1 t=(i:Int)-60))∧(Opd.t 10).ev tm=.bool ((L.take j).any fun t=>decide (p2 t=(i:Int)-60))∧(Opd.t 11).ev tm=.int .i64 (j:Int)) ?_ ?_ (i:=0) (Nat.zero_le _)
   ⟨_,rfl,(by simp[ev_c,ev_put,e0]<;>rfl),(by simp[ev_c,ev_put,e1]<;>rfl),(by simp[ev_c,ev_put,e6]<;>rfl),(by simp[ev_c,ev_put,e7]<;>rfl),(by simp[ev_c,ev_put,e8]<;>rfl),by rw[List.take_zero,List.any_nil];exact(by simp[ev_c,ev_put]<;>rfl),by rw[List.take_zero,List.any_nil];exact(by simp[ev_c,ev_put]<;>rfl),(by simp[ev_c,ev_put]<;>rfl)⟩
  ·clear e0 e1 e6 e7 e8
   rintro j s hj ⟨tm,rfl,e0,e1,e6,e7,e8,e9,e10,e11⟩
   have hj':(j:Int)<(L.length:Int):=by omega
   obtain⟨bb,oo,cs,v,hc,hq,hg,hn0,hn1,hn2,hv,_⟩:=(ty.mono sz).at_ hj
   have hti:=hL _ (List.getElem_mem hj)
   have st1:=any_take (p:=fun t:TT=>decide (p1 t=(i:Int)-60)) hj
   have st2:=any_take (p:=fun t:TT=>decide (p2 t=(i:Int)-60)) hj
   simp only[←hp1] at st1 e9
   simp only[←hp2] at st2 e10
   generalize L[j]=t at hv hti st1 st2
   obtain⟨l1,l2,l3⟩:=hti.l
   have lkS:k<t.1.length:=by omega
   have lkG:k<t.2.1.length:=by omega
   obtain⟨b2,o2,k2,cs2,_,hc2,hq2,_,_,m2⟩:=hv.s.at lkS
   obtain⟨b3,o3,k3,cs3,_,hc3,hq3,_,_,m3⟩:=hv.g.at lkG
   have m2:=m2 (by decide)
   have m3:=m3 (by decide)
   simp only[encI,List.getElem?_cons_zero] at m2 m3
   rw[getD_at lkS] at st1
   rw[getD_at lkG] at st2
   generalize t.1[k]=x2 at m2 st1
   generalize t.2.1[k]=x3 at m3 st2
   simp only[←hp1,←hp2]
   rw[st1,st2]
   generalize((L.take j).any fun t=>decide (t.1.getD k 0=(i:Int)-60))=f1 at e9 st1
   generalize((L.take j).any fun t=>decide (t.2.1.getD k 0=(i:Int)-60))=f2 at e10 st2
   cases f1<;>cases f2<;>
   ·simp -implicitDefEqProofs(maxSteps:=999999)(disch:=first|with_reducible rfl|omega|(simp only[nA,nS,nD]<;>omega)|fail)only[go_sem,e0,e1,e6,e7,e8,e9,e10,e11,hlL,hj',hq (nat_cst j),hc,hn0,hn1,hn2,hq2 (nat_cst k),hc2,m2,hq3 (nat_cst k),hc3,m3,wr_succ]
    exact⟨_,rfl,(by simp[ev_c,ev_put,e0]<;>rfl),(by simp[ev_c,ev_put,e1]<;>rfl),(by simp[ev_c,ev_put,e6]<;>rfl),(by simp[ev_c,ev_put,e7]<;>rfl),(by simp[ev_c,ev_put,e8]<;>rfl),by simp only[Bool.false_or,Bool.true_or];exact(by simp[ev_c,ev_put]<;>rfl),by simp only[Bool.false_or,Bool.true_or];exact(by simp[ev_c,ev_put]<;>rfl),(by simp[ev_c,ev_put]<;>rfl)⟩
  ·clear e0 e1 e6 e7 e8
   rintro s ⟨tm,rfl,e0,e1,e6,e7,e8,e9,e10,e11⟩
   rw[List.take_length] at e9 e10
   have t1:=setsN_step L p1 i
   have t2:=setsN_step L p2 i
   have u1:=setsN_len L p1 i
   have u2:=setsN_len L p2 i
   generalize(L.any fun t=>decide (p1 t=(i:Int)-60))=f1 at e9 t1
   generalize(L.any fun t=>decide (p2 t=(i:Int)-60))=f2 at e10 t2
   have w8:wr .i64 ((i:Int)-60+1)=((i+1:Nat):Int)-60:=by rw[wr_in (by omega) (by omega)];omega
   rw[t1,t2]
   cases f1 with
   |false=>
    cases f2 with
    |false=>
     simp -implicitDefEqProofs(maxSteps:=999999)(disch:=first|with_reducible rfl|omega|(simp only[nA,nS,nD]<;>omega)|fail)only[go_sem,e0,e1,e6,e7,e8,e9,e10,e11,hlL,Int.lt_irrefl,w8]
     exact⟨_,_,S,G,rfl,by simpa using oS,by simpa using oG,dj,(by simp[ev_c,ev_put,e0]<;>rfl),(by simp[ev_c,ev_put,e1]<;>rfl),(by simp[ev_c,ev_put,e6]<;>rfl),(by simp[ev_c,ev_put,e7]<;>rfl),(by simp[ev_c,ev_put]<;>rfl)⟩
    |true=>
     simp -implicitDefEqProofs(maxSteps:=999999)(disch:=first|with_reducible rfl|omega|(simp only[nA,nS,nD]<;>omega)|fail)only[go_sem,e0,e1,e6,e7,e8,e9,e10,e11,hlL,Int.lt_irrefl]
     refine own_app hw oG (by omega) fun G' z' oG' nb kk=>?_
     have oS':=oS.keep kk oG'.1 fun b hb hg=>dj b hb hg
     simp -implicitDefEqProofs(maxSteps:=999999)(disch:=first|with_reducible rfl|omega|(simp only[nA,nS,nD]<;>omega)|fail)only[go_sem,e0,e1,e6,e7,e8,e9,e10,e11,w8]
     exact⟨_,_,S,G',rfl,by simpa using oS',by simpa using oG',fun b hb hg=>by have:=nb b hg;have:=(oS.blk hb).2.1;omega,(by simp[ev_c,ev_put,e0]<;>rfl),(by simp[ev_c,ev_put,e1]<;>rfl),(by simp[ev_c,ev_put,e6]<;>rfl),(by simp[ev_c,ev_put]<;>rfl),(by simp[ev_c,ev_put]<;>rfl)⟩
   |true=>
    simp -implicitDefEqProofs(maxSteps:=999999)(disch:=first|with_reducible rfl|omega|(simp only[nA,nS,nD]<;>omega)|fail)only[go_sem,e0,e1,e6,e7,e8,e9,e10,e11,hlL,Int.lt_irrefl]
    refine own_app hw oS (by omega) fun S' z' oS' nb kk=>?_
    have oG':=oG.keep kk oS'.1 fun b hb hg=>dj b hg hb
    have dj':∀b,blkOf S' b→¬blkOf G b:=fun b hb hg=>by have:=nb b hb;have:=(oG.blk hg).2.1;omega
    cases f2 with
    |false=>
     simp -implicitDefEqProofs(maxSteps:=999999)(disch:=first|with_reducible rfl|omega|(simp only[nA,nS,nD]<;>omega)|fail)only[go_sem,e0,e1,e6,e7,e8,e9,e10,e11,w8]
     exact⟨_,_,S',G,rfl,by simpa using oS',by simpa using oG',dj',(by simp[ev_c,ev_put,e0]<;>rfl),(by simp[ev_c,ev_put,e1]<;>rfl),(by simp[ev_c,ev_put]<;>rfl),(by simp[ev_c,ev_put,e7]<;>rfl),(by simp[ev_c,ev_put]<;>rfl)⟩
    |true=>
     simp -implicitDefEqProofs(maxSteps:=999999)(disch:=first|with_reducible rfl|omega|(simp only[nA,nS,nD]<;>omega)|fail)only[go_sem,e0,e1,e6,e7,e8,e9,e10,e11]
     refine own_app hw oG' (by omega) fun G' z2 oG2 nb2 kk2=>?_
     have oS2:=oS'.keep kk2 oG2.1 fun b hb hg=>dj' b hb hg
     simp -implicitDefEqProofs(maxSteps:=999999)(disch:=first|with_reducible rfl|omega|(simp only[nA,nS,nD]<;>omega)|fail)only[go_sem,e0,e1,e6,e7,e8,e9,e10,e11,w8]
     exact⟨_,_,S',G',rfl,by simpa using oS2,by simpa using oG2,fun b hb hg=>by have:=nb2 b hg;have:=(oS'.blk hb).2.1;omega,(by simp[ev_c,ev_put,e0]<;>rfl),(by simp[ev_c,ev_put,e1]<;>rfl),(by simp[ev_c,ev_put]<;>rfl),(by simp[ev_c,ev_put]<;>rfl),(by simp[ev_c,ev_put]<;>rfl)⟩
 ·rintro s ⟨tm,z,S,G,rfl,oS,oG,dj,e0,e1,e6,e7,e8⟩
  have hi':¬((121:Nat):Int)-60≤60:=by omega
  have u1:=setsN_len L p1 121
  have u2:=setsN_len L p2 121
  simp -implicitDefEqProofs(maxSteps:=999999)(disch:=first|with_reducible rfl|omega|(simp only[nA,nS,nD]<;>omega)|fail)only[go_sem,e0,e1,e6,e7,e8,hi']
  exact q _ _ _ oS.1 (oS.c.sl (by rw[List.length_map];omega)) (oG.c.sl (by rw[List.length_map];omega)) (ownUp oS) (ownUp oG)
end Go.Ab.Tryz
namespace Go.Ab.Tryz
open Go.Proofs
def facI (s:Int × Int):Int:=if -60≤s.1∧s.2≤60∧s.1≤s.2 then min (s.2-s.1+1) 100 else 1
theorem facI_bd (s:Int × Int):1≤facI s∧facI s≤100:=by unfold facI;split<;>omega
theorem mul_in {n p:Int}(h1:1≤n∧n≤2500)(h2:1≤p∧p≤1000):1≤n*p∧n*p≤2500000:=by
 have a:=Int.mul_le_mul h1.2 h2.2 (by omega) (by decide)
 have b:=Int.mul_le_mul h1.1 h2.1 (by decide) (by omega)
 omega
def remC (c:Ck)(R:Nat):Nat→Nat
 |0=>c.ns*(c.ng*R)
 |1=>c.ng*R
 |_=>R
def cntC (c:Ck):Nat→Nat
 |0=>c.ns
 |_=>c.ng
theorem remC_step (c:Ck)(R:Nat){j:Nat}(h:j<2):remC c R j=cntC c j*remC c R (j+1):=by
 rcases(by omega:j=0∨j=1) with rfl|rfl<;>rfl
theorem fac_cnt {a:At}(r:Right a){c:Ck}(hc:c∈a.cks){j:Nat}(h:j<2):facI (([(c.sl,c.sh),(c.gl,c.gh)]:Runs)[j]'h)=(cntC c j:Int):=by
 have hcb:=r.cb _ hc
 have hco:=r.co _ hc
 have hcs:=r.cs _ hc
 simp only[Ck.bd,within,Bool.and_eq_true,inB_iff] at hcb
 simp only[Ck.ord,Bool.and_eq_true,decide_eq_true_eq] at hco
 simp only[Ck.sm,Bool.and_eq_true,decide_eq_true_eq] at hcs
 rcases(by omega:j=0∨j=1) with rfl|rfl
 ·show facI (c.sl,c.sh)=(c.ns:Int)
  unfold facI Ck.ns
  rw[if_pos (by simp only;omega)]
  simp only;omega
 ·show facI (c.gl,c.gh)=(c.ng:Int)
  unfold facI Ck.ng
  rw[if_pos (by simp only;omega)]
  simp only;omega
set_option maxHeartbeats 8000000 in
theorem wide_ev {h:H}(hw:h.wf){a:At}{C R G:V}(x:AtAt h C R G a)(Q:V→H→Prop)(q:∀b h',h.Sub h'→(b=false→greatA a=false∧(Right a→(a.mins.toNat+1)^a.evs.toNat*runsN a.cks≤2500))→Q (.bool b) h'):
  Ev fnG fastA (.fn 23 [] []) [.agg (atV a C R G)] h Q:=by
 have oC:=x.c.one;have oR:=x.r.one;have oG:=x.g.one
 have hlC:=x.c.lenE
 refine Ev_body (fd:=c23) rfl rfl rfl ?_
 obtain⟨z,hz⟩:∃z,h.add (.cells .rw (atV a C R G))=z:=⟨_,rfl⟩
 have sz:h.Sub z:=by rw[←hz];exact(by repeat(first|assumption|exact H.Sub.refl (by assumption)|refine H.Sub.add ?_ _|refine H.Sub.set ?_ (by first|omega|(simp only[H.next_add,H.next_set,H.next_del]<;>omega)) (by first|omega|(simp only[H.next_add,H.next_set,H.next_del]<;>omega)) (by assumption) _))
 have ga:z.get h.next=some (.cells .rw (atV a C R G)):=by rw[←hz];exact get_add_new rfl
 obtain⟨P,hP⟩:∃P,min (max 1 (wr .i64 (a.mins+1))) 1000=P:=⟨_,rfl⟩
 have hPb:1≤P∧P≤1000:=by omega
 have hPr:Right a→P=((a.mins.toNat+1:Nat):Int):=fun r=>by
  have:=r.mins
  rw[←hP,wr_in (by omega) (by omega)];omega
 simp -implicitDefEqProofs(maxSteps:=999999)(disch:=first|with_reducible rfl|omega|(simp only[nA,nS,nD]<;>omega)|fail)only[c23,go_sem,oC,oR,oG]
 rw[hz]
 clear hz
 refine W_count (min a.evs 4).toNat (fun i s=>∃tm,s=⟨tm,z,[]⟩∧(1≤P^i∧P^i≤2500)∧(Opd.t 1).ev tm=.ptr h.next 0∧(Opd.t 3).ev tm=.int .i64 (P^i)∧(Opd.t 10).ev tm=.int .i64 (min a.evs 4)∧(Opd.t 11).ev tm=.int .i64 (i:Int)) ?_ ?_ (i:=0) (Nat.zero_le _)
  ⟨_,rfl,by simp,(by simp[ev_c,ev_put]<;>rfl),(by simp[ev_c,ev_put]<;>rfl),(by simp[ev_c,ev_put]<;>rfl),(by simp[ev_c,ev_put]<;>rfl)⟩
 ·rintro i s hi ⟨tm,rfl,hn,t1,t3,t10,t11⟩
  have hi':(i:Int)<min a.evs 4:=by omega
  have hm:=mul_in hn hPb
  have w1:wr .i64 (P^i*P)=P^(i+1):=by rw[Int.pow_succ];exact wr_in (by omega) (by omega)
  have w2:wr .i64 ((i:Int)+1)=((i+1:Nat):Int):=by rw[wr_in (by omega) (by omega)];omega
  rw[←Int.pow_succ] at hm
  by_cases hc:(2500:Int)<P^(i+1)
  ·simp -implicitDefEqProofs(maxSteps:=999999)(disch:=first|with_reducible rfl|omega|(simp only[nA,nS,nD]<;>omega)|fail)only[go_sem,t1,t3,t10,t11,hi',cells_of ga,hP,w1,hc]
   exact q _ _ sz fun h=>by cases h
  ·simp -implicitDefEqProofs(maxSteps:=999999)(disch:=first|with_reducible rfl|omega|(simp only[nA,nS,nD]<;>omega)|fail)only[go_sem,t1,t3,t10,t11,hi',cells_of ga,hP,w1,w2,hc]
   exact⟨_,rfl,⟨hm.1,Int.not_lt.1 hc⟩,(by simp[ev_c,ev_put,t1]<;>rfl),(by simp[ev_c,ev_put]<;>rfl),(by simp[ev_c,ev_put,t10]<;>rfl),(by simp[ev_c,ev_put]<;>rfl)⟩
 ·rintro s ⟨tm,rfl,hn,t1,t3,t10,t11⟩
  have hi':¬((min a.evs 4).toNat:Int)<min a.evs 4:=by omega
  obtain⟨N0,hN0⟩:∃N0,P^(min a.evs 4).toNat=N0:=⟨_,rfl⟩
  rw[hN0] at hn t3
  have hNr:Right a→N0=(((a.mins.toNat+1)^a.evs.toNat:Nat):Int):=fun r=>by
   have he:=r.evs
   rw[←hN0,hPr r,show(min a.evs 4).toNat=a.evs.toNat by omega]
   simp
  simp -implicitDefEqProofs(maxSteps:=999999)(disch:=first|with_reducible rfl|omega|(simp only[nA,nS,nD]<;>omega)|fail)only[go_sem,t1,t3,t10,t11,hi',cells_of ga,hlC]
  refine W_count a.cks.length (fun k s=>∃tm z2 n,s=⟨tm,z2,[]⟩∧z.Sub z2∧(1≤n∧n≤2500)∧(Right a→n*(runsN (a.cks.drop k):Int)=(((a.mins.toNat+1)^a.evs.toNat*runsN a.cks:Nat):Int))∧
    (Opd.t 1).ev tm=.ptr h.next 0∧(Opd.t 3).ev tm=.int .i64 n∧(Opd.t 24).ev tm=C∧(Opd.t 25).ev tm=.int .i64 (a.cks.length:Int)∧(Opd.t 26).ev tm=.int .i64 (k:Int)) ?_ ?_ (i:=0) (Nat.zero_le _)
   ⟨_,_,N0,rfl,H.Sub.refl sz.wf,hn,fun r=>by rw[hNr r,List.drop_zero,Int.natCast_mul],(by simp[ev_c,ev_put,t1]<;>rfl),(by simp[ev_c,ev_put,t3]<;>rfl),(by simp[ev_c,ev_put]<;>rfl),(by simp[ev_c,ev_put]<;>rfl),(by simp[ev_c,ev_put]<;>rfl)⟩
  ·clear t1 t3 t10 t11 hn hi'
   rintro k s hk ⟨tm,z2,n,rfl,s2,hn,hr,t1,t3,t24,t25,t26⟩
   have hk':(k:Int)<(a.cks.length:Int):=by omega
   have s02:=sz.trans s2
   obtain⟨bC,oCC,cC,csC,_,hcC,hqC,hgC,_,_⟩:=(x.c.mono s02).at hk
   have hmem:=List.getElem_mem hk
   have hdrop:a.cks.drop k=a.cks[k]::a.cks.drop (k+1):=List.drop_eq_getElem_cons hk
   rw[hdrop,runsN] at hr
   generalize a.cks[k]=c at hgC hmem hr
   simp only[encC] at hgC
   obtain⟨z3,hz3⟩:∃z3,z2.add (.cells .rw [.int .i64 c.sl,.int .i64 c.sh,.int .i64 c.gl,.int .i64 c.gh])=z3:=⟨_,rfl⟩
   have s3:z2.Sub z3:=by rw[←hz3];exact(H.Sub.refl s02.wf).add _
   have g5:z3.get z2.next=some (.cells .rw [.int .i64 c.sl,.int .i64 c.sh,.int .i64 c.gl,.int .i64 c.gh]):=by rw[←hz3];exact get_add_new rfl
   simp -implicitDefEqProofs(maxSteps:=999999)(disch:=first|with_reducible rfl|omega|(simp only[nA,nS,nD]<;>omega)|fail)only[go_sem,t1,t3,t24,t25,t26,hk',hqC (nat_cst k),hcC,hgC,hz3,cells_of g5]
   obtain⟨z4,hz4⟩:∃z4,z3.add (.cells .rw [.int .i64 c.sl,.int .i64 c.sh,.int .i64 c.gl,.int .i64 c.gh])=z4:=⟨_,rfl⟩
   have s4:z3.Sub z4:=by rw[←hz4];exact(H.Sub.refl s3.wf).add _
   have xx:SlAt z4 (.sl z3.next 0 2 (.fix 2)) 2 (([(c.sl,c.sh),(c.gl,c.gh)]:Runs).map encX):=by rw[←hz4];exact SlAt.new _ rfl rfl rfl (by simp[encX]) (by simp)
   try rw[hz4]
   clear hz4
   have s24:=s2.trans (s3.trans s4)
   have hr0:Right a→n*(remC c (runsN (a.cks.drop (k+1))) 0:Int)=(((a.mins.toNat+1)^a.evs.toNat*runsN a.cks:Nat):Int):=hr
   generalize runsN (a.cks.drop (k+1))=RR at hr0
   refine W_count 2 (fun j s=>∃tm z5 n,s=⟨tm,z5,[]⟩∧z4.Sub z5∧(1≤n∧n≤2500)∧(Right a→n*(remC c RR j:Int)=(((a.mins.toNat+1)^a.evs.toNat*runsN a.cks:Nat):Int))∧
     (Opd.t 1).ev tm=.ptr h.next 0∧(Opd.t 3).ev tm=.int .i64 n∧(Opd.t 24).ev tm=C∧(Opd.t 25).ev tm=.int .i64 (a.cks.length:Int)∧(Opd.t 26).ev tm=.int .i64 (k:Int)∧(Opd.t 34).ev tm=.sl z3.next 0 2 (.fix 2)∧(Opd.t 35).ev tm=.int .i64 2∧(Opd.t 36).ev tm=.int .i64 (j:Int)) ?_ ?_ (i:=0) (Nat.zero_le _)
    ⟨_,_,n,rfl,H.Sub.refl s4.wf,hn,hr0,(by simp[ev_c,ev_put,t1]<;>rfl),(by simp[ev_c,ev_put,t3]<;>rfl),(by simp[ev_c,ev_put,t24]<;>rfl),(by simp[ev_c,ev_put,t25]<;>rfl),(by simp[ev_c,ev_put,t26]<;>rfl),(by simp[ev_c,ev_put]<;>rfl),(by simp[ev_c,ev_put]<;>rfl),(by simp[ev_c,ev_put]<;>rfl)⟩
   ·clear t1 t3 t24 t25 t26 hn hr hr0
    rintro j s hj ⟨tm,z5,n,rfl,s5,hn,hr,t1,t3,t24,t25,t26,t34,t35,t36⟩
    have hj':(j:Int)<2:=by omega
    have hf:=fun r=>fac_cnt r hmem hj
    obtain⟨bX,oX,cX,csX,_,hcX,hqX,hgX,_,_⟩:=(xx.mono s5).at hj
    have hrem:=remC_step c RR hj
    generalize([(c.sl,c.sh),(c.gl,c.gh)]:Runs)[j]=sp at hgX hf
    obtain⟨lo,hi⟩:=sp
    simp only[encX] at hgX
    obtain⟨z6,hz6⟩:∃z6,z5.add (.cells .rw [.int .i64 lo,.int .i64 hi])=z6:=⟨_,rfl⟩
    have s6:z5.Sub z6:=by rw[←hz6];exact(H.Sub.refl s5.wf).add _
    have g7:z6.get z5.next=some (.cells .rw [.int .i64 lo,.int .i64 hi]):=by rw[←hz6];exact get_add_new rfl
    have s06:=sz.trans (s24.trans (s5.trans s6))
    have w36:wr .i64 ((j:Int)+1)=((j+1:Nat):Int):=by rw[wr_in (by omega) (by omega)];omega
    have hb:=facI_bd (lo,hi)
    have hm:=mul_in hn ⟨hb.1,Int.le_trans hb.2 (by decide)⟩
    have hr':Right a→n*facI (lo,hi)*(remC c RR (j+1):Int)=(((a.mins.toNat+1)^a.evs.toNat*runsN a.cks:Nat):Int):=fun r=>by
     rw[←hr r,hrem,hf r,Int.natCast_mul,Int.mul_assoc]
    have no:facI (lo,hi)=1→n*facI (lo,hi)=n:=fun e=>by rw[e,Int.mul_one]
    have fin:∀m tm',n*facI (lo,hi)=m→(Opd.t 1).ev tm'=.ptr h.next 0→(Opd.t 3).ev tm'=.int .i64 m→(Opd.t 24).ev tm'=C→(Opd.t 25).ev tm'=.int .i64 (a.cks.length:Int)→(Opd.t 26).ev tm'=.int .i64 (k:Int)→(Opd.t 34).ev tm'=.sl z3.next 0 2 (.fix 2)→(Opd.t 35).ev tm'=.int .i64 2→(Opd.t 36).ev tm'=.int .i64 ((j+1:Nat):Int)→m≤2500→
      ∃tm z5 n,(⟨tm',z6,[]⟩:St)=⟨tm,z5,[]⟩∧z4.Sub z5∧(1≤n∧n≤2500)∧(Right a→n*(remC c RR (j+1):Int)=(((a.mins.toNat+1)^a.evs.toNat*runsN a.cks:Nat):Int))∧
       (Opd.t 1).ev tm=.ptr h.next 0∧(Opd.t 3).ev tm=.int .i64 n∧(Opd.t 24).ev tm=C∧(Opd.t 25).ev tm=.int .i64 (a.cks.length:Int)∧(Opd.t 26).ev tm=.int .i64 (k:Int)∧(Opd.t 34).ev tm=.sl z3.next 0 2 (.fix 2)∧(Opd.t 35).ev tm=.int .i64 2∧(Opd.t 36).ev tm=.int .i64 ((j+1:Nat):Int):=fun m tm' e1 u1 u3 u24 u25 u26 u34 u35 u36 hle=>by
     subst e1
     exact⟨tm',z6,_,rfl,s5.trans s6,⟨hm.1,hle⟩,hr',u1,u3,u24,u25,u26,u34,u35,u36⟩
    have nn:¬(2500:Int)<n:=by omega
    by_cases d1: -60≤lo
    case neg=>
     have e:=no (by unfold facI;rw[if_neg (by simp only;omega)])
     simp -implicitDefEqProofs(maxSteps:=999999)(disch:=first|with_reducible rfl|omega|(simp only[nA,nS,nD]<;>omega)|fail)only[go_sem,t1,t3,t24,t25,t26,t34,t35,t36,hj',hqX (nat_cst j),hcX,hgX,hz6,cells_of g7,d1,nn,w36]
     exact fin _ _ e (by simp[ev_c,ev_put,t1]<;>rfl) (by simp[ev_c,ev_put,t3]<;>rfl) (by simp[ev_c,ev_put,t24]<;>rfl) (by simp[ev_c,ev_put,t25]<;>rfl) (by simp[ev_c,ev_put,t26]<;>rfl) (by simp[ev_c,ev_put,t34]<;>rfl) (by simp[ev_c,ev_put,t35]<;>rfl) (by simp[ev_c,ev_put]<;>rfl) (by omega)
    by_cases d2:hi≤60
    case neg=>
     have e:=no (by unfold facI;rw[if_neg (by simp only;omega)])
     simp -implicitDefEqProofs(maxSteps:=999999)(disch:=first|with_reducible rfl|omega|(simp only[nA,nS,nD]<;>omega)|fail)only[go_sem,t1,t3,t24,t25,t26,t34,t35,t36,hj',hqX (nat_cst j),hcX,hgX,hz6,cells_of g7,d1,d2,nn,w36]
     exact fin _ _ e (by simp[ev_c,ev_put,t1]<;>rfl) (by simp[ev_c,ev_put,t3]<;>rfl) (by simp[ev_c,ev_put,t24]<;>rfl) (by simp[ev_c,ev_put,t25]<;>rfl) (by simp[ev_c,ev_put,t26]<;>rfl) (by simp[ev_c,ev_put,t34]<;>rfl) (by simp[ev_c,ev_put,t35]<;>rfl) (by simp[ev_c,ev_put]<;>rfl) (by omega)
    by_cases d3:lo≤hi
    case neg=>
     have e:=no (by unfold facI;rw[if_neg (by simp only;omega)])
     simp -implicitDefEqProofs(maxSteps:=999999)(disch:=first|with_reducible rfl|omega|(simp only[nA,nS,nD]<;>omega)|fail)only[go_sem,t1,t3,t24,t25,t26,t34,t35,t36,hj',hqX (nat_cst j),hcX,hgX,hz6,cells_of g7,d1,d2,d3,nn,w36]
     exact fin _ _ e (by simp[ev_c,ev_put,t1]<;>rfl) (by simp[ev_c,ev_put,t3]<;>rfl) (by simp[ev_c,ev_put,t24]<;>rfl) (by simp[ev_c,ev_put,t25]<;>rfl) (by simp[ev_c,ev_put,t26]<;>rfl) (by simp[ev_c,ev_put,t34]<;>rfl) (by simp[ev_c,ev_put,t35]<;>rfl) (by simp[ev_c,ev_put]<;>rfl) (by omega)
    have ef:facI (lo,hi)=min (hi-lo+1) 100:=by unfold facI;rw[if_pos ⟨d1,d2,d3⟩]
    have w1:wr .i64 (hi-lo)=hi-lo:=wr_in (by omega) (by omega)
    have w2:wr .i64 (hi-lo+1)=hi-lo+1:=wr_in (by omega) (by omega)
    have w3:wr .i64 (n*min (hi-lo+1) 100)=n*facI (lo,hi):=by rw[ef];rw[ef] at hm;exact wr_in (by omega) (by omega)
    by_cases hc:(2500:Int)<n*facI (lo,hi)
    ·simp -implicitDefEqProofs(maxSteps:=999999)(disch:=first|with_reducible rfl|omega|(simp only[nA,nS,nD]<;>omega)|fail)only[go_sem,t1,t3,t24,t25,t26,t34,t35,t36,hj',hqX (nat_cst j),hcX,hgX,hz6,cells_of g7,d1,d2,d3,w1,w2,w3,hc]
     exact q _ _ s06 fun h=>by cases h
    ·simp -implicitDefEqProofs(maxSteps:=999999)(disch:=first|with_reducible rfl|omega|(simp only[nA,nS,nD]<;>omega)|fail)only[go_sem,t1,t3,t24,t25,t26,t34,t35,t36,hj',hqX (nat_cst j),hcX,hgX,hz6,cells_of g7,d1,d2,d3,w1,w2,w3,hc,w36]
     exact fin _ _ rfl (by simp[ev_c,ev_put,t1]<;>rfl) (by simp[ev_c,ev_put]<;>rfl) (by simp[ev_c,ev_put,t24]<;>rfl) (by simp[ev_c,ev_put,t25]<;>rfl) (by simp[ev_c,ev_put,t26]<;>rfl) (by simp[ev_c,ev_put,t34]<;>rfl) (by simp[ev_c,ev_put,t35]<;>rfl) (by simp[ev_c,ev_put]<;>rfl) (by omega)
   ·clear t1 t3 t24 t25 t26 hn hr hr0
    rintro s ⟨tm,z5,n,rfl,s5,hn,hr,t1,t3,t24,t25,t26,t34,t35,t36⟩
    have hj':¬((2:Nat):Int)<2:=by omega
    have w26:wr .i64 ((k:Int)+1)=((k+1:Nat):Int):=by rw[wr_in (by omega) (by have:=x.c.2.1;rw[List.length_map] at this;omega)];omega
    simp -implicitDefEqProofs(maxSteps:=999999)(disch:=first|with_reducible rfl|omega|(simp only[nA,nS,nD]<;>omega)|fail)only[go_sem,t1,t3,t24,t25,t26,t34,t35,t36,hj',w26]
    exact⟨_,_,n,rfl,s24.trans s5,hn,hr,(by simp[ev_c,ev_put,t1]<;>rfl),(by simp[ev_c,ev_put,t3]<;>rfl),(by simp[ev_c,ev_put,t24]<;>rfl),(by simp[ev_c,ev_put,t25]<;>rfl),(by simp[ev_c,ev_put]<;>rfl)⟩
  ·clear t1 t3 t10 t11 hn hi'
   rintro s ⟨tm,z2,n,rfl,s2,hn,hr,t1,t3,t24,t25,t26⟩
   rw[List.drop_length,runsN] at hr
   have s02:=sz.trans s2
   simp -implicitDefEqProofs(maxSteps:=999999)(disch:=first|with_reducible rfl|omega|(simp only[nA,nS,nD]<;>omega)|fail)only[go_sem,t1,t3,t24,t25,t26,Int.lt_irrefl,cells_of (s2.get ga),oC,oR,oG]
   refine great_ev s02.wf (x.mono s02) _ fun z3 s3=>?_
   simp -implicitDefEqProofs(maxSteps:=999999)(disch:=first|with_reducible rfl|omega|(simp only[nA,nS,nD]<;>omega)|fail)only[go_sem]
   refine q _ _ (s02.trans s3) fun hg=>⟨hg,fun r=>?_⟩
   have:=hr r
   omega
end Go.Ab.Tryz
namespace Go.Ab.Tryz
open Go.Proofs
def Cs (n0:Nat)(z5 z:H)(cs:List (List V)):Prop:=z5.Sub z∧z5.next≤n0∧n0+cs.length≤z.next∧∀(i:Nat) (c:List V),cs[i]? =some c→z.get (n0+i)=some (.cells .rw c)
variable {z5 z z':H} {cs:List (List V)} {n0:Nat}
theorem Cs.mono (k:Cs n0 z5 z cs)(s:z.Sub z'):Cs n0 z5 z' cs:=⟨k.1.trans s,k.2.1,Nat.le_trans k.2.2.1 s.next,fun i c h=>s.get (k.2.2.2 i c h)⟩
theorem Cs.set (k:Cs n0 z5 z cs)(hw:z5.wf){b i:Nat}(hb:b=n0+i)(hi:i<cs.length)(c:List V):Cs n0 z5 (z.set b (.cells .rw c)) (cs.set i c):=by
 obtain⟨s,l0,l1,g⟩:=k
 subst hb
 refine⟨s.set (by omega) (by omega) hw _,l0,by rw[List.length_set,H.next_set];exact l1,fun j c' hj=>?_⟩
 rw[List.getElem?_set] at hj
 by_cases e:i=j
 ·subst e
  rw[if_pos rfl,if_pos hi] at hj
  cases hj
  exact get_set_same rfl
 ·rw[if_neg e] at hj
  rw[get_set_other (by omega)]
  exact g j c' hj
theorem evB_iff {a:At}{n:Int}:a.evB n=true↔0≤n∧n<a.evs:=by unfold At.evB;rw[inB_iff];omega
def erV (a:At)(f t:Int):Int:=if a.evB f=true∧a.evB t=true then 0 else 1
def er7 (a:At)(e:Int):Int:=if e=0∧allC a=[] then 7 else e
theorem errT_r {a:At}(r:Right a)(b:Bool):errT a b=er7 a (if b=true then 1 else 0):=by
 unfold errT er7
 rw[if_neg (by rw[checkA_iff.2 r];simp)]
 cases b with
 |true=>simp
 |false=>
  by_cases h:allC a=[]<;>simp[h]
theorem evV_ok {a:At}{f t:Int}(h:er7 a (erV a f t)=0):(a.evB f=true∧a.evB t=true)∧allC a≠[]:=by
 unfold er7 erV at h
 by_cases hb:a.evB f=true∧a.evB t=true
 ·rw[if_pos hb] at h
  exact⟨hb,fun e=>by rw[if_pos ⟨rfl,e⟩] at h;cases h⟩
 ·rw[if_neg hb,if_neg (by simp)] at h;cases h
end Go.Ab.Tryz
namespace Go.Ab
theorem PBd_st {Fn:Nat→Option FD}{fast:Nat→Option (List V→H→Option (V × H))}{N:Nat}{fn:FuncId}{ro:Option Nat}{b:Bool}{a c:C}{s:St}{K:X→St→Prop}(P:St→Prop)(hp:P s)(f:∀s',P s'→PBd (.bool b) (W Fn fast N fn ro a s' K) (W Fn fast N fn ro c s' K) ⟨⟩):PBd (.bool b) (W Fn fast N fn ro a s K) (W Fn fast N fn ro c s K) ⟨⟩:=f s hp
end Go.Ab
namespace Go.Ab.Tryz
open Go.Proofs
theorem errT_no {a:At}(h:checkA a≠0)(b:Bool):errT a b=checkA a:=if_pos h
theorem runsN_pos:∀{cs:List Ck},(∀c∈cs,1≤c.ns∧1≤c.ng)→1≤runsN cs
 |[],_=>Nat.le_refl _
 |c::cs,h=>by
  have h0:=h c (List.mem_cons_self ..)
  exact Nat.le_trans (runsN_pos fun c hc=>h c (List.mem_cons_of_mem _ hc)) (runsN_le h0.1 h0.2)
theorem wide_bds {a:At}(r:Right a)(h:(a.mins.toNat+1)^a.evs.toNat*runsN a.cks≤2500):(a.mins.toNat+1)^a.evs.toNat≤2500∧runsN a.cks≤2500:=by
 have h1:1≤runsN a.cks:=runsN_pos fun c hc=>by
  have hco:=r.co _ hc
  simp only[Ck.ord,Bool.and_eq_true,decide_eq_true_eq] at hco
  unfold Ck.ns Ck.ng
  omega
 have h2:1≤(a.mins.toNat+1)^a.evs.toNat:=Nat.one_le_pow _ _ (by omega)
 exact⟨Nat.le_trans (Nat.le_mul_of_pos_right _ h1) h,Nat.le_trans (Nat.le_mul_of_pos_left _ h2) h⟩
theorem feq_same (a b:Int):q_feq false 2 (.agg [.int .i64 a,.int .i64 b]) (.agg [.int .i64 a,.int .i64 b])=some (.bool true):=by
 have:=q_feq_map (n:=2) [a,b] [a,b] rfl rfl false
 simpa[iv,ngB] using this
def i1 (n:Int):List V:=[.int .i64 n]
def i2 (s:Int × Int):List V:=[.int .i64 s.1,.int .i64 s.2]
end Go.Ab.Tryz
namespace Go.Ab.Tryz
open Go.Proofs
end Go.Ab.Tryz
namespace Go.Ab.Tryz
open Go.Proofs
end Go.Ab.Tryz
namespace Go.Ab
theorem put_iv {L:List Int}{i:Nat}(h:i<L.length)(v:Int):putN i [.int .i64 v] (L.map iv)=some ((L.set i v).map iv):=by
 have e:L=L.take i++L[i]::L.drop (i+1):=by rw[←List.drop_eq_getElem_cons h,List.take_append_drop]
 have:=putN_app (pre:=(L.take i).map iv) (new:=[iv v]) (old:=[iv L[i]]) (rest:=(L.drop (i+1)).map iv) rfl
 rw[List.length_map,List.length_take,Nat.min_eq_left (by omega)] at this
 have e2:L.map iv=(L.take i).map iv++[iv L[i]]++(L.drop (i+1)).map iv:=by
  rw[show[iv L[i]]=[L[i]].map iv from rfl,←List.map_append,←List.map_append,List.append_assoc]
  exact congrArg (List.map iv) e
 have e3:(L.set i v).map iv=(L.take i).map iv++[iv v]++(L.drop (i+1)).map iv:=by
  rw[List.set_eq_take_append_cons_drop,if_pos h];simp
 rw[e2,e3];exact this
namespace Tryz
open Go.Proofs
theorem flat_iv (L:List Int):(L.map encI).flatten=L.map iv:=by
 induction L with
 |nil=>rfl
 |cons a L ih=>rw[List.map_cons,List.flatten_cons,ih];rfl
end Tryz
end Go.Ab
namespace Go.Ab
noncomputable def slcFrom (h:H)(sz:Nat)(x k:V):Option V:=q_slc .nil h sz x (some (.c k)) none none
theorem q_slc_from (tm:T V)(h:H)(sz:Nat)(x:V)(y:Opd):q_slc tm h sz x (some y) none none=slcFrom h sz x (y.ev tm):=rfl
noncomputable def slcTo (h:H)(sz:Nat)(x k:V):Option V:=q_slc .nil h sz x none (some (.c k)) none
theorem q_slc_to (tm:T V)(h:H)(sz:Nat)(x:V)(y:Opd):q_slc tm h sz x none (some y) none=slcTo h sz x (y.ev tm):=rfl
theorem slcFrom_gr {h:H}{b k:Nat}{L:List Int}(hb:h.get b=some (.cells (.gr 1) (L.map iv)))(h0:0<L.length)(hk:k≤L.length):slcFrom h 1 (.sl b 0 L.length (.slk 0 0)) (.int .i64 (k:Int))=some (.sl b k (L.length-k) (.slk k 0)):=by
 have hi:∀tm:T V,(Opd.c (.int .i64 (k:Int))).ev tm=.int .i64 (k:Int):=fun _=>rfl
 have e1:Nat.ble k L.length=true:=by simp;exact hk
 have e2:Nat.ble L.length L.length=true:=by simp
 have e4:Nat.blt 0 (L.length+L.length)=true:=by rw[Nat.blt_eq];omega
 have e5:Nat.beq 1 1=true:=rfl
 have e6:Nat.beq 0 (0*1)=true:=rfl
 have e7:Nat.ble L.length (L.map iv).length=true:=by simp
 have e8:slkRoom h b 0 1=L.length:=by simp[slkRoom,hb,lenN_eq]
 simp only[slcFrom,q_slc,slkOk,hb,lenN_eq,e5,e6,e7,og_true,e8,bnd3,natO,hi,natk_cst,bnds,e1,e2,subS,e4,Nat.mul_one,Nat.zero_add]
theorem slcTo_gr {h:H}{b k:Nat}{L:List Int}(hb:h.get b=some (.cells (.gr 1) (L.map iv)))(h0:0<L.length)(hk:k≤L.length):slcTo h 1 (.sl b 0 L.length (.slk 0 0)) (.int .i64 (k:Int))=some (.sl b 0 k (.slk 0 0)):=by
 have hi:∀tm:T V,(Opd.c (.int .i64 (k:Int))).ev tm=.int .i64 (k:Int):=fun _=>rfl
 have e1:Nat.ble 0 k=true:=by simp
 have e2:Nat.ble k L.length=true:=by simp;exact hk
 have e3:Nat.ble L.length L.length=true:=by simp
 have e4:Nat.blt 0 (L.length+k)=true:=by rw[Nat.blt_eq];omega
 have e5:Nat.beq 1 1=true:=rfl
 have e6:Nat.beq 0 (0*1)=true:=rfl
 have e7:Nat.ble L.length (L.map iv).length=true:=by simp
 have e8:slkRoom h b 0 1=L.length:=by simp[slkRoom,hb,lenN_eq]
 simp only[slcTo,q_slc,slkOk,hb,lenN_eq,e5,e6,e7,og_true,e8,bnd3,natO,hi,natk_cst,bnds,e1,e2,e3,subS,e4,Nat.mul_one,Nat.zero_add,Nat.sub_zero]
theorem getD_some {l:List Int}{i:Nat}(h:i<l.length):l[i]? =some (l.getD i 0):=by rw[List.getD_eq_getElem?_getD,List.getElem?_eq_getElem h];rfl
theorem dd_ne {l:List Int}{n:Nat}(hn:n<l.length)(h:n=0∨l.getD n 0≠l.getD (n-1) 0):dd l (n+1)=dd l n++[l.getD n 0]:=dd_new (getD_some hn) fun⟨h1,h2⟩=>by
 rcases h with h|h
 ·omega
 ·rw[getD_some (by omega)] at h2;exact h (Option.some.inj h2).symm
theorem dd_eq {l:List Int}{n:Nat}(hn:n<l.length)(h0:0<n)(h:l.getD n 0=l.getD (n-1) 0):dd l (n+1)=dd l n:=dd_same (getD_some hn) ⟨h0,by rw[getD_some (by omega),h]⟩
theorem take_getD {l:List Int}{n:Nat}(hn:n<l.length):l.take (n+1)=l.take n++[l.getD n 0]:=by
 rw[List.take_add_one,getD_some hn];rfl
theorem SlAt.cut {h:H}{b m:Nat}{L:List Int}{c:Cap}(hb:h.get b=some (.cells (.gr 1) (L.map iv)))(hm:m≤L.length)(hl:L.length≤1000000):SlAt h (.sl b 0 m c) 1 ((L.take m).map fun n=>[.int .i64 n]):=by
 refine⟨fun r hr=>by obtain⟨_,_,rfl⟩:=List.mem_map.1 hr;rfl,by rw[List.length_map,List.length_take];omega,.inr ⟨b,0,c,L.map iv,?_,.inr (cells_of hb),?_⟩⟩
 ·rw[List.length_map,List.length_take,Nat.min_eq_left hm]
 ·have e:((L.take m).map fun n=>[V.int .i64 n]).flatten=(L.take m).map iv:=by
   generalize L.take m=K
   induction K with
   |nil=>rfl
   |cons a K ih=>rw[List.map_cons,List.flatten_cons,ih];rfl
  rw[e,List.length_map,List.length_take,Nat.min_eq_left hm,Nat.mul_one]
  refine getN_eq.2 ⟨?_,by rw[List.length_map];omega⟩
  rw[List.drop_zero,←List.map_take]
namespace Tryz
open Go.Proofs
set_option maxHeartbeats 4000000 in
theorem Compact_ev {h0 h:H}{b:Nat}{l:List Int}(hs:h0.Sub h)(hw0:h0.wf)(lb0:h0.next≤b)(hb:h.get b=some (.cells (.gr 1) (l.map iv)))(h1:1≤l.length)(hl:l.length≤100000)(Q:V→H→Prop)
  (q:∀y h',h0.Sub h'→Keeps (fun c=>c=b) h h'→SlAt h' y 1 ((dd l l.length).map encI)→Q y h'):Ev fnG fastA (.fn 116 [] []) [.sl b 0 l.length (.slk 0 0)] h Q:=by
 have hw:=hs.wf
 have whole:∀{hh:H} {L:List Int},hh.get b=some (.cells (.gr 1) (L.map iv))→L.length=l.length→∀m c,m≤l.length→SlAt hh (.sl b 0 m c) 1 ((L.take m).map encI):=fun hg hL m c hm=>SlAt.cut hg (by omega) (by omega)
 refine Ev_body (fd:=c116) rfl rfl rfl ?_
 by_cases h2:l.length<2
 ·have hn2:(l.length:Int)<2:=by omega
  have e1:l.length=1:=by omega
  simp -implicitDefEqProofs(maxSteps:=999999)(disch:=first|with_reducible rfl|omega|(simp only[nA,nS,nD]<;>omega)|fail)only[c116,go_sem,hn2]
  have hdd:dd l l.length=l.take l.length:=by
   rw[e1,dd_ne (by omega) (.inl rfl),take_getD (by omega)];rfl
  exact q _ _ hs (Keeps.refl _ _) (by rw[hdd];exact whole hb rfl _ _ (Nat.le_refl _))
 have hn2:¬(l.length:Int)<2:=by omega
 have hiad:∀k:Nat,k<l.length→q_iad 1 (.sl b 0 l.length (.slk 0 0)) (.int .i64 (k:Int))=some (.ptr b k):=fun k hk=>by
  rw[q_iad_sl (nat_cst k) hk,Nat.mul_one,Nat.zero_add]
 simp -implicitDefEqProofs(maxSteps:=999999)(disch:=first|with_reducible rfl|omega|(simp only[nA,nS,nD]<;>omega)|fail)only[c116,go_sem,hn2]
 refine W_loop (fun kk s=>∃tm i,s=⟨tm,h,[]⟩∧kk=l.length-i∧1≤i∧i≤l.length∧dd l i=l.take i∧(Opd.t 0).ev tm=.sl b 0 l.length (.slk 0 0)∧(Opd.t 3).ev tm=.int .i64 (i:Int)) ?_ (l.length-1) _
  ⟨_,1,rfl,rfl,Nat.le_refl _,by omega,by rw[dd_ne (by omega) (.inl rfl),take_getD (by omega)];rfl,(by simp[ev_c,ev_put]<;>rfl),(by simp[ev_c,ev_put]<;>rfl)⟩
 rintro kk s ⟨tm,i,rfl,hkk,i1,i2,hdd,t0,t3⟩
 by_cases hi:i<l.length
 ·have hi':(i:Int)<(l.length:Int):=by omega
  have e1:(i:Int)-1=((i-1:Nat):Int):=by omega
  have n1:=nth_iv hi
  have n2:=nth_iv (L:=l) (k:=i-1) (by omega)
  by_cases heq:l.getD i 0=l.getD (i-1) 0
  ·have deq:decide (l.getD i 0=l.getD (i-1) 0)=true:=decide_eq_true heq
   have hfrom:=slcFrom_gr hb (by omega) (k:=i) (by omega)
   have lb:=hw _ _ hb
   have hdd1:dd l (i+1)=l.take i:=by rw[dd_eq hi (by omega) heq,hdd]
   simp -implicitDefEqProofs(maxSteps:=999999)(disch:=first|with_reducible rfl|omega|(simp only[nA,nS,nD]<;>omega)|fail)only[go_sem,t0,t3,hi',wr_in,e1,hiad i hi,hiad (i-1) (by omega),cells_of hb,n1,n2,deq,q_slc_from,hfrom]
   refine W.mono (Q:=fun x1 s=>x1=.ext 2∧∃(tm:Go.Ab.T V) (hh:H) (L:List Int) (m:Nat),s=⟨tm,hh,[]⟩∧h0.Sub hh∧Keeps (fun c=>c=b) h hh∧hh.get b=some (.cells (.gr 1) (L.map iv))∧L.length=l.length∧m<l.length∧L.take m=dd l l.length∧(Opd.t 0).ev tm=.sl b 0 l.length (.slk 0 0)∧(Opd.t 3).ev tm=.int .i64 (m:Int))
    (W_loop (fun kk s=>∃(tm:Go.Ab.T V) (hh:H) (L:List Int) (m k2:Nat),s=⟨tm,hh,[]⟩∧kk=l.length-i-k2∧1≤k2∧i+k2≤l.length∧m+1≤i+k2∧h0.Sub hh∧Keeps (fun c=>c=b) h hh∧hh.get b=some (.cells (.gr 1) (L.map iv))∧L.length=l.length∧
     L.take m=dd l (i+k2)∧(∀j,i+k2≤j+1→L.getD j 0=l.getD j 0)∧
     (Opd.t 0).ev tm=.sl b 0 l.length (.slk 0 0)∧(Opd.t 3).ev tm=.int .i64 (m:Int)∧(Opd.t 4).ev tm=.sl b i (l.length-i) (.slk i 0)∧(Opd.t 5).ev tm=.int .i64 (k2:Int)) ?_ (l.length-i-1) _
     ⟨_,_,l,i,1,rfl,rfl,Nat.le_refl _,by omega,by omega,hs,Keeps.refl _ _,hb,rfl,hdd1.symm,fun _ _=>rfl,(by simp[ev_c,ev_put,t0]<;>rfl),(by simp[ev_c,ev_put,t3]<;>rfl),(by simp[ev_c,ev_put]<;>rfl),(by simp[ev_c,ev_put]<;>rfl)⟩) fun x1 s hx1=>?_
   ·rintro kk s ⟨tm,hh,L,m,k2,rfl,hkk,k1,k3,k4,sh,kp,gL,hL,hT,hR,t0,t3,t4,t5⟩
    by_cases hk:k2<l.length-i
    ·have hk':(k2:Int)<((l.length-i:Nat):Int):=by omega
     have e2:(k2:Int)-1=((k2-1:Nat):Int):=by omega
     have a1:q_iad 1 (.sl b i (l.length-i) (.slk i 0)) (.int .i64 (k2:Int))=some (.ptr b (i+k2)):=by rw[q_iad_sl (nat_cst k2) hk,Nat.mul_one]
     have a2:q_iad 1 (.sl b i (l.length-i) (.slk i 0)) (.int .i64 ((k2-1:Nat):Int))=some (.ptr b (i+(k2-1))):=by rw[q_iad_sl (nat_cst (k2-1)) (by omega),Nat.mul_one]
     have a3:=hiad m (by omega)
     have v1:=nth_iv (L:=L) (k:=i+k2) (by omega)
     have v2:=nth_iv (L:=L) (k:=i+(k2-1)) (by omega)
     rw[hR _ (by omega)] at v1 v2
     have lb2:=sh.wf _ _ gL
     by_cases hd:l.getD (i+k2) 0=l.getD (i+(k2-1)) 0
     ·have hne:decide (l.getD (i+k2) 0≠l.getD (i+(k2-1)) 0)=false:=by simpa using hd
      simp -implicitDefEqProofs(maxSteps:=999999)(disch:=first|with_reducible rfl|omega|(simp only[nA,nS,nD]<;>omega)|fail)only[go_sem,t0,t3,t4,t5,hk',wr_in,e2,a1,a2,cells_of gL,v1,v2,hne,wr_succ]
      exact⟨_,by omega,_,_,L,m,k2+1,rfl,rfl,by omega,by omega,by omega,sh,kp,gL,hL,by rw[hT,←Nat.add_assoc,dd_eq (by omega) (by omega) (by rw[hd];congr 1;omega)],fun j hj=>hR j (by omega),(by simp[ev_c,ev_put,t0]<;>rfl),(by simp[ev_c,ev_put,t3]<;>rfl),(by simp[ev_c,ev_put,t4]<;>rfl),(by simp[ev_c,ev_put]<;>rfl)⟩
     ·have hne:decide (l.getD (i+k2) 0≠l.getD (i+(k2-1)) 0)=true:=by simpa using hd
      have hp:=put_iv (L:=L) (i:=m) (by omega) (l.getD (i+k2) 0)
      simp -implicitDefEqProofs(maxSteps:=999999)(disch:=first|with_reducible rfl|omega|(simp only[nA,nS,nD]<;>omega)|fail)only[go_sem,t0,t3,t4,t5,hk',wr_in,e2,a1,a2,a3,cells_of gL,gL,v1,v2,hne,hp,wr_succ]
      refine⟨_,by omega,_,_,L.set m (l.getD (i+k2) 0),m+1,k2+1,rfl,rfl,by omega,by omega,by omega,sh.set lb0 lb2 hw0 _,(kp.trans (Keeps.set hh b _)).mono fun c h=>h.elim id id,get_set_same rfl,by rw[List.length_set];exact hL,?_,fun j hj=>?_,(by simp[ev_c,ev_put,t0]<;>rfl),(by simp[ev_c,ev_put]<;>rfl),(by simp[ev_c,ev_put,t4]<;>rfl),(by simp[ev_c,ev_put]<;>rfl)⟩
      ·rw[←Nat.add_assoc,dd_ne (by omega) (.inr (by intro e;apply hd;rw[e];congr 1;omega)),←hT,take_getD (by rw[List.length_set];omega)]
       rw[List.take_set_of_le (Nat.le_refl _)]
       congr 2
       rw[List.getD_eq_getElem?_getD,List.getElem?_set_self (by omega)];rfl
      ·rw[←hR j (by omega),List.getD_eq_getElem?_getD,List.getElem?_set_ne (by omega),←List.getD_eq_getElem?_getD]
    ·have hk':¬(k2:Int)<((l.length-i:Nat):Int):=by omega
     have hke:i+k2=l.length:=by omega
     simp -implicitDefEqProofs(maxSteps:=999999)(disch:=first|with_reducible rfl|omega|(simp only[nA,nS,nD]<;>omega)|fail)only[go_sem,t0,t3,t4,t5,hk']
     exact⟨_,_,L,m,rfl,sh,kp,gL,hL,by omega,by rw[hT,hke],(by simp[ev_c,ev_put,t0]<;>rfl),(by simp[ev_c,ev_put,t3]<;>rfl)⟩
   clear t0 t3
   obtain⟨rfl,tm,hh,L,m,rfl,sh,kp,gL,hL,hm,hT,t0,t3⟩:=hx1
   have f1:=slcFrom_gr gL (by omega) (k:=m) (by omega)
   rw[hL] at f1
   obtain⟨n,hn⟩:∃n,l.length-m=n+1:=⟨l.length-m-1,by omega⟩
   have hrep:∀n,repN n [V.int .i64 0]=(List.replicate n (0:Int)).map iv:=fun n=>by
    induction n with
    |zero=>rfl
    |succ n ih=>simp only[repN,appN_eq,ih,List.replicate_succ,List.map_cons];rfl
   have hp:putN m ((List.replicate (n+1) (0:Int)).map iv) (L.map iv)=some ((L.take m++List.replicate (n+1) 0).map iv):=by
    have:=putN_app (pre:=(L.take m).map iv) (new:=(List.replicate (n+1) (0:Int)).map iv) (old:=(L.drop m).map iv) (rest:=[]) (by simp;omega)
    rw[List.length_map,List.length_take,Nat.min_eq_left (by omega),List.append_nil,List.append_nil,←List.map_append,List.take_append_drop,←List.map_append] at this
    exact this
   have ho:allOne ((List.replicate (n+1) (0:Int)).map iv)=true:=by
    rw[allOne_eq]
    intro v hv
    obtain⟨_,_,rfl⟩:=List.mem_map.1 hv;rfl
   have hclr:e_clr hh [V.int .i64 0] (.sl b m (l.length-m) (.slk m 0))=some (.und,hh.set b (.cells (.gr 1) ((L.take m++List.replicate (n+1) 0).map iv))):=by
    rw[e_clr_sl,hn,hrep]
    rw[List.replicate_succ,List.map_cons] at hp ho⊢
    rw[H.put_gr ho gL hp,withV_some]
   have gS:(hh.set b (.cells (.gr 1) ((L.take m++List.replicate (n+1) 0).map iv))).get b=some (.cells (.gr 1) ((L.take m++List.replicate (n+1) 0).map iv)):=get_set_same rfl
   have ll:(L.take m++List.replicate (n+1) (0:Int)).length=l.length:=by simp;omega
   have f2:=slcTo_gr gS (by omega) (k:=m) (by omega)
   rw[ll] at f2
   have lb2:=sh.wf _ _ gL
   simp -implicitDefEqProofs(maxSteps:=999999)(disch:=first|with_reducible rfl|omega|(simp only[nA,nS,nD]<;>omega)|fail)only[go_sem,t0,t3,q_slc_from,f1,WI_clr,hclr,q_slc_to,f2]
   refine q _ _ (sh.set lb0 lb2 hw0 _) ((kp.trans (Keeps.set hh b _)).mono fun c h=>h.elim id id) ?_
   have:=whole gS ll m (.slk 0 0) (by omega)
   rw[List.take_append_of_le_length (by rw[List.length_take];omega),List.take_take,Nat.min_self] at this
   rw[←hT];exact this
  ·have dne:decide (l.getD i 0=l.getD (i-1) 0)=false:=decide_eq_false heq
   simp -implicitDefEqProofs(maxSteps:=999999)(disch:=first|with_reducible rfl|omega|(simp only[nA,nS,nD]<;>omega)|fail)only[go_sem,t0,t3,hi',wr_in,e1,hiad i hi,hiad (i-1) (by omega),cells_of hb,n1,n2,dne,wr_succ]
   exact⟨_,by omega,_,i+1,rfl,rfl,by omega,by omega,by rw[dd_ne hi (.inr heq),hdd,take_getD hi],(by simp[ev_c,ev_put,t0]<;>rfl),(by simp[ev_c,ev_put]<;>rfl)⟩
 ·have hi':¬(i:Int)<(l.length:Int):=by omega
  have hie:i=l.length:=by omega
  simp -implicitDefEqProofs(maxSteps:=999999)(disch:=first|with_reducible rfl|omega|(simp only[nA,nS,nD]<;>omega)|fail)only[go_sem,t0,t3,hi']
  rw[hie] at hdd
  exact q _ _ hs (Keeps.refl _ _) (by rw[hdd];exact whole hb rfl _ _ (Nat.le_refl _))
end Tryz
end Go.Ab
namespace Go.Ab.Tryz
open Go.Proofs
theorem sortI_len (l:List Int):(sortI l).length=l.length:=(sortI_perm l).length_eq
theorem sort_ev {h:H}{b:Nat}{l:List Int}(hb:h.get b=some (.cells (.gr 1) (l.map iv)))(h1:1≤l.length)(hl:l.length≤100000)(Q:V→H→Prop):
  Ev fnG fastA (.fn 149 [] []) [.sl b 0 l.length (.slk 0 0)] h Q=Q (.tup []) (h.set b (.cells (.gr 1) ((sortI l).map iv))):=by
 refine Ev.det ⟨1,.tup [],h.set b (.cells (.gr 1) ((sortI l).map iv)),?_,rfl,rfl⟩ Q
 have e:evV fnG fastA 1 (.fn 149 [] []) [.sl b 0 l.length (.slk 0 0)] h=sortF [.sl b 0 l.length (.slk 0 0)] h:=rfl
 rw[e]
 have b1:Nat.blt 0 l.length=true:=by rw[Nat.blt_eq];omega
 have b2:Nat.blt l.length 4611686018427387904=true:=by rw[Nat.blt_eq];omega
 have hg:getN 0 l.length (l.map iv)=some (l.map iv):=getN_iv l
 have hi:intsOf (l.map iv)=some l:=intsOf_map l
 have hp:h.put b 0 ((sortI l).map (V.int .i64))=some (h.set b (.cells (.gr 1) ((sortI l).map iv))):=by
  obtain⟨v,vs,hv⟩:∃v vs,(sortI l).map iv=v::vs:=by
   cases hc:(sortI l).map iv with
   |nil=>have:=congrArg List.length hc;rw[List.length_map,sortI_len,List.length_nil] at this;omega
   |cons v vs=>exact⟨v,vs,rfl⟩
  have ho:allOne ((sortI l).map iv)=true:=allOne_iv _
  have hp:putN 0 ((sortI l).map iv) (l.map iv)=some ((sortI l).map iv):=by
   have:=putN_app (pre:=[]) (new:=(sortI l).map iv) (old:=l.map iv) (rest:=[]) (by rw[List.length_map,List.length_map,sortI_len])
   simpa using this
  show h.put b 0 ((sortI l).map iv)=_
  rw[hv] at ho hp⊢
  exact H.put_gr ho hb hp
 simp only[sortF,b1,b2,og_true,cells_of hb,hg,hi,hp,withV_some]
theorem rise_ev {h0 h:H}{w:V}{l:List Int}(o:OwnSl h0 h w 1 (l.map encI))(hw0:h0.wf)(h1:1≤l.length)(hl:l.length≤100000):∃b,w=.sl b 0 l.length (.slk 0 0)∧h0.next≤b∧h.get b=some (.cells (.gr 1) (l.map iv)):=by
 obtain⟨_,_,o⟩:=o
 rcases o with⟨_,e⟩|⟨b,e,lb,_,g⟩
 ·have:=congrArg List.length e;rw[List.length_map,List.length_nil] at this;omega
 ·rw[List.length_map] at e;rw[flat_iv] at g;exact⟨b,e,lb,g⟩
set_option maxHeartbeats 4000000 in
theorem numbers_ev {h:H}(hw:h.wf){y:V}{Ps:List Fd}(x:SlAt h y 26 (Ps.map rowF))(hone:∀p∈Ps,allOne (rowF p)=true)(hlen:∀p∈Ps,(rowF p).length=26)(hne:Ps≠[])(hP:Ps.length≤15625){g:FuncId}{u v:List V}{of:Fd→Int}
  (hp:∀p∈Ps,PureA h (.fn g u v) [.agg (rowF p)] (.int .i64 (of p))) (Q:V→H→Prop) (q:∀w h',h.Sub h'→SlAt h' w 1 ((risL (Ps.map of)).map encI)→Q w h'):Ev fnG fastA (.fn 104 [] []) [y,.fn g u v] h Q:=by
 have hlY:=x.lenE
 refine Ev_body (fd:=c104) rfl rfl rfl ?_
 simp -implicitDefEqProofs(maxSteps:=999999)(disch:=first|with_reducible rfl|omega|(simp only[nA,nS,nD]<;>omega)|fail)only[c104,go_sem,hlY]
 refine W_count Ps.length (fun i s=>∃tm z w,s=⟨tm,z,[]⟩∧OwnSl h z w 1 (((Ps.take i).map of).map encI)∧(Opd.t 1).ev tm=.fn g u v∧(Opd.t 5).ev tm=w∧(Opd.t 8).ev tm=y∧(Opd.t 9).ev tm=.int .i64 (Ps.length:Int)∧(Opd.t 10).ev tm=.int .i64 (i:Int)) ?_ ?_ (i:=0) (Nat.zero_le _)
  ⟨_,_,_,rfl,OwnSl.nil (H.Sub.refl hw) 1,(by simp[ev_c,ev_put]<;>rfl),(by simp[ev_c,ev_put]<;>rfl),(by simp[ev_c,ev_put]<;>rfl),(by simp[ev_c,ev_put]<;>rfl),(by simp[ev_c,ev_put]<;>rfl)⟩
 ·rintro i s hi ⟨tm,z,w,rfl,o,t1,t5,t8,t9,t10⟩
  have hi':(i:Int)<(Ps.length:Int):=by omega
  have sz:=o.1
  obtain⟨b',o',cc',cs',e',hc',hq',hg',_,_⟩:=(x.mono sz).at hi
  have htk:(Ps.take (i+1)).map of=(Ps.take i).map of++[of Ps[i]]:=by rw[take_at hi,List.map_append];rfl
  rw[htk,List.map_append]
  have hpi:=hp _ (List.getElem_mem hi)
  have hoi:=hone _ (List.getElem_mem hi)
  have hli:=hlen _ (List.getElem_mem hi)
  generalize of Ps[i]=m at hpi⊢
  generalize rowF Ps[i]=F at hg' hpi hoi hli
  have la:((Ps.take i).map of).length≤15625:=by rw[List.length_map,List.length_take];omega
  generalize(Ps.take i).map of=L at o la⊢
  have nF:F≠[]:=by intro e0;rw[e0] at hli;cases hli
  have lnF:lenN F=26:=by rw[lenN_eq,hli]
  have gNF:getN 0 26 F=some F:=by rw[←hli];exact getN_eq.2 ⟨by rw[List.drop_zero,List.take_length],by omega⟩
  have pF:(z.add (.cells .rw [.nils,.int .i64 0,.int .i64 0,.int .i64 0,.int .i64 0,.int .i64 0,.int .i64 0,.int .i64 0,.int .i64 0,.int .i64 0,.int .i64 0,.int .i64 0,.int .i64 0,.int .i64 0,.int .i64 0,.int .i64 0,.int .i64 0,.int .i64 0,.int .i64 0,.int .i64 0,.int .i64 0,.int .i64 0,.int .i64 0,.int .i64 0,.int .i64 0,.int .i64 0])).put z.next 0 F=some ((z.add (.cells .rw [.nils,.int .i64 0,.int .i64 0,.int .i64 0,.int .i64 0,.int .i64 0,.int .i64 0,.int .i64 0,.int .i64 0,.int .i64 0,.int .i64 0,.int .i64 0,.int .i64 0,.int .i64 0,.int .i64 0,.int .i64 0,.int .i64 0,.int .i64 0,.int .i64 0,.int .i64 0,.int .i64 0,.int .i64 0,.int .i64 0,.int .i64 0,.int .i64 0,.int .i64 0])).set z.next (.cells .rw F)):=put_full (get_add_new rfl) (by rw[hli];rfl) nF hoi
  have sA:=(H.Sub.refl sz.wf).add (.cells .rw F)
  have gA:(z.add (.cells .rw F)).get z.next=some (.cells .rw F):=get_add_new rfl
  obtain⟨zA,hzA⟩:∃zA,z.add (.cells .rw F)=zA:=⟨_,rfl⟩
  rw[hzA] at sA gA
  simp -implicitDefEqProofs(maxSteps:=999999)(disch:=first|with_reducible rfl|omega|(simp only[nA,nS,nD]<;>omega)|fail)only[go_sem,t1,t5,t8,t9,t10,hi',hq' (nat_cst i),hc',hg',lnF,pF,hzA,cells_of gA,gNF]
  refine hpi.use (sz.trans sA) fun z2 s2=>?_
  have oA:=o.mono (sA.trans s2)
  have s3:=(H.Sub.refl s2.wf).add (.cells .rw [.int .i64 m])
  have sn:SlAt (z2.add (.cells .rw [.int .i64 m])) (.sl z2.next 0 1 (.fix 1)) 1 [encI m]:=SlAt.new _ rfl rfl rfl (by simp[encI]) (by simp)
  simp -implicitDefEqProofs(maxSteps:=999999)(disch:=first|with_reducible rfl|omega|(simp only[nA,nS,nD]<;>omega)|fail)only[go_sem,t1,t5,t8,t9,t10]
  refine(oA.mono s3).app1 (by_:=8) (r:=encI m) hw rfl (by omega) sn rfl (by rw[List.length_map];omega) (by rw[List.length_map];omega) fun z3 o3 k3 n3=>?_
  rw[H.next_add] at o3
  simp -implicitDefEqProofs(maxSteps:=999999)(disch:=first|with_reducible rfl|omega|(simp only[nA,nS,nD]<;>omega)|fail)only[go_sem,t1,t5,t8,t9,t10,wr_succ]
  exact⟨_,_,_,rfl,o3,(by simp[ev_c,ev_put,t1]<;>rfl),(by simp[ev_c,ev_put]<;>rfl),(by simp[ev_c,ev_put,t8]<;>rfl),(by simp[ev_c,ev_put,t9]<;>rfl),(by simp[ev_c,ev_put]<;>rfl)⟩
 ·rintro s ⟨tm,z,w,rfl,o,t1,t5,t8,t9,t10⟩
  rw[List.take_length] at o
  have ll:(Ps.map of).length=Ps.length:=List.length_map _
  have lp:=List.length_pos_iff.2 hne
  obtain⟨b,rfl,lb,gb⟩:=rise_ev o hw (by omega) (by omega)
  have lz:=o.1.wf _ _ gb
  have s2:=o.1.set lb lz hw (.cells (.gr 1) ((sortI (Ps.map of)).map iv))
  have g2:(z.set b (.cells (.gr 1) ((sortI (Ps.map of)).map iv))).get b=some (.cells (.gr 1) ((sortI (Ps.map of)).map iv)):=get_set_same rfl
  simp -implicitDefEqProofs(maxSteps:=999999)(disch:=first|with_reducible rfl|omega|(simp only[nA,nS,nD]<;>omega)|fail)only[go_sem,t1,t5,t8,t9,t10,Int.lt_irrefl,sort_ev gb (by omega) (by omega)]
  rw[←sortI_len (Ps.map of)]
  refine Compact_ev s2 hw lb g2 (by rw[sortI_len];omega) (by rw[sortI_len];omega) _ fun yy h' s' k' x'=>?_
  simp -implicitDefEqProofs(maxSteps:=999999)(disch:=first|with_reducible rfl|omega|(simp only[nA,nS,nD]<;>omega)|fail)only[go_sem]
  exact q _ _ s' x'
theorem q_feq_X (a b c d:Int):q_feq false 2 (.agg [.int .i64 a,.int .i64 b]) (.agg [.int .i64 c,.int .i64 d])=some (.bool (decide ((a,b)=(c,d)))):=by
 have:=q_feq_map (n:=2) [a,b] [c,d] rfl rfl false
 have e:decide ([a,b]=[c,d])=decide ((a,b)=(c,d)):=by simp
 rw[e] at this
 exact this
set_option maxHeartbeats 4000000 in
theorem settled_ev {h:H}(hw:h.wf){y:V}{Ps:List Fd}(x:SlAt h y 26 (Ps.map rowF))(hone:∀p∈Ps,allOne (rowF p)=true)(hlen:∀p∈Ps,(rowF p).length=26)(hne:Ps≠[])(hP:Ps.length≤15625){k:Nat}(hr:∀p∈Ps,SlAt h p.1 2 (p.2.1.map encX)∧k<p.2.1.length)
  {g:FuncId} {u v:List V} {of:Int × Int→Int} (hp:∀s,PureA h (.fn g u v) [.agg (encX s)] (.int .i64 (of s))) (Q:V→H→Prop)
  (q:∀w h',h.Sub h'→SlAt h' w 1 ((risL ((dd (Ps.map fun p=>p.2.1.getD k (0,0)) Ps.length).map of)).map encI)→Q w h'):Ev fnG fastA (.fn 79 [] []) [y,.int .i64 (k:Int),.fn g u v] h Q:=by
 have hlY:=x.lenE
 refine Ev_body (fd:=c79) rfl rfl rfl ?_
 simp -implicitDefEqProofs(maxSteps:=999999)(disch:=first|with_reducible rfl|omega|(simp only[nA,nS,nD]<;>omega)|fail)only[c79,go_sem,hlY]
 obtain⟨rk,hrk⟩:∃rk,(Ps.map fun p=>p.2.1.getD k (0,0))=rk:=⟨_,rfl⟩
 have lrk:rk.length=Ps.length:=by rw[←hrk,List.length_map]
 rw[hrk] at q
 have rat:∀{i:Nat} (hi:i<Ps.length),rk[i]? =some (Ps[i].2.1.getD k (0,0)):=fun{i} hi=>by rw[←hrk,List.getElem?_map,List.getElem?_eq_getElem hi];rfl
 refine W_count Ps.length (fun i s=>∃tm z w,s=⟨tm,z,[]⟩∧OwnSl h z w 1 (((dd rk i).map of).map encI)∧(Opd.t 0).ev tm=y∧(Opd.t 1).ev tm=.int .i64 (k:Int)∧(Opd.t 2).ev tm=.fn g u v∧(Opd.t 7).ev tm=w∧(Opd.t 10).ev tm=y∧(Opd.t 11).ev tm=.int .i64 (Ps.length:Int)∧(Opd.t 12).ev tm=.int .i64 (i:Int)) ?_ ?_ (i:=0) (Nat.zero_le _)
  ⟨_,_,_,rfl,OwnSl.nil (H.Sub.refl hw) 1,(by simp[ev_c,ev_put]<;>rfl),(by simp[ev_c,ev_put]<;>rfl),(by simp[ev_c,ev_put]<;>rfl),(by simp[ev_c,ev_put]<;>rfl),(by simp[ev_c,ev_put]<;>rfl),(by simp[ev_c,ev_put]<;>rfl),(by simp[ev_c,ev_put]<;>rfl)⟩
 ·rintro i s hi ⟨tm,z,w,rfl,o,t0,t1,t2,t7,t10,t11,t12⟩
  have hi':(i:Int)<(Ps.length:Int):=by omega
  have sz:=o.1
  obtain⟨b',o',cc',cs',e',hc',hq',hg',hn',_⟩:=(x.mono sz).at hi
  have hpm:=List.getElem_mem hi
  have hoi:=hone _ hpm
  have hli:=hlen _ hpm
  obtain⟨hRi,hki⟩:=hr _ hpm
  have rki:=rat hi
  have la:((dd rk i).map of).length≤15625:=by rw[List.length_map];have:=dd_len (l:=rk) (n:=i);omega
  have hnF:nth 0 (rowF Ps[i])=some Ps[i].1:=rfl
  obtain⟨bR,oR,cR,csR,eR,hcR,hqR,hgR,_,_⟩:=(hRi.mono sz).at hki
  have hgd:Ps[i].2.1.getD k (0,0)=Ps[i].2.1[k]:=by rw[List.getD_eq_getElem?_getD,List.getElem?_eq_getElem hki];rfl
  rw[hgd] at rki
  generalize Ps[i].2.1[k]=sg at hgR rki
  obtain⟨R,hR⟩:∃R,Ps[i].1=R:=⟨_,rfl⟩
  rw[hR] at hnF hqR
  generalize rowF Ps[i]=F at hg' hoi hli hnF
  have nF:F≠[]:=by intro e0;rw[e0] at hli;cases hli
  have lnF:lenN F=26:=by rw[lenN_eq,hli]
  have pF:(z.add (.cells .rw [.nils,.int .i64 0,.int .i64 0,.int .i64 0,.int .i64 0,.int .i64 0,.int .i64 0,.int .i64 0,.int .i64 0,.int .i64 0,.int .i64 0,.int .i64 0,.int .i64 0,.int .i64 0,.int .i64 0,.int .i64 0,.int .i64 0,.int .i64 0,.int .i64 0,.int .i64 0,.int .i64 0,.int .i64 0,.int .i64 0,.int .i64 0,.int .i64 0,.int .i64 0])).put z.next 0 F=some ((z.add (.cells .rw [.nils,.int .i64 0,.int .i64 0,.int .i64 0,.int .i64 0,.int .i64 0,.int .i64 0,.int .i64 0,.int .i64 0,.int .i64 0,.int .i64 0,.int .i64 0,.int .i64 0,.int .i64 0,.int .i64 0,.int .i64 0,.int .i64 0,.int .i64 0,.int .i64 0,.int .i64 0,.int .i64 0,.int .i64 0,.int .i64 0,.int .i64 0,.int .i64 0,.int .i64 0])).set z.next (.cells .rw F)):=put_full (get_add_new rfl) (by rw[hli];rfl) nF hoi
  have sA:=(H.Sub.refl sz.wf).add (.cells .rw F)
  have gA:(z.add (.cells .rw F)).get z.next=some (.cells .rw F):=get_add_new rfl
  obtain⟨zA,hzA⟩:∃zA,z.add (.cells .rw F)=zA:=⟨_,rfl⟩
  rw[hzA] at sA gA
  simp only[encX] at hgR
  have hcRA:=sA.cells hcR
  have hpi:=hp sg
  have oA:=o.mono sA
  by_cases h0:i=0
  ·have hd:dd rk (i+1)=dd rk i++[sg]:=dd_new rki fun⟨h,_⟩=>by omega
   rw[hd,List.map_append,List.map_append]
   generalize(dd rk i).map of=L at o oA la⊢
   have hz:¬(0:Int)<(i:Int):=by omega
   simp -implicitDefEqProofs(maxSteps:=999999)(disch:=first|with_reducible rfl|omega|(simp only[nA,nS,nD]<;>omega)|fail)only[go_sem,t0,t1,t2,t7,t10,t11,t12,hi',hq' (nat_cst i),hc',hg',lnF,pF,hzA,cells_of gA,hz,hnF,hqR (nat_cst k),hcRA,hgR]
   refine hpi.use (sz.trans sA) fun z2 s2=>?_
   have oB:=oA.mono s2
   have s3:=(H.Sub.refl s2.wf).add (.cells .rw [.int .i64 (of sg)])
   have sn:SlAt (z2.add (.cells .rw [.int .i64 (of sg)])) (.sl z2.next 0 1 (.fix 1)) 1 [encI (of sg)]:=SlAt.new _ rfl rfl rfl (by simp[encI]) (by simp)
   simp -implicitDefEqProofs(maxSteps:=999999)(disch:=first|with_reducible rfl|omega|(simp only[nA,nS,nD]<;>omega)|fail)only[go_sem,t0,t1,t2,t7,t10,t11,t12]
   refine(oB.mono s3).app1 (by_:=8) (r:=encI (of sg)) hw rfl (by omega) sn rfl (by rw[List.length_map];omega) (by rw[List.length_map];omega) fun z3 o3 k3 n3=>?_
   rw[H.next_add] at o3
   simp -implicitDefEqProofs(maxSteps:=999999)(disch:=first|with_reducible rfl|omega|(simp only[nA,nS,nD]<;>omega)|fail)only[go_sem,t0,t1,t2,t7,t10,t11,t12,wr_succ]
   exact⟨_,_,_,rfl,o3,(by simp[ev_c,ev_put,t0]<;>rfl),(by simp[ev_c,ev_put,t1]<;>rfl),(by simp[ev_c,ev_put,t2]<;>rfl),(by simp[ev_c,ev_put]<;>rfl),(by simp[ev_c,ev_put,t10]<;>rfl),(by simp[ev_c,ev_put,t11]<;>rfl),(by simp[ev_c,ev_put]<;>rfl)⟩
  ·have hz:(0:Int)<(i:Int):=by omega
   have hj:i-1<Ps.length:=by omega
   have hw1:wr .i64 ((i:Int)-1)=((i-1:Nat):Int):=by rw[wr_in (by omega) (by omega)];omega
   obtain⟨b2,o2,cc2,cs2,e2,hc2,hq2,hg2,hn2,_⟩:=(x.mono sz).at hj
   obtain⟨hRj,hkj⟩:=hr _ (List.getElem_mem hj)
   have rkj:=rat hj
   have hgdj:Ps[i-1].2.1.getD k (0,0)=Ps[i-1].2.1[k]:=by rw[List.getD_eq_getElem?_getD,List.getElem?_eq_getElem hkj];rfl
   rw[hgdj] at rkj
   obtain⟨bS,oS,cS,csS,eS,hcS,hqS,hgS,_,_⟩:=(hRj.mono sz).at hkj
   have hnS:nth (o2+(i-1)*26) cs2=some Ps[i-1].1:=by have:=hn2 0 (by decide);rw[Nat.add_zero] at this;rw[this];rfl
   generalize Ps[i-1].2.1[k]=sj at hgS rkj
   obtain⟨R2,hR2⟩:∃R2,Ps[i-1].1=R2:=⟨_,rfl⟩
   rw[hR2] at hnS hqS
   simp only[encX] at hgS
   have hc2A:=sA.cells hc2
   have hcSA:=sA.cells hcS
   have hfe:=q_feq_X sg.1 sg.2 sj.1 sj.2
   by_cases heq:sg=sj
   ·have hd:dd rk (i+1)=dd rk i:=dd_same rki ⟨by omega,by rw[rkj,heq]⟩
    have hde:decide ((sg.1,sg.2)=(sj.1,sj.2))=true:=decide_eq_true heq
    rw[hde] at hfe
    rw[hd]
    simp -implicitDefEqProofs(maxSteps:=999999)(disch:=first|with_reducible rfl|omega|(simp only[nA,nS,nD]<;>omega)|fail)only[go_sem,t0,t1,t2,t7,t10,t11,t12,hi',hq' (nat_cst i),hc',hg',lnF,pF,hzA,cells_of gA,hz,hnF,hqR (nat_cst k),hcRA,hgR,hw1,hq2 (nat_cst (i-1)),hc2A,hnS,hqS (nat_cst k),hcSA,hgS,hfe,wr_succ]
    exact⟨_,_,_,rfl,oA,(by simp[ev_c,ev_put,t0]<;>rfl),(by simp[ev_c,ev_put,t1]<;>rfl),(by simp[ev_c,ev_put,t2]<;>rfl),(by simp[ev_c,ev_put,t7]<;>rfl),(by simp[ev_c,ev_put,t10]<;>rfl),(by simp[ev_c,ev_put,t11]<;>rfl),(by simp[ev_c,ev_put]<;>rfl)⟩
   ·have hd:dd rk (i+1)=dd rk i++[sg]:=dd_new rki fun⟨_,h⟩=>by rw[rkj] at h;exact heq (Option.some.inj h).symm
    have hde:decide ((sg.1,sg.2)=(sj.1,sj.2))=false:=decide_eq_false heq
    rw[hde] at hfe
    rw[hd,List.map_append,List.map_append]
    generalize(dd rk i).map of=L at o oA la⊢
    simp -implicitDefEqProofs(maxSteps:=999999)(disch:=first|with_reducible rfl|omega|(simp only[nA,nS,nD]<;>omega)|fail)only[go_sem,t0,t1,t2,t7,t10,t11,t12,hi',hq' (nat_cst i),hc',hg',lnF,pF,hzA,cells_of gA,hz,hnF,hqR (nat_cst k),hcRA,hgR,hw1,hq2 (nat_cst (i-1)),hc2A,hnS,hqS (nat_cst k),hcSA,hgS,hfe]
    refine hpi.use (sz.trans sA) fun z2 s2=>?_
    have oB:=oA.mono s2
    have s3:=(H.Sub.refl s2.wf).add (.cells .rw [.int .i64 (of sg)])
    have sn:SlAt (z2.add (.cells .rw [.int .i64 (of sg)])) (.sl z2.next 0 1 (.fix 1)) 1 [encI (of sg)]:=SlAt.new _ rfl rfl rfl (by simp[encI]) (by simp)
    simp -implicitDefEqProofs(maxSteps:=999999)(disch:=first|with_reducible rfl|omega|(simp only[nA,nS,nD]<;>omega)|fail)only[go_sem,t0,t1,t2,t7,t10,t11,t12]
    refine(oB.mono s3).app1 (by_:=8) (r:=encI (of sg)) hw rfl (by omega) sn rfl (by rw[List.length_map];omega) (by rw[List.length_map];omega) fun z3 o3 k3 n3=>?_
    rw[H.next_add] at o3
    simp -implicitDefEqProofs(maxSteps:=999999)(disch:=first|with_reducible rfl|omega|(simp only[nA,nS,nD]<;>omega)|fail)only[go_sem,t0,t1,t2,t7,t10,t11,t12,wr_succ]
    exact⟨_,_,_,rfl,o3,(by simp[ev_c,ev_put,t0]<;>rfl),(by simp[ev_c,ev_put,t1]<;>rfl),(by simp[ev_c,ev_put,t2]<;>rfl),(by simp[ev_c,ev_put]<;>rfl),(by simp[ev_c,ev_put,t10]<;>rfl),(by simp[ev_c,ev_put,t11]<;>rfl),(by simp[ev_c,ev_put]<;>rfl)⟩
 ·rintro s ⟨tm,z,w,rfl,o,t0,t1,t2,t7,t10,t11,t12⟩
  have lp:=List.length_pos_iff.2 hne
  have ll:((dd rk Ps.length).map of).length≤15625:=by rw[List.length_map];have:=dd_len (l:=rk) (n:=Ps.length);omega
  have l1:1≤((dd rk Ps.length).map of).length:=by rw[List.length_map];exact dd_pos (by omega) lp
  generalize(dd rk Ps.length).map of=L at o ll l1 q
  obtain⟨b,rfl,lb,gb⟩:=rise_ev o hw (by omega) (by omega)
  have lz:=o.1.wf _ _ gb
  have s2:=o.1.set lb lz hw (.cells (.gr 1) ((sortI L).map iv))
  have g2:(z.set b (.cells (.gr 1) ((sortI L).map iv))).get b=some (.cells (.gr 1) ((sortI L).map iv)):=get_set_same rfl
  simp -implicitDefEqProofs(maxSteps:=999999)(disch:=first|with_reducible rfl|omega|(simp only[nA,nS,nD]<;>omega)|fail)only[go_sem,t0,t1,t2,t7,t10,t11,t12,Int.lt_irrefl,sort_ev gb (by omega) (by omega)]
  rw[←sortI_len L]
  refine Compact_ev s2 hw lb g2 (by rw[sortI_len];omega) (by rw[sortI_len];omega) _ fun yy h' s' k' x'=>?_
  simp -implicitDefEqProofs(maxSteps:=999999)(disch:=first|with_reducible rfl|omega|(simp only[nA,nS,nD]<;>omega)|fail)only[go_sem]
  exact q _ _ s' x'
end Go.Ab.Tryz
namespace Go.Ab.Tryz
open Go.Proofs
def setsR (a:At)(c:Int)(of:Int × Int→Int):List Int:=if errT a (!a.ckB c)≠0 then[] else setL a c.toNat of
theorem ckB_nat {a:At}{n:Int}(h:a.ckB n=true):∃k:Nat,n=k∧k<a.cks.length:=by
 simp only[At.ckB,inB_iff] at h
 exact⟨n.toNat,by omega,by omega⟩
theorem sets1_ev {h:H}(s:Int × Int):PureA h (.fn 103 [] []) [.agg (encX s)] (.int .i64 s.1):=by
 intro h1 hs
 refine Ev_body (fd:=c103) rfl rfl rfl ?_
 have hw:=hs.wf
 have s0:=H.Sub.refl hw
 simp -implicitDefEqProofs(maxSteps:=999999)(disch:=first|with_reducible rfl|omega|(simp only[nA,nS,nD]<;>omega)|fail)only[c103,go_sem,encX]
 exact(by repeat(first|assumption|exact H.Sub.refl (by assumption)|refine H.Sub.add ?_ _|refine H.Sub.set ?_ (by first|omega|(simp only[H.next_add,H.next_set,H.next_del]<;>omega)) (by first|omega|(simp only[H.next_add,H.next_set,H.next_del]<;>omega)) (by assumption) _))
theorem gains1_ev {h:H}(s:Int × Int):PureA h (.fn 80 [] []) [.agg (encX s)] (.int .i64 s.2):=by
 intro h1 hs
 refine Ev_body (fd:=c80) rfl rfl rfl ?_
 have hw:=hs.wf
 have s0:=H.Sub.refl hw
 simp -implicitDefEqProofs(maxSteps:=999999)(disch:=first|with_reducible rfl|omega|(simp only[nA,nS,nD]<;>omega)|fail)only[c80,go_sem,encX]
 exact(by repeat(first|assumption|exact H.Sub.refl (by assumption)|refine H.Sub.add ?_ _|refine H.Sub.set ?_ (by first|omega|(simp only[H.next_add,H.next_set,H.next_del]<;>omega)) (by first|omega|(simp only[H.next_add,H.next_set,H.next_del]<;>omega)) (by assumption) _))
theorem sl_nil (h:H):SlAt h .nils 1 (([]:List Int).map encI):=⟨by simp,by simp,.inl ⟨rfl,rfl⟩⟩
theorem runsK_of {a:At}{Ps:List Fd}(e:Ps.map Prod.snd=allC a)(k:Nat):(Ps.map fun p=>p.2.1.getD k (0,0))=runsK a k:=by
 unfold runsK
 rw[←e,List.map_map];rfl
theorem told_runs {a:At}{h h':H}{Ps:List Fd}{y:V}(r:Right a)(e:Ps.map Prod.snd=allC a)(f:FsO h h' y Ps)(hin:∀p∈Ps,In5 240 p.2.2){k:Nat}(hk:k<a.cks.length):(∀p∈Ps,SlAt h' p.1 2 (p.2.1.map encX)∧k<p.2.1.length)∧(∀p∈Ps,allOne (rowF p)=true)∧(∀p∈Ps,(rowF p).length=26)∧Ps.length≤15625∧∀p∈Ps,p.2∈casesL a (fun _=>true):=by
 have hm:∀p∈Ps,p.2∈casesL a (fun _=>true):=fun p hp=>by show p.2∈allC a;rw[←e];exact List.mem_map_of_mem hp
 have rl:=r.lens
 refine⟨fun p hp=>?_,fun p hp=>?_,fun p hp=>by simp[rowF,(hin p hp).len],by have:=casesL_len r (fun _=>true);rw[show casesL a (fun _=>true)=Ps.map Prod.snd from e.symm,List.length_map] at this;exact this,hm⟩
 ·have hl:=(cases_sound r (hm p hp)).2.1
  exact⟨(f.e p hp).sl (by rw[List.length_map];omega),by omega⟩
 ·rw[rowF,allOne_cons,(f.e p hp).one,allOne_iv];rfl
set_option maxHeartbeats 2000000 in
theorem Sets_ev {h:H}(hw:h.wf){a:At}{C R G:V}(x:AtAt h C R G a)(c:Int)(Q:V→H→Prop)(q:∀w h',h.Sub h'→SlAt h' w 1 ((setsR a c Prod.fst).map encI)→Q (.tup [w,.int .i64 (errT a (!a.ckB c))]) h'):
  Ev fnG fastA (.fn 38 [] []) [.agg (atV a C R G),.int .i64 c] h Q:=by
 have oC:=x.c.one;have oR:=x.r.one;have oG:=x.g.one
 refine Ev_body (fd:=c38) rfl rfl rfl ?_
 obtain⟨z,hz⟩:∃z,h.add (.cells .rw (atV a C R G))=z:=⟨_,rfl⟩
 have sz:h.Sub z:=by rw[←hz];exact(by repeat(first|assumption|exact H.Sub.refl (by assumption)|refine H.Sub.add ?_ _|refine H.Sub.set ?_ (by first|omega|(simp only[H.next_add,H.next_set,H.next_del]<;>omega)) (by first|omega|(simp only[H.next_add,H.next_set,H.next_del]<;>omega)) (by assumption) _))
 have ga:z.get h.next=some (.cells .rw (atV a C R G)):=by rw[←hz];exact get_add_new rfl
 simp -implicitDefEqProofs(maxSteps:=999999)(disch:=first|with_reducible rfl|omega|(simp only[nA,nS,nD]<;>omega)|fail)only[c38,go_sem,oC,oR,oG]
 rw[hz]
 clear hz
 refine clock_ev sz.wf (x.mono sz) c _ fun z1 s1=>?_
 have hs1:=sz.trans s1
 have gsA:=s1.get ga
 simp -implicitDefEqProofs(maxSteps:=999999)(disch:=first|with_reducible rfl|omega|(simp only[nA,nS,nD]<;>omega)|fail)only[go_sem]
 refine told_ev2 s1.wf (x.mono hs1) (!a.ckB c) _ (fun z2 s2 he=>?_) fun z2 v y Ps s2 hx hl ho hne r hb he e f=>?_
 ·have eR:setsR a c Prod.fst=[]:=if_pos he
  have q':=q .nils z2 (hs1.trans s2) (by rw[eR];exact sl_nil z2)
  simp -implicitDefEqProofs(maxSteps:=999999)(disch:=first|with_reducible rfl|omega|(simp only[nA,nS,nD]<;>omega)|fail)only[go_sem,(decide_eq_true he:decide (errT a (!a.ckB c)≠0)=true),cells_of ga,cells_of gsA,cells_of (s2.get gsA)]
  exact q'
 ·have hb':a.ckB c=true:=by simpa using hb
  obtain⟨k,rfl,hk⟩:=ckB_nat hb'
  have d0:decide ((0:Int)≠0)=false:=rfl
  obtain⟨hr,hone,hlen,hP,hm⟩:=told_runs r e f hl hk
  have eR:setsR a (k:Int) Prod.fst=setL a k Prod.fst:=by unfold setsR;rw[if_neg (by rw[he];simp),Int.toNat_natCast]
  simp -implicitDefEqProofs(maxSteps:=999999)(disch:=first|with_reducible rfl|omega|(simp only[nA,nS,nD]<;>omega)|fail)only[go_sem,d0,cells_of ga,cells_of gsA,cells_of (s2.get gsA)]
  refine settled_ev s2.wf hx hone hlen hne hP hr (of:=Prod.fst) (fun s=>sets1_ev s) _ fun w z3 s3 xw=>?_
  simp -implicitDefEqProofs(maxSteps:=999999)(disch:=first|with_reducible rfl|omega|(simp only[nA,nS,nD]<;>omega)|fail)only[go_sem,cells_of ga,cells_of gsA,cells_of (s2.get gsA),cells_of ((s2.trans s3).get gsA)]
  have hlk:Ps.length=(runsK a k).length:=by rw[←runsK_of e k,List.length_map]
  rw[runsK_of e k,hlk] at xw
  have q':=q w z3 ((hs1.trans s2).trans s3) (by rw[eR];exact xw)
  rwa[he] at q'
set_option maxHeartbeats 2000000 in
theorem Gains_ev {h:H}(hw:h.wf){a:At}{C R G:V}(x:AtAt h C R G a)(c:Int)(Q:V→H→Prop)(q:∀w h',h.Sub h'→SlAt h' w 1 ((setsR a c Prod.snd).map encI)→Q (.tup [w,.int .i64 (errT a (!a.ckB c))]) h'):
  Ev fnG fastA (.fn 19 [] []) [.agg (atV a C R G),.int .i64 c] h Q:=by
 have oC:=x.c.one;have oR:=x.r.one;have oG:=x.g.one
 refine Ev_body (fd:=c19) rfl rfl rfl ?_
 obtain⟨z,hz⟩:∃z,h.add (.cells .rw (atV a C R G))=z:=⟨_,rfl⟩
 have sz:h.Sub z:=by rw[←hz];exact(by repeat(first|assumption|exact H.Sub.refl (by assumption)|refine H.Sub.add ?_ _|refine H.Sub.set ?_ (by first|omega|(simp only[H.next_add,H.next_set,H.next_del]<;>omega)) (by first|omega|(simp only[H.next_add,H.next_set,H.next_del]<;>omega)) (by assumption) _))
 have ga:z.get h.next=some (.cells .rw (atV a C R G)):=by rw[←hz];exact get_add_new rfl
 simp -implicitDefEqProofs(maxSteps:=999999)(disch:=first|with_reducible rfl|omega|(simp only[nA,nS,nD]<;>omega)|fail)only[c19,go_sem,oC,oR,oG]
 rw[hz]
 clear hz
 refine clock_ev sz.wf (x.mono sz) c _ fun z1 s1=>?_
 have hs1:=sz.trans s1
 have gsA:=s1.get ga
 simp -implicitDefEqProofs(maxSteps:=999999)(disch:=first|with_reducible rfl|omega|(simp only[nA,nS,nD]<;>omega)|fail)only[go_sem]
 refine told_ev2 s1.wf (x.mono hs1) (!a.ckB c) _ (fun z2 s2 he=>?_) fun z2 v y Ps s2 hx hl ho hne r hb he e f=>?_
 ·have eR:setsR a c Prod.snd=[]:=if_pos he
  have q':=q .nils z2 (hs1.trans s2) (by rw[eR];exact sl_nil z2)
  simp -implicitDefEqProofs(maxSteps:=999999)(disch:=first|with_reducible rfl|omega|(simp only[nA,nS,nD]<;>omega)|fail)only[go_sem,(decide_eq_true he:decide (errT a (!a.ckB c)≠0)=true),cells_of ga,cells_of gsA,cells_of (s2.get gsA)]
  exact q'
 ·have hb':a.ckB c=true:=by simpa using hb
  obtain⟨k,rfl,hk⟩:=ckB_nat hb'
  have d0:decide ((0:Int)≠0)=false:=rfl
  obtain⟨hr,hone,hlen,hP,hm⟩:=told_runs r e f hl hk
  have eR:setsR a (k:Int) Prod.snd=setL a k Prod.snd:=by unfold setsR;rw[if_neg (by rw[he];simp),Int.toNat_natCast]
  simp -implicitDefEqProofs(maxSteps:=999999)(disch:=first|with_reducible rfl|omega|(simp only[nA,nS,nD]<;>omega)|fail)only[go_sem,d0,cells_of ga,cells_of gsA,cells_of (s2.get gsA)]
  refine settled_ev s2.wf hx hone hlen hne hP hr (of:=Prod.snd) (fun s=>gains1_ev s) _ fun w z3 s3 xw=>?_
  simp -implicitDefEqProofs(maxSteps:=999999)(disch:=first|with_reducible rfl|omega|(simp only[nA,nS,nD]<;>omega)|fail)only[go_sem,cells_of ga,cells_of gsA,cells_of (s2.get gsA),cells_of ((s2.trans s3).get gsA)]
  have hlk:Ps.length=(runsK a k).length:=by rw[←runsK_of e k,List.length_map]
  rw[runsK_of e k,hlk] at xw
  have q':=q w z3 ((hs1.trans s2).trans s3) (by rw[eR];exact xw)
  rwa[he] at q'
end Go.Ab.Tryz
namespace Go.Ab.Tryz
open Go.Proofs
theorem shows1_ev {h:H}{b1 b2:Nat}{k e:Nat}(g1:h.cells b1=some [.int .i64 (k:Int)])(g2:h.cells b2=some [.int .i64 (e:Int)])(he:e<4){p:Fd}(hlen:(rowF p).length=26)(hin:In5 240 p.2.2)(hx:SlAt h p.1 2 (p.2.1.map encX))(hk:k<p.2.1.length)(hrun:RunIn (p.2.1.getD k (0,0)).1 (p.2.1.getD k (0,0)).2)(hm:0≤ -(mg p.2.2 e 4)∧ -(mg p.2.2 e 4)≤240):
  PureA h (.fn 105 [] [.ptr b1 0,.ptr b2 0]) [.agg (rowF p)] (.int .i64 (shw (p.2.1.getD k (0,0)).1 (p.2.1.getD k (0,0)).2 (-(mg p.2.2 e 4)))):=by
 intro h1 hs
 refine Ev.gen fun Q q=>?_
 have hw:=hs.wf
 have hgd:p.2.1.getD k (0,0)=p.2.1[k]:=by rw[List.getD_eq_getElem?_getD,List.getElem?_eq_getElem hk];rfl
 obtain⟨bR,oR,cR,csR,eR,hcR,hqR,hgR,_,_⟩:=(hx.mono hs).at hk
 have hv0:nth 0 (rowF p)=some p.1:=rfl
 have hv1:=row_at hin.len (f:=e) (t:=4) (by omega) (by omega)
 have i4:∀sz b o,q_iaa 5 sz (.ptr b o) (.int .i64 4)=some (.ptr b (o+4*sz)):=fun sz b o=>q_iaa_ptr (nat_num 4) (by omega)
 have lbR:bR<h1.next:=(H.cells_eq hcR).elim fun kd e=>hw _ _ e
 have hcell:=rowF p
 refine Ev_body (fd:=c105) rfl rfl rfl ?_
 rw[hgd] at hrun q
 generalize p.2.1[k]=sg at hrun hgR q
 simp only[encX] at hgR
 have a1:=hs.cells g1
 have a2:=hs.cells g2
 have lb1:b1<h1.next:=(H.cells_eq a1).elim fun kd e=>hw _ _ e
 have lb2:b2<h1.next:=(H.cells_eq a2).elim fun kd e=>hw _ _ e
 have b0:=hin.lo e 4 (by omega) (by omega);have b1':=hin.hi e 4 (by omega) (by omega)
 have w0:wr .i64 (0-mg p.2.2 e 4)= -(mg p.2.2 e 4):=by rw[wr_in (by omega) (by omega)];omega
 obtain⟨y,hy⟩:∃y, -(mg p.2.2 e 4)=y:=⟨_,rfl⟩
 rw[hy] at hm q
 obtain⟨F,hF⟩:∃F,rowF p=F:=⟨_,rfl⟩
 rw[hF] at hv0 hv1 hlen⊢
 have sF:h1.Sub (h1.add (.cells .rw F)):=(H.Sub.refl hw).add _
 have gF:(h1.add (.cells .rw F)).cells h1.next=some F:=cells_add_new rfl
 simp -implicitDefEqProofs(maxSteps:=999999)(disch:=first|with_reducible rfl|omega|(simp only[nA,nS,nD]<;>omega)|fail)only[c105,go_sem,V.cells]
 generalize h1.add (.cells .rw F)=hz at sF gF⊢
 simp -implicitDefEqProofs(maxSteps:=999999)(disch:=first|with_reducible rfl|omega|(simp only[nA,nS,nD]<;>omega)|fail)only[go_sem,gF,hv0,sF.cells a1,sF.cells a2,hqR (nat_cst k),sF.cells hcR,hgR,iaa5 _ _ _ (show e<5 by omega),i4,hv1,w0,hy]
 refine shows_ev rfl sF.wf hrun hm.1 hm.2 _ fun z4 s4=>?_
 have s14:=sF.trans s4
 simp -implicitDefEqProofs(maxSteps:=999999)(disch:=first|with_reducible rfl|omega|(simp only[nA,nS,nD]<;>omega)|fail)only[go_sem,gF,s4.cells gF,hv0,sF.cells a1,sF.cells a2,s14.cells a1,s14.cells a2,sF.cells hcR,s14.cells hcR,hgR,hv1,hy]
 exact q _ _ ⟨rfl,s14⟩
theorem shows2_ev {h:H}{b1 b2:Nat}{k e:Nat}(g1:h.cells b1=some [.int .i64 (k:Int)])(g2:h.cells b2=some [.int .i64 (e:Int)])(he:e<4){p:Fd}(hlen:(rowF p).length=26)(hin:In5 240 p.2.2)(hx:SlAt h p.1 2 (p.2.1.map encX))(hk:k<p.2.1.length)(hrun:RunIn (p.2.1.getD k (0,0)).1 (p.2.1.getD k (0,0)).2)(hm:0≤mg p.2.2 4 e∧mg p.2.2 4 e≤240):
  PureA h (.fn 107 [] [.ptr b1 0,.ptr b2 0]) [.agg (rowF p)] (.int .i64 (shw (p.2.1.getD k (0,0)).1 (p.2.1.getD k (0,0)).2 (mg p.2.2 4 e))):=by
 intro h1 hs
 refine Ev.gen fun Q q=>?_
 have hw:=hs.wf
 have hgd:p.2.1.getD k (0,0)=p.2.1[k]:=by rw[List.getD_eq_getElem?_getD,List.getElem?_eq_getElem hk];rfl
 obtain⟨bR,oR,cR,csR,eR,hcR,hqR,hgR,_,_⟩:=(hx.mono hs).at hk
 have hv0:nth 0 (rowF p)=some p.1:=rfl
 have hv1:=row_at hin.len (f:=4) (t:=e) (by omega) (by omega)
 have i4:∀sz b o,q_iaa 5 sz (.ptr b o) (.int .i64 4)=some (.ptr b (o+4*sz)):=fun sz b o=>q_iaa_ptr (nat_num 4) (by omega)
 have lbR:bR<h1.next:=(H.cells_eq hcR).elim fun kd e=>hw _ _ e
 have hcell:=rowF p
 refine Ev_body (fd:=c107) rfl rfl rfl ?_
 rw[hgd] at hrun q
 generalize p.2.1[k]=sg at hrun hgR q
 simp only[encX] at hgR
 have a1:=hs.cells g1
 have a2:=hs.cells g2
 have lb1:b1<h1.next:=(H.cells_eq a1).elim fun kd e=>hw _ _ e
 have lb2:b2<h1.next:=(H.cells_eq a2).elim fun kd e=>hw _ _ e
 have b0:=hin.lo e 4 (by omega) (by omega);have b1':=hin.hi e 4 (by omega) (by omega)
 have w0:wr .i64 (0-mg p.2.2 e 4)= -(mg p.2.2 e 4):=by rw[wr_in (by omega) (by omega)];omega
 obtain⟨y,hy⟩:∃y,mg p.2.2 4 e=y:=⟨_,rfl⟩
 rw[hy] at hm q
 obtain⟨F,hF⟩:∃F,rowF p=F:=⟨_,rfl⟩
 rw[hF] at hv0 hv1 hlen⊢
 have sF:h1.Sub (h1.add (.cells .rw F)):=(H.Sub.refl hw).add _
 have gF:(h1.add (.cells .rw F)).cells h1.next=some F:=cells_add_new rfl
 simp -implicitDefEqProofs(maxSteps:=999999)(disch:=first|with_reducible rfl|omega|(simp only[nA,nS,nD]<;>omega)|fail)only[c107,go_sem,V.cells]
 generalize h1.add (.cells .rw F)=hz at sF gF⊢
 simp -implicitDefEqProofs(maxSteps:=999999)(disch:=first|with_reducible rfl|omega|(simp only[nA,nS,nD]<;>omega)|fail)only[go_sem,gF,hv0,sF.cells a1,sF.cells a2,hqR (nat_cst k),sF.cells hcR,hgR,iaa5 _ _ _ (show e<5 by omega),i4,hv1,w0,hy]
 refine shows_ev rfl sF.wf hrun hm.1 hm.2 _ fun z4 s4=>?_
 have s14:=sF.trans s4
 simp -implicitDefEqProofs(maxSteps:=999999)(disch:=first|with_reducible rfl|omega|(simp only[nA,nS,nD]<;>omega)|fail)only[go_sem,gF,s4.cells gF,hv0,sF.cells a1,sF.cells a2,s14.cells a1,s14.cells a2,sF.cells hcR,s14.cells hcR,hgR,hv1,hy]
 exact q _ _ ⟨rfl,s14⟩
def shoR (a:At)(c e:Int):(Int × Int) × Int:=if errT a (!a.ckB c|| !a.evB e)≠0 then((0,0),errT a (!a.ckB c|| !a.evB e)) else((shoLo a c.toNat e.toNat,shoHi a c.toNat e.toNat),0)
theorem shwN_of {a:At}{Ps:List Fd}(e:Ps.map Prod.snd=allC a)(k:Nat)(m:List Int→Int):risL (Ps.map fun p=>shw (p.2.1.getD k (0,0)).1 (p.2.1.getD k (0,0)).2 (m p.2.2))=shwN a k m:=by
 unfold shwN
 rw[←e,List.map_map];rfl
set_option maxHeartbeats 4000000 in
theorem Shows_ev {h:H}(hw:h.wf){a:At}{C R G:V}(x:AtAt h C R G a)(c ev:Int)(Q:V→H→Prop)(q:∀h',h.Sub h'→Q (.tup [spV (shoR a c ev).1,.int .i64 (shoR a c ev).2]) h'):
  Ev fnG fastA (.fn 39 [] []) [.agg (atV a C R G),.int .i64 c,.int .i64 ev] h Q:=by
 have oC:=x.c.one;have oR:=x.r.one;have oG:=x.g.one
 have heq:errT a (!a.ckB c|| !evW a ev)=errT a (!a.ckB c|| !a.evB ev):=errT_bad fun r=>by rw[evW_right r]
 refine Ev_body (fd:=c39) rfl rfl rfl ?_
 obtain⟨z,hz⟩:∃z,(((h.add (.cells .rw (atV a C R G))).add (.cells .rw [.int .i64 c])).add (.cells .rw [.int .i64 ev])).add (.cells .rw [.int .i64 0,.int .i64 0])=z:=⟨_,rfl⟩
 have sz:h.Sub z:=by rw[←hz];exact(by repeat(first|assumption|exact H.Sub.refl (by assumption)|refine H.Sub.add ?_ _|refine H.Sub.set ?_ (by first|omega|(simp only[H.next_add,H.next_set,H.next_del]<;>omega)) (by first|omega|(simp only[H.next_add,H.next_set,H.next_del]<;>omega)) (by assumption) _))
 have nz:z.next=h.next+4:=by rw[←hz];simp only[H.next_add]
 have ga:z.get h.next=some (.cells .rw (atV a C R G)):=by rw[←hz];simp -implicitDefEqProofs(maxSteps:=999999)(disch:=first|with_reducible rfl|omega|(simp only[nA,nS,nD]<;>omega)|fail)only[go_sem]
 have gc:z.get (h.next+1)=some (.cells .rw [.int .i64 c]):=by rw[←hz];simp -implicitDefEqProofs(maxSteps:=999999)(disch:=first|with_reducible rfl|omega|(simp only[nA,nS,nD]<;>omega)|fail)only[go_sem]
 have ge:z.get (h.next+2)=some (.cells .rw [.int .i64 ev]):=by rw[←hz];simp -implicitDefEqProofs(maxSteps:=999999)(disch:=first|with_reducible rfl|omega|(simp only[nA,nS,nD]<;>omega)|fail)only[go_sem]
 have gs:z.get (h.next+3)=some (.cells .rw [.int .i64 0,.int .i64 0]):=by rw[←hz];simp -implicitDefEqProofs(maxSteps:=999999)(disch:=first|with_reducible rfl|omega|(simp only[nA,nS,nD]<;>omega)|fail)only[go_sem]
 simp -implicitDefEqProofs(maxSteps:=999999)(disch:=first|with_reducible rfl|omega|(simp only[nA,nS,nD]<;>omega)|fail)only[c39,go_sem,oC,oR,oG]
 rw[hz]
 clear hz
 rw[show h.next+1+1=h.next+2 from rfl,show h.next+2+1=h.next+3 from rfl]
 refine clock_ev sz.wf (x.mono sz) c _ fun z1 s1=>?_
 have hs1:=sz.trans s1
 have d0:decide ((0:Int)≠0)=false:=rfl
 have tail:∀hz:H,z.Sub hz→∀bad,bad=(!a.ckB c|| !evW a ev)→∀Q2:V→H→Prop,
   (∀h4,hz.Sub h4→errT a bad≠0→shoR a c ev=((0,0),errT a bad)→Q2 (.tup [.nilp,.nils,.int .i64 (errT a bad)]) h4)→
   (∀h4 v y,hz.Sub h4→∀k e:Nat,c=k→ev=e→(shoR a c ev=((shoLo a k e,shoHi a k e),0))→(0<(shwN a k fun L=> -mg L e 4).length)→(0<(shwN a k fun L=>mg L 4 e).length)→(shwN a k fun L=>mg L 4 e).length≤15625→
    (∀h5,h4.Sub h5→∀Q3:V→H→Prop,(∀w h6,h5.Sub h6→SlAt h6 w 1 ((shwN a k fun L=> -mg L e 4).map encI)→Q3 w h6)→Ev fnG fastA (.fn 104 [] []) [y,.fn 105 [] [.ptr (h.next+1) 0,.ptr (h.next+2) 0]] h5 Q3)→
    (∀h5,h4.Sub h5→∀Q3:V→H→Prop,(∀w h6,h5.Sub h6→SlAt h6 w 1 ((shwN a k fun L=>mg L 4 e).map encI)→Q3 w h6)→Ev fnG fastA (.fn 104 [] []) [y,.fn 107 [] [.ptr (h.next+1) 0,.ptr (h.next+2) 0]] h5 Q3)→
    Q2 (.tup [v,y,.int .i64 0]) h4)→
   Ev fnG fastA (.fn 75 [] []) [.agg (atV a C R G),.bool bad] hz Q2:=fun hz sz' bad hbad Q2 r1 r2=>by
  subst hbad
  refine told_ev2 sz'.wf (x.mono (sz.trans sz')) _ _ (fun h4 s4 he=>r1 h4 s4 he ?_) fun h4 v y Ps s4 hx hl ho hne r hb he e' f=>?_
  ·rw[heq] at he⊢;exact if_pos he
  ·rw[evW_right r] at hb
   have h1:a.ckB c=true:=by cases hv:a.ckB c<;>simp_all
   have h2:a.evB ev=true:=by cases hv:a.evB ev<;>simp_all
   obtain⟨k,rfl,hk⟩:=ckB_nat h1
   obtain⟨e,rfl,he4⟩:=evB_nat r h2
   rw[heq] at he
   obtain⟨hr,hone,hlen,hP,hm⟩:=told_runs r e' f hl hk
   have hneC:allC a≠[]:=fun hc=>hne (List.map_eq_nil_iff.1 (e'.trans hc))
   have hR:shoR a (k:Int) (e:Int)=((shoLo a k e,shoHi a k e),0):=by unfold shoR;rw[if_neg (by rw[he];simp),Int.toNat_natCast,Int.toNat_natCast]
   have hrun:∀p∈Ps,RunIn (p.2.1.getD k (0,0)).1 (p.2.1.getD k (0,0)).2:=fun p hp=>by
    have hkl:=(hr p hp).2
    have hg:p.2.1.getD k (0,0)=p.2.1[k]:=by rw[List.getD_eq_getElem?_getD,List.getElem?_eq_getElem hkl];rfl
    rw[hg]
    exact((cases_sound r (hm p hp)).2.2.1 k _ (List.getElem?_eq_getElem hkl)).run r
   have hmin:∀p∈Ps,(0≤ -mg p.2.2 e 4∧ -mg p.2.2 e 4≤240)∧0≤mg p.2.2 4 e∧mg p.2.2 4 e≤240:=fun p hp=>by
    have t1:=(lat_tru r (hm p hp) (f:=e) (by omega)).mins e he4
    have t2:=(lat_tru r (hm p hp) (f:=4) (by omega)).mins e he4
    rw[lat_self r (hm p hp) (by omega)] at t1
    rw[lat_4 r (hm p hp)] at t2
    have:=r.mins
    omega
   have ll:∀m:List Int→Int,(shwN a k m).length≤15625:=fun m=>by
    unfold shwN risL
    refine Nat.le_trans dd_len ?_
    rw[sortI_len,List.length_map]
    exact casesL_len r _
   refine r2 h4 v y s4 k e rfl rfl hR (shwN_pos hneC) (shwN_pos hneC) (ll _) (fun h5 s5 Q3 q3=>?_) fun h5 s5 Q3 q3=>?_
   ·have gc5:=cells_of ((sz'.trans (s4.trans s5)).get gc)
    have ge5:=cells_of ((sz'.trans (s4.trans s5)).get ge)
    refine numbers_ev s5.wf (hx.mono s5) hone hlen hne hP (of:=fun p=>shw (p.2.1.getD k (0,0)).1 (p.2.1.getD k (0,0)).2 (-mg p.2.2 e 4)) (fun p hp=>shows1_ev gc5 ge5 he4 (hlen p hp) (hl p hp) ((hr p hp).1.mono s5) (hr p hp).2 (hrun p hp) (hmin p hp).1) _ fun w h6 s6 xw=>q3 w h6 s6 ?_
    rw[shwN_of e' k fun L=> -mg L e 4] at xw
    exact xw
   ·have gc5:=cells_of ((sz'.trans (s4.trans s5)).get gc)
    have ge5:=cells_of ((sz'.trans (s4.trans s5)).get ge)
    refine numbers_ev s5.wf (hx.mono s5) hone hlen hne hP (of:=fun p=>shw (p.2.1.getD k (0,0)).1 (p.2.1.getD k (0,0)).2 (mg p.2.2 4 e)) (fun p hp=>shows2_ev gc5 ge5 he4 (hlen p hp) (hl p hp) ((hr p hp).1.mono s5) (hr p hp).2 (hrun p hp) (hmin p hp).2) _ fun w h6 s6 xw=>q3 w h6 s6 ?_
    rw[shwN_of e' k fun L=>mg L 4 e] at xw
    exact xw
 have fin:∀hz:H,z.Sub hz→∀(u v er:Int),shoR a c ev=((u,v),er)→Q (.tup [spV (u,v),.int .i64 er]) (hz.set (h.next+3) (.cells .rw [.int .i64 u,.int .i64 v])):=fun hz sz' u v er e=>by
  have lz:=sz'.next
  have:=q _ ((sz.trans sz').set (b:=h.next+3) (by omega) (by omega) hw (.cells .rw [.int .i64 u,.int .i64 v]))
  rwa[e] at this
 cases hck:a.ckB c with
 |false=>
  rw[hck] at tail
  simp -implicitDefEqProofs(maxSteps:=999999)(disch:=first|with_reducible rfl|omega|(simp only[nA,nS,nD]<;>omega)|fail)only[go_sem,cells_of gc,cells_of ga,cells_of (s1.get ga),cells_of (s1.get gc)]
  refine tail z1 s1 true rfl _ (fun h4 s4 he hr=>?_) fun h4 v y s4 k e e1 e2 hR l1 l2 l3 n1 n2=>?_
  ·have sx:=s1.trans s4
   simp -implicitDefEqProofs(maxSteps:=999999)(disch:=first|with_reducible rfl|omega|(simp only[nA,nS,nD]<;>omega)|fail)only[go_sem,cells_of ga,cells_of gc,cells_of (s1.get ga),cells_of (s1.get gc),cells_of (sx.get ga),cells_of (sx.get gc),(decide_eq_true he:decide (errT a true≠0)=true),sx.get gs]
   exact fin _ sx _ _ _ hr
  ·rw[e1] at hck
   exfalso
   unfold shoR at hR
   rw[e1,hck] at hR
   have:errT a (!false|| !a.evB ev)≠0:=by
    unfold errT
    by_cases hc0:checkA a=0
    ·rw[if_neg (by rw[hc0];simp),if_pos (by simp)];decide
    ·rw[if_pos hc0];exact hc0
   rw[if_pos this] at hR
   exact this (congrArg Prod.snd hR)
 |true=>
  rw[hck] at tail
  simp -implicitDefEqProofs(maxSteps:=999999)(disch:=first|with_reducible rfl|omega|(simp only[nA,nS,nD]<;>omega)|fail)only[go_sem,cells_of gc,cells_of ga,cells_of ge,cells_of (s1.get ga),cells_of (s1.get gc),cells_of (s1.get ge)]
  refine event_any s1.wf a ev _ fun z2 s2=>?_
  have s12:=s1.trans s2
  obtain⟨bt,hbt0⟩:∃bt,(!evW a ev)=bt:=⟨_,rfl⟩
  simp -implicitDefEqProofs(maxSteps:=999999)(disch:=first|with_reducible rfl|omega|(simp only[nA,nS,nD]<;>omega)|fail)only[go_sem,hbt0,cells_of gc,cells_of ga,cells_of ge,cells_of (s1.get ga),cells_of (s1.get gc),cells_of (s1.get ge),cells_of (s12.get ga),cells_of (s12.get gc),cells_of (s12.get ge)]
  refine tail z2 s12 bt (by rw[←hbt0];rfl) _ (fun h4 s4 he hr=>?_) fun h4 v y s4 k e e1 e2 hR l1 l2 l3 n1 n2=>?_
  ·have sx:=s12.trans s4
   simp -implicitDefEqProofs(maxSteps:=999999)(disch:=first|with_reducible rfl|omega|(simp only[nA,nS,nD]<;>omega)|fail)only[go_sem,cells_of gc,cells_of ga,cells_of ge,cells_of (s1.get ga),cells_of (s1.get gc),cells_of (s1.get ge),cells_of (s12.get ga),cells_of (s12.get gc),cells_of (s12.get ge),cells_of (sx.get ga),cells_of (sx.get gc),cells_of (sx.get ge),(decide_eq_true he:decide (errT a bt≠0)=true),sx.get gs]
   exact fin _ sx _ _ _ hr
  ·have sx:=s12.trans s4
   simp -implicitDefEqProofs(maxSteps:=999999)(disch:=first|with_reducible rfl|omega|(simp only[nA,nS,nD]<;>omega)|fail)only[go_sem,d0,cells_of gc,cells_of ga,cells_of ge,cells_of (s1.get ga),cells_of (s1.get gc),cells_of (s1.get ge),cells_of (s12.get ga),cells_of (s12.get gc),cells_of (s12.get ge),cells_of (sx.get ga),cells_of (sx.get gc),cells_of (sx.get ge)]
   refine n1 h4 (H.Sub.refl s4.wf) _ fun w1 h5 s5 xw1=>?_
   simp -implicitDefEqProofs(maxSteps:=999999)(disch:=first|with_reducible rfl|omega|(simp only[nA,nS,nD]<;>omega)|fail)only[go_sem]
   refine n2 h5 s5 _ fun w2 h6 s6 xw2=>?_
   have hl2:=xw2.lenE
   obtain⟨b1,o1,c1,cs1,ew1,hc1,hq1,_,_,q1⟩:=(xw1.mono s6).at l1
   obtain⟨b2,o2,c2,cs2,ew2,hc2,hq2,_,_,q2⟩:=xw2.at (k:=(shwN a k fun L=>mg L 4 e).length - 1) (by omega)
   have v1:=q1 (by decide)
   have v2:=q2 (by decide)
   simp only[encI,List.getElem?_cons_zero] at v1 v2
   rw[Nat.zero_mul,Nat.add_zero] at v1
   have g1:(shwN a k fun L=> -mg L e 4)[0]=shoLo a k e:=by unfold shoLo;rw[List.getD_eq_getElem?_getD,List.getElem?_eq_getElem l1];rfl
   have g2:(shwN a k fun L=>mg L 4 e)[(shwN a k fun L=>mg L 4 e).length - 1]'(by omega)=shoHi a k e:=by unfold shoHi;rw[List.getD_eq_getElem?_getD,List.getElem?_eq_getElem (by omega)];rfl
   rw[g1] at v1
   rw[g2] at v2
   have w3:wr .i64 (((shwN a k fun L=>mg L 4 e).length:Int)-1)=(((shwN a k fun L=>mg L 4 e).length - 1:Nat):Int):=by rw[wr_in (by omega) (by omega)];omega
   have hq10:=hq1 nat_zero
   rw[Nat.zero_mul,Nat.add_zero] at hq10
   have sy:=sx.trans (s5.trans s6)
   simp -implicitDefEqProofs(maxSteps:=999999)(disch:=first|with_reducible rfl|omega|(simp only[nA,nS,nD]<;>omega)|fail)only[go_sem,hq10,hc1,v1,hl2,w3,hq2 (nat_cst _),hc2,v2,sy.get gs]
   exact fin _ sy _ _ _ hR
end Go.Ab.Tryz
namespace Go.Ab.Tryz
open Go.Proofs
theorem ckB_iff {a:At}{n:Int}:a.ckB n=true↔0≤n∧n<(a.cks.length:Int):=by unfold At.ckB;rw[inB_iff];omega
def erW (a:At)(c:Int):Int:=if a.ckB c=true then 0 else 1
def erS (a:At)(c e:Int):Int:=if a.ckB c=true∧a.evB e=true then 0 else 1
theorem erW_ok {a:At}{c:Int}(h:er7 a (erW a c)=0):a.ckB c=true∧allC a≠[]:=by
 unfold er7 erW at h
 by_cases hb:a.ckB c=true
 ·rw[if_pos hb] at h
  exact⟨hb,fun e=>by rw[if_pos ⟨rfl,e⟩] at h;cases h⟩
 ·rw[if_neg hb,if_neg (by simp)] at h;cases h
theorem erS_ok {a:At}{c e:Int}(h:er7 a (erS a c e)=0):(a.ckB c=true∧a.evB e=true)∧allC a≠[]:=by
 unfold er7 erS at h
 by_cases hb:a.ckB c=true∧a.evB e=true
 ·rw[if_pos hb] at h
  exact⟨hb,fun e=>by rw[if_pos ⟨rfl,e⟩] at h;cases h⟩
 ·rw[if_neg hb,if_neg (by simp)] at h;cases h
theorem errT_ck {a:At}(r:Right a)(c:Int):errT a (!a.ckB c)=er7 a (erW a c):=by
 rw[errT_r r];unfold erW
 cases a.ckB c<;>simp
theorem errT_cs {a:At}(r:Right a)(c e:Int):errT a (!a.ckB c|| !a.evB e)=er7 a (erS a c e):=by
 rw[errT_r r];unfold erS
 cases a.ckB c<;>cases a.evB e<;>simp
def setsF (a:At)(c:Int):List Int:=if er7 a (erW a c)=0 then setsT (fitT a) (fun t=>t.1.getD c.toNat 0) else[]
def setsG (a:At)(c:Int):List Int:=if er7 a (erW a c)=0 then setsT (fitT a) (fun t=>t.2.1.getD c.toNat 0) else[]
theorem setsR_r {a:At}(r:Right a)(c:Int):setsR a c Prod.fst=setsF a c∧setsR a c Prod.snd=setsG a c:=by
 unfold setsR setsF setsG
 rw[errT_ck r]
 by_cases h:er7 a (erW a c)=0
 ·rw[if_neg (by rw[h];simp),if_pos h,if_neg (by rw[h];simp),if_pos h]
  have hb:=ckB_iff.1 (erW_ok h).1
  obtain⟨q1,q2⟩:=sets_eq r (k:=c.toNat) (by omega)
  exact⟨q1.symm,q2.symm⟩
 ·rw[if_pos h,if_neg h,if_pos h,if_neg h];exact⟨rfl,rfl⟩
theorem shoR_r {a:At}(r:Right a)(c e:Int):shoR a c e=(if er7 a (erS a c e)=0 then wideL ((fitT a).map fun t=>shw (t.1.getD c.toNat 0) (t.2.1.getD c.toNat 0) (timeF t.2.2 e.toNat)) else(0,0),er7 a (erS a c e)):=by
 unfold shoR
 rw[errT_cs r]
 by_cases h:er7 a (erS a c e)=0
 ·rw[if_neg (by rw[h];simp),if_pos h,h]
  obtain⟨⟨h1,h2⟩,hne⟩:=erS_ok h
  have q1:=ckB_iff.1 h1
  have q2:=evB_iff.1 h2
  rw[wide_sho r hne (k:=c.toNat) (e:=e.toNat) (by omega) (by omega)]
 ·rw[if_pos h,if_neg h]
structure TmR (h:H)(b7 n0:Nat)(c e:Int)(tm:Go.Ab.T V):Prop where
 t1:(Opd.t 1).ev tm=.int .i64 c
 t2:(Opd.t 2).ev tm=.int .i64 e
 t3:(Opd.t 3).ev tm=.ptr h.next 0
 t7:(Opd.t 7).ev tm=.ptr b7 0
 t9:(Opd.t 9).ev tm=.ptr n0 0
 t10:(Opd.t 10).ev tm=.ptr (n0+1) 0
 t13:(Opd.t 13).ev tm=.ptr (n0+2) 0
set_option maxHeartbeats 16000000 in
theorem ClockRuns_ev {h:H}(hw:h.wf){a:At}{C R G:V}(x:AtAt h C R G a)(c e:Int):Ev fnG fastA (.fn 5 [] []) [.agg (atV a C R G),.int .i64 c,.int .i64 e] h fun v _=>v=.bool true:=by
 refine Ev.gen fun Q q=>?_
 have oC:=x.c.one;have oR:=x.r.one;have oG:=x.g.one
 have hlC:=x.c.lenE
 refine Ev_body (fd:=c5) rfl rfl rfl ?_
 obtain⟨z,hz⟩:∃z,h.add (.cells .rw (atV a C R G))=z:=⟨_,rfl⟩
 have sz:h.Sub z:=by rw[←hz];exact(by repeat(first|assumption|exact H.Sub.refl (by assumption)|refine H.Sub.add ?_ _|refine H.Sub.set ?_ (by first|omega|(simp only[H.next_add,H.next_set,H.next_del]<;>omega)) (by first|omega|(simp only[H.next_add,H.next_set,H.next_del]<;>omega)) (by assumption) _))
 have nz:z.next=h.next+1:=by rw[←hz];simp only[H.next_add]
 have ga:z.get h.next=some (.cells .rw (atV a C R G)):=by rw[←hz];exact get_add_new rfl
 simp -implicitDefEqProofs(maxSteps:=999999)(disch:=first|with_reducible rfl|omega|(simp only[nA,nS,nD]<;>omega)|fail)only[c5,go_sem,oC,oR,oG,hz,cells_of ga]
 try rw[hz]
 clear hz
 refine wide_ev sz.wf (x.mono sz) _ fun wd z1 s1 hwd=>?_
 cases wd with
 |true=>
  simp -implicitDefEqProofs(maxSteps:=999999)(disch:=first|with_reducible rfl|omega|(simp only[nA,nS,nD]<;>omega)|fail)only[go_sem,awake_eq]
  exact q _ _ rfl
 |false=>
 obtain⟨hg,hbd⟩:=hwd rfl
 clear hwd
 have hl:a.cks.length≤8∧a.rds.length≤12∧a.gps.length≤9:=by
  simp only[greatA,decide_eq_false_iff_not] at hg
  omega
 have sm:SmallA a:=⟨by omega,by omega,by omega⟩
 have s01:=sz.trans s1
 simp -implicitDefEqProofs(maxSteps:=999999)(disch:=first|with_reducible rfl|omega|(simp only[nA,nS,nD]<;>omega)|fail)only[go_sem,cells_of (s1.get ga),oC,oR,oG]
 refine own_ev s01.wf (x.mono s01) sm _ fun C1 R1 G1 z2 n2=>?_
 have s2:=n2.s
 have s02:=s01.trans s2
 have s12:=s1.trans s2
 simp -implicitDefEqProofs(maxSteps:=999999)(disch:=first|with_reducible rfl|omega|(simp only[nA,nS,nD]<;>omega)|fail)only[go_sem,cells_of (s1.get ga),cells_of (s12.get ga),oC,oR,oG]
 refine theirs_ev s02.wf (x.mono s02) sm _ fun C2 R2 G2 z3 s3 x3=>?_
 have s03:=s02.trans s3
 have x1:=(n2.at_ sm).mono s3
 have o1C:=x1.c.one;have o1R:=x1.r.one;have o1G:=x1.g.one
 have o2C:=x3.c.one;have o2R:=x3.r.one;have o2G:=x3.g.one
 simp -implicitDefEqProofs(maxSteps:=999999)(disch:=first|with_reducible rfl|omega|(simp only[nA,nS,nD]<;>omega)|fail)only[go_sem,cells_of (s1.get ga),cells_of (s12.get ga),cells_of ((s12.trans s3).get ga),o1C,o1R,o1G,o2C,o2R,o2G,oC,oR,oG]
 obtain⟨z4,hz4⟩:∃z4,((((z3.add (.cells .rw [.int .i64 0,.int .i64 0,.nils,.nils,.nils])).add (.cells .rw [.int .i64 0,.int .i64 0,.nils,.nils,.nils])).set z3.next (.cells .rw (atV a C1 R1 G1))).set (z3.next+1) (.cells .rw (atV a C2 R2 G2)))=z4:=⟨_,rfl⟩
 have s4:z3.Sub z4:=by have:=s03.wf;rw[←hz4];exact(by repeat(first|assumption|exact H.Sub.refl (by assumption)|refine H.Sub.add ?_ _|refine H.Sub.set ?_ (by first|omega|(simp only[H.next_add,H.next_set,H.next_del]<;>omega)) (by first|omega|(simp only[H.next_add,H.next_set,H.next_del]<;>omega)) (by assumption) _))
 have g9:z4.get z3.next=some (.cells .rw (atV a C1 R1 G1)):=by rw[←hz4];simp -implicitDefEqProofs(maxSteps:=999999)(disch:=first|with_reducible rfl|omega|(simp only[nA,nS,nD]<;>omega)|fail)only[go_sem]
 have g10:z4.get (z3.next+1)=some (.cells .rw (atV a C2 R2 G2)):=by rw[←hz4];simp -implicitDefEqProofs(maxSteps:=999999)(disch:=first|with_reducible rfl|omega|(simp only[nA,nS,nD]<;>omega)|fail)only[go_sem]
 rw[hz4]
 clear hz4
 refine refCheck_ev s4.wf (x3.mono s4) sm _ fun z5 s5=>?_
 have s45:=s4.trans s5
 have s05:=s03.trans s45
 have x1':=x1.mono s45
 have x3':=x3.mono s45
 have xa:=x.mono s05
 have ga5:=(s12.trans (s3.trans s45)).get ga
 have g95:=s5.get g9
 have g105:=s5.get g10
 have hw5:=s05.wf
 have l9:=hw5 _ _ g95
 have l10:=hw5 _ _ g105
 clear g9 g10 x1 x3 ga n2
 simp -implicitDefEqProofs(maxSteps:=999999)(disch:=first|with_reducible rfl|omega|(simp only[nA,nS,nD]<;>omega)|fail)only[go_sem]
 obtain⟨J,hJ⟩:∃J:St→Prop,∀s,J s↔∃tm z,s=⟨tm,z,[]⟩∧TmR h z3.next z5.next c e tm∧(Opd.t 8).ev tm=.ptr (z3.next+1) 0∧(Opd.t 11).ev tm=.nils∧(Opd.t 12).ev tm=.nils∧Cs z5.next z5 z [i1 (checkA a),i1 (checkA a),i2 (0,0)]:=⟨_,fun s=>Iff.rfl⟩
 obtain⟨K,hK⟩:∃K:St→Prop,∀s,K s↔∃tm z y1 y2,s=⟨tm,z,[]⟩∧TmR h z3.next z5.next c e tm∧(Opd.t 11).ev tm=y1∧(Opd.t 12).ev tm=y2∧SlAt z y1 1 ((setsR a c Prod.fst).map encI)∧SlAt z y2 1 ((setsR a c Prod.snd).map encI)∧Cs z5.next z5 z [i1 (errT a (!a.ckB c)),i1 (shoR a c e).2,i2 (shoR a c e).1]:=⟨_,fun s=>Iff.rfl⟩
 refine PBd_st J ((hJ _).2 ⟨_,_,rfl,⟨(by simp[ev_c,ev_put]<;>rfl),(by simp[ev_c,ev_put]<;>rfl),(by simp[ev_c,ev_put]<;>rfl),(by simp[ev_c,ev_put]<;>rfl),(by simp[ev_c,ev_put]<;>rfl),(by simp[ev_c,ev_put,H.next_add,H.next_set]<;>rfl),(by simp[ev_c,ev_put,H.next_add,H.next_set]<;>rfl)⟩,(by simp[ev_c,ev_put]<;>rfl),(by simp[ev_c,ev_put]<;>rfl),(by simp[ev_c,ev_put]<;>rfl),?_⟩) fun s hs=>?_
 ·refine⟨(by repeat(first|assumption|exact H.Sub.refl (by assumption)|refine H.Sub.add ?_ _|refine H.Sub.set ?_ (by first|omega|(simp only[H.next_add,H.next_set,H.next_del]<;>omega)) (by first|omega|(simp only[H.next_add,H.next_set,H.next_del]<;>omega)) (by assumption) _)),Nat.le_refl _,by simp only[H.next_set,H.next_add,List.length_cons,List.length_nil];omega,fun i c hi=>?_⟩
  have hlt:=getl hi
  simp only[List.length_cons,List.length_nil] at hlt
  rcases(by omega:i=0∨i=1∨i=2) with rfl|rfl|rfl<;>(cases hi;simp -implicitDefEqProofs(maxSteps:=999999)(disch:=first|with_reducible rfl|omega|(simp only[nA,nS,nD]<;>omega)|fail)only[go_sem,i1,i2,Nat.add_zero])
 obtain⟨tm,z6,rfl,k,t8,t11,t12,cs⟩:=(hJ s).1 hs
 have tr_n:z5.next+3≤z6.next:=cs.2.2.1
 refine PB_cut (p:=checkA a=0) K ?_ ?_ ?_
 ·intro he
  have r:=checkA_iff.1 he
  rw[he] at cs
  obtain⟨hb1,hb2⟩:=wide_bds r (hbd r)
  have hb:=hbd r
  obtain⟨t1,t2,t3,t7,t9,t10,t13⟩:=k
  have g10:=cs.1.get g105
  have s06:=s05.trans cs.1
  obtain⟨A,hA⟩:∃A:V→V→V→Int→Int→Int × Int→List Int × List Int→St→Prop,∀yf y1 y2 U V' p LL' s,A yf y1 y2 U V' p LL' s↔∃tm z,s=⟨tm,z,[]⟩∧TmR h z3.next z5.next c e tm∧(Opd.t 14).ev tm=yf∧(Opd.t 11).ev tm=y1∧(Opd.t 12).ev tm=y2∧Cs z5.next z5 z [i1 U,i1 V',i2 p]∧TR (z5.next+3) z yf (fitT a)∧SlAt z y1 1 (LL'.1.map encI)∧SlAt z y2 1 (LL'.2.map encI)∧Up (z5.next+3) y1∧Up (z5.next+3) y2:=⟨_,fun _ _ _ _ _ _ _ _=>Iff.rfl⟩
  refine W_split (fun s=>∃yf,A yf .nils .nils 0 0 (0,0) ([],[]) s) ?_ ?_
  ·simp -implicitDefEqProofs(maxSteps:=999999)(disch:=first|with_reducible rfl|omega|(simp only[nA,nS,nD]<;>omega)|fail)only[go_sem,t8,cells_of g10,o2C,o2R,o2G]
   refine All_ev s06.wf (x3'.mono cs.1) r (by omega) (by omega) (by omega) _ fun yl z7 s7 tr=>?_
   simp -implicitDefEqProofs(maxSteps:=999999)(disch:=first|with_reducible rfl|omega|(simp only[nA,nS,nD]<;>omega)|fail)only[go_sem,t8,cells_of g10,cells_of (s7.get g10),o2C,o2R,o2G,tr.one]
   refine Fitting_ev (s06.trans s7).wf (x3'.mono (cs.1.trans s7)) r tr s7.next (by have:=allT_len a;omega) _ fun yf z8 s8 tf=>?_
   simp -implicitDefEqProofs(maxSteps:=999999)(disch:=first|with_reducible rfl|omega|(simp only[nA,nS,nD]<;>omega)|fail)only[go_sem,t8,cells_of g10,cells_of (s7.get g10),cells_of ((s7.trans s8).get g10),o2C,o2R,o2G,tr.one]
   exact⟨yf,(hA _ _ _ _ _ _ _ _).2 ⟨_,_,rfl,⟨(by simp[ev_c,ev_put,t1]<;>rfl),(by simp[ev_c,ev_put,t2]<;>rfl),(by simp[ev_c,ev_put,t3]<;>rfl),(by simp[ev_c,ev_put,t7]<;>rfl),(by simp[ev_c,ev_put,t9]<;>rfl),(by simp[ev_c,ev_put,t10]<;>rfl),(by simp[ev_c,ev_put,t13]<;>rfl)⟩,(by simp[ev_c,ev_put]<;>rfl),(by simp[ev_c,ev_put,t11]<;>rfl),(by simp[ev_c,ev_put,t12]<;>rfl),cs.mono (s7.trans s8),tf.low tr_n,sl_nil _,sl_nil _,Up.nils _,Up.nils _⟩⟩
  clear t1 t2 t3 t7 t9 t10 t13 t8 t11 t12 cs
  rintro s ⟨yf,hs⟩
  have hin:=fun u (hu:u∈fitT a)=>fitT_in r hu
  have lenF:(fitT a).length≤100000:=by have:=fitT_len a;omega
  refine W_split (A yf .nils .nils (erW a c) 0 (0,0) ([],[])) ?_ fun s hs=>?_
  ·obtain⟨tm,z,rfl,⟨t1,t2,t3,t7,t9,t10,t13⟩,t14,t11,t12,cs,tf,l11,l12,p11,p12⟩:=(hA _ _ _ _ _ _ _ _).1 hs
   have d0:z.get z5.next=_:=cs.2.2.2 0 _ rfl
   simp only[i1] at d0
   have gz:=cs.1.get ga5
   have csA:=cs.set hw5 (b:=z5.next) (i:=0) rfl (by simp) [.int .i64 1]
   have gA:=csA.1.get ga5
   have dA:(z.set z5.next (.cells .rw [.int .i64 1])).get z5.next=_:=csA.2.2.2 0 _ rfl
   by_cases h0:0≤c
   ·by_cases h1:c<(a.cks.length:Int)
    ·have e1:erW a c=0:=if_pos (ckB_iff.2 ⟨h0,h1⟩)
     simp -implicitDefEqProofs(maxSteps:=999999)(disch:=first|with_reducible rfl|omega|(simp only[nA,nS,nD]<;>omega)|fail)only[go_sem,t1,t3,t9,d0,dA,h0,h1,hlC,cells_of gz,cells_of gA]
     rw[e1]
     exact(hA _ _ _ _ _ _ _ _).2 ⟨_,_,rfl,⟨(by simp[ev_c,ev_put,t1]<;>rfl),(by simp[ev_c,ev_put,t2]<;>rfl),(by simp[ev_c,ev_put,t3]<;>rfl),(by simp[ev_c,ev_put,t7]<;>rfl),(by simp[ev_c,ev_put,t9]<;>rfl),(by simp[ev_c,ev_put,t10]<;>rfl),(by simp[ev_c,ev_put,t13]<;>rfl)⟩,(by simp[ev_c,ev_put,t14]<;>rfl),(by simp[ev_c,ev_put,t11]<;>rfl),(by simp[ev_c,ev_put,t12]<;>rfl),cs.set hw5 (b:=z5.next) (i:=0) rfl (by simp) [.int .i64 0],tf.keep (Keeps.set ..) fun b e=>by omega,slKeepU l11 p11 (Keeps.set ..) fun b e=>by omega,slKeepU l12 p12 (Keeps.set ..) fun b e=>by omega,p11,p12⟩
    ·have e1:erW a c=1:=if_neg (fun q=>h1 (ckB_iff.1 q).2)
     simp -implicitDefEqProofs(maxSteps:=999999)(disch:=first|with_reducible rfl|omega|(simp only[nA,nS,nD]<;>omega)|fail)only[go_sem,t1,t3,t9,d0,dA,h0,h1,hlC,cells_of gz,cells_of gA]
     rw[e1]
     exact(hA _ _ _ _ _ _ _ _).2 ⟨_,_,rfl,⟨(by simp[ev_c,ev_put,t1]<;>rfl),(by simp[ev_c,ev_put,t2]<;>rfl),(by simp[ev_c,ev_put,t3]<;>rfl),(by simp[ev_c,ev_put,t7]<;>rfl),(by simp[ev_c,ev_put,t9]<;>rfl),(by simp[ev_c,ev_put,t10]<;>rfl),(by simp[ev_c,ev_put,t13]<;>rfl)⟩,(by simp[ev_c,ev_put,t14]<;>rfl),(by simp[ev_c,ev_put,t11]<;>rfl),(by simp[ev_c,ev_put,t12]<;>rfl),csA,tf.keep (Keeps.set ..) fun b e=>by omega,slKeepU l11 p11 (Keeps.set ..) fun b e=>by omega,slKeepU l12 p12 (Keeps.set ..) fun b e=>by omega,p11,p12⟩
   ·have e1:erW a c=1:=if_neg (fun q=>h0 (ckB_iff.1 q).1)
    simp -implicitDefEqProofs(maxSteps:=999999)(disch:=first|with_reducible rfl|omega|(simp only[nA,nS,nD]<;>omega)|fail)only[go_sem,t1,t3,t9,d0,dA,h0,cells_of gz,cells_of gA]
    rw[e1]
    exact(hA _ _ _ _ _ _ _ _).2 ⟨_,_,rfl,⟨(by simp[ev_c,ev_put,t1]<;>rfl),(by simp[ev_c,ev_put,t2]<;>rfl),(by simp[ev_c,ev_put,t3]<;>rfl),(by simp[ev_c,ev_put,t7]<;>rfl),(by simp[ev_c,ev_put,t9]<;>rfl),(by simp[ev_c,ev_put,t10]<;>rfl),(by simp[ev_c,ev_put,t13]<;>rfl)⟩,(by simp[ev_c,ev_put,t14]<;>rfl),(by simp[ev_c,ev_put,t11]<;>rfl),(by simp[ev_c,ev_put,t12]<;>rfl),csA,tf.keep (Keeps.set ..) fun b e=>by omega,slKeepU l11 p11 (Keeps.set ..) fun b e=>by omega,slKeepU l12 p12 (Keeps.set ..) fun b e=>by omega,p11,p12⟩
  refine W_split (A yf .nils .nils (erW a c) (erS a c e) (0,0) ([],[])) ?_ fun s hs=>?_
  ·obtain⟨tm,z,rfl,⟨t1,t2,t3,t7,t9,t10,t13⟩,t14,t11,t12,cs,tf,l11,l12,p11,p12⟩:=(hA _ _ _ _ _ _ _ _).1 hs
   have d0:z.get z5.next=_:=cs.2.2.2 0 _ rfl
   have d1:z.get (z5.next+1)=_:=cs.2.2.2 1 _ rfl
   simp only[i1] at d0 d1
   have csA:=cs.set hw5 (b:=z5.next+1) (i:=1) rfl (by simp) [.int .i64 (erW a c)]
   have gA:=csA.1.get ga5
   have dA:(z.set (z5.next+1) (.cells .rw [.int .i64 (erW a c)])).get (z5.next+1)=_:=csA.2.2.2 1 _ rfl
   by_cases h0:e<0
   ·have e1:erS a c e=1:=if_neg (fun q=>by have:=(evB_iff.1 q.2).1;omega)
    simp -implicitDefEqProofs(maxSteps:=999999)(disch:=first|with_reducible rfl|omega|(simp only[nA,nS,nD]<;>omega)|fail)only[go_sem,t2,t3,t9,t10,d0,d1,dA,cells_of d0,h0,cells_of gA]
    rw[e1]
    exact(hA _ _ _ _ _ _ _ _).2 ⟨_,_,rfl,⟨(by simp[ev_c,ev_put,t1]<;>rfl),(by simp[ev_c,ev_put,t2]<;>rfl),(by simp[ev_c,ev_put,t3]<;>rfl),(by simp[ev_c,ev_put,t7]<;>rfl),(by simp[ev_c,ev_put,t9]<;>rfl),(by simp[ev_c,ev_put,t10]<;>rfl),(by simp[ev_c,ev_put,t13]<;>rfl)⟩,(by simp[ev_c,ev_put,t14]<;>rfl),(by simp[ev_c,ev_put,t11]<;>rfl),(by simp[ev_c,ev_put,t12]<;>rfl),cs.set hw5 (b:=z5.next+1) (i:=1) rfl (by simp) [.int .i64 1],tf.keep (Keeps.set ..) fun b e=>by omega,slKeepU l11 p11 (Keeps.set ..) fun b e=>by omega,slKeepU l12 p12 (Keeps.set ..) fun b e=>by omega,p11,p12⟩
   ·by_cases h1:a.evs≤e
    ·have e1:erS a c e=1:=if_neg (fun q=>by have:=(evB_iff.1 q.2).2;omega)
     simp -implicitDefEqProofs(maxSteps:=999999)(disch:=first|with_reducible rfl|omega|(simp only[nA,nS,nD]<;>omega)|fail)only[go_sem,t2,t3,t9,t10,d0,d1,dA,cells_of d0,h0,h1,cells_of gA]
     rw[e1]
     exact(hA _ _ _ _ _ _ _ _).2 ⟨_,_,rfl,⟨(by simp[ev_c,ev_put,t1]<;>rfl),(by simp[ev_c,ev_put,t2]<;>rfl),(by simp[ev_c,ev_put,t3]<;>rfl),(by simp[ev_c,ev_put,t7]<;>rfl),(by simp[ev_c,ev_put,t9]<;>rfl),(by simp[ev_c,ev_put,t10]<;>rfl),(by simp[ev_c,ev_put,t13]<;>rfl)⟩,(by simp[ev_c,ev_put,t14]<;>rfl),(by simp[ev_c,ev_put,t11]<;>rfl),(by simp[ev_c,ev_put,t12]<;>rfl),cs.set hw5 (b:=z5.next+1) (i:=1) rfl (by simp) [.int .i64 1],tf.keep (Keeps.set ..) fun b e=>by omega,slKeepU l11 p11 (Keeps.set ..) fun b e=>by omega,slKeepU l12 p12 (Keeps.set ..) fun b e=>by omega,p11,p12⟩
    ·have e1:erS a c e=erW a c:=by
      have:=evB_iff (a:=a) (n:=e)
      unfold erS erW
      by_cases hf:a.ckB c=true
      ·rw[if_pos hf,if_pos ⟨hf,evB_iff.2 (by omega)⟩]
      ·rw[if_neg hf,if_neg fun q=>hf q.1]
     simp -implicitDefEqProofs(maxSteps:=999999)(disch:=first|with_reducible rfl|omega|(simp only[nA,nS,nD]<;>omega)|fail)only[go_sem,t2,t3,t9,t10,d0,d1,dA,cells_of d0,h0,h1,cells_of gA]
     rw[e1]
     exact(hA _ _ _ _ _ _ _ _).2 ⟨_,_,rfl,⟨(by simp[ev_c,ev_put,t1]<;>rfl),(by simp[ev_c,ev_put,t2]<;>rfl),(by simp[ev_c,ev_put,t3]<;>rfl),(by simp[ev_c,ev_put,t7]<;>rfl),(by simp[ev_c,ev_put,t9]<;>rfl),(by simp[ev_c,ev_put,t10]<;>rfl),(by simp[ev_c,ev_put,t13]<;>rfl)⟩,(by simp[ev_c,ev_put,t14]<;>rfl),(by simp[ev_c,ev_put,t11]<;>rfl),(by simp[ev_c,ev_put,t12]<;>rfl),csA,tf.keep (Keeps.set ..) fun b e=>by omega,slKeepU l11 p11 (Keeps.set ..) fun b e=>by omega,slKeepU l12 p12 (Keeps.set ..) fun b e=>by omega,p11,p12⟩
  refine W_split (A yf .nils .nils (er7 a (erW a c)) (er7 a (erS a c e)) (0,0) ([],[])) ?_ fun s hs=>?_
  ·obtain⟨tm,z,rfl,⟨t1,t2,t3,t7,t9,t10,t13⟩,t14,t11,t12,cs,tf,l11,l12,p11,p12⟩:=(hA _ _ _ _ _ _ _ _).1 hs
   have hlF:=tf.lenE
   obtain⟨P,hP⟩:∃P:Nat→Int,(∀j,P j=if j=0 then erW a c else erS a c e):=⟨_,fun _=>rfl⟩
   obtain⟨G',hG⟩:∃G:Nat→Nat→Int,∀i j,G i j=if j<i then er7 a (P j) else P j:=⟨_,fun _ _=>rfl⟩
   have cs0:Cs z5.next z5 z [i1 (G' 0 0),i1 (G' 0 1),i2 (0,0)]:=by simp only[hG,hP];exact cs
   obtain⟨zp,hzp⟩:∃zp,z.add (.cells .rw [.ptr z5.next 0,.ptr (z5.next+1) 0])=zp:=⟨_,rfl⟩
   have sp:z.Sub zp:=by rw[←hzp];exact(H.Sub.refl cs.1.wf).add _
   have gp:zp.get z.next=some (.cells .rw [.ptr z5.next 0,.ptr (z5.next+1) 0]):=by rw[←hzp];exact get_add_new rfl
   have lz:=cs.2.2.1
   simp only[List.length_cons,List.length_nil] at lz
   simp -implicitDefEqProofs(maxSteps:=999999)(disch:=first|with_reducible rfl|omega|(simp only[nA,nS,nD]<;>omega)|fail)only[go_sem,t9,t10,t13,t14]
   try rw[hzp]
   clear hzp
   refine W_count 2 (fun i s=>∃tm z',s=⟨tm,z',[]⟩∧TmR h z3.next z5.next c e tm∧(Opd.t 14).ev tm=yf∧(Opd.t 11).ev tm=.nils∧(Opd.t 12).ev tm=.nils∧Cs z5.next z5 z' [i1 (G' i 0),i1 (G' i 1),i2 (0,0)]∧TR (z5.next+3) z' yf (fitT a)∧z'.get z.next=some (.cells .rw [.ptr z5.next 0,.ptr (z5.next+1) 0])∧
     (Opd.t 57).ev tm=.sl z.next 0 2 (.fix 2)∧(Opd.t 58).ev tm=.int .i64 2∧(Opd.t 59).ev tm=.int .i64 (i:Int)) ?_ ?_ (i:=0) (Nat.zero_le _)
    ⟨_,_,rfl,⟨(by simp[ev_c,ev_put,t1]<;>rfl),(by simp[ev_c,ev_put,t2]<;>rfl),(by simp[ev_c,ev_put,t3]<;>rfl),(by simp[ev_c,ev_put,t7]<;>rfl),(by simp[ev_c,ev_put,t9]<;>rfl),(by simp[ev_c,ev_put,t10]<;>rfl),(by simp[ev_c,ev_put,t13]<;>rfl)⟩,(by simp[ev_c,ev_put,t14]<;>rfl),(by simp[ev_c,ev_put,t11]<;>rfl),(by simp[ev_c,ev_put,t12]<;>rfl),cs0.mono sp,tf.mono sp,gp,(by simp[ev_c,ev_put]<;>rfl),(by simp[ev_c,ev_put]<;>rfl),(by simp[ev_c,ev_put]<;>rfl)⟩
   ·clear t1 t2 t3 t7 t9 t10 t13 t14 t11 t12 cs cs0 tf gp sp
    rintro i s hi ⟨tm,z',rfl,⟨t1,t2,t3,t7,t9,t10,t13⟩,t14,t11,t12,cs,tf,gp,t57,t58,t59⟩
    have hi':(i:Int)<2:=by omega
    have w81:wr .i64 ((i:Int)+1)=((i+1:Nat):Int):=by rw[wr_in (by omega) (by omega)];omega
    have gi:z'.get (z5.next+i)=some (.cells .rw [.int .i64 (P i)]):=by
     have:([i1 (G' i 0),i1 (G' i 1),i2 (0,0)]:List (List V))[i]? =some [.int .i64 (P i)]:=by
      rcases(by omega:i=0∨i=1) with rfl|rfl<;>simp[hG,i1]
     exact cs.2.2.2 i _ this
    have hx:SlAt z' (.sl z.next 0 2 (.fix 2)) 1 (([z5.next,z5.next+1]:List Nat).map fun b=>[V.ptr b 0]):=⟨by simp,by simp,.inr ⟨_,_,_,_,rfl,.inr (cells_of gp),getN_eq.2 ⟨by simp,by simp⟩⟩⟩
    obtain⟨bb,oo,kk,csx,_,hc,hq,_,_,hn⟩:=hx.at (k:=i) (by simpa using hi)
    have hn:=hn (by decide)
    have hnp:nth (oo+i*1) csx=some (.ptr (z5.next+i) 0):=by
     rw[hn]
     rcases(by omega:i=0∨i=1) with rfl|rfl<;>rfl
    have same:er7 a (P i)=P i→Cs z5.next z5 z' [i1 (G' (i+1) 0),i1 (G' (i+1) 1),i2 (0,0)]:=fun h0=>by
     have:=cs
     rcases(by omega:i=0∨i=1) with rfl|rfl<;>(simp only[hG] at this⊢;simp only[h0] at this⊢;exact this)
    by_cases h0:P i=0
    ·by_cases hne:allC a=[]
     ·have hF0:((fitT a).length:Int)=0:=by rw[(fitT_nil r).2 hne];rfl
      have e7:er7 a (P i)=7:=by unfold er7;rw[if_pos ⟨h0,hne⟩]
      have csN:Cs z5.next z5 (z'.set (z5.next+i) (.cells .rw [.int .i64 7])) [i1 (G' (i+1) 0),i1 (G' (i+1) 1),i2 (0,0)]:=by
       have:=cs.set hw5 (b:=z5.next+i) (i:=i) rfl (by simp;omega) [.int .i64 7]
       rcases(by omega:i=0∨i=1) with rfl|rfl<;>(simp only[hG,e7] at this⊢;exact this)
      simp -implicitDefEqProofs(maxSteps:=999999)(disch:=first|with_reducible rfl|omega|(simp only[nA,nS,nD]<;>omega)|fail)only[go_sem,t57,t58,t59,t14,hi',hq (nat_cst i),hc,hnp,cells_of gi,gi,h0,hlF,hF0,w81]
      exact⟨_,_,rfl,⟨(by simp[ev_c,ev_put,t1]<;>rfl),(by simp[ev_c,ev_put,t2]<;>rfl),(by simp[ev_c,ev_put,t3]<;>rfl),(by simp[ev_c,ev_put,t7]<;>rfl),(by simp[ev_c,ev_put,t9]<;>rfl),(by simp[ev_c,ev_put,t10]<;>rfl),(by simp[ev_c,ev_put,t13]<;>rfl)⟩,(by simp[ev_c,ev_put,t14]<;>rfl),(by simp[ev_c,ev_put,t11]<;>rfl),(by simp[ev_c,ev_put,t12]<;>rfl),csN,tf.keep (Keeps.set ..) fun b e=>by omega,by rw[get_set_other (by omega)];exact gp,(by simp[ev_c,ev_put,t57]<;>rfl),(by simp[ev_c,ev_put,t58]<;>rfl),(by simp[ev_c,ev_put]<;>rfl)⟩
     ·have e7:er7 a (P i)=P i:=by unfold er7;rw[if_neg (fun q=>hne q.2)]
      have hF0:¬((fitT a).length:Int)=0:=fun q=>fit_ne r hne (List.length_eq_zero_iff.1 (by omega))
      simp -implicitDefEqProofs(maxSteps:=999999)(disch:=first|with_reducible rfl|omega|(simp only[nA,nS,nD]<;>omega)|fail)only[go_sem,t57,t58,t59,t14,hi',hq (nat_cst i),hc,hnp,cells_of gi,h0,hlF,hF0,w81]
      exact⟨_,_,rfl,⟨(by simp[ev_c,ev_put,t1]<;>rfl),(by simp[ev_c,ev_put,t2]<;>rfl),(by simp[ev_c,ev_put,t3]<;>rfl),(by simp[ev_c,ev_put,t7]<;>rfl),(by simp[ev_c,ev_put,t9]<;>rfl),(by simp[ev_c,ev_put,t10]<;>rfl),(by simp[ev_c,ev_put,t13]<;>rfl)⟩,(by simp[ev_c,ev_put,t14]<;>rfl),(by simp[ev_c,ev_put,t11]<;>rfl),(by simp[ev_c,ev_put,t12]<;>rfl),same e7,tf,gp,(by simp[ev_c,ev_put,t57]<;>rfl),(by simp[ev_c,ev_put,t58]<;>rfl),(by simp[ev_c,ev_put]<;>rfl)⟩
    ·have e7:er7 a (P i)=P i:=by unfold er7;rw[if_neg (fun q=>h0 q.1)]
     simp -implicitDefEqProofs(maxSteps:=999999)(disch:=first|with_reducible rfl|omega|(simp only[nA,nS,nD]<;>omega)|fail)only[go_sem,t57,t58,t59,t14,hi',hq (nat_cst i),hc,hnp,cells_of gi,h0,w81]
     exact⟨_,_,rfl,⟨(by simp[ev_c,ev_put,t1]<;>rfl),(by simp[ev_c,ev_put,t2]<;>rfl),(by simp[ev_c,ev_put,t3]<;>rfl),(by simp[ev_c,ev_put,t7]<;>rfl),(by simp[ev_c,ev_put,t9]<;>rfl),(by simp[ev_c,ev_put,t10]<;>rfl),(by simp[ev_c,ev_put,t13]<;>rfl)⟩,(by simp[ev_c,ev_put,t14]<;>rfl),(by simp[ev_c,ev_put,t11]<;>rfl),(by simp[ev_c,ev_put,t12]<;>rfl),same e7,tf,gp,(by simp[ev_c,ev_put,t57]<;>rfl),(by simp[ev_c,ev_put,t58]<;>rfl),(by simp[ev_c,ev_put]<;>rfl)⟩
   ·clear t1 t2 t3 t7 t9 t10 t13 t14 t11 t12 cs cs0 tf gp sp
    rintro s ⟨tm,z',rfl,⟨t1,t2,t3,t7,t9,t10,t13⟩,t14,t11,t12,cs,tf,gp,t57,t58,t59⟩
    have hi':¬((2:Nat):Int)<2:=by omega
    simp -implicitDefEqProofs(maxSteps:=999999)(disch:=first|with_reducible rfl|omega|(simp only[nA,nS,nD]<;>omega)|fail)only[go_sem,t57,t58,t59,hi']
    exact(hA _ _ _ _ _ _ _ _).2 ⟨_,_,rfl,⟨(by simp[ev_c,ev_put,t1]<;>rfl),(by simp[ev_c,ev_put,t2]<;>rfl),(by simp[ev_c,ev_put,t3]<;>rfl),(by simp[ev_c,ev_put,t7]<;>rfl),(by simp[ev_c,ev_put,t9]<;>rfl),(by simp[ev_c,ev_put,t10]<;>rfl),(by simp[ev_c,ev_put,t13]<;>rfl)⟩,(by simp[ev_c,ev_put,t14]<;>rfl),(by simp[ev_c,ev_put,t11]<;>rfl),(by simp[ev_c,ev_put,t12]<;>rfl),by simp only[hG,hP] at cs;exact cs,tf,sl_nil _,sl_nil _,Up.nils _,Up.nils _⟩
  refine W_split (fun s=>∃y1 y2,A yf y1 y2 (er7 a (erW a c)) (er7 a (erS a c e)) (0,0) (setsF a c,setsG a c) s) ?_ ?_
  ·obtain⟨tm,z,rfl,⟨t1,t2,t3,t7,t9,t10,t13⟩,t14,t11,t12,cs,tf,l11,l12,p11,p12⟩:=(hA _ _ _ _ _ _ _ _).1 hs
   have d0:z.get z5.next=_:=cs.2.2.2 0 _ rfl
   simp only[i1] at d0
   have lz:=cs.2.2.1
   simp only[List.length_cons,List.length_nil] at lz
   unfold setsF setsG
   by_cases h0:er7 a (erW a c)=0
   ·rw[if_pos h0,if_pos h0]
    have hb:=ckB_iff.1 (erW_ok h0).1
    obtain⟨k,hk⟩:∃k:Nat,c=k:=⟨c.toNat,by omega⟩
    have hkt:c.toNat=k:=by omega
    rw[hkt]
    have t1':=t1
    rw[hk] at t1'
    simp -implicitDefEqProofs(maxSteps:=999999)(disch:=first|with_reducible rfl|omega|(simp only[nA,nS,nD]<;>omega)|fail)only[go_sem,t1',t9,t14,cells_of d0,h0]
    have z6z:z5.next+3≤z.next:=lz
    refine refRuns_ev cs.1.wf tf hin lenF (k:=k) (by omega) _ fun y1 y2 z8 s8 q1 q2 u1 u2=>?_
    have cs8:=cs.mono s8
    rw[h0] at cs8
    simp -implicitDefEqProofs(maxSteps:=999999)(disch:=first|with_reducible rfl|omega|(simp only[nA,nS,nD]<;>omega)|fail)only[go_sem,t1',t9,t14]
    exact⟨y1,y2,(hA _ _ _ _ _ _ _ _).2 ⟨_,_,rfl,⟨(by simp[ev_c,ev_put,t1]<;>rfl),(by simp[ev_c,ev_put,t2]<;>rfl),(by simp[ev_c,ev_put,t3]<;>rfl),(by simp[ev_c,ev_put,t7]<;>rfl),(by simp[ev_c,ev_put,t9]<;>rfl),(by simp[ev_c,ev_put,t10]<;>rfl),(by simp[ev_c,ev_put,t13]<;>rfl)⟩,(by simp[ev_c,ev_put,t14]<;>rfl),(by simp[ev_c,ev_put]<;>rfl),(by simp[ev_c,ev_put]<;>rfl),cs8,tf.mono s8,q1,q2,u1.low z6z,u2.low z6z⟩⟩
   ·rw[if_neg h0,if_neg h0]
    simp -implicitDefEqProofs(maxSteps:=999999)(disch:=first|with_reducible rfl|omega|(simp only[nA,nS,nD]<;>omega)|fail)only[go_sem,t1,t9,t14,cells_of d0,h0]
    exact⟨_,_,(hA _ _ _ _ _ _ _ _).2 ⟨_,_,rfl,⟨(by simp[ev_c,ev_put,t1]<;>rfl),(by simp[ev_c,ev_put,t2]<;>rfl),(by simp[ev_c,ev_put,t3]<;>rfl),(by simp[ev_c,ev_put,t7]<;>rfl),(by simp[ev_c,ev_put,t9]<;>rfl),(by simp[ev_c,ev_put,t10]<;>rfl),(by simp[ev_c,ev_put,t13]<;>rfl)⟩,(by simp[ev_c,ev_put,t14]<;>rfl),(by simp[ev_c,ev_put,t11]<;>rfl),(by simp[ev_c,ev_put,t12]<;>rfl),cs,tf,l11,l12,p11,p12⟩⟩
  rintro s ⟨y1,y2,hs⟩
  obtain⟨tm,z,rfl,⟨t1,t2,t3,t7,t9,t10,t13⟩,t14,t11,t12,cs,tf,l11,l12,p11,p12⟩:=(hA _ _ _ _ _ _ _ _).1 hs
  have d0:z.get (z5.next+1)=_:=cs.2.2.2 1 _ rfl
  have d3:z.get (z5.next+2)=_:=cs.2.2.2 2 _ rfl
  simp only[i1,i2] at d0 d3
  obtain⟨q1,q2⟩:=setsR_r r c
  have e2:(shoR a c e).2=er7 a (erS a c e):=by rw[shoR_r r]
  by_cases h0:er7 a (erS a c e)=0
  ·have ew:(shoR a c e).1=wideL ((fitT a).map fun t=>shw (t.1.getD c.toNat 0) (t.2.1.getD c.toNat 0) (timeF t.2.2 e.toNat)):=by rw[shoR_r r,if_pos h0]
   obtain⟨⟨hb,hc⟩,_⟩:=erS_ok h0
   have hf:=ckB_iff.1 hb
   have ht:=evB_iff.1 hc
   obtain⟨k,hk⟩:∃k:Nat,c=k:=⟨c.toNat,by omega⟩
   obtain⟨j,hj⟩:∃j:Nat,e=j:=⟨e.toNat,by omega⟩
   have hkt:c.toNat=k:=by omega
   have hjt:e.toNat=j:=by omega
   have t1':=t1
   have t2':=t2
   rw[hk] at t1'
   rw[hj] at t2'
   simp -implicitDefEqProofs(maxSteps:=999999)(disch:=first|with_reducible rfl|omega|(simp only[nA,nS,nD]<;>omega)|fail)only[go_sem,t1',t2',t10,t13,t14,cells_of d0,h0]
   refine refShows_ev cs.1.wf tf hin lenF (f:=j) (k:=k) (by omega) (by omega) _ fun z8 s8=>?_
   have cs8:=cs.mono s8
   simp -implicitDefEqProofs(maxSteps:=999999)(disch:=first|with_reducible rfl|omega|(simp only[nA,nS,nD]<;>omega)|fail)only[go_sem,t1',t2',t10,t13,t14,s8.get d3]
   refine⟨rfl,(hK _).2 ⟨_,_,y1,y2,rfl,⟨(by simp[ev_c,ev_put,t1]<;>rfl),(by simp[ev_c,ev_put,t2]<;>rfl),(by simp[ev_c,ev_put,t3]<;>rfl),(by simp[ev_c,ev_put,t7]<;>rfl),(by simp[ev_c,ev_put,t9]<;>rfl),(by simp[ev_c,ev_put,t10]<;>rfl),(by simp[ev_c,ev_put,t13]<;>rfl)⟩,(by simp[ev_c,ev_put,t11]<;>rfl),(by simp[ev_c,ev_put,t12]<;>rfl),?_,?_,?_⟩⟩
   ·rw[q1];exact slKeepU (l11.mono s8) p11 (Keeps.set ..) fun b e=>by omega
   ·rw[q2];exact slKeepU (l12.mono s8) p12 (Keeps.set ..) fun b e=>by omega
   ·rw[e2,errT_ck r,ew,hkt,hjt]
    exact cs8.set hw5 (b:=z5.next+2) (i:=2) rfl (by simp) (i2 _)
  ·have ew:(shoR a c e).1=(0,0):=by rw[shoR_r r,if_neg h0]
   simp -implicitDefEqProofs(maxSteps:=999999)(disch:=first|with_reducible rfl|omega|(simp only[nA,nS,nD]<;>omega)|fail)only[go_sem,t1,t2,t10,t13,t14,cells_of d0,h0]
   exact⟨rfl,(hK _).2 ⟨_,_,y1,y2,rfl,⟨(by simp[ev_c,ev_put,t1]<;>rfl),(by simp[ev_c,ev_put,t2]<;>rfl),(by simp[ev_c,ev_put,t3]<;>rfl),(by simp[ev_c,ev_put,t7]<;>rfl),(by simp[ev_c,ev_put,t9]<;>rfl),(by simp[ev_c,ev_put,t10]<;>rfl),(by simp[ev_c,ev_put,t13]<;>rfl)⟩,(by simp[ev_c,ev_put,t11]<;>rfl),(by simp[ev_c,ev_put,t12]<;>rfl),by rw[q1];exact l11,by rw[q2];exact l12,by rw[e2,errT_ck r,ew];exact cs⟩⟩
 ·intro he
  have n1:∀of,setsR a c of=[]:=fun of=>by unfold setsR;rw[errT_no he,if_pos he]
  have n2:shoR a c e=((0,0),checkA a):=by unfold shoR;rw[errT_no he,if_pos he]
  simp -implicitDefEqProofs(maxSteps:=999999)(disch:=first|with_reducible rfl|omega|(simp only[nA,nS,nD]<;>omega)|fail)only[go_sem]
  refine⟨rfl,(hK _).2 ⟨_,_,_,_,rfl,k,t11,t12,by rw[n1];exact sl_nil _,by rw[n1];exact sl_nil _,by rw[n2,errT_no he];exact cs⟩⟩
 ·rintro s hs
  obtain⟨tm,z7,y1,y2,rfl,⟨t1,t2,t3,t7,t9,t10,t13⟩,t11,t12,l11,l12,cs⟩:=(hK s).1 hs
  have d0:z7.get z5.next=_:=cs.2.2.2 0 _ rfl
  have d1:=cs.2.2.2 1 _ rfl
  have d2:=cs.2.2.2 2 _ rfl
  simp only[i1,i2] at d0 d1 d2
  have g9:=cs.1.get g95
  have ga7:=cs.1.get ga5
  have s07:=s05.trans cs.1
  have x7:=x1'.mono cs.1
  simp -implicitDefEqProofs(maxSteps:=999999)(disch:=first|with_reducible rfl|omega|(simp only[nA,nS,nD]<;>omega)|fail)only[go_sem,t1,t2,t3,t7,cells_of g9,o1C,o1R,o1G]
  refine Sets_ev s07.wf x7 c _ fun w1 z8 s8 k1=>?_
  simp -implicitDefEqProofs(maxSteps:=999999)(disch:=first|with_reducible rfl|omega|(simp only[nA,nS,nD]<;>omega)|fail)only[go_sem,t1,t2,t3,t7,cells_of (s8.get g9),o1C,o1R,o1G]
  refine Gains_ev (s07.trans s8).wf (x7.mono s8) c _ fun w2 z9 s9 k2=>?_
  have s79:=s8.trans s9
  simp -implicitDefEqProofs(maxSteps:=999999)(disch:=first|with_reducible rfl|omega|(simp only[nA,nS,nD]<;>omega)|fail)only[go_sem,t1,t2,t3,t7,cells_of (s79.get g9),o1C,o1R,o1G]
  refine Shows_ev (s07.trans s79).wf (x7.mono s79) c e _ fun z10 s10=>?_
  have s7a:=s79.trans s10
  obtain⟨z11,hz11⟩:∃z11,z10.add (.cells .rw [.int .i64 (shoR a c e).1.1,.int .i64 (shoR a c e).1.2])=z11:=⟨_,rfl⟩
  have s11:z10.Sub z11:=by rw[←hz11];exact(H.Sub.refl s10.wf).add _
  have g21:z11.get z10.next=some (.cells .rw [.int .i64 (shoR a c e).1.1,.int .i64 (shoR a c e).1.2]):=by rw[←hz11];exact get_add_new rfl
  have s7b:=s7a.trans s11
  have q1:=fun R=>eqInt_ev (k1.mono (s9.trans (s10.trans s11))) (l11.mono s7b) R
  have q2:=fun R=>eqInt_ev (k2.mono (s10.trans s11)) (l12.mono s7b) R
  simp -implicitDefEqProofs(maxSteps:=999999)(disch:=first|with_reducible rfl|omega|(simp only[nA,nS,nD]<;>omega)|fail)only[go_sem,t1,t2,t3,t7,t9,t10,t11,t12,t13,hz11,feq_same,cells_of (s7b.get g9),cells_of (s7b.get ga7),cells_of (s7b.get d0),cells_of (s7b.get d1),cells_of (s7b.get d2),cells_of g21,q1,q2,o1C,o1R,o1G,oC,oR,oG]
  try rw[hz11]
  refine same_ev (s07.trans s7b).wf (x7.mono s7b) (xa.mono (cs.1.trans s7b)) _ fun zX sX=>?_
  rw[sameB_iff.2 rfl]
  simp -implicitDefEqProofs(maxSteps:=999999)(disch:=first|with_reducible rfl|omega|(simp only[nA,nS,nD]<;>omega)|fail)only[go_sem,awake_eq]
  exact q _ _ rfl
end Go.Ab.Tryz
