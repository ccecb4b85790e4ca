import Derived.Test.YtglaieeholjhgaaGreatG2
import Derived.Test.YtglaieeholjhgaaGreatAc7
set_option linter.unusedSimpArgs false
set_option linter.unusedVariables false
theorem yba {p:Prop}(h:p:=by repeat(first|assumption|exact H.Sub.refl (by assumption)|refine H.Sub.add ?_ _|refine H.Sub.set ?_ (by first|omega|(simp only[H.next_add,H.next_set,H.next_del]<;>omega)) (by first|omega|(simp only[H.next_add,H.next_set,H.next_del]<;>omega)) (by assumption) _)):p:=h
theorem ybb {p:Prop}(h:p:=by simp[Zm,Zd]<;>rfl):p:=h
theorem ybc {p:Prop}(h:p:=by omega):p:=h
theorem ybd {p:Prop}(h:p:=by simp[Zm,Zd,t5]<;>rfl):p:=h
theorem ybe {p:Prop}(h:p:=by simp[Zm,Zd,t3]<;>rfl):p:=h
theorem ybf {p:Prop}(h:p:=by simp[Zm,Zd,t6]<;>rfl):p:=h
theorem ybg {p:Prop}(h:p:=by simp[Zm,Zd,t1]<;>rfl):p:=h
theorem ybh {p:Prop}(h:p:=by simp[Zm,Zd,t4]<;>rfl):p:=h
theorem ybi {p:Prop}(h:p:=by simp[Zm,Zd,t7]<;>rfl):p:=h
theorem ybj {p:Prop}(h:p:=by decide):p:=h
theorem ybk {p:Prop}(h:p:=by simp[Ys,ZE]):p:=h
theorem ybl {p:Prop}(h:p:=by simp[Zm,Zd,e1]<;>rfl):p:=h
theorem ybm {p:Prop}(h:p:=by rw[List.length_map];omega):p:=h
theorem ybn {p:Prop}(h:p:=by simpa using hy.1 _ (List.mem_map_of_mem (List.getElem_mem hi2))):p:=h
theorem ybo {p:Prop}(h:p:=by simpa using hx.1 _ (List.mem_map_of_mem (List.getElem_mem hi))):p:=h
theorem ybp {p:Prop}(h:p:=by simp):p:=h
theorem ybq {p:Prop}(h:p:=by simp[Zm,Zd,t2]<;>rfl):p:=h
theorem ybr {p:Prop}(h:p:=by rw[hA];exact YM.none (s.set (by omega) l hw (.bk [.ii 0,.ii 0,.nils,.nils,.nils]))):p:=h
theorem ybs {p:Prop}(h:p:=by simp only[Zd, ↓reduceIte,Nat.reduceEqDiff,hl]):p:=h
theorem ybt {p:Prop}(h:p:=by simp[Zm,Zd,e0]<;>rfl):p:=h
theorem ybu {p:Prop}(h:p:=by simp[Zm,Zd,e2]<;>rfl):p:=h
theorem ybv {p:Prop}(h:p:=by simp[Zm,Zd,e3]<;>rfl):p:=h
theorem ybw {p:Prop}(h:p:=by simp[Zm,Zd,t8]<;>rfl):p:=h
theorem ybx {p:Prop}(h:p:=by simp only[Zd];rfl):p:=h
theorem yby {p:Prop}(h:p:=by simp[Zm,Zd,e12]<;>rfl):p:=h
namespace Go.Ab
namespace Tryz
end Tryz
end Go.Ab
namespace Go.Ab
theorem Zh.new {S:Nat→Prop}{h h':H}(hw:h.wf)(k:Zh (fun c=>S c∨h.next≤c) h h'):Zh S h h':=⟨k.1,fun c y e n=>k.2 c y e fun hs=>hs.elim n fun hge=>by have:=hw c y e;omega⟩
structure Sl6 (h0 z:H)(n1:Nat)(v:Nat→V)(sz:Nat→Nat)(rows:Nat→List (List V)):Prop where
 o:∀i,i<6→ZW h0 z (v i) (sz i) (rows i)
 lo:∀i,i<6→∀b,Zq (v i) b→n1≤b
 dj:∀i j,i<6→j<6→i≠j→∀b,Zq (v i) b→¬Zq (v j) b
variable {h0 z z':H} {n1:Nat} {v:Nat→V} {sz:Nat→Nat} {rows:Nat→List (List V)}
theorem Sl6.keep (k:Sl6 h0 z n1 v sz rows){S:Nat→Prop}(kk:Zh S z z')(s:h0.Sub z')(hS:∀b,S b→b<n1):Sl6 h0 z' n1 v sz rows:=
 ⟨fun i hi=>(k.o i hi).keep kk s fun b hb q=>by have:=k.lo i hi b hb;have:=hS b q;omega,k.lo,k.dj⟩
theorem Sl6.rw (k:Sl6 h0 z n1 v sz rows){rows':Nat→List (List V)}(e:∀i,i<6→rows i=rows' i):Sl6 h0 z n1 v sz rows':=⟨fun i hi=>by rw[←e i hi];exact k.o i hi,k.lo,k.dj⟩
theorem Sl6.mono (k:Sl6 h0 z n1 v sz rows)(s:z.Sub z'):Sl6 h0 z' n1 v sz rows:=⟨fun i hi=>(k.o i hi).mono s,k.lo,k.dj⟩
def Ys {α:Type}(f:Nat→α)(i:Nat)(x:α)(j:Nat):α:=if j=i then x else f j
theorem VE {α:Type}(f:Nat→α)(i:Nat)(x:α):Ys f i x i=x:=if_pos rfl
theorem XV {α:Type}(f:Nat→α){i j:Nat}(x:α)(h:j≠i):Ys f i x j=f j:=if_neg h
theorem Sl6.app (k:Sl6 h0 z n1 v sz rows){i:Nat}(hi:i<6){w:V}{r:List V}(o:ZW h0 z' w (sz i) (rows i++[r]))(n:∀b,Zq w b→Zq (v i) b∨z.next≤b)(hz:n1≤z.next)(kk:Zh (Zq (v i)) z z'):
  Sl6 h0 z' n1 (Ys v i w) sz (Ys rows i (rows i++[r])):=by
 refine⟨fun j hj=>?_,fun j hj b hb=>?_,fun j l hj hl hjl b hb=>?_⟩
 ·by_cases e:j=i
  ·subst e;rw[VE,VE];exact o
  ·rw[XV _ _ e,XV _ _ e]
   exact(k.o j hj).keep kk o.1 fun b hb=>k.dj j i hj hi e b hb
 ·by_cases e:j=i
  ·subst e;rw[VE] at hb
   exact(n b hb).elim (k.lo j hi b) fun q=>by omega
  ·rw[XV _ _ e] at hb;exact k.lo j hj b hb
 ·by_cases e:j=i
  ·subst e
   rw[VE] at hb;rw[XV _ _ (Ne.symm hjl)]
   exact(n b hb).elim (k.dj j l hi hl hjl b) fun q w=>by have:=((k.o l hl).blk w).2.1;omega
  ·rw[XV _ _ e] at hb
   by_cases e2:l=i
   ·subst e2;rw[VE]
    intro w
    exact(n b w).elim (k.dj j l hj hi e b hb) fun q=>by have:=((k.o j hj).blk hb).2.1;omega
   ·rw[XV _ _ e2];exact k.dj j l hj hl hjl b hb
end Go.Ab
namespace Go.Ab.Tryz
open Go.Proofs
end Go.Ab.Tryz
namespace Go.Ab.Tryz
open Go.Proofs
def sz6:Nat→Nat
 |0=>4
 |1=>3
 |2=>4
 |_=>1
def ZE (a:At)(ss gg tt:List Int):Nat→List (List V)
 |0=>a.cks.map Z9
 |1=>a.rds.map encR
 |2=>a.gps.map ZF
 |3=>ss.map encI
 |4=>gg.map encI
 |5=>tt.map encI
 |_=>[]
variable {h0:H} {p:Nat} {x:V} {n1 c0:Nat} {a a':At} {ss gg tt ss' gg' tt':List Int} {T T':Int} {v v':Nat→V} {z z5:H}
theorem Vf {α:Type}{l:List α}{i:Nat}{x:α}(h:l[i]? =some x):i<l.length:=by
 rcases Nat.lt_or_ge i l.length with q|q
 ·exact q
 ·rw[List.getElem?_eq_none q] at h;cases h
def Zr (tt:List Int)(e:Nat):Int:=tt.getD e 0
theorem XG {tt:List Int}{e:Nat}{t:Int}(h:tt[e]? =some t):Zr tt e=t:=by unfold Zr;rw[List.getD_eq_getElem?_getD,h];rfl
end Go.Ab.Tryz
namespace Go.Ab.Tryz
open Go.Proofs
theorem rowsUp {a a':At}{ss gg tt ss' gg' tt':List Int}{j:Nat}{r:List V}(h0:Ys (ZE a ss gg tt) j (ZE a ss gg tt j++[r]) 0=a'.cks.map Z9)(h1:Ys (ZE a ss gg tt) j (ZE a ss gg tt j++[r]) 1=a'.rds.map encR)(h2:Ys (ZE a ss gg tt) j (ZE a ss gg tt j++[r]) 2=a'.gps.map ZF)
  (h3:Ys (ZE a ss gg tt) j (ZE a ss gg tt j++[r]) 3=ss'.map encI) (h4:Ys (ZE a ss gg tt) j (ZE a ss gg tt j++[r]) 4=gg'.map encI) (h5:Ys (ZE a ss gg tt) j (ZE a ss gg tt j++[r]) 5=tt'.map encI):∀i,i<6→Ys (ZE a ss gg tt) j (ZE a ss gg tt j++[r]) i=ZE a' ss' gg' tt' i:=fun i hi=>by
 rcases(by omega:i=0∨i=1∨i=2∨i=3∨i=4∨i=5) with rfl|rfl|rfl|rfl|rfl|rfl
 ·exact h0
 ·exact h1
 ·exact h2
 ·exact h3
 ·exact h4
 ·exact h5
theorem rows0 {a:At}{ss gg tt:List Int}{c:Ck}:∀i,i<6→Ys (ZE a ss gg tt) 0 (ZE a ss gg tt 0++[Z9 c]) i=ZE {a with cks:=a.cks++[c]} ss gg tt i:=rowsUp ybk ybk ybk ybk ybk ybk
theorem rows1 {a:At}{ss gg tt:List Int}{c:Rd}:∀i,i<6→Ys (ZE a ss gg tt) 1 (ZE a ss gg tt 1++[encR c]) i=ZE {a with rds:=a.rds++[c]} ss gg tt i:=rowsUp ybk ybk ybk ybk ybk ybk
theorem rows2 {a:At}{ss gg tt:List Int}{c:Gp}:∀i,i<6→Ys (ZE a ss gg tt) 2 (ZE a ss gg tt 2++[ZF c]) i=ZE {a with gps:=a.gps++[c]} ss gg tt i:=rowsUp ybk ybk ybk ybk ybk ybk
end Go.Ab.Tryz
namespace Go.Ab.Tryz
open Go.Proofs
theorem low_le {L:List Int}(hL:L.length=25){a b:Nat}(ha:a<5)(hb:b<5)(v:Int){x y:Nat}(hx:x<5)(hy:y<5):mg (low L a b v) x y≤mg L x y:=by
 rw[mg_low hL ha hb v x y hx hy]
 split
 ·rename_i e;obtain⟨rfl,rfl⟩:=e;omega
 ·exact Int.le_refl _
theorem rdL_le {L:List Int}(hL:L.length=25){e:Nat}(he:e<5)(s:Int × Int){x y:Nat}(hx:x<5)(hy:y<5):mg (rdL L e s) x y≤mg L x y:=
 Int.le_trans (low_le (by rw[YQ];exact hL) he ybj _ hx hy) (low_le hL ybj he _ hx hy)
theorem readsL_le {a:At}(r:Zl a){cnt:Nat→Bool}{k:Int}{x:Int × Int}{u v:Nat}(hu:u<5)(hv:v<5):∀{l:List Rd} {i:Nat} {L:List Int},(∀r∈l,r∈a.rds)→L.length=25→mg (YG a cnt k x l i L).1 u v≤mg L u v
 |[],_,_,_,_=>Int.le_refl _
 |rd::l,i,L,hl,hL=>by
  obtain⟨yk,ye,ek,ee,hyk,hye,_⟩:=r.rd (hl rd (List.mem_cons_self ..))
  have hl':=fun x hx=>hl x (List.mem_cons_of_mem _ hx)
  rw[YG]
  split
  ·exact readsL_le r hu hv hl' hL
  ·split
   ·exact Int.le_refl _
   ·exact Int.le_trans (readsL_le r hu hv hl' (by rw[rdL,YQ,YQ];exact hL)) (rdL_le hL ybc _ hu hv)
theorem readL_le {a:At}(r:Zl a){cnt:Nat→Bool}{k:Int}{x:Int × Int}{L:List Int}(hL:In5 240 L)(ht:(Yp a cnt k x L).2=true){u v:Nat}(hu:u<5)(hv:v<5):mg (Yp a cnt k x L).1 u v≤mg L u v:=by
 have hin:=WH (cnt:=cnt) (k:=k) (x:=x) (i:=0) r (fun y (hy:y∈a.rds)=>hy) hL
 unfold Yp at ht⊢
 by_cases h1:(YG a cnt k x a.rds 0 L).2=true
 ·rw[if_pos h1] at ht⊢
  exact Int.le_trans (((XB ybj ybj hin).1 ht).2.2.1 u v hu hv) (readsL_le r hu hv (fun r hr=>hr) hL.len)
 ·rw[if_neg h1] at ht;cases ht
theorem moreL_le {a:At}(r:Zl a){cnt:Nat→Bool}{u v:Nat}(hu:u<5)(hv:v<5):∀{n:Nat} {runs:ZZ} {L:List Int},In5 240 L→∀t∈YH a cnt n runs L,mg t.2 u v≤mg L u v
 |0,runs,L,h,t,ht=>by rw[YH,List.mem_singleton] at ht;rw[ht];exact Int.le_refl _
 |n+1,runs,L,h,t,ht=>by
  unfold YH at ht
  cases hc:a.cks[runs.length]? with
  |none=>rw[hc] at ht;cases ht
  |some c=>
   rw[hc] at ht
   simp only[List.mem_flatMap] at ht
   obtain⟨i,_,j,_,ht⟩:=ht
   split at ht
   ·rename_i hk;exact Int.le_trans (moreL_le r hu hv (readL_in r h hk) t ht) (readL_le r h hk hu hv)
   ·cases ht
theorem gaps_le {a:At}(r:Zl a){u v:Nat}(hu:u<5)(hv:v<5):∀{l:List Gp} {L:List Int},(∀g∈l,g∈a.gps)→L.length=25→mg (l.foldl gapL L) u v≤mg L u v
 |[],_,_,_=>Int.le_refl _
 |g::l,L,hl,hL=>by
  obtain⟨f,t,e1,e2,hf,ht,_⟩:=r.gap (hl g (List.mem_cons_self ..))
  rw[List.foldl_cons]
  refine Int.le_trans (gaps_le r hu hv (fun x hx=>hl x (List.mem_cons_of_mem _ hx)) (by rw[gapL,YQ,YQ];exact hL)) ?_
  rw[gapL,e1,e2,Int.toNat_natCast,Int.toNat_natCast]
  exact Int.le_trans (low_le (by rw[YQ];exact hL) ybc ybc _ hu hv) (low_le hL ybc ybc _ hu hv)
theorem cases_diag {a:At}(r:Zl a){cnt:Nat→Bool}{t:ZZ × List Int}(ht:t∈Zw a cnt){u:Nat}(hu:u<5):mg t.2 u u=0:=by
 have hd:=(Yn r ht).1.diag u hu
 unfold Zw at ht
 split at ht
 ·rename_i hc
  have h1:=moreL_le r hu hu (Ui r hc) t ht
  have h2:=((XB ybj ybj (W1 r)).1 hc).2.2.1 u u hu hu
  have h3:mg (Xy a) u u≤mg (bsL a.mins) u u:=gaps_le r hu hu (fun g hg=>hg) (Xd _ _ _)
  rw[mg_bs _ hu hu,if_pos (.inr rfl)] at h3
  omega
 ·cases ht
abbrev allM (a:At):List (List Int):=(ZR a).map Prod.snd
theorem errT_ok {a:At}(r:Zl a)(hne:ZR a≠[]):ZO a false=0:=by
 unfold ZO;rw[if_neg (by rw[Zz.2 r];simp),if_neg ybp,if_neg hne]
theorem wage_eq {n pay:Int}(hp:0≤pay):VC n pay=max 0 n*pay/60:=Int.tdiv_eq_ediv_of_nonneg (Int.mul_nonneg ybc hp)
theorem wage_mono {n m pay:Int}(hp:0≤pay)(h:n≤m):VC n pay≤VC m pay:=by
 rw[wage_eq hp,wage_eq hp]
 exact Int.ediv_le_ediv ybj (Int.mul_le_mul_of_nonneg_right ybc hp)
end Go.Ab.Tryz
namespace Go.Ab.Tryz
open Go.Proofs
theorem Wm {α:Type}{enc:α→List V}(h:∀a,ZB (enc a)=true)(l:List α):ZB (l.map enc).flatten=true:=by
 rw[XD]
 intro v hv
 obtain⟨r,hr,hvr⟩:=List.mem_flatten.1 hv
 obtain⟨a,_,rfl⟩:=List.mem_map.1 hr
 exact XD.1 (h a) v hvr
theorem Zg.full {h:H}{b n:Nat}{k:Kd}{c:Cap}{sz:Nat}{rows:List (List V)}(hn:n=rows.length)(hb:h.get b=some (.cells k rows.flatten))(hsz:∀r∈rows,r.length=sz)(hl:rows.length≤1000000):Zg h (.sl b 0 n c) sz rows:=by
 subst hn
 refine⟨hsz,by omega,.inr ⟨b,0,c,_,rfl,.inr (Za hb),ZU.2 ⟨?_,?_⟩⟩⟩
 ·rw[List.drop_zero,←ZA hsz,List.take_length]
 ·rw[ZA hsz];omega
theorem equalClock_ev {l r:List (List Int)}{h:H}{x y:V}(hx:Zg h x 4 (l.map (List.map iv)))(hy:Zg h y 4 (r.map (List.map iv))):
  Ev fnG Zi (.fn 145 [] []) [x,y] h fun v h'=>v=.bool (decide (l=r))∧h'=h:=by
 have hb:=hx.boundE
 refine Ze (fd:=c145) rfl rfl rfl ?_
 by_cases hl:l.length=r.length
 ·have hl':(l.length:Int)=(r.length:Int):=by omega
  simp(disch:=omega)only[c145,go_sem,hx.lenE,hy.lenE,hl',ne_eq,not_true_eq_false]
  refine Zk l.length (fun i s=>∃tm,s=⟨tm,h,[]⟩∧tm.E 0=x∧tm.E 1=y∧tm.E 12=.ii (l.length:Int)∧tm.E 13=.ii (i:Int)∧l.take i=r.take i)
   ?_ ?_ (i:=0) (Nat.zero_le _) ⟨_,rfl,ybb,ybb,ybs,ybx,rfl⟩
  ·rintro i s hi ⟨tm,rfl,e0,e1,e12,e13,e9⟩
   have hi':(i:Int)<(l.length:Int):=by omega
   have hi2:i<r.length:=by omega
   obtain⟨b,o,c,cs,rfl,hc,hq,hg,hn,hn0⟩:=hx.at hi
   obtain⟨b2,o2,c2,cs2,rfl,hc2,hq2,hg2,hn2,hn02⟩:=hy.at hi2
   have h1:(l[i]=r[i])↔l.take (i+1)=r.take (i+1):=by
    rw[List.take_succ_eq_append_getElem hi,List.take_succ_eq_append_getElem hi2,e9];simp only[List.append_cancel_left_eq,List.cons.injEq,and_true]
   have hf:=X2 l[i] r[i] (n:=4) ybo ybn true
   by_cases he:l[i]=r[i]
   ·rw[he] at hf
    simp(disch:=omega)only[go_sem,e0,e1,e12,e13,hi',hq (Zb i),hq2 (Zb i),hc,hc2,hg,hg2,hf,he,ngB,Zj]
    exact⟨_,rfl,ybt,ybl,yby,ybb,h1.1 he⟩
   ·simp(disch:=omega)only[go_sem,e0,e1,e12,e13,hi',hq (Zb i),hq2 (Zb i),hc,hc2,hg,hg2,hf,he,ngB,Zj]
    rw[decide_eq_false]
    intro e;exact he (h1.2 (by rw[e]))
  ·rintro s ⟨tm,rfl,e0,e1,e12,e13,e9⟩
   simp(disch:=omega)only[go_sem,e0,e1,e12,e13,Int.lt_irrefl]
   rw[decide_eq_true]
   rw[List.take_length,hl,List.take_length] at e9;exact e9
 ·have hl':¬(l.length:Int)=(r.length:Int):=by omega
  simp(disch:=omega)only[c145,go_sem,hx.lenE,hy.lenE,hl',ne_eq,not_false_eq_true]
  rw[decide_eq_false]
  intro e;exact hl (by rw[e])
theorem eqClock_ev {l r:List (List Int)}{h:H}{x y:V}(hx:Zg h x 4 (l.map (List.map iv)))(hy:Zg h y 4 (r.map (List.map iv)))(Q:V→H→Prop):
  Ev fnG Zi (.fn 101 [] []) [x,y] h Q=Q (.bool (decide (l=r))) h:=by
 refine Ev.det (Ze (fd:=c101) rfl rfl rfl ?_) Q
 simp(disch:=omega)only[c101,go_sem]
 refine(equalClock_ev hx hy).mono fun v h' hv=>?_
 obtain⟨rfl,rfl⟩:=hv
 simp(disch:=omega)only[go_sem]
theorem equalReading_ev {l r:List (List Int)}{h:H}{x y:V}(hx:Zg h x 3 (l.map (List.map iv)))(hy:Zg h y 3 (r.map (List.map iv))):
  Ev fnG Zi (.fn 146 [] []) [x,y] h fun v h'=>v=.bool (decide (l=r))∧h'=h:=by
 have hb:=hx.boundE
 refine Ze (fd:=c146) rfl rfl rfl ?_
 by_cases hl:l.length=r.length
 ·have hl':(l.length:Int)=(r.length:Int):=by omega
  simp(disch:=omega)only[c146,go_sem,hx.lenE,hy.lenE,hl',ne_eq,not_true_eq_false]
  refine Zk l.length (fun i s=>∃tm,s=⟨tm,h,[]⟩∧tm.E 0=x∧tm.E 1=y∧tm.E 12=.ii (l.length:Int)∧tm.E 13=.ii (i:Int)∧l.take i=r.take i)
   ?_ ?_ (i:=0) (Nat.zero_le _) ⟨_,rfl,ybb,ybb,ybs,ybx,rfl⟩
  ·rintro i s hi ⟨tm,rfl,e0,e1,e12,e13,e9⟩
   have hi':(i:Int)<(l.length:Int):=by omega
   have hi2:i<r.length:=by omega
   obtain⟨b,o,c,cs,rfl,hc,hq,hg,hn,hn0⟩:=hx.at hi
   obtain⟨b2,o2,c2,cs2,rfl,hc2,hq2,hg2,hn2,hn02⟩:=hy.at hi2
   have h1:(l[i]=r[i])↔l.take (i+1)=r.take (i+1):=by
    rw[List.take_succ_eq_append_getElem hi,List.take_succ_eq_append_getElem hi2,e9];simp only[List.append_cancel_left_eq,List.cons.injEq,and_true]
   have hf:=X2 l[i] r[i] (n:=3) ybo ybn true
   by_cases he:l[i]=r[i]
   ·rw[he] at hf
    simp(disch:=omega)only[go_sem,e0,e1,e12,e13,hi',hq (Zb i),hq2 (Zb i),hc,hc2,hg,hg2,hf,he,ngB,Zj]
    exact⟨_,rfl,ybt,ybl,yby,ybb,h1.1 he⟩
   ·simp(disch:=omega)only[go_sem,e0,e1,e12,e13,hi',hq (Zb i),hq2 (Zb i),hc,hc2,hg,hg2,hf,he,ngB,Zj]
    rw[decide_eq_false]
    intro e;exact he (h1.2 (by rw[e]))
  ·rintro s ⟨tm,rfl,e0,e1,e12,e13,e9⟩
   simp(disch:=omega)only[go_sem,e0,e1,e12,e13,Int.lt_irrefl]
   rw[decide_eq_true]
   rw[List.take_length,hl,List.take_length] at e9;exact e9
 ·have hl':¬(l.length:Int)=(r.length:Int):=by omega
  simp(disch:=omega)only[c146,go_sem,hx.lenE,hy.lenE,hl',ne_eq,not_false_eq_true]
  rw[decide_eq_false]
  intro e;exact hl (by rw[e])
theorem eqReading_ev {l r:List (List Int)}{h:H}{x y:V}(hx:Zg h x 3 (l.map (List.map iv)))(hy:Zg h y 3 (r.map (List.map iv)))(Q:V→H→Prop):
  Ev fnG Zi (.fn 102 [] []) [x,y] h Q=Q (.bool (decide (l=r))) h:=by
 refine Ev.det (Ze (fd:=c102) rfl rfl rfl ?_) Q
 simp(disch:=omega)only[c102,go_sem]
 refine(equalReading_ev hx hy).mono fun v h' hv=>?_
 obtain⟨rfl,rfl⟩:=hv
 simp(disch:=omega)only[go_sem]
theorem equalGap_ev {l r:List (List Int)}{h:H}{x y:V}(hx:Zg h x 4 (l.map (List.map iv)))(hy:Zg h y 4 (r.map (List.map iv))):
  Ev fnG Zi (.fn 147 [] []) [x,y] h fun v h'=>v=.bool (decide (l=r))∧h'=h:=by
 have hb:=hx.boundE
 refine Ze (fd:=c147) rfl rfl rfl ?_
 by_cases hl:l.length=r.length
 ·have hl':(l.length:Int)=(r.length:Int):=by omega
  simp(disch:=omega)only[c147,go_sem,hx.lenE,hy.lenE,hl',ne_eq,not_true_eq_false]
  refine Zk l.length (fun i s=>∃tm,s=⟨tm,h,[]⟩∧tm.E 0=x∧tm.E 1=y∧tm.E 12=.ii (l.length:Int)∧tm.E 13=.ii (i:Int)∧l.take i=r.take i)
   ?_ ?_ (i:=0) (Nat.zero_le _) ⟨_,rfl,ybb,ybb,ybs,ybx,rfl⟩
  ·rintro i s hi ⟨tm,rfl,e0,e1,e12,e13,e9⟩
   have hi':(i:Int)<(l.length:Int):=by omega
   have hi2:i<r.length:=by omega
   obtain⟨b,o,c,cs,rfl,hc,hq,hg,hn,hn0⟩:=hx.at hi
   obtain⟨b2,o2,c2,cs2,rfl,hc2,hq2,hg2,hn2,hn02⟩:=hy.at hi2
   have h1:(l[i]=r[i])↔l.take (i+1)=r.take (i+1):=by
    rw[List.take_succ_eq_append_getElem hi,List.take_succ_eq_append_getElem hi2,e9];simp only[List.append_cancel_left_eq,List.cons.injEq,and_true]
   have hf:=X2 l[i] r[i] (n:=4) ybo ybn true
   by_cases he:l[i]=r[i]
   ·rw[he] at hf
    simp(disch:=omega)only[go_sem,e0,e1,e12,e13,hi',hq (Zb i),hq2 (Zb i),hc,hc2,hg,hg2,hf,he,ngB,Zj]
    exact⟨_,rfl,ybt,ybl,yby,ybb,h1.1 he⟩
   ·simp(disch:=omega)only[go_sem,e0,e1,e12,e13,hi',hq (Zb i),hq2 (Zb i),hc,hc2,hg,hg2,hf,he,ngB,Zj]
    rw[decide_eq_false]
    intro e;exact he (h1.2 (by rw[e]))
  ·rintro s ⟨tm,rfl,e0,e1,e12,e13,e9⟩
   simp(disch:=omega)only[go_sem,e0,e1,e12,e13,Int.lt_irrefl]
   rw[decide_eq_true]
   rw[List.take_length,hl,List.take_length] at e9;exact e9
 ·have hl':¬(l.length:Int)=(r.length:Int):=by omega
  simp(disch:=omega)only[c147,go_sem,hx.lenE,hy.lenE,hl',ne_eq,not_false_eq_true]
  rw[decide_eq_false]
  intro e;exact hl (by rw[e])
theorem eqGap_ev {l r:List (List Int)}{h:H}{x y:V}(hx:Zg h x 4 (l.map (List.map iv)))(hy:Zg h y 4 (r.map (List.map iv)))(Q:V→H→Prop):
  Ev fnG Zi (.fn 103 [] []) [x,y] h Q=Q (.bool (decide (l=r))) h:=by
 refine Ev.det (Ze (fd:=c103) rfl rfl rfl ?_) Q
 simp(disch:=omega)only[c103,go_sem]
 refine(equalGap_ev hx hy).mono fun v h' hv=>?_
 obtain⟨rfl,rfl⟩:=hv
 simp(disch:=omega)only[go_sem]
theorem dupClock_ev {h:H}{x:V}{l:List Ck}(hw:h.wf)(hx:Zg h x 4 (l.map Z9))(hl:l.length≤1000000)(Q:V→H→Prop):
  Ev fnG Zi (.fn 94 [] []) [x] h Q=Q (.sl h.next 0 l.length (.fix l.length)) (h.add (.bk (l.map Z9).flatten)):=by
 refine Ev.det (Ze (fd:=c94) rfl rfl rfl ?_) Q
 simp(disch:=omega)only[c94,go_sem,hx.lenE,a_msl_0n]
 have:=dup_core (by_:=32) (z:=[.ii 0,.ii 0,.ii 0,.ii 0]) hx hw rfl ybc (Wm (fun a=>rfl) l)
 rw[List.length_map] at this
 simp(disch:=omega)only[go_sem,this]
theorem dupReading_ev {h:H}{x:V}{l:List Rd}(hw:h.wf)(hx:Zg h x 3 (l.map encR))(hl:l.length≤1000000)(Q:V→H→Prop):
  Ev fnG Zi (.fn 95 [] []) [x] h Q=Q (.sl h.next 0 l.length (.fix l.length)) (h.add (.bk (l.map encR).flatten)):=by
 refine Ev.det (Ze (fd:=c95) rfl rfl rfl ?_) Q
 simp(disch:=omega)only[c95,go_sem,hx.lenE,a_msl_0n]
 have:=dup_core (by_:=24) (z:=[.ii 0,.ii 0,.ii 0]) hx hw rfl ybc (Wm (fun a=>rfl) l)
 rw[List.length_map] at this
 simp(disch:=omega)only[go_sem,this]
theorem dupGap_ev {h:H}{x:V}{l:List Gp}(hw:h.wf)(hx:Zg h x 4 (l.map ZF))(hl:l.length≤1000000)(Q:V→H→Prop):
  Ev fnG Zi (.fn 96 [] []) [x] h Q=Q (.sl h.next 0 l.length (.fix l.length)) (h.add (.bk (l.map ZF).flatten)):=by
 refine Ev.det (Ze (fd:=c96) rfl rfl rfl ?_) Q
 simp(disch:=omega)only[c96,go_sem,hx.lenE,a_msl_0n]
 have:=dup_core (by_:=32) (z:=[.ii 0,.ii 0,.ii 0,.ii 0]) hx hw rfl ybc (Wm (fun a=>rfl) l)
 rw[List.length_map] at this
 simp(disch:=omega)only[go_sem,this]
end Go.Ab.Tryz
namespace Go.Ab.Tryz
open Go.Proofs
def XK (a:At):Bool:=decide (8<a.cks.length∨12<a.rds.length∨9<a.gps.length)
theorem great_ev {h:H}(hw:h.wf){a:At}{C R G:V}(x:ZP h C R G a)(Q:V→H→Prop)(q:∀h',h.Sub h'→Q (.bool (XK a)) h'):Ev fnG Zi (.fn 44 [] []) [.agg (atV a C R G)] h Q:=by
 have q':=q _ (yba:h.Sub (h.add (.bk (atV a C R G))))
 have hlC:=x.c.lenE
 have hlR:=x.r.lenE
 have hlG:=x.g.lenE
 refine Ze (fd:=c44) rfl rfl rfl ?_
 by_cases k1:8<(a.cks.length:Int)
 ·simp(disch:=omega)only[c44,go_sem,hlC,hlR,hlG,k1]
  have e:XK a=true:=by simp only[XK,decide_eq_true_eq];omega
  rw[e] at q';exact q'
 by_cases k2:12<(a.rds.length:Int)
 ·simp(disch:=omega)only[c44,go_sem,hlC,hlR,hlG,k1,k2]
  have e:XK a=true:=by simp only[XK,decide_eq_true_eq];omega
  rw[e] at q';exact q'
 ·simp(disch:=omega)only[c44,go_sem,hlC,hlR,hlG,k1,k2]
  have e:XK a=decide (9<(a.gps.length:Int)):=by rw[Bool.eq_iff_iff];simp only[XK,decide_eq_true_eq];omega
  rw[e] at q';exact q'
structure AtNew (h0 h:H)(C R G:V)(a:At):Prop where
 s:h0.Sub h
 is:∃b1 b2 b3,C=.sl b1 0 a.cks.length (.fix a.cks.length)∧R=.sl b2 0 a.rds.length (.fix a.rds.length)∧G=.sl b3 0 a.gps.length (.fix a.gps.length)∧h0.next≤b1∧b1<b2∧b2<b3∧b3<h.next∧
  h.get b1=some (.bk (a.cks.map Z9).flatten)∧h.get b2=some (.bk (a.rds.map encR).flatten)∧h.get b3=some (.bk (a.gps.map ZF).flatten)
structure YJ (a:At):Prop where
 c:a.cks.length≤100
 r:a.rds.length≤100
 g:a.gps.length≤100
theorem AtNew.at_ {h0 h:H}{C R G:V}{a:At}(n:AtNew h0 h C R G a)(l:YJ a):ZP h C R G a:=by
 obtain⟨b1,b2,b3,rfl,rfl,rfl,_,_,_,_,g1,g2,g3⟩:=n.is
 exact⟨Zg.full ybp g1 (fun r hr=>by obtain⟨c,_,rfl⟩:=List.mem_map.1 hr;rfl) (by rw[List.length_map];have:=l.c;omega),
  Zg.full ybp g2 (fun r hr=>by obtain⟨c,_,rfl⟩:=List.mem_map.1 hr;rfl) (by rw[List.length_map];have:=l.r;omega),
  Zg.full ybp g3 (fun r hr=>by obtain⟨c,_,rfl⟩:=List.mem_map.1 hr;rfl) (by rw[List.length_map];have:=l.g;omega)⟩
set_option maxHeartbeats 1000000 in
theorem own_ev {h:H}(hw:h.wf){a:At}{C R G:V}(x:ZP h C R G a)(l:YJ a)(Q:V→H→Prop)(q:∀C' R' G' h',AtNew h h' C' R' G' a→Q (.agg (atV a C' R' G')) h'):Ev fnG Zi (.fn 45 [] []) [.agg (atV a C R G)] h Q:=by
 obtain⟨l1,l2,l3⟩:=l
 have oC:=x.c.one;have oR:=x.r.one;have oG:=x.g.one
 refine Ze (fd:=c45) rfl rfl rfl ?_
 have s2:h.Sub ((h.add (.bk (atV a C R G))).add (.bk [.ii 0,.ii 0,.nils,.nils,.nils])):=yba
 have s3:=s2.add (.bk (a.cks.map Z9).flatten)
 have s4:=s3.add (.bk (a.rds.map encR).flatten)
 have s5:=s4.add (.bk (a.gps.map ZF).flatten)
 simp -implicitDefEqProofs(disch:=first|omega|simp only[nZ]<;>omega|fail)only[c45,go_sem,dupClock_ev s2.wf (x.c.mono s2) ybc,dupReading_ev s3.wf (x.r.mono s3) ybc,dupGap_ev s4.wf (x.g.mono s4) ybc,evQ_ld]
 refine q _ _ _ _ ⟨yba,h.next+1+1,h.next+1+1+1,h.next+1+1+1+1,rfl,rfl,rfl,by omega,by omega,by omega,by simp only[H.next_set,H.next_add];omega,?_,?_,?_⟩
 all_goals simp -implicitDefEqProofs(disch:=first|omega|simp only[nZ]<;>omega|fail)only[go_sem]
def rowCk (c:Ck):List Int:=[c.sl,c.sh,c.gl,c.gh]
def rowRd (r:Rd):List Int:=[r.ck,r.ev,r.sh]
def rowGp (g:Gp):List Int:=[g.fr,g.to,g.lo,g.hi]
theorem map_inj {α:Type}{f:α→List Int}(hf:∀a b,f a=f b→a=b){a b:List α}:a.map f=b.map f↔a=b:=⟨fun h=>by
 induction a generalizing b with
 |nil=>cases b with
  |nil=>rfl
  |cons y b=>cases h
 |cons x a ih=>cases b with
  |nil=>cases h
  |cons y b=>
   simp only[List.map_cons,List.cons.injEq] at h
   rw[hf _ _ h.1,ih h.2],fun h=>by rw[h]⟩
theorem rowCk_inj (a b:Ck)(h:rowCk a=rowCk b):a=b:=by cases a;cases b;simpa[rowCk] using h
theorem rowRd_inj (a b:Rd)(h:rowRd a=rowRd b):a=b:=by cases a;cases b;simpa[rowRd] using h
theorem rowGp_inj (a b:Gp)(h:rowGp a=rowGp b):a=b:=by cases a;cases b;simpa[rowGp] using h
theorem rowCk_enc (l:List Ck):l.map Z9=(l.map rowCk).map (List.map iv):=by rw[List.map_map];rfl
theorem rowRd_enc (l:List Rd):l.map encR=(l.map rowRd).map (List.map iv):=by rw[List.map_map];rfl
theorem rowGp_enc (l:List Gp):l.map ZF=(l.map rowGp).map (List.map iv):=by rw[List.map_map];rfl
def sameB (a b:At):Bool:=decide (a.mins=b.mins)&&decide (a.evs=b.evs)&&decide (a.cks.map rowCk=b.cks.map rowCk)&&decide (a.rds.map rowRd=b.rds.map rowRd)&&decide (a.gps.map rowGp=b.gps.map rowGp)
theorem Xu {a b:At}:sameB a b=true↔a=b:=by
 unfold sameB
 simp only[Bool.and_eq_true,decide_eq_true_eq,map_inj rowCk_inj,map_inj rowRd_inj,map_inj rowGp_inj]
 constructor
 ·rintro⟨⟨⟨⟨h1,h2⟩,h3⟩,h4⟩,h5⟩;cases a;cases b;simp_all
 ·rintro rfl;exact⟨⟨⟨⟨rfl,rfl⟩,rfl⟩,rfl⟩,rfl⟩
set_option maxHeartbeats 1000000 in
theorem Vi {h:H}(hw:h.wf){a b:At}{C R G C' R' G':V}(x:ZP h C R G a)(y:ZP h C' R' G' b)(Q:V→H→Prop)(q:∀h',h.Sub h'→Q (.bool (sameB a b)) h'):Ev fnG Zi (.fn 50 [] []) [.agg (atV a C R G),.agg (atV b C' R' G')] h Q:=by
 have s2:h.Sub ((h.add (.bk (atV a C R G))).add (.bk (atV b C' R' G'))):=yba
 have q':=q _ s2
 have x2:=x.mono s2
 have y2:=y.mono s2
 have xc:=x2.c;have yc:=y2.c;have xr:=x2.r;have yr:=y2.r;have xg:=x2.g;have yg:=y2.g
 rw[rowCk_enc] at xc yc
 rw[rowRd_enc] at xr yr
 rw[rowGp_enc] at xg yg
 have e1:=fun Q=>eqClock_ev xc yc Q
 have e2:=fun Q=>eqReading_ev xr yr Q
 have e3:=fun Q=>eqGap_ev xg yg Q
 refine Ze (fd:=c50) rfl rfl rfl ?_
 obtain⟨p1,h1⟩:∃p,decide (a.mins=b.mins)=p:=⟨_,rfl⟩
 obtain⟨p2,h2⟩:∃p,decide (a.evs=b.evs)=p:=⟨_,rfl⟩
 obtain⟨p3,h3⟩:∃p,decide (a.cks.map rowCk=b.cks.map rowCk)=p:=⟨_,rfl⟩
 obtain⟨p4,h4⟩:∃p,decide (a.rds.map rowRd=b.rds.map rowRd)=p:=⟨_,rfl⟩
 obtain⟨p5,h5⟩:∃p,decide (a.gps.map rowGp=b.gps.map rowGp)=p:=⟨_,rfl⟩
 rw[h3] at e1
 rw[h4] at e2
 rw[h5] at e3
 unfold sameB at q'
 rw[h1,h2,h3,h4,h5] at q'
 cases p1<;>cases p2<;>cases p3<;>cases p4<;>(simp -implicitDefEqProofs(disch:=first|omega|simp only[nZ]<;>omega|fail)only[c50,go_sem,h1,h2,e1,e2,e3];exact q')
end Go.Ab.Tryz
namespace Go.Ab.Tryz
open Go.Proofs
structure ThI (h:H)(a:At)(C R G:V)(a':At)(v:Nat→V)(z:H):Prop where
 s:h.Sub z
 sl:Sl6 h z (h.next+3) v sz6 (ZE a' [] [] [])
 g3:z.get (h.next+2)=some (.bk [.ii a.mins,.ii a.evs,v 0,v 1,v 2])
 g1:z.get h.next=some (.bk (atV a C R G))
 g2:z.get (h.next+1)=some (.bk [.ii 0,.ii 0,.nils,.nils,.nils])
 nx:h.next+3≤z.next
theorem ThI.mono {h:H}{a:At}{C R G:V}{a':At}{v:Nat→V}{z z':H}(k:ThI h a C R G a' v z)(s:z.Sub z'):ThI h a C R G a' v z':=
 ⟨k.s.trans s,k.sl.mono s,s.get k.g3,s.get k.g1,s.get k.g2,Nat.le_trans k.nx s.next⟩
theorem ThI.put {h:H}(hw:h.wf){a:At}{C R G:V}{a' a'':At}{v v':Nat→V}{z z5:H}(k:ThI h a C R G a' v z){S:Nat→Prop}(kk:Zh S z z5)(hS:∀b,S b→h.next+3≤b)(sl:Sl6 h z5 (h.next+3) v' sz6 (ZE a'' [] [] [])):
  ThI h a C R G a'' v' (z5.set (h.next+2) (.bk [.ii a.mins,.ii a.evs,v' 0,v' 1,v' 2])):=by
 have hn:∀b,b<h.next+3→¬S b:=fun b hb q=>by have:=hS b q;omega
 have s5:=(sl.o 0 ybc).1
 have l5:=kk.1
 have lz:=k.nx
 have sz:=s5.set (b:=h.next+2) ybc ybc hw (.bk [.ii a.mins,.ii a.evs,v' 0,v' 1,v' 2])
 have k2:=Zh.set z5 (h.next+2) (.bk [.ii a.mins,.ii a.evs,v' 0,v' 1,v' 2])
 exact⟨sz,sl.keep k2 sz fun b hb=>by omega,get_set_same rfl,k2.2 _ _ (kk.2 _ _ k.g1 (hn _ ybc)) ybc,k2.2 _ _ (kk.2 _ _ k.g2 (hn _ ybc)) ybc,by rw[H.next_set];omega⟩
theorem take_at {α:Type}{l:List α}{i:Nat}(hi:i<l.length):l.take (i+1)=l.take i++[l[i]]:=List.take_succ_eq_append_getElem hi
set_option maxRecDepth 10000 in
set_option maxHeartbeats 4000000 in
theorem XY {h:H}(hw:h.wf){a:At}{C R G:V}(x:ZP h C R G a)(l:YJ a)(Q:V→H→Prop)(q:∀C' R' G' h',h.Sub h'→ZP h' C' R' G' a→Q (.agg (atV a C' R' G')) h'):Ev fnG Zi (.fn 46 [] []) [.agg (atV a C R G)] h Q:=by
 obtain⟨l1,l2,l3⟩:=l
 have oC:=x.c.one;have oR:=x.r.one;have oG:=x.g.one
 have hlC:=x.c.lenE;have hlR:=x.r.lenE;have hlG:=x.g.lenE
 have k0:ThI h a C R G ⟨a.mins,a.evs,[],[],[]⟩ (fun _=>.nils) (((h.add (.bk (atV a C R G))).add (.bk [.ii 0,.ii 0,.nils,.nils,.nils])).add (.bk [.ii a.mins,.ii a.evs,.nils,.nils,.nils])):=by
  refine⟨yba,⟨fun i hi=>?_,fun i hi b hb=>(Zy hb).elim,fun i j _ _ _ b hb=>(Zy hb).elim⟩,by simp -implicitDefEqProofs(disch:=first|omega|simp only[nZ]<;>omega|fail)only[go_sem],by simp -implicitDefEqProofs(disch:=first|omega|simp only[nZ]<;>omega|fail)only[go_sem],by simp -implicitDefEqProofs(disch:=first|omega|simp only[nZ]<;>omega|fail)only[go_sem],by simp only[H.next_add];omega⟩
  have:ZE ⟨a.mins,a.evs,[],[],[]⟩ [] [] [] i=[]:=by rcases(by omega:i=0∨i=1∨i=2∨i=3∨i=4∨i=5) with rfl|rfl|rfl|rfl|rfl|rfl<;>rfl
  rw[this];exact(Zx.nil (yba) _).c
 refine Ze (fd:=c46) rfl rfl rfl ?_
 simp -implicitDefEqProofs(disch:=first|omega|simp only[nZ]<;>omega|fail)only[c46,go_sem,hlC]
 generalize((h.add (.bk (atV a C R G))).add (.bk [.ii 0,.ii 0,.nils,.nils,.nils])).add (.bk [.ii a.mins,.ii a.evs,.nils,.nils,.nils])=h3 at k0⊢
 rw[show h.next+1+1=h.next+2 from rfl]
 refine Zk a.cks.length (fun i s=>∃tm z v,s=⟨tm,z,[]⟩∧ThI h a C R G ⟨a.mins,a.evs,a.cks.take i,[],[]⟩ v z∧tm.E 1=.ptr h.next 0∧tm.E 2=.ptr (h.next+1) 0∧tm.E 3=.ptr (h.next+2) 0∧tm.E 16=C∧tm.E 17=.ii (a.cks.length:Int)∧tm.E 18=.ii (i:Int)) ?_ ?_ (i:=0) (Nat.zero_le _)
  ⟨_,_,_,rfl,k0,ybb,ybb,ybb,ybb,ybb,ybb⟩
 ·rintro i s hi ⟨tm,z,v,rfl,k,e1,e2,e3,e16,e17,e18⟩
  have hi':(i:Int)<(a.cks.length:Int):=by omega
  obtain⟨b,o,cc,cs,eC,hc,hq,hg,_,_⟩:=(x.c.mono k.s).at hi
  have hst:=take_at hi
  generalize a.cks[i]=c at hg hst
  simp only[Z9] at hg
  have s1:=(H.Sub.refl k.s.wf).add (.bk [.ii c.sl,.ii c.sh,.ii c.gl,.ii c.gh])
  have k1:=k.mono s1
  have g5:(z.add (.bk [.ii c.sl,.ii c.sh,.ii c.gl,.ii c.gh])).get z.next=some (.bk [.ii c.sl,.ii c.sh,.ii c.gl,.ii c.gh]):=Zc rfl
  have nz1:=H.next_add z (.bk [.ii c.sl,.ii c.sh,.ii c.gl,.ii c.gh])
  obtain⟨z1,hz1⟩:∃z1,z.add (.bk [.ii c.sl,.ii c.sh,.ii c.gl,.ii c.gh])=z1:=⟨_,rfl⟩
  rw[hz1] at s1 k1 g5 nz1
  have s2:=(H.Sub.refl k1.s.wf).add (.bk [.ii c.sl,.ii c.sh,.ii c.gl,.ii c.gh])
  have k2:=k1.mono s2
  have o2:=k2.sl.o 0 ybj
  have sn:Zg (z1.add (.bk [.ii c.sl,.ii c.sh,.ii c.gl,.ii c.gh])) (.sl z1.next 0 1 (.fix 1)) 4 [Z9 c]:=Zg.new _ rfl rfl rfl (by simp[Z9]) ybp
  have lr:(ZE ⟨a.mins,a.evs,a.cks.take i,[],[]⟩ [] [] [] 0).length≤100:=by show((a.cks.take i).map Z9).length≤100;rw[List.length_map,List.length_take];omega
  simp(disch:=omega)only[go_sem,e1,e2,e3,e16,e17,e18,hi',hq (Zb i),hc,hg,hz1,Za k1.g3,Za g5]
  generalize z1.add (.bk [.ii c.sl,.ii c.sh,.ii c.gl,.ii c.gh])=z2 at s2 k2 o2 sn⊢
  refine o2.app1 (by_:=32) (r:=Z9 c) hw rfl ybj sn rfl ybc ybc fun w z5 o5 n5 k5=>?_
  have ow:=o5.one
  have nb:¬Zq (v 0) (h.next+2):=fun hb=>by have:=k2.sl.lo 0 ybj _ hb;omega
  have g5':=k5.2 _ _ k2.g3 nb
  have km:=k2.put hw k5 (fun b hb=>k2.sl.lo 0 ybj b hb) ((k2.sl.app ybj o5 n5 k2.nx k5).rw rows0)
  simp(disch:=omega)only[go_sem,e1,e2,e3,e16,e17,e18,g5',ow,cells_one ow,Zj]
  exact⟨_,_,_,rfl,by rw[hst];exact km,ybl,ybu,ybv,(by simp[Zm,Zd,e16]<;>rfl),(by simp[Zm,Zd,e17]<;>rfl),ybb⟩
 rintro s ⟨tm,z,v,rfl,k,e1,e2,e3,e16,e17,e18⟩
 have hi':¬((a.cks.length:Int)<(a.cks.length:Int)):=by omega
 rw[List.take_of_length_le (Nat.le_refl _)] at k
 simp(disch:=omega)only[go_sem,e1,e2,e3,e16,e17,e18,hi',Za k.g1,hlR]
 refine Zk a.rds.length (fun i s=>∃tm z v,s=⟨tm,z,[]⟩∧ThI h a C R G ⟨a.mins,a.evs,a.cks,a.rds.take i,[]⟩ v z∧tm.E 1=.ptr h.next 0∧tm.E 2=.ptr (h.next+1) 0∧tm.E 3=.ptr (h.next+2) 0∧tm.E 30=R∧tm.E 31=.ii (a.rds.length:Int)∧tm.E 32=.ii (i:Int)) ?_ ?_ (i:=0) (Nat.zero_le _)
  ⟨_,_,_,rfl,k,ybl,ybu,ybv,ybb,ybb,ybb⟩
 ·clear k
  rintro i s hi ⟨tm,z,v,rfl,k,e1,e2,e3,e30,e31,e32⟩
  have hi':(i:Int)<(a.rds.length:Int):=by omega
  obtain⟨b,o,cc,cs,eC,hc,hq,hg,_,_⟩:=(x.r.mono k.s).at hi
  have hst:=take_at hi
  generalize a.rds[i]=c at hg hst
  simp only[encR] at hg
  have s1:=(H.Sub.refl k.s.wf).add (.bk [.ii c.ck,.ii c.ev,.ii c.sh])
  have k1:=k.mono s1
  have g5:(z.add (.bk [.ii c.ck,.ii c.ev,.ii c.sh])).get z.next=some (.bk [.ii c.ck,.ii c.ev,.ii c.sh]):=Zc rfl
  have nz1:=H.next_add z (.bk [.ii c.ck,.ii c.ev,.ii c.sh])
  obtain⟨z1,hz1⟩:∃z1,z.add (.bk [.ii c.ck,.ii c.ev,.ii c.sh])=z1:=⟨_,rfl⟩
  rw[hz1] at s1 k1 g5 nz1
  have s2:=(H.Sub.refl k1.s.wf).add (.bk [.ii c.ck,.ii c.ev,.ii c.sh])
  have k2:=k1.mono s2
  have o2:=k2.sl.o 1 ybj
  have sn:Zg (z1.add (.bk [.ii c.ck,.ii c.ev,.ii c.sh])) (.sl z1.next 0 1 (.fix 1)) 3 [encR c]:=Zg.new _ rfl rfl rfl (by simp[encR]) ybp
  have lr:(ZE ⟨a.mins,a.evs,a.cks,a.rds.take i,[]⟩ [] [] [] 1).length≤100:=by show((a.rds.take i).map encR).length≤100;rw[List.length_map,List.length_take];omega
  simp(disch:=omega)only[go_sem,e1,e2,e3,e30,e31,e32,hi',hq (Zb i),hc,hg,hz1,Za k1.g3,Za g5]
  generalize z1.add (.bk [.ii c.ck,.ii c.ev,.ii c.sh])=z2 at s2 k2 o2 sn⊢
  refine o2.app1 (by_:=24) (r:=encR c) hw rfl ybj sn rfl ybc ybc fun w z5 o5 n5 k5=>?_
  have ow:=o5.one
  have nb:¬Zq (v 1) (h.next+2):=fun hb=>by have:=k2.sl.lo 1 ybj _ hb;omega
  have g5':=k5.2 _ _ k2.g3 nb
  have km:=k2.put hw k5 (fun b hb=>k2.sl.lo 1 ybj b hb) ((k2.sl.app ybj o5 n5 k2.nx k5).rw rows1)
  simp(disch:=omega)only[go_sem,e1,e2,e3,e30,e31,e32,g5',ow,cells_one ow,Zj]
  exact⟨_,_,_,rfl,by rw[hst];exact km,ybl,ybu,ybv,(by simp[Zm,Zd,e30]<;>rfl),(by simp[Zm,Zd,e31]<;>rfl),ybb⟩
 clear k
 rintro s ⟨tm,z,v,rfl,k,e1,e2,e3,e30,e31,e32⟩
 have hi':¬((a.rds.length:Int)<(a.rds.length:Int)):=by omega
 rw[List.take_of_length_le (Nat.le_refl _)] at k
 simp(disch:=omega)only[go_sem,e1,e2,e3,e30,e31,e32,hi',Za k.g1,hlG]
 refine Zk a.gps.length (fun i s=>∃tm z v,s=⟨tm,z,[]⟩∧ThI h a C R G ⟨a.mins,a.evs,a.cks,a.rds,a.gps.take i⟩ v z∧tm.E 1=.ptr h.next 0∧tm.E 2=.ptr (h.next+1) 0∧tm.E 3=.ptr (h.next+2) 0∧tm.E 44=G∧tm.E 45=.ii (a.gps.length:Int)∧tm.E 46=.ii (i:Int)) ?_ ?_ (i:=0) (Nat.zero_le _)
  ⟨_,_,_,rfl,k,ybl,ybu,ybv,ybb,ybb,ybb⟩
 ·clear k
  rintro i s hi ⟨tm,z,v,rfl,k,e1,e2,e3,e44,e45,e46⟩
  have hi':(i:Int)<(a.gps.length:Int):=by omega
  obtain⟨b,o,cc,cs,eC,hc,hq,hg,_,_⟩:=(x.g.mono k.s).at hi
  have hst:=take_at hi
  generalize a.gps[i]=c at hg hst
  simp only[ZF] at hg
  have s1:=(H.Sub.refl k.s.wf).add (.bk [.ii c.fr,.ii c.to,.ii c.lo,.ii c.hi])
  have k1:=k.mono s1
  have g5:(z.add (.bk [.ii c.fr,.ii c.to,.ii c.lo,.ii c.hi])).get z.next=some (.bk [.ii c.fr,.ii c.to,.ii c.lo,.ii c.hi]):=Zc rfl
  have nz1:=H.next_add z (.bk [.ii c.fr,.ii c.to,.ii c.lo,.ii c.hi])
  obtain⟨z1,hz1⟩:∃z1,z.add (.bk [.ii c.fr,.ii c.to,.ii c.lo,.ii c.hi])=z1:=⟨_,rfl⟩
  rw[hz1] at s1 k1 g5 nz1
  have s2:=(H.Sub.refl k1.s.wf).add (.bk [.ii c.fr,.ii c.to,.ii c.lo,.ii c.hi])
  have k2:=k1.mono s2
  have o2:=k2.sl.o 2 ybj
  have sn:Zg (z1.add (.bk [.ii c.fr,.ii c.to,.ii c.lo,.ii c.hi])) (.sl z1.next 0 1 (.fix 1)) 4 [ZF c]:=Zg.new _ rfl rfl rfl (by simp[ZF]) ybp
  have lr:(ZE ⟨a.mins,a.evs,a.cks,a.rds,a.gps.take i⟩ [] [] [] 2).length≤100:=by show((a.gps.take i).map ZF).length≤100;rw[List.length_map,List.length_take];omega
  simp(disch:=omega)only[go_sem,e1,e2,e3,e44,e45,e46,hi',hq (Zb i),hc,hg,hz1,Za k1.g3,Za g5]
  generalize z1.add (.bk [.ii c.fr,.ii c.to,.ii c.lo,.ii c.hi])=z2 at s2 k2 o2 sn⊢
  refine o2.app1 (by_:=32) (r:=ZF c) hw rfl ybj sn rfl ybc ybc fun w z5 o5 n5 k5=>?_
  have ow:=o5.one
  have nb:¬Zq (v 2) (h.next+2):=fun hb=>by have:=k2.sl.lo 2 ybj _ hb;omega
  have g5':=k5.2 _ _ k2.g3 nb
  have km:=k2.put hw k5 (fun b hb=>k2.sl.lo 2 ybj b hb) ((k2.sl.app ybj o5 n5 k2.nx k5).rw rows2)
  simp(disch:=omega)only[go_sem,e1,e2,e3,e44,e45,e46,g5',ow,cells_one ow,Zj]
  exact⟨_,_,_,rfl,by rw[hst];exact km,ybl,ybu,ybv,(by simp[Zm,Zd,e44]<;>rfl),(by simp[Zm,Zd,e45]<;>rfl),ybb⟩
 rintro s ⟨tm,z,v,rfl,k,e1,e2,e3,e44,e45,e46⟩
 have hi':¬((a.gps.length:Int)<(a.gps.length:Int)):=by omega
 rw[List.take_of_length_le (Nat.le_refl _)] at k
 have y0:=(k.sl.o 0 ybj).one;have y1:=(k.sl.o 1 ybj).one;have y2:=(k.sl.o 2 ybj).one
 have lz:=k.nx
 simp(disch:=omega)only[go_sem,e1,e2,e3,e44,e45,e46,hi',Za k.g1,Za k.g3,k.g2,y0,y1,y2]
 have s7:=k.s.set (b:=h.next+1) ybc ybc hw (.bk [.ii a.mins,.ii a.evs,v 0,v 1,v 2])
 have sl:=k.sl.keep (Zh.set z (h.next+1) (.bk [.ii a.mins,.ii a.evs,v 0,v 1,v 2])) s7 fun b hb=>by omega
 refine q _ _ _ _ s7 ⟨(sl.o 0 ybj).sl ?_,(sl.o 1 ybj).sl ?_,(sl.o 2 ybj).sl ?_⟩
 ·show(a.cks.map Z9).length≤_;rw[List.length_map];omega
 ·show(a.rds.map encR).length≤_;rw[List.length_map];omega
 ·show(a.gps.map ZF).length≤_;rw[List.length_map];omega
end Go.Ab.Tryz
namespace Go.Ab.Tryz
open Go.Proofs
theorem Yv (h:H)(n lo hi:Int)(Q:V→H→Prop):Ev fnG Zi (.fn 97 [] []) [.ii n,.ii lo,.ii hi] h Q=Q (.bool (!inB n lo hi)) h:=by
 refine Ev.det ?_ Q
 refine Ze (fd:=c97) rfl rfl rfl ?_
 by_cases h1:n<lo
 ·have e:(!inB n lo hi)=true:=by
   have:¬lo≤n:=by omega
   simp[inB,this]
  rw[e]
  simp(disch:=omega)only[c97,go_sem,h1]
 ·have e:(!inB n lo hi)=decide (hi<n):=by
   have h2:lo≤n:=by omega
   rw[Bool.eq_iff_iff];simp[inB,h2]
  rw[e]
  simp(disch:=omega)only[c97,go_sem,h1]
theorem far_eq (h:H)(lo hi m:Int)(hm:0≤m∧m≤1000)(Q:V→H→Prop):Ev fnG Zi (.fn 98 [] []) [.agg [.ii lo,.ii hi],.ii m] h Q=Q (.bool (!within lo hi m)) (h.add (.bk [.ii lo,.ii hi])):=by
 refine Ev.det ?_ Q
 refine Ze (fd:=c98) rfl rfl rfl ?_
 have w:wr .i64 (0-m)= -m:=by rw[Zo ybc ybc];omega
 cases h1:inB lo (-m) m with
 |true=>
  have e:within lo hi m=inB hi (-m) m:=by rw[within,h1,Bool.true_and]
  rw[e]
  simp(disch:=omega)only[c98,go_sem,Yv,w,h1]
 |false=>
  have e:within lo hi m=false:=by rw[within,h1,Bool.false_and]
  rw[e]
  simp(disch:=omega)only[c98,go_sem,Yv,w,h1]
end Go.Ab.Tryz
namespace Go.Ab.Tryz
open Go.Proofs
def lg2 (lo hi m:Int):Bool:=within lo hi m&&decide (4<hi-lo)
def Ck.lg (c:Ck):Bool:=lg2 c.sl c.sh 60||lg2 c.gl c.gh 30
structure RC (h:H)(a:At)(C R G:V)(tm:T V)(z:H)(b3 b4 b5 b6:Bool):Prop where
 s:h.Sub z
 g1:z.get h.next=some (.bk (atV a C R G))
 t1:tm.E 1=.ptr h.next 0
 t3:tm.E 3=.bool b3
 t4:tm.E 4=.bool b4
 t5:tm.E 5=.bool b5
 t6:tm.E 6=.bool b6
def RCs (h:H)(a:At)(C R G:V)(t:Nat)(i:Nat)(b3 b4 b5 b6:Bool)(s:St):Prop:=∃tm z,s=⟨tm,z,[]⟩∧RC h a C R G tm z b3 b4 b5 b6∧tm.E t=.ii (i:Int)
def RCp (h:H)(a:At)(C R G:V)(t:Nat)(i:Nat)(p:Nat)(cs:List V)(b3 b4 b5 b6:Bool)(s:St):Prop:=∃tm z b,s=⟨tm,z,[]⟩∧RC h a C R G tm z b3 b4 b5 b6∧tm.E t=.ii (i:Int)∧tm.E p=.ptr b 0∧z.get b=some (.bk cs)
theorem RC.sub {h:H}{a:At}{C R G:V}{tm:Go.Ab.T V}{z z':H}{b3 b4 b5 b6:Bool}(k:RC h a C R G tm z b3 b4 b5 b6)(s:z.Sub z'):h.Sub z'∧z'.get h.next=some (.bk (atV a C R G)):=⟨k.s.trans s,s.get k.g1⟩
theorem Ck.lg_eq (c:Ck):c.lg=((within c.sl c.sh 60&&decide (4<c.sh-c.sl))||(within c.gl c.gh 30&&decide (4<c.gh-c.gl))):=rfl
theorem Ck.ord_eq (c:Ck):(!c.ord)=(decide (c.sh<c.sl)||decide (c.gh<c.gl)):=by
 rw[Bool.eq_iff_iff];simp[Ck.ord]<;>omega
theorem lg_sm:∀{l:List Ck},l.all Ck.bd=true→l.any Ck.lg= !(l.all Ck.sm)
 |[],_=>rfl
 |c::l,h=>by
  rw[List.all_cons,Bool.and_eq_true] at h
  rw[List.any_cons,List.all_cons,lg_sm h.2,Bool.not_and]
  congr 1
  have h1:=h.1
  rw[Ck.bd,Bool.and_eq_true] at h1
  rw[c.lg_eq,h1.1,h1.2,Bool.true_and,Bool.true_and]
  rw[Bool.eq_iff_iff];simp[Ck.sm]<;>omega
theorem chk_of {a:At}(hs:a.sz=true):Zn a=if(!(a.cks.all Ck.bd)|| !(a.rds.all Rd.bd)|| !(a.gps.all Gp.bd))=true then 3 else if(!(a.rds.all a.rdOk)|| !(a.gps.all a.gpOk))=true then 1 else if(!(a.cks.all Ck.ord)|| !(a.gps.all Gp.ord))=true then 4 else if a.cks.any Ck.lg=true then 10 else 0:=by
 unfold Zn
 rw[hs]
 cases h1:a.cks.all Ck.bd
 ·simp
 ·rw[lg_sm h1]
  cases a.rds.all Rd.bd<;>cases a.gps.all Gp.bd<;>cases a.rds.all a.rdOk<;>cases a.gps.all a.gpOk<;>cases a.cks.all Ck.ord<;>cases a.gps.all Gp.ord<;>cases a.cks.all Ck.sm<;>rfl
set_option maxRecDepth 10000 in
set_option maxHeartbeats 8000000 in
theorem Y2 {h:H}(hw:h.wf){a:At}{C R G:V}(x:ZP h C R G a)(l:YJ a)(Q:V→H→Prop)(q:∀h',h.Sub h'→Q (.ii (Zn a)) h'):Ev fnG Zi (.fn 47 [] []) [.agg (atV a C R G)] h Q:=by
 obtain⟨l1,l2,l3⟩:=l
 have oC:=x.c.one;have oR:=x.r.one;have oG:=x.g.one
 have hlC:=x.c.lenE;have hlR:=x.r.lenE;have hlG:=x.g.lenE
 have s1:h.Sub (h.add (.bk (atV a C R G))):=yba
 have bad:a.sz=false→Q (.ii 2) (h.add (.bk (atV a C R G))):=fun e=>by
  have:=q _ s1
  rwa[Zn,if_pos e] at this
 refine Ze (fd:=c47) rfl rfl rfl ?_
 by_cases hsz:a.sz=true
 case neg=>
  have hsz':a.sz=false:=by simpa using hsz
  have b:=bad hsz'
  unfold At.sz at hsz'
  cases p1:inB a.mins 1 240 with
  |false=>simp(disch:=omega)only[c47,go_sem,Yv,p1];exact b
  |true=>
   cases p2:inB a.evs 1 4 with
   |false=>simp(disch:=omega)only[c47,go_sem,Yv,p1,p2];exact b
   |true=>
    by_cases p3:3<(a.cks.length:Int)
    ·simp(disch:=omega)only[c47,go_sem,Yv,p1,p2,hlC,p3];exact b
    by_cases p4:8<(a.rds.length:Int)
    ·simp(disch:=omega)only[c47,go_sem,Yv,p1,p2,hlC,hlR,p3,p4];exact b
    by_cases p5:4<(a.gps.length:Int)
    ·simp(disch:=omega)only[c47,go_sem,Yv,p1,p2,hlC,hlR,hlG,p3,p4,p5];exact b
    ·exfalso
     rw[p1,p2] at hsz'
     have e3:a.cks.length≤3:=by omega
     have e4:a.rds.length≤8:=by omega
     have e5:a.gps.length≤4:=by omega
     simp[e3,e4,e5] at hsz'
 have hs:=hsz
 simp only[At.sz,Bool.and_eq_true,decide_eq_true_eq] at hs
 obtain⟨p1,p2,p3,p4,p5⟩:=hs
 have p3':¬3<(a.cks.length:Int):=by omega
 have p4':¬8<(a.rds.length:Int):=by omega
 have p5':¬4<(a.gps.length:Int):=by omega
 simp(disch:=omega)only[c47,go_sem,Yv,p1,p2,hlC,hlR,hlG,p3',p4',p5']
 have hw1:=s1.wf
 refine Zk a.cks.length (fun i s=>RCs h a C R G 7 i (!((a.cks.take i).all Ck.bd)) false (!((a.cks.take i).all Ck.ord)) ((a.cks.take i).any Ck.lg) s) ?_ ?_ (i:=0) (Nat.zero_le _)
  ⟨_,_,rfl,⟨s1,by simp(disch:=omega)only[go_sem],ybb,ybb,ybb,ybb,ybb⟩,ybb⟩
 ·intro i s hi
  have hi':(i:Int)<(a.cks.length:Int):=by omega
  have hst:=take_at hi
  rw[hst,List.all_append,List.all_append,List.any_append]
  simp only[List.all_cons,List.all_nil,List.any_cons,List.any_nil,Bool.and_true,Bool.or_false,Bool.not_and]
  rw[a.cks[i].lg_eq,a.cks[i].ord_eq]
  have hbd:a.cks[i].bd=(within a.cks[i].sl a.cks[i].sh 60&&within a.cks[i].gl a.cks[i].gh 30):=rfl
  rw[hbd,Bool.not_and]
  generalize(!((a.cks.take i).all Ck.bd))=b3
  generalize(!((a.cks.take i).all Ck.ord))=b5
  generalize((a.cks.take i).any Ck.lg)=b6
  intro hs
  refine ZD (RCs h a C R G 7 i b3 false b5 b6) ?_ ?_
  ·obtain⟨tm,z,rfl,k,t7⟩:=hs
   obtain⟨zs,g1,t1,t3,t4,t5,t6⟩:=k
   simp(disch:=omega)only[go_sem,t1,t3,t4,t5,t6,t7,hi',Za g1,hlC]
   exact⟨_,_,rfl,⟨zs,g1,ybg,ybe,ybh,ybd,ybf⟩,ybi⟩
  clear hs
  intro s hs
  refine ZD (RCs h a C R G 7 i (b3||(!within a.cks[i].sl a.cks[i].sh 60|| !within a.cks[i].gl a.cks[i].gh 30)) false (b5||(decide (a.cks[i].sh<a.cks[i].sl)||decide (a.cks[i].gh<a.cks[i].gl))) (b6||(within a.cks[i].sl a.cks[i].sh 60&&decide (4<a.cks[i].sh - a.cks[i].sl)||within a.cks[i].gl a.cks[i].gh 30&&decide (4<a.cks[i].gh - a.cks[i].gl)))) ?_ ?_
  ·rw[W_block]
   refine ZD (RCp h a C R G 7 i 8 (Z9 a.cks[i]) b3 false b5 b6) ?_ ?_
   ·obtain⟨tm,z,rfl,k,t7⟩:=hs
    obtain⟨zs,g1,t1,t3,t4,t5,t6⟩:=id k
    obtain⟨b,o,cc,cs,eC,hc,hq,hg,_,_⟩:=(x.c.mono zs).at hi
    generalize a.cks[i]=c at hg⊢
    simp only[Z9] at hg⊢
    have hwz:=zs.wf
    simp(disch:=omega)only[go_sem,t1,t3,t4,t5,t6,t7,Za g1,hq (Zb i),hc,hg]
    exact⟨_,_,_,rfl,⟨(k.sub (yba)).1,(k.sub (yba)).2,ybg,ybe,ybh,ybd,ybf⟩,ybi,ybb,Zc rfl⟩
   clear hs
   intro s hs
   generalize a.cks[i]=c at hs⊢
   have f1:=fun hh Q=>far_eq hh c.sl c.sh 60 ybc Q
   have f2:=fun hh Q=>far_eq hh c.gl c.gh 30 ybc Q
   have wr1:within c.sl c.sh 60=true→wr .i64 (c.sh-c.sl)=c.sh-c.sl:=fun h=>by
    simp only[within,Bool.and_eq_true,Zs] at h
    exact Zo ybc ybc
   have wr2:within c.gl c.gh 30=true→wr .i64 (c.gh-c.gl)=c.gh-c.gl:=fun h=>by
    simp only[within,Bool.and_eq_true,Zs] at h
    exact Zo ybc ybc
   simp only[Z9] at hs⊢
   generalize within c.sl c.sh 60=w1 at f1 wr1⊢
   generalize within c.gl c.gh 30=w2 at f2 wr2⊢
   refine ZD (RCp h a C R G 7 i 8 (Z9 c) (b3||(!w1|| !w2)) false b5 b6) ?_ ?_
   ·obtain⟨tm,z,b,rfl,k,t7,t8,gb⟩:=hs
    obtain⟨zs,g1,t1,t3,t4,t5,t6⟩:=id k
    have hwz:=zs.wf
    have lb:=hwz _ _ gb
    simp only[Z9]
    cases b3<;>cases w1<;>cases w2
    all_goals
     simp(disch:=omega)only[go_sem,t1,t3,t4,t5,t6,t7,t8,Za gb,f1,f2]
     have sz:=H.Sub.refl hwz
     exact⟨_,_,_,rfl,⟨(k.sub (yba)).1,(k.sub (yba)).2,ybg,ybe,ybh,ybd,ybf⟩,ybi,ybw,(yba:z.Sub _).get gb⟩
   clear hs
   intro s hs
   generalize(b3||(!w1|| !w2))=b3' at hs⊢
   refine ZD (RCp h a C R G 7 i 8 (Z9 c) b3' false (b5||(decide (c.sh<c.sl)||decide (c.gh<c.gl))) b6) ?_ ?_
   ·obtain⟨tm,z,b,rfl,k,t7,t8,gb⟩:=hs
    obtain⟨zs,g1,t1,t3,t4,t5,t6⟩:=id k
    simp only[Z9] at gb⊢
    obtain⟨o1,ho1⟩:∃o1,decide (c.sh<c.sl)=o1:=⟨_,rfl⟩
    obtain⟨o2,ho2⟩:∃o2,decide (c.gh<c.gl)=o2:=⟨_,rfl⟩
    rw[ho1,ho2]
    cases b5<;>cases o1<;>cases o2
    all_goals
     simp(disch:=omega)only[go_sem,t1,t3,t4,t5,t6,t7,t8,Za gb,ho1,ho2]
     exact⟨_,_,_,rfl,⟨k.s,k.g1,ybg,ybe,ybh,ybd,ybf⟩,ybi,ybw,gb⟩
   clear hs
   intro s hs
   generalize(b5||(decide (c.sh<c.sl)||decide (c.gh<c.gl)))=b5' at hs⊢
   obtain⟨tm,z,b,rfl,k,t7,t8,gb⟩:=hs
   obtain⟨zs,g1,t1,t3,t4,t5,t6⟩:=id k
   have hwz:=zs.wf
   have lb:=hwz _ _ gb
   simp only[Z9] at gb
   obtain⟨d1,hd1⟩:∃d1,decide (4<c.sh-c.sl)=d1:=⟨_,rfl⟩
   obtain⟨d2,hd2⟩:∃d2,decide (4<c.gh-c.gl)=d2:=⟨_,rfl⟩
   rw[hd1,hd2]
   cases b6<;>cases w1<;>cases w2<;>cases d1<;>cases d2
   all_goals
    simp -implicitDefEqProofs(disch:=first|omega|simp only[nZ]<;>omega|fail)only[go_sem,t1,t3,t4,t5,t6,t7,t8,Za gb,f1,f2,hd1,hd2,wr1,wr2]
    have sz:=H.Sub.refl hwz
    exact⟨_,_,rfl,⟨(k.sub (yba)).1,(k.sub (yba)).2,ybg,ybe,ybh,ybd,ybf⟩,ybi⟩
  clear hs
  rintro s ⟨tm,z,rfl,⟨zs,g1,t1,t3,t4,t5,t6⟩,t7⟩
  simp(disch:=omega)only[go_sem,t1,t3,t4,t5,t6,t7,Zj]
  exact⟨_,_,rfl,⟨zs,g1,ybg,ybe,ybh,ybd,ybf⟩,ybb⟩
 ·rintro s ⟨tm,z,rfl,⟨zs,g1,t1,t3,t4,t5,t6⟩,t7⟩
  rw[List.take_length] at t3 t5 t6
  simp(disch:=omega)only[go_sem,t1,t3,t4,t5,t6,t7,Za g1,hlC,Int.lt_irrefl]
  refine Zk a.rds.length (fun i s=>RCs h a C R G 9 i (!(a.cks.all Ck.bd)|| !((a.rds.take i).all Rd.bd)) (!((a.rds.take i).all a.rdOk)) (!(a.cks.all Ck.ord)) (a.cks.any Ck.lg) s) ?_ ?_ (i:=0) (Nat.zero_le _)
   ⟨_,_,rfl,⟨zs,g1,ybg,by rw[List.take_zero,List.all_nil,Bool.not_true,Bool.or_false];exact ybe,ybh,ybd,ybf⟩,ybb⟩
  ·clear t1 t3 t4 t5 t6 t7 g1 zs
   intro i s hi
   have hi':(i:Int)<(a.rds.length:Int):=by omega
   have hst:=take_at hi
   rw[hst,List.all_append,List.all_append]
   simp only[List.all_cons,List.all_nil,Bool.and_true,Bool.not_and]
   rw[←Bool.or_assoc]
   generalize(!(a.cks.all Ck.bd)|| !((a.rds.take i).all Rd.bd))=b3
   generalize(!((a.rds.take i).all a.rdOk))=b4
   generalize(!(a.cks.all Ck.ord))=b5
   generalize(a.cks.any Ck.lg)=b6
   intro hs
   have w1:wr .i64 ((a.cks.length:Int)-1)=(a.cks.length:Int)-1:=Zo ybc ybc
   have ev1:=(Zs ..).1 p2
   have w2:wr .i64 (a.evs-1)=a.evs-1:=Zo ybc ybc
   refine ZD (RCs h a C R G 9 i b3 b4 b5 b6) ?_ ?_
   ·obtain⟨tm,z,rfl,k,t7⟩:=hs
    obtain⟨zs,g1,t1,t3,t4,t5,t6⟩:=k
    simp(disch:=omega)only[go_sem,t1,t3,t4,t5,t6,t7,hi',Za g1,hlR]
    exact⟨_,_,rfl,⟨zs,g1,ybg,ybe,ybh,ybd,ybf⟩,ybi⟩
   clear hs
   intro s hs
   refine ZD (RCs h a C R G 9 i (b3|| !Rd.bd a.rds[i]) (b4|| !a.rdOk a.rds[i]) b5 b6) ?_ ?_
   ·rw[W_block]
    refine ZD (RCp h a C R G 9 i 10 (encR a.rds[i]) b3 b4 b5 b6) ?_ ?_
    ·obtain⟨tm,z,rfl,k,t7⟩:=hs
     obtain⟨zs,g1,t1,t3,t4,t5,t6⟩:=id k
     obtain⟨b,o,cc,cs,eC,hc,hq,hg,_,_⟩:=(x.r.mono zs).at hi
     generalize a.rds[i]=c at hg⊢
     simp only[encR] at hg⊢
     have hwz:=zs.wf
     simp(disch:=omega)only[go_sem,t1,t3,t4,t5,t6,t7,Za g1,hq (Zb i),hc,hg]
     exact⟨_,_,_,rfl,⟨(k.sub (yba)).1,(k.sub (yba)).2,ybg,ybe,ybh,ybd,ybf⟩,ybi,ybb,Zc rfl⟩
    clear hs
    intro s hs
    generalize a.rds[i]=c at hs⊢
    have ebd:c.bd=inB c.sh (-999) 999:=rfl
    have eok:a.rdOk c=(inB c.ck 0 ((a.cks.length:Int)-1)&&inB c.ev 0 (a.evs-1)):=rfl
    rw[ebd,eok,Bool.not_and]
    have f0:=fun hh Q=>Yv hh c.sh (-999) 999 Q
    have f1:=fun hh Q=>Yv hh c.ck 0 ((a.cks.length:Int)-1) Q
    have f2:=fun hh Q=>Yv hh c.ev 0 (a.evs-1) Q
    simp only[encR] at hs⊢
    generalize inB c.sh (-999) 999=u0 at f0⊢
    generalize inB c.ck 0 ((a.cks.length:Int)-1)=u1 at f1⊢
    generalize inB c.ev 0 (a.evs-1)=u2 at f2⊢
    refine ZD (RCp h a C R G 9 i 10 (encR c) (b3|| !u0) b4 b5 b6) ?_ ?_
    ·obtain⟨tm,z,b,rfl,k,t7,t8,gb⟩:=hs
     obtain⟨zs,g1,t1,t3,t4,t5,t6⟩:=id k
     simp only[encR]
     cases b3
     all_goals
      simp(disch:=omega)only[go_sem,t1,t3,t4,t5,t6,t7,t8,Za gb,f0]
      exact⟨_,_,_,rfl,⟨k.s,k.g1,ybg,ybe,ybh,ybd,ybf⟩,ybi,ybw,gb⟩
    clear hs
    intro s hs
    generalize(b3|| !u0)=b3' at hs⊢
    obtain⟨tm,z,b,rfl,k,t7,t8,gb⟩:=hs
    obtain⟨zs,g1,t1,t3,t4,t5,t6⟩:=id k
    simp only[encR] at gb
    cases b4<;>cases u1<;>cases u2
    all_goals
     simp(disch:=omega)only[go_sem,t1,t3,t4,t5,t6,t7,t8,Za gb,Za g1,hlC,w1,w2,f1,f2]
     exact⟨_,_,rfl,⟨k.s,k.g1,ybg,ybe,ybh,ybd,ybf⟩,ybi⟩
   clear hs
   rintro s ⟨tm,z,rfl,⟨zs,g1,t1,t3,t4,t5,t6⟩,t7⟩
   simp(disch:=omega)only[go_sem,t1,t3,t4,t5,t6,t7,Zj]
   exact⟨_,_,rfl,⟨zs,g1,ybg,ybe,ybh,ybd,ybf⟩,ybb⟩
  clear t1 t3 t4 t5 t6 t7 g1 zs
  rintro s ⟨tm,z,rfl,⟨zs,g1,t1,t3,t4,t5,t6⟩,t7⟩
  rw[List.take_length] at t3 t4
  simp(disch:=omega)only[go_sem,t1,t3,t4,t5,t6,t7,Za g1,hlR,Int.lt_irrefl]
  refine Zk a.gps.length (fun i s=>RCs h a C R G 11 i (!(a.cks.all Ck.bd)|| !(a.rds.all Rd.bd)|| !((a.gps.take i).all Gp.bd)) (!(a.rds.all a.rdOk)|| !((a.gps.take i).all a.gpOk)) (!(a.cks.all Ck.ord)|| !((a.gps.take i).all Gp.ord)) (a.cks.any Ck.lg) s) ?_ ?_ (i:=0) (Nat.zero_le _)
   ⟨_,_,rfl,⟨zs,g1,ybg,by rw[List.take_zero,List.all_nil,Bool.not_true,Bool.or_false];exact ybe,by rw[List.take_zero,List.all_nil,Bool.not_true,Bool.or_false];exact ybh,by rw[List.take_zero,List.all_nil,Bool.not_true,Bool.or_false];exact ybd,ybf⟩,ybb⟩
  ·clear t1 t3 t4 t5 t6 t7 g1 zs
   intro i s hi
   have hi':(i:Int)<(a.gps.length:Int):=by omega
   have hst:=take_at hi
   rw[hst,List.all_append,List.all_append,List.all_append]
   simp only[List.all_cons,List.all_nil,Bool.and_true,Bool.not_and]
   rw[←Bool.or_assoc,←Bool.or_assoc,←Bool.or_assoc]
   generalize(!(a.cks.all Ck.bd)|| !(a.rds.all Rd.bd)|| !((a.gps.take i).all Gp.bd))=b3
   generalize(!(a.rds.all a.rdOk)|| !((a.gps.take i).all a.gpOk))=b4
   generalize(!(a.cks.all Ck.ord)|| !((a.gps.take i).all Gp.ord))=b5
   generalize(a.cks.any Ck.lg)=b6
   intro hs
   have ev1:=(Zs ..).1 p2
   have w2:wr .i64 (a.evs-1)=a.evs-1:=Zo ybc ybc
   refine ZD (RCs h a C R G 11 i b3 b4 b5 b6) ?_ ?_
   ·obtain⟨tm,z,rfl,k,t7⟩:=hs
    obtain⟨zs,g1,t1,t3,t4,t5,t6⟩:=k
    simp(disch:=omega)only[go_sem,t1,t3,t4,t5,t6,t7,hi',Za g1,hlG]
    exact⟨_,_,rfl,⟨zs,g1,ybg,ybe,ybh,ybd,ybf⟩,ybi⟩
   clear hs
   intro s hs
   refine ZD (RCs h a C R G 11 i (b3|| !Gp.bd a.gps[i]) (b4|| !a.gpOk a.gps[i]) (b5|| !Gp.ord a.gps[i]) b6) ?_ ?_
   ·rw[W_block]
    refine ZD (RCp h a C R G 11 i 12 (ZF a.gps[i]) b3 b4 b5 b6) ?_ ?_
    ·obtain⟨tm,z,rfl,k,t7⟩:=hs
     obtain⟨zs,g1,t1,t3,t4,t5,t6⟩:=id k
     obtain⟨b,o,cc,cs,eC,hc,hq,hg,_,_⟩:=(x.g.mono zs).at hi
     generalize a.gps[i]=c at hg⊢
     simp only[ZF] at hg⊢
     have hwz:=zs.wf
     simp(disch:=omega)only[go_sem,t1,t3,t4,t5,t6,t7,Za g1,hq (Zb i),hc,hg]
     exact⟨_,_,_,rfl,⟨(k.sub (yba)).1,(k.sub (yba)).2,ybg,ybe,ybh,ybd,ybf⟩,ybi,ybb,Zc rfl⟩
    clear hs
    intro s hs
    generalize a.gps[i]=c at hs⊢
    have ebd:c.bd=within c.lo c.hi 240:=rfl
    have eok:a.gpOk c=(inB c.fr 0 (a.evs-1)&&inB c.to 0 (a.evs-1)):=rfl
    have eod:(!c.ord)=decide (c.hi<c.lo):=by rw[Bool.eq_iff_iff];simp[Gp.ord]<;>omega
    rw[ebd,eok,eod,Bool.not_and]
    have f0:=fun hh Q=>far_eq hh c.lo c.hi 240 ybc Q
    have f1:=fun hh Q=>Yv hh c.fr 0 (a.evs-1) Q
    have f2:=fun hh Q=>Yv hh c.to 0 (a.evs-1) Q
    simp only[ZF] at hs⊢
    generalize within c.lo c.hi 240=u0 at f0⊢
    generalize inB c.fr 0 (a.evs-1)=u1 at f1⊢
    generalize inB c.to 0 (a.evs-1)=u2 at f2⊢
    obtain⟨o1,ho1⟩:∃o1,decide (c.hi<c.lo)=o1:=⟨_,rfl⟩
    rw[ho1]
    refine ZD (RCp h a C R G 11 i 12 (ZF c) (b3|| !u0) b4 b5 b6) ?_ ?_
    ·obtain⟨tm,z,b,rfl,k,t7,t8,gb⟩:=hs
     obtain⟨zs,g1,t1,t3,t4,t5,t6⟩:=id k
     have hwz:=zs.wf
     simp only[ZF]
     cases b3
     all_goals
      simp(disch:=omega)only[go_sem,t1,t3,t4,t5,t6,t7,t8,Za gb,f0]
      have sz:=H.Sub.refl hwz
      exact⟨_,_,_,rfl,⟨(k.sub (yba)).1,(k.sub (yba)).2,ybg,ybe,ybh,ybd,ybf⟩,ybi,ybw,(yba:z.Sub _).get gb⟩
    clear hs
    intro s hs
    generalize(b3|| !u0)=b3' at hs⊢
    refine ZD (RCp h a C R G 11 i 12 (ZF c) b3' (b4||(!u1|| !u2)) b5 b6) ?_ ?_
    ·obtain⟨tm,z,b,rfl,k,t7,t8,gb⟩:=hs
     obtain⟨zs,g1,t1,t3,t4,t5,t6⟩:=id k
     simp only[ZF] at gb⊢
     cases b4<;>cases u1<;>cases u2
     all_goals
      simp(disch:=omega)only[go_sem,t1,t3,t4,t5,t6,t7,t8,Za gb,Za g1,w2,f1,f2]
      exact⟨_,_,_,rfl,⟨k.s,k.g1,ybg,ybe,ybh,ybd,ybf⟩,ybi,ybw,gb⟩
    clear hs
    intro s hs
    generalize(b4||(!u1|| !u2))=b4' at hs⊢
    obtain⟨tm,z,b,rfl,k,t7,t8,gb⟩:=hs
    obtain⟨zs,g1,t1,t3,t4,t5,t6⟩:=id k
    simp only[ZF] at gb
    cases b5
    all_goals
     simp(disch:=omega)only[go_sem,t1,t3,t4,t5,t6,t7,t8,Za gb,ho1]
     exact⟨_,_,rfl,⟨k.s,k.g1,ybg,ybe,ybh,ybd,ybf⟩,ybi⟩
   clear hs
   rintro s ⟨tm,z,rfl,⟨zs,g1,t1,t3,t4,t5,t6⟩,t7⟩
   simp(disch:=omega)only[go_sem,t1,t3,t4,t5,t6,t7,Zj]
   exact⟨_,_,rfl,⟨zs,g1,ybg,ybe,ybh,ybd,ybf⟩,ybb⟩
  clear t1 t3 t4 t5 t6 t7 g1 zs
  rintro s ⟨tm,z,rfl,⟨zs,g1,t1,t3,t4,t5,t6⟩,t7⟩
  rw[List.take_length] at t3 t4 t5
  have q':=q z zs
  rw[chk_of hsz] at q'
  simp(disch:=omega)only[go_sem,t1,t3,t4,t5,t6,t7,Za g1,hlG,Int.lt_irrefl]
  generalize(!(a.cks.all Ck.bd)|| !(a.rds.all Rd.bd)|| !(a.gps.all Gp.bd))=b3 at q' t3⊢
  generalize(!(a.rds.all a.rdOk)|| !(a.gps.all a.gpOk))=b4 at q' t4⊢
  generalize(!(a.cks.all Ck.ord)|| !(a.gps.all Gp.ord))=b5 at q' t5⊢
  generalize(a.cks.any Ck.lg)=b6 at q' t6⊢
  cases b3 with
  |true=>simp(disch:=omega)only[go_sem,t1,t3,t4,t5,t6];exact q'
  |false=>
   cases b4 with
   |true=>simp(disch:=omega)only[go_sem,t1,t3,t4,t5,t6];exact q'
   |false=>
    cases b5 with
    |true=>simp(disch:=omega)only[go_sem,t1,t3,t4,t5,t6];exact q'
    |false=>
     cases b6 with
     |true=>simp(disch:=omega)only[go_sem,t1,t3,t4,t5,t6];exact q'
     |false=>simp(disch:=omega)only[go_sem,t1,t3,t4,t5,t6];exact q'
end Go.Ab.Tryz
namespace Go.Ab.Tryz
open Go.Proofs
def latY (L:List Int)(f b:Nat):Int:=mg L f b-mg L f 4
theorem Vq {a:At}(r:Zl a){cnt:Nat→Bool}{t:ZZ × List Int}(ht:t∈Zw a cnt){f:Nat}(hf:f<5):Tru a cnt t.1 (latY t.2 f):=by
 obtain⟨tri,_,_,hs⟩:=Yn r ht
 refine(hs _ (by simp[latY])).1 fun c d hc hd=>?_
 have:=tri.tri f d c hf hd hc
 unfold latY;omega
theorem lat_4 {a:At}(r:Zl a){cnt:Nat→Bool}{t:ZZ × List Int}(ht:t∈Zw a cnt)(b:Nat):latY t.2 4 b=mg t.2 4 b:=by
 have:=cases_diag r ht (u:=4) ybc
 unfold latY;omega
theorem lat_self {a:At}(r:Zl a){cnt:Nat→Bool}{t:ZZ × List Int}(ht:t∈Zw a cnt){b:Nat}(hb:b<5):latY t.2 b b= -mg t.2 b 4:=by
 have:=cases_diag r ht (u:=b) hb
 unfold latY;omega
def XC (c:Ck)(x:Int × Int):Bool:=inB x.1 c.sl c.sh&&inB x.2 c.gl c.gh
def WX (ss gg tt:List Int)(r:Rd):Bool:=decide (shw (ss.getD r.ck.toNat 0) (gg.getD r.ck.toNat 0) (tt.getD r.ev.toNat 0)=r.sh)
def gpFit (tt:List Int)(g:Gp):Bool:=inB (tt.getD g.to.toNat 0-tt.getD g.fr.toNat 0) g.lo g.hi
def Wu (a:At)(ss gg tt:List Int):Bool:=decide (ss.length=a.cks.length)&&(decide (gg.length=a.cks.length)&&decide ((tt.length:Int)=a.evs))
def YX (a:At)(ss gg:List Int):Bool:=(a.cks.zip (ss.zip gg)).all fun x=>XC x.1 x.2
def WR (a:At)(tt:List Int):Bool:=tt.all fun t=>inB t 0 a.mins
def VV (a:At)(ss gg tt:List Int):Bool:=Wu a ss gg tt&&(WR a tt&&(YX a ss gg&&(a.rds.all (WX ss gg tt)&&a.gps.all (gpFit tt))))
theorem Y4 {a:At}{ss gg tt:List Int}:Wu a ss gg tt=true↔ss.length=a.cks.length∧gg.length=a.cks.length∧(tt.length:Int)=a.evs:=by
 simp only[Wu,Bool.and_eq_true,decide_eq_true_eq]
theorem getD_at {l:List Int}{i:Nat}(h:i<l.length):l.getD i 0=l[i]:=by rw[List.getD_eq_getElem?_getD,List.getElem?_eq_getElem h];rfl
theorem Zl.rdn {a:At}(r:Zl a){x:Rd}(hx:x∈a.rds):∃i e:Nat,x.ck=i∧x.ev=e∧i<a.cks.length∧(e:Int)<a.evs∧e<4:=by
 have h:=r.ro x hx
 have he:=r.evs
 simp only[At.rdOk,At.ckB,At.evB,Bool.and_eq_true,Zs] at h
 exact⟨x.ck.toNat,x.ev.toNat,by omega,by omega,by omega,by omega,by omega⟩
theorem Zl.gpn {a:At}(r:Zl a){x:Gp}(hx:x∈a.gps):∃i e:Nat,x.fr=i∧x.to=e∧(i:Int)<a.evs∧(e:Int)<a.evs∧i<4∧e<4:=by
 have h:=r.go x hx
 have he:=r.evs
 simp only[At.gpOk,At.evB,Bool.and_eq_true,Zs] at h
 exact⟨x.fr.toNat,x.to.toNat,by omega,by omega,by omega,by omega,by omega,by omega⟩
theorem Wa {ss gg:List Int}{i:Nat}{s:Int × Int}:(ss.zip gg)[i]? =some s↔ss[i]? =some s.1∧gg[i]? =some s.2:=List.getElem?_zip_eq_some
theorem fitB_iff {a:At}(r:Zl a){ss gg tt:List Int}:VV a ss gg tt=true↔(ss.length=a.cks.length∧gg.length=a.cks.length∧(tt.length:Int)=a.evs)∧Tru a (fun _=>true) (ss.zip gg) (Zr tt):=by
 have he:=r.evs
 have hm:=r.mins
 simp only[VV,Bool.and_eq_true,Y4,WR,YX,List.all_eq_true]
 refine and_congr_right fun⟨l1,l2,l3⟩=>⟨fun⟨h1,h2,h3,h4⟩=>?_,fun t=>⟨fun n hn=>?_,fun x hx=>?_,fun x hx=>?_,fun x hx=>?_⟩⟩
 ·refine⟨by rw[List.length_zip,l1,l2,Nat.min_self],fun k s hs=>?_,?_,fun e _=>?_,fun g hg=>?_,fun j x hx _ s hs=>?_⟩
  ·obtain⟨q1,q2⟩:=Wa.1 hs
   have hk:=Vf q1
   have hc:a.cks[k]? =some a.cks[k]:=List.getElem?_eq_getElem ybc
   have:=h2 (a.cks[k],s) (List.mem_of_getElem? (i:=k) (List.getElem?_zip_eq_some.2 ⟨hc,hs⟩))
   simp only[XC,Bool.and_eq_true,Zs] at this
   exact Wn.mk' hc this.1.1 this.1.2 this.2.1 this.2.2
  ·unfold Zr
   rw[List.getD_eq_getElem?_getD,List.getElem?_eq_none ybc];rfl
  ·unfold Zr
   rw[List.getD_eq_getElem?_getD]
   cases h:tt[e]? with
   |none=>exact⟨Int.le_refl _,by show(0:Int)≤_;omega⟩
   |some t=>exact(Zs ..).1 (h1 t (List.mem_of_getElem? h))
  ·have:=h4 g hg
   simp only[gpFit,Zs] at this
   exact this
  ·obtain⟨q1,q2⟩:=Wa.1 hs
   have:=h3 x (List.mem_of_getElem? hx)
   simp only[WX,decide_eq_true_eq] at this
   rw[List.getD_eq_getElem?_getD,List.getD_eq_getElem?_getD,q1,q2] at this
   exact this
 ·obtain⟨i,hi,rfl⟩:=List.mem_iff_getElem.1 hn
  have:=t.mins i ybc
  rw[Zs]
  rwa[XG (List.getElem?_eq_getElem hi)] at this
 ·obtain⟨i,hi⟩:=List.mem_iff_getElem?.1 hx
  obtain⟨q1,q2⟩:=List.getElem?_zip_eq_some.1 hi
  obtain⟨⟨c,hc,h1,h2,h3,h4⟩⟩:=t.run i _ q2
  rw[q1] at hc;cases hc
  simp only[XC,Bool.and_eq_true,Zs]
  exact⟨⟨h1,h2⟩,h3,h4⟩
 ·obtain⟨j,hj⟩:=List.mem_iff_getElem?.1 hx
  obtain⟨i,e,ei,ee,hi,_,_⟩:=r.rdn hx
  have hs:(ss.zip gg)[x.ck.toNat]? =some (ss.getD x.ck.toNat 0,gg.getD x.ck.toNat 0):=by
   rw[ei,Int.toNat_natCast,Wa,getD_at ybc,getD_at ybc]
   exact⟨List.getElem?_eq_getElem ybc,List.getElem?_eq_getElem ybc⟩
  simp only[WX,decide_eq_true_eq]
  exact t.rds j x hj rfl _ hs
 ·simp only[gpFit,Zs]
  exact t.gaps x hx
theorem Tru.cut {a:At}(r:Zl a){cnt:Nat→Bool}{runs:ZZ}{y:Nat→Int}(t:Tru a cnt runs y):Tru a cnt runs (Zr ((List.range a.evs.toNat).map y)):=by
 have he:=r.evs
 have hm:=r.mins
 have key:∀e:Nat,(e:Int)<a.evs→Zr ((List.range a.evs.toNat).map y) e=y e:=fun e h=>XG (by rw[List.getElem?_map,List.getElem?_range (by omega)];rfl)
 have key2:∀e:Nat,a.evs≤(e:Int)→Zr ((List.range a.evs.toNat).map y) e=0:=fun e h=>by
  unfold Zr
  rw[List.getD_eq_getElem?_getD,List.getElem?_eq_none (by rw[List.length_map,List.length_range];omega)];rfl
 refine⟨t.len,t.run,key2 4 ybc,fun e h=>?_,fun g hg=>?_,fun j x hx hc s hs=>?_⟩
 ·rcases(by omega:(e:Int)<a.evs∨a.evs≤(e:Int)) with h1|h1
  ·rw[key e h1];exact t.mins e h
  ·rw[key2 e h1];omega
 ·obtain⟨i,e,e1,e2,h1,h2,_,_⟩:=r.gpn hg
  have:=t.gaps g hg
  rw[e1,e2,Int.toNat_natCast,Int.toNat_natCast] at this⊢
  rw[key i h1,key e h2];exact this
 ·obtain⟨i,e,e1,e2,_,h2,_⟩:=r.rdn (List.mem_of_getElem? hx)
  have:=t.rds j x hx hc s hs
  rw[e2,Int.toNat_natCast] at this⊢
  rw[key e h2];exact this
theorem zip_unzip (l:ZZ):(l.map Prod.fst).zip (l.map Prod.snd)=l:=by
 induction l with
 |nil=>rfl
 |cons x l ih=>simp only[List.map_cons,List.zip_cons_cons,ih]
theorem Tru.fit {a:At}(r:Zl a){runs:ZZ}{y:Nat→Int}(t:Tru a (fun _=>true) runs y):VV a (runs.map Prod.fst) (runs.map Prod.snd) ((List.range a.evs.toNat).map y)=true:=by
 have he:=r.evs
 refine(fitB_iff r).2 ⟨⟨by rw[List.length_map];exact t.len,by rw[List.length_map];exact t.len,by rw[List.length_map,List.length_range];omega⟩,?_⟩
 rw[zip_unzip]
 exact t.cut r
end Go.Ab.Tryz
namespace Go.Ab.Tryz
open Go.Proofs
abbrev TruA (a:At) (runs:ZZ) (y:Nat→Int):Prop:=Tru a (fun _=>true) runs y
theorem noC {a:At}(r:Zl a):ZR a=[]↔∀runs y,¬TruA a runs y:=by
 constructor
 ·intro h runs y t
  obtain⟨L,hL⟩:=W9 r t
  have:(runs,L)∈ZR a:=hL
  rw[h] at this;cases this
 ·intro h
  cases hc:ZR a with
  |nil=>rfl
  |cons t l=>
   have ht:t∈Zw a (fun _=>true):=by show t∈ZR a;rw[hc];exact List.mem_cons_self ..
   exact absurd (Vq r ht (f:=4) ybc) (h _ _)
theorem betw_hi {a:At}(r:Zl a)(hne:ZR a≠[]){f t:Nat}(hf:f<5)(ht:t<5):∃runs y,TruA a runs y∧y t-y f=(Xe f t (allM a)).2:=by
 obtain⟨M,hM,h1⟩:=betw_ex (f:=f) (t:=t) (l:=allM a) (fun e=>hne (List.map_eq_nil_iff.1 e))
 obtain⟨u,hu,rfl⟩:=List.mem_map.1 hM
 exact⟨u.1,latY u.2 f,Vq r hu hf,by have:=cases_diag r hu hf;unfold latY;omega⟩
theorem betw_lo {a:At}(r:Zl a)(hne:ZR a≠[]){f t:Nat}(hf:f<5)(ht:t<5):∃runs y,TruA a runs y∧y t-y f=(Xe f t (allM a)).1:=by
 obtain⟨runs,y,h,e⟩:=betw_hi r hne ht hf
 refine⟨runs,y,h,?_⟩
 rw[betw_dual] at e
 simp only at e
 omega
def At.addR (a:At)(x:Rd):At:={a with rds:=a.rds++[x]}
def At.addG (a:At)(g:Gp):At:={a with gps:=a.gps++[g]}
def At.addC (a:At)(c:Ck):At:={a with cks:=a.cks++[c]}
theorem Xw {α:Type}{l:List α}{x:α}{i:Nat}{y:α}:(l++[x])[i]? =some y↔l[i]? =some y∨i=l.length∧y=x:=by
 rcases Nat.lt_trichotomy i l.length with h|h|h
 ·rw[List.getElem?_append_left h]
  constructor
  ·exact .inl
  ·rintro(h'|⟨h',_⟩)
   ·exact h'
   ·omega
 ·subst h
  rw[List.getElem?_append_right (Nat.le_refl _),Nat.sub_self,List.getElem?_eq_none (Nat.le_refl _)]
  simp only[List.getElem?_cons_zero,Option.some.injEq,reduceCtorEq,false_or,true_and]
  exact eq_comm
 ·rw[List.getElem?_eq_none (by simp;omega),List.getElem?_eq_none ybc]
  constructor
  ·intro h';cases h'
  ·rintro(h'|⟨h',_⟩)
   ·cases h'
   ·omega
end Go.Ab.Tryz
namespace Go.Ab
def dd {α:Type}[DecidableEq α](l:List α):Nat→List α
 |0=>[]
 |n+1=>match l[n]? with
  |none=>dd l n
  |some x=>if 0<n∧l[n-1]? =some x then dd l n else dd l n++[x]
section
variable {α:Type} [DecidableEq α] {l:List α}
theorem dd_same {n:Nat}{x:α}(h:l[n]? =some x)(h2:0<n∧l[n-1]? =some x):dd l (n+1)=dd l n:=by simp only[dd,h];rw[if_pos h2]
theorem dd_new {n:Nat}{x:α}(h:l[n]? =some x)(h2:¬(0<n∧l[n-1]? =some x)):dd l (n+1)=dd l n++[x]:=by simp only[dd,h];rw[if_neg h2]
theorem dd_mem {x:α}:∀{n:Nat},x∈dd l n↔∃i,i<n∧l[i]? =some x
 |0=>by simp[dd]
 |n+1=>by
  have ih:=dd_mem (x:=x) (n:=n)
  cases h:l[n]? with
  |none=>
   simp only[dd,h]
   rw[ih]
   constructor
   ·rintro⟨i,hi,e⟩;exact⟨i,by omega,e⟩
   ·rintro⟨i,hi,e⟩
    by_cases hn:i=n
    ·subst hn;rw[h] at e;cases e
    ·exact⟨i,by omega,e⟩
  |some z=>
   by_cases h2:0<n∧l[n-1]? =some z
   ·rw[dd_same h h2,ih]
    constructor
    ·rintro⟨i,hi,e⟩;exact⟨i,by omega,e⟩
    ·rintro⟨i,hi,e⟩
     by_cases hn:i=n
     ·subst hn;rw[h] at e;cases e;exact⟨i-1,by omega,h2.2⟩
     ·exact⟨i,by omega,e⟩
   ·rw[dd_new h h2,List.mem_append,List.mem_singleton,ih]
    constructor
    ·rintro(⟨i,hi,e⟩|rfl)
     ·exact⟨i,by omega,e⟩
     ·exact⟨n,by omega,h⟩
    ·rintro⟨i,hi,e⟩
     by_cases hn:i=n
     ·subst hn;rw[h] at e;cases e;exact .inr rfl
     ·exact .inl ⟨i,by omega,e⟩
theorem dd_all {x:α}:x∈dd l l.length↔x∈l:=by
 rw[dd_mem,List.mem_iff_getElem?]
 constructor
 ·rintro⟨i,_,e⟩;exact⟨i,e⟩
 ·rintro⟨i,e⟩
  refine⟨i,?_,e⟩
  rcases Nat.lt_or_ge i l.length with q|q
  ·exact q
  ·rw[List.getElem?_eq_none q] at e;cases e
theorem dd_len:∀{n:Nat},(dd l n).length≤n
 |0=>by simp[dd]
 |n+1=>by
  have ih:=dd_len (n:=n)
  unfold dd
  split
  ·omega
  ·split
   ·omega
   ·rw[List.length_append,List.length_singleton];omega
theorem dd_pos {n:Nat}(hl:0<l.length)(hn:0<n):0<(dd l n).length:=by
 have:l[0]∈dd l n:=dd_mem.2 ⟨0,hn,List.getElem?_eq_getElem hl⟩
 exact List.length_pos_of_mem this
end
theorem dd_rise {l:List Int}(h:l.Pairwise (· ≤ ·)):∀{n:Nat},n≤l.length→(dd l n).Pairwise (· < ·)
 |0,_=>by simp[dd]
 |n+1,hn=>by
  have ih:=dd_rise h (n:=n) ybc
  have hx:l[n]? =some l[n]:=List.getElem?_eq_getElem ybc
  by_cases h2:0<n∧l[n-1]? =some l[n]
  ·rw[dd_same hx h2];exact ih
  ·rw[dd_new hx h2,List.pairwise_append]
   refine⟨ih,List.pairwise_singleton ..,fun a ha b hb=>?_⟩
   rw[List.mem_singleton] at hb;subst hb
   obtain⟨i,hi,e⟩:=dd_mem.1 ha
   have hp:=List.pairwise_iff_getElem.1 h
   rw[List.getElem?_eq_getElem ybc] at e
   cases e
   have h3:=hp i n ybc ybc hi
   have hm:=hp (n-1) n ybc ybc ybc
   have him:l[i]≤l[n-1]:=by
    by_cases e:i=n-1
    ·subst e;exact Int.le_refl _
    ·exact hp i (n-1) ybc ybc ybc
   have hne:l[n-1]≠l[n]:=fun e=>h2 ⟨by omega,by rw[List.getElem?_eq_getElem ybc,e]⟩
   omega
theorem rise_eq:∀{l r:List Int},l.Pairwise (· < ·)→r.Pairwise (· < ·)→(∀x,x∈l↔x∈r)→l=r
 |[],[],_,_,_=>rfl
 |[],b::r,_,_,h=>absurd ((h b).2 (List.mem_cons_self ..)) List.not_mem_nil
 |a::l,[],_,_,h=>absurd ((h a).1 (List.mem_cons_self ..)) List.not_mem_nil
 |a::l,b::r,h1,h2,h=>by
  rw[List.pairwise_cons] at h1 h2
  have e:a=b:=by
   have ha:=(h a).1 (List.mem_cons_self ..)
   have hb:=(h b).2 (List.mem_cons_self ..)
   rcases List.mem_cons.1 ha with ha|ha
   ·exact ha
   rcases List.mem_cons.1 hb with hb|hb
   ·exact hb.symm
   have:=h1.1 b hb;have:=h2.1 a ha;omega
  subst e
  rw[rise_eq h1.2 h2.2 fun x=>?_]
  constructor
  ·intro hx
   rcases List.mem_cons.1 ((h x).1 (List.mem_cons_of_mem _ hx)) with e|e
   ·have:=h1.1 x hx;omega
   ·exact e
  ·intro hx
   rcases List.mem_cons.1 ((h x).2 (List.mem_cons_of_mem _ hx)) with e|e
   ·have:=h2.1 x hx;omega
   ·exact e
def WW (l:List Int):List Int:=dd (Z0 l) (Z0 l).length
theorem risL_mem {l:List Int}{x:Int}:x∈WW l↔x∈l:=by unfold WW;rw[dd_all];exact(WS l).mem_iff
theorem risL_rise (l:List Int):(WW l).Pairwise (· < ·):=dd_rise (Ud l) (Nat.le_refl _)
theorem rise_head {l:List Int}(h:l.Pairwise (· < ·)){x:Int}(hx:x∈l)(h0:0<l.length):l[0]≤x:=by
 obtain⟨i,hi,rfl⟩:=List.mem_iff_getElem.1 hx
 by_cases e:i=0
 ·subst e;exact Int.le_refl _
 ·have:=List.pairwise_iff_getElem.1 h 0 i h0 hi ybc;omega
theorem rise_last {l:List Int}(h:l.Pairwise (· < ·)){x:Int}(hx:x∈l):x≤l[l.length-1]'(by have:=List.length_pos_of_mem hx;omega):=by
 obtain⟨i,hi,rfl⟩:=List.mem_iff_getElem.1 hx
 by_cases e:i=l.length-1
 ·subst e;exact Int.le_refl _
 ·have:=List.pairwise_iff_getElem.1 h i (l.length-1) hi ybc ybc;omega
namespace Tryz
open Go.Proofs
def runsK (a:At)(k:Nat):ZZ:=(ZR a).map fun t=>t.1.getD k (0,0)
def setL (a:At)(k:Nat)(of:Int × Int→Int):List Int:=WW ((dd (runsK a k) (runsK a k).length).map of)
theorem setL_rise (a:At)(k:Nat)(of:Int × Int→Int):(setL a k of).Pairwise (· < ·):=risL_rise _
theorem setL_mem {a:At}(r:Zl a){k:Nat}(hk:k<a.cks.length){of:Int × Int→Int}{n:Int}:n∈setL a k of↔∃runs y s,TruA a runs y∧runs[k]? =some s∧of s=n:=by
 unfold setL
 rw[risL_mem,List.mem_map]
 constructor
 ·rintro⟨s,hs,e⟩
  rw[dd_all,runsK,List.mem_map] at hs
  obtain⟨t,ht,es⟩:=hs
  have hl:=(Yn r ht).2.1
  refine⟨t.1,_,s,Vq r ht (f:=4) ybc,?_,e⟩
  rw[←es,List.getD_eq_getElem?_getD,List.getElem?_eq_getElem ybc];rfl
 ·rintro⟨runs,y,s,t,hs,e⟩
  obtain⟨L,hL⟩:=W9 r t
  refine⟨s,?_,e⟩
  rw[dd_all,runsK,List.mem_map]
  exact⟨(runs,L),hL,by rw[List.getD_eq_getElem?_getD];show(runs[k]?).getD _=s;rw[hs];rfl⟩
def Wq (a:At)(k:Nat)(m:List Int→Int):List Int:=WW ((ZR a).map fun t=>shw (t.1.getD k (0,0)).1 (t.1.getD k (0,0)).2 (m t.2))
theorem shwN_mem {a:At}{k:Nat}{m:List Int→Int}{n:Int}:n∈Wq a k m↔∃t∈ZR a,shw (t.1.getD k (0,0)).1 (t.1.getD k (0,0)).2 (m t.2)=n:=by
 unfold Wq
 rw[risL_mem,List.mem_map]
theorem shwN_pos {a:At}{k:Nat}{m:List Int→Int}(h:ZR a≠[]):0<(Wq a k m).length:=by
 obtain⟨t,ht⟩:=List.exists_mem_of_ne_nil _ h
 exact List.length_pos_of_mem (shwN_mem.2 ⟨t,ht,rfl⟩)
def shoLo (a:At)(k e:Nat):Int:=(Wq a k fun L=> -mg L e 4).getD 0 0
def shoHi (a:At)(k e:Nat):Int:=(Wq a k fun L=>mg L 4 e).getD ((Wq a k fun L=>mg L 4 e).length - 1) 0
theorem sho_tru {a:At}(r:Zl a){k e:Nat}(hk:k<a.cks.length)(he:e<4){runs:ZZ}{y:Nat→Int}(t:TruA a runs y){s:Int × Int}(hs:runs[k]? =some s):shoLo a k e≤shw s.1 s.2 (y e)∧shw s.1 s.2 (y e)≤shoHi a k e:=by
 obtain⟨L,hL⟩:=W9 r t
 obtain⟨tri,_,hr,hsol⟩:=Yn r hL
 have sol:=(hsol y t.beg).2 t
 have h1:=sol 4 e ybc ybc
 have h2:=sol e 4 ybc ybc
 rw[t.beg] at h1 h2
 have hrun:=(hr k s hs).run r
 have g:=hrun.g0
 have e1:runs.getD k (0,0)=s:=by rw[List.getD_eq_getElem?_getD,hs];rfl
 have m1:shw s.1 s.2 (-mg L e 4)∈Wq a k fun L=> -mg L e 4:=shwN_mem.2 ⟨(runs,L),hL,by show shw (runs.getD k (0,0)).1 _ _=_;rw[e1]⟩
 have m2:shw s.1 s.2 (mg L 4 e)∈Wq a k fun L=>mg L 4 e:=shwN_mem.2 ⟨(runs,L),hL,by show shw (runs.getD k (0,0)).1 _ _=_;rw[e1]⟩
 have p1:=List.length_pos_of_mem m1
 have p2:=List.length_pos_of_mem m2
 have q1:=rise_head (risL_rise _) m1 p1
 have q2:=rise_last (risL_rise _) m2
 have k1:=shw_mono (set:=s.1) (gain:=s.2) ybc (show -mg L e 4≤y e by simp only at h2⊢;omega)
 have k2:=shw_mono (set:=s.1) (gain:=s.2) ybc (show y e≤mg L 4 e by simp only at h1⊢;omega)
 unfold shoLo shoHi
 rw[List.getD_eq_getElem?_getD,List.getD_eq_getElem?_getD,List.getElem?_eq_getElem p1,List.getElem?_eq_getElem ybc]
 exact⟨Int.le_trans q1 k1,Int.le_trans k2 q2⟩
theorem sho_ex {a:At}(r:Zl a)(hne:ZR a≠[]){k e:Nat}(hk:k<a.cks.length)(he:e<4):
  (∃runs y s,TruA a runs y∧runs[k]? =some s∧shw s.1 s.2 (y e)=shoLo a k e)∧∃runs y s,TruA a runs y∧runs[k]? =some s∧shw s.1 s.2 (y e)=shoHi a k e:=by
 have key:∀{m:List Int→Int} {f:Nat} {i:Nat},f<5→(∀t∈ZR a,latY t.2 f e=m t.2)→i<(Wq a k m).length→∃runs y s,TruA a runs y∧runs[k]? =some s∧shw s.1 s.2 (y e)=(Wq a k m).getD i 0:=fun{m f i} hf hm hi=>by
  rw[List.getD_eq_getElem?_getD,List.getElem?_eq_getElem hi]
  obtain⟨t,ht,h⟩:=shwN_mem.1 (List.getElem_mem hi)
  have hl:=(Yn r ht).2.1
  refine⟨t.1,latY t.2 f,t.1.getD k (0,0),Vq r ht hf,?_,?_⟩
  ·rw[List.getD_eq_getElem?_getD,List.getElem?_eq_getElem ybc];rfl
  ·rw[hm t ht];exact h
 exact⟨key (f:=e) ybc (fun t ht=>lat_self r ht ybc) (shwN_pos hne),key (f:=4) ybc (fun t ht=>lat_4 r ht e) (by have:=shwN_pos (a:=a) (k:=k) (m:=fun L=>mg L 4 e) hne;omega)⟩
end Tryz
end Go.Ab
namespace Go.Ab.Tryz
open Go.Proofs
structure WF (h:H)(S G T:V)(ss gg tt:List Int):Prop where
 s:Zg h S 1 (ss.map encI)
 g:Zg h G 1 (gg.map encI)
 t:Zg h T 1 (tt.map encI)
theorem WF.mono {h h':H}{S G T:V}{ss gg tt:List Int}(x:WF h S G T ss gg tt)(s:h.Sub h'):WF h' S G T ss gg tt:=⟨x.s.mono s,x.g.mono s,x.t.mono s⟩
theorem cksFit_of {a:At}{ss gg:List Int}(h:∀(j:Nat) c s g,a.cks[j]? =some c→ss[j]? =some s→gg[j]? =some g→XC c (s,g)=true):YX a ss gg=true:=by
 refine List.all_eq_true.2 fun x hx=>?_
 obtain⟨i,hi⟩:=List.mem_iff_getElem?.1 hx
 obtain⟨q1,q2⟩:=List.getElem?_zip_eq_some.1 hi
 obtain⟨q3,q4⟩:=Wa.1 q2
 exact h i _ _ _ q1 q3 q4
theorem cksFit_at {a:At}{ss gg:List Int}(h:YX a ss gg=true){j:Nat}{c:Ck}{s g:Int}(q1:a.cks[j]? =some c)(q2:ss[j]? =some s)(q3:gg[j]? =some g):XC c (s,g)=true:=
 List.all_eq_true.1 h (c,(s,g)) (List.mem_of_getElem? (i:=j) (List.getElem?_zip_eq_some.2 ⟨q1,Wa.2 ⟨q2,q3⟩⟩))
theorem Uk {a:At}{ss gg tt:List Int}:VV a ss gg tt=true↔Wu a ss gg tt=true∧WR a tt=true∧YX a ss gg=true∧a.rds.all (WX ss gg tt)=true∧a.gps.all (gpFit tt)=true:=by
 simp only[VV,Bool.and_eq_true]
theorem ckFit_run {a:At}(r:Zl a){c:Ck}(hc:c∈a.cks){s g:Int}(h:XC c (s,g)=true):Wy s g:=by
 have:=r.cb c hc
 simp only[Ck.bd,within,Bool.and_eq_true,Zs] at this
 simp only[XC,Bool.and_eq_true,Zs] at h
 exact⟨by omega,by omega,by omega,by omega⟩
end Go.Ab.Tryz
namespace Go.Ab.Tryz
open Go.Proofs
def gapB (tt:List Int)(g:Gp):Bool:=inB (Zr tt g.to.toNat-Zr tt g.fr.toNat) g.lo g.hi
def gapsB (a:At)(tt:List Int):Bool:=a.gps.all (gapB tt)
theorem all_take_ok {α:Type}{p:α→Bool}{l:List α}{i:Nat}(hi:i<l.length)(h:(l.take i).all p=true)(hp:p l[i]=true):(l.take (i+1)).all p=true:=by
 rw[List.take_add_one,List.getElem?_eq_getElem hi,List.all_append,h]
 simp[hp]
theorem all_bad {α:Type}{p:α→Bool}{l:List α}{i:Nat}(hi:i<l.length)(hp:p l[i]=false):l.all p=false:=by
 rw[←Bool.not_eq_true,List.all_eq_true]
 intro h
 rw[h _ (List.getElem_mem hi)] at hp;cases hp
set_option maxHeartbeats 2000000 in
theorem refGaps_ev {h:H}(hw:h.wf){a:At}{C R G:V}(x:ZP h C R G a)(r:Zl a){y:V}{tt:List Int}(hy:Zg h y 1 (tt.map encI))(hl:(tt.length:Int)=a.evs)(hb:∀t∈tt,0≤t∧t≤240)(Q:V→H→Prop)(q:∀h',h.Sub h'→Q (.bool (gapsB a tt)) h'):
  Ev fnG Zi (.fn 105 [] []) [.agg (atV a C R G),y] h Q:=by
 have oC:=x.c.one;have oR:=x.r.one;have oG:=x.g.one
 have oy:=hy.one
 have hlG:=x.g.lenE
 have rl:=r.lens
 refine Ze (fd:=c105) rfl rfl rfl ?_
 obtain⟨z,hz⟩:∃z,h.add (.bk (atV a C R G))=z:=⟨_,rfl⟩
 have sz:h.Sub z:=by rw[←hz];exact yba
 have ga:z.get h.next=some (.bk (atV a C R G)):=by rw[←hz];exact Zc rfl
 simp(disch:=omega)only[c105,go_sem,oC,oR,oG]
 rw[hz]
 clear hz
 refine Zk a.gps.length (fun i s=>∃tm z',s=⟨tm,z',[]⟩∧z.Sub z'∧(a.gps.take i).all (gapB tt)=true∧tm.E 1=y∧tm.E 2=.ptr h.next 0∧tm.E 5=.ii (i:Int)) ?_ ?_ (i:=0) (Nat.zero_le _)
  ⟨_,_,rfl,H.Sub.refl sz.wf,by simp,ybb,ybb,ybb⟩
 ·rintro i s hi ⟨tm,z',rfl,sz',hall,t1,t2,t5⟩
  have hi':(i:Int)<(a.gps.length:Int):=by omega
  have s0:=sz.trans sz'
  obtain⟨bG,oGG,cG,csG,_,hcG,hqG,hgG,_,_⟩:=(x.g.mono s0).at hi
  have hm:=List.getElem_mem hi
  have hok:=fun hp=>all_take_ok (p:=gapB tt) hi hall hp
  have hbad:=fun hp=>all_bad (p:=gapB tt) hi hp
  generalize a.gps[i]=g at hgG hm hok hbad
  obtain⟨fr,to,e1,e2,f1,f2,_,_⟩:=r.gpn hm
  have hfr:fr<tt.length:=by omega
  have hto:to<tt.length:=by omega
  have hbf:=hb _ (List.getElem_mem hfr)
  have hbt:=hb _ (List.getElem_mem hto)
  have vf:=XG (List.getElem?_eq_getElem hfr)
  have vt:=XG (List.getElem?_eq_getElem hto)
  have hgap:gapB tt g=inB (tt[to]-tt[fr]) g.lo g.hi:=by unfold gapB;rw[e1,e2,Int.toNat_natCast,Int.toNat_natCast,vf,vt]
  simp only[ZF,e1,e2] at hgG
  obtain⟨z2,hz2⟩:∃z2,z'.add (.bk [.ii (fr:Int),.ii (to:Int),.ii g.lo,.ii g.hi])=z2:=⟨_,rfl⟩
  have s2:z'.Sub z2:=by rw[←hz2];exact(H.Sub.refl s0.wf).add _
  have g6:z2.get z'.next=some (.bk [.ii (fr:Int),.ii (to:Int),.ii g.lo,.ii g.hi]):=by rw[←hz2];exact Zc rfl
  have s02:=s0.trans s2
  obtain⟨bF,oF,cF,csF,_,hcF,hqF,_,_,nF⟩:=(hy.mono s02).at hfr
  obtain⟨bT,oT,cT,csT,_,hcT,hqT,_,_,nT⟩:=(hy.mono s02).at hto
  have wF:=nF ybj
  have wT:=nT ybj
  simp only[encI,List.getElem?_cons_zero] at wF wT
  generalize tt[fr]=vfr at wF hbf hgap
  generalize tt[to]=vto at wT hbt hgap
  have ws:wr .i64 (vto-vfr)=vto-vfr:=Zo ybc ybc
  cases hg:inB (vto-vfr) g.lo g.hi with
  |true=>
   rw[hg] at hgap
   simp(disch:=omega)only[go_sem,t1,t2,t5,hlG,hi',Za (sz'.get ga),hqG (Zb i),hcG,hgG,hz2,Za g6,hqF (Zb fr),hqT (Zb to),hcF,hcT,wF,wT,ws,Yv,hg,Zj]
   exact⟨_,_,rfl,sz'.trans s2,hok hgap,ybg,ybq,ybb⟩
  |false=>
   rw[hg] at hgap
   have e:gapsB a tt=false:=hbad hgap
   rw[e] at q
   simp(disch:=omega)only[go_sem,t1,t2,t5,hlG,hi',Za (sz'.get ga),hqG (Zb i),hcG,hgG,hz2,Za g6,hqF (Zb fr),hqT (Zb to),hcF,hcT,wF,wT,ws,Yv,hg]
   exact q _ s02
 ·rintro s ⟨tm,z',rfl,sz',hall,t1,t2,t5⟩
  rw[List.take_length] at hall
  have e:gapsB a tt=true:=hall
  rw[e] at q
  simp(disch:=omega)only[go_sem,t1,t2,t5,hlG,Int.lt_irrefl,Za (sz'.get ga)]
  exact q _ (sz.trans sz')
end Go.Ab.Tryz
namespace Go.Ab.Tryz
open Go.Proofs
def ZG (f:Nat→Bool):Nat→Int
 |0=>0
 |i+1=>ZG f i+if f i=true then 2^i else 0
theorem WC (f:Nat→Bool):∀i,0≤ZG f i∧ZG f i<2^i
 |0=>by simp[ZG]
 |i+1=>by
  have h:=WC f i
  have e:(2:Int)^(i+1)=2*2^i:=by rw[Int.pow_succ];omega
  unfold ZG
  split<;>omega
def Xg (a:At)(ss gg tt:List Int)(i:Nat):Bool:=match a.rds[i]? with
 |some r=>decide (shw (ss.getD r.ck.toNat 0) (gg.getD r.ck.toNat 0) (Zr tt r.ev.toNat)≠r.sh)
 |none=>false
def Vo (a:At)(ss gg tt:List Int):Int:=ZG (Xg a ss gg tt) a.rds.length
theorem pow8 {i:Nat}(h:i≤8):1≤(2:Int)^i∧(2:Int)^i≤256:=by
 rcases(by omega:i=0∨i=1∨i=2∨i=3∨i=4∨i=5∨i=6∨i=7∨i=8) with rfl|rfl|rfl|rfl|rfl|rfl|rfl|rfl|rfl<;>decide
set_option maxHeartbeats 4000000 in
theorem Missed_ev {h:H}(hw:h.wf){a:At}{C R G:V}(x:ZP h C R G a)(r:Zl a){S Ga Tm:V}{ss gg tt:List Int}(t:WF h S Ga Tm ss gg tt)(ls:ss.length=a.cks.length)(lg:gg.length=a.cks.length)(hl:(tt.length:Int)=a.evs)(hb:∀t∈tt,0≤t∧t≤240)
  (hrun:∀(k:Nat) s g,ss[k]? =some s→gg[k]? =some g→Wy s g) (Q:V→H→Prop) (q:∀h',h.Sub h'→Q (.ii (Vo a ss gg tt)) h'):
  Ev fnG Zi (.fn 106 [] []) [.agg (atV a C R G),.agg [S,Ga,Tm]] h Q:=by
 have oC:=x.c.one;have oR:=x.r.one;have oG:=x.g.one
 have oS:=t.s.one;have oGa:=t.g.one;have oTm:=t.t.one
 have hlR:=x.r.lenE
 have rl:=r.lens
 refine Ze (fd:=c106) rfl rfl rfl ?_
 obtain⟨z,hz⟩:∃z,(h.add (.bk (atV a C R G))).add (.bk [S,Ga,Tm])=z:=⟨_,rfl⟩
 have sz:h.Sub z:=by rw[←hz];exact yba
 have ga:z.get h.next=some (.bk (atV a C R G)):=by rw[←hz];simp -implicitDefEqProofs(disch:=first|omega|simp only[nZ]<;>omega|fail)only[go_sem]
 have gt:z.get (h.next+1)=some (.bk [S,Ga,Tm]):=by rw[←hz];simp -implicitDefEqProofs(disch:=first|omega|simp only[nZ]<;>omega|fail)only[go_sem]
 simp(disch:=omega)only[c106,go_sem,oC,oR,oG,oS,oGa,oTm]
 rw[hz]
 clear hz
 refine Zk a.rds.length (fun i s=>∃tm z',s=⟨tm,z',[]⟩∧z.Sub z'∧tm.E 2=.ptr h.next 0∧tm.E 3=.ptr (h.next+1) 0∧tm.E 5=.ii (ZG (Xg a ss gg tt) i)∧tm.E 6=.ii (2^i)∧tm.E 7=.ii (i:Int)) ?_ ?_ (i:=0) (Nat.zero_le _)
  ⟨_,_,rfl,H.Sub.refl sz.wf,ybb,ybb,ybb,ybb,ybb⟩
 ·rintro i s hi ⟨tm,z',rfl,sz',t2,t3,t5,t6,t7⟩
  have hi':(i:Int)<(a.rds.length:Int):=by omega
  have s0:=sz.trans sz'
  obtain⟨bR,oRR,cR,csR,_,hcR,hqR,hgR,_,_⟩:=(x.r.mono s0).at hi
  have hm:=List.getElem_mem hi
  have hg0:a.rds[i]? =some a.rds[i]:=List.getElem?_eq_getElem hi
  generalize a.rds[i]=rr at hgR hm hg0
  obtain⟨k,e,e1,e2,f1,f2,_⟩:=r.rdn hm
  have hkS:k<ss.length:=by omega
  have hkG:k<gg.length:=by omega
  have hel:e<tt.length:=by omega
  have hbt:=hb _ (List.getElem_mem hel)
  have vt:=XG (List.getElem?_eq_getElem hel)
  have hrn:=hrun k _ _ (List.getElem?_eq_getElem hkS) (List.getElem?_eq_getElem hkG)
  have gS:ss.getD k 0=ss[k]:=by rw[List.getD_eq_getElem?_getD,List.getElem?_eq_getElem hkS];rfl
  have gG:gg.getD k 0=gg[k]:=by rw[List.getD_eq_getElem?_getD,List.getElem?_eq_getElem hkG];rfl
  have hms:Xg a ss gg tt i=decide (shw ss[k] gg[k] tt[e]≠rr.sh):=by unfold Xg;rw[hg0];simp only[e1,e2,Int.toNat_natCast,gS,gG,vt]
  simp only[encR,e1,e2] at hgR
  obtain⟨z2,hz2⟩:∃z2,z'.add (.bk [.ii (k:Int),.ii (e:Int),.ii rr.sh])=z2:=⟨_,rfl⟩
  have s2:z'.Sub z2:=by rw[←hz2];exact(H.Sub.refl s0.wf).add _
  have g8:z2.get z'.next=some (.bk [.ii (k:Int),.ii (e:Int),.ii rr.sh]):=by rw[←hz2];exact Zc rfl
  have s02:=s0.trans s2
  have gt2:=(sz'.trans s2).get gt
  obtain⟨bS,oSS,cS,csS,_,hcS,hqS,_,_,nS⟩:=(t.s.mono s02).at hkS
  obtain⟨bG,oGG,cG,csG,_,hcG,hqG,_,_,nG⟩:=(t.g.mono s02).at hkG
  obtain⟨bT,oTT,cT,csT,_,hcT,hqT,_,_,nT⟩:=(t.t.mono s02).at hel
  have wS:=nS ybj
  have wG:=nG ybj
  have wT:=nT ybj
  simp only[encI,List.getElem?_cons_zero] at wS wG wT
  generalize ss[k]=sk at wS hrn hms
  generalize gg[k]=gk at wG hrn hms
  generalize tt[e]=te at wT hbt hms
  have hp:=pow8 (i:=i) ybc
  have hbi:=WC (Xg a ss gg tt) i
  have e3:(2:Int)^(i+1)=2*2^i:=by rw[Int.pow_succ];omega
  have w2:wr .i64 (2*2^i)=2^(i+1):=by rw[e3];exact Zo ybc ybc
  have w5:wr .i64 (ZG (Xg a ss gg tt) i+2^i)=ZG (Xg a ss gg tt) i+2^i:=Zo ybc ybc
  simp(disch:=omega)only[go_sem,t2,t3,t5,t6,t7,hlR,hi',Za (sz'.get ga),hqR (Zb i),hcR,hgR,hz2,Za g8,Za gt2,hqS (Zb k),hqG (Zb k),hqT (Zb e),hcS,hcG,hcT,wS,wG,wT]
  try rw[hz2]
  clear hz2
  refine Vj s02.wf hrn hbt.1 hbt.2 _ ?_
  by_cases hc:shw sk gk te=rr.sh
  ·have hmf:Xg a ss gg tt i=false:=by rw[hms];simp[hc]
   have hb1:ZG (Xg a ss gg tt) (i+1)=ZG (Xg a ss gg tt) i:=by rw[ZG,hmf];simp
   simp(disch:=omega)only[go_sem,t2,t3,t5,t6,t7,hc,ne_eq,not_true_eq_false,decide_true,decide_false,Za g8,Za gt2,hcS,hcG,hcT,wS,wG,wT,w2,Zj]
   exact⟨_,_,rfl,sz'.trans s2,ybq,ybe,by rw[hb1];exact ybd,ybb,ybb⟩
  ·have hmf:Xg a ss gg tt i=true:=by rw[hms];simp[hc]
   have hb1:ZG (Xg a ss gg tt) (i+1)=ZG (Xg a ss gg tt) i+2^i:=by rw[ZG,hmf];simp
   simp(disch:=omega)only[go_sem,t2,t3,t5,t6,t7,hc,ne_eq,not_false_eq_true,decide_true,decide_false,Za g8,Za gt2,hcS,hcG,hcT,wS,wG,wT,w2,w5,Zj]
   exact⟨_,_,rfl,sz'.trans s2,ybq,ybe,by rw[hb1];exact ybb,ybb,ybb⟩
 ·rintro s ⟨tm,z',rfl,sz',t2,t3,t5,t6,t7⟩
  simp(disch:=omega)only[go_sem,t2,t3,t5,t6,t7,hlR,Int.lt_irrefl,Za (sz'.get ga)]
  exact q _ (sz.trans sz')
end Go.Ab.Tryz
namespace Go.Ab
theorem a_msl_nm {h:H}{by_ n m:Nat}{z:List V}(h0:n≤m)(h1:m*by_≤1099511627776)(h2:m≤1099511627776):
  V7 h by_ z (.ii (n:Int)) (.ii (m:Int))=some (.sl h.next 0 n (.fix m),h.add (.bk (YB m z))):=by
 have e1:Nat.ble (m*by_) 1099511627776=true:=by simpa using h1
 have e2:Nat.ble m 1099511627776=true:=by simpa using h2
 have e3:Nat.ble n m=true:=by simpa using h0
 simp only[V7,Zb,e1,e2,e3,YP,lf_eq]
theorem e_cpy_new {h0 h:H}{y:V}{sz b c n:Nat}{rows:List (List V)}{z:List V}{Q:V→H→Prop}(hs:h0.Sub h)(hw0:h0.wf)(hy:Zg h y sz rows)(hn:n=rows.length)(hb:h.get b=some (.bk (YB c z)))(l1:h0.next≤b)(l2:b<h.next)(hz:z.length=sz)(hc:rows.length≤c)
  (ho:ZB rows.flatten=true) (q:∀h',ZW h0 h' (.sl b 0 n (.fix c)) sz rows→Zh (fun x=>x=b) h h'→h'.next=h.next→Q (.ii (n:Int)) h'):P2 (e_cpy h sz (.sl b 0 n (.fix c)) y) Q:=by
 subst hn
 obtain⟨e1,e2⟩:=hy.elems
 have hl:=ZA hy.1
 have hr:=VI z c
 rw[hz] at hr
 have hle:rows.length*sz≤c*sz:=Nat.mul_le_mul_right sz hc
 have hble:Nat.ble rows.length rows.length=true:=by simp
 have ht:takeN (rows.length*sz) rows.flatten=some rows.flatten:=takeN_eq.2 ⟨by rw[←hl,List.take_length],by omega⟩
 have hlen:rows.length*sz+((YB c z).drop (rows.length*sz)).length=c*sz:=by rw[List.length_drop,hr];omega
 simp only[e_cpy,lenV_sl,e1,e2,hble,ht,cpyTo]
 cases hf:rows.flatten with
 |nil=>
  rw[hf] at hl
  simp only[List.length_nil] at hl
  simp only[H.put,YN,YE]
  refine q h ⟨hs,hy.1,.inr (.inr ⟨b,c,_,rfl,l1,l2,?_,hlen,hc⟩)⟩ (Zh.refl _ h) rfl
  rw[hb,hf,←hl];simp
 |cons v vs=>
  rw[hf] at ho hl
  have hp:Ye 0 (v::vs) (YB c z)=some (v::vs++(YB c z).drop (rows.length*sz)):=by
   rw[putN_0]
   exact over_eq.2 ⟨by rw[hl],by rw[hl,hr];exact hle⟩
  rw[H.put_rw ho hb hp,YN,YE]
  refine q _ ⟨hs.set l1 l2 hw0 _,hy.1,.inr (.inr ⟨b,c,_,rfl,l1,by rw[H.next_set];exact l2,?_,hlen,hc⟩)⟩ (Zh.set h b _) (H.next_set _ _ _)
  rw[get_set_same rfl,hf]
end Go.Ab
namespace Go.Ab.Tryz
open Go.Proofs
structure YM (h0 h:H)(C R G:V)(a:At):Prop where
 c:ZW h0 h C 4 (a.cks.map Z9)
 r:ZW h0 h R 3 (a.rds.map encR)
 g:ZW h0 h G 4 (a.gps.map ZF)
 cr:∀b,Zq C b→¬Zq R b
 cg:∀b,Zq C b→¬Zq G b
 rg:∀b,Zq R b→¬Zq G b
variable {h0 h1 h h':H} {C R G:V} {a:At}
theorem YM.sub (o:YM h0 h C R G a):h0.Sub h:=o.c.1
theorem YM.at_ (o:YM h0 h C R G a)(l:YJ a):ZP h C R G a:=
 ⟨o.c.sl (by rw[List.length_map];have:=l.c;omega),o.r.sl (by rw[List.length_map];have:=l.r;omega),o.g.sl (by rw[List.length_map];have:=l.g;omega)⟩
theorem YM.mono (o:YM h0 h C R G a)(s:h.Sub h'):YM h0 h' C R G a:=⟨o.c.mono s,o.r.mono s,o.g.mono s,o.cr,o.cg,o.rg⟩
theorem YM.base (o:YM h1 h C R G a)(s:h0.Sub h1):YM h0 h C R G a:=⟨o.c.base s,o.r.base s,o.g.base s,o.cr,o.cg,o.rg⟩
def V5 (C R G:V)(b:Nat):Prop:=Zq C b∨Zq R b∨Zq G b
theorem YM.blk (o:YM h0 h C R G a){b:Nat}(hb:V5 C R G b):h0.next≤b∧b<h.next:=by
 rcases hb with hb|hb|hb
 ·exact⟨(o.c.blk hb).1,(o.c.blk hb).2.1⟩
 ·exact⟨(o.r.blk hb).1,(o.r.blk hb).2.1⟩
 ·exact⟨(o.g.blk hb).1,(o.g.blk hb).2.1⟩
theorem YM.keep (o:YM h0 h C R G a){S:Nat→Prop}(k:Zh S h h')(s:h0.Sub h')(n:∀b,V5 C R G b→¬S b):YM h0 h' C R G a:=
 ⟨o.c.keep k s fun b hb=>n b (.inl hb),o.r.keep k s fun b hb=>n b (.inr (.inl hb)),o.g.keep k s fun b hb=>n b (.inr (.inr hb)),o.cr,o.cg,o.rg⟩
theorem ZW.full {sz n b:Nat}{x:V}{rows:List (List V)}(hs:h0.Sub h)(hx:x=.sl b 0 n (.fix n))(hn:n=rows.length)(hr:∀r∈rows,r.length=sz)(l1:h0.next≤b)(l2:b<h.next)(hg:h.get b=some (.bk rows.flatten)):ZW h0 h x sz rows:=by
 subst hn
 exact⟨hs,hr,.inr (.inr ⟨b,rows.length,[],hx,l1,l2,by rw[List.append_nil];exact hg,by rw[List.length_nil,Nat.add_zero],Nat.le_refl _⟩)⟩
theorem AtNew.ow (n:AtNew h0 h C R G a):YM h0 h C R G a:=by
 obtain⟨b1,b2,b3,rfl,rfl,rfl,l0,l1,l2,l3,g1,g2,g3⟩:=n.is
 refine⟨ZW.full n.s rfl ybp (fun r hr=>by obtain⟨c,_,rfl⟩:=List.mem_map.1 hr;rfl) ybc ybc g1,ZW.full n.s rfl ybp (fun r hr=>by obtain⟨c,_,rfl⟩:=List.mem_map.1 hr;rfl) ybc ybc g2,
  ZW.full n.s rfl ybp (fun r hr=>by obtain⟨c,_,rfl⟩:=List.mem_map.1 hr;rfl) ybc ybc g3,?_,?_,?_⟩<;>(rintro b ⟨_,_,_,e⟩ ⟨_,_,_,e'⟩;cases e;cases e';omega)
def At.none:At:=⟨0,0,[],[],[]⟩
theorem YM.none (s:h0.Sub h):YM h0 h .nils .nils .nils At.none:=⟨(Zx.nil s 4).c,(Zx.nil s 3).c,(Zx.nil s 4).c,fun b hb=>(Zy hb).elim,fun b hb=>(Zy hb).elim,fun b hb=>(Zy hb).elim⟩
theorem small_none:YJ At.none:=⟨by decide,by decide,by decide⟩
theorem cloneClock_ev {x:V}{rows:List (List V)}(hw:h.wf)(hx:Zg h x 4 rows)(hl:rows.length≤1000000)(Q:V→H→Prop)(q:∀v h',ZW h h' v 4 rows→Q v h'):Ev fnG Zi (.fn 143 [] []) [x] h Q:=by
 refine Ze (fd:=c143) rfl rfl rfl ?_
 rcases hx.2.2 with⟨rfl,e⟩|⟨b,o,c,cs,rfl,_⟩
 ·simp(disch:=omega)only[c143,go_sem]
  exact q _ _ (by rw[e];exact(Zx.nil (H.Sub.refl hw) 4).c)
 ·simp(disch:=omega)only[c143,go_sem]
  refine Ut (by_:=32) hw hx ybc ybc fun v h' o=>?_
  simp(disch:=omega)only[go_sem]
  exact q v h' o
theorem cloneGap_ev {x:V}{rows:List (List V)}(hw:h.wf)(hx:Zg h x 4 rows)(hl:rows.length≤1000000)(Q:V→H→Prop)(q:∀v h',ZW h h' v 4 rows→Q v h'):Ev fnG Zi (.fn 144 [] []) [x] h Q:=by
 refine Ze (fd:=c144) rfl rfl rfl ?_
 rcases hx.2.2 with⟨rfl,e⟩|⟨b,o,c,cs,rfl,_⟩
 ·simp(disch:=omega)only[c144,go_sem]
  exact q _ _ (by rw[e];exact(Zx.nil (H.Sub.refl hw) 4).c)
 ·simp(disch:=omega)only[c144,go_sem]
  refine Ut (by_:=32) hw hx ybc ybc fun v h' o=>?_
  simp(disch:=omega)only[go_sem]
  exact q v h' o
end Go.Ab.Tryz
namespace Go.Ab.Tryz
open Go.Proofs
set_option maxHeartbeats 2000000 in
theorem copied_ev {h:H}(hw:h.wf){a:At}{C R G:V}(x:ZP h C R G a)(l:YJ a)(Q:V→H→Prop)(q:∀C' R' G' h',YM h h' C' R' G' a→Q (.agg (atV a C' R' G')) h'):Ev fnG Zi (.fn 99 [] []) [.agg (atV a C R G)] h Q:=by
 obtain⟨l1,l2,l3⟩:=l
 have oC:=x.c.one;have oR:=x.r.one;have oG:=x.g.one
 have hlR:=x.r.lenE
 have e1:wr .i64 ((a.rds.length:Int)+1)=((a.rds.length+1:Nat):Int):=Zj ybc
 refine Ze (fd:=c99) rfl rfl rfl ?_
 simp -implicitDefEqProofs(disch:=first|omega|simp only[nZ]<;>omega|fail)only[c99,go_sem,oC,oR,oG,hlR,e1,a_msl_nm]
 obtain⟨z,hz⟩:∃z,(((((h.add (.bk (atV a C R G))).add (.bk [.ii 0,.ii 0,.nils,.nils,.nils])).add (.bk (atV a C R G))).add (.bk (YB (a.rds.length+1) [.ii 0,.ii 0,.ii 0]))).set (h.next+2) (.bk (atV a C (.sl (h.next+3) 0 a.rds.length (.fix (a.rds.length+1))) G)))=z:=⟨_,rfl⟩
 rw[show h.next+1+1=h.next+2 from rfl,show h.next+2+1=h.next+3 from rfl]
 try rw[hz]
 have sz:h.Sub z:=by rw[←hz];exact yba
 have nz:z.next=h.next+4:=by rw[←hz];simp only[H.next_set,H.next_add]
 have ga:z.get h.next=some (.bk (atV a C R G)):=by rw[←hz];simp -implicitDefEqProofs(disch:=first|omega|simp only[nZ]<;>omega|fail)only[go_sem]
 have gb:z.get (h.next+1)=some (.bk [.ii 0,.ii 0,.nils,.nils,.nils]):=by rw[←hz];simp -implicitDefEqProofs(disch:=first|omega|simp only[nZ]<;>omega|fail)only[go_sem]
 have gc:z.get (h.next+2)=some (.bk (atV a C (.sl (h.next+3) 0 a.rds.length (.fix (a.rds.length+1))) G)):=by rw[←hz];simp(disch:=omega)only[go_sem]
 have gd:z.get (h.next+3)=some (.bk (YB (a.rds.length+1) [.ii 0,.ii 0,.ii 0])):=by rw[←hz];simp -implicitDefEqProofs(disch:=first|omega|simp only[nZ]<;>omega|fail)only[go_sem]
 clear hz
 refine e_cpy_new sz hw (x.r.mono sz) ybp gd ybc ybc rfl ybp (Wm (fun _=>rfl) _) fun z4 o4 k4 n4=>?_
 have s4:=o4.1
 have ga4:=k4.2 _ _ ga ybc
 have gb4:=k4.2 _ _ gb ybc
 have gc4:=k4.2 _ _ gc ybc
 simp(disch:=omega)only[go_sem,Za ga4]
 refine cloneClock_ev s4.wf (x.c.mono s4) ybm _ fun vC z5 oC5=>?_
 have s5:=oC5.1
 have ga5:=s5.get ga4
 have o1C:=oC5.one
 simp(disch:=omega)only[go_sem,Za ga4,Za ga5]
 refine cloneGap_ev s5.wf (x.g.mono (s4.trans s5)) ybm _ fun vG z6 oG6=>?_
 have s6:=oG6.1
 have s46:=s5.trans s6
 have ga6:=s6.get ga5
 have gb6:=s46.get gb4
 have gc6:=s46.get gc4
 have o1G:=oG6.one
 have l5:=s5.next
 have l6:=s6.next
 simp(disch:=omega)only[go_sem,Za ga4,Za ga5,Za ga6,gb6,gc6,o1C,o1G,cells_one o1C,cells_one o1G,oC,oG]
 have s06:=s4.trans s46
 obtain⟨z7,hz7⟩:∃z7,(z6.set (h.next+2) (.bk (atV a vC (.sl (h.next+3) 0 a.rds.length (.fix (a.rds.length+1))) vG))).set (h.next+1) (.bk (atV a vC (.sl (h.next+3) 0 a.rds.length (.fix (a.rds.length+1))) vG))=z7:=⟨_,rfl⟩
 have s7:h.Sub z7:=by rw[←hz7];exact(s06.set ybc ybc hw _).set ybc (by rw[H.next_set];omega) hw _
 have k7:Zh (fun b=>b=h.next+2∨b=h.next+1) z6 z7:=by
  rw[←hz7];exact(Zh.set _ _ _).trans (Zh.set _ _ _)
 have nC:∀b,Zq vC b→z4.next≤b∧b<z5.next:=fun b hb=>⟨(oC5.blk hb).1,(oC5.blk hb).2.1⟩
 have nG:∀b,Zq vG b→z5.next≤b:=fun b hb=>(oG6.blk hb).1
 have nR:∀b,Zq (V.sl (h.next+3) 0 a.rds.length (.fix (a.rds.length+1))) b→b=h.next+3:=fun b hb=>by obtain⟨_,_,_,e⟩:=hb;cases e;rfl
 have ow:YM h z6 vC (.sl (h.next+3) 0 a.rds.length (.fix (a.rds.length+1))) vG a:=
  ⟨(oC5.base s4).mono s6,o4.mono s46,oG6.base (s4.trans s5),fun b hb hb'=>by have:=nC b hb;have:=nR b hb';omega,fun b hb hb'=>by have:=nC b hb;have:=nG b hb';omega,fun b hb hb'=>by have:=nR b hb;have:=nG b hb';omega⟩
 have:=q _ _ _ z7 (ow.keep k7 s7 fun b hb=>by
  rcases hb with hb|hb|hb
  ·have:=nC b hb;omega
  ·have:=nR b hb;omega
  ·have:=nG b hb;omega)
 rwa[←hz7] at this
theorem checked_ev {h:H}(hw:h.wf){a:At}{C R G:V}(x:ZP h C R G a)(Q:V→H→Prop)(q0:∀h',h.Sub h'→Zn a≠0→Q (.tup [.agg (atV At.none .nils .nils .nils),.ii (Zn a)]) h')
  (q1:∀h',h.Sub h'→Zn a=0→Q (.tup [.agg (atV a C R G),.ii 0]) h'):Ev fnG Zi (.fn 100 [] []) [.agg (atV a C R G)] h Q:=by
 have oC:=x.c.one;have oR:=x.r.one;have oG:=x.g.one
 refine Ze (fd:=c100) rfl rfl rfl ?_
 simp -implicitDefEqProofs(disch:=first|omega|simp only[nZ]<;>omega|fail)only[c100,go_sem]
 have s2:h.Sub ((h.add (.bk (atV a C R G))).add (.bk [.ii 0,.ii 0,.nils,.nils,.nils])):=yba
 have ga:((h.add (.bk (atV a C R G))).add (.bk [.ii 0,.ii 0,.nils,.nils,.nils])).get h.next=some (.bk (atV a C R G)):=by simp -implicitDefEqProofs(maxSteps:=999999)(disch:=first|with_reducible rfl|omega|(simp only[nA,nS,nD]<;>omega)|fail)only[go_sem]
 have gb:((h.add (.bk (atV a C R G))).add (.bk [.ii 0,.ii 0,.nils,.nils,.nils])).get (h.next+1)=some (.bk [.ii 0,.ii 0,.nils,.nils,.nils]):=by simp -implicitDefEqProofs(maxSteps:=999999)(disch:=first|with_reducible rfl|omega|(simp only[nA,nS,nD]<;>omega)|fail)only[go_sem]
 have nz:((h.add (.bk (atV a C R G))).add (.bk [.ii 0,.ii 0,.nils,.nils,.nils])).next=h.next+2:=by simp only[H.next_add]
 generalize(h.add (.bk (atV a C R G))).add (.bk [.ii 0,.ii 0,.nils,.nils,.nils])=h2 at s2 ga gb nz⊢
 refine Y9 s2.wf ⟨C,R,G,rfl,x.mono s2⟩ _ fun h3 s3=>?_
 have ga3:=s3.get ga
 have gb3:=s3.get gb
 have l3:=s3.next
 by_cases he:Zn a=0
 case neg=>
  simp(disch:=omega)only[go_sem,(decide_eq_true he:decide (Zn a≠0)=true),gb3]
  exact q0 _ ((s2.trans s3).set ybc ybc hw _) he
 have d0:decide ((0:Int)≠0)=false:=rfl
 rw[he]
 simp(disch:=omega)only[go_sem,d0,Za ga3,gb3,oC,oR,oG]
 exact q1 _ ((s2.trans s3).set ybc ybc hw _) he
def VJ (a:At)(y:Rd):Int:=if Zn a≠0 then Zn a else if a.rds.length=8 then 9 else Zn (a.addR y)
def readA (a:At)(y:Rd):At:=if VJ a y=0 then a.addR y else At.none
def knowE (a:At)(y:Gp):Int:=if Zn a≠0 then Zn a else if a.gps.length=4 then 9 else Zn (a.addG y)
def knowA (a:At)(y:Gp):At:=if knowE a y=0 then a.addG y else At.none
theorem YM.appR {h0 h h':H}{C R G R2:V}{a:At}{y:Rd}(o:YM h0 h C R G a)(o7:ZW h0 h' R2 3 (a.rds.map encR++[encR y]))(b7:∀b,Zq R2 b→Zq R b∨h.next≤b)(k7:Zh (Zq R) h h'):YM h0 h' C R2 G (a.addR y):=by
 refine⟨o.c.keep k7 o7.1 fun b hb hR=>o.cr b hb hR,?_,o.g.keep k7 o7.1 fun b hb hR=>o.rg b hR hb,fun b hb hb'=>?_,o.cg,fun b hb hb'=>?_⟩
 ·have:(a.addR y).rds.map encR=a.rds.map encR++[encR y]:=by simp[At.addR]
  rw[this];exact o7
 ·rcases b7 b hb' with q|q
  ·exact o.cr b hb q
  ·have:=(o.c.blk hb).2.1;omega
 ·rcases b7 b hb with q|q
  ·exact o.rg b q hb'
  ·have:=(o.g.blk hb').2.1;omega
theorem YM.appG {h0 h h':H}{C R G G2:V}{a:At}{y:Gp}(o:YM h0 h C R G a)(o7:ZW h0 h' G2 4 (a.gps.map ZF++[ZF y]))(b7:∀b,Zq G2 b→Zq G b∨h.next≤b)(k7:Zh (Zq G) h h'):YM h0 h' C R G2 (a.addG y):=by
 refine⟨o.c.keep k7 o7.1 fun b hb hR=>o.cg b hb hR,o.r.keep k7 o7.1 fun b hb hR=>o.rg b hb hR,?_,o.cr,fun b hb hb'=>?_,fun b hb hb'=>?_⟩
 ·have:(a.addG y).gps.map ZF=a.gps.map ZF++[ZF y]:=by simp[At.addG]
  rw[this];exact o7
 ·rcases b7 b hb' with q|q
  ·exact o.cg b hb q
  ·have:=(o.c.blk hb).2.1;omega
 ·rcases b7 b hb' with q|q
  ·exact o.rg b hb q
  ·have:=(o.r.blk hb).2.1;omega
theorem YM.appC {h0 h h':H}{C R G C2:V}{a:At}{y:Ck}(o:YM h0 h C R G a)(o7:ZW h0 h' C2 4 (a.cks.map Z9++[Z9 y]))(b7:∀b,Zq C2 b→Zq C b∨h.next≤b)(k7:Zh (Zq C) h h'):YM h0 h' C2 R G (a.addC y):=by
 refine⟨?_,o.r.keep k7 o7.1 fun b hb hR=>o.cr b hR hb,o.g.keep k7 o7.1 fun b hb hR=>o.cg b hR hb,fun b hb hb'=>?_,fun b hb hb'=>?_,o.rg⟩
 ·have:(a.addC y).cks.map Z9=a.cks.map Z9++[Z9 y]:=by simp[At.addC]
  rw[this];exact o7
 ·rcases b7 b hb with q|q
  ·exact o.cr b q hb'
  ·have:=(o.r.blk hb').2.1;omega
 ·rcases b7 b hb with q|q
  ·exact o.cg b q hb'
  ·have:=(o.g.blk hb').2.1;omega
set_option maxHeartbeats 2000000 in
theorem Read_ev {h:H}(hw:h.wf){a:At}{C R G:V}(x:ZP h C R G a)(l:YJ a)(y:Rd)(Q:V→H→Prop)(q:∀C' R' G' h',YM h h' C' R' G' (readA a y)→Q (.tup [.agg (atV (readA a y) C' R' G'),.ii (VJ a y)]) h'):
  Ev fnG Zi (.fn 48 [] []) [.agg (atV a C R G),.agg (encR y)] h Q:=by
 have oC:=x.c.one;have oR:=x.r.one;have oG:=x.g.one
 have hlR:=x.r.lenE
 refine Ze (fd:=c48) rfl rfl rfl ?_
 simp -implicitDefEqProofs(disch:=first|omega|simp only[nZ]<;>omega|fail)only[c48,go_sem,encR]
 obtain⟨z,hz⟩:∃z,((h.add (.bk (atV a C R G))).add (.bk [.ii y.ck,.ii y.ev,.ii y.sh])).add (.bk [.ii 0,.ii 0,.nils,.nils,.nils])=z:=⟨_,rfl⟩
 rw[hz]
 have sz:h.Sub z:=by rw[←hz];exact yba
 have nz:z.next=h.next+3:=by rw[←hz];simp only[H.next_add]
 have ga:z.get h.next=some (.bk (atV a C R G)):=by rw[←hz];simp -implicitDefEqProofs(maxSteps:=999999)(disch:=first|with_reducible rfl|omega|(simp only[nA,nS,nD]<;>omega)|fail)only[go_sem]
 have gy:z.get (h.next+1)=some (.bk [.ii y.ck,.ii y.ev,.ii y.sh]):=by rw[←hz];simp -implicitDefEqProofs(maxSteps:=999999)(disch:=first|with_reducible rfl|omega|(simp only[nA,nS,nD]<;>omega)|fail)only[go_sem]
 have gb:z.get (h.next+2)=some (.bk [.ii 0,.ii 0,.nils,.nils,.nils]):=by rw[←hz];simp -implicitDefEqProofs(maxSteps:=999999)(disch:=first|with_reducible rfl|omega|(simp only[nA,nS,nD]<;>omega)|fail)only[go_sem]
 clear hz
 rw[show h.next+1+1=h.next+2 from rfl]
 have bad:∀z':H,h.Sub z'→h.next+2<z'.next→∀e,VJ a y=e→e≠0→Q (.tup [.agg [.ii 0,.ii 0,.nils,.nils,.nils],.ii e]) (z'.set (h.next+2) (.bk [.ii 0,.ii 0,.nils,.nils,.nils])):=fun z' s l e he hn=>by
  have hA:readA a y=At.none:=if_neg (by rw[he];exact hn)
  have:=q .nils .nils .nils _ ybr
  rwa[hA,he] at this
 refine Y9 sz.wf ⟨C,R,G,rfl,x.mono sz⟩ _ fun z3 s3=>?_
 have s03:=sz.trans s3
 have l3:=s3.next
 by_cases he:Zn a=0
 case neg=>
  simp(disch:=omega)only[go_sem,(decide_eq_true he:decide (Zn a≠0)=true),s3.get gb]
  exact bad _ s03 ybc _ (if_pos he) he
 have d0:decide ((0:Int)≠0)=false:=rfl
 rw[he]
 by_cases h8:a.rds.length=8
 ·have h8':(a.rds.length:Int)=8:=by omega
  simp(disch:=omega)only[go_sem,d0,Za (s3.get ga),hlR,h8',s3.get gb]
  exact bad _ s03 ybc _ (by unfold VJ;rw[if_neg (by rw[he];simp),if_pos h8]) ybj
 have h8':¬(a.rds.length:Int)=8:=by omega
 have eE:VJ a y=Zn (a.addR y):=by unfold VJ;rw[if_neg (by rw[he];simp),if_neg h8]
 simp(disch:=omega)only[go_sem,d0,Za (s3.get ga),hlR,h8']
 refine copied_ev s03.wf (x.mono s03) l _ fun C1 R1 G1 z4 ow=>?_
 have s4:=ow.sub
 have l4:=s4.next
 have o1C:=ow.c.one;have o1R:=ow.r.one;have o1G:=ow.g.one
 have g14:=(s3.trans s4).get gy
 simp(disch:=omega)only[go_sem,o1C,o1R,o1G,Za g14]
 obtain⟨z5,hz5⟩:∃z5,z4.add (.bk (atV a C1 R1 G1))=z5:=⟨_,rfl⟩
 have s45:z4.Sub z5:=by rw[←hz5];exact(H.Sub.refl s4.wf).add _
 have g5:z5.get z4.next=some (.bk (atV a C1 R1 G1)):=by rw[←hz5];exact Zc rfl
 have n5:z5.next=z4.next+1:=by rw[←hz5];exact H.next_add _ _
 have ow5:=ow.mono s45
 have s6:=s45.trans ((H.Sub.refl s45.wf).add (.bk [.ii y.ck,.ii y.ev,.ii y.sh]))
 have ow6:=ow5.mono ((H.Sub.refl s45.wf).add (.bk [.ii y.ck,.ii y.ev,.ii y.sh]))
 have g6:=((H.Sub.refl s45.wf).add (.bk [.ii y.ck,.ii y.ev,.ii y.sh])).get g5
 have n6:=H.next_add z5 (.bk [.ii y.ck,.ii y.ev,.ii y.sh])
 rw[hz5]
 have ll:=l.r
 have r8:a.rds.length≤8:=(Zz.1 he).lens.2.1
 refine ow6.r.app1 (by_:=24) (r:=encR y) s03.wf rfl ybc (Zg.new _ (by rw[n5]) rfl rfl (by simp[encR]) ybp) rfl ybm ybm fun R2 z7 o7 b7 k7=>?_
 have ow7:=ow6.appR o7 b7 k7
 have nR:∀b,Zq R1 b→b<z4.next:=fun b hb=>(ow.r.blk hb).2.1
 have g7:=k7.2 _ _ g6 fun hb=>by have:=nR _ hb;omega
 have l7:=k7.1
 have o1R2:=ow7.r.one
 have s07:=ow7.sub
 have n2R:∀b,V5 C1 R2 G1 b→b≠z4.next:=fun b hb=>by
  rcases hb with hb|hb|hb
  ·have:=(ow.c.blk hb).2.1;omega
  ·rcases b7 b hb with q|q
   ·have:=nR _ q;omega
   ·omega
  ·have:=(ow.g.blk hb).2.1;omega
 have s8:z3.Sub (z7.set z4.next (.bk (atV a C1 R2 G1))):=s07.set ybc ybc s03.wf _
 have ow8:=ow7.keep (Zh.set z7 z4.next (.bk (atV a C1 R2 G1))) s8 fun b hb=>n2R b hb
 simp(disch:=omega)only[go_sem,g7,o1R2,cells_one o1R2]
 obtain⟨z8,hz8⟩:∃z8,z7.set z4.next (.bk (atV a C1 R2 G1))=z8:=⟨_,rfl⟩
 rw[hz8] at s8 ow8
 try rw[hz8]
 have l8:=s8.next
 have sA:YJ (a.addR y):=⟨l.c,by have:=r8;simp[At.addR];omega,l.g⟩
 refine checked_ev s8.wf (ow8.at_ sA) _ (fun z9 s9 hn=>?_) fun z9 s9 h0=>?_
 ·have s89:=s8.trans s9
  have l9:=s89.next
  simp(disch:=omega)only[go_sem,s89.get (s3.get gb)]
  exact bad _ (s03.trans s89) ybc _ eE hn
 ·have s89:=s8.trans s9
  have l9:=s89.next
  have hA:readA a y=a.addR y:=if_pos (by rw[eE,h0])
  have s10:h.Sub (z9.set (h.next+2) (.bk (atV (a.addR y) C1 R2 G1))):=(s03.trans s89).set ybc ybc hw _
  have:=q C1 R2 G1 _ (by rw[hA];exact((ow8.mono s9).base s03).keep (Zh.set z9 (h.next+2) (.bk (atV (a.addR y) C1 R2 G1))) s10 fun b hb=>by have:=((ow8.mono s9).blk hb).1;omega)
  rw[hA,eE,h0] at this
  simp(disch:=omega)only[go_sem,s89.get (s3.get gb),o1C,o1R2,o1G]
  exact this
set_option maxHeartbeats 2000000 in
theorem Know_ev {h:H}(hw:h.wf){a:At}{C R G:V}(x:ZP h C R G a)(l:YJ a)(y:Gp)(Q:V→H→Prop)(q:∀C' R' G' h',YM h h' C' R' G' (knowA a y)→Q (.tup [.agg (atV (knowA a y) C' R' G'),.ii (knowE a y)]) h'):
  Ev fnG Zi (.fn 49 [] []) [.agg (atV a C R G),.agg (ZF y)] h Q:=by
 have oC:=x.c.one;have oR:=x.r.one;have oG:=x.g.one
 have hlR:=x.g.lenE
 refine Ze (fd:=c49) rfl rfl rfl ?_
 simp -implicitDefEqProofs(disch:=first|omega|simp only[nZ]<;>omega|fail)only[c49,go_sem,ZF]
 obtain⟨z,hz⟩:∃z,((h.add (.bk (atV a C R G))).add (.bk [.ii y.fr,.ii y.to,.ii y.lo,.ii y.hi])).add (.bk [.ii 0,.ii 0,.nils,.nils,.nils])=z:=⟨_,rfl⟩
 rw[hz]
 have sz:h.Sub z:=by rw[←hz];exact yba
 have nz:z.next=h.next+3:=by rw[←hz];simp only[H.next_add]
 have ga:z.get h.next=some (.bk (atV a C R G)):=by rw[←hz];simp -implicitDefEqProofs(maxSteps:=999999)(disch:=first|with_reducible rfl|omega|(simp only[nA,nS,nD]<;>omega)|fail)only[go_sem]
 have gy:z.get (h.next+1)=some (.bk [.ii y.fr,.ii y.to,.ii y.lo,.ii y.hi]):=by rw[←hz];simp -implicitDefEqProofs(maxSteps:=999999)(disch:=first|with_reducible rfl|omega|(simp only[nA,nS,nD]<;>omega)|fail)only[go_sem]
 have gb:z.get (h.next+2)=some (.bk [.ii 0,.ii 0,.nils,.nils,.nils]):=by rw[←hz];simp -implicitDefEqProofs(maxSteps:=999999)(disch:=first|with_reducible rfl|omega|(simp only[nA,nS,nD]<;>omega)|fail)only[go_sem]
 clear hz
 rw[show h.next+1+1=h.next+2 from rfl]
 have bad:∀z':H,h.Sub z'→h.next+2<z'.next→∀e,knowE a y=e→e≠0→Q (.tup [.agg [.ii 0,.ii 0,.nils,.nils,.nils],.ii e]) (z'.set (h.next+2) (.bk [.ii 0,.ii 0,.nils,.nils,.nils])):=fun z' s l e he hn=>by
  have hA:knowA a y=At.none:=if_neg (by rw[he];exact hn)
  have:=q .nils .nils .nils _ ybr
  rwa[hA,he] at this
 refine Y9 sz.wf ⟨C,R,G,rfl,x.mono sz⟩ _ fun z3 s3=>?_
 have s03:=sz.trans s3
 have l3:=s3.next
 by_cases he:Zn a=0
 case neg=>
  simp(disch:=omega)only[go_sem,(decide_eq_true he:decide (Zn a≠0)=true),s3.get gb]
  exact bad _ s03 ybc _ (if_pos he) he
 have d0:decide ((0:Int)≠0)=false:=rfl
 rw[he]
 by_cases h8:a.gps.length=4
 ·have h8':(a.gps.length:Int)=4:=by omega
  simp(disch:=omega)only[go_sem,d0,Za (s3.get ga),hlR,h8',s3.get gb]
  exact bad _ s03 ybc _ (by unfold knowE;rw[if_neg (by rw[he];simp),if_pos h8]) ybj
 have h8':¬(a.gps.length:Int)=4:=by omega
 have eE:knowE a y=Zn (a.addG y):=by unfold knowE;rw[if_neg (by rw[he];simp),if_neg h8]
 simp(disch:=omega)only[go_sem,d0,Za (s3.get ga),hlR,h8']
 refine copied_ev s03.wf (x.mono s03) l _ fun C1 R1 G1 z4 ow=>?_
 have s4:=ow.sub
 have l4:=s4.next
 have o1C:=ow.c.one;have o1R:=ow.r.one;have o1G:=ow.g.one
 have g14:=(s3.trans s4).get gy
 simp(disch:=omega)only[go_sem,o1C,o1R,o1G,Za g14]
 obtain⟨z5,hz5⟩:∃z5,z4.add (.bk (atV a C1 R1 G1))=z5:=⟨_,rfl⟩
 have s45:z4.Sub z5:=by rw[←hz5];exact(H.Sub.refl s4.wf).add _
 have g5:z5.get z4.next=some (.bk (atV a C1 R1 G1)):=by rw[←hz5];exact Zc rfl
 have n5:z5.next=z4.next+1:=by rw[←hz5];exact H.next_add _ _
 have ow5:=ow.mono s45
 have s6:=s45.trans ((H.Sub.refl s45.wf).add (.bk [.ii y.fr,.ii y.to,.ii y.lo,.ii y.hi]))
 have ow6:=ow5.mono ((H.Sub.refl s45.wf).add (.bk [.ii y.fr,.ii y.to,.ii y.lo,.ii y.hi]))
 have g6:=((H.Sub.refl s45.wf).add (.bk [.ii y.fr,.ii y.to,.ii y.lo,.ii y.hi])).get g5
 have n6:=H.next_add z5 (.bk [.ii y.fr,.ii y.to,.ii y.lo,.ii y.hi])
 rw[hz5]
 have ll:=l.g
 have r8:a.gps.length≤4:=(Zz.1 he).lens.2.2
 refine ow6.g.app1 (by_:=32) (r:=ZF y) s03.wf rfl ybc (Zg.new _ (by rw[n5]) rfl rfl (by simp[ZF]) ybp) rfl ybm ybm fun G2 z7 o7 b7 k7=>?_
 have ow7:=ow6.appG o7 b7 k7
 have nR:∀b,Zq G1 b→b<z4.next:=fun b hb=>(ow.g.blk hb).2.1
 have g7:=k7.2 _ _ g6 fun hb=>by have:=nR _ hb;omega
 have l7:=k7.1
 have o1G2:=ow7.g.one
 have s07:=ow7.sub
 have n2R:∀b,V5 C1 R1 G2 b→b≠z4.next:=fun b hb=>by
  rcases hb with hb|hb|hb
  ·have:=(ow.c.blk hb).2.1;omega
  ·have:=(ow.r.blk hb).2.1;omega
  ·rcases b7 b hb with q|q
   ·have:=nR _ q;omega
   ·omega
 have s8:z3.Sub (z7.set z4.next (.bk (atV a C1 R1 G2))):=s07.set ybc ybc s03.wf _
 have ow8:=ow7.keep (Zh.set z7 z4.next (.bk (atV a C1 R1 G2))) s8 fun b hb=>n2R b hb
 simp(disch:=omega)only[go_sem,g7,o1G2,cells_one o1G2]
 obtain⟨z8,hz8⟩:∃z8,z7.set z4.next (.bk (atV a C1 R1 G2))=z8:=⟨_,rfl⟩
 rw[hz8] at s8 ow8
 try rw[hz8]
 have l8:=s8.next
 have sA:YJ (a.addG y):=⟨l.c,l.r,by have:=r8;simp[At.addG];omega⟩
 refine checked_ev s8.wf (ow8.at_ sA) _ (fun z9 s9 hn=>?_) fun z9 s9 h0=>?_
 ·have s89:=s8.trans s9
  have l9:=s89.next
  simp(disch:=omega)only[go_sem,s89.get (s3.get gb)]
  exact bad _ (s03.trans s89) ybc _ eE hn
 ·have s89:=s8.trans s9
  have l9:=s89.next
  have hA:knowA a y=a.addG y:=if_pos (by rw[eE,h0])
  have s10:h.Sub (z9.set (h.next+2) (.bk (atV (a.addG y) C1 R1 G2))):=(s03.trans s89).set ybc ybc hw _
  have:=q C1 R1 G2 _ (by rw[hA];exact((ow8.mono s9).base s03).keep (Zh.set z9 (h.next+2) (.bk (atV (a.addG y) C1 R1 G2))) s10 fun b hb=>by have:=((ow8.mono s9).blk hb).1;omega)
  rw[hA,eE,h0] at this
  simp(disch:=omega)only[go_sem,s89.get (s3.get gb),o1C,o1R,o1G2]
  exact this
end Go.Ab.Tryz
namespace Go.Ab.Tryz
open Go.Proofs
theorem indexFuncInt_ev {l:List Int}{p:Int→Bool}{h:H}{x f:V}(hw:h.wf)(hx:Zg h x 1 (l.map encI))(hp:∀a∈l,YA h f [.ii a] (.bool (p a))):
  E (.fn 155 [] []) [x,f] h fun v h'=>v=.ii (XO p l 0)∧h.Sub h':=by
 have hb:=hx.boundE
 refine Ze (fd:=c155) rfl rfl rfl ?_
 simp(disch:=omega)only[c155,go_sem,hx.lenE]
 refine Zk l.length (fun i s=>∃tm h',s=⟨tm,h',[]⟩∧h.Sub h'∧tm.E 0=x∧tm.E 1=f∧tm.E 7=.ii (l.length:Int)∧tm.E 8=.ii (i:Int)∧XO p l 0=XO p (l.drop i) i)
  ?_ ?_ (i:=0) (Nat.zero_le _) ⟨_,_,rfl,H.Sub.refl hw,ybb,ybb,ybb,ybx,rfl⟩
 ·rintro i s hi ⟨tm,h',rfl,hs,e0,e1,e7,e8,e9⟩
  have hi':(i:Int)<(l.length:Int):=by omega
  obtain⟨b,o,c,cs,rfl,hc,hq,hg,hn,hn0⟩:=(hx.mono hs).at hi
  simp(disch:=omega)only[go_sem,e0,e1,e7,e8,hi',hq (Zb i),hc,hn0 ybc,encI]
  refine(hp _ (List.getElem_mem hi)).use hs fun h2 hs2=>?_
  cases hpr:p l[i] with
  |true=>
   simp(disch:=omega)only[go_sem,e0,e1,e7,e8]
   exact⟨by rw[e9,VX hi hpr],hs.trans hs2⟩
  |false=>
   simp(disch:=omega)only[go_sem,e0,e1,e7,e8,Zj]
   exact⟨_,_,rfl,hs.trans hs2,ybt,ybl,(by simp[Zm,Zd,e7]<;>rfl),ybb,by rw[e9,VW hi hpr]⟩
 ·rintro s ⟨tm,h',rfl,hs,e0,e1,e7,e8,e9⟩
  simp(disch:=omega)only[go_sem,e0,e1,e7,e8,Int.lt_irrefl]
  exact⟨by rw[e9];simp[XO],hs⟩
theorem containsFuncInt_ev {l:List Int}{p:Int→Bool}{h:H}{x f:V}(hw:h.wf)(hx:Zg h x 1 (l.map encI))(hp:∀a∈l,YA h f [.ii a] (.bool (p a))):
  E (.fn 148 [] []) [x,f] h fun v h'=>v=.bool (l.any p)∧h.Sub h':=by
 refine Ze (fd:=c148) rfl rfl rfl ?_
 simp(disch:=omega)only[c148,go_sem]
 refine(indexFuncInt_ev hw hx hp).mono fun v h' hv=>?_
 obtain⟨rfl,hs⟩:=hv
 simp(disch:=omega)only[go_sem]
 exact⟨by rw[VY],hs⟩
theorem everyInt_ev {l:List Int}{p:Int→Bool}{h:H}{x:V}{g:FuncId}{u w:List V}(hw:h.wf)(hx:Zg h x 1 (l.map encI))(hp:∀a∈l,YA h (.fn g u w) [.ii a] (.bool (p a))):
  E (.fn 109 [] []) [x,.fn g u w] h fun v h'=>v=.bool (l.all p)∧h.Sub h':=by
 refine Ze (fd:=c109) rfl rfl rfl ?_
 simp(disch:=omega)only[c109,go_sem]
 have hs1:h.Sub (h.add (.bk [.fn g u w])):=(H.Sub.refl hw).add _
 refine(containsFuncInt_ev (p:=fun a=> !p a) hs1.wf (hx.mono hs1) fun a ha h2 hs2=>?_).mono fun v h' hv=>?_
 ·have hc:h2.cells h.next=some [.fn g u w]:=hs2.cells (Zu rfl)
  have hl:h.next<h2.next:=by have:=hs2.next;rw[H.next_add] at this;omega
  refine Ze (fd:=c149) rfl rfl rfl ?_
  simp(disch:=omega)only[c149,go_sem,hc]
  refine((hp a ha).mono hs1).use hs2 fun h3 hs3=>?_
  simp(disch:=omega)only[go_sem]
  exact hs3
 ·obtain⟨rfl,hs⟩:=hv
  simp(disch:=omega)only[go_sem]
  exact⟨by rw[any_not],hs1.trans hs⟩
theorem indexInt_ev {l:List Int}{h:H}{x:V}(hw:h.wf)(hx:Zg h x 1 (l.map encI))(e:Int):
  E (.fn 142 [] []) [x,.ii e] h fun v h'=>v=.ii (XO (fun r=>decide (e=r)) l 0)∧h.Sub h':=by
 have hb:=hx.boundE
 refine Ze (fd:=c142) rfl rfl rfl ?_
 simp(disch:=omega)only[c142,go_sem,hx.lenE]
 refine Zk l.length (fun i s=>∃tm h',s=⟨tm,h',[]⟩∧h.Sub h'∧tm.E 0=x∧tm.E 1=.ii e∧tm.E 7=.ii (l.length:Int)∧tm.E 8=.ii (i:Int)∧XO (fun r=>decide (e=r)) l 0=XO (fun r=>decide (e=r)) (l.drop i) i)
  ?_ ?_ (i:=0) (Nat.zero_le _) ⟨_,_,rfl,H.Sub.refl hw,ybb,ybb,ybb,ybb,rfl⟩
 ·rintro i s hi ⟨tm,h',rfl,hs,e0,e1,e7,e8,e9⟩
  have hi':(i:Int)<(l.length:Int):=by omega
  obtain⟨b,o,c,cs,rfl,hc,hq,hg,hn,hn0⟩:=(hx.mono hs).at hi
  have hv:=hn0 ybc
  simp only[encI] at hv
  simp(disch:=omega)only[go_sem,e0,e1,e7,e8,hi',hq (Zb i),hc,hv]
  by_cases hpr:e=l[i]
  ·have hd:decide (e=l[i])=true:=decide_eq_true hpr
   simp(disch:=omega)only[go_sem,e0,e1,e7,e8,hd,hpr]
   exact⟨by first|rw[e9,VX hi hd]|(rw[←hpr];rw[e9,VX hi hd]),hs⟩
  ·have hd:decide (e=l[i])=false:=decide_eq_false hpr
   simp(disch:=omega)only[go_sem,e0,e1,e7,e8,hd,hpr,Zj]
   exact⟨_,_,rfl,hs,ybt,ybl,(by simp[Zm,Zd,e7]<;>rfl),ybb,by rw[e9,VW hi hd]⟩
 ·rintro s ⟨tm,h',rfl,hs,e0,e1,e7,e8,e9⟩
  simp(disch:=omega)only[go_sem,e0,e1,e7,e8,Int.lt_irrefl]
  exact⟨by rw[e9];simp[XO],hs⟩
theorem hasInt_ev {l:List Int}{h:H}{x:V}(hw:h.wf)(hx:Zg h x 1 (l.map encI))(e:Int)(Q:V→H→Prop)(q:∀h',h.Sub h'→Q (.bool (l.any fun r=>decide (e=r))) h'):
  Ev fnG Zi (.fn 93 [] []) [x,.ii e] h Q:=by
 refine Ze (fd:=c93) rfl rfl rfl ?_
 simp(disch:=omega)only[c93,go_sem]
 refine(indexInt_ev hw hx e).mono fun v h' hv=>?_
 obtain⟨rfl,hs⟩:=hv
 simp(disch:=omega)only[go_sem]
 rw[VY]
 exact q _ hs
theorem X5 {h:H}{x:V}{l:List Int}(hw:h.wf)(hx:Zg h x 1 (l.map encI))(hl:l.length≤1000000)(Q:V→H→Prop):
  Ev fnG Zi (.fn 52 [] []) [x] h Q=Q (.sl h.next 0 l.length (.fix l.length)) (h.add (.bk (l.map encI).flatten)):=by
 refine Ev.det (Ze (fd:=c52) rfl rfl rfl ?_) Q
 simp(disch:=omega)only[c52,go_sem,hx.lenE,a_msl_0n]
 have:=dup_core (by_:=8) (z:=[.ii 0]) hx hw rfl ybc (Wm (fun a=>rfl) l)
 rw[List.length_map] at this
 simp(disch:=omega)only[go_sem,this]
theorem cloneInt_ev {h:H}{x:V}{rows:List (List V)}(hw:h.wf)(hx:Zg h x 1 rows)(hl:rows.length≤1000000)(Q:V→H→Prop)(q:∀v h',ZW h h' v 1 rows→Q v h'):Ev fnG Zi (.fn 140 [] []) [x] h Q:=by
 refine Ze (fd:=c140) rfl rfl rfl ?_
 rcases hx.2.2 with⟨rfl,e⟩|⟨b,o,c,cs,rfl,_⟩
 ·simp(disch:=omega)only[c140,go_sem]
  exact q _ _ (by rw[e];exact(Zx.nil (H.Sub.refl hw) 1).c)
 ·simp(disch:=omega)only[c140,go_sem]
  refine Ut hw hx ybc ybc fun v h' ov=>?_
  simp(disch:=omega)only[go_sem]
  exact q _ _ ov
end Go.Ab.Tryz
namespace Go.Ab.Tryz
open Go.Proofs
theorem sl_noInt {h:H}{x:V}{sz:Nat}{rows:List (List V)}(a:Zg h x sz rows)(k:IntKind)(m:Int):x≠.int k m:=by
 rcases a.2.2 with⟨e,_⟩|⟨_,_,_,_,e,_⟩<;>rw[e]<;>simp
theorem VR {h h':H}{S:Nat→Prop}{x:V}{l:List Int}(w:Zg h x 1 (l.map encI))(k:Zh S h h')(n:∀b cs,S b→h.cells b=some cs→∀m,V.ii m ∉cs):Zg h' x 1 (l.map encI):=by
 obtain⟨a1,a0,a2⟩:=w
 refine⟨a1,a0,?_⟩
 rcases a2 with a2|⟨b,o,c,cs,e1,e2,e3⟩
 ·exact .inl a2
 ·refine .inr ⟨b,o,c,cs,e1,?_,e3⟩
  cases hm:l with
  |nil=>exact .inl ybp
  |cons m ms'=>
   rw[hm] at e2 e3
   refine .inr ?_
   have e2:=e2.resolve_left ybp
   refine k.cells e2 fun hs=>n b cs hs e2 m ?_
   have h1:=(ZU.1 e3).1
   have h2:V.ii m∈(((m::ms').map encI).flatten):=by simp[encI]
   rw[h1] at h2
   exact List.mem_of_mem_drop (List.mem_of_mem_take h2)
def Up (n:Nat)(x:V):Prop:=∀b,Zq x b→n≤b
theorem Up.nils (n:Nat):Up n .nils:=fun b h=>(Zy h).elim
theorem Up.low {n n':Nat}{x:V}(u:Up n x)(h:n'≤n):Up n' x:=fun b hb=>Nat.le_trans h (u b hb)
theorem Up.sl {n b o k:Nat}{c:Cap}(h:n≤b):Up n (.sl b o k c):=fun b' ⟨_,_,_,e⟩=>by cases e;exact h
theorem ownUp {h0 h:H}{x:V}{sz:Nat}{rows:List (List V)}(a:Zx h0 h x sz rows):Up h0.next x:=fun b hb=>(a.blk hb).1
theorem Yb {h h':H}{S:Nat→Prop}{x:V}{sz n:Nat}{rows:List (List V)}(w:Zg h x sz rows)(u:Up n x)(k:Zh S h h')(hS:∀b,S b→b<n):Zg h' x sz rows:=by
 obtain⟨a1,a0,a2⟩:=w
 refine⟨a1,a0,?_⟩
 rcases a2 with a2|⟨b,o,c,cs,e1,e2,e3⟩
 ·exact .inl a2
 ·refine .inr ⟨b,o,c,cs,e1,e2.imp id fun e2=>k.cells e2 fun hs=>?_,e3⟩
  have h1:=hS b hs
  have h2:=u b ⟨_,_,_,e1⟩
  omega
structure LL (h0 h:H)(y:V)(L:List (List Int))(vs:List V):Prop where
 o:Zx h0 h y 1 (vs.map fun v=>[v])
 len:vs.length=L.length
 e:∀(i:Nat) (v:V) (l:List Int),vs[i]? =some v→L[i]? =some l→Zg h v 1 (l.map encI)
 u:∀v∈vs,Up h0.next v
variable {h0 h h':H} {y:V} {L:List (List Int)} {vs:List V}
theorem LL.mono (k:LL h0 h y L vs)(s:h.Sub h'):LL h0 h' y L vs:=⟨k.o.mono s,k.len,fun i v l h1 h2=>(k.e i v l h1 h2).mono s,k.u⟩
theorem LL.nil (s:h0.Sub h):LL h0 h .nils [] []:=⟨Zx.nil s 1,rfl,fun i v l h1 _=>by simp at h1,fun v hv=>by cases hv⟩
theorem LL.vs_noInt (k:LL h0 h y L vs):∀v∈vs,∀m,v≠.ii m:=fun v hv m=>by
 obtain⟨i,hi,e⟩:=List.getElem_of_mem hv
 have h1:vs[i]? =some v:=by rw[List.getElem?_eq_getElem hi,e]
 have hi2:i<L.length:=by rw[←k.len];exact hi
 have h2:L[i]? =some L[i]:=List.getElem?_eq_getElem hi2
 exact sl_noInt (k.e i v _ h1 h2) _ _
theorem flat_single:∀vs:List V,(vs.map fun v=>[v]).flatten=vs
 |[]=>rfl
 |a::l=>by rw[List.map_cons,List.flatten_cons,flat_single l];rfl
theorem LL.one (k:LL h0 h y L vs):∀v∈vs,v.one=true:=fun v hv=>by
 obtain⟨i,hi,e⟩:=List.getElem_of_mem hv
 have h1:vs[i]? =some v:=by rw[List.getElem?_eq_getElem hi,e]
 have hi2:i<L.length:=by rw[←k.len];exact hi
 have h2:L[i]? =some L[i]:=List.getElem?_eq_getElem hi2
 exact(k.e i v _ h1 h2).one
theorem LL.push (k:LL h0 h y L vs)(hw0:h0.wf)(hl:L.length≤1000000){h1:H}(s:h.Sub h1){v:V}{l:List Int}(hv:Zg h1 v 1 (l.map encI))(hu:Up h0.next v){Q:V→H→Prop}(q:∀y' h',LL h0 h' y' (L++[l]) (vs++[v])→Q y' h'):
  P2 (Z2 (h1.add (.bk [v])) 1 24 y (.sl h1.next 0 1 (.fix 1))) Q:=by
 have s2:=(H.Sub.refl s.wf).add (.bk [v])
 have k2:=k.mono (s.trans s2)
 have hv2:=hv.mono s2
 have hlen:=k.len
 refine k2.o.app1 (by_:=24) (r:=[v]) hw0 rfl ybc (Zg.new _ rfl rfl ybp ybp ybp) (by rw[Yz,hv.one];rfl) ybm ybm fun h' o' kk _=>q _ _ ⟨by rw[List.map_append];exact o',by simp[hlen],fun i v' l' e1 e2=>?_,fun v' hv'=>?_⟩
 rotate_left
 ·rcases List.mem_append.1 hv' with hv'|hv'
  ·exact k.u v' hv'
  ·rw[List.mem_singleton] at hv';rw[hv'];exact hu
 have hno:∀b cs,Zq y b→(h1.add (.bk [v])).cells b=some cs→∀m,V.ii m ∉cs:=fun b cs hb hc=>by
  rcases k2.o.2.2 with⟨e,_⟩|⟨b2,e,_,_,g⟩
  ·rw[e] at hb;exact(Zy hb).elim
  ·obtain⟨o,n,c,e2⟩:=hb
   rw[e] at e2;cases e2
   rw[Za g] at hc;cases hc
   rw[flat_single]
   exact fun m hm=>k.vs_noInt _ hm m rfl
 rcases Xw.1 e1 with e1|⟨q1,rfl⟩
 ·rcases Xw.1 e2 with e2|⟨q2,_⟩
  ·exact VR (k2.e i v' l' e1 e2) kk hno
  ·have:=Vf e1;omega
 ·rcases Xw.1 e2 with e2|⟨_,rfl⟩
  ·have:=Vf e2;omega
  ·exact VR hv2 kk hno
def LR (n:Nat)(h:H)(y:V)(L:List (List Int)):Prop:=∃vs:List V,Zg h y 1 (vs.map fun v=>[v])∧vs.length=L.length∧(∀(i:Nat) (v:V) (l:List Int),vs[i]? =some v→L[i]? =some l→Zg h v 1 (l.map encI))∧Up n y∧∀v∈vs,Up n v
theorem LL.rd (k:LL h0 h y L vs)(hl:L.length≤1000000):LR h0.next h y L:=⟨vs,k.o.c.sl (by rw[List.length_map,k.len];omega),k.len,k.e,(ownUp k.o),k.u⟩
variable {n n':Nat}
theorem LR.mono (k:LR n h y L)(s:h.Sub h'):LR n h' y L:=by
 obtain⟨vs,k1,k2,k3,k4⟩:=k
 exact⟨vs,k1.mono s,k2,fun i v l h1 h2=>(k3 i v l h1 h2).mono s,k4⟩
theorem LR.low (k:LR n h y L)(s:n'≤n):LR n' h y L:=by
 obtain⟨vs,k1,k2,k3,k4,k5⟩:=k
 exact⟨vs,k1,k2,k3,k4.low s,fun v hv=>(k5 v hv).low s⟩
theorem LR.lenE (k:LR n h y L):q_len y=some (.ii (L.length:Int)):=by
 obtain⟨vs,k1,k2,k3⟩:=k
 have:=k1.lenE
 rw[←k2];exact this
theorem LR.at_ (k:LR n h y L){i:Nat}(hi:i<L.length):∃b o cs v,h.cells b=some cs∧(∀{u:V},nat? u=some i→Yw 1 y u=some (.ptr b o))∧nth o cs=some v∧Zg h v 1 (L[i].map encI)∧Up n v:=by
 obtain⟨vs,k1,k2,k3,k4,k5⟩:=k
 have hi2:i<vs.length:=by rw[k2];exact hi
 obtain⟨b,o,c,cs,_,hc,hq,_,_,hn⟩:=k1.at hi2
 have v0:=hn ybj
 simp only[List.getElem?_cons_zero] at v0
 exact⟨b,_,cs,vs[i],hc,hq,v0,k3 i _ _ (List.getElem?_eq_getElem hi2) (List.getElem?_eq_getElem hi),k5 _ (List.getElem_mem hi2)⟩
end Go.Ab.Tryz
namespace Go.Ab.Tryz
open Go.Proofs
theorem VU:∀l:List Int,(l.map encI).flatten=l.map iv
 |[]=>rfl
 |a::l=>by rw[List.map_cons,List.flatten_cons,VU l];rfl
theorem cons_app {h:H}(hw:h.wf){m:Int}{v:V}{l:List Int}(hv:Zg h v 1 (l.map encI))(hl:l.length≤1000){Q:V→H→Prop}(q:∀y h',h.Sub h'→Zg h' y 1 ((m::l).map encI)→Up h.next y→Q y h'):
  P2 (Z2 (h.add (.bk [.ii m])) 1 8 (.sl h.next 0 1 (.fix 1)) v) Q:=by
 have s1:h.Sub (h.add (.bk [.ii m])):=(H.Sub.refl hw).add _
 have hv1:=(hv.mono s1).elems
 rw[VU,List.length_map] at hv1
 have x1:Zg (h.add (.bk [.ii m])) (.sl h.next 0 1 (.fix 1)) 1 [encI m]:=Zg.new _ rfl rfl rfl (by simp[encI]) ybp
 rw[W6,hv1.1,hv1.2]
 simp only[WA]
 cases l with
 |nil=>
  rw[List.length_nil,Ur]
  have:Nat.ble 1 1=true:=rfl
  rw[this,YP,YE]
  exact q _ _ s1 x1 (Up.sl (Nat.le_refl _))
 |cons a l=>
  rw[List.length_cons] at hl
  rw[List.length_cons,W5 ybc x1.elems.1 ybc ybc,VS,YE]
  refine q _ _ (s1.add _) (⟨fun r hr=>by obtain⟨_,_,rfl⟩:=List.mem_map.1 hr;rfl,by rw[List.length_map,List.length_cons,List.length_cons];omega,.inr ⟨_,0,_,_,by rw[List.length_map,List.length_cons,List.length_cons];congr 1;omega,.inr (Zu rfl),ZU.2 ⟨?_,?_⟩⟩⟩:Zg _ _ 1 _) (Up.sl (by rw[H.next_add];omega))
  ·rw[List.drop_zero,VU]
   have e:([encI m].flatten++(a::l).map iv)=(m::a::l).map iv:=rfl
   rw[e,List.length_map,Nat.mul_one]
   have:((m::a::l).map iv).length=(m::a::l).length:=List.length_map _
   rw[←this,List.take_length]
  ·simp[encI]
def ZN (a:At):Nat→List (List Int)
 |0=>[[]]
 |k+1=>(List.range (a.mins.toNat+1)).flatMap fun(m:Nat)=>(ZN a k).map fun l=>(m:Int)::l
theorem XM {α β:Type}{f:α→List β}{c:Nat}:∀{l:List α},(∀x∈l,(f x).length=c)→(l.flatMap f).length=l.length*c
 |[],_=>by simp
 |a::l,h=>by
  rw[List.flatMap_cons,List.length_append,h a (List.mem_cons_self ..),XM fun x hx=>h x (List.mem_cons_of_mem _ hx),List.length_cons,Nat.succ_mul]
  omega
theorem XX (a:At):∀k,(ZN a k).length=(a.mins.toNat+1)^k
 |0=>rfl
 |k+1=>by
  rw[ZN,XM (c:=(ZN a k).length) (fun x _=>List.length_map _),List.length_range,XX a k,Nat.pow_succ,Nat.mul_comm]
theorem XW {a:At}:∀{k:Nat} {l:List Int},l∈ZN a k↔l.length=k∧∀t∈l,0≤t∧t<a.mins.toNat+1
 |0,l=>by
  rw[ZN,List.mem_singleton]
  constructor
  ·rintro rfl;exact⟨rfl,fun t ht=>by cases ht⟩
  ·rintro⟨h,_⟩;exact List.length_eq_zero_iff.1 h
 |k+1,l=>by
  rw[ZN,List.mem_flatMap]
  constructor
  ·rintro⟨m,hm,hl⟩
   obtain⟨l',hl',rfl⟩:=List.mem_map.1 hl
   obtain⟨h1,h2⟩:=XW.1 hl'
   have:=List.mem_range.1 hm
   refine⟨by rw[List.length_cons,h1],fun t ht=>?_⟩
   rcases List.mem_cons.1 ht with rfl|ht
   ·omega
   ·exact h2 t ht
  ·rintro⟨h1,h2⟩
   cases l with
   |nil=>cases h1
   |cons t l=>
    have ht:=h2 t (List.mem_cons_self ..)
    refine⟨t.toNat,List.mem_range.2 ybc,List.mem_map.2 ⟨l,XW.2 ⟨by simpa using h1,fun x hx=>h2 x (List.mem_cons_of_mem _ hx)⟩,?_⟩⟩
    rw[Int.toNat_of_nonneg ht.1]
set_option maxHeartbeats 4000000 in
theorem times_ev {a:At}(r:Zl a):∀(k:Nat) {h:H} (hw:h.wf) {C R G:V} (x:ZP h C R G a) {e:Nat} (he:(e:Int)+k=a.evs) (hb:(a.mins.toNat+1)^k≤100000) (Q:V→H→Prop) (q:∀y h',h.Sub h'→LR h.next h' y (ZN a k)→Q y h'),
  Ev fnG Zi (.fn 107 [] []) [.agg (atV a C R G),.ii (e:Int)] h Q:=by
 have hev:=r.evs
 have hmn:=r.mins
 intro k
 induction k with
 |zero=>
  intro h hw C R G x e he hb Q q
  have oC:=x.c.one;have oR:=x.r.one;have oG:=x.g.one
  have hee:(e:Int)=a.evs:=by omega
  refine Ze (fd:=c107) rfl rfl rfl ?_
  obtain⟨z,hz⟩:∃z,h.add (.bk (atV a C R G))=z:=⟨_,rfl⟩
  have sz:h.Sub z:=by rw[←hz];exact yba
  have ga:z.get h.next=some (.bk (atV a C R G)):=by rw[←hz];exact Zc rfl
  simp(disch:=omega)only[c107,go_sem,oC,oR,oG,hz,Za ga,hee]
  try rw[hz]
  refine q _ _ (sz.add _) ⟨[.nils],Zg.new _ (by rw[←hz]) rfl rfl ybp ybp,rfl,fun i v l h1 h2=>?_,Up.sl sz.next,fun v hv=>by rw[List.mem_singleton] at hv;rw[hv];exact Up.nils _⟩
  have hi:=Vf h1
  have:i=0:=by simp at hi;exact hi
  subst this
  cases h1;cases h2
  exact⟨by simp,by simp,.inl ⟨rfl,rfl⟩⟩
 |succ k ih=>
  intro h hw C R G x e he hb Q q
  have oC:=x.c.one;have oR:=x.r.one;have oG:=x.g.one
  have hee:¬(e:Int)=a.evs:=by omega
  have we:wr .i64 ((e:Int)+1)=((e+1:Nat):Int):=by rw[Zo ybc ybc];omega
  have hb1:(a.mins.toNat+1)^k≤100000:=Nat.le_trans (Nat.pow_le_pow_right ybc ybc) hb
  refine Ze (fd:=c107) rfl rfl rfl ?_
  obtain⟨z,hz⟩:∃z,h.add (.bk (atV a C R G))=z:=⟨_,rfl⟩
  have sz:h.Sub z:=by rw[←hz];exact yba
  have ga:z.get h.next=some (.bk (atV a C R G)):=by rw[←hz];exact Zc rfl
  simp(disch:=omega)only[c107,go_sem,oC,oR,oG,hz,Za ga,hee,we]
  try rw[hz]
  clear hz
  refine ih sz.wf (x.mono sz) (e:=e+1) ybc hb1 _ fun yr z1 s1 kr=>?_
  have hlr:=kr.lenE
  have s01:=sz.trans s1
  have ga1:=s1.get ga
  have hw1:=s01.wf
  obtain⟨M,hM⟩:∃M:Nat,a.mins=M:=⟨a.mins.toNat,by omega⟩
  have hM2:a.mins.toNat=M:=by omega
  have hfull:(ZN a (k+1))=(List.range (M+1)).flatMap fun(m:Nat)=>(ZN a k).map fun l=>(m:Int)::l:=by rw[ZN,hM2]
  have hlen1:(ZN a k).length≤100000:=by rw[XX];exact hb1
  have hpre:∀i,i≤M+1→((List.range i).flatMap fun(m:Nat)=>(ZN a k).map fun l=>(m:Int)::l).length≤100000:=fun i hi=>by
   rw[XM (c:=(ZN a k).length) (fun x _=>List.length_map _),List.length_range,XX,hM2]
   have h1:=Nat.mul_le_mul_right ((M+1)^k) hi
   rw[hM2,Nat.pow_succ,Nat.mul_comm] at hb
   omega
  simp(disch:=omega)only[go_sem]
  refine Zk (M+1) (fun i s=>∃tm z2 y vs,s=⟨tm,z2,[]⟩∧LL z1 z2 y ((List.range i).flatMap fun(m:Nat)=>(ZN a k).map fun l=>(m:Int)::l) vs∧
    tm.E 2=.ptr h.next 0∧tm.E 5=yr∧tm.E 6=y∧tm.E 7=.ii (i:Int)) ?_ ?_ (i:=0) (Nat.zero_le _)
   ⟨_,_,_,_,rfl,LL.nil (H.Sub.refl hw1),ybb,ybb,ybb,ybb⟩
  ·rintro i s hi ⟨tm,z2,y,vs,rfl,ll,t2,t5,t6,t7⟩
   have hi':(i:Int)≤(M:Int):=by omega
   have s2:=ll.o.1
   simp(disch:=omega)only[go_sem,t2,t5,t6,t7,Za (s2.get ga1),hM,hi']
   refine Zk (ZN a k).length (fun j s=>∃tm z2 y vs,s=⟨tm,z2,[]⟩∧LL z1 z2 y (((List.range i).flatMap fun(m:Nat)=>(ZN a k).map fun l=>(m:Int)::l)++((ZN a k).take j).map fun l=>(i:Int)::l) vs∧
     tm.E 2=.ptr h.next 0∧tm.E 5=yr∧tm.E 6=y∧tm.E 7=.ii (i:Int)∧tm.E 8=.ii (j:Int)) ?_ ?_ (i:=0) (Nat.zero_le _)
    ⟨_,_,_,_,rfl,by simpa using ll,ybq,ybd,ybf,ybi,ybb⟩
   ·clear ll t2 t5 t6 t7 s2
    rintro j s hj ⟨tm,z2,y,vs,rfl,ll,t2,t5,t6,t7,t8⟩
    have hj':(j:Int)<((ZN a k).length:Int):=by omega
    have s2:=ll.o.1
    obtain⟨bb,o,cs,v,hc,hq,hn,hv,_⟩:=(kr.mono s2).at_ hj
    have hlk:=(XW.1 (List.getElem_mem hj)).1
    have hst:(ZN a k).take (j+1)=(ZN a k).take j++[(ZN a k)[j]]:=by rw[List.take_add_one,List.getElem?_eq_getElem hj];rfl
    have hlt:=hpre i ybc
    have s2a:=(H.Sub.refl s2.wf).add (.bk [.ii (i:Int)])
    simp(disch:=omega)only[go_sem,t2,t5,t6,t7,t8,hlr,hj',hq (Zb j),hc,s2a.cells hc,hn]
    refine cons_app s2.wf hv ybc fun y3 z3 s3 x3 u3=>?_
    have o3:=x3.one
    simp(disch:=omega)only[go_sem,t2,t5,t6,t7,t8,o3,cells_one o3]
    refine ll.push hw1 (by rw[List.length_append,List.length_map,List.length_take];omega) s3 x3 (u3.low s2.next) fun y4 z4 l4=>?_
    simp(disch:=omega)only[go_sem,t2,t5,t6,t7,t8,Zj]
    exact⟨_,_,_,_,rfl,by rw[hst,List.map_append,←List.append_assoc];exact l4,ybq,ybd,ybb,ybi,ybb⟩
   ·clear ll t2 t5 t6 t7 s2
    rintro s ⟨tm,z2,y,vs,rfl,ll,t2,t5,t6,t7,t8⟩
    have hjj:¬((ZN a k).length:Int)<((ZN a k).length:Int):=by omega
    rw[List.take_length] at ll
    have w7:wr .i64 ((i:Int)+1)=((i+1:Nat):Int):=by rw[Zo ybc ybc];omega
    simp(disch:=omega)only[go_sem,t2,t5,t6,t7,t8,hlr,hjj,w7]
    exact⟨_,_,_,_,rfl,by(try rw[List.range_succ]);rw[List.flatMap_append];simpa using ll,ybq,ybd,ybf,ybb⟩
  ·rintro s ⟨tm,z2,y,vs,rfl,ll,t2,t5,t6,t7⟩
   have hi':¬((M+1:Nat):Int)≤(M:Int):=by omega
   have s2:=ll.o.1
   rw[←hfull] at ll
   simp(disch:=omega)only[go_sem,t2,t5,t6,t7,Za (s2.get ga1),hM,hi']
   exact q _ _ (s01.trans s2) ((ll.rd (by rw[XX];omega)).low s01.next)
end Go.Ab.Tryz
