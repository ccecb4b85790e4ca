/- Stores, appends, copies: sound. -/
import Derived.Test.YtiphdfiihgbomabGreatAbB
import Derived.Laws.AppendOwn
set_option linter.unusedSimpArgs false
set_option linter.unusedVariables false
namespace Go.Ab
section
variable {P:Program} {Ty:Nat→Option TD} {φ:Phi} {p:Nat→Prop} {w:World} {h h':H} {tm:T V} {ρ:Operand→Value}
theorem row_write {C:Array Value}{off o:Nat}{cs cs' vs:List V}(hl:off+cs.length≤C.size)(hc:∀i v,cs[i]? =some v→C[off+i]? =some (conc φ v))(hv:vs≠[])
  (hp:putN o vs cs=some cs'):off+o+vs.length≤C.size∧cs'.length=cs.length∧
   ((C.toList.take (off+o)++vs.map (conc φ)++C.toList.drop (off+o+vs.length)).toArray).size=C.size∧
   ∀i v,cs'[i]? =some v→((C.toList.take (off+o)++vs.map (conc φ)++C.toList.drop (off+o+vs.length)).toArray)[off+i]? =some (conc φ v):=by
 obtain⟨e1,e2⟩:=(putN_eq hv).1 hp
 have hC:C.toList.length=C.size:=rfl
 refine⟨by omega,by rw[e1];simp;omega,by simp;omega,fun i v hi=>?_⟩
 rw[e1] at hi
 have t1:min (off+o) C.size=off+o:=by omega
 have t2:min o cs.length=o:=by omega
 simp only[List.getElem?_toArray]
 by_cases h1:i<o
 ·rw[List.append_assoc,List.getElem?_append_left (by simp;omega),List.getElem?_take_of_lt (by omega)]
  rw[List.append_assoc,List.getElem?_append_left (by simp;omega),List.getElem?_take_of_lt h1] at hi
  simpa using hc i v hi
 ·by_cases h2:i<o+vs.length
  ·rw[List.getElem?_append_left (by simp;omega),List.getElem?_append_right (by simp;omega)] at hi⊢
   simp only[List.length_take,t2,hC,t1] at hi⊢
   have e:off+i-(off+o)=i-o:=by omega
   rw[e,List.getElem?_map,hi];rfl
  ·rw[List.getElem?_append_right (by simp;omega)] at hi⊢
   simp only[List.length_append,List.length_take,List.length_map,t2,hC,t1] at hi⊢
   rw[List.getElem?_drop] at hi⊢
   have e3:o+vs.length+(i-(o+vs.length))=i:=by omega
   have e4:off+o+vs.length+(off+i-(off+o+vs.length))=off+i:=by omega
   rw[e3] at hi
   rw[e4]
   simpa using hc i v hi
theorem putN_sc {q:Nat→Prop}{o:Nat}{vs l r:List V}(hp:putN o vs l=some r)(h1:scL q vs)(h2:scL q l):scL q r:=by
 have:=(putN_sound hp).1
 rw[this]
 rw[scL_iff] at *
 intro v hv
 simp only[List.mem_append] at hv
 rcases hv with(hv|hv)|hv
 ·exact h2 v (List.mem_of_mem_take hv)
 ·exact h1 v hv
 ·exact h2 v (List.mem_of_mem_drop hv)
theorem allOne_conc {vs:List V}(h:allOne vs=true):∀v∈vs.map (conc φ),v.oneCell'=true:=by
 intro v hv
 obtain⟨x,hx,rfl⟩:=List.mem_map.1 hv
 exact conc_one (allOne_eq.1 h x hx)
theorem put_row (hR:Rep Ty φ h.get p w){b o:Nat}{k:Kd}{cs cs' vs:List V}(hk:k.isRw=true)(hb:h.get b=some (.cells k cs))(hv:vs≠[])(hp:putN o vs cs=some cs')(h1:allOne vs=true)(hs:scL p vs):
  ∃w',(storeCells (φ.at b o) (vs.map (conc φ))).run P w=.ok () w'∧Rep Ty φ (h.set b (.cells k cs')).get p w'∧Ext φ p h.get w φ p (h.set b (.cells k cs')).get w':=by
 obtain⟨C,e,fz,hat,hfz,hl,hc,hg⟩:=hR.row hb
 have:=hfz hk;subst this
 obtain⟨r1,r2,r3,r4⟩:=row_write hl hc hv hp
 have hst:=run_storeCells_at P (φ.blk b) (φ.off b+o) e (vs.map (conc φ)) 0 C w hat (by simp;omega) (allOne_conc h1)
 simp only[Nat.add_zero,List.length_map] at hst
 refine⟨_,hst,?_⟩
 rw[H.get_set]
 refine rep_put hR hb (by simpa[Blk.rw] using hk) (by simp) (setRow_heap w _ _ _ _ _ hat) (fun B hB=>setRow_other w _ _ _ hB) ?_ (putN_sc hp hs (hR.sc b _ hb).2)
 refine⟨_,_,_,rfl,fun _=>rfl,?_,r4,fun sz hsz=>?_⟩
 ·rw[r3,r2];exact hl
 ·rw[r3,r2];exact hg sz hsz
theorem put_sound (hR:Rep Ty φ h.get p w){b o:Nat}{vs:List V}(hp:h.put b o vs=some h')(hs:scL p vs):
  h'.next=h.next∧(vs=[]→h'=h)∧∃w',(storeCells (φ.at b o) (vs.map (conc φ))).run P w=.ok () w'∧Rep Ty φ h'.get p w'∧Ext φ p h.get w φ p h'.get w':=by
 unfold H.put at hp
 split at hp
 ·cases hp
  exact⟨rfl,fun _=>rfl,w,rfl,hR,Ext.refl _ _ _ _⟩
 ·rename_i v vs
  cases h1:allOne (v::vs) with
  |false=>simp[h1] at hp
  |true=>
   simp only[h1] at hp
   have fin:∀{k cs},k.isRw=true→h.get b=some (.cells k cs)→setO h b k (putN o (v::vs) cs)=some h'→
     h'.next=h.next∧(v::vs=[]→h'=h)∧∃w',(storeCells (φ.at b o) ((v::vs).map (conc φ))).run P w=.ok () w'∧Rep Ty φ h'.get p w'∧Ext φ p h.get w φ p h'.get w':=by
    intro k cs hk hb hq
    unfold setO at hq
    split at hq
    ·rename_i cs' hput
     cases hq
     exact⟨H.next_set _ _ _,fun e=>by simp at e,put_row hR hk hb (by simp) hput h1 hs⟩
    ·cases hq
   split at hp
   ·rename_i cs hb;exact fin rfl hb hp
   ·rename_i s cs hb;exact fin rfl hb hp
   ·cases hp
theorem elems_sound (P:Program)(hR:Rep Ty φ h.get p w){sz k:Nat}{x:V}{cs:List V}(he:elems h sz x=some cs)(hk:lenV x=some k):
  ∃base c,conc φ x=.slice base k c∧cs.length=k*sz∧scL p cs∧(k≠0→∃a,base=some a∧∀j v,(cs.map (conc φ))[j]? =some v→w.cell? (a.add j)=some v):=by
 unfold elems at he
 split at he
 ·cases he
  simp only[lenV,Option.some.injEq] at hk
  subst hk
  exact⟨none,0,rfl,by simp,trivial,fun h=>absurd rfl h⟩
 ·rename_i a
  cases he
  simp only[lenV,Option.some.injEq] at hk
  subst hk
  exact⟨some a,0,rfl,by simp,trivial,fun h=>absurd rfl h⟩
 ·rename_i b o n c
  simp only[lenV,Option.some.injEq] at hk
  subst hk
  split at he
  ·cases he
   refine⟨some (φ.at b (match c with|.fix _=>o|.slk a p=>if φ.cap b≤a then p else o)),match c with|.fix c=>c|.slk a _=>φ.cap b-a,?_,by simp,trivial,fun h=>absurd rfl h⟩
   cases c<;>simp[conc]
  ·rename_i n
   split at he
   ·rename_i cs0 hcs
    obtain⟨rfl,hn⟩:=getN_eq.1 he
    obtain⟨kd,hb⟩:=H.cells_eq hcs
    refine⟨some (φ.at b o),match c with|.fix c=>c|.slk a _=>φ.cap b-a,?_,by simp;omega,?_,fun _=>⟨_,rfl,fun j v hj=>?_⟩⟩
    ·cases c<;>simp[conc]
    ·exact(hR.cellsN (P:=P) hcs he).2
    ·rw[at_add]
     rw[List.getElem?_map] at hj
     cases hx:((cs0.drop o).take ((n+1)*sz))[j]? with
     |none=>simp[hx] at hj
     |some x=>
      simp only[hx,Option.map_some,Option.some.injEq] at hj
      subst hj
      rw[List.getElem?_take] at hx
      split at hx
      ·rw[List.getElem?_drop] at hx
       exact(hR.cell hcs hx).1
      ·cases hx
   ·cases he
 ·cases he
theorem first_sound {sz k m c:Nat}{base:Option Addr}{cs:List V}(hl:cs.length=k*sz)
  (hb:k≠0→∃a,base=some a∧∀j v,(cs.map (conc φ))[j]? =some v→w.cell? (a.add j)=some v) (hm:m≤k) (w':World) (hw:w'.heap=w.heap):
  (Builtin.firstCells sz m (.slice base k c)).run P w'=.ok ((cs.take (m*sz)).map (conc φ)).toArray w':=by
 by_cases h0:k=0
 ·subst h0
  have:m=0:=by omega
  subst this
  cases base with
  |none=>simp[Builtin.firstCells]
  |some a=>exact(run_firstCells_some (P:=P) w' sz 0 a 0 c [] (by simp) (by simp)).trans (by simp)
 ·obtain⟨a,rfl,ha⟩:=hb h0
  refine run_firstCells_some (P:=P) w' sz m a k c ((cs.take (m*sz)).map (conc φ)) ?_ fun j v hj=>?_
  ·have:m*sz≤k*sz:=Nat.mul_le_mul_right _ hm
   simp;omega
  ·have:w'.cell? (a.add j)=w.cell? (a.add j):=by simp[World.cell?,hw]
   rw[this]
   refine ha j v ?_
   rw[List.map_take,List.getElem?_take] at hj
   split at hj
   ·exact hj
   ·cases hj
def EffOk (P:Program)(Ty:Nat→Option TD)(tm:T V)(h:H)(s:(Operand→Value)→Sem Next)(v:V)(h':H):Prop:=
 h.next≤h'.next∧∀{φ:Phi} {p:Nat→Prop} {w:World} {ρ:Operand→Value},OpsAre φ tm ρ→Rep Ty φ h.get p w→TmSc p tm→(∀b,h.next≤b→b<h'.next→¬p b)→
  ∃φ' w' n,(s ρ).run P w=.ok n w'∧(n=.value (conc φ' v)∨n=.skip∧v=.und)∧Rep Ty φ' h'.get (grow p h.next h'.next) w'∧Ext φ p h.get w φ' (grow p h.next h'.next) h'.get w'∧v.sc (grow p h.next h'.next)
theorem e_store (hT:TyOK P Ty){t:TypeId}{d:TD}(hd:Ty t=some d){a x:Operand}{a' x':Opd}(ha:opd a=some a')(hx:opd x=some x'){v:V}
  (hv:e_sto h d.size (a'.ev tm) (x'.ev tm)=some (v,h')):EffOk P Ty tm h (fun ρ=>do Instr.storeAt t (ρ a) (ρ x);pure .skip) v h':=by
 unfold e_sto at hv
 split at hv
 ·rename_i b o e
  cases hn:Nat.beq (lenN (x'.ev tm).cells) d.size with
  |false=>simp[hn] at hv
  |true=>
   have hn':(x'.ev tm).cells.length=d.size:=by have:=Nat.eq_of_beq_eq_true hn;rwa[lenN_eq] at this
   simp only[hn] at hv
   cases hp:h.put b o (x'.ev tm).cells with
   |none=>simp[hp,withV] at hv
   |some h1=>
    simp only[hp,withV,Option.some.injEq,Prod.mk.injEq] at hv
    obtain⟨rfl,rfl⟩:=hv
    obtain⟨ti,u,hi⟩:=hT t d hd
    have hnx:h1.next=h.next:=by
     have:=hp
     unfold H.put at this
     split at this
     ·cases this;rfl
     ·split at this
      ·split at this
       all_goals first
        |(unfold setO at this;split at this
          ·cases this;exact H.next_set _ _ _
          ·cases this)
        |cases this
      ·cases this
    refine⟨by omega,fun{φ p w ρ} hρ hR hs _=>?_⟩
    rw[hnx,grow_self]
    obtain⟨_,_,w',r1,r2,r3⟩:=put_sound (P:=P) hR hp (V.cells_sc (ev_sc hs hx))
    refine⟨φ,w',.skip,?_,.inr ⟨rfl,rfl⟩,r2,r3,trivial⟩
    have hsz:(conc φ (x'.ev tm)).cells.size=d.size:=by rw[conc_cells];simp[hn']
    have hsa:(Instr.sureAddr (conc φ (.ptr b o))).run P w=.ok (φ.at b o) w:=by simp[Instr.sureAddr,conc]
    simp only[Instr.storeAt,storeVar,hρ a a' ha,hρ x x' hx,e,Sem.run_bind,hsa,Result.andThen_ok,hi.r_size,hsz,ne_eq,not_true_eq_false,if_false]
    rw[conc_cells]
    simp[r1]
 ·cases hv
end
end Go.Ab
