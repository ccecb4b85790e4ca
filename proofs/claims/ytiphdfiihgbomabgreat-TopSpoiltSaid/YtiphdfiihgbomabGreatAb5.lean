/- Operations that only read are sound: all but comparisons of rows and look-ups. -/
import Derived.Test.YtiphdfiihgbomabGreatAb4
set_option linter.unusedSimpArgs false
set_option linter.unusedVariables false
namespace Go.Ab
section
variable {P:Program} {Ty:Nat→Option TD} {φ:Phi} {p:Nat→Prop} {w:World} {h:H} {tm:T V} {ρ:Operand→Value}
theorem at_add (φ:Phi)(b o k:Nat):(φ.at b o).add k=φ.at b (o+k):=by
 unfold Addr.add Phi.at
 split
 ·rename_i h;subst h;rfl
 ·simp[Nat.add_assoc]
theorem H.cells_eq {h:H}{b:Nat}{cs:List V}(hc:h.cells b=some cs):∃k,h.get b=some (.cells k cs):=by
 unfold H.cells at hc
 split at hc
 ·rename_i k cs' e;cases hc;exact⟨k,e⟩
 ·cases hc
theorem Rep.row {g:Nat→Option Blk}(hR:Rep Ty φ g p w){b:Nat}{k:Kd}{cs:List V}(hb:g b=some (.cells k cs)):
  ∃C e fz,w.heap[φ.blk b]? =some (.cells C e fz)∧(k.isRw=true→fz=(0,0))∧φ.off b+cs.length≤C.size∧
   (∀i v,cs[i]? =some v→C[φ.off b+i]? =some (conc φ v))∧(∀sz,k=.gr sz→φ.off b+φ.cap b*sz≤C.size∧cs.length≤φ.cap b*sz):=by
 obtain⟨o,ho,C,e,fz,rfl,r⟩:=hR.blk b _ hb
 exact⟨C,e,fz,ho,r⟩
def Rows (φ:Phi)(p:Nat→Prop)(w:World)(b o0:Nat)(cs:List V):Prop:=∀(i:Nat) (v:V),cs[i]? =some v→w.cell? (φ.at b (o0+i))=some (conc φ v)∧v.sc p
theorem Rep.rows (hR:Rep Ty φ h.get p w){b:Nat}{cs:List V}(hc:h.cells b=some cs):Rows φ p w b 0 cs:=fun o v hv=>by
 obtain⟨k,hb⟩:=H.cells_eq hc
 obtain⟨C,e,fz,ho,_,_,hC,_⟩:=hR.row hb
 refine⟨?_,scL_iff.1 (hR.sc b _ hb).2 v (List.mem_of_getElem? hv)⟩
 rw[Nat.zero_add]
 simp[World.cell?,Phi.at,ho,hC o v hv]
theorem Rep.cell (hR:Rep Ty φ h.get p w){b o:Nat}{cs:List V}{v:V}(hc:h.cells b=some cs)(hv:cs[o]? =some v):
  w.cell? (φ.at b o)=some (conc φ v)∧v.sc p:=by have:=hR.rows hc o v hv;rwa[Nat.zero_add] at this
theorem preV_eq:∀{l r:List V},preV l r=true→∀(i:Nat) (v:V),l[i]? =some v→r[i]? =some v
 |[],_,_,i,v,hi=>by simp at hi
 |a::l,[],h,_,_,_=>by simp[preV] at h
 |a::l,b::r,h,i,v,hi=>by
  simp only[preV] at h
  split at h
  ·rename_i h1
   cases i with
   |zero=>simp only[List.getElem?_cons_zero] at hi⊢;rw[←vbeq_eq a b h1];exact hi
   |succ i=>simp only[List.getElem?_cons_succ] at hi⊢;exact preV_eq h i v hi
  ·cases h
theorem Rep.rowsOld (hR:Rep Ty φ h.get p w){b m o s:Nat}{cs cs':List V}(hb:h.get b=some (.old m o cs))(hm:h.get m=some (.cells (.gr s) cs'))(hp:preV cs cs'=true):Rows φ p w b o cs:=fun i v hv=>by
 obtain⟨ob,ho,hi⟩:=hR.blk b _ hb
 refine⟨?_,scL_iff.1 (hR.sc b _ hb).2.2 v (List.mem_of_getElem? hv)⟩
 rcases hi with⟨e1,e2⟩|⟨C,e,fz,rfl,hC⟩
 ·obtain⟨C,e,fz,ho',_,_,hC,_⟩:=hR.row hm
  have:=hC i v (preV_eq hp i v hv)
  rw[e2,Nat.add_assoc] at this
  simp[World.cell?,Phi.at,e1,ho',this]
 ·have:=hC i v hv
  rw[Nat.add_assoc] at this
  simp[World.cell?,Phi.at,ho,this]
theorem Rows.cellsN {b o0 o n:Nat}{cs l:List V}(hc:Rows φ p w b o0 cs)(hl:getN o n cs=some l):
  (loadCells (φ.at b (o0+o)) n).run P w=.ok (l.map (conc φ)).toArray w∧scL p l:=by
 obtain⟨rfl,hn⟩:=getN_eq.1 hl
 constructor
 ·have hlen:(((cs.drop o).take n).map (conc φ)).length=n:=by simp;omega
  have:=run_loadCells_list (P:=P) w (φ.at b (o0+o)) (((cs.drop o).take n).map (conc φ)) (fun j v hj=>by
   rw[at_add]
   rw[List.getElem?_map] at hj
   cases hx:((cs.drop o).take n)[j]? with
   |none=>simp[hx] at hj
   |some x=>
    simp only[hx,Option.map_some,Option.some.injEq] at hj
    subst hj
    rw[List.getElem?_take] at hx
    split at hx
    ·rw[List.getElem?_drop] at hx
     rw[Nat.add_assoc]
     exact(hc _ _ hx).1
    ·cases hx)
  rw[hlen] at this
  exact this
 ·refine scL_iff.2 fun v hv=>?_
  obtain⟨i,hi⟩:=List.mem_iff_getElem?.1 (List.mem_of_mem_drop (List.mem_of_mem_take hv))
  exact(hc i v hi).2
theorem Rep.cellsN (hR:Rep Ty φ h.get p w){b o n:Nat}{cs l:List V}(hc:h.cells b=some cs)(hl:getN o n cs=some l):
  (loadCells (φ.at b o) n).run P w=.ok (l.map (conc φ)).toArray w∧scL p l:=by
 have:=(hR.rows hc).cellsN (P:=P) hl
 rwa[Nat.zero_add] at this
theorem load_rows (hT:TyOK P Ty){t:TypeId}{d:TD}(hd:Ty t=some d){b o0 o:Nat}{cs:List V}(hc:Rows φ p w b o0 cs){v:V}
  (hv:cellsAt d.u.agg d.size o cs=some v):(loadVar t (φ.at b (o0+o))).run P w=.ok (conc φ v) w∧v.sc p:=by
 obtain⟨i,u,hi⟩:=hT t d hd
 unfold loadVar
 simp only[Sem.run_bind,hi.r_agg,Result.andThen]
 cases ha:d.u.agg with
 |true=>
  rw[ha] at hv
  simp only[cellsAt,aggO] at hv
  cases hl:getN o d.size cs with
  |none=>simp[hl] at hv
  |some l=>
   simp only[hl,Option.some.injEq] at hv
   subst hv
   obtain⟨h1,h2⟩:=hc.cellsN (P:=P) hl
   simp[hi.r_size,h1,conc,concs_eq,V.sc,h2]
 |false=>
  rw[ha] at hv
  simp only[cellsAt,nth_eq] at hv
  obtain⟨h1,h2⟩:=hc _ _ hv
  simp[h1,h2]
theorem load_sound (hT:TyOK P Ty)(hR:Rep Ty φ h.get p w){t:TypeId}{d:TD}(hd:Ty t=some d){b o:Nat}{cs:List V}(hc:h.cells b=some cs){v:V}
  (hv:cellsAt d.u.agg d.size o cs=some v):(loadVar t (φ.at b o)).run P w=.ok (conc φ v) w∧v.sc p:=by
 have:=load_rows hT hd (hR.rows hc) hv
 rwa[Nat.zero_add] at this
theorem nat?_eq {v:V}{n:Nat}(h:nat? v=some n):v=.int .i64 n:=by
 unfold nat? at h
 split at h
 ·cases h;rfl
 ·cases h
theorem exec_value (s:Sem Value){v:Value}(hs:s.run P w=.ok v w):(do pure (Next.value (←s)):Sem Next).run P w=.ok (.value v) w:=by
 simp[hs]
theorem some_inj2 {α β:Type}{x:Option α}{f:α→Option β}{b:β}(h:(match x with|some a=>f a|none=>none)=some b):∃a,x=some a∧f a=some b:=by
 cases x with
 |none=>cases h
 |some a=>exact⟨a,rfl,h⟩
theorem ld_sound (hT:TyOK P Ty)(hR:Rep Ty φ h.get p w){t:TypeId}{d:TD}(hd:Ty t=some d){b o:Nat}{v:V}(hv:q_ld h d.u.agg d.size (.ptr b o)=some v):
  (loadVar t (φ.at b o)).run P w=.ok (conc φ v) w∧v.sc p:=by
 simp only[q_ld] at hv
 cases hc:h.cells b with
 |none=>
  simp only[hc] at hv
  unfold ldOld at hv
  split at hv
  ·rename_i m k cs hb
   split at hv
   ·rename_i s cs' hm
    split at hv
    ·rename_i hp
     split at hv
     ·rename_i hko
      have hko:=Nat.le_of_ble_eq_true hko
      obtain⟨h1,h2⟩:=load_rows hT hd (hR.rowsOld hb hm hp) hv
      rw[Nat.add_sub_cancel' hko] at h1
      exact⟨h1,h2⟩
     ·cases hv
    ·cases hv
   ·cases hv
  ·cases hv
 |some cs=>
  simp only[hc] at hv
  exact load_sound hT hR hd hc hv
theorem q_load (hT:TyOK P Ty)(hR:Rep Ty φ h.get p w)(hρ:OpsAre φ tm ρ){t:TypeId}{d:TD}(hd:Ty t=some d){a:Operand}{a':Opd}(ha:opd a=some a'){v:V}
  (hv:q_ld h d.u.agg d.size (a'.ev tm)=some v):(Instr.loadAt t (ρ a)).run P w=.ok (conc φ v) w∧v.sc p:=by
 rw[hρ a a' ha]
 cases e:a'.ev tm<;>rw[e] at hv<;>try(simp only[q_ld,reduceCtorEq] at hv;done)
 obtain⟨h1,h2⟩:=ld_sound hT hR hd hv
 simp[Instr.loadAt,Instr.sureAddr,conc,h1,h2]
theorem arith_sound {op:BinOp}{k:IntKind}{a b:Int}{v:V}(hv:arith op k a b=some v)(hop:op≠.shl∧op≠.shr∧op≠.andNot)(t:TypeId):
  (binOp op t (.int k a) (.int k b)).run P w=.ok (conc φ v) w∧v.sc p:=by
 cases op<;>simp only[arith,vi,vb,quoV,remV,andV,orV,xorV,Option.some.injEq,reduceCtorEq] at hv
 case quo=>
  split at hv
  ·cases hv
  ·rename_i hb
   rw[ieq_eq] at hb
   have hb':b≠0:=by simpa using hb
   cases hv
   simp[binOp,Op.intDiv,hb',conc,wr_eq,V.sc]
 case rem=>
  split at hv
  ·cases hv
  ·rename_i hb
   rw[ieq_eq] at hb
   have hb':b≠0:=by simpa using hb
   cases hv
   simp[binOp,Op.intDiv,hb',conc,V.sc]
 all_goals
  subst hv
  simp[binOp,Op.intArith,Op.intCmp,Op.intBits,conc,wr_eq,ilt_eq,ieq_eq,V.sc,bne,Bool.beq_eq_decide_eq]
 all_goals
  first
   |(rw[Bool.eq_iff_iff];simp)
   |skip
theorem shift_sound {op:BinOp}{k j:IntKind}{a b:Int}{v:V}(hv:shiftV op k a b=some v)(t:TypeId):
  (binOp op t (.int k a) (.int j b)).run P w=.ok (conc φ v) w∧v.sc p:=by
 cases b with
 |negSucc n=>cases hv
 |ofNat n=>
  have hn:¬((n:Int)<0):=by omega
  cases op<;>simp only[shiftV,reduceCtorEq] at hv
  all_goals
   simp only[shlV,shrV,vi,Option.some.injEq] at hv
   subst hv
   simp[binOp,Op.shift,hn,conc,V.sc]
theorem max_sound {l:List V}{x v:V}(hv:maxV x l=some v):((l.map (conc φ)).foldlM Builtin.max2 (conc φ x)).run P w=.ok (conc φ v) w∧(x.sc p→v.sc p):=by
 induction l generalizing x with
 |nil=>cases hv;simp
 |cons y l ih=>
  unfold maxV at hv
  split at hv
  ·cases ‹y::l=[]›
  ·rename_i k a j b l' e
   simp only[List.cons.injEq] at e
   obtain⟨rfl,rfl⟩:=e
   cases hk:keq k j with
   |false=>simp[hk] at hv
   |true=>
    have:=keq_eq.1 hk;subst this
    simp only[hk] at hv
    obtain⟨h1,h2⟩:=ih hv
    refine⟨?_,fun _=>h2 (by simp[V.sc])⟩
    simp only[List.map_cons,List.foldlM_cons,conc,Builtin.max2,Sem.run_bind,Sem.run_pure,Result.andThen]
    rw[←h1]
    simp only[conc]
    congr 3
    rw[ilt_eq]
    by_cases hab:a<b<;>simp[hab]
  ·cases hv
theorem min_sound {l:List V}{x v:V}(hv:minV x l=some v):((l.map (conc φ)).foldlM Builtin.min2 (conc φ x)).run P w=.ok (conc φ v) w∧(x.sc p→v.sc p):=by
 induction l generalizing x with
 |nil=>cases hv;simp
 |cons y l ih=>
  unfold minV at hv
  split at hv
  ·cases ‹y::l=[]›
  ·rename_i k a j b l' e
   simp only[List.cons.injEq] at e
   obtain⟨rfl,rfl⟩:=e
   cases hk:keq k j with
   |false=>simp[hk] at hv
   |true=>
    have:=keq_eq.1 hk;subst this
    simp only[hk] at hv
    obtain⟨h1,h2⟩:=ih hv
    refine⟨?_,fun _=>h2 (by simp[V.sc])⟩
    simp only[List.map_cons,List.foldlM_cons,conc,Builtin.min2,Sem.run_bind,Sem.run_pure,Result.andThen]
    rw[←h1]
    simp only[conc]
    congr 3
    rw[ilt_eq]
    by_cases hab:b<a<;>simp[hab]
  ·cases hv
end
end Go.Ab
