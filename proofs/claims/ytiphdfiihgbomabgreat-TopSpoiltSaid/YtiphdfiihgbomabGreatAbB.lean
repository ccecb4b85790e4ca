/- Operations that lay a new block are sound. -/
import Derived.Test.YtiphdfiihgbomabGreatAbA
set_option linter.unusedSimpArgs false
set_option linter.unusedVariables false
namespace Go.Ab
def NewOk (P:Program)(Ty:Nat→Option TD)(tm:T V)(n:Nat)(s:(Operand→Value)→Sem Next)(v:V)(X:Blk):Prop:=
 X.rw=true∧∀{φ:Phi} {g:Nat→Option Blk} {p:Nat→Prop} {w:World} {ρ:Operand→Value},OpsAre φ tm ρ→Rep Ty φ g p w→TmSc p tm→¬p n→
  ∃φ' w',(s ρ).run P w=.ok (.value (conc φ' v)) w'∧Rep Ty φ' (upd g n (some X)) (grow p n (n+1)) w'∧Ext φ p g w φ' (grow p n (n+1)) (upd g n (some X)) w'∧v.sc (grow p n (n+1))
section
variable {P:Program} {Ty:Nat→Option TD} {tm:T V} {h:H}
theorem V.cells_sc {p:Nat→Prop}{v:V}(h:v.sc p):scL p v.cells:=by
 cases v<;>first|exact h|exact⟨h,trivial⟩
theorem newrow {φ:Phi}{g:Nat→Option Blk}{p:Nat→Prop}{w:World}(hR:Rep Ty φ g p w){n:Nat}(hn:¬p n){cs:List V}(hs:scL p cs)(t:TypeId):
  Rep Ty (φ.set n w.heap.size 0 0) (upd g n (some (.cells .rw cs))) (grow p n (n+1)) (w.alloc (.cells (cs.map (conc φ)).toArray t))∧
  Ext φ p g w (φ.set n w.heap.size 0 0) (grow p n (n+1)) (upd g n (some (.cells .rw cs))) (w.alloc (.cells (cs.map (conc φ)).toArray t)):=by
 refine rep_new hR hn (o:=.cells (cs.map (conc φ)).toArray t) rfl ?_ (scL_mono (fun _ h=>.inl h) _ hs)
 rw[map_conc_set hn hs]
 exact row_is
theorem sc_false {p:Nat→Prop}{l:List V}(h:scL (fun _=>False) l):scL p l:=scL_mono (fun _ h=>h.elim) _ h
theorem a_sound (hT:TyOK P Ty){o:Oper}{i:I}(hc:compOp Ty o.op=some i)(hk:i.kind=1){v:V}{h':H}(hv:evA tm h i=some (v,h')):
  ∃X,h'=h.add X∧NewOk P Ty tm h.next (fun ρ=>execOp ρ o) v X:=by
 obtain⟨dst,op,type,pos,after,guard⟩:=o
 cases op
 case alloc e=>
  simp only[compOp] at hc
  cases hd:Ty e with
  |none=>simp[hd] at hc
  |some d=>
   simp only[hd,Option.some.injEq] at hc
   subst hc
   simp only[evA,a_new,Option.some.injEq,Prod.mk.injEq] at hv
   obtain⟨rfl,rfl⟩:=hv
   obtain⟨ti,u,hi⟩:=hT e d hd
   refine⟨_,rfl,rfl,fun{φ g p w ρ} hρ hR hs hn=>?_⟩
   have hsc:scL p d.z:=sc_false hi.sc
   obtain⟨h1,h2⟩:=newrow hR hn hsc e
   refine⟨_,_,?_,h1,h2,grow_new⟩
   simp[execOp,Instr.alloc,hi.r_zero,newVar,newRow,zeroOf_cells hi φ,conc,Phi.at,Phi.set]
 case box e x=>
  simp only[compOp] at hc
  cases h1:opd x with
  |none=>simp[h1] at hc
  |some y=>
   simp only[h1,Option.some.injEq] at hc
   subst hc
   simp only[evA,a_new,Option.some.injEq,Prod.mk.injEq] at hv
   obtain⟨rfl,rfl⟩:=hv
   refine⟨_,rfl,rfl,fun{φ g p w ρ} hρ hR hs hn=>?_⟩
   have hsc:scL p (y.ev tm).cells:=V.cells_sc (ev_sc hs h1)
   obtain⟨h2,h3⟩:=newrow hR hn hsc e
   refine⟨_,_,?_,h2,h3,grow_new⟩
   simp[execOp,Instr.box,newVar,newRow,hρ x y h1,conc_cells,conc,Phi.at,Phi.set]
 case buildSlice t n ps=>
  simp only[compOp] at hc
  cases hd:Ty t with
  |none=>simp[hd] at hc
  |some d=>
   simp only[hd] at hc
   split at hc
   ·rename_i e hu
    cases he:Ty e with
    |none=>simp[he] at hc
    |some de=>
     simp only[he] at hc
     cases h0:de.size with
     |zero=>simp[h0] at hc
     |succ k=>
      simp only[h0] at hc
      rw[←h0] at hc
      cases hb:Nat.ble (n*de.size) 65536 with
      |false=>simp[hb] at hc
      |true=>
       have hb':=Nat.le_of_ble_eq_true hb
       simp only[hb] at hc
       cases hl:partsAt (fun i=>some (i*de.size,de.size)) ps.toList with
       |none=>simp[hl] at hc
       |some l=>
        simp only[hl,Option.some.injEq] at hc
        subst hc
        simp only[evA,a_bsl] at hv
        cases hf:fillN tm l (repN n de.z) with
        |none=>simp[hf] at hv
        |some cs=>
         simp only[hf,Option.some.injEq,Prod.mk.injEq] at hv
         obtain⟨rfl,rfl⟩:=hv
         obtain⟨ti,u,hi⟩:=hT t d hd
         have his:=hi.is;rw[hu] at his
         have:=is_slice his;subst this
         obtain⟨ei,eu,hei⟩:=hT e de he
         refine⟨_,rfl,rfl,fun{φ g p w ρ} hρ hR hs hn=>?_⟩
         obtain⟨h1,h2⟩:=fill_sound (p:=p) hρ hs (place:=fun i=>some (i*de.size,de.size)) (fun i r hr=>hr) hl (fun i r hr=>by cases hr;omega) hf
         have e2:(ps.map fun(i,x)=>(i,ρ x)).toList=ps.toList.map fun x=>(x.1,ρ x.2):=by simp
         have hsc:scL p cs:=h2 (repN_sc (sc_false hei.sc) n)
         obtain⟨h3,h4⟩:=newrow hR hn hsc e
         refine⟨_,_,?_,h3,h4,grow_new⟩
         have hz:=repN_row hei φ n (n*de.size) rfl (by omega)
         have hlim:¬(n*de.size>2^24):=by omega
         by_cases hn0:n*de.size=0
         ·have hn1:n=0:=by rcases Nat.mul_eq_zero.1 hn0 with h|h<;>omega
          subst hn1
          simp only[repN,List.map_nil] at h1
          have hz':(Array.range 0).map (fun _=>(default:Value))= #[]:=by apply Array.ext<;>simp
          simp only[execOp,Instr.buildSlice,Sem.run_bind,hi.r_under,Result.andThen_ok,hei.r_size,hlim,hn0,if_true,if_false,Sem.run_pure,e2]
          simp[hz',h1,newRow,conc,Phi.at,Phi.set]
         ·simp only[execOp,Instr.buildSlice,Sem.run_bind,hi.r_under,Result.andThen_ok,hei.r_size,hlim,hn0,if_true,if_false,Sem.run_pure,e2,hei.r_zero,hz,h1]
          simp[newRow,conc,Phi.at,Phi.set]
   ·cases hc
 case makeSlice t lo co=>
  simp only[compOp] at hc
  split at hc
  ·rename_i d l c hd hl hcc
   split at hc
   ·rename_i e hu
    cases he:Ty e with
    |none=>simp[he] at hc
    |some de=>
     simp only[he] at hc
     cases h0:de.size with
     |zero=>simp[h0] at hc
     |succ k=>
      simp only[h0] at hc
      rw[←h0] at hc
      cases hb:Nat.ble de.by_ 65536 with
      |false=>simp[hb] at hc
      |true=>
       have hb':=Nat.le_of_ble_eq_true hb
       simp only[hb,Option.some.injEq] at hc
       subst hc
       simp only[evA,a_msl] at hv
       cases hln:nat? (l.ev tm) with
       |none=>simp[hln] at hv
       |some ln=>
        cases hcn:nat? (c.ev tm) with
        |none=>simp[hln,hcn] at hv
        |some cn=>
         simp only[hln,hcn,og_eq,lf_eq,Option.some.injEq,Prod.mk.injEq] at hv
         obtain⟨hle,h40,h41,rfl,rfl⟩:=hv
         have hle:=Nat.le_of_ble_eq_true hle
         have h40:=Nat.le_of_ble_eq_true h40
         have h41:=Nat.le_of_ble_eq_true h41
         obtain⟨ti,u,hi⟩:=hT t d hd
         have his:=hi.is;rw[hu] at his
         have:=is_slice his;subst this
         obtain⟨ei,eu,hei⟩:=hT e de he
         refine⟨_,rfl,rfl,fun{φ g p w ρ} hρ hR hs hn=>?_⟩
         have hl':ρ lo=.int .i64 ln:=by
          rw[hρ lo l hl]
          unfold nat? at hln
          split at hln
          ·rename_i m e1;cases hln;rw[e1];rfl
          ·cases hln
         have hc':ρ co=.int .i64 cn:=by
          rw[hρ co c hcc]
          unfold nat? at hcn
          split at hcn
          ·rename_i m e1;cases hcn;rw[e1];rfl
          ·cases hcn
         have hsc:scL p (repN cn de.z):=repN_sc (sc_false hei.sc) cn
         obtain⟨h3,h4⟩:=newrow hR hn hsc e
         refine⟨_,_,?_,h3,h4,grow_new⟩
         have hz:=repN_row hei φ cn (cn*de.size) rfl (by omega)
         have wl:IntKind.i64.wrap (ln:Int)=ln:=by rw[IntKind.wrap_i64];omega
         have wc:IntKind.i64.wrap (cn:Int)=cn:=by rw[IntKind.wrap_i64];omega
         have n1:¬((cn:Int)<0):=by omega
         have n2:¬((ln:Int)<0):=by omega
         have n3:¬(cn<ln):=by omega
         have n4:¬(281474976710656<(de.by_:Int)*(cn:Int)):=by
          have h5:de.by_*cn≤1099511627776:=by rw[Nat.mul_comm];exact h40
          have h6:((de.by_*cn:Nat):Int)≤((1099511627776:Nat):Int):=Int.ofNat_le.2 h5
          rw[Int.natCast_mul] at h6
          omega
         have n6:¬(140737488355328<cn*de.by_):=by omega
         by_cases hn0:cn*de.size=0
         ·have hn1:cn=0:=by rcases Nat.mul_eq_zero.1 hn0 with h|h<;>omega
          subst hn1
          have hl0:ln=0:=by omega
          have hz0:(Array.range 0).map (fun _=>(default:Value))= #[]:=by apply Array.ext<;>simp
          subst hl0
          simp[execOp,Instr.makeSlice,hi.r_under,hl',hc',asInt,asIntOf,hei.r_info,hei.bytes,hei.r_size,askRoom,roomBytes,newRow,repN,conc,Phi.at,Phi.set,IntKind.wrap_i64]
          exact congrArg (fun x=>w.alloc (Obj.cells x e)) hz0
         ·have hn0':cn*de.size≠0:=hn0
          have n7:¬(cn=0∨de.size=0):=by
           intro h;rcases h with h|h<;>simp[h] at hn0
          simp[execOp,Instr.makeSlice,hi.r_under,hl',hc',asInt,asIntOf,hei.r_info,hei.bytes,wl,wc,n1,n2,n3,n4,n6,hei.r_size,hei.r_zero,askRoom,roomBytes,hn0,n7,newRow,conc,Phi.at,Phi.set]
          exact congrArg (fun x=>w.alloc (Obj.cells x e)) hz
   ·cases hc
  ·cases hc
 case makeMap t r=>
  cases r with
  |some r=>simp[compOp] at hc
  |none=>
   simp only[compOp,Option.some.injEq] at hc
   subst hc
   simp only[evA,Option.some.injEq,Prod.mk.injEq] at hv
   obtain⟨rfl,rfl⟩:=hv
   refine⟨_,rfl,rfl,fun{φ g p w ρ} hρ hR hs hn=>?_⟩
   have:=rep_new (Ty:=Ty) (w':=w.alloc (.map #[] 0)) hR hn (x:=.map []) (o:=.map #[] 0) (c:=0) rfl ⟨#[],0,rfl,rfl,by simp,rfl⟩ (by intro e he;cases he)
   refine⟨_,_,?_,this.1,this.2,grow_new⟩
   simp[execOp,Instr.makeMap,conc,Phi.set]
 case makeFunc fn a b=>
  cases fn<;>simp only[compOp] at hc
  case func f=>
   split at hc
   ·cases hc;simp[I.kind] at hk
   ·cases hc
  all_goals cases hc
 case call c=>
  obtain⟨callee,args,ts⟩:=c
  simp only[compOp] at hc
  cases callee
  case builtin b=>
   exfalso
   simp only at hc
   unfold compCall at hc
   repeat' (split at hc)
   all_goals first
    |(cases hc;done)
    |(simp only[Option.some.injEq] at hc;subst hc;simp[I.kind] at hk)
  case value f=>
   simp only at hc
   split at hc
   ·cases hc;simp[I.kind] at hk
   ·cases hc
  case invoke=>simp at hc
 all_goals
  first
   |(simp[compOp] at hc;done)
   |(exfalso;simp only[compOp] at hc
     repeat' (split at hc)
     all_goals first
      |(cases hc;done)
      |(simp only[Option.some.injEq] at hc;subst hc;simp[I.kind] at hk))
end
end Go.Ab
