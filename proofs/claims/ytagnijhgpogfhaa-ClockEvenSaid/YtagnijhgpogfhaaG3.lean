/- ClockEven is true of the given program at every input, and leaves what is passed in as it was. No condition. awake() is true, wherever it is called. What comes in, as our machine sees it: rows, integers; what stays. -/
import Derived.Test.YtagnijhgpogfhaaRows
import Derived.ProofKit
import Derived.OpenShut
import Derived.Test.YtagnijhgpogfhaaG2
import Derived.Test.YtagnijhgpogfhaaAbX
import Derived.Test.YtagnijhgpogfhaaAc7
import Derived.Test.YtagnijhgpogfhaaAwk
import Derived.Test.YtagnijhgpogfhaaAc3
import Derived.Test.YtagnijhgpogfhaaAc5
import Derived.Test.YtagnijhgpogfhaaG4
set_option linter.unusedSimpArgs false
set_option linter.unusedVariables false
namespace Go.Ab.Try
open Go.Proofs
theorem awake_spec (h:H):SpecOk Try.prog tyG 11 [] h (.bool true) h:=
 closed_spec (awk_ok.is (args:=[]) (h:=⟨0,.nil⟩) rfl rfl rfl) trivial h
theorem fastA_ok:FastOk Try.prog tyG fastA:=by
 refine⟨fun f g h=>?_⟩
 unfold fastA at h
 split at h
 ·rename_i hb
  have:=Nat.eq_of_beq_eq_true hb;subst this
  cases h
  refine⟨callable (fd:=c11) rfl,fun args h v h' e=>?_⟩
  dsimp only at e
  split at e
  ·cases e;exact awake_spec h
  ·cases e
 ·split at h
  ·rename_i hb
   have:=Nat.eq_of_beq_eq_true hb;subst this
   cases h
   exact⟨sort_callable,fun args h v h' e=>sortF_at e⟩
  ·cases h
theorem spec_of {f:FuncId}{fd:FD}(hf:fnG f=some fd){args:List V}{h:H}{Q:V→H→Prop}(he:Ev fnG fastA (.fn f [] []) args h Q):∃v h',SpecOk Try.prog tyG f args h v h'∧Q v h':=
 he.spec tyOK depth_ok mixed_ok fnOK fastA_ok (callable hf)
end Go.Ab.Try
namespace Go.Proofs.Ytagnijhgpogfhaa
open Go.ChangeShapes Go.WideShapes Go.ChangeAt Go.RowKit
open Go.Ab
theorem Try.own:ownKnob Try.prog.godebug=none:=by kernel_rfl
section
variable {H:Type} {enc:TypeId × Value→H} {w:World} {base:Nat} {spare:Nat→Bool} {held:Bool}
end
theorem Same.at {W W':World}(h:Same W W'){p:MemPlace}(hp:p.block<W.heap.size):W.sameAt W' p:=by
 cases p with
 |cell b o=>exact World.cell?_of_block (w:=W) (h.2.2.2 b hp)
 |map b=>exact h.2.2.2 b hp
theorem trod_cons {H:Type}{enc:TypeId × Value→H}{W:World}{base:Nat}{sp:Nat→Bool}{held:Bool}{t:TypeId}{ts:List TypeId}{v:Value}{vs:List Value}{d:DataW H}{ds:List (DataW H)}{p q:List MemPlace}(h:DataW.Trod enc Try.prog W base sp held t v d p)
  (k:DataW.TrodAll enc Try.prog W base sp held ts vs ds q):DataW.TrodAll enc Try.prog W base sp held (t::ts) (v::vs) (d::ds) (p++q):=⟨p,q,h,k,rfl⟩
end Go.Proofs.Ytagnijhgpogfhaa
namespace Go.Proofs.Ytagnijhgpogfhaa
open Go.ChangeShapes Go.WideShapes Go.ChangeAt Go.RowKit
open Go.Ab
theorem u8_in {n:Int}(h:(Lit.int .u8 n).wf=true):0≤n∧n≤255:=by simp[Lit.wf,IntKind.min,IntKind.max,IntKind.bits,IntKind.signed] at h;omega
set_option maxRecDepth 100000 in
theorem clockEven_walk {W:World}{a0:Int}(ha0:(Lit.int .u8 a0).wf=true){a1:Int}(ha1:(Lit.int .u8 a1).wf=true){a2:Int}(ha2:(Lit.int .u8 a2).wf=true):
  Calls Try.prog 5 #[.int .u8 a0,.int .u8 a1,.int .u8 a2] W fun x W'=>x=.returned (.bool true)∧Same W W':=by
 have hwf:H.wf ⟨0,.nil⟩:=fun b x hb=>by
  have:(T.nil:T Blk).get b=some x:=hb
  rw[T.get_nil] at this;cases this
 obtain⟨v,h',hs,rfl⟩:=Go.Ab.Try.spec_of (fd:=Go.Ab.Try.c5) rfl (Go.Ab.Try.ClockEven_ev hwf (u8_in ha0) (u8_in ha1) (u8_in ha2))
 have hg:∀b x,(H.get ⟨0,.nil⟩ b)=some x→False:=fun b x hb=>by
  have:(T.nil:T Blk).get b=some x:=hb
  rw[T.get_nil] at this;cases this
 have h0:Rep Go.Ab.Try.tyG ⟨fun _=>0,fun _=>0,fun _=>0⟩ (H.get ⟨0,.nil⟩) (fun _=>False) W:=⟨fun b x hb=>(hg b x hb).elim,fun b c x y hb=>(hg b x hb).elim,fun b x hb=>(hg b x hb).elim⟩
 refine(calls_of_spec hs h0 (fun b _ _ h=>h) (by simp[scL,V.sc]) hwf fun b x hb=>(hg b x hb).elim).mono fun e W' he=>?_
 obtain⟨φ',rfl,hsame⟩:=he
 exact⟨by simp[conc],hsame⟩
set_option maxRecDepth 100000 in
theorem ClockEven_lifted (os:Os)(started:os.Started)(H:Type)(enc:TypeId × Value→H):
  ReturnsInHanded {} Try.checked os 5 .any (Rows.clockEvenSpec.pre6 enc Try.prog Try.f5 Rows.clockEvenRow.domain false) (Rows.clockEvenSpec.post enc Try.prog Try.f5 false true false false):=by
 refine returnsInHanded_of_change (C:=Try.checked) Try.own started (by kernel_rfl) Try.func5
  (ChangeSpec.witness6 (enc:=enc) (C:=Try.checked) false ⟨#[], #[.int .u8 0,.int .u8 0,.int .u8 0],[]⟩ 8 (by kernel_rfl) (by kernel_rfl) (by kernel_rfl) (by kernel_rfl)) ?_
 intro W base args ds gs before hval0 hW hcnd _
 have hval:∀(j:Nat) t v,Try.f5.params[j]? =some t→args[j]? =some v→Value.okWide Try.prog W .any base t v:=hval0
 have hW':=hW
 obtain⟨p,q,hA0,hV,rfl,hfz,hnd⟩:=hW
 have hA:DataW.TrodAll enc Try.prog W 0 (fun _=>true) true Try.f5.params.toList args.toList ds p:=hA0
 rw[Try.params5] at hA hval
 obtain⟨v0,vs,d0,ds0,p0,q0,ea,rfl,rfl,h0,hr⟩:=trodAll_cons hA
 obtain⟨v1,vs,d1,ds0,p1,q0,rfl,rfl,rfl,h1,hr⟩:=trodAll_cons hr
 obtain⟨v2,vs,d2,ds0,p2,q0,rfl,rfl,rfl,h2,hr⟩:=trodAll_cons hr
 obtain⟨rfl,rfl,rfl⟩:=trodAll_nil hr
 have ea':args= #[v0,v1,v2]:=by cases args;simp_all
 subst ea'
 obtain⟨rfl,rfl⟩:=trodVars_none hV
 obtain⟨a0,rfl,rfl,rfl,wa0⟩:=open_int Try.underlying5 (hval 0 5 v0 rfl rfl) h0
 obtain⟨a1,rfl,rfl,rfl,wa1⟩:=open_int Try.underlying5 (hval 1 5 v1 rfl rfl) h1
 obtain⟨a2,rfl,rfl,rfl,wa2⟩:=open_int Try.underlying5 (hval 2 5 v2 rfl rfl) h2
 clear hA0 hval0
 refine(clockEven_walk wa0 wa1 wa2).mono fun x W' hx=>?_
 obtain⟨rfl,hsame⟩:=hx
 refine⟨_,rfl,_,_,_,[],[]++([]++([]++[])),[],hW',?_,?_,rfl,hsame.keptBut _,fun h=>by cases h⟩
 ·exact trodAll_mk1 (shut_bool Try.underlying4 true)
 ·exact(trod_cons (shut_int Try.underlying5 wa0)
   (trod_cons (shut_int Try.underlying5 wa1)
   (trod_cons (shut_int Try.underlying5 wa2)
   trodAll_mk0)))
theorem ClockEven_holds:Rows.ClockEvenSaid:=
 OpenClaim.holds_of_wide 5 Try.f5 rfl rfl rfl rfl rfl rfl rfl ⟨rfl,rfl,rfl,rfl,rfl⟩ rfl rfl rfl rfl rfl (by kernel_rfl) Try.func5 (by kernel_rfl)
  (of_decide_eq_true (by kernel_rfl)) (by unfold Func.isWrapper;first|(rw[if_pos (by decide+kernel)];kernel_rfl)|(rw[if_neg (by decide+kernel)];exact⟨rfl,rfl⟩))
  (fun os started H enc _=>ClockEven_lifted os started H enc)
#print axioms ClockEven_holds
end Go.Proofs.Ytagnijhgpogfhaa
