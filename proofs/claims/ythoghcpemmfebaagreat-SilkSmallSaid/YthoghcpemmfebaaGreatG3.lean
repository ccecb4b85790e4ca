/- SilkSmall is true of the given program at every input, and leaves what is passed in as it was. No condition. awake() is true, wherever it is called. What comes in, as our machine sees it: mills, rows, integers; what stays. SilkSmall: the whole. -/
import Derived.Test.YthoghcpemmfebaaGreatRows
import Derived.ProofKit
import Derived.Test.YthoghcpemmfebaaGreatAwk
import Derived.Test.YthoghcpemmfebaaGreatG2
import Derived.Test.YthoghcpemmfebaaGreatAbX
import Derived.Test.YthoghcpemmfebaaGreatAc5
import Derived.Test.YthoghcpemmfebaaGreatAc7
import Derived.Test.YthoghcpemmfebaaGreatG8
set_option linter.unusedSimpArgs false
set_option linter.unusedVariables false
theorem yha {p:Prop}(h:p:=by kernel_rfl):p:=h
namespace Go.Ab.Tryz
open Go.Proofs
theorem awake_spec (h:H):Y6 Tryz.prog tyG 16 [] h (.bool true) h:=
 closed_spec (awk_ok.is (args:=[]) (h:=⟨0,.nil⟩) rfl rfl rfl) trivial h
theorem fastA_ok:Uw Tryz.prog tyG Zm:=by
 refine⟨fun f g h=>?_⟩
 unfold Zm at h
 split at h
 ·rename_i hb
  have:=Nat.eq_of_beq_eq_true hb;subst this
  cases h
  refine⟨XG (fd:=c16) rfl,fun args h v h' e=>?_⟩
  dsimp only at e
  split at e
  ·cases e;exact awake_spec h
  ·cases e
 ·split at h
  ·rename_i hb
   have:=Nat.eq_of_beq_eq_true hb;subst this
   cases h
   exact⟨sort_callable,fun args h v h' e=>sortF_at e⟩
  ·cases h
theorem spec_of {f:FuncId}{fd:FD}(hf:fnG f=some fd){args:List V}{h:H}{Q:V→H→Prop}(he:Ev fnG Zm (.fn f [] []) args h Q):∃v h',Y6 Tryz.prog tyG f args h v h'∧Q v h':=
 he.spec tyOK depth_ok mixed_ok fnOK fastA_ok (XG hf)
end Go.Ab.Tryz
namespace Go.Proofs.YthoghcpemmfebaaGreat
open Go.ChangeShapes Go.WideShapes Go.ChangeAt Go.RowKit
open Go.Ab
theorem Tryz.own:ownKnob Tryz.prog.godebug=none:=by kernel_rfl
section
variable {H:Type} {enc:TypeId × Value→H} {w:World} {base:Nat} {spare:Nat→Bool} {held:Bool}
end
def inT:List (Option Blk)→Nat→T Blk
 |[],_=>.nil
 |b::l,i=>(inT l (i+1)).put b i
theorem inT_get:∀(l:List (Option Blk)) (i c:Nat),(inT l i).get c=if i≤c then(l[c-i]?).join else none
 |[],i,c=>by simp[inT,T.get_nil]
 |b::l,i,c=>by
  rw[inT,T.get_put_eq,inT_get l (i+1) c]
  by_cases e:c=i
  ·subst e;simp
  ·rw[if_neg e]
   by_cases h:i≤c
   ·rw[if_pos (by omega),if_pos h,show c-i=(c-(i+1))+1 by omega,List.getElem?_cons_succ]
   ·rw[if_neg (by omega),if_neg h]
def inH (l:List (Option Blk)):Go.Ab.H:=⟨l.length,inT l 0⟩
theorem inH_get (l:List (Option Blk))(c:Nat):(inH l).get c=(l[c]?).join:=by
 show(inT l 0).get c=_
 rw[inT_get];simp
structure InAt (φ:Phi)(w:World)(l:List (Option Blk)):Prop where
 at_:∀c y,(l[c]?).join=some y→∃cs,y=.cells .ro cs∧(∀v∈cs,∃k n,v=.int k n)∧∃o,w.heap[φ.blk c]? =some o∧rowIs φ c .ro cs o
theorem in_rep {φ:Phi}{w:World}{l:List (Option Blk)}(h:InAt φ w l):
  Rep Go.Ab.Tryz.tyG φ (inH l).get (fun b=>b<l.length) w∧(inH l).next=l.length∧(inH l).wf∧∀b y,(inH l).get b=some y→y.rw=false:=by
 have hlt:∀b y,(inH l).get b=some y→b<l.length:=fun b y hy=>by
  rw[inH_get] at hy
  by_cases e:b<l.length
  ·exact e
  ·rw[List.getElem?_eq_none (by omega)] at hy;cases hy
 refine⟨⟨fun b y hy=>?_,fun b c y z hy hz hrw=>?_,fun b y hy=>?_⟩,rfl,hlt,fun b y hy=>?_⟩
 ·rw[inH_get] at hy
  obtain⟨cs,rfl,_,o,h1,h2⟩:=h.at_ b y hy
  exact⟨o,h1,h2⟩
 ·rw[inH_get] at hy
  obtain⟨cs,rfl,_⟩:=h.at_ b y hy
  cases hrw
 ·have hl:=hlt b y hy
  rw[inH_get] at hy
  obtain⟨cs,rfl,hi,_⟩:=h.at_ b y hy
  exact⟨hl,Z0.2 fun v hv=>by obtain⟨k,n,rfl⟩:=hi v hv;trivial⟩
 ·rw[inH_get] at hy
  obtain⟨cs,rfl,_⟩:=h.at_ b y hy
  rfl
theorem Same.at {W W':World}(h:Same W W'){p:MemPlace}(hp:p.block<W.heap.size):W.sameAt W' p:=by
 cases p with
 |cell b o=>exact World.cell?_of_block (w:=W) (h.2.2.2 b hp)
 |map b=>exact h.2.2.2 b hp
end Go.Proofs.YthoghcpemmfebaaGreat
namespace Go.Ab.Tryz
open Go.Ab.Silk
set_option maxRecDepth 8000 in
set_option maxHeartbeats 8000000 in
theorem SilkSmall_ev {h:H}(hw:h.wf):Ev fnG Zm (.fn 3 [] []) [] h (fun u _=>u=.bool true):=by
 refine Zf (fd:=c3) rfl rfl rfl ?_
 obtain⟨R1,hR1⟩:∃R,Yw [true,false] c3.body=R:=⟨_,rfl⟩
 obtain⟨R2,hR2⟩:∃R,Yw [true,true,false] c3.body=R:=⟨_,rfl⟩
 obtain⟨R3,hR3⟩:∃R,Yw [true,true,true,false] c3.body=R:=⟨_,rfl⟩
 have r1:= @lims_ev
 have r2:= @second_ev
 have r3:= @third_ev
 rw[hR1] at r1;rw[hR2] at r2;rw[hR3] at r3
 simp only[Yw,c3] at hR1 hR2 hR3
 simp only[c3]
 rw[hR1,hR2,hR3]
 clear hR1 hR2 hR3
 simp(disch:=omega)only[go_sem]
 refine(r1 hw _).mono fun x1 s hx1=>?_
 obtain⟨rfl,tm,z1,rfl,s2⟩:=hx1
 simp(disch:=omega)only[go_sem]
 refine(r2 s2.wf tm).mono fun x1 s hx1=>?_
 obtain⟨rfl,tm,z1,rfl,s2⟩:=hx1
 simp(disch:=omega)only[go_sem]
 refine(r3 s2.wf tm).mono fun x1 s hx1=>?_
 obtain⟨rfl,tm,z1,rfl,s2⟩:=hx1
 simp(disch:=omega)only[go_sem,Z4]
end Go.Ab.Tryz
namespace Go.Proofs.YthoghcpemmfebaaGreat
open Go.ChangeShapes Go.WideShapes Go.ChangeAt Go.RowKit
open Go.Ab
set_option maxRecDepth 100000 in
theorem silkSmall_walk {H':Type}{enc:TypeId × Value→H'}{W:World}{base:Nat}{spare:Nat→Bool}{held:Bool}{r:Reach}{b0:Nat}:
  Calls Tryz.prog 3 #[] W fun x W'=>x=.returned (.bool true)∧Same W W':=by
 let φ:Phi:=⟨fun b=>0,fun b=>0,fun _=>0⟩
 let l:List (Option Blk):=[]
 have hin:InAt φ W l:=⟨fun c y hy=>by rw[List.getElem?_eq_none (by simp[l])] at hy;cases hy⟩
 obtain⟨hR,hn,hwf,hro⟩:=in_rep hin
 have hn3:(inH l).next=0:=hn
 obtain⟨u,h',hs,rfl⟩:=Go.Ab.Tryz.spec_of (fd:=Go.Ab.Tryz.c3) rfl (Go.Ab.Tryz.SilkSmall_ev hwf)
 have hc:=calls_of_spec hs hR (fun b hb _=>by rw[hn3] at hb;show¬b<0;omega) (show scL _ _ from trivial) hwf hro
 have ea:(([]:List V).map (Zc φ)).toArray= #[]:=rfl
 rw[ea] at hc
 refine hc.mono fun e W' he=>?_
 obtain⟨φ',rfl,hsame⟩:=he
 exact⟨by simp[Zc],hsame⟩
set_option maxRecDepth 100000 in
theorem SilkSmall_lifted (os:Os)(started:os.Started)(H:Type)(enc:TypeId × Value→H):
  ReturnsInHanded {} Tryz.checked os 3 .any (Rows.silkSmallSpec.pre6 enc Tryz.prog Tryz.f3 Rows.silkSmallRow.domain false) (Rows.silkSmallSpec.post enc Tryz.prog Tryz.f3 false true false false):=by
 refine returnsInHanded_of_change (C:=Tryz.checked) Tryz.own started yha Tryz.func3
  (ChangeSpec.witness6 (enc:=enc) (C:=Tryz.checked) false ⟨#[], #[],[]⟩ 8 yha yha yha yha) ?_
 intro W base args ds gs before hval0 hW hcnd _
 have hval:∀(j:Nat) t v,Tryz.f3.params[j]? =some t→args[j]? =some v→Value.okWide Tryz.prog W .any base t v:=hval0
 have hW':=hW
 obtain⟨p,q,hA0,hV,rfl,hfz,hnd⟩:=hW
 have hA:DataW.TrodAll enc Tryz.prog W 0 (fun _=>true) true Tryz.f3.params.toList args.toList ds p:=hA0
 rw[Tryz.params3] at hA hval
 obtain⟨ea,rfl,rfl⟩:=trodAll_nil hA
 have ea':args= #[]:=Array.toList_eq_nil_iff.1 ea
 subst ea'
 obtain⟨rfl,rfl⟩:=trodVars_none hV
 clear hA0 hval0
 refine(silkSmall_walk (H':=H) (enc:=enc) (base:=0) (spare:=fun _=>true) (held:=true) (r:=.any) (b0:=base)).mono fun x W' hx=>?_
 obtain⟨rfl,hsame⟩:=hx
 refine⟨_,rfl,_,_,_,[],[],[],hW',?_,?_,rfl,hsame.keptBut _,fun h=>by cases h⟩
 ·exact trodAll_mk1 (shut_bool Tryz.underlying4 true)
 ·exact trodAll_mk0
theorem SilkSmall_holds:Rows.SilkSmallSaid:=
 OpenClaim.holds_of_wide 3 Tryz.f3 rfl rfl rfl rfl rfl rfl rfl ⟨rfl,rfl,rfl,rfl,rfl⟩ rfl rfl rfl rfl rfl yha Tryz.func3 yha
  (of_decide_eq_true yha) (by unfold Func.isWrapper;first|(rw[if_pos (by decide+kernel)];kernel_rfl)|(rw[if_neg (by decide+kernel)];exact⟨rfl,rfl⟩))
  (fun os started H enc _=>SilkSmall_lifted os started H enc)
#print axioms SilkSmall_holds
end Go.Proofs.YthoghcpemmfebaaGreat
