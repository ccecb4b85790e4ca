/- A closed call may be made anywhere. -/
import Derived.Test.YtiphdfiihgbomabGreatAbT
set_option linter.unusedSimpArgs false
set_option linter.unusedVariables false
namespace Go.Ab
section
variable {P:Program} {Ty:Nat→Option TD}
theorem closed_spec {f:FuncId}{h':H}{v:V}(hs:SpecOk P Ty f [] ⟨0,.nil⟩ v h')(hv:v.sc fun _=>False)(h:H):SpecOk P Ty f [] h v h:=by
 refine⟨H.le_refl _,fun{F n φ p w} hF hfr hR ha hwf=>?_⟩
 have hg:∀b x,(H.get ⟨0,.nil⟩ b)=some x→False:=fun b x hb=>by
  have:(T.nil:T Blk).get b=some x:=hb
  rw[T.get_nil] at this;cases this
 have h0:Rep Ty φ (H.get ⟨0,.nil⟩) (fun _=>False) w:=⟨fun b x hb=>(hg b x hb).elim,fun b c x y hb=>(hg b x hb).elim,fun b x hb=>(hg b x hb).elim⟩
 refine CallsIn.mono (hs.2 hF (fun b _ _ h=>h) h0 ha (fun b x hb=>(hg b x hb).elim)) fun e w' he=>?_
 obtain⟨φ',rfl,⟨r1,r2⟩,r3⟩:=he
 have hkept:∀B,B<w.heap.size→w'.heap[B]? =w.heap[B]? :=fun B hB=>r2.kept B hB fun b x hb=>(hg b x hb).elim
 refine⟨φ,by rw[conc_closed hv φ' φ],?_,V.sc_mono (fun _ h=>h.elim) _ hv⟩
 unfold Done
 rw[grow_self]
 refine⟨⟨fun b x hb=>?_,hR.inj,hR.sc⟩,⟨φ.agree_refl p,fun _ h=>h,r2.size,fun B hB _=>hkept B hB,fun b x hb=>.inr ⟨b,x,hb,.refl,rfl⟩,r2.env⟩⟩
 obtain⟨o,ho,hi⟩:=hR.blk b x hb
 exact⟨o,by rw[hkept _ (hR.lt hb),ho],hi⟩
end
end Go.Ab
