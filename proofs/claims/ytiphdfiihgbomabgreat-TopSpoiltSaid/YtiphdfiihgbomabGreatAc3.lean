/- From our machine to calls in the model, where nothing that came in is changed. -/
import Derived.Test.YtiphdfiihgbomabGreatAbU
import Derived.ChangeAgain
set_option linter.unusedSimpArgs false
set_option linter.unusedVariables false
namespace Go.Ab
def Same (w w':World):Prop:=w'.os=w.os∧w'.output=w.output∧w.heap.size≤w'.heap.size∧∀B,B<w.heap.size→w'.heap[B]? =w.heap[B]?
theorem calls_of_spec {P:Program}{Ty:Nat→Option TD}{f:FuncId}{args:List V}{h h':H}{v:V}{φ:Phi}{p:Nat→Prop}{W:World}(hs:SpecOk P Ty f args h v h')(hR:Rep Ty φ h.get p W)(hfr:Fresh p h.next h'.next)
  (ha:scL p args) (hwf:h.wf) (hro:∀b x,h.get b=some x→x.rw=false):Calls P f (args.map (conc φ)).toArray W fun e W'=>∃φ',e=.returned (conc φ' v)∧Same W W':=by
 rw[←callsIn_wide (n:=0)]
 refine CallsIn.mono (hs.2 wide_wide hfr hR ha hwf) fun e w' he=>?_
 obtain⟨φ',rfl,⟨r1,r2⟩,r3⟩:=he
 exact⟨φ',rfl,r2.env.1,r2.env.2,r2.size,fun B hB=>r2.kept B hB fun b x hb hx=>by rw[hro b x hb] at hx;cases hx⟩
theorem Same.keptBut {w w':World}(h:Same w w')(may:MemPlace→Prop):w.keptBut w' may:=by
 refine⟨h.1,h.2.1,fun i hi=>?_⟩
 have:=(World.keptBut_refl w may).2.2 i hi
 rw[h.2.2.2 i hi];exact this
end Go.Ab
