/- Calls, run by the kernel one by one (printed by a program of ours). -/
import Derived.Test.YtagnijhgpogfhaaGreatRun
import Derived.Test.YtagnijhgpogfhaaGreatG2
set_option linter.unusedSimpArgs false
set_option linter.unusedVariables false
namespace Go.Ab.Tryz
open Go.Proofs
noncomputable section
def awk_18_0:Ent:=⟨3,[.agg [.int .i64 120,.int .i64 2,.sl 1 0 2 (.fix 2),.sl 2 0 3 (.fix 3),.nils],.int .i64 1],[(1,.cells .rw [.int .i64 10,.int .i64 12,.int .i64 6,.int .i64 10,.int .i64 0,.int .i64 0,.int .i64 (-6),.int .i64 (-6)]),(2,.cells .rw [.int .i64 1,.int .i64 0,.int .i64 27,.int .i64 0,.int .i64 0,.int .i64 44,.int .i64 0,.int .i64 1,.int .i64 110])],.tup [.agg [.int .i64 87,.int .i64 91],.int .i64 0],545,[(1,.cells .rw [.int .i64 10,.int .i64 12,.int .i64 6,.int .i64 10,.int .i64 0,.int .i64 0,.int .i64 (-6),.int .i64 (-6)]),(2,.cells .rw [.int .i64 1,.int .i64 0,.int .i64 27,.int .i64 0,.int .i64 0,.int .i64 44,.int .i64 0,.int .i64 1,.int .i64 110])]⟩
theorem awk_18_0_ok:EntOk Tryz.prog tyG 18 awk_18_0:=ent fastK_ok (n:=100) (fd:=c18) rfl (by kernel_rfl) (by kernel_rfl)
def awk_32_1:Ent:=⟨549,[.agg [.int .i64 120,.int .i64 2,.sl 547 0 2 (.fix 2),.sl 548 0 3 (.fix 3),.nils],.int .i64 0,.int .i64 1],[(547,.cells .rw [.int .i64 10,.int .i64 12,.int .i64 6,.int .i64 10,.int .i64 0,.int .i64 0,.int .i64 (-6),.int .i64 (-6)]),(548,.cells .rw [.int .i64 1,.int .i64 0,.int .i64 27,.int .i64 0,.int .i64 0,.int .i64 44,.int .i64 0,.int .i64 1,.int .i64 110])],.tup [.agg [.int .i64 57,.int .i64 60],.int .i64 0],1092,[(547,.cells .rw [.int .i64 10,.int .i64 12,.int .i64 6,.int .i64 10,.int .i64 0,.int .i64 0,.int .i64 (-6),.int .i64 (-6)]),(548,.cells .rw [.int .i64 1,.int .i64 0,.int .i64 27,.int .i64 0,.int .i64 0,.int .i64 44,.int .i64 0,.int .i64 1,.int .i64 110])]⟩
theorem awk_32_1_ok:EntOk Tryz.prog tyG 32 awk_32_1:=ent fastK_ok (n:=100) (fd:=c32) rfl (by kernel_rfl) (by kernel_rfl)
end
end Go.Ab.Tryz
