/- Calls, run by the kernel one by one (printed by a program of ours). -/
import Derived.Test.YtagnijhgpogfhaaGreatRun
import Derived.Test.YtagnijhgpogfhaaGreatG2
set_option linter.unusedSimpArgs false
set_option linter.unusedVariables false
namespace Go.Ab.Tryz
open Go.Proofs
noncomputable section
def awk_21_6:Ent:=⟨3707,[.agg [.int .i64 120,.int .i64 2,.sl 3704 0 2 (.fix 2),.sl 3706 0 4 (.slk 0 0),.nils]],[(3704,.cells .rw [.int .i64 10,.int .i64 12,.int .i64 6,.int .i64 10,.int .i64 0,.int .i64 0,.int .i64 (-6),.int .i64 (-6)]),(3706,.cells (.gr 3) [.int .i64 1,.int .i64 0,.int .i64 27,.int .i64 0,.int .i64 0,.int .i64 44,.int .i64 0,.int .i64 1,.int .i64 110,.int .i64 1,.int .i64 1,.int .i64 90])],.tup [.sl 5078 0 1 (.slk 0 0),.int .i64 0],5129,[(3704,.cells .rw [.int .i64 10,.int .i64 12,.int .i64 6,.int .i64 10,.int .i64 0,.int .i64 0,.int .i64 (-6),.int .i64 (-6)]),(3706,.cells (.gr 3) [.int .i64 1,.int .i64 0,.int .i64 27,.int .i64 0,.int .i64 0,.int .i64 44,.int .i64 0,.int .i64 1,.int .i64 110,.int .i64 1,.int .i64 1,.int .i64 90]),(5078,.cells (.gr 1) [.int .i64 2])]⟩
theorem awk_21_6_ok:EntOk Tryz.prog tyG 21 awk_21_6:=ent fastK_ok (n:=100) (fd:=c21) rfl (by kernel_rfl) (by kernel_rfl)
end
end Go.Ab.Tryz
