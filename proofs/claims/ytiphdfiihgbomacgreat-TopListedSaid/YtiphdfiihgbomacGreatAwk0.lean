/- Calls, run by the kernel one by one (printed by a program of ours). -/
import Derived.Test.YtiphdfiihgbomacGreatRun
import Derived.Test.YtiphdfiihgbomacGreatG2
set_option linter.unusedSimpArgs false
set_option linter.unusedVariables false
namespace Go.Ab.Tryz
open Go.Proofs
noncomputable section
def awk_30_0:Ent:=⟨71,[.agg [.int .i64 120,.int .i64 2,.sl 69 0 2 (.fix 2),.sl 70 0 3 (.fix 3),.nils],.int .i64 1],[(69,.cells .rw [.int .i64 10,.int .i64 12,.int .i64 6,.int .i64 10,.int .i64 0,.int .i64 0,.int .i64 (-6),.int .i64 (-6)]),(70,.cells .rw [.int .i64 1,.int .i64 0,.int .i64 27,.int .i64 0,.int .i64 0,.int .i64 44,.int .i64 0,.int .i64 1,.int .i64 110])],.tup [.agg [.int .i64 87,.int .i64 91],.int .i64 0],613,[(69,.cells .rw [.int .i64 10,.int .i64 12,.int .i64 6,.int .i64 10,.int .i64 0,.int .i64 0,.int .i64 (-6),.int .i64 (-6)]),(70,.cells .rw [.int .i64 1,.int .i64 0,.int .i64 27,.int .i64 0,.int .i64 0,.int .i64 44,.int .i64 0,.int .i64 1,.int .i64 110])]⟩
theorem awk_30_0_ok:EntOk Tryz.prog tyG 30 awk_30_0:=ent fastK_ok (n:=100) (fd:=c30) rfl (by kernel_rfl) (by kernel_rfl)
end
end Go.Ab.Tryz
