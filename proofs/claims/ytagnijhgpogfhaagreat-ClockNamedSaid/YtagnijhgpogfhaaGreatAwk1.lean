/- Calls, run by the kernel one by one (printed by a program of ours). -/
import Derived.Test.YtagnijhgpogfhaaGreatRun
import Derived.Test.YtagnijhgpogfhaaGreatG2
set_option linter.unusedSimpArgs false
set_option linter.unusedVariables false
namespace Go.Ab.Tryz
open Go.Proofs
noncomputable section
def awk_19_2:Ent:=⟨1096,[.agg [.int .i64 120,.int .i64 2,.sl 1094 0 2 (.fix 2),.sl 1095 0 3 (.fix 3),.nils],.int .i64 0],[(1094,.cells .rw [.int .i64 10,.int .i64 12,.int .i64 6,.int .i64 10,.int .i64 0,.int .i64 0,.int .i64 (-6),.int .i64 (-6)]),(1095,.cells .rw [.int .i64 1,.int .i64 0,.int .i64 27,.int .i64 0,.int .i64 0,.int .i64 44,.int .i64 0,.int .i64 1,.int .i64 110])],.tup [.sl 1646 0 4 (.slk 0 0),.int .i64 0],1647,[(1094,.cells .rw [.int .i64 10,.int .i64 12,.int .i64 6,.int .i64 10,.int .i64 0,.int .i64 0,.int .i64 (-6),.int .i64 (-6)]),(1095,.cells .rw [.int .i64 1,.int .i64 0,.int .i64 27,.int .i64 0,.int .i64 0,.int .i64 44,.int .i64 0,.int .i64 1,.int .i64 110]),(1646,.cells (.gr 1) [.int .i64 6,.int .i64 7,.int .i64 8,.int .i64 9,.int .i64 0,.int .i64 0])]⟩
theorem awk_19_2_ok:EntOk Tryz.prog tyG 19 awk_19_2:=ent fastK_ok (n:=100) (fd:=c19) rfl (by kernel_rfl) (by kernel_rfl)
def awk_34_3:Ent:=⟨1650,[.agg [.int .i64 120,.int .i64 2,.sl 1648 0 2 (.fix 2),.sl 1649 0 3 (.fix 3),.nils],.int .i64 0,.int .i64 1,.int .i64 20],[(1648,.cells .rw [.int .i64 10,.int .i64 12,.int .i64 6,.int .i64 10,.int .i64 0,.int .i64 0,.int .i64 (-6),.int .i64 (-6)]),(1649,.cells .rw [.int .i64 1,.int .i64 0,.int .i64 27,.int .i64 0,.int .i64 0,.int .i64 44,.int .i64 0,.int .i64 1,.int .i64 110])],.tup [.agg [.int .i64 19,.int .i64 20],.int .i64 0],2246,[(1648,.cells .rw [.int .i64 10,.int .i64 12,.int .i64 6,.int .i64 10,.int .i64 0,.int .i64 0,.int .i64 (-6),.int .i64 (-6)]),(1649,.cells .rw [.int .i64 1,.int .i64 0,.int .i64 27,.int .i64 0,.int .i64 0,.int .i64 44,.int .i64 0,.int .i64 1,.int .i64 110])]⟩
theorem awk_34_3_ok:EntOk Tryz.prog tyG 34 awk_34_3:=ent fastK_ok (n:=100) (fd:=c34) rfl (by kernel_rfl) (by kernel_rfl)
end
end Go.Ab.Tryz
