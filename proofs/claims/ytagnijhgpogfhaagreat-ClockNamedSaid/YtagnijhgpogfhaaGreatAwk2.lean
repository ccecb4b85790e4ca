/- Calls, run by the kernel one by one (printed by a program of ours). -/
import Derived.Test.YtagnijhgpogfhaaGreatRun
import Derived.Test.YtagnijhgpogfhaaGreatG2
set_option linter.unusedSimpArgs false
set_option linter.unusedVariables false
namespace Go.Ab.Tryz
open Go.Proofs
noncomputable section
def awk_90_4:Ent:=⟨2251,[.int .i64 0,.int .i64 (-6),.int .i64 27],[],.tup [.agg [.int .i64 30,.int .i64 31],.int .i64 0],2255,[]⟩
theorem awk_90_4_ok:EntOk Tryz.prog tyG 90 awk_90_4:=ent fastK_ok (n:=100) (fd:=c90) rfl (by kernel_rfl) (by kernel_rfl)
def awk_44_5:Ent:=⟨2261,[.agg [.int .i64 120,.int .i64 2,.sl 2258 0 2 (.fix 2),.sl 2260 0 4 (.slk 0 0),.nils]],[(2258,.cells .rw [.int .i64 10,.int .i64 12,.int .i64 6,.int .i64 10,.int .i64 0,.int .i64 0,.int .i64 (-6),.int .i64 (-6)]),(2260,.cells (.gr 3) [.int .i64 1,.int .i64 0,.int .i64 27,.int .i64 0,.int .i64 0,.int .i64 44,.int .i64 0,.int .i64 1,.int .i64 110,.int .i64 1,.int .i64 1,.int .i64 90])],.tup [.sl 3306 0 2 (.slk 0 0),.int .i64 0],3702,[(2258,.cells .rw [.int .i64 10,.int .i64 12,.int .i64 6,.int .i64 10,.int .i64 0,.int .i64 0,.int .i64 (-6),.int .i64 (-6)]),(2260,.cells (.gr 3) [.int .i64 1,.int .i64 0,.int .i64 27,.int .i64 0,.int .i64 0,.int .i64 44,.int .i64 0,.int .i64 1,.int .i64 110,.int .i64 1,.int .i64 1,.int .i64 90]),(3306,.cells (.gr 1) [.int .i64 2,.int .i64 3])]⟩
theorem awk_44_5_ok:EntOk Tryz.prog tyG 44 awk_44_5:=ent fastK_ok (n:=100) (fd:=c44) rfl (by kernel_rfl) (by kernel_rfl)
end
end Go.Ab.Tryz
