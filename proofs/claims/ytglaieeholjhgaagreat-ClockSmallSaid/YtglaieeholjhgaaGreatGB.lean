import Derived.Test.YtglaieeholjhgaaGreatRun
import Derived.Test.YtglaieeholjhgaaGreatG2
set_option linter.unusedSimpArgs false
set_option linter.unusedVariables false
namespace Go.Ab.Tryz
open Go.Proofs
noncomputable section
def awk_36_0:Ent:=⟨3,[.agg [.int .i64 120,.int .i64 2,.sl 1 0 2 (.fix 2),.sl 2 0 3 (.fix 3),.nils],.int .i64 1],[(1,.cells .rw [.int .i64 10,.int .i64 12,.int .i64 6,.int .i64 10,.int .i64 0,.int .i64 0,.int .i64 (-6),.int .i64 (-6)]),(2,.cells .rw [.int .i64 1,.int .i64 0,.int .i64 27,.int .i64 0,.int .i64 0,.int .i64 44,.int .i64 0,.int .i64 1,.int .i64 110])],.tup [.agg [.int .i64 87,.int .i64 91],.int .i64 0],545,[(1,.cells .rw [.int .i64 10,.int .i64 12,.int .i64 6,.int .i64 10,.int .i64 0,.int .i64 0,.int .i64 (-6),.int .i64 (-6)]),(2,.cells .rw [.int .i64 1,.int .i64 0,.int .i64 27,.int .i64 0,.int .i64 0,.int .i64 44,.int .i64 0,.int .i64 1,.int .i64 110])]⟩
theorem awk_36_0_ok:EntOk Tryz.prog tyG 36 awk_36_0:=ent W2 (n:=100) (fd:=c36) rfl (by kernel_rfl) (by kernel_rfl)
def awk_38_1:Ent:=⟨549,[.agg [.int .i64 120,.int .i64 2,.sl 547 0 2 (.fix 2),.sl 548 0 3 (.fix 3),.nils],.int .i64 0,.int .i64 1],[(547,.cells .rw [.int .i64 10,.int .i64 12,.int .i64 6,.int .i64 10,.int .i64 0,.int .i64 0,.int .i64 (-6),.int .i64 (-6)]),(548,.cells .rw [.int .i64 1,.int .i64 0,.int .i64 27,.int .i64 0,.int .i64 0,.int .i64 44,.int .i64 0,.int .i64 1,.int .i64 110])],.tup [.agg [.int .i64 57,.int .i64 60],.int .i64 0],1092,[(547,.cells .rw [.int .i64 10,.int .i64 12,.int .i64 6,.int .i64 10,.int .i64 0,.int .i64 0,.int .i64 (-6),.int .i64 (-6)]),(548,.cells .rw [.int .i64 1,.int .i64 0,.int .i64 27,.int .i64 0,.int .i64 0,.int .i64 44,.int .i64 0,.int .i64 1,.int .i64 110])]⟩
theorem awk_38_1_ok:EntOk Tryz.prog tyG 38 awk_38_1:=ent W2 (n:=100) (fd:=c38) rfl (by kernel_rfl) (by kernel_rfl)
end
end Go.Ab.Tryz
namespace Go.Ab.Tryz
open Go.Proofs
noncomputable section
def awk_39_2:Ent:=⟨1096,[.agg [.int .i64 120,.int .i64 2,.sl 1094 0 2 (.fix 2),.sl 1095 0 3 (.fix 3),.nils],.int .i64 0],[(1094,.cells .rw [.int .i64 10,.int .i64 12,.int .i64 6,.int .i64 10,.int .i64 0,.int .i64 0,.int .i64 (-6),.int .i64 (-6)]),(1095,.cells .rw [.int .i64 1,.int .i64 0,.int .i64 27,.int .i64 0,.int .i64 0,.int .i64 44,.int .i64 0,.int .i64 1,.int .i64 110])],.tup [.sl 1646 0 4 (.slk 0 0),.int .i64 0],1647,[(1094,.cells .rw [.int .i64 10,.int .i64 12,.int .i64 6,.int .i64 10,.int .i64 0,.int .i64 0,.int .i64 (-6),.int .i64 (-6)]),(1095,.cells .rw [.int .i64 1,.int .i64 0,.int .i64 27,.int .i64 0,.int .i64 0,.int .i64 44,.int .i64 0,.int .i64 1,.int .i64 110]),(1646,.cells (.gr 1) [.int .i64 6,.int .i64 7,.int .i64 8,.int .i64 9,.int .i64 0,.int .i64 0])]⟩
theorem awk_39_2_ok:EntOk Tryz.prog tyG 39 awk_39_2:=ent W2 (n:=100) (fd:=c39) rfl (by kernel_rfl) (by kernel_rfl)
def awk_40_3:Ent:=⟨1650,[.agg [.int .i64 120,.int .i64 2,.sl 1648 0 2 (.fix 2),.sl 1649 0 3 (.fix 3),.nils],.int .i64 0,.int .i64 1,.int .i64 20],[(1648,.cells .rw [.int .i64 10,.int .i64 12,.int .i64 6,.int .i64 10,.int .i64 0,.int .i64 0,.int .i64 (-6),.int .i64 (-6)]),(1649,.cells .rw [.int .i64 1,.int .i64 0,.int .i64 27,.int .i64 0,.int .i64 0,.int .i64 44,.int .i64 0,.int .i64 1,.int .i64 110])],.tup [.agg [.int .i64 19,.int .i64 20],.int .i64 0],2246,[(1648,.cells .rw [.int .i64 10,.int .i64 12,.int .i64 6,.int .i64 10,.int .i64 0,.int .i64 0,.int .i64 (-6),.int .i64 (-6)]),(1649,.cells .rw [.int .i64 1,.int .i64 0,.int .i64 27,.int .i64 0,.int .i64 0,.int .i64 44,.int .i64 0,.int .i64 1,.int .i64 110])]⟩
theorem awk_40_3_ok:EntOk Tryz.prog tyG 40 awk_40_3:=ent W2 (n:=100) (fd:=c40) rfl (by kernel_rfl) (by kernel_rfl)
end
end Go.Ab.Tryz
namespace Go.Ab.Tryz
open Go.Proofs
noncomputable section
def awk_19_4:Ent:=⟨2251,[.int .i64 0,.int .i64 (-6),.int .i64 27],[],.tup [.agg [.int .i64 30,.int .i64 31],.int .i64 0],2255,[]⟩
theorem awk_19_4_ok:EntOk Tryz.prog tyG 19 awk_19_4:=ent W2 (n:=100) (fd:=c19) rfl (by kernel_rfl) (by kernel_rfl)
def awk_42_5:Ent:=⟨2261,[.agg [.int .i64 120,.int .i64 2,.sl 2258 0 2 (.fix 2),.sl 2260 0 4 (.slk 0 0),.nils]],[(2258,.cells .rw [.int .i64 10,.int .i64 12,.int .i64 6,.int .i64 10,.int .i64 0,.int .i64 0,.int .i64 (-6),.int .i64 (-6)]),(2260,.cells (.gr 3) [.int .i64 1,.int .i64 0,.int .i64 27,.int .i64 0,.int .i64 0,.int .i64 44,.int .i64 0,.int .i64 1,.int .i64 110,.int .i64 1,.int .i64 1,.int .i64 90])],.tup [.sl 3306 0 2 (.slk 0 0),.int .i64 0],3702,[(2258,.cells .rw [.int .i64 10,.int .i64 12,.int .i64 6,.int .i64 10,.int .i64 0,.int .i64 0,.int .i64 (-6),.int .i64 (-6)]),(2260,.cells (.gr 3) [.int .i64 1,.int .i64 0,.int .i64 27,.int .i64 0,.int .i64 0,.int .i64 44,.int .i64 0,.int .i64 1,.int .i64 110,.int .i64 1,.int .i64 1,.int .i64 90]),(3306,.cells (.gr 1) [.int .i64 2,.int .i64 3])]⟩
theorem awk_42_5_ok:EntOk Tryz.prog tyG 42 awk_42_5:=ent W2 (n:=100) (fd:=c42) rfl (by kernel_rfl) (by kernel_rfl)
end
end Go.Ab.Tryz
namespace Go.Ab.Tryz
open Go.Proofs
noncomputable section
def awk_43_6:Ent:=⟨3707,[.agg [.int .i64 120,.int .i64 2,.sl 3704 0 2 (.fix 2),.sl 3706 0 4 (.slk 0 0),.nils]],[(3704,.cells .rw [.int .i64 10,.int .i64 12,.int .i64 6,.int .i64 10,.int .i64 0,.int .i64 0,.int .i64 (-6),.int .i64 (-6)]),(3706,.cells (.gr 3) [.int .i64 1,.int .i64 0,.int .i64 27,.int .i64 0,.int .i64 0,.int .i64 44,.int .i64 0,.int .i64 1,.int .i64 110,.int .i64 1,.int .i64 1,.int .i64 90])],.tup [.sl 5078 0 1 (.slk 0 0),.int .i64 0],5129,[(3704,.cells .rw [.int .i64 10,.int .i64 12,.int .i64 6,.int .i64 10,.int .i64 0,.int .i64 0,.int .i64 (-6),.int .i64 (-6)]),(3706,.cells (.gr 3) [.int .i64 1,.int .i64 0,.int .i64 27,.int .i64 0,.int .i64 0,.int .i64 44,.int .i64 0,.int .i64 1,.int .i64 110,.int .i64 1,.int .i64 1,.int .i64 90]),(5078,.cells (.gr 1) [.int .i64 2])]⟩
theorem awk_43_6_ok:EntOk Tryz.prog tyG 43 awk_43_6:=ent W2 (n:=100) (fd:=c43) rfl (by kernel_rfl) (by kernel_rfl)
end
end Go.Ab.Tryz
