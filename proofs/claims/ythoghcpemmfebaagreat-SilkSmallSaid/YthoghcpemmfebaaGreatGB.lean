import Derived.Test.YthoghcpemmfebaaGreatAbK
import Derived.Test.YthoghcpemmfebaaGreatOk
import Derived.Test.YthoghcpemmfebaaGreatAbT
import Derived.KernelRfl
namespace Go.Ab.Tryz
open Go.Proofs
noncomputable section
def fkG (f:Nat):Option FK:=(fnG f).map FD.k
theorem fk_eq (f:Nat):fkG f=(fnG f).map FD.k:=rfl
theorem kok {fast:Nat→Option (List V→H→Option (V × H))}(hf:Uw Tryz.prog tyG fast)(n:Nat):KOk Tryz.prog tyG (evVK fkG fast n):=by
 rw[evVK_eq fnG fast fkG fk_eq]
 exact evV_ok tyOK depth_ok mixed_ok fnOK hf n
theorem XG {f:FuncId}{fd:FD}(h:fnG f=some fd):XI Tryz.prog f:=callable_of fnOK h
def fast0 (f:Nat):Option (List V→H→Option (V × H)):=lookF f []
theorem ZB:Uw Tryz.prog tyG fast0:=lookF_ok (l:=[]) (fun q hq=>by cases hq)
theorem ent {fast:Nat→Option (List V→H→Option (V × H))}(hf:Uw Tryz.prog tyG fast){n:Nat}{f:FuncId}{fd:FD}(hfd:fnG f=some fd){e:Ent}(hok:e.ok=true)
  (hr:e.is (evVK fkG fast n (.fn f [] []) e.args e.h)=true):Z3 Tryz.prog tyG f e:=
 ⟨fun h1 h2 h3=>ent_spec (kok hf n) (XG hfd) hok hr h1 h2 h3⟩
end
end Go.Ab.Tryz
set_option linter.unusedSimpArgs false
set_option linter.unusedVariables false
namespace Go.Ab.Tryz
abbrev iL(l:List Int):List V:=l.map .ii
abbrev gqa:Nat×Blk:=(663,.map [(.ii (-1),.sl 667 0 1 (.slk 0 0)),(.ii 0,.sl 676 0 3 (.slk 0 0)),(.ii 1,.sl 682 0 2 (.slk 0 0))])
abbrev gqb:Nat×Blk:=(600,.bk (iL [0,1100,10,10,2,400,0,10,4,500,5,5,3,150,0,0,5,40,0,0]))
abbrev gqc:Nat×Blk:=(664,.bk [.ii 2,.sl 601 0 6 (.fix 6),.sl 600 0 5 (.fix 5),.map 663])
abbrev gqd:Nat×Blk:=(601,.bk (iL [-1,0,0,0,0,0,0,1,1,2,1,3]))
abbrev gqe:Nat×Blk:=(676,.cells (.gr 1) (iL [1,2,3]))
abbrev gqf:Nat×Blk:=(682,.cells (.gr 1) (iL [4,5]))
abbrev gqg:Nat×Blk:=(667,.cells (.gr 1) (iL [0]))
abbrev gqh:Nat×Blk:=(3437,.map [(.ii (-1),.sl 3441 0 1 (.slk 0 0)),(.ii 0,.sl 3450 0 3 (.slk 0 0)),(.ii 1,.sl 3456 0 2 (.slk 0 0))])
abbrev gqi:Nat×Blk:=(3438,.bk [.ii 2,.sl 3375 0 6 (.fix 6),.sl 3374 0 5 (.fix 5),.map 3437])
abbrev gqj:Nat×Blk:=(3374,.bk (iL [0,1100,10,10,2,400,0,10,4,500,5,5,3,150,0,0,5,40,0,0]))
abbrev gqk:Nat×Blk:=(3375,.bk (iL [-1,0,0,0,0,0,0,1,1,2,1,3]))
abbrev gql:Nat×Blk:=(3450,.cells (.gr 1) (iL [1,2,3]))
abbrev gqm:Nat×Blk:=(3456,.cells (.gr 1) (iL [4,5]))
abbrev gqn:Nat×Blk:=(3441,.cells (.gr 1) (iL [0]))
open Go.Proofs
noncomputable section
def awk_87_0:Ent:=⟨689,[.ptr 664 0,.nils,.bool false],[gqb,gqd,gqa,gqc,gqg,gqe,gqf],.bool true,737,[gqb,gqd,gqa,gqc,gqg,gqe,gqf]⟩
theorem awk_87_0_ok:Z3 Tryz.prog tyG 87 awk_87_0:=ent ZB (n:=100) (fd:=c87) rfl (by kernel_rfl) (by kernel_rfl)
def awk_87_1:Ent:=⟨741,[.ptr 664 0,.sl 740 0 1 (.slk 0 0),.bool false],[gqb,gqd,gqa,gqc,gqg,gqe,gqf,(740,.cells (.gr 1) (iL [0]))],.bool true,805,[gqb,gqd,gqa,gqc,gqg,gqe,gqf,(740,.cells (.gr 1) (iL [0]))]⟩
theorem awk_87_1_ok:Z3 Tryz.prog tyG 87 awk_87_1:=ent ZB (n:=100) (fd:=c87) rfl (by kernel_rfl) (by kernel_rfl)
def awk_87_2:Ent:=⟨807,[.ptr 664 0,.sl 806 0 1 (.slk 0 0),.bool false],[gqb,gqd,gqa,gqc,gqg,gqe,gqf,(806,.cells (.gr 1) (iL [1]))],.bool true,871,[gqb,gqd,gqa,gqc,gqg,gqe,gqf,(806,.cells (.gr 1) (iL [1]))]⟩
theorem awk_87_2_ok:Z3 Tryz.prog tyG 87 awk_87_2:=ent ZB (n:=100) (fd:=c87) rfl (by kernel_rfl) (by kernel_rfl)
def awk_87_3:Ent:=⟨873,[.ptr 664 0,.sl 872 0 1 (.slk 0 0),.bool false],[gqb,gqd,gqa,gqc,gqg,gqe,gqf,(872,.cells (.gr 1) (iL [2]))],.bool true,952,[gqb,gqd,gqa,gqc,gqg,gqe,gqf,(872,.cells (.gr 1) (iL [2]))]⟩
theorem awk_87_3_ok:Z3 Tryz.prog tyG 87 awk_87_3:=ent ZB (n:=100) (fd:=c87) rfl (by kernel_rfl) (by kernel_rfl)
def awk_87_4:Ent:=⟨954,[.ptr 664 0,.sl 953 0 1 (.slk 0 0),.bool false],[gqb,gqd,gqa,gqc,gqg,gqe,gqf,(953,.cells (.gr 1) (iL [3]))],.bool true,1018,[gqb,gqd,gqa,gqc,gqg,gqe,gqf,(953,.cells (.gr 1) (iL [3]))]⟩
theorem awk_87_4_ok:Z3 Tryz.prog tyG 87 awk_87_4:=ent ZB (n:=100) (fd:=c87) rfl (by kernel_rfl) (by kernel_rfl)
def awk_87_5:Ent:=⟨1020,[.ptr 664 0,.sl 1019 0 1 (.slk 0 0),.bool false],[gqb,gqd,gqa,gqc,gqg,gqe,gqf,(1019,.cells (.gr 1) (iL [4]))],.bool true,1099,[gqb,gqd,gqa,gqc,gqg,gqe,gqf,(1019,.cells (.gr 1) (iL [4]))]⟩
theorem awk_87_5_ok:Z3 Tryz.prog tyG 87 awk_87_5:=ent ZB (n:=100) (fd:=c87) rfl (by kernel_rfl) (by kernel_rfl)
end
end Go.Ab.Tryz
namespace Go.Ab.Tryz
open Go.Proofs
noncomputable section
def awk_87_6:Ent:=⟨1107,[.ptr 664 0,.sl 1106 0 2 (.slk 0 0),.bool false],[gqb,gqd,gqa,gqc,gqg,gqe,gqf,(1106,.cells (.gr 1) (iL [0,1]))],.bool true,1172,[gqb,gqd,gqa,gqc,gqg,gqe,gqf,(1106,.cells (.gr 1) (iL [0,1]))]⟩
theorem awk_87_6_ok:Z3 Tryz.prog tyG 87 awk_87_6:=ent ZB (n:=100) (fd:=c87) rfl (by kernel_rfl) (by kernel_rfl)
def awk_87_7:Ent:=⟨1176,[.ptr 664 0,.sl 1175 0 2 (.slk 0 0),.bool false],[gqb,gqd,gqa,gqc,gqg,gqe,gqf,(1175,.cells (.gr 1) (iL [0,2]))],.bool true,1256,[gqb,gqd,gqa,gqc,gqg,gqe,gqf,(1175,.cells (.gr 1) (iL [0,2]))]⟩
theorem awk_87_7_ok:Z3 Tryz.prog tyG 87 awk_87_7:=ent ZB (n:=100) (fd:=c87) rfl (by kernel_rfl) (by kernel_rfl)
def awk_87_8:Ent:=⟨1260,[.ptr 664 0,.sl 1259 0 2 (.slk 0 0),.bool false],[gqb,gqd,gqa,gqc,gqg,gqe,gqf,(1259,.cells (.gr 1) (iL [0,3]))],.bool true,1325,[gqb,gqd,gqa,gqc,gqg,gqe,gqf,(1259,.cells (.gr 1) (iL [0,3]))]⟩
theorem awk_87_8_ok:Z3 Tryz.prog tyG 87 awk_87_8:=ent ZB (n:=100) (fd:=c87) rfl (by kernel_rfl) (by kernel_rfl)
def awk_87_9:Ent:=⟨1329,[.ptr 664 0,.sl 1328 0 2 (.slk 0 0),.bool false],[gqb,gqd,gqa,gqc,gqg,gqe,gqf,(1328,.cells (.gr 1) (iL [0,4]))],.bool true,1409,[gqb,gqd,gqa,gqc,gqg,gqe,gqf,(1328,.cells (.gr 1) (iL [0,4]))]⟩
theorem awk_87_9_ok:Z3 Tryz.prog tyG 87 awk_87_9:=ent ZB (n:=100) (fd:=c87) rfl (by kernel_rfl) (by kernel_rfl)
def awk_87_10:Ent:=⟨1415,[.ptr 664 0,.sl 1414 0 2 (.slk 0 0),.bool false],[gqb,gqd,gqa,gqc,gqg,gqe,gqf,(1414,.cells (.gr 1) (iL [1,2]))],.bool true,1495,[gqb,gqd,gqa,gqc,gqg,gqe,gqf,(1414,.cells (.gr 1) (iL [1,2]))]⟩
theorem awk_87_10_ok:Z3 Tryz.prog tyG 87 awk_87_10:=ent ZB (n:=100) (fd:=c87) rfl (by kernel_rfl) (by kernel_rfl)
def awk_87_11:Ent:=⟨1499,[.ptr 664 0,.sl 1498 0 2 (.slk 0 0),.bool false],[gqb,gqd,gqa,gqc,gqg,gqe,gqf,(1498,.cells (.gr 1) (iL [1,3]))],.bool true,1564,[gqb,gqd,gqa,gqc,gqg,gqe,gqf,(1498,.cells (.gr 1) (iL [1,3]))]⟩
theorem awk_87_11_ok:Z3 Tryz.prog tyG 87 awk_87_11:=ent ZB (n:=100) (fd:=c87) rfl (by kernel_rfl) (by kernel_rfl)
end
end Go.Ab.Tryz
namespace Go.Ab.Tryz
open Go.Proofs
noncomputable section
def awk_87_12:Ent:=⟨1568,[.ptr 664 0,.sl 1567 0 2 (.slk 0 0),.bool false],[gqb,gqd,gqa,gqc,gqg,gqe,gqf,(1567,.cells (.gr 1) (iL [1,4]))],.bool true,1648,[gqb,gqd,gqa,gqc,gqg,gqe,gqf,(1567,.cells (.gr 1) (iL [1,4]))]⟩
theorem awk_87_12_ok:Z3 Tryz.prog tyG 87 awk_87_12:=ent ZB (n:=100) (fd:=c87) rfl (by kernel_rfl) (by kernel_rfl)
def awk_87_13:Ent:=⟨1654,[.ptr 664 0,.sl 1653 0 2 (.slk 0 0),.bool false],[gqb,gqd,gqa,gqc,gqg,gqe,gqf,(1653,.cells (.gr 1) (iL [2,3]))],.bool true,1734,[gqb,gqd,gqa,gqc,gqg,gqe,gqf,(1653,.cells (.gr 1) (iL [2,3]))]⟩
theorem awk_87_13_ok:Z3 Tryz.prog tyG 87 awk_87_13:=ent ZB (n:=100) (fd:=c87) rfl (by kernel_rfl) (by kernel_rfl)
def awk_87_14:Ent:=⟨1738,[.ptr 664 0,.sl 1737 0 2 (.slk 0 0),.bool false],[gqb,gqd,gqa,gqc,gqg,gqe,gqf,(1737,.cells (.gr 1) (iL [2,4]))],.bool true,1818,[gqb,gqd,gqa,gqc,gqg,gqe,gqf,(1737,.cells (.gr 1) (iL [2,4]))]⟩
theorem awk_87_14_ok:Z3 Tryz.prog tyG 87 awk_87_14:=ent ZB (n:=100) (fd:=c87) rfl (by kernel_rfl) (by kernel_rfl)
def awk_87_15:Ent:=⟨1824,[.ptr 664 0,.sl 1823 0 2 (.slk 0 0),.bool false],[gqb,gqd,gqa,gqc,gqg,gqe,gqf,(1823,.cells (.gr 1) (iL [3,4]))],.bool true,1904,[gqb,gqd,gqa,gqc,gqg,gqe,gqf,(1823,.cells (.gr 1) (iL [3,4]))]⟩
theorem awk_87_15_ok:Z3 Tryz.prog tyG 87 awk_87_15:=ent ZB (n:=100) (fd:=c87) rfl (by kernel_rfl) (by kernel_rfl)
def awk_87_16:Ent:=⟨1918,[.ptr 664 0,.sl 1917 0 3 (.slk 0 0),.bool false],[gqb,gqd,gqa,gqc,gqg,gqe,gqf,(1917,.cells (.gr 1) (iL [0,1,2]))],.bool true,1999,[gqb,gqd,gqa,gqc,gqg,gqe,gqf,(1917,.cells (.gr 1) (iL [0,1,2]))]⟩
theorem awk_87_16_ok:Z3 Tryz.prog tyG 87 awk_87_16:=ent ZB (n:=100) (fd:=c87) rfl (by kernel_rfl) (by kernel_rfl)
def awk_87_17:Ent:=⟨2003,[.ptr 664 0,.sl 2002 0 3 (.slk 0 0),.bool false],[gqb,gqd,gqa,gqc,gqg,gqe,gqf,(2002,.cells (.gr 1) (iL [0,1,3]))],.bool true,2069,[gqb,gqd,gqa,gqc,gqg,gqe,gqf,(2002,.cells (.gr 1) (iL [0,1,3]))]⟩
theorem awk_87_17_ok:Z3 Tryz.prog tyG 87 awk_87_17:=ent ZB (n:=100) (fd:=c87) rfl (by kernel_rfl) (by kernel_rfl)
end
end Go.Ab.Tryz
namespace Go.Ab.Tryz
open Go.Proofs
noncomputable section
def awk_87_18:Ent:=⟨2073,[.ptr 664 0,.sl 2072 0 3 (.slk 0 0),.bool false],[gqb,gqd,gqa,gqc,gqg,gqe,gqf,(2072,.cells (.gr 1) (iL [0,1,4]))],.bool true,2154,[gqb,gqd,gqa,gqc,gqg,gqe,gqf,(2072,.cells (.gr 1) (iL [0,1,4]))]⟩
theorem awk_87_18_ok:Z3 Tryz.prog tyG 87 awk_87_18:=ent ZB (n:=100) (fd:=c87) rfl (by kernel_rfl) (by kernel_rfl)
def awk_87_19:Ent:=⟨2162,[.ptr 664 0,.sl 2161 0 3 (.slk 0 0),.bool false],[gqb,gqd,gqa,gqc,gqg,gqe,gqf,(2161,.cells (.gr 1) (iL [0,2,3]))],.bool true,2243,[gqb,gqd,gqa,gqc,gqg,gqe,gqf,(2161,.cells (.gr 1) (iL [0,2,3]))]⟩
theorem awk_87_19_ok:Z3 Tryz.prog tyG 87 awk_87_19:=ent ZB (n:=100) (fd:=c87) rfl (by kernel_rfl) (by kernel_rfl)
def awk_87_20:Ent:=⟨2247,[.ptr 664 0,.sl 2246 0 3 (.slk 0 0),.bool false],[gqb,gqd,gqa,gqc,gqg,gqe,gqf,(2246,.cells (.gr 1) (iL [0,2,4]))],.bool true,2328,[gqb,gqd,gqa,gqc,gqg,gqe,gqf,(2246,.cells (.gr 1) (iL [0,2,4]))]⟩
theorem awk_87_20_ok:Z3 Tryz.prog tyG 87 awk_87_20:=ent ZB (n:=100) (fd:=c87) rfl (by kernel_rfl) (by kernel_rfl)
def awk_87_21:Ent:=⟨2336,[.ptr 664 0,.sl 2335 0 3 (.slk 0 0),.bool false],[gqb,gqd,gqa,gqc,gqg,gqe,gqf,(2335,.cells (.gr 1) (iL [0,3,4]))],.bool true,2417,[gqb,gqd,gqa,gqc,gqg,gqe,gqf,(2335,.cells (.gr 1) (iL [0,3,4]))]⟩
theorem awk_87_21_ok:Z3 Tryz.prog tyG 87 awk_87_21:=ent ZB (n:=100) (fd:=c87) rfl (by kernel_rfl) (by kernel_rfl)
def awk_87_22:Ent:=⟨2431,[.ptr 664 0,.sl 2430 0 3 (.slk 0 0),.bool false],[gqb,gqd,gqa,gqc,gqg,gqe,gqf,(2430,.cells (.gr 1) (iL [1,2,3]))],.bool true,2512,[gqb,gqd,gqa,gqc,gqg,gqe,gqf,(2430,.cells (.gr 1) (iL [1,2,3]))]⟩
theorem awk_87_22_ok:Z3 Tryz.prog tyG 87 awk_87_22:=ent ZB (n:=100) (fd:=c87) rfl (by kernel_rfl) (by kernel_rfl)
def awk_87_23:Ent:=⟨2516,[.ptr 664 0,.sl 2515 0 3 (.slk 0 0),.bool false],[gqb,gqd,gqa,gqc,gqg,gqe,gqf,(2515,.cells (.gr 1) (iL [1,2,4]))],.bool true,2597,[gqb,gqd,gqa,gqc,gqg,gqe,gqf,(2515,.cells (.gr 1) (iL [1,2,4]))]⟩
theorem awk_87_23_ok:Z3 Tryz.prog tyG 87 awk_87_23:=ent ZB (n:=100) (fd:=c87) rfl (by kernel_rfl) (by kernel_rfl)
end
end Go.Ab.Tryz
namespace Go.Ab.Tryz
open Go.Proofs
noncomputable section
def awk_87_24:Ent:=⟨2605,[.ptr 664 0,.sl 2604 0 3 (.slk 0 0),.bool false],[gqb,gqd,gqa,gqc,gqg,gqe,gqf,(2604,.cells (.gr 1) (iL [1,3,4]))],.bool true,2686,[gqb,gqd,gqa,gqc,gqg,gqe,gqf,(2604,.cells (.gr 1) (iL [1,3,4]))]⟩
theorem awk_87_24_ok:Z3 Tryz.prog tyG 87 awk_87_24:=ent ZB (n:=100) (fd:=c87) rfl (by kernel_rfl) (by kernel_rfl)
def awk_87_25:Ent:=⟨2700,[.ptr 664 0,.sl 2699 0 3 (.slk 0 0),.bool false],[gqb,gqd,gqa,gqc,gqg,gqe,gqf,(2699,.cells (.gr 1) (iL [2,3,4]))],.bool true,2781,[gqb,gqd,gqa,gqc,gqg,gqe,gqf,(2699,.cells (.gr 1) (iL [2,3,4]))]⟩
theorem awk_87_25_ok:Z3 Tryz.prog tyG 87 awk_87_25:=ent ZB (n:=100) (fd:=c87) rfl (by kernel_rfl) (by kernel_rfl)
def awk_87_26:Ent:=⟨2809,[.ptr 664 0,.sl 2808 0 4 (.slk 0 0),.bool false],[gqb,gqd,gqa,gqc,gqg,gqe,gqf,(2808,.cells (.gr 1) (iL [0,1,2,3]))],.bool true,2891,[gqb,gqd,gqa,gqc,gqg,gqe,gqf,(2808,.cells (.gr 1) (iL [0,1,2,3]))]⟩
theorem awk_87_26_ok:Z3 Tryz.prog tyG 87 awk_87_26:=ent ZB (n:=100) (fd:=c87) rfl (by kernel_rfl) (by kernel_rfl)
def awk_87_27:Ent:=⟨2895,[.ptr 664 0,.sl 2894 0 4 (.slk 0 0),.bool false],[gqb,gqd,gqa,gqc,gqg,gqe,gqf,(2894,.cells (.gr 1) (iL [0,1,2,4]))],.bool true,2977,[gqb,gqd,gqa,gqc,gqg,gqe,gqf,(2894,.cells (.gr 1) (iL [0,1,2,4]))]⟩
theorem awk_87_27_ok:Z3 Tryz.prog tyG 87 awk_87_27:=ent ZB (n:=100) (fd:=c87) rfl (by kernel_rfl) (by kernel_rfl)
def awk_87_28:Ent:=⟨2985,[.ptr 664 0,.sl 2984 0 4 (.slk 0 0),.bool false],[gqb,gqd,gqa,gqc,gqg,gqe,gqf,(2984,.cells (.gr 1) (iL [0,1,3,4]))],.bool true,3052,[gqb,gqd,gqa,gqc,gqg,gqe,gqf,(2984,.cells (.gr 1) (iL [0,1,3,4]))]⟩
theorem awk_87_28_ok:Z3 Tryz.prog tyG 87 awk_87_28:=ent ZB (n:=100) (fd:=c87) rfl (by kernel_rfl) (by kernel_rfl)
def awk_87_29:Ent:=⟨3068,[.ptr 664 0,.sl 3067 0 4 (.slk 0 0),.bool false],[gqb,gqd,gqa,gqc,gqg,gqe,gqf,(3067,.cells (.gr 1) (iL [0,2,3,4]))],.bool true,3150,[gqb,gqd,gqa,gqc,gqg,gqe,gqf,(3067,.cells (.gr 1) (iL [0,2,3,4]))]⟩
theorem awk_87_29_ok:Z3 Tryz.prog tyG 87 awk_87_29:=ent ZB (n:=100) (fd:=c87) rfl (by kernel_rfl) (by kernel_rfl)
end
end Go.Ab.Tryz
namespace Go.Ab.Tryz
open Go.Proofs
noncomputable section
def awk_87_30:Ent:=⟨3180,[.ptr 664 0,.sl 3179 0 4 (.slk 0 0),.bool false],[gqb,gqd,gqa,gqc,gqg,gqe,gqf,(3179,.cells (.gr 1) (iL [1,2,3,4]))],.bool true,3262,[gqb,gqd,gqa,gqc,gqg,gqe,gqf,(3179,.cells (.gr 1) (iL [1,2,3,4]))]⟩
theorem awk_87_30_ok:Z3 Tryz.prog tyG 87 awk_87_30:=ent ZB (n:=100) (fd:=c87) rfl (by kernel_rfl) (by kernel_rfl)
def awk_87_31:Ent:=⟨3320,[.ptr 664 0,.sl 3319 0 5 (.slk 0 0),.bool false],[gqb,gqd,gqa,gqc,gqg,gqe,gqf,(3319,.cells (.gr 1) (iL [0,1,2,3,4]))],.bool false,3373,[gqb,gqd,gqa,gqc,gqg,gqe,gqf,(3319,.cells (.gr 1) (iL [0,1,2,3,4]))]⟩
theorem awk_87_31_ok:Z3 Tryz.prog tyG 87 awk_87_31:=ent ZB (n:=100) (fd:=c87) rfl (by kernel_rfl) (by kernel_rfl)
def awk_87_32:Ent:=⟨3463,[.ptr 3438 0,.nils,.bool true],[gqj,gqk,gqh,gqi,gqn,gql,gqm],.bool false,3516,[gqj,gqk,gqh,gqi,gqn,gql,gqm]⟩
theorem awk_87_32_ok:Z3 Tryz.prog tyG 87 awk_87_32:=ent ZB (n:=100) (fd:=c87) rfl (by kernel_rfl) (by kernel_rfl)
def awk_87_33:Ent:=⟨3520,[.ptr 3438 0,.sl 3519 0 1 (.slk 0 0),.bool true],[gqj,gqk,gqh,gqi,gqn,gql,gqm,(3519,.cells (.gr 1) (iL [0]))],.bool true,3602,[gqj,gqk,gqh,gqi,gqn,gql,gqm,(3519,.cells (.gr 1) (iL [0]))]⟩
theorem awk_87_33_ok:Z3 Tryz.prog tyG 87 awk_87_33:=ent ZB (n:=100) (fd:=c87) rfl (by kernel_rfl) (by kernel_rfl)
end
end Go.Ab.Tryz
