/- Calls, run by the kernel by calls that were run before (printed by a program of ours). -/
import Derived.Test.YtkjbamlcgojkmaaGreatGB
set_option linter.unusedSimpArgs false
set_option linter.unusedVariables false
namespace Go.Ab.Tryz
open Go.Proofs
noncomputable section
def awkf0T:List (Nat × List Ent):=[(94,[awk_94_0,awk_94_1,awk_94_2,awk_94_3,awk_94_4,awk_94_5,awk_94_6])]
def awkf0 (f:Nat):Option (List V→H→Option (V × H)):=lookF f awkf0T
theorem awkf0_ok:FastOk Tryz.prog tyG awkf0:=by
 refine lookF_ok (l:=awkf0T) fun q hq=>?_
 simp only[awkf0T,List.mem_cons,List.not_mem_nil,or_false] at hq
 rcases hq with rfl
 ·refine⟨callable (fd:=c94) rfl,fun e he=>?_⟩
  simp only[List.mem_cons,List.not_mem_nil,or_false] at he
  rcases he with rfl|rfl|rfl|rfl|rfl|rfl|rfl
  ·exact awk_94_0_ok
  ·exact awk_94_1_ok
  ·exact awk_94_2_ok
  ·exact awk_94_3_ok
  ·exact awk_94_4_ok
  ·exact awk_94_5_ok
  ·exact awk_94_6_ok
def awk1_57_0:Ent:=⟨5,[.agg [.sl 1 0 2 (.fix 2),.sl 2 0 2 (.fix 2),.sl 3 0 6 (.fix 6)],.agg [.int .i64 0,.int .i64 1],.agg [.int .i64 5,.int .i64 5,.int .i64 5],.agg [.int .i64 6,.int .i64 6,.int .i64 5]],[(1,.cells .rw [.int .i64 2,.int .i64 1,.int .i64 0,.int .i64 6,.int .i64 0,.int .i64 1,.int .i64 3,.int .i64 6]),(2,.cells .rw [.int .i64 1,.int .i64 1,.int .i64 1,.int .i64 2,.int .i64 0,.int .i64 1]),(3,.cells .rw [.int .i64 5,.int .i64 5,.int .i64 5,.int .i64 6,.int .i64 6,.int .i64 5,.int .i64 8,.int .i64 5,.int .i64 5,.int .i64 5,.int .i64 5,.int .i64 7,.int .i64 6,.int .i64 7,.int .i64 5,.int .i64 5,.int .i64 5,.int .i64 6])],.tup [.int .i64 4,.int .i64 0],86,[(1,.cells .rw [.int .i64 2,.int .i64 1,.int .i64 0,.int .i64 6,.int .i64 0,.int .i64 1,.int .i64 3,.int .i64 6]),(2,.cells .rw [.int .i64 1,.int .i64 1,.int .i64 1,.int .i64 2,.int .i64 0,.int .i64 1]),(3,.cells .rw [.int .i64 5,.int .i64 5,.int .i64 5,.int .i64 6,.int .i64 6,.int .i64 5,.int .i64 8,.int .i64 5,.int .i64 5,.int .i64 5,.int .i64 5,.int .i64 7,.int .i64 6,.int .i64 7,.int .i64 5,.int .i64 5,.int .i64 5,.int .i64 6])]⟩
theorem awk1_57_0_ok:EntOk Tryz.prog tyG 57 awk1_57_0:=ent awkf0_ok (n:=100) (fd:=c57) rfl (by kernel_rfl) (by kernel_rfl)
def awk1_58_1:Ent:=⟨86,[.agg [.sl 1 0 2 (.fix 2),.sl 2 0 2 (.fix 2),.sl 3 0 6 (.fix 6)],.agg [.int .i64 5,.int .i64 5,.int .i64 5],.agg [.int .i64 8,.int .i64 5,.int .i64 5]],[(1,.cells .rw [.int .i64 2,.int .i64 1,.int .i64 0,.int .i64 6,.int .i64 0,.int .i64 1,.int .i64 3,.int .i64 6]),(2,.cells .rw [.int .i64 1,.int .i64 1,.int .i64 1,.int .i64 2,.int .i64 0,.int .i64 1]),(3,.cells .rw [.int .i64 5,.int .i64 5,.int .i64 5,.int .i64 6,.int .i64 6,.int .i64 5,.int .i64 8,.int .i64 5,.int .i64 5,.int .i64 5,.int .i64 5,.int .i64 7,.int .i64 6,.int .i64 7,.int .i64 5,.int .i64 5,.int .i64 5,.int .i64 6])],.tup [.sl 177 0 2 (.slk 0 0),.int .i64 0],192,[(1,.cells .rw [.int .i64 2,.int .i64 1,.int .i64 0,.int .i64 6,.int .i64 0,.int .i64 1,.int .i64 3,.int .i64 6]),(2,.cells .rw [.int .i64 1,.int .i64 1,.int .i64 1,.int .i64 2,.int .i64 0,.int .i64 1]),(3,.cells .rw [.int .i64 5,.int .i64 5,.int .i64 5,.int .i64 6,.int .i64 6,.int .i64 5,.int .i64 8,.int .i64 5,.int .i64 5,.int .i64 5,.int .i64 5,.int .i64 7,.int .i64 6,.int .i64 7,.int .i64 5,.int .i64 5,.int .i64 5,.int .i64 6]),(177,.cells (.gr 2) [.int .i64 0,.int .i64 0,.int .i64 0,.int .i64 1])]⟩
theorem awk1_58_1_ok:EntOk Tryz.prog tyG 58 awk1_58_1:=ent awkf0_ok (n:=100) (fd:=c58) rfl (by kernel_rfl) (by kernel_rfl)
def awk1_59_2:Ent:=⟨192,[.agg [.sl 1 0 2 (.fix 2),.sl 2 0 2 (.fix 2),.sl 3 0 6 (.fix 6)],.agg [.int .i64 5,.int .i64 5,.int .i64 6]],[(1,.cells .rw [.int .i64 2,.int .i64 1,.int .i64 0,.int .i64 6,.int .i64 0,.int .i64 1,.int .i64 3,.int .i64 6]),(2,.cells .rw [.int .i64 1,.int .i64 1,.int .i64 1,.int .i64 2,.int .i64 0,.int .i64 1]),(3,.cells .rw [.int .i64 5,.int .i64 5,.int .i64 5,.int .i64 6,.int .i64 6,.int .i64 5,.int .i64 8,.int .i64 5,.int .i64 5,.int .i64 5,.int .i64 5,.int .i64 7,.int .i64 6,.int .i64 7,.int .i64 5,.int .i64 5,.int .i64 5,.int .i64 6])],.tup [.sl 463 0 5 (.slk 0 0),.int .i64 0],464,[(1,.cells .rw [.int .i64 2,.int .i64 1,.int .i64 0,.int .i64 6,.int .i64 0,.int .i64 1,.int .i64 3,.int .i64 6]),(2,.cells .rw [.int .i64 1,.int .i64 1,.int .i64 1,.int .i64 2,.int .i64 0,.int .i64 1]),(3,.cells .rw [.int .i64 5,.int .i64 5,.int .i64 5,.int .i64 6,.int .i64 6,.int .i64 5,.int .i64 8,.int .i64 5,.int .i64 5,.int .i64 5,.int .i64 5,.int .i64 7,.int .i64 6,.int .i64 7,.int .i64 5,.int .i64 5,.int .i64 5,.int .i64 6]),(463,.cells (.gr 1) [.int .i64 0,.int .i64 1,.int .i64 3,.int .i64 4,.int .i64 5])]⟩
theorem awk1_59_2_ok:EntOk Tryz.prog tyG 59 awk1_59_2:=ent awkf0_ok (n:=100) (fd:=c59) rfl (by kernel_rfl) (by kernel_rfl)
def awk1_60_3:Ent:=⟨464,[.agg [.sl 1 0 2 (.fix 2),.sl 2 0 2 (.fix 2),.sl 3 0 6 (.fix 6)],.agg [.int .i64 5,.int .i64 5,.int .i64 6],.int .i64 0],[(1,.cells .rw [.int .i64 2,.int .i64 1,.int .i64 0,.int .i64 6,.int .i64 0,.int .i64 1,.int .i64 3,.int .i64 6]),(2,.cells .rw [.int .i64 1,.int .i64 1,.int .i64 1,.int .i64 2,.int .i64 0,.int .i64 1]),(3,.cells .rw [.int .i64 5,.int .i64 5,.int .i64 5,.int .i64 6,.int .i64 6,.int .i64 5,.int .i64 8,.int .i64 5,.int .i64 5,.int .i64 5,.int .i64 5,.int .i64 7,.int .i64 6,.int .i64 7,.int .i64 5,.int .i64 5,.int .i64 5,.int .i64 6])],.tup [.agg [.int .i64 4,.int .i64 6],.int .i64 0],1345,[(1,.cells .rw [.int .i64 2,.int .i64 1,.int .i64 0,.int .i64 6,.int .i64 0,.int .i64 1,.int .i64 3,.int .i64 6]),(2,.cells .rw [.int .i64 1,.int .i64 1,.int .i64 1,.int .i64 2,.int .i64 0,.int .i64 1]),(3,.cells .rw [.int .i64 5,.int .i64 5,.int .i64 5,.int .i64 6,.int .i64 6,.int .i64 5,.int .i64 8,.int .i64 5,.int .i64 5,.int .i64 5,.int .i64 5,.int .i64 7,.int .i64 6,.int .i64 7,.int .i64 5,.int .i64 5,.int .i64 5,.int .i64 6])]⟩
theorem awk1_60_3_ok:EntOk Tryz.prog tyG 60 awk1_60_3:=ent awkf0_ok (n:=100) (fd:=c60) rfl (by kernel_rfl) (by kernel_rfl)
def awk1_33_4:Ent:=⟨1348,[.agg [.sl 1 0 2 (.fix 2),.sl 2 0 2 (.fix 2),.sl 3 0 6 (.fix 6)]],[(1,.cells .rw [.int .i64 2,.int .i64 1,.int .i64 0,.int .i64 6,.int .i64 0,.int .i64 1,.int .i64 3,.int .i64 6]),(2,.cells .rw [.int .i64 1,.int .i64 1,.int .i64 1,.int .i64 2,.int .i64 0,.int .i64 1]),(3,.cells .rw [.int .i64 5,.int .i64 5,.int .i64 5,.int .i64 6,.int .i64 6,.int .i64 5,.int .i64 8,.int .i64 5,.int .i64 5,.int .i64 5,.int .i64 5,.int .i64 7,.int .i64 6,.int .i64 7,.int .i64 5,.int .i64 5,.int .i64 5,.int .i64 6])],.tup [.sl 1748 0 2 (.slk 0 0),.int .i64 0],2344,[(1,.cells .rw [.int .i64 2,.int .i64 1,.int .i64 0,.int .i64 6,.int .i64 0,.int .i64 1,.int .i64 3,.int .i64 6]),(2,.cells .rw [.int .i64 1,.int .i64 1,.int .i64 1,.int .i64 2,.int .i64 0,.int .i64 1]),(3,.cells .rw [.int .i64 5,.int .i64 5,.int .i64 5,.int .i64 6,.int .i64 6,.int .i64 5,.int .i64 8,.int .i64 5,.int .i64 5,.int .i64 5,.int .i64 5,.int .i64 7,.int .i64 6,.int .i64 7,.int .i64 5,.int .i64 5,.int .i64 5,.int .i64 6]),(1748,.cells (.gr 1) [.int .i64 0,.int .i64 1])]⟩
theorem awk1_33_4_ok:EntOk Tryz.prog tyG 33 awk1_33_4:=ent awkf0_ok (n:=100) (fd:=c33) rfl (by kernel_rfl) (by kernel_rfl)
def awk1_21_5:Ent:=⟨2344,[.agg [.sl 1 0 2 (.fix 2),.sl 2 0 2 (.fix 2),.sl 3 0 6 (.fix 6)]],[(1,.cells .rw [.int .i64 2,.int .i64 1,.int .i64 0,.int .i64 6,.int .i64 0,.int .i64 1,.int .i64 3,.int .i64 6]),(2,.cells .rw [.int .i64 1,.int .i64 1,.int .i64 1,.int .i64 2,.int .i64 0,.int .i64 1]),(3,.cells .rw [.int .i64 5,.int .i64 5,.int .i64 5,.int .i64 6,.int .i64 6,.int .i64 5,.int .i64 8,.int .i64 5,.int .i64 5,.int .i64 5,.int .i64 5,.int .i64 7,.int .i64 6,.int .i64 7,.int .i64 5,.int .i64 5,.int .i64 5,.int .i64 6])],.tup [.sl 5067 0 3 (.slk 0 0),.int .i64 0],5330,[(1,.cells .rw [.int .i64 2,.int .i64 1,.int .i64 0,.int .i64 6,.int .i64 0,.int .i64 1,.int .i64 3,.int .i64 6]),(2,.cells .rw [.int .i64 1,.int .i64 1,.int .i64 1,.int .i64 2,.int .i64 0,.int .i64 1]),(3,.cells .rw [.int .i64 5,.int .i64 5,.int .i64 5,.int .i64 6,.int .i64 6,.int .i64 5,.int .i64 8,.int .i64 5,.int .i64 5,.int .i64 5,.int .i64 5,.int .i64 7,.int .i64 6,.int .i64 7,.int .i64 5,.int .i64 5,.int .i64 5,.int .i64 6]),(5067,.cells (.gr 1) [.int .i64 0,.int .i64 2,.int .i64 3])]⟩
theorem awk1_21_5_ok:EntOk Tryz.prog tyG 21 awk1_21_5:=ent awkf0_ok (n:=100) (fd:=c21) rfl (by kernel_rfl) (by kernel_rfl)
def awk1_62_6:Ent:=⟨5330,[.agg [.sl 1 0 2 (.fix 2),.sl 2 0 2 (.fix 2),.sl 3 0 6 (.fix 6)],.int .i64 0,.int .i64 3],[(1,.cells .rw [.int .i64 2,.int .i64 1,.int .i64 0,.int .i64 6,.int .i64 0,.int .i64 1,.int .i64 3,.int .i64 6]),(2,.cells .rw [.int .i64 1,.int .i64 1,.int .i64 1,.int .i64 2,.int .i64 0,.int .i64 1]),(3,.cells .rw [.int .i64 5,.int .i64 5,.int .i64 5,.int .i64 6,.int .i64 6,.int .i64 5,.int .i64 8,.int .i64 5,.int .i64 5,.int .i64 5,.int .i64 5,.int .i64 7,.int .i64 6,.int .i64 7,.int .i64 5,.int .i64 5,.int .i64 5,.int .i64 6])],.tup [.sl 5955 0 3 (.slk 0 0),.int .i64 0],5956,[(1,.cells .rw [.int .i64 2,.int .i64 1,.int .i64 0,.int .i64 6,.int .i64 0,.int .i64 1,.int .i64 3,.int .i64 6]),(2,.cells .rw [.int .i64 1,.int .i64 1,.int .i64 1,.int .i64 2,.int .i64 0,.int .i64 1]),(3,.cells .rw [.int .i64 5,.int .i64 5,.int .i64 5,.int .i64 6,.int .i64 6,.int .i64 5,.int .i64 8,.int .i64 5,.int .i64 5,.int .i64 5,.int .i64 5,.int .i64 7,.int .i64 6,.int .i64 7,.int .i64 5,.int .i64 5,.int .i64 5,.int .i64 6]),(5955,.cells (.gr 1) [.int .i64 0,.int .i64 5,.int .i64 3])]⟩
theorem awk1_62_6_ok:EntOk Tryz.prog tyG 62 awk1_62_6:=ent awkf0_ok (n:=100) (fd:=c62) rfl (by kernel_rfl) (by kernel_rfl)
def awk1_19_7:Ent:=⟨5956,[.agg [.sl 1 0 2 (.fix 2),.sl 2 0 2 (.fix 2),.sl 3 0 6 (.fix 6)]],[(1,.cells .rw [.int .i64 2,.int .i64 1,.int .i64 0,.int .i64 6,.int .i64 0,.int .i64 1,.int .i64 3,.int .i64 6]),(2,.cells .rw [.int .i64 1,.int .i64 1,.int .i64 1,.int .i64 2,.int .i64 0,.int .i64 1]),(3,.cells .rw [.int .i64 5,.int .i64 5,.int .i64 5,.int .i64 6,.int .i64 6,.int .i64 5,.int .i64 8,.int .i64 5,.int .i64 5,.int .i64 5,.int .i64 5,.int .i64 7,.int .i64 6,.int .i64 7,.int .i64 5,.int .i64 5,.int .i64 5,.int .i64 6])],.tup [.sl 6565 0 3 (.slk 0 0),.int .i64 0],6760,[(1,.cells .rw [.int .i64 2,.int .i64 1,.int .i64 0,.int .i64 6,.int .i64 0,.int .i64 1,.int .i64 3,.int .i64 6]),(2,.cells .rw [.int .i64 1,.int .i64 1,.int .i64 1,.int .i64 2,.int .i64 0,.int .i64 1]),(3,.cells .rw [.int .i64 5,.int .i64 5,.int .i64 5,.int .i64 6,.int .i64 6,.int .i64 5,.int .i64 8,.int .i64 5,.int .i64 5,.int .i64 5,.int .i64 5,.int .i64 7,.int .i64 6,.int .i64 7,.int .i64 5,.int .i64 5,.int .i64 5,.int .i64 6]),(6471,.cells .rw [.int .i64 2]),(6563,.cells .rw [.int .i64 3]),(6565,.cells (.gr 1) [.sl 6758 0 4 (.slk 0 0),.sl 6471 0 1 (.fix 1),.sl 6563 0 1 (.fix 1)]),(6758,.cells (.gr 1) [.int .i64 0,.int .i64 1,.int .i64 4,.int .i64 5])]⟩
theorem awk1_19_7_ok:EntOk Tryz.prog tyG 19 awk1_19_7:=ent awkf0_ok (n:=100) (fd:=c19) rfl (by kernel_rfl) (by kernel_rfl)
def awk1_63_8:Ent:=⟨6760,[.agg [.sl 1 0 2 (.fix 2),.sl 2 0 2 (.fix 2),.sl 3 0 6 (.fix 6)]],[(1,.cells .rw [.int .i64 2,.int .i64 1,.int .i64 0,.int .i64 6,.int .i64 0,.int .i64 1,.int .i64 3,.int .i64 6]),(2,.cells .rw [.int .i64 1,.int .i64 1,.int .i64 1,.int .i64 2,.int .i64 0,.int .i64 1]),(3,.cells .rw [.int .i64 5,.int .i64 5,.int .i64 5,.int .i64 6,.int .i64 6,.int .i64 5,.int .i64 8,.int .i64 5,.int .i64 5,.int .i64 5,.int .i64 5,.int .i64 7,.int .i64 6,.int .i64 7,.int .i64 5,.int .i64 5,.int .i64 5,.int .i64 6])],.tup [.sl 7532 0 2 (.slk 0 0),.int .i64 0],7536,[(1,.cells .rw [.int .i64 2,.int .i64 1,.int .i64 0,.int .i64 6,.int .i64 0,.int .i64 1,.int .i64 3,.int .i64 6]),(2,.cells .rw [.int .i64 1,.int .i64 1,.int .i64 1,.int .i64 2,.int .i64 0,.int .i64 1]),(3,.cells .rw [.int .i64 5,.int .i64 5,.int .i64 5,.int .i64 6,.int .i64 6,.int .i64 5,.int .i64 8,.int .i64 5,.int .i64 5,.int .i64 5,.int .i64 5,.int .i64 7,.int .i64 6,.int .i64 7,.int .i64 5,.int .i64 5,.int .i64 5,.int .i64 6]),(7315,.cells (.gr 1) [.int .i64 0,.int .i64 1,.int .i64 3,.int .i64 4,.int .i64 5]),(7530,.cells (.gr 1) [.int .i64 2]),(7532,.cells (.gr 1) [.sl 7315 0 5 (.slk 0 0),.sl 7530 0 1 (.slk 0 0)])]⟩
theorem awk1_63_8_ok:EntOk Tryz.prog tyG 63 awk1_63_8:=ent awkf0_ok (n:=100) (fd:=c63) rfl (by kernel_rfl) (by kernel_rfl)
def awkf1T:List (Nat × List Ent):=[(57,[awk1_57_0]),(58,[awk1_58_1]),(59,[awk1_59_2]),(60,[awk1_60_3]),(33,[awk1_33_4]),(21,[awk1_21_5]),(62,[awk1_62_6]),(19,[awk1_19_7]),(63,[awk1_63_8])]
def awkf1 (f:Nat):Option (List V→H→Option (V × H)):=lookF f awkf1T
theorem awkf1_ok:FastOk Tryz.prog tyG awkf1:=by
 refine lookF_ok (l:=awkf1T) fun q hq=>?_
 simp only[awkf1T,List.mem_cons,List.not_mem_nil,or_false] at hq
 rcases hq with rfl|rfl|rfl|rfl|rfl|rfl|rfl|rfl|rfl
 ·refine⟨callable (fd:=c57) rfl,fun e he=>?_⟩
  simp only[List.mem_cons,List.not_mem_nil,or_false] at he
  rcases he with rfl
  ·exact awk1_57_0_ok
 ·refine⟨callable (fd:=c58) rfl,fun e he=>?_⟩
  simp only[List.mem_cons,List.not_mem_nil,or_false] at he
  rcases he with rfl
  ·exact awk1_58_1_ok
 ·refine⟨callable (fd:=c59) rfl,fun e he=>?_⟩
  simp only[List.mem_cons,List.not_mem_nil,or_false] at he
  rcases he with rfl
  ·exact awk1_59_2_ok
 ·refine⟨callable (fd:=c60) rfl,fun e he=>?_⟩
  simp only[List.mem_cons,List.not_mem_nil,or_false] at he
  rcases he with rfl
  ·exact awk1_60_3_ok
 ·refine⟨callable (fd:=c33) rfl,fun e he=>?_⟩
  simp only[List.mem_cons,List.not_mem_nil,or_false] at he
  rcases he with rfl
  ·exact awk1_33_4_ok
 ·refine⟨callable (fd:=c21) rfl,fun e he=>?_⟩
  simp only[List.mem_cons,List.not_mem_nil,or_false] at he
  rcases he with rfl
  ·exact awk1_21_5_ok
 ·refine⟨callable (fd:=c62) rfl,fun e he=>?_⟩
  simp only[List.mem_cons,List.not_mem_nil,or_false] at he
  rcases he with rfl
  ·exact awk1_62_6_ok
 ·refine⟨callable (fd:=c19) rfl,fun e he=>?_⟩
  simp only[List.mem_cons,List.not_mem_nil,or_false] at he
  rcases he with rfl
  ·exact awk1_19_7_ok
 ·refine⟨callable (fd:=c63) rfl,fun e he=>?_⟩
  simp only[List.mem_cons,List.not_mem_nil,or_false] at he
  rcases he with rfl
  ·exact awk1_63_8_ok
def awkE:Ent:=⟨0,[],[],.bool true,7542,[]⟩
theorem awk_ok:EntOk Tryz.prog tyG 9 awkE:=ent awkf1_ok (n:=100) (fd:=c9) rfl (by kernel_rfl) (by kernel_rfl)
end
end Go.Ab.Tryz
