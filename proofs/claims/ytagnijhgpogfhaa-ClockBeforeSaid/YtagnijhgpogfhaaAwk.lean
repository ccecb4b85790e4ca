/- Calls, run by the kernel by calls that were run before (printed by a program of ours). -/
import Derived.Test.YtagnijhgpogfhaaAwk0
import Derived.Test.YtagnijhgpogfhaaAwk1
import Derived.Test.YtagnijhgpogfhaaAwk2
import Derived.Test.YtagnijhgpogfhaaAwk3
set_option linter.unusedSimpArgs false
set_option linter.unusedVariables false
namespace Go.Ab.Try
open Go.Proofs
noncomputable section
def awkf0T:List (Nat × List Ent):=[(19,[awk_19_0]),(14,[awk_14_1]),(25,[awk_25_2]),(15,[awk_15_3]),(10,[awk_10_4]),(27,[awk_27_5]),(28,[awk_28_6])]
def awkf0 (f:Nat):Option (List V→H→Option (V × H)):=lookF f awkf0T
theorem awkf0_ok:FastOk Try.prog tyG awkf0:=by
 refine lookF_ok (l:=awkf0T) fun q hq=>?_
 simp only[awkf0T,List.mem_cons,List.not_mem_nil,or_false] at hq
 rcases hq with rfl|rfl|rfl|rfl|rfl|rfl|rfl
 ·refine⟨callable (fd:=c19) rfl,fun e he=>?_⟩
  simp only[List.mem_cons,List.not_mem_nil,or_false] at he
  rcases he with rfl
  ·exact awk_19_0_ok
 ·refine⟨callable (fd:=c14) rfl,fun e he=>?_⟩
  simp only[List.mem_cons,List.not_mem_nil,or_false] at he
  rcases he with rfl
  ·exact awk_14_1_ok
 ·refine⟨callable (fd:=c25) rfl,fun e he=>?_⟩
  simp only[List.mem_cons,List.not_mem_nil,or_false] at he
  rcases he with rfl
  ·exact awk_25_2_ok
 ·refine⟨callable (fd:=c15) rfl,fun e he=>?_⟩
  simp only[List.mem_cons,List.not_mem_nil,or_false] at he
  rcases he with rfl
  ·exact awk_15_3_ok
 ·refine⟨callable (fd:=c10) rfl,fun e he=>?_⟩
  simp only[List.mem_cons,List.not_mem_nil,or_false] at he
  rcases he with rfl
  ·exact awk_10_4_ok
 ·refine⟨callable (fd:=c27) rfl,fun e he=>?_⟩
  simp only[List.mem_cons,List.not_mem_nil,or_false] at he
  rcases he with rfl
  ·exact awk_27_5_ok
 ·refine⟨callable (fd:=c28) rfl,fun e he=>?_⟩
  simp only[List.mem_cons,List.not_mem_nil,or_false] at he
  rcases he with rfl
  ·exact awk_28_6_ok
def awk1_9_0:Ent:=⟨2248,[.int .i64 0,.int .i64 (-6),.int .i64 31],[],.tup [.int .i64 27,.int .i64 0],2251,[]⟩
theorem awk1_9_0_ok:EntOk Try.prog tyG 9 awk1_9_0:=ent awkf0_ok (n:=100) (fd:=c9) rfl (by kernel_rfl) (by kernel_rfl)
def awkf1T:List (Nat × List Ent):=[(9,[awk1_9_0]),(19,[awk_19_0]),(14,[awk_14_1]),(25,[awk_25_2]),(15,[awk_15_3]),(10,[awk_10_4]),(27,[awk_27_5]),(28,[awk_28_6])]
def awkf1 (f:Nat):Option (List V→H→Option (V × H)):=lookF f awkf1T
theorem awkf1_ok:FastOk Try.prog tyG awkf1:=by
 refine lookF_ok (l:=awkf1T) fun q hq=>?_
 simp only[awkf1T,List.mem_cons,List.not_mem_nil,or_false] at hq
 rcases hq with rfl|rfl|rfl|rfl|rfl|rfl|rfl|rfl
 ·refine⟨callable (fd:=c9) rfl,fun e he=>?_⟩
  simp only[List.mem_cons,List.not_mem_nil,or_false] at he
  rcases he with rfl
  ·exact awk1_9_0_ok
 ·refine⟨callable (fd:=c19) rfl,fun e he=>?_⟩
  simp only[List.mem_cons,List.not_mem_nil,or_false] at he
  rcases he with rfl
  ·exact awk_19_0_ok
 ·refine⟨callable (fd:=c14) rfl,fun e he=>?_⟩
  simp only[List.mem_cons,List.not_mem_nil,or_false] at he
  rcases he with rfl
  ·exact awk_14_1_ok
 ·refine⟨callable (fd:=c25) rfl,fun e he=>?_⟩
  simp only[List.mem_cons,List.not_mem_nil,or_false] at he
  rcases he with rfl
  ·exact awk_25_2_ok
 ·refine⟨callable (fd:=c15) rfl,fun e he=>?_⟩
  simp only[List.mem_cons,List.not_mem_nil,or_false] at he
  rcases he with rfl
  ·exact awk_15_3_ok
 ·refine⟨callable (fd:=c10) rfl,fun e he=>?_⟩
  simp only[List.mem_cons,List.not_mem_nil,or_false] at he
  rcases he with rfl
  ·exact awk_10_4_ok
 ·refine⟨callable (fd:=c27) rfl,fun e he=>?_⟩
  simp only[List.mem_cons,List.not_mem_nil,or_false] at he
  rcases he with rfl
  ·exact awk_27_5_ok
 ·refine⟨callable (fd:=c28) rfl,fun e he=>?_⟩
  simp only[List.mem_cons,List.not_mem_nil,or_false] at he
  rcases he with rfl
  ·exact awk_28_6_ok
def awkE:Ent:=⟨0,[],[],.bool true,5131,[]⟩
theorem awk_ok:EntOk Try.prog tyG 11 awkE:=ent awkf1_ok (n:=100) (fd:=c11) rfl (by kernel_rfl) (by kernel_rfl)
end
end Go.Ab.Try
