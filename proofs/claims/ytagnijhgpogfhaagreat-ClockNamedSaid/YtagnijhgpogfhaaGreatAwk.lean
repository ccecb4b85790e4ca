/- Calls, run by the kernel by calls that were run before (printed by a program of ours). -/
import Derived.Test.YtagnijhgpogfhaaGreatAwk0
import Derived.Test.YtagnijhgpogfhaaGreatAwk1
import Derived.Test.YtagnijhgpogfhaaGreatAwk2
import Derived.Test.YtagnijhgpogfhaaGreatAwk3
set_option linter.unusedSimpArgs false
set_option linter.unusedVariables false
namespace Go.Ab.Tryz
open Go.Proofs
noncomputable section
def awkf0T:List (Nat × List Ent):=[(18,[awk_18_0]),(32,[awk_32_1]),(19,[awk_19_2]),(34,[awk_34_3]),(90,[awk_90_4]),(44,[awk_44_5]),(21,[awk_21_6])]
def awkf0 (f:Nat):Option (List V→H→Option (V × H)):=lookF f awkf0T
theorem awkf0_ok:FastOk Tryz.prog tyG awkf0:=by
 refine lookF_ok (l:=awkf0T) fun q hq=>?_
 simp only[awkf0T,List.mem_cons,List.not_mem_nil,or_false] at hq
 rcases hq with rfl|rfl|rfl|rfl|rfl|rfl|rfl
 ·refine⟨callable (fd:=c18) rfl,fun e he=>?_⟩
  simp only[List.mem_cons,List.not_mem_nil,or_false] at he
  rcases he with rfl
  ·exact awk_18_0_ok
 ·refine⟨callable (fd:=c32) rfl,fun e he=>?_⟩
  simp only[List.mem_cons,List.not_mem_nil,or_false] at he
  rcases he with rfl
  ·exact awk_32_1_ok
 ·refine⟨callable (fd:=c19) rfl,fun e he=>?_⟩
  simp only[List.mem_cons,List.not_mem_nil,or_false] at he
  rcases he with rfl
  ·exact awk_19_2_ok
 ·refine⟨callable (fd:=c34) rfl,fun e he=>?_⟩
  simp only[List.mem_cons,List.not_mem_nil,or_false] at he
  rcases he with rfl
  ·exact awk_34_3_ok
 ·refine⟨callable (fd:=c90) rfl,fun e he=>?_⟩
  simp only[List.mem_cons,List.not_mem_nil,or_false] at he
  rcases he with rfl
  ·exact awk_90_4_ok
 ·refine⟨callable (fd:=c44) rfl,fun e he=>?_⟩
  simp only[List.mem_cons,List.not_mem_nil,or_false] at he
  rcases he with rfl
  ·exact awk_44_5_ok
 ·refine⟨callable (fd:=c21) rfl,fun e he=>?_⟩
  simp only[List.mem_cons,List.not_mem_nil,or_false] at he
  rcases he with rfl
  ·exact awk_21_6_ok
def awk1_89_0:Ent:=⟨2248,[.int .i64 0,.int .i64 (-6),.int .i64 31],[],.tup [.int .i64 27,.int .i64 0],2251,[]⟩
theorem awk1_89_0_ok:EntOk Tryz.prog tyG 89 awk1_89_0:=ent awkf0_ok (n:=100) (fd:=c89) rfl (by kernel_rfl) (by kernel_rfl)
def awkf1T:List (Nat × List Ent):=[(89,[awk1_89_0]),(18,[awk_18_0]),(32,[awk_32_1]),(19,[awk_19_2]),(34,[awk_34_3]),(90,[awk_90_4]),(44,[awk_44_5]),(21,[awk_21_6])]
def awkf1 (f:Nat):Option (List V→H→Option (V × H)):=lookF f awkf1T
theorem awkf1_ok:FastOk Tryz.prog tyG awkf1:=by
 refine lookF_ok (l:=awkf1T) fun q hq=>?_
 simp only[awkf1T,List.mem_cons,List.not_mem_nil,or_false] at hq
 rcases hq with rfl|rfl|rfl|rfl|rfl|rfl|rfl|rfl
 ·refine⟨callable (fd:=c89) rfl,fun e he=>?_⟩
  simp only[List.mem_cons,List.not_mem_nil,or_false] at he
  rcases he with rfl
  ·exact awk1_89_0_ok
 ·refine⟨callable (fd:=c18) rfl,fun e he=>?_⟩
  simp only[List.mem_cons,List.not_mem_nil,or_false] at he
  rcases he with rfl
  ·exact awk_18_0_ok
 ·refine⟨callable (fd:=c32) rfl,fun e he=>?_⟩
  simp only[List.mem_cons,List.not_mem_nil,or_false] at he
  rcases he with rfl
  ·exact awk_32_1_ok
 ·refine⟨callable (fd:=c19) rfl,fun e he=>?_⟩
  simp only[List.mem_cons,List.not_mem_nil,or_false] at he
  rcases he with rfl
  ·exact awk_19_2_ok
 ·refine⟨callable (fd:=c34) rfl,fun e he=>?_⟩
  simp only[List.mem_cons,List.not_mem_nil,or_false] at he
  rcases he with rfl
  ·exact awk_34_3_ok
 ·refine⟨callable (fd:=c90) rfl,fun e he=>?_⟩
  simp only[List.mem_cons,List.not_mem_nil,or_false] at he
  rcases he with rfl
  ·exact awk_90_4_ok
 ·refine⟨callable (fd:=c44) rfl,fun e he=>?_⟩
  simp only[List.mem_cons,List.not_mem_nil,or_false] at he
  rcases he with rfl
  ·exact awk_44_5_ok
 ·refine⟨callable (fd:=c21) rfl,fun e he=>?_⟩
  simp only[List.mem_cons,List.not_mem_nil,or_false] at he
  rcases he with rfl
  ·exact awk_21_6_ok
def awkE:Ent:=⟨0,[],[],.bool true,5131,[]⟩
theorem awk_ok:EntOk Tryz.prog tyG 22 awkE:=ent awkf1_ok (n:=100) (fd:=c22) rfl (by kernel_rfl) (by kernel_rfl)
end
end Go.Ab.Tryz
