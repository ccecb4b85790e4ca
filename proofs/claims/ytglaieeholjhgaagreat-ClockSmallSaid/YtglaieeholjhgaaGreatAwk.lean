import Derived.Test.YtglaieeholjhgaaGreatGB
set_option linter.unusedSimpArgs false
set_option linter.unusedVariables false
namespace Go.Ab.Tryz
open Go.Proofs
noncomputable section
def awkf0T:List (Nat × List Ent):=[(36,[awk_36_0]),(38,[awk_38_1]),(39,[awk_39_2]),(40,[awk_40_3]),(19,[awk_19_4]),(42,[awk_42_5]),(43,[awk_43_6])]
def awkf0 (f:Nat):Option (List V→H→Option (V × H)):=lookF f awkf0T
theorem awkf0_ok:Ve Tryz.prog tyG awkf0:=by
 refine lookF_ok (l:=awkf0T) fun q hq=>?_
 simp only[awkf0T,List.mem_cons,List.not_mem_nil,or_false] at hq
 rcases hq with rfl|rfl|rfl|rfl|rfl|rfl|rfl
 ·refine⟨Ya (fd:=c36) rfl,fun e he=>?_⟩
  simp only[List.mem_cons,List.not_mem_nil,or_false] at he
  rcases he with rfl
  ·exact awk_36_0_ok
 ·refine⟨Ya (fd:=c38) rfl,fun e he=>?_⟩
  simp only[List.mem_cons,List.not_mem_nil,or_false] at he
  rcases he with rfl
  ·exact awk_38_1_ok
 ·refine⟨Ya (fd:=c39) rfl,fun e he=>?_⟩
  simp only[List.mem_cons,List.not_mem_nil,or_false] at he
  rcases he with rfl
  ·exact awk_39_2_ok
 ·refine⟨Ya (fd:=c40) rfl,fun e he=>?_⟩
  simp only[List.mem_cons,List.not_mem_nil,or_false] at he
  rcases he with rfl
  ·exact awk_40_3_ok
 ·refine⟨Ya (fd:=c19) rfl,fun e he=>?_⟩
  simp only[List.mem_cons,List.not_mem_nil,or_false] at he
  rcases he with rfl
  ·exact awk_19_4_ok
 ·refine⟨Ya (fd:=c42) rfl,fun e he=>?_⟩
  simp only[List.mem_cons,List.not_mem_nil,or_false] at he
  rcases he with rfl
  ·exact awk_42_5_ok
 ·refine⟨Ya (fd:=c43) rfl,fun e he=>?_⟩
  simp only[List.mem_cons,List.not_mem_nil,or_false] at he
  rcases he with rfl
  ·exact awk_43_6_ok
def awk1_18_0:Ent:=⟨2248,[.int .i64 0,.int .i64 (-6),.int .i64 31],[],.tup [.int .i64 27,.int .i64 0],2251,[]⟩
theorem awk1_18_0_ok:EntOk Tryz.prog tyG 18 awk1_18_0:=ent awkf0_ok (n:=100) (fd:=c18) rfl (by kernel_rfl) (by kernel_rfl)
def awkf1T:List (Nat × List Ent):=[(18,[awk1_18_0]),(36,[awk_36_0]),(38,[awk_38_1]),(39,[awk_39_2]),(40,[awk_40_3]),(19,[awk_19_4]),(42,[awk_42_5]),(43,[awk_43_6])]
def awkf1 (f:Nat):Option (List V→H→Option (V × H)):=lookF f awkf1T
theorem awkf1_ok:Ve Tryz.prog tyG awkf1:=by
 refine lookF_ok (l:=awkf1T) fun q hq=>?_
 simp only[awkf1T,List.mem_cons,List.not_mem_nil,or_false] at hq
 rcases hq with rfl|rfl|rfl|rfl|rfl|rfl|rfl|rfl
 ·refine⟨Ya (fd:=c18) rfl,fun e he=>?_⟩
  simp only[List.mem_cons,List.not_mem_nil,or_false] at he
  rcases he with rfl
  ·exact awk1_18_0_ok
 ·refine⟨Ya (fd:=c36) rfl,fun e he=>?_⟩
  simp only[List.mem_cons,List.not_mem_nil,or_false] at he
  rcases he with rfl
  ·exact awk_36_0_ok
 ·refine⟨Ya (fd:=c38) rfl,fun e he=>?_⟩
  simp only[List.mem_cons,List.not_mem_nil,or_false] at he
  rcases he with rfl
  ·exact awk_38_1_ok
 ·refine⟨Ya (fd:=c39) rfl,fun e he=>?_⟩
  simp only[List.mem_cons,List.not_mem_nil,or_false] at he
  rcases he with rfl
  ·exact awk_39_2_ok
 ·refine⟨Ya (fd:=c40) rfl,fun e he=>?_⟩
  simp only[List.mem_cons,List.not_mem_nil,or_false] at he
  rcases he with rfl
  ·exact awk_40_3_ok
 ·refine⟨Ya (fd:=c19) rfl,fun e he=>?_⟩
  simp only[List.mem_cons,List.not_mem_nil,or_false] at he
  rcases he with rfl
  ·exact awk_19_4_ok
 ·refine⟨Ya (fd:=c42) rfl,fun e he=>?_⟩
  simp only[List.mem_cons,List.not_mem_nil,or_false] at he
  rcases he with rfl
  ·exact awk_42_5_ok
 ·refine⟨Ya (fd:=c43) rfl,fun e he=>?_⟩
  simp only[List.mem_cons,List.not_mem_nil,or_false] at he
  rcases he with rfl
  ·exact awk_43_6_ok
def awkE:Ent:=⟨0,[],[],.bool true,5131,[]⟩
theorem awk_ok:EntOk Tryz.prog tyG 9 awkE:=ent awkf1_ok (n:=100) (fd:=c9) rfl (by kernel_rfl) (by kernel_rfl)
end
end Go.Ab.Tryz
