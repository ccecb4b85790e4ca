/- Calls, run by the kernel by calls that were run before (printed by a program of ours). -/
import Derived.Test.YtiphdfiihgbomacGreatAwk0
set_option linter.unusedSimpArgs false
set_option linter.unusedVariables false
namespace Go.Ab.Tryz
open Go.Proofs
noncomputable section
def awkf0T:List (Nat × List Ent):=[(30,[awk_30_0])]
def awkf0 (f:Nat):Option (List V→H→Option (V × H)):=lookF f awkf0T
theorem awkf0_ok:FastOk Tryz.prog tyG awkf0:=by
 refine lookF_ok (l:=awkf0T) fun q hq=>?_
 simp only[awkf0T,List.mem_cons,List.not_mem_nil,or_false] at hq
 rcases hq with rfl
 ·refine⟨callable (fd:=c30) rfl,fun e he=>?_⟩
  simp only[List.mem_cons,List.not_mem_nil,or_false] at he
  rcases he with rfl
  ·exact awk_30_0_ok
def awkf1T:List (Nat × List Ent):=[(30,[awk_30_0])]
def awkf1 (f:Nat):Option (List V→H→Option (V × H)):=lookF f awkf1T
theorem awkf1_ok:FastOk Tryz.prog tyG awkf1:=by
 refine lookF_ok (l:=awkf1T) fun q hq=>?_
 simp only[awkf1T,List.mem_cons,List.not_mem_nil,or_false] at hq
 rcases hq with rfl
 ·refine⟨callable (fd:=c30) rfl,fun e he=>?_⟩
  simp only[List.mem_cons,List.not_mem_nil,or_false] at he
  rcases he with rfl
  ·exact awk_30_0_ok
def awkE:Ent:=⟨0,[],[],.bool true,614,[]⟩
theorem awk_ok:EntOk Tryz.prog tyG 12 awkE:=ent awkf1_ok (n:=100) (fd:=c12) rfl (by kernel_rfl) (by kernel_rfl)
end
end Go.Ab.Tryz
