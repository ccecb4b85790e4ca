/- Calls, run by the kernel by calls that were run before (printed by a program of ours). -/
import Derived.Test.YtkjbamlcgojkmaaGB
set_option linter.unusedSimpArgs false
set_option linter.unusedVariables false
namespace Go.Ab.Try
open Go.Proofs
noncomputable section
def awkf0T : List (Nat × List Ent) := [(102, [awk_102_0, awk_102_1, awk_102_2, awk_102_3, awk_102_4, awk_102_5, awk_102_6])]
def awkf0 (f : Nat) : Option (List V → H → Option (V × H)) := lookF f awkf0T
theorem awkf0_ok : FastOk Try.prog tyG awkf0 := by
  refine lookF_ok (l := awkf0T) fun q hq => ?_
  simp only [awkf0T, List.mem_cons, List.not_mem_nil, or_false] at hq
  rcases hq with rfl
  · refine ⟨callable (fd := c102) rfl, fun e he => ?_⟩
    simp only [List.mem_cons, List.not_mem_nil, or_false] at he
    rcases he with rfl | rfl | rfl | rfl | rfl | rfl | rfl
    · exact awk_102_0_ok
    · exact awk_102_1_ok
    · exact awk_102_2_ok
    · exact awk_102_3_ok
    · exact awk_102_4_ok
    · exact awk_102_5_ok
    · exact awk_102_6_ok
def awk1_35_0 : Ent := ⟨5, [.agg [.sl 1 0 2 (.fix 2), .sl 2 0 2 (.fix 2), .sl 3 0 6 (.fix 6)], .agg [.int .i64 0, .int .i64 1], .agg [.int .i64 5, .int .i64 5, .int .i64 5], .agg [.int .i64 6, .int .i64 6, .int .i64 5]], [(1, .cells .rw [.int .i64 2, .int .i64 1, .int .i64 0, .int .i64 6, .int .i64 0, .int .i64 1, .int .i64 3, .int .i64 6]), (2, .cells .rw [.int .i64 1, .int .i64 1, .int .i64 1, .int .i64 2, .int .i64 0, .int .i64 1]), (3, .cells .rw [.int .i64 5, .int .i64 5, .int .i64 5, .int .i64 6, .int .i64 6, .int .i64 5, .int .i64 8, .int .i64 5, .int .i64 5, .int .i64 5, .int .i64 5, .int .i64 7, .int .i64 6, .int .i64 7, .int .i64 5, .int .i64 5, .int .i64 5, .int .i64 6])], .tup [.int .i64 4, .int .i64 0], 86, [(1, .cells .rw [.int .i64 2, .int .i64 1, .int .i64 0, .int .i64 6, .int .i64 0, .int .i64 1, .int .i64 3, .int .i64 6]), (2, .cells .rw [.int .i64 1, .int .i64 1, .int .i64 1, .int .i64 2, .int .i64 0, .int .i64 1]), (3, .cells .rw [.int .i64 5, .int .i64 5, .int .i64 5, .int .i64 6, .int .i64 6, .int .i64 5, .int .i64 8, .int .i64 5, .int .i64 5, .int .i64 5, .int .i64 5, .int .i64 7, .int .i64 6, .int .i64 7, .int .i64 5, .int .i64 5, .int .i64 5, .int .i64 6])]⟩
theorem awk1_35_0_ok : EntOk Try.prog tyG 35 awk1_35_0 := ent awkf0_ok (n := 100) (fd := c35) rfl (by kernel_rfl) (by kernel_rfl)
def awk1_31_1 : Ent := ⟨86, [.agg [.sl 1 0 2 (.fix 2), .sl 2 0 2 (.fix 2), .sl 3 0 6 (.fix 6)], .agg [.int .i64 5, .int .i64 5, .int .i64 5], .agg [.int .i64 8, .int .i64 5, .int .i64 5]], [(1, .cells .rw [.int .i64 2, .int .i64 1, .int .i64 0, .int .i64 6, .int .i64 0, .int .i64 1, .int .i64 3, .int .i64 6]), (2, .cells .rw [.int .i64 1, .int .i64 1, .int .i64 1, .int .i64 2, .int .i64 0, .int .i64 1]), (3, .cells .rw [.int .i64 5, .int .i64 5, .int .i64 5, .int .i64 6, .int .i64 6, .int .i64 5, .int .i64 8, .int .i64 5, .int .i64 5, .int .i64 5, .int .i64 5, .int .i64 7, .int .i64 6, .int .i64 7, .int .i64 5, .int .i64 5, .int .i64 5, .int .i64 6])], .tup [.sl 177 0 2 (.slk 0 0), .int .i64 0], 192, [(1, .cells .rw [.int .i64 2, .int .i64 1, .int .i64 0, .int .i64 6, .int .i64 0, .int .i64 1, .int .i64 3, .int .i64 6]), (2, .cells .rw [.int .i64 1, .int .i64 1, .int .i64 1, .int .i64 2, .int .i64 0, .int .i64 1]), (3, .cells .rw [.int .i64 5, .int .i64 5, .int .i64 5, .int .i64 6, .int .i64 6, .int .i64 5, .int .i64 8, .int .i64 5, .int .i64 5, .int .i64 5, .int .i64 5, .int .i64 7, .int .i64 6, .int .i64 7, .int .i64 5, .int .i64 5, .int .i64 5, .int .i64 6]), (177, .cells (.gr 2) [.int .i64 0, .int .i64 0, .int .i64 0, .int .i64 1])]⟩
theorem awk1_31_1_ok : EntOk Try.prog tyG 31 awk1_31_1 := ent awkf0_ok (n := 100) (fd := c31) rfl (by kernel_rfl) (by kernel_rfl)
def awk1_45_2 : Ent := ⟨192, [.agg [.sl 1 0 2 (.fix 2), .sl 2 0 2 (.fix 2), .sl 3 0 6 (.fix 6)], .agg [.int .i64 5, .int .i64 5, .int .i64 6]], [(1, .cells .rw [.int .i64 2, .int .i64 1, .int .i64 0, .int .i64 6, .int .i64 0, .int .i64 1, .int .i64 3, .int .i64 6]), (2, .cells .rw [.int .i64 1, .int .i64 1, .int .i64 1, .int .i64 2, .int .i64 0, .int .i64 1]), (3, .cells .rw [.int .i64 5, .int .i64 5, .int .i64 5, .int .i64 6, .int .i64 6, .int .i64 5, .int .i64 8, .int .i64 5, .int .i64 5, .int .i64 5, .int .i64 5, .int .i64 7, .int .i64 6, .int .i64 7, .int .i64 5, .int .i64 5, .int .i64 5, .int .i64 6])], .tup [.sl 463 0 5 (.slk 0 0), .int .i64 0], 464, [(1, .cells .rw [.int .i64 2, .int .i64 1, .int .i64 0, .int .i64 6, .int .i64 0, .int .i64 1, .int .i64 3, .int .i64 6]), (2, .cells .rw [.int .i64 1, .int .i64 1, .int .i64 1, .int .i64 2, .int .i64 0, .int .i64 1]), (3, .cells .rw [.int .i64 5, .int .i64 5, .int .i64 5, .int .i64 6, .int .i64 6, .int .i64 5, .int .i64 8, .int .i64 5, .int .i64 5, .int .i64 5, .int .i64 5, .int .i64 7, .int .i64 6, .int .i64 7, .int .i64 5, .int .i64 5, .int .i64 5, .int .i64 6]), (463, .cells (.gr 1) [.int .i64 0, .int .i64 1, .int .i64 3, .int .i64 4, .int .i64 5])]⟩
theorem awk1_45_2_ok : EntOk Try.prog tyG 45 awk1_45_2 := ent awkf0_ok (n := 100) (fd := c45) rfl (by kernel_rfl) (by kernel_rfl)
def awk1_37_3 : Ent := ⟨464, [.agg [.sl 1 0 2 (.fix 2), .sl 2 0 2 (.fix 2), .sl 3 0 6 (.fix 6)], .agg [.int .i64 5, .int .i64 5, .int .i64 6], .int .i64 0], [(1, .cells .rw [.int .i64 2, .int .i64 1, .int .i64 0, .int .i64 6, .int .i64 0, .int .i64 1, .int .i64 3, .int .i64 6]), (2, .cells .rw [.int .i64 1, .int .i64 1, .int .i64 1, .int .i64 2, .int .i64 0, .int .i64 1]), (3, .cells .rw [.int .i64 5, .int .i64 5, .int .i64 5, .int .i64 6, .int .i64 6, .int .i64 5, .int .i64 8, .int .i64 5, .int .i64 5, .int .i64 5, .int .i64 5, .int .i64 7, .int .i64 6, .int .i64 7, .int .i64 5, .int .i64 5, .int .i64 5, .int .i64 6])], .tup [.agg [.int .i64 4, .int .i64 6], .int .i64 0], 1345, [(1, .cells .rw [.int .i64 2, .int .i64 1, .int .i64 0, .int .i64 6, .int .i64 0, .int .i64 1, .int .i64 3, .int .i64 6]), (2, .cells .rw [.int .i64 1, .int .i64 1, .int .i64 1, .int .i64 2, .int .i64 0, .int .i64 1]), (3, .cells .rw [.int .i64 5, .int .i64 5, .int .i64 5, .int .i64 6, .int .i64 6, .int .i64 5, .int .i64 8, .int .i64 5, .int .i64 5, .int .i64 5, .int .i64 5, .int .i64 7, .int .i64 6, .int .i64 7, .int .i64 5, .int .i64 5, .int .i64 5, .int .i64 6])]⟩
theorem awk1_37_3_ok : EntOk Try.prog tyG 37 awk1_37_3 := ent awkf0_ok (n := 100) (fd := c37) rfl (by kernel_rfl) (by kernel_rfl)
def awk1_47_4 : Ent := ⟨1348, [.agg [.sl 1 0 2 (.fix 2), .sl 2 0 2 (.fix 2), .sl 3 0 6 (.fix 6)]], [(1, .cells .rw [.int .i64 2, .int .i64 1, .int .i64 0, .int .i64 6, .int .i64 0, .int .i64 1, .int .i64 3, .int .i64 6]), (2, .cells .rw [.int .i64 1, .int .i64 1, .int .i64 1, .int .i64 2, .int .i64 0, .int .i64 1]), (3, .cells .rw [.int .i64 5, .int .i64 5, .int .i64 5, .int .i64 6, .int .i64 6, .int .i64 5, .int .i64 8, .int .i64 5, .int .i64 5, .int .i64 5, .int .i64 5, .int .i64 7, .int .i64 6, .int .i64 7, .int .i64 5, .int .i64 5, .int .i64 5, .int .i64 6])], .tup [.sl 1748 0 2 (.slk 0 0), .int .i64 0], 2344, [(1, .cells .rw [.int .i64 2, .int .i64 1, .int .i64 0, .int .i64 6, .int .i64 0, .int .i64 1, .int .i64 3, .int .i64 6]), (2, .cells .rw [.int .i64 1, .int .i64 1, .int .i64 1, .int .i64 2, .int .i64 0, .int .i64 1]), (3, .cells .rw [.int .i64 5, .int .i64 5, .int .i64 5, .int .i64 6, .int .i64 6, .int .i64 5, .int .i64 8, .int .i64 5, .int .i64 5, .int .i64 5, .int .i64 5, .int .i64 7, .int .i64 6, .int .i64 7, .int .i64 5, .int .i64 5, .int .i64 5, .int .i64 6]), (1748, .cells (.gr 1) [.int .i64 0, .int .i64 1])]⟩
theorem awk1_47_4_ok : EntOk Try.prog tyG 47 awk1_47_4 := ent awkf0_ok (n := 100) (fd := c47) rfl (by kernel_rfl) (by kernel_rfl)
def awk1_49_5 : Ent := ⟨2344, [.agg [.sl 1 0 2 (.fix 2), .sl 2 0 2 (.fix 2), .sl 3 0 6 (.fix 6)]], [(1, .cells .rw [.int .i64 2, .int .i64 1, .int .i64 0, .int .i64 6, .int .i64 0, .int .i64 1, .int .i64 3, .int .i64 6]), (2, .cells .rw [.int .i64 1, .int .i64 1, .int .i64 1, .int .i64 2, .int .i64 0, .int .i64 1]), (3, .cells .rw [.int .i64 5, .int .i64 5, .int .i64 5, .int .i64 6, .int .i64 6, .int .i64 5, .int .i64 8, .int .i64 5, .int .i64 5, .int .i64 5, .int .i64 5, .int .i64 7, .int .i64 6, .int .i64 7, .int .i64 5, .int .i64 5, .int .i64 5, .int .i64 6])], .tup [.sl 5067 0 3 (.slk 0 0), .int .i64 0], 5330, [(1, .cells .rw [.int .i64 2, .int .i64 1, .int .i64 0, .int .i64 6, .int .i64 0, .int .i64 1, .int .i64 3, .int .i64 6]), (2, .cells .rw [.int .i64 1, .int .i64 1, .int .i64 1, .int .i64 2, .int .i64 0, .int .i64 1]), (3, .cells .rw [.int .i64 5, .int .i64 5, .int .i64 5, .int .i64 6, .int .i64 6, .int .i64 5, .int .i64 8, .int .i64 5, .int .i64 5, .int .i64 5, .int .i64 5, .int .i64 7, .int .i64 6, .int .i64 7, .int .i64 5, .int .i64 5, .int .i64 5, .int .i64 6]), (5067, .cells (.gr 1) [.int .i64 0, .int .i64 2, .int .i64 3])]⟩
theorem awk1_49_5_ok : EntOk Try.prog tyG 49 awk1_49_5 := ent awkf0_ok (n := 100) (fd := c49) rfl (by kernel_rfl) (by kernel_rfl)
def awk1_20_6 : Ent := ⟨5330, [.agg [.sl 1 0 2 (.fix 2), .sl 2 0 2 (.fix 2), .sl 3 0 6 (.fix 6)], .int .i64 0, .int .i64 3], [(1, .cells .rw [.int .i64 2, .int .i64 1, .int .i64 0, .int .i64 6, .int .i64 0, .int .i64 1, .int .i64 3, .int .i64 6]), (2, .cells .rw [.int .i64 1, .int .i64 1, .int .i64 1, .int .i64 2, .int .i64 0, .int .i64 1]), (3, .cells .rw [.int .i64 5, .int .i64 5, .int .i64 5, .int .i64 6, .int .i64 6, .int .i64 5, .int .i64 8, .int .i64 5, .int .i64 5, .int .i64 5, .int .i64 5, .int .i64 7, .int .i64 6, .int .i64 7, .int .i64 5, .int .i64 5, .int .i64 5, .int .i64 6])], .tup [.sl 5955 0 3 (.slk 0 0), .int .i64 0], 5956, [(1, .cells .rw [.int .i64 2, .int .i64 1, .int .i64 0, .int .i64 6, .int .i64 0, .int .i64 1, .int .i64 3, .int .i64 6]), (2, .cells .rw [.int .i64 1, .int .i64 1, .int .i64 1, .int .i64 2, .int .i64 0, .int .i64 1]), (3, .cells .rw [.int .i64 5, .int .i64 5, .int .i64 5, .int .i64 6, .int .i64 6, .int .i64 5, .int .i64 8, .int .i64 5, .int .i64 5, .int .i64 5, .int .i64 5, .int .i64 7, .int .i64 6, .int .i64 7, .int .i64 5, .int .i64 5, .int .i64 5, .int .i64 6]), (5955, .cells (.gr 1) [.int .i64 0, .int .i64 5, .int .i64 3])]⟩
theorem awk1_20_6_ok : EntOk Try.prog tyG 20 awk1_20_6 := ent awkf0_ok (n := 100) (fd := c20) rfl (by kernel_rfl) (by kernel_rfl)
def awk1_48_7 : Ent := ⟨5956, [.agg [.sl 1 0 2 (.fix 2), .sl 2 0 2 (.fix 2), .sl 3 0 6 (.fix 6)]], [(1, .cells .rw [.int .i64 2, .int .i64 1, .int .i64 0, .int .i64 6, .int .i64 0, .int .i64 1, .int .i64 3, .int .i64 6]), (2, .cells .rw [.int .i64 1, .int .i64 1, .int .i64 1, .int .i64 2, .int .i64 0, .int .i64 1]), (3, .cells .rw [.int .i64 5, .int .i64 5, .int .i64 5, .int .i64 6, .int .i64 6, .int .i64 5, .int .i64 8, .int .i64 5, .int .i64 5, .int .i64 5, .int .i64 5, .int .i64 7, .int .i64 6, .int .i64 7, .int .i64 5, .int .i64 5, .int .i64 5, .int .i64 6])], .tup [.sl 6565 0 3 (.slk 0 0), .int .i64 0], 6760, [(1, .cells .rw [.int .i64 2, .int .i64 1, .int .i64 0, .int .i64 6, .int .i64 0, .int .i64 1, .int .i64 3, .int .i64 6]), (2, .cells .rw [.int .i64 1, .int .i64 1, .int .i64 1, .int .i64 2, .int .i64 0, .int .i64 1]), (3, .cells .rw [.int .i64 5, .int .i64 5, .int .i64 5, .int .i64 6, .int .i64 6, .int .i64 5, .int .i64 8, .int .i64 5, .int .i64 5, .int .i64 5, .int .i64 5, .int .i64 7, .int .i64 6, .int .i64 7, .int .i64 5, .int .i64 5, .int .i64 5, .int .i64 6]), (6471, .cells .rw [.int .i64 2]), (6563, .cells .rw [.int .i64 3]), (6565, .cells (.gr 1) [.sl 6758 0 4 (.slk 0 0), .sl 6471 0 1 (.fix 1), .sl 6563 0 1 (.fix 1)]), (6758, .cells (.gr 1) [.int .i64 0, .int .i64 1, .int .i64 4, .int .i64 5])]⟩
theorem awk1_48_7_ok : EntOk Try.prog tyG 48 awk1_48_7 := ent awkf0_ok (n := 100) (fd := c48) rfl (by kernel_rfl) (by kernel_rfl)
def awk1_21_8 : Ent := ⟨6760, [.agg [.sl 1 0 2 (.fix 2), .sl 2 0 2 (.fix 2), .sl 3 0 6 (.fix 6)]], [(1, .cells .rw [.int .i64 2, .int .i64 1, .int .i64 0, .int .i64 6, .int .i64 0, .int .i64 1, .int .i64 3, .int .i64 6]), (2, .cells .rw [.int .i64 1, .int .i64 1, .int .i64 1, .int .i64 2, .int .i64 0, .int .i64 1]), (3, .cells .rw [.int .i64 5, .int .i64 5, .int .i64 5, .int .i64 6, .int .i64 6, .int .i64 5, .int .i64 8, .int .i64 5, .int .i64 5, .int .i64 5, .int .i64 5, .int .i64 7, .int .i64 6, .int .i64 7, .int .i64 5, .int .i64 5, .int .i64 5, .int .i64 6])], .tup [.sl 7532 0 2 (.slk 0 0), .int .i64 0], 7536, [(1, .cells .rw [.int .i64 2, .int .i64 1, .int .i64 0, .int .i64 6, .int .i64 0, .int .i64 1, .int .i64 3, .int .i64 6]), (2, .cells .rw [.int .i64 1, .int .i64 1, .int .i64 1, .int .i64 2, .int .i64 0, .int .i64 1]), (3, .cells .rw [.int .i64 5, .int .i64 5, .int .i64 5, .int .i64 6, .int .i64 6, .int .i64 5, .int .i64 8, .int .i64 5, .int .i64 5, .int .i64 5, .int .i64 5, .int .i64 7, .int .i64 6, .int .i64 7, .int .i64 5, .int .i64 5, .int .i64 5, .int .i64 6]), (7315, .cells (.gr 1) [.int .i64 0, .int .i64 1, .int .i64 3, .int .i64 4, .int .i64 5]), (7530, .cells (.gr 1) [.int .i64 2]), (7532, .cells (.gr 1) [.sl 7315 0 5 (.slk 0 0), .sl 7530 0 1 (.slk 0 0)])]⟩
theorem awk1_21_8_ok : EntOk Try.prog tyG 21 awk1_21_8 := ent awkf0_ok (n := 100) (fd := c21) rfl (by kernel_rfl) (by kernel_rfl)
def awkf1T : List (Nat × List Ent) := [(35, [awk1_35_0]), (31, [awk1_31_1]), (45, [awk1_45_2]), (37, [awk1_37_3]), (47, [awk1_47_4]), (49, [awk1_49_5]), (20, [awk1_20_6]), (48, [awk1_48_7]), (21, [awk1_21_8])]
def awkf1 (f : Nat) : Option (List V → H → Option (V × H)) := lookF f awkf1T
theorem awkf1_ok : FastOk Try.prog tyG awkf1 := by
  refine lookF_ok (l := awkf1T) fun q hq => ?_
  simp only [awkf1T, List.mem_cons, List.not_mem_nil, or_false] at hq
  rcases hq with rfl | rfl | rfl | rfl | rfl | rfl | rfl | rfl | rfl
  · refine ⟨callable (fd := c35) rfl, fun e he => ?_⟩
    simp only [List.mem_cons, List.not_mem_nil, or_false] at he
    rcases he with rfl
    · exact awk1_35_0_ok
  · refine ⟨callable (fd := c31) rfl, fun e he => ?_⟩
    simp only [List.mem_cons, List.not_mem_nil, or_false] at he
    rcases he with rfl
    · exact awk1_31_1_ok
  · refine ⟨callable (fd := c45) rfl, fun e he => ?_⟩
    simp only [List.mem_cons, List.not_mem_nil, or_false] at he
    rcases he with rfl
    · exact awk1_45_2_ok
  · refine ⟨callable (fd := c37) rfl, fun e he => ?_⟩
    simp only [List.mem_cons, List.not_mem_nil, or_false] at he
    rcases he with rfl
    · exact awk1_37_3_ok
  · refine ⟨callable (fd := c47) rfl, fun e he => ?_⟩
    simp only [List.mem_cons, List.not_mem_nil, or_false] at he
    rcases he with rfl
    · exact awk1_47_4_ok
  · refine ⟨callable (fd := c49) rfl, fun e he => ?_⟩
    simp only [List.mem_cons, List.not_mem_nil, or_false] at he
    rcases he with rfl
    · exact awk1_49_5_ok
  · refine ⟨callable (fd := c20) rfl, fun e he => ?_⟩
    simp only [List.mem_cons, List.not_mem_nil, or_false] at he
    rcases he with rfl
    · exact awk1_20_6_ok
  · refine ⟨callable (fd := c48) rfl, fun e he => ?_⟩
    simp only [List.mem_cons, List.not_mem_nil, or_false] at he
    rcases he with rfl
    · exact awk1_48_7_ok
  · refine ⟨callable (fd := c21) rfl, fun e he => ?_⟩
    simp only [List.mem_cons, List.not_mem_nil, or_false] at he
    rcases he with rfl
    · exact awk1_21_8_ok
def awkE : Ent := ⟨0, [], [], .bool true, 7542, []⟩
theorem awk_ok : EntOk Try.prog tyG 13 awkE := ent awkf1_ok (n := 100) (fd := c13) rfl (by kernel_rfl) (by kernel_rfl)
end
end Go.Ab.Try
