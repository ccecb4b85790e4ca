/- Calls, run by the kernel by calls that were run before (printed by a program of ours). -/
import Derived.Test.YthoghcpemmfebaaGB
import Derived.Test.YthoghcpemmfebaaGA
set_option linter.unusedSimpArgs false
set_option linter.unusedVariables false
namespace Go.Ab.Try
open Go.Proofs
noncomputable section
def awkf0T : List (Nat × List Ent) := [(105, [awk_105_0, awk_105_1, awk_105_2, awk_105_3, awk_105_4, awk_105_5, awk_105_6, awk_105_7, awk_105_8, awk_105_9, awk_105_10, awk_105_11, awk_105_12, awk_105_13, awk_105_14, awk_105_15, awk_105_16, awk_105_17, awk_105_18, awk_105_19, awk_105_20, awk_105_21, awk_105_22, awk_105_23, awk_105_24, awk_105_25, awk_105_26, awk_105_27, awk_105_28, awk_105_29, awk_105_30, awk_105_31, awk_105_32, awk_105_33])]
def awkf0 (f : Nat) : Option (List V → H → Option (V × H)) := lookF f awkf0T
theorem awkf0_ok : FastOk Try.prog tyG awkf0 := by
  refine lookF_ok (l := awkf0T) fun q hq => ?_
  simp only [awkf0T, List.mem_cons, List.not_mem_nil, or_false] at hq
  rcases hq with rfl
  · refine ⟨callable (fd := c105) rfl, fun e he => ?_⟩
    simp only [List.mem_cons, List.not_mem_nil, or_false] at he
    rcases he with rfl | rfl | rfl | rfl | rfl | rfl | rfl | rfl | rfl | rfl | rfl | rfl | rfl | rfl | rfl | rfl | rfl | rfl | rfl | rfl | rfl | rfl | rfl | rfl | rfl | rfl | rfl | rfl | rfl | rfl | rfl | rfl | rfl | rfl
    · exact awk_105_0_ok
    · exact awk_105_1_ok
    · exact awk_105_2_ok
    · exact awk_105_3_ok
    · exact awk_105_4_ok
    · exact awk_105_5_ok
    · exact awk_105_6_ok
    · exact awk_105_7_ok
    · exact awk_105_8_ok
    · exact awk_105_9_ok
    · exact awk_105_10_ok
    · exact awk_105_11_ok
    · exact awk_105_12_ok
    · exact awk_105_13_ok
    · exact awk_105_14_ok
    · exact awk_105_15_ok
    · exact awk_105_16_ok
    · exact awk_105_17_ok
    · exact awk_105_18_ok
    · exact awk_105_19_ok
    · exact awk_105_20_ok
    · exact awk_105_21_ok
    · exact awk_105_22_ok
    · exact awk_105_23_ok
    · exact awk_105_24_ok
    · exact awk_105_25_ok
    · exact awk_105_26_ok
    · exact awk_105_27_ok
    · exact awk_105_28_ok
    · exact awk_105_29_ok
    · exact awk_105_30_ok
    · exact awk_105_31_ok
    · exact awk_105_32_ok
    · exact awk_105_33_ok
def awk1_36_0 : Ent := ⟨3, [.agg [.int .i64 2, .sl 2 0 6 (.fix 6), .sl 1 0 4 (.fix 5)]], [(1, .cells .rw [.int .i64 0, .int .i64 1100, .int .i64 10, .int .i64 10, .int .i64 2, .int .i64 400, .int .i64 0, .int .i64 10, .int .i64 4, .int .i64 500, .int .i64 5, .int .i64 5, .int .i64 3, .int .i64 150, .int .i64 0, .int .i64 0, .int .i64 5, .int .i64 40, .int .i64 0, .int .i64 0]), (2, .cells .rw [.int .i64 (-1), .int .i64 0, .int .i64 0, .int .i64 0, .int .i64 0, .int .i64 0, .int .i64 0, .int .i64 1, .int .i64 1, .int .i64 2, .int .i64 1, .int .i64 3])], .tup [.sl 157 0 6 (.slk 0 0), .int .i64 0], 158, [(1, .cells .rw [.int .i64 0, .int .i64 1100, .int .i64 10, .int .i64 10, .int .i64 2, .int .i64 400, .int .i64 0, .int .i64 10, .int .i64 4, .int .i64 500, .int .i64 5, .int .i64 5, .int .i64 3, .int .i64 150, .int .i64 0, .int .i64 0, .int .i64 5, .int .i64 40, .int .i64 0, .int .i64 0]), (2, .cells .rw [.int .i64 (-1), .int .i64 0, .int .i64 0, .int .i64 0, .int .i64 0, .int .i64 0, .int .i64 0, .int .i64 1, .int .i64 1, .int .i64 2, .int .i64 1, .int .i64 3]), (157, .cells (.gr 2) [.int .i64 999, .int .i64 1001, .int .i64 475, .int .i64 491, .int .i64 362, .int .i64 378, .int .i64 148, .int .i64 152, .int .i64 475, .int .i64 478, .int .i64 0, .int .i64 16])]⟩
theorem awk1_36_0_ok : EntOk Try.prog tyG 36 awk1_36_0 := ent awkf0_ok (n := 100) (fd := c36) rfl (by kernel_rfl) (by kernel_rfl)
def awk1_25_1 : Ent := ⟨161, [.agg [.int .i64 2, .sl 160 0 6 (.fix 6), .sl 159 0 3 (.fix 5)], .int .i64 3], [(159, .cells .rw [.int .i64 0, .int .i64 1100, .int .i64 10, .int .i64 10, .int .i64 2, .int .i64 400, .int .i64 0, .int .i64 10, .int .i64 4, .int .i64 500, .int .i64 5, .int .i64 5, .int .i64 3, .int .i64 150, .int .i64 0, .int .i64 0, .int .i64 5, .int .i64 40, .int .i64 0, .int .i64 0]), (160, .cells .rw [.int .i64 (-1), .int .i64 0, .int .i64 0, .int .i64 0, .int .i64 0, .int .i64 0, .int .i64 0, .int .i64 1, .int .i64 1, .int .i64 2, .int .i64 1, .int .i64 3])], .tup [.agg [.int .i64 0, .int .i64 164], .int .i64 0], 365, [(159, .cells .rw [.int .i64 0, .int .i64 1100, .int .i64 10, .int .i64 10, .int .i64 2, .int .i64 400, .int .i64 0, .int .i64 10, .int .i64 4, .int .i64 500, .int .i64 5, .int .i64 5, .int .i64 3, .int .i64 150, .int .i64 0, .int .i64 0, .int .i64 5, .int .i64 40, .int .i64 0, .int .i64 0]), (160, .cells .rw [.int .i64 (-1), .int .i64 0, .int .i64 0, .int .i64 0, .int .i64 0, .int .i64 0, .int .i64 0, .int .i64 1, .int .i64 1, .int .i64 2, .int .i64 1, .int .i64 3])]⟩
theorem awk1_25_1_ok : EntOk Try.prog tyG 25 awk1_25_1 := ent awkf0_ok (n := 100) (fd := c25) rfl (by kernel_rfl) (by kernel_rfl)
def awk1_30_2 : Ent := ⟨371, [.agg [.int .i64 2, .sl 368 0 6 (.fix 6), .sl 367 0 5 (.fix 5)], .agg [.int .i64 0, .sl 369 0 4 (.fix 4), .sl 370 0 1 (.fix 1)]], [(367, .cells .rw [.int .i64 0, .int .i64 1100, .int .i64 10, .int .i64 10, .int .i64 2, .int .i64 400, .int .i64 0, .int .i64 10, .int .i64 4, .int .i64 500, .int .i64 5, .int .i64 5, .int .i64 3, .int .i64 150, .int .i64 0, .int .i64 0, .int .i64 5, .int .i64 40, .int .i64 0, .int .i64 0]), (368, .cells .rw [.int .i64 (-1), .int .i64 0, .int .i64 0, .int .i64 0, .int .i64 0, .int .i64 0, .int .i64 0, .int .i64 1, .int .i64 1, .int .i64 2, .int .i64 1, .int .i64 3]), (369, .cells .rw [.int .i64 1, .int .i64 2, .int .i64 3, .int .i64 4]), (370, .cells .rw [.int .i64 0])], .tup [.int .i64 22, .int .i64 0], 599, [(367, .cells .rw [.int .i64 0, .int .i64 1100, .int .i64 10, .int .i64 10, .int .i64 2, .int .i64 400, .int .i64 0, .int .i64 10, .int .i64 4, .int .i64 500, .int .i64 5, .int .i64 5, .int .i64 3, .int .i64 150, .int .i64 0, .int .i64 0, .int .i64 5, .int .i64 40, .int .i64 0, .int .i64 0]), (368, .cells .rw [.int .i64 (-1), .int .i64 0, .int .i64 0, .int .i64 0, .int .i64 0, .int .i64 0, .int .i64 0, .int .i64 1, .int .i64 1, .int .i64 2, .int .i64 1, .int .i64 3]), (369, .cells .rw [.int .i64 1, .int .i64 2, .int .i64 3, .int .i64 4]), (370, .cells .rw [.int .i64 0])]⟩
theorem awk1_30_2_ok : EntOk Try.prog tyG 30 awk1_30_2 := ent awkf0_ok (n := 100) (fd := c30) rfl (by kernel_rfl) (by kernel_rfl)
def awk1_47_3 : Ent := ⟨602, [.agg [.int .i64 2, .sl 601 0 6 (.fix 6), .sl 600 0 5 (.fix 5)]], [(600, .cells .rw [.int .i64 0, .int .i64 1100, .int .i64 10, .int .i64 10, .int .i64 2, .int .i64 400, .int .i64 0, .int .i64 10, .int .i64 4, .int .i64 500, .int .i64 5, .int .i64 5, .int .i64 3, .int .i64 150, .int .i64 0, .int .i64 0, .int .i64 5, .int .i64 40, .int .i64 0, .int .i64 0]), (601, .cells .rw [.int .i64 (-1), .int .i64 0, .int .i64 0, .int .i64 0, .int .i64 0, .int .i64 0, .int .i64 0, .int .i64 1, .int .i64 1, .int .i64 2, .int .i64 1, .int .i64 3])], .tup [.sl 3319 0 5 (.slk 0 0), .int .i64 0], 3373, [(600, .cells .rw [.int .i64 0, .int .i64 1100, .int .i64 10, .int .i64 10, .int .i64 2, .int .i64 400, .int .i64 0, .int .i64 10, .int .i64 4, .int .i64 500, .int .i64 5, .int .i64 5, .int .i64 3, .int .i64 150, .int .i64 0, .int .i64 0, .int .i64 5, .int .i64 40, .int .i64 0, .int .i64 0]), (601, .cells .rw [.int .i64 (-1), .int .i64 0, .int .i64 0, .int .i64 0, .int .i64 0, .int .i64 0, .int .i64 0, .int .i64 1, .int .i64 1, .int .i64 2, .int .i64 1, .int .i64 3]), (3319, .cells (.gr 1) [.int .i64 0, .int .i64 1, .int .i64 2, .int .i64 3, .int .i64 4])]⟩
theorem awk1_47_3_ok : EntOk Try.prog tyG 47 awk1_47_3 := ent awkf0_ok (n := 100) (fd := c47) rfl (by kernel_rfl) (by kernel_rfl)
def awk1_48_4 : Ent := ⟨3376, [.agg [.int .i64 2, .sl 3375 0 6 (.fix 6), .sl 3374 0 5 (.fix 5)]], [(3374, .cells .rw [.int .i64 0, .int .i64 1100, .int .i64 10, .int .i64 10, .int .i64 2, .int .i64 400, .int .i64 0, .int .i64 10, .int .i64 4, .int .i64 500, .int .i64 5, .int .i64 5, .int .i64 3, .int .i64 150, .int .i64 0, .int .i64 0, .int .i64 5, .int .i64 40, .int .i64 0, .int .i64 0]), (3375, .cells .rw [.int .i64 (-1), .int .i64 0, .int .i64 0, .int .i64 0, .int .i64 0, .int .i64 0, .int .i64 0, .int .i64 1, .int .i64 1, .int .i64 2, .int .i64 1, .int .i64 3])], .tup [.sl 3519 0 1 (.slk 0 0), .int .i64 0], 3602, [(3374, .cells .rw [.int .i64 0, .int .i64 1100, .int .i64 10, .int .i64 10, .int .i64 2, .int .i64 400, .int .i64 0, .int .i64 10, .int .i64 4, .int .i64 500, .int .i64 5, .int .i64 5, .int .i64 3, .int .i64 150, .int .i64 0, .int .i64 0, .int .i64 5, .int .i64 40, .int .i64 0, .int .i64 0]), (3375, .cells .rw [.int .i64 (-1), .int .i64 0, .int .i64 0, .int .i64 0, .int .i64 0, .int .i64 0, .int .i64 0, .int .i64 1, .int .i64 1, .int .i64 2, .int .i64 1, .int .i64 3]), (3519, .cells (.gr 1) [.int .i64 0])]⟩
theorem awk1_48_4_ok : EntOk Try.prog tyG 48 awk1_48_4 := ent awkf0_ok (n := 100) (fd := c48) rfl (by kernel_rfl) (by kernel_rfl)
def awk1_29_5 : Ent := ⟨3605, [.agg [.int .i64 2, .sl 3604 0 6 (.fix 6), .sl 3603 0 4 (.fix 5)]], [(3603, .cells .rw [.int .i64 0, .int .i64 1100, .int .i64 10, .int .i64 10, .int .i64 2, .int .i64 400, .int .i64 0, .int .i64 10, .int .i64 4, .int .i64 500, .int .i64 5, .int .i64 5, .int .i64 3, .int .i64 150, .int .i64 0, .int .i64 0, .int .i64 5, .int .i64 40, .int .i64 0, .int .i64 0]), (3604, .cells .rw [.int .i64 (-1), .int .i64 0, .int .i64 0, .int .i64 0, .int .i64 0, .int .i64 0, .int .i64 0, .int .i64 1, .int .i64 1, .int .i64 2, .int .i64 1, .int .i64 3])], .tup [.agg [.int .i64 0, .nils, .nils], .int .i64 6], 4409, [(3603, .cells .rw [.int .i64 0, .int .i64 1100, .int .i64 10, .int .i64 10, .int .i64 2, .int .i64 400, .int .i64 0, .int .i64 10, .int .i64 4, .int .i64 500, .int .i64 5, .int .i64 5, .int .i64 3, .int .i64 150, .int .i64 0, .int .i64 0, .int .i64 5, .int .i64 40, .int .i64 0, .int .i64 0]), (3604, .cells .rw [.int .i64 (-1), .int .i64 0, .int .i64 0, .int .i64 0, .int .i64 0, .int .i64 0, .int .i64 0, .int .i64 1, .int .i64 1, .int .i64 2, .int .i64 1, .int .i64 3])]⟩
theorem awk1_29_5_ok : EntOk Try.prog tyG 29 awk1_29_5 := ent awkf0_ok (n := 100) (fd := c29) rfl (by kernel_rfl) (by kernel_rfl)
def awkf1T : List (Nat × List Ent) := [(36, [awk1_36_0]), (25, [awk1_25_1]), (30, [awk1_30_2]), (47, [awk1_47_3]), (48, [awk1_48_4]), (29, [awk1_29_5])]
def awkf1 (f : Nat) : Option (List V → H → Option (V × H)) := lookF f awkf1T
theorem awkf1_ok : FastOk Try.prog tyG awkf1 := by
  refine lookF_ok (l := awkf1T) fun q hq => ?_
  simp only [awkf1T, List.mem_cons, List.not_mem_nil, or_false] at hq
  rcases hq with rfl | rfl | rfl | rfl | rfl | rfl
  · refine ⟨callable (fd := c36) rfl, fun e he => ?_⟩
    simp only [List.mem_cons, List.not_mem_nil, or_false] at he
    rcases he with rfl
    · exact awk1_36_0_ok
  · refine ⟨callable (fd := c25) rfl, fun e he => ?_⟩
    simp only [List.mem_cons, List.not_mem_nil, or_false] at he
    rcases he with rfl
    · exact awk1_25_1_ok
  · refine ⟨callable (fd := c30) rfl, fun e he => ?_⟩
    simp only [List.mem_cons, List.not_mem_nil, or_false] at he
    rcases he with rfl
    · exact awk1_30_2_ok
  · refine ⟨callable (fd := c47) rfl, fun e he => ?_⟩
    simp only [List.mem_cons, List.not_mem_nil, or_false] at he
    rcases he with rfl
    · exact awk1_47_3_ok
  · refine ⟨callable (fd := c48) rfl, fun e he => ?_⟩
    simp only [List.mem_cons, List.not_mem_nil, or_false] at he
    rcases he with rfl
    · exact awk1_48_4_ok
  · refine ⟨callable (fd := c29) rfl, fun e he => ?_⟩
    simp only [List.mem_cons, List.not_mem_nil, or_false] at he
    rcases he with rfl
    · exact awk1_29_5_ok
def awkE : Ent := ⟨0, [], [], .bool true, 4413, []⟩
theorem awk_ok : EntOk Try.prog tyG 17 awkE := ent awkf1_ok (n := 100) (fd := c17) rfl (by kernel_rfl) (by kernel_rfl)
end
end Go.Ab.Try
