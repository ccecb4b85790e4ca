/- The kernel s form of the code that closed runs go through (printed by a program). -/
import Derived.Test.YthoghcpemmfebaaDat
import Derived.Test.YthoghcpemmfebaaAbK
import Derived.KernelRfl
namespace Go.Ab.Try
noncomputable section
def k17 : FK := ⟨98, [.tmp 0],
  .seq (.ops [⟨some 0, none, k_mvc (.bool false)⟩])
  (.seq (.ops [⟨some 14, none, k_call (.c (.fn 72 [] [])) [.c (.int .i64 4)]⟩,
    ⟨some 15, none, k_call (.c (.fn 36 [] [])) [.t 14]⟩,
    ⟨some 13, none, k_mvt 15⟩,
    ⟨some 16, none, k_ext (.t 13) 0⟩,
    ⟨some 17, none, k_ext (.t 13) 1⟩,
    ⟨some 1, none, k_mvt 16⟩,
    ⟨some 2, none, k_mvt 17⟩])
  (.seq (.ops [⟨some 19, none, k_call (.c (.fn 72 [] [])) [.c (.int .i64 3)]⟩,
    ⟨some 20, none, k_call (.c (.fn 25 [] [])) [.t 19, .c (.int .i64 3)]⟩,
    ⟨some 18, none, k_mvt 20⟩,
    ⟨some 21, none, k_ext (.t 18) 0⟩,
    ⟨some 22, none, k_ext (.t 18) 1⟩,
    ⟨some 3, none, k_alc [.int .i64 0, .int .i64 0]⟩,
    ⟨none, none, k_sto 2 (.t 3) (.t 21)⟩,
    ⟨some 4, none, k_mvt 22⟩])
  (.seq (.ops [⟨some 24, none, k_call (.c (.fn 72 [] [])) [.c (.int .i64 5)]⟩,
    ⟨some 25, none, k_bsl 4 [.int .i64 0, .int .i64 0, .int .i64 0, .int .i64 0] [(0, 1, .c (.int .i64 1)), (1, 1, .c (.int .i64 2)), (2, 1, .c (.int .i64 3)), (3, 1, .c (.int .i64 4))]⟩,
    ⟨some 26, none, k_bsl 1 [.int .i64 0] [(0, 1, .c (.int .i64 0))]⟩,
    ⟨some 27, none, k_bld [.int .i64 0, .nils, .nils] [(1, 1, .t 25), (2, 1, .t 26)]⟩,
    ⟨some 28, none, k_call (.c (.fn 30 [] [])) [.t 24, .t 27]⟩,
    ⟨some 23, none, k_mvt 28⟩,
    ⟨some 29, none, k_ext (.t 23) 0⟩,
    ⟨some 30, none, k_ext (.t 23) 1⟩,
    ⟨some 5, none, k_mvt 29⟩,
    ⟨some 6, none, k_mvt 30⟩])
  (.seq (.ops [⟨some 32, none, k_call (.c (.fn 72 [] [])) [.c (.int .i64 5)]⟩,
    ⟨some 33, none, k_call (.c (.fn 47 [] [])) [.t 32]⟩,
    ⟨some 31, none, k_mvt 33⟩,
    ⟨some 34, none, k_ext (.t 31) 0⟩,
    ⟨some 35, none, k_ext (.t 31) 1⟩,
    ⟨some 7, none, k_mvt 34⟩,
    ⟨some 8, none, k_mvt 35⟩])
  (.seq (.ops [⟨some 37, none, k_call (.c (.fn 72 [] [])) [.c (.int .i64 5)]⟩,
    ⟨some 38, none, k_call (.c (.fn 48 [] [])) [.t 37]⟩,
    ⟨some 36, none, k_mvt 38⟩,
    ⟨some 39, none, k_ext (.t 36) 0⟩,
    ⟨some 40, none, k_ext (.t 36) 1⟩,
    ⟨some 9, none, k_mvt 39⟩,
    ⟨some 10, none, k_mvt 40⟩])
  (.seq (.ops [⟨some 42, none, k_call (.c (.fn 72 [] [])) [.c (.int .i64 4)]⟩,
    ⟨some 43, none, k_call (.c (.fn 29 [] [])) [.t 42]⟩,
    ⟨some 41, none, k_mvt 43⟩,
    ⟨some 44, none, k_ext (.t 41) 0⟩,
    ⟨some 45, none, k_ext (.t 41) 1⟩,
    ⟨some 11, none, k_alc [.int .i64 0, .nils, .nils]⟩,
    ⟨none, none, k_sto 3 (.t 11) (.t 44)⟩,
    ⟨some 12, none, k_mvt 45⟩])
  (.seq (.ops [⟨some 46, none, k_mvt 2⟩,
    ⟨some 47, none, k_ar ar_eql (.t 46) (.c (.int .i64 0))⟩,
    ⟨some 48, none, k_mvt 47⟩,
    ⟨some 49, some (48, true), k_mvt 4⟩,
    ⟨some 50, some (48, true), k_ar ar_eql (.t 49) (.c (.int .i64 0))⟩,
    ⟨some 51, none, k_pick (.t 48) (.t 50) (.c (.bool false))⟩,
    ⟨some 52, none, k_mvt 51⟩,
    ⟨some 53, some (52, true), k_mvt 6⟩,
    ⟨some 54, some (52, true), k_ar ar_eql (.t 53) (.c (.int .i64 0))⟩,
    ⟨some 55, none, k_pick (.t 52) (.t 54) (.c (.bool false))⟩,
    ⟨some 56, none, k_mvt 55⟩,
    ⟨some 57, some (56, true), k_mvt 8⟩,
    ⟨some 58, some (56, true), k_ar ar_eql (.t 57) (.c (.int .i64 0))⟩,
    ⟨some 59, none, k_pick (.t 56) (.t 58) (.c (.bool false))⟩,
    ⟨some 60, none, k_mvt 59⟩,
    ⟨some 61, some (60, true), k_mvt 10⟩,
    ⟨some 62, some (60, true), k_ar ar_eql (.t 61) (.c (.int .i64 0))⟩,
    ⟨some 63, none, k_pick (.t 60) (.t 62) (.c (.bool false))⟩,
    ⟨some 64, none, k_mvt 63⟩,
    ⟨some 65, some (64, true), k_mvt 12⟩,
    ⟨some 66, some (64, true), k_ar ar_eql (.t 65) (.c (.int .i64 6))⟩,
    ⟨some 67, none, k_pick (.t 64) (.t 66) (.c (.bool false))⟩,
    ⟨some 68, none, k_mvt 67⟩,
    ⟨some 69, some (68, true), k_mvt 1⟩,
    ⟨some 70, some (68, true), k_bld [.int .i64 0, .int .i64 0] [(0, 1, .c (.int .i64 999)), (1, 1, .c (.int .i64 1001))]⟩,
    ⟨some 71, some (68, true), k_bld [.int .i64 0, .int .i64 0] [(0, 1, .c (.int .i64 475)), (1, 1, .c (.int .i64 491))]⟩,
    ⟨some 72, some (68, true), k_bld [.int .i64 0, .int .i64 0] [(0, 1, .c (.int .i64 362)), (1, 1, .c (.int .i64 378))]⟩,
    ⟨some 73, some (68, true), k_bld [.int .i64 0, .int .i64 0] [(0, 1, .c (.int .i64 148)), (1, 1, .c (.int .i64 152))]⟩,
    ⟨some 74, some (68, true), k_bld [.int .i64 0, .int .i64 0] [(0, 1, .c (.int .i64 475)), (1, 1, .c (.int .i64 478))]⟩,
    ⟨some 75, some (68, true), k_bld [.int .i64 0, .int .i64 0] [(0, 1, .c (.int .i64 0)), (1, 1, .c (.int .i64 16))]⟩,
    ⟨some 76, some (68, true), k_bsl 6 [.int .i64 0, .int .i64 0, .int .i64 0, .int .i64 0, .int .i64 0, .int .i64 0, .int .i64 0, .int .i64 0, .int .i64 0, .int .i64 0, .int .i64 0, .int .i64 0] [(0, 2, .t 70), (2, 2, .t 71), (4, 2, .t 72), (6, 2, .t 73), (8, 2, .t 74), (10, 2, .t 75)]⟩,
    ⟨some 77, some (68, true), k_call (.c (.fn 38 [] [])) [.t 69, .t 76]⟩,
    ⟨some 78, none, k_pick (.t 68) (.t 77) (.c (.bool false))⟩,
    ⟨some 79, none, k_mvt 78⟩,
    ⟨some 80, some (79, true), k_ld true 2 (.t 3)⟩,
    ⟨some 81, some (79, true), k_bld [.int .i64 0, .int .i64 0] [(0, 1, .c (.int .i64 0)), (1, 1, .c (.int .i64 164))]⟩,
    ⟨some 82, some (79, true), k_feq false 2 (.t 80) (.t 81)⟩,
    ⟨some 83, none, k_pick (.t 79) (.t 82) (.c (.bool false))⟩,
    ⟨some 84, none, k_mvt 83⟩,
    ⟨some 85, some (84, true), k_mvt 5⟩,
    ⟨some 86, some (84, true), k_ar ar_eql (.t 85) (.c (.int .i64 22))⟩,
    ⟨some 87, none, k_pick (.t 84) (.t 86) (.c (.bool false))⟩,
    ⟨some 88, none, k_mvt 87⟩,
    ⟨some 89, some (88, true), k_mvt 7⟩,
    ⟨some 90, some (88, true), k_bsl 5 [.int .i64 0, .int .i64 0, .int .i64 0, .int .i64 0, .int .i64 0] [(0, 1, .c (.int .i64 0)), (1, 1, .c (.int .i64 1)), (2, 1, .c (.int .i64 2)), (3, 1, .c (.int .i64 3)), (4, 1, .c (.int .i64 4))]⟩,
    ⟨some 91, some (88, true), k_call (.c (.fn 31 [] [])) [.t 89, .t 90]⟩,
    ⟨some 92, none, k_pick (.t 88) (.t 91) (.c (.bool false))⟩,
    ⟨some 93, none, k_mvt 92⟩,
    ⟨some 94, some (93, true), k_mvt 9⟩,
    ⟨some 95, some (93, true), k_bsl 1 [.int .i64 0] [(0, 1, .c (.int .i64 0))]⟩,
    ⟨some 96, some (93, true), k_call (.c (.fn 31 [] [])) [.t 94, .t 95]⟩,
    ⟨some 97, none, k_pick (.t 93) (.t 96) (.c (.bool false))⟩,
    ⟨some 0, none, k_mvt 97⟩])
  (.ret))))))))⟩
theorem k17_eq : c17.k = k17 := by kernel_rfl
def k25 : FK := ⟨74, [.cell 4 true 2, .tmp 5],
  .seq (.ops [⟨some 2, none, k_box (.t 0)⟩,
    ⟨some 3, none, k_box (.t 1)⟩,
    ⟨some 4, none, k_alc [.int .i64 0, .int .i64 0]⟩,
    ⟨some 5, none, k_mvc (.int .i64 0)⟩])
  (.seq (.seq (.ops [⟨some 17, none, k_ld true 3 (.t 2)⟩,
    ⟨some 18, none, k_call (.c (.fn 54 [] [])) [.t 17]⟩,
    ⟨some 6, none, k_mvt 18⟩])
  (.seq (.ops [⟨some 19, none, k_mvt 6⟩,
    ⟨some 20, none, k_ar ar_neq (.t 19) (.c (.int .i64 0))⟩])
  (.cond (.t 20) (.seq (.ops [⟨some 21, none, k_bld [.int .i64 0, .int .i64 0] []⟩,
    ⟨some 22, none, k_mvt 6⟩,
    ⟨none, none, k_sto 2 (.t 4) (.t 21)⟩,
    ⟨some 5, none, k_mvt 22⟩])
  (.ret))
  (.skip))))
  (.seq (.seq (.ops [⟨some 23, none, k_ld false 1 (.t 3)⟩,
    ⟨some 24, none, k_call (.c (.fn 78 [] [])) [.t 23]⟩,
    ⟨some 25, none, k_not (.t 24)⟩])
  (.cond (.t 25) (.seq (.ops [⟨some 26, none, k_bld [.int .i64 0, .int .i64 0] []⟩,
    ⟨none, none, k_sto 2 (.t 4) (.t 26)⟩,
    ⟨some 5, none, k_mvc (.int .i64 3)⟩])
  (.ret))
  (.skip)))
  (.seq (.ops [⟨some 28, none, k_ld true 3 (.t 2)⟩,
    ⟨some 29, none, k_call (.c (.fn 79 [] [])) [.t 28]⟩,
    ⟨some 27, none, k_mvt 29⟩,
    ⟨some 30, none, k_ext (.t 27) 0⟩,
    ⟨some 31, none, k_ext (.t 27) 1⟩,
    ⟨some 32, none, k_ext (.t 27) 2⟩,
    ⟨some 8, none, k_alc [.int .i64 0, .int .i64 0, .int .i64 0, .int .i64 0, .int .i64 0, .int .i64 0, .int .i64 0, .int .i64 0, .int .i64 0, .int .i64 0, .int .i64 0, .int .i64 0, .int .i64 0, .int .i64 0, .int .i64 0, .int .i64 0, .int .i64 0, .int .i64 0, .int .i64 0, .int .i64 0, .int .i64 0, .int .i64 0, .int .i64 0, .int .i64 0]⟩,
    ⟨some 7, none, k_mvt 30⟩,
    ⟨none, none, k_sto 24 (.t 8) (.t 31)⟩,
    ⟨some 9, none, k_mvt 32⟩])
  (.seq (.seq (.ops [⟨some 33, none, k_mvt 9⟩,
    ⟨some 34, none, k_ar ar_neq (.t 33) (.c (.int .i64 0))⟩])
  (.cond (.t 34) (.seq (.ops [⟨some 35, none, k_bld [.int .i64 0, .int .i64 0] []⟩,
    ⟨some 36, none, k_mvt 9⟩,
    ⟨none, none, k_sto 2 (.t 4) (.t 35)⟩,
    ⟨some 5, none, k_mvt 36⟩])
  (.ret))
  (.skip)))
  (.seq (.ops [⟨some 10, none, k_alc [.int .i64 0, .int .i64 0]⟩])
  (.seq (.seq (.ops [⟨some 37, none, k_mvt 7⟩,
    ⟨some 38, none, k_chk (.t 37)⟩,
    ⟨some 39, none, k_fad 3 (.t 38)⟩,
    ⟨some 40, none, k_ld false 1 (.t 39)⟩,
    ⟨some 41, none, k_lkp (.nils) (.t 40) (.c (.int .i64 (-1))) false⟩,
    ⟨some 42, none, k_len (.t 41)⟩,
    ⟨some 43, none, k_mvc (.int .i64 0)⟩])
  (.block 0 (.loop (.seq (.ops [⟨some 44, none, k_ar ar_lss (.t 43) (.t 42)⟩])
  (.seq (.cond (.t 44) (.skip)
  (.exit 0))
  (.seq (.block 1 (.seq (.ops [⟨some 45, none, k_iad 1 (.t 41) (.t 43)⟩,
    ⟨some 46, none, k_ld false 1 (.t 45)⟩,
    ⟨some 12, none, k_mvt 46⟩])
  (.seq (.ops [⟨some 48, none, k_mvt 7⟩,
    ⟨some 49, none, k_ld true 24 (.t 8)⟩,
    ⟨some 50, none, k_mvt 12⟩,
    ⟨some 51, none, k_mkf 81 [] [.t 3]⟩,
    ⟨some 52, none, k_call (.c (.fn 80 [] [])) [.t 48, .t 49, .t 50, .t 51]⟩,
    ⟨some 47, none, k_mvt 52⟩,
    ⟨some 53, none, k_ext (.t 47) 0⟩,
    ⟨some 54, none, k_ext (.t 47) 1⟩,
    ⟨some 13, none, k_mvt 53⟩,
    ⟨some 14, none, k_mvt 54⟩])
  (.seq (.ops [⟨some 56, none, k_mvt 7⟩,
    ⟨some 57, none, k_ld true 24 (.t 8)⟩,
    ⟨some 58, none, k_mvt 12⟩,
    ⟨some 59, none, k_mkf 82 [] [.t 3]⟩,
    ⟨some 60, none, k_call (.c (.fn 80 [] [])) [.t 56, .t 57, .t 58, .t 59]⟩,
    ⟨some 55, none, k_mvt 60⟩,
    ⟨some 61, none, k_ext (.t 55) 0⟩,
    ⟨some 62, none, k_ext (.t 55) 1⟩,
    ⟨some 15, none, k_mvt 61⟩,
    ⟨some 16, none, k_mvt 62⟩])
  (.ops [⟨some 63, none, k_fad 0 (.t 10)⟩,
    ⟨some 64, none, k_ld false 1 (.t 63)⟩,
    ⟨some 65, none, k_mvt 13⟩,
    ⟨some 66, none, k_ar ar_add (.t 64) (.t 65)⟩,
    ⟨some 67, none, k_fad 1 (.t 10)⟩,
    ⟨some 68, none, k_ld false 1 (.t 67)⟩,
    ⟨some 69, none, k_mvt 16⟩,
    ⟨some 70, none, k_ar ar_add (.t 68) (.t 69)⟩,
    ⟨some 71, none, k_bld [.int .i64 0, .int .i64 0] [(0, 1, .t 66), (1, 1, .t 70)]⟩,
    ⟨none, none, k_sto 2 (.t 10) (.t 71)⟩])))))
  (.ops [⟨some 72, none, k_ar ar_add (.t 43) (.c (.int .i64 1))⟩,
    ⟨some 43, none, k_mvt 72⟩])))))))
  (.seq (.ops [⟨some 73, none, k_ld true 2 (.t 10)⟩,
    ⟨none, none, k_sto 2 (.t 4) (.t 73)⟩,
    ⟨some 5, none, k_mvc (.int .i64 0)⟩])
  (.ret))))))))⟩
theorem k25_eq : c25.k = k25 := by kernel_rfl
def k29 : FK := ⟨43, [.cell 2 true 3, .tmp 3],
  .seq (.ops [⟨some 1, none, k_box (.t 0)⟩,
    ⟨some 2, none, k_alc [.int .i64 0, .nils, .nils]⟩,
    ⟨some 3, none, k_mvc (.int .i64 0)⟩])
  (.seq (.ops [⟨some 10, none, k_ld true 3 (.t 1)⟩,
    ⟨some 11, none, k_call (.c (.fn 87 [] [])) [.t 10]⟩,
    ⟨some 9, none, k_mvt 11⟩,
    ⟨some 12, none, k_ext (.t 9) 0⟩,
    ⟨some 13, none, k_ext (.t 9) 1⟩,
    ⟨some 4, none, k_mvt 12⟩,
    ⟨some 5, none, k_mvt 13⟩])
  (.seq (.seq (.ops [⟨some 14, none, k_mvt 5⟩,
    ⟨some 15, none, k_ar ar_neq (.t 14) (.c (.int .i64 0))⟩])
  (.cond (.t 15) (.seq (.ops [⟨some 16, none, k_bld [.int .i64 0, .nils, .nils] []⟩,
    ⟨some 17, none, k_mvt 5⟩,
    ⟨none, none, k_sto 3 (.t 2) (.t 16)⟩,
    ⟨some 3, none, k_mvt 17⟩])
  (.ret))
  (.skip)))
  (.seq (.seq (.ops [⟨some 18, none, k_fad 1 (.t 1)⟩,
    ⟨some 19, none, k_ld false 1 (.t 18)⟩,
    ⟨some 20, none, k_len (.t 19)⟩,
    ⟨some 21, none, k_mvc (.int .i64 0)⟩])
  (.block 0 (.loop (.seq (.ops [⟨some 22, none, k_ar ar_lss (.t 21) (.t 20)⟩])
  (.seq (.cond (.t 22) (.skip)
  (.exit 0))
  (.seq (.block 1 (.seq (.ops [⟨some 23, none, k_mvt 21⟩,
    ⟨some 6, none, k_mvt 23⟩])
  (.seq (.ops [⟨some 24, none, k_mvt 4⟩,
    ⟨some 25, none, k_mvt 6⟩,
    ⟨some 26, none, k_call (.c (.fn 88 [] [])) [.t 24, .t 25]⟩,
    ⟨some 27, none, k_mvt 4⟩,
    ⟨some 28, none, k_mvt 6⟩,
    ⟨some 29, none, k_call (.c (.fn 89 [] [])) [.t 27, .t 28]⟩,
    ⟨some 7, none, k_alc [.int .i64 0, .nils]⟩,
    ⟨some 8, none, k_alc [.int .i64 0, .nils]⟩,
    ⟨none, none, k_sto 2 (.t 7) (.t 26)⟩,
    ⟨none, none, k_sto 2 (.t 8) (.t 29)⟩])
  (.seq (.ops [⟨some 30, none, k_fad 0 (.t 7)⟩,
    ⟨some 31, none, k_ld false 1 (.t 30)⟩,
    ⟨some 32, none, k_fad 0 (.t 8)⟩,
    ⟨some 33, none, k_ld false 1 (.t 32)⟩,
    ⟨some 34, none, k_ar ar_gtr (.t 31) (.t 33)⟩])
  (.cond (.t 34) (.seq (.ops [⟨some 35, none, k_mvt 6⟩,
    ⟨some 36, none, k_fad 1 (.t 7)⟩,
    ⟨some 37, none, k_ld false 1 (.t 36)⟩,
    ⟨some 38, none, k_fad 1 (.t 8)⟩,
    ⟨some 39, none, k_ld false 1 (.t 38)⟩,
    ⟨some 40, none, k_bld [.int .i64 0, .nils, .nils] [(0, 1, .t 35), (1, 1, .t 37), (2, 1, .t 39)]⟩,
    ⟨none, none, k_sto 3 (.t 2) (.t 40)⟩,
    ⟨some 3, none, k_mvc (.int .i64 0)⟩])
  (.ret))
  (.skip))))))
  (.ops [⟨some 41, none, k_ar ar_add (.t 21) (.c (.int .i64 1))⟩,
    ⟨some 21, none, k_mvt 41⟩])))))))
  (.seq (.ops [⟨some 42, none, k_bld [.int .i64 0, .nils, .nils] []⟩,
    ⟨none, none, k_sto 3 (.t 2) (.t 42)⟩,
    ⟨some 3, none, k_mvc (.int .i64 6)⟩])
  (.ret)))))⟩
theorem k29_eq : c29.k = k29 := by kernel_rfl
def k30 : FK := ⟨89, [.tmp 4, .tmp 5],
  .seq (.ops [⟨some 2, none, k_box (.t 0)⟩,
    ⟨some 3, none, k_box (.t 1)⟩,
    ⟨some 4, none, k_mvc (.int .i64 0)⟩,
    ⟨some 5, none, k_mvc (.int .i64 0)⟩])
  (.seq (.ops [⟨some 16, none, k_ld true 3 (.t 2)⟩,
    ⟨some 17, none, k_call (.c (.fn 87 [] [])) [.t 16]⟩,
    ⟨some 15, none, k_mvt 17⟩,
    ⟨some 18, none, k_ext (.t 15) 0⟩,
    ⟨some 19, none, k_ext (.t 15) 1⟩,
    ⟨some 6, none, k_mvt 18⟩,
    ⟨some 7, none, k_mvt 19⟩])
  (.seq (.ops [⟨some 20, none, k_ld true 3 (.t 2)⟩,
    ⟨some 21, none, k_mkf 90 [.t 20] []⟩,
    ⟨some 8, none, k_mvt 21⟩])
  (.seq (.block 0 (.seq (.ops [⟨some 23, none, k_mvt 7⟩,
    ⟨some 24, none, k_ar ar_neq (.t 23) (.c (.int .i64 0))⟩,
    ⟨some 22, none, k_mvt 24⟩])
  (.cond (.t 22) (.seq (.ops [⟨some 25, none, k_mvt 7⟩,
    ⟨some 4, none, k_mvc (.int .i64 0)⟩,
    ⟨some 5, none, k_mvt 25⟩])
  (.ret))
  (.seq (.ops [⟨some 27, none, k_ld true 3 (.t 2)⟩,
    ⟨some 28, none, k_fad 0 (.t 3)⟩,
    ⟨some 29, none, k_ld false 1 (.t 28)⟩,
    ⟨some 30, none, k_call (.c (.fn 91 [] [])) [.t 27, .t 29]⟩,
    ⟨some 31, none, k_not (.t 30)⟩,
    ⟨some 32, none, k_mvt 31⟩,
    ⟨some 33, some (32, false), k_fad 1 (.t 3)⟩,
    ⟨some 34, some (32, false), k_ld false 1 (.t 33)⟩,
    ⟨some 35, some (32, false), k_mvt 8⟩,
    ⟨some 36, some (32, false), k_call (.c (.fn 92 [] [])) [.t 34, .t 35]⟩,
    ⟨some 37, some (32, false), k_not (.t 36)⟩,
    ⟨some 38, none, k_pick (.t 32) (.c (.bool true)) (.t 37)⟩,
    ⟨some 39, none, k_mvt 38⟩,
    ⟨some 40, some (39, false), k_fad 2 (.t 3)⟩,
    ⟨some 41, some (39, false), k_ld false 1 (.t 40)⟩,
    ⟨some 42, some (39, false), k_mvt 8⟩,
    ⟨some 43, some (39, false), k_call (.c (.fn 92 [] [])) [.t 41, .t 42]⟩,
    ⟨some 44, some (39, false), k_not (.t 43)⟩,
    ⟨some 45, none, k_pick (.t 39) (.c (.bool true)) (.t 44)⟩,
    ⟨some 26, none, k_mvt 45⟩])
  (.cond (.t 26) (.seq (.ops [⟨some 4, none, k_mvc (.int .i64 0)⟩,
    ⟨some 5, none, k_mvc (.int .i64 1)⟩])
  (.ret))
  (.seq (.ops [⟨some 47, none, k_mvt 6⟩,
    ⟨some 48, none, k_ld true 3 (.t 3)⟩,
    ⟨some 49, none, k_call (.c (.fn 93 [] [])) [.t 47, .t 48]⟩,
    ⟨some 50, none, k_not (.t 49)⟩,
    ⟨some 46, none, k_mvt 50⟩])
  (.cond (.t 46) (.seq (.ops [⟨some 4, none, k_mvc (.int .i64 0)⟩,
    ⟨some 5, none, k_mvc (.int .i64 8)⟩])
  (.ret))
  (.skip))))))))
  (.seq (.ops [⟨some 9, none, k_mvc (.int .i64 0)⟩,
    ⟨some 10, none, k_mvc (.int .i64 10000)⟩])
  (.seq (.seq (.ops [⟨some 51, none, k_fad 1 (.t 3)⟩,
    ⟨some 52, none, k_ld false 1 (.t 51)⟩,
    ⟨some 53, none, k_len (.t 52)⟩,
    ⟨some 54, none, k_mvc (.int .i64 0)⟩])
  (.block 1 (.loop (.seq (.ops [⟨some 55, none, k_ar ar_lss (.t 54) (.t 53)⟩])
  (.seq (.cond (.t 55) (.skip)
  (.exit 1))
  (.seq (.block 2 (.seq (.ops [⟨some 56, none, k_iad 1 (.t 52) (.t 54)⟩,
    ⟨some 57, none, k_ld false 1 (.t 56)⟩,
    ⟨some 12, none, k_mvt 57⟩])
  (.ops [⟨some 58, none, k_mvt 9⟩,
    ⟨some 59, none, k_mvt 6⟩,
    ⟨some 60, none, k_mvt 12⟩,
    ⟨some 61, none, k_call (.c (.fn 94 [] [])) [.t 59, .t 60]⟩,
    ⟨some 62, none, k_fld false 1 0 (.t 61)⟩,
    ⟨some 63, none, k_ar ar_add (.t 58) (.t 62)⟩,
    ⟨some 9, none, k_mvt 63⟩])))
  (.ops [⟨some 64, none, k_ar ar_add (.t 54) (.c (.int .i64 1))⟩,
    ⟨some 54, none, k_mvt 64⟩])))))))
  (.seq (.seq (.ops [⟨some 65, none, k_fad 2 (.t 3)⟩,
    ⟨some 66, none, k_ld false 1 (.t 65)⟩,
    ⟨some 67, none, k_len (.t 66)⟩,
    ⟨some 68, none, k_ar ar_gtr (.t 67) (.c (.int .i64 0))⟩])
  (.cond (.t 68) (.ops [⟨some 10, none, k_mvc (.int .i64 0)⟩])
  (.skip)))
  (.seq (.seq (.ops [⟨some 69, none, k_fad 2 (.t 3)⟩,
    ⟨some 70, none, k_ld false 1 (.t 69)⟩,
    ⟨some 71, none, k_len (.t 70)⟩,
    ⟨some 72, none, k_mvc (.int .i64 0)⟩])
  (.block 3 (.loop (.seq (.ops [⟨some 73, none, k_ar ar_lss (.t 72) (.t 71)⟩])
  (.seq (.cond (.t 73) (.skip)
  (.exit 3))
  (.seq (.block 4 (.seq (.ops [⟨some 74, none, k_iad 1 (.t 70) (.t 72)⟩,
    ⟨some 75, none, k_ld false 1 (.t 74)⟩,
    ⟨some 14, none, k_mvt 75⟩])
  (.ops [⟨some 76, none, k_mvt 10⟩,
    ⟨some 77, none, k_mvt 6⟩,
    ⟨some 78, none, k_mvt 14⟩,
    ⟨some 79, none, k_call (.c (.fn 94 [] [])) [.t 77, .t 78]⟩,
    ⟨some 80, none, k_fld false 1 1 (.t 79)⟩,
    ⟨some 81, none, k_ar ar_add (.t 76) (.t 80)⟩,
    ⟨some 10, none, k_mvt 81⟩])))
  (.ops [⟨some 82, none, k_ar ar_add (.t 72) (.c (.int .i64 1))⟩,
    ⟨some 72, none, k_mvt 82⟩])))))))
  (.seq (.seq (.ops [⟨some 83, none, k_mvt 9⟩,
    ⟨some 84, none, k_mvt 10⟩,
    ⟨some 85, none, k_ar ar_leq (.t 83) (.t 84)⟩])
  (.cond (.t 85) (.seq (.ops [⟨some 4, none, k_mvc (.int .i64 0)⟩,
    ⟨some 5, none, k_mvc (.int .i64 6)⟩])
  (.ret))
  (.skip)))
  (.seq (.ops [⟨some 86, none, k_mvt 9⟩,
    ⟨some 87, none, k_mvt 10⟩,
    ⟨some 88, none, k_ar ar_sub (.t 86) (.t 87)⟩,
    ⟨some 4, none, k_mvt 88⟩,
    ⟨some 5, none, k_mvc (.int .i64 0)⟩])
  (.ret))))))))))⟩
theorem k30_eq : c30.k = k30 := by kernel_rfl
def k31 : FK := ⟨8, [.tmp 4],
  .seq (.ops [⟨some 4, none, k_mvc (.bool false)⟩])
  (.seq (.ops [⟨some 5, none, k_mvt 0⟩,
    ⟨some 6, none, k_mvt 1⟩,
    ⟨some 7, none, k_call (.c (.fn 95 [] [])) [.t 5, .t 6]⟩,
    ⟨some 4, none, k_mvt 7⟩])
  (.ret))⟩
theorem k31_eq : c31.k = k31 := by kernel_rfl
def k36 : FK := ⟨21, [.tmp 2, .tmp 3],
  .seq (.ops [⟨some 1, none, k_box (.t 0)⟩,
    ⟨some 2, none, k_mvc (.nils)⟩,
    ⟨some 3, none, k_mvc (.int .i64 0)⟩])
  (.seq (.ops [⟨some 8, none, k_ld true 3 (.t 1)⟩,
    ⟨some 9, none, k_call (.c (.fn 79 [] [])) [.t 8]⟩,
    ⟨some 7, none, k_mvt 9⟩,
    ⟨some 10, none, k_ext (.t 7) 0⟩,
    ⟨some 11, none, k_ext (.t 7) 1⟩,
    ⟨some 12, none, k_ext (.t 7) 2⟩,
    ⟨some 5, none, k_alc [.int .i64 0, .int .i64 0, .int .i64 0, .int .i64 0, .int .i64 0, .int .i64 0, .int .i64 0, .int .i64 0, .int .i64 0, .int .i64 0, .int .i64 0, .int .i64 0, .int .i64 0, .int .i64 0, .int .i64 0, .int .i64 0, .int .i64 0, .int .i64 0, .int .i64 0, .int .i64 0, .int .i64 0, .int .i64 0, .int .i64 0, .int .i64 0]⟩,
    ⟨some 4, none, k_mvt 10⟩,
    ⟨none, none, k_sto 24 (.t 5) (.t 11)⟩,
    ⟨some 6, none, k_mvt 12⟩])
  (.seq (.seq (.ops [⟨some 13, none, k_mvt 6⟩,
    ⟨some 14, none, k_ar ar_neq (.t 13) (.c (.int .i64 0))⟩])
  (.cond (.t 14) (.seq (.ops [⟨some 15, none, k_mvt 6⟩,
    ⟨some 2, none, k_mvc (.nils)⟩,
    ⟨some 3, none, k_mvt 15⟩])
  (.ret))
  (.skip)))
  (.seq (.ops [⟨some 16, none, k_fad 1 (.t 1)⟩,
    ⟨some 17, none, k_ld false 1 (.t 16)⟩,
    ⟨some 18, none, k_len (.t 17)⟩,
    ⟨some 19, none, k_sla 12 2 (.t 5) none (some (.t 18)) none⟩,
    ⟨some 20, none, k_call (.c (.fn 96 [] [])) [.t 19]⟩,
    ⟨some 2, none, k_mvt 20⟩,
    ⟨some 3, none, k_mvc (.int .i64 0)⟩])
  (.ret))))⟩
theorem k36_eq : c36.k = k36 := by kernel_rfl
def k38 : FK := ⟨8, [.tmp 4],
  .seq (.ops [⟨some 4, none, k_mvc (.bool false)⟩])
  (.seq (.ops [⟨some 5, none, k_mvt 0⟩,
    ⟨some 6, none, k_mvt 1⟩,
    ⟨some 7, none, k_call (.c (.fn 97 [] [])) [.t 5, .t 6]⟩,
    ⟨some 4, none, k_mvt 7⟩])
  (.ret))⟩
theorem k38_eq : c38.k = k38 := by kernel_rfl
def k47 : FK := ⟨25, [.tmp 2, .tmp 3],
  .seq (.ops [⟨some 1, none, k_box (.t 0)⟩,
    ⟨some 2, none, k_mvc (.nils)⟩,
    ⟨some 3, none, k_mvc (.int .i64 0)⟩])
  (.seq (.ops [⟨some 9, none, k_ld true 3 (.t 1)⟩,
    ⟨some 10, none, k_call (.c (.fn 87 [] [])) [.t 9]⟩,
    ⟨some 8, none, k_mvt 10⟩,
    ⟨some 11, none, k_ext (.t 8) 0⟩,
    ⟨some 12, none, k_ext (.t 8) 1⟩,
    ⟨some 4, none, k_alc [.nilp]⟩,
    ⟨none, none, k_sto 1 (.t 4) (.t 11)⟩,
    ⟨some 5, none, k_mvt 12⟩])
  (.seq (.seq (.ops [⟨some 13, none, k_mvt 5⟩,
    ⟨some 14, none, k_ar ar_neq (.t 13) (.c (.int .i64 0))⟩])
  (.cond (.t 14) (.seq (.ops [⟨some 15, none, k_mvt 5⟩,
    ⟨some 2, none, k_mvc (.nils)⟩,
    ⟨some 3, none, k_mvt 15⟩])
  (.ret))
  (.skip)))
  (.seq (.ops [⟨some 17, none, k_ld false 1 (.t 4)⟩,
    ⟨some 18, none, k_mkf 107 [] [.t 4]⟩,
    ⟨some 19, none, k_call (.c (.fn 106 [] [])) [.t 17, .t 18]⟩,
    ⟨some 16, none, k_mvt 19⟩,
    ⟨some 20, none, k_ext (.t 16) 0⟩,
    ⟨some 21, none, k_ext (.t 16) 1⟩,
    ⟨some 6, none, k_mvt 20⟩,
    ⟨some 7, none, k_mvt 21⟩])
  (.seq (.seq (.ops [⟨some 22, none, k_mvt 7⟩,
    ⟨some 23, none, k_not (.t 22)⟩])
  (.cond (.t 23) (.seq (.ops [⟨some 2, none, k_mvc (.nils)⟩,
    ⟨some 3, none, k_mvc (.int .i64 6)⟩])
  (.ret))
  (.skip)))
  (.seq (.ops [⟨some 24, none, k_mvt 6⟩,
    ⟨some 2, none, k_mvt 24⟩,
    ⟨some 3, none, k_mvc (.int .i64 0)⟩])
  (.ret))))))⟩
theorem k47_eq : c47.k = k47 := by kernel_rfl
def k48 : FK := ⟨23, [.tmp 2, .tmp 3],
  .seq (.ops [⟨some 1, none, k_box (.t 0)⟩,
    ⟨some 2, none, k_mvc (.nils)⟩,
    ⟨some 3, none, k_mvc (.int .i64 0)⟩])
  (.seq (.ops [⟨some 9, none, k_ld true 3 (.t 1)⟩,
    ⟨some 10, none, k_call (.c (.fn 87 [] [])) [.t 9]⟩,
    ⟨some 8, none, k_mvt 10⟩,
    ⟨some 11, none, k_ext (.t 8) 0⟩,
    ⟨some 12, none, k_ext (.t 8) 1⟩,
    ⟨some 4, none, k_alc [.nilp]⟩,
    ⟨none, none, k_sto 1 (.t 4) (.t 11)⟩,
    ⟨some 5, none, k_mvt 12⟩])
  (.seq (.seq (.ops [⟨some 13, none, k_mvt 5⟩,
    ⟨some 14, none, k_ar ar_neq (.t 13) (.c (.int .i64 0))⟩])
  (.cond (.t 14) (.seq (.ops [⟨some 15, none, k_mvt 5⟩,
    ⟨some 2, none, k_mvc (.nils)⟩,
    ⟨some 3, none, k_mvt 15⟩])
  (.ret))
  (.skip)))
  (.seq (.ops [⟨some 17, none, k_ld false 1 (.t 4)⟩,
    ⟨some 18, none, k_mkf 108 [] [.t 4]⟩,
    ⟨some 19, none, k_call (.c (.fn 106 [] [])) [.t 17, .t 18]⟩,
    ⟨some 16, none, k_mvt 19⟩,
    ⟨some 20, none, k_ext (.t 16) 0⟩,
    ⟨some 21, none, k_ext (.t 16) 1⟩,
    ⟨some 6, none, k_mvt 20⟩,
    ⟨some 7, none, k_mvt 21⟩])
  (.seq (.ops [⟨some 22, none, k_mvt 6⟩,
    ⟨some 2, none, k_mvt 22⟩,
    ⟨some 3, none, k_mvc (.int .i64 0)⟩])
  (.ret)))))⟩
theorem k48_eq : c48.k = k48 := by kernel_rfl
def k54 : FK := ⟨61, [.tmp 2],
  .seq (.ops [⟨some 1, none, k_box (.t 0)⟩,
    ⟨some 2, none, k_mvc (.int .i64 0)⟩])
  (.seq (.seq (.ops [⟨some 6, none, k_fad 1 (.t 1)⟩,
    ⟨some 7, none, k_ld false 1 (.t 6)⟩,
    ⟨some 8, none, k_len (.t 7)⟩,
    ⟨some 9, none, k_call (.c (.fn 112 [] [])) [.t 8, .c (.int .i64 1), .c (.int .i64 12)]⟩,
    ⟨some 10, none, k_not (.t 9)⟩,
    ⟨some 11, none, k_mvt 10⟩,
    ⟨some 12, some (11, false), k_fad 2 (.t 1)⟩,
    ⟨some 13, some (11, false), k_ld false 1 (.t 12)⟩,
    ⟨some 14, some (11, false), k_len (.t 13)⟩,
    ⟨some 15, some (11, false), k_ar ar_gtr (.t 14) (.c (.int .i64 10))⟩,
    ⟨some 16, none, k_pick (.t 11) (.c (.bool true)) (.t 15)⟩])
  (.cond (.t 16) (.seq (.ops [⟨some 2, none, k_mvc (.int .i64 2)⟩])
  (.ret))
  (.skip)))
  (.seq (.seq (.ops [⟨some 17, none, k_fad 0 (.t 1)⟩,
    ⟨some 18, none, k_ld false 1 (.t 17)⟩,
    ⟨some 19, none, k_call (.c (.fn 112 [] [])) [.t 18, .c (.int .i64 0), .c (.int .i64 50)]⟩,
    ⟨some 20, none, k_not (.t 19)⟩,
    ⟨some 21, none, k_mvt 20⟩,
    ⟨some 22, some (21, false), k_fad 2 (.t 1)⟩,
    ⟨some 23, some (21, false), k_ld false 1 (.t 22)⟩,
    ⟨some 24, some (21, false), k_call (.c (.fn 113 [] [])) [.t 23, .c (.fn 114 [] [])]⟩,
    ⟨some 25, some (21, false), k_not (.t 24)⟩,
    ⟨some 26, none, k_pick (.t 21) (.c (.bool true)) (.t 25)⟩,
    ⟨some 27, none, k_mvt 26⟩,
    ⟨some 28, some (27, false), k_fad 1 (.t 1)⟩,
    ⟨some 29, some (27, false), k_ld false 1 (.t 28)⟩,
    ⟨some 30, some (27, false), k_call (.c (.fn 115 [] [])) [.t 29, .c (.fn 116 [] [])]⟩,
    ⟨some 31, some (27, false), k_not (.t 30)⟩,
    ⟨some 32, none, k_pick (.t 27) (.c (.bool true)) (.t 31)⟩])
  (.cond (.t 32) (.seq (.ops [⟨some 2, none, k_mvc (.int .i64 3)⟩])
  (.ret))
  (.skip)))
  (.seq (.seq (.ops [⟨some 33, none, k_fad 1 (.t 1)⟩,
    ⟨some 34, none, k_ld false 1 (.t 33)⟩,
    ⟨some 35, none, k_len (.t 34)⟩,
    ⟨some 36, none, k_mvc (.int .i64 0)⟩])
  (.block 0 (.loop (.seq (.ops [⟨some 37, none, k_ar ar_lss (.t 36) (.t 35)⟩])
  (.seq (.cond (.t 37) (.skip)
  (.exit 0))
  (.seq (.block 1 (.seq (.ops [⟨some 38, none, k_mvt 36⟩,
    ⟨some 39, none, k_iad 2 (.t 34) (.t 36)⟩,
    ⟨some 40, none, k_ld true 2 (.t 39)⟩,
    ⟨some 4, none, k_alc [.int .i64 0, .int .i64 0]⟩,
    ⟨some 3, none, k_mvt 38⟩,
    ⟨none, none, k_sto 2 (.t 4) (.t 40)⟩])
  (.seq (.ops [⟨some 41, none, k_fad 0 (.t 4)⟩,
    ⟨some 42, none, k_ld false 1 (.t 41)⟩,
    ⟨some 43, none, k_mvt 3⟩,
    ⟨some 44, none, k_ar ar_sub (.t 43) (.c (.int .i64 1))⟩,
    ⟨some 45, none, k_call (.c (.fn 112 [] [])) [.t 42, .c (.int .i64 (-1)), .t 44]⟩,
    ⟨some 46, none, k_not (.t 45)⟩])
  (.cond (.t 46) (.seq (.ops [⟨some 2, none, k_mvc (.int .i64 1)⟩])
  (.ret))
  (.skip)))))
  (.ops [⟨some 47, none, k_ar ar_add (.t 36) (.c (.int .i64 1))⟩,
    ⟨some 36, none, k_mvt 47⟩])))))))
  (.seq (.ops [⟨some 48, none, k_ld true 3 (.t 1)⟩,
    ⟨some 49, none, k_mkf 91 [.t 48] []⟩,
    ⟨some 5, none, k_alc [.nilf]⟩,
    ⟨none, none, k_sto 1 (.t 5) (.t 49)⟩])
  (.seq (.block 2 (.seq (.ops [⟨some 51, none, k_fad 2 (.t 1)⟩,
    ⟨some 52, none, k_ld false 1 (.t 51)⟩,
    ⟨some 53, none, k_mkf 117 [] [.t 5]⟩,
    ⟨some 54, none, k_call (.c (.fn 113 [] [])) [.t 52, .t 53]⟩,
    ⟨some 55, none, k_not (.t 54)⟩,
    ⟨some 50, none, k_mvt 55⟩])
  (.cond (.t 50) (.seq (.ops [⟨some 2, none, k_mvc (.int .i64 1)⟩])
  (.ret))
  (.seq (.ops [⟨some 57, none, k_fad 2 (.t 1)⟩,
    ⟨some 58, none, k_ld false 1 (.t 57)⟩,
    ⟨some 59, none, k_call (.c (.fn 113 [] [])) [.t 58, .c (.fn 118 [] [])]⟩,
    ⟨some 60, none, k_not (.t 59)⟩,
    ⟨some 56, none, k_mvt 60⟩])
  (.cond (.t 56) (.seq (.ops [⟨some 2, none, k_mvc (.int .i64 4)⟩])
  (.ret))
  (.skip))))))
  (.seq (.ops [⟨some 2, none, k_mvc (.int .i64 0)⟩])
  (.ret)))))))⟩
theorem k54_eq : c54.k = k54 := by kernel_rfl
def k61 : FK := ⟨9, [.tmp 4],
  .seq (.ops [⟨some 4, none, k_mvc (.bool false)⟩])
  (.seq (.ops [⟨some 5, none, k_mvt 0⟩,
    ⟨some 6, none, k_mvt 1⟩,
    ⟨some 7, none, k_call (.c (.fn 121 [] [])) [.t 5, .t 6]⟩,
    ⟨some 8, none, k_ar ar_geq (.t 7) (.c (.int .i64 0))⟩,
    ⟨some 4, none, k_mvt 8⟩])
  (.ret))⟩
theorem k61_eq : c61.k = k61 := by kernel_rfl
def k63 : FK := ⟨8, [.tmp 2],
  .seq (.ops [⟨some 2, none, k_mvc (.nils)⟩])
  (.seq (.seq (.ops [⟨some 3, none, k_mvt 0⟩,
    ⟨some 4, none, k_isn false (.t 3)⟩])
  (.cond (.t 4) (.seq (.ops [⟨some 2, none, k_mvc (.nils)⟩])
  (.ret))
  (.skip)))
  (.seq (.ops [⟨some 5, none, k_bsl 0 [] []⟩,
    ⟨some 6, none, k_mvt 0⟩,
    ⟨some 7, none, k_app 1 8 (.t 5) (.t 6)⟩,
    ⟨some 2, none, k_mvt 7⟩])
  (.ret)))⟩
theorem k63_eq : c63.k = k63 := by kernel_rfl
def k64 : FK := ⟨9, [.tmp 4],
  .seq (.ops [⟨some 4, none, k_mvc (.bool false)⟩])
  (.seq (.ops [⟨some 5, none, k_mvt 0⟩,
    ⟨some 6, none, k_mvt 1⟩,
    ⟨some 7, none, k_call (.c (.fn 122 [] [])) [.t 5, .t 6]⟩,
    ⟨some 8, none, k_ar ar_geq (.t 7) (.c (.int .i64 0))⟩,
    ⟨some 4, none, k_mvt 8⟩])
  (.ret))⟩
theorem k64_eq : c64.k = k64 := by kernel_rfl
def k72 : FK := ⟨28, [.cell 2 true 3],
  .seq (.ops [⟨some 2, none, k_alc [.int .i64 0, .nils, .nils]⟩])
  (.seq (.ops [⟨some 4, none, k_bld [.int .i64 0, .int .i64 0] [(0, 1, .c (.int .i64 10)), (1, 1, .c (.int .i64 10))]⟩,
    ⟨some 5, none, k_bld [.int .i64 0, .int .i64 0, .int .i64 0, .int .i64 0] [(0, 1, .c (.int .i64 0)), (1, 1, .c (.int .i64 1100)), (2, 2, .t 4)]⟩,
    ⟨some 6, none, k_bld [.int .i64 0, .int .i64 0] [(1, 1, .c (.int .i64 10))]⟩,
    ⟨some 7, none, k_bld [.int .i64 0, .int .i64 0, .int .i64 0, .int .i64 0] [(0, 1, .c (.int .i64 2)), (1, 1, .c (.int .i64 400)), (2, 2, .t 6)]⟩,
    ⟨some 8, none, k_bld [.int .i64 0, .int .i64 0] [(0, 1, .c (.int .i64 5)), (1, 1, .c (.int .i64 5))]⟩,
    ⟨some 9, none, k_bld [.int .i64 0, .int .i64 0, .int .i64 0, .int .i64 0] [(0, 1, .c (.int .i64 4)), (1, 1, .c (.int .i64 500)), (2, 2, .t 8)]⟩,
    ⟨some 10, none, k_bld [.int .i64 0, .int .i64 0, .int .i64 0, .int .i64 0] [(0, 1, .c (.int .i64 3)), (1, 1, .c (.int .i64 150))]⟩,
    ⟨some 11, none, k_bld [.int .i64 0, .int .i64 0, .int .i64 0, .int .i64 0] [(0, 1, .c (.int .i64 5)), (1, 1, .c (.int .i64 40))]⟩,
    ⟨some 12, none, k_bsl 5 [.int .i64 0, .int .i64 0, .int .i64 0, .int .i64 0, .int .i64 0, .int .i64 0, .int .i64 0, .int .i64 0, .int .i64 0, .int .i64 0, .int .i64 0, .int .i64 0, .int .i64 0, .int .i64 0, .int .i64 0, .int .i64 0, .int .i64 0, .int .i64 0, .int .i64 0, .int .i64 0] [(0, 4, .t 5), (4, 4, .t 7), (8, 4, .t 9), (12, 4, .t 10), (16, 4, .t 11)]⟩,
    ⟨some 3, none, k_mvt 12⟩])
  (.seq (.ops [⟨some 13, none, k_bld [.int .i64 0, .int .i64 0] [(0, 1, .c (.int .i64 (-1)))]⟩,
    ⟨some 14, none, k_bld [.int .i64 0, .int .i64 0] []⟩,
    ⟨some 15, none, k_bld [.int .i64 0, .int .i64 0] []⟩,
    ⟨some 16, none, k_bld [.int .i64 0, .int .i64 0] [(1, 1, .c (.int .i64 1))]⟩,
    ⟨some 17, none, k_bld [.int .i64 0, .int .i64 0] [(0, 1, .c (.int .i64 1)), (1, 1, .c (.int .i64 2))]⟩,
    ⟨some 18, none, k_bld [.int .i64 0, .int .i64 0] [(0, 1, .c (.int .i64 1)), (1, 1, .c (.int .i64 3))]⟩,
    ⟨some 19, none, k_bsl 6 [.int .i64 0, .int .i64 0, .int .i64 0, .int .i64 0, .int .i64 0, .int .i64 0, .int .i64 0, .int .i64 0, .int .i64 0, .int .i64 0, .int .i64 0, .int .i64 0] [(0, 2, .t 13), (2, 2, .t 14), (4, 2, .t 15), (6, 2, .t 16), (8, 2, .t 17), (10, 2, .t 18)]⟩,
    ⟨some 20, none, k_mvt 3⟩,
    ⟨some 21, none, k_mvt 0⟩,
    ⟨some 22, none, k_mvt 3⟩,
    ⟨some 23, none, k_len (.t 22)⟩,
    ⟨some 24, none, k_mn [.t 21, .t 23]⟩,
    ⟨some 25, none, k_mx [.c (.int .i64 0), .t 24]⟩,
    ⟨some 26, none, k_slc 4 (.t 20) none (some (.t 25)) none⟩,
    ⟨some 27, none, k_bld [.int .i64 0, .nils, .nils] [(0, 1, .c (.int .i64 2)), (1, 1, .t 19), (2, 1, .t 26)]⟩,
    ⟨none, none, k_sto 3 (.t 2) (.t 27)⟩])
  (.ret)))⟩
theorem k72_eq : c72.k = k72 := by kernel_rfl
def k78 : FK := ⟨9, [.tmp 2],
  .seq (.ops [⟨some 2, none, k_mvc (.bool false)⟩])
  (.seq (.ops [⟨some 3, none, k_mvt 0⟩,
    ⟨some 4, none, k_ar ar_geq (.t 3) (.c (.int .i64 0))⟩,
    ⟨some 5, none, k_mvt 4⟩,
    ⟨some 6, some (5, true), k_mvt 0⟩,
    ⟨some 7, some (5, true), k_ar ar_leq (.t 6) (.c (.int .i64 3))⟩,
    ⟨some 8, none, k_pick (.t 5) (.t 7) (.c (.bool false))⟩,
    ⟨some 2, none, k_mvt 8⟩])
  (.ret))⟩
theorem k78_eq : c78.k = k78 := by kernel_rfl
def k79 : FK := ⟨29, [.tmp 2, .cell 3 true 24, .tmp 4],
  .seq (.ops [⟨some 1, none, k_box (.t 0)⟩,
    ⟨some 2, none, k_mvc (.nilp)⟩,
    ⟨some 3, none, k_alc [.int .i64 0, .int .i64 0, .int .i64 0, .int .i64 0, .int .i64 0, .int .i64 0, .int .i64 0, .int .i64 0, .int .i64 0, .int .i64 0, .int .i64 0, .int .i64 0, .int .i64 0, .int .i64 0, .int .i64 0, .int .i64 0, .int .i64 0, .int .i64 0, .int .i64 0, .int .i64 0, .int .i64 0, .int .i64 0, .int .i64 0, .int .i64 0]⟩,
    ⟨some 4, none, k_mvc (.int .i64 0)⟩])
  (.seq (.ops [⟨some 10, none, k_ld true 3 (.t 1)⟩,
    ⟨some 11, none, k_call (.c (.fn 87 [] [])) [.t 10]⟩,
    ⟨some 9, none, k_mvt 11⟩,
    ⟨some 12, none, k_ext (.t 9) 0⟩,
    ⟨some 13, none, k_ext (.t 9) 1⟩,
    ⟨some 5, none, k_mvt 12⟩,
    ⟨some 6, none, k_mvt 13⟩])
  (.seq (.seq (.ops [⟨some 14, none, k_mvt 6⟩,
    ⟨some 15, none, k_ar ar_neq (.t 14) (.c (.int .i64 0))⟩])
  (.cond (.t 15) (.seq (.ops [⟨some 16, none, k_bld [.int .i64 0, .int .i64 0, .int .i64 0, .int .i64 0, .int .i64 0, .int .i64 0, .int .i64 0, .int .i64 0, .int .i64 0, .int .i64 0, .int .i64 0, .int .i64 0, .int .i64 0, .int .i64 0, .int .i64 0, .int .i64 0, .int .i64 0, .int .i64 0, .int .i64 0, .int .i64 0, .int .i64 0, .int .i64 0, .int .i64 0, .int .i64 0] []⟩,
    ⟨some 17, none, k_mvt 6⟩,
    ⟨some 2, none, k_mvc (.nilp)⟩,
    ⟨none, none, k_sto 24 (.t 3) (.t 16)⟩,
    ⟨some 4, none, k_mvt 17⟩])
  (.ret))
  (.skip)))
  (.seq (.ops [⟨some 19, none, k_mvt 5⟩,
    ⟨some 20, none, k_call (.c (.fn 125 [] [])) []⟩,
    ⟨some 21, none, k_call (.c (.fn 124 [] [])) [.t 19, .t 20]⟩,
    ⟨some 18, none, k_mvt 21⟩,
    ⟨some 22, none, k_ext (.t 18) 0⟩,
    ⟨some 23, none, k_ext (.t 18) 1⟩,
    ⟨some 7, none, k_alc [.int .i64 0, .int .i64 0, .int .i64 0, .int .i64 0, .int .i64 0, .int .i64 0, .int .i64 0, .int .i64 0, .int .i64 0, .int .i64 0, .int .i64 0, .int .i64 0, .int .i64 0, .int .i64 0, .int .i64 0, .int .i64 0, .int .i64 0, .int .i64 0, .int .i64 0, .int .i64 0, .int .i64 0, .int .i64 0, .int .i64 0, .int .i64 0]⟩,
    ⟨none, none, k_sto 24 (.t 7) (.t 22)⟩,
    ⟨some 8, none, k_mvt 23⟩])
  (.seq (.seq (.ops [⟨some 24, none, k_mvt 8⟩,
    ⟨some 25, none, k_not (.t 24)⟩])
  (.cond (.t 25) (.seq (.ops [⟨some 26, none, k_bld [.int .i64 0, .int .i64 0, .int .i64 0, .int .i64 0, .int .i64 0, .int .i64 0, .int .i64 0, .int .i64 0, .int .i64 0, .int .i64 0, .int .i64 0, .int .i64 0, .int .i64 0, .int .i64 0, .int .i64 0, .int .i64 0, .int .i64 0, .int .i64 0, .int .i64 0, .int .i64 0, .int .i64 0, .int .i64 0, .int .i64 0, .int .i64 0] []⟩,
    ⟨some 2, none, k_mvc (.nilp)⟩,
    ⟨none, none, k_sto 24 (.t 3) (.t 26)⟩,
    ⟨some 4, none, k_mvc (.int .i64 7)⟩])
  (.ret))
  (.skip)))
  (.seq (.dops [⟨⟨some 27, none, none, .mv (.t 5)⟩, ⟨some 27, none, k_mvt 5⟩⟩,
    ⟨⟨some 28, none, some (0, 0), .ld true 24 (.t 7)⟩, ⟨some 28, none, k_ld true 24 (.t 7)⟩⟩,
    ⟨⟨some 2, none, none, .mv (.t 27)⟩, ⟨some 2, none, k_mvt 27⟩⟩,
    ⟨⟨none, none, none, .sto 24 (.t 3) (.t 28)⟩, ⟨none, none, k_sto 24 (.t 3) (.t 28)⟩⟩,
    ⟨⟨some 4, none, none, .mv (.c (.int .i64 0))⟩, ⟨some 4, none, k_mvc (.int .i64 0)⟩⟩])
  (.ret))))))⟩
theorem k79_eq : c79.k = k79 := by kernel_rfl
def k80 : FK := ⟨84, [.tmp 8, .tmp 9],
  .seq (.ops [⟨some 5, none, k_box (.t 1)⟩,
    ⟨some 8, none, k_mvc (.int .i64 0)⟩,
    ⟨some 9, none, k_mvc (.int .i64 0)⟩])
  (.seq (.seq (.ops [⟨some 14, none, k_mvt 0⟩,
    ⟨some 15, none, k_chk (.t 14)⟩,
    ⟨some 16, none, k_fad 3 (.t 15)⟩,
    ⟨some 17, none, k_ld false 1 (.t 16)⟩,
    ⟨some 18, none, k_mvt 2⟩,
    ⟨some 19, none, k_lkp (.nils) (.t 17) (.t 18) false⟩,
    ⟨some 20, none, k_len (.t 19)⟩,
    ⟨some 21, none, k_ar ar_eql (.t 20) (.c (.int .i64 0))⟩])
  (.cond (.t 21) (.seq (.seq (.ops [⟨some 22, none, k_mvt 3⟩,
    ⟨some 23, none, k_mvt 0⟩,
    ⟨some 24, none, k_chk (.t 23)⟩,
    ⟨some 25, none, k_fad 0 (.t 24)⟩,
    ⟨some 26, none, k_fad 1 (.t 25)⟩,
    ⟨some 27, none, k_ld false 1 (.t 26)⟩,
    ⟨some 28, none, k_mvt 2⟩,
    ⟨some 29, none, k_iad 2 (.t 27) (.t 28)⟩,
    ⟨some 30, none, k_fad 1 (.t 29)⟩,
    ⟨some 31, none, k_ld false 1 (.t 30)⟩,
    ⟨some 32, none, k_call (.t 22) [.t 31]⟩])
  (.cond (.t 32) (.seq (.ops [⟨some 33, none, k_mvt 2⟩,
    ⟨some 34, none, k_iaa 12 2 (.t 5) (.t 33)⟩,
    ⟨some 35, none, k_fad 0 (.t 34)⟩,
    ⟨some 36, none, k_ld false 1 (.t 35)⟩,
    ⟨some 8, none, k_mvt 36⟩,
    ⟨some 9, none, k_mvc (.int .i64 0)⟩])
  (.ret))
  (.skip)))
  (.seq (.dops [⟨⟨some 37, none, none, .mv (.t 2)⟩, ⟨some 37, none, k_mvt 2⟩⟩,
    ⟨⟨some 38, none, none, .iaa 12 2 (.t 5) (.t 37)⟩, ⟨some 38, none, k_iaa 12 2 (.t 5) (.t 37)⟩⟩,
    ⟨⟨some 39, none, none, .fad 1 (.t 38)⟩, ⟨some 39, none, k_fad 1 (.t 38)⟩⟩,
    ⟨⟨some 40, none, some (0, 0), .ld false 1 (.t 39)⟩, ⟨some 40, none, k_ld false 1 (.t 39)⟩⟩,
    ⟨⟨some 8, none, none, .mv (.c (.int .i64 0))⟩, ⟨some 8, none, k_mvc (.int .i64 0)⟩⟩,
    ⟨⟨some 9, none, none, .mv (.t 40)⟩, ⟨some 9, none, k_mvt 40⟩⟩])
  (.ret)))
  (.skip)))
  (.seq (.seq (.ops [⟨some 41, none, k_mvt 0⟩,
    ⟨some 42, none, k_chk (.t 41)⟩,
    ⟨some 43, none, k_fad 3 (.t 42)⟩,
    ⟨some 44, none, k_ld false 1 (.t 43)⟩,
    ⟨some 45, none, k_mvt 2⟩,
    ⟨some 46, none, k_lkp (.nils) (.t 44) (.t 45) false⟩,
    ⟨some 47, none, k_len (.t 46)⟩,
    ⟨some 48, none, k_mvc (.int .i64 0)⟩])
  (.block 0 (.loop (.seq (.ops [⟨some 49, none, k_ar ar_lss (.t 48) (.t 47)⟩])
  (.seq (.cond (.t 49) (.skip)
  (.exit 0))
  (.seq (.block 1 (.seq (.ops [⟨some 50, none, k_iad 1 (.t 46) (.t 48)⟩,
    ⟨some 51, none, k_ld false 1 (.t 50)⟩,
    ⟨some 11, none, k_mvt 51⟩])
  (.seq (.ops [⟨some 53, none, k_mvt 0⟩,
    ⟨some 54, none, k_ld true 24 (.t 5)⟩,
    ⟨some 55, none, k_mvt 11⟩,
    ⟨some 56, none, k_mvt 3⟩,
    ⟨some 57, none, k_call (.c (.fn 80 [] [])) [.t 53, .t 54, .t 55, .t 56]⟩,
    ⟨some 52, none, k_mvt 57⟩,
    ⟨some 58, none, k_ext (.t 52) 0⟩,
    ⟨some 59, none, k_ext (.t 52) 1⟩,
    ⟨some 12, none, k_mvt 58⟩,
    ⟨some 13, none, k_mvt 59⟩])
  (.ops [⟨some 60, none, k_mvt 8⟩,
    ⟨some 61, none, k_mvt 12⟩,
    ⟨some 62, none, k_ar ar_add (.t 60) (.t 61)⟩,
    ⟨some 63, none, k_mvt 9⟩,
    ⟨some 64, none, k_mvt 13⟩,
    ⟨some 65, none, k_ar ar_add (.t 63) (.t 64)⟩,
    ⟨some 8, none, k_mvt 62⟩,
    ⟨some 9, none, k_mvt 65⟩]))))
  (.ops [⟨some 66, none, k_ar ar_add (.t 48) (.c (.int .i64 1))⟩,
    ⟨some 48, none, k_mvt 66⟩])))))))
  (.seq (.dops [⟨⟨some 67, none, none, .mv (.t 8)⟩, ⟨some 67, none, k_mvt 8⟩⟩,
    ⟨⟨some 68, none, none, .mv (.t 2)⟩, ⟨some 68, none, k_mvt 2⟩⟩,
    ⟨⟨some 69, none, none, .iaa 12 2 (.t 5) (.t 68)⟩, ⟨some 69, none, k_iaa 12 2 (.t 5) (.t 68)⟩⟩,
    ⟨⟨some 70, none, none, .fad 0 (.t 69)⟩, ⟨some 70, none, k_fad 0 (.t 69)⟩⟩,
    ⟨⟨some 71, none, some (0, 1), .ld false 1 (.t 70)⟩, ⟨some 71, none, k_ld false 1 (.t 70)⟩⟩,
    ⟨⟨some 72, none, none, .mv (.t 9)⟩, ⟨some 72, none, k_mvt 9⟩⟩,
    ⟨⟨some 73, none, none, .ar .sub (.t 71) (.t 72)⟩, ⟨some 73, none, k_ar ar_sub (.t 71) (.t 72)⟩⟩,
    ⟨⟨some 74, none, none, .mx [.t 67, .t 73]⟩, ⟨some 74, none, k_mx [.t 67, .t 73]⟩⟩,
    ⟨⟨some 75, none, none, .mv (.t 9)⟩, ⟨some 75, none, k_mvt 9⟩⟩,
    ⟨⟨some 76, none, none, .mv (.t 2)⟩, ⟨some 76, none, k_mvt 2⟩⟩,
    ⟨⟨some 77, none, none, .iaa 12 2 (.t 5) (.t 76)⟩, ⟨some 77, none, k_iaa 12 2 (.t 5) (.t 76)⟩⟩,
    ⟨⟨some 78, none, none, .fad 1 (.t 77)⟩, ⟨some 78, none, k_fad 1 (.t 77)⟩⟩,
    ⟨⟨some 79, none, some (0, 0), .ld false 1 (.t 78)⟩, ⟨some 79, none, k_ld false 1 (.t 78)⟩⟩,
    ⟨⟨some 80, none, none, .mv (.t 8)⟩, ⟨some 80, none, k_mvt 8⟩⟩,
    ⟨⟨some 81, none, none, .ar .sub (.t 79) (.t 80)⟩, ⟨some 81, none, k_ar ar_sub (.t 79) (.t 80)⟩⟩,
    ⟨⟨some 82, none, none, .bsl 1 [.int .i64 0] [(0, 1, .t 81)]⟩, ⟨some 82, none, k_bsl 1 [.int .i64 0] [(0, 1, .t 81)]⟩⟩,
    ⟨⟨some 83, none, none, .call (.c (.fn 131 [] [])) [.t 75, .t 82]⟩, ⟨some 83, none, k_call (.c (.fn 131 [] [])) [.t 75, .t 82]⟩⟩,
    ⟨⟨some 8, none, none, .mv (.t 74)⟩, ⟨some 8, none, k_mvt 74⟩⟩,
    ⟨⟨some 9, none, none, .mv (.t 83)⟩, ⟨some 9, none, k_mvt 83⟩⟩])
  (.ret))))⟩
theorem k80_eq : c80.k = k80 := by kernel_rfl
def k81 : FK := ⟨7, [.tmp 3],
  .seq (.ops [⟨some 3, none, k_mvc (.bool false)⟩])
  (.seq (.ops [⟨some 4, none, k_mvt 0⟩,
    ⟨some 5, none, k_ld false 1 (.t 1)⟩,
    ⟨some 6, none, k_ar ar_eql (.t 4) (.t 5)⟩,
    ⟨some 3, none, k_mvt 6⟩])
  (.ret))⟩
theorem k81_eq : c81.k = k81 := by kernel_rfl
def k82 : FK := ⟨7, [.tmp 3],
  .seq (.ops [⟨some 3, none, k_mvc (.bool false)⟩])
  (.seq (.ops [⟨some 4, none, k_mvt 0⟩,
    ⟨some 5, none, k_ld false 1 (.t 1)⟩,
    ⟨some 6, none, k_ar ar_neq (.t 4) (.t 5)⟩,
    ⟨some 3, none, k_mvt 6⟩])
  (.ret))⟩
theorem k82_eq : c82.k = k82 := by kernel_rfl
def k87 : FK := ⟨43, [.tmp 2, .tmp 3],
  .seq (.ops [⟨some 1, none, k_box (.t 0)⟩,
    ⟨some 2, none, k_mvc (.nilp)⟩,
    ⟨some 3, none, k_mvc (.int .i64 0)⟩])
  (.seq (.seq (.ops [⟨some 8, none, k_ld true 3 (.t 1)⟩,
    ⟨some 9, none, k_call (.c (.fn 54 [] [])) [.t 8]⟩,
    ⟨some 4, none, k_mvt 9⟩])
  (.seq (.ops [⟨some 10, none, k_mvt 4⟩,
    ⟨some 11, none, k_ar ar_neq (.t 10) (.c (.int .i64 0))⟩])
  (.cond (.t 11) (.seq (.ops [⟨some 12, none, k_mvt 4⟩,
    ⟨some 2, none, k_mvc (.nilp)⟩,
    ⟨some 3, none, k_mvt 12⟩])
  (.ret))
  (.skip))))
  (.seq (.ops [⟨some 13, none, k_ld true 3 (.t 1)⟩,
    ⟨some 14, none, k_mkm⟩,
    ⟨some 15, none, k_bld [.int .i64 0, .nils, .nils, .nilm] [(0, 3, .t 13), (3, 1, .t 14)]⟩,
    ⟨some 16, none, k_box (.t 15)⟩,
    ⟨some 5, none, k_mvt 16⟩])
  (.seq (.seq (.ops [⟨some 17, none, k_fad 1 (.t 1)⟩,
    ⟨some 18, none, k_ld false 1 (.t 17)⟩,
    ⟨some 19, none, k_len (.t 18)⟩,
    ⟨some 20, none, k_mvc (.int .i64 0)⟩])
  (.block 0 (.loop (.seq (.ops [⟨some 21, none, k_ar ar_lss (.t 20) (.t 19)⟩])
  (.seq (.cond (.t 21) (.skip)
  (.exit 0))
  (.seq (.block 1 (.seq (.ops [⟨some 22, none, k_mvt 20⟩,
    ⟨some 23, none, k_iad 2 (.t 18) (.t 20)⟩,
    ⟨some 24, none, k_ld true 2 (.t 23)⟩,
    ⟨some 7, none, k_alc [.int .i64 0, .int .i64 0]⟩,
    ⟨some 6, none, k_mvt 22⟩,
    ⟨none, none, k_sto 2 (.t 7) (.t 24)⟩])
  (.dops [⟨⟨some 25, none, none, .mv (.t 5)⟩, ⟨some 25, none, k_mvt 5⟩⟩,
    ⟨⟨some 26, none, none, .chk (.t 25)⟩, ⟨some 26, none, k_chk (.t 25)⟩⟩,
    ⟨⟨some 27, none, none, .fad 3 (.t 26)⟩, ⟨some 27, none, k_fad 3 (.t 26)⟩⟩,
    ⟨⟨some 28, none, some (0, 1), .ld false 1 (.t 27)⟩, ⟨some 28, none, k_ld false 1 (.t 27)⟩⟩,
    ⟨⟨some 29, none, none, .fad 0 (.t 7)⟩, ⟨some 29, none, k_fad 0 (.t 7)⟩⟩,
    ⟨⟨some 30, none, some (0, 1), .ld false 1 (.t 29)⟩, ⟨some 30, none, k_ld false 1 (.t 29)⟩⟩,
    ⟨⟨some 31, none, none, .mv (.t 5)⟩, ⟨some 31, none, k_mvt 5⟩⟩,
    ⟨⟨some 32, none, none, .chk (.t 31)⟩, ⟨some 32, none, k_chk (.t 31)⟩⟩,
    ⟨⟨some 33, none, none, .fad 3 (.t 32)⟩, ⟨some 33, none, k_fad 3 (.t 32)⟩⟩,
    ⟨⟨some 34, none, some (0, 0), .ld false 1 (.t 33)⟩, ⟨some 34, none, k_ld false 1 (.t 33)⟩⟩,
    ⟨⟨some 35, none, none, .fad 0 (.t 7)⟩, ⟨some 35, none, k_fad 0 (.t 7)⟩⟩,
    ⟨⟨some 36, none, some (0, 0), .ld false 1 (.t 35)⟩, ⟨some 36, none, k_ld false 1 (.t 35)⟩⟩,
    ⟨⟨some 37, none, some (0, 0), .lkp none (.nils) (.t 34) (.t 36) false⟩, ⟨some 37, none, k_lkp (.nils) (.t 34) (.t 36) false⟩⟩,
    ⟨⟨some 38, none, none, .mv (.t 6)⟩, ⟨some 38, none, k_mvt 6⟩⟩,
    ⟨⟨some 39, none, none, .bsl 1 [.int .i64 0] [(0, 1, .t 38)]⟩, ⟨some 39, none, k_bsl 1 [.int .i64 0] [(0, 1, .t 38)]⟩⟩,
    ⟨⟨some 40, none, none, .app 1 8 (.t 37) (.t 39)⟩, ⟨some 40, none, k_app 1 8 (.t 37) (.t 39)⟩⟩,
    ⟨⟨none, none, none, .mup none (.t 28) (.t 30) (.t 40)⟩, ⟨none, none, k_mup (.t 28) (.t 30) (.t 40)⟩⟩])))
  (.ops [⟨some 41, none, k_ar ar_add (.t 20) (.c (.int .i64 1))⟩,
    ⟨some 20, none, k_mvt 41⟩])))))))
  (.seq (.ops [⟨some 42, none, k_mvt 5⟩,
    ⟨some 2, none, k_mvt 42⟩,
    ⟨some 3, none, k_mvc (.int .i64 0)⟩])
  (.ret)))))⟩
theorem k87_eq : c87.k = k87 := by kernel_rfl
def k88 : FK := ⟨64, [.cell 4 true 2],
  .seq (.ops [⟨some 4, none, k_alc [.int .i64 0, .nils]⟩])
  (.seq (.ops [⟨some 5, none, k_mvc (.nils)⟩])
  (.seq (.seq (.ops [⟨some 12, none, k_mvt 0⟩,
    ⟨some 13, none, k_chk (.t 12)⟩,
    ⟨some 14, none, k_fad 3 (.t 13)⟩,
    ⟨some 15, none, k_ld false 1 (.t 14)⟩,
    ⟨some 16, none, k_mvt 1⟩,
    ⟨some 17, none, k_lkp (.nils) (.t 15) (.t 16) false⟩,
    ⟨some 18, none, k_len (.t 17)⟩,
    ⟨some 19, none, k_mvc (.int .i64 0)⟩])
  (.block 0 (.loop (.seq (.ops [⟨some 20, none, k_ar ar_lss (.t 19) (.t 18)⟩])
  (.seq (.cond (.t 20) (.skip)
  (.exit 0))
  (.seq (.block 1 (.seq (.ops [⟨some 21, none, k_iad 1 (.t 17) (.t 19)⟩,
    ⟨some 22, none, k_ld false 1 (.t 21)⟩,
    ⟨some 7, none, k_mvt 22⟩])
  (.ops [⟨some 23, none, k_mvt 5⟩,
    ⟨some 24, none, k_mvt 0⟩,
    ⟨some 25, none, k_mvt 7⟩,
    ⟨some 26, none, k_call (.c (.fn 88 [] [])) [.t 24, .t 25]⟩,
    ⟨some 27, none, k_bsl 1 [.int .i64 0, .nils] [(0, 2, .t 26)]⟩,
    ⟨some 28, none, k_app 2 32 (.t 23) (.t 27)⟩,
    ⟨some 5, none, k_mvt 28⟩])))
  (.ops [⟨some 29, none, k_ar ar_add (.t 19) (.c (.int .i64 1))⟩,
    ⟨some 19, none, k_mvt 29⟩])))))))
  (.seq (.ops [⟨some 30, none, k_mvt 5⟩,
    ⟨some 31, none, k_call (.c (.fn 134 [] [])) [.t 30]⟩,
    ⟨some 8, none, k_alc [.int .i64 0, .nils]⟩,
    ⟨none, none, k_sto 2 (.t 8) (.t 31)⟩])
  (.seq (.seq (.ops [⟨some 32, none, k_mvt 0⟩,
    ⟨some 33, none, k_chk (.t 32)⟩,
    ⟨some 34, none, k_fad 0 (.t 33)⟩,
    ⟨some 35, none, k_fad 2 (.t 34)⟩,
    ⟨some 36, none, k_ld false 1 (.t 35)⟩,
    ⟨some 37, none, k_len (.t 36)⟩,
    ⟨some 38, none, k_mvc (.int .i64 0)⟩])
  (.block 2 (.loop (.seq (.ops [⟨some 39, none, k_ar ar_lss (.t 38) (.t 37)⟩])
  (.seq (.cond (.t 39) (.skip)
  (.exit 2))
  (.seq (.block 3 (.seq (.ops [⟨some 40, none, k_mvt 38⟩,
    ⟨some 41, none, k_iad 4 (.t 36) (.t 38)⟩,
    ⟨some 42, none, k_ld true 4 (.t 41)⟩,
    ⟨some 10, none, k_alc [.int .i64 0, .int .i64 0, .int .i64 0, .int .i64 0]⟩,
    ⟨some 9, none, k_mvt 40⟩,
    ⟨none, none, k_sto 4 (.t 10) (.t 42)⟩])
  (.seq (.ops [⟨some 43, none, k_mvt 0⟩,
    ⟨some 44, none, k_mvt 9⟩,
    ⟨some 45, none, k_call (.c (.fn 94 [] [])) [.t 43, .t 44]⟩,
    ⟨some 11, none, k_alc [.int .i64 0, .int .i64 0]⟩,
    ⟨none, none, k_sto 2 (.t 11) (.t 45)⟩])
  (.seq (.ops [⟨some 46, none, k_fad 0 (.t 10)⟩,
    ⟨some 47, none, k_ld false 1 (.t 46)⟩,
    ⟨some 48, none, k_mvt 1⟩,
    ⟨some 49, none, k_ar ar_eql (.t 47) (.t 48)⟩,
    ⟨some 50, none, k_mvt 49⟩,
    ⟨some 51, some (50, true), k_fad 0 (.t 11)⟩,
    ⟨some 52, some (50, true), k_ld false 1 (.t 51)⟩,
    ⟨some 53, some (50, true), k_fad 0 (.t 8)⟩,
    ⟨some 54, some (50, true), k_ld false 1 (.t 53)⟩,
    ⟨some 55, some (50, true), k_ar ar_gtr (.t 52) (.t 54)⟩,
    ⟨some 56, none, k_pick (.t 50) (.t 55) (.c (.bool false))⟩])
  (.cond (.t 56) (.ops [⟨some 57, none, k_fad 0 (.t 11)⟩,
    ⟨some 58, none, k_ld false 1 (.t 57)⟩,
    ⟨some 59, none, k_mvt 9⟩,
    ⟨some 60, none, k_bsl 1 [.int .i64 0] [(0, 1, .t 59)]⟩,
    ⟨some 61, none, k_bld [.int .i64 0, .nils] [(0, 1, .t 58), (1, 1, .t 60)]⟩,
    ⟨none, none, k_sto 2 (.t 8) (.t 61)⟩])
  (.skip))))))
  (.ops [⟨some 62, none, k_ar ar_add (.t 38) (.c (.int .i64 1))⟩,
    ⟨some 38, none, k_mvt 62⟩])))))))
  (.seq (.ops [⟨some 63, none, k_ld true 2 (.t 8)⟩,
    ⟨none, none, k_sto 2 (.t 4) (.t 63)⟩])
  (.ret))))))⟩
theorem k88_eq : c88.k = k88 := by kernel_rfl
def k89 : FK := ⟨81, [.cell 4 true 2],
  .seq (.ops [⟨some 4, none, k_alc [.int .i64 0, .nils]⟩])
  (.seq (.ops [⟨some 13, none, k_bld [.int .i64 0, .nils] [(0, 1, .c (.int .i64 10000))]⟩,
    ⟨some 5, none, k_alc [.int .i64 0, .nils]⟩,
    ⟨none, none, k_sto 2 (.t 5) (.t 13)⟩])
  (.seq (.ops [⟨some 6, none, k_mvc (.nils)⟩])
  (.seq (.seq (.ops [⟨some 14, none, k_mvt 0⟩,
    ⟨some 15, none, k_chk (.t 14)⟩,
    ⟨some 16, none, k_fad 3 (.t 15)⟩,
    ⟨some 17, none, k_ld false 1 (.t 16)⟩,
    ⟨some 18, none, k_mvt 1⟩,
    ⟨some 19, none, k_lkp (.nils) (.t 17) (.t 18) false⟩,
    ⟨some 20, none, k_len (.t 19)⟩,
    ⟨some 21, none, k_mvc (.int .i64 0)⟩])
  (.block 0 (.loop (.seq (.ops [⟨some 22, none, k_ar ar_lss (.t 21) (.t 20)⟩])
  (.seq (.cond (.t 22) (.skip)
  (.exit 0))
  (.seq (.block 1 (.seq (.ops [⟨some 23, none, k_iad 1 (.t 19) (.t 21)⟩,
    ⟨some 24, none, k_ld false 1 (.t 23)⟩,
    ⟨some 8, none, k_mvt 24⟩])
  (.ops [⟨some 25, none, k_mvt 6⟩,
    ⟨some 26, none, k_mvt 0⟩,
    ⟨some 27, none, k_mvt 8⟩,
    ⟨some 28, none, k_call (.c (.fn 89 [] [])) [.t 26, .t 27]⟩,
    ⟨some 29, none, k_bsl 1 [.int .i64 0, .nils] [(0, 2, .t 28)]⟩,
    ⟨some 30, none, k_app 2 32 (.t 25) (.t 29)⟩,
    ⟨some 6, none, k_mvt 30⟩])))
  (.ops [⟨some 31, none, k_ar ar_add (.t 21) (.c (.int .i64 1))⟩,
    ⟨some 21, none, k_mvt 31⟩])))))))
  (.seq (.seq (.ops [⟨some 32, none, k_mvt 6⟩,
    ⟨some 33, none, k_call (.c (.fn 134 [] [])) [.t 32]⟩,
    ⟨some 9, none, k_alc [.int .i64 0, .nils]⟩,
    ⟨none, none, k_sto 2 (.t 9) (.t 33)⟩])
  (.seq (.ops [⟨some 34, none, k_mvt 6⟩,
    ⟨some 35, none, k_len (.t 34)⟩,
    ⟨some 36, none, k_ar ar_gtr (.t 35) (.c (.int .i64 0))⟩,
    ⟨some 37, none, k_mvt 36⟩,
    ⟨some 38, some (37, true), k_mvt 6⟩,
    ⟨some 39, some (37, true), k_call (.c (.fn 135 [] [])) [.t 38, .c (.fn 136 [] [])]⟩,
    ⟨some 40, none, k_pick (.t 37) (.t 39) (.c (.bool false))⟩,
    ⟨some 41, none, k_mvt 40⟩,
    ⟨some 42, some (41, true), k_fad 0 (.t 9)⟩,
    ⟨some 43, some (41, true), k_ld false 1 (.t 42)⟩,
    ⟨some 44, some (41, true), k_fad 0 (.t 5)⟩,
    ⟨some 45, some (41, true), k_ld false 1 (.t 44)⟩,
    ⟨some 46, some (41, true), k_ar ar_lss (.t 43) (.t 45)⟩,
    ⟨some 47, none, k_pick (.t 41) (.t 46) (.c (.bool false))⟩])
  (.cond (.t 47) (.ops [⟨some 48, none, k_ld true 2 (.t 9)⟩,
    ⟨none, none, k_sto 2 (.t 5) (.t 48)⟩])
  (.skip))))
  (.seq (.seq (.ops [⟨some 49, none, k_mvt 0⟩,
    ⟨some 50, none, k_chk (.t 49)⟩,
    ⟨some 51, none, k_fad 0 (.t 50)⟩,
    ⟨some 52, none, k_fad 2 (.t 51)⟩,
    ⟨some 53, none, k_ld false 1 (.t 52)⟩,
    ⟨some 54, none, k_len (.t 53)⟩,
    ⟨some 55, none, k_mvc (.int .i64 0)⟩])
  (.block 2 (.loop (.seq (.ops [⟨some 56, none, k_ar ar_lss (.t 55) (.t 54)⟩])
  (.seq (.cond (.t 56) (.skip)
  (.exit 2))
  (.seq (.block 3 (.seq (.ops [⟨some 57, none, k_mvt 55⟩,
    ⟨some 58, none, k_iad 4 (.t 53) (.t 55)⟩,
    ⟨some 59, none, k_ld true 4 (.t 58)⟩,
    ⟨some 11, none, k_alc [.int .i64 0, .int .i64 0, .int .i64 0, .int .i64 0]⟩,
    ⟨some 10, none, k_mvt 57⟩,
    ⟨none, none, k_sto 4 (.t 11) (.t 59)⟩])
  (.seq (.ops [⟨some 60, none, k_mvt 0⟩,
    ⟨some 61, none, k_mvt 10⟩,
    ⟨some 62, none, k_call (.c (.fn 94 [] [])) [.t 60, .t 61]⟩,
    ⟨some 12, none, k_alc [.int .i64 0, .int .i64 0]⟩,
    ⟨none, none, k_sto 2 (.t 12) (.t 62)⟩])
  (.seq (.ops [⟨some 63, none, k_fad 0 (.t 11)⟩,
    ⟨some 64, none, k_ld false 1 (.t 63)⟩,
    ⟨some 65, none, k_mvt 1⟩,
    ⟨some 66, none, k_ar ar_eql (.t 64) (.t 65)⟩,
    ⟨some 67, none, k_mvt 66⟩,
    ⟨some 68, some (67, true), k_fad 1 (.t 12)⟩,
    ⟨some 69, some (67, true), k_ld false 1 (.t 68)⟩,
    ⟨some 70, some (67, true), k_fad 0 (.t 5)⟩,
    ⟨some 71, some (67, true), k_ld false 1 (.t 70)⟩,
    ⟨some 72, some (67, true), k_ar ar_lss (.t 69) (.t 71)⟩,
    ⟨some 73, none, k_pick (.t 67) (.t 72) (.c (.bool false))⟩])
  (.cond (.t 73) (.ops [⟨some 74, none, k_fad 1 (.t 12)⟩,
    ⟨some 75, none, k_ld false 1 (.t 74)⟩,
    ⟨some 76, none, k_mvt 10⟩,
    ⟨some 77, none, k_bsl 1 [.int .i64 0] [(0, 1, .t 76)]⟩,
    ⟨some 78, none, k_bld [.int .i64 0, .nils] [(0, 1, .t 75), (1, 1, .t 77)]⟩,
    ⟨none, none, k_sto 2 (.t 5) (.t 78)⟩])
  (.skip))))))
  (.ops [⟨some 79, none, k_ar ar_add (.t 55) (.c (.int .i64 1))⟩,
    ⟨some 55, none, k_mvt 79⟩])))))))
  (.seq (.ops [⟨some 80, none, k_ld true 2 (.t 5)⟩,
    ⟨none, none, k_sto 2 (.t 4) (.t 80)⟩])
  (.ret)))))))⟩
theorem k89_eq : c89.k = k89 := by kernel_rfl
def k90 : FK := ⟨11, [.tmp 4],
  .seq (.ops [⟨some 2, none, k_box (.t 0)⟩,
    ⟨some 4, none, k_mvc (.bool false)⟩])
  (.seq (.ops [⟨some 5, none, k_mvt 1⟩,
    ⟨some 6, none, k_fad 2 (.t 2)⟩,
    ⟨some 7, none, k_ld false 1 (.t 6)⟩,
    ⟨some 8, none, k_len (.t 7)⟩,
    ⟨some 9, none, k_ar ar_sub (.t 8) (.c (.int .i64 1))⟩,
    ⟨some 10, none, k_call (.c (.fn 112 [] [])) [.t 5, .c (.int .i64 0), .t 9]⟩,
    ⟨some 4, none, k_mvt 10⟩])
  (.ret))⟩
theorem k90_eq : c90.k = k90 := by kernel_rfl
def k91 : FK := ⟨11, [.tmp 4],
  .seq (.ops [⟨some 2, none, k_box (.t 0)⟩,
    ⟨some 4, none, k_mvc (.bool false)⟩])
  (.seq (.ops [⟨some 5, none, k_mvt 1⟩,
    ⟨some 6, none, k_fad 1 (.t 2)⟩,
    ⟨some 7, none, k_ld false 1 (.t 6)⟩,
    ⟨some 8, none, k_len (.t 7)⟩,
    ⟨some 9, none, k_ar ar_sub (.t 8) (.c (.int .i64 1))⟩,
    ⟨some 10, none, k_call (.c (.fn 112 [] [])) [.t 5, .c (.int .i64 0), .t 9]⟩,
    ⟨some 4, none, k_mvt 10⟩])
  (.ret))⟩
theorem k91_eq : c91.k = k91 := by kernel_rfl
def k92 : FK := ⟨9, [.tmp 4],
  .seq (.ops [⟨some 3, none, k_box (.t 1)⟩,
    ⟨some 4, none, k_mvc (.bool false)⟩])
  (.seq (.ops [⟨some 5, none, k_mvt 0⟩,
    ⟨some 6, none, k_mkf 137 [] [.t 3]⟩,
    ⟨some 7, none, k_call (.c (.fn 64 [] [])) [.t 5, .t 6]⟩,
    ⟨some 8, none, k_not (.t 7)⟩,
    ⟨some 4, none, k_mvt 8⟩])
  (.ret))⟩
theorem k92_eq : c92.k = k92 := by kernel_rfl
def k93 : FK := ⟨49, [.cell 4 false 1],
  .seq (.ops [⟨some 2, none, k_box (.t 0)⟩,
    ⟨some 3, none, k_box (.t 1)⟩,
    ⟨some 4, none, k_alc [.bool false]⟩])
  (.seq (.ops [⟨some 7, none, k_mkf 138 [] [.t 2, .t 3]⟩,
    ⟨some 5, none, k_mvt 7⟩])
  (.seq (.seq (.ops [⟨some 8, none, k_fad 1 (.t 3)⟩,
    ⟨some 9, none, k_ld false 1 (.t 8)⟩,
    ⟨some 10, none, k_mvt 5⟩,
    ⟨some 11, none, k_call (.c (.fn 92 [] [])) [.t 9, .t 10]⟩,
    ⟨some 12, none, k_not (.t 11)⟩,
    ⟨some 13, none, k_mvt 12⟩,
    ⟨some 14, some (13, false), k_fad 2 (.t 3)⟩,
    ⟨some 15, some (13, false), k_ld false 1 (.t 14)⟩,
    ⟨some 16, some (13, false), k_mvt 5⟩,
    ⟨some 17, some (13, false), k_call (.c (.fn 92 [] [])) [.t 15, .t 16]⟩,
    ⟨some 18, some (13, false), k_not (.t 17)⟩,
    ⟨some 19, none, k_pick (.t 13) (.c (.bool true)) (.t 18)⟩,
    ⟨some 20, none, k_mvt 19⟩,
    ⟨some 21, some (20, false), k_ld false 1 (.t 2)⟩,
    ⟨some 22, some (20, false), k_fad 1 (.t 3)⟩,
    ⟨some 23, some (20, false), k_ld false 1 (.t 22)⟩,
    ⟨some 24, some (20, false), k_call (.c (.fn 139 [] [])) [.t 21, .t 23]⟩,
    ⟨some 25, some (20, false), k_not (.t 24)⟩,
    ⟨some 26, none, k_pick (.t 20) (.c (.bool true)) (.t 25)⟩,
    ⟨some 27, none, k_mvt 26⟩,
    ⟨some 28, some (27, false), k_ld false 1 (.t 2)⟩,
    ⟨some 29, some (27, false), k_fad 2 (.t 3)⟩,
    ⟨some 30, some (27, false), k_ld false 1 (.t 29)⟩,
    ⟨some 31, some (27, false), k_call (.c (.fn 139 [] [])) [.t 28, .t 30]⟩,
    ⟨some 32, some (27, false), k_not (.t 31)⟩,
    ⟨some 33, none, k_pick (.t 27) (.c (.bool true)) (.t 32)⟩])
  (.cond (.t 33) (.seq (.ops [⟨none, none, k_sto 1 (.t 4) (.c (.bool false))⟩])
  (.ret))
  (.skip)))
  (.seq (.seq (.ops [⟨some 34, none, k_ld false 1 (.t 2)⟩,
    ⟨some 35, none, k_fad 0 (.t 3)⟩,
    ⟨some 36, none, k_ld false 1 (.t 35)⟩,
    ⟨some 37, none, k_call (.c (.fn 140 [] [])) [.t 34, .t 36]⟩])
  (.block 0 (.rf (.t 37) [38] (.ops [⟨some 6, none, none, .alc [.int .i64 0]⟩,
    ⟨none, none, none, .sto 1 (.t 6) (.t 38)⟩]) (.block 1 (.seq (.ops [⟨some 39, none, none, .fad 2 (.t 3)⟩,
    ⟨some 40, none, none, .ld false 1 (.t 39)⟩,
    ⟨some 41, none, none, .len (.t 40)⟩,
    ⟨some 42, none, none, .ar .gtr (.t 41) (.c (.int .i64 0))⟩,
    ⟨some 43, none, none, .mv (.t 42)⟩,
    ⟨some 44, some (43, true), none, .fad 2 (.t 3)⟩,
    ⟨some 45, some (43, true), none, .ld false 1 (.t 44)⟩,
    ⟨some 46, some (43, true), none, .mkf 141 [] [.t 2, .t 6]⟩,
    ⟨some 47, some (43, true), none, .call (.c (.fn 92 [] [])) [.t 45, .t 46]⟩,
    ⟨some 48, none, none, .pick (.t 43) (.t 47) (.c (.bool false))⟩])
  (.cond (.t 48) (.seq (.ops [⟨none, none, none, .sto 1 (.t 4) (.c (.bool false))⟩])
  (.ret))
  (.skip)))))))
  (.seq (.ops [⟨none, none, k_sto 1 (.t 4) (.c (.bool true))⟩])
  (.ret)))))⟩
theorem k93_eq : c93.k = k93 := by kernel_rfl
def k94 : FK := ⟨53, [.cell 4 true 2],
  .seq (.ops [⟨some 4, none, k_alc [.int .i64 0, .int .i64 0]⟩])
  (.seq (.ops [⟨some 8, none, k_mvt 0⟩,
    ⟨some 9, none, k_chk (.t 8)⟩,
    ⟨some 10, none, k_fad 0 (.t 9)⟩,
    ⟨some 11, none, k_fad 2 (.t 10)⟩,
    ⟨some 12, none, k_ld false 1 (.t 11)⟩,
    ⟨some 13, none, k_mvt 1⟩,
    ⟨some 14, none, k_iad 4 (.t 12) (.t 13)⟩,
    ⟨some 15, none, k_ld true 4 (.t 14)⟩,
    ⟨some 5, none, k_alc [.int .i64 0, .int .i64 0, .int .i64 0, .int .i64 0]⟩,
    ⟨none, none, k_sto 4 (.t 5) (.t 15)⟩])
  (.seq (.dops [⟨⟨some 16, none, none, .fad 2 (.t 5)⟩, ⟨some 16, none, k_fad 2 (.t 5)⟩⟩,
    ⟨⟨some 17, none, none, .fad 1 (.t 16)⟩, ⟨some 17, none, k_fad 1 (.t 16)⟩⟩,
    ⟨⟨some 18, none, some (0, 0), .ld false 1 (.t 17)⟩, ⟨some 18, none, k_ld false 1 (.t 17)⟩⟩,
    ⟨⟨some 19, none, none, .ar .add (.c (.int .i64 100)) (.t 18)⟩, ⟨some 19, none, k_ar ar_add (.c (.int .i64 100)) (.t 18)⟩⟩,
    ⟨⟨some 20, none, none, .fad 2 (.t 5)⟩, ⟨some 20, none, k_fad 2 (.t 5)⟩⟩,
    ⟨⟨some 21, none, none, .fad 0 (.t 20)⟩, ⟨some 21, none, k_fad 0 (.t 20)⟩⟩,
    ⟨⟨some 22, none, some (0, 0), .ld false 1 (.t 21)⟩, ⟨some 22, none, k_ld false 1 (.t 21)⟩⟩,
    ⟨⟨some 23, none, none, .ar .add (.c (.int .i64 100)) (.t 22)⟩, ⟨some 23, none, k_ar ar_add (.c (.int .i64 100)) (.t 22)⟩⟩,
    ⟨⟨some 6, none, none, .mv (.t 19)⟩, ⟨some 6, none, k_mvt 19⟩⟩,
    ⟨⟨some 7, none, none, .mv (.t 23)⟩, ⟨some 7, none, k_mvt 23⟩⟩])
  (.seq (.dops [⟨⟨some 24, none, none, .fad 1 (.t 5)⟩, ⟨some 24, none, k_fad 1 (.t 5)⟩⟩,
    ⟨⟨some 25, none, some (0, 1), .ld false 1 (.t 24)⟩, ⟨some 25, none, k_ld false 1 (.t 24)⟩⟩,
    ⟨⟨some 26, none, none, .mv (.t 0)⟩, ⟨some 26, none, k_mvt 0⟩⟩,
    ⟨⟨some 27, none, none, .chk (.t 26)⟩, ⟨some 27, none, k_chk (.t 26)⟩⟩,
    ⟨⟨some 28, none, none, .fad 0 (.t 27)⟩, ⟨some 28, none, k_fad 0 (.t 27)⟩⟩,
    ⟨⟨some 29, none, none, .fad 0 (.t 28)⟩, ⟨some 29, none, k_fad 0 (.t 28)⟩⟩,
    ⟨⟨some 30, none, some (0, 1), .ld false 1 (.t 29)⟩, ⟨some 30, none, k_ld false 1 (.t 29)⟩⟩,
    ⟨⟨some 31, none, none, .ar .sub (.t 25) (.t 30)⟩, ⟨some 31, none, k_ar ar_sub (.t 25) (.t 30)⟩⟩,
    ⟨⟨some 32, none, none, .mx [.c (.int .i64 0), .t 31]⟩, ⟨some 32, none, k_mx [.c (.int .i64 0), .t 31]⟩⟩,
    ⟨⟨some 33, none, none, .ar .mul (.c (.int .i64 100)) (.t 32)⟩, ⟨some 33, none, k_ar ar_mul (.c (.int .i64 100)) (.t 32)⟩⟩,
    ⟨⟨some 34, none, none, .mv (.t 6)⟩, ⟨some 34, none, k_mvt 6⟩⟩,
    ⟨⟨some 35, none, none, .ar .add (.t 33) (.t 34)⟩, ⟨some 35, none, k_ar ar_add (.t 33) (.t 34)⟩⟩,
    ⟨⟨some 36, none, none, .ar .sub (.t 35) (.c (.int .i64 1))⟩, ⟨some 36, none, k_ar ar_sub (.t 35) (.c (.int .i64 1))⟩⟩,
    ⟨⟨some 37, none, none, .mv (.t 6)⟩, ⟨some 37, none, k_mvt 6⟩⟩,
    ⟨⟨some 38, none, none, .ar .quo (.t 36) (.t 37)⟩, ⟨some 38, none, k_ar quoV (.t 36) (.t 37)⟩⟩,
    ⟨⟨some 39, none, none, .fad 1 (.t 5)⟩, ⟨some 39, none, k_fad 1 (.t 5)⟩⟩,
    ⟨⟨some 40, none, some (0, 0), .ld false 1 (.t 39)⟩, ⟨some 40, none, k_ld false 1 (.t 39)⟩⟩,
    ⟨⟨some 41, none, none, .mv (.t 0)⟩, ⟨some 41, none, k_mvt 0⟩⟩,
    ⟨⟨some 42, none, none, .chk (.t 41)⟩, ⟨some 42, none, k_chk (.t 41)⟩⟩,
    ⟨⟨some 43, none, none, .fad 0 (.t 42)⟩, ⟨some 43, none, k_fad 0 (.t 42)⟩⟩,
    ⟨⟨some 44, none, none, .fad 0 (.t 43)⟩, ⟨some 44, none, k_fad 0 (.t 43)⟩⟩,
    ⟨⟨some 45, none, some (0, 0), .ld false 1 (.t 44)⟩, ⟨some 45, none, k_ld false 1 (.t 44)⟩⟩,
    ⟨⟨some 46, none, none, .ar .add (.t 40) (.t 45)⟩, ⟨some 46, none, k_ar ar_add (.t 40) (.t 45)⟩⟩,
    ⟨⟨some 47, none, none, .ar .mul (.c (.int .i64 100)) (.t 46)⟩, ⟨some 47, none, k_ar ar_mul (.c (.int .i64 100)) (.t 46)⟩⟩,
    ⟨⟨some 48, none, none, .mv (.t 7)⟩, ⟨some 48, none, k_mvt 7⟩⟩,
    ⟨⟨some 49, none, none, .ar .quo (.t 47) (.t 48)⟩, ⟨some 49, none, k_ar quoV (.t 47) (.t 48)⟩⟩,
    ⟨⟨some 50, none, none, .bsl 1 [.int .i64 0] [(0, 1, .t 49)]⟩, ⟨some 50, none, k_bsl 1 [.int .i64 0] [(0, 1, .t 49)]⟩⟩,
    ⟨⟨some 51, none, none, .call (.c (.fn 131 [] [])) [.c (.int .i64 10000), .t 50]⟩, ⟨some 51, none, k_call (.c (.fn 131 [] [])) [.c (.int .i64 10000), .t 50]⟩⟩,
    ⟨⟨some 52, none, none, .bld [.int .i64 0, .int .i64 0] [(0, 1, .t 38), (1, 1, .t 51)]⟩, ⟨some 52, none, k_bld [.int .i64 0, .int .i64 0] [(0, 1, .t 38), (1, 1, .t 51)]⟩⟩,
    ⟨⟨none, none, none, .sto 2 (.t 4) (.t 52)⟩, ⟨none, none, k_sto 2 (.t 4) (.t 52)⟩⟩])
  (.ret))))⟩
theorem k94_eq : c94.k = k94 := by kernel_rfl
def k95 : FK := ⟨26, [.tmp 4],
  .seq (.ops [⟨some 4, none, k_mvc (.bool false)⟩])
  (.seq (.seq (.ops [⟨some 6, none, k_mvt 0⟩,
    ⟨some 7, none, k_len (.t 6)⟩,
    ⟨some 8, none, k_mvt 1⟩,
    ⟨some 9, none, k_len (.t 8)⟩,
    ⟨some 10, none, k_ar ar_neq (.t 7) (.t 9)⟩])
  (.cond (.t 10) (.seq (.ops [⟨some 4, none, k_mvc (.bool false)⟩])
  (.ret))
  (.skip)))
  (.seq (.seq (.ops [⟨some 11, none, k_mvt 0⟩,
    ⟨some 12, none, k_len (.t 11)⟩,
    ⟨some 13, none, k_mvc (.int .i64 0)⟩])
  (.block 0 (.loop (.seq (.ops [⟨some 14, none, k_ar ar_lss (.t 13) (.t 12)⟩])
  (.seq (.cond (.t 14) (.skip)
  (.exit 0))
  (.seq (.block 1 (.seq (.ops [⟨some 15, none, k_mvt 13⟩,
    ⟨some 5, none, k_mvt 15⟩])
  (.seq (.dops [⟨⟨some 16, none, none, .mv (.t 0)⟩, ⟨some 16, none, k_mvt 0⟩⟩,
    ⟨⟨some 17, none, none, .mv (.t 5)⟩, ⟨some 17, none, k_mvt 5⟩⟩,
    ⟨⟨some 18, none, none, .iad 1 (.t 16) (.t 17)⟩, ⟨some 18, none, k_iad 1 (.t 16) (.t 17)⟩⟩,
    ⟨⟨some 19, none, some (0, 0), .ld false 1 (.t 18)⟩, ⟨some 19, none, k_ld false 1 (.t 18)⟩⟩,
    ⟨⟨some 20, none, none, .mv (.t 1)⟩, ⟨some 20, none, k_mvt 1⟩⟩,
    ⟨⟨some 21, none, none, .mv (.t 5)⟩, ⟨some 21, none, k_mvt 5⟩⟩,
    ⟨⟨some 22, none, none, .iad 1 (.t 20) (.t 21)⟩, ⟨some 22, none, k_iad 1 (.t 20) (.t 21)⟩⟩,
    ⟨⟨some 23, none, some (0, 0), .ld false 1 (.t 22)⟩, ⟨some 23, none, k_ld false 1 (.t 22)⟩⟩,
    ⟨⟨some 24, none, none, .ar .neq (.t 19) (.t 23)⟩, ⟨some 24, none, k_ar ar_neq (.t 19) (.t 23)⟩⟩])
  (.cond (.t 24) (.seq (.ops [⟨some 4, none, k_mvc (.bool false)⟩])
  (.ret))
  (.skip)))))
  (.ops [⟨some 25, none, k_ar ar_add (.t 13) (.c (.int .i64 1))⟩,
    ⟨some 13, none, k_mvt 25⟩])))))))
  (.seq (.ops [⟨some 4, none, k_mvc (.bool true)⟩])
  (.ret))))⟩
theorem k95_eq : c95.k = k95 := by kernel_rfl
def k96 : FK := ⟨8, [.tmp 2],
  .seq (.ops [⟨some 2, none, k_mvc (.nils)⟩])
  (.seq (.seq (.ops [⟨some 3, none, k_mvt 0⟩,
    ⟨some 4, none, k_isn false (.t 3)⟩])
  (.cond (.t 4) (.seq (.ops [⟨some 2, none, k_mvc (.nils)⟩])
  (.ret))
  (.skip)))
  (.seq (.ops [⟨some 5, none, k_bsl 0 [] []⟩,
    ⟨some 6, none, k_mvt 0⟩,
    ⟨some 7, none, k_app 2 16 (.t 5) (.t 6)⟩,
    ⟨some 2, none, k_mvt 7⟩])
  (.ret)))⟩
theorem k96_eq : c96.k = k96 := by kernel_rfl
def k97 : FK := ⟨26, [.tmp 4],
  .seq (.ops [⟨some 4, none, k_mvc (.bool false)⟩])
  (.seq (.seq (.ops [⟨some 6, none, k_mvt 0⟩,
    ⟨some 7, none, k_len (.t 6)⟩,
    ⟨some 8, none, k_mvt 1⟩,
    ⟨some 9, none, k_len (.t 8)⟩,
    ⟨some 10, none, k_ar ar_neq (.t 7) (.t 9)⟩])
  (.cond (.t 10) (.seq (.ops [⟨some 4, none, k_mvc (.bool false)⟩])
  (.ret))
  (.skip)))
  (.seq (.seq (.ops [⟨some 11, none, k_mvt 0⟩,
    ⟨some 12, none, k_len (.t 11)⟩,
    ⟨some 13, none, k_mvc (.int .i64 0)⟩])
  (.block 0 (.loop (.seq (.ops [⟨some 14, none, k_ar ar_lss (.t 13) (.t 12)⟩])
  (.seq (.cond (.t 14) (.skip)
  (.exit 0))
  (.seq (.block 1 (.seq (.ops [⟨some 15, none, k_mvt 13⟩,
    ⟨some 5, none, k_mvt 15⟩])
  (.seq (.dops [⟨⟨some 16, none, none, .mv (.t 0)⟩, ⟨some 16, none, k_mvt 0⟩⟩,
    ⟨⟨some 17, none, none, .mv (.t 5)⟩, ⟨some 17, none, k_mvt 5⟩⟩,
    ⟨⟨some 18, none, none, .iad 2 (.t 16) (.t 17)⟩, ⟨some 18, none, k_iad 2 (.t 16) (.t 17)⟩⟩,
    ⟨⟨some 19, none, some (0, 0), .ld true 2 (.t 18)⟩, ⟨some 19, none, k_ld true 2 (.t 18)⟩⟩,
    ⟨⟨some 20, none, none, .mv (.t 1)⟩, ⟨some 20, none, k_mvt 1⟩⟩,
    ⟨⟨some 21, none, none, .mv (.t 5)⟩, ⟨some 21, none, k_mvt 5⟩⟩,
    ⟨⟨some 22, none, none, .iad 2 (.t 20) (.t 21)⟩, ⟨some 22, none, k_iad 2 (.t 20) (.t 21)⟩⟩,
    ⟨⟨some 23, none, some (0, 0), .ld true 2 (.t 22)⟩, ⟨some 23, none, k_ld true 2 (.t 22)⟩⟩,
    ⟨⟨some 24, none, none, .feq true 2 (.t 19) (.t 23)⟩, ⟨some 24, none, k_feq true 2 (.t 19) (.t 23)⟩⟩])
  (.cond (.t 24) (.seq (.ops [⟨some 4, none, k_mvc (.bool false)⟩])
  (.ret))
  (.skip)))))
  (.ops [⟨some 25, none, k_ar ar_add (.t 13) (.c (.int .i64 1))⟩,
    ⟨some 13, none, k_mvt 25⟩])))))))
  (.seq (.ops [⟨some 4, none, k_mvc (.bool true)⟩])
  (.ret))))⟩
theorem k97_eq : c97.k = k97 := by kernel_rfl
def k99 : FK := ⟨9, [.tmp 4],
  .seq (.ops [⟨some 4, none, k_mvc (.bool false)⟩])
  (.seq (.ops [⟨some 5, none, k_mvt 0⟩,
    ⟨some 6, none, k_mvt 1⟩,
    ⟨some 7, none, k_call (.c (.fn 142 [] [])) [.t 5, .t 6]⟩,
    ⟨some 8, none, k_ar ar_geq (.t 7) (.c (.int .i64 0))⟩,
    ⟨some 4, none, k_mvt 8⟩])
  (.ret))⟩
theorem k99_eq : c99.k = k99 := by kernel_rfl
def k105 : FK := ⟨17, [.tmp 6],
  .seq (.ops [⟨some 4, none, k_box (.t 1)⟩,
    ⟨some 5, none, k_box (.t 2)⟩,
    ⟨some 6, none, k_mvc (.bool false)⟩])
  (.seq (.ops [⟨some 10, none, k_mvt 0⟩,
    ⟨some 11, none, k_mkf 143 [] [.t 4, .t 5]⟩,
    ⟨some 12, none, k_bld [.nilf] [(0, 1, .t 11)]⟩,
    ⟨some 13, none, k_call (.c (.fn 124 [] [])) [.t 10, .t 12]⟩,
    ⟨some 9, none, k_mvt 13⟩,
    ⟨some 14, none, k_ext (.t 9) 0⟩,
    ⟨some 15, none, k_ext (.t 9) 1⟩,
    ⟨some 7, none, k_alc [.int .i64 0, .int .i64 0, .int .i64 0, .int .i64 0, .int .i64 0, .int .i64 0, .int .i64 0, .int .i64 0, .int .i64 0, .int .i64 0, .int .i64 0, .int .i64 0, .int .i64 0, .int .i64 0, .int .i64 0, .int .i64 0, .int .i64 0, .int .i64 0, .int .i64 0, .int .i64 0, .int .i64 0, .int .i64 0, .int .i64 0, .int .i64 0]⟩,
    ⟨none, none, k_sto 24 (.t 7) (.t 14)⟩,
    ⟨some 8, none, k_mvt 15⟩])
  (.seq (.ops [⟨some 16, none, k_mvt 8⟩,
    ⟨some 6, none, k_mvt 16⟩])
  (.ret)))⟩
theorem k105_eq : c105.k = k105 := by kernel_rfl
def k106 : FK := ⟨27, [.tmp 4, .tmp 5],
  .seq (.ops [⟨some 2, none, k_box (.t 0)⟩,
    ⟨some 3, none, k_box (.t 1)⟩,
    ⟨some 4, none, k_mvc (.nils)⟩,
    ⟨some 5, none, k_mvc (.bool false)⟩])
  (.scope (.seq (.ops [⟨some 6, none, k_alc [.nils]⟩])
  (.seq (.ops [⟨some 7, none, k_mvc (.bool false)⟩])
  (.seq (.skip)
  (.seq (.seq (.ops [⟨some 10, none, k_ld false 1 (.t 2)⟩,
    ⟨some 11, none, k_chk (.t 10)⟩,
    ⟨some 12, none, k_fad 0 (.t 11)⟩,
    ⟨some 13, none, k_fad 2 (.t 12)⟩,
    ⟨some 14, none, k_ld false 1 (.t 13)⟩,
    ⟨some 15, none, k_len (.t 14)⟩,
    ⟨some 16, none, k_ar ar_add (.t 15) (.c (.int .i64 1))⟩,
    ⟨some 17, none, k_mvc (.int .i64 0)⟩])
  (.block 0 (.loop (.seq (.ops [⟨some 18, none, k_ar ar_lss (.t 17) (.t 16)⟩])
  (.seq (.cond (.t 18) (.skip)
  (.exit 0))
  (.seq (.block 1 (.seq (.ops [⟨some 19, none, k_mvt 17⟩,
    ⟨some 8, none, k_alc [.int .i64 0]⟩,
    ⟨none, none, k_sto 1 (.t 8) (.t 19)⟩])
  (.seq (.ops [⟨some 9, none, k_alc [.nilf]⟩])
  (.seq (.ops [⟨some 20, none, k_mkf 144 [] [.t 8, .t 6, .t 3, .t 2, .t 9]⟩,
    ⟨none, none, k_sto 1 (.t 9) (.t 20)⟩])
  (.seq (.ops [⟨some 21, none, k_ld false 1 (.t 9)⟩,
    ⟨some 22, none, k_call (.t 21) [.c (.nils), .c (.int .i64 0)]⟩,
    ⟨some 7, none, k_mvt 22⟩])
  (.seq (.ops [⟨some 23, none, k_mvt 7⟩])
  (.cond (.t 23) (.exit 0)
  (.skip))))))))
  (.ops [⟨some 24, none, k_ar ar_add (.t 17) (.c (.int .i64 1))⟩,
    ⟨some 17, none, k_mvt 24⟩])))))))
  (.seq (.ops [⟨some 25, none, k_ld false 1 (.t 6)⟩,
    ⟨some 26, none, k_mvt 7⟩,
    ⟨some 4, none, k_mvt 25⟩,
    ⟨some 5, none, k_mvt 26⟩])
  (.ret)))))))⟩
theorem k106_eq : c106.k = k106 := by kernel_rfl
def k107 : FK := ⟨8, [.tmp 3],
  .seq (.ops [⟨some 3, none, k_mvc (.bool false)⟩])
  (.seq (.ops [⟨some 4, none, k_ld false 1 (.t 1)⟩,
    ⟨some 5, none, k_mvt 0⟩,
    ⟨some 6, none, k_call (.c (.fn 105 [] [])) [.t 4, .t 5, .c (.bool false)]⟩,
    ⟨some 7, none, k_not (.t 6)⟩,
    ⟨some 3, none, k_mvt 7⟩])
  (.ret))⟩
theorem k107_eq : c107.k = k107 := by kernel_rfl
def k108 : FK := ⟨7, [.tmp 3],
  .seq (.ops [⟨some 3, none, k_mvc (.bool false)⟩])
  (.seq (.ops [⟨some 4, none, k_ld false 1 (.t 1)⟩,
    ⟨some 5, none, k_mvt 0⟩,
    ⟨some 6, none, k_call (.c (.fn 105 [] [])) [.t 4, .t 5, .c (.bool true)]⟩,
    ⟨some 3, none, k_mvt 6⟩])
  (.ret))⟩
theorem k108_eq : c108.k = k108 := by kernel_rfl
def k112 : FK := ⟨15, [.tmp 6],
  .seq (.ops [⟨some 6, none, k_mvc (.bool false)⟩])
  (.seq (.ops [⟨some 7, none, k_mvt 0⟩,
    ⟨some 8, none, k_mvt 1⟩,
    ⟨some 9, none, k_ar ar_geq (.t 7) (.t 8)⟩,
    ⟨some 10, none, k_mvt 9⟩,
    ⟨some 11, some (10, true), k_mvt 0⟩,
    ⟨some 12, some (10, true), k_mvt 2⟩,
    ⟨some 13, some (10, true), k_ar ar_leq (.t 11) (.t 12)⟩,
    ⟨some 14, none, k_pick (.t 10) (.t 13) (.c (.bool false))⟩,
    ⟨some 6, none, k_mvt 14⟩])
  (.ret))⟩
theorem k112_eq : c112.k = k112 := by kernel_rfl
def k113 : FK := ⟨9, [.tmp 4],
  .seq (.ops [⟨some 3, none, k_box (.t 1)⟩,
    ⟨some 4, none, k_mvc (.bool false)⟩])
  (.seq (.ops [⟨some 5, none, k_mvt 0⟩,
    ⟨some 6, none, k_mkf 148 [] [.t 3]⟩,
    ⟨some 7, none, k_call (.c (.fn 127 [] [])) [.t 5, .t 6]⟩,
    ⟨some 8, none, k_not (.t 7)⟩,
    ⟨some 4, none, k_mvt 8⟩])
  (.ret))⟩
theorem k113_eq : c113.k = k113 := by kernel_rfl
def k114 : FK := ⟨18, [.tmp 2],
  .seq (.ops [⟨some 1, none, k_box (.t 0)⟩,
    ⟨some 2, none, k_mvc (.bool false)⟩])
  (.seq (.ops [⟨some 3, none, k_fad 1 (.t 1)⟩,
    ⟨some 4, none, k_ld false 1 (.t 3)⟩,
    ⟨some 5, none, k_call (.c (.fn 112 [] [])) [.t 4, .c (.int .i64 0), .c (.int .i64 10000)]⟩,
    ⟨some 6, none, k_mvt 5⟩,
    ⟨some 7, some (6, true), k_fad 2 (.t 1)⟩,
    ⟨some 8, some (6, true), k_fad 0 (.t 7)⟩,
    ⟨some 9, some (6, true), k_ld false 1 (.t 8)⟩,
    ⟨some 10, some (6, true), k_call (.c (.fn 112 [] [])) [.t 9, .c (.int .i64 0), .c (.int .i64 60)]⟩,
    ⟨some 11, none, k_pick (.t 6) (.t 10) (.c (.bool false))⟩,
    ⟨some 12, none, k_mvt 11⟩,
    ⟨some 13, some (12, true), k_fad 2 (.t 1)⟩,
    ⟨some 14, some (12, true), k_fad 1 (.t 13)⟩,
    ⟨some 15, some (12, true), k_ld false 1 (.t 14)⟩,
    ⟨some 16, some (12, true), k_call (.c (.fn 112 [] [])) [.t 15, .c (.int .i64 0), .c (.int .i64 60)]⟩,
    ⟨some 17, none, k_pick (.t 12) (.t 16) (.c (.bool false))⟩,
    ⟨some 2, none, k_mvt 17⟩])
  (.ret))⟩
theorem k114_eq : c114.k = k114 := by kernel_rfl
def k115 : FK := ⟨9, [.tmp 4],
  .seq (.ops [⟨some 3, none, k_box (.t 1)⟩,
    ⟨some 4, none, k_mvc (.bool false)⟩])
  (.seq (.ops [⟨some 5, none, k_mvt 0⟩,
    ⟨some 6, none, k_mkf 149 [] [.t 3]⟩,
    ⟨some 7, none, k_call (.c (.fn 99 [] [])) [.t 5, .t 6]⟩,
    ⟨some 8, none, k_not (.t 7)⟩,
    ⟨some 4, none, k_mvt 8⟩])
  (.ret))⟩
theorem k115_eq : c115.k = k115 := by kernel_rfl
def k116 : FK := ⟨6, [.tmp 2],
  .seq (.ops [⟨some 1, none, k_box (.t 0)⟩,
    ⟨some 2, none, k_mvc (.bool false)⟩])
  (.seq (.ops [⟨some 3, none, k_fad 1 (.t 1)⟩,
    ⟨some 4, none, k_ld false 1 (.t 3)⟩,
    ⟨some 5, none, k_call (.c (.fn 78 [] [])) [.t 4]⟩,
    ⟨some 2, none, k_mvt 5⟩])
  (.ret))⟩
theorem k116_eq : c116.k = k116 := by kernel_rfl
def k117 : FK := ⟨8, [.tmp 3],
  .seq (.ops [⟨some 2, none, k_box (.t 0)⟩,
    ⟨some 3, none, k_mvc (.bool false)⟩])
  (.seq (.ops [⟨some 4, none, k_ld false 1 (.t 1)⟩,
    ⟨some 5, none, k_fad 0 (.t 2)⟩,
    ⟨some 6, none, k_ld false 1 (.t 5)⟩,
    ⟨some 7, none, k_call (.t 4) [.t 6]⟩,
    ⟨some 3, none, k_mvt 7⟩])
  (.ret))⟩
theorem k117_eq : c117.k = k117 := by kernel_rfl
def k118 : FK := ⟨10, [.tmp 2],
  .seq (.ops [⟨some 1, none, k_box (.t 0)⟩,
    ⟨some 2, none, k_mvc (.bool false)⟩])
  (.seq (.ops [⟨some 3, none, k_fad 2 (.t 1)⟩,
    ⟨some 4, none, k_fad 0 (.t 3)⟩,
    ⟨some 5, none, k_ld false 1 (.t 4)⟩,
    ⟨some 6, none, k_fad 2 (.t 1)⟩,
    ⟨some 7, none, k_fad 1 (.t 6)⟩,
    ⟨some 8, none, k_ld false 1 (.t 7)⟩,
    ⟨some 9, none, k_ar ar_leq (.t 5) (.t 8)⟩,
    ⟨some 2, none, k_mvt 9⟩])
  (.ret))⟩
theorem k118_eq : c118.k = k118 := by kernel_rfl
def k119 : FK := ⟨22, [.tmp 4],
  .seq (.ops [⟨some 4, none, k_mvc (.nils)⟩])
  (.seq (.ops [⟨some 5, none, k_mvc (.nils)⟩])
  (.seq (.block 0 (.loop (.seq (.seq (.ops [⟨some 6, none, k_mvt 1⟩,
    ⟨some 7, none, k_ar ar_neq (.t 6) (.c (.int .i64 (-1)))⟩])
  (.cond (.t 7) (.skip)
  (.exit 0)))
  (.seq (.block 1 (.ops [⟨some 17, none, k_mvt 5⟩,
    ⟨some 18, none, k_mvt 1⟩,
    ⟨some 19, none, k_bsl 1 [.int .i64 0] [(0, 1, .t 18)]⟩,
    ⟨some 20, none, k_app 1 8 (.t 17) (.t 19)⟩,
    ⟨some 5, none, k_mvt 20⟩]))
  (.ops [⟨some 8, none, k_mvt 0⟩,
    ⟨some 9, none, k_chk (.t 8)⟩,
    ⟨some 10, none, k_fad 0 (.t 9)⟩,
    ⟨some 11, none, k_fad 1 (.t 10)⟩,
    ⟨some 12, none, k_ld false 1 (.t 11)⟩,
    ⟨some 13, none, k_mvt 1⟩,
    ⟨some 14, none, k_iad 2 (.t 12) (.t 13)⟩,
    ⟨some 15, none, k_fad 0 (.t 14)⟩,
    ⟨some 16, none, k_ld false 1 (.t 15)⟩,
    ⟨some 1, none, k_mvt 16⟩])))))
  (.seq (.ops [⟨some 21, none, k_mvt 5⟩,
    ⟨some 4, none, k_mvt 21⟩])
  (.ret))))⟩
theorem k119_eq : c119.k = k119 := by kernel_rfl
def k121 : FK := ⟨19, [.tmp 4],
  .seq (.ops [⟨some 4, none, k_mvc (.int .i64 0)⟩])
  (.seq (.seq (.ops [⟨some 6, none, k_mvt 0⟩,
    ⟨some 7, none, k_len (.t 6)⟩,
    ⟨some 8, none, k_mvc (.int .i64 0)⟩])
  (.block 0 (.loop (.seq (.ops [⟨some 9, none, k_ar ar_lss (.t 8) (.t 7)⟩])
  (.seq (.cond (.t 9) (.skip)
  (.exit 0))
  (.seq (.block 1 (.seq (.ops [⟨some 10, none, k_mvt 8⟩,
    ⟨some 5, none, k_mvt 10⟩])
  (.seq (.ops [⟨some 11, none, k_mvt 1⟩,
    ⟨some 12, none, k_mvt 0⟩,
    ⟨some 13, none, k_mvt 5⟩,
    ⟨some 14, none, k_iad 1 (.t 12) (.t 13)⟩,
    ⟨some 15, none, k_ld false 1 (.t 14)⟩,
    ⟨some 16, none, k_ar ar_eql (.t 11) (.t 15)⟩])
  (.cond (.t 16) (.seq (.ops [⟨some 17, none, k_mvt 5⟩,
    ⟨some 4, none, k_mvt 17⟩])
  (.ret))
  (.skip)))))
  (.ops [⟨some 18, none, k_ar ar_add (.t 8) (.c (.int .i64 1))⟩,
    ⟨some 8, none, k_mvt 18⟩])))))))
  (.seq (.ops [⟨some 4, none, k_mvc (.int .i64 (-1))⟩])
  (.ret)))⟩
theorem k121_eq : c121.k = k121 := by kernel_rfl
def k122 : FK := ⟨19, [.tmp 4],
  .seq (.ops [⟨some 4, none, k_mvc (.int .i64 0)⟩])
  (.seq (.seq (.ops [⟨some 6, none, k_mvt 0⟩,
    ⟨some 7, none, k_len (.t 6)⟩,
    ⟨some 8, none, k_mvc (.int .i64 0)⟩])
  (.block 0 (.loop (.seq (.ops [⟨some 9, none, k_ar ar_lss (.t 8) (.t 7)⟩])
  (.seq (.cond (.t 9) (.skip)
  (.exit 0))
  (.seq (.block 1 (.seq (.ops [⟨some 10, none, k_mvt 8⟩,
    ⟨some 5, none, k_mvt 10⟩])
  (.seq (.ops [⟨some 11, none, k_mvt 1⟩,
    ⟨some 12, none, k_mvt 0⟩,
    ⟨some 13, none, k_mvt 5⟩,
    ⟨some 14, none, k_iad 1 (.t 12) (.t 13)⟩,
    ⟨some 15, none, k_ld false 1 (.t 14)⟩,
    ⟨some 16, none, k_call (.t 11) [.t 15]⟩])
  (.cond (.t 16) (.seq (.ops [⟨some 17, none, k_mvt 5⟩,
    ⟨some 4, none, k_mvt 17⟩])
  (.ret))
  (.skip)))))
  (.ops [⟨some 18, none, k_ar ar_add (.t 8) (.c (.int .i64 1))⟩,
    ⟨some 8, none, k_mvt 18⟩])))))))
  (.seq (.ops [⟨some 4, none, k_mvc (.int .i64 (-1))⟩])
  (.ret)))⟩
theorem k122_eq : c122.k = k122 := by kernel_rfl
def k124 : FK := ⟨69, [.cell 4 true 24, .tmp 5],
  .seq (.ops [⟨some 3, none, k_box (.t 1)⟩,
    ⟨some 4, none, k_alc [.int .i64 0, .int .i64 0, .int .i64 0, .int .i64 0, .int .i64 0, .int .i64 0, .int .i64 0, .int .i64 0, .int .i64 0, .int .i64 0, .int .i64 0, .int .i64 0, .int .i64 0, .int .i64 0, .int .i64 0, .int .i64 0, .int .i64 0, .int .i64 0, .int .i64 0, .int .i64 0, .int .i64 0, .int .i64 0, .int .i64 0, .int .i64 0]⟩,
    ⟨some 5, none, k_mvc (.bool false)⟩])
  (.seq (.ops [⟨some 6, none, k_alc [.int .i64 0, .int .i64 0, .int .i64 0, .int .i64 0, .int .i64 0, .int .i64 0, .int .i64 0, .int .i64 0, .int .i64 0, .int .i64 0, .int .i64 0, .int .i64 0, .int .i64 0, .int .i64 0, .int .i64 0, .int .i64 0, .int .i64 0, .int .i64 0, .int .i64 0, .int .i64 0, .int .i64 0, .int .i64 0, .int .i64 0, .int .i64 0]⟩])
  (.seq (.seq (.ops [⟨some 11, none, k_mvt 0⟩,
    ⟨some 12, none, k_chk (.t 11)⟩,
    ⟨some 13, none, k_fad 0 (.t 12)⟩,
    ⟨some 14, none, k_fad 1 (.t 13)⟩,
    ⟨some 15, none, k_ld false 1 (.t 14)⟩,
    ⟨some 16, none, k_len (.t 15)⟩,
    ⟨some 17, none, k_mvc (.int .i64 0)⟩])
  (.block 0 (.loop (.seq (.ops [⟨some 18, none, k_ar ar_lss (.t 17) (.t 16)⟩])
  (.seq (.cond (.t 18) (.skip)
  (.exit 0))
  (.seq (.block 1 (.seq (.ops [⟨some 19, none, k_mvt 17⟩,
    ⟨some 7, none, k_mvt 19⟩])
  (.ops [⟨some 20, none, k_mvt 7⟩,
    ⟨some 21, none, k_iaa 12 2 (.t 6) (.t 20)⟩,
    ⟨some 22, none, k_fad 1 (.t 21)⟩,
    ⟨none, none, k_sto 1 (.t 22) (.c (.int .i64 10000))⟩])))
  (.ops [⟨some 23, none, k_ar ar_add (.t 17) (.c (.int .i64 1))⟩,
    ⟨some 17, none, k_mvt 23⟩])))))))
  (.seq (.seq (.ops [⟨some 24, none, k_mvt 0⟩,
    ⟨some 25, none, k_chk (.t 24)⟩,
    ⟨some 26, none, k_fad 0 (.t 25)⟩,
    ⟨some 27, none, k_fad 2 (.t 26)⟩,
    ⟨some 28, none, k_ld false 1 (.t 27)⟩,
    ⟨some 29, none, k_len (.t 28)⟩,
    ⟨some 30, none, k_mvc (.int .i64 0)⟩])
  (.block 2 (.loop (.seq (.ops [⟨some 31, none, k_ar ar_lss (.t 30) (.t 29)⟩])
  (.seq (.cond (.t 31) (.skip)
  (.exit 2))
  (.seq (.block 3 (.seq (.ops [⟨some 32, none, k_mvt 30⟩,
    ⟨some 33, none, k_iad 4 (.t 28) (.t 30)⟩,
    ⟨some 34, none, k_ld true 4 (.t 33)⟩,
    ⟨some 9, none, k_alc [.int .i64 0, .int .i64 0, .int .i64 0, .int .i64 0]⟩,
    ⟨some 8, none, k_mvt 32⟩,
    ⟨none, none, k_sto 4 (.t 9) (.t 34)⟩])
  (.seq (.ops [⟨some 35, none, k_mvt 0⟩,
    ⟨some 36, none, k_mvt 8⟩,
    ⟨some 37, none, k_call (.c (.fn 94 [] [])) [.t 35, .t 36]⟩,
    ⟨some 10, none, k_alc [.int .i64 0, .int .i64 0]⟩,
    ⟨none, none, k_sto 2 (.t 10) (.t 37)⟩])
  (.seq (.ops [⟨some 38, none, k_fad 0 (.t 3)⟩,
    ⟨some 39, none, k_ld false 1 (.t 38)⟩,
    ⟨some 40, none, k_mvt 8⟩,
    ⟨some 41, none, k_call (.t 39) [.t 40]⟩])
  (.cond (.t 41) (.dops [⟨⟨some 42, none, none, .fad 0 (.t 9)⟩, ⟨some 42, none, k_fad 0 (.t 9)⟩⟩,
    ⟨⟨some 43, none, some (0, 1), .ld false 1 (.t 42)⟩, ⟨some 43, none, k_ld false 1 (.t 42)⟩⟩,
    ⟨⟨some 44, none, none, .fad 0 (.t 9)⟩, ⟨some 44, none, k_fad 0 (.t 9)⟩⟩,
    ⟨⟨some 45, none, some (0, 1), .ld false 1 (.t 44)⟩, ⟨some 45, none, k_ld false 1 (.t 44)⟩⟩,
    ⟨⟨some 46, none, none, .iaa 12 2 (.t 6) (.t 45)⟩, ⟨some 46, none, k_iaa 12 2 (.t 6) (.t 45)⟩⟩,
    ⟨⟨some 47, none, none, .fad 0 (.t 46)⟩, ⟨some 47, none, k_fad 0 (.t 46)⟩⟩,
    ⟨⟨some 48, none, some (0, 1), .ld false 1 (.t 47)⟩, ⟨some 48, none, k_ld false 1 (.t 47)⟩⟩,
    ⟨⟨some 49, none, none, .fad 0 (.t 10)⟩, ⟨some 49, none, k_fad 0 (.t 10)⟩⟩,
    ⟨⟨some 50, none, some (0, 1), .ld false 1 (.t 49)⟩, ⟨some 50, none, k_ld false 1 (.t 49)⟩⟩,
    ⟨⟨some 51, none, none, .mx [.t 48, .t 50]⟩, ⟨some 51, none, k_mx [.t 48, .t 50]⟩⟩,
    ⟨⟨some 52, none, none, .fad 0 (.t 9)⟩, ⟨some 52, none, k_fad 0 (.t 9)⟩⟩,
    ⟨⟨some 53, none, some (0, 0), .ld false 1 (.t 52)⟩, ⟨some 53, none, k_ld false 1 (.t 52)⟩⟩,
    ⟨⟨some 54, none, none, .iaa 12 2 (.t 6) (.t 53)⟩, ⟨some 54, none, k_iaa 12 2 (.t 6) (.t 53)⟩⟩,
    ⟨⟨some 55, none, none, .fad 1 (.t 54)⟩, ⟨some 55, none, k_fad 1 (.t 54)⟩⟩,
    ⟨⟨some 56, none, some (0, 0), .ld false 1 (.t 55)⟩, ⟨some 56, none, k_ld false 1 (.t 55)⟩⟩,
    ⟨⟨some 57, none, none, .fad 1 (.t 10)⟩, ⟨some 57, none, k_fad 1 (.t 10)⟩⟩,
    ⟨⟨some 58, none, some (0, 0), .ld false 1 (.t 57)⟩, ⟨some 58, none, k_ld false 1 (.t 57)⟩⟩,
    ⟨⟨some 59, none, none, .bsl 1 [.int .i64 0] [(0, 1, .t 58)]⟩, ⟨some 59, none, k_bsl 1 [.int .i64 0] [(0, 1, .t 58)]⟩⟩,
    ⟨⟨some 60, none, none, .call (.c (.fn 131 [] [])) [.t 56, .t 59]⟩, ⟨some 60, none, k_call (.c (.fn 131 [] [])) [.t 56, .t 59]⟩⟩,
    ⟨⟨some 61, none, none, .bld [.int .i64 0, .int .i64 0] [(0, 1, .t 51), (1, 1, .t 60)]⟩, ⟨some 61, none, k_bld [.int .i64 0, .int .i64 0] [(0, 1, .t 51), (1, 1, .t 60)]⟩⟩,
    ⟨⟨some 62, none, none, .iaa 12 2 (.t 6) (.t 43)⟩, ⟨some 62, none, k_iaa 12 2 (.t 6) (.t 43)⟩⟩,
    ⟨⟨none, none, none, .sto 2 (.t 62) (.t 61)⟩, ⟨none, none, k_sto 2 (.t 62) (.t 61)⟩⟩])
  (.skip))))))
  (.ops [⟨some 63, none, k_ar ar_add (.t 30) (.c (.int .i64 1))⟩,
    ⟨some 30, none, k_mvt 63⟩])))))))
  (.seq (.ops [⟨some 64, none, k_mvt 0⟩,
    ⟨some 65, none, k_ld true 24 (.t 6)⟩,
    ⟨some 66, none, k_call (.c (.fn 126 [] [])) [.t 64, .t 65]⟩,
    ⟨some 67, none, k_ext (.t 66) 0⟩,
    ⟨some 68, none, k_ext (.t 66) 1⟩,
    ⟨none, none, k_sto 24 (.t 4) (.t 67)⟩,
    ⟨some 5, none, k_mvt 68⟩])
  (.ret)))))⟩
theorem k124_eq : c124.k = k124 := by kernel_rfl
def k125 : FK := ⟨2, [.cell 0 true 1],
  .seq (.ops [⟨some 0, none, k_alc [.nilf]⟩])
  (.seq (.ops [⟨some 1, none, k_bld [.nilf] [(0, 1, .c (.fn 151 [] []))]⟩,
    ⟨none, none, k_sto 1 (.t 0) (.t 1)⟩])
  (.ret))⟩
theorem k125_eq : c125.k = k125 := by kernel_rfl
def k126 : FK := ⟨107, [.cell 4 true 24, .tmp 5],
  .seq (.ops [⟨some 3, none, k_box (.t 1)⟩,
    ⟨some 4, none, k_alc [.int .i64 0, .int .i64 0, .int .i64 0, .int .i64 0, .int .i64 0, .int .i64 0, .int .i64 0, .int .i64 0, .int .i64 0, .int .i64 0, .int .i64 0, .int .i64 0, .int .i64 0, .int .i64 0, .int .i64 0, .int .i64 0, .int .i64 0, .int .i64 0, .int .i64 0, .int .i64 0, .int .i64 0, .int .i64 0, .int .i64 0, .int .i64 0]⟩,
    ⟨some 5, none, k_mvc (.bool false)⟩])
  (.seq (.ops [⟨some 16, none, k_mkf 152 [] [.t 3]⟩,
    ⟨some 6, none, k_mvt 16⟩])
  (.block 0 (.loop (.block 1 (.seq (.ops [⟨some 17, none, k_ld true 24 (.t 3)⟩,
    ⟨some 7, none, k_alc [.int .i64 0, .int .i64 0, .int .i64 0, .int .i64 0, .int .i64 0, .int .i64 0, .int .i64 0, .int .i64 0, .int .i64 0, .int .i64 0, .int .i64 0, .int .i64 0, .int .i64 0, .int .i64 0, .int .i64 0, .int .i64 0, .int .i64 0, .int .i64 0, .int .i64 0, .int .i64 0, .int .i64 0, .int .i64 0, .int .i64 0, .int .i64 0]⟩,
    ⟨none, none, k_sto 24 (.t 7) (.t 17)⟩])
  (.seq (.seq (.ops [⟨some 18, none, k_mvt 0⟩,
    ⟨some 19, none, k_chk (.t 18)⟩,
    ⟨some 20, none, k_fad 0 (.t 19)⟩,
    ⟨some 21, none, k_fad 1 (.t 20)⟩,
    ⟨some 22, none, k_ld false 1 (.t 21)⟩,
    ⟨some 23, none, k_len (.t 22)⟩,
    ⟨some 24, none, k_mvc (.int .i64 0)⟩])
  (.block 2 (.loop (.seq (.ops [⟨some 25, none, k_ar ar_lss (.t 24) (.t 23)⟩])
  (.seq (.cond (.t 25) (.skip)
  (.exit 2))
  (.seq (.block 3 (.seq (.ops [⟨some 26, none, k_mvt 24⟩,
    ⟨some 8, none, k_mvt 26⟩])
  (.seq (.seq (.dops [⟨⟨some 27, none, none, .mv (.t 8)⟩, ⟨some 27, none, k_mvt 8⟩⟩,
    ⟨⟨some 28, none, none, .iaa 12 2 (.t 3) (.t 27)⟩, ⟨some 28, none, k_iaa 12 2 (.t 3) (.t 27)⟩⟩,
    ⟨⟨some 29, none, none, .fad 0 (.t 28)⟩, ⟨some 29, none, k_fad 0 (.t 28)⟩⟩,
    ⟨⟨some 30, none, some (0, 0), .ld false 1 (.t 29)⟩, ⟨some 30, none, k_ld false 1 (.t 29)⟩⟩,
    ⟨⟨some 31, none, none, .mv (.t 8)⟩, ⟨some 31, none, k_mvt 8⟩⟩,
    ⟨⟨some 32, none, none, .iaa 12 2 (.t 3) (.t 31)⟩, ⟨some 32, none, k_iaa 12 2 (.t 3) (.t 31)⟩⟩,
    ⟨⟨some 33, none, none, .fad 1 (.t 32)⟩, ⟨some 33, none, k_fad 1 (.t 32)⟩⟩,
    ⟨⟨some 34, none, some (0, 0), .ld false 1 (.t 33)⟩, ⟨some 34, none, k_ld false 1 (.t 33)⟩⟩,
    ⟨⟨some 35, none, none, .ar .gtr (.t 30) (.t 34)⟩, ⟨some 35, none, k_ar ar_gtr (.t 30) (.t 34)⟩⟩])
  (.cond (.t 35) (.seq (.ops [⟨some 36, none, k_bld [.int .i64 0, .int .i64 0, .int .i64 0, .int .i64 0, .int .i64 0, .int .i64 0, .int .i64 0, .int .i64 0, .int .i64 0, .int .i64 0, .int .i64 0, .int .i64 0, .int .i64 0, .int .i64 0, .int .i64 0, .int .i64 0, .int .i64 0, .int .i64 0, .int .i64 0, .int .i64 0, .int .i64 0, .int .i64 0, .int .i64 0, .int .i64 0] []⟩,
    ⟨none, none, k_sto 24 (.t 4) (.t 36)⟩,
    ⟨some 5, none, k_mvc (.bool false)⟩])
  (.ret))
  (.skip)))
  (.seq (.ops [⟨some 37, none, k_mvt 0⟩,
    ⟨some 38, none, k_chk (.t 37)⟩,
    ⟨some 39, none, k_fad 3 (.t 38)⟩,
    ⟨some 40, none, k_ld false 1 (.t 39)⟩,
    ⟨some 41, none, k_mvt 8⟩,
    ⟨some 42, none, k_lkp (.nils) (.t 40) (.t 41) false⟩,
    ⟨some 9, none, k_mvt 42⟩])
  (.seq (.seq (.ops [⟨some 43, none, k_mvt 9⟩,
    ⟨some 44, none, k_len (.t 43)⟩,
    ⟨some 45, none, k_ar ar_eql (.t 44) (.c (.int .i64 0))⟩])
  (.cond (.t 45) (.exit 3)
  (.skip)))
  (.seq (.ops [⟨some 10, none, k_mvc (.int .i64 0)⟩,
    ⟨some 11, none, k_mvc (.int .i64 0)⟩])
  (.seq (.seq (.ops [⟨some 46, none, k_mvt 9⟩,
    ⟨some 47, none, k_len (.t 46)⟩,
    ⟨some 48, none, k_mvc (.int .i64 0)⟩])
  (.block 4 (.loop (.seq (.ops [⟨some 49, none, k_ar ar_lss (.t 48) (.t 47)⟩])
  (.seq (.cond (.t 49) (.skip)
  (.exit 4))
  (.seq (.block 5 (.seq (.ops [⟨some 50, none, k_iad 1 (.t 46) (.t 48)⟩,
    ⟨some 51, none, k_ld false 1 (.t 50)⟩,
    ⟨some 13, none, k_mvt 51⟩])
  (.dops [⟨⟨some 52, none, none, .mv (.t 10)⟩, ⟨some 52, none, k_mvt 10⟩⟩,
    ⟨⟨some 53, none, none, .mv (.t 13)⟩, ⟨some 53, none, k_mvt 13⟩⟩,
    ⟨⟨some 54, none, none, .iaa 12 2 (.t 3) (.t 53)⟩, ⟨some 54, none, k_iaa 12 2 (.t 3) (.t 53)⟩⟩,
    ⟨⟨some 55, none, none, .fad 0 (.t 54)⟩, ⟨some 55, none, k_fad 0 (.t 54)⟩⟩,
    ⟨⟨some 56, none, some (0, 0), .ld false 1 (.t 55)⟩, ⟨some 56, none, k_ld false 1 (.t 55)⟩⟩,
    ⟨⟨some 57, none, none, .ar .add (.t 52) (.t 56)⟩, ⟨some 57, none, k_ar ar_add (.t 52) (.t 56)⟩⟩,
    ⟨⟨some 58, none, none, .mv (.t 11)⟩, ⟨some 58, none, k_mvt 11⟩⟩,
    ⟨⟨some 59, none, none, .mv (.t 13)⟩, ⟨some 59, none, k_mvt 13⟩⟩,
    ⟨⟨some 60, none, none, .iaa 12 2 (.t 3) (.t 59)⟩, ⟨some 60, none, k_iaa 12 2 (.t 3) (.t 59)⟩⟩,
    ⟨⟨some 61, none, none, .fad 1 (.t 60)⟩, ⟨some 61, none, k_fad 1 (.t 60)⟩⟩,
    ⟨⟨some 62, none, some (0, 0), .ld false 1 (.t 61)⟩, ⟨some 62, none, k_ld false 1 (.t 61)⟩⟩,
    ⟨⟨some 63, none, none, .ar .add (.t 58) (.t 62)⟩, ⟨some 63, none, k_ar ar_add (.t 58) (.t 62)⟩⟩,
    ⟨⟨some 10, none, none, .mv (.t 57)⟩, ⟨some 10, none, k_mvt 57⟩⟩,
    ⟨⟨some 11, none, none, .mv (.t 63)⟩, ⟨some 11, none, k_mvt 63⟩⟩])))
  (.ops [⟨some 64, none, k_ar ar_add (.t 48) (.c (.int .i64 1))⟩,
    ⟨some 48, none, k_mvt 64⟩])))))))
  (.seq (.ops [⟨some 65, none, k_mvt 6⟩,
    ⟨some 66, none, k_mvt 8⟩,
    ⟨some 67, none, k_mvt 10⟩,
    ⟨some 68, none, k_mvt 11⟩,
    ⟨some 69, none, k_call (.t 65) [.t 66, .t 67, .t 68]⟩])
  (.seq (.ops [⟨some 70, none, k_mvt 9⟩,
    ⟨some 71, none, k_len (.t 70)⟩,
    ⟨some 72, none, k_mvc (.int .i64 0)⟩])
  (.block 6 (.loop (.seq (.ops [⟨some 73, none, k_ar ar_lss (.t 72) (.t 71)⟩])
  (.seq (.cond (.t 73) (.skip)
  (.exit 6))
  (.seq (.block 7 (.seq (.ops [⟨some 74, none, k_iad 1 (.t 70) (.t 72)⟩,
    ⟨some 75, none, k_ld false 1 (.t 74)⟩,
    ⟨some 15, none, k_mvt 75⟩])
  (.dops [⟨⟨some 76, none, none, .mv (.t 6)⟩, ⟨some 76, none, k_mvt 6⟩⟩,
    ⟨⟨some 77, none, none, .mv (.t 15)⟩, ⟨some 77, none, k_mvt 15⟩⟩,
    ⟨⟨some 78, none, none, .mv (.t 8)⟩, ⟨some 78, none, k_mvt 8⟩⟩,
    ⟨⟨some 79, none, none, .iaa 12 2 (.t 3) (.t 78)⟩, ⟨some 79, none, k_iaa 12 2 (.t 3) (.t 78)⟩⟩,
    ⟨⟨some 80, none, none, .fad 0 (.t 79)⟩, ⟨some 80, none, k_fad 0 (.t 79)⟩⟩,
    ⟨⟨some 81, none, some (0, 0), .ld false 1 (.t 80)⟩, ⟨some 81, none, k_ld false 1 (.t 80)⟩⟩,
    ⟨⟨some 82, none, none, .mv (.t 11)⟩, ⟨some 82, none, k_mvt 11⟩⟩,
    ⟨⟨some 83, none, none, .mv (.t 15)⟩, ⟨some 83, none, k_mvt 15⟩⟩,
    ⟨⟨some 84, none, none, .iaa 12 2 (.t 7) (.t 83)⟩, ⟨some 84, none, k_iaa 12 2 (.t 7) (.t 83)⟩⟩,
    ⟨⟨some 85, none, none, .fad 1 (.t 84)⟩, ⟨some 85, none, k_fad 1 (.t 84)⟩⟩,
    ⟨⟨some 86, none, some (0, 0), .ld false 1 (.t 85)⟩, ⟨some 86, none, k_ld false 1 (.t 85)⟩⟩,
    ⟨⟨some 87, none, none, .ar .sub (.t 82) (.t 86)⟩, ⟨some 87, none, k_ar ar_sub (.t 82) (.t 86)⟩⟩,
    ⟨⟨some 88, none, none, .ar .sub (.t 81) (.t 87)⟩, ⟨some 88, none, k_ar ar_sub (.t 81) (.t 87)⟩⟩,
    ⟨⟨some 89, none, none, .mv (.t 8)⟩, ⟨some 89, none, k_mvt 8⟩⟩,
    ⟨⟨some 90, none, none, .iaa 12 2 (.t 3) (.t 89)⟩, ⟨some 90, none, k_iaa 12 2 (.t 3) (.t 89)⟩⟩,
    ⟨⟨some 91, none, none, .fad 1 (.t 90)⟩, ⟨some 91, none, k_fad 1 (.t 90)⟩⟩,
    ⟨⟨some 92, none, some (0, 0), .ld false 1 (.t 91)⟩, ⟨some 92, none, k_ld false 1 (.t 91)⟩⟩,
    ⟨⟨some 93, none, none, .mv (.t 10)⟩, ⟨some 93, none, k_mvt 10⟩⟩,
    ⟨⟨some 94, none, none, .mv (.t 15)⟩, ⟨some 94, none, k_mvt 15⟩⟩,
    ⟨⟨some 95, none, none, .iaa 12 2 (.t 7) (.t 94)⟩, ⟨some 95, none, k_iaa 12 2 (.t 7) (.t 94)⟩⟩,
    ⟨⟨some 96, none, none, .fad 0 (.t 95)⟩, ⟨some 96, none, k_fad 0 (.t 95)⟩⟩,
    ⟨⟨some 97, none, some (0, 0), .ld false 1 (.t 96)⟩, ⟨some 97, none, k_ld false 1 (.t 96)⟩⟩,
    ⟨⟨some 98, none, none, .ar .sub (.t 93) (.t 97)⟩, ⟨some 98, none, k_ar ar_sub (.t 93) (.t 97)⟩⟩,
    ⟨⟨some 99, none, none, .ar .sub (.t 92) (.t 98)⟩, ⟨some 99, none, k_ar ar_sub (.t 92) (.t 98)⟩⟩,
    ⟨⟨some 100, none, none, .call (.t 76) [.t 77, .t 88, .t 99]⟩, ⟨some 100, none, k_call (.t 76) [.t 77, .t 88, .t 99]⟩⟩])))
  (.ops [⟨some 101, none, k_ar ar_add (.t 72) (.c (.int .i64 1))⟩,
    ⟨some 72, none, k_mvt 101⟩])))))))))))))))
  (.ops [⟨some 102, none, k_ar ar_add (.t 24) (.c (.int .i64 1))⟩,
    ⟨some 24, none, k_mvt 102⟩])))))))
  (.seq (.ops [⟨some 103, none, k_ld true 24 (.t 3)⟩,
    ⟨some 104, none, k_ld true 24 (.t 7)⟩,
    ⟨some 105, none, k_feq false 24 (.t 103) (.t 104)⟩])
  (.cond (.t 105) (.seq (.ops [⟨some 106, none, k_ld true 24 (.t 3)⟩,
    ⟨none, none, k_sto 24 (.t 4) (.t 106)⟩,
    ⟨some 5, none, k_mvc (.bool true)⟩])
  (.ret))
  (.skip)))))))))⟩
theorem k126_eq : c126.k = k126 := by kernel_rfl
def k127 : FK := ⟨9, [.tmp 4],
  .seq (.ops [⟨some 4, none, k_mvc (.bool false)⟩])
  (.seq (.ops [⟨some 5, none, k_mvt 0⟩,
    ⟨some 6, none, k_mvt 1⟩,
    ⟨some 7, none, k_call (.c (.fn 153 [] [])) [.t 5, .t 6]⟩,
    ⟨some 8, none, k_ar ar_geq (.t 7) (.c (.int .i64 0))⟩,
    ⟨some 4, none, k_mvt 8⟩])
  (.ret))⟩
theorem k127_eq : c127.k = k127 := by kernel_rfl
def k131 : FK := ⟨18, [.tmp 4],
  .seq (.ops [⟨some 4, none, k_mvc (.int .i64 0)⟩])
  (.seq (.seq (.ops [⟨some 7, none, k_mvt 1⟩,
    ⟨some 8, none, k_len (.t 7)⟩,
    ⟨some 9, none, k_mvc (.int .i64 0)⟩])
  (.block 0 (.loop (.seq (.ops [⟨some 10, none, k_ar ar_lss (.t 9) (.t 8)⟩])
  (.seq (.cond (.t 10) (.skip)
  (.exit 0))
  (.seq (.block 1 (.seq (.ops [⟨some 11, none, k_iad 1 (.t 7) (.t 9)⟩,
    ⟨some 12, none, k_ld false 1 (.t 11)⟩,
    ⟨some 6, none, k_mvt 12⟩])
  (.ops [⟨some 13, none, k_mvt 0⟩,
    ⟨some 14, none, k_mvt 6⟩,
    ⟨some 15, none, k_mn [.t 13, .t 14]⟩,
    ⟨some 0, none, k_mvt 15⟩])))
  (.ops [⟨some 16, none, k_ar ar_add (.t 9) (.c (.int .i64 1))⟩,
    ⟨some 9, none, k_mvt 16⟩])))))))
  (.seq (.ops [⟨some 17, none, k_mvt 0⟩,
    ⟨some 4, none, k_mvt 17⟩])
  (.ret)))⟩
theorem k131_eq : c131.k = k131 := by kernel_rfl
def k134 : FK := ⟨26, [.cell 2 true 2],
  .seq (.ops [⟨some 2, none, k_alc [.int .i64 0, .nils]⟩])
  (.seq (.ops [⟨some 3, none, k_alc [.int .i64 0, .nils]⟩])
  (.seq (.seq (.ops [⟨some 6, none, k_mvt 0⟩,
    ⟨some 7, none, k_len (.t 6)⟩,
    ⟨some 8, none, k_mvc (.int .i64 0)⟩])
  (.block 0 (.loop (.seq (.ops [⟨some 9, none, k_ar ar_lss (.t 8) (.t 7)⟩])
  (.seq (.cond (.t 9) (.skip)
  (.exit 0))
  (.seq (.block 1 (.seq (.ops [⟨some 10, none, k_iad 2 (.t 6) (.t 8)⟩,
    ⟨some 11, none, k_ld true 2 (.t 10)⟩,
    ⟨some 5, none, k_alc [.int .i64 0, .nils]⟩,
    ⟨none, none, k_sto 2 (.t 5) (.t 11)⟩])
  (.dops [⟨⟨some 12, none, none, .fad 0 (.t 3)⟩, ⟨some 12, none, k_fad 0 (.t 3)⟩⟩,
    ⟨⟨some 13, none, some (0, 1), .ld false 1 (.t 12)⟩, ⟨some 13, none, k_ld false 1 (.t 12)⟩⟩,
    ⟨⟨some 14, none, none, .fad 0 (.t 5)⟩, ⟨some 14, none, k_fad 0 (.t 5)⟩⟩,
    ⟨⟨some 15, none, some (0, 1), .ld false 1 (.t 14)⟩, ⟨some 15, none, k_ld false 1 (.t 14)⟩⟩,
    ⟨⟨some 16, none, none, .ar .add (.t 13) (.t 15)⟩, ⟨some 16, none, k_ar ar_add (.t 13) (.t 15)⟩⟩,
    ⟨⟨some 17, none, none, .fad 1 (.t 3)⟩, ⟨some 17, none, k_fad 1 (.t 3)⟩⟩,
    ⟨⟨some 18, none, some (0, 0), .ld false 1 (.t 17)⟩, ⟨some 18, none, k_ld false 1 (.t 17)⟩⟩,
    ⟨⟨some 19, none, none, .fad 1 (.t 5)⟩, ⟨some 19, none, k_fad 1 (.t 5)⟩⟩,
    ⟨⟨some 20, none, some (0, 0), .ld false 1 (.t 19)⟩, ⟨some 20, none, k_ld false 1 (.t 19)⟩⟩,
    ⟨⟨some 21, none, none, .app 1 8 (.t 18) (.t 20)⟩, ⟨some 21, none, k_app 1 8 (.t 18) (.t 20)⟩⟩,
    ⟨⟨some 22, none, none, .fad 0 (.t 3)⟩, ⟨some 22, none, k_fad 0 (.t 3)⟩⟩,
    ⟨⟨none, none, none, .sto 1 (.t 22) (.t 16)⟩, ⟨none, none, k_sto 1 (.t 22) (.t 16)⟩⟩,
    ⟨⟨some 23, none, none, .fad 1 (.t 3)⟩, ⟨some 23, none, k_fad 1 (.t 3)⟩⟩,
    ⟨⟨none, none, none, .sto 1 (.t 23) (.t 21)⟩, ⟨none, none, k_sto 1 (.t 23) (.t 21)⟩⟩])))
  (.ops [⟨some 24, none, k_ar ar_add (.t 8) (.c (.int .i64 1))⟩,
    ⟨some 8, none, k_mvt 24⟩])))))))
  (.seq (.ops [⟨some 25, none, k_ld true 2 (.t 3)⟩,
    ⟨none, none, k_sto 2 (.t 2) (.t 25)⟩])
  (.ret))))⟩
theorem k134_eq : c134.k = k134 := by kernel_rfl
def k135 : FK := ⟨9, [.tmp 4],
  .seq (.ops [⟨some 3, none, k_box (.t 1)⟩,
    ⟨some 4, none, k_mvc (.bool false)⟩])
  (.seq (.ops [⟨some 5, none, k_mvt 0⟩,
    ⟨some 6, none, k_mkf 155 [] [.t 3]⟩,
    ⟨some 7, none, k_call (.c (.fn 154 [] [])) [.t 5, .t 6]⟩,
    ⟨some 8, none, k_not (.t 7)⟩,
    ⟨some 4, none, k_mvt 8⟩])
  (.ret))⟩
theorem k135_eq : c135.k = k135 := by kernel_rfl
def k136 : FK := ⟨7, [.tmp 2],
  .seq (.ops [⟨some 1, none, k_box (.t 0)⟩,
    ⟨some 2, none, k_mvc (.bool false)⟩])
  (.seq (.ops [⟨some 3, none, k_fad 1 (.t 1)⟩,
    ⟨some 4, none, k_ld false 1 (.t 3)⟩,
    ⟨some 5, none, k_len (.t 4)⟩,
    ⟨some 6, none, k_ar ar_gtr (.t 5) (.c (.int .i64 0))⟩,
    ⟨some 2, none, k_mvt 6⟩])
  (.ret))⟩
theorem k136_eq : c136.k = k136 := by kernel_rfl
def k137 : FK := ⟨8, [.tmp 3],
  .seq (.ops [⟨some 3, none, k_mvc (.bool false)⟩])
  (.seq (.ops [⟨some 4, none, k_ld false 1 (.t 1)⟩,
    ⟨some 5, none, k_mvt 0⟩,
    ⟨some 6, none, k_call (.t 4) [.t 5]⟩,
    ⟨some 7, none, k_not (.t 6)⟩,
    ⟨some 3, none, k_mvt 7⟩])
  (.ret))⟩
theorem k137_eq : c137.k = k137 := by kernel_rfl
def k138 : FK := ⟨19, [.tmp 4],
  .seq (.ops [⟨some 4, none, k_mvc (.bool false)⟩])
  (.seq (.dops [⟨⟨some 5, none, some (0, 0), .ld false 1 (.t 1)⟩, ⟨some 5, none, k_ld false 1 (.t 1)⟩⟩,
    ⟨⟨some 6, none, some (0, 0), .ld false 1 (.t 1)⟩, ⟨some 6, none, k_ld false 1 (.t 1)⟩⟩,
    ⟨⟨some 7, none, none, .chk (.t 6)⟩, ⟨some 7, none, k_chk (.t 6)⟩⟩,
    ⟨⟨some 8, none, none, .fad 0 (.t 7)⟩, ⟨some 8, none, k_fad 0 (.t 7)⟩⟩,
    ⟨⟨some 9, none, none, .fad 2 (.t 8)⟩, ⟨some 9, none, k_fad 2 (.t 8)⟩⟩,
    ⟨⟨some 10, none, some (0, 0), .ld false 1 (.t 9)⟩, ⟨some 10, none, k_ld false 1 (.t 9)⟩⟩,
    ⟨⟨some 11, none, none, .mv (.t 0)⟩, ⟨some 11, none, k_mvt 0⟩⟩,
    ⟨⟨some 12, none, none, .iad 4 (.t 10) (.t 11)⟩, ⟨some 12, none, k_iad 4 (.t 10) (.t 11)⟩⟩,
    ⟨⟨some 13, none, none, .fad 0 (.t 12)⟩, ⟨some 13, none, k_fad 0 (.t 12)⟩⟩,
    ⟨⟨some 14, none, some (0, 0), .ld false 1 (.t 13)⟩, ⟨some 14, none, k_ld false 1 (.t 13)⟩⟩,
    ⟨⟨some 15, none, none, .call (.c (.fn 119 [] [])) [.t 5, .t 14]⟩, ⟨some 15, none, k_call (.c (.fn 119 [] [])) [.t 5, .t 14]⟩⟩,
    ⟨⟨some 16, none, none, .fad 0 (.t 2)⟩, ⟨some 16, none, k_fad 0 (.t 2)⟩⟩,
    ⟨⟨some 17, none, some (0, 1), .ld false 1 (.t 16)⟩, ⟨some 17, none, k_ld false 1 (.t 16)⟩⟩,
    ⟨⟨some 18, none, none, .call (.c (.fn 61 [] [])) [.t 15, .t 17]⟩, ⟨some 18, none, k_call (.c (.fn 61 [] [])) [.t 15, .t 17]⟩⟩,
    ⟨⟨some 4, none, none, .mv (.t 18)⟩, ⟨some 4, none, k_mvt 18⟩⟩])
  (.ret))⟩
theorem k138_eq : c138.k = k138 := by kernel_rfl
def k139 : FK := ⟨58, [.tmp 4],
  .seq (.ops [⟨some 4, none, k_mvc (.bool false)⟩])
  (.seq (.seq (.ops [⟨some 11, none, k_mvt 1⟩,
    ⟨some 12, none, k_len (.t 11)⟩,
    ⟨some 13, none, k_mvc (.int .i64 0)⟩])
  (.block 0 (.loop (.seq (.ops [⟨some 14, none, k_ar ar_lss (.t 13) (.t 12)⟩])
  (.seq (.cond (.t 14) (.skip)
  (.exit 0))
  (.seq (.block 1 (.seq (.ops [⟨some 15, none, k_mvt 13⟩,
    ⟨some 16, none, k_iad 1 (.t 11) (.t 13)⟩,
    ⟨some 17, none, k_ld false 1 (.t 16)⟩,
    ⟨some 5, none, k_mvt 15⟩,
    ⟨some 6, none, k_mvt 17⟩])
  (.seq (.ops [⟨some 18, none, k_mvt 1⟩,
    ⟨some 19, none, k_mvt 5⟩,
    ⟨some 20, none, k_slc 1 (.t 18) none (some (.t 19)) none⟩,
    ⟨some 21, none, k_len (.t 20)⟩,
    ⟨some 22, none, k_mvc (.int .i64 0)⟩])
  (.block 2 (.loop (.seq (.ops [⟨some 23, none, k_ar ar_lss (.t 22) (.t 21)⟩])
  (.seq (.cond (.t 23) (.skip)
  (.exit 2))
  (.seq (.block 3 (.seq (.ops [⟨some 24, none, k_iad 1 (.t 20) (.t 22)⟩,
    ⟨some 25, none, k_ld false 1 (.t 24)⟩,
    ⟨some 8, none, k_mvt 25⟩])
  (.seq (.dops [⟨⟨some 26, none, none, .mv (.t 0)⟩, ⟨some 26, none, k_mvt 0⟩⟩,
    ⟨⟨some 27, none, none, .chk (.t 26)⟩, ⟨some 27, none, k_chk (.t 26)⟩⟩,
    ⟨⟨some 28, none, none, .fad 0 (.t 27)⟩, ⟨some 28, none, k_fad 0 (.t 27)⟩⟩,
    ⟨⟨some 29, none, none, .fad 2 (.t 28)⟩, ⟨some 29, none, k_fad 2 (.t 28)⟩⟩,
    ⟨⟨some 30, none, some (0, 0), .ld false 1 (.t 29)⟩, ⟨some 30, none, k_ld false 1 (.t 29)⟩⟩,
    ⟨⟨some 31, none, none, .mv (.t 6)⟩, ⟨some 31, none, k_mvt 6⟩⟩,
    ⟨⟨some 32, none, none, .iad 4 (.t 30) (.t 31)⟩, ⟨some 32, none, k_iad 4 (.t 30) (.t 31)⟩⟩,
    ⟨⟨some 33, none, none, .fad 0 (.t 32)⟩, ⟨some 33, none, k_fad 0 (.t 32)⟩⟩,
    ⟨⟨some 34, none, some (0, 0), .ld false 1 (.t 33)⟩, ⟨some 34, none, k_ld false 1 (.t 33)⟩⟩,
    ⟨⟨some 35, none, none, .mv (.t 0)⟩, ⟨some 35, none, k_mvt 0⟩⟩,
    ⟨⟨some 36, none, none, .chk (.t 35)⟩, ⟨some 36, none, k_chk (.t 35)⟩⟩,
    ⟨⟨some 37, none, none, .fad 0 (.t 36)⟩, ⟨some 37, none, k_fad 0 (.t 36)⟩⟩,
    ⟨⟨some 38, none, none, .fad 2 (.t 37)⟩, ⟨some 38, none, k_fad 2 (.t 37)⟩⟩,
    ⟨⟨some 39, none, some (0, 0), .ld false 1 (.t 38)⟩, ⟨some 39, none, k_ld false 1 (.t 38)⟩⟩,
    ⟨⟨some 40, none, none, .mv (.t 8)⟩, ⟨some 40, none, k_mvt 8⟩⟩,
    ⟨⟨some 41, none, none, .iad 4 (.t 39) (.t 40)⟩, ⟨some 41, none, k_iad 4 (.t 39) (.t 40)⟩⟩,
    ⟨⟨some 42, none, none, .fad 0 (.t 41)⟩, ⟨some 42, none, k_fad 0 (.t 41)⟩⟩,
    ⟨⟨some 43, none, some (0, 0), .ld false 1 (.t 42)⟩, ⟨some 43, none, k_ld false 1 (.t 42)⟩⟩,
    ⟨⟨some 9, none, none, .mv (.t 34)⟩, ⟨some 9, none, k_mvt 34⟩⟩,
    ⟨⟨some 10, none, none, .mv (.t 43)⟩, ⟨some 10, none, k_mvt 43⟩⟩])
  (.seq (.ops [⟨some 44, none, k_mvt 0⟩,
    ⟨some 45, none, k_mvt 9⟩,
    ⟨some 46, none, k_call (.c (.fn 119 [] [])) [.t 44, .t 45]⟩,
    ⟨some 47, none, k_mvt 10⟩,
    ⟨some 48, none, k_call (.c (.fn 61 [] [])) [.t 46, .t 47]⟩,
    ⟨some 49, none, k_mvt 48⟩,
    ⟨some 50, some (49, false), k_mvt 0⟩,
    ⟨some 51, some (49, false), k_mvt 10⟩,
    ⟨some 52, some (49, false), k_call (.c (.fn 119 [] [])) [.t 50, .t 51]⟩,
    ⟨some 53, some (49, false), k_mvt 9⟩,
    ⟨some 54, some (49, false), k_call (.c (.fn 61 [] [])) [.t 52, .t 53]⟩,
    ⟨some 55, none, k_pick (.t 49) (.c (.bool true)) (.t 54)⟩])
  (.cond (.t 55) (.seq (.ops [⟨some 4, none, k_mvc (.bool false)⟩])
  (.ret))
  (.skip))))))
  (.ops [⟨some 56, none, k_ar ar_add (.t 22) (.c (.int .i64 1))⟩,
    ⟨some 22, none, k_mvt 56⟩])))))))))
  (.ops [⟨some 57, none, k_ar ar_add (.t 13) (.c (.int .i64 1))⟩,
    ⟨some 13, none, k_mvt 57⟩])))))))
  (.seq (.ops [⟨some 4, none, k_mvc (.bool true)⟩])
  (.ret)))⟩
theorem k139_eq : c139.k = k139 := by kernel_rfl
def k140 : FK := ⟨6, [.tmp 4],
  .seq (.ops [⟨some 2, none, k_box (.t 0)⟩,
    ⟨some 3, none, k_box (.t 1)⟩,
    ⟨some 4, none, k_mvc (.nilf)⟩])
  (.seq (.ops [⟨some 5, none, k_mkf 156 [] [.t 2, .t 3]⟩,
    ⟨some 4, none, k_mvt 5⟩])
  (.ret))⟩
theorem k140_eq : c140.k = k140 := by kernel_rfl
def k141 : FK := ⟨19, [.tmp 4],
  .seq (.ops [⟨some 4, none, k_mvc (.bool false)⟩])
  (.seq (.dops [⟨⟨some 5, none, some (0, 0), .ld false 1 (.t 1)⟩, ⟨some 5, none, k_ld false 1 (.t 1)⟩⟩,
    ⟨⟨some 6, none, some (0, 0), .ld false 1 (.t 2)⟩, ⟨some 6, none, k_ld false 1 (.t 2)⟩⟩,
    ⟨⟨some 7, none, none, .call (.c (.fn 119 [] [])) [.t 5, .t 6]⟩, ⟨some 7, none, k_call (.c (.fn 119 [] [])) [.t 5, .t 6]⟩⟩,
    ⟨⟨some 8, none, some (0, 1), .ld false 1 (.t 1)⟩, ⟨some 8, none, k_ld false 1 (.t 1)⟩⟩,
    ⟨⟨some 9, none, none, .chk (.t 8)⟩, ⟨some 9, none, k_chk (.t 8)⟩⟩,
    ⟨⟨some 10, none, none, .fad 0 (.t 9)⟩, ⟨some 10, none, k_fad 0 (.t 9)⟩⟩,
    ⟨⟨some 11, none, none, .fad 2 (.t 10)⟩, ⟨some 11, none, k_fad 2 (.t 10)⟩⟩,
    ⟨⟨some 12, none, some (0, 1), .ld false 1 (.t 11)⟩, ⟨some 12, none, k_ld false 1 (.t 11)⟩⟩,
    ⟨⟨some 13, none, none, .mv (.t 0)⟩, ⟨some 13, none, k_mvt 0⟩⟩,
    ⟨⟨some 14, none, none, .iad 4 (.t 12) (.t 13)⟩, ⟨some 14, none, k_iad 4 (.t 12) (.t 13)⟩⟩,
    ⟨⟨some 15, none, none, .fad 0 (.t 14)⟩, ⟨some 15, none, k_fad 0 (.t 14)⟩⟩,
    ⟨⟨some 16, none, some (0, 1), .ld false 1 (.t 15)⟩, ⟨some 16, none, k_ld false 1 (.t 15)⟩⟩,
    ⟨⟨some 17, none, none, .call (.c (.fn 61 [] [])) [.t 7, .t 16]⟩, ⟨some 17, none, k_call (.c (.fn 61 [] [])) [.t 7, .t 16]⟩⟩,
    ⟨⟨some 18, none, none, .not (.t 17)⟩, ⟨some 18, none, k_not (.t 17)⟩⟩,
    ⟨⟨some 4, none, none, .mv (.t 18)⟩, ⟨some 4, none, k_mvt 18⟩⟩])
  (.ret))⟩
theorem k141_eq : c141.k = k141 := by kernel_rfl
def k142 : FK := ⟨19, [.tmp 4],
  .seq (.ops [⟨some 4, none, k_mvc (.int .i64 0)⟩])
  (.seq (.seq (.ops [⟨some 6, none, k_mvt 0⟩,
    ⟨some 7, none, k_len (.t 6)⟩,
    ⟨some 8, none, k_mvc (.int .i64 0)⟩])
  (.block 0 (.loop (.seq (.ops [⟨some 9, none, k_ar ar_lss (.t 8) (.t 7)⟩])
  (.seq (.cond (.t 9) (.skip)
  (.exit 0))
  (.seq (.block 1 (.seq (.ops [⟨some 10, none, k_mvt 8⟩,
    ⟨some 5, none, k_mvt 10⟩])
  (.seq (.ops [⟨some 11, none, k_mvt 1⟩,
    ⟨some 12, none, k_mvt 0⟩,
    ⟨some 13, none, k_mvt 5⟩,
    ⟨some 14, none, k_iad 2 (.t 12) (.t 13)⟩,
    ⟨some 15, none, k_ld true 2 (.t 14)⟩,
    ⟨some 16, none, k_call (.t 11) [.t 15]⟩])
  (.cond (.t 16) (.seq (.ops [⟨some 17, none, k_mvt 5⟩,
    ⟨some 4, none, k_mvt 17⟩])
  (.ret))
  (.skip)))))
  (.ops [⟨some 18, none, k_ar ar_add (.t 8) (.c (.int .i64 1))⟩,
    ⟨some 8, none, k_mvt 18⟩])))))))
  (.seq (.ops [⟨some 4, none, k_mvc (.int .i64 (-1))⟩])
  (.ret)))⟩
theorem k142_eq : c142.k = k142 := by kernel_rfl
def k143 : FK := ⟨10, [.tmp 4],
  .seq (.ops [⟨some 4, none, k_mvc (.bool false)⟩])
  (.seq (.dops [⟨⟨some 5, none, some (0, 0), .ld false 1 (.t 1)⟩, ⟨some 5, none, k_ld false 1 (.t 1)⟩⟩,
    ⟨⟨some 6, none, none, .mv (.t 0)⟩, ⟨some 6, none, k_mvt 0⟩⟩,
    ⟨⟨some 7, none, none, .call (.c (.fn 61 [] [])) [.t 5, .t 6]⟩, ⟨some 7, none, k_call (.c (.fn 61 [] [])) [.t 5, .t 6]⟩⟩,
    ⟨⟨some 8, none, some (0, 1), .ld false 1 (.t 2)⟩, ⟨some 8, none, k_ld false 1 (.t 2)⟩⟩,
    ⟨⟨some 9, none, none, .beq true (.t 7) (.t 8)⟩, ⟨some 9, none, k_beq true (.t 7) (.t 8)⟩⟩,
    ⟨⟨some 4, none, none, .mv (.t 9)⟩, ⟨some 4, none, k_mvt 9⟩⟩])
  (.ret))⟩
theorem k143_eq : c143.k = k143 := by kernel_rfl
def k144 : FK := ⟨39, [.tmp 9],
  .seq (.ops [⟨some 9, none, k_mvc (.bool false)⟩])
  (.seq (.seq (.ops [⟨some 11, none, k_mvt 0⟩,
    ⟨some 12, none, k_len (.t 11)⟩,
    ⟨some 13, none, k_ld false 1 (.t 2)⟩,
    ⟨some 14, none, k_ar ar_eql (.t 12) (.t 13)⟩])
  (.cond (.t 14) (.seq (.ops [⟨some 15, none, k_mvt 0⟩,
    ⟨none, none, k_sto 1 (.t 3) (.t 15)⟩])
  (.seq (.ops [⟨some 16, none, k_ld false 1 (.t 4)⟩,
    ⟨some 17, none, k_mvt 0⟩,
    ⟨some 18, none, k_call (.t 16) [.t 17]⟩,
    ⟨some 9, none, k_mvt 18⟩])
  (.ret)))
  (.skip)))
  (.seq (.seq (.ops [⟨some 19, none, k_mvt 1⟩,
    ⟨some 10, none, k_mvt 19⟩])
  (.block 0 (.loop (.seq (.seq (.ops [⟨some 20, none, k_mvt 10⟩,
    ⟨some 21, none, k_ld false 1 (.t 5)⟩,
    ⟨some 22, none, k_chk (.t 21)⟩,
    ⟨some 23, none, k_fad 0 (.t 22)⟩,
    ⟨some 24, none, k_fad 2 (.t 23)⟩,
    ⟨some 25, none, k_ld false 1 (.t 24)⟩,
    ⟨some 26, none, k_len (.t 25)⟩,
    ⟨some 27, none, k_ar ar_lss (.t 20) (.t 26)⟩])
  (.cond (.t 27) (.skip)
  (.exit 0)))
  (.seq (.block 1 (.seq (.dops [⟨⟨some 30, none, some (0, 2), .ld false 1 (.t 6)⟩, ⟨some 30, none, k_ld false 1 (.t 6)⟩⟩,
    ⟨⟨some 31, none, none, .mv (.t 0)⟩, ⟨some 31, none, k_mvt 0⟩⟩,
    ⟨⟨some 32, none, none, .call (.c (.fn 63 [] [])) [.t 31]⟩, ⟨some 32, none, k_call (.c (.fn 63 [] [])) [.t 31]⟩⟩,
    ⟨⟨some 33, none, none, .mv (.t 10)⟩, ⟨some 33, none, k_mvt 10⟩⟩,
    ⟨⟨some 34, none, none, .bsl 1 [.int .i64 0] [(0, 1, .t 33)]⟩, ⟨some 34, none, k_bsl 1 [.int .i64 0] [(0, 1, .t 33)]⟩⟩,
    ⟨⟨some 35, none, none, .app 1 8 (.t 32) (.t 34)⟩, ⟨some 35, none, k_app 1 8 (.t 32) (.t 34)⟩⟩,
    ⟨⟨some 36, none, none, .mv (.t 10)⟩, ⟨some 36, none, k_mvt 10⟩⟩,
    ⟨⟨some 37, none, none, .ar .add (.t 36) (.c (.int .i64 1))⟩, ⟨some 37, none, k_ar ar_add (.t 36) (.c (.int .i64 1))⟩⟩,
    ⟨⟨some 38, none, none, .call (.t 30) [.t 35, .t 37]⟩, ⟨some 38, none, k_call (.t 30) [.t 35, .t 37]⟩⟩])
  (.cond (.t 38) (.seq (.ops [⟨some 9, none, k_mvc (.bool true)⟩])
  (.ret))
  (.skip))))
  (.ops [⟨some 28, none, k_mvt 10⟩,
    ⟨some 29, none, k_ar ar_add (.t 28) (.c (.int .i64 1))⟩,
    ⟨some 10, none, k_mvt 29⟩]))))))
  (.seq (.ops [⟨some 9, none, k_mvc (.bool false)⟩])
  (.ret))))⟩
theorem k144_eq : c144.k = k144 := by kernel_rfl
def k148 : FK := ⟨8, [.tmp 3],
  .seq (.ops [⟨some 2, none, k_box (.t 0)⟩,
    ⟨some 3, none, k_mvc (.bool false)⟩])
  (.seq (.ops [⟨some 4, none, k_ld false 1 (.t 1)⟩,
    ⟨some 5, none, k_ld true 4 (.t 2)⟩,
    ⟨some 6, none, k_call (.t 4) [.t 5]⟩,
    ⟨some 7, none, k_not (.t 6)⟩,
    ⟨some 3, none, k_mvt 7⟩])
  (.ret))⟩
theorem k148_eq : c148.k = k148 := by kernel_rfl
def k149 : FK := ⟨8, [.tmp 3],
  .seq (.ops [⟨some 2, none, k_box (.t 0)⟩,
    ⟨some 3, none, k_mvc (.bool false)⟩])
  (.seq (.ops [⟨some 4, none, k_ld false 1 (.t 1)⟩,
    ⟨some 5, none, k_ld true 2 (.t 2)⟩,
    ⟨some 6, none, k_call (.t 4) [.t 5]⟩,
    ⟨some 7, none, k_not (.t 6)⟩,
    ⟨some 3, none, k_mvt 7⟩])
  (.ret))⟩
theorem k149_eq : c149.k = k149 := by kernel_rfl
def k151 : FK := ⟨3, [.tmp 2],
  .seq (.ops [⟨some 2, none, k_mvc (.bool false)⟩])
  (.seq (.ops [⟨some 2, none, k_mvc (.bool true)⟩])
  (.ret))⟩
theorem k151_eq : c151.k = k151 := by kernel_rfl
def k152 : FK := ⟨30, [],
  .seq (.dops [⟨⟨some 8, none, none, .mv (.t 0)⟩, ⟨some 8, none, k_mvt 0⟩⟩,
    ⟨⟨some 9, none, none, .iaa 12 2 (.t 3) (.t 8)⟩, ⟨some 9, none, k_iaa 12 2 (.t 3) (.t 8)⟩⟩,
    ⟨⟨some 10, none, none, .fad 0 (.t 9)⟩, ⟨some 10, none, k_fad 0 (.t 9)⟩⟩,
    ⟨⟨some 11, none, some (0, 1), .ld false 1 (.t 10)⟩, ⟨some 11, none, k_ld false 1 (.t 10)⟩⟩,
    ⟨⟨some 12, none, none, .mv (.t 1)⟩, ⟨some 12, none, k_mvt 1⟩⟩,
    ⟨⟨some 13, none, none, .mx [.t 11, .t 12]⟩, ⟨some 13, none, k_mx [.t 11, .t 12]⟩⟩,
    ⟨⟨some 14, none, none, .mv (.t 0)⟩, ⟨some 14, none, k_mvt 0⟩⟩,
    ⟨⟨some 15, none, none, .iaa 12 2 (.t 3) (.t 14)⟩, ⟨some 15, none, k_iaa 12 2 (.t 3) (.t 14)⟩⟩,
    ⟨⟨some 16, none, none, .fad 1 (.t 15)⟩, ⟨some 16, none, k_fad 1 (.t 15)⟩⟩,
    ⟨⟨some 17, none, some (0, 0), .ld false 1 (.t 16)⟩, ⟨some 17, none, k_ld false 1 (.t 16)⟩⟩,
    ⟨⟨some 18, none, none, .mv (.t 2)⟩, ⟨some 18, none, k_mvt 2⟩⟩,
    ⟨⟨some 19, none, none, .bsl 1 [.int .i64 0] [(0, 1, .t 18)]⟩, ⟨some 19, none, k_bsl 1 [.int .i64 0] [(0, 1, .t 18)]⟩⟩,
    ⟨⟨some 20, none, none, .call (.c (.fn 131 [] [])) [.t 17, .t 19]⟩, ⟨some 20, none, k_call (.c (.fn 131 [] [])) [.t 17, .t 19]⟩⟩,
    ⟨⟨some 21, none, none, .bld [.int .i64 0, .int .i64 0] [(0, 1, .t 13), (1, 1, .t 20)]⟩, ⟨some 21, none, k_bld [.int .i64 0, .int .i64 0] [(0, 1, .t 13), (1, 1, .t 20)]⟩⟩,
    ⟨⟨some 7, none, none, .alc [.int .i64 0, .int .i64 0]⟩, ⟨some 7, none, k_alc [.int .i64 0, .int .i64 0]⟩⟩,
    ⟨⟨none, none, none, .sto 2 (.t 7) (.t 21)⟩, ⟨none, none, k_sto 2 (.t 7) (.t 21)⟩⟩])
  (.seq (.dops [⟨⟨some 22, none, some (0, 0), .ld true 2 (.t 7)⟩, ⟨some 22, none, k_ld true 2 (.t 7)⟩⟩,
    ⟨⟨some 23, none, none, .mv (.t 0)⟩, ⟨some 23, none, k_mvt 0⟩⟩,
    ⟨⟨some 24, none, none, .iaa 12 2 (.t 3) (.t 23)⟩, ⟨some 24, none, k_iaa 12 2 (.t 3) (.t 23)⟩⟩,
    ⟨⟨some 25, none, some (0, 0), .ld true 2 (.t 24)⟩, ⟨some 25, none, k_ld true 2 (.t 24)⟩⟩,
    ⟨⟨some 26, none, none, .feq true 2 (.t 22) (.t 25)⟩, ⟨some 26, none, k_feq true 2 (.t 22) (.t 25)⟩⟩])
  (.cond (.t 26) (.ops [⟨some 27, none, k_mvt 0⟩,
    ⟨some 28, none, k_ld true 2 (.t 7)⟩,
    ⟨some 29, none, k_iaa 12 2 (.t 3) (.t 27)⟩,
    ⟨none, none, k_sto 2 (.t 29) (.t 28)⟩])
  (.skip)))⟩
theorem k152_eq : c152.k = k152 := by kernel_rfl
def k153 : FK := ⟨19, [.tmp 4],
  .seq (.ops [⟨some 4, none, k_mvc (.int .i64 0)⟩])
  (.seq (.seq (.ops [⟨some 6, none, k_mvt 0⟩,
    ⟨some 7, none, k_len (.t 6)⟩,
    ⟨some 8, none, k_mvc (.int .i64 0)⟩])
  (.block 0 (.loop (.seq (.ops [⟨some 9, none, k_ar ar_lss (.t 8) (.t 7)⟩])
  (.seq (.cond (.t 9) (.skip)
  (.exit 0))
  (.seq (.block 1 (.seq (.ops [⟨some 10, none, k_mvt 8⟩,
    ⟨some 5, none, k_mvt 10⟩])
  (.seq (.ops [⟨some 11, none, k_mvt 1⟩,
    ⟨some 12, none, k_mvt 0⟩,
    ⟨some 13, none, k_mvt 5⟩,
    ⟨some 14, none, k_iad 4 (.t 12) (.t 13)⟩,
    ⟨some 15, none, k_ld true 4 (.t 14)⟩,
    ⟨some 16, none, k_call (.t 11) [.t 15]⟩])
  (.cond (.t 16) (.seq (.ops [⟨some 17, none, k_mvt 5⟩,
    ⟨some 4, none, k_mvt 17⟩])
  (.ret))
  (.skip)))))
  (.ops [⟨some 18, none, k_ar ar_add (.t 8) (.c (.int .i64 1))⟩,
    ⟨some 8, none, k_mvt 18⟩])))))))
  (.seq (.ops [⟨some 4, none, k_mvc (.int .i64 (-1))⟩])
  (.ret)))⟩
theorem k153_eq : c153.k = k153 := by kernel_rfl
def k154 : FK := ⟨9, [.tmp 4],
  .seq (.ops [⟨some 4, none, k_mvc (.bool false)⟩])
  (.seq (.ops [⟨some 5, none, k_mvt 0⟩,
    ⟨some 6, none, k_mvt 1⟩,
    ⟨some 7, none, k_call (.c (.fn 159 [] [])) [.t 5, .t 6]⟩,
    ⟨some 8, none, k_ar ar_geq (.t 7) (.c (.int .i64 0))⟩,
    ⟨some 4, none, k_mvt 8⟩])
  (.ret))⟩
theorem k154_eq : c154.k = k154 := by kernel_rfl
def k155 : FK := ⟨8, [.tmp 3],
  .seq (.ops [⟨some 2, none, k_box (.t 0)⟩,
    ⟨some 3, none, k_mvc (.bool false)⟩])
  (.seq (.ops [⟨some 4, none, k_ld false 1 (.t 1)⟩,
    ⟨some 5, none, k_ld true 2 (.t 2)⟩,
    ⟨some 6, none, k_call (.t 4) [.t 5]⟩,
    ⟨some 7, none, k_not (.t 6)⟩,
    ⟨some 3, none, k_mvt 7⟩])
  (.ret))⟩
theorem k155_eq : c155.k = k155 := by kernel_rfl
def k156 : FK := ⟨9, [],
  .seq (.ops [⟨some 3, none, k_box (.t 0)⟩])
  (.seq (.ops [⟨some 4, none, k_alc [.nilf]⟩])
  (.seq (.ops [⟨some 5, none, k_mkf 157 [] [.t 1, .t 3, .t 4]⟩,
    ⟨none, none, k_sto 1 (.t 4) (.t 5)⟩])
  (.ops [⟨some 6, none, k_ld false 1 (.t 4)⟩,
    ⟨some 7, none, k_ld false 1 (.t 2)⟩,
    ⟨some 8, none, k_call (.t 6) [.t 7]⟩])))⟩
theorem k156_eq : c156.k = k156 := by kernel_rfl
def k157 : FK := ⟨25, [.tmp 5],
  .seq (.ops [⟨some 5, none, k_mvc (.bool false)⟩])
  (.seq (.seq (.ops [⟨some 6, none, k_ld false 1 (.t 1)⟩,
    ⟨some 7, none, k_chk (.t 6)⟩,
    ⟨some 8, none, k_fad 3 (.t 7)⟩,
    ⟨some 9, none, k_ld false 1 (.t 8)⟩,
    ⟨some 10, none, k_mvt 0⟩,
    ⟨some 11, none, k_lkp (.nils) (.t 9) (.t 10) false⟩,
    ⟨some 12, none, k_len (.t 11)⟩,
    ⟨some 13, none, k_ar ar_eql (.t 12) (.c (.int .i64 0))⟩])
  (.cond (.t 13) (.seq (.ops [⟨some 14, none, k_ld false 1 (.t 2)⟩,
    ⟨some 15, none, k_mvt 0⟩,
    ⟨some 16, none, k_call (.t 14) [.t 15]⟩,
    ⟨some 5, none, k_mvt 16⟩])
  (.ret))
  (.skip)))
  (.seq (.dops [⟨⟨some 17, none, some (0, 0), .ld false 1 (.t 1)⟩, ⟨some 17, none, k_ld false 1 (.t 1)⟩⟩,
    ⟨⟨some 18, none, none, .chk (.t 17)⟩, ⟨some 18, none, k_chk (.t 17)⟩⟩,
    ⟨⟨some 19, none, none, .fad 3 (.t 18)⟩, ⟨some 19, none, k_fad 3 (.t 18)⟩⟩,
    ⟨⟨some 20, none, some (0, 0), .ld false 1 (.t 19)⟩, ⟨some 20, none, k_ld false 1 (.t 19)⟩⟩,
    ⟨⟨some 21, none, none, .mv (.t 0)⟩, ⟨some 21, none, k_mvt 0⟩⟩,
    ⟨⟨some 22, none, some (0, 0), .lkp none (.nils) (.t 20) (.t 21) false⟩, ⟨some 22, none, k_lkp (.nils) (.t 20) (.t 21) false⟩⟩,
    ⟨⟨some 23, none, some (0, 0), .ld false 1 (.t 3)⟩, ⟨some 23, none, k_ld false 1 (.t 3)⟩⟩,
    ⟨⟨some 24, none, none, .call (.c (.fn 92 [] [])) [.t 22, .t 23]⟩, ⟨some 24, none, k_call (.c (.fn 92 [] [])) [.t 22, .t 23]⟩⟩,
    ⟨⟨some 5, none, none, .mv (.t 24)⟩, ⟨some 5, none, k_mvt 24⟩⟩])
  (.ret)))⟩
theorem k157_eq : c157.k = k157 := by kernel_rfl
def k159 : FK := ⟨19, [.tmp 4],
  .seq (.ops [⟨some 4, none, k_mvc (.int .i64 0)⟩])
  (.seq (.seq (.ops [⟨some 6, none, k_mvt 0⟩,
    ⟨some 7, none, k_len (.t 6)⟩,
    ⟨some 8, none, k_mvc (.int .i64 0)⟩])
  (.block 0 (.loop (.seq (.ops [⟨some 9, none, k_ar ar_lss (.t 8) (.t 7)⟩])
  (.seq (.cond (.t 9) (.skip)
  (.exit 0))
  (.seq (.block 1 (.seq (.ops [⟨some 10, none, k_mvt 8⟩,
    ⟨some 5, none, k_mvt 10⟩])
  (.seq (.ops [⟨some 11, none, k_mvt 1⟩,
    ⟨some 12, none, k_mvt 0⟩,
    ⟨some 13, none, k_mvt 5⟩,
    ⟨some 14, none, k_iad 2 (.t 12) (.t 13)⟩,
    ⟨some 15, none, k_ld true 2 (.t 14)⟩,
    ⟨some 16, none, k_call (.t 11) [.t 15]⟩])
  (.cond (.t 16) (.seq (.ops [⟨some 17, none, k_mvt 5⟩,
    ⟨some 4, none, k_mvt 17⟩])
  (.ret))
  (.skip)))))
  (.ops [⟨some 18, none, k_ar ar_add (.t 8) (.c (.int .i64 1))⟩,
    ⟨some 8, none, k_mvt 18⟩])))))))
  (.seq (.ops [⟨some 4, none, k_mvc (.int .i64 (-1))⟩])
  (.ret)))⟩
theorem k159_eq : c159.k = k159 := by kernel_rfl
def fkT : T FK := (.node none (.node none (.node none (.node none (.node none (.node (some k31) (.node (some k63) (.node (some k127) .nil .nil) .nil) (.node (some k95) (.node (some k159) .nil .nil) .nil)) (.node (some k47) (.node (some k79) (.node (some k143) .nil .nil) .nil) .nil)) (.node none (.node none (.node none (.node (some k135) .nil .nil) .nil) .nil) (.node none (.node (some k87) (.node (some k151) .nil .nil) .nil) (.node (some k119) .nil .nil)))) (.node none (.node none (.node none (.node none (.node (some k131) .nil .nil) .nil) (.node (some k99) .nil .nil)) (.node none .nil (.node (some k115) .nil .nil))) (.node none (.node none (.node none (.node (some k139) .nil .nil) .nil) (.node (some k107) .nil .nil)) (.node none (.node (some k91) (.node (some k155) .nil .nil) .nil) .nil)))) (.node none (.node none (.node (some k17) (.node none .nil (.node (some k97) .nil .nil)) (.node none (.node (some k81) .nil .nil) (.node (some k113) .nil .nil))) (.node (some k25) (.node none (.node none (.node (some k137) .nil .nil) .nil) (.node (some k105) .nil .nil)) (.node none (.node (some k89) (.node (some k153) .nil .nil) .nil) (.node (some k121) .nil .nil)))) (.node none (.node none .nil (.node none (.node none (.node (some k149) .nil .nil) .nil) (.node (some k117) .nil .nil))) (.node (some k29) (.node none (.node none (.node (some k141) .nil .nil) .nil) .nil) (.node (some k61) (.node (some k93) (.node (some k157) .nil .nil) .nil) (.node (some k125) .nil .nil)))))) (.node none (.node none (.node none (.node none (.node none (.node (some k64) .nil .nil) (.node (some k96) .nil .nil)) (.node (some k48) (.node (some k80) (.node (some k144) .nil .nil) .nil) (.node (some k112) .nil .nil))) (.node none (.node none (.node (some k72) (.node (some k136) .nil .nil) .nil) .nil) (.node none (.node (some k88) (.node (some k152) .nil .nil) .nil) .nil))) (.node none (.node none (.node (some k36) .nil .nil) (.node none (.node none (.node (some k148) .nil .nil) .nil) (.node (some k116) .nil .nil))) (.node none (.node none (.node none (.node (some k140) .nil .nil) .nil) (.node (some k108) .nil .nil)) (.node none (.node (some k92) (.node (some k156) .nil .nil) .nil) (.node (some k124) .nil .nil))))) (.node none (.node none (.node none .nil (.node none (.node (some k82) .nil .nil) (.node (some k114) .nil .nil))) (.node none (.node none (.node none (.node (some k138) .nil .nil) .nil) (.node (some k106) .nil .nil)) (.node none (.node (some k90) (.node (some k154) .nil .nil) .nil) (.node (some k122) .nil .nil)))) (.node none (.node none (.node (some k38) (.node none (.node (some k134) .nil .nil) .nil) .nil) (.node (some k54) .nil (.node (some k118) .nil .nil))) (.node (some k30) (.node none (.node (some k78) (.node (some k142) .nil .nil) .nil) .nil) (.node none (.node (some k94) .nil .nil) (.node (some k126) .nil .nil)))))))
end
end Go.Ab.Try
