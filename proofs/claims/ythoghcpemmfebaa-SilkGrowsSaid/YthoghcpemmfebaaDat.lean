/- The code of the functions, as our machine has it (printed by a program out of the loaded text). -/
import Derived.Test.YthoghcpemmfebaaAb3
namespace Go.Ab.Try
def c13 : FD := ⟨186, [.tmp 8],
  .seq (.ops [⟨some 4, none, none, .box (.t 0)⟩,
    ⟨some 5, none, none, .box (.t 1)⟩,
    ⟨some 8, none, none, .mv (.c (.bool false))⟩])
  (.seq (.seq (.ops [⟨some 27, none, none, .ld true 3 (.t 4)⟩,
    ⟨some 28, none, none, .call (.c (.fn 16 [] [])) [.t 27]⟩,
    ⟨some 29, none, none, .mv (.t 28)⟩,
    ⟨some 30, some (29, false), none, .mv (.t 3)⟩,
    ⟨some 31, some (29, false), none, .len (.t 30)⟩,
    ⟨some 32, some (29, false), none, .ar .gtr (.t 31) (.c (.int .i64 16))⟩,
    ⟨some 33, none, none, .pick (.t 29) (.c (.bool true)) (.t 32)⟩])
  (.cond (.t 33) (.seq (.ops [⟨some 34, none, none, .call (.c (.fn 17 [] [])) []⟩,
    ⟨some 8, none, none, .mv (.t 34)⟩])
  (.ret))
  (.skip)))
  (.seq (.dops [⟨some 35, none, some (0, 0), .ld true 3 (.t 4)⟩,
    ⟨some 36, none, none, .call (.c (.fn 18 [] [])) [.t 35]⟩,
    ⟨some 37, none, some (0, 1), .ld true 3 (.t 4)⟩,
    ⟨some 38, none, none, .call (.c (.fn 19 [] [])) [.t 37]⟩,
    ⟨some 39, none, none, .mv (.t 3)⟩,
    ⟨some 40, none, none, .call (.c (.fn 66 [] [])) [.t 39]⟩,
    ⟨some 9, none, none, .alc [.int .i64 0, .nils, .nils]⟩,
    ⟨some 10, none, none, .alc [.int .i64 0, .nils, .nils]⟩,
    ⟨none, none, none, .sto 3 (.t 9) (.t 36)⟩,
    ⟨none, none, none, .sto 3 (.t 10) (.t 38)⟩,
    ⟨some 11, none, none, .mv (.t 40)⟩])
  (.seq (.ops [⟨some 41, none, none, .ld true 3 (.t 10)⟩,
    ⟨some 42, none, none, .call (.c (.fn 20 [] [])) [.t 41]⟩,
    ⟨some 12, none, none, .mv (.t 42)⟩])
  (.seq (.ops [⟨some 43, none, none, .mv (.t 12)⟩,
    ⟨some 44, none, none, .mv (.t 12)⟩,
    ⟨some 13, none, none, .mv (.t 43)⟩,
    ⟨some 14, none, none, .mv (.t 44)⟩])
  (.seq (.ops [⟨some 15, none, none, .alc [.int .i64 0, .nils, .nils]⟩,
    ⟨some 16, none, none, .alc [.int .i64 0, .nils, .nils]⟩])
  (.seq (.seq (.ops [⟨some 45, none, none, .mv (.t 12)⟩,
    ⟨some 46, none, none, .ar .eql (.t 45) (.c (.int .i64 0))⟩])
  (.cond (.t 46) (.seq (.seq (.ops [⟨some 47, none, none, .fad 2 (.t 4)⟩,
    ⟨some 48, none, none, .ld false 1 (.t 47)⟩,
    ⟨some 49, none, none, .len (.t 48)⟩,
    ⟨some 50, none, none, .ar .eql (.t 49) (.c (.int .i64 10))⟩])
  (.cond (.t 50) (.ops [⟨some 13, none, none, .mv (.c (.int .i64 9))⟩])
  (.seq (.ops [⟨some 51, none, none, .ld true 3 (.t 4)⟩,
    ⟨some 52, none, none, .call (.c (.fn 19 [] [])) [.t 51]⟩,
    ⟨some 17, none, none, .alc [.int .i64 0, .nils, .nils]⟩,
    ⟨none, none, none, .sto 3 (.t 17) (.t 52)⟩])
  (.seq (.ops [⟨some 53, none, none, .fad 2 (.t 17)⟩,
    ⟨some 54, none, none, .ld false 1 (.t 53)⟩,
    ⟨some 55, none, none, .ld true 4 (.t 5)⟩,
    ⟨some 56, none, none, .bsl 1 [.int .i64 0, .int .i64 0, .int .i64 0, .int .i64 0] [(0, 4, .t 55)]⟩,
    ⟨some 57, none, none, .app 4 32 (.t 54) (.t 56)⟩,
    ⟨some 58, none, none, .fad 2 (.t 17)⟩,
    ⟨none, none, none, .sto 1 (.t 58) (.t 57)⟩])
  (.seq (.ops [⟨some 59, none, none, .ld true 3 (.t 17)⟩,
    ⟨some 60, none, none, .call (.c (.fn 20 [] [])) [.t 59]⟩,
    ⟨some 13, none, none, .mv (.t 60)⟩])
  (.seq (.ops [⟨some 61, none, none, .mv (.t 13)⟩,
    ⟨some 62, none, none, .ar .eql (.t 61) (.c (.int .i64 0))⟩])
  (.cond (.t 62) (.seq (.ops [⟨some 63, none, none, .ld true 3 (.t 4)⟩,
    ⟨some 64, none, none, .call (.c (.fn 18 [] [])) [.t 63]⟩,
    ⟨none, none, none, .sto 3 (.t 15) (.t 64)⟩])
  (.ops [⟨some 65, none, none, .fad 2 (.t 15)⟩,
    ⟨some 66, none, none, .ld false 1 (.t 65)⟩,
    ⟨some 67, none, none, .ld true 4 (.t 5)⟩,
    ⟨some 68, none, none, .bsl 1 [.int .i64 0, .int .i64 0, .int .i64 0, .int .i64 0] [(0, 4, .t 67)]⟩,
    ⟨some 69, none, none, .app 4 32 (.t 66) (.t 68)⟩,
    ⟨some 70, none, none, .fad 2 (.t 15)⟩,
    ⟨none, none, none, .sto 1 (.t 70) (.t 69)⟩]))
  (.skip))))))))
  (.seq (.ops [⟨some 18, none, none, .mv (.c (.bool false))⟩])
  (.seq (.seq (.ops [⟨some 71, none, none, .mv (.t 3)⟩,
    ⟨some 72, none, none, .len (.t 71)⟩,
    ⟨some 73, none, none, .mv (.c (.int .i64 0))⟩])
  (.block 0 (.loop (.seq (.ops [⟨some 74, none, none, .ar .lss (.t 73) (.t 72)⟩])
  (.seq (.cond (.t 74) (.skip)
  (.exit 0))
  (.seq (.block 1 (.seq (.ops [⟨some 75, none, none, .iad 1 (.t 71) (.t 73)⟩,
    ⟨some 76, none, none, .ld false 1 (.t 75)⟩,
    ⟨some 20, none, none, .mv (.t 76)⟩])
  (.ops [⟨some 77, none, none, .mv (.t 18)⟩,
    ⟨some 78, none, none, .mv (.t 77)⟩,
    ⟨some 79, some (78, false), none, .mv (.t 20)⟩,
    ⟨some 80, some (78, false), none, .ar .lss (.t 79) (.c (.int .i64 0))⟩,
    ⟨some 81, none, none, .pick (.t 78) (.c (.bool true)) (.t 80)⟩,
    ⟨some 82, none, none, .mv (.t 81)⟩,
    ⟨some 83, some (82, false), none, .mv (.t 20)⟩,
    ⟨some 84, some (82, false), none, .ar .gtr (.t 83) (.c (.int .i64 3))⟩,
    ⟨some 85, none, none, .pick (.t 82) (.c (.bool true)) (.t 84)⟩,
    ⟨some 18, none, none, .mv (.t 85)⟩])))
  (.ops [⟨some 86, none, none, .ar .add (.t 73) (.c (.int .i64 1))⟩,
    ⟨some 73, none, none, .mv (.t 86)⟩])))))))
  (.block 2 (.seq (.ops [⟨some 105, none, none, .mv (.t 2)⟩,
    ⟨some 106, none, none, .ar .lss (.t 105) (.c (.int .i64 0))⟩,
    ⟨some 107, none, none, .mv (.t 106)⟩,
    ⟨some 108, some (107, false), none, .mv (.t 2)⟩,
    ⟨some 109, some (107, false), none, .fad 1 (.t 4)⟩,
    ⟨some 110, some (107, false), none, .ld false 1 (.t 109)⟩,
    ⟨some 111, some (107, false), none, .len (.t 110)⟩,
    ⟨some 112, some (107, false), none, .ar .geq (.t 108) (.t 111)⟩,
    ⟨some 113, none, none, .pick (.t 107) (.c (.bool true)) (.t 112)⟩,
    ⟨some 104, none, none, .mv (.t 113)⟩])
  (.cond (.t 104) (.ops [⟨some 14, none, none, .mv (.c (.int .i64 1))⟩])
  (.seq (.ops [⟨some 115, none, none, .ld true 3 (.t 10)⟩,
    ⟨some 116, none, none, .mv (.t 2)⟩,
    ⟨some 117, none, none, .call (.c (.fn 55 [] [])) [.t 115, .t 116]⟩,
    ⟨some 118, none, none, .len (.t 117)⟩,
    ⟨some 119, none, none, .ar .gtr (.t 118) (.c (.int .i64 0))⟩,
    ⟨some 114, none, none, .mv (.t 119)⟩])
  (.cond (.t 114) (.ops [⟨some 14, none, none, .mv (.c (.int .i64 5))⟩])
  (.seq (.ops [⟨some 121, none, none, .mv (.t 3)⟩,
    ⟨some 122, none, none, .len (.t 121)⟩,
    ⟨some 123, none, none, .ar .eql (.t 122) (.c (.int .i64 0))⟩,
    ⟨some 120, none, none, .mv (.t 123)⟩])
  (.cond (.t 120) (.ops [⟨some 14, none, none, .mv (.c (.int .i64 2))⟩])
  (.seq (.ops [⟨some 125, none, none, .fad 1 (.t 4)⟩,
    ⟨some 126, none, none, .ld false 1 (.t 125)⟩,
    ⟨some 127, none, none, .len (.t 126)⟩,
    ⟨some 128, none, none, .mv (.t 3)⟩,
    ⟨some 129, none, none, .len (.t 128)⟩,
    ⟨some 130, none, none, .ar .add (.t 127) (.t 129)⟩,
    ⟨some 131, none, none, .ar .gtr (.t 130) (.c (.int .i64 12))⟩,
    ⟨some 124, none, none, .mv (.t 131)⟩])
  (.cond (.t 124) (.ops [⟨some 14, none, none, .mv (.c (.int .i64 9))⟩])
  (.seq (.ops [⟨some 133, none, none, .mv (.t 18)⟩,
    ⟨some 132, none, none, .mv (.t 133)⟩])
  (.cond (.t 132) (.ops [⟨some 14, none, none, .mv (.c (.int .i64 3))⟩])
  (.seq (.ops [⟨some 87, none, none, .ld true 3 (.t 4)⟩,
    ⟨some 88, none, none, .call (.c (.fn 18 [] [])) [.t 87]⟩,
    ⟨none, none, none, .sto 3 (.t 16) (.t 88)⟩])
  (.seq (.ops [⟨some 89, none, none, .mv (.t 3)⟩,
    ⟨some 90, none, none, .len (.t 89)⟩,
    ⟨some 91, none, none, .mv (.c (.int .i64 0))⟩])
  (.block 3 (.loop (.seq (.ops [⟨some 92, none, none, .ar .lss (.t 91) (.t 90)⟩])
  (.seq (.cond (.t 92) (.skip)
  (.exit 3))
  (.seq (.block 4 (.seq (.ops [⟨some 93, none, none, .iad 1 (.t 89) (.t 91)⟩,
    ⟨some 94, none, none, .ld false 1 (.t 93)⟩,
    ⟨some 22, none, none, .mv (.t 94)⟩])
  (.ops [⟨some 95, none, none, .fad 1 (.t 16)⟩,
    ⟨some 96, none, none, .ld false 1 (.t 95)⟩,
    ⟨some 97, none, none, .mv (.t 2)⟩,
    ⟨some 98, none, none, .mv (.t 22)⟩,
    ⟨some 99, none, none, .bld [.int .i64 0, .int .i64 0] [(0, 1, .t 97), (1, 1, .t 98)]⟩,
    ⟨some 100, none, none, .bsl 1 [.int .i64 0, .int .i64 0] [(0, 2, .t 99)]⟩,
    ⟨some 101, none, none, .app 2 16 (.t 96) (.t 100)⟩,
    ⟨some 102, none, none, .fad 1 (.t 16)⟩,
    ⟨none, none, none, .sto 1 (.t 102) (.t 101)⟩])))
  (.ops [⟨some 103, none, none, .ar .add (.t 91) (.c (.int .i64 1))⟩,
    ⟨some 91, none, none, .mv (.t 103)⟩]))))))))))))))))))))))
  (.skip)))
  (.seq (.ops [⟨some 135, none, none, .ld true 3 (.t 9)⟩,
    ⟨some 136, none, none, .ld true 4 (.t 5)⟩,
    ⟨some 137, none, none, .call (.c (.fn 50 [] [])) [.t 135, .t 136]⟩,
    ⟨some 134, none, none, .mv (.t 137)⟩,
    ⟨some 138, none, none, .ext (.t 134) 0⟩,
    ⟨some 139, none, none, .ext (.t 134) 1⟩,
    ⟨some 23, none, none, .alc [.int .i64 0, .nils, .nils]⟩,
    ⟨none, none, none, .sto 3 (.t 23) (.t 138)⟩,
    ⟨some 24, none, none, .mv (.t 139)⟩])
  (.seq (.ops [⟨some 141, none, none, .ld true 3 (.t 9)⟩,
    ⟨some 142, none, none, .mv (.t 2)⟩,
    ⟨some 143, none, none, .mv (.t 11)⟩,
    ⟨some 144, none, none, .call (.c (.fn 53 [] [])) [.t 141, .t 142, .t 143]⟩,
    ⟨some 140, none, none, .mv (.t 144)⟩,
    ⟨some 145, none, none, .ext (.t 140) 0⟩,
    ⟨some 146, none, none, .ext (.t 140) 1⟩,
    ⟨some 25, none, none, .alc [.int .i64 0, .nils, .nils]⟩,
    ⟨none, none, none, .sto 3 (.t 25) (.t 145)⟩,
    ⟨some 26, none, none, .mv (.t 146)⟩])
  (.seq (.seq (.ops [⟨some 147, none, none, .mv (.t 24)⟩,
    ⟨some 148, none, none, .mv (.t 13)⟩,
    ⟨some 149, none, none, .ar .neq (.t 147) (.t 148)⟩,
    ⟨some 150, none, none, .mv (.t 149)⟩,
    ⟨some 151, some (150, false), none, .mv (.t 26)⟩,
    ⟨some 152, some (150, false), none, .mv (.t 14)⟩,
    ⟨some 153, some (150, false), none, .ar .neq (.t 151) (.t 152)⟩,
    ⟨some 154, none, none, .pick (.t 150) (.c (.bool true)) (.t 153)⟩,
    ⟨some 155, none, none, .mv (.t 154)⟩,
    ⟨some 156, some (155, false), none, .ld true 3 (.t 23)⟩,
    ⟨some 157, some (155, false), none, .ld true 3 (.t 15)⟩,
    ⟨some 158, some (155, false), none, .call (.c (.fn 26 [] [])) [.t 156, .t 157]⟩,
    ⟨some 159, some (155, false), none, .not (.t 158)⟩,
    ⟨some 160, none, none, .pick (.t 155) (.c (.bool true)) (.t 159)⟩,
    ⟨some 161, none, none, .mv (.t 160)⟩,
    ⟨some 162, some (161, false), none, .ld true 3 (.t 25)⟩,
    ⟨some 163, some (161, false), none, .ld true 3 (.t 16)⟩,
    ⟨some 164, some (161, false), none, .call (.c (.fn 26 [] [])) [.t 162, .t 163]⟩,
    ⟨some 165, some (161, false), none, .not (.t 164)⟩,
    ⟨some 166, none, none, .pick (.t 161) (.c (.bool true)) (.t 165)⟩])
  (.cond (.t 166) (.seq (.ops [⟨some 8, none, none, .mv (.c (.bool false))⟩])
  (.ret))
  (.skip)))
  (.seq (.ops [⟨some 167, none, none, .fad 1 (.t 23)⟩,
    ⟨some 168, none, none, .ld false 1 (.t 167)⟩,
    ⟨none, none, none, .clr 2 [.int .i64 0, .int .i64 0] (.t 168)⟩])
  (.seq (.ops [⟨some 169, none, none, .fad 2 (.t 23)⟩,
    ⟨some 170, none, none, .ld false 1 (.t 169)⟩,
    ⟨none, none, none, .clr 4 [.int .i64 0, .int .i64 0, .int .i64 0, .int .i64 0] (.t 170)⟩])
  (.seq (.ops [⟨some 171, none, none, .fad 1 (.t 25)⟩,
    ⟨some 172, none, none, .ld false 1 (.t 171)⟩,
    ⟨none, none, none, .clr 2 [.int .i64 0, .int .i64 0] (.t 172)⟩])
  (.seq (.ops [⟨some 173, none, none, .fad 2 (.t 25)⟩,
    ⟨some 174, none, none, .ld false 1 (.t 173)⟩,
    ⟨none, none, none, .clr 4 [.int .i64 0, .int .i64 0, .int .i64 0, .int .i64 0] (.t 174)⟩])
  (.seq (.ops [⟨some 175, none, none, .ld true 3 (.t 9)⟩,
    ⟨some 176, none, none, .ld true 3 (.t 4)⟩,
    ⟨some 177, none, none, .call (.c (.fn 26 [] [])) [.t 175, .t 176]⟩,
    ⟨some 178, none, none, .mv (.t 177)⟩,
    ⟨some 179, some (178, true), none, .mv (.t 11)⟩,
    ⟨some 180, some (178, true), none, .mv (.t 3)⟩,
    ⟨some 181, some (178, true), none, .call (.c (.fn 67 [] [])) [.t 179, .t 180]⟩,
    ⟨some 182, none, none, .pick (.t 178) (.t 181) (.c (.bool false))⟩,
    ⟨some 183, none, none, .mv (.t 182)⟩,
    ⟨some 184, some (183, true), none, .call (.c (.fn 17 [] [])) []⟩,
    ⟨some 185, none, none, .pick (.t 183) (.t 184) (.c (.bool false))⟩,
    ⟨some 8, none, none, .mv (.t 185)⟩])
  (.ret)))))))))))))))⟩
def c16 : FD := ⟨13, [.tmp 2],
  .seq (.ops [⟨some 1, none, none, .box (.t 0)⟩,
    ⟨some 2, none, none, .mv (.c (.bool false))⟩])
  (.seq (.ops [⟨some 3, none, none, .fad 1 (.t 1)⟩,
    ⟨some 4, none, none, .ld false 1 (.t 3)⟩,
    ⟨some 5, none, none, .len (.t 4)⟩,
    ⟨some 6, none, none, .ar .gtr (.t 5) (.c (.int .i64 20))⟩,
    ⟨some 7, none, none, .mv (.t 6)⟩,
    ⟨some 8, some (7, false), none, .fad 2 (.t 1)⟩,
    ⟨some 9, some (7, false), none, .ld false 1 (.t 8)⟩,
    ⟨some 10, some (7, false), none, .len (.t 9)⟩,
    ⟨some 11, some (7, false), none, .ar .gtr (.t 10) (.c (.int .i64 14))⟩,
    ⟨some 12, none, none, .pick (.t 7) (.c (.bool true)) (.t 11)⟩,
    ⟨some 2, none, none, .mv (.t 12)⟩])
  (.ret))⟩
def c17 : FD := ⟨98, [.tmp 0],
  .seq (.ops [⟨some 0, none, none, .mv (.c (.bool false))⟩])
  (.seq (.ops [⟨some 14, none, none, .call (.c (.fn 72 [] [])) [.c (.int .i64 4)]⟩,
    ⟨some 15, none, none, .call (.c (.fn 36 [] [])) [.t 14]⟩,
    ⟨some 13, none, none, .mv (.t 15)⟩,
    ⟨some 16, none, none, .ext (.t 13) 0⟩,
    ⟨some 17, none, none, .ext (.t 13) 1⟩,
    ⟨some 1, none, none, .mv (.t 16)⟩,
    ⟨some 2, none, none, .mv (.t 17)⟩])
  (.seq (.ops [⟨some 19, none, none, .call (.c (.fn 72 [] [])) [.c (.int .i64 3)]⟩,
    ⟨some 20, none, none, .call (.c (.fn 25 [] [])) [.t 19, .c (.int .i64 3)]⟩,
    ⟨some 18, none, none, .mv (.t 20)⟩,
    ⟨some 21, none, none, .ext (.t 18) 0⟩,
    ⟨some 22, none, none, .ext (.t 18) 1⟩,
    ⟨some 3, none, none, .alc [.int .i64 0, .int .i64 0]⟩,
    ⟨none, none, none, .sto 2 (.t 3) (.t 21)⟩,
    ⟨some 4, none, none, .mv (.t 22)⟩])
  (.seq (.ops [⟨some 24, none, none, .call (.c (.fn 72 [] [])) [.c (.int .i64 5)]⟩,
    ⟨some 25, none, none, .bsl 4 [.int .i64 0, .int .i64 0, .int .i64 0, .int .i64 0] [(0, 1, .c (.int .i64 1)), (1, 1, .c (.int .i64 2)), (2, 1, .c (.int .i64 3)), (3, 1, .c (.int .i64 4))]⟩,
    ⟨some 26, none, none, .bsl 1 [.int .i64 0] [(0, 1, .c (.int .i64 0))]⟩,
    ⟨some 27, none, none, .bld [.int .i64 0, .nils, .nils] [(1, 1, .t 25), (2, 1, .t 26)]⟩,
    ⟨some 28, none, none, .call (.c (.fn 30 [] [])) [.t 24, .t 27]⟩,
    ⟨some 23, none, none, .mv (.t 28)⟩,
    ⟨some 29, none, none, .ext (.t 23) 0⟩,
    ⟨some 30, none, none, .ext (.t 23) 1⟩,
    ⟨some 5, none, none, .mv (.t 29)⟩,
    ⟨some 6, none, none, .mv (.t 30)⟩])
  (.seq (.ops [⟨some 32, none, none, .call (.c (.fn 72 [] [])) [.c (.int .i64 5)]⟩,
    ⟨some 33, none, none, .call (.c (.fn 47 [] [])) [.t 32]⟩,
    ⟨some 31, none, none, .mv (.t 33)⟩,
    ⟨some 34, none, none, .ext (.t 31) 0⟩,
    ⟨some 35, none, none, .ext (.t 31) 1⟩,
    ⟨some 7, none, none, .mv (.t 34)⟩,
    ⟨some 8, none, none, .mv (.t 35)⟩])
  (.seq (.ops [⟨some 37, none, none, .call (.c (.fn 72 [] [])) [.c (.int .i64 5)]⟩,
    ⟨some 38, none, none, .call (.c (.fn 48 [] [])) [.t 37]⟩,
    ⟨some 36, none, none, .mv (.t 38)⟩,
    ⟨some 39, none, none, .ext (.t 36) 0⟩,
    ⟨some 40, none, none, .ext (.t 36) 1⟩,
    ⟨some 9, none, none, .mv (.t 39)⟩,
    ⟨some 10, none, none, .mv (.t 40)⟩])
  (.seq (.ops [⟨some 42, none, none, .call (.c (.fn 72 [] [])) [.c (.int .i64 4)]⟩,
    ⟨some 43, none, none, .call (.c (.fn 29 [] [])) [.t 42]⟩,
    ⟨some 41, none, none, .mv (.t 43)⟩,
    ⟨some 44, none, none, .ext (.t 41) 0⟩,
    ⟨some 45, none, none, .ext (.t 41) 1⟩,
    ⟨some 11, none, none, .alc [.int .i64 0, .nils, .nils]⟩,
    ⟨none, none, none, .sto 3 (.t 11) (.t 44)⟩,
    ⟨some 12, none, none, .mv (.t 45)⟩])
  (.seq (.ops [⟨some 46, none, none, .mv (.t 2)⟩,
    ⟨some 47, none, none, .ar .eql (.t 46) (.c (.int .i64 0))⟩,
    ⟨some 48, none, none, .mv (.t 47)⟩,
    ⟨some 49, some (48, true), none, .mv (.t 4)⟩,
    ⟨some 50, some (48, true), none, .ar .eql (.t 49) (.c (.int .i64 0))⟩,
    ⟨some 51, none, none, .pick (.t 48) (.t 50) (.c (.bool false))⟩,
    ⟨some 52, none, none, .mv (.t 51)⟩,
    ⟨some 53, some (52, true), none, .mv (.t 6)⟩,
    ⟨some 54, some (52, true), none, .ar .eql (.t 53) (.c (.int .i64 0))⟩,
    ⟨some 55, none, none, .pick (.t 52) (.t 54) (.c (.bool false))⟩,
    ⟨some 56, none, none, .mv (.t 55)⟩,
    ⟨some 57, some (56, true), none, .mv (.t 8)⟩,
    ⟨some 58, some (56, true), none, .ar .eql (.t 57) (.c (.int .i64 0))⟩,
    ⟨some 59, none, none, .pick (.t 56) (.t 58) (.c (.bool false))⟩,
    ⟨some 60, none, none, .mv (.t 59)⟩,
    ⟨some 61, some (60, true), none, .mv (.t 10)⟩,
    ⟨some 62, some (60, true), none, .ar .eql (.t 61) (.c (.int .i64 0))⟩,
    ⟨some 63, none, none, .pick (.t 60) (.t 62) (.c (.bool false))⟩,
    ⟨some 64, none, none, .mv (.t 63)⟩,
    ⟨some 65, some (64, true), none, .mv (.t 12)⟩,
    ⟨some 66, some (64, true), none, .ar .eql (.t 65) (.c (.int .i64 6))⟩,
    ⟨some 67, none, none, .pick (.t 64) (.t 66) (.c (.bool false))⟩,
    ⟨some 68, none, none, .mv (.t 67)⟩,
    ⟨some 69, some (68, true), none, .mv (.t 1)⟩,
    ⟨some 70, some (68, true), none, .bld [.int .i64 0, .int .i64 0] [(0, 1, .c (.int .i64 999)), (1, 1, .c (.int .i64 1001))]⟩,
    ⟨some 71, some (68, true), none, .bld [.int .i64 0, .int .i64 0] [(0, 1, .c (.int .i64 475)), (1, 1, .c (.int .i64 491))]⟩,
    ⟨some 72, some (68, true), none, .bld [.int .i64 0, .int .i64 0] [(0, 1, .c (.int .i64 362)), (1, 1, .c (.int .i64 378))]⟩,
    ⟨some 73, some (68, true), none, .bld [.int .i64 0, .int .i64 0] [(0, 1, .c (.int .i64 148)), (1, 1, .c (.int .i64 152))]⟩,
    ⟨some 74, some (68, true), none, .bld [.int .i64 0, .int .i64 0] [(0, 1, .c (.int .i64 475)), (1, 1, .c (.int .i64 478))]⟩,
    ⟨some 75, some (68, true), none, .bld [.int .i64 0, .int .i64 0] [(0, 1, .c (.int .i64 0)), (1, 1, .c (.int .i64 16))]⟩,
    ⟨some 76, some (68, true), none, .bsl 6 [.int .i64 0, .int .i64 0, .int .i64 0, .int .i64 0, .int .i64 0, .int .i64 0, .int .i64 0, .int .i64 0, .int .i64 0, .int .i64 0, .int .i64 0, .int .i64 0] [(0, 2, .t 70), (2, 2, .t 71), (4, 2, .t 72), (6, 2, .t 73), (8, 2, .t 74), (10, 2, .t 75)]⟩,
    ⟨some 77, some (68, true), none, .call (.c (.fn 38 [] [])) [.t 69, .t 76]⟩,
    ⟨some 78, none, none, .pick (.t 68) (.t 77) (.c (.bool false))⟩,
    ⟨some 79, none, none, .mv (.t 78)⟩,
    ⟨some 80, some (79, true), none, .ld true 2 (.t 3)⟩,
    ⟨some 81, some (79, true), none, .bld [.int .i64 0, .int .i64 0] [(0, 1, .c (.int .i64 0)), (1, 1, .c (.int .i64 164))]⟩,
    ⟨some 82, some (79, true), none, .feq false 2 (.t 80) (.t 81)⟩,
    ⟨some 83, none, none, .pick (.t 79) (.t 82) (.c (.bool false))⟩,
    ⟨some 84, none, none, .mv (.t 83)⟩,
    ⟨some 85, some (84, true), none, .mv (.t 5)⟩,
    ⟨some 86, some (84, true), none, .ar .eql (.t 85) (.c (.int .i64 22))⟩,
    ⟨some 87, none, none, .pick (.t 84) (.t 86) (.c (.bool false))⟩,
    ⟨some 88, none, none, .mv (.t 87)⟩,
    ⟨some 89, some (88, true), none, .mv (.t 7)⟩,
    ⟨some 90, some (88, true), none, .bsl 5 [.int .i64 0, .int .i64 0, .int .i64 0, .int .i64 0, .int .i64 0] [(0, 1, .c (.int .i64 0)), (1, 1, .c (.int .i64 1)), (2, 1, .c (.int .i64 2)), (3, 1, .c (.int .i64 3)), (4, 1, .c (.int .i64 4))]⟩,
    ⟨some 91, some (88, true), none, .call (.c (.fn 31 [] [])) [.t 89, .t 90]⟩,
    ⟨some 92, none, none, .pick (.t 88) (.t 91) (.c (.bool false))⟩,
    ⟨some 93, none, none, .mv (.t 92)⟩,
    ⟨some 94, some (93, true), none, .mv (.t 9)⟩,
    ⟨some 95, some (93, true), none, .bsl 1 [.int .i64 0] [(0, 1, .c (.int .i64 0))]⟩,
    ⟨some 96, some (93, true), none, .call (.c (.fn 31 [] [])) [.t 94, .t 95]⟩,
    ⟨some 97, none, none, .pick (.t 93) (.t 96) (.c (.bool false))⟩,
    ⟨some 0, none, none, .mv (.t 97)⟩])
  (.ret))))))))⟩
def c18 : FD := ⟨12, [.cell 2 true 3],
  .seq (.ops [⟨some 1, none, none, .box (.t 0)⟩,
    ⟨some 2, none, none, .alc [.int .i64 0, .nils, .nils]⟩])
  (.seq (.dops [⟨some 3, none, none, .fad 0 (.t 1)⟩,
    ⟨some 4, none, some (0, 2), .ld false 1 (.t 3)⟩,
    ⟨some 5, none, none, .fad 1 (.t 1)⟩,
    ⟨some 6, none, some (0, 0), .ld false 1 (.t 5)⟩,
    ⟨some 7, none, none, .call (.c (.fn 73 [] [])) [.t 6]⟩,
    ⟨some 8, none, none, .fad 2 (.t 1)⟩,
    ⟨some 9, none, some (0, 1), .ld false 1 (.t 8)⟩,
    ⟨some 10, none, none, .call (.c (.fn 74 [] [])) [.t 9]⟩,
    ⟨some 11, none, none, .bld [.int .i64 0, .nils, .nils] [(0, 1, .t 4), (1, 1, .t 7), (2, 1, .t 10)]⟩,
    ⟨none, none, none, .sto 3 (.t 2) (.t 11)⟩])
  (.ret))⟩
def c19 : FD := ⟨44, [.cell 2 true 3],
  .seq (.ops [⟨some 1, none, none, .box (.t 0)⟩,
    ⟨some 2, none, none, .alc [.int .i64 0, .nils, .nils]⟩])
  (.seq (.ops [⟨some 8, none, none, .fad 0 (.t 1)⟩,
    ⟨some 9, none, none, .ld false 1 (.t 8)⟩,
    ⟨some 10, none, none, .bld [.int .i64 0, .nils, .nils] [(0, 1, .t 9)]⟩,
    ⟨some 3, none, none, .alc [.int .i64 0, .nils, .nils]⟩,
    ⟨none, none, none, .sto 3 (.t 3) (.t 10)⟩])
  (.seq (.seq (.ops [⟨some 11, none, none, .fad 1 (.t 1)⟩,
    ⟨some 12, none, none, .ld false 1 (.t 11)⟩,
    ⟨some 13, none, none, .len (.t 12)⟩,
    ⟨some 14, none, none, .mv (.c (.int .i64 0))⟩])
  (.block 0 (.loop (.seq (.ops [⟨some 15, none, none, .ar .lss (.t 14) (.t 13)⟩])
  (.seq (.cond (.t 15) (.skip)
  (.exit 0))
  (.seq (.block 1 (.seq (.ops [⟨some 16, none, none, .iad 2 (.t 12) (.t 14)⟩,
    ⟨some 17, none, none, .ld true 2 (.t 16)⟩,
    ⟨some 5, none, none, .alc [.int .i64 0, .int .i64 0]⟩,
    ⟨none, none, none, .sto 2 (.t 5) (.t 17)⟩])
  (.ops [⟨some 18, none, none, .fad 1 (.t 3)⟩,
    ⟨some 19, none, none, .ld false 1 (.t 18)⟩,
    ⟨some 20, none, none, .fad 0 (.t 5)⟩,
    ⟨some 21, none, none, .ld false 1 (.t 20)⟩,
    ⟨some 22, none, none, .fad 1 (.t 5)⟩,
    ⟨some 23, none, none, .ld false 1 (.t 22)⟩,
    ⟨some 24, none, none, .bld [.int .i64 0, .int .i64 0] [(0, 1, .t 21), (1, 1, .t 23)]⟩,
    ⟨some 25, none, none, .bsl 1 [.int .i64 0, .int .i64 0] [(0, 2, .t 24)]⟩,
    ⟨some 26, none, none, .app 2 16 (.t 19) (.t 25)⟩,
    ⟨some 27, none, none, .fad 1 (.t 3)⟩,
    ⟨none, none, none, .sto 1 (.t 27) (.t 26)⟩])))
  (.ops [⟨some 28, none, none, .ar .add (.t 14) (.c (.int .i64 1))⟩,
    ⟨some 14, none, none, .mv (.t 28)⟩])))))))
  (.seq (.seq (.ops [⟨some 29, none, none, .fad 2 (.t 1)⟩,
    ⟨some 30, none, none, .ld false 1 (.t 29)⟩,
    ⟨some 31, none, none, .len (.t 30)⟩,
    ⟨some 32, none, none, .mv (.c (.int .i64 0))⟩])
  (.block 2 (.loop (.seq (.ops [⟨some 33, none, none, .ar .lss (.t 32) (.t 31)⟩])
  (.seq (.cond (.t 33) (.skip)
  (.exit 2))
  (.seq (.block 3 (.seq (.ops [⟨some 34, none, none, .iad 4 (.t 30) (.t 32)⟩,
    ⟨some 35, none, none, .ld true 4 (.t 34)⟩,
    ⟨some 7, none, none, .alc [.int .i64 0, .int .i64 0, .int .i64 0, .int .i64 0]⟩,
    ⟨none, none, none, .sto 4 (.t 7) (.t 35)⟩])
  (.ops [⟨some 36, none, none, .fad 2 (.t 3)⟩,
    ⟨some 37, none, none, .ld false 1 (.t 36)⟩,
    ⟨some 38, none, none, .ld true 4 (.t 7)⟩,
    ⟨some 39, none, none, .bsl 1 [.int .i64 0, .int .i64 0, .int .i64 0, .int .i64 0] [(0, 4, .t 38)]⟩,
    ⟨some 40, none, none, .app 4 32 (.t 37) (.t 39)⟩,
    ⟨some 41, none, none, .fad 2 (.t 3)⟩,
    ⟨none, none, none, .sto 1 (.t 41) (.t 40)⟩])))
  (.ops [⟨some 42, none, none, .ar .add (.t 32) (.c (.int .i64 1))⟩,
    ⟨some 32, none, none, .mv (.t 42)⟩])))))))
  (.seq (.ops [⟨some 43, none, none, .ld true 3 (.t 3)⟩,
    ⟨none, none, none, .sto 3 (.t 2) (.t 43)⟩])
  (.ret)))))⟩
def c20 : FD := ⟨119, [.tmp 2],
  .seq (.ops [⟨some 1, none, none, .box (.t 0)⟩,
    ⟨some 2, none, none, .mv (.c (.int .i64 0))⟩])
  (.seq (.seq (.ops [⟨some 9, none, none, .fad 1 (.t 1)⟩,
    ⟨some 10, none, none, .ld false 1 (.t 9)⟩,
    ⟨some 11, none, none, .len (.t 10)⟩,
    ⟨some 12, none, none, .call (.c (.fn 75 [] [])) [.t 11, .c (.int .i64 1), .c (.int .i64 12)]⟩,
    ⟨some 13, none, none, .mv (.t 12)⟩,
    ⟨some 14, some (13, false), none, .fad 2 (.t 1)⟩,
    ⟨some 15, some (13, false), none, .ld false 1 (.t 14)⟩,
    ⟨some 16, some (13, false), none, .len (.t 15)⟩,
    ⟨some 17, some (13, false), none, .ar .gtr (.t 16) (.c (.int .i64 10))⟩,
    ⟨some 18, none, none, .pick (.t 13) (.c (.bool true)) (.t 17)⟩])
  (.cond (.t 18) (.seq (.ops [⟨some 2, none, none, .mv (.c (.int .i64 2))⟩])
  (.ret))
  (.skip)))
  (.seq (.seq (.ops [⟨some 19, none, none, .fad 0 (.t 1)⟩,
    ⟨some 20, none, none, .ld false 1 (.t 19)⟩,
    ⟨some 21, none, none, .call (.c (.fn 75 [] [])) [.t 20, .c (.int .i64 0), .c (.int .i64 50)]⟩])
  (.cond (.t 21) (.seq (.ops [⟨some 2, none, none, .mv (.c (.int .i64 3))⟩])
  (.ret))
  (.skip)))
  (.seq (.seq (.ops [⟨some 3, none, none, .mv (.c (.int .i64 0))⟩])
  (.block 0 (.loop (.seq (.seq (.ops [⟨some 22, none, none, .mv (.t 3)⟩,
    ⟨some 23, none, none, .fad 2 (.t 1)⟩,
    ⟨some 24, none, none, .ld false 1 (.t 23)⟩,
    ⟨some 25, none, none, .len (.t 24)⟩,
    ⟨some 26, none, none, .ar .lss (.t 22) (.t 25)⟩])
  (.cond (.t 26) (.skip)
  (.exit 0)))
  (.seq (.block 1 (.seq (.ops [⟨some 29, none, none, .fad 2 (.t 1)⟩,
    ⟨some 30, none, none, .ld false 1 (.t 29)⟩,
    ⟨some 31, none, none, .mv (.t 3)⟩,
    ⟨some 32, none, none, .iad 4 (.t 30) (.t 31)⟩,
    ⟨some 33, none, none, .ld true 4 (.t 32)⟩,
    ⟨some 4, none, none, .alc [.int .i64 0, .int .i64 0, .int .i64 0, .int .i64 0]⟩,
    ⟨none, none, none, .sto 4 (.t 4) (.t 33)⟩])
  (.seq (.ops [⟨some 34, none, none, .fad 1 (.t 4)⟩,
    ⟨some 35, none, none, .ld false 1 (.t 34)⟩,
    ⟨some 36, none, none, .call (.c (.fn 75 [] [])) [.t 35, .c (.int .i64 0), .c (.int .i64 10000)]⟩,
    ⟨some 37, none, none, .mv (.t 36)⟩,
    ⟨some 38, some (37, false), none, .fad 2 (.t 4)⟩,
    ⟨some 39, some (37, false), none, .fad 0 (.t 38)⟩,
    ⟨some 40, some (37, false), none, .ld false 1 (.t 39)⟩,
    ⟨some 41, some (37, false), none, .call (.c (.fn 75 [] [])) [.t 40, .c (.int .i64 0), .c (.int .i64 60)]⟩,
    ⟨some 42, none, none, .pick (.t 37) (.c (.bool true)) (.t 41)⟩,
    ⟨some 43, none, none, .mv (.t 42)⟩,
    ⟨some 44, some (43, false), none, .fad 2 (.t 4)⟩,
    ⟨some 45, some (43, false), none, .fad 1 (.t 44)⟩,
    ⟨some 46, some (43, false), none, .ld false 1 (.t 45)⟩,
    ⟨some 47, some (43, false), none, .call (.c (.fn 75 [] [])) [.t 46, .c (.int .i64 0), .c (.int .i64 60)]⟩,
    ⟨some 48, none, none, .pick (.t 43) (.c (.bool true)) (.t 47)⟩])
  (.cond (.t 48) (.seq (.ops [⟨some 2, none, none, .mv (.c (.int .i64 3))⟩])
  (.ret))
  (.skip)))))
  (.ops [⟨some 27, none, none, .mv (.t 3)⟩,
    ⟨some 28, none, none, .ar .add (.t 27) (.c (.int .i64 1))⟩,
    ⟨some 3, none, none, .mv (.t 28)⟩]))))))
  (.seq (.seq (.ops [⟨some 5, none, none, .mv (.c (.int .i64 0))⟩])
  (.block 2 (.loop (.seq (.seq (.ops [⟨some 49, none, none, .mv (.t 5)⟩,
    ⟨some 50, none, none, .fad 1 (.t 1)⟩,
    ⟨some 51, none, none, .ld false 1 (.t 50)⟩,
    ⟨some 52, none, none, .len (.t 51)⟩,
    ⟨some 53, none, none, .ar .lss (.t 49) (.t 52)⟩])
  (.cond (.t 53) (.skip)
  (.exit 2)))
  (.seq (.block 3 (.seq (.ops [⟨some 56, none, none, .fad 1 (.t 1)⟩,
    ⟨some 57, none, none, .ld false 1 (.t 56)⟩,
    ⟨some 58, none, none, .mv (.t 5)⟩,
    ⟨some 59, none, none, .iad 2 (.t 57) (.t 58)⟩,
    ⟨some 60, none, none, .fad 1 (.t 59)⟩,
    ⟨some 61, none, none, .ld false 1 (.t 60)⟩,
    ⟨some 62, none, none, .call (.c (.fn 75 [] [])) [.t 61, .c (.int .i64 0), .c (.int .i64 3)]⟩])
  (.cond (.t 62) (.seq (.ops [⟨some 2, none, none, .mv (.c (.int .i64 3))⟩])
  (.ret))
  (.skip))))
  (.ops [⟨some 54, none, none, .mv (.t 5)⟩,
    ⟨some 55, none, none, .ar .add (.t 54) (.c (.int .i64 1))⟩,
    ⟨some 5, none, none, .mv (.t 55)⟩]))))))
  (.seq (.seq (.ops [⟨some 6, none, none, .mv (.c (.int .i64 0))⟩])
  (.block 4 (.loop (.seq (.seq (.ops [⟨some 63, none, none, .mv (.t 6)⟩,
    ⟨some 64, none, none, .fad 1 (.t 1)⟩,
    ⟨some 65, none, none, .ld false 1 (.t 64)⟩,
    ⟨some 66, none, none, .len (.t 65)⟩,
    ⟨some 67, none, none, .ar .lss (.t 63) (.t 66)⟩])
  (.cond (.t 67) (.skip)
  (.exit 4)))
  (.seq (.block 5 (.seq (.ops [⟨some 70, none, none, .fad 1 (.t 1)⟩,
    ⟨some 71, none, none, .ld false 1 (.t 70)⟩,
    ⟨some 72, none, none, .mv (.t 6)⟩,
    ⟨some 73, none, none, .iad 2 (.t 71) (.t 72)⟩,
    ⟨some 74, none, none, .fad 0 (.t 73)⟩,
    ⟨some 75, none, none, .ld false 1 (.t 74)⟩,
    ⟨some 76, none, none, .mv (.t 6)⟩,
    ⟨some 77, none, none, .ar .sub (.t 76) (.c (.int .i64 1))⟩,
    ⟨some 78, none, none, .call (.c (.fn 75 [] [])) [.t 75, .c (.int .i64 (-1)), .t 77]⟩])
  (.cond (.t 78) (.seq (.ops [⟨some 2, none, none, .mv (.c (.int .i64 1))⟩])
  (.ret))
  (.skip))))
  (.ops [⟨some 68, none, none, .mv (.t 6)⟩,
    ⟨some 69, none, none, .ar .add (.t 68) (.c (.int .i64 1))⟩,
    ⟨some 6, none, none, .mv (.t 69)⟩]))))))
  (.seq (.seq (.ops [⟨some 7, none, none, .mv (.c (.int .i64 0))⟩])
  (.block 6 (.loop (.seq (.seq (.ops [⟨some 79, none, none, .mv (.t 7)⟩,
    ⟨some 80, none, none, .fad 2 (.t 1)⟩,
    ⟨some 81, none, none, .ld false 1 (.t 80)⟩,
    ⟨some 82, none, none, .len (.t 81)⟩,
    ⟨some 83, none, none, .ar .lss (.t 79) (.t 82)⟩])
  (.cond (.t 83) (.skip)
  (.exit 6)))
  (.seq (.block 7 (.seq (.dops [⟨some 86, none, none, .fad 2 (.t 1)⟩,
    ⟨some 87, none, some (0, 0), .ld false 1 (.t 86)⟩,
    ⟨some 88, none, none, .mv (.t 7)⟩,
    ⟨some 89, none, none, .iad 4 (.t 87) (.t 88)⟩,
    ⟨some 90, none, none, .fad 0 (.t 89)⟩,
    ⟨some 91, none, some (0, 0), .ld false 1 (.t 90)⟩,
    ⟨some 92, none, none, .fad 1 (.t 1)⟩,
    ⟨some 93, none, some (0, 0), .ld false 1 (.t 92)⟩,
    ⟨some 94, none, none, .len (.t 93)⟩,
    ⟨some 95, none, none, .ar .sub (.t 94) (.c (.int .i64 1))⟩,
    ⟨some 96, none, none, .call (.c (.fn 75 [] [])) [.t 91, .c (.int .i64 0), .t 95]⟩])
  (.cond (.t 96) (.seq (.ops [⟨some 2, none, none, .mv (.c (.int .i64 1))⟩])
  (.ret))
  (.skip))))
  (.ops [⟨some 84, none, none, .mv (.t 7)⟩,
    ⟨some 85, none, none, .ar .add (.t 84) (.c (.int .i64 1))⟩,
    ⟨some 7, none, none, .mv (.t 85)⟩]))))))
  (.seq (.seq (.ops [⟨some 8, none, none, .mv (.c (.int .i64 0))⟩])
  (.block 8 (.loop (.seq (.seq (.ops [⟨some 97, none, none, .mv (.t 8)⟩,
    ⟨some 98, none, none, .fad 2 (.t 1)⟩,
    ⟨some 99, none, none, .ld false 1 (.t 98)⟩,
    ⟨some 100, none, none, .len (.t 99)⟩,
    ⟨some 101, none, none, .ar .lss (.t 97) (.t 100)⟩])
  (.cond (.t 101) (.skip)
  (.exit 8)))
  (.seq (.block 9 (.seq (.dops [⟨some 104, none, none, .fad 2 (.t 1)⟩,
    ⟨some 105, none, some (0, 0), .ld false 1 (.t 104)⟩,
    ⟨some 106, none, none, .mv (.t 8)⟩,
    ⟨some 107, none, none, .iad 4 (.t 105) (.t 106)⟩,
    ⟨some 108, none, none, .fad 2 (.t 107)⟩,
    ⟨some 109, none, none, .fad 0 (.t 108)⟩,
    ⟨some 110, none, some (0, 0), .ld false 1 (.t 109)⟩,
    ⟨some 111, none, none, .fad 2 (.t 1)⟩,
    ⟨some 112, none, some (0, 0), .ld false 1 (.t 111)⟩,
    ⟨some 113, none, none, .mv (.t 8)⟩,
    ⟨some 114, none, none, .iad 4 (.t 112) (.t 113)⟩,
    ⟨some 115, none, none, .fad 2 (.t 114)⟩,
    ⟨some 116, none, none, .fad 1 (.t 115)⟩,
    ⟨some 117, none, some (0, 0), .ld false 1 (.t 116)⟩,
    ⟨some 118, none, none, .ar .gtr (.t 110) (.t 117)⟩])
  (.cond (.t 118) (.seq (.ops [⟨some 2, none, none, .mv (.c (.int .i64 4))⟩])
  (.ret))
  (.skip))))
  (.ops [⟨some 102, none, none, .mv (.t 8)⟩,
    ⟨some 103, none, none, .ar .add (.t 102) (.c (.int .i64 1))⟩,
    ⟨some 8, none, none, .mv (.t 103)⟩]))))))
  (.seq (.ops [⟨some 2, none, none, .mv (.c (.int .i64 0))⟩])
  (.ret)))))))))⟩
def c25 : FD := ⟨74, [.cell 4 true 2, .tmp 5],
  .seq (.ops [⟨some 2, none, none, .box (.t 0)⟩,
    ⟨some 3, none, none, .box (.t 1)⟩,
    ⟨some 4, none, none, .alc [.int .i64 0, .int .i64 0]⟩,
    ⟨some 5, none, none, .mv (.c (.int .i64 0))⟩])
  (.seq (.seq (.ops [⟨some 17, none, none, .ld true 3 (.t 2)⟩,
    ⟨some 18, none, none, .call (.c (.fn 54 [] [])) [.t 17]⟩,
    ⟨some 6, none, none, .mv (.t 18)⟩])
  (.seq (.ops [⟨some 19, none, none, .mv (.t 6)⟩,
    ⟨some 20, none, none, .ar .neq (.t 19) (.c (.int .i64 0))⟩])
  (.cond (.t 20) (.seq (.ops [⟨some 21, none, none, .bld [.int .i64 0, .int .i64 0] []⟩,
    ⟨some 22, none, none, .mv (.t 6)⟩,
    ⟨none, none, none, .sto 2 (.t 4) (.t 21)⟩,
    ⟨some 5, none, none, .mv (.t 22)⟩])
  (.ret))
  (.skip))))
  (.seq (.seq (.ops [⟨some 23, none, none, .ld false 1 (.t 3)⟩,
    ⟨some 24, none, none, .call (.c (.fn 78 [] [])) [.t 23]⟩,
    ⟨some 25, none, none, .not (.t 24)⟩])
  (.cond (.t 25) (.seq (.ops [⟨some 26, none, none, .bld [.int .i64 0, .int .i64 0] []⟩,
    ⟨none, none, none, .sto 2 (.t 4) (.t 26)⟩,
    ⟨some 5, none, none, .mv (.c (.int .i64 3))⟩])
  (.ret))
  (.skip)))
  (.seq (.ops [⟨some 28, none, none, .ld true 3 (.t 2)⟩,
    ⟨some 29, none, none, .call (.c (.fn 79 [] [])) [.t 28]⟩,
    ⟨some 27, none, none, .mv (.t 29)⟩,
    ⟨some 30, none, none, .ext (.t 27) 0⟩,
    ⟨some 31, none, none, .ext (.t 27) 1⟩,
    ⟨some 32, none, none, .ext (.t 27) 2⟩,
    ⟨some 8, none, none, .alc [.int .i64 0, .int .i64 0, .int .i64 0, .int .i64 0, .int .i64 0, .int .i64 0, .int .i64 0, .int .i64 0, .int .i64 0, .int .i64 0, .int .i64 0, .int .i64 0, .int .i64 0, .int .i64 0, .int .i64 0, .int .i64 0, .int .i64 0, .int .i64 0, .int .i64 0, .int .i64 0, .int .i64 0, .int .i64 0, .int .i64 0, .int .i64 0]⟩,
    ⟨some 7, none, none, .mv (.t 30)⟩,
    ⟨none, none, none, .sto 24 (.t 8) (.t 31)⟩,
    ⟨some 9, none, none, .mv (.t 32)⟩])
  (.seq (.seq (.ops [⟨some 33, none, none, .mv (.t 9)⟩,
    ⟨some 34, none, none, .ar .neq (.t 33) (.c (.int .i64 0))⟩])
  (.cond (.t 34) (.seq (.ops [⟨some 35, none, none, .bld [.int .i64 0, .int .i64 0] []⟩,
    ⟨some 36, none, none, .mv (.t 9)⟩,
    ⟨none, none, none, .sto 2 (.t 4) (.t 35)⟩,
    ⟨some 5, none, none, .mv (.t 36)⟩])
  (.ret))
  (.skip)))
  (.seq (.ops [⟨some 10, none, none, .alc [.int .i64 0, .int .i64 0]⟩])
  (.seq (.seq (.ops [⟨some 37, none, none, .mv (.t 7)⟩,
    ⟨some 38, none, none, .chk (.t 37)⟩,
    ⟨some 39, none, none, .fad 3 (.t 38)⟩,
    ⟨some 40, none, none, .ld false 1 (.t 39)⟩,
    ⟨some 41, none, none, .lkp none (.nils) (.t 40) (.c (.int .i64 (-1))) false⟩,
    ⟨some 42, none, none, .len (.t 41)⟩,
    ⟨some 43, none, none, .mv (.c (.int .i64 0))⟩])
  (.block 0 (.loop (.seq (.ops [⟨some 44, none, none, .ar .lss (.t 43) (.t 42)⟩])
  (.seq (.cond (.t 44) (.skip)
  (.exit 0))
  (.seq (.block 1 (.seq (.ops [⟨some 45, none, none, .iad 1 (.t 41) (.t 43)⟩,
    ⟨some 46, none, none, .ld false 1 (.t 45)⟩,
    ⟨some 12, none, none, .mv (.t 46)⟩])
  (.seq (.ops [⟨some 48, none, none, .mv (.t 7)⟩,
    ⟨some 49, none, none, .ld true 24 (.t 8)⟩,
    ⟨some 50, none, none, .mv (.t 12)⟩,
    ⟨some 51, none, none, .mkf 81 [] [.t 3]⟩,
    ⟨some 52, none, none, .call (.c (.fn 80 [] [])) [.t 48, .t 49, .t 50, .t 51]⟩,
    ⟨some 47, none, none, .mv (.t 52)⟩,
    ⟨some 53, none, none, .ext (.t 47) 0⟩,
    ⟨some 54, none, none, .ext (.t 47) 1⟩,
    ⟨some 13, none, none, .mv (.t 53)⟩,
    ⟨some 14, none, none, .mv (.t 54)⟩])
  (.seq (.ops [⟨some 56, none, none, .mv (.t 7)⟩,
    ⟨some 57, none, none, .ld true 24 (.t 8)⟩,
    ⟨some 58, none, none, .mv (.t 12)⟩,
    ⟨some 59, none, none, .mkf 82 [] [.t 3]⟩,
    ⟨some 60, none, none, .call (.c (.fn 80 [] [])) [.t 56, .t 57, .t 58, .t 59]⟩,
    ⟨some 55, none, none, .mv (.t 60)⟩,
    ⟨some 61, none, none, .ext (.t 55) 0⟩,
    ⟨some 62, none, none, .ext (.t 55) 1⟩,
    ⟨some 15, none, none, .mv (.t 61)⟩,
    ⟨some 16, none, none, .mv (.t 62)⟩])
  (.ops [⟨some 63, none, none, .fad 0 (.t 10)⟩,
    ⟨some 64, none, none, .ld false 1 (.t 63)⟩,
    ⟨some 65, none, none, .mv (.t 13)⟩,
    ⟨some 66, none, none, .ar .add (.t 64) (.t 65)⟩,
    ⟨some 67, none, none, .fad 1 (.t 10)⟩,
    ⟨some 68, none, none, .ld false 1 (.t 67)⟩,
    ⟨some 69, none, none, .mv (.t 16)⟩,
    ⟨some 70, none, none, .ar .add (.t 68) (.t 69)⟩,
    ⟨some 71, none, none, .bld [.int .i64 0, .int .i64 0] [(0, 1, .t 66), (1, 1, .t 70)]⟩,
    ⟨none, none, none, .sto 2 (.t 10) (.t 71)⟩])))))
  (.ops [⟨some 72, none, none, .ar .add (.t 43) (.c (.int .i64 1))⟩,
    ⟨some 43, none, none, .mv (.t 72)⟩])))))))
  (.seq (.ops [⟨some 73, none, none, .ld true 2 (.t 10)⟩,
    ⟨none, none, none, .sto 2 (.t 4) (.t 73)⟩,
    ⟨some 5, none, none, .mv (.c (.int .i64 0))⟩])
  (.ret))))))))⟩
def c26 : FD := ⟨24, [.tmp 4],
  .seq (.ops [⟨some 2, none, none, .box (.t 0)⟩,
    ⟨some 3, none, none, .box (.t 1)⟩,
    ⟨some 4, none, none, .mv (.c (.bool false))⟩])
  (.seq (.ops [⟨some 5, none, none, .fad 0 (.t 2)⟩,
    ⟨some 6, none, none, .ld false 1 (.t 5)⟩,
    ⟨some 7, none, none, .fad 0 (.t 3)⟩,
    ⟨some 8, none, none, .ld false 1 (.t 7)⟩,
    ⟨some 9, none, none, .ar .eql (.t 6) (.t 8)⟩,
    ⟨some 10, none, none, .mv (.t 9)⟩,
    ⟨some 11, some (10, true), none, .fad 1 (.t 2)⟩,
    ⟨some 12, some (10, true), none, .ld false 1 (.t 11)⟩,
    ⟨some 13, some (10, true), none, .fad 1 (.t 3)⟩,
    ⟨some 14, some (10, true), none, .ld false 1 (.t 13)⟩,
    ⟨some 15, some (10, true), none, .call (.c (.fn 83 [] [])) [.t 12, .t 14]⟩,
    ⟨some 16, none, none, .pick (.t 10) (.t 15) (.c (.bool false))⟩,
    ⟨some 17, none, none, .mv (.t 16)⟩,
    ⟨some 18, some (17, true), none, .fad 2 (.t 2)⟩,
    ⟨some 19, some (17, true), none, .ld false 1 (.t 18)⟩,
    ⟨some 20, some (17, true), none, .fad 2 (.t 3)⟩,
    ⟨some 21, some (17, true), none, .ld false 1 (.t 20)⟩,
    ⟨some 22, some (17, true), none, .call (.c (.fn 84 [] [])) [.t 19, .t 21]⟩,
    ⟨some 23, none, none, .pick (.t 17) (.t 22) (.c (.bool false))⟩,
    ⟨some 4, none, none, .mv (.t 23)⟩])
  (.ret))⟩
def c27 : FD := ⟨8, [.tmp 2],
  .seq (.ops [⟨some 2, none, none, .mv (.c (.nils))⟩])
  (.seq (.ops [⟨some 3, none, none, .mv (.t 0)⟩,
    ⟨some 4, none, none, .len (.t 3)⟩,
    ⟨some 5, none, none, .msl 1 8 [.int .i64 0] (.c (.int .i64 0)) (.t 4)⟩,
    ⟨some 6, none, none, .mv (.t 0)⟩,
    ⟨some 7, none, none, .app 1 8 (.t 5) (.t 6)⟩,
    ⟨some 2, none, none, .mv (.t 7)⟩])
  (.ret))⟩
def c29 : FD := ⟨43, [.cell 2 true 3, .tmp 3],
  .seq (.ops [⟨some 1, none, none, .box (.t 0)⟩,
    ⟨some 2, none, none, .alc [.int .i64 0, .nils, .nils]⟩,
    ⟨some 3, none, none, .mv (.c (.int .i64 0))⟩])
  (.seq (.ops [⟨some 10, none, none, .ld true 3 (.t 1)⟩,
    ⟨some 11, none, none, .call (.c (.fn 87 [] [])) [.t 10]⟩,
    ⟨some 9, none, none, .mv (.t 11)⟩,
    ⟨some 12, none, none, .ext (.t 9) 0⟩,
    ⟨some 13, none, none, .ext (.t 9) 1⟩,
    ⟨some 4, none, none, .mv (.t 12)⟩,
    ⟨some 5, none, none, .mv (.t 13)⟩])
  (.seq (.seq (.ops [⟨some 14, none, none, .mv (.t 5)⟩,
    ⟨some 15, none, none, .ar .neq (.t 14) (.c (.int .i64 0))⟩])
  (.cond (.t 15) (.seq (.ops [⟨some 16, none, none, .bld [.int .i64 0, .nils, .nils] []⟩,
    ⟨some 17, none, none, .mv (.t 5)⟩,
    ⟨none, none, none, .sto 3 (.t 2) (.t 16)⟩,
    ⟨some 3, none, none, .mv (.t 17)⟩])
  (.ret))
  (.skip)))
  (.seq (.seq (.ops [⟨some 18, none, none, .fad 1 (.t 1)⟩,
    ⟨some 19, none, none, .ld false 1 (.t 18)⟩,
    ⟨some 20, none, none, .len (.t 19)⟩,
    ⟨some 21, none, none, .mv (.c (.int .i64 0))⟩])
  (.block 0 (.loop (.seq (.ops [⟨some 22, none, none, .ar .lss (.t 21) (.t 20)⟩])
  (.seq (.cond (.t 22) (.skip)
  (.exit 0))
  (.seq (.block 1 (.seq (.ops [⟨some 23, none, none, .mv (.t 21)⟩,
    ⟨some 6, none, none, .mv (.t 23)⟩])
  (.seq (.ops [⟨some 24, none, none, .mv (.t 4)⟩,
    ⟨some 25, none, none, .mv (.t 6)⟩,
    ⟨some 26, none, none, .call (.c (.fn 88 [] [])) [.t 24, .t 25]⟩,
    ⟨some 27, none, none, .mv (.t 4)⟩,
    ⟨some 28, none, none, .mv (.t 6)⟩,
    ⟨some 29, none, none, .call (.c (.fn 89 [] [])) [.t 27, .t 28]⟩,
    ⟨some 7, none, none, .alc [.int .i64 0, .nils]⟩,
    ⟨some 8, none, none, .alc [.int .i64 0, .nils]⟩,
    ⟨none, none, none, .sto 2 (.t 7) (.t 26)⟩,
    ⟨none, none, none, .sto 2 (.t 8) (.t 29)⟩])
  (.seq (.ops [⟨some 30, none, none, .fad 0 (.t 7)⟩,
    ⟨some 31, none, none, .ld false 1 (.t 30)⟩,
    ⟨some 32, none, none, .fad 0 (.t 8)⟩,
    ⟨some 33, none, none, .ld false 1 (.t 32)⟩,
    ⟨some 34, none, none, .ar .gtr (.t 31) (.t 33)⟩])
  (.cond (.t 34) (.seq (.ops [⟨some 35, none, none, .mv (.t 6)⟩,
    ⟨some 36, none, none, .fad 1 (.t 7)⟩,
    ⟨some 37, none, none, .ld false 1 (.t 36)⟩,
    ⟨some 38, none, none, .fad 1 (.t 8)⟩,
    ⟨some 39, none, none, .ld false 1 (.t 38)⟩,
    ⟨some 40, none, none, .bld [.int .i64 0, .nils, .nils] [(0, 1, .t 35), (1, 1, .t 37), (2, 1, .t 39)]⟩,
    ⟨none, none, none, .sto 3 (.t 2) (.t 40)⟩,
    ⟨some 3, none, none, .mv (.c (.int .i64 0))⟩])
  (.ret))
  (.skip))))))
  (.ops [⟨some 41, none, none, .ar .add (.t 21) (.c (.int .i64 1))⟩,
    ⟨some 21, none, none, .mv (.t 41)⟩])))))))
  (.seq (.ops [⟨some 42, none, none, .bld [.int .i64 0, .nils, .nils] []⟩,
    ⟨none, none, none, .sto 3 (.t 2) (.t 42)⟩,
    ⟨some 3, none, none, .mv (.c (.int .i64 6))⟩])
  (.ret)))))⟩
def c30 : FD := ⟨89, [.tmp 4, .tmp 5],
  .seq (.ops [⟨some 2, none, none, .box (.t 0)⟩,
    ⟨some 3, none, none, .box (.t 1)⟩,
    ⟨some 4, none, none, .mv (.c (.int .i64 0))⟩,
    ⟨some 5, none, none, .mv (.c (.int .i64 0))⟩])
  (.seq (.ops [⟨some 16, none, none, .ld true 3 (.t 2)⟩,
    ⟨some 17, none, none, .call (.c (.fn 87 [] [])) [.t 16]⟩,
    ⟨some 15, none, none, .mv (.t 17)⟩,
    ⟨some 18, none, none, .ext (.t 15) 0⟩,
    ⟨some 19, none, none, .ext (.t 15) 1⟩,
    ⟨some 6, none, none, .mv (.t 18)⟩,
    ⟨some 7, none, none, .mv (.t 19)⟩])
  (.seq (.ops [⟨some 20, none, none, .ld true 3 (.t 2)⟩,
    ⟨some 21, none, none, .mkf 90 [.t 20] []⟩,
    ⟨some 8, none, none, .mv (.t 21)⟩])
  (.seq (.block 0 (.seq (.ops [⟨some 23, none, none, .mv (.t 7)⟩,
    ⟨some 24, none, none, .ar .neq (.t 23) (.c (.int .i64 0))⟩,
    ⟨some 22, none, none, .mv (.t 24)⟩])
  (.cond (.t 22) (.seq (.ops [⟨some 25, none, none, .mv (.t 7)⟩,
    ⟨some 4, none, none, .mv (.c (.int .i64 0))⟩,
    ⟨some 5, none, none, .mv (.t 25)⟩])
  (.ret))
  (.seq (.ops [⟨some 27, none, none, .ld true 3 (.t 2)⟩,
    ⟨some 28, none, none, .fad 0 (.t 3)⟩,
    ⟨some 29, none, none, .ld false 1 (.t 28)⟩,
    ⟨some 30, none, none, .call (.c (.fn 91 [] [])) [.t 27, .t 29]⟩,
    ⟨some 31, none, none, .not (.t 30)⟩,
    ⟨some 32, none, none, .mv (.t 31)⟩,
    ⟨some 33, some (32, false), none, .fad 1 (.t 3)⟩,
    ⟨some 34, some (32, false), none, .ld false 1 (.t 33)⟩,
    ⟨some 35, some (32, false), none, .mv (.t 8)⟩,
    ⟨some 36, some (32, false), none, .call (.c (.fn 92 [] [])) [.t 34, .t 35]⟩,
    ⟨some 37, some (32, false), none, .not (.t 36)⟩,
    ⟨some 38, none, none, .pick (.t 32) (.c (.bool true)) (.t 37)⟩,
    ⟨some 39, none, none, .mv (.t 38)⟩,
    ⟨some 40, some (39, false), none, .fad 2 (.t 3)⟩,
    ⟨some 41, some (39, false), none, .ld false 1 (.t 40)⟩,
    ⟨some 42, some (39, false), none, .mv (.t 8)⟩,
    ⟨some 43, some (39, false), none, .call (.c (.fn 92 [] [])) [.t 41, .t 42]⟩,
    ⟨some 44, some (39, false), none, .not (.t 43)⟩,
    ⟨some 45, none, none, .pick (.t 39) (.c (.bool true)) (.t 44)⟩,
    ⟨some 26, none, none, .mv (.t 45)⟩])
  (.cond (.t 26) (.seq (.ops [⟨some 4, none, none, .mv (.c (.int .i64 0))⟩,
    ⟨some 5, none, none, .mv (.c (.int .i64 1))⟩])
  (.ret))
  (.seq (.ops [⟨some 47, none, none, .mv (.t 6)⟩,
    ⟨some 48, none, none, .ld true 3 (.t 3)⟩,
    ⟨some 49, none, none, .call (.c (.fn 93 [] [])) [.t 47, .t 48]⟩,
    ⟨some 50, none, none, .not (.t 49)⟩,
    ⟨some 46, none, none, .mv (.t 50)⟩])
  (.cond (.t 46) (.seq (.ops [⟨some 4, none, none, .mv (.c (.int .i64 0))⟩,
    ⟨some 5, none, none, .mv (.c (.int .i64 8))⟩])
  (.ret))
  (.skip))))))))
  (.seq (.ops [⟨some 9, none, none, .mv (.c (.int .i64 0))⟩,
    ⟨some 10, none, none, .mv (.c (.int .i64 10000))⟩])
  (.seq (.seq (.ops [⟨some 51, none, none, .fad 1 (.t 3)⟩,
    ⟨some 52, none, none, .ld false 1 (.t 51)⟩,
    ⟨some 53, none, none, .len (.t 52)⟩,
    ⟨some 54, none, none, .mv (.c (.int .i64 0))⟩])
  (.block 1 (.loop (.seq (.ops [⟨some 55, none, none, .ar .lss (.t 54) (.t 53)⟩])
  (.seq (.cond (.t 55) (.skip)
  (.exit 1))
  (.seq (.block 2 (.seq (.ops [⟨some 56, none, none, .iad 1 (.t 52) (.t 54)⟩,
    ⟨some 57, none, none, .ld false 1 (.t 56)⟩,
    ⟨some 12, none, none, .mv (.t 57)⟩])
  (.ops [⟨some 58, none, none, .mv (.t 9)⟩,
    ⟨some 59, none, none, .mv (.t 6)⟩,
    ⟨some 60, none, none, .mv (.t 12)⟩,
    ⟨some 61, none, none, .call (.c (.fn 94 [] [])) [.t 59, .t 60]⟩,
    ⟨some 62, none, none, .fld false 1 0 (.t 61)⟩,
    ⟨some 63, none, none, .ar .add (.t 58) (.t 62)⟩,
    ⟨some 9, none, none, .mv (.t 63)⟩])))
  (.ops [⟨some 64, none, none, .ar .add (.t 54) (.c (.int .i64 1))⟩,
    ⟨some 54, none, none, .mv (.t 64)⟩])))))))
  (.seq (.seq (.ops [⟨some 65, none, none, .fad 2 (.t 3)⟩,
    ⟨some 66, none, none, .ld false 1 (.t 65)⟩,
    ⟨some 67, none, none, .len (.t 66)⟩,
    ⟨some 68, none, none, .ar .gtr (.t 67) (.c (.int .i64 0))⟩])
  (.cond (.t 68) (.ops [⟨some 10, none, none, .mv (.c (.int .i64 0))⟩])
  (.skip)))
  (.seq (.seq (.ops [⟨some 69, none, none, .fad 2 (.t 3)⟩,
    ⟨some 70, none, none, .ld false 1 (.t 69)⟩,
    ⟨some 71, none, none, .len (.t 70)⟩,
    ⟨some 72, none, none, .mv (.c (.int .i64 0))⟩])
  (.block 3 (.loop (.seq (.ops [⟨some 73, none, none, .ar .lss (.t 72) (.t 71)⟩])
  (.seq (.cond (.t 73) (.skip)
  (.exit 3))
  (.seq (.block 4 (.seq (.ops [⟨some 74, none, none, .iad 1 (.t 70) (.t 72)⟩,
    ⟨some 75, none, none, .ld false 1 (.t 74)⟩,
    ⟨some 14, none, none, .mv (.t 75)⟩])
  (.ops [⟨some 76, none, none, .mv (.t 10)⟩,
    ⟨some 77, none, none, .mv (.t 6)⟩,
    ⟨some 78, none, none, .mv (.t 14)⟩,
    ⟨some 79, none, none, .call (.c (.fn 94 [] [])) [.t 77, .t 78]⟩,
    ⟨some 80, none, none, .fld false 1 1 (.t 79)⟩,
    ⟨some 81, none, none, .ar .add (.t 76) (.t 80)⟩,
    ⟨some 10, none, none, .mv (.t 81)⟩])))
  (.ops [⟨some 82, none, none, .ar .add (.t 72) (.c (.int .i64 1))⟩,
    ⟨some 72, none, none, .mv (.t 82)⟩])))))))
  (.seq (.seq (.ops [⟨some 83, none, none, .mv (.t 9)⟩,
    ⟨some 84, none, none, .mv (.t 10)⟩,
    ⟨some 85, none, none, .ar .leq (.t 83) (.t 84)⟩])
  (.cond (.t 85) (.seq (.ops [⟨some 4, none, none, .mv (.c (.int .i64 0))⟩,
    ⟨some 5, none, none, .mv (.c (.int .i64 6))⟩])
  (.ret))
  (.skip)))
  (.seq (.ops [⟨some 86, none, none, .mv (.t 9)⟩,
    ⟨some 87, none, none, .mv (.t 10)⟩,
    ⟨some 88, none, none, .ar .sub (.t 86) (.t 87)⟩,
    ⟨some 4, none, none, .mv (.t 88)⟩,
    ⟨some 5, none, none, .mv (.c (.int .i64 0))⟩])
  (.ret))))))))))⟩
def c31 : FD := ⟨8, [.tmp 4],
  .seq (.ops [⟨some 4, none, none, .mv (.c (.bool false))⟩])
  (.seq (.ops [⟨some 5, none, none, .mv (.t 0)⟩,
    ⟨some 6, none, none, .mv (.t 1)⟩,
    ⟨some 7, none, none, .call (.c (.fn 95 [] [])) [.t 5, .t 6]⟩,
    ⟨some 4, none, none, .mv (.t 7)⟩])
  (.ret))⟩
def c36 : FD := ⟨21, [.tmp 2, .tmp 3],
  .seq (.ops [⟨some 1, none, none, .box (.t 0)⟩,
    ⟨some 2, none, none, .mv (.c (.nils))⟩,
    ⟨some 3, none, none, .mv (.c (.int .i64 0))⟩])
  (.seq (.ops [⟨some 8, none, none, .ld true 3 (.t 1)⟩,
    ⟨some 9, none, none, .call (.c (.fn 79 [] [])) [.t 8]⟩,
    ⟨some 7, none, none, .mv (.t 9)⟩,
    ⟨some 10, none, none, .ext (.t 7) 0⟩,
    ⟨some 11, none, none, .ext (.t 7) 1⟩,
    ⟨some 12, none, none, .ext (.t 7) 2⟩,
    ⟨some 5, none, none, .alc [.int .i64 0, .int .i64 0, .int .i64 0, .int .i64 0, .int .i64 0, .int .i64 0, .int .i64 0, .int .i64 0, .int .i64 0, .int .i64 0, .int .i64 0, .int .i64 0, .int .i64 0, .int .i64 0, .int .i64 0, .int .i64 0, .int .i64 0, .int .i64 0, .int .i64 0, .int .i64 0, .int .i64 0, .int .i64 0, .int .i64 0, .int .i64 0]⟩,
    ⟨some 4, none, none, .mv (.t 10)⟩,
    ⟨none, none, none, .sto 24 (.t 5) (.t 11)⟩,
    ⟨some 6, none, none, .mv (.t 12)⟩])
  (.seq (.seq (.ops [⟨some 13, none, none, .mv (.t 6)⟩,
    ⟨some 14, none, none, .ar .neq (.t 13) (.c (.int .i64 0))⟩])
  (.cond (.t 14) (.seq (.ops [⟨some 15, none, none, .mv (.t 6)⟩,
    ⟨some 2, none, none, .mv (.c (.nils))⟩,
    ⟨some 3, none, none, .mv (.t 15)⟩])
  (.ret))
  (.skip)))
  (.seq (.ops [⟨some 16, none, none, .fad 1 (.t 1)⟩,
    ⟨some 17, none, none, .ld false 1 (.t 16)⟩,
    ⟨some 18, none, none, .len (.t 17)⟩,
    ⟨some 19, none, none, .sla 12 2 (.t 5) none (some (.t 18)) none⟩,
    ⟨some 20, none, none, .call (.c (.fn 96 [] [])) [.t 19]⟩,
    ⟨some 2, none, none, .mv (.t 20)⟩,
    ⟨some 3, none, none, .mv (.c (.int .i64 0))⟩])
  (.ret))))⟩
def c38 : FD := ⟨8, [.tmp 4],
  .seq (.ops [⟨some 4, none, none, .mv (.c (.bool false))⟩])
  (.seq (.ops [⟨some 5, none, none, .mv (.t 0)⟩,
    ⟨some 6, none, none, .mv (.t 1)⟩,
    ⟨some 7, none, none, .call (.c (.fn 97 [] [])) [.t 5, .t 6]⟩,
    ⟨some 4, none, none, .mv (.t 7)⟩])
  (.ret))⟩
def c39 : FD := ⟨23, [.tmp 4, .tmp 5],
  .seq (.ops [⟨some 2, none, none, .box (.t 0)⟩,
    ⟨some 4, none, none, .mv (.c (.nils))⟩,
    ⟨some 5, none, none, .mv (.c (.int .i64 0))⟩])
  (.seq (.ops [⟨some 9, none, none, .ld true 3 (.t 2)⟩,
    ⟨some 10, none, none, .mv (.t 1)⟩,
    ⟨some 11, none, none, .call (.c (.fn 98 [] [])) [.t 9, .t 10]⟩,
    ⟨some 8, none, none, .mv (.t 11)⟩,
    ⟨some 12, none, none, .ext (.t 8) 0⟩,
    ⟨some 13, none, none, .ext (.t 8) 1⟩,
    ⟨some 6, none, none, .mv (.t 12)⟩,
    ⟨some 7, none, none, .mv (.t 13)⟩])
  (.seq (.seq (.ops [⟨some 14, none, none, .mv (.t 7)⟩,
    ⟨some 15, none, none, .ar .neq (.t 14) (.c (.int .i64 0))⟩])
  (.cond (.t 15) (.seq (.ops [⟨some 16, none, none, .mv (.t 7)⟩,
    ⟨some 4, none, none, .mv (.c (.nils))⟩,
    ⟨some 5, none, none, .mv (.t 16)⟩])
  (.ret))
  (.skip)))
  (.seq (.ops [⟨some 17, none, none, .mv (.t 6)⟩,
    ⟨some 18, none, none, .chk (.t 17)⟩,
    ⟨some 19, none, none, .fad 3 (.t 18)⟩,
    ⟨some 20, none, none, .ld false 1 (.t 19)⟩,
    ⟨some 21, none, none, .mv (.t 1)⟩,
    ⟨some 22, none, none, .lkp none (.nils) (.t 20) (.t 21) false⟩,
    ⟨some 4, none, none, .mv (.t 22)⟩,
    ⟨some 5, none, none, .mv (.c (.int .i64 0))⟩])
  (.ret))))⟩
def c41 : FD := ⟨35, [.cell 4 true 2, .tmp 5],
  .seq (.ops [⟨some 2, none, none, .box (.t 0)⟩,
    ⟨some 4, none, none, .alc [.int .i64 0, .int .i64 0]⟩,
    ⟨some 5, none, none, .mv (.c (.int .i64 0))⟩])
  (.seq (.ops [⟨some 10, none, none, .ld true 3 (.t 2)⟩,
    ⟨some 11, none, none, .call (.c (.fn 87 [] [])) [.t 10]⟩,
    ⟨some 9, none, none, .mv (.t 11)⟩,
    ⟨some 12, none, none, .ext (.t 9) 0⟩,
    ⟨some 13, none, none, .ext (.t 9) 1⟩,
    ⟨some 6, none, none, .mv (.t 12)⟩,
    ⟨some 7, none, none, .mv (.t 13)⟩])
  (.seq (.block 0 (.seq (.ops [⟨some 15, none, none, .mv (.t 7)⟩,
    ⟨some 16, none, none, .ar .neq (.t 15) (.c (.int .i64 0))⟩,
    ⟨some 14, none, none, .mv (.t 16)⟩])
  (.cond (.t 14) (.seq (.ops [⟨some 17, none, none, .bld [.int .i64 0, .int .i64 0] []⟩,
    ⟨some 18, none, none, .mv (.t 7)⟩,
    ⟨none, none, none, .sto 2 (.t 4) (.t 17)⟩,
    ⟨some 5, none, none, .mv (.t 18)⟩])
  (.ret))
  (.seq (.ops [⟨some 20, none, none, .ld true 3 (.t 2)⟩,
    ⟨some 21, none, none, .mv (.t 1)⟩,
    ⟨some 22, none, none, .call (.c (.fn 90 [] [])) [.t 20, .t 21]⟩,
    ⟨some 23, none, none, .not (.t 22)⟩,
    ⟨some 19, none, none, .mv (.t 23)⟩])
  (.cond (.t 19) (.seq (.ops [⟨some 24, none, none, .bld [.int .i64 0, .int .i64 0] []⟩,
    ⟨none, none, none, .sto 2 (.t 4) (.t 24)⟩,
    ⟨some 5, none, none, .mv (.c (.int .i64 1))⟩])
  (.ret))
  (.skip))))))
  (.seq (.ops [⟨some 25, none, none, .mv (.t 6)⟩,
    ⟨some 26, none, none, .mv (.t 1)⟩,
    ⟨some 27, none, none, .call (.c (.fn 94 [] [])) [.t 25, .t 26]⟩,
    ⟨some 8, none, none, .alc [.int .i64 0, .int .i64 0]⟩,
    ⟨none, none, none, .sto 2 (.t 8) (.t 27)⟩])
  (.seq (.seq (.ops [⟨some 28, none, none, .fad 0 (.t 8)⟩,
    ⟨some 29, none, none, .ld false 1 (.t 28)⟩,
    ⟨some 30, none, none, .fad 1 (.t 8)⟩,
    ⟨some 31, none, none, .ld false 1 (.t 30)⟩,
    ⟨some 32, none, none, .ar .gtr (.t 29) (.t 31)⟩])
  (.cond (.t 32) (.seq (.ops [⟨some 33, none, none, .bld [.int .i64 0, .int .i64 0] []⟩,
    ⟨none, none, none, .sto 2 (.t 4) (.t 33)⟩,
    ⟨some 5, none, none, .mv (.c (.int .i64 6))⟩])
  (.ret))
  (.skip)))
  (.seq (.ops [⟨some 34, none, none, .ld true 2 (.t 8)⟩,
    ⟨none, none, none, .sto 2 (.t 4) (.t 34)⟩,
    ⟨some 5, none, none, .mv (.c (.int .i64 0))⟩])
  (.ret))))))⟩
def c42 : FD := ⟨35, [.tmp 6],
  .seq (.ops [⟨some 3, none, none, .box (.t 0)⟩,
    ⟨some 4, none, none, .box (.t 1)⟩,
    ⟨some 6, none, none, .mv (.c (.bool false))⟩])
  (.seq (.ops [⟨some 7, none, none, .fad 1 (.t 4)⟩,
    ⟨some 8, none, none, .ld false 1 (.t 7)⟩,
    ⟨some 9, none, none, .fad 0 (.t 3)⟩,
    ⟨some 10, none, none, .ld false 1 (.t 9)⟩,
    ⟨some 11, none, none, .ar .sub (.t 8) (.t 10)⟩,
    ⟨some 12, none, none, .ar .mul (.c (.int .i64 100)) (.t 11)⟩,
    ⟨some 13, none, none, .mv (.t 2)⟩,
    ⟨some 14, none, none, .fad 2 (.t 4)⟩,
    ⟨some 15, none, none, .fad 1 (.t 14)⟩,
    ⟨some 16, none, none, .ld false 1 (.t 15)⟩,
    ⟨some 17, none, none, .ar .add (.c (.int .i64 100)) (.t 16)⟩,
    ⟨some 18, none, none, .ar .mul (.t 13) (.t 17)⟩,
    ⟨some 19, none, none, .ar .leq (.t 12) (.t 18)⟩,
    ⟨some 20, none, none, .mv (.t 19)⟩,
    ⟨some 21, some (20, true), none, .fad 1 (.t 4)⟩,
    ⟨some 22, some (20, true), none, .ld false 1 (.t 21)⟩,
    ⟨some 23, some (20, true), none, .fad 0 (.t 3)⟩,
    ⟨some 24, some (20, true), none, .ld false 1 (.t 23)⟩,
    ⟨some 25, some (20, true), none, .ar .add (.t 22) (.t 24)⟩,
    ⟨some 26, some (20, true), none, .ar .mul (.c (.int .i64 100)) (.t 25)⟩,
    ⟨some 27, some (20, true), none, .mv (.t 2)⟩,
    ⟨some 28, some (20, true), none, .fad 2 (.t 4)⟩,
    ⟨some 29, some (20, true), none, .fad 0 (.t 28)⟩,
    ⟨some 30, some (20, true), none, .ld false 1 (.t 29)⟩,
    ⟨some 31, some (20, true), none, .ar .add (.c (.int .i64 100)) (.t 30)⟩,
    ⟨some 32, some (20, true), none, .ar .mul (.t 27) (.t 31)⟩,
    ⟨some 33, some (20, true), none, .ar .geq (.t 26) (.t 32)⟩,
    ⟨some 34, none, none, .pick (.t 20) (.t 33) (.c (.bool false))⟩,
    ⟨some 6, none, none, .mv (.t 34)⟩])
  (.ret))⟩
def c47 : FD := ⟨25, [.tmp 2, .tmp 3],
  .seq (.ops [⟨some 1, none, none, .box (.t 0)⟩,
    ⟨some 2, none, none, .mv (.c (.nils))⟩,
    ⟨some 3, none, none, .mv (.c (.int .i64 0))⟩])
  (.seq (.ops [⟨some 9, none, none, .ld true 3 (.t 1)⟩,
    ⟨some 10, none, none, .call (.c (.fn 87 [] [])) [.t 9]⟩,
    ⟨some 8, none, none, .mv (.t 10)⟩,
    ⟨some 11, none, none, .ext (.t 8) 0⟩,
    ⟨some 12, none, none, .ext (.t 8) 1⟩,
    ⟨some 4, none, none, .alc [.nilp]⟩,
    ⟨none, none, none, .sto 1 (.t 4) (.t 11)⟩,
    ⟨some 5, none, none, .mv (.t 12)⟩])
  (.seq (.seq (.ops [⟨some 13, none, none, .mv (.t 5)⟩,
    ⟨some 14, none, none, .ar .neq (.t 13) (.c (.int .i64 0))⟩])
  (.cond (.t 14) (.seq (.ops [⟨some 15, none, none, .mv (.t 5)⟩,
    ⟨some 2, none, none, .mv (.c (.nils))⟩,
    ⟨some 3, none, none, .mv (.t 15)⟩])
  (.ret))
  (.skip)))
  (.seq (.ops [⟨some 17, none, none, .ld false 1 (.t 4)⟩,
    ⟨some 18, none, none, .mkf 107 [] [.t 4]⟩,
    ⟨some 19, none, none, .call (.c (.fn 106 [] [])) [.t 17, .t 18]⟩,
    ⟨some 16, none, none, .mv (.t 19)⟩,
    ⟨some 20, none, none, .ext (.t 16) 0⟩,
    ⟨some 21, none, none, .ext (.t 16) 1⟩,
    ⟨some 6, none, none, .mv (.t 20)⟩,
    ⟨some 7, none, none, .mv (.t 21)⟩])
  (.seq (.seq (.ops [⟨some 22, none, none, .mv (.t 7)⟩,
    ⟨some 23, none, none, .not (.t 22)⟩])
  (.cond (.t 23) (.seq (.ops [⟨some 2, none, none, .mv (.c (.nils))⟩,
    ⟨some 3, none, none, .mv (.c (.int .i64 6))⟩])
  (.ret))
  (.skip)))
  (.seq (.ops [⟨some 24, none, none, .mv (.t 6)⟩,
    ⟨some 2, none, none, .mv (.t 24)⟩,
    ⟨some 3, none, none, .mv (.c (.int .i64 0))⟩])
  (.ret))))))⟩
def c48 : FD := ⟨23, [.tmp 2, .tmp 3],
  .seq (.ops [⟨some 1, none, none, .box (.t 0)⟩,
    ⟨some 2, none, none, .mv (.c (.nils))⟩,
    ⟨some 3, none, none, .mv (.c (.int .i64 0))⟩])
  (.seq (.ops [⟨some 9, none, none, .ld true 3 (.t 1)⟩,
    ⟨some 10, none, none, .call (.c (.fn 87 [] [])) [.t 9]⟩,
    ⟨some 8, none, none, .mv (.t 10)⟩,
    ⟨some 11, none, none, .ext (.t 8) 0⟩,
    ⟨some 12, none, none, .ext (.t 8) 1⟩,
    ⟨some 4, none, none, .alc [.nilp]⟩,
    ⟨none, none, none, .sto 1 (.t 4) (.t 11)⟩,
    ⟨some 5, none, none, .mv (.t 12)⟩])
  (.seq (.seq (.ops [⟨some 13, none, none, .mv (.t 5)⟩,
    ⟨some 14, none, none, .ar .neq (.t 13) (.c (.int .i64 0))⟩])
  (.cond (.t 14) (.seq (.ops [⟨some 15, none, none, .mv (.t 5)⟩,
    ⟨some 2, none, none, .mv (.c (.nils))⟩,
    ⟨some 3, none, none, .mv (.t 15)⟩])
  (.ret))
  (.skip)))
  (.seq (.ops [⟨some 17, none, none, .ld false 1 (.t 4)⟩,
    ⟨some 18, none, none, .mkf 108 [] [.t 4]⟩,
    ⟨some 19, none, none, .call (.c (.fn 106 [] [])) [.t 17, .t 18]⟩,
    ⟨some 16, none, none, .mv (.t 19)⟩,
    ⟨some 20, none, none, .ext (.t 16) 0⟩,
    ⟨some 21, none, none, .ext (.t 16) 1⟩,
    ⟨some 6, none, none, .mv (.t 20)⟩,
    ⟨some 7, none, none, .mv (.t 21)⟩])
  (.seq (.ops [⟨some 22, none, none, .mv (.t 6)⟩,
    ⟨some 2, none, none, .mv (.t 22)⟩,
    ⟨some 3, none, none, .mv (.c (.int .i64 0))⟩])
  (.ret)))))⟩
def c50 : FD := ⟨35, [.cell 4 true 3, .tmp 5],
  .seq (.ops [⟨some 2, none, none, .box (.t 0)⟩,
    ⟨some 3, none, none, .box (.t 1)⟩,
    ⟨some 4, none, none, .alc [.int .i64 0, .nils, .nils]⟩,
    ⟨some 5, none, none, .mv (.c (.int .i64 0))⟩])
  (.seq (.seq (.ops [⟨some 9, none, none, .ld true 3 (.t 2)⟩,
    ⟨some 10, none, none, .call (.c (.fn 54 [] [])) [.t 9]⟩,
    ⟨some 6, none, none, .mv (.t 10)⟩])
  (.seq (.ops [⟨some 11, none, none, .mv (.t 6)⟩,
    ⟨some 12, none, none, .ar .neq (.t 11) (.c (.int .i64 0))⟩])
  (.cond (.t 12) (.seq (.ops [⟨some 13, none, none, .bld [.int .i64 0, .nils, .nils] []⟩,
    ⟨some 14, none, none, .mv (.t 6)⟩,
    ⟨none, none, none, .sto 3 (.t 4) (.t 13)⟩,
    ⟨some 5, none, none, .mv (.t 14)⟩])
  (.ret))
  (.skip))))
  (.seq (.seq (.ops [⟨some 15, none, none, .fad 2 (.t 2)⟩,
    ⟨some 16, none, none, .ld false 1 (.t 15)⟩,
    ⟨some 17, none, none, .len (.t 16)⟩,
    ⟨some 18, none, none, .ar .eql (.t 17) (.c (.int .i64 10))⟩])
  (.cond (.t 18) (.seq (.ops [⟨some 19, none, none, .bld [.int .i64 0, .nils, .nils] []⟩,
    ⟨none, none, none, .sto 3 (.t 4) (.t 19)⟩,
    ⟨some 5, none, none, .mv (.c (.int .i64 9))⟩])
  (.ret))
  (.skip)))
  (.seq (.ops [⟨some 20, none, none, .ld true 3 (.t 2)⟩,
    ⟨some 21, none, none, .call (.c (.fn 110 [] [])) [.t 20]⟩,
    ⟨some 7, none, none, .alc [.int .i64 0, .nils, .nils]⟩,
    ⟨none, none, none, .sto 3 (.t 7) (.t 21)⟩])
  (.seq (.ops [⟨some 22, none, none, .fad 2 (.t 7)⟩,
    ⟨some 23, none, none, .ld false 1 (.t 22)⟩,
    ⟨some 24, none, none, .ld true 4 (.t 3)⟩,
    ⟨some 25, none, none, .bsl 1 [.int .i64 0, .int .i64 0, .int .i64 0, .int .i64 0] [(0, 4, .t 24)]⟩,
    ⟨some 26, none, none, .app 4 32 (.t 23) (.t 25)⟩,
    ⟨some 27, none, none, .fad 2 (.t 7)⟩,
    ⟨none, none, none, .sto 1 (.t 27) (.t 26)⟩])
  (.seq (.seq (.ops [⟨some 28, none, none, .ld true 3 (.t 7)⟩,
    ⟨some 29, none, none, .call (.c (.fn 54 [] [])) [.t 28]⟩,
    ⟨some 8, none, none, .mv (.t 29)⟩])
  (.seq (.ops [⟨some 30, none, none, .mv (.t 8)⟩,
    ⟨some 31, none, none, .ar .neq (.t 30) (.c (.int .i64 0))⟩])
  (.cond (.t 31) (.seq (.ops [⟨some 32, none, none, .bld [.int .i64 0, .nils, .nils] []⟩,
    ⟨some 33, none, none, .mv (.t 8)⟩,
    ⟨none, none, none, .sto 3 (.t 4) (.t 32)⟩,
    ⟨some 5, none, none, .mv (.t 33)⟩])
  (.ret))
  (.skip))))
  (.seq (.ops [⟨some 34, none, none, .ld true 3 (.t 7)⟩,
    ⟨none, none, none, .sto 3 (.t 4) (.t 34)⟩,
    ⟨some 5, none, none, .mv (.c (.int .i64 0))⟩])
  (.ret)))))))⟩
def c53 : FD := ⟨71, [.cell 6 true 3, .tmp 7],
  .seq (.ops [⟨some 3, none, none, .box (.t 0)⟩,
    ⟨some 6, none, none, .alc [.int .i64 0, .nils, .nils]⟩,
    ⟨some 7, none, none, .mv (.c (.int .i64 0))⟩])
  (.seq (.ops [⟨some 14, none, none, .ld true 3 (.t 3)⟩,
    ⟨some 15, none, none, .mv (.t 1)⟩,
    ⟨some 16, none, none, .call (.c (.fn 98 [] [])) [.t 14, .t 15]⟩,
    ⟨some 13, none, none, .mv (.t 16)⟩,
    ⟨some 17, none, none, .ext (.t 13) 0⟩,
    ⟨some 18, none, none, .ext (.t 13) 1⟩,
    ⟨some 8, none, none, .mv (.t 17)⟩,
    ⟨some 9, none, none, .mv (.t 18)⟩])
  (.seq (.block 0 (.seq (.ops [⟨some 20, none, none, .mv (.t 9)⟩,
    ⟨some 21, none, none, .ar .neq (.t 20) (.c (.int .i64 0))⟩,
    ⟨some 19, none, none, .mv (.t 21)⟩])
  (.cond (.t 19) (.seq (.ops [⟨some 22, none, none, .bld [.int .i64 0, .nils, .nils] []⟩,
    ⟨some 23, none, none, .mv (.t 9)⟩,
    ⟨none, none, none, .sto 3 (.t 6) (.t 22)⟩,
    ⟨some 7, none, none, .mv (.t 23)⟩])
  (.ret))
  (.seq (.ops [⟨some 25, none, none, .mv (.t 8)⟩,
    ⟨some 26, none, none, .chk (.t 25)⟩,
    ⟨some 27, none, none, .fad 3 (.t 26)⟩,
    ⟨some 28, none, none, .ld false 1 (.t 27)⟩,
    ⟨some 29, none, none, .mv (.t 1)⟩,
    ⟨some 30, none, none, .lkp none (.nils) (.t 28) (.t 29) false⟩,
    ⟨some 31, none, none, .len (.t 30)⟩,
    ⟨some 32, none, none, .ar .gtr (.t 31) (.c (.int .i64 0))⟩,
    ⟨some 24, none, none, .mv (.t 32)⟩])
  (.cond (.t 24) (.seq (.ops [⟨some 33, none, none, .bld [.int .i64 0, .nils, .nils] []⟩,
    ⟨none, none, none, .sto 3 (.t 6) (.t 33)⟩,
    ⟨some 7, none, none, .mv (.c (.int .i64 5))⟩])
  (.ret))
  (.seq (.ops [⟨some 35, none, none, .mv (.t 2)⟩,
    ⟨some 36, none, none, .len (.t 35)⟩,
    ⟨some 37, none, none, .ar .eql (.t 36) (.c (.int .i64 0))⟩,
    ⟨some 34, none, none, .mv (.t 37)⟩])
  (.cond (.t 34) (.seq (.ops [⟨some 38, none, none, .bld [.int .i64 0, .nils, .nils] []⟩,
    ⟨none, none, none, .sto 3 (.t 6) (.t 38)⟩,
    ⟨some 7, none, none, .mv (.c (.int .i64 2))⟩])
  (.ret))
  (.seq (.ops [⟨some 40, none, none, .fad 1 (.t 3)⟩,
    ⟨some 41, none, none, .ld false 1 (.t 40)⟩,
    ⟨some 42, none, none, .len (.t 41)⟩,
    ⟨some 43, none, none, .mv (.t 2)⟩,
    ⟨some 44, none, none, .len (.t 43)⟩,
    ⟨some 45, none, none, .ar .add (.t 42) (.t 44)⟩,
    ⟨some 46, none, none, .ar .gtr (.t 45) (.c (.int .i64 12))⟩,
    ⟨some 39, none, none, .mv (.t 46)⟩])
  (.cond (.t 39) (.seq (.ops [⟨some 47, none, none, .bld [.int .i64 0, .nils, .nils] []⟩,
    ⟨none, none, none, .sto 3 (.t 6) (.t 47)⟩,
    ⟨some 7, none, none, .mv (.c (.int .i64 9))⟩])
  (.ret))
  (.seq (.ops [⟨some 49, none, none, .mv (.t 2)⟩,
    ⟨some 50, none, none, .call (.c (.fn 111 [] [])) [.t 49, .c (.fn 78 [] [])]⟩,
    ⟨some 51, none, none, .not (.t 50)⟩,
    ⟨some 48, none, none, .mv (.t 51)⟩])
  (.cond (.t 48) (.seq (.ops [⟨some 52, none, none, .bld [.int .i64 0, .nils, .nils] []⟩,
    ⟨none, none, none, .sto 3 (.t 6) (.t 52)⟩,
    ⟨some 7, none, none, .mv (.c (.int .i64 3))⟩])
  (.ret))
  (.skip))))))))))))
  (.seq (.ops [⟨some 53, none, none, .ld true 3 (.t 3)⟩,
    ⟨some 54, none, none, .call (.c (.fn 110 [] [])) [.t 53]⟩,
    ⟨some 10, none, none, .alc [.int .i64 0, .nils, .nils]⟩,
    ⟨none, none, none, .sto 3 (.t 10) (.t 54)⟩])
  (.seq (.seq (.ops [⟨some 55, none, none, .mv (.t 2)⟩,
    ⟨some 56, none, none, .len (.t 55)⟩,
    ⟨some 57, none, none, .mv (.c (.int .i64 0))⟩])
  (.block 1 (.loop (.seq (.ops [⟨some 58, none, none, .ar .lss (.t 57) (.t 56)⟩])
  (.seq (.cond (.t 58) (.skip)
  (.exit 1))
  (.seq (.block 2 (.seq (.ops [⟨some 59, none, none, .iad 1 (.t 55) (.t 57)⟩,
    ⟨some 60, none, none, .ld false 1 (.t 59)⟩,
    ⟨some 12, none, none, .mv (.t 60)⟩])
  (.ops [⟨some 61, none, none, .fad 1 (.t 10)⟩,
    ⟨some 62, none, none, .ld false 1 (.t 61)⟩,
    ⟨some 63, none, none, .mv (.t 1)⟩,
    ⟨some 64, none, none, .mv (.t 12)⟩,
    ⟨some 65, none, none, .bld [.int .i64 0, .int .i64 0] [(0, 1, .t 63), (1, 1, .t 64)]⟩,
    ⟨some 66, none, none, .bsl 1 [.int .i64 0, .int .i64 0] [(0, 2, .t 65)]⟩,
    ⟨some 67, none, none, .app 2 16 (.t 62) (.t 66)⟩,
    ⟨some 68, none, none, .fad 1 (.t 10)⟩,
    ⟨none, none, none, .sto 1 (.t 68) (.t 67)⟩])))
  (.ops [⟨some 69, none, none, .ar .add (.t 57) (.c (.int .i64 1))⟩,
    ⟨some 57, none, none, .mv (.t 69)⟩])))))))
  (.seq (.ops [⟨some 70, none, none, .ld true 3 (.t 10)⟩,
    ⟨none, none, none, .sto 3 (.t 6) (.t 70)⟩,
    ⟨some 7, none, none, .mv (.c (.int .i64 0))⟩])
  (.ret))))))⟩
def c54 : FD := ⟨61, [.tmp 2],
  .seq (.ops [⟨some 1, none, none, .box (.t 0)⟩,
    ⟨some 2, none, none, .mv (.c (.int .i64 0))⟩])
  (.seq (.seq (.ops [⟨some 6, none, none, .fad 1 (.t 1)⟩,
    ⟨some 7, none, none, .ld false 1 (.t 6)⟩,
    ⟨some 8, none, none, .len (.t 7)⟩,
    ⟨some 9, none, none, .call (.c (.fn 112 [] [])) [.t 8, .c (.int .i64 1), .c (.int .i64 12)]⟩,
    ⟨some 10, none, none, .not (.t 9)⟩,
    ⟨some 11, none, none, .mv (.t 10)⟩,
    ⟨some 12, some (11, false), none, .fad 2 (.t 1)⟩,
    ⟨some 13, some (11, false), none, .ld false 1 (.t 12)⟩,
    ⟨some 14, some (11, false), none, .len (.t 13)⟩,
    ⟨some 15, some (11, false), none, .ar .gtr (.t 14) (.c (.int .i64 10))⟩,
    ⟨some 16, none, none, .pick (.t 11) (.c (.bool true)) (.t 15)⟩])
  (.cond (.t 16) (.seq (.ops [⟨some 2, none, none, .mv (.c (.int .i64 2))⟩])
  (.ret))
  (.skip)))
  (.seq (.seq (.ops [⟨some 17, none, none, .fad 0 (.t 1)⟩,
    ⟨some 18, none, none, .ld false 1 (.t 17)⟩,
    ⟨some 19, none, none, .call (.c (.fn 112 [] [])) [.t 18, .c (.int .i64 0), .c (.int .i64 50)]⟩,
    ⟨some 20, none, none, .not (.t 19)⟩,
    ⟨some 21, none, none, .mv (.t 20)⟩,
    ⟨some 22, some (21, false), none, .fad 2 (.t 1)⟩,
    ⟨some 23, some (21, false), none, .ld false 1 (.t 22)⟩,
    ⟨some 24, some (21, false), none, .call (.c (.fn 113 [] [])) [.t 23, .c (.fn 114 [] [])]⟩,
    ⟨some 25, some (21, false), none, .not (.t 24)⟩,
    ⟨some 26, none, none, .pick (.t 21) (.c (.bool true)) (.t 25)⟩,
    ⟨some 27, none, none, .mv (.t 26)⟩,
    ⟨some 28, some (27, false), none, .fad 1 (.t 1)⟩,
    ⟨some 29, some (27, false), none, .ld false 1 (.t 28)⟩,
    ⟨some 30, some (27, false), none, .call (.c (.fn 115 [] [])) [.t 29, .c (.fn 116 [] [])]⟩,
    ⟨some 31, some (27, false), none, .not (.t 30)⟩,
    ⟨some 32, none, none, .pick (.t 27) (.c (.bool true)) (.t 31)⟩])
  (.cond (.t 32) (.seq (.ops [⟨some 2, none, none, .mv (.c (.int .i64 3))⟩])
  (.ret))
  (.skip)))
  (.seq (.seq (.ops [⟨some 33, none, none, .fad 1 (.t 1)⟩,
    ⟨some 34, none, none, .ld false 1 (.t 33)⟩,
    ⟨some 35, none, none, .len (.t 34)⟩,
    ⟨some 36, none, none, .mv (.c (.int .i64 0))⟩])
  (.block 0 (.loop (.seq (.ops [⟨some 37, none, none, .ar .lss (.t 36) (.t 35)⟩])
  (.seq (.cond (.t 37) (.skip)
  (.exit 0))
  (.seq (.block 1 (.seq (.ops [⟨some 38, none, none, .mv (.t 36)⟩,
    ⟨some 39, none, none, .iad 2 (.t 34) (.t 36)⟩,
    ⟨some 40, none, none, .ld true 2 (.t 39)⟩,
    ⟨some 4, none, none, .alc [.int .i64 0, .int .i64 0]⟩,
    ⟨some 3, none, none, .mv (.t 38)⟩,
    ⟨none, none, none, .sto 2 (.t 4) (.t 40)⟩])
  (.seq (.ops [⟨some 41, none, none, .fad 0 (.t 4)⟩,
    ⟨some 42, none, none, .ld false 1 (.t 41)⟩,
    ⟨some 43, none, none, .mv (.t 3)⟩,
    ⟨some 44, none, none, .ar .sub (.t 43) (.c (.int .i64 1))⟩,
    ⟨some 45, none, none, .call (.c (.fn 112 [] [])) [.t 42, .c (.int .i64 (-1)), .t 44]⟩,
    ⟨some 46, none, none, .not (.t 45)⟩])
  (.cond (.t 46) (.seq (.ops [⟨some 2, none, none, .mv (.c (.int .i64 1))⟩])
  (.ret))
  (.skip)))))
  (.ops [⟨some 47, none, none, .ar .add (.t 36) (.c (.int .i64 1))⟩,
    ⟨some 36, none, none, .mv (.t 47)⟩])))))))
  (.seq (.ops [⟨some 48, none, none, .ld true 3 (.t 1)⟩,
    ⟨some 49, none, none, .mkf 91 [.t 48] []⟩,
    ⟨some 5, none, none, .alc [.nilf]⟩,
    ⟨none, none, none, .sto 1 (.t 5) (.t 49)⟩])
  (.seq (.block 2 (.seq (.ops [⟨some 51, none, none, .fad 2 (.t 1)⟩,
    ⟨some 52, none, none, .ld false 1 (.t 51)⟩,
    ⟨some 53, none, none, .mkf 117 [] [.t 5]⟩,
    ⟨some 54, none, none, .call (.c (.fn 113 [] [])) [.t 52, .t 53]⟩,
    ⟨some 55, none, none, .not (.t 54)⟩,
    ⟨some 50, none, none, .mv (.t 55)⟩])
  (.cond (.t 50) (.seq (.ops [⟨some 2, none, none, .mv (.c (.int .i64 1))⟩])
  (.ret))
  (.seq (.ops [⟨some 57, none, none, .fad 2 (.t 1)⟩,
    ⟨some 58, none, none, .ld false 1 (.t 57)⟩,
    ⟨some 59, none, none, .call (.c (.fn 113 [] [])) [.t 58, .c (.fn 118 [] [])]⟩,
    ⟨some 60, none, none, .not (.t 59)⟩,
    ⟨some 56, none, none, .mv (.t 60)⟩])
  (.cond (.t 56) (.seq (.ops [⟨some 2, none, none, .mv (.c (.int .i64 4))⟩])
  (.ret))
  (.skip))))))
  (.seq (.ops [⟨some 2, none, none, .mv (.c (.int .i64 0))⟩])
  (.ret)))))))⟩
def c55 : FD := ⟨29, [.tmp 4],
  .seq (.ops [⟨some 2, none, none, .box (.t 0)⟩,
    ⟨some 4, none, none, .mv (.c (.nils))⟩])
  (.seq (.ops [⟨some 5, none, none, .mv (.c (.nils))⟩])
  (.seq (.seq (.ops [⟨some 7, none, none, .mv (.t 1)⟩,
    ⟨some 8, none, none, .ar .add (.t 7) (.c (.int .i64 1))⟩,
    ⟨some 6, none, none, .mv (.t 8)⟩])
  (.block 0 (.loop (.seq (.seq (.ops [⟨some 9, none, none, .mv (.t 6)⟩,
    ⟨some 10, none, none, .fad 1 (.t 2)⟩,
    ⟨some 11, none, none, .ld false 1 (.t 10)⟩,
    ⟨some 12, none, none, .len (.t 11)⟩,
    ⟨some 13, none, none, .ar .lss (.t 9) (.t 12)⟩])
  (.cond (.t 13) (.skip)
  (.exit 0)))
  (.seq (.block 1 (.seq (.ops [⟨some 16, none, none, .fad 1 (.t 2)⟩,
    ⟨some 17, none, none, .ld false 1 (.t 16)⟩,
    ⟨some 18, none, none, .mv (.t 6)⟩,
    ⟨some 19, none, none, .iad 2 (.t 17) (.t 18)⟩,
    ⟨some 20, none, none, .fad 0 (.t 19)⟩,
    ⟨some 21, none, none, .ld false 1 (.t 20)⟩,
    ⟨some 22, none, none, .mv (.t 1)⟩,
    ⟨some 23, none, none, .ar .eql (.t 21) (.t 22)⟩])
  (.cond (.t 23) (.ops [⟨some 24, none, none, .mv (.t 5)⟩,
    ⟨some 25, none, none, .mv (.t 6)⟩,
    ⟨some 26, none, none, .bsl 1 [.int .i64 0] [(0, 1, .t 25)]⟩,
    ⟨some 27, none, none, .app 1 8 (.t 24) (.t 26)⟩,
    ⟨some 5, none, none, .mv (.t 27)⟩])
  (.skip))))
  (.ops [⟨some 14, none, none, .mv (.t 6)⟩,
    ⟨some 15, none, none, .ar .add (.t 14) (.c (.int .i64 1))⟩,
    ⟨some 6, none, none, .mv (.t 15)⟩]))))))
  (.seq (.ops [⟨some 28, none, none, .mv (.t 5)⟩,
    ⟨some 4, none, none, .mv (.t 28)⟩])
  (.ret))))⟩
def c56 : FD := ⟨19, [.tmp 4],
  .seq (.ops [⟨some 2, none, none, .box (.t 0)⟩,
    ⟨some 4, none, none, .mv (.c (.nils))⟩])
  (.seq (.ops [⟨some 5, none, none, .mv (.c (.nils))⟩])
  (.seq (.block 0 (.loop (.seq (.seq (.ops [⟨some 6, none, none, .mv (.t 1)⟩,
    ⟨some 7, none, none, .ar .geq (.t 6) (.c (.int .i64 0))⟩])
  (.cond (.t 7) (.skip)
  (.exit 0)))
  (.block 1 (.seq (.ops [⟨some 8, none, none, .mv (.t 5)⟩,
    ⟨some 9, none, none, .mv (.t 1)⟩,
    ⟨some 10, none, none, .bsl 1 [.int .i64 0] [(0, 1, .t 9)]⟩,
    ⟨some 11, none, none, .app 1 8 (.t 8) (.t 10)⟩,
    ⟨some 5, none, none, .mv (.t 11)⟩])
  (.ops [⟨some 12, none, none, .fad 1 (.t 2)⟩,
    ⟨some 13, none, none, .ld false 1 (.t 12)⟩,
    ⟨some 14, none, none, .mv (.t 1)⟩,
    ⟨some 15, none, none, .iad 2 (.t 13) (.t 14)⟩,
    ⟨some 16, none, none, .fad 0 (.t 15)⟩,
    ⟨some 17, none, none, .ld false 1 (.t 16)⟩,
    ⟨some 1, none, none, .mv (.t 17)⟩]))))))
  (.seq (.ops [⟨some 18, none, none, .mv (.t 5)⟩,
    ⟨some 4, none, none, .mv (.t 18)⟩])
  (.ret))))⟩
def c57 : FD := ⟨56, [.tmp 4, .tmp 5],
  .seq (.ops [⟨some 2, none, none, .box (.t 0)⟩,
    ⟨some 4, none, none, .mv (.c (.int .i64 0))⟩,
    ⟨some 5, none, none, .mv (.c (.int .i64 0))⟩])
  (.seq (.ops [⟨some 11, none, none, .fad 2 (.t 2)⟩,
    ⟨some 12, none, none, .ld false 1 (.t 11)⟩,
    ⟨some 13, none, none, .mv (.t 1)⟩,
    ⟨some 14, none, none, .iad 4 (.t 12) (.t 13)⟩,
    ⟨some 15, none, none, .ld true 4 (.t 14)⟩,
    ⟨some 6, none, none, .alc [.int .i64 0, .int .i64 0, .int .i64 0, .int .i64 0]⟩,
    ⟨none, none, none, .sto 4 (.t 6) (.t 15)⟩])
  (.seq (.ops [⟨some 7, none, none, .mv (.c (.int .i64 0))⟩])
  (.seq (.seq (.ops [⟨some 8, none, none, .mv (.c (.int .i64 8192))⟩])
  (.block 0 (.loop (.seq (.seq (.ops [⟨some 16, none, none, .mv (.t 8)⟩,
    ⟨some 17, none, none, .ar .gtr (.t 16) (.c (.int .i64 0))⟩])
  (.cond (.t 17) (.skip)
  (.exit 0)))
  (.seq (.block 1 (.seq (.ops [⟨some 20, none, none, .mv (.t 7)⟩,
    ⟨some 21, none, none, .mv (.t 8)⟩,
    ⟨some 22, none, none, .ar .add (.t 20) (.t 21)⟩,
    ⟨some 23, none, none, .ar .sub (.t 22) (.c (.int .i64 1))⟩,
    ⟨some 24, none, none, .fad 2 (.t 6)⟩,
    ⟨some 25, none, none, .fad 1 (.t 24)⟩,
    ⟨some 26, none, none, .ld false 1 (.t 25)⟩,
    ⟨some 27, none, none, .ar .add (.c (.int .i64 100)) (.t 26)⟩,
    ⟨some 28, none, none, .ar .mul (.t 23) (.t 27)⟩,
    ⟨some 29, none, none, .fad 1 (.t 6)⟩,
    ⟨some 30, none, none, .ld false 1 (.t 29)⟩,
    ⟨some 31, none, none, .fad 0 (.t 2)⟩,
    ⟨some 32, none, none, .ld false 1 (.t 31)⟩,
    ⟨some 33, none, none, .ar .sub (.t 30) (.t 32)⟩,
    ⟨some 34, none, none, .ar .mul (.c (.int .i64 100)) (.t 33)⟩,
    ⟨some 35, none, none, .ar .lss (.t 28) (.t 34)⟩])
  (.cond (.t 35) (.ops [⟨some 36, none, none, .mv (.t 7)⟩,
    ⟨some 37, none, none, .mv (.t 8)⟩,
    ⟨some 38, none, none, .ar .add (.t 36) (.t 37)⟩,
    ⟨some 7, none, none, .mv (.t 38)⟩])
  (.skip))))
  (.ops [⟨some 18, none, none, .mv (.t 8)⟩,
    ⟨some 19, none, none, .ar .quo (.t 18) (.c (.int .i64 2))⟩,
    ⟨some 8, none, none, .mv (.t 19)⟩]))))))
  (.seq (.ops [⟨some 9, none, none, .mv (.c (.int .i64 10000))⟩])
  (.seq (.seq (.ops [⟨some 39, none, none, .fad 1 (.t 6)⟩,
    ⟨some 40, none, none, .ld false 1 (.t 39)⟩,
    ⟨some 41, none, none, .fad 0 (.t 2)⟩,
    ⟨some 42, none, none, .ld false 1 (.t 41)⟩,
    ⟨some 43, none, none, .ar .add (.t 40) (.t 42)⟩,
    ⟨some 44, none, none, .ar .mul (.c (.int .i64 100)) (.t 43)⟩,
    ⟨some 45, none, none, .fad 2 (.t 6)⟩,
    ⟨some 46, none, none, .fad 0 (.t 45)⟩,
    ⟨some 47, none, none, .ld false 1 (.t 46)⟩,
    ⟨some 48, none, none, .ar .add (.c (.int .i64 100)) (.t 47)⟩,
    ⟨some 49, none, none, .ar .quo (.t 44) (.t 48)⟩,
    ⟨some 10, none, none, .mv (.t 49)⟩])
  (.seq (.ops [⟨some 50, none, none, .mv (.t 10)⟩,
    ⟨some 51, none, none, .mv (.t 9)⟩,
    ⟨some 52, none, none, .ar .lss (.t 50) (.t 51)⟩])
  (.cond (.t 52) (.ops [⟨some 53, none, none, .mv (.t 10)⟩,
    ⟨some 9, none, none, .mv (.t 53)⟩])
  (.skip))))
  (.seq (.ops [⟨some 54, none, none, .mv (.t 7)⟩,
    ⟨some 55, none, none, .mv (.t 9)⟩,
    ⟨some 4, none, none, .mv (.t 54)⟩,
    ⟨some 5, none, none, .mv (.t 55)⟩])
  (.ret)))))))⟩
def c58 : FD := ⟨20, [.tmp 4, .tmp 5],
  .seq (.ops [⟨some 2, none, none, .box (.t 0)⟩,
    ⟨some 4, none, none, .mv (.c (.nils))⟩,
    ⟨some 5, none, none, .mv (.c (.int .i64 0))⟩])
  (.seq (.ops [⟨some 9, none, none, .ld true 3 (.t 2)⟩,
    ⟨some 10, none, none, .mv (.t 1)⟩,
    ⟨some 11, none, none, .call (.c (.fn 98 [] [])) [.t 9, .t 10]⟩,
    ⟨some 8, none, none, .mv (.t 11)⟩,
    ⟨some 12, none, none, .ext (.t 8) 0⟩,
    ⟨some 13, none, none, .ext (.t 8) 1⟩,
    ⟨some 6, none, none, .mv (.t 12)⟩,
    ⟨some 7, none, none, .mv (.t 13)⟩])
  (.seq (.seq (.ops [⟨some 14, none, none, .mv (.t 7)⟩,
    ⟨some 15, none, none, .ar .neq (.t 14) (.c (.int .i64 0))⟩])
  (.cond (.t 15) (.seq (.ops [⟨some 16, none, none, .mv (.t 7)⟩,
    ⟨some 4, none, none, .mv (.c (.nils))⟩,
    ⟨some 5, none, none, .mv (.t 16)⟩])
  (.ret))
  (.skip)))
  (.seq (.ops [⟨some 17, none, none, .mv (.t 6)⟩,
    ⟨some 18, none, none, .mv (.t 1)⟩,
    ⟨some 19, none, none, .call (.c (.fn 119 [] [])) [.t 17, .t 18]⟩,
    ⟨some 4, none, none, .mv (.t 19)⟩,
    ⟨some 5, none, none, .mv (.c (.int .i64 0))⟩])
  (.ret))))⟩
def c61 : FD := ⟨9, [.tmp 4],
  .seq (.ops [⟨some 4, none, none, .mv (.c (.bool false))⟩])
  (.seq (.ops [⟨some 5, none, none, .mv (.t 0)⟩,
    ⟨some 6, none, none, .mv (.t 1)⟩,
    ⟨some 7, none, none, .call (.c (.fn 121 [] [])) [.t 5, .t 6]⟩,
    ⟨some 8, none, none, .ar .geq (.t 7) (.c (.int .i64 0))⟩,
    ⟨some 4, none, none, .mv (.t 8)⟩])
  (.ret))⟩
def c63 : FD := ⟨8, [.tmp 2],
  .seq (.ops [⟨some 2, none, none, .mv (.c (.nils))⟩])
  (.seq (.seq (.ops [⟨some 3, none, none, .mv (.t 0)⟩,
    ⟨some 4, none, none, .isn false (.t 3)⟩])
  (.cond (.t 4) (.seq (.ops [⟨some 2, none, none, .mv (.c (.nils))⟩])
  (.ret))
  (.skip)))
  (.seq (.ops [⟨some 5, none, none, .bsl 0 [] []⟩,
    ⟨some 6, none, none, .mv (.t 0)⟩,
    ⟨some 7, none, none, .app 1 8 (.t 5) (.t 6)⟩,
    ⟨some 2, none, none, .mv (.t 7)⟩])
  (.ret)))⟩
def c64 : FD := ⟨9, [.tmp 4],
  .seq (.ops [⟨some 4, none, none, .mv (.c (.bool false))⟩])
  (.seq (.ops [⟨some 5, none, none, .mv (.t 0)⟩,
    ⟨some 6, none, none, .mv (.t 1)⟩,
    ⟨some 7, none, none, .call (.c (.fn 122 [] [])) [.t 5, .t 6]⟩,
    ⟨some 8, none, none, .ar .geq (.t 7) (.c (.int .i64 0))⟩,
    ⟨some 4, none, none, .mv (.t 8)⟩])
  (.ret))⟩
def c66 : FD := ⟨8, [.tmp 2],
  .seq (.ops [⟨some 2, none, none, .mv (.c (.nils))⟩])
  (.seq (.ops [⟨some 3, none, none, .mv (.t 0)⟩,
    ⟨some 4, none, none, .len (.t 3)⟩,
    ⟨some 5, none, none, .msl 1 8 [.int .i64 0] (.c (.int .i64 0)) (.t 4)⟩,
    ⟨some 6, none, none, .mv (.t 0)⟩,
    ⟨some 7, none, none, .app 1 8 (.t 5) (.t 6)⟩,
    ⟨some 2, none, none, .mv (.t 7)⟩])
  (.ret))⟩
def c67 : FD := ⟨8, [.tmp 4],
  .seq (.ops [⟨some 4, none, none, .mv (.c (.bool false))⟩])
  (.seq (.ops [⟨some 5, none, none, .mv (.t 0)⟩,
    ⟨some 6, none, none, .mv (.t 1)⟩,
    ⟨some 7, none, none, .call (.c (.fn 123 [] [])) [.t 5, .t 6]⟩,
    ⟨some 4, none, none, .mv (.t 7)⟩])
  (.ret))⟩
def c72 : FD := ⟨28, [.cell 2 true 3],
  .seq (.ops [⟨some 2, none, none, .alc [.int .i64 0, .nils, .nils]⟩])
  (.seq (.ops [⟨some 4, none, none, .bld [.int .i64 0, .int .i64 0] [(0, 1, .c (.int .i64 10)), (1, 1, .c (.int .i64 10))]⟩,
    ⟨some 5, none, none, .bld [.int .i64 0, .int .i64 0, .int .i64 0, .int .i64 0] [(0, 1, .c (.int .i64 0)), (1, 1, .c (.int .i64 1100)), (2, 2, .t 4)]⟩,
    ⟨some 6, none, none, .bld [.int .i64 0, .int .i64 0] [(1, 1, .c (.int .i64 10))]⟩,
    ⟨some 7, none, none, .bld [.int .i64 0, .int .i64 0, .int .i64 0, .int .i64 0] [(0, 1, .c (.int .i64 2)), (1, 1, .c (.int .i64 400)), (2, 2, .t 6)]⟩,
    ⟨some 8, none, none, .bld [.int .i64 0, .int .i64 0] [(0, 1, .c (.int .i64 5)), (1, 1, .c (.int .i64 5))]⟩,
    ⟨some 9, none, none, .bld [.int .i64 0, .int .i64 0, .int .i64 0, .int .i64 0] [(0, 1, .c (.int .i64 4)), (1, 1, .c (.int .i64 500)), (2, 2, .t 8)]⟩,
    ⟨some 10, none, none, .bld [.int .i64 0, .int .i64 0, .int .i64 0, .int .i64 0] [(0, 1, .c (.int .i64 3)), (1, 1, .c (.int .i64 150))]⟩,
    ⟨some 11, none, none, .bld [.int .i64 0, .int .i64 0, .int .i64 0, .int .i64 0] [(0, 1, .c (.int .i64 5)), (1, 1, .c (.int .i64 40))]⟩,
    ⟨some 12, none, none, .bsl 5 [.int .i64 0, .int .i64 0, .int .i64 0, .int .i64 0, .int .i64 0, .int .i64 0, .int .i64 0, .int .i64 0, .int .i64 0, .int .i64 0, .int .i64 0, .int .i64 0, .int .i64 0, .int .i64 0, .int .i64 0, .int .i64 0, .int .i64 0, .int .i64 0, .int .i64 0, .int .i64 0] [(0, 4, .t 5), (4, 4, .t 7), (8, 4, .t 9), (12, 4, .t 10), (16, 4, .t 11)]⟩,
    ⟨some 3, none, none, .mv (.t 12)⟩])
  (.seq (.ops [⟨some 13, none, none, .bld [.int .i64 0, .int .i64 0] [(0, 1, .c (.int .i64 (-1)))]⟩,
    ⟨some 14, none, none, .bld [.int .i64 0, .int .i64 0] []⟩,
    ⟨some 15, none, none, .bld [.int .i64 0, .int .i64 0] []⟩,
    ⟨some 16, none, none, .bld [.int .i64 0, .int .i64 0] [(1, 1, .c (.int .i64 1))]⟩,
    ⟨some 17, none, none, .bld [.int .i64 0, .int .i64 0] [(0, 1, .c (.int .i64 1)), (1, 1, .c (.int .i64 2))]⟩,
    ⟨some 18, none, none, .bld [.int .i64 0, .int .i64 0] [(0, 1, .c (.int .i64 1)), (1, 1, .c (.int .i64 3))]⟩,
    ⟨some 19, none, none, .bsl 6 [.int .i64 0, .int .i64 0, .int .i64 0, .int .i64 0, .int .i64 0, .int .i64 0, .int .i64 0, .int .i64 0, .int .i64 0, .int .i64 0, .int .i64 0, .int .i64 0] [(0, 2, .t 13), (2, 2, .t 14), (4, 2, .t 15), (6, 2, .t 16), (8, 2, .t 17), (10, 2, .t 18)]⟩,
    ⟨some 20, none, none, .mv (.t 3)⟩,
    ⟨some 21, none, none, .mv (.t 0)⟩,
    ⟨some 22, none, none, .mv (.t 3)⟩,
    ⟨some 23, none, none, .len (.t 22)⟩,
    ⟨some 24, none, none, .mn [.t 21, .t 23]⟩,
    ⟨some 25, none, none, .mx [.c (.int .i64 0), .t 24]⟩,
    ⟨some 26, none, none, .slc 4 (.t 20) none (some (.t 25)) none⟩,
    ⟨some 27, none, none, .bld [.int .i64 0, .nils, .nils] [(0, 1, .c (.int .i64 2)), (1, 1, .t 19), (2, 1, .t 26)]⟩,
    ⟨none, none, none, .sto 3 (.t 2) (.t 27)⟩])
  (.ret)))⟩
def c73 : FD := ⟨8, [.tmp 2],
  .seq (.ops [⟨some 2, none, none, .mv (.c (.nils))⟩])
  (.seq (.ops [⟨some 3, none, none, .mv (.t 0)⟩,
    ⟨some 4, none, none, .len (.t 3)⟩,
    ⟨some 5, none, none, .msl 2 16 [.int .i64 0, .int .i64 0] (.c (.int .i64 0)) (.t 4)⟩,
    ⟨some 6, none, none, .mv (.t 0)⟩,
    ⟨some 7, none, none, .app 2 16 (.t 5) (.t 6)⟩,
    ⟨some 2, none, none, .mv (.t 7)⟩])
  (.ret))⟩
def c74 : FD := ⟨8, [.tmp 2],
  .seq (.ops [⟨some 2, none, none, .mv (.c (.nils))⟩])
  (.seq (.ops [⟨some 3, none, none, .mv (.t 0)⟩,
    ⟨some 4, none, none, .len (.t 3)⟩,
    ⟨some 5, none, none, .msl 4 32 [.int .i64 0, .int .i64 0, .int .i64 0, .int .i64 0] (.c (.int .i64 0)) (.t 4)⟩,
    ⟨some 6, none, none, .mv (.t 0)⟩,
    ⟨some 7, none, none, .app 4 32 (.t 5) (.t 6)⟩,
    ⟨some 2, none, none, .mv (.t 7)⟩])
  (.ret))⟩
def c75 : FD := ⟨15, [.tmp 6],
  .seq (.ops [⟨some 6, none, none, .mv (.c (.bool false))⟩])
  (.seq (.ops [⟨some 7, none, none, .mv (.t 0)⟩,
    ⟨some 8, none, none, .mv (.t 1)⟩,
    ⟨some 9, none, none, .ar .lss (.t 7) (.t 8)⟩,
    ⟨some 10, none, none, .mv (.t 9)⟩,
    ⟨some 11, some (10, false), none, .mv (.t 0)⟩,
    ⟨some 12, some (10, false), none, .mv (.t 2)⟩,
    ⟨some 13, some (10, false), none, .ar .gtr (.t 11) (.t 12)⟩,
    ⟨some 14, none, none, .pick (.t 10) (.c (.bool true)) (.t 13)⟩,
    ⟨some 6, none, none, .mv (.t 14)⟩])
  (.ret))⟩
def c78 : FD := ⟨9, [.tmp 2],
  .seq (.ops [⟨some 2, none, none, .mv (.c (.bool false))⟩])
  (.seq (.ops [⟨some 3, none, none, .mv (.t 0)⟩,
    ⟨some 4, none, none, .ar .geq (.t 3) (.c (.int .i64 0))⟩,
    ⟨some 5, none, none, .mv (.t 4)⟩,
    ⟨some 6, some (5, true), none, .mv (.t 0)⟩,
    ⟨some 7, some (5, true), none, .ar .leq (.t 6) (.c (.int .i64 3))⟩,
    ⟨some 8, none, none, .pick (.t 5) (.t 7) (.c (.bool false))⟩,
    ⟨some 2, none, none, .mv (.t 8)⟩])
  (.ret))⟩
def c79 : FD := ⟨29, [.tmp 2, .cell 3 true 24, .tmp 4],
  .seq (.ops [⟨some 1, none, none, .box (.t 0)⟩,
    ⟨some 2, none, none, .mv (.c (.nilp))⟩,
    ⟨some 3, none, none, .alc [.int .i64 0, .int .i64 0, .int .i64 0, .int .i64 0, .int .i64 0, .int .i64 0, .int .i64 0, .int .i64 0, .int .i64 0, .int .i64 0, .int .i64 0, .int .i64 0, .int .i64 0, .int .i64 0, .int .i64 0, .int .i64 0, .int .i64 0, .int .i64 0, .int .i64 0, .int .i64 0, .int .i64 0, .int .i64 0, .int .i64 0, .int .i64 0]⟩,
    ⟨some 4, none, none, .mv (.c (.int .i64 0))⟩])
  (.seq (.ops [⟨some 10, none, none, .ld true 3 (.t 1)⟩,
    ⟨some 11, none, none, .call (.c (.fn 87 [] [])) [.t 10]⟩,
    ⟨some 9, none, none, .mv (.t 11)⟩,
    ⟨some 12, none, none, .ext (.t 9) 0⟩,
    ⟨some 13, none, none, .ext (.t 9) 1⟩,
    ⟨some 5, none, none, .mv (.t 12)⟩,
    ⟨some 6, none, none, .mv (.t 13)⟩])
  (.seq (.seq (.ops [⟨some 14, none, none, .mv (.t 6)⟩,
    ⟨some 15, none, none, .ar .neq (.t 14) (.c (.int .i64 0))⟩])
  (.cond (.t 15) (.seq (.ops [⟨some 16, none, none, .bld [.int .i64 0, .int .i64 0, .int .i64 0, .int .i64 0, .int .i64 0, .int .i64 0, .int .i64 0, .int .i64 0, .int .i64 0, .int .i64 0, .int .i64 0, .int .i64 0, .int .i64 0, .int .i64 0, .int .i64 0, .int .i64 0, .int .i64 0, .int .i64 0, .int .i64 0, .int .i64 0, .int .i64 0, .int .i64 0, .int .i64 0, .int .i64 0] []⟩,
    ⟨some 17, none, none, .mv (.t 6)⟩,
    ⟨some 2, none, none, .mv (.c (.nilp))⟩,
    ⟨none, none, none, .sto 24 (.t 3) (.t 16)⟩,
    ⟨some 4, none, none, .mv (.t 17)⟩])
  (.ret))
  (.skip)))
  (.seq (.ops [⟨some 19, none, none, .mv (.t 5)⟩,
    ⟨some 20, none, none, .call (.c (.fn 125 [] [])) []⟩,
    ⟨some 21, none, none, .call (.c (.fn 124 [] [])) [.t 19, .t 20]⟩,
    ⟨some 18, none, none, .mv (.t 21)⟩,
    ⟨some 22, none, none, .ext (.t 18) 0⟩,
    ⟨some 23, none, none, .ext (.t 18) 1⟩,
    ⟨some 7, none, none, .alc [.int .i64 0, .int .i64 0, .int .i64 0, .int .i64 0, .int .i64 0, .int .i64 0, .int .i64 0, .int .i64 0, .int .i64 0, .int .i64 0, .int .i64 0, .int .i64 0, .int .i64 0, .int .i64 0, .int .i64 0, .int .i64 0, .int .i64 0, .int .i64 0, .int .i64 0, .int .i64 0, .int .i64 0, .int .i64 0, .int .i64 0, .int .i64 0]⟩,
    ⟨none, none, none, .sto 24 (.t 7) (.t 22)⟩,
    ⟨some 8, none, none, .mv (.t 23)⟩])
  (.seq (.seq (.ops [⟨some 24, none, none, .mv (.t 8)⟩,
    ⟨some 25, none, none, .not (.t 24)⟩])
  (.cond (.t 25) (.seq (.ops [⟨some 26, none, none, .bld [.int .i64 0, .int .i64 0, .int .i64 0, .int .i64 0, .int .i64 0, .int .i64 0, .int .i64 0, .int .i64 0, .int .i64 0, .int .i64 0, .int .i64 0, .int .i64 0, .int .i64 0, .int .i64 0, .int .i64 0, .int .i64 0, .int .i64 0, .int .i64 0, .int .i64 0, .int .i64 0, .int .i64 0, .int .i64 0, .int .i64 0, .int .i64 0] []⟩,
    ⟨some 2, none, none, .mv (.c (.nilp))⟩,
    ⟨none, none, none, .sto 24 (.t 3) (.t 26)⟩,
    ⟨some 4, none, none, .mv (.c (.int .i64 7))⟩])
  (.ret))
  (.skip)))
  (.seq (.dops [⟨some 27, none, none, .mv (.t 5)⟩,
    ⟨some 28, none, some (0, 0), .ld true 24 (.t 7)⟩,
    ⟨some 2, none, none, .mv (.t 27)⟩,
    ⟨none, none, none, .sto 24 (.t 3) (.t 28)⟩,
    ⟨some 4, none, none, .mv (.c (.int .i64 0))⟩])
  (.ret))))))⟩
def c80 : FD := ⟨84, [.tmp 8, .tmp 9],
  .seq (.ops [⟨some 5, none, none, .box (.t 1)⟩,
    ⟨some 8, none, none, .mv (.c (.int .i64 0))⟩,
    ⟨some 9, none, none, .mv (.c (.int .i64 0))⟩])
  (.seq (.seq (.ops [⟨some 14, none, none, .mv (.t 0)⟩,
    ⟨some 15, none, none, .chk (.t 14)⟩,
    ⟨some 16, none, none, .fad 3 (.t 15)⟩,
    ⟨some 17, none, none, .ld false 1 (.t 16)⟩,
    ⟨some 18, none, none, .mv (.t 2)⟩,
    ⟨some 19, none, none, .lkp none (.nils) (.t 17) (.t 18) false⟩,
    ⟨some 20, none, none, .len (.t 19)⟩,
    ⟨some 21, none, none, .ar .eql (.t 20) (.c (.int .i64 0))⟩])
  (.cond (.t 21) (.seq (.seq (.ops [⟨some 22, none, none, .mv (.t 3)⟩,
    ⟨some 23, none, none, .mv (.t 0)⟩,
    ⟨some 24, none, none, .chk (.t 23)⟩,
    ⟨some 25, none, none, .fad 0 (.t 24)⟩,
    ⟨some 26, none, none, .fad 1 (.t 25)⟩,
    ⟨some 27, none, none, .ld false 1 (.t 26)⟩,
    ⟨some 28, none, none, .mv (.t 2)⟩,
    ⟨some 29, none, none, .iad 2 (.t 27) (.t 28)⟩,
    ⟨some 30, none, none, .fad 1 (.t 29)⟩,
    ⟨some 31, none, none, .ld false 1 (.t 30)⟩,
    ⟨some 32, none, none, .call (.t 22) [.t 31]⟩])
  (.cond (.t 32) (.seq (.ops [⟨some 33, none, none, .mv (.t 2)⟩,
    ⟨some 34, none, none, .iaa 12 2 (.t 5) (.t 33)⟩,
    ⟨some 35, none, none, .fad 0 (.t 34)⟩,
    ⟨some 36, none, none, .ld false 1 (.t 35)⟩,
    ⟨some 8, none, none, .mv (.t 36)⟩,
    ⟨some 9, none, none, .mv (.c (.int .i64 0))⟩])
  (.ret))
  (.skip)))
  (.seq (.dops [⟨some 37, none, none, .mv (.t 2)⟩,
    ⟨some 38, none, none, .iaa 12 2 (.t 5) (.t 37)⟩,
    ⟨some 39, none, none, .fad 1 (.t 38)⟩,
    ⟨some 40, none, some (0, 0), .ld false 1 (.t 39)⟩,
    ⟨some 8, none, none, .mv (.c (.int .i64 0))⟩,
    ⟨some 9, none, none, .mv (.t 40)⟩])
  (.ret)))
  (.skip)))
  (.seq (.seq (.ops [⟨some 41, none, none, .mv (.t 0)⟩,
    ⟨some 42, none, none, .chk (.t 41)⟩,
    ⟨some 43, none, none, .fad 3 (.t 42)⟩,
    ⟨some 44, none, none, .ld false 1 (.t 43)⟩,
    ⟨some 45, none, none, .mv (.t 2)⟩,
    ⟨some 46, none, none, .lkp none (.nils) (.t 44) (.t 45) false⟩,
    ⟨some 47, none, none, .len (.t 46)⟩,
    ⟨some 48, none, none, .mv (.c (.int .i64 0))⟩])
  (.block 0 (.loop (.seq (.ops [⟨some 49, none, none, .ar .lss (.t 48) (.t 47)⟩])
  (.seq (.cond (.t 49) (.skip)
  (.exit 0))
  (.seq (.block 1 (.seq (.ops [⟨some 50, none, none, .iad 1 (.t 46) (.t 48)⟩,
    ⟨some 51, none, none, .ld false 1 (.t 50)⟩,
    ⟨some 11, none, none, .mv (.t 51)⟩])
  (.seq (.ops [⟨some 53, none, none, .mv (.t 0)⟩,
    ⟨some 54, none, none, .ld true 24 (.t 5)⟩,
    ⟨some 55, none, none, .mv (.t 11)⟩,
    ⟨some 56, none, none, .mv (.t 3)⟩,
    ⟨some 57, none, none, .call (.c (.fn 80 [] [])) [.t 53, .t 54, .t 55, .t 56]⟩,
    ⟨some 52, none, none, .mv (.t 57)⟩,
    ⟨some 58, none, none, .ext (.t 52) 0⟩,
    ⟨some 59, none, none, .ext (.t 52) 1⟩,
    ⟨some 12, none, none, .mv (.t 58)⟩,
    ⟨some 13, none, none, .mv (.t 59)⟩])
  (.ops [⟨some 60, none, none, .mv (.t 8)⟩,
    ⟨some 61, none, none, .mv (.t 12)⟩,
    ⟨some 62, none, none, .ar .add (.t 60) (.t 61)⟩,
    ⟨some 63, none, none, .mv (.t 9)⟩,
    ⟨some 64, none, none, .mv (.t 13)⟩,
    ⟨some 65, none, none, .ar .add (.t 63) (.t 64)⟩,
    ⟨some 8, none, none, .mv (.t 62)⟩,
    ⟨some 9, none, none, .mv (.t 65)⟩]))))
  (.ops [⟨some 66, none, none, .ar .add (.t 48) (.c (.int .i64 1))⟩,
    ⟨some 48, none, none, .mv (.t 66)⟩])))))))
  (.seq (.dops [⟨some 67, none, none, .mv (.t 8)⟩,
    ⟨some 68, none, none, .mv (.t 2)⟩,
    ⟨some 69, none, none, .iaa 12 2 (.t 5) (.t 68)⟩,
    ⟨some 70, none, none, .fad 0 (.t 69)⟩,
    ⟨some 71, none, some (0, 1), .ld false 1 (.t 70)⟩,
    ⟨some 72, none, none, .mv (.t 9)⟩,
    ⟨some 73, none, none, .ar .sub (.t 71) (.t 72)⟩,
    ⟨some 74, none, none, .mx [.t 67, .t 73]⟩,
    ⟨some 75, none, none, .mv (.t 9)⟩,
    ⟨some 76, none, none, .mv (.t 2)⟩,
    ⟨some 77, none, none, .iaa 12 2 (.t 5) (.t 76)⟩,
    ⟨some 78, none, none, .fad 1 (.t 77)⟩,
    ⟨some 79, none, some (0, 0), .ld false 1 (.t 78)⟩,
    ⟨some 80, none, none, .mv (.t 8)⟩,
    ⟨some 81, none, none, .ar .sub (.t 79) (.t 80)⟩,
    ⟨some 82, none, none, .bsl 1 [.int .i64 0] [(0, 1, .t 81)]⟩,
    ⟨some 83, none, none, .call (.c (.fn 131 [] [])) [.t 75, .t 82]⟩,
    ⟨some 8, none, none, .mv (.t 74)⟩,
    ⟨some 9, none, none, .mv (.t 83)⟩])
  (.ret))))⟩
def c81 : FD := ⟨7, [.tmp 3],
  .seq (.ops [⟨some 3, none, none, .mv (.c (.bool false))⟩])
  (.seq (.ops [⟨some 4, none, none, .mv (.t 0)⟩,
    ⟨some 5, none, none, .ld false 1 (.t 1)⟩,
    ⟨some 6, none, none, .ar .eql (.t 4) (.t 5)⟩,
    ⟨some 3, none, none, .mv (.t 6)⟩])
  (.ret))⟩
def c82 : FD := ⟨7, [.tmp 3],
  .seq (.ops [⟨some 3, none, none, .mv (.c (.bool false))⟩])
  (.seq (.ops [⟨some 4, none, none, .mv (.t 0)⟩,
    ⟨some 5, none, none, .ld false 1 (.t 1)⟩,
    ⟨some 6, none, none, .ar .neq (.t 4) (.t 5)⟩,
    ⟨some 3, none, none, .mv (.t 6)⟩])
  (.ret))⟩
def c83 : FD := ⟨8, [.tmp 4],
  .seq (.ops [⟨some 4, none, none, .mv (.c (.bool false))⟩])
  (.seq (.ops [⟨some 5, none, none, .mv (.t 0)⟩,
    ⟨some 6, none, none, .mv (.t 1)⟩,
    ⟨some 7, none, none, .call (.c (.fn 132 [] [])) [.t 5, .t 6]⟩,
    ⟨some 4, none, none, .mv (.t 7)⟩])
  (.ret))⟩
def c84 : FD := ⟨8, [.tmp 4],
  .seq (.ops [⟨some 4, none, none, .mv (.c (.bool false))⟩])
  (.seq (.ops [⟨some 5, none, none, .mv (.t 0)⟩,
    ⟨some 6, none, none, .mv (.t 1)⟩,
    ⟨some 7, none, none, .call (.c (.fn 133 [] [])) [.t 5, .t 6]⟩,
    ⟨some 4, none, none, .mv (.t 7)⟩])
  (.ret))⟩
def c87 : FD := ⟨43, [.tmp 2, .tmp 3],
  .seq (.ops [⟨some 1, none, none, .box (.t 0)⟩,
    ⟨some 2, none, none, .mv (.c (.nilp))⟩,
    ⟨some 3, none, none, .mv (.c (.int .i64 0))⟩])
  (.seq (.seq (.ops [⟨some 8, none, none, .ld true 3 (.t 1)⟩,
    ⟨some 9, none, none, .call (.c (.fn 54 [] [])) [.t 8]⟩,
    ⟨some 4, none, none, .mv (.t 9)⟩])
  (.seq (.ops [⟨some 10, none, none, .mv (.t 4)⟩,
    ⟨some 11, none, none, .ar .neq (.t 10) (.c (.int .i64 0))⟩])
  (.cond (.t 11) (.seq (.ops [⟨some 12, none, none, .mv (.t 4)⟩,
    ⟨some 2, none, none, .mv (.c (.nilp))⟩,
    ⟨some 3, none, none, .mv (.t 12)⟩])
  (.ret))
  (.skip))))
  (.seq (.ops [⟨some 13, none, none, .ld true 3 (.t 1)⟩,
    ⟨some 14, none, none, .mkm⟩,
    ⟨some 15, none, none, .bld [.int .i64 0, .nils, .nils, .nilm] [(0, 3, .t 13), (3, 1, .t 14)]⟩,
    ⟨some 16, none, none, .box (.t 15)⟩,
    ⟨some 5, none, none, .mv (.t 16)⟩])
  (.seq (.seq (.ops [⟨some 17, none, none, .fad 1 (.t 1)⟩,
    ⟨some 18, none, none, .ld false 1 (.t 17)⟩,
    ⟨some 19, none, none, .len (.t 18)⟩,
    ⟨some 20, none, none, .mv (.c (.int .i64 0))⟩])
  (.block 0 (.loop (.seq (.ops [⟨some 21, none, none, .ar .lss (.t 20) (.t 19)⟩])
  (.seq (.cond (.t 21) (.skip)
  (.exit 0))
  (.seq (.block 1 (.seq (.ops [⟨some 22, none, none, .mv (.t 20)⟩,
    ⟨some 23, none, none, .iad 2 (.t 18) (.t 20)⟩,
    ⟨some 24, none, none, .ld true 2 (.t 23)⟩,
    ⟨some 7, none, none, .alc [.int .i64 0, .int .i64 0]⟩,
    ⟨some 6, none, none, .mv (.t 22)⟩,
    ⟨none, none, none, .sto 2 (.t 7) (.t 24)⟩])
  (.dops [⟨some 25, none, none, .mv (.t 5)⟩,
    ⟨some 26, none, none, .chk (.t 25)⟩,
    ⟨some 27, none, none, .fad 3 (.t 26)⟩,
    ⟨some 28, none, some (0, 1), .ld false 1 (.t 27)⟩,
    ⟨some 29, none, none, .fad 0 (.t 7)⟩,
    ⟨some 30, none, some (0, 1), .ld false 1 (.t 29)⟩,
    ⟨some 31, none, none, .mv (.t 5)⟩,
    ⟨some 32, none, none, .chk (.t 31)⟩,
    ⟨some 33, none, none, .fad 3 (.t 32)⟩,
    ⟨some 34, none, some (0, 0), .ld false 1 (.t 33)⟩,
    ⟨some 35, none, none, .fad 0 (.t 7)⟩,
    ⟨some 36, none, some (0, 0), .ld false 1 (.t 35)⟩,
    ⟨some 37, none, some (0, 0), .lkp none (.nils) (.t 34) (.t 36) false⟩,
    ⟨some 38, none, none, .mv (.t 6)⟩,
    ⟨some 39, none, none, .bsl 1 [.int .i64 0] [(0, 1, .t 38)]⟩,
    ⟨some 40, none, none, .app 1 8 (.t 37) (.t 39)⟩,
    ⟨none, none, none, .mup none (.t 28) (.t 30) (.t 40)⟩])))
  (.ops [⟨some 41, none, none, .ar .add (.t 20) (.c (.int .i64 1))⟩,
    ⟨some 20, none, none, .mv (.t 41)⟩])))))))
  (.seq (.ops [⟨some 42, none, none, .mv (.t 5)⟩,
    ⟨some 2, none, none, .mv (.t 42)⟩,
    ⟨some 3, none, none, .mv (.c (.int .i64 0))⟩])
  (.ret)))))⟩
def c88 : FD := ⟨64, [.cell 4 true 2],
  .seq (.ops [⟨some 4, none, none, .alc [.int .i64 0, .nils]⟩])
  (.seq (.ops [⟨some 5, none, none, .mv (.c (.nils))⟩])
  (.seq (.seq (.ops [⟨some 12, none, none, .mv (.t 0)⟩,
    ⟨some 13, none, none, .chk (.t 12)⟩,
    ⟨some 14, none, none, .fad 3 (.t 13)⟩,
    ⟨some 15, none, none, .ld false 1 (.t 14)⟩,
    ⟨some 16, none, none, .mv (.t 1)⟩,
    ⟨some 17, none, none, .lkp none (.nils) (.t 15) (.t 16) false⟩,
    ⟨some 18, none, none, .len (.t 17)⟩,
    ⟨some 19, none, none, .mv (.c (.int .i64 0))⟩])
  (.block 0 (.loop (.seq (.ops [⟨some 20, none, none, .ar .lss (.t 19) (.t 18)⟩])
  (.seq (.cond (.t 20) (.skip)
  (.exit 0))
  (.seq (.block 1 (.seq (.ops [⟨some 21, none, none, .iad 1 (.t 17) (.t 19)⟩,
    ⟨some 22, none, none, .ld false 1 (.t 21)⟩,
    ⟨some 7, none, none, .mv (.t 22)⟩])
  (.ops [⟨some 23, none, none, .mv (.t 5)⟩,
    ⟨some 24, none, none, .mv (.t 0)⟩,
    ⟨some 25, none, none, .mv (.t 7)⟩,
    ⟨some 26, none, none, .call (.c (.fn 88 [] [])) [.t 24, .t 25]⟩,
    ⟨some 27, none, none, .bsl 1 [.int .i64 0, .nils] [(0, 2, .t 26)]⟩,
    ⟨some 28, none, none, .app 2 32 (.t 23) (.t 27)⟩,
    ⟨some 5, none, none, .mv (.t 28)⟩])))
  (.ops [⟨some 29, none, none, .ar .add (.t 19) (.c (.int .i64 1))⟩,
    ⟨some 19, none, none, .mv (.t 29)⟩])))))))
  (.seq (.ops [⟨some 30, none, none, .mv (.t 5)⟩,
    ⟨some 31, none, none, .call (.c (.fn 134 [] [])) [.t 30]⟩,
    ⟨some 8, none, none, .alc [.int .i64 0, .nils]⟩,
    ⟨none, none, none, .sto 2 (.t 8) (.t 31)⟩])
  (.seq (.seq (.ops [⟨some 32, none, none, .mv (.t 0)⟩,
    ⟨some 33, none, none, .chk (.t 32)⟩,
    ⟨some 34, none, none, .fad 0 (.t 33)⟩,
    ⟨some 35, none, none, .fad 2 (.t 34)⟩,
    ⟨some 36, none, none, .ld false 1 (.t 35)⟩,
    ⟨some 37, none, none, .len (.t 36)⟩,
    ⟨some 38, none, none, .mv (.c (.int .i64 0))⟩])
  (.block 2 (.loop (.seq (.ops [⟨some 39, none, none, .ar .lss (.t 38) (.t 37)⟩])
  (.seq (.cond (.t 39) (.skip)
  (.exit 2))
  (.seq (.block 3 (.seq (.ops [⟨some 40, none, none, .mv (.t 38)⟩,
    ⟨some 41, none, none, .iad 4 (.t 36) (.t 38)⟩,
    ⟨some 42, none, none, .ld true 4 (.t 41)⟩,
    ⟨some 10, none, none, .alc [.int .i64 0, .int .i64 0, .int .i64 0, .int .i64 0]⟩,
    ⟨some 9, none, none, .mv (.t 40)⟩,
    ⟨none, none, none, .sto 4 (.t 10) (.t 42)⟩])
  (.seq (.ops [⟨some 43, none, none, .mv (.t 0)⟩,
    ⟨some 44, none, none, .mv (.t 9)⟩,
    ⟨some 45, none, none, .call (.c (.fn 94 [] [])) [.t 43, .t 44]⟩,
    ⟨some 11, none, none, .alc [.int .i64 0, .int .i64 0]⟩,
    ⟨none, none, none, .sto 2 (.t 11) (.t 45)⟩])
  (.seq (.ops [⟨some 46, none, none, .fad 0 (.t 10)⟩,
    ⟨some 47, none, none, .ld false 1 (.t 46)⟩,
    ⟨some 48, none, none, .mv (.t 1)⟩,
    ⟨some 49, none, none, .ar .eql (.t 47) (.t 48)⟩,
    ⟨some 50, none, none, .mv (.t 49)⟩,
    ⟨some 51, some (50, true), none, .fad 0 (.t 11)⟩,
    ⟨some 52, some (50, true), none, .ld false 1 (.t 51)⟩,
    ⟨some 53, some (50, true), none, .fad 0 (.t 8)⟩,
    ⟨some 54, some (50, true), none, .ld false 1 (.t 53)⟩,
    ⟨some 55, some (50, true), none, .ar .gtr (.t 52) (.t 54)⟩,
    ⟨some 56, none, none, .pick (.t 50) (.t 55) (.c (.bool false))⟩])
  (.cond (.t 56) (.ops [⟨some 57, none, none, .fad 0 (.t 11)⟩,
    ⟨some 58, none, none, .ld false 1 (.t 57)⟩,
    ⟨some 59, none, none, .mv (.t 9)⟩,
    ⟨some 60, none, none, .bsl 1 [.int .i64 0] [(0, 1, .t 59)]⟩,
    ⟨some 61, none, none, .bld [.int .i64 0, .nils] [(0, 1, .t 58), (1, 1, .t 60)]⟩,
    ⟨none, none, none, .sto 2 (.t 8) (.t 61)⟩])
  (.skip))))))
  (.ops [⟨some 62, none, none, .ar .add (.t 38) (.c (.int .i64 1))⟩,
    ⟨some 38, none, none, .mv (.t 62)⟩])))))))
  (.seq (.ops [⟨some 63, none, none, .ld true 2 (.t 8)⟩,
    ⟨none, none, none, .sto 2 (.t 4) (.t 63)⟩])
  (.ret))))))⟩
def c89 : FD := ⟨81, [.cell 4 true 2],
  .seq (.ops [⟨some 4, none, none, .alc [.int .i64 0, .nils]⟩])
  (.seq (.ops [⟨some 13, none, none, .bld [.int .i64 0, .nils] [(0, 1, .c (.int .i64 10000))]⟩,
    ⟨some 5, none, none, .alc [.int .i64 0, .nils]⟩,
    ⟨none, none, none, .sto 2 (.t 5) (.t 13)⟩])
  (.seq (.ops [⟨some 6, none, none, .mv (.c (.nils))⟩])
  (.seq (.seq (.ops [⟨some 14, none, none, .mv (.t 0)⟩,
    ⟨some 15, none, none, .chk (.t 14)⟩,
    ⟨some 16, none, none, .fad 3 (.t 15)⟩,
    ⟨some 17, none, none, .ld false 1 (.t 16)⟩,
    ⟨some 18, none, none, .mv (.t 1)⟩,
    ⟨some 19, none, none, .lkp none (.nils) (.t 17) (.t 18) false⟩,
    ⟨some 20, none, none, .len (.t 19)⟩,
    ⟨some 21, none, none, .mv (.c (.int .i64 0))⟩])
  (.block 0 (.loop (.seq (.ops [⟨some 22, none, none, .ar .lss (.t 21) (.t 20)⟩])
  (.seq (.cond (.t 22) (.skip)
  (.exit 0))
  (.seq (.block 1 (.seq (.ops [⟨some 23, none, none, .iad 1 (.t 19) (.t 21)⟩,
    ⟨some 24, none, none, .ld false 1 (.t 23)⟩,
    ⟨some 8, none, none, .mv (.t 24)⟩])
  (.ops [⟨some 25, none, none, .mv (.t 6)⟩,
    ⟨some 26, none, none, .mv (.t 0)⟩,
    ⟨some 27, none, none, .mv (.t 8)⟩,
    ⟨some 28, none, none, .call (.c (.fn 89 [] [])) [.t 26, .t 27]⟩,
    ⟨some 29, none, none, .bsl 1 [.int .i64 0, .nils] [(0, 2, .t 28)]⟩,
    ⟨some 30, none, none, .app 2 32 (.t 25) (.t 29)⟩,
    ⟨some 6, none, none, .mv (.t 30)⟩])))
  (.ops [⟨some 31, none, none, .ar .add (.t 21) (.c (.int .i64 1))⟩,
    ⟨some 21, none, none, .mv (.t 31)⟩])))))))
  (.seq (.seq (.ops [⟨some 32, none, none, .mv (.t 6)⟩,
    ⟨some 33, none, none, .call (.c (.fn 134 [] [])) [.t 32]⟩,
    ⟨some 9, none, none, .alc [.int .i64 0, .nils]⟩,
    ⟨none, none, none, .sto 2 (.t 9) (.t 33)⟩])
  (.seq (.ops [⟨some 34, none, none, .mv (.t 6)⟩,
    ⟨some 35, none, none, .len (.t 34)⟩,
    ⟨some 36, none, none, .ar .gtr (.t 35) (.c (.int .i64 0))⟩,
    ⟨some 37, none, none, .mv (.t 36)⟩,
    ⟨some 38, some (37, true), none, .mv (.t 6)⟩,
    ⟨some 39, some (37, true), none, .call (.c (.fn 135 [] [])) [.t 38, .c (.fn 136 [] [])]⟩,
    ⟨some 40, none, none, .pick (.t 37) (.t 39) (.c (.bool false))⟩,
    ⟨some 41, none, none, .mv (.t 40)⟩,
    ⟨some 42, some (41, true), none, .fad 0 (.t 9)⟩,
    ⟨some 43, some (41, true), none, .ld false 1 (.t 42)⟩,
    ⟨some 44, some (41, true), none, .fad 0 (.t 5)⟩,
    ⟨some 45, some (41, true), none, .ld false 1 (.t 44)⟩,
    ⟨some 46, some (41, true), none, .ar .lss (.t 43) (.t 45)⟩,
    ⟨some 47, none, none, .pick (.t 41) (.t 46) (.c (.bool false))⟩])
  (.cond (.t 47) (.ops [⟨some 48, none, none, .ld true 2 (.t 9)⟩,
    ⟨none, none, none, .sto 2 (.t 5) (.t 48)⟩])
  (.skip))))
  (.seq (.seq (.ops [⟨some 49, none, none, .mv (.t 0)⟩,
    ⟨some 50, none, none, .chk (.t 49)⟩,
    ⟨some 51, none, none, .fad 0 (.t 50)⟩,
    ⟨some 52, none, none, .fad 2 (.t 51)⟩,
    ⟨some 53, none, none, .ld false 1 (.t 52)⟩,
    ⟨some 54, none, none, .len (.t 53)⟩,
    ⟨some 55, none, none, .mv (.c (.int .i64 0))⟩])
  (.block 2 (.loop (.seq (.ops [⟨some 56, none, none, .ar .lss (.t 55) (.t 54)⟩])
  (.seq (.cond (.t 56) (.skip)
  (.exit 2))
  (.seq (.block 3 (.seq (.ops [⟨some 57, none, none, .mv (.t 55)⟩,
    ⟨some 58, none, none, .iad 4 (.t 53) (.t 55)⟩,
    ⟨some 59, none, none, .ld true 4 (.t 58)⟩,
    ⟨some 11, none, none, .alc [.int .i64 0, .int .i64 0, .int .i64 0, .int .i64 0]⟩,
    ⟨some 10, none, none, .mv (.t 57)⟩,
    ⟨none, none, none, .sto 4 (.t 11) (.t 59)⟩])
  (.seq (.ops [⟨some 60, none, none, .mv (.t 0)⟩,
    ⟨some 61, none, none, .mv (.t 10)⟩,
    ⟨some 62, none, none, .call (.c (.fn 94 [] [])) [.t 60, .t 61]⟩,
    ⟨some 12, none, none, .alc [.int .i64 0, .int .i64 0]⟩,
    ⟨none, none, none, .sto 2 (.t 12) (.t 62)⟩])
  (.seq (.ops [⟨some 63, none, none, .fad 0 (.t 11)⟩,
    ⟨some 64, none, none, .ld false 1 (.t 63)⟩,
    ⟨some 65, none, none, .mv (.t 1)⟩,
    ⟨some 66, none, none, .ar .eql (.t 64) (.t 65)⟩,
    ⟨some 67, none, none, .mv (.t 66)⟩,
    ⟨some 68, some (67, true), none, .fad 1 (.t 12)⟩,
    ⟨some 69, some (67, true), none, .ld false 1 (.t 68)⟩,
    ⟨some 70, some (67, true), none, .fad 0 (.t 5)⟩,
    ⟨some 71, some (67, true), none, .ld false 1 (.t 70)⟩,
    ⟨some 72, some (67, true), none, .ar .lss (.t 69) (.t 71)⟩,
    ⟨some 73, none, none, .pick (.t 67) (.t 72) (.c (.bool false))⟩])
  (.cond (.t 73) (.ops [⟨some 74, none, none, .fad 1 (.t 12)⟩,
    ⟨some 75, none, none, .ld false 1 (.t 74)⟩,
    ⟨some 76, none, none, .mv (.t 10)⟩,
    ⟨some 77, none, none, .bsl 1 [.int .i64 0] [(0, 1, .t 76)]⟩,
    ⟨some 78, none, none, .bld [.int .i64 0, .nils] [(0, 1, .t 75), (1, 1, .t 77)]⟩,
    ⟨none, none, none, .sto 2 (.t 5) (.t 78)⟩])
  (.skip))))))
  (.ops [⟨some 79, none, none, .ar .add (.t 55) (.c (.int .i64 1))⟩,
    ⟨some 55, none, none, .mv (.t 79)⟩])))))))
  (.seq (.ops [⟨some 80, none, none, .ld true 2 (.t 5)⟩,
    ⟨none, none, none, .sto 2 (.t 4) (.t 80)⟩])
  (.ret)))))))⟩
def c90 : FD := ⟨11, [.tmp 4],
  .seq (.ops [⟨some 2, none, none, .box (.t 0)⟩,
    ⟨some 4, none, none, .mv (.c (.bool false))⟩])
  (.seq (.ops [⟨some 5, none, none, .mv (.t 1)⟩,
    ⟨some 6, none, none, .fad 2 (.t 2)⟩,
    ⟨some 7, none, none, .ld false 1 (.t 6)⟩,
    ⟨some 8, none, none, .len (.t 7)⟩,
    ⟨some 9, none, none, .ar .sub (.t 8) (.c (.int .i64 1))⟩,
    ⟨some 10, none, none, .call (.c (.fn 112 [] [])) [.t 5, .c (.int .i64 0), .t 9]⟩,
    ⟨some 4, none, none, .mv (.t 10)⟩])
  (.ret))⟩
def c91 : FD := ⟨11, [.tmp 4],
  .seq (.ops [⟨some 2, none, none, .box (.t 0)⟩,
    ⟨some 4, none, none, .mv (.c (.bool false))⟩])
  (.seq (.ops [⟨some 5, none, none, .mv (.t 1)⟩,
    ⟨some 6, none, none, .fad 1 (.t 2)⟩,
    ⟨some 7, none, none, .ld false 1 (.t 6)⟩,
    ⟨some 8, none, none, .len (.t 7)⟩,
    ⟨some 9, none, none, .ar .sub (.t 8) (.c (.int .i64 1))⟩,
    ⟨some 10, none, none, .call (.c (.fn 112 [] [])) [.t 5, .c (.int .i64 0), .t 9]⟩,
    ⟨some 4, none, none, .mv (.t 10)⟩])
  (.ret))⟩
def c92 : FD := ⟨9, [.tmp 4],
  .seq (.ops [⟨some 3, none, none, .box (.t 1)⟩,
    ⟨some 4, none, none, .mv (.c (.bool false))⟩])
  (.seq (.ops [⟨some 5, none, none, .mv (.t 0)⟩,
    ⟨some 6, none, none, .mkf 137 [] [.t 3]⟩,
    ⟨some 7, none, none, .call (.c (.fn 64 [] [])) [.t 5, .t 6]⟩,
    ⟨some 8, none, none, .not (.t 7)⟩,
    ⟨some 4, none, none, .mv (.t 8)⟩])
  (.ret))⟩
def c93 : FD := ⟨49, [.cell 4 false 1],
  .seq (.ops [⟨some 2, none, none, .box (.t 0)⟩,
    ⟨some 3, none, none, .box (.t 1)⟩,
    ⟨some 4, none, none, .alc [.bool false]⟩])
  (.seq (.ops [⟨some 7, none, none, .mkf 138 [] [.t 2, .t 3]⟩,
    ⟨some 5, none, none, .mv (.t 7)⟩])
  (.seq (.seq (.ops [⟨some 8, none, none, .fad 1 (.t 3)⟩,
    ⟨some 9, none, none, .ld false 1 (.t 8)⟩,
    ⟨some 10, none, none, .mv (.t 5)⟩,
    ⟨some 11, none, none, .call (.c (.fn 92 [] [])) [.t 9, .t 10]⟩,
    ⟨some 12, none, none, .not (.t 11)⟩,
    ⟨some 13, none, none, .mv (.t 12)⟩,
    ⟨some 14, some (13, false), none, .fad 2 (.t 3)⟩,
    ⟨some 15, some (13, false), none, .ld false 1 (.t 14)⟩,
    ⟨some 16, some (13, false), none, .mv (.t 5)⟩,
    ⟨some 17, some (13, false), none, .call (.c (.fn 92 [] [])) [.t 15, .t 16]⟩,
    ⟨some 18, some (13, false), none, .not (.t 17)⟩,
    ⟨some 19, none, none, .pick (.t 13) (.c (.bool true)) (.t 18)⟩,
    ⟨some 20, none, none, .mv (.t 19)⟩,
    ⟨some 21, some (20, false), none, .ld false 1 (.t 2)⟩,
    ⟨some 22, some (20, false), none, .fad 1 (.t 3)⟩,
    ⟨some 23, some (20, false), none, .ld false 1 (.t 22)⟩,
    ⟨some 24, some (20, false), none, .call (.c (.fn 139 [] [])) [.t 21, .t 23]⟩,
    ⟨some 25, some (20, false), none, .not (.t 24)⟩,
    ⟨some 26, none, none, .pick (.t 20) (.c (.bool true)) (.t 25)⟩,
    ⟨some 27, none, none, .mv (.t 26)⟩,
    ⟨some 28, some (27, false), none, .ld false 1 (.t 2)⟩,
    ⟨some 29, some (27, false), none, .fad 2 (.t 3)⟩,
    ⟨some 30, some (27, false), none, .ld false 1 (.t 29)⟩,
    ⟨some 31, some (27, false), none, .call (.c (.fn 139 [] [])) [.t 28, .t 30]⟩,
    ⟨some 32, some (27, false), none, .not (.t 31)⟩,
    ⟨some 33, none, none, .pick (.t 27) (.c (.bool true)) (.t 32)⟩])
  (.cond (.t 33) (.seq (.ops [⟨none, none, none, .sto 1 (.t 4) (.c (.bool false))⟩])
  (.ret))
  (.skip)))
  (.seq (.seq (.ops [⟨some 34, none, none, .ld false 1 (.t 2)⟩,
    ⟨some 35, none, none, .fad 0 (.t 3)⟩,
    ⟨some 36, none, none, .ld false 1 (.t 35)⟩,
    ⟨some 37, none, none, .call (.c (.fn 140 [] [])) [.t 34, .t 36]⟩])
  (.block 0 (.rf (.t 37) [38] (.ops [⟨some 6, none, none, .alc [.int .i64 0]⟩,
    ⟨none, none, none, .sto 1 (.t 6) (.t 38)⟩]) (.block 1 (.seq (.ops [⟨some 39, none, none, .fad 2 (.t 3)⟩,
    ⟨some 40, none, none, .ld false 1 (.t 39)⟩,
    ⟨some 41, none, none, .len (.t 40)⟩,
    ⟨some 42, none, none, .ar .gtr (.t 41) (.c (.int .i64 0))⟩,
    ⟨some 43, none, none, .mv (.t 42)⟩,
    ⟨some 44, some (43, true), none, .fad 2 (.t 3)⟩,
    ⟨some 45, some (43, true), none, .ld false 1 (.t 44)⟩,
    ⟨some 46, some (43, true), none, .mkf 141 [] [.t 2, .t 6]⟩,
    ⟨some 47, some (43, true), none, .call (.c (.fn 92 [] [])) [.t 45, .t 46]⟩,
    ⟨some 48, none, none, .pick (.t 43) (.t 47) (.c (.bool false))⟩])
  (.cond (.t 48) (.seq (.ops [⟨none, none, none, .sto 1 (.t 4) (.c (.bool false))⟩])
  (.ret))
  (.skip)))))))
  (.seq (.ops [⟨none, none, none, .sto 1 (.t 4) (.c (.bool true))⟩])
  (.ret)))))⟩
def c94 : FD := ⟨53, [.cell 4 true 2],
  .seq (.ops [⟨some 4, none, none, .alc [.int .i64 0, .int .i64 0]⟩])
  (.seq (.ops [⟨some 8, none, none, .mv (.t 0)⟩,
    ⟨some 9, none, none, .chk (.t 8)⟩,
    ⟨some 10, none, none, .fad 0 (.t 9)⟩,
    ⟨some 11, none, none, .fad 2 (.t 10)⟩,
    ⟨some 12, none, none, .ld false 1 (.t 11)⟩,
    ⟨some 13, none, none, .mv (.t 1)⟩,
    ⟨some 14, none, none, .iad 4 (.t 12) (.t 13)⟩,
    ⟨some 15, none, none, .ld true 4 (.t 14)⟩,
    ⟨some 5, none, none, .alc [.int .i64 0, .int .i64 0, .int .i64 0, .int .i64 0]⟩,
    ⟨none, none, none, .sto 4 (.t 5) (.t 15)⟩])
  (.seq (.dops [⟨some 16, none, none, .fad 2 (.t 5)⟩,
    ⟨some 17, none, none, .fad 1 (.t 16)⟩,
    ⟨some 18, none, some (0, 0), .ld false 1 (.t 17)⟩,
    ⟨some 19, none, none, .ar .add (.c (.int .i64 100)) (.t 18)⟩,
    ⟨some 20, none, none, .fad 2 (.t 5)⟩,
    ⟨some 21, none, none, .fad 0 (.t 20)⟩,
    ⟨some 22, none, some (0, 0), .ld false 1 (.t 21)⟩,
    ⟨some 23, none, none, .ar .add (.c (.int .i64 100)) (.t 22)⟩,
    ⟨some 6, none, none, .mv (.t 19)⟩,
    ⟨some 7, none, none, .mv (.t 23)⟩])
  (.seq (.dops [⟨some 24, none, none, .fad 1 (.t 5)⟩,
    ⟨some 25, none, some (0, 1), .ld false 1 (.t 24)⟩,
    ⟨some 26, none, none, .mv (.t 0)⟩,
    ⟨some 27, none, none, .chk (.t 26)⟩,
    ⟨some 28, none, none, .fad 0 (.t 27)⟩,
    ⟨some 29, none, none, .fad 0 (.t 28)⟩,
    ⟨some 30, none, some (0, 1), .ld false 1 (.t 29)⟩,
    ⟨some 31, none, none, .ar .sub (.t 25) (.t 30)⟩,
    ⟨some 32, none, none, .mx [.c (.int .i64 0), .t 31]⟩,
    ⟨some 33, none, none, .ar .mul (.c (.int .i64 100)) (.t 32)⟩,
    ⟨some 34, none, none, .mv (.t 6)⟩,
    ⟨some 35, none, none, .ar .add (.t 33) (.t 34)⟩,
    ⟨some 36, none, none, .ar .sub (.t 35) (.c (.int .i64 1))⟩,
    ⟨some 37, none, none, .mv (.t 6)⟩,
    ⟨some 38, none, none, .ar .quo (.t 36) (.t 37)⟩,
    ⟨some 39, none, none, .fad 1 (.t 5)⟩,
    ⟨some 40, none, some (0, 0), .ld false 1 (.t 39)⟩,
    ⟨some 41, none, none, .mv (.t 0)⟩,
    ⟨some 42, none, none, .chk (.t 41)⟩,
    ⟨some 43, none, none, .fad 0 (.t 42)⟩,
    ⟨some 44, none, none, .fad 0 (.t 43)⟩,
    ⟨some 45, none, some (0, 0), .ld false 1 (.t 44)⟩,
    ⟨some 46, none, none, .ar .add (.t 40) (.t 45)⟩,
    ⟨some 47, none, none, .ar .mul (.c (.int .i64 100)) (.t 46)⟩,
    ⟨some 48, none, none, .mv (.t 7)⟩,
    ⟨some 49, none, none, .ar .quo (.t 47) (.t 48)⟩,
    ⟨some 50, none, none, .bsl 1 [.int .i64 0] [(0, 1, .t 49)]⟩,
    ⟨some 51, none, none, .call (.c (.fn 131 [] [])) [.c (.int .i64 10000), .t 50]⟩,
    ⟨some 52, none, none, .bld [.int .i64 0, .int .i64 0] [(0, 1, .t 38), (1, 1, .t 51)]⟩,
    ⟨none, none, none, .sto 2 (.t 4) (.t 52)⟩])
  (.ret))))⟩
def c95 : FD := ⟨26, [.tmp 4],
  .seq (.ops [⟨some 4, none, none, .mv (.c (.bool false))⟩])
  (.seq (.seq (.ops [⟨some 6, none, none, .mv (.t 0)⟩,
    ⟨some 7, none, none, .len (.t 6)⟩,
    ⟨some 8, none, none, .mv (.t 1)⟩,
    ⟨some 9, none, none, .len (.t 8)⟩,
    ⟨some 10, none, none, .ar .neq (.t 7) (.t 9)⟩])
  (.cond (.t 10) (.seq (.ops [⟨some 4, none, none, .mv (.c (.bool false))⟩])
  (.ret))
  (.skip)))
  (.seq (.seq (.ops [⟨some 11, none, none, .mv (.t 0)⟩,
    ⟨some 12, none, none, .len (.t 11)⟩,
    ⟨some 13, none, none, .mv (.c (.int .i64 0))⟩])
  (.block 0 (.loop (.seq (.ops [⟨some 14, none, none, .ar .lss (.t 13) (.t 12)⟩])
  (.seq (.cond (.t 14) (.skip)
  (.exit 0))
  (.seq (.block 1 (.seq (.ops [⟨some 15, none, none, .mv (.t 13)⟩,
    ⟨some 5, none, none, .mv (.t 15)⟩])
  (.seq (.dops [⟨some 16, none, none, .mv (.t 0)⟩,
    ⟨some 17, none, none, .mv (.t 5)⟩,
    ⟨some 18, none, none, .iad 1 (.t 16) (.t 17)⟩,
    ⟨some 19, none, some (0, 0), .ld false 1 (.t 18)⟩,
    ⟨some 20, none, none, .mv (.t 1)⟩,
    ⟨some 21, none, none, .mv (.t 5)⟩,
    ⟨some 22, none, none, .iad 1 (.t 20) (.t 21)⟩,
    ⟨some 23, none, some (0, 0), .ld false 1 (.t 22)⟩,
    ⟨some 24, none, none, .ar .neq (.t 19) (.t 23)⟩])
  (.cond (.t 24) (.seq (.ops [⟨some 4, none, none, .mv (.c (.bool false))⟩])
  (.ret))
  (.skip)))))
  (.ops [⟨some 25, none, none, .ar .add (.t 13) (.c (.int .i64 1))⟩,
    ⟨some 13, none, none, .mv (.t 25)⟩])))))))
  (.seq (.ops [⟨some 4, none, none, .mv (.c (.bool true))⟩])
  (.ret))))⟩
def c96 : FD := ⟨8, [.tmp 2],
  .seq (.ops [⟨some 2, none, none, .mv (.c (.nils))⟩])
  (.seq (.seq (.ops [⟨some 3, none, none, .mv (.t 0)⟩,
    ⟨some 4, none, none, .isn false (.t 3)⟩])
  (.cond (.t 4) (.seq (.ops [⟨some 2, none, none, .mv (.c (.nils))⟩])
  (.ret))
  (.skip)))
  (.seq (.ops [⟨some 5, none, none, .bsl 0 [] []⟩,
    ⟨some 6, none, none, .mv (.t 0)⟩,
    ⟨some 7, none, none, .app 2 16 (.t 5) (.t 6)⟩,
    ⟨some 2, none, none, .mv (.t 7)⟩])
  (.ret)))⟩
def c97 : FD := ⟨26, [.tmp 4],
  .seq (.ops [⟨some 4, none, none, .mv (.c (.bool false))⟩])
  (.seq (.seq (.ops [⟨some 6, none, none, .mv (.t 0)⟩,
    ⟨some 7, none, none, .len (.t 6)⟩,
    ⟨some 8, none, none, .mv (.t 1)⟩,
    ⟨some 9, none, none, .len (.t 8)⟩,
    ⟨some 10, none, none, .ar .neq (.t 7) (.t 9)⟩])
  (.cond (.t 10) (.seq (.ops [⟨some 4, none, none, .mv (.c (.bool false))⟩])
  (.ret))
  (.skip)))
  (.seq (.seq (.ops [⟨some 11, none, none, .mv (.t 0)⟩,
    ⟨some 12, none, none, .len (.t 11)⟩,
    ⟨some 13, none, none, .mv (.c (.int .i64 0))⟩])
  (.block 0 (.loop (.seq (.ops [⟨some 14, none, none, .ar .lss (.t 13) (.t 12)⟩])
  (.seq (.cond (.t 14) (.skip)
  (.exit 0))
  (.seq (.block 1 (.seq (.ops [⟨some 15, none, none, .mv (.t 13)⟩,
    ⟨some 5, none, none, .mv (.t 15)⟩])
  (.seq (.dops [⟨some 16, none, none, .mv (.t 0)⟩,
    ⟨some 17, none, none, .mv (.t 5)⟩,
    ⟨some 18, none, none, .iad 2 (.t 16) (.t 17)⟩,
    ⟨some 19, none, some (0, 0), .ld true 2 (.t 18)⟩,
    ⟨some 20, none, none, .mv (.t 1)⟩,
    ⟨some 21, none, none, .mv (.t 5)⟩,
    ⟨some 22, none, none, .iad 2 (.t 20) (.t 21)⟩,
    ⟨some 23, none, some (0, 0), .ld true 2 (.t 22)⟩,
    ⟨some 24, none, none, .feq true 2 (.t 19) (.t 23)⟩])
  (.cond (.t 24) (.seq (.ops [⟨some 4, none, none, .mv (.c (.bool false))⟩])
  (.ret))
  (.skip)))))
  (.ops [⟨some 25, none, none, .ar .add (.t 13) (.c (.int .i64 1))⟩,
    ⟨some 13, none, none, .mv (.t 25)⟩])))))))
  (.seq (.ops [⟨some 4, none, none, .mv (.c (.bool true))⟩])
  (.ret))))⟩
def c98 : FD := ⟨23, [.tmp 4, .tmp 5],
  .seq (.ops [⟨some 2, none, none, .box (.t 0)⟩,
    ⟨some 4, none, none, .mv (.c (.nilp))⟩,
    ⟨some 5, none, none, .mv (.c (.int .i64 0))⟩])
  (.seq (.ops [⟨some 9, none, none, .ld true 3 (.t 2)⟩,
    ⟨some 10, none, none, .call (.c (.fn 87 [] [])) [.t 9]⟩,
    ⟨some 8, none, none, .mv (.t 10)⟩,
    ⟨some 11, none, none, .ext (.t 8) 0⟩,
    ⟨some 12, none, none, .ext (.t 8) 1⟩,
    ⟨some 6, none, none, .mv (.t 11)⟩,
    ⟨some 7, none, none, .mv (.t 12)⟩])
  (.seq (.seq (.ops [⟨some 13, none, none, .mv (.t 7)⟩,
    ⟨some 14, none, none, .ar .eql (.t 13) (.c (.int .i64 0))⟩,
    ⟨some 15, none, none, .mv (.t 14)⟩,
    ⟨some 16, some (15, true), none, .ld true 3 (.t 2)⟩,
    ⟨some 17, some (15, true), none, .mv (.t 1)⟩,
    ⟨some 18, some (15, true), none, .call (.c (.fn 91 [] [])) [.t 16, .t 17]⟩,
    ⟨some 19, some (15, true), none, .not (.t 18)⟩,
    ⟨some 20, none, none, .pick (.t 15) (.t 19) (.c (.bool false))⟩])
  (.cond (.t 20) (.seq (.ops [⟨some 4, none, none, .mv (.c (.nilp))⟩,
    ⟨some 5, none, none, .mv (.c (.int .i64 1))⟩])
  (.ret))
  (.skip)))
  (.seq (.ops [⟨some 21, none, none, .mv (.t 6)⟩,
    ⟨some 22, none, none, .mv (.t 7)⟩,
    ⟨some 4, none, none, .mv (.t 21)⟩,
    ⟨some 5, none, none, .mv (.t 22)⟩])
  (.ret))))⟩
def c99 : FD := ⟨9, [.tmp 4],
  .seq (.ops [⟨some 4, none, none, .mv (.c (.bool false))⟩])
  (.seq (.ops [⟨some 5, none, none, .mv (.t 0)⟩,
    ⟨some 6, none, none, .mv (.t 1)⟩,
    ⟨some 7, none, none, .call (.c (.fn 142 [] [])) [.t 5, .t 6]⟩,
    ⟨some 8, none, none, .ar .geq (.t 7) (.c (.int .i64 0))⟩,
    ⟨some 4, none, none, .mv (.t 8)⟩])
  (.ret))⟩
def c105 : FD := ⟨17, [.tmp 6],
  .seq (.ops [⟨some 4, none, none, .box (.t 1)⟩,
    ⟨some 5, none, none, .box (.t 2)⟩,
    ⟨some 6, none, none, .mv (.c (.bool false))⟩])
  (.seq (.ops [⟨some 10, none, none, .mv (.t 0)⟩,
    ⟨some 11, none, none, .mkf 143 [] [.t 4, .t 5]⟩,
    ⟨some 12, none, none, .bld [.nilf] [(0, 1, .t 11)]⟩,
    ⟨some 13, none, none, .call (.c (.fn 124 [] [])) [.t 10, .t 12]⟩,
    ⟨some 9, none, none, .mv (.t 13)⟩,
    ⟨some 14, none, none, .ext (.t 9) 0⟩,
    ⟨some 15, none, none, .ext (.t 9) 1⟩,
    ⟨some 7, none, none, .alc [.int .i64 0, .int .i64 0, .int .i64 0, .int .i64 0, .int .i64 0, .int .i64 0, .int .i64 0, .int .i64 0, .int .i64 0, .int .i64 0, .int .i64 0, .int .i64 0, .int .i64 0, .int .i64 0, .int .i64 0, .int .i64 0, .int .i64 0, .int .i64 0, .int .i64 0, .int .i64 0, .int .i64 0, .int .i64 0, .int .i64 0, .int .i64 0]⟩,
    ⟨none, none, none, .sto 24 (.t 7) (.t 14)⟩,
    ⟨some 8, none, none, .mv (.t 15)⟩])
  (.seq (.ops [⟨some 16, none, none, .mv (.t 8)⟩,
    ⟨some 6, none, none, .mv (.t 16)⟩])
  (.ret)))⟩
def c106 : FD := ⟨27, [.tmp 4, .tmp 5],
  .seq (.ops [⟨some 2, none, none, .box (.t 0)⟩,
    ⟨some 3, none, none, .box (.t 1)⟩,
    ⟨some 4, none, none, .mv (.c (.nils))⟩,
    ⟨some 5, none, none, .mv (.c (.bool false))⟩])
  (.scope (.seq (.ops [⟨some 6, none, none, .alc [.nils]⟩])
  (.seq (.ops [⟨some 7, none, none, .mv (.c (.bool false))⟩])
  (.seq (.skip)
  (.seq (.seq (.ops [⟨some 10, none, none, .ld false 1 (.t 2)⟩,
    ⟨some 11, none, none, .chk (.t 10)⟩,
    ⟨some 12, none, none, .fad 0 (.t 11)⟩,
    ⟨some 13, none, none, .fad 2 (.t 12)⟩,
    ⟨some 14, none, none, .ld false 1 (.t 13)⟩,
    ⟨some 15, none, none, .len (.t 14)⟩,
    ⟨some 16, none, none, .ar .add (.t 15) (.c (.int .i64 1))⟩,
    ⟨some 17, none, none, .mv (.c (.int .i64 0))⟩])
  (.block 0 (.loop (.seq (.ops [⟨some 18, none, none, .ar .lss (.t 17) (.t 16)⟩])
  (.seq (.cond (.t 18) (.skip)
  (.exit 0))
  (.seq (.block 1 (.seq (.ops [⟨some 19, none, none, .mv (.t 17)⟩,
    ⟨some 8, none, none, .alc [.int .i64 0]⟩,
    ⟨none, none, none, .sto 1 (.t 8) (.t 19)⟩])
  (.seq (.ops [⟨some 9, none, none, .alc [.nilf]⟩])
  (.seq (.ops [⟨some 20, none, none, .mkf 144 [] [.t 8, .t 6, .t 3, .t 2, .t 9]⟩,
    ⟨none, none, none, .sto 1 (.t 9) (.t 20)⟩])
  (.seq (.ops [⟨some 21, none, none, .ld false 1 (.t 9)⟩,
    ⟨some 22, none, none, .call (.t 21) [.c (.nils), .c (.int .i64 0)]⟩,
    ⟨some 7, none, none, .mv (.t 22)⟩])
  (.seq (.ops [⟨some 23, none, none, .mv (.t 7)⟩])
  (.cond (.t 23) (.exit 0)
  (.skip))))))))
  (.ops [⟨some 24, none, none, .ar .add (.t 17) (.c (.int .i64 1))⟩,
    ⟨some 17, none, none, .mv (.t 24)⟩])))))))
  (.seq (.ops [⟨some 25, none, none, .ld false 1 (.t 6)⟩,
    ⟨some 26, none, none, .mv (.t 7)⟩,
    ⟨some 4, none, none, .mv (.t 25)⟩,
    ⟨some 5, none, none, .mv (.t 26)⟩])
  (.ret)))))))⟩
def c107 : FD := ⟨8, [.tmp 3],
  .seq (.ops [⟨some 3, none, none, .mv (.c (.bool false))⟩])
  (.seq (.ops [⟨some 4, none, none, .ld false 1 (.t 1)⟩,
    ⟨some 5, none, none, .mv (.t 0)⟩,
    ⟨some 6, none, none, .call (.c (.fn 105 [] [])) [.t 4, .t 5, .c (.bool false)]⟩,
    ⟨some 7, none, none, .not (.t 6)⟩,
    ⟨some 3, none, none, .mv (.t 7)⟩])
  (.ret))⟩
def c108 : FD := ⟨7, [.tmp 3],
  .seq (.ops [⟨some 3, none, none, .mv (.c (.bool false))⟩])
  (.seq (.ops [⟨some 4, none, none, .ld false 1 (.t 1)⟩,
    ⟨some 5, none, none, .mv (.t 0)⟩,
    ⟨some 6, none, none, .call (.c (.fn 105 [] [])) [.t 4, .t 5, .c (.bool true)]⟩,
    ⟨some 3, none, none, .mv (.t 6)⟩])
  (.ret))⟩
def c110 : FD := ⟨23, [.cell 2 true 3],
  .seq (.ops [⟨some 1, none, none, .box (.t 0)⟩,
    ⟨some 2, none, none, .alc [.int .i64 0, .nils, .nils]⟩])
  (.seq (.ops [⟨some 4, none, none, .fad 2 (.t 1)⟩,
    ⟨some 5, none, none, .ld false 1 (.t 4)⟩,
    ⟨some 6, none, none, .len (.t 5)⟩,
    ⟨some 7, none, none, .fad 2 (.t 1)⟩,
    ⟨some 8, none, none, .ld false 1 (.t 7)⟩,
    ⟨some 9, none, none, .len (.t 8)⟩,
    ⟨some 10, none, none, .ar .add (.t 9) (.c (.int .i64 1))⟩,
    ⟨some 11, none, none, .msl 4 32 [.int .i64 0, .int .i64 0, .int .i64 0, .int .i64 0] (.t 6) (.t 10)⟩,
    ⟨some 3, none, none, .mv (.t 11)⟩])
  (.seq (.ops [⟨some 12, none, none, .mv (.t 3)⟩,
    ⟨some 13, none, none, .fad 2 (.t 1)⟩,
    ⟨some 14, none, none, .ld false 1 (.t 13)⟩,
    ⟨some 15, none, none, .cpy 4 (.t 12) (.t 14)⟩])
  (.seq (.dops [⟨some 16, none, none, .fad 0 (.t 1)⟩,
    ⟨some 17, none, some (0, 1), .ld false 1 (.t 16)⟩,
    ⟨some 18, none, none, .fad 1 (.t 1)⟩,
    ⟨some 19, none, some (0, 0), .ld false 1 (.t 18)⟩,
    ⟨some 20, none, none, .call (.c (.fn 145 [] [])) [.t 19]⟩,
    ⟨some 21, none, none, .mv (.t 3)⟩,
    ⟨some 22, none, none, .bld [.int .i64 0, .nils, .nils] [(0, 1, .t 17), (1, 1, .t 20), (2, 1, .t 21)]⟩,
    ⟨none, none, none, .sto 3 (.t 2) (.t 22)⟩])
  (.ret))))⟩
def c111 : FD := ⟨9, [.tmp 4],
  .seq (.ops [⟨some 3, none, none, .box (.t 1)⟩,
    ⟨some 4, none, none, .mv (.c (.bool false))⟩])
  (.seq (.ops [⟨some 5, none, none, .mv (.t 0)⟩,
    ⟨some 6, none, none, .mkf 147 [] [.t 3]⟩,
    ⟨some 7, none, none, .call (.c (.fn 146 [] [])) [.t 5, .t 6]⟩,
    ⟨some 8, none, none, .not (.t 7)⟩,
    ⟨some 4, none, none, .mv (.t 8)⟩])
  (.ret))⟩
def c112 : FD := ⟨15, [.tmp 6],
  .seq (.ops [⟨some 6, none, none, .mv (.c (.bool false))⟩])
  (.seq (.ops [⟨some 7, none, none, .mv (.t 0)⟩,
    ⟨some 8, none, none, .mv (.t 1)⟩,
    ⟨some 9, none, none, .ar .geq (.t 7) (.t 8)⟩,
    ⟨some 10, none, none, .mv (.t 9)⟩,
    ⟨some 11, some (10, true), none, .mv (.t 0)⟩,
    ⟨some 12, some (10, true), none, .mv (.t 2)⟩,
    ⟨some 13, some (10, true), none, .ar .leq (.t 11) (.t 12)⟩,
    ⟨some 14, none, none, .pick (.t 10) (.t 13) (.c (.bool false))⟩,
    ⟨some 6, none, none, .mv (.t 14)⟩])
  (.ret))⟩
def c113 : FD := ⟨9, [.tmp 4],
  .seq (.ops [⟨some 3, none, none, .box (.t 1)⟩,
    ⟨some 4, none, none, .mv (.c (.bool false))⟩])
  (.seq (.ops [⟨some 5, none, none, .mv (.t 0)⟩,
    ⟨some 6, none, none, .mkf 148 [] [.t 3]⟩,
    ⟨some 7, none, none, .call (.c (.fn 127 [] [])) [.t 5, .t 6]⟩,
    ⟨some 8, none, none, .not (.t 7)⟩,
    ⟨some 4, none, none, .mv (.t 8)⟩])
  (.ret))⟩
def c114 : FD := ⟨18, [.tmp 2],
  .seq (.ops [⟨some 1, none, none, .box (.t 0)⟩,
    ⟨some 2, none, none, .mv (.c (.bool false))⟩])
  (.seq (.ops [⟨some 3, none, none, .fad 1 (.t 1)⟩,
    ⟨some 4, none, none, .ld false 1 (.t 3)⟩,
    ⟨some 5, none, none, .call (.c (.fn 112 [] [])) [.t 4, .c (.int .i64 0), .c (.int .i64 10000)]⟩,
    ⟨some 6, none, none, .mv (.t 5)⟩,
    ⟨some 7, some (6, true), none, .fad 2 (.t 1)⟩,
    ⟨some 8, some (6, true), none, .fad 0 (.t 7)⟩,
    ⟨some 9, some (6, true), none, .ld false 1 (.t 8)⟩,
    ⟨some 10, some (6, true), none, .call (.c (.fn 112 [] [])) [.t 9, .c (.int .i64 0), .c (.int .i64 60)]⟩,
    ⟨some 11, none, none, .pick (.t 6) (.t 10) (.c (.bool false))⟩,
    ⟨some 12, none, none, .mv (.t 11)⟩,
    ⟨some 13, some (12, true), none, .fad 2 (.t 1)⟩,
    ⟨some 14, some (12, true), none, .fad 1 (.t 13)⟩,
    ⟨some 15, some (12, true), none, .ld false 1 (.t 14)⟩,
    ⟨some 16, some (12, true), none, .call (.c (.fn 112 [] [])) [.t 15, .c (.int .i64 0), .c (.int .i64 60)]⟩,
    ⟨some 17, none, none, .pick (.t 12) (.t 16) (.c (.bool false))⟩,
    ⟨some 2, none, none, .mv (.t 17)⟩])
  (.ret))⟩
def c115 : FD := ⟨9, [.tmp 4],
  .seq (.ops [⟨some 3, none, none, .box (.t 1)⟩,
    ⟨some 4, none, none, .mv (.c (.bool false))⟩])
  (.seq (.ops [⟨some 5, none, none, .mv (.t 0)⟩,
    ⟨some 6, none, none, .mkf 149 [] [.t 3]⟩,
    ⟨some 7, none, none, .call (.c (.fn 99 [] [])) [.t 5, .t 6]⟩,
    ⟨some 8, none, none, .not (.t 7)⟩,
    ⟨some 4, none, none, .mv (.t 8)⟩])
  (.ret))⟩
def c116 : FD := ⟨6, [.tmp 2],
  .seq (.ops [⟨some 1, none, none, .box (.t 0)⟩,
    ⟨some 2, none, none, .mv (.c (.bool false))⟩])
  (.seq (.ops [⟨some 3, none, none, .fad 1 (.t 1)⟩,
    ⟨some 4, none, none, .ld false 1 (.t 3)⟩,
    ⟨some 5, none, none, .call (.c (.fn 78 [] [])) [.t 4]⟩,
    ⟨some 2, none, none, .mv (.t 5)⟩])
  (.ret))⟩
def c117 : FD := ⟨8, [.tmp 3],
  .seq (.ops [⟨some 2, none, none, .box (.t 0)⟩,
    ⟨some 3, none, none, .mv (.c (.bool false))⟩])
  (.seq (.ops [⟨some 4, none, none, .ld false 1 (.t 1)⟩,
    ⟨some 5, none, none, .fad 0 (.t 2)⟩,
    ⟨some 6, none, none, .ld false 1 (.t 5)⟩,
    ⟨some 7, none, none, .call (.t 4) [.t 6]⟩,
    ⟨some 3, none, none, .mv (.t 7)⟩])
  (.ret))⟩
def c118 : FD := ⟨10, [.tmp 2],
  .seq (.ops [⟨some 1, none, none, .box (.t 0)⟩,
    ⟨some 2, none, none, .mv (.c (.bool false))⟩])
  (.seq (.ops [⟨some 3, none, none, .fad 2 (.t 1)⟩,
    ⟨some 4, none, none, .fad 0 (.t 3)⟩,
    ⟨some 5, none, none, .ld false 1 (.t 4)⟩,
    ⟨some 6, none, none, .fad 2 (.t 1)⟩,
    ⟨some 7, none, none, .fad 1 (.t 6)⟩,
    ⟨some 8, none, none, .ld false 1 (.t 7)⟩,
    ⟨some 9, none, none, .ar .leq (.t 5) (.t 8)⟩,
    ⟨some 2, none, none, .mv (.t 9)⟩])
  (.ret))⟩
def c119 : FD := ⟨22, [.tmp 4],
  .seq (.ops [⟨some 4, none, none, .mv (.c (.nils))⟩])
  (.seq (.ops [⟨some 5, none, none, .mv (.c (.nils))⟩])
  (.seq (.block 0 (.loop (.seq (.seq (.ops [⟨some 6, none, none, .mv (.t 1)⟩,
    ⟨some 7, none, none, .ar .neq (.t 6) (.c (.int .i64 (-1)))⟩])
  (.cond (.t 7) (.skip)
  (.exit 0)))
  (.seq (.block 1 (.ops [⟨some 17, none, none, .mv (.t 5)⟩,
    ⟨some 18, none, none, .mv (.t 1)⟩,
    ⟨some 19, none, none, .bsl 1 [.int .i64 0] [(0, 1, .t 18)]⟩,
    ⟨some 20, none, none, .app 1 8 (.t 17) (.t 19)⟩,
    ⟨some 5, none, none, .mv (.t 20)⟩]))
  (.ops [⟨some 8, none, none, .mv (.t 0)⟩,
    ⟨some 9, none, none, .chk (.t 8)⟩,
    ⟨some 10, none, none, .fad 0 (.t 9)⟩,
    ⟨some 11, none, none, .fad 1 (.t 10)⟩,
    ⟨some 12, none, none, .ld false 1 (.t 11)⟩,
    ⟨some 13, none, none, .mv (.t 1)⟩,
    ⟨some 14, none, none, .iad 2 (.t 12) (.t 13)⟩,
    ⟨some 15, none, none, .fad 0 (.t 14)⟩,
    ⟨some 16, none, none, .ld false 1 (.t 15)⟩,
    ⟨some 1, none, none, .mv (.t 16)⟩])))))
  (.seq (.ops [⟨some 21, none, none, .mv (.t 5)⟩,
    ⟨some 4, none, none, .mv (.t 21)⟩])
  (.ret))))⟩
def c121 : FD := ⟨19, [.tmp 4],
  .seq (.ops [⟨some 4, none, none, .mv (.c (.int .i64 0))⟩])
  (.seq (.seq (.ops [⟨some 6, none, none, .mv (.t 0)⟩,
    ⟨some 7, none, none, .len (.t 6)⟩,
    ⟨some 8, none, none, .mv (.c (.int .i64 0))⟩])
  (.block 0 (.loop (.seq (.ops [⟨some 9, none, none, .ar .lss (.t 8) (.t 7)⟩])
  (.seq (.cond (.t 9) (.skip)
  (.exit 0))
  (.seq (.block 1 (.seq (.ops [⟨some 10, none, none, .mv (.t 8)⟩,
    ⟨some 5, none, none, .mv (.t 10)⟩])
  (.seq (.ops [⟨some 11, none, none, .mv (.t 1)⟩,
    ⟨some 12, none, none, .mv (.t 0)⟩,
    ⟨some 13, none, none, .mv (.t 5)⟩,
    ⟨some 14, none, none, .iad 1 (.t 12) (.t 13)⟩,
    ⟨some 15, none, none, .ld false 1 (.t 14)⟩,
    ⟨some 16, none, none, .ar .eql (.t 11) (.t 15)⟩])
  (.cond (.t 16) (.seq (.ops [⟨some 17, none, none, .mv (.t 5)⟩,
    ⟨some 4, none, none, .mv (.t 17)⟩])
  (.ret))
  (.skip)))))
  (.ops [⟨some 18, none, none, .ar .add (.t 8) (.c (.int .i64 1))⟩,
    ⟨some 8, none, none, .mv (.t 18)⟩])))))))
  (.seq (.ops [⟨some 4, none, none, .mv (.c (.int .i64 (-1)))⟩])
  (.ret)))⟩
def c122 : FD := ⟨19, [.tmp 4],
  .seq (.ops [⟨some 4, none, none, .mv (.c (.int .i64 0))⟩])
  (.seq (.seq (.ops [⟨some 6, none, none, .mv (.t 0)⟩,
    ⟨some 7, none, none, .len (.t 6)⟩,
    ⟨some 8, none, none, .mv (.c (.int .i64 0))⟩])
  (.block 0 (.loop (.seq (.ops [⟨some 9, none, none, .ar .lss (.t 8) (.t 7)⟩])
  (.seq (.cond (.t 9) (.skip)
  (.exit 0))
  (.seq (.block 1 (.seq (.ops [⟨some 10, none, none, .mv (.t 8)⟩,
    ⟨some 5, none, none, .mv (.t 10)⟩])
  (.seq (.ops [⟨some 11, none, none, .mv (.t 1)⟩,
    ⟨some 12, none, none, .mv (.t 0)⟩,
    ⟨some 13, none, none, .mv (.t 5)⟩,
    ⟨some 14, none, none, .iad 1 (.t 12) (.t 13)⟩,
    ⟨some 15, none, none, .ld false 1 (.t 14)⟩,
    ⟨some 16, none, none, .call (.t 11) [.t 15]⟩])
  (.cond (.t 16) (.seq (.ops [⟨some 17, none, none, .mv (.t 5)⟩,
    ⟨some 4, none, none, .mv (.t 17)⟩])
  (.ret))
  (.skip)))))
  (.ops [⟨some 18, none, none, .ar .add (.t 8) (.c (.int .i64 1))⟩,
    ⟨some 8, none, none, .mv (.t 18)⟩])))))))
  (.seq (.ops [⟨some 4, none, none, .mv (.c (.int .i64 (-1)))⟩])
  (.ret)))⟩
def c123 : FD := ⟨26, [.tmp 4],
  .seq (.ops [⟨some 4, none, none, .mv (.c (.bool false))⟩])
  (.seq (.seq (.ops [⟨some 6, none, none, .mv (.t 0)⟩,
    ⟨some 7, none, none, .len (.t 6)⟩,
    ⟨some 8, none, none, .mv (.t 1)⟩,
    ⟨some 9, none, none, .len (.t 8)⟩,
    ⟨some 10, none, none, .ar .neq (.t 7) (.t 9)⟩])
  (.cond (.t 10) (.seq (.ops [⟨some 4, none, none, .mv (.c (.bool false))⟩])
  (.ret))
  (.skip)))
  (.seq (.seq (.ops [⟨some 11, none, none, .mv (.t 0)⟩,
    ⟨some 12, none, none, .len (.t 11)⟩,
    ⟨some 13, none, none, .mv (.c (.int .i64 0))⟩])
  (.block 0 (.loop (.seq (.ops [⟨some 14, none, none, .ar .lss (.t 13) (.t 12)⟩])
  (.seq (.cond (.t 14) (.skip)
  (.exit 0))
  (.seq (.block 1 (.seq (.ops [⟨some 15, none, none, .mv (.t 13)⟩,
    ⟨some 5, none, none, .mv (.t 15)⟩])
  (.seq (.dops [⟨some 16, none, none, .mv (.t 0)⟩,
    ⟨some 17, none, none, .mv (.t 5)⟩,
    ⟨some 18, none, none, .iad 1 (.t 16) (.t 17)⟩,
    ⟨some 19, none, some (0, 0), .ld false 1 (.t 18)⟩,
    ⟨some 20, none, none, .mv (.t 1)⟩,
    ⟨some 21, none, none, .mv (.t 5)⟩,
    ⟨some 22, none, none, .iad 1 (.t 20) (.t 21)⟩,
    ⟨some 23, none, some (0, 0), .ld false 1 (.t 22)⟩,
    ⟨some 24, none, none, .ar .neq (.t 19) (.t 23)⟩])
  (.cond (.t 24) (.seq (.ops [⟨some 4, none, none, .mv (.c (.bool false))⟩])
  (.ret))
  (.skip)))))
  (.ops [⟨some 25, none, none, .ar .add (.t 13) (.c (.int .i64 1))⟩,
    ⟨some 13, none, none, .mv (.t 25)⟩])))))))
  (.seq (.ops [⟨some 4, none, none, .mv (.c (.bool true))⟩])
  (.ret))))⟩
def c124 : FD := ⟨69, [.cell 4 true 24, .tmp 5],
  .seq (.ops [⟨some 3, none, none, .box (.t 1)⟩,
    ⟨some 4, none, none, .alc [.int .i64 0, .int .i64 0, .int .i64 0, .int .i64 0, .int .i64 0, .int .i64 0, .int .i64 0, .int .i64 0, .int .i64 0, .int .i64 0, .int .i64 0, .int .i64 0, .int .i64 0, .int .i64 0, .int .i64 0, .int .i64 0, .int .i64 0, .int .i64 0, .int .i64 0, .int .i64 0, .int .i64 0, .int .i64 0, .int .i64 0, .int .i64 0]⟩,
    ⟨some 5, none, none, .mv (.c (.bool false))⟩])
  (.seq (.ops [⟨some 6, none, none, .alc [.int .i64 0, .int .i64 0, .int .i64 0, .int .i64 0, .int .i64 0, .int .i64 0, .int .i64 0, .int .i64 0, .int .i64 0, .int .i64 0, .int .i64 0, .int .i64 0, .int .i64 0, .int .i64 0, .int .i64 0, .int .i64 0, .int .i64 0, .int .i64 0, .int .i64 0, .int .i64 0, .int .i64 0, .int .i64 0, .int .i64 0, .int .i64 0]⟩])
  (.seq (.seq (.ops [⟨some 11, none, none, .mv (.t 0)⟩,
    ⟨some 12, none, none, .chk (.t 11)⟩,
    ⟨some 13, none, none, .fad 0 (.t 12)⟩,
    ⟨some 14, none, none, .fad 1 (.t 13)⟩,
    ⟨some 15, none, none, .ld false 1 (.t 14)⟩,
    ⟨some 16, none, none, .len (.t 15)⟩,
    ⟨some 17, none, none, .mv (.c (.int .i64 0))⟩])
  (.block 0 (.loop (.seq (.ops [⟨some 18, none, none, .ar .lss (.t 17) (.t 16)⟩])
  (.seq (.cond (.t 18) (.skip)
  (.exit 0))
  (.seq (.block 1 (.seq (.ops [⟨some 19, none, none, .mv (.t 17)⟩,
    ⟨some 7, none, none, .mv (.t 19)⟩])
  (.ops [⟨some 20, none, none, .mv (.t 7)⟩,
    ⟨some 21, none, none, .iaa 12 2 (.t 6) (.t 20)⟩,
    ⟨some 22, none, none, .fad 1 (.t 21)⟩,
    ⟨none, none, none, .sto 1 (.t 22) (.c (.int .i64 10000))⟩])))
  (.ops [⟨some 23, none, none, .ar .add (.t 17) (.c (.int .i64 1))⟩,
    ⟨some 17, none, none, .mv (.t 23)⟩])))))))
  (.seq (.seq (.ops [⟨some 24, none, none, .mv (.t 0)⟩,
    ⟨some 25, none, none, .chk (.t 24)⟩,
    ⟨some 26, none, none, .fad 0 (.t 25)⟩,
    ⟨some 27, none, none, .fad 2 (.t 26)⟩,
    ⟨some 28, none, none, .ld false 1 (.t 27)⟩,
    ⟨some 29, none, none, .len (.t 28)⟩,
    ⟨some 30, none, none, .mv (.c (.int .i64 0))⟩])
  (.block 2 (.loop (.seq (.ops [⟨some 31, none, none, .ar .lss (.t 30) (.t 29)⟩])
  (.seq (.cond (.t 31) (.skip)
  (.exit 2))
  (.seq (.block 3 (.seq (.ops [⟨some 32, none, none, .mv (.t 30)⟩,
    ⟨some 33, none, none, .iad 4 (.t 28) (.t 30)⟩,
    ⟨some 34, none, none, .ld true 4 (.t 33)⟩,
    ⟨some 9, none, none, .alc [.int .i64 0, .int .i64 0, .int .i64 0, .int .i64 0]⟩,
    ⟨some 8, none, none, .mv (.t 32)⟩,
    ⟨none, none, none, .sto 4 (.t 9) (.t 34)⟩])
  (.seq (.ops [⟨some 35, none, none, .mv (.t 0)⟩,
    ⟨some 36, none, none, .mv (.t 8)⟩,
    ⟨some 37, none, none, .call (.c (.fn 94 [] [])) [.t 35, .t 36]⟩,
    ⟨some 10, none, none, .alc [.int .i64 0, .int .i64 0]⟩,
    ⟨none, none, none, .sto 2 (.t 10) (.t 37)⟩])
  (.seq (.ops [⟨some 38, none, none, .fad 0 (.t 3)⟩,
    ⟨some 39, none, none, .ld false 1 (.t 38)⟩,
    ⟨some 40, none, none, .mv (.t 8)⟩,
    ⟨some 41, none, none, .call (.t 39) [.t 40]⟩])
  (.cond (.t 41) (.dops [⟨some 42, none, none, .fad 0 (.t 9)⟩,
    ⟨some 43, none, some (0, 1), .ld false 1 (.t 42)⟩,
    ⟨some 44, none, none, .fad 0 (.t 9)⟩,
    ⟨some 45, none, some (0, 1), .ld false 1 (.t 44)⟩,
    ⟨some 46, none, none, .iaa 12 2 (.t 6) (.t 45)⟩,
    ⟨some 47, none, none, .fad 0 (.t 46)⟩,
    ⟨some 48, none, some (0, 1), .ld false 1 (.t 47)⟩,
    ⟨some 49, none, none, .fad 0 (.t 10)⟩,
    ⟨some 50, none, some (0, 1), .ld false 1 (.t 49)⟩,
    ⟨some 51, none, none, .mx [.t 48, .t 50]⟩,
    ⟨some 52, none, none, .fad 0 (.t 9)⟩,
    ⟨some 53, none, some (0, 0), .ld false 1 (.t 52)⟩,
    ⟨some 54, none, none, .iaa 12 2 (.t 6) (.t 53)⟩,
    ⟨some 55, none, none, .fad 1 (.t 54)⟩,
    ⟨some 56, none, some (0, 0), .ld false 1 (.t 55)⟩,
    ⟨some 57, none, none, .fad 1 (.t 10)⟩,
    ⟨some 58, none, some (0, 0), .ld false 1 (.t 57)⟩,
    ⟨some 59, none, none, .bsl 1 [.int .i64 0] [(0, 1, .t 58)]⟩,
    ⟨some 60, none, none, .call (.c (.fn 131 [] [])) [.t 56, .t 59]⟩,
    ⟨some 61, none, none, .bld [.int .i64 0, .int .i64 0] [(0, 1, .t 51), (1, 1, .t 60)]⟩,
    ⟨some 62, none, none, .iaa 12 2 (.t 6) (.t 43)⟩,
    ⟨none, none, none, .sto 2 (.t 62) (.t 61)⟩])
  (.skip))))))
  (.ops [⟨some 63, none, none, .ar .add (.t 30) (.c (.int .i64 1))⟩,
    ⟨some 30, none, none, .mv (.t 63)⟩])))))))
  (.seq (.ops [⟨some 64, none, none, .mv (.t 0)⟩,
    ⟨some 65, none, none, .ld true 24 (.t 6)⟩,
    ⟨some 66, none, none, .call (.c (.fn 126 [] [])) [.t 64, .t 65]⟩,
    ⟨some 67, none, none, .ext (.t 66) 0⟩,
    ⟨some 68, none, none, .ext (.t 66) 1⟩,
    ⟨none, none, none, .sto 24 (.t 4) (.t 67)⟩,
    ⟨some 5, none, none, .mv (.t 68)⟩])
  (.ret)))))⟩
def c125 : FD := ⟨2, [.cell 0 true 1],
  .seq (.ops [⟨some 0, none, none, .alc [.nilf]⟩])
  (.seq (.ops [⟨some 1, none, none, .bld [.nilf] [(0, 1, .c (.fn 151 [] []))]⟩,
    ⟨none, none, none, .sto 1 (.t 0) (.t 1)⟩])
  (.ret))⟩
def c126 : FD := ⟨107, [.cell 4 true 24, .tmp 5],
  .seq (.ops [⟨some 3, none, none, .box (.t 1)⟩,
    ⟨some 4, none, none, .alc [.int .i64 0, .int .i64 0, .int .i64 0, .int .i64 0, .int .i64 0, .int .i64 0, .int .i64 0, .int .i64 0, .int .i64 0, .int .i64 0, .int .i64 0, .int .i64 0, .int .i64 0, .int .i64 0, .int .i64 0, .int .i64 0, .int .i64 0, .int .i64 0, .int .i64 0, .int .i64 0, .int .i64 0, .int .i64 0, .int .i64 0, .int .i64 0]⟩,
    ⟨some 5, none, none, .mv (.c (.bool false))⟩])
  (.seq (.ops [⟨some 16, none, none, .mkf 152 [] [.t 3]⟩,
    ⟨some 6, none, none, .mv (.t 16)⟩])
  (.block 0 (.loop (.block 1 (.seq (.ops [⟨some 17, none, none, .ld true 24 (.t 3)⟩,
    ⟨some 7, none, none, .alc [.int .i64 0, .int .i64 0, .int .i64 0, .int .i64 0, .int .i64 0, .int .i64 0, .int .i64 0, .int .i64 0, .int .i64 0, .int .i64 0, .int .i64 0, .int .i64 0, .int .i64 0, .int .i64 0, .int .i64 0, .int .i64 0, .int .i64 0, .int .i64 0, .int .i64 0, .int .i64 0, .int .i64 0, .int .i64 0, .int .i64 0, .int .i64 0]⟩,
    ⟨none, none, none, .sto 24 (.t 7) (.t 17)⟩])
  (.seq (.seq (.ops [⟨some 18, none, none, .mv (.t 0)⟩,
    ⟨some 19, none, none, .chk (.t 18)⟩,
    ⟨some 20, none, none, .fad 0 (.t 19)⟩,
    ⟨some 21, none, none, .fad 1 (.t 20)⟩,
    ⟨some 22, none, none, .ld false 1 (.t 21)⟩,
    ⟨some 23, none, none, .len (.t 22)⟩,
    ⟨some 24, none, none, .mv (.c (.int .i64 0))⟩])
  (.block 2 (.loop (.seq (.ops [⟨some 25, none, none, .ar .lss (.t 24) (.t 23)⟩])
  (.seq (.cond (.t 25) (.skip)
  (.exit 2))
  (.seq (.block 3 (.seq (.ops [⟨some 26, none, none, .mv (.t 24)⟩,
    ⟨some 8, none, none, .mv (.t 26)⟩])
  (.seq (.seq (.dops [⟨some 27, none, none, .mv (.t 8)⟩,
    ⟨some 28, none, none, .iaa 12 2 (.t 3) (.t 27)⟩,
    ⟨some 29, none, none, .fad 0 (.t 28)⟩,
    ⟨some 30, none, some (0, 0), .ld false 1 (.t 29)⟩,
    ⟨some 31, none, none, .mv (.t 8)⟩,
    ⟨some 32, none, none, .iaa 12 2 (.t 3) (.t 31)⟩,
    ⟨some 33, none, none, .fad 1 (.t 32)⟩,
    ⟨some 34, none, some (0, 0), .ld false 1 (.t 33)⟩,
    ⟨some 35, none, none, .ar .gtr (.t 30) (.t 34)⟩])
  (.cond (.t 35) (.seq (.ops [⟨some 36, none, none, .bld [.int .i64 0, .int .i64 0, .int .i64 0, .int .i64 0, .int .i64 0, .int .i64 0, .int .i64 0, .int .i64 0, .int .i64 0, .int .i64 0, .int .i64 0, .int .i64 0, .int .i64 0, .int .i64 0, .int .i64 0, .int .i64 0, .int .i64 0, .int .i64 0, .int .i64 0, .int .i64 0, .int .i64 0, .int .i64 0, .int .i64 0, .int .i64 0] []⟩,
    ⟨none, none, none, .sto 24 (.t 4) (.t 36)⟩,
    ⟨some 5, none, none, .mv (.c (.bool false))⟩])
  (.ret))
  (.skip)))
  (.seq (.ops [⟨some 37, none, none, .mv (.t 0)⟩,
    ⟨some 38, none, none, .chk (.t 37)⟩,
    ⟨some 39, none, none, .fad 3 (.t 38)⟩,
    ⟨some 40, none, none, .ld false 1 (.t 39)⟩,
    ⟨some 41, none, none, .mv (.t 8)⟩,
    ⟨some 42, none, none, .lkp none (.nils) (.t 40) (.t 41) false⟩,
    ⟨some 9, none, none, .mv (.t 42)⟩])
  (.seq (.seq (.ops [⟨some 43, none, none, .mv (.t 9)⟩,
    ⟨some 44, none, none, .len (.t 43)⟩,
    ⟨some 45, none, none, .ar .eql (.t 44) (.c (.int .i64 0))⟩])
  (.cond (.t 45) (.exit 3)
  (.skip)))
  (.seq (.ops [⟨some 10, none, none, .mv (.c (.int .i64 0))⟩,
    ⟨some 11, none, none, .mv (.c (.int .i64 0))⟩])
  (.seq (.seq (.ops [⟨some 46, none, none, .mv (.t 9)⟩,
    ⟨some 47, none, none, .len (.t 46)⟩,
    ⟨some 48, none, none, .mv (.c (.int .i64 0))⟩])
  (.block 4 (.loop (.seq (.ops [⟨some 49, none, none, .ar .lss (.t 48) (.t 47)⟩])
  (.seq (.cond (.t 49) (.skip)
  (.exit 4))
  (.seq (.block 5 (.seq (.ops [⟨some 50, none, none, .iad 1 (.t 46) (.t 48)⟩,
    ⟨some 51, none, none, .ld false 1 (.t 50)⟩,
    ⟨some 13, none, none, .mv (.t 51)⟩])
  (.dops [⟨some 52, none, none, .mv (.t 10)⟩,
    ⟨some 53, none, none, .mv (.t 13)⟩,
    ⟨some 54, none, none, .iaa 12 2 (.t 3) (.t 53)⟩,
    ⟨some 55, none, none, .fad 0 (.t 54)⟩,
    ⟨some 56, none, some (0, 0), .ld false 1 (.t 55)⟩,
    ⟨some 57, none, none, .ar .add (.t 52) (.t 56)⟩,
    ⟨some 58, none, none, .mv (.t 11)⟩,
    ⟨some 59, none, none, .mv (.t 13)⟩,
    ⟨some 60, none, none, .iaa 12 2 (.t 3) (.t 59)⟩,
    ⟨some 61, none, none, .fad 1 (.t 60)⟩,
    ⟨some 62, none, some (0, 0), .ld false 1 (.t 61)⟩,
    ⟨some 63, none, none, .ar .add (.t 58) (.t 62)⟩,
    ⟨some 10, none, none, .mv (.t 57)⟩,
    ⟨some 11, none, none, .mv (.t 63)⟩])))
  (.ops [⟨some 64, none, none, .ar .add (.t 48) (.c (.int .i64 1))⟩,
    ⟨some 48, none, none, .mv (.t 64)⟩])))))))
  (.seq (.ops [⟨some 65, none, none, .mv (.t 6)⟩,
    ⟨some 66, none, none, .mv (.t 8)⟩,
    ⟨some 67, none, none, .mv (.t 10)⟩,
    ⟨some 68, none, none, .mv (.t 11)⟩,
    ⟨some 69, none, none, .call (.t 65) [.t 66, .t 67, .t 68]⟩])
  (.seq (.ops [⟨some 70, none, none, .mv (.t 9)⟩,
    ⟨some 71, none, none, .len (.t 70)⟩,
    ⟨some 72, none, none, .mv (.c (.int .i64 0))⟩])
  (.block 6 (.loop (.seq (.ops [⟨some 73, none, none, .ar .lss (.t 72) (.t 71)⟩])
  (.seq (.cond (.t 73) (.skip)
  (.exit 6))
  (.seq (.block 7 (.seq (.ops [⟨some 74, none, none, .iad 1 (.t 70) (.t 72)⟩,
    ⟨some 75, none, none, .ld false 1 (.t 74)⟩,
    ⟨some 15, none, none, .mv (.t 75)⟩])
  (.dops [⟨some 76, none, none, .mv (.t 6)⟩,
    ⟨some 77, none, none, .mv (.t 15)⟩,
    ⟨some 78, none, none, .mv (.t 8)⟩,
    ⟨some 79, none, none, .iaa 12 2 (.t 3) (.t 78)⟩,
    ⟨some 80, none, none, .fad 0 (.t 79)⟩,
    ⟨some 81, none, some (0, 0), .ld false 1 (.t 80)⟩,
    ⟨some 82, none, none, .mv (.t 11)⟩,
    ⟨some 83, none, none, .mv (.t 15)⟩,
    ⟨some 84, none, none, .iaa 12 2 (.t 7) (.t 83)⟩,
    ⟨some 85, none, none, .fad 1 (.t 84)⟩,
    ⟨some 86, none, some (0, 0), .ld false 1 (.t 85)⟩,
    ⟨some 87, none, none, .ar .sub (.t 82) (.t 86)⟩,
    ⟨some 88, none, none, .ar .sub (.t 81) (.t 87)⟩,
    ⟨some 89, none, none, .mv (.t 8)⟩,
    ⟨some 90, none, none, .iaa 12 2 (.t 3) (.t 89)⟩,
    ⟨some 91, none, none, .fad 1 (.t 90)⟩,
    ⟨some 92, none, some (0, 0), .ld false 1 (.t 91)⟩,
    ⟨some 93, none, none, .mv (.t 10)⟩,
    ⟨some 94, none, none, .mv (.t 15)⟩,
    ⟨some 95, none, none, .iaa 12 2 (.t 7) (.t 94)⟩,
    ⟨some 96, none, none, .fad 0 (.t 95)⟩,
    ⟨some 97, none, some (0, 0), .ld false 1 (.t 96)⟩,
    ⟨some 98, none, none, .ar .sub (.t 93) (.t 97)⟩,
    ⟨some 99, none, none, .ar .sub (.t 92) (.t 98)⟩,
    ⟨some 100, none, none, .call (.t 76) [.t 77, .t 88, .t 99]⟩])))
  (.ops [⟨some 101, none, none, .ar .add (.t 72) (.c (.int .i64 1))⟩,
    ⟨some 72, none, none, .mv (.t 101)⟩])))))))))))))))
  (.ops [⟨some 102, none, none, .ar .add (.t 24) (.c (.int .i64 1))⟩,
    ⟨some 24, none, none, .mv (.t 102)⟩])))))))
  (.seq (.ops [⟨some 103, none, none, .ld true 24 (.t 3)⟩,
    ⟨some 104, none, none, .ld true 24 (.t 7)⟩,
    ⟨some 105, none, none, .feq false 24 (.t 103) (.t 104)⟩])
  (.cond (.t 105) (.seq (.ops [⟨some 106, none, none, .ld true 24 (.t 3)⟩,
    ⟨none, none, none, .sto 24 (.t 4) (.t 106)⟩,
    ⟨some 5, none, none, .mv (.c (.bool true))⟩])
  (.ret))
  (.skip)))))))))⟩
def c127 : FD := ⟨9, [.tmp 4],
  .seq (.ops [⟨some 4, none, none, .mv (.c (.bool false))⟩])
  (.seq (.ops [⟨some 5, none, none, .mv (.t 0)⟩,
    ⟨some 6, none, none, .mv (.t 1)⟩,
    ⟨some 7, none, none, .call (.c (.fn 153 [] [])) [.t 5, .t 6]⟩,
    ⟨some 8, none, none, .ar .geq (.t 7) (.c (.int .i64 0))⟩,
    ⟨some 4, none, none, .mv (.t 8)⟩])
  (.ret))⟩
def c131 : FD := ⟨18, [.tmp 4],
  .seq (.ops [⟨some 4, none, none, .mv (.c (.int .i64 0))⟩])
  (.seq (.seq (.ops [⟨some 7, none, none, .mv (.t 1)⟩,
    ⟨some 8, none, none, .len (.t 7)⟩,
    ⟨some 9, none, none, .mv (.c (.int .i64 0))⟩])
  (.block 0 (.loop (.seq (.ops [⟨some 10, none, none, .ar .lss (.t 9) (.t 8)⟩])
  (.seq (.cond (.t 10) (.skip)
  (.exit 0))
  (.seq (.block 1 (.seq (.ops [⟨some 11, none, none, .iad 1 (.t 7) (.t 9)⟩,
    ⟨some 12, none, none, .ld false 1 (.t 11)⟩,
    ⟨some 6, none, none, .mv (.t 12)⟩])
  (.ops [⟨some 13, none, none, .mv (.t 0)⟩,
    ⟨some 14, none, none, .mv (.t 6)⟩,
    ⟨some 15, none, none, .mn [.t 13, .t 14]⟩,
    ⟨some 0, none, none, .mv (.t 15)⟩])))
  (.ops [⟨some 16, none, none, .ar .add (.t 9) (.c (.int .i64 1))⟩,
    ⟨some 9, none, none, .mv (.t 16)⟩])))))))
  (.seq (.ops [⟨some 17, none, none, .mv (.t 0)⟩,
    ⟨some 4, none, none, .mv (.t 17)⟩])
  (.ret)))⟩
def c132 : FD := ⟨26, [.tmp 4],
  .seq (.ops [⟨some 4, none, none, .mv (.c (.bool false))⟩])
  (.seq (.seq (.ops [⟨some 6, none, none, .mv (.t 0)⟩,
    ⟨some 7, none, none, .len (.t 6)⟩,
    ⟨some 8, none, none, .mv (.t 1)⟩,
    ⟨some 9, none, none, .len (.t 8)⟩,
    ⟨some 10, none, none, .ar .neq (.t 7) (.t 9)⟩])
  (.cond (.t 10) (.seq (.ops [⟨some 4, none, none, .mv (.c (.bool false))⟩])
  (.ret))
  (.skip)))
  (.seq (.seq (.ops [⟨some 11, none, none, .mv (.t 0)⟩,
    ⟨some 12, none, none, .len (.t 11)⟩,
    ⟨some 13, none, none, .mv (.c (.int .i64 0))⟩])
  (.block 0 (.loop (.seq (.ops [⟨some 14, none, none, .ar .lss (.t 13) (.t 12)⟩])
  (.seq (.cond (.t 14) (.skip)
  (.exit 0))
  (.seq (.block 1 (.seq (.ops [⟨some 15, none, none, .mv (.t 13)⟩,
    ⟨some 5, none, none, .mv (.t 15)⟩])
  (.seq (.dops [⟨some 16, none, none, .mv (.t 0)⟩,
    ⟨some 17, none, none, .mv (.t 5)⟩,
    ⟨some 18, none, none, .iad 2 (.t 16) (.t 17)⟩,
    ⟨some 19, none, some (0, 0), .ld true 2 (.t 18)⟩,
    ⟨some 20, none, none, .mv (.t 1)⟩,
    ⟨some 21, none, none, .mv (.t 5)⟩,
    ⟨some 22, none, none, .iad 2 (.t 20) (.t 21)⟩,
    ⟨some 23, none, some (0, 0), .ld true 2 (.t 22)⟩,
    ⟨some 24, none, none, .feq true 2 (.t 19) (.t 23)⟩])
  (.cond (.t 24) (.seq (.ops [⟨some 4, none, none, .mv (.c (.bool false))⟩])
  (.ret))
  (.skip)))))
  (.ops [⟨some 25, none, none, .ar .add (.t 13) (.c (.int .i64 1))⟩,
    ⟨some 13, none, none, .mv (.t 25)⟩])))))))
  (.seq (.ops [⟨some 4, none, none, .mv (.c (.bool true))⟩])
  (.ret))))⟩
def c133 : FD := ⟨26, [.tmp 4],
  .seq (.ops [⟨some 4, none, none, .mv (.c (.bool false))⟩])
  (.seq (.seq (.ops [⟨some 6, none, none, .mv (.t 0)⟩,
    ⟨some 7, none, none, .len (.t 6)⟩,
    ⟨some 8, none, none, .mv (.t 1)⟩,
    ⟨some 9, none, none, .len (.t 8)⟩,
    ⟨some 10, none, none, .ar .neq (.t 7) (.t 9)⟩])
  (.cond (.t 10) (.seq (.ops [⟨some 4, none, none, .mv (.c (.bool false))⟩])
  (.ret))
  (.skip)))
  (.seq (.seq (.ops [⟨some 11, none, none, .mv (.t 0)⟩,
    ⟨some 12, none, none, .len (.t 11)⟩,
    ⟨some 13, none, none, .mv (.c (.int .i64 0))⟩])
  (.block 0 (.loop (.seq (.ops [⟨some 14, none, none, .ar .lss (.t 13) (.t 12)⟩])
  (.seq (.cond (.t 14) (.skip)
  (.exit 0))
  (.seq (.block 1 (.seq (.ops [⟨some 15, none, none, .mv (.t 13)⟩,
    ⟨some 5, none, none, .mv (.t 15)⟩])
  (.seq (.dops [⟨some 16, none, none, .mv (.t 0)⟩,
    ⟨some 17, none, none, .mv (.t 5)⟩,
    ⟨some 18, none, none, .iad 4 (.t 16) (.t 17)⟩,
    ⟨some 19, none, some (0, 0), .ld true 4 (.t 18)⟩,
    ⟨some 20, none, none, .mv (.t 1)⟩,
    ⟨some 21, none, none, .mv (.t 5)⟩,
    ⟨some 22, none, none, .iad 4 (.t 20) (.t 21)⟩,
    ⟨some 23, none, some (0, 0), .ld true 4 (.t 22)⟩,
    ⟨some 24, none, none, .feq true 4 (.t 19) (.t 23)⟩])
  (.cond (.t 24) (.seq (.ops [⟨some 4, none, none, .mv (.c (.bool false))⟩])
  (.ret))
  (.skip)))))
  (.ops [⟨some 25, none, none, .ar .add (.t 13) (.c (.int .i64 1))⟩,
    ⟨some 13, none, none, .mv (.t 25)⟩])))))))
  (.seq (.ops [⟨some 4, none, none, .mv (.c (.bool true))⟩])
  (.ret))))⟩
def c134 : FD := ⟨26, [.cell 2 true 2],
  .seq (.ops [⟨some 2, none, none, .alc [.int .i64 0, .nils]⟩])
  (.seq (.ops [⟨some 3, none, none, .alc [.int .i64 0, .nils]⟩])
  (.seq (.seq (.ops [⟨some 6, none, none, .mv (.t 0)⟩,
    ⟨some 7, none, none, .len (.t 6)⟩,
    ⟨some 8, none, none, .mv (.c (.int .i64 0))⟩])
  (.block 0 (.loop (.seq (.ops [⟨some 9, none, none, .ar .lss (.t 8) (.t 7)⟩])
  (.seq (.cond (.t 9) (.skip)
  (.exit 0))
  (.seq (.block 1 (.seq (.ops [⟨some 10, none, none, .iad 2 (.t 6) (.t 8)⟩,
    ⟨some 11, none, none, .ld true 2 (.t 10)⟩,
    ⟨some 5, none, none, .alc [.int .i64 0, .nils]⟩,
    ⟨none, none, none, .sto 2 (.t 5) (.t 11)⟩])
  (.dops [⟨some 12, none, none, .fad 0 (.t 3)⟩,
    ⟨some 13, none, some (0, 1), .ld false 1 (.t 12)⟩,
    ⟨some 14, none, none, .fad 0 (.t 5)⟩,
    ⟨some 15, none, some (0, 1), .ld false 1 (.t 14)⟩,
    ⟨some 16, none, none, .ar .add (.t 13) (.t 15)⟩,
    ⟨some 17, none, none, .fad 1 (.t 3)⟩,
    ⟨some 18, none, some (0, 0), .ld false 1 (.t 17)⟩,
    ⟨some 19, none, none, .fad 1 (.t 5)⟩,
    ⟨some 20, none, some (0, 0), .ld false 1 (.t 19)⟩,
    ⟨some 21, none, none, .app 1 8 (.t 18) (.t 20)⟩,
    ⟨some 22, none, none, .fad 0 (.t 3)⟩,
    ⟨none, none, none, .sto 1 (.t 22) (.t 16)⟩,
    ⟨some 23, none, none, .fad 1 (.t 3)⟩,
    ⟨none, none, none, .sto 1 (.t 23) (.t 21)⟩])))
  (.ops [⟨some 24, none, none, .ar .add (.t 8) (.c (.int .i64 1))⟩,
    ⟨some 8, none, none, .mv (.t 24)⟩])))))))
  (.seq (.ops [⟨some 25, none, none, .ld true 2 (.t 3)⟩,
    ⟨none, none, none, .sto 2 (.t 2) (.t 25)⟩])
  (.ret))))⟩
def c135 : FD := ⟨9, [.tmp 4],
  .seq (.ops [⟨some 3, none, none, .box (.t 1)⟩,
    ⟨some 4, none, none, .mv (.c (.bool false))⟩])
  (.seq (.ops [⟨some 5, none, none, .mv (.t 0)⟩,
    ⟨some 6, none, none, .mkf 155 [] [.t 3]⟩,
    ⟨some 7, none, none, .call (.c (.fn 154 [] [])) [.t 5, .t 6]⟩,
    ⟨some 8, none, none, .not (.t 7)⟩,
    ⟨some 4, none, none, .mv (.t 8)⟩])
  (.ret))⟩
def c136 : FD := ⟨7, [.tmp 2],
  .seq (.ops [⟨some 1, none, none, .box (.t 0)⟩,
    ⟨some 2, none, none, .mv (.c (.bool false))⟩])
  (.seq (.ops [⟨some 3, none, none, .fad 1 (.t 1)⟩,
    ⟨some 4, none, none, .ld false 1 (.t 3)⟩,
    ⟨some 5, none, none, .len (.t 4)⟩,
    ⟨some 6, none, none, .ar .gtr (.t 5) (.c (.int .i64 0))⟩,
    ⟨some 2, none, none, .mv (.t 6)⟩])
  (.ret))⟩
def c137 : FD := ⟨8, [.tmp 3],
  .seq (.ops [⟨some 3, none, none, .mv (.c (.bool false))⟩])
  (.seq (.ops [⟨some 4, none, none, .ld false 1 (.t 1)⟩,
    ⟨some 5, none, none, .mv (.t 0)⟩,
    ⟨some 6, none, none, .call (.t 4) [.t 5]⟩,
    ⟨some 7, none, none, .not (.t 6)⟩,
    ⟨some 3, none, none, .mv (.t 7)⟩])
  (.ret))⟩
def c138 : FD := ⟨19, [.tmp 4],
  .seq (.ops [⟨some 4, none, none, .mv (.c (.bool false))⟩])
  (.seq (.dops [⟨some 5, none, some (0, 0), .ld false 1 (.t 1)⟩,
    ⟨some 6, none, some (0, 0), .ld false 1 (.t 1)⟩,
    ⟨some 7, none, none, .chk (.t 6)⟩,
    ⟨some 8, none, none, .fad 0 (.t 7)⟩,
    ⟨some 9, none, none, .fad 2 (.t 8)⟩,
    ⟨some 10, none, some (0, 0), .ld false 1 (.t 9)⟩,
    ⟨some 11, none, none, .mv (.t 0)⟩,
    ⟨some 12, none, none, .iad 4 (.t 10) (.t 11)⟩,
    ⟨some 13, none, none, .fad 0 (.t 12)⟩,
    ⟨some 14, none, some (0, 0), .ld false 1 (.t 13)⟩,
    ⟨some 15, none, none, .call (.c (.fn 119 [] [])) [.t 5, .t 14]⟩,
    ⟨some 16, none, none, .fad 0 (.t 2)⟩,
    ⟨some 17, none, some (0, 1), .ld false 1 (.t 16)⟩,
    ⟨some 18, none, none, .call (.c (.fn 61 [] [])) [.t 15, .t 17]⟩,
    ⟨some 4, none, none, .mv (.t 18)⟩])
  (.ret))⟩
def c139 : FD := ⟨58, [.tmp 4],
  .seq (.ops [⟨some 4, none, none, .mv (.c (.bool false))⟩])
  (.seq (.seq (.ops [⟨some 11, none, none, .mv (.t 1)⟩,
    ⟨some 12, none, none, .len (.t 11)⟩,
    ⟨some 13, none, none, .mv (.c (.int .i64 0))⟩])
  (.block 0 (.loop (.seq (.ops [⟨some 14, none, none, .ar .lss (.t 13) (.t 12)⟩])
  (.seq (.cond (.t 14) (.skip)
  (.exit 0))
  (.seq (.block 1 (.seq (.ops [⟨some 15, none, none, .mv (.t 13)⟩,
    ⟨some 16, none, none, .iad 1 (.t 11) (.t 13)⟩,
    ⟨some 17, none, none, .ld false 1 (.t 16)⟩,
    ⟨some 5, none, none, .mv (.t 15)⟩,
    ⟨some 6, none, none, .mv (.t 17)⟩])
  (.seq (.ops [⟨some 18, none, none, .mv (.t 1)⟩,
    ⟨some 19, none, none, .mv (.t 5)⟩,
    ⟨some 20, none, none, .slc 1 (.t 18) none (some (.t 19)) none⟩,
    ⟨some 21, none, none, .len (.t 20)⟩,
    ⟨some 22, none, none, .mv (.c (.int .i64 0))⟩])
  (.block 2 (.loop (.seq (.ops [⟨some 23, none, none, .ar .lss (.t 22) (.t 21)⟩])
  (.seq (.cond (.t 23) (.skip)
  (.exit 2))
  (.seq (.block 3 (.seq (.ops [⟨some 24, none, none, .iad 1 (.t 20) (.t 22)⟩,
    ⟨some 25, none, none, .ld false 1 (.t 24)⟩,
    ⟨some 8, none, none, .mv (.t 25)⟩])
  (.seq (.dops [⟨some 26, none, none, .mv (.t 0)⟩,
    ⟨some 27, none, none, .chk (.t 26)⟩,
    ⟨some 28, none, none, .fad 0 (.t 27)⟩,
    ⟨some 29, none, none, .fad 2 (.t 28)⟩,
    ⟨some 30, none, some (0, 0), .ld false 1 (.t 29)⟩,
    ⟨some 31, none, none, .mv (.t 6)⟩,
    ⟨some 32, none, none, .iad 4 (.t 30) (.t 31)⟩,
    ⟨some 33, none, none, .fad 0 (.t 32)⟩,
    ⟨some 34, none, some (0, 0), .ld false 1 (.t 33)⟩,
    ⟨some 35, none, none, .mv (.t 0)⟩,
    ⟨some 36, none, none, .chk (.t 35)⟩,
    ⟨some 37, none, none, .fad 0 (.t 36)⟩,
    ⟨some 38, none, none, .fad 2 (.t 37)⟩,
    ⟨some 39, none, some (0, 0), .ld false 1 (.t 38)⟩,
    ⟨some 40, none, none, .mv (.t 8)⟩,
    ⟨some 41, none, none, .iad 4 (.t 39) (.t 40)⟩,
    ⟨some 42, none, none, .fad 0 (.t 41)⟩,
    ⟨some 43, none, some (0, 0), .ld false 1 (.t 42)⟩,
    ⟨some 9, none, none, .mv (.t 34)⟩,
    ⟨some 10, none, none, .mv (.t 43)⟩])
  (.seq (.ops [⟨some 44, none, none, .mv (.t 0)⟩,
    ⟨some 45, none, none, .mv (.t 9)⟩,
    ⟨some 46, none, none, .call (.c (.fn 119 [] [])) [.t 44, .t 45]⟩,
    ⟨some 47, none, none, .mv (.t 10)⟩,
    ⟨some 48, none, none, .call (.c (.fn 61 [] [])) [.t 46, .t 47]⟩,
    ⟨some 49, none, none, .mv (.t 48)⟩,
    ⟨some 50, some (49, false), none, .mv (.t 0)⟩,
    ⟨some 51, some (49, false), none, .mv (.t 10)⟩,
    ⟨some 52, some (49, false), none, .call (.c (.fn 119 [] [])) [.t 50, .t 51]⟩,
    ⟨some 53, some (49, false), none, .mv (.t 9)⟩,
    ⟨some 54, some (49, false), none, .call (.c (.fn 61 [] [])) [.t 52, .t 53]⟩,
    ⟨some 55, none, none, .pick (.t 49) (.c (.bool true)) (.t 54)⟩])
  (.cond (.t 55) (.seq (.ops [⟨some 4, none, none, .mv (.c (.bool false))⟩])
  (.ret))
  (.skip))))))
  (.ops [⟨some 56, none, none, .ar .add (.t 22) (.c (.int .i64 1))⟩,
    ⟨some 22, none, none, .mv (.t 56)⟩])))))))))
  (.ops [⟨some 57, none, none, .ar .add (.t 13) (.c (.int .i64 1))⟩,
    ⟨some 13, none, none, .mv (.t 57)⟩])))))))
  (.seq (.ops [⟨some 4, none, none, .mv (.c (.bool true))⟩])
  (.ret)))⟩
def c140 : FD := ⟨6, [.tmp 4],
  .seq (.ops [⟨some 2, none, none, .box (.t 0)⟩,
    ⟨some 3, none, none, .box (.t 1)⟩,
    ⟨some 4, none, none, .mv (.c (.nilf))⟩])
  (.seq (.ops [⟨some 5, none, none, .mkf 156 [] [.t 2, .t 3]⟩,
    ⟨some 4, none, none, .mv (.t 5)⟩])
  (.ret))⟩
def c141 : FD := ⟨19, [.tmp 4],
  .seq (.ops [⟨some 4, none, none, .mv (.c (.bool false))⟩])
  (.seq (.dops [⟨some 5, none, some (0, 0), .ld false 1 (.t 1)⟩,
    ⟨some 6, none, some (0, 0), .ld false 1 (.t 2)⟩,
    ⟨some 7, none, none, .call (.c (.fn 119 [] [])) [.t 5, .t 6]⟩,
    ⟨some 8, none, some (0, 1), .ld false 1 (.t 1)⟩,
    ⟨some 9, none, none, .chk (.t 8)⟩,
    ⟨some 10, none, none, .fad 0 (.t 9)⟩,
    ⟨some 11, none, none, .fad 2 (.t 10)⟩,
    ⟨some 12, none, some (0, 1), .ld false 1 (.t 11)⟩,
    ⟨some 13, none, none, .mv (.t 0)⟩,
    ⟨some 14, none, none, .iad 4 (.t 12) (.t 13)⟩,
    ⟨some 15, none, none, .fad 0 (.t 14)⟩,
    ⟨some 16, none, some (0, 1), .ld false 1 (.t 15)⟩,
    ⟨some 17, none, none, .call (.c (.fn 61 [] [])) [.t 7, .t 16]⟩,
    ⟨some 18, none, none, .not (.t 17)⟩,
    ⟨some 4, none, none, .mv (.t 18)⟩])
  (.ret))⟩
def c142 : FD := ⟨19, [.tmp 4],
  .seq (.ops [⟨some 4, none, none, .mv (.c (.int .i64 0))⟩])
  (.seq (.seq (.ops [⟨some 6, none, none, .mv (.t 0)⟩,
    ⟨some 7, none, none, .len (.t 6)⟩,
    ⟨some 8, none, none, .mv (.c (.int .i64 0))⟩])
  (.block 0 (.loop (.seq (.ops [⟨some 9, none, none, .ar .lss (.t 8) (.t 7)⟩])
  (.seq (.cond (.t 9) (.skip)
  (.exit 0))
  (.seq (.block 1 (.seq (.ops [⟨some 10, none, none, .mv (.t 8)⟩,
    ⟨some 5, none, none, .mv (.t 10)⟩])
  (.seq (.ops [⟨some 11, none, none, .mv (.t 1)⟩,
    ⟨some 12, none, none, .mv (.t 0)⟩,
    ⟨some 13, none, none, .mv (.t 5)⟩,
    ⟨some 14, none, none, .iad 2 (.t 12) (.t 13)⟩,
    ⟨some 15, none, none, .ld true 2 (.t 14)⟩,
    ⟨some 16, none, none, .call (.t 11) [.t 15]⟩])
  (.cond (.t 16) (.seq (.ops [⟨some 17, none, none, .mv (.t 5)⟩,
    ⟨some 4, none, none, .mv (.t 17)⟩])
  (.ret))
  (.skip)))))
  (.ops [⟨some 18, none, none, .ar .add (.t 8) (.c (.int .i64 1))⟩,
    ⟨some 8, none, none, .mv (.t 18)⟩])))))))
  (.seq (.ops [⟨some 4, none, none, .mv (.c (.int .i64 (-1)))⟩])
  (.ret)))⟩
def c143 : FD := ⟨10, [.tmp 4],
  .seq (.ops [⟨some 4, none, none, .mv (.c (.bool false))⟩])
  (.seq (.dops [⟨some 5, none, some (0, 0), .ld false 1 (.t 1)⟩,
    ⟨some 6, none, none, .mv (.t 0)⟩,
    ⟨some 7, none, none, .call (.c (.fn 61 [] [])) [.t 5, .t 6]⟩,
    ⟨some 8, none, some (0, 1), .ld false 1 (.t 2)⟩,
    ⟨some 9, none, none, .beq true (.t 7) (.t 8)⟩,
    ⟨some 4, none, none, .mv (.t 9)⟩])
  (.ret))⟩
def c144 : FD := ⟨39, [.tmp 9],
  .seq (.ops [⟨some 9, none, none, .mv (.c (.bool false))⟩])
  (.seq (.seq (.ops [⟨some 11, none, none, .mv (.t 0)⟩,
    ⟨some 12, none, none, .len (.t 11)⟩,
    ⟨some 13, none, none, .ld false 1 (.t 2)⟩,
    ⟨some 14, none, none, .ar .eql (.t 12) (.t 13)⟩])
  (.cond (.t 14) (.seq (.ops [⟨some 15, none, none, .mv (.t 0)⟩,
    ⟨none, none, none, .sto 1 (.t 3) (.t 15)⟩])
  (.seq (.ops [⟨some 16, none, none, .ld false 1 (.t 4)⟩,
    ⟨some 17, none, none, .mv (.t 0)⟩,
    ⟨some 18, none, none, .call (.t 16) [.t 17]⟩,
    ⟨some 9, none, none, .mv (.t 18)⟩])
  (.ret)))
  (.skip)))
  (.seq (.seq (.ops [⟨some 19, none, none, .mv (.t 1)⟩,
    ⟨some 10, none, none, .mv (.t 19)⟩])
  (.block 0 (.loop (.seq (.seq (.ops [⟨some 20, none, none, .mv (.t 10)⟩,
    ⟨some 21, none, none, .ld false 1 (.t 5)⟩,
    ⟨some 22, none, none, .chk (.t 21)⟩,
    ⟨some 23, none, none, .fad 0 (.t 22)⟩,
    ⟨some 24, none, none, .fad 2 (.t 23)⟩,
    ⟨some 25, none, none, .ld false 1 (.t 24)⟩,
    ⟨some 26, none, none, .len (.t 25)⟩,
    ⟨some 27, none, none, .ar .lss (.t 20) (.t 26)⟩])
  (.cond (.t 27) (.skip)
  (.exit 0)))
  (.seq (.block 1 (.seq (.dops [⟨some 30, none, some (0, 2), .ld false 1 (.t 6)⟩,
    ⟨some 31, none, none, .mv (.t 0)⟩,
    ⟨some 32, none, none, .call (.c (.fn 63 [] [])) [.t 31]⟩,
    ⟨some 33, none, none, .mv (.t 10)⟩,
    ⟨some 34, none, none, .bsl 1 [.int .i64 0] [(0, 1, .t 33)]⟩,
    ⟨some 35, none, none, .app 1 8 (.t 32) (.t 34)⟩,
    ⟨some 36, none, none, .mv (.t 10)⟩,
    ⟨some 37, none, none, .ar .add (.t 36) (.c (.int .i64 1))⟩,
    ⟨some 38, none, none, .call (.t 30) [.t 35, .t 37]⟩])
  (.cond (.t 38) (.seq (.ops [⟨some 9, none, none, .mv (.c (.bool true))⟩])
  (.ret))
  (.skip))))
  (.ops [⟨some 28, none, none, .mv (.t 10)⟩,
    ⟨some 29, none, none, .ar .add (.t 28) (.c (.int .i64 1))⟩,
    ⟨some 10, none, none, .mv (.t 29)⟩]))))))
  (.seq (.ops [⟨some 9, none, none, .mv (.c (.bool false))⟩])
  (.ret))))⟩
def c145 : FD := ⟨8, [.tmp 2],
  .seq (.ops [⟨some 2, none, none, .mv (.c (.nils))⟩])
  (.seq (.seq (.ops [⟨some 3, none, none, .mv (.t 0)⟩,
    ⟨some 4, none, none, .isn false (.t 3)⟩])
  (.cond (.t 4) (.seq (.ops [⟨some 2, none, none, .mv (.c (.nils))⟩])
  (.ret))
  (.skip)))
  (.seq (.ops [⟨some 5, none, none, .bsl 0 [] []⟩,
    ⟨some 6, none, none, .mv (.t 0)⟩,
    ⟨some 7, none, none, .app 2 16 (.t 5) (.t 6)⟩,
    ⟨some 2, none, none, .mv (.t 7)⟩])
  (.ret)))⟩
def c146 : FD := ⟨9, [.tmp 4],
  .seq (.ops [⟨some 4, none, none, .mv (.c (.bool false))⟩])
  (.seq (.ops [⟨some 5, none, none, .mv (.t 0)⟩,
    ⟨some 6, none, none, .mv (.t 1)⟩,
    ⟨some 7, none, none, .call (.c (.fn 158 [] [])) [.t 5, .t 6]⟩,
    ⟨some 8, none, none, .ar .geq (.t 7) (.c (.int .i64 0))⟩,
    ⟨some 4, none, none, .mv (.t 8)⟩])
  (.ret))⟩
def c147 : FD := ⟨8, [.tmp 3],
  .seq (.ops [⟨some 3, none, none, .mv (.c (.bool false))⟩])
  (.seq (.ops [⟨some 4, none, none, .ld false 1 (.t 1)⟩,
    ⟨some 5, none, none, .mv (.t 0)⟩,
    ⟨some 6, none, none, .call (.t 4) [.t 5]⟩,
    ⟨some 7, none, none, .not (.t 6)⟩,
    ⟨some 3, none, none, .mv (.t 7)⟩])
  (.ret))⟩
def c148 : FD := ⟨8, [.tmp 3],
  .seq (.ops [⟨some 2, none, none, .box (.t 0)⟩,
    ⟨some 3, none, none, .mv (.c (.bool false))⟩])
  (.seq (.ops [⟨some 4, none, none, .ld false 1 (.t 1)⟩,
    ⟨some 5, none, none, .ld true 4 (.t 2)⟩,
    ⟨some 6, none, none, .call (.t 4) [.t 5]⟩,
    ⟨some 7, none, none, .not (.t 6)⟩,
    ⟨some 3, none, none, .mv (.t 7)⟩])
  (.ret))⟩
def c149 : FD := ⟨8, [.tmp 3],
  .seq (.ops [⟨some 2, none, none, .box (.t 0)⟩,
    ⟨some 3, none, none, .mv (.c (.bool false))⟩])
  (.seq (.ops [⟨some 4, none, none, .ld false 1 (.t 1)⟩,
    ⟨some 5, none, none, .ld true 2 (.t 2)⟩,
    ⟨some 6, none, none, .call (.t 4) [.t 5]⟩,
    ⟨some 7, none, none, .not (.t 6)⟩,
    ⟨some 3, none, none, .mv (.t 7)⟩])
  (.ret))⟩
def c151 : FD := ⟨3, [.tmp 2],
  .seq (.ops [⟨some 2, none, none, .mv (.c (.bool false))⟩])
  (.seq (.ops [⟨some 2, none, none, .mv (.c (.bool true))⟩])
  (.ret))⟩
def c152 : FD := ⟨30, [],
  .seq (.dops [⟨some 8, none, none, .mv (.t 0)⟩,
    ⟨some 9, none, none, .iaa 12 2 (.t 3) (.t 8)⟩,
    ⟨some 10, none, none, .fad 0 (.t 9)⟩,
    ⟨some 11, none, some (0, 1), .ld false 1 (.t 10)⟩,
    ⟨some 12, none, none, .mv (.t 1)⟩,
    ⟨some 13, none, none, .mx [.t 11, .t 12]⟩,
    ⟨some 14, none, none, .mv (.t 0)⟩,
    ⟨some 15, none, none, .iaa 12 2 (.t 3) (.t 14)⟩,
    ⟨some 16, none, none, .fad 1 (.t 15)⟩,
    ⟨some 17, none, some (0, 0), .ld false 1 (.t 16)⟩,
    ⟨some 18, none, none, .mv (.t 2)⟩,
    ⟨some 19, none, none, .bsl 1 [.int .i64 0] [(0, 1, .t 18)]⟩,
    ⟨some 20, none, none, .call (.c (.fn 131 [] [])) [.t 17, .t 19]⟩,
    ⟨some 21, none, none, .bld [.int .i64 0, .int .i64 0] [(0, 1, .t 13), (1, 1, .t 20)]⟩,
    ⟨some 7, none, none, .alc [.int .i64 0, .int .i64 0]⟩,
    ⟨none, none, none, .sto 2 (.t 7) (.t 21)⟩])
  (.seq (.dops [⟨some 22, none, some (0, 0), .ld true 2 (.t 7)⟩,
    ⟨some 23, none, none, .mv (.t 0)⟩,
    ⟨some 24, none, none, .iaa 12 2 (.t 3) (.t 23)⟩,
    ⟨some 25, none, some (0, 0), .ld true 2 (.t 24)⟩,
    ⟨some 26, none, none, .feq true 2 (.t 22) (.t 25)⟩])
  (.cond (.t 26) (.ops [⟨some 27, none, none, .mv (.t 0)⟩,
    ⟨some 28, none, none, .ld true 2 (.t 7)⟩,
    ⟨some 29, none, none, .iaa 12 2 (.t 3) (.t 27)⟩,
    ⟨none, none, none, .sto 2 (.t 29) (.t 28)⟩])
  (.skip)))⟩
def c153 : FD := ⟨19, [.tmp 4],
  .seq (.ops [⟨some 4, none, none, .mv (.c (.int .i64 0))⟩])
  (.seq (.seq (.ops [⟨some 6, none, none, .mv (.t 0)⟩,
    ⟨some 7, none, none, .len (.t 6)⟩,
    ⟨some 8, none, none, .mv (.c (.int .i64 0))⟩])
  (.block 0 (.loop (.seq (.ops [⟨some 9, none, none, .ar .lss (.t 8) (.t 7)⟩])
  (.seq (.cond (.t 9) (.skip)
  (.exit 0))
  (.seq (.block 1 (.seq (.ops [⟨some 10, none, none, .mv (.t 8)⟩,
    ⟨some 5, none, none, .mv (.t 10)⟩])
  (.seq (.ops [⟨some 11, none, none, .mv (.t 1)⟩,
    ⟨some 12, none, none, .mv (.t 0)⟩,
    ⟨some 13, none, none, .mv (.t 5)⟩,
    ⟨some 14, none, none, .iad 4 (.t 12) (.t 13)⟩,
    ⟨some 15, none, none, .ld true 4 (.t 14)⟩,
    ⟨some 16, none, none, .call (.t 11) [.t 15]⟩])
  (.cond (.t 16) (.seq (.ops [⟨some 17, none, none, .mv (.t 5)⟩,
    ⟨some 4, none, none, .mv (.t 17)⟩])
  (.ret))
  (.skip)))))
  (.ops [⟨some 18, none, none, .ar .add (.t 8) (.c (.int .i64 1))⟩,
    ⟨some 8, none, none, .mv (.t 18)⟩])))))))
  (.seq (.ops [⟨some 4, none, none, .mv (.c (.int .i64 (-1)))⟩])
  (.ret)))⟩
def c154 : FD := ⟨9, [.tmp 4],
  .seq (.ops [⟨some 4, none, none, .mv (.c (.bool false))⟩])
  (.seq (.ops [⟨some 5, none, none, .mv (.t 0)⟩,
    ⟨some 6, none, none, .mv (.t 1)⟩,
    ⟨some 7, none, none, .call (.c (.fn 159 [] [])) [.t 5, .t 6]⟩,
    ⟨some 8, none, none, .ar .geq (.t 7) (.c (.int .i64 0))⟩,
    ⟨some 4, none, none, .mv (.t 8)⟩])
  (.ret))⟩
def c155 : FD := ⟨8, [.tmp 3],
  .seq (.ops [⟨some 2, none, none, .box (.t 0)⟩,
    ⟨some 3, none, none, .mv (.c (.bool false))⟩])
  (.seq (.ops [⟨some 4, none, none, .ld false 1 (.t 1)⟩,
    ⟨some 5, none, none, .ld true 2 (.t 2)⟩,
    ⟨some 6, none, none, .call (.t 4) [.t 5]⟩,
    ⟨some 7, none, none, .not (.t 6)⟩,
    ⟨some 3, none, none, .mv (.t 7)⟩])
  (.ret))⟩
def c156 : FD := ⟨9, [],
  .seq (.ops [⟨some 3, none, none, .box (.t 0)⟩])
  (.seq (.ops [⟨some 4, none, none, .alc [.nilf]⟩])
  (.seq (.ops [⟨some 5, none, none, .mkf 157 [] [.t 1, .t 3, .t 4]⟩,
    ⟨none, none, none, .sto 1 (.t 4) (.t 5)⟩])
  (.ops [⟨some 6, none, none, .ld false 1 (.t 4)⟩,
    ⟨some 7, none, none, .ld false 1 (.t 2)⟩,
    ⟨some 8, none, none, .call (.t 6) [.t 7]⟩])))⟩
def c157 : FD := ⟨25, [.tmp 5],
  .seq (.ops [⟨some 5, none, none, .mv (.c (.bool false))⟩])
  (.seq (.seq (.ops [⟨some 6, none, none, .ld false 1 (.t 1)⟩,
    ⟨some 7, none, none, .chk (.t 6)⟩,
    ⟨some 8, none, none, .fad 3 (.t 7)⟩,
    ⟨some 9, none, none, .ld false 1 (.t 8)⟩,
    ⟨some 10, none, none, .mv (.t 0)⟩,
    ⟨some 11, none, none, .lkp none (.nils) (.t 9) (.t 10) false⟩,
    ⟨some 12, none, none, .len (.t 11)⟩,
    ⟨some 13, none, none, .ar .eql (.t 12) (.c (.int .i64 0))⟩])
  (.cond (.t 13) (.seq (.ops [⟨some 14, none, none, .ld false 1 (.t 2)⟩,
    ⟨some 15, none, none, .mv (.t 0)⟩,
    ⟨some 16, none, none, .call (.t 14) [.t 15]⟩,
    ⟨some 5, none, none, .mv (.t 16)⟩])
  (.ret))
  (.skip)))
  (.seq (.dops [⟨some 17, none, some (0, 0), .ld false 1 (.t 1)⟩,
    ⟨some 18, none, none, .chk (.t 17)⟩,
    ⟨some 19, none, none, .fad 3 (.t 18)⟩,
    ⟨some 20, none, some (0, 0), .ld false 1 (.t 19)⟩,
    ⟨some 21, none, none, .mv (.t 0)⟩,
    ⟨some 22, none, some (0, 0), .lkp none (.nils) (.t 20) (.t 21) false⟩,
    ⟨some 23, none, some (0, 0), .ld false 1 (.t 3)⟩,
    ⟨some 24, none, none, .call (.c (.fn 92 [] [])) [.t 22, .t 23]⟩,
    ⟨some 5, none, none, .mv (.t 24)⟩])
  (.ret)))⟩
def c158 : FD := ⟨19, [.tmp 4],
  .seq (.ops [⟨some 4, none, none, .mv (.c (.int .i64 0))⟩])
  (.seq (.seq (.ops [⟨some 6, none, none, .mv (.t 0)⟩,
    ⟨some 7, none, none, .len (.t 6)⟩,
    ⟨some 8, none, none, .mv (.c (.int .i64 0))⟩])
  (.block 0 (.loop (.seq (.ops [⟨some 9, none, none, .ar .lss (.t 8) (.t 7)⟩])
  (.seq (.cond (.t 9) (.skip)
  (.exit 0))
  (.seq (.block 1 (.seq (.ops [⟨some 10, none, none, .mv (.t 8)⟩,
    ⟨some 5, none, none, .mv (.t 10)⟩])
  (.seq (.ops [⟨some 11, none, none, .mv (.t 1)⟩,
    ⟨some 12, none, none, .mv (.t 0)⟩,
    ⟨some 13, none, none, .mv (.t 5)⟩,
    ⟨some 14, none, none, .iad 1 (.t 12) (.t 13)⟩,
    ⟨some 15, none, none, .ld false 1 (.t 14)⟩,
    ⟨some 16, none, none, .call (.t 11) [.t 15]⟩])
  (.cond (.t 16) (.seq (.ops [⟨some 17, none, none, .mv (.t 5)⟩,
    ⟨some 4, none, none, .mv (.t 17)⟩])
  (.ret))
  (.skip)))))
  (.ops [⟨some 18, none, none, .ar .add (.t 8) (.c (.int .i64 1))⟩,
    ⟨some 8, none, none, .mv (.t 18)⟩])))))))
  (.seq (.ops [⟨some 4, none, none, .mv (.c (.int .i64 (-1)))⟩])
  (.ret)))⟩
def c159 : FD := ⟨19, [.tmp 4],
  .seq (.ops [⟨some 4, none, none, .mv (.c (.int .i64 0))⟩])
  (.seq (.seq (.ops [⟨some 6, none, none, .mv (.t 0)⟩,
    ⟨some 7, none, none, .len (.t 6)⟩,
    ⟨some 8, none, none, .mv (.c (.int .i64 0))⟩])
  (.block 0 (.loop (.seq (.ops [⟨some 9, none, none, .ar .lss (.t 8) (.t 7)⟩])
  (.seq (.cond (.t 9) (.skip)
  (.exit 0))
  (.seq (.block 1 (.seq (.ops [⟨some 10, none, none, .mv (.t 8)⟩,
    ⟨some 5, none, none, .mv (.t 10)⟩])
  (.seq (.ops [⟨some 11, none, none, .mv (.t 1)⟩,
    ⟨some 12, none, none, .mv (.t 0)⟩,
    ⟨some 13, none, none, .mv (.t 5)⟩,
    ⟨some 14, none, none, .iad 2 (.t 12) (.t 13)⟩,
    ⟨some 15, none, none, .ld true 2 (.t 14)⟩,
    ⟨some 16, none, none, .call (.t 11) [.t 15]⟩])
  (.cond (.t 16) (.seq (.ops [⟨some 17, none, none, .mv (.t 5)⟩,
    ⟨some 4, none, none, .mv (.t 17)⟩])
  (.ret))
  (.skip)))))
  (.ops [⟨some 18, none, none, .ar .add (.t 8) (.c (.int .i64 1))⟩,
    ⟨some 8, none, none, .mv (.t 18)⟩])))))))
  (.seq (.ops [⟨some 4, none, none, .mv (.c (.int .i64 (-1)))⟩])
  (.ret)))⟩
def fnT : T FD := (.node none (.node none (.node none (.node none (.node none (.node (some c31) (.node (some c63) (.node (some c127) .nil .nil) .nil) (.node (some c95) (.node (some c159) .nil .nil) .nil)) (.node (some c47) (.node (some c79) (.node (some c143) .nil .nil) .nil) (.node (some c111) .nil .nil))) (.node none (.node (some c39) (.node none (.node (some c135) .nil .nil) .nil) .nil) (.node (some c55) (.node (some c87) (.node (some c151) .nil .nil) .nil) (.node (some c119) .nil .nil)))) (.node none (.node (some c19) (.node none (.node (some c67) (.node (some c131) .nil .nil) .nil) (.node (some c99) .nil .nil)) (.node none (.node (some c83) (.node (some c147) .nil .nil) .nil) (.node (some c115) .nil .nil))) (.node (some c27) (.node none (.node (some c75) (.node (some c139) .nil .nil) .nil) (.node (some c107) .nil .nil)) (.node none (.node (some c91) (.node (some c155) .nil .nil) .nil) (.node (some c123) .nil .nil))))) (.node none (.node none (.node (some c17) (.node none .nil (.node (some c97) .nil .nil)) (.node none (.node (some c81) (.node (some c145) .nil .nil) .nil) (.node (some c113) .nil .nil))) (.node (some c25) (.node (some c41) (.node (some c73) (.node (some c137) .nil .nil) .nil) (.node (some c105) .nil .nil)) (.node (some c57) (.node (some c89) (.node (some c153) .nil .nil) .nil) (.node (some c121) .nil .nil)))) (.node (some c13) (.node none (.node none (.node none (.node (some c133) .nil .nil) .nil) .nil) (.node (some c53) (.node none (.node (some c149) .nil .nil) .nil) (.node (some c117) .nil .nil))) (.node (some c29) (.node none (.node none (.node (some c141) .nil .nil) .nil) .nil) (.node (some c61) (.node (some c93) (.node (some c157) .nil .nil) .nil) (.node (some c125) .nil .nil)))))) (.node none (.node none (.node none (.node (some c16) (.node none (.node (some c64) .nil .nil) (.node (some c96) .nil .nil)) (.node (some c48) (.node (some c80) (.node (some c144) .nil .nil) .nil) (.node (some c112) .nil .nil))) (.node none (.node none (.node (some c72) (.node (some c136) .nil .nil) .nil) .nil) (.node (some c56) (.node (some c88) (.node (some c152) .nil .nil) .nil) .nil))) (.node none (.node (some c20) (.node (some c36) (.node none (.node (some c132) .nil .nil) .nil) .nil) (.node none (.node (some c84) (.node (some c148) .nil .nil) .nil) (.node (some c116) .nil .nil))) (.node none (.node none (.node none (.node (some c140) .nil .nil) .nil) (.node (some c108) .nil .nil)) (.node none (.node (some c92) (.node (some c156) .nil .nil) .nil) (.node (some c124) .nil .nil))))) (.node none (.node none (.node (some c18) (.node none (.node (some c66) .nil .nil) (.node (some c98) .nil .nil)) (.node (some c50) (.node (some c82) (.node (some c146) .nil .nil) .nil) (.node (some c114) .nil .nil))) (.node (some c26) (.node (some c42) (.node (some c74) (.node (some c138) .nil .nil) .nil) (.node (some c106) .nil .nil)) (.node (some c58) (.node (some c90) (.node (some c154) .nil .nil) .nil) (.node (some c122) .nil .nil)))) (.node none (.node none (.node (some c38) (.node none (.node (some c134) .nil .nil) .nil) .nil) (.node (some c54) .nil (.node (some c118) .nil .nil))) (.node (some c30) (.node none (.node (some c78) (.node (some c142) .nil .nil) .nil) (.node (some c110) .nil .nil)) (.node none (.node (some c94) (.node (some c158) .nil .nil) .nil) (.node (some c126) .nil .nil)))))))
def ty3 : TD := ⟨.int .i64, 1, 8, [.int .i64 0]⟩
def ty4 : TD := ⟨.bool, 1, 1, [.bool false]⟩
def ty22 : TD := ⟨.slice 44, 1, 24, [.nils]⟩
def ty23 : TD := ⟨.slice 70, 1, 24, [.nils]⟩
def ty25 : TD := ⟨.struct [(0, 3), (1, 22), (2, 23)], 3, 56, [.int .i64 0, .nils, .nils]⟩
def ty26 : TD := ⟨.int .i64, 1, 8, [.int .i64 0]⟩
def ty30 : TD := ⟨.slice 125, 1, 24, [.nils]⟩
def ty31 : TD := ⟨.slice 115, 1, 24, [.nils]⟩
def ty33 : TD := ⟨.struct [(0, 3), (1, 30), (2, 31)], 3, 56, [.int .i64 0, .nils, .nils]⟩
def ty35 : TD := ⟨.int .i64, 1, 8, [.int .i64 0]⟩
def ty38 : TD := ⟨.struct [(0, 3), (1, 3)], 2, 16, [.int .i64 0, .int .i64 0]⟩
def ty44 : TD := ⟨.struct [(0, 3), (1, 26)], 2, 16, [.int .i64 0, .int .i64 0]⟩
def ty51 : TD := ⟨.slice 3, 1, 24, [.nils]⟩
def ty53 : TD := ⟨.struct [(0, 3), (1, 51), (2, 51)], 3, 56, [.int .i64 0, .nils, .nils]⟩
def ty70 : TD := ⟨.struct [(0, 3), (1, 3), (2, 38)], 4, 32, [.int .i64 0, .int .i64 0, .int .i64 0, .int .i64 0]⟩
def ty71 : TD := ⟨.slice 38, 1, 24, [.nils]⟩
def ty101 : TD := ⟨.slice 26, 1, 24, [.nils]⟩
def ty109 : TD := ⟨.func, 1, 8, [.nilf]⟩
def ty110 : TD := ⟨.func, 1, 8, [.nilf]⟩
def ty111 : TD := ⟨.func, 1, 8, [.nilf]⟩
def ty115 : TD := ⟨.struct [(0, 3), (1, 3), (2, 38)], 4, 32, [.int .i64 0, .int .i64 0, .int .i64 0, .int .i64 0]⟩
def ty125 : TD := ⟨.struct [(0, 3), (1, 3)], 2, 16, [.int .i64 0, .int .i64 0]⟩
def ty131 : TD := ⟨.func, 1, 8, [.nilf]⟩
def ty132 : TD := ⟨.ptr 139, 1, 8, [.nilp]⟩
def ty134 : TD := ⟨.arr 12 38, 24, 192, [.int .i64 0, .int .i64 0, .int .i64 0, .int .i64 0, .int .i64 0, .int .i64 0, .int .i64 0, .int .i64 0, .int .i64 0, .int .i64 0, .int .i64 0, .int .i64 0, .int .i64 0, .int .i64 0, .int .i64 0, .int .i64 0, .int .i64 0, .int .i64 0, .int .i64 0, .int .i64 0, .int .i64 0, .int .i64 0, .int .i64 0, .int .i64 0]⟩
def ty137 : TD := ⟨.map 3 51, 1, 8, [.nilm]⟩
def ty139 : TD := ⟨.struct [(0, 25), (3, 137)], 4, 64, [.int .i64 0, .nils, .nils, .nilm]⟩
def ty147 : TD := ⟨.struct [(0, 3), (1, 51)], 2, 32, [.int .i64 0, .nils]⟩
def ty157 : TD := ⟨.func, 1, 8, [.nilf]⟩
def ty166 : TD := ⟨.func, 1, 8, [.nilf]⟩
def ty173 : TD := ⟨.struct [(0, 109)], 1, 8, [.nilf]⟩
def ty178 : TD := ⟨.slice 147, 1, 24, [.nils]⟩
def ty181 : TD := ⟨.func, 1, 8, [.nilf]⟩
def tyT : T TD := (.node none (.node none (.node (some ty3) (.node none (.node none (.node (some ty31) .nil .nil) (.node none .nil (.node (some ty111) .nil .nil))) (.node (some ty23) (.node none (.node (some ty71) .nil .nil) .nil) .nil)) (.node none (.node none (.node (some ty35) (.node none (.node (some ty131) .nil .nil) .nil) .nil) (.node (some ty51) (.node none (.node (some ty147) .nil .nil) .nil) (.node (some ty115) .nil .nil))) (.node none (.node none (.node none (.node (some ty139) .nil .nil) .nil) .nil) .nil))) (.node none (.node none (.node none (.node (some ty33) .nil .nil) .nil) (.node (some ty25) (.node none (.node none (.node (some ty137) .nil .nil) .nil) .nil) .nil)) (.node none (.node none (.node none .nil (.node (some ty101) .nil .nil)) (.node (some ty53) .nil (.node none (.node (some ty181) .nil .nil) .nil))) (.node none (.node none .nil (.node (some ty109) (.node (some ty173) .nil .nil) .nil)) (.node none (.node none (.node (some ty157) .nil .nil) .nil) (.node (some ty125) .nil .nil)))))) (.node none (.node (some ty4) .nil (.node none (.node none (.node none (.node none (.node (some ty132) .nil .nil) .nil) .nil) .nil) (.node none (.node (some ty44) .nil .nil) .nil))) (.node none (.node none (.node none .nil (.node none .nil (.node none (.node (some ty178) .nil .nil) .nil))) (.node (some ty26) .nil .nil)) (.node none (.node (some ty22) (.node (some ty38) (.node (some ty70) (.node (some ty134) .nil .nil) .nil) (.node none (.node (some ty166) .nil .nil) .nil)) .nil) (.node (some ty30) (.node none .nil (.node (some ty110) .nil .nil)) .nil)))))
end Go.Ab.Try
