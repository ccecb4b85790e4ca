/- The code of the functions, as our machine has it (printed by a program out of the loaded text). -/
import Derived.Test.YthoghcpemmfebaaAb3
namespace Go.Ab.Try
def c3 : FD := ⟨84, [.tmp 4],
  .seq (.ops [⟨some 2, none, none, .box (.t 0)⟩,
    ⟨some 4, none, none, .mv (.c (.bool false))⟩])
  (.seq (.seq (.ops [⟨some 14, none, none, .ld true 3 (.t 2)⟩,
    ⟨some 15, none, none, .call (.c (.fn 16 [] [])) [.t 14]⟩])
  (.cond (.t 15) (.seq (.ops [⟨some 16, none, none, .call (.c (.fn 17 [] [])) []⟩,
    ⟨some 4, none, none, .mv (.t 16)⟩])
  (.ret))
  (.skip)))
  (.seq (.dops [⟨some 17, none, some (0, 0), .ld true 3 (.t 2)⟩,
    ⟨some 18, none, none, .call (.c (.fn 18 [] [])) [.t 17]⟩,
    ⟨some 19, none, some (0, 1), .ld true 3 (.t 2)⟩,
    ⟨some 20, none, none, .call (.c (.fn 19 [] [])) [.t 19]⟩,
    ⟨some 5, none, none, .alc [.int .i64 0, .nils, .nils]⟩,
    ⟨some 6, none, none, .alc [.int .i64 0, .nils, .nils]⟩,
    ⟨none, none, none, .sto 3 (.t 5) (.t 18)⟩,
    ⟨none, none, none, .sto 3 (.t 6) (.t 20)⟩])
  (.seq (.ops [⟨some 21, none, none, .ld true 3 (.t 6)⟩,
    ⟨some 22, none, none, .call (.c (.fn 20 [] [])) [.t 21]⟩,
    ⟨some 7, none, none, .mv (.t 22)⟩])
  (.seq (.ops [⟨some 8, none, none, .alc [.int .i64 0, .int .i64 0]⟩])
  (.seq (.seq (.ops [⟨some 23, none, none, .mv (.t 7)⟩,
    ⟨some 24, none, none, .ar .eql (.t 23) (.c (.int .i64 0))⟩])
  (.cond (.t 24) (.seq (.dops [⟨some 25, none, some (0, 1), .ld true 3 (.t 6)⟩,
    ⟨some 26, none, some (0, 0), .ld true 3 (.t 6)⟩,
    ⟨some 27, none, none, .call (.c (.fn 22 [] [])) [.t 26]⟩,
    ⟨some 28, none, none, .call (.c (.fn 21 [] [])) [.t 25, .t 27]⟩,
    ⟨some 9, none, none, .mv (.t 28)⟩])
  (.block 0 (.seq (.ops [⟨some 53, none, none, .mv (.t 1)⟩,
    ⟨some 54, none, none, .ar .lss (.t 53) (.c (.int .i64 0))⟩,
    ⟨some 55, none, none, .mv (.t 54)⟩,
    ⟨some 56, some (55, false), none, .mv (.t 1)⟩,
    ⟨some 57, some (55, false), none, .ar .gtr (.t 56) (.c (.int .i64 3))⟩,
    ⟨some 58, none, none, .pick (.t 55) (.c (.bool true)) (.t 57)⟩,
    ⟨some 52, none, none, .mv (.t 58)⟩])
  (.cond (.t 52) (.ops [⟨some 7, none, none, .mv (.c (.int .i64 3))⟩])
  (.seq (.ops [⟨some 60, none, none, .mv (.t 9)⟩,
    ⟨some 61, none, none, .not (.t 60)⟩,
    ⟨some 59, none, none, .mv (.t 61)⟩])
  (.cond (.t 59) (.ops [⟨some 7, none, none, .mv (.c (.int .i64 7))⟩])
  (.seq (.seq (.ops [⟨some 29, none, none, .fad 1 (.t 2)⟩,
    ⟨some 30, none, none, .ld false 1 (.t 29)⟩,
    ⟨some 31, none, none, .len (.t 30)⟩,
    ⟨some 32, none, none, .mv (.c (.int .i64 0))⟩])
  (.block 1 (.loop (.seq (.ops [⟨some 33, none, none, .ar .lss (.t 32) (.t 31)⟩])
  (.seq (.cond (.t 33) (.skip)
  (.exit 1))
  (.seq (.block 2 (.seq (.ops [⟨some 34, none, none, .mv (.t 32)⟩,
    ⟨some 35, none, none, .iad 2 (.t 30) (.t 32)⟩,
    ⟨some 36, none, none, .ld true 2 (.t 35)⟩,
    ⟨some 11, none, none, .alc [.int .i64 0, .int .i64 0]⟩,
    ⟨some 10, none, none, .mv (.t 34)⟩,
    ⟨none, none, none, .sto 2 (.t 11) (.t 36)⟩])
  (.seq (.ops [⟨some 37, none, none, .fad 0 (.t 11)⟩,
    ⟨some 38, none, none, .ld false 1 (.t 37)⟩,
    ⟨some 39, none, none, .ar .eql (.t 38) (.c (.int .i64 (-1)))⟩,
    ⟨some 40, none, none, .mv (.t 39)⟩,
    ⟨some 41, some (40, true), none, .ld true 3 (.t 6)⟩,
    ⟨some 42, some (40, true), none, .mv (.t 10)⟩,
    ⟨some 43, some (40, true), none, .call (.c (.fn 23 [] [])) [.t 41, .t 42]⟩,
    ⟨some 44, some (40, true), none, .fld false 1 1 (.t 43)⟩,
    ⟨some 45, some (40, true), none, .ar .gtr (.t 44) (.c (.int .i64 120))⟩,
    ⟨some 46, none, none, .pick (.t 40) (.t 45) (.c (.bool false))⟩])
  (.cond (.t 46) (.seq (.ops [⟨some 47, none, none, .call (.c (.fn 17 [] [])) []⟩,
    ⟨some 4, none, none, .mv (.t 47)⟩])
  (.ret))
  (.skip)))))
  (.ops [⟨some 48, none, none, .ar .add (.t 32) (.c (.int .i64 1))⟩,
    ⟨some 32, none, none, .mv (.t 48)⟩])))))))
  (.ops [⟨some 49, none, none, .ld true 3 (.t 6)⟩,
    ⟨some 50, none, none, .mv (.t 1)⟩,
    ⟨some 51, none, none, .call (.c (.fn 24 [] [])) [.t 49, .t 50, .c (.int .i64 120)]⟩,
    ⟨none, none, none, .sto 2 (.t 8) (.t 51)⟩]))))))))
  (.skip)))
  (.seq (.ops [⟨some 63, none, none, .ld true 3 (.t 5)⟩,
    ⟨some 64, none, none, .mv (.t 1)⟩,
    ⟨some 65, none, none, .call (.c (.fn 25 [] [])) [.t 63, .t 64]⟩,
    ⟨some 62, none, none, .mv (.t 65)⟩,
    ⟨some 66, none, none, .ext (.t 62) 0⟩,
    ⟨some 67, none, none, .ext (.t 62) 1⟩,
    ⟨some 12, none, none, .alc [.int .i64 0, .int .i64 0]⟩,
    ⟨none, none, none, .sto 2 (.t 12) (.t 66)⟩,
    ⟨some 13, none, none, .mv (.t 67)⟩])
  (.seq (.ops [⟨some 68, none, none, .mv (.t 13)⟩,
    ⟨some 69, none, none, .mv (.t 7)⟩,
    ⟨some 70, none, none, .ar .eql (.t 68) (.t 69)⟩,
    ⟨some 71, none, none, .mv (.t 70)⟩,
    ⟨some 72, some (71, true), none, .ld true 2 (.t 12)⟩,
    ⟨some 73, some (71, true), none, .ld true 2 (.t 8)⟩,
    ⟨some 74, some (71, true), none, .feq false 2 (.t 72) (.t 73)⟩,
    ⟨some 75, none, none, .pick (.t 71) (.t 74) (.c (.bool false))⟩,
    ⟨some 76, none, none, .mv (.t 75)⟩,
    ⟨some 77, some (76, true), none, .ld true 3 (.t 5)⟩,
    ⟨some 78, some (76, true), none, .ld true 3 (.t 2)⟩,
    ⟨some 79, some (76, true), none, .call (.c (.fn 26 [] [])) [.t 77, .t 78]⟩,
    ⟨some 80, none, none, .pick (.t 76) (.t 79) (.c (.bool false))⟩,
    ⟨some 81, none, none, .mv (.t 80)⟩,
    ⟨some 82, some (81, true), none, .call (.c (.fn 17 [] [])) []⟩,
    ⟨some 83, none, none, .pick (.t 81) (.t 82) (.c (.bool false))⟩,
    ⟨some 4, none, none, .mv (.t 83)⟩])
  (.ret))))))))⟩
def c4 : FD := ⟨155, [.tmp 4],
  .seq (.ops [⟨some 2, none, none, .box (.t 0)⟩,
    ⟨some 3, none, none, .box (.t 1)⟩,
    ⟨some 4, none, none, .mv (.c (.bool false))⟩])
  (.seq (.seq (.ops [⟨some 18, none, none, .ld true 3 (.t 2)⟩,
    ⟨some 19, none, none, .call (.c (.fn 16 [] [])) [.t 18]⟩,
    ⟨some 20, none, none, .mv (.t 19)⟩,
    ⟨some 21, some (20, false), none, .fad 1 (.t 3)⟩,
    ⟨some 22, some (20, false), none, .ld false 1 (.t 21)⟩,
    ⟨some 23, some (20, false), none, .len (.t 22)⟩,
    ⟨some 24, some (20, false), none, .ar .gtr (.t 23) (.c (.int .i64 12))⟩,
    ⟨some 25, none, none, .pick (.t 20) (.c (.bool true)) (.t 24)⟩,
    ⟨some 26, none, none, .mv (.t 25)⟩,
    ⟨some 27, some (26, false), none, .fad 2 (.t 3)⟩,
    ⟨some 28, some (26, false), none, .ld false 1 (.t 27)⟩,
    ⟨some 29, some (26, false), none, .len (.t 28)⟩,
    ⟨some 30, some (26, false), none, .ar .gtr (.t 29) (.c (.int .i64 12))⟩,
    ⟨some 31, none, none, .pick (.t 26) (.c (.bool true)) (.t 30)⟩])
  (.cond (.t 31) (.seq (.ops [⟨some 32, none, none, .call (.c (.fn 17 [] [])) []⟩,
    ⟨some 4, none, none, .mv (.t 32)⟩])
  (.ret))
  (.skip)))
  (.seq (.dops [⟨some 33, none, some (0, 0), .ld true 3 (.t 2)⟩,
    ⟨some 34, none, none, .call (.c (.fn 18 [] [])) [.t 33]⟩,
    ⟨some 35, none, some (0, 1), .ld true 3 (.t 2)⟩,
    ⟨some 36, none, none, .call (.c (.fn 19 [] [])) [.t 35]⟩,
    ⟨some 5, none, none, .alc [.int .i64 0, .nils, .nils]⟩,
    ⟨some 6, none, none, .alc [.int .i64 0, .nils, .nils]⟩,
    ⟨none, none, none, .sto 3 (.t 5) (.t 34)⟩,
    ⟨none, none, none, .sto 3 (.t 6) (.t 36)⟩])
  (.seq (.dops [⟨some 37, none, none, .fad 0 (.t 3)⟩,
    ⟨some 38, none, some (0, 2), .ld false 1 (.t 37)⟩,
    ⟨some 39, none, none, .fad 1 (.t 3)⟩,
    ⟨some 40, none, some (0, 0), .ld false 1 (.t 39)⟩,
    ⟨some 41, none, none, .call (.c (.fn 27 [] [])) [.t 40]⟩,
    ⟨some 42, none, none, .fad 2 (.t 3)⟩,
    ⟨some 43, none, some (0, 1), .ld false 1 (.t 42)⟩,
    ⟨some 44, none, none, .call (.c (.fn 27 [] [])) [.t 43]⟩,
    ⟨some 45, none, none, .bld [.int .i64 0, .nils, .nils] [(0, 1, .t 38), (1, 1, .t 41), (2, 1, .t 44)]⟩,
    ⟨some 7, none, none, .alc [.int .i64 0, .nils, .nils]⟩,
    ⟨none, none, none, .sto 3 (.t 7) (.t 45)⟩])
  (.seq (.ops [⟨some 46, none, none, .ld true 3 (.t 6)⟩,
    ⟨some 47, none, none, .call (.c (.fn 20 [] [])) [.t 46]⟩,
    ⟨some 8, none, none, .mv (.t 47)⟩])
  (.seq (.ops [⟨some 48, none, none, .mv (.t 8)⟩,
    ⟨some 49, none, none, .mv (.t 8)⟩,
    ⟨some 9, none, none, .mv (.t 48)⟩,
    ⟨some 10, none, none, .mv (.t 49)⟩,
    ⟨some 11, none, none, .mv (.c (.int .i64 0))⟩])
  (.seq (.seq (.ops [⟨some 50, none, none, .mv (.t 8)⟩,
    ⟨some 51, none, none, .ar .eql (.t 50) (.c (.int .i64 0))⟩])
  (.cond (.t 51) (.seq (.seq (.ops [⟨some 9, none, none, .mv (.c (.int .i64 0))⟩])
  (.seq (.dops [⟨some 52, none, some (0, 1), .ld true 3 (.t 6)⟩,
    ⟨some 53, none, some (0, 0), .ld true 3 (.t 6)⟩,
    ⟨some 54, none, none, .call (.c (.fn 22 [] [])) [.t 53]⟩,
    ⟨some 55, none, none, .call (.c (.fn 21 [] [])) [.t 52, .t 54]⟩])
  (.cond (.t 55) (.ops [⟨some 9, none, none, .mv (.c (.int .i64 6))⟩])
  (.skip))))
  (.ops [⟨some 57, none, none, .ld true 3 (.t 6)⟩,
    ⟨some 58, none, none, .fad 0 (.t 3)⟩,
    ⟨some 59, none, none, .ld false 1 (.t 58)⟩,
    ⟨some 60, none, none, .fad 1 (.t 3)⟩,
    ⟨some 61, none, none, .ld false 1 (.t 60)⟩,
    ⟨some 62, none, none, .fad 2 (.t 3)⟩,
    ⟨some 63, none, none, .ld false 1 (.t 62)⟩,
    ⟨some 64, none, none, .call (.c (.fn 28 [] [])) [.t 57, .t 59, .t 61, .t 63]⟩,
    ⟨some 56, none, none, .mv (.t 64)⟩,
    ⟨some 65, none, none, .ext (.t 56) 0⟩,
    ⟨some 66, none, none, .ext (.t 56) 1⟩,
    ⟨some 11, none, none, .mv (.t 65)⟩,
    ⟨some 10, none, none, .mv (.t 66)⟩]))
  (.skip)))
  (.seq (.ops [⟨some 68, none, none, .ld true 3 (.t 5)⟩,
    ⟨some 69, none, none, .call (.c (.fn 29 [] [])) [.t 68]⟩,
    ⟨some 67, none, none, .mv (.t 69)⟩,
    ⟨some 70, none, none, .ext (.t 67) 0⟩,
    ⟨some 71, none, none, .ext (.t 67) 1⟩,
    ⟨some 12, none, none, .alc [.int .i64 0, .nils, .nils]⟩,
    ⟨none, none, none, .sto 3 (.t 12) (.t 70)⟩,
    ⟨some 13, none, none, .mv (.t 71)⟩])
  (.seq (.ops [⟨some 73, none, none, .ld true 3 (.t 5)⟩,
    ⟨some 74, none, none, .ld true 3 (.t 7)⟩,
    ⟨some 75, none, none, .call (.c (.fn 30 [] [])) [.t 73, .t 74]⟩,
    ⟨some 72, none, none, .mv (.t 75)⟩,
    ⟨some 76, none, none, .ext (.t 72) 0⟩,
    ⟨some 77, none, none, .ext (.t 72) 1⟩,
    ⟨some 14, none, none, .mv (.t 76)⟩,
    ⟨some 15, none, none, .mv (.t 77)⟩])
  (.seq (.seq (.ops [⟨some 78, none, none, .mv (.t 13)⟩,
    ⟨some 79, none, none, .mv (.t 9)⟩,
    ⟨some 80, none, none, .ar .neq (.t 78) (.t 79)⟩,
    ⟨some 81, none, none, .mv (.t 80)⟩,
    ⟨some 82, some (81, false), none, .mv (.t 15)⟩,
    ⟨some 83, some (81, false), none, .mv (.t 10)⟩,
    ⟨some 84, some (81, false), none, .ar .neq (.t 82) (.t 83)⟩,
    ⟨some 85, none, none, .pick (.t 81) (.c (.bool true)) (.t 84)⟩,
    ⟨some 86, none, none, .mv (.t 85)⟩,
    ⟨some 87, some (86, false), none, .mv (.t 14)⟩,
    ⟨some 88, some (86, false), none, .mv (.t 11)⟩,
    ⟨some 89, some (86, false), none, .ar .neq (.t 87) (.t 88)⟩,
    ⟨some 90, none, none, .pick (.t 86) (.c (.bool true)) (.t 89)⟩,
    ⟨some 91, none, none, .mv (.t 90)⟩,
    ⟨some 92, some (91, false), none, .fad 1 (.t 12)⟩,
    ⟨some 93, some (91, false), none, .ld false 1 (.t 92)⟩,
    ⟨some 94, some (91, false), none, .len (.t 93)⟩,
    ⟨some 95, some (91, false), none, .ar .gtr (.t 94) (.c (.int .i64 12))⟩,
    ⟨some 96, none, none, .pick (.t 91) (.c (.bool true)) (.t 95)⟩,
    ⟨some 97, none, none, .mv (.t 96)⟩,
    ⟨some 98, some (97, false), none, .fad 2 (.t 12)⟩,
    ⟨some 99, some (97, false), none, .ld false 1 (.t 98)⟩,
    ⟨some 100, some (97, false), none, .len (.t 99)⟩,
    ⟨some 101, some (97, false), none, .ar .gtr (.t 100) (.c (.int .i64 12))⟩,
    ⟨some 102, none, none, .pick (.t 97) (.c (.bool true)) (.t 101)⟩])
  (.cond (.t 102) (.seq (.ops [⟨some 4, none, none, .mv (.c (.bool false))⟩])
  (.ret))
  (.skip)))
  (.seq (.seq (.ops [⟨some 103, none, none, .mv (.t 9)⟩,
    ⟨some 104, none, none, .ar .eql (.t 103) (.c (.int .i64 0))⟩])
  (.cond (.t 104) (.seq (.ops [⟨some 106, none, none, .ld true 3 (.t 6)⟩,
    ⟨some 107, none, none, .fad 0 (.t 12)⟩,
    ⟨some 108, none, none, .ld false 1 (.t 107)⟩,
    ⟨some 109, none, none, .fad 1 (.t 12)⟩,
    ⟨some 110, none, none, .ld false 1 (.t 109)⟩,
    ⟨some 111, none, none, .fad 2 (.t 12)⟩,
    ⟨some 112, none, none, .ld false 1 (.t 111)⟩,
    ⟨some 113, none, none, .call (.c (.fn 28 [] [])) [.t 106, .t 108, .t 110, .t 112]⟩,
    ⟨some 105, none, none, .mv (.t 113)⟩,
    ⟨some 114, none, none, .ext (.t 105) 0⟩,
    ⟨some 115, none, none, .ext (.t 105) 1⟩,
    ⟨some 16, none, none, .mv (.t 114)⟩,
    ⟨some 17, none, none, .mv (.t 115)⟩])
  (.seq (.ops [⟨some 116, none, none, .mv (.t 17)⟩,
    ⟨some 117, none, none, .ar .neq (.t 116) (.c (.int .i64 0))⟩,
    ⟨some 118, none, none, .mv (.t 117)⟩,
    ⟨some 119, some (118, false), none, .mv (.t 16)⟩,
    ⟨some 120, some (118, false), none, .ar .lss (.t 119) (.c (.int .i64 1))⟩,
    ⟨some 121, none, none, .pick (.t 118) (.c (.bool true)) (.t 120)⟩])
  (.cond (.t 121) (.seq (.ops [⟨some 4, none, none, .mv (.c (.bool false))⟩])
  (.ret))
  (.skip))))
  (.seq (.ops [⟨some 122, none, none, .fad 0 (.t 12)⟩,
    ⟨some 123, none, none, .ld false 1 (.t 122)⟩,
    ⟨some 124, none, none, .ar .neq (.t 123) (.c (.int .i64 0))⟩,
    ⟨some 125, none, none, .mv (.t 124)⟩,
    ⟨some 126, some (125, false), none, .fad 1 (.t 12)⟩,
    ⟨some 127, some (125, false), none, .ld false 1 (.t 126)⟩,
    ⟨some 128, some (125, false), none, .len (.t 127)⟩,
    ⟨some 129, some (125, false), none, .fad 2 (.t 12)⟩,
    ⟨some 130, some (125, false), none, .ld false 1 (.t 129)⟩,
    ⟨some 131, some (125, false), none, .len (.t 130)⟩,
    ⟨some 132, some (125, false), none, .ar .add (.t 128) (.t 131)⟩,
    ⟨some 133, some (125, false), none, .ar .gtr (.t 132) (.c (.int .i64 0))⟩,
    ⟨some 134, none, none, .pick (.t 125) (.c (.bool true)) (.t 133)⟩])
  (.cond (.t 134) (.seq (.ops [⟨some 4, none, none, .mv (.c (.bool false))⟩])
  (.ret))
  (.skip)))))
  (.seq (.ops [⟨some 135, none, none, .ld true 3 (.t 5)⟩,
    ⟨some 136, none, none, .ld true 3 (.t 2)⟩,
    ⟨some 137, none, none, .call (.c (.fn 26 [] [])) [.t 135, .t 136]⟩,
    ⟨some 138, none, none, .mv (.t 137)⟩,
    ⟨some 139, some (138, true), none, .fad 1 (.t 7)⟩,
    ⟨some 140, some (138, true), none, .ld false 1 (.t 139)⟩,
    ⟨some 141, some (138, true), none, .fad 1 (.t 3)⟩,
    ⟨some 142, some (138, true), none, .ld false 1 (.t 141)⟩,
    ⟨some 143, some (138, true), none, .call (.c (.fn 31 [] [])) [.t 140, .t 142]⟩,
    ⟨some 144, none, none, .pick (.t 138) (.t 143) (.c (.bool false))⟩,
    ⟨some 145, none, none, .mv (.t 144)⟩,
    ⟨some 146, some (145, true), none, .fad 2 (.t 7)⟩,
    ⟨some 147, some (145, true), none, .ld false 1 (.t 146)⟩,
    ⟨some 148, some (145, true), none, .fad 2 (.t 3)⟩,
    ⟨some 149, some (145, true), none, .ld false 1 (.t 148)⟩,
    ⟨some 150, some (145, true), none, .call (.c (.fn 31 [] [])) [.t 147, .t 149]⟩,
    ⟨some 151, none, none, .pick (.t 145) (.t 150) (.c (.bool false))⟩,
    ⟨some 152, none, none, .mv (.t 151)⟩,
    ⟨some 153, some (152, true), none, .call (.c (.fn 17 [] [])) []⟩,
    ⟨some 154, none, none, .pick (.t 152) (.t 153) (.c (.bool false))⟩,
    ⟨some 4, none, none, .mv (.t 154)⟩])
  (.ret))))))))))))⟩
def c5 : FD := ⟨229, [.tmp 4],
  .seq (.ops [⟨some 4, none, none, .mv (.c (.bool false))⟩])
  (.seq (.ops [⟨some 25, none, none, .mv (.t 0)⟩,
    ⟨some 26, none, none, .call (.c (.fn 32 [] [])) [.t 25]⟩,
    ⟨some 5, none, none, .mv (.t 26)⟩])
  (.seq (.ops [⟨some 28, none, none, .mv (.t 5)⟩,
    ⟨some 29, none, none, .call (.c (.fn 33 [] [])) [.t 28, .c (.int .i64 10), .c (.int .i64 300)]⟩,
    ⟨some 27, none, none, .mv (.t 29)⟩,
    ⟨some 30, none, none, .ext (.t 27) 0⟩,
    ⟨some 31, none, none, .ext (.t 27) 1⟩,
    ⟨some 6, none, none, .alc [.int .i64 0, .nils, .nils]⟩,
    ⟨none, none, none, .sto 3 (.t 6) (.t 30)⟩,
    ⟨some 7, none, none, .mv (.t 31)⟩])
  (.seq (.ops [⟨some 32, none, none, .mv (.t 5)⟩,
    ⟨some 33, none, none, .ld true 3 (.t 6)⟩,
    ⟨some 34, none, none, .mv (.t 7)⟩,
    ⟨some 35, none, none, .call (.c (.fn 34 [] [])) [.t 32, .t 33, .t 34, .c (.int .i64 8)]⟩,
    ⟨none, none, none, .sto 3 (.t 6) (.t 35)⟩])
  (.seq (.ops [⟨some 36, none, none, .ld true 3 (.t 6)⟩,
    ⟨some 37, none, none, .call (.c (.fn 18 [] [])) [.t 36]⟩,
    ⟨some 8, none, none, .alc [.int .i64 0, .nils, .nils]⟩,
    ⟨none, none, none, .sto 3 (.t 8) (.t 37)⟩])
  (.seq (.seq (.dops [⟨some 38, none, none, .mv (.t 1)⟩,
    ⟨some 39, none, none, .call (.c (.fn 32 [] [])) [.t 38]⟩,
    ⟨some 40, none, none, .fad 2 (.t 6)⟩,
    ⟨some 41, none, some (0, 1), .ld false 1 (.t 40)⟩,
    ⟨some 42, none, none, .len (.t 41)⟩,
    ⟨some 43, none, none, .call (.c (.fn 35 [] [])) [.t 39, .t 42]⟩,
    ⟨some 44, none, none, .len (.t 43)⟩,
    ⟨some 45, none, none, .mv (.c (.int .i64 0))⟩])
  (.block 0 (.loop (.seq (.ops [⟨some 46, none, none, .ar .lss (.t 45) (.t 44)⟩])
  (.seq (.cond (.t 46) (.skip)
  (.exit 0))
  (.seq (.block 1 (.seq (.ops [⟨some 47, none, none, .mv (.t 45)⟩,
    ⟨some 48, none, none, .iad 1 (.t 43) (.t 45)⟩,
    ⟨some 49, none, none, .ld false 1 (.t 48)⟩,
    ⟨some 9, none, none, .mv (.t 47)⟩,
    ⟨some 10, none, none, .mv (.t 49)⟩])
  (.dops [⟨some 50, none, none, .fad 2 (.t 8)⟩,
    ⟨some 51, none, some (0, 0), .ld false 1 (.t 50)⟩,
    ⟨some 52, none, none, .mv (.t 10)⟩,
    ⟨some 53, none, none, .fad 2 (.t 6)⟩,
    ⟨some 54, none, some (0, 0), .ld false 1 (.t 53)⟩,
    ⟨some 55, none, none, .mv (.t 9)⟩,
    ⟨some 56, none, none, .iad 4 (.t 54) (.t 55)⟩,
    ⟨some 57, none, some (0, 0), .ld true 4 (.t 56)⟩,
    ⟨some 58, none, none, .iad 4 (.t 51) (.t 52)⟩,
    ⟨none, none, none, .sto 4 (.t 58) (.t 57)⟩])))
  (.ops [⟨some 59, none, none, .ar .add (.t 45) (.c (.int .i64 1))⟩,
    ⟨some 45, none, none, .mv (.t 59)⟩])))))))
  (.seq (.ops [⟨some 61, none, none, .ld true 3 (.t 6)⟩,
    ⟨some 62, none, none, .call (.c (.fn 36 [] [])) [.t 61]⟩,
    ⟨some 60, none, none, .mv (.t 62)⟩,
    ⟨some 63, none, none, .ext (.t 60) 0⟩,
    ⟨some 64, none, none, .ext (.t 60) 1⟩,
    ⟨some 11, none, none, .mv (.t 63)⟩,
    ⟨some 12, none, none, .mv (.t 64)⟩])
  (.seq (.ops [⟨some 66, none, none, .ld true 3 (.t 8)⟩,
    ⟨some 67, none, none, .call (.c (.fn 36 [] [])) [.t 66]⟩,
    ⟨some 65, none, none, .mv (.t 67)⟩,
    ⟨some 68, none, none, .ext (.t 65) 0⟩,
    ⟨some 69, none, none, .ext (.t 65) 1⟩,
    ⟨some 13, none, none, .mv (.t 68)⟩,
    ⟨some 14, none, none, .mv (.t 69)⟩])
  (.seq (.ops [⟨some 71, none, none, .ld true 3 (.t 6)⟩,
    ⟨some 72, none, none, .call (.c (.fn 37 [] [])) [.t 71]⟩,
    ⟨some 70, none, none, .mv (.t 72)⟩,
    ⟨some 73, none, none, .ext (.t 70) 0⟩,
    ⟨some 74, none, none, .ext (.t 70) 1⟩,
    ⟨some 75, none, none, .ext (.t 70) 2⟩,
    ⟨some 16, none, none, .alc [.int .i64 0, .int .i64 0]⟩,
    ⟨some 15, none, none, .mv (.t 73)⟩,
    ⟨none, none, none, .sto 2 (.t 16) (.t 74)⟩,
    ⟨some 17, none, none, .mv (.t 75)⟩])
  (.seq (.ops [⟨some 77, none, none, .ld true 3 (.t 8)⟩,
    ⟨some 78, none, none, .call (.c (.fn 37 [] [])) [.t 77]⟩,
    ⟨some 76, none, none, .mv (.t 78)⟩,
    ⟨some 79, none, none, .ext (.t 76) 0⟩,
    ⟨some 80, none, none, .ext (.t 76) 1⟩,
    ⟨some 81, none, none, .ext (.t 76) 2⟩,
    ⟨some 19, none, none, .alc [.int .i64 0, .int .i64 0]⟩,
    ⟨some 18, none, none, .mv (.t 79)⟩,
    ⟨none, none, none, .sto 2 (.t 19) (.t 80)⟩,
    ⟨some 20, none, none, .mv (.t 81)⟩])
  (.seq (.seq (.dops [⟨some 82, none, none, .mv (.t 12)⟩,
    ⟨some 83, none, none, .ar .neq (.t 82) (.c (.int .i64 0))⟩,
    ⟨some 84, none, none, .mv (.t 83)⟩,
    ⟨some 85, some (84, false), none, .mv (.t 14)⟩,
    ⟨some 86, some (84, false), none, .ar .neq (.t 85) (.c (.int .i64 0))⟩,
    ⟨some 87, none, none, .pick (.t 84) (.c (.bool true)) (.t 86)⟩,
    ⟨some 88, none, none, .mv (.t 87)⟩,
    ⟨some 89, some (88, false), none, .mv (.t 17)⟩,
    ⟨some 90, some (88, false), none, .ar .neq (.t 89) (.c (.int .i64 0))⟩,
    ⟨some 91, none, none, .pick (.t 88) (.c (.bool true)) (.t 90)⟩,
    ⟨some 92, none, none, .mv (.t 91)⟩,
    ⟨some 93, some (92, false), none, .mv (.t 20)⟩,
    ⟨some 94, some (92, false), none, .ar .neq (.t 93) (.c (.int .i64 0))⟩,
    ⟨some 95, none, none, .pick (.t 92) (.c (.bool true)) (.t 94)⟩,
    ⟨some 96, none, none, .mv (.t 95)⟩,
    ⟨some 97, some (96, false), none, .mv (.t 11)⟩,
    ⟨some 98, some (96, false), none, .mv (.t 13)⟩,
    ⟨some 99, some (96, false), none, .call (.c (.fn 38 [] [])) [.t 97, .t 98]⟩,
    ⟨some 100, some (96, false), none, .not (.t 99)⟩,
    ⟨some 101, none, none, .pick (.t 96) (.c (.bool true)) (.t 100)⟩,
    ⟨some 102, none, none, .mv (.t 101)⟩,
    ⟨some 103, some (102, false), none, .mv (.t 15)⟩,
    ⟨some 104, some (102, false), none, .mv (.t 18)⟩,
    ⟨some 105, some (102, false), none, .ar .neq (.t 103) (.t 104)⟩,
    ⟨some 106, none, none, .pick (.t 102) (.c (.bool true)) (.t 105)⟩,
    ⟨some 107, none, none, .mv (.t 106)⟩,
    ⟨some 108, some (107, false), some (1, 1), .ld true 2 (.t 16)⟩,
    ⟨some 109, some (107, false), some (1, 1), .ld true 2 (.t 19)⟩,
    ⟨some 110, some (107, false), none, .feq true 2 (.t 108) (.t 109)⟩,
    ⟨some 111, none, none, .pick (.t 107) (.c (.bool true)) (.t 110)⟩,
    ⟨some 112, none, none, .mv (.t 111)⟩,
    ⟨some 113, some (112, false), none, .mv (.t 15)⟩,
    ⟨some 114, some (112, false), none, .ar .lss (.t 113) (.c (.int .i64 0))⟩,
    ⟨some 115, none, none, .pick (.t 112) (.c (.bool true)) (.t 114)⟩,
    ⟨some 116, none, none, .mv (.t 115)⟩,
    ⟨some 117, some (116, false), none, .mv (.t 15)⟩,
    ⟨some 118, some (116, false), none, .mv (.t 11)⟩,
    ⟨some 119, some (116, false), none, .len (.t 118)⟩,
    ⟨some 120, some (116, false), none, .ar .geq (.t 117) (.t 119)⟩,
    ⟨some 121, none, none, .pick (.t 116) (.c (.bool true)) (.t 120)⟩,
    ⟨some 122, none, none, .mv (.t 121)⟩,
    ⟨some 123, some (122, false), some (1, 1), .ld true 2 (.t 16)⟩,
    ⟨some 124, some (122, false), none, .mv (.t 11)⟩,
    ⟨some 125, some (122, false), none, .mv (.t 15)⟩,
    ⟨some 126, some (122, false), none, .iad 2 (.t 124) (.t 125)⟩,
    ⟨some 127, some (122, false), some (1, 1), .ld true 2 (.t 126)⟩,
    ⟨some 128, some (122, false), none, .feq true 2 (.t 123) (.t 127)⟩,
    ⟨some 129, none, none, .pick (.t 122) (.c (.bool true)) (.t 128)⟩])
  (.cond (.t 129) (.seq (.ops [⟨some 4, none, none, .mv (.c (.bool false))⟩])
  (.ret))
  (.skip)))
  (.seq (.seq (.ops [⟨some 130, none, none, .fad 1 (.t 6)⟩,
    ⟨some 131, none, none, .ld false 1 (.t 130)⟩,
    ⟨some 132, none, none, .len (.t 131)⟩,
    ⟨some 133, none, none, .ar .eql (.t 132) (.c (.int .i64 12))⟩,
    ⟨some 134, none, none, .mv (.t 133)⟩,
    ⟨some 135, some (134, false), none, .fad 2 (.t 6)⟩,
    ⟨some 136, some (134, false), none, .ld false 1 (.t 135)⟩,
    ⟨some 137, some (134, false), none, .len (.t 136)⟩,
    ⟨some 138, some (134, false), none, .ar .eql (.t 137) (.c (.int .i64 10))⟩,
    ⟨some 139, none, none, .pick (.t 134) (.c (.bool true)) (.t 138)⟩])
  (.cond (.t 139) (.seq (.ops [⟨some 140, none, none, .call (.c (.fn 17 [] [])) []⟩,
    ⟨some 4, none, none, .mv (.t 140)⟩])
  (.ret))
  (.skip)))
  (.seq (.ops [⟨some 141, none, none, .fad 1 (.t 8)⟩,
    ⟨some 142, none, none, .ld false 1 (.t 141)⟩,
    ⟨some 143, none, none, .bld [.int .i64 0, .int .i64 0] [(0, 1, .c (.int .i64 (-1))), (1, 1, .c (.int .i64 2))]⟩,
    ⟨some 144, none, none, .bsl 1 [.int .i64 0, .int .i64 0] [(0, 2, .t 143)]⟩,
    ⟨some 145, none, none, .app 2 16 (.t 142) (.t 144)⟩,
    ⟨some 146, none, none, .fad 1 (.t 8)⟩,
    ⟨none, none, none, .sto 1 (.t 146) (.t 145)⟩])
  (.seq (.ops [⟨some 147, none, none, .fad 2 (.t 8)⟩,
    ⟨some 148, none, none, .ld false 1 (.t 147)⟩,
    ⟨some 149, none, none, .fad 1 (.t 6)⟩,
    ⟨some 150, none, none, .ld false 1 (.t 149)⟩,
    ⟨some 151, none, none, .len (.t 150)⟩,
    ⟨some 152, none, none, .bld [.int .i64 0, .int .i64 0, .int .i64 0, .int .i64 0] [(0, 1, .t 151), (1, 1, .c (.int .i64 77))]⟩,
    ⟨some 153, none, none, .bsl 1 [.int .i64 0, .int .i64 0, .int .i64 0, .int .i64 0] [(0, 4, .t 152)]⟩,
    ⟨some 154, none, none, .app 4 32 (.t 148) (.t 153)⟩,
    ⟨some 155, none, none, .fad 2 (.t 8)⟩,
    ⟨none, none, none, .sto 1 (.t 155) (.t 154)⟩])
  (.seq (.ops [⟨some 157, none, none, .ld true 3 (.t 8)⟩,
    ⟨some 158, none, none, .call (.c (.fn 36 [] [])) [.t 157]⟩,
    ⟨some 156, none, none, .mv (.t 158)⟩,
    ⟨some 159, none, none, .ext (.t 156) 0⟩,
    ⟨some 160, none, none, .ext (.t 156) 1⟩,
    ⟨some 21, none, none, .mv (.t 159)⟩,
    ⟨some 12, none, none, .mv (.t 160)⟩])
  (.seq (.ops [⟨some 162, none, none, .ld true 3 (.t 6)⟩,
    ⟨some 163, none, none, .call (.c (.fn 25 [] [])) [.t 162, .c (.int .i64 2)]⟩,
    ⟨some 161, none, none, .mv (.t 163)⟩,
    ⟨some 164, none, none, .ext (.t 161) 0⟩,
    ⟨some 165, none, none, .ext (.t 161) 1⟩,
    ⟨some 22, none, none, .alc [.int .i64 0, .int .i64 0]⟩,
    ⟨none, none, none, .sto 2 (.t 22) (.t 164)⟩,
    ⟨some 14, none, none, .mv (.t 165)⟩])
  (.seq (.ops [⟨some 167, none, none, .ld true 3 (.t 8)⟩,
    ⟨some 168, none, none, .call (.c (.fn 25 [] [])) [.t 167, .c (.int .i64 2)]⟩,
    ⟨some 166, none, none, .mv (.t 168)⟩,
    ⟨some 169, none, none, .ext (.t 166) 0⟩,
    ⟨some 170, none, none, .ext (.t 166) 1⟩,
    ⟨some 23, none, none, .alc [.int .i64 0, .int .i64 0]⟩,
    ⟨none, none, none, .sto 2 (.t 23) (.t 169)⟩,
    ⟨some 17, none, none, .mv (.t 170)⟩])
  (.seq (.seq (.ops [⟨some 171, none, none, .mv (.t 12)⟩,
    ⟨some 172, none, none, .ar .neq (.t 171) (.c (.int .i64 0))⟩,
    ⟨some 173, none, none, .mv (.t 172)⟩,
    ⟨some 174, some (173, false), none, .mv (.t 14)⟩,
    ⟨some 175, some (173, false), none, .ar .neq (.t 174) (.c (.int .i64 0))⟩,
    ⟨some 176, none, none, .pick (.t 173) (.c (.bool true)) (.t 175)⟩,
    ⟨some 177, none, none, .mv (.t 176)⟩,
    ⟨some 178, some (177, false), none, .mv (.t 17)⟩,
    ⟨some 179, some (177, false), none, .ar .neq (.t 178) (.c (.int .i64 0))⟩,
    ⟨some 180, none, none, .pick (.t 177) (.c (.bool true)) (.t 179)⟩,
    ⟨some 181, none, none, .mv (.t 180)⟩,
    ⟨some 182, some (181, false), none, .mv (.t 21)⟩,
    ⟨some 183, some (181, false), none, .len (.t 182)⟩,
    ⟨some 184, some (181, false), none, .mv (.t 11)⟩,
    ⟨some 185, some (181, false), none, .len (.t 184)⟩,
    ⟨some 186, some (181, false), none, .ar .add (.t 185) (.c (.int .i64 1))⟩,
    ⟨some 187, some (181, false), none, .ar .neq (.t 183) (.t 186)⟩,
    ⟨some 188, none, none, .pick (.t 181) (.c (.bool true)) (.t 187)⟩,
    ⟨some 189, none, none, .mv (.t 188)⟩,
    ⟨some 190, some (189, false), none, .mv (.t 21)⟩,
    ⟨some 191, some (189, false), none, .mv (.t 11)⟩,
    ⟨some 192, some (189, false), none, .len (.t 191)⟩,
    ⟨some 193, some (189, false), none, .slc 2 (.t 190) none (some (.t 192)) none⟩,
    ⟨some 194, some (189, false), none, .mv (.t 11)⟩,
    ⟨some 195, some (189, false), none, .call (.c (.fn 38 [] [])) [.t 193, .t 194]⟩,
    ⟨some 196, some (189, false), none, .not (.t 195)⟩,
    ⟨some 197, none, none, .pick (.t 189) (.c (.bool true)) (.t 196)⟩])
  (.cond (.t 197) (.seq (.ops [⟨some 4, none, none, .mv (.c (.bool false))⟩])
  (.ret))
  (.skip)))
  (.seq (.ops [⟨some 198, none, none, .mv (.t 21)⟩,
    ⟨some 199, none, none, .mv (.t 11)⟩,
    ⟨some 200, none, none, .len (.t 199)⟩,
    ⟨some 201, none, none, .iad 2 (.t 198) (.t 200)⟩,
    ⟨some 202, none, none, .ld true 2 (.t 201)⟩,
    ⟨some 24, none, none, .alc [.int .i64 0, .int .i64 0]⟩,
    ⟨none, none, none, .sto 2 (.t 24) (.t 202)⟩])
  (.seq (.ops [⟨some 203, none, none, .ld true 2 (.t 23)⟩,
    ⟨some 204, none, none, .fad 0 (.t 22)⟩,
    ⟨some 205, none, none, .ld false 1 (.t 204)⟩,
    ⟨some 206, none, none, .fad 0 (.t 24)⟩,
    ⟨some 207, none, none, .ld false 1 (.t 206)⟩,
    ⟨some 208, none, none, .ar .add (.t 205) (.t 207)⟩,
    ⟨some 209, none, none, .fad 1 (.t 22)⟩,
    ⟨some 210, none, none, .ld false 1 (.t 209)⟩,
    ⟨some 211, none, none, .fad 1 (.t 24)⟩,
    ⟨some 212, none, none, .ld false 1 (.t 211)⟩,
    ⟨some 213, none, none, .ar .add (.t 210) (.t 212)⟩,
    ⟨some 214, none, none, .bld [.int .i64 0, .int .i64 0] [(0, 1, .t 208), (1, 1, .t 213)]⟩,
    ⟨some 215, none, none, .feq false 2 (.t 203) (.t 214)⟩,
    ⟨some 216, none, none, .mv (.t 215)⟩,
    ⟨some 217, some (216, true), none, .fad 0 (.t 24)⟩,
    ⟨some 218, some (216, true), none, .ld false 1 (.t 217)⟩,
    ⟨some 219, some (216, true), none, .ar .leq (.t 218) (.c (.int .i64 77))⟩,
    ⟨some 220, none, none, .pick (.t 216) (.t 219) (.c (.bool false))⟩,
    ⟨some 221, none, none, .mv (.t 220)⟩,
    ⟨some 222, some (221, true), none, .fad 1 (.t 24)⟩,
    ⟨some 223, some (221, true), none, .ld false 1 (.t 222)⟩,
    ⟨some 224, some (221, true), none, .ar .geq (.t 223) (.c (.int .i64 77))⟩,
    ⟨some 225, none, none, .pick (.t 221) (.t 224) (.c (.bool false))⟩,
    ⟨some 226, none, none, .mv (.t 225)⟩,
    ⟨some 227, some (226, true), none, .call (.c (.fn 17 [] [])) []⟩,
    ⟨some 228, none, none, .pick (.t 226) (.t 227) (.c (.bool false))⟩,
    ⟨some 4, none, none, .mv (.t 228)⟩])
  (.ret))))))))))))))))))))⟩
def c6 : FD := ⟨222, [.tmp 2],
  .seq (.ops [⟨some 2, none, none, .mv (.c (.bool false))⟩])
  (.seq (.ops [⟨some 26, none, none, .mv (.t 0)⟩,
    ⟨some 27, none, none, .call (.c (.fn 32 [] [])) [.t 26]⟩,
    ⟨some 3, none, none, .mv (.t 27)⟩])
  (.seq (.ops [⟨some 29, none, none, .mv (.t 3)⟩,
    ⟨some 30, none, none, .call (.c (.fn 33 [] [])) [.t 29, .c (.int .i64 12), .c (.int .i64 300)]⟩,
    ⟨some 28, none, none, .mv (.t 30)⟩,
    ⟨some 31, none, none, .ext (.t 28) 0⟩,
    ⟨some 32, none, none, .ext (.t 28) 1⟩,
    ⟨some 4, none, none, .alc [.int .i64 0, .nils, .nils]⟩,
    ⟨none, none, none, .sto 3 (.t 4) (.t 31)⟩,
    ⟨some 5, none, none, .mv (.t 32)⟩])
  (.seq (.ops [⟨some 33, none, none, .mv (.t 3)⟩,
    ⟨some 34, none, none, .ld true 3 (.t 4)⟩,
    ⟨some 35, none, none, .mv (.t 5)⟩,
    ⟨some 36, none, none, .call (.c (.fn 34 [] [])) [.t 33, .t 34, .t 35, .c (.int .i64 8)]⟩,
    ⟨none, none, none, .sto 3 (.t 4) (.t 36)⟩])
  (.seq (.ops [⟨some 38, none, none, .ld true 3 (.t 4)⟩,
    ⟨some 39, none, none, .call (.c (.fn 36 [] [])) [.t 38]⟩,
    ⟨some 37, none, none, .mv (.t 39)⟩,
    ⟨some 40, none, none, .ext (.t 37) 0⟩,
    ⟨some 41, none, none, .ext (.t 37) 1⟩,
    ⟨some 6, none, none, .mv (.t 40)⟩,
    ⟨some 7, none, none, .mv (.t 41)⟩])
  (.seq (.seq (.ops [⟨some 42, none, none, .mv (.t 7)⟩,
    ⟨some 43, none, none, .ar .neq (.t 42) (.c (.int .i64 0))⟩,
    ⟨some 44, none, none, .mv (.t 43)⟩,
    ⟨some 45, some (44, false), none, .mv (.t 6)⟩,
    ⟨some 46, some (44, false), none, .len (.t 45)⟩,
    ⟨some 47, some (44, false), none, .fad 1 (.t 4)⟩,
    ⟨some 48, some (44, false), none, .ld false 1 (.t 47)⟩,
    ⟨some 49, some (44, false), none, .len (.t 48)⟩,
    ⟨some 50, some (44, false), none, .ar .neq (.t 46) (.t 49)⟩,
    ⟨some 51, none, none, .pick (.t 44) (.c (.bool true)) (.t 50)⟩])
  (.cond (.t 51) (.seq (.ops [⟨some 2, none, none, .mv (.c (.bool false))⟩])
  (.ret))
  (.skip)))
  (.seq (.ops [⟨some 8, none, none, .alc [.int .i64 0, .int .i64 0]⟩])
  (.seq (.seq (.ops [⟨some 52, none, none, .mv (.t 6)⟩,
    ⟨some 53, none, none, .len (.t 52)⟩,
    ⟨some 54, none, none, .mv (.c (.int .i64 0))⟩])
  (.block 0 (.loop (.seq (.ops [⟨some 55, none, none, .ar .lss (.t 54) (.t 53)⟩])
  (.seq (.cond (.t 55) (.skip)
  (.exit 0))
  (.seq (.block 1 (.seq (.ops [⟨some 56, none, none, .mv (.t 54)⟩,
    ⟨some 57, none, none, .iad 2 (.t 52) (.t 54)⟩,
    ⟨some 58, none, none, .ld true 2 (.t 57)⟩,
    ⟨some 10, none, none, .alc [.int .i64 0, .int .i64 0]⟩,
    ⟨some 9, none, none, .mv (.t 56)⟩,
    ⟨none, none, none, .sto 2 (.t 10) (.t 58)⟩])
  (.seq (.seq (.ops [⟨some 59, none, none, .fad 1 (.t 4)⟩,
    ⟨some 60, none, none, .ld false 1 (.t 59)⟩,
    ⟨some 61, none, none, .mv (.t 9)⟩,
    ⟨some 62, none, none, .iad 2 (.t 60) (.t 61)⟩,
    ⟨some 63, none, none, .fad 0 (.t 62)⟩,
    ⟨some 64, none, none, .ld false 1 (.t 63)⟩,
    ⟨some 65, none, none, .ar .eql (.t 64) (.c (.int .i64 (-1)))⟩])
  (.cond (.t 65) (.ops [⟨some 66, none, none, .fad 0 (.t 8)⟩,
    ⟨some 67, none, none, .ld false 1 (.t 66)⟩,
    ⟨some 68, none, none, .fad 0 (.t 10)⟩,
    ⟨some 69, none, none, .ld false 1 (.t 68)⟩,
    ⟨some 70, none, none, .ar .add (.t 67) (.t 69)⟩,
    ⟨some 71, none, none, .fad 1 (.t 8)⟩,
    ⟨some 72, none, none, .ld false 1 (.t 71)⟩,
    ⟨some 73, none, none, .fad 1 (.t 10)⟩,
    ⟨some 74, none, none, .ld false 1 (.t 73)⟩,
    ⟨some 75, none, none, .ar .add (.t 72) (.t 74)⟩,
    ⟨some 76, none, none, .bld [.int .i64 0, .int .i64 0] [(0, 1, .t 70), (1, 1, .t 75)]⟩,
    ⟨none, none, none, .sto 2 (.t 8) (.t 76)⟩])
  (.skip)))
  (.seq (.ops [⟨some 78, none, none, .ld true 3 (.t 4)⟩,
    ⟨some 79, none, none, .mv (.t 9)⟩,
    ⟨some 80, none, none, .call (.c (.fn 39 [] [])) [.t 78, .t 79]⟩,
    ⟨some 77, none, none, .mv (.t 80)⟩,
    ⟨some 81, none, none, .ext (.t 77) 0⟩,
    ⟨some 82, none, none, .ext (.t 77) 1⟩,
    ⟨some 11, none, none, .mv (.t 81)⟩,
    ⟨some 12, none, none, .mv (.t 82)⟩])
  (.seq (.seq (.ops [⟨some 83, none, none, .mv (.t 12)⟩,
    ⟨some 84, none, none, .ar .neq (.t 83) (.c (.int .i64 0))⟩])
  (.cond (.t 84) (.seq (.ops [⟨some 2, none, none, .mv (.c (.bool false))⟩])
  (.ret))
  (.skip)))
  (.seq (.ops [⟨some 13, none, none, .mv (.c (.int .i64 0))⟩,
    ⟨some 14, none, none, .mv (.c (.int .i64 0))⟩])
  (.seq (.seq (.ops [⟨some 85, none, none, .mv (.t 11)⟩,
    ⟨some 86, none, none, .len (.t 85)⟩,
    ⟨some 87, none, none, .mv (.c (.int .i64 0))⟩])
  (.block 2 (.loop (.seq (.ops [⟨some 88, none, none, .ar .lss (.t 87) (.t 86)⟩])
  (.seq (.cond (.t 88) (.skip)
  (.exit 2))
  (.seq (.block 3 (.seq (.ops [⟨some 89, none, none, .iad 1 (.t 85) (.t 87)⟩,
    ⟨some 90, none, none, .ld false 1 (.t 89)⟩,
    ⟨some 16, none, none, .mv (.t 90)⟩])
  (.seq (.seq (.ops [⟨some 91, none, none, .mv (.t 16)⟩,
    ⟨some 92, none, none, .mv (.t 9)⟩,
    ⟨some 93, none, none, .ar .leq (.t 91) (.t 92)⟩,
    ⟨some 94, none, none, .mv (.t 93)⟩,
    ⟨some 95, some (94, false), none, .mv (.t 16)⟩,
    ⟨some 96, some (94, false), none, .mv (.t 6)⟩,
    ⟨some 97, some (94, false), none, .len (.t 96)⟩,
    ⟨some 98, some (94, false), none, .ar .geq (.t 95) (.t 97)⟩,
    ⟨some 99, none, none, .pick (.t 94) (.c (.bool true)) (.t 98)⟩,
    ⟨some 100, none, none, .mv (.t 99)⟩,
    ⟨some 101, some (100, false), none, .fad 1 (.t 4)⟩,
    ⟨some 102, some (100, false), none, .ld false 1 (.t 101)⟩,
    ⟨some 103, some (100, false), none, .mv (.t 16)⟩,
    ⟨some 104, some (100, false), none, .iad 2 (.t 102) (.t 103)⟩,
    ⟨some 105, some (100, false), none, .fad 0 (.t 104)⟩,
    ⟨some 106, some (100, false), none, .ld false 1 (.t 105)⟩,
    ⟨some 107, some (100, false), none, .mv (.t 9)⟩,
    ⟨some 108, some (100, false), none, .ar .neq (.t 106) (.t 107)⟩,
    ⟨some 109, none, none, .pick (.t 100) (.c (.bool true)) (.t 108)⟩])
  (.cond (.t 109) (.seq (.ops [⟨some 2, none, none, .mv (.c (.bool false))⟩])
  (.ret))
  (.skip)))
  (.dops [⟨some 110, none, none, .mv (.t 13)⟩,
    ⟨some 111, none, none, .mv (.t 6)⟩,
    ⟨some 112, none, none, .mv (.t 16)⟩,
    ⟨some 113, none, none, .iad 2 (.t 111) (.t 112)⟩,
    ⟨some 114, none, none, .fad 0 (.t 113)⟩,
    ⟨some 115, none, some (0, 0), .ld false 1 (.t 114)⟩,
    ⟨some 116, none, none, .ar .add (.t 110) (.t 115)⟩,
    ⟨some 117, none, none, .mv (.t 14)⟩,
    ⟨some 118, none, none, .mv (.t 6)⟩,
    ⟨some 119, none, none, .mv (.t 16)⟩,
    ⟨some 120, none, none, .iad 2 (.t 118) (.t 119)⟩,
    ⟨some 121, none, none, .fad 1 (.t 120)⟩,
    ⟨some 122, none, some (0, 0), .ld false 1 (.t 121)⟩,
    ⟨some 123, none, none, .ar .add (.t 117) (.t 122)⟩,
    ⟨some 13, none, none, .mv (.t 116)⟩,
    ⟨some 14, none, none, .mv (.t 123)⟩]))))
  (.ops [⟨some 124, none, none, .ar .add (.t 87) (.c (.int .i64 1))⟩,
    ⟨some 87, none, none, .mv (.t 124)⟩])))))))
  (.seq (.ops [⟨some 125, none, none, .mv (.t 11)⟩,
    ⟨some 126, none, none, .len (.t 125)⟩,
    ⟨some 127, none, none, .ar .gtr (.t 126) (.c (.int .i64 0))⟩,
    ⟨some 128, none, none, .mv (.t 127)⟩,
    ⟨some 129, some (128, true), none, .fad 0 (.t 10)⟩,
    ⟨some 130, some (128, true), none, .ld false 1 (.t 129)⟩,
    ⟨some 131, some (128, true), none, .mv (.t 13)⟩,
    ⟨some 132, some (128, true), none, .ar .lss (.t 130) (.t 131)⟩,
    ⟨some 133, some (128, true), none, .mv (.t 132)⟩,
    ⟨some 134, some (133, false), none, .fad 1 (.t 10)⟩,
    ⟨some 135, some (133, false), none, .ld false 1 (.t 134)⟩,
    ⟨some 136, some (133, false), none, .mv (.t 14)⟩,
    ⟨some 137, some (133, false), none, .ar .gtr (.t 135) (.t 136)⟩,
    ⟨some 138, some (128, true), none, .pick (.t 133) (.c (.bool true)) (.t 137)⟩,
    ⟨some 139, none, none, .pick (.t 128) (.t 138) (.c (.bool false))⟩,
    ⟨some 140, none, none, .mv (.t 139)⟩,
    ⟨some 141, some (140, false), none, .mv (.t 11)⟩,
    ⟨some 142, some (140, false), none, .len (.t 141)⟩,
    ⟨some 143, some (140, false), none, .ar .eql (.t 142) (.c (.int .i64 0))⟩,
    ⟨some 144, some (140, false), none, .ld true 3 (.t 4)⟩,
    ⟨some 145, some (140, false), none, .mv (.t 9)⟩,
    ⟨some 146, some (140, false), none, .call (.c (.fn 40 [] [])) [.t 144, .t 145]⟩,
    ⟨some 147, some (140, false), none, .beq true (.t 143) (.t 146)⟩,
    ⟨some 148, none, none, .pick (.t 140) (.c (.bool true)) (.t 147)⟩])
  (.cond (.t 148) (.seq (.ops [⟨some 2, none, none, .mv (.c (.bool false))⟩])
  (.ret))
  (.skip))))))))))
  (.ops [⟨some 149, none, none, .ar .add (.t 54) (.c (.int .i64 1))⟩,
    ⟨some 54, none, none, .mv (.t 149)⟩])))))))
  (.seq (.ops [⟨some 17, none, none, .alc [.int .i64 0, .int .i64 0, .int .i64 0, .int .i64 0]⟩,
    ⟨some 18, none, none, .alc [.int .i64 0, .int .i64 0, .int .i64 0, .int .i64 0]⟩])
  (.seq (.seq (.ops [⟨some 150, none, none, .mv (.c (.int .i64 0))⟩])
  (.block 4 (.loop (.seq (.ops [⟨some 151, none, none, .ar .lss (.t 150) (.c (.int .i64 4))⟩])
  (.seq (.cond (.t 151) (.skip)
  (.exit 4))
  (.seq (.block 5 (.seq (.ops [⟨some 152, none, none, .mv (.t 150)⟩,
    ⟨some 19, none, none, .mv (.t 152)⟩])
  (.seq (.ops [⟨some 154, none, none, .ld true 3 (.t 4)⟩,
    ⟨some 155, none, none, .mv (.t 19)⟩,
    ⟨some 156, none, none, .call (.c (.fn 25 [] [])) [.t 154, .t 155]⟩,
    ⟨some 153, none, none, .mv (.t 156)⟩,
    ⟨some 157, none, none, .ext (.t 153) 0⟩,
    ⟨some 158, none, none, .ext (.t 153) 1⟩,
    ⟨some 20, none, none, .alc [.int .i64 0, .int .i64 0]⟩,
    ⟨none, none, none, .sto 2 (.t 20) (.t 157)⟩,
    ⟨some 21, none, none, .mv (.t 158)⟩])
  (.seq (.seq (.ops [⟨some 159, none, none, .mv (.t 21)⟩,
    ⟨some 160, none, none, .ar .neq (.t 159) (.c (.int .i64 0))⟩,
    ⟨some 161, none, none, .mv (.t 160)⟩,
    ⟨some 162, some (161, false), none, .fad 0 (.t 20)⟩,
    ⟨some 163, some (161, false), none, .ld false 1 (.t 162)⟩,
    ⟨some 164, some (161, false), none, .fad 1 (.t 20)⟩,
    ⟨some 165, some (161, false), none, .ld false 1 (.t 164)⟩,
    ⟨some 166, some (161, false), none, .ar .gtr (.t 163) (.t 165)⟩,
    ⟨some 167, none, none, .pick (.t 161) (.c (.bool true)) (.t 166)⟩,
    ⟨some 168, none, none, .mv (.t 167)⟩,
    ⟨some 169, some (168, false), none, .fad 0 (.t 20)⟩,
    ⟨some 170, some (168, false), none, .ld false 1 (.t 169)⟩,
    ⟨some 171, some (168, false), none, .ar .lss (.t 170) (.c (.int .i64 0))⟩,
    ⟨some 172, none, none, .pick (.t 168) (.c (.bool true)) (.t 171)⟩])
  (.cond (.t 172) (.seq (.ops [⟨some 2, none, none, .mv (.c (.bool false))⟩])
  (.ret))
  (.skip)))
  (.dops [⟨some 173, none, none, .mv (.t 19)⟩,
    ⟨some 174, none, none, .mv (.t 19)⟩,
    ⟨some 175, none, none, .fad 0 (.t 20)⟩,
    ⟨some 176, none, some (0, 0), .ld false 1 (.t 175)⟩,
    ⟨some 177, none, none, .fad 1 (.t 20)⟩,
    ⟨some 178, none, some (0, 1), .ld false 1 (.t 177)⟩,
    ⟨some 179, none, none, .iaa 4 1 (.t 17) (.t 173)⟩,
    ⟨none, none, none, .sto 1 (.t 179) (.t 176)⟩,
    ⟨some 180, none, none, .iaa 4 1 (.t 18) (.t 174)⟩,
    ⟨none, none, none, .sto 1 (.t 180) (.t 178)⟩])))))
  (.ops [⟨some 181, none, none, .ar .add (.t 150) (.c (.int .i64 1))⟩,
    ⟨some 150, none, none, .mv (.t 181)⟩])))))))
  (.seq (.seq (.ops [⟨some 182, none, none, .mv (.c (.int .i64 0))⟩])
  (.block 6 (.loop (.seq (.ops [⟨some 183, none, none, .ar .lss (.t 182) (.c (.int .i64 4))⟩])
  (.seq (.cond (.t 183) (.skip)
  (.exit 6))
  (.seq (.block 7 (.seq (.ops [⟨some 184, none, none, .mv (.t 182)⟩,
    ⟨some 22, none, none, .mv (.t 184)⟩])
  (.seq (.ops [⟨some 23, none, none, .mv (.c (.int .i64 0))⟩,
    ⟨some 24, none, none, .mv (.c (.int .i64 0))⟩])
  (.seq (.seq (.ops [⟨some 185, none, none, .mv (.c (.int .i64 0))⟩])
  (.block 8 (.loop (.seq (.ops [⟨some 186, none, none, .ar .lss (.t 185) (.c (.int .i64 4))⟩])
  (.seq (.cond (.t 186) (.skip)
  (.exit 8))
  (.seq (.block 9 (.seq (.ops [⟨some 187, none, none, .mv (.t 185)⟩,
    ⟨some 25, none, none, .mv (.t 187)⟩])
  (.seq (.ops [⟨some 188, none, none, .mv (.t 25)⟩,
    ⟨some 189, none, none, .mv (.t 22)⟩,
    ⟨some 190, none, none, .ar .neq (.t 188) (.t 189)⟩])
  (.cond (.t 190) (.dops [⟨some 191, none, none, .mv (.t 23)⟩,
    ⟨some 192, none, none, .mv (.t 25)⟩,
    ⟨some 193, none, none, .iaa 4 1 (.t 17) (.t 192)⟩,
    ⟨some 194, none, some (0, 0), .ld false 1 (.t 193)⟩,
    ⟨some 195, none, none, .ar .add (.t 191) (.t 194)⟩,
    ⟨some 196, none, none, .mv (.t 24)⟩,
    ⟨some 197, none, none, .mv (.t 25)⟩,
    ⟨some 198, none, none, .iaa 4 1 (.t 18) (.t 197)⟩,
    ⟨some 199, none, some (0, 0), .ld false 1 (.t 198)⟩,
    ⟨some 200, none, none, .ar .add (.t 196) (.t 199)⟩,
    ⟨some 23, none, none, .mv (.t 195)⟩,
    ⟨some 24, none, none, .mv (.t 200)⟩])
  (.skip)))))
  (.ops [⟨some 201, none, none, .ar .add (.t 185) (.c (.int .i64 1))⟩,
    ⟨some 185, none, none, .mv (.t 201)⟩])))))))
  (.seq (.dops [⟨some 202, none, none, .mv (.t 22)⟩,
    ⟨some 203, none, none, .iaa 4 1 (.t 18) (.t 202)⟩,
    ⟨some 204, none, some (0, 0), .ld false 1 (.t 203)⟩,
    ⟨some 205, none, none, .mv (.t 23)⟩,
    ⟨some 206, none, none, .ar .add (.t 204) (.t 205)⟩,
    ⟨some 207, none, none, .fad 1 (.t 8)⟩,
    ⟨some 208, none, some (0, 0), .ld false 1 (.t 207)⟩,
    ⟨some 209, none, none, .ar .gtr (.t 206) (.t 208)⟩,
    ⟨some 210, none, none, .mv (.t 209)⟩,
    ⟨some 211, some (210, false), none, .mv (.t 22)⟩,
    ⟨some 212, some (210, false), none, .iaa 4 1 (.t 17) (.t 211)⟩,
    ⟨some 213, some (210, false), some (0, 0), .ld false 1 (.t 212)⟩,
    ⟨some 214, some (210, false), none, .mv (.t 24)⟩,
    ⟨some 215, some (210, false), none, .ar .add (.t 213) (.t 214)⟩,
    ⟨some 216, some (210, false), none, .fad 0 (.t 8)⟩,
    ⟨some 217, some (210, false), some (0, 0), .ld false 1 (.t 216)⟩,
    ⟨some 218, some (210, false), none, .ar .lss (.t 215) (.t 217)⟩,
    ⟨some 219, none, none, .pick (.t 210) (.c (.bool true)) (.t 218)⟩])
  (.cond (.t 219) (.seq (.ops [⟨some 2, none, none, .mv (.c (.bool false))⟩])
  (.ret))
  (.skip)))))))
  (.ops [⟨some 220, none, none, .ar .add (.t 182) (.c (.int .i64 1))⟩,
    ⟨some 182, none, none, .mv (.t 220)⟩])))))))
  (.seq (.ops [⟨some 221, none, none, .call (.c (.fn 17 [] [])) []⟩,
    ⟨some 2, none, none, .mv (.t 221)⟩])
  (.ret))))))))))))⟩
def c7 : FD := ⟨204, [.tmp 12],
  .seq (.ops [⟨some 12, none, none, .mv (.c (.bool false))⟩])
  (.seq (.ops [⟨some 27, none, none, .mv (.t 2)⟩,
    ⟨some 28, none, none, .cv .i64 (.t 27)⟩,
    ⟨some 29, none, none, .ar .rem (.t 28) (.c (.int .i64 61))⟩,
    ⟨some 13, none, none, .mv (.t 29)⟩])
  (.seq (.ops [⟨some 30, none, none, .mv (.t 0)⟩,
    ⟨some 31, none, none, .cv .i64 (.t 30)⟩,
    ⟨some 32, none, none, .ar .rem (.t 31) (.c (.int .i64 10001))⟩,
    ⟨some 33, none, none, .mv (.t 13)⟩,
    ⟨some 34, none, none, .mv (.t 13)⟩,
    ⟨some 35, none, none, .mv (.t 3)⟩,
    ⟨some 36, none, none, .cv .i64 (.t 35)⟩,
    ⟨some 37, none, none, .ar .rem (.t 36) (.c (.int .i64 20))⟩,
    ⟨some 38, none, none, .ar .add (.t 34) (.t 37)⟩,
    ⟨some 39, none, none, .mn [.c (.int .i64 60), .t 38]⟩,
    ⟨some 40, none, none, .bld [.int .i64 0, .int .i64 0] [(0, 1, .t 33), (1, 1, .t 39)]⟩,
    ⟨some 41, none, none, .bld [.int .i64 0, .int .i64 0, .int .i64 0, .int .i64 0] [(1, 1, .t 32), (2, 2, .t 40)]⟩,
    ⟨some 14, none, none, .alc [.int .i64 0, .int .i64 0, .int .i64 0, .int .i64 0]⟩,
    ⟨none, none, none, .sto 4 (.t 14) (.t 41)⟩])
  (.seq (.ops [⟨some 42, none, none, .mv (.t 4)⟩,
    ⟨some 43, none, none, .cv .i64 (.t 42)⟩,
    ⟨some 44, none, none, .ar .rem (.t 43) (.c (.int .i64 51))⟩,
    ⟨some 45, none, none, .bld [.int .i64 0, .int .i64 0] [(0, 1, .c (.int .i64 (-1)))]⟩,
    ⟨some 46, none, none, .bsl 1 [.int .i64 0, .int .i64 0] [(0, 2, .t 45)]⟩,
    ⟨some 47, none, none, .ld true 4 (.t 14)⟩,
    ⟨some 48, none, none, .bsl 1 [.int .i64 0, .int .i64 0, .int .i64 0, .int .i64 0] [(0, 4, .t 47)]⟩,
    ⟨some 49, none, none, .bld [.int .i64 0, .nils, .nils] [(0, 1, .t 44), (1, 1, .t 46), (2, 1, .t 48)]⟩,
    ⟨some 15, none, none, .alc [.int .i64 0, .nils, .nils]⟩,
    ⟨none, none, none, .sto 3 (.t 15) (.t 49)⟩])
  (.seq (.ops [⟨some 51, none, none, .ld true 3 (.t 15)⟩,
    ⟨some 52, none, none, .call (.c (.fn 41 [] [])) [.t 51, .c (.int .i64 0)]⟩,
    ⟨some 50, none, none, .mv (.t 52)⟩,
    ⟨some 53, none, none, .ext (.t 50) 0⟩,
    ⟨some 54, none, none, .ext (.t 50) 1⟩,
    ⟨some 16, none, none, .alc [.int .i64 0, .int .i64 0]⟩,
    ⟨none, none, none, .sto 2 (.t 16) (.t 53)⟩,
    ⟨some 17, none, none, .mv (.t 54)⟩])
  (.seq (.ops [⟨some 55, none, none, .mv (.t 1)⟩,
    ⟨some 56, none, none, .cv .i64 (.t 55)⟩,
    ⟨some 57, none, none, .ar .rem (.t 56) (.c (.int .i64 10001))⟩,
    ⟨some 18, none, none, .mv (.t 57)⟩])
  (.seq (.seq (.ops [⟨some 58, none, none, .mv (.t 17)⟩,
    ⟨some 59, none, none, .ar .neq (.t 58) (.c (.int .i64 0))⟩])
  (.cond (.t 59) (.seq (.ops [⟨some 60, none, none, .mv (.t 17)⟩,
    ⟨some 61, none, none, .ar .eql (.t 60) (.c (.int .i64 6))⟩,
    ⟨some 62, none, none, .mv (.t 61)⟩,
    ⟨some 63, some (62, true), none, .ld true 2 (.t 16)⟩,
    ⟨some 64, some (62, true), none, .bld [.int .i64 0, .int .i64 0] []⟩,
    ⟨some 65, some (62, true), none, .feq false 2 (.t 63) (.t 64)⟩,
    ⟨some 66, none, none, .pick (.t 62) (.t 65) (.c (.bool false))⟩,
    ⟨some 67, none, none, .mv (.t 66)⟩,
    ⟨some 68, some (67, true), none, .ld true 3 (.t 15)⟩,
    ⟨some 69, some (67, true), none, .ld true 4 (.t 14)⟩,
    ⟨some 70, some (67, true), none, .mv (.t 18)⟩,
    ⟨some 71, some (67, true), none, .call (.c (.fn 42 [] [])) [.t 68, .t 69, .t 70]⟩,
    ⟨some 72, some (67, true), none, .not (.t 71)⟩,
    ⟨some 73, none, none, .pick (.t 67) (.t 72) (.c (.bool false))⟩,
    ⟨some 74, none, none, .mv (.t 73)⟩,
    ⟨some 75, some (74, true), none, .call (.c (.fn 17 [] [])) []⟩,
    ⟨some 76, none, none, .pick (.t 74) (.t 75) (.c (.bool false))⟩,
    ⟨some 12, none, none, .mv (.t 76)⟩])
  (.ret))
  (.skip)))
  (.seq (.seq (.ops [⟨some 77, none, none, .mv (.t 18)⟩,
    ⟨some 78, none, none, .fad 0 (.t 16)⟩,
    ⟨some 79, none, none, .ld false 1 (.t 78)⟩,
    ⟨some 80, none, none, .fad 1 (.t 16)⟩,
    ⟨some 81, none, none, .ld false 1 (.t 80)⟩,
    ⟨some 82, none, none, .fad 0 (.t 16)⟩,
    ⟨some 83, none, none, .ld false 1 (.t 82)⟩,
    ⟨some 84, none, none, .ar .sub (.t 83) (.c (.int .i64 1))⟩,
    ⟨some 85, none, none, .fad 1 (.t 16)⟩,
    ⟨some 86, none, none, .ld false 1 (.t 85)⟩,
    ⟨some 87, none, none, .ar .add (.t 86) (.c (.int .i64 1))⟩,
    ⟨some 88, none, none, .bsl 5 [.int .i64 0, .int .i64 0, .int .i64 0, .int .i64 0, .int .i64 0] [(0, 1, .t 77), (1, 1, .t 79), (2, 1, .t 81), (3, 1, .t 84), (4, 1, .t 87)]⟩,
    ⟨some 89, none, none, .len (.t 88)⟩,
    ⟨some 90, none, none, .mv (.c (.int .i64 0))⟩])
  (.block 0 (.loop (.seq (.ops [⟨some 91, none, none, .ar .lss (.t 90) (.t 89)⟩])
  (.seq (.cond (.t 91) (.skip)
  (.exit 0))
  (.seq (.block 1 (.seq (.ops [⟨some 92, none, none, .iad 1 (.t 88) (.t 90)⟩,
    ⟨some 93, none, none, .ld false 1 (.t 92)⟩,
    ⟨some 20, none, none, .mv (.t 93)⟩])
  (.seq (.dops [⟨some 94, none, none, .mv (.t 20)⟩,
    ⟨some 95, none, none, .ar .geq (.t 94) (.c (.int .i64 0))⟩,
    ⟨some 96, none, none, .mv (.t 95)⟩,
    ⟨some 97, some (96, true), none, .mv (.t 20)⟩,
    ⟨some 98, some (96, true), none, .ar .leq (.t 97) (.c (.int .i64 10000))⟩,
    ⟨some 99, none, none, .pick (.t 96) (.t 98) (.c (.bool false))⟩,
    ⟨some 100, none, none, .mv (.t 99)⟩,
    ⟨some 101, some (100, true), some (0, 0), .ld true 3 (.t 15)⟩,
    ⟨some 102, some (100, true), some (0, 0), .ld true 4 (.t 14)⟩,
    ⟨some 103, some (100, true), none, .mv (.t 20)⟩,
    ⟨some 104, some (100, true), none, .call (.c (.fn 42 [] [])) [.t 101, .t 102, .t 103]⟩,
    ⟨some 105, some (100, true), none, .mv (.t 20)⟩,
    ⟨some 106, some (100, true), none, .fad 0 (.t 16)⟩,
    ⟨some 107, some (100, true), some (0, 1), .ld false 1 (.t 106)⟩,
    ⟨some 108, some (100, true), none, .ar .geq (.t 105) (.t 107)⟩,
    ⟨some 109, some (100, true), none, .mv (.t 108)⟩,
    ⟨some 110, some (109, true), none, .mv (.t 20)⟩,
    ⟨some 111, some (109, true), none, .fad 1 (.t 16)⟩,
    ⟨some 112, some (109, true), some (1, 1), .ld false 1 (.t 111)⟩,
    ⟨some 113, some (109, true), none, .ar .leq (.t 110) (.t 112)⟩,
    ⟨some 114, some (100, true), none, .pick (.t 109) (.t 113) (.c (.bool false))⟩,
    ⟨some 115, some (100, true), none, .beq true (.t 104) (.t 114)⟩,
    ⟨some 116, none, none, .pick (.t 100) (.t 115) (.c (.bool false))⟩])
  (.cond (.t 116) (.seq (.ops [⟨some 12, none, none, .mv (.c (.bool false))⟩])
  (.ret))
  (.skip)))))
  (.ops [⟨some 117, none, none, .ar .add (.t 90) (.c (.int .i64 1))⟩,
    ⟨some 90, none, none, .mv (.t 117)⟩])))))))
  (.seq (.ops [⟨some 118, none, none, .ld true 3 (.t 15)⟩,
    ⟨some 119, none, none, .call (.c (.fn 18 [] [])) [.t 118]⟩,
    ⟨some 21, none, none, .alc [.int .i64 0, .nils, .nils]⟩,
    ⟨none, none, none, .sto 3 (.t 21) (.t 119)⟩])
  (.seq (.ops [⟨some 120, none, none, .mv (.t 5)⟩,
    ⟨some 121, none, none, .cv .i64 (.t 120)⟩,
    ⟨some 122, none, none, .ar .rem (.t 121) (.c (.int .i64 9))⟩,
    ⟨some 123, none, none, .fad 2 (.t 14)⟩,
    ⟨some 124, none, none, .fad 1 (.t 123)⟩,
    ⟨some 125, none, none, .ld false 1 (.t 124)⟩,
    ⟨some 126, none, none, .ar .sub (.c (.int .i64 60)) (.t 125)⟩,
    ⟨some 127, none, none, .mn [.t 122, .t 126]⟩,
    ⟨some 22, none, none, .mv (.t 127)⟩])
  (.seq (.ops [⟨some 128, none, none, .fad 2 (.t 21)⟩,
    ⟨some 129, none, none, .ld false 1 (.t 128)⟩,
    ⟨some 130, none, none, .mv (.t 13)⟩,
    ⟨some 131, none, none, .mv (.t 22)⟩,
    ⟨some 132, none, none, .ar .add (.t 130) (.t 131)⟩,
    ⟨some 133, none, none, .fad 2 (.t 14)⟩,
    ⟨some 134, none, none, .fad 1 (.t 133)⟩,
    ⟨some 135, none, none, .ld false 1 (.t 134)⟩,
    ⟨some 136, none, none, .mv (.t 22)⟩,
    ⟨some 137, none, none, .ar .add (.t 135) (.t 136)⟩,
    ⟨some 138, none, none, .bld [.int .i64 0, .int .i64 0] [(0, 1, .t 132), (1, 1, .t 137)]⟩,
    ⟨some 139, none, none, .iad 4 (.t 129) (.c (.int .i64 0))⟩,
    ⟨some 140, none, none, .fad 2 (.t 139)⟩,
    ⟨none, none, none, .sto 2 (.t 140) (.t 138)⟩])
  (.seq (.seq (.ops [⟨some 142, none, none, .ld true 3 (.t 21)⟩,
    ⟨some 143, none, none, .call (.c (.fn 41 [] [])) [.t 142, .c (.int .i64 0)]⟩,
    ⟨some 141, none, none, .mv (.t 143)⟩,
    ⟨some 144, none, none, .ext (.t 141) 0⟩,
    ⟨some 145, none, none, .ext (.t 141) 1⟩,
    ⟨some 23, none, none, .alc [.int .i64 0, .int .i64 0]⟩,
    ⟨none, none, none, .sto 2 (.t 23) (.t 144)⟩,
    ⟨some 24, none, none, .mv (.t 145)⟩])
  (.seq (.ops [⟨some 146, none, none, .mv (.t 24)⟩,
    ⟨some 147, none, none, .ar .eql (.t 146) (.c (.int .i64 0))⟩,
    ⟨some 148, none, none, .mv (.t 147)⟩,
    ⟨some 149, some (148, true), none, .fad 0 (.t 23)⟩,
    ⟨some 150, some (148, true), none, .ld false 1 (.t 149)⟩,
    ⟨some 151, some (148, true), none, .fad 0 (.t 16)⟩,
    ⟨some 152, some (148, true), none, .ld false 1 (.t 151)⟩,
    ⟨some 153, some (148, true), none, .ar .gtr (.t 150) (.t 152)⟩,
    ⟨some 154, some (148, true), none, .mv (.t 153)⟩,
    ⟨some 155, some (154, false), none, .fad 1 (.t 23)⟩,
    ⟨some 156, some (154, false), none, .ld false 1 (.t 155)⟩,
    ⟨some 157, some (154, false), none, .fad 1 (.t 16)⟩,
    ⟨some 158, some (154, false), none, .ld false 1 (.t 157)⟩,
    ⟨some 159, some (154, false), none, .ar .gtr (.t 156) (.t 158)⟩,
    ⟨some 160, some (148, true), none, .pick (.t 154) (.c (.bool true)) (.t 159)⟩,
    ⟨some 161, none, none, .pick (.t 148) (.t 160) (.c (.bool false))⟩,
    ⟨some 162, none, none, .mv (.t 161)⟩,
    ⟨some 163, some (162, false), none, .mv (.t 24)⟩,
    ⟨some 164, some (162, false), none, .ar .neq (.t 163) (.c (.int .i64 0))⟩,
    ⟨some 165, some (162, false), none, .mv (.t 164)⟩,
    ⟨some 166, some (165, true), none, .mv (.t 24)⟩,
    ⟨some 167, some (165, true), none, .ar .neq (.t 166) (.c (.int .i64 6))⟩,
    ⟨some 168, some (162, false), none, .pick (.t 165) (.t 167) (.c (.bool false))⟩,
    ⟨some 169, none, none, .pick (.t 162) (.c (.bool true)) (.t 168)⟩])
  (.cond (.t 169) (.seq (.ops [⟨some 12, none, none, .mv (.c (.bool false))⟩])
  (.ret))
  (.skip))))
  (.seq (.ops [⟨some 170, none, none, .ld true 3 (.t 15)⟩,
    ⟨some 171, none, none, .call (.c (.fn 18 [] [])) [.t 170]⟩,
    ⟨some 25, none, none, .alc [.int .i64 0, .nils, .nils]⟩,
    ⟨none, none, none, .sto 3 (.t 25) (.t 171)⟩])
  (.seq (.ops [⟨some 172, none, none, .fad 0 (.t 15)⟩,
    ⟨some 173, none, none, .ld false 1 (.t 172)⟩,
    ⟨some 174, none, none, .mv (.t 5)⟩,
    ⟨some 175, none, none, .cv .i64 (.t 174)⟩,
    ⟨some 176, none, none, .ar .rem (.t 175) (.c (.int .i64 7))⟩,
    ⟨some 177, none, none, .ar .add (.t 173) (.t 176)⟩,
    ⟨some 178, none, none, .mn [.c (.int .i64 50), .t 177]⟩,
    ⟨some 179, none, none, .fad 0 (.t 25)⟩,
    ⟨none, none, none, .sto 1 (.t 179) (.t 178)⟩])
  (.seq (.ops [⟨some 181, none, none, .ld true 3 (.t 25)⟩,
    ⟨some 182, none, none, .call (.c (.fn 41 [] [])) [.t 181, .c (.int .i64 0)]⟩,
    ⟨some 180, none, none, .mv (.t 182)⟩,
    ⟨some 183, none, none, .ext (.t 180) 0⟩,
    ⟨some 184, none, none, .ext (.t 180) 1⟩,
    ⟨some 26, none, none, .alc [.int .i64 0, .int .i64 0]⟩,
    ⟨none, none, none, .sto 2 (.t 26) (.t 183)⟩,
    ⟨some 17, none, none, .mv (.t 184)⟩])
  (.seq (.ops [⟨some 185, none, none, .mv (.t 17)⟩,
    ⟨some 186, none, none, .ar .eql (.t 185) (.c (.int .i64 0))⟩,
    ⟨some 187, none, none, .mv (.t 186)⟩,
    ⟨some 188, some (187, true), none, .fad 0 (.t 26)⟩,
    ⟨some 189, some (187, true), none, .ld false 1 (.t 188)⟩,
    ⟨some 190, some (187, true), none, .fad 0 (.t 16)⟩,
    ⟨some 191, some (187, true), none, .ld false 1 (.t 190)⟩,
    ⟨some 192, some (187, true), none, .ar .leq (.t 189) (.t 191)⟩,
    ⟨some 193, none, none, .pick (.t 187) (.t 192) (.c (.bool false))⟩,
    ⟨some 194, none, none, .mv (.t 193)⟩,
    ⟨some 195, some (194, true), none, .fad 1 (.t 26)⟩,
    ⟨some 196, some (194, true), none, .ld false 1 (.t 195)⟩,
    ⟨some 197, some (194, true), none, .fad 1 (.t 16)⟩,
    ⟨some 198, some (194, true), none, .ld false 1 (.t 197)⟩,
    ⟨some 199, some (194, true), none, .ar .geq (.t 196) (.t 198)⟩,
    ⟨some 200, none, none, .pick (.t 194) (.t 199) (.c (.bool false))⟩,
    ⟨some 201, none, none, .mv (.t 200)⟩,
    ⟨some 202, some (201, true), none, .call (.c (.fn 17 [] [])) []⟩,
    ⟨some 203, none, none, .pick (.t 201) (.t 202) (.c (.bool false))⟩,
    ⟨some 12, none, none, .mv (.t 203)⟩])
  (.ret))))))))))))))))⟩
def c8 : FD := ⟨131, [.tmp 4],
  .seq (.ops [⟨some 2, none, none, .box (.t 0)⟩,
    ⟨some 4, none, none, .mv (.c (.bool false))⟩])
  (.seq (.seq (.ops [⟨some 22, none, none, .ld true 3 (.t 2)⟩,
    ⟨some 23, none, none, .call (.c (.fn 16 [] [])) [.t 22]⟩,
    ⟨some 24, none, none, .mv (.t 23)⟩,
    ⟨some 25, some (24, false), none, .mv (.t 1)⟩,
    ⟨some 26, some (24, false), none, .len (.t 25)⟩,
    ⟨some 27, some (24, false), none, .ar .gtr (.t 26) (.c (.int .i64 14))⟩,
    ⟨some 28, none, none, .pick (.t 24) (.c (.bool true)) (.t 27)⟩,
    ⟨some 29, none, none, .mv (.t 28)⟩,
    ⟨some 30, some (29, false), none, .fad 2 (.t 2)⟩,
    ⟨some 31, some (29, false), none, .ld false 1 (.t 30)⟩,
    ⟨some 32, some (29, false), none, .len (.t 31)⟩,
    ⟨some 33, some (29, false), none, .ar .gtr (.t 32) (.c (.int .i64 7))⟩,
    ⟨some 34, some (29, false), none, .mv (.t 33)⟩,
    ⟨some 35, some (34, true), none, .fad 2 (.t 2)⟩,
    ⟨some 36, some (34, true), none, .ld false 1 (.t 35)⟩,
    ⟨some 37, some (34, true), none, .len (.t 36)⟩,
    ⟨some 38, some (34, true), none, .ar .leq (.t 37) (.c (.int .i64 10))⟩,
    ⟨some 39, some (29, false), none, .pick (.t 34) (.t 38) (.c (.bool false))⟩,
    ⟨some 40, none, none, .pick (.t 29) (.c (.bool true)) (.t 39)⟩])
  (.cond (.t 40) (.seq (.ops [⟨some 41, none, none, .call (.c (.fn 17 [] [])) []⟩,
    ⟨some 4, none, none, .mv (.t 41)⟩])
  (.ret))
  (.skip)))
  (.seq (.dops [⟨some 42, none, some (0, 0), .ld true 3 (.t 2)⟩,
    ⟨some 43, none, none, .call (.c (.fn 18 [] [])) [.t 42]⟩,
    ⟨some 44, none, some (0, 1), .ld true 3 (.t 2)⟩,
    ⟨some 45, none, none, .call (.c (.fn 19 [] [])) [.t 44]⟩,
    ⟨some 46, none, none, .mv (.t 1)⟩,
    ⟨some 47, none, none, .call (.c (.fn 27 [] [])) [.t 46]⟩,
    ⟨some 5, none, none, .alc [.int .i64 0, .nils, .nils]⟩,
    ⟨some 6, none, none, .alc [.int .i64 0, .nils, .nils]⟩,
    ⟨none, none, none, .sto 3 (.t 5) (.t 43)⟩,
    ⟨none, none, none, .sto 3 (.t 6) (.t 45)⟩,
    ⟨some 7, none, none, .mv (.t 47)⟩])
  (.seq (.ops [⟨some 48, none, none, .ld true 3 (.t 6)⟩,
    ⟨some 49, none, none, .call (.c (.fn 20 [] [])) [.t 48]⟩,
    ⟨some 8, none, none, .mv (.t 49)⟩])
  (.seq (.ops [⟨some 50, none, none, .mv (.t 8)⟩,
    ⟨some 51, none, none, .mv (.t 8)⟩,
    ⟨some 9, none, none, .mv (.t 50)⟩,
    ⟨some 10, none, none, .mv (.t 51)⟩,
    ⟨some 11, none, none, .mv (.c (.bool false))⟩])
  (.seq (.ops [⟨some 12, none, none, .mv (.c (.nils))⟩,
    ⟨some 13, none, none, .mv (.c (.nils))⟩])
  (.seq (.seq (.ops [⟨some 52, none, none, .mv (.t 8)⟩,
    ⟨some 53, none, none, .ar .eql (.t 52) (.c (.int .i64 0))⟩])
  (.cond (.t 53) (.seq (.ops [⟨some 14, none, none, .mv (.c (.nils))⟩])
  (.seq (.seq (.ops [⟨some 55, none, none, .ld true 3 (.t 6)⟩,
    ⟨some 56, none, none, .mv (.t 1)⟩,
    ⟨some 57, none, none, .call (.c (.fn 43 [] [])) [.t 55, .t 56]⟩,
    ⟨some 54, none, none, .mv (.t 57)⟩,
    ⟨some 58, none, none, .ext (.t 54) 0⟩,
    ⟨some 59, none, none, .ext (.t 54) 1⟩,
    ⟨some 14, none, none, .mv (.t 58)⟩,
    ⟨some 9, none, none, .mv (.t 59)⟩])
  (.seq (.ops [⟨some 60, none, none, .mv (.t 9)⟩,
    ⟨some 61, none, none, .ar .eql (.t 60) (.c (.int .i64 0))⟩])
  (.cond (.t 61) (.ops [⟨some 62, none, none, .ld true 3 (.t 6)⟩,
    ⟨some 63, none, none, .mv (.t 14)⟩,
    ⟨some 64, none, none, .call (.c (.fn 21 [] [])) [.t 62, .t 63]⟩,
    ⟨some 11, none, none, .mv (.t 64)⟩])
  (.skip))))
  (.seq (.ops [⟨some 15, none, none, .mv (.c (.bool false))⟩])
  (.seq (.seq (.ops [⟨some 66, none, none, .ld true 3 (.t 6)⟩,
    ⟨some 67, none, none, .call (.c (.fn 44 [] [])) [.t 66]⟩,
    ⟨some 65, none, none, .mv (.t 67)⟩,
    ⟨some 68, none, none, .ext (.t 65) 0⟩,
    ⟨some 69, none, none, .ext (.t 65) 1⟩,
    ⟨some 12, none, none, .mv (.t 68)⟩,
    ⟨some 15, none, none, .mv (.t 69)⟩])
  (.seq (.ops [⟨some 70, none, none, .mv (.t 15)⟩,
    ⟨some 71, none, none, .not (.t 70)⟩])
  (.cond (.t 71) (.ops [⟨some 10, none, none, .mv (.c (.int .i64 6))⟩])
  (.skip))))
  (.ops [⟨some 72, none, none, .ld true 3 (.t 6)⟩,
    ⟨some 73, none, none, .call (.c (.fn 45 [] [])) [.t 72]⟩,
    ⟨some 13, none, none, .mv (.t 73)⟩])))))
  (.skip)))
  (.seq (.ops [⟨some 75, none, none, .ld true 3 (.t 5)⟩,
    ⟨some 76, none, none, .mv (.t 7)⟩,
    ⟨some 77, none, none, .call (.c (.fn 46 [] [])) [.t 75, .t 76]⟩,
    ⟨some 74, none, none, .mv (.t 77)⟩,
    ⟨some 78, none, none, .ext (.t 74) 0⟩,
    ⟨some 79, none, none, .ext (.t 74) 1⟩,
    ⟨some 16, none, none, .mv (.t 78)⟩,
    ⟨some 17, none, none, .mv (.t 79)⟩])
  (.seq (.ops [⟨some 81, none, none, .ld true 3 (.t 5)⟩,
    ⟨some 82, none, none, .call (.c (.fn 47 [] [])) [.t 81]⟩,
    ⟨some 80, none, none, .mv (.t 82)⟩,
    ⟨some 83, none, none, .ext (.t 80) 0⟩,
    ⟨some 84, none, none, .ext (.t 80) 1⟩,
    ⟨some 18, none, none, .mv (.t 83)⟩,
    ⟨some 19, none, none, .mv (.t 84)⟩])
  (.seq (.ops [⟨some 86, none, none, .ld true 3 (.t 5)⟩,
    ⟨some 87, none, none, .call (.c (.fn 48 [] [])) [.t 86]⟩,
    ⟨some 85, none, none, .mv (.t 87)⟩,
    ⟨some 88, none, none, .ext (.t 85) 0⟩,
    ⟨some 89, none, none, .ext (.t 85) 1⟩,
    ⟨some 20, none, none, .mv (.t 88)⟩,
    ⟨some 21, none, none, .mv (.t 89)⟩])
  (.seq (.ops [⟨some 90, none, none, .mv (.t 17)⟩,
    ⟨some 91, none, none, .mv (.t 9)⟩,
    ⟨some 92, none, none, .ar .eql (.t 90) (.t 91)⟩,
    ⟨some 93, none, none, .mv (.t 92)⟩,
    ⟨some 94, some (93, true), none, .mv (.t 19)⟩,
    ⟨some 95, some (93, true), none, .mv (.t 10)⟩,
    ⟨some 96, some (93, true), none, .ar .eql (.t 94) (.t 95)⟩,
    ⟨some 97, none, none, .pick (.t 93) (.t 96) (.c (.bool false))⟩,
    ⟨some 98, none, none, .mv (.t 97)⟩,
    ⟨some 99, some (98, true), none, .mv (.t 21)⟩,
    ⟨some 100, some (98, true), none, .mv (.t 8)⟩,
    ⟨some 101, some (98, true), none, .ar .eql (.t 99) (.t 100)⟩,
    ⟨some 102, none, none, .pick (.t 98) (.t 101) (.c (.bool false))⟩,
    ⟨some 103, none, none, .mv (.t 102)⟩,
    ⟨some 104, some (103, true), none, .mv (.t 16)⟩,
    ⟨some 105, some (103, true), none, .mv (.t 11)⟩,
    ⟨some 106, some (103, true), none, .beq false (.t 104) (.t 105)⟩,
    ⟨some 107, none, none, .pick (.t 103) (.t 106) (.c (.bool false))⟩,
    ⟨some 108, none, none, .mv (.t 107)⟩,
    ⟨some 109, some (108, true), none, .mv (.t 18)⟩,
    ⟨some 110, some (108, true), none, .mv (.t 12)⟩,
    ⟨some 111, some (108, true), none, .call (.c (.fn 31 [] [])) [.t 109, .t 110]⟩,
    ⟨some 112, none, none, .pick (.t 108) (.t 111) (.c (.bool false))⟩,
    ⟨some 113, none, none, .mv (.t 112)⟩,
    ⟨some 114, some (113, true), none, .mv (.t 20)⟩,
    ⟨some 115, some (113, true), none, .mv (.t 13)⟩,
    ⟨some 116, some (113, true), none, .call (.c (.fn 31 [] [])) [.t 114, .t 115]⟩,
    ⟨some 117, none, none, .pick (.t 113) (.t 116) (.c (.bool false))⟩,
    ⟨some 118, none, none, .mv (.t 117)⟩,
    ⟨some 119, some (118, true), none, .ld true 3 (.t 5)⟩,
    ⟨some 120, some (118, true), none, .ld true 3 (.t 2)⟩,
    ⟨some 121, some (118, true), none, .call (.c (.fn 26 [] [])) [.t 119, .t 120]⟩,
    ⟨some 122, none, none, .pick (.t 118) (.t 121) (.c (.bool false))⟩,
    ⟨some 123, none, none, .mv (.t 122)⟩,
    ⟨some 124, some (123, true), none, .mv (.t 7)⟩,
    ⟨some 125, some (123, true), none, .mv (.t 1)⟩,
    ⟨some 126, some (123, true), none, .call (.c (.fn 31 [] [])) [.t 124, .t 125]⟩,
    ⟨some 127, none, none, .pick (.t 123) (.t 126) (.c (.bool false))⟩,
    ⟨some 128, none, none, .mv (.t 127)⟩,
    ⟨some 129, some (128, true), none, .call (.c (.fn 17 [] [])) []⟩,
    ⟨some 130, none, none, .pick (.t 128) (.t 129) (.c (.bool false))⟩,
    ⟨some 4, none, none, .mv (.t 130)⟩])
  (.ret)))))))))))⟩
def c9 : FD := ⟨191, [.tmp 4],
  .seq (.ops [⟨some 4, none, none, .mv (.c (.bool false))⟩])
  (.seq (.ops [⟨some 25, none, none, .mv (.t 0)⟩,
    ⟨some 26, none, none, .call (.c (.fn 32 [] [])) [.t 25]⟩,
    ⟨some 27, none, none, .mv (.t 1)⟩,
    ⟨some 28, none, none, .call (.c (.fn 32 [] [])) [.t 27]⟩,
    ⟨some 5, none, none, .mv (.t 26)⟩,
    ⟨some 6, none, none, .mv (.t 28)⟩])
  (.seq (.ops [⟨some 30, none, none, .mv (.t 5)⟩,
    ⟨some 31, none, none, .call (.c (.fn 33 [] [])) [.t 30, .c (.int .i64 12), .c (.int .i64 300)]⟩,
    ⟨some 29, none, none, .mv (.t 31)⟩,
    ⟨some 32, none, none, .ext (.t 29) 0⟩,
    ⟨some 33, none, none, .ext (.t 29) 1⟩,
    ⟨some 7, none, none, .alc [.int .i64 0, .nils, .nils]⟩,
    ⟨none, none, none, .sto 3 (.t 7) (.t 32)⟩,
    ⟨some 8, none, none, .mv (.t 33)⟩])
  (.seq (.ops [⟨some 34, none, none, .mv (.t 5)⟩,
    ⟨some 35, none, none, .ld true 3 (.t 7)⟩,
    ⟨some 36, none, none, .mv (.t 8)⟩,
    ⟨some 37, none, none, .call (.c (.fn 34 [] [])) [.t 34, .t 35, .t 36, .c (.int .i64 7)]⟩,
    ⟨none, none, none, .sto 3 (.t 7) (.t 37)⟩])
  (.seq (.ops [⟨some 38, none, none, .mv (.t 6)⟩,
    ⟨some 39, none, none, .fad 1 (.t 7)⟩,
    ⟨some 40, none, none, .ld false 1 (.t 39)⟩,
    ⟨some 41, none, none, .len (.t 40)⟩,
    ⟨some 42, none, none, .ar .sub (.t 41) (.c (.int .i64 1))⟩,
    ⟨some 43, none, none, .call (.c (.fn 49 [] [])) [.t 38, .t 42]⟩,
    ⟨some 9, none, none, .mv (.t 43)⟩])
  (.seq (.dops [⟨some 45, none, some (0, 2), .ld true 3 (.t 7)⟩,
    ⟨some 46, none, none, .mv (.t 6)⟩,
    ⟨some 47, none, some (0, 1), .ld true 3 (.t 7)⟩,
    ⟨some 48, none, none, .mv (.t 9)⟩,
    ⟨some 49, none, none, .mv (.t 8)⟩,
    ⟨some 50, none, none, .mv (.t 9)⟩,
    ⟨some 51, none, none, .iad 1 (.t 49) (.t 50)⟩,
    ⟨some 52, none, some (0, 1), .ld false 1 (.t 51)⟩,
    ⟨some 53, none, none, .mv (.t 6)⟩,
    ⟨some 54, none, none, .call (.c (.fn 52 [] [])) [.t 53, .c (.int .i64 (-40)), .c (.int .i64 40)]⟩,
    ⟨some 55, none, none, .ar .add (.t 52) (.t 54)⟩,
    ⟨some 56, none, none, .mx [.c (.int .i64 0), .t 55]⟩,
    ⟨some 57, none, none, .call (.c (.fn 51 [] [])) [.t 46, .t 47, .t 48, .t 56]⟩,
    ⟨some 58, none, none, .call (.c (.fn 50 [] [])) [.t 45, .t 57]⟩,
    ⟨some 44, none, none, .mv (.t 58)⟩,
    ⟨some 59, none, none, .ext (.t 44) 0⟩,
    ⟨some 60, none, none, .ext (.t 44) 1⟩,
    ⟨some 10, none, none, .alc [.int .i64 0, .nils, .nils]⟩,
    ⟨none, none, none, .sto 3 (.t 10) (.t 59)⟩,
    ⟨some 11, none, none, .mv (.t 60)⟩])
  (.seq (.seq (.ops [⟨some 61, none, none, .mv (.t 11)⟩,
    ⟨some 62, none, none, .ar .neq (.t 61) (.c (.int .i64 0))⟩])
  (.cond (.t 62) (.seq (.ops [⟨some 4, none, none, .mv (.c (.bool false))⟩])
  (.ret))
  (.skip)))
  (.seq (.ops [⟨some 64, none, none, .ld true 3 (.t 7)⟩,
    ⟨some 65, none, none, .call (.c (.fn 36 [] [])) [.t 64]⟩,
    ⟨some 63, none, none, .mv (.t 65)⟩,
    ⟨some 66, none, none, .ext (.t 63) 0⟩,
    ⟨some 67, none, none, .ext (.t 63) 1⟩,
    ⟨some 12, none, none, .mv (.t 66)⟩,
    ⟨some 11, none, none, .mv (.t 67)⟩])
  (.seq (.ops [⟨some 69, none, none, .ld true 3 (.t 10)⟩,
    ⟨some 70, none, none, .call (.c (.fn 36 [] [])) [.t 69]⟩,
    ⟨some 68, none, none, .mv (.t 70)⟩,
    ⟨some 71, none, none, .ext (.t 68) 0⟩,
    ⟨some 72, none, none, .ext (.t 68) 1⟩,
    ⟨some 13, none, none, .mv (.t 71)⟩,
    ⟨some 14, none, none, .mv (.t 72)⟩])
  (.seq (.ops [⟨some 74, none, none, .ld true 3 (.t 10)⟩,
    ⟨some 75, none, none, .call (.c (.fn 29 [] [])) [.t 74]⟩,
    ⟨some 73, none, none, .mv (.t 75)⟩,
    ⟨some 76, none, none, .ext (.t 73) 0⟩,
    ⟨some 77, none, none, .ext (.t 73) 1⟩,
    ⟨some 15, none, none, .alc [.int .i64 0, .nils, .nils]⟩,
    ⟨none, none, none, .sto 3 (.t 15) (.t 76)⟩,
    ⟨some 16, none, none, .mv (.t 77)⟩])
  (.seq (.seq (.ops [⟨some 78, none, none, .mv (.t 11)⟩,
    ⟨some 79, none, none, .ar .neq (.t 78) (.c (.int .i64 0))⟩,
    ⟨some 80, none, none, .mv (.t 79)⟩,
    ⟨some 81, some (80, false), none, .mv (.t 14)⟩,
    ⟨some 82, some (80, false), none, .ar .eql (.t 81) (.c (.int .i64 0))⟩,
    ⟨some 83, some (80, false), none, .mv (.t 16)⟩,
    ⟨some 84, some (80, false), none, .ar .eql (.t 83) (.c (.int .i64 6))⟩,
    ⟨some 85, some (80, false), none, .beq true (.t 82) (.t 84)⟩,
    ⟨some 86, none, none, .pick (.t 80) (.c (.bool true)) (.t 85)⟩,
    ⟨some 87, none, none, .mv (.t 86)⟩,
    ⟨some 88, some (87, false), none, .mv (.t 14)⟩,
    ⟨some 89, some (87, false), none, .ar .eql (.t 88) (.c (.int .i64 7))⟩,
    ⟨some 90, some (87, false), none, .mv (.t 16)⟩,
    ⟨some 91, some (87, false), none, .ar .eql (.t 90) (.c (.int .i64 0))⟩,
    ⟨some 92, some (87, false), none, .beq true (.t 89) (.t 91)⟩,
    ⟨some 93, none, none, .pick (.t 87) (.c (.bool true)) (.t 92)⟩])
  (.cond (.t 93) (.seq (.ops [⟨some 4, none, none, .mv (.c (.bool false))⟩])
  (.ret))
  (.skip)))
  (.seq (.seq (.ops [⟨some 94, none, none, .mv (.t 14)⟩,
    ⟨some 95, none, none, .ar .neq (.t 94) (.c (.int .i64 0))⟩])
  (.cond (.t 95) (.seq (.ops [⟨some 97, none, none, .ld true 3 (.t 10)⟩,
    ⟨some 98, none, none, .ld true 3 (.t 15)⟩,
    ⟨some 99, none, none, .call (.c (.fn 30 [] [])) [.t 97, .t 98]⟩,
    ⟨some 96, none, none, .mv (.t 99)⟩,
    ⟨some 100, none, none, .ext (.t 96) 0⟩,
    ⟨some 101, none, none, .ext (.t 96) 1⟩,
    ⟨some 17, none, none, .mv (.t 100)⟩,
    ⟨some 18, none, none, .mv (.t 101)⟩])
  (.seq (.ops [⟨some 102, none, none, .mv (.t 18)⟩,
    ⟨some 103, none, none, .ar .eql (.t 102) (.c (.int .i64 0))⟩,
    ⟨some 104, none, none, .mv (.t 103)⟩,
    ⟨some 105, some (104, true), none, .mv (.t 17)⟩,
    ⟨some 106, some (104, true), none, .ar .gtr (.t 105) (.c (.int .i64 0))⟩,
    ⟨some 107, none, none, .pick (.t 104) (.t 106) (.c (.bool false))⟩,
    ⟨some 108, none, none, .mv (.t 107)⟩,
    ⟨some 109, some (108, true), none, .call (.c (.fn 17 [] [])) []⟩,
    ⟨some 110, none, none, .pick (.t 108) (.t 109) (.c (.bool false))⟩,
    ⟨some 4, none, none, .mv (.t 110)⟩])
  (.ret)))
  (.skip)))
  (.seq (.seq (.ops [⟨some 111, none, none, .mv (.t 12)⟩,
    ⟨some 112, none, none, .len (.t 111)⟩,
    ⟨some 113, none, none, .fad 1 (.t 7)⟩,
    ⟨some 114, none, none, .ld false 1 (.t 113)⟩,
    ⟨some 115, none, none, .len (.t 114)⟩,
    ⟨some 116, none, none, .ar .neq (.t 112) (.t 115)⟩,
    ⟨some 117, none, none, .mv (.t 116)⟩,
    ⟨some 118, some (117, false), none, .mv (.t 13)⟩,
    ⟨some 119, some (117, false), none, .len (.t 118)⟩,
    ⟨some 120, some (117, false), none, .mv (.t 12)⟩,
    ⟨some 121, some (117, false), none, .len (.t 120)⟩,
    ⟨some 122, some (117, false), none, .ar .neq (.t 119) (.t 121)⟩,
    ⟨some 123, none, none, .pick (.t 117) (.c (.bool true)) (.t 122)⟩])
  (.cond (.t 123) (.seq (.ops [⟨some 4, none, none, .mv (.c (.bool false))⟩])
  (.ret))
  (.skip)))
  (.seq (.seq (.ops [⟨some 124, none, none, .mv (.t 12)⟩,
    ⟨some 125, none, none, .len (.t 124)⟩,
    ⟨some 126, none, none, .mv (.c (.int .i64 0))⟩])
  (.block 0 (.loop (.seq (.ops [⟨some 127, none, none, .ar .lss (.t 126) (.t 125)⟩])
  (.seq (.cond (.t 127) (.skip)
  (.exit 0))
  (.seq (.block 1 (.seq (.ops [⟨some 128, none, none, .mv (.t 126)⟩,
    ⟨some 19, none, none, .mv (.t 128)⟩])
  (.seq (.dops [⟨some 129, none, none, .mv (.t 13)⟩,
    ⟨some 130, none, none, .mv (.t 19)⟩,
    ⟨some 131, none, none, .iad 2 (.t 129) (.t 130)⟩,
    ⟨some 132, none, none, .fad 0 (.t 131)⟩,
    ⟨some 133, none, some (0, 0), .ld false 1 (.t 132)⟩,
    ⟨some 134, none, none, .mv (.t 12)⟩,
    ⟨some 135, none, none, .mv (.t 19)⟩,
    ⟨some 136, none, none, .iad 2 (.t 134) (.t 135)⟩,
    ⟨some 137, none, none, .fad 0 (.t 136)⟩,
    ⟨some 138, none, some (0, 0), .ld false 1 (.t 137)⟩,
    ⟨some 139, none, none, .ar .lss (.t 133) (.t 138)⟩,
    ⟨some 140, none, none, .mv (.t 139)⟩,
    ⟨some 141, some (140, false), none, .mv (.t 13)⟩,
    ⟨some 142, some (140, false), none, .mv (.t 19)⟩,
    ⟨some 143, some (140, false), none, .iad 2 (.t 141) (.t 142)⟩,
    ⟨some 144, some (140, false), none, .fad 1 (.t 143)⟩,
    ⟨some 145, some (140, false), some (0, 0), .ld false 1 (.t 144)⟩,
    ⟨some 146, some (140, false), none, .mv (.t 12)⟩,
    ⟨some 147, some (140, false), none, .mv (.t 19)⟩,
    ⟨some 148, some (140, false), none, .iad 2 (.t 146) (.t 147)⟩,
    ⟨some 149, some (140, false), none, .fad 1 (.t 148)⟩,
    ⟨some 150, some (140, false), some (0, 0), .ld false 1 (.t 149)⟩,
    ⟨some 151, some (140, false), none, .ar .gtr (.t 145) (.t 150)⟩,
    ⟨some 152, none, none, .pick (.t 140) (.c (.bool true)) (.t 151)⟩])
  (.cond (.t 152) (.seq (.ops [⟨some 4, none, none, .mv (.c (.bool false))⟩])
  (.ret))
  (.skip)))))
  (.ops [⟨some 153, none, none, .ar .add (.t 126) (.c (.int .i64 1))⟩,
    ⟨some 126, none, none, .mv (.t 153)⟩])))))))
  (.seq (.seq (.ops [⟨some 154, none, none, .mv (.c (.int .i64 0))⟩])
  (.block 2 (.loop (.seq (.ops [⟨some 155, none, none, .ar .lss (.t 154) (.c (.int .i64 4))⟩])
  (.seq (.cond (.t 155) (.skip)
  (.exit 2))
  (.seq (.block 3 (.seq (.ops [⟨some 156, none, none, .mv (.t 154)⟩,
    ⟨some 20, none, none, .mv (.t 156)⟩])
  (.seq (.ops [⟨some 158, none, none, .ld true 3 (.t 7)⟩,
    ⟨some 159, none, none, .mv (.t 20)⟩,
    ⟨some 160, none, none, .call (.c (.fn 25 [] [])) [.t 158, .t 159]⟩,
    ⟨some 157, none, none, .mv (.t 160)⟩,
    ⟨some 161, none, none, .ext (.t 157) 0⟩,
    ⟨some 162, none, none, .ext (.t 157) 1⟩,
    ⟨some 21, none, none, .alc [.int .i64 0, .int .i64 0]⟩,
    ⟨none, none, none, .sto 2 (.t 21) (.t 161)⟩,
    ⟨some 22, none, none, .mv (.t 162)⟩])
  (.seq (.ops [⟨some 164, none, none, .ld true 3 (.t 10)⟩,
    ⟨some 165, none, none, .mv (.t 20)⟩,
    ⟨some 166, none, none, .call (.c (.fn 25 [] [])) [.t 164, .t 165]⟩,
    ⟨some 163, none, none, .mv (.t 166)⟩,
    ⟨some 167, none, none, .ext (.t 163) 0⟩,
    ⟨some 168, none, none, .ext (.t 163) 1⟩,
    ⟨some 23, none, none, .alc [.int .i64 0, .int .i64 0]⟩,
    ⟨none, none, none, .sto 2 (.t 23) (.t 167)⟩,
    ⟨some 24, none, none, .mv (.t 168)⟩])
  (.seq (.ops [⟨some 169, none, none, .mv (.t 22)⟩,
    ⟨some 170, none, none, .ar .neq (.t 169) (.c (.int .i64 0))⟩,
    ⟨some 171, none, none, .mv (.t 170)⟩,
    ⟨some 172, some (171, false), none, .mv (.t 24)⟩,
    ⟨some 173, some (171, false), none, .ar .neq (.t 172) (.c (.int .i64 0))⟩,
    ⟨some 174, none, none, .pick (.t 171) (.c (.bool true)) (.t 173)⟩,
    ⟨some 175, none, none, .mv (.t 174)⟩,
    ⟨some 176, some (175, false), none, .fad 0 (.t 23)⟩,
    ⟨some 177, some (175, false), none, .ld false 1 (.t 176)⟩,
    ⟨some 178, some (175, false), none, .fad 0 (.t 21)⟩,
    ⟨some 179, some (175, false), none, .ld false 1 (.t 178)⟩,
    ⟨some 180, some (175, false), none, .ar .lss (.t 177) (.t 179)⟩,
    ⟨some 181, none, none, .pick (.t 175) (.c (.bool true)) (.t 180)⟩,
    ⟨some 182, none, none, .mv (.t 181)⟩,
    ⟨some 183, some (182, false), none, .fad 1 (.t 23)⟩,
    ⟨some 184, some (182, false), none, .ld false 1 (.t 183)⟩,
    ⟨some 185, some (182, false), none, .fad 1 (.t 21)⟩,
    ⟨some 186, some (182, false), none, .ld false 1 (.t 185)⟩,
    ⟨some 187, some (182, false), none, .ar .gtr (.t 184) (.t 186)⟩,
    ⟨some 188, none, none, .pick (.t 182) (.c (.bool true)) (.t 187)⟩])
  (.cond (.t 188) (.seq (.ops [⟨some 4, none, none, .mv (.c (.bool false))⟩])
  (.ret))
  (.skip)))))))
  (.ops [⟨some 189, none, none, .ar .add (.t 154) (.c (.int .i64 1))⟩,
    ⟨some 154, none, none, .mv (.t 189)⟩])))))))
  (.seq (.ops [⟨some 190, none, none, .call (.c (.fn 17 [] [])) []⟩,
    ⟨some 4, none, none, .mv (.t 190)⟩])
  (.ret))))))))))))))))⟩
def c10 : FD := ⟨147, [.tmp 6],
  .seq (.ops [⟨some 6, none, none, .mv (.c (.bool false))⟩])
  (.seq (.ops [⟨some 20, none, none, .mv (.t 0)⟩,
    ⟨some 21, none, none, .call (.c (.fn 32 [] [])) [.t 20]⟩,
    ⟨some 7, none, none, .mv (.t 21)⟩])
  (.seq (.ops [⟨some 23, none, none, .mv (.t 7)⟩,
    ⟨some 24, none, none, .call (.c (.fn 33 [] [])) [.t 23, .c (.int .i64 8), .c (.int .i64 300)]⟩,
    ⟨some 22, none, none, .mv (.t 24)⟩,
    ⟨some 25, none, none, .ext (.t 22) 0⟩,
    ⟨some 26, none, none, .ext (.t 22) 1⟩,
    ⟨some 8, none, none, .alc [.int .i64 0, .nils, .nils]⟩,
    ⟨none, none, none, .sto 3 (.t 8) (.t 25)⟩,
    ⟨some 9, none, none, .mv (.t 26)⟩])
  (.seq (.ops [⟨some 27, none, none, .mv (.t 7)⟩,
    ⟨some 28, none, none, .ld true 3 (.t 8)⟩,
    ⟨some 29, none, none, .mv (.t 9)⟩,
    ⟨some 30, none, none, .call (.c (.fn 34 [] [])) [.t 27, .t 28, .t 29, .c (.int .i64 6)]⟩,
    ⟨none, none, none, .sto 3 (.t 8) (.t 30)⟩])
  (.seq (.ops [⟨some 31, none, none, .mv (.t 1)⟩,
    ⟨some 32, none, none, .cv .i64 (.t 31)⟩,
    ⟨some 33, none, none, .fad 1 (.t 8)⟩,
    ⟨some 34, none, none, .ld false 1 (.t 33)⟩,
    ⟨some 35, none, none, .len (.t 34)⟩,
    ⟨some 36, none, none, .ar .rem (.t 32) (.t 35)⟩,
    ⟨some 10, none, none, .mv (.t 36)⟩])
  (.seq (.ops [⟨some 37, none, none, .bsl 4 [.int .i64 0, .int .i64 0, .int .i64 0, .int .i64 0] [(0, 1, .c (.int .i64 3)), (1, 1, .c (.int .i64 2)), (2, 1, .c (.int .i64 1)), (3, 1, .c (.int .i64 3))]⟩,
    ⟨some 38, none, none, .mv (.t 2)⟩,
    ⟨some 39, none, none, .ar .rem (.t 38) (.c (.int .u8 4))⟩,
    ⟨some 40, none, none, .ar .add (.c (.int .u8 1)) (.t 39)⟩,
    ⟨some 41, none, none, .slc 1 (.t 37) none (some (.t 40)) none⟩,
    ⟨some 11, none, none, .mv (.t 41)⟩])
  (.seq (.ops [⟨some 43, none, none, .ld true 3 (.t 8)⟩,
    ⟨some 44, none, none, .mv (.t 10)⟩,
    ⟨some 45, none, none, .mv (.t 11)⟩,
    ⟨some 46, none, none, .call (.c (.fn 53 [] [])) [.t 43, .t 44, .t 45]⟩,
    ⟨some 42, none, none, .mv (.t 46)⟩,
    ⟨some 47, none, none, .ext (.t 42) 0⟩,
    ⟨some 48, none, none, .ext (.t 42) 1⟩,
    ⟨some 12, none, none, .alc [.int .i64 0, .nils, .nils]⟩,
    ⟨none, none, none, .sto 3 (.t 12) (.t 47)⟩,
    ⟨some 13, none, none, .mv (.t 48)⟩])
  (.seq (.seq (.ops [⟨some 49, none, none, .ld true 3 (.t 8)⟩,
    ⟨some 50, none, none, .mv (.t 10)⟩,
    ⟨some 51, none, none, .call (.c (.fn 40 [] [])) [.t 49, .t 50]⟩,
    ⟨some 52, none, none, .not (.t 51)⟩])
  (.cond (.t 52) (.seq (.ops [⟨some 53, none, none, .mv (.t 13)⟩,
    ⟨some 54, none, none, .ar .eql (.t 53) (.c (.int .i64 5))⟩,
    ⟨some 55, none, none, .mv (.t 54)⟩,
    ⟨some 56, some (55, true), none, .call (.c (.fn 17 [] [])) []⟩,
    ⟨some 57, none, none, .pick (.t 55) (.t 56) (.c (.bool false))⟩,
    ⟨some 6, none, none, .mv (.t 57)⟩])
  (.ret))
  (.skip)))
  (.seq (.ops [⟨some 59, none, none, .ld true 3 (.t 8)⟩,
    ⟨some 60, none, none, .call (.c (.fn 36 [] [])) [.t 59]⟩,
    ⟨some 58, none, none, .mv (.t 60)⟩,
    ⟨some 61, none, none, .ext (.t 58) 0⟩,
    ⟨some 62, none, none, .ext (.t 58) 1⟩,
    ⟨some 14, none, none, .mv (.t 61)⟩,
    ⟨some 15, none, none, .mv (.t 62)⟩])
  (.seq (.ops [⟨some 64, none, none, .ld true 3 (.t 12)⟩,
    ⟨some 65, none, none, .call (.c (.fn 36 [] [])) [.t 64]⟩,
    ⟨some 63, none, none, .mv (.t 65)⟩,
    ⟨some 66, none, none, .ext (.t 63) 0⟩,
    ⟨some 67, none, none, .ext (.t 63) 1⟩,
    ⟨some 16, none, none, .mv (.t 66)⟩,
    ⟨some 17, none, none, .mv (.t 67)⟩])
  (.seq (.seq (.ops [⟨some 68, none, none, .mv (.t 13)⟩,
    ⟨some 69, none, none, .ar .neq (.t 68) (.c (.int .i64 0))⟩,
    ⟨some 70, none, none, .mv (.t 69)⟩,
    ⟨some 71, some (70, false), none, .mv (.t 15)⟩,
    ⟨some 72, some (70, false), none, .ar .neq (.t 71) (.c (.int .i64 0))⟩,
    ⟨some 73, none, none, .pick (.t 70) (.c (.bool true)) (.t 72)⟩,
    ⟨some 74, none, none, .mv (.t 73)⟩,
    ⟨some 75, some (74, false), none, .mv (.t 17)⟩,
    ⟨some 76, some (74, false), none, .ar .neq (.t 75) (.c (.int .i64 0))⟩,
    ⟨some 77, none, none, .pick (.t 74) (.c (.bool true)) (.t 76)⟩,
    ⟨some 78, none, none, .mv (.t 77)⟩,
    ⟨some 79, some (78, false), none, .mv (.t 14)⟩,
    ⟨some 80, some (78, false), none, .len (.t 79)⟩,
    ⟨some 81, some (78, false), none, .fad 1 (.t 8)⟩,
    ⟨some 82, some (78, false), none, .ld false 1 (.t 81)⟩,
    ⟨some 83, some (78, false), none, .len (.t 82)⟩,
    ⟨some 84, some (78, false), none, .ar .neq (.t 80) (.t 83)⟩,
    ⟨some 85, none, none, .pick (.t 78) (.c (.bool true)) (.t 84)⟩,
    ⟨some 86, none, none, .mv (.t 85)⟩,
    ⟨some 87, some (86, false), none, .mv (.t 16)⟩,
    ⟨some 88, some (86, false), none, .len (.t 87)⟩,
    ⟨some 89, some (86, false), none, .mv (.t 14)⟩,
    ⟨some 90, some (86, false), none, .len (.t 89)⟩,
    ⟨some 91, some (86, false), none, .mv (.t 11)⟩,
    ⟨some 92, some (86, false), none, .len (.t 91)⟩,
    ⟨some 93, some (86, false), none, .ar .add (.t 90) (.t 92)⟩,
    ⟨some 94, some (86, false), none, .ar .neq (.t 88) (.t 93)⟩,
    ⟨some 95, none, none, .pick (.t 86) (.c (.bool true)) (.t 94)⟩,
    ⟨some 96, none, none, .mv (.t 95)⟩,
    ⟨some 97, some (96, false), none, .mv (.t 14)⟩,
    ⟨some 98, some (96, false), none, .mv (.t 16)⟩,
    ⟨some 99, some (96, false), none, .mv (.t 14)⟩,
    ⟨some 100, some (96, false), none, .len (.t 99)⟩,
    ⟨some 101, some (96, false), none, .slc 2 (.t 98) none (some (.t 100)) none⟩,
    ⟨some 102, some (96, false), none, .call (.c (.fn 38 [] [])) [.t 97, .t 101]⟩,
    ⟨some 103, some (96, false), none, .not (.t 102)⟩,
    ⟨some 104, none, none, .pick (.t 96) (.c (.bool true)) (.t 103)⟩])
  (.cond (.t 104) (.seq (.ops [⟨some 6, none, none, .mv (.c (.bool false))⟩])
  (.ret))
  (.skip)))
  (.seq (.seq (.ops [⟨some 105, none, none, .mv (.t 16)⟩,
    ⟨some 106, none, none, .mv (.t 14)⟩,
    ⟨some 107, none, none, .len (.t 106)⟩,
    ⟨some 108, none, none, .slc 2 (.t 105) (some (.t 107)) none none⟩,
    ⟨some 109, none, none, .len (.t 108)⟩,
    ⟨some 110, none, none, .mv (.c (.int .i64 0))⟩])
  (.block 0 (.loop (.seq (.ops [⟨some 111, none, none, .ar .lss (.t 110) (.t 109)⟩])
  (.seq (.cond (.t 111) (.skip)
  (.exit 0))
  (.seq (.block 1 (.seq (.ops [⟨some 112, none, none, .iad 2 (.t 108) (.t 110)⟩,
    ⟨some 113, none, none, .ld true 2 (.t 112)⟩,
    ⟨some 19, none, none, .alc [.int .i64 0, .int .i64 0]⟩,
    ⟨none, none, none, .sto 2 (.t 19) (.t 113)⟩])
  (.seq (.dops [⟨some 114, none, none, .fad 1 (.t 19)⟩,
    ⟨some 115, none, some (0, 0), .ld false 1 (.t 114)⟩,
    ⟨some 116, none, none, .mv (.t 14)⟩,
    ⟨some 117, none, none, .mv (.t 10)⟩,
    ⟨some 118, none, none, .iad 2 (.t 116) (.t 117)⟩,
    ⟨some 119, none, none, .fad 1 (.t 118)⟩,
    ⟨some 120, none, some (0, 0), .ld false 1 (.t 119)⟩,
    ⟨some 121, none, none, .ar .gtr (.t 115) (.t 120)⟩,
    ⟨some 122, none, none, .mv (.t 121)⟩,
    ⟨some 123, some (122, false), none, .mv (.t 11)⟩,
    ⟨some 124, some (122, false), none, .len (.t 123)⟩,
    ⟨some 125, some (122, false), none, .ar .gtr (.t 124) (.c (.int .i64 1))⟩,
    ⟨some 126, some (122, false), none, .mv (.t 125)⟩,
    ⟨some 127, some (126, true), none, .fad 0 (.t 19)⟩,
    ⟨some 128, some (126, true), some (0, 0), .ld false 1 (.t 127)⟩,
    ⟨some 129, some (126, true), none, .ar .neq (.t 128) (.c (.int .i64 0))⟩,
    ⟨some 130, some (122, false), none, .pick (.t 126) (.t 129) (.c (.bool false))⟩,
    ⟨some 131, none, none, .pick (.t 122) (.c (.bool true)) (.t 130)⟩,
    ⟨some 132, none, none, .mv (.t 131)⟩,
    ⟨some 133, some (132, false), none, .mv (.t 11)⟩,
    ⟨some 134, some (132, false), none, .len (.t 133)⟩,
    ⟨some 135, some (132, false), none, .ar .eql (.t 134) (.c (.int .i64 1))⟩,
    ⟨some 136, some (132, false), none, .mv (.t 135)⟩,
    ⟨some 137, some (136, true), some (0, 0), .ld true 2 (.t 19)⟩,
    ⟨some 138, some (136, true), none, .mv (.t 14)⟩,
    ⟨some 139, some (136, true), none, .mv (.t 10)⟩,
    ⟨some 140, some (136, true), none, .iad 2 (.t 138) (.t 139)⟩,
    ⟨some 141, some (136, true), some (0, 0), .ld true 2 (.t 140)⟩,
    ⟨some 142, some (136, true), none, .feq true 2 (.t 137) (.t 141)⟩,
    ⟨some 143, some (132, false), none, .pick (.t 136) (.t 142) (.c (.bool false))⟩,
    ⟨some 144, none, none, .pick (.t 132) (.c (.bool true)) (.t 143)⟩])
  (.cond (.t 144) (.seq (.ops [⟨some 6, none, none, .mv (.c (.bool false))⟩])
  (.ret))
  (.skip)))))
  (.ops [⟨some 145, none, none, .ar .add (.t 110) (.c (.int .i64 1))⟩,
    ⟨some 110, none, none, .mv (.t 145)⟩])))))))
  (.seq (.ops [⟨some 146, none, none, .call (.c (.fn 17 [] [])) []⟩,
    ⟨some 6, none, none, .mv (.t 146)⟩])
  (.ret)))))))))))))⟩
def c11 : FD := ⟨130, [.tmp 6],
  .seq (.ops [⟨some 3, none, none, .box (.t 0)⟩,
    ⟨some 6, none, none, .mv (.c (.bool false))⟩])
  (.seq (.seq (.ops [⟨some 21, none, none, .ld true 3 (.t 3)⟩,
    ⟨some 22, none, none, .call (.c (.fn 16 [] [])) [.t 21]⟩])
  (.cond (.t 22) (.seq (.ops [⟨some 23, none, none, .call (.c (.fn 17 [] [])) []⟩,
    ⟨some 6, none, none, .mv (.t 23)⟩])
  (.ret))
  (.skip)))
  (.seq (.dops [⟨some 24, none, some (0, 0), .ld true 3 (.t 3)⟩,
    ⟨some 25, none, none, .call (.c (.fn 18 [] [])) [.t 24]⟩,
    ⟨some 26, none, some (0, 1), .ld true 3 (.t 3)⟩,
    ⟨some 27, none, none, .call (.c (.fn 19 [] [])) [.t 26]⟩,
    ⟨some 7, none, none, .alc [.int .i64 0, .nils, .nils]⟩,
    ⟨some 8, none, none, .alc [.int .i64 0, .nils, .nils]⟩,
    ⟨none, none, none, .sto 3 (.t 7) (.t 25)⟩,
    ⟨none, none, none, .sto 3 (.t 8) (.t 27)⟩])
  (.seq (.ops [⟨some 28, none, none, .ld true 3 (.t 8)⟩,
    ⟨some 29, none, none, .call (.c (.fn 20 [] [])) [.t 28]⟩,
    ⟨some 9, none, none, .mv (.t 29)⟩])
  (.seq (.seq (.ops [⟨some 30, none, none, .ld true 3 (.t 7)⟩,
    ⟨some 31, none, none, .call (.c (.fn 54 [] [])) [.t 30]⟩,
    ⟨some 32, none, none, .mv (.t 9)⟩,
    ⟨some 33, none, none, .ar .neq (.t 31) (.t 32)⟩])
  (.cond (.t 33) (.seq (.ops [⟨some 6, none, none, .mv (.c (.bool false))⟩])
  (.ret))
  (.skip)))
  (.seq (.ops [⟨some 34, none, none, .mv (.t 9)⟩,
    ⟨some 35, none, none, .mv (.t 9)⟩,
    ⟨some 10, none, none, .mv (.t 34)⟩,
    ⟨some 11, none, none, .mv (.t 35)⟩])
  (.seq (.ops [⟨some 12, none, none, .mv (.c (.nils))⟩,
    ⟨some 13, none, none, .mv (.c (.nils))⟩])
  (.seq (.ops [⟨some 14, none, none, .alc [.int .i64 0, .int .i64 0]⟩])
  (.seq (.seq (.ops [⟨some 36, none, none, .mv (.t 9)⟩,
    ⟨some 37, none, none, .ar .eql (.t 36) (.c (.int .i64 0))⟩])
  (.cond (.t 37) (.seq (.seq (.ops [⟨some 10, none, none, .mv (.c (.int .i64 1))⟩])
  (.seq (.ops [⟨some 38, none, none, .mv (.t 1)⟩,
    ⟨some 39, none, none, .ar .geq (.t 38) (.c (.int .i64 0))⟩,
    ⟨some 40, none, none, .mv (.t 39)⟩,
    ⟨some 41, some (40, true), none, .mv (.t 1)⟩,
    ⟨some 42, some (40, true), none, .fad 1 (.t 3)⟩,
    ⟨some 43, some (40, true), none, .ld false 1 (.t 42)⟩,
    ⟨some 44, some (40, true), none, .len (.t 43)⟩,
    ⟨some 45, some (40, true), none, .ar .lss (.t 41) (.t 44)⟩,
    ⟨some 46, none, none, .pick (.t 40) (.t 45) (.c (.bool false))⟩])
  (.cond (.t 46) (.dops [⟨some 47, none, some (0, 0), .ld true 3 (.t 8)⟩,
    ⟨some 48, none, none, .mv (.t 1)⟩,
    ⟨some 49, none, none, .call (.c (.fn 55 [] [])) [.t 47, .t 48]⟩,
    ⟨some 50, none, some (0, 1), .ld true 3 (.t 8)⟩,
    ⟨some 51, none, none, .mv (.t 1)⟩,
    ⟨some 52, none, none, .call (.c (.fn 56 [] [])) [.t 50, .t 51]⟩,
    ⟨some 12, none, none, .mv (.t 49)⟩,
    ⟨some 13, none, none, .mv (.t 52)⟩,
    ⟨some 10, none, none, .mv (.c (.int .i64 0))⟩])
  (.skip))))
  (.seq (.ops [⟨some 11, none, none, .mv (.c (.int .i64 1))⟩])
  (.seq (.ops [⟨some 53, none, none, .mv (.t 2)⟩,
    ⟨some 54, none, none, .ar .geq (.t 53) (.c (.int .i64 0))⟩,
    ⟨some 55, none, none, .mv (.t 54)⟩,
    ⟨some 56, some (55, true), none, .mv (.t 2)⟩,
    ⟨some 57, some (55, true), none, .fad 2 (.t 3)⟩,
    ⟨some 58, some (55, true), none, .ld false 1 (.t 57)⟩,
    ⟨some 59, some (55, true), none, .len (.t 58)⟩,
    ⟨some 60, some (55, true), none, .ar .lss (.t 56) (.t 59)⟩,
    ⟨some 61, none, none, .pick (.t 55) (.t 60) (.c (.bool false))⟩])
  (.cond (.t 61) (.seq (.ops [⟨some 63, none, none, .ld true 3 (.t 8)⟩,
    ⟨some 64, none, none, .mv (.t 2)⟩,
    ⟨some 65, none, none, .call (.c (.fn 57 [] [])) [.t 63, .t 64]⟩,
    ⟨some 62, none, none, .mv (.t 65)⟩,
    ⟨some 66, none, none, .ext (.t 62) 0⟩,
    ⟨some 67, none, none, .ext (.t 62) 1⟩,
    ⟨some 68, none, none, .fad 0 (.t 14)⟩,
    ⟨none, none, none, .sto 1 (.t 68) (.t 66)⟩,
    ⟨some 69, none, none, .fad 1 (.t 14)⟩,
    ⟨none, none, none, .sto 1 (.t 69) (.t 67)⟩])
  (.seq (.ops [⟨some 70, none, none, .fad 0 (.t 14)⟩,
    ⟨some 71, none, none, .ld false 1 (.t 70)⟩,
    ⟨some 72, none, none, .fad 1 (.t 14)⟩,
    ⟨some 73, none, none, .ld false 1 (.t 72)⟩,
    ⟨some 74, none, none, .ar .leq (.t 71) (.t 73)⟩])
  (.cond (.t 74) (.ops [⟨some 11, none, none, .mv (.c (.int .i64 0))⟩])
  (.ops [⟨some 75, none, none, .bld [.int .i64 0, .int .i64 0] []⟩,
    ⟨none, none, none, .sto 2 (.t 14) (.t 75)⟩,
    ⟨some 11, none, none, .mv (.c (.int .i64 6))⟩]))))
  (.skip)))))
  (.skip)))
  (.seq (.ops [⟨some 77, none, none, .ld true 3 (.t 7)⟩,
    ⟨some 78, none, none, .mv (.t 1)⟩,
    ⟨some 79, none, none, .call (.c (.fn 39 [] [])) [.t 77, .t 78]⟩,
    ⟨some 76, none, none, .mv (.t 79)⟩,
    ⟨some 80, none, none, .ext (.t 76) 0⟩,
    ⟨some 81, none, none, .ext (.t 76) 1⟩,
    ⟨some 15, none, none, .mv (.t 80)⟩,
    ⟨some 16, none, none, .mv (.t 81)⟩])
  (.seq (.ops [⟨some 83, none, none, .ld true 3 (.t 7)⟩,
    ⟨some 84, none, none, .mv (.t 1)⟩,
    ⟨some 85, none, none, .call (.c (.fn 58 [] [])) [.t 83, .t 84]⟩,
    ⟨some 82, none, none, .mv (.t 85)⟩,
    ⟨some 86, none, none, .ext (.t 82) 0⟩,
    ⟨some 87, none, none, .ext (.t 82) 1⟩,
    ⟨some 17, none, none, .mv (.t 86)⟩,
    ⟨some 18, none, none, .mv (.t 87)⟩])
  (.seq (.ops [⟨some 89, none, none, .ld true 3 (.t 7)⟩,
    ⟨some 90, none, none, .mv (.t 2)⟩,
    ⟨some 91, none, none, .call (.c (.fn 41 [] [])) [.t 89, .t 90]⟩,
    ⟨some 88, none, none, .mv (.t 91)⟩,
    ⟨some 92, none, none, .ext (.t 88) 0⟩,
    ⟨some 93, none, none, .ext (.t 88) 1⟩,
    ⟨some 19, none, none, .alc [.int .i64 0, .int .i64 0]⟩,
    ⟨none, none, none, .sto 2 (.t 19) (.t 92)⟩,
    ⟨some 20, none, none, .mv (.t 93)⟩])
  (.seq (.ops [⟨some 94, none, none, .mv (.t 16)⟩,
    ⟨some 95, none, none, .mv (.t 10)⟩,
    ⟨some 96, none, none, .ar .eql (.t 94) (.t 95)⟩,
    ⟨some 97, none, none, .mv (.t 96)⟩,
    ⟨some 98, some (97, true), none, .mv (.t 18)⟩,
    ⟨some 99, some (97, true), none, .mv (.t 10)⟩,
    ⟨some 100, some (97, true), none, .ar .eql (.t 98) (.t 99)⟩,
    ⟨some 101, none, none, .pick (.t 97) (.t 100) (.c (.bool false))⟩,
    ⟨some 102, none, none, .mv (.t 101)⟩,
    ⟨some 103, some (102, true), none, .mv (.t 20)⟩,
    ⟨some 104, some (102, true), none, .mv (.t 11)⟩,
    ⟨some 105, some (102, true), none, .ar .eql (.t 103) (.t 104)⟩,
    ⟨some 106, none, none, .pick (.t 102) (.t 105) (.c (.bool false))⟩,
    ⟨some 107, none, none, .mv (.t 106)⟩,
    ⟨some 108, some (107, true), none, .mv (.t 15)⟩,
    ⟨some 109, some (107, true), none, .mv (.t 12)⟩,
    ⟨some 110, some (107, true), none, .call (.c (.fn 31 [] [])) [.t 108, .t 109]⟩,
    ⟨some 111, none, none, .pick (.t 107) (.t 110) (.c (.bool false))⟩,
    ⟨some 112, none, none, .mv (.t 111)⟩,
    ⟨some 113, some (112, true), none, .mv (.t 17)⟩,
    ⟨some 114, some (112, true), none, .mv (.t 13)⟩,
    ⟨some 115, some (112, true), none, .call (.c (.fn 31 [] [])) [.t 113, .t 114]⟩,
    ⟨some 116, none, none, .pick (.t 112) (.t 115) (.c (.bool false))⟩,
    ⟨some 117, none, none, .mv (.t 116)⟩,
    ⟨some 118, some (117, true), none, .ld true 2 (.t 19)⟩,
    ⟨some 119, some (117, true), none, .ld true 2 (.t 14)⟩,
    ⟨some 120, some (117, true), none, .feq false 2 (.t 118) (.t 119)⟩,
    ⟨some 121, none, none, .pick (.t 117) (.t 120) (.c (.bool false))⟩,
    ⟨some 122, none, none, .mv (.t 121)⟩,
    ⟨some 123, some (122, true), none, .ld true 3 (.t 7)⟩,
    ⟨some 124, some (122, true), none, .ld true 3 (.t 3)⟩,
    ⟨some 125, some (122, true), none, .call (.c (.fn 26 [] [])) [.t 123, .t 124]⟩,
    ⟨some 126, none, none, .pick (.t 122) (.t 125) (.c (.bool false))⟩,
    ⟨some 127, none, none, .mv (.t 126)⟩,
    ⟨some 128, some (127, true), none, .call (.c (.fn 17 [] [])) []⟩,
    ⟨some 129, none, none, .pick (.t 127) (.t 128) (.c (.bool false))⟩,
    ⟨some 6, none, none, .mv (.t 129)⟩])
  (.ret)))))))))))))⟩
def c12 : FD := ⟨212, [.tmp 4],
  .seq (.ops [⟨some 4, none, none, .mv (.c (.bool false))⟩])
  (.seq (.ops [⟨some 29, none, none, .mv (.t 0)⟩,
    ⟨some 30, none, none, .call (.c (.fn 32 [] [])) [.t 29]⟩,
    ⟨some 31, none, none, .mv (.t 1)⟩,
    ⟨some 32, none, none, .call (.c (.fn 32 [] [])) [.t 31]⟩,
    ⟨some 5, none, none, .mv (.t 30)⟩,
    ⟨some 6, none, none, .mv (.t 32)⟩])
  (.seq (.ops [⟨some 34, none, none, .mv (.t 5)⟩,
    ⟨some 35, none, none, .call (.c (.fn 33 [] [])) [.t 34, .c (.int .i64 9), .c (.int .i64 200)]⟩,
    ⟨some 33, none, none, .mv (.t 35)⟩,
    ⟨some 36, none, none, .ext (.t 33) 0⟩,
    ⟨some 37, none, none, .ext (.t 33) 1⟩,
    ⟨some 7, none, none, .alc [.int .i64 0, .nils, .nils]⟩,
    ⟨none, none, none, .sto 3 (.t 7) (.t 36)⟩,
    ⟨some 8, none, none, .mv (.t 37)⟩])
  (.seq (.ops [⟨some 38, none, none, .mv (.t 5)⟩,
    ⟨some 39, none, none, .ld true 3 (.t 7)⟩,
    ⟨some 40, none, none, .mv (.t 8)⟩,
    ⟨some 41, none, none, .call (.c (.fn 34 [] [])) [.t 38, .t 39, .t 40, .c (.int .i64 6)]⟩,
    ⟨none, none, none, .sto 3 (.t 7) (.t 41)⟩])
  (.seq (.seq (.ops [⟨some 43, none, none, .ld true 3 (.t 7)⟩,
    ⟨some 44, none, none, .call (.c (.fn 48 [] [])) [.t 43]⟩,
    ⟨some 42, none, none, .mv (.t 44)⟩,
    ⟨some 45, none, none, .ext (.t 42) 0⟩,
    ⟨some 46, none, none, .ext (.t 42) 1⟩,
    ⟨some 9, none, none, .mv (.t 45)⟩,
    ⟨some 10, none, none, .mv (.t 46)⟩])
  (.seq (.ops [⟨some 47, none, none, .mv (.t 10)⟩,
    ⟨some 48, none, none, .ar .neq (.t 47) (.c (.int .i64 0))⟩,
    ⟨some 49, none, none, .mv (.t 48)⟩,
    ⟨some 50, some (49, false), none, .mv (.t 9)⟩,
    ⟨some 51, some (49, false), none, .len (.t 50)⟩,
    ⟨some 52, some (49, false), none, .ar .gtr (.t 51) (.c (.int .i64 0))⟩,
    ⟨some 53, none, none, .pick (.t 49) (.c (.bool true)) (.t 52)⟩])
  (.cond (.t 53) (.seq (.ops [⟨some 4, none, none, .mv (.c (.bool false))⟩])
  (.ret))
  (.skip))))
  (.seq (.seq (.ops [⟨some 55, none, none, .ld true 3 (.t 7)⟩,
    ⟨some 56, none, none, .call (.c (.fn 47 [] [])) [.t 55]⟩,
    ⟨some 54, none, none, .mv (.t 56)⟩,
    ⟨some 57, none, none, .ext (.t 54) 0⟩,
    ⟨some 58, none, none, .ext (.t 54) 1⟩,
    ⟨some 11, none, none, .mv (.t 57)⟩,
    ⟨some 12, none, none, .mv (.t 58)⟩])
  (.seq (.ops [⟨some 59, none, none, .mv (.t 12)⟩,
    ⟨some 60, none, none, .ar .neq (.t 59) (.c (.int .i64 6))⟩])
  (.cond (.t 60) (.seq (.ops [⟨some 4, none, none, .mv (.c (.bool false))⟩])
  (.ret))
  (.skip))))
  (.seq (.ops [⟨some 13, none, none, .mv (.c (.int .i64 0))⟩])
  (.seq (.seq (.ops [⟨some 61, none, none, .fad 2 (.t 7)⟩,
    ⟨some 62, none, none, .ld false 1 (.t 61)⟩,
    ⟨some 63, none, none, .len (.t 62)⟩,
    ⟨some 64, none, none, .mv (.c (.int .i64 0))⟩])
  (.block 0 (.loop (.seq (.ops [⟨some 65, none, none, .ar .lss (.t 64) (.t 63)⟩])
  (.seq (.cond (.t 65) (.skip)
  (.exit 0))
  (.seq (.block 1 (.seq (.ops [⟨some 66, none, none, .mv (.t 64)⟩,
    ⟨some 67, none, none, .iad 4 (.t 62) (.t 64)⟩,
    ⟨some 68, none, none, .ld true 4 (.t 67)⟩,
    ⟨some 15, none, none, .alc [.int .i64 0, .int .i64 0, .int .i64 0, .int .i64 0]⟩,
    ⟨some 14, none, none, .mv (.t 66)⟩,
    ⟨none, none, none, .sto 4 (.t 15) (.t 68)⟩])
  (.seq (.seq (.ops [⟨some 69, none, none, .mv (.t 6)⟩,
    ⟨some 70, none, none, .call (.c (.fn 59 [] [])) [.t 69, .c (.int .i64 3)]⟩])
  (.cond (.t 70) (.dops [⟨some 71, none, none, .fad 2 (.t 7)⟩,
    ⟨some 72, none, some (0, 1), .ld false 1 (.t 71)⟩,
    ⟨some 73, none, none, .mv (.t 14)⟩,
    ⟨some 74, none, none, .fad 1 (.t 15)⟩,
    ⟨some 75, none, some (0, 1), .ld false 1 (.t 74)⟩,
    ⟨some 76, none, none, .mv (.t 6)⟩,
    ⟨some 77, none, none, .call (.c (.fn 52 [] [])) [.t 76, .c (.int .i64 10), .c (.int .i64 200)]⟩,
    ⟨some 78, none, none, .ar .add (.t 75) (.t 77)⟩,
    ⟨some 79, none, none, .mn [.c (.int .i64 10000), .t 78]⟩,
    ⟨some 80, none, none, .iad 4 (.t 72) (.t 73)⟩,
    ⟨some 81, none, none, .fad 1 (.t 80)⟩,
    ⟨none, none, none, .sto 1 (.t 81) (.t 79)⟩])
  (.skip)))
  (.seq (.dops [⟨some 82, none, some (0, 0), .ld true 3 (.t 7)⟩,
    ⟨some 83, none, none, .fad 2 (.t 7)⟩,
    ⟨some 84, none, some (0, 0), .ld false 1 (.t 83)⟩,
    ⟨some 85, none, none, .mv (.t 14)⟩,
    ⟨some 86, none, none, .iad 4 (.t 84) (.t 85)⟩,
    ⟨some 87, none, some (0, 0), .ld true 4 (.t 86)⟩,
    ⟨some 88, none, none, .mv (.t 8)⟩,
    ⟨some 89, none, none, .fad 0 (.t 15)⟩,
    ⟨some 90, none, some (0, 0), .ld false 1 (.t 89)⟩,
    ⟨some 91, none, none, .iad 1 (.t 88) (.t 90)⟩,
    ⟨some 92, none, some (0, 0), .ld false 1 (.t 91)⟩,
    ⟨some 93, none, none, .call (.c (.fn 42 [] [])) [.t 82, .t 87, .t 92]⟩,
    ⟨some 94, none, none, .not (.t 93)⟩])
  (.cond (.t 94) (.ops [⟨some 95, none, none, .mv (.t 13)⟩,
    ⟨some 96, none, none, .ar .add (.t 95) (.c (.int .i64 1))⟩,
    ⟨some 13, none, none, .mv (.t 96)⟩])
  (.skip))))))
  (.ops [⟨some 97, none, none, .ar .add (.t 64) (.c (.int .i64 1))⟩,
    ⟨some 64, none, none, .mv (.t 97)⟩])))))))
  (.seq (.ops [⟨some 99, none, none, .ld true 3 (.t 7)⟩,
    ⟨some 100, none, none, .call (.c (.fn 48 [] [])) [.t 99]⟩,
    ⟨some 98, none, none, .mv (.t 100)⟩,
    ⟨some 101, none, none, .ext (.t 98) 0⟩,
    ⟨some 102, none, none, .ext (.t 98) 1⟩,
    ⟨some 16, none, none, .alc [.nils]⟩,
    ⟨none, none, none, .sto 1 (.t 16) (.t 101)⟩,
    ⟨some 17, none, none, .mv (.t 102)⟩])
  (.seq (.ops [⟨some 104, none, none, .ld true 3 (.t 7)⟩,
    ⟨some 105, none, none, .call (.c (.fn 47 [] [])) [.t 104]⟩,
    ⟨some 103, none, none, .mv (.t 105)⟩,
    ⟨some 106, none, none, .ext (.t 103) 0⟩,
    ⟨some 107, none, none, .ext (.t 103) 1⟩,
    ⟨some 18, none, none, .mv (.t 106)⟩,
    ⟨some 19, none, none, .mv (.t 107)⟩])
  (.seq (.seq (.ops [⟨some 108, none, none, .mv (.t 17)⟩,
    ⟨some 109, none, none, .ar .neq (.t 108) (.c (.int .i64 0))⟩,
    ⟨some 110, none, none, .mv (.t 109)⟩,
    ⟨some 111, some (110, false), none, .ld false 1 (.t 16)⟩,
    ⟨some 112, some (110, false), none, .len (.t 111)⟩,
    ⟨some 113, some (110, false), none, .mv (.t 13)⟩,
    ⟨some 114, some (110, false), none, .ar .gtr (.t 112) (.t 113)⟩,
    ⟨some 115, none, none, .pick (.t 110) (.c (.bool true)) (.t 114)⟩,
    ⟨some 116, none, none, .mv (.t 115)⟩,
    ⟨some 117, some (116, false), none, .mv (.t 19)⟩,
    ⟨some 118, some (116, false), none, .ar .eql (.t 117) (.c (.int .i64 0))⟩,
    ⟨some 119, some (116, false), none, .ld false 1 (.t 16)⟩,
    ⟨some 120, some (116, false), none, .len (.t 119)⟩,
    ⟨some 121, some (116, false), none, .ar .gtr (.t 120) (.c (.int .i64 0))⟩,
    ⟨some 122, some (116, false), none, .beq true (.t 118) (.t 121)⟩,
    ⟨some 123, none, none, .pick (.t 116) (.c (.bool true)) (.t 122)⟩,
    ⟨some 124, none, none, .mv (.t 123)⟩,
    ⟨some 125, some (124, false), none, .mv (.t 19)⟩,
    ⟨some 126, some (124, false), none, .ar .neq (.t 125) (.c (.int .i64 0))⟩,
    ⟨some 127, some (124, false), none, .mv (.t 126)⟩,
    ⟨some 128, some (127, true), none, .mv (.t 19)⟩,
    ⟨some 129, some (127, true), none, .ar .neq (.t 128) (.c (.int .i64 6))⟩,
    ⟨some 130, some (124, false), none, .pick (.t 127) (.t 129) (.c (.bool false))⟩,
    ⟨some 131, none, none, .pick (.t 124) (.c (.bool true)) (.t 130)⟩,
    ⟨some 132, none, none, .mv (.t 131)⟩,
    ⟨some 133, some (132, false), none, .ld false 1 (.t 16)⟩,
    ⟨some 134, some (132, false), none, .call (.c (.fn 60 [] [])) [.t 133]⟩,
    ⟨some 135, some (132, false), none, .not (.t 134)⟩,
    ⟨some 136, none, none, .pick (.t 132) (.c (.bool true)) (.t 135)⟩,
    ⟨some 137, none, none, .mv (.t 136)⟩,
    ⟨some 138, some (137, false), none, .mv (.t 18)⟩,
    ⟨some 139, some (137, false), none, .call (.c (.fn 60 [] [])) [.t 138]⟩,
    ⟨some 140, some (137, false), none, .not (.t 139)⟩,
    ⟨some 141, none, none, .pick (.t 137) (.c (.bool true)) (.t 140)⟩])
  (.cond (.t 141) (.seq (.ops [⟨some 4, none, none, .mv (.c (.bool false))⟩])
  (.ret))
  (.skip)))
  (.seq (.ops [⟨some 20, none, none, .mv (.c (.nils))⟩])
  (.seq (.seq (.ops [⟨some 142, none, none, .fad 2 (.t 7)⟩,
    ⟨some 143, none, none, .ld false 1 (.t 142)⟩,
    ⟨some 144, none, none, .len (.t 143)⟩,
    ⟨some 145, none, none, .mv (.c (.int .i64 0))⟩])
  (.block 2 (.loop (.seq (.ops [⟨some 146, none, none, .ar .lss (.t 145) (.t 144)⟩])
  (.seq (.cond (.t 146) (.skip)
  (.exit 2))
  (.seq (.block 3 (.seq (.ops [⟨some 147, none, none, .mv (.t 145)⟩,
    ⟨some 21, none, none, .mv (.t 147)⟩])
  (.seq (.ops [⟨some 148, none, none, .ld false 1 (.t 16)⟩,
    ⟨some 149, none, none, .mv (.t 21)⟩,
    ⟨some 150, none, none, .call (.c (.fn 61 [] [])) [.t 148, .t 149]⟩,
    ⟨some 151, none, none, .not (.t 150)⟩])
  (.cond (.t 151) (.ops [⟨some 152, none, none, .mv (.t 20)⟩,
    ⟨some 153, none, none, .mv (.t 21)⟩,
    ⟨some 154, none, none, .bsl 1 [.int .i64 0] [(0, 1, .t 153)]⟩,
    ⟨some 155, none, none, .app 1 8 (.t 152) (.t 154)⟩,
    ⟨some 20, none, none, .mv (.t 155)⟩])
  (.skip)))))
  (.ops [⟨some 156, none, none, .ar .add (.t 145) (.c (.int .i64 1))⟩,
    ⟨some 145, none, none, .mv (.t 156)⟩])))))))
  (.seq (.seq (.ops [⟨some 158, none, none, .ld true 3 (.t 7)⟩,
    ⟨some 159, none, none, .mv (.t 20)⟩,
    ⟨some 160, none, none, .call (.c (.fn 46 [] [])) [.t 158, .t 159]⟩,
    ⟨some 157, none, none, .mv (.t 160)⟩,
    ⟨some 161, none, none, .ext (.t 157) 0⟩,
    ⟨some 162, none, none, .ext (.t 157) 1⟩,
    ⟨some 22, none, none, .mv (.t 161)⟩,
    ⟨some 23, none, none, .mv (.t 162)⟩])
  (.seq (.ops [⟨some 163, none, none, .mv (.t 23)⟩,
    ⟨some 164, none, none, .ar .neq (.t 163) (.c (.int .i64 0))⟩,
    ⟨some 165, none, none, .mv (.t 164)⟩,
    ⟨some 166, some (165, false), none, .mv (.t 22)⟩,
    ⟨some 167, some (165, false), none, .not (.t 166)⟩,
    ⟨some 168, none, none, .pick (.t 165) (.c (.bool true)) (.t 167)⟩])
  (.cond (.t 168) (.seq (.ops [⟨some 4, none, none, .mv (.c (.bool false))⟩])
  (.ret))
  (.skip))))
  (.seq (.seq (.ops [⟨some 169, none, none, .mv (.t 19)⟩,
    ⟨some 170, none, none, .ar .neq (.t 169) (.c (.int .i64 0))⟩])
  (.cond (.t 170) (.seq (.ops [⟨some 171, none, none, .call (.c (.fn 17 [] [])) []⟩,
    ⟨some 4, none, none, .mv (.t 171)⟩])
  (.ret))
  (.skip)))
  (.seq (.seq (.ops [⟨some 173, none, none, .ld true 3 (.t 7)⟩,
    ⟨some 174, none, none, .mv (.t 18)⟩,
    ⟨some 175, none, none, .call (.c (.fn 46 [] [])) [.t 173, .t 174]⟩,
    ⟨some 172, none, none, .mv (.t 175)⟩,
    ⟨some 176, none, none, .ext (.t 172) 0⟩,
    ⟨some 177, none, none, .ext (.t 172) 1⟩,
    ⟨some 24, none, none, .mv (.t 176)⟩,
    ⟨some 25, none, none, .mv (.t 177)⟩])
  (.seq (.ops [⟨some 178, none, none, .mv (.t 25)⟩,
    ⟨some 179, none, none, .ar .neq (.t 178) (.c (.int .i64 0))⟩,
    ⟨some 180, none, none, .mv (.t 179)⟩,
    ⟨some 181, some (180, false), none, .mv (.t 24)⟩,
    ⟨some 182, none, none, .pick (.t 180) (.c (.bool true)) (.t 181)⟩])
  (.cond (.t 182) (.seq (.ops [⟨some 4, none, none, .mv (.c (.bool false))⟩])
  (.ret))
  (.skip))))
  (.seq (.seq (.ops [⟨some 183, none, none, .mv (.t 18)⟩,
    ⟨some 184, none, none, .len (.t 183)⟩,
    ⟨some 185, none, none, .mv (.c (.int .i64 0))⟩])
  (.block 4 (.loop (.seq (.ops [⟨some 186, none, none, .ar .lss (.t 185) (.t 184)⟩])
  (.seq (.cond (.t 186) (.skip)
  (.exit 4))
  (.seq (.block 5 (.seq (.ops [⟨some 187, none, none, .mv (.t 185)⟩,
    ⟨some 26, none, none, .mv (.t 187)⟩])
  (.seq (.dops [⟨some 189, none, some (0, 2), .ld true 3 (.t 7)⟩,
    ⟨some 190, none, none, .mv (.t 18)⟩,
    ⟨some 191, none, none, .call (.c (.fn 63 [] [])) [.t 190]⟩,
    ⟨some 192, none, none, .mv (.t 26)⟩,
    ⟨some 193, none, none, .mv (.t 26)⟩,
    ⟨some 194, none, none, .ar .add (.t 193) (.c (.int .i64 1))⟩,
    ⟨some 195, none, none, .call (.c (.fn 62 [] [])) [.t 191, .t 192, .t 194]⟩,
    ⟨some 196, none, none, .call (.c (.fn 46 [] [])) [.t 189, .t 195]⟩,
    ⟨some 188, none, none, .mv (.t 196)⟩,
    ⟨some 197, none, none, .ext (.t 188) 0⟩,
    ⟨some 198, none, none, .ext (.t 188) 1⟩,
    ⟨some 27, none, none, .mv (.t 197)⟩,
    ⟨some 28, none, none, .mv (.t 198)⟩])
  (.seq (.ops [⟨some 199, none, none, .mv (.t 28)⟩,
    ⟨some 200, none, none, .ar .neq (.t 199) (.c (.int .i64 0))⟩,
    ⟨some 201, none, none, .mv (.t 200)⟩,
    ⟨some 202, some (201, false), none, .mv (.t 27)⟩,
    ⟨some 203, some (201, false), none, .not (.t 202)⟩,
    ⟨some 204, none, none, .pick (.t 201) (.c (.bool true)) (.t 203)⟩])
  (.cond (.t 204) (.seq (.ops [⟨some 4, none, none, .mv (.c (.bool false))⟩])
  (.ret))
  (.skip))))))
  (.ops [⟨some 205, none, none, .ar .add (.t 185) (.c (.int .i64 1))⟩,
    ⟨some 185, none, none, .mv (.t 205)⟩])))))))
  (.seq (.ops [⟨some 206, none, none, .mv (.t 18)⟩,
    ⟨some 207, none, none, .mkf 65 [] [.t 16]⟩,
    ⟨some 208, none, none, .call (.c (.fn 64 [] [])) [.t 206, .t 207]⟩,
    ⟨some 209, none, none, .mv (.t 208)⟩,
    ⟨some 210, some (209, true), none, .call (.c (.fn 17 [] [])) []⟩,
    ⟨some 211, none, none, .pick (.t 209) (.t 210) (.c (.bool false))⟩,
    ⟨some 4, none, none, .mv (.t 211)⟩])
  (.ret))))))))))))))))))⟩
def c13 : FD := ⟨186, [.tmp 8],
  .seq (.ops [⟨some 4, none, none, .box (.t 0)⟩,
    ⟨some 5, none, none, .box (.t 1)⟩,
    ⟨some 8, none, none, .mv (.c (.bool false))⟩])
  (.seq (.seq (.ops [⟨some 27, none, none, .ld true 3 (.t 4)⟩,
    ⟨some 28, none, none, .call (.c (.fn 16 [] [])) [.t 27]⟩,
    ⟨some 29, none, none, .mv (.t 28)⟩,
    ⟨some 30, some (29, false), none, .mv (.t 3)⟩,
    ⟨some 31, some (29, false), none, .len (.t 30)⟩,
    ⟨some 32, some (29, false), none, .ar .gtr (.t 31) (.c (.int .i64 16))⟩,
    ⟨some 33, none, none, .pick (.t 29) (.c (.bool true)) (.t 32)⟩])
  (.cond (.t 33) (.seq (.ops [⟨some 34, none, none, .call (.c (.fn 17 [] [])) []⟩,
    ⟨some 8, none, none, .mv (.t 34)⟩])
  (.ret))
  (.skip)))
  (.seq (.dops [⟨some 35, none, some (0, 0), .ld true 3 (.t 4)⟩,
    ⟨some 36, none, none, .call (.c (.fn 18 [] [])) [.t 35]⟩,
    ⟨some 37, none, some (0, 1), .ld true 3 (.t 4)⟩,
    ⟨some 38, none, none, .call (.c (.fn 19 [] [])) [.t 37]⟩,
    ⟨some 39, none, none, .mv (.t 3)⟩,
    ⟨some 40, none, none, .call (.c (.fn 66 [] [])) [.t 39]⟩,
    ⟨some 9, none, none, .alc [.int .i64 0, .nils, .nils]⟩,
    ⟨some 10, none, none, .alc [.int .i64 0, .nils, .nils]⟩,
    ⟨none, none, none, .sto 3 (.t 9) (.t 36)⟩,
    ⟨none, none, none, .sto 3 (.t 10) (.t 38)⟩,
    ⟨some 11, none, none, .mv (.t 40)⟩])
  (.seq (.ops [⟨some 41, none, none, .ld true 3 (.t 10)⟩,
    ⟨some 42, none, none, .call (.c (.fn 20 [] [])) [.t 41]⟩,
    ⟨some 12, none, none, .mv (.t 42)⟩])
  (.seq (.ops [⟨some 43, none, none, .mv (.t 12)⟩,
    ⟨some 44, none, none, .mv (.t 12)⟩,
    ⟨some 13, none, none, .mv (.t 43)⟩,
    ⟨some 14, none, none, .mv (.t 44)⟩])
  (.seq (.ops [⟨some 15, none, none, .alc [.int .i64 0, .nils, .nils]⟩,
    ⟨some 16, none, none, .alc [.int .i64 0, .nils, .nils]⟩])
  (.seq (.seq (.ops [⟨some 45, none, none, .mv (.t 12)⟩,
    ⟨some 46, none, none, .ar .eql (.t 45) (.c (.int .i64 0))⟩])
  (.cond (.t 46) (.seq (.seq (.ops [⟨some 47, none, none, .fad 2 (.t 4)⟩,
    ⟨some 48, none, none, .ld false 1 (.t 47)⟩,
    ⟨some 49, none, none, .len (.t 48)⟩,
    ⟨some 50, none, none, .ar .eql (.t 49) (.c (.int .i64 10))⟩])
  (.cond (.t 50) (.ops [⟨some 13, none, none, .mv (.c (.int .i64 9))⟩])
  (.seq (.ops [⟨some 51, none, none, .ld true 3 (.t 4)⟩,
    ⟨some 52, none, none, .call (.c (.fn 19 [] [])) [.t 51]⟩,
    ⟨some 17, none, none, .alc [.int .i64 0, .nils, .nils]⟩,
    ⟨none, none, none, .sto 3 (.t 17) (.t 52)⟩])
  (.seq (.ops [⟨some 53, none, none, .fad 2 (.t 17)⟩,
    ⟨some 54, none, none, .ld false 1 (.t 53)⟩,
    ⟨some 55, none, none, .ld true 4 (.t 5)⟩,
    ⟨some 56, none, none, .bsl 1 [.int .i64 0, .int .i64 0, .int .i64 0, .int .i64 0] [(0, 4, .t 55)]⟩,
    ⟨some 57, none, none, .app 4 32 (.t 54) (.t 56)⟩,
    ⟨some 58, none, none, .fad 2 (.t 17)⟩,
    ⟨none, none, none, .sto 1 (.t 58) (.t 57)⟩])
  (.seq (.ops [⟨some 59, none, none, .ld true 3 (.t 17)⟩,
    ⟨some 60, none, none, .call (.c (.fn 20 [] [])) [.t 59]⟩,
    ⟨some 13, none, none, .mv (.t 60)⟩])
  (.seq (.ops [⟨some 61, none, none, .mv (.t 13)⟩,
    ⟨some 62, none, none, .ar .eql (.t 61) (.c (.int .i64 0))⟩])
  (.cond (.t 62) (.seq (.ops [⟨some 63, none, none, .ld true 3 (.t 4)⟩,
    ⟨some 64, none, none, .call (.c (.fn 18 [] [])) [.t 63]⟩,
    ⟨none, none, none, .sto 3 (.t 15) (.t 64)⟩])
  (.ops [⟨some 65, none, none, .fad 2 (.t 15)⟩,
    ⟨some 66, none, none, .ld false 1 (.t 65)⟩,
    ⟨some 67, none, none, .ld true 4 (.t 5)⟩,
    ⟨some 68, none, none, .bsl 1 [.int .i64 0, .int .i64 0, .int .i64 0, .int .i64 0] [(0, 4, .t 67)]⟩,
    ⟨some 69, none, none, .app 4 32 (.t 66) (.t 68)⟩,
    ⟨some 70, none, none, .fad 2 (.t 15)⟩,
    ⟨none, none, none, .sto 1 (.t 70) (.t 69)⟩]))
  (.skip))))))))
  (.seq (.ops [⟨some 18, none, none, .mv (.c (.bool false))⟩])
  (.seq (.seq (.ops [⟨some 71, none, none, .mv (.t 3)⟩,
    ⟨some 72, none, none, .len (.t 71)⟩,
    ⟨some 73, none, none, .mv (.c (.int .i64 0))⟩])
  (.block 0 (.loop (.seq (.ops [⟨some 74, none, none, .ar .lss (.t 73) (.t 72)⟩])
  (.seq (.cond (.t 74) (.skip)
  (.exit 0))
  (.seq (.block 1 (.seq (.ops [⟨some 75, none, none, .iad 1 (.t 71) (.t 73)⟩,
    ⟨some 76, none, none, .ld false 1 (.t 75)⟩,
    ⟨some 20, none, none, .mv (.t 76)⟩])
  (.ops [⟨some 77, none, none, .mv (.t 18)⟩,
    ⟨some 78, none, none, .mv (.t 77)⟩,
    ⟨some 79, some (78, false), none, .mv (.t 20)⟩,
    ⟨some 80, some (78, false), none, .ar .lss (.t 79) (.c (.int .i64 0))⟩,
    ⟨some 81, none, none, .pick (.t 78) (.c (.bool true)) (.t 80)⟩,
    ⟨some 82, none, none, .mv (.t 81)⟩,
    ⟨some 83, some (82, false), none, .mv (.t 20)⟩,
    ⟨some 84, some (82, false), none, .ar .gtr (.t 83) (.c (.int .i64 3))⟩,
    ⟨some 85, none, none, .pick (.t 82) (.c (.bool true)) (.t 84)⟩,
    ⟨some 18, none, none, .mv (.t 85)⟩])))
  (.ops [⟨some 86, none, none, .ar .add (.t 73) (.c (.int .i64 1))⟩,
    ⟨some 73, none, none, .mv (.t 86)⟩])))))))
  (.block 2 (.seq (.ops [⟨some 105, none, none, .mv (.t 2)⟩,
    ⟨some 106, none, none, .ar .lss (.t 105) (.c (.int .i64 0))⟩,
    ⟨some 107, none, none, .mv (.t 106)⟩,
    ⟨some 108, some (107, false), none, .mv (.t 2)⟩,
    ⟨some 109, some (107, false), none, .fad 1 (.t 4)⟩,
    ⟨some 110, some (107, false), none, .ld false 1 (.t 109)⟩,
    ⟨some 111, some (107, false), none, .len (.t 110)⟩,
    ⟨some 112, some (107, false), none, .ar .geq (.t 108) (.t 111)⟩,
    ⟨some 113, none, none, .pick (.t 107) (.c (.bool true)) (.t 112)⟩,
    ⟨some 104, none, none, .mv (.t 113)⟩])
  (.cond (.t 104) (.ops [⟨some 14, none, none, .mv (.c (.int .i64 1))⟩])
  (.seq (.ops [⟨some 115, none, none, .ld true 3 (.t 10)⟩,
    ⟨some 116, none, none, .mv (.t 2)⟩,
    ⟨some 117, none, none, .call (.c (.fn 55 [] [])) [.t 115, .t 116]⟩,
    ⟨some 118, none, none, .len (.t 117)⟩,
    ⟨some 119, none, none, .ar .gtr (.t 118) (.c (.int .i64 0))⟩,
    ⟨some 114, none, none, .mv (.t 119)⟩])
  (.cond (.t 114) (.ops [⟨some 14, none, none, .mv (.c (.int .i64 5))⟩])
  (.seq (.ops [⟨some 121, none, none, .mv (.t 3)⟩,
    ⟨some 122, none, none, .len (.t 121)⟩,
    ⟨some 123, none, none, .ar .eql (.t 122) (.c (.int .i64 0))⟩,
    ⟨some 120, none, none, .mv (.t 123)⟩])
  (.cond (.t 120) (.ops [⟨some 14, none, none, .mv (.c (.int .i64 2))⟩])
  (.seq (.ops [⟨some 125, none, none, .fad 1 (.t 4)⟩,
    ⟨some 126, none, none, .ld false 1 (.t 125)⟩,
    ⟨some 127, none, none, .len (.t 126)⟩,
    ⟨some 128, none, none, .mv (.t 3)⟩,
    ⟨some 129, none, none, .len (.t 128)⟩,
    ⟨some 130, none, none, .ar .add (.t 127) (.t 129)⟩,
    ⟨some 131, none, none, .ar .gtr (.t 130) (.c (.int .i64 12))⟩,
    ⟨some 124, none, none, .mv (.t 131)⟩])
  (.cond (.t 124) (.ops [⟨some 14, none, none, .mv (.c (.int .i64 9))⟩])
  (.seq (.ops [⟨some 133, none, none, .mv (.t 18)⟩,
    ⟨some 132, none, none, .mv (.t 133)⟩])
  (.cond (.t 132) (.ops [⟨some 14, none, none, .mv (.c (.int .i64 3))⟩])
  (.seq (.ops [⟨some 87, none, none, .ld true 3 (.t 4)⟩,
    ⟨some 88, none, none, .call (.c (.fn 18 [] [])) [.t 87]⟩,
    ⟨none, none, none, .sto 3 (.t 16) (.t 88)⟩])
  (.seq (.ops [⟨some 89, none, none, .mv (.t 3)⟩,
    ⟨some 90, none, none, .len (.t 89)⟩,
    ⟨some 91, none, none, .mv (.c (.int .i64 0))⟩])
  (.block 3 (.loop (.seq (.ops [⟨some 92, none, none, .ar .lss (.t 91) (.t 90)⟩])
  (.seq (.cond (.t 92) (.skip)
  (.exit 3))
  (.seq (.block 4 (.seq (.ops [⟨some 93, none, none, .iad 1 (.t 89) (.t 91)⟩,
    ⟨some 94, none, none, .ld false 1 (.t 93)⟩,
    ⟨some 22, none, none, .mv (.t 94)⟩])
  (.ops [⟨some 95, none, none, .fad 1 (.t 16)⟩,
    ⟨some 96, none, none, .ld false 1 (.t 95)⟩,
    ⟨some 97, none, none, .mv (.t 2)⟩,
    ⟨some 98, none, none, .mv (.t 22)⟩,
    ⟨some 99, none, none, .bld [.int .i64 0, .int .i64 0] [(0, 1, .t 97), (1, 1, .t 98)]⟩,
    ⟨some 100, none, none, .bsl 1 [.int .i64 0, .int .i64 0] [(0, 2, .t 99)]⟩,
    ⟨some 101, none, none, .app 2 16 (.t 96) (.t 100)⟩,
    ⟨some 102, none, none, .fad 1 (.t 16)⟩,
    ⟨none, none, none, .sto 1 (.t 102) (.t 101)⟩])))
  (.ops [⟨some 103, none, none, .ar .add (.t 91) (.c (.int .i64 1))⟩,
    ⟨some 91, none, none, .mv (.t 103)⟩]))))))))))))))))))))))
  (.skip)))
  (.seq (.ops [⟨some 135, none, none, .ld true 3 (.t 9)⟩,
    ⟨some 136, none, none, .ld true 4 (.t 5)⟩,
    ⟨some 137, none, none, .call (.c (.fn 50 [] [])) [.t 135, .t 136]⟩,
    ⟨some 134, none, none, .mv (.t 137)⟩,
    ⟨some 138, none, none, .ext (.t 134) 0⟩,
    ⟨some 139, none, none, .ext (.t 134) 1⟩,
    ⟨some 23, none, none, .alc [.int .i64 0, .nils, .nils]⟩,
    ⟨none, none, none, .sto 3 (.t 23) (.t 138)⟩,
    ⟨some 24, none, none, .mv (.t 139)⟩])
  (.seq (.ops [⟨some 141, none, none, .ld true 3 (.t 9)⟩,
    ⟨some 142, none, none, .mv (.t 2)⟩,
    ⟨some 143, none, none, .mv (.t 11)⟩,
    ⟨some 144, none, none, .call (.c (.fn 53 [] [])) [.t 141, .t 142, .t 143]⟩,
    ⟨some 140, none, none, .mv (.t 144)⟩,
    ⟨some 145, none, none, .ext (.t 140) 0⟩,
    ⟨some 146, none, none, .ext (.t 140) 1⟩,
    ⟨some 25, none, none, .alc [.int .i64 0, .nils, .nils]⟩,
    ⟨none, none, none, .sto 3 (.t 25) (.t 145)⟩,
    ⟨some 26, none, none, .mv (.t 146)⟩])
  (.seq (.seq (.ops [⟨some 147, none, none, .mv (.t 24)⟩,
    ⟨some 148, none, none, .mv (.t 13)⟩,
    ⟨some 149, none, none, .ar .neq (.t 147) (.t 148)⟩,
    ⟨some 150, none, none, .mv (.t 149)⟩,
    ⟨some 151, some (150, false), none, .mv (.t 26)⟩,
    ⟨some 152, some (150, false), none, .mv (.t 14)⟩,
    ⟨some 153, some (150, false), none, .ar .neq (.t 151) (.t 152)⟩,
    ⟨some 154, none, none, .pick (.t 150) (.c (.bool true)) (.t 153)⟩,
    ⟨some 155, none, none, .mv (.t 154)⟩,
    ⟨some 156, some (155, false), none, .ld true 3 (.t 23)⟩,
    ⟨some 157, some (155, false), none, .ld true 3 (.t 15)⟩,
    ⟨some 158, some (155, false), none, .call (.c (.fn 26 [] [])) [.t 156, .t 157]⟩,
    ⟨some 159, some (155, false), none, .not (.t 158)⟩,
    ⟨some 160, none, none, .pick (.t 155) (.c (.bool true)) (.t 159)⟩,
    ⟨some 161, none, none, .mv (.t 160)⟩,
    ⟨some 162, some (161, false), none, .ld true 3 (.t 25)⟩,
    ⟨some 163, some (161, false), none, .ld true 3 (.t 16)⟩,
    ⟨some 164, some (161, false), none, .call (.c (.fn 26 [] [])) [.t 162, .t 163]⟩,
    ⟨some 165, some (161, false), none, .not (.t 164)⟩,
    ⟨some 166, none, none, .pick (.t 161) (.c (.bool true)) (.t 165)⟩])
  (.cond (.t 166) (.seq (.ops [⟨some 8, none, none, .mv (.c (.bool false))⟩])
  (.ret))
  (.skip)))
  (.seq (.ops [⟨some 167, none, none, .fad 1 (.t 23)⟩,
    ⟨some 168, none, none, .ld false 1 (.t 167)⟩,
    ⟨none, none, none, .clr 2 [.int .i64 0, .int .i64 0] (.t 168)⟩])
  (.seq (.ops [⟨some 169, none, none, .fad 2 (.t 23)⟩,
    ⟨some 170, none, none, .ld false 1 (.t 169)⟩,
    ⟨none, none, none, .clr 4 [.int .i64 0, .int .i64 0, .int .i64 0, .int .i64 0] (.t 170)⟩])
  (.seq (.ops [⟨some 171, none, none, .fad 1 (.t 25)⟩,
    ⟨some 172, none, none, .ld false 1 (.t 171)⟩,
    ⟨none, none, none, .clr 2 [.int .i64 0, .int .i64 0] (.t 172)⟩])
  (.seq (.ops [⟨some 173, none, none, .fad 2 (.t 25)⟩,
    ⟨some 174, none, none, .ld false 1 (.t 173)⟩,
    ⟨none, none, none, .clr 4 [.int .i64 0, .int .i64 0, .int .i64 0, .int .i64 0] (.t 174)⟩])
  (.seq (.ops [⟨some 175, none, none, .ld true 3 (.t 9)⟩,
    ⟨some 176, none, none, .ld true 3 (.t 4)⟩,
    ⟨some 177, none, none, .call (.c (.fn 26 [] [])) [.t 175, .t 176]⟩,
    ⟨some 178, none, none, .mv (.t 177)⟩,
    ⟨some 179, some (178, true), none, .mv (.t 11)⟩,
    ⟨some 180, some (178, true), none, .mv (.t 3)⟩,
    ⟨some 181, some (178, true), none, .call (.c (.fn 67 [] [])) [.t 179, .t 180]⟩,
    ⟨some 182, none, none, .pick (.t 178) (.t 181) (.c (.bool false))⟩,
    ⟨some 183, none, none, .mv (.t 182)⟩,
    ⟨some 184, some (183, true), none, .call (.c (.fn 17 [] [])) []⟩,
    ⟨some 185, none, none, .pick (.t 183) (.t 184) (.c (.bool false))⟩,
    ⟨some 8, none, none, .mv (.t 185)⟩])
  (.ret)))))))))))))))⟩
def c14 : FD := ⟨201, [.tmp 4],
  .seq (.ops [⟨some 4, none, none, .mv (.c (.bool false))⟩])
  (.seq (.ops [⟨some 24, none, none, .mv (.t 0)⟩,
    ⟨some 25, none, none, .call (.c (.fn 32 [] [])) [.t 24]⟩,
    ⟨some 26, none, none, .mv (.t 1)⟩,
    ⟨some 27, none, none, .call (.c (.fn 32 [] [])) [.t 26]⟩,
    ⟨some 5, none, none, .mv (.t 25)⟩,
    ⟨some 6, none, none, .mv (.t 27)⟩])
  (.seq (.ops [⟨some 29, none, none, .mv (.t 5)⟩,
    ⟨some 30, none, none, .call (.c (.fn 33 [] [])) [.t 29, .c (.int .i64 12), .c (.int .i64 300)]⟩,
    ⟨some 28, none, none, .mv (.t 30)⟩,
    ⟨some 31, none, none, .ext (.t 28) 0⟩,
    ⟨some 32, none, none, .ext (.t 28) 1⟩,
    ⟨some 7, none, none, .alc [.int .i64 0, .nils, .nils]⟩,
    ⟨none, none, none, .sto 3 (.t 7) (.t 31)⟩,
    ⟨some 8, none, none, .mv (.t 32)⟩])
  (.seq (.ops [⟨some 33, none, none, .mv (.t 5)⟩,
    ⟨some 34, none, none, .ld true 3 (.t 7)⟩,
    ⟨some 35, none, none, .mv (.t 8)⟩,
    ⟨some 36, none, none, .call (.c (.fn 34 [] [])) [.t 33, .t 34, .t 35, .c (.int .i64 9)]⟩,
    ⟨none, none, none, .sto 3 (.t 7) (.t 36)⟩])
  (.seq (.ops [⟨some 38, none, none, .ld true 3 (.t 7)⟩,
    ⟨some 39, none, none, .call (.c (.fn 36 [] [])) [.t 38]⟩,
    ⟨some 37, none, none, .mv (.t 39)⟩,
    ⟨some 40, none, none, .ext (.t 37) 0⟩,
    ⟨some 41, none, none, .ext (.t 37) 1⟩,
    ⟨some 9, none, none, .mv (.t 40)⟩,
    ⟨some 10, none, none, .mv (.t 41)⟩])
  (.seq (.seq (.ops [⟨some 42, none, none, .ld true 3 (.t 7)⟩,
    ⟨some 43, none, none, .call (.c (.fn 54 [] [])) [.t 42]⟩,
    ⟨some 44, none, none, .ar .neq (.t 43) (.c (.int .i64 0))⟩,
    ⟨some 45, none, none, .mv (.t 44)⟩,
    ⟨some 46, some (45, false), none, .mv (.t 10)⟩,
    ⟨some 47, some (45, false), none, .ar .neq (.t 46) (.c (.int .i64 0))⟩,
    ⟨some 48, none, none, .pick (.t 45) (.c (.bool true)) (.t 47)⟩,
    ⟨some 49, none, none, .mv (.t 48)⟩,
    ⟨some 50, some (49, false), none, .mv (.t 9)⟩,
    ⟨some 51, some (49, false), none, .len (.t 50)⟩,
    ⟨some 52, some (49, false), none, .fad 1 (.t 7)⟩,
    ⟨some 53, some (49, false), none, .ld false 1 (.t 52)⟩,
    ⟨some 54, some (49, false), none, .len (.t 53)⟩,
    ⟨some 55, some (49, false), none, .ar .neq (.t 51) (.t 54)⟩,
    ⟨some 56, none, none, .pick (.t 49) (.c (.bool true)) (.t 55)⟩])
  (.cond (.t 56) (.seq (.ops [⟨some 4, none, none, .mv (.c (.bool false))⟩])
  (.ret))
  (.skip)))
  (.seq (.seq (.ops [⟨some 57, none, none, .mv (.t 9)⟩,
    ⟨some 58, none, none, .len (.t 57)⟩,
    ⟨some 59, none, none, .mv (.c (.int .i64 0))⟩])
  (.block 0 (.loop (.seq (.ops [⟨some 60, none, none, .ar .lss (.t 59) (.t 58)⟩])
  (.seq (.cond (.t 60) (.skip)
  (.exit 0))
  (.seq (.block 1 (.seq (.ops [⟨some 61, none, none, .mv (.t 59)⟩,
    ⟨some 62, none, none, .iad 2 (.t 57) (.t 59)⟩,
    ⟨some 63, none, none, .ld true 2 (.t 62)⟩,
    ⟨some 12, none, none, .alc [.int .i64 0, .int .i64 0]⟩,
    ⟨some 11, none, none, .mv (.t 61)⟩,
    ⟨none, none, none, .sto 2 (.t 12) (.t 63)⟩])
  (.seq (.seq (.dops [⟨some 64, none, none, .mv (.t 8)⟩,
    ⟨some 65, none, none, .mv (.t 11)⟩,
    ⟨some 66, none, none, .iad 1 (.t 64) (.t 65)⟩,
    ⟨some 67, none, some (0, 0), .ld false 1 (.t 66)⟩,
    ⟨some 68, none, none, .fad 0 (.t 12)⟩,
    ⟨some 69, none, some (0, 0), .ld false 1 (.t 68)⟩,
    ⟨some 70, none, none, .ar .lss (.t 67) (.t 69)⟩,
    ⟨some 71, none, none, .mv (.t 70)⟩,
    ⟨some 72, some (71, false), none, .mv (.t 8)⟩,
    ⟨some 73, some (71, false), none, .mv (.t 11)⟩,
    ⟨some 74, some (71, false), none, .iad 1 (.t 72) (.t 73)⟩,
    ⟨some 75, some (71, false), some (0, 0), .ld false 1 (.t 74)⟩,
    ⟨some 76, some (71, false), none, .fad 1 (.t 12)⟩,
    ⟨some 77, some (71, false), some (0, 0), .ld false 1 (.t 76)⟩,
    ⟨some 78, some (71, false), none, .ar .gtr (.t 75) (.t 77)⟩,
    ⟨some 79, none, none, .pick (.t 71) (.c (.bool true)) (.t 78)⟩])
  (.cond (.t 79) (.seq (.ops [⟨some 4, none, none, .mv (.c (.bool false))⟩])
  (.ret))
  (.skip)))
  (.seq (.dops [⟨some 80, none, none, .fad 0 (.t 12)⟩,
    ⟨some 81, none, some (0, 1), .ld false 1 (.t 80)⟩,
    ⟨some 82, none, none, .fad 1 (.t 12)⟩,
    ⟨some 83, none, some (0, 1), .ld false 1 (.t 82)⟩,
    ⟨some 84, none, none, .mv (.t 6)⟩,
    ⟨some 85, none, none, .fad 0 (.t 12)⟩,
    ⟨some 86, none, some (0, 0), .ld false 1 (.t 85)⟩,
    ⟨some 87, none, none, .fad 1 (.t 12)⟩,
    ⟨some 88, none, some (0, 0), .ld false 1 (.t 87)⟩,
    ⟨some 89, none, none, .call (.c (.fn 52 [] [])) [.t 84, .t 86, .t 88]⟩,
    ⟨some 90, none, none, .fad 0 (.t 12)⟩,
    ⟨some 91, none, some (0, 1), .ld false 1 (.t 90)⟩,
    ⟨some 92, none, none, .ar .sub (.t 91) (.c (.int .i64 1))⟩,
    ⟨some 93, none, none, .fad 1 (.t 12)⟩,
    ⟨some 94, none, some (0, 1), .ld false 1 (.t 93)⟩,
    ⟨some 95, none, none, .ar .add (.t 94) (.c (.int .i64 1))⟩,
    ⟨some 96, none, none, .bsl 5 [.int .i64 0, .int .i64 0, .int .i64 0, .int .i64 0, .int .i64 0] [(0, 1, .t 81), (1, 1, .t 83), (2, 1, .t 89), (3, 1, .t 92), (4, 1, .t 95)]⟩,
    ⟨some 97, none, none, .len (.t 96)⟩,
    ⟨some 98, none, none, .mv (.c (.int .i64 0))⟩])
  (.block 2 (.loop (.seq (.ops [⟨some 99, none, none, .ar .lss (.t 98) (.t 97)⟩])
  (.seq (.cond (.t 99) (.skip)
  (.exit 2))
  (.seq (.block 3 (.seq (.ops [⟨some 100, none, none, .iad 1 (.t 96) (.t 98)⟩,
    ⟨some 101, none, none, .ld false 1 (.t 100)⟩,
    ⟨some 14, none, none, .mv (.t 101)⟩])
  (.seq (.ops [⟨some 103, none, none, .ld true 3 (.t 7)⟩,
    ⟨some 104, none, none, .mv (.t 11)⟩,
    ⟨some 105, none, none, .mv (.t 14)⟩,
    ⟨some 106, none, none, .call (.c (.fn 68 [] [])) [.t 103, .t 104, .t 105]⟩,
    ⟨some 102, none, none, .mv (.t 106)⟩,
    ⟨some 107, none, none, .ext (.t 102) 0⟩,
    ⟨some 108, none, none, .ext (.t 102) 1⟩,
    ⟨some 15, none, none, .mv (.t 107)⟩,
    ⟨some 16, none, none, .mv (.t 108)⟩])
  (.seq (.ops [⟨some 109, none, none, .mv (.t 14)⟩,
    ⟨some 110, none, none, .fad 0 (.t 12)⟩,
    ⟨some 111, none, none, .ld false 1 (.t 110)⟩,
    ⟨some 112, none, none, .ar .lss (.t 109) (.t 111)⟩,
    ⟨some 113, none, none, .mv (.t 112)⟩,
    ⟨some 114, some (113, false), none, .mv (.t 14)⟩,
    ⟨some 115, some (113, false), none, .fad 1 (.t 12)⟩,
    ⟨some 116, some (113, false), none, .ld false 1 (.t 115)⟩,
    ⟨some 117, some (113, false), none, .ar .gtr (.t 114) (.t 116)⟩,
    ⟨some 118, none, none, .pick (.t 113) (.c (.bool true)) (.t 117)⟩])
  (.cond (.t 118) (.seq (.ops [⟨some 119, none, none, .mv (.t 16)⟩,
    ⟨some 120, none, none, .ar .neq (.t 119) (.c (.int .i64 6))⟩])
  (.cond (.t 120) (.seq (.ops [⟨some 4, none, none, .mv (.c (.bool false))⟩])
  (.ret))
  (.skip)))
  (.seq (.ops [⟨some 121, none, none, .mv (.t 16)⟩,
    ⟨some 122, none, none, .ar .neq (.t 121) (.c (.int .i64 0))⟩,
    ⟨some 123, none, none, .mv (.t 122)⟩,
    ⟨some 124, some (123, false), none, .ld true 3 (.t 7)⟩,
    ⟨some 125, some (123, false), none, .mv (.t 15)⟩,
    ⟨some 126, some (123, false), none, .call (.c (.fn 69 [] [])) [.t 124, .t 125]⟩,
    ⟨some 127, some (123, false), none, .not (.t 126)⟩,
    ⟨some 128, none, none, .pick (.t 123) (.c (.bool true)) (.t 127)⟩,
    ⟨some 129, none, none, .mv (.t 128)⟩,
    ⟨some 130, some (129, false), none, .mv (.t 15)⟩,
    ⟨some 131, some (129, false), none, .mv (.t 11)⟩,
    ⟨some 132, some (129, false), none, .iad 1 (.t 130) (.t 131)⟩,
    ⟨some 133, some (129, false), none, .ld false 1 (.t 132)⟩,
    ⟨some 134, some (129, false), none, .mv (.t 14)⟩,
    ⟨some 135, some (129, false), none, .ar .neq (.t 133) (.t 134)⟩,
    ⟨some 136, none, none, .pick (.t 129) (.c (.bool true)) (.t 135)⟩])
  (.cond (.t 136) (.seq (.ops [⟨some 4, none, none, .mv (.c (.bool false))⟩])
  (.ret))
  (.skip))))))))
  (.ops [⟨some 137, none, none, .ar .add (.t 98) (.c (.int .i64 1))⟩,
    ⟨some 98, none, none, .mv (.t 137)⟩]))))))))))
  (.ops [⟨some 138, none, none, .ar .add (.t 59) (.c (.int .i64 1))⟩,
    ⟨some 59, none, none, .mv (.t 138)⟩])))))))
  (.seq (.seq (.ops [⟨some 139, none, none, .mv (.c (.int .i64 0))⟩])
  (.block 4 (.loop (.seq (.ops [⟨some 140, none, none, .ar .lss (.t 139) (.c (.int .i64 4))⟩])
  (.seq (.cond (.t 140) (.skip)
  (.exit 4))
  (.seq (.block 5 (.seq (.ops [⟨some 141, none, none, .mv (.t 139)⟩,
    ⟨some 17, none, none, .mv (.t 141)⟩])
  (.seq (.ops [⟨some 18, none, none, .mv (.c (.int .i64 0))⟩])
  (.seq (.seq (.ops [⟨some 142, none, none, .mv (.t 8)⟩,
    ⟨some 143, none, none, .len (.t 142)⟩,
    ⟨some 144, none, none, .mv (.c (.int .i64 0))⟩])
  (.block 6 (.loop (.seq (.ops [⟨some 145, none, none, .ar .lss (.t 144) (.t 143)⟩])
  (.seq (.cond (.t 145) (.skip)
  (.exit 6))
  (.seq (.block 7 (.seq (.ops [⟨some 146, none, none, .mv (.t 144)⟩,
    ⟨some 147, none, none, .iad 1 (.t 142) (.t 144)⟩,
    ⟨some 148, none, none, .ld false 1 (.t 147)⟩,
    ⟨some 19, none, none, .mv (.t 146)⟩,
    ⟨some 20, none, none, .mv (.t 148)⟩])
  (.seq (.ops [⟨some 149, none, none, .ld true 3 (.t 7)⟩,
    ⟨some 150, none, none, .mv (.t 19)⟩,
    ⟨some 151, none, none, .call (.c (.fn 40 [] [])) [.t 149, .t 150]⟩,
    ⟨some 152, none, none, .mv (.t 151)⟩,
    ⟨some 153, some (152, true), none, .fad 1 (.t 7)⟩,
    ⟨some 154, some (152, true), none, .ld false 1 (.t 153)⟩,
    ⟨some 155, some (152, true), none, .mv (.t 19)⟩,
    ⟨some 156, some (152, true), none, .iad 2 (.t 154) (.t 155)⟩,
    ⟨some 157, some (152, true), none, .fad 1 (.t 156)⟩,
    ⟨some 158, some (152, true), none, .ld false 1 (.t 157)⟩,
    ⟨some 159, some (152, true), none, .mv (.t 17)⟩,
    ⟨some 160, some (152, true), none, .ar .eql (.t 158) (.t 159)⟩,
    ⟨some 161, none, none, .pick (.t 152) (.t 160) (.c (.bool false))⟩])
  (.cond (.t 161) (.ops [⟨some 162, none, none, .mv (.t 18)⟩,
    ⟨some 163, none, none, .mv (.t 20)⟩,
    ⟨some 164, none, none, .ar .add (.t 162) (.t 163)⟩,
    ⟨some 18, none, none, .mv (.t 164)⟩])
  (.skip)))))
  (.ops [⟨some 165, none, none, .ar .add (.t 144) (.c (.int .i64 1))⟩,
    ⟨some 144, none, none, .mv (.t 165)⟩])))))))
  (.seq (.ops [⟨some 167, none, none, .ld true 3 (.t 7)⟩,
    ⟨some 168, none, none, .mv (.t 17)⟩,
    ⟨some 169, none, none, .call (.c (.fn 25 [] [])) [.t 167, .t 168]⟩,
    ⟨some 166, none, none, .mv (.t 169)⟩,
    ⟨some 170, none, none, .ext (.t 166) 0⟩,
    ⟨some 171, none, none, .ext (.t 166) 1⟩,
    ⟨some 21, none, none, .alc [.int .i64 0, .int .i64 0]⟩,
    ⟨none, none, none, .sto 2 (.t 21) (.t 170)⟩,
    ⟨some 22, none, none, .mv (.t 171)⟩])
  (.seq (.ops [⟨some 172, none, none, .mv (.t 22)⟩,
    ⟨some 173, none, none, .ar .neq (.t 172) (.c (.int .i64 0))⟩,
    ⟨some 174, none, none, .mv (.t 173)⟩,
    ⟨some 175, some (174, false), none, .mv (.t 18)⟩,
    ⟨some 176, some (174, false), none, .fad 0 (.t 21)⟩,
    ⟨some 177, some (174, false), none, .ld false 1 (.t 176)⟩,
    ⟨some 178, some (174, false), none, .ar .lss (.t 175) (.t 177)⟩,
    ⟨some 179, none, none, .pick (.t 174) (.c (.bool true)) (.t 178)⟩,
    ⟨some 180, none, none, .mv (.t 179)⟩,
    ⟨some 181, some (180, false), none, .mv (.t 18)⟩,
    ⟨some 182, some (180, false), none, .fad 1 (.t 21)⟩,
    ⟨some 183, some (180, false), none, .ld false 1 (.t 182)⟩,
    ⟨some 184, some (180, false), none, .ar .gtr (.t 181) (.t 183)⟩,
    ⟨some 185, none, none, .pick (.t 180) (.c (.bool true)) (.t 184)⟩])
  (.cond (.t 185) (.seq (.ops [⟨some 4, none, none, .mv (.c (.bool false))⟩])
  (.ret))
  (.skip))))))))
  (.ops [⟨some 186, none, none, .ar .add (.t 139) (.c (.int .i64 1))⟩,
    ⟨some 139, none, none, .mv (.t 186)⟩])))))))
  (.seq (.ops [⟨some 188, none, none, .ld true 3 (.t 7)⟩,
    ⟨some 189, none, none, .mv (.t 8)⟩,
    ⟨some 190, none, none, .call (.c (.fn 70 [] [])) [.t 188, .t 189]⟩,
    ⟨some 187, none, none, .mv (.t 190)⟩,
    ⟨some 191, none, none, .ext (.t 187) 0⟩,
    ⟨some 192, none, none, .ext (.t 187) 1⟩,
    ⟨some 23, none, none, .mv (.t 191)⟩,
    ⟨some 10, none, none, .mv (.t 192)⟩])
  (.seq (.ops [⟨some 193, none, none, .mv (.t 10)⟩,
    ⟨some 194, none, none, .ar .eql (.t 193) (.c (.int .i64 0))⟩,
    ⟨some 195, none, none, .mv (.t 194)⟩,
    ⟨some 196, some (195, true), none, .mv (.t 23)⟩,
    ⟨some 197, none, none, .pick (.t 195) (.t 196) (.c (.bool false))⟩,
    ⟨some 198, none, none, .mv (.t 197)⟩,
    ⟨some 199, some (198, true), none, .call (.c (.fn 17 [] [])) []⟩,
    ⟨some 200, none, none, .pick (.t 198) (.t 199) (.c (.bool false))⟩,
    ⟨some 4, none, none, .mv (.t 200)⟩])
  (.ret))))))))))⟩
def c15 : FD := ⟨233, [.tmp 8],
  .seq (.ops [⟨some 4, none, none, .box (.t 0)⟩,
    ⟨some 8, none, none, .mv (.c (.bool false))⟩])
  (.seq (.seq (.ops [⟨some 29, none, none, .ld true 3 (.t 4)⟩,
    ⟨some 30, none, none, .call (.c (.fn 16 [] [])) [.t 29]⟩,
    ⟨some 31, none, none, .mv (.t 30)⟩,
    ⟨some 32, some (31, false), none, .mv (.t 1)⟩,
    ⟨some 33, some (31, false), none, .len (.t 32)⟩,
    ⟨some 34, some (31, false), none, .ar .gtr (.t 33) (.c (.int .i64 24))⟩,
    ⟨some 35, none, none, .pick (.t 31) (.c (.bool true)) (.t 34)⟩])
  (.cond (.t 35) (.seq (.ops [⟨some 36, none, none, .call (.c (.fn 17 [] [])) []⟩,
    ⟨some 8, none, none, .mv (.t 36)⟩])
  (.ret))
  (.skip)))
  (.seq (.dops [⟨some 37, none, some (0, 0), .ld true 3 (.t 4)⟩,
    ⟨some 38, none, none, .call (.c (.fn 18 [] [])) [.t 37]⟩,
    ⟨some 39, none, some (0, 1), .ld true 3 (.t 4)⟩,
    ⟨some 40, none, none, .call (.c (.fn 19 [] [])) [.t 39]⟩,
    ⟨some 41, none, none, .mv (.t 1)⟩,
    ⟨some 42, none, none, .call (.c (.fn 27 [] [])) [.t 41]⟩,
    ⟨some 9, none, none, .alc [.int .i64 0, .nils, .nils]⟩,
    ⟨some 10, none, none, .alc [.int .i64 0, .nils, .nils]⟩,
    ⟨none, none, none, .sto 3 (.t 9) (.t 38)⟩,
    ⟨none, none, none, .sto 3 (.t 10) (.t 40)⟩,
    ⟨some 11, none, none, .mv (.t 42)⟩])
  (.seq (.ops [⟨some 43, none, none, .ld true 3 (.t 10)⟩,
    ⟨some 44, none, none, .call (.c (.fn 20 [] [])) [.t 43]⟩,
    ⟨some 12, none, none, .mv (.t 44)⟩])
  (.seq (.ops [⟨some 45, none, none, .mv (.t 12)⟩,
    ⟨some 46, none, none, .mv (.t 12)⟩,
    ⟨some 13, none, none, .mv (.t 45)⟩,
    ⟨some 14, none, none, .mv (.t 46)⟩])
  (.seq (.ops [⟨some 15, none, none, .mv (.c (.bool false))⟩,
    ⟨some 16, none, none, .mv (.c (.int .i64 0))⟩])
  (.seq (.ops [⟨some 17, none, none, .mv (.c (.nils))⟩])
  (.seq (.ops [⟨some 18, none, none, .alc [.int .i64 0, .int .i64 0]⟩])
  (.seq (.seq (.ops [⟨some 47, none, none, .mv (.t 12)⟩,
    ⟨some 48, none, none, .ar .eql (.t 47) (.c (.int .i64 0))⟩])
  (.cond (.t 48) (.seq (.ops [⟨some 49, none, none, .ld true 3 (.t 10)⟩,
    ⟨some 50, none, none, .mv (.t 1)⟩,
    ⟨some 51, none, none, .call (.c (.fn 71 [] [])) [.t 49, .t 50]⟩,
    ⟨some 15, none, none, .mv (.t 51)⟩])
  (.seq (.ops [⟨some 13, none, none, .mv (.c (.int .i64 7))⟩])
  (.seq (.seq (.dops [⟨some 52, none, some (0, 1), .ld true 3 (.t 10)⟩,
    ⟨some 53, none, some (0, 0), .ld true 3 (.t 10)⟩,
    ⟨some 54, none, none, .call (.c (.fn 22 [] [])) [.t 53]⟩,
    ⟨some 55, none, none, .call (.c (.fn 21 [] [])) [.t 52, .t 54]⟩])
  (.cond (.t 55) (.seq (.ops [⟨some 13, none, none, .mv (.c (.int .i64 0))⟩])
  (.seq (.seq (.ops [⟨some 56, none, none, .fad 1 (.t 4)⟩,
    ⟨some 57, none, none, .ld false 1 (.t 56)⟩,
    ⟨some 58, none, none, .len (.t 57)⟩,
    ⟨some 59, none, none, .mv (.c (.int .i64 0))⟩])
  (.block 0 (.loop (.seq (.ops [⟨some 60, none, none, .ar .lss (.t 59) (.t 58)⟩])
  (.seq (.cond (.t 60) (.skip)
  (.exit 0))
  (.seq (.block 1 (.seq (.ops [⟨some 61, none, none, .mv (.t 59)⟩,
    ⟨some 19, none, none, .mv (.t 61)⟩])
  (.seq (.ops [⟨some 62, none, none, .mv (.t 17)⟩,
    ⟨some 63, none, none, .ld true 3 (.t 10)⟩,
    ⟨some 64, none, none, .mv (.t 19)⟩,
    ⟨some 65, none, none, .call (.c (.fn 23 [] [])) [.t 63, .t 64]⟩,
    ⟨some 66, none, none, .bsl 1 [.int .i64 0, .int .i64 0] [(0, 2, .t 65)]⟩,
    ⟨some 67, none, none, .app 2 16 (.t 62) (.t 66)⟩,
    ⟨some 17, none, none, .mv (.t 67)⟩])
  (.seq (.dops [⟨some 68, none, none, .mv (.t 17)⟩,
    ⟨some 69, none, none, .mv (.t 19)⟩,
    ⟨some 70, none, none, .iad 2 (.t 68) (.t 69)⟩,
    ⟨some 71, none, none, .fad 1 (.t 70)⟩,
    ⟨some 72, none, some (0, 0), .ld false 1 (.t 71)⟩,
    ⟨some 73, none, none, .mv (.t 17)⟩,
    ⟨some 74, none, none, .mv (.t 19)⟩,
    ⟨some 75, none, none, .iad 2 (.t 73) (.t 74)⟩,
    ⟨some 76, none, none, .fad 0 (.t 75)⟩,
    ⟨some 77, none, some (0, 0), .ld false 1 (.t 76)⟩,
    ⟨some 78, none, none, .ar .sub (.t 72) (.t 77)⟩,
    ⟨some 79, none, none, .mv (.t 17)⟩,
    ⟨some 80, none, none, .mv (.t 16)⟩,
    ⟨some 81, none, none, .iad 2 (.t 79) (.t 80)⟩,
    ⟨some 82, none, none, .fad 1 (.t 81)⟩,
    ⟨some 83, none, some (0, 0), .ld false 1 (.t 82)⟩,
    ⟨some 84, none, none, .mv (.t 17)⟩,
    ⟨some 85, none, none, .mv (.t 16)⟩,
    ⟨some 86, none, none, .iad 2 (.t 84) (.t 85)⟩,
    ⟨some 87, none, none, .fad 0 (.t 86)⟩,
    ⟨some 88, none, some (0, 0), .ld false 1 (.t 87)⟩,
    ⟨some 89, none, none, .ar .sub (.t 83) (.t 88)⟩,
    ⟨some 90, none, none, .ar .gtr (.t 78) (.t 89)⟩])
  (.cond (.t 90) (.ops [⟨some 91, none, none, .mv (.t 19)⟩,
    ⟨some 16, none, none, .mv (.t 91)⟩])
  (.skip))))))
  (.ops [⟨some 92, none, none, .ar .add (.t 59) (.c (.int .i64 1))⟩,
    ⟨some 59, none, none, .mv (.t 92)⟩])))))))
  (.ops [⟨some 93, none, none, .mv (.t 17)⟩,
    ⟨some 94, none, none, .mv (.t 16)⟩,
    ⟨some 95, none, none, .iad 2 (.t 93) (.t 94)⟩,
    ⟨some 96, none, none, .ld true 2 (.t 95)⟩,
    ⟨none, none, none, .sto 2 (.t 18) (.t 96)⟩])))
  (.skip)))
  (.block 2 (.seq (.ops [⟨some 98, none, none, .mv (.t 2)⟩,
    ⟨some 99, none, none, .ar .lss (.t 98) (.c (.int .i64 0))⟩,
    ⟨some 100, none, none, .mv (.t 99)⟩,
    ⟨some 101, some (100, false), none, .mv (.t 2)⟩,
    ⟨some 102, some (100, false), none, .fad 1 (.t 4)⟩,
    ⟨some 103, some (100, false), none, .ld false 1 (.t 102)⟩,
    ⟨some 104, some (100, false), none, .len (.t 103)⟩,
    ⟨some 105, some (100, false), none, .ar .geq (.t 101) (.t 104)⟩,
    ⟨some 106, none, none, .pick (.t 100) (.c (.bool true)) (.t 105)⟩,
    ⟨some 97, none, none, .mv (.t 106)⟩])
  (.cond (.t 97) (.ops [⟨some 14, none, none, .mv (.c (.int .i64 1))⟩])
  (.seq (.ops [⟨some 108, none, none, .mv (.t 13)⟩,
    ⟨some 109, none, none, .ar .neq (.t 108) (.c (.int .i64 0))⟩,
    ⟨some 110, none, none, .mv (.t 109)⟩,
    ⟨some 111, some (110, false), none, .mv (.t 3)⟩,
    ⟨some 112, some (110, false), none, .mv (.t 17)⟩,
    ⟨some 113, some (110, false), none, .mv (.t 2)⟩,
    ⟨some 114, some (110, false), none, .iad 2 (.t 112) (.t 113)⟩,
    ⟨some 115, some (110, false), none, .fad 0 (.t 114)⟩,
    ⟨some 116, some (110, false), none, .ld false 1 (.t 115)⟩,
    ⟨some 117, some (110, false), none, .ar .lss (.t 111) (.t 116)⟩,
    ⟨some 118, none, none, .pick (.t 110) (.c (.bool true)) (.t 117)⟩,
    ⟨some 119, none, none, .mv (.t 118)⟩,
    ⟨some 120, some (119, false), none, .mv (.t 3)⟩,
    ⟨some 121, some (119, false), none, .mv (.t 17)⟩,
    ⟨some 122, some (119, false), none, .mv (.t 2)⟩,
    ⟨some 123, some (119, false), none, .iad 2 (.t 121) (.t 122)⟩,
    ⟨some 124, some (119, false), none, .fad 1 (.t 123)⟩,
    ⟨some 125, some (119, false), none, .ld false 1 (.t 124)⟩,
    ⟨some 126, some (119, false), none, .ar .gtr (.t 120) (.t 125)⟩,
    ⟨some 127, none, none, .pick (.t 119) (.c (.bool true)) (.t 126)⟩,
    ⟨some 107, none, none, .mv (.t 127)⟩])
  (.cond (.t 107) (.ops [⟨some 14, none, none, .mv (.c (.int .i64 6))⟩])
  (.skip)))))))))
  (.skip)))
  (.seq (.ops [⟨some 129, none, none, .ld true 3 (.t 9)⟩,
    ⟨some 130, none, none, .mv (.t 11)⟩,
    ⟨some 131, none, none, .call (.c (.fn 70 [] [])) [.t 129, .t 130]⟩,
    ⟨some 128, none, none, .mv (.t 131)⟩,
    ⟨some 132, none, none, .ext (.t 128) 0⟩,
    ⟨some 133, none, none, .ext (.t 128) 1⟩,
    ⟨some 20, none, none, .mv (.t 132)⟩,
    ⟨some 21, none, none, .mv (.t 133)⟩])
  (.seq (.ops [⟨some 135, none, none, .ld true 3 (.t 9)⟩,
    ⟨some 136, none, none, .call (.c (.fn 36 [] [])) [.t 135]⟩,
    ⟨some 134, none, none, .mv (.t 136)⟩,
    ⟨some 137, none, none, .ext (.t 134) 0⟩,
    ⟨some 138, none, none, .ext (.t 134) 1⟩,
    ⟨some 22, none, none, .mv (.t 137)⟩,
    ⟨some 23, none, none, .mv (.t 138)⟩])
  (.seq (.ops [⟨some 140, none, none, .ld true 3 (.t 9)⟩,
    ⟨some 141, none, none, .mv (.t 2)⟩,
    ⟨some 142, none, none, .mv (.t 3)⟩,
    ⟨some 143, none, none, .call (.c (.fn 68 [] [])) [.t 140, .t 141, .t 142]⟩,
    ⟨some 139, none, none, .mv (.t 143)⟩,
    ⟨some 144, none, none, .ext (.t 139) 0⟩,
    ⟨some 145, none, none, .ext (.t 139) 1⟩,
    ⟨some 24, none, none, .mv (.t 144)⟩,
    ⟨some 25, none, none, .mv (.t 145)⟩])
  (.seq (.ops [⟨some 147, none, none, .ld true 3 (.t 9)⟩,
    ⟨some 148, none, none, .call (.c (.fn 37 [] [])) [.t 147]⟩,
    ⟨some 146, none, none, .mv (.t 148)⟩,
    ⟨some 149, none, none, .ext (.t 146) 0⟩,
    ⟨some 150, none, none, .ext (.t 146) 1⟩,
    ⟨some 151, none, none, .ext (.t 146) 2⟩,
    ⟨some 27, none, none, .alc [.int .i64 0, .int .i64 0]⟩,
    ⟨some 26, none, none, .mv (.t 149)⟩,
    ⟨none, none, none, .sto 2 (.t 27) (.t 150)⟩,
    ⟨some 28, none, none, .mv (.t 151)⟩])
  (.seq (.seq (.ops [⟨some 152, none, none, .mv (.t 21)⟩,
    ⟨some 153, none, none, .mv (.t 12)⟩,
    ⟨some 154, none, none, .ar .neq (.t 152) (.t 153)⟩,
    ⟨some 155, none, none, .mv (.t 154)⟩,
    ⟨some 156, some (155, false), none, .mv (.t 20)⟩,
    ⟨some 157, some (155, false), none, .mv (.t 15)⟩,
    ⟨some 158, some (155, false), none, .beq true (.t 156) (.t 157)⟩,
    ⟨some 159, none, none, .pick (.t 155) (.c (.bool true)) (.t 158)⟩,
    ⟨some 160, none, none, .mv (.t 159)⟩,
    ⟨some 161, some (160, false), none, .mv (.t 23)⟩,
    ⟨some 162, some (160, false), none, .mv (.t 13)⟩,
    ⟨some 163, some (160, false), none, .ar .neq (.t 161) (.t 162)⟩,
    ⟨some 164, none, none, .pick (.t 160) (.c (.bool true)) (.t 163)⟩,
    ⟨some 165, none, none, .mv (.t 164)⟩,
    ⟨some 166, some (165, false), none, .mv (.t 22)⟩,
    ⟨some 167, some (165, false), none, .mv (.t 17)⟩,
    ⟨some 168, some (165, false), none, .call (.c (.fn 38 [] [])) [.t 166, .t 167]⟩,
    ⟨some 169, some (165, false), none, .not (.t 168)⟩,
    ⟨some 170, none, none, .pick (.t 165) (.c (.bool true)) (.t 169)⟩,
    ⟨some 171, none, none, .mv (.t 170)⟩,
    ⟨some 172, some (171, false), none, .mv (.t 25)⟩,
    ⟨some 173, some (171, false), none, .mv (.t 14)⟩,
    ⟨some 174, some (171, false), none, .ar .neq (.t 172) (.t 173)⟩,
    ⟨some 175, none, none, .pick (.t 171) (.c (.bool true)) (.t 174)⟩,
    ⟨some 176, none, none, .mv (.t 175)⟩,
    ⟨some 177, some (176, false), none, .mv (.t 28)⟩,
    ⟨some 178, some (176, false), none, .mv (.t 13)⟩,
    ⟨some 179, some (176, false), none, .ar .neq (.t 177) (.t 178)⟩,
    ⟨some 180, none, none, .pick (.t 176) (.c (.bool true)) (.t 179)⟩,
    ⟨some 181, none, none, .mv (.t 180)⟩,
    ⟨some 182, some (181, false), none, .mv (.t 26)⟩,
    ⟨some 183, some (181, false), none, .mv (.t 16)⟩,
    ⟨some 184, some (181, false), none, .ar .neq (.t 182) (.t 183)⟩,
    ⟨some 185, none, none, .pick (.t 181) (.c (.bool true)) (.t 184)⟩,
    ⟨some 186, none, none, .mv (.t 185)⟩,
    ⟨some 187, some (186, false), none, .ld true 2 (.t 27)⟩,
    ⟨some 188, some (186, false), none, .ld true 2 (.t 18)⟩,
    ⟨some 189, some (186, false), none, .feq true 2 (.t 187) (.t 188)⟩,
    ⟨some 190, none, none, .pick (.t 186) (.c (.bool true)) (.t 189)⟩])
  (.cond (.t 190) (.seq (.ops [⟨some 8, none, none, .mv (.c (.bool false))⟩])
  (.ret))
  (.skip)))
  (.seq (.seq (.ops [⟨some 191, none, none, .mv (.t 14)⟩,
    ⟨some 192, none, none, .ar .neq (.t 191) (.c (.int .i64 0))⟩])
  (.cond (.t 192) (.seq (.ops [⟨some 193, none, none, .mv (.t 24)⟩,
    ⟨some 194, none, none, .len (.t 193)⟩,
    ⟨some 195, none, none, .ar .eql (.t 194) (.c (.int .i64 0))⟩,
    ⟨some 196, none, none, .mv (.t 195)⟩,
    ⟨some 197, some (196, true), none, .ld true 3 (.t 9)⟩,
    ⟨some 198, some (196, true), none, .ld true 3 (.t 4)⟩,
    ⟨some 199, some (196, true), none, .call (.c (.fn 26 [] [])) [.t 197, .t 198]⟩,
    ⟨some 200, none, none, .pick (.t 196) (.t 199) (.c (.bool false))⟩,
    ⟨some 201, none, none, .mv (.t 200)⟩,
    ⟨some 202, some (201, true), none, .mv (.t 11)⟩,
    ⟨some 203, some (201, true), none, .mv (.t 1)⟩,
    ⟨some 204, some (201, true), none, .call (.c (.fn 31 [] [])) [.t 202, .t 203]⟩,
    ⟨some 205, none, none, .pick (.t 201) (.t 204) (.c (.bool false))⟩,
    ⟨some 206, none, none, .mv (.t 205)⟩,
    ⟨some 207, some (206, true), none, .call (.c (.fn 17 [] [])) []⟩,
    ⟨some 208, none, none, .pick (.t 206) (.t 207) (.c (.bool false))⟩,
    ⟨some 8, none, none, .mv (.t 208)⟩])
  (.ret))
  (.skip)))
  (.seq (.ops [⟨some 209, none, none, .ld true 3 (.t 10)⟩,
    ⟨some 210, none, none, .mv (.t 24)⟩,
    ⟨some 211, none, none, .call (.c (.fn 71 [] [])) [.t 209, .t 210]⟩,
    ⟨some 212, none, none, .mv (.t 211)⟩,
    ⟨some 213, some (212, true), none, .mv (.t 24)⟩,
    ⟨some 214, some (212, true), none, .mv (.t 2)⟩,
    ⟨some 215, some (212, true), none, .iad 1 (.t 213) (.t 214)⟩,
    ⟨some 216, some (212, true), none, .ld false 1 (.t 215)⟩,
    ⟨some 217, some (212, true), none, .mv (.t 3)⟩,
    ⟨some 218, some (212, true), none, .ar .eql (.t 216) (.t 217)⟩,
    ⟨some 219, none, none, .pick (.t 212) (.t 218) (.c (.bool false))⟩,
    ⟨some 220, none, none, .mv (.t 219)⟩,
    ⟨some 221, some (220, true), none, .ld true 3 (.t 9)⟩,
    ⟨some 222, some (220, true), none, .ld true 3 (.t 4)⟩,
    ⟨some 223, some (220, true), none, .call (.c (.fn 26 [] [])) [.t 221, .t 222]⟩,
    ⟨some 224, none, none, .pick (.t 220) (.t 223) (.c (.bool false))⟩,
    ⟨some 225, none, none, .mv (.t 224)⟩,
    ⟨some 226, some (225, true), none, .mv (.t 11)⟩,
    ⟨some 227, some (225, true), none, .mv (.t 1)⟩,
    ⟨some 228, some (225, true), none, .call (.c (.fn 31 [] [])) [.t 226, .t 227]⟩,
    ⟨some 229, none, none, .pick (.t 225) (.t 228) (.c (.bool false))⟩,
    ⟨some 230, none, none, .mv (.t 229)⟩,
    ⟨some 231, some (230, true), none, .call (.c (.fn 17 [] [])) []⟩,
    ⟨some 232, none, none, .pick (.t 230) (.t 231) (.c (.bool false))⟩,
    ⟨some 8, none, none, .mv (.t 232)⟩])
  (.ret))))))))))))))))⟩
def c16 : FD := ⟨13, [.tmp 2],
  .seq (.ops [⟨some 1, none, none, .box (.t 0)⟩,
    ⟨some 2, none, none, .mv (.c (.bool false))⟩])
  (.seq (.ops [⟨some 3, none, none, .fad 1 (.t 1)⟩,
    ⟨some 4, none, none, .ld false 1 (.t 3)⟩,
    ⟨some 5, none, none, .len (.t 4)⟩,
    ⟨some 6, none, none, .ar .gtr (.t 5) (.c (.int .i64 20))⟩,
    ⟨some 7, none, none, .mv (.t 6)⟩,
    ⟨some 8, some (7, false), none, .fad 2 (.t 1)⟩,
    ⟨some 9, some (7, false), none, .ld false 1 (.t 8)⟩,
    ⟨some 10, some (7, false), none, .len (.t 9)⟩,
    ⟨some 11, some (7, false), none, .ar .gtr (.t 10) (.c (.int .i64 14))⟩,
    ⟨some 12, none, none, .pick (.t 7) (.c (.bool true)) (.t 11)⟩,
    ⟨some 2, none, none, .mv (.t 12)⟩])
  (.ret))⟩
def c17 : FD := ⟨98, [.tmp 0],
  .seq (.ops [⟨some 0, none, none, .mv (.c (.bool false))⟩])
  (.seq (.ops [⟨some 14, none, none, .call (.c (.fn 72 [] [])) [.c (.int .i64 4)]⟩,
    ⟨some 15, none, none, .call (.c (.fn 36 [] [])) [.t 14]⟩,
    ⟨some 13, none, none, .mv (.t 15)⟩,
    ⟨some 16, none, none, .ext (.t 13) 0⟩,
    ⟨some 17, none, none, .ext (.t 13) 1⟩,
    ⟨some 1, none, none, .mv (.t 16)⟩,
    ⟨some 2, none, none, .mv (.t 17)⟩])
  (.seq (.ops [⟨some 19, none, none, .call (.c (.fn 72 [] [])) [.c (.int .i64 3)]⟩,
    ⟨some 20, none, none, .call (.c (.fn 25 [] [])) [.t 19, .c (.int .i64 3)]⟩,
    ⟨some 18, none, none, .mv (.t 20)⟩,
    ⟨some 21, none, none, .ext (.t 18) 0⟩,
    ⟨some 22, none, none, .ext (.t 18) 1⟩,
    ⟨some 3, none, none, .alc [.int .i64 0, .int .i64 0]⟩,
    ⟨none, none, none, .sto 2 (.t 3) (.t 21)⟩,
    ⟨some 4, none, none, .mv (.t 22)⟩])
  (.seq (.ops [⟨some 24, none, none, .call (.c (.fn 72 [] [])) [.c (.int .i64 5)]⟩,
    ⟨some 25, none, none, .bsl 4 [.int .i64 0, .int .i64 0, .int .i64 0, .int .i64 0] [(0, 1, .c (.int .i64 1)), (1, 1, .c (.int .i64 2)), (2, 1, .c (.int .i64 3)), (3, 1, .c (.int .i64 4))]⟩,
    ⟨some 26, none, none, .bsl 1 [.int .i64 0] [(0, 1, .c (.int .i64 0))]⟩,
    ⟨some 27, none, none, .bld [.int .i64 0, .nils, .nils] [(1, 1, .t 25), (2, 1, .t 26)]⟩,
    ⟨some 28, none, none, .call (.c (.fn 30 [] [])) [.t 24, .t 27]⟩,
    ⟨some 23, none, none, .mv (.t 28)⟩,
    ⟨some 29, none, none, .ext (.t 23) 0⟩,
    ⟨some 30, none, none, .ext (.t 23) 1⟩,
    ⟨some 5, none, none, .mv (.t 29)⟩,
    ⟨some 6, none, none, .mv (.t 30)⟩])
  (.seq (.ops [⟨some 32, none, none, .call (.c (.fn 72 [] [])) [.c (.int .i64 5)]⟩,
    ⟨some 33, none, none, .call (.c (.fn 47 [] [])) [.t 32]⟩,
    ⟨some 31, none, none, .mv (.t 33)⟩,
    ⟨some 34, none, none, .ext (.t 31) 0⟩,
    ⟨some 35, none, none, .ext (.t 31) 1⟩,
    ⟨some 7, none, none, .mv (.t 34)⟩,
    ⟨some 8, none, none, .mv (.t 35)⟩])
  (.seq (.ops [⟨some 37, none, none, .call (.c (.fn 72 [] [])) [.c (.int .i64 5)]⟩,
    ⟨some 38, none, none, .call (.c (.fn 48 [] [])) [.t 37]⟩,
    ⟨some 36, none, none, .mv (.t 38)⟩,
    ⟨some 39, none, none, .ext (.t 36) 0⟩,
    ⟨some 40, none, none, .ext (.t 36) 1⟩,
    ⟨some 9, none, none, .mv (.t 39)⟩,
    ⟨some 10, none, none, .mv (.t 40)⟩])
  (.seq (.ops [⟨some 42, none, none, .call (.c (.fn 72 [] [])) [.c (.int .i64 4)]⟩,
    ⟨some 43, none, none, .call (.c (.fn 29 [] [])) [.t 42]⟩,
    ⟨some 41, none, none, .mv (.t 43)⟩,
    ⟨some 44, none, none, .ext (.t 41) 0⟩,
    ⟨some 45, none, none, .ext (.t 41) 1⟩,
    ⟨some 11, none, none, .alc [.int .i64 0, .nils, .nils]⟩,
    ⟨none, none, none, .sto 3 (.t 11) (.t 44)⟩,
    ⟨some 12, none, none, .mv (.t 45)⟩])
  (.seq (.ops [⟨some 46, none, none, .mv (.t 2)⟩,
    ⟨some 47, none, none, .ar .eql (.t 46) (.c (.int .i64 0))⟩,
    ⟨some 48, none, none, .mv (.t 47)⟩,
    ⟨some 49, some (48, true), none, .mv (.t 4)⟩,
    ⟨some 50, some (48, true), none, .ar .eql (.t 49) (.c (.int .i64 0))⟩,
    ⟨some 51, none, none, .pick (.t 48) (.t 50) (.c (.bool false))⟩,
    ⟨some 52, none, none, .mv (.t 51)⟩,
    ⟨some 53, some (52, true), none, .mv (.t 6)⟩,
    ⟨some 54, some (52, true), none, .ar .eql (.t 53) (.c (.int .i64 0))⟩,
    ⟨some 55, none, none, .pick (.t 52) (.t 54) (.c (.bool false))⟩,
    ⟨some 56, none, none, .mv (.t 55)⟩,
    ⟨some 57, some (56, true), none, .mv (.t 8)⟩,
    ⟨some 58, some (56, true), none, .ar .eql (.t 57) (.c (.int .i64 0))⟩,
    ⟨some 59, none, none, .pick (.t 56) (.t 58) (.c (.bool false))⟩,
    ⟨some 60, none, none, .mv (.t 59)⟩,
    ⟨some 61, some (60, true), none, .mv (.t 10)⟩,
    ⟨some 62, some (60, true), none, .ar .eql (.t 61) (.c (.int .i64 0))⟩,
    ⟨some 63, none, none, .pick (.t 60) (.t 62) (.c (.bool false))⟩,
    ⟨some 64, none, none, .mv (.t 63)⟩,
    ⟨some 65, some (64, true), none, .mv (.t 12)⟩,
    ⟨some 66, some (64, true), none, .ar .eql (.t 65) (.c (.int .i64 6))⟩,
    ⟨some 67, none, none, .pick (.t 64) (.t 66) (.c (.bool false))⟩,
    ⟨some 68, none, none, .mv (.t 67)⟩,
    ⟨some 69, some (68, true), none, .mv (.t 1)⟩,
    ⟨some 70, some (68, true), none, .bld [.int .i64 0, .int .i64 0] [(0, 1, .c (.int .i64 999)), (1, 1, .c (.int .i64 1001))]⟩,
    ⟨some 71, some (68, true), none, .bld [.int .i64 0, .int .i64 0] [(0, 1, .c (.int .i64 475)), (1, 1, .c (.int .i64 491))]⟩,
    ⟨some 72, some (68, true), none, .bld [.int .i64 0, .int .i64 0] [(0, 1, .c (.int .i64 362)), (1, 1, .c (.int .i64 378))]⟩,
    ⟨some 73, some (68, true), none, .bld [.int .i64 0, .int .i64 0] [(0, 1, .c (.int .i64 148)), (1, 1, .c (.int .i64 152))]⟩,
    ⟨some 74, some (68, true), none, .bld [.int .i64 0, .int .i64 0] [(0, 1, .c (.int .i64 475)), (1, 1, .c (.int .i64 478))]⟩,
    ⟨some 75, some (68, true), none, .bld [.int .i64 0, .int .i64 0] [(0, 1, .c (.int .i64 0)), (1, 1, .c (.int .i64 16))]⟩,
    ⟨some 76, some (68, true), none, .bsl 6 [.int .i64 0, .int .i64 0, .int .i64 0, .int .i64 0, .int .i64 0, .int .i64 0, .int .i64 0, .int .i64 0, .int .i64 0, .int .i64 0, .int .i64 0, .int .i64 0] [(0, 2, .t 70), (2, 2, .t 71), (4, 2, .t 72), (6, 2, .t 73), (8, 2, .t 74), (10, 2, .t 75)]⟩,
    ⟨some 77, some (68, true), none, .call (.c (.fn 38 [] [])) [.t 69, .t 76]⟩,
    ⟨some 78, none, none, .pick (.t 68) (.t 77) (.c (.bool false))⟩,
    ⟨some 79, none, none, .mv (.t 78)⟩,
    ⟨some 80, some (79, true), none, .ld true 2 (.t 3)⟩,
    ⟨some 81, some (79, true), none, .bld [.int .i64 0, .int .i64 0] [(0, 1, .c (.int .i64 0)), (1, 1, .c (.int .i64 164))]⟩,
    ⟨some 82, some (79, true), none, .feq false 2 (.t 80) (.t 81)⟩,
    ⟨some 83, none, none, .pick (.t 79) (.t 82) (.c (.bool false))⟩,
    ⟨some 84, none, none, .mv (.t 83)⟩,
    ⟨some 85, some (84, true), none, .mv (.t 5)⟩,
    ⟨some 86, some (84, true), none, .ar .eql (.t 85) (.c (.int .i64 22))⟩,
    ⟨some 87, none, none, .pick (.t 84) (.t 86) (.c (.bool false))⟩,
    ⟨some 88, none, none, .mv (.t 87)⟩,
    ⟨some 89, some (88, true), none, .mv (.t 7)⟩,
    ⟨some 90, some (88, true), none, .bsl 5 [.int .i64 0, .int .i64 0, .int .i64 0, .int .i64 0, .int .i64 0] [(0, 1, .c (.int .i64 0)), (1, 1, .c (.int .i64 1)), (2, 1, .c (.int .i64 2)), (3, 1, .c (.int .i64 3)), (4, 1, .c (.int .i64 4))]⟩,
    ⟨some 91, some (88, true), none, .call (.c (.fn 31 [] [])) [.t 89, .t 90]⟩,
    ⟨some 92, none, none, .pick (.t 88) (.t 91) (.c (.bool false))⟩,
    ⟨some 93, none, none, .mv (.t 92)⟩,
    ⟨some 94, some (93, true), none, .mv (.t 9)⟩,
    ⟨some 95, some (93, true), none, .bsl 1 [.int .i64 0] [(0, 1, .c (.int .i64 0))]⟩,
    ⟨some 96, some (93, true), none, .call (.c (.fn 31 [] [])) [.t 94, .t 95]⟩,
    ⟨some 97, none, none, .pick (.t 93) (.t 96) (.c (.bool false))⟩,
    ⟨some 0, none, none, .mv (.t 97)⟩])
  (.ret))))))))⟩
def c18 : FD := ⟨12, [.cell 2 true 3],
  .seq (.ops [⟨some 1, none, none, .box (.t 0)⟩,
    ⟨some 2, none, none, .alc [.int .i64 0, .nils, .nils]⟩])
  (.seq (.dops [⟨some 3, none, none, .fad 0 (.t 1)⟩,
    ⟨some 4, none, some (0, 2), .ld false 1 (.t 3)⟩,
    ⟨some 5, none, none, .fad 1 (.t 1)⟩,
    ⟨some 6, none, some (0, 0), .ld false 1 (.t 5)⟩,
    ⟨some 7, none, none, .call (.c (.fn 73 [] [])) [.t 6]⟩,
    ⟨some 8, none, none, .fad 2 (.t 1)⟩,
    ⟨some 9, none, some (0, 1), .ld false 1 (.t 8)⟩,
    ⟨some 10, none, none, .call (.c (.fn 74 [] [])) [.t 9]⟩,
    ⟨some 11, none, none, .bld [.int .i64 0, .nils, .nils] [(0, 1, .t 4), (1, 1, .t 7), (2, 1, .t 10)]⟩,
    ⟨none, none, none, .sto 3 (.t 2) (.t 11)⟩])
  (.ret))⟩
def c19 : FD := ⟨44, [.cell 2 true 3],
  .seq (.ops [⟨some 1, none, none, .box (.t 0)⟩,
    ⟨some 2, none, none, .alc [.int .i64 0, .nils, .nils]⟩])
  (.seq (.ops [⟨some 8, none, none, .fad 0 (.t 1)⟩,
    ⟨some 9, none, none, .ld false 1 (.t 8)⟩,
    ⟨some 10, none, none, .bld [.int .i64 0, .nils, .nils] [(0, 1, .t 9)]⟩,
    ⟨some 3, none, none, .alc [.int .i64 0, .nils, .nils]⟩,
    ⟨none, none, none, .sto 3 (.t 3) (.t 10)⟩])
  (.seq (.seq (.ops [⟨some 11, none, none, .fad 1 (.t 1)⟩,
    ⟨some 12, none, none, .ld false 1 (.t 11)⟩,
    ⟨some 13, none, none, .len (.t 12)⟩,
    ⟨some 14, none, none, .mv (.c (.int .i64 0))⟩])
  (.block 0 (.loop (.seq (.ops [⟨some 15, none, none, .ar .lss (.t 14) (.t 13)⟩])
  (.seq (.cond (.t 15) (.skip)
  (.exit 0))
  (.seq (.block 1 (.seq (.ops [⟨some 16, none, none, .iad 2 (.t 12) (.t 14)⟩,
    ⟨some 17, none, none, .ld true 2 (.t 16)⟩,
    ⟨some 5, none, none, .alc [.int .i64 0, .int .i64 0]⟩,
    ⟨none, none, none, .sto 2 (.t 5) (.t 17)⟩])
  (.ops [⟨some 18, none, none, .fad 1 (.t 3)⟩,
    ⟨some 19, none, none, .ld false 1 (.t 18)⟩,
    ⟨some 20, none, none, .fad 0 (.t 5)⟩,
    ⟨some 21, none, none, .ld false 1 (.t 20)⟩,
    ⟨some 22, none, none, .fad 1 (.t 5)⟩,
    ⟨some 23, none, none, .ld false 1 (.t 22)⟩,
    ⟨some 24, none, none, .bld [.int .i64 0, .int .i64 0] [(0, 1, .t 21), (1, 1, .t 23)]⟩,
    ⟨some 25, none, none, .bsl 1 [.int .i64 0, .int .i64 0] [(0, 2, .t 24)]⟩,
    ⟨some 26, none, none, .app 2 16 (.t 19) (.t 25)⟩,
    ⟨some 27, none, none, .fad 1 (.t 3)⟩,
    ⟨none, none, none, .sto 1 (.t 27) (.t 26)⟩])))
  (.ops [⟨some 28, none, none, .ar .add (.t 14) (.c (.int .i64 1))⟩,
    ⟨some 14, none, none, .mv (.t 28)⟩])))))))
  (.seq (.seq (.ops [⟨some 29, none, none, .fad 2 (.t 1)⟩,
    ⟨some 30, none, none, .ld false 1 (.t 29)⟩,
    ⟨some 31, none, none, .len (.t 30)⟩,
    ⟨some 32, none, none, .mv (.c (.int .i64 0))⟩])
  (.block 2 (.loop (.seq (.ops [⟨some 33, none, none, .ar .lss (.t 32) (.t 31)⟩])
  (.seq (.cond (.t 33) (.skip)
  (.exit 2))
  (.seq (.block 3 (.seq (.ops [⟨some 34, none, none, .iad 4 (.t 30) (.t 32)⟩,
    ⟨some 35, none, none, .ld true 4 (.t 34)⟩,
    ⟨some 7, none, none, .alc [.int .i64 0, .int .i64 0, .int .i64 0, .int .i64 0]⟩,
    ⟨none, none, none, .sto 4 (.t 7) (.t 35)⟩])
  (.ops [⟨some 36, none, none, .fad 2 (.t 3)⟩,
    ⟨some 37, none, none, .ld false 1 (.t 36)⟩,
    ⟨some 38, none, none, .ld true 4 (.t 7)⟩,
    ⟨some 39, none, none, .bsl 1 [.int .i64 0, .int .i64 0, .int .i64 0, .int .i64 0] [(0, 4, .t 38)]⟩,
    ⟨some 40, none, none, .app 4 32 (.t 37) (.t 39)⟩,
    ⟨some 41, none, none, .fad 2 (.t 3)⟩,
    ⟨none, none, none, .sto 1 (.t 41) (.t 40)⟩])))
  (.ops [⟨some 42, none, none, .ar .add (.t 32) (.c (.int .i64 1))⟩,
    ⟨some 32, none, none, .mv (.t 42)⟩])))))))
  (.seq (.ops [⟨some 43, none, none, .ld true 3 (.t 3)⟩,
    ⟨none, none, none, .sto 3 (.t 2) (.t 43)⟩])
  (.ret)))))⟩
def c20 : FD := ⟨119, [.tmp 2],
  .seq (.ops [⟨some 1, none, none, .box (.t 0)⟩,
    ⟨some 2, none, none, .mv (.c (.int .i64 0))⟩])
  (.seq (.seq (.ops [⟨some 9, none, none, .fad 1 (.t 1)⟩,
    ⟨some 10, none, none, .ld false 1 (.t 9)⟩,
    ⟨some 11, none, none, .len (.t 10)⟩,
    ⟨some 12, none, none, .call (.c (.fn 75 [] [])) [.t 11, .c (.int .i64 1), .c (.int .i64 12)]⟩,
    ⟨some 13, none, none, .mv (.t 12)⟩,
    ⟨some 14, some (13, false), none, .fad 2 (.t 1)⟩,
    ⟨some 15, some (13, false), none, .ld false 1 (.t 14)⟩,
    ⟨some 16, some (13, false), none, .len (.t 15)⟩,
    ⟨some 17, some (13, false), none, .ar .gtr (.t 16) (.c (.int .i64 10))⟩,
    ⟨some 18, none, none, .pick (.t 13) (.c (.bool true)) (.t 17)⟩])
  (.cond (.t 18) (.seq (.ops [⟨some 2, none, none, .mv (.c (.int .i64 2))⟩])
  (.ret))
  (.skip)))
  (.seq (.seq (.ops [⟨some 19, none, none, .fad 0 (.t 1)⟩,
    ⟨some 20, none, none, .ld false 1 (.t 19)⟩,
    ⟨some 21, none, none, .call (.c (.fn 75 [] [])) [.t 20, .c (.int .i64 0), .c (.int .i64 50)]⟩])
  (.cond (.t 21) (.seq (.ops [⟨some 2, none, none, .mv (.c (.int .i64 3))⟩])
  (.ret))
  (.skip)))
  (.seq (.seq (.ops [⟨some 3, none, none, .mv (.c (.int .i64 0))⟩])
  (.block 0 (.loop (.seq (.seq (.ops [⟨some 22, none, none, .mv (.t 3)⟩,
    ⟨some 23, none, none, .fad 2 (.t 1)⟩,
    ⟨some 24, none, none, .ld false 1 (.t 23)⟩,
    ⟨some 25, none, none, .len (.t 24)⟩,
    ⟨some 26, none, none, .ar .lss (.t 22) (.t 25)⟩])
  (.cond (.t 26) (.skip)
  (.exit 0)))
  (.seq (.block 1 (.seq (.ops [⟨some 29, none, none, .fad 2 (.t 1)⟩,
    ⟨some 30, none, none, .ld false 1 (.t 29)⟩,
    ⟨some 31, none, none, .mv (.t 3)⟩,
    ⟨some 32, none, none, .iad 4 (.t 30) (.t 31)⟩,
    ⟨some 33, none, none, .ld true 4 (.t 32)⟩,
    ⟨some 4, none, none, .alc [.int .i64 0, .int .i64 0, .int .i64 0, .int .i64 0]⟩,
    ⟨none, none, none, .sto 4 (.t 4) (.t 33)⟩])
  (.seq (.ops [⟨some 34, none, none, .fad 1 (.t 4)⟩,
    ⟨some 35, none, none, .ld false 1 (.t 34)⟩,
    ⟨some 36, none, none, .call (.c (.fn 75 [] [])) [.t 35, .c (.int .i64 0), .c (.int .i64 10000)]⟩,
    ⟨some 37, none, none, .mv (.t 36)⟩,
    ⟨some 38, some (37, false), none, .fad 2 (.t 4)⟩,
    ⟨some 39, some (37, false), none, .fad 0 (.t 38)⟩,
    ⟨some 40, some (37, false), none, .ld false 1 (.t 39)⟩,
    ⟨some 41, some (37, false), none, .call (.c (.fn 75 [] [])) [.t 40, .c (.int .i64 0), .c (.int .i64 60)]⟩,
    ⟨some 42, none, none, .pick (.t 37) (.c (.bool true)) (.t 41)⟩,
    ⟨some 43, none, none, .mv (.t 42)⟩,
    ⟨some 44, some (43, false), none, .fad 2 (.t 4)⟩,
    ⟨some 45, some (43, false), none, .fad 1 (.t 44)⟩,
    ⟨some 46, some (43, false), none, .ld false 1 (.t 45)⟩,
    ⟨some 47, some (43, false), none, .call (.c (.fn 75 [] [])) [.t 46, .c (.int .i64 0), .c (.int .i64 60)]⟩,
    ⟨some 48, none, none, .pick (.t 43) (.c (.bool true)) (.t 47)⟩])
  (.cond (.t 48) (.seq (.ops [⟨some 2, none, none, .mv (.c (.int .i64 3))⟩])
  (.ret))
  (.skip)))))
  (.ops [⟨some 27, none, none, .mv (.t 3)⟩,
    ⟨some 28, none, none, .ar .add (.t 27) (.c (.int .i64 1))⟩,
    ⟨some 3, none, none, .mv (.t 28)⟩]))))))
  (.seq (.seq (.ops [⟨some 5, none, none, .mv (.c (.int .i64 0))⟩])
  (.block 2 (.loop (.seq (.seq (.ops [⟨some 49, none, none, .mv (.t 5)⟩,
    ⟨some 50, none, none, .fad 1 (.t 1)⟩,
    ⟨some 51, none, none, .ld false 1 (.t 50)⟩,
    ⟨some 52, none, none, .len (.t 51)⟩,
    ⟨some 53, none, none, .ar .lss (.t 49) (.t 52)⟩])
  (.cond (.t 53) (.skip)
  (.exit 2)))
  (.seq (.block 3 (.seq (.ops [⟨some 56, none, none, .fad 1 (.t 1)⟩,
    ⟨some 57, none, none, .ld false 1 (.t 56)⟩,
    ⟨some 58, none, none, .mv (.t 5)⟩,
    ⟨some 59, none, none, .iad 2 (.t 57) (.t 58)⟩,
    ⟨some 60, none, none, .fad 1 (.t 59)⟩,
    ⟨some 61, none, none, .ld false 1 (.t 60)⟩,
    ⟨some 62, none, none, .call (.c (.fn 75 [] [])) [.t 61, .c (.int .i64 0), .c (.int .i64 3)]⟩])
  (.cond (.t 62) (.seq (.ops [⟨some 2, none, none, .mv (.c (.int .i64 3))⟩])
  (.ret))
  (.skip))))
  (.ops [⟨some 54, none, none, .mv (.t 5)⟩,
    ⟨some 55, none, none, .ar .add (.t 54) (.c (.int .i64 1))⟩,
    ⟨some 5, none, none, .mv (.t 55)⟩]))))))
  (.seq (.seq (.ops [⟨some 6, none, none, .mv (.c (.int .i64 0))⟩])
  (.block 4 (.loop (.seq (.seq (.ops [⟨some 63, none, none, .mv (.t 6)⟩,
    ⟨some 64, none, none, .fad 1 (.t 1)⟩,
    ⟨some 65, none, none, .ld false 1 (.t 64)⟩,
    ⟨some 66, none, none, .len (.t 65)⟩,
    ⟨some 67, none, none, .ar .lss (.t 63) (.t 66)⟩])
  (.cond (.t 67) (.skip)
  (.exit 4)))
  (.seq (.block 5 (.seq (.ops [⟨some 70, none, none, .fad 1 (.t 1)⟩,
    ⟨some 71, none, none, .ld false 1 (.t 70)⟩,
    ⟨some 72, none, none, .mv (.t 6)⟩,
    ⟨some 73, none, none, .iad 2 (.t 71) (.t 72)⟩,
    ⟨some 74, none, none, .fad 0 (.t 73)⟩,
    ⟨some 75, none, none, .ld false 1 (.t 74)⟩,
    ⟨some 76, none, none, .mv (.t 6)⟩,
    ⟨some 77, none, none, .ar .sub (.t 76) (.c (.int .i64 1))⟩,
    ⟨some 78, none, none, .call (.c (.fn 75 [] [])) [.t 75, .c (.int .i64 (-1)), .t 77]⟩])
  (.cond (.t 78) (.seq (.ops [⟨some 2, none, none, .mv (.c (.int .i64 1))⟩])
  (.ret))
  (.skip))))
  (.ops [⟨some 68, none, none, .mv (.t 6)⟩,
    ⟨some 69, none, none, .ar .add (.t 68) (.c (.int .i64 1))⟩,
    ⟨some 6, none, none, .mv (.t 69)⟩]))))))
  (.seq (.seq (.ops [⟨some 7, none, none, .mv (.c (.int .i64 0))⟩])
  (.block 6 (.loop (.seq (.seq (.ops [⟨some 79, none, none, .mv (.t 7)⟩,
    ⟨some 80, none, none, .fad 2 (.t 1)⟩,
    ⟨some 81, none, none, .ld false 1 (.t 80)⟩,
    ⟨some 82, none, none, .len (.t 81)⟩,
    ⟨some 83, none, none, .ar .lss (.t 79) (.t 82)⟩])
  (.cond (.t 83) (.skip)
  (.exit 6)))
  (.seq (.block 7 (.seq (.dops [⟨some 86, none, none, .fad 2 (.t 1)⟩,
    ⟨some 87, none, some (0, 0), .ld false 1 (.t 86)⟩,
    ⟨some 88, none, none, .mv (.t 7)⟩,
    ⟨some 89, none, none, .iad 4 (.t 87) (.t 88)⟩,
    ⟨some 90, none, none, .fad 0 (.t 89)⟩,
    ⟨some 91, none, some (0, 0), .ld false 1 (.t 90)⟩,
    ⟨some 92, none, none, .fad 1 (.t 1)⟩,
    ⟨some 93, none, some (0, 0), .ld false 1 (.t 92)⟩,
    ⟨some 94, none, none, .len (.t 93)⟩,
    ⟨some 95, none, none, .ar .sub (.t 94) (.c (.int .i64 1))⟩,
    ⟨some 96, none, none, .call (.c (.fn 75 [] [])) [.t 91, .c (.int .i64 0), .t 95]⟩])
  (.cond (.t 96) (.seq (.ops [⟨some 2, none, none, .mv (.c (.int .i64 1))⟩])
  (.ret))
  (.skip))))
  (.ops [⟨some 84, none, none, .mv (.t 7)⟩,
    ⟨some 85, none, none, .ar .add (.t 84) (.c (.int .i64 1))⟩,
    ⟨some 7, none, none, .mv (.t 85)⟩]))))))
  (.seq (.seq (.ops [⟨some 8, none, none, .mv (.c (.int .i64 0))⟩])
  (.block 8 (.loop (.seq (.seq (.ops [⟨some 97, none, none, .mv (.t 8)⟩,
    ⟨some 98, none, none, .fad 2 (.t 1)⟩,
    ⟨some 99, none, none, .ld false 1 (.t 98)⟩,
    ⟨some 100, none, none, .len (.t 99)⟩,
    ⟨some 101, none, none, .ar .lss (.t 97) (.t 100)⟩])
  (.cond (.t 101) (.skip)
  (.exit 8)))
  (.seq (.block 9 (.seq (.dops [⟨some 104, none, none, .fad 2 (.t 1)⟩,
    ⟨some 105, none, some (0, 0), .ld false 1 (.t 104)⟩,
    ⟨some 106, none, none, .mv (.t 8)⟩,
    ⟨some 107, none, none, .iad 4 (.t 105) (.t 106)⟩,
    ⟨some 108, none, none, .fad 2 (.t 107)⟩,
    ⟨some 109, none, none, .fad 0 (.t 108)⟩,
    ⟨some 110, none, some (0, 0), .ld false 1 (.t 109)⟩,
    ⟨some 111, none, none, .fad 2 (.t 1)⟩,
    ⟨some 112, none, some (0, 0), .ld false 1 (.t 111)⟩,
    ⟨some 113, none, none, .mv (.t 8)⟩,
    ⟨some 114, none, none, .iad 4 (.t 112) (.t 113)⟩,
    ⟨some 115, none, none, .fad 2 (.t 114)⟩,
    ⟨some 116, none, none, .fad 1 (.t 115)⟩,
    ⟨some 117, none, some (0, 0), .ld false 1 (.t 116)⟩,
    ⟨some 118, none, none, .ar .gtr (.t 110) (.t 117)⟩])
  (.cond (.t 118) (.seq (.ops [⟨some 2, none, none, .mv (.c (.int .i64 4))⟩])
  (.ret))
  (.skip))))
  (.ops [⟨some 102, none, none, .mv (.t 8)⟩,
    ⟨some 103, none, none, .ar .add (.t 102) (.c (.int .i64 1))⟩,
    ⟨some 8, none, none, .mv (.t 103)⟩]))))))
  (.seq (.ops [⟨some 2, none, none, .mv (.c (.int .i64 0))⟩])
  (.ret)))))))))⟩
def c21 : FD := ⟨26, [.tmp 4],
  .seq (.ops [⟨some 2, none, none, .box (.t 0)⟩,
    ⟨some 4, none, none, .mv (.c (.bool false))⟩])
  (.seq (.seq (.ops [⟨some 5, none, none, .mv (.c (.int .i64 0))⟩])
  (.block 0 (.loop (.seq (.seq (.ops [⟨some 9, none, none, .mv (.t 5)⟩,
    ⟨some 10, none, none, .fad 1 (.t 2)⟩,
    ⟨some 11, none, none, .ld false 1 (.t 10)⟩,
    ⟨some 12, none, none, .len (.t 11)⟩,
    ⟨some 13, none, none, .ar .lss (.t 9) (.t 12)⟩])
  (.cond (.t 13) (.skip)
  (.exit 0)))
  (.seq (.block 1 (.seq (.ops [⟨some 17, none, none, .ld true 3 (.t 2)⟩,
    ⟨some 18, none, none, .mv (.t 1)⟩,
    ⟨some 19, none, none, .mv (.t 5)⟩,
    ⟨some 20, none, none, .call (.c (.fn 76 [] [])) [.t 17, .t 18, .t 19]⟩,
    ⟨some 16, none, none, .mv (.t 20)⟩,
    ⟨some 21, none, none, .ext (.t 16) 0⟩,
    ⟨some 22, none, none, .ext (.t 16) 1⟩,
    ⟨some 23, none, none, .ext (.t 16) 2⟩,
    ⟨some 6, none, none, .mv (.t 21)⟩,
    ⟨some 7, none, none, .mv (.t 22)⟩,
    ⟨some 8, none, none, .mv (.t 23)⟩])
  (.seq (.ops [⟨some 24, none, none, .mv (.t 8)⟩,
    ⟨some 25, none, none, .not (.t 24)⟩])
  (.cond (.t 25) (.seq (.ops [⟨some 4, none, none, .mv (.c (.bool false))⟩])
  (.ret))
  (.skip)))))
  (.ops [⟨some 14, none, none, .mv (.t 5)⟩,
    ⟨some 15, none, none, .ar .add (.t 14) (.c (.int .i64 1))⟩,
    ⟨some 5, none, none, .mv (.t 15)⟩]))))))
  (.seq (.ops [⟨some 4, none, none, .mv (.c (.bool true))⟩])
  (.ret)))⟩
def c22 : FD := ⟨19, [.tmp 2],
  .seq (.ops [⟨some 1, none, none, .box (.t 0)⟩,
    ⟨some 2, none, none, .mv (.c (.nils))⟩])
  (.seq (.ops [⟨some 5, none, none, .fad 2 (.t 1)⟩,
    ⟨some 6, none, none, .ld false 1 (.t 5)⟩,
    ⟨some 7, none, none, .len (.t 6)⟩,
    ⟨some 8, none, none, .msl 1 1 [.bool false] (.t 7) (.t 7)⟩,
    ⟨some 3, none, none, .mv (.t 8)⟩])
  (.seq (.seq (.ops [⟨some 4, none, none, .mv (.c (.int .i64 0))⟩])
  (.block 0 (.loop (.seq (.seq (.ops [⟨some 9, none, none, .mv (.t 4)⟩,
    ⟨some 10, none, none, .mv (.t 3)⟩,
    ⟨some 11, none, none, .len (.t 10)⟩,
    ⟨some 12, none, none, .ar .lss (.t 9) (.t 11)⟩])
  (.cond (.t 12) (.skip)
  (.exit 0)))
  (.seq (.block 1 (.ops [⟨some 15, none, none, .mv (.t 3)⟩,
    ⟨some 16, none, none, .mv (.t 4)⟩,
    ⟨some 17, none, none, .iad 1 (.t 15) (.t 16)⟩,
    ⟨none, none, none, .sto 1 (.t 17) (.c (.bool true))⟩]))
  (.ops [⟨some 13, none, none, .mv (.t 4)⟩,
    ⟨some 14, none, none, .ar .add (.t 13) (.c (.int .i64 1))⟩,
    ⟨some 4, none, none, .mv (.t 14)⟩]))))))
  (.seq (.ops [⟨some 18, none, none, .mv (.t 3)⟩,
    ⟨some 2, none, none, .mv (.t 18)⟩])
  (.ret))))⟩
def c23 : FD := ⟨84, [.cell 4 true 2],
  .seq (.ops [⟨some 2, none, none, .box (.t 0)⟩,
    ⟨some 4, none, none, .alc [.int .i64 0, .int .i64 0]⟩])
  (.seq (.dops [⟨some 18, none, some (0, 1), .ld true 3 (.t 2)⟩,
    ⟨some 19, none, some (0, 0), .ld true 3 (.t 2)⟩,
    ⟨some 20, none, none, .call (.c (.fn 22 [] [])) [.t 19]⟩,
    ⟨some 21, none, none, .mv (.t 1)⟩,
    ⟨some 22, none, none, .call (.c (.fn 76 [] [])) [.t 18, .t 20, .t 21]⟩,
    ⟨some 17, none, none, .mv (.t 22)⟩,
    ⟨some 23, none, none, .ext (.t 17) 0⟩,
    ⟨some 24, none, none, .ext (.t 17) 1⟩,
    ⟨some 25, none, none, .ext (.t 17) 2⟩,
    ⟨some 5, none, none, .mv (.t 23)⟩,
    ⟨some 6, none, none, .mv (.t 24)⟩,
    ⟨some 7, none, none, .mv (.t 25)⟩])
  (.seq (.ops [⟨some 26, none, none, .fad 1 (.t 2)⟩,
    ⟨some 27, none, none, .ld false 1 (.t 26)⟩,
    ⟨some 28, none, none, .mv (.t 1)⟩,
    ⟨some 29, none, none, .iad 2 (.t 27) (.t 28)⟩,
    ⟨some 30, none, none, .fad 0 (.t 29)⟩,
    ⟨some 31, none, none, .ld false 1 (.t 30)⟩,
    ⟨some 8, none, none, .mv (.t 31)⟩])
  (.seq (.seq (.ops [⟨some 32, none, none, .mv (.t 8)⟩,
    ⟨some 33, none, none, .ar .lss (.t 32) (.c (.int .i64 0))⟩])
  (.cond (.t 33) (.seq (.ops [⟨some 34, none, none, .mv (.t 5)⟩,
    ⟨some 35, none, none, .mv (.t 6)⟩,
    ⟨some 36, none, none, .bld [.int .i64 0, .int .i64 0] [(0, 1, .t 34), (1, 1, .t 35)]⟩,
    ⟨none, none, none, .sto 2 (.t 4) (.t 36)⟩])
  (.ret))
  (.skip)))
  (.seq (.ops [⟨some 37, none, none, .ld true 3 (.t 2)⟩,
    ⟨some 38, none, none, .mv (.t 8)⟩,
    ⟨some 39, none, none, .call (.c (.fn 23 [] [])) [.t 37, .t 38]⟩,
    ⟨some 9, none, none, .alc [.int .i64 0, .int .i64 0]⟩,
    ⟨none, none, none, .sto 2 (.t 9) (.t 39)⟩])
  (.seq (.dops [⟨some 40, none, none, .fad 0 (.t 9)⟩,
    ⟨some 41, none, some (0, 0), .ld false 1 (.t 40)⟩,
    ⟨some 42, none, none, .fad 1 (.t 9)⟩,
    ⟨some 43, none, some (0, 0), .ld false 1 (.t 42)⟩,
    ⟨some 10, none, none, .mv (.t 41)⟩,
    ⟨some 11, none, none, .mv (.t 43)⟩])
  (.seq (.ops [⟨some 44, none, none, .ld true 3 (.t 2)⟩,
    ⟨some 45, none, none, .mv (.t 8)⟩,
    ⟨some 46, none, none, .call (.c (.fn 55 [] [])) [.t 44, .t 45]⟩,
    ⟨some 12, none, none, .mv (.t 46)⟩])
  (.seq (.seq (.ops [⟨some 13, none, none, .mv (.c (.int .i64 0))⟩])
  (.block 0 (.loop (.seq (.seq (.ops [⟨some 47, none, none, .mv (.t 13)⟩,
    ⟨some 48, none, none, .mv (.t 12)⟩,
    ⟨some 49, none, none, .len (.t 48)⟩,
    ⟨some 50, none, none, .ar .lss (.t 47) (.t 49)⟩])
  (.cond (.t 50) (.skip)
  (.exit 0)))
  (.seq (.block 1 (.seq (.ops [⟨some 53, none, none, .mv (.t 12)⟩,
    ⟨some 54, none, none, .mv (.t 13)⟩,
    ⟨some 55, none, none, .iad 1 (.t 53) (.t 54)⟩,
    ⟨some 56, none, none, .ld false 1 (.t 55)⟩,
    ⟨some 57, none, none, .mv (.t 1)⟩,
    ⟨some 58, none, none, .ar .neq (.t 56) (.t 57)⟩])
  (.cond (.t 58) (.seq (.dops [⟨some 60, none, some (0, 1), .ld true 3 (.t 2)⟩,
    ⟨some 61, none, some (0, 0), .ld true 3 (.t 2)⟩,
    ⟨some 62, none, none, .call (.c (.fn 22 [] [])) [.t 61]⟩,
    ⟨some 63, none, none, .mv (.t 12)⟩,
    ⟨some 64, none, none, .mv (.t 13)⟩,
    ⟨some 65, none, none, .iad 1 (.t 63) (.t 64)⟩,
    ⟨some 66, none, some (0, 1), .ld false 1 (.t 65)⟩,
    ⟨some 67, none, none, .call (.c (.fn 76 [] [])) [.t 60, .t 62, .t 66]⟩,
    ⟨some 59, none, none, .mv (.t 67)⟩,
    ⟨some 68, none, none, .ext (.t 59) 0⟩,
    ⟨some 69, none, none, .ext (.t 59) 1⟩,
    ⟨some 70, none, none, .ext (.t 59) 2⟩,
    ⟨some 14, none, none, .mv (.t 68)⟩,
    ⟨some 15, none, none, .mv (.t 69)⟩,
    ⟨some 16, none, none, .mv (.t 70)⟩])
  (.ops [⟨some 71, none, none, .mv (.t 10)⟩,
    ⟨some 72, none, none, .mv (.t 15)⟩,
    ⟨some 73, none, none, .ar .sub (.t 71) (.t 72)⟩,
    ⟨some 74, none, none, .mv (.t 11)⟩,
    ⟨some 75, none, none, .mv (.t 14)⟩,
    ⟨some 76, none, none, .ar .sub (.t 74) (.t 75)⟩,
    ⟨some 10, none, none, .mv (.t 73)⟩,
    ⟨some 11, none, none, .mv (.t 76)⟩]))
  (.skip))))
  (.ops [⟨some 51, none, none, .mv (.t 13)⟩,
    ⟨some 52, none, none, .ar .add (.t 51) (.c (.int .i64 1))⟩,
    ⟨some 13, none, none, .mv (.t 52)⟩]))))))
  (.seq (.ops [⟨some 77, none, none, .mv (.t 5)⟩,
    ⟨some 78, none, none, .mv (.t 10)⟩,
    ⟨some 79, none, none, .mx [.t 77, .t 78]⟩,
    ⟨some 80, none, none, .mv (.t 6)⟩,
    ⟨some 81, none, none, .mv (.t 11)⟩,
    ⟨some 82, none, none, .mn [.t 80, .t 81]⟩,
    ⟨some 83, none, none, .bld [.int .i64 0, .int .i64 0] [(0, 1, .t 79), (1, 1, .t 82)]⟩,
    ⟨none, none, none, .sto 2 (.t 4) (.t 83)⟩])
  (.ret)))))))))⟩
def c24 : FD := ⟨79, [.cell 6 true 2],
  .seq (.ops [⟨some 3, none, none, .box (.t 0)⟩,
    ⟨some 6, none, none, .alc [.int .i64 0, .int .i64 0]⟩])
  (.seq (.ops [⟨some 7, none, none, .alc [.int .i64 0, .int .i64 0]⟩])
  (.seq (.seq (.ops [⟨some 8, none, none, .mv (.c (.int .i64 0))⟩])
  (.block 0 (.loop (.seq (.seq (.ops [⟨some 14, none, none, .mv (.t 8)⟩,
    ⟨some 15, none, none, .fad 1 (.t 3)⟩,
    ⟨some 16, none, none, .ld false 1 (.t 15)⟩,
    ⟨some 17, none, none, .len (.t 16)⟩,
    ⟨some 18, none, none, .ar .lss (.t 14) (.t 17)⟩])
  (.cond (.t 18) (.skip)
  (.exit 0)))
  (.seq (.block 1 (.seq (.seq (.ops [⟨some 21, none, none, .fad 1 (.t 3)⟩,
    ⟨some 22, none, none, .ld false 1 (.t 21)⟩,
    ⟨some 23, none, none, .mv (.t 8)⟩,
    ⟨some 24, none, none, .iad 2 (.t 22) (.t 23)⟩,
    ⟨some 25, none, none, .fad 0 (.t 24)⟩,
    ⟨some 26, none, none, .ld false 1 (.t 25)⟩,
    ⟨some 27, none, none, .ar .geq (.t 26) (.c (.int .i64 0))⟩])
  (.cond (.t 27) (.exit 1)
  (.skip)))
  (.seq (.ops [⟨some 29, none, none, .ld true 3 (.t 3)⟩,
    ⟨some 30, none, none, .mv (.t 8)⟩,
    ⟨some 31, none, none, .mv (.t 1)⟩,
    ⟨some 32, none, none, .mv (.t 2)⟩,
    ⟨some 33, none, none, .call (.c (.fn 77 [] [])) [.t 29, .t 30, .t 31, .t 32]⟩,
    ⟨some 28, none, none, .mv (.t 33)⟩,
    ⟨some 34, none, none, .ext (.t 28) 0⟩,
    ⟨some 35, none, none, .ext (.t 28) 1⟩,
    ⟨some 9, none, none, .mv (.t 34)⟩,
    ⟨some 10, none, none, .mv (.t 35)⟩])
  (.seq (.ops [⟨some 11, none, none, .mv (.c (.int .i64 (-1)))⟩,
    ⟨some 12, none, none, .mv (.c (.int .i64 (-1)))⟩])
  (.seq (.seq (.ops [⟨some 13, none, none, .mv (.c (.int .i64 0))⟩])
  (.block 2 (.loop (.seq (.seq (.ops [⟨some 36, none, none, .mv (.t 13)⟩,
    ⟨some 37, none, none, .mv (.t 2)⟩,
    ⟨some 38, none, none, .ar .leq (.t 36) (.t 37)⟩])
  (.cond (.t 38) (.skip)
  (.exit 2)))
  (.seq (.block 3 (.seq (.seq (.ops [⟨some 41, none, none, .mv (.t 9)⟩,
    ⟨some 42, none, none, .mv (.t 13)⟩,
    ⟨some 43, none, none, .iad 1 (.t 41) (.t 42)⟩,
    ⟨some 44, none, none, .ld false 1 (.t 43)⟩,
    ⟨some 45, none, none, .ar .geq (.t 44) (.c (.int .i64 0))⟩,
    ⟨some 46, none, none, .mv (.t 45)⟩,
    ⟨some 47, some (46, true), none, .mv (.t 11)⟩,
    ⟨some 48, some (46, true), none, .ar .lss (.t 47) (.c (.int .i64 0))⟩,
    ⟨some 49, some (46, true), none, .mv (.t 48)⟩,
    ⟨some 50, some (49, false), none, .mv (.t 9)⟩,
    ⟨some 51, some (49, false), none, .mv (.t 13)⟩,
    ⟨some 52, some (49, false), none, .iad 1 (.t 50) (.t 51)⟩,
    ⟨some 53, some (49, false), none, .ld false 1 (.t 52)⟩,
    ⟨some 54, some (49, false), none, .mv (.t 11)⟩,
    ⟨some 55, some (49, false), none, .ar .lss (.t 53) (.t 54)⟩,
    ⟨some 56, some (46, true), none, .pick (.t 49) (.c (.bool true)) (.t 55)⟩,
    ⟨some 57, none, none, .pick (.t 46) (.t 56) (.c (.bool false))⟩])
  (.cond (.t 57) (.ops [⟨some 58, none, none, .mv (.t 9)⟩,
    ⟨some 59, none, none, .mv (.t 13)⟩,
    ⟨some 60, none, none, .iad 1 (.t 58) (.t 59)⟩,
    ⟨some 61, none, none, .ld false 1 (.t 60)⟩,
    ⟨some 11, none, none, .mv (.t 61)⟩])
  (.skip)))
  (.ops [⟨some 62, none, none, .mv (.t 12)⟩,
    ⟨some 63, none, none, .mv (.t 10)⟩,
    ⟨some 64, none, none, .mv (.t 13)⟩,
    ⟨some 65, none, none, .iad 1 (.t 63) (.t 64)⟩,
    ⟨some 66, none, none, .ld false 1 (.t 65)⟩,
    ⟨some 67, none, none, .mx [.t 62, .t 66]⟩,
    ⟨some 12, none, none, .mv (.t 67)⟩])))
  (.ops [⟨some 39, none, none, .mv (.t 13)⟩,
    ⟨some 40, none, none, .ar .add (.t 39) (.c (.int .i64 1))⟩,
    ⟨some 13, none, none, .mv (.t 40)⟩]))))))
  (.ops [⟨some 68, none, none, .fad 0 (.t 7)⟩,
    ⟨some 69, none, none, .ld false 1 (.t 68)⟩,
    ⟨some 70, none, none, .mv (.t 11)⟩,
    ⟨some 71, none, none, .ar .add (.t 69) (.t 70)⟩,
    ⟨some 72, none, none, .fad 1 (.t 7)⟩,
    ⟨some 73, none, none, .ld false 1 (.t 72)⟩,
    ⟨some 74, none, none, .mv (.t 12)⟩,
    ⟨some 75, none, none, .ar .add (.t 73) (.t 74)⟩,
    ⟨some 76, none, none, .fad 0 (.t 7)⟩,
    ⟨none, none, none, .sto 1 (.t 76) (.t 71)⟩,
    ⟨some 77, none, none, .fad 1 (.t 7)⟩,
    ⟨none, none, none, .sto 1 (.t 77) (.t 75)⟩]))))))
  (.ops [⟨some 19, none, none, .mv (.t 8)⟩,
    ⟨some 20, none, none, .ar .add (.t 19) (.c (.int .i64 1))⟩,
    ⟨some 8, none, none, .mv (.t 20)⟩]))))))
  (.seq (.ops [⟨some 78, none, none, .ld true 2 (.t 7)⟩,
    ⟨none, none, none, .sto 2 (.t 6) (.t 78)⟩])
  (.ret))))⟩
def c25 : FD := ⟨74, [.cell 4 true 2, .tmp 5],
  .seq (.ops [⟨some 2, none, none, .box (.t 0)⟩,
    ⟨some 3, none, none, .box (.t 1)⟩,
    ⟨some 4, none, none, .alc [.int .i64 0, .int .i64 0]⟩,
    ⟨some 5, none, none, .mv (.c (.int .i64 0))⟩])
  (.seq (.seq (.ops [⟨some 17, none, none, .ld true 3 (.t 2)⟩,
    ⟨some 18, none, none, .call (.c (.fn 54 [] [])) [.t 17]⟩,
    ⟨some 6, none, none, .mv (.t 18)⟩])
  (.seq (.ops [⟨some 19, none, none, .mv (.t 6)⟩,
    ⟨some 20, none, none, .ar .neq (.t 19) (.c (.int .i64 0))⟩])
  (.cond (.t 20) (.seq (.ops [⟨some 21, none, none, .bld [.int .i64 0, .int .i64 0] []⟩,
    ⟨some 22, none, none, .mv (.t 6)⟩,
    ⟨none, none, none, .sto 2 (.t 4) (.t 21)⟩,
    ⟨some 5, none, none, .mv (.t 22)⟩])
  (.ret))
  (.skip))))
  (.seq (.seq (.ops [⟨some 23, none, none, .ld false 1 (.t 3)⟩,
    ⟨some 24, none, none, .call (.c (.fn 78 [] [])) [.t 23]⟩,
    ⟨some 25, none, none, .not (.t 24)⟩])
  (.cond (.t 25) (.seq (.ops [⟨some 26, none, none, .bld [.int .i64 0, .int .i64 0] []⟩,
    ⟨none, none, none, .sto 2 (.t 4) (.t 26)⟩,
    ⟨some 5, none, none, .mv (.c (.int .i64 3))⟩])
  (.ret))
  (.skip)))
  (.seq (.ops [⟨some 28, none, none, .ld true 3 (.t 2)⟩,
    ⟨some 29, none, none, .call (.c (.fn 79 [] [])) [.t 28]⟩,
    ⟨some 27, none, none, .mv (.t 29)⟩,
    ⟨some 30, none, none, .ext (.t 27) 0⟩,
    ⟨some 31, none, none, .ext (.t 27) 1⟩,
    ⟨some 32, none, none, .ext (.t 27) 2⟩,
    ⟨some 8, none, none, .alc [.int .i64 0, .int .i64 0, .int .i64 0, .int .i64 0, .int .i64 0, .int .i64 0, .int .i64 0, .int .i64 0, .int .i64 0, .int .i64 0, .int .i64 0, .int .i64 0, .int .i64 0, .int .i64 0, .int .i64 0, .int .i64 0, .int .i64 0, .int .i64 0, .int .i64 0, .int .i64 0, .int .i64 0, .int .i64 0, .int .i64 0, .int .i64 0]⟩,
    ⟨some 7, none, none, .mv (.t 30)⟩,
    ⟨none, none, none, .sto 24 (.t 8) (.t 31)⟩,
    ⟨some 9, none, none, .mv (.t 32)⟩])
  (.seq (.seq (.ops [⟨some 33, none, none, .mv (.t 9)⟩,
    ⟨some 34, none, none, .ar .neq (.t 33) (.c (.int .i64 0))⟩])
  (.cond (.t 34) (.seq (.ops [⟨some 35, none, none, .bld [.int .i64 0, .int .i64 0] []⟩,
    ⟨some 36, none, none, .mv (.t 9)⟩,
    ⟨none, none, none, .sto 2 (.t 4) (.t 35)⟩,
    ⟨some 5, none, none, .mv (.t 36)⟩])
  (.ret))
  (.skip)))
  (.seq (.ops [⟨some 10, none, none, .alc [.int .i64 0, .int .i64 0]⟩])
  (.seq (.seq (.ops [⟨some 37, none, none, .mv (.t 7)⟩,
    ⟨some 38, none, none, .chk (.t 37)⟩,
    ⟨some 39, none, none, .fad 3 (.t 38)⟩,
    ⟨some 40, none, none, .ld false 1 (.t 39)⟩,
    ⟨some 41, none, none, .lkp none (.nils) (.t 40) (.c (.int .i64 (-1))) false⟩,
    ⟨some 42, none, none, .len (.t 41)⟩,
    ⟨some 43, none, none, .mv (.c (.int .i64 0))⟩])
  (.block 0 (.loop (.seq (.ops [⟨some 44, none, none, .ar .lss (.t 43) (.t 42)⟩])
  (.seq (.cond (.t 44) (.skip)
  (.exit 0))
  (.seq (.block 1 (.seq (.ops [⟨some 45, none, none, .iad 1 (.t 41) (.t 43)⟩,
    ⟨some 46, none, none, .ld false 1 (.t 45)⟩,
    ⟨some 12, none, none, .mv (.t 46)⟩])
  (.seq (.ops [⟨some 48, none, none, .mv (.t 7)⟩,
    ⟨some 49, none, none, .ld true 24 (.t 8)⟩,
    ⟨some 50, none, none, .mv (.t 12)⟩,
    ⟨some 51, none, none, .mkf 81 [] [.t 3]⟩,
    ⟨some 52, none, none, .call (.c (.fn 80 [] [])) [.t 48, .t 49, .t 50, .t 51]⟩,
    ⟨some 47, none, none, .mv (.t 52)⟩,
    ⟨some 53, none, none, .ext (.t 47) 0⟩,
    ⟨some 54, none, none, .ext (.t 47) 1⟩,
    ⟨some 13, none, none, .mv (.t 53)⟩,
    ⟨some 14, none, none, .mv (.t 54)⟩])
  (.seq (.ops [⟨some 56, none, none, .mv (.t 7)⟩,
    ⟨some 57, none, none, .ld true 24 (.t 8)⟩,
    ⟨some 58, none, none, .mv (.t 12)⟩,
    ⟨some 59, none, none, .mkf 82 [] [.t 3]⟩,
    ⟨some 60, none, none, .call (.c (.fn 80 [] [])) [.t 56, .t 57, .t 58, .t 59]⟩,
    ⟨some 55, none, none, .mv (.t 60)⟩,
    ⟨some 61, none, none, .ext (.t 55) 0⟩,
    ⟨some 62, none, none, .ext (.t 55) 1⟩,
    ⟨some 15, none, none, .mv (.t 61)⟩,
    ⟨some 16, none, none, .mv (.t 62)⟩])
  (.ops [⟨some 63, none, none, .fad 0 (.t 10)⟩,
    ⟨some 64, none, none, .ld false 1 (.t 63)⟩,
    ⟨some 65, none, none, .mv (.t 13)⟩,
    ⟨some 66, none, none, .ar .add (.t 64) (.t 65)⟩,
    ⟨some 67, none, none, .fad 1 (.t 10)⟩,
    ⟨some 68, none, none, .ld false 1 (.t 67)⟩,
    ⟨some 69, none, none, .mv (.t 16)⟩,
    ⟨some 70, none, none, .ar .add (.t 68) (.t 69)⟩,
    ⟨some 71, none, none, .bld [.int .i64 0, .int .i64 0] [(0, 1, .t 66), (1, 1, .t 70)]⟩,
    ⟨none, none, none, .sto 2 (.t 10) (.t 71)⟩])))))
  (.ops [⟨some 72, none, none, .ar .add (.t 43) (.c (.int .i64 1))⟩,
    ⟨some 43, none, none, .mv (.t 72)⟩])))))))
  (.seq (.ops [⟨some 73, none, none, .ld true 2 (.t 10)⟩,
    ⟨none, none, none, .sto 2 (.t 4) (.t 73)⟩,
    ⟨some 5, none, none, .mv (.c (.int .i64 0))⟩])
  (.ret))))))))⟩
def c26 : FD := ⟨24, [.tmp 4],
  .seq (.ops [⟨some 2, none, none, .box (.t 0)⟩,
    ⟨some 3, none, none, .box (.t 1)⟩,
    ⟨some 4, none, none, .mv (.c (.bool false))⟩])
  (.seq (.ops [⟨some 5, none, none, .fad 0 (.t 2)⟩,
    ⟨some 6, none, none, .ld false 1 (.t 5)⟩,
    ⟨some 7, none, none, .fad 0 (.t 3)⟩,
    ⟨some 8, none, none, .ld false 1 (.t 7)⟩,
    ⟨some 9, none, none, .ar .eql (.t 6) (.t 8)⟩,
    ⟨some 10, none, none, .mv (.t 9)⟩,
    ⟨some 11, some (10, true), none, .fad 1 (.t 2)⟩,
    ⟨some 12, some (10, true), none, .ld false 1 (.t 11)⟩,
    ⟨some 13, some (10, true), none, .fad 1 (.t 3)⟩,
    ⟨some 14, some (10, true), none, .ld false 1 (.t 13)⟩,
    ⟨some 15, some (10, true), none, .call (.c (.fn 83 [] [])) [.t 12, .t 14]⟩,
    ⟨some 16, none, none, .pick (.t 10) (.t 15) (.c (.bool false))⟩,
    ⟨some 17, none, none, .mv (.t 16)⟩,
    ⟨some 18, some (17, true), none, .fad 2 (.t 2)⟩,
    ⟨some 19, some (17, true), none, .ld false 1 (.t 18)⟩,
    ⟨some 20, some (17, true), none, .fad 2 (.t 3)⟩,
    ⟨some 21, some (17, true), none, .ld false 1 (.t 20)⟩,
    ⟨some 22, some (17, true), none, .call (.c (.fn 84 [] [])) [.t 19, .t 21]⟩,
    ⟨some 23, none, none, .pick (.t 17) (.t 22) (.c (.bool false))⟩,
    ⟨some 4, none, none, .mv (.t 23)⟩])
  (.ret))⟩
def c27 : FD := ⟨8, [.tmp 2],
  .seq (.ops [⟨some 2, none, none, .mv (.c (.nils))⟩])
  (.seq (.ops [⟨some 3, none, none, .mv (.t 0)⟩,
    ⟨some 4, none, none, .len (.t 3)⟩,
    ⟨some 5, none, none, .msl 1 8 [.int .i64 0] (.c (.int .i64 0)) (.t 4)⟩,
    ⟨some 6, none, none, .mv (.t 0)⟩,
    ⟨some 7, none, none, .app 1 8 (.t 5) (.t 6)⟩,
    ⟨some 2, none, none, .mv (.t 7)⟩])
  (.ret))⟩
def c28 : FD := ⟨170, [.tmp 8, .tmp 9],
  .seq (.ops [⟨some 4, none, none, .box (.t 0)⟩,
    ⟨some 8, none, none, .mv (.c (.int .i64 0))⟩,
    ⟨some 9, none, none, .mv (.c (.int .i64 0))⟩])
  (.seq (.seq (.ops [⟨some 24, none, none, .mv (.t 1)⟩,
    ⟨some 25, none, none, .fad 1 (.t 4)⟩,
    ⟨some 26, none, none, .ld false 1 (.t 25)⟩,
    ⟨some 27, none, none, .len (.t 26)⟩,
    ⟨some 28, none, none, .ar .sub (.t 27) (.c (.int .i64 1))⟩,
    ⟨some 29, none, none, .call (.c (.fn 75 [] [])) [.t 24, .c (.int .i64 0), .t 28]⟩])
  (.cond (.t 29) (.seq (.ops [⟨some 8, none, none, .mv (.c (.int .i64 0))⟩,
    ⟨some 9, none, none, .mv (.c (.int .i64 1))⟩])
  (.ret))
  (.skip)))
  (.seq (.ops [⟨some 30, none, none, .bsl 0 [] []⟩,
    ⟨some 31, none, none, .mv (.t 2)⟩,
    ⟨some 32, none, none, .app 1 8 (.t 30) (.t 31)⟩,
    ⟨some 33, none, none, .mv (.t 3)⟩,
    ⟨some 34, none, none, .app 1 8 (.t 32) (.t 33)⟩,
    ⟨some 10, none, none, .mv (.t 34)⟩])
  (.seq (.seq (.ops [⟨some 11, none, none, .mv (.c (.int .i64 0))⟩])
  (.block 0 (.loop (.seq (.seq (.ops [⟨some 35, none, none, .mv (.t 11)⟩,
    ⟨some 36, none, none, .mv (.t 10)⟩,
    ⟨some 37, none, none, .len (.t 36)⟩,
    ⟨some 38, none, none, .ar .lss (.t 35) (.t 37)⟩])
  (.cond (.t 38) (.skip)
  (.exit 0)))
  (.seq (.block 1 (.seq (.dops [⟨some 41, none, none, .mv (.t 10)⟩,
    ⟨some 42, none, none, .mv (.t 11)⟩,
    ⟨some 43, none, none, .iad 1 (.t 41) (.t 42)⟩,
    ⟨some 44, none, some (0, 0), .ld false 1 (.t 43)⟩,
    ⟨some 45, none, none, .fad 2 (.t 4)⟩,
    ⟨some 46, none, some (0, 0), .ld false 1 (.t 45)⟩,
    ⟨some 47, none, none, .len (.t 46)⟩,
    ⟨some 48, none, none, .ar .sub (.t 47) (.c (.int .i64 1))⟩,
    ⟨some 49, none, none, .call (.c (.fn 75 [] [])) [.t 44, .c (.int .i64 0), .t 48]⟩])
  (.cond (.t 49) (.seq (.ops [⟨some 8, none, none, .mv (.c (.int .i64 0))⟩,
    ⟨some 9, none, none, .mv (.c (.int .i64 1))⟩])
  (.ret))
  (.skip))))
  (.ops [⟨some 39, none, none, .mv (.t 11)⟩,
    ⟨some 40, none, none, .ar .add (.t 39) (.c (.int .i64 1))⟩,
    ⟨some 11, none, none, .mv (.t 40)⟩]))))))
  (.seq (.seq (.ops [⟨some 12, none, none, .mv (.c (.int .i64 0))⟩])
  (.block 2 (.loop (.seq (.seq (.ops [⟨some 50, none, none, .mv (.t 12)⟩,
    ⟨some 51, none, none, .mv (.t 10)⟩,
    ⟨some 52, none, none, .len (.t 51)⟩,
    ⟨some 53, none, none, .ar .lss (.t 50) (.t 52)⟩])
  (.cond (.t 53) (.skip)
  (.exit 2)))
  (.seq (.block 3 (.seq (.dops [⟨some 56, none, some (0, 0), .ld true 3 (.t 4)⟩,
    ⟨some 57, none, none, .mv (.t 1)⟩,
    ⟨some 58, none, none, .fad 2 (.t 4)⟩,
    ⟨some 59, none, some (0, 0), .ld false 1 (.t 58)⟩,
    ⟨some 60, none, none, .mv (.t 10)⟩,
    ⟨some 61, none, none, .mv (.t 12)⟩,
    ⟨some 62, none, none, .iad 1 (.t 60) (.t 61)⟩,
    ⟨some 63, none, some (0, 0), .ld false 1 (.t 62)⟩,
    ⟨some 64, none, none, .iad 4 (.t 59) (.t 63)⟩,
    ⟨some 65, none, none, .fad 0 (.t 64)⟩,
    ⟨some 66, none, some (0, 0), .ld false 1 (.t 65)⟩,
    ⟨some 67, none, none, .call (.c (.fn 85 [] [])) [.t 56, .t 57, .t 66]⟩,
    ⟨some 68, none, none, .not (.t 67)⟩])
  (.cond (.t 68) (.seq (.ops [⟨some 8, none, none, .mv (.c (.int .i64 0))⟩,
    ⟨some 9, none, none, .mv (.c (.int .i64 8))⟩])
  (.ret))
  (.skip))))
  (.ops [⟨some 54, none, none, .mv (.t 12)⟩,
    ⟨some 55, none, none, .ar .add (.t 54) (.c (.int .i64 1))⟩,
    ⟨some 12, none, none, .mv (.t 55)⟩]))))))
  (.seq (.seq (.ops [⟨some 69, none, none, .ld true 3 (.t 4)⟩,
    ⟨some 70, none, none, .mv (.t 2)⟩,
    ⟨some 71, none, none, .call (.c (.fn 86 [] [])) [.t 69, .t 70]⟩,
    ⟨some 72, none, none, .not (.t 71)⟩,
    ⟨some 73, none, none, .mv (.t 72)⟩,
    ⟨some 74, some (73, false), none, .ld true 3 (.t 4)⟩,
    ⟨some 75, some (73, false), none, .mv (.t 3)⟩,
    ⟨some 76, some (73, false), none, .call (.c (.fn 86 [] [])) [.t 74, .t 75]⟩,
    ⟨some 77, some (73, false), none, .not (.t 76)⟩,
    ⟨some 78, none, none, .pick (.t 73) (.c (.bool true)) (.t 77)⟩])
  (.cond (.t 78) (.seq (.ops [⟨some 8, none, none, .mv (.c (.int .i64 0))⟩,
    ⟨some 9, none, none, .mv (.c (.int .i64 8))⟩])
  (.ret))
  (.skip)))
  (.seq (.seq (.ops [⟨some 13, none, none, .mv (.c (.int .i64 0))⟩])
  (.block 4 (.loop (.seq (.seq (.ops [⟨some 79, none, none, .mv (.t 13)⟩,
    ⟨some 80, none, none, .fad 1 (.t 4)⟩,
    ⟨some 81, none, none, .ld false 1 (.t 80)⟩,
    ⟨some 82, none, none, .len (.t 81)⟩,
    ⟨some 83, none, none, .ar .lss (.t 79) (.t 82)⟩])
  (.cond (.t 83) (.skip)
  (.exit 4)))
  (.seq (.block 5 (.seq (.seq (.ops [⟨some 86, none, none, .ld true 3 (.t 4)⟩,
    ⟨some 87, none, none, .mv (.t 13)⟩,
    ⟨some 88, none, none, .call (.c (.fn 55 [] [])) [.t 86, .t 87]⟩,
    ⟨some 89, none, none, .len (.t 88)⟩,
    ⟨some 90, none, none, .ar .gtr (.t 89) (.c (.int .i64 0))⟩,
    ⟨some 91, none, none, .mv (.t 90)⟩,
    ⟨some 92, some (91, false), none, .ld true 3 (.t 4)⟩,
    ⟨some 93, some (91, false), none, .mv (.t 1)⟩,
    ⟨some 94, some (91, false), none, .mv (.t 13)⟩,
    ⟨some 95, some (91, false), none, .call (.c (.fn 85 [] [])) [.t 92, .t 93, .t 94]⟩,
    ⟨some 96, some (91, false), none, .not (.t 95)⟩,
    ⟨some 97, none, none, .pick (.t 91) (.c (.bool true)) (.t 96)⟩,
    ⟨some 98, none, none, .mv (.t 97)⟩,
    ⟨some 99, some (98, false), none, .mv (.t 3)⟩,
    ⟨some 100, some (98, false), none, .len (.t 99)⟩,
    ⟨some 101, some (98, false), none, .ar .eql (.t 100) (.c (.int .i64 0))⟩,
    ⟨some 102, none, none, .pick (.t 98) (.c (.bool true)) (.t 101)⟩])
  (.cond (.t 102) (.exit 5)
  (.skip)))
  (.seq (.ops [⟨some 14, none, none, .mv (.c (.int .i64 0))⟩])
  (.seq (.seq (.ops [⟨some 15, none, none, .mv (.c (.int .i64 0))⟩])
  (.block 6 (.loop (.seq (.seq (.ops [⟨some 103, none, none, .mv (.t 15)⟩,
    ⟨some 104, none, none, .mv (.t 3)⟩,
    ⟨some 105, none, none, .len (.t 104)⟩,
    ⟨some 106, none, none, .ar .lss (.t 103) (.t 105)⟩])
  (.cond (.t 106) (.skip)
  (.exit 6)))
  (.seq (.block 7 (.seq (.dops [⟨some 109, none, some (0, 0), .ld true 3 (.t 4)⟩,
    ⟨some 110, none, none, .fad 2 (.t 4)⟩,
    ⟨some 111, none, some (0, 0), .ld false 1 (.t 110)⟩,
    ⟨some 112, none, none, .mv (.t 3)⟩,
    ⟨some 113, none, none, .mv (.t 15)⟩,
    ⟨some 114, none, none, .iad 1 (.t 112) (.t 113)⟩,
    ⟨some 115, none, some (0, 0), .ld false 1 (.t 114)⟩,
    ⟨some 116, none, none, .iad 4 (.t 111) (.t 115)⟩,
    ⟨some 117, none, none, .fad 0 (.t 116)⟩,
    ⟨some 118, none, some (0, 0), .ld false 1 (.t 117)⟩,
    ⟨some 119, none, none, .mv (.t 13)⟩,
    ⟨some 120, none, none, .call (.c (.fn 85 [] [])) [.t 109, .t 118, .t 119]⟩])
  (.cond (.t 120) (.ops [⟨some 121, none, none, .mv (.t 14)⟩,
    ⟨some 122, none, none, .ar .add (.t 121) (.c (.int .i64 1))⟩,
    ⟨some 14, none, none, .mv (.t 122)⟩])
  (.skip))))
  (.ops [⟨some 107, none, none, .mv (.t 15)⟩,
    ⟨some 108, none, none, .ar .add (.t 107) (.c (.int .i64 1))⟩,
    ⟨some 15, none, none, .mv (.t 108)⟩]))))))
  (.seq (.ops [⟨some 123, none, none, .mv (.t 14)⟩,
    ⟨some 124, none, none, .ar .neq (.t 123) (.c (.int .i64 1))⟩])
  (.cond (.t 124) (.seq (.ops [⟨some 8, none, none, .mv (.c (.int .i64 0))⟩,
    ⟨some 9, none, none, .mv (.c (.int .i64 8))⟩])
  (.ret))
  (.skip)))))))
  (.ops [⟨some 84, none, none, .mv (.t 13)⟩,
    ⟨some 85, none, none, .ar .add (.t 84) (.c (.int .i64 1))⟩,
    ⟨some 13, none, none, .mv (.t 85)⟩]))))))
  (.seq (.ops [⟨some 16, none, none, .mv (.c (.int .i64 0))⟩,
    ⟨some 17, none, none, .mv (.c (.int .i64 0))⟩])
  (.seq (.seq (.ops [⟨some 18, none, none, .mv (.c (.int .i64 0))⟩])
  (.block 8 (.loop (.seq (.seq (.ops [⟨some 125, none, none, .mv (.t 18)⟩,
    ⟨some 126, none, none, .mv (.t 2)⟩,
    ⟨some 127, none, none, .len (.t 126)⟩,
    ⟨some 128, none, none, .ar .lss (.t 125) (.t 127)⟩])
  (.cond (.t 128) (.skip)
  (.exit 8)))
  (.seq (.block 9 (.seq (.dops [⟨some 132, none, some (0, 0), .ld true 3 (.t 4)⟩,
    ⟨some 133, none, none, .mv (.t 2)⟩,
    ⟨some 134, none, none, .mv (.t 18)⟩,
    ⟨some 135, none, none, .iad 1 (.t 133) (.t 134)⟩,
    ⟨some 136, none, some (0, 0), .ld false 1 (.t 135)⟩,
    ⟨some 137, none, none, .call (.c (.fn 57 [] [])) [.t 132, .t 136]⟩,
    ⟨some 131, none, none, .mv (.t 137)⟩,
    ⟨some 138, none, none, .ext (.t 131) 0⟩,
    ⟨some 139, none, none, .ext (.t 131) 1⟩,
    ⟨some 19, none, none, .mv (.t 138)⟩,
    ⟨some 20, none, none, .mv (.t 139)⟩])
  (.ops [⟨some 140, none, none, .mv (.t 16)⟩,
    ⟨some 141, none, none, .mv (.t 19)⟩,
    ⟨some 142, none, none, .ar .add (.t 140) (.t 141)⟩,
    ⟨some 16, none, none, .mv (.t 142)⟩])))
  (.ops [⟨some 129, none, none, .mv (.t 18)⟩,
    ⟨some 130, none, none, .ar .add (.t 129) (.c (.int .i64 1))⟩,
    ⟨some 18, none, none, .mv (.t 130)⟩]))))))
  (.seq (.seq (.ops [⟨some 21, none, none, .mv (.c (.int .i64 0))⟩])
  (.block 10 (.loop (.seq (.seq (.ops [⟨some 143, none, none, .mv (.t 21)⟩,
    ⟨some 144, none, none, .mv (.t 3)⟩,
    ⟨some 145, none, none, .len (.t 144)⟩,
    ⟨some 146, none, none, .ar .lss (.t 143) (.t 145)⟩])
  (.cond (.t 146) (.skip)
  (.exit 10)))
  (.seq (.block 11 (.seq (.dops [⟨some 150, none, some (0, 0), .ld true 3 (.t 4)⟩,
    ⟨some 151, none, none, .mv (.t 3)⟩,
    ⟨some 152, none, none, .mv (.t 21)⟩,
    ⟨some 153, none, none, .iad 1 (.t 151) (.t 152)⟩,
    ⟨some 154, none, some (0, 0), .ld false 1 (.t 153)⟩,
    ⟨some 155, none, none, .call (.c (.fn 57 [] [])) [.t 150, .t 154]⟩,
    ⟨some 149, none, none, .mv (.t 155)⟩,
    ⟨some 156, none, none, .ext (.t 149) 0⟩,
    ⟨some 157, none, none, .ext (.t 149) 1⟩,
    ⟨some 22, none, none, .mv (.t 156)⟩,
    ⟨some 23, none, none, .mv (.t 157)⟩])
  (.ops [⟨some 158, none, none, .mv (.t 17)⟩,
    ⟨some 159, none, none, .mv (.t 23)⟩,
    ⟨some 160, none, none, .ar .add (.t 158) (.t 159)⟩,
    ⟨some 17, none, none, .mv (.t 160)⟩])))
  (.ops [⟨some 147, none, none, .mv (.t 21)⟩,
    ⟨some 148, none, none, .ar .add (.t 147) (.c (.int .i64 1))⟩,
    ⟨some 21, none, none, .mv (.t 148)⟩]))))))
  (.seq (.seq (.ops [⟨some 161, none, none, .mv (.t 3)⟩,
    ⟨some 162, none, none, .len (.t 161)⟩,
    ⟨some 163, none, none, .ar .eql (.t 162) (.c (.int .i64 0))⟩])
  (.cond (.t 163) (.ops [⟨some 17, none, none, .mv (.c (.int .i64 10000))⟩])
  (.skip)))
  (.seq (.seq (.ops [⟨some 164, none, none, .mv (.t 16)⟩,
    ⟨some 165, none, none, .mv (.t 17)⟩,
    ⟨some 166, none, none, .ar .leq (.t 164) (.t 165)⟩])
  (.cond (.t 166) (.seq (.ops [⟨some 8, none, none, .mv (.c (.int .i64 0))⟩,
    ⟨some 9, none, none, .mv (.c (.int .i64 6))⟩])
  (.ret))
  (.skip)))
  (.seq (.ops [⟨some 167, none, none, .mv (.t 16)⟩,
    ⟨some 168, none, none, .mv (.t 17)⟩,
    ⟨some 169, none, none, .ar .sub (.t 167) (.t 168)⟩,
    ⟨some 8, none, none, .mv (.t 169)⟩,
    ⟨some 9, none, none, .mv (.c (.int .i64 0))⟩])
  (.ret)))))))))))))⟩
def c29 : FD := ⟨43, [.cell 2 true 3, .tmp 3],
  .seq (.ops [⟨some 1, none, none, .box (.t 0)⟩,
    ⟨some 2, none, none, .alc [.int .i64 0, .nils, .nils]⟩,
    ⟨some 3, none, none, .mv (.c (.int .i64 0))⟩])
  (.seq (.ops [⟨some 10, none, none, .ld true 3 (.t 1)⟩,
    ⟨some 11, none, none, .call (.c (.fn 87 [] [])) [.t 10]⟩,
    ⟨some 9, none, none, .mv (.t 11)⟩,
    ⟨some 12, none, none, .ext (.t 9) 0⟩,
    ⟨some 13, none, none, .ext (.t 9) 1⟩,
    ⟨some 4, none, none, .mv (.t 12)⟩,
    ⟨some 5, none, none, .mv (.t 13)⟩])
  (.seq (.seq (.ops [⟨some 14, none, none, .mv (.t 5)⟩,
    ⟨some 15, none, none, .ar .neq (.t 14) (.c (.int .i64 0))⟩])
  (.cond (.t 15) (.seq (.ops [⟨some 16, none, none, .bld [.int .i64 0, .nils, .nils] []⟩,
    ⟨some 17, none, none, .mv (.t 5)⟩,
    ⟨none, none, none, .sto 3 (.t 2) (.t 16)⟩,
    ⟨some 3, none, none, .mv (.t 17)⟩])
  (.ret))
  (.skip)))
  (.seq (.seq (.ops [⟨some 18, none, none, .fad 1 (.t 1)⟩,
    ⟨some 19, none, none, .ld false 1 (.t 18)⟩,
    ⟨some 20, none, none, .len (.t 19)⟩,
    ⟨some 21, none, none, .mv (.c (.int .i64 0))⟩])
  (.block 0 (.loop (.seq (.ops [⟨some 22, none, none, .ar .lss (.t 21) (.t 20)⟩])
  (.seq (.cond (.t 22) (.skip)
  (.exit 0))
  (.seq (.block 1 (.seq (.ops [⟨some 23, none, none, .mv (.t 21)⟩,
    ⟨some 6, none, none, .mv (.t 23)⟩])
  (.seq (.ops [⟨some 24, none, none, .mv (.t 4)⟩,
    ⟨some 25, none, none, .mv (.t 6)⟩,
    ⟨some 26, none, none, .call (.c (.fn 88 [] [])) [.t 24, .t 25]⟩,
    ⟨some 27, none, none, .mv (.t 4)⟩,
    ⟨some 28, none, none, .mv (.t 6)⟩,
    ⟨some 29, none, none, .call (.c (.fn 89 [] [])) [.t 27, .t 28]⟩,
    ⟨some 7, none, none, .alc [.int .i64 0, .nils]⟩,
    ⟨some 8, none, none, .alc [.int .i64 0, .nils]⟩,
    ⟨none, none, none, .sto 2 (.t 7) (.t 26)⟩,
    ⟨none, none, none, .sto 2 (.t 8) (.t 29)⟩])
  (.seq (.ops [⟨some 30, none, none, .fad 0 (.t 7)⟩,
    ⟨some 31, none, none, .ld false 1 (.t 30)⟩,
    ⟨some 32, none, none, .fad 0 (.t 8)⟩,
    ⟨some 33, none, none, .ld false 1 (.t 32)⟩,
    ⟨some 34, none, none, .ar .gtr (.t 31) (.t 33)⟩])
  (.cond (.t 34) (.seq (.ops [⟨some 35, none, none, .mv (.t 6)⟩,
    ⟨some 36, none, none, .fad 1 (.t 7)⟩,
    ⟨some 37, none, none, .ld false 1 (.t 36)⟩,
    ⟨some 38, none, none, .fad 1 (.t 8)⟩,
    ⟨some 39, none, none, .ld false 1 (.t 38)⟩,
    ⟨some 40, none, none, .bld [.int .i64 0, .nils, .nils] [(0, 1, .t 35), (1, 1, .t 37), (2, 1, .t 39)]⟩,
    ⟨none, none, none, .sto 3 (.t 2) (.t 40)⟩,
    ⟨some 3, none, none, .mv (.c (.int .i64 0))⟩])
  (.ret))
  (.skip))))))
  (.ops [⟨some 41, none, none, .ar .add (.t 21) (.c (.int .i64 1))⟩,
    ⟨some 21, none, none, .mv (.t 41)⟩])))))))
  (.seq (.ops [⟨some 42, none, none, .bld [.int .i64 0, .nils, .nils] []⟩,
    ⟨none, none, none, .sto 3 (.t 2) (.t 42)⟩,
    ⟨some 3, none, none, .mv (.c (.int .i64 6))⟩])
  (.ret)))))⟩
def c30 : FD := ⟨89, [.tmp 4, .tmp 5],
  .seq (.ops [⟨some 2, none, none, .box (.t 0)⟩,
    ⟨some 3, none, none, .box (.t 1)⟩,
    ⟨some 4, none, none, .mv (.c (.int .i64 0))⟩,
    ⟨some 5, none, none, .mv (.c (.int .i64 0))⟩])
  (.seq (.ops [⟨some 16, none, none, .ld true 3 (.t 2)⟩,
    ⟨some 17, none, none, .call (.c (.fn 87 [] [])) [.t 16]⟩,
    ⟨some 15, none, none, .mv (.t 17)⟩,
    ⟨some 18, none, none, .ext (.t 15) 0⟩,
    ⟨some 19, none, none, .ext (.t 15) 1⟩,
    ⟨some 6, none, none, .mv (.t 18)⟩,
    ⟨some 7, none, none, .mv (.t 19)⟩])
  (.seq (.ops [⟨some 20, none, none, .ld true 3 (.t 2)⟩,
    ⟨some 21, none, none, .mkf 90 [.t 20] []⟩,
    ⟨some 8, none, none, .mv (.t 21)⟩])
  (.seq (.block 0 (.seq (.ops [⟨some 23, none, none, .mv (.t 7)⟩,
    ⟨some 24, none, none, .ar .neq (.t 23) (.c (.int .i64 0))⟩,
    ⟨some 22, none, none, .mv (.t 24)⟩])
  (.cond (.t 22) (.seq (.ops [⟨some 25, none, none, .mv (.t 7)⟩,
    ⟨some 4, none, none, .mv (.c (.int .i64 0))⟩,
    ⟨some 5, none, none, .mv (.t 25)⟩])
  (.ret))
  (.seq (.ops [⟨some 27, none, none, .ld true 3 (.t 2)⟩,
    ⟨some 28, none, none, .fad 0 (.t 3)⟩,
    ⟨some 29, none, none, .ld false 1 (.t 28)⟩,
    ⟨some 30, none, none, .call (.c (.fn 91 [] [])) [.t 27, .t 29]⟩,
    ⟨some 31, none, none, .not (.t 30)⟩,
    ⟨some 32, none, none, .mv (.t 31)⟩,
    ⟨some 33, some (32, false), none, .fad 1 (.t 3)⟩,
    ⟨some 34, some (32, false), none, .ld false 1 (.t 33)⟩,
    ⟨some 35, some (32, false), none, .mv (.t 8)⟩,
    ⟨some 36, some (32, false), none, .call (.c (.fn 92 [] [])) [.t 34, .t 35]⟩,
    ⟨some 37, some (32, false), none, .not (.t 36)⟩,
    ⟨some 38, none, none, .pick (.t 32) (.c (.bool true)) (.t 37)⟩,
    ⟨some 39, none, none, .mv (.t 38)⟩,
    ⟨some 40, some (39, false), none, .fad 2 (.t 3)⟩,
    ⟨some 41, some (39, false), none, .ld false 1 (.t 40)⟩,
    ⟨some 42, some (39, false), none, .mv (.t 8)⟩,
    ⟨some 43, some (39, false), none, .call (.c (.fn 92 [] [])) [.t 41, .t 42]⟩,
    ⟨some 44, some (39, false), none, .not (.t 43)⟩,
    ⟨some 45, none, none, .pick (.t 39) (.c (.bool true)) (.t 44)⟩,
    ⟨some 26, none, none, .mv (.t 45)⟩])
  (.cond (.t 26) (.seq (.ops [⟨some 4, none, none, .mv (.c (.int .i64 0))⟩,
    ⟨some 5, none, none, .mv (.c (.int .i64 1))⟩])
  (.ret))
  (.seq (.ops [⟨some 47, none, none, .mv (.t 6)⟩,
    ⟨some 48, none, none, .ld true 3 (.t 3)⟩,
    ⟨some 49, none, none, .call (.c (.fn 93 [] [])) [.t 47, .t 48]⟩,
    ⟨some 50, none, none, .not (.t 49)⟩,
    ⟨some 46, none, none, .mv (.t 50)⟩])
  (.cond (.t 46) (.seq (.ops [⟨some 4, none, none, .mv (.c (.int .i64 0))⟩,
    ⟨some 5, none, none, .mv (.c (.int .i64 8))⟩])
  (.ret))
  (.skip))))))))
  (.seq (.ops [⟨some 9, none, none, .mv (.c (.int .i64 0))⟩,
    ⟨some 10, none, none, .mv (.c (.int .i64 10000))⟩])
  (.seq (.seq (.ops [⟨some 51, none, none, .fad 1 (.t 3)⟩,
    ⟨some 52, none, none, .ld false 1 (.t 51)⟩,
    ⟨some 53, none, none, .len (.t 52)⟩,
    ⟨some 54, none, none, .mv (.c (.int .i64 0))⟩])
  (.block 1 (.loop (.seq (.ops [⟨some 55, none, none, .ar .lss (.t 54) (.t 53)⟩])
  (.seq (.cond (.t 55) (.skip)
  (.exit 1))
  (.seq (.block 2 (.seq (.ops [⟨some 56, none, none, .iad 1 (.t 52) (.t 54)⟩,
    ⟨some 57, none, none, .ld false 1 (.t 56)⟩,
    ⟨some 12, none, none, .mv (.t 57)⟩])
  (.ops [⟨some 58, none, none, .mv (.t 9)⟩,
    ⟨some 59, none, none, .mv (.t 6)⟩,
    ⟨some 60, none, none, .mv (.t 12)⟩,
    ⟨some 61, none, none, .call (.c (.fn 94 [] [])) [.t 59, .t 60]⟩,
    ⟨some 62, none, none, .fld false 1 0 (.t 61)⟩,
    ⟨some 63, none, none, .ar .add (.t 58) (.t 62)⟩,
    ⟨some 9, none, none, .mv (.t 63)⟩])))
  (.ops [⟨some 64, none, none, .ar .add (.t 54) (.c (.int .i64 1))⟩,
    ⟨some 54, none, none, .mv (.t 64)⟩])))))))
  (.seq (.seq (.ops [⟨some 65, none, none, .fad 2 (.t 3)⟩,
    ⟨some 66, none, none, .ld false 1 (.t 65)⟩,
    ⟨some 67, none, none, .len (.t 66)⟩,
    ⟨some 68, none, none, .ar .gtr (.t 67) (.c (.int .i64 0))⟩])
  (.cond (.t 68) (.ops [⟨some 10, none, none, .mv (.c (.int .i64 0))⟩])
  (.skip)))
  (.seq (.seq (.ops [⟨some 69, none, none, .fad 2 (.t 3)⟩,
    ⟨some 70, none, none, .ld false 1 (.t 69)⟩,
    ⟨some 71, none, none, .len (.t 70)⟩,
    ⟨some 72, none, none, .mv (.c (.int .i64 0))⟩])
  (.block 3 (.loop (.seq (.ops [⟨some 73, none, none, .ar .lss (.t 72) (.t 71)⟩])
  (.seq (.cond (.t 73) (.skip)
  (.exit 3))
  (.seq (.block 4 (.seq (.ops [⟨some 74, none, none, .iad 1 (.t 70) (.t 72)⟩,
    ⟨some 75, none, none, .ld false 1 (.t 74)⟩,
    ⟨some 14, none, none, .mv (.t 75)⟩])
  (.ops [⟨some 76, none, none, .mv (.t 10)⟩,
    ⟨some 77, none, none, .mv (.t 6)⟩,
    ⟨some 78, none, none, .mv (.t 14)⟩,
    ⟨some 79, none, none, .call (.c (.fn 94 [] [])) [.t 77, .t 78]⟩,
    ⟨some 80, none, none, .fld false 1 1 (.t 79)⟩,
    ⟨some 81, none, none, .ar .add (.t 76) (.t 80)⟩,
    ⟨some 10, none, none, .mv (.t 81)⟩])))
  (.ops [⟨some 82, none, none, .ar .add (.t 72) (.c (.int .i64 1))⟩,
    ⟨some 72, none, none, .mv (.t 82)⟩])))))))
  (.seq (.seq (.ops [⟨some 83, none, none, .mv (.t 9)⟩,
    ⟨some 84, none, none, .mv (.t 10)⟩,
    ⟨some 85, none, none, .ar .leq (.t 83) (.t 84)⟩])
  (.cond (.t 85) (.seq (.ops [⟨some 4, none, none, .mv (.c (.int .i64 0))⟩,
    ⟨some 5, none, none, .mv (.c (.int .i64 6))⟩])
  (.ret))
  (.skip)))
  (.seq (.ops [⟨some 86, none, none, .mv (.t 9)⟩,
    ⟨some 87, none, none, .mv (.t 10)⟩,
    ⟨some 88, none, none, .ar .sub (.t 86) (.t 87)⟩,
    ⟨some 4, none, none, .mv (.t 88)⟩,
    ⟨some 5, none, none, .mv (.c (.int .i64 0))⟩])
  (.ret))))))))))⟩
def c31 : FD := ⟨8, [.tmp 4],
  .seq (.ops [⟨some 4, none, none, .mv (.c (.bool false))⟩])
  (.seq (.ops [⟨some 5, none, none, .mv (.t 0)⟩,
    ⟨some 6, none, none, .mv (.t 1)⟩,
    ⟨some 7, none, none, .call (.c (.fn 95 [] [])) [.t 5, .t 6]⟩,
    ⟨some 4, none, none, .mv (.t 7)⟩])
  (.ret))⟩
def c32 : FD := ⟨9, [.tmp 2],
  .seq (.ops [⟨some 2, none, none, .mv (.c (.nilp))⟩])
  (.seq (.ops [⟨some 3, none, none, .mv (.t 0)⟩,
    ⟨some 4, none, none, .mv (.t 0)⟩,
    ⟨some 5, none, none, .len (.t 4)⟩,
    ⟨some 6, none, none, .cv .u64 (.t 5)⟩,
    ⟨some 7, none, none, .bld [.nils, .int .i64 0, .int .u64 0] [(0, 1, .t 3), (2, 1, .t 6)]⟩,
    ⟨some 8, none, none, .box (.t 7)⟩,
    ⟨some 2, none, none, .mv (.t 8)⟩])
  (.ret))⟩
def c33 : FD := ⟨88, [.cell 6 true 3, .tmp 7],
  .seq (.ops [⟨some 6, none, none, .alc [.int .i64 0, .nils, .nils]⟩,
    ⟨some 7, none, none, .mv (.c (.nils))⟩])
  (.seq (.ops [⟨some 14, none, none, .mv (.t 0)⟩,
    ⟨some 15, none, none, .call (.c (.fn 49 [] [])) [.t 14, .c (.int .i64 5)]⟩,
    ⟨some 16, none, none, .bld [.int .i64 0, .nils, .nils] [(0, 1, .t 15)]⟩,
    ⟨some 8, none, none, .alc [.int .i64 0, .nils, .nils]⟩,
    ⟨none, none, none, .sto 3 (.t 8) (.t 16)⟩])
  (.seq (.seq (.ops [⟨some 17, none, none, .mv (.t 0)⟩,
    ⟨some 18, none, none, .mv (.t 1)⟩,
    ⟨some 19, none, none, .call (.c (.fn 52 [] [])) [.t 17, .c (.int .i64 1), .t 18]⟩,
    ⟨some 20, none, none, .mv (.c (.int .i64 0))⟩])
  (.block 0 (.loop (.seq (.ops [⟨some 21, none, none, .ar .lss (.t 20) (.t 19)⟩])
  (.seq (.cond (.t 21) (.skip)
  (.exit 0))
  (.seq (.block 1 (.seq (.ops [⟨some 22, none, none, .mv (.t 20)⟩,
    ⟨some 9, none, none, .mv (.t 22)⟩])
  (.seq (.ops [⟨some 10, none, none, .mv (.c (.int .i64 (-1)))⟩])
  (.seq (.seq (.ops [⟨some 23, none, none, .mv (.t 9)⟩,
    ⟨some 24, none, none, .ar .gtr (.t 23) (.c (.int .i64 0))⟩,
    ⟨some 25, none, none, .mv (.t 24)⟩,
    ⟨some 26, some (25, true), none, .mv (.t 0)⟩,
    ⟨some 27, some (25, true), none, .call (.c (.fn 59 [] [])) [.t 26, .c (.int .i64 7)]⟩,
    ⟨some 28, some (25, true), none, .not (.t 27)⟩,
    ⟨some 29, none, none, .pick (.t 25) (.t 28) (.c (.bool false))⟩])
  (.cond (.t 29) (.ops [⟨some 30, none, none, .mv (.t 0)⟩,
    ⟨some 31, none, none, .mv (.t 9)⟩,
    ⟨some 32, none, none, .ar .sub (.t 31) (.c (.int .i64 4))⟩,
    ⟨some 33, none, none, .mx [.c (.int .i64 0), .t 32]⟩,
    ⟨some 34, none, none, .mv (.t 9)⟩,
    ⟨some 35, none, none, .ar .sub (.t 34) (.c (.int .i64 1))⟩,
    ⟨some 36, none, none, .call (.c (.fn 52 [] [])) [.t 30, .t 33, .t 35]⟩,
    ⟨some 10, none, none, .mv (.t 36)⟩])
  (.skip)))
  (.dops [⟨some 37, none, none, .fad 1 (.t 8)⟩,
    ⟨some 38, none, some (0, 1), .ld false 1 (.t 37)⟩,
    ⟨some 39, none, none, .mv (.t 10)⟩,
    ⟨some 40, none, none, .mv (.t 0)⟩,
    ⟨some 41, none, none, .call (.c (.fn 49 [] [])) [.t 40, .c (.int .i64 3)]⟩,
    ⟨some 42, none, none, .bld [.int .i64 0, .int .i64 0] [(0, 1, .t 39), (1, 1, .t 41)]⟩,
    ⟨some 43, none, none, .bsl 1 [.int .i64 0, .int .i64 0] [(0, 2, .t 42)]⟩,
    ⟨some 44, none, none, .app 2 16 (.t 38) (.t 43)⟩,
    ⟨some 45, none, none, .fad 1 (.t 8)⟩,
    ⟨none, none, none, .sto 1 (.t 45) (.t 44)⟩])))))
  (.ops [⟨some 46, none, none, .ar .add (.t 20) (.c (.int .i64 1))⟩,
    ⟨some 20, none, none, .mv (.t 46)⟩])))))))
  (.seq (.ops [⟨some 47, none, none, .fad 1 (.t 8)⟩,
    ⟨some 48, none, none, .ld false 1 (.t 47)⟩,
    ⟨some 49, none, none, .len (.t 48)⟩,
    ⟨some 50, none, none, .msl 1 8 [.int .i64 0] (.t 49) (.t 49)⟩,
    ⟨some 11, none, none, .mv (.t 50)⟩])
  (.seq (.seq (.ops [⟨some 51, none, none, .fad 1 (.t 8)⟩,
    ⟨some 52, none, none, .ld false 1 (.t 51)⟩,
    ⟨some 53, none, none, .len (.t 52)⟩,
    ⟨some 54, none, none, .ar .sub (.t 53) (.c (.int .i64 1))⟩,
    ⟨some 12, none, none, .mv (.t 54)⟩])
  (.block 2 (.loop (.seq (.seq (.ops [⟨some 55, none, none, .mv (.t 12)⟩,
    ⟨some 56, none, none, .ar .geq (.t 55) (.c (.int .i64 0))⟩])
  (.cond (.t 56) (.skip)
  (.exit 2)))
  (.seq (.block 3 (.seq (.seq (.ops [⟨some 59, none, none, .ld true 3 (.t 8)⟩,
    ⟨some 60, none, none, .mv (.t 12)⟩,
    ⟨some 61, none, none, .call (.c (.fn 40 [] [])) [.t 59, .t 60]⟩])
  (.cond (.t 61) (.ops [⟨some 62, none, none, .mv (.t 11)⟩,
    ⟨some 63, none, none, .mv (.t 12)⟩,
    ⟨some 64, none, none, .mv (.t 0)⟩,
    ⟨some 65, none, none, .mv (.t 2)⟩,
    ⟨some 66, none, none, .call (.c (.fn 49 [] [])) [.t 64, .t 65]⟩,
    ⟨some 67, none, none, .iad 1 (.t 62) (.t 63)⟩,
    ⟨none, none, none, .sto 1 (.t 67) (.t 66)⟩])
  (.skip)))
  (.seq (.ops [⟨some 68, none, none, .fad 1 (.t 8)⟩,
    ⟨some 69, none, none, .ld false 1 (.t 68)⟩,
    ⟨some 70, none, none, .mv (.t 12)⟩,
    ⟨some 71, none, none, .iad 2 (.t 69) (.t 70)⟩,
    ⟨some 72, none, none, .fad 0 (.t 71)⟩,
    ⟨some 73, none, none, .ld false 1 (.t 72)⟩,
    ⟨some 13, none, none, .mv (.t 73)⟩])
  (.seq (.ops [⟨some 74, none, none, .mv (.t 13)⟩,
    ⟨some 75, none, none, .ar .neq (.t 74) (.c (.int .i64 (-1)))⟩])
  (.cond (.t 75) (.dops [⟨some 76, none, none, .mv (.t 11)⟩,
    ⟨some 77, none, none, .mv (.t 13)⟩,
    ⟨some 78, none, none, .iad 1 (.t 76) (.t 77)⟩,
    ⟨some 79, none, some (0, 0), .ld false 1 (.t 78)⟩,
    ⟨some 80, none, none, .mv (.t 11)⟩,
    ⟨some 81, none, none, .mv (.t 12)⟩,
    ⟨some 82, none, none, .iad 1 (.t 80) (.t 81)⟩,
    ⟨some 83, none, some (0, 0), .ld false 1 (.t 82)⟩,
    ⟨some 84, none, none, .ar .add (.t 79) (.t 83)⟩,
    ⟨some 85, none, none, .iad 1 (.t 76) (.t 77)⟩,
    ⟨none, none, none, .sto 1 (.t 85) (.t 84)⟩])
  (.skip))))))
  (.ops [⟨some 57, none, none, .mv (.t 12)⟩,
    ⟨some 58, none, none, .ar .sub (.t 57) (.c (.int .i64 1))⟩,
    ⟨some 12, none, none, .mv (.t 58)⟩]))))))
  (.seq (.ops [⟨some 86, none, none, .ld true 3 (.t 8)⟩,
    ⟨some 87, none, none, .mv (.t 11)⟩,
    ⟨none, none, none, .sto 3 (.t 6) (.t 86)⟩,
    ⟨some 7, none, none, .mv (.t 87)⟩])
  (.ret))))))⟩
def c34 : FD := ⟨51, [.cell 8 true 3],
  .seq (.ops [⟨some 5, none, none, .box (.t 1)⟩,
    ⟨some 8, none, none, .alc [.int .i64 0, .nils, .nils]⟩])
  (.seq (.seq (.ops [⟨some 11, none, none, .mv (.t 0)⟩,
    ⟨some 12, none, none, .mv (.t 3)⟩,
    ⟨some 13, none, none, .call (.c (.fn 49 [] [])) [.t 11, .t 12]⟩,
    ⟨some 14, none, none, .mv (.c (.int .i64 0))⟩])
  (.block 0 (.loop (.seq (.ops [⟨some 15, none, none, .ar .lss (.t 14) (.t 13)⟩])
  (.seq (.cond (.t 15) (.skip)
  (.exit 0))
  (.seq (.block 1 (.seq (.ops [⟨some 16, none, none, .mv (.t 0)⟩,
    ⟨some 17, none, none, .fad 1 (.t 5)⟩,
    ⟨some 18, none, none, .ld false 1 (.t 17)⟩,
    ⟨some 19, none, none, .len (.t 18)⟩,
    ⟨some 20, none, none, .ar .sub (.t 19) (.c (.int .i64 1))⟩,
    ⟨some 21, none, none, .call (.c (.fn 49 [] [])) [.t 16, .t 20]⟩,
    ⟨some 9, none, none, .mv (.t 21)⟩])
  (.seq (.dops [⟨some 22, none, none, .mv (.t 0)⟩,
    ⟨some 23, none, some (0, 0), .ld true 3 (.t 5)⟩,
    ⟨some 24, none, none, .mv (.t 9)⟩,
    ⟨some 25, none, none, .mv (.t 2)⟩,
    ⟨some 26, none, none, .mv (.t 9)⟩,
    ⟨some 27, none, none, .iad 1 (.t 25) (.t 26)⟩,
    ⟨some 28, none, some (0, 0), .ld false 1 (.t 27)⟩,
    ⟨some 29, none, none, .call (.c (.fn 51 [] [])) [.t 22, .t 23, .t 24, .t 28]⟩,
    ⟨some 10, none, none, .alc [.int .i64 0, .int .i64 0, .int .i64 0, .int .i64 0]⟩,
    ⟨none, none, none, .sto 4 (.t 10) (.t 29)⟩])
  (.seq (.dops [⟨some 30, none, some (0, 0), .ld true 3 (.t 5)⟩,
    ⟨some 31, none, some (0, 0), .ld true 4 (.t 10)⟩,
    ⟨some 32, none, none, .mv (.t 2)⟩,
    ⟨some 33, none, none, .mv (.t 9)⟩,
    ⟨some 34, none, none, .iad 1 (.t 32) (.t 33)⟩,
    ⟨some 35, none, some (0, 0), .ld false 1 (.t 34)⟩,
    ⟨some 36, none, none, .call (.c (.fn 42 [] [])) [.t 30, .t 31, .t 35]⟩,
    ⟨some 37, none, none, .mv (.t 36)⟩,
    ⟨some 38, some (37, true), none, .fad 2 (.t 5)⟩,
    ⟨some 39, some (37, true), some (1, 1), .ld false 1 (.t 38)⟩,
    ⟨some 40, some (37, true), none, .len (.t 39)⟩,
    ⟨some 41, some (37, true), none, .ar .lss (.t 40) (.c (.int .i64 10))⟩,
    ⟨some 42, none, none, .pick (.t 37) (.t 41) (.c (.bool false))⟩])
  (.cond (.t 42) (.ops [⟨some 43, none, none, .fad 2 (.t 5)⟩,
    ⟨some 44, none, none, .ld false 1 (.t 43)⟩,
    ⟨some 45, none, none, .ld true 4 (.t 10)⟩,
    ⟨some 46, none, none, .bsl 1 [.int .i64 0, .int .i64 0, .int .i64 0, .int .i64 0] [(0, 4, .t 45)]⟩,
    ⟨some 47, none, none, .app 4 32 (.t 44) (.t 46)⟩,
    ⟨some 48, none, none, .fad 2 (.t 5)⟩,
    ⟨none, none, none, .sto 1 (.t 48) (.t 47)⟩])
  (.skip))))))
  (.ops [⟨some 49, none, none, .ar .add (.t 14) (.c (.int .i64 1))⟩,
    ⟨some 14, none, none, .mv (.t 49)⟩])))))))
  (.seq (.ops [⟨some 50, none, none, .ld true 3 (.t 5)⟩,
    ⟨none, none, none, .sto 3 (.t 8) (.t 50)⟩])
  (.ret)))⟩
def c35 : FD := ⟨32, [.tmp 4],
  .seq (.ops [⟨some 4, none, none, .mv (.c (.nils))⟩])
  (.seq (.ops [⟨some 8, none, none, .mv (.t 1)⟩,
    ⟨some 9, none, none, .mx [.c (.int .i64 0), .t 8]⟩,
    ⟨some 10, none, none, .msl 1 8 [.int .i64 0] (.t 9) (.t 9)⟩,
    ⟨some 5, none, none, .mv (.t 10)⟩])
  (.seq (.seq (.ops [⟨some 11, none, none, .mv (.t 5)⟩,
    ⟨some 12, none, none, .len (.t 11)⟩,
    ⟨some 13, none, none, .mv (.c (.int .i64 0))⟩])
  (.block 0 (.loop (.seq (.ops [⟨some 14, none, none, .ar .lss (.t 13) (.t 12)⟩])
  (.seq (.cond (.t 14) (.skip)
  (.exit 0))
  (.seq (.block 1 (.seq (.ops [⟨some 15, none, none, .mv (.t 13)⟩,
    ⟨some 6, none, none, .mv (.t 15)⟩])
  (.seq (.ops [⟨some 16, none, none, .mv (.t 0)⟩,
    ⟨some 17, none, none, .mv (.t 6)⟩,
    ⟨some 18, none, none, .call (.c (.fn 49 [] [])) [.t 16, .t 17]⟩,
    ⟨some 7, none, none, .mv (.t 18)⟩])
  (.ops [⟨some 19, none, none, .mv (.t 5)⟩,
    ⟨some 20, none, none, .mv (.t 6)⟩,
    ⟨some 21, none, none, .mv (.t 5)⟩,
    ⟨some 22, none, none, .mv (.t 7)⟩,
    ⟨some 23, none, none, .mv (.t 5)⟩,
    ⟨some 24, none, none, .mv (.t 7)⟩,
    ⟨some 25, none, none, .iad 1 (.t 23) (.t 24)⟩,
    ⟨some 26, none, none, .ld false 1 (.t 25)⟩,
    ⟨some 27, none, none, .mv (.t 6)⟩,
    ⟨some 28, none, none, .iad 1 (.t 19) (.t 20)⟩,
    ⟨none, none, none, .sto 1 (.t 28) (.t 26)⟩,
    ⟨some 29, none, none, .iad 1 (.t 21) (.t 22)⟩,
    ⟨none, none, none, .sto 1 (.t 29) (.t 27)⟩]))))
  (.ops [⟨some 30, none, none, .ar .add (.t 13) (.c (.int .i64 1))⟩,
    ⟨some 13, none, none, .mv (.t 30)⟩])))))))
  (.seq (.ops [⟨some 31, none, none, .mv (.t 5)⟩,
    ⟨some 4, none, none, .mv (.t 31)⟩])
  (.ret))))⟩
def c36 : FD := ⟨21, [.tmp 2, .tmp 3],
  .seq (.ops [⟨some 1, none, none, .box (.t 0)⟩,
    ⟨some 2, none, none, .mv (.c (.nils))⟩,
    ⟨some 3, none, none, .mv (.c (.int .i64 0))⟩])
  (.seq (.ops [⟨some 8, none, none, .ld true 3 (.t 1)⟩,
    ⟨some 9, none, none, .call (.c (.fn 79 [] [])) [.t 8]⟩,
    ⟨some 7, none, none, .mv (.t 9)⟩,
    ⟨some 10, none, none, .ext (.t 7) 0⟩,
    ⟨some 11, none, none, .ext (.t 7) 1⟩,
    ⟨some 12, none, none, .ext (.t 7) 2⟩,
    ⟨some 5, none, none, .alc [.int .i64 0, .int .i64 0, .int .i64 0, .int .i64 0, .int .i64 0, .int .i64 0, .int .i64 0, .int .i64 0, .int .i64 0, .int .i64 0, .int .i64 0, .int .i64 0, .int .i64 0, .int .i64 0, .int .i64 0, .int .i64 0, .int .i64 0, .int .i64 0, .int .i64 0, .int .i64 0, .int .i64 0, .int .i64 0, .int .i64 0, .int .i64 0]⟩,
    ⟨some 4, none, none, .mv (.t 10)⟩,
    ⟨none, none, none, .sto 24 (.t 5) (.t 11)⟩,
    ⟨some 6, none, none, .mv (.t 12)⟩])
  (.seq (.seq (.ops [⟨some 13, none, none, .mv (.t 6)⟩,
    ⟨some 14, none, none, .ar .neq (.t 13) (.c (.int .i64 0))⟩])
  (.cond (.t 14) (.seq (.ops [⟨some 15, none, none, .mv (.t 6)⟩,
    ⟨some 2, none, none, .mv (.c (.nils))⟩,
    ⟨some 3, none, none, .mv (.t 15)⟩])
  (.ret))
  (.skip)))
  (.seq (.ops [⟨some 16, none, none, .fad 1 (.t 1)⟩,
    ⟨some 17, none, none, .ld false 1 (.t 16)⟩,
    ⟨some 18, none, none, .len (.t 17)⟩,
    ⟨some 19, none, none, .sla 12 2 (.t 5) none (some (.t 18)) none⟩,
    ⟨some 20, none, none, .call (.c (.fn 96 [] [])) [.t 19]⟩,
    ⟨some 2, none, none, .mv (.t 20)⟩,
    ⟨some 3, none, none, .mv (.c (.int .i64 0))⟩])
  (.ret))))⟩
def c37 : FD := ⟨51, [.tmp 2, .cell 3 true 2, .tmp 4],
  .seq (.ops [⟨some 1, none, none, .box (.t 0)⟩,
    ⟨some 2, none, none, .mv (.c (.int .i64 0))⟩,
    ⟨some 3, none, none, .alc [.int .i64 0, .int .i64 0]⟩,
    ⟨some 4, none, none, .mv (.c (.int .i64 0))⟩])
  (.seq (.ops [⟨some 11, none, none, .ld true 3 (.t 1)⟩,
    ⟨some 12, none, none, .call (.c (.fn 79 [] [])) [.t 11]⟩,
    ⟨some 10, none, none, .mv (.t 12)⟩,
    ⟨some 13, none, none, .ext (.t 10) 0⟩,
    ⟨some 14, none, none, .ext (.t 10) 1⟩,
    ⟨some 15, none, none, .ext (.t 10) 2⟩,
    ⟨some 6, none, none, .alc [.int .i64 0, .int .i64 0, .int .i64 0, .int .i64 0, .int .i64 0, .int .i64 0, .int .i64 0, .int .i64 0, .int .i64 0, .int .i64 0, .int .i64 0, .int .i64 0, .int .i64 0, .int .i64 0, .int .i64 0, .int .i64 0, .int .i64 0, .int .i64 0, .int .i64 0, .int .i64 0, .int .i64 0, .int .i64 0, .int .i64 0, .int .i64 0]⟩,
    ⟨some 5, none, none, .mv (.t 13)⟩,
    ⟨none, none, none, .sto 24 (.t 6) (.t 14)⟩,
    ⟨some 7, none, none, .mv (.t 15)⟩])
  (.seq (.seq (.ops [⟨some 16, none, none, .mv (.t 7)⟩,
    ⟨some 17, none, none, .ar .neq (.t 16) (.c (.int .i64 0))⟩])
  (.cond (.t 17) (.seq (.ops [⟨some 18, none, none, .bld [.int .i64 0, .int .i64 0] []⟩,
    ⟨some 19, none, none, .mv (.t 7)⟩,
    ⟨some 2, none, none, .mv (.c (.int .i64 0))⟩,
    ⟨none, none, none, .sto 2 (.t 3) (.t 18)⟩,
    ⟨some 4, none, none, .mv (.t 19)⟩])
  (.ret))
  (.skip)))
  (.seq (.ops [⟨some 8, none, none, .mv (.c (.int .i64 0))⟩])
  (.seq (.seq (.ops [⟨some 20, none, none, .fad 1 (.t 1)⟩,
    ⟨some 21, none, none, .ld false 1 (.t 20)⟩,
    ⟨some 22, none, none, .len (.t 21)⟩,
    ⟨some 23, none, none, .mv (.c (.int .i64 0))⟩])
  (.block 0 (.loop (.seq (.ops [⟨some 24, none, none, .ar .lss (.t 23) (.t 22)⟩])
  (.seq (.cond (.t 24) (.skip)
  (.exit 0))
  (.seq (.block 1 (.seq (.ops [⟨some 25, none, none, .mv (.t 23)⟩,
    ⟨some 9, none, none, .mv (.t 25)⟩])
  (.seq (.dops [⟨some 26, none, none, .mv (.t 9)⟩,
    ⟨some 27, none, none, .iaa 12 2 (.t 6) (.t 26)⟩,
    ⟨some 28, none, none, .fad 1 (.t 27)⟩,
    ⟨some 29, none, some (0, 0), .ld false 1 (.t 28)⟩,
    ⟨some 30, none, none, .mv (.t 9)⟩,
    ⟨some 31, none, none, .iaa 12 2 (.t 6) (.t 30)⟩,
    ⟨some 32, none, none, .fad 0 (.t 31)⟩,
    ⟨some 33, none, some (0, 0), .ld false 1 (.t 32)⟩,
    ⟨some 34, none, none, .ar .sub (.t 29) (.t 33)⟩,
    ⟨some 35, none, none, .mv (.t 8)⟩,
    ⟨some 36, none, none, .iaa 12 2 (.t 6) (.t 35)⟩,
    ⟨some 37, none, none, .fad 1 (.t 36)⟩,
    ⟨some 38, none, some (0, 0), .ld false 1 (.t 37)⟩,
    ⟨some 39, none, none, .mv (.t 8)⟩,
    ⟨some 40, none, none, .iaa 12 2 (.t 6) (.t 39)⟩,
    ⟨some 41, none, none, .fad 0 (.t 40)⟩,
    ⟨some 42, none, some (0, 0), .ld false 1 (.t 41)⟩,
    ⟨some 43, none, none, .ar .sub (.t 38) (.t 42)⟩,
    ⟨some 44, none, none, .ar .gtr (.t 34) (.t 43)⟩])
  (.cond (.t 44) (.ops [⟨some 45, none, none, .mv (.t 9)⟩,
    ⟨some 8, none, none, .mv (.t 45)⟩])
  (.skip)))))
  (.ops [⟨some 46, none, none, .ar .add (.t 23) (.c (.int .i64 1))⟩,
    ⟨some 23, none, none, .mv (.t 46)⟩])))))))
  (.seq (.dops [⟨some 47, none, none, .mv (.t 8)⟩,
    ⟨some 48, none, none, .mv (.t 8)⟩,
    ⟨some 49, none, none, .iaa 12 2 (.t 6) (.t 48)⟩,
    ⟨some 50, none, some (0, 0), .ld true 2 (.t 49)⟩,
    ⟨some 2, none, none, .mv (.t 47)⟩,
    ⟨none, none, none, .sto 2 (.t 3) (.t 50)⟩,
    ⟨some 4, none, none, .mv (.c (.int .i64 0))⟩])
  (.ret))))))⟩
def c38 : FD := ⟨8, [.tmp 4],
  .seq (.ops [⟨some 4, none, none, .mv (.c (.bool false))⟩])
  (.seq (.ops [⟨some 5, none, none, .mv (.t 0)⟩,
    ⟨some 6, none, none, .mv (.t 1)⟩,
    ⟨some 7, none, none, .call (.c (.fn 97 [] [])) [.t 5, .t 6]⟩,
    ⟨some 4, none, none, .mv (.t 7)⟩])
  (.ret))⟩
def c39 : FD := ⟨23, [.tmp 4, .tmp 5],
  .seq (.ops [⟨some 2, none, none, .box (.t 0)⟩,
    ⟨some 4, none, none, .mv (.c (.nils))⟩,
    ⟨some 5, none, none, .mv (.c (.int .i64 0))⟩])
  (.seq (.ops [⟨some 9, none, none, .ld true 3 (.t 2)⟩,
    ⟨some 10, none, none, .mv (.t 1)⟩,
    ⟨some 11, none, none, .call (.c (.fn 98 [] [])) [.t 9, .t 10]⟩,
    ⟨some 8, none, none, .mv (.t 11)⟩,
    ⟨some 12, none, none, .ext (.t 8) 0⟩,
    ⟨some 13, none, none, .ext (.t 8) 1⟩,
    ⟨some 6, none, none, .mv (.t 12)⟩,
    ⟨some 7, none, none, .mv (.t 13)⟩])
  (.seq (.seq (.ops [⟨some 14, none, none, .mv (.t 7)⟩,
    ⟨some 15, none, none, .ar .neq (.t 14) (.c (.int .i64 0))⟩])
  (.cond (.t 15) (.seq (.ops [⟨some 16, none, none, .mv (.t 7)⟩,
    ⟨some 4, none, none, .mv (.c (.nils))⟩,
    ⟨some 5, none, none, .mv (.t 16)⟩])
  (.ret))
  (.skip)))
  (.seq (.ops [⟨some 17, none, none, .mv (.t 6)⟩,
    ⟨some 18, none, none, .chk (.t 17)⟩,
    ⟨some 19, none, none, .fad 3 (.t 18)⟩,
    ⟨some 20, none, none, .ld false 1 (.t 19)⟩,
    ⟨some 21, none, none, .mv (.t 1)⟩,
    ⟨some 22, none, none, .lkp none (.nils) (.t 20) (.t 21) false⟩,
    ⟨some 4, none, none, .mv (.t 22)⟩,
    ⟨some 5, none, none, .mv (.c (.int .i64 0))⟩])
  (.ret))))⟩
def c40 : FD := ⟨10, [.tmp 4],
  .seq (.ops [⟨some 2, none, none, .box (.t 0)⟩,
    ⟨some 3, none, none, .box (.t 1)⟩,
    ⟨some 4, none, none, .mv (.c (.bool false))⟩])
  (.seq (.ops [⟨some 5, none, none, .fad 1 (.t 2)⟩,
    ⟨some 6, none, none, .ld false 1 (.t 5)⟩,
    ⟨some 7, none, none, .mkf 100 [] [.t 3]⟩,
    ⟨some 8, none, none, .call (.c (.fn 99 [] [])) [.t 6, .t 7]⟩,
    ⟨some 9, none, none, .not (.t 8)⟩,
    ⟨some 4, none, none, .mv (.t 9)⟩])
  (.ret))⟩
def c41 : FD := ⟨35, [.cell 4 true 2, .tmp 5],
  .seq (.ops [⟨some 2, none, none, .box (.t 0)⟩,
    ⟨some 4, none, none, .alc [.int .i64 0, .int .i64 0]⟩,
    ⟨some 5, none, none, .mv (.c (.int .i64 0))⟩])
  (.seq (.ops [⟨some 10, none, none, .ld true 3 (.t 2)⟩,
    ⟨some 11, none, none, .call (.c (.fn 87 [] [])) [.t 10]⟩,
    ⟨some 9, none, none, .mv (.t 11)⟩,
    ⟨some 12, none, none, .ext (.t 9) 0⟩,
    ⟨some 13, none, none, .ext (.t 9) 1⟩,
    ⟨some 6, none, none, .mv (.t 12)⟩,
    ⟨some 7, none, none, .mv (.t 13)⟩])
  (.seq (.block 0 (.seq (.ops [⟨some 15, none, none, .mv (.t 7)⟩,
    ⟨some 16, none, none, .ar .neq (.t 15) (.c (.int .i64 0))⟩,
    ⟨some 14, none, none, .mv (.t 16)⟩])
  (.cond (.t 14) (.seq (.ops [⟨some 17, none, none, .bld [.int .i64 0, .int .i64 0] []⟩,
    ⟨some 18, none, none, .mv (.t 7)⟩,
    ⟨none, none, none, .sto 2 (.t 4) (.t 17)⟩,
    ⟨some 5, none, none, .mv (.t 18)⟩])
  (.ret))
  (.seq (.ops [⟨some 20, none, none, .ld true 3 (.t 2)⟩,
    ⟨some 21, none, none, .mv (.t 1)⟩,
    ⟨some 22, none, none, .call (.c (.fn 90 [] [])) [.t 20, .t 21]⟩,
    ⟨some 23, none, none, .not (.t 22)⟩,
    ⟨some 19, none, none, .mv (.t 23)⟩])
  (.cond (.t 19) (.seq (.ops [⟨some 24, none, none, .bld [.int .i64 0, .int .i64 0] []⟩,
    ⟨none, none, none, .sto 2 (.t 4) (.t 24)⟩,
    ⟨some 5, none, none, .mv (.c (.int .i64 1))⟩])
  (.ret))
  (.skip))))))
  (.seq (.ops [⟨some 25, none, none, .mv (.t 6)⟩,
    ⟨some 26, none, none, .mv (.t 1)⟩,
    ⟨some 27, none, none, .call (.c (.fn 94 [] [])) [.t 25, .t 26]⟩,
    ⟨some 8, none, none, .alc [.int .i64 0, .int .i64 0]⟩,
    ⟨none, none, none, .sto 2 (.t 8) (.t 27)⟩])
  (.seq (.seq (.ops [⟨some 28, none, none, .fad 0 (.t 8)⟩,
    ⟨some 29, none, none, .ld false 1 (.t 28)⟩,
    ⟨some 30, none, none, .fad 1 (.t 8)⟩,
    ⟨some 31, none, none, .ld false 1 (.t 30)⟩,
    ⟨some 32, none, none, .ar .gtr (.t 29) (.t 31)⟩])
  (.cond (.t 32) (.seq (.ops [⟨some 33, none, none, .bld [.int .i64 0, .int .i64 0] []⟩,
    ⟨none, none, none, .sto 2 (.t 4) (.t 33)⟩,
    ⟨some 5, none, none, .mv (.c (.int .i64 6))⟩])
  (.ret))
  (.skip)))
  (.seq (.ops [⟨some 34, none, none, .ld true 2 (.t 8)⟩,
    ⟨none, none, none, .sto 2 (.t 4) (.t 34)⟩,
    ⟨some 5, none, none, .mv (.c (.int .i64 0))⟩])
  (.ret))))))⟩
def c42 : FD := ⟨35, [.tmp 6],
  .seq (.ops [⟨some 3, none, none, .box (.t 0)⟩,
    ⟨some 4, none, none, .box (.t 1)⟩,
    ⟨some 6, none, none, .mv (.c (.bool false))⟩])
  (.seq (.ops [⟨some 7, none, none, .fad 1 (.t 4)⟩,
    ⟨some 8, none, none, .ld false 1 (.t 7)⟩,
    ⟨some 9, none, none, .fad 0 (.t 3)⟩,
    ⟨some 10, none, none, .ld false 1 (.t 9)⟩,
    ⟨some 11, none, none, .ar .sub (.t 8) (.t 10)⟩,
    ⟨some 12, none, none, .ar .mul (.c (.int .i64 100)) (.t 11)⟩,
    ⟨some 13, none, none, .mv (.t 2)⟩,
    ⟨some 14, none, none, .fad 2 (.t 4)⟩,
    ⟨some 15, none, none, .fad 1 (.t 14)⟩,
    ⟨some 16, none, none, .ld false 1 (.t 15)⟩,
    ⟨some 17, none, none, .ar .add (.c (.int .i64 100)) (.t 16)⟩,
    ⟨some 18, none, none, .ar .mul (.t 13) (.t 17)⟩,
    ⟨some 19, none, none, .ar .leq (.t 12) (.t 18)⟩,
    ⟨some 20, none, none, .mv (.t 19)⟩,
    ⟨some 21, some (20, true), none, .fad 1 (.t 4)⟩,
    ⟨some 22, some (20, true), none, .ld false 1 (.t 21)⟩,
    ⟨some 23, some (20, true), none, .fad 0 (.t 3)⟩,
    ⟨some 24, some (20, true), none, .ld false 1 (.t 23)⟩,
    ⟨some 25, some (20, true), none, .ar .add (.t 22) (.t 24)⟩,
    ⟨some 26, some (20, true), none, .ar .mul (.c (.int .i64 100)) (.t 25)⟩,
    ⟨some 27, some (20, true), none, .mv (.t 2)⟩,
    ⟨some 28, some (20, true), none, .fad 2 (.t 4)⟩,
    ⟨some 29, some (20, true), none, .fad 0 (.t 28)⟩,
    ⟨some 30, some (20, true), none, .ld false 1 (.t 29)⟩,
    ⟨some 31, some (20, true), none, .ar .add (.c (.int .i64 100)) (.t 30)⟩,
    ⟨some 32, some (20, true), none, .ar .mul (.t 27) (.t 31)⟩,
    ⟨some 33, some (20, true), none, .ar .geq (.t 26) (.t 32)⟩,
    ⟨some 34, none, none, .pick (.t 20) (.t 33) (.c (.bool false))⟩,
    ⟨some 6, none, none, .mv (.t 34)⟩])
  (.ret))⟩
def c43 : FD := ⟨47, [.tmp 4, .tmp 5],
  .seq (.ops [⟨some 2, none, none, .box (.t 0)⟩,
    ⟨some 4, none, none, .mv (.c (.nils))⟩,
    ⟨some 5, none, none, .mv (.c (.int .i64 0))⟩])
  (.seq (.ops [⟨some 9, none, none, .fad 2 (.t 2)⟩,
    ⟨some 10, none, none, .ld false 1 (.t 9)⟩,
    ⟨some 11, none, none, .len (.t 10)⟩,
    ⟨some 12, none, none, .msl 1 1 [.bool false] (.t 11) (.t 11)⟩,
    ⟨some 6, none, none, .mv (.t 12)⟩])
  (.seq (.seq (.ops [⟨some 7, none, none, .mv (.c (.int .i64 0))⟩])
  (.block 0 (.loop (.seq (.seq (.ops [⟨some 13, none, none, .mv (.t 7)⟩,
    ⟨some 14, none, none, .mv (.t 1)⟩,
    ⟨some 15, none, none, .len (.t 14)⟩,
    ⟨some 16, none, none, .ar .lss (.t 13) (.t 15)⟩])
  (.cond (.t 16) (.skip)
  (.exit 0)))
  (.seq (.block 1 (.seq (.ops [⟨some 19, none, none, .mv (.t 1)⟩,
    ⟨some 20, none, none, .mv (.t 7)⟩,
    ⟨some 21, none, none, .iad 1 (.t 19) (.t 20)⟩,
    ⟨some 22, none, none, .ld false 1 (.t 21)⟩,
    ⟨some 23, none, none, .mv (.t 6)⟩,
    ⟨some 24, none, none, .len (.t 23)⟩,
    ⟨some 25, none, none, .ar .sub (.t 24) (.c (.int .i64 1))⟩,
    ⟨some 26, none, none, .call (.c (.fn 75 [] [])) [.t 22, .c (.int .i64 0), .t 25]⟩])
  (.cond (.t 26) (.seq (.ops [⟨some 4, none, none, .mv (.c (.nils))⟩,
    ⟨some 5, none, none, .mv (.c (.int .i64 1))⟩])
  (.ret))
  (.skip))))
  (.ops [⟨some 17, none, none, .mv (.t 7)⟩,
    ⟨some 18, none, none, .ar .add (.t 17) (.c (.int .i64 1))⟩,
    ⟨some 7, none, none, .mv (.t 18)⟩]))))))
  (.seq (.seq (.ops [⟨some 8, none, none, .mv (.c (.int .i64 0))⟩])
  (.block 2 (.loop (.seq (.seq (.ops [⟨some 27, none, none, .mv (.t 8)⟩,
    ⟨some 28, none, none, .mv (.t 1)⟩,
    ⟨some 29, none, none, .len (.t 28)⟩,
    ⟨some 30, none, none, .ar .lss (.t 27) (.t 29)⟩])
  (.cond (.t 30) (.skip)
  (.exit 2)))
  (.seq (.block 3 (.seq (.seq (.ops [⟨some 33, none, none, .mv (.t 6)⟩,
    ⟨some 34, none, none, .mv (.t 1)⟩,
    ⟨some 35, none, none, .mv (.t 8)⟩,
    ⟨some 36, none, none, .iad 1 (.t 34) (.t 35)⟩,
    ⟨some 37, none, none, .ld false 1 (.t 36)⟩,
    ⟨some 38, none, none, .iad 1 (.t 33) (.t 37)⟩,
    ⟨some 39, none, none, .ld false 1 (.t 38)⟩])
  (.cond (.t 39) (.seq (.ops [⟨some 4, none, none, .mv (.c (.nils))⟩,
    ⟨some 5, none, none, .mv (.c (.int .i64 5))⟩])
  (.ret))
  (.skip)))
  (.ops [⟨some 40, none, none, .mv (.t 6)⟩,
    ⟨some 41, none, none, .mv (.t 1)⟩,
    ⟨some 42, none, none, .mv (.t 8)⟩,
    ⟨some 43, none, none, .iad 1 (.t 41) (.t 42)⟩,
    ⟨some 44, none, none, .ld false 1 (.t 43)⟩,
    ⟨some 45, none, none, .iad 1 (.t 40) (.t 44)⟩,
    ⟨none, none, none, .sto 1 (.t 45) (.c (.bool true))⟩])))
  (.ops [⟨some 31, none, none, .mv (.t 8)⟩,
    ⟨some 32, none, none, .ar .add (.t 31) (.c (.int .i64 1))⟩,
    ⟨some 8, none, none, .mv (.t 32)⟩]))))))
  (.seq (.ops [⟨some 46, none, none, .mv (.t 6)⟩,
    ⟨some 4, none, none, .mv (.t 46)⟩,
    ⟨some 5, none, none, .mv (.c (.int .i64 0))⟩])
  (.ret)))))⟩
def c44 : FD := ⟨36, [.tmp 2, .tmp 3],
  .seq (.ops [⟨some 1, none, none, .box (.t 0)⟩,
    ⟨some 2, none, none, .mv (.c (.nils))⟩,
    ⟨some 3, none, none, .mv (.c (.bool false))⟩])
  (.seq (.ops [⟨some 4, none, none, .mv (.c (.nils))⟩])
  (.seq (.seq (.ops [⟨some 5, none, none, .mv (.c (.int .i64 1))⟩])
  (.block 0 (.loop (.seq (.seq (.ops [⟨some 8, none, none, .mv (.t 5)⟩,
    ⟨some 9, none, none, .ld true 3 (.t 1)⟩,
    ⟨some 10, none, none, .call (.c (.fn 101 [] [])) [.t 9]⟩,
    ⟨some 11, none, none, .ar .lss (.t 8) (.t 10)⟩])
  (.cond (.t 11) (.skip)
  (.exit 0)))
  (.seq (.block 1 (.seq (.ops [⟨some 14, none, none, .ld true 3 (.t 1)⟩,
    ⟨some 15, none, none, .mv (.t 5)⟩,
    ⟨some 16, none, none, .call (.c (.fn 102 [] [])) [.t 14, .t 15]⟩,
    ⟨some 6, none, none, .mv (.t 16)⟩])
  (.seq (.ops [⟨some 17, none, none, .mv (.t 6)⟩,
    ⟨some 18, none, none, .call (.c (.fn 103 [] [])) [.t 17]⟩,
    ⟨some 7, none, none, .mv (.t 18)⟩])
  (.seq (.ops [⟨some 19, none, none, .mv (.t 4)⟩,
    ⟨some 20, none, none, .isn false (.t 19)⟩,
    ⟨some 21, none, none, .mv (.t 20)⟩,
    ⟨some 22, some (21, false), none, .mv (.t 7)⟩,
    ⟨some 23, some (21, false), none, .mv (.t 4)⟩,
    ⟨some 24, some (21, false), none, .call (.c (.fn 104 [] [])) [.t 22, .t 23]⟩,
    ⟨some 25, none, none, .pick (.t 21) (.c (.bool true)) (.t 24)⟩,
    ⟨some 26, none, none, .mv (.t 25)⟩,
    ⟨some 27, some (26, true), none, .ld true 3 (.t 1)⟩,
    ⟨some 28, some (26, true), none, .mv (.t 6)⟩,
    ⟨some 29, some (26, true), none, .call (.c (.fn 21 [] [])) [.t 27, .t 28]⟩,
    ⟨some 30, some (26, true), none, .not (.t 29)⟩,
    ⟨some 31, none, none, .pick (.t 26) (.t 30) (.c (.bool false))⟩])
  (.cond (.t 31) (.ops [⟨some 32, none, none, .mv (.t 7)⟩,
    ⟨some 4, none, none, .mv (.t 32)⟩])
  (.skip))))))
  (.ops [⟨some 12, none, none, .mv (.t 5)⟩,
    ⟨some 13, none, none, .ar .add (.t 12) (.c (.int .i64 1))⟩,
    ⟨some 5, none, none, .mv (.t 13)⟩]))))))
  (.seq (.ops [⟨some 33, none, none, .mv (.t 4)⟩,
    ⟨some 34, none, none, .mv (.t 4)⟩,
    ⟨some 35, none, none, .isn true (.t 34)⟩,
    ⟨some 2, none, none, .mv (.t 33)⟩,
    ⟨some 3, none, none, .mv (.t 35)⟩])
  (.ret))))⟩
def c45 : FD := ⟨46, [.tmp 2],
  .seq (.ops [⟨some 1, none, none, .box (.t 0)⟩,
    ⟨some 2, none, none, .mv (.c (.nils))⟩])
  (.seq (.ops [⟨some 3, none, none, .mv (.c (.nils))⟩])
  (.seq (.ops [⟨some 4, none, none, .mv (.c (.bool false))⟩])
  (.seq (.seq (.ops [⟨some 5, none, none, .mv (.c (.int .i64 0))⟩])
  (.block 0 (.loop (.seq (.seq (.ops [⟨some 9, none, none, .mv (.t 5)⟩,
    ⟨some 10, none, none, .ld true 3 (.t 1)⟩,
    ⟨some 11, none, none, .call (.c (.fn 101 [] [])) [.t 10]⟩,
    ⟨some 12, none, none, .ar .lss (.t 9) (.t 11)⟩])
  (.cond (.t 12) (.skip)
  (.exit 0)))
  (.seq (.block 1 (.seq (.ops [⟨some 15, none, none, .ld true 3 (.t 1)⟩,
    ⟨some 16, none, none, .mv (.t 5)⟩,
    ⟨some 17, none, none, .call (.c (.fn 102 [] [])) [.t 15, .t 16]⟩,
    ⟨some 6, none, none, .mv (.t 17)⟩])
  (.seq (.ops [⟨some 18, none, none, .mv (.t 6)⟩,
    ⟨some 19, none, none, .call (.c (.fn 103 [] [])) [.t 18]⟩,
    ⟨some 7, none, none, .mv (.t 19)⟩])
  (.seq (.seq (.ops [⟨some 20, none, none, .mv (.t 4)⟩,
    ⟨some 21, none, none, .mv (.t 20)⟩,
    ⟨some 22, some (21, true), none, .mv (.t 7)⟩,
    ⟨some 23, some (21, true), none, .mv (.t 3)⟩,
    ⟨some 24, some (21, true), none, .call (.c (.fn 104 [] [])) [.t 22, .t 23]⟩,
    ⟨some 25, some (21, true), none, .not (.t 24)⟩,
    ⟨some 26, none, none, .pick (.t 21) (.t 25) (.c (.bool false))⟩])
  (.cond (.t 26) (.exit 1)
  (.skip)))
  (.seq (.seq (.ops [⟨some 8, none, none, .mv (.c (.int .i64 0))⟩])
  (.block 2 (.loop (.seq (.seq (.ops [⟨some 27, none, none, .mv (.t 8)⟩,
    ⟨some 28, none, none, .mv (.t 6)⟩,
    ⟨some 29, none, none, .len (.t 28)⟩,
    ⟨some 30, none, none, .ar .lss (.t 27) (.t 29)⟩])
  (.cond (.t 30) (.skip)
  (.exit 2)))
  (.seq (.block 3 (.ops [⟨some 33, none, none, .mv (.t 6)⟩,
    ⟨some 34, none, none, .mv (.t 8)⟩,
    ⟨some 35, none, none, .mv (.t 6)⟩,
    ⟨some 36, none, none, .mv (.t 8)⟩,
    ⟨some 37, none, none, .iad 1 (.t 35) (.t 36)⟩,
    ⟨some 38, none, none, .ld false 1 (.t 37)⟩,
    ⟨some 39, none, none, .not (.t 38)⟩,
    ⟨some 40, none, none, .iad 1 (.t 33) (.t 34)⟩,
    ⟨none, none, none, .sto 1 (.t 40) (.t 39)⟩]))
  (.ops [⟨some 31, none, none, .mv (.t 8)⟩,
    ⟨some 32, none, none, .ar .add (.t 31) (.c (.int .i64 1))⟩,
    ⟨some 8, none, none, .mv (.t 32)⟩]))))))
  (.seq (.ops [⟨some 41, none, none, .ld true 3 (.t 1)⟩,
    ⟨some 42, none, none, .mv (.t 6)⟩,
    ⟨some 43, none, none, .call (.c (.fn 21 [] [])) [.t 41, .t 42]⟩])
  (.cond (.t 43) (.ops [⟨some 44, none, none, .mv (.t 7)⟩,
    ⟨some 3, none, none, .mv (.t 44)⟩,
    ⟨some 4, none, none, .mv (.c (.bool true))⟩])
  (.skip))))))))
  (.ops [⟨some 13, none, none, .mv (.t 5)⟩,
    ⟨some 14, none, none, .ar .add (.t 13) (.c (.int .i64 1))⟩,
    ⟨some 5, none, none, .mv (.t 14)⟩]))))))
  (.seq (.ops [⟨some 45, none, none, .mv (.t 3)⟩,
    ⟨some 2, none, none, .mv (.t 45)⟩])
  (.ret)))))⟩
def c46 : FD := ⟨41, [.tmp 4, .tmp 5],
  .seq (.ops [⟨some 2, none, none, .box (.t 0)⟩,
    ⟨some 4, none, none, .mv (.c (.bool false))⟩,
    ⟨some 5, none, none, .mv (.c (.int .i64 0))⟩])
  (.seq (.ops [⟨some 11, none, none, .ld true 3 (.t 2)⟩,
    ⟨some 12, none, none, .call (.c (.fn 87 [] [])) [.t 11]⟩,
    ⟨some 10, none, none, .mv (.t 12)⟩,
    ⟨some 13, none, none, .ext (.t 10) 0⟩,
    ⟨some 14, none, none, .ext (.t 10) 1⟩,
    ⟨some 6, none, none, .mv (.t 13)⟩,
    ⟨some 7, none, none, .mv (.t 14)⟩])
  (.seq (.block 0 (.seq (.ops [⟨some 16, none, none, .mv (.t 7)⟩,
    ⟨some 17, none, none, .ar .neq (.t 16) (.c (.int .i64 0))⟩,
    ⟨some 15, none, none, .mv (.t 17)⟩])
  (.cond (.t 15) (.seq (.ops [⟨some 18, none, none, .mv (.t 7)⟩,
    ⟨some 4, none, none, .mv (.c (.bool false))⟩,
    ⟨some 5, none, none, .mv (.t 18)⟩])
  (.ret))
  (.seq (.ops [⟨some 20, none, none, .mv (.t 1)⟩,
    ⟨some 21, none, none, .ld true 3 (.t 2)⟩,
    ⟨some 22, none, none, .mkf 90 [.t 21] []⟩,
    ⟨some 23, none, none, .call (.c (.fn 92 [] [])) [.t 20, .t 22]⟩,
    ⟨some 24, none, none, .not (.t 23)⟩,
    ⟨some 19, none, none, .mv (.t 24)⟩])
  (.cond (.t 19) (.seq (.ops [⟨some 4, none, none, .mv (.c (.bool false))⟩,
    ⟨some 5, none, none, .mv (.c (.int .i64 1))⟩])
  (.ret))
  (.skip))))))
  (.seq (.seq (.ops [⟨some 25, none, none, .mv (.t 1)⟩,
    ⟨some 26, none, none, .len (.t 25)⟩,
    ⟨some 27, none, none, .mv (.c (.int .i64 0))⟩])
  (.block 1 (.loop (.seq (.ops [⟨some 28, none, none, .ar .lss (.t 27) (.t 26)⟩])
  (.seq (.cond (.t 28) (.skip)
  (.exit 1))
  (.seq (.block 2 (.seq (.ops [⟨some 29, none, none, .mv (.t 27)⟩,
    ⟨some 30, none, none, .iad 1 (.t 25) (.t 27)⟩,
    ⟨some 31, none, none, .ld false 1 (.t 30)⟩,
    ⟨some 8, none, none, .mv (.t 29)⟩,
    ⟨some 9, none, none, .mv (.t 31)⟩])
  (.seq (.ops [⟨some 32, none, none, .mv (.t 1)⟩,
    ⟨some 33, none, none, .mv (.t 8)⟩,
    ⟨some 34, none, none, .slc 1 (.t 32) none (some (.t 33)) none⟩,
    ⟨some 35, none, none, .mv (.t 9)⟩,
    ⟨some 36, none, none, .call (.c (.fn 61 [] [])) [.t 34, .t 35]⟩])
  (.cond (.t 36) (.seq (.ops [⟨some 4, none, none, .mv (.c (.bool false))⟩,
    ⟨some 5, none, none, .mv (.c (.int .i64 5))⟩])
  (.ret))
  (.skip)))))
  (.ops [⟨some 37, none, none, .ar .add (.t 27) (.c (.int .i64 1))⟩,
    ⟨some 27, none, none, .mv (.t 37)⟩])))))))
  (.seq (.ops [⟨some 38, none, none, .mv (.t 6)⟩,
    ⟨some 39, none, none, .mv (.t 1)⟩,
    ⟨some 40, none, none, .call (.c (.fn 105 [] [])) [.t 38, .t 39, .c (.bool false)]⟩,
    ⟨some 4, none, none, .mv (.t 40)⟩,
    ⟨some 5, none, none, .mv (.c (.int .i64 0))⟩])
  (.ret)))))⟩
def c47 : FD := ⟨25, [.tmp 2, .tmp 3],
  .seq (.ops [⟨some 1, none, none, .box (.t 0)⟩,
    ⟨some 2, none, none, .mv (.c (.nils))⟩,
    ⟨some 3, none, none, .mv (.c (.int .i64 0))⟩])
  (.seq (.ops [⟨some 9, none, none, .ld true 3 (.t 1)⟩,
    ⟨some 10, none, none, .call (.c (.fn 87 [] [])) [.t 9]⟩,
    ⟨some 8, none, none, .mv (.t 10)⟩,
    ⟨some 11, none, none, .ext (.t 8) 0⟩,
    ⟨some 12, none, none, .ext (.t 8) 1⟩,
    ⟨some 4, none, none, .alc [.nilp]⟩,
    ⟨none, none, none, .sto 1 (.t 4) (.t 11)⟩,
    ⟨some 5, none, none, .mv (.t 12)⟩])
  (.seq (.seq (.ops [⟨some 13, none, none, .mv (.t 5)⟩,
    ⟨some 14, none, none, .ar .neq (.t 13) (.c (.int .i64 0))⟩])
  (.cond (.t 14) (.seq (.ops [⟨some 15, none, none, .mv (.t 5)⟩,
    ⟨some 2, none, none, .mv (.c (.nils))⟩,
    ⟨some 3, none, none, .mv (.t 15)⟩])
  (.ret))
  (.skip)))
  (.seq (.ops [⟨some 17, none, none, .ld false 1 (.t 4)⟩,
    ⟨some 18, none, none, .mkf 107 [] [.t 4]⟩,
    ⟨some 19, none, none, .call (.c (.fn 106 [] [])) [.t 17, .t 18]⟩,
    ⟨some 16, none, none, .mv (.t 19)⟩,
    ⟨some 20, none, none, .ext (.t 16) 0⟩,
    ⟨some 21, none, none, .ext (.t 16) 1⟩,
    ⟨some 6, none, none, .mv (.t 20)⟩,
    ⟨some 7, none, none, .mv (.t 21)⟩])
  (.seq (.seq (.ops [⟨some 22, none, none, .mv (.t 7)⟩,
    ⟨some 23, none, none, .not (.t 22)⟩])
  (.cond (.t 23) (.seq (.ops [⟨some 2, none, none, .mv (.c (.nils))⟩,
    ⟨some 3, none, none, .mv (.c (.int .i64 6))⟩])
  (.ret))
  (.skip)))
  (.seq (.ops [⟨some 24, none, none, .mv (.t 6)⟩,
    ⟨some 2, none, none, .mv (.t 24)⟩,
    ⟨some 3, none, none, .mv (.c (.int .i64 0))⟩])
  (.ret))))))⟩
def c48 : FD := ⟨23, [.tmp 2, .tmp 3],
  .seq (.ops [⟨some 1, none, none, .box (.t 0)⟩,
    ⟨some 2, none, none, .mv (.c (.nils))⟩,
    ⟨some 3, none, none, .mv (.c (.int .i64 0))⟩])
  (.seq (.ops [⟨some 9, none, none, .ld true 3 (.t 1)⟩,
    ⟨some 10, none, none, .call (.c (.fn 87 [] [])) [.t 9]⟩,
    ⟨some 8, none, none, .mv (.t 10)⟩,
    ⟨some 11, none, none, .ext (.t 8) 0⟩,
    ⟨some 12, none, none, .ext (.t 8) 1⟩,
    ⟨some 4, none, none, .alc [.nilp]⟩,
    ⟨none, none, none, .sto 1 (.t 4) (.t 11)⟩,
    ⟨some 5, none, none, .mv (.t 12)⟩])
  (.seq (.seq (.ops [⟨some 13, none, none, .mv (.t 5)⟩,
    ⟨some 14, none, none, .ar .neq (.t 13) (.c (.int .i64 0))⟩])
  (.cond (.t 14) (.seq (.ops [⟨some 15, none, none, .mv (.t 5)⟩,
    ⟨some 2, none, none, .mv (.c (.nils))⟩,
    ⟨some 3, none, none, .mv (.t 15)⟩])
  (.ret))
  (.skip)))
  (.seq (.ops [⟨some 17, none, none, .ld false 1 (.t 4)⟩,
    ⟨some 18, none, none, .mkf 108 [] [.t 4]⟩,
    ⟨some 19, none, none, .call (.c (.fn 106 [] [])) [.t 17, .t 18]⟩,
    ⟨some 16, none, none, .mv (.t 19)⟩,
    ⟨some 20, none, none, .ext (.t 16) 0⟩,
    ⟨some 21, none, none, .ext (.t 16) 1⟩,
    ⟨some 6, none, none, .mv (.t 20)⟩,
    ⟨some 7, none, none, .mv (.t 21)⟩])
  (.seq (.ops [⟨some 22, none, none, .mv (.t 6)⟩,
    ⟨some 2, none, none, .mv (.t 22)⟩,
    ⟨some 3, none, none, .mv (.c (.int .i64 0))⟩])
  (.ret)))))⟩
def c49 : FD := ⟨11, [.tmp 4],
  .seq (.ops [⟨some 4, none, none, .mv (.c (.int .i64 0))⟩])
  (.seq (.ops [⟨some 5, none, none, .mv (.t 0)⟩,
    ⟨some 6, none, none, .call (.c (.fn 109 [] [])) [.t 5]⟩,
    ⟨some 7, none, none, .mv (.t 1)⟩,
    ⟨some 8, none, none, .ar .add (.t 7) (.c (.int .i64 1))⟩,
    ⟨some 9, none, none, .mx [.c (.int .i64 1), .t 8]⟩,
    ⟨some 10, none, none, .ar .rem (.t 6) (.t 9)⟩,
    ⟨some 4, none, none, .mv (.t 10)⟩])
  (.ret))⟩
def c50 : FD := ⟨35, [.cell 4 true 3, .tmp 5],
  .seq (.ops [⟨some 2, none, none, .box (.t 0)⟩,
    ⟨some 3, none, none, .box (.t 1)⟩,
    ⟨some 4, none, none, .alc [.int .i64 0, .nils, .nils]⟩,
    ⟨some 5, none, none, .mv (.c (.int .i64 0))⟩])
  (.seq (.seq (.ops [⟨some 9, none, none, .ld true 3 (.t 2)⟩,
    ⟨some 10, none, none, .call (.c (.fn 54 [] [])) [.t 9]⟩,
    ⟨some 6, none, none, .mv (.t 10)⟩])
  (.seq (.ops [⟨some 11, none, none, .mv (.t 6)⟩,
    ⟨some 12, none, none, .ar .neq (.t 11) (.c (.int .i64 0))⟩])
  (.cond (.t 12) (.seq (.ops [⟨some 13, none, none, .bld [.int .i64 0, .nils, .nils] []⟩,
    ⟨some 14, none, none, .mv (.t 6)⟩,
    ⟨none, none, none, .sto 3 (.t 4) (.t 13)⟩,
    ⟨some 5, none, none, .mv (.t 14)⟩])
  (.ret))
  (.skip))))
  (.seq (.seq (.ops [⟨some 15, none, none, .fad 2 (.t 2)⟩,
    ⟨some 16, none, none, .ld false 1 (.t 15)⟩,
    ⟨some 17, none, none, .len (.t 16)⟩,
    ⟨some 18, none, none, .ar .eql (.t 17) (.c (.int .i64 10))⟩])
  (.cond (.t 18) (.seq (.ops [⟨some 19, none, none, .bld [.int .i64 0, .nils, .nils] []⟩,
    ⟨none, none, none, .sto 3 (.t 4) (.t 19)⟩,
    ⟨some 5, none, none, .mv (.c (.int .i64 9))⟩])
  (.ret))
  (.skip)))
  (.seq (.ops [⟨some 20, none, none, .ld true 3 (.t 2)⟩,
    ⟨some 21, none, none, .call (.c (.fn 110 [] [])) [.t 20]⟩,
    ⟨some 7, none, none, .alc [.int .i64 0, .nils, .nils]⟩,
    ⟨none, none, none, .sto 3 (.t 7) (.t 21)⟩])
  (.seq (.ops [⟨some 22, none, none, .fad 2 (.t 7)⟩,
    ⟨some 23, none, none, .ld false 1 (.t 22)⟩,
    ⟨some 24, none, none, .ld true 4 (.t 3)⟩,
    ⟨some 25, none, none, .bsl 1 [.int .i64 0, .int .i64 0, .int .i64 0, .int .i64 0] [(0, 4, .t 24)]⟩,
    ⟨some 26, none, none, .app 4 32 (.t 23) (.t 25)⟩,
    ⟨some 27, none, none, .fad 2 (.t 7)⟩,
    ⟨none, none, none, .sto 1 (.t 27) (.t 26)⟩])
  (.seq (.seq (.ops [⟨some 28, none, none, .ld true 3 (.t 7)⟩,
    ⟨some 29, none, none, .call (.c (.fn 54 [] [])) [.t 28]⟩,
    ⟨some 8, none, none, .mv (.t 29)⟩])
  (.seq (.ops [⟨some 30, none, none, .mv (.t 8)⟩,
    ⟨some 31, none, none, .ar .neq (.t 30) (.c (.int .i64 0))⟩])
  (.cond (.t 31) (.seq (.ops [⟨some 32, none, none, .bld [.int .i64 0, .nils, .nils] []⟩,
    ⟨some 33, none, none, .mv (.t 8)⟩,
    ⟨none, none, none, .sto 3 (.t 4) (.t 32)⟩,
    ⟨some 5, none, none, .mv (.t 33)⟩])
  (.ret))
  (.skip))))
  (.seq (.ops [⟨some 34, none, none, .ld true 3 (.t 7)⟩,
    ⟨none, none, none, .sto 3 (.t 4) (.t 34)⟩,
    ⟨some 5, none, none, .mv (.c (.int .i64 0))⟩])
  (.ret)))))))⟩
def c51 : FD := ⟨45, [.cell 8 true 4],
  .seq (.ops [⟨some 5, none, none, .box (.t 1)⟩,
    ⟨some 8, none, none, .alc [.int .i64 0, .int .i64 0, .int .i64 0, .int .i64 0]⟩])
  (.seq (.ops [⟨some 12, none, none, .mv (.t 0)⟩,
    ⟨some 13, none, none, .call (.c (.fn 49 [] [])) [.t 12, .c (.int .i64 60)]⟩,
    ⟨some 9, none, none, .mv (.t 13)⟩])
  (.seq (.ops [⟨some 14, none, none, .mv (.t 0)⟩,
    ⟨some 15, none, none, .mv (.t 9)⟩,
    ⟨some 16, none, none, .mv (.t 9)⟩,
    ⟨some 17, none, none, .ar .add (.t 16) (.c (.int .i64 12))⟩,
    ⟨some 18, none, none, .mn [.c (.int .i64 60), .t 17]⟩,
    ⟨some 19, none, none, .call (.c (.fn 52 [] [])) [.t 14, .t 15, .t 18]⟩,
    ⟨some 10, none, none, .mv (.t 19)⟩])
  (.seq (.ops [⟨some 20, none, none, .mv (.t 0)⟩,
    ⟨some 21, none, none, .mv (.t 9)⟩,
    ⟨some 22, none, none, .mv (.t 10)⟩,
    ⟨some 23, none, none, .call (.c (.fn 52 [] [])) [.t 20, .t 21, .t 22]⟩,
    ⟨some 11, none, none, .mv (.t 23)⟩])
  (.seq (.ops [⟨some 24, none, none, .mv (.t 2)⟩,
    ⟨some 25, none, none, .mv (.t 3)⟩,
    ⟨some 26, none, none, .mv (.t 11)⟩,
    ⟨some 27, none, none, .ar .add (.c (.int .i64 100)) (.t 26)⟩,
    ⟨some 28, none, none, .ar .mul (.t 25) (.t 27)⟩,
    ⟨some 29, none, none, .ar .add (.t 28) (.c (.int .i64 50))⟩,
    ⟨some 30, none, none, .ar .quo (.t 29) (.c (.int .i64 100))⟩,
    ⟨some 31, none, none, .mv (.t 0)⟩,
    ⟨some 32, none, none, .fad 0 (.t 5)⟩,
    ⟨some 33, none, none, .ld false 1 (.t 32)⟩,
    ⟨some 34, none, none, .neg (.t 33)⟩,
    ⟨some 35, none, none, .fad 0 (.t 5)⟩,
    ⟨some 36, none, none, .ld false 1 (.t 35)⟩,
    ⟨some 37, none, none, .call (.c (.fn 52 [] [])) [.t 31, .t 34, .t 36]⟩,
    ⟨some 38, none, none, .ar .add (.t 30) (.t 37)⟩,
    ⟨some 39, none, none, .mx [.c (.int .i64 0), .t 38]⟩,
    ⟨some 40, none, none, .mn [.c (.int .i64 10000), .t 39]⟩,
    ⟨some 41, none, none, .mv (.t 9)⟩,
    ⟨some 42, none, none, .mv (.t 10)⟩,
    ⟨some 43, none, none, .bld [.int .i64 0, .int .i64 0] [(0, 1, .t 41), (1, 1, .t 42)]⟩,
    ⟨some 44, none, none, .bld [.int .i64 0, .int .i64 0, .int .i64 0, .int .i64 0] [(0, 1, .t 24), (1, 1, .t 40), (2, 2, .t 43)]⟩,
    ⟨none, none, none, .sto 4 (.t 8) (.t 44)⟩])
  (.ret)))))⟩
def c52 : FD := ⟨14, [.tmp 6],
  .seq (.ops [⟨some 6, none, none, .mv (.c (.int .i64 0))⟩])
  (.seq (.ops [⟨some 7, none, none, .mv (.t 1)⟩,
    ⟨some 8, none, none, .mv (.t 0)⟩,
    ⟨some 9, none, none, .mv (.t 2)⟩,
    ⟨some 10, none, none, .mv (.t 1)⟩,
    ⟨some 11, none, none, .ar .sub (.t 9) (.t 10)⟩,
    ⟨some 12, none, none, .call (.c (.fn 49 [] [])) [.t 8, .t 11]⟩,
    ⟨some 13, none, none, .ar .add (.t 7) (.t 12)⟩,
    ⟨some 6, none, none, .mv (.t 13)⟩])
  (.ret))⟩
def c53 : FD := ⟨71, [.cell 6 true 3, .tmp 7],
  .seq (.ops [⟨some 3, none, none, .box (.t 0)⟩,
    ⟨some 6, none, none, .alc [.int .i64 0, .nils, .nils]⟩,
    ⟨some 7, none, none, .mv (.c (.int .i64 0))⟩])
  (.seq (.ops [⟨some 14, none, none, .ld true 3 (.t 3)⟩,
    ⟨some 15, none, none, .mv (.t 1)⟩,
    ⟨some 16, none, none, .call (.c (.fn 98 [] [])) [.t 14, .t 15]⟩,
    ⟨some 13, none, none, .mv (.t 16)⟩,
    ⟨some 17, none, none, .ext (.t 13) 0⟩,
    ⟨some 18, none, none, .ext (.t 13) 1⟩,
    ⟨some 8, none, none, .mv (.t 17)⟩,
    ⟨some 9, none, none, .mv (.t 18)⟩])
  (.seq (.block 0 (.seq (.ops [⟨some 20, none, none, .mv (.t 9)⟩,
    ⟨some 21, none, none, .ar .neq (.t 20) (.c (.int .i64 0))⟩,
    ⟨some 19, none, none, .mv (.t 21)⟩])
  (.cond (.t 19) (.seq (.ops [⟨some 22, none, none, .bld [.int .i64 0, .nils, .nils] []⟩,
    ⟨some 23, none, none, .mv (.t 9)⟩,
    ⟨none, none, none, .sto 3 (.t 6) (.t 22)⟩,
    ⟨some 7, none, none, .mv (.t 23)⟩])
  (.ret))
  (.seq (.ops [⟨some 25, none, none, .mv (.t 8)⟩,
    ⟨some 26, none, none, .chk (.t 25)⟩,
    ⟨some 27, none, none, .fad 3 (.t 26)⟩,
    ⟨some 28, none, none, .ld false 1 (.t 27)⟩,
    ⟨some 29, none, none, .mv (.t 1)⟩,
    ⟨some 30, none, none, .lkp none (.nils) (.t 28) (.t 29) false⟩,
    ⟨some 31, none, none, .len (.t 30)⟩,
    ⟨some 32, none, none, .ar .gtr (.t 31) (.c (.int .i64 0))⟩,
    ⟨some 24, none, none, .mv (.t 32)⟩])
  (.cond (.t 24) (.seq (.ops [⟨some 33, none, none, .bld [.int .i64 0, .nils, .nils] []⟩,
    ⟨none, none, none, .sto 3 (.t 6) (.t 33)⟩,
    ⟨some 7, none, none, .mv (.c (.int .i64 5))⟩])
  (.ret))
  (.seq (.ops [⟨some 35, none, none, .mv (.t 2)⟩,
    ⟨some 36, none, none, .len (.t 35)⟩,
    ⟨some 37, none, none, .ar .eql (.t 36) (.c (.int .i64 0))⟩,
    ⟨some 34, none, none, .mv (.t 37)⟩])
  (.cond (.t 34) (.seq (.ops [⟨some 38, none, none, .bld [.int .i64 0, .nils, .nils] []⟩,
    ⟨none, none, none, .sto 3 (.t 6) (.t 38)⟩,
    ⟨some 7, none, none, .mv (.c (.int .i64 2))⟩])
  (.ret))
  (.seq (.ops [⟨some 40, none, none, .fad 1 (.t 3)⟩,
    ⟨some 41, none, none, .ld false 1 (.t 40)⟩,
    ⟨some 42, none, none, .len (.t 41)⟩,
    ⟨some 43, none, none, .mv (.t 2)⟩,
    ⟨some 44, none, none, .len (.t 43)⟩,
    ⟨some 45, none, none, .ar .add (.t 42) (.t 44)⟩,
    ⟨some 46, none, none, .ar .gtr (.t 45) (.c (.int .i64 12))⟩,
    ⟨some 39, none, none, .mv (.t 46)⟩])
  (.cond (.t 39) (.seq (.ops [⟨some 47, none, none, .bld [.int .i64 0, .nils, .nils] []⟩,
    ⟨none, none, none, .sto 3 (.t 6) (.t 47)⟩,
    ⟨some 7, none, none, .mv (.c (.int .i64 9))⟩])
  (.ret))
  (.seq (.ops [⟨some 49, none, none, .mv (.t 2)⟩,
    ⟨some 50, none, none, .call (.c (.fn 111 [] [])) [.t 49, .c (.fn 78 [] [])]⟩,
    ⟨some 51, none, none, .not (.t 50)⟩,
    ⟨some 48, none, none, .mv (.t 51)⟩])
  (.cond (.t 48) (.seq (.ops [⟨some 52, none, none, .bld [.int .i64 0, .nils, .nils] []⟩,
    ⟨none, none, none, .sto 3 (.t 6) (.t 52)⟩,
    ⟨some 7, none, none, .mv (.c (.int .i64 3))⟩])
  (.ret))
  (.skip))))))))))))
  (.seq (.ops [⟨some 53, none, none, .ld true 3 (.t 3)⟩,
    ⟨some 54, none, none, .call (.c (.fn 110 [] [])) [.t 53]⟩,
    ⟨some 10, none, none, .alc [.int .i64 0, .nils, .nils]⟩,
    ⟨none, none, none, .sto 3 (.t 10) (.t 54)⟩])
  (.seq (.seq (.ops [⟨some 55, none, none, .mv (.t 2)⟩,
    ⟨some 56, none, none, .len (.t 55)⟩,
    ⟨some 57, none, none, .mv (.c (.int .i64 0))⟩])
  (.block 1 (.loop (.seq (.ops [⟨some 58, none, none, .ar .lss (.t 57) (.t 56)⟩])
  (.seq (.cond (.t 58) (.skip)
  (.exit 1))
  (.seq (.block 2 (.seq (.ops [⟨some 59, none, none, .iad 1 (.t 55) (.t 57)⟩,
    ⟨some 60, none, none, .ld false 1 (.t 59)⟩,
    ⟨some 12, none, none, .mv (.t 60)⟩])
  (.ops [⟨some 61, none, none, .fad 1 (.t 10)⟩,
    ⟨some 62, none, none, .ld false 1 (.t 61)⟩,
    ⟨some 63, none, none, .mv (.t 1)⟩,
    ⟨some 64, none, none, .mv (.t 12)⟩,
    ⟨some 65, none, none, .bld [.int .i64 0, .int .i64 0] [(0, 1, .t 63), (1, 1, .t 64)]⟩,
    ⟨some 66, none, none, .bsl 1 [.int .i64 0, .int .i64 0] [(0, 2, .t 65)]⟩,
    ⟨some 67, none, none, .app 2 16 (.t 62) (.t 66)⟩,
    ⟨some 68, none, none, .fad 1 (.t 10)⟩,
    ⟨none, none, none, .sto 1 (.t 68) (.t 67)⟩])))
  (.ops [⟨some 69, none, none, .ar .add (.t 57) (.c (.int .i64 1))⟩,
    ⟨some 57, none, none, .mv (.t 69)⟩])))))))
  (.seq (.ops [⟨some 70, none, none, .ld true 3 (.t 10)⟩,
    ⟨none, none, none, .sto 3 (.t 6) (.t 70)⟩,
    ⟨some 7, none, none, .mv (.c (.int .i64 0))⟩])
  (.ret))))))⟩
def c54 : FD := ⟨61, [.tmp 2],
  .seq (.ops [⟨some 1, none, none, .box (.t 0)⟩,
    ⟨some 2, none, none, .mv (.c (.int .i64 0))⟩])
  (.seq (.seq (.ops [⟨some 6, none, none, .fad 1 (.t 1)⟩,
    ⟨some 7, none, none, .ld false 1 (.t 6)⟩,
    ⟨some 8, none, none, .len (.t 7)⟩,
    ⟨some 9, none, none, .call (.c (.fn 112 [] [])) [.t 8, .c (.int .i64 1), .c (.int .i64 12)]⟩,
    ⟨some 10, none, none, .not (.t 9)⟩,
    ⟨some 11, none, none, .mv (.t 10)⟩,
    ⟨some 12, some (11, false), none, .fad 2 (.t 1)⟩,
    ⟨some 13, some (11, false), none, .ld false 1 (.t 12)⟩,
    ⟨some 14, some (11, false), none, .len (.t 13)⟩,
    ⟨some 15, some (11, false), none, .ar .gtr (.t 14) (.c (.int .i64 10))⟩,
    ⟨some 16, none, none, .pick (.t 11) (.c (.bool true)) (.t 15)⟩])
  (.cond (.t 16) (.seq (.ops [⟨some 2, none, none, .mv (.c (.int .i64 2))⟩])
  (.ret))
  (.skip)))
  (.seq (.seq (.ops [⟨some 17, none, none, .fad 0 (.t 1)⟩,
    ⟨some 18, none, none, .ld false 1 (.t 17)⟩,
    ⟨some 19, none, none, .call (.c (.fn 112 [] [])) [.t 18, .c (.int .i64 0), .c (.int .i64 50)]⟩,
    ⟨some 20, none, none, .not (.t 19)⟩,
    ⟨some 21, none, none, .mv (.t 20)⟩,
    ⟨some 22, some (21, false), none, .fad 2 (.t 1)⟩,
    ⟨some 23, some (21, false), none, .ld false 1 (.t 22)⟩,
    ⟨some 24, some (21, false), none, .call (.c (.fn 113 [] [])) [.t 23, .c (.fn 114 [] [])]⟩,
    ⟨some 25, some (21, false), none, .not (.t 24)⟩,
    ⟨some 26, none, none, .pick (.t 21) (.c (.bool true)) (.t 25)⟩,
    ⟨some 27, none, none, .mv (.t 26)⟩,
    ⟨some 28, some (27, false), none, .fad 1 (.t 1)⟩,
    ⟨some 29, some (27, false), none, .ld false 1 (.t 28)⟩,
    ⟨some 30, some (27, false), none, .call (.c (.fn 115 [] [])) [.t 29, .c (.fn 116 [] [])]⟩,
    ⟨some 31, some (27, false), none, .not (.t 30)⟩,
    ⟨some 32, none, none, .pick (.t 27) (.c (.bool true)) (.t 31)⟩])
  (.cond (.t 32) (.seq (.ops [⟨some 2, none, none, .mv (.c (.int .i64 3))⟩])
  (.ret))
  (.skip)))
  (.seq (.seq (.ops [⟨some 33, none, none, .fad 1 (.t 1)⟩,
    ⟨some 34, none, none, .ld false 1 (.t 33)⟩,
    ⟨some 35, none, none, .len (.t 34)⟩,
    ⟨some 36, none, none, .mv (.c (.int .i64 0))⟩])
  (.block 0 (.loop (.seq (.ops [⟨some 37, none, none, .ar .lss (.t 36) (.t 35)⟩])
  (.seq (.cond (.t 37) (.skip)
  (.exit 0))
  (.seq (.block 1 (.seq (.ops [⟨some 38, none, none, .mv (.t 36)⟩,
    ⟨some 39, none, none, .iad 2 (.t 34) (.t 36)⟩,
    ⟨some 40, none, none, .ld true 2 (.t 39)⟩,
    ⟨some 4, none, none, .alc [.int .i64 0, .int .i64 0]⟩,
    ⟨some 3, none, none, .mv (.t 38)⟩,
    ⟨none, none, none, .sto 2 (.t 4) (.t 40)⟩])
  (.seq (.ops [⟨some 41, none, none, .fad 0 (.t 4)⟩,
    ⟨some 42, none, none, .ld false 1 (.t 41)⟩,
    ⟨some 43, none, none, .mv (.t 3)⟩,
    ⟨some 44, none, none, .ar .sub (.t 43) (.c (.int .i64 1))⟩,
    ⟨some 45, none, none, .call (.c (.fn 112 [] [])) [.t 42, .c (.int .i64 (-1)), .t 44]⟩,
    ⟨some 46, none, none, .not (.t 45)⟩])
  (.cond (.t 46) (.seq (.ops [⟨some 2, none, none, .mv (.c (.int .i64 1))⟩])
  (.ret))
  (.skip)))))
  (.ops [⟨some 47, none, none, .ar .add (.t 36) (.c (.int .i64 1))⟩,
    ⟨some 36, none, none, .mv (.t 47)⟩])))))))
  (.seq (.ops [⟨some 48, none, none, .ld true 3 (.t 1)⟩,
    ⟨some 49, none, none, .mkf 91 [.t 48] []⟩,
    ⟨some 5, none, none, .alc [.nilf]⟩,
    ⟨none, none, none, .sto 1 (.t 5) (.t 49)⟩])
  (.seq (.block 2 (.seq (.ops [⟨some 51, none, none, .fad 2 (.t 1)⟩,
    ⟨some 52, none, none, .ld false 1 (.t 51)⟩,
    ⟨some 53, none, none, .mkf 117 [] [.t 5]⟩,
    ⟨some 54, none, none, .call (.c (.fn 113 [] [])) [.t 52, .t 53]⟩,
    ⟨some 55, none, none, .not (.t 54)⟩,
    ⟨some 50, none, none, .mv (.t 55)⟩])
  (.cond (.t 50) (.seq (.ops [⟨some 2, none, none, .mv (.c (.int .i64 1))⟩])
  (.ret))
  (.seq (.ops [⟨some 57, none, none, .fad 2 (.t 1)⟩,
    ⟨some 58, none, none, .ld false 1 (.t 57)⟩,
    ⟨some 59, none, none, .call (.c (.fn 113 [] [])) [.t 58, .c (.fn 118 [] [])]⟩,
    ⟨some 60, none, none, .not (.t 59)⟩,
    ⟨some 56, none, none, .mv (.t 60)⟩])
  (.cond (.t 56) (.seq (.ops [⟨some 2, none, none, .mv (.c (.int .i64 4))⟩])
  (.ret))
  (.skip))))))
  (.seq (.ops [⟨some 2, none, none, .mv (.c (.int .i64 0))⟩])
  (.ret)))))))⟩
def c55 : FD := ⟨29, [.tmp 4],
  .seq (.ops [⟨some 2, none, none, .box (.t 0)⟩,
    ⟨some 4, none, none, .mv (.c (.nils))⟩])
  (.seq (.ops [⟨some 5, none, none, .mv (.c (.nils))⟩])
  (.seq (.seq (.ops [⟨some 7, none, none, .mv (.t 1)⟩,
    ⟨some 8, none, none, .ar .add (.t 7) (.c (.int .i64 1))⟩,
    ⟨some 6, none, none, .mv (.t 8)⟩])
  (.block 0 (.loop (.seq (.seq (.ops [⟨some 9, none, none, .mv (.t 6)⟩,
    ⟨some 10, none, none, .fad 1 (.t 2)⟩,
    ⟨some 11, none, none, .ld false 1 (.t 10)⟩,
    ⟨some 12, none, none, .len (.t 11)⟩,
    ⟨some 13, none, none, .ar .lss (.t 9) (.t 12)⟩])
  (.cond (.t 13) (.skip)
  (.exit 0)))
  (.seq (.block 1 (.seq (.ops [⟨some 16, none, none, .fad 1 (.t 2)⟩,
    ⟨some 17, none, none, .ld false 1 (.t 16)⟩,
    ⟨some 18, none, none, .mv (.t 6)⟩,
    ⟨some 19, none, none, .iad 2 (.t 17) (.t 18)⟩,
    ⟨some 20, none, none, .fad 0 (.t 19)⟩,
    ⟨some 21, none, none, .ld false 1 (.t 20)⟩,
    ⟨some 22, none, none, .mv (.t 1)⟩,
    ⟨some 23, none, none, .ar .eql (.t 21) (.t 22)⟩])
  (.cond (.t 23) (.ops [⟨some 24, none, none, .mv (.t 5)⟩,
    ⟨some 25, none, none, .mv (.t 6)⟩,
    ⟨some 26, none, none, .bsl 1 [.int .i64 0] [(0, 1, .t 25)]⟩,
    ⟨some 27, none, none, .app 1 8 (.t 24) (.t 26)⟩,
    ⟨some 5, none, none, .mv (.t 27)⟩])
  (.skip))))
  (.ops [⟨some 14, none, none, .mv (.t 6)⟩,
    ⟨some 15, none, none, .ar .add (.t 14) (.c (.int .i64 1))⟩,
    ⟨some 6, none, none, .mv (.t 15)⟩]))))))
  (.seq (.ops [⟨some 28, none, none, .mv (.t 5)⟩,
    ⟨some 4, none, none, .mv (.t 28)⟩])
  (.ret))))⟩
def c56 : FD := ⟨19, [.tmp 4],
  .seq (.ops [⟨some 2, none, none, .box (.t 0)⟩,
    ⟨some 4, none, none, .mv (.c (.nils))⟩])
  (.seq (.ops [⟨some 5, none, none, .mv (.c (.nils))⟩])
  (.seq (.block 0 (.loop (.seq (.seq (.ops [⟨some 6, none, none, .mv (.t 1)⟩,
    ⟨some 7, none, none, .ar .geq (.t 6) (.c (.int .i64 0))⟩])
  (.cond (.t 7) (.skip)
  (.exit 0)))
  (.block 1 (.seq (.ops [⟨some 8, none, none, .mv (.t 5)⟩,
    ⟨some 9, none, none, .mv (.t 1)⟩,
    ⟨some 10, none, none, .bsl 1 [.int .i64 0] [(0, 1, .t 9)]⟩,
    ⟨some 11, none, none, .app 1 8 (.t 8) (.t 10)⟩,
    ⟨some 5, none, none, .mv (.t 11)⟩])
  (.ops [⟨some 12, none, none, .fad 1 (.t 2)⟩,
    ⟨some 13, none, none, .ld false 1 (.t 12)⟩,
    ⟨some 14, none, none, .mv (.t 1)⟩,
    ⟨some 15, none, none, .iad 2 (.t 13) (.t 14)⟩,
    ⟨some 16, none, none, .fad 0 (.t 15)⟩,
    ⟨some 17, none, none, .ld false 1 (.t 16)⟩,
    ⟨some 1, none, none, .mv (.t 17)⟩]))))))
  (.seq (.ops [⟨some 18, none, none, .mv (.t 5)⟩,
    ⟨some 4, none, none, .mv (.t 18)⟩])
  (.ret))))⟩
def c57 : FD := ⟨56, [.tmp 4, .tmp 5],
  .seq (.ops [⟨some 2, none, none, .box (.t 0)⟩,
    ⟨some 4, none, none, .mv (.c (.int .i64 0))⟩,
    ⟨some 5, none, none, .mv (.c (.int .i64 0))⟩])
  (.seq (.ops [⟨some 11, none, none, .fad 2 (.t 2)⟩,
    ⟨some 12, none, none, .ld false 1 (.t 11)⟩,
    ⟨some 13, none, none, .mv (.t 1)⟩,
    ⟨some 14, none, none, .iad 4 (.t 12) (.t 13)⟩,
    ⟨some 15, none, none, .ld true 4 (.t 14)⟩,
    ⟨some 6, none, none, .alc [.int .i64 0, .int .i64 0, .int .i64 0, .int .i64 0]⟩,
    ⟨none, none, none, .sto 4 (.t 6) (.t 15)⟩])
  (.seq (.ops [⟨some 7, none, none, .mv (.c (.int .i64 0))⟩])
  (.seq (.seq (.ops [⟨some 8, none, none, .mv (.c (.int .i64 8192))⟩])
  (.block 0 (.loop (.seq (.seq (.ops [⟨some 16, none, none, .mv (.t 8)⟩,
    ⟨some 17, none, none, .ar .gtr (.t 16) (.c (.int .i64 0))⟩])
  (.cond (.t 17) (.skip)
  (.exit 0)))
  (.seq (.block 1 (.seq (.ops [⟨some 20, none, none, .mv (.t 7)⟩,
    ⟨some 21, none, none, .mv (.t 8)⟩,
    ⟨some 22, none, none, .ar .add (.t 20) (.t 21)⟩,
    ⟨some 23, none, none, .ar .sub (.t 22) (.c (.int .i64 1))⟩,
    ⟨some 24, none, none, .fad 2 (.t 6)⟩,
    ⟨some 25, none, none, .fad 1 (.t 24)⟩,
    ⟨some 26, none, none, .ld false 1 (.t 25)⟩,
    ⟨some 27, none, none, .ar .add (.c (.int .i64 100)) (.t 26)⟩,
    ⟨some 28, none, none, .ar .mul (.t 23) (.t 27)⟩,
    ⟨some 29, none, none, .fad 1 (.t 6)⟩,
    ⟨some 30, none, none, .ld false 1 (.t 29)⟩,
    ⟨some 31, none, none, .fad 0 (.t 2)⟩,
    ⟨some 32, none, none, .ld false 1 (.t 31)⟩,
    ⟨some 33, none, none, .ar .sub (.t 30) (.t 32)⟩,
    ⟨some 34, none, none, .ar .mul (.c (.int .i64 100)) (.t 33)⟩,
    ⟨some 35, none, none, .ar .lss (.t 28) (.t 34)⟩])
  (.cond (.t 35) (.ops [⟨some 36, none, none, .mv (.t 7)⟩,
    ⟨some 37, none, none, .mv (.t 8)⟩,
    ⟨some 38, none, none, .ar .add (.t 36) (.t 37)⟩,
    ⟨some 7, none, none, .mv (.t 38)⟩])
  (.skip))))
  (.ops [⟨some 18, none, none, .mv (.t 8)⟩,
    ⟨some 19, none, none, .ar .quo (.t 18) (.c (.int .i64 2))⟩,
    ⟨some 8, none, none, .mv (.t 19)⟩]))))))
  (.seq (.ops [⟨some 9, none, none, .mv (.c (.int .i64 10000))⟩])
  (.seq (.seq (.ops [⟨some 39, none, none, .fad 1 (.t 6)⟩,
    ⟨some 40, none, none, .ld false 1 (.t 39)⟩,
    ⟨some 41, none, none, .fad 0 (.t 2)⟩,
    ⟨some 42, none, none, .ld false 1 (.t 41)⟩,
    ⟨some 43, none, none, .ar .add (.t 40) (.t 42)⟩,
    ⟨some 44, none, none, .ar .mul (.c (.int .i64 100)) (.t 43)⟩,
    ⟨some 45, none, none, .fad 2 (.t 6)⟩,
    ⟨some 46, none, none, .fad 0 (.t 45)⟩,
    ⟨some 47, none, none, .ld false 1 (.t 46)⟩,
    ⟨some 48, none, none, .ar .add (.c (.int .i64 100)) (.t 47)⟩,
    ⟨some 49, none, none, .ar .quo (.t 44) (.t 48)⟩,
    ⟨some 10, none, none, .mv (.t 49)⟩])
  (.seq (.ops [⟨some 50, none, none, .mv (.t 10)⟩,
    ⟨some 51, none, none, .mv (.t 9)⟩,
    ⟨some 52, none, none, .ar .lss (.t 50) (.t 51)⟩])
  (.cond (.t 52) (.ops [⟨some 53, none, none, .mv (.t 10)⟩,
    ⟨some 9, none, none, .mv (.t 53)⟩])
  (.skip))))
  (.seq (.ops [⟨some 54, none, none, .mv (.t 7)⟩,
    ⟨some 55, none, none, .mv (.t 9)⟩,
    ⟨some 4, none, none, .mv (.t 54)⟩,
    ⟨some 5, none, none, .mv (.t 55)⟩])
  (.ret)))))))⟩
def c58 : FD := ⟨20, [.tmp 4, .tmp 5],
  .seq (.ops [⟨some 2, none, none, .box (.t 0)⟩,
    ⟨some 4, none, none, .mv (.c (.nils))⟩,
    ⟨some 5, none, none, .mv (.c (.int .i64 0))⟩])
  (.seq (.ops [⟨some 9, none, none, .ld true 3 (.t 2)⟩,
    ⟨some 10, none, none, .mv (.t 1)⟩,
    ⟨some 11, none, none, .call (.c (.fn 98 [] [])) [.t 9, .t 10]⟩,
    ⟨some 8, none, none, .mv (.t 11)⟩,
    ⟨some 12, none, none, .ext (.t 8) 0⟩,
    ⟨some 13, none, none, .ext (.t 8) 1⟩,
    ⟨some 6, none, none, .mv (.t 12)⟩,
    ⟨some 7, none, none, .mv (.t 13)⟩])
  (.seq (.seq (.ops [⟨some 14, none, none, .mv (.t 7)⟩,
    ⟨some 15, none, none, .ar .neq (.t 14) (.c (.int .i64 0))⟩])
  (.cond (.t 15) (.seq (.ops [⟨some 16, none, none, .mv (.t 7)⟩,
    ⟨some 4, none, none, .mv (.c (.nils))⟩,
    ⟨some 5, none, none, .mv (.t 16)⟩])
  (.ret))
  (.skip)))
  (.seq (.ops [⟨some 17, none, none, .mv (.t 6)⟩,
    ⟨some 18, none, none, .mv (.t 1)⟩,
    ⟨some 19, none, none, .call (.c (.fn 119 [] [])) [.t 17, .t 18]⟩,
    ⟨some 4, none, none, .mv (.t 19)⟩,
    ⟨some 5, none, none, .mv (.c (.int .i64 0))⟩])
  (.ret))))⟩
def c59 : FD := ⟨10, [.tmp 4],
  .seq (.ops [⟨some 4, none, none, .mv (.c (.bool false))⟩])
  (.seq (.ops [⟨some 5, none, none, .mv (.t 0)⟩,
    ⟨some 6, none, none, .mv (.t 1)⟩,
    ⟨some 7, none, none, .ar .sub (.t 6) (.c (.int .i64 1))⟩,
    ⟨some 8, none, none, .call (.c (.fn 49 [] [])) [.t 5, .t 7]⟩,
    ⟨some 9, none, none, .ar .eql (.t 8) (.c (.int .i64 0))⟩,
    ⟨some 4, none, none, .mv (.t 9)⟩])
  (.ret))⟩
def c60 : FD := ⟨21, [.tmp 2],
  .seq (.ops [⟨some 2, none, none, .mv (.c (.bool false))⟩])
  (.seq (.seq (.ops [⟨some 4, none, none, .mv (.t 0)⟩,
    ⟨some 5, none, none, .len (.t 4)⟩,
    ⟨some 6, none, none, .ar .sub (.t 5) (.c (.int .i64 1))⟩,
    ⟨some 3, none, none, .mv (.t 6)⟩])
  (.block 0 (.loop (.seq (.seq (.ops [⟨some 7, none, none, .mv (.t 3)⟩,
    ⟨some 8, none, none, .ar .gtr (.t 7) (.c (.int .i64 0))⟩])
  (.cond (.t 8) (.skip)
  (.exit 0)))
  (.seq (.block 1 (.seq (.dops [⟨some 11, none, none, .mv (.t 0)⟩,
    ⟨some 12, none, none, .mv (.t 3)⟩,
    ⟨some 13, none, none, .iad 1 (.t 11) (.t 12)⟩,
    ⟨some 14, none, some (0, 0), .ld false 1 (.t 13)⟩,
    ⟨some 15, none, none, .mv (.t 0)⟩,
    ⟨some 16, none, none, .mv (.t 3)⟩,
    ⟨some 17, none, none, .ar .sub (.t 16) (.c (.int .i64 1))⟩,
    ⟨some 18, none, none, .iad 1 (.t 15) (.t 17)⟩,
    ⟨some 19, none, some (0, 0), .ld false 1 (.t 18)⟩,
    ⟨some 20, none, none, .call (.c (.fn 120 [] [])) [.t 14, .t 19]⟩])
  (.cond (.t 20) (.seq (.ops [⟨some 2, none, none, .mv (.c (.bool false))⟩])
  (.ret))
  (.skip))))
  (.ops [⟨some 9, none, none, .mv (.t 3)⟩,
    ⟨some 10, none, none, .ar .sub (.t 9) (.c (.int .i64 1))⟩,
    ⟨some 3, none, none, .mv (.t 10)⟩]))))))
  (.seq (.ops [⟨some 2, none, none, .mv (.c (.bool true))⟩])
  (.ret)))⟩
def c61 : FD := ⟨9, [.tmp 4],
  .seq (.ops [⟨some 4, none, none, .mv (.c (.bool false))⟩])
  (.seq (.ops [⟨some 5, none, none, .mv (.t 0)⟩,
    ⟨some 6, none, none, .mv (.t 1)⟩,
    ⟨some 7, none, none, .call (.c (.fn 121 [] [])) [.t 5, .t 6]⟩,
    ⟨some 8, none, none, .ar .geq (.t 7) (.c (.int .i64 0))⟩,
    ⟨some 4, none, none, .mv (.t 8)⟩])
  (.ret))⟩
def c62 : FD := ⟨33, [.tmp 6],
  .seq (.ops [⟨some 6, none, none, .mv (.c (.nils))⟩])
  (.seq (.ops [⟨some 8, none, none, .mv (.t 0)⟩,
    ⟨some 9, none, none, .mv (.t 1)⟩,
    ⟨some 10, none, none, .mv (.t 2)⟩,
    ⟨some 11, none, none, .mv (.t 0)⟩,
    ⟨some 12, none, none, .len (.t 11)⟩,
    ⟨some 13, none, none, .slc 1 (.t 8) (some (.t 9)) (some (.t 10)) (some (.t 12))⟩])
  (.seq (.seq (.ops [⟨some 14, none, none, .mv (.t 1)⟩,
    ⟨some 15, none, none, .mv (.t 2)⟩,
    ⟨some 16, none, none, .ar .eql (.t 14) (.t 15)⟩])
  (.cond (.t 16) (.seq (.ops [⟨some 17, none, none, .mv (.t 0)⟩,
    ⟨some 6, none, none, .mv (.t 17)⟩])
  (.ret))
  (.skip)))
  (.seq (.ops [⟨some 18, none, none, .mv (.t 0)⟩,
    ⟨some 19, none, none, .len (.t 18)⟩,
    ⟨some 7, none, none, .mv (.t 19)⟩])
  (.seq (.dops [⟨some 20, none, none, .mv (.t 0)⟩,
    ⟨some 21, none, none, .mv (.t 1)⟩,
    ⟨some 22, none, some (0, 0), .slc 1 (.t 20) none (some (.t 21)) none⟩,
    ⟨some 23, none, none, .mv (.t 0)⟩,
    ⟨some 24, none, none, .mv (.t 2)⟩,
    ⟨some 25, none, some (0, 0), .slc 1 (.t 23) (some (.t 24)) none none⟩,
    ⟨some 26, none, none, .app 1 8 (.t 22) (.t 25)⟩,
    ⟨some 0, none, none, .mv (.t 26)⟩])
  (.seq (.ops [⟨some 27, none, none, .mv (.t 0)⟩,
    ⟨some 28, none, none, .mv (.t 0)⟩,
    ⟨some 29, none, none, .len (.t 28)⟩,
    ⟨some 30, none, none, .mv (.t 7)⟩,
    ⟨some 31, none, none, .slc 1 (.t 27) (some (.t 29)) (some (.t 30)) none⟩,
    ⟨none, none, none, .clr 1 [.int .i64 0] (.t 31)⟩])
  (.seq (.ops [⟨some 32, none, none, .mv (.t 0)⟩,
    ⟨some 6, none, none, .mv (.t 32)⟩])
  (.ret)))))))⟩
def c63 : FD := ⟨8, [.tmp 2],
  .seq (.ops [⟨some 2, none, none, .mv (.c (.nils))⟩])
  (.seq (.seq (.ops [⟨some 3, none, none, .mv (.t 0)⟩,
    ⟨some 4, none, none, .isn false (.t 3)⟩])
  (.cond (.t 4) (.seq (.ops [⟨some 2, none, none, .mv (.c (.nils))⟩])
  (.ret))
  (.skip)))
  (.seq (.ops [⟨some 5, none, none, .bsl 0 [] []⟩,
    ⟨some 6, none, none, .mv (.t 0)⟩,
    ⟨some 7, none, none, .app 1 8 (.t 5) (.t 6)⟩,
    ⟨some 2, none, none, .mv (.t 7)⟩])
  (.ret)))⟩
def c64 : FD := ⟨9, [.tmp 4],
  .seq (.ops [⟨some 4, none, none, .mv (.c (.bool false))⟩])
  (.seq (.ops [⟨some 5, none, none, .mv (.t 0)⟩,
    ⟨some 6, none, none, .mv (.t 1)⟩,
    ⟨some 7, none, none, .call (.c (.fn 122 [] [])) [.t 5, .t 6]⟩,
    ⟨some 8, none, none, .ar .geq (.t 7) (.c (.int .i64 0))⟩,
    ⟨some 4, none, none, .mv (.t 8)⟩])
  (.ret))⟩
def c65 : FD := ⟨7, [.tmp 3],
  .seq (.ops [⟨some 3, none, none, .mv (.c (.bool false))⟩])
  (.seq (.ops [⟨some 4, none, none, .ld false 1 (.t 1)⟩,
    ⟨some 5, none, none, .mv (.t 0)⟩,
    ⟨some 6, none, none, .call (.c (.fn 61 [] [])) [.t 4, .t 5]⟩,
    ⟨some 3, none, none, .mv (.t 6)⟩])
  (.ret))⟩
def c66 : FD := ⟨8, [.tmp 2],
  .seq (.ops [⟨some 2, none, none, .mv (.c (.nils))⟩])
  (.seq (.ops [⟨some 3, none, none, .mv (.t 0)⟩,
    ⟨some 4, none, none, .len (.t 3)⟩,
    ⟨some 5, none, none, .msl 1 8 [.int .i64 0] (.c (.int .i64 0)) (.t 4)⟩,
    ⟨some 6, none, none, .mv (.t 0)⟩,
    ⟨some 7, none, none, .app 1 8 (.t 5) (.t 6)⟩,
    ⟨some 2, none, none, .mv (.t 7)⟩])
  (.ret))⟩
def c67 : FD := ⟨8, [.tmp 4],
  .seq (.ops [⟨some 4, none, none, .mv (.c (.bool false))⟩])
  (.seq (.ops [⟨some 5, none, none, .mv (.t 0)⟩,
    ⟨some 6, none, none, .mv (.t 1)⟩,
    ⟨some 7, none, none, .call (.c (.fn 123 [] [])) [.t 5, .t 6]⟩,
    ⟨some 4, none, none, .mv (.t 7)⟩])
  (.ret))⟩
end Go.Ab.Try
