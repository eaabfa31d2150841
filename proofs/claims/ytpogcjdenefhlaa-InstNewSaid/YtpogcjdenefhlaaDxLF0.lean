/- The readings of functions, printed by a program of the prover's own. -/
import Derived.Test.YtpogcjdenefhlaaDx19
import Derived.Test.YtpogcjdenefhlaaChecked
import Derived.Eval
namespace Go.Dx.SYtpogcjdenefhlaa
open Go.Proofs
set_option linter.unusedVariables false
theorem mixed : Try.prog.follows .mixedOrders = true := Try.checked.mixed
/-- cloakroom/cloakroomlaw16.InstNew -/
def F3 : SFn := ⟨.seq (.region [⟨some 4, none, .mov (.c (.bool false))⟩] [0, 1])
   (.seq (.seq (.region [⟨some 17, none, .call 6 []⟩,
    ⟨some 18, none, .un .not (.t 17)⟩] [0, 1, 18])
   (.cond (.t 18) (.seq (.region [⟨some 4, none, .mov (.c (.bool false))⟩] [4])
   (.ret)) (.skip)))
   (.seq (.seq (.region [⟨some 19, none, .mov (.t 0)⟩,
    ⟨some 20, none, .lenV (.t 19)⟩,
    ⟨some 21, none, .bin .gtr (.t 20) (.c (.int .i64 150))⟩,
    ⟨some 22, none, .mov (.t 21)⟩,
    ⟨some 23, some (22, false), .mov (.t 1)⟩,
    ⟨some 24, some (22, false), .lenS (.t 23)⟩,
    ⟨some 25, some (22, false), .bin .gtr (.t 24) (.c (.int .i64 40))⟩,
    ⟨some 26, none, .pick (.t 22) (.c (.bool true)) (.t 25)⟩] [0, 1, 26])
   (.cond (.t 26) (.seq (.region [⟨some 4, none, .mov (.c (.bool true))⟩] [4])
   (.ret)) (.skip)))
   (.seq (.region [⟨some 27, none, .mov (.t 0)⟩,
    ⟨some 28, none, .call 7 [.t 27]⟩,
    ⟨some 29, none, .call 8 [.t 28]⟩,
    ⟨some 5, none, .new [.slice none 0 0, .slice none 0 0, .slice none 0 0, .slice none 0 0, .slice none 0 0, .slice none 0 0, .bool false, .int .u32 0, .slice none 0 0, .bool false, .int .u32 0, .slice none 0 0, .slice none 0 0]⟩,
    ⟨none, none, .st 13 (.t 5) (.t 29)⟩] [1, 5])
   (.seq (.region [⟨some 31, none, .ld 13 true (.t 5)⟩,
    ⟨some 32, none, .call 9 [.t 31]⟩,
    ⟨some 30, none, .mov (.t 32)⟩,
    ⟨some 33, none, .ext (.t 30) 0⟩,
    ⟨some 34, none, .ext (.t 30) 1⟩,
    ⟨some 6, none, .mov (.t 33)⟩,
    ⟨some 7, none, .mov (.t 34)⟩] [1, 5, 6, 7])
   (.seq (.region [⟨some 36, none, .ld 13 true (.t 5)⟩,
    ⟨some 37, none, .call 10 [.t 36]⟩,
    ⟨some 35, none, .mov (.t 37)⟩,
    ⟨some 38, none, .ext (.t 35) 0⟩,
    ⟨some 39, none, .ext (.t 35) 1⟩,
    ⟨some 8, none, .mov (.t 38)⟩,
    ⟨some 9, none, .mov (.t 39)⟩] [1, 6, 7, 8, 9])
   (.seq (.seq (.region [⟨some 40, none, .mov (.t 7)⟩,
    ⟨some 41, none, .mov (.t 9)⟩,
    ⟨some 42, none, .bin .neq (.t 40) (.t 41)⟩,
    ⟨some 43, none, .mov (.t 42)⟩,
    ⟨some 44, some (43, false), .mov (.t 6)⟩,
    ⟨some 45, some (43, false), .eqk false .ptr (.t 44) (.c (.pointer none))⟩,
    ⟨some 46, none, .pick (.t 43) (.c (.bool true)) (.t 45)⟩,
    ⟨some 47, none, .mov (.t 46)⟩,
    ⟨some 48, some (47, false), .mov (.t 8)⟩,
    ⟨some 49, some (47, false), .eqk false .ptr (.t 48) (.c (.pointer none))⟩,
    ⟨some 50, none, .pick (.t 47) (.c (.bool true)) (.t 49)⟩,
    ⟨some 51, none, .mov (.t 50)⟩,
    ⟨some 52, some (51, false), .mov (.t 6)⟩,
    ⟨some 53, some (51, false), .mov (.t 8)⟩,
    ⟨some 54, some (51, false), .call 11 [.t 52, .t 53]⟩,
    ⟨some 55, some (51, false), .un .not (.t 54)⟩,
    ⟨some 56, none, .pick (.t 51) (.c (.bool true)) (.t 55)⟩,
    ⟨some 57, none, .mov (.t 56)⟩,
    ⟨some 58, some (57, false), .mov (.t 6)⟩,
    ⟨some 59, some (57, false), .nilc (.t 58)⟩,
    ⟨some 60, some (57, false), .fa 13 (.t 59)⟩,
    ⟨some 61, some (57, false), .ld 1 false (.t 60)⟩,
    ⟨some 62, some (57, false), .lenV (.t 61)⟩,
    ⟨some 63, some (57, false), .mov (.t 8)⟩,
    ⟨some 64, some (57, false), .nilc (.t 63)⟩,
    ⟨some 65, some (57, false), .fa 13 (.t 64)⟩,
    ⟨some 66, some (57, false), .ld 1 false (.t 65)⟩,
    ⟨some 67, some (57, false), .lenV (.t 66)⟩,
    ⟨some 68, some (57, false), .bin .neq (.t 62) (.t 67)⟩,
    ⟨some 69, none, .pick (.t 57) (.c (.bool true)) (.t 68)⟩] [1, 6, 8, 69])
   (.cond (.t 69) (.seq (.region [⟨some 4, none, .mov (.c (.bool false))⟩] [4])
   (.ret)) (.skip)))
   (.seq (.seq (.region [⟨some 10, none, .mov (.c (.int .i64 0))⟩] [1, 6, 8, 10])
   (.block 0 (.loop (.seq (.seq (.region [⟨some 70, none, .mov (.t 10)⟩,
    ⟨some 71, none, .mov (.t 8)⟩,
    ⟨some 72, none, .nilc (.t 71)⟩,
    ⟨some 73, none, .fa 13 (.t 72)⟩,
    ⟨some 74, none, .ld 1 false (.t 73)⟩,
    ⟨some 75, none, .lenV (.t 74)⟩,
    ⟨some 76, none, .bin .lss (.t 70) (.t 75)⟩] [1, 6, 8, 10, 76])
   (.cond (.t 76) (.skip) (.exit 0)))
   (.seq (.block 1 (.seq (.region [⟨some 79, none, .mov (.t 6)⟩,
    ⟨some 80, none, .nilc (.t 79)⟩,
    ⟨some 81, none, .fa 13 (.t 80)⟩,
    ⟨some 82, none, .ld 1 false (.t 81)⟩,
    ⟨some 83, none, .mov (.t 10)⟩,
    ⟨some 84, none, .iaV 1 (.t 82) (.t 83)⟩,
    ⟨some 85, none, .ld 1 false (.t 84)⟩,
    ⟨some 86, none, .mov (.t 8)⟩,
    ⟨some 87, none, .nilc (.t 86)⟩,
    ⟨some 88, none, .fa 13 (.t 87)⟩,
    ⟨some 89, none, .ld 1 false (.t 88)⟩,
    ⟨some 90, none, .mov (.t 10)⟩,
    ⟨some 91, none, .iaV 1 (.t 89) (.t 90)⟩,
    ⟨some 92, none, .ld 1 false (.t 91)⟩,
    ⟨some 93, none, .call 12 [.t 85, .t 92]⟩,
    ⟨some 94, none, .un .not (.t 93)⟩] [1, 6, 8, 10, 94])
   (.cond (.t 94) (.seq (.region [⟨some 4, none, .mov (.c (.bool false))⟩] [4])
   (.ret)) (.skip))))
   (.region [⟨some 77, none, .mov (.t 10)⟩,
    ⟨some 78, none, .bin .add (.t 77) (.c (.int .i64 1))⟩,
    ⟨some 10, none, .mov (.t 78)⟩] [1, 6, 8, 10]))))))
   (.seq (.region [⟨some 96, none, .mov (.t 6)⟩,
    ⟨some 97, none, .mov (.t 1)⟩,
    ⟨some 98, none, .call 13 [.t 96, .t 97]⟩,
    ⟨some 95, none, .mov (.t 98)⟩,
    ⟨some 99, none, .ext (.t 95) 0⟩,
    ⟨some 100, none, .ext (.t 95) 1⟩,
    ⟨some 101, none, .ext (.t 95) 2⟩,
    ⟨some 12, none, .new [.slice none 0 0, .slice none 0 0]⟩,
    ⟨some 11, none, .mov (.t 99)⟩,
    ⟨none, none, .st 2 (.t 12) (.t 100)⟩,
    ⟨some 13, none, .mov (.t 101)⟩] [1, 8, 11, 12, 13])
   (.seq (.region [⟨some 103, none, .mov (.t 8)⟩,
    ⟨some 104, none, .mov (.t 1)⟩,
    ⟨some 105, none, .call 14 [.t 103, .t 104]⟩,
    ⟨some 102, none, .mov (.t 105)⟩,
    ⟨some 106, none, .ext (.t 102) 0⟩,
    ⟨some 107, none, .ext (.t 102) 1⟩,
    ⟨some 108, none, .ext (.t 102) 2⟩,
    ⟨some 15, none, .new [.slice none 0 0, .slice none 0 0]⟩,
    ⟨some 14, none, .mov (.t 106)⟩,
    ⟨none, none, .st 2 (.t 15) (.t 107)⟩,
    ⟨some 16, none, .mov (.t 108)⟩] [11, 12, 13, 14, 15, 16])
   (.seq (.region [⟨some 109, none, .mov (.t 11)⟩,
    ⟨some 110, none, .mov (.t 14)⟩,
    ⟨some 111, none, .bin .eql (.t 109) (.t 110)⟩,
    ⟨some 112, none, .mov (.t 111)⟩,
    ⟨some 113, some (112, true), .ld 2 true (.t 12)⟩,
    ⟨some 114, some (112, true), .ld 2 true (.t 15)⟩,
    ⟨some 115, some (112, true), .call 15 [.t 113, .t 114]⟩,
    ⟨some 116, none, .pick (.t 112) (.t 115) (.c (.bool false))⟩,
    ⟨some 117, none, .mov (.t 116)⟩,
    ⟨some 118, some (117, true), .mov (.t 13)⟩,
    ⟨some 119, some (117, true), .mov (.t 16)⟩,
    ⟨some 120, some (117, true), .bin .eql (.t 118) (.t 119)⟩,
    ⟨some 121, none, .pick (.t 117) (.t 120) (.c (.bool false))⟩,
    ⟨some 4, none, .mov (.t 121)⟩] [4])
   (.ret))))))))))),
  [.t 4], 122, 2⟩
def A3 : Ann := ⟨[(0, [0, 1]), (1, [0, 1, 18]), (2, [4]), (3, [0, 1, 26]), (4, [4]), (5, [1, 5]), (6, [1, 5, 6, 7]), (7, [1, 6, 7, 8, 9]), (8, [1, 6, 8, 69]), (9, [4]), (10, [1, 6, 8, 10]), (11, [1, 6, 8, 10, 76]), (12, [1, 6, 8, 10]), (13, [1, 6, 8, 10, 94]), (14, [4]), (15, [1, 8, 11, 12, 13]), (16, [11, 12, 13, 14, 15, 16]), (17, [4])], [(8, [(0, []), (1, []), (2, []), (3, []), (4, []), (5, []), (6, []), (7, []), (8, []), (9, []), (10, []), (11, []), (12, []), (13, []), (14, []), (15, []), (16, []), (17, []), (18, []), (19, []), (20, []), (21, []), (22, []), (23, []), (24, []), (25, []), (26, []), (27, []), (28, []), (29, [])], [(2, [0, 1]), (3, [0, 1, 2]), (4, [0, 1, 2, 3]), (5, [0, 1, 2, 3, 4]), (6, [0, 1, 2, 3, 4, 5]), (7, [0, 1, 2, 3, 4, 5, 6]), (8, [0, 1, 2, 3, 4, 5, 6, 7]), (9, [0, 1, 2, 3, 4, 5, 6, 7, 8]), (10, [0, 1, 2, 3, 4, 5, 6, 7, 8, 9]), (11, [0, 1, 2, 3, 4, 5, 6, 7, 8, 9, 10]), (12, [0, 1, 2, 3, 4, 5, 6, 7, 8, 9, 10, 11]), (13, [0, 1, 2, 3, 4, 5, 6, 7, 8, 9, 10, 11]), (14, [0, 1, 2, 3, 4, 5, 6, 7, 8, 9, 10, 11, 12, 13]), (15, [0, 1, 2, 3, 4, 5, 6, 7, 8, 9, 10, 11, 12, 13, 14]), (16, [0, 1, 2, 3, 4, 5, 6, 7, 8, 9, 10, 11, 12, 13, 14, 15]), (17, [0, 1, 2, 3, 4, 5, 6, 7, 8, 9, 10, 11, 12, 13, 14, 15, 16]), (18, [0, 1, 2, 3, 4, 5, 6, 7, 8, 9, 10, 11, 12, 13, 14, 15, 16, 17]), (19, [0, 1, 2, 3, 4, 5, 6, 7, 8, 9, 10, 11, 12, 13, 14, 15, 16, 17, 18]), (20, [0, 1, 2, 3, 4, 5, 6, 7, 8, 9, 10, 11, 12, 13, 14, 15, 16, 17, 18, 19]), (21, [0, 1, 2, 3, 4, 5, 6, 7, 8, 9, 10, 11, 12, 13, 14, 15, 16, 17, 18, 19, 20]), (22, [0, 1, 2, 3, 4, 5, 6, 7, 8, 9, 10, 11, 12, 13, 14, 15, 16, 17, 18, 19, 20, 21]), (23, [0, 1, 2, 3, 4, 5, 6, 7, 8, 9, 10, 11, 12, 13, 14, 15, 16, 17]), (24, [0, 1, 2, 3, 4, 5, 6, 7, 8, 9, 10, 11, 12, 13, 14, 15, 16, 17, 23]), (25, [0, 1, 2, 3, 4, 5, 6, 7, 8, 9, 10, 11, 12, 13, 14, 15, 16, 17, 23, 24]), (26, [0, 1, 2, 3, 4, 5, 6, 7, 8, 9, 10, 11, 12, 13, 14, 15, 16, 17, 23, 24, 25]), (27, [0, 1, 2, 3, 4, 5, 6, 7, 8, 9, 10, 11, 12, 13, 14, 15, 16, 17, 23, 24, 25, 26]), (28, [0, 1, 2, 3, 4, 5, 6, 7, 8, 9, 10, 11, 12, 13, 14, 15, 16, 17, 18, 19, 20, 21, 22, 23, 24, 25, 26, 27]), (29, [0, 1, 2, 3, 4, 5, 6, 7, 8, 9, 10, 11, 12, 13, 14, 15, 16, 17, 18, 19, 20, 21, 22, 23, 24, 25, 26, 27, 28])]),
  (13, [(0, []), (1, []), (2, []), (3, []), (4, []), (5, []), (6, []), (7, []), (8, []), (9, []), (10, []), (11, []), (12, []), (13, []), (14, []), (15, [])], [(1, [0]), (2, [0, 1]), (3, [0, 1, 2]), (5, [0, 1, 2, 3, 4]), (6, [0, 1, 2, 3, 4, 5]), (8, [7]), (9, [7, 8]), (10, [7, 8, 9]), (12, [7, 8, 9, 10, 11]), (13, [7, 8, 9, 10, 11, 12]), (14, [0, 1, 2, 3, 4, 5, 6, 7, 8, 9, 10, 11, 12, 13]), (15, [0, 1, 2, 3, 4, 5, 6, 7, 8, 9, 10, 11, 12, 13, 14])])]⟩
set_option maxRecDepth 100000 in
theorem F3.ok : compF Try.prog A3 Try.f3 = some F3 := by kernel_rfl
theorem F3.fok : FOk Try.prog 3 F3 := fok_of mixed Try.func3 F3.ok

/-- cloakroom/cloakroomlaw16.InstCopies -/
def F4 : SFn := ⟨.seq (.region [⟨some 6, none, .mov (.c (.bool false))⟩] [0, 1, 2])
   (.seq (.seq (.region [⟨some 12, none, .call 6 []⟩,
    ⟨some 13, none, .un .not (.t 12)⟩] [0, 1, 2, 13])
   (.cond (.t 13) (.seq (.region [⟨some 6, none, .mov (.c (.bool false))⟩] [6])
   (.ret)) (.skip)))
   (.seq (.seq (.region [⟨some 14, none, .mov (.t 0)⟩,
    ⟨some 15, none, .lenV (.t 14)⟩,
    ⟨some 16, none, .bin .gtr (.t 15) (.c (.int .i64 150))⟩] [0, 1, 2, 16])
   (.cond (.t 16) (.seq (.region [⟨some 6, none, .mov (.c (.bool true))⟩] [6])
   (.ret)) (.skip)))
   (.seq (.region [⟨some 18, none, .mov (.t 0)⟩,
    ⟨some 19, none, .call 7 [.t 18]⟩,
    ⟨some 20, none, .call 8 [.t 19]⟩,
    ⟨some 21, none, .call 9 [.t 20]⟩,
    ⟨some 17, none, .mov (.t 21)⟩,
    ⟨some 22, none, .ext (.t 17) 0⟩,
    ⟨some 23, none, .ext (.t 17) 1⟩,
    ⟨some 7, none, .mov (.t 22)⟩,
    ⟨some 8, none, .mov (.t 23)⟩] [1, 2, 7, 8])
   (.seq (.seq (.region [⟨some 24, none, .mov (.t 8)⟩,
    ⟨some 25, none, .bin .neq (.t 24) (.c (.int .i64 0))⟩,
    ⟨some 26, none, .mov (.t 25)⟩,
    ⟨some 27, some (26, false), .mov (.t 7)⟩,
    ⟨some 28, some (26, false), .eqk false .ptr (.t 27) (.c (.pointer none))⟩,
    ⟨some 29, none, .pick (.t 26) (.c (.bool true)) (.t 28)⟩] [1, 2, 7, 29])
   (.cond (.t 29) (.seq (.region [⟨some 6, none, .mov (.c (.bool false))⟩] [6])
   (.ret)) (.skip)))
   (.seq (.region [⟨some 30, none, .mov (.t 7)⟩,
    ⟨some 31, none, .call 16 [.t 30]⟩,
    ⟨some 9, none, .mov (.t 31)⟩] [1, 2, 7, 9])
   (.seq (.region [⟨some 32, none, .mov (.t 7)⟩,
    ⟨some 33, none, .call 16 [.t 32]⟩,
    ⟨some 10, none, .mov (.t 33)⟩] [1, 2, 7, 9, 10])
   (.seq (.seq (.region [⟨some 34, none, .mov (.t 9)⟩,
    ⟨some 35, none, .eqk false .ptr (.t 34) (.c (.pointer none))⟩,
    ⟨some 36, none, .mov (.t 35)⟩,
    ⟨some 37, some (36, false), .mov (.t 10)⟩,
    ⟨some 38, some (36, false), .eqk false .ptr (.t 37) (.c (.pointer none))⟩,
    ⟨some 39, none, .pick (.t 36) (.c (.bool true)) (.t 38)⟩,
    ⟨some 40, none, .mov (.t 39)⟩,
    ⟨some 41, some (40, false), .mov (.t 9)⟩,
    ⟨some 42, some (40, false), .nilc (.t 41)⟩,
    ⟨some 43, some (40, false), .fa 16 (.t 42)⟩,
    ⟨some 44, some (40, false), .ld 1 false (.t 43)⟩,
    ⟨some 45, some (40, false), .lenV (.t 44)⟩,
    ⟨some 46, some (40, false), .bin .lss (.t 45) (.c (.int .i64 2))⟩,
    ⟨some 47, none, .pick (.t 40) (.c (.bool true)) (.t 46)⟩,
    ⟨some 48, none, .mov (.t 47)⟩,
    ⟨some 49, some (48, false), .mov (.t 9)⟩,
    ⟨some 50, some (48, false), .nilc (.t 49)⟩,
    ⟨some 51, some (48, false), .fa 15 (.t 50)⟩,
    ⟨some 52, some (48, false), .ld 1 false (.t 51)⟩,
    ⟨some 53, some (48, false), .lenV (.t 52)⟩,
    ⟨some 54, some (48, false), .bin .lss (.t 53) (.c (.int .i64 1))⟩,
    ⟨some 55, none, .pick (.t 48) (.c (.bool true)) (.t 54)⟩,
    ⟨some 56, none, .mov (.t 55)⟩,
    ⟨some 57, some (56, false), .mov (.t 9)⟩,
    ⟨some 58, some (56, false), .nilc (.t 57)⟩,
    ⟨some 59, some (56, false), .fa 15 (.t 58)⟩,
    ⟨some 60, some (56, false), .ld 1 false (.t 59)⟩,
    ⟨some 61, some (56, false), .iaV 1 (.t 60) (.c (.int .i64 0))⟩,
    ⟨some 62, some (56, false), .ld 1 false (.t 61)⟩,
    ⟨some 63, some (56, false), .lenV (.t 62)⟩,
    ⟨some 64, some (56, false), .bin .lss (.t 63) (.c (.int .i64 4))⟩,
    ⟨some 65, none, .pick (.t 56) (.c (.bool true)) (.t 64)⟩,
    ⟨some 66, none, .mov (.t 65)⟩,
    ⟨some 67, some (66, false), .mov (.t 9)⟩,
    ⟨some 68, some (66, false), .nilc (.t 67)⟩,
    ⟨some 69, some (66, false), .fa 18 (.t 68)⟩,
    ⟨some 70, some (66, false), .ld 1 false (.t 69)⟩,
    ⟨some 71, some (66, false), .lenV (.t 70)⟩,
    ⟨some 72, some (66, false), .bin .lss (.t 71) (.c (.int .i64 2))⟩,
    ⟨some 73, none, .pick (.t 66) (.c (.bool true)) (.t 72)⟩,
    ⟨some 74, none, .mov (.t 73)⟩,
    ⟨some 75, some (74, false), .mov (.t 9)⟩,
    ⟨some 76, some (74, false), .nilc (.t 75)⟩,
    ⟨some 77, some (74, false), .fa 17 (.t 76)⟩,
    ⟨some 78, some (74, false), .ld 1 false (.t 77)⟩,
    ⟨some 79, some (74, false), .lenV (.t 78)⟩,
    ⟨some 80, some (74, false), .bin .lss (.t 79) (.c (.int .i64 2))⟩,
    ⟨some 81, none, .pick (.t 74) (.c (.bool true)) (.t 80)⟩] [1, 2, 7, 9, 10, 81])
   (.cond (.t 81) (.seq (.region [⟨some 6, none, .mov (.c (.bool false))⟩] [6])
   (.ret)) (.skip)))
   (.seq (.seq (.region [⟨some 82, none, .mov (.t 1)⟩,
    ⟨some 83, none, .bin .rem (.t 82) (.c (.int .u8 6))⟩,
    ⟨some 11, none, .mov (.t 83)⟩] [2, 7, 9, 10, 11])
   (.block 0 (.seq (.region [⟨some 98, none, .mov (.t 11)⟩,
    ⟨some 99, none, .bin .eql (.t 98) (.c (.int .u8 0))⟩,
    ⟨some 100, none, .mov (.t 99)⟩,
    ⟨some 101, some (100, true), .mov (.t 9)⟩,
    ⟨some 102, some (100, true), .nilc (.t 101)⟩,
    ⟨some 103, some (100, true), .fa 14 (.t 102)⟩,
    ⟨some 104, some (100, true), .ld 1 false (.t 103)⟩,
    ⟨some 105, some (100, true), .lenV (.t 104)⟩,
    ⟨some 106, some (100, true), .bin .gtr (.t 105) (.c (.int .i64 0))⟩,
    ⟨some 107, none, .pick (.t 100) (.t 106) (.c (.bool false))⟩,
    ⟨some 97, none, .mov (.t 107)⟩] [2, 7, 9, 10, 11, 97])
   (.cond (.t 97) (.region [⟨some 108, none, .mov (.t 9)⟩,
    ⟨some 109, none, .nilc (.t 108)⟩,
    ⟨some 110, none, .fa 14 (.t 109)⟩,
    ⟨some 111, none, .ld 1 false (.t 110)⟩,
    ⟨some 112, none, .mov (.t 2)⟩,
    ⟨some 113, none, .conv .i64 (.t 112)⟩,
    ⟨some 114, none, .mov (.t 9)⟩,
    ⟨some 115, none, .nilc (.t 114)⟩,
    ⟨some 116, none, .fa 14 (.t 115)⟩,
    ⟨some 117, none, .ld 1 false (.t 116)⟩,
    ⟨some 118, none, .lenV (.t 117)⟩,
    ⟨some 119, none, .bin .rem (.t 113) (.t 118)⟩,
    ⟨some 120, none, .iaV 1 (.t 111) (.t 119)⟩,
    ⟨some 121, none, .ld 1 false (.t 120)⟩,
    ⟨some 122, none, .bin .xor (.t 121) (.c (.int .u8 5))⟩,
    ⟨some 123, none, .iaV 1 (.t 111) (.t 119)⟩,
    ⟨none, none, .st 1 (.t 123) (.t 122)⟩] [7, 9, 10]) (.seq (.region [⟨some 125, none, .mov (.t 11)⟩,
    ⟨some 126, none, .bin .eql (.t 125) (.c (.int .u8 1))⟩,
    ⟨some 124, none, .mov (.t 126)⟩] [2, 7, 9, 10, 11, 124])
   (.cond (.t 124) (.region [⟨some 127, none, .mov (.t 9)⟩,
    ⟨some 128, none, .nilc (.t 127)⟩,
    ⟨some 129, none, .fa 16 (.t 128)⟩,
    ⟨some 130, none, .ld 1 false (.t 129)⟩,
    ⟨some 131, none, .mov (.t 2)⟩,
    ⟨some 132, none, .bin .rem (.t 131) (.c (.int .u16 2))⟩,
    ⟨some 133, none, .iaV 1 (.t 130) (.t 132)⟩,
    ⟨some 134, none, .ld 1 false (.t 133)⟩,
    ⟨some 135, none, .bin .xor (.t 134) (.c (.int .u64 5))⟩,
    ⟨some 136, none, .iaV 1 (.t 130) (.t 132)⟩,
    ⟨none, none, .st 1 (.t 136) (.t 135)⟩] [7, 9, 10]) (.seq (.region [⟨some 138, none, .mov (.t 11)⟩,
    ⟨some 139, none, .bin .eql (.t 138) (.c (.int .u8 2))⟩,
    ⟨some 137, none, .mov (.t 139)⟩] [2, 7, 9, 10, 11, 137])
   (.cond (.t 137) (.region [⟨some 140, none, .mov (.t 9)⟩,
    ⟨some 141, none, .nilc (.t 140)⟩,
    ⟨some 142, none, .fa 15 (.t 141)⟩,
    ⟨some 143, none, .ld 1 false (.t 142)⟩,
    ⟨some 144, none, .iaV 1 (.t 143) (.c (.int .i64 0))⟩,
    ⟨some 145, none, .ld 1 false (.t 144)⟩,
    ⟨some 146, none, .mov (.t 2)⟩,
    ⟨some 147, none, .bin .rem (.t 146) (.c (.int .u16 4))⟩,
    ⟨some 148, none, .iaV 1 (.t 145) (.t 147)⟩,
    ⟨some 149, none, .ld 1 false (.t 148)⟩,
    ⟨some 150, none, .bin .xor (.t 149) (.c (.int .u64 5))⟩,
    ⟨some 151, none, .iaV 1 (.t 145) (.t 147)⟩,
    ⟨none, none, .st 1 (.t 151) (.t 150)⟩] [7, 9, 10]) (.seq (.region [⟨some 153, none, .mov (.t 11)⟩,
    ⟨some 154, none, .bin .eql (.t 153) (.c (.int .u8 3))⟩,
    ⟨some 152, none, .mov (.t 154)⟩] [2, 7, 9, 10, 11, 152])
   (.cond (.t 152) (.region [⟨some 155, none, .mov (.t 9)⟩,
    ⟨some 156, none, .nilc (.t 155)⟩,
    ⟨some 157, none, .fa 18 (.t 156)⟩,
    ⟨some 158, none, .ld 1 false (.t 157)⟩,
    ⟨some 159, none, .mov (.t 2)⟩,
    ⟨some 160, none, .bin .rem (.t 159) (.c (.int .u16 2))⟩,
    ⟨some 161, none, .iaV 1 (.t 158) (.t 160)⟩,
    ⟨none, none, .st 1 (.t 161) (.c (.bool true))⟩] [7, 9, 10]) (.seq (.region [⟨some 163, none, .mov (.t 11)⟩,
    ⟨some 164, none, .bin .eql (.t 163) (.c (.int .u8 4))⟩,
    ⟨some 162, none, .mov (.t 164)⟩] [2, 7, 9, 10, 162])
   (.cond (.t 162) (.region [⟨some 165, none, .mov (.t 9)⟩,
    ⟨some 166, none, .nilc (.t 165)⟩,
    ⟨some 167, none, .fa 17 (.t 166)⟩,
    ⟨some 168, none, .ld 1 false (.t 167)⟩,
    ⟨some 169, none, .mov (.t 2)⟩,
    ⟨some 170, none, .bin .rem (.t 169) (.c (.int .u16 2))⟩,
    ⟨some 171, none, .iaV 1 (.t 168) (.t 170)⟩,
    ⟨none, none, .st 1 (.t 171) (.c (.bool true))⟩] [7, 9, 10]) (.region [⟨some 84, none, .mov (.t 9)⟩,
    ⟨some 85, none, .nilc (.t 84)⟩,
    ⟨some 86, none, .fa 15 (.t 85)⟩,
    ⟨some 87, none, .ld 1 false (.t 86)⟩,
    ⟨some 88, none, .mov (.t 9)⟩,
    ⟨some 89, none, .nilc (.t 88)⟩,
    ⟨some 90, none, .fa 15 (.t 89)⟩,
    ⟨some 91, none, .ld 1 false (.t 90)⟩,
    ⟨some 92, none, .iaV 1 (.t 91) (.c (.int .i64 0))⟩,
    ⟨some 93, none, .ld 1 false (.t 92)⟩,
    ⟨some 94, none, .bslice 1 1 [.int .u64 0] [(0, 1, .c (.int .u64 0))]⟩,
    ⟨some 95, none, .app 1 8 (.t 93) (.t 94)⟩,
    ⟨none, none, .chk 1 false (.t 86) 87⟩,
    ⟨some 96, none, .iaV 1 (.t 87) (.c (.int .i64 0))⟩,
    ⟨none, none, .st 1 (.t 96) (.t 95)⟩] [7, 9, 10])))))))))))))
   (.seq (.region [⟨some 172, none, .mov (.t 7)⟩,
    ⟨some 173, none, .mov (.t 9)⟩,
    ⟨some 174, none, .call 17 [.t 172, .t 173]⟩,
    ⟨some 175, none, .un .not (.t 174)⟩,
    ⟨some 176, none, .mov (.t 175)⟩,
    ⟨some 177, some (176, true), .mov (.t 7)⟩,
    ⟨some 178, some (176, true), .mov (.t 10)⟩,
    ⟨some 179, some (176, true), .call 17 [.t 177, .t 178]⟩,
    ⟨some 180, none, .pick (.t 176) (.t 179) (.c (.bool false))⟩,
    ⟨some 181, none, .mov (.t 180)⟩,
    ⟨some 182, some (181, true), .mov (.t 10)⟩,
    ⟨some 183, some (181, true), .mov (.t 7)⟩,
    ⟨some 184, some (181, true), .call 17 [.t 182, .t 183]⟩,
    ⟨some 185, none, .pick (.t 181) (.t 184) (.c (.bool false))⟩,
    ⟨some 186, none, .mov (.t 185)⟩,
    ⟨some 187, some (186, true), .call 16 [.c (.pointer none)]⟩,
    ⟨some 188, some (186, true), .eqk false .ptr (.t 187) (.c (.pointer none))⟩,
    ⟨some 189, none, .pick (.t 186) (.t 188) (.c (.bool false))⟩,
    ⟨some 190, none, .mov (.t 189)⟩,
    ⟨some 191, some (190, true), .call 17 [.c (.pointer none), .c (.pointer none)]⟩,
    ⟨some 192, none, .pick (.t 190) (.t 191) (.c (.bool false))⟩,
    ⟨some 6, none, .mov (.t 192)⟩] [6])
   (.ret)))))))))),
  [.t 6], 193, 3⟩
def A4 : Ann := ⟨[(0, [0, 1, 2]), (1, [0, 1, 2, 13]), (2, [6]), (3, [0, 1, 2, 16]), (4, [6]), (5, [1, 2, 7, 8]), (6, [1, 2, 7, 29]), (7, [6]), (8, [1, 2, 7, 9]), (9, [1, 2, 7, 9, 10]), (10, [1, 2, 7, 9, 10, 81]), (11, [6]), (12, [2, 7, 9, 10, 11]), (13, [7, 9, 10]), (14, [2, 7, 9, 10, 11, 97]), (15, [7, 9, 10]), (16, [2, 7, 9, 10, 11, 124]), (17, [7, 9, 10]), (18, [2, 7, 9, 10, 11, 137]), (19, [7, 9, 10]), (20, [2, 7, 9, 10, 11, 152]), (21, [7, 9, 10]), (22, [2, 7, 9, 10, 162]), (23, [7, 9, 10]), (24, [6])], [(13, [(0, []), (1, []), (2, []), (3, []), (4, []), (5, []), (6, []), (7, []), (8, []), (9, []), (10, []), (11, [3]), (12, []), (13, [])], [(1, [0]), (2, [0, 1]), (3, [0, 1, 2]), (5, [4]), (6, [4, 5]), (7, [4, 5, 6]), (8, [4, 5, 6, 7]), (9, [4, 5, 6, 7, 8]), (11, [4, 5, 6, 7, 8, 9, 10]), (12, [0, 1, 2, 3, 4, 5, 6, 7, 8, 9, 10, 11]), (13, [0, 1, 2, 3, 4, 5, 6, 7, 8, 9, 10, 11, 12])]),
  (15, [(0, []), (1, []), (2, []), (3, []), (4, []), (5, []), (6, []), (7, []), (8, []), (9, []), (10, []), (11, []), (12, []), (13, []), (14, []), (15, []), (16, [])], [(1, [0]), (2, [0, 1]), (3, [0, 1, 2]), (5, [4]), (7, [6]), (8, [6, 7]), (9, [6, 7, 8]), (10, [6, 7, 8, 9]), (11, [4, 5, 6, 7, 8, 9, 10]), (12, [0, 1, 2, 3, 4, 5, 6, 7, 8, 9, 10, 11]), (13, [0, 1, 2, 3, 4, 5, 6, 7, 8, 9, 10, 11, 12]), (14, [0, 1, 2, 3, 4, 5, 6, 7, 8, 9, 10, 11, 12, 13]), (15, [0, 1, 2, 3, 4, 5, 6, 7, 8, 9, 10, 11, 12, 13, 14]), (16, [0, 1, 2, 3, 4, 5, 6, 7, 8, 9, 10, 11, 12, 13, 14, 15])])]⟩
set_option maxRecDepth 100000 in
theorem F4.ok : compF Try.prog A4 Try.f4 = some F4 := by kernel_rfl
theorem F4.fok : FOk Try.prog 4 F4 := fok_of mixed Try.func4 F4.ok

/-- cloakroom/cloakroomlaw16.InstForms -/
def F5 : SFn := ⟨.seq (.region [⟨some 0, none, .mov (.c (.bool false))⟩] [])
   (.seq (.seq (.region [⟨some 19, none, .call 6 []⟩,
    ⟨some 20, none, .un .not (.t 19)⟩] [20])
   (.cond (.t 20) (.seq (.region [⟨some 0, none, .mov (.c (.bool false))⟩] [0])
   (.ret)) (.skip)))
   (.seq (.region [⟨some 21, none, .build [.int .i64 0, .int .u32 0, .int .u32 0, .int .u64 0, .slice none 0 0, .int .i64 0] [(0, 1, .c (.int .i64 11))]⟩,
    ⟨some 1, none, .new [.int .i64 0, .int .u32 0, .int .u32 0, .int .u64 0, .slice none 0 0, .int .i64 0]⟩,
    ⟨none, none, .st 6 (.t 1) (.t 21)⟩] [1])
   (.seq (.region [⟨some 23, none, .build [.int .u32 0, .int .u32 0, .bool false] [(0, 1, .c (.int .u32 2))]⟩,
    ⟨some 24, none, .bslice 1 3 [.int .u32 0, .int .u32 0, .bool false] [(0, 3, .t 23)]⟩,
    ⟨some 25, none, .build [.slice none 0 0, .slice none 0 0, .slice none 0 0, .slice none 0 0, .slice none 0 0, .slice none 0 0, .bool false, .int .u32 0, .slice none 0 0, .bool false, .int .u32 0, .slice none 0 0, .slice none 0 0] [(3, 1, .t 24)]⟩,
    ⟨some 26, none, .call 9 [.t 25]⟩,
    ⟨some 22, none, .mov (.t 26)⟩,
    ⟨some 27, none, .ext (.t 22) 0⟩,
    ⟨some 28, none, .ext (.t 22) 1⟩,
    ⟨some 2, none, .mov (.t 27)⟩,
    ⟨some 3, none, .mov (.t 28)⟩] [1, 3])
   (.seq (.region [⟨some 30, none, .build [.int .u32 0, .int .u32 0, .bool false] [(0, 1, .c (.int .u32 65))]⟩,
    ⟨some 31, none, .build [.int .u8 0, .int .u32 0, .int .u32 0, .bool false] [(1, 3, .t 30)]⟩,
    ⟨some 32, none, .bslice 1 4 [.int .u8 0, .int .u32 0, .int .u32 0, .bool false] [(0, 4, .t 31)]⟩,
    ⟨some 33, none, .build [.slice none 0 0, .slice none 0 0, .slice none 0 0, .slice none 0 0, .slice none 0 0, .slice none 0 0, .bool false, .int .u32 0, .slice none 0 0, .bool false, .int .u32 0, .slice none 0 0, .slice none 0 0] [(2, 1, .t 32)]⟩,
    ⟨some 34, none, .call 9 [.t 33]⟩,
    ⟨some 29, none, .mov (.t 34)⟩,
    ⟨some 35, none, .ext (.t 29) 0⟩,
    ⟨some 36, none, .ext (.t 29) 1⟩,
    ⟨some 4, none, .mov (.t 35)⟩,
    ⟨some 5, none, .mov (.t 36)⟩] [1, 3, 5])
   (.seq (.region [⟨some 38, none, .build [.slice none 0 0, .slice none 0 0] []⟩,
    ⟨some 39, none, .bslice 1 2 [.slice none 0 0, .slice none 0 0] [(0, 2, .t 38)]⟩,
    ⟨some 40, none, .build [.slice none 0 0, .slice none 0 0, .slice none 0 0, .slice none 0 0, .slice none 0 0, .slice none 0 0, .bool false, .int .u32 0, .slice none 0 0, .bool false, .int .u32 0, .slice none 0 0, .slice none 0 0] [(11, 1, .t 39)]⟩,
    ⟨some 41, none, .call 9 [.t 40]⟩,
    ⟨some 37, none, .mov (.t 41)⟩,
    ⟨some 42, none, .ext (.t 37) 0⟩,
    ⟨some 43, none, .ext (.t 37) 1⟩,
    ⟨some 6, none, .mov (.t 42)⟩,
    ⟨some 7, none, .mov (.t 43)⟩] [1, 3, 5, 7])
   (.seq (.region [⟨some 45, none, .build [.slice none 0 0, .slice none 0 0] []⟩,
    ⟨some 46, none, .bslice 1 2 [.slice none 0 0, .slice none 0 0] [(0, 2, .t 45)]⟩,
    ⟨some 47, none, .bslice 1 1 [.int .u32 0] [(0, 1, .c (.int .u32 0))]⟩,
    ⟨some 48, none, .ld 6 true (.t 1)⟩,
    ⟨some 49, none, .bslice 1 6 [.int .i64 0, .int .u32 0, .int .u32 0, .int .u64 0, .slice none 0 0, .int .i64 0] [(0, 6, .t 48)]⟩,
    ⟨some 50, none, .build [.slice none 0 0, .slice none 0 0] [(1, 1, .t 49)]⟩,
    ⟨some 51, none, .bslice 1 2 [.slice none 0 0, .slice none 0 0] [(0, 2, .t 50)]⟩,
    ⟨some 52, none, .build [.int .i64 0, .int .u32 0, .int .u32 0, .int .u64 0, .slice none 0 0, .int .i64 0] [(0, 1, .c (.int .i64 210)), (1, 1, .c (.int .u32 4))]⟩,
    ⟨some 53, none, .ld 6 true (.t 1)⟩,
    ⟨some 54, none, .bslice 2 6 [.int .i64 0, .int .u32 0, .int .u32 0, .int .u64 0, .slice none 0 0, .int .i64 0] [(0, 6, .t 52), (6, 6, .t 53)]⟩,
    ⟨some 55, none, .build [.int .u8 0, .bool false, .slice none 0 0] [(2, 1, .t 54)]⟩,
    ⟨some 56, none, .build [.int .i64 0, .int .u32 0, .int .u32 0, .int .u64 0, .slice none 0 0, .int .i64 0] [(0, 1, .c (.int .i64 208))]⟩,
    ⟨some 57, none, .ld 6 true (.t 1)⟩,
    ⟨some 58, none, .bslice 2 6 [.int .i64 0, .int .u32 0, .int .u32 0, .int .u64 0, .slice none 0 0, .int .i64 0] [(0, 6, .t 56), (6, 6, .t 57)]⟩,
    ⟨some 59, none, .build [.int .u8 0, .bool false, .slice none 0 0] [(2, 1, .t 58)]⟩,
    ⟨some 60, none, .build [.int .i64 0, .int .u32 0, .int .u32 0, .int .u64 0, .slice none 0 0, .int .i64 0] [(0, 1, .c (.int .i64 66)), (3, 1, .c (.int .u64 7))]⟩,
    ⟨some 61, none, .ld 6 true (.t 1)⟩,
    ⟨some 62, none, .bslice 2 6 [.int .i64 0, .int .u32 0, .int .u32 0, .int .u64 0, .slice none 0 0, .int .i64 0] [(0, 6, .t 60), (6, 6, .t 61)]⟩,
    ⟨some 63, none, .build [.int .u8 0, .bool false, .slice none 0 0] [(2, 1, .t 62)]⟩,
    ⟨some 64, none, .bslice 3 3 [.int .u8 0, .bool false, .slice none 0 0] [(0, 3, .t 55), (3, 3, .t 59), (6, 3, .t 63)]⟩,
    ⟨some 65, none, .build [.int .u32 0, .int .u32 0, .bool false] []⟩,
    ⟨some 66, none, .bslice 1 3 [.int .u32 0, .int .u32 0, .bool false] [(0, 3, .t 65)]⟩,
    ⟨some 67, none, .build [.string ByteArray.empty, .int .u8 0, .int .u32 0] [(0, 1, .c (.string { data := #[109] })), (1, 1, .c (.int .u8 2))]⟩,
    ⟨some 68, none, .build [.string ByteArray.empty, .int .u8 0, .int .u32 0] [(0, 1, .c (.string { data := #[102] }))]⟩,
    ⟨some 69, none, .bslice 2 3 [.string ByteArray.empty, .int .u8 0, .int .u32 0] [(0, 3, .t 67), (3, 3, .t 68)]⟩,
    ⟨some 70, none, .build [.slice none 0 0, .slice none 0 0, .slice none 0 0, .slice none 0 0, .slice none 0 0, .slice none 0 0, .bool false, .int .u32 0, .slice none 0 0, .bool false, .int .u32 0, .slice none 0 0, .slice none 0 0] [(0, 1, .t 46), (1, 1, .t 47), (11, 1, .t 51), (4, 1, .t 64), (3, 1, .t 66), (5, 1, .t 69)]⟩,
    ⟨some 71, none, .call 9 [.t 70]⟩,
    ⟨some 44, none, .mov (.t 71)⟩,
    ⟨some 72, none, .ext (.t 44) 0⟩,
    ⟨some 73, none, .ext (.t 44) 1⟩,
    ⟨some 8, none, .mov (.t 72)⟩,
    ⟨some 9, none, .mov (.t 73)⟩] [3, 5, 7, 8, 9])
   (.seq (.seq (.region [⟨some 74, none, .mov (.t 9)⟩,
    ⟨some 75, none, .bin .neq (.t 74) (.c (.int .i64 0))⟩,
    ⟨some 76, none, .mov (.t 75)⟩,
    ⟨some 77, some (76, false), .mov (.t 8)⟩,
    ⟨some 78, some (76, false), .eqk false .ptr (.t 77) (.c (.pointer none))⟩,
    ⟨some 79, none, .pick (.t 76) (.c (.bool true)) (.t 78)⟩,
    ⟨some 80, none, .mov (.t 79)⟩,
    ⟨some 81, some (80, false), .mov (.t 8)⟩,
    ⟨some 82, some (80, false), .nilc (.t 81)⟩,
    ⟨some 83, some (80, false), .fa 16 (.t 82)⟩,
    ⟨some 84, some (80, false), .ld 1 false (.t 83)⟩,
    ⟨some 85, some (80, false), .lenV (.t 84)⟩,
    ⟨some 86, some (80, false), .bin .neq (.t 85) (.c (.int .i64 3))⟩,
    ⟨some 87, none, .pick (.t 80) (.c (.bool true)) (.t 86)⟩] [3, 5, 7, 8, 87])
   (.cond (.t 87) (.seq (.region [⟨some 0, none, .mov (.c (.bool false))⟩] [0])
   (.ret)) (.skip)))
   (.seq (.region [⟨some 89, none, .mov (.t 8)⟩,
    ⟨some 90, none, .call 13 [.t 89, .c (.string { data := #[109] })]⟩,
    ⟨some 88, none, .mov (.t 90)⟩,
    ⟨some 91, none, .ext (.t 88) 0⟩,
    ⟨some 92, none, .ext (.t 88) 1⟩,
    ⟨some 93, none, .ext (.t 88) 2⟩,
    ⟨some 11, none, .new [.slice none 0 0, .slice none 0 0]⟩,
    ⟨some 10, none, .mov (.t 91)⟩,
    ⟨none, none, .st 2 (.t 11) (.t 92)⟩,
    ⟨some 12, none, .mov (.t 93)⟩] [3, 5, 7, 8, 12])
   (.seq (.region [⟨some 95, none, .mov (.t 8)⟩,
    ⟨some 96, none, .call 13 [.t 95, .c (.string { data := #[102] })]⟩,
    ⟨some 94, none, .mov (.t 96)⟩,
    ⟨some 97, none, .ext (.t 94) 0⟩,
    ⟨some 98, none, .ext (.t 94) 1⟩,
    ⟨some 99, none, .ext (.t 94) 2⟩,
    ⟨some 14, none, .new [.slice none 0 0, .slice none 0 0]⟩,
    ⟨some 13, none, .mov (.t 97)⟩,
    ⟨none, none, .st 2 (.t 14) (.t 98)⟩,
    ⟨some 15, none, .mov (.t 99)⟩] [3, 5, 7, 8, 12, 15])
   (.seq (.region [⟨some 101, none, .call 13 [.c (.pointer none), .c (.string { data := #[102] })]⟩,
    ⟨some 100, none, .mov (.t 101)⟩,
    ⟨some 102, none, .ext (.t 100) 0⟩,
    ⟨some 103, none, .ext (.t 100) 1⟩,
    ⟨some 104, none, .ext (.t 100) 2⟩,
    ⟨some 17, none, .new [.slice none 0 0, .slice none 0 0]⟩,
    ⟨some 16, none, .mov (.t 102)⟩,
    ⟨none, none, .st 2 (.t 17) (.t 103)⟩,
    ⟨some 18, none, .mov (.t 104)⟩] [3, 5, 7, 8, 12, 15, 18])
   (.seq (.region [⟨some 105, none, .mov (.t 3)⟩,
    ⟨some 106, none, .bin .eql (.t 105) (.c (.int .i64 8))⟩,
    ⟨some 107, none, .mov (.t 106)⟩,
    ⟨some 108, some (107, true), .mov (.t 5)⟩,
    ⟨some 109, some (107, true), .bin .eql (.t 108) (.c (.int .i64 8))⟩,
    ⟨some 110, none, .pick (.t 107) (.t 109) (.c (.bool false))⟩,
    ⟨some 111, none, .mov (.t 110)⟩,
    ⟨some 112, some (111, true), .mov (.t 7)⟩,
    ⟨some 113, some (111, true), .bin .eql (.t 112) (.c (.int .i64 2))⟩,
    ⟨some 114, none, .pick (.t 111) (.t 113) (.c (.bool false))⟩,
    ⟨some 115, none, .mov (.t 114)⟩,
    ⟨some 116, some (115, true), .mov (.t 8)⟩,
    ⟨some 117, some (115, true), .nilc (.t 116)⟩,
    ⟨some 118, some (115, true), .fa 16 (.t 117)⟩,
    ⟨some 119, some (115, true), .ld 1 false (.t 118)⟩,
    ⟨some 120, some (115, true), .iaV 1 (.t 119) (.c (.int .i64 0))⟩,
    ⟨some 121, some (115, true), .ld 1 false (.t 120)⟩,
    ⟨some 122, some (115, true), .bin .eql (.t 121) (.c (.int .u64 5))⟩,
    ⟨some 123, none, .pick (.t 115) (.t 122) (.c (.bool false))⟩,
    ⟨some 124, none, .mov (.t 123)⟩,
    ⟨some 125, some (124, true), .mov (.t 8)⟩,
    ⟨some 126, some (124, true), .nilc (.t 125)⟩,
    ⟨some 127, some (124, true), .fa 16 (.t 126)⟩,
    ⟨some 128, some (124, true), .ld 1 false (.t 127)⟩,
    ⟨some 129, some (124, true), .iaV 1 (.t 128) (.c (.int .i64 1))⟩,
    ⟨some 130, some (124, true), .ld 1 false (.t 129)⟩,
    ⟨some 131, some (124, true), .bin .eql (.t 130) (.c (.int .u64 0))⟩,
    ⟨some 132, none, .pick (.t 124) (.t 131) (.c (.bool false))⟩,
    ⟨some 133, none, .mov (.t 132)⟩,
    ⟨some 134, some (133, true), .mov (.t 8)⟩,
    ⟨some 135, some (133, true), .nilc (.t 134)⟩,
    ⟨some 136, some (133, true), .fa 16 (.t 135)⟩,
    ⟨some 137, some (133, true), .ld 1 false (.t 136)⟩,
    ⟨some 138, some (133, true), .iaV 1 (.t 137) (.c (.int .i64 2))⟩,
    ⟨some 139, some (133, true), .ld 1 false (.t 138)⟩,
    ⟨some 140, some (133, true), .bin .eql (.t 139) (.c (.int .u64 7))⟩,
    ⟨some 141, none, .pick (.t 133) (.t 140) (.c (.bool false))⟩,
    ⟨some 142, none, .mov (.t 141)⟩,
    ⟨some 143, some (142, true), .mov (.t 8)⟩,
    ⟨some 144, some (142, true), .nilc (.t 143)⟩,
    ⟨some 145, some (142, true), .fa 14 (.t 144)⟩,
    ⟨some 146, some (142, true), .ld 1 false (.t 145)⟩,
    ⟨some 147, some (142, true), .lenV (.t 146)⟩,
    ⟨some 148, some (142, true), .bin .eql (.t 147) (.c (.int .i64 0))⟩,
    ⟨some 149, none, .pick (.t 142) (.t 148) (.c (.bool false))⟩,
    ⟨some 150, none, .mov (.t 149)⟩,
    ⟨some 151, some (150, true), .mov (.t 12)⟩,
    ⟨some 152, some (150, true), .bin .eql (.t 151) (.c (.int .i64 10))⟩,
    ⟨some 153, none, .pick (.t 150) (.t 152) (.c (.bool false))⟩,
    ⟨some 154, none, .mov (.t 153)⟩,
    ⟨some 155, some (154, true), .mov (.t 15)⟩,
    ⟨some 156, some (154, true), .bin .eql (.t 155) (.c (.int .i64 0))⟩,
    ⟨some 157, none, .pick (.t 154) (.t 156) (.c (.bool false))⟩,
    ⟨some 158, none, .mov (.t 157)⟩,
    ⟨some 159, some (158, true), .mov (.t 18)⟩,
    ⟨some 160, some (158, true), .bin .eql (.t 159) (.c (.int .i64 10))⟩,
    ⟨some 161, none, .pick (.t 158) (.t 160) (.c (.bool false))⟩,
    ⟨some 0, none, .mov (.t 161)⟩] [0])
   (.ret)))))))))))),
  [.t 0], 162, 0⟩
def A5 : Ann := ⟨[(0, []), (1, [20]), (2, [0]), (3, [1]), (4, [1, 3]), (5, [1, 3, 5]), (6, [1, 3, 5, 7]), (7, [3, 5, 7, 8, 9]), (8, [3, 5, 7, 8, 87]), (9, [0]), (10, [3, 5, 7, 8, 12]), (11, [3, 5, 7, 8, 12, 15]), (12, [3, 5, 7, 8, 12, 15, 18]), (13, [0])], []⟩
set_option maxRecDepth 100000 in
theorem F5.ok : compF Try.prog A5 Try.f5 = some F5 := by kernel_rfl
theorem F5.fok : FOk Try.prog 5 F5 := fok_of mixed Try.func5 F5.ok

/-- cloakroom/cloakroomlaw16.begun -/
def F6 : SFn := ⟨.seq (.region [⟨some 0, none, .mov (.c (.bool false))⟩] [])
   (.seq (.region [⟨some 11, none, .call 18 []⟩,
    ⟨some 12, none, .call 9 [.t 11]⟩,
    ⟨some 10, none, .mov (.t 12)⟩,
    ⟨some 13, none, .ext (.t 10) 0⟩,
    ⟨some 14, none, .ext (.t 10) 1⟩,
    ⟨some 1, none, .mov (.t 13)⟩,
    ⟨some 2, none, .mov (.t 14)⟩] [1, 2])
   (.seq (.seq (.region [⟨some 15, none, .mov (.t 2)⟩,
    ⟨some 16, none, .bin .neq (.t 15) (.c (.int .i64 0))⟩,
    ⟨some 17, none, .mov (.t 16)⟩,
    ⟨some 18, some (17, false), .mov (.t 1)⟩,
    ⟨some 19, some (17, false), .eqk false .ptr (.t 18) (.c (.pointer none))⟩,
    ⟨some 20, none, .pick (.t 17) (.c (.bool true)) (.t 19)⟩] [1, 20])
   (.cond (.t 20) (.seq (.region [⟨some 0, none, .mov (.c (.bool false))⟩] [0])
   (.ret)) (.skip)))
   (.seq (.region [⟨some 22, none, .mov (.t 1)⟩,
    ⟨some 23, none, .call 13 [.t 22, .c (.string { data := #[105, 110, 99] })]⟩,
    ⟨some 21, none, .mov (.t 23)⟩,
    ⟨some 24, none, .ext (.t 21) 0⟩,
    ⟨some 25, none, .ext (.t 21) 1⟩,
    ⟨some 26, none, .ext (.t 21) 2⟩,
    ⟨some 4, none, .new [.slice none 0 0, .slice none 0 0]⟩,
    ⟨some 3, none, .mov (.t 24)⟩,
    ⟨none, none, .st 2 (.t 4) (.t 25)⟩,
    ⟨some 5, none, .mov (.t 26)⟩] [1, 3, 4, 5])
   (.seq (.region [⟨some 28, none, .mov (.t 1)⟩,
    ⟨some 29, none, .call 13 [.t 28, .c (.string { data := #[110, 111, 110, 101] })]⟩,
    ⟨some 27, none, .mov (.t 29)⟩,
    ⟨some 30, none, .ext (.t 27) 0⟩,
    ⟨some 31, none, .ext (.t 27) 1⟩,
    ⟨some 32, none, .ext (.t 27) 2⟩,
    ⟨some 7, none, .new [.slice none 0 0, .slice none 0 0]⟩,
    ⟨some 6, none, .mov (.t 30)⟩,
    ⟨none, none, .st 2 (.t 7) (.t 31)⟩,
    ⟨some 8, none, .mov (.t 32)⟩] [1, 3, 4, 5, 8])
   (.seq (.region [⟨some 33, none, .mov (.t 1)⟩,
    ⟨some 34, none, .call 16 [.t 33]⟩,
    ⟨some 9, none, .mov (.t 34)⟩] [1, 3, 4, 5, 8, 9])
   (.seq (.region [⟨some 35, none, .mov (.t 1)⟩,
    ⟨some 36, none, .nilc (.t 35)⟩,
    ⟨some 37, none, .fa 14 (.t 36)⟩,
    ⟨some 38, none, .ld 1 false (.t 37)⟩,
    ⟨some 39, none, .lenV (.t 38)⟩,
    ⟨some 40, none, .bin .eql (.t 39) (.c (.int .i64 65536))⟩,
    ⟨some 41, none, .mov (.t 40)⟩,
    ⟨some 42, some (41, true), .mov (.t 1)⟩,
    ⟨some 43, some (41, true), .nilc (.t 42)⟩,
    ⟨some 44, some (41, true), .fa 16 (.t 43)⟩,
    ⟨some 45, some (41, true), .ld 1 false (.t 44)⟩,
    ⟨some 46, some (41, true), .lenV (.t 45)⟩,
    ⟨some 47, some (41, true), .bin .eql (.t 46) (.c (.int .i64 1))⟩,
    ⟨some 48, none, .pick (.t 41) (.t 47) (.c (.bool false))⟩,
    ⟨some 49, none, .mov (.t 48)⟩,
    ⟨some 50, some (49, true), .mov (.t 5)⟩,
    ⟨some 51, some (49, true), .bin .eql (.t 50) (.c (.int .i64 0))⟩,
    ⟨some 52, none, .pick (.t 49) (.t 51) (.c (.bool false))⟩,
    ⟨some 53, none, .mov (.t 52)⟩,
    ⟨some 54, some (53, true), .mov (.t 3)⟩,
    ⟨some 55, some (53, true), .bin .eql (.t 54) (.c (.int .u32 0))⟩,
    ⟨some 56, none, .pick (.t 53) (.t 55) (.c (.bool false))⟩,
    ⟨some 57, none, .mov (.t 56)⟩,
    ⟨some 58, some (57, true), .fa 0 (.t 4)⟩,
    ⟨some 59, some (57, true), .ld 1 false (.t 58)⟩,
    ⟨some 60, some (57, true), .lenV (.t 59)⟩,
    ⟨some 61, some (57, true), .bin .eql (.t 60) (.c (.int .i64 1))⟩,
    ⟨some 62, none, .pick (.t 57) (.t 61) (.c (.bool false))⟩,
    ⟨some 63, none, .mov (.t 62)⟩,
    ⟨some 64, some (63, true), .mov (.t 8)⟩,
    ⟨some 65, some (63, true), .bin .eql (.t 64) (.c (.int .i64 10))⟩,
    ⟨some 66, none, .pick (.t 63) (.t 65) (.c (.bool false))⟩,
    ⟨some 67, none, .mov (.t 66)⟩,
    ⟨some 68, some (67, true), .mov (.t 9)⟩,
    ⟨some 69, some (67, true), .mov (.t 1)⟩,
    ⟨some 70, some (67, true), .call 17 [.t 68, .t 69]⟩,
    ⟨some 71, none, .pick (.t 67) (.t 70) (.c (.bool false))⟩,
    ⟨some 72, none, .mov (.t 71)⟩,
    ⟨some 73, some (72, true), .mov (.t 1)⟩,
    ⟨some 74, some (72, true), .call 17 [.t 73, .c (.pointer none)]⟩,
    ⟨some 75, some (72, true), .un .not (.t 74)⟩,
    ⟨some 76, none, .pick (.t 72) (.t 75) (.c (.bool false))⟩,
    ⟨some 77, none, .mov (.t 76)⟩,
    ⟨some 78, some (77, true), .mov (.t 1)⟩,
    ⟨some 79, some (77, true), .nilc (.t 78)⟩,
    ⟨some 80, some (77, true), .fa 13 (.t 79)⟩,
    ⟨some 81, some (77, true), .ld 1 false (.t 80)⟩,
    ⟨some 82, some (77, true), .lenV (.t 81)⟩,
    ⟨some 83, some (77, true), .bin .eql (.t 82) (.c (.int .i64 8))⟩,
    ⟨some 84, none, .pick (.t 77) (.t 83) (.c (.bool false))⟩,
    ⟨some 0, none, .mov (.t 84)⟩] [0])
   (.ret))))))),
  [.t 0], 85, 0⟩
def A6 : Ann := ⟨[(0, []), (1, [1, 2]), (2, [1, 20]), (3, [0]), (4, [1, 3, 4, 5]), (5, [1, 3, 4, 5, 8]), (6, [1, 3, 4, 5, 8, 9]), (7, [0])], []⟩
set_option maxRecDepth 100000 in
theorem F6.ok : compF Try.prog A6 Try.f6 = some F6 := by kernel_rfl
theorem F6.fok : FOk Try.prog 6 F6 := fok_of mixed Try.func6 F6.ok

/-- cloakroom/cloakroomplay.Made -/
def F7 : SFn := ⟨.seq (.region [⟨some 2, none, .mov (.c (.pointer none))⟩] [0])
   (.seq (.region [⟨some 3, none, .mov (.t 0)⟩,
    ⟨some 4, none, .build [.slice none 0 0, .int .i64 0] [(0, 1, .t 3)]⟩,
    ⟨some 5, none, .box (.t 4)⟩,
    ⟨some 2, none, .mov (.t 5)⟩] [2])
   (.ret)),
  [.t 2], 6, 1⟩
def A7 : Ann := ⟨[(0, [0]), (1, [2])], []⟩
set_option maxRecDepth 100000 in
theorem F7.ok : compF Try.prog A7 Try.f7 = some F7 := by kernel_rfl
theorem F7.fok : FOk Try.prog 7 F7 := fok_of mixed Try.func7 F7.ok

/-- (*cloakroom/cloakroomplay.Picks).Module -/
def F8 : SFn := ⟨.seq (.region [⟨some 2, none, .new [.slice none 0 0, .slice none 0 0, .slice none 0 0, .slice none 0 0, .slice none 0 0, .slice none 0 0, .bool false, .int .u32 0, .slice none 0 0, .bool false, .int .u32 0, .slice none 0 0, .slice none 0 0]⟩] [0, 2])
   (.seq (.region [⟨some 16, none, .call 19 []⟩,
    ⟨some 17, none, .mov (.t 0)⟩,
    ⟨some 18, none, .call 20 [.t 17, .c (.int .i64 4)]⟩,
    ⟨some 19, none, .bin .quo (.t 18) (.c (.int .i64 3))⟩,
    ⟨some 20, none, .conv .u32 (.t 19)⟩,
    ⟨some 21, none, .build [.int .u32 0, .int .u32 0, .bool false] [(0, 1, .t 20)]⟩,
    ⟨some 22, none, .bslice 1 3 [.int .u32 0, .int .u32 0, .bool false] [(0, 3, .t 21)]⟩,
    ⟨some 23, none, .build [.int .u32 0, .int .u32 0, .bool false] [(0, 1, .c (.int .u32 4))]⟩,
    ⟨some 24, none, .build [.int .u8 0, .int .u32 0, .int .u32 0, .bool false] [(0, 1, .c (.int .u8 112)), (1, 3, .t 23)]⟩,
    ⟨some 25, none, .bslice 1 4 [.int .u8 0, .int .u32 0, .int .u32 0, .bool false] [(0, 4, .t 24)]⟩,
    ⟨some 26, none, .build [.slice none 0 0, .slice none 0 0, .slice none 0 0, .slice none 0 0, .slice none 0 0, .slice none 0 0, .bool false, .int .u32 0, .slice none 0 0, .bool false, .int .u32 0, .slice none 0 0, .slice none 0 0] [(0, 1, .t 16), (3, 1, .t 22), (2, 1, .t 25)]⟩,
    ⟨some 3, none, .new [.slice none 0 0, .slice none 0 0, .slice none 0 0, .slice none 0 0, .slice none 0 0, .slice none 0 0, .bool false, .int .u32 0, .slice none 0 0, .bool false, .int .u32 0, .slice none 0 0, .slice none 0 0]⟩,
    ⟨none, none, .st 13 (.t 3) (.t 26)⟩] [0, 2, 3])
   (.seq (.seq (.region [⟨some 27, none, .mov (.t 0)⟩,
    ⟨some 28, none, .call 20 [.t 27, .c (.int .i64 2)]⟩,
    ⟨some 29, none, .bin .eql (.t 28) (.c (.int .i64 0))⟩] [0, 2, 3, 29])
   (.cond (.t 29) (.region [⟨some 30, none, .fa 2 (.t 3)⟩,
    ⟨some 31, none, .ld 1 false (.t 30)⟩,
    ⟨some 32, none, .fa 2 (.t 3)⟩,
    ⟨some 33, none, .ld 1 false (.t 32)⟩,
    ⟨some 34, none, .iaV 4 (.t 31) (.c (.int .i64 0))⟩,
    ⟨some 35, none, .fa 1 (.t 34)⟩,
    ⟨some 36, none, .fa 1 (.t 35)⟩,
    ⟨none, none, .st 1 (.t 36) (.c (.int .u32 8))⟩,
    ⟨some 37, none, .iaV 4 (.t 33) (.c (.int .i64 0))⟩,
    ⟨some 38, none, .fa 1 (.t 37)⟩,
    ⟨some 39, none, .fa 2 (.t 38)⟩,
    ⟨none, none, .st 1 (.t 39) (.c (.bool true))⟩] [0, 2, 3]) (.skip)))
   (.seq (.seq (.region [⟨some 40, none, .fa 3 (.t 3)⟩,
    ⟨some 41, none, .ld 1 false (.t 40)⟩,
    ⟨some 42, none, .iaV 3 (.t 41) (.c (.int .i64 0))⟩,
    ⟨some 43, none, .fa 0 (.t 42)⟩,
    ⟨some 44, none, .ld 1 false (.t 43)⟩,
    ⟨some 45, none, .bin .eql (.t 44) (.c (.int .u32 0))⟩,
    ⟨some 46, none, .mov (.t 45)⟩,
    ⟨some 47, some (46, true), .mov (.t 0)⟩,
    ⟨some 48, some (46, true), .call 20 [.t 47, .c (.int .i64 4)]⟩,
    ⟨some 49, some (46, true), .bin .gtr (.t 48) (.c (.int .i64 0))⟩,
    ⟨some 50, none, .pick (.t 46) (.t 49) (.c (.bool false))⟩] [0, 2, 3, 50])
   (.cond (.t 50) (.region [⟨some 51, none, .fa 3 (.t 3)⟩,
    ⟨some 52, none, .ld 1 false (.t 51)⟩,
    ⟨some 53, none, .iaV 3 (.t 52) (.c (.int .i64 0))⟩,
    ⟨some 54, none, .fa 0 (.t 53)⟩,
    ⟨none, none, .st 1 (.t 54) (.c (.int .u32 1))⟩] [0, 2, 3]) (.skip)))
   (.seq (.region [⟨some 55, none, .build [.int .i64 0, .int .u32 0, .int .u32 0, .int .u64 0, .slice none 0 0, .int .i64 0] [(0, 1, .c (.int .i64 11))]⟩,
    ⟨some 4, none, .new [.int .i64 0, .int .u32 0, .int .u32 0, .int .u64 0, .slice none 0 0, .int .i64 0]⟩,
    ⟨none, none, .st 6 (.t 4) (.t 55)⟩] [0, 2, 3, 4])
   (.seq (.region [⟨some 56, none, .mov (.t 0)⟩,
    ⟨some 60, none, .ld 6 true (.t 4)⟩,
    ⟨some 63, none, .build [.int .i64 0, .int .u32 0, .int .u32 0, .int .u64 0, .slice none 0 0, .int .i64 0] [(0, 1, .c (.int .i64 66)), (3, 1, .c (.int .u64 18446744073709551615))]⟩,
    ⟨some 64, none, .ld 6 true (.t 4)⟩,
    ⟨some 65, none, .bslice 2 6 [.int .i64 0, .int .u32 0, .int .u32 0, .int .u64 0, .slice none 0 0, .int .i64 0] [(0, 6, .t 63), (6, 6, .t 64)]⟩,
    ⟨some 66, none, .build [.int .u8 0, .bool false, .slice none 0 0] [(0, 1, .c (.int .u8 126)), (1, 1, .c (.bool true)), (2, 1, .t 65)]⟩,
    ⟨some 57, none, .call 20 [.t 56, .c (.int .i64 9)]⟩,
    ⟨none, none, .chk 6 true (.t 4) 60⟩,
    ⟨none, none, .chk 6 true (.t 4) 64⟩,
    ⟨some 58, none, .conv .u64 (.t 57)⟩,
    ⟨some 59, none, .build [.int .i64 0, .int .u32 0, .int .u32 0, .int .u64 0, .slice none 0 0, .int .i64 0] [(0, 1, .c (.int .i64 65)), (3, 1, .t 58)]⟩,
    ⟨some 61, none, .bslice 2 6 [.int .i64 0, .int .u32 0, .int .u32 0, .int .u64 0, .slice none 0 0, .int .i64 0] [(0, 6, .t 59), (6, 6, .t 60)]⟩,
    ⟨some 62, none, .build [.int .u8 0, .bool false, .slice none 0 0] [(0, 1, .c (.int .u8 127)), (1, 1, .c (.bool true)), (2, 1, .t 61)]⟩,
    ⟨some 67, none, .bslice 2 3 [.int .u8 0, .bool false, .slice none 0 0] [(0, 3, .t 62), (3, 3, .t 66)]⟩,
    ⟨some 68, none, .fa 4 (.t 3)⟩,
    ⟨none, none, .st 1 (.t 68) (.t 67)⟩] [0, 2, 3, 4])
   (.seq (.region [⟨some 69, none, .mov (.t 0)⟩,
    ⟨some 70, none, .call 20 [.t 69, .c (.int .i64 3)]⟩,
    ⟨some 71, none, .bin .add (.c (.int .i64 1)) (.t 70)⟩,
    ⟨some 5, none, .mov (.t 71)⟩] [0, 2, 3, 4, 5])
   (.seq (.seq (.region [⟨some 6, none, .mov (.c (.int .i64 0))⟩] [0, 2, 3, 4, 5, 6])
   (.block 0 (.loop (.seq (.seq (.region [⟨some 72, none, .mov (.t 6)⟩,
    ⟨some 73, none, .mov (.t 5)⟩,
    ⟨some 74, none, .bin .lss (.t 72) (.t 73)⟩] [0, 2, 3, 4, 5, 6, 74])
   (.cond (.t 74) (.skip) (.exit 0)))
   (.seq (.block 1 (.seq (.region [⟨some 77, none, .fa 1 (.t 3)⟩,
    ⟨some 78, none, .ld 1 false (.t 77)⟩,
    ⟨some 79, none, .mov (.t 0)⟩,
    ⟨some 80, none, .call 20 [.t 79, .c (.int .i64 5)]⟩,
    ⟨none, none, .chk 1 false (.t 77) 78⟩,
    ⟨some 81, none, .bin .add (.c (.int .i64 1)) (.t 80)⟩,
    ⟨some 82, none, .conv .u32 (.t 81)⟩,
    ⟨some 83, none, .bslice 1 1 [.int .u32 0] [(0, 1, .t 82)]⟩,
    ⟨some 84, none, .app 1 4 (.t 78) (.t 83)⟩,
    ⟨some 85, none, .fa 1 (.t 3)⟩,
    ⟨none, none, .st 1 (.t 85) (.t 84)⟩] [0, 2, 3, 4, 5, 6])
   (.region [⟨some 86, none, .fa 5 (.t 3)⟩,
    ⟨some 87, none, .ld 1 false (.t 86)⟩,
    ⟨some 88, none, .mov (.t 6)⟩,
    ⟨some 89, none, .bin .add (.c (.int .i64 48)) (.t 88)⟩,
    ⟨some 90, none, .conv .u8 (.t 89)⟩,
    ⟨some 91, none, .bslice 1 1 [.int .u8 0] [(0, 1, .t 90)]⟩,
    ⟨some 92, none, .toStr (.t 91)⟩,
    ⟨some 93, none, .bin .add (.c (.string { data := #[102] })) (.t 92)⟩,
    ⟨some 94, none, .mov (.t 6)⟩,
    ⟨some 95, none, .conv .u32 (.t 94)⟩,
    ⟨some 96, none, .build [.string ByteArray.empty, .int .u8 0, .int .u32 0] [(0, 1, .t 93), (2, 1, .t 95)]⟩,
    ⟨some 97, none, .bslice 1 3 [.string ByteArray.empty, .int .u8 0, .int .u32 0] [(0, 3, .t 96)]⟩,
    ⟨some 98, none, .app 3 24 (.t 87) (.t 97)⟩,
    ⟨some 99, none, .fa 5 (.t 3)⟩,
    ⟨none, none, .st 1 (.t 99) (.t 98)⟩] [0, 2, 3, 4, 5, 6])))
   (.region [⟨some 75, none, .mov (.t 6)⟩,
    ⟨some 76, none, .bin .add (.t 75) (.c (.int .i64 1))⟩,
    ⟨some 6, none, .mov (.t 76)⟩] [0, 2, 3, 4, 5, 6]))))))
   (.seq (.region [⟨some 7, none, .mov (.c (.slice none 0 0))⟩] [0, 2, 3, 4, 5, 7])
   (.seq (.seq (.region [⟨some 8, none, .mov (.c (.int .i64 0))⟩] [0, 2, 3, 4, 5, 7, 8])
   (.block 2 (.loop (.seq (.seq (.region [⟨some 100, none, .mov (.t 8)⟩,
    ⟨some 101, none, .bin .lss (.t 100) (.c (.int .i64 3))⟩] [0, 2, 3, 4, 5, 7, 8, 101])
   (.cond (.t 101) (.skip) (.exit 2)))
   (.seq (.block 3 (.seq (.region [⟨some 104, none, .mov (.t 0)⟩,
    ⟨some 105, none, .mov (.t 5)⟩,
    ⟨some 109, none, .ld 6 true (.t 4)⟩,
    ⟨some 106, none, .call 20 [.t 104, .t 105]⟩,
    ⟨none, none, .chk 6 true (.t 4) 109⟩,
    ⟨some 107, none, .conv .u32 (.t 106)⟩,
    ⟨some 108, none, .build [.int .i64 0, .int .u32 0, .int .u32 0, .int .u64 0, .slice none 0 0, .int .i64 0] [(0, 1, .c (.int .i64 210)), (1, 1, .t 107)]⟩,
    ⟨some 110, none, .bslice 2 6 [.int .i64 0, .int .u32 0, .int .u32 0, .int .u64 0, .slice none 0 0, .int .i64 0] [(0, 6, .t 108), (6, 6, .t 109)]⟩,
    ⟨some 9, none, .mov (.t 110)⟩] [0, 2, 3, 4, 5, 7, 8, 9])
   (.seq (.seq (.region [⟨some 111, none, .mov (.t 0)⟩,
    ⟨some 112, none, .call 20 [.t 111, .c (.int .i64 4)]⟩,
    ⟨some 113, none, .bin .eql (.t 112) (.c (.int .i64 0))⟩] [0, 2, 3, 4, 5, 7, 8, 9, 113])
   (.cond (.t 113) (.region [⟨some 114, none, .mov (.t 9)⟩,
    ⟨some 115, none, .build [.int .i64 0, .int .u32 0, .int .u32 0, .int .u64 0, .slice none 0 0, .int .i64 0] [(0, 1, .c (.int .i64 208)), (1, 1, .c (.int .u32 112))]⟩,
    ⟨some 116, none, .iaV 6 (.t 114) (.c (.int .i64 0))⟩,
    ⟨none, none, .st 6 (.t 116) (.t 115)⟩] [0, 2, 3, 4, 5, 7, 8, 9]) (.skip)))
   (.region [⟨some 117, none, .mov (.t 7)⟩,
    ⟨some 118, none, .mov (.t 9)⟩,
    ⟨some 119, none, .bslice 1 1 [.slice none 0 0] [(0, 1, .t 118)]⟩,
    ⟨some 120, none, .app 1 24 (.t 117) (.t 119)⟩,
    ⟨some 7, none, .mov (.t 120)⟩] [0, 2, 3, 4, 5, 7, 8]))))
   (.region [⟨some 102, none, .mov (.t 8)⟩,
    ⟨some 103, none, .bin .add (.t 102) (.c (.int .i64 1))⟩,
    ⟨some 8, none, .mov (.t 103)⟩] [0, 2, 3, 4, 5, 7, 8]))))))
   (.seq (.region [⟨some 121, none, .mov (.t 0)⟩,
    ⟨some 125, none, .ld 6 true (.t 4)⟩,
    ⟨some 122, none, .call 20 [.t 121, .c (.int .i64 2)]⟩,
    ⟨none, none, .chk 6 true (.t 4) 125⟩,
    ⟨some 123, none, .conv .u64 (.t 122)⟩,
    ⟨some 124, none, .build [.int .i64 0, .int .u32 0, .int .u32 0, .int .u64 0, .slice none 0 0, .int .i64 0] [(0, 1, .c (.int .i64 65)), (3, 1, .t 123)]⟩,
    ⟨some 126, none, .bslice 2 6 [.int .i64 0, .int .u32 0, .int .u32 0, .int .u64 0, .slice none 0 0, .int .i64 0] [(0, 6, .t 124), (6, 6, .t 125)]⟩,
    ⟨some 10, none, .mov (.t 126)⟩] [0, 2, 3, 4, 5, 7, 10])
   (.seq (.region [⟨some 127, none, .mov (.t 10)⟩,
    ⟨some 128, none, .mov (.t 7)⟩,
    ⟨some 129, none, .build [.int .u8 0, .int .u8 0, .int .u32 0, .slice none 0 0, .slice none 0 0] [(1, 1, .c (.int .u8 112)), (3, 1, .t 127), (4, 1, .t 128)]⟩,
    ⟨some 130, none, .mov (.t 7)⟩,
    ⟨some 131, none, .build [.int .u8 0, .int .u8 0, .int .u32 0, .slice none 0 0, .slice none 0 0] [(0, 1, .c (.int .u8 1)), (1, 1, .c (.int .u8 112)), (4, 1, .t 130)]⟩,
    ⟨some 132, none, .bslice 2 5 [.int .u8 0, .int .u8 0, .int .u32 0, .slice none 0 0, .slice none 0 0] [(0, 5, .t 129), (5, 5, .t 131)]⟩,
    ⟨some 133, none, .fa 8 (.t 3)⟩,
    ⟨none, none, .st 1 (.t 133) (.t 132)⟩] [0, 2, 3, 4, 5])
   (.seq (.region [⟨some 134, none, .bslice 7 1 [.int .u8 0] [(0, 1, .c (.int .u8 112)), (1, 1, .c (.int .u8 97)), (2, 1, .c (.int .u8 115)), (3, 1, .c (.int .u8 115)), (4, 1, .c (.int .u8 105)), (5, 1, .c (.int .u8 118)), (6, 1, .c (.int .u8 101))]⟩,
    ⟨some 135, none, .mark (.t 134)⟩,
    ⟨some 136, none, .build [.int .u8 0, .slice none 0 0, .slice none 0 0] [(0, 1, .c (.int .u8 1)), (2, 1, .t 135)]⟩,
    ⟨some 137, none, .bslice 3 1 [.int .u8 0] [(0, 1, .c (.int .u8 1)), (1, 1, .c (.int .u8 2)), (2, 1, .c (.int .u8 255))]⟩,
    ⟨some 138, none, .build [.int .u8 0, .slice none 0 0, .slice none 0 0] [(0, 1, .c (.int .u8 1)), (2, 1, .t 137)]⟩,
    ⟨some 139, none, .bslice 2 3 [.int .u8 0, .slice none 0 0, .slice none 0 0] [(0, 3, .t 136), (3, 3, .t 138)]⟩,
    ⟨some 140, none, .fa 12 (.t 3)⟩,
    ⟨none, none, .st 1 (.t 140) (.t 139)⟩] [0, 2, 3, 4, 5])
   (.seq (.seq (.region [⟨some 141, none, .fa 3 (.t 3)⟩,
    ⟨some 142, none, .ld 1 false (.t 141)⟩,
    ⟨some 143, none, .iaV 3 (.t 142) (.c (.int .i64 0))⟩,
    ⟨some 144, none, .fa 0 (.t 143)⟩,
    ⟨some 145, none, .ld 1 false (.t 144)⟩,
    ⟨some 146, none, .bin .gtr (.t 145) (.c (.int .u32 0))⟩] [0, 2, 3, 4, 5, 146])
   (.cond (.t 146) (.region [⟨some 147, none, .fa 12 (.t 3)⟩,
    ⟨some 148, none, .ld 1 false (.t 147)⟩,
    ⟨some 149, none, .fa 12 (.t 3)⟩,
    ⟨some 150, none, .ld 1 false (.t 149)⟩,
    ⟨some 151, none, .mov (.t 0)⟩,
    ⟨some 155, none, .ld 6 true (.t 4)⟩,
    ⟨some 152, none, .call 20 [.t 151, .c (.int .i64 3)]⟩,
    ⟨none, none, .chk 1 false (.t 147) 148⟩,
    ⟨none, none, .chk 1 false (.t 149) 150⟩,
    ⟨none, none, .chk 6 true (.t 4) 155⟩,
    ⟨some 153, none, .conv .u64 (.t 152)⟩,
    ⟨some 154, none, .build [.int .i64 0, .int .u32 0, .int .u32 0, .int .u64 0, .slice none 0 0, .int .i64 0] [(0, 1, .c (.int .i64 65)), (3, 1, .t 153)]⟩,
    ⟨some 156, none, .bslice 2 6 [.int .i64 0, .int .u32 0, .int .u32 0, .int .u64 0, .slice none 0 0, .int .i64 0] [(0, 6, .t 154), (6, 6, .t 155)]⟩,
    ⟨some 157, none, .iaV 3 (.t 148) (.c (.int .i64 1))⟩,
    ⟨some 158, none, .fa 0 (.t 157)⟩,
    ⟨none, none, .st 1 (.t 158) (.c (.int .u8 0))⟩,
    ⟨none, none, .chk 6 true (.t 4) 155⟩,
    ⟨some 159, none, .iaV 3 (.t 150) (.c (.int .i64 1))⟩,
    ⟨some 160, none, .fa 1 (.t 159)⟩,
    ⟨none, none, .st 1 (.t 160) (.t 156)⟩] [0, 2, 3, 4, 5]) (.skip)))
   (.seq (.region [⟨some 161, none, .fa 9 (.t 3)⟩,
    ⟨none, none, .st 1 (.t 161) (.c (.bool true))⟩,
    ⟨some 162, none, .fa 10 (.t 3)⟩,
    ⟨none, none, .st 1 (.t 162) (.c (.int .u32 2))⟩] [0, 2, 3, 4, 5])
   (.seq (.seq (.region [⟨some 11, none, .mov (.c (.int .i64 0))⟩] [0, 2, 3, 4, 5, 11])
   (.block 4 (.loop (.seq (.seq (.region [⟨some 163, none, .mov (.t 11)⟩,
    ⟨some 164, none, .mov (.t 5)⟩,
    ⟨some 165, none, .bin .lss (.t 163) (.t 164)⟩] [0, 2, 3, 4, 5, 11, 165])
   (.cond (.t 165) (.skip) (.exit 4)))
   (.seq (.block 5 (.seq (.region [⟨some 168, none, .fa 0 (.t 3)⟩,
    ⟨some 169, none, .ld 1 false (.t 168)⟩,
    ⟨some 170, none, .fa 1 (.t 3)⟩,
    ⟨some 171, none, .ld 1 false (.t 170)⟩,
    ⟨some 172, none, .mov (.t 11)⟩,
    ⟨some 173, none, .iaV 1 (.t 171) (.t 172)⟩,
    ⟨some 174, none, .ld 1 false (.t 173)⟩,
    ⟨some 175, none, .iaV 2 (.t 169) (.t 174)⟩,
    ⟨some 176, none, .ld 2 true (.t 175)⟩,
    ⟨some 12, none, .new [.slice none 0 0, .slice none 0 0]⟩,
    ⟨none, none, .st 2 (.t 12) (.t 176)⟩] [0, 2, 3, 4, 5, 11, 12])
   (.seq (.region [⟨some 177, none, .bslice 3 1 [.int .u8 0] [(0, 1, .c (.int .u8 127)), (1, 1, .c (.int .u8 126)), (2, 1, .c (.int .u8 127))]⟩,
    ⟨some 178, none, .build [.slice none 0 0, .slice none 0 0] [(0, 1, .t 177)]⟩,
    ⟨some 13, none, .new [.slice none 0 0, .slice none 0 0]⟩,
    ⟨none, none, .st 2 (.t 13) (.t 178)⟩] [0, 2, 3, 4, 5, 11, 12, 13])
   (.seq (.region [⟨some 179, none, .mov (.t 0)⟩,
    ⟨some 180, none, .bslice 0 1 [.int .u8 0] []⟩,
    ⟨some 181, none, .fa 0 (.t 12)⟩,
    ⟨some 182, none, .ld 1 false (.t 181)⟩,
    ⟨some 184, none, .fa 0 (.t 13)⟩,
    ⟨some 185, none, .ld 1 false (.t 184)⟩,
    ⟨some 187, none, .mov (.t 11)⟩,
    ⟨some 183, none, .app 1 1 (.t 180) (.t 182)⟩,
    ⟨none, none, .chk 1 false (.t 184) 185⟩,
    ⟨some 186, none, .app 1 1 (.t 183) (.t 185)⟩,
    ⟨some 188, none, .build [.pointer none, .pointer none, .slice none 0 0, .slice none 0 0, .int .i64 0, .int .i64 0] [(0, 1, .t 179), (1, 1, .t 3), (2, 1, .t 186), (5, 1, .t 187)]⟩,
    ⟨some 189, none, .box (.t 188)⟩,
    ⟨some 14, none, .mov (.t 189)⟩] [0, 2, 3, 4, 5, 11, 12, 13, 14])
   (.seq (.region [⟨some 190, none, .mov (.t 14)⟩,
    ⟨some 191, none, .mov (.t 0)⟩,
    ⟨some 192, none, .call 20 [.t 191, .c (.int .i64 4)]⟩,
    ⟨some 193, none, .call 21 [.t 190, .t 192, .c (.int .i64 3)]⟩] [0, 2, 3, 4, 5, 11, 12, 13, 14])
   (.seq (.seq (.region [⟨some 15, none, .mov (.c (.int .i64 0))⟩] [0, 2, 3, 4, 5, 11, 12, 13, 14, 15])
   (.block 6 (.loop (.seq (.seq (.region [⟨some 194, none, .mov (.t 15)⟩,
    ⟨some 195, none, .fa 1 (.t 12)⟩,
    ⟨some 196, none, .ld 1 false (.t 195)⟩,
    ⟨some 197, none, .lenV (.t 196)⟩,
    ⟨some 198, none, .bin .lss (.t 194) (.t 197)⟩] [0, 2, 3, 4, 5, 11, 12, 13, 14, 15, 198])
   (.cond (.t 198) (.skip) (.exit 6)))
   (.seq (.block 7 (.region [⟨some 201, none, .mov (.t 14)⟩,
    ⟨some 202, none, .fa 1 (.t 12)⟩,
    ⟨some 203, none, .ld 1 false (.t 202)⟩,
    ⟨some 204, none, .mov (.t 15)⟩,
    ⟨some 205, none, .iaV 1 (.t 203) (.t 204)⟩,
    ⟨some 206, none, .ld 1 false (.t 205)⟩,
    ⟨some 207, none, .call 22 [.t 201, .t 206, .c (.int .i64 3)]⟩] [0, 2, 3, 4, 5, 11, 12, 13, 14, 15]))
   (.region [⟨some 199, none, .mov (.t 15)⟩,
    ⟨some 200, none, .bin .add (.t 199) (.c (.int .i64 1))⟩,
    ⟨some 15, none, .mov (.t 200)⟩] [0, 2, 3, 4, 5, 11, 12, 13, 14, 15]))))))
   (.seq (.region [⟨some 208, none, .mov (.t 14)⟩,
    ⟨some 209, none, .nilc (.t 208)⟩,
    ⟨some 210, none, .fa 3 (.t 209)⟩,
    ⟨some 211, none, .ld 1 false (.t 210)⟩,
    ⟨some 212, none, .ld 6 true (.t 4)⟩,
    ⟨some 213, none, .bslice 1 6 [.int .i64 0, .int .u32 0, .int .u32 0, .int .u64 0, .slice none 0 0, .int .i64 0] [(0, 6, .t 212)]⟩,
    ⟨some 214, none, .app 6 56 (.t 211) (.t 213)⟩,
    ⟨some 215, none, .fa 1 (.t 13)⟩,
    ⟨none, none, .st 1 (.t 215) (.t 214)⟩] [0, 2, 3, 4, 5, 11, 13])
   (.region [⟨some 216, none, .fa 11 (.t 3)⟩,
    ⟨some 217, none, .ld 1 false (.t 216)⟩,
    ⟨some 218, none, .ld 2 true (.t 13)⟩,
    ⟨some 219, none, .bslice 1 2 [.slice none 0 0, .slice none 0 0] [(0, 2, .t 218)]⟩,
    ⟨some 220, none, .app 2 48 (.t 217) (.t 219)⟩,
    ⟨some 221, none, .fa 11 (.t 3)⟩,
    ⟨none, none, .st 1 (.t 221) (.t 220)⟩] [0, 2, 3, 4, 5, 11]))))))))
   (.region [⟨some 166, none, .mov (.t 11)⟩,
    ⟨some 167, none, .bin .add (.t 166) (.c (.int .i64 1))⟩,
    ⟨some 11, none, .mov (.t 167)⟩] [0, 2, 3, 4, 5, 11]))))))
   (.seq (.region [⟨some 222, none, .ld 13 true (.t 3)⟩,
    ⟨none, none, .st 13 (.t 2) (.t 222)⟩] [2])
   (.ret))))))))))))))))),
  [.c 2 13 true], 223, 1⟩
def A8 : Ann := ⟨[(0, [0, 2]), (1, [0, 2, 3]), (2, [0, 2, 3, 29]), (3, [0, 2, 3]), (4, [0, 2, 3, 50]), (5, [0, 2, 3]), (6, [0, 2, 3, 4]), (7, [0, 2, 3, 4]), (8, [0, 2, 3, 4, 5]), (9, [0, 2, 3, 4, 5, 6]), (10, [0, 2, 3, 4, 5, 6, 74]), (11, [0, 2, 3, 4, 5, 6]), (12, [0, 2, 3, 4, 5, 6]), (13, [0, 2, 3, 4, 5, 6]), (14, [0, 2, 3, 4, 5, 7]), (15, [0, 2, 3, 4, 5, 7, 8]), (16, [0, 2, 3, 4, 5, 7, 8, 101]), (17, [0, 2, 3, 4, 5, 7, 8]), (18, [0, 2, 3, 4, 5, 7, 8, 9]), (19, [0, 2, 3, 4, 5, 7, 8, 9, 113]), (20, [0, 2, 3, 4, 5, 7, 8, 9]), (21, [0, 2, 3, 4, 5, 7, 8]), (22, [0, 2, 3, 4, 5, 7, 10]), (23, [0, 2, 3, 4, 5]), (24, [0, 2, 3, 4, 5]), (25, [0, 2, 3, 4, 5, 146]), (26, [0, 2, 3, 4, 5]), (27, [0, 2, 3, 4, 5]), (28, [0, 2, 3, 4, 5, 11]), (29, [0, 2, 3, 4, 5, 11, 165]), (30, [0, 2, 3, 4, 5, 11]), (31, [0, 2, 3, 4, 5, 11, 12]), (32, [0, 2, 3, 4, 5, 11, 12, 13]), (33, [0, 2, 3, 4, 5, 11, 12, 13, 14]), (34, [0, 2, 3, 4, 5, 11, 12, 13, 14]), (35, [0, 2, 3, 4, 5, 11, 12, 13, 14, 15]), (36, [0, 2, 3, 4, 5, 11, 12, 13, 14, 15, 198]), (37, [0, 2, 3, 4, 5, 11, 12, 13, 14, 15]), (38, [0, 2, 3, 4, 5, 11, 12, 13, 14, 15]), (39, [0, 2, 3, 4, 5, 11, 13]), (40, [0, 2, 3, 4, 5, 11]), (41, [2])], [(7, [(0, []), (4, []), (7, []), (8, []), (9, []), (10, []), (1, [4, 8]), (2, []), (3, []), (5, []), (6, []), (11, []), (12, []), (13, [])], [(1, [0]), (2, [0, 1]), (3, [0, 1, 2]), (5, [0, 1, 2, 3, 4]), (6, [0, 1, 2, 3, 4, 5]), (9, [7, 8]), (10, [7, 8, 9]), (11, [0, 1, 2, 3, 4, 5, 6, 7, 8, 9, 10]), (12, [0, 1, 2, 3, 4, 5, 6, 7, 8, 9, 10, 11]), (13, [0, 1, 2, 3, 4, 5, 6, 7, 8, 9, 10, 11, 12])]),
  (12, [(0, []), (1, []), (2, []), (3, [1]), (4, []), (5, []), (6, []), (7, []), (8, []), (9, [])], [(1, [0]), (3, [2]), (4, [2, 3]), (5, [2, 3, 4]), (6, [2, 3, 4, 5]), (7, [0, 1, 2, 3, 4, 5, 6]), (8, [0, 1, 2, 3, 4, 5, 6, 7]), (9, [0, 1, 2, 3, 4, 5, 6, 7, 8])]),
  (18, [(0, []), (1, []), (5, []), (2, [5]), (3, []), (4, []), (6, []), (7, [])], [(2, [0, 1]), (3, [0, 1, 2]), (4, [0, 1, 2, 3]), (6, [0, 1, 2, 3, 4, 5]), (7, [0, 1, 2, 3, 4, 5, 6])]),
  (22, [(0, []), (4, []), (1, [4]), (2, []), (3, []), (5, []), (6, [])], [(1, [0]), (2, [0, 1]), (3, [0, 1, 2]), (5, [0, 1, 2, 3, 4]), (6, [0, 1, 2, 3, 4, 5])]),
  (26, [(0, []), (1, []), (2, []), (3, []), (4, []), (8, []), (5, [1, 3, 8]), (6, []), (7, []), (9, []), (10, []), (11, []), (12, [8]), (13, []), (14, []), (15, [])], [(1, [0]), (3, [2]), (5, [4]), (6, [4, 5]), (7, [4, 5, 6]), (9, [4, 5, 6, 7, 8]), (10, [0, 1, 2, 3, 4, 5]), (11, [0, 1, 2, 3, 4, 5, 10]), (12, [0, 1, 2, 3, 4, 5, 10, 11]), (13, [0, 1, 2, 3, 4, 5, 6, 7, 8, 9, 10, 11, 12]), (14, [0, 1, 2, 3, 4, 5, 6, 7, 8, 9, 10, 11, 12, 13]), (15, [0, 1, 2, 3, 4, 5, 6, 7, 8, 9, 10, 11, 12, 13, 14])]),
  (31, [(0, []), (1, []), (2, []), (3, []), (4, []), (5, []), (6, []), (7, []), (8, []), (9, []), (10, [])], [(1, [0]), (3, [2]), (5, [2, 3, 4]), (6, [2, 3, 4, 5]), (7, [0, 1, 2, 3, 4, 5, 6]), (8, [0, 1, 2, 3, 4, 5, 6, 7]), (10, [0, 1, 2, 3, 4, 5, 6, 7, 8, 9])]),
  (33, [(0, []), (1, []), (2, []), (3, []), (5, []), (6, []), (8, []), (4, [6]), (7, []), (9, []), (10, []), (11, [])], [(3, [2]), (4, [1, 2, 3]), (6, [5]), (7, [1, 2, 3, 4, 5, 6]), (9, [0, 1, 2, 3, 4, 5, 6, 7, 8]), (10, [0, 1, 2, 3, 4, 5, 6, 7, 8, 9]), (11, [0, 1, 2, 3, 4, 5, 6, 7, 8, 9, 10])]),
  (39, [(0, []), (1, []), (2, []), (3, []), (4, []), (5, []), (6, []), (7, []), (8, [])], [(1, [0]), (2, [0, 1]), (3, [0, 1, 2]), (5, [4]), (6, [0, 1, 2, 3, 4, 5]), (7, [0, 1, 2, 3, 4, 5, 6]), (8, [0, 1, 2, 3, 4, 5, 6, 7])])]⟩
set_option maxRecDepth 100000 in
theorem F8.ok : compF Try.prog A8 Try.f8 = some F8 := by kernel_rfl
theorem F8.fok : FOk Try.prog 8 F8 := fok_of mixed Try.func8 F8.ok

/-- cloakroom/inst.New -/
def F9 : SFn := ⟨.seq (.region [⟨some 1, none, .box (.t 0)⟩,
    ⟨some 2, none, .mov (.c (.pointer none))⟩,
    ⟨some 3, none, .mov (.c (.int .i64 0))⟩] [1])
   (.seq (.region [⟨some 7, none, .ld 13 true (.t 1)⟩,
    ⟨some 8, none, .fa 8 (.t 1)⟩,
    ⟨some 9, none, .ld 1 false (.t 8)⟩,
    ⟨some 10, none, .lenV (.t 9)⟩,
    ⟨some 11, none, .mkSl 1 1 [.bool false] (.t 10) (.t 10)⟩,
    ⟨some 12, none, .fa 12 (.t 1)⟩,
    ⟨some 13, none, .ld 1 false (.t 12)⟩,
    ⟨some 14, none, .lenV (.t 13)⟩,
    ⟨some 15, none, .mkSl 1 1 [.bool false] (.t 14) (.t 14)⟩,
    ⟨some 16, none, .build [.slice none 0 0, .slice none 0 0, .slice none 0 0, .slice none 0 0, .slice none 0 0, .slice none 0 0, .bool false, .int .u32 0, .slice none 0 0, .bool false, .int .u32 0, .slice none 0 0, .slice none 0 0, .slice none 0 0, .slice none 0 0, .slice none 0 0, .slice none 0 0, .slice none 0 0, .slice none 0 0] [(0, 13, .t 7), (17, 1, .t 11), (18, 1, .t 15)]⟩,
    ⟨some 17, none, .build [.slice none 0 0, .slice none 0 0, .slice none 0 0, .slice none 0 0, .slice none 0 0, .slice none 0 0, .bool false, .int .u32 0, .slice none 0 0, .bool false, .int .u32 0, .slice none 0 0, .slice none 0 0, .slice none 0 0, .slice none 0 0, .slice none 0 0, .slice none 0 0, .slice none 0 0, .slice none 0 0, .int .i64 0] [(0, 19, .t 16)]⟩,
    ⟨some 18, none, .box (.t 17)⟩,
    ⟨some 4, none, .mov (.t 18)⟩] [1, 4])
   (.seq (.region [⟨some 19, none, .mov (.t 4)⟩,
    ⟨some 20, none, .call 23 [.t 19]⟩] [1, 4])
   (.seq (.region [⟨some 21, none, .mov (.t 4)⟩,
    ⟨some 22, none, .call 24 [.t 21]⟩] [1, 4])
   (.seq (.seq (.region [⟨some 23, none, .mov (.t 4)⟩,
    ⟨some 24, none, .nilc (.t 23)⟩,
    ⟨some 25, none, .fa 19 (.t 24)⟩,
    ⟨some 26, none, .ld 1 false (.t 25)⟩,
    ⟨some 27, none, .bin .neq (.t 26) (.c (.int .i64 0))⟩] [1, 4, 27])
   (.cond (.t 27) (.seq (.region [⟨some 28, none, .mov (.t 4)⟩,
    ⟨some 29, none, .nilc (.t 28)⟩,
    ⟨some 30, none, .fa 19 (.t 29)⟩,
    ⟨some 31, none, .ld 1 false (.t 30)⟩,
    ⟨some 2, none, .mov (.c (.pointer none))⟩,
    ⟨some 3, none, .mov (.t 31)⟩] [2, 3])
   (.ret)) (.skip)))
   (.seq (.seq (.region [⟨some 32, none, .fa 4 (.t 1)⟩,
    ⟨some 33, none, .ld 1 false (.t 32)⟩,
    ⟨some 34, none, .lenV (.t 33)⟩,
    ⟨some 35, none, .mov (.c (.int .i64 0))⟩] [4, 33, 34, 35])
   (.block 0 (.loop (.seq (.region [⟨some 36, none, .bin .lss (.t 35) (.t 34)⟩] [4, 33, 34, 35, 36])
   (.seq (.cond (.t 36) (.skip) (.exit 0))
   (.seq (.block 1 (.seq (.region [⟨some 37, none, .iaV 3 (.t 33) (.t 35)⟩,
    ⟨some 38, none, .ld 3 true (.t 37)⟩,
    ⟨some 6, none, .new [.int .u8 0, .bool false, .slice none 0 0]⟩,
    ⟨none, none, .st 3 (.t 6) (.t 38)⟩] [4, 6, 33, 34, 35])
   (.region [⟨some 39, none, .mov (.t 4)⟩,
    ⟨some 40, none, .mov (.t 4)⟩,
    ⟨some 41, none, .nilc (.t 40)⟩,
    ⟨some 42, none, .fa 0 (.t 41)⟩,
    ⟨some 43, none, .fa 16 (.t 42)⟩,
    ⟨some 44, none, .ld 1 false (.t 43)⟩,
    ⟨some 45, none, .fa 2 (.t 6)⟩,
    ⟨some 46, none, .ld 1 false (.t 45)⟩,
    ⟨some 47, none, .call 25 [.t 46]⟩,
    ⟨none, none, .chk 1 false (.t 43) 44⟩,
    ⟨some 48, none, .bslice 1 1 [.int .u64 0] [(0, 1, .t 47)]⟩,
    ⟨some 49, none, .app 1 8 (.t 44) (.t 48)⟩,
    ⟨some 50, none, .nilc (.t 39)⟩,
    ⟨some 51, none, .fa 0 (.t 50)⟩,
    ⟨some 52, none, .fa 16 (.t 51)⟩,
    ⟨none, none, .st 1 (.t 52) (.t 49)⟩] [4, 33, 34, 35])))
   (.region [⟨some 53, none, .bin .add (.t 35) (.c (.int .i64 1))⟩,
    ⟨some 35, none, .mov (.t 53)⟩] [4, 33, 34, 35])))))))
   (.seq (.region [⟨some 54, none, .mov (.t 4)⟩,
    ⟨some 55, none, .nilc (.t 54)⟩,
    ⟨some 56, none, .fa 0 (.t 55)⟩,
    ⟨some 2, none, .mov (.t 56)⟩,
    ⟨some 3, none, .mov (.c (.int .i64 0))⟩] [2, 3])
   (.ret))))))),
  [.t 2, .t 3], 57, 1⟩
def A9 : Ann := ⟨[(0, [1]), (1, [1, 4]), (2, [1, 4]), (3, [1, 4]), (4, [1, 4, 27]), (5, [2, 3]), (6, [4, 33, 34, 35]), (7, [4, 33, 34, 35, 36]), (8, [4, 6, 33, 34, 35]), (9, [4, 33, 34, 35]), (10, [4, 33, 34, 35]), (11, [2, 3])], [(1, [(0, []), (1, []), (2, []), (3, []), (4, []), (5, []), (6, []), (7, []), (8, []), (9, []), (10, []), (11, []), (12, [])], [(2, [1]), (3, [1, 2]), (4, [1, 2, 3]), (6, [5]), (7, [5, 6]), (8, [5, 6, 7]), (9, [0, 1, 2, 3, 4, 5, 6, 7, 8]), (10, [0, 1, 2, 3, 4, 5, 6, 7, 8, 9]), (11, [0, 1, 2, 3, 4, 5, 6, 7, 8, 9, 10]), (12, [0, 1, 2, 3, 4, 5, 6, 7, 8, 9, 10, 11])]),
  (5, [(0, []), (1, []), (2, []), (3, []), (4, []), (5, [])], [(1, [0]), (2, [0, 1]), (3, [0, 1, 2]), (5, [0, 1, 2, 3, 4])]),
  (9, [(0, []), (1, []), (2, []), (3, []), (4, []), (5, []), (6, []), (7, []), (8, [5]), (9, []), (10, []), (11, []), (12, []), (13, []), (14, [])], [(2, [1]), (3, [1, 2]), (4, [1, 2, 3]), (5, [1, 2, 3, 4]), (7, [6]), (8, [6, 7]), (9, [6, 7, 8]), (10, [1, 2, 3, 4, 5, 6, 7, 8, 9]), (11, [0, 1, 2, 3, 4, 5, 6, 7, 8, 9, 10]), (12, [0, 1, 2, 3, 4, 5, 6, 7, 8, 9, 10, 11]), (13, [0, 1, 2, 3, 4, 5, 6, 7, 8, 9, 10, 11, 12]), (14, [0, 1, 2, 3, 4, 5, 6, 7, 8, 9, 10, 11, 12, 13])])]⟩
set_option maxRecDepth 100000 in
theorem F9.ok : compF Try.prog A9 Try.f9 = some F9 := by kernel_rfl
theorem F9.fok : FOk Try.prog 9 F9 := fok_of mixed Try.func9 F9.ok

/-- cloakroom/cloakroomref13.New -/
def F10 : SFn := ⟨.seq (.region [⟨some 1, none, .box (.t 0)⟩,
    ⟨some 2, none, .mov (.c (.pointer none))⟩,
    ⟨some 3, none, .mov (.c (.int .i64 0))⟩] [1])
   (.seq (.region [⟨some 10, none, .ld 13 true (.t 1)⟩,
    ⟨some 11, none, .build [.slice none 0 0, .slice none 0 0, .slice none 0 0, .slice none 0 0, .slice none 0 0, .slice none 0 0, .bool false, .int .u32 0, .slice none 0 0, .bool false, .int .u32 0, .slice none 0 0, .slice none 0 0, .slice none 0 0, .slice none 0 0, .slice none 0 0, .slice none 0 0, .slice none 0 0, .slice none 0 0] [(0, 13, .t 10)]⟩,
    ⟨some 12, none, .box (.t 11)⟩,
    ⟨some 4, none, .mov (.t 12)⟩] [1, 4])
   (.seq (.seq (.region [⟨some 13, none, .fa 3 (.t 1)⟩,
    ⟨some 14, none, .ld 1 false (.t 13)⟩,
    ⟨some 15, none, .lenV (.t 14)⟩,
    ⟨some 16, none, .bin .gtr (.t 15) (.c (.int .i64 0))⟩] [1, 4, 16])
   (.cond (.t 16) (.seq (.seq (.region [⟨some 17, none, .fa 3 (.t 1)⟩,
    ⟨some 18, none, .ld 1 false (.t 17)⟩,
    ⟨some 19, none, .iaV 3 (.t 18) (.c (.int .i64 0))⟩,
    ⟨some 20, none, .fa 0 (.t 19)⟩,
    ⟨some 21, none, .ld 1 false (.t 20)⟩,
    ⟨some 22, none, .bin .gtr (.t 21) (.c (.int .u32 1))⟩] [1, 4, 22])
   (.cond (.t 22) (.seq (.region [⟨some 2, none, .mov (.c (.pointer none))⟩,
    ⟨some 3, none, .mov (.c (.int .i64 8))⟩] [2, 3])
   (.ret)) (.skip)))
   (.region [⟨some 23, none, .mov (.t 4)⟩,
    ⟨some 24, none, .fa 3 (.t 1)⟩,
    ⟨some 25, none, .ld 1 false (.t 24)⟩,
    ⟨some 26, none, .iaV 3 (.t 25) (.c (.int .i64 0))⟩,
    ⟨some 27, none, .fa 0 (.t 26)⟩,
    ⟨some 28, none, .ld 1 false (.t 27)⟩,
    ⟨some 29, none, .conv .i64 (.t 28)⟩,
    ⟨some 30, none, .bin .mul (.t 29) (.c (.int .i64 65536))⟩,
    ⟨some 31, none, .mkSl 1 1 [.int .u8 0] (.t 30) (.t 30)⟩,
    ⟨some 32, none, .nilc (.t 23)⟩,
    ⟨some 33, none, .fa 14 (.t 32)⟩,
    ⟨none, none, .st 1 (.t 33) (.t 31)⟩] [1, 4])) (.skip)))
   (.seq (.seq (.region [⟨some 5, none, .mov (.c (.int .i64 0))⟩] [1, 4, 5])
   (.block 0 (.loop (.seq (.seq (.region [⟨some 34, none, .mov (.t 5)⟩,
    ⟨some 35, none, .fa 2 (.t 1)⟩,
    ⟨some 36, none, .ld 1 false (.t 35)⟩,
    ⟨some 37, none, .lenV (.t 36)⟩,
    ⟨some 38, none, .bin .lss (.t 34) (.t 37)⟩] [1, 4, 5, 38])
   (.cond (.t 38) (.skip) (.exit 0)))
   (.seq (.block 1 (.seq (.seq (.region [⟨some 41, none, .fa 2 (.t 1)⟩,
    ⟨some 42, none, .ld 1 false (.t 41)⟩,
    ⟨some 43, none, .mov (.t 5)⟩,
    ⟨some 44, none, .iaV 4 (.t 42) (.t 43)⟩,
    ⟨some 45, none, .fa 1 (.t 44)⟩,
    ⟨some 46, none, .fa 0 (.t 45)⟩,
    ⟨some 47, none, .ld 1 false (.t 46)⟩,
    ⟨some 48, none, .bin .gtr (.t 47) (.c (.int .u32 64))⟩] [1, 4, 5, 48])
   (.cond (.t 48) (.seq (.region [⟨some 2, none, .mov (.c (.pointer none))⟩,
    ⟨some 3, none, .mov (.c (.int .i64 8))⟩] [2, 3])
   (.ret)) (.skip)))
   (.region [⟨some 49, none, .mov (.t 4)⟩,
    ⟨some 50, none, .mov (.t 4)⟩,
    ⟨some 51, none, .nilc (.t 50)⟩,
    ⟨some 52, none, .fa 15 (.t 51)⟩,
    ⟨some 53, none, .ld 1 false (.t 52)⟩,
    ⟨some 54, none, .fa 2 (.t 1)⟩,
    ⟨some 55, none, .ld 1 false (.t 54)⟩,
    ⟨some 56, none, .mov (.t 5)⟩,
    ⟨some 57, none, .iaV 4 (.t 55) (.t 56)⟩,
    ⟨some 58, none, .fa 1 (.t 57)⟩,
    ⟨some 59, none, .fa 0 (.t 58)⟩,
    ⟨some 60, none, .ld 1 false (.t 59)⟩,
    ⟨some 61, none, .mkSl 1 8 [.int .u64 0] (.t 60) (.t 60)⟩,
    ⟨some 62, none, .bslice 1 1 [.slice none 0 0] [(0, 1, .t 61)]⟩,
    ⟨some 63, none, .app 1 24 (.t 53) (.t 62)⟩,
    ⟨some 64, none, .nilc (.t 49)⟩,
    ⟨some 65, none, .fa 15 (.t 64)⟩,
    ⟨none, none, .st 1 (.t 65) (.t 63)⟩] [1, 4, 5])))
   (.region [⟨some 39, none, .mov (.t 5)⟩,
    ⟨some 40, none, .bin .add (.t 39) (.c (.int .i64 1))⟩,
    ⟨some 5, none, .mov (.t 40)⟩] [1, 4, 5]))))))
   (.seq (.seq (.region [⟨some 6, none, .mov (.c (.int .i64 0))⟩] [1, 4, 6])
   (.block 2 (.loop (.seq (.seq (.region [⟨some 66, none, .mov (.t 6)⟩,
    ⟨some 67, none, .fa 11 (.t 1)⟩,
    ⟨some 68, none, .ld 1 false (.t 67)⟩,
    ⟨some 69, none, .lenV (.t 68)⟩,
    ⟨some 70, none, .bin .lss (.t 66) (.t 69)⟩] [1, 4, 6, 70])
   (.cond (.t 70) (.skip) (.exit 2)))
   (.seq (.block 3 (.seq (.region [⟨some 74, none, .fa 11 (.t 1)⟩,
    ⟨some 75, none, .ld 1 false (.t 74)⟩,
    ⟨some 76, none, .mov (.t 6)⟩,
    ⟨some 77, none, .iaV 2 (.t 75) (.t 76)⟩,
    ⟨some 78, none, .fa 1 (.t 77)⟩,
    ⟨some 79, none, .ld 1 false (.t 78)⟩,
    ⟨some 80, none, .call 26 [.t 79]⟩,
    ⟨some 73, none, .mov (.t 80)⟩,
    ⟨some 81, none, .ext (.t 73) 0⟩,
    ⟨some 82, none, .ext (.t 73) 1⟩,
    ⟨some 7, none, .mov (.t 81)⟩,
    ⟨some 8, none, .mov (.t 82)⟩] [1, 4, 6, 7, 8])
   (.seq (.seq (.region [⟨some 83, none, .mov (.t 8)⟩,
    ⟨some 84, none, .un .not (.t 83)⟩] [1, 4, 6, 7, 84])
   (.cond (.t 84) (.seq (.region [⟨some 2, none, .mov (.c (.pointer none))⟩,
    ⟨some 3, none, .mov (.c (.int .i64 2))⟩] [2, 3])
   (.ret)) (.skip)))
   (.region [⟨some 85, none, .mov (.t 4)⟩,
    ⟨some 86, none, .mov (.t 4)⟩,
    ⟨some 87, none, .nilc (.t 86)⟩,
    ⟨some 88, none, .fa 13 (.t 87)⟩,
    ⟨some 89, none, .ld 1 false (.t 88)⟩,
    ⟨some 90, none, .mov (.t 7)⟩,
    ⟨some 91, none, .bslice 1 1 [.map none] [(0, 1, .t 90)]⟩,
    ⟨some 92, none, .app 1 8 (.t 89) (.t 91)⟩,
    ⟨some 93, none, .nilc (.t 85)⟩,
    ⟨some 94, none, .fa 13 (.t 93)⟩,
    ⟨none, none, .st 1 (.t 94) (.t 92)⟩] [1, 4, 6]))))
   (.region [⟨some 71, none, .mov (.t 6)⟩,
    ⟨some 72, none, .bin .add (.t 71) (.c (.int .i64 1))⟩,
    ⟨some 6, none, .mov (.t 72)⟩] [1, 4, 6]))))))
   (.seq (.seq (.region [⟨some 9, none, .mov (.c (.int .i64 0))⟩] [1, 4, 9])
   (.block 4 (.loop (.seq (.seq (.region [⟨some 95, none, .mov (.t 9)⟩,
    ⟨some 96, none, .fa 4 (.t 1)⟩,
    ⟨some 97, none, .ld 1 false (.t 96)⟩,
    ⟨some 98, none, .lenV (.t 97)⟩,
    ⟨some 99, none, .bin .lss (.t 95) (.t 98)⟩] [1, 4, 9, 99])
   (.cond (.t 99) (.skip) (.exit 4)))
   (.seq (.block 5 (.region [⟨some 102, none, .mov (.t 4)⟩,
    ⟨some 103, none, .mov (.t 4)⟩,
    ⟨some 104, none, .nilc (.t 103)⟩,
    ⟨some 105, none, .fa 16 (.t 104)⟩,
    ⟨some 106, none, .ld 1 false (.t 105)⟩,
    ⟨some 107, none, .fa 4 (.t 1)⟩,
    ⟨some 108, none, .ld 1 false (.t 107)⟩,
    ⟨some 109, none, .mov (.t 9)⟩,
    ⟨some 110, none, .iaV 3 (.t 108) (.t 109)⟩,
    ⟨some 111, none, .fa 2 (.t 110)⟩,
    ⟨some 112, none, .ld 1 false (.t 111)⟩,
    ⟨some 113, none, .call 27 [.t 112]⟩,
    ⟨none, none, .chk 1 false (.t 105) 106⟩,
    ⟨some 114, none, .bslice 1 1 [.int .u64 0] [(0, 1, .t 113)]⟩,
    ⟨some 115, none, .app 1 8 (.t 106) (.t 114)⟩,
    ⟨some 116, none, .nilc (.t 102)⟩,
    ⟨some 117, none, .fa 16 (.t 116)⟩,
    ⟨none, none, .st 1 (.t 117) (.t 115)⟩] [1, 4, 9]))
   (.region [⟨some 100, none, .mov (.t 9)⟩,
    ⟨some 101, none, .bin .add (.t 100) (.c (.int .i64 1))⟩,
    ⟨some 9, none, .mov (.t 101)⟩] [1, 4, 9]))))))
   (.seq (.region [⟨some 118, none, .mov (.t 4)⟩,
    ⟨some 119, none, .mov (.t 4)⟩,
    ⟨some 120, none, .fa 8 (.t 1)⟩,
    ⟨some 121, none, .ld 1 false (.t 120)⟩,
    ⟨some 122, none, .lenV (.t 121)⟩,
    ⟨some 123, none, .mkSl 1 1 [.bool false] (.t 122) (.t 122)⟩,
    ⟨some 124, none, .fa 12 (.t 1)⟩,
    ⟨some 125, none, .ld 1 false (.t 124)⟩,
    ⟨some 126, none, .lenV (.t 125)⟩,
    ⟨some 127, none, .mkSl 1 1 [.bool false] (.t 126) (.t 126)⟩,
    ⟨some 128, none, .nilc (.t 118)⟩,
    ⟨some 129, none, .fa 17 (.t 128)⟩,
    ⟨none, none, .st 1 (.t 129) (.t 123)⟩,
    ⟨none, none, .chk 1 false (.t 124) 125⟩,
    ⟨some 130, none, .nilc (.t 119)⟩,
    ⟨some 131, none, .fa 18 (.t 130)⟩,
    ⟨none, none, .st 1 (.t 131) (.t 127)⟩] [4])
   (.seq (.region [⟨some 132, none, .mov (.t 4)⟩,
    ⟨some 2, none, .mov (.t 132)⟩,
    ⟨some 3, none, .mov (.c (.int .i64 0))⟩] [2, 3])
   (.ret)))))))),
  [.t 2, .t 3], 133, 1⟩
def A10 : Ann := ⟨[(0, [1]), (1, [1, 4]), (2, [1, 4, 16]), (3, [1, 4, 22]), (4, [2, 3]), (5, [1, 4]), (6, [1, 4, 5]), (7, [1, 4, 5, 38]), (8, [1, 4, 5]), (9, [1, 4, 5, 48]), (10, [2, 3]), (11, [1, 4, 5]), (12, [1, 4, 6]), (13, [1, 4, 6, 70]), (14, [1, 4, 6]), (15, [1, 4, 6, 7, 8]), (16, [1, 4, 6, 7, 84]), (17, [2, 3]), (18, [1, 4, 6]), (19, [1, 4, 9]), (20, [1, 4, 9, 99]), (21, [1, 4, 9]), (22, [1, 4, 9]), (23, [4]), (24, [2, 3])], [(11, [(0, []), (1, []), (2, []), (3, []), (4, []), (5, []), (6, []), (7, []), (8, []), (9, []), (10, []), (11, []), (12, []), (13, []), (14, []), (15, []), (16, []), (17, [])], [(2, [1]), (3, [1, 2]), (4, [1, 2, 3]), (6, [5]), (8, [5, 6, 7]), (9, [5, 6, 7, 8]), (10, [5, 6, 7, 8, 9]), (11, [5, 6, 7, 8, 9, 10]), (12, [5, 6, 7, 8, 9, 10, 11]), (13, [5, 6, 7, 8, 9, 10, 11, 12]), (14, [1, 2, 3, 4, 5, 6, 7, 8, 9, 10, 11, 12, 13]), (15, [0, 1, 2, 3, 4, 5, 6, 7, 8, 9, 10, 11, 12, 13, 14]), (16, [0, 1, 2, 3, 4, 5, 6, 7, 8, 9, 10, 11, 12, 13, 14, 15]), (17, [0, 1, 2, 3, 4, 5, 6, 7, 8, 9, 10, 11, 12, 13, 14, 15, 16])]),
  (22, [(0, []), (1, []), (2, []), (3, []), (4, []), (5, []), (6, []), (7, []), (8, []), (9, []), (10, []), (11, [4]), (12, []), (13, []), (14, []), (15, []), (16, [])], [(2, [1]), (3, [1, 2]), (4, [1, 2, 3]), (6, [5]), (8, [5, 6, 7]), (9, [5, 6, 7, 8]), (10, [5, 6, 7, 8, 9]), (11, [5, 6, 7, 8, 9, 10]), (12, [5, 6, 7, 8, 9, 10, 11]), (13, [1, 2, 3, 4, 5, 6, 7, 8, 9, 10, 11, 12]), (14, [0, 1, 2, 3, 4, 5, 6, 7, 8, 9, 10, 11, 12, 13]), (15, [0, 1, 2, 3, 4, 5, 6, 7, 8, 9, 10, 11, 12, 13, 14]), (16, [0, 1, 2, 3, 4, 5, 6, 7, 8, 9, 10, 11, 12, 13, 14, 15])]),
  (23, [(0, []), (1, []), (2, []), (3, []), (4, []), (5, []), (6, []), (7, []), (8, []), (9, []), (10, []), (11, []), (12, [7]), (13, []), (14, []), (15, [])], [(3, [2]), (4, [2, 3]), (5, [2, 3, 4]), (7, [6]), (8, [6, 7]), (9, [6, 7, 8]), (10, [0, 2, 3, 4, 5]), (11, [0, 2, 3, 4, 5, 10]), (12, [0, 2, 3, 4, 5, 10, 11]), (13, [0, 1, 2, 3, 4, 5, 6, 7, 8, 9, 10, 11, 12]), (14, [0, 1, 2, 3, 4, 5, 6, 7, 8, 9, 10, 11, 12, 13]), (15, [0, 1, 2, 3, 4, 5, 6, 7, 8, 9, 10, 11, 12, 13, 14])])]⟩
set_option maxRecDepth 100000 in
theorem F10.ok : compF Try.prog A10 Try.f10 = some F10 := by kernel_rfl
theorem F10.fok : FOk Try.prog 10 F10 := fok_of mixed Try.func10 F10.ok

/-- cloakroom/cloakroomref13.Same -/
def F11 : SFn := ⟨.seq (.region [⟨some 4, none, .mov (.c (.bool false))⟩] [0, 1])
   (.seq (.seq (.region [⟨some 6, none, .mov (.t 0)⟩,
    ⟨some 7, none, .eqk false .ptr (.t 6) (.c (.pointer none))⟩,
    ⟨some 8, none, .mov (.t 7)⟩,
    ⟨some 9, some (8, false), .mov (.t 1)⟩,
    ⟨some 10, some (8, false), .eqk false .ptr (.t 9) (.c (.pointer none))⟩,
    ⟨some 11, none, .pick (.t 8) (.c (.bool true)) (.t 10)⟩] [0, 1, 11])
   (.cond (.t 11) (.seq (.region [⟨some 12, none, .mov (.t 0)⟩,
    ⟨some 13, none, .eqk false .ptr (.t 12) (.c (.pointer none))⟩,
    ⟨some 14, none, .mov (.t 13)⟩,
    ⟨some 15, some (14, true), .mov (.t 1)⟩,
    ⟨some 16, some (14, true), .eqk false .ptr (.t 15) (.c (.pointer none))⟩,
    ⟨some 17, none, .pick (.t 14) (.t 16) (.c (.bool false))⟩,
    ⟨some 4, none, .mov (.t 17)⟩] [4])
   (.ret)) (.skip)))
   (.seq (.seq (.region [⟨some 18, none, .mov (.t 0)⟩,
    ⟨some 19, none, .nilc (.t 18)⟩,
    ⟨some 20, none, .fa 14 (.t 19)⟩,
    ⟨some 21, none, .ld 1 false (.t 20)⟩,
    ⟨some 22, none, .toStr (.t 21)⟩,
    ⟨some 23, none, .mov (.t 1)⟩,
    ⟨some 24, none, .nilc (.t 23)⟩,
    ⟨some 25, none, .fa 14 (.t 24)⟩,
    ⟨some 26, none, .ld 1 false (.t 25)⟩,
    ⟨some 27, none, .toStr (.t 26)⟩,
    ⟨some 28, none, .bin .neq (.t 22) (.t 27)⟩,
    ⟨some 29, none, .mov (.t 28)⟩,
    ⟨some 30, some (29, false), .mov (.t 0)⟩,
    ⟨some 31, some (29, false), .nilc (.t 30)⟩,
    ⟨some 32, some (29, false), .fa 16 (.t 31)⟩,
    ⟨some 33, some (29, false), .ld 1 false (.t 32)⟩,
    ⟨some 34, some (29, false), .mov (.t 1)⟩,
    ⟨some 35, some (29, false), .nilc (.t 34)⟩,
    ⟨some 36, some (29, false), .fa 16 (.t 35)⟩,
    ⟨some 37, some (29, false), .ld 1 false (.t 36)⟩,
    ⟨some 38, some (29, false), .call 28 [.t 33, .t 37]⟩,
    ⟨some 39, some (29, false), .un .not (.t 38)⟩,
    ⟨some 40, none, .pick (.t 29) (.c (.bool true)) (.t 39)⟩,
    ⟨some 41, none, .mov (.t 40)⟩,
    ⟨some 42, some (41, false), .mov (.t 0)⟩,
    ⟨some 43, some (41, false), .nilc (.t 42)⟩,
    ⟨some 44, some (41, false), .fa 17 (.t 43)⟩,
    ⟨some 45, some (41, false), .ld 1 false (.t 44)⟩,
    ⟨some 46, some (41, false), .mov (.t 1)⟩,
    ⟨some 47, some (41, false), .nilc (.t 46)⟩,
    ⟨some 48, some (41, false), .fa 17 (.t 47)⟩,
    ⟨some 49, some (41, false), .ld 1 false (.t 48)⟩,
    ⟨some 50, some (41, false), .call 29 [.t 45, .t 49]⟩,
    ⟨some 51, some (41, false), .un .not (.t 50)⟩,
    ⟨some 52, none, .pick (.t 41) (.c (.bool true)) (.t 51)⟩,
    ⟨some 53, none, .mov (.t 52)⟩,
    ⟨some 54, some (53, false), .mov (.t 0)⟩,
    ⟨some 55, some (53, false), .nilc (.t 54)⟩,
    ⟨some 56, some (53, false), .fa 18 (.t 55)⟩,
    ⟨some 57, some (53, false), .ld 1 false (.t 56)⟩,
    ⟨some 58, some (53, false), .mov (.t 1)⟩,
    ⟨some 59, some (53, false), .nilc (.t 58)⟩,
    ⟨some 60, some (53, false), .fa 18 (.t 59)⟩,
    ⟨some 61, some (53, false), .ld 1 false (.t 60)⟩,
    ⟨some 62, some (53, false), .call 29 [.t 57, .t 61]⟩,
    ⟨some 63, some (53, false), .un .not (.t 62)⟩,
    ⟨some 64, none, .pick (.t 53) (.c (.bool true)) (.t 63)⟩,
    ⟨some 65, none, .mov (.t 64)⟩,
    ⟨some 66, some (65, false), .mov (.t 0)⟩,
    ⟨some 67, some (65, false), .nilc (.t 66)⟩,
    ⟨some 68, some (65, false), .fa 15 (.t 67)⟩,
    ⟨some 69, some (65, false), .ld 1 false (.t 68)⟩,
    ⟨some 70, some (65, false), .lenV (.t 69)⟩,
    ⟨some 71, some (65, false), .mov (.t 1)⟩,
    ⟨some 72, some (65, false), .nilc (.t 71)⟩,
    ⟨some 73, some (65, false), .fa 15 (.t 72)⟩,
    ⟨some 74, some (65, false), .ld 1 false (.t 73)⟩,
    ⟨some 75, some (65, false), .lenV (.t 74)⟩,
    ⟨some 76, some (65, false), .bin .neq (.t 70) (.t 75)⟩,
    ⟨some 77, none, .pick (.t 65) (.c (.bool true)) (.t 76)⟩] [0, 1, 77])
   (.cond (.t 77) (.seq (.region [⟨some 4, none, .mov (.c (.bool false))⟩] [4])
   (.ret)) (.skip)))
   (.seq (.seq (.region [⟨some 5, none, .mov (.c (.int .i64 0))⟩] [0, 1, 5])
   (.block 0 (.loop (.seq (.seq (.region [⟨some 78, none, .mov (.t 5)⟩,
    ⟨some 79, none, .mov (.t 0)⟩,
    ⟨some 80, none, .nilc (.t 79)⟩,
    ⟨some 81, none, .fa 15 (.t 80)⟩,
    ⟨some 82, none, .ld 1 false (.t 81)⟩,
    ⟨some 83, none, .lenV (.t 82)⟩,
    ⟨some 84, none, .bin .lss (.t 78) (.t 83)⟩] [0, 1, 5, 84])
   (.cond (.t 84) (.skip) (.exit 0)))
   (.seq (.block 1 (.seq (.region [⟨some 87, none, .mov (.t 0)⟩,
    ⟨some 88, none, .nilc (.t 87)⟩,
    ⟨some 89, none, .fa 15 (.t 88)⟩,
    ⟨some 90, none, .ld 1 false (.t 89)⟩,
    ⟨some 91, none, .mov (.t 5)⟩,
    ⟨some 92, none, .iaV 1 (.t 90) (.t 91)⟩,
    ⟨some 93, none, .ld 1 false (.t 92)⟩,
    ⟨some 94, none, .mov (.t 1)⟩,
    ⟨some 95, none, .nilc (.t 94)⟩,
    ⟨some 96, none, .fa 15 (.t 95)⟩,
    ⟨some 97, none, .ld 1 false (.t 96)⟩,
    ⟨some 98, none, .mov (.t 5)⟩,
    ⟨some 99, none, .iaV 1 (.t 97) (.t 98)⟩,
    ⟨some 100, none, .ld 1 false (.t 99)⟩,
    ⟨some 101, none, .call 28 [.t 93, .t 100]⟩,
    ⟨some 102, none, .un .not (.t 101)⟩] [0, 1, 5, 102])
   (.cond (.t 102) (.seq (.region [⟨some 4, none, .mov (.c (.bool false))⟩] [4])
   (.ret)) (.skip))))
   (.region [⟨some 85, none, .mov (.t 5)⟩,
    ⟨some 86, none, .bin .add (.t 85) (.c (.int .i64 1))⟩,
    ⟨some 5, none, .mov (.t 86)⟩] [0, 1, 5]))))))
   (.seq (.region [⟨some 4, none, .mov (.c (.bool true))⟩] [4])
   (.ret))))),
  [.t 4], 103, 2⟩
def A11 : Ann := ⟨[(0, [0, 1]), (1, [0, 1, 11]), (2, [4]), (3, [0, 1, 77]), (4, [4]), (5, [0, 1, 5]), (6, [0, 1, 5, 84]), (7, [0, 1, 5]), (8, [0, 1, 5, 102]), (9, [4]), (10, [4])], [(3, [(0, []), (1, []), (2, []), (3, []), (4, []), (5, []), (6, []), (7, []), (8, []), (9, []), (10, []), (11, []), (12, []), (13, []), (14, []), (15, []), (16, []), (17, []), (18, []), (19, []), (20, []), (21, []), (22, []), (23, []), (24, []), (25, []), (26, []), (27, []), (28, []), (29, []), (30, []), (31, []), (32, []), (33, []), (34, []), (35, []), (36, []), (37, []), (38, []), (39, []), (40, []), (41, []), (42, []), (43, []), (44, []), (45, []), (46, []), (47, []), (48, []), (49, []), (50, []), (51, []), (52, []), (53, []), (54, []), (55, []), (56, []), (57, []), (58, []), (59, [])], [(1, [0]), (2, [0, 1]), (3, [0, 1, 2]), (4, [0, 1, 2, 3]), (6, [5]), (7, [5, 6]), (8, [5, 6, 7]), (9, [5, 6, 7, 8]), (10, [0, 1, 2, 3, 4, 5, 6, 7, 8, 9]), (11, [0, 1, 2, 3, 4, 5, 6, 7, 8, 9, 10]), (12, [0, 1, 2, 3, 4, 5, 6, 7, 8, 9, 10, 11]), (13, [0, 1, 2, 3, 4, 5, 6, 7, 8, 9, 10, 11, 12]), (14, [0, 1, 2, 3, 4, 5, 6, 7, 8, 9, 10, 11, 12, 13]), (15, [0, 1, 2, 3, 4, 5, 6, 7, 8, 9, 10, 11, 12, 13, 14]), (16, [0, 1, 2, 3, 4, 5, 6, 7, 8, 9, 10, 11]), (17, [0, 1, 2, 3, 4, 5, 6, 7, 8, 9, 10, 11, 16]), (18, [0, 1, 2, 3, 4, 5, 6, 7, 8, 9, 10, 11, 16, 17]), (19, [0, 1, 2, 3, 4, 5, 6, 7, 8, 9, 10, 11, 16, 17, 18]), (20, [0, 1, 2, 3, 4, 5, 6, 7, 8, 9, 10, 11, 12, 13, 14, 15, 16, 17, 18, 19]), (21, [0, 1, 2, 3, 4, 5, 6, 7, 8, 9, 10, 11, 12, 13, 14, 15, 16, 17, 18, 19, 20]), (22, [0, 1, 2, 3, 4, 5, 6, 7, 8, 9, 10, 11, 12, 13, 14, 15, 16, 17, 18, 19, 20, 21]), (23, [0, 1, 2, 3, 4, 5, 6, 7, 8, 9, 10, 11, 12, 13, 14, 15, 16, 17, 18, 19, 20, 21, 22]), (24, [0, 1, 2, 3, 4, 5, 6, 7, 8, 9, 10, 11, 12, 13, 14, 15, 16, 17, 18, 19, 20, 21, 22, 23]), (25, [0, 1, 2, 3, 4, 5, 6, 7, 8, 9, 10, 11, 12, 13, 14, 15, 16, 17, 18, 19, 20, 21, 22, 23, 24]), (26, [0, 1, 2, 3, 4, 5, 6, 7, 8, 9, 10, 11, 12, 13, 14, 15, 16, 17, 18, 19, 20, 21, 22, 23, 24, 25]), (27, [0, 1, 2, 3, 4, 5, 6, 7, 8, 9, 10, 11, 12, 13, 14, 15, 16, 17, 18, 19, 20, 21, 22, 23, 24, 25, 26]), (28, [0, 1, 2, 3, 4, 5, 6, 7, 8, 9, 10, 11, 12, 13, 14, 15, 16, 17, 18, 19, 20, 21, 22, 23]), (29, [0, 1, 2, 3, 4, 5, 6, 7, 8, 9, 10, 11, 12, 13, 14, 15, 16, 17, 18, 19, 20, 21, 22, 23, 28]), (30, [0, 1, 2, 3, 4, 5, 6, 7, 8, 9, 10, 11, 12, 13, 14, 15, 16, 17, 18, 19, 20, 21, 22, 23, 28, 29]), (31, [0, 1, 2, 3, 4, 5, 6, 7, 8, 9, 10, 11, 12, 13, 14, 15, 16, 17, 18, 19, 20, 21, 22, 23, 28, 29, 30]), (32, [0, 1, 2, 3, 4, 5, 6, 7, 8, 9, 10, 11, 12, 13, 14, 15, 16, 17, 18, 19, 20, 21, 22, 23, 24, 25, 26, 27, 28, 29, 30, 31]), (33, [0, 1, 2, 3, 4, 5, 6, 7, 8, 9, 10, 11, 12, 13, 14, 15, 16, 17, 18, 19, 20, 21, 22, 23, 24, 25, 26, 27, 28, 29, 30, 31, 32]), (34, [0, 1, 2, 3, 4, 5, 6, 7, 8, 9, 10, 11, 12, 13, 14, 15, 16, 17, 18, 19, 20, 21, 22, 23, 24, 25, 26, 27, 28, 29, 30, 31, 32, 33]), (35, [0, 1, 2, 3, 4, 5, 6, 7, 8, 9, 10, 11, 12, 13, 14, 15, 16, 17, 18, 19, 20, 21, 22, 23, 24, 25, 26, 27, 28, 29, 30, 31, 32, 33, 34]), (36, [0, 1, 2, 3, 4, 5, 6, 7, 8, 9, 10, 11, 12, 13, 14, 15, 16, 17, 18, 19, 20, 21, 22, 23, 24, 25, 26, 27, 28, 29, 30, 31, 32, 33, 34, 35]), (37, [0, 1, 2, 3, 4, 5, 6, 7, 8, 9, 10, 11, 12, 13, 14, 15, 16, 17, 18, 19, 20, 21, 22, 23, 24, 25, 26, 27, 28, 29, 30, 31, 32, 33, 34, 35, 36]), (38, [0, 1, 2, 3, 4, 5, 6, 7, 8, 9, 10, 11, 12, 13, 14, 15, 16, 17, 18, 19, 20, 21, 22, 23, 24, 25, 26, 27, 28, 29, 30, 31, 32, 33, 34, 35, 36, 37]), (39, [0, 1, 2, 3, 4, 5, 6, 7, 8, 9, 10, 11, 12, 13, 14, 15, 16, 17, 18, 19, 20, 21, 22, 23, 24, 25, 26, 27, 28, 29, 30, 31, 32, 33, 34, 35, 36, 37, 38]), (40, [0, 1, 2, 3, 4, 5, 6, 7, 8, 9, 10, 11, 12, 13, 14, 15, 16, 17, 18, 19, 20, 21, 22, 23, 24, 25, 26, 27, 28, 29, 30, 31, 32, 33, 34, 35]), (41, [0, 1, 2, 3, 4, 5, 6, 7, 8, 9, 10, 11, 12, 13, 14, 15, 16, 17, 18, 19, 20, 21, 22, 23, 24, 25, 26, 27, 28, 29, 30, 31, 32, 33, 34, 35, 40]), (42, [0, 1, 2, 3, 4, 5, 6, 7, 8, 9, 10, 11, 12, 13, 14, 15, 16, 17, 18, 19, 20, 21, 22, 23, 24, 25, 26, 27, 28, 29, 30, 31, 32, 33, 34, 35, 40, 41]), (43, [0, 1, 2, 3, 4, 5, 6, 7, 8, 9, 10, 11, 12, 13, 14, 15, 16, 17, 18, 19, 20, 21, 22, 23, 24, 25, 26, 27, 28, 29, 30, 31, 32, 33, 34, 35, 40, 41, 42]), (44, [0, 1, 2, 3, 4, 5, 6, 7, 8, 9, 10, 11, 12, 13, 14, 15, 16, 17, 18, 19, 20, 21, 22, 23, 24, 25, 26, 27, 28, 29, 30, 31, 32, 33, 34, 35, 36, 37, 38, 39, 40, 41, 42, 43]), (45, [0, 1, 2, 3, 4, 5, 6, 7, 8, 9, 10, 11, 12, 13, 14, 15, 16, 17, 18, 19, 20, 21, 22, 23, 24, 25, 26, 27, 28, 29, 30, 31, 32, 33, 34, 35, 36, 37, 38, 39, 40, 41, 42, 43, 44]), (46, [0, 1, 2, 3, 4, 5, 6, 7, 8, 9, 10, 11, 12, 13, 14, 15, 16, 17, 18, 19, 20, 21, 22, 23, 24, 25, 26, 27, 28, 29, 30, 31, 32, 33, 34, 35, 36, 37, 38, 39, 40, 41, 42, 43, 44, 45]), (47, [0, 1, 2, 3, 4, 5, 6, 7, 8, 9, 10, 11, 12, 13, 14, 15, 16, 17, 18, 19, 20, 21, 22, 23, 24, 25, 26, 27, 28, 29, 30, 31, 32, 33, 34, 35, 36, 37, 38, 39, 40, 41, 42, 43, 44, 45, 46]), (48, [0, 1, 2, 3, 4, 5, 6, 7, 8, 9, 10, 11, 12, 13, 14, 15, 16, 17, 18, 19, 20, 21, 22, 23, 24, 25, 26, 27, 28, 29, 30, 31, 32, 33, 34, 35, 36, 37, 38, 39, 40, 41, 42, 43, 44, 45, 46, 47]), (49, [0, 1, 2, 3, 4, 5, 6, 7, 8, 9, 10, 11, 12, 13, 14, 15, 16, 17, 18, 19, 20, 21, 22, 23, 24, 25, 26, 27, 28, 29, 30, 31, 32, 33, 34, 35, 36, 37, 38, 39, 40, 41, 42, 43, 44, 45, 46, 47, 48]), (50, [0, 1, 2, 3, 4, 5, 6, 7, 8, 9, 10, 11, 12, 13, 14, 15, 16, 17, 18, 19, 20, 21, 22, 23, 24, 25, 26, 27, 28, 29, 30, 31, 32, 33, 34, 35, 36, 37, 38, 39, 40, 41, 42, 43, 44, 45, 46, 47, 48, 49]), (51, [0, 1, 2, 3, 4, 5, 6, 7, 8, 9, 10, 11, 12, 13, 14, 15, 16, 17, 18, 19, 20, 21, 22, 23, 24, 25, 26, 27, 28, 29, 30, 31, 32, 33, 34, 35, 36, 37, 38, 39, 40, 41, 42, 43, 44, 45, 46, 47, 48, 49, 50]), (52, [0, 1, 2, 3, 4, 5, 6, 7, 8, 9, 10, 11, 12, 13, 14, 15, 16, 17, 18, 19, 20, 21, 22, 23, 24, 25, 26, 27, 28, 29, 30, 31, 32, 33, 34, 35, 36, 37, 38, 39, 40, 41, 42, 43, 44, 45, 46, 47, 48, 49, 50, 51]), (53, [0, 1, 2, 3, 4, 5, 6, 7, 8, 9, 10, 11, 12, 13, 14, 15, 16, 17, 18, 19, 20, 21, 22, 23, 24, 25, 26, 27, 28, 29, 30, 31, 32, 33, 34, 35, 36, 37, 38, 39, 40, 41, 42, 43, 44, 45, 46, 47]), (54, [0, 1, 2, 3, 4, 5, 6, 7, 8, 9, 10, 11, 12, 13, 14, 15, 16, 17, 18, 19, 20, 21, 22, 23, 24, 25, 26, 27, 28, 29, 30, 31, 32, 33, 34, 35, 36, 37, 38, 39, 40, 41, 42, 43, 44, 45, 46, 47, 53]), (55, [0, 1, 2, 3, 4, 5, 6, 7, 8, 9, 10, 11, 12, 13, 14, 15, 16, 17, 18, 19, 20, 21, 22, 23, 24, 25, 26, 27, 28, 29, 30, 31, 32, 33, 34, 35, 36, 37, 38, 39, 40, 41, 42, 43, 44, 45, 46, 47, 53, 54]), (56, [0, 1, 2, 3, 4, 5, 6, 7, 8, 9, 10, 11, 12, 13, 14, 15, 16, 17, 18, 19, 20, 21, 22, 23, 24, 25, 26, 27, 28, 29, 30, 31, 32, 33, 34, 35, 36, 37, 38, 39, 40, 41, 42, 43, 44, 45, 46, 47, 53, 54, 55]), (57, [0, 1, 2, 3, 4, 5, 6, 7, 8, 9, 10, 11, 12, 13, 14, 15, 16, 17, 18, 19, 20, 21, 22, 23, 24, 25, 26, 27, 28, 29, 30, 31, 32, 33, 34, 35, 36, 37, 38, 39, 40, 41, 42, 43, 44, 45, 46, 47, 53, 54, 55, 56]), (58, [0, 1, 2, 3, 4, 5, 6, 7, 8, 9, 10, 11, 12, 13, 14, 15, 16, 17, 18, 19, 20, 21, 22, 23, 24, 25, 26, 27, 28, 29, 30, 31, 32, 33, 34, 35, 36, 37, 38, 39, 40, 41, 42, 43, 44, 45, 46, 47, 48, 49, 50, 51, 52, 53, 54, 55, 56, 57]), (59, [0, 1, 2, 3, 4, 5, 6, 7, 8, 9, 10, 11, 12, 13, 14, 15, 16, 17, 18, 19, 20, 21, 22, 23, 24, 25, 26, 27, 28, 29, 30, 31, 32, 33, 34, 35, 36, 37, 38, 39, 40, 41, 42, 43, 44, 45, 46, 47, 48, 49, 50, 51, 52, 53, 54, 55, 56, 57, 58])]),
  (8, [(0, []), (1, []), (2, []), (3, []), (4, []), (5, []), (6, []), (7, []), (8, []), (9, []), (10, []), (11, []), (12, []), (13, []), (14, []), (15, [])], [(1, [0]), (2, [0, 1]), (3, [0, 1, 2]), (5, [0, 1, 2, 3, 4]), (6, [0, 1, 2, 3, 4, 5]), (8, [7]), (9, [7, 8]), (10, [7, 8, 9]), (12, [7, 8, 9, 10, 11]), (13, [7, 8, 9, 10, 11, 12]), (14, [0, 1, 2, 3, 4, 5, 6, 7, 8, 9, 10, 11, 12, 13]), (15, [0, 1, 2, 3, 4, 5, 6, 7, 8, 9, 10, 11, 12, 13, 14])])]⟩
set_option maxRecDepth 100000 in
theorem F11.ok : compF Try.prog A11 Try.f11 = some F11 := by kernel_rfl
theorem F11.fok : FOk Try.prog 11 F11 := fok_of mixed Try.func11 F11.ok

/-- cloakroom/cloakroomref10.SameBlocks -/
def F12 : SFn := ⟨.seq (.region [⟨some 4, none, .mov (.c (.bool false))⟩] [0, 1])
   (.seq (.seq (.region [⟨some 10, none, .mov (.t 0)⟩,
    ⟨some 11, none, .lenM (.t 10)⟩,
    ⟨some 12, none, .mov (.t 1)⟩,
    ⟨some 13, none, .lenM (.t 12)⟩,
    ⟨some 14, none, .bin .neq (.t 11) (.t 13)⟩] [0, 1, 14])
   (.cond (.t 14) (.seq (.region [⟨some 4, none, .mov (.c (.bool false))⟩] [4])
   (.ret)) (.skip)))
   (.seq (.seq (.region [⟨some 5, none, .mov (.c (.int .i64 0))⟩] [0, 1, 5])
   (.block 0 (.loop (.seq (.seq (.region [⟨some 15, none, .mov (.t 5)⟩,
    ⟨some 16, none, .bin .lss (.t 15) (.c (.int .i64 2000))⟩] [0, 1, 5, 16])
   (.cond (.t 16) (.skip) (.exit 0)))
   (.seq (.block 1 (.seq (.region [⟨some 20, none, .mov (.t 0)⟩,
    ⟨some 21, none, .mov (.t 5)⟩,
    ⟨some 22, none, .look false (.agg ⟨[.int .i64 0, .int .i64 0]⟩) true (.t 20) (.t 21)⟩,
    ⟨some 19, none, .mov (.t 22)⟩,
    ⟨some 23, none, .ext (.t 19) 0⟩,
    ⟨some 24, none, .ext (.t 19) 1⟩,
    ⟨some 6, none, .new [.int .i64 0, .int .i64 0]⟩,
    ⟨none, none, .st 2 (.t 6) (.t 23)⟩,
    ⟨some 7, none, .mov (.t 24)⟩] [0, 1, 5, 6, 7])
   (.seq (.region [⟨some 26, none, .mov (.t 1)⟩,
    ⟨some 27, none, .mov (.t 5)⟩,
    ⟨some 28, none, .look false (.agg ⟨[.int .i64 0, .int .i64 0]⟩) true (.t 26) (.t 27)⟩,
    ⟨some 25, none, .mov (.t 28)⟩,
    ⟨some 29, none, .ext (.t 25) 0⟩,
    ⟨some 30, none, .ext (.t 25) 1⟩,
    ⟨some 8, none, .new [.int .i64 0, .int .i64 0]⟩,
    ⟨none, none, .st 2 (.t 8) (.t 29)⟩,
    ⟨some 9, none, .mov (.t 30)⟩] [0, 1, 5, 6, 7, 8, 9])
   (.seq (.region [⟨some 31, none, .mov (.t 7)⟩,
    ⟨some 32, none, .mov (.t 9)⟩,
    ⟨some 33, none, .eqk true .bool (.t 31) (.t 32)⟩,
    ⟨some 34, none, .mov (.t 33)⟩,
    ⟨some 35, some (34, false), .ld 2 true (.t 6)⟩,
    ⟨some 36, some (34, false), .ld 2 true (.t 8)⟩,
    ⟨some 37, some (34, false), .eqs true [.int, .int] (.t 35) (.t 36)⟩,
    ⟨some 38, none, .pick (.t 34) (.c (.bool true)) (.t 37)⟩] [0, 1, 5, 38])
   (.cond (.t 38) (.seq (.region [⟨some 4, none, .mov (.c (.bool false))⟩] [4])
   (.ret)) (.skip))))))
   (.region [⟨some 17, none, .mov (.t 5)⟩,
    ⟨some 18, none, .bin .add (.t 17) (.c (.int .i64 1))⟩,
    ⟨some 5, none, .mov (.t 18)⟩] [0, 1, 5]))))))
   (.seq (.region [⟨some 4, none, .mov (.c (.bool true))⟩] [4])
   (.ret)))),
  [.t 4], 39, 2⟩
def A12 : Ann := ⟨[(0, [0, 1]), (1, [0, 1, 14]), (2, [4]), (3, [0, 1, 5]), (4, [0, 1, 5, 16]), (5, [0, 1, 5]), (6, [0, 1, 5, 6, 7]), (7, [0, 1, 5, 6, 7, 8, 9]), (8, [0, 1, 5, 38]), (9, [4]), (10, [4])], []⟩
set_option maxRecDepth 100000 in
theorem F12.ok : compF Try.prog A12 Try.f12 = some F12 := by kernel_rfl
theorem F12.fok : FOk Try.prog 12 F12 := fok_of mixed Try.func12 F12.ok

/-- cloakroom/inst.Export -/
def F13 : SFn := ⟨.seq (.region [⟨some 4, none, .mov (.c (.int .u32 0))⟩,
    ⟨some 5, none, .new [.slice none 0 0, .slice none 0 0]⟩,
    ⟨some 6, none, .mov (.c (.int .i64 0))⟩] [0, 1, 5])
   (.seq (.seq (.region [⟨some 10, none, .mov (.t 0)⟩,
    ⟨some 11, none, .eqk false .ptr (.t 10) (.c (.pointer none))⟩] [0, 1, 5, 11])
   (.cond (.t 11) (.seq (.region [⟨some 12, none, .build [.slice none 0 0, .slice none 0 0] []⟩,
    ⟨some 4, none, .mov (.c (.int .u32 0))⟩,
    ⟨none, none, .st 2 (.t 5) (.t 12)⟩,
    ⟨some 6, none, .mov (.c (.int .i64 10))⟩] [4, 5, 6])
   (.ret)) (.skip)))
   (.seq (.region [⟨some 13, none, .mov (.t 0)⟩,
    ⟨some 14, none, .nilc (.t 13)⟩,
    ⟨some 15, none, .fa 0 (.t 14)⟩,
    ⟨some 7, none, .mov (.t 15)⟩] [1, 5, 7])
   (.seq (.seq (.region [⟨some 16, none, .mov (.t 7)⟩,
    ⟨some 17, none, .nilc (.t 16)⟩,
    ⟨some 18, none, .fa 5 (.t 17)⟩,
    ⟨some 19, none, .ld 1 false (.t 18)⟩,
    ⟨some 20, none, .lenV (.t 19)⟩,
    ⟨some 21, none, .mov (.c (.int .i64 0))⟩] [1, 5, 7, 19, 20, 21])
   (.block 0 (.loop (.seq (.region [⟨some 22, none, .bin .lss (.t 21) (.t 20)⟩] [1, 5, 7, 19, 20, 21, 22])
   (.seq (.cond (.t 22) (.skip) (.exit 0))
   (.seq (.block 1 (.seq (.region [⟨some 23, none, .iaV 3 (.t 19) (.t 21)⟩,
    ⟨some 24, none, .ld 3 true (.t 23)⟩,
    ⟨some 9, none, .new [.string ByteArray.empty, .int .u8 0, .int .u32 0]⟩,
    ⟨none, none, .st 3 (.t 9) (.t 24)⟩] [1, 5, 7, 9, 19, 20, 21])
   (.seq (.seq (.region [⟨some 25, none, .fa 0 (.t 9)⟩,
    ⟨some 26, none, .ld 1 false (.t 25)⟩,
    ⟨some 27, none, .mov (.t 1)⟩,
    ⟨some 28, none, .bin .neq (.t 26) (.t 27)⟩,
    ⟨some 29, none, .mov (.t 28)⟩,
    ⟨some 30, some (29, false), .fa 1 (.t 9)⟩,
    ⟨some 31, some (29, false), .ld 1 false (.t 30)⟩,
    ⟨some 32, some (29, false), .bin .neq (.t 31) (.c (.int .u8 0))⟩,
    ⟨some 33, none, .pick (.t 29) (.c (.bool true)) (.t 32)⟩,
    ⟨some 34, none, .mov (.t 33)⟩,
    ⟨some 35, some (34, false), .fa 2 (.t 9)⟩,
    ⟨some 36, some (34, false), .ld 1 false (.t 35)⟩,
    ⟨some 37, some (34, false), .conv .u64 (.t 36)⟩,
    ⟨some 38, some (34, false), .mov (.t 7)⟩,
    ⟨some 39, some (34, false), .nilc (.t 38)⟩,
    ⟨some 40, some (34, false), .fa 1 (.t 39)⟩,
    ⟨some 41, some (34, false), .ld 1 false (.t 40)⟩,
    ⟨some 42, some (34, false), .lenV (.t 41)⟩,
    ⟨some 43, some (34, false), .conv .u64 (.t 42)⟩,
    ⟨some 44, some (34, false), .bin .geq (.t 37) (.t 43)⟩,
    ⟨some 45, none, .pick (.t 34) (.c (.bool true)) (.t 44)⟩,
    ⟨some 46, none, .mov (.t 45)⟩,
    ⟨some 47, some (46, false), .mov (.t 7)⟩,
    ⟨some 48, some (46, false), .nilc (.t 47)⟩,
    ⟨some 49, some (46, false), .fa 1 (.t 48)⟩,
    ⟨some 50, some (46, false), .ld 1 false (.t 49)⟩,
    ⟨some 51, some (46, false), .fa 2 (.t 9)⟩,
    ⟨some 52, some (46, false), .ld 1 false (.t 51)⟩,
    ⟨some 53, some (46, false), .iaV 1 (.t 50) (.t 52)⟩,
    ⟨some 54, some (46, false), .ld 1 false (.t 53)⟩,
    ⟨some 55, some (46, false), .conv .u64 (.t 54)⟩,
    ⟨some 56, some (46, false), .mov (.t 7)⟩,
    ⟨some 57, some (46, false), .nilc (.t 56)⟩,
    ⟨some 58, some (46, false), .fa 0 (.t 57)⟩,
    ⟨some 59, some (46, false), .ld 1 false (.t 58)⟩,
    ⟨some 60, some (46, false), .lenV (.t 59)⟩,
    ⟨some 61, some (46, false), .conv .u64 (.t 60)⟩,
    ⟨some 62, some (46, false), .bin .geq (.t 55) (.t 61)⟩,
    ⟨some 63, none, .pick (.t 46) (.c (.bool true)) (.t 62)⟩] [1, 5, 7, 9, 19, 20, 21, 63])
   (.cond (.t 63) (.exit 1) (.skip)))
   (.seq (.region [⟨some 64, none, .mov (.t 7)⟩,
    ⟨some 65, none, .nilc (.t 64)⟩,
    ⟨some 66, none, .fa 0 (.t 65)⟩,
    ⟨some 67, none, .ld 1 false (.t 66)⟩,
    ⟨some 68, none, .mov (.t 7)⟩,
    ⟨some 69, none, .nilc (.t 68)⟩,
    ⟨some 70, none, .fa 1 (.t 69)⟩,
    ⟨some 71, none, .ld 1 false (.t 70)⟩,
    ⟨some 72, none, .fa 2 (.t 9)⟩,
    ⟨some 73, none, .ld 1 false (.t 72)⟩,
    ⟨some 74, none, .iaV 1 (.t 71) (.t 73)⟩,
    ⟨some 75, none, .ld 1 false (.t 74)⟩,
    ⟨some 76, none, .iaV 2 (.t 67) (.t 75)⟩,
    ⟨some 77, none, .ld 2 true (.t 76)⟩,
    ⟨none, none, .st 2 (.t 5) (.t 77)⟩] [5, 9])
   (.seq (.region [⟨some 78, none, .fa 2 (.t 9)⟩,
    ⟨some 79, none, .ld 1 false (.t 78)⟩,
    ⟨some 80, none, .fa 0 (.t 5)⟩,
    ⟨some 81, none, .ld 1 false (.t 80)⟩,
    ⟨some 83, none, .fa 1 (.t 5)⟩,
    ⟨some 84, none, .ld 1 false (.t 83)⟩,
    ⟨some 82, none, .call 30 [.t 81]⟩,
    ⟨none, none, .chk 1 false (.t 78) 79⟩,
    ⟨none, none, .chk 1 false (.t 83) 84⟩,
    ⟨some 85, none, .call 30 [.t 84]⟩,
    ⟨none, none, .chk 1 false (.t 78) 79⟩,
    ⟨some 86, none, .build [.slice none 0 0, .slice none 0 0] [(0, 1, .t 82), (1, 1, .t 85)]⟩,
    ⟨some 4, none, .mov (.t 79)⟩,
    ⟨none, none, .st 2 (.t 5) (.t 86)⟩,
    ⟨some 6, none, .mov (.c (.int .i64 0))⟩] [4, 5, 6])
   (.ret))))))
   (.region [⟨some 87, none, .bin .add (.t 21) (.c (.int .i64 1))⟩,
    ⟨some 21, none, .mov (.t 87)⟩] [1, 5, 7, 19, 20, 21])))))))
   (.seq (.region [⟨some 88, none, .build [.slice none 0 0, .slice none 0 0] []⟩,
    ⟨some 4, none, .mov (.c (.int .u32 0))⟩,
    ⟨none, none, .st 2 (.t 5) (.t 88)⟩,
    ⟨some 6, none, .mov (.c (.int .i64 10))⟩] [4, 5, 6])
   (.ret))))),
  [.t 4, .c 5 2 true, .t 6], 89, 2⟩
def A13 : Ann := ⟨[(0, [0, 1, 5]), (1, [0, 1, 5, 11]), (2, [4, 5, 6]), (3, [1, 5, 7]), (4, [1, 5, 7, 19, 20, 21]), (5, [1, 5, 7, 19, 20, 21, 22]), (6, [1, 5, 7, 9, 19, 20, 21]), (7, [1, 5, 7, 9, 19, 20, 21, 63]), (8, [5, 9]), (9, [4, 5, 6]), (10, [1, 5, 7, 19, 20, 21]), (11, [4, 5, 6])], [(7, [(0, []), (1, []), (2, []), (3, []), (4, []), (5, []), (6, []), (7, []), (8, []), (9, []), (10, []), (11, []), (12, []), (13, []), (14, []), (15, []), (16, []), (17, []), (18, []), (19, []), (20, []), (21, []), (22, []), (23, []), (24, []), (25, []), (26, []), (27, []), (28, []), (29, []), (30, []), (31, []), (32, []), (33, []), (34, []), (35, []), (36, []), (37, []), (38, [])], [(1, [0]), (3, [0, 1, 2]), (4, [0, 1, 2, 3]), (5, [0, 1, 2, 3, 4]), (6, [0, 1, 2, 3, 4, 5]), (7, [0, 1, 2, 3, 4, 5, 6]), (8, [0, 1, 2, 3, 4, 5, 6, 7]), (9, [0, 1, 2, 3, 4, 5, 6, 7, 8]), (10, [0, 1, 2, 3, 4, 5, 6, 7, 8, 9]), (11, [0, 1, 2, 3, 4, 5, 6, 7, 8, 9, 10]), (12, [0, 1, 2, 3, 4, 5, 6, 7, 8, 9, 10, 11]), (13, [0, 1, 2, 3, 4, 5, 6, 7, 8, 9]), (14, [0, 1, 2, 3, 4, 5, 6, 7, 8, 9, 13]), (15, [0, 1, 2, 3, 4, 5, 6, 7, 8, 9, 13, 14]), (16, [0, 1, 2, 3, 4, 5, 6, 7, 8, 9, 13, 14, 15]), (17, [0, 1, 2, 3, 4, 5, 6, 7, 8, 9, 13, 14, 15, 16]), (18, [0, 1, 2, 3, 4, 5, 6, 7, 8, 9, 13, 14, 15, 16, 17]), (19, [0, 1, 2, 3, 4, 5, 6, 7, 8, 9, 10, 11, 12, 13, 14, 15, 16, 17, 18]), (20, [0, 1, 2, 3, 4, 5, 6, 7, 8, 9, 10, 11, 12, 13, 14, 15, 16, 17, 18, 19]), (21, [0, 1, 2, 3, 4, 5, 6, 7, 8, 9, 10, 11, 12, 13, 14, 15, 16, 17, 18, 19, 20]), (22, [0, 1, 2, 3, 4, 5, 6, 7, 8, 9, 10, 11, 12, 13, 14, 15, 16, 17, 18, 19, 20, 21]), (23, [0, 1, 2, 3, 4, 5, 6, 7, 8, 9, 10, 11, 12, 13, 14, 15, 16, 17, 18, 19, 20, 21, 22]), (24, [0, 1, 2, 3, 4, 5, 6, 7, 8, 9, 10, 11, 12, 13, 14, 15, 16, 17, 18, 19, 20, 21, 22, 23]), (25, [0, 1, 2, 3, 4, 5, 6, 7, 8, 9, 10, 11, 12, 13, 14, 15, 16, 17, 18, 19, 20, 21, 22, 23, 24]), (26, [0, 1, 2, 3, 4, 5, 6, 7, 8, 9, 10, 11, 12, 13, 14, 15, 16, 17, 18, 19, 20, 21]), (27, [0, 1, 2, 3, 4, 5, 6, 7, 8, 9, 10, 11, 12, 13, 14, 15, 16, 17, 18, 19, 20, 21, 26]), (28, [0, 1, 2, 3, 4, 5, 6, 7, 8, 9, 10, 11, 12, 13, 14, 15, 16, 17, 18, 19, 20, 21, 22, 23, 24, 25, 26, 27]), (29, [0, 1, 2, 3, 4, 5, 6, 7, 8, 9, 10, 11, 12, 13, 14, 15, 16, 17, 18, 19, 20, 21, 22, 23, 24, 25, 26, 27, 28]), (30, [0, 1, 2, 3, 4, 5, 6, 7, 8, 9, 10, 11, 12, 13, 14, 15, 16, 17, 18, 19, 20, 21, 22, 23, 24, 25, 26, 27, 28, 29]), (31, [0, 1, 2, 3, 4, 5, 6, 7, 8, 9, 10, 11, 12, 13, 14, 15, 16, 17, 18, 19, 20, 21]), (32, [0, 1, 2, 3, 4, 5, 6, 7, 8, 9, 10, 11, 12, 13, 14, 15, 16, 17, 18, 19, 20, 21, 31]), (33, [0, 1, 2, 3, 4, 5, 6, 7, 8, 9, 10, 11, 12, 13, 14, 15, 16, 17, 18, 19, 20, 21, 31, 32]), (34, [0, 1, 2, 3, 4, 5, 6, 7, 8, 9, 10, 11, 12, 13, 14, 15, 16, 17, 18, 19, 20, 21, 31, 32, 33]), (35, [0, 1, 2, 3, 4, 5, 6, 7, 8, 9, 10, 11, 12, 13, 14, 15, 16, 17, 18, 19, 20, 21, 31, 32, 33, 34]), (36, [0, 1, 2, 3, 4, 5, 6, 7, 8, 9, 10, 11, 12, 13, 14, 15, 16, 17, 18, 19, 20, 21, 31, 32, 33, 34, 35]), (37, [0, 1, 2, 3, 4, 5, 6, 7, 8, 9, 10, 11, 12, 13, 14, 15, 16, 17, 18, 19, 20, 21, 22, 23, 24, 25, 26, 27, 28, 29, 30, 31, 32, 33, 34, 35, 36]), (38, [0, 1, 2, 3, 4, 5, 6, 7, 8, 9, 10, 11, 12, 13, 14, 15, 16, 17, 18, 19, 20, 21, 22, 23, 24, 25, 26, 27, 28, 29, 30, 31, 32, 33, 34, 35, 36, 37])]),
  (8, [(0, []), (1, []), (2, []), (3, []), (4, []), (5, []), (6, []), (7, []), (8, []), (9, []), (10, []), (11, []), (12, []), (13, []), (14, [])], [(1, [0]), (2, [0, 1]), (3, [0, 1, 2]), (5, [4]), (6, [4, 5]), (7, [4, 5, 6]), (9, [8]), (10, [4, 5, 6, 7, 8, 9]), (11, [4, 5, 6, 7, 8, 9, 10]), (12, [0, 1, 2, 3, 4, 5, 6, 7, 8, 9, 10, 11]), (13, [0, 1, 2, 3, 4, 5, 6, 7, 8, 9, 10, 11, 12]), (14, [0, 1, 2, 3, 4, 5, 6, 7, 8, 9, 10, 11, 12, 13])]),
  (9, [(0, []), (1, []), (2, []), (3, []), (5, []), (6, []), (4, [1, 6]), (7, [1]), (8, []), (9, []), (10, []), (11, [])], [(1, [0]), (3, [2]), (4, [2, 3]), (6, [5]), (7, [2, 3, 4, 5, 6]), (8, [2, 3, 4, 5, 6, 7]), (9, [0, 1, 2, 3, 4, 5, 6, 7]), (10, [0, 1, 2, 3, 4, 5, 6, 7, 8, 9]), (11, [0, 1, 2, 3, 4, 5, 6, 7, 8, 9, 10])])]⟩
set_option maxRecDepth 100000 in
theorem F13.ok : compF Try.prog A13 Try.f13 = some F13 := by kernel_rfl
theorem F13.fok : FOk Try.prog 13 F13 := fok_of mixed Try.func13 F13.ok

/-- cloakroom/cloakroomref13.Export -/
def F14 : SFn := ⟨.seq (.region [⟨some 4, none, .mov (.c (.int .u32 0))⟩,
    ⟨some 5, none, .new [.slice none 0 0, .slice none 0 0]⟩,
    ⟨some 6, none, .mov (.c (.int .i64 0))⟩] [0, 1, 5])
   (.seq (.seq (.region [⟨some 7, none, .mov (.c (.int .i64 0))⟩] [0, 1, 5, 7])
   (.block 0 (.loop (.seq (.seq (.region [⟨some 9, none, .mov (.t 0)⟩,
    ⟨some 10, none, .eqk true .ptr (.t 9) (.c (.pointer none))⟩,
    ⟨some 11, none, .mov (.t 10)⟩,
    ⟨some 12, some (11, true), .mov (.t 7)⟩,
    ⟨some 13, some (11, true), .mov (.t 0)⟩,
    ⟨some 14, some (11, true), .nilc (.t 13)⟩,
    ⟨some 15, some (11, true), .fa 0 (.t 14)⟩,
    ⟨some 16, some (11, true), .fa 5 (.t 15)⟩,
    ⟨some 17, some (11, true), .ld 1 false (.t 16)⟩,
    ⟨some 18, some (11, true), .lenV (.t 17)⟩,
    ⟨some 19, some (11, true), .bin .lss (.t 12) (.t 18)⟩,
    ⟨some 20, none, .pick (.t 11) (.t 19) (.c (.bool false))⟩] [0, 1, 5, 7, 20])
   (.cond (.t 20) (.skip) (.exit 0)))
   (.seq (.block 1 (.seq (.region [⟨some 23, none, .mov (.t 0)⟩,
    ⟨some 24, none, .nilc (.t 23)⟩,
    ⟨some 25, none, .fa 0 (.t 24)⟩,
    ⟨some 26, none, .fa 5 (.t 25)⟩,
    ⟨some 27, none, .ld 1 false (.t 26)⟩,
    ⟨some 28, none, .mov (.t 7)⟩,
    ⟨some 29, none, .iaV 3 (.t 27) (.t 28)⟩,
    ⟨some 30, none, .ld 3 true (.t 29)⟩,
    ⟨some 8, none, .new [.string ByteArray.empty, .int .u8 0, .int .u32 0]⟩,
    ⟨none, none, .st 3 (.t 8) (.t 30)⟩] [0, 1, 5, 7, 8])
   (.seq (.region [⟨some 31, none, .fa 1 (.t 8)⟩,
    ⟨some 32, none, .ld 1 false (.t 31)⟩,
    ⟨some 33, none, .bin .eql (.t 32) (.c (.int .u8 0))⟩,
    ⟨some 34, none, .mov (.t 33)⟩,
    ⟨some 35, some (34, true), .fa 0 (.t 8)⟩,
    ⟨some 36, some (34, true), .ld 1 false (.t 35)⟩,
    ⟨some 37, some (34, true), .mov (.t 1)⟩,
    ⟨some 38, some (34, true), .bin .eql (.t 36) (.t 37)⟩,
    ⟨some 39, none, .pick (.t 34) (.t 38) (.c (.bool false))⟩] [0, 1, 5, 7, 8, 39])
   (.cond (.t 39) (.seq (.region [⟨some 40, none, .fa 2 (.t 8)⟩,
    ⟨some 41, none, .ld 1 false (.t 40)⟩,
    ⟨some 42, none, .mov (.t 0)⟩,
    ⟨some 43, none, .nilc (.t 42)⟩,
    ⟨some 44, none, .fa 0 (.t 43)⟩,
    ⟨some 45, none, .fa 0 (.t 44)⟩,
    ⟨some 46, none, .ld 1 false (.t 45)⟩,
    ⟨some 47, none, .mov (.t 0)⟩,
    ⟨some 48, none, .nilc (.t 47)⟩,
    ⟨some 49, none, .fa 0 (.t 48)⟩,
    ⟨some 50, none, .fa 1 (.t 49)⟩,
    ⟨some 51, none, .ld 1 false (.t 50)⟩,
    ⟨some 52, none, .fa 2 (.t 8)⟩,
    ⟨some 53, none, .ld 1 false (.t 52)⟩,
    ⟨some 54, none, .iaV 1 (.t 51) (.t 53)⟩,
    ⟨some 55, none, .ld 1 false (.t 54)⟩,
    ⟨some 56, none, .iaV 2 (.t 46) (.t 55)⟩,
    ⟨some 57, none, .ld 2 true (.t 56)⟩,
    ⟨some 4, none, .mov (.t 41)⟩,
    ⟨none, none, .st 2 (.t 5) (.t 57)⟩,
    ⟨some 6, none, .mov (.c (.int .i64 0))⟩] [4, 5, 6])
   (.ret)) (.skip)))))
   (.region [⟨some 21, none, .mov (.t 7)⟩,
    ⟨some 22, none, .bin .add (.t 21) (.c (.int .i64 1))⟩,
    ⟨some 7, none, .mov (.t 22)⟩] [0, 1, 5, 7]))))))
   (.seq (.region [⟨some 58, none, .build [.slice none 0 0, .slice none 0 0] []⟩,
    ⟨some 4, none, .mov (.c (.int .u32 0))⟩,
    ⟨none, none, .st 2 (.t 5) (.t 58)⟩,
    ⟨some 6, none, .mov (.c (.int .i64 10))⟩] [4, 5, 6])
   (.ret))),
  [.t 4, .c 5 2 true, .t 6], 59, 2⟩
def A14 : Ann := ⟨[(0, [0, 1, 5]), (1, [0, 1, 5, 7]), (2, [0, 1, 5, 7, 20]), (3, [0, 1, 5, 7]), (4, [0, 1, 5, 7, 8]), (5, [0, 1, 5, 7, 8, 39]), (6, [4, 5, 6]), (7, [4, 5, 6])], [(6, [(0, []), (1, []), (2, []), (3, []), (4, []), (5, []), (6, []), (7, []), (8, []), (9, []), (10, []), (11, []), (12, []), (13, []), (14, []), (15, []), (16, []), (17, []), (18, []), (19, []), (20, [])], [(1, [0]), (3, [2]), (4, [2, 3]), (5, [2, 3, 4]), (6, [2, 3, 4, 5]), (8, [7]), (9, [7, 8]), (10, [7, 8, 9]), (11, [7, 8, 9, 10]), (13, [12]), (14, [7, 8, 9, 10, 11, 12, 13]), (15, [7, 8, 9, 10, 11, 12, 13, 14]), (16, [2, 3, 4, 5, 6, 7, 8, 9, 10, 11, 12, 13, 14, 15]), (17, [2, 3, 4, 5, 6, 7, 8, 9, 10, 11, 12, 13, 14, 15, 16]), (18, [0, 1]), (19, [0, 1, 2, 3, 4, 5, 6, 7, 8, 9, 10, 11, 12, 13, 14, 15, 16, 17, 18]), (20, [0, 1, 2, 3, 4, 5, 6, 7, 8, 9, 10, 11, 12, 13, 14, 15, 16, 17, 18, 19])])]⟩
set_option maxRecDepth 100000 in
theorem F14.ok : compF Try.prog A14 Try.f14 = some F14 := by kernel_rfl
theorem F14.fok : FOk Try.prog 14 F14 := fok_of mixed Try.func14 F14.ok

/-- cloakroom/cloakroomref1.SameFunc -/
def F15 : SFn := ⟨.seq (.region [⟨some 2, none, .box (.t 0)⟩,
    ⟨some 3, none, .box (.t 1)⟩,
    ⟨some 4, none, .mov (.c (.bool false))⟩] [2, 3])
   (.seq (.region [⟨some 5, none, .fa 0 (.t 2)⟩,
    ⟨some 6, none, .ld 1 false (.t 5)⟩,
    ⟨some 7, none, .toStr (.t 6)⟩,
    ⟨some 8, none, .fa 0 (.t 3)⟩,
    ⟨some 9, none, .ld 1 false (.t 8)⟩,
    ⟨some 10, none, .toStr (.t 9)⟩,
    ⟨some 11, none, .bin .eql (.t 7) (.t 10)⟩,
    ⟨some 12, none, .mov (.t 11)⟩,
    ⟨some 13, some (12, true), .fa 1 (.t 2)⟩,
    ⟨some 14, some (12, true), .ld 1 false (.t 13)⟩,
    ⟨some 15, some (12, true), .toStr (.t 14)⟩,
    ⟨some 16, some (12, true), .fa 1 (.t 3)⟩,
    ⟨some 17, some (12, true), .ld 1 false (.t 16)⟩,
    ⟨some 18, some (12, true), .toStr (.t 17)⟩,
    ⟨some 19, some (12, true), .bin .eql (.t 15) (.t 18)⟩,
    ⟨some 20, none, .pick (.t 12) (.t 19) (.c (.bool false))⟩,
    ⟨some 4, none, .mov (.t 20)⟩] [4])
   (.ret)),
  [.t 4], 21, 2⟩
def A15 : Ann := ⟨[(0, [2, 3]), (1, [4])], []⟩
set_option maxRecDepth 100000 in
theorem F15.ok : compF Try.prog A15 Try.f15 = some F15 := by kernel_rfl
theorem F15.fok : FOk Try.prog 15 F15 := fok_of mixed Try.func15 F15.ok

/-- cloakroom/inst.Copy -/
def F16 : SFn := ⟨.seq (.region [⟨some 2, none, .mov (.c (.pointer none))⟩] [0])
   (.seq (.seq (.region [⟨some 5, none, .mov (.t 0)⟩,
    ⟨some 6, none, .eqk false .ptr (.t 5) (.c (.pointer none))⟩] [0, 6])
   (.cond (.t 6) (.seq (.region [⟨some 2, none, .mov (.c (.pointer none))⟩] [2])
   (.ret)) (.skip)))
   (.seq (.region [⟨some 7, none, .mov (.t 0)⟩,
    ⟨some 8, none, .nilc (.t 7)⟩,
    ⟨some 9, none, .ld 19 true (.t 8)⟩,
    ⟨some 3, none, .new [.slice none 0 0, .slice none 0 0, .slice none 0 0, .slice none 0 0, .slice none 0 0, .slice none 0 0, .bool false, .int .u32 0, .slice none 0 0, .bool false, .int .u32 0, .slice none 0 0, .slice none 0 0, .slice none 0 0, .slice none 0 0, .slice none 0 0, .slice none 0 0, .slice none 0 0, .slice none 0 0]⟩,
    ⟨none, none, .st 19 (.t 3) (.t 9)⟩] [0, 3])
   (.seq (.region [⟨some 10, none, .mov (.t 0)⟩,
    ⟨some 11, none, .nilc (.t 10)⟩,
    ⟨some 12, none, .fa 14 (.t 11)⟩,
    ⟨some 13, none, .ld 1 false (.t 12)⟩,
    ⟨some 15, none, .mov (.t 0)⟩,
    ⟨some 16, none, .nilc (.t 15)⟩,
    ⟨some 17, none, .fa 16 (.t 16)⟩,
    ⟨some 18, none, .ld 1 false (.t 17)⟩,
    ⟨some 20, none, .mov (.t 0)⟩,
    ⟨some 21, none, .nilc (.t 20)⟩,
    ⟨some 22, none, .fa 17 (.t 21)⟩,
    ⟨some 23, none, .ld 1 false (.t 22)⟩,
    ⟨some 25, none, .mov (.t 0)⟩,
    ⟨some 26, none, .nilc (.t 25)⟩,
    ⟨some 27, none, .fa 18 (.t 26)⟩,
    ⟨some 28, none, .ld 1 false (.t 27)⟩,
    ⟨some 14, none, .call 30 [.t 13]⟩,
    ⟨none, none, .chk 1 false (.t 17) 18⟩,
    ⟨none, none, .chk 1 false (.t 22) 23⟩,
    ⟨none, none, .chk 1 false (.t 27) 28⟩,
    ⟨some 19, none, .call 31 [.t 18]⟩,
    ⟨none, none, .chk 1 false (.t 22) 23⟩,
    ⟨none, none, .chk 1 false (.t 27) 28⟩,
    ⟨some 24, none, .call 32 [.t 23]⟩,
    ⟨none, none, .chk 1 false (.t 27) 28⟩,
    ⟨some 29, none, .call 32 [.t 28]⟩,
    ⟨some 30, none, .fa 14 (.t 3)⟩,
    ⟨none, none, .st 1 (.t 30) (.t 14)⟩,
    ⟨some 31, none, .fa 16 (.t 3)⟩,
    ⟨none, none, .st 1 (.t 31) (.t 19)⟩,
    ⟨some 32, none, .fa 17 (.t 3)⟩,
    ⟨none, none, .st 1 (.t 32) (.t 24)⟩,
    ⟨some 33, none, .fa 18 (.t 3)⟩,
    ⟨none, none, .st 1 (.t 33) (.t 29)⟩] [0, 3])
   (.seq (.region [⟨some 34, none, .mov (.t 0)⟩,
    ⟨some 35, none, .nilc (.t 34)⟩,
    ⟨some 36, none, .fa 15 (.t 35)⟩,
    ⟨some 37, none, .ld 1 false (.t 36)⟩,
    ⟨some 38, none, .call 33 [.t 37]⟩,
    ⟨some 39, none, .fa 15 (.t 3)⟩,
    ⟨none, none, .st 1 (.t 39) (.t 38)⟩] [0, 3])
   (.seq (.seq (.region [⟨some 40, none, .fa 15 (.t 3)⟩,
    ⟨some 41, none, .ld 1 false (.t 40)⟩,
    ⟨some 42, none, .lenV (.t 41)⟩,
    ⟨some 43, none, .mov (.c (.int .i64 0))⟩] [0, 3, 42, 43])
   (.block 0 (.loop (.seq (.region [⟨some 44, none, .bin .lss (.t 43) (.t 42)⟩] [0, 3, 42, 43, 44])
   (.seq (.cond (.t 44) (.skip) (.exit 0))
   (.seq (.block 1 (.seq (.region [⟨some 45, none, .mov (.t 43)⟩,
    ⟨some 4, none, .mov (.t 45)⟩] [0, 3, 4, 42, 43])
   (.region [⟨some 46, none, .fa 15 (.t 3)⟩,
    ⟨some 47, none, .ld 1 false (.t 46)⟩,
    ⟨some 48, none, .mov (.t 4)⟩,
    ⟨some 49, none, .mov (.t 0)⟩,
    ⟨some 50, none, .nilc (.t 49)⟩,
    ⟨some 51, none, .fa 15 (.t 50)⟩,
    ⟨some 52, none, .ld 1 false (.t 51)⟩,
    ⟨some 53, none, .mov (.t 4)⟩,
    ⟨some 54, none, .iaV 1 (.t 52) (.t 53)⟩,
    ⟨some 55, none, .ld 1 false (.t 54)⟩,
    ⟨some 56, none, .call 31 [.t 55]⟩,
    ⟨none, none, .chk 1 false (.t 46) 47⟩,
    ⟨some 57, none, .iaV 1 (.t 47) (.t 48)⟩,
    ⟨none, none, .st 1 (.t 57) (.t 56)⟩] [0, 3, 42, 43])))
   (.region [⟨some 58, none, .bin .add (.t 43) (.c (.int .i64 1))⟩,
    ⟨some 43, none, .mov (.t 58)⟩] [0, 3, 42, 43])))))))
   (.seq (.region [⟨some 2, none, .mov (.t 3)⟩] [2])
   (.ret))))))),
  [.t 2], 59, 1⟩
def A16 : Ann := ⟨[(0, [0]), (1, [0, 6]), (2, [2]), (3, [0, 3]), (4, [0, 3]), (5, [0, 3]), (6, [0, 3, 42, 43]), (7, [0, 3, 42, 43, 44]), (8, [0, 3, 4, 42, 43]), (9, [0, 3, 42, 43]), (10, [0, 3, 42, 43]), (11, [2])], [(4, [(0, []), (1, []), (2, []), (3, []), (5, []), (6, []), (7, []), (8, []), (10, []), (11, []), (12, []), (13, []), (15, []), (16, []), (17, []), (18, []), (4, [8, 13, 18]), (9, [13, 18]), (14, [18]), (19, []), (20, []), (21, []), (22, []), (23, []), (24, []), (25, []), (26, []), (27, [])], [(1, [0]), (2, [0, 1]), (3, [0, 1, 2]), (4, [0, 1, 2, 3]), (6, [5]), (7, [5, 6]), (8, [5, 6, 7]), (9, [0, 1, 2, 3, 4, 5, 6, 7, 8]), (11, [10]), (12, [10, 11]), (13, [10, 11, 12]), (14, [0, 1, 2, 3, 4, 5, 6, 7, 8, 9, 10, 11, 12, 13]), (16, [15]), (17, [15, 16]), (18, [15, 16, 17]), (19, [0, 1, 2, 3, 4, 5, 6, 7, 8, 9, 10, 11, 12, 13, 14, 15, 16, 17, 18]), (20, [0, 1, 2, 3, 4, 5, 6, 7, 8, 9, 10, 11, 12, 13, 14, 15, 16, 17, 18, 19]), (21, [0, 1, 2, 3, 4, 5, 6, 7, 8, 9, 10, 11, 12, 13, 14, 15, 16, 17, 18, 19, 20]), (22, [0, 1, 2, 3, 4, 5, 6, 7, 8, 9, 10, 11, 12, 13, 14, 15, 16, 17, 18, 19, 20, 21]), (23, [0, 1, 2, 3, 4, 5, 6, 7, 8, 9, 10, 11, 12, 13, 14, 15, 16, 17, 18, 19, 20, 21, 22]), (24, [0, 1, 2, 3, 4, 5, 6, 7, 8, 9, 10, 11, 12, 13, 14, 15, 16, 17, 18, 19, 20, 21, 22, 23]), (25, [0, 1, 2, 3, 4, 5, 6, 7, 8, 9, 10, 11, 12, 13, 14, 15, 16, 17, 18, 19, 20, 21, 22, 23, 24]), (26, [0, 1, 2, 3, 4, 5, 6, 7, 8, 9, 10, 11, 12, 13, 14, 15, 16, 17, 18, 19, 20, 21, 22, 23, 24, 25]), (27, [0, 1, 2, 3, 4, 5, 6, 7, 8, 9, 10, 11, 12, 13, 14, 15, 16, 17, 18, 19, 20, 21, 22, 23, 24, 25, 26])]),
  (9, [(0, []), (1, []), (2, []), (3, []), (4, []), (5, []), (6, []), (7, []), (8, []), (9, []), (10, [1]), (11, []), (12, [])], [(1, [0]), (4, [3]), (5, [3, 4]), (6, [3, 4, 5]), (8, [3, 4, 5, 6, 7]), (9, [3, 4, 5, 6, 7, 8]), (10, [3, 4, 5, 6, 7, 8, 9]), (11, [0, 1, 2, 3, 4, 5, 6, 7, 8, 9, 10]), (12, [0, 1, 2, 3, 4, 5, 6, 7, 8, 9, 10, 11])])]⟩
set_option maxRecDepth 100000 in
theorem F16.ok : compF Try.prog A16 Try.f16 = some F16 := by kernel_rfl
theorem F16.fok : FOk Try.prog 16 F16 := fok_of mixed Try.func16 F16.ok

/-- cloakroom/inst.Same -/
def F17 : SFn := ⟨.seq (.region [⟨some 4, none, .mov (.c (.bool false))⟩] [0, 1])
   (.seq (.seq (.region [⟨some 5, none, .mov (.t 0)⟩,
    ⟨some 6, none, .eqk false .ptr (.t 5) (.c (.pointer none))⟩,
    ⟨some 7, none, .mov (.t 6)⟩,
    ⟨some 8, some (7, false), .mov (.t 1)⟩,
    ⟨some 9, some (7, false), .eqk false .ptr (.t 8) (.c (.pointer none))⟩,
    ⟨some 10, none, .pick (.t 7) (.c (.bool true)) (.t 9)⟩] [0, 1, 10])
   (.cond (.t 10) (.seq (.region [⟨some 11, none, .mov (.t 0)⟩,
    ⟨some 12, none, .mov (.t 1)⟩,
    ⟨some 13, none, .eqk false .ptr (.t 11) (.t 12)⟩,
    ⟨some 4, none, .mov (.t 13)⟩] [4])
   (.ret)) (.skip)))
   (.seq (.region [⟨some 14, none, .mov (.t 0)⟩,
    ⟨some 15, none, .nilc (.t 14)⟩,
    ⟨some 16, none, .fa 14 (.t 15)⟩,
    ⟨some 17, none, .ld 1 false (.t 16)⟩,
    ⟨some 18, none, .mov (.t 1)⟩,
    ⟨some 19, none, .nilc (.t 18)⟩,
    ⟨some 20, none, .fa 14 (.t 19)⟩,
    ⟨some 21, none, .ld 1 false (.t 20)⟩,
    ⟨some 22, none, .call 34 [.t 17, .t 21]⟩,
    ⟨some 23, none, .mov (.t 22)⟩,
    ⟨some 24, some (23, true), .mov (.t 0)⟩,
    ⟨some 25, some (23, true), .nilc (.t 24)⟩,
    ⟨some 26, some (23, true), .fa 15 (.t 25)⟩,
    ⟨some 27, some (23, true), .ld 1 false (.t 26)⟩,
    ⟨some 28, some (23, true), .mov (.t 1)⟩,
    ⟨some 29, some (23, true), .nilc (.t 28)⟩,
    ⟨some 30, some (23, true), .fa 15 (.t 29)⟩,
    ⟨some 31, some (23, true), .ld 1 false (.t 30)⟩,
    ⟨some 32, some (23, true), .call 35 [.t 27, .t 31, .c (.func (.func 36) ⟨[]⟩ ⟨[]⟩)]⟩,
    ⟨some 33, none, .pick (.t 23) (.t 32) (.c (.bool false))⟩,
    ⟨some 34, none, .mov (.t 33)⟩,
    ⟨some 35, some (34, true), .mov (.t 0)⟩,
    ⟨some 36, some (34, true), .nilc (.t 35)⟩,
    ⟨some 37, some (34, true), .fa 16 (.t 36)⟩,
    ⟨some 38, some (34, true), .ld 1 false (.t 37)⟩,
    ⟨some 39, some (34, true), .mov (.t 1)⟩,
    ⟨some 40, some (34, true), .nilc (.t 39)⟩,
    ⟨some 41, some (34, true), .fa 16 (.t 40)⟩,
    ⟨some 42, some (34, true), .ld 1 false (.t 41)⟩,
    ⟨some 43, some (34, true), .call 36 [.t 38, .t 42]⟩,
    ⟨some 44, none, .pick (.t 34) (.t 43) (.c (.bool false))⟩,
    ⟨some 45, none, .mov (.t 44)⟩,
    ⟨some 46, some (45, true), .mov (.t 0)⟩,
    ⟨some 47, some (45, true), .nilc (.t 46)⟩,
    ⟨some 48, some (45, true), .fa 17 (.t 47)⟩,
    ⟨some 49, some (45, true), .ld 1 false (.t 48)⟩,
    ⟨some 50, some (45, true), .mov (.t 1)⟩,
    ⟨some 51, some (45, true), .nilc (.t 50)⟩,
    ⟨some 52, some (45, true), .fa 17 (.t 51)⟩,
    ⟨some 53, some (45, true), .ld 1 false (.t 52)⟩,
    ⟨some 54, some (45, true), .call 37 [.t 49, .t 53]⟩,
    ⟨some 55, none, .pick (.t 45) (.t 54) (.c (.bool false))⟩,
    ⟨some 56, none, .mov (.t 55)⟩,
    ⟨some 57, some (56, true), .mov (.t 0)⟩,
    ⟨some 58, some (56, true), .nilc (.t 57)⟩,
    ⟨some 59, some (56, true), .fa 18 (.t 58)⟩,
    ⟨some 60, some (56, true), .ld 1 false (.t 59)⟩,
    ⟨some 61, some (56, true), .mov (.t 1)⟩,
    ⟨some 62, some (56, true), .nilc (.t 61)⟩,
    ⟨some 63, some (56, true), .fa 18 (.t 62)⟩,
    ⟨some 64, some (56, true), .ld 1 false (.t 63)⟩,
    ⟨some 65, some (56, true), .call 37 [.t 60, .t 64]⟩,
    ⟨some 66, none, .pick (.t 56) (.t 65) (.c (.bool false))⟩,
    ⟨some 4, none, .mov (.t 66)⟩] [4])
   (.ret))),
  [.t 4], 67, 2⟩
def A17 : Ann := ⟨[(0, [0, 1]), (1, [0, 1, 10]), (2, [4]), (3, [4])], [(3, [(0, []), (1, []), (2, []), (3, []), (4, []), (5, []), (6, []), (7, []), (8, []), (9, []), (10, []), (11, []), (12, []), (13, []), (14, []), (15, []), (16, []), (17, []), (18, []), (19, []), (20, []), (21, []), (22, []), (23, []), (24, []), (25, []), (26, []), (27, []), (28, []), (29, []), (30, []), (31, []), (32, []), (33, []), (34, []), (35, []), (36, []), (37, []), (38, []), (39, []), (40, []), (41, []), (42, []), (43, []), (44, []), (45, []), (46, []), (47, []), (48, []), (49, []), (50, []), (51, []), (52, []), (53, [])], [(1, [0]), (2, [0, 1]), (3, [0, 1, 2]), (5, [4]), (6, [4, 5]), (7, [4, 5, 6]), (8, [0, 1, 2, 3, 4, 5, 6, 7]), (9, [0, 1, 2, 3, 4, 5, 6, 7, 8]), (10, [0, 1, 2, 3, 4, 5, 6, 7, 8, 9]), (11, [0, 1, 2, 3, 4, 5, 6, 7, 8, 9, 10]), (12, [0, 1, 2, 3, 4, 5, 6, 7, 8, 9, 10, 11]), (13, [0, 1, 2, 3, 4, 5, 6, 7, 8, 9, 10, 11, 12]), (14, [0, 1, 2, 3, 4, 5, 6, 7, 8, 9]), (15, [0, 1, 2, 3, 4, 5, 6, 7, 8, 9, 14]), (16, [0, 1, 2, 3, 4, 5, 6, 7, 8, 9, 14, 15]), (17, [0, 1, 2, 3, 4, 5, 6, 7, 8, 9, 14, 15, 16]), (18, [0, 1, 2, 3, 4, 5, 6, 7, 8, 9, 10, 11, 12, 13, 14, 15, 16, 17]), (19, [0, 1, 2, 3, 4, 5, 6, 7, 8, 9, 10, 11, 12, 13, 14, 15, 16, 17, 18]), (20, [0, 1, 2, 3, 4, 5, 6, 7, 8, 9, 10, 11, 12, 13, 14, 15, 16, 17, 18, 19]), (21, [0, 1, 2, 3, 4, 5, 6, 7, 8, 9, 10, 11, 12, 13, 14, 15, 16, 17, 18, 19, 20]), (22, [0, 1, 2, 3, 4, 5, 6, 7, 8, 9, 10, 11, 12, 13, 14, 15, 16, 17, 18, 19, 20, 21]), (23, [0, 1, 2, 3, 4, 5, 6, 7, 8, 9, 10, 11, 12, 13, 14, 15, 16, 17, 18, 19, 20, 21, 22]), (24, [0, 1, 2, 3, 4, 5, 6, 7, 8, 9, 10, 11, 12, 13, 14, 15, 16, 17, 18, 19, 20, 21, 22, 23]), (25, [0, 1, 2, 3, 4, 5, 6, 7, 8, 9, 10, 11, 12, 13, 14, 15, 16, 17, 18, 19, 20]), (26, [0, 1, 2, 3, 4, 5, 6, 7, 8, 9, 10, 11, 12, 13, 14, 15, 16, 17, 18, 19, 20, 25]), (27, [0, 1, 2, 3, 4, 5, 6, 7, 8, 9, 10, 11, 12, 13, 14, 15, 16, 17, 18, 19, 20, 25, 26]), (28, [0, 1, 2, 3, 4, 5, 6, 7, 8, 9, 10, 11, 12, 13, 14, 15, 16, 17, 18, 19, 20, 25, 26, 27]), (29, [0, 1, 2, 3, 4, 5, 6, 7, 8, 9, 10, 11, 12, 13, 14, 15, 16, 17, 18, 19, 20, 21, 22, 23, 24, 25, 26, 27, 28]), (30, [0, 1, 2, 3, 4, 5, 6, 7, 8, 9, 10, 11, 12, 13, 14, 15, 16, 17, 18, 19, 20, 21, 22, 23, 24, 25, 26, 27, 28, 29]), (31, [0, 1, 2, 3, 4, 5, 6, 7, 8, 9, 10, 11, 12, 13, 14, 15, 16, 17, 18, 19, 20, 21, 22, 23, 24, 25, 26, 27, 28, 29, 30]), (32, [0, 1, 2, 3, 4, 5, 6, 7, 8, 9, 10, 11, 12, 13, 14, 15, 16, 17, 18, 19, 20, 21, 22, 23, 24, 25, 26, 27, 28, 29, 30, 31]), (33, [0, 1, 2, 3, 4, 5, 6, 7, 8, 9, 10, 11, 12, 13, 14, 15, 16, 17, 18, 19, 20, 21, 22, 23, 24, 25, 26, 27, 28, 29, 30, 31, 32]), (34, [0, 1, 2, 3, 4, 5, 6, 7, 8, 9, 10, 11, 12, 13, 14, 15, 16, 17, 18, 19, 20, 21, 22, 23, 24, 25, 26, 27, 28, 29, 30, 31, 32, 33]), (35, [0, 1, 2, 3, 4, 5, 6, 7, 8, 9, 10, 11, 12, 13, 14, 15, 16, 17, 18, 19, 20, 21, 22, 23, 24, 25, 26, 27, 28, 29, 30, 31, 32, 33, 34]), (36, [0, 1, 2, 3, 4, 5, 6, 7, 8, 9, 10, 11, 12, 13, 14, 15, 16, 17, 18, 19, 20, 21, 22, 23, 24, 25, 26, 27, 28, 29, 30, 31]), (37, [0, 1, 2, 3, 4, 5, 6, 7, 8, 9, 10, 11, 12, 13, 14, 15, 16, 17, 18, 19, 20, 21, 22, 23, 24, 25, 26, 27, 28, 29, 30, 31, 36]), (38, [0, 1, 2, 3, 4, 5, 6, 7, 8, 9, 10, 11, 12, 13, 14, 15, 16, 17, 18, 19, 20, 21, 22, 23, 24, 25, 26, 27, 28, 29, 30, 31, 36, 37]), (39, [0, 1, 2, 3, 4, 5, 6, 7, 8, 9, 10, 11, 12, 13, 14, 15, 16, 17, 18, 19, 20, 21, 22, 23, 24, 25, 26, 27, 28, 29, 30, 31, 36, 37, 38]), (40, [0, 1, 2, 3, 4, 5, 6, 7, 8, 9, 10, 11, 12, 13, 14, 15, 16, 17, 18, 19, 20, 21, 22, 23, 24, 25, 26, 27, 28, 29, 30, 31, 32, 33, 34, 35, 36, 37, 38, 39]), (41, [0, 1, 2, 3, 4, 5, 6, 7, 8, 9, 10, 11, 12, 13, 14, 15, 16, 17, 18, 19, 20, 21, 22, 23, 24, 25, 26, 27, 28, 29, 30, 31, 32, 33, 34, 35, 36, 37, 38, 39, 40]), (42, [0, 1, 2, 3, 4, 5, 6, 7, 8, 9, 10, 11, 12, 13, 14, 15, 16, 17, 18, 19, 20, 21, 22, 23, 24, 25, 26, 27, 28, 29, 30, 31, 32, 33, 34, 35, 36, 37, 38, 39, 40, 41]), (43, [0, 1, 2, 3, 4, 5, 6, 7, 8, 9, 10, 11, 12, 13, 14, 15, 16, 17, 18, 19, 20, 21, 22, 23, 24, 25, 26, 27, 28, 29, 30, 31, 32, 33, 34, 35, 36, 37, 38, 39, 40, 41, 42]), (44, [0, 1, 2, 3, 4, 5, 6, 7, 8, 9, 10, 11, 12, 13, 14, 15, 16, 17, 18, 19, 20, 21, 22, 23, 24, 25, 26, 27, 28, 29, 30, 31, 32, 33, 34, 35, 36, 37, 38, 39, 40, 41, 42, 43]), (45, [0, 1, 2, 3, 4, 5, 6, 7, 8, 9, 10, 11, 12, 13, 14, 15, 16, 17, 18, 19, 20, 21, 22, 23, 24, 25, 26, 27, 28, 29, 30, 31, 32, 33, 34, 35, 36, 37, 38, 39, 40, 41, 42, 43, 44]), (46, [0, 1, 2, 3, 4, 5, 6, 7, 8, 9, 10, 11, 12, 13, 14, 15, 16, 17, 18, 19, 20, 21, 22, 23, 24, 25, 26, 27, 28, 29, 30, 31, 32, 33, 34, 35, 36, 37, 38, 39, 40, 41, 42, 43, 44, 45]), (47, [0, 1, 2, 3, 4, 5, 6, 7, 8, 9, 10, 11, 12, 13, 14, 15, 16, 17, 18, 19, 20, 21, 22, 23, 24, 25, 26, 27, 28, 29, 30, 31, 32, 33, 34, 35, 36, 37, 38, 39, 40, 41, 42]), (48, [0, 1, 2, 3, 4, 5, 6, 7, 8, 9, 10, 11, 12, 13, 14, 15, 16, 17, 18, 19, 20, 21, 22, 23, 24, 25, 26, 27, 28, 29, 30, 31, 32, 33, 34, 35, 36, 37, 38, 39, 40, 41, 42, 47]), (49, [0, 1, 2, 3, 4, 5, 6, 7, 8, 9, 10, 11, 12, 13, 14, 15, 16, 17, 18, 19, 20, 21, 22, 23, 24, 25, 26, 27, 28, 29, 30, 31, 32, 33, 34, 35, 36, 37, 38, 39, 40, 41, 42, 47, 48]), (50, [0, 1, 2, 3, 4, 5, 6, 7, 8, 9, 10, 11, 12, 13, 14, 15, 16, 17, 18, 19, 20, 21, 22, 23, 24, 25, 26, 27, 28, 29, 30, 31, 32, 33, 34, 35, 36, 37, 38, 39, 40, 41, 42, 47, 48, 49]), (51, [0, 1, 2, 3, 4, 5, 6, 7, 8, 9, 10, 11, 12, 13, 14, 15, 16, 17, 18, 19, 20, 21, 22, 23, 24, 25, 26, 27, 28, 29, 30, 31, 32, 33, 34, 35, 36, 37, 38, 39, 40, 41, 42, 43, 44, 45, 46, 47, 48, 49, 50]), (52, [0, 1, 2, 3, 4, 5, 6, 7, 8, 9, 10, 11, 12, 13, 14, 15, 16, 17, 18, 19, 20, 21, 22, 23, 24, 25, 26, 27, 28, 29, 30, 31, 32, 33, 34, 35, 36, 37, 38, 39, 40, 41, 42, 43, 44, 45, 46, 47, 48, 49, 50, 51]), (53, [0, 1, 2, 3, 4, 5, 6, 7, 8, 9, 10, 11, 12, 13, 14, 15, 16, 17, 18, 19, 20, 21, 22, 23, 24, 25, 26, 27, 28, 29, 30, 31, 32, 33, 34, 35, 36, 37, 38, 39, 40, 41, 42, 43, 44, 45, 46, 47, 48, 49, 50, 51, 52])])]⟩
set_option maxRecDepth 100000 in
theorem F17.ok : compF Try.prog A17 Try.f17 = some F17 := by kernel_rfl
theorem F17.fok : FOk Try.prog 17 F17 := fok_of mixed Try.func17 F17.ok

/-- cloakroom/cloakroomplay.Fixed -/
def F18 : SFn := ⟨.seq (.region [⟨some 0, none, .new [.slice none 0 0, .slice none 0 0, .slice none 0 0, .slice none 0 0, .slice none 0 0, .slice none 0 0, .bool false, .int .u32 0, .slice none 0 0, .bool false, .int .u32 0, .slice none 0 0, .slice none 0 0]⟩] [0])
   (.seq (.region [⟨some 7, none, .build [.int .i64 0, .int .u32 0, .int .u32 0, .int .u64 0, .slice none 0 0, .int .i64 0] [(0, 1, .c (.int .i64 11))]⟩,
    ⟨some 1, none, .new [.int .i64 0, .int .u32 0, .int .u32 0, .int .u64 0, .slice none 0 0, .int .i64 0]⟩,
    ⟨none, none, .st 6 (.t 1) (.t 7)⟩] [0, 1])
   (.seq (.region [⟨some 2, none, .mov (.c (.int .u8 127))⟩] [0, 1, 2])
   (.seq (.region [⟨some 8, none, .build [.slice none 0 0, .slice none 0 0] []⟩,
    ⟨some 9, none, .mov (.t 2)⟩,
    ⟨some 10, none, .bslice 1 1 [.int .u8 0] [(0, 1, .t 9)]⟩,
    ⟨some 11, none, .mov (.t 2)⟩,
    ⟨some 12, none, .bslice 1 1 [.int .u8 0] [(0, 1, .t 11)]⟩,
    ⟨some 13, none, .build [.slice none 0 0, .slice none 0 0] [(0, 1, .t 10), (1, 1, .t 12)]⟩,
    ⟨some 14, none, .mov (.t 2)⟩,
    ⟨some 15, none, .bslice 1 1 [.int .u8 0] [(0, 1, .t 14)]⟩,
    ⟨some 16, none, .build [.slice none 0 0, .slice none 0 0] [(1, 1, .t 15)]⟩,
    ⟨some 17, none, .mov (.t 2)⟩,
    ⟨some 18, none, .mov (.t 2)⟩,
    ⟨some 19, none, .bslice 2 1 [.int .u8 0] [(0, 1, .t 17), (1, 1, .t 18)]⟩,
    ⟨some 20, none, .build [.slice none 0 0, .slice none 0 0] [(0, 1, .t 19)]⟩,
    ⟨some 21, none, .bslice 4 2 [.slice none 0 0, .slice none 0 0] [(0, 2, .t 8), (2, 2, .t 13), (4, 2, .t 16), (6, 2, .t 20)]⟩,
    ⟨some 22, none, .build [.int .u32 0, .int .u32 0, .bool false] [(0, 1, .c (.int .u32 1))]⟩,
    ⟨some 23, none, .bslice 1 3 [.int .u32 0, .int .u32 0, .bool false] [(0, 3, .t 22)]⟩,
    ⟨some 24, none, .mov (.t 2)⟩,
    ⟨some 25, none, .build [.int .i64 0, .int .u32 0, .int .u32 0, .int .u64 0, .slice none 0 0, .int .i64 0] [(0, 1, .c (.int .i64 65))]⟩,
    ⟨some 26, none, .ld 6 true (.t 1)⟩,
    ⟨some 27, none, .bslice 2 6 [.int .i64 0, .int .u32 0, .int .u32 0, .int .u64 0, .slice none 0 0, .int .i64 0] [(0, 6, .t 25), (6, 6, .t 26)]⟩,
    ⟨some 28, none, .build [.int .u8 0, .bool false, .slice none 0 0] [(0, 1, .t 24), (1, 1, .c (.bool true)), (2, 1, .t 27)]⟩,
    ⟨some 29, none, .bslice 1 3 [.int .u8 0, .bool false, .slice none 0 0] [(0, 3, .t 28)]⟩,
    ⟨some 30, none, .build [.slice none 0 0, .slice none 0 0, .slice none 0 0, .slice none 0 0, .slice none 0 0, .slice none 0 0, .bool false, .int .u32 0, .slice none 0 0, .bool false, .int .u32 0, .slice none 0 0, .slice none 0 0] [(0, 1, .t 21), (3, 1, .t 23), (4, 1, .t 29)]⟩,
    ⟨some 3, none, .new [.slice none 0 0, .slice none 0 0, .slice none 0 0, .slice none 0 0, .slice none 0 0, .slice none 0 0, .bool false, .int .u32 0, .slice none 0 0, .bool false, .int .u32 0, .slice none 0 0, .slice none 0 0]⟩,
    ⟨none, none, .st 13 (.t 3) (.t 30)⟩] [0, 1, 3])
   (.seq (.region [⟨some 31, none, .bslice 8 1 [.string ByteArray.empty] [(0, 1, .c (.string { data := #[105, 110, 99] })), (1, 1, .c (.string { data := #[103, 101, 116] })), (2, 1, .c (.string { data := #[115, 112, 105, 110] })), (3, 1, .c (.string { data := #[116, 114, 97, 112] })), (4, 1, .c (.string { data := #[112, 117, 116] })), (5, 1, .c (.string { data := #[112, 101, 101, 107] })), (6, 1, .c (.string { data := #[119, 111, 114, 107] })), (7, 1, .c (.string { data := #[100, 101, 101, 112] }))]⟩,
    ⟨some 4, none, .mov (.t 31)⟩] [0, 1, 3, 4])
   (.seq (.region [⟨some 32, none, .bslice 8 1 [.int .u32 0] [(0, 1, .c (.int .u32 1)), (1, 1, .c (.int .u32 2)), (2, 1, .c (.int .u32 0)), (3, 1, .c (.int .u32 0)), (4, 1, .c (.int .u32 3)), (5, 1, .c (.int .u32 1)), (6, 1, .c (.int .u32 1)), (7, 1, .c (.int .u32 0))]⟩,
    ⟨some 33, none, .fa 1 (.t 3)⟩,
    ⟨none, none, .st 1 (.t 33) (.t 32)⟩] [0, 1, 3, 4])
   (.seq (.region [⟨some 34, none, .build [.int .i64 0, .int .u32 0, .int .u32 0, .int .u64 0, .slice none 0 0, .int .i64 0] [(0, 1, .c (.int .i64 35))]⟩,
    ⟨some 35, none, .build [.int .i64 0, .int .u32 0, .int .u32 0, .int .u64 0, .slice none 0 0, .int .i64 0] [(0, 1, .c (.int .i64 32))]⟩,
    ⟨some 36, none, .build [.int .i64 0, .int .u32 0, .int .u32 0, .int .u64 0, .slice none 0 0, .int .i64 0] [(0, 1, .c (.int .i64 106))]⟩,
    ⟨some 37, none, .build [.int .i64 0, .int .u32 0, .int .u32 0, .int .u64 0, .slice none 0 0, .int .i64 0] [(0, 1, .c (.int .i64 36))]⟩,
    ⟨some 38, none, .build [.int .i64 0, .int .u32 0, .int .u32 0, .int .u64 0, .slice none 0 0, .int .i64 0] [(0, 1, .c (.int .i64 35))]⟩,
    ⟨some 39, none, .ld 6 true (.t 1)⟩,
    ⟨some 40, none, .bslice 6 6 [.int .i64 0, .int .u32 0, .int .u32 0, .int .u64 0, .slice none 0 0, .int .i64 0] [(0, 6, .t 34), (6, 6, .t 35), (12, 6, .t 36), (18, 6, .t 37), (24, 6, .t 38), (30, 6, .t 39)]⟩,
    ⟨some 41, none, .build [.int .i64 0, .int .u32 0, .int .u32 0, .int .u64 0, .slice none 0 0, .int .i64 0] [(0, 1, .c (.int .i64 35))]⟩,
    ⟨some 42, none, .ld 6 true (.t 1)⟩,
    ⟨some 43, none, .bslice 2 6 [.int .i64 0, .int .u32 0, .int .u32 0, .int .u64 0, .slice none 0 0, .int .i64 0] [(0, 6, .t 41), (6, 6, .t 42)]⟩,
    ⟨some 44, none, .build [.int .i64 0, .int .u32 0, .int .u32 0, .int .u64 0, .slice none 0 0, .int .i64 0] [(0, 1, .c (.int .i64 65)), (3, 1, .c (.int .u64 99))]⟩,
    ⟨some 45, none, .build [.int .i64 0, .int .u32 0, .int .u32 0, .int .u64 0, .slice none 0 0, .int .i64 0] [(0, 1, .c (.int .i64 36))]⟩,
    ⟨some 46, none, .build [.int .i64 0, .int .u32 0, .int .u32 0, .int .u64 0, .slice none 0 0, .int .i64 0] [(0, 1, .c (.int .i64 3)), (5, 1, .c (.int .i64 (-64)))]⟩,
    ⟨some 47, none, .build [.int .i64 0, .int .u32 0, .int .u32 0, .int .u64 0, .slice none 0 0, .int .i64 0] [(0, 1, .c (.int .i64 12))]⟩,
    ⟨some 48, none, .ld 6 true (.t 1)⟩,
    ⟨some 49, none, .ld 6 true (.t 1)⟩,
    ⟨some 50, none, .bslice 6 6 [.int .i64 0, .int .u32 0, .int .u32 0, .int .u64 0, .slice none 0 0, .int .i64 0] [(0, 6, .t 44), (6, 6, .t 45), (12, 6, .t 46), (18, 6, .t 47), (24, 6, .t 48), (30, 6, .t 49)]⟩,
    ⟨some 51, none, .build [.int .i64 0, .int .u32 0, .int .u32 0, .int .u64 0, .slice none 0 0, .int .i64 0] [(0, 1, .c (.int .i64 35))]⟩,
    ⟨some 52, none, .build [.int .i64 0, .int .u32 0, .int .u32 0, .int .u64 0, .slice none 0 0, .int .i64 0] [(0, 1, .c (.int .i64 65)), (3, 1, .c (.int .u64 1000))]⟩,
    ⟨some 53, none, .build [.int .i64 0, .int .u32 0, .int .u32 0, .int .u64 0, .slice none 0 0, .int .i64 0] [(0, 1, .c (.int .i64 106))]⟩,
    ⟨some 54, none, .build [.int .i64 0, .int .u32 0, .int .u32 0, .int .u64 0, .slice none 0 0, .int .i64 0] [(0, 1, .c (.int .i64 36))]⟩,
    ⟨some 55, none, .build [.int .i64 0, .int .u32 0, .int .u32 0, .int .u64 0, .slice none 0 0, .int .i64 0] [(0, 1, .c (.int .i64 0))]⟩,
    ⟨some 56, none, .ld 6 true (.t 1)⟩,
    ⟨some 57, none, .bslice 6 6 [.int .i64 0, .int .u32 0, .int .u32 0, .int .u64 0, .slice none 0 0, .int .i64 0] [(0, 6, .t 51), (6, 6, .t 52), (12, 6, .t 53), (18, 6, .t 54), (24, 6, .t 55), (30, 6, .t 56)]⟩,
    ⟨some 58, none, .build [.int .i64 0, .int .u32 0, .int .u32 0, .int .u64 0, .slice none 0 0, .int .i64 0] [(0, 1, .c (.int .i64 32))]⟩,
    ⟨some 59, none, .build [.int .i64 0, .int .u32 0, .int .u32 0, .int .u64 0, .slice none 0 0, .int .i64 0] [(0, 1, .c (.int .i64 32)), (1, 1, .c (.int .u32 1))]⟩,
    ⟨some 60, none, .build [.int .i64 0, .int .u32 0, .int .u32 0, .int .u64 0, .slice none 0 0, .int .i64 0] [(0, 1, .c (.int .i64 58))]⟩,
    ⟨some 61, none, .ld 6 true (.t 1)⟩,
    ⟨some 62, none, .bslice 4 6 [.int .i64 0, .int .u32 0, .int .u32 0, .int .u64 0, .slice none 0 0, .int .i64 0] [(0, 6, .t 58), (6, 6, .t 59), (12, 6, .t 60), (18, 6, .t 61)]⟩,
    ⟨some 63, none, .build [.int .i64 0, .int .u32 0, .int .u32 0, .int .u64 0, .slice none 0 0, .int .i64 0] [(0, 1, .c (.int .i64 32))]⟩,
    ⟨some 64, none, .build [.int .i64 0, .int .u32 0, .int .u32 0, .int .u64 0, .slice none 0 0, .int .i64 0] [(0, 1, .c (.int .i64 45))]⟩,
    ⟨some 65, none, .ld 6 true (.t 1)⟩,
    ⟨some 66, none, .bslice 3 6 [.int .i64 0, .int .u32 0, .int .u32 0, .int .u64 0, .slice none 0 0, .int .i64 0] [(0, 6, .t 63), (6, 6, .t 64), (12, 6, .t 65)]⟩,
    ⟨some 67, none, .build [.int .i64 0, .int .u32 0, .int .u32 0, .int .u64 0, .slice none 0 0, .int .i64 0] [(0, 1, .c (.int .i64 2)), (5, 1, .c (.int .i64 (-64)))]⟩,
    ⟨some 68, none, .build [.int .i64 0, .int .u32 0, .int .u32 0, .int .u64 0, .slice none 0 0, .int .i64 0] [(0, 1, .c (.int .i64 3)), (5, 1, .c (.int .i64 (-64)))]⟩,
    ⟨some 69, none, .build [.int .i64 0, .int .u32 0, .int .u32 0, .int .u64 0, .slice none 0 0, .int .i64 0] [(0, 1, .c (.int .i64 32))]⟩,
    ⟨some 70, none, .build [.int .i64 0, .int .u32 0, .int .u32 0, .int .u64 0, .slice none 0 0, .int .i64 0] [(0, 1, .c (.int .i64 69))]⟩,
    ⟨some 71, none, .build [.int .i64 0, .int .u32 0, .int .u32 0, .int .u64 0, .slice none 0 0, .int .i64 0] [(0, 1, .c (.int .i64 13)), (1, 1, .c (.int .u32 1))]⟩,
    ⟨some 72, none, .build [.int .i64 0, .int .u32 0, .int .u32 0, .int .u64 0, .slice none 0 0, .int .i64 0] [(0, 1, .c (.int .i64 32))]⟩,
    ⟨some 73, none, .build [.int .i64 0, .int .u32 0, .int .u32 0, .int .u64 0, .slice none 0 0, .int .i64 0] [(0, 1, .c (.int .i64 65)), (3, 1, .c (.int .u64 1))]⟩,
    ⟨some 74, none, .build [.int .i64 0, .int .u32 0, .int .u32 0, .int .u64 0, .slice none 0 0, .int .i64 0] [(0, 1, .c (.int .i64 107))]⟩,
    ⟨some 75, none, .build [.int .i64 0, .int .u32 0, .int .u32 0, .int .u64 0, .slice none 0 0, .int .i64 0] [(0, 1, .c (.int .i64 33))]⟩,
    ⟨some 76, none, .build [.int .i64 0, .int .u32 0, .int .u32 0, .int .u64 0, .slice none 0 0, .int .i64 0] [(0, 1, .c (.int .i64 35))]⟩,
    ⟨some 77, none, .build [.int .i64 0, .int .u32 0, .int .u32 0, .int .u64 0, .slice none 0 0, .int .i64 0] [(0, 1, .c (.int .i64 65)), (3, 1, .c (.int .u64 1))]⟩,
    ⟨some 78, none, .build [.int .i64 0, .int .u32 0, .int .u32 0, .int .u64 0, .slice none 0 0, .int .i64 0] [(0, 1, .c (.int .i64 106))]⟩,
    ⟨some 79, none, .build [.int .i64 0, .int .u32 0, .int .u32 0, .int .u64 0, .slice none 0 0, .int .i64 0] [(0, 1, .c (.int .i64 36))]⟩,
    ⟨some 80, none, .build [.int .i64 0, .int .u32 0, .int .u32 0, .int .u64 0, .slice none 0 0, .int .i64 0] [(0, 1, .c (.int .i64 12))]⟩,
    ⟨some 81, none, .ld 6 true (.t 1)⟩,
    ⟨some 82, none, .ld 6 true (.t 1)⟩,
    ⟨some 83, none, .build [.int .i64 0, .int .u32 0, .int .u32 0, .int .u64 0, .slice none 0 0, .int .i64 0] [(0, 1, .c (.int .i64 35))]⟩,
    ⟨some 84, none, .ld 6 true (.t 1)⟩,
    ⟨some 85, none, .bslice 18 6 [.int .i64 0, .int .u32 0, .int .u32 0, .int .u64 0, .slice none 0 0, .int .i64 0] [(0, 6, .t 67), (6, 6, .t 68), (12, 6, .t 69), (18, 6, .t 70), (24, 6, .t 71), (30, 6, .t 72), (36, 6, .t 73), (42, 6, .t 74), (48, 6, .t 75), (54, 6, .t 76), (60, 6, .t 77), (66, 6, .t 78), (72, 6, .t 79), (78, 6, .t 80), (84, 6, .t 81), (90, 6, .t 82), (96, 6, .t 83), (102, 6, .t 84)]⟩,
    ⟨some 86, none, .build [.int .i64 0, .int .u32 0, .int .u32 0, .int .u64 0, .slice none 0 0, .int .i64 0] [(0, 1, .c (.int .i64 65)), (3, 1, .c (.int .u64 5))]⟩,
    ⟨some 87, none, .build [.int .i64 0, .int .u32 0, .int .u32 0, .int .u64 0, .slice none 0 0, .int .i64 0] [(0, 1, .c (.int .i64 36))]⟩,
    ⟨some 88, none, .build [.int .i64 0, .int .u32 0, .int .u32 0, .int .u64 0, .slice none 0 0, .int .i64 0] [(0, 1, .c (.int .i64 16)), (1, 1, .c (.int .u32 7))]⟩,
    ⟨some 89, none, .ld 6 true (.t 1)⟩,
    ⟨some 90, none, .bslice 4 6 [.int .i64 0, .int .u32 0, .int .u32 0, .int .u64 0, .slice none 0 0, .int .i64 0] [(0, 6, .t 86), (6, 6, .t 87), (12, 6, .t 88), (18, 6, .t 89)]⟩,
    ⟨some 91, none, .bslice 8 1 [.slice none 0 0] [(0, 1, .t 40), (1, 1, .t 43), (2, 1, .t 50), (3, 1, .t 57), (4, 1, .t 62), (5, 1, .t 66), (6, 1, .t 85), (7, 1, .t 90)]⟩,
    ⟨some 5, none, .mov (.t 91)⟩] [0, 3, 4, 5])
   (.seq (.seq (.region [⟨some 6, none, .mov (.c (.int .i64 0))⟩] [0, 3, 4, 5, 6])
   (.block 0 (.loop (.seq (.seq (.region [⟨some 92, none, .mov (.t 6)⟩,
    ⟨some 93, none, .mov (.t 4)⟩,
    ⟨some 94, none, .lenV (.t 93)⟩,
    ⟨some 95, none, .bin .lss (.t 92) (.t 94)⟩] [0, 3, 4, 5, 6, 95])
   (.cond (.t 95) (.skip) (.exit 0)))
   (.seq (.block 1 (.seq (.region [⟨some 98, none, .fa 5 (.t 3)⟩,
    ⟨some 99, none, .ld 1 false (.t 98)⟩,
    ⟨some 100, none, .mov (.t 4)⟩,
    ⟨some 101, none, .mov (.t 6)⟩,
    ⟨some 102, none, .iaV 1 (.t 100) (.t 101)⟩,
    ⟨some 103, none, .ld 1 false (.t 102)⟩,
    ⟨some 104, none, .mov (.t 6)⟩,
    ⟨some 105, none, .conv .u32 (.t 104)⟩,
    ⟨some 106, none, .build [.string ByteArray.empty, .int .u8 0, .int .u32 0] [(0, 1, .t 103), (2, 1, .t 105)]⟩,
    ⟨some 107, none, .bslice 1 3 [.string ByteArray.empty, .int .u8 0, .int .u32 0] [(0, 3, .t 106)]⟩,
    ⟨some 108, none, .app 3 24 (.t 99) (.t 107)⟩,
    ⟨some 109, none, .fa 5 (.t 3)⟩,
    ⟨none, none, .st 1 (.t 109) (.t 108)⟩] [0, 3, 4, 5, 6])
   (.region [⟨some 110, none, .fa 11 (.t 3)⟩,
    ⟨some 111, none, .ld 1 false (.t 110)⟩,
    ⟨some 112, none, .mov (.t 5)⟩,
    ⟨some 113, none, .mov (.t 6)⟩,
    ⟨some 114, none, .iaV 1 (.t 112) (.t 113)⟩,
    ⟨some 115, none, .ld 1 false (.t 114)⟩,
    ⟨some 116, none, .build [.slice none 0 0, .slice none 0 0] [(1, 1, .t 115)]⟩,
    ⟨some 117, none, .bslice 1 2 [.slice none 0 0, .slice none 0 0] [(0, 2, .t 116)]⟩,
    ⟨some 118, none, .app 2 48 (.t 111) (.t 117)⟩,
    ⟨some 119, none, .fa 11 (.t 3)⟩,
    ⟨none, none, .st 1 (.t 119) (.t 118)⟩] [0, 3, 4, 5, 6])))
   (.region [⟨some 96, none, .mov (.t 6)⟩,
    ⟨some 97, none, .bin .add (.t 96) (.c (.int .i64 1))⟩,
    ⟨some 6, none, .mov (.t 97)⟩] [0, 3, 4, 5, 6]))))))
   (.seq (.region [⟨some 120, none, .ld 13 true (.t 3)⟩,
    ⟨none, none, .st 13 (.t 0) (.t 120)⟩] [0])
   (.ret))))))))),
  [.c 0 13 true], 121, 0⟩
def A18 : Ann := ⟨[(0, [0]), (1, [0, 1]), (2, [0, 1, 2]), (3, [0, 1, 3]), (4, [0, 1, 3, 4]), (5, [0, 1, 3, 4]), (6, [0, 3, 4, 5]), (7, [0, 3, 4, 5, 6]), (8, [0, 3, 4, 5, 6, 95]), (9, [0, 3, 4, 5, 6]), (10, [0, 3, 4, 5, 6]), (11, [0, 3, 4, 5, 6]), (12, [0])], [(10, [(0, []), (1, []), (2, []), (3, []), (4, []), (5, []), (6, []), (7, []), (8, []), (9, []), (10, []), (11, []), (12, [])], [(1, [0]), (4, [2, 3]), (5, [2, 3, 4]), (7, [6]), (8, [2, 3, 4, 5, 6, 7]), (9, [2, 3, 4, 5, 6, 7, 8]), (10, [0, 1, 2, 3, 4, 5, 6, 7, 8, 9]), (11, [0, 1, 2, 3, 4, 5, 6, 7, 8, 9, 10]), (12, [0, 1, 2, 3, 4, 5, 6, 7, 8, 9, 10, 11])]),
  (11, [(0, []), (1, []), (2, []), (3, []), (4, []), (5, []), (6, []), (7, []), (8, []), (9, []), (10, [])], [(1, [0]), (4, [2, 3]), (5, [2, 3, 4]), (6, [2, 3, 4, 5]), (7, [2, 3, 4, 5, 6]), (8, [0, 1, 2, 3, 4, 5, 6, 7]), (9, [0, 1, 2, 3, 4, 5, 6, 7, 8]), (10, [0, 1, 2, 3, 4, 5, 6, 7, 8, 9])])]⟩
set_option maxRecDepth 100000 in
theorem F18.ok : compF Try.prog A18 Try.f18 = some F18 := by kernel_rfl
theorem F18.fok : FOk Try.prog 18 F18 := fok_of mixed Try.func18 F18.ok

/-- cloakroom/cloakroomplay.types -/
def F19 : SFn := ⟨.seq (.region [⟨some 0, none, .mov (.c (.slice none 0 0))⟩] [])
   (.seq (.region [⟨some 1, none, .mov (.c (.int .u8 127))⟩,
    ⟨some 2, none, .mov (.c (.int .u8 126))⟩] [1, 2])
   (.seq (.region [⟨some 3, none, .build [.slice none 0 0, .slice none 0 0] []⟩,
    ⟨some 4, none, .mov (.t 1)⟩,
    ⟨some 5, none, .bslice 1 1 [.int .u8 0] [(0, 1, .t 4)]⟩,
    ⟨some 6, none, .mov (.t 1)⟩,
    ⟨some 7, none, .bslice 1 1 [.int .u8 0] [(0, 1, .t 6)]⟩,
    ⟨some 8, none, .build [.slice none 0 0, .slice none 0 0] [(0, 1, .t 5), (1, 1, .t 7)]⟩,
    ⟨some 9, none, .mov (.t 1)⟩,
    ⟨some 10, none, .mov (.t 1)⟩,
    ⟨some 11, none, .bslice 2 1 [.int .u8 0] [(0, 1, .t 9), (1, 1, .t 10)]⟩,
    ⟨some 12, none, .mov (.t 1)⟩,
    ⟨some 13, none, .bslice 1 1 [.int .u8 0] [(0, 1, .t 12)]⟩,
    ⟨some 14, none, .build [.slice none 0 0, .slice none 0 0] [(0, 1, .t 11), (1, 1, .t 13)]⟩,
    ⟨some 15, none, .mov (.t 2)⟩,
    ⟨some 16, none, .bslice 1 1 [.int .u8 0] [(0, 1, .t 15)]⟩,
    ⟨some 17, none, .mov (.t 2)⟩,
    ⟨some 18, none, .bslice 1 1 [.int .u8 0] [(0, 1, .t 17)]⟩,
    ⟨some 19, none, .build [.slice none 0 0, .slice none 0 0] [(0, 1, .t 16), (1, 1, .t 18)]⟩,
    ⟨some 20, none, .mov (.t 1)⟩,
    ⟨some 21, none, .bslice 1 1 [.int .u8 0] [(0, 1, .t 20)]⟩,
    ⟨some 22, none, .build [.slice none 0 0, .slice none 0 0] [(1, 1, .t 21)]⟩,
    ⟨some 23, none, .mov (.t 1)⟩,
    ⟨some 24, none, .bslice 1 1 [.int .u8 0] [(0, 1, .t 23)]⟩,
    ⟨some 25, none, .mov (.t 1)⟩,
    ⟨some 26, none, .mov (.t 1)⟩,
    ⟨some 27, none, .bslice 2 1 [.int .u8 0] [(0, 1, .t 25), (1, 1, .t 26)]⟩,
    ⟨some 28, none, .build [.slice none 0 0, .slice none 0 0] [(0, 1, .t 24), (1, 1, .t 27)]⟩,
    ⟨some 29, none, .bslice 6 2 [.slice none 0 0, .slice none 0 0] [(0, 2, .t 3), (2, 2, .t 8), (4, 2, .t 14), (6, 2, .t 19), (8, 2, .t 22), (10, 2, .t 28)]⟩,
    ⟨some 0, none, .mov (.t 29)⟩] [0])
   (.ret))),
  [.t 0], 30, 0⟩
def A19 : Ann := ⟨[(0, []), (1, [1, 2]), (2, [0])], []⟩
set_option maxRecDepth 100000 in
theorem F19.ok : compF Try.prog A19 Try.f19 = some F19 := by kernel_rfl
theorem F19.fok : FOk Try.prog 19 F19 := fok_of mixed Try.func19 F19.ok

/-- (*cloakroom/cloakroomplay.Picks).Num -/
def F20 : SFn := ⟨.seq (.region [⟨some 4, none, .mov (.c (.int .i64 0))⟩] [0, 1])
   (.seq (.seq (.region [⟨some 5, none, .mov (.t 0)⟩,
    ⟨some 6, none, .nilc (.t 5)⟩,
    ⟨some 7, none, .fa 1 (.t 6)⟩,
    ⟨some 8, none, .ld 1 false (.t 7)⟩,
    ⟨some 9, none, .mov (.t 0)⟩,
    ⟨some 10, none, .nilc (.t 9)⟩,
    ⟨some 11, none, .fa 0 (.t 10)⟩,
    ⟨some 12, none, .ld 1 false (.t 11)⟩,
    ⟨some 13, none, .lenV (.t 12)⟩,
    ⟨some 14, none, .bin .geq (.t 8) (.t 13)⟩] [0, 1, 14])
   (.cond (.t 14) (.seq (.region [⟨some 4, none, .mov (.c (.int .i64 0))⟩] [4])
   (.ret)) (.skip)))
   (.seq (.region [⟨some 15, none, .mov (.t 0)⟩,
    ⟨some 16, none, .nilc (.t 15)⟩,
    ⟨some 17, none, .fa 1 (.t 16)⟩,
    ⟨some 18, none, .ld 1 false (.t 17)⟩,
    ⟨some 19, none, .bin .add (.t 18) (.c (.int .i64 1))⟩,
    ⟨some 20, none, .nilc (.t 15)⟩,
    ⟨some 21, none, .fa 1 (.t 20)⟩,
    ⟨none, none, .st 1 (.t 21) (.t 19)⟩] [0, 1])
   (.seq (.region [⟨some 22, none, .mov (.t 0)⟩,
    ⟨some 23, none, .nilc (.t 22)⟩,
    ⟨some 24, none, .fa 0 (.t 23)⟩,
    ⟨some 25, none, .ld 1 false (.t 24)⟩,
    ⟨some 26, none, .mov (.t 0)⟩,
    ⟨some 27, none, .nilc (.t 26)⟩,
    ⟨some 28, none, .fa 1 (.t 27)⟩,
    ⟨some 29, none, .ld 1 false (.t 28)⟩,
    ⟨some 30, none, .bin .sub (.t 29) (.c (.int .i64 1))⟩,
    ⟨some 31, none, .iaV 1 (.t 25) (.t 30)⟩,
    ⟨some 32, none, .ld 1 false (.t 31)⟩,
    ⟨some 33, none, .conv .i64 (.t 32)⟩,
    ⟨some 34, none, .mov (.t 1)⟩,
    ⟨some 35, none, .bin .rem (.t 33) (.t 34)⟩,
    ⟨some 4, none, .mov (.t 35)⟩] [4])
   (.ret)))),
  [.t 4], 36, 2⟩
def A20 : Ann := ⟨[(0, [0, 1]), (1, [0, 1, 14]), (2, [4]), (3, [0, 1]), (4, [4])], [(1, [(0, []), (1, []), (2, []), (3, []), (4, []), (5, []), (6, []), (7, []), (8, []), (9, [])], [(1, [0]), (2, [0, 1]), (3, [0, 1, 2]), (5, [4]), (6, [4, 5]), (7, [4, 5, 6]), (8, [4, 5, 6, 7]), (9, [0, 1, 2, 3, 4, 5, 6, 7, 8])]),
  (4, [(0, []), (1, []), (2, []), (3, []), (4, []), (5, []), (6, []), (7, []), (8, []), (9, []), (10, []), (11, []), (12, []), (13, []), (14, [])], [(1, [0]), (2, [0, 1]), (3, [0, 1, 2]), (5, [4]), (6, [4, 5]), (7, [4, 5, 6]), (8, [4, 5, 6, 7]), (9, [0, 1, 2, 3, 4, 5, 6, 7, 8]), (10, [0, 1, 2, 3, 4, 5, 6, 7, 8, 9]), (11, [0, 1, 2, 3, 4, 5, 6, 7, 8, 9, 10]), (13, [0, 1, 2, 3, 4, 5, 6, 7, 8, 9, 10, 11, 12]), (14, [0, 1, 2, 3, 4, 5, 6, 7, 8, 9, 10, 11, 12, 13])])]⟩
set_option maxRecDepth 100000 in
theorem F20.ok : compF Try.prog A20 Try.f20 = some F20 := by kernel_rfl
theorem F20.fok : FOk Try.prog 20 F20 := fok_of mixed Try.func20 F20.ok

/-- (*cloakroom/cloakroomplay.maker).stmts -/
def F21 : SFn := ⟨.seq (.region [⟨some 6, none, .mov (.c (.int .i64 0))⟩] [0, 1, 2, 6])
   (.block 0 (.loop (.seq (.seq (.region [⟨some 7, none, .mov (.t 6)⟩,
    ⟨some 8, none, .mov (.t 1)⟩,
    ⟨some 9, none, .bin .lss (.t 7) (.t 8)⟩,
    ⟨some 10, none, .mov (.t 9)⟩,
    ⟨some 11, some (10, true), .mov (.t 0)⟩,
    ⟨some 12, some (10, true), .nilc (.t 11)⟩,
    ⟨some 13, some (10, true), .fa 0 (.t 12)⟩,
    ⟨some 14, some (10, true), .ld 1 false (.t 13)⟩,
    ⟨some 15, some (10, true), .call 38 [.t 14]⟩,
    ⟨some 16, some (10, true), .un .not (.t 15)⟩,
    ⟨some 17, none, .pick (.t 10) (.t 16) (.c (.bool false))⟩,
    ⟨some 18, none, .mov (.t 17)⟩,
    ⟨some 19, some (18, true), .mov (.t 0)⟩,
    ⟨some 20, some (18, true), .nilc (.t 19)⟩,
    ⟨some 21, some (18, true), .fa 3 (.t 20)⟩,
    ⟨some 22, some (18, true), .ld 1 false (.t 21)⟩,
    ⟨some 23, some (18, true), .lenV (.t 22)⟩,
    ⟨some 24, some (18, true), .bin .lss (.t 23) (.c (.int .i64 350))⟩,
    ⟨some 25, none, .pick (.t 18) (.t 24) (.c (.bool false))⟩] [0, 1, 2, 6, 25])
   (.cond (.t 25) (.skip) (.exit 0)))
   (.seq (.block 1 (.region [⟨some 28, none, .mov (.t 0)⟩,
    ⟨some 29, none, .mov (.t 2)⟩,
    ⟨some 30, none, .call 39 [.t 28, .t 29]⟩] [0, 1, 2, 6]))
   (.region [⟨some 26, none, .mov (.t 6)⟩,
    ⟨some 27, none, .bin .add (.t 26) (.c (.int .i64 1))⟩,
    ⟨some 6, none, .mov (.t 27)⟩] [0, 1, 2, 6]))))),
  [], 31, 3⟩
def A21 : Ann := ⟨[(0, [0, 1, 2, 6]), (1, [0, 1, 2, 6, 25]), (2, [0, 1, 2, 6]), (3, [0, 1, 2, 6])], []⟩
set_option maxRecDepth 100000 in
theorem F21.ok : compF Try.prog A21 Try.f21 = some F21 := by kernel_rfl
theorem F21.fok : FOk Try.prog 21 F21 := fok_of mixed Try.func21 F21.ok

/-- (*cloakroom/cloakroomplay.maker).expr -/
def F22 : SFn := ⟨.seq (.region [⟨some 16, none, .mov (.t 0)⟩,
    ⟨some 17, none, .nilc (.t 16)⟩,
    ⟨some 18, none, .fa 0 (.t 17)⟩,
    ⟨some 19, none, .ld 1 false (.t 18)⟩,
    ⟨some 20, none, .call 20 [.t 19, .c (.int .i64 16)]⟩,
    ⟨some 6, none, .mov (.t 20)⟩] [0, 1, 2, 6])
   (.seq (.seq (.region [⟨some 21, none, .mov (.t 2)⟩,
    ⟨some 22, none, .bin .leq (.t 21) (.c (.int .i64 0))⟩,
    ⟨some 23, none, .mov (.t 22)⟩,
    ⟨some 24, some (23, false), .mov (.t 0)⟩,
    ⟨some 25, some (23, false), .nilc (.t 24)⟩,
    ⟨some 26, some (23, false), .fa 0 (.t 25)⟩,
    ⟨some 27, some (23, false), .ld 1 false (.t 26)⟩,
    ⟨some 28, some (23, false), .call 38 [.t 27]⟩,
    ⟨some 29, none, .pick (.t 23) (.c (.bool true)) (.t 28)⟩,
    ⟨some 30, none, .mov (.t 29)⟩,
    ⟨some 31, some (30, false), .mov (.t 0)⟩,
    ⟨some 32, some (30, false), .nilc (.t 31)⟩,
    ⟨some 33, some (30, false), .fa 3 (.t 32)⟩,
    ⟨some 34, some (30, false), .ld 1 false (.t 33)⟩,
    ⟨some 35, some (30, false), .lenV (.t 34)⟩,
    ⟨some 36, some (30, false), .bin .gtr (.t 35) (.c (.int .i64 300))⟩,
    ⟨some 37, none, .pick (.t 30) (.c (.bool true)) (.t 36)⟩] [0, 1, 2, 6, 37])
   (.cond (.t 37) (.region [⟨some 38, none, .mov (.t 6)⟩,
    ⟨some 39, none, .bin .rem (.t 38) (.c (.int .i64 3))⟩,
    ⟨some 6, none, .mov (.t 39)⟩] [0, 1, 2, 6]) (.skip)))
   (.seq (.region [⟨some 40, none, .mov (.t 1)⟩,
    ⟨some 41, none, .bin .eql (.t 40) (.c (.int .u8 127))⟩,
    ⟨some 7, none, .mov (.t 41)⟩] [0, 1, 2, 6, 7])
   (.block 0 (.seq (.region [⟨some 47, none, .mov (.t 6)⟩,
    ⟨some 48, none, .bin .eql (.t 47) (.c (.int .i64 0))⟩,
    ⟨some 46, none, .mov (.t 48)⟩] [0, 1, 2, 6, 7, 46])
   (.cond (.t 46) (.region [⟨some 49, none, .mov (.t 0)⟩,
    ⟨some 50, none, .mov (.t 1)⟩,
    ⟨some 51, none, .mov (.t 0)⟩,
    ⟨some 52, none, .call 41 [.t 51]⟩,
    ⟨some 53, none, .call 40 [.t 49, .t 50, .t 52]⟩] []) (.seq (.region [⟨some 55, none, .mov (.t 6)⟩,
    ⟨some 56, none, .bin .eql (.t 55) (.c (.int .i64 1))⟩,
    ⟨some 54, none, .mov (.t 56)⟩] [0, 1, 2, 6, 7, 54])
   (.cond (.t 54) (.seq (.region [⟨some 58, none, .mov (.t 0)⟩,
    ⟨some 59, none, .mov (.t 1)⟩,
    ⟨some 60, none, .call 42 [.t 58, .t 59]⟩,
    ⟨some 57, none, .mov (.t 60)⟩,
    ⟨some 61, none, .ext (.t 57) 0⟩,
    ⟨some 62, none, .ext (.t 57) 1⟩,
    ⟨some 8, none, .mov (.t 61)⟩,
    ⟨some 9, none, .mov (.t 62)⟩] [0, 1, 8, 9])
   (.seq (.region [⟨some 63, none, .mov (.t 9)⟩] [0, 1, 8, 63])
   (.cond (.t 63) (.region [⟨some 64, none, .mov (.t 0)⟩,
    ⟨some 65, none, .mov (.t 8)⟩,
    ⟨some 66, none, .call 43 [.t 64, .c (.int .i64 32), .t 65]⟩] []) (.region [⟨some 67, none, .mov (.t 0)⟩,
    ⟨some 68, none, .mov (.t 1)⟩,
    ⟨some 69, none, .call 40 [.t 67, .t 68, .c (.int .u64 5)]⟩] [])))) (.seq (.region [⟨some 71, none, .mov (.t 6)⟩,
    ⟨some 72, none, .bin .eql (.t 71) (.c (.int .i64 2))⟩,
    ⟨some 70, none, .mov (.t 72)⟩] [0, 1, 2, 6, 7, 70])
   (.cond (.t 70) (.seq (.region [⟨some 10, none, .mov (.c (.int .u32 0))⟩] [0, 7, 10])
   (.seq (.seq (.region [⟨some 73, none, .mov (.t 7)⟩,
    ⟨some 74, none, .un .not (.t 73)⟩] [0, 10, 74])
   (.cond (.t 74) (.region [⟨some 10, none, .mov (.c (.int .u32 1))⟩] [0, 10]) (.skip)))
   (.region [⟨some 75, none, .mov (.t 0)⟩,
    ⟨some 76, none, .mov (.t 10)⟩,
    ⟨some 77, none, .call 43 [.t 75, .c (.int .i64 35), .t 76]⟩] []))) (.seq (.region [⟨some 79, none, .mov (.t 6)⟩,
    ⟨some 80, none, .bin .lss (.t 79) (.c (.int .i64 7))⟩,
    ⟨some 78, none, .mov (.t 80)⟩] [0, 1, 2, 6, 7, 78])
   (.cond (.t 78) (.seq (.region [⟨some 81, none, .mov (.t 0)⟩,
    ⟨some 82, none, .mov (.t 1)⟩,
    ⟨some 83, none, .mov (.t 2)⟩,
    ⟨some 84, none, .bin .sub (.t 83) (.c (.int .i64 1))⟩,
    ⟨some 85, none, .call 22 [.t 81, .t 82, .t 84]⟩] [0, 1, 2, 7])
   (.seq (.region [⟨some 86, none, .mov (.t 0)⟩,
    ⟨some 87, none, .mov (.t 1)⟩,
    ⟨some 88, none, .mov (.t 2)⟩,
    ⟨some 89, none, .bin .sub (.t 88) (.c (.int .i64 1))⟩,
    ⟨some 90, none, .call 22 [.t 86, .t 87, .t 89]⟩] [0, 7])
   (.seq (.region [⟨some 91, none, .mov (.t 0)⟩,
    ⟨some 92, none, .nilc (.t 91)⟩,
    ⟨some 93, none, .fa 0 (.t 92)⟩,
    ⟨some 94, none, .ld 1 false (.t 93)⟩,
    ⟨some 95, none, .call 20 [.t 94, .c (.int .i64 15)]⟩,
    ⟨some 96, none, .bin .add (.c (.int .i64 106)) (.t 95)⟩,
    ⟨some 11, none, .mov (.t 96)⟩] [0, 7, 11])
   (.seq (.seq (.region [⟨some 97, none, .mov (.t 7)⟩,
    ⟨some 98, none, .un .not (.t 97)⟩] [0, 11, 98])
   (.cond (.t 98) (.region [⟨some 99, none, .mov (.t 11)⟩,
    ⟨some 100, none, .bin .add (.t 99) (.c (.int .i64 18))⟩,
    ⟨some 11, none, .mov (.t 100)⟩] [0, 11]) (.skip)))
   (.region [⟨some 101, none, .mov (.t 0)⟩,
    ⟨some 102, none, .mov (.t 11)⟩,
    ⟨some 103, none, .call 44 [.t 101, .t 102]⟩] []))))) (.seq (.region [⟨some 105, none, .mov (.t 6)⟩,
    ⟨some 106, none, .bin .eql (.t 105) (.c (.int .i64 7))⟩,
    ⟨some 104, none, .mov (.t 106)⟩] [0, 1, 2, 6, 7, 104])
   (.cond (.t 104) (.seq (.region [⟨some 107, none, .mov (.t 0)⟩,
    ⟨some 108, none, .mov (.t 1)⟩,
    ⟨some 109, none, .mov (.t 2)⟩,
    ⟨some 110, none, .bin .sub (.t 109) (.c (.int .i64 1))⟩,
    ⟨some 111, none, .call 22 [.t 107, .t 108, .t 110]⟩] [0, 7])
   (.seq (.region [⟨some 112, none, .bslice 5 1 [.int .i64 0] [(0, 1, .c (.int .i64 103)), (1, 1, .c (.int .i64 104)), (2, 1, .c (.int .i64 105)), (3, 1, .c (.int .i64 192)), (4, 1, .c (.int .i64 193))]⟩,
    ⟨some 113, none, .mov (.t 0)⟩,
    ⟨some 114, none, .nilc (.t 113)⟩,
    ⟨some 115, none, .fa 0 (.t 114)⟩,
    ⟨some 116, none, .ld 1 false (.t 115)⟩,
    ⟨some 117, none, .call 20 [.t 116, .c (.int .i64 5)]⟩,
    ⟨some 118, none, .iaV 1 (.t 112) (.t 117)⟩,
    ⟨some 119, none, .ld 1 false (.t 118)⟩,
    ⟨some 12, none, .mov (.t 119)⟩] [0, 7, 12])
   (.seq (.seq (.region [⟨some 120, none, .mov (.t 7)⟩,
    ⟨some 121, none, .un .not (.t 120)⟩] [0, 12, 121])
   (.cond (.t 121) (.region [⟨some 122, none, .bslice 5 1 [.int .i64 0] [(0, 1, .c (.int .i64 121)), (1, 1, .c (.int .i64 122)), (2, 1, .c (.int .i64 123)), (3, 1, .c (.int .i64 194)), (4, 1, .c (.int .i64 196))]⟩,
    ⟨some 123, none, .mov (.t 0)⟩,
    ⟨some 124, none, .nilc (.t 123)⟩,
    ⟨some 125, none, .fa 0 (.t 124)⟩,
    ⟨some 126, none, .ld 1 false (.t 125)⟩,
    ⟨some 127, none, .call 20 [.t 126, .c (.int .i64 5)]⟩,
    ⟨some 128, none, .iaV 1 (.t 122) (.t 127)⟩,
    ⟨some 129, none, .ld 1 false (.t 128)⟩,
    ⟨some 12, none, .mov (.t 129)⟩] [0, 12]) (.skip)))
   (.region [⟨some 130, none, .mov (.t 0)⟩,
    ⟨some 131, none, .mov (.t 12)⟩,
    ⟨some 132, none, .call 44 [.t 130, .t 131]⟩] [])))) (.seq (.region [⟨some 134, none, .mov (.t 6)⟩,
    ⟨some 135, none, .bin .eql (.t 134) (.c (.int .i64 8))⟩,
    ⟨some 133, none, .mov (.t 135)⟩] [0, 1, 2, 6, 7, 133])
   (.cond (.t 133) (.seq (.region [⟨some 136, none, .mov (.t 7)⟩] [0, 2, 136])
   (.cond (.t 136) (.seq (.region [⟨some 137, none, .bslice 2 1 [.int .u8 0] [(0, 1, .c (.int .u8 127)), (1, 1, .c (.int .u8 126))]⟩,
    ⟨some 138, none, .mov (.t 0)⟩,
    ⟨some 139, none, .nilc (.t 138)⟩,
    ⟨some 140, none, .fa 0 (.t 139)⟩,
    ⟨some 141, none, .ld 1 false (.t 140)⟩,
    ⟨some 142, none, .call 20 [.t 141, .c (.int .i64 2)]⟩,
    ⟨some 143, none, .iaV 1 (.t 137) (.t 142)⟩,
    ⟨some 144, none, .ld 1 false (.t 143)⟩,
    ⟨some 13, none, .mov (.t 144)⟩] [0, 2, 13])
   (.seq (.region [⟨some 145, none, .mov (.t 0)⟩,
    ⟨some 146, none, .mov (.t 13)⟩,
    ⟨some 147, none, .mov (.t 2)⟩,
    ⟨some 148, none, .bin .sub (.t 147) (.c (.int .i64 1))⟩,
    ⟨some 149, none, .call 22 [.t 145, .t 146, .t 148]⟩] [0, 2, 13])
   (.seq (.region [⟨some 150, none, .mov (.t 0)⟩,
    ⟨some 151, none, .mov (.t 13)⟩,
    ⟨some 152, none, .mov (.t 2)⟩,
    ⟨some 153, none, .bin .sub (.t 152) (.c (.int .i64 1))⟩,
    ⟨some 154, none, .call 22 [.t 150, .t 151, .t 153]⟩] [0, 13])
   (.seq (.region [⟨some 155, none, .mov (.t 0)⟩,
    ⟨some 156, none, .nilc (.t 155)⟩,
    ⟨some 157, none, .fa 0 (.t 156)⟩,
    ⟨some 158, none, .ld 1 false (.t 157)⟩,
    ⟨some 159, none, .call 20 [.t 158, .c (.int .i64 10)]⟩,
    ⟨some 160, none, .bin .add (.c (.int .i64 70)) (.t 159)⟩,
    ⟨some 14, none, .mov (.t 160)⟩] [0, 13, 14])
   (.seq (.seq (.region [⟨some 161, none, .mov (.t 13)⟩,
    ⟨some 162, none, .bin .eql (.t 161) (.c (.int .u8 126))⟩] [0, 14, 162])
   (.cond (.t 162) (.region [⟨some 163, none, .mov (.t 14)⟩,
    ⟨some 164, none, .bin .add (.t 163) (.c (.int .i64 11))⟩,
    ⟨some 14, none, .mov (.t 164)⟩] [0, 14]) (.skip)))
   (.region [⟨some 165, none, .mov (.t 0)⟩,
    ⟨some 166, none, .mov (.t 14)⟩,
    ⟨some 167, none, .call 44 [.t 165, .t 166]⟩] [])))))) (.seq (.region [⟨some 168, none, .mov (.t 0)⟩,
    ⟨some 169, none, .mov (.t 2)⟩,
    ⟨some 170, none, .bin .sub (.t 169) (.c (.int .i64 1))⟩,
    ⟨some 171, none, .call 22 [.t 168, .c (.int .u8 127), .t 170]⟩] [0])
   (.region [⟨some 172, none, .mov (.t 0)⟩,
    ⟨some 173, none, .mov (.t 0)⟩,
    ⟨some 174, none, .nilc (.t 173)⟩,
    ⟨some 175, none, .fa 0 (.t 174)⟩,
    ⟨some 176, none, .ld 1 false (.t 175)⟩,
    ⟨some 177, none, .call 20 [.t 176, .c (.int .i64 2)]⟩,
    ⟨some 178, none, .bin .add (.c (.int .i64 172)) (.t 177)⟩,
    ⟨some 179, none, .call 44 [.t 172, .t 178]⟩] [])))) (.seq (.region [⟨some 181, none, .mov (.t 6)⟩,
    ⟨some 182, none, .bin .eql (.t 181) (.c (.int .i64 9))⟩,
    ⟨some 180, none, .mov (.t 182)⟩] [0, 1, 2, 6, 7, 180])
   (.cond (.t 180) (.seq (.region [⟨some 183, none, .mov (.t 0)⟩,
    ⟨some 184, none, .mov (.t 2)⟩,
    ⟨some 185, none, .bin .sub (.t 184) (.c (.int .i64 1))⟩,
    ⟨some 186, none, .call 22 [.t 183, .c (.int .u8 127), .t 185]⟩] [0, 7])
   (.seq (.region [⟨some 187, none, .bslice 5 1 [.int .i64 0] [(0, 1, .c (.int .i64 40)), (1, 1, .c (.int .i64 44)), (2, 1, .c (.int .i64 45)), (3, 1, .c (.int .i64 46)), (4, 1, .c (.int .i64 47))]⟩,
    ⟨some 188, none, .mov (.t 0)⟩,
    ⟨some 189, none, .nilc (.t 188)⟩,
    ⟨some 190, none, .fa 0 (.t 189)⟩,
    ⟨some 191, none, .ld 1 false (.t 190)⟩,
    ⟨some 192, none, .call 20 [.t 191, .c (.int .i64 5)]⟩,
    ⟨some 193, none, .iaV 1 (.t 187) (.t 192)⟩,
    ⟨some 194, none, .ld 1 false (.t 193)⟩,
    ⟨some 15, none, .mov (.t 194)⟩] [0, 7, 15])
   (.seq (.seq (.region [⟨some 195, none, .mov (.t 7)⟩,
    ⟨some 196, none, .un .not (.t 195)⟩] [0, 15, 196])
   (.cond (.t 196) (.region [⟨some 197, none, .bslice 5 1 [.int .i64 0] [(0, 1, .c (.int .i64 41)), (1, 1, .c (.int .i64 48)), (2, 1, .c (.int .i64 49)), (3, 1, .c (.int .i64 50)), (4, 1, .c (.int .i64 52))]⟩,
    ⟨some 198, none, .mov (.t 0)⟩,
    ⟨some 199, none, .nilc (.t 198)⟩,
    ⟨some 200, none, .fa 0 (.t 199)⟩,
    ⟨some 201, none, .ld 1 false (.t 200)⟩,
    ⟨some 202, none, .call 20 [.t 201, .c (.int .i64 5)]⟩,
    ⟨some 203, none, .iaV 1 (.t 197) (.t 202)⟩,
    ⟨some 204, none, .ld 1 false (.t 203)⟩,
    ⟨some 15, none, .mov (.t 204)⟩] [0, 15]) (.skip)))
   (.region [⟨some 205, none, .mov (.t 0)⟩,
    ⟨some 206, none, .mov (.t 0)⟩,
    ⟨some 207, none, .nilc (.t 206)⟩,
    ⟨some 208, none, .fa 3 (.t 207)⟩,
    ⟨some 209, none, .ld 1 false (.t 208)⟩,
    ⟨some 210, none, .mov (.t 15)⟩,
    ⟨some 211, none, .mov (.t 0)⟩,
    ⟨some 212, none, .nilc (.t 211)⟩,
    ⟨some 213, none, .fa 0 (.t 212)⟩,
    ⟨some 214, none, .ld 1 false (.t 213)⟩,
    ⟨some 215, none, .call 20 [.t 214, .c (.int .i64 5)]⟩,
    ⟨none, none, .chk 1 false (.t 208) 209⟩,
    ⟨some 216, none, .conv .u32 (.t 215)⟩,
    ⟨some 217, none, .build [.int .i64 0, .int .u32 0, .int .u32 0, .int .u64 0, .slice none 0 0, .int .i64 0] [(0, 1, .t 210), (2, 1, .t 216)]⟩,
    ⟨some 218, none, .bslice 1 6 [.int .i64 0, .int .u32 0, .int .u32 0, .int .u64 0, .slice none 0 0, .int .i64 0] [(0, 6, .t 217)]⟩,
    ⟨some 219, none, .app 6 56 (.t 209) (.t 218)⟩,
    ⟨some 220, none, .nilc (.t 205)⟩,
    ⟨some 221, none, .fa 3 (.t 220)⟩,
    ⟨none, none, .st 1 (.t 221) (.t 219)⟩] [])))) (.seq (.region [⟨some 223, none, .mov (.t 6)⟩,
    ⟨some 224, none, .bin .eql (.t 223) (.c (.int .i64 10))⟩,
    ⟨some 222, none, .mov (.t 224)⟩] [0, 1, 2, 6, 7, 222])
   (.cond (.t 222) (.seq (.region [⟨some 225, none, .mov (.t 0)⟩,
    ⟨some 226, none, .mov (.t 1)⟩,
    ⟨some 227, none, .mov (.t 2)⟩,
    ⟨some 228, none, .bin .sub (.t 227) (.c (.int .i64 1))⟩,
    ⟨some 229, none, .call 22 [.t 225, .t 226, .t 228]⟩] [0, 1, 2])
   (.seq (.region [⟨some 230, none, .mov (.t 0)⟩,
    ⟨some 231, none, .mov (.t 1)⟩,
    ⟨some 232, none, .mov (.t 2)⟩,
    ⟨some 233, none, .bin .sub (.t 232) (.c (.int .i64 1))⟩,
    ⟨some 234, none, .call 22 [.t 230, .t 231, .t 233]⟩] [0, 2])
   (.seq (.region [⟨some 235, none, .mov (.t 0)⟩,
    ⟨some 236, none, .mov (.t 2)⟩,
    ⟨some 237, none, .bin .sub (.t 236) (.c (.int .i64 1))⟩,
    ⟨some 238, none, .call 22 [.t 235, .c (.int .u8 127), .t 237]⟩] [0])
   (.region [⟨some 239, none, .mov (.t 0)⟩,
    ⟨some 240, none, .call 44 [.t 239, .c (.int .i64 27)]⟩] [])))) (.seq (.region [⟨some 242, none, .mov (.t 6)⟩,
    ⟨some 243, none, .bin .eql (.t 242) (.c (.int .i64 11))⟩,
    ⟨some 241, none, .mov (.t 243)⟩] [0, 1, 2, 6, 7, 241])
   (.cond (.t 241) (.region [⟨some 244, none, .mov (.t 0)⟩,
    ⟨some 245, none, .mov (.t 1)⟩,
    ⟨some 246, none, .mov (.t 2)⟩,
    ⟨some 247, none, .call 45 [.t 244, .c (.int .i64 2), .t 245, .t 246]⟩] []) (.seq (.region [⟨some 249, none, .mov (.t 6)⟩,
    ⟨some 250, none, .bin .eql (.t 249) (.c (.int .i64 12))⟩,
    ⟨some 248, none, .mov (.t 250)⟩] [0, 1, 2, 6, 7, 248])
   (.cond (.t 248) (.seq (.region [⟨some 251, none, .mov (.t 0)⟩,
    ⟨some 252, none, .mov (.t 2)⟩,
    ⟨some 253, none, .bin .sub (.t 252) (.c (.int .i64 1))⟩,
    ⟨some 254, none, .call 22 [.t 251, .c (.int .u8 127), .t 253]⟩] [0, 1, 2])
   (.region [⟨some 255, none, .mov (.t 0)⟩,
    ⟨some 256, none, .mov (.t 1)⟩,
    ⟨some 257, none, .mov (.t 2)⟩,
    ⟨some 258, none, .call 45 [.t 255, .c (.int .i64 4), .t 256, .t 257]⟩] [])) (.seq (.region [⟨some 260, none, .mov (.t 6)⟩,
    ⟨some 261, none, .bin .eql (.t 260) (.c (.int .i64 13))⟩,
    ⟨some 259, none, .mov (.t 261)⟩] [0, 1, 2, 6, 7, 259])
   (.cond (.t 259) (.seq (.region [⟨some 262, none, .mov (.t 7)⟩] [0, 1, 2, 262])
   (.cond (.t 262) (.seq (.region [⟨some 263, none, .mov (.t 0)⟩,
    ⟨some 264, none, .mov (.t 2)⟩,
    ⟨some 265, none, .bin .sub (.t 264) (.c (.int .i64 1))⟩,
    ⟨some 266, none, .call 22 [.t 263, .c (.int .u8 126), .t 265]⟩] [0])
   (.region [⟨some 267, none, .mov (.t 0)⟩,
    ⟨some 268, none, .call 44 [.t 267, .c (.int .i64 167)]⟩] [])) (.region [⟨some 269, none, .mov (.t 0)⟩,
    ⟨some 270, none, .mov (.t 1)⟩,
    ⟨some 271, none, .call 40 [.t 269, .t 270, .c (.int .u64 9)]⟩] []))) (.seq (.region [⟨some 273, none, .mov (.t 6)⟩,
    ⟨some 274, none, .bin .eql (.t 273) (.c (.int .i64 14))⟩,
    ⟨some 272, none, .mov (.t 274)⟩] [0, 1, 2, 272])
   (.cond (.t 272) (.region [⟨some 275, none, .mov (.t 0)⟩,
    ⟨some 276, none, .mov (.t 1)⟩,
    ⟨some 277, none, .mov (.t 2)⟩,
    ⟨some 278, none, .call 46 [.t 275, .t 276, .t 277]⟩] []) (.region [⟨some 42, none, .mov (.t 0)⟩,
    ⟨some 43, none, .mov (.t 1)⟩,
    ⟨some 44, none, .mov (.t 2)⟩,
    ⟨some 45, none, .call 47 [.t 42, .t 43, .t 44]⟩] [])))))))))))))))))))))))))))),
  [], 279, 3⟩
def A22 : Ann := ⟨[(0, [0, 1, 2, 6]), (1, [0, 1, 2, 6, 37]), (2, [0, 1, 2, 6]), (3, [0, 1, 2, 6, 7]), (4, []), (5, [0, 1, 2, 6, 7, 46]), (6, []), (7, [0, 1, 2, 6, 7, 54]), (8, [0, 1, 8, 9]), (9, [0, 1, 8, 63]), (10, []), (11, []), (12, [0, 1, 2, 6, 7, 70]), (13, [0, 7, 10]), (14, [0, 10, 74]), (15, [0, 10]), (16, []), (17, [0, 1, 2, 6, 7, 78]), (18, [0, 1, 2, 7]), (19, [0, 7]), (20, [0, 7, 11]), (21, [0, 11, 98]), (22, [0, 11]), (23, []), (24, [0, 1, 2, 6, 7, 104]), (25, [0, 7]), (26, [0, 7, 12]), (27, [0, 12, 121]), (28, [0, 12]), (29, []), (30, [0, 1, 2, 6, 7, 133]), (31, [0, 2, 136]), (32, [0, 2, 13]), (33, [0, 2, 13]), (34, [0, 13]), (35, [0, 13, 14]), (36, [0, 14, 162]), (37, [0, 14]), (38, []), (39, [0]), (40, []), (41, [0, 1, 2, 6, 7, 180]), (42, [0, 7]), (43, [0, 7, 15]), (44, [0, 15, 196]), (45, [0, 15]), (46, []), (47, [0, 1, 2, 6, 7, 222]), (48, [0, 1, 2]), (49, [0, 2]), (50, [0]), (51, []), (52, [0, 1, 2, 6, 7, 241]), (53, []), (54, [0, 1, 2, 6, 7, 248]), (55, [0, 1, 2]), (56, []), (57, [0, 1, 2, 6, 7, 259]), (58, [0, 1, 2, 262]), (59, [0]), (60, []), (61, []), (62, [0, 1, 2, 272]), (63, [])], [(46, [(0, []), (1, []), (2, []), (3, []), (4, []), (5, []), (6, []), (7, []), (8, []), (9, []), (10, [4]), (11, []), (12, []), (13, []), (14, []), (15, []), (16, []), (17, [])], [(2, [1]), (3, [1, 2]), (4, [1, 2, 3]), (7, [6]), (8, [6, 7]), (9, [6, 7, 8]), (10, [6, 7, 8, 9]), (11, [6, 7, 8, 9, 10]), (12, [5, 6, 7, 8, 9, 10, 11]), (13, [5, 6, 7, 8, 9, 10, 11, 12]), (14, [1, 2, 3, 4, 5, 6, 7, 8, 9, 10, 11, 12, 13]), (15, [0, 1, 2, 3, 4, 5, 6, 7, 8, 9, 10, 11, 12, 13, 14]), (16, [0, 1, 2, 3, 4, 5, 6, 7, 8, 9, 10, 11, 12, 13, 14, 15]), (17, [0, 1, 2, 3, 4, 5, 6, 7, 8, 9, 10, 11, 12, 13, 14, 15, 16])])]⟩
set_option maxRecDepth 100000 in
theorem F22.ok : compF Try.prog A22 Try.f22 = some F22 := by kernel_rfl
theorem F22.fok : FOk Try.prog 22 F22 := fok_of mixed Try.func22 F22.ok

/-- (*cloakroom/inst.maker).room -/
def F23 : SFn := ⟨.seq (.seq (.region [⟨some 5, none, .mov (.t 0)⟩,
    ⟨some 6, none, .nilc (.t 5)⟩,
    ⟨some 7, none, .fa 0 (.t 6)⟩,
    ⟨some 8, none, .fa 0 (.t 7)⟩,
    ⟨some 9, none, .fa 3 (.t 8)⟩,
    ⟨some 10, none, .ld 1 false (.t 9)⟩,
    ⟨some 2, none, .mov (.t 10)⟩] [0, 2])
   (.seq (.region [⟨some 11, none, .mov (.t 2)⟩,
    ⟨some 12, none, .lenV (.t 11)⟩,
    ⟨some 13, none, .bin .gtr (.t 12) (.c (.int .i64 0))⟩,
    ⟨some 14, none, .mov (.t 13)⟩,
    ⟨some 15, some (14, true), .mov (.t 2)⟩,
    ⟨some 16, some (14, true), .iaV 3 (.t 15) (.c (.int .i64 0))⟩,
    ⟨some 17, some (14, true), .fa 0 (.t 16)⟩,
    ⟨some 18, some (14, true), .ld 1 false (.t 17)⟩,
    ⟨some 19, some (14, true), .bin .gtr (.t 18) (.c (.int .u32 1))⟩,
    ⟨some 20, none, .pick (.t 14) (.t 19) (.c (.bool false))⟩] [0, 2, 20])
   (.cond (.t 20) (.region [⟨some 21, none, .mov (.t 0)⟩,
    ⟨some 22, none, .nilc (.t 21)⟩,
    ⟨some 23, none, .fa 19 (.t 22)⟩,
    ⟨none, none, .st 1 (.t 23) (.c (.int .i64 8))⟩] [0]) (.seq (.region [⟨some 24, none, .mov (.t 2)⟩,
    ⟨some 25, none, .lenV (.t 24)⟩,
    ⟨some 26, none, .bin .gtr (.t 25) (.c (.int .i64 0))⟩] [0, 2, 26])
   (.cond (.t 26) (.region [⟨some 27, none, .mov (.t 0)⟩,
    ⟨some 28, none, .mov (.t 2)⟩,
    ⟨some 29, none, .iaV 3 (.t 28) (.c (.int .i64 0))⟩,
    ⟨some 30, none, .fa 0 (.t 29)⟩,
    ⟨some 31, none, .ld 1 false (.t 30)⟩,
    ⟨some 32, none, .conv .i64 (.t 31)⟩,
    ⟨some 33, none, .bin .mul (.t 32) (.c (.int .i64 65536))⟩,
    ⟨some 34, none, .mkSl 1 1 [.int .u8 0] (.t 33) (.t 33)⟩,
    ⟨some 35, none, .nilc (.t 27)⟩,
    ⟨some 36, none, .fa 0 (.t 35)⟩,
    ⟨some 37, none, .fa 14 (.t 36)⟩,
    ⟨none, none, .st 1 (.t 37) (.t 34)⟩] [0]) (.skip))))))
   (.seq (.region [⟨some 38, none, .mov (.t 0)⟩,
    ⟨some 39, none, .nilc (.t 38)⟩,
    ⟨some 40, none, .fa 0 (.t 39)⟩,
    ⟨some 41, none, .fa 0 (.t 40)⟩,
    ⟨some 42, none, .fa 2 (.t 41)⟩,
    ⟨some 43, none, .ld 1 false (.t 42)⟩,
    ⟨some 44, none, .lenV (.t 43)⟩,
    ⟨some 45, none, .mov (.c (.int .i64 0))⟩] [0, 43, 44, 45])
   (.block 0 (.loop (.seq (.region [⟨some 46, none, .bin .lss (.t 45) (.t 44)⟩] [0, 43, 44, 45, 46])
   (.seq (.cond (.t 46) (.skip) (.exit 0))
   (.seq (.block 1 (.seq (.region [⟨some 47, none, .iaV 4 (.t 43) (.t 45)⟩,
    ⟨some 48, none, .ld 4 true (.t 47)⟩,
    ⟨some 4, none, .new [.int .u8 0, .int .u32 0, .int .u32 0, .bool false]⟩,
    ⟨none, none, .st 4 (.t 4) (.t 48)⟩] [0, 4, 43, 44, 45])
   (.seq (.seq (.region [⟨some 49, none, .fa 1 (.t 4)⟩,
    ⟨some 50, none, .fa 0 (.t 49)⟩,
    ⟨some 51, none, .ld 1 false (.t 50)⟩,
    ⟨some 52, none, .bin .gtr (.t 51) (.c (.int .u32 64))⟩] [0, 4, 43, 44, 45, 52])
   (.cond (.t 52) (.seq (.region [⟨some 53, none, .mov (.t 0)⟩,
    ⟨some 54, none, .nilc (.t 53)⟩,
    ⟨some 55, none, .fa 19 (.t 54)⟩,
    ⟨none, none, .st 1 (.t 55) (.c (.int .i64 8))⟩] [0, 43, 44, 45])
   (.exit 1)) (.skip)))
   (.region [⟨some 56, none, .mov (.t 0)⟩,
    ⟨some 57, none, .mov (.t 0)⟩,
    ⟨some 58, none, .nilc (.t 57)⟩,
    ⟨some 59, none, .fa 0 (.t 58)⟩,
    ⟨some 60, none, .fa 15 (.t 59)⟩,
    ⟨some 61, none, .ld 1 false (.t 60)⟩,
    ⟨some 62, none, .fa 1 (.t 4)⟩,
    ⟨some 63, none, .fa 0 (.t 62)⟩,
    ⟨some 64, none, .ld 1 false (.t 63)⟩,
    ⟨some 65, none, .mkSl 1 8 [.int .u64 0] (.t 64) (.t 64)⟩,
    ⟨some 66, none, .bslice 1 1 [.slice none 0 0] [(0, 1, .t 65)]⟩,
    ⟨some 67, none, .app 1 24 (.t 61) (.t 66)⟩,
    ⟨some 68, none, .nilc (.t 56)⟩,
    ⟨some 69, none, .fa 0 (.t 68)⟩,
    ⟨some 70, none, .fa 15 (.t 69)⟩,
    ⟨none, none, .st 1 (.t 70) (.t 67)⟩] [0, 43, 44, 45]))))
   (.region [⟨some 71, none, .bin .add (.t 45) (.c (.int .i64 1))⟩,
    ⟨some 45, none, .mov (.t 71)⟩] [0, 43, 44, 45]))))))),
  [], 72, 1⟩
def A23 : Ann := ⟨[(0, [0, 2]), (1, [0, 2, 20]), (2, [0]), (3, [0, 2, 26]), (4, [0]), (5, [0, 43, 44, 45]), (6, [0, 43, 44, 45, 46]), (7, [0, 4, 43, 44, 45]), (8, [0, 4, 43, 44, 45, 52]), (9, [0, 43, 44, 45]), (10, [0, 43, 44, 45]), (11, [0, 43, 44, 45])], [(10, [(0, []), (1, []), (2, []), (3, []), (4, []), (5, []), (6, []), (7, []), (8, []), (9, []), (10, []), (11, []), (12, []), (13, []), (14, []), (15, [])], [(2, [1]), (3, [1, 2]), (4, [1, 2, 3]), (5, [1, 2, 3, 4]), (7, [6]), (8, [6, 7]), (9, [6, 7, 8]), (10, [6, 7, 8, 9]), (11, [1, 2, 3, 4, 5, 6, 7, 8, 9, 10]), (12, [0, 1, 2, 3, 4, 5, 6, 7, 8, 9, 10, 11]), (13, [0, 1, 2, 3, 4, 5, 6, 7, 8, 9, 10, 11, 12]), (14, [0, 1, 2, 3, 4, 5, 6, 7, 8, 9, 10, 11, 12, 13]), (15, [0, 1, 2, 3, 4, 5, 6, 7, 8, 9, 10, 11, 12, 13, 14])])]⟩
set_option maxRecDepth 100000 in
theorem F23.ok : compF Try.prog A23 Try.f23 = some F23 := by kernel_rfl
theorem F23.fok : FOk Try.prog 23 F23 := fok_of mixed Try.func23 F23.ok

/-- (*cloakroom/inst.maker).blocks -/
def F24 : SFn := ⟨.seq (.region [⟨some 6, none, .mov (.t 0)⟩,
    ⟨some 7, none, .nilc (.t 6)⟩,
    ⟨some 8, none, .fa 0 (.t 7)⟩,
    ⟨some 9, none, .fa 0 (.t 8)⟩,
    ⟨some 10, none, .fa 11 (.t 9)⟩,
    ⟨some 11, none, .ld 1 false (.t 10)⟩,
    ⟨some 12, none, .lenV (.t 11)⟩,
    ⟨some 13, none, .mov (.c (.int .i64 0))⟩] [0, 11, 12, 13])
   (.block 0 (.loop (.seq (.region [⟨some 14, none, .bin .lss (.t 13) (.t 12)⟩] [0, 11, 12, 13, 14])
   (.seq (.cond (.t 14) (.skip) (.exit 0))
   (.seq (.block 1 (.seq (.region [⟨some 15, none, .iaV 2 (.t 11) (.t 13)⟩,
    ⟨some 16, none, .ld 2 true (.t 15)⟩,
    ⟨some 3, none, .new [.slice none 0 0, .slice none 0 0]⟩,
    ⟨none, none, .st 2 (.t 3) (.t 16)⟩] [0, 3, 11, 12, 13])
   (.seq (.region [⟨some 18, none, .fa 1 (.t 3)⟩,
    ⟨some 19, none, .ld 1 false (.t 18)⟩,
    ⟨some 20, none, .call 48 [.t 19]⟩,
    ⟨some 17, none, .mov (.t 20)⟩,
    ⟨some 21, none, .ext (.t 17) 0⟩,
    ⟨some 22, none, .ext (.t 17) 1⟩,
    ⟨some 4, none, .mov (.t 21)⟩,
    ⟨some 5, none, .mov (.t 22)⟩] [0, 4, 5, 11, 12, 13])
   (.seq (.seq (.region [⟨some 23, none, .mov (.t 5)⟩,
    ⟨some 24, none, .un .not (.t 23)⟩,
    ⟨some 25, none, .mov (.t 24)⟩,
    ⟨some 26, some (25, true), .mov (.t 0)⟩,
    ⟨some 27, some (25, true), .nilc (.t 26)⟩,
    ⟨some 28, some (25, true), .fa 19 (.t 27)⟩,
    ⟨some 29, some (25, true), .ld 1 false (.t 28)⟩,
    ⟨some 30, some (25, true), .bin .eql (.t 29) (.c (.int .i64 0))⟩,
    ⟨some 31, none, .pick (.t 25) (.t 30) (.c (.bool false))⟩] [0, 4, 11, 12, 13, 31])
   (.cond (.t 31) (.region [⟨some 32, none, .mov (.t 0)⟩,
    ⟨some 33, none, .nilc (.t 32)⟩,
    ⟨some 34, none, .fa 19 (.t 33)⟩,
    ⟨none, none, .st 1 (.t 34) (.c (.int .i64 2))⟩] [0, 4, 11, 12, 13]) (.skip)))
   (.region [⟨some 35, none, .mov (.t 0)⟩,
    ⟨some 36, none, .mov (.t 0)⟩,
    ⟨some 37, none, .nilc (.t 36)⟩,
    ⟨some 38, none, .fa 0 (.t 37)⟩,
    ⟨some 39, none, .fa 13 (.t 38)⟩,
    ⟨some 40, none, .ld 1 false (.t 39)⟩,
    ⟨some 41, none, .mov (.t 4)⟩,
    ⟨some 42, none, .bslice 1 1 [.map none] [(0, 1, .t 41)]⟩,
    ⟨some 43, none, .app 1 8 (.t 40) (.t 42)⟩,
    ⟨some 44, none, .nilc (.t 35)⟩,
    ⟨some 45, none, .fa 0 (.t 44)⟩,
    ⟨some 46, none, .fa 13 (.t 45)⟩,
    ⟨none, none, .st 1 (.t 46) (.t 43)⟩] [0, 11, 12, 13])))))
   (.region [⟨some 47, none, .bin .add (.t 13) (.c (.int .i64 1))⟩,
    ⟨some 13, none, .mov (.t 47)⟩] [0, 11, 12, 13])))))),
  [], 48, 1⟩
def A24 : Ann := ⟨[(0, [0, 11, 12, 13]), (1, [0, 11, 12, 13, 14]), (2, [0, 3, 11, 12, 13]), (3, [0, 4, 5, 11, 12, 13]), (4, [0, 4, 11, 12, 13, 31]), (5, [0, 4, 11, 12, 13]), (6, [0, 11, 12, 13]), (7, [0, 11, 12, 13])], []⟩
set_option maxRecDepth 100000 in
theorem F24.ok : compF Try.prog A24 Try.f24 = some F24 := by kernel_rfl
theorem F24.fok : FOk Try.prog 24 F24 := fok_of mixed Try.func24 F24.ok

/-- cloakroom/inst.Value -/
def F25 : SFn := ⟨.seq (.region [⟨some 2, none, .mov (.c (.int .u64 0))⟩] [0])
   (.seq (.seq (.region [⟨some 4, none, .mov (.t 0)⟩,
    ⟨some 5, none, .lenV (.t 4)⟩,
    ⟨some 6, none, .bin .eql (.t 5) (.c (.int .i64 0))⟩] [0, 6])
   (.cond (.t 6) (.seq (.region [⟨some 2, none, .mov (.c (.int .u64 0))⟩] [2])
   (.ret)) (.skip)))
   (.seq (.seq (.region [⟨some 7, none, .mov (.t 0)⟩,
    ⟨some 8, none, .iaV 6 (.t 7) (.c (.int .i64 0))⟩,
    ⟨some 9, none, .ld 6 true (.t 8)⟩,
    ⟨some 3, none, .new [.int .i64 0, .int .u32 0, .int .u32 0, .int .u64 0, .slice none 0 0, .int .i64 0]⟩,
    ⟨none, none, .st 6 (.t 3) (.t 9)⟩] [3])
   (.seq (.region [⟨some 10, none, .fa 0 (.t 3)⟩,
    ⟨some 11, none, .ld 1 false (.t 10)⟩] [3, 11])
   (.block 0 (.seq (.seq (.region [⟨some 13, none, .bin .eql (.t 11) (.c (.int .i64 65))⟩,
    ⟨some 12, none, .mov (.t 13)⟩] [3, 11, 12])
   (.cond (.t 12) (.skip) (.region [⟨some 14, none, .bin .eql (.t 11) (.c (.int .i64 66))⟩,
    ⟨some 12, none, .mov (.t 14)⟩] [3, 11, 12])))
   (.cond (.t 12) (.seq (.region [⟨some 15, none, .fa 3 (.t 3)⟩,
    ⟨some 16, none, .ld 1 false (.t 15)⟩,
    ⟨some 2, none, .mov (.t 16)⟩] [2])
   (.ret)) (.seq (.region [⟨some 18, none, .bin .eql (.t 11) (.c (.int .i64 210))⟩,
    ⟨some 17, none, .mov (.t 18)⟩] [3, 17])
   (.cond (.t 17) (.seq (.region [⟨some 19, none, .fa 1 (.t 3)⟩,
    ⟨some 20, none, .ld 1 false (.t 19)⟩,
    ⟨some 21, none, .conv .u64 (.t 20)⟩,
    ⟨some 22, none, .bin .add (.t 21) (.c (.int .u64 1))⟩,
    ⟨some 2, none, .mov (.t 22)⟩] [2])
   (.ret)) (.skip))))))))
   (.seq (.region [⟨some 2, none, .mov (.c (.int .u64 0))⟩] [2])
   (.ret)))),
  [.t 2], 23, 1⟩
def A25 : Ann := ⟨[(0, [0]), (1, [0, 6]), (2, [2]), (3, [3]), (4, [3, 11]), (5, [3, 11, 12]), (6, [3, 11, 12]), (7, [2]), (8, [3, 17]), (9, [2]), (10, [2])], []⟩
set_option maxRecDepth 100000 in
theorem F25.ok : compF Try.prog A25 Try.f25 = some F25 := by kernel_rfl
theorem F25.fok : FOk Try.prog 25 F25 := fok_of mixed Try.func25 F25.ok

/-- cloakroom/cloakroomref10.Blocks -/
def F26 : SFn := ⟨.seq (.region [⟨some 2, none, .mov (.c (.map none))⟩,
    ⟨some 3, none, .mov (.c (.bool false))⟩] [0])
   (.seq (.region [⟨some 12, none, .mkMap⟩,
    ⟨some 4, none, .mov (.t 12)⟩] [0, 4])
   (.seq (.region [⟨some 5, none, .mov (.c (.slice none 0 0))⟩] [0, 4, 5])
   (.seq (.seq (.region [⟨some 6, none, .mov (.c (.int .i64 0))⟩] [0, 4, 5, 6])
   (.block 0 (.loop (.seq (.seq (.region [⟨some 13, none, .mov (.t 6)⟩,
    ⟨some 14, none, .mov (.t 0)⟩,
    ⟨some 15, none, .lenV (.t 14)⟩,
    ⟨some 16, none, .bin .lss (.t 13) (.t 15)⟩] [0, 4, 5, 6, 16])
   (.cond (.t 16) (.skip) (.exit 0)))
   (.seq (.block 1 (.seq (.region [⟨some 19, none, .mov (.t 0)⟩,
    ⟨some 20, none, .mov (.t 6)⟩,
    ⟨some 21, none, .iaV 6 (.t 19) (.t 20)⟩,
    ⟨some 22, none, .fa 0 (.t 21)⟩,
    ⟨some 23, none, .ld 1 false (.t 22)⟩,
    ⟨some 7, none, .mov (.t 23)⟩] [0, 4, 5, 6, 7])
   (.block 2 (.seq (.region [⟨some 25, none, .mov (.t 7)⟩,
    ⟨some 26, none, .bin .geq (.t 25) (.c (.int .i64 2))⟩,
    ⟨some 27, none, .mov (.t 26)⟩,
    ⟨some 28, some (27, true), .mov (.t 7)⟩,
    ⟨some 29, some (27, true), .bin .leq (.t 28) (.c (.int .i64 4))⟩,
    ⟨some 30, none, .pick (.t 27) (.t 29) (.c (.bool false))⟩,
    ⟨some 24, none, .mov (.t 30)⟩] [0, 4, 5, 6, 7, 24])
   (.cond (.t 24) (.seq (.region [⟨some 31, none, .mov (.t 5)⟩,
    ⟨some 32, none, .mov (.t 6)⟩,
    ⟨some 33, none, .bslice 1 1 [.int .i64 0] [(0, 1, .t 32)]⟩,
    ⟨some 34, none, .app 1 8 (.t 31) (.t 33)⟩,
    ⟨some 5, none, .mov (.t 34)⟩] [0, 4, 5, 6])
   (.region [⟨some 35, none, .mov (.t 4)⟩,
    ⟨some 36, none, .mov (.t 6)⟩,
    ⟨some 37, none, .build [.int .i64 0, .int .i64 0] [(0, 1, .c (.int .i64 (-1))), (1, 1, .c (.int .i64 (-1)))]⟩,
    ⟨none, none, .mput false (.t 35) (.t 36) (.t 37)⟩] [0, 4, 5, 6])) (.seq (.region [⟨some 39, none, .mov (.t 7)⟩,
    ⟨some 40, none, .bin .eql (.t 39) (.c (.int .i64 5))⟩,
    ⟨some 38, none, .mov (.t 40)⟩] [0, 4, 5, 6, 7, 38])
   (.cond (.t 38) (.seq (.seq (.region [⟨some 41, none, .mov (.t 5)⟩,
    ⟨some 42, none, .lenV (.t 41)⟩,
    ⟨some 43, none, .bin .eql (.t 42) (.c (.int .i64 0))⟩] [0, 4, 5, 6, 43])
   (.cond (.t 43) (.seq (.region [⟨some 2, none, .mov (.c (.map none))⟩,
    ⟨some 3, none, .mov (.c (.bool false))⟩] [2, 3])
   (.ret)) (.skip)))
   (.seq (.region [⟨some 44, none, .mov (.t 5)⟩,
    ⟨some 45, none, .mov (.t 5)⟩,
    ⟨some 46, none, .lenV (.t 45)⟩,
    ⟨some 47, none, .bin .sub (.t 46) (.c (.int .i64 1))⟩,
    ⟨some 48, none, .iaV 1 (.t 44) (.t 47)⟩,
    ⟨some 49, none, .ld 1 false (.t 48)⟩,
    ⟨some 8, none, .mov (.t 49)⟩] [0, 4, 5, 6, 8])
   (.seq (.region [⟨some 50, none, .mov (.t 4)⟩,
    ⟨some 51, none, .mov (.t 8)⟩,
    ⟨some 52, none, .look false (.agg ⟨[.int .i64 0, .int .i64 0]⟩) false (.t 50) (.t 51)⟩,
    ⟨some 9, none, .new [.int .i64 0, .int .i64 0]⟩,
    ⟨none, none, .st 2 (.t 9) (.t 52)⟩] [0, 4, 5, 6, 8, 9])
   (.seq (.seq (.region [⟨some 53, none, .mov (.t 0)⟩,
    ⟨some 54, none, .mov (.t 8)⟩,
    ⟨some 55, none, .iaV 6 (.t 53) (.t 54)⟩,
    ⟨some 56, none, .fa 0 (.t 55)⟩,
    ⟨some 57, none, .ld 1 false (.t 56)⟩,
    ⟨some 58, none, .bin .neq (.t 57) (.c (.int .i64 4))⟩,
    ⟨some 59, none, .mov (.t 58)⟩,
    ⟨some 60, some (59, false), .fa 0 (.t 9)⟩,
    ⟨some 61, some (59, false), .ld 1 false (.t 60)⟩,
    ⟨some 62, some (59, false), .bin .geq (.t 61) (.c (.int .i64 0))⟩,
    ⟨some 63, none, .pick (.t 59) (.c (.bool true)) (.t 62)⟩] [0, 4, 5, 6, 8, 9, 63])
   (.cond (.t 63) (.seq (.region [⟨some 2, none, .mov (.c (.map none))⟩,
    ⟨some 3, none, .mov (.c (.bool false))⟩] [2, 3])
   (.ret)) (.skip)))
   (.seq (.region [⟨some 64, none, .mov (.t 6)⟩,
    ⟨some 65, none, .fa 0 (.t 9)⟩,
    ⟨none, none, .st 1 (.t 65) (.t 64)⟩] [0, 4, 5, 6, 8, 9])
   (.region [⟨some 66, none, .mov (.t 4)⟩,
    ⟨some 67, none, .mov (.t 8)⟩,
    ⟨some 68, none, .ld 2 true (.t 9)⟩,
    ⟨none, none, .mput false (.t 66) (.t 67) (.t 68)⟩] [0, 4, 5, 6])))))) (.seq (.region [⟨some 70, none, .mov (.t 7)⟩,
    ⟨some 71, none, .bin .eql (.t 70) (.c (.int .i64 11))⟩,
    ⟨some 69, none, .mov (.t 71)⟩] [0, 4, 5, 6, 69])
   (.cond (.t 69) (.seq (.seq (.region [⟨some 72, none, .mov (.t 5)⟩,
    ⟨some 73, none, .lenV (.t 72)⟩,
    ⟨some 74, none, .bin .eql (.t 73) (.c (.int .i64 0))⟩] [0, 4, 5, 6, 74])
   (.cond (.t 74) (.seq (.seq (.region [⟨some 75, none, .mov (.t 6)⟩,
    ⟨some 76, none, .mov (.t 0)⟩,
    ⟨some 77, none, .lenV (.t 76)⟩,
    ⟨some 78, none, .bin .sub (.t 77) (.c (.int .i64 1))⟩,
    ⟨some 79, none, .bin .neq (.t 75) (.t 78)⟩] [4, 79])
   (.cond (.t 79) (.seq (.region [⟨some 2, none, .mov (.c (.map none))⟩,
    ⟨some 3, none, .mov (.c (.bool false))⟩] [2, 3])
   (.ret)) (.skip)))
   (.seq (.region [⟨some 80, none, .mov (.t 4)⟩,
    ⟨some 2, none, .mov (.t 80)⟩,
    ⟨some 3, none, .mov (.c (.bool true))⟩] [2, 3])
   (.ret))) (.skip)))
   (.seq (.region [⟨some 81, none, .mov (.t 5)⟩,
    ⟨some 82, none, .mov (.t 5)⟩,
    ⟨some 83, none, .lenV (.t 82)⟩,
    ⟨some 84, none, .bin .sub (.t 83) (.c (.int .i64 1))⟩,
    ⟨some 85, none, .iaV 1 (.t 81) (.t 84)⟩,
    ⟨some 86, none, .ld 1 false (.t 85)⟩,
    ⟨some 10, none, .mov (.t 86)⟩] [0, 4, 5, 6, 10])
   (.seq (.region [⟨some 87, none, .mov (.t 4)⟩,
    ⟨some 88, none, .mov (.t 10)⟩,
    ⟨some 89, none, .look false (.agg ⟨[.int .i64 0, .int .i64 0]⟩) false (.t 87) (.t 88)⟩,
    ⟨some 11, none, .new [.int .i64 0, .int .i64 0]⟩,
    ⟨none, none, .st 2 (.t 11) (.t 89)⟩] [0, 4, 5, 6, 10, 11])
   (.seq (.region [⟨some 90, none, .mov (.t 6)⟩,
    ⟨some 91, none, .fa 1 (.t 11)⟩,
    ⟨none, none, .st 1 (.t 91) (.t 90)⟩] [0, 4, 5, 6, 10, 11])
   (.seq (.region [⟨some 92, none, .mov (.t 4)⟩,
    ⟨some 93, none, .mov (.t 10)⟩,
    ⟨some 94, none, .ld 2 true (.t 11)⟩,
    ⟨none, none, .mput false (.t 92) (.t 93) (.t 94)⟩] [0, 4, 5, 6])
   (.region [⟨some 95, none, .mov (.t 5)⟩,
    ⟨some 96, none, .mov (.t 5)⟩,
    ⟨some 97, none, .lenV (.t 96)⟩,
    ⟨some 98, none, .bin .sub (.t 97) (.c (.int .i64 1))⟩,
    ⟨some 99, none, .slV 1 (.t 95) none (some (.t 98)) none⟩,
    ⟨some 5, none, .mov (.t 99)⟩] [0, 4, 5, 6])))))) (.skip))))))))))
   (.region [⟨some 17, none, .mov (.t 6)⟩,
    ⟨some 18, none, .bin .add (.t 17) (.c (.int .i64 1))⟩,
    ⟨some 6, none, .mov (.t 18)⟩] [0, 4, 5, 6]))))))
   (.seq (.region [⟨some 2, none, .mov (.c (.map none))⟩,
    ⟨some 3, none, .mov (.c (.bool false))⟩] [2, 3])
   (.ret))))),
  [.t 2, .t 3], 100, 1⟩
def A26 : Ann := ⟨[(0, [0]), (1, [0, 4]), (2, [0, 4, 5]), (3, [0, 4, 5, 6]), (4, [0, 4, 5, 6, 16]), (5, [0, 4, 5, 6]), (6, [0, 4, 5, 6, 7]), (7, [0, 4, 5, 6, 7, 24]), (8, [0, 4, 5, 6]), (9, [0, 4, 5, 6]), (10, [0, 4, 5, 6, 7, 38]), (11, [0, 4, 5, 6, 43]), (12, [2, 3]), (13, [0, 4, 5, 6, 8]), (14, [0, 4, 5, 6, 8, 9]), (15, [0, 4, 5, 6, 8, 9, 63]), (16, [2, 3]), (17, [0, 4, 5, 6, 8, 9]), (18, [0, 4, 5, 6]), (19, [0, 4, 5, 6, 69]), (20, [0, 4, 5, 6, 74]), (21, [4, 79]), (22, [2, 3]), (23, [2, 3]), (24, [0, 4, 5, 6, 10]), (25, [0, 4, 5, 6, 10, 11]), (26, [0, 4, 5, 6, 10, 11]), (27, [0, 4, 5, 6]), (28, [0, 4, 5, 6]), (29, [2, 3])], []⟩
set_option maxRecDepth 100000 in
theorem F26.ok : compF Try.prog A26 Try.f26 = some F26 := by kernel_rfl
theorem F26.fok : FOk Try.prog 26 F26 := fok_of mixed Try.func26 F26.ok

/-- cloakroom/cloakroomref13.Worth -/
def F27 : SFn := ⟨.seq (.region [⟨some 2, none, .mov (.c (.int .u64 0))⟩] [0])
   (.seq (.seq (.region [⟨some 3, none, .mov (.t 0)⟩,
    ⟨some 4, none, .lenV (.t 3)⟩,
    ⟨some 5, none, .bin .eql (.t 4) (.c (.int .i64 0))⟩] [0, 5])
   (.cond (.t 5) (.seq (.region [⟨some 2, none, .mov (.c (.int .u64 0))⟩] [2])
   (.ret)) (.skip)))
   (.seq (.seq (.region [⟨some 6, none, .mov (.t 0)⟩,
    ⟨some 7, none, .iaV 6 (.t 6) (.c (.int .i64 0))⟩,
    ⟨some 8, none, .fa 0 (.t 7)⟩,
    ⟨some 9, none, .ld 1 false (.t 8)⟩] [0, 9])
   (.block 0 (.seq (.seq (.region [⟨some 11, none, .bin .eql (.t 9) (.c (.int .i64 65))⟩,
    ⟨some 10, none, .mov (.t 11)⟩] [0, 9, 10])
   (.cond (.t 10) (.skip) (.region [⟨some 12, none, .bin .eql (.t 9) (.c (.int .i64 66))⟩,
    ⟨some 10, none, .mov (.t 12)⟩] [0, 9, 10])))
   (.cond (.t 10) (.seq (.region [⟨some 13, none, .mov (.t 0)⟩,
    ⟨some 14, none, .iaV 6 (.t 13) (.c (.int .i64 0))⟩,
    ⟨some 15, none, .fa 3 (.t 14)⟩,
    ⟨some 16, none, .ld 1 false (.t 15)⟩,
    ⟨some 2, none, .mov (.t 16)⟩] [2])
   (.ret)) (.seq (.region [⟨some 18, none, .bin .eql (.t 9) (.c (.int .i64 210))⟩,
    ⟨some 17, none, .mov (.t 18)⟩] [0, 17])
   (.cond (.t 17) (.seq (.region [⟨some 19, none, .mov (.t 0)⟩,
    ⟨some 20, none, .iaV 6 (.t 19) (.c (.int .i64 0))⟩,
    ⟨some 21, none, .fa 1 (.t 20)⟩,
    ⟨some 22, none, .ld 1 false (.t 21)⟩,
    ⟨some 23, none, .conv .u64 (.t 22)⟩,
    ⟨some 24, none, .bin .add (.t 23) (.c (.int .u64 1))⟩,
    ⟨some 2, none, .mov (.t 24)⟩] [2])
   (.ret)) (.skip)))))))
   (.seq (.region [⟨some 2, none, .mov (.c (.int .u64 0))⟩] [2])
   (.ret)))),
  [.t 2], 25, 1⟩
def A27 : Ann := ⟨[(0, [0]), (1, [0, 5]), (2, [2]), (3, [0, 9]), (4, [0, 9, 10]), (5, [0, 9, 10]), (6, [2]), (7, [0, 17]), (8, [2]), (9, [2])], []⟩
set_option maxRecDepth 100000 in
theorem F27.ok : compF Try.prog A27 Try.f27 = some F27 := by kernel_rfl
theorem F27.fok : FOk Try.prog 27 F27 := fok_of mixed Try.func27 F27.ok

/-- cloakroom/cloakroomref1.SameNums -/
def F28 : SFn := ⟨.seq (.region [⟨some 4, none, .mov (.c (.bool false))⟩] [0, 1])
   (.seq (.seq (.region [⟨some 6, none, .mov (.t 0)⟩,
    ⟨some 7, none, .lenV (.t 6)⟩,
    ⟨some 8, none, .mov (.t 1)⟩,
    ⟨some 9, none, .lenV (.t 8)⟩,
    ⟨some 10, none, .bin .neq (.t 7) (.t 9)⟩] [0, 1, 10])
   (.cond (.t 10) (.seq (.region [⟨some 4, none, .mov (.c (.bool false))⟩] [4])
   (.ret)) (.skip)))
   (.seq (.seq (.region [⟨some 5, none, .mov (.c (.int .i64 0))⟩] [0, 1, 5])
   (.block 0 (.loop (.seq (.seq (.region [⟨some 11, none, .mov (.t 5)⟩,
    ⟨some 12, none, .mov (.t 0)⟩,
    ⟨some 13, none, .lenV (.t 12)⟩,
    ⟨some 14, none, .bin .lss (.t 11) (.t 13)⟩] [0, 1, 5, 14])
   (.cond (.t 14) (.skip) (.exit 0)))
   (.seq (.block 1 (.seq (.region [⟨some 17, none, .mov (.t 0)⟩,
    ⟨some 18, none, .mov (.t 5)⟩,
    ⟨some 19, none, .iaV 1 (.t 17) (.t 18)⟩,
    ⟨some 20, none, .ld 1 false (.t 19)⟩,
    ⟨some 21, none, .mov (.t 1)⟩,
    ⟨some 22, none, .mov (.t 5)⟩,
    ⟨some 23, none, .iaV 1 (.t 21) (.t 22)⟩,
    ⟨some 24, none, .ld 1 false (.t 23)⟩,
    ⟨some 25, none, .bin .neq (.t 20) (.t 24)⟩] [0, 1, 5, 25])
   (.cond (.t 25) (.seq (.region [⟨some 4, none, .mov (.c (.bool false))⟩] [4])
   (.ret)) (.skip))))
   (.region [⟨some 15, none, .mov (.t 5)⟩,
    ⟨some 16, none, .bin .add (.t 15) (.c (.int .i64 1))⟩,
    ⟨some 5, none, .mov (.t 16)⟩] [0, 1, 5]))))))
   (.seq (.region [⟨some 4, none, .mov (.c (.bool true))⟩] [4])
   (.ret)))),
  [.t 4], 26, 2⟩
def A28 : Ann := ⟨[(0, [0, 1]), (1, [0, 1, 10]), (2, [4]), (3, [0, 1, 5]), (4, [0, 1, 5, 14]), (5, [0, 1, 5]), (6, [0, 1, 5, 25]), (7, [4]), (8, [4])], [(6, [(0, []), (1, []), (2, []), (3, []), (4, []), (5, []), (6, []), (7, []), (8, [])], [(2, [0, 1]), (3, [0, 1, 2]), (6, [4, 5]), (7, [4, 5, 6]), (8, [0, 1, 2, 3, 4, 5, 6, 7])])]⟩
set_option maxRecDepth 100000 in
theorem F28.ok : compF Try.prog A28 Try.f28 = some F28 := by kernel_rfl
theorem F28.fok : FOk Try.prog 28 F28 := fok_of mixed Try.func28 F28.ok

/-- cloakroom/cloakroomref13.sameBools -/
def F29 : SFn := ⟨.seq (.region [⟨some 4, none, .mov (.c (.bool false))⟩] [0, 1])
   (.seq (.seq (.region [⟨some 6, none, .mov (.t 0)⟩,
    ⟨some 7, none, .lenV (.t 6)⟩,
    ⟨some 8, none, .mov (.t 1)⟩,
    ⟨some 9, none, .lenV (.t 8)⟩,
    ⟨some 10, none, .bin .neq (.t 7) (.t 9)⟩] [0, 1, 10])
   (.cond (.t 10) (.seq (.region [⟨some 4, none, .mov (.c (.bool false))⟩] [4])
   (.ret)) (.skip)))
   (.seq (.seq (.region [⟨some 5, none, .mov (.c (.int .i64 0))⟩] [0, 1, 5])
   (.block 0 (.loop (.seq (.seq (.region [⟨some 11, none, .mov (.t 5)⟩,
    ⟨some 12, none, .mov (.t 0)⟩,
    ⟨some 13, none, .lenV (.t 12)⟩,
    ⟨some 14, none, .bin .lss (.t 11) (.t 13)⟩] [0, 1, 5, 14])
   (.cond (.t 14) (.skip) (.exit 0)))
   (.seq (.block 1 (.seq (.region [⟨some 17, none, .mov (.t 0)⟩,
    ⟨some 18, none, .mov (.t 5)⟩,
    ⟨some 19, none, .iaV 1 (.t 17) (.t 18)⟩,
    ⟨some 20, none, .ld 1 false (.t 19)⟩,
    ⟨some 21, none, .mov (.t 1)⟩,
    ⟨some 22, none, .mov (.t 5)⟩,
    ⟨some 23, none, .iaV 1 (.t 21) (.t 22)⟩,
    ⟨some 24, none, .ld 1 false (.t 23)⟩,
    ⟨some 25, none, .eqk true .bool (.t 20) (.t 24)⟩] [0, 1, 5, 25])
   (.cond (.t 25) (.seq (.region [⟨some 4, none, .mov (.c (.bool false))⟩] [4])
   (.ret)) (.skip))))
   (.region [⟨some 15, none, .mov (.t 5)⟩,
    ⟨some 16, none, .bin .add (.t 15) (.c (.int .i64 1))⟩,
    ⟨some 5, none, .mov (.t 16)⟩] [0, 1, 5]))))))
   (.seq (.region [⟨some 4, none, .mov (.c (.bool true))⟩] [4])
   (.ret)))),
  [.t 4], 26, 2⟩
def A29 : Ann := ⟨[(0, [0, 1]), (1, [0, 1, 10]), (2, [4]), (3, [0, 1, 5]), (4, [0, 1, 5, 14]), (5, [0, 1, 5]), (6, [0, 1, 5, 25]), (7, [4]), (8, [4])], [(6, [(0, []), (1, []), (2, []), (3, []), (4, []), (5, []), (6, []), (7, []), (8, [])], [(2, [0, 1]), (3, [0, 1, 2]), (6, [4, 5]), (7, [4, 5, 6]), (8, [0, 1, 2, 3, 4, 5, 6, 7])])]⟩
set_option maxRecDepth 100000 in
theorem F29.ok : compF Try.prog A29 Try.f29 = some F29 := by kernel_rfl
theorem F29.fok : FOk Try.prog 29 F29 := fok_of mixed Try.func29 F29.ok

/-- slices.Clone[[]byte,byte] -/
def F30 : SFn := ⟨.seq (.region [⟨some 2, none, .mov (.c (.slice none 0 0))⟩] [0])
   (.seq (.seq (.region [⟨some 3, none, .mov (.t 0)⟩,
    ⟨some 4, none, .eqk false .slice (.t 3) (.c (.slice none 0 0))⟩] [0, 4])
   (.cond (.t 4) (.seq (.region [⟨some 2, none, .mov (.c (.slice none 0 0))⟩] [2])
   (.ret)) (.skip)))
   (.seq (.region [⟨some 5, none, .bslice 0 1 [.int .u8 0] []⟩,
    ⟨some 6, none, .mov (.t 0)⟩,
    ⟨some 7, none, .app 1 1 (.t 5) (.t 6)⟩,
    ⟨some 2, none, .mov (.t 7)⟩] [2])
   (.ret))),
  [.t 2], 8, 1⟩
def A30 : Ann := ⟨[(0, [0]), (1, [0, 4]), (2, [2]), (3, [2])], []⟩
set_option maxRecDepth 100000 in
theorem F30.ok : compF Try.prog A30 Try.f30 = some F30 := by kernel_rfl
theorem F30.fok : FOk Try.prog 30 F30 := fok_of mixed Try.func30 F30.ok

/-- slices.Clone[[]uint64,uint64] -/
def F31 : SFn := ⟨.seq (.region [⟨some 2, none, .mov (.c (.slice none 0 0))⟩] [0])
   (.seq (.seq (.region [⟨some 3, none, .mov (.t 0)⟩,
    ⟨some 4, none, .eqk false .slice (.t 3) (.c (.slice none 0 0))⟩] [0, 4])
   (.cond (.t 4) (.seq (.region [⟨some 2, none, .mov (.c (.slice none 0 0))⟩] [2])
   (.ret)) (.skip)))
   (.seq (.region [⟨some 5, none, .bslice 0 1 [.int .u64 0] []⟩,
    ⟨some 6, none, .mov (.t 0)⟩,
    ⟨some 7, none, .app 1 8 (.t 5) (.t 6)⟩,
    ⟨some 2, none, .mov (.t 7)⟩] [2])
   (.ret))),
  [.t 2], 8, 1⟩
def A31 : Ann := ⟨[(0, [0]), (1, [0, 4]), (2, [2]), (3, [2])], []⟩
set_option maxRecDepth 100000 in
theorem F31.ok : compF Try.prog A31 Try.f31 = some F31 := by kernel_rfl
theorem F31.fok : FOk Try.prog 31 F31 := fok_of mixed Try.func31 F31.ok

/-- slices.Clone[[]bool,bool] -/
def F32 : SFn := ⟨.seq (.region [⟨some 2, none, .mov (.c (.slice none 0 0))⟩] [0])
   (.seq (.seq (.region [⟨some 3, none, .mov (.t 0)⟩,
    ⟨some 4, none, .eqk false .slice (.t 3) (.c (.slice none 0 0))⟩] [0, 4])
   (.cond (.t 4) (.seq (.region [⟨some 2, none, .mov (.c (.slice none 0 0))⟩] [2])
   (.ret)) (.skip)))
   (.seq (.region [⟨some 5, none, .bslice 0 1 [.bool false] []⟩,
    ⟨some 6, none, .mov (.t 0)⟩,
    ⟨some 7, none, .app 1 1 (.t 5) (.t 6)⟩,
    ⟨some 2, none, .mov (.t 7)⟩] [2])
   (.ret))),
  [.t 2], 8, 1⟩
def A32 : Ann := ⟨[(0, [0]), (1, [0, 4]), (2, [2]), (3, [2])], []⟩
set_option maxRecDepth 100000 in
theorem F32.ok : compF Try.prog A32 Try.f32 = some F32 := by kernel_rfl
theorem F32.fok : FOk Try.prog 32 F32 := fok_of mixed Try.func32 F32.ok

/-- slices.Clone[[][]uint64,[]uint64] -/
def F33 : SFn := ⟨.seq (.region [⟨some 2, none, .mov (.c (.slice none 0 0))⟩] [0])
   (.seq (.seq (.region [⟨some 3, none, .mov (.t 0)⟩,
    ⟨some 4, none, .eqk false .slice (.t 3) (.c (.slice none 0 0))⟩] [0, 4])
   (.cond (.t 4) (.seq (.region [⟨some 2, none, .mov (.c (.slice none 0 0))⟩] [2])
   (.ret)) (.skip)))
   (.seq (.region [⟨some 5, none, .bslice 0 1 [.slice none 0 0] []⟩,
    ⟨some 6, none, .mov (.t 0)⟩,
    ⟨some 7, none, .app 1 24 (.t 5) (.t 6)⟩,
    ⟨some 2, none, .mov (.t 7)⟩] [2])
   (.ret))),
  [.t 2], 8, 1⟩
def A33 : Ann := ⟨[(0, [0]), (1, [0, 4]), (2, [2]), (3, [2])], []⟩
set_option maxRecDepth 100000 in
theorem F33.ok : compF Try.prog A33 Try.f33 = some F33 := by kernel_rfl
theorem F33.fok : FOk Try.prog 33 F33 := fok_of mixed Try.func33 F33.ok

/-- slices.Equal[[]byte,byte] -/
def F34 : SFn := ⟨.seq (.region [⟨some 4, none, .mov (.c (.bool false))⟩] [0, 1])
   (.seq (.seq (.region [⟨some 6, none, .mov (.t 0)⟩,
    ⟨some 7, none, .lenV (.t 6)⟩,
    ⟨some 8, none, .mov (.t 1)⟩,
    ⟨some 9, none, .lenV (.t 8)⟩,
    ⟨some 10, none, .bin .neq (.t 7) (.t 9)⟩] [0, 1, 10])
   (.cond (.t 10) (.seq (.region [⟨some 4, none, .mov (.c (.bool false))⟩] [4])
   (.ret)) (.skip)))
   (.seq (.seq (.region [⟨some 11, none, .mov (.t 0)⟩,
    ⟨some 12, none, .lenV (.t 11)⟩,
    ⟨some 13, none, .mov (.c (.int .i64 0))⟩] [0, 1, 12, 13])
   (.block 0 (.loop (.seq (.region [⟨some 14, none, .bin .lss (.t 13) (.t 12)⟩] [0, 1, 12, 13, 14])
   (.seq (.cond (.t 14) (.skip) (.exit 0))
   (.seq (.block 1 (.seq (.region [⟨some 15, none, .mov (.t 13)⟩,
    ⟨some 5, none, .mov (.t 15)⟩] [0, 1, 5, 12, 13])
   (.seq (.region [⟨some 16, none, .mov (.t 0)⟩,
    ⟨some 17, none, .mov (.t 5)⟩,
    ⟨some 18, none, .iaV 1 (.t 16) (.t 17)⟩,
    ⟨some 19, none, .ld 1 false (.t 18)⟩,
    ⟨some 20, none, .mov (.t 1)⟩,
    ⟨some 21, none, .mov (.t 5)⟩,
    ⟨some 22, none, .iaV 1 (.t 20) (.t 21)⟩,
    ⟨some 23, none, .ld 1 false (.t 22)⟩,
    ⟨some 24, none, .bin .neq (.t 19) (.t 23)⟩] [0, 1, 12, 13, 24])
   (.cond (.t 24) (.seq (.region [⟨some 4, none, .mov (.c (.bool false))⟩] [4])
   (.ret)) (.skip)))))
   (.region [⟨some 25, none, .bin .add (.t 13) (.c (.int .i64 1))⟩,
    ⟨some 13, none, .mov (.t 25)⟩] [0, 1, 12, 13])))))))
   (.seq (.region [⟨some 4, none, .mov (.c (.bool true))⟩] [4])
   (.ret)))),
  [.t 4], 26, 2⟩
def A34 : Ann := ⟨[(0, [0, 1]), (1, [0, 1, 10]), (2, [4]), (3, [0, 1, 12, 13]), (4, [0, 1, 12, 13, 14]), (5, [0, 1, 5, 12, 13]), (6, [0, 1, 12, 13, 24]), (7, [4]), (8, [0, 1, 12, 13]), (9, [4])], [(6, [(0, []), (1, []), (2, []), (3, []), (4, []), (5, []), (6, []), (7, []), (8, [])], [(2, [0, 1]), (3, [0, 1, 2]), (6, [4, 5]), (7, [4, 5, 6]), (8, [0, 1, 2, 3, 4, 5, 6, 7])])]⟩
set_option maxRecDepth 100000 in
theorem F34.ok : compF Try.prog A34 Try.f34 = some F34 := by kernel_rfl
theorem F34.fok : FOk Try.prog 34 F34 := fok_of mixed Try.func34 F34.ok

/-- slices.EqualFunc[[][]uint64,[][]uint64,[]uint64,[]uint64] -/
def F35 : SFn := ⟨.seq (.region [⟨some 6, none, .mov (.c (.bool false))⟩] [0, 1, 2])
   (.seq (.seq (.region [⟨some 10, none, .mov (.t 0)⟩,
    ⟨some 11, none, .lenV (.t 10)⟩,
    ⟨some 12, none, .mov (.t 1)⟩,
    ⟨some 13, none, .lenV (.t 12)⟩,
    ⟨some 14, none, .bin .neq (.t 11) (.t 13)⟩] [0, 1, 2, 14])
   (.cond (.t 14) (.seq (.region [⟨some 6, none, .mov (.c (.bool false))⟩] [6])
   (.ret)) (.skip)))
   (.seq (.seq (.region [⟨some 15, none, .mov (.t 0)⟩,
    ⟨some 16, none, .lenV (.t 15)⟩,
    ⟨some 17, none, .mov (.c (.int .i64 0))⟩] [1, 2, 15, 16, 17])
   (.block 0 (.loop (.seq (.region [⟨some 18, none, .bin .lss (.t 17) (.t 16)⟩] [1, 2, 15, 16, 17, 18])
   (.seq (.cond (.t 18) (.skip) (.exit 0))
   (.seq (.block 1 (.seq (.region [⟨some 19, none, .mov (.t 17)⟩,
    ⟨some 20, none, .iaV 1 (.t 15) (.t 17)⟩,
    ⟨some 21, none, .ld 1 false (.t 20)⟩,
    ⟨some 7, none, .mov (.t 19)⟩,
    ⟨some 8, none, .mov (.t 21)⟩] [1, 2, 7, 8, 15, 16, 17])
   (.seq (.region [⟨some 22, none, .mov (.t 1)⟩,
    ⟨some 23, none, .mov (.t 7)⟩,
    ⟨some 24, none, .iaV 1 (.t 22) (.t 23)⟩,
    ⟨some 25, none, .ld 1 false (.t 24)⟩,
    ⟨some 9, none, .mov (.t 25)⟩] [1, 2, 8, 9, 15, 16, 17])
   (.seq (.region [⟨some 26, none, .mov (.t 2)⟩,
    ⟨some 27, none, .mov (.t 8)⟩,
    ⟨some 28, none, .mov (.t 9)⟩,
    ⟨some 29, none, .callv (.t 26) [.t 27, .t 28]⟩,
    ⟨some 30, none, .un .not (.t 29)⟩] [1, 2, 15, 16, 17, 30])
   (.cond (.t 30) (.seq (.region [⟨some 6, none, .mov (.c (.bool false))⟩] [6])
   (.ret)) (.skip))))))
   (.region [⟨some 31, none, .bin .add (.t 17) (.c (.int .i64 1))⟩,
    ⟨some 17, none, .mov (.t 31)⟩] [1, 2, 15, 16, 17])))))))
   (.seq (.region [⟨some 6, none, .mov (.c (.bool true))⟩] [6])
   (.ret)))),
  [.t 6], 32, 3⟩
def A35 : Ann := ⟨[(0, [0, 1, 2]), (1, [0, 1, 2, 14]), (2, [6]), (3, [1, 2, 15, 16, 17]), (4, [1, 2, 15, 16, 17, 18]), (5, [1, 2, 7, 8, 15, 16, 17]), (6, [1, 2, 8, 9, 15, 16, 17]), (7, [1, 2, 15, 16, 17, 30]), (8, [6]), (9, [1, 2, 15, 16, 17]), (10, [6])], []⟩
set_option maxRecDepth 100000 in
theorem F35.ok : compF Try.prog A35 Try.f35 = some F35 := by kernel_rfl
theorem F35.fok : FOk Try.prog 35 F35 := fok_of mixed Try.func35 F35.ok

/-- slices.Equal[[]uint64,uint64] -/
def F36 : SFn := ⟨.seq (.region [⟨some 4, none, .mov (.c (.bool false))⟩] [0, 1])
   (.seq (.seq (.region [⟨some 6, none, .mov (.t 0)⟩,
    ⟨some 7, none, .lenV (.t 6)⟩,
    ⟨some 8, none, .mov (.t 1)⟩,
    ⟨some 9, none, .lenV (.t 8)⟩,
    ⟨some 10, none, .bin .neq (.t 7) (.t 9)⟩] [0, 1, 10])
   (.cond (.t 10) (.seq (.region [⟨some 4, none, .mov (.c (.bool false))⟩] [4])
   (.ret)) (.skip)))
   (.seq (.seq (.region [⟨some 11, none, .mov (.t 0)⟩,
    ⟨some 12, none, .lenV (.t 11)⟩,
    ⟨some 13, none, .mov (.c (.int .i64 0))⟩] [0, 1, 12, 13])
   (.block 0 (.loop (.seq (.region [⟨some 14, none, .bin .lss (.t 13) (.t 12)⟩] [0, 1, 12, 13, 14])
   (.seq (.cond (.t 14) (.skip) (.exit 0))
   (.seq (.block 1 (.seq (.region [⟨some 15, none, .mov (.t 13)⟩,
    ⟨some 5, none, .mov (.t 15)⟩] [0, 1, 5, 12, 13])
   (.seq (.region [⟨some 16, none, .mov (.t 0)⟩,
    ⟨some 17, none, .mov (.t 5)⟩,
    ⟨some 18, none, .iaV 1 (.t 16) (.t 17)⟩,
    ⟨some 19, none, .ld 1 false (.t 18)⟩,
    ⟨some 20, none, .mov (.t 1)⟩,
    ⟨some 21, none, .mov (.t 5)⟩,
    ⟨some 22, none, .iaV 1 (.t 20) (.t 21)⟩,
    ⟨some 23, none, .ld 1 false (.t 22)⟩,
    ⟨some 24, none, .bin .neq (.t 19) (.t 23)⟩] [0, 1, 12, 13, 24])
   (.cond (.t 24) (.seq (.region [⟨some 4, none, .mov (.c (.bool false))⟩] [4])
   (.ret)) (.skip)))))
   (.region [⟨some 25, none, .bin .add (.t 13) (.c (.int .i64 1))⟩,
    ⟨some 13, none, .mov (.t 25)⟩] [0, 1, 12, 13])))))))
   (.seq (.region [⟨some 4, none, .mov (.c (.bool true))⟩] [4])
   (.ret)))),
  [.t 4], 26, 2⟩
def A36 : Ann := ⟨[(0, [0, 1]), (1, [0, 1, 10]), (2, [4]), (3, [0, 1, 12, 13]), (4, [0, 1, 12, 13, 14]), (5, [0, 1, 5, 12, 13]), (6, [0, 1, 12, 13, 24]), (7, [4]), (8, [0, 1, 12, 13]), (9, [4])], [(6, [(0, []), (1, []), (2, []), (3, []), (4, []), (5, []), (6, []), (7, []), (8, [])], [(2, [0, 1]), (3, [0, 1, 2]), (6, [4, 5]), (7, [4, 5, 6]), (8, [0, 1, 2, 3, 4, 5, 6, 7])])]⟩
set_option maxRecDepth 100000 in
theorem F36.ok : compF Try.prog A36 Try.f36 = some F36 := by kernel_rfl
theorem F36.fok : FOk Try.prog 36 F36 := fok_of mixed Try.func36 F36.ok

/-- slices.Equal[[]bool,bool] -/
def F37 : SFn := ⟨.seq (.region [⟨some 4, none, .mov (.c (.bool false))⟩] [0, 1])
   (.seq (.seq (.region [⟨some 6, none, .mov (.t 0)⟩,
    ⟨some 7, none, .lenV (.t 6)⟩,
    ⟨some 8, none, .mov (.t 1)⟩,
    ⟨some 9, none, .lenV (.t 8)⟩,
    ⟨some 10, none, .bin .neq (.t 7) (.t 9)⟩] [0, 1, 10])
   (.cond (.t 10) (.seq (.region [⟨some 4, none, .mov (.c (.bool false))⟩] [4])
   (.ret)) (.skip)))
   (.seq (.seq (.region [⟨some 11, none, .mov (.t 0)⟩,
    ⟨some 12, none, .lenV (.t 11)⟩,
    ⟨some 13, none, .mov (.c (.int .i64 0))⟩] [0, 1, 12, 13])
   (.block 0 (.loop (.seq (.region [⟨some 14, none, .bin .lss (.t 13) (.t 12)⟩] [0, 1, 12, 13, 14])
   (.seq (.cond (.t 14) (.skip) (.exit 0))
   (.seq (.block 1 (.seq (.region [⟨some 15, none, .mov (.t 13)⟩,
    ⟨some 5, none, .mov (.t 15)⟩] [0, 1, 5, 12, 13])
   (.seq (.region [⟨some 16, none, .mov (.t 0)⟩,
    ⟨some 17, none, .mov (.t 5)⟩,
    ⟨some 18, none, .iaV 1 (.t 16) (.t 17)⟩,
    ⟨some 19, none, .ld 1 false (.t 18)⟩,
    ⟨some 20, none, .mov (.t 1)⟩,
    ⟨some 21, none, .mov (.t 5)⟩,
    ⟨some 22, none, .iaV 1 (.t 20) (.t 21)⟩,
    ⟨some 23, none, .ld 1 false (.t 22)⟩,
    ⟨some 24, none, .eqk true .bool (.t 19) (.t 23)⟩] [0, 1, 12, 13, 24])
   (.cond (.t 24) (.seq (.region [⟨some 4, none, .mov (.c (.bool false))⟩] [4])
   (.ret)) (.skip)))))
   (.region [⟨some 25, none, .bin .add (.t 13) (.c (.int .i64 1))⟩,
    ⟨some 13, none, .mov (.t 25)⟩] [0, 1, 12, 13])))))))
   (.seq (.region [⟨some 4, none, .mov (.c (.bool true))⟩] [4])
   (.ret)))),
  [.t 4], 26, 2⟩
def A37 : Ann := ⟨[(0, [0, 1]), (1, [0, 1, 10]), (2, [4]), (3, [0, 1, 12, 13]), (4, [0, 1, 12, 13, 14]), (5, [0, 1, 5, 12, 13]), (6, [0, 1, 12, 13, 24]), (7, [4]), (8, [0, 1, 12, 13]), (9, [4])], [(6, [(0, []), (1, []), (2, []), (3, []), (4, []), (5, []), (6, []), (7, []), (8, [])], [(2, [0, 1]), (3, [0, 1, 2]), (6, [4, 5]), (7, [4, 5, 6]), (8, [0, 1, 2, 3, 4, 5, 6, 7])])]⟩
set_option maxRecDepth 100000 in
theorem F37.ok : compF Try.prog A37 Try.f37 = some F37 := by kernel_rfl
theorem F37.fok : FOk Try.prog 37 F37 := fok_of mixed Try.func37 F37.ok

/-- (*cloakroom/cloakroomplay.Picks).Over -/
def F38 : SFn := ⟨.seq (.region [⟨some 2, none, .mov (.c (.bool false))⟩] [0])
   (.seq (.region [⟨some 3, none, .mov (.t 0)⟩,
    ⟨some 4, none, .nilc (.t 3)⟩,
    ⟨some 5, none, .fa 1 (.t 4)⟩,
    ⟨some 6, none, .ld 1 false (.t 5)⟩,
    ⟨some 7, none, .mov (.t 0)⟩,
    ⟨some 8, none, .nilc (.t 7)⟩,
    ⟨some 9, none, .fa 0 (.t 8)⟩,
    ⟨some 10, none, .ld 1 false (.t 9)⟩,
    ⟨some 11, none, .lenV (.t 10)⟩,
    ⟨some 12, none, .bin .geq (.t 6) (.t 11)⟩,
    ⟨some 2, none, .mov (.t 12)⟩] [2])
   (.ret)),
  [.t 2], 13, 1⟩
def A38 : Ann := ⟨[(0, [0]), (1, [2])], [(1, [(0, []), (1, []), (2, []), (3, []), (4, []), (5, []), (6, []), (7, []), (8, []), (9, []), (10, [])], [(1, [0]), (2, [0, 1]), (3, [0, 1, 2]), (5, [4]), (6, [4, 5]), (7, [4, 5, 6]), (8, [4, 5, 6, 7]), (9, [0, 1, 2, 3, 4, 5, 6, 7, 8]), (10, [0, 1, 2, 3, 4, 5, 6, 7, 8, 9])])]⟩
set_option maxRecDepth 100000 in
theorem F38.ok : compF Try.prog A38 Try.f38 = some F38 := by kernel_rfl
theorem F38.fok : FOk Try.prog 38 F38 := fok_of mixed Try.func38 F38.ok
end Go.Dx.SYtpogcjdenefhlaa
