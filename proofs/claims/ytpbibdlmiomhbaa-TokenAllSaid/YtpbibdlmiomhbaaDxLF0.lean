/- The readings of functions, printed by a program of the prover's own. -/
import Derived.Test.YtpbibdlmiomhbaaDx19
import Derived.Test.YtpbibdlmiomhbaaChecked
import Derived.Eval
namespace Go.Dx.SYtpbibdlmiomhbaa
open Go.Proofs
set_option linter.unusedVariables false
theorem mixed : Try.prog.follows .mixedOrders = true := Try.checked.mixed
/-- cloakroom/cloakroomlaw2.FrameCuts -/
def F3 : SFn := ⟨.seq (.region [⟨some 4, none, .mov (.c (.bool false))⟩] [0, 1])
   (.seq (.seq (.region [⟨some 13, none, .call 15 []⟩,
    ⟨some 14, none, .un .not (.t 13)⟩] [0, 1, 14])
   (.cond (.t 14) (.seq (.region [⟨some 4, none, .mov (.c (.bool false))⟩] [4])
   (.ret)) (.skip)))
   (.seq (.seq (.region [⟨some 15, none, .mov (.t 0)⟩,
    ⟨some 16, none, .lenV (.t 15)⟩,
    ⟨some 17, none, .bin .gtr (.t 16) (.c (.int .i64 10))⟩,
    ⟨some 18, none, .mov (.t 17)⟩,
    ⟨some 19, some (18, false), .mov (.t 1)⟩,
    ⟨some 20, some (18, false), .lenV (.t 19)⟩,
    ⟨some 21, some (18, false), .bin .gtr (.t 20) (.c (.int .i64 60))⟩,
    ⟨some 22, none, .pick (.t 18) (.c (.bool true)) (.t 21)⟩] [0, 1, 22])
   (.cond (.t 22) (.seq (.region [⟨some 4, none, .mov (.c (.bool true))⟩] [4])
   (.ret)) (.skip)))
   (.seq (.region [⟨some 5, none, .mov (.c (.slice none 0 0))⟩] [0, 1, 5])
   (.seq (.seq (.region [⟨some 6, none, .mov (.c (.int .i64 0))⟩] [0, 1, 5, 6])
   (.block 0 (.loop (.seq (.seq (.region [⟨some 23, none, .mov (.t 6)⟩,
    ⟨some 24, none, .mov (.t 0)⟩,
    ⟨some 25, none, .lenV (.t 24)⟩,
    ⟨some 26, none, .bin .lss (.t 23) (.t 25)⟩] [0, 1, 5, 6, 26])
   (.cond (.t 26) (.skip) (.exit 0)))
   (.seq (.block 1 (.seq (.seq (.region [⟨some 29, none, .mov (.t 0)⟩,
    ⟨some 30, none, .mov (.t 6)⟩,
    ⟨some 31, none, .iaV 1 (.t 29) (.t 30)⟩,
    ⟨some 32, none, .ld 1 false (.t 31)⟩,
    ⟨some 33, none, .lenV (.t 32)⟩,
    ⟨some 34, none, .bin .gtr (.t 33) (.c (.int .i64 40))⟩] [0, 1, 5, 6, 34])
   (.cond (.t 34) (.seq (.region [⟨some 4, none, .mov (.c (.bool true))⟩] [4])
   (.ret)) (.skip)))
   (.region [⟨some 35, none, .mov (.t 5)⟩,
    ⟨some 36, none, .mov (.t 0)⟩,
    ⟨some 37, none, .mov (.t 6)⟩,
    ⟨some 38, none, .iaV 1 (.t 36) (.t 37)⟩,
    ⟨some 39, none, .ld 1 false (.t 38)⟩,
    ⟨some 40, none, .call 16 [.t 39]⟩,
    ⟨some 41, none, .app 1 1 (.t 35) (.t 40)⟩,
    ⟨some 5, none, .mov (.t 41)⟩] [0, 1, 5, 6])))
   (.region [⟨some 27, none, .mov (.t 6)⟩,
    ⟨some 28, none, .bin .add (.t 27) (.c (.int .i64 1))⟩,
    ⟨some 6, none, .mov (.t 28)⟩] [0, 1, 5, 6]))))))
   (.seq (.region [⟨some 42, none, .call 17 []⟩,
    ⟨some 7, none, .mov (.t 42)⟩] [0, 1, 5, 7])
   (.seq (.region [⟨some 8, none, .mov (.c (.slice none 0 0))⟩] [0, 1, 5, 7, 8])
   (.seq (.seq (.region [⟨some 9, none, .mov (.c (.int .i64 0))⟩] [0, 1, 5, 7, 8, 9])
   (.block 2 (.loop (.seq (.seq (.region [⟨some 43, none, .mov (.t 5)⟩,
    ⟨some 44, none, .lenV (.t 43)⟩,
    ⟨some 45, none, .bin .gtr (.t 44) (.c (.int .i64 0))⟩] [0, 1, 5, 7, 8, 9, 45])
   (.cond (.t 45) (.skip) (.exit 2)))
   (.seq (.block 3 (.seq (.region [⟨some 48, none, .mov (.t 5)⟩,
    ⟨some 49, none, .lenV (.t 48)⟩,
    ⟨some 10, none, .mov (.t 49)⟩] [0, 1, 5, 7, 8, 9, 10])
   (.seq (.seq (.region [⟨some 50, none, .mov (.t 9)⟩,
    ⟨some 51, none, .mov (.t 1)⟩,
    ⟨some 52, none, .lenV (.t 51)⟩,
    ⟨some 53, none, .bin .lss (.t 50) (.t 52)⟩] [0, 1, 5, 7, 8, 9, 10, 53])
   (.cond (.t 53) (.region [⟨some 54, none, .mov (.t 1)⟩,
    ⟨some 55, none, .mov (.t 9)⟩,
    ⟨some 56, none, .iaV 1 (.t 54) (.t 55)⟩,
    ⟨some 57, none, .ld 1 false (.t 56)⟩,
    ⟨some 58, none, .bin .rem (.t 57) (.c (.int .u8 20))⟩,
    ⟨some 59, none, .conv .i64 (.t 58)⟩,
    ⟨some 60, none, .mov (.t 5)⟩,
    ⟨some 61, none, .lenV (.t 60)⟩,
    ⟨some 62, none, .mn (.t 59) (.t 61)⟩,
    ⟨some 10, none, .mov (.t 62)⟩] [0, 1, 5, 7, 8, 9, 10]) (.skip)))
   (.seq (.region [⟨some 64, none, .mov (.t 7)⟩,
    ⟨some 65, none, .mov (.t 5)⟩,
    ⟨some 66, none, .mov (.t 10)⟩,
    ⟨some 67, none, .slV 1 (.t 65) none (some (.t 66)) none⟩,
    ⟨some 68, none, .call 18 [.t 64, .t 67]⟩,
    ⟨some 63, none, .mov (.t 68)⟩,
    ⟨some 69, none, .ext (.t 63) 0⟩,
    ⟨some 70, none, .ext (.t 63) 1⟩,
    ⟨some 11, none, .mov (.t 69)⟩,
    ⟨some 12, none, .mov (.t 70)⟩] [0, 1, 5, 7, 8, 9, 10, 11, 12])
   (.seq (.seq (.region [⟨some 71, none, .mov (.t 12)⟩,
    ⟨some 72, none, .bin .neq (.t 71) (.c (.int .i64 0))⟩] [0, 1, 5, 7, 8, 9, 10, 11, 72])
   (.cond (.t 72) (.seq (.region [⟨some 4, none, .mov (.c (.bool false))⟩] [4])
   (.ret)) (.skip)))
   (.region [⟨some 73, none, .mov (.t 8)⟩,
    ⟨some 74, none, .mov (.t 11)⟩,
    ⟨some 76, none, .mov (.t 5)⟩,
    ⟨some 77, none, .mov (.t 10)⟩,
    ⟨some 78, none, .slV 1 (.t 76) (some (.t 77)) none none⟩,
    ⟨some 75, none, .app 1 24 (.t 73) (.t 74)⟩,
    ⟨none, none, .chkV 1 (.t 76) (some (.t 77)) none none 78⟩,
    ⟨some 8, none, .mov (.t 75)⟩,
    ⟨some 5, none, .mov (.t 78)⟩] [0, 1, 5, 7, 8, 9]))))))
   (.region [⟨some 46, none, .mov (.t 9)⟩,
    ⟨some 47, none, .bin .add (.t 46) (.c (.int .i64 1))⟩,
    ⟨some 9, none, .mov (.t 47)⟩] [0, 1, 5, 7, 8, 9]))))))
   (.seq (.region [⟨some 79, none, .mov (.t 8)⟩,
    ⟨some 80, none, .mov (.t 0)⟩,
    ⟨some 81, none, .call 19 [.t 79, .t 80]⟩,
    ⟨some 82, none, .mov (.t 81)⟩,
    ⟨some 83, some (82, true), .mov (.t 7)⟩,
    ⟨some 84, some (82, true), .call 20 [.t 83]⟩,
    ⟨some 85, some (82, true), .bin .eql (.t 84) (.c (.int .i64 0))⟩,
    ⟨some 86, none, .pick (.t 82) (.t 85) (.c (.bool false))⟩,
    ⟨some 4, none, .mov (.t 86)⟩] [4])
   (.ret))))))))),
  [.t 4], 87, 2⟩
def A3 : Ann := ⟨[(0, [0, 1]), (1, [0, 1, 14]), (2, [4]), (3, [0, 1, 22]), (4, [4]), (5, [0, 1, 5]), (6, [0, 1, 5, 6]), (7, [0, 1, 5, 6, 26]), (8, [0, 1, 5, 6]), (9, [0, 1, 5, 6, 34]), (10, [4]), (11, [0, 1, 5, 6]), (12, [0, 1, 5, 7]), (13, [0, 1, 5, 7, 8]), (14, [0, 1, 5, 7, 8, 9]), (15, [0, 1, 5, 7, 8, 9, 45]), (16, [0, 1, 5, 7, 8, 9]), (17, [0, 1, 5, 7, 8, 9, 10]), (18, [0, 1, 5, 7, 8, 9, 10, 53]), (19, [0, 1, 5, 7, 8, 9, 10]), (20, [0, 1, 5, 7, 8, 9, 10, 11, 12]), (21, [0, 1, 5, 7, 8, 9, 10, 11, 72]), (22, [4]), (23, [0, 1, 5, 7, 8, 9]), (24, [4])], [(23, [(0, []), (1, []), (3, []), (4, []), (5, []), (2, [5]), (6, []), (7, [])], [(2, [0, 1]), (5, [3, 4]), (6, [0, 1, 2]), (7, [0, 1, 2, 3, 4, 5, 6])])]⟩
set_option maxRecDepth 100000 in
theorem F3.ok : compF Try.prog A3 Try.f3 = some F3 := by kernel_rfl
theorem F3.fok : FOk Try.prog 3 F3 := fok_of mixed Try.func3 F3.ok

/-- cloakroom/cloakroomlaw2.FrameLong -/
def F4 : SFn := ⟨.seq (.region [⟨some 6, none, .mov (.c (.bool false))⟩] [0, 1, 2])
   (.seq (.seq (.region [⟨some 13, none, .call 15 []⟩,
    ⟨some 14, none, .un .not (.t 13)⟩] [0, 1, 2, 14])
   (.cond (.t 14) (.seq (.region [⟨some 6, none, .mov (.c (.bool false))⟩] [6])
   (.ret)) (.skip)))
   (.seq (.seq (.region [⟨some 15, none, .mov (.t 0)⟩,
    ⟨some 16, none, .lenV (.t 15)⟩,
    ⟨some 17, none, .bin .gtr (.t 16) (.c (.int .i64 60))⟩,
    ⟨some 18, none, .mov (.t 17)⟩,
    ⟨some 19, some (18, false), .mov (.t 1)⟩,
    ⟨some 20, some (18, false), .lenV (.t 19)⟩,
    ⟨some 21, some (18, false), .bin .gtr (.t 20) (.c (.int .i64 60))⟩,
    ⟨some 22, none, .pick (.t 18) (.c (.bool true)) (.t 21)⟩] [0, 1, 2, 22])
   (.cond (.t 22) (.seq (.region [⟨some 6, none, .mov (.c (.bool true))⟩] [6])
   (.ret)) (.skip)))
   (.seq (.region [⟨some 23, none, .call 17 []⟩,
    ⟨some 7, none, .mov (.t 23)⟩] [0, 1, 2, 7])
   (.seq (.region [⟨some 24, none, .mov (.t 0)⟩,
    ⟨some 25, none, .call 16 [.t 24]⟩,
    ⟨some 26, none, .mov (.t 2)⟩,
    ⟨some 27, none, .bin .shr (.t 26) (.c (.int .u64 8))⟩,
    ⟨some 28, none, .conv .u8 (.t 27)⟩,
    ⟨some 29, none, .mov (.t 2)⟩,
    ⟨some 30, none, .conv .u8 (.t 29)⟩,
    ⟨some 31, none, .bslice 2 1 [.int .u8 0] [(0, 1, .t 28), (1, 1, .t 30)]⟩,
    ⟨some 32, none, .app 1 1 (.t 25) (.t 31)⟩,
    ⟨some 33, none, .mov (.t 1)⟩,
    ⟨some 34, none, .app 1 1 (.t 32) (.t 33)⟩,
    ⟨some 8, none, .mov (.t 34)⟩] [0, 1, 2, 7, 8])
   (.seq (.region [⟨some 36, none, .mov (.t 7)⟩,
    ⟨some 37, none, .mov (.t 8)⟩,
    ⟨some 38, none, .call 18 [.t 36, .t 37]⟩,
    ⟨some 35, none, .mov (.t 38)⟩,
    ⟨some 39, none, .ext (.t 35) 0⟩,
    ⟨some 40, none, .ext (.t 35) 1⟩,
    ⟨some 9, none, .mov (.t 39)⟩,
    ⟨some 10, none, .mov (.t 40)⟩] [0, 1, 2, 7, 9, 10])
   (.seq (.seq (.region [⟨some 41, none, .mov (.t 2)⟩,
    ⟨some 42, none, .conv .i64 (.t 41)⟩,
    ⟨some 43, none, .bin .gtr (.t 42) (.c (.int .i64 5000))⟩] [0, 1, 7, 9, 10, 43])
   (.cond (.t 43) (.seq (.region [⟨some 45, none, .mov (.t 7)⟩,
    ⟨some 46, none, .mov (.t 1)⟩,
    ⟨some 47, none, .call 16 [.t 46]⟩,
    ⟨some 48, none, .call 18 [.t 45, .t 47]⟩,
    ⟨some 44, none, .mov (.t 48)⟩,
    ⟨some 49, none, .ext (.t 44) 0⟩,
    ⟨some 50, none, .ext (.t 44) 1⟩,
    ⟨some 11, none, .mov (.t 49)⟩,
    ⟨some 12, none, .mov (.t 50)⟩] [0, 7, 9, 10, 11, 12])
   (.seq (.region [⟨some 51, none, .mov (.t 10)⟩,
    ⟨some 52, none, .bin .eql (.t 51) (.c (.int .i64 4))⟩,
    ⟨some 53, none, .mov (.t 52)⟩,
    ⟨some 54, some (53, true), .mov (.t 9)⟩,
    ⟨some 55, some (53, true), .lenV (.t 54)⟩,
    ⟨some 56, some (53, true), .bin .eql (.t 55) (.c (.int .i64 1))⟩,
    ⟨some 57, none, .pick (.t 53) (.t 56) (.c (.bool false))⟩,
    ⟨some 58, none, .mov (.t 57)⟩,
    ⟨some 59, some (58, true), .mov (.t 9)⟩,
    ⟨some 60, some (58, true), .iaV 1 (.t 59) (.c (.int .i64 0))⟩,
    ⟨some 61, some (58, true), .ld 1 false (.t 60)⟩,
    ⟨some 62, some (58, true), .toStr (.t 61)⟩,
    ⟨some 63, some (58, true), .mov (.t 0)⟩,
    ⟨some 64, some (58, true), .toStr (.t 63)⟩,
    ⟨some 65, some (58, true), .bin .eql (.t 62) (.t 64)⟩,
    ⟨some 66, none, .pick (.t 58) (.t 65) (.c (.bool false))⟩,
    ⟨some 67, none, .mov (.t 66)⟩,
    ⟨some 68, some (67, true), .mov (.t 7)⟩,
    ⟨some 69, some (67, true), .call 21 [.t 68]⟩,
    ⟨some 70, none, .pick (.t 67) (.t 69) (.c (.bool false))⟩,
    ⟨some 71, none, .mov (.t 70)⟩,
    ⟨some 72, some (71, true), .mov (.t 7)⟩,
    ⟨some 73, some (71, true), .call 20 [.t 72]⟩,
    ⟨some 74, some (71, true), .bin .eql (.t 73) (.c (.int .i64 0))⟩,
    ⟨some 75, none, .pick (.t 71) (.t 74) (.c (.bool false))⟩,
    ⟨some 76, none, .mov (.t 75)⟩,
    ⟨some 77, some (76, true), .mov (.t 12)⟩,
    ⟨some 78, some (76, true), .bin .eql (.t 77) (.c (.int .i64 4))⟩,
    ⟨some 79, none, .pick (.t 76) (.t 78) (.c (.bool false))⟩,
    ⟨some 80, none, .mov (.t 79)⟩,
    ⟨some 81, some (80, true), .mov (.t 11)⟩,
    ⟨some 82, some (80, true), .lenV (.t 81)⟩,
    ⟨some 83, some (80, true), .bin .eql (.t 82) (.c (.int .i64 0))⟩,
    ⟨some 84, none, .pick (.t 80) (.t 83) (.c (.bool false))⟩,
    ⟨some 6, none, .mov (.t 84)⟩] [6])
   (.ret))) (.skip)))
   (.seq (.region [⟨some 85, none, .mov (.t 10)⟩,
    ⟨some 86, none, .bin .eql (.t 85) (.c (.int .i64 0))⟩,
    ⟨some 87, none, .mov (.t 86)⟩,
    ⟨some 88, some (87, false), .mov (.t 7)⟩,
    ⟨some 89, some (87, false), .call 21 [.t 88]⟩,
    ⟨some 90, none, .pick (.t 87) (.c (.bool true)) (.t 89)⟩,
    ⟨some 91, none, .mov (.t 90)⟩,
    ⟨some 92, some (91, true), .mov (.t 9)⟩,
    ⟨some 93, some (91, true), .lenV (.t 92)⟩,
    ⟨some 94, some (91, true), .bin .geq (.t 93) (.c (.int .i64 1))⟩,
    ⟨some 95, none, .pick (.t 91) (.t 94) (.c (.bool false))⟩,
    ⟨some 96, none, .mov (.t 95)⟩,
    ⟨some 97, some (96, true), .mov (.t 9)⟩,
    ⟨some 98, some (96, true), .iaV 1 (.t 97) (.c (.int .i64 0))⟩,
    ⟨some 99, some (96, true), .ld 1 false (.t 98)⟩,
    ⟨some 100, some (96, true), .toStr (.t 99)⟩,
    ⟨some 101, some (96, true), .mov (.t 0)⟩,
    ⟨some 102, some (96, true), .toStr (.t 101)⟩,
    ⟨some 103, some (96, true), .bin .eql (.t 100) (.t 102)⟩,
    ⟨some 104, none, .pick (.t 96) (.t 103) (.c (.bool false))⟩,
    ⟨some 105, none, .mov (.t 104)⟩,
    ⟨some 106, some (105, true), .mkSl 1 1 [.int .u8 0] (.c (.int .i64 5001)) (.c (.int .i64 5001))⟩,
    ⟨some 107, some (105, true), .call 16 [.t 106]⟩,
    ⟨some 108, some (105, true), .lenV (.t 107)⟩,
    ⟨some 109, some (105, true), .bin .eql (.t 108) (.c (.int .i64 0))⟩,
    ⟨some 110, none, .pick (.t 105) (.t 109) (.c (.bool false))⟩,
    ⟨some 111, none, .mov (.t 110)⟩,
    ⟨some 112, some (111, true), .mkSl 1 1 [.int .u8 0] (.c (.int .i64 5000)) (.c (.int .i64 5000))⟩,
    ⟨some 113, some (111, true), .call 16 [.t 112]⟩,
    ⟨some 114, some (111, true), .lenV (.t 113)⟩,
    ⟨some 115, some (111, true), .bin .eql (.t 114) (.c (.int .i64 5002))⟩,
    ⟨some 116, none, .pick (.t 111) (.t 115) (.c (.bool false))⟩,
    ⟨some 6, none, .mov (.t 116)⟩] [6])
   (.ret)))))))),
  [.t 6], 117, 3⟩
def A4 : Ann := ⟨[(0, [0, 1, 2]), (1, [0, 1, 2, 14]), (2, [6]), (3, [0, 1, 2, 22]), (4, [6]), (5, [0, 1, 2, 7]), (6, [0, 1, 2, 7, 8]), (7, [0, 1, 2, 7, 9, 10]), (8, [0, 1, 7, 9, 10, 43]), (9, [0, 7, 9, 10, 11, 12]), (10, [6]), (11, [6])], [(10, [(0, []), (1, []), (2, []), (3, []), (4, []), (5, []), (6, []), (7, []), (8, []), (9, []), (10, []), (11, []), (12, []), (13, []), (14, []), (15, []), (16, []), (17, []), (18, []), (19, []), (20, []), (21, []), (22, []), (23, []), (24, []), (25, []), (26, []), (27, []), (28, []), (29, []), (30, []), (31, []), (32, []), (33, []), (34, [])], [(1, [0]), (2, [0, 1]), (3, [0, 1, 2]), (4, [0, 1, 2, 3]), (5, [0, 1, 2, 3, 4]), (6, [0, 1, 2, 3, 4, 5]), (7, [0, 1, 2, 3, 4, 5, 6]), (8, [0, 1, 2, 3, 4, 5, 6, 7]), (9, [0, 1, 2, 3, 4, 5, 6, 7, 8]), (10, [0, 1, 2, 3, 4, 5, 6, 7, 8, 9]), (11, [0, 1, 2, 3, 4, 5, 6, 7, 8, 9, 10]), (12, [0, 1, 2, 3, 4, 5, 6, 7]), (13, [0, 1, 2, 3, 4, 5, 6, 7, 12]), (14, [0, 1, 2, 3, 4, 5, 6, 7, 8, 9, 10, 11, 12, 13]), (15, [0, 1, 2, 3, 4, 5, 6, 7, 8, 9, 10, 11, 12, 13, 14]), (16, [0, 1, 2, 3, 4, 5, 6, 7, 8, 9, 10, 11, 12, 13, 14, 15]), (17, [0, 1, 2, 3, 4, 5, 6, 7, 8, 9, 10, 11, 12, 13, 14, 15, 16]), (18, [0, 1, 2, 3, 4, 5, 6, 7, 8, 9, 10, 11, 12, 13, 14, 15, 16, 17]), (19, [0, 1, 2, 3, 4, 5, 6, 7, 8, 9, 10, 11, 12, 13, 14, 15, 16, 17, 18]), (20, [0, 1, 2, 3, 4, 5, 6, 7, 8, 9, 10, 11, 12, 13, 14, 15, 16, 17, 18, 19]), (21, [0, 1, 2, 3, 4, 5, 6, 7, 8, 9, 10, 11, 12, 13, 14, 15, 16, 17, 18, 19, 20]), (22, [0, 1, 2, 3, 4, 5, 6, 7, 8, 9, 10, 11, 12, 13, 14, 15, 16, 17, 18, 19, 20, 21]), (23, [0, 1, 2, 3, 4, 5, 6, 7, 8, 9, 10, 11, 12, 13, 14, 15, 16, 17, 18, 19, 20, 21, 22]), (24, [0, 1, 2, 3, 4, 5, 6, 7, 8, 9, 10, 11, 12, 13, 14, 15, 16, 17, 18, 19, 20, 21, 22, 23]), (25, [0, 1, 2, 3, 4, 5, 6, 7, 8, 9, 10, 11, 12, 13, 14, 15, 16, 17, 18, 19, 20, 21, 22, 23, 24]), (26, [0, 1, 2, 3, 4, 5, 6, 7, 8, 9, 10, 11, 12, 13, 14, 15, 16, 17, 18, 19, 20, 21, 22, 23, 24, 25]), (27, [0, 1, 2, 3, 4, 5, 6, 7, 8, 9, 10, 11, 12, 13, 14, 15, 16, 17, 18, 19, 20, 21, 22, 23, 24, 25, 26]), (28, [0, 1, 2, 3, 4, 5, 6, 7, 8, 9, 10, 11, 12, 13, 14, 15, 16, 17, 18, 19, 20, 21, 22, 23, 24, 25, 26, 27]), (29, [0, 1, 2, 3, 4, 5, 6, 7, 8, 9, 10, 11, 12, 13, 14, 15, 16, 17, 18, 19, 20, 21, 22, 23, 24, 25, 26, 27, 28]), (30, [0, 1, 2, 3, 4, 5, 6, 7, 8, 9, 10, 11, 12, 13, 14, 15, 16, 17, 18, 19, 20, 21, 22, 23, 24, 25, 26, 27, 28, 29]), (31, [0, 1, 2, 3, 4, 5, 6, 7, 8, 9, 10, 11, 12, 13, 14, 15, 16, 17, 18, 19, 20, 21, 22, 23, 24, 25, 26, 27, 28, 29, 30]), (32, [0, 1, 2, 3, 4, 5, 6, 7, 8, 9, 10, 11, 12, 13, 14, 15, 16, 17, 18, 19, 20, 21, 22, 23, 24, 25, 26, 27, 28, 29, 30, 31]), (33, [0, 1, 2, 3, 4, 5, 6, 7, 8, 9, 10, 11, 12, 13, 14, 15, 16, 17, 18, 19, 20, 21, 22, 23, 24, 25, 26, 27, 28, 29, 30, 31, 32]), (34, [0, 1, 2, 3, 4, 5, 6, 7, 8, 9, 10, 11, 12, 13, 14, 15, 16, 17, 18, 19, 20, 21, 22, 23, 24, 25, 26, 27, 28, 29, 30, 31, 32, 33])]),
  (11, [(0, []), (1, []), (2, []), (3, []), (4, []), (5, []), (6, []), (7, []), (8, []), (9, []), (10, []), (11, []), (12, []), (13, []), (14, []), (15, []), (16, []), (17, []), (18, []), (19, []), (20, []), (21, []), (22, []), (23, []), (24, []), (25, []), (26, []), (27, []), (28, []), (29, []), (30, []), (31, []), (32, [])], [(1, [0]), (2, [0, 1]), (3, [0, 1, 2]), (4, [0, 1, 2, 3]), (5, [0, 1, 2, 3, 4]), (6, [0, 1, 2, 3, 4, 5]), (7, [0, 1, 2, 3, 4, 5, 6]), (8, [0, 1, 2, 3, 4, 5, 6, 7]), (9, [0, 1, 2, 3, 4, 5, 6, 7, 8]), (10, [0, 1, 2, 3, 4, 5, 6, 7, 8, 9]), (11, [0, 1, 2, 3, 4, 5, 6, 7, 8, 9, 10]), (12, [0, 1, 2, 3, 4, 5, 6, 7, 8, 9, 10, 11]), (13, [0, 1, 2, 3, 4, 5, 6, 7, 8, 9, 10, 11, 12]), (14, [0, 1, 2, 3, 4, 5, 6, 7, 8, 9, 10, 11, 12, 13]), (15, [0, 1, 2, 3, 4, 5, 6, 7, 8, 9, 10, 11, 12, 13, 14]), (16, [0, 1, 2, 3, 4, 5, 6, 7, 8, 9, 10, 11]), (17, [0, 1, 2, 3, 4, 5, 6, 7, 8, 9, 10, 11, 16]), (18, [0, 1, 2, 3, 4, 5, 6, 7, 8, 9, 10, 11, 12, 13, 14, 15, 16, 17]), (19, [0, 1, 2, 3, 4, 5, 6, 7, 8, 9, 10, 11, 12, 13, 14, 15, 16, 17, 18]), (20, [0, 1, 2, 3, 4, 5, 6, 7, 8, 9, 10, 11, 12, 13, 14, 15, 16, 17, 18, 19]), (21, [0, 1, 2, 3, 4, 5, 6, 7, 8, 9, 10, 11, 12, 13, 14, 15, 16, 17, 18, 19, 20]), (22, [0, 1, 2, 3, 4, 5, 6, 7, 8, 9, 10, 11, 12, 13, 14, 15, 16, 17, 18, 19, 20, 21]), (23, [0, 1, 2, 3, 4, 5, 6, 7, 8, 9, 10, 11, 12, 13, 14, 15, 16, 17, 18, 19, 20, 21, 22]), (24, [0, 1, 2, 3, 4, 5, 6, 7, 8, 9, 10, 11, 12, 13, 14, 15, 16, 17, 18, 19, 20, 21, 22, 23]), (25, [0, 1, 2, 3, 4, 5, 6, 7, 8, 9, 10, 11, 12, 13, 14, 15, 16, 17, 18, 19, 20, 21, 22, 23, 24]), (26, [0, 1, 2, 3, 4, 5, 6, 7, 8, 9, 10, 11, 12, 13, 14, 15, 16, 17, 18, 19, 20, 21, 22, 23, 24, 25]), (27, [0, 1, 2, 3, 4, 5, 6, 7, 8, 9, 10, 11, 12, 13, 14, 15, 16, 17, 18, 19, 20, 21, 22, 23, 24, 25, 26]), (28, [0, 1, 2, 3, 4, 5, 6, 7, 8, 9, 10, 11, 12, 13, 14, 15, 16, 17, 18, 19, 20, 21, 22, 23, 24, 25, 26, 27]), (29, [0, 1, 2, 3, 4, 5, 6, 7, 8, 9, 10, 11, 12, 13, 14, 15, 16, 17, 18, 19, 20, 21, 22, 23, 24, 25, 26, 27, 28]), (30, [0, 1, 2, 3, 4, 5, 6, 7, 8, 9, 10, 11, 12, 13, 14, 15, 16, 17, 18, 19, 20, 21, 22, 23, 24, 25, 26, 27, 28, 29]), (31, [0, 1, 2, 3, 4, 5, 6, 7, 8, 9, 10, 11, 12, 13, 14, 15, 16, 17, 18, 19, 20, 21, 22, 23, 24, 25, 26, 27, 28, 29, 30]), (32, [0, 1, 2, 3, 4, 5, 6, 7, 8, 9, 10, 11, 12, 13, 14, 15, 16, 17, 18, 19, 20, 21, 22, 23, 24, 25, 26, 27, 28, 29, 30, 31])])]⟩
set_option maxRecDepth 100000 in
theorem F4.ok : compF Try.prog A4 Try.f4 = some F4 := by kernel_rfl
theorem F4.fok : FOk Try.prog 4 F4 := fok_of mixed Try.func4 F4.ok

/-- cloakroom/cloakroomlaw2.FrameRest -/
def F5 : SFn := ⟨.seq (.region [⟨some 4, none, .mov (.c (.bool false))⟩] [0, 1])
   (.seq (.seq (.region [⟨some 13, none, .call 15 []⟩,
    ⟨some 14, none, .un .not (.t 13)⟩] [0, 1, 14])
   (.cond (.t 14) (.seq (.region [⟨some 4, none, .mov (.c (.bool false))⟩] [4])
   (.ret)) (.skip)))
   (.seq (.seq (.region [⟨some 15, none, .mov (.t 0)⟩,
    ⟨some 16, none, .lenV (.t 15)⟩,
    ⟨some 17, none, .bin .gtr (.t 16) (.c (.int .i64 40))⟩] [0, 1, 17])
   (.cond (.t 17) (.seq (.region [⟨some 4, none, .mov (.c (.bool true))⟩] [4])
   (.ret)) (.skip)))
   (.seq (.region [⟨some 18, none, .mov (.t 0)⟩,
    ⟨some 19, none, .call 16 [.t 18]⟩,
    ⟨some 5, none, .mov (.t 19)⟩] [0, 1, 5])
   (.seq (.region [⟨some 20, none, .mov (.t 1)⟩,
    ⟨some 21, none, .conv .i64 (.t 20)⟩,
    ⟨some 22, none, .mov (.t 0)⟩,
    ⟨some 23, none, .lenV (.t 22)⟩,
    ⟨some 24, none, .bin .add (.t 23) (.c (.int .i64 2))⟩,
    ⟨some 25, none, .bin .rem (.t 21) (.t 24)⟩,
    ⟨some 6, none, .mov (.t 25)⟩] [0, 5, 6])
   (.seq (.region [⟨some 26, none, .call 17 []⟩,
    ⟨some 7, none, .mov (.t 26)⟩] [0, 5, 6, 7])
   (.seq (.seq (.region [⟨some 27, none, .mov (.t 5)⟩,
    ⟨some 28, none, .lenV (.t 27)⟩,
    ⟨some 29, none, .mov (.t 0)⟩,
    ⟨some 30, none, .lenV (.t 29)⟩,
    ⟨some 31, none, .bin .add (.t 30) (.c (.int .i64 2))⟩,
    ⟨some 32, none, .bin .neq (.t 28) (.t 31)⟩] [0, 5, 6, 7, 32])
   (.cond (.t 32) (.seq (.region [⟨some 4, none, .mov (.c (.bool false))⟩] [4])
   (.ret)) (.skip)))
   (.seq (.region [⟨some 34, none, .mov (.t 7)⟩,
    ⟨some 35, none, .mov (.t 5)⟩,
    ⟨some 36, none, .mov (.t 6)⟩,
    ⟨some 37, none, .slV 1 (.t 35) none (some (.t 36)) none⟩,
    ⟨some 38, none, .call 18 [.t 34, .t 37]⟩,
    ⟨some 33, none, .mov (.t 38)⟩,
    ⟨some 39, none, .ext (.t 33) 0⟩,
    ⟨some 40, none, .ext (.t 33) 1⟩,
    ⟨some 8, none, .mov (.t 39)⟩,
    ⟨some 9, none, .mov (.t 40)⟩] [0, 5, 6, 7, 8, 9])
   (.seq (.region [⟨some 41, none, .mov (.t 7)⟩,
    ⟨some 42, none, .call 20 [.t 41]⟩,
    ⟨some 10, none, .mov (.t 42)⟩] [0, 5, 6, 7, 8, 9, 10])
   (.seq (.region [⟨some 44, none, .mov (.t 7)⟩,
    ⟨some 45, none, .mov (.t 5)⟩,
    ⟨some 46, none, .mov (.t 6)⟩,
    ⟨some 47, none, .slV 1 (.t 45) (some (.t 46)) none none⟩,
    ⟨some 48, none, .call 18 [.t 44, .t 47]⟩,
    ⟨some 43, none, .mov (.t 48)⟩,
    ⟨some 49, none, .ext (.t 43) 0⟩,
    ⟨some 50, none, .ext (.t 43) 1⟩,
    ⟨some 11, none, .mov (.t 49)⟩,
    ⟨some 12, none, .mov (.t 50)⟩] [0, 6, 7, 8, 9, 10, 11, 12])
   (.seq (.region [⟨some 51, none, .mov (.t 9)⟩,
    ⟨some 52, none, .bin .eql (.t 51) (.c (.int .i64 0))⟩,
    ⟨some 53, none, .mov (.t 52)⟩,
    ⟨some 54, some (53, true), .mov (.t 8)⟩,
    ⟨some 55, some (53, true), .lenV (.t 54)⟩,
    ⟨some 56, some (53, true), .bin .eql (.t 55) (.c (.int .i64 0))⟩,
    ⟨some 57, none, .pick (.t 53) (.t 56) (.c (.bool false))⟩,
    ⟨some 58, none, .mov (.t 57)⟩,
    ⟨some 59, some (58, true), .mov (.t 10)⟩,
    ⟨some 60, some (58, true), .mov (.t 6)⟩,
    ⟨some 61, some (58, true), .bin .eql (.t 59) (.t 60)⟩,
    ⟨some 62, none, .pick (.t 58) (.t 61) (.c (.bool false))⟩,
    ⟨some 63, none, .mov (.t 62)⟩,
    ⟨some 64, some (63, true), .mov (.t 12)⟩,
    ⟨some 65, some (63, true), .bin .eql (.t 64) (.c (.int .i64 0))⟩,
    ⟨some 66, none, .pick (.t 63) (.t 65) (.c (.bool false))⟩,
    ⟨some 67, none, .mov (.t 66)⟩,
    ⟨some 68, some (67, true), .mov (.t 11)⟩,
    ⟨some 69, some (67, true), .lenV (.t 68)⟩,
    ⟨some 70, some (67, true), .bin .eql (.t 69) (.c (.int .i64 1))⟩,
    ⟨some 71, none, .pick (.t 67) (.t 70) (.c (.bool false))⟩,
    ⟨some 72, none, .mov (.t 71)⟩,
    ⟨some 73, some (72, true), .mov (.t 11)⟩,
    ⟨some 74, some (72, true), .iaV 1 (.t 73) (.c (.int .i64 0))⟩,
    ⟨some 75, some (72, true), .ld 1 false (.t 74)⟩,
    ⟨some 76, some (72, true), .toStr (.t 75)⟩,
    ⟨some 77, some (72, true), .mov (.t 0)⟩,
    ⟨some 78, some (72, true), .toStr (.t 77)⟩,
    ⟨some 79, some (72, true), .bin .eql (.t 76) (.t 78)⟩,
    ⟨some 80, none, .pick (.t 72) (.t 79) (.c (.bool false))⟩,
    ⟨some 81, none, .mov (.t 80)⟩,
    ⟨some 82, some (81, true), .mov (.t 7)⟩,
    ⟨some 83, some (81, true), .call 20 [.t 82]⟩,
    ⟨some 84, some (81, true), .bin .eql (.t 83) (.c (.int .i64 0))⟩,
    ⟨some 85, none, .pick (.t 81) (.t 84) (.c (.bool false))⟩,
    ⟨some 4, none, .mov (.t 85)⟩] [4])
   (.ret))))))))))),
  [.t 4], 86, 2⟩
def A5 : Ann := ⟨[(0, [0, 1]), (1, [0, 1, 14]), (2, [4]), (3, [0, 1, 17]), (4, [4]), (5, [0, 1, 5]), (6, [0, 5, 6]), (7, [0, 5, 6, 7]), (8, [0, 5, 6, 7, 32]), (9, [4]), (10, [0, 5, 6, 7, 8, 9]), (11, [0, 5, 6, 7, 8, 9, 10]), (12, [0, 6, 7, 8, 9, 10, 11, 12]), (13, [4])], [(13, [(0, []), (1, []), (2, []), (3, []), (4, []), (5, []), (6, []), (7, []), (8, []), (9, []), (10, []), (11, []), (12, []), (13, []), (14, []), (15, []), (16, []), (17, []), (18, []), (19, []), (20, []), (21, []), (22, []), (23, []), (24, []), (25, []), (26, []), (27, []), (28, []), (29, []), (30, []), (31, []), (32, []), (33, []), (34, []), (35, [])], [(1, [0]), (2, [0, 1]), (3, [0, 1, 2]), (4, [0, 1, 2, 3]), (5, [0, 1, 2, 3, 4]), (6, [0, 1, 2, 3, 4, 5]), (7, [0, 1, 2, 3, 4, 5, 6]), (8, [0, 1, 2, 3, 4, 5, 6, 7]), (9, [0, 1, 2, 3, 4, 5, 6, 7]), (10, [0, 1, 2, 3, 4, 5, 6, 7, 8, 9]), (11, [0, 1, 2, 3, 4, 5, 6, 7, 8, 9, 10]), (12, [0, 1, 2, 3, 4, 5, 6, 7, 8, 9, 10, 11]), (13, [0, 1, 2, 3, 4, 5, 6, 7, 8, 9, 10, 11, 12]), (14, [0, 1, 2, 3, 4, 5, 6, 7, 8, 9, 10, 11, 12, 13]), (15, [0, 1, 2, 3, 4, 5, 6, 7, 8, 9, 10, 11, 12, 13, 14]), (16, [0, 1, 2, 3, 4, 5, 6, 7, 8, 9, 10, 11, 12, 13, 14, 15]), (17, [0, 1, 2, 3, 4, 5, 6, 7, 8, 9, 10, 11, 12, 13, 14, 15, 16]), (18, [0, 1, 2, 3, 4, 5, 6, 7, 8, 9, 10, 11, 12, 13, 14, 15, 16, 17]), (19, [0, 1, 2, 3, 4, 5, 6, 7, 8, 9, 10, 11, 12, 13, 14, 15, 16, 17, 18]), (20, [0, 1, 2, 3, 4, 5, 6, 7, 8, 9, 10, 11, 12, 13, 14, 15, 16, 17, 18, 19]), (21, [0, 1, 2, 3, 4, 5, 6, 7, 8, 9, 10, 11, 12, 13, 14, 15, 16, 17, 18, 19, 20]), (22, [0, 1, 2, 3, 4, 5, 6, 7, 8, 9, 10, 11, 12, 13, 14, 15, 16, 17, 18, 19, 20, 21]), (23, [0, 1, 2, 3, 4, 5, 6, 7, 8, 9, 10, 11, 12, 13, 14, 15, 16, 17, 18, 19, 20, 21, 22]), (24, [0, 1, 2, 3, 4, 5, 6, 7, 8, 9, 10, 11, 12, 13, 14, 15, 16, 17, 18, 19, 20, 21, 22, 23]), (25, [0, 1, 2, 3, 4, 5, 6, 7, 8, 9, 10, 11, 12, 13, 14, 15, 16, 17, 18, 19, 20, 21, 22, 23, 24]), (26, [0, 1, 2, 3, 4, 5, 6, 7, 8, 9, 10, 11, 12, 13, 14, 15, 16, 17, 18, 19, 20, 21]), (27, [0, 1, 2, 3, 4, 5, 6, 7, 8, 9, 10, 11, 12, 13, 14, 15, 16, 17, 18, 19, 20, 21, 26]), (28, [0, 1, 2, 3, 4, 5, 6, 7, 8, 9, 10, 11, 12, 13, 14, 15, 16, 17, 18, 19, 20, 21, 22, 23, 24, 25, 26, 27]), (29, [0, 1, 2, 3, 4, 5, 6, 7, 8, 9, 10, 11, 12, 13, 14, 15, 16, 17, 18, 19, 20, 21, 22, 23, 24, 25, 26, 27, 28]), (30, [0, 1, 2, 3, 4, 5, 6, 7, 8, 9, 10, 11, 12, 13, 14, 15, 16, 17, 18, 19, 20, 21, 22, 23, 24, 25, 26, 27, 28, 29]), (31, [0, 1, 2, 3, 4, 5, 6, 7, 8, 9, 10, 11, 12, 13, 14, 15, 16, 17, 18, 19, 20, 21, 22, 23, 24, 25, 26, 27, 28, 29, 30]), (32, [0, 1, 2, 3, 4, 5, 6, 7, 8, 9, 10, 11, 12, 13, 14, 15, 16, 17, 18, 19, 20, 21, 22, 23, 24, 25, 26, 27, 28, 29, 30, 31]), (33, [0, 1, 2, 3, 4, 5, 6, 7, 8, 9, 10, 11, 12, 13, 14, 15, 16, 17, 18, 19, 20, 21, 22, 23, 24, 25, 26, 27, 28, 29, 30, 31, 32]), (34, [0, 1, 2, 3, 4, 5, 6, 7, 8, 9, 10, 11, 12, 13, 14, 15, 16, 17, 18, 19, 20, 21, 22, 23, 24, 25, 26, 27, 28, 29, 30, 31, 32, 33]), (35, [0, 1, 2, 3, 4, 5, 6, 7, 8, 9, 10, 11, 12, 13, 14, 15, 16, 17, 18, 19, 20, 21, 22, 23, 24, 25, 26, 27, 28, 29, 30, 31, 32, 33, 34])])]⟩
set_option maxRecDepth 100000 in
theorem F5.ok : compF Try.prog A5 Try.f5 = some F5 := by kernel_rfl
theorem F5.fok : FOk Try.prog 5 F5 := fok_of mixed Try.func5 F5.ok

/-- cloakroom/cloakroomlaw2.FrameAll -/
def F6 : SFn := ⟨.seq (.region [⟨some 2, none, .mov (.c (.bool false))⟩] [0])
   (.seq (.seq (.region [⟨some 14, none, .call 15 []⟩,
    ⟨some 15, none, .un .not (.t 14)⟩] [0, 15])
   (.cond (.t 15) (.seq (.region [⟨some 2, none, .mov (.c (.bool false))⟩] [2])
   (.ret)) (.skip)))
   (.seq (.seq (.region [⟨some 16, none, .mov (.t 0)⟩,
    ⟨some 17, none, .lenV (.t 16)⟩,
    ⟨some 18, none, .bin .gtr (.t 17) (.c (.int .i64 20))⟩] [0, 18])
   (.cond (.t 18) (.seq (.region [⟨some 2, none, .mov (.c (.bool true))⟩] [2])
   (.ret)) (.skip)))
   (.seq (.region [⟨some 19, none, .call 17 []⟩,
    ⟨some 20, none, .build [.slice none 0 0, .bool false] []⟩,
    ⟨some 21, none, .box (.t 20)⟩,
    ⟨some 3, none, .mov (.t 19)⟩,
    ⟨some 4, none, .mov (.t 21)⟩] [0, 3, 4])
   (.seq (.seq (.region [⟨some 5, none, .mov (.c (.int .i64 0))⟩] [0, 3, 4, 5])
   (.block 0 (.loop (.seq (.seq (.region [⟨some 22, none, .mov (.t 5)⟩,
    ⟨some 23, none, .mov (.t 0)⟩,
    ⟨some 24, none, .lenV (.t 23)⟩,
    ⟨some 25, none, .bin .lss (.t 22) (.t 24)⟩] [0, 3, 4, 5, 25])
   (.cond (.t 25) (.skip) (.exit 0)))
   (.seq (.block 1 (.seq (.seq (.region [⟨some 28, none, .mov (.t 0)⟩,
    ⟨some 29, none, .mov (.t 5)⟩,
    ⟨some 30, none, .iaV 1 (.t 28) (.t 29)⟩,
    ⟨some 31, none, .ld 1 false (.t 30)⟩,
    ⟨some 32, none, .lenV (.t 31)⟩,
    ⟨some 33, none, .bin .gtr (.t 32) (.c (.int .i64 60))⟩] [0, 3, 4, 5, 33])
   (.cond (.t 33) (.seq (.region [⟨some 2, none, .mov (.c (.bool true))⟩] [2])
   (.ret)) (.skip)))
   (.seq (.region [⟨some 35, none, .mov (.t 3)⟩,
    ⟨some 36, none, .mov (.t 0)⟩,
    ⟨some 37, none, .mov (.t 5)⟩,
    ⟨some 38, none, .iaV 1 (.t 36) (.t 37)⟩,
    ⟨some 39, none, .ld 1 false (.t 38)⟩,
    ⟨some 40, none, .call 18 [.t 35, .t 39]⟩,
    ⟨some 34, none, .mov (.t 40)⟩,
    ⟨some 41, none, .ext (.t 34) 0⟩,
    ⟨some 42, none, .ext (.t 34) 1⟩,
    ⟨some 6, none, .mov (.t 41)⟩,
    ⟨some 7, none, .mov (.t 42)⟩] [0, 3, 4, 5, 6, 7])
   (.seq (.region [⟨some 44, none, .mov (.t 4)⟩,
    ⟨some 45, none, .mov (.t 0)⟩,
    ⟨some 46, none, .mov (.t 5)⟩,
    ⟨some 47, none, .iaV 1 (.t 45) (.t 46)⟩,
    ⟨some 48, none, .ld 1 false (.t 47)⟩,
    ⟨some 49, none, .call 22 [.t 44, .t 48]⟩,
    ⟨some 43, none, .mov (.t 49)⟩,
    ⟨some 50, none, .ext (.t 43) 0⟩,
    ⟨some 51, none, .ext (.t 43) 1⟩,
    ⟨some 8, none, .mov (.t 50)⟩,
    ⟨some 9, none, .mov (.t 51)⟩] [0, 3, 4, 5, 6, 7, 8, 9])
   (.seq (.seq (.region [⟨some 52, none, .mov (.t 7)⟩,
    ⟨some 53, none, .mov (.t 9)⟩,
    ⟨some 54, none, .bin .neq (.t 52) (.t 53)⟩,
    ⟨some 55, none, .mov (.t 54)⟩,
    ⟨some 56, some (55, false), .mov (.t 6)⟩,
    ⟨some 57, some (55, false), .mov (.t 8)⟩,
    ⟨some 58, some (55, false), .call 19 [.t 56, .t 57]⟩,
    ⟨some 59, some (55, false), .un .not (.t 58)⟩,
    ⟨some 60, none, .pick (.t 55) (.c (.bool true)) (.t 59)⟩,
    ⟨some 61, none, .mov (.t 60)⟩,
    ⟨some 62, some (61, false), .mov (.t 3)⟩,
    ⟨some 64, some (61, false), .mov (.t 4)⟩,
    ⟨some 65, some (61, false), .nilc (.t 64)⟩,
    ⟨some 66, some (61, false), .fa 0 (.t 65)⟩,
    ⟨some 67, some (61, false), .ld 1 false (.t 66)⟩,
    ⟨some 68, some (61, false), .lenV (.t 67)⟩,
    ⟨some 63, some (61, false), .call 20 [.t 62]⟩,
    ⟨none, some (61, false), .chk 1 false (.t 66) 67⟩,
    ⟨some 69, some (61, false), .bin .neq (.t 63) (.t 68)⟩,
    ⟨some 70, none, .pick (.t 61) (.c (.bool true)) (.t 69)⟩,
    ⟨some 71, none, .mov (.t 70)⟩,
    ⟨some 72, some (71, false), .mov (.t 3)⟩,
    ⟨some 74, some (71, false), .mov (.t 4)⟩,
    ⟨some 75, some (71, false), .nilc (.t 74)⟩,
    ⟨some 76, some (71, false), .fa 1 (.t 75)⟩,
    ⟨some 77, some (71, false), .ld 1 false (.t 76)⟩,
    ⟨some 73, some (71, false), .call 21 [.t 72]⟩,
    ⟨none, some (71, false), .chk 1 false (.t 76) 77⟩,
    ⟨some 78, some (71, false), .eqk true .bool (.t 73) (.t 77)⟩,
    ⟨some 79, none, .pick (.t 71) (.c (.bool true)) (.t 78)⟩] [0, 3, 4, 5, 79])
   (.cond (.t 79) (.seq (.region [⟨some 2, none, .mov (.c (.bool false))⟩] [2])
   (.ret)) (.skip)))
   (.seq (.region [⟨some 80, none, .mov (.t 5)⟩,
    ⟨some 81, none, .mov (.t 0)⟩,
    ⟨some 82, none, .lenV (.t 81)⟩,
    ⟨some 83, none, .bin .quo (.t 82) (.c (.int .i64 2))⟩,
    ⟨some 84, none, .bin .eql (.t 80) (.t 83)⟩] [0, 3, 4, 5, 84])
   (.cond (.t 84) (.seq (.region [⟨some 85, none, .mov (.t 3)⟩,
    ⟨some 86, none, .call 23 [.t 85]⟩,
    ⟨some 10, none, .mov (.t 86)⟩] [0, 3, 4, 5, 10])
   (.region [⟨some 87, none, .mov (.t 10)⟩,
    ⟨some 88, none, .bslice 3 1 [.int .u8 0] [(0, 1, .c (.int .u8 0)), (1, 1, .c (.int .u8 0)), (2, 1, .c (.int .u8 9))]⟩,
    ⟨some 89, none, .call 18 [.t 87, .t 88]⟩] [0, 3, 4, 5])) (.skip))))))))
   (.region [⟨some 26, none, .mov (.t 5)⟩,
    ⟨some 27, none, .bin .add (.t 26) (.c (.int .i64 1))⟩,
    ⟨some 5, none, .mov (.t 27)⟩] [0, 3, 4, 5]))))))
   (.seq (.region [⟨some 11, none, .mov (.c (.pointer none))⟩] [11])
   (.seq (.region [⟨some 91, none, .mov (.t 11)⟩,
    ⟨some 92, none, .bslice 1 1 [.int .u8 0] [(0, 1, .c (.int .u8 1))]⟩,
    ⟨some 93, none, .call 18 [.t 91, .t 92]⟩,
    ⟨some 90, none, .mov (.t 93)⟩,
    ⟨some 94, none, .ext (.t 90) 0⟩,
    ⟨some 95, none, .ext (.t 90) 1⟩,
    ⟨some 12, none, .mov (.t 94)⟩,
    ⟨some 13, none, .mov (.t 95)⟩] [11, 13])
   (.seq (.region [⟨some 96, none, .mov (.t 13)⟩,
    ⟨some 97, none, .bin .eql (.t 96) (.c (.int .i64 1))⟩,
    ⟨some 98, none, .mov (.t 97)⟩,
    ⟨some 99, some (98, true), .mov (.t 11)⟩,
    ⟨some 100, some (98, true), .call 20 [.t 99]⟩,
    ⟨some 101, some (98, true), .bin .eql (.t 100) (.c (.int .i64 0))⟩,
    ⟨some 102, none, .pick (.t 98) (.t 101) (.c (.bool false))⟩,
    ⟨some 103, none, .mov (.t 102)⟩,
    ⟨some 104, some (103, true), .mov (.t 11)⟩,
    ⟨some 105, some (103, true), .call 21 [.t 104]⟩,
    ⟨some 106, some (103, true), .un .not (.t 105)⟩,
    ⟨some 107, none, .pick (.t 103) (.t 106) (.c (.bool false))⟩,
    ⟨some 108, none, .mov (.t 107)⟩,
    ⟨some 109, some (108, true), .mov (.t 11)⟩,
    ⟨some 110, some (108, true), .call 23 [.t 109]⟩,
    ⟨some 111, some (108, true), .eqk false .ptr (.t 110) (.c (.pointer none))⟩,
    ⟨some 112, none, .pick (.t 108) (.t 111) (.c (.bool false))⟩,
    ⟨some 2, none, .mov (.t 112)⟩] [2])
   (.ret)))))))),
  [.t 2], 113, 1⟩
def A6 : Ann := ⟨[(0, [0]), (1, [0, 15]), (2, [2]), (3, [0, 18]), (4, [2]), (5, [0, 3, 4]), (6, [0, 3, 4, 5]), (7, [0, 3, 4, 5, 25]), (8, [0, 3, 4, 5]), (9, [0, 3, 4, 5, 33]), (10, [2]), (11, [0, 3, 4, 5, 6, 7]), (12, [0, 3, 4, 5, 6, 7, 8, 9]), (13, [0, 3, 4, 5, 79]), (14, [2]), (15, [0, 3, 4, 5, 84]), (16, [0, 3, 4, 5, 10]), (17, [0, 3, 4, 5]), (18, [11]), (19, [11, 13]), (20, [2])], [(13, [(0, []), (1, []), (2, []), (3, []), (4, []), (5, []), (6, []), (7, []), (8, []), (9, []), (10, []), (12, []), (13, []), (14, []), (15, []), (16, []), (11, [15]), (17, []), (18, []), (19, []), (20, []), (22, []), (23, []), (24, []), (25, []), (21, [25]), (26, []), (27, [])], [(2, [0, 1]), (3, [0, 1, 2]), (4, [0, 1, 2, 3]), (5, [0, 1, 2, 3]), (6, [0, 1, 2, 3, 4, 5]), (7, [0, 1, 2, 3, 4, 5, 6]), (8, [0, 1, 2, 3, 4, 5, 6, 7]), (9, [0, 1, 2, 3, 4, 5, 6, 7, 8]), (10, [0, 1, 2, 3, 4, 5, 6, 7, 8, 9]), (11, [0, 1, 2, 3, 4, 5, 6, 7, 8, 9, 10]), (12, [0, 1, 2, 3, 4, 5, 6, 7, 8, 9]), (13, [0, 1, 2, 3, 4, 5, 6, 7, 8, 9, 12]), (14, [0, 1, 2, 3, 4, 5, 6, 7, 8, 9, 12, 13]), (15, [0, 1, 2, 3, 4, 5, 6, 7, 8, 9, 12, 13, 14]), (16, [0, 1, 2, 3, 4, 5, 6, 7, 8, 9, 12, 13, 14, 15]), (17, [0, 1, 2, 3, 4, 5, 6, 7, 8, 9, 10, 11, 12, 13, 14, 15, 16]), (18, [0, 1, 2, 3, 4, 5, 6, 7, 8, 9, 10, 11, 12, 13, 14, 15, 16, 17]), (19, [0, 1, 2, 3, 4, 5, 6, 7, 8, 9, 10, 11, 12, 13, 14, 15, 16, 17, 18]), (20, [0, 1, 2, 3, 4, 5, 6, 7, 8, 9, 10, 11, 12, 13, 14, 15, 16, 17, 18, 19]), (21, [0, 1, 2, 3, 4, 5, 6, 7, 8, 9, 10, 11, 12, 13, 14, 15, 16, 17, 18, 19, 20]), (22, [0, 1, 2, 3, 4, 5, 6, 7, 8, 9, 10, 11, 12, 13, 14, 15, 16, 17, 18, 19]), (23, [0, 1, 2, 3, 4, 5, 6, 7, 8, 9, 10, 11, 12, 13, 14, 15, 16, 17, 18, 19, 22]), (24, [0, 1, 2, 3, 4, 5, 6, 7, 8, 9, 10, 11, 12, 13, 14, 15, 16, 17, 18, 19, 22, 23]), (25, [0, 1, 2, 3, 4, 5, 6, 7, 8, 9, 10, 11, 12, 13, 14, 15, 16, 17, 18, 19, 22, 23, 24]), (26, [0, 1, 2, 3, 4, 5, 6, 7, 8, 9, 10, 11, 12, 13, 14, 15, 16, 17, 18, 19, 20, 21, 22, 23, 24, 25]), (27, [0, 1, 2, 3, 4, 5, 6, 7, 8, 9, 10, 11, 12, 13, 14, 15, 16, 17, 18, 19, 20, 21, 22, 23, 24, 25, 26])])]⟩
set_option maxRecDepth 100000 in
theorem F6.ok : compF Try.prog A6 Try.f6 = some F6 := by kernel_rfl
theorem F6.fok : FOk Try.prog 6 F6 := fok_of mixed Try.func6 F6.ok

/-- cloakroom/cloakroomlaw22.LockOrder -/
def F7 : SFn := ⟨.seq (.region [⟨some 4, none, .mov (.c (.bool false))⟩] [0, 1])
   (.seq (.seq (.region [⟨some 23, none, .call 24 []⟩,
    ⟨some 24, none, .un .not (.t 23)⟩] [0, 1, 24])
   (.cond (.t 24) (.seq (.region [⟨some 4, none, .mov (.c (.bool false))⟩] [4])
   (.ret)) (.skip)))
   (.seq (.seq (.region [⟨some 25, none, .mov (.t 1)⟩,
    ⟨some 26, none, .lenV (.t 25)⟩,
    ⟨some 27, none, .bin .gtr (.t 26) (.c (.int .i64 6))⟩] [0, 1, 27])
   (.cond (.t 27) (.seq (.region [⟨some 4, none, .mov (.c (.bool true))⟩] [4])
   (.ret)) (.skip)))
   (.seq (.region [⟨some 28, none, .call 25 []⟩,
    ⟨some 5, none, .mov (.t 28)⟩] [0, 1, 5])
   (.seq (.region [⟨some 29, none, .mov (.t 0)⟩,
    ⟨some 30, none, .conv .i64 (.t 29)⟩,
    ⟨some 31, none, .bin .rem (.t 30) (.c (.int .i64 4))⟩,
    ⟨some 32, none, .bin .add (.c (.int .i64 1)) (.t 31)⟩,
    ⟨some 6, none, .mov (.t 32)⟩] [1, 5, 6])
   (.seq (.region [⟨some 7, none, .mov (.c (.slice none 0 0))⟩] [1, 5, 6, 7])
   (.seq (.seq (.region [⟨some 8, none, .mov (.c (.int .i64 0))⟩] [1, 5, 6, 7, 8])
   (.block 0 (.loop (.seq (.seq (.region [⟨some 33, none, .mov (.t 8)⟩,
    ⟨some 34, none, .mov (.t 6)⟩,
    ⟨some 35, none, .bin .lss (.t 33) (.t 34)⟩] [1, 5, 6, 7, 8, 35])
   (.cond (.t 35) (.skip) (.exit 0)))
   (.seq (.block 1 (.seq (.region [⟨some 39, none, .mov (.t 5)⟩,
    ⟨some 40, none, .mov (.t 8)⟩,
    ⟨some 41, none, .bin .add (.c (.int .i64 10)) (.t 40)⟩,
    ⟨some 42, none, .conv .u64 (.t 41)⟩,
    ⟨some 43, none, .call 26 [.t 39, .t 42]⟩,
    ⟨some 38, none, .mov (.t 43)⟩,
    ⟨some 44, none, .ext (.t 38) 0⟩,
    ⟨some 45, none, .ext (.t 38) 1⟩,
    ⟨some 9, none, .mov (.t 44)⟩,
    ⟨some 10, none, .mov (.t 45)⟩] [1, 5, 6, 7, 8, 9, 10])
   (.seq (.seq (.region [⟨some 46, none, .mov (.t 10)⟩,
    ⟨some 47, none, .bin .neq (.t 46) (.c (.int .i64 0))⟩,
    ⟨some 48, none, .mov (.t 47)⟩,
    ⟨some 49, some (48, false), .mov (.t 9)⟩,
    ⟨some 50, some (48, false), .mov (.t 8)⟩,
    ⟨some 51, some (48, false), .bin .eql (.t 50) (.c (.int .i64 0))⟩,
    ⟨some 52, some (48, false), .eqk true .bool (.t 49) (.t 51)⟩,
    ⟨some 53, none, .pick (.t 48) (.c (.bool true)) (.t 52)⟩] [1, 5, 6, 7, 8, 53])
   (.cond (.t 53) (.seq (.region [⟨some 4, none, .mov (.c (.bool false))⟩] [4])
   (.ret)) (.skip)))
   (.region [⟨some 54, none, .mov (.t 7)⟩,
    ⟨some 55, none, .mov (.t 8)⟩,
    ⟨some 56, none, .bin .add (.c (.int .i64 10)) (.t 55)⟩,
    ⟨some 57, none, .conv .u64 (.t 56)⟩,
    ⟨some 58, none, .bslice 1 1 [.int .u64 0] [(0, 1, .t 57)]⟩,
    ⟨some 59, none, .app 1 8 (.t 54) (.t 58)⟩,
    ⟨some 7, none, .mov (.t 59)⟩] [1, 5, 6, 7, 8]))))
   (.region [⟨some 36, none, .mov (.t 8)⟩,
    ⟨some 37, none, .bin .add (.t 36) (.c (.int .i64 1))⟩,
    ⟨some 8, none, .mov (.t 37)⟩] [1, 5, 6, 7, 8]))))))
   (.seq (.seq (.region [⟨some 11, none, .mov (.c (.int .i64 0))⟩] [1, 5, 6, 7, 11])
   (.block 2 (.loop (.seq (.seq (.region [⟨some 60, none, .mov (.t 11)⟩,
    ⟨some 61, none, .mov (.t 1)⟩,
    ⟨some 62, none, .lenV (.t 61)⟩,
    ⟨some 63, none, .bin .lss (.t 60) (.t 62)⟩] [1, 5, 6, 7, 11, 63])
   (.cond (.t 63) (.skip) (.exit 2)))
   (.seq (.block 3 (.seq (.region [⟨some 66, none, .mov (.t 1)⟩,
    ⟨some 67, none, .mov (.t 11)⟩,
    ⟨some 68, none, .iaV 1 (.t 66) (.t 67)⟩,
    ⟨some 69, none, .ld 1 false (.t 68)⟩,
    ⟨some 70, none, .conv .i64 (.t 69)⟩,
    ⟨some 71, none, .mov (.t 6)⟩,
    ⟨some 72, none, .bin .rem (.t 70) (.t 71)⟩,
    ⟨some 73, none, .bin .add (.c (.int .i64 10)) (.t 72)⟩,
    ⟨some 74, none, .conv .u64 (.t 73)⟩,
    ⟨some 12, none, .mov (.t 74)⟩] [1, 5, 6, 7, 11, 12])
   (.seq (.seq (.region [⟨some 75, none, .mov (.t 12)⟩,
    ⟨some 76, none, .mov (.t 7)⟩,
    ⟨some 77, none, .iaV 1 (.t 76) (.c (.int .i64 0))⟩,
    ⟨some 78, none, .ld 1 false (.t 77)⟩,
    ⟨some 79, none, .bin .eql (.t 75) (.t 78)⟩] [1, 5, 6, 7, 11, 12, 79])
   (.cond (.t 79) (.exit 3) (.skip)))
   (.seq (.region [⟨some 81, none, .mov (.t 5)⟩,
    ⟨some 82, none, .mov (.t 12)⟩,
    ⟨some 83, none, .bslice 1 1 [.int .u64 0] [(0, 1, .t 82)]⟩,
    ⟨some 84, none, .call 27 [.t 81, .t 83]⟩,
    ⟨some 80, none, .mov (.t 84)⟩,
    ⟨some 85, none, .ext (.t 80) 0⟩,
    ⟨some 86, none, .ext (.t 80) 1⟩,
    ⟨some 13, none, .mov (.t 85)⟩,
    ⟨some 14, none, .mov (.t 86)⟩] [1, 5, 6, 7, 11, 12, 14])
   (.seq (.region [⟨some 15, none, .mov (.c (.slice none 0 0))⟩] [1, 5, 6, 7, 11, 12, 14, 15])
   (.seq (.seq (.region [⟨some 16, none, .mov (.c (.int .i64 0))⟩] [1, 5, 6, 7, 11, 12, 14, 15, 16])
   (.block 4 (.loop (.seq (.seq (.region [⟨some 87, none, .mov (.t 16)⟩,
    ⟨some 88, none, .mov (.t 7)⟩,
    ⟨some 89, none, .lenV (.t 88)⟩,
    ⟨some 90, none, .bin .lss (.t 87) (.t 89)⟩] [1, 5, 6, 7, 11, 12, 14, 15, 16, 90])
   (.cond (.t 90) (.skip) (.exit 4)))
   (.seq (.block 5 (.seq (.region [⟨some 93, none, .mov (.t 7)⟩,
    ⟨some 94, none, .mov (.t 16)⟩,
    ⟨some 95, none, .iaV 1 (.t 93) (.t 94)⟩,
    ⟨some 96, none, .ld 1 false (.t 95)⟩,
    ⟨some 97, none, .mov (.t 12)⟩,
    ⟨some 98, none, .bin .neq (.t 96) (.t 97)⟩] [1, 5, 6, 7, 11, 12, 14, 15, 16, 98])
   (.cond (.t 98) (.region [⟨some 99, none, .mov (.t 15)⟩,
    ⟨some 100, none, .mov (.t 7)⟩,
    ⟨some 101, none, .mov (.t 16)⟩,
    ⟨some 102, none, .iaV 1 (.t 100) (.t 101)⟩,
    ⟨some 103, none, .ld 1 false (.t 102)⟩,
    ⟨some 104, none, .bslice 1 1 [.int .u64 0] [(0, 1, .t 103)]⟩,
    ⟨some 105, none, .app 1 8 (.t 99) (.t 104)⟩,
    ⟨some 15, none, .mov (.t 105)⟩] [1, 5, 6, 7, 11, 12, 14, 15, 16]) (.skip))))
   (.region [⟨some 91, none, .mov (.t 16)⟩,
    ⟨some 92, none, .bin .add (.t 91) (.c (.int .i64 1))⟩,
    ⟨some 16, none, .mov (.t 92)⟩] [1, 5, 6, 7, 11, 12, 14, 15, 16]))))))
   (.seq (.region [⟨some 106, none, .mov (.t 15)⟩,
    ⟨some 7, none, .mov (.t 106)⟩] [1, 5, 6, 7, 11, 14])
   (.seq (.region [⟨some 107, none, .mov (.t 14)⟩] [1, 5, 6, 7, 11, 107])
   (.cond (.t 107) (.seq (.region [⟨some 4, none, .mov (.c (.bool false))⟩] [4])
   (.ret)) (.skip))))))))))
   (.region [⟨some 64, none, .mov (.t 11)⟩,
    ⟨some 65, none, .bin .add (.t 64) (.c (.int .i64 1))⟩,
    ⟨some 11, none, .mov (.t 65)⟩] [1, 5, 6, 7, 11]))))))
   (.seq (.block 6 (.loop (.seq (.seq (.region [⟨some 108, none, .mov (.t 7)⟩,
    ⟨some 109, none, .lenV (.t 108)⟩,
    ⟨some 110, none, .bin .gtr (.t 109) (.c (.int .i64 0))⟩] [5, 7, 110])
   (.cond (.t 110) (.skip) (.exit 6)))
   (.block 7 (.seq (.region [⟨some 112, none, .mov (.t 5)⟩,
    ⟨some 113, none, .call 28 [.t 112]⟩,
    ⟨some 111, none, .mov (.t 113)⟩,
    ⟨some 114, none, .ext (.t 111) 0⟩,
    ⟨some 115, none, .ext (.t 111) 1⟩,
    ⟨some 17, none, .mov (.t 114)⟩,
    ⟨some 18, none, .mov (.t 115)⟩] [5, 7, 17, 18])
   (.seq (.seq (.region [⟨some 116, none, .mov (.t 18)⟩,
    ⟨some 117, none, .un .not (.t 116)⟩,
    ⟨some 118, none, .mov (.t 117)⟩,
    ⟨some 119, some (118, false), .mov (.t 17)⟩,
    ⟨some 120, some (118, false), .mov (.t 7)⟩,
    ⟨some 121, some (118, false), .iaV 1 (.t 120) (.c (.int .i64 0))⟩,
    ⟨some 122, some (118, false), .ld 1 false (.t 121)⟩,
    ⟨some 123, some (118, false), .bin .neq (.t 119) (.t 122)⟩,
    ⟨some 124, none, .pick (.t 118) (.c (.bool true)) (.t 123)⟩] [5, 7, 17, 124])
   (.cond (.t 124) (.seq (.region [⟨some 4, none, .mov (.c (.bool false))⟩] [4])
   (.ret)) (.skip)))
   (.seq (.region [⟨some 126, none, .mov (.t 5)⟩,
    ⟨some 127, none, .mov (.t 17)⟩,
    ⟨some 128, none, .bslice 1 1 [.int .u64 0] [(0, 1, .t 127)]⟩,
    ⟨some 129, none, .call 27 [.t 126, .t 128]⟩,
    ⟨some 125, none, .mov (.t 129)⟩,
    ⟨some 130, none, .ext (.t 125) 0⟩,
    ⟨some 131, none, .ext (.t 125) 1⟩,
    ⟨some 19, none, .mov (.t 130)⟩,
    ⟨some 20, none, .mov (.t 131)⟩] [5, 7, 19, 20])
   (.seq (.region [⟨some 132, none, .mov (.t 7)⟩,
    ⟨some 133, none, .slV 1 (.t 132) (some (.c (.int .i64 1))) none none⟩,
    ⟨some 7, none, .mov (.t 133)⟩] [5, 7, 19, 20])
   (.seq (.region [⟨some 134, none, .mov (.t 20)⟩,
    ⟨some 135, none, .mov (.t 7)⟩,
    ⟨some 136, none, .lenV (.t 135)⟩,
    ⟨some 137, none, .bin .gtr (.t 136) (.c (.int .i64 0))⟩,
    ⟨some 138, none, .eqk true .bool (.t 134) (.t 137)⟩,
    ⟨some 139, none, .mov (.t 138)⟩,
    ⟨some 140, some (139, false), .mov (.t 20)⟩,
    ⟨some 141, some (139, false), .mov (.t 140)⟩,
    ⟨some 142, some (141, true), .mov (.t 19)⟩,
    ⟨some 143, some (141, true), .mov (.t 7)⟩,
    ⟨some 144, some (141, true), .iaV 1 (.t 143) (.c (.int .i64 0))⟩,
    ⟨some 145, some (141, true), .ld 1 false (.t 144)⟩,
    ⟨some 146, some (141, true), .bin .neq (.t 142) (.t 145)⟩,
    ⟨some 147, some (139, false), .pick (.t 141) (.t 146) (.c (.bool false))⟩,
    ⟨some 148, none, .pick (.t 139) (.c (.bool true)) (.t 147)⟩] [5, 7, 148])
   (.cond (.t 148) (.seq (.region [⟨some 4, none, .mov (.c (.bool false))⟩] [4])
   (.ret)) (.skip)))))))))))
   (.seq (.region [⟨some 150, none, .mov (.t 5)⟩,
    ⟨some 151, none, .call 28 [.t 150]⟩,
    ⟨some 149, none, .mov (.t 151)⟩,
    ⟨some 152, none, .ext (.t 149) 0⟩,
    ⟨some 153, none, .ext (.t 149) 1⟩,
    ⟨some 21, none, .mov (.t 152)⟩,
    ⟨some 22, none, .mov (.t 153)⟩] [22])
   (.seq (.region [⟨some 154, none, .mov (.t 22)⟩,
    ⟨some 155, none, .un .not (.t 154)⟩,
    ⟨some 4, none, .mov (.t 155)⟩] [4])
   (.ret))))))))))),
  [.t 4], 156, 2⟩
def A7 : Ann := ⟨[(0, [0, 1]), (1, [0, 1, 24]), (2, [4]), (3, [0, 1, 27]), (4, [4]), (5, [0, 1, 5]), (6, [1, 5, 6]), (7, [1, 5, 6, 7]), (8, [1, 5, 6, 7, 8]), (9, [1, 5, 6, 7, 8, 35]), (10, [1, 5, 6, 7, 8]), (11, [1, 5, 6, 7, 8, 9, 10]), (12, [1, 5, 6, 7, 8, 53]), (13, [4]), (14, [1, 5, 6, 7, 8]), (15, [1, 5, 6, 7, 11]), (16, [1, 5, 6, 7, 11, 63]), (17, [1, 5, 6, 7, 11]), (18, [1, 5, 6, 7, 11, 12]), (19, [1, 5, 6, 7, 11, 12, 79]), (20, [1, 5, 6, 7, 11, 12, 14]), (21, [1, 5, 6, 7, 11, 12, 14, 15]), (22, [1, 5, 6, 7, 11, 12, 14, 15, 16]), (23, [1, 5, 6, 7, 11, 12, 14, 15, 16, 90]), (24, [1, 5, 6, 7, 11, 12, 14, 15, 16]), (25, [1, 5, 6, 7, 11, 12, 14, 15, 16, 98]), (26, [1, 5, 6, 7, 11, 12, 14, 15, 16]), (27, [1, 5, 6, 7, 11, 14]), (28, [1, 5, 6, 7, 11, 107]), (29, [4]), (30, [5, 7, 110]), (31, [5, 7, 17, 18]), (32, [5, 7, 17, 124]), (33, [4]), (34, [5, 7, 19, 20]), (35, [5, 7, 19, 20]), (36, [5, 7, 148]), (37, [4]), (38, [22]), (39, [4])], []⟩
set_option maxRecDepth 100000 in
theorem F7.ok : compF Try.prog A7 Try.f7 = some F7 := by kernel_rfl
theorem F7.fok : FOk Try.prog 7 F7 := fok_of mixed Try.func7 F7.ok

/-- cloakroom/cloakroomlaw22.LockRoom -/
def F8 : SFn := ⟨.seq (.region [⟨some 2, none, .mov (.c (.bool false))⟩] [0])
   (.seq (.seq (.region [⟨some 12, none, .call 24 []⟩,
    ⟨some 13, none, .un .not (.t 12)⟩] [0, 13])
   (.cond (.t 13) (.seq (.region [⟨some 2, none, .mov (.c (.bool false))⟩] [2])
   (.ret)) (.skip)))
   (.seq (.region [⟨some 14, none, .call 25 []⟩,
    ⟨some 3, none, .mov (.t 14)⟩] [0, 3])
   (.seq (.region [⟨some 15, none, .mov (.t 0)⟩,
    ⟨some 16, none, .bin .rem (.t 15) (.c (.int .u8 12))⟩,
    ⟨some 17, none, .conv .i64 (.t 16)⟩,
    ⟨some 4, none, .mov (.t 17)⟩] [3, 4])
   (.seq (.seq (.region [⟨some 5, none, .mov (.c (.int .i64 0))⟩] [3, 4, 5])
   (.block 0 (.loop (.seq (.seq (.region [⟨some 18, none, .mov (.t 5)⟩,
    ⟨some 19, none, .mov (.t 4)⟩,
    ⟨some 20, none, .bin .lss (.t 18) (.t 19)⟩] [3, 4, 5, 20])
   (.cond (.t 20) (.skip) (.exit 0)))
   (.seq (.block 1 (.seq (.region [⟨some 24, none, .mov (.t 3)⟩,
    ⟨some 25, none, .mov (.t 5)⟩,
    ⟨some 26, none, .conv .u64 (.t 25)⟩,
    ⟨some 27, none, .call 26 [.t 24, .t 26]⟩,
    ⟨some 23, none, .mov (.t 27)⟩,
    ⟨some 28, none, .ext (.t 23) 0⟩,
    ⟨some 29, none, .ext (.t 23) 1⟩,
    ⟨some 6, none, .mov (.t 28)⟩,
    ⟨some 7, none, .mov (.t 29)⟩] [3, 4, 5, 6, 7])
   (.seq (.region [⟨some 8, none, .mov (.c (.int .i64 0))⟩] [3, 4, 5, 6, 7, 8])
   (.seq (.seq (.region [⟨some 30, none, .mov (.t 5)⟩,
    ⟨some 31, none, .bin .gtr (.t 30) (.c (.int .i64 3))⟩] [3, 4, 5, 6, 7, 8, 31])
   (.cond (.t 31) (.region [⟨some 8, none, .mov (.c (.int .i64 13))⟩] [3, 4, 5, 6, 7, 8]) (.skip)))
   (.seq (.region [⟨some 32, none, .mov (.t 7)⟩,
    ⟨some 33, none, .mov (.t 8)⟩,
    ⟨some 34, none, .bin .neq (.t 32) (.t 33)⟩,
    ⟨some 35, none, .mov (.t 34)⟩,
    ⟨some 36, some (35, false), .mov (.t 6)⟩,
    ⟨some 37, some (35, false), .mov (.t 5)⟩,
    ⟨some 38, some (35, false), .bin .eql (.t 37) (.c (.int .i64 0))⟩,
    ⟨some 39, some (35, false), .eqk true .bool (.t 36) (.t 38)⟩,
    ⟨some 40, none, .pick (.t 35) (.c (.bool true)) (.t 39)⟩] [3, 4, 5, 40])
   (.cond (.t 40) (.seq (.region [⟨some 2, none, .mov (.c (.bool false))⟩] [2])
   (.ret)) (.skip)))))))
   (.region [⟨some 21, none, .mov (.t 5)⟩,
    ⟨some 22, none, .bin .add (.t 21) (.c (.int .i64 1))⟩,
    ⟨some 5, none, .mov (.t 22)⟩] [3, 4, 5]))))))
   (.seq (.seq (.region [⟨some 9, none, .mov (.c (.int .i64 0))⟩] [3, 4, 9])
   (.block 2 (.loop (.seq (.seq (.region [⟨some 41, none, .mov (.t 9)⟩,
    ⟨some 42, none, .mov (.t 4)⟩,
    ⟨some 43, none, .mn (.t 42) (.c (.int .i64 4))⟩,
    ⟨some 44, none, .bin .lss (.t 41) (.t 43)⟩] [3, 4, 9, 44])
   (.cond (.t 44) (.skip) (.exit 2)))
   (.seq (.block 3 (.seq (.region [⟨some 48, none, .mov (.t 3)⟩,
    ⟨some 49, none, .mov (.t 9)⟩,
    ⟨some 50, none, .conv .u64 (.t 49)⟩,
    ⟨some 51, none, .call 26 [.t 48, .t 50]⟩,
    ⟨some 47, none, .mov (.t 51)⟩,
    ⟨some 52, none, .ext (.t 47) 0⟩,
    ⟨some 53, none, .ext (.t 47) 1⟩,
    ⟨some 10, none, .mov (.t 52)⟩,
    ⟨some 11, none, .mov (.t 53)⟩] [3, 4, 9, 11])
   (.seq (.region [⟨some 54, none, .mov (.t 11)⟩,
    ⟨some 55, none, .bin .neq (.t 54) (.c (.int .i64 11))⟩] [3, 4, 9, 55])
   (.cond (.t 55) (.seq (.region [⟨some 2, none, .mov (.c (.bool false))⟩] [2])
   (.ret)) (.skip)))))
   (.region [⟨some 45, none, .mov (.t 9)⟩,
    ⟨some 46, none, .bin .add (.t 45) (.c (.int .i64 1))⟩,
    ⟨some 9, none, .mov (.t 46)⟩] [3, 4, 9]))))))
   (.seq (.region [⟨some 56, none, .mov (.t 3)⟩,
    ⟨some 57, none, .call 29 [.t 56]⟩,
    ⟨some 58, none, .lenV (.t 57)⟩,
    ⟨some 59, none, .mov (.t 4)⟩,
    ⟨some 60, none, .bin .sub (.t 59) (.c (.int .i64 1))⟩,
    ⟨some 61, none, .mx (.t 60) (.c (.int .i64 0))⟩,
    ⟨some 62, none, .mn (.t 61) (.c (.int .i64 3))⟩,
    ⟨some 63, none, .bin .eql (.t 58) (.t 62)⟩,
    ⟨some 2, none, .mov (.t 63)⟩] [2])
   (.ret))))))),
  [.t 2], 64, 1⟩
def A8 : Ann := ⟨[(0, [0]), (1, [0, 13]), (2, [2]), (3, [0, 3]), (4, [3, 4]), (5, [3, 4, 5]), (6, [3, 4, 5, 20]), (7, [3, 4, 5]), (8, [3, 4, 5, 6, 7]), (9, [3, 4, 5, 6, 7, 8]), (10, [3, 4, 5, 6, 7, 8, 31]), (11, [3, 4, 5, 6, 7, 8]), (12, [3, 4, 5, 40]), (13, [2]), (14, [3, 4, 9]), (15, [3, 4, 9, 44]), (16, [3, 4, 9]), (17, [3, 4, 9, 11]), (18, [3, 4, 9, 55]), (19, [2]), (20, [2])], []⟩
set_option maxRecDepth 100000 in
theorem F8.ok : compF Try.prog A8 Try.f8 = some F8 := by kernel_rfl
theorem F8.fok : FOk Try.prog 8 F8 := fok_of mixed Try.func8 F8.ok

/-- cloakroom/cloakroomlaw22.LockLeaves -/
def F9 : SFn := ⟨.seq (.region [⟨some 2, none, .mov (.c (.bool false))⟩] [0])
   (.seq (.seq (.region [⟨some 18, none, .call 24 []⟩,
    ⟨some 19, none, .un .not (.t 18)⟩] [0, 19])
   (.cond (.t 19) (.seq (.region [⟨some 2, none, .mov (.c (.bool false))⟩] [2])
   (.ret)) (.skip)))
   (.seq (.seq (.region [⟨some 20, none, .mov (.t 0)⟩,
    ⟨some 21, none, .lenV (.t 20)⟩,
    ⟨some 22, none, .bin .gtr (.t 21) (.c (.int .i64 8))⟩] [0, 22])
   (.cond (.t 22) (.seq (.region [⟨some 2, none, .mov (.c (.bool true))⟩] [2])
   (.ret)) (.skip)))
   (.seq (.region [⟨some 23, none, .call 25 []⟩,
    ⟨some 24, none, .call 25 []⟩,
    ⟨some 3, none, .mov (.t 23)⟩,
    ⟨some 4, none, .mov (.t 24)⟩] [0, 3, 4])
   (.seq (.region [⟨some 5, none, .mov (.c (.slice none 0 0))⟩] [0, 3, 4, 5])
   (.seq (.seq (.region [⟨some 6, none, .mov (.c (.int .i64 0))⟩] [0, 3, 4, 5, 6])
   (.block 0 (.loop (.seq (.seq (.region [⟨some 25, none, .mov (.t 6)⟩,
    ⟨some 26, none, .bin .lss (.t 25) (.c (.int .i64 4))⟩] [0, 3, 4, 5, 6, 26])
   (.cond (.t 26) (.skip) (.exit 0)))
   (.seq (.block 1 (.seq (.region [⟨some 29, none, .mov (.t 3)⟩,
    ⟨some 30, none, .mov (.t 6)⟩,
    ⟨some 31, none, .conv .u64 (.t 30)⟩,
    ⟨some 32, none, .call 26 [.t 29, .t 31]⟩] [0, 3, 4, 5, 6])
   (.region [⟨some 33, none, .mov (.t 4)⟩,
    ⟨some 34, none, .mov (.t 6)⟩,
    ⟨some 35, none, .conv .u64 (.t 34)⟩,
    ⟨some 36, none, .call 26 [.t 33, .t 35]⟩] [0, 3, 4, 5, 6])))
   (.region [⟨some 27, none, .mov (.t 6)⟩,
    ⟨some 28, none, .bin .add (.t 27) (.c (.int .i64 1))⟩,
    ⟨some 6, none, .mov (.t 28)⟩] [0, 3, 4, 5, 6]))))))
   (.seq (.region [⟨some 7, none, .mov (.c (.int .u64 0))⟩] [0, 3, 4, 5, 7])
   (.seq (.seq (.region [⟨some 8, none, .mov (.c (.int .i64 0))⟩] [0, 3, 4, 5, 7, 8])
   (.block 2 (.loop (.seq (.seq (.region [⟨some 37, none, .mov (.t 8)⟩,
    ⟨some 38, none, .mov (.t 0)⟩,
    ⟨some 39, none, .lenV (.t 38)⟩,
    ⟨some 40, none, .bin .lss (.t 37) (.t 39)⟩] [0, 3, 4, 5, 7, 8, 40])
   (.cond (.t 40) (.skip) (.exit 2)))
   (.seq (.block 3 (.seq (.region [⟨some 43, none, .mov (.t 5)⟩,
    ⟨some 44, none, .mov (.t 0)⟩,
    ⟨some 45, none, .mov (.t 8)⟩,
    ⟨some 46, none, .iaV 1 (.t 44) (.t 45)⟩,
    ⟨some 47, none, .ld 1 false (.t 46)⟩,
    ⟨some 48, none, .bin .rem (.t 47) (.c (.int .u8 6))⟩,
    ⟨some 49, none, .conv .u64 (.t 48)⟩,
    ⟨some 50, none, .bslice 1 1 [.int .u64 0] [(0, 1, .t 49)]⟩,
    ⟨some 51, none, .app 1 8 (.t 43) (.t 50)⟩,
    ⟨some 5, none, .mov (.t 51)⟩] [0, 3, 4, 5, 7, 8])
   (.region [⟨some 52, none, .mov (.t 4)⟩,
    ⟨some 53, none, .mov (.t 0)⟩,
    ⟨some 54, none, .mov (.t 8)⟩,
    ⟨some 55, none, .iaV 1 (.t 53) (.t 54)⟩,
    ⟨some 56, none, .ld 1 false (.t 55)⟩,
    ⟨some 57, none, .bin .rem (.t 56) (.c (.int .u8 6))⟩,
    ⟨some 58, none, .conv .u64 (.t 57)⟩,
    ⟨some 59, none, .bslice 1 1 [.int .u64 0] [(0, 1, .t 58)]⟩,
    ⟨some 60, none, .call 27 [.t 52, .t 59]⟩] [0, 3, 4, 5, 7, 8])))
   (.region [⟨some 41, none, .mov (.t 8)⟩,
    ⟨some 42, none, .bin .add (.t 41) (.c (.int .i64 1))⟩,
    ⟨some 8, none, .mov (.t 42)⟩] [0, 3, 4, 5, 7, 8]))))))
   (.seq (.region [⟨some 62, none, .mov (.t 3)⟩,
    ⟨some 63, none, .mov (.t 5)⟩,
    ⟨some 64, none, .call 27 [.t 62, .t 63]⟩,
    ⟨some 61, none, .mov (.t 64)⟩,
    ⟨some 65, none, .ext (.t 61) 0⟩,
    ⟨some 66, none, .ext (.t 61) 1⟩,
    ⟨some 9, none, .mov (.t 65)⟩,
    ⟨some 10, none, .mov (.t 66)⟩] [3, 4, 7, 9, 10])
   (.seq (.region [⟨some 68, none, .mov (.t 3)⟩,
    ⟨some 69, none, .call 28 [.t 68]⟩,
    ⟨some 67, none, .mov (.t 69)⟩,
    ⟨some 70, none, .ext (.t 67) 0⟩,
    ⟨some 71, none, .ext (.t 67) 1⟩,
    ⟨some 11, none, .mov (.t 70)⟩,
    ⟨some 12, none, .mov (.t 71)⟩] [3, 4, 7, 9, 10, 11, 12])
   (.seq (.region [⟨some 73, none, .mov (.t 4)⟩,
    ⟨some 74, none, .call 28 [.t 73]⟩,
    ⟨some 72, none, .mov (.t 74)⟩,
    ⟨some 75, none, .ext (.t 72) 0⟩,
    ⟨some 76, none, .ext (.t 72) 1⟩,
    ⟨some 13, none, .mov (.t 75)⟩,
    ⟨some 14, none, .mov (.t 76)⟩] [3, 4, 7, 9, 10, 11, 12, 13, 14])
   (.seq (.region [⟨some 77, none, .mov (.t 3)⟩,
    ⟨some 78, none, .call 29 [.t 77]⟩,
    ⟨some 79, none, .mov (.t 4)⟩,
    ⟨some 80, none, .call 29 [.t 79]⟩,
    ⟨some 15, none, .mov (.t 78)⟩,
    ⟨some 16, none, .mov (.t 80)⟩] [7, 9, 10, 11, 12, 13, 14, 15, 16])
   (.seq (.seq (.region [⟨some 81, none, .mov (.t 12)⟩,
    ⟨some 82, none, .mov (.t 14)⟩,
    ⟨some 83, none, .eqk true .bool (.t 81) (.t 82)⟩,
    ⟨some 84, none, .mov (.t 83)⟩,
    ⟨some 85, some (84, false), .mov (.t 11)⟩,
    ⟨some 86, some (84, false), .mov (.t 13)⟩,
    ⟨some 87, some (84, false), .bin .neq (.t 85) (.t 86)⟩,
    ⟨some 88, none, .pick (.t 84) (.c (.bool true)) (.t 87)⟩,
    ⟨some 89, none, .mov (.t 88)⟩,
    ⟨some 90, some (89, false), .mov (.t 15)⟩,
    ⟨some 91, some (89, false), .lenV (.t 90)⟩,
    ⟨some 92, some (89, false), .mov (.t 16)⟩,
    ⟨some 93, some (89, false), .lenV (.t 92)⟩,
    ⟨some 94, some (89, false), .bin .neq (.t 91) (.t 93)⟩,
    ⟨some 95, none, .pick (.t 89) (.c (.bool true)) (.t 94)⟩,
    ⟨some 96, none, .mov (.t 95)⟩,
    ⟨some 97, some (96, false), .mov (.t 10)⟩,
    ⟨some 98, some (96, false), .mov (.t 12)⟩,
    ⟨some 99, some (96, false), .mov (.t 98)⟩,
    ⟨some 100, some (99, true), .mov (.t 11)⟩,
    ⟨some 101, some (99, true), .mov (.t 7)⟩,
    ⟨some 102, some (99, true), .bin .neq (.t 100) (.t 101)⟩,
    ⟨some 103, some (96, false), .pick (.t 99) (.t 102) (.c (.bool false))⟩,
    ⟨some 104, some (96, false), .eqk true .bool (.t 97) (.t 103)⟩,
    ⟨some 105, none, .pick (.t 96) (.c (.bool true)) (.t 104)⟩,
    ⟨some 106, none, .mov (.t 105)⟩,
    ⟨some 107, some (106, false), .mov (.t 10)⟩,
    ⟨some 108, some (106, false), .mov (.t 107)⟩,
    ⟨some 109, some (108, true), .mov (.t 9)⟩,
    ⟨some 110, some (108, true), .mov (.t 11)⟩,
    ⟨some 111, some (108, true), .bin .neq (.t 109) (.t 110)⟩,
    ⟨some 112, some (106, false), .pick (.t 108) (.t 111) (.c (.bool false))⟩,
    ⟨some 113, none, .pick (.t 106) (.c (.bool true)) (.t 112)⟩] [15, 16, 113])
   (.cond (.t 113) (.seq (.region [⟨some 2, none, .mov (.c (.bool false))⟩] [2])
   (.ret)) (.skip)))
   (.seq (.seq (.region [⟨some 17, none, .mov (.c (.int .i64 0))⟩] [15, 16, 17])
   (.block 4 (.loop (.seq (.seq (.region [⟨some 114, none, .mov (.t 17)⟩,
    ⟨some 115, none, .mov (.t 15)⟩,
    ⟨some 116, none, .lenV (.t 115)⟩,
    ⟨some 117, none, .bin .lss (.t 114) (.t 116)⟩] [15, 16, 17, 117])
   (.cond (.t 117) (.skip) (.exit 4)))
   (.seq (.block 5 (.seq (.region [⟨some 120, none, .mov (.t 15)⟩,
    ⟨some 121, none, .mov (.t 17)⟩,
    ⟨some 122, none, .iaV 1 (.t 120) (.t 121)⟩,
    ⟨some 123, none, .ld 1 false (.t 122)⟩,
    ⟨some 124, none, .mov (.t 16)⟩,
    ⟨some 125, none, .mov (.t 17)⟩,
    ⟨some 126, none, .iaV 1 (.t 124) (.t 125)⟩,
    ⟨some 127, none, .ld 1 false (.t 126)⟩,
    ⟨some 128, none, .bin .neq (.t 123) (.t 127)⟩] [15, 16, 17, 128])
   (.cond (.t 128) (.seq (.region [⟨some 2, none, .mov (.c (.bool false))⟩] [2])
   (.ret)) (.skip))))
   (.region [⟨some 118, none, .mov (.t 17)⟩,
    ⟨some 119, none, .bin .add (.t 118) (.c (.int .i64 1))⟩,
    ⟨some 17, none, .mov (.t 119)⟩] [15, 16, 17]))))))
   (.seq (.region [⟨some 2, none, .mov (.c (.bool true))⟩] [2])
   (.ret))))))))))))))),
  [.t 2], 129, 1⟩
def A9 : Ann := ⟨[(0, [0]), (1, [0, 19]), (2, [2]), (3, [0, 22]), (4, [2]), (5, [0, 3, 4]), (6, [0, 3, 4, 5]), (7, [0, 3, 4, 5, 6]), (8, [0, 3, 4, 5, 6, 26]), (9, [0, 3, 4, 5, 6]), (10, [0, 3, 4, 5, 6]), (11, [0, 3, 4, 5, 6]), (12, [0, 3, 4, 5, 7]), (13, [0, 3, 4, 5, 7, 8]), (14, [0, 3, 4, 5, 7, 8, 40]), (15, [0, 3, 4, 5, 7, 8]), (16, [0, 3, 4, 5, 7, 8]), (17, [0, 3, 4, 5, 7, 8]), (18, [3, 4, 7, 9, 10]), (19, [3, 4, 7, 9, 10, 11, 12]), (20, [3, 4, 7, 9, 10, 11, 12, 13, 14]), (21, [7, 9, 10, 11, 12, 13, 14, 15, 16]), (22, [15, 16, 113]), (23, [2]), (24, [15, 16, 17]), (25, [15, 16, 17, 117]), (26, [15, 16, 17]), (27, [15, 16, 17, 128]), (28, [2]), (29, [2])], [(27, [(0, []), (1, []), (2, []), (3, []), (4, []), (5, []), (6, []), (7, []), (8, [])], [(2, [0, 1]), (3, [0, 1, 2]), (6, [4, 5]), (7, [4, 5, 6]), (8, [0, 1, 2, 3, 4, 5, 6, 7])])]⟩
set_option maxRecDepth 100000 in
theorem F9.ok : compF Try.prog A9 Try.f9 = some F9 := by kernel_rfl
theorem F9.fok : FOk Try.prog 9 F9 := fok_of mixed Try.func9 F9.ok

/-- cloakroom/cloakroomlaw22.LockAll -/
def F10 : SFn := ⟨.seq (.region [⟨some 2, none, .mov (.c (.bool false))⟩] [0])
   (.seq (.seq (.region [⟨some 28, none, .call 24 []⟩,
    ⟨some 29, none, .un .not (.t 28)⟩] [0, 29])
   (.cond (.t 29) (.seq (.region [⟨some 2, none, .mov (.c (.bool false))⟩] [2])
   (.ret)) (.skip)))
   (.seq (.seq (.region [⟨some 30, none, .mov (.t 0)⟩,
    ⟨some 31, none, .lenV (.t 30)⟩,
    ⟨some 32, none, .bin .gtr (.t 31) (.c (.int .i64 30))⟩] [0, 32])
   (.cond (.t 32) (.seq (.region [⟨some 2, none, .mov (.c (.bool true))⟩] [2])
   (.ret)) (.skip)))
   (.seq (.region [⟨some 33, none, .call 25 []⟩,
    ⟨some 34, none, .build [.slice none 0 0] []⟩,
    ⟨some 35, none, .box (.t 34)⟩,
    ⟨some 3, none, .mov (.t 33)⟩,
    ⟨some 4, none, .mov (.t 35)⟩] [0, 3, 4])
   (.seq (.seq (.region [⟨some 5, none, .mov (.c (.int .i64 0))⟩] [0, 3, 4, 5])
   (.block 0 (.loop (.seq (.seq (.region [⟨some 36, none, .mov (.t 5)⟩,
    ⟨some 37, none, .mov (.t 0)⟩,
    ⟨some 38, none, .lenV (.t 37)⟩,
    ⟨some 39, none, .bin .lss (.t 36) (.t 38)⟩] [0, 3, 4, 5, 39])
   (.cond (.t 39) (.skip) (.exit 0)))
   (.seq (.block 1 (.seq (.seq (.region [⟨some 42, none, .mov (.t 0)⟩,
    ⟨some 43, none, .mov (.t 5)⟩,
    ⟨some 44, none, .iaV 2 (.t 42) (.t 43)⟩,
    ⟨some 45, none, .fa 1 (.t 44)⟩,
    ⟨some 46, none, .ld 1 false (.t 45)⟩,
    ⟨some 47, none, .lenV (.t 46)⟩,
    ⟨some 48, none, .bin .gtr (.t 47) (.c (.int .i64 6))⟩] [0, 3, 4, 5, 48])
   (.cond (.t 48) (.seq (.region [⟨some 2, none, .mov (.c (.bool true))⟩] [2])
   (.ret)) (.skip)))
   (.seq (.seq (.region [⟨some 49, none, .mov (.t 0)⟩,
    ⟨some 50, none, .mov (.t 5)⟩,
    ⟨some 51, none, .iaV 2 (.t 49) (.t 50)⟩,
    ⟨some 52, none, .fa 0 (.t 51)⟩,
    ⟨some 53, none, .ld 1 false (.t 52)⟩,
    ⟨some 54, none, .bin .rem (.t 53) (.c (.int .i64 8))⟩,
    ⟨some 55, none, .bin .add (.t 54) (.c (.int .i64 8))⟩,
    ⟨some 56, none, .bin .rem (.t 55) (.c (.int .i64 8))⟩,
    ⟨some 6, none, .mov (.t 56)⟩] [0, 3, 4, 5, 6])
   (.block 2 (.seq (.region [⟨some 67, none, .mov (.t 6)⟩,
    ⟨some 68, none, .bin .lss (.t 67) (.c (.int .i64 5))⟩,
    ⟨some 66, none, .mov (.t 68)⟩] [0, 3, 4, 5, 6, 66])
   (.cond (.t 66) (.seq (.region [⟨some 7, none, .mov (.c (.int .i64 0))⟩] [0, 3, 4, 5, 7])
   (.block 3 (.loop (.seq (.seq (.region [⟨some 69, none, .mov (.t 7)⟩,
    ⟨some 70, none, .mov (.t 0)⟩,
    ⟨some 71, none, .mov (.t 5)⟩,
    ⟨some 72, none, .iaV 2 (.t 70) (.t 71)⟩,
    ⟨some 73, none, .fa 1 (.t 72)⟩,
    ⟨some 74, none, .ld 1 false (.t 73)⟩,
    ⟨some 75, none, .lenV (.t 74)⟩,
    ⟨some 76, none, .bin .lss (.t 69) (.t 75)⟩] [0, 3, 4, 5, 7, 76])
   (.cond (.t 76) (.skip) (.exit 3)))
   (.seq (.block 4 (.seq (.region [⟨some 80, none, .mov (.t 3)⟩,
    ⟨some 81, none, .mov (.t 0)⟩,
    ⟨some 82, none, .mov (.t 5)⟩,
    ⟨some 83, none, .iaV 2 (.t 81) (.t 82)⟩,
    ⟨some 84, none, .fa 1 (.t 83)⟩,
    ⟨some 85, none, .ld 1 false (.t 84)⟩,
    ⟨some 86, none, .mov (.t 7)⟩,
    ⟨some 87, none, .iaV 1 (.t 85) (.t 86)⟩,
    ⟨some 88, none, .ld 1 false (.t 87)⟩,
    ⟨some 89, none, .call 26 [.t 80, .t 88]⟩,
    ⟨some 79, none, .mov (.t 89)⟩,
    ⟨some 90, none, .ext (.t 79) 0⟩,
    ⟨some 91, none, .ext (.t 79) 1⟩,
    ⟨some 8, none, .mov (.t 90)⟩,
    ⟨some 9, none, .mov (.t 91)⟩] [0, 3, 4, 5, 7, 8, 9])
   (.seq (.region [⟨some 93, none, .mov (.t 4)⟩,
    ⟨some 94, none, .mov (.t 0)⟩,
    ⟨some 95, none, .mov (.t 5)⟩,
    ⟨some 96, none, .iaV 2 (.t 94) (.t 95)⟩,
    ⟨some 97, none, .fa 1 (.t 96)⟩,
    ⟨some 98, none, .ld 1 false (.t 97)⟩,
    ⟨some 99, none, .mov (.t 7)⟩,
    ⟨some 100, none, .iaV 1 (.t 98) (.t 99)⟩,
    ⟨some 101, none, .ld 1 false (.t 100)⟩,
    ⟨some 102, none, .call 30 [.t 93, .t 101]⟩,
    ⟨some 92, none, .mov (.t 102)⟩,
    ⟨some 103, none, .ext (.t 92) 0⟩,
    ⟨some 104, none, .ext (.t 92) 1⟩,
    ⟨some 10, none, .mov (.t 103)⟩,
    ⟨some 11, none, .mov (.t 104)⟩] [0, 3, 4, 5, 7, 8, 9, 10, 11])
   (.seq (.region [⟨some 105, none, .mov (.t 8)⟩,
    ⟨some 106, none, .mov (.t 10)⟩,
    ⟨some 107, none, .eqk true .bool (.t 105) (.t 106)⟩,
    ⟨some 108, none, .mov (.t 107)⟩,
    ⟨some 109, some (108, false), .mov (.t 9)⟩,
    ⟨some 110, some (108, false), .mov (.t 11)⟩,
    ⟨some 111, some (108, false), .bin .neq (.t 109) (.t 110)⟩,
    ⟨some 112, none, .pick (.t 108) (.c (.bool true)) (.t 111)⟩] [0, 3, 4, 5, 7, 112])
   (.cond (.t 112) (.seq (.region [⟨some 2, none, .mov (.c (.bool false))⟩] [2])
   (.ret)) (.skip))))))
   (.region [⟨some 77, none, .mov (.t 7)⟩,
    ⟨some 78, none, .bin .add (.t 77) (.c (.int .i64 1))⟩,
    ⟨some 7, none, .mov (.t 78)⟩] [0, 3, 4, 5, 7])))))) (.seq (.region [⟨some 114, none, .mov (.t 6)⟩,
    ⟨some 115, none, .bin .lss (.t 114) (.c (.int .i64 7))⟩,
    ⟨some 113, none, .mov (.t 115)⟩] [0, 3, 4, 5, 113])
   (.cond (.t 113) (.seq (.region [⟨some 117, none, .mov (.t 3)⟩,
    ⟨some 118, none, .mov (.t 0)⟩,
    ⟨some 119, none, .mov (.t 5)⟩,
    ⟨some 120, none, .iaV 2 (.t 118) (.t 119)⟩,
    ⟨some 121, none, .fa 1 (.t 120)⟩,
    ⟨some 122, none, .ld 1 false (.t 121)⟩,
    ⟨some 123, none, .call 27 [.t 117, .t 122]⟩,
    ⟨some 116, none, .mov (.t 123)⟩,
    ⟨some 124, none, .ext (.t 116) 0⟩,
    ⟨some 125, none, .ext (.t 116) 1⟩,
    ⟨some 12, none, .mov (.t 124)⟩,
    ⟨some 13, none, .mov (.t 125)⟩] [0, 3, 4, 5, 12, 13])
   (.seq (.region [⟨some 127, none, .mov (.t 4)⟩,
    ⟨some 128, none, .mov (.t 0)⟩,
    ⟨some 129, none, .mov (.t 5)⟩,
    ⟨some 130, none, .iaV 2 (.t 128) (.t 129)⟩,
    ⟨some 131, none, .fa 1 (.t 130)⟩,
    ⟨some 132, none, .ld 1 false (.t 131)⟩,
    ⟨some 133, none, .call 31 [.t 127, .t 132]⟩,
    ⟨some 126, none, .mov (.t 133)⟩,
    ⟨some 134, none, .ext (.t 126) 0⟩,
    ⟨some 135, none, .ext (.t 126) 1⟩,
    ⟨some 14, none, .mov (.t 134)⟩,
    ⟨some 15, none, .mov (.t 135)⟩] [0, 3, 4, 5, 12, 13, 14, 15])
   (.seq (.region [⟨some 136, none, .mov (.t 12)⟩,
    ⟨some 137, none, .mov (.t 14)⟩,
    ⟨some 138, none, .bin .neq (.t 136) (.t 137)⟩,
    ⟨some 139, none, .mov (.t 138)⟩,
    ⟨some 140, some (139, false), .mov (.t 13)⟩,
    ⟨some 141, some (139, false), .mov (.t 15)⟩,
    ⟨some 142, some (139, false), .eqk true .bool (.t 140) (.t 141)⟩,
    ⟨some 143, none, .pick (.t 139) (.c (.bool true)) (.t 142)⟩] [0, 3, 4, 5, 143])
   (.cond (.t 143) (.seq (.region [⟨some 2, none, .mov (.c (.bool false))⟩] [2])
   (.ret)) (.skip))))) (.seq (.region [⟨some 57, none, .mov (.t 3)⟩,
    ⟨some 58, none, .call 32 [.t 57]⟩,
    ⟨some 16, none, .mov (.t 58)⟩] [0, 3, 4, 5, 16])
   (.seq (.region [⟨some 59, none, .mov (.t 3)⟩,
    ⟨some 60, none, .mov (.t 3)⟩,
    ⟨some 61, none, .call 29 [.t 60]⟩,
    ⟨some 62, none, .call 27 [.t 59, .t 61]⟩] [0, 3, 4, 5, 16])
   (.seq (.region [⟨some 63, none, .mov (.t 3)⟩,
    ⟨some 64, none, .call 26 [.t 63, .c (.int .u64 77)]⟩] [0, 4, 5, 16])
   (.region [⟨some 65, none, .mov (.t 16)⟩,
    ⟨some 3, none, .mov (.t 65)⟩] [0, 3, 4, 5]))))))))))
   (.seq (.region [⟨some 145, none, .mov (.t 3)⟩,
    ⟨some 146, none, .call 28 [.t 145]⟩,
    ⟨some 144, none, .mov (.t 146)⟩,
    ⟨some 147, none, .ext (.t 144) 0⟩,
    ⟨some 148, none, .ext (.t 144) 1⟩,
    ⟨some 17, none, .mov (.t 147)⟩,
    ⟨some 18, none, .mov (.t 148)⟩] [0, 3, 4, 5, 17, 18])
   (.seq (.region [⟨some 150, none, .mov (.t 4)⟩,
    ⟨some 151, none, .call 33 [.t 150]⟩,
    ⟨some 149, none, .mov (.t 151)⟩,
    ⟨some 152, none, .ext (.t 149) 0⟩,
    ⟨some 153, none, .ext (.t 149) 1⟩,
    ⟨some 19, none, .mov (.t 152)⟩,
    ⟨some 20, none, .mov (.t 153)⟩] [0, 3, 4, 5, 17, 18, 19, 20])
   (.seq (.region [⟨some 154, none, .mov (.t 17)⟩,
    ⟨some 155, none, .mov (.t 19)⟩,
    ⟨some 156, none, .bin .neq (.t 154) (.t 155)⟩,
    ⟨some 157, none, .mov (.t 156)⟩,
    ⟨some 158, some (157, false), .mov (.t 18)⟩,
    ⟨some 159, some (157, false), .mov (.t 20)⟩,
    ⟨some 160, some (157, false), .eqk true .bool (.t 158) (.t 159)⟩,
    ⟨some 161, none, .pick (.t 157) (.c (.bool true)) (.t 160)⟩,
    ⟨some 162, none, .mov (.t 161)⟩,
    ⟨some 163, some (162, false), .mov (.t 3)⟩,
    ⟨some 164, some (162, false), .call 29 [.t 163]⟩,
    ⟨some 165, some (162, false), .mov (.t 4)⟩,
    ⟨some 166, some (162, false), .call 35 [.t 165]⟩,
    ⟨some 167, some (162, false), .call 34 [.t 164, .t 166]⟩,
    ⟨some 168, some (162, false), .un .not (.t 167)⟩,
    ⟨some 169, none, .pick (.t 162) (.c (.bool true)) (.t 168)⟩] [0, 3, 4, 5, 169])
   (.cond (.t 169) (.seq (.region [⟨some 2, none, .mov (.c (.bool false))⟩] [2])
   (.ret)) (.skip))))))))
   (.region [⟨some 40, none, .mov (.t 5)⟩,
    ⟨some 41, none, .bin .add (.t 40) (.c (.int .i64 1))⟩,
    ⟨some 5, none, .mov (.t 41)⟩] [0, 3, 4, 5]))))))
   (.seq (.region [⟨some 21, none, .mov (.c (.pointer none))⟩] [21])
   (.seq (.region [⟨some 171, none, .mov (.t 21)⟩,
    ⟨some 172, none, .call 26 [.t 171, .c (.int .u64 1)]⟩,
    ⟨some 170, none, .mov (.t 172)⟩,
    ⟨some 173, none, .ext (.t 170) 0⟩,
    ⟨some 174, none, .ext (.t 170) 1⟩,
    ⟨some 22, none, .mov (.t 173)⟩,
    ⟨some 23, none, .mov (.t 174)⟩] [21, 23])
   (.seq (.region [⟨some 176, none, .mov (.t 21)⟩,
    ⟨some 177, none, .bslice 1 1 [.int .u64 0] [(0, 1, .c (.int .u64 1))]⟩,
    ⟨some 178, none, .call 27 [.t 176, .t 177]⟩,
    ⟨some 175, none, .mov (.t 178)⟩,
    ⟨some 179, none, .ext (.t 175) 0⟩,
    ⟨some 180, none, .ext (.t 175) 1⟩,
    ⟨some 24, none, .mov (.t 179)⟩,
    ⟨some 25, none, .mov (.t 180)⟩] [21, 23, 25])
   (.seq (.region [⟨some 182, none, .mov (.t 21)⟩,
    ⟨some 183, none, .call 28 [.t 182]⟩,
    ⟨some 181, none, .mov (.t 183)⟩,
    ⟨some 184, none, .ext (.t 181) 0⟩,
    ⟨some 185, none, .ext (.t 181) 1⟩,
    ⟨some 26, none, .mov (.t 184)⟩,
    ⟨some 27, none, .mov (.t 185)⟩] [21, 23, 25, 27])
   (.seq (.region [⟨some 186, none, .mov (.t 23)⟩,
    ⟨some 187, none, .bin .eql (.t 186) (.c (.int .i64 1))⟩,
    ⟨some 188, none, .mov (.t 187)⟩,
    ⟨some 189, some (188, true), .mov (.t 25)⟩,
    ⟨some 190, some (188, true), .un .not (.t 189)⟩,
    ⟨some 191, none, .pick (.t 188) (.t 190) (.c (.bool false))⟩,
    ⟨some 192, none, .mov (.t 191)⟩,
    ⟨some 193, some (192, true), .mov (.t 27)⟩,
    ⟨some 194, some (192, true), .un .not (.t 193)⟩,
    ⟨some 195, none, .pick (.t 192) (.t 194) (.c (.bool false))⟩,
    ⟨some 196, none, .mov (.t 195)⟩,
    ⟨some 197, some (196, true), .mov (.t 21)⟩,
    ⟨some 198, some (196, true), .call 29 [.t 197]⟩,
    ⟨some 199, some (196, true), .lenV (.t 198)⟩,
    ⟨some 200, some (196, true), .bin .eql (.t 199) (.c (.int .i64 0))⟩,
    ⟨some 201, none, .pick (.t 196) (.t 200) (.c (.bool false))⟩,
    ⟨some 202, none, .mov (.t 201)⟩,
    ⟨some 203, some (202, true), .mov (.t 21)⟩,
    ⟨some 204, some (202, true), .call 32 [.t 203]⟩,
    ⟨some 205, some (202, true), .eqk false .ptr (.t 204) (.c (.pointer none))⟩,
    ⟨some 206, none, .pick (.t 202) (.t 205) (.c (.bool false))⟩,
    ⟨some 2, none, .mov (.t 206)⟩] [2])
   (.ret)))))))))),
  [.t 2], 207, 1⟩
def A10 : Ann := ⟨[(0, [0]), (1, [0, 29]), (2, [2]), (3, [0, 32]), (4, [2]), (5, [0, 3, 4]), (6, [0, 3, 4, 5]), (7, [0, 3, 4, 5, 39]), (8, [0, 3, 4, 5]), (9, [0, 3, 4, 5, 48]), (10, [2]), (11, [0, 3, 4, 5, 6]), (12, [0, 3, 4, 5, 16]), (13, [0, 3, 4, 5, 16]), (14, [0, 4, 5, 16]), (15, [0, 3, 4, 5]), (16, [0, 3, 4, 5, 6, 66]), (17, [0, 3, 4, 5, 7]), (18, [0, 3, 4, 5, 7, 76]), (19, [0, 3, 4, 5, 7]), (20, [0, 3, 4, 5, 7, 8, 9]), (21, [0, 3, 4, 5, 7, 8, 9, 10, 11]), (22, [0, 3, 4, 5, 7, 112]), (23, [2]), (24, [0, 3, 4, 5, 113]), (25, [0, 3, 4, 5, 12, 13]), (26, [0, 3, 4, 5, 12, 13, 14, 15]), (27, [0, 3, 4, 5, 143]), (28, [2]), (29, [0, 3, 4, 5, 17, 18]), (30, [0, 3, 4, 5, 17, 18, 19, 20]), (31, [0, 3, 4, 5, 169]), (32, [2]), (33, [21]), (34, [21, 23]), (35, [21, 23, 25]), (36, [21, 23, 25, 27]), (37, [2])], []⟩
set_option maxRecDepth 100000 in
theorem F10.ok : compF Try.prog A10 Try.f10 = some F10 := by kernel_rfl
theorem F10.fok : FOk Try.prog 10 F10 := fok_of mixed Try.func10 F10.ok

/-- cloakroom/cloakroomlaw24.TokenOnce -/
def F11 : SFn := ⟨.seq (.region [⟨some 8, none, .mov (.c (.bool false))⟩] [0, 1, 2, 3])
   (.seq (.seq (.region [⟨some 26, none, .call 36 []⟩,
    ⟨some 27, none, .un .not (.t 26)⟩] [0, 1, 2, 3, 27])
   (.cond (.t 27) (.seq (.region [⟨some 8, none, .mov (.c (.bool false))⟩] [8])
   (.ret)) (.skip)))
   (.seq (.seq (.region [⟨some 28, none, .mov (.t 0)⟩,
    ⟨some 29, none, .bin .eql (.t 28) (.c (.int .u64 0))⟩,
    ⟨some 30, none, .mov (.t 29)⟩,
    ⟨some 31, some (30, false), .mov (.t 3)⟩,
    ⟨some 32, some (30, false), .lenV (.t 31)⟩,
    ⟨some 33, some (30, false), .bin .gtr (.t 32) (.c (.int .i64 6))⟩,
    ⟨some 34, none, .pick (.t 30) (.c (.bool true)) (.t 33)⟩] [0, 1, 2, 3, 34])
   (.cond (.t 34) (.seq (.region [⟨some 8, none, .mov (.c (.bool true))⟩] [8])
   (.ret)) (.skip)))
   (.seq (.region [⟨some 35, none, .call 37 []⟩,
    ⟨some 9, none, .mov (.t 35)⟩] [0, 1, 2, 3, 9])
   (.seq (.region [⟨some 36, none, .mov (.t 0)⟩,
    ⟨some 37, none, .mov (.t 3)⟩,
    ⟨some 38, none, .build [.int .i64 0, .int .u64 0, .int .u64 0, .string ByteArray.empty, .slice none 0 0, .slice none 0 0, .int .u64 0, .int .u64 0] [(0, 1, .c (.int .i64 4)), (1, 1, .t 36), (3, 1, .c (.string { data := #[120] })), (5, 1, .t 37)]⟩,
    ⟨some 10, none, .new [.int .i64 0, .int .u64 0, .int .u64 0, .string ByteArray.empty, .slice none 0 0, .slice none 0 0, .int .u64 0, .int .u64 0]⟩,
    ⟨none, none, .st 8 (.t 10) (.t 38)⟩] [0, 1, 2, 3, 9, 10])
   (.seq (.region [⟨some 39, none, .mov (.t 0)⟩,
    ⟨some 40, none, .mov (.t 3)⟩,
    ⟨some 41, none, .build [.int .i64 0, .int .u64 0, .int .u64 0, .string ByteArray.empty, .slice none 0 0, .slice none 0 0, .int .u64 0, .int .u64 0] [(0, 1, .c (.int .i64 4)), (1, 1, .t 39), (3, 1, .c (.string { data := #[121] })), (5, 1, .t 40)]⟩,
    ⟨some 11, none, .new [.int .i64 0, .int .u64 0, .int .u64 0, .string ByteArray.empty, .slice none 0 0, .slice none 0 0, .int .u64 0, .int .u64 0]⟩,
    ⟨none, none, .st 8 (.t 11) (.t 41)⟩] [0, 1, 2, 3, 9, 10, 11])
   (.seq (.seq (.region [⟨some 42, none, .mov (.t 9)⟩,
    ⟨some 43, none, .mov (.t 0)⟩,
    ⟨some 44, none, .ld 8 true (.t 10)⟩,
    ⟨some 45, none, .call 38 [.t 42, .t 43, .t 44]⟩,
    ⟨some 46, none, .bin .neq (.t 45) (.c (.int .i64 0))⟩] [0, 1, 2, 3, 9, 10, 11, 46])
   (.cond (.t 46) (.seq (.region [⟨some 8, none, .mov (.c (.bool false))⟩] [8])
   (.ret)) (.skip)))
   (.seq (.seq (.region [⟨some 12, none, .mov (.c (.int .i64 0))⟩] [0, 1, 2, 3, 9, 10, 11, 12])
   (.block 0 (.loop (.seq (.seq (.region [⟨some 47, none, .mov (.t 12)⟩,
    ⟨some 48, none, .mov (.t 1)⟩,
    ⟨some 49, none, .bin .rem (.t 48) (.c (.int .u8 9))⟩,
    ⟨some 50, none, .conv .i64 (.t 49)⟩,
    ⟨some 51, none, .bin .lss (.t 47) (.t 50)⟩] [0, 1, 2, 3, 9, 10, 11, 12, 51])
   (.cond (.t 51) (.skip) (.exit 0)))
   (.seq (.block 1 (.seq (.region [⟨some 55, none, .mov (.t 9)⟩,
    ⟨some 56, none, .mov (.t 0)⟩,
    ⟨some 57, none, .ld 8 true (.t 10)⟩,
    ⟨some 58, none, .call 39 [.t 55, .t 56, .t 57]⟩,
    ⟨some 54, none, .mov (.t 58)⟩,
    ⟨some 59, none, .ext (.t 54) 0⟩,
    ⟨some 60, none, .ext (.t 54) 1⟩,
    ⟨some 61, none, .ext (.t 54) 2⟩,
    ⟨some 62, none, .ext (.t 54) 3⟩,
    ⟨some 15, none, .new [.int .u64 0, .int .i64 0, .int .u64 0, .slice none 0 0]⟩,
    ⟨some 13, none, .mov (.t 59)⟩,
    ⟨some 14, none, .mov (.t 60)⟩,
    ⟨none, none, .st 4 (.t 15) (.t 61)⟩,
    ⟨some 16, none, .mov (.t 62)⟩] [0, 1, 2, 3, 9, 10, 11, 12, 13, 14, 16])
   (.seq (.region [⟨some 64, none, .mov (.t 9)⟩,
    ⟨some 65, none, .mov (.t 0)⟩,
    ⟨some 66, none, .ld 8 true (.t 11)⟩,
    ⟨some 67, none, .call 39 [.t 64, .t 65, .t 66]⟩,
    ⟨some 63, none, .mov (.t 67)⟩,
    ⟨some 68, none, .ext (.t 63) 0⟩,
    ⟨some 69, none, .ext (.t 63) 1⟩,
    ⟨some 70, none, .ext (.t 63) 2⟩,
    ⟨some 71, none, .ext (.t 63) 3⟩,
    ⟨some 19, none, .new [.int .u64 0, .int .i64 0, .int .u64 0, .slice none 0 0]⟩,
    ⟨some 17, none, .mov (.t 68)⟩,
    ⟨some 18, none, .mov (.t 69)⟩,
    ⟨none, none, .st 4 (.t 19) (.t 70)⟩,
    ⟨some 20, none, .mov (.t 71)⟩] [0, 1, 2, 3, 9, 10, 11, 12, 13, 14, 16, 17, 20])
   (.seq (.region [⟨some 72, none, .mov (.t 13)⟩,
    ⟨some 73, none, .un .not (.t 72)⟩,
    ⟨some 74, none, .mov (.t 73)⟩,
    ⟨some 75, some (74, false), .mov (.t 14)⟩,
    ⟨some 76, none, .pick (.t 74) (.c (.bool true)) (.t 75)⟩,
    ⟨some 77, none, .mov (.t 76)⟩,
    ⟨some 78, some (77, false), .mov (.t 16)⟩,
    ⟨some 79, some (77, false), .bin .neq (.t 78) (.c (.int .i64 0))⟩,
    ⟨some 80, none, .pick (.t 77) (.c (.bool true)) (.t 79)⟩,
    ⟨some 81, none, .mov (.t 80)⟩,
    ⟨some 82, some (81, false), .mov (.t 17)⟩,
    ⟨some 83, some (81, false), .un .not (.t 82)⟩,
    ⟨some 84, none, .pick (.t 81) (.c (.bool true)) (.t 83)⟩,
    ⟨some 85, none, .mov (.t 84)⟩,
    ⟨some 86, some (85, false), .mov (.t 20)⟩,
    ⟨some 87, some (85, false), .bin .neq (.t 86) (.c (.int .i64 16))⟩,
    ⟨some 88, none, .pick (.t 85) (.c (.bool true)) (.t 87)⟩] [0, 1, 2, 3, 9, 10, 11, 12, 88])
   (.cond (.t 88) (.seq (.region [⟨some 8, none, .mov (.c (.bool false))⟩] [8])
   (.ret)) (.skip))))))
   (.region [⟨some 52, none, .mov (.t 12)⟩,
    ⟨some 53, none, .bin .add (.t 52) (.c (.int .i64 1))⟩,
    ⟨some 12, none, .mov (.t 53)⟩] [0, 1, 2, 3, 9, 10, 11, 12]))))))
   (.seq (.seq (.region [⟨some 89, none, .mov (.t 9)⟩,
    ⟨some 90, none, .mov (.t 0)⟩,
    ⟨some 91, none, .mov (.t 0)⟩,
    ⟨some 92, none, .mov (.t 3)⟩,
    ⟨some 93, none, .build [.int .u64 0, .int .i64 0, .int .u64 0, .slice none 0 0] [(0, 1, .t 91), (3, 1, .t 92)]⟩,
    ⟨some 94, none, .call 40 [.t 89, .t 90, .t 93]⟩,
    ⟨some 95, none, .mov (.t 1)⟩,
    ⟨some 96, none, .bin .rem (.t 95) (.c (.int .u8 9))⟩,
    ⟨some 97, none, .conv .i64 (.t 96)⟩,
    ⟨some 98, none, .bin .add (.c (.int .i64 1)) (.t 97)⟩,
    ⟨some 99, none, .bin .neq (.t 94) (.t 98)⟩,
    ⟨some 100, none, .mov (.t 99)⟩,
    ⟨some 101, some (100, false), .mov (.t 9)⟩,
    ⟨some 102, some (100, false), .mov (.t 0)⟩,
    ⟨some 103, some (100, false), .build [.int .u64 0, .int .i64 0, .int .u64 0, .slice none 0 0] []⟩,
    ⟨some 104, some (100, false), .call 40 [.t 101, .t 102, .t 103]⟩,
    ⟨some 105, some (100, false), .bin .neq (.t 104) (.c (.int .i64 0))⟩,
    ⟨some 106, none, .pick (.t 100) (.c (.bool true)) (.t 105)⟩] [0, 2, 3, 9, 10, 106])
   (.cond (.t 106) (.seq (.region [⟨some 8, none, .mov (.c (.bool false))⟩] [8])
   (.ret)) (.skip)))
   (.seq (.seq (.region [⟨some 21, none, .mov (.c (.int .i64 0))⟩] [0, 2, 3, 9, 10, 21])
   (.block 2 (.loop (.seq (.seq (.region [⟨some 107, none, .mov (.t 21)⟩,
    ⟨some 108, none, .mov (.t 2)⟩,
    ⟨some 109, none, .bin .rem (.t 108) (.c (.int .u8 9))⟩,
    ⟨some 110, none, .conv .i64 (.t 109)⟩,
    ⟨some 111, none, .bin .lss (.t 107) (.t 110)⟩] [0, 2, 3, 9, 10, 21, 111])
   (.cond (.t 111) (.skip) (.exit 2)))
   (.seq (.block 3 (.seq (.region [⟨some 115, none, .mov (.t 9)⟩,
    ⟨some 116, none, .mov (.t 0)⟩,
    ⟨some 117, none, .ld 8 true (.t 10)⟩,
    ⟨some 118, none, .call 39 [.t 115, .t 116, .t 117]⟩,
    ⟨some 114, none, .mov (.t 118)⟩,
    ⟨some 119, none, .ext (.t 114) 0⟩,
    ⟨some 120, none, .ext (.t 114) 1⟩,
    ⟨some 121, none, .ext (.t 114) 2⟩,
    ⟨some 122, none, .ext (.t 114) 3⟩,
    ⟨some 24, none, .new [.int .u64 0, .int .i64 0, .int .u64 0, .slice none 0 0]⟩,
    ⟨some 22, none, .mov (.t 119)⟩,
    ⟨some 23, none, .mov (.t 120)⟩,
    ⟨none, none, .st 4 (.t 24) (.t 121)⟩,
    ⟨some 25, none, .mov (.t 122)⟩] [0, 2, 3, 9, 10, 21, 22, 23, 24, 25])
   (.seq (.region [⟨some 123, none, .mov (.t 22)⟩,
    ⟨some 124, none, .un .not (.t 123)⟩,
    ⟨some 125, none, .mov (.t 124)⟩,
    ⟨some 126, some (125, false), .mov (.t 23)⟩,
    ⟨some 127, some (125, false), .un .not (.t 126)⟩,
    ⟨some 128, none, .pick (.t 125) (.c (.bool true)) (.t 127)⟩,
    ⟨some 129, none, .mov (.t 128)⟩,
    ⟨some 130, some (129, false), .mov (.t 25)⟩,
    ⟨some 131, some (129, false), .bin .neq (.t 130) (.c (.int .i64 0))⟩,
    ⟨some 132, none, .pick (.t 129) (.c (.bool true)) (.t 131)⟩,
    ⟨some 133, none, .mov (.t 132)⟩,
    ⟨some 134, some (133, false), .fa 0 (.t 24)⟩,
    ⟨some 135, some (133, false), .ld 1 false (.t 134)⟩,
    ⟨some 136, some (133, false), .mov (.t 0)⟩,
    ⟨some 137, some (133, false), .bin .neq (.t 135) (.t 136)⟩,
    ⟨some 138, none, .pick (.t 133) (.c (.bool true)) (.t 137)⟩,
    ⟨some 139, none, .mov (.t 138)⟩,
    ⟨some 140, some (139, false), .fa 3 (.t 24)⟩,
    ⟨some 141, some (139, false), .ld 1 false (.t 140)⟩,
    ⟨some 142, some (139, false), .mov (.t 3)⟩,
    ⟨some 143, some (139, false), .call 34 [.t 141, .t 142]⟩,
    ⟨some 144, some (139, false), .un .not (.t 143)⟩,
    ⟨some 145, none, .pick (.t 139) (.c (.bool true)) (.t 144)⟩] [0, 2, 3, 9, 10, 21, 145])
   (.cond (.t 145) (.seq (.region [⟨some 8, none, .mov (.c (.bool false))⟩] [8])
   (.ret)) (.skip)))))
   (.region [⟨some 112, none, .mov (.t 21)⟩,
    ⟨some 113, none, .bin .add (.t 112) (.c (.int .i64 1))⟩,
    ⟨some 21, none, .mov (.t 113)⟩] [0, 2, 3, 9, 10, 21]))))))
   (.seq (.region [⟨some 8, none, .mov (.c (.bool true))⟩] [8])
   (.ret))))))))))),
  [.t 8], 146, 4⟩
def A11 : Ann := ⟨[(0, [0, 1, 2, 3]), (1, [0, 1, 2, 3, 27]), (2, [8]), (3, [0, 1, 2, 3, 34]), (4, [8]), (5, [0, 1, 2, 3, 9]), (6, [0, 1, 2, 3, 9, 10]), (7, [0, 1, 2, 3, 9, 10, 11]), (8, [0, 1, 2, 3, 9, 10, 11, 46]), (9, [8]), (10, [0, 1, 2, 3, 9, 10, 11, 12]), (11, [0, 1, 2, 3, 9, 10, 11, 12, 51]), (12, [0, 1, 2, 3, 9, 10, 11, 12]), (13, [0, 1, 2, 3, 9, 10, 11, 12, 13, 14, 16]), (14, [0, 1, 2, 3, 9, 10, 11, 12, 13, 14, 16, 17, 20]), (15, [0, 1, 2, 3, 9, 10, 11, 12, 88]), (16, [8]), (17, [0, 2, 3, 9, 10, 106]), (18, [8]), (19, [0, 2, 3, 9, 10, 21]), (20, [0, 2, 3, 9, 10, 21, 111]), (21, [0, 2, 3, 9, 10, 21]), (22, [0, 2, 3, 9, 10, 21, 22, 23, 24, 25]), (23, [0, 2, 3, 9, 10, 21, 145]), (24, [8]), (25, [8])], []⟩
set_option maxRecDepth 100000 in
theorem F11.ok : compF Try.prog A11 Try.f11 = some F11 := by kernel_rfl
theorem F11.fok : FOk Try.prog 11 F11 := fok_of mixed Try.func11 F11.ok

/-- cloakroom/cloakroomlaw24.TokenOldest -/
def F12 : SFn := ⟨.seq (.region [⟨some 2, none, .mov (.c (.bool false))⟩] [0])
   (.seq (.seq (.region [⟨some 14, none, .call 36 []⟩,
    ⟨some 15, none, .un .not (.t 14)⟩] [0, 15])
   (.cond (.t 15) (.seq (.region [⟨some 2, none, .mov (.c (.bool false))⟩] [2])
   (.ret)) (.skip)))
   (.seq (.seq (.region [⟨some 16, none, .mov (.t 0)⟩,
    ⟨some 17, none, .lenV (.t 16)⟩,
    ⟨some 18, none, .bin .gtr (.t 17) (.c (.int .i64 12))⟩] [0, 18])
   (.cond (.t 18) (.seq (.region [⟨some 2, none, .mov (.c (.bool true))⟩] [2])
   (.ret)) (.skip)))
   (.seq (.region [⟨some 19, none, .call 37 []⟩,
    ⟨some 3, none, .mov (.t 19)⟩] [0, 3])
   (.seq (.region [⟨some 4, none, .mov (.c (.slice none 0 0))⟩] [0, 3, 4])
   (.seq (.region [⟨some 5, none, .mov (.c (.slice none 0 0))⟩] [0, 3, 4, 5])
   (.seq (.seq (.region [⟨some 6, none, .mov (.c (.int .i64 0))⟩] [0, 3, 4, 5, 6])
   (.block 0 (.loop (.seq (.seq (.region [⟨some 20, none, .mov (.t 6)⟩,
    ⟨some 21, none, .mov (.t 0)⟩,
    ⟨some 22, none, .lenV (.t 21)⟩,
    ⟨some 23, none, .bin .lss (.t 20) (.t 22)⟩] [0, 3, 4, 5, 6, 23])
   (.cond (.t 23) (.skip) (.exit 0)))
   (.seq (.block 1 (.seq (.region [⟨some 26, none, .mov (.t 6)⟩,
    ⟨some 27, none, .bin .add (.t 26) (.c (.int .i64 1))⟩,
    ⟨some 28, none, .conv .u64 (.t 27)⟩,
    ⟨some 7, none, .mov (.t 28)⟩] [0, 3, 4, 5, 6, 7])
   (.seq (.region [⟨some 29, none, .mov (.t 3)⟩,
    ⟨some 30, none, .mov (.t 7)⟩,
    ⟨some 31, none, .call 41 [.c (.int .u8 0)]⟩,
    ⟨some 32, none, .call 38 [.t 29, .t 30, .t 31]⟩,
    ⟨some 8, none, .mov (.t 32)⟩] [0, 3, 4, 5, 6, 7, 8])
   (.seq (.region [⟨some 9, none, .mov (.c (.int .i64 (-1)))⟩] [0, 3, 4, 5, 6, 7, 8, 9])
   (.seq (.seq (.region [⟨some 10, none, .mov (.c (.int .i64 0))⟩] [0, 3, 4, 5, 6, 7, 8, 9, 10])
   (.block 2 (.loop (.seq (.seq (.region [⟨some 33, none, .mov (.t 10)⟩,
    ⟨some 34, none, .mov (.t 4)⟩,
    ⟨some 35, none, .lenV (.t 34)⟩,
    ⟨some 36, none, .bin .lss (.t 33) (.t 35)⟩,
    ⟨some 37, none, .mov (.t 36)⟩,
    ⟨some 38, some (37, true), .mov (.t 9)⟩,
    ⟨some 39, some (37, true), .bin .lss (.t 38) (.c (.int .i64 0))⟩,
    ⟨some 40, none, .pick (.t 37) (.t 39) (.c (.bool false))⟩] [0, 3, 4, 5, 6, 7, 8, 9, 10, 40])
   (.cond (.t 40) (.skip) (.exit 2)))
   (.seq (.block 3 (.seq (.region [⟨some 43, none, .mov (.t 5)⟩,
    ⟨some 44, none, .mov (.t 10)⟩,
    ⟨some 45, none, .iaV 1 (.t 43) (.t 44)⟩,
    ⟨some 46, none, .ld 1 false (.t 45)⟩] [0, 3, 4, 5, 6, 7, 8, 9, 10, 46])
   (.cond (.t 46) (.region [⟨some 47, none, .mov (.t 10)⟩,
    ⟨some 9, none, .mov (.t 47)⟩] [0, 3, 4, 5, 6, 7, 8, 9, 10]) (.skip))))
   (.region [⟨some 41, none, .mov (.t 10)⟩,
    ⟨some 42, none, .bin .add (.t 41) (.c (.int .i64 1))⟩,
    ⟨some 10, none, .mov (.t 42)⟩] [0, 3, 4, 5, 6, 7, 8, 9, 10]))))))
   (.seq (.seq (.region [⟨some 48, none, .mov (.t 4)⟩,
    ⟨some 49, none, .lenV (.t 48)⟩,
    ⟨some 50, none, .bin .geq (.t 49) (.c (.int .i64 4))⟩,
    ⟨some 51, none, .mov (.t 50)⟩,
    ⟨some 52, some (51, true), .mov (.t 9)⟩,
    ⟨some 53, some (51, true), .bin .lss (.t 52) (.c (.int .i64 0))⟩,
    ⟨some 54, none, .pick (.t 51) (.t 53) (.c (.bool false))⟩] [0, 3, 4, 5, 6, 7, 8, 9, 54])
   (.cond (.t 54) (.seq (.seq (.region [⟨some 55, none, .mov (.t 8)⟩,
    ⟨some 56, none, .bin .neq (.t 55) (.c (.int .i64 13))⟩] [0, 3, 4, 5, 6, 56])
   (.cond (.t 56) (.seq (.region [⟨some 2, none, .mov (.c (.bool false))⟩] [2])
   (.ret)) (.skip)))
   (.exit 1)) (.skip)))
   (.seq (.seq (.region [⟨some 57, none, .mov (.t 8)⟩,
    ⟨some 58, none, .bin .neq (.t 57) (.c (.int .i64 0))⟩] [0, 3, 4, 5, 6, 7, 9, 58])
   (.cond (.t 58) (.seq (.region [⟨some 2, none, .mov (.c (.bool false))⟩] [2])
   (.ret)) (.skip)))
   (.seq (.seq (.region [⟨some 59, none, .mov (.t 4)⟩,
    ⟨some 60, none, .lenV (.t 59)⟩,
    ⟨some 61, none, .bin .geq (.t 60) (.c (.int .i64 4))⟩] [0, 3, 4, 5, 6, 7, 9, 61])
   (.cond (.t 61) (.seq (.region [⟨some 11, none, .mov (.c (.slice none 0 0))⟩] [0, 3, 4, 5, 6, 7, 9, 11])
   (.seq (.region [⟨some 12, none, .mov (.c (.slice none 0 0))⟩] [0, 3, 4, 5, 6, 7, 9, 11, 12])
   (.seq (.seq (.region [⟨some 13, none, .mov (.c (.int .i64 0))⟩] [0, 3, 4, 5, 6, 7, 9, 11, 12, 13])
   (.block 4 (.loop (.seq (.seq (.region [⟨some 62, none, .mov (.t 13)⟩,
    ⟨some 63, none, .mov (.t 4)⟩,
    ⟨some 64, none, .lenV (.t 63)⟩,
    ⟨some 65, none, .bin .lss (.t 62) (.t 64)⟩] [0, 3, 4, 5, 6, 7, 9, 11, 12, 13, 65])
   (.cond (.t 65) (.skip) (.exit 4)))
   (.seq (.block 5 (.seq (.region [⟨some 68, none, .mov (.t 13)⟩,
    ⟨some 69, none, .mov (.t 9)⟩,
    ⟨some 70, none, .bin .neq (.t 68) (.t 69)⟩] [0, 3, 4, 5, 6, 7, 9, 11, 12, 13, 70])
   (.cond (.t 70) (.region [⟨some 71, none, .mov (.t 11)⟩,
    ⟨some 72, none, .mov (.t 4)⟩,
    ⟨some 73, none, .mov (.t 13)⟩,
    ⟨some 74, none, .iaV 1 (.t 72) (.t 73)⟩,
    ⟨some 75, none, .ld 1 false (.t 74)⟩,
    ⟨some 76, none, .bslice 1 1 [.int .u64 0] [(0, 1, .t 75)]⟩,
    ⟨some 78, none, .mov (.t 12)⟩,
    ⟨some 79, none, .mov (.t 5)⟩,
    ⟨some 80, none, .mov (.t 13)⟩,
    ⟨some 81, none, .iaV 1 (.t 79) (.t 80)⟩,
    ⟨some 82, none, .ld 1 false (.t 81)⟩,
    ⟨some 83, none, .bslice 1 1 [.bool false] [(0, 1, .t 82)]⟩,
    ⟨some 77, none, .app 1 8 (.t 71) (.t 76)⟩,
    ⟨none, none, .chk 1 false (.t 81) 82⟩,
    ⟨some 84, none, .app 1 1 (.t 78) (.t 83)⟩,
    ⟨some 11, none, .mov (.t 77)⟩,
    ⟨some 12, none, .mov (.t 84)⟩] [0, 3, 4, 5, 6, 7, 9, 11, 12, 13]) (.skip))))
   (.region [⟨some 66, none, .mov (.t 13)⟩,
    ⟨some 67, none, .bin .add (.t 66) (.c (.int .i64 1))⟩,
    ⟨some 13, none, .mov (.t 67)⟩] [0, 3, 4, 5, 6, 7, 9, 11, 12, 13]))))))
   (.region [⟨some 85, none, .mov (.t 11)⟩,
    ⟨some 86, none, .mov (.t 12)⟩,
    ⟨some 4, none, .mov (.t 85)⟩,
    ⟨some 5, none, .mov (.t 86)⟩] [0, 3, 4, 5, 6, 7])))) (.skip)))
   (.seq (.region [⟨some 87, none, .mov (.t 4)⟩,
    ⟨some 88, none, .mov (.t 7)⟩,
    ⟨some 89, none, .bslice 1 1 [.int .u64 0] [(0, 1, .t 88)]⟩,
    ⟨some 91, none, .mov (.t 5)⟩,
    ⟨some 92, none, .mov (.t 0)⟩,
    ⟨some 93, none, .mov (.t 6)⟩,
    ⟨some 94, none, .iaV 1 (.t 92) (.t 93)⟩,
    ⟨some 95, none, .ld 1 false (.t 94)⟩,
    ⟨some 96, none, .bslice 1 1 [.bool false] [(0, 1, .t 95)]⟩,
    ⟨some 90, none, .app 1 8 (.t 87) (.t 89)⟩,
    ⟨none, none, .chk 1 false (.t 94) 95⟩,
    ⟨some 97, none, .app 1 1 (.t 91) (.t 96)⟩,
    ⟨some 4, none, .mov (.t 90)⟩,
    ⟨some 5, none, .mov (.t 97)⟩] [0, 3, 4, 5, 6, 7])
   (.seq (.seq (.region [⟨some 98, none, .mov (.t 0)⟩,
    ⟨some 99, none, .mov (.t 6)⟩,
    ⟨some 100, none, .iaV 1 (.t 98) (.t 99)⟩,
    ⟨some 101, none, .ld 1 false (.t 100)⟩,
    ⟨some 102, none, .mov (.t 101)⟩,
    ⟨some 103, some (102, true), .mov (.t 3)⟩,
    ⟨some 104, some (102, true), .mov (.t 7)⟩,
    ⟨some 105, some (102, true), .build [.int .u64 0, .int .i64 0, .int .u64 0, .slice none 0 0] []⟩,
    ⟨some 106, some (102, true), .call 40 [.t 103, .t 104, .t 105]⟩,
    ⟨some 107, some (102, true), .bin .neq (.t 106) (.c (.int .i64 1))⟩,
    ⟨some 108, none, .pick (.t 102) (.t 107) (.c (.bool false))⟩] [0, 3, 4, 5, 6, 108])
   (.cond (.t 108) (.seq (.region [⟨some 2, none, .mov (.c (.bool false))⟩] [2])
   (.ret)) (.skip)))
   (.seq (.region [⟨some 109, none, .mov (.t 3)⟩,
    ⟨some 110, none, .call 42 [.t 109]⟩,
    ⟨some 111, none, .mov (.t 4)⟩,
    ⟨some 112, none, .call 34 [.t 110, .t 111]⟩,
    ⟨some 113, none, .un .not (.t 112)⟩] [0, 3, 4, 5, 6, 113])
   (.cond (.t 113) (.seq (.region [⟨some 2, none, .mov (.c (.bool false))⟩] [2])
   (.ret)) (.skip)))))))))))))
   (.region [⟨some 24, none, .mov (.t 6)⟩,
    ⟨some 25, none, .bin .add (.t 24) (.c (.int .i64 1))⟩,
    ⟨some 6, none, .mov (.t 25)⟩] [0, 3, 4, 5, 6]))))))
   (.seq (.region [⟨some 2, none, .mov (.c (.bool true))⟩] [2])
   (.ret)))))))),
  [.t 2], 114, 1⟩
def A12 : Ann := ⟨[(0, [0]), (1, [0, 15]), (2, [2]), (3, [0, 18]), (4, [2]), (5, [0, 3]), (6, [0, 3, 4]), (7, [0, 3, 4, 5]), (8, [0, 3, 4, 5, 6]), (9, [0, 3, 4, 5, 6, 23]), (10, [0, 3, 4, 5, 6]), (11, [0, 3, 4, 5, 6, 7]), (12, [0, 3, 4, 5, 6, 7, 8]), (13, [0, 3, 4, 5, 6, 7, 8, 9]), (14, [0, 3, 4, 5, 6, 7, 8, 9, 10]), (15, [0, 3, 4, 5, 6, 7, 8, 9, 10, 40]), (16, [0, 3, 4, 5, 6, 7, 8, 9, 10]), (17, [0, 3, 4, 5, 6, 7, 8, 9, 10, 46]), (18, [0, 3, 4, 5, 6, 7, 8, 9, 10]), (19, [0, 3, 4, 5, 6, 7, 8, 9, 54]), (20, [0, 3, 4, 5, 6, 56]), (21, [2]), (22, [0, 3, 4, 5, 6, 7, 9, 58]), (23, [2]), (24, [0, 3, 4, 5, 6, 7, 9, 61]), (25, [0, 3, 4, 5, 6, 7, 9, 11]), (26, [0, 3, 4, 5, 6, 7, 9, 11, 12]), (27, [0, 3, 4, 5, 6, 7, 9, 11, 12, 13]), (28, [0, 3, 4, 5, 6, 7, 9, 11, 12, 13, 65]), (29, [0, 3, 4, 5, 6, 7, 9, 11, 12, 13]), (30, [0, 3, 4, 5, 6, 7, 9, 11, 12, 13, 70]), (31, [0, 3, 4, 5, 6, 7, 9, 11, 12, 13]), (32, [0, 3, 4, 5, 6, 7]), (33, [0, 3, 4, 5, 6, 7]), (34, [0, 3, 4, 5, 6, 108]), (35, [2]), (36, [0, 3, 4, 5, 6, 113]), (37, [2]), (38, [2])], [(31, [(0, []), (1, []), (2, []), (3, []), (4, []), (5, []), (7, []), (8, []), (9, []), (10, []), (11, []), (12, []), (6, [11]), (13, []), (14, []), (15, [])], [(3, [1, 2]), (4, [1, 2, 3]), (5, [1, 2, 3, 4]), (6, [0, 1, 2, 3, 4, 5]), (10, [8, 9]), (11, [8, 9, 10]), (12, [8, 9, 10, 11]), (13, [0, 1, 2, 3, 4, 5, 6, 7, 8, 9, 10, 11, 12]), (14, [0, 1, 2, 3, 4, 5, 6, 7, 8, 9, 10, 11, 12, 13]), (15, [0, 1, 2, 3, 4, 5, 6, 7, 8, 9, 10, 11, 12, 13, 14])]),
  (33, [(0, []), (1, []), (2, []), (4, []), (5, []), (6, []), (7, []), (8, []), (9, []), (3, [8]), (10, []), (11, []), (12, [])], [(2, [1]), (3, [0, 1, 2]), (7, [5, 6]), (8, [5, 6, 7]), (9, [5, 6, 7, 8]), (10, [0, 1, 2, 3, 4, 5, 6, 7, 8, 9]), (11, [0, 1, 2, 3, 4, 5, 6, 7, 8, 9, 10]), (12, [0, 1, 2, 3, 4, 5, 6, 7, 8, 9, 10, 11])])]⟩
set_option maxRecDepth 100000 in
theorem F12.ok : compF Try.prog A12 Try.f12 = some F12 := by kernel_rfl
theorem F12.fok : FOk Try.prog 12 F12 := fok_of mixed Try.func12 F12.ok

/-- cloakroom/cloakroomlaw24.TokenZero -/
def F13 : SFn := ⟨.seq (.region [⟨some 2, none, .mov (.c (.bool false))⟩] [0])
   (.seq (.seq (.region [⟨some 10, none, .call 36 []⟩,
    ⟨some 11, none, .un .not (.t 10)⟩] [0, 11])
   (.cond (.t 11) (.seq (.region [⟨some 2, none, .mov (.c (.bool false))⟩] [2])
   (.ret)) (.skip)))
   (.seq (.region [⟨some 12, none, .call 37 []⟩,
    ⟨some 3, none, .mov (.t 12)⟩] [0, 3])
   (.seq (.region [⟨some 13, none, .mov (.t 3)⟩,
    ⟨some 14, none, .mov (.t 0)⟩,
    ⟨some 15, none, .call 41 [.t 14]⟩,
    ⟨some 16, none, .call 38 [.t 13, .c (.int .u64 0), .t 15]⟩,
    ⟨some 4, none, .mov (.t 16)⟩] [0, 3, 4])
   (.seq (.region [⟨some 17, none, .mov (.t 3)⟩,
    ⟨some 18, none, .mov (.t 0)⟩,
    ⟨some 19, none, .call 41 [.t 18]⟩,
    ⟨some 20, none, .call 38 [.t 17, .c (.int .u64 0), .t 19]⟩,
    ⟨some 5, none, .mov (.t 20)⟩] [0, 3, 4, 5])
   (.seq (.region [⟨some 22, none, .mov (.t 3)⟩,
    ⟨some 23, none, .mov (.t 0)⟩,
    ⟨some 24, none, .call 41 [.t 23]⟩,
    ⟨some 25, none, .call 39 [.t 22, .c (.int .u64 0), .t 24]⟩,
    ⟨some 21, none, .mov (.t 25)⟩,
    ⟨some 26, none, .ext (.t 21) 0⟩,
    ⟨some 27, none, .ext (.t 21) 1⟩,
    ⟨some 28, none, .ext (.t 21) 2⟩,
    ⟨some 29, none, .ext (.t 21) 3⟩,
    ⟨some 8, none, .new [.int .u64 0, .int .i64 0, .int .u64 0, .slice none 0 0]⟩,
    ⟨some 6, none, .mov (.t 26)⟩,
    ⟨some 7, none, .mov (.t 27)⟩,
    ⟨none, none, .st 4 (.t 8) (.t 28)⟩,
    ⟨some 9, none, .mov (.t 29)⟩] [3, 4, 5, 6, 7, 9])
   (.seq (.region [⟨some 30, none, .mov (.t 4)⟩,
    ⟨some 31, none, .bin .eql (.t 30) (.c (.int .i64 0))⟩,
    ⟨some 32, none, .mov (.t 31)⟩,
    ⟨some 33, some (32, true), .mov (.t 5)⟩,
    ⟨some 34, some (32, true), .bin .eql (.t 33) (.c (.int .i64 0))⟩,
    ⟨some 35, none, .pick (.t 32) (.t 34) (.c (.bool false))⟩,
    ⟨some 36, none, .mov (.t 35)⟩,
    ⟨some 37, some (36, true), .mov (.t 6)⟩,
    ⟨some 38, some (36, true), .un .not (.t 37)⟩,
    ⟨some 39, none, .pick (.t 36) (.t 38) (.c (.bool false))⟩,
    ⟨some 40, none, .mov (.t 39)⟩,
    ⟨some 41, some (40, true), .mov (.t 7)⟩,
    ⟨some 42, some (40, true), .un .not (.t 41)⟩,
    ⟨some 43, none, .pick (.t 40) (.t 42) (.c (.bool false))⟩,
    ⟨some 44, none, .mov (.t 43)⟩,
    ⟨some 45, some (44, true), .mov (.t 9)⟩,
    ⟨some 46, some (44, true), .bin .eql (.t 45) (.c (.int .i64 0))⟩,
    ⟨some 47, none, .pick (.t 44) (.t 46) (.c (.bool false))⟩,
    ⟨some 48, none, .mov (.t 47)⟩,
    ⟨some 49, some (48, true), .mov (.t 3)⟩,
    ⟨some 50, some (48, true), .build [.int .u64 0, .int .i64 0, .int .u64 0, .slice none 0 0] []⟩,
    ⟨some 51, some (48, true), .call 40 [.t 49, .c (.int .u64 0), .t 50]⟩,
    ⟨some 52, some (48, true), .bin .eql (.t 51) (.c (.int .i64 1))⟩,
    ⟨some 53, none, .pick (.t 48) (.t 52) (.c (.bool false))⟩,
    ⟨some 54, none, .mov (.t 53)⟩,
    ⟨some 55, some (54, true), .mov (.t 3)⟩,
    ⟨some 56, some (54, true), .build [.int .u64 0, .int .i64 0, .int .u64 0, .slice none 0 0] []⟩,
    ⟨some 57, some (54, true), .call 40 [.t 55, .c (.int .u64 5), .t 56]⟩,
    ⟨some 58, some (54, true), .bin .eql (.t 57) (.c (.int .i64 1))⟩,
    ⟨some 59, none, .pick (.t 54) (.t 58) (.c (.bool false))⟩,
    ⟨some 60, none, .mov (.t 59)⟩,
    ⟨some 61, some (60, true), .mov (.t 3)⟩,
    ⟨some 62, some (60, true), .call 42 [.t 61]⟩,
    ⟨some 63, some (60, true), .lenV (.t 62)⟩,
    ⟨some 64, some (60, true), .bin .eql (.t 63) (.c (.int .i64 0))⟩,
    ⟨some 65, none, .pick (.t 60) (.t 64) (.c (.bool false))⟩,
    ⟨some 2, none, .mov (.t 65)⟩] [2])
   (.ret))))))),
  [.t 2], 66, 1⟩
def A13 : Ann := ⟨[(0, [0]), (1, [0, 11]), (2, [2]), (3, [0, 3]), (4, [0, 3, 4]), (5, [0, 3, 4, 5]), (6, [3, 4, 5, 6, 7, 9]), (7, [2])], []⟩
set_option maxRecDepth 100000 in
theorem F13.ok : compF Try.prog A13 Try.f13 = some F13 := by kernel_rfl
theorem F13.fok : FOk Try.prog 13 F13 := fok_of mixed Try.func13 F13.ok

/-- cloakroom/cloakroomlaw24.TokenAll -/
def F14 : SFn := ⟨.seq (.region [⟨some 2, none, .mov (.c (.bool false))⟩] [0])
   (.seq (.seq (.region [⟨some 22, none, .call 36 []⟩,
    ⟨some 23, none, .un .not (.t 22)⟩] [0, 23])
   (.cond (.t 23) (.seq (.region [⟨some 2, none, .mov (.c (.bool false))⟩] [2])
   (.ret)) (.skip)))
   (.seq (.seq (.region [⟨some 24, none, .mov (.t 0)⟩,
    ⟨some 25, none, .lenV (.t 24)⟩,
    ⟨some 26, none, .bin .gtr (.t 25) (.c (.int .i64 50))⟩] [0, 26])
   (.cond (.t 26) (.seq (.region [⟨some 2, none, .mov (.c (.bool true))⟩] [2])
   (.ret)) (.skip)))
   (.seq (.region [⟨some 27, none, .call 37 []⟩,
    ⟨some 28, none, .build [.slice none 0 0] []⟩,
    ⟨some 29, none, .box (.t 28)⟩,
    ⟨some 3, none, .mov (.t 27)⟩,
    ⟨some 4, none, .mov (.t 29)⟩] [0, 3, 4])
   (.seq (.seq (.region [⟨some 5, none, .mov (.c (.int .i64 0))⟩] [0, 3, 4, 5])
   (.block 0 (.loop (.seq (.seq (.region [⟨some 30, none, .mov (.t 5)⟩,
    ⟨some 31, none, .mov (.t 0)⟩,
    ⟨some 32, none, .lenV (.t 31)⟩,
    ⟨some 33, none, .bin .lss (.t 30) (.t 32)⟩] [0, 3, 4, 5, 33])
   (.cond (.t 33) (.skip) (.exit 0)))
   (.seq (.block 1 (.seq (.region [⟨some 36, none, .mov (.t 0)⟩,
    ⟨some 37, none, .mov (.t 5)⟩,
    ⟨some 38, none, .iaV 3 (.t 36) (.t 37)⟩,
    ⟨some 39, none, .ld 3 true (.t 38)⟩,
    ⟨some 6, none, .new [.int .i64 0, .int .u64 0, .int .u8 0]⟩,
    ⟨none, none, .st 3 (.t 6) (.t 39)⟩] [0, 3, 4, 5, 6])
   (.seq (.seq (.region [⟨some 40, none, .fa 0 (.t 6)⟩,
    ⟨some 41, none, .ld 1 false (.t 40)⟩,
    ⟨some 42, none, .bin .rem (.t 41) (.c (.int .i64 10))⟩,
    ⟨some 43, none, .bin .add (.t 42) (.c (.int .i64 10))⟩,
    ⟨some 44, none, .bin .rem (.t 43) (.c (.int .i64 10))⟩,
    ⟨some 7, none, .mov (.t 44)⟩] [0, 3, 4, 5, 6, 7])
   (.block 2 (.seq (.region [⟨some 57, none, .mov (.t 7)⟩,
    ⟨some 58, none, .bin .lss (.t 57) (.c (.int .i64 3))⟩,
    ⟨some 56, none, .mov (.t 58)⟩] [0, 3, 4, 5, 6, 7, 56])
   (.cond (.t 56) (.seq (.region [⟨some 59, none, .mov (.t 3)⟩,
    ⟨some 60, none, .fa 1 (.t 6)⟩,
    ⟨some 61, none, .ld 1 false (.t 60)⟩,
    ⟨some 62, none, .fa 2 (.t 6)⟩,
    ⟨some 63, none, .ld 1 false (.t 62)⟩,
    ⟨some 66, none, .mov (.t 4)⟩,
    ⟨some 67, none, .fa 1 (.t 6)⟩,
    ⟨some 68, none, .ld 1 false (.t 67)⟩,
    ⟨some 69, none, .fa 2 (.t 6)⟩,
    ⟨some 70, none, .ld 1 false (.t 69)⟩,
    ⟨some 64, none, .call 41 [.t 63]⟩,
    ⟨none, none, .chk 1 false (.t 60) 61⟩,
    ⟨none, none, .chk 1 false (.t 67) 68⟩,
    ⟨none, none, .chk 1 false (.t 69) 70⟩,
    ⟨some 65, none, .call 38 [.t 59, .t 61, .t 64]⟩,
    ⟨none, none, .chk 1 false (.t 67) 68⟩,
    ⟨none, none, .chk 1 false (.t 69) 70⟩,
    ⟨some 71, none, .call 41 [.t 70]⟩,
    ⟨none, none, .chk 1 false (.t 67) 68⟩,
    ⟨some 72, none, .call 43 [.t 66, .t 68, .t 71]⟩,
    ⟨some 73, none, .bin .neq (.t 65) (.t 72)⟩] [0, 3, 4, 5, 73])
   (.cond (.t 73) (.seq (.region [⟨some 2, none, .mov (.c (.bool false))⟩] [2])
   (.ret)) (.skip))) (.seq (.region [⟨some 75, none, .mov (.t 7)⟩,
    ⟨some 76, none, .bin .lss (.t 75) (.c (.int .i64 6))⟩,
    ⟨some 74, none, .mov (.t 76)⟩] [0, 3, 4, 5, 6, 7, 74])
   (.cond (.t 74) (.seq (.region [⟨some 78, none, .mov (.t 3)⟩,
    ⟨some 79, none, .fa 1 (.t 6)⟩,
    ⟨some 80, none, .ld 1 false (.t 79)⟩,
    ⟨some 81, none, .fa 2 (.t 6)⟩,
    ⟨some 82, none, .ld 1 false (.t 81)⟩,
    ⟨some 10, none, .new [.int .u64 0, .int .i64 0, .int .u64 0, .slice none 0 0]⟩,
    ⟨some 83, none, .call 41 [.t 82]⟩,
    ⟨none, none, .chk 1 false (.t 79) 80⟩,
    ⟨some 84, none, .call 39 [.t 78, .t 80, .t 83]⟩,
    ⟨some 77, none, .mov (.t 84)⟩,
    ⟨some 85, none, .ext (.t 77) 0⟩,
    ⟨some 86, none, .ext (.t 77) 1⟩,
    ⟨some 87, none, .ext (.t 77) 2⟩,
    ⟨some 88, none, .ext (.t 77) 3⟩,
    ⟨some 8, none, .mov (.t 85)⟩,
    ⟨some 9, none, .mov (.t 86)⟩,
    ⟨none, none, .st 4 (.t 10) (.t 87)⟩,
    ⟨some 11, none, .mov (.t 88)⟩] [0, 3, 4, 5, 6, 8, 9, 10, 11])
   (.seq (.region [⟨some 90, none, .mov (.t 4)⟩,
    ⟨some 91, none, .fa 1 (.t 6)⟩,
    ⟨some 92, none, .ld 1 false (.t 91)⟩,
    ⟨some 93, none, .fa 2 (.t 6)⟩,
    ⟨some 94, none, .ld 1 false (.t 93)⟩,
    ⟨some 14, none, .new [.int .u64 0, .int .i64 0, .int .u64 0, .slice none 0 0]⟩,
    ⟨some 95, none, .call 41 [.t 94]⟩,
    ⟨none, none, .chk 1 false (.t 91) 92⟩,
    ⟨some 96, none, .call 44 [.t 90, .t 92, .t 95]⟩,
    ⟨some 89, none, .mov (.t 96)⟩,
    ⟨some 97, none, .ext (.t 89) 0⟩,
    ⟨some 98, none, .ext (.t 89) 1⟩,
    ⟨some 99, none, .ext (.t 89) 2⟩,
    ⟨some 100, none, .ext (.t 89) 3⟩,
    ⟨some 12, none, .mov (.t 97)⟩,
    ⟨some 13, none, .mov (.t 98)⟩,
    ⟨none, none, .st 4 (.t 14) (.t 99)⟩,
    ⟨some 15, none, .mov (.t 100)⟩] [0, 3, 4, 5, 8, 9, 10, 11, 12, 13, 14, 15])
   (.seq (.region [⟨some 101, none, .mov (.t 8)⟩,
    ⟨some 102, none, .mov (.t 12)⟩,
    ⟨some 103, none, .eqk true .bool (.t 101) (.t 102)⟩,
    ⟨some 104, none, .mov (.t 103)⟩,
    ⟨some 105, some (104, false), .mov (.t 9)⟩,
    ⟨some 106, some (104, false), .mov (.t 13)⟩,
    ⟨some 107, some (104, false), .eqk true .bool (.t 105) (.t 106)⟩,
    ⟨some 108, none, .pick (.t 104) (.c (.bool true)) (.t 107)⟩,
    ⟨some 109, none, .mov (.t 108)⟩,
    ⟨some 110, some (109, false), .mov (.t 11)⟩,
    ⟨some 111, some (109, false), .mov (.t 15)⟩,
    ⟨some 112, some (109, false), .bin .neq (.t 110) (.t 111)⟩,
    ⟨some 113, none, .pick (.t 109) (.c (.bool true)) (.t 112)⟩,
    ⟨some 114, none, .mov (.t 113)⟩,
    ⟨some 115, some (114, false), .ld 4 true (.t 10)⟩,
    ⟨some 116, some (114, false), .ld 4 true (.t 14)⟩,
    ⟨some 117, some (114, false), .call 45 [.t 115, .t 116]⟩,
    ⟨some 118, some (114, false), .un .not (.t 117)⟩,
    ⟨some 119, none, .pick (.t 114) (.c (.bool true)) (.t 118)⟩] [0, 3, 4, 5, 119])
   (.cond (.t 119) (.seq (.region [⟨some 2, none, .mov (.c (.bool false))⟩] [2])
   (.ret)) (.skip))))) (.seq (.region [⟨some 121, none, .mov (.t 7)⟩,
    ⟨some 122, none, .bin .lss (.t 121) (.c (.int .i64 9))⟩,
    ⟨some 120, none, .mov (.t 122)⟩] [0, 3, 4, 5, 6, 120])
   (.cond (.t 120) (.seq (.region [⟨some 123, none, .mov (.t 3)⟩,
    ⟨some 124, none, .fa 1 (.t 6)⟩,
    ⟨some 125, none, .ld 1 false (.t 124)⟩,
    ⟨some 126, none, .fa 2 (.t 6)⟩,
    ⟨some 127, none, .ld 1 false (.t 126)⟩,
    ⟨some 128, none, .conv .u64 (.t 127)⟩,
    ⟨some 129, none, .build [.int .u64 0, .int .i64 0, .int .u64 0, .slice none 0 0] [(2, 1, .t 128)]⟩,
    ⟨some 131, none, .mov (.t 4)⟩,
    ⟨some 132, none, .fa 1 (.t 6)⟩,
    ⟨some 133, none, .ld 1 false (.t 132)⟩,
    ⟨some 134, none, .fa 2 (.t 6)⟩,
    ⟨some 135, none, .ld 1 false (.t 134)⟩,
    ⟨some 136, none, .conv .u64 (.t 135)⟩,
    ⟨some 137, none, .build [.int .u64 0, .int .i64 0, .int .u64 0, .slice none 0 0] [(2, 1, .t 136)]⟩,
    ⟨some 130, none, .call 40 [.t 123, .t 125, .t 129]⟩,
    ⟨none, none, .chk 1 false (.t 132) 133⟩,
    ⟨none, none, .chk 1 false (.t 134) 135⟩,
    ⟨some 138, none, .call 46 [.t 131, .t 133, .t 137]⟩,
    ⟨some 139, none, .bin .neq (.t 130) (.t 138)⟩] [0, 3, 4, 5, 139])
   (.cond (.t 139) (.seq (.region [⟨some 2, none, .mov (.c (.bool false))⟩] [2])
   (.ret)) (.skip))) (.seq (.region [⟨some 45, none, .mov (.t 3)⟩,
    ⟨some 46, none, .call 47 [.t 45]⟩,
    ⟨some 16, none, .mov (.t 46)⟩] [0, 3, 4, 5, 6, 16])
   (.seq (.region [⟨some 47, none, .mov (.t 3)⟩,
    ⟨some 48, none, .call 41 [.c (.int .u8 1)]⟩,
    ⟨some 49, none, .call 38 [.t 47, .c (.int .u64 55), .t 48]⟩] [0, 3, 4, 5, 6, 16])
   (.seq (.region [⟨some 50, none, .mov (.t 3)⟩,
    ⟨some 51, none, .fa 1 (.t 6)⟩,
    ⟨some 52, none, .ld 1 false (.t 51)⟩,
    ⟨some 53, none, .build [.int .u64 0, .int .i64 0, .int .u64 0, .slice none 0 0] []⟩,
    ⟨some 54, none, .call 40 [.t 50, .t 52, .t 53]⟩] [0, 4, 5, 16])
   (.region [⟨some 55, none, .mov (.t 16)⟩,
    ⟨some 3, none, .mov (.t 55)⟩] [0, 3, 4, 5]))))))))))))
   (.seq (.region [⟨some 140, none, .mov (.t 3)⟩,
    ⟨some 141, none, .call 42 [.t 140]⟩,
    ⟨some 142, none, .mov (.t 4)⟩,
    ⟨some 143, none, .call 48 [.t 142]⟩,
    ⟨some 144, none, .call 34 [.t 141, .t 143]⟩,
    ⟨some 145, none, .un .not (.t 144)⟩] [0, 3, 4, 5, 145])
   (.cond (.t 145) (.seq (.region [⟨some 2, none, .mov (.c (.bool false))⟩] [2])
   (.ret)) (.skip))))))
   (.region [⟨some 34, none, .mov (.t 5)⟩,
    ⟨some 35, none, .bin .add (.t 34) (.c (.int .i64 1))⟩,
    ⟨some 5, none, .mov (.t 35)⟩] [0, 3, 4, 5]))))))
   (.seq (.region [⟨some 17, none, .mov (.c (.pointer none))⟩] [17])
   (.seq (.region [⟨some 147, none, .mov (.t 17)⟩,
    ⟨some 148, none, .call 41 [.c (.int .u8 0)]⟩,
    ⟨some 149, none, .call 39 [.t 147, .c (.int .u64 1), .t 148]⟩,
    ⟨some 146, none, .mov (.t 149)⟩,
    ⟨some 150, none, .ext (.t 146) 0⟩,
    ⟨some 151, none, .ext (.t 146) 1⟩,
    ⟨some 152, none, .ext (.t 146) 2⟩,
    ⟨some 153, none, .ext (.t 146) 3⟩,
    ⟨some 20, none, .new [.int .u64 0, .int .i64 0, .int .u64 0, .slice none 0 0]⟩,
    ⟨some 18, none, .mov (.t 150)⟩,
    ⟨some 19, none, .mov (.t 151)⟩,
    ⟨none, none, .st 4 (.t 20) (.t 152)⟩,
    ⟨some 21, none, .mov (.t 153)⟩] [17, 18, 19, 21])
   (.seq (.region [⟨some 154, none, .mov (.t 18)⟩,
    ⟨some 155, none, .un .not (.t 154)⟩,
    ⟨some 156, none, .mov (.t 155)⟩,
    ⟨some 157, some (156, true), .mov (.t 19)⟩,
    ⟨some 158, some (156, true), .un .not (.t 157)⟩,
    ⟨some 159, none, .pick (.t 156) (.t 158) (.c (.bool false))⟩,
    ⟨some 160, none, .mov (.t 159)⟩,
    ⟨some 161, some (160, true), .mov (.t 21)⟩,
    ⟨some 162, some (160, true), .bin .eql (.t 161) (.c (.int .i64 1))⟩,
    ⟨some 163, none, .pick (.t 160) (.t 162) (.c (.bool false))⟩,
    ⟨some 164, none, .mov (.t 163)⟩,
    ⟨some 165, some (164, true), .mov (.t 17)⟩,
    ⟨some 166, some (164, true), .call 41 [.c (.int .u8 0)]⟩,
    ⟨some 167, some (164, true), .call 38 [.t 165, .c (.int .u64 1), .t 166]⟩,
    ⟨some 168, some (164, true), .bin .eql (.t 167) (.c (.int .i64 1))⟩,
    ⟨some 169, none, .pick (.t 164) (.t 168) (.c (.bool false))⟩,
    ⟨some 170, none, .mov (.t 169)⟩,
    ⟨some 171, some (170, true), .mov (.t 17)⟩,
    ⟨some 172, some (170, true), .build [.int .u64 0, .int .i64 0, .int .u64 0, .slice none 0 0] []⟩,
    ⟨some 173, some (170, true), .call 40 [.t 171, .c (.int .u64 1), .t 172]⟩,
    ⟨some 174, some (170, true), .bin .eql (.t 173) (.c (.int .i64 0))⟩,
    ⟨some 175, none, .pick (.t 170) (.t 174) (.c (.bool false))⟩,
    ⟨some 176, none, .mov (.t 175)⟩,
    ⟨some 177, some (176, true), .mov (.t 17)⟩,
    ⟨some 178, some (176, true), .call 42 [.t 177]⟩,
    ⟨some 179, some (176, true), .lenV (.t 178)⟩,
    ⟨some 180, some (176, true), .bin .eql (.t 179) (.c (.int .i64 0))⟩,
    ⟨some 181, none, .pick (.t 176) (.t 180) (.c (.bool false))⟩,
    ⟨some 182, none, .mov (.t 181)⟩,
    ⟨some 183, some (182, true), .mov (.t 17)⟩,
    ⟨some 184, some (182, true), .call 47 [.t 183]⟩,
    ⟨some 185, some (182, true), .eqk false .ptr (.t 184) (.c (.pointer none))⟩,
    ⟨some 186, none, .pick (.t 182) (.t 185) (.c (.bool false))⟩,
    ⟨some 2, none, .mov (.t 186)⟩] [2])
   (.ret)))))))),
  [.t 2], 187, 1⟩
def A14 : Ann := ⟨[(0, [0]), (1, [0, 23]), (2, [2]), (3, [0, 26]), (4, [2]), (5, [0, 3, 4]), (6, [0, 3, 4, 5]), (7, [0, 3, 4, 5, 33]), (8, [0, 3, 4, 5]), (9, [0, 3, 4, 5, 6]), (10, [0, 3, 4, 5, 6, 7]), (11, [0, 3, 4, 5, 6, 16]), (12, [0, 3, 4, 5, 6, 16]), (13, [0, 4, 5, 16]), (14, [0, 3, 4, 5]), (15, [0, 3, 4, 5, 6, 7, 56]), (16, [0, 3, 4, 5, 73]), (17, [2]), (18, [0, 3, 4, 5, 6, 7, 74]), (19, [0, 3, 4, 5, 6, 8, 9, 10, 11]), (20, [0, 3, 4, 5, 8, 9, 10, 11, 12, 13, 14, 15]), (21, [0, 3, 4, 5, 119]), (22, [2]), (23, [0, 3, 4, 5, 6, 120]), (24, [0, 3, 4, 5, 139]), (25, [2]), (26, [0, 3, 4, 5, 145]), (27, [2]), (28, [17]), (29, [17, 18, 19, 21]), (30, [2])], [(16, [(0, []), (1, []), (2, []), (3, []), (4, []), (7, []), (8, []), (9, []), (10, []), (11, []), (5, [2, 9, 11]), (6, [9, 11]), (12, [9]), (13, []), (14, [])], [(2, [1]), (4, [3]), (5, [3, 4]), (6, [0, 1, 2, 3, 4, 5]), (9, [8]), (11, [10]), (12, [0, 1, 2, 3, 4, 5, 6, 10, 11]), (13, [0, 1, 2, 3, 4, 5, 6, 7, 8, 9, 10, 11, 12]), (14, [0, 1, 2, 3, 4, 5, 6, 7, 8, 9, 10, 11, 12, 13])]),
  (19, [(0, []), (1, []), (2, []), (3, []), (4, []), (12, []), (5, [2]), (6, []), (7, []), (8, []), (9, []), (10, []), (11, []), (13, []), (14, []), (15, []), (16, [])], [(2, [1]), (4, [3]), (5, [3, 4]), (6, [0, 1, 2, 3, 4, 5]), (7, [0, 1, 2, 3, 4, 5, 6]), (8, [0, 1, 2, 3, 4, 5, 6, 7]), (9, [0, 1, 2, 3, 4, 5, 6, 7]), (10, [0, 1, 2, 3, 4, 5, 6, 7]), (11, [0, 1, 2, 3, 4, 5, 6, 7]), (13, [0, 1, 2, 3, 4, 5, 6, 7, 8, 12]), (14, [0, 1, 2, 3, 4, 5, 6, 7, 8, 9, 12, 13]), (15, [0, 1, 2, 3, 4, 5, 6, 7, 8, 9, 10, 12, 13, 14]), (16, [0, 1, 2, 3, 4, 5, 6, 7, 8, 9, 10, 11, 12, 13, 14, 15])]),
  (20, [(0, []), (1, []), (2, []), (3, []), (4, []), (12, []), (5, [2]), (6, []), (7, []), (8, []), (9, []), (10, []), (11, []), (13, []), (14, []), (15, []), (16, [])], [(2, [1]), (4, [3]), (5, [3, 4]), (6, [0, 1, 2, 3, 4, 5]), (7, [0, 1, 2, 3, 4, 5, 6]), (8, [0, 1, 2, 3, 4, 5, 6, 7]), (9, [0, 1, 2, 3, 4, 5, 6, 7]), (10, [0, 1, 2, 3, 4, 5, 6, 7]), (11, [0, 1, 2, 3, 4, 5, 6, 7]), (13, [0, 1, 2, 3, 4, 5, 6, 7, 8, 12]), (14, [0, 1, 2, 3, 4, 5, 6, 7, 8, 9, 12, 13]), (15, [0, 1, 2, 3, 4, 5, 6, 7, 8, 9, 10, 12, 13, 14]), (16, [0, 1, 2, 3, 4, 5, 6, 7, 8, 9, 10, 11, 12, 13, 14, 15])]),
  (24, [(0, []), (1, []), (2, []), (3, []), (4, []), (5, []), (6, []), (8, []), (9, []), (10, []), (11, []), (12, []), (13, []), (14, []), (7, [10, 12]), (15, []), (16, [])], [(2, [1]), (4, [3]), (5, [3, 4]), (6, [3, 4, 5]), (7, [0, 1, 2, 3, 4, 5, 6]), (10, [9]), (12, [11]), (13, [11, 12]), (14, [11, 12, 13]), (15, [0, 1, 2, 3, 4, 5, 6, 7, 8, 9, 10, 11, 12, 13, 14]), (16, [0, 1, 2, 3, 4, 5, 6, 7, 8, 9, 10, 11, 12, 13, 14, 15])])]⟩
set_option maxRecDepth 100000 in
theorem F14.ok : compF Try.prog A14 Try.f14 = some F14 := by kernel_rfl
theorem F14.fok : FOk Try.prog 14 F14 := fok_of mixed Try.func14 F14.ok

/-- cloakroom/cloakroomlaw2.begun -/
def F15 : SFn := ⟨.seq (.region [⟨some 0, none, .mov (.c (.bool false))⟩] [])
   (.seq (.region [⟨some 6, none, .call 17 []⟩,
    ⟨some 1, none, .mov (.t 6)⟩] [1])
   (.seq (.region [⟨some 8, none, .mov (.t 1)⟩,
    ⟨some 9, none, .bslice 2 1 [.int .u8 0] [(0, 1, .c (.int .u8 0)), (1, 1, .c (.int .u8 1))]⟩,
    ⟨some 10, none, .call 18 [.t 8, .t 9]⟩,
    ⟨some 7, none, .mov (.t 10)⟩,
    ⟨some 11, none, .ext (.t 7) 0⟩,
    ⟨some 12, none, .ext (.t 7) 1⟩,
    ⟨some 2, none, .mov (.t 11)⟩,
    ⟨some 3, none, .mov (.t 12)⟩] [1, 2, 3])
   (.seq (.region [⟨some 14, none, .mov (.t 1)⟩,
    ⟨some 15, none, .bslice 2 1 [.int .u8 0] [(0, 1, .c (.int .u8 7)), (1, 1, .c (.int .u8 0))]⟩,
    ⟨some 16, none, .call 18 [.t 14, .t 15]⟩,
    ⟨some 13, none, .mov (.t 16)⟩,
    ⟨some 17, none, .ext (.t 13) 0⟩,
    ⟨some 18, none, .ext (.t 13) 1⟩,
    ⟨some 4, none, .mov (.t 17)⟩,
    ⟨some 5, none, .mov (.t 18)⟩] [1, 2, 3, 4, 5])
   (.seq (.region [⟨some 19, none, .mov (.t 3)⟩,
    ⟨some 20, none, .bin .eql (.t 19) (.c (.int .i64 0))⟩,
    ⟨some 21, none, .mov (.t 20)⟩,
    ⟨some 22, some (21, true), .mov (.t 2)⟩,
    ⟨some 23, some (21, true), .lenV (.t 22)⟩,
    ⟨some 24, some (21, true), .bin .eql (.t 23) (.c (.int .i64 0))⟩,
    ⟨some 25, none, .pick (.t 21) (.t 24) (.c (.bool false))⟩,
    ⟨some 26, none, .mov (.t 25)⟩,
    ⟨some 27, some (26, true), .mov (.t 5)⟩,
    ⟨some 28, some (26, true), .bin .eql (.t 27) (.c (.int .i64 0))⟩,
    ⟨some 29, none, .pick (.t 26) (.t 28) (.c (.bool false))⟩,
    ⟨some 30, none, .mov (.t 29)⟩,
    ⟨some 31, some (30, true), .mov (.t 4)⟩,
    ⟨some 32, some (30, true), .lenV (.t 31)⟩,
    ⟨some 33, some (30, true), .bin .eql (.t 32) (.c (.int .i64 1))⟩,
    ⟨some 34, none, .pick (.t 30) (.t 33) (.c (.bool false))⟩,
    ⟨some 35, none, .mov (.t 34)⟩,
    ⟨some 36, some (35, true), .mov (.t 4)⟩,
    ⟨some 37, some (35, true), .iaV 1 (.t 36) (.c (.int .i64 0))⟩,
    ⟨some 38, some (35, true), .ld 1 false (.t 37)⟩,
    ⟨some 39, some (35, true), .lenV (.t 38)⟩,
    ⟨some 40, some (35, true), .bin .eql (.t 39) (.c (.int .i64 1))⟩,
    ⟨some 41, none, .pick (.t 35) (.t 40) (.c (.bool false))⟩,
    ⟨some 42, none, .mov (.t 41)⟩,
    ⟨some 43, some (42, true), .mov (.t 1)⟩,
    ⟨some 44, some (42, true), .call 20 [.t 43]⟩,
    ⟨some 45, some (42, true), .bin .eql (.t 44) (.c (.int .i64 1))⟩,
    ⟨some 46, none, .pick (.t 42) (.t 45) (.c (.bool false))⟩,
    ⟨some 47, none, .mov (.t 46)⟩,
    ⟨some 48, some (47, true), .mov (.t 1)⟩,
    ⟨some 49, some (47, true), .call 21 [.t 48]⟩,
    ⟨some 50, some (47, true), .un .not (.t 49)⟩,
    ⟨some 51, none, .pick (.t 47) (.t 50) (.c (.bool false))⟩,
    ⟨some 52, none, .mov (.t 51)⟩,
    ⟨some 53, some (52, true), .bslice 1 1 [.int .u8 0] [(0, 1, .c (.int .u8 7))]⟩,
    ⟨some 54, some (52, true), .call 16 [.t 53]⟩,
    ⟨some 55, some (52, true), .toStr (.t 54)⟩,
    ⟨some 56, some (52, true), .bin .eql (.t 55) (.c (.string { data := #[0, 1, 7] }))⟩,
    ⟨some 57, none, .pick (.t 52) (.t 56) (.c (.bool false))⟩,
    ⟨some 0, none, .mov (.t 57)⟩] [0])
   (.ret))))),
  [.t 0], 58, 0⟩
def A15 : Ann := ⟨[(0, []), (1, [1]), (2, [1, 2, 3]), (3, [1, 2, 3, 4, 5]), (4, [0])], []⟩
set_option maxRecDepth 100000 in
theorem F15.ok : compF Try.prog A15 Try.f15 = some F15 := by kernel_rfl
theorem F15.fok : FOk Try.prog 15 F15 := fok_of mixed Try.func15 F15.ok

/-- cloakroom/frame.Put -/
def F16 : SFn := ⟨.seq (.region [⟨some 2, none, .mov (.c (.slice none 0 0))⟩] [0])
   (.seq (.region [⟨some 4, none, .mov (.t 0)⟩,
    ⟨some 5, none, .lenV (.t 4)⟩,
    ⟨some 3, none, .mov (.t 5)⟩] [0, 3])
   (.seq (.seq (.region [⟨some 6, none, .mov (.t 3)⟩,
    ⟨some 7, none, .bin .gtr (.t 6) (.c (.int .i64 5000))⟩] [0, 3, 7])
   (.cond (.t 7) (.seq (.region [⟨some 2, none, .mov (.c (.slice none 0 0))⟩] [2])
   (.ret)) (.skip)))
   (.seq (.region [⟨some 8, none, .mov (.t 3)⟩,
    ⟨some 9, none, .bin .shr (.t 8) (.c (.int .u64 8))⟩,
    ⟨some 10, none, .conv .u8 (.t 9)⟩,
    ⟨some 11, none, .mov (.t 3)⟩,
    ⟨some 12, none, .conv .u8 (.t 11)⟩,
    ⟨some 13, none, .bslice 2 1 [.int .u8 0] [(0, 1, .t 10), (1, 1, .t 12)]⟩,
    ⟨some 14, none, .mov (.t 0)⟩,
    ⟨some 15, none, .app 1 1 (.t 13) (.t 14)⟩,
    ⟨some 2, none, .mov (.t 15)⟩] [2])
   (.ret)))),
  [.t 2], 16, 1⟩
def A16 : Ann := ⟨[(0, [0]), (1, [0, 3]), (2, [0, 3, 7]), (3, [2]), (4, [2])], []⟩
set_option maxRecDepth 100000 in
theorem F16.ok : compF Try.prog A16 Try.f16 = some F16 := by kernel_rfl
theorem F16.fok : FOk Try.prog 16 F16 := fok_of mixed Try.func16 F16.ok

/-- cloakroom/frame.New -/
def F17 : SFn := ⟨.seq (.region [⟨some 0, none, .mov (.c (.pointer none))⟩] [])
   (.seq (.region [⟨some 1, none, .build [.slice none 0 0, .bool false] []⟩,
    ⟨some 2, none, .box (.t 1)⟩,
    ⟨some 0, none, .mov (.t 2)⟩] [0])
   (.ret)),
  [.t 0], 3, 0⟩
def A17 : Ann := ⟨[(0, []), (1, [0])], []⟩
set_option maxRecDepth 100000 in
theorem F17.ok : compF Try.prog A17 Try.f17 = some F17 := by kernel_rfl
theorem F17.fok : FOk Try.prog 17 F17 := fok_of mixed Try.func17 F17.ok

/-- (*cloakroom/frame.Parts).Add -/
def F18 : SFn := ⟨.seq (.region [⟨some 4, none, .mov (.c (.slice none 0 0))⟩,
    ⟨some 5, none, .mov (.c (.int .i64 0))⟩] [0, 1, 4])
   (.seq (.block 0 (.seq (.region [⟨some 10, none, .mov (.t 0)⟩,
    ⟨some 11, none, .eqk false .ptr (.t 10) (.c (.pointer none))⟩,
    ⟨some 9, none, .mov (.t 11)⟩] [0, 1, 4, 9])
   (.cond (.t 9) (.seq (.region [⟨some 4, none, .mov (.c (.slice none 0 0))⟩,
    ⟨some 5, none, .mov (.c (.int .i64 1))⟩] [4, 5])
   (.ret)) (.seq (.region [⟨some 13, none, .mov (.t 0)⟩,
    ⟨some 14, none, .nilc (.t 13)⟩,
    ⟨some 15, none, .fa 1 (.t 14)⟩,
    ⟨some 16, none, .ld 1 false (.t 15)⟩,
    ⟨some 12, none, .mov (.t 16)⟩] [0, 1, 4, 12])
   (.cond (.t 12) (.seq (.region [⟨some 4, none, .mov (.c (.slice none 0 0))⟩,
    ⟨some 5, none, .mov (.c (.int .i64 4))⟩] [4, 5])
   (.ret)) (.skip))))))
   (.seq (.region [⟨some 17, none, .mov (.t 0)⟩,
    ⟨some 18, none, .mov (.t 0)⟩,
    ⟨some 19, none, .nilc (.t 18)⟩,
    ⟨some 20, none, .fa 0 (.t 19)⟩,
    ⟨some 21, none, .fa 0 (.t 20)⟩,
    ⟨some 22, none, .ld 1 false (.t 21)⟩,
    ⟨some 23, none, .mov (.t 1)⟩,
    ⟨some 24, none, .bslice 2 1 [.slice none 0 0] [(0, 1, .t 22), (1, 1, .t 23)]⟩,
    ⟨some 25, none, .call 49 [.t 24]⟩,
    ⟨some 26, none, .nilc (.t 17)⟩,
    ⟨some 27, none, .fa 0 (.t 26)⟩,
    ⟨some 28, none, .fa 0 (.t 27)⟩,
    ⟨none, none, .st 1 (.t 28) (.t 25)⟩] [0, 4])
   (.block 1 (.loop (.block 2 (.seq (.region [⟨some 30, none, .mov (.t 0)⟩,
    ⟨some 31, none, .nilc (.t 30)⟩,
    ⟨some 32, none, .fa 0 (.t 31)⟩,
    ⟨some 33, none, .call 50 [.t 32]⟩,
    ⟨some 29, none, .mov (.t 33)⟩,
    ⟨some 34, none, .ext (.t 29) 0⟩,
    ⟨some 35, none, .ext (.t 29) 1⟩,
    ⟨some 36, none, .ext (.t 29) 2⟩,
    ⟨some 6, none, .mov (.t 34)⟩,
    ⟨some 7, none, .mov (.t 35)⟩,
    ⟨some 8, none, .mov (.t 36)⟩] [0, 4, 6, 7, 8])
   (.seq (.seq (.region [⟨some 37, none, .mov (.t 8)⟩] [0, 4, 6, 7, 37])
   (.cond (.t 37) (.seq (.region [⟨some 38, none, .mov (.t 0)⟩,
    ⟨some 39, none, .mov (.t 0)⟩,
    ⟨some 40, none, .nilc (.t 38)⟩,
    ⟨some 41, none, .fa 0 (.t 40)⟩,
    ⟨some 42, none, .fa 0 (.t 41)⟩,
    ⟨none, none, .st 1 (.t 42) (.c (.slice none 0 0))⟩,
    ⟨some 43, none, .nilc (.t 39)⟩,
    ⟨some 44, none, .fa 1 (.t 43)⟩,
    ⟨none, none, .st 1 (.t 44) (.c (.bool true))⟩] [4])
   (.seq (.region [⟨some 45, none, .mov (.t 4)⟩,
    ⟨some 4, none, .mov (.t 45)⟩,
    ⟨some 5, none, .mov (.c (.int .i64 4))⟩] [4, 5])
   (.ret))) (.skip)))
   (.seq (.seq (.region [⟨some 46, none, .mov (.t 7)⟩,
    ⟨some 47, none, .un .not (.t 46)⟩] [0, 4, 6, 47])
   (.cond (.t 47) (.seq (.region [⟨some 48, none, .mov (.t 4)⟩,
    ⟨some 4, none, .mov (.t 48)⟩,
    ⟨some 5, none, .mov (.c (.int .i64 0))⟩] [4, 5])
   (.ret)) (.skip)))
   (.region [⟨some 49, none, .mov (.t 4)⟩,
    ⟨some 50, none, .mov (.t 6)⟩,
    ⟨some 51, none, .bslice 1 1 [.slice none 0 0] [(0, 1, .t 50)]⟩,
    ⟨some 52, none, .app 1 24 (.t 49) (.t 51)⟩,
    ⟨some 4, none, .mov (.t 52)⟩] [0, 4]))))))))),
  [.t 4, .t 5], 53, 2⟩
def A18 : Ann := ⟨[(0, [0, 1, 4]), (1, [0, 1, 4, 9]), (2, [4, 5]), (3, [0, 1, 4, 12]), (4, [4, 5]), (5, [0, 4]), (6, [0, 4, 6, 7, 8]), (7, [0, 4, 6, 7, 37]), (8, [4]), (9, [4, 5]), (10, [0, 4, 6, 47]), (11, [4, 5]), (12, [0, 4])], []⟩
set_option maxRecDepth 100000 in
theorem F18.ok : compF Try.prog A18 Try.f18 = some F18 := by kernel_rfl
theorem F18.fok : FOk Try.prog 18 F18 := fok_of mixed Try.func18 F18.ok

/-- cloakroom/cloakroomlaw2.same -/
def F19 : SFn := ⟨.seq (.region [⟨some 4, none, .mov (.c (.bool false))⟩] [0, 1])
   (.seq (.seq (.region [⟨some 6, none, .mov (.t 0)⟩,
    ⟨some 7, none, .lenV (.t 6)⟩,
    ⟨some 8, none, .mov (.t 1)⟩,
    ⟨some 9, none, .lenV (.t 8)⟩,
    ⟨some 10, none, .bin .neq (.t 7) (.t 9)⟩] [0, 1, 10])
   (.cond (.t 10) (.seq (.region [⟨some 4, none, .mov (.c (.bool false))⟩] [4])
   (.ret)) (.skip)))
   (.seq (.seq (.region [⟨some 5, none, .mov (.c (.int .i64 0))⟩] [0, 1, 5])
   (.block 0 (.loop (.seq (.seq (.region [⟨some 11, none, .mov (.t 5)⟩,
    ⟨some 12, none, .mov (.t 0)⟩,
    ⟨some 13, none, .lenV (.t 12)⟩,
    ⟨some 14, none, .bin .lss (.t 11) (.t 13)⟩] [0, 1, 5, 14])
   (.cond (.t 14) (.skip) (.exit 0)))
   (.seq (.block 1 (.seq (.region [⟨some 17, none, .mov (.t 0)⟩,
    ⟨some 18, none, .mov (.t 5)⟩,
    ⟨some 19, none, .iaV 1 (.t 17) (.t 18)⟩,
    ⟨some 20, none, .ld 1 false (.t 19)⟩,
    ⟨some 21, none, .toStr (.t 20)⟩,
    ⟨some 22, none, .mov (.t 1)⟩,
    ⟨some 23, none, .mov (.t 5)⟩,
    ⟨some 24, none, .iaV 1 (.t 22) (.t 23)⟩,
    ⟨some 25, none, .ld 1 false (.t 24)⟩,
    ⟨some 26, none, .toStr (.t 25)⟩,
    ⟨some 27, none, .bin .neq (.t 21) (.t 26)⟩] [0, 1, 5, 27])
   (.cond (.t 27) (.seq (.region [⟨some 4, none, .mov (.c (.bool false))⟩] [4])
   (.ret)) (.skip))))
   (.region [⟨some 15, none, .mov (.t 5)⟩,
    ⟨some 16, none, .bin .add (.t 15) (.c (.int .i64 1))⟩,
    ⟨some 5, none, .mov (.t 16)⟩] [0, 1, 5]))))))
   (.seq (.region [⟨some 4, none, .mov (.c (.bool true))⟩] [4])
   (.ret)))),
  [.t 4], 28, 2⟩
def A19 : Ann := ⟨[(0, [0, 1]), (1, [0, 1, 10]), (2, [4]), (3, [0, 1, 5]), (4, [0, 1, 5, 14]), (5, [0, 1, 5]), (6, [0, 1, 5, 27]), (7, [4]), (8, [4])], [(6, [(0, []), (1, []), (2, []), (3, []), (4, []), (5, []), (6, []), (7, []), (8, []), (9, []), (10, [])], [(2, [0, 1]), (3, [0, 1, 2]), (4, [0, 1, 2, 3]), (7, [5, 6]), (8, [5, 6, 7]), (9, [5, 6, 7, 8]), (10, [0, 1, 2, 3, 4, 5, 6, 7, 8, 9])])]⟩
set_option maxRecDepth 100000 in
theorem F19.ok : compF Try.prog A19 Try.f19 = some F19 := by kernel_rfl
theorem F19.fok : FOk Try.prog 19 F19 := fok_of mixed Try.func19 F19.ok

/-- (*cloakroom/frame.Parts).Rest -/
def F20 : SFn := ⟨.seq (.region [⟨some 2, none, .mov (.c (.int .i64 0))⟩] [0])
   (.seq (.seq (.region [⟨some 3, none, .mov (.t 0)⟩,
    ⟨some 4, none, .eqk false .ptr (.t 3) (.c (.pointer none))⟩] [0, 4])
   (.cond (.t 4) (.seq (.region [⟨some 2, none, .mov (.c (.int .i64 0))⟩] [2])
   (.ret)) (.skip)))
   (.seq (.region [⟨some 5, none, .mov (.t 0)⟩,
    ⟨some 6, none, .nilc (.t 5)⟩,
    ⟨some 7, none, .fa 0 (.t 6)⟩,
    ⟨some 8, none, .call 51 [.t 7]⟩,
    ⟨some 2, none, .mov (.t 8)⟩] [2])
   (.ret))),
  [.t 2], 9, 1⟩
def A20 : Ann := ⟨[(0, [0]), (1, [0, 4]), (2, [2]), (3, [2])], []⟩
set_option maxRecDepth 100000 in
theorem F20.ok : compF Try.prog A20 Try.f20 = some F20 := by kernel_rfl
theorem F20.fok : FOk Try.prog 20 F20 := fok_of mixed Try.func20 F20.ok

/-- (*cloakroom/frame.Parts).Bad -/
def F21 : SFn := ⟨.seq (.region [⟨some 2, none, .mov (.c (.bool false))⟩] [0])
   (.seq (.region [⟨some 3, none, .mov (.t 0)⟩,
    ⟨some 4, none, .eqk true .ptr (.t 3) (.c (.pointer none))⟩,
    ⟨some 5, none, .mov (.t 4)⟩,
    ⟨some 6, some (5, true), .mov (.t 0)⟩,
    ⟨some 7, some (5, true), .nilc (.t 6)⟩,
    ⟨some 8, some (5, true), .fa 1 (.t 7)⟩,
    ⟨some 9, some (5, true), .ld 1 false (.t 8)⟩,
    ⟨some 10, none, .pick (.t 5) (.t 9) (.c (.bool false))⟩,
    ⟨some 2, none, .mov (.t 10)⟩] [2])
   (.ret)),
  [.t 2], 11, 1⟩
def A21 : Ann := ⟨[(0, [0]), (1, [2])], []⟩
set_option maxRecDepth 100000 in
theorem F21.ok : compF Try.prog A21 Try.f21 = some F21 := by kernel_rfl
theorem F21.fok : FOk Try.prog 21 F21 := fok_of mixed Try.func21 F21.ok

/-- (*cloakroom/cloakroomref1.Parts).Add -/
def F22 : SFn := ⟨.seq (.region [⟨some 4, none, .mov (.c (.slice none 0 0))⟩,
    ⟨some 5, none, .mov (.c (.int .i64 0))⟩] [0, 1])
   (.seq (.seq (.region [⟨some 8, none, .mov (.t 0)⟩,
    ⟨some 9, none, .nilc (.t 8)⟩,
    ⟨some 10, none, .fa 1 (.t 9)⟩,
    ⟨some 11, none, .ld 1 false (.t 10)⟩] [0, 1, 11])
   (.cond (.t 11) (.seq (.region [⟨some 4, none, .mov (.c (.slice none 0 0))⟩,
    ⟨some 5, none, .mov (.c (.int .i64 4))⟩] [4, 5])
   (.ret)) (.skip)))
   (.seq (.region [⟨some 12, none, .mov (.t 0)⟩,
    ⟨some 13, none, .bslice 0 1 [.int .u8 0] []⟩,
    ⟨some 14, none, .mov (.t 0)⟩,
    ⟨some 15, none, .nilc (.t 14)⟩,
    ⟨some 16, none, .fa 0 (.t 15)⟩,
    ⟨some 17, none, .ld 1 false (.t 16)⟩,
    ⟨some 18, none, .app 1 1 (.t 13) (.t 17)⟩,
    ⟨some 19, none, .mov (.t 1)⟩,
    ⟨some 20, none, .app 1 1 (.t 18) (.t 19)⟩,
    ⟨some 21, none, .nilc (.t 12)⟩,
    ⟨some 22, none, .fa 0 (.t 21)⟩,
    ⟨none, none, .st 1 (.t 22) (.t 20)⟩] [0])
   (.seq (.region [⟨some 6, none, .mov (.c (.slice none 0 0))⟩] [0, 6])
   (.seq (.block 0 (.loop (.seq (.seq (.region [⟨some 23, none, .mov (.t 0)⟩,
    ⟨some 24, none, .nilc (.t 23)⟩,
    ⟨some 25, none, .fa 0 (.t 24)⟩,
    ⟨some 26, none, .ld 1 false (.t 25)⟩,
    ⟨some 27, none, .lenV (.t 26)⟩,
    ⟨some 28, none, .bin .geq (.t 27) (.c (.int .i64 2))⟩] [0, 6, 28])
   (.cond (.t 28) (.skip) (.exit 0)))
   (.block 1 (.seq (.region [⟨some 29, none, .mov (.t 0)⟩,
    ⟨some 30, none, .nilc (.t 29)⟩,
    ⟨some 31, none, .fa 0 (.t 30)⟩,
    ⟨some 32, none, .ld 1 false (.t 31)⟩,
    ⟨some 33, none, .iaV 1 (.t 32) (.c (.int .i64 0))⟩,
    ⟨some 34, none, .ld 1 false (.t 33)⟩,
    ⟨some 35, none, .conv .i64 (.t 34)⟩,
    ⟨some 36, none, .bin .mul (.t 35) (.c (.int .i64 256))⟩,
    ⟨some 37, none, .mov (.t 0)⟩,
    ⟨some 38, none, .nilc (.t 37)⟩,
    ⟨some 39, none, .fa 0 (.t 38)⟩,
    ⟨some 40, none, .ld 1 false (.t 39)⟩,
    ⟨some 41, none, .iaV 1 (.t 40) (.c (.int .i64 1))⟩,
    ⟨some 42, none, .ld 1 false (.t 41)⟩,
    ⟨some 43, none, .conv .i64 (.t 42)⟩,
    ⟨some 44, none, .bin .add (.t 36) (.t 43)⟩,
    ⟨some 7, none, .mov (.t 44)⟩] [0, 6, 7])
   (.seq (.seq (.region [⟨some 45, none, .mov (.t 7)⟩,
    ⟨some 46, none, .bin .gtr (.t 45) (.c (.int .i64 5000))⟩] [0, 6, 7, 46])
   (.cond (.t 46) (.seq (.region [⟨some 47, none, .mov (.t 0)⟩,
    ⟨some 48, none, .mov (.t 0)⟩,
    ⟨some 49, none, .nilc (.t 47)⟩,
    ⟨some 50, none, .fa 0 (.t 49)⟩,
    ⟨none, none, .st 1 (.t 50) (.c (.slice none 0 0))⟩,
    ⟨some 51, none, .nilc (.t 48)⟩,
    ⟨some 52, none, .fa 1 (.t 51)⟩,
    ⟨none, none, .st 1 (.t 52) (.c (.bool true))⟩] [6])
   (.seq (.region [⟨some 53, none, .mov (.t 6)⟩,
    ⟨some 4, none, .mov (.t 53)⟩,
    ⟨some 5, none, .mov (.c (.int .i64 4))⟩] [4, 5])
   (.ret))) (.skip)))
   (.seq (.seq (.region [⟨some 54, none, .mov (.t 0)⟩,
    ⟨some 55, none, .nilc (.t 54)⟩,
    ⟨some 56, none, .fa 0 (.t 55)⟩,
    ⟨some 57, none, .ld 1 false (.t 56)⟩,
    ⟨some 58, none, .lenV (.t 57)⟩,
    ⟨some 59, none, .bin .sub (.t 58) (.c (.int .i64 2))⟩,
    ⟨some 60, none, .mov (.t 7)⟩,
    ⟨some 61, none, .bin .lss (.t 59) (.t 60)⟩] [0, 6, 7, 61])
   (.cond (.t 61) (.exit 0) (.skip)))
   (.seq (.region [⟨some 62, none, .mov (.t 6)⟩,
    ⟨some 63, none, .bslice 0 1 [.int .u8 0] []⟩,
    ⟨some 64, none, .mov (.t 0)⟩,
    ⟨some 65, none, .nilc (.t 64)⟩,
    ⟨some 66, none, .fa 0 (.t 65)⟩,
    ⟨some 67, none, .ld 1 false (.t 66)⟩,
    ⟨some 68, none, .mov (.t 7)⟩,
    ⟨some 69, none, .bin .add (.c (.int .i64 2)) (.t 68)⟩,
    ⟨some 70, none, .slV 1 (.t 67) (some (.c (.int .i64 2))) (some (.t 69)) none⟩,
    ⟨some 71, none, .app 1 1 (.t 63) (.t 70)⟩,
    ⟨some 72, none, .bslice 1 1 [.slice none 0 0] [(0, 1, .t 71)]⟩,
    ⟨some 73, none, .app 1 24 (.t 62) (.t 72)⟩,
    ⟨some 6, none, .mov (.t 73)⟩] [0, 6, 7])
   (.region [⟨some 74, none, .mov (.t 0)⟩,
    ⟨some 75, none, .bslice 0 1 [.int .u8 0] []⟩,
    ⟨some 76, none, .mov (.t 0)⟩,
    ⟨some 77, none, .nilc (.t 76)⟩,
    ⟨some 78, none, .fa 0 (.t 77)⟩,
    ⟨some 79, none, .ld 1 false (.t 78)⟩,
    ⟨some 80, none, .mov (.t 7)⟩,
    ⟨some 81, none, .bin .add (.c (.int .i64 2)) (.t 80)⟩,
    ⟨some 82, none, .slV 1 (.t 79) (some (.t 81)) none none⟩,
    ⟨some 83, none, .app 1 1 (.t 75) (.t 82)⟩,
    ⟨some 84, none, .nilc (.t 74)⟩,
    ⟨some 85, none, .fa 0 (.t 84)⟩,
    ⟨none, none, .st 1 (.t 85) (.t 83)⟩] [0, 6])))))))))
   (.seq (.region [⟨some 86, none, .mov (.t 6)⟩,
    ⟨some 4, none, .mov (.t 86)⟩,
    ⟨some 5, none, .mov (.c (.int .i64 0))⟩] [4, 5])
   (.ret)))))),
  [.t 4, .t 5], 87, 2⟩
def A22 : Ann := ⟨[(0, [0, 1]), (1, [0, 1, 11]), (2, [4, 5]), (3, [0]), (4, [0, 6]), (5, [0, 6, 28]), (6, [0, 6, 7]), (7, [0, 6, 7, 46]), (8, [6]), (9, [4, 5]), (10, [0, 6, 7, 61]), (11, [0, 6, 7]), (12, [0, 6]), (13, [4, 5])], [(6, [(0, []), (1, []), (2, []), (3, []), (4, []), (5, []), (6, []), (7, []), (8, []), (9, []), (10, []), (11, []), (12, []), (13, []), (14, []), (15, []), (16, [])], [(1, [0]), (2, [0, 1]), (3, [0, 1, 2]), (4, [0, 1, 2, 3]), (5, [0, 1, 2, 3, 4]), (6, [0, 1, 2, 3, 4, 5]), (7, [0, 1, 2, 3, 4, 5, 6]), (9, [8]), (10, [8, 9]), (11, [8, 9, 10]), (12, [8, 9, 10, 11]), (13, [8, 9, 10, 11, 12]), (14, [8, 9, 10, 11, 12, 13]), (15, [0, 1, 2, 3, 4, 5, 6, 7, 8, 9, 10, 11, 12, 13, 14]), (16, [0, 1, 2, 3, 4, 5, 6, 7, 8, 9, 10, 11, 12, 13, 14, 15])])]⟩
set_option maxRecDepth 100000 in
theorem F22.ok : compF Try.prog A22 Try.f22 = some F22 := by kernel_rfl
theorem F22.fok : FOk Try.prog 22 F22 := fok_of mixed Try.func22 F22.ok

/-- (*cloakroom/frame.Parts).Copy -/
def F23 : SFn := ⟨.seq (.region [⟨some 2, none, .mov (.c (.pointer none))⟩] [0])
   (.seq (.seq (.region [⟨some 3, none, .mov (.t 0)⟩,
    ⟨some 4, none, .eqk false .ptr (.t 3) (.c (.pointer none))⟩] [0, 4])
   (.cond (.t 4) (.seq (.region [⟨some 2, none, .mov (.c (.pointer none))⟩] [2])
   (.ret)) (.skip)))
   (.seq (.region [⟨some 5, none, .mov (.t 0)⟩,
    ⟨some 6, none, .nilc (.t 5)⟩,
    ⟨some 7, none, .fa 0 (.t 6)⟩,
    ⟨some 8, none, .fa 0 (.t 7)⟩,
    ⟨some 9, none, .ld 1 false (.t 8)⟩,
    ⟨some 12, none, .mov (.t 0)⟩,
    ⟨some 13, none, .nilc (.t 12)⟩,
    ⟨some 14, none, .fa 1 (.t 13)⟩,
    ⟨some 15, none, .ld 1 false (.t 14)⟩,
    ⟨some 10, none, .call 52 [.t 9]⟩,
    ⟨none, none, .chk 1 false (.t 14) 15⟩,
    ⟨some 11, none, .build [.slice none 0 0] [(0, 1, .t 10)]⟩,
    ⟨some 16, none, .build [.slice none 0 0, .bool false] [(0, 1, .t 11), (1, 1, .t 15)]⟩,
    ⟨some 17, none, .box (.t 16)⟩,
    ⟨some 2, none, .mov (.t 17)⟩] [2])
   (.ret))),
  [.t 2], 18, 1⟩
def A23 : Ann := ⟨[(0, [0]), (1, [0, 4]), (2, [2]), (3, [2])], [(3, [(0, []), (1, []), (2, []), (3, []), (4, []), (7, []), (8, []), (9, []), (10, []), (5, [10]), (6, []), (11, []), (12, []), (13, [])], [(1, [0]), (2, [0, 1]), (3, [0, 1, 2]), (4, [0, 1, 2, 3]), (5, [0, 1, 2, 3, 4]), (6, [0, 1, 2, 3, 4, 5]), (8, [7]), (9, [7, 8]), (10, [7, 8, 9]), (11, [0, 1, 2, 3, 4, 5, 6, 7, 8, 9, 10]), (12, [0, 1, 2, 3, 4, 5, 6, 7, 8, 9, 10, 11]), (13, [0, 1, 2, 3, 4, 5, 6, 7, 8, 9, 10, 11, 12])])]⟩
set_option maxRecDepth 100000 in
theorem F23.ok : compF Try.prog A23 Try.f23 = some F23 := by kernel_rfl
theorem F23.fok : FOk Try.prog 23 F23 := fok_of mixed Try.func23 F23.ok

/-- cloakroom/cloakroomlaw22.begun -/
def F24 : SFn := ⟨.seq (.region [⟨some 0, none, .mov (.c (.bool false))⟩] [])
   (.seq (.region [⟨some 10, none, .call 25 []⟩,
    ⟨some 1, none, .mov (.t 10)⟩] [1])
   (.seq (.seq (.region [⟨some 11, none, .mov (.t 1)⟩,
    ⟨some 12, none, .eqk false .ptr (.t 11) (.c (.pointer none))⟩] [1, 12])
   (.cond (.t 12) (.seq (.region [⟨some 0, none, .mov (.c (.bool false))⟩] [0])
   (.ret)) (.skip)))
   (.seq (.region [⟨some 14, none, .mov (.t 1)⟩,
    ⟨some 15, none, .call 26 [.t 14, .c (.int .u64 1)]⟩,
    ⟨some 13, none, .mov (.t 15)⟩,
    ⟨some 16, none, .ext (.t 13) 0⟩,
    ⟨some 17, none, .ext (.t 13) 1⟩,
    ⟨some 2, none, .mov (.t 16)⟩,
    ⟨some 3, none, .mov (.t 17)⟩] [1, 2, 3])
   (.seq (.region [⟨some 19, none, .mov (.t 1)⟩,
    ⟨some 20, none, .call 26 [.t 19, .c (.int .u64 2)]⟩,
    ⟨some 18, none, .mov (.t 20)⟩,
    ⟨some 21, none, .ext (.t 18) 0⟩,
    ⟨some 22, none, .ext (.t 18) 1⟩,
    ⟨some 4, none, .mov (.t 21)⟩,
    ⟨some 5, none, .mov (.t 22)⟩] [1, 2, 3, 4, 5])
   (.seq (.region [⟨some 24, none, .mov (.t 1)⟩,
    ⟨some 25, none, .bslice 1 1 [.int .u64 0] [(0, 1, .c (.int .u64 1))]⟩,
    ⟨some 26, none, .call 27 [.t 24, .t 25]⟩,
    ⟨some 23, none, .mov (.t 26)⟩,
    ⟨some 27, none, .ext (.t 23) 0⟩,
    ⟨some 28, none, .ext (.t 23) 1⟩,
    ⟨some 6, none, .mov (.t 27)⟩,
    ⟨some 7, none, .mov (.t 28)⟩] [1, 2, 3, 4, 5, 6, 7])
   (.seq (.region [⟨some 30, none, .mov (.t 1)⟩,
    ⟨some 31, none, .call 28 [.t 30]⟩,
    ⟨some 29, none, .mov (.t 31)⟩,
    ⟨some 32, none, .ext (.t 29) 0⟩,
    ⟨some 33, none, .ext (.t 29) 1⟩,
    ⟨some 8, none, .mov (.t 32)⟩,
    ⟨some 9, none, .mov (.t 33)⟩] [1, 2, 3, 4, 5, 6, 7, 8, 9])
   (.seq (.region [⟨some 34, none, .mov (.t 2)⟩,
    ⟨some 35, none, .mov (.t 34)⟩,
    ⟨some 36, some (35, true), .mov (.t 3)⟩,
    ⟨some 37, some (35, true), .bin .eql (.t 36) (.c (.int .i64 0))⟩,
    ⟨some 38, none, .pick (.t 35) (.t 37) (.c (.bool false))⟩,
    ⟨some 39, none, .mov (.t 38)⟩,
    ⟨some 40, some (39, true), .mov (.t 4)⟩,
    ⟨some 41, some (39, true), .un .not (.t 40)⟩,
    ⟨some 42, none, .pick (.t 39) (.t 41) (.c (.bool false))⟩,
    ⟨some 43, none, .mov (.t 42)⟩,
    ⟨some 44, some (43, true), .mov (.t 5)⟩,
    ⟨some 45, some (43, true), .bin .eql (.t 44) (.c (.int .i64 0))⟩,
    ⟨some 46, none, .pick (.t 43) (.t 45) (.c (.bool false))⟩,
    ⟨some 47, none, .mov (.t 46)⟩,
    ⟨some 48, some (47, true), .mov (.t 7)⟩,
    ⟨some 49, none, .pick (.t 47) (.t 48) (.c (.bool false))⟩,
    ⟨some 50, none, .mov (.t 49)⟩,
    ⟨some 51, some (50, true), .mov (.t 6)⟩,
    ⟨some 52, some (50, true), .bin .eql (.t 51) (.c (.int .u64 2))⟩,
    ⟨some 53, none, .pick (.t 50) (.t 52) (.c (.bool false))⟩,
    ⟨some 54, none, .mov (.t 53)⟩,
    ⟨some 55, some (54, true), .mov (.t 9)⟩,
    ⟨some 56, none, .pick (.t 54) (.t 55) (.c (.bool false))⟩,
    ⟨some 57, none, .mov (.t 56)⟩,
    ⟨some 58, some (57, true), .mov (.t 8)⟩,
    ⟨some 59, some (57, true), .bin .eql (.t 58) (.c (.int .u64 2))⟩,
    ⟨some 60, none, .pick (.t 57) (.t 59) (.c (.bool false))⟩,
    ⟨some 61, none, .mov (.t 60)⟩,
    ⟨some 62, some (61, true), .mov (.t 1)⟩,
    ⟨some 63, some (61, true), .call 29 [.t 62]⟩,
    ⟨some 64, some (61, true), .lenV (.t 63)⟩,
    ⟨some 65, some (61, true), .bin .eql (.t 64) (.c (.int .i64 0))⟩,
    ⟨some 66, none, .pick (.t 61) (.t 65) (.c (.bool false))⟩,
    ⟨some 0, none, .mov (.t 66)⟩] [0])
   (.ret)))))))),
  [.t 0], 67, 0⟩
def A24 : Ann := ⟨[(0, []), (1, [1]), (2, [1, 12]), (3, [0]), (4, [1, 2, 3]), (5, [1, 2, 3, 4, 5]), (6, [1, 2, 3, 4, 5, 6, 7]), (7, [1, 2, 3, 4, 5, 6, 7, 8, 9]), (8, [0])], []⟩
set_option maxRecDepth 100000 in
theorem F24.ok : compF Try.prog A24 Try.f24 = some F24 := by kernel_rfl
theorem F24.fok : FOk Try.prog 24 F24 := fok_of mixed Try.func24 F24.ok

/-- cloakroom/lock.New -/
def F25 : SFn := ⟨.seq (.region [⟨some 0, none, .mov (.c (.pointer none))⟩] [])
   (.seq (.region [⟨some 1, none, .build [.slice none 0 0] []⟩,
    ⟨some 2, none, .box (.t 1)⟩,
    ⟨some 0, none, .mov (.t 2)⟩] [0])
   (.ret)),
  [.t 0], 3, 0⟩
def A25 : Ann := ⟨[(0, []), (1, [0])], []⟩
set_option maxRecDepth 100000 in
theorem F25.ok : compF Try.prog A25 Try.f25 = some F25 := by kernel_rfl
theorem F25.fok : FOk Try.prog 25 F25 := fok_of mixed Try.func25 F25.ok

/-- (*cloakroom/lock.Queue).Ask -/
def F26 : SFn := ⟨.seq (.region [⟨some 4, none, .mov (.c (.bool false))⟩,
    ⟨some 5, none, .mov (.c (.int .i64 0))⟩] [0, 1])
   (.seq (.block 0 (.seq (.region [⟨some 7, none, .mov (.t 0)⟩,
    ⟨some 8, none, .eqk false .ptr (.t 7) (.c (.pointer none))⟩,
    ⟨some 6, none, .mov (.t 8)⟩] [0, 1, 6])
   (.cond (.t 6) (.seq (.region [⟨some 4, none, .mov (.c (.bool false))⟩,
    ⟨some 5, none, .mov (.c (.int .i64 1))⟩] [4, 5])
   (.ret)) (.seq (.region [⟨some 10, none, .mov (.t 0)⟩,
    ⟨some 11, none, .nilc (.t 10)⟩,
    ⟨some 12, none, .fa 0 (.t 11)⟩,
    ⟨some 13, none, .fa 0 (.t 12)⟩,
    ⟨some 14, none, .ld 1 false (.t 13)⟩,
    ⟨some 15, none, .mov (.t 1)⟩,
    ⟨some 16, none, .call 53 [.t 14, .t 15]⟩,
    ⟨some 9, none, .mov (.t 16)⟩] [0, 1, 9])
   (.cond (.t 9) (.seq (.region [⟨some 4, none, .mov (.c (.bool false))⟩,
    ⟨some 5, none, .mov (.c (.int .i64 11))⟩] [4, 5])
   (.ret)) (.seq (.region [⟨some 18, none, .mov (.t 0)⟩,
    ⟨some 19, none, .nilc (.t 18)⟩,
    ⟨some 20, none, .fa 0 (.t 19)⟩,
    ⟨some 21, none, .fa 0 (.t 20)⟩,
    ⟨some 22, none, .ld 1 false (.t 21)⟩,
    ⟨some 23, none, .lenV (.t 22)⟩,
    ⟨some 24, none, .bin .gtr (.t 23) (.c (.int .i64 3))⟩,
    ⟨some 17, none, .mov (.t 24)⟩] [0, 1, 17])
   (.cond (.t 17) (.seq (.region [⟨some 4, none, .mov (.c (.bool false))⟩,
    ⟨some 5, none, .mov (.c (.int .i64 13))⟩] [4, 5])
   (.ret)) (.skip))))))))
   (.seq (.region [⟨some 25, none, .mov (.t 0)⟩,
    ⟨some 26, none, .mov (.t 0)⟩,
    ⟨some 27, none, .nilc (.t 26)⟩,
    ⟨some 28, none, .fa 0 (.t 27)⟩,
    ⟨some 29, none, .fa 0 (.t 28)⟩,
    ⟨some 30, none, .ld 1 false (.t 29)⟩,
    ⟨some 31, none, .mov (.t 1)⟩,
    ⟨some 32, none, .bslice 1 1 [.int .u64 0] [(0, 1, .t 31)]⟩,
    ⟨some 33, none, .app 1 8 (.t 30) (.t 32)⟩,
    ⟨some 34, none, .nilc (.t 25)⟩,
    ⟨some 35, none, .fa 0 (.t 34)⟩,
    ⟨some 36, none, .fa 0 (.t 35)⟩,
    ⟨none, none, .st 1 (.t 36) (.t 33)⟩] [0])
   (.seq (.region [⟨some 37, none, .mov (.t 0)⟩,
    ⟨some 38, none, .nilc (.t 37)⟩,
    ⟨some 39, none, .fa 0 (.t 38)⟩,
    ⟨some 40, none, .fa 0 (.t 39)⟩,
    ⟨some 41, none, .ld 1 false (.t 40)⟩,
    ⟨some 42, none, .lenV (.t 41)⟩,
    ⟨some 43, none, .bin .eql (.t 42) (.c (.int .i64 1))⟩,
    ⟨some 4, none, .mov (.t 43)⟩,
    ⟨some 5, none, .mov (.c (.int .i64 0))⟩] [4, 5])
   (.ret)))),
  [.t 4, .t 5], 44, 2⟩
def A26 : Ann := ⟨[(0, [0, 1]), (1, [0, 1, 6]), (2, [4, 5]), (3, [0, 1, 9]), (4, [4, 5]), (5, [0, 1, 17]), (6, [4, 5]), (7, [0]), (8, [4, 5])], []⟩
set_option maxRecDepth 100000 in
theorem F26.ok : compF Try.prog A26 Try.f26 = some F26 := by kernel_rfl
theorem F26.fok : FOk Try.prog 26 F26 := fok_of mixed Try.func26 F26.ok

/-- (*cloakroom/lock.Queue).Leave -/
def F27 : SFn := ⟨.seq (.region [⟨some 4, none, .mov (.c (.int .u64 0))⟩,
    ⟨some 5, none, .mov (.c (.bool false))⟩] [0, 1])
   (.seq (.seq (.region [⟨some 12, none, .mov (.t 0)⟩,
    ⟨some 13, none, .eqk false .ptr (.t 12) (.c (.pointer none))⟩] [0, 1, 13])
   (.cond (.t 13) (.seq (.region [⟨some 4, none, .mov (.c (.int .u64 0))⟩,
    ⟨some 5, none, .mov (.c (.bool false))⟩] [4, 5])
   (.ret)) (.skip)))
   (.seq (.region [⟨some 15, none, .mov (.t 0)⟩,
    ⟨some 16, none, .nilc (.t 15)⟩,
    ⟨some 17, none, .fa 0 (.t 16)⟩,
    ⟨some 18, none, .call 54 [.t 17]⟩,
    ⟨some 14, none, .mov (.t 18)⟩,
    ⟨some 19, none, .ext (.t 14) 0⟩,
    ⟨some 20, none, .ext (.t 14) 1⟩,
    ⟨some 6, none, .mov (.t 19)⟩,
    ⟨some 7, none, .mov (.t 20)⟩] [0, 1, 6, 7])
   (.seq (.seq (.region [⟨some 21, none, .mov (.t 1)⟩,
    ⟨some 22, none, .lenV (.t 21)⟩,
    ⟨some 23, none, .mov (.c (.int .i64 0))⟩] [0, 6, 7, 21, 22, 23])
   (.block 0 (.loop (.seq (.region [⟨some 24, none, .bin .lss (.t 23) (.t 22)⟩] [0, 6, 7, 21, 22, 23, 24])
   (.seq (.cond (.t 24) (.skip) (.exit 0))
   (.seq (.block 1 (.seq (.region [⟨some 25, none, .iaV 1 (.t 21) (.t 23)⟩,
    ⟨some 26, none, .ld 1 false (.t 25)⟩,
    ⟨some 9, none, .new [.int .u64 0]⟩,
    ⟨none, none, .st 1 (.t 9) (.t 26)⟩] [0, 6, 7, 9, 21, 22, 23])
   (.region [⟨some 27, none, .mov (.t 0)⟩,
    ⟨some 28, none, .mov (.t 0)⟩,
    ⟨some 29, none, .nilc (.t 28)⟩,
    ⟨some 30, none, .fa 0 (.t 29)⟩,
    ⟨some 31, none, .fa 0 (.t 30)⟩,
    ⟨some 32, none, .ld 1 false (.t 31)⟩,
    ⟨some 33, none, .mkF (.func 56) [] [.t 9]⟩,
    ⟨some 34, none, .call 55 [.t 32, .t 33]⟩,
    ⟨some 35, none, .nilc (.t 27)⟩,
    ⟨some 36, none, .fa 0 (.t 35)⟩,
    ⟨some 37, none, .fa 0 (.t 36)⟩,
    ⟨none, none, .st 1 (.t 37) (.t 34)⟩] [0, 6, 7, 21, 22, 23])))
   (.region [⟨some 38, none, .bin .add (.t 23) (.c (.int .i64 1))⟩,
    ⟨some 23, none, .mov (.t 38)⟩] [0, 6, 7, 21, 22, 23])))))))
   (.seq (.region [⟨some 40, none, .mov (.t 0)⟩,
    ⟨some 41, none, .nilc (.t 40)⟩,
    ⟨some 42, none, .fa 0 (.t 41)⟩,
    ⟨some 43, none, .call 54 [.t 42]⟩,
    ⟨some 39, none, .mov (.t 43)⟩,
    ⟨some 44, none, .ext (.t 39) 0⟩,
    ⟨some 45, none, .ext (.t 39) 1⟩,
    ⟨some 10, none, .mov (.t 44)⟩,
    ⟨some 11, none, .mov (.t 45)⟩] [6, 7, 10, 11])
   (.seq (.seq (.region [⟨some 46, none, .mov (.t 11)⟩,
    ⟨some 47, none, .un .not (.t 46)⟩,
    ⟨some 48, none, .mov (.t 47)⟩,
    ⟨some 49, some (48, false), .mov (.t 7)⟩,
    ⟨some 50, some (48, false), .mov (.t 49)⟩,
    ⟨some 51, some (50, true), .mov (.t 6)⟩,
    ⟨some 52, some (50, true), .mov (.t 10)⟩,
    ⟨some 53, some (50, true), .bin .eql (.t 51) (.t 52)⟩,
    ⟨some 54, some (48, false), .pick (.t 50) (.t 53) (.c (.bool false))⟩,
    ⟨some 55, none, .pick (.t 48) (.c (.bool true)) (.t 54)⟩] [10, 55])
   (.cond (.t 55) (.seq (.region [⟨some 4, none, .mov (.c (.int .u64 0))⟩,
    ⟨some 5, none, .mov (.c (.bool false))⟩] [4, 5])
   (.ret)) (.skip)))
   (.seq (.region [⟨some 56, none, .mov (.t 10)⟩,
    ⟨some 4, none, .mov (.t 56)⟩,
    ⟨some 5, none, .mov (.c (.bool true))⟩] [4, 5])
   (.ret))))))),
  [.t 4, .t 5], 57, 2⟩
def A27 : Ann := ⟨[(0, [0, 1]), (1, [0, 1, 13]), (2, [4, 5]), (3, [0, 1, 6, 7]), (4, [0, 6, 7, 21, 22, 23]), (5, [0, 6, 7, 21, 22, 23, 24]), (6, [0, 6, 7, 9, 21, 22, 23]), (7, [0, 6, 7, 21, 22, 23]), (8, [0, 6, 7, 21, 22, 23]), (9, [6, 7, 10, 11]), (10, [10, 55]), (11, [4, 5]), (12, [4, 5])], []⟩
set_option maxRecDepth 100000 in
theorem F27.ok : compF Try.prog A27 Try.f27 = some F27 := by kernel_rfl
theorem F27.fok : FOk Try.prog 27 F27 := fok_of mixed Try.func27 F27.ok

/-- (*cloakroom/lock.Queue).Owner -/
def F28 : SFn := ⟨.seq (.region [⟨some 2, none, .mov (.c (.int .u64 0))⟩,
    ⟨some 3, none, .mov (.c (.bool false))⟩] [0])
   (.seq (.seq (.region [⟨some 4, none, .mov (.t 0)⟩,
    ⟨some 5, none, .eqk false .ptr (.t 4) (.c (.pointer none))⟩] [0, 5])
   (.cond (.t 5) (.seq (.region [⟨some 2, none, .mov (.c (.int .u64 0))⟩,
    ⟨some 3, none, .mov (.c (.bool false))⟩] [2, 3])
   (.ret)) (.skip)))
   (.seq (.region [⟨some 6, none, .mov (.t 0)⟩,
    ⟨some 7, none, .nilc (.t 6)⟩,
    ⟨some 8, none, .fa 0 (.t 7)⟩,
    ⟨some 9, none, .call 54 [.t 8]⟩,
    ⟨some 10, none, .ext (.t 9) 0⟩,
    ⟨some 11, none, .ext (.t 9) 1⟩,
    ⟨some 2, none, .mov (.t 10)⟩,
    ⟨some 3, none, .mov (.t 11)⟩] [2, 3])
   (.ret))),
  [.t 2, .t 3], 12, 1⟩
def A28 : Ann := ⟨[(0, [0]), (1, [0, 5]), (2, [2, 3]), (3, [2, 3])], []⟩
set_option maxRecDepth 100000 in
theorem F28.ok : compF Try.prog A28 Try.f28 = some F28 := by kernel_rfl
theorem F28.fok : FOk Try.prog 28 F28 := fok_of mixed Try.func28 F28.ok

/-- (*cloakroom/lock.Queue).Waits -/
def F29 : SFn := ⟨.seq (.region [⟨some 2, none, .mov (.c (.slice none 0 0))⟩] [0])
   (.seq (.seq (.region [⟨some 3, none, .mov (.t 0)⟩,
    ⟨some 4, none, .eqk false .ptr (.t 3) (.c (.pointer none))⟩,
    ⟨some 5, none, .mov (.t 4)⟩,
    ⟨some 6, some (5, false), .mov (.t 0)⟩,
    ⟨some 7, some (5, false), .nilc (.t 6)⟩,
    ⟨some 8, some (5, false), .fa 0 (.t 7)⟩,
    ⟨some 9, some (5, false), .fa 0 (.t 8)⟩,
    ⟨some 10, some (5, false), .ld 1 false (.t 9)⟩,
    ⟨some 11, some (5, false), .lenV (.t 10)⟩,
    ⟨some 12, some (5, false), .bin .eql (.t 11) (.c (.int .i64 0))⟩,
    ⟨some 13, none, .pick (.t 5) (.c (.bool true)) (.t 12)⟩] [0, 13])
   (.cond (.t 13) (.seq (.region [⟨some 2, none, .mov (.c (.slice none 0 0))⟩] [2])
   (.ret)) (.skip)))
   (.seq (.region [⟨some 14, none, .mov (.t 0)⟩,
    ⟨some 15, none, .nilc (.t 14)⟩,
    ⟨some 16, none, .fa 0 (.t 15)⟩,
    ⟨some 17, none, .fa 0 (.t 16)⟩,
    ⟨some 18, none, .ld 1 false (.t 17)⟩,
    ⟨some 19, none, .slV 1 (.t 18) (some (.c (.int .i64 1))) none none⟩,
    ⟨some 20, none, .call 57 [.t 19]⟩,
    ⟨some 2, none, .mov (.t 20)⟩] [2])
   (.ret))),
  [.t 2], 21, 1⟩
def A29 : Ann := ⟨[(0, [0]), (1, [0, 13]), (2, [2]), (3, [2])], []⟩
set_option maxRecDepth 100000 in
theorem F29.ok : compF Try.prog A29 Try.f29 = some F29 := by kernel_rfl
theorem F29.fok : FOk Try.prog 29 F29 := fok_of mixed Try.func29 F29.ok

/-- (*cloakroom/cloakroomref22.Queue).Ask -/
def F30 : SFn := ⟨.seq (.region [⟨some 4, none, .mov (.c (.bool false))⟩,
    ⟨some 5, none, .mov (.c (.int .i64 0))⟩] [0, 1])
   (.seq (.seq (.region [⟨some 6, none, .mov (.t 0)⟩,
    ⟨some 7, none, .mov (.t 1)⟩,
    ⟨some 8, none, .call 58 [.t 6, .t 7]⟩,
    ⟨some 9, none, .bin .geq (.t 8) (.c (.int .i64 0))⟩] [0, 1, 9])
   (.cond (.t 9) (.seq (.region [⟨some 4, none, .mov (.c (.bool false))⟩,
    ⟨some 5, none, .mov (.c (.int .i64 11))⟩] [4, 5])
   (.ret)) (.skip)))
   (.seq (.seq (.region [⟨some 10, none, .mov (.t 0)⟩,
    ⟨some 11, none, .nilc (.t 10)⟩,
    ⟨some 12, none, .fa 0 (.t 11)⟩,
    ⟨some 13, none, .ld 1 false (.t 12)⟩,
    ⟨some 14, none, .lenV (.t 13)⟩,
    ⟨some 15, none, .bin .gtr (.t 14) (.c (.int .i64 3))⟩] [0, 1, 15])
   (.cond (.t 15) (.seq (.region [⟨some 4, none, .mov (.c (.bool false))⟩,
    ⟨some 5, none, .mov (.c (.int .i64 13))⟩] [4, 5])
   (.ret)) (.skip)))
   (.seq (.region [⟨some 16, none, .mov (.t 0)⟩,
    ⟨some 17, none, .bslice 0 1 [.int .u64 0] []⟩,
    ⟨some 18, none, .mov (.t 0)⟩,
    ⟨some 19, none, .nilc (.t 18)⟩,
    ⟨some 20, none, .fa 0 (.t 19)⟩,
    ⟨some 21, none, .ld 1 false (.t 20)⟩,
    ⟨some 22, none, .app 1 8 (.t 17) (.t 21)⟩,
    ⟨some 23, none, .mov (.t 1)⟩,
    ⟨some 24, none, .bslice 1 1 [.int .u64 0] [(0, 1, .t 23)]⟩,
    ⟨some 25, none, .app 1 8 (.t 22) (.t 24)⟩,
    ⟨some 26, none, .nilc (.t 16)⟩,
    ⟨some 27, none, .fa 0 (.t 26)⟩,
    ⟨none, none, .st 1 (.t 27) (.t 25)⟩] [0])
   (.seq (.region [⟨some 28, none, .mov (.t 0)⟩,
    ⟨some 29, none, .nilc (.t 28)⟩,
    ⟨some 30, none, .fa 0 (.t 29)⟩,
    ⟨some 31, none, .ld 1 false (.t 30)⟩,
    ⟨some 32, none, .lenV (.t 31)⟩,
    ⟨some 33, none, .bin .eql (.t 32) (.c (.int .i64 1))⟩,
    ⟨some 4, none, .mov (.t 33)⟩,
    ⟨some 5, none, .mov (.c (.int .i64 0))⟩] [4, 5])
   (.ret))))),
  [.t 4, .t 5], 34, 2⟩
def A30 : Ann := ⟨[(0, [0, 1]), (1, [0, 1, 9]), (2, [4, 5]), (3, [0, 1, 15]), (4, [4, 5]), (5, [0]), (6, [4, 5])], []⟩
set_option maxRecDepth 100000 in
theorem F30.ok : compF Try.prog A30 Try.f30 = some F30 := by kernel_rfl
theorem F30.fok : FOk Try.prog 30 F30 := fok_of mixed Try.func30 F30.ok

/-- (*cloakroom/cloakroomref22.Queue).Leave -/
def F31 : SFn := ⟨.seq (.region [⟨some 4, none, .mov (.c (.int .u64 0))⟩,
    ⟨some 5, none, .mov (.c (.bool false))⟩] [0, 1])
   (.seq (.region [⟨some 13, none, .mov (.t 0)⟩,
    ⟨some 14, none, .call 33 [.t 13]⟩,
    ⟨some 12, none, .mov (.t 14)⟩,
    ⟨some 15, none, .ext (.t 12) 0⟩,
    ⟨some 16, none, .ext (.t 12) 1⟩,
    ⟨some 6, none, .mov (.t 15)⟩,
    ⟨some 7, none, .mov (.t 16)⟩] [0, 1, 6, 7])
   (.seq (.seq (.region [⟨some 8, none, .mov (.c (.int .i64 0))⟩] [0, 1, 6, 7, 8])
   (.block 0 (.loop (.seq (.seq (.region [⟨some 17, none, .mov (.t 8)⟩,
    ⟨some 18, none, .mov (.t 1)⟩,
    ⟨some 19, none, .lenV (.t 18)⟩,
    ⟨some 20, none, .bin .lss (.t 17) (.t 19)⟩] [0, 1, 6, 7, 8, 20])
   (.cond (.t 20) (.skip) (.exit 0)))
   (.seq (.block 1 (.seq (.region [⟨some 23, none, .mov (.t 0)⟩,
    ⟨some 24, none, .mov (.t 1)⟩,
    ⟨some 25, none, .mov (.t 8)⟩,
    ⟨some 26, none, .iaV 1 (.t 24) (.t 25)⟩,
    ⟨some 27, none, .ld 1 false (.t 26)⟩,
    ⟨some 28, none, .call 58 [.t 23, .t 27]⟩,
    ⟨some 9, none, .mov (.t 28)⟩] [0, 1, 6, 7, 8, 9])
   (.seq (.region [⟨some 29, none, .mov (.t 9)⟩,
    ⟨some 30, none, .bin .geq (.t 29) (.c (.int .i64 0))⟩] [0, 1, 6, 7, 8, 9, 30])
   (.cond (.t 30) (.region [⟨some 31, none, .mov (.t 0)⟩,
    ⟨some 32, none, .bslice 0 1 [.int .u64 0] []⟩,
    ⟨some 33, none, .mov (.t 0)⟩,
    ⟨some 34, none, .nilc (.t 33)⟩,
    ⟨some 35, none, .fa 0 (.t 34)⟩,
    ⟨some 36, none, .ld 1 false (.t 35)⟩,
    ⟨some 37, none, .mov (.t 9)⟩,
    ⟨some 38, none, .slV 1 (.t 36) none (some (.t 37)) none⟩,
    ⟨some 40, none, .mov (.t 0)⟩,
    ⟨some 41, none, .nilc (.t 40)⟩,
    ⟨some 42, none, .fa 0 (.t 41)⟩,
    ⟨some 43, none, .ld 1 false (.t 42)⟩,
    ⟨some 44, none, .mov (.t 9)⟩,
    ⟨some 45, none, .bin .add (.t 44) (.c (.int .i64 1))⟩,
    ⟨some 46, none, .slV 1 (.t 43) (some (.t 45)) none none⟩,
    ⟨some 39, none, .app 1 8 (.t 32) (.t 38)⟩,
    ⟨none, none, .chk 1 false (.t 42) 43⟩,
    ⟨none, none, .chkV 1 (.t 43) (some (.t 45)) none none 46⟩,
    ⟨some 47, none, .app 1 8 (.t 39) (.t 46)⟩,
    ⟨some 48, none, .nilc (.t 31)⟩,
    ⟨some 49, none, .fa 0 (.t 48)⟩,
    ⟨none, none, .st 1 (.t 49) (.t 47)⟩] [0, 1, 6, 7, 8]) (.skip)))))
   (.region [⟨some 21, none, .mov (.t 8)⟩,
    ⟨some 22, none, .bin .add (.t 21) (.c (.int .i64 1))⟩,
    ⟨some 8, none, .mov (.t 22)⟩] [0, 1, 6, 7, 8]))))))
   (.seq (.region [⟨some 51, none, .mov (.t 0)⟩,
    ⟨some 52, none, .call 33 [.t 51]⟩,
    ⟨some 50, none, .mov (.t 52)⟩,
    ⟨some 53, none, .ext (.t 50) 0⟩,
    ⟨some 54, none, .ext (.t 50) 1⟩,
    ⟨some 10, none, .mov (.t 53)⟩,
    ⟨some 11, none, .mov (.t 54)⟩] [6, 7, 10, 11])
   (.seq (.seq (.region [⟨some 55, none, .mov (.t 11)⟩,
    ⟨some 56, none, .un .not (.t 55)⟩,
    ⟨some 57, none, .mov (.t 56)⟩,
    ⟨some 58, some (57, false), .mov (.t 7)⟩,
    ⟨some 59, some (57, false), .mov (.t 58)⟩,
    ⟨some 60, some (59, true), .mov (.t 6)⟩,
    ⟨some 61, some (59, true), .mov (.t 10)⟩,
    ⟨some 62, some (59, true), .bin .eql (.t 60) (.t 61)⟩,
    ⟨some 63, some (57, false), .pick (.t 59) (.t 62) (.c (.bool false))⟩,
    ⟨some 64, none, .pick (.t 57) (.c (.bool true)) (.t 63)⟩] [10, 64])
   (.cond (.t 64) (.seq (.region [⟨some 4, none, .mov (.c (.int .u64 0))⟩,
    ⟨some 5, none, .mov (.c (.bool false))⟩] [4, 5])
   (.ret)) (.skip)))
   (.seq (.region [⟨some 65, none, .mov (.t 10)⟩,
    ⟨some 4, none, .mov (.t 65)⟩,
    ⟨some 5, none, .mov (.c (.bool true))⟩] [4, 5])
   (.ret)))))),
  [.t 4, .t 5], 66, 2⟩
def A31 : Ann := ⟨[(0, [0, 1]), (1, [0, 1, 6, 7]), (2, [0, 1, 6, 7, 8]), (3, [0, 1, 6, 7, 8, 20]), (4, [0, 1, 6, 7, 8]), (5, [0, 1, 6, 7, 8, 9]), (6, [0, 1, 6, 7, 8, 9, 30]), (7, [0, 1, 6, 7, 8]), (8, [6, 7, 10, 11]), (9, [10, 64]), (10, [4, 5]), (11, [4, 5])], [(7, [(0, []), (1, []), (2, []), (3, []), (4, []), (5, []), (6, []), (7, []), (9, []), (10, []), (11, []), (12, []), (13, []), (14, []), (15, []), (8, [12, 15]), (16, []), (17, []), (18, []), (19, [])], [(3, [2]), (4, [2, 3]), (5, [2, 3, 4]), (7, [2, 3, 4, 5, 6]), (8, [1, 2, 3, 4, 5, 6, 7]), (10, [9]), (11, [9, 10]), (12, [9, 10, 11]), (14, [13]), (15, [9, 10, 11, 12, 13, 14]), (16, [1, 2, 3, 4, 5, 6, 7, 8, 9, 10, 11, 12, 13, 14, 15]), (17, [0, 1, 2, 3, 4, 5, 6, 7, 8, 9, 10, 11, 12, 13, 14, 15, 16]), (18, [0, 1, 2, 3, 4, 5, 6, 7, 8, 9, 10, 11, 12, 13, 14, 15, 16, 17]), (19, [0, 1, 2, 3, 4, 5, 6, 7, 8, 9, 10, 11, 12, 13, 14, 15, 16, 17, 18])])]⟩
set_option maxRecDepth 100000 in
theorem F31.ok : compF Try.prog A31 Try.f31 = some F31 := by kernel_rfl
theorem F31.fok : FOk Try.prog 31 F31 := fok_of mixed Try.func31 F31.ok

/-- (*cloakroom/lock.Queue).Copy -/
def F32 : SFn := ⟨.seq (.region [⟨some 2, none, .mov (.c (.pointer none))⟩] [0])
   (.seq (.seq (.region [⟨some 3, none, .mov (.t 0)⟩,
    ⟨some 4, none, .eqk false .ptr (.t 3) (.c (.pointer none))⟩] [0, 4])
   (.cond (.t 4) (.seq (.region [⟨some 2, none, .mov (.c (.pointer none))⟩] [2])
   (.ret)) (.skip)))
   (.seq (.region [⟨some 5, none, .mov (.t 0)⟩,
    ⟨some 6, none, .nilc (.t 5)⟩,
    ⟨some 7, none, .fa 0 (.t 6)⟩,
    ⟨some 8, none, .fa 0 (.t 7)⟩,
    ⟨some 9, none, .ld 1 false (.t 8)⟩,
    ⟨some 10, none, .call 57 [.t 9]⟩,
    ⟨some 11, none, .build [.slice none 0 0] [(0, 1, .t 10)]⟩,
    ⟨some 12, none, .build [.slice none 0 0] [(0, 1, .t 11)]⟩,
    ⟨some 13, none, .box (.t 12)⟩,
    ⟨some 2, none, .mov (.t 13)⟩] [2])
   (.ret))),
  [.t 2], 14, 1⟩
def A32 : Ann := ⟨[(0, [0]), (1, [0, 4]), (2, [2]), (3, [2])], []⟩
set_option maxRecDepth 100000 in
theorem F32.ok : compF Try.prog A32 Try.f32 = some F32 := by kernel_rfl
theorem F32.fok : FOk Try.prog 32 F32 := fok_of mixed Try.func32 F32.ok

/-- (*cloakroom/cloakroomref22.Queue).Owner -/
def F33 : SFn := ⟨.seq (.region [⟨some 2, none, .mov (.c (.int .u64 0))⟩,
    ⟨some 3, none, .mov (.c (.bool false))⟩] [0])
   (.seq (.seq (.region [⟨some 4, none, .mov (.t 0)⟩,
    ⟨some 5, none, .nilc (.t 4)⟩,
    ⟨some 6, none, .fa 0 (.t 5)⟩,
    ⟨some 7, none, .ld 1 false (.t 6)⟩,
    ⟨some 8, none, .lenV (.t 7)⟩,
    ⟨some 9, none, .bin .eql (.t 8) (.c (.int .i64 0))⟩] [0, 9])
   (.cond (.t 9) (.seq (.region [⟨some 2, none, .mov (.c (.int .u64 0))⟩,
    ⟨some 3, none, .mov (.c (.bool false))⟩] [2, 3])
   (.ret)) (.skip)))
   (.seq (.region [⟨some 10, none, .mov (.t 0)⟩,
    ⟨some 11, none, .nilc (.t 10)⟩,
    ⟨some 12, none, .fa 0 (.t 11)⟩,
    ⟨some 13, none, .ld 1 false (.t 12)⟩,
    ⟨some 14, none, .iaV 1 (.t 13) (.c (.int .i64 0))⟩,
    ⟨some 15, none, .ld 1 false (.t 14)⟩,
    ⟨some 2, none, .mov (.t 15)⟩,
    ⟨some 3, none, .mov (.c (.bool true))⟩] [2, 3])
   (.ret))),
  [.t 2, .t 3], 16, 1⟩
def A33 : Ann := ⟨[(0, [0]), (1, [0, 9]), (2, [2, 3]), (3, [2, 3])], []⟩
set_option maxRecDepth 100000 in
theorem F33.ok : compF Try.prog A33 Try.f33 = some F33 := by kernel_rfl
theorem F33.fok : FOk Try.prog 33 F33 := fok_of mixed Try.func33 F33.ok

/-- cloakroom/cloakroomref1.SameNums -/
def F34 : SFn := ⟨.seq (.region [⟨some 4, none, .mov (.c (.bool false))⟩] [0, 1])
   (.seq (.seq (.region [⟨some 6, none, .mov (.t 0)⟩,
    ⟨some 7, none, .lenV (.t 6)⟩,
    ⟨some 8, none, .mov (.t 1)⟩,
    ⟨some 9, none, .lenV (.t 8)⟩,
    ⟨some 10, none, .bin .neq (.t 7) (.t 9)⟩] [0, 1, 10])
   (.cond (.t 10) (.seq (.region [⟨some 4, none, .mov (.c (.bool false))⟩] [4])
   (.ret)) (.skip)))
   (.seq (.seq (.region [⟨some 5, none, .mov (.c (.int .i64 0))⟩] [0, 1, 5])
   (.block 0 (.loop (.seq (.seq (.region [⟨some 11, none, .mov (.t 5)⟩,
    ⟨some 12, none, .mov (.t 0)⟩,
    ⟨some 13, none, .lenV (.t 12)⟩,
    ⟨some 14, none, .bin .lss (.t 11) (.t 13)⟩] [0, 1, 5, 14])
   (.cond (.t 14) (.skip) (.exit 0)))
   (.seq (.block 1 (.seq (.region [⟨some 17, none, .mov (.t 0)⟩,
    ⟨some 18, none, .mov (.t 5)⟩,
    ⟨some 19, none, .iaV 1 (.t 17) (.t 18)⟩,
    ⟨some 20, none, .ld 1 false (.t 19)⟩,
    ⟨some 21, none, .mov (.t 1)⟩,
    ⟨some 22, none, .mov (.t 5)⟩,
    ⟨some 23, none, .iaV 1 (.t 21) (.t 22)⟩,
    ⟨some 24, none, .ld 1 false (.t 23)⟩,
    ⟨some 25, none, .bin .neq (.t 20) (.t 24)⟩] [0, 1, 5, 25])
   (.cond (.t 25) (.seq (.region [⟨some 4, none, .mov (.c (.bool false))⟩] [4])
   (.ret)) (.skip))))
   (.region [⟨some 15, none, .mov (.t 5)⟩,
    ⟨some 16, none, .bin .add (.t 15) (.c (.int .i64 1))⟩,
    ⟨some 5, none, .mov (.t 16)⟩] [0, 1, 5]))))))
   (.seq (.region [⟨some 4, none, .mov (.c (.bool true))⟩] [4])
   (.ret)))),
  [.t 4], 26, 2⟩
def A34 : Ann := ⟨[(0, [0, 1]), (1, [0, 1, 10]), (2, [4]), (3, [0, 1, 5]), (4, [0, 1, 5, 14]), (5, [0, 1, 5]), (6, [0, 1, 5, 25]), (7, [4]), (8, [4])], [(6, [(0, []), (1, []), (2, []), (3, []), (4, []), (5, []), (6, []), (7, []), (8, [])], [(2, [0, 1]), (3, [0, 1, 2]), (6, [4, 5]), (7, [4, 5, 6]), (8, [0, 1, 2, 3, 4, 5, 6, 7])])]⟩
set_option maxRecDepth 100000 in
theorem F34.ok : compF Try.prog A34 Try.f34 = some F34 := by kernel_rfl
theorem F34.fok : FOk Try.prog 34 F34 := fok_of mixed Try.func34 F34.ok

/-- (*cloakroom/cloakroomref22.Queue).Waits -/
def F35 : SFn := ⟨.seq (.region [⟨some 2, none, .mov (.c (.slice none 0 0))⟩] [0])
   (.seq (.seq (.region [⟨some 3, none, .mov (.t 0)⟩,
    ⟨some 4, none, .nilc (.t 3)⟩,
    ⟨some 5, none, .fa 0 (.t 4)⟩,
    ⟨some 6, none, .ld 1 false (.t 5)⟩,
    ⟨some 7, none, .lenV (.t 6)⟩,
    ⟨some 8, none, .bin .eql (.t 7) (.c (.int .i64 0))⟩] [0, 8])
   (.cond (.t 8) (.seq (.region [⟨some 2, none, .mov (.c (.slice none 0 0))⟩] [2])
   (.ret)) (.skip)))
   (.seq (.region [⟨some 9, none, .bslice 0 1 [.int .u64 0] []⟩,
    ⟨some 10, none, .mov (.t 0)⟩,
    ⟨some 11, none, .nilc (.t 10)⟩,
    ⟨some 12, none, .fa 0 (.t 11)⟩,
    ⟨some 13, none, .ld 1 false (.t 12)⟩,
    ⟨some 14, none, .slV 1 (.t 13) (some (.c (.int .i64 1))) none none⟩,
    ⟨some 15, none, .app 1 8 (.t 9) (.t 14)⟩,
    ⟨some 2, none, .mov (.t 15)⟩] [2])
   (.ret))),
  [.t 2], 16, 1⟩
def A35 : Ann := ⟨[(0, [0]), (1, [0, 8]), (2, [2]), (3, [2])], []⟩
set_option maxRecDepth 100000 in
theorem F35.ok : compF Try.prog A35 Try.f35 = some F35 := by kernel_rfl
theorem F35.fok : FOk Try.prog 35 F35 := fok_of mixed Try.func35 F35.ok

/-- cloakroom/cloakroomlaw24.begun -/
def F36 : SFn := ⟨.seq (.region [⟨some 0, none, .mov (.c (.bool false))⟩] [])
   (.seq (.region [⟨some 13, none, .call 37 []⟩,
    ⟨some 1, none, .mov (.t 13)⟩] [1])
   (.seq (.seq (.region [⟨some 14, none, .mov (.t 1)⟩,
    ⟨some 15, none, .eqk false .ptr (.t 14) (.c (.pointer none))⟩] [1, 15])
   (.cond (.t 15) (.seq (.region [⟨some 0, none, .mov (.c (.bool false))⟩] [0])
   (.ret)) (.skip)))
   (.seq (.region [⟨some 16, none, .build [.int .i64 0, .int .u64 0, .int .u64 0, .string ByteArray.empty, .slice none 0 0, .slice none 0 0, .int .u64 0, .int .u64 0] [(0, 1, .c (.int .i64 5)), (1, 1, .c (.int .u64 3))]⟩,
    ⟨some 2, none, .new [.int .i64 0, .int .u64 0, .int .u64 0, .string ByteArray.empty, .slice none 0 0, .slice none 0 0, .int .u64 0, .int .u64 0]⟩,
    ⟨none, none, .st 8 (.t 2) (.t 16)⟩] [1, 2])
   (.seq (.region [⟨some 17, none, .mov (.t 1)⟩,
    ⟨some 18, none, .ld 8 true (.t 2)⟩,
    ⟨some 19, none, .call 38 [.t 17, .c (.int .u64 3), .t 18]⟩,
    ⟨some 3, none, .mov (.t 19)⟩] [1, 2, 3])
   (.seq (.region [⟨some 21, none, .mov (.t 1)⟩,
    ⟨some 22, none, .ld 8 true (.t 2)⟩,
    ⟨some 23, none, .call 39 [.t 21, .c (.int .u64 3), .t 22]⟩,
    ⟨some 20, none, .mov (.t 23)⟩,
    ⟨some 24, none, .ext (.t 20) 0⟩,
    ⟨some 25, none, .ext (.t 20) 1⟩,
    ⟨some 26, none, .ext (.t 20) 2⟩,
    ⟨some 27, none, .ext (.t 20) 3⟩,
    ⟨some 6, none, .new [.int .u64 0, .int .i64 0, .int .u64 0, .slice none 0 0]⟩,
    ⟨some 4, none, .mov (.t 24)⟩,
    ⟨some 5, none, .mov (.t 25)⟩,
    ⟨none, none, .st 4 (.t 6) (.t 26)⟩,
    ⟨some 7, none, .mov (.t 27)⟩] [1, 2, 3, 4, 5, 7])
   (.seq (.region [⟨some 28, none, .mov (.t 1)⟩,
    ⟨some 29, none, .build [.int .u64 0, .int .i64 0, .int .u64 0, .slice none 0 0] [(2, 1, .c (.int .u64 9))]⟩,
    ⟨some 30, none, .call 40 [.t 28, .c (.int .u64 3), .t 29]⟩,
    ⟨some 8, none, .mov (.t 30)⟩] [1, 2, 3, 4, 5, 7, 8])
   (.seq (.region [⟨some 32, none, .mov (.t 1)⟩,
    ⟨some 33, none, .ld 8 true (.t 2)⟩,
    ⟨some 34, none, .call 39 [.t 32, .c (.int .u64 3), .t 33]⟩,
    ⟨some 31, none, .mov (.t 34)⟩,
    ⟨some 35, none, .ext (.t 31) 0⟩,
    ⟨some 36, none, .ext (.t 31) 1⟩,
    ⟨some 37, none, .ext (.t 31) 2⟩,
    ⟨some 38, none, .ext (.t 31) 3⟩,
    ⟨some 11, none, .new [.int .u64 0, .int .i64 0, .int .u64 0, .slice none 0 0]⟩,
    ⟨some 9, none, .mov (.t 35)⟩,
    ⟨some 10, none, .mov (.t 36)⟩,
    ⟨none, none, .st 4 (.t 11) (.t 37)⟩,
    ⟨some 12, none, .mov (.t 38)⟩] [1, 3, 4, 5, 7, 8, 10, 11])
   (.seq (.region [⟨some 39, none, .mov (.t 3)⟩,
    ⟨some 40, none, .bin .eql (.t 39) (.c (.int .i64 0))⟩,
    ⟨some 41, none, .mov (.t 40)⟩,
    ⟨some 42, some (41, true), .mov (.t 4)⟩,
    ⟨some 43, none, .pick (.t 41) (.t 42) (.c (.bool false))⟩,
    ⟨some 44, none, .mov (.t 43)⟩,
    ⟨some 45, some (44, true), .mov (.t 5)⟩,
    ⟨some 46, some (44, true), .un .not (.t 45)⟩,
    ⟨some 47, none, .pick (.t 44) (.t 46) (.c (.bool false))⟩,
    ⟨some 48, none, .mov (.t 47)⟩,
    ⟨some 49, some (48, true), .mov (.t 7)⟩,
    ⟨some 50, some (48, true), .bin .eql (.t 49) (.c (.int .i64 0))⟩,
    ⟨some 51, none, .pick (.t 48) (.t 50) (.c (.bool false))⟩,
    ⟨some 52, none, .mov (.t 51)⟩,
    ⟨some 53, some (52, true), .mov (.t 8)⟩,
    ⟨some 54, some (52, true), .bin .eql (.t 53) (.c (.int .i64 2))⟩,
    ⟨some 55, none, .pick (.t 52) (.t 54) (.c (.bool false))⟩,
    ⟨some 56, none, .mov (.t 55)⟩,
    ⟨some 57, some (56, true), .mov (.t 10)⟩,
    ⟨some 58, none, .pick (.t 56) (.t 57) (.c (.bool false))⟩,
    ⟨some 59, none, .mov (.t 58)⟩,
    ⟨some 60, some (59, true), .fa 2 (.t 11)⟩,
    ⟨some 61, some (59, true), .ld 1 false (.t 60)⟩,
    ⟨some 62, some (59, true), .bin .eql (.t 61) (.c (.int .u64 9))⟩,
    ⟨some 63, none, .pick (.t 59) (.t 62) (.c (.bool false))⟩,
    ⟨some 64, none, .mov (.t 63)⟩,
    ⟨some 65, some (64, true), .mov (.t 1)⟩,
    ⟨some 66, some (64, true), .call 42 [.t 65]⟩,
    ⟨some 67, some (64, true), .lenV (.t 66)⟩,
    ⟨some 68, some (64, true), .bin .eql (.t 67) (.c (.int .i64 1))⟩,
    ⟨some 69, none, .pick (.t 64) (.t 68) (.c (.bool false))⟩,
    ⟨some 0, none, .mov (.t 69)⟩] [0])
   (.ret))))))))),
  [.t 0], 70, 0⟩
def A36 : Ann := ⟨[(0, []), (1, [1]), (2, [1, 15]), (3, [0]), (4, [1, 2]), (5, [1, 2, 3]), (6, [1, 2, 3, 4, 5, 7]), (7, [1, 2, 3, 4, 5, 7, 8]), (8, [1, 3, 4, 5, 7, 8, 10, 11]), (9, [0])], []⟩
set_option maxRecDepth 100000 in
theorem F36.ok : compF Try.prog A36 Try.f36 = some F36 := by kernel_rfl
theorem F36.fok : FOk Try.prog 36 F36 := fok_of mixed Try.func36 F36.ok

/-- cloakroom/token.New -/
def F37 : SFn := ⟨.seq (.region [⟨some 0, none, .mov (.c (.pointer none))⟩] [])
   (.seq (.region [⟨some 1, none, .build [.slice none 0 0] []⟩,
    ⟨some 2, none, .box (.t 1)⟩,
    ⟨some 0, none, .mov (.t 2)⟩] [0])
   (.ret)),
  [.t 0], 3, 0⟩
def A37 : Ann := ⟨[(0, []), (1, [0])], []⟩
set_option maxRecDepth 100000 in
theorem F37.ok : compF Try.prog A37 Try.f37 = some F37 := by kernel_rfl
theorem F37.fok : FOk Try.prog 37 F37 := fok_of mixed Try.func37 F37.ok

/-- (*cloakroom/token.Cache).Begin -/
def F38 : SFn := ⟨.seq (.region [⟨some 5, none, .box (.t 2)⟩,
    ⟨some 6, none, .mov (.c (.int .i64 0))⟩] [0, 1, 5])
   (.seq (.block 0 (.seq (.region [⟨some 9, none, .mov (.t 0)⟩,
    ⟨some 10, none, .eqk false .ptr (.t 9) (.c (.pointer none))⟩,
    ⟨some 8, none, .mov (.t 10)⟩] [0, 1, 5, 8])
   (.cond (.t 8) (.seq (.region [⟨some 6, none, .mov (.c (.int .i64 1))⟩] [6])
   (.ret)) (.seq (.region [⟨some 12, none, .mov (.t 1)⟩,
    ⟨some 13, none, .bin .eql (.t 12) (.c (.int .u64 0))⟩,
    ⟨some 11, none, .mov (.t 13)⟩] [0, 1, 5, 11])
   (.cond (.t 11) (.seq (.region [⟨some 6, none, .mov (.c (.int .i64 0))⟩] [6])
   (.ret)) (.seq (.region [⟨some 15, none, .mov (.t 0)⟩,
    ⟨some 16, none, .mov (.t 1)⟩,
    ⟨some 17, none, .call 59 [.t 15, .t 16]⟩,
    ⟨some 18, none, .eqk true .ptr (.t 17) (.c (.pointer none))⟩,
    ⟨some 14, none, .mov (.t 18)⟩] [0, 1, 5, 14])
   (.cond (.t 14) (.seq (.region [⟨some 6, none, .mov (.c (.int .i64 11))⟩] [6])
   (.ret)) (.skip))))))))
   (.seq (.seq (.region [⟨some 19, none, .mov (.t 0)⟩,
    ⟨some 20, none, .nilc (.t 19)⟩,
    ⟨some 21, none, .fa 0 (.t 20)⟩,
    ⟨some 22, none, .ld 1 false (.t 21)⟩,
    ⟨some 23, none, .lenV (.t 22)⟩,
    ⟨some 24, none, .bin .geq (.t 23) (.c (.int .i64 4))⟩] [0, 1, 5, 24])
   (.cond (.t 24) (.seq (.region [⟨some 25, none, .mov (.t 0)⟩,
    ⟨some 26, none, .nilc (.t 25)⟩,
    ⟨some 27, none, .fa 0 (.t 26)⟩,
    ⟨some 28, none, .ld 1 false (.t 27)⟩,
    ⟨some 29, none, .call 60 [.t 28, .c (.func (.func 61) ⟨[]⟩ ⟨[]⟩)]⟩,
    ⟨some 7, none, .mov (.t 29)⟩] [0, 1, 5, 7])
   (.seq (.seq (.region [⟨some 30, none, .mov (.t 7)⟩,
    ⟨some 31, none, .bin .lss (.t 30) (.c (.int .i64 0))⟩] [0, 1, 5, 7, 31])
   (.cond (.t 31) (.seq (.region [⟨some 6, none, .mov (.c (.int .i64 13))⟩] [6])
   (.ret)) (.skip)))
   (.region [⟨some 32, none, .mov (.t 0)⟩,
    ⟨some 33, none, .mov (.t 0)⟩,
    ⟨some 34, none, .nilc (.t 33)⟩,
    ⟨some 35, none, .fa 0 (.t 34)⟩,
    ⟨some 36, none, .ld 1 false (.t 35)⟩,
    ⟨some 37, none, .mov (.t 7)⟩,
    ⟨some 38, none, .mov (.t 7)⟩,
    ⟨some 39, none, .bin .add (.t 38) (.c (.int .i64 1))⟩,
    ⟨some 40, none, .call 62 [.t 36, .t 37, .t 39]⟩,
    ⟨some 41, none, .nilc (.t 32)⟩,
    ⟨some 42, none, .fa 0 (.t 41)⟩,
    ⟨none, none, .st 1 (.t 42) (.t 40)⟩] [0, 1, 5]))) (.skip)))
   (.seq (.region [⟨some 43, none, .mov (.t 0)⟩,
    ⟨some 44, none, .mov (.t 0)⟩,
    ⟨some 45, none, .nilc (.t 44)⟩,
    ⟨some 46, none, .fa 0 (.t 45)⟩,
    ⟨some 47, none, .ld 1 false (.t 46)⟩,
    ⟨some 48, none, .ld 8 true (.t 5)⟩,
    ⟨some 51, none, .mov (.t 1)⟩,
    ⟨some 49, none, .call 63 [.t 48]⟩,
    ⟨none, none, .chk 1 false (.t 46) 47⟩,
    ⟨some 50, none, .build [.int .i64 0, .int .u64 0, .int .u64 0, .string ByteArray.empty, .slice none 0 0, .slice none 0 0, .int .u64 0, .int .u64 0, .int .i64 0] [(0, 8, .t 49), (8, 1, .c (.int .i64 1))]⟩,
    ⟨some 52, none, .build [.int .i64 0, .int .u64 0, .int .u64 0, .string ByteArray.empty, .slice none 0 0, .slice none 0 0, .int .u64 0, .int .u64 0, .int .i64 0, .int .u64 0, .bool false, .int .u64 0, .int .i64 0, .int .u64 0, .slice none 0 0] [(0, 9, .t 50), (9, 1, .t 51)]⟩,
    ⟨some 53, none, .bslice 1 15 [.int .i64 0, .int .u64 0, .int .u64 0, .string ByteArray.empty, .slice none 0 0, .slice none 0 0, .int .u64 0, .int .u64 0, .int .i64 0, .int .u64 0, .bool false, .int .u64 0, .int .i64 0, .int .u64 0, .slice none 0 0] [(0, 15, .t 52)]⟩,
    ⟨some 54, none, .app 15 176 (.t 47) (.t 53)⟩,
    ⟨some 55, none, .nilc (.t 43)⟩,
    ⟨some 56, none, .fa 0 (.t 55)⟩,
    ⟨none, none, .st 1 (.t 56) (.t 54)⟩] [])
   (.seq (.region [⟨some 6, none, .mov (.c (.int .i64 0))⟩] [6])
   (.ret))))),
  [.t 6], 57, 3⟩
def A38 : Ann := ⟨[(0, [0, 1, 5]), (1, [0, 1, 5, 8]), (2, [6]), (3, [0, 1, 5, 11]), (4, [6]), (5, [0, 1, 5, 14]), (6, [6]), (7, [0, 1, 5, 24]), (8, [0, 1, 5, 7]), (9, [0, 1, 5, 7, 31]), (10, [6]), (11, [0, 1, 5]), (12, []), (13, [6])], [(12, [(0, []), (1, []), (2, []), (3, []), (4, []), (5, []), (8, []), (6, [4]), (7, []), (9, []), (10, []), (11, []), (12, []), (13, []), (14, [])], [(2, [1]), (3, [1, 2]), (4, [1, 2, 3]), (6, [5]), (7, [5, 6]), (9, [5, 6, 7, 8]), (10, [5, 6, 7, 8, 9]), (11, [1, 2, 3, 4, 5, 6, 7, 8, 9, 10]), (12, [0, 1, 2, 3, 4, 5, 6, 7, 8, 9, 10, 11]), (13, [0, 1, 2, 3, 4, 5, 6, 7, 8, 9, 10, 11, 12]), (14, [0, 1, 2, 3, 4, 5, 6, 7, 8, 9, 10, 11, 12, 13])])]⟩
set_option maxRecDepth 100000 in
theorem F38.ok : compF Try.prog A38 Try.f38 = some F38 := by kernel_rfl
theorem F38.fok : FOk Try.prog 38 F38 := fok_of mixed Try.func38 F38.ok

/-- (*cloakroom/token.Cache).Ask -/
def F39 : SFn := ⟨.seq (.region [⟨some 5, none, .box (.t 2)⟩,
    ⟨some 6, none, .mov (.c (.bool false))⟩,
    ⟨some 7, none, .mov (.c (.bool false))⟩,
    ⟨some 8, none, .new [.int .u64 0, .int .i64 0, .int .u64 0, .slice none 0 0]⟩,
    ⟨some 9, none, .mov (.c (.int .i64 0))⟩] [0, 1, 5, 8])
   (.seq (.seq (.region [⟨some 11, none, .mov (.t 0)⟩,
    ⟨some 12, none, .eqk false .ptr (.t 11) (.c (.pointer none))⟩] [0, 1, 5, 8, 12])
   (.cond (.t 12) (.seq (.region [⟨some 13, none, .build [.int .u64 0, .int .i64 0, .int .u64 0, .slice none 0 0] []⟩,
    ⟨some 6, none, .mov (.c (.bool false))⟩,
    ⟨some 7, none, .mov (.c (.bool false))⟩,
    ⟨none, none, .st 4 (.t 8) (.t 13)⟩,
    ⟨some 9, none, .mov (.c (.int .i64 1))⟩] [6, 7, 8, 9])
   (.ret)) (.skip)))
   (.seq (.region [⟨some 14, none, .mov (.t 0)⟩,
    ⟨some 15, none, .mov (.t 1)⟩,
    ⟨some 16, none, .call 59 [.t 14, .t 15]⟩,
    ⟨some 10, none, .mov (.t 16)⟩] [1, 5, 8, 10])
   (.seq (.block 0 (.seq (.region [⟨some 18, none, .mov (.t 1)⟩,
    ⟨some 19, none, .bin .eql (.t 18) (.c (.int .u64 0))⟩,
    ⟨some 20, none, .mov (.t 19)⟩,
    ⟨some 21, some (20, false), .mov (.t 10)⟩,
    ⟨some 22, some (20, false), .eqk false .ptr (.t 21) (.c (.pointer none))⟩,
    ⟨some 23, none, .pick (.t 20) (.c (.bool true)) (.t 22)⟩,
    ⟨some 17, none, .mov (.t 23)⟩] [5, 8, 10, 17])
   (.cond (.t 17) (.seq (.region [⟨some 24, none, .build [.int .u64 0, .int .i64 0, .int .u64 0, .slice none 0 0] []⟩,
    ⟨some 6, none, .mov (.c (.bool false))⟩,
    ⟨some 7, none, .mov (.c (.bool false))⟩,
    ⟨none, none, .st 4 (.t 8) (.t 24)⟩,
    ⟨some 9, none, .mov (.c (.int .i64 0))⟩] [6, 7, 8, 9])
   (.ret)) (.seq (.region [⟨some 26, none, .mov (.t 10)⟩,
    ⟨some 27, none, .nilc (.t 26)⟩,
    ⟨some 28, none, .fa 0 (.t 27)⟩,
    ⟨some 29, none, .fa 0 (.t 28)⟩,
    ⟨some 30, none, .ld 8 true (.t 29)⟩,
    ⟨some 31, none, .ld 8 true (.t 5)⟩,
    ⟨some 32, none, .call 64 [.t 30, .t 31]⟩,
    ⟨some 33, none, .un .not (.t 32)⟩,
    ⟨some 25, none, .mov (.t 33)⟩] [8, 10, 25])
   (.cond (.t 25) (.seq (.region [⟨some 34, none, .build [.int .u64 0, .int .i64 0, .int .u64 0, .slice none 0 0] []⟩,
    ⟨some 6, none, .mov (.c (.bool true))⟩,
    ⟨some 7, none, .mov (.c (.bool false))⟩,
    ⟨none, none, .st 4 (.t 8) (.t 34)⟩,
    ⟨some 9, none, .mov (.c (.int .i64 16))⟩] [6, 7, 8, 9])
   (.ret)) (.seq (.region [⟨some 36, none, .mov (.t 10)⟩,
    ⟨some 37, none, .nilc (.t 36)⟩,
    ⟨some 38, none, .fa 10 (.t 37)⟩,
    ⟨some 39, none, .ld 1 false (.t 38)⟩,
    ⟨some 35, none, .mov (.t 39)⟩] [8, 10, 35])
   (.cond (.t 35) (.seq (.region [⟨some 40, none, .mov (.t 10)⟩,
    ⟨some 41, none, .nilc (.t 40)⟩,
    ⟨some 42, none, .fa 11 (.t 41)⟩,
    ⟨some 43, none, .ld 4 true (.t 42)⟩,
    ⟨some 44, none, .call 65 [.t 43]⟩,
    ⟨some 6, none, .mov (.c (.bool true))⟩,
    ⟨some 7, none, .mov (.c (.bool true))⟩,
    ⟨none, none, .st 4 (.t 8) (.t 44)⟩,
    ⟨some 9, none, .mov (.c (.int .i64 0))⟩] [6, 7, 8, 9])
   (.ret)) (.skip))))))))
   (.seq (.region [⟨some 45, none, .mov (.t 10)⟩,
    ⟨some 46, none, .nilc (.t 45)⟩,
    ⟨some 47, none, .fa 0 (.t 46)⟩,
    ⟨some 48, none, .fa 8 (.t 47)⟩,
    ⟨some 49, none, .ld 1 false (.t 48)⟩,
    ⟨some 50, none, .bin .add (.t 49) (.c (.int .i64 1))⟩,
    ⟨some 51, none, .nilc (.t 45)⟩,
    ⟨some 52, none, .fa 0 (.t 51)⟩,
    ⟨some 53, none, .fa 8 (.t 52)⟩,
    ⟨none, none, .st 1 (.t 53) (.t 50)⟩] [8])
   (.seq (.region [⟨some 54, none, .build [.int .u64 0, .int .i64 0, .int .u64 0, .slice none 0 0] []⟩,
    ⟨some 6, none, .mov (.c (.bool true))⟩,
    ⟨some 7, none, .mov (.c (.bool false))⟩,
    ⟨none, none, .st 4 (.t 8) (.t 54)⟩,
    ⟨some 9, none, .mov (.c (.int .i64 0))⟩] [6, 7, 8, 9])
   (.ret)))))),
  [.t 6, .t 7, .c 8 4 true, .t 9], 55, 3⟩
def A39 : Ann := ⟨[(0, [0, 1, 5, 8]), (1, [0, 1, 5, 8, 12]), (2, [6, 7, 8, 9]), (3, [1, 5, 8, 10]), (4, [5, 8, 10, 17]), (5, [6, 7, 8, 9]), (6, [8, 10, 25]), (7, [6, 7, 8, 9]), (8, [8, 10, 35]), (9, [6, 7, 8, 9]), (10, [8]), (11, [6, 7, 8, 9])], [(6, [(0, []), (1, []), (2, []), (3, []), (4, []), (5, []), (6, []), (7, []), (8, [])], [(1, [0]), (2, [0, 1]), (3, [0, 1, 2]), (4, [0, 1, 2, 3]), (6, [0, 1, 2, 3, 4, 5]), (7, [0, 1, 2, 3, 4, 5, 6]), (8, [0, 1, 2, 3, 4, 5, 6, 7])])]⟩
set_option maxRecDepth 100000 in
theorem F39.ok : compF Try.prog A39 Try.f39 = some F39 := by kernel_rfl
theorem F39.fok : FOk Try.prog 39 F39 := fok_of mixed Try.func39 F39.ok

/-- (*cloakroom/token.Cache).End -/
def F40 : SFn := ⟨.seq (.region [⟨some 5, none, .box (.t 2)⟩,
    ⟨some 6, none, .mov (.c (.int .i64 0))⟩] [0, 1, 5])
   (.seq (.seq (.region [⟨some 8, none, .mov (.t 0)⟩,
    ⟨some 9, none, .eqk false .ptr (.t 8) (.c (.pointer none))⟩] [0, 1, 5, 9])
   (.cond (.t 9) (.seq (.region [⟨some 6, none, .mov (.c (.int .i64 0))⟩] [6])
   (.ret)) (.skip)))
   (.seq (.region [⟨some 10, none, .mov (.t 0)⟩,
    ⟨some 11, none, .mov (.t 1)⟩,
    ⟨some 12, none, .call 59 [.t 10, .t 11]⟩,
    ⟨some 7, none, .mov (.t 12)⟩] [1, 5, 7])
   (.seq (.block 0 (.seq (.region [⟨some 14, none, .mov (.t 1)⟩,
    ⟨some 15, none, .bin .eql (.t 14) (.c (.int .u64 0))⟩,
    ⟨some 16, none, .mov (.t 15)⟩,
    ⟨some 17, some (16, false), .mov (.t 7)⟩,
    ⟨some 18, some (16, false), .eqk false .ptr (.t 17) (.c (.pointer none))⟩,
    ⟨some 19, none, .pick (.t 16) (.c (.bool true)) (.t 18)⟩,
    ⟨some 13, none, .mov (.t 19)⟩] [5, 7, 13])
   (.cond (.t 13) (.seq (.region [⟨some 6, none, .mov (.c (.int .i64 1))⟩] [6])
   (.ret)) (.seq (.region [⟨some 21, none, .mov (.t 7)⟩,
    ⟨some 22, none, .nilc (.t 21)⟩,
    ⟨some 23, none, .fa 10 (.t 22)⟩,
    ⟨some 24, none, .ld 1 false (.t 23)⟩,
    ⟨some 20, none, .mov (.t 24)⟩] [5, 7, 20])
   (.cond (.t 20) (.seq (.region [⟨some 6, none, .mov (.c (.int .i64 0))⟩] [6])
   (.ret)) (.skip))))))
   (.seq (.region [⟨some 25, none, .mov (.t 7)⟩,
    ⟨some 26, none, .mov (.t 7)⟩,
    ⟨some 27, none, .ld 4 true (.t 5)⟩,
    ⟨some 28, none, .call 65 [.t 27]⟩,
    ⟨some 29, none, .nilc (.t 25)⟩,
    ⟨some 30, none, .fa 10 (.t 29)⟩,
    ⟨none, none, .st 1 (.t 30) (.c (.bool true))⟩,
    ⟨some 31, none, .nilc (.t 26)⟩,
    ⟨some 32, none, .fa 11 (.t 31)⟩,
    ⟨none, none, .st 4 (.t 32) (.t 28)⟩] [7])
   (.seq (.region [⟨some 33, none, .mov (.t 7)⟩,
    ⟨some 34, none, .nilc (.t 33)⟩,
    ⟨some 35, none, .fa 0 (.t 34)⟩,
    ⟨some 36, none, .fa 8 (.t 35)⟩,
    ⟨some 37, none, .ld 1 false (.t 36)⟩,
    ⟨some 6, none, .mov (.t 37)⟩] [6])
   (.ret)))))),
  [.t 6], 38, 3⟩
def A40 : Ann := ⟨[(0, [0, 1, 5]), (1, [0, 1, 5, 9]), (2, [6]), (3, [1, 5, 7]), (4, [5, 7, 13]), (5, [6]), (6, [5, 7, 20]), (7, [6]), (8, [7]), (9, [6])], []⟩
set_option maxRecDepth 100000 in
theorem F40.ok : compF Try.prog A40 Try.f40 = some F40 := by kernel_rfl
theorem F40.fok : FOk Try.prog 40 F40 := fok_of mixed Try.func40 F40.ok

/-- cloakroom/cloakroomlaw24.request -/
def F41 : SFn := ⟨.seq (.region [⟨some 2, none, .new [.int .i64 0, .int .u64 0, .int .u64 0, .string ByteArray.empty, .slice none 0 0, .slice none 0 0, .int .u64 0, .int .u64 0]⟩] [0, 2])
   (.seq (.region [⟨some 3, none, .mov (.t 0)⟩,
    ⟨some 4, none, .bin .rem (.t 3) (.c (.int .u8 3))⟩,
    ⟨some 5, none, .conv .i64 (.t 4)⟩,
    ⟨some 6, none, .bin .add (.c (.int .i64 1)) (.t 5)⟩,
    ⟨some 7, none, .mov (.t 0)⟩,
    ⟨some 8, none, .bin .rem (.t 7) (.c (.int .u8 2))⟩,
    ⟨some 9, none, .conv .u64 (.t 8)⟩,
    ⟨some 10, none, .build [.int .i64 0, .int .u64 0, .int .u64 0, .string ByteArray.empty, .slice none 0 0, .slice none 0 0, .int .u64 0, .int .u64 0] [(0, 1, .t 6), (2, 1, .t 9)]⟩,
    ⟨none, none, .st 8 (.t 2) (.t 10)⟩] [2])
   (.ret)),
  [.c 2 8 true], 11, 1⟩
def A41 : Ann := ⟨[(0, [0, 2]), (1, [2])], []⟩
set_option maxRecDepth 100000 in
theorem F41.ok : compF Try.prog A41 Try.f41 = some F41 := by kernel_rfl
theorem F41.fok : FOk Try.prog 41 F41 := fok_of mixed Try.func41 F41.ok

/-- (*cloakroom/token.Cache).Tokens -/
def F42 : SFn := ⟨.seq (.region [⟨some 2, none, .mov (.c (.slice none 0 0))⟩] [0])
   (.seq (.seq (.region [⟨some 6, none, .mov (.t 0)⟩,
    ⟨some 7, none, .eqk false .ptr (.t 6) (.c (.pointer none))⟩] [0, 7])
   (.cond (.t 7) (.seq (.region [⟨some 2, none, .mov (.c (.slice none 0 0))⟩] [2])
   (.ret)) (.skip)))
   (.seq (.region [⟨some 3, none, .mov (.c (.slice none 0 0))⟩] [0, 3])
   (.seq (.seq (.region [⟨some 8, none, .mov (.t 0)⟩,
    ⟨some 9, none, .nilc (.t 8)⟩,
    ⟨some 10, none, .fa 0 (.t 9)⟩,
    ⟨some 11, none, .ld 1 false (.t 10)⟩,
    ⟨some 12, none, .lenV (.t 11)⟩,
    ⟨some 13, none, .mov (.c (.int .i64 0))⟩] [3, 11, 12, 13])
   (.block 0 (.loop (.seq (.region [⟨some 14, none, .bin .lss (.t 13) (.t 12)⟩] [3, 11, 12, 13, 14])
   (.seq (.cond (.t 14) (.skip) (.exit 0))
   (.seq (.block 1 (.seq (.region [⟨some 15, none, .iaV 15 (.t 11) (.t 13)⟩,
    ⟨some 16, none, .ld 15 true (.t 15)⟩,
    ⟨some 5, none, .new [.int .i64 0, .int .u64 0, .int .u64 0, .string ByteArray.empty, .slice none 0 0, .slice none 0 0, .int .u64 0, .int .u64 0, .int .i64 0, .int .u64 0, .bool false, .int .u64 0, .int .i64 0, .int .u64 0, .slice none 0 0]⟩,
    ⟨none, none, .st 15 (.t 5) (.t 16)⟩] [3, 5, 11, 12, 13])
   (.region [⟨some 17, none, .mov (.t 3)⟩,
    ⟨some 18, none, .fa 9 (.t 5)⟩,
    ⟨some 19, none, .ld 1 false (.t 18)⟩,
    ⟨some 20, none, .bslice 1 1 [.int .u64 0] [(0, 1, .t 19)]⟩,
    ⟨some 21, none, .app 1 8 (.t 17) (.t 20)⟩,
    ⟨some 3, none, .mov (.t 21)⟩] [3, 11, 12, 13])))
   (.region [⟨some 22, none, .bin .add (.t 13) (.c (.int .i64 1))⟩,
    ⟨some 13, none, .mov (.t 22)⟩] [3, 11, 12, 13])))))))
   (.seq (.region [⟨some 23, none, .mov (.t 3)⟩,
    ⟨some 2, none, .mov (.t 23)⟩] [2])
   (.ret))))),
  [.t 2], 24, 1⟩
def A42 : Ann := ⟨[(0, [0]), (1, [0, 7]), (2, [2]), (3, [0, 3]), (4, [3, 11, 12, 13]), (5, [3, 11, 12, 13, 14]), (6, [3, 5, 11, 12, 13]), (7, [3, 11, 12, 13]), (8, [3, 11, 12, 13]), (9, [2])], []⟩
set_option maxRecDepth 100000 in
theorem F42.ok : compF Try.prog A42 Try.f42 = some F42 := by kernel_rfl
theorem F42.fok : FOk Try.prog 42 F42 := fok_of mixed Try.func42 F42.ok

/-- (*cloakroom/cloakroomref22.Cache).Begin -/
def F43 : SFn := ⟨.seq (.region [⟨some 5, none, .box (.t 2)⟩,
    ⟨some 6, none, .mov (.c (.int .i64 0))⟩] [0, 1, 5])
   (.seq (.seq (.region [⟨some 9, none, .mov (.t 1)⟩,
    ⟨some 10, none, .bin .eql (.t 9) (.c (.int .u64 0))⟩] [0, 1, 5, 10])
   (.cond (.t 10) (.seq (.region [⟨some 6, none, .mov (.c (.int .i64 0))⟩] [6])
   (.ret)) (.skip)))
   (.seq (.seq (.region [⟨some 11, none, .mov (.t 0)⟩,
    ⟨some 12, none, .mov (.t 1)⟩,
    ⟨some 13, none, .call 66 [.t 11, .t 12]⟩,
    ⟨some 14, none, .bin .geq (.t 13) (.c (.int .i64 0))⟩] [0, 1, 5, 14])
   (.cond (.t 14) (.seq (.region [⟨some 6, none, .mov (.c (.int .i64 11))⟩] [6])
   (.ret)) (.skip)))
   (.seq (.region [⟨some 15, none, .bslice 0 15 [.int .u64 0, .int .i64 0, .int .u64 0, .int .u64 0, .string ByteArray.empty, .slice none 0 0, .slice none 0 0, .int .u64 0, .int .u64 0, .bool false, .int .u64 0, .int .i64 0, .int .u64 0, .slice none 0 0, .int .i64 0] []⟩,
    ⟨some 16, none, .mov (.t 0)⟩,
    ⟨some 17, none, .nilc (.t 16)⟩,
    ⟨some 18, none, .fa 0 (.t 17)⟩,
    ⟨some 19, none, .ld 1 false (.t 18)⟩,
    ⟨some 20, none, .app 15 176 (.t 15) (.t 19)⟩,
    ⟨some 7, none, .mov (.t 20)⟩] [0, 1, 5, 7])
   (.seq (.seq (.region [⟨some 21, none, .mov (.t 7)⟩,
    ⟨some 22, none, .lenV (.t 21)⟩,
    ⟨some 23, none, .bin .geq (.t 22) (.c (.int .i64 4))⟩] [0, 1, 5, 7, 23])
   (.cond (.t 23) (.seq (.region [⟨some 8, none, .mov (.c (.int .i64 0))⟩] [0, 1, 5, 7, 8])
   (.seq (.block 0 (.loop (.seq (.seq (.region [⟨some 24, none, .mov (.t 8)⟩,
    ⟨some 25, none, .mov (.t 7)⟩,
    ⟨some 26, none, .lenV (.t 25)⟩,
    ⟨some 27, none, .bin .lss (.t 24) (.t 26)⟩,
    ⟨some 28, none, .mov (.t 27)⟩,
    ⟨some 29, some (28, true), .mov (.t 7)⟩,
    ⟨some 30, some (28, true), .mov (.t 8)⟩,
    ⟨some 31, some (28, true), .iaV 15 (.t 29) (.t 30)⟩,
    ⟨some 32, some (28, true), .fa 9 (.t 31)⟩,
    ⟨some 33, some (28, true), .ld 1 false (.t 32)⟩,
    ⟨some 34, some (28, true), .un .not (.t 33)⟩,
    ⟨some 35, none, .pick (.t 28) (.t 34) (.c (.bool false))⟩] [0, 1, 5, 7, 8, 35])
   (.cond (.t 35) (.skip) (.exit 0)))
   (.block 1 (.region [⟨some 36, none, .mov (.t 8)⟩,
    ⟨some 37, none, .bin .add (.t 36) (.c (.int .i64 1))⟩,
    ⟨some 8, none, .mov (.t 37)⟩] [0, 1, 5, 7, 8])))))
   (.seq (.seq (.region [⟨some 38, none, .mov (.t 8)⟩,
    ⟨some 39, none, .mov (.t 7)⟩,
    ⟨some 40, none, .lenV (.t 39)⟩,
    ⟨some 41, none, .bin .eql (.t 38) (.t 40)⟩] [0, 1, 5, 7, 8, 41])
   (.cond (.t 41) (.seq (.region [⟨some 6, none, .mov (.c (.int .i64 13))⟩] [6])
   (.ret)) (.skip)))
   (.region [⟨some 42, none, .mov (.t 7)⟩,
    ⟨some 43, none, .mov (.t 8)⟩,
    ⟨some 44, none, .slV 15 (.t 42) none (some (.t 43)) none⟩,
    ⟨some 45, none, .mov (.t 7)⟩,
    ⟨some 46, none, .mov (.t 8)⟩,
    ⟨some 47, none, .bin .add (.t 46) (.c (.int .i64 1))⟩,
    ⟨some 48, none, .slV 15 (.t 45) (some (.t 47)) none none⟩,
    ⟨some 49, none, .app 15 176 (.t 44) (.t 48)⟩,
    ⟨some 7, none, .mov (.t 49)⟩] [0, 1, 5, 7])))) (.skip)))
   (.seq (.region [⟨some 50, none, .mov (.t 0)⟩,
    ⟨some 51, none, .mov (.t 7)⟩,
    ⟨some 52, none, .mov (.t 1)⟩,
    ⟨some 53, none, .ld 8 true (.t 5)⟩,
    ⟨some 54, none, .build [.int .u64 0, .int .i64 0, .int .u64 0, .int .u64 0, .string ByteArray.empty, .slice none 0 0, .slice none 0 0, .int .u64 0, .int .u64 0, .bool false, .int .u64 0, .int .i64 0, .int .u64 0, .slice none 0 0, .int .i64 0] [(0, 1, .t 52), (1, 8, .t 53), (14, 1, .c (.int .i64 1))]⟩,
    ⟨some 55, none, .bslice 1 15 [.int .u64 0, .int .i64 0, .int .u64 0, .int .u64 0, .string ByteArray.empty, .slice none 0 0, .slice none 0 0, .int .u64 0, .int .u64 0, .bool false, .int .u64 0, .int .i64 0, .int .u64 0, .slice none 0 0, .int .i64 0] [(0, 15, .t 54)]⟩,
    ⟨some 56, none, .app 15 176 (.t 51) (.t 55)⟩,
    ⟨some 57, none, .nilc (.t 50)⟩,
    ⟨some 58, none, .fa 0 (.t 57)⟩,
    ⟨none, none, .st 1 (.t 58) (.t 56)⟩] [])
   (.seq (.region [⟨some 6, none, .mov (.c (.int .i64 0))⟩] [6])
   (.ret))))))),
  [.t 6], 59, 3⟩
def A43 : Ann := ⟨[(0, [0, 1, 5]), (1, [0, 1, 5, 10]), (2, [6]), (3, [0, 1, 5, 14]), (4, [6]), (5, [0, 1, 5, 7]), (6, [0, 1, 5, 7, 23]), (7, [0, 1, 5, 7, 8]), (8, [0, 1, 5, 7, 8, 35]), (9, [0, 1, 5, 7, 8]), (10, [0, 1, 5, 7, 8, 41]), (11, [6]), (12, [0, 1, 5, 7]), (13, []), (14, [6])], [(12, [(0, []), (1, []), (2, []), (3, []), (4, []), (5, []), (6, []), (7, []), (8, [])], [(2, [0, 1]), (5, [4]), (6, [3, 4, 5]), (7, [0, 1, 2, 3, 4, 5, 6]), (8, [0, 1, 2, 3, 4, 5, 6, 7])])]⟩
set_option maxRecDepth 100000 in
theorem F43.ok : compF Try.prog A43 Try.f43 = some F43 := by kernel_rfl
theorem F43.fok : FOk Try.prog 43 F43 := fok_of mixed Try.func43 F43.ok

/-- (*cloakroom/cloakroomref22.Cache).Ask -/
def F44 : SFn := ⟨.seq (.region [⟨some 5, none, .box (.t 2)⟩,
    ⟨some 6, none, .mov (.c (.bool false))⟩,
    ⟨some 7, none, .mov (.c (.bool false))⟩,
    ⟨some 8, none, .new [.int .u64 0, .int .i64 0, .int .u64 0, .slice none 0 0]⟩,
    ⟨some 9, none, .mov (.c (.int .i64 0))⟩] [0, 1, 5, 8])
   (.seq (.region [⟨some 12, none, .mov (.t 0)⟩,
    ⟨some 13, none, .mov (.t 1)⟩,
    ⟨some 14, none, .call 66 [.t 12, .t 13]⟩,
    ⟨some 10, none, .mov (.t 14)⟩] [0, 5, 8, 10])
   (.seq (.seq (.region [⟨some 15, none, .mov (.t 10)⟩,
    ⟨some 16, none, .bin .lss (.t 15) (.c (.int .i64 0))⟩] [0, 5, 8, 10, 16])
   (.cond (.t 16) (.seq (.region [⟨some 17, none, .build [.int .u64 0, .int .i64 0, .int .u64 0, .slice none 0 0] []⟩,
    ⟨some 6, none, .mov (.c (.bool false))⟩,
    ⟨some 7, none, .mov (.c (.bool false))⟩,
    ⟨none, none, .st 4 (.t 8) (.t 17)⟩,
    ⟨some 9, none, .mov (.c (.int .i64 0))⟩] [6, 7, 8, 9])
   (.ret)) (.skip)))
   (.seq (.region [⟨some 18, none, .mov (.t 0)⟩,
    ⟨some 19, none, .nilc (.t 18)⟩,
    ⟨some 20, none, .fa 0 (.t 19)⟩,
    ⟨some 21, none, .ld 1 false (.t 20)⟩,
    ⟨some 22, none, .mov (.t 10)⟩,
    ⟨some 23, none, .iaV 15 (.t 21) (.t 22)⟩,
    ⟨some 24, none, .ld 15 true (.t 23)⟩,
    ⟨some 11, none, .new [.int .u64 0, .int .i64 0, .int .u64 0, .int .u64 0, .string ByteArray.empty, .slice none 0 0, .slice none 0 0, .int .u64 0, .int .u64 0, .bool false, .int .u64 0, .int .i64 0, .int .u64 0, .slice none 0 0, .int .i64 0]⟩,
    ⟨none, none, .st 15 (.t 11) (.t 24)⟩] [0, 5, 8, 10, 11])
   (.seq (.seq (.region [⟨some 25, none, .fa 1 (.t 11)⟩,
    ⟨some 26, none, .ld 8 true (.t 25)⟩,
    ⟨some 27, none, .ld 8 true (.t 5)⟩,
    ⟨some 28, none, .call 67 [.t 26, .t 27]⟩,
    ⟨some 29, none, .un .not (.t 28)⟩] [0, 8, 10, 11, 29])
   (.cond (.t 29) (.seq (.region [⟨some 30, none, .build [.int .u64 0, .int .i64 0, .int .u64 0, .slice none 0 0] []⟩,
    ⟨some 6, none, .mov (.c (.bool true))⟩,
    ⟨some 7, none, .mov (.c (.bool false))⟩,
    ⟨none, none, .st 4 (.t 8) (.t 30)⟩,
    ⟨some 9, none, .mov (.c (.int .i64 16))⟩] [6, 7, 8, 9])
   (.ret)) (.skip)))
   (.seq (.seq (.region [⟨some 31, none, .fa 9 (.t 11)⟩,
    ⟨some 32, none, .ld 1 false (.t 31)⟩,
    ⟨some 33, none, .un .not (.t 32)⟩] [0, 8, 10, 11, 33])
   (.cond (.t 33) (.seq (.region [⟨some 34, none, .mov (.t 0)⟩,
    ⟨some 35, none, .bslice 0 15 [.int .u64 0, .int .i64 0, .int .u64 0, .int .u64 0, .string ByteArray.empty, .slice none 0 0, .slice none 0 0, .int .u64 0, .int .u64 0, .bool false, .int .u64 0, .int .i64 0, .int .u64 0, .slice none 0 0, .int .i64 0] []⟩,
    ⟨some 36, none, .mov (.t 0)⟩,
    ⟨some 37, none, .nilc (.t 36)⟩,
    ⟨some 38, none, .fa 0 (.t 37)⟩,
    ⟨some 39, none, .ld 1 false (.t 38)⟩,
    ⟨some 40, none, .app 15 176 (.t 35) (.t 39)⟩,
    ⟨some 41, none, .nilc (.t 34)⟩,
    ⟨some 42, none, .fa 0 (.t 41)⟩,
    ⟨none, none, .st 1 (.t 42) (.t 40)⟩] [0, 8, 10, 11])
   (.region [⟨some 43, none, .mov (.t 0)⟩,
    ⟨some 44, none, .nilc (.t 43)⟩,
    ⟨some 45, none, .fa 0 (.t 44)⟩,
    ⟨some 46, none, .ld 1 false (.t 45)⟩,
    ⟨some 47, none, .mov (.t 10)⟩,
    ⟨some 48, none, .iaV 15 (.t 46) (.t 47)⟩,
    ⟨some 49, none, .fa 14 (.t 48)⟩,
    ⟨some 50, none, .ld 1 false (.t 49)⟩,
    ⟨some 51, none, .bin .add (.t 50) (.c (.int .i64 1))⟩,
    ⟨some 52, none, .iaV 15 (.t 46) (.t 47)⟩,
    ⟨some 53, none, .fa 14 (.t 52)⟩,
    ⟨none, none, .st 1 (.t 53) (.t 51)⟩] [8, 11])) (.skip)))
   (.seq (.region [⟨some 54, none, .fa 9 (.t 11)⟩,
    ⟨some 55, none, .ld 1 false (.t 54)⟩,
    ⟨some 56, none, .fa 10 (.t 11)⟩,
    ⟨some 57, none, .ld 4 true (.t 56)⟩,
    ⟨some 6, none, .mov (.c (.bool true))⟩,
    ⟨some 7, none, .mov (.t 55)⟩,
    ⟨none, none, .st 4 (.t 8) (.t 57)⟩,
    ⟨some 9, none, .mov (.c (.int .i64 0))⟩] [6, 7, 8, 9])
   (.ret))))))),
  [.t 6, .t 7, .c 8 4 true, .t 9], 58, 3⟩
def A44 : Ann := ⟨[(0, [0, 1, 5, 8]), (1, [0, 5, 8, 10]), (2, [0, 5, 8, 10, 16]), (3, [6, 7, 8, 9]), (4, [0, 5, 8, 10, 11]), (5, [0, 8, 10, 11, 29]), (6, [6, 7, 8, 9]), (7, [0, 8, 10, 11, 33]), (8, [0, 8, 10, 11]), (9, [8, 11]), (10, [6, 7, 8, 9])], [(10, [(0, []), (1, []), (2, []), (3, []), (4, []), (5, []), (6, []), (7, [])], [(1, [0]), (3, [2]), (5, [0, 1, 4]), (6, [0, 1, 2, 3, 4, 5]), (7, [0, 1, 2, 3, 4, 5, 6])])]⟩
set_option maxRecDepth 100000 in
theorem F44.ok : compF Try.prog A44 Try.f44 = some F44 := by kernel_rfl
theorem F44.fok : FOk Try.prog 44 F44 := fok_of mixed Try.func44 F44.ok

/-- cloakroom/cloakroomref1.SameReply -/
def F45 : SFn := ⟨.seq (.region [⟨some 2, none, .box (.t 0)⟩,
    ⟨some 3, none, .box (.t 1)⟩,
    ⟨some 4, none, .mov (.c (.bool false))⟩] [2, 3])
   (.seq (.region [⟨some 5, none, .fa 0 (.t 2)⟩,
    ⟨some 6, none, .ld 1 false (.t 5)⟩,
    ⟨some 7, none, .fa 0 (.t 3)⟩,
    ⟨some 8, none, .ld 1 false (.t 7)⟩,
    ⟨some 9, none, .bin .eql (.t 6) (.t 8)⟩,
    ⟨some 10, none, .mov (.t 9)⟩,
    ⟨some 11, some (10, true), .fa 1 (.t 2)⟩,
    ⟨some 12, some (10, true), .ld 1 false (.t 11)⟩,
    ⟨some 13, some (10, true), .fa 1 (.t 3)⟩,
    ⟨some 14, some (10, true), .ld 1 false (.t 13)⟩,
    ⟨some 15, some (10, true), .bin .eql (.t 12) (.t 14)⟩,
    ⟨some 16, none, .pick (.t 10) (.t 15) (.c (.bool false))⟩,
    ⟨some 17, none, .mov (.t 16)⟩,
    ⟨some 18, some (17, true), .fa 2 (.t 2)⟩,
    ⟨some 19, some (17, true), .ld 1 false (.t 18)⟩,
    ⟨some 20, some (17, true), .fa 2 (.t 3)⟩,
    ⟨some 21, some (17, true), .ld 1 false (.t 20)⟩,
    ⟨some 22, some (17, true), .bin .eql (.t 19) (.t 21)⟩,
    ⟨some 23, none, .pick (.t 17) (.t 22) (.c (.bool false))⟩,
    ⟨some 24, none, .mov (.t 23)⟩,
    ⟨some 25, some (24, true), .fa 3 (.t 2)⟩,
    ⟨some 26, some (24, true), .ld 1 false (.t 25)⟩,
    ⟨some 27, some (24, true), .fa 3 (.t 3)⟩,
    ⟨some 28, some (24, true), .ld 1 false (.t 27)⟩,
    ⟨some 29, some (24, true), .call 34 [.t 26, .t 28]⟩,
    ⟨some 30, none, .pick (.t 24) (.t 29) (.c (.bool false))⟩,
    ⟨some 4, none, .mov (.t 30)⟩] [4])
   (.ret)),
  [.t 4], 31, 2⟩
def A45 : Ann := ⟨[(0, [2, 3]), (1, [4])], []⟩
set_option maxRecDepth 100000 in
theorem F45.ok : compF Try.prog A45 Try.f45 = some F45 := by kernel_rfl
theorem F45.fok : FOk Try.prog 45 F45 := fok_of mixed Try.func45 F45.ok

/-- (*cloakroom/cloakroomref22.Cache).End -/
def F46 : SFn := ⟨.seq (.region [⟨some 5, none, .box (.t 2)⟩,
    ⟨some 6, none, .mov (.c (.int .i64 0))⟩] [0, 1, 5])
   (.seq (.region [⟨some 8, none, .mov (.t 0)⟩,
    ⟨some 9, none, .mov (.t 1)⟩,
    ⟨some 10, none, .call 66 [.t 8, .t 9]⟩,
    ⟨some 7, none, .mov (.t 10)⟩] [0, 5, 7])
   (.seq (.seq (.region [⟨some 11, none, .mov (.t 7)⟩,
    ⟨some 12, none, .bin .lss (.t 11) (.c (.int .i64 0))⟩] [0, 5, 7, 12])
   (.cond (.t 12) (.seq (.region [⟨some 6, none, .mov (.c (.int .i64 1))⟩] [6])
   (.ret)) (.skip)))
   (.seq (.seq (.region [⟨some 13, none, .mov (.t 0)⟩,
    ⟨some 14, none, .nilc (.t 13)⟩,
    ⟨some 15, none, .fa 0 (.t 14)⟩,
    ⟨some 16, none, .ld 1 false (.t 15)⟩,
    ⟨some 17, none, .mov (.t 7)⟩,
    ⟨some 18, none, .iaV 15 (.t 16) (.t 17)⟩,
    ⟨some 19, none, .fa 9 (.t 18)⟩,
    ⟨some 20, none, .ld 1 false (.t 19)⟩] [0, 5, 7, 20])
   (.cond (.t 20) (.seq (.region [⟨some 6, none, .mov (.c (.int .i64 0))⟩] [6])
   (.ret)) (.skip)))
   (.seq (.region [⟨some 21, none, .mov (.t 0)⟩,
    ⟨some 22, none, .bslice 0 15 [.int .u64 0, .int .i64 0, .int .u64 0, .int .u64 0, .string ByteArray.empty, .slice none 0 0, .slice none 0 0, .int .u64 0, .int .u64 0, .bool false, .int .u64 0, .int .i64 0, .int .u64 0, .slice none 0 0, .int .i64 0] []⟩,
    ⟨some 23, none, .mov (.t 0)⟩,
    ⟨some 24, none, .nilc (.t 23)⟩,
    ⟨some 25, none, .fa 0 (.t 24)⟩,
    ⟨some 26, none, .ld 1 false (.t 25)⟩,
    ⟨some 27, none, .app 15 176 (.t 22) (.t 26)⟩,
    ⟨some 28, none, .nilc (.t 21)⟩,
    ⟨some 29, none, .fa 0 (.t 28)⟩,
    ⟨none, none, .st 1 (.t 29) (.t 27)⟩] [0, 5, 7])
   (.seq (.region [⟨some 30, none, .mov (.t 0)⟩,
    ⟨some 31, none, .nilc (.t 30)⟩,
    ⟨some 32, none, .fa 0 (.t 31)⟩,
    ⟨some 33, none, .ld 1 false (.t 32)⟩,
    ⟨some 34, none, .mov (.t 7)⟩,
    ⟨some 35, none, .mov (.t 0)⟩,
    ⟨some 36, none, .nilc (.t 35)⟩,
    ⟨some 37, none, .fa 0 (.t 36)⟩,
    ⟨some 38, none, .ld 1 false (.t 37)⟩,
    ⟨some 39, none, .mov (.t 7)⟩,
    ⟨some 40, none, .ld 4 true (.t 5)⟩,
    ⟨some 41, none, .iaV 15 (.t 33) (.t 34)⟩,
    ⟨some 42, none, .fa 9 (.t 41)⟩,
    ⟨none, none, .st 1 (.t 42) (.c (.bool true))⟩,
    ⟨none, none, .chk 4 true (.t 5) 40⟩,
    ⟨some 43, none, .iaV 15 (.t 38) (.t 39)⟩,
    ⟨some 44, none, .fa 10 (.t 43)⟩,
    ⟨none, none, .st 4 (.t 44) (.t 40)⟩] [0, 7])
   (.seq (.region [⟨some 45, none, .mov (.t 0)⟩,
    ⟨some 46, none, .nilc (.t 45)⟩,
    ⟨some 47, none, .fa 0 (.t 46)⟩,
    ⟨some 48, none, .ld 1 false (.t 47)⟩,
    ⟨some 49, none, .mov (.t 7)⟩,
    ⟨some 50, none, .iaV 15 (.t 48) (.t 49)⟩,
    ⟨some 51, none, .fa 14 (.t 50)⟩,
    ⟨some 52, none, .ld 1 false (.t 51)⟩,
    ⟨some 6, none, .mov (.t 52)⟩] [6])
   (.ret))))))),
  [.t 6], 53, 3⟩
def A46 : Ann := ⟨[(0, [0, 1, 5]), (1, [0, 5, 7]), (2, [0, 5, 7, 12]), (3, [6]), (4, [0, 5, 7, 20]), (5, [6]), (6, [0, 5, 7]), (7, [0, 7]), (8, [6])], [(7, [(0, []), (1, []), (2, []), (3, []), (4, []), (5, []), (6, []), (7, []), (8, []), (9, []), (10, []), (11, []), (12, []), (13, [10]), (14, []), (15, []), (16, [])], [(1, [0]), (2, [0, 1]), (3, [0, 1, 2]), (6, [5]), (7, [5, 6]), (8, [5, 6, 7]), (11, [0, 1, 2, 3, 4, 5, 6, 7, 8]), (12, [0, 1, 2, 3, 4, 5, 6, 7, 8, 11]), (13, [0, 1, 2, 3, 4, 5, 6, 7, 8, 11, 12]), (14, [0, 1, 2, 3, 4, 5, 6, 7, 8, 9, 10, 11, 12, 13]), (15, [0, 1, 2, 3, 4, 5, 6, 7, 8, 9, 10, 11, 12, 13, 14]), (16, [0, 1, 2, 3, 4, 5, 6, 7, 8, 9, 10, 11, 12, 13, 14, 15])])]⟩
set_option maxRecDepth 100000 in
theorem F46.ok : compF Try.prog A46 Try.f46 = some F46 := by kernel_rfl
theorem F46.fok : FOk Try.prog 46 F46 := fok_of mixed Try.func46 F46.ok

/-- (*cloakroom/token.Cache).Copy -/
def F47 : SFn := ⟨.seq (.region [⟨some 2, none, .mov (.c (.pointer none))⟩] [0])
   (.seq (.seq (.region [⟨some 3, none, .mov (.t 0)⟩,
    ⟨some 4, none, .eqk false .ptr (.t 3) (.c (.pointer none))⟩] [0, 4])
   (.cond (.t 4) (.seq (.region [⟨some 2, none, .mov (.c (.pointer none))⟩] [2])
   (.ret)) (.skip)))
   (.seq (.region [⟨some 5, none, .mov (.t 0)⟩,
    ⟨some 6, none, .nilc (.t 5)⟩,
    ⟨some 7, none, .fa 0 (.t 6)⟩,
    ⟨some 8, none, .ld 1 false (.t 7)⟩,
    ⟨some 9, none, .call 68 [.t 8]⟩,
    ⟨some 10, none, .build [.slice none 0 0] [(0, 1, .t 9)]⟩,
    ⟨some 11, none, .box (.t 10)⟩,
    ⟨some 2, none, .mov (.t 11)⟩] [2])
   (.ret))),
  [.t 2], 12, 1⟩
def A47 : Ann := ⟨[(0, [0]), (1, [0, 4]), (2, [2]), (3, [2])], []⟩
set_option maxRecDepth 100000 in
theorem F47.ok : compF Try.prog A47 Try.f47 = some F47 := by kernel_rfl
theorem F47.fok : FOk Try.prog 47 F47 := fok_of mixed Try.func47 F47.ok

/-- (*cloakroom/cloakroomref22.Cache).Tokens -/
def F48 : SFn := ⟨.seq (.region [⟨some 2, none, .mov (.c (.slice none 0 0))⟩] [0])
   (.seq (.region [⟨some 3, none, .mov (.c (.slice none 0 0))⟩] [0, 3])
   (.seq (.seq (.region [⟨some 4, none, .mov (.c (.int .i64 0))⟩] [0, 3, 4])
   (.block 0 (.loop (.seq (.seq (.region [⟨some 5, none, .mov (.t 4)⟩,
    ⟨some 6, none, .mov (.t 0)⟩,
    ⟨some 7, none, .nilc (.t 6)⟩,
    ⟨some 8, none, .fa 0 (.t 7)⟩,
    ⟨some 9, none, .ld 1 false (.t 8)⟩,
    ⟨some 10, none, .lenV (.t 9)⟩,
    ⟨some 11, none, .bin .lss (.t 5) (.t 10)⟩] [0, 3, 4, 11])
   (.cond (.t 11) (.skip) (.exit 0)))
   (.seq (.block 1 (.region [⟨some 14, none, .mov (.t 3)⟩,
    ⟨some 15, none, .mov (.t 0)⟩,
    ⟨some 16, none, .nilc (.t 15)⟩,
    ⟨some 17, none, .fa 0 (.t 16)⟩,
    ⟨some 18, none, .ld 1 false (.t 17)⟩,
    ⟨some 19, none, .mov (.t 4)⟩,
    ⟨some 20, none, .iaV 15 (.t 18) (.t 19)⟩,
    ⟨some 21, none, .fa 0 (.t 20)⟩,
    ⟨some 22, none, .ld 1 false (.t 21)⟩,
    ⟨some 23, none, .bslice 1 1 [.int .u64 0] [(0, 1, .t 22)]⟩,
    ⟨some 24, none, .app 1 8 (.t 14) (.t 23)⟩,
    ⟨some 3, none, .mov (.t 24)⟩] [0, 3, 4]))
   (.region [⟨some 12, none, .mov (.t 4)⟩,
    ⟨some 13, none, .bin .add (.t 12) (.c (.int .i64 1))⟩,
    ⟨some 4, none, .mov (.t 13)⟩] [0, 3, 4]))))))
   (.seq (.region [⟨some 25, none, .mov (.t 3)⟩,
    ⟨some 2, none, .mov (.t 25)⟩] [2])
   (.ret)))),
  [.t 2], 26, 1⟩
def A48 : Ann := ⟨[(0, [0]), (1, [0, 3]), (2, [0, 3, 4]), (3, [0, 3, 4, 11]), (4, [0, 3, 4]), (5, [0, 3, 4]), (6, [2])], []⟩
set_option maxRecDepth 100000 in
theorem F48.ok : compF Try.prog A48 Try.f48 = some F48 := by kernel_rfl
theorem F48.fok : FOk Try.prog 48 F48 := fok_of mixed Try.func48 F48.ok

/-- slices.Concat[[]byte,byte] -/
def F49 : SFn := ⟨.seq (.region [⟨some 2, none, .mov (.c (.slice none 0 0))⟩] [0])
   (.seq (.region [⟨some 3, none, .mov (.c (.int .i64 0))⟩] [0, 3])
   (.seq (.seq (.region [⟨some 9, none, .mov (.t 0)⟩,
    ⟨some 10, none, .lenV (.t 9)⟩,
    ⟨some 11, none, .mov (.c (.int .i64 0))⟩] [0, 3, 9, 10, 11])
   (.block 0 (.loop (.seq (.region [⟨some 12, none, .bin .lss (.t 11) (.t 10)⟩] [0, 3, 9, 10, 11, 12])
   (.seq (.cond (.t 12) (.skip) (.exit 0))
   (.seq (.block 1 (.seq (.region [⟨some 13, none, .iaV 1 (.t 9) (.t 11)⟩,
    ⟨some 14, none, .ld 1 false (.t 13)⟩,
    ⟨some 5, none, .mov (.t 14)⟩] [0, 3, 5, 9, 10, 11])
   (.seq (.region [⟨some 15, none, .mov (.t 3)⟩,
    ⟨some 16, none, .mov (.t 5)⟩,
    ⟨some 17, none, .lenV (.t 16)⟩,
    ⟨some 18, none, .bin .add (.t 15) (.t 17)⟩,
    ⟨some 3, none, .mov (.t 18)⟩] [0, 3, 9, 10, 11])
   (.seq (.region [⟨some 19, none, .mov (.t 3)⟩,
    ⟨some 20, none, .bin .lss (.t 19) (.c (.int .i64 0))⟩] [0, 3, 9, 10, 11, 20])
   (.cond (.t 20) (.region [⟨some 21, none, .bad⟩,
    ⟨none, none, .bad⟩] [0, 3, 9, 10, 11]) (.skip))))))
   (.region [⟨some 22, none, .bin .add (.t 11) (.c (.int .i64 1))⟩,
    ⟨some 11, none, .mov (.t 22)⟩] [0, 3, 9, 10, 11])))))))
   (.seq (.region [⟨some 23, none, .mov (.t 3)⟩,
    ⟨some 24, none, .call 69 [.c (.slice none 0 0), .t 23]⟩,
    ⟨some 6, none, .mov (.t 24)⟩] [0, 6])
   (.seq (.seq (.region [⟨some 25, none, .mov (.t 0)⟩,
    ⟨some 26, none, .lenV (.t 25)⟩,
    ⟨some 27, none, .mov (.c (.int .i64 0))⟩] [6, 25, 26, 27])
   (.block 2 (.loop (.seq (.region [⟨some 28, none, .bin .lss (.t 27) (.t 26)⟩] [6, 25, 26, 27, 28])
   (.seq (.cond (.t 28) (.skip) (.exit 2))
   (.seq (.block 3 (.seq (.region [⟨some 29, none, .iaV 1 (.t 25) (.t 27)⟩,
    ⟨some 30, none, .ld 1 false (.t 29)⟩,
    ⟨some 8, none, .mov (.t 30)⟩] [6, 8, 25, 26, 27])
   (.region [⟨some 31, none, .mov (.t 6)⟩,
    ⟨some 32, none, .mov (.t 8)⟩,
    ⟨some 33, none, .app 1 1 (.t 31) (.t 32)⟩,
    ⟨some 6, none, .mov (.t 33)⟩] [6, 25, 26, 27])))
   (.region [⟨some 34, none, .bin .add (.t 27) (.c (.int .i64 1))⟩,
    ⟨some 27, none, .mov (.t 34)⟩] [6, 25, 26, 27])))))))
   (.seq (.region [⟨some 35, none, .mov (.t 6)⟩,
    ⟨some 2, none, .mov (.t 35)⟩] [2])
   (.ret)))))),
  [.t 2], 36, 1⟩
def A49 : Ann := ⟨[(0, [0]), (1, [0, 3]), (2, [0, 3, 9, 10, 11]), (3, [0, 3, 9, 10, 11, 12]), (4, [0, 3, 5, 9, 10, 11]), (5, [0, 3, 9, 10, 11]), (6, [0, 3, 9, 10, 11, 20]), (7, [0, 3, 9, 10, 11]), (8, [0, 3, 9, 10, 11]), (9, [0, 6]), (10, [6, 25, 26, 27]), (11, [6, 25, 26, 27, 28]), (12, [6, 8, 25, 26, 27]), (13, [6, 25, 26, 27]), (14, [6, 25, 26, 27]), (15, [2])], []⟩
set_option maxRecDepth 100000 in
theorem F49.ok : compF Try.prog A49 Try.f49 = some F49 := by kernel_rfl
theorem F49.fok : FOk Try.prog 49 F49 := fok_of mixed Try.func49 F49.ok

/-- (*cloakroom/frame.bytes).next -/
def F50 : SFn := ⟨.seq (.region [⟨some 2, none, .mov (.c (.slice none 0 0))⟩,
    ⟨some 3, none, .mov (.c (.bool false))⟩,
    ⟨some 4, none, .mov (.c (.bool false))⟩] [0])
   (.seq (.seq (.region [⟨some 6, none, .mov (.t 0)⟩,
    ⟨some 7, none, .nilc (.t 6)⟩,
    ⟨some 8, none, .fa 0 (.t 7)⟩,
    ⟨some 9, none, .ld 1 false (.t 8)⟩,
    ⟨some 10, none, .lenV (.t 9)⟩,
    ⟨some 11, none, .bin .lss (.t 10) (.c (.int .i64 2))⟩] [0, 11])
   (.cond (.t 11) (.seq (.region [⟨some 2, none, .mov (.c (.slice none 0 0))⟩,
    ⟨some 3, none, .mov (.c (.bool false))⟩,
    ⟨some 4, none, .mov (.c (.bool false))⟩] [2, 3, 4])
   (.ret)) (.skip)))
   (.seq (.region [⟨some 12, none, .mov (.t 0)⟩,
    ⟨some 13, none, .nilc (.t 12)⟩,
    ⟨some 14, none, .fa 0 (.t 13)⟩,
    ⟨some 15, none, .ld 1 false (.t 14)⟩,
    ⟨some 16, none, .iaV 1 (.t 15) (.c (.int .i64 0))⟩,
    ⟨some 17, none, .ld 1 false (.t 16)⟩,
    ⟨some 18, none, .conv .i64 (.t 17)⟩,
    ⟨some 19, none, .bin .shl (.t 18) (.c (.int .u64 8))⟩,
    ⟨some 20, none, .mov (.t 0)⟩,
    ⟨some 21, none, .nilc (.t 20)⟩,
    ⟨some 22, none, .fa 0 (.t 21)⟩,
    ⟨some 23, none, .ld 1 false (.t 22)⟩,
    ⟨some 24, none, .iaV 1 (.t 23) (.c (.int .i64 1))⟩,
    ⟨some 25, none, .ld 1 false (.t 24)⟩,
    ⟨some 26, none, .conv .i64 (.t 25)⟩,
    ⟨some 27, none, .bin .or (.t 19) (.t 26)⟩,
    ⟨some 5, none, .mov (.t 27)⟩] [0, 5])
   (.seq (.seq (.region [⟨some 28, none, .mov (.t 5)⟩,
    ⟨some 29, none, .bin .gtr (.t 28) (.c (.int .i64 5000))⟩] [0, 5, 29])
   (.cond (.t 29) (.seq (.region [⟨some 2, none, .mov (.c (.slice none 0 0))⟩,
    ⟨some 3, none, .mov (.c (.bool false))⟩,
    ⟨some 4, none, .mov (.c (.bool true))⟩] [2, 3, 4])
   (.ret)) (.skip)))
   (.seq (.seq (.region [⟨some 30, none, .mov (.t 0)⟩,
    ⟨some 31, none, .nilc (.t 30)⟩,
    ⟨some 32, none, .fa 0 (.t 31)⟩,
    ⟨some 33, none, .ld 1 false (.t 32)⟩,
    ⟨some 34, none, .lenV (.t 33)⟩,
    ⟨some 35, none, .bin .sub (.t 34) (.c (.int .i64 2))⟩,
    ⟨some 36, none, .mov (.t 5)⟩,
    ⟨some 37, none, .bin .lss (.t 35) (.t 36)⟩] [0, 5, 37])
   (.cond (.t 37) (.seq (.region [⟨some 2, none, .mov (.c (.slice none 0 0))⟩,
    ⟨some 3, none, .mov (.c (.bool false))⟩,
    ⟨some 4, none, .mov (.c (.bool false))⟩] [2, 3, 4])
   (.ret)) (.skip)))
   (.seq (.region [⟨some 38, none, .mov (.t 0)⟩,
    ⟨some 39, none, .nilc (.t 38)⟩,
    ⟨some 40, none, .fa 0 (.t 39)⟩,
    ⟨some 41, none, .ld 1 false (.t 40)⟩,
    ⟨some 42, none, .mov (.t 5)⟩,
    ⟨some 43, none, .bin .add (.c (.int .i64 2)) (.t 42)⟩,
    ⟨some 44, none, .slV 1 (.t 41) (some (.c (.int .i64 2))) (some (.t 43)) none⟩,
    ⟨some 45, none, .call 52 [.t 44]⟩,
    ⟨some 2, none, .mov (.t 45)⟩] [0, 2, 5])
   (.seq (.region [⟨some 46, none, .mov (.t 0)⟩,
    ⟨some 47, none, .mov (.t 0)⟩,
    ⟨some 48, none, .nilc (.t 47)⟩,
    ⟨some 49, none, .fa 0 (.t 48)⟩,
    ⟨some 50, none, .ld 1 false (.t 49)⟩,
    ⟨some 51, none, .mov (.t 5)⟩,
    ⟨some 52, none, .bin .add (.c (.int .i64 2)) (.t 51)⟩,
    ⟨some 53, none, .slV 1 (.t 50) (some (.t 52)) none none⟩,
    ⟨some 54, none, .nilc (.t 46)⟩,
    ⟨some 55, none, .fa 0 (.t 54)⟩,
    ⟨none, none, .st 1 (.t 55) (.t 53)⟩] [2])
   (.seq (.region [⟨some 56, none, .mov (.t 2)⟩,
    ⟨some 2, none, .mov (.t 56)⟩,
    ⟨some 3, none, .mov (.c (.bool true))⟩,
    ⟨some 4, none, .mov (.c (.bool false))⟩] [2, 3, 4])
   (.ret)))))))),
  [.t 2, .t 3, .t 4], 57, 1⟩
def A50 : Ann := ⟨[(0, [0]), (1, [0, 11]), (2, [2, 3, 4]), (3, [0, 5]), (4, [0, 5, 29]), (5, [2, 3, 4]), (6, [0, 5, 37]), (7, [2, 3, 4]), (8, [0, 2, 5]), (9, [2]), (10, [2, 3, 4])], [(3, [(0, []), (1, []), (2, []), (3, []), (4, []), (5, []), (6, []), (7, []), (8, []), (9, []), (10, []), (11, []), (12, []), (13, []), (14, []), (15, []), (16, [])], [(1, [0]), (2, [0, 1]), (3, [0, 1, 2]), (4, [0, 1, 2, 3]), (5, [0, 1, 2, 3, 4]), (6, [0, 1, 2, 3, 4, 5]), (7, [0, 1, 2, 3, 4, 5, 6]), (9, [8]), (10, [8, 9]), (11, [8, 9, 10]), (12, [8, 9, 10, 11]), (13, [8, 9, 10, 11, 12]), (14, [8, 9, 10, 11, 12, 13]), (15, [0, 1, 2, 3, 4, 5, 6, 7, 8, 9, 10, 11, 12, 13, 14]), (16, [0, 1, 2, 3, 4, 5, 6, 7, 8, 9, 10, 11, 12, 13, 14, 15])])]⟩
set_option maxRecDepth 100000 in
theorem F50.ok : compF Try.prog A50 Try.f50 = some F50 := by kernel_rfl
theorem F50.fok : FOk Try.prog 50 F50 := fok_of mixed Try.func50 F50.ok

/-- (*cloakroom/frame.bytes).rest -/
def F51 : SFn := ⟨.seq (.region [⟨some 2, none, .mov (.c (.int .i64 0))⟩] [0])
   (.seq (.region [⟨some 3, none, .mov (.t 0)⟩,
    ⟨some 4, none, .nilc (.t 3)⟩,
    ⟨some 5, none, .fa 0 (.t 4)⟩,
    ⟨some 6, none, .ld 1 false (.t 5)⟩,
    ⟨some 7, none, .lenV (.t 6)⟩,
    ⟨some 2, none, .mov (.t 7)⟩] [2])
   (.ret)),
  [.t 2], 8, 1⟩
def A51 : Ann := ⟨[(0, [0]), (1, [2])], []⟩
set_option maxRecDepth 100000 in
theorem F51.ok : compF Try.prog A51 Try.f51 = some F51 := by kernel_rfl
theorem F51.fok : FOk Try.prog 51 F51 := fok_of mixed Try.func51 F51.ok

/-- slices.Clone[[]byte,byte] -/
def F52 : SFn := ⟨.seq (.region [⟨some 2, none, .mov (.c (.slice none 0 0))⟩] [0])
   (.seq (.seq (.region [⟨some 3, none, .mov (.t 0)⟩,
    ⟨some 4, none, .eqk false .slice (.t 3) (.c (.slice none 0 0))⟩] [0, 4])
   (.cond (.t 4) (.seq (.region [⟨some 2, none, .mov (.c (.slice none 0 0))⟩] [2])
   (.ret)) (.skip)))
   (.seq (.region [⟨some 5, none, .bslice 0 1 [.int .u8 0] []⟩,
    ⟨some 6, none, .mov (.t 0)⟩,
    ⟨some 7, none, .app 1 1 (.t 5) (.t 6)⟩,
    ⟨some 2, none, .mov (.t 7)⟩] [2])
   (.ret))),
  [.t 2], 8, 1⟩
def A52 : Ann := ⟨[(0, [0]), (1, [0, 4]), (2, [2]), (3, [2])], []⟩
set_option maxRecDepth 100000 in
theorem F52.ok : compF Try.prog A52 Try.f52 = some F52 := by kernel_rfl
theorem F52.fok : FOk Try.prog 52 F52 := fok_of mixed Try.func52 F52.ok

/-- slices.Contains[[]uint64,uint64] -/
def F53 : SFn := ⟨.seq (.region [⟨some 4, none, .mov (.c (.bool false))⟩] [0, 1])
   (.seq (.region [⟨some 5, none, .mov (.t 0)⟩,
    ⟨some 6, none, .mov (.t 1)⟩,
    ⟨some 7, none, .call 70 [.t 5, .t 6]⟩,
    ⟨some 8, none, .bin .geq (.t 7) (.c (.int .i64 0))⟩,
    ⟨some 4, none, .mov (.t 8)⟩] [4])
   (.ret)),
  [.t 4], 9, 2⟩
def A53 : Ann := ⟨[(0, [0, 1]), (1, [4])], []⟩
set_option maxRecDepth 100000 in
theorem F53.ok : compF Try.prog A53 Try.f53 = some F53 := by kernel_rfl
theorem F53.fok : FOk Try.prog 53 F53 := fok_of mixed Try.func53 F53.ok

/-- (*cloakroom/lock.line).first -/
def F54 : SFn := ⟨.seq (.region [⟨some 2, none, .mov (.c (.int .u64 0))⟩,
    ⟨some 3, none, .mov (.c (.bool false))⟩] [0])
   (.seq (.seq (.region [⟨some 4, none, .mov (.t 0)⟩,
    ⟨some 5, none, .nilc (.t 4)⟩,
    ⟨some 6, none, .fa 0 (.t 5)⟩,
    ⟨some 7, none, .ld 1 false (.t 6)⟩,
    ⟨some 8, none, .lenV (.t 7)⟩,
    ⟨some 9, none, .bin .eql (.t 8) (.c (.int .i64 0))⟩] [0, 9])
   (.cond (.t 9) (.seq (.region [⟨some 2, none, .mov (.c (.int .u64 0))⟩,
    ⟨some 3, none, .mov (.c (.bool false))⟩] [2, 3])
   (.ret)) (.skip)))
   (.seq (.region [⟨some 10, none, .mov (.t 0)⟩,
    ⟨some 11, none, .nilc (.t 10)⟩,
    ⟨some 12, none, .fa 0 (.t 11)⟩,
    ⟨some 13, none, .ld 1 false (.t 12)⟩,
    ⟨some 14, none, .iaV 1 (.t 13) (.c (.int .i64 0))⟩,
    ⟨some 15, none, .ld 1 false (.t 14)⟩,
    ⟨some 2, none, .mov (.t 15)⟩,
    ⟨some 3, none, .mov (.c (.bool true))⟩] [2, 3])
   (.ret))),
  [.t 2, .t 3], 16, 1⟩
def A54 : Ann := ⟨[(0, [0]), (1, [0, 9]), (2, [2, 3]), (3, [2, 3])], []⟩
set_option maxRecDepth 100000 in
theorem F54.ok : compF Try.prog A54 Try.f54 = some F54 := by kernel_rfl
theorem F54.fok : FOk Try.prog 54 F54 := fok_of mixed Try.func54 F54.ok
end Go.Dx.SYtpbibdlmiomhbaa
