/- The readings of functions, printed by a program of the prover's own. -/
import Derived.Test.YtkppbmhpcjjceaaDx19
import Derived.Test.YtkppbmhpcjjceaaChecked
import Derived.Eval
namespace Go.Dx.SYtkppbmhpcjjceaa
open Go.Proofs
set_option linter.unusedVariables false
theorem mixed : Try.prog.follows .mixedOrders = true := Try.checked.mixed
/-- cloakroom/cloakroomlaw3.ReqAll -/
def F3 : SFn := ⟨.seq (.region [⟨some 3, none, .box (.t 0)⟩,
    ⟨some 4, none, .box (.t 1)⟩,
    ⟨some 6, none, .mov (.c (.bool false))⟩] [2, 3, 4])
   (.seq (.seq (.region [⟨some 12, none, .call 12 []⟩,
    ⟨some 13, none, .un .not (.t 12)⟩] [2, 3, 4, 13])
   (.cond (.t 13) (.seq (.region [⟨some 6, none, .mov (.c (.bool false))⟩] [6])
   (.ret)) (.skip)))
   (.seq (.seq (.region [⟨some 14, none, .mov (.t 2)⟩,
    ⟨some 15, none, .lenV (.t 14)⟩,
    ⟨some 16, none, .bin .gtr (.t 15) (.c (.int .i64 300))⟩] [2, 3, 4, 16])
   (.cond (.t 16) (.seq (.region [⟨some 6, none, .mov (.c (.bool true))⟩] [6])
   (.ret)) (.skip)))
   (.seq (.region [⟨some 17, none, .mov (.t 2)⟩,
    ⟨some 18, none, .call 13 [.t 17]⟩,
    ⟨some 7, none, .mov (.t 18)⟩] [2, 3, 4, 7])
   (.seq (.region [⟨some 20, none, .mov (.t 7)⟩,
    ⟨some 21, none, .call 14 [.t 20]⟩,
    ⟨some 19, none, .mov (.t 21)⟩,
    ⟨some 22, none, .ext (.t 19) 0⟩,
    ⟨some 23, none, .ext (.t 19) 1⟩,
    ⟨some 8, none, .new [.int .i64 0, .int .u64 0, .int .u64 0, .string ByteArray.empty, .slice none 0 0, .slice none 0 0, .int .u64 0, .int .u64 0]⟩,
    ⟨none, none, .st 8 (.t 8) (.t 22)⟩,
    ⟨some 9, none, .mov (.t 23)⟩] [2, 3, 4, 7, 8, 9])
   (.seq (.region [⟨some 25, none, .mov (.t 2)⟩,
    ⟨some 26, none, .call 15 [.t 25]⟩,
    ⟨some 24, none, .mov (.t 26)⟩,
    ⟨some 27, none, .ext (.t 24) 0⟩,
    ⟨some 28, none, .ext (.t 24) 1⟩,
    ⟨some 10, none, .new [.int .i64 0, .int .u64 0, .int .u64 0, .string ByteArray.empty, .slice none 0 0, .slice none 0 0, .int .u64 0, .int .u64 0]⟩,
    ⟨none, none, .st 8 (.t 10) (.t 27)⟩,
    ⟨some 11, none, .mov (.t 28)⟩] [2, 3, 4, 7, 8, 9, 10, 11])
   (.seq (.seq (.region [⟨some 29, none, .mov (.t 9)⟩,
    ⟨some 30, none, .mov (.t 11)⟩,
    ⟨some 31, none, .bin .neq (.t 29) (.t 30)⟩,
    ⟨some 32, none, .mov (.t 31)⟩,
    ⟨some 33, some (32, false), .ld 8 true (.t 8)⟩,
    ⟨some 34, some (32, false), .ld 8 true (.t 10)⟩,
    ⟨some 35, some (32, false), .call 16 [.t 33, .t 34]⟩,
    ⟨some 36, some (32, false), .un .not (.t 35)⟩,
    ⟨some 37, none, .pick (.t 32) (.c (.bool true)) (.t 36)⟩,
    ⟨some 38, none, .mov (.t 37)⟩,
    ⟨some 39, some (38, false), .mov (.t 7)⟩,
    ⟨some 40, some (38, false), .mov (.t 2)⟩,
    ⟨some 41, some (38, false), .call 17 [.t 39, .t 40]⟩,
    ⟨some 42, some (38, false), .un .not (.t 41)⟩,
    ⟨some 43, none, .pick (.t 38) (.c (.bool true)) (.t 42)⟩,
    ⟨some 44, none, .mov (.t 43)⟩,
    ⟨some 45, some (44, false), .ld 8 true (.t 3)⟩,
    ⟨some 46, some (44, false), .call 18 [.t 45]⟩,
    ⟨some 47, some (44, false), .un .not (.t 46)⟩,
    ⟨some 48, none, .pick (.t 44) (.c (.bool true)) (.t 47)⟩,
    ⟨some 49, none, .mov (.t 48)⟩,
    ⟨some 50, some (49, false), .ld 8 true (.t 4)⟩,
    ⟨some 51, some (49, false), .call 18 [.t 50]⟩,
    ⟨some 52, some (49, false), .un .not (.t 51)⟩,
    ⟨some 53, none, .pick (.t 49) (.c (.bool true)) (.t 52)⟩] [2, 3, 4, 7, 8, 9, 10, 11, 53])
   (.cond (.t 53) (.seq (.region [⟨some 54, none, .mov (.t 9)⟩,
    ⟨some 55, none, .mov (.t 11)⟩,
    ⟨some 56, none, .bin .eql (.t 54) (.t 55)⟩,
    ⟨some 57, none, .mov (.t 56)⟩,
    ⟨some 58, some (57, true), .ld 8 true (.t 8)⟩,
    ⟨some 59, some (57, true), .ld 8 true (.t 10)⟩,
    ⟨some 60, some (57, true), .call 16 [.t 58, .t 59]⟩,
    ⟨some 61, none, .pick (.t 57) (.t 60) (.c (.bool false))⟩,
    ⟨some 62, none, .mov (.t 61)⟩,
    ⟨some 63, some (62, true), .mov (.t 7)⟩,
    ⟨some 64, some (62, true), .mov (.t 2)⟩,
    ⟨some 65, some (62, true), .call 17 [.t 63, .t 64]⟩,
    ⟨some 66, none, .pick (.t 62) (.t 65) (.c (.bool false))⟩,
    ⟨some 6, none, .mov (.t 66)⟩] [6])
   (.ret)) (.skip)))
   (.seq (.region [⟨some 67, none, .ld 8 true (.t 3)⟩,
    ⟨some 70, none, .ld 8 true (.t 3)⟩,
    ⟨some 68, none, .call 19 [.t 67]⟩,
    ⟨none, none, .chk 8 true (.t 3) 70⟩,
    ⟨some 69, none, .toStr (.t 68)⟩,
    ⟨some 71, none, .call 20 [.t 70]⟩,
    ⟨none, none, .chkS (.t 68) 69⟩,
    ⟨some 72, none, .toStr (.t 71)⟩,
    ⟨some 73, none, .bin .eql (.t 69) (.t 72)⟩,
    ⟨some 74, none, .mov (.t 73)⟩,
    ⟨some 75, some (74, true), .ld 8 true (.t 3)⟩,
    ⟨some 76, some (74, true), .ld 8 true (.t 4)⟩,
    ⟨some 78, some (74, true), .ld 8 true (.t 3)⟩,
    ⟨some 79, some (74, true), .ld 8 true (.t 4)⟩,
    ⟨some 77, some (74, true), .call 21 [.t 75, .t 76]⟩,
    ⟨none, some (74, true), .chk 8 true (.t 3) 78⟩,
    ⟨none, some (74, true), .chk 8 true (.t 4) 79⟩,
    ⟨some 80, some (74, true), .call 16 [.t 78, .t 79]⟩,
    ⟨some 81, some (74, true), .eqk false .bool (.t 77) (.t 80)⟩,
    ⟨some 82, none, .pick (.t 74) (.t 81) (.c (.bool false))⟩,
    ⟨some 6, none, .mov (.t 82)⟩] [6])
   (.ret)))))))),
  [.t 6], 83, 3⟩
def A3 : Ann := ⟨[(0, [2, 3, 4]), (1, [2, 3, 4, 13]), (2, [6]), (3, [2, 3, 4, 16]), (4, [6]), (5, [2, 3, 4, 7]), (6, [2, 3, 4, 7, 8, 9]), (7, [2, 3, 4, 7, 8, 9, 10, 11]), (8, [2, 3, 4, 7, 8, 9, 10, 11, 53]), (9, [6]), (10, [6])], [(10, [(0, []), (3, []), (1, [3]), (2, []), (4, [2]), (5, []), (6, []), (7, []), (8, []), (9, []), (11, []), (12, []), (10, [11, 12]), (13, []), (14, []), (15, []), (16, [])], [(1, [0]), (2, [0, 1]), (4, [0, 1, 3]), (5, [0, 1, 3, 4]), (6, [0, 1, 2, 3, 4, 5]), (7, [0, 1, 2, 3, 4, 5, 6]), (8, [0, 1, 2, 3, 4, 5, 6, 7]), (9, [0, 1, 2, 3, 4, 5, 6, 7]), (10, [0, 1, 2, 3, 4, 5, 6, 7, 8, 9]), (11, [0, 1, 2, 3, 4, 5, 6, 7]), (12, [0, 1, 2, 3, 4, 5, 6, 7]), (13, [0, 1, 2, 3, 4, 5, 6, 7, 8, 9, 10, 11, 12]), (14, [0, 1, 2, 3, 4, 5, 6, 7, 8, 9, 10, 11, 12, 13]), (15, [0, 1, 2, 3, 4, 5, 6, 7, 8, 9, 10, 11, 12, 13, 14]), (16, [0, 1, 2, 3, 4, 5, 6, 7, 8, 9, 10, 11, 12, 13, 14, 15])])]⟩
set_option maxRecDepth 100000 in
theorem F3.ok : compF Try.prog A3 Try.f3 = some F3 := by kernel_rfl
theorem F3.fok : FOk Try.prog 3 F3 := fok_of mixed Try.func3 F3.ok

/-- cloakroom/cloakroomlaw3.ReqBack -/
def F4 : SFn := ⟨.seq (.region [⟨some 4, none, .box (.t 0)⟩,
    ⟨some 8, none, .mov (.c (.bool false))⟩] [1, 2, 3, 4])
   (.seq (.seq (.region [⟨some 21, none, .call 12 []⟩,
    ⟨some 22, none, .un .not (.t 21)⟩] [1, 2, 3, 4, 22])
   (.cond (.t 22) (.seq (.region [⟨some 8, none, .mov (.c (.bool false))⟩] [8])
   (.ret)) (.skip)))
   (.seq (.seq (.region [⟨some 23, none, .ld 8 true (.t 4)⟩,
    ⟨some 24, none, .call 18 [.t 23]⟩,
    ⟨some 25, none, .un .not (.t 24)⟩,
    ⟨some 26, none, .mov (.t 25)⟩,
    ⟨some 27, some (26, false), .mov (.t 3)⟩,
    ⟨some 28, some (26, false), .lenV (.t 27)⟩,
    ⟨some 29, some (26, false), .bin .gtr (.t 28) (.c (.int .i64 300))⟩,
    ⟨some 30, none, .pick (.t 26) (.c (.bool true)) (.t 29)⟩,
    ⟨some 31, none, .mov (.t 30)⟩,
    ⟨some 32, some (31, false), .fa 3 (.t 4)⟩,
    ⟨some 33, some (31, false), .ld 1 false (.t 32)⟩,
    ⟨some 34, some (31, false), .lenS (.t 33)⟩,
    ⟨some 35, some (31, false), .bin .gtr (.t 34) (.c (.int .i64 32))⟩,
    ⟨some 36, none, .pick (.t 31) (.c (.bool true)) (.t 35)⟩,
    ⟨some 37, none, .mov (.t 36)⟩,
    ⟨some 38, some (37, false), .fa 5 (.t 4)⟩,
    ⟨some 39, some (37, false), .ld 1 false (.t 38)⟩,
    ⟨some 40, some (37, false), .lenV (.t 39)⟩,
    ⟨some 41, some (37, false), .bin .gtr (.t 40) (.c (.int .i64 8))⟩,
    ⟨some 42, none, .pick (.t 37) (.c (.bool true)) (.t 41)⟩] [1, 2, 3, 4, 42])
   (.cond (.t 42) (.seq (.region [⟨some 8, none, .mov (.c (.bool true))⟩] [8])
   (.ret)) (.skip)))
   (.seq (.region [⟨some 43, none, .ld 8 true (.t 4)⟩,
    ⟨some 44, none, .call 19 [.t 43]⟩,
    ⟨some 9, none, .mov (.t 44)⟩] [1, 2, 3, 4, 9])
   (.seq (.region [⟨some 46, none, .mov (.t 9)⟩,
    ⟨some 47, none, .call 14 [.t 46]⟩,
    ⟨some 45, none, .mov (.t 47)⟩,
    ⟨some 48, none, .ext (.t 45) 0⟩,
    ⟨some 49, none, .ext (.t 45) 1⟩,
    ⟨some 10, none, .new [.int .i64 0, .int .u64 0, .int .u64 0, .string ByteArray.empty, .slice none 0 0, .slice none 0 0, .int .u64 0, .int .u64 0]⟩,
    ⟨none, none, .st 8 (.t 10) (.t 48)⟩,
    ⟨some 11, none, .mov (.t 49)⟩] [1, 2, 3, 4, 9, 10, 11])
   (.seq (.seq (.region [⟨some 50, none, .mov (.t 11)⟩,
    ⟨some 51, none, .bin .neq (.t 50) (.c (.int .i64 0))⟩,
    ⟨some 52, none, .mov (.t 51)⟩,
    ⟨some 53, some (52, false), .fa 0 (.t 10)⟩,
    ⟨some 54, some (52, false), .ld 1 false (.t 53)⟩,
    ⟨some 55, some (52, false), .fa 0 (.t 4)⟩,
    ⟨some 56, some (52, false), .ld 1 false (.t 55)⟩,
    ⟨some 57, some (52, false), .bin .neq (.t 54) (.t 56)⟩,
    ⟨some 58, none, .pick (.t 52) (.c (.bool true)) (.t 57)⟩,
    ⟨some 59, none, .mov (.t 58)⟩,
    ⟨some 60, some (59, false), .fa 1 (.t 10)⟩,
    ⟨some 61, some (59, false), .ld 1 false (.t 60)⟩,
    ⟨some 62, some (59, false), .fa 1 (.t 4)⟩,
    ⟨some 63, some (59, false), .ld 1 false (.t 62)⟩,
    ⟨some 64, some (59, false), .bin .neq (.t 61) (.t 63)⟩,
    ⟨some 65, none, .pick (.t 59) (.c (.bool true)) (.t 64)⟩] [1, 2, 3, 4, 9, 10, 65])
   (.cond (.t 65) (.seq (.region [⟨some 8, none, .mov (.c (.bool false))⟩] [8])
   (.ret)) (.skip)))
   (.seq (.region [⟨some 67, none, .mov (.t 3)⟩,
    ⟨some 68, none, .call 14 [.t 67]⟩,
    ⟨some 66, none, .mov (.t 68)⟩,
    ⟨some 69, none, .ext (.t 66) 0⟩,
    ⟨some 70, none, .ext (.t 66) 1⟩,
    ⟨some 12, none, .new [.int .i64 0, .int .u64 0, .int .u64 0, .string ByteArray.empty, .slice none 0 0, .slice none 0 0, .int .u64 0, .int .u64 0]⟩,
    ⟨none, none, .st 8 (.t 12) (.t 69)⟩,
    ⟨some 13, none, .mov (.t 70)⟩] [1, 2, 4, 9, 10, 12, 13])
   (.seq (.seq (.region [⟨some 71, none, .mov (.t 13)⟩,
    ⟨some 72, none, .bin .eql (.t 71) (.c (.int .i64 0))⟩] [1, 2, 4, 9, 10, 12, 72])
   (.cond (.t 72) (.seq (.region [⟨some 74, none, .ld 8 true (.t 12)⟩,
    ⟨some 75, none, .call 19 [.t 74]⟩,
    ⟨some 76, none, .call 14 [.t 75]⟩,
    ⟨some 73, none, .mov (.t 76)⟩,
    ⟨some 77, none, .ext (.t 73) 0⟩,
    ⟨some 78, none, .ext (.t 73) 1⟩,
    ⟨some 14, none, .new [.int .i64 0, .int .u64 0, .int .u64 0, .string ByteArray.empty, .slice none 0 0, .slice none 0 0, .int .u64 0, .int .u64 0]⟩,
    ⟨none, none, .st 8 (.t 14) (.t 77)⟩,
    ⟨some 15, none, .mov (.t 78)⟩] [1, 2, 4, 9, 10, 12, 14, 15])
   (.seq (.region [⟨some 79, none, .mov (.t 15)⟩,
    ⟨some 80, none, .bin .neq (.t 79) (.c (.int .i64 0))⟩,
    ⟨some 81, none, .mov (.t 80)⟩,
    ⟨some 82, some (81, false), .ld 8 true (.t 12)⟩,
    ⟨some 83, some (81, false), .ld 8 true (.t 14)⟩,
    ⟨some 84, some (81, false), .call 21 [.t 82, .t 83]⟩,
    ⟨some 85, some (81, false), .un .not (.t 84)⟩,
    ⟨some 86, none, .pick (.t 81) (.c (.bool true)) (.t 85)⟩] [1, 2, 4, 9, 10, 86])
   (.cond (.t 86) (.seq (.region [⟨some 8, none, .mov (.c (.bool false))⟩] [8])
   (.ret)) (.skip)))) (.skip)))
   (.seq (.seq (.region [⟨some 87, none, .fa 0 (.t 4)⟩,
    ⟨some 88, none, .ld 1 false (.t 87)⟩,
    ⟨some 89, none, .bin .eql (.t 88) (.c (.int .i64 1))⟩] [1, 2, 4, 9, 10, 89])
   (.cond (.t 89) (.seq (.region [⟨some 90, none, .fa 4 (.t 10)⟩,
    ⟨some 91, none, .ld 1 false (.t 90)⟩,
    ⟨some 92, none, .toStr (.t 91)⟩,
    ⟨some 93, none, .fa 4 (.t 4)⟩,
    ⟨some 94, none, .ld 1 false (.t 93)⟩,
    ⟨some 95, none, .toStr (.t 94)⟩,
    ⟨some 96, none, .bin .eql (.t 92) (.t 95)⟩,
    ⟨some 8, none, .mov (.t 96)⟩] [8])
   (.ret)) (.skip)))
   (.seq (.region [⟨some 98, none, .mov (.t 9)⟩,
    ⟨some 99, none, .mov (.t 1)⟩,
    ⟨some 100, none, .mov (.t 9)⟩,
    ⟨some 101, none, .lenV (.t 100)⟩,
    ⟨some 102, none, .call 22 [.t 99, .t 101]⟩,
    ⟨some 103, none, .slV 1 (.t 98) none (some (.t 102)) none⟩,
    ⟨some 104, none, .call 14 [.t 103]⟩,
    ⟨some 97, none, .mov (.t 104)⟩,
    ⟨some 105, none, .ext (.t 97) 0⟩,
    ⟨some 106, none, .ext (.t 97) 1⟩,
    ⟨some 16, none, .new [.int .i64 0, .int .u64 0, .int .u64 0, .string ByteArray.empty, .slice none 0 0, .slice none 0 0, .int .u64 0, .int .u64 0]⟩,
    ⟨none, none, .st 8 (.t 16) (.t 105)⟩,
    ⟨some 17, none, .mov (.t 106)⟩] [2, 4, 9, 10, 17])
   (.seq (.region [⟨some 108, none, .bslice 0 1 [.int .u8 0] []⟩,
    ⟨some 109, none, .mov (.t 9)⟩,
    ⟨some 110, none, .app 1 1 (.t 108) (.t 109)⟩,
    ⟨some 111, none, .mov (.t 2)⟩,
    ⟨some 112, none, .bslice 1 1 [.int .u8 0] [(0, 1, .t 111)]⟩,
    ⟨some 113, none, .app 1 1 (.t 110) (.t 112)⟩,
    ⟨some 114, none, .call 14 [.t 113]⟩,
    ⟨some 107, none, .mov (.t 114)⟩,
    ⟨some 115, none, .ext (.t 107) 0⟩,
    ⟨some 116, none, .ext (.t 107) 1⟩,
    ⟨some 18, none, .new [.int .i64 0, .int .u64 0, .int .u64 0, .string ByteArray.empty, .slice none 0 0, .slice none 0 0, .int .u64 0, .int .u64 0]⟩,
    ⟨none, none, .st 8 (.t 18) (.t 115)⟩,
    ⟨some 19, none, .mov (.t 116)⟩] [4, 10, 17, 19])
   (.seq (.region [⟨some 117, none, .fa 2 (.t 10)⟩,
    ⟨some 118, none, .ld 1 false (.t 117)⟩,
    ⟨some 119, none, .fa 2 (.t 4)⟩,
    ⟨some 120, none, .ld 1 false (.t 119)⟩,
    ⟨some 121, none, .bin .eql (.t 118) (.t 120)⟩,
    ⟨some 122, none, .mov (.t 121)⟩,
    ⟨some 123, some (122, true), .fa 3 (.t 10)⟩,
    ⟨some 124, some (122, true), .ld 1 false (.t 123)⟩,
    ⟨some 125, some (122, true), .fa 3 (.t 4)⟩,
    ⟨some 126, some (122, true), .ld 1 false (.t 125)⟩,
    ⟨some 127, some (122, true), .bin .eql (.t 124) (.t 126)⟩,
    ⟨some 128, none, .pick (.t 122) (.t 127) (.c (.bool false))⟩,
    ⟨some 20, none, .mov (.t 128)⟩] [4, 10, 17, 19, 20])
   (.seq (.seq (.region [⟨some 129, none, .fa 0 (.t 4)⟩,
    ⟨some 130, none, .ld 1 false (.t 129)⟩] [4, 10, 17, 19, 20, 130])
   (.block 0 (.seq (.region [⟨some 132, none, .bin .eql (.t 130) (.c (.int .i64 3))⟩,
    ⟨some 131, none, .mov (.t 132)⟩] [4, 10, 17, 19, 20, 130, 131])
   (.cond (.t 131) (.region [⟨some 133, none, .fa 3 (.t 10)⟩,
    ⟨some 134, none, .ld 1 false (.t 133)⟩,
    ⟨some 135, none, .fa 3 (.t 4)⟩,
    ⟨some 136, none, .ld 1 false (.t 135)⟩,
    ⟨some 137, none, .bin .eql (.t 134) (.t 136)⟩,
    ⟨some 20, none, .mov (.t 137)⟩] [17, 19, 20]) (.seq (.region [⟨some 139, none, .bin .eql (.t 130) (.c (.int .i64 4))⟩,
    ⟨some 138, none, .mov (.t 139)⟩] [4, 10, 17, 19, 20, 130, 138])
   (.cond (.t 138) (.region [⟨some 140, none, .mov (.t 20)⟩,
    ⟨some 141, none, .mov (.t 140)⟩,
    ⟨some 142, some (141, true), .fa 5 (.t 10)⟩,
    ⟨some 143, some (141, true), .ld 1 false (.t 142)⟩,
    ⟨some 144, some (141, true), .fa 5 (.t 4)⟩,
    ⟨some 145, some (141, true), .ld 1 false (.t 144)⟩,
    ⟨some 146, some (141, true), .call 23 [.t 143, .t 145]⟩,
    ⟨some 147, none, .pick (.t 141) (.t 146) (.c (.bool false))⟩,
    ⟨some 148, none, .mov (.t 147)⟩,
    ⟨some 149, some (148, true), .fa 6 (.t 10)⟩,
    ⟨some 150, some (148, true), .ld 1 false (.t 149)⟩,
    ⟨some 151, some (148, true), .fa 6 (.t 4)⟩,
    ⟨some 152, some (148, true), .ld 1 false (.t 151)⟩,
    ⟨some 153, some (148, true), .bin .eql (.t 150) (.t 152)⟩,
    ⟨some 154, none, .pick (.t 148) (.t 153) (.c (.bool false))⟩,
    ⟨some 20, none, .mov (.t 154)⟩] [17, 19, 20]) (.seq (.region [⟨some 156, none, .bin .eql (.t 130) (.c (.int .i64 5))⟩,
    ⟨some 155, none, .mov (.t 156)⟩] [4, 10, 17, 19, 20, 130, 155])
   (.cond (.t 155) (.region [⟨some 157, none, .fa 2 (.t 10)⟩,
    ⟨some 158, none, .ld 1 false (.t 157)⟩,
    ⟨some 159, none, .fa 2 (.t 4)⟩,
    ⟨some 160, none, .ld 1 false (.t 159)⟩,
    ⟨some 161, none, .bin .eql (.t 158) (.t 160)⟩,
    ⟨some 20, none, .mov (.t 161)⟩] [17, 19, 20]) (.seq (.region [⟨some 163, none, .bin .eql (.t 130) (.c (.int .i64 6))⟩,
    ⟨some 162, none, .mov (.t 163)⟩] [4, 10, 17, 19, 20, 162])
   (.cond (.t 162) (.region [⟨some 164, none, .fa 7 (.t 10)⟩,
    ⟨some 165, none, .ld 1 false (.t 164)⟩,
    ⟨some 166, none, .fa 7 (.t 4)⟩,
    ⟨some 167, none, .ld 1 false (.t 166)⟩,
    ⟨some 168, none, .bin .eql (.t 165) (.t 167)⟩,
    ⟨some 20, none, .mov (.t 168)⟩] [17, 19, 20]) (.skip)))))))))))
   (.seq (.region [⟨some 169, none, .mov (.t 20)⟩,
    ⟨some 170, none, .mov (.t 169)⟩,
    ⟨some 171, some (170, true), .mov (.t 17)⟩,
    ⟨some 172, some (170, true), .bin .eql (.t 171) (.c (.int .i64 3))⟩,
    ⟨some 173, none, .pick (.t 170) (.t 172) (.c (.bool false))⟩,
    ⟨some 174, none, .mov (.t 173)⟩,
    ⟨some 175, some (174, true), .mov (.t 19)⟩,
    ⟨some 176, some (174, true), .bin .eql (.t 175) (.c (.int .i64 2))⟩,
    ⟨some 177, none, .pick (.t 174) (.t 176) (.c (.bool false))⟩,
    ⟨some 8, none, .mov (.t 177)⟩] [8])
   (.ret)))))))))))))),
  [.t 8], 178, 4⟩
def A4 : Ann := ⟨[(0, [1, 2, 3, 4]), (1, [1, 2, 3, 4, 22]), (2, [8]), (3, [1, 2, 3, 4, 42]), (4, [8]), (5, [1, 2, 3, 4, 9]), (6, [1, 2, 3, 4, 9, 10, 11]), (7, [1, 2, 3, 4, 9, 10, 65]), (8, [8]), (9, [1, 2, 4, 9, 10, 12, 13]), (10, [1, 2, 4, 9, 10, 12, 72]), (11, [1, 2, 4, 9, 10, 12, 14, 15]), (12, [1, 2, 4, 9, 10, 86]), (13, [8]), (14, [1, 2, 4, 9, 10, 89]), (15, [8]), (16, [2, 4, 9, 10, 17]), (17, [4, 10, 17, 19]), (18, [4, 10, 17, 19, 20]), (19, [4, 10, 17, 19, 20, 130]), (20, [4, 10, 17, 19, 20, 130, 131]), (21, [17, 19, 20]), (22, [4, 10, 17, 19, 20, 130, 138]), (23, [17, 19, 20]), (24, [4, 10, 17, 19, 20, 130, 155]), (25, [17, 19, 20]), (26, [4, 10, 17, 19, 20, 162]), (27, [17, 19, 20]), (28, [8])], []⟩
set_option maxRecDepth 100000 in
theorem F4.ok : compF Try.prog A4 Try.f4 = some F4 := by kernel_rfl
theorem F4.fok : FOk Try.prog 4 F4 := fok_of mixed Try.func4 F4.ok

/-- cloakroom/cloakroomlaw3.ReplyBack -/
def F5 : SFn := ⟨.seq (.region [⟨some 3, none, .box (.t 0)⟩,
    ⟨some 6, none, .mov (.c (.bool false))⟩] [1, 2, 3])
   (.seq (.seq (.region [⟨some 14, none, .call 12 []⟩,
    ⟨some 15, none, .un .not (.t 14)⟩] [1, 2, 3, 15])
   (.cond (.t 15) (.seq (.region [⟨some 6, none, .mov (.c (.bool false))⟩] [6])
   (.ret)) (.skip)))
   (.seq (.seq (.region [⟨some 16, none, .fa 3 (.t 3)⟩,
    ⟨some 17, none, .ld 1 false (.t 16)⟩,
    ⟨some 18, none, .lenV (.t 17)⟩,
    ⟨some 19, none, .bin .gtr (.t 18) (.c (.int .i64 8))⟩,
    ⟨some 20, none, .mov (.t 19)⟩,
    ⟨some 21, some (20, false), .fa 1 (.t 3)⟩,
    ⟨some 22, some (20, false), .ld 1 false (.t 21)⟩,
    ⟨some 23, some (20, false), .bin .lss (.t 22) (.c (.int .i64 0))⟩,
    ⟨some 24, none, .pick (.t 20) (.c (.bool true)) (.t 23)⟩,
    ⟨some 25, none, .mov (.t 24)⟩,
    ⟨some 26, some (25, false), .fa 1 (.t 3)⟩,
    ⟨some 27, some (25, false), .ld 1 false (.t 26)⟩,
    ⟨some 28, some (25, false), .bin .gtr (.t 27) (.c (.int .i64 17))⟩,
    ⟨some 29, none, .pick (.t 25) (.c (.bool true)) (.t 28)⟩] [1, 2, 3, 29])
   (.cond (.t 29) (.seq (.region [⟨some 6, none, .mov (.c (.bool true))⟩] [6])
   (.ret)) (.skip)))
   (.seq (.region [⟨some 30, none, .ld 4 true (.t 3)⟩,
    ⟨some 31, none, .call 24 [.t 30]⟩,
    ⟨some 7, none, .mov (.t 31)⟩] [1, 2, 3, 7])
   (.seq (.region [⟨some 33, none, .mov (.t 7)⟩,
    ⟨some 34, none, .call 25 [.t 33]⟩,
    ⟨some 32, none, .mov (.t 34)⟩,
    ⟨some 35, none, .ext (.t 32) 0⟩,
    ⟨some 36, none, .ext (.t 32) 1⟩,
    ⟨some 8, none, .new [.int .u64 0, .int .i64 0, .int .u64 0, .slice none 0 0]⟩,
    ⟨none, none, .st 4 (.t 8) (.t 35)⟩,
    ⟨some 9, none, .mov (.t 36)⟩] [1, 2, 3, 7, 8, 9])
   (.seq (.region [⟨some 38, none, .mov (.t 7)⟩,
    ⟨some 39, none, .mov (.t 1)⟩,
    ⟨some 40, none, .mov (.t 7)⟩,
    ⟨some 41, none, .lenV (.t 40)⟩,
    ⟨some 42, none, .call 22 [.t 39, .t 41]⟩,
    ⟨some 43, none, .slV 1 (.t 38) none (some (.t 42)) none⟩,
    ⟨some 44, none, .call 25 [.t 43]⟩,
    ⟨some 37, none, .mov (.t 44)⟩,
    ⟨some 45, none, .ext (.t 37) 0⟩,
    ⟨some 46, none, .ext (.t 37) 1⟩,
    ⟨some 10, none, .new [.int .u64 0, .int .i64 0, .int .u64 0, .slice none 0 0]⟩,
    ⟨none, none, .st 4 (.t 10) (.t 45)⟩,
    ⟨some 11, none, .mov (.t 46)⟩] [2, 3, 7, 8, 9, 11])
   (.seq (.region [⟨some 48, none, .bslice 0 1 [.int .u8 0] []⟩,
    ⟨some 49, none, .mov (.t 7)⟩,
    ⟨some 50, none, .app 1 1 (.t 48) (.t 49)⟩,
    ⟨some 51, none, .mov (.t 2)⟩,
    ⟨some 52, none, .bslice 1 1 [.int .u8 0] [(0, 1, .t 51)]⟩,
    ⟨some 53, none, .app 1 1 (.t 50) (.t 52)⟩,
    ⟨some 54, none, .call 25 [.t 53]⟩,
    ⟨some 47, none, .mov (.t 54)⟩,
    ⟨some 55, none, .ext (.t 47) 0⟩,
    ⟨some 56, none, .ext (.t 47) 1⟩,
    ⟨some 12, none, .new [.int .u64 0, .int .i64 0, .int .u64 0, .slice none 0 0]⟩,
    ⟨none, none, .st 4 (.t 12) (.t 55)⟩,
    ⟨some 13, none, .mov (.t 56)⟩] [3, 8, 9, 11, 13])
   (.seq (.region [⟨some 57, none, .mov (.t 9)⟩,
    ⟨some 58, none, .bin .eql (.t 57) (.c (.int .i64 0))⟩,
    ⟨some 59, none, .mov (.t 58)⟩,
    ⟨some 60, some (59, true), .ld 4 true (.t 8)⟩,
    ⟨some 61, some (59, true), .ld 4 true (.t 3)⟩,
    ⟨some 62, some (59, true), .call 26 [.t 60, .t 61]⟩,
    ⟨some 63, none, .pick (.t 59) (.t 62) (.c (.bool false))⟩,
    ⟨some 64, none, .mov (.t 63)⟩,
    ⟨some 65, some (64, true), .mov (.t 11)⟩,
    ⟨some 66, some (64, true), .bin .eql (.t 65) (.c (.int .i64 3))⟩,
    ⟨some 67, none, .pick (.t 64) (.t 66) (.c (.bool false))⟩,
    ⟨some 68, none, .mov (.t 67)⟩,
    ⟨some 69, some (68, true), .mov (.t 13)⟩,
    ⟨some 70, some (68, true), .bin .eql (.t 69) (.c (.int .i64 2))⟩,
    ⟨some 71, none, .pick (.t 68) (.t 70) (.c (.bool false))⟩,
    ⟨some 6, none, .mov (.t 71)⟩] [6])
   (.ret)))))))),
  [.t 6], 72, 3⟩
def A5 : Ann := ⟨[(0, [1, 2, 3]), (1, [1, 2, 3, 15]), (2, [6]), (3, [1, 2, 3, 29]), (4, [6]), (5, [1, 2, 3, 7]), (6, [1, 2, 3, 7, 8, 9]), (7, [2, 3, 7, 8, 9, 11]), (8, [3, 8, 9, 11, 13]), (9, [6])], []⟩
set_option maxRecDepth 100000 in
theorem F5.ok : compF Try.prog A5 Try.f5 = some F5 := by kernel_rfl
theorem F5.fok : FOk Try.prog 5 F5 := fok_of mixed Try.func5 F5.ok

/-- cloakroom/cloakroomlaw3.ReqForms -/
def F6 : SFn := ⟨.seq (.region [⟨some 0, none, .mov (.c (.bool false))⟩] [])
   (.seq (.seq (.region [⟨some 7, none, .call 12 []⟩,
    ⟨some 8, none, .un .not (.t 7)⟩] [8])
   (.cond (.t 8) (.seq (.region [⟨some 0, none, .mov (.c (.bool false))⟩] [0])
   (.ret)) (.skip)))
   (.seq (.region [⟨some 1, none, .mov (.c (.string { data := #[0, 0, 0, 0, 0, 0, 0, 9] }))⟩] [1])
   (.seq (.region [⟨some 9, none, .mov (.t 1)⟩,
    ⟨some 10, none, .bin .add (.c (.string { data := #[7] })) (.t 9)⟩,
    ⟨some 11, none, .mov (.t 1)⟩,
    ⟨some 12, none, .bin .add (.c (.string { data := #[5] })) (.t 11)⟩,
    ⟨some 13, none, .mov (.t 1)⟩,
    ⟨some 14, none, .bin .add (.c (.string { data := #[5] })) (.t 13)⟩,
    ⟨some 15, none, .bin .add (.t 14) (.c (.string { data := #[3] }))⟩,
    ⟨some 16, none, .mov (.t 1)⟩,
    ⟨some 17, none, .bin .add (.c (.string { data := #[5] })) (.t 16)⟩,
    ⟨some 18, none, .bin .add (.t 17) (.c (.string { data := #[3, 0] }))⟩,
    ⟨some 19, none, .mov (.t 1)⟩,
    ⟨some 20, none, .bin .add (.c (.string { data := #[3] })) (.t 19)⟩,
    ⟨some 21, none, .bin .add (.t 20) (.c (.string { data := #[2, 97, 98] }))⟩,
    ⟨some 22, none, .mov (.t 1)⟩,
    ⟨some 23, none, .bin .add (.c (.string { data := #[3] })) (.t 22)⟩,
    ⟨some 24, none, .bin .add (.t 23) (.c (.string { data := #[33] }))⟩,
    ⟨some 25, none, .mov (.t 1)⟩,
    ⟨some 26, none, .bin .add (.c (.string { data := #[4] })) (.t 25)⟩,
    ⟨some 27, none, .bin .add (.t 26) (.c (.string { data := #[1, 1, 97, 9] }))⟩,
    ⟨some 28, none, .mov (.t 1)⟩,
    ⟨some 29, none, .bin .add (.c (.string { data := #[4] })) (.t 28)⟩,
    ⟨some 30, none, .bin .add (.t 29) (.c (.string { data := #[1, 1, 97, 1, 5, 0] }))⟩,
    ⟨some 31, none, .mov (.t 1)⟩,
    ⟨some 32, none, .bin .add (.c (.string { data := #[1] })) (.t 31)⟩,
    ⟨some 33, none, .mov (.t 1)⟩,
    ⟨some 34, none, .bin .add (.c (.string { data := #[6] })) (.t 33)⟩,
    ⟨some 35, none, .mov (.t 1)⟩,
    ⟨some 36, none, .bin .add (.t 34) (.t 35)⟩,
    ⟨some 37, none, .mov (.t 1)⟩,
    ⟨some 38, none, .bin .add (.c (.string { data := #[6] })) (.t 37)⟩,
    ⟨some 39, none, .bin .add (.t 38) (.c (.string { data := #[0] }))⟩,
    ⟨some 40, none, .bslice 13 1 [.string ByteArray.empty] [(0, 1, .c (.string { data := #[] })), (1, 1, .c (.string { data := #[0] })), (2, 1, .t 10), (3, 1, .t 12), (4, 1, .t 15), (5, 1, .t 18), (6, 1, .t 21), (7, 1, .t 24), (8, 1, .t 27), (9, 1, .t 30), (10, 1, .t 32), (11, 1, .t 36), (12, 1, .t 39)]⟩,
    ⟨some 2, none, .mov (.t 40)⟩] [2])
   (.seq (.region [⟨some 41, none, .bslice 13 1 [.int .i64 0] [(0, 1, .c (.int .i64 3)), (1, 1, .c (.int .i64 2)), (2, 1, .c (.int .i64 2)), (3, 1, .c (.int .i64 3)), (4, 1, .c (.int .i64 0)), (5, 1, .c (.int .i64 2)), (6, 1, .c (.int .i64 0)), (7, 1, .c (.int .i64 4)), (8, 1, .c (.int .i64 4)), (9, 1, .c (.int .i64 0)), (10, 1, .c (.int .i64 0)), (11, 1, .c (.int .i64 0)), (12, 1, .c (.int .i64 3))]⟩,
    ⟨some 3, none, .mov (.t 41)⟩] [2, 3])
   (.seq (.seq (.region [⟨some 4, none, .mov (.c (.int .i64 0))⟩] [2, 3, 4])
   (.block 0 (.loop (.seq (.seq (.region [⟨some 42, none, .mov (.t 4)⟩,
    ⟨some 43, none, .mov (.t 2)⟩,
    ⟨some 44, none, .lenV (.t 43)⟩,
    ⟨some 45, none, .bin .lss (.t 42) (.t 44)⟩] [2, 3, 4, 45])
   (.cond (.t 45) (.skip) (.exit 0)))
   (.seq (.block 1 (.seq (.region [⟨some 49, none, .mov (.t 2)⟩,
    ⟨some 50, none, .mov (.t 4)⟩,
    ⟨some 51, none, .iaV 1 (.t 49) (.t 50)⟩,
    ⟨some 52, none, .ld 1 false (.t 51)⟩,
    ⟨some 53, none, .toBytes (.t 52)⟩,
    ⟨some 54, none, .call 14 [.t 53]⟩,
    ⟨some 48, none, .mov (.t 54)⟩,
    ⟨some 55, none, .ext (.t 48) 0⟩,
    ⟨some 56, none, .ext (.t 48) 1⟩,
    ⟨some 5, none, .new [.int .i64 0, .int .u64 0, .int .u64 0, .string ByteArray.empty, .slice none 0 0, .slice none 0 0, .int .u64 0, .int .u64 0]⟩,
    ⟨none, none, .st 8 (.t 5) (.t 55)⟩,
    ⟨some 6, none, .mov (.t 56)⟩] [2, 3, 4, 5, 6])
   (.seq (.region [⟨some 57, none, .mov (.t 6)⟩,
    ⟨some 58, none, .mov (.t 3)⟩,
    ⟨some 59, none, .mov (.t 4)⟩,
    ⟨some 60, none, .iaV 1 (.t 58) (.t 59)⟩,
    ⟨some 61, none, .ld 1 false (.t 60)⟩,
    ⟨some 62, none, .bin .neq (.t 57) (.t 61)⟩,
    ⟨some 63, none, .mov (.t 62)⟩,
    ⟨some 64, some (63, false), .mov (.t 6)⟩,
    ⟨some 65, some (63, false), .bin .eql (.t 64) (.c (.int .i64 0))⟩,
    ⟨some 66, some (63, false), .mov (.t 65)⟩,
    ⟨some 67, some (66, true), .fa 1 (.t 5)⟩,
    ⟨some 68, some (66, true), .ld 1 false (.t 67)⟩,
    ⟨some 69, some (66, true), .bin .neq (.t 68) (.c (.int .u64 9))⟩,
    ⟨some 70, some (63, false), .pick (.t 66) (.t 69) (.c (.bool false))⟩,
    ⟨some 71, none, .pick (.t 63) (.c (.bool true)) (.t 70)⟩,
    ⟨some 72, none, .mov (.t 71)⟩,
    ⟨some 73, some (72, false), .mov (.t 6)⟩,
    ⟨some 74, some (72, false), .bin .neq (.t 73) (.c (.int .i64 0))⟩,
    ⟨some 75, some (72, false), .mov (.t 74)⟩,
    ⟨some 76, some (75, true), .fa 0 (.t 5)⟩,
    ⟨some 77, some (75, true), .ld 1 false (.t 76)⟩,
    ⟨some 78, some (75, true), .bin .neq (.t 77) (.c (.int .i64 0))⟩,
    ⟨some 79, some (72, false), .pick (.t 75) (.t 78) (.c (.bool false))⟩,
    ⟨some 80, none, .pick (.t 72) (.c (.bool true)) (.t 79)⟩] [2, 3, 4, 80])
   (.cond (.t 80) (.seq (.region [⟨some 0, none, .mov (.c (.bool false))⟩] [0])
   (.ret)) (.skip)))))
   (.region [⟨some 46, none, .mov (.t 4)⟩,
    ⟨some 47, none, .bin .add (.t 46) (.c (.int .i64 1))⟩,
    ⟨some 4, none, .mov (.t 47)⟩] [2, 3, 4]))))))
   (.seq (.region [⟨some 0, none, .mov (.c (.bool true))⟩] [0])
   (.ret))))))),
  [.t 0], 81, 0⟩
def A6 : Ann := ⟨[(0, []), (1, [8]), (2, [0]), (3, [1]), (4, [2]), (5, [2, 3]), (6, [2, 3, 4]), (7, [2, 3, 4, 45]), (8, [2, 3, 4]), (9, [2, 3, 4, 5, 6]), (10, [2, 3, 4, 80]), (11, [0]), (12, [0])], []⟩
set_option maxRecDepth 100000 in
theorem F6.ok : compF Try.prog A6 Try.f6 = some F6 := by kernel_rfl
theorem F6.fok : FOk Try.prog 6 F6 := fok_of mixed Try.func6 F6.ok

/-- cloakroom/cloakroomlaw3.ReqOne -/
def F7 : SFn := ⟨.seq (.region [⟨some 2, none, .box (.t 0)⟩,
    ⟨some 3, none, .box (.t 1)⟩,
    ⟨some 4, none, .mov (.c (.bool false))⟩] [2, 3])
   (.seq (.seq (.region [⟨some 9, none, .call 12 []⟩,
    ⟨some 10, none, .un .not (.t 9)⟩] [2, 3, 10])
   (.cond (.t 10) (.seq (.region [⟨some 4, none, .mov (.c (.bool false))⟩] [4])
   (.ret)) (.skip)))
   (.seq (.seq (.region [⟨some 11, none, .ld 8 true (.t 2)⟩,
    ⟨some 12, none, .call 18 [.t 11]⟩,
    ⟨some 13, none, .un .not (.t 12)⟩,
    ⟨some 14, none, .mov (.t 13)⟩,
    ⟨some 15, some (14, false), .ld 8 true (.t 3)⟩,
    ⟨some 16, some (14, false), .call 18 [.t 15]⟩,
    ⟨some 17, some (14, false), .un .not (.t 16)⟩,
    ⟨some 18, none, .pick (.t 14) (.c (.bool true)) (.t 17)⟩,
    ⟨some 19, none, .mov (.t 18)⟩,
    ⟨some 20, some (19, false), .fa 3 (.t 2)⟩,
    ⟨some 21, some (19, false), .ld 1 false (.t 20)⟩,
    ⟨some 22, some (19, false), .lenS (.t 21)⟩,
    ⟨some 23, some (19, false), .bin .gtr (.t 22) (.c (.int .i64 32))⟩,
    ⟨some 24, none, .pick (.t 19) (.c (.bool true)) (.t 23)⟩,
    ⟨some 25, none, .mov (.t 24)⟩,
    ⟨some 26, some (25, false), .fa 3 (.t 3)⟩,
    ⟨some 27, some (25, false), .ld 1 false (.t 26)⟩,
    ⟨some 28, some (25, false), .lenS (.t 27)⟩,
    ⟨some 29, some (25, false), .bin .gtr (.t 28) (.c (.int .i64 32))⟩,
    ⟨some 30, none, .pick (.t 25) (.c (.bool true)) (.t 29)⟩,
    ⟨some 31, none, .mov (.t 30)⟩,
    ⟨some 32, some (31, false), .fa 5 (.t 2)⟩,
    ⟨some 33, some (31, false), .ld 1 false (.t 32)⟩,
    ⟨some 34, some (31, false), .lenV (.t 33)⟩,
    ⟨some 35, some (31, false), .bin .gtr (.t 34) (.c (.int .i64 8))⟩,
    ⟨some 36, none, .pick (.t 31) (.c (.bool true)) (.t 35)⟩,
    ⟨some 37, none, .mov (.t 36)⟩,
    ⟨some 38, some (37, false), .fa 5 (.t 3)⟩,
    ⟨some 39, some (37, false), .ld 1 false (.t 38)⟩,
    ⟨some 40, some (37, false), .lenV (.t 39)⟩,
    ⟨some 41, some (37, false), .bin .gtr (.t 40) (.c (.int .i64 8))⟩,
    ⟨some 42, none, .pick (.t 37) (.c (.bool true)) (.t 41)⟩] [2, 3, 42])
   (.cond (.t 42) (.seq (.region [⟨some 4, none, .mov (.c (.bool true))⟩] [4])
   (.ret)) (.skip)))
   (.seq (.region [⟨some 44, none, .ld 8 true (.t 2)⟩,
    ⟨some 45, none, .call 19 [.t 44]⟩,
    ⟨some 46, none, .call 14 [.t 45]⟩,
    ⟨some 43, none, .mov (.t 46)⟩,
    ⟨some 47, none, .ext (.t 43) 0⟩,
    ⟨some 48, none, .ext (.t 43) 1⟩,
    ⟨some 5, none, .new [.int .i64 0, .int .u64 0, .int .u64 0, .string ByteArray.empty, .slice none 0 0, .slice none 0 0, .int .u64 0, .int .u64 0]⟩,
    ⟨none, none, .st 8 (.t 5) (.t 47)⟩,
    ⟨some 6, none, .mov (.t 48)⟩] [2, 3, 5, 6])
   (.seq (.region [⟨some 50, none, .ld 8 true (.t 3)⟩,
    ⟨some 51, none, .call 19 [.t 50]⟩,
    ⟨some 52, none, .call 14 [.t 51]⟩,
    ⟨some 49, none, .mov (.t 52)⟩,
    ⟨some 53, none, .ext (.t 49) 0⟩,
    ⟨some 54, none, .ext (.t 49) 1⟩,
    ⟨some 7, none, .new [.int .i64 0, .int .u64 0, .int .u64 0, .string ByteArray.empty, .slice none 0 0, .slice none 0 0, .int .u64 0, .int .u64 0]⟩,
    ⟨none, none, .st 8 (.t 7) (.t 53)⟩,
    ⟨some 8, none, .mov (.t 54)⟩] [2, 3, 5, 6, 7, 8])
   (.seq (.region [⟨some 55, none, .mov (.t 6)⟩,
    ⟨some 56, none, .bin .eql (.t 55) (.c (.int .i64 0))⟩,
    ⟨some 57, none, .mov (.t 56)⟩,
    ⟨some 58, some (57, true), .mov (.t 8)⟩,
    ⟨some 59, some (57, true), .bin .eql (.t 58) (.c (.int .i64 0))⟩,
    ⟨some 60, none, .pick (.t 57) (.t 59) (.c (.bool false))⟩,
    ⟨some 61, none, .mov (.t 60)⟩,
    ⟨some 62, some (61, true), .ld 8 true (.t 5)⟩,
    ⟨some 63, some (61, true), .ld 8 true (.t 7)⟩,
    ⟨some 65, some (61, true), .ld 8 true (.t 2)⟩,
    ⟨some 68, some (61, true), .ld 8 true (.t 3)⟩,
    ⟨some 64, some (61, true), .call 21 [.t 62, .t 63]⟩,
    ⟨none, some (61, true), .chk 8 true (.t 2) 65⟩,
    ⟨none, some (61, true), .chk 8 true (.t 3) 68⟩,
    ⟨some 66, some (61, true), .call 19 [.t 65]⟩,
    ⟨none, some (61, true), .chk 8 true (.t 3) 68⟩,
    ⟨some 67, some (61, true), .toStr (.t 66)⟩,
    ⟨some 69, some (61, true), .call 19 [.t 68]⟩,
    ⟨none, some (61, true), .chkS (.t 66) 67⟩,
    ⟨some 70, some (61, true), .toStr (.t 69)⟩,
    ⟨some 71, some (61, true), .bin .eql (.t 67) (.t 70)⟩,
    ⟨some 72, some (61, true), .eqk false .bool (.t 64) (.t 71)⟩,
    ⟨some 73, none, .pick (.t 61) (.t 72) (.c (.bool false))⟩,
    ⟨some 74, none, .mov (.t 73)⟩,
    ⟨some 75, some (74, true), .ld 8 true (.t 2)⟩,
    ⟨some 76, some (74, true), .ld 8 true (.t 2)⟩,
    ⟨some 77, some (74, true), .call 21 [.t 75, .t 76]⟩,
    ⟨some 78, none, .pick (.t 74) (.t 77) (.c (.bool false))⟩,
    ⟨some 4, none, .mov (.t 78)⟩] [4])
   (.ret)))))),
  [.t 4], 79, 2⟩
def A7 : Ann := ⟨[(0, [2, 3]), (1, [2, 3, 10]), (2, [4]), (3, [2, 3, 42]), (4, [4]), (5, [2, 3, 5, 6]), (6, [2, 3, 5, 6, 7, 8]), (7, [4])], [(7, [(0, []), (1, []), (2, []), (3, []), (4, []), (5, []), (6, []), (7, []), (8, []), (10, []), (13, []), (9, [10, 13]), (11, [13]), (12, []), (14, [12]), (15, []), (16, []), (17, []), (18, []), (19, []), (20, []), (21, []), (22, []), (23, []), (24, [])], [(1, [0]), (2, [0, 1]), (3, [0, 1, 2]), (4, [0, 1, 2, 3]), (5, [0, 1, 2, 3, 4]), (6, [0, 1, 2, 3, 4, 5]), (7, [0, 1, 2, 3, 4, 5, 6]), (8, [0, 1, 2, 3, 4, 5, 6]), (9, [0, 1, 2, 3, 4, 5, 6, 7, 8]), (10, [0, 1, 2, 3, 4, 5, 6]), (11, [0, 1, 2, 3, 4, 5, 6, 7, 8, 9, 10]), (12, [0, 1, 2, 3, 4, 5, 6, 7, 8, 9, 10, 11]), (13, [0, 1, 2, 3, 4, 5, 6]), (14, [0, 1, 2, 3, 4, 5, 6, 7, 8, 9, 10, 11, 13]), (15, [0, 1, 2, 3, 4, 5, 6, 7, 8, 9, 10, 11, 13, 14]), (16, [0, 1, 2, 3, 4, 5, 6, 7, 8, 9, 10, 11, 12, 13, 14, 15]), (17, [0, 1, 2, 3, 4, 5, 6, 7, 8, 9, 10, 11, 12, 13, 14, 15, 16]), (18, [0, 1, 2, 3, 4, 5, 6, 7, 8, 9, 10, 11, 12, 13, 14, 15, 16, 17]), (19, [0, 1, 2, 3, 4, 5, 6, 7, 8, 9, 10, 11, 12, 13, 14, 15, 16, 17, 18]), (20, [0, 1, 2, 3, 4, 5, 6, 7, 8, 9, 10, 11, 12, 13, 14, 15, 16, 17, 18, 19]), (21, [0, 1, 2, 3, 4, 5, 6, 7, 8, 9, 10, 11, 12, 13, 14, 15, 16, 17, 18, 19]), (22, [0, 1, 2, 3, 4, 5, 6, 7, 8, 9, 10, 11, 12, 13, 14, 15, 16, 17, 18, 19, 20, 21]), (23, [0, 1, 2, 3, 4, 5, 6, 7, 8, 9, 10, 11, 12, 13, 14, 15, 16, 17, 18, 19, 20, 21, 22]), (24, [0, 1, 2, 3, 4, 5, 6, 7, 8, 9, 10, 11, 12, 13, 14, 15, 16, 17, 18, 19, 20, 21, 22, 23])])]⟩
set_option maxRecDepth 100000 in
theorem F7.ok : compF Try.prog A7 Try.f7 = some F7 := by kernel_rfl
theorem F7.fok : FOk Try.prog 7 F7 := fok_of mixed Try.func7 F7.ok

/-- cloakroom/cloakroomlaw26.SessCuts -/
def F8 : SFn := ⟨.seq (.region [⟨some 4, none, .mov (.c (.bool false))⟩] [0, 1])
   (.seq (.seq (.region [⟨some 18, none, .call 27 []⟩,
    ⟨some 19, none, .un .not (.t 18)⟩] [0, 1, 19])
   (.cond (.t 19) (.seq (.region [⟨some 4, none, .mov (.c (.bool false))⟩] [4])
   (.ret)) (.skip)))
   (.seq (.seq (.region [⟨some 20, none, .mov (.t 0)⟩,
    ⟨some 21, none, .lenV (.t 20)⟩,
    ⟨some 22, none, .bin .gtr (.t 21) (.c (.int .i64 8))⟩,
    ⟨some 23, none, .mov (.t 22)⟩,
    ⟨some 24, some (23, false), .mov (.t 1)⟩,
    ⟨some 25, some (23, false), .lenV (.t 24)⟩,
    ⟨some 26, some (23, false), .bin .gtr (.t 25) (.c (.int .i64 60))⟩,
    ⟨some 27, none, .pick (.t 23) (.c (.bool true)) (.t 26)⟩] [0, 1, 27])
   (.cond (.t 27) (.seq (.region [⟨some 4, none, .mov (.c (.bool true))⟩] [4])
   (.ret)) (.skip)))
   (.seq (.region [⟨some 5, none, .mov (.c (.slice none 0 0))⟩] [0, 1, 5])
   (.seq (.seq (.region [⟨some 6, none, .mov (.c (.int .i64 0))⟩] [0, 1, 5, 6])
   (.block 0 (.loop (.seq (.seq (.region [⟨some 28, none, .mov (.t 6)⟩,
    ⟨some 29, none, .mov (.t 0)⟩,
    ⟨some 30, none, .lenV (.t 29)⟩,
    ⟨some 31, none, .bin .lss (.t 28) (.t 30)⟩] [0, 1, 5, 6, 31])
   (.cond (.t 31) (.skip) (.exit 0)))
   (.seq (.block 1 (.seq (.seq (.region [⟨some 34, none, .mov (.t 0)⟩,
    ⟨some 35, none, .mov (.t 6)⟩,
    ⟨some 36, none, .iaV 8 (.t 34) (.t 35)⟩,
    ⟨some 37, none, .fa 0 (.t 36)⟩,
    ⟨some 38, none, .ld 1 false (.t 37)⟩,
    ⟨some 39, none, .bin .lss (.t 38) (.c (.int .i64 1))⟩,
    ⟨some 40, none, .mov (.t 39)⟩,
    ⟨some 41, some (40, false), .mov (.t 0)⟩,
    ⟨some 42, some (40, false), .mov (.t 6)⟩,
    ⟨some 43, some (40, false), .iaV 8 (.t 41) (.t 42)⟩,
    ⟨some 44, some (40, false), .fa 0 (.t 43)⟩,
    ⟨some 45, some (40, false), .ld 1 false (.t 44)⟩,
    ⟨some 46, some (40, false), .bin .gtr (.t 45) (.c (.int .i64 6))⟩,
    ⟨some 47, none, .pick (.t 40) (.c (.bool true)) (.t 46)⟩,
    ⟨some 48, none, .mov (.t 47)⟩,
    ⟨some 49, some (48, false), .mov (.t 0)⟩,
    ⟨some 50, some (48, false), .mov (.t 6)⟩,
    ⟨some 51, some (48, false), .iaV 8 (.t 49) (.t 50)⟩,
    ⟨some 52, some (48, false), .fa 3 (.t 51)⟩,
    ⟨some 53, some (48, false), .ld 1 false (.t 52)⟩,
    ⟨some 54, some (48, false), .lenS (.t 53)⟩,
    ⟨some 55, some (48, false), .bin .gtr (.t 54) (.c (.int .i64 32))⟩,
    ⟨some 56, none, .pick (.t 48) (.c (.bool true)) (.t 55)⟩,
    ⟨some 57, none, .mov (.t 56)⟩,
    ⟨some 58, some (57, false), .mov (.t 0)⟩,
    ⟨some 59, some (57, false), .mov (.t 6)⟩,
    ⟨some 60, some (57, false), .iaV 8 (.t 58) (.t 59)⟩,
    ⟨some 61, some (57, false), .fa 4 (.t 60)⟩,
    ⟨some 62, some (57, false), .ld 1 false (.t 61)⟩,
    ⟨some 63, some (57, false), .lenV (.t 62)⟩,
    ⟨some 64, some (57, false), .bin .gtr (.t 63) (.c (.int .i64 100))⟩,
    ⟨some 65, none, .pick (.t 57) (.c (.bool true)) (.t 64)⟩,
    ⟨some 66, none, .mov (.t 65)⟩,
    ⟨some 67, some (66, false), .mov (.t 0)⟩,
    ⟨some 68, some (66, false), .mov (.t 6)⟩,
    ⟨some 69, some (66, false), .iaV 8 (.t 67) (.t 68)⟩,
    ⟨some 70, some (66, false), .fa 5 (.t 69)⟩,
    ⟨some 71, some (66, false), .ld 1 false (.t 70)⟩,
    ⟨some 72, some (66, false), .lenV (.t 71)⟩,
    ⟨some 73, some (66, false), .bin .gtr (.t 72) (.c (.int .i64 8))⟩,
    ⟨some 74, none, .pick (.t 66) (.c (.bool true)) (.t 73)⟩] [0, 1, 5, 6, 74])
   (.cond (.t 74) (.seq (.region [⟨some 4, none, .mov (.c (.bool true))⟩] [4])
   (.ret)) (.skip)))
   (.region [⟨some 75, none, .mov (.t 5)⟩,
    ⟨some 76, none, .mov (.t 0)⟩,
    ⟨some 77, none, .mov (.t 6)⟩,
    ⟨some 78, none, .iaV 8 (.t 76) (.t 77)⟩,
    ⟨some 79, none, .ld 8 true (.t 78)⟩,
    ⟨some 80, none, .call 20 [.t 79]⟩,
    ⟨some 81, none, .call 28 [.t 80]⟩,
    ⟨some 82, none, .app 1 1 (.t 75) (.t 81)⟩,
    ⟨some 5, none, .mov (.t 82)⟩] [0, 1, 5, 6])))
   (.region [⟨some 32, none, .mov (.t 6)⟩,
    ⟨some 33, none, .bin .add (.t 32) (.c (.int .i64 1))⟩,
    ⟨some 6, none, .mov (.t 33)⟩] [0, 1, 5, 6]))))))
   (.seq (.region [⟨some 83, none, .call 29 [.c (.int .i64 0)]⟩,
    ⟨some 84, none, .call 29 [.c (.int .i64 0)]⟩,
    ⟨some 7, none, .mov (.t 83)⟩,
    ⟨some 8, none, .mov (.t 84)⟩] [0, 1, 5, 7, 8])
   (.seq (.region [⟨some 86, none, .mov (.t 8)⟩,
    ⟨some 87, none, .mov (.t 5)⟩,
    ⟨some 88, none, .call 30 [.t 86, .t 87]⟩,
    ⟨some 85, none, .mov (.t 88)⟩,
    ⟨some 89, none, .ext (.t 85) 0⟩,
    ⟨some 90, none, .ext (.t 85) 1⟩,
    ⟨some 9, none, .mov (.t 89)⟩,
    ⟨some 10, none, .mov (.t 90)⟩] [0, 1, 5, 7, 9])
   (.seq (.region [⟨some 11, none, .mov (.c (.slice none 0 0))⟩] [0, 1, 5, 7, 9, 11])
   (.seq (.seq (.region [⟨some 12, none, .mov (.c (.int .i64 0))⟩] [0, 1, 5, 7, 9, 11, 12])
   (.block 2 (.loop (.seq (.seq (.region [⟨some 91, none, .mov (.t 5)⟩,
    ⟨some 92, none, .lenV (.t 91)⟩,
    ⟨some 93, none, .bin .gtr (.t 92) (.c (.int .i64 0))⟩] [0, 1, 5, 7, 9, 11, 12, 93])
   (.cond (.t 93) (.skip) (.exit 2)))
   (.seq (.block 3 (.seq (.region [⟨some 96, none, .mov (.t 5)⟩,
    ⟨some 97, none, .lenV (.t 96)⟩,
    ⟨some 13, none, .mov (.t 97)⟩] [0, 1, 5, 7, 9, 11, 12, 13])
   (.seq (.seq (.region [⟨some 98, none, .mov (.t 12)⟩,
    ⟨some 99, none, .mov (.t 1)⟩,
    ⟨some 100, none, .lenV (.t 99)⟩,
    ⟨some 101, none, .bin .lss (.t 98) (.t 100)⟩] [0, 1, 5, 7, 9, 11, 12, 13, 101])
   (.cond (.t 101) (.region [⟨some 102, none, .mov (.t 1)⟩,
    ⟨some 103, none, .mov (.t 12)⟩,
    ⟨some 104, none, .iaV 1 (.t 102) (.t 103)⟩,
    ⟨some 105, none, .ld 1 false (.t 104)⟩,
    ⟨some 106, none, .bin .rem (.t 105) (.c (.int .u8 30))⟩,
    ⟨some 107, none, .conv .i64 (.t 106)⟩,
    ⟨some 108, none, .mov (.t 13)⟩,
    ⟨some 109, none, .mn (.t 107) (.t 108)⟩,
    ⟨some 13, none, .mov (.t 109)⟩] [0, 1, 5, 7, 9, 11, 12, 13]) (.skip)))
   (.seq (.region [⟨some 111, none, .mov (.t 7)⟩,
    ⟨some 112, none, .mov (.t 5)⟩,
    ⟨some 113, none, .mov (.t 13)⟩,
    ⟨some 114, none, .slV 1 (.t 112) none (some (.t 113)) none⟩,
    ⟨some 115, none, .call 30 [.t 111, .t 114]⟩,
    ⟨some 110, none, .mov (.t 115)⟩,
    ⟨some 116, none, .ext (.t 110) 0⟩,
    ⟨some 117, none, .ext (.t 110) 1⟩,
    ⟨some 14, none, .mov (.t 116)⟩,
    ⟨some 15, none, .mov (.t 117)⟩] [0, 1, 5, 7, 9, 11, 12, 13, 14, 15])
   (.seq (.seq (.region [⟨some 16, none, .mov (.c (.int .i64 0))⟩] [0, 1, 5, 7, 9, 11, 12, 13, 14, 15, 16])
   (.block 4 (.loop (.seq (.seq (.region [⟨some 118, none, .mov (.t 16)⟩,
    ⟨some 119, none, .mov (.t 15)⟩,
    ⟨some 120, none, .lenV (.t 119)⟩,
    ⟨some 121, none, .bin .lss (.t 118) (.t 120)⟩] [0, 1, 5, 7, 9, 11, 12, 13, 14, 15, 16, 121])
   (.cond (.t 121) (.skip) (.exit 4)))
   (.seq (.block 5 (.seq (.region [⟨some 124, none, .mov (.t 15)⟩,
    ⟨some 125, none, .mov (.t 16)⟩,
    ⟨some 126, none, .iaV 4 (.t 124) (.t 125)⟩,
    ⟨some 127, none, .fa 1 (.t 126)⟩,
    ⟨some 128, none, .ld 1 false (.t 127)⟩,
    ⟨some 129, none, .bin .neq (.t 128) (.c (.int .i64 0))⟩] [0, 1, 5, 7, 9, 11, 12, 13, 14, 15, 16, 129])
   (.cond (.t 129) (.seq (.region [⟨some 4, none, .mov (.c (.bool false))⟩] [4])
   (.ret)) (.skip))))
   (.region [⟨some 122, none, .mov (.t 16)⟩,
    ⟨some 123, none, .bin .add (.t 122) (.c (.int .i64 1))⟩,
    ⟨some 16, none, .mov (.t 123)⟩] [0, 1, 5, 7, 9, 11, 12, 13, 14, 15, 16]))))))
   (.region [⟨some 130, none, .mov (.t 11)⟩,
    ⟨some 131, none, .mov (.t 14)⟩,
    ⟨some 133, none, .mov (.t 5)⟩,
    ⟨some 134, none, .mov (.t 13)⟩,
    ⟨some 135, none, .slV 1 (.t 133) (some (.t 134)) none none⟩,
    ⟨some 132, none, .app 8 104 (.t 130) (.t 131)⟩,
    ⟨none, none, .chkV 1 (.t 133) (some (.t 134)) none none 135⟩,
    ⟨some 11, none, .mov (.t 132)⟩,
    ⟨some 5, none, .mov (.t 135)⟩] [0, 1, 5, 7, 9, 11, 12]))))))
   (.region [⟨some 94, none, .mov (.t 12)⟩,
    ⟨some 95, none, .bin .add (.t 94) (.c (.int .i64 1))⟩,
    ⟨some 12, none, .mov (.t 95)⟩] [0, 1, 5, 7, 9, 11, 12]))))))
   (.seq (.seq (.region [⟨some 136, none, .mov (.t 11)⟩,
    ⟨some 137, none, .lenV (.t 136)⟩,
    ⟨some 138, none, .mov (.t 9)⟩,
    ⟨some 139, none, .lenV (.t 138)⟩,
    ⟨some 140, none, .bin .neq (.t 137) (.t 139)⟩,
    ⟨some 141, none, .mov (.t 140)⟩,
    ⟨some 142, some (141, false), .mov (.t 9)⟩,
    ⟨some 143, some (141, false), .lenV (.t 142)⟩,
    ⟨some 144, some (141, false), .mov (.t 0)⟩,
    ⟨some 145, some (141, false), .lenV (.t 144)⟩,
    ⟨some 146, some (141, false), .bin .neq (.t 143) (.t 145)⟩,
    ⟨some 147, none, .pick (.t 141) (.c (.bool true)) (.t 146)⟩] [0, 9, 11, 147])
   (.cond (.t 147) (.seq (.region [⟨some 4, none, .mov (.c (.bool false))⟩] [4])
   (.ret)) (.skip)))
   (.seq (.seq (.region [⟨some 17, none, .mov (.c (.int .i64 0))⟩] [0, 9, 11, 17])
   (.block 6 (.loop (.seq (.seq (.region [⟨some 148, none, .mov (.t 17)⟩,
    ⟨some 149, none, .mov (.t 9)⟩,
    ⟨some 150, none, .lenV (.t 149)⟩,
    ⟨some 151, none, .bin .lss (.t 148) (.t 150)⟩] [0, 9, 11, 17, 151])
   (.cond (.t 151) (.skip) (.exit 6)))
   (.seq (.block 7 (.seq (.region [⟨some 154, none, .mov (.t 11)⟩,
    ⟨some 155, none, .mov (.t 17)⟩,
    ⟨some 156, none, .iaV 8 (.t 154) (.t 155)⟩,
    ⟨some 157, none, .ld 8 true (.t 156)⟩,
    ⟨some 158, none, .mov (.t 9)⟩,
    ⟨some 159, none, .mov (.t 17)⟩,
    ⟨some 160, none, .iaV 8 (.t 158) (.t 159)⟩,
    ⟨some 161, none, .ld 8 true (.t 160)⟩,
    ⟨some 162, none, .call 16 [.t 157, .t 161]⟩,
    ⟨some 163, none, .un .not (.t 162)⟩,
    ⟨some 164, none, .mov (.t 163)⟩,
    ⟨some 165, some (164, false), .mov (.t 9)⟩,
    ⟨some 166, some (164, false), .mov (.t 17)⟩,
    ⟨some 167, some (164, false), .iaV 8 (.t 165) (.t 166)⟩,
    ⟨some 168, some (164, false), .fa 0 (.t 167)⟩,
    ⟨some 169, some (164, false), .ld 1 false (.t 168)⟩,
    ⟨some 170, some (164, false), .mov (.t 0)⟩,
    ⟨some 171, some (164, false), .mov (.t 17)⟩,
    ⟨some 172, some (164, false), .iaV 8 (.t 170) (.t 171)⟩,
    ⟨some 173, some (164, false), .fa 0 (.t 172)⟩,
    ⟨some 174, some (164, false), .ld 1 false (.t 173)⟩,
    ⟨some 175, some (164, false), .bin .neq (.t 169) (.t 174)⟩,
    ⟨some 176, none, .pick (.t 164) (.c (.bool true)) (.t 175)⟩,
    ⟨some 177, none, .mov (.t 176)⟩,
    ⟨some 178, some (177, false), .mov (.t 9)⟩,
    ⟨some 179, some (177, false), .mov (.t 17)⟩,
    ⟨some 180, some (177, false), .iaV 8 (.t 178) (.t 179)⟩,
    ⟨some 181, some (177, false), .fa 1 (.t 180)⟩,
    ⟨some 182, some (177, false), .ld 1 false (.t 181)⟩,
    ⟨some 183, some (177, false), .mov (.t 0)⟩,
    ⟨some 184, some (177, false), .mov (.t 17)⟩,
    ⟨some 185, some (177, false), .iaV 8 (.t 183) (.t 184)⟩,
    ⟨some 186, some (177, false), .fa 1 (.t 185)⟩,
    ⟨some 187, some (177, false), .ld 1 false (.t 186)⟩,
    ⟨some 188, some (177, false), .bin .neq (.t 182) (.t 187)⟩,
    ⟨some 189, none, .pick (.t 177) (.c (.bool true)) (.t 188)⟩] [0, 9, 11, 17, 189])
   (.cond (.t 189) (.seq (.region [⟨some 4, none, .mov (.c (.bool false))⟩] [4])
   (.ret)) (.skip))))
   (.region [⟨some 152, none, .mov (.t 17)⟩,
    ⟨some 153, none, .bin .add (.t 152) (.c (.int .i64 1))⟩,
    ⟨some 17, none, .mov (.t 153)⟩] [0, 9, 11, 17]))))))
   (.seq (.region [⟨some 4, none, .mov (.c (.bool true))⟩] [4])
   (.ret)))))))))))),
  [.t 4], 190, 2⟩
def A8 : Ann := ⟨[(0, [0, 1]), (1, [0, 1, 19]), (2, [4]), (3, [0, 1, 27]), (4, [4]), (5, [0, 1, 5]), (6, [0, 1, 5, 6]), (7, [0, 1, 5, 6, 31]), (8, [0, 1, 5, 6]), (9, [0, 1, 5, 6, 74]), (10, [4]), (11, [0, 1, 5, 6]), (12, [0, 1, 5, 7, 8]), (13, [0, 1, 5, 7, 9]), (14, [0, 1, 5, 7, 9, 11]), (15, [0, 1, 5, 7, 9, 11, 12]), (16, [0, 1, 5, 7, 9, 11, 12, 93]), (17, [0, 1, 5, 7, 9, 11, 12]), (18, [0, 1, 5, 7, 9, 11, 12, 13]), (19, [0, 1, 5, 7, 9, 11, 12, 13, 101]), (20, [0, 1, 5, 7, 9, 11, 12, 13]), (21, [0, 1, 5, 7, 9, 11, 12, 13, 14, 15]), (22, [0, 1, 5, 7, 9, 11, 12, 13, 14, 15, 16]), (23, [0, 1, 5, 7, 9, 11, 12, 13, 14, 15, 16, 121]), (24, [0, 1, 5, 7, 9, 11, 12, 13, 14, 15, 16]), (25, [0, 1, 5, 7, 9, 11, 12, 13, 14, 15, 16, 129]), (26, [4]), (27, [0, 1, 5, 7, 9, 11, 12]), (28, [0, 9, 11, 147]), (29, [4]), (30, [0, 9, 11, 17]), (31, [0, 9, 11, 17, 151]), (32, [0, 9, 11, 17]), (33, [0, 9, 11, 17, 189]), (34, [4]), (35, [4])], [(27, [(0, []), (1, []), (3, []), (4, []), (5, []), (2, [5]), (6, []), (7, [])], [(2, [0, 1]), (5, [3, 4]), (6, [0, 1, 2]), (7, [0, 1, 2, 3, 4, 5, 6])]),
  (33, [(0, []), (1, []), (2, []), (3, []), (4, []), (5, []), (6, []), (7, []), (8, []), (9, []), (10, []), (11, []), (12, []), (13, []), (14, []), (15, []), (16, []), (17, []), (18, []), (19, []), (20, []), (21, []), (22, []), (23, []), (24, []), (25, []), (26, []), (27, []), (28, []), (29, []), (30, []), (31, []), (32, []), (33, []), (34, []), (35, [])], [(2, [0, 1]), (3, [0, 1, 2]), (6, [4, 5]), (7, [4, 5, 6]), (8, [0, 1, 2, 3, 4, 5, 6, 7]), (9, [0, 1, 2, 3, 4, 5, 6, 7, 8]), (10, [0, 1, 2, 3, 4, 5, 6, 7, 8, 9]), (11, [0, 1, 2, 3, 4, 5, 6, 7, 8, 9, 10]), (12, [0, 1, 2, 3, 4, 5, 6, 7, 8, 9, 10]), (13, [0, 1, 2, 3, 4, 5, 6, 7, 8, 9, 10, 11, 12]), (14, [0, 1, 2, 3, 4, 5, 6, 7, 8, 9, 10, 11, 12, 13]), (15, [0, 1, 2, 3, 4, 5, 6, 7, 8, 9, 10, 11, 12, 13, 14]), (16, [0, 1, 2, 3, 4, 5, 6, 7, 8, 9, 10]), (17, [0, 1, 2, 3, 4, 5, 6, 7, 8, 9, 10]), (18, [0, 1, 2, 3, 4, 5, 6, 7, 8, 9, 10, 16, 17]), (19, [0, 1, 2, 3, 4, 5, 6, 7, 8, 9, 10, 16, 17, 18]), (20, [0, 1, 2, 3, 4, 5, 6, 7, 8, 9, 10, 16, 17, 18, 19]), (21, [0, 1, 2, 3, 4, 5, 6, 7, 8, 9, 10, 11, 12, 13, 14, 15, 16, 17, 18, 19, 20]), (22, [0, 1, 2, 3, 4, 5, 6, 7, 8, 9, 10, 11, 12, 13, 14, 15, 16, 17, 18, 19, 20, 21]), (23, [0, 1, 2, 3, 4, 5, 6, 7, 8, 9, 10, 11, 12, 13, 14, 15, 16, 17, 18, 19, 20, 21, 22]), (24, [0, 1, 2, 3, 4, 5, 6, 7, 8, 9, 10, 11, 12, 13, 14, 15, 16, 17, 18, 19, 20, 21, 22, 23]), (25, [0, 1, 2, 3, 4, 5, 6, 7, 8, 9, 10, 11, 12, 13, 14, 15, 16, 17, 18, 19, 20, 21, 22, 23]), (26, [0, 1, 2, 3, 4, 5, 6, 7, 8, 9, 10, 11, 12, 13, 14, 15, 16, 17, 18, 19, 20, 21, 22, 23, 24, 25]), (27, [0, 1, 2, 3, 4, 5, 6, 7, 8, 9, 10, 11, 12, 13, 14, 15, 16, 17, 18, 19, 20, 21, 22, 23, 24, 25, 26]), (28, [0, 1, 2, 3, 4, 5, 6, 7, 8, 9, 10, 11, 12, 13, 14, 15, 16, 17, 18, 19, 20, 21, 22, 23, 24, 25, 26, 27]), (29, [0, 1, 2, 3, 4, 5, 6, 7, 8, 9, 10, 11, 12, 13, 14, 15, 16, 17, 18, 19, 20, 21, 22, 23]), (30, [0, 1, 2, 3, 4, 5, 6, 7, 8, 9, 10, 11, 12, 13, 14, 15, 16, 17, 18, 19, 20, 21, 22, 23]), (31, [0, 1, 2, 3, 4, 5, 6, 7, 8, 9, 10, 11, 12, 13, 14, 15, 16, 17, 18, 19, 20, 21, 22, 23, 29, 30]), (32, [0, 1, 2, 3, 4, 5, 6, 7, 8, 9, 10, 11, 12, 13, 14, 15, 16, 17, 18, 19, 20, 21, 22, 23, 29, 30, 31]), (33, [0, 1, 2, 3, 4, 5, 6, 7, 8, 9, 10, 11, 12, 13, 14, 15, 16, 17, 18, 19, 20, 21, 22, 23, 29, 30, 31, 32]), (34, [0, 1, 2, 3, 4, 5, 6, 7, 8, 9, 10, 11, 12, 13, 14, 15, 16, 17, 18, 19, 20, 21, 22, 23, 24, 25, 26, 27, 28, 29, 30, 31, 32, 33]), (35, [0, 1, 2, 3, 4, 5, 6, 7, 8, 9, 10, 11, 12, 13, 14, 15, 16, 17, 18, 19, 20, 21, 22, 23, 24, 25, 26, 27, 28, 29, 30, 31, 32, 33, 34])])]⟩
set_option maxRecDepth 100000 in
theorem F8.ok : compF Try.prog A8 Try.f8 = some F8 := by kernel_rfl
theorem F8.fok : FOk Try.prog 8 F8 := fok_of mixed Try.func8 F8.ok

/-- cloakroom/cloakroomlaw26.SessDead -/
def F9 : SFn := ⟨.seq (.region [⟨some 4, none, .mov (.c (.bool false))⟩] [0, 1])
   (.seq (.seq (.region [⟨some 14, none, .call 27 []⟩,
    ⟨some 15, none, .un .not (.t 14)⟩] [0, 1, 15])
   (.cond (.t 15) (.seq (.region [⟨some 4, none, .mov (.c (.bool false))⟩] [4])
   (.ret)) (.skip)))
   (.seq (.seq (.region [⟨some 16, none, .mov (.t 1)⟩,
    ⟨some 17, none, .lenV (.t 16)⟩,
    ⟨some 18, none, .bin .gtr (.t 17) (.c (.int .i64 40))⟩] [0, 1, 18])
   (.cond (.t 18) (.seq (.region [⟨some 4, none, .mov (.c (.bool true))⟩] [4])
   (.ret)) (.skip)))
   (.seq (.region [⟨some 19, none, .mov (.t 0)⟩,
    ⟨some 20, none, .bin .rem (.t 19) (.c (.int .u8 5))⟩,
    ⟨some 21, none, .conv .i64 (.t 20)⟩,
    ⟨some 5, none, .mov (.t 21)⟩] [1, 5])
   (.seq (.region [⟨some 6, none, .mov (.c (.slice none 0 0))⟩] [1, 5, 6])
   (.seq (.seq (.region [⟨some 7, none, .mov (.c (.int .i64 0))⟩] [1, 5, 6, 7])
   (.block 0 (.loop (.seq (.seq (.region [⟨some 22, none, .mov (.t 7)⟩,
    ⟨some 23, none, .mov (.t 5)⟩,
    ⟨some 24, none, .bin .lss (.t 22) (.t 23)⟩] [1, 5, 6, 7, 24])
   (.cond (.t 24) (.skip) (.exit 0)))
   (.seq (.block 1 (.region [⟨some 27, none, .mov (.t 6)⟩,
    ⟨some 28, none, .mov (.t 7)⟩,
    ⟨some 29, none, .conv .u64 (.t 28)⟩,
    ⟨some 30, none, .build [.int .i64 0, .int .u64 0, .int .u64 0, .string ByteArray.empty, .slice none 0 0, .slice none 0 0, .int .u64 0, .int .u64 0] [(0, 1, .c (.int .i64 5)), (2, 1, .t 29)]⟩,
    ⟨some 31, none, .call 20 [.t 30]⟩,
    ⟨some 32, none, .call 28 [.t 31]⟩,
    ⟨some 33, none, .app 1 1 (.t 27) (.t 32)⟩,
    ⟨some 6, none, .mov (.t 33)⟩] [1, 5, 6, 7]))
   (.region [⟨some 25, none, .mov (.t 7)⟩,
    ⟨some 26, none, .bin .add (.t 25) (.c (.int .i64 1))⟩,
    ⟨some 7, none, .mov (.t 26)⟩] [1, 5, 6, 7]))))))
   (.seq (.region [⟨some 34, none, .call 29 [.c (.int .i64 0)]⟩,
    ⟨some 8, none, .mov (.t 34)⟩] [1, 5, 6, 8])
   (.seq (.region [⟨some 36, none, .mov (.t 8)⟩,
    ⟨some 37, none, .mov (.t 6)⟩,
    ⟨some 38, none, .bslice 2 1 [.int .u8 0] [(0, 1, .c (.int .u8 255)), (1, 1, .c (.int .u8 255))]⟩,
    ⟨some 39, none, .app 1 1 (.t 37) (.t 38)⟩,
    ⟨some 40, none, .mov (.t 1)⟩,
    ⟨some 41, none, .app 1 1 (.t 39) (.t 40)⟩,
    ⟨some 42, none, .call 30 [.t 36, .t 41]⟩,
    ⟨some 35, none, .mov (.t 42)⟩,
    ⟨some 43, none, .ext (.t 35) 0⟩,
    ⟨some 44, none, .ext (.t 35) 1⟩,
    ⟨some 9, none, .mov (.t 43)⟩,
    ⟨some 10, none, .mov (.t 44)⟩] [5, 8, 9, 10])
   (.seq (.region [⟨some 46, none, .mov (.t 8)⟩,
    ⟨some 47, none, .build [.int .i64 0, .int .u64 0, .int .u64 0, .string ByteArray.empty, .slice none 0 0, .slice none 0 0, .int .u64 0, .int .u64 0] [(0, 1, .c (.int .i64 5))]⟩,
    ⟨some 48, none, .call 20 [.t 47]⟩,
    ⟨some 49, none, .call 28 [.t 48]⟩,
    ⟨some 50, none, .call 30 [.t 46, .t 49]⟩,
    ⟨some 45, none, .mov (.t 50)⟩,
    ⟨some 51, none, .ext (.t 45) 0⟩,
    ⟨some 52, none, .ext (.t 45) 1⟩,
    ⟨some 11, none, .mov (.t 51)⟩,
    ⟨some 12, none, .mov (.t 52)⟩] [5, 8, 9, 10, 11, 12])
   (.seq (.seq (.region [⟨some 53, none, .mov (.t 9)⟩,
    ⟨some 54, none, .lenV (.t 53)⟩,
    ⟨some 55, none, .mov (.t 5)⟩,
    ⟨some 56, none, .bin .add (.t 55) (.c (.int .i64 1))⟩,
    ⟨some 57, none, .bin .neq (.t 54) (.t 56)⟩,
    ⟨some 58, none, .mov (.t 57)⟩,
    ⟨some 59, some (58, false), .mov (.t 10)⟩,
    ⟨some 60, some (58, false), .lenV (.t 59)⟩,
    ⟨some 61, some (58, false), .mov (.t 5)⟩,
    ⟨some 62, some (58, false), .bin .add (.t 61) (.c (.int .i64 1))⟩,
    ⟨some 63, some (58, false), .bin .neq (.t 60) (.t 62)⟩,
    ⟨some 64, none, .pick (.t 58) (.c (.bool true)) (.t 63)⟩,
    ⟨some 65, none, .mov (.t 64)⟩,
    ⟨some 66, some (65, false), .mov (.t 10)⟩,
    ⟨some 67, some (65, false), .mov (.t 5)⟩,
    ⟨some 68, some (65, false), .iaV 4 (.t 66) (.t 67)⟩,
    ⟨some 69, some (65, false), .fa 1 (.t 68)⟩,
    ⟨some 70, some (65, false), .ld 1 false (.t 69)⟩,
    ⟨some 71, some (65, false), .bin .neq (.t 70) (.c (.int .i64 4))⟩,
    ⟨some 72, none, .pick (.t 65) (.c (.bool true)) (.t 71)⟩,
    ⟨some 73, none, .mov (.t 72)⟩,
    ⟨some 74, some (73, false), .mov (.t 9)⟩,
    ⟨some 75, some (73, false), .mov (.t 5)⟩,
    ⟨some 76, some (73, false), .iaV 8 (.t 74) (.t 75)⟩,
    ⟨some 77, some (73, false), .fa 0 (.t 76)⟩,
    ⟨some 78, some (73, false), .ld 1 false (.t 77)⟩,
    ⟨some 79, some (73, false), .bin .neq (.t 78) (.c (.int .i64 0))⟩,
    ⟨some 80, none, .pick (.t 73) (.c (.bool true)) (.t 79)⟩,
    ⟨some 81, none, .mov (.t 80)⟩,
    ⟨some 82, some (81, false), .mov (.t 8)⟩,
    ⟨some 83, some (81, false), .call 31 [.t 82]⟩,
    ⟨some 84, some (81, false), .un .not (.t 83)⟩,
    ⟨some 85, none, .pick (.t 81) (.c (.bool true)) (.t 84)⟩,
    ⟨some 86, none, .mov (.t 85)⟩,
    ⟨some 87, some (86, false), .mov (.t 11)⟩,
    ⟨some 88, some (86, false), .lenV (.t 87)⟩,
    ⟨some 89, some (86, false), .mov (.t 12)⟩,
    ⟨some 90, some (86, false), .lenV (.t 89)⟩,
    ⟨some 91, some (86, false), .bin .add (.t 88) (.t 90)⟩,
    ⟨some 92, some (86, false), .bin .neq (.t 91) (.c (.int .i64 0))⟩,
    ⟨some 93, none, .pick (.t 86) (.c (.bool true)) (.t 92)⟩] [5, 8, 9, 10, 93])
   (.cond (.t 93) (.seq (.region [⟨some 4, none, .mov (.c (.bool false))⟩] [4])
   (.ret)) (.skip)))
   (.seq (.seq (.region [⟨some 13, none, .mov (.c (.int .i64 0))⟩] [5, 8, 9, 10, 13])
   (.block 2 (.loop (.seq (.seq (.region [⟨some 94, none, .mov (.t 13)⟩,
    ⟨some 95, none, .mov (.t 5)⟩,
    ⟨some 96, none, .bin .lss (.t 94) (.t 95)⟩] [5, 8, 9, 10, 13, 96])
   (.cond (.t 96) (.skip) (.exit 2)))
   (.seq (.block 3 (.seq (.region [⟨some 99, none, .mov (.t 9)⟩,
    ⟨some 100, none, .mov (.t 13)⟩,
    ⟨some 101, none, .iaV 8 (.t 99) (.t 100)⟩,
    ⟨some 102, none, .fa 0 (.t 101)⟩,
    ⟨some 103, none, .ld 1 false (.t 102)⟩,
    ⟨some 104, none, .bin .neq (.t 103) (.c (.int .i64 5))⟩,
    ⟨some 105, none, .mov (.t 104)⟩,
    ⟨some 106, some (105, false), .mov (.t 9)⟩,
    ⟨some 107, some (105, false), .mov (.t 13)⟩,
    ⟨some 108, some (105, false), .iaV 8 (.t 106) (.t 107)⟩,
    ⟨some 109, some (105, false), .fa 2 (.t 108)⟩,
    ⟨some 110, some (105, false), .ld 1 false (.t 109)⟩,
    ⟨some 111, some (105, false), .mov (.t 13)⟩,
    ⟨some 112, some (105, false), .conv .u64 (.t 111)⟩,
    ⟨some 113, some (105, false), .bin .neq (.t 110) (.t 112)⟩,
    ⟨some 114, none, .pick (.t 105) (.c (.bool true)) (.t 113)⟩,
    ⟨some 115, none, .mov (.t 114)⟩,
    ⟨some 116, some (115, false), .mov (.t 10)⟩,
    ⟨some 117, some (115, false), .mov (.t 13)⟩,
    ⟨some 118, some (115, false), .iaV 4 (.t 116) (.t 117)⟩,
    ⟨some 119, some (115, false), .fa 1 (.t 118)⟩,
    ⟨some 120, some (115, false), .ld 1 false (.t 119)⟩,
    ⟨some 121, some (115, false), .bin .neq (.t 120) (.c (.int .i64 0))⟩,
    ⟨some 122, none, .pick (.t 115) (.c (.bool true)) (.t 121)⟩] [5, 8, 9, 10, 13, 122])
   (.cond (.t 122) (.seq (.region [⟨some 4, none, .mov (.c (.bool false))⟩] [4])
   (.ret)) (.skip))))
   (.region [⟨some 97, none, .mov (.t 13)⟩,
    ⟨some 98, none, .bin .add (.t 97) (.c (.int .i64 1))⟩,
    ⟨some 13, none, .mov (.t 98)⟩] [5, 8, 9, 10, 13]))))))
   (.seq (.region [⟨some 123, none, .mov (.t 8)⟩,
    ⟨some 124, none, .build [.int .u64 0, .int .i64 0, .int .u64 0, .slice none 0 0] []⟩,
    ⟨some 125, none, .call 32 [.t 123, .t 124, .c (.int .i64 1)]⟩] [8])
   (.seq (.region [⟨some 126, none, .mov (.t 8)⟩,
    ⟨some 127, none, .build [.int .u64 0, .int .i64 0, .int .u64 0, .slice none 0 0] []⟩,
    ⟨some 128, none, .call 32 [.t 126, .t 127, .c (.int .i64 (-1))]⟩] [8])
   (.seq (.region [⟨some 129, none, .mov (.t 8)⟩,
    ⟨some 130, none, .call 33 [.t 129]⟩,
    ⟨some 131, none, .lenV (.t 130)⟩,
    ⟨some 132, none, .bin .eql (.t 131) (.c (.int .i64 13))⟩,
    ⟨some 4, none, .mov (.t 132)⟩] [4])
   (.ret)))))))))))))),
  [.t 4], 133, 2⟩
def A9 : Ann := ⟨[(0, [0, 1]), (1, [0, 1, 15]), (2, [4]), (3, [0, 1, 18]), (4, [4]), (5, [1, 5]), (6, [1, 5, 6]), (7, [1, 5, 6, 7]), (8, [1, 5, 6, 7, 24]), (9, [1, 5, 6, 7]), (10, [1, 5, 6, 7]), (11, [1, 5, 6, 8]), (12, [5, 8, 9, 10]), (13, [5, 8, 9, 10, 11, 12]), (14, [5, 8, 9, 10, 93]), (15, [4]), (16, [5, 8, 9, 10, 13]), (17, [5, 8, 9, 10, 13, 96]), (18, [5, 8, 9, 10, 13]), (19, [5, 8, 9, 10, 13, 122]), (20, [4]), (21, [8]), (22, [8]), (23, [4])], []⟩
set_option maxRecDepth 100000 in
theorem F9.ok : compF Try.prog A9 Try.f9 = some F9 := by kernel_rfl
theorem F9.fok : FOk Try.prog 9 F9 := fok_of mixed Try.func9 F9.ok

/-- cloakroom/cloakroomlaw26.SessAll -/
def F10 : SFn := ⟨.seq (.region [⟨some 6, none, .box (.t 2)⟩,
    ⟨some 8, none, .mov (.c (.bool false))⟩] [0, 1, 3, 6])
   (.seq (.seq (.region [⟨some 20, none, .call 27 []⟩,
    ⟨some 21, none, .un .not (.t 20)⟩] [0, 1, 3, 6, 21])
   (.cond (.t 21) (.seq (.region [⟨some 8, none, .mov (.c (.bool false))⟩] [8])
   (.ret)) (.skip)))
   (.seq (.seq (.region [⟨some 22, none, .mov (.t 1)⟩,
    ⟨some 23, none, .lenV (.t 22)⟩,
    ⟨some 24, none, .bin .gtr (.t 23) (.c (.int .i64 12))⟩,
    ⟨some 25, none, .mov (.t 24)⟩,
    ⟨some 26, some (25, false), .fa 3 (.t 6)⟩,
    ⟨some 27, some (25, false), .ld 1 false (.t 26)⟩,
    ⟨some 28, some (25, false), .lenV (.t 27)⟩,
    ⟨some 29, some (25, false), .bin .gtr (.t 28) (.c (.int .i64 8))⟩,
    ⟨some 30, none, .pick (.t 25) (.c (.bool true)) (.t 29)⟩,
    ⟨some 31, none, .mov (.t 30)⟩,
    ⟨some 32, some (31, false), .fa 1 (.t 6)⟩,
    ⟨some 33, some (31, false), .ld 1 false (.t 32)⟩,
    ⟨some 34, some (31, false), .bin .lss (.t 33) (.c (.int .i64 0))⟩,
    ⟨some 35, none, .pick (.t 31) (.c (.bool true)) (.t 34)⟩,
    ⟨some 36, none, .mov (.t 35)⟩,
    ⟨some 37, some (36, false), .fa 1 (.t 6)⟩,
    ⟨some 38, some (36, false), .ld 1 false (.t 37)⟩,
    ⟨some 39, some (36, false), .bin .gtr (.t 38) (.c (.int .i64 17))⟩,
    ⟨some 40, none, .pick (.t 36) (.c (.bool true)) (.t 39)⟩,
    ⟨some 41, none, .mov (.t 40)⟩,
    ⟨some 42, some (41, false), .mov (.t 3)⟩,
    ⟨some 43, some (41, false), .bin .gtr (.t 42) (.c (.int .i64 20))⟩,
    ⟨some 44, none, .pick (.t 41) (.c (.bool true)) (.t 43)⟩] [0, 1, 3, 6, 44])
   (.cond (.t 44) (.seq (.region [⟨some 8, none, .mov (.c (.bool true))⟩] [8])
   (.ret)) (.skip)))
   (.seq (.region [⟨some 45, none, .mov (.t 0)⟩,
    ⟨some 46, none, .call 29 [.t 45]⟩,
    ⟨some 47, none, .build [.slice none 0 0, .bool false, .int .u64 0, .slice none 0 0, .slice none 0 0, .slice none 0 0, .slice none 0 0] []⟩,
    ⟨some 48, none, .box (.t 47)⟩,
    ⟨some 9, none, .mov (.t 46)⟩,
    ⟨some 10, none, .mov (.t 48)⟩] [1, 3, 6, 9, 10])
   (.seq (.seq (.region [⟨some 11, none, .mov (.c (.int .i64 0))⟩] [1, 3, 6, 9, 10, 11])
   (.block 0 (.loop (.seq (.seq (.region [⟨some 49, none, .mov (.t 11)⟩,
    ⟨some 50, none, .mov (.t 1)⟩,
    ⟨some 51, none, .lenV (.t 50)⟩,
    ⟨some 52, none, .bin .lss (.t 49) (.t 51)⟩] [1, 3, 6, 9, 10, 11, 52])
   (.cond (.t 52) (.skip) (.exit 0)))
   (.seq (.block 1 (.seq (.seq (.region [⟨some 55, none, .mov (.t 1)⟩,
    ⟨some 56, none, .mov (.t 11)⟩,
    ⟨some 57, none, .iaV 1 (.t 55) (.t 56)⟩,
    ⟨some 58, none, .ld 1 false (.t 57)⟩,
    ⟨some 59, none, .lenV (.t 58)⟩,
    ⟨some 60, none, .bin .gtr (.t 59) (.c (.int .i64 60))⟩] [1, 3, 6, 9, 10, 11, 60])
   (.cond (.t 60) (.seq (.region [⟨some 8, none, .mov (.c (.bool true))⟩] [8])
   (.ret)) (.skip)))
   (.seq (.region [⟨some 62, none, .mov (.t 9)⟩,
    ⟨some 63, none, .mov (.t 1)⟩,
    ⟨some 64, none, .mov (.t 11)⟩,
    ⟨some 65, none, .iaV 1 (.t 63) (.t 64)⟩,
    ⟨some 66, none, .ld 1 false (.t 65)⟩,
    ⟨some 67, none, .call 30 [.t 62, .t 66]⟩,
    ⟨some 61, none, .mov (.t 67)⟩,
    ⟨some 68, none, .ext (.t 61) 0⟩,
    ⟨some 69, none, .ext (.t 61) 1⟩,
    ⟨some 12, none, .mov (.t 68)⟩,
    ⟨some 13, none, .mov (.t 69)⟩] [1, 3, 6, 9, 10, 11, 12, 13])
   (.seq (.region [⟨some 71, none, .mov (.t 10)⟩,
    ⟨some 72, none, .mov (.t 1)⟩,
    ⟨some 73, none, .mov (.t 11)⟩,
    ⟨some 74, none, .iaV 1 (.t 72) (.t 73)⟩,
    ⟨some 75, none, .ld 1 false (.t 74)⟩,
    ⟨some 76, none, .call 34 [.t 71, .t 75]⟩,
    ⟨some 70, none, .mov (.t 76)⟩,
    ⟨some 77, none, .ext (.t 70) 0⟩,
    ⟨some 78, none, .ext (.t 70) 1⟩,
    ⟨some 14, none, .mov (.t 77)⟩,
    ⟨some 15, none, .mov (.t 78)⟩] [1, 3, 6, 9, 10, 11, 12, 13, 14, 15])
   (.seq (.seq (.region [⟨some 79, none, .mov (.t 12)⟩,
    ⟨some 80, none, .lenV (.t 79)⟩,
    ⟨some 81, none, .mov (.t 14)⟩,
    ⟨some 82, none, .lenV (.t 81)⟩,
    ⟨some 83, none, .bin .neq (.t 80) (.t 82)⟩,
    ⟨some 84, none, .mov (.t 83)⟩,
    ⟨some 85, some (84, false), .mov (.t 13)⟩,
    ⟨some 86, some (84, false), .lenV (.t 85)⟩,
    ⟨some 87, some (84, false), .mov (.t 15)⟩,
    ⟨some 88, some (84, false), .lenV (.t 87)⟩,
    ⟨some 89, some (84, false), .bin .neq (.t 86) (.t 88)⟩,
    ⟨some 90, none, .pick (.t 84) (.c (.bool true)) (.t 89)⟩] [1, 3, 6, 9, 10, 11, 12, 13, 14, 15, 90])
   (.cond (.t 90) (.seq (.region [⟨some 8, none, .mov (.c (.bool false))⟩] [8])
   (.ret)) (.skip)))
   (.seq (.seq (.region [⟨some 16, none, .mov (.c (.int .i64 0))⟩] [1, 3, 6, 9, 10, 11, 12, 13, 14, 15, 16])
   (.block 2 (.loop (.seq (.seq (.region [⟨some 91, none, .mov (.t 16)⟩,
    ⟨some 92, none, .mov (.t 14)⟩,
    ⟨some 93, none, .lenV (.t 92)⟩,
    ⟨some 94, none, .bin .lss (.t 91) (.t 93)⟩] [1, 3, 6, 9, 10, 11, 12, 13, 14, 15, 16, 94])
   (.cond (.t 94) (.skip) (.exit 2)))
   (.seq (.block 3 (.seq (.region [⟨some 97, none, .mov (.t 12)⟩,
    ⟨some 98, none, .mov (.t 16)⟩,
    ⟨some 99, none, .iaV 8 (.t 97) (.t 98)⟩,
    ⟨some 100, none, .ld 8 true (.t 99)⟩,
    ⟨some 101, none, .mov (.t 14)⟩,
    ⟨some 102, none, .mov (.t 16)⟩,
    ⟨some 103, none, .iaV 8 (.t 101) (.t 102)⟩,
    ⟨some 104, none, .ld 8 true (.t 103)⟩,
    ⟨some 105, none, .call 16 [.t 100, .t 104]⟩,
    ⟨some 106, none, .un .not (.t 105)⟩,
    ⟨some 107, none, .mov (.t 106)⟩,
    ⟨some 108, some (107, false), .mov (.t 13)⟩,
    ⟨some 109, some (107, false), .mov (.t 16)⟩,
    ⟨some 110, some (107, false), .iaV 4 (.t 108) (.t 109)⟩,
    ⟨some 111, some (107, false), .ld 4 true (.t 110)⟩,
    ⟨some 112, some (107, false), .mov (.t 15)⟩,
    ⟨some 113, some (107, false), .mov (.t 16)⟩,
    ⟨some 114, some (107, false), .iaV 4 (.t 112) (.t 113)⟩,
    ⟨some 115, some (107, false), .ld 4 true (.t 114)⟩,
    ⟨some 116, some (107, false), .call 26 [.t 111, .t 115]⟩,
    ⟨some 117, some (107, false), .un .not (.t 116)⟩,
    ⟨some 118, none, .pick (.t 107) (.c (.bool true)) (.t 117)⟩] [1, 3, 6, 9, 10, 11, 12, 13, 14, 15, 16, 118])
   (.cond (.t 118) (.seq (.region [⟨some 8, none, .mov (.c (.bool false))⟩] [8])
   (.ret)) (.skip))))
   (.region [⟨some 95, none, .mov (.t 16)⟩,
    ⟨some 96, none, .bin .add (.t 95) (.c (.int .i64 1))⟩,
    ⟨some 16, none, .mov (.t 96)⟩] [1, 3, 6, 9, 10, 11, 12, 13, 14, 15, 16]))))))
   (.seq (.region [⟨some 119, none, .mov (.t 9)⟩,
    ⟨some 120, none, .ld 4 true (.t 6)⟩,
    ⟨some 121, none, .mov (.t 3)⟩,
    ⟨some 122, none, .call 32 [.t 119, .t 120, .t 121]⟩] [1, 3, 6, 9, 10, 11])
   (.seq (.region [⟨some 123, none, .mov (.t 10)⟩,
    ⟨some 124, none, .ld 4 true (.t 6)⟩,
    ⟨some 125, none, .mov (.t 3)⟩,
    ⟨some 126, none, .call 35 [.t 123, .t 124, .t 125]⟩] [1, 3, 6, 9, 10, 11])
   (.seq (.region [⟨some 127, none, .mov (.t 9)⟩,
    ⟨some 130, none, .mov (.t 10)⟩,
    ⟨some 131, none, .nilc (.t 130)⟩,
    ⟨some 132, none, .fa 6 (.t 131)⟩,
    ⟨some 133, none, .ld 1 false (.t 132)⟩,
    ⟨some 134, none, .toStr (.t 133)⟩,
    ⟨some 128, none, .call 33 [.t 127]⟩,
    ⟨none, none, .chk 1 false (.t 132) 133⟩,
    ⟨none, none, .chkS (.t 133) 134⟩,
    ⟨some 129, none, .toStr (.t 128)⟩,
    ⟨some 135, none, .bin .neq (.t 129) (.t 134)⟩,
    ⟨some 136, none, .mov (.t 135)⟩,
    ⟨some 137, some (136, false), .mov (.t 9)⟩,
    ⟨some 139, some (136, false), .mov (.t 10)⟩,
    ⟨some 140, some (136, false), .nilc (.t 139)⟩,
    ⟨some 141, some (136, false), .fa 0 (.t 140)⟩,
    ⟨some 142, some (136, false), .fa 1 (.t 141)⟩,
    ⟨some 143, some (136, false), .ld 1 false (.t 142)⟩,
    ⟨some 138, some (136, false), .call 31 [.t 137]⟩,
    ⟨none, some (136, false), .chk 1 false (.t 142) 143⟩,
    ⟨some 144, some (136, false), .eqk true .bool (.t 138) (.t 143)⟩,
    ⟨some 145, none, .pick (.t 136) (.c (.bool true)) (.t 144)⟩] [1, 3, 6, 9, 10, 11, 145])
   (.cond (.t 145) (.seq (.region [⟨some 8, none, .mov (.c (.bool false))⟩] [8])
   (.ret)) (.skip)))))))))))
   (.region [⟨some 53, none, .mov (.t 11)⟩,
    ⟨some 54, none, .bin .add (.t 53) (.c (.int .i64 1))⟩,
    ⟨some 11, none, .mov (.t 54)⟩] [1, 3, 6, 9, 10, 11]))))))
   (.seq (.region [⟨some 17, none, .mov (.c (.pointer none))⟩] [6, 17])
   (.seq (.region [⟨some 146, none, .mov (.t 17)⟩,
    ⟨some 147, none, .ld 4 true (.t 6)⟩,
    ⟨some 148, none, .call 32 [.t 146, .t 147, .c (.int .i64 1)]⟩] [17])
   (.seq (.region [⟨some 150, none, .mov (.t 17)⟩,
    ⟨some 151, none, .bslice 1 1 [.int .u8 0] [(0, 1, .c (.int .u8 1))]⟩,
    ⟨some 152, none, .call 30 [.t 150, .t 151]⟩,
    ⟨some 149, none, .mov (.t 152)⟩,
    ⟨some 153, none, .ext (.t 149) 0⟩,
    ⟨some 154, none, .ext (.t 149) 1⟩,
    ⟨some 18, none, .mov (.t 153)⟩,
    ⟨some 19, none, .mov (.t 154)⟩] [17, 18, 19])
   (.seq (.region [⟨some 155, none, .mov (.t 18)⟩,
    ⟨some 156, none, .lenV (.t 155)⟩,
    ⟨some 157, none, .mov (.t 19)⟩,
    ⟨some 158, none, .lenV (.t 157)⟩,
    ⟨some 159, none, .bin .add (.t 156) (.t 158)⟩,
    ⟨some 160, none, .mov (.t 17)⟩,
    ⟨some 161, none, .call 33 [.t 160]⟩,
    ⟨some 162, none, .lenV (.t 161)⟩,
    ⟨some 163, none, .bin .add (.t 159) (.t 162)⟩,
    ⟨some 164, none, .bin .eql (.t 163) (.c (.int .i64 0))⟩,
    ⟨some 165, none, .mov (.t 164)⟩,
    ⟨some 166, some (165, true), .mov (.t 17)⟩,
    ⟨some 167, some (165, true), .call 31 [.t 166]⟩,
    ⟨some 168, some (165, true), .un .not (.t 167)⟩,
    ⟨some 169, none, .pick (.t 165) (.t 168) (.c (.bool false))⟩,
    ⟨some 170, none, .mov (.t 169)⟩,
    ⟨some 171, some (170, true), .mov (.t 17)⟩,
    ⟨some 172, some (170, true), .call 36 [.t 171]⟩,
    ⟨some 173, some (170, true), .eqk false .ptr (.t 172) (.c (.pointer none))⟩,
    ⟨some 174, none, .pick (.t 170) (.t 173) (.c (.bool false))⟩,
    ⟨some 175, none, .mov (.t 174)⟩,
    ⟨some 176, some (175, true), .mov (.t 17)⟩,
    ⟨some 177, some (175, true), .call 37 [.t 176]⟩,
    ⟨some 178, some (175, true), .eqk false .ptr (.t 177) (.c (.pointer none))⟩,
    ⟨some 179, none, .pick (.t 175) (.t 178) (.c (.bool false))⟩,
    ⟨some 180, none, .mov (.t 179)⟩,
    ⟨some 181, some (180, true), .mov (.t 17)⟩,
    ⟨some 182, some (180, true), .call 38 [.t 181]⟩,
    ⟨some 183, some (180, true), .eqk false .ptr (.t 182) (.c (.pointer none))⟩,
    ⟨some 184, none, .pick (.t 180) (.t 183) (.c (.bool false))⟩,
    ⟨some 8, none, .mov (.t 184)⟩] [8])
   (.ret))))))))),
  [.t 8], 185, 4⟩
def A10 : Ann := ⟨[(0, [0, 1, 3, 6]), (1, [0, 1, 3, 6, 21]), (2, [8]), (3, [0, 1, 3, 6, 44]), (4, [8]), (5, [1, 3, 6, 9, 10]), (6, [1, 3, 6, 9, 10, 11]), (7, [1, 3, 6, 9, 10, 11, 52]), (8, [1, 3, 6, 9, 10, 11]), (9, [1, 3, 6, 9, 10, 11, 60]), (10, [8]), (11, [1, 3, 6, 9, 10, 11, 12, 13]), (12, [1, 3, 6, 9, 10, 11, 12, 13, 14, 15]), (13, [1, 3, 6, 9, 10, 11, 12, 13, 14, 15, 90]), (14, [8]), (15, [1, 3, 6, 9, 10, 11, 12, 13, 14, 15, 16]), (16, [1, 3, 6, 9, 10, 11, 12, 13, 14, 15, 16, 94]), (17, [1, 3, 6, 9, 10, 11, 12, 13, 14, 15, 16]), (18, [1, 3, 6, 9, 10, 11, 12, 13, 14, 15, 16, 118]), (19, [8]), (20, [1, 3, 6, 9, 10, 11]), (21, [1, 3, 6, 9, 10, 11]), (22, [1, 3, 6, 9, 10, 11, 145]), (23, [8]), (24, [6, 17]), (25, [17]), (26, [17, 18, 19]), (27, [8])], [(18, [(0, []), (1, []), (2, []), (3, []), (4, []), (5, []), (6, []), (7, []), (8, []), (9, []), (10, []), (11, []), (12, []), (13, []), (14, []), (15, []), (16, []), (17, []), (18, []), (19, []), (20, []), (21, [])], [(2, [0, 1]), (3, [0, 1, 2]), (6, [4, 5]), (7, [4, 5, 6]), (8, [0, 1, 2, 3, 4, 5, 6, 7]), (9, [0, 1, 2, 3, 4, 5, 6, 7, 8]), (10, [0, 1, 2, 3, 4, 5, 6, 7, 8, 9]), (11, [0, 1, 2, 3, 4, 5, 6, 7, 8, 9, 10]), (12, [0, 1, 2, 3, 4, 5, 6, 7, 8, 9, 10]), (13, [0, 1, 2, 3, 4, 5, 6, 7, 8, 9, 10, 11, 12]), (14, [0, 1, 2, 3, 4, 5, 6, 7, 8, 9, 10, 11, 12, 13]), (15, [0, 1, 2, 3, 4, 5, 6, 7, 8, 9, 10]), (16, [0, 1, 2, 3, 4, 5, 6, 7, 8, 9, 10]), (17, [0, 1, 2, 3, 4, 5, 6, 7, 8, 9, 10, 15, 16]), (18, [0, 1, 2, 3, 4, 5, 6, 7, 8, 9, 10, 15, 16, 17]), (19, [0, 1, 2, 3, 4, 5, 6, 7, 8, 9, 10, 11, 12, 13, 14, 15, 16, 17, 18]), (20, [0, 1, 2, 3, 4, 5, 6, 7, 8, 9, 10, 11, 12, 13, 14, 15, 16, 17, 18, 19]), (21, [0, 1, 2, 3, 4, 5, 6, 7, 8, 9, 10, 11, 12, 13, 14, 15, 16, 17, 18, 19, 20])]),
  (22, [(0, []), (3, []), (4, []), (5, []), (6, []), (7, []), (1, [6, 7]), (2, []), (8, []), (9, []), (10, []), (12, []), (13, []), (14, []), (15, []), (16, []), (11, [16]), (17, []), (18, [])], [(1, [0]), (2, [0, 1]), (4, [3]), (5, [3, 4]), (6, [3, 4, 5]), (7, [3, 4, 5, 6]), (8, [0, 1, 2, 3, 4, 5, 6, 7]), (9, [0, 1, 2, 3, 4, 5, 6, 7, 8]), (10, [0, 1, 2, 3, 4, 5, 6, 7, 8, 9]), (11, [0, 1, 2, 3, 4, 5, 6, 7, 8, 9, 10]), (12, [0, 1, 2, 3, 4, 5, 6, 7, 8, 9]), (13, [0, 1, 2, 3, 4, 5, 6, 7, 8, 9, 12]), (14, [0, 1, 2, 3, 4, 5, 6, 7, 8, 9, 12, 13]), (15, [0, 1, 2, 3, 4, 5, 6, 7, 8, 9, 12, 13, 14]), (16, [0, 1, 2, 3, 4, 5, 6, 7, 8, 9, 12, 13, 14, 15]), (17, [0, 1, 2, 3, 4, 5, 6, 7, 8, 9, 10, 11, 12, 13, 14, 15, 16]), (18, [0, 1, 2, 3, 4, 5, 6, 7, 8, 9, 10, 11, 12, 13, 14, 15, 16, 17])])]⟩
set_option maxRecDepth 100000 in
theorem F10.ok : compF Try.prog A10 Try.f10 = some F10 := by kernel_rfl
theorem F10.fok : FOk Try.prog 10 F10 := fok_of mixed Try.func10 F10.ok

/-- cloakroom/cloakroomlaw26.SessApart -/
def F11 : SFn := ⟨.seq (.region [⟨some 3, none, .box (.t 1)⟩,
    ⟨some 4, none, .mov (.c (.bool false))⟩] [0, 3])
   (.seq (.seq (.region [⟨some 12, none, .call 27 []⟩,
    ⟨some 13, none, .un .not (.t 12)⟩] [0, 3, 13])
   (.cond (.t 13) (.seq (.region [⟨some 4, none, .mov (.c (.bool false))⟩] [4])
   (.ret)) (.skip)))
   (.seq (.seq (.region [⟨some 14, none, .mov (.t 0)⟩,
    ⟨some 15, none, .lenV (.t 14)⟩,
    ⟨some 16, none, .bin .gtr (.t 15) (.c (.int .i64 60))⟩,
    ⟨some 17, none, .mov (.t 16)⟩,
    ⟨some 18, some (17, false), .fa 3 (.t 3)⟩,
    ⟨some 19, some (17, false), .ld 1 false (.t 18)⟩,
    ⟨some 20, some (17, false), .lenV (.t 19)⟩,
    ⟨some 21, some (17, false), .bin .gtr (.t 20) (.c (.int .i64 8))⟩,
    ⟨some 22, none, .pick (.t 17) (.c (.bool true)) (.t 21)⟩,
    ⟨some 23, none, .mov (.t 22)⟩,
    ⟨some 24, some (23, false), .fa 1 (.t 3)⟩,
    ⟨some 25, some (23, false), .ld 1 false (.t 24)⟩,
    ⟨some 26, some (23, false), .bin .lss (.t 25) (.c (.int .i64 0))⟩,
    ⟨some 27, none, .pick (.t 23) (.c (.bool true)) (.t 26)⟩,
    ⟨some 28, none, .mov (.t 27)⟩,
    ⟨some 29, some (28, false), .fa 1 (.t 3)⟩,
    ⟨some 30, some (28, false), .ld 1 false (.t 29)⟩,
    ⟨some 31, some (28, false), .bin .gtr (.t 30) (.c (.int .i64 17))⟩,
    ⟨some 32, none, .pick (.t 28) (.c (.bool true)) (.t 31)⟩] [0, 3, 32])
   (.cond (.t 32) (.seq (.region [⟨some 4, none, .mov (.c (.bool true))⟩] [4])
   (.ret)) (.skip)))
   (.seq (.region [⟨some 33, none, .call 29 [.c (.int .i64 2)]⟩,
    ⟨some 5, none, .mov (.t 33)⟩] [0, 3, 5])
   (.seq (.region [⟨some 34, none, .mov (.t 5)⟩,
    ⟨some 35, none, .mov (.t 0)⟩,
    ⟨some 36, none, .call 30 [.t 34, .t 35]⟩] [3, 5])
   (.seq (.region [⟨some 37, none, .mov (.t 5)⟩,
    ⟨some 38, none, .ld 4 true (.t 3)⟩,
    ⟨some 39, none, .call 32 [.t 37, .t 38, .c (.int .i64 1)]⟩] [3, 5])
   (.seq (.region [⟨some 41, none, .mov (.t 5)⟩,
    ⟨some 42, none, .call 36 [.t 41]⟩,
    ⟨some 43, none, .call 39 [.t 42, .c (.int .i64 4)]⟩,
    ⟨some 40, none, .mov (.t 43)⟩,
    ⟨some 44, none, .ext (.t 40) 0⟩,
    ⟨some 45, none, .ext (.t 40) 1⟩,
    ⟨some 6, none, .mov (.t 44)⟩,
    ⟨some 7, none, .mov (.t 45)⟩] [3, 5, 6, 7])
   (.seq (.region [⟨some 46, none, .mov (.t 5)⟩,
    ⟨some 47, none, .call 38 [.t 46]⟩,
    ⟨some 8, none, .mov (.t 47)⟩] [3, 5, 6, 7, 8])
   (.seq (.seq (.region [⟨some 48, none, .mov (.t 8)⟩,
    ⟨some 49, none, .eqk false .ptr (.t 48) (.c (.pointer none))⟩,
    ⟨some 50, none, .mov (.t 49)⟩,
    ⟨some 51, some (50, false), .mov (.t 7)⟩,
    ⟨some 52, some (50, false), .bin .neq (.t 51) (.c (.int .i64 0))⟩,
    ⟨some 53, none, .pick (.t 50) (.c (.bool true)) (.t 52)⟩,
    ⟨some 54, none, .mov (.t 53)⟩,
    ⟨some 55, some (54, false), .mov (.t 8)⟩,
    ⟨some 56, some (54, false), .call 36 [.t 55]⟩,
    ⟨some 57, some (54, false), .eqk false .ptr (.t 56) (.c (.pointer none))⟩,
    ⟨some 58, none, .pick (.t 54) (.c (.bool true)) (.t 57)⟩,
    ⟨some 59, none, .mov (.t 58)⟩,
    ⟨some 60, some (59, false), .mov (.t 8)⟩,
    ⟨some 61, some (59, false), .call 37 [.t 60]⟩,
    ⟨some 62, some (59, false), .eqk false .ptr (.t 61) (.c (.pointer none))⟩,
    ⟨some 63, none, .pick (.t 59) (.c (.bool true)) (.t 62)⟩] [3, 5, 6, 8, 63])
   (.cond (.t 63) (.seq (.region [⟨some 4, none, .mov (.c (.bool false))⟩] [4])
   (.ret)) (.skip)))
   (.seq (.region [⟨some 64, none, .mov (.t 5)⟩,
    ⟨some 65, none, .call 33 [.t 64]⟩,
    ⟨some 66, none, .toStr (.t 65)⟩,
    ⟨some 9, none, .mov (.t 66)⟩] [3, 5, 6, 8, 9])
   (.seq (.region [⟨some 67, none, .mov (.t 8)⟩,
    ⟨some 68, none, .ld 4 true (.t 3)⟩,
    ⟨some 69, none, .call 32 [.t 67, .t 68, .c (.int .i64 1)]⟩] [5, 6, 8, 9])
   (.seq (.region [⟨some 70, none, .mov (.t 8)⟩,
    ⟨some 71, none, .call 36 [.t 70]⟩,
    ⟨some 72, none, .mov (.t 6)⟩,
    ⟨some 73, none, .call 40 [.t 71, .t 72]⟩] [5, 6, 8, 9])
   (.seq (.region [⟨some 74, none, .mov (.t 8)⟩,
    ⟨some 75, none, .call 37 [.t 74]⟩,
    ⟨some 76, none, .build [.int .i64 0, .int .u64 0, .int .u64 0, .string ByteArray.empty, .slice none 0 0, .slice none 0 0, .int .u64 0, .int .u64 0] [(0, 1, .c (.int .i64 5))]⟩,
    ⟨some 77, none, .call 41 [.t 75, .c (.int .u64 7), .t 76]⟩] [5, 6, 8, 9])
   (.seq (.region [⟨some 79, none, .mov (.t 5)⟩,
    ⟨some 80, none, .call 36 [.t 79]⟩,
    ⟨some 81, none, .mov (.t 6)⟩,
    ⟨some 82, none, .call 42 [.t 80, .t 81]⟩,
    ⟨some 78, none, .mov (.t 82)⟩,
    ⟨some 83, none, .ext (.t 78) 0⟩,
    ⟨some 84, none, .ext (.t 78) 1⟩,
    ⟨some 10, none, .mov (.t 83)⟩,
    ⟨some 11, none, .mov (.t 84)⟩] [5, 8, 9, 11])
   (.seq (.region [⟨some 85, none, .mov (.t 5)⟩,
    ⟨some 86, none, .call 33 [.t 85]⟩,
    ⟨some 87, none, .toStr (.t 86)⟩,
    ⟨some 88, none, .mov (.t 9)⟩,
    ⟨some 89, none, .bin .eql (.t 87) (.t 88)⟩,
    ⟨some 90, none, .mov (.t 89)⟩,
    ⟨some 91, some (90, true), .mov (.t 11)⟩,
    ⟨some 92, some (90, true), .bin .eql (.t 91) (.c (.int .i64 0))⟩,
    ⟨some 93, none, .pick (.t 90) (.t 92) (.c (.bool false))⟩,
    ⟨some 94, none, .mov (.t 93)⟩,
    ⟨some 95, some (94, true), .mov (.t 5)⟩,
    ⟨some 96, some (94, true), .call 37 [.t 95]⟩,
    ⟨some 97, some (94, true), .call 43 [.t 96]⟩,
    ⟨some 98, some (94, true), .lenV (.t 97)⟩,
    ⟨some 99, some (94, true), .bin .eql (.t 98) (.c (.int .i64 0))⟩,
    ⟨some 100, none, .pick (.t 94) (.t 99) (.c (.bool false))⟩,
    ⟨some 101, none, .mov (.t 100)⟩,
    ⟨some 102, some (101, true), .mov (.t 8)⟩,
    ⟨some 103, some (101, true), .call 33 [.t 102]⟩,
    ⟨some 104, some (101, true), .toStr (.t 103)⟩,
    ⟨some 105, some (101, true), .mov (.t 9)⟩,
    ⟨some 106, some (101, true), .bin .neq (.t 104) (.t 105)⟩,
    ⟨some 107, none, .pick (.t 101) (.t 106) (.c (.bool false))⟩,
    ⟨some 108, none, .mov (.t 107)⟩,
    ⟨some 109, some (108, true), .mov (.t 8)⟩,
    ⟨some 110, some (108, true), .call 31 [.t 109]⟩,
    ⟨some 111, some (108, true), .mov (.t 5)⟩,
    ⟨some 112, some (108, true), .call 31 [.t 111]⟩,
    ⟨some 113, some (108, true), .eqk false .bool (.t 110) (.t 112)⟩,
    ⟨some 114, none, .pick (.t 108) (.t 113) (.c (.bool false))⟩,
    ⟨some 4, none, .mov (.t 114)⟩] [4])
   (.ret))))))))))))))),
  [.t 4], 115, 2⟩
def A11 : Ann := ⟨[(0, [0, 3]), (1, [0, 3, 13]), (2, [4]), (3, [0, 3, 32]), (4, [4]), (5, [0, 3, 5]), (6, [3, 5]), (7, [3, 5]), (8, [3, 5, 6, 7]), (9, [3, 5, 6, 7, 8]), (10, [3, 5, 6, 8, 63]), (11, [4]), (12, [3, 5, 6, 8, 9]), (13, [5, 6, 8, 9]), (14, [5, 6, 8, 9]), (15, [5, 6, 8, 9]), (16, [5, 8, 9, 11]), (17, [4])], []⟩
set_option maxRecDepth 100000 in
theorem F11.ok : compF Try.prog A11 Try.f11 = some F11 := by kernel_rfl
theorem F11.fok : FOk Try.prog 11 F11 := fok_of mixed Try.func11 F11.ok

/-- cloakroom/cloakroomlaw3.begun -/
def F12 : SFn := ⟨.seq (.region [⟨some 0, none, .mov (.c (.bool false))⟩] [])
   (.seq (.region [⟨some 7, none, .build [.int .i64 0, .int .u64 0, .int .u64 0, .string ByteArray.empty, .slice none 0 0, .slice none 0 0, .int .u64 0, .int .u64 0] [(0, 1, .c (.int .i64 5)), (1, 1, .c (.int .u64 1)), (2, 1, .c (.int .u64 3))]⟩,
    ⟨some 1, none, .new [.int .i64 0, .int .u64 0, .int .u64 0, .string ByteArray.empty, .slice none 0 0, .slice none 0 0, .int .u64 0, .int .u64 0]⟩,
    ⟨none, none, .st 8 (.t 1) (.t 7)⟩] [1])
   (.seq (.region [⟨some 8, none, .ld 8 true (.t 1)⟩,
    ⟨some 9, none, .call 19 [.t 8]⟩,
    ⟨some 2, none, .mov (.t 9)⟩] [1, 2])
   (.seq (.region [⟨some 11, none, .mov (.t 2)⟩,
    ⟨some 12, none, .call 14 [.t 11]⟩,
    ⟨some 10, none, .mov (.t 12)⟩,
    ⟨some 13, none, .ext (.t 10) 0⟩,
    ⟨some 14, none, .ext (.t 10) 1⟩,
    ⟨some 3, none, .new [.int .i64 0, .int .u64 0, .int .u64 0, .string ByteArray.empty, .slice none 0 0, .slice none 0 0, .int .u64 0, .int .u64 0]⟩,
    ⟨none, none, .st 8 (.t 3) (.t 13)⟩,
    ⟨some 4, none, .mov (.t 14)⟩] [1, 2, 3, 4])
   (.seq (.region [⟨some 16, none, .build [.int .u64 0, .int .i64 0, .int .u64 0, .slice none 0 0] [(0, 1, .c (.int .u64 2)), (2, 1, .c (.int .u64 5))]⟩,
    ⟨some 17, none, .call 24 [.t 16]⟩,
    ⟨some 18, none, .call 25 [.t 17]⟩,
    ⟨some 15, none, .mov (.t 18)⟩,
    ⟨some 19, none, .ext (.t 15) 0⟩,
    ⟨some 20, none, .ext (.t 15) 1⟩,
    ⟨some 5, none, .new [.int .u64 0, .int .i64 0, .int .u64 0, .slice none 0 0]⟩,
    ⟨none, none, .st 4 (.t 5) (.t 19)⟩,
    ⟨some 6, none, .mov (.t 20)⟩] [1, 2, 3, 4, 5, 6])
   (.seq (.region [⟨some 21, none, .mov (.t 2)⟩,
    ⟨some 22, none, .lenV (.t 21)⟩,
    ⟨some 23, none, .bin .eql (.t 22) (.c (.int .i64 10))⟩,
    ⟨some 24, none, .mov (.t 23)⟩,
    ⟨some 25, some (24, true), .mov (.t 4)⟩,
    ⟨some 26, some (24, true), .bin .eql (.t 25) (.c (.int .i64 0))⟩,
    ⟨some 27, none, .pick (.t 24) (.t 26) (.c (.bool false))⟩,
    ⟨some 28, none, .mov (.t 27)⟩,
    ⟨some 29, some (28, true), .fa 2 (.t 3)⟩,
    ⟨some 30, some (28, true), .ld 1 false (.t 29)⟩,
    ⟨some 31, some (28, true), .bin .eql (.t 30) (.c (.int .u64 3))⟩,
    ⟨some 32, none, .pick (.t 28) (.t 31) (.c (.bool false))⟩,
    ⟨some 33, none, .mov (.t 32)⟩,
    ⟨some 34, some (33, true), .mov (.t 6)⟩,
    ⟨some 35, some (33, true), .bin .eql (.t 34) (.c (.int .i64 0))⟩,
    ⟨some 36, none, .pick (.t 33) (.t 35) (.c (.bool false))⟩,
    ⟨some 37, none, .mov (.t 36)⟩,
    ⟨some 38, some (37, true), .fa 2 (.t 5)⟩,
    ⟨some 39, some (37, true), .ld 1 false (.t 38)⟩,
    ⟨some 40, some (37, true), .bin .eql (.t 39) (.c (.int .u64 5))⟩,
    ⟨some 41, none, .pick (.t 37) (.t 40) (.c (.bool false))⟩,
    ⟨some 42, none, .mov (.t 41)⟩,
    ⟨some 43, some (42, true), .ld 8 true (.t 1)⟩,
    ⟨some 44, some (42, true), .ld 8 true (.t 3)⟩,
    ⟨some 45, some (42, true), .call 21 [.t 43, .t 44]⟩,
    ⟨some 46, none, .pick (.t 42) (.t 45) (.c (.bool false))⟩,
    ⟨some 47, none, .mov (.t 46)⟩,
    ⟨some 48, some (47, true), .ld 8 true (.t 1)⟩,
    ⟨some 49, some (47, true), .build [.int .i64 0, .int .u64 0, .int .u64 0, .string ByteArray.empty, .slice none 0 0, .slice none 0 0, .int .u64 0, .int .u64 0] []⟩,
    ⟨some 50, some (47, true), .call 21 [.t 48, .t 49]⟩,
    ⟨some 51, some (47, true), .un .not (.t 50)⟩,
    ⟨some 52, none, .pick (.t 47) (.t 51) (.c (.bool false))⟩,
    ⟨some 0, none, .mov (.t 52)⟩] [0])
   (.ret)))))),
  [.t 0], 53, 0⟩
def A12 : Ann := ⟨[(0, []), (1, [1]), (2, [1, 2]), (3, [1, 2, 3, 4]), (4, [1, 2, 3, 4, 5, 6]), (5, [0])], []⟩
set_option maxRecDepth 100000 in
theorem F12.ok : compF Try.prog A12 Try.f12 = some F12 := by kernel_rfl
theorem F12.fok : FOk Try.prog 12 F12 := fok_of mixed Try.func12 F12.ok

/-- cloakroom/cloakroomlaw0.Twin -/
def F13 : SFn := ⟨.seq (.region [⟨some 2, none, .mov (.c (.slice none 0 0))⟩] [0])
   (.seq (.region [⟨some 5, none, .mov (.t 0)⟩,
    ⟨some 6, none, .lenV (.t 5)⟩,
    ⟨some 7, none, .bin .add (.t 6) (.c (.int .i64 3))⟩,
    ⟨some 8, none, .mkSl 1 1 [.int .u8 0] (.t 7) (.t 7)⟩,
    ⟨some 3, none, .mov (.t 8)⟩] [0, 3])
   (.seq (.region [⟨some 9, none, .mov (.t 3)⟩,
    ⟨some 10, none, .mov (.t 0)⟩,
    ⟨some 11, none, .copy 1 (.t 9) (.t 10)⟩] [0, 3])
   (.seq (.seq (.region [⟨some 12, none, .mov (.t 0)⟩,
    ⟨some 13, none, .lenV (.t 12)⟩,
    ⟨some 4, none, .mov (.t 13)⟩] [0, 3, 4])
   (.block 0 (.loop (.seq (.seq (.region [⟨some 14, none, .mov (.t 4)⟩,
    ⟨some 15, none, .mov (.t 3)⟩,
    ⟨some 16, none, .lenV (.t 15)⟩,
    ⟨some 17, none, .bin .lss (.t 14) (.t 16)⟩] [0, 3, 4, 17])
   (.cond (.t 17) (.skip) (.exit 0)))
   (.seq (.block 1 (.region [⟨some 20, none, .mov (.t 3)⟩,
    ⟨some 21, none, .mov (.t 4)⟩,
    ⟨some 22, none, .iaV 1 (.t 20) (.t 21)⟩,
    ⟨none, none, .st 1 (.t 22) (.c (.int .u8 229))⟩] [0, 3, 4]))
   (.region [⟨some 18, none, .mov (.t 4)⟩,
    ⟨some 19, none, .bin .add (.t 18) (.c (.int .i64 1))⟩,
    ⟨some 4, none, .mov (.t 19)⟩] [0, 3, 4]))))))
   (.seq (.region [⟨some 23, none, .mov (.t 3)⟩,
    ⟨some 24, none, .mov (.t 0)⟩,
    ⟨some 25, none, .lenV (.t 24)⟩,
    ⟨some 26, none, .slV 1 (.t 23) none (some (.t 25)) none⟩,
    ⟨some 2, none, .mov (.t 26)⟩] [2])
   (.ret))))),
  [.t 2], 27, 1⟩
def A13 : Ann := ⟨[(0, [0]), (1, [0, 3]), (2, [0, 3]), (3, [0, 3, 4]), (4, [0, 3, 4, 17]), (5, [0, 3, 4]), (6, [0, 3, 4]), (7, [2])], []⟩
set_option maxRecDepth 100000 in
theorem F13.ok : compF Try.prog A13 Try.f13 = some F13 := by kernel_rfl
theorem F13.fok : FOk Try.prog 13 F13 := fok_of mixed Try.func13 F13.ok

/-- cloakroom/req.Take -/
def F14 : SFn := ⟨.seq (.region [⟨some 2, none, .new [.int .i64 0, .int .u64 0, .int .u64 0, .string ByteArray.empty, .slice none 0 0, .slice none 0 0, .int .u64 0, .int .u64 0]⟩,
    ⟨some 3, none, .mov (.c (.int .i64 0))⟩] [0, 2])
   (.seq (.region [⟨some 6, none, .mov (.t 0)⟩,
    ⟨some 7, none, .build [.slice none 0 0, .int .i64 0] [(0, 1, .t 6)]⟩,
    ⟨some 8, none, .build [.slice none 0 0, .int .i64 0, .int .i64 0, .int .u64 0, .int .u64 0, .string ByteArray.empty, .slice none 0 0, .slice none 0 0, .int .u64 0, .int .u64 0] [(0, 2, .t 7)]⟩,
    ⟨some 9, none, .box (.t 8)⟩,
    ⟨some 4, none, .mov (.t 9)⟩] [2, 4])
   (.seq (.region [⟨some 10, none, .mov (.t 4)⟩,
    ⟨some 11, none, .call 44 [.t 10]⟩] [2, 4])
   (.seq (.seq (.region [⟨some 12, none, .mov (.t 4)⟩,
    ⟨some 13, none, .nilc (.t 12)⟩,
    ⟨some 14, none, .fa 0 (.t 13)⟩,
    ⟨some 15, none, .call 45 [.t 14]⟩,
    ⟨some 5, none, .mov (.t 15)⟩] [2, 4, 5])
   (.seq (.region [⟨some 16, none, .mov (.t 5)⟩,
    ⟨some 17, none, .bin .neq (.t 16) (.c (.int .i64 0))⟩] [2, 4, 5, 17])
   (.cond (.t 17) (.seq (.region [⟨some 18, none, .build [.int .i64 0, .int .u64 0, .int .u64 0, .string ByteArray.empty, .slice none 0 0, .slice none 0 0, .int .u64 0, .int .u64 0] []⟩,
    ⟨some 19, none, .mov (.t 5)⟩,
    ⟨none, none, .st 8 (.t 2) (.t 18)⟩,
    ⟨some 3, none, .mov (.t 19)⟩] [2, 3])
   (.ret)) (.skip))))
   (.seq (.region [⟨some 20, none, .mov (.t 4)⟩,
    ⟨some 21, none, .nilc (.t 20)⟩,
    ⟨some 22, none, .fa 2 (.t 21)⟩,
    ⟨some 23, none, .ld 8 true (.t 22)⟩,
    ⟨none, none, .st 8 (.t 2) (.t 23)⟩,
    ⟨some 3, none, .mov (.c (.int .i64 0))⟩] [2, 3])
   (.ret))))),
  [.c 2 8 true, .t 3], 24, 1⟩
def A14 : Ann := ⟨[(0, [0, 2]), (1, [2, 4]), (2, [2, 4]), (3, [2, 4, 5]), (4, [2, 4, 5, 17]), (5, [2, 3]), (6, [2, 3])], []⟩
set_option maxRecDepth 100000 in
theorem F14.ok : compF Try.prog A14 Try.f14 = some F14 := by kernel_rfl
theorem F14.fok : FOk Try.prog 14 F14 := fok_of mixed Try.func14 F14.ok

/-- cloakroom/cloakroomref1.TakeRequest -/
def F15 : SFn := ⟨.seq (.region [⟨some 2, none, .new [.int .i64 0, .int .u64 0, .int .u64 0, .string ByteArray.empty, .slice none 0 0, .slice none 0 0, .int .u64 0, .int .u64 0]⟩,
    ⟨some 3, none, .mov (.c (.int .i64 0))⟩] [0, 2])
   (.seq (.region [⟨some 8, none, .mov (.t 0)⟩,
    ⟨some 9, none, .build [.slice none 0 0, .int .i64 0] [(0, 1, .t 8)]⟩,
    ⟨some 10, none, .box (.t 9)⟩,
    ⟨some 4, none, .mov (.t 10)⟩] [2, 4])
   (.seq (.region [⟨some 11, none, .mov (.t 4)⟩,
    ⟨some 12, none, .call 46 [.t 11]⟩,
    ⟨some 13, none, .conv .i64 (.t 12)⟩,
    ⟨some 14, none, .build [.int .i64 0, .int .u64 0, .int .u64 0, .string ByteArray.empty, .slice none 0 0, .slice none 0 0, .int .u64 0, .int .u64 0] [(0, 1, .t 13)]⟩,
    ⟨some 5, none, .new [.int .i64 0, .int .u64 0, .int .u64 0, .string ByteArray.empty, .slice none 0 0, .slice none 0 0, .int .u64 0, .int .u64 0]⟩,
    ⟨none, none, .st 8 (.t 5) (.t 14)⟩] [2, 4, 5])
   (.seq (.seq (.region [⟨some 15, none, .mov (.t 4)⟩,
    ⟨some 16, none, .nilc (.t 15)⟩,
    ⟨some 17, none, .fa 1 (.t 16)⟩,
    ⟨some 18, none, .ld 1 false (.t 17)⟩,
    ⟨some 19, none, .bin .eql (.t 18) (.c (.int .i64 0))⟩,
    ⟨some 20, none, .mov (.t 19)⟩,
    ⟨some 21, some (20, true), .fa 0 (.t 5)⟩,
    ⟨some 22, some (20, true), .ld 1 false (.t 21)⟩,
    ⟨some 23, some (20, true), .bin .lss (.t 22) (.c (.int .i64 1))⟩,
    ⟨some 24, some (20, true), .mov (.t 23)⟩,
    ⟨some 25, some (24, false), .fa 0 (.t 5)⟩,
    ⟨some 26, some (24, false), .ld 1 false (.t 25)⟩,
    ⟨some 27, some (24, false), .bin .gtr (.t 26) (.c (.int .i64 6))⟩,
    ⟨some 28, some (20, true), .pick (.t 24) (.c (.bool true)) (.t 27)⟩,
    ⟨some 29, none, .pick (.t 20) (.t 28) (.c (.bool false))⟩] [2, 4, 5, 29])
   (.cond (.t 29) (.region [⟨some 30, none, .mov (.t 4)⟩,
    ⟨some 31, none, .call 47 [.t 30, .c (.int .i64 2)]⟩] [2, 4, 5]) (.skip)))
   (.seq (.region [⟨some 32, none, .mov (.t 4)⟩,
    ⟨some 33, none, .call 48 [.t 32]⟩,
    ⟨some 34, none, .fa 1 (.t 5)⟩,
    ⟨none, none, .st 1 (.t 34) (.t 33)⟩] [2, 4, 5])
   (.seq (.seq (.region [⟨some 35, none, .fa 0 (.t 5)⟩,
    ⟨some 36, none, .ld 1 false (.t 35)⟩] [2, 4, 5, 36])
   (.block 0 (.seq (.region [⟨some 38, none, .bin .eql (.t 36) (.c (.int .i64 1))⟩,
    ⟨some 37, none, .mov (.t 38)⟩] [2, 4, 5, 36, 37])
   (.cond (.t 37) (.region [⟨some 39, none, .mov (.t 4)⟩,
    ⟨some 40, none, .mov (.t 4)⟩,
    ⟨some 41, none, .nilc (.t 40)⟩,
    ⟨some 42, none, .fa 0 (.t 41)⟩,
    ⟨some 43, none, .ld 1 false (.t 42)⟩,
    ⟨some 44, none, .lenV (.t 43)⟩,
    ⟨some 45, none, .conv .u32 (.t 44)⟩,
    ⟨some 46, none, .call 49 [.t 39, .t 45]⟩,
    ⟨some 47, none, .fa 4 (.t 5)⟩,
    ⟨none, none, .st 1 (.t 47) (.t 46)⟩] [2, 4, 5]) (.seq (.region [⟨some 49, none, .bin .eql (.t 36) (.c (.int .i64 2))⟩,
    ⟨some 48, none, .mov (.t 49)⟩] [2, 4, 5, 36, 48])
   (.cond (.t 48) (.region [⟨some 50, none, .mov (.t 4)⟩,
    ⟨some 51, none, .call 50 [.t 50]⟩,
    ⟨some 52, none, .mov (.t 4)⟩,
    ⟨some 53, none, .call 51 [.t 52]⟩,
    ⟨some 54, none, .fa 2 (.t 5)⟩,
    ⟨none, none, .st 1 (.t 54) (.t 51)⟩,
    ⟨some 55, none, .fa 3 (.t 5)⟩,
    ⟨none, none, .st 1 (.t 55) (.t 53)⟩] [2, 4, 5]) (.seq (.region [⟨some 57, none, .bin .eql (.t 36) (.c (.int .i64 3))⟩,
    ⟨some 56, none, .mov (.t 57)⟩] [2, 4, 5, 36, 56])
   (.cond (.t 56) (.region [⟨some 58, none, .mov (.t 4)⟩,
    ⟨some 59, none, .call 51 [.t 58]⟩,
    ⟨some 60, none, .fa 3 (.t 5)⟩,
    ⟨none, none, .st 1 (.t 60) (.t 59)⟩] [2, 4, 5]) (.seq (.region [⟨some 62, none, .bin .eql (.t 36) (.c (.int .i64 4))⟩,
    ⟨some 61, none, .mov (.t 62)⟩] [2, 4, 5, 36, 61])
   (.cond (.t 61) (.seq (.region [⟨some 63, none, .mov (.t 4)⟩,
    ⟨some 64, none, .call 50 [.t 63]⟩,
    ⟨some 65, none, .mov (.t 4)⟩,
    ⟨some 66, none, .call 51 [.t 65]⟩,
    ⟨some 67, none, .fa 2 (.t 5)⟩,
    ⟨none, none, .st 1 (.t 67) (.t 64)⟩,
    ⟨some 68, none, .fa 3 (.t 5)⟩,
    ⟨none, none, .st 1 (.t 68) (.t 66)⟩] [2, 4, 5])
   (.seq (.region [⟨some 69, none, .mov (.t 4)⟩,
    ⟨some 70, none, .call 52 [.t 69]⟩,
    ⟨some 6, none, .mov (.t 70)⟩] [2, 4, 5, 6])
   (.seq (.seq (.region [⟨some 71, none, .mov (.t 6)⟩,
    ⟨some 72, none, .bin .gtr (.t 71) (.c (.int .u32 8))⟩] [2, 4, 5, 6, 72])
   (.cond (.t 72) (.region [⟨some 73, none, .mov (.t 4)⟩,
    ⟨some 74, none, .call 47 [.t 73, .c (.int .i64 4)]⟩] [2, 4, 5, 6]) (.skip)))
   (.seq (.seq (.region [⟨some 7, none, .mov (.c (.int .u32 0))⟩] [2, 4, 5, 6, 7])
   (.block 1 (.loop (.seq (.seq (.region [⟨some 75, none, .mov (.t 7)⟩,
    ⟨some 76, none, .mov (.t 6)⟩,
    ⟨some 77, none, .bin .lss (.t 75) (.t 76)⟩,
    ⟨some 78, none, .mov (.t 77)⟩,
    ⟨some 79, some (78, true), .mov (.t 4)⟩,
    ⟨some 80, some (78, true), .nilc (.t 79)⟩,
    ⟨some 81, some (78, true), .fa 1 (.t 80)⟩,
    ⟨some 82, some (78, true), .ld 1 false (.t 81)⟩,
    ⟨some 83, some (78, true), .bin .eql (.t 82) (.c (.int .i64 0))⟩,
    ⟨some 84, none, .pick (.t 78) (.t 83) (.c (.bool false))⟩] [2, 4, 5, 6, 7, 84])
   (.cond (.t 84) (.skip) (.exit 1)))
   (.seq (.block 2 (.region [⟨some 87, none, .fa 5 (.t 5)⟩,
    ⟨some 88, none, .ld 1 false (.t 87)⟩,
    ⟨some 89, none, .mov (.t 4)⟩,
    ⟨some 90, none, .call 50 [.t 89]⟩,
    ⟨none, none, .chk 1 false (.t 87) 88⟩,
    ⟨some 91, none, .bslice 1 1 [.int .u64 0] [(0, 1, .t 90)]⟩,
    ⟨some 92, none, .app 1 8 (.t 88) (.t 91)⟩,
    ⟨some 93, none, .fa 5 (.t 5)⟩,
    ⟨none, none, .st 1 (.t 93) (.t 92)⟩] [2, 4, 5, 6, 7]))
   (.region [⟨some 85, none, .mov (.t 7)⟩,
    ⟨some 86, none, .bin .add (.t 85) (.c (.int .u32 1))⟩,
    ⟨some 7, none, .mov (.t 86)⟩] [2, 4, 5, 6, 7]))))))
   (.region [⟨some 94, none, .mov (.t 4)⟩,
    ⟨some 95, none, .call 50 [.t 94]⟩,
    ⟨some 96, none, .fa 6 (.t 5)⟩,
    ⟨none, none, .st 1 (.t 96) (.t 95)⟩] [2, 4, 5]))))) (.seq (.region [⟨some 98, none, .bin .eql (.t 36) (.c (.int .i64 5))⟩,
    ⟨some 97, none, .mov (.t 98)⟩] [2, 4, 5, 36, 97])
   (.cond (.t 97) (.region [⟨some 99, none, .mov (.t 4)⟩,
    ⟨some 100, none, .call 50 [.t 99]⟩,
    ⟨some 101, none, .fa 2 (.t 5)⟩,
    ⟨none, none, .st 1 (.t 101) (.t 100)⟩] [2, 4, 5]) (.seq (.region [⟨some 103, none, .bin .eql (.t 36) (.c (.int .i64 6))⟩,
    ⟨some 102, none, .mov (.t 103)⟩] [2, 4, 5, 102])
   (.cond (.t 102) (.region [⟨some 104, none, .mov (.t 4)⟩,
    ⟨some 105, none, .call 48 [.t 104]⟩,
    ⟨some 106, none, .fa 7 (.t 5)⟩,
    ⟨none, none, .st 1 (.t 106) (.t 105)⟩] [2, 4, 5]) (.skip)))))))))))))))
   (.seq (.region [⟨some 107, none, .mov (.t 4)⟩,
    ⟨some 108, none, .call 53 [.t 107]⟩] [2, 4, 5])
   (.seq (.seq (.region [⟨some 109, none, .mov (.t 4)⟩,
    ⟨some 110, none, .nilc (.t 109)⟩,
    ⟨some 111, none, .fa 1 (.t 110)⟩,
    ⟨some 112, none, .ld 1 false (.t 111)⟩,
    ⟨some 113, none, .bin .neq (.t 112) (.c (.int .i64 0))⟩] [2, 4, 5, 113])
   (.cond (.t 113) (.seq (.region [⟨some 114, none, .build [.int .i64 0, .int .u64 0, .int .u64 0, .string ByteArray.empty, .slice none 0 0, .slice none 0 0, .int .u64 0, .int .u64 0] []⟩,
    ⟨some 115, none, .mov (.t 4)⟩,
    ⟨some 116, none, .nilc (.t 115)⟩,
    ⟨some 117, none, .fa 1 (.t 116)⟩,
    ⟨some 118, none, .ld 1 false (.t 117)⟩,
    ⟨none, none, .st 8 (.t 2) (.t 114)⟩,
    ⟨none, none, .chk 1 false (.t 117) 118⟩,
    ⟨some 3, none, .mov (.t 118)⟩] [2, 3])
   (.ret)) (.skip)))
   (.seq (.region [⟨some 119, none, .ld 8 true (.t 5)⟩,
    ⟨none, none, .st 8 (.t 2) (.t 119)⟩,
    ⟨some 3, none, .mov (.c (.int .i64 0))⟩] [2, 3])
   (.ret))))))))),
  [.c 2 8 true, .t 3], 120, 1⟩
def A15 : Ann := ⟨[(0, [0, 2]), (1, [2, 4]), (2, [2, 4, 5]), (3, [2, 4, 5, 29]), (4, [2, 4, 5]), (5, [2, 4, 5]), (6, [2, 4, 5, 36]), (7, [2, 4, 5, 36, 37]), (8, [2, 4, 5]), (9, [2, 4, 5, 36, 48]), (10, [2, 4, 5]), (11, [2, 4, 5, 36, 56]), (12, [2, 4, 5]), (13, [2, 4, 5, 36, 61]), (14, [2, 4, 5]), (15, [2, 4, 5, 6]), (16, [2, 4, 5, 6, 72]), (17, [2, 4, 5, 6]), (18, [2, 4, 5, 6, 7]), (19, [2, 4, 5, 6, 7, 84]), (20, [2, 4, 5, 6, 7]), (21, [2, 4, 5, 6, 7]), (22, [2, 4, 5]), (23, [2, 4, 5, 36, 97]), (24, [2, 4, 5]), (25, [2, 4, 5, 102]), (26, [2, 4, 5]), (27, [2, 4, 5]), (28, [2, 4, 5, 113]), (29, [2, 3]), (30, [2, 3])], [(21, [(0, []), (1, []), (2, []), (3, [1]), (4, []), (5, []), (6, []), (7, [])], [(1, [0]), (3, [2]), (4, [2, 3]), (5, [0, 1, 2, 3, 4]), (6, [0, 1, 2, 3, 4, 5]), (7, [0, 1, 2, 3, 4, 5, 6])]),
  (29, [(0, []), (1, []), (2, []), (3, []), (4, []), (5, [4]), (6, [])], [(2, [1]), (3, [1, 2]), (4, [1, 2, 3]), (5, [0]), (6, [0, 1, 2, 3, 4, 5])])]⟩
set_option maxRecDepth 100000 in
theorem F15.ok : compF Try.prog A15 Try.f15 = some F15 := by kernel_rfl
theorem F15.fok : FOk Try.prog 15 F15 := fok_of mixed Try.func15 F15.ok

/-- cloakroom/cloakroomref1.SameRequest -/
def F16 : SFn := ⟨.seq (.region [⟨some 2, none, .box (.t 0)⟩,
    ⟨some 3, none, .box (.t 1)⟩,
    ⟨some 4, none, .mov (.c (.bool false))⟩] [2, 3])
   (.seq (.region [⟨some 5, none, .fa 0 (.t 2)⟩,
    ⟨some 6, none, .ld 1 false (.t 5)⟩,
    ⟨some 7, none, .fa 0 (.t 3)⟩,
    ⟨some 8, none, .ld 1 false (.t 7)⟩,
    ⟨some 9, none, .bin .eql (.t 6) (.t 8)⟩,
    ⟨some 10, none, .mov (.t 9)⟩,
    ⟨some 11, some (10, true), .fa 1 (.t 2)⟩,
    ⟨some 12, some (10, true), .ld 1 false (.t 11)⟩,
    ⟨some 13, some (10, true), .fa 1 (.t 3)⟩,
    ⟨some 14, some (10, true), .ld 1 false (.t 13)⟩,
    ⟨some 15, some (10, true), .bin .eql (.t 12) (.t 14)⟩,
    ⟨some 16, none, .pick (.t 10) (.t 15) (.c (.bool false))⟩,
    ⟨some 17, none, .mov (.t 16)⟩,
    ⟨some 18, some (17, true), .fa 2 (.t 2)⟩,
    ⟨some 19, some (17, true), .ld 1 false (.t 18)⟩,
    ⟨some 20, some (17, true), .fa 2 (.t 3)⟩,
    ⟨some 21, some (17, true), .ld 1 false (.t 20)⟩,
    ⟨some 22, some (17, true), .bin .eql (.t 19) (.t 21)⟩,
    ⟨some 23, none, .pick (.t 17) (.t 22) (.c (.bool false))⟩,
    ⟨some 24, none, .mov (.t 23)⟩,
    ⟨some 25, some (24, true), .fa 3 (.t 2)⟩,
    ⟨some 26, some (24, true), .ld 1 false (.t 25)⟩,
    ⟨some 27, some (24, true), .fa 3 (.t 3)⟩,
    ⟨some 28, some (24, true), .ld 1 false (.t 27)⟩,
    ⟨some 29, some (24, true), .bin .eql (.t 26) (.t 28)⟩,
    ⟨some 30, none, .pick (.t 24) (.t 29) (.c (.bool false))⟩,
    ⟨some 31, none, .mov (.t 30)⟩,
    ⟨some 32, some (31, true), .fa 4 (.t 2)⟩,
    ⟨some 33, some (31, true), .ld 1 false (.t 32)⟩,
    ⟨some 34, some (31, true), .toStr (.t 33)⟩,
    ⟨some 35, some (31, true), .fa 4 (.t 3)⟩,
    ⟨some 36, some (31, true), .ld 1 false (.t 35)⟩,
    ⟨some 37, some (31, true), .toStr (.t 36)⟩,
    ⟨some 38, some (31, true), .bin .eql (.t 34) (.t 37)⟩,
    ⟨some 39, none, .pick (.t 31) (.t 38) (.c (.bool false))⟩,
    ⟨some 40, none, .mov (.t 39)⟩,
    ⟨some 41, some (40, true), .fa 5 (.t 2)⟩,
    ⟨some 42, some (40, true), .ld 1 false (.t 41)⟩,
    ⟨some 43, some (40, true), .fa 5 (.t 3)⟩,
    ⟨some 44, some (40, true), .ld 1 false (.t 43)⟩,
    ⟨some 45, some (40, true), .call 23 [.t 42, .t 44]⟩,
    ⟨some 46, none, .pick (.t 40) (.t 45) (.c (.bool false))⟩,
    ⟨some 47, none, .mov (.t 46)⟩,
    ⟨some 48, some (47, true), .fa 6 (.t 2)⟩,
    ⟨some 49, some (47, true), .ld 1 false (.t 48)⟩,
    ⟨some 50, some (47, true), .fa 6 (.t 3)⟩,
    ⟨some 51, some (47, true), .ld 1 false (.t 50)⟩,
    ⟨some 52, some (47, true), .bin .eql (.t 49) (.t 51)⟩,
    ⟨some 53, none, .pick (.t 47) (.t 52) (.c (.bool false))⟩,
    ⟨some 54, none, .mov (.t 53)⟩,
    ⟨some 55, some (54, true), .fa 7 (.t 2)⟩,
    ⟨some 56, some (54, true), .ld 1 false (.t 55)⟩,
    ⟨some 57, some (54, true), .fa 7 (.t 3)⟩,
    ⟨some 58, some (54, true), .ld 1 false (.t 57)⟩,
    ⟨some 59, some (54, true), .bin .eql (.t 56) (.t 58)⟩,
    ⟨some 60, none, .pick (.t 54) (.t 59) (.c (.bool false))⟩,
    ⟨some 4, none, .mov (.t 60)⟩] [4])
   (.ret)),
  [.t 4], 61, 2⟩
def A16 : Ann := ⟨[(0, [2, 3]), (1, [4])], []⟩
set_option maxRecDepth 100000 in
theorem F16.ok : compF Try.prog A16 Try.f16 = some F16 := by kernel_rfl
theorem F16.fok : FOk Try.prog 16 F16 := fok_of mixed Try.func16 F16.ok

/-- cloakroom/cloakroomlaw0.Kept -/
def F17 : SFn := ⟨.seq (.region [⟨some 4, none, .mov (.c (.bool false))⟩] [0, 1])
   (.seq (.region [⟨some 7, none, .mov (.t 0)⟩,
    ⟨some 8, none, .mov (.t 0)⟩,
    ⟨some 9, none, .capV (.t 8)⟩,
    ⟨some 10, none, .slV 1 (.t 7) none (some (.t 9)) none⟩,
    ⟨some 5, none, .mov (.t 10)⟩] [0, 1, 5])
   (.seq (.seq (.region [⟨some 11, none, .mov (.t 0)⟩,
    ⟨some 12, none, .toStr (.t 11)⟩,
    ⟨some 13, none, .mov (.t 1)⟩,
    ⟨some 14, none, .toStr (.t 13)⟩,
    ⟨some 15, none, .bin .neq (.t 12) (.t 14)⟩,
    ⟨some 16, none, .mov (.t 15)⟩,
    ⟨some 17, some (16, false), .mov (.t 5)⟩,
    ⟨some 18, some (16, false), .lenV (.t 17)⟩,
    ⟨some 19, some (16, false), .mov (.t 1)⟩,
    ⟨some 20, some (16, false), .lenV (.t 19)⟩,
    ⟨some 21, some (16, false), .bin .add (.t 20) (.c (.int .i64 3))⟩,
    ⟨some 22, some (16, false), .bin .lss (.t 18) (.t 21)⟩,
    ⟨some 23, none, .pick (.t 16) (.c (.bool true)) (.t 22)⟩] [1, 5, 23])
   (.cond (.t 23) (.seq (.region [⟨some 4, none, .mov (.c (.bool false))⟩] [4])
   (.ret)) (.skip)))
   (.seq (.seq (.region [⟨some 24, none, .mov (.t 1)⟩,
    ⟨some 25, none, .lenV (.t 24)⟩,
    ⟨some 6, none, .mov (.t 25)⟩] [1, 5, 6])
   (.block 0 (.loop (.seq (.seq (.region [⟨some 26, none, .mov (.t 6)⟩,
    ⟨some 27, none, .mov (.t 1)⟩,
    ⟨some 28, none, .lenV (.t 27)⟩,
    ⟨some 29, none, .bin .add (.t 28) (.c (.int .i64 3))⟩,
    ⟨some 30, none, .bin .lss (.t 26) (.t 29)⟩] [1, 5, 6, 30])
   (.cond (.t 30) (.skip) (.exit 0)))
   (.seq (.block 1 (.seq (.region [⟨some 33, none, .mov (.t 5)⟩,
    ⟨some 34, none, .mov (.t 6)⟩,
    ⟨some 35, none, .iaV 1 (.t 33) (.t 34)⟩,
    ⟨some 36, none, .ld 1 false (.t 35)⟩,
    ⟨some 37, none, .bin .neq (.t 36) (.c (.int .u8 229))⟩] [1, 5, 6, 37])
   (.cond (.t 37) (.seq (.region [⟨some 4, none, .mov (.c (.bool false))⟩] [4])
   (.ret)) (.skip))))
   (.region [⟨some 31, none, .mov (.t 6)⟩,
    ⟨some 32, none, .bin .add (.t 31) (.c (.int .i64 1))⟩,
    ⟨some 6, none, .mov (.t 32)⟩] [1, 5, 6]))))))
   (.seq (.region [⟨some 4, none, .mov (.c (.bool true))⟩] [4])
   (.ret))))),
  [.t 4], 38, 2⟩
def A17 : Ann := ⟨[(0, [0, 1]), (1, [0, 1, 5]), (2, [1, 5, 23]), (3, [4]), (4, [1, 5, 6]), (5, [1, 5, 6, 30]), (6, [1, 5, 6]), (7, [1, 5, 6, 37]), (8, [4]), (9, [4])], []⟩
set_option maxRecDepth 100000 in
theorem F17.ok : compF Try.prog A17 Try.f17 = some F17 := by kernel_rfl
theorem F17.fok : FOk Try.prog 17 F17 := fok_of mixed Try.func17 F17.ok

/-- cloakroom/cloakroomlaw3.may -/
def F18 : SFn := ⟨.seq (.region [⟨some 1, none, .box (.t 0)⟩,
    ⟨some 2, none, .mov (.c (.bool false))⟩] [1])
   (.seq (.region [⟨some 3, none, .fa 0 (.t 1)⟩,
    ⟨some 4, none, .ld 1 false (.t 3)⟩,
    ⟨some 5, none, .bin .geq (.t 4) (.c (.int .i64 1))⟩,
    ⟨some 6, none, .mov (.t 5)⟩,
    ⟨some 7, some (6, true), .fa 0 (.t 1)⟩,
    ⟨some 8, some (6, true), .ld 1 false (.t 7)⟩,
    ⟨some 9, some (6, true), .bin .leq (.t 8) (.c (.int .i64 6))⟩,
    ⟨some 10, none, .pick (.t 6) (.t 9) (.c (.bool false))⟩,
    ⟨some 11, none, .mov (.t 10)⟩,
    ⟨some 12, some (11, true), .fa 3 (.t 1)⟩,
    ⟨some 13, some (11, true), .ld 1 false (.t 12)⟩,
    ⟨some 14, some (11, true), .lenS (.t 13)⟩,
    ⟨some 15, some (11, true), .bin .leq (.t 14) (.c (.int .i64 60))⟩,
    ⟨some 16, none, .pick (.t 11) (.t 15) (.c (.bool false))⟩,
    ⟨some 17, none, .mov (.t 16)⟩,
    ⟨some 18, some (17, true), .fa 4 (.t 1)⟩,
    ⟨some 19, some (17, true), .ld 1 false (.t 18)⟩,
    ⟨some 20, some (17, true), .lenV (.t 19)⟩,
    ⟨some 21, some (17, true), .bin .leq (.t 20) (.c (.int .i64 300))⟩,
    ⟨some 22, none, .pick (.t 17) (.t 21) (.c (.bool false))⟩,
    ⟨some 23, none, .mov (.t 22)⟩,
    ⟨some 24, some (23, true), .fa 5 (.t 1)⟩,
    ⟨some 25, some (23, true), .ld 1 false (.t 24)⟩,
    ⟨some 26, some (23, true), .lenV (.t 25)⟩,
    ⟨some 27, some (23, true), .bin .leq (.t 26) (.c (.int .i64 12))⟩,
    ⟨some 28, none, .pick (.t 23) (.t 27) (.c (.bool false))⟩,
    ⟨some 2, none, .mov (.t 28)⟩] [2])
   (.ret)),
  [.t 2], 29, 1⟩
def A18 : Ann := ⟨[(0, [1]), (1, [2])], []⟩
set_option maxRecDepth 100000 in
theorem F18.ok : compF Try.prog A18 Try.f18 = some F18 := by kernel_rfl
theorem F18.fok : FOk Try.prog 18 F18 := fok_of mixed Try.func18 F18.ok

/-- cloakroom/req.Put -/
def F19 : SFn := ⟨.seq (.region [⟨some 1, none, .box (.t 0)⟩,
    ⟨some 2, none, .mov (.c (.slice none 0 0))⟩] [1])
   (.seq (.region [⟨some 4, none, .fa 0 (.t 1)⟩,
    ⟨some 5, none, .ld 1 false (.t 4)⟩,
    ⟨some 6, none, .conv .u8 (.t 5)⟩,
    ⟨some 7, none, .bslice 1 1 [.int .u8 0] [(0, 1, .t 6)]⟩,
    ⟨some 8, none, .fa 1 (.t 1)⟩,
    ⟨some 9, none, .ld 1 false (.t 8)⟩,
    ⟨some 10, none, .call 54 [.t 7, .t 9]⟩,
    ⟨some 3, none, .mov (.t 10)⟩] [1, 3])
   (.seq (.seq (.region [⟨some 11, none, .fa 0 (.t 1)⟩,
    ⟨some 12, none, .ld 1 false (.t 11)⟩] [1, 3, 12])
   (.block 0 (.seq (.region [⟨some 14, none, .bin .eql (.t 12) (.c (.int .i64 1))⟩,
    ⟨some 13, none, .mov (.t 14)⟩] [1, 3, 12, 13])
   (.cond (.t 13) (.seq (.region [⟨some 15, none, .mov (.t 3)⟩,
    ⟨some 16, none, .fa 4 (.t 1)⟩,
    ⟨some 17, none, .ld 1 false (.t 16)⟩,
    ⟨some 18, none, .app 1 1 (.t 15) (.t 17)⟩,
    ⟨some 2, none, .mov (.t 18)⟩] [2])
   (.ret)) (.seq (.region [⟨some 20, none, .bin .eql (.t 12) (.c (.int .i64 2))⟩,
    ⟨some 19, none, .mov (.t 20)⟩] [1, 3, 12, 19])
   (.cond (.t 19) (.seq (.region [⟨some 21, none, .mov (.t 3)⟩,
    ⟨some 22, none, .fa 2 (.t 1)⟩,
    ⟨some 23, none, .ld 1 false (.t 22)⟩,
    ⟨some 24, none, .bslice 1 1 [.int .u64 0] [(0, 1, .t 23)]⟩,
    ⟨some 26, none, .fa 3 (.t 1)⟩,
    ⟨some 27, none, .ld 1 false (.t 26)⟩,
    ⟨some 25, none, .call 56 [.t 21, .t 24]⟩,
    ⟨none, none, .chk 1 false (.t 26) 27⟩,
    ⟨some 28, none, .call 55 [.t 25, .t 27]⟩,
    ⟨some 2, none, .mov (.t 28)⟩] [2])
   (.ret)) (.seq (.region [⟨some 30, none, .bin .eql (.t 12) (.c (.int .i64 3))⟩,
    ⟨some 29, none, .mov (.t 30)⟩] [1, 3, 12, 29])
   (.cond (.t 29) (.seq (.region [⟨some 31, none, .mov (.t 3)⟩,
    ⟨some 32, none, .fa 3 (.t 1)⟩,
    ⟨some 33, none, .ld 1 false (.t 32)⟩,
    ⟨some 34, none, .call 55 [.t 31, .t 33]⟩,
    ⟨some 2, none, .mov (.t 34)⟩] [2])
   (.ret)) (.seq (.region [⟨some 36, none, .bin .eql (.t 12) (.c (.int .i64 4))⟩,
    ⟨some 35, none, .mov (.t 36)⟩] [1, 3, 12, 35])
   (.cond (.t 35) (.seq (.region [⟨some 37, none, .mov (.t 3)⟩,
    ⟨some 38, none, .fa 2 (.t 1)⟩,
    ⟨some 39, none, .ld 1 false (.t 38)⟩,
    ⟨some 40, none, .bslice 1 1 [.int .u64 0] [(0, 1, .t 39)]⟩,
    ⟨some 42, none, .fa 3 (.t 1)⟩,
    ⟨some 43, none, .ld 1 false (.t 42)⟩,
    ⟨some 45, none, .fa 5 (.t 1)⟩,
    ⟨some 46, none, .ld 1 false (.t 45)⟩,
    ⟨some 47, none, .lenV (.t 46)⟩,
    ⟨some 48, none, .conv .u64 (.t 47)⟩,
    ⟨some 49, none, .bslice 1 1 [.int .u64 0] [(0, 1, .t 48)]⟩,
    ⟨some 41, none, .call 56 [.t 37, .t 40]⟩,
    ⟨none, none, .chk 1 false (.t 42) 43⟩,
    ⟨none, none, .chk 1 false (.t 45) 46⟩,
    ⟨some 44, none, .call 55 [.t 41, .t 43]⟩,
    ⟨none, none, .chk 1 false (.t 45) 46⟩,
    ⟨some 50, none, .call 56 [.t 44, .t 49]⟩,
    ⟨some 3, none, .mov (.t 50)⟩] [1, 3])
   (.seq (.region [⟨some 51, none, .mov (.t 3)⟩,
    ⟨some 52, none, .fa 5 (.t 1)⟩,
    ⟨some 53, none, .ld 1 false (.t 52)⟩,
    ⟨some 55, none, .fa 6 (.t 1)⟩,
    ⟨some 56, none, .ld 1 false (.t 55)⟩,
    ⟨some 57, none, .bslice 1 1 [.int .u64 0] [(0, 1, .t 56)]⟩,
    ⟨some 54, none, .call 56 [.t 51, .t 53]⟩,
    ⟨none, none, .chk 1 false (.t 55) 56⟩,
    ⟨some 58, none, .call 56 [.t 54, .t 57]⟩,
    ⟨some 2, none, .mov (.t 58)⟩] [2])
   (.ret))) (.seq (.region [⟨some 60, none, .bin .eql (.t 12) (.c (.int .i64 5))⟩,
    ⟨some 59, none, .mov (.t 60)⟩] [1, 3, 12, 59])
   (.cond (.t 59) (.seq (.region [⟨some 61, none, .mov (.t 3)⟩,
    ⟨some 62, none, .fa 2 (.t 1)⟩,
    ⟨some 63, none, .ld 1 false (.t 62)⟩,
    ⟨some 64, none, .bslice 1 1 [.int .u64 0] [(0, 1, .t 63)]⟩,
    ⟨some 65, none, .call 56 [.t 61, .t 64]⟩,
    ⟨some 2, none, .mov (.t 65)⟩] [2])
   (.ret)) (.seq (.region [⟨some 67, none, .bin .eql (.t 12) (.c (.int .i64 6))⟩,
    ⟨some 66, none, .mov (.t 67)⟩] [1, 3, 66])
   (.cond (.t 66) (.seq (.region [⟨some 68, none, .mov (.t 3)⟩,
    ⟨some 69, none, .fa 7 (.t 1)⟩,
    ⟨some 70, none, .ld 1 false (.t 69)⟩,
    ⟨some 71, none, .call 54 [.t 68, .t 70]⟩,
    ⟨some 2, none, .mov (.t 71)⟩] [2])
   (.ret)) (.skip)))))))))))))))
   (.seq (.region [⟨some 72, none, .mov (.t 3)⟩,
    ⟨some 2, none, .mov (.t 72)⟩] [2])
   (.ret)))),
  [.t 2], 73, 1⟩
def A19 : Ann := ⟨[(0, [1]), (1, [1, 3]), (2, [1, 3, 12]), (3, [1, 3, 12, 13]), (4, [2]), (5, [1, 3, 12, 19]), (6, [2]), (7, [1, 3, 12, 29]), (8, [2]), (9, [1, 3, 12, 35]), (10, [1, 3]), (11, [2]), (12, [1, 3, 12, 59]), (13, [2]), (14, [1, 3, 66]), (15, [2]), (16, [2])], [(6, [(0, []), (1, []), (2, []), (3, []), (5, []), (6, []), (4, [6]), (7, []), (8, [])], [(2, [1]), (3, [1, 2]), (4, [0, 1, 2, 3]), (6, [5]), (7, [0, 1, 2, 3, 4, 5, 6]), (8, [0, 1, 2, 3, 4, 5, 6, 7])]),
  (10, [(0, []), (1, []), (2, []), (3, []), (5, []), (6, []), (8, []), (9, []), (10, []), (11, []), (12, []), (4, [6, 9]), (7, [9]), (13, []), (14, [])], [(2, [1]), (3, [1, 2]), (4, [0, 1, 2, 3]), (6, [5]), (7, [0, 1, 2, 3, 4, 5, 6]), (9, [8]), (10, [8, 9]), (11, [8, 9, 10]), (12, [8, 9, 10, 11]), (13, [0, 1, 2, 3, 4, 5, 6, 7, 8, 9, 10, 11, 12]), (14, [0, 1, 2, 3, 4, 5, 6, 7, 8, 9, 10, 11, 12, 13])]),
  (11, [(0, []), (1, []), (2, []), (4, []), (5, []), (6, []), (3, [5]), (7, []), (8, [])], [(2, [1]), (3, [0, 1, 2]), (5, [4]), (6, [4, 5]), (7, [0, 1, 2, 3, 4, 5, 6]), (8, [0, 1, 2, 3, 4, 5, 6, 7])])]⟩
set_option maxRecDepth 100000 in
theorem F19.ok : compF Try.prog A19 Try.f19 = some F19 := by kernel_rfl
theorem F19.fok : FOk Try.prog 19 F19 := fok_of mixed Try.func19 F19.ok

/-- cloakroom/cloakroomref1.PutRequest -/
def F20 : SFn := ⟨.seq (.region [⟨some 1, none, .box (.t 0)⟩,
    ⟨some 2, none, .mov (.c (.slice none 0 0))⟩] [1])
   (.seq (.region [⟨some 5, none, .fa 0 (.t 1)⟩,
    ⟨some 6, none, .ld 1 false (.t 5)⟩,
    ⟨some 7, none, .conv .u8 (.t 6)⟩,
    ⟨some 8, none, .bslice 1 1 [.int .u8 0] [(0, 1, .t 7)]⟩,
    ⟨some 9, none, .fa 1 (.t 1)⟩,
    ⟨some 10, none, .ld 1 false (.t 9)⟩,
    ⟨some 11, none, .call 57 [.t 8, .t 10]⟩,
    ⟨some 3, none, .mov (.t 11)⟩] [1, 3])
   (.seq (.seq (.region [⟨some 12, none, .fa 0 (.t 1)⟩,
    ⟨some 13, none, .ld 1 false (.t 12)⟩] [1, 3, 13])
   (.block 0 (.seq (.region [⟨some 15, none, .bin .eql (.t 13) (.c (.int .i64 1))⟩,
    ⟨some 14, none, .mov (.t 15)⟩] [1, 3, 13, 14])
   (.cond (.t 14) (.seq (.region [⟨some 16, none, .mov (.t 3)⟩,
    ⟨some 17, none, .fa 4 (.t 1)⟩,
    ⟨some 18, none, .ld 1 false (.t 17)⟩,
    ⟨some 19, none, .app 1 1 (.t 16) (.t 18)⟩,
    ⟨some 2, none, .mov (.t 19)⟩] [2])
   (.ret)) (.seq (.region [⟨some 21, none, .bin .eql (.t 13) (.c (.int .i64 2))⟩,
    ⟨some 20, none, .mov (.t 21)⟩] [1, 3, 13, 20])
   (.cond (.t 20) (.seq (.region [⟨some 22, none, .mov (.t 3)⟩,
    ⟨some 23, none, .fa 2 (.t 1)⟩,
    ⟨some 24, none, .ld 1 false (.t 23)⟩,
    ⟨some 26, none, .fa 3 (.t 1)⟩,
    ⟨some 27, none, .ld 1 false (.t 26)⟩,
    ⟨some 25, none, .call 59 [.t 22, .t 24]⟩,
    ⟨none, none, .chk 1 false (.t 26) 27⟩,
    ⟨some 28, none, .call 58 [.t 25, .t 27]⟩,
    ⟨some 2, none, .mov (.t 28)⟩] [2])
   (.ret)) (.seq (.region [⟨some 30, none, .bin .eql (.t 13) (.c (.int .i64 3))⟩,
    ⟨some 29, none, .mov (.t 30)⟩] [1, 3, 13, 29])
   (.cond (.t 29) (.seq (.region [⟨some 31, none, .mov (.t 3)⟩,
    ⟨some 32, none, .fa 3 (.t 1)⟩,
    ⟨some 33, none, .ld 1 false (.t 32)⟩,
    ⟨some 34, none, .call 58 [.t 31, .t 33]⟩,
    ⟨some 2, none, .mov (.t 34)⟩] [2])
   (.ret)) (.seq (.region [⟨some 36, none, .bin .eql (.t 13) (.c (.int .i64 4))⟩,
    ⟨some 35, none, .mov (.t 36)⟩] [1, 3, 13, 35])
   (.cond (.t 35) (.seq (.region [⟨some 37, none, .mov (.t 3)⟩,
    ⟨some 38, none, .fa 2 (.t 1)⟩,
    ⟨some 39, none, .ld 1 false (.t 38)⟩,
    ⟨some 41, none, .fa 3 (.t 1)⟩,
    ⟨some 42, none, .ld 1 false (.t 41)⟩,
    ⟨some 44, none, .fa 5 (.t 1)⟩,
    ⟨some 45, none, .ld 1 false (.t 44)⟩,
    ⟨some 46, none, .lenV (.t 45)⟩,
    ⟨some 47, none, .conv .u64 (.t 46)⟩,
    ⟨some 40, none, .call 59 [.t 37, .t 39]⟩,
    ⟨none, none, .chk 1 false (.t 41) 42⟩,
    ⟨none, none, .chk 1 false (.t 44) 45⟩,
    ⟨some 43, none, .call 58 [.t 40, .t 42]⟩,
    ⟨none, none, .chk 1 false (.t 44) 45⟩,
    ⟨some 48, none, .call 59 [.t 43, .t 47]⟩,
    ⟨some 3, none, .mov (.t 48)⟩] [1, 3])
   (.seq (.seq (.region [⟨some 4, none, .mov (.c (.int .i64 0))⟩] [1, 3, 4])
   (.block 1 (.loop (.seq (.seq (.region [⟨some 49, none, .mov (.t 4)⟩,
    ⟨some 50, none, .fa 5 (.t 1)⟩,
    ⟨some 51, none, .ld 1 false (.t 50)⟩,
    ⟨some 52, none, .lenV (.t 51)⟩,
    ⟨some 53, none, .bin .lss (.t 49) (.t 52)⟩] [1, 3, 4, 53])
   (.cond (.t 53) (.skip) (.exit 1)))
   (.seq (.block 2 (.region [⟨some 56, none, .mov (.t 3)⟩,
    ⟨some 57, none, .fa 5 (.t 1)⟩,
    ⟨some 58, none, .ld 1 false (.t 57)⟩,
    ⟨some 59, none, .mov (.t 4)⟩,
    ⟨some 60, none, .iaV 1 (.t 58) (.t 59)⟩,
    ⟨some 61, none, .ld 1 false (.t 60)⟩,
    ⟨some 62, none, .call 59 [.t 56, .t 61]⟩,
    ⟨some 3, none, .mov (.t 62)⟩] [1, 3, 4]))
   (.region [⟨some 54, none, .mov (.t 4)⟩,
    ⟨some 55, none, .bin .add (.t 54) (.c (.int .i64 1))⟩,
    ⟨some 4, none, .mov (.t 55)⟩] [1, 3, 4]))))))
   (.seq (.region [⟨some 63, none, .mov (.t 3)⟩,
    ⟨some 64, none, .fa 6 (.t 1)⟩,
    ⟨some 65, none, .ld 1 false (.t 64)⟩,
    ⟨some 66, none, .call 59 [.t 63, .t 65]⟩,
    ⟨some 2, none, .mov (.t 66)⟩] [2])
   (.ret)))) (.seq (.region [⟨some 68, none, .bin .eql (.t 13) (.c (.int .i64 5))⟩,
    ⟨some 67, none, .mov (.t 68)⟩] [1, 3, 67])
   (.cond (.t 67) (.seq (.region [⟨some 69, none, .mov (.t 3)⟩,
    ⟨some 70, none, .fa 2 (.t 1)⟩,
    ⟨some 71, none, .ld 1 false (.t 70)⟩,
    ⟨some 72, none, .call 59 [.t 69, .t 71]⟩,
    ⟨some 2, none, .mov (.t 72)⟩] [2])
   (.ret)) (.skip)))))))))))))
   (.seq (.region [⟨some 73, none, .mov (.t 3)⟩,
    ⟨some 74, none, .fa 7 (.t 1)⟩,
    ⟨some 75, none, .ld 1 false (.t 74)⟩,
    ⟨some 76, none, .call 57 [.t 73, .t 75]⟩,
    ⟨some 2, none, .mov (.t 76)⟩] [2])
   (.ret)))),
  [.t 2], 77, 1⟩
def A20 : Ann := ⟨[(0, [1]), (1, [1, 3]), (2, [1, 3, 13]), (3, [1, 3, 13, 14]), (4, [2]), (5, [1, 3, 13, 20]), (6, [2]), (7, [1, 3, 13, 29]), (8, [2]), (9, [1, 3, 13, 35]), (10, [1, 3]), (11, [1, 3, 4]), (12, [1, 3, 4, 53]), (13, [1, 3, 4]), (14, [1, 3, 4]), (15, [2]), (16, [1, 3, 67]), (17, [2]), (18, [2])], [(6, [(0, []), (1, []), (2, []), (4, []), (5, []), (3, [5]), (6, []), (7, [])], [(2, [1]), (3, [0, 1, 2]), (5, [4]), (6, [0, 1, 2, 3, 4, 5]), (7, [0, 1, 2, 3, 4, 5, 6])]),
  (10, [(0, []), (1, []), (2, []), (4, []), (5, []), (7, []), (8, []), (9, []), (10, []), (3, [5, 8]), (6, [8]), (11, []), (12, [])], [(2, [1]), (3, [0, 1, 2]), (5, [4]), (6, [0, 1, 2, 3, 4, 5]), (8, [7]), (9, [7, 8]), (10, [7, 8, 9]), (11, [0, 1, 2, 3, 4, 5, 6, 7, 8, 9, 10]), (12, [0, 1, 2, 3, 4, 5, 6, 7, 8, 9, 10, 11])])]⟩
set_option maxRecDepth 100000 in
theorem F20.ok : compF Try.prog A20 Try.f20 = some F20 := by kernel_rfl
theorem F20.fok : FOk Try.prog 20 F20 := fok_of mixed Try.func20 F20.ok

/-- cloakroom/req.Same -/
def F21 : SFn := ⟨.seq (.region [⟨some 2, none, .box (.t 0)⟩,
    ⟨some 3, none, .box (.t 1)⟩,
    ⟨some 4, none, .mov (.c (.bool false))⟩] [2, 3])
   (.seq (.region [⟨some 5, none, .fa 0 (.t 2)⟩,
    ⟨some 6, none, .ld 1 false (.t 5)⟩,
    ⟨some 7, none, .fa 0 (.t 3)⟩,
    ⟨some 8, none, .ld 1 false (.t 7)⟩,
    ⟨some 9, none, .bin .eql (.t 6) (.t 8)⟩,
    ⟨some 10, none, .mov (.t 9)⟩,
    ⟨some 11, some (10, true), .fa 1 (.t 2)⟩,
    ⟨some 12, some (10, true), .ld 1 false (.t 11)⟩,
    ⟨some 13, some (10, true), .fa 1 (.t 3)⟩,
    ⟨some 14, some (10, true), .ld 1 false (.t 13)⟩,
    ⟨some 15, some (10, true), .bin .eql (.t 12) (.t 14)⟩,
    ⟨some 16, none, .pick (.t 10) (.t 15) (.c (.bool false))⟩,
    ⟨some 17, none, .mov (.t 16)⟩,
    ⟨some 18, some (17, true), .fa 2 (.t 2)⟩,
    ⟨some 19, some (17, true), .ld 1 false (.t 18)⟩,
    ⟨some 20, some (17, true), .fa 2 (.t 3)⟩,
    ⟨some 21, some (17, true), .ld 1 false (.t 20)⟩,
    ⟨some 22, some (17, true), .bin .eql (.t 19) (.t 21)⟩,
    ⟨some 23, none, .pick (.t 17) (.t 22) (.c (.bool false))⟩,
    ⟨some 24, none, .mov (.t 23)⟩,
    ⟨some 25, some (24, true), .fa 3 (.t 2)⟩,
    ⟨some 26, some (24, true), .ld 1 false (.t 25)⟩,
    ⟨some 27, some (24, true), .fa 3 (.t 3)⟩,
    ⟨some 28, some (24, true), .ld 1 false (.t 27)⟩,
    ⟨some 29, some (24, true), .bin .eql (.t 26) (.t 28)⟩,
    ⟨some 30, none, .pick (.t 24) (.t 29) (.c (.bool false))⟩,
    ⟨some 31, none, .mov (.t 30)⟩,
    ⟨some 32, some (31, true), .fa 4 (.t 2)⟩,
    ⟨some 33, some (31, true), .ld 1 false (.t 32)⟩,
    ⟨some 34, some (31, true), .fa 4 (.t 3)⟩,
    ⟨some 35, some (31, true), .ld 1 false (.t 34)⟩,
    ⟨some 36, some (31, true), .call 60 [.t 33, .t 35]⟩,
    ⟨some 37, none, .pick (.t 31) (.t 36) (.c (.bool false))⟩,
    ⟨some 38, none, .mov (.t 37)⟩,
    ⟨some 39, some (38, true), .fa 5 (.t 2)⟩,
    ⟨some 40, some (38, true), .ld 1 false (.t 39)⟩,
    ⟨some 41, some (38, true), .fa 5 (.t 3)⟩,
    ⟨some 42, some (38, true), .ld 1 false (.t 41)⟩,
    ⟨some 43, some (38, true), .call 61 [.t 40, .t 42]⟩,
    ⟨some 44, none, .pick (.t 38) (.t 43) (.c (.bool false))⟩,
    ⟨some 45, none, .mov (.t 44)⟩,
    ⟨some 46, some (45, true), .fa 6 (.t 2)⟩,
    ⟨some 47, some (45, true), .ld 1 false (.t 46)⟩,
    ⟨some 48, some (45, true), .fa 6 (.t 3)⟩,
    ⟨some 49, some (45, true), .ld 1 false (.t 48)⟩,
    ⟨some 50, some (45, true), .bin .eql (.t 47) (.t 49)⟩,
    ⟨some 51, none, .pick (.t 45) (.t 50) (.c (.bool false))⟩,
    ⟨some 52, none, .mov (.t 51)⟩,
    ⟨some 53, some (52, true), .fa 7 (.t 2)⟩,
    ⟨some 54, some (52, true), .ld 1 false (.t 53)⟩,
    ⟨some 55, some (52, true), .fa 7 (.t 3)⟩,
    ⟨some 56, some (52, true), .ld 1 false (.t 55)⟩,
    ⟨some 57, some (52, true), .bin .eql (.t 54) (.t 56)⟩,
    ⟨some 58, none, .pick (.t 52) (.t 57) (.c (.bool false))⟩,
    ⟨some 4, none, .mov (.t 58)⟩] [4])
   (.ret)),
  [.t 4], 59, 2⟩
def A21 : Ann := ⟨[(0, [2, 3]), (1, [4])], []⟩
set_option maxRecDepth 100000 in
theorem F21.ok : compF Try.prog A21 Try.f21 = some F21 := by kernel_rfl
theorem F21.fok : FOk Try.prog 21 F21 := fok_of mixed Try.func21 F21.ok

/-- cloakroom/cloakroomlaw0.Place -/
def F22 : SFn := ⟨.seq (.region [⟨some 4, none, .mov (.c (.int .i64 0))⟩] [0, 1])
   (.seq (.seq (.region [⟨some 5, none, .mov (.t 1)⟩,
    ⟨some 6, none, .bin .lss (.t 5) (.c (.int .i64 1))⟩] [0, 1, 6])
   (.cond (.t 6) (.seq (.region [⟨some 4, none, .mov (.c (.int .i64 0))⟩] [4])
   (.ret)) (.skip)))
   (.seq (.region [⟨some 7, none, .mov (.t 0)⟩,
    ⟨some 8, none, .mov (.t 1)⟩,
    ⟨some 9, none, .bin .rem (.t 7) (.t 8)⟩,
    ⟨some 0, none, .mov (.t 9)⟩] [0, 1])
   (.seq (.seq (.region [⟨some 10, none, .mov (.t 0)⟩,
    ⟨some 11, none, .bin .lss (.t 10) (.c (.int .i64 0))⟩] [0, 1, 11])
   (.cond (.t 11) (.region [⟨some 12, none, .mov (.t 0)⟩,
    ⟨some 13, none, .mov (.t 1)⟩,
    ⟨some 14, none, .bin .add (.t 12) (.t 13)⟩,
    ⟨some 0, none, .mov (.t 14)⟩] [0]) (.skip)))
   (.seq (.region [⟨some 15, none, .mov (.t 0)⟩,
    ⟨some 4, none, .mov (.t 15)⟩] [4])
   (.ret))))),
  [.t 4], 16, 2⟩
def A22 : Ann := ⟨[(0, [0, 1]), (1, [0, 1, 6]), (2, [4]), (3, [0, 1]), (4, [0, 1, 11]), (5, [0]), (6, [4])], []⟩
set_option maxRecDepth 100000 in
theorem F22.ok : compF Try.prog A22 Try.f22 = some F22 := by kernel_rfl
theorem F22.fok : FOk Try.prog 22 F22 := fok_of mixed Try.func22 F22.ok

/-- cloakroom/cloakroomref1.SameNums -/
def F23 : SFn := ⟨.seq (.region [⟨some 4, none, .mov (.c (.bool false))⟩] [0, 1])
   (.seq (.seq (.region [⟨some 6, none, .mov (.t 0)⟩,
    ⟨some 7, none, .lenV (.t 6)⟩,
    ⟨some 8, none, .mov (.t 1)⟩,
    ⟨some 9, none, .lenV (.t 8)⟩,
    ⟨some 10, none, .bin .neq (.t 7) (.t 9)⟩] [0, 1, 10])
   (.cond (.t 10) (.seq (.region [⟨some 4, none, .mov (.c (.bool false))⟩] [4])
   (.ret)) (.skip)))
   (.seq (.seq (.region [⟨some 5, none, .mov (.c (.int .i64 0))⟩] [0, 1, 5])
   (.block 0 (.loop (.seq (.seq (.region [⟨some 11, none, .mov (.t 5)⟩,
    ⟨some 12, none, .mov (.t 0)⟩,
    ⟨some 13, none, .lenV (.t 12)⟩,
    ⟨some 14, none, .bin .lss (.t 11) (.t 13)⟩] [0, 1, 5, 14])
   (.cond (.t 14) (.skip) (.exit 0)))
   (.seq (.block 1 (.seq (.region [⟨some 17, none, .mov (.t 0)⟩,
    ⟨some 18, none, .mov (.t 5)⟩,
    ⟨some 19, none, .iaV 1 (.t 17) (.t 18)⟩,
    ⟨some 20, none, .ld 1 false (.t 19)⟩,
    ⟨some 21, none, .mov (.t 1)⟩,
    ⟨some 22, none, .mov (.t 5)⟩,
    ⟨some 23, none, .iaV 1 (.t 21) (.t 22)⟩,
    ⟨some 24, none, .ld 1 false (.t 23)⟩,
    ⟨some 25, none, .bin .neq (.t 20) (.t 24)⟩] [0, 1, 5, 25])
   (.cond (.t 25) (.seq (.region [⟨some 4, none, .mov (.c (.bool false))⟩] [4])
   (.ret)) (.skip))))
   (.region [⟨some 15, none, .mov (.t 5)⟩,
    ⟨some 16, none, .bin .add (.t 15) (.c (.int .i64 1))⟩,
    ⟨some 5, none, .mov (.t 16)⟩] [0, 1, 5]))))))
   (.seq (.region [⟨some 4, none, .mov (.c (.bool true))⟩] [4])
   (.ret)))),
  [.t 4], 26, 2⟩
def A23 : Ann := ⟨[(0, [0, 1]), (1, [0, 1, 10]), (2, [4]), (3, [0, 1, 5]), (4, [0, 1, 5, 14]), (5, [0, 1, 5]), (6, [0, 1, 5, 25]), (7, [4]), (8, [4])], [(6, [(0, []), (1, []), (2, []), (3, []), (4, []), (5, []), (6, []), (7, []), (8, [])], [(2, [0, 1]), (3, [0, 1, 2]), (6, [4, 5]), (7, [4, 5, 6]), (8, [0, 1, 2, 3, 4, 5, 6, 7])])]⟩
set_option maxRecDepth 100000 in
theorem F23.ok : compF Try.prog A23 Try.f23 = some F23 := by kernel_rfl
theorem F23.fok : FOk Try.prog 23 F23 := fok_of mixed Try.func23 F23.ok

/-- cloakroom/req.PutReply -/
def F24 : SFn := ⟨.seq (.region [⟨some 1, none, .box (.t 0)⟩,
    ⟨some 2, none, .mov (.c (.slice none 0 0))⟩] [1])
   (.seq (.region [⟨some 4, none, .fa 0 (.t 1)⟩,
    ⟨some 5, none, .ld 1 false (.t 4)⟩,
    ⟨some 7, none, .fa 1 (.t 1)⟩,
    ⟨some 8, none, .ld 1 false (.t 7)⟩,
    ⟨some 9, none, .conv .u8 (.t 8)⟩,
    ⟨some 10, none, .bslice 1 1 [.int .u8 0] [(0, 1, .t 9)]⟩,
    ⟨some 6, none, .call 54 [.c (.slice none 0 0), .t 5]⟩,
    ⟨none, none, .chk 1 false (.t 7) 8⟩,
    ⟨some 11, none, .app 1 1 (.t 6) (.t 10)⟩,
    ⟨some 3, none, .mov (.t 11)⟩] [1, 3])
   (.seq (.region [⟨some 12, none, .mov (.t 3)⟩,
    ⟨some 13, none, .fa 2 (.t 1)⟩,
    ⟨some 14, none, .ld 1 false (.t 13)⟩,
    ⟨some 15, none, .fa 3 (.t 1)⟩,
    ⟨some 16, none, .ld 1 false (.t 15)⟩,
    ⟨some 17, none, .lenV (.t 16)⟩,
    ⟨some 18, none, .conv .u64 (.t 17)⟩,
    ⟨some 19, none, .bslice 2 1 [.int .u64 0] [(0, 1, .t 14), (1, 1, .t 18)]⟩,
    ⟨some 21, none, .fa 3 (.t 1)⟩,
    ⟨some 22, none, .ld 1 false (.t 21)⟩,
    ⟨some 20, none, .call 56 [.t 12, .t 19]⟩,
    ⟨none, none, .chk 1 false (.t 21) 22⟩,
    ⟨some 23, none, .call 56 [.t 20, .t 22]⟩,
    ⟨some 2, none, .mov (.t 23)⟩] [2])
   (.ret))),
  [.t 2], 24, 1⟩
def A24 : Ann := ⟨[(0, [1]), (1, [1, 3]), (2, [2])], [(1, [(0, []), (1, []), (3, []), (4, []), (5, []), (6, []), (2, [4]), (7, []), (8, [])], [(1, [0]), (2, [0, 1]), (4, [3]), (5, [3, 4]), (6, [3, 4, 5]), (7, [0, 1, 2, 3, 4, 5, 6]), (8, [0, 1, 2, 3, 4, 5, 6, 7])]),
  (2, [(0, []), (1, []), (2, []), (3, []), (4, []), (5, []), (6, []), (7, []), (9, []), (10, []), (8, [10]), (11, []), (12, [])], [(2, [1]), (4, [3]), (5, [3, 4]), (6, [3, 4, 5]), (7, [1, 2, 3, 4, 5, 6]), (8, [0, 1, 2, 3, 4, 5, 6, 7]), (10, [9]), (11, [0, 1, 2, 3, 4, 5, 6, 7, 8, 9, 10]), (12, [0, 1, 2, 3, 4, 5, 6, 7, 8, 9, 10, 11])])]⟩
set_option maxRecDepth 100000 in
theorem F24.ok : compF Try.prog A24 Try.f24 = some F24 := by kernel_rfl
theorem F24.fok : FOk Try.prog 24 F24 := fok_of mixed Try.func24 F24.ok

/-- cloakroom/req.TakeReply -/
def F25 : SFn := ⟨.seq (.region [⟨some 2, none, .new [.int .u64 0, .int .i64 0, .int .u64 0, .slice none 0 0]⟩,
    ⟨some 3, none, .mov (.c (.int .i64 0))⟩] [0, 2])
   (.seq (.region [⟨some 4, none, .new [.int .u64 0, .int .i64 0, .int .u64 0, .slice none 0 0]⟩] [0, 2, 4])
   (.seq (.region [⟨some 7, none, .mov (.t 0)⟩,
    ⟨some 8, none, .build [.slice none 0 0, .int .i64 0] [(0, 1, .t 7)]⟩,
    ⟨some 9, none, .box (.t 8)⟩,
    ⟨some 5, none, .mov (.t 9)⟩] [2, 4, 5])
   (.seq (.region [⟨some 10, none, .mov (.t 5)⟩,
    ⟨some 11, none, .call 62 [.t 10, .c (.int .u64 8)]⟩,
    ⟨some 12, none, .fa 0 (.t 4)⟩,
    ⟨none, none, .st 1 (.t 12) (.t 11)⟩] [2, 4, 5])
   (.seq (.region [⟨some 13, none, .mov (.t 5)⟩,
    ⟨some 14, none, .call 62 [.t 13, .c (.int .u64 1)]⟩,
    ⟨some 15, none, .conv .i64 (.t 14)⟩,
    ⟨some 16, none, .fa 1 (.t 4)⟩,
    ⟨none, none, .st 1 (.t 16) (.t 15)⟩] [2, 4, 5])
   (.seq (.region [⟨some 17, none, .mov (.t 5)⟩,
    ⟨some 18, none, .fa 1 (.t 4)⟩,
    ⟨some 19, none, .ld 1 false (.t 18)⟩,
    ⟨some 20, none, .bin .gtr (.t 19) (.c (.int .i64 17))⟩,
    ⟨some 21, none, .call 63 [.t 17, .t 20, .c (.int .i64 2)]⟩] [2, 4, 5])
   (.seq (.region [⟨some 22, none, .mov (.t 5)⟩,
    ⟨some 23, none, .call 64 [.t 22]⟩,
    ⟨some 24, none, .fa 2 (.t 4)⟩,
    ⟨none, none, .st 1 (.t 24) (.t 23)⟩] [2, 4, 5])
   (.seq (.region [⟨some 25, none, .mov (.t 5)⟩,
    ⟨some 26, none, .call 65 [.t 25]⟩,
    ⟨some 27, none, .fa 3 (.t 4)⟩,
    ⟨none, none, .st 1 (.t 27) (.t 26)⟩] [2, 4, 5])
   (.seq (.seq (.region [⟨some 28, none, .mov (.t 5)⟩,
    ⟨some 29, none, .call 45 [.t 28]⟩,
    ⟨some 6, none, .mov (.t 29)⟩] [2, 4, 6])
   (.seq (.region [⟨some 30, none, .mov (.t 6)⟩,
    ⟨some 31, none, .bin .neq (.t 30) (.c (.int .i64 0))⟩] [2, 4, 6, 31])
   (.cond (.t 31) (.seq (.region [⟨some 32, none, .build [.int .u64 0, .int .i64 0, .int .u64 0, .slice none 0 0] []⟩,
    ⟨some 33, none, .mov (.t 6)⟩,
    ⟨none, none, .st 4 (.t 2) (.t 32)⟩,
    ⟨some 3, none, .mov (.t 33)⟩] [2, 3])
   (.ret)) (.skip))))
   (.seq (.region [⟨some 34, none, .ld 4 true (.t 4)⟩,
    ⟨none, none, .st 4 (.t 2) (.t 34)⟩,
    ⟨some 3, none, .mov (.c (.int .i64 0))⟩] [2, 3])
   (.ret)))))))))),
  [.c 2 4 true, .t 3], 35, 1⟩
def A25 : Ann := ⟨[(0, [0, 2]), (1, [0, 2, 4]), (2, [2, 4, 5]), (3, [2, 4, 5]), (4, [2, 4, 5]), (5, [2, 4, 5]), (6, [2, 4, 5]), (7, [2, 4, 5]), (8, [2, 4, 6]), (9, [2, 4, 6, 31]), (10, [2, 3]), (11, [2, 3])], []⟩
set_option maxRecDepth 100000 in
theorem F25.ok : compF Try.prog A25 Try.f25 = some F25 := by kernel_rfl
theorem F25.fok : FOk Try.prog 25 F25 := fok_of mixed Try.func25 F25.ok

/-- cloakroom/cloakroomref1.SameReply -/
def F26 : SFn := ⟨.seq (.region [⟨some 2, none, .box (.t 0)⟩,
    ⟨some 3, none, .box (.t 1)⟩,
    ⟨some 4, none, .mov (.c (.bool false))⟩] [2, 3])
   (.seq (.region [⟨some 5, none, .fa 0 (.t 2)⟩,
    ⟨some 6, none, .ld 1 false (.t 5)⟩,
    ⟨some 7, none, .fa 0 (.t 3)⟩,
    ⟨some 8, none, .ld 1 false (.t 7)⟩,
    ⟨some 9, none, .bin .eql (.t 6) (.t 8)⟩,
    ⟨some 10, none, .mov (.t 9)⟩,
    ⟨some 11, some (10, true), .fa 1 (.t 2)⟩,
    ⟨some 12, some (10, true), .ld 1 false (.t 11)⟩,
    ⟨some 13, some (10, true), .fa 1 (.t 3)⟩,
    ⟨some 14, some (10, true), .ld 1 false (.t 13)⟩,
    ⟨some 15, some (10, true), .bin .eql (.t 12) (.t 14)⟩,
    ⟨some 16, none, .pick (.t 10) (.t 15) (.c (.bool false))⟩,
    ⟨some 17, none, .mov (.t 16)⟩,
    ⟨some 18, some (17, true), .fa 2 (.t 2)⟩,
    ⟨some 19, some (17, true), .ld 1 false (.t 18)⟩,
    ⟨some 20, some (17, true), .fa 2 (.t 3)⟩,
    ⟨some 21, some (17, true), .ld 1 false (.t 20)⟩,
    ⟨some 22, some (17, true), .bin .eql (.t 19) (.t 21)⟩,
    ⟨some 23, none, .pick (.t 17) (.t 22) (.c (.bool false))⟩,
    ⟨some 24, none, .mov (.t 23)⟩,
    ⟨some 25, some (24, true), .fa 3 (.t 2)⟩,
    ⟨some 26, some (24, true), .ld 1 false (.t 25)⟩,
    ⟨some 27, some (24, true), .fa 3 (.t 3)⟩,
    ⟨some 28, some (24, true), .ld 1 false (.t 27)⟩,
    ⟨some 29, some (24, true), .call 23 [.t 26, .t 28]⟩,
    ⟨some 30, none, .pick (.t 24) (.t 29) (.c (.bool false))⟩,
    ⟨some 4, none, .mov (.t 30)⟩] [4])
   (.ret)),
  [.t 4], 31, 2⟩
def A26 : Ann := ⟨[(0, [2, 3]), (1, [4])], []⟩
set_option maxRecDepth 100000 in
theorem F26.ok : compF Try.prog A26 Try.f26 = some F26 := by kernel_rfl
theorem F26.fok : FOk Try.prog 26 F26 := fok_of mixed Try.func26 F26.ok

/-- cloakroom/cloakroomlaw26.begun -/
def F27 : SFn := ⟨.seq (.region [⟨some 0, none, .mov (.c (.bool false))⟩] [])
   (.seq (.region [⟨some 4, none, .call 29 [.c (.int .i64 1)]⟩,
    ⟨some 1, none, .mov (.t 4)⟩] [1])
   (.seq (.seq (.region [⟨some 5, none, .mov (.t 1)⟩,
    ⟨some 6, none, .eqk false .ptr (.t 5) (.c (.pointer none))⟩] [1, 6])
   (.cond (.t 6) (.seq (.region [⟨some 0, none, .mov (.c (.bool false))⟩] [0])
   (.ret)) (.skip)))
   (.seq (.region [⟨some 8, none, .mov (.t 1)⟩,
    ⟨some 9, none, .bslice 3 1 [.int .u8 0] [(0, 1, .c (.int .u8 0)), (1, 1, .c (.int .u8 1)), (2, 1, .c (.int .u8 9))]⟩,
    ⟨some 10, none, .call 30 [.t 8, .t 9]⟩,
    ⟨some 7, none, .mov (.t 10)⟩,
    ⟨some 11, none, .ext (.t 7) 0⟩,
    ⟨some 12, none, .ext (.t 7) 1⟩,
    ⟨some 2, none, .mov (.t 11)⟩,
    ⟨some 3, none, .mov (.t 12)⟩] [1, 2, 3])
   (.seq (.region [⟨some 13, none, .mov (.t 1)⟩,
    ⟨some 14, none, .build [.int .u64 0, .int .i64 0, .int .u64 0, .slice none 0 0] [(2, 1, .c (.int .u64 3))]⟩,
    ⟨some 15, none, .call 32 [.t 13, .t 14, .c (.int .i64 2)]⟩] [1, 2, 3])
   (.seq (.region [⟨some 16, none, .mov (.t 2)⟩,
    ⟨some 17, none, .lenV (.t 16)⟩,
    ⟨some 18, none, .bin .eql (.t 17) (.c (.int .i64 1))⟩,
    ⟨some 19, none, .mov (.t 18)⟩,
    ⟨some 20, some (19, true), .mov (.t 3)⟩,
    ⟨some 21, some (19, true), .lenV (.t 20)⟩,
    ⟨some 22, some (19, true), .bin .eql (.t 21) (.c (.int .i64 1))⟩,
    ⟨some 23, none, .pick (.t 19) (.t 22) (.c (.bool false))⟩,
    ⟨some 24, none, .mov (.t 23)⟩,
    ⟨some 25, some (24, true), .mov (.t 3)⟩,
    ⟨some 26, some (24, true), .iaV 4 (.t 25) (.c (.int .i64 0))⟩,
    ⟨some 27, some (24, true), .fa 1 (.t 26)⟩,
    ⟨some 28, some (24, true), .ld 1 false (.t 27)⟩,
    ⟨some 29, some (24, true), .bin .eql (.t 28) (.c (.int .i64 2))⟩,
    ⟨some 30, none, .pick (.t 24) (.t 29) (.c (.bool false))⟩,
    ⟨some 31, none, .mov (.t 30)⟩,
    ⟨some 32, some (31, true), .mov (.t 1)⟩,
    ⟨some 33, some (31, true), .call 33 [.t 32]⟩,
    ⟨some 34, some (31, true), .lenV (.t 33)⟩,
    ⟨some 35, some (31, true), .bin .eql (.t 34) (.c (.int .i64 26))⟩,
    ⟨some 36, none, .pick (.t 31) (.t 35) (.c (.bool false))⟩,
    ⟨some 37, none, .mov (.t 36)⟩,
    ⟨some 38, some (37, true), .mov (.t 1)⟩,
    ⟨some 39, some (37, true), .call 31 [.t 38]⟩,
    ⟨some 40, some (37, true), .un .not (.t 39)⟩,
    ⟨some 41, none, .pick (.t 37) (.t 40) (.c (.bool false))⟩,
    ⟨some 42, none, .mov (.t 41)⟩,
    ⟨some 43, some (42, true), .mov (.t 1)⟩,
    ⟨some 44, some (42, true), .call 36 [.t 43]⟩,
    ⟨some 45, some (42, true), .eqk true .ptr (.t 44) (.c (.pointer none))⟩,
    ⟨some 46, none, .pick (.t 42) (.t 45) (.c (.bool false))⟩,
    ⟨some 47, none, .mov (.t 46)⟩,
    ⟨some 48, some (47, true), .mov (.t 1)⟩,
    ⟨some 49, some (47, true), .call 37 [.t 48]⟩,
    ⟨some 50, some (47, true), .eqk true .ptr (.t 49) (.c (.pointer none))⟩,
    ⟨some 51, none, .pick (.t 47) (.t 50) (.c (.bool false))⟩,
    ⟨some 0, none, .mov (.t 51)⟩] [0])
   (.ret)))))),
  [.t 0], 52, 0⟩
def A27 : Ann := ⟨[(0, []), (1, [1]), (2, [1, 6]), (3, [0]), (4, [1, 2, 3]), (5, [1, 2, 3]), (6, [0])], []⟩
set_option maxRecDepth 100000 in
theorem F27.ok : compF Try.prog A27 Try.f27 = some F27 := by kernel_rfl
theorem F27.fok : FOk Try.prog 27 F27 := fok_of mixed Try.func27 F27.ok

/-- cloakroom/cloakroomref1.Frame -/
def F28 : SFn := ⟨.seq (.region [⟨some 2, none, .mov (.c (.slice none 0 0))⟩] [0])
   (.seq (.seq (.region [⟨some 3, none, .mov (.t 0)⟩,
    ⟨some 4, none, .lenV (.t 3)⟩,
    ⟨some 5, none, .bin .gtr (.t 4) (.c (.int .i64 5000))⟩] [0, 5])
   (.cond (.t 5) (.seq (.region [⟨some 2, none, .mov (.c (.slice none 0 0))⟩] [2])
   (.ret)) (.skip)))
   (.seq (.region [⟨some 6, none, .mov (.t 0)⟩,
    ⟨some 7, none, .lenV (.t 6)⟩,
    ⟨some 8, none, .bin .shr (.t 7) (.c (.int .u64 8))⟩,
    ⟨some 9, none, .conv .u8 (.t 8)⟩,
    ⟨some 10, none, .mov (.t 0)⟩,
    ⟨some 11, none, .lenV (.t 10)⟩,
    ⟨some 12, none, .conv .u8 (.t 11)⟩,
    ⟨some 13, none, .bslice 2 1 [.int .u8 0] [(0, 1, .t 9), (1, 1, .t 12)]⟩,
    ⟨some 14, none, .mov (.t 0)⟩,
    ⟨some 15, none, .app 1 1 (.t 13) (.t 14)⟩,
    ⟨some 2, none, .mov (.t 15)⟩] [2])
   (.ret))),
  [.t 2], 16, 1⟩
def A28 : Ann := ⟨[(0, [0]), (1, [0, 5]), (2, [2]), (3, [2])], []⟩
set_option maxRecDepth 100000 in
theorem F28.ok : compF Try.prog A28 Try.f28 = some F28 := by kernel_rfl
theorem F28.fok : FOk Try.prog 28 F28 := fok_of mixed Try.func28 F28.ok

/-- cloakroom/sess.New -/
def F29 : SFn := ⟨.seq (.region [⟨some 2, none, .mov (.c (.pointer none))⟩] [])
   (.seq (.region [⟨some 3, none, .call 66 []⟩,
    ⟨some 4, none, .call 67 []⟩,
    ⟨some 5, none, .call 68 []⟩,
    ⟨some 6, none, .build [.pointer none, .pointer none] [(0, 1, .t 4), (1, 1, .t 5)]⟩,
    ⟨some 7, none, .build [.pointer none, .pointer none, .pointer none, .slice none 0 0] [(0, 1, .t 3), (1, 2, .t 6)]⟩,
    ⟨some 8, none, .box (.t 7)⟩,
    ⟨some 2, none, .mov (.t 8)⟩] [2])
   (.ret)),
  [.t 2], 9, 1⟩
def A29 : Ann := ⟨[(0, []), (1, [2])], []⟩
set_option maxRecDepth 100000 in
theorem F29.ok : compF Try.prog A29 Try.f29 = some F29 := by kernel_rfl
theorem F29.fok : FOk Try.prog 29 F29 := fok_of mixed Try.func29 F29.ok

/-- (*cloakroom/sess.Session).Feed -/
def F30 : SFn := ⟨.seq (.region [⟨some 4, none, .mov (.c (.slice none 0 0))⟩,
    ⟨some 5, none, .mov (.c (.slice none 0 0))⟩] [0, 1, 4, 5])
   (.seq (.seq (.region [⟨some 12, none, .mov (.t 0)⟩,
    ⟨some 13, none, .eqk false .ptr (.t 12) (.c (.pointer none))⟩,
    ⟨some 14, none, .mov (.t 13)⟩,
    ⟨some 15, some (14, false), .mov (.t 0)⟩,
    ⟨some 16, some (14, false), .nilc (.t 15)⟩,
    ⟨some 17, some (14, false), .fa 0 (.t 16)⟩,
    ⟨some 18, some (14, false), .ld 1 false (.t 17)⟩,
    ⟨some 19, some (14, false), .call 69 [.t 18]⟩,
    ⟨some 20, none, .pick (.t 14) (.c (.bool true)) (.t 19)⟩] [0, 1, 4, 5, 20])
   (.cond (.t 20) (.seq (.region [⟨some 4, none, .mov (.c (.slice none 0 0))⟩,
    ⟨some 5, none, .mov (.c (.slice none 0 0))⟩] [4, 5])
   (.ret)) (.skip)))
   (.seq (.region [⟨some 22, none, .mov (.t 0)⟩,
    ⟨some 23, none, .nilc (.t 22)⟩,
    ⟨some 24, none, .fa 0 (.t 23)⟩,
    ⟨some 25, none, .ld 1 false (.t 24)⟩,
    ⟨some 26, none, .mov (.t 1)⟩,
    ⟨some 27, none, .call 70 [.t 25, .t 26]⟩,
    ⟨some 21, none, .mov (.t 27)⟩,
    ⟨some 28, none, .ext (.t 21) 0⟩,
    ⟨some 29, none, .ext (.t 21) 1⟩,
    ⟨some 6, none, .mov (.t 28)⟩,
    ⟨some 7, none, .mov (.t 29)⟩] [4, 5, 6, 7])
   (.seq (.seq (.region [⟨some 30, none, .mov (.t 6)⟩,
    ⟨some 31, none, .lenV (.t 30)⟩,
    ⟨some 32, none, .mov (.c (.int .i64 0))⟩] [4, 5, 7, 30, 31, 32])
   (.block 0 (.loop (.seq (.region [⟨some 33, none, .bin .lss (.t 32) (.t 31)⟩] [4, 5, 7, 30, 31, 32, 33])
   (.seq (.cond (.t 33) (.skip) (.exit 0))
   (.seq (.block 1 (.seq (.region [⟨some 34, none, .iaV 1 (.t 30) (.t 32)⟩,
    ⟨some 35, none, .ld 1 false (.t 34)⟩,
    ⟨some 9, none, .mov (.t 35)⟩] [4, 5, 7, 9, 30, 31, 32])
   (.seq (.region [⟨some 37, none, .mov (.t 9)⟩,
    ⟨some 38, none, .call 14 [.t 37]⟩,
    ⟨some 36, none, .mov (.t 38)⟩,
    ⟨some 39, none, .ext (.t 36) 0⟩,
    ⟨some 40, none, .ext (.t 36) 1⟩,
    ⟨some 10, none, .new [.int .i64 0, .int .u64 0, .int .u64 0, .string ByteArray.empty, .slice none 0 0, .slice none 0 0, .int .u64 0, .int .u64 0]⟩,
    ⟨none, none, .st 8 (.t 10) (.t 39)⟩,
    ⟨some 11, none, .mov (.t 40)⟩] [4, 5, 7, 10, 11, 30, 31, 32])
   (.region [⟨some 41, none, .mov (.t 4)⟩,
    ⟨some 42, none, .ld 8 true (.t 10)⟩,
    ⟨some 43, none, .bslice 1 8 [.int .i64 0, .int .u64 0, .int .u64 0, .string ByteArray.empty, .slice none 0 0, .slice none 0 0, .int .u64 0, .int .u64 0] [(0, 8, .t 42)]⟩,
    ⟨some 44, none, .app 8 104 (.t 41) (.t 43)⟩,
    ⟨some 45, none, .mov (.t 5)⟩,
    ⟨some 46, none, .mov (.t 11)⟩,
    ⟨some 47, none, .build [.int .u64 0, .int .i64 0, .int .u64 0, .slice none 0 0] [(1, 1, .t 46)]⟩,
    ⟨some 48, none, .bslice 1 4 [.int .u64 0, .int .i64 0, .int .u64 0, .slice none 0 0] [(0, 4, .t 47)]⟩,
    ⟨some 49, none, .app 4 48 (.t 45) (.t 48)⟩,
    ⟨some 4, none, .mov (.t 44)⟩,
    ⟨some 5, none, .mov (.t 49)⟩] [4, 5, 7, 30, 31, 32]))))
   (.region [⟨some 50, none, .bin .add (.t 32) (.c (.int .i64 1))⟩,
    ⟨some 32, none, .mov (.t 50)⟩] [4, 5, 7, 30, 31, 32])))))))
   (.seq (.seq (.region [⟨some 51, none, .mov (.t 7)⟩,
    ⟨some 52, none, .bin .neq (.t 51) (.c (.int .i64 0))⟩] [4, 5, 7, 52])
   (.cond (.t 52) (.region [⟨some 53, none, .mov (.t 4)⟩,
    ⟨some 54, none, .build [.int .i64 0, .int .u64 0, .int .u64 0, .string ByteArray.empty, .slice none 0 0, .slice none 0 0, .int .u64 0, .int .u64 0] []⟩,
    ⟨some 55, none, .bslice 1 8 [.int .i64 0, .int .u64 0, .int .u64 0, .string ByteArray.empty, .slice none 0 0, .slice none 0 0, .int .u64 0, .int .u64 0] [(0, 8, .t 54)]⟩,
    ⟨some 56, none, .app 8 104 (.t 53) (.t 55)⟩,
    ⟨some 57, none, .mov (.t 5)⟩,
    ⟨some 58, none, .mov (.t 7)⟩,
    ⟨some 59, none, .build [.int .u64 0, .int .i64 0, .int .u64 0, .slice none 0 0] [(1, 1, .t 58)]⟩,
    ⟨some 60, none, .bslice 1 4 [.int .u64 0, .int .i64 0, .int .u64 0, .slice none 0 0] [(0, 4, .t 59)]⟩,
    ⟨some 61, none, .app 4 48 (.t 57) (.t 60)⟩,
    ⟨some 4, none, .mov (.t 56)⟩,
    ⟨some 5, none, .mov (.t 61)⟩] [4, 5]) (.skip)))
   (.seq (.region [⟨some 62, none, .mov (.t 4)⟩,
    ⟨some 63, none, .mov (.t 5)⟩,
    ⟨some 4, none, .mov (.t 62)⟩,
    ⟨some 5, none, .mov (.t 63)⟩] [4, 5])
   (.ret)))))),
  [.t 4, .t 5], 64, 2⟩
def A30 : Ann := ⟨[(0, [0, 1, 4, 5]), (1, [0, 1, 4, 5, 20]), (2, [4, 5]), (3, [4, 5, 6, 7]), (4, [4, 5, 7, 30, 31, 32]), (5, [4, 5, 7, 30, 31, 32, 33]), (6, [4, 5, 7, 9, 30, 31, 32]), (7, [4, 5, 7, 10, 11, 30, 31, 32]), (8, [4, 5, 7, 30, 31, 32]), (9, [4, 5, 7, 30, 31, 32]), (10, [4, 5, 7, 52]), (11, [4, 5]), (12, [4, 5])], []⟩
set_option maxRecDepth 100000 in
theorem F30.ok : compF Try.prog A30 Try.f30 = some F30 := by kernel_rfl
theorem F30.fok : FOk Try.prog 30 F30 := fok_of mixed Try.func30 F30.ok

/-- (*cloakroom/sess.Session).Dead -/
def F31 : SFn := ⟨.seq (.region [⟨some 2, none, .mov (.c (.bool false))⟩] [0])
   (.seq (.region [⟨some 3, none, .mov (.t 0)⟩,
    ⟨some 4, none, .eqk true .ptr (.t 3) (.c (.pointer none))⟩,
    ⟨some 5, none, .mov (.t 4)⟩,
    ⟨some 6, some (5, true), .mov (.t 0)⟩,
    ⟨some 7, some (5, true), .nilc (.t 6)⟩,
    ⟨some 8, some (5, true), .fa 0 (.t 7)⟩,
    ⟨some 9, some (5, true), .ld 1 false (.t 8)⟩,
    ⟨some 10, some (5, true), .call 69 [.t 9]⟩,
    ⟨some 11, none, .pick (.t 5) (.t 10) (.c (.bool false))⟩,
    ⟨some 2, none, .mov (.t 11)⟩] [2])
   (.ret)),
  [.t 2], 12, 1⟩
def A31 : Ann := ⟨[(0, [0]), (1, [2])], []⟩
set_option maxRecDepth 100000 in
theorem F31.ok : compF Try.prog A31 Try.f31 = some F31 := by kernel_rfl
theorem F31.fok : FOk Try.prog 31 F31 := fok_of mixed Try.func31 F31.ok

/-- (*cloakroom/sess.Session).Tell -/
def F32 : SFn := ⟨.seq (.region [⟨some 4, none, .box (.t 1)⟩] [0, 2, 4])
   (.block 0 (.loop (.seq (.seq (.region [⟨some 6, none, .mov (.t 0)⟩,
    ⟨some 7, none, .eqk true .ptr (.t 6) (.c (.pointer none))⟩,
    ⟨some 8, none, .mov (.t 7)⟩,
    ⟨some 9, some (8, true), .mov (.t 2)⟩,
    ⟨some 10, some (8, true), .bin .gtr (.t 9) (.c (.int .i64 0))⟩,
    ⟨some 11, none, .pick (.t 8) (.t 10) (.c (.bool false))⟩] [0, 2, 4, 11])
   (.cond (.t 11) (.skip) (.exit 0)))
   (.seq (.block 1 (.region [⟨some 14, none, .mov (.t 0)⟩,
    ⟨some 15, none, .mov (.t 0)⟩,
    ⟨some 16, none, .nilc (.t 15)⟩,
    ⟨some 17, none, .fa 3 (.t 16)⟩,
    ⟨some 18, none, .ld 1 false (.t 17)⟩,
    ⟨some 19, none, .ld 4 true (.t 4)⟩,
    ⟨some 20, none, .call 24 [.t 19]⟩,
    ⟨none, none, .chk 1 false (.t 17) 18⟩,
    ⟨some 21, none, .call 71 [.t 20]⟩,
    ⟨none, none, .chk 1 false (.t 17) 18⟩,
    ⟨some 22, none, .app 1 1 (.t 18) (.t 21)⟩,
    ⟨some 23, none, .nilc (.t 14)⟩,
    ⟨some 24, none, .fa 3 (.t 23)⟩,
    ⟨none, none, .st 1 (.t 24) (.t 22)⟩] [0, 2, 4]))
   (.region [⟨some 12, none, .mov (.t 2)⟩,
    ⟨some 13, none, .bin .sub (.t 12) (.c (.int .i64 1))⟩,
    ⟨some 2, none, .mov (.t 13)⟩] [0, 2, 4]))))),
  [], 25, 3⟩
def A32 : Ann := ⟨[(0, [0, 2, 4]), (1, [0, 2, 4, 11]), (2, [0, 2, 4]), (3, [0, 2, 4])], [(3, [(0, []), (1, []), (2, []), (3, []), (4, []), (5, []), (6, [4]), (7, [4]), (8, []), (9, []), (10, []), (11, [])], [(2, [1]), (3, [1, 2]), (4, [1, 2, 3]), (6, [5]), (7, [5, 6]), (8, [1, 2, 3, 4, 5, 6, 7]), (9, [0, 1, 2, 3, 4, 5, 6, 7, 8]), (10, [0, 1, 2, 3, 4, 5, 6, 7, 8, 9]), (11, [0, 1, 2, 3, 4, 5, 6, 7, 8, 9, 10])])]⟩
set_option maxRecDepth 100000 in
theorem F32.ok : compF Try.prog A32 Try.f32 = some F32 := by kernel_rfl
theorem F32.fok : FOk Try.prog 32 F32 := fok_of mixed Try.func32 F32.ok

/-- (*cloakroom/sess.Session).Out -/
def F33 : SFn := ⟨.seq (.region [⟨some 2, none, .mov (.c (.slice none 0 0))⟩] [0])
   (.seq (.seq (.region [⟨some 3, none, .mov (.t 0)⟩,
    ⟨some 4, none, .eqk false .ptr (.t 3) (.c (.pointer none))⟩] [0, 4])
   (.cond (.t 4) (.seq (.region [⟨some 2, none, .mov (.c (.slice none 0 0))⟩] [2])
   (.ret)) (.skip)))
   (.seq (.region [⟨some 5, none, .mov (.t 0)⟩,
    ⟨some 6, none, .nilc (.t 5)⟩,
    ⟨some 7, none, .fa 3 (.t 6)⟩,
    ⟨some 8, none, .ld 1 false (.t 7)⟩,
    ⟨some 9, none, .call 72 [.t 8]⟩,
    ⟨some 2, none, .mov (.t 9)⟩] [2])
   (.ret))),
  [.t 2], 10, 1⟩
def A33 : Ann := ⟨[(0, [0]), (1, [0, 4]), (2, [2]), (3, [2])], []⟩
set_option maxRecDepth 100000 in
theorem F33.ok : compF Try.prog A33 Try.f33 = some F33 := by kernel_rfl
theorem F33.fok : FOk Try.prog 33 F33 := fok_of mixed Try.func33 F33.ok

/-- (*cloakroom/cloakroomref22.Session).Feed -/
def F34 : SFn := ⟨.seq (.region [⟨some 4, none, .mov (.c (.slice none 0 0))⟩,
    ⟨some 5, none, .mov (.c (.slice none 0 0))⟩] [0, 1])
   (.seq (.seq (.region [⟨some 13, none, .mov (.t 0)⟩,
    ⟨some 14, none, .nilc (.t 13)⟩,
    ⟨some 15, none, .fa 0 (.t 14)⟩,
    ⟨some 16, none, .fa 1 (.t 15)⟩,
    ⟨some 17, none, .ld 1 false (.t 16)⟩] [0, 1, 17])
   (.cond (.t 17) (.seq (.region [⟨some 4, none, .mov (.c (.slice none 0 0))⟩,
    ⟨some 5, none, .mov (.c (.slice none 0 0))⟩] [4, 5])
   (.ret)) (.skip)))
   (.seq (.region [⟨some 6, none, .mov (.c (.slice none 0 0))⟩] [0, 1, 6])
   (.seq (.region [⟨some 7, none, .mov (.c (.slice none 0 0))⟩] [0, 1, 6, 7])
   (.seq (.region [⟨some 19, none, .mov (.t 0)⟩,
    ⟨some 20, none, .nilc (.t 19)⟩,
    ⟨some 21, none, .fa 0 (.t 20)⟩,
    ⟨some 22, none, .mov (.t 1)⟩,
    ⟨some 23, none, .call 73 [.t 21, .t 22]⟩,
    ⟨some 18, none, .mov (.t 23)⟩,
    ⟨some 24, none, .ext (.t 18) 0⟩,
    ⟨some 25, none, .ext (.t 18) 1⟩,
    ⟨some 8, none, .mov (.t 24)⟩,
    ⟨some 9, none, .mov (.t 25)⟩] [6, 7, 8, 9])
   (.seq (.seq (.region [⟨some 10, none, .mov (.c (.int .i64 0))⟩] [6, 7, 8, 9, 10])
   (.block 0 (.loop (.seq (.seq (.region [⟨some 26, none, .mov (.t 10)⟩,
    ⟨some 27, none, .mov (.t 8)⟩,
    ⟨some 28, none, .lenV (.t 27)⟩,
    ⟨some 29, none, .bin .lss (.t 26) (.t 28)⟩] [6, 7, 8, 9, 10, 29])
   (.cond (.t 29) (.skip) (.exit 0)))
   (.seq (.block 1 (.seq (.region [⟨some 33, none, .mov (.t 8)⟩,
    ⟨some 34, none, .mov (.t 10)⟩,
    ⟨some 35, none, .iaV 1 (.t 33) (.t 34)⟩,
    ⟨some 36, none, .ld 1 false (.t 35)⟩,
    ⟨some 37, none, .call 15 [.t 36]⟩,
    ⟨some 32, none, .mov (.t 37)⟩,
    ⟨some 38, none, .ext (.t 32) 0⟩,
    ⟨some 39, none, .ext (.t 32) 1⟩,
    ⟨some 11, none, .new [.int .i64 0, .int .u64 0, .int .u64 0, .string ByteArray.empty, .slice none 0 0, .slice none 0 0, .int .u64 0, .int .u64 0]⟩,
    ⟨none, none, .st 8 (.t 11) (.t 38)⟩,
    ⟨some 12, none, .mov (.t 39)⟩] [6, 7, 8, 9, 10, 11, 12])
   (.region [⟨some 40, none, .mov (.t 6)⟩,
    ⟨some 41, none, .ld 8 true (.t 11)⟩,
    ⟨some 42, none, .bslice 1 8 [.int .i64 0, .int .u64 0, .int .u64 0, .string ByteArray.empty, .slice none 0 0, .slice none 0 0, .int .u64 0, .int .u64 0] [(0, 8, .t 41)]⟩,
    ⟨some 43, none, .app 8 104 (.t 40) (.t 42)⟩,
    ⟨some 44, none, .mov (.t 7)⟩,
    ⟨some 45, none, .mov (.t 12)⟩,
    ⟨some 46, none, .build [.int .u64 0, .int .i64 0, .int .u64 0, .slice none 0 0] [(1, 1, .t 45)]⟩,
    ⟨some 47, none, .bslice 1 4 [.int .u64 0, .int .i64 0, .int .u64 0, .slice none 0 0] [(0, 4, .t 46)]⟩,
    ⟨some 48, none, .app 4 48 (.t 44) (.t 47)⟩,
    ⟨some 6, none, .mov (.t 43)⟩,
    ⟨some 7, none, .mov (.t 48)⟩] [6, 7, 8, 9, 10])))
   (.region [⟨some 30, none, .mov (.t 10)⟩,
    ⟨some 31, none, .bin .add (.t 30) (.c (.int .i64 1))⟩,
    ⟨some 10, none, .mov (.t 31)⟩] [6, 7, 8, 9, 10]))))))
   (.seq (.seq (.region [⟨some 49, none, .mov (.t 9)⟩,
    ⟨some 50, none, .bin .neq (.t 49) (.c (.int .i64 0))⟩] [6, 7, 9, 50])
   (.cond (.t 50) (.region [⟨some 51, none, .mov (.t 6)⟩,
    ⟨some 52, none, .build [.int .i64 0, .int .u64 0, .int .u64 0, .string ByteArray.empty, .slice none 0 0, .slice none 0 0, .int .u64 0, .int .u64 0] []⟩,
    ⟨some 53, none, .bslice 1 8 [.int .i64 0, .int .u64 0, .int .u64 0, .string ByteArray.empty, .slice none 0 0, .slice none 0 0, .int .u64 0, .int .u64 0] [(0, 8, .t 52)]⟩,
    ⟨some 54, none, .app 8 104 (.t 51) (.t 53)⟩,
    ⟨some 55, none, .mov (.t 7)⟩,
    ⟨some 56, none, .mov (.t 9)⟩,
    ⟨some 57, none, .build [.int .u64 0, .int .i64 0, .int .u64 0, .slice none 0 0] [(1, 1, .t 56)]⟩,
    ⟨some 58, none, .bslice 1 4 [.int .u64 0, .int .i64 0, .int .u64 0, .slice none 0 0] [(0, 4, .t 57)]⟩,
    ⟨some 59, none, .app 4 48 (.t 55) (.t 58)⟩,
    ⟨some 6, none, .mov (.t 54)⟩,
    ⟨some 7, none, .mov (.t 59)⟩] [6, 7]) (.skip)))
   (.seq (.region [⟨some 60, none, .mov (.t 6)⟩,
    ⟨some 61, none, .mov (.t 7)⟩,
    ⟨some 4, none, .mov (.t 60)⟩,
    ⟨some 5, none, .mov (.t 61)⟩] [4, 5])
   (.ret)))))))),
  [.t 4, .t 5], 62, 2⟩
def A34 : Ann := ⟨[(0, [0, 1]), (1, [0, 1, 17]), (2, [4, 5]), (3, [0, 1, 6]), (4, [0, 1, 6, 7]), (5, [6, 7, 8, 9]), (6, [6, 7, 8, 9, 10]), (7, [6, 7, 8, 9, 10, 29]), (8, [6, 7, 8, 9, 10]), (9, [6, 7, 8, 9, 10, 11, 12]), (10, [6, 7, 8, 9, 10]), (11, [6, 7, 9, 50]), (12, [6, 7]), (13, [4, 5])], []⟩
set_option maxRecDepth 100000 in
theorem F34.ok : compF Try.prog A34 Try.f34 = some F34 := by kernel_rfl
theorem F34.fok : FOk Try.prog 34 F34 := fok_of mixed Try.func34 F34.ok

/-- (*cloakroom/cloakroomref22.Session).Tell -/
def F35 : SFn := ⟨.seq (.region [⟨some 4, none, .box (.t 1)⟩] [0, 2, 4])
   (.seq (.region [⟨some 6, none, .mov (.c (.int .i64 0))⟩] [0, 2, 4, 6])
   (.block 0 (.loop (.seq (.seq (.region [⟨some 7, none, .mov (.t 6)⟩,
    ⟨some 8, none, .mov (.t 2)⟩,
    ⟨some 9, none, .bin .lss (.t 7) (.t 8)⟩] [0, 2, 4, 6, 9])
   (.cond (.t 9) (.skip) (.exit 0)))
   (.seq (.block 1 (.region [⟨some 12, none, .mov (.t 0)⟩,
    ⟨some 13, none, .bslice 0 1 [.int .u8 0] []⟩,
    ⟨some 14, none, .mov (.t 0)⟩,
    ⟨some 15, none, .nilc (.t 14)⟩,
    ⟨some 16, none, .fa 6 (.t 15)⟩,
    ⟨some 17, none, .ld 1 false (.t 16)⟩,
    ⟨some 19, none, .ld 4 true (.t 4)⟩,
    ⟨some 18, none, .app 1 1 (.t 13) (.t 17)⟩,
    ⟨none, none, .chk 4 true (.t 4) 19⟩,
    ⟨some 20, none, .call 74 [.t 19]⟩,
    ⟨some 21, none, .call 28 [.t 20]⟩,
    ⟨some 22, none, .app 1 1 (.t 18) (.t 21)⟩,
    ⟨some 23, none, .nilc (.t 12)⟩,
    ⟨some 24, none, .fa 6 (.t 23)⟩,
    ⟨none, none, .st 1 (.t 24) (.t 22)⟩] [0, 2, 4, 6]))
   (.region [⟨some 10, none, .mov (.t 6)⟩,
    ⟨some 11, none, .bin .add (.t 10) (.c (.int .i64 1))⟩,
    ⟨some 6, none, .mov (.t 11)⟩] [0, 2, 4, 6])))))),
  [], 25, 3⟩
def A35 : Ann := ⟨[(0, [0, 2, 4]), (1, [0, 2, 4, 6]), (2, [0, 2, 4, 6, 9]), (3, [0, 2, 4, 6]), (4, [0, 2, 4, 6])], [(4, [(0, []), (1, []), (2, []), (3, []), (4, []), (5, []), (7, []), (6, [7]), (8, []), (9, []), (10, []), (11, []), (12, []), (13, [])], [(3, [2]), (4, [2, 3]), (5, [2, 3, 4]), (6, [1, 2, 3, 4, 5]), (8, [1, 2, 3, 4, 5, 6, 7]), (9, [1, 2, 3, 4, 5, 6, 7, 8]), (10, [1, 2, 3, 4, 5, 6, 7, 8, 9]), (11, [0, 1, 2, 3, 4, 5, 6, 7, 8, 9, 10]), (12, [0, 1, 2, 3, 4, 5, 6, 7, 8, 9, 10, 11]), (13, [0, 1, 2, 3, 4, 5, 6, 7, 8, 9, 10, 11, 12])])]⟩
set_option maxRecDepth 100000 in
theorem F35.ok : compF Try.prog A35 Try.f35 = some F35 := by kernel_rfl
theorem F35.fok : FOk Try.prog 35 F35 := fok_of mixed Try.func35 F35.ok

/-- (*cloakroom/sess.Session).Handles -/
def F36 : SFn := ⟨.seq (.region [⟨some 2, none, .mov (.c (.pointer none))⟩] [0])
   (.seq (.seq (.region [⟨some 3, none, .mov (.t 0)⟩,
    ⟨some 4, none, .eqk false .ptr (.t 3) (.c (.pointer none))⟩] [0, 4])
   (.cond (.t 4) (.seq (.region [⟨some 2, none, .mov (.c (.pointer none))⟩] [2])
   (.ret)) (.skip)))
   (.seq (.region [⟨some 5, none, .mov (.t 0)⟩,
    ⟨some 6, none, .nilc (.t 5)⟩,
    ⟨some 7, none, .fa 1 (.t 6)⟩,
    ⟨some 8, none, .fa 0 (.t 7)⟩,
    ⟨some 9, none, .ld 1 false (.t 8)⟩,
    ⟨some 2, none, .mov (.t 9)⟩] [2])
   (.ret))),
  [.t 2], 10, 1⟩
def A36 : Ann := ⟨[(0, [0]), (1, [0, 4]), (2, [2]), (3, [2])], []⟩
set_option maxRecDepth 100000 in
theorem F36.ok : compF Try.prog A36 Try.f36 = some F36 := by kernel_rfl
theorem F36.fok : FOk Try.prog 36 F36 := fok_of mixed Try.func36 F36.ok

/-- (*cloakroom/sess.Session).Cache -/
def F37 : SFn := ⟨.seq (.region [⟨some 2, none, .mov (.c (.pointer none))⟩] [0])
   (.seq (.seq (.region [⟨some 3, none, .mov (.t 0)⟩,
    ⟨some 4, none, .eqk false .ptr (.t 3) (.c (.pointer none))⟩] [0, 4])
   (.cond (.t 4) (.seq (.region [⟨some 2, none, .mov (.c (.pointer none))⟩] [2])
   (.ret)) (.skip)))
   (.seq (.region [⟨some 5, none, .mov (.t 0)⟩,
    ⟨some 6, none, .nilc (.t 5)⟩,
    ⟨some 7, none, .fa 1 (.t 6)⟩,
    ⟨some 8, none, .fa 1 (.t 7)⟩,
    ⟨some 9, none, .ld 1 false (.t 8)⟩,
    ⟨some 2, none, .mov (.t 9)⟩] [2])
   (.ret))),
  [.t 2], 10, 1⟩
def A37 : Ann := ⟨[(0, [0]), (1, [0, 4]), (2, [2]), (3, [2])], []⟩
set_option maxRecDepth 100000 in
theorem F37.ok : compF Try.prog A37 Try.f37 = some F37 := by kernel_rfl
theorem F37.fok : FOk Try.prog 37 F37 := fok_of mixed Try.func37 F37.ok

/-- (*cloakroom/sess.Session).Copy -/
def F38 : SFn := ⟨.seq (.region [⟨some 2, none, .mov (.c (.pointer none))⟩] [0])
   (.seq (.seq (.region [⟨some 3, none, .mov (.t 0)⟩,
    ⟨some 4, none, .eqk false .ptr (.t 3) (.c (.pointer none))⟩] [0, 4])
   (.cond (.t 4) (.seq (.region [⟨some 2, none, .mov (.c (.pointer none))⟩] [2])
   (.ret)) (.skip)))
   (.seq (.region [⟨some 5, none, .mov (.t 0)⟩,
    ⟨some 6, none, .nilc (.t 5)⟩,
    ⟨some 7, none, .fa 0 (.t 6)⟩,
    ⟨some 8, none, .ld 1 false (.t 7)⟩,
    ⟨some 10, none, .mov (.t 0)⟩,
    ⟨some 11, none, .nilc (.t 10)⟩,
    ⟨some 12, none, .fa 1 (.t 11)⟩,
    ⟨some 13, none, .fa 0 (.t 12)⟩,
    ⟨some 14, none, .ld 1 false (.t 13)⟩,
    ⟨some 16, none, .mov (.t 0)⟩,
    ⟨some 17, none, .nilc (.t 16)⟩,
    ⟨some 18, none, .fa 1 (.t 17)⟩,
    ⟨some 19, none, .fa 1 (.t 18)⟩,
    ⟨some 20, none, .ld 1 false (.t 19)⟩,
    ⟨some 23, none, .mov (.t 0)⟩,
    ⟨some 24, none, .nilc (.t 23)⟩,
    ⟨some 25, none, .fa 3 (.t 24)⟩,
    ⟨some 26, none, .ld 1 false (.t 25)⟩,
    ⟨some 9, none, .call 75 [.t 8]⟩,
    ⟨none, none, .chk 1 false (.t 13) 14⟩,
    ⟨none, none, .chk 1 false (.t 19) 20⟩,
    ⟨none, none, .chk 1 false (.t 25) 26⟩,
    ⟨some 15, none, .call 76 [.t 14]⟩,
    ⟨none, none, .chk 1 false (.t 19) 20⟩,
    ⟨none, none, .chk 1 false (.t 25) 26⟩,
    ⟨some 21, none, .call 77 [.t 20]⟩,
    ⟨none, none, .chk 1 false (.t 25) 26⟩,
    ⟨some 22, none, .build [.pointer none, .pointer none] [(0, 1, .t 15), (1, 1, .t 21)]⟩,
    ⟨some 27, none, .call 72 [.t 26]⟩,
    ⟨some 28, none, .build [.pointer none, .pointer none, .pointer none, .slice none 0 0] [(0, 1, .t 9), (1, 2, .t 22), (3, 1, .t 27)]⟩,
    ⟨some 29, none, .box (.t 28)⟩,
    ⟨some 2, none, .mov (.t 29)⟩] [2])
   (.ret))),
  [.t 2], 30, 1⟩
def A38 : Ann := ⟨[(0, [0]), (1, [0, 4]), (2, [2]), (3, [2])], [(3, [(0, []), (1, []), (2, []), (3, []), (5, []), (6, []), (7, []), (8, []), (9, []), (11, []), (12, []), (13, []), (14, []), (15, []), (18, []), (19, []), (20, []), (21, []), (4, [9, 15, 21]), (10, [15, 21]), (16, [21]), (17, []), (22, []), (23, []), (24, []), (25, [])], [(1, [0]), (2, [0, 1]), (3, [0, 1, 2]), (4, [0, 1, 2, 3]), (6, [5]), (7, [5, 6]), (8, [5, 6, 7]), (9, [5, 6, 7, 8]), (10, [0, 1, 2, 3, 4, 5, 6, 7, 8, 9]), (12, [11]), (13, [11, 12]), (14, [11, 12, 13]), (15, [11, 12, 13, 14]), (16, [0, 1, 2, 3, 4, 5, 6, 7, 8, 9, 10, 11, 12, 13, 14, 15]), (17, [0, 1, 2, 3, 4, 5, 6, 7, 8, 9, 10, 11, 12, 13, 14, 15, 16]), (19, [18]), (20, [18, 19]), (21, [18, 19, 20]), (22, [0, 1, 2, 3, 4, 5, 6, 7, 8, 9, 10, 11, 12, 13, 14, 15, 16, 18, 19, 20, 21]), (23, [0, 1, 2, 3, 4, 5, 6, 7, 8, 9, 10, 11, 12, 13, 14, 15, 16, 17, 18, 19, 20, 21, 22]), (24, [0, 1, 2, 3, 4, 5, 6, 7, 8, 9, 10, 11, 12, 13, 14, 15, 16, 17, 18, 19, 20, 21, 22, 23]), (25, [0, 1, 2, 3, 4, 5, 6, 7, 8, 9, 10, 11, 12, 13, 14, 15, 16, 17, 18, 19, 20, 21, 22, 23, 24])])]⟩
set_option maxRecDepth 100000 in
theorem F38.ok : compF Try.prog A38 Try.f38 = some F38 := by kernel_rfl
theorem F38.fok : FOk Try.prog 38 F38 := fok_of mixed Try.func38 F38.ok

/-- (*cloakroom/handle.Table).Add -/
def F39 : SFn := ⟨.seq (.region [⟨some 4, none, .mov (.c (.int .u64 0))⟩,
    ⟨some 5, none, .mov (.c (.int .i64 0))⟩] [0, 1])
   (.seq (.block 0 (.seq (.region [⟨some 7, none, .mov (.t 0)⟩,
    ⟨some 8, none, .eqk false .ptr (.t 7) (.c (.pointer none))⟩,
    ⟨some 6, none, .mov (.t 8)⟩] [0, 1, 6])
   (.cond (.t 6) (.seq (.region [⟨some 4, none, .mov (.c (.int .u64 0))⟩,
    ⟨some 5, none, .mov (.c (.int .i64 1))⟩] [4, 5])
   (.ret)) (.seq (.region [⟨some 10, none, .mov (.t 0)⟩,
    ⟨some 11, none, .nilc (.t 10)⟩,
    ⟨some 12, none, .fa 0 (.t 11)⟩,
    ⟨some 13, none, .ld 1 false (.t 12)⟩,
    ⟨some 14, none, .lenM (.t 13)⟩,
    ⟨some 15, none, .bin .geq (.t 14) (.c (.int .i64 8))⟩,
    ⟨some 9, none, .mov (.t 15)⟩] [0, 1, 9])
   (.cond (.t 9) (.seq (.region [⟨some 4, none, .mov (.c (.int .u64 0))⟩,
    ⟨some 5, none, .mov (.c (.int .i64 12))⟩] [4, 5])
   (.ret)) (.skip))))))
   (.seq (.region [⟨some 16, none, .mov (.t 0)⟩,
    ⟨some 17, none, .nilc (.t 16)⟩,
    ⟨some 18, none, .fa 1 (.t 17)⟩,
    ⟨some 19, none, .ld 1 false (.t 18)⟩,
    ⟨some 20, none, .bin .add (.t 19) (.c (.int .u64 1))⟩,
    ⟨some 21, none, .nilc (.t 16)⟩,
    ⟨some 22, none, .fa 1 (.t 21)⟩,
    ⟨none, none, .st 1 (.t 22) (.t 20)⟩] [0, 1])
   (.seq (.region [⟨some 23, none, .mov (.t 0)⟩,
    ⟨some 24, none, .nilc (.t 23)⟩,
    ⟨some 25, none, .fa 0 (.t 24)⟩,
    ⟨some 26, none, .ld 1 false (.t 25)⟩,
    ⟨some 27, none, .mov (.t 0)⟩,
    ⟨some 28, none, .nilc (.t 27)⟩,
    ⟨some 29, none, .fa 1 (.t 28)⟩,
    ⟨some 30, none, .ld 1 false (.t 29)⟩,
    ⟨some 31, none, .mov (.t 1)⟩,
    ⟨none, none, .mput false (.t 26) (.t 30) (.t 31)⟩] [0])
   (.seq (.region [⟨some 32, none, .mov (.t 0)⟩,
    ⟨some 33, none, .nilc (.t 32)⟩,
    ⟨some 34, none, .fa 1 (.t 33)⟩,
    ⟨some 35, none, .ld 1 false (.t 34)⟩,
    ⟨some 4, none, .mov (.t 35)⟩,
    ⟨some 5, none, .mov (.c (.int .i64 0))⟩] [4, 5])
   (.ret))))),
  [.t 4, .t 5], 36, 2⟩
def A39 : Ann := ⟨[(0, [0, 1]), (1, [0, 1, 6]), (2, [4, 5]), (3, [0, 1, 9]), (4, [4, 5]), (5, [0, 1]), (6, [0]), (7, [4, 5])], [(6, [(0, []), (1, []), (2, []), (3, []), (4, []), (5, []), (6, []), (7, []), (8, []), (9, [])], [(1, [0]), (2, [0, 1]), (3, [0, 1, 2]), (5, [4]), (6, [4, 5]), (7, [4, 5, 6]), (9, [0, 1, 2, 3, 4, 5, 6, 7, 8])])]⟩
set_option maxRecDepth 100000 in
theorem F39.ok : compF Try.prog A39 Try.f39 = some F39 := by kernel_rfl
theorem F39.fok : FOk Try.prog 39 F39 := fok_of mixed Try.func39 F39.ok

/-- (*cloakroom/handle.Table).Close -/
def F40 : SFn := ⟨.seq (.region [⟨some 4, none, .mov (.c (.int .i64 0))⟩,
    ⟨some 5, none, .mov (.c (.int .i64 0))⟩] [0, 1])
   (.seq (.region [⟨some 9, none, .mov (.t 0)⟩,
    ⟨some 10, none, .mov (.t 1)⟩,
    ⟨some 11, none, .call 42 [.t 9, .t 10]⟩,
    ⟨some 8, none, .mov (.t 11)⟩,
    ⟨some 12, none, .ext (.t 8) 0⟩,
    ⟨some 13, none, .ext (.t 8) 1⟩,
    ⟨some 6, none, .mov (.t 12)⟩,
    ⟨some 7, none, .mov (.t 13)⟩] [0, 1, 6, 7])
   (.seq (.seq (.region [⟨some 14, none, .mov (.t 7)⟩,
    ⟨some 15, none, .bin .eql (.t 14) (.c (.int .i64 0))⟩] [0, 1, 6, 7, 15])
   (.cond (.t 15) (.region [⟨some 16, none, .mov (.t 0)⟩,
    ⟨some 17, none, .nilc (.t 16)⟩,
    ⟨some 18, none, .fa 0 (.t 17)⟩,
    ⟨some 19, none, .ld 1 false (.t 18)⟩,
    ⟨some 20, none, .mov (.t 1)⟩,
    ⟨none, none, .del false (.t 19) (.t 20)⟩] [6, 7]) (.skip)))
   (.seq (.region [⟨some 21, none, .mov (.t 6)⟩,
    ⟨some 22, none, .mov (.t 7)⟩,
    ⟨some 4, none, .mov (.t 21)⟩,
    ⟨some 5, none, .mov (.t 22)⟩] [4, 5])
   (.ret)))),
  [.t 4, .t 5], 23, 2⟩
def A40 : Ann := ⟨[(0, [0, 1]), (1, [0, 1, 6, 7]), (2, [0, 1, 6, 7, 15]), (3, [6, 7]), (4, [4, 5])], []⟩
set_option maxRecDepth 100000 in
theorem F40.ok : compF Try.prog A40 Try.f40 = some F40 := by kernel_rfl
theorem F40.fok : FOk Try.prog 40 F40 := fok_of mixed Try.func40 F40.ok

/-- (*cloakroom/token.Cache).Begin -/
def F41 : SFn := ⟨.seq (.region [⟨some 5, none, .box (.t 2)⟩,
    ⟨some 6, none, .mov (.c (.int .i64 0))⟩] [0, 1, 5])
   (.seq (.block 0 (.seq (.region [⟨some 9, none, .mov (.t 0)⟩,
    ⟨some 10, none, .eqk false .ptr (.t 9) (.c (.pointer none))⟩,
    ⟨some 8, none, .mov (.t 10)⟩] [0, 1, 5, 8])
   (.cond (.t 8) (.seq (.region [⟨some 6, none, .mov (.c (.int .i64 1))⟩] [6])
   (.ret)) (.seq (.region [⟨some 12, none, .mov (.t 1)⟩,
    ⟨some 13, none, .bin .eql (.t 12) (.c (.int .u64 0))⟩,
    ⟨some 11, none, .mov (.t 13)⟩] [0, 1, 5, 11])
   (.cond (.t 11) (.seq (.region [⟨some 6, none, .mov (.c (.int .i64 0))⟩] [6])
   (.ret)) (.seq (.region [⟨some 15, none, .mov (.t 0)⟩,
    ⟨some 16, none, .mov (.t 1)⟩,
    ⟨some 17, none, .call 78 [.t 15, .t 16]⟩,
    ⟨some 18, none, .eqk true .ptr (.t 17) (.c (.pointer none))⟩,
    ⟨some 14, none, .mov (.t 18)⟩] [0, 1, 5, 14])
   (.cond (.t 14) (.seq (.region [⟨some 6, none, .mov (.c (.int .i64 11))⟩] [6])
   (.ret)) (.skip))))))))
   (.seq (.seq (.region [⟨some 19, none, .mov (.t 0)⟩,
    ⟨some 20, none, .nilc (.t 19)⟩,
    ⟨some 21, none, .fa 0 (.t 20)⟩,
    ⟨some 22, none, .ld 1 false (.t 21)⟩,
    ⟨some 23, none, .lenV (.t 22)⟩,
    ⟨some 24, none, .bin .geq (.t 23) (.c (.int .i64 4))⟩] [0, 1, 5, 24])
   (.cond (.t 24) (.seq (.region [⟨some 25, none, .mov (.t 0)⟩,
    ⟨some 26, none, .nilc (.t 25)⟩,
    ⟨some 27, none, .fa 0 (.t 26)⟩,
    ⟨some 28, none, .ld 1 false (.t 27)⟩,
    ⟨some 29, none, .call 79 [.t 28, .c (.func (.func 80) ⟨[]⟩ ⟨[]⟩)]⟩,
    ⟨some 7, none, .mov (.t 29)⟩] [0, 1, 5, 7])
   (.seq (.seq (.region [⟨some 30, none, .mov (.t 7)⟩,
    ⟨some 31, none, .bin .lss (.t 30) (.c (.int .i64 0))⟩] [0, 1, 5, 7, 31])
   (.cond (.t 31) (.seq (.region [⟨some 6, none, .mov (.c (.int .i64 13))⟩] [6])
   (.ret)) (.skip)))
   (.region [⟨some 32, none, .mov (.t 0)⟩,
    ⟨some 33, none, .mov (.t 0)⟩,
    ⟨some 34, none, .nilc (.t 33)⟩,
    ⟨some 35, none, .fa 0 (.t 34)⟩,
    ⟨some 36, none, .ld 1 false (.t 35)⟩,
    ⟨some 37, none, .mov (.t 7)⟩,
    ⟨some 38, none, .mov (.t 7)⟩,
    ⟨some 39, none, .bin .add (.t 38) (.c (.int .i64 1))⟩,
    ⟨some 40, none, .call 81 [.t 36, .t 37, .t 39]⟩,
    ⟨some 41, none, .nilc (.t 32)⟩,
    ⟨some 42, none, .fa 0 (.t 41)⟩,
    ⟨none, none, .st 1 (.t 42) (.t 40)⟩] [0, 1, 5]))) (.skip)))
   (.seq (.region [⟨some 43, none, .mov (.t 0)⟩,
    ⟨some 44, none, .mov (.t 0)⟩,
    ⟨some 45, none, .nilc (.t 44)⟩,
    ⟨some 46, none, .fa 0 (.t 45)⟩,
    ⟨some 47, none, .ld 1 false (.t 46)⟩,
    ⟨some 48, none, .ld 8 true (.t 5)⟩,
    ⟨some 51, none, .mov (.t 1)⟩,
    ⟨some 49, none, .call 82 [.t 48]⟩,
    ⟨none, none, .chk 1 false (.t 46) 47⟩,
    ⟨some 50, none, .build [.int .i64 0, .int .u64 0, .int .u64 0, .string ByteArray.empty, .slice none 0 0, .slice none 0 0, .int .u64 0, .int .u64 0, .int .i64 0] [(0, 8, .t 49), (8, 1, .c (.int .i64 1))]⟩,
    ⟨some 52, none, .build [.int .i64 0, .int .u64 0, .int .u64 0, .string ByteArray.empty, .slice none 0 0, .slice none 0 0, .int .u64 0, .int .u64 0, .int .i64 0, .int .u64 0, .bool false, .int .u64 0, .int .i64 0, .int .u64 0, .slice none 0 0] [(0, 9, .t 50), (9, 1, .t 51)]⟩,
    ⟨some 53, none, .bslice 1 15 [.int .i64 0, .int .u64 0, .int .u64 0, .string ByteArray.empty, .slice none 0 0, .slice none 0 0, .int .u64 0, .int .u64 0, .int .i64 0, .int .u64 0, .bool false, .int .u64 0, .int .i64 0, .int .u64 0, .slice none 0 0] [(0, 15, .t 52)]⟩,
    ⟨some 54, none, .app 15 176 (.t 47) (.t 53)⟩,
    ⟨some 55, none, .nilc (.t 43)⟩,
    ⟨some 56, none, .fa 0 (.t 55)⟩,
    ⟨none, none, .st 1 (.t 56) (.t 54)⟩] [])
   (.seq (.region [⟨some 6, none, .mov (.c (.int .i64 0))⟩] [6])
   (.ret))))),
  [.t 6], 57, 3⟩
def A41 : Ann := ⟨[(0, [0, 1, 5]), (1, [0, 1, 5, 8]), (2, [6]), (3, [0, 1, 5, 11]), (4, [6]), (5, [0, 1, 5, 14]), (6, [6]), (7, [0, 1, 5, 24]), (8, [0, 1, 5, 7]), (9, [0, 1, 5, 7, 31]), (10, [6]), (11, [0, 1, 5]), (12, []), (13, [6])], [(12, [(0, []), (1, []), (2, []), (3, []), (4, []), (5, []), (8, []), (6, [4]), (7, []), (9, []), (10, []), (11, []), (12, []), (13, []), (14, [])], [(2, [1]), (3, [1, 2]), (4, [1, 2, 3]), (6, [5]), (7, [5, 6]), (9, [5, 6, 7, 8]), (10, [5, 6, 7, 8, 9]), (11, [1, 2, 3, 4, 5, 6, 7, 8, 9, 10]), (12, [0, 1, 2, 3, 4, 5, 6, 7, 8, 9, 10, 11]), (13, [0, 1, 2, 3, 4, 5, 6, 7, 8, 9, 10, 11, 12]), (14, [0, 1, 2, 3, 4, 5, 6, 7, 8, 9, 10, 11, 12, 13])])]⟩
set_option maxRecDepth 100000 in
theorem F41.ok : compF Try.prog A41 Try.f41 = some F41 := by kernel_rfl
theorem F41.fok : FOk Try.prog 41 F41 := fok_of mixed Try.func41 F41.ok

/-- (*cloakroom/handle.Table).Get -/
def F42 : SFn := ⟨.seq (.region [⟨some 4, none, .mov (.c (.int .i64 0))⟩,
    ⟨some 5, none, .mov (.c (.int .i64 0))⟩] [0, 1])
   (.seq (.seq (.region [⟨some 8, none, .mov (.t 0)⟩,
    ⟨some 9, none, .eqk false .ptr (.t 8) (.c (.pointer none))⟩] [0, 1, 9])
   (.cond (.t 9) (.seq (.region [⟨some 4, none, .mov (.c (.int .i64 0))⟩,
    ⟨some 5, none, .mov (.c (.int .i64 1))⟩] [4, 5])
   (.ret)) (.skip)))
   (.seq (.region [⟨some 11, none, .mov (.t 0)⟩,
    ⟨some 12, none, .nilc (.t 11)⟩,
    ⟨some 13, none, .fa 0 (.t 12)⟩,
    ⟨some 14, none, .ld 1 false (.t 13)⟩,
    ⟨some 15, none, .mov (.t 1)⟩,
    ⟨some 16, none, .look false (.int .i64 0) true (.t 14) (.t 15)⟩,
    ⟨some 10, none, .mov (.t 16)⟩,
    ⟨some 17, none, .ext (.t 10) 0⟩,
    ⟨some 18, none, .ext (.t 10) 1⟩,
    ⟨some 6, none, .mov (.t 17)⟩,
    ⟨some 7, none, .mov (.t 18)⟩] [6, 7])
   (.seq (.seq (.region [⟨some 19, none, .mov (.t 7)⟩,
    ⟨some 20, none, .un .not (.t 19)⟩] [6, 20])
   (.cond (.t 20) (.seq (.region [⟨some 4, none, .mov (.c (.int .i64 0))⟩,
    ⟨some 5, none, .mov (.c (.int .i64 9))⟩] [4, 5])
   (.ret)) (.skip)))
   (.seq (.region [⟨some 21, none, .mov (.t 6)⟩,
    ⟨some 4, none, .mov (.t 21)⟩,
    ⟨some 5, none, .mov (.c (.int .i64 0))⟩] [4, 5])
   (.ret))))),
  [.t 4, .t 5], 22, 2⟩
def A42 : Ann := ⟨[(0, [0, 1]), (1, [0, 1, 9]), (2, [4, 5]), (3, [6, 7]), (4, [6, 20]), (5, [4, 5]), (6, [4, 5])], []⟩
set_option maxRecDepth 100000 in
theorem F42.ok : compF Try.prog A42 Try.f42 = some F42 := by kernel_rfl
theorem F42.fok : FOk Try.prog 42 F42 := fok_of mixed Try.func42 F42.ok

/-- (*cloakroom/token.Cache).Tokens -/
def F43 : SFn := ⟨.seq (.region [⟨some 2, none, .mov (.c (.slice none 0 0))⟩] [0])
   (.seq (.seq (.region [⟨some 6, none, .mov (.t 0)⟩,
    ⟨some 7, none, .eqk false .ptr (.t 6) (.c (.pointer none))⟩] [0, 7])
   (.cond (.t 7) (.seq (.region [⟨some 2, none, .mov (.c (.slice none 0 0))⟩] [2])
   (.ret)) (.skip)))
   (.seq (.region [⟨some 3, none, .mov (.c (.slice none 0 0))⟩] [0, 3])
   (.seq (.seq (.region [⟨some 8, none, .mov (.t 0)⟩,
    ⟨some 9, none, .nilc (.t 8)⟩,
    ⟨some 10, none, .fa 0 (.t 9)⟩,
    ⟨some 11, none, .ld 1 false (.t 10)⟩,
    ⟨some 12, none, .lenV (.t 11)⟩,
    ⟨some 13, none, .mov (.c (.int .i64 0))⟩] [3, 11, 12, 13])
   (.block 0 (.loop (.seq (.region [⟨some 14, none, .bin .lss (.t 13) (.t 12)⟩] [3, 11, 12, 13, 14])
   (.seq (.cond (.t 14) (.skip) (.exit 0))
   (.seq (.block 1 (.seq (.region [⟨some 15, none, .iaV 15 (.t 11) (.t 13)⟩,
    ⟨some 16, none, .ld 15 true (.t 15)⟩,
    ⟨some 5, none, .new [.int .i64 0, .int .u64 0, .int .u64 0, .string ByteArray.empty, .slice none 0 0, .slice none 0 0, .int .u64 0, .int .u64 0, .int .i64 0, .int .u64 0, .bool false, .int .u64 0, .int .i64 0, .int .u64 0, .slice none 0 0]⟩,
    ⟨none, none, .st 15 (.t 5) (.t 16)⟩] [3, 5, 11, 12, 13])
   (.region [⟨some 17, none, .mov (.t 3)⟩,
    ⟨some 18, none, .fa 9 (.t 5)⟩,
    ⟨some 19, none, .ld 1 false (.t 18)⟩,
    ⟨some 20, none, .bslice 1 1 [.int .u64 0] [(0, 1, .t 19)]⟩,
    ⟨some 21, none, .app 1 8 (.t 17) (.t 20)⟩,
    ⟨some 3, none, .mov (.t 21)⟩] [3, 11, 12, 13])))
   (.region [⟨some 22, none, .bin .add (.t 13) (.c (.int .i64 1))⟩,
    ⟨some 13, none, .mov (.t 22)⟩] [3, 11, 12, 13])))))))
   (.seq (.region [⟨some 23, none, .mov (.t 3)⟩,
    ⟨some 2, none, .mov (.t 23)⟩] [2])
   (.ret))))),
  [.t 2], 24, 1⟩
def A43 : Ann := ⟨[(0, [0]), (1, [0, 7]), (2, [2]), (3, [0, 3]), (4, [3, 11, 12, 13]), (5, [3, 11, 12, 13, 14]), (6, [3, 5, 11, 12, 13]), (7, [3, 11, 12, 13]), (8, [3, 11, 12, 13]), (9, [2])], []⟩
set_option maxRecDepth 100000 in
theorem F43.ok : compF Try.prog A43 Try.f43 = some F43 := by kernel_rfl
theorem F43.fok : FOk Try.prog 43 F43 := fok_of mixed Try.func43 F43.ok

/-- (*cloakroom/req.asked).all -/
def F44 : SFn := ⟨.seq (.region [⟨some 3, none, .mov (.t 0)⟩,
    ⟨some 4, none, .nilc (.t 3)⟩,
    ⟨some 5, none, .fa 2 (.t 4)⟩,
    ⟨some 2, none, .mov (.t 5)⟩] [0, 2])
   (.seq (.region [⟨some 6, none, .mov (.t 2)⟩,
    ⟨some 7, none, .mov (.t 0)⟩,
    ⟨some 8, none, .nilc (.t 7)⟩,
    ⟨some 9, none, .fa 0 (.t 8)⟩,
    ⟨some 10, none, .call 62 [.t 9, .c (.int .u64 1)]⟩,
    ⟨some 11, none, .conv .i64 (.t 10)⟩,
    ⟨some 12, none, .nilc (.t 6)⟩,
    ⟨some 13, none, .fa 0 (.t 12)⟩,
    ⟨none, none, .st 1 (.t 13) (.t 11)⟩] [0, 2])
   (.seq (.region [⟨some 14, none, .mov (.t 0)⟩,
    ⟨some 15, none, .nilc (.t 14)⟩,
    ⟨some 16, none, .fa 0 (.t 15)⟩,
    ⟨some 17, none, .mov (.t 2)⟩,
    ⟨some 18, none, .nilc (.t 17)⟩,
    ⟨some 19, none, .fa 0 (.t 18)⟩,
    ⟨some 20, none, .ld 1 false (.t 19)⟩,
    ⟨some 21, none, .bin .lss (.t 20) (.c (.int .i64 1))⟩,
    ⟨some 22, none, .mov (.t 21)⟩,
    ⟨some 23, some (22, false), .mov (.t 2)⟩,
    ⟨some 24, some (22, false), .nilc (.t 23)⟩,
    ⟨some 25, some (22, false), .fa 0 (.t 24)⟩,
    ⟨some 26, some (22, false), .ld 1 false (.t 25)⟩,
    ⟨some 27, some (22, false), .bin .gtr (.t 26) (.c (.int .i64 6))⟩,
    ⟨some 28, none, .pick (.t 22) (.c (.bool true)) (.t 27)⟩,
    ⟨some 29, none, .call 63 [.t 16, .t 28, .c (.int .i64 2)]⟩] [0, 2])
   (.seq (.region [⟨some 30, none, .mov (.t 2)⟩,
    ⟨some 31, none, .mov (.t 0)⟩,
    ⟨some 32, none, .nilc (.t 31)⟩,
    ⟨some 33, none, .fa 0 (.t 32)⟩,
    ⟨some 34, none, .call 62 [.t 33, .c (.int .u64 8)]⟩,
    ⟨some 35, none, .nilc (.t 30)⟩,
    ⟨some 36, none, .fa 1 (.t 35)⟩,
    ⟨none, none, .st 1 (.t 36) (.t 34)⟩] [0, 2])
   (.seq (.region [⟨some 37, none, .mov (.t 2)⟩,
    ⟨some 38, none, .nilc (.t 37)⟩,
    ⟨some 39, none, .fa 0 (.t 38)⟩,
    ⟨some 40, none, .ld 1 false (.t 39)⟩] [0, 2, 40])
   (.block 0 (.seq (.region [⟨some 42, none, .bin .eql (.t 40) (.c (.int .i64 1))⟩,
    ⟨some 41, none, .mov (.t 42)⟩] [0, 2, 40, 41])
   (.cond (.t 41) (.region [⟨some 43, none, .mov (.t 2)⟩,
    ⟨some 44, none, .mov (.t 0)⟩,
    ⟨some 45, none, .nilc (.t 44)⟩,
    ⟨some 46, none, .fa 0 (.t 45)⟩,
    ⟨some 47, none, .mov (.t 0)⟩,
    ⟨some 48, none, .nilc (.t 47)⟩,
    ⟨some 49, none, .fa 0 (.t 48)⟩,
    ⟨some 50, none, .fa 0 (.t 49)⟩,
    ⟨some 51, none, .ld 1 false (.t 50)⟩,
    ⟨some 52, none, .lenV (.t 51)⟩,
    ⟨some 53, none, .conv .u64 (.t 52)⟩,
    ⟨some 54, none, .call 83 [.t 46, .t 53]⟩,
    ⟨some 55, none, .nilc (.t 43)⟩,
    ⟨some 56, none, .fa 4 (.t 55)⟩,
    ⟨none, none, .st 1 (.t 56) (.t 54)⟩] []) (.seq (.region [⟨some 58, none, .bin .eql (.t 40) (.c (.int .i64 2))⟩,
    ⟨some 57, none, .mov (.t 58)⟩] [0, 2, 40, 57])
   (.cond (.t 57) (.region [⟨some 59, none, .mov (.t 2)⟩,
    ⟨some 60, none, .mov (.t 2)⟩,
    ⟨some 61, none, .mov (.t 0)⟩,
    ⟨some 62, none, .nilc (.t 61)⟩,
    ⟨some 63, none, .fa 0 (.t 62)⟩,
    ⟨some 65, none, .mov (.t 0)⟩,
    ⟨some 66, none, .nilc (.t 65)⟩,
    ⟨some 67, none, .fa 0 (.t 66)⟩,
    ⟨some 64, none, .call 64 [.t 63]⟩,
    ⟨some 68, none, .call 84 [.t 67]⟩,
    ⟨some 69, none, .nilc (.t 59)⟩,
    ⟨some 70, none, .fa 2 (.t 69)⟩,
    ⟨none, none, .st 1 (.t 70) (.t 64)⟩,
    ⟨some 71, none, .nilc (.t 60)⟩,
    ⟨some 72, none, .fa 3 (.t 71)⟩,
    ⟨none, none, .st 1 (.t 72) (.t 68)⟩] []) (.seq (.region [⟨some 74, none, .bin .eql (.t 40) (.c (.int .i64 3))⟩,
    ⟨some 73, none, .mov (.t 74)⟩] [0, 2, 40, 73])
   (.cond (.t 73) (.region [⟨some 75, none, .mov (.t 2)⟩,
    ⟨some 76, none, .mov (.t 0)⟩,
    ⟨some 77, none, .nilc (.t 76)⟩,
    ⟨some 78, none, .fa 0 (.t 77)⟩,
    ⟨some 79, none, .call 84 [.t 78]⟩,
    ⟨some 80, none, .nilc (.t 75)⟩,
    ⟨some 81, none, .fa 3 (.t 80)⟩,
    ⟨none, none, .st 1 (.t 81) (.t 79)⟩] []) (.seq (.region [⟨some 83, none, .bin .eql (.t 40) (.c (.int .i64 4))⟩,
    ⟨some 82, none, .mov (.t 83)⟩] [0, 2, 40, 82])
   (.cond (.t 82) (.region [⟨some 84, none, .mov (.t 2)⟩,
    ⟨some 85, none, .mov (.t 2)⟩,
    ⟨some 86, none, .mov (.t 2)⟩,
    ⟨some 87, none, .mov (.t 2)⟩,
    ⟨some 88, none, .mov (.t 0)⟩,
    ⟨some 89, none, .nilc (.t 88)⟩,
    ⟨some 90, none, .fa 0 (.t 89)⟩,
    ⟨some 92, none, .mov (.t 0)⟩,
    ⟨some 93, none, .nilc (.t 92)⟩,
    ⟨some 94, none, .fa 0 (.t 93)⟩,
    ⟨some 96, none, .mov (.t 0)⟩,
    ⟨some 97, none, .nilc (.t 96)⟩,
    ⟨some 98, none, .fa 0 (.t 97)⟩,
    ⟨some 100, none, .mov (.t 0)⟩,
    ⟨some 101, none, .nilc (.t 100)⟩,
    ⟨some 102, none, .fa 0 (.t 101)⟩,
    ⟨some 91, none, .call 64 [.t 90]⟩,
    ⟨some 95, none, .call 84 [.t 94]⟩,
    ⟨some 99, none, .call 65 [.t 98]⟩,
    ⟨some 103, none, .call 64 [.t 102]⟩,
    ⟨some 104, none, .nilc (.t 84)⟩,
    ⟨some 105, none, .fa 2 (.t 104)⟩,
    ⟨none, none, .st 1 (.t 105) (.t 91)⟩,
    ⟨some 106, none, .nilc (.t 85)⟩,
    ⟨some 107, none, .fa 3 (.t 106)⟩,
    ⟨none, none, .st 1 (.t 107) (.t 95)⟩,
    ⟨some 108, none, .nilc (.t 86)⟩,
    ⟨some 109, none, .fa 5 (.t 108)⟩,
    ⟨none, none, .st 1 (.t 109) (.t 99)⟩,
    ⟨some 110, none, .nilc (.t 87)⟩,
    ⟨some 111, none, .fa 6 (.t 110)⟩,
    ⟨none, none, .st 1 (.t 111) (.t 103)⟩] []) (.seq (.region [⟨some 113, none, .bin .eql (.t 40) (.c (.int .i64 5))⟩,
    ⟨some 112, none, .mov (.t 113)⟩] [0, 2, 40, 112])
   (.cond (.t 112) (.region [⟨some 114, none, .mov (.t 2)⟩,
    ⟨some 115, none, .mov (.t 0)⟩,
    ⟨some 116, none, .nilc (.t 115)⟩,
    ⟨some 117, none, .fa 0 (.t 116)⟩,
    ⟨some 118, none, .call 64 [.t 117]⟩,
    ⟨some 119, none, .nilc (.t 114)⟩,
    ⟨some 120, none, .fa 2 (.t 119)⟩,
    ⟨none, none, .st 1 (.t 120) (.t 118)⟩] []) (.seq (.region [⟨some 122, none, .bin .eql (.t 40) (.c (.int .i64 6))⟩,
    ⟨some 121, none, .mov (.t 122)⟩] [0, 2, 121])
   (.cond (.t 121) (.region [⟨some 123, none, .mov (.t 2)⟩,
    ⟨some 124, none, .mov (.t 0)⟩,
    ⟨some 125, none, .nilc (.t 124)⟩,
    ⟨some 126, none, .fa 0 (.t 125)⟩,
    ⟨some 127, none, .call 62 [.t 126, .c (.int .u64 8)]⟩,
    ⟨some 128, none, .nilc (.t 123)⟩,
    ⟨some 129, none, .fa 7 (.t 128)⟩,
    ⟨none, none, .st 1 (.t 129) (.t 127)⟩] []) (.skip)))))))))))))))))),
  [], 130, 1⟩
def A44 : Ann := ⟨[(0, [0, 2]), (1, [0, 2]), (2, [0, 2]), (3, [0, 2]), (4, [0, 2, 40]), (5, [0, 2, 40, 41]), (6, []), (7, [0, 2, 40, 57]), (8, []), (9, [0, 2, 40, 73]), (10, []), (11, [0, 2, 40, 82]), (12, []), (13, [0, 2, 40, 112]), (14, []), (15, [0, 2, 121]), (16, [])], [(2, [(0, []), (1, []), (2, []), (3, []), (4, []), (5, []), (6, []), (7, []), (8, []), (9, []), (10, []), (11, []), (12, []), (13, []), (14, []), (15, [])], [(1, [0]), (2, [0, 1]), (4, [3]), (5, [3, 4]), (6, [3, 4, 5]), (7, [3, 4, 5, 6]), (8, [3, 4, 5, 6, 7]), (9, [3, 4, 5, 6, 7, 8]), (10, [3, 4, 5, 6, 7, 8, 9]), (11, [3, 4, 5, 6, 7, 8, 9, 10]), (12, [3, 4, 5, 6, 7, 8, 9, 10, 11]), (13, [3, 4, 5, 6, 7, 8, 9, 10, 11, 12]), (14, [3, 4, 5, 6, 7, 8, 9, 10, 11, 12, 13]), (15, [0, 1, 2, 3, 4, 5, 6, 7, 8, 9, 10, 11, 12, 13, 14])]),
  (6, [(0, []), (1, []), (2, []), (3, []), (4, []), (5, []), (6, []), (7, []), (8, []), (9, []), (10, []), (11, []), (12, []), (13, []), (14, [])], [(2, [1]), (3, [1, 2]), (5, [4]), (6, [4, 5]), (7, [4, 5, 6]), (8, [4, 5, 6, 7]), (9, [4, 5, 6, 7, 8]), (10, [4, 5, 6, 7, 8, 9]), (11, [1, 2, 3, 4, 5, 6, 7, 8, 9, 10]), (12, [0, 1, 2, 3, 4, 5, 6, 7, 8, 9, 10, 11]), (13, [0, 1, 2, 3, 4, 5, 6, 7, 8, 9, 10, 11, 12]), (14, [0, 1, 2, 3, 4, 5, 6, 7, 8, 9, 10, 11, 12, 13])]),
  (8, [(0, []), (1, []), (2, []), (3, []), (4, []), (6, []), (7, []), (8, []), (5, []), (9, []), (10, []), (11, []), (12, []), (13, []), (14, []), (15, [])], [(3, [2]), (4, [2, 3]), (5, [2, 3, 4]), (7, [6]), (8, [6, 7]), (9, [2, 3, 4, 5, 6, 7, 8]), (10, [0, 2, 3, 4, 5, 6, 7, 8, 9]), (11, [0, 2, 3, 4, 5, 6, 7, 8, 9, 10]), (12, [0, 2, 3, 4, 5, 6, 7, 8, 9, 10, 11]), (13, [0, 1, 2, 3, 4, 5, 6, 7, 8, 9, 10, 11, 12]), (14, [0, 1, 2, 3, 4, 5, 6, 7, 8, 9, 10, 11, 12, 13]), (15, [0, 1, 2, 3, 4, 5, 6, 7, 8, 9, 10, 11, 12, 13, 14])]),
  (12, [(0, []), (1, []), (2, []), (3, []), (4, []), (5, []), (6, []), (8, []), (9, []), (10, []), (12, []), (13, []), (14, []), (16, []), (17, []), (18, []), (7, []), (11, []), (15, []), (19, []), (20, []), (21, []), (22, []), (23, []), (24, []), (25, []), (26, []), (27, []), (28, []), (29, []), (30, []), (31, [])], [(5, [4]), (6, [4, 5]), (7, [4, 5, 6]), (9, [8]), (10, [8, 9]), (11, [4, 5, 6, 7, 8, 9, 10]), (13, [12]), (14, [12, 13]), (15, [4, 5, 6, 7, 8, 9, 10, 11, 12, 13, 14]), (17, [16]), (18, [16, 17]), (19, [4, 5, 6, 7, 8, 9, 10, 11, 12, 13, 14, 15, 16, 17, 18]), (20, [0, 4, 5, 6, 7, 8, 9, 10, 11, 12, 13, 14, 15, 16, 17, 18, 19]), (21, [0, 4, 5, 6, 7, 8, 9, 10, 11, 12, 13, 14, 15, 16, 17, 18, 19, 20]), (22, [0, 4, 5, 6, 7, 8, 9, 10, 11, 12, 13, 14, 15, 16, 17, 18, 19, 20, 21]), (23, [0, 1, 4, 5, 6, 7, 8, 9, 10, 11, 12, 13, 14, 15, 16, 17, 18, 19, 20, 21, 22]), (24, [0, 1, 4, 5, 6, 7, 8, 9, 10, 11, 12, 13, 14, 15, 16, 17, 18, 19, 20, 21, 22, 23]), (25, [0, 1, 4, 5, 6, 7, 8, 9, 10, 11, 12, 13, 14, 15, 16, 17, 18, 19, 20, 21, 22, 23, 24]), (26, [0, 1, 2, 4, 5, 6, 7, 8, 9, 10, 11, 12, 13, 14, 15, 16, 17, 18, 19, 20, 21, 22, 23, 24, 25]), (27, [0, 1, 2, 4, 5, 6, 7, 8, 9, 10, 11, 12, 13, 14, 15, 16, 17, 18, 19, 20, 21, 22, 23, 24, 25, 26]), (28, [0, 1, 2, 4, 5, 6, 7, 8, 9, 10, 11, 12, 13, 14, 15, 16, 17, 18, 19, 20, 21, 22, 23, 24, 25, 26, 27]), (29, [0, 1, 2, 3, 4, 5, 6, 7, 8, 9, 10, 11, 12, 13, 14, 15, 16, 17, 18, 19, 20, 21, 22, 23, 24, 25, 26, 27, 28]), (30, [0, 1, 2, 3, 4, 5, 6, 7, 8, 9, 10, 11, 12, 13, 14, 15, 16, 17, 18, 19, 20, 21, 22, 23, 24, 25, 26, 27, 28, 29]), (31, [0, 1, 2, 3, 4, 5, 6, 7, 8, 9, 10, 11, 12, 13, 14, 15, 16, 17, 18, 19, 20, 21, 22, 23, 24, 25, 26, 27, 28, 29, 30])])]⟩
set_option maxRecDepth 100000 in
theorem F44.ok : compF Try.prog A44 Try.f44 = some F44 := by kernel_rfl
theorem F44.fok : FOk Try.prog 44 F44 := fok_of mixed Try.func44 F44.ok

/-- (*cloakroom/req.cursor).end -/
def F45 : SFn := ⟨.seq (.region [⟨some 2, none, .mov (.c (.int .i64 0))⟩] [0])
   (.seq (.region [⟨some 3, none, .mov (.t 0)⟩,
    ⟨some 4, none, .mov (.t 0)⟩,
    ⟨some 5, none, .nilc (.t 4)⟩,
    ⟨some 6, none, .fa 0 (.t 5)⟩,
    ⟨some 7, none, .ld 1 false (.t 6)⟩,
    ⟨some 8, none, .lenV (.t 7)⟩,
    ⟨some 9, none, .bin .gtr (.t 8) (.c (.int .i64 0))⟩,
    ⟨some 10, none, .call 63 [.t 3, .t 9, .c (.int .i64 2)]⟩] [0])
   (.seq (.region [⟨some 11, none, .mov (.t 0)⟩,
    ⟨some 12, none, .nilc (.t 11)⟩,
    ⟨some 13, none, .fa 1 (.t 12)⟩,
    ⟨some 14, none, .ld 1 false (.t 13)⟩,
    ⟨some 2, none, .mov (.t 14)⟩] [2])
   (.ret))),
  [.t 2], 15, 1⟩
def A45 : Ann := ⟨[(0, [0]), (1, [0]), (2, [2])], []⟩
set_option maxRecDepth 100000 in
theorem F45.ok : compF Try.prog A45 Try.f45 = some F45 := by kernel_rfl
theorem F45.fok : FOk Try.prog 45 F45 := fok_of mixed Try.func45 F45.ok

/-- (*cloakroom/cloakroomref1.Reader).Byte -/
def F46 : SFn := ⟨.seq (.region [⟨some 2, none, .mov (.c (.int .u8 0))⟩] [0])
   (.seq (.seq (.region [⟨some 4, none, .mov (.t 0)⟩,
    ⟨some 5, none, .nilc (.t 4)⟩,
    ⟨some 6, none, .fa 1 (.t 5)⟩,
    ⟨some 7, none, .ld 1 false (.t 6)⟩,
    ⟨some 8, none, .bin .eql (.t 7) (.c (.int .i64 0))⟩,
    ⟨some 9, none, .mov (.t 8)⟩,
    ⟨some 10, some (9, true), .mov (.t 0)⟩,
    ⟨some 11, some (9, true), .nilc (.t 10)⟩,
    ⟨some 12, some (9, true), .fa 0 (.t 11)⟩,
    ⟨some 13, some (9, true), .ld 1 false (.t 12)⟩,
    ⟨some 14, some (9, true), .lenV (.t 13)⟩,
    ⟨some 15, some (9, true), .bin .eql (.t 14) (.c (.int .i64 0))⟩,
    ⟨some 16, none, .pick (.t 9) (.t 15) (.c (.bool false))⟩] [0, 16])
   (.cond (.t 16) (.region [⟨some 17, none, .mov (.t 0)⟩,
    ⟨some 18, none, .nilc (.t 17)⟩,
    ⟨some 19, none, .fa 1 (.t 18)⟩,
    ⟨none, none, .st 1 (.t 19) (.c (.int .i64 3))⟩] [0]) (.skip)))
   (.seq (.seq (.region [⟨some 20, none, .mov (.t 0)⟩,
    ⟨some 21, none, .nilc (.t 20)⟩,
    ⟨some 22, none, .fa 1 (.t 21)⟩,
    ⟨some 23, none, .ld 1 false (.t 22)⟩,
    ⟨some 24, none, .bin .neq (.t 23) (.c (.int .i64 0))⟩] [0, 24])
   (.cond (.t 24) (.seq (.region [⟨some 2, none, .mov (.c (.int .u8 0))⟩] [2])
   (.ret)) (.skip)))
   (.seq (.region [⟨some 25, none, .mov (.t 0)⟩,
    ⟨some 26, none, .nilc (.t 25)⟩,
    ⟨some 27, none, .fa 0 (.t 26)⟩,
    ⟨some 28, none, .ld 1 false (.t 27)⟩,
    ⟨some 29, none, .iaV 1 (.t 28) (.c (.int .i64 0))⟩,
    ⟨some 30, none, .ld 1 false (.t 29)⟩,
    ⟨some 3, none, .mov (.t 30)⟩] [0, 3])
   (.seq (.region [⟨some 31, none, .mov (.t 0)⟩,
    ⟨some 32, none, .mov (.t 0)⟩,
    ⟨some 33, none, .nilc (.t 32)⟩,
    ⟨some 34, none, .fa 0 (.t 33)⟩,
    ⟨some 35, none, .ld 1 false (.t 34)⟩,
    ⟨some 36, none, .slV 1 (.t 35) (some (.c (.int .i64 1))) none none⟩,
    ⟨some 37, none, .nilc (.t 31)⟩,
    ⟨some 38, none, .fa 0 (.t 37)⟩,
    ⟨none, none, .st 1 (.t 38) (.t 36)⟩] [3])
   (.seq (.region [⟨some 39, none, .mov (.t 3)⟩,
    ⟨some 2, none, .mov (.t 39)⟩] [2])
   (.ret)))))),
  [.t 2], 40, 1⟩
def A46 : Ann := ⟨[(0, [0]), (1, [0, 16]), (2, [0]), (3, [0, 24]), (4, [2]), (5, [0, 3]), (6, [3]), (7, [2])], []⟩
set_option maxRecDepth 100000 in
theorem F46.ok : compF Try.prog A46 Try.f46 = some F46 := by kernel_rfl
theorem F46.fok : FOk Try.prog 46 F46 := fok_of mixed Try.func46 F46.ok

/-- (*cloakroom/cloakroomref1.Reader).Fail -/
def F47 : SFn := ⟨.seq (.region [⟨some 4, none, .mov (.t 0)⟩,
    ⟨some 5, none, .nilc (.t 4)⟩,
    ⟨some 6, none, .fa 1 (.t 5)⟩,
    ⟨some 7, none, .ld 1 false (.t 6)⟩,
    ⟨some 8, none, .bin .eql (.t 7) (.c (.int .i64 0))⟩] [0, 1, 8])
   (.cond (.t 8) (.region [⟨some 9, none, .mov (.t 0)⟩,
    ⟨some 10, none, .mov (.t 1)⟩,
    ⟨some 11, none, .nilc (.t 9)⟩,
    ⟨some 12, none, .fa 1 (.t 11)⟩,
    ⟨none, none, .st 1 (.t 12) (.t 10)⟩] []) (.skip)),
  [], 13, 2⟩
def A47 : Ann := ⟨[(0, [0, 1, 8]), (1, [])], []⟩
set_option maxRecDepth 100000 in
theorem F47.ok : compF Try.prog A47 Try.f47 = some F47 := by kernel_rfl
theorem F47.fok : FOk Try.prog 47 F47 := fok_of mixed Try.func47 F47.ok

/-- (*cloakroom/cloakroomref1.Reader).Eight -/
def F48 : SFn := ⟨.seq (.region [⟨some 2, none, .mov (.c (.int .u64 0))⟩] [0])
   (.seq (.seq (.region [⟨some 5, none, .mov (.t 0)⟩,
    ⟨some 6, none, .nilc (.t 5)⟩,
    ⟨some 7, none, .fa 1 (.t 6)⟩,
    ⟨some 8, none, .ld 1 false (.t 7)⟩,
    ⟨some 9, none, .bin .eql (.t 8) (.c (.int .i64 0))⟩,
    ⟨some 10, none, .mov (.t 9)⟩,
    ⟨some 11, some (10, true), .mov (.t 0)⟩,
    ⟨some 12, some (10, true), .nilc (.t 11)⟩,
    ⟨some 13, some (10, true), .fa 0 (.t 12)⟩,
    ⟨some 14, some (10, true), .ld 1 false (.t 13)⟩,
    ⟨some 15, some (10, true), .lenV (.t 14)⟩,
    ⟨some 16, some (10, true), .bin .lss (.t 15) (.c (.int .i64 8))⟩,
    ⟨some 17, none, .pick (.t 10) (.t 16) (.c (.bool false))⟩] [0, 17])
   (.cond (.t 17) (.region [⟨some 18, none, .mov (.t 0)⟩,
    ⟨some 19, none, .nilc (.t 18)⟩,
    ⟨some 20, none, .fa 1 (.t 19)⟩,
    ⟨none, none, .st 1 (.t 20) (.c (.int .i64 3))⟩] [0]) (.skip)))
   (.seq (.seq (.region [⟨some 21, none, .mov (.t 0)⟩,
    ⟨some 22, none, .nilc (.t 21)⟩,
    ⟨some 23, none, .fa 1 (.t 22)⟩,
    ⟨some 24, none, .ld 1 false (.t 23)⟩,
    ⟨some 25, none, .bin .neq (.t 24) (.c (.int .i64 0))⟩] [0, 25])
   (.cond (.t 25) (.seq (.region [⟨some 2, none, .mov (.c (.int .u64 0))⟩] [2])
   (.ret)) (.skip)))
   (.seq (.region [⟨some 3, none, .mov (.c (.int .u64 0))⟩] [0, 3])
   (.seq (.seq (.region [⟨some 4, none, .mov (.c (.int .i64 0))⟩] [0, 3, 4])
   (.block 0 (.loop (.seq (.seq (.region [⟨some 26, none, .mov (.t 4)⟩,
    ⟨some 27, none, .bin .lss (.t 26) (.c (.int .i64 8))⟩] [0, 3, 4, 27])
   (.cond (.t 27) (.skip) (.exit 0)))
   (.seq (.block 1 (.region [⟨some 30, none, .mov (.t 3)⟩,
    ⟨some 31, none, .bin .shl (.t 30) (.c (.int .u64 8))⟩,
    ⟨some 32, none, .mov (.t 0)⟩,
    ⟨some 33, none, .nilc (.t 32)⟩,
    ⟨some 34, none, .fa 0 (.t 33)⟩,
    ⟨some 35, none, .ld 1 false (.t 34)⟩,
    ⟨some 36, none, .mov (.t 4)⟩,
    ⟨some 37, none, .iaV 1 (.t 35) (.t 36)⟩,
    ⟨some 38, none, .ld 1 false (.t 37)⟩,
    ⟨some 39, none, .conv .u64 (.t 38)⟩,
    ⟨some 40, none, .bin .or (.t 31) (.t 39)⟩,
    ⟨some 3, none, .mov (.t 40)⟩] [0, 3, 4]))
   (.region [⟨some 28, none, .mov (.t 4)⟩,
    ⟨some 29, none, .bin .add (.t 28) (.c (.int .i64 1))⟩,
    ⟨some 4, none, .mov (.t 29)⟩] [0, 3, 4]))))))
   (.seq (.region [⟨some 41, none, .mov (.t 0)⟩,
    ⟨some 42, none, .mov (.t 0)⟩,
    ⟨some 43, none, .nilc (.t 42)⟩,
    ⟨some 44, none, .fa 0 (.t 43)⟩,
    ⟨some 45, none, .ld 1 false (.t 44)⟩,
    ⟨some 46, none, .slV 1 (.t 45) (some (.c (.int .i64 8))) none none⟩,
    ⟨some 47, none, .nilc (.t 41)⟩,
    ⟨some 48, none, .fa 0 (.t 47)⟩,
    ⟨none, none, .st 1 (.t 48) (.t 46)⟩] [3])
   (.seq (.region [⟨some 49, none, .mov (.t 3)⟩,
    ⟨some 2, none, .mov (.t 49)⟩] [2])
   (.ret))))))),
  [.t 2], 50, 1⟩
def A48 : Ann := ⟨[(0, [0]), (1, [0, 17]), (2, [0]), (3, [0, 25]), (4, [2]), (5, [0, 3]), (6, [0, 3, 4]), (7, [0, 3, 4, 27]), (8, [0, 3, 4]), (9, [0, 3, 4]), (10, [3]), (11, [2])], []⟩
set_option maxRecDepth 100000 in
theorem F48.ok : compF Try.prog A48 Try.f48 = some F48 := by kernel_rfl
theorem F48.fok : FOk Try.prog 48 F48 := fok_of mixed Try.func48 F48.ok

/-- (*cloakroom/cloakroomref1.Reader).Take -/
def F49 : SFn := ⟨.seq (.region [⟨some 4, none, .mov (.c (.slice none 0 0))⟩] [0, 1])
   (.seq (.seq (.region [⟨some 6, none, .mov (.t 0)⟩,
    ⟨some 7, none, .nilc (.t 6)⟩,
    ⟨some 8, none, .fa 1 (.t 7)⟩,
    ⟨some 9, none, .ld 1 false (.t 8)⟩,
    ⟨some 10, none, .bin .eql (.t 9) (.c (.int .i64 0))⟩,
    ⟨some 11, none, .mov (.t 10)⟩,
    ⟨some 12, some (11, true), .mov (.t 1)⟩,
    ⟨some 13, some (11, true), .conv .u64 (.t 12)⟩,
    ⟨some 14, some (11, true), .mov (.t 0)⟩,
    ⟨some 15, some (11, true), .nilc (.t 14)⟩,
    ⟨some 16, some (11, true), .fa 0 (.t 15)⟩,
    ⟨some 17, some (11, true), .ld 1 false (.t 16)⟩,
    ⟨some 18, some (11, true), .lenV (.t 17)⟩,
    ⟨some 19, some (11, true), .conv .u64 (.t 18)⟩,
    ⟨some 20, some (11, true), .bin .gtr (.t 13) (.t 19)⟩,
    ⟨some 21, none, .pick (.t 11) (.t 20) (.c (.bool false))⟩] [0, 1, 21])
   (.cond (.t 21) (.region [⟨some 22, none, .mov (.t 0)⟩,
    ⟨some 23, none, .nilc (.t 22)⟩,
    ⟨some 24, none, .fa 1 (.t 23)⟩,
    ⟨none, none, .st 1 (.t 24) (.c (.int .i64 3))⟩] [0, 1]) (.skip)))
   (.seq (.seq (.region [⟨some 25, none, .mov (.t 0)⟩,
    ⟨some 26, none, .nilc (.t 25)⟩,
    ⟨some 27, none, .fa 1 (.t 26)⟩,
    ⟨some 28, none, .ld 1 false (.t 27)⟩,
    ⟨some 29, none, .bin .neq (.t 28) (.c (.int .i64 0))⟩] [0, 1, 29])
   (.cond (.t 29) (.seq (.region [⟨some 4, none, .mov (.c (.slice none 0 0))⟩] [4])
   (.ret)) (.skip)))
   (.seq (.region [⟨some 30, none, .bslice 0 1 [.int .u8 0] []⟩,
    ⟨some 31, none, .mov (.t 0)⟩,
    ⟨some 32, none, .nilc (.t 31)⟩,
    ⟨some 33, none, .fa 0 (.t 32)⟩,
    ⟨some 34, none, .ld 1 false (.t 33)⟩,
    ⟨some 35, none, .mov (.t 1)⟩,
    ⟨some 36, none, .slV 1 (.t 34) none (some (.t 35)) none⟩,
    ⟨some 37, none, .app 1 1 (.t 30) (.t 36)⟩,
    ⟨some 5, none, .mov (.t 37)⟩] [0, 1, 5])
   (.seq (.region [⟨some 38, none, .mov (.t 0)⟩,
    ⟨some 39, none, .mov (.t 0)⟩,
    ⟨some 40, none, .nilc (.t 39)⟩,
    ⟨some 41, none, .fa 0 (.t 40)⟩,
    ⟨some 42, none, .ld 1 false (.t 41)⟩,
    ⟨some 43, none, .mov (.t 1)⟩,
    ⟨some 44, none, .slV 1 (.t 42) (some (.t 43)) none none⟩,
    ⟨some 45, none, .nilc (.t 38)⟩,
    ⟨some 46, none, .fa 0 (.t 45)⟩,
    ⟨none, none, .st 1 (.t 46) (.t 44)⟩] [5])
   (.seq (.region [⟨some 47, none, .mov (.t 5)⟩,
    ⟨some 4, none, .mov (.t 47)⟩] [4])
   (.ret)))))),
  [.t 4], 48, 2⟩
def A49 : Ann := ⟨[(0, [0, 1]), (1, [0, 1, 21]), (2, [0, 1]), (3, [0, 1, 29]), (4, [4]), (5, [0, 1, 5]), (6, [5]), (7, [4])], []⟩
set_option maxRecDepth 100000 in
theorem F49.ok : compF Try.prog A49 Try.f49 = some F49 := by kernel_rfl
theorem F49.fok : FOk Try.prog 49 F49 := fok_of mixed Try.func49 F49.ok

/-- (*cloakroom/cloakroomref1.Reader).U64 -/
def F50 : SFn := ⟨.seq (.region [⟨some 2, none, .mov (.c (.int .u64 0))⟩] [0])
   (.seq (.region [⟨some 3, none, .mov (.t 0)⟩,
    ⟨some 4, none, .call 85 [.t 3, .c (.int .i64 64), .c (.bool false)]⟩,
    ⟨some 2, none, .mov (.t 4)⟩] [2])
   (.ret)),
  [.t 2], 5, 1⟩
def A50 : Ann := ⟨[(0, [0]), (1, [2])], []⟩
set_option maxRecDepth 100000 in
theorem F50.ok : compF Try.prog A50 Try.f50 = some F50 := by kernel_rfl
theorem F50.fok : FOk Try.prog 50 F50 := fok_of mixed Try.func50 F50.ok

/-- (*cloakroom/cloakroomref1.Reader).name -/
def F51 : SFn := ⟨.seq (.region [⟨some 2, none, .mov (.c (.string { data := #[] }))⟩] [0])
   (.seq (.region [⟨some 4, none, .mov (.t 0)⟩,
    ⟨some 5, none, .call 52 [.t 4]⟩,
    ⟨some 3, none, .mov (.t 5)⟩] [0, 3])
   (.seq (.seq (.region [⟨some 6, none, .mov (.t 3)⟩,
    ⟨some 7, none, .bin .gtr (.t 6) (.c (.int .u32 32))⟩] [0, 3, 7])
   (.cond (.t 7) (.region [⟨some 8, none, .mov (.t 0)⟩,
    ⟨some 9, none, .call 47 [.t 8, .c (.int .i64 4)]⟩] [0, 3]) (.skip)))
   (.seq (.region [⟨some 10, none, .mov (.t 0)⟩,
    ⟨some 11, none, .mov (.t 3)⟩,
    ⟨some 12, none, .call 49 [.t 10, .t 11]⟩,
    ⟨some 13, none, .toStr (.t 12)⟩,
    ⟨some 2, none, .mov (.t 13)⟩] [2])
   (.ret)))),
  [.t 2], 14, 1⟩
def A51 : Ann := ⟨[(0, [0]), (1, [0, 3]), (2, [0, 3, 7]), (3, [0, 3]), (4, [2])], []⟩
set_option maxRecDepth 100000 in
theorem F51.ok : compF Try.prog A51 Try.f51 = some F51 := by kernel_rfl
theorem F51.fok : FOk Try.prog 51 F51 := fok_of mixed Try.func51 F51.ok

/-- (*cloakroom/cloakroomref1.Reader).U32 -/
def F52 : SFn := ⟨.seq (.region [⟨some 2, none, .mov (.c (.int .u32 0))⟩] [0])
   (.seq (.region [⟨some 4, none, .mov (.t 0)⟩,
    ⟨some 5, none, .call 85 [.t 4, .c (.int .i64 32), .c (.bool false)]⟩,
    ⟨some 3, none, .mov (.t 5)⟩] [3])
   (.seq (.region [⟨some 6, none, .mov (.t 3)⟩,
    ⟨some 7, none, .conv .u32 (.t 6)⟩,
    ⟨some 2, none, .mov (.t 7)⟩] [2])
   (.ret))),
  [.t 2], 8, 1⟩
def A52 : Ann := ⟨[(0, [0]), (1, [3]), (2, [2])], []⟩
set_option maxRecDepth 100000 in
theorem F52.ok : compF Try.prog A52 Try.f52 = some F52 := by kernel_rfl
theorem F52.fok : FOk Try.prog 52 F52 := fok_of mixed Try.func52 F52.ok

/-- (*cloakroom/cloakroomref1.Reader).Over -/
def F53 : SFn := ⟨.seq (.region [⟨some 2, none, .mov (.t 0)⟩,
    ⟨some 3, none, .nilc (.t 2)⟩,
    ⟨some 4, none, .fa 0 (.t 3)⟩,
    ⟨some 5, none, .ld 1 false (.t 4)⟩,
    ⟨some 6, none, .lenV (.t 5)⟩,
    ⟨some 7, none, .bin .gtr (.t 6) (.c (.int .i64 0))⟩] [0, 7])
   (.cond (.t 7) (.region [⟨some 8, none, .mov (.t 0)⟩,
    ⟨some 9, none, .call 47 [.t 8, .c (.int .i64 2)]⟩] []) (.skip)),
  [], 10, 1⟩
def A53 : Ann := ⟨[(0, [0, 7]), (1, [])], []⟩
set_option maxRecDepth 100000 in
theorem F53.ok : compF Try.prog A53 Try.f53 = some F53 := by kernel_rfl
theorem F53.fok : FOk Try.prog 53 F53 := fok_of mixed Try.func53 F53.ok

/-- cloakroom/req.eight -/
def F54 : SFn := ⟨.seq (.region [⟨some 4, none, .mov (.c (.slice none 0 0))⟩] [0, 1])
   (.seq (.seq (.region [⟨some 5, none, .mov (.c (.int .i64 7))⟩] [0, 1, 5])
   (.block 0 (.loop (.seq (.seq (.region [⟨some 6, none, .mov (.t 5)⟩,
    ⟨some 7, none, .bin .geq (.t 6) (.c (.int .i64 0))⟩] [0, 1, 5, 7])
   (.cond (.t 7) (.skip) (.exit 0)))
   (.seq (.block 1 (.region [⟨some 10, none, .mov (.t 0)⟩,
    ⟨some 11, none, .mov (.t 1)⟩,
    ⟨some 12, none, .mov (.t 5)⟩,
    ⟨some 13, none, .bin .mul (.c (.int .i64 8)) (.t 12)⟩,
    ⟨some 14, none, .bin .shr (.t 11) (.t 13)⟩,
    ⟨some 15, none, .conv .u8 (.t 14)⟩,
    ⟨some 16, none, .bslice 1 1 [.int .u8 0] [(0, 1, .t 15)]⟩,
    ⟨some 17, none, .app 1 1 (.t 10) (.t 16)⟩,
    ⟨some 0, none, .mov (.t 17)⟩] [0, 1, 5]))
   (.region [⟨some 8, none, .mov (.t 5)⟩,
    ⟨some 9, none, .bin .sub (.t 8) (.c (.int .i64 1))⟩,
    ⟨some 5, none, .mov (.t 9)⟩] [0, 1, 5]))))))
   (.seq (.region [⟨some 18, none, .mov (.t 0)⟩,
    ⟨some 4, none, .mov (.t 18)⟩] [4])
   (.ret))),
  [.t 4], 19, 2⟩
def A54 : Ann := ⟨[(0, [0, 1]), (1, [0, 1, 5]), (2, [0, 1, 5, 7]), (3, [0, 1, 5]), (4, [0, 1, 5]), (5, [4])], []⟩
set_option maxRecDepth 100000 in
theorem F54.ok : compF Try.prog A54 Try.f54 = some F54 := by kernel_rfl
theorem F54.fok : FOk Try.prog 54 F54 := fok_of mixed Try.func54 F54.ok

/-- cloakroom/req.name -/
def F55 : SFn := ⟨.seq (.region [⟨some 4, none, .mov (.c (.slice none 0 0))⟩] [0, 1])
   (.seq (.region [⟨some 5, none, .mov (.t 0)⟩,
    ⟨some 6, none, .mov (.t 1)⟩,
    ⟨some 7, none, .lenS (.t 6)⟩,
    ⟨some 8, none, .conv .u64 (.t 7)⟩,
    ⟨some 9, none, .bslice 1 1 [.int .u64 0] [(0, 1, .t 8)]⟩,
    ⟨some 10, none, .call 56 [.t 5, .t 9]⟩,
    ⟨some 11, none, .mov (.t 1)⟩,
    ⟨some 12, none, .app 1 1 (.t 10) (.t 11)⟩,
    ⟨some 4, none, .mov (.t 12)⟩] [4])
   (.ret)),
  [.t 4], 13, 2⟩
def A55 : Ann := ⟨[(0, [0, 1]), (1, [4])], []⟩
set_option maxRecDepth 100000 in
theorem F55.ok : compF Try.prog A55 Try.f55 = some F55 := by kernel_rfl
theorem F55.fok : FOk Try.prog 55 F55 := fok_of mixed Try.func55 F55.ok

/-- cloakroom/req.numbers -/
def F56 : SFn := ⟨.seq (.region [⟨some 4, none, .mov (.c (.slice none 0 0))⟩] [0, 1])
   (.seq (.seq (.region [⟨some 7, none, .mov (.t 1)⟩,
    ⟨some 8, none, .lenV (.t 7)⟩,
    ⟨some 9, none, .mov (.c (.int .i64 0))⟩] [0, 7, 8, 9])
   (.block 0 (.loop (.seq (.region [⟨some 10, none, .bin .lss (.t 9) (.t 8)⟩] [0, 7, 8, 9, 10])
   (.seq (.cond (.t 10) (.skip) (.exit 0))
   (.seq (.block 1 (.seq (.region [⟨some 11, none, .iaV 1 (.t 7) (.t 9)⟩,
    ⟨some 12, none, .ld 1 false (.t 11)⟩,
    ⟨some 6, none, .mov (.t 12)⟩] [0, 6, 7, 8, 9])
   (.region [⟨some 13, none, .mov (.t 0)⟩,
    ⟨some 14, none, .mov (.t 6)⟩,
    ⟨some 15, none, .call 86 [.t 13, .t 14]⟩,
    ⟨some 0, none, .mov (.t 15)⟩] [0, 7, 8, 9])))
   (.region [⟨some 16, none, .bin .add (.t 9) (.c (.int .i64 1))⟩,
    ⟨some 9, none, .mov (.t 16)⟩] [0, 7, 8, 9])))))))
   (.seq (.region [⟨some 17, none, .mov (.t 0)⟩,
    ⟨some 4, none, .mov (.t 17)⟩] [4])
   (.ret))),
  [.t 4], 18, 2⟩
def A56 : Ann := ⟨[(0, [0, 1]), (1, [0, 7, 8, 9]), (2, [0, 7, 8, 9, 10]), (3, [0, 6, 7, 8, 9]), (4, [0, 7, 8, 9]), (5, [0, 7, 8, 9]), (6, [4])], []⟩
set_option maxRecDepth 100000 in
theorem F56.ok : compF Try.prog A56 Try.f56 = some F56 := by kernel_rfl
theorem F56.fok : FOk Try.prog 56 F56 := fok_of mixed Try.func56 F56.ok

/-- cloakroom/cloakroomref1.eight -/
def F57 : SFn := ⟨.seq (.region [⟨some 4, none, .mov (.c (.slice none 0 0))⟩] [0, 1])
   (.seq (.region [⟨some 7, none, .bslice 0 1 [.int .u8 0] []⟩,
    ⟨some 8, none, .mov (.t 0)⟩,
    ⟨some 9, none, .app 1 1 (.t 7) (.t 8)⟩,
    ⟨some 5, none, .mov (.t 9)⟩] [1, 5])
   (.seq (.seq (.region [⟨some 6, none, .mov (.c (.int .i64 0))⟩] [1, 5, 6])
   (.block 0 (.loop (.seq (.seq (.region [⟨some 10, none, .mov (.t 6)⟩,
    ⟨some 11, none, .bin .lss (.t 10) (.c (.int .i64 8))⟩] [1, 5, 6, 11])
   (.cond (.t 11) (.skip) (.exit 0)))
   (.seq (.block 1 (.region [⟨some 14, none, .mov (.t 5)⟩,
    ⟨some 15, none, .mov (.t 1)⟩,
    ⟨some 16, none, .mov (.t 6)⟩,
    ⟨some 17, none, .bin .mul (.c (.int .i64 8)) (.t 16)⟩,
    ⟨some 18, none, .bin .sub (.c (.int .i64 56)) (.t 17)⟩,
    ⟨some 19, none, .bin .shr (.t 15) (.t 18)⟩,
    ⟨some 20, none, .conv .u8 (.t 19)⟩,
    ⟨some 21, none, .bslice 1 1 [.int .u8 0] [(0, 1, .t 20)]⟩,
    ⟨some 22, none, .app 1 1 (.t 14) (.t 21)⟩,
    ⟨some 5, none, .mov (.t 22)⟩] [1, 5, 6]))
   (.region [⟨some 12, none, .mov (.t 6)⟩,
    ⟨some 13, none, .bin .add (.t 12) (.c (.int .i64 1))⟩,
    ⟨some 6, none, .mov (.t 13)⟩] [1, 5, 6]))))))
   (.seq (.region [⟨some 23, none, .mov (.t 5)⟩,
    ⟨some 4, none, .mov (.t 23)⟩] [4])
   (.ret)))),
  [.t 4], 24, 2⟩
def A57 : Ann := ⟨[(0, [0, 1]), (1, [1, 5]), (2, [1, 5, 6]), (3, [1, 5, 6, 11]), (4, [1, 5, 6]), (5, [1, 5, 6]), (6, [4])], []⟩
set_option maxRecDepth 100000 in
theorem F57.ok : compF Try.prog A57 Try.f57 = some F57 := by kernel_rfl
theorem F57.fok : FOk Try.prog 57 F57 := fok_of mixed Try.func57 F57.ok

/-- cloakroom/cloakroomref1.putName -/
def F58 : SFn := ⟨.seq (.region [⟨some 4, none, .mov (.c (.slice none 0 0))⟩] [0, 1])
   (.seq (.region [⟨some 5, none, .mov (.t 0)⟩,
    ⟨some 6, none, .mov (.t 1)⟩,
    ⟨some 7, none, .lenS (.t 6)⟩,
    ⟨some 8, none, .conv .u64 (.t 7)⟩,
    ⟨some 9, none, .call 59 [.t 5, .t 8]⟩,
    ⟨some 10, none, .mov (.t 1)⟩,
    ⟨some 11, none, .app 1 1 (.t 9) (.t 10)⟩,
    ⟨some 4, none, .mov (.t 11)⟩] [4])
   (.ret)),
  [.t 4], 12, 2⟩
def A58 : Ann := ⟨[(0, [0, 1]), (1, [4])], []⟩
set_option maxRecDepth 100000 in
theorem F58.ok : compF Try.prog A58 Try.f58 = some F58 := by kernel_rfl
theorem F58.fok : FOk Try.prog 58 F58 := fok_of mixed Try.func58 F58.ok

/-- cloakroom/cloakroomref1.PutU -/
def F59 : SFn := ⟨.seq (.region [⟨some 4, none, .mov (.c (.slice none 0 0))⟩] [0, 1])
   (.seq (.region [⟨some 6, none, .bslice 0 1 [.int .u8 0] []⟩,
    ⟨some 7, none, .mov (.t 0)⟩,
    ⟨some 8, none, .app 1 1 (.t 6) (.t 7)⟩,
    ⟨some 5, none, .mov (.t 8)⟩] [1, 5])
   (.seq (.block 0 (.loop (.seq (.seq (.region [⟨some 9, none, .mov (.t 1)⟩,
    ⟨some 10, none, .bin .geq (.t 9) (.c (.int .u64 128))⟩] [1, 5, 10])
   (.cond (.t 10) (.skip) (.exit 0)))
   (.block 1 (.seq (.region [⟨some 11, none, .mov (.t 5)⟩,
    ⟨some 12, none, .mov (.t 1)⟩,
    ⟨some 13, none, .conv .u8 (.t 12)⟩,
    ⟨some 14, none, .bin .or (.t 13) (.c (.int .u8 128))⟩,
    ⟨some 15, none, .bslice 1 1 [.int .u8 0] [(0, 1, .t 14)]⟩,
    ⟨some 16, none, .app 1 1 (.t 11) (.t 15)⟩,
    ⟨some 5, none, .mov (.t 16)⟩] [1, 5])
   (.region [⟨some 17, none, .mov (.t 1)⟩,
    ⟨some 18, none, .bin .shr (.t 17) (.c (.int .u64 7))⟩,
    ⟨some 1, none, .mov (.t 18)⟩] [1, 5]))))))
   (.seq (.region [⟨some 19, none, .mov (.t 5)⟩,
    ⟨some 20, none, .mov (.t 1)⟩,
    ⟨some 21, none, .conv .u8 (.t 20)⟩,
    ⟨some 22, none, .bslice 1 1 [.int .u8 0] [(0, 1, .t 21)]⟩,
    ⟨some 23, none, .app 1 1 (.t 19) (.t 22)⟩,
    ⟨some 4, none, .mov (.t 23)⟩] [4])
   (.ret)))),
  [.t 4], 24, 2⟩
def A59 : Ann := ⟨[(0, [0, 1]), (1, [1, 5]), (2, [1, 5, 10]), (3, [1, 5]), (4, [1, 5]), (5, [4])], []⟩
set_option maxRecDepth 100000 in
theorem F59.ok : compF Try.prog A59 Try.f59 = some F59 := by kernel_rfl
theorem F59.fok : FOk Try.prog 59 F59 := fok_of mixed Try.func59 F59.ok

/-- bytes.Equal -/
def F60 : SFn := ⟨.seq (.region [⟨some 4, none, .mov (.c (.bool false))⟩] [0, 1])
   (.seq (.region [⟨some 5, none, .mov (.t 0)⟩,
    ⟨some 6, none, .toStr (.t 5)⟩,
    ⟨some 7, none, .mov (.t 1)⟩,
    ⟨some 8, none, .toStr (.t 7)⟩,
    ⟨some 9, none, .bin .eql (.t 6) (.t 8)⟩,
    ⟨some 4, none, .mov (.t 9)⟩] [4])
   (.ret)),
  [.t 4], 10, 2⟩
def A60 : Ann := ⟨[(0, [0, 1]), (1, [4])], []⟩
set_option maxRecDepth 100000 in
theorem F60.ok : compF Try.prog A60 Try.f60 = some F60 := by kernel_rfl
theorem F60.fok : FOk Try.prog 60 F60 := fok_of mixed Try.func60 F60.ok

/-- slices.Equal[[]uint64,uint64] -/
def F61 : SFn := ⟨.seq (.region [⟨some 4, none, .mov (.c (.bool false))⟩] [0, 1])
   (.seq (.seq (.region [⟨some 6, none, .mov (.t 0)⟩,
    ⟨some 7, none, .lenV (.t 6)⟩,
    ⟨some 8, none, .mov (.t 1)⟩,
    ⟨some 9, none, .lenV (.t 8)⟩,
    ⟨some 10, none, .bin .neq (.t 7) (.t 9)⟩] [0, 1, 10])
   (.cond (.t 10) (.seq (.region [⟨some 4, none, .mov (.c (.bool false))⟩] [4])
   (.ret)) (.skip)))
   (.seq (.seq (.region [⟨some 11, none, .mov (.t 0)⟩,
    ⟨some 12, none, .lenV (.t 11)⟩,
    ⟨some 13, none, .mov (.c (.int .i64 0))⟩] [0, 1, 12, 13])
   (.block 0 (.loop (.seq (.region [⟨some 14, none, .bin .lss (.t 13) (.t 12)⟩] [0, 1, 12, 13, 14])
   (.seq (.cond (.t 14) (.skip) (.exit 0))
   (.seq (.block 1 (.seq (.region [⟨some 15, none, .mov (.t 13)⟩,
    ⟨some 5, none, .mov (.t 15)⟩] [0, 1, 5, 12, 13])
   (.seq (.region [⟨some 16, none, .mov (.t 0)⟩,
    ⟨some 17, none, .mov (.t 5)⟩,
    ⟨some 18, none, .iaV 1 (.t 16) (.t 17)⟩,
    ⟨some 19, none, .ld 1 false (.t 18)⟩,
    ⟨some 20, none, .mov (.t 1)⟩,
    ⟨some 21, none, .mov (.t 5)⟩,
    ⟨some 22, none, .iaV 1 (.t 20) (.t 21)⟩,
    ⟨some 23, none, .ld 1 false (.t 22)⟩,
    ⟨some 24, none, .bin .neq (.t 19) (.t 23)⟩] [0, 1, 12, 13, 24])
   (.cond (.t 24) (.seq (.region [⟨some 4, none, .mov (.c (.bool false))⟩] [4])
   (.ret)) (.skip)))))
   (.region [⟨some 25, none, .bin .add (.t 13) (.c (.int .i64 1))⟩,
    ⟨some 13, none, .mov (.t 25)⟩] [0, 1, 12, 13])))))))
   (.seq (.region [⟨some 4, none, .mov (.c (.bool true))⟩] [4])
   (.ret)))),
  [.t 4], 26, 2⟩
def A61 : Ann := ⟨[(0, [0, 1]), (1, [0, 1, 10]), (2, [4]), (3, [0, 1, 12, 13]), (4, [0, 1, 12, 13, 14]), (5, [0, 1, 5, 12, 13]), (6, [0, 1, 12, 13, 24]), (7, [4]), (8, [0, 1, 12, 13]), (9, [4])], [(6, [(0, []), (1, []), (2, []), (3, []), (4, []), (5, []), (6, []), (7, []), (8, [])], [(2, [0, 1]), (3, [0, 1, 2]), (6, [4, 5]), (7, [4, 5, 6]), (8, [0, 1, 2, 3, 4, 5, 6, 7])])]⟩
set_option maxRecDepth 100000 in
theorem F61.ok : compF Try.prog A61 Try.f61 = some F61 := by kernel_rfl
theorem F61.fok : FOk Try.prog 61 F61 := fok_of mixed Try.func61 F61.ok

/-- (*cloakroom/req.cursor).fixed -/
def F62 : SFn := ⟨.seq (.region [⟨some 4, none, .mov (.c (.int .u64 0))⟩] [0, 1, 4])
   (.seq (.seq (.region [⟨some 7, none, .mov (.t 0)⟩,
    ⟨some 8, none, .mov (.t 1)⟩,
    ⟨some 9, none, .call 83 [.t 7, .t 8]⟩,
    ⟨some 10, none, .lenV (.t 9)⟩,
    ⟨some 11, none, .mov (.c (.int .i64 0))⟩] [4, 9, 10, 11])
   (.block 0 (.loop (.seq (.region [⟨some 12, none, .bin .lss (.t 11) (.t 10)⟩] [4, 9, 10, 11, 12])
   (.seq (.cond (.t 12) (.skip) (.exit 0))
   (.seq (.block 1 (.seq (.region [⟨some 13, none, .iaV 1 (.t 9) (.t 11)⟩,
    ⟨some 14, none, .ld 1 false (.t 13)⟩,
    ⟨some 6, none, .mov (.t 14)⟩] [4, 6, 9, 10, 11])
   (.region [⟨some 15, none, .mov (.t 4)⟩,
    ⟨some 16, none, .bin .shl (.t 15) (.c (.int .u64 8))⟩,
    ⟨some 17, none, .mov (.t 6)⟩,
    ⟨some 18, none, .conv .u64 (.t 17)⟩,
    ⟨some 19, none, .bin .or (.t 16) (.t 18)⟩,
    ⟨some 4, none, .mov (.t 19)⟩] [4, 9, 10, 11])))
   (.region [⟨some 20, none, .bin .add (.t 11) (.c (.int .i64 1))⟩,
    ⟨some 11, none, .mov (.t 20)⟩] [4, 9, 10, 11])))))))
   (.seq (.region [⟨some 21, none, .mov (.t 4)⟩,
    ⟨some 4, none, .mov (.t 21)⟩] [4])
   (.ret))),
  [.t 4], 22, 2⟩
def A62 : Ann := ⟨[(0, [0, 1, 4]), (1, [4, 9, 10, 11]), (2, [4, 9, 10, 11, 12]), (3, [4, 6, 9, 10, 11]), (4, [4, 9, 10, 11]), (5, [4, 9, 10, 11]), (6, [4])], []⟩
set_option maxRecDepth 100000 in
theorem F62.ok : compF Try.prog A62 Try.f62 = some F62 := by kernel_rfl
theorem F62.fok : FOk Try.prog 62 F62 := fok_of mixed Try.func62 F62.ok

/-- (*cloakroom/req.cursor).fails -/
def F63 : SFn := ⟨.seq (.region [⟨some 6, none, .mov (.t 1)⟩,
    ⟨some 7, none, .mov (.t 6)⟩,
    ⟨some 8, some (7, true), .mov (.t 0)⟩,
    ⟨some 9, some (7, true), .nilc (.t 8)⟩,
    ⟨some 10, some (7, true), .fa 1 (.t 9)⟩,
    ⟨some 11, some (7, true), .ld 1 false (.t 10)⟩,
    ⟨some 12, some (7, true), .bin .eql (.t 11) (.c (.int .i64 0))⟩,
    ⟨some 13, none, .pick (.t 7) (.t 12) (.c (.bool false))⟩] [0, 2, 13])
   (.cond (.t 13) (.region [⟨some 14, none, .mov (.t 0)⟩,
    ⟨some 15, none, .mov (.t 2)⟩,
    ⟨some 16, none, .nilc (.t 14)⟩,
    ⟨some 17, none, .fa 1 (.t 16)⟩,
    ⟨none, none, .st 1 (.t 17) (.t 15)⟩] []) (.skip)),
  [], 18, 3⟩
def A63 : Ann := ⟨[(0, [0, 2, 13]), (1, [])], []⟩
set_option maxRecDepth 100000 in
theorem F63.ok : compF Try.prog A63 Try.f63 = some F63 := by kernel_rfl
theorem F63.fok : FOk Try.prog 63 F63 := fok_of mixed Try.func63 F63.ok

/-- (*cloakroom/req.cursor).number -/
def F64 : SFn := ⟨.seq (.region [⟨some 2, none, .mov (.c (.int .u64 0))⟩] [0])
   (.seq (.seq (.region [⟨some 6, none, .mov (.t 0)⟩,
    ⟨some 7, none, .nilc (.t 6)⟩,
    ⟨some 8, none, .fa 1 (.t 7)⟩,
    ⟨some 9, none, .ld 1 false (.t 8)⟩,
    ⟨some 10, none, .bin .neq (.t 9) (.c (.int .i64 0))⟩] [0, 10])
   (.cond (.t 10) (.seq (.region [⟨some 2, none, .mov (.c (.int .u64 0))⟩] [2])
   (.ret)) (.skip)))
   (.seq (.region [⟨some 12, none, .mov (.t 0)⟩,
    ⟨some 13, none, .nilc (.t 12)⟩,
    ⟨some 14, none, .fa 0 (.t 13)⟩,
    ⟨some 15, none, .ld 1 false (.t 14)⟩,
    ⟨some 16, none, .call 87 [.t 15]⟩,
    ⟨some 11, none, .mov (.t 16)⟩,
    ⟨some 17, none, .ext (.t 11) 0⟩,
    ⟨some 18, none, .ext (.t 11) 1⟩,
    ⟨some 19, none, .ext (.t 11) 2⟩,
    ⟨some 3, none, .mov (.t 17)⟩,
    ⟨some 4, none, .mov (.t 18)⟩,
    ⟨some 5, none, .mov (.t 19)⟩] [0, 3, 4, 5])
   (.seq (.region [⟨some 20, none, .mov (.t 0)⟩,
    ⟨some 21, none, .mov (.t 0)⟩,
    ⟨some 22, none, .mov (.t 0)⟩,
    ⟨some 23, none, .nilc (.t 22)⟩,
    ⟨some 24, none, .fa 0 (.t 23)⟩,
    ⟨some 25, none, .ld 1 false (.t 24)⟩,
    ⟨some 26, none, .mov (.t 4)⟩,
    ⟨some 27, none, .slV 1 (.t 25) (some (.t 26)) none none⟩,
    ⟨some 28, none, .mov (.t 5)⟩,
    ⟨some 29, none, .nilc (.t 20)⟩,
    ⟨some 30, none, .fa 0 (.t 29)⟩,
    ⟨none, none, .st 1 (.t 30) (.t 27)⟩,
    ⟨some 31, none, .nilc (.t 21)⟩,
    ⟨some 32, none, .fa 1 (.t 31)⟩,
    ⟨none, none, .st 1 (.t 32) (.t 28)⟩] [3])
   (.seq (.region [⟨some 33, none, .mov (.t 3)⟩,
    ⟨some 2, none, .mov (.t 33)⟩] [2])
   (.ret))))),
  [.t 2], 34, 1⟩
def A64 : Ann := ⟨[(0, [0]), (1, [0, 10]), (2, [2]), (3, [0, 3, 4, 5]), (4, [3]), (5, [2])], []⟩
set_option maxRecDepth 100000 in
theorem F64.ok : compF Try.prog A64 Try.f64 = some F64 := by kernel_rfl
theorem F64.fok : FOk Try.prog 64 F64 := fok_of mixed Try.func64 F64.ok

/-- (*cloakroom/req.cursor).numbers -/
def F65 : SFn := ⟨.seq (.region [⟨some 2, none, .mov (.c (.slice none 0 0))⟩] [0])
   (.seq (.region [⟨some 3, none, .mov (.c (.slice none 0 0))⟩] [0, 3])
   (.seq (.seq (.region [⟨some 5, none, .mov (.t 0)⟩,
    ⟨some 6, none, .call 88 [.t 5, .c (.int .u32 8)]⟩,
    ⟨some 4, none, .mov (.t 6)⟩] [0, 3, 4])
   (.block 0 (.loop (.seq (.seq (.region [⟨some 7, none, .mov (.t 4)⟩,
    ⟨some 8, none, .bin .gtr (.t 7) (.c (.int .u64 0))⟩,
    ⟨some 9, none, .mov (.t 8)⟩,
    ⟨some 10, some (9, true), .mov (.t 0)⟩,
    ⟨some 11, some (9, true), .nilc (.t 10)⟩,
    ⟨some 12, some (9, true), .fa 1 (.t 11)⟩,
    ⟨some 13, some (9, true), .ld 1 false (.t 12)⟩,
    ⟨some 14, some (9, true), .bin .eql (.t 13) (.c (.int .i64 0))⟩,
    ⟨some 15, none, .pick (.t 9) (.t 14) (.c (.bool false))⟩] [0, 3, 4, 15])
   (.cond (.t 15) (.skip) (.exit 0)))
   (.seq (.block 1 (.region [⟨some 18, none, .mov (.t 3)⟩,
    ⟨some 19, none, .mov (.t 0)⟩,
    ⟨some 20, none, .call 64 [.t 19]⟩,
    ⟨some 21, none, .bslice 1 1 [.int .u64 0] [(0, 1, .t 20)]⟩,
    ⟨some 22, none, .app 1 8 (.t 18) (.t 21)⟩,
    ⟨some 3, none, .mov (.t 22)⟩] [0, 3, 4]))
   (.region [⟨some 16, none, .mov (.t 4)⟩,
    ⟨some 17, none, .bin .sub (.t 16) (.c (.int .u64 1))⟩,
    ⟨some 4, none, .mov (.t 17)⟩] [0, 3, 4]))))))
   (.seq (.region [⟨some 23, none, .mov (.t 3)⟩,
    ⟨some 2, none, .mov (.t 23)⟩] [2])
   (.ret)))),
  [.t 2], 24, 1⟩
def A65 : Ann := ⟨[(0, [0]), (1, [0, 3]), (2, [0, 3, 4]), (3, [0, 3, 4, 15]), (4, [0, 3, 4]), (5, [0, 3, 4]), (6, [2])], []⟩
set_option maxRecDepth 100000 in
theorem F65.ok : compF Try.prog A65 Try.f65 = some F65 := by kernel_rfl
theorem F65.fok : FOk Try.prog 65 F65 := fok_of mixed Try.func65 F65.ok
end Go.Dx.SYtkppbmhpcjjceaa
