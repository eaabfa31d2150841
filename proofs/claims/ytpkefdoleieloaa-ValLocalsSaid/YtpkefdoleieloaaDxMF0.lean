/- The readings of functions, printed by a program of the prover's own. -/
import Derived.Test.YtpkefdoleieloaaDx19
import Derived.Test.YtpkefdoleieloaaChecked
import Derived.Eval
namespace Go.Dx.SYtpkefdoleieloaa
open Go.Proofs
set_option linter.unusedVariables false
theorem mixed : Try.prog.follows .mixedOrders = true := Try.checked.mixed
/-- cloakroom/cloakroomlaw11.ValLocals -/
def F6 : SFn := ⟨.seq (.region [⟨some 10, none, .mov (.c (.bool false))⟩] [0, 1, 2, 3, 4])
   (.seq (.seq (.region [⟨some 20, none, .call 15 []⟩,
    ⟨some 21, none, .un .not (.t 20)⟩] [0, 1, 2, 3, 4, 21])
   (.cond (.t 21) (.seq (.region [⟨some 10, none, .mov (.c (.bool false))⟩] [10])
   (.ret)) (.skip)))
   (.seq (.seq (.region [⟨some 22, none, .mov (.t 0)⟩,
    ⟨some 23, none, .lenV (.t 22)⟩,
    ⟨some 24, none, .bin .gtr (.t 23) (.c (.int .i64 6))⟩,
    ⟨some 25, none, .mov (.t 24)⟩,
    ⟨some 26, some (25, false), .mov (.t 1)⟩,
    ⟨some 27, some (25, false), .lenV (.t 26)⟩,
    ⟨some 28, some (25, false), .bin .gtr (.t 27) (.c (.int .i64 6))⟩,
    ⟨some 29, none, .pick (.t 25) (.c (.bool true)) (.t 28)⟩] [0, 1, 2, 3, 4, 29])
   (.cond (.t 29) (.seq (.region [⟨some 10, none, .mov (.c (.bool true))⟩] [10])
   (.ret)) (.skip)))
   (.seq (.region [⟨some 30, none, .build [.slice none 0 0, .slice none 0 0] []⟩,
    ⟨some 11, none, .new [.slice none 0 0, .slice none 0 0]⟩,
    ⟨none, none, .st 2 (.t 11) (.t 30)⟩] [0, 1, 2, 3, 4, 11])
   (.seq (.region [⟨some 12, none, .new [.slice none 0 0, .slice none 0 0]⟩] [0, 1, 2, 3, 4, 11, 12])
   (.seq (.region [⟨some 31, none, .bslice 0 1 [.bool false] []⟩,
    ⟨some 32, none, .mov (.t 0)⟩,
    ⟨some 33, none, .app 1 1 (.t 31) (.t 32)⟩,
    ⟨some 34, none, .mov (.t 1)⟩,
    ⟨some 35, none, .app 1 1 (.t 33) (.t 34)⟩,
    ⟨some 13, none, .mov (.t 35)⟩] [0, 2, 3, 4, 11, 12, 13])
   (.seq (.seq (.region [⟨some 14, none, .mov (.c (.int .i64 0))⟩] [0, 2, 3, 4, 11, 12, 13, 14])
   (.block 0 (.loop (.seq (.seq (.region [⟨some 36, none, .mov (.t 14)⟩,
    ⟨some 37, none, .mov (.t 13)⟩,
    ⟨some 38, none, .lenV (.t 37)⟩,
    ⟨some 39, none, .bin .lss (.t 36) (.t 38)⟩] [0, 2, 3, 4, 11, 12, 13, 14, 39])
   (.cond (.t 39) (.skip) (.exit 0)))
   (.seq (.block 1 (.seq (.region [⟨some 15, none, .mov (.c (.int .u8 127))⟩] [0, 2, 3, 4, 11, 12, 13, 14, 15])
   (.seq (.seq (.region [⟨some 42, none, .mov (.t 13)⟩,
    ⟨some 43, none, .mov (.t 14)⟩,
    ⟨some 44, none, .iaV 1 (.t 42) (.t 43)⟩,
    ⟨some 45, none, .ld 1 false (.t 44)⟩] [0, 2, 3, 4, 11, 12, 13, 14, 15, 45])
   (.cond (.t 45) (.region [⟨some 15, none, .mov (.c (.int .u8 126))⟩] [0, 2, 3, 4, 11, 12, 13, 14, 15]) (.skip)))
   (.seq (.region [⟨some 46, none, .mov (.t 14)⟩,
    ⟨some 47, none, .mov (.t 0)⟩,
    ⟨some 48, none, .lenV (.t 47)⟩,
    ⟨some 49, none, .bin .lss (.t 46) (.t 48)⟩] [0, 2, 3, 4, 11, 12, 13, 14, 15, 49])
   (.cond (.t 49) (.region [⟨some 50, none, .fa 0 (.t 11)⟩,
    ⟨some 51, none, .ld 1 false (.t 50)⟩,
    ⟨some 52, none, .mov (.t 15)⟩,
    ⟨some 53, none, .bslice 1 1 [.int .u8 0] [(0, 1, .t 52)]⟩,
    ⟨some 54, none, .app 1 1 (.t 51) (.t 53)⟩,
    ⟨some 55, none, .fa 0 (.t 11)⟩,
    ⟨none, none, .st 1 (.t 55) (.t 54)⟩] [0, 2, 3, 4, 11, 12, 13, 14]) (.region [⟨some 56, none, .fa 0 (.t 12)⟩,
    ⟨some 57, none, .ld 1 false (.t 56)⟩,
    ⟨some 58, none, .mov (.t 15)⟩,
    ⟨some 59, none, .bslice 1 1 [.int .u8 0] [(0, 1, .t 58)]⟩,
    ⟨some 60, none, .app 1 1 (.t 57) (.t 59)⟩,
    ⟨some 61, none, .fa 0 (.t 12)⟩,
    ⟨none, none, .st 1 (.t 61) (.t 60)⟩] [0, 2, 3, 4, 11, 12, 13, 14]))))))
   (.region [⟨some 40, none, .mov (.t 14)⟩,
    ⟨some 41, none, .bin .add (.t 40) (.c (.int .i64 1))⟩,
    ⟨some 14, none, .mov (.t 41)⟩] [0, 2, 3, 4, 11, 12, 13, 14]))))))
   (.seq (.region [⟨some 62, none, .mov (.t 2)⟩,
    ⟨some 63, none, .bin .rem (.t 62) (.c (.int .u8 14))⟩,
    ⟨some 64, none, .conv .i64 (.t 63)⟩,
    ⟨some 16, none, .mov (.t 64)⟩] [3, 4, 11, 12, 13, 16])
   (.seq (.region [⟨some 65, none, .build [.int .i64 0, .int .u32 0, .int .u32 0, .int .u64 0, .slice none 0 0, .int .i64 0] [(0, 1, .c (.int .i64 65))]⟩,
    ⟨some 17, none, .new [.int .i64 0, .int .u32 0, .int .u32 0, .int .u64 0, .slice none 0 0, .int .i64 0]⟩,
    ⟨none, none, .st 6 (.t 17) (.t 65)⟩] [3, 4, 11, 12, 13, 16, 17])
   (.seq (.seq (.region [⟨some 66, none, .mov (.t 3)⟩] [3, 4, 11, 12, 13, 16, 17, 66])
   (.cond (.t 66) (.region [⟨some 67, none, .fa 0 (.t 17)⟩,
    ⟨none, none, .st 1 (.t 67) (.c (.int .i64 66))⟩] [3, 4, 11, 12, 13, 16, 17]) (.skip)))
   (.seq (.seq (.region [⟨some 68, none, .mov (.t 4)⟩,
    ⟨some 69, none, .bin .rem (.t 68) (.c (.int .u8 3))⟩] [3, 11, 12, 13, 16, 17, 69])
   (.block 2 (.seq (.region [⟨some 82, none, .bin .eql (.t 69) (.c (.int .u8 0))⟩,
    ⟨some 81, none, .mov (.t 82)⟩] [3, 11, 12, 13, 16, 17, 69, 81])
   (.cond (.t 81) (.region [⟨some 83, none, .ld 6 true (.t 17)⟩,
    ⟨some 84, none, .mov (.t 16)⟩,
    ⟨some 85, none, .conv .u32 (.t 84)⟩,
    ⟨some 86, none, .build [.int .i64 0, .int .u32 0, .int .u32 0, .int .u64 0, .slice none 0 0, .int .i64 0] [(0, 1, .c (.int .i64 33)), (1, 1, .t 85)]⟩,
    ⟨some 87, none, .build [.int .i64 0, .int .u32 0, .int .u32 0, .int .u64 0, .slice none 0 0, .int .i64 0] [(0, 1, .c (.int .i64 11))]⟩,
    ⟨some 88, none, .bslice 3 6 [.int .i64 0, .int .u32 0, .int .u32 0, .int .u64 0, .slice none 0 0, .int .i64 0] [(0, 6, .t 83), (6, 6, .t 86), (12, 6, .t 87)]⟩,
    ⟨some 89, none, .fa 1 (.t 12)⟩,
    ⟨none, none, .st 1 (.t 89) (.t 88)⟩] [3, 11, 12, 13, 16]) (.seq (.region [⟨some 91, none, .bin .eql (.t 69) (.c (.int .u8 1))⟩,
    ⟨some 90, none, .mov (.t 91)⟩] [3, 11, 12, 13, 16, 17, 90])
   (.cond (.t 90) (.region [⟨some 92, none, .ld 6 true (.t 17)⟩,
    ⟨some 93, none, .mov (.t 16)⟩,
    ⟨some 94, none, .conv .u32 (.t 93)⟩,
    ⟨some 95, none, .build [.int .i64 0, .int .u32 0, .int .u32 0, .int .u64 0, .slice none 0 0, .int .i64 0] [(0, 1, .c (.int .i64 34)), (1, 1, .t 94)]⟩,
    ⟨some 96, none, .build [.int .i64 0, .int .u32 0, .int .u32 0, .int .u64 0, .slice none 0 0, .int .i64 0] [(0, 1, .c (.int .i64 26))]⟩,
    ⟨some 97, none, .build [.int .i64 0, .int .u32 0, .int .u32 0, .int .u64 0, .slice none 0 0, .int .i64 0] [(0, 1, .c (.int .i64 11))]⟩,
    ⟨some 98, none, .bslice 4 6 [.int .i64 0, .int .u32 0, .int .u32 0, .int .u64 0, .slice none 0 0, .int .i64 0] [(0, 6, .t 92), (6, 6, .t 95), (12, 6, .t 96), (18, 6, .t 97)]⟩,
    ⟨some 99, none, .fa 1 (.t 12)⟩,
    ⟨none, none, .st 1 (.t 99) (.t 98)⟩] [3, 11, 12, 13, 16]) (.seq (.region [⟨some 70, none, .build [.int .i64 0, .int .u32 0, .int .u32 0, .int .u64 0, .slice none 0 0, .int .i64 0] [(0, 1, .c (.int .i64 69))]⟩,
    ⟨some 18, none, .new [.int .i64 0, .int .u32 0, .int .u32 0, .int .u64 0, .slice none 0 0, .int .i64 0]⟩,
    ⟨none, none, .st 6 (.t 18) (.t 70)⟩] [3, 11, 12, 13, 16, 18])
   (.seq (.seq (.region [⟨some 71, none, .mov (.t 3)⟩] [3, 11, 12, 13, 16, 18, 71])
   (.cond (.t 71) (.region [⟨some 72, none, .fa 0 (.t 18)⟩,
    ⟨none, none, .st 1 (.t 72) (.c (.int .i64 80))⟩] [3, 11, 12, 13, 16, 18]) (.skip)))
   (.region [⟨some 73, none, .mov (.t 16)⟩,
    ⟨some 74, none, .conv .u32 (.t 73)⟩,
    ⟨some 75, none, .build [.int .i64 0, .int .u32 0, .int .u32 0, .int .u64 0, .slice none 0 0, .int .i64 0] [(0, 1, .c (.int .i64 32)), (1, 1, .t 74)]⟩,
    ⟨some 76, none, .ld 6 true (.t 18)⟩,
    ⟨some 77, none, .build [.int .i64 0, .int .u32 0, .int .u32 0, .int .u64 0, .slice none 0 0, .int .i64 0] [(0, 1, .c (.int .i64 26))]⟩,
    ⟨some 78, none, .build [.int .i64 0, .int .u32 0, .int .u32 0, .int .u64 0, .slice none 0 0, .int .i64 0] [(0, 1, .c (.int .i64 11))]⟩,
    ⟨some 79, none, .bslice 4 6 [.int .i64 0, .int .u32 0, .int .u32 0, .int .u64 0, .slice none 0 0, .int .i64 0] [(0, 6, .t 75), (6, 6, .t 76), (12, 6, .t 77), (18, 6, .t 78)]⟩,
    ⟨some 80, none, .fa 1 (.t 12)⟩,
    ⟨none, none, .st 1 (.t 80) (.t 79)⟩] [3, 11, 12, 13, 16])))))))))
   (.seq (.region [⟨some 100, none, .mov (.t 16)⟩,
    ⟨some 101, none, .mov (.t 13)⟩,
    ⟨some 102, none, .lenV (.t 101)⟩,
    ⟨some 103, none, .bin .lss (.t 100) (.t 102)⟩,
    ⟨some 104, none, .mov (.t 103)⟩,
    ⟨some 105, some (104, true), .mov (.t 13)⟩,
    ⟨some 106, some (104, true), .mov (.t 16)⟩,
    ⟨some 107, some (104, true), .iaV 1 (.t 105) (.t 106)⟩,
    ⟨some 108, some (104, true), .ld 1 false (.t 107)⟩,
    ⟨some 109, some (104, true), .mov (.t 3)⟩,
    ⟨some 110, some (104, true), .eqk false .bool (.t 108) (.t 109)⟩,
    ⟨some 111, none, .pick (.t 104) (.t 110) (.c (.bool false))⟩,
    ⟨some 19, none, .mov (.t 111)⟩] [11, 12, 19])
   (.seq (.region [⟨some 112, none, .build [.slice none 0 0, .slice none 0 0, .slice none 0 0, .slice none 0 0, .slice none 0 0, .slice none 0 0, .bool false, .int .u32 0, .slice none 0 0, .bool false, .int .u32 0, .slice none 0 0, .slice none 0 0] []⟩,
    ⟨some 113, none, .ld 2 true (.t 11)⟩,
    ⟨some 114, none, .ld 2 true (.t 12)⟩,
    ⟨some 115, none, .call 16 [.t 112, .t 113, .t 114]⟩,
    ⟨some 116, none, .bin .eql (.t 115) (.c (.int .i64 0))⟩,
    ⟨some 117, none, .mov (.t 19)⟩,
    ⟨some 118, none, .eqk false .bool (.t 116) (.t 117)⟩,
    ⟨some 10, none, .mov (.t 118)⟩] [10])
   (.ret))))))))))))),
  [.t 10], 119, 5⟩
def A6 : Ann := ⟨[(0, [0, 1, 2, 3, 4]), (1, [0, 1, 2, 3, 4, 21]), (2, [10]), (3, [0, 1, 2, 3, 4, 29]), (4, [10]), (5, [0, 1, 2, 3, 4, 11]), (6, [0, 1, 2, 3, 4, 11, 12]), (7, [0, 2, 3, 4, 11, 12, 13]), (8, [0, 2, 3, 4, 11, 12, 13, 14]), (9, [0, 2, 3, 4, 11, 12, 13, 14, 39]), (10, [0, 2, 3, 4, 11, 12, 13, 14]), (11, [0, 2, 3, 4, 11, 12, 13, 14, 15]), (12, [0, 2, 3, 4, 11, 12, 13, 14, 15, 45]), (13, [0, 2, 3, 4, 11, 12, 13, 14, 15]), (14, [0, 2, 3, 4, 11, 12, 13, 14, 15, 49]), (15, [0, 2, 3, 4, 11, 12, 13, 14]), (16, [0, 2, 3, 4, 11, 12, 13, 14]), (17, [3, 4, 11, 12, 13, 16]), (18, [3, 4, 11, 12, 13, 16, 17]), (19, [3, 4, 11, 12, 13, 16, 17, 66]), (20, [3, 4, 11, 12, 13, 16, 17]), (21, [3, 11, 12, 13, 16, 17, 69]), (22, [3, 11, 12, 13, 16, 18]), (23, [3, 11, 12, 13, 16, 18, 71]), (24, [3, 11, 12, 13, 16, 18]), (25, [3, 11, 12, 13, 16]), (26, [3, 11, 12, 13, 16, 17, 69, 81]), (27, [3, 11, 12, 13, 16]), (28, [3, 11, 12, 13, 16, 17, 90]), (29, [3, 11, 12, 13, 16]), (30, [11, 12, 19]), (31, [10])], []⟩
set_option maxRecDepth 100000 in
theorem F6.ok : compF Try.prog A6 Try.f6 = some F6 := by kernel_rfl
theorem F6.fok : FOk Try.prog 6 F6 := fok_of mixed Try.func6 F6.ok

/-- cloakroom/cloakroomlaw11.begun -/
def F15 : SFn := ⟨.seq (.region [⟨some 0, none, .mov (.c (.bool false))⟩] [])
   (.seq (.region [⟨some 3, none, .build [.int .i64 0, .int .u32 0, .int .u32 0, .int .u64 0, .slice none 0 0, .int .i64 0] [(0, 1, .c (.int .i64 11))]⟩,
    ⟨some 1, none, .new [.int .i64 0, .int .u32 0, .int .u32 0, .int .u64 0, .slice none 0 0, .int .i64 0]⟩,
    ⟨none, none, .st 6 (.t 1) (.t 3)⟩] [1])
   (.seq (.region [⟨some 4, none, .build [.slice none 0 0, .slice none 0 0, .slice none 0 0, .slice none 0 0, .slice none 0 0, .slice none 0 0, .bool false, .int .u32 0, .slice none 0 0, .bool false, .int .u32 0, .slice none 0 0, .slice none 0 0] []⟩,
    ⟨some 2, none, .new [.slice none 0 0, .slice none 0 0, .slice none 0 0, .slice none 0 0, .slice none 0 0, .slice none 0 0, .bool false, .int .u32 0, .slice none 0 0, .bool false, .int .u32 0, .slice none 0 0, .slice none 0 0]⟩,
    ⟨none, none, .st 13 (.t 2) (.t 4)⟩] [1, 2])
   (.seq (.region [⟨some 5, none, .ld 13 true (.t 2)⟩,
    ⟨some 6, none, .build [.slice none 0 0, .slice none 0 0] []⟩,
    ⟨some 7, none, .ld 6 true (.t 1)⟩,
    ⟨some 8, none, .bslice 1 6 [.int .i64 0, .int .u32 0, .int .u32 0, .int .u64 0, .slice none 0 0, .int .i64 0] [(0, 6, .t 7)]⟩,
    ⟨some 9, none, .build [.slice none 0 0, .slice none 0 0] [(1, 1, .t 8)]⟩,
    ⟨some 10, none, .call 16 [.t 5, .t 6, .t 9]⟩,
    ⟨some 11, none, .bin .eql (.t 10) (.c (.int .i64 0))⟩,
    ⟨some 12, none, .mov (.t 11)⟩,
    ⟨some 13, some (12, true), .ld 13 true (.t 2)⟩,
    ⟨some 14, some (12, true), .build [.slice none 0 0, .slice none 0 0] []⟩,
    ⟨some 15, some (12, true), .build [.int .i64 0, .int .u32 0, .int .u32 0, .int .u64 0, .slice none 0 0, .int .i64 0] [(0, 1, .c (.int .i64 26))]⟩,
    ⟨some 16, some (12, true), .ld 6 true (.t 1)⟩,
    ⟨some 17, some (12, true), .bslice 2 6 [.int .i64 0, .int .u32 0, .int .u32 0, .int .u64 0, .slice none 0 0, .int .i64 0] [(0, 6, .t 15), (6, 6, .t 16)]⟩,
    ⟨some 18, some (12, true), .build [.slice none 0 0, .slice none 0 0] [(1, 1, .t 17)]⟩,
    ⟨some 19, some (12, true), .call 16 [.t 13, .t 14, .t 18]⟩,
    ⟨some 20, some (12, true), .bin .eql (.t 19) (.c (.int .i64 6))⟩,
    ⟨some 21, none, .pick (.t 12) (.t 20) (.c (.bool false))⟩,
    ⟨some 22, none, .mov (.t 21)⟩,
    ⟨some 23, some (22, true), .ld 13 true (.t 2)⟩,
    ⟨some 24, some (22, true), .build [.int .i64 0, .int .u32 0, .int .u32 0, .int .u64 0, .slice none 0 0, .int .i64 0] [(0, 1, .c (.int .i64 65))]⟩,
    ⟨some 25, some (22, true), .ld 6 true (.t 1)⟩,
    ⟨some 26, some (22, true), .bslice 2 6 [.int .i64 0, .int .u32 0, .int .u32 0, .int .u64 0, .slice none 0 0, .int .i64 0] [(0, 6, .t 24), (6, 6, .t 25)]⟩,
    ⟨some 27, some (22, true), .call 56 [.t 23, .c (.int .u8 127), .t 26]⟩,
    ⟨some 28, some (22, true), .bin .eql (.t 27) (.c (.int .i64 0))⟩,
    ⟨some 29, none, .pick (.t 22) (.t 28) (.c (.bool false))⟩,
    ⟨some 30, none, .mov (.t 29)⟩,
    ⟨some 31, some (30, true), .ld 13 true (.t 2)⟩,
    ⟨some 32, some (30, true), .build [.int .i64 0, .int .u32 0, .int .u32 0, .int .u64 0, .slice none 0 0, .int .i64 0] [(0, 1, .c (.int .i64 65))]⟩,
    ⟨some 33, some (30, true), .ld 6 true (.t 1)⟩,
    ⟨some 34, some (30, true), .bslice 2 6 [.int .i64 0, .int .u32 0, .int .u32 0, .int .u64 0, .slice none 0 0, .int .i64 0] [(0, 6, .t 32), (6, 6, .t 33)]⟩,
    ⟨some 35, some (30, true), .call 56 [.t 31, .c (.int .u8 126), .t 34]⟩,
    ⟨some 36, some (30, true), .bin .eql (.t 35) (.c (.int .i64 6))⟩,
    ⟨some 37, none, .pick (.t 30) (.t 36) (.c (.bool false))⟩,
    ⟨some 0, none, .mov (.t 37)⟩] [0])
   (.ret)))),
  [.t 0], 38, 0⟩
def A15 : Ann := ⟨[(0, []), (1, [1]), (2, [1, 2]), (3, [0])], []⟩
set_option maxRecDepth 100000 in
theorem F15.ok : compF Try.prog A15 Try.f15 = some F15 := by kernel_rfl
theorem F15.fok : FOk Try.prog 15 F15 := fok_of mixed Try.func15 F15.ok

/-- cloakroom/val.Body -/
def F16 : SFn := ⟨.seq (.region [⟨some 3, none, .box (.t 0)⟩,
    ⟨some 4, none, .box (.t 1)⟩,
    ⟨some 5, none, .box (.t 2)⟩,
    ⟨some 6, none, .mov (.c (.int .i64 0))⟩] [3, 4, 5])
   (.seq (.region [⟨some 10, none, .fa 0 (.t 4)⟩,
    ⟨some 11, none, .ld 1 false (.t 10)⟩,
    ⟨some 12, none, .fa 0 (.t 5)⟩,
    ⟨some 13, none, .ld 1 false (.t 12)⟩,
    ⟨some 14, none, .bslice 2 1 [.slice none 0 0] [(0, 1, .t 11), (1, 1, .t 13)]⟩,
    ⟨some 15, none, .call 57 [.t 14]⟩,
    ⟨some 16, none, .build [.slice none 0 0, .pointer none, .slice none 0 0, .slice none 0 0, .bool false] [(1, 1, .t 3), (2, 1, .t 15)]⟩,
    ⟨some 17, none, .box (.t 16)⟩,
    ⟨some 7, none, .mov (.t 17)⟩] [4, 5, 7])
   (.seq (.region [⟨some 18, none, .mov (.t 7)⟩,
    ⟨some 19, none, .fa 1 (.t 4)⟩,
    ⟨some 20, none, .ld 1 false (.t 19)⟩,
    ⟨some 21, none, .call 58 [.t 18, .c (.int .i64 2), .c (.slice none 0 0), .t 20]⟩] [5, 7])
   (.seq (.seq (.region [⟨some 22, none, .fa 1 (.t 5)⟩,
    ⟨some 23, none, .ld 1 false (.t 22)⟩,
    ⟨some 24, none, .lenV (.t 23)⟩,
    ⟨some 25, none, .mov (.c (.int .i64 0))⟩] [5, 7, 23, 24, 25])
   (.block 0 (.loop (.seq (.region [⟨some 26, none, .bin .lss (.t 25) (.t 24)⟩] [5, 7, 23, 24, 25, 26])
   (.seq (.cond (.t 26) (.skip) (.exit 0))
   (.seq (.block 1 (.seq (.region [⟨some 27, none, .mov (.t 25)⟩,
    ⟨some 28, none, .iaV 6 (.t 23) (.t 25)⟩,
    ⟨some 29, none, .ld 6 true (.t 28)⟩,
    ⟨some 9, none, .new [.int .i64 0, .int .u32 0, .int .u32 0, .int .u64 0, .slice none 0 0, .int .i64 0]⟩,
    ⟨some 8, none, .mov (.t 27)⟩,
    ⟨none, none, .st 6 (.t 9) (.t 29)⟩] [5, 7, 8, 9, 23, 24, 25])
   (.seq (.region [⟨some 30, none, .mov (.t 7)⟩,
    ⟨some 31, none, .ld 6 true (.t 9)⟩,
    ⟨some 32, none, .call 59 [.t 30, .t 31]⟩] [5, 7, 8, 23, 24, 25])
   (.seq (.region [⟨some 33, none, .mov (.t 7)⟩,
    ⟨some 34, none, .nilc (.t 33)⟩,
    ⟨some 35, none, .fa 4 (.t 34)⟩,
    ⟨some 36, none, .ld 1 false (.t 35)⟩,
    ⟨some 37, none, .mov (.t 36)⟩,
    ⟨some 38, some (37, false), .mov (.t 7)⟩,
    ⟨some 39, some (37, false), .nilc (.t 38)⟩,
    ⟨some 40, some (37, false), .fa 3 (.t 39)⟩,
    ⟨some 41, some (37, false), .ld 1 false (.t 40)⟩,
    ⟨some 42, some (37, false), .lenV (.t 41)⟩,
    ⟨some 43, some (37, false), .bin .eql (.t 42) (.c (.int .i64 0))⟩,
    ⟨some 44, some (37, false), .mov (.t 43)⟩,
    ⟨some 45, some (44, true), .mov (.t 8)⟩,
    ⟨some 46, some (44, true), .fa 1 (.t 5)⟩,
    ⟨some 47, some (44, true), .ld 1 false (.t 46)⟩,
    ⟨some 48, some (44, true), .lenV (.t 47)⟩,
    ⟨some 49, some (44, true), .bin .sub (.t 48) (.c (.int .i64 1))⟩,
    ⟨some 50, some (44, true), .bin .lss (.t 45) (.t 49)⟩,
    ⟨some 51, some (37, false), .pick (.t 44) (.t 50) (.c (.bool false))⟩,
    ⟨some 52, none, .pick (.t 37) (.c (.bool true)) (.t 51)⟩] [5, 7, 23, 24, 25, 52])
   (.cond (.t 52) (.seq (.region [⟨some 6, none, .mov (.c (.int .i64 6))⟩] [6])
   (.ret)) (.skip))))))
   (.region [⟨some 53, none, .bin .add (.t 25) (.c (.int .i64 1))⟩,
    ⟨some 25, none, .mov (.t 53)⟩] [5, 7, 23, 24, 25])))))))
   (.seq (.seq (.region [⟨some 54, none, .mov (.t 7)⟩,
    ⟨some 55, none, .nilc (.t 54)⟩,
    ⟨some 56, none, .fa 3 (.t 55)⟩,
    ⟨some 57, none, .ld 1 false (.t 56)⟩,
    ⟨some 58, none, .lenV (.t 57)⟩,
    ⟨some 59, none, .bin .gtr (.t 58) (.c (.int .i64 0))⟩] [59])
   (.cond (.t 59) (.seq (.region [⟨some 6, none, .mov (.c (.int .i64 6))⟩] [6])
   (.ret)) (.skip)))
   (.seq (.region [⟨some 6, none, .mov (.c (.int .i64 0))⟩] [6])
   (.ret)))))),
  [.t 6], 60, 3⟩
def A16 : Ann := ⟨[(0, [3, 4, 5]), (1, [4, 5, 7]), (2, [5, 7]), (3, [5, 7, 23, 24, 25]), (4, [5, 7, 23, 24, 25, 26]), (5, [5, 7, 8, 9, 23, 24, 25]), (6, [5, 7, 8, 23, 24, 25]), (7, [5, 7, 23, 24, 25, 52]), (8, [6]), (9, [5, 7, 23, 24, 25]), (10, [59]), (11, [6]), (12, [6])], []⟩
set_option maxRecDepth 100000 in
theorem F16.ok : compF Try.prog A16 Try.f16 = some F16 := by kernel_rfl
theorem F16.fok : FOk Try.prog 16 F16 := fok_of mixed Try.func16 F16.ok

/-- cloakroom/val.Const -/
def F56 : SFn := ⟨.seq (.region [⟨some 3, none, .box (.t 0)⟩,
    ⟨some 6, none, .mov (.c (.int .i64 0))⟩] [1, 2, 3])
   (.seq (.seq (.region [⟨some 9, none, .mov (.t 2)⟩,
    ⟨some 10, none, .lenV (.t 9)⟩,
    ⟨some 11, none, .bin .neq (.t 10) (.c (.int .i64 2))⟩,
    ⟨some 12, none, .mov (.t 11)⟩,
    ⟨some 13, some (12, false), .mov (.t 2)⟩,
    ⟨some 14, some (12, false), .iaV 6 (.t 13) (.c (.int .i64 1))⟩,
    ⟨some 15, some (12, false), .fa 0 (.t 14)⟩,
    ⟨some 16, some (12, false), .ld 1 false (.t 15)⟩,
    ⟨some 17, some (12, false), .bin .neq (.t 16) (.c (.int .i64 11))⟩,
    ⟨some 18, none, .pick (.t 12) (.c (.bool true)) (.t 17)⟩] [1, 2, 3, 18])
   (.cond (.t 18) (.seq (.region [⟨some 6, none, .mov (.c (.int .i64 6))⟩] [6])
   (.ret)) (.skip)))
   (.seq (.region [⟨some 19, none, .mov (.t 2)⟩,
    ⟨some 20, none, .iaV 6 (.t 19) (.c (.int .i64 0))⟩,
    ⟨some 21, none, .ld 6 true (.t 20)⟩,
    ⟨some 7, none, .new [.int .i64 0, .int .u32 0, .int .u32 0, .int .u64 0, .slice none 0 0, .int .i64 0]⟩,
    ⟨none, none, .st 6 (.t 7) (.t 21)⟩] [1, 3, 7])
   (.seq (.region [⟨some 8, none, .mov (.c (.bool false))⟩] [1, 3, 7, 8])
   (.seq (.seq (.region [⟨some 22, none, .fa 0 (.t 7)⟩,
    ⟨some 23, none, .ld 1 false (.t 22)⟩] [1, 3, 7, 8, 23])
   (.block 0 (.seq (.region [⟨some 25, none, .bin .eql (.t 23) (.c (.int .i64 65))⟩,
    ⟨some 24, none, .mov (.t 25)⟩] [1, 3, 7, 8, 23, 24])
   (.cond (.t 24) (.region [⟨some 26, none, .mov (.t 1)⟩,
    ⟨some 27, none, .bin .eql (.t 26) (.c (.int .u8 127))⟩,
    ⟨some 8, none, .mov (.t 27)⟩] [8]) (.seq (.region [⟨some 29, none, .bin .eql (.t 23) (.c (.int .i64 66))⟩,
    ⟨some 28, none, .mov (.t 29)⟩] [1, 3, 7, 8, 23, 28])
   (.cond (.t 28) (.region [⟨some 30, none, .mov (.t 1)⟩,
    ⟨some 31, none, .bin .eql (.t 30) (.c (.int .u8 126))⟩,
    ⟨some 8, none, .mov (.t 31)⟩] [8]) (.seq (.region [⟨some 33, none, .bin .eql (.t 23) (.c (.int .i64 208))⟩,
    ⟨some 32, none, .mov (.t 33)⟩] [1, 3, 7, 8, 23, 32])
   (.cond (.t 32) (.region [⟨some 34, none, .mov (.t 1)⟩,
    ⟨some 35, none, .conv .u32 (.t 34)⟩,
    ⟨some 36, none, .fa 1 (.t 7)⟩,
    ⟨some 37, none, .ld 1 false (.t 36)⟩,
    ⟨some 38, none, .bin .eql (.t 35) (.t 37)⟩,
    ⟨some 8, none, .mov (.t 38)⟩] [8]) (.seq (.region [⟨some 40, none, .bin .eql (.t 23) (.c (.int .i64 210))⟩,
    ⟨some 39, none, .mov (.t 40)⟩] [1, 3, 7, 8, 39])
   (.cond (.t 39) (.region [⟨some 41, none, .mov (.t 1)⟩,
    ⟨some 42, none, .bin .eql (.t 41) (.c (.int .u8 112))⟩,
    ⟨some 43, none, .mov (.t 42)⟩,
    ⟨some 44, some (43, true), .fa 1 (.t 7)⟩,
    ⟨some 45, some (43, true), .ld 1 false (.t 44)⟩,
    ⟨some 46, some (43, true), .fa 1 (.t 3)⟩,
    ⟨some 47, some (43, true), .ld 1 false (.t 46)⟩,
    ⟨some 48, some (43, true), .lenV (.t 47)⟩,
    ⟨some 49, some (43, true), .call 91 [.t 45, .t 48]⟩,
    ⟨some 50, none, .pick (.t 43) (.t 49) (.c (.bool false))⟩,
    ⟨some 8, none, .mov (.t 50)⟩] [8]) (.skip)))))))))))
   (.seq (.seq (.region [⟨some 51, none, .mov (.t 8)⟩,
    ⟨some 52, none, .un .not (.t 51)⟩] [52])
   (.cond (.t 52) (.seq (.region [⟨some 6, none, .mov (.c (.int .i64 6))⟩] [6])
   (.ret)) (.skip)))
   (.seq (.region [⟨some 6, none, .mov (.c (.int .i64 0))⟩] [6])
   (.ret))))))),
  [.t 6], 53, 3⟩
def A56 : Ann := ⟨[(0, [1, 2, 3]), (1, [1, 2, 3, 18]), (2, [6]), (3, [1, 3, 7]), (4, [1, 3, 7, 8]), (5, [1, 3, 7, 8, 23]), (6, [1, 3, 7, 8, 23, 24]), (7, [8]), (8, [1, 3, 7, 8, 23, 28]), (9, [8]), (10, [1, 3, 7, 8, 23, 32]), (11, [8]), (12, [1, 3, 7, 8, 39]), (13, [8]), (14, [52]), (15, [6]), (16, [6])], []⟩
set_option maxRecDepth 100000 in
theorem F56.ok : compF Try.prog A56 Try.f56 = some F56 := by kernel_rfl
theorem F56.fok : FOk Try.prog 56 F56 := fok_of mixed Try.func56 F56.ok

/-- slices.Concat[[]byte,byte] -/
def F57 : SFn := ⟨.seq (.region [⟨some 2, none, .mov (.c (.slice none 0 0))⟩] [0])
   (.seq (.region [⟨some 3, none, .mov (.c (.int .i64 0))⟩] [0, 3])
   (.seq (.seq (.region [⟨some 9, none, .mov (.t 0)⟩,
    ⟨some 10, none, .lenV (.t 9)⟩,
    ⟨some 11, none, .mov (.c (.int .i64 0))⟩] [0, 3, 9, 10, 11])
   (.block 0 (.loop (.seq (.region [⟨some 12, none, .bin .lss (.t 11) (.t 10)⟩] [0, 3, 9, 10, 11, 12])
   (.seq (.cond (.t 12) (.skip) (.exit 0))
   (.seq (.block 1 (.seq (.region [⟨some 13, none, .iaV 1 (.t 9) (.t 11)⟩,
    ⟨some 14, none, .ld 1 false (.t 13)⟩,
    ⟨some 5, none, .mov (.t 14)⟩] [0, 3, 5, 9, 10, 11])
   (.seq (.region [⟨some 15, none, .mov (.t 3)⟩,
    ⟨some 16, none, .mov (.t 5)⟩,
    ⟨some 17, none, .lenV (.t 16)⟩,
    ⟨some 18, none, .bin .add (.t 15) (.t 17)⟩,
    ⟨some 3, none, .mov (.t 18)⟩] [0, 3, 9, 10, 11])
   (.seq (.region [⟨some 19, none, .mov (.t 3)⟩,
    ⟨some 20, none, .bin .lss (.t 19) (.c (.int .i64 0))⟩] [0, 3, 9, 10, 11, 20])
   (.cond (.t 20) (.region [⟨some 21, none, .bad⟩,
    ⟨none, none, .bad⟩] [0, 3, 9, 10, 11]) (.skip))))))
   (.region [⟨some 22, none, .bin .add (.t 11) (.c (.int .i64 1))⟩,
    ⟨some 11, none, .mov (.t 22)⟩] [0, 3, 9, 10, 11])))))))
   (.seq (.region [⟨some 23, none, .mov (.t 3)⟩,
    ⟨some 24, none, .call 92 [.c (.slice none 0 0), .t 23]⟩,
    ⟨some 6, none, .mov (.t 24)⟩] [0, 6])
   (.seq (.seq (.region [⟨some 25, none, .mov (.t 0)⟩,
    ⟨some 26, none, .lenV (.t 25)⟩,
    ⟨some 27, none, .mov (.c (.int .i64 0))⟩] [6, 25, 26, 27])
   (.block 2 (.loop (.seq (.region [⟨some 28, none, .bin .lss (.t 27) (.t 26)⟩] [6, 25, 26, 27, 28])
   (.seq (.cond (.t 28) (.skip) (.exit 2))
   (.seq (.block 3 (.seq (.region [⟨some 29, none, .iaV 1 (.t 25) (.t 27)⟩,
    ⟨some 30, none, .ld 1 false (.t 29)⟩,
    ⟨some 8, none, .mov (.t 30)⟩] [6, 8, 25, 26, 27])
   (.region [⟨some 31, none, .mov (.t 6)⟩,
    ⟨some 32, none, .mov (.t 8)⟩,
    ⟨some 33, none, .app 1 1 (.t 31) (.t 32)⟩,
    ⟨some 6, none, .mov (.t 33)⟩] [6, 25, 26, 27])))
   (.region [⟨some 34, none, .bin .add (.t 27) (.c (.int .i64 1))⟩,
    ⟨some 27, none, .mov (.t 34)⟩] [6, 25, 26, 27])))))))
   (.seq (.region [⟨some 35, none, .mov (.t 6)⟩,
    ⟨some 2, none, .mov (.t 35)⟩] [2])
   (.ret)))))),
  [.t 2], 36, 1⟩
def A57 : Ann := ⟨[(0, [0]), (1, [0, 3]), (2, [0, 3, 9, 10, 11]), (3, [0, 3, 9, 10, 11, 12]), (4, [0, 3, 5, 9, 10, 11]), (5, [0, 3, 9, 10, 11]), (6, [0, 3, 9, 10, 11, 20]), (7, [0, 3, 9, 10, 11]), (8, [0, 3, 9, 10, 11]), (9, [0, 6]), (10, [6, 25, 26, 27]), (11, [6, 25, 26, 27, 28]), (12, [6, 8, 25, 26, 27]), (13, [6, 25, 26, 27]), (14, [6, 25, 26, 27]), (15, [2])], []⟩
set_option maxRecDepth 100000 in
theorem F57.ok : compF Try.prog A57 Try.f57 = some F57 := by kernel_rfl
theorem F57.fok : FOk Try.prog 57 F57 := fok_of mixed Try.func57 F57.ok

/-- (*cloakroom/val.checker).opens -/
def F58 : SFn := ⟨.seq (.region [⟨some 8, none, .mov (.t 0)⟩,
    ⟨some 9, none, .mov (.t 0)⟩,
    ⟨some 10, none, .nilc (.t 9)⟩,
    ⟨some 11, none, .fa 3 (.t 10)⟩,
    ⟨some 12, none, .ld 1 false (.t 11)⟩,
    ⟨some 13, none, .mov (.t 1)⟩,
    ⟨some 14, none, .mov (.t 2)⟩,
    ⟨some 15, none, .mov (.t 3)⟩,
    ⟨some 16, none, .mov (.t 0)⟩,
    ⟨some 17, none, .nilc (.t 16)⟩,
    ⟨some 18, none, .fa 0 (.t 17)⟩,
    ⟨some 19, none, .fa 0 (.t 18)⟩,
    ⟨some 20, none, .ld 1 false (.t 19)⟩,
    ⟨some 21, none, .lenV (.t 20)⟩,
    ⟨some 22, none, .build [.int .i64 0, .slice none 0 0, .slice none 0 0, .int .i64 0, .bool false] [(0, 1, .t 13), (1, 1, .t 14), (2, 1, .t 15), (3, 1, .t 21), (4, 1, .c (.bool false))]⟩,
    ⟨some 23, none, .bslice 1 5 [.int .i64 0, .slice none 0 0, .slice none 0 0, .int .i64 0, .bool false] [(0, 5, .t 22)]⟩,
    ⟨some 24, none, .app 5 72 (.t 12) (.t 23)⟩,
    ⟨some 25, none, .nilc (.t 8)⟩,
    ⟨some 26, none, .fa 3 (.t 25)⟩,
    ⟨none, none, .st 1 (.t 26) (.t 24)⟩] [0, 2])
   (.region [⟨some 27, none, .mov (.t 0)⟩,
    ⟨some 28, none, .nilc (.t 27)⟩,
    ⟨some 29, none, .fa 0 (.t 28)⟩,
    ⟨some 30, none, .mov (.t 2)⟩,
    ⟨some 31, none, .call 93 [.t 29, .t 30]⟩] []),
  [], 32, 4⟩
def A58 : Ann := ⟨[(0, [0, 2]), (1, [])], [(0, [(0, []), (1, []), (2, []), (3, []), (4, []), (5, []), (6, []), (7, []), (8, []), (9, []), (10, []), (11, []), (12, []), (13, []), (14, []), (15, []), (16, []), (17, []), (18, []), (19, [])], [(2, [1]), (3, [1, 2]), (4, [1, 2, 3]), (9, [8]), (10, [8, 9]), (11, [8, 9, 10]), (12, [8, 9, 10, 11]), (13, [8, 9, 10, 11, 12]), (14, [5, 6, 7, 8, 9, 10, 11, 12, 13]), (15, [5, 6, 7, 8, 9, 10, 11, 12, 13, 14]), (16, [1, 2, 3, 4, 5, 6, 7, 8, 9, 10, 11, 12, 13, 14, 15]), (17, [0, 1, 2, 3, 4, 5, 6, 7, 8, 9, 10, 11, 12, 13, 14, 15, 16]), (18, [0, 1, 2, 3, 4, 5, 6, 7, 8, 9, 10, 11, 12, 13, 14, 15, 16, 17]), (19, [0, 1, 2, 3, 4, 5, 6, 7, 8, 9, 10, 11, 12, 13, 14, 15, 16, 17, 18])])]⟩
set_option maxRecDepth 100000 in
theorem F58.ok : compF Try.prog A58 Try.f58 = some F58 := by kernel_rfl
theorem F58.fok : FOk Try.prog 58 F58 := fok_of mixed Try.func58 F58.ok

/-- (*cloakroom/val.checker).one -/
def F59 : SFn := ⟨.seq (.region [⟨some 3, none, .box (.t 1)⟩] [0, 3])
   (.seq (.seq (.region [⟨some 6, none, .mov (.t 0)⟩,
    ⟨some 7, none, .ld 6 true (.t 3)⟩,
    ⟨some 8, none, .call 94 [.t 6, .t 7]⟩,
    ⟨some 9, none, .mov (.t 8)⟩,
    ⟨some 10, some (9, false), .mov (.t 0)⟩,
    ⟨some 11, some (9, false), .ld 6 true (.t 3)⟩,
    ⟨some 12, some (9, false), .call 95 [.t 10, .t 11]⟩,
    ⟨some 13, none, .pick (.t 9) (.c (.bool true)) (.t 12)⟩,
    ⟨some 14, none, .mov (.t 13)⟩,
    ⟨some 15, some (14, false), .mov (.t 0)⟩,
    ⟨some 16, some (14, false), .ld 6 true (.t 3)⟩,
    ⟨some 17, some (14, false), .call 96 [.t 15, .t 16]⟩,
    ⟨some 18, none, .pick (.t 14) (.c (.bool true)) (.t 17)⟩] [0, 3, 18])
   (.cond (.t 18) (.ret) (.skip)))
   (.seq (.seq (.region [⟨some 19, none, .fa 0 (.t 3)⟩,
    ⟨some 20, none, .ld 1 false (.t 19)⟩,
    ⟨some 21, none, .call 97 [.t 20]⟩,
    ⟨some 22, none, .bin .gtr (.t 21) (.c (.int .i64 0))⟩] [0, 3, 22])
   (.cond (.t 22) (.seq (.region [⟨some 23, none, .mov (.t 0)⟩,
    ⟨some 24, none, .ld 6 true (.t 3)⟩,
    ⟨some 25, none, .call 98 [.t 23, .t 24]⟩] [])
   (.ret)) (.skip)))
   (.seq (.region [⟨some 27, none, .fa 0 (.t 3)⟩,
    ⟨some 28, none, .ld 1 false (.t 27)⟩,
    ⟨some 29, none, .call 99 [.t 28]⟩,
    ⟨some 26, none, .mov (.t 29)⟩,
    ⟨some 30, none, .ext (.t 26) 0⟩,
    ⟨some 31, none, .ext (.t 26) 1⟩,
    ⟨some 4, none, .mov (.t 30)⟩,
    ⟨some 5, none, .mov (.t 31)⟩] [0, 4, 5])
   (.seq (.region [⟨some 32, none, .mov (.t 0)⟩,
    ⟨some 33, none, .mov (.t 5)⟩,
    ⟨some 34, none, .bin .eql (.t 33) (.c (.int .u8 0))⟩,
    ⟨some 35, none, .call 100 [.t 32, .t 34]⟩] [0, 4, 5])
   (.seq (.region [⟨some 36, none, .mov (.t 0)⟩,
    ⟨some 37, none, .mov (.t 4)⟩,
    ⟨some 38, none, .call 101 [.t 36, .t 37]⟩] [0, 5])
   (.region [⟨some 39, none, .mov (.t 0)⟩,
    ⟨some 40, none, .nilc (.t 39)⟩,
    ⟨some 41, none, .fa 0 (.t 40)⟩,
    ⟨some 42, none, .mov (.t 5)⟩,
    ⟨some 43, none, .bslice 1 1 [.int .u8 0] [(0, 1, .t 42)]⟩,
    ⟨some 44, none, .call 93 [.t 41, .t 43]⟩] [])))))),
  [], 45, 2⟩
def A59 : Ann := ⟨[(0, [0, 3]), (1, [0, 3, 18]), (2, [0, 3, 22]), (3, []), (4, [0, 4, 5]), (5, [0, 4, 5]), (6, [0, 5]), (7, [])], []⟩
set_option maxRecDepth 100000 in
theorem F59.ok : compF Try.prog A59 Try.f59 = some F59 := by kernel_rfl
theorem F59.fok : FOk Try.prog 59 F59 := fok_of mixed Try.func59 F59.ok

/-- cloakroom/val.has -/
def F91 : SFn := ⟨.seq (.region [⟨some 4, none, .mov (.c (.bool false))⟩] [0, 1])
   (.seq (.region [⟨some 5, none, .mov (.t 0)⟩,
    ⟨some 6, none, .conv .u64 (.t 5)⟩,
    ⟨some 7, none, .mov (.t 1)⟩,
    ⟨some 8, none, .conv .u64 (.t 7)⟩,
    ⟨some 9, none, .bin .lss (.t 6) (.t 8)⟩,
    ⟨some 4, none, .mov (.t 9)⟩] [4])
   (.ret)),
  [.t 4], 10, 2⟩
def A91 : Ann := ⟨[(0, [0, 1]), (1, [4])], []⟩
set_option maxRecDepth 100000 in
theorem F91.ok : compF Try.prog A91 Try.f91 = some F91 := by kernel_rfl
theorem F91.fok : FOk Try.prog 91 F91 := fok_of mixed Try.func91 F91.ok

/-- slices.Grow[[]byte,byte] -/
def F92 : SFn := ⟨.seq (.region [⟨some 4, none, .mov (.c (.slice none 0 0))⟩] [0, 1])
   (.seq (.seq (.region [⟨some 5, none, .mov (.t 1)⟩,
    ⟨some 6, none, .bin .lss (.t 5) (.c (.int .i64 0))⟩] [0, 1, 6])
   (.cond (.t 6) (.region [⟨some 7, none, .bad⟩,
    ⟨none, none, .bad⟩] [0, 1]) (.skip)))
   (.seq (.seq (.region [⟨some 8, none, .mov (.t 1)⟩,
    ⟨some 9, none, .mov (.t 0)⟩,
    ⟨some 10, none, .capV (.t 9)⟩,
    ⟨some 11, none, .mov (.t 0)⟩,
    ⟨some 12, none, .lenV (.t 11)⟩,
    ⟨some 13, none, .bin .sub (.t 10) (.t 12)⟩,
    ⟨some 14, none, .bin .sub (.t 8) (.t 13)⟩,
    ⟨some 1, none, .mov (.t 14)⟩] [0, 1])
   (.seq (.region [⟨some 15, none, .mov (.t 1)⟩,
    ⟨some 16, none, .bin .gtr (.t 15) (.c (.int .i64 0))⟩] [0, 1, 16])
   (.cond (.t 16) (.region [⟨some 17, none, .mov (.t 0)⟩,
    ⟨some 18, none, .mov (.t 0)⟩,
    ⟨some 19, none, .capV (.t 18)⟩,
    ⟨some 20, none, .slV 1 (.t 17) none (some (.t 19)) none⟩,
    ⟨some 21, none, .mov (.t 1)⟩,
    ⟨some 22, none, .appZ 1 1 [.int .u8 0] (.t 20) (.t 21)⟩,
    ⟨some 23, none, .mov (.t 0)⟩,
    ⟨some 24, none, .lenV (.t 23)⟩,
    ⟨some 25, none, .slV 1 (.t 22) none (some (.t 24)) none⟩,
    ⟨some 0, none, .mov (.t 25)⟩] [0]) (.skip))))
   (.seq (.region [⟨some 26, none, .mov (.t 0)⟩,
    ⟨some 4, none, .mov (.t 26)⟩] [4])
   (.ret)))),
  [.t 4], 27, 2⟩
def A92 : Ann := ⟨[(0, [0, 1]), (1, [0, 1, 6]), (2, [0, 1]), (3, [0, 1]), (4, [0, 1, 16]), (5, [0]), (6, [4])], []⟩
set_option maxRecDepth 100000 in
theorem F92.ok : compF Try.prog A92 Try.f92 = some F92 := by kernel_rfl
theorem F92.fok : FOk Try.prog 92 F92 := fok_of mixed Try.func92 F92.ok

/-- (*cloakroom/val.pile).push -/
def F93 : SFn := ⟨.region [⟨some 4, none, .mov (.t 0)⟩,
    ⟨some 5, none, .mov (.t 0)⟩,
    ⟨some 6, none, .nilc (.t 5)⟩,
    ⟨some 7, none, .fa 0 (.t 6)⟩,
    ⟨some 8, none, .ld 1 false (.t 7)⟩,
    ⟨some 9, none, .mov (.t 1)⟩,
    ⟨some 10, none, .app 1 1 (.t 8) (.t 9)⟩,
    ⟨some 11, none, .nilc (.t 4)⟩,
    ⟨some 12, none, .fa 0 (.t 11)⟩,
    ⟨none, none, .st 1 (.t 12) (.t 10)⟩] [],
  [], 13, 2⟩
def A93 : Ann := ⟨[(0, [])], []⟩
set_option maxRecDepth 100000 in
theorem F93.ok : compF Try.prog A93 Try.f93 = some F93 := by kernel_rfl
theorem F93.fok : FOk Try.prog 93 F93 := fok_of mixed Try.func93 F93.ok

/-- (*cloakroom/val.checker).control -/
def F94 : SFn := ⟨.seq (.region [⟨some 3, none, .box (.t 1)⟩,
    ⟨some 4, none, .mov (.c (.bool false))⟩] [0, 3])
   (.seq (.seq (.region [⟨some 12, none, .fa 0 (.t 3)⟩,
    ⟨some 13, none, .ld 1 false (.t 12)⟩] [0, 3, 13])
   (.block 0 (.seq (.region [⟨some 15, none, .bin .eql (.t 13) (.c (.int .i64 0))⟩,
    ⟨some 14, none, .mov (.t 15)⟩] [0, 3, 13, 14])
   (.cond (.t 14) (.region [⟨some 16, none, .mov (.t 0)⟩,
    ⟨some 17, none, .call 134 [.t 16]⟩] []) (.seq (.region [⟨some 19, none, .bin .eql (.t 13) (.c (.int .i64 1))⟩,
    ⟨some 18, none, .mov (.t 19)⟩] [0, 3, 13, 18])
   (.cond (.t 18) (.skip) (.seq (.seq (.region [⟨some 21, none, .bin .eql (.t 13) (.c (.int .i64 2))⟩,
    ⟨some 20, none, .mov (.t 21)⟩] [0, 3, 13, 20])
   (.cond (.t 20) (.skip) (.seq (.region [⟨some 22, none, .bin .eql (.t 13) (.c (.int .i64 3))⟩,
    ⟨some 20, none, .mov (.t 22)⟩] [0, 3, 13, 20])
   (.cond (.t 20) (.skip) (.region [⟨some 23, none, .bin .eql (.t 13) (.c (.int .i64 4))⟩,
    ⟨some 20, none, .mov (.t 23)⟩] [0, 3, 13, 20])))))
   (.cond (.t 20) (.seq (.seq (.region [⟨some 24, none, .fa 0 (.t 3)⟩,
    ⟨some 25, none, .ld 1 false (.t 24)⟩,
    ⟨some 26, none, .bin .eql (.t 25) (.c (.int .i64 4))⟩] [0, 3, 26])
   (.cond (.t 26) (.region [⟨some 27, none, .mov (.t 0)⟩,
    ⟨some 28, none, .call 135 [.t 27, .c (.int .u8 127)]⟩] [0, 3]) (.skip)))
   (.seq (.region [⟨some 30, none, .mov (.t 0)⟩,
    ⟨some 31, none, .fa 5 (.t 3)⟩,
    ⟨some 32, none, .ld 1 false (.t 31)⟩,
    ⟨some 33, none, .call 136 [.t 30, .t 32]⟩,
    ⟨some 29, none, .mov (.t 33)⟩,
    ⟨some 34, none, .ext (.t 29) 0⟩,
    ⟨some 35, none, .ext (.t 29) 1⟩,
    ⟨some 5, none, .mov (.t 34)⟩,
    ⟨some 6, none, .mov (.t 35)⟩] [0, 3, 5, 6])
   (.seq (.region [⟨some 36, none, .mov (.t 0)⟩,
    ⟨some 37, none, .mov (.t 5)⟩,
    ⟨some 38, none, .call 101 [.t 36, .t 37]⟩] [0, 3, 5, 6])
   (.region [⟨some 39, none, .mov (.t 0)⟩,
    ⟨some 40, none, .fa 0 (.t 3)⟩,
    ⟨some 41, none, .ld 1 false (.t 40)⟩,
    ⟨some 42, none, .mov (.t 5)⟩,
    ⟨some 43, none, .mov (.t 6)⟩,
    ⟨some 44, none, .call 58 [.t 39, .t 41, .t 42, .t 43]⟩] [])))) (.seq (.region [⟨some 46, none, .bin .eql (.t 13) (.c (.int .i64 5))⟩,
    ⟨some 45, none, .mov (.t 46)⟩] [0, 3, 13, 45])
   (.cond (.t 45) (.seq (.region [⟨some 47, none, .mov (.t 0)⟩,
    ⟨some 48, none, .call 137 [.t 47]⟩,
    ⟨some 7, none, .new [.int .i64 0, .slice none 0 0, .slice none 0 0, .int .i64 0, .bool false]⟩,
    ⟨none, none, .st 5 (.t 7) (.t 48)⟩] [0, 3, 7])
   (.seq (.region [⟨some 49, none, .mov (.t 0)⟩,
    ⟨some 50, none, .fa 0 (.t 7)⟩,
    ⟨some 51, none, .ld 1 false (.t 50)⟩,
    ⟨some 52, none, .bin .neq (.t 51) (.c (.int .i64 4))⟩,
    ⟨some 53, none, .call 100 [.t 49, .t 52]⟩] [0, 3, 7])
   (.region [⟨some 54, none, .mov (.t 0)⟩,
    ⟨some 55, none, .fa 0 (.t 3)⟩,
    ⟨some 56, none, .ld 1 false (.t 55)⟩,
    ⟨some 57, none, .fa 1 (.t 7)⟩,
    ⟨some 58, none, .ld 1 false (.t 57)⟩,
    ⟨some 59, none, .fa 2 (.t 7)⟩,
    ⟨some 60, none, .ld 1 false (.t 59)⟩,
    ⟨some 61, none, .call 58 [.t 54, .t 56, .t 58, .t 60]⟩] []))) (.seq (.region [⟨some 63, none, .bin .eql (.t 13) (.c (.int .i64 11))⟩,
    ⟨some 62, none, .mov (.t 63)⟩] [0, 3, 13, 62])
   (.cond (.t 62) (.seq (.region [⟨some 64, none, .mov (.t 0)⟩,
    ⟨some 65, none, .call 137 [.t 64]⟩,
    ⟨some 8, none, .new [.int .i64 0, .slice none 0 0, .slice none 0 0, .int .i64 0, .bool false]⟩,
    ⟨none, none, .st 5 (.t 8) (.t 65)⟩] [0, 8])
   (.seq (.region [⟨some 66, none, .mov (.t 0)⟩,
    ⟨some 67, none, .fa 0 (.t 8)⟩,
    ⟨some 68, none, .ld 1 false (.t 67)⟩,
    ⟨some 69, none, .bin .eql (.t 68) (.c (.int .i64 4))⟩,
    ⟨some 70, none, .mov (.t 69)⟩,
    ⟨some 71, some (70, true), .fa 1 (.t 8)⟩,
    ⟨some 72, some (70, true), .ld 1 false (.t 71)⟩,
    ⟨some 73, some (70, true), .fa 2 (.t 8)⟩,
    ⟨some 74, some (70, true), .ld 1 false (.t 73)⟩,
    ⟨some 75, some (70, true), .call 138 [.t 72, .t 74]⟩,
    ⟨some 76, some (70, true), .un .not (.t 75)⟩,
    ⟨some 77, none, .pick (.t 70) (.t 76) (.c (.bool false))⟩,
    ⟨some 78, none, .call 100 [.t 66, .t 77]⟩] [0, 8])
   (.seq (.region [⟨some 79, none, .mov (.t 0)⟩,
    ⟨some 80, none, .nilc (.t 79)⟩,
    ⟨some 81, none, .fa 3 (.t 80)⟩,
    ⟨some 82, none, .ld 1 false (.t 81)⟩,
    ⟨some 83, none, .lenV (.t 82)⟩,
    ⟨some 84, none, .bin .gtr (.t 83) (.c (.int .i64 0))⟩] [0, 8, 84])
   (.cond (.t 84) (.region [⟨some 85, none, .mov (.t 0)⟩,
    ⟨some 86, none, .nilc (.t 85)⟩,
    ⟨some 87, none, .fa 0 (.t 86)⟩,
    ⟨some 88, none, .fa 2 (.t 8)⟩,
    ⟨some 89, none, .ld 1 false (.t 88)⟩,
    ⟨some 90, none, .call 93 [.t 87, .t 89]⟩] []) (.skip))))) (.seq (.region [⟨some 92, none, .bin .eql (.t 13) (.c (.int .i64 12))⟩,
    ⟨some 91, none, .mov (.t 92)⟩] [0, 3, 13, 91])
   (.cond (.t 91) (.seq (.region [⟨some 93, none, .mov (.t 0)⟩,
    ⟨some 94, none, .mov (.t 0)⟩,
    ⟨some 95, none, .fa 1 (.t 3)⟩,
    ⟨some 96, none, .ld 1 false (.t 95)⟩,
    ⟨some 97, none, .call 139 [.t 94, .t 96]⟩,
    ⟨some 98, none, .call 101 [.t 93, .t 97]⟩] [0])
   (.region [⟨some 99, none, .mov (.t 0)⟩,
    ⟨some 100, none, .call 134 [.t 99]⟩] [])) (.seq (.region [⟨some 102, none, .bin .eql (.t 13) (.c (.int .i64 13))⟩,
    ⟨some 101, none, .mov (.t 102)⟩] [0, 3, 13, 101])
   (.cond (.t 101) (.seq (.region [⟨some 103, none, .mov (.t 0)⟩,
    ⟨some 104, none, .call 135 [.t 103, .c (.int .u8 127)]⟩] [0, 3])
   (.seq (.region [⟨some 105, none, .mov (.t 0)⟩,
    ⟨some 106, none, .fa 1 (.t 3)⟩,
    ⟨some 107, none, .ld 1 false (.t 106)⟩,
    ⟨some 108, none, .call 139 [.t 105, .t 107]⟩,
    ⟨some 9, none, .mov (.t 108)⟩] [0, 9])
   (.seq (.region [⟨some 109, none, .mov (.t 0)⟩,
    ⟨some 110, none, .mov (.t 9)⟩,
    ⟨some 111, none, .call 101 [.t 109, .t 110]⟩] [0, 9])
   (.region [⟨some 112, none, .mov (.t 0)⟩,
    ⟨some 113, none, .nilc (.t 112)⟩,
    ⟨some 114, none, .fa 0 (.t 113)⟩,
    ⟨some 115, none, .mov (.t 9)⟩,
    ⟨some 116, none, .call 93 [.t 114, .t 115]⟩] [])))) (.seq (.region [⟨some 118, none, .bin .eql (.t 13) (.c (.int .i64 14))⟩,
    ⟨some 117, none, .mov (.t 118)⟩] [0, 3, 13, 117])
   (.cond (.t 117) (.region [⟨some 119, none, .mov (.t 0)⟩,
    ⟨some 120, none, .ld 6 true (.t 3)⟩,
    ⟨some 121, none, .call 140 [.t 119, .t 120]⟩] []) (.seq (.region [⟨some 123, none, .bin .eql (.t 13) (.c (.int .i64 15))⟩,
    ⟨some 122, none, .mov (.t 123)⟩] [0, 3, 13, 122])
   (.cond (.t 122) (.seq (.region [⟨some 124, none, .mov (.t 0)⟩,
    ⟨some 125, none, .mov (.t 0)⟩,
    ⟨some 126, none, .nilc (.t 125)⟩,
    ⟨some 127, none, .fa 3 (.t 126)⟩,
    ⟨some 128, none, .ld 1 false (.t 127)⟩,
    ⟨some 129, none, .iaV 5 (.t 128) (.c (.int .i64 0))⟩,
    ⟨some 130, none, .fa 2 (.t 129)⟩,
    ⟨some 131, none, .ld 1 false (.t 130)⟩,
    ⟨some 132, none, .call 101 [.t 124, .t 131]⟩] [0])
   (.region [⟨some 133, none, .mov (.t 0)⟩,
    ⟨some 134, none, .call 134 [.t 133]⟩] [])) (.seq (.region [⟨some 136, none, .bin .eql (.t 13) (.c (.int .i64 16))⟩,
    ⟨some 135, none, .mov (.t 136)⟩] [0, 3, 13, 135])
   (.cond (.t 135) (.region [⟨some 137, none, .mov (.t 0)⟩,
    ⟨some 138, none, .fa 1 (.t 3)⟩,
    ⟨some 139, none, .ld 1 false (.t 138)⟩,
    ⟨some 140, none, .call 141 [.t 137, .t 139]⟩] []) (.seq (.region [⟨some 142, none, .bin .eql (.t 13) (.c (.int .i64 17))⟩,
    ⟨some 141, none, .mov (.t 142)⟩] [0, 3, 141])
   (.cond (.t 141) (.seq (.region [⟨some 143, none, .mov (.t 0)⟩,
    ⟨some 144, none, .mov (.t 0)⟩,
    ⟨some 145, none, .fa 2 (.t 3)⟩,
    ⟨some 146, none, .ld 1 false (.t 145)⟩,
    ⟨some 147, none, .call 142 [.t 144, .t 146]⟩,
    ⟨some 148, none, .bin .neq (.t 147) (.c (.int .u8 112))⟩,
    ⟨some 149, none, .call 100 [.t 143, .t 148]⟩] [0, 3])
   (.seq (.region [⟨some 150, none, .mov (.t 0)⟩,
    ⟨some 151, none, .call 135 [.t 150, .c (.int .u8 127)]⟩] [0, 3])
   (.seq (.region [⟨some 153, none, .mov (.t 0)⟩,
    ⟨some 154, none, .fa 1 (.t 3)⟩,
    ⟨some 155, none, .ld 1 false (.t 154)⟩,
    ⟨some 156, none, .conv .u64 (.t 155)⟩,
    ⟨some 157, none, .call 143 [.t 153, .t 156]⟩,
    ⟨some 152, none, .mov (.t 157)⟩,
    ⟨some 158, none, .ext (.t 152) 0⟩,
    ⟨some 159, none, .ext (.t 152) 1⟩,
    ⟨some 10, none, .mov (.t 158)⟩,
    ⟨some 11, none, .mov (.t 159)⟩] [0, 10, 11])
   (.seq (.region [⟨some 160, none, .mov (.t 0)⟩,
    ⟨some 161, none, .mov (.t 10)⟩,
    ⟨some 162, none, .call 101 [.t 160, .t 161]⟩] [0, 11])
   (.region [⟨some 163, none, .mov (.t 0)⟩,
    ⟨some 164, none, .nilc (.t 163)⟩,
    ⟨some 165, none, .fa 0 (.t 164)⟩,
    ⟨some 166, none, .mov (.t 11)⟩,
    ⟨some 167, none, .call 93 [.t 165, .t 166]⟩] []))))) (.seq (.region [⟨some 4, none, .mov (.c (.bool false))⟩] [4])
   (.ret))))))))))))))))))))))))))
   (.seq (.region [⟨some 4, none, .mov (.c (.bool true))⟩] [4])
   (.ret))),
  [.t 4], 168, 2⟩
def A94 : Ann := ⟨[(0, [0, 3]), (1, [0, 3, 13]), (2, [4]), (3, [0, 3, 13, 14]), (4, []), (5, [0, 3, 13, 18]), (6, [0, 3, 13, 20]), (7, [0, 3, 13, 20]), (8, [0, 3, 13, 20]), (9, [0, 3, 26]), (10, [0, 3]), (11, [0, 3, 5, 6]), (12, [0, 3, 5, 6]), (13, []), (14, [0, 3, 13, 45]), (15, [0, 3, 7]), (16, [0, 3, 7]), (17, []), (18, [0, 3, 13, 62]), (19, [0, 8]), (20, [0, 8]), (21, [0, 8, 84]), (22, []), (23, [0, 3, 13, 91]), (24, [0]), (25, []), (26, [0, 3, 13, 101]), (27, [0, 3]), (28, [0, 9]), (29, [0, 9]), (30, []), (31, [0, 3, 13, 117]), (32, []), (33, [0, 3, 13, 122]), (34, [0]), (35, []), (36, [0, 3, 13, 135]), (37, []), (38, [0, 3, 141]), (39, [0, 3]), (40, [0, 3]), (41, [0, 10, 11]), (42, [0, 11]), (43, []), (44, [4])], [(22, [(0, []), (1, []), (2, []), (3, []), (4, []), (5, [])], [(1, [0]), (2, [0, 1]), (4, [3]), (5, [0, 1, 2, 3, 4])])]⟩
set_option maxRecDepth 100000 in
theorem F94.ok : compF Try.prog A94 Try.f94 = some F94 := by kernel_rfl
theorem F94.fok : FOk Try.prog 94 F94 := fok_of mixed Try.func94 F94.ok

/-- (*cloakroom/val.checker).places -/
def F95 : SFn := ⟨.seq (.region [⟨some 3, none, .box (.t 1)⟩,
    ⟨some 4, none, .mov (.c (.bool false))⟩] [0, 3])
   (.seq (.seq (.region [⟨some 10, none, .fa 0 (.t 3)⟩,
    ⟨some 11, none, .ld 1 false (.t 10)⟩] [0, 3, 11])
   (.block 0 (.seq (.region [⟨some 13, none, .bin .eql (.t 11) (.c (.int .i64 26))⟩,
    ⟨some 12, none, .mov (.t 13)⟩] [0, 3, 11, 12])
   (.cond (.t 12) (.region [⟨some 14, none, .mov (.t 0)⟩,
    ⟨some 15, none, .call 144 [.t 14]⟩] []) (.seq (.region [⟨some 17, none, .bin .eql (.t 11) (.c (.int .i64 27))⟩,
    ⟨some 16, none, .mov (.t 17)⟩] [0, 3, 11, 16])
   (.cond (.t 16) (.seq (.region [⟨some 18, none, .mov (.t 0)⟩,
    ⟨some 19, none, .call 135 [.t 18, .c (.int .u8 127)]⟩] [0])
   (.seq (.region [⟨some 20, none, .mov (.t 0)⟩,
    ⟨some 21, none, .call 144 [.t 20]⟩,
    ⟨some 5, none, .mov (.t 21)⟩] [0, 5])
   (.seq (.region [⟨some 22, none, .mov (.t 0)⟩,
    ⟨some 23, none, .call 144 [.t 22]⟩,
    ⟨some 6, none, .mov (.t 23)⟩] [0, 5, 6])
   (.seq (.region [⟨some 24, none, .mov (.t 0)⟩,
    ⟨some 25, none, .mov (.t 5)⟩,
    ⟨some 26, none, .call 145 [.t 25]⟩,
    ⟨some 27, none, .mov (.t 26)⟩,
    ⟨some 28, some (27, false), .mov (.t 6)⟩,
    ⟨some 29, some (27, false), .call 145 [.t 28]⟩,
    ⟨some 30, none, .pick (.t 27) (.c (.bool true)) (.t 29)⟩,
    ⟨some 31, none, .mov (.t 30)⟩,
    ⟨some 32, some (31, false), .mov (.t 5)⟩,
    ⟨some 33, some (31, false), .mov (.t 6)⟩,
    ⟨some 34, some (31, false), .bin .neq (.t 32) (.t 33)⟩,
    ⟨some 35, some (31, false), .mov (.t 34)⟩,
    ⟨some 36, some (35, true), .mov (.t 5)⟩,
    ⟨some 37, some (35, true), .bin .neq (.t 36) (.c (.int .u8 0))⟩,
    ⟨some 38, some (31, false), .pick (.t 35) (.t 37) (.c (.bool false))⟩,
    ⟨some 39, some (31, false), .mov (.t 38)⟩,
    ⟨some 40, some (39, true), .mov (.t 6)⟩,
    ⟨some 41, some (39, true), .bin .neq (.t 40) (.c (.int .u8 0))⟩,
    ⟨some 42, some (31, false), .pick (.t 39) (.t 41) (.c (.bool false))⟩,
    ⟨some 43, none, .pick (.t 31) (.c (.bool true)) (.t 42)⟩,
    ⟨some 44, none, .call 100 [.t 24, .t 43]⟩] [0, 5, 6])
   (.seq (.seq (.region [⟨some 45, none, .mov (.t 5)⟩,
    ⟨some 46, none, .bin .eql (.t 45) (.c (.int .u8 0))⟩] [0, 5, 6, 46])
   (.cond (.t 46) (.region [⟨some 47, none, .mov (.t 6)⟩,
    ⟨some 5, none, .mov (.t 47)⟩] [0, 5]) (.skip)))
   (.region [⟨some 48, none, .mov (.t 0)⟩,
    ⟨some 49, none, .nilc (.t 48)⟩,
    ⟨some 50, none, .fa 0 (.t 49)⟩,
    ⟨some 51, none, .mov (.t 5)⟩,
    ⟨some 52, none, .bslice 1 1 [.int .u8 0] [(0, 1, .t 51)]⟩,
    ⟨some 53, none, .call 93 [.t 50, .t 52]⟩] [])))))) (.seq (.region [⟨some 55, none, .bin .eql (.t 11) (.c (.int .i64 28))⟩,
    ⟨some 54, none, .mov (.t 55)⟩] [0, 3, 11, 54])
   (.cond (.t 54) (.seq (.region [⟨some 56, none, .fa 1 (.t 3)⟩,
    ⟨some 57, none, .ld 1 false (.t 56)⟩,
    ⟨some 58, none, .conv .u8 (.t 57)⟩,
    ⟨some 7, none, .mov (.t 58)⟩] [0, 7])
   (.seq (.region [⟨some 59, none, .mov (.t 0)⟩,
    ⟨some 60, none, .mov (.t 7)⟩,
    ⟨some 61, none, .mov (.t 7)⟩,
    ⟨some 62, none, .bslice 3 1 [.int .u8 0] [(0, 1, .t 60), (1, 1, .t 61), (2, 1, .c (.int .u8 127))]⟩,
    ⟨some 63, none, .call 101 [.t 59, .t 62]⟩] [0, 7])
   (.region [⟨some 64, none, .mov (.t 0)⟩,
    ⟨some 65, none, .nilc (.t 64)⟩,
    ⟨some 66, none, .fa 0 (.t 65)⟩,
    ⟨some 67, none, .mov (.t 7)⟩,
    ⟨some 68, none, .bslice 1 1 [.int .u8 0] [(0, 1, .t 67)]⟩,
    ⟨some 69, none, .call 93 [.t 66, .t 68]⟩] []))) (.seq (.region [⟨some 71, none, .bin .eql (.t 11) (.c (.int .i64 32))⟩,
    ⟨some 70, none, .mov (.t 71)⟩] [0, 3, 11, 70])
   (.cond (.t 70) (.region [⟨some 72, none, .mov (.t 0)⟩,
    ⟨some 73, none, .nilc (.t 72)⟩,
    ⟨some 74, none, .fa 0 (.t 73)⟩,
    ⟨some 75, none, .mov (.t 0)⟩,
    ⟨some 76, none, .fa 1 (.t 3)⟩,
    ⟨some 77, none, .ld 1 false (.t 76)⟩,
    ⟨some 78, none, .call 146 [.t 75, .t 77]⟩,
    ⟨some 79, none, .bslice 1 1 [.int .u8 0] [(0, 1, .t 78)]⟩,
    ⟨some 80, none, .call 93 [.t 74, .t 79]⟩] []) (.seq (.region [⟨some 82, none, .bin .eql (.t 11) (.c (.int .i64 33))⟩,
    ⟨some 81, none, .mov (.t 82)⟩] [0, 3, 11, 81])
   (.cond (.t 81) (.region [⟨some 83, none, .mov (.t 0)⟩,
    ⟨some 84, none, .mov (.t 0)⟩,
    ⟨some 85, none, .fa 1 (.t 3)⟩,
    ⟨some 86, none, .ld 1 false (.t 85)⟩,
    ⟨some 87, none, .call 146 [.t 84, .t 86]⟩,
    ⟨some 88, none, .call 135 [.t 83, .t 87]⟩] []) (.seq (.region [⟨some 90, none, .bin .eql (.t 11) (.c (.int .i64 34))⟩,
    ⟨some 89, none, .mov (.t 90)⟩] [0, 3, 11, 89])
   (.cond (.t 89) (.seq (.region [⟨some 91, none, .mov (.t 0)⟩,
    ⟨some 92, none, .fa 1 (.t 3)⟩,
    ⟨some 93, none, .ld 1 false (.t 92)⟩,
    ⟨some 94, none, .call 146 [.t 91, .t 93]⟩,
    ⟨some 8, none, .mov (.t 94)⟩] [0, 8])
   (.seq (.region [⟨some 95, none, .mov (.t 0)⟩,
    ⟨some 96, none, .mov (.t 8)⟩,
    ⟨some 97, none, .call 135 [.t 95, .t 96]⟩] [0, 8])
   (.region [⟨some 98, none, .mov (.t 0)⟩,
    ⟨some 99, none, .nilc (.t 98)⟩,
    ⟨some 100, none, .fa 0 (.t 99)⟩,
    ⟨some 101, none, .mov (.t 8)⟩,
    ⟨some 102, none, .bslice 1 1 [.int .u8 0] [(0, 1, .t 101)]⟩,
    ⟨some 103, none, .call 93 [.t 100, .t 102]⟩] []))) (.seq (.region [⟨some 105, none, .bin .eql (.t 11) (.c (.int .i64 35))⟩,
    ⟨some 104, none, .mov (.t 105)⟩] [0, 3, 11, 104])
   (.cond (.t 104) (.region [⟨some 106, none, .mov (.t 0)⟩,
    ⟨some 107, none, .nilc (.t 106)⟩,
    ⟨some 108, none, .fa 0 (.t 107)⟩,
    ⟨some 109, none, .mov (.t 0)⟩,
    ⟨some 110, none, .fa 1 (.t 3)⟩,
    ⟨some 111, none, .ld 1 false (.t 110)⟩,
    ⟨some 112, none, .call 147 [.t 109, .t 111]⟩,
    ⟨some 113, none, .fld 0 1 false (.t 112)⟩,
    ⟨some 114, none, .bslice 1 1 [.int .u8 0] [(0, 1, .t 113)]⟩,
    ⟨some 115, none, .call 93 [.t 108, .t 114]⟩] []) (.seq (.region [⟨some 117, none, .bin .eql (.t 11) (.c (.int .i64 36))⟩,
    ⟨some 116, none, .mov (.t 117)⟩] [0, 3, 11, 116])
   (.cond (.t 116) (.seq (.region [⟨some 118, none, .mov (.t 0)⟩,
    ⟨some 119, none, .fa 1 (.t 3)⟩,
    ⟨some 120, none, .ld 1 false (.t 119)⟩,
    ⟨some 121, none, .call 147 [.t 118, .t 120]⟩,
    ⟨some 9, none, .new [.int .u8 0, .bool false, .slice none 0 0]⟩,
    ⟨none, none, .st 3 (.t 9) (.t 121)⟩] [0, 9])
   (.seq (.region [⟨some 122, none, .mov (.t 0)⟩,
    ⟨some 123, none, .fa 1 (.t 9)⟩,
    ⟨some 124, none, .ld 1 false (.t 123)⟩,
    ⟨some 125, none, .un .not (.t 124)⟩,
    ⟨some 126, none, .call 100 [.t 122, .t 125]⟩] [0, 9])
   (.region [⟨some 127, none, .mov (.t 0)⟩,
    ⟨some 128, none, .fa 0 (.t 9)⟩,
    ⟨some 129, none, .ld 1 false (.t 128)⟩,
    ⟨some 130, none, .call 135 [.t 127, .t 129]⟩] []))) (.seq (.region [⟨some 132, none, .bin .eql (.t 11) (.c (.int .i64 65))⟩,
    ⟨some 131, none, .mov (.t 132)⟩] [0, 3, 11, 131])
   (.cond (.t 131) (.region [⟨some 133, none, .mov (.t 0)⟩,
    ⟨some 134, none, .nilc (.t 133)⟩,
    ⟨some 135, none, .fa 0 (.t 134)⟩,
    ⟨some 136, none, .bslice 1 1 [.int .u8 0] [(0, 1, .c (.int .u8 127))]⟩,
    ⟨some 137, none, .call 93 [.t 135, .t 136]⟩] []) (.seq (.region [⟨some 139, none, .bin .eql (.t 11) (.c (.int .i64 66))⟩,
    ⟨some 138, none, .mov (.t 139)⟩] [0, 3, 11, 138])
   (.cond (.t 138) (.region [⟨some 140, none, .mov (.t 0)⟩,
    ⟨some 141, none, .nilc (.t 140)⟩,
    ⟨some 142, none, .fa 0 (.t 141)⟩,
    ⟨some 143, none, .bslice 1 1 [.int .u8 0] [(0, 1, .c (.int .u8 126))]⟩,
    ⟨some 144, none, .call 93 [.t 142, .t 143]⟩] []) (.seq (.region [⟨some 146, none, .bin .eql (.t 11) (.c (.int .i64 208))⟩,
    ⟨some 145, none, .mov (.t 146)⟩] [0, 3, 11, 145])
   (.cond (.t 145) (.region [⟨some 147, none, .mov (.t 0)⟩,
    ⟨some 148, none, .nilc (.t 147)⟩,
    ⟨some 149, none, .fa 0 (.t 148)⟩,
    ⟨some 150, none, .fa 1 (.t 3)⟩,
    ⟨some 151, none, .ld 1 false (.t 150)⟩,
    ⟨some 152, none, .conv .u8 (.t 151)⟩,
    ⟨some 153, none, .bslice 1 1 [.int .u8 0] [(0, 1, .t 152)]⟩,
    ⟨some 154, none, .call 93 [.t 149, .t 153]⟩] []) (.seq (.region [⟨some 156, none, .bin .eql (.t 11) (.c (.int .i64 209))⟩,
    ⟨some 155, none, .mov (.t 156)⟩] [0, 3, 11, 155])
   (.cond (.t 155) (.seq (.region [⟨some 157, none, .mov (.t 0)⟩,
    ⟨some 158, none, .mov (.t 0)⟩,
    ⟨some 159, none, .call 144 [.t 158]⟩,
    ⟨some 160, none, .call 148 [.t 159]⟩,
    ⟨some 161, none, .un .not (.t 160)⟩,
    ⟨some 162, none, .call 100 [.t 157, .t 161]⟩] [0])
   (.region [⟨some 163, none, .mov (.t 0)⟩,
    ⟨some 164, none, .nilc (.t 163)⟩,
    ⟨some 165, none, .fa 0 (.t 164)⟩,
    ⟨some 166, none, .bslice 1 1 [.int .u8 0] [(0, 1, .c (.int .u8 127))]⟩,
    ⟨some 167, none, .call 93 [.t 165, .t 166]⟩] [])) (.seq (.region [⟨some 169, none, .bin .eql (.t 11) (.c (.int .i64 210))⟩,
    ⟨some 168, none, .mov (.t 169)⟩] [0, 3, 168])
   (.cond (.t 168) (.seq (.region [⟨some 170, none, .mov (.t 0)⟩,
    ⟨some 171, none, .fa 1 (.t 3)⟩,
    ⟨some 172, none, .ld 1 false (.t 171)⟩,
    ⟨some 173, none, .mov (.t 0)⟩,
    ⟨some 174, none, .nilc (.t 173)⟩,
    ⟨some 175, none, .fa 1 (.t 174)⟩,
    ⟨some 176, none, .ld 1 false (.t 175)⟩,
    ⟨some 177, none, .nilc (.t 176)⟩,
    ⟨some 178, none, .fa 1 (.t 177)⟩,
    ⟨some 179, none, .ld 1 false (.t 178)⟩,
    ⟨some 180, none, .lenV (.t 179)⟩,
    ⟨some 181, none, .call 91 [.t 172, .t 180]⟩,
    ⟨some 182, none, .un .not (.t 181)⟩,
    ⟨some 183, none, .mov (.t 182)⟩,
    ⟨some 184, some (183, false), .mov (.t 0)⟩,
    ⟨some 185, some (183, false), .nilc (.t 184)⟩,
    ⟨some 186, some (183, false), .fa 1 (.t 185)⟩,
    ⟨some 187, some (183, false), .ld 1 false (.t 186)⟩,
    ⟨some 188, some (183, false), .nilc (.t 187)⟩,
    ⟨some 189, some (183, false), .ld 13 true (.t 188)⟩,
    ⟨some 191, some (183, false), .fa 1 (.t 3)⟩,
    ⟨some 192, some (183, false), .ld 1 false (.t 191)⟩,
    ⟨some 190, some (183, false), .call 120 [.t 189]⟩,
    ⟨none, some (183, false), .chk 1 false (.t 191) 192⟩,
    ⟨some 193, some (183, false), .iaV 1 (.t 190) (.t 192)⟩,
    ⟨some 194, some (183, false), .ld 1 false (.t 193)⟩,
    ⟨some 195, some (183, false), .un .not (.t 194)⟩,
    ⟨some 196, none, .pick (.t 183) (.c (.bool true)) (.t 195)⟩,
    ⟨some 197, none, .call 100 [.t 170, .t 196]⟩] [0])
   (.region [⟨some 198, none, .mov (.t 0)⟩,
    ⟨some 199, none, .nilc (.t 198)⟩,
    ⟨some 200, none, .fa 0 (.t 199)⟩,
    ⟨some 201, none, .bslice 1 1 [.int .u8 0] [(0, 1, .c (.int .u8 112))]⟩,
    ⟨some 202, none, .call 93 [.t 200, .t 201]⟩] [])) (.seq (.region [⟨some 4, none, .mov (.c (.bool false))⟩] [4])
   (.ret))))))))))))))))))))))))))))))
   (.seq (.region [⟨some 4, none, .mov (.c (.bool true))⟩] [4])
   (.ret))),
  [.t 4], 203, 2⟩
def A95 : Ann := ⟨[(0, [0, 3]), (1, [0, 3, 11]), (2, [4]), (3, [0, 3, 11, 12]), (4, []), (5, [0, 3, 11, 16]), (6, [0]), (7, [0, 5]), (8, [0, 5, 6]), (9, [0, 5, 6]), (10, [0, 5, 6, 46]), (11, [0, 5]), (12, []), (13, [0, 3, 11, 54]), (14, [0, 7]), (15, [0, 7]), (16, []), (17, [0, 3, 11, 70]), (18, []), (19, [0, 3, 11, 81]), (20, []), (21, [0, 3, 11, 89]), (22, [0, 8]), (23, [0, 8]), (24, []), (25, [0, 3, 11, 104]), (26, []), (27, [0, 3, 11, 116]), (28, [0, 9]), (29, [0, 9]), (30, []), (31, [0, 3, 11, 131]), (32, []), (33, [0, 3, 11, 138]), (34, []), (35, [0, 3, 11, 145]), (36, []), (37, [0, 3, 11, 155]), (38, [0]), (39, []), (40, [0, 3, 168]), (41, [0]), (42, []), (43, [4])], [(18, [(0, []), (1, []), (2, []), (3, []), (4, []), (5, []), (6, []), (7, []), (8, [])], [(1, [0]), (2, [0, 1]), (5, [4]), (6, [3, 4, 5]), (7, [3, 4, 5, 6]), (8, [0, 1, 2, 3, 4, 5, 6, 7])]),
  (26, [(0, []), (1, []), (2, []), (3, []), (4, []), (5, []), (6, []), (7, []), (8, []), (9, [])], [(1, [0]), (2, [0, 1]), (5, [4]), (6, [3, 4, 5]), (7, [3, 4, 5, 6]), (8, [3, 4, 5, 6, 7]), (9, [0, 1, 2, 3, 4, 5, 6, 7, 8])]),
  (36, [(0, []), (1, []), (2, []), (3, []), (4, []), (5, []), (6, []), (7, [])], [(1, [0]), (2, [0, 1]), (4, [3]), (5, [3, 4]), (6, [3, 4, 5]), (7, [0, 1, 2, 3, 4, 5, 6])]),
  (41, [(0, []), (1, []), (2, []), (3, []), (4, []), (5, []), (6, []), (7, []), (8, []), (9, []), (10, []), (11, []), (12, []), (13, []), (14, []), (15, []), (16, []), (17, []), (18, []), (19, []), (21, []), (22, []), (20, [22]), (23, []), (24, []), (25, []), (26, []), (27, [])], [(2, [1]), (4, [3]), (5, [3, 4]), (6, [3, 4, 5]), (7, [3, 4, 5, 6]), (8, [3, 4, 5, 6, 7]), (9, [3, 4, 5, 6, 7, 8]), (10, [3, 4, 5, 6, 7, 8, 9]), (11, [1, 2, 3, 4, 5, 6, 7, 8, 9, 10]), (12, [1, 2, 3, 4, 5, 6, 7, 8, 9, 10, 11]), (13, [1, 2, 3, 4, 5, 6, 7, 8, 9, 10, 11, 12]), (14, [1, 2, 3, 4, 5, 6, 7, 8, 9, 10, 11, 12, 13]), (15, [1, 2, 3, 4, 5, 6, 7, 8, 9, 10, 11, 12, 13, 14]), (16, [1, 2, 3, 4, 5, 6, 7, 8, 9, 10, 11, 12, 13, 14, 15]), (17, [1, 2, 3, 4, 5, 6, 7, 8, 9, 10, 11, 12, 13, 14, 15, 16]), (18, [1, 2, 3, 4, 5, 6, 7, 8, 9, 10, 11, 12, 13, 14, 15, 16, 17]), (19, [1, 2, 3, 4, 5, 6, 7, 8, 9, 10, 11, 12, 13, 14, 15, 16, 17, 18]), (20, [1, 2, 3, 4, 5, 6, 7, 8, 9, 10, 11, 12, 13, 14, 15, 16, 17, 18, 19]), (21, [1, 2, 3, 4, 5, 6, 7, 8, 9, 10, 11, 12, 13]), (22, [1, 2, 3, 4, 5, 6, 7, 8, 9, 10, 11, 12, 13, 21]), (23, [1, 2, 3, 4, 5, 6, 7, 8, 9, 10, 11, 12, 13, 14, 15, 16, 17, 18, 19, 20, 21, 22]), (24, [1, 2, 3, 4, 5, 6, 7, 8, 9, 10, 11, 12, 13, 14, 15, 16, 17, 18, 19, 20, 21, 22, 23]), (25, [1, 2, 3, 4, 5, 6, 7, 8, 9, 10, 11, 12, 13, 14, 15, 16, 17, 18, 19, 20, 21, 22, 23, 24]), (26, [1, 2, 3, 4, 5, 6, 7, 8, 9, 10, 11, 12, 13, 14, 15, 16, 17, 18, 19, 20, 21, 22, 23, 24, 25]), (27, [0, 1, 2, 3, 4, 5, 6, 7, 8, 9, 10, 11, 12, 13, 14, 15, 16, 17, 18, 19, 20, 21, 22, 23, 24, 25, 26])])]⟩
set_option maxRecDepth 100000 in
theorem F95.ok : compF Try.prog A95 Try.f95 = some F95 := by kernel_rfl
theorem F95.fok : FOk Try.prog 95 F95 := fok_of mixed Try.func95 F95.ok

/-- (*cloakroom/val.checker).bulk -/
def F96 : SFn := ⟨.seq (.region [⟨some 3, none, .box (.t 1)⟩,
    ⟨some 4, none, .mov (.c (.bool false))⟩] [0, 3])
   (.seq (.seq (.region [⟨some 6, none, .fa 0 (.t 3)⟩,
    ⟨some 7, none, .ld 1 false (.t 6)⟩] [0, 3, 7])
   (.block 0 (.seq (.region [⟨some 9, none, .bin .eql (.t 7) (.c (.int .i64 37))⟩,
    ⟨some 8, none, .mov (.t 9)⟩] [0, 3, 7, 8])
   (.cond (.t 8) (.seq (.region [⟨some 10, none, .mov (.t 0)⟩,
    ⟨some 11, none, .fa 1 (.t 3)⟩,
    ⟨some 12, none, .ld 1 false (.t 11)⟩,
    ⟨some 13, none, .call 142 [.t 10, .t 12]⟩,
    ⟨some 5, none, .mov (.t 13)⟩] [0, 5])
   (.seq (.region [⟨some 14, none, .mov (.t 0)⟩,
    ⟨some 15, none, .call 135 [.t 14, .c (.int .u8 127)]⟩] [0, 5])
   (.region [⟨some 16, none, .mov (.t 0)⟩,
    ⟨some 17, none, .nilc (.t 16)⟩,
    ⟨some 18, none, .fa 0 (.t 17)⟩,
    ⟨some 19, none, .mov (.t 5)⟩,
    ⟨some 20, none, .bslice 1 1 [.int .u8 0] [(0, 1, .t 19)]⟩,
    ⟨some 21, none, .call 93 [.t 18, .t 20]⟩] []))) (.seq (.region [⟨some 23, none, .bin .eql (.t 7) (.c (.int .i64 38))⟩,
    ⟨some 22, none, .mov (.t 23)⟩] [0, 3, 7, 22])
   (.cond (.t 22) (.region [⟨some 24, none, .mov (.t 0)⟩,
    ⟨some 25, none, .mov (.t 0)⟩,
    ⟨some 26, none, .fa 1 (.t 3)⟩,
    ⟨some 27, none, .ld 1 false (.t 26)⟩,
    ⟨some 28, none, .call 142 [.t 25, .t 27]⟩,
    ⟨some 29, none, .bslice 2 1 [.int .u8 0] [(0, 1, .c (.int .u8 127)), (1, 1, .t 28)]⟩,
    ⟨some 30, none, .call 101 [.t 24, .t 29]⟩] []) (.seq (.region [⟨some 32, none, .bin .eql (.t 7) (.c (.int .i64 63))⟩,
    ⟨some 31, none, .mov (.t 32)⟩] [0, 3, 7, 31])
   (.cond (.t 31) (.seq (.region [⟨some 33, none, .mov (.t 0)⟩,
    ⟨some 34, none, .call 149 [.t 33]⟩] [0])
   (.region [⟨some 35, none, .mov (.t 0)⟩,
    ⟨some 36, none, .nilc (.t 35)⟩,
    ⟨some 37, none, .fa 0 (.t 36)⟩,
    ⟨some 38, none, .bslice 1 1 [.int .u8 0] [(0, 1, .c (.int .u8 127))]⟩,
    ⟨some 39, none, .call 93 [.t 37, .t 38]⟩] [])) (.seq (.region [⟨some 41, none, .bin .eql (.t 7) (.c (.int .i64 64))⟩,
    ⟨some 40, none, .mov (.t 41)⟩] [0, 3, 7, 40])
   (.cond (.t 40) (.seq (.region [⟨some 42, none, .mov (.t 0)⟩,
    ⟨some 43, none, .call 149 [.t 42]⟩] [0])
   (.seq (.region [⟨some 44, none, .mov (.t 0)⟩,
    ⟨some 45, none, .call 135 [.t 44, .c (.int .u8 127)]⟩] [0])
   (.region [⟨some 46, none, .mov (.t 0)⟩,
    ⟨some 47, none, .nilc (.t 46)⟩,
    ⟨some 48, none, .fa 0 (.t 47)⟩,
    ⟨some 49, none, .bslice 1 1 [.int .u8 0] [(0, 1, .c (.int .u8 127))]⟩,
    ⟨some 50, none, .call 93 [.t 48, .t 49]⟩] []))) (.seq (.region [⟨some 52, none, .bin .eql (.t 7) (.c (.int .i64 64520))⟩,
    ⟨some 51, none, .mov (.t 52)⟩] [0, 3, 7, 51])
   (.cond (.t 51) (.seq (.region [⟨some 53, none, .mov (.t 0)⟩,
    ⟨some 54, none, .call 149 [.t 53]⟩] [0, 3])
   (.seq (.region [⟨some 55, none, .mov (.t 0)⟩,
    ⟨some 56, none, .fa 1 (.t 3)⟩,
    ⟨some 57, none, .ld 1 false (.t 56)⟩,
    ⟨some 58, none, .call 150 [.t 55, .t 57]⟩] [0])
   (.region [⟨some 59, none, .mov (.t 0)⟩,
    ⟨some 60, none, .bslice 3 1 [.int .u8 0] [(0, 1, .c (.int .u8 127)), (1, 1, .c (.int .u8 127)), (2, 1, .c (.int .u8 127))]⟩,
    ⟨some 61, none, .call 101 [.t 59, .t 60]⟩] []))) (.seq (.region [⟨some 63, none, .bin .eql (.t 7) (.c (.int .i64 64521))⟩,
    ⟨some 62, none, .mov (.t 63)⟩] [0, 3, 7, 62])
   (.cond (.t 62) (.region [⟨some 64, none, .mov (.t 0)⟩,
    ⟨some 65, none, .fa 1 (.t 3)⟩,
    ⟨some 66, none, .ld 1 false (.t 65)⟩,
    ⟨some 67, none, .call 150 [.t 64, .t 66]⟩] []) (.seq (.seq (.region [⟨some 69, none, .bin .eql (.t 7) (.c (.int .i64 64522))⟩,
    ⟨some 68, none, .mov (.t 69)⟩] [0, 3, 7, 68])
   (.cond (.t 68) (.skip) (.region [⟨some 70, none, .bin .eql (.t 7) (.c (.int .i64 64523))⟩,
    ⟨some 68, none, .mov (.t 70)⟩] [0, 3, 7, 68])))
   (.cond (.t 68) (.seq (.region [⟨some 71, none, .mov (.t 0)⟩,
    ⟨some 72, none, .call 149 [.t 71]⟩] [0])
   (.region [⟨some 73, none, .mov (.t 0)⟩,
    ⟨some 74, none, .bslice 3 1 [.int .u8 0] [(0, 1, .c (.int .u8 127)), (1, 1, .c (.int .u8 127)), (2, 1, .c (.int .u8 127))]⟩,
    ⟨some 75, none, .call 101 [.t 73, .t 74]⟩] [])) (.seq (.region [⟨some 77, none, .bin .eql (.t 7) (.c (.int .i64 64524))⟩,
    ⟨some 76, none, .mov (.t 77)⟩] [0, 3, 7, 76])
   (.cond (.t 76) (.seq (.region [⟨some 78, none, .mov (.t 0)⟩,
    ⟨some 79, none, .mov (.t 0)⟩,
    ⟨some 80, none, .fa 1 (.t 3)⟩,
    ⟨some 81, none, .ld 1 false (.t 80)⟩,
    ⟨some 83, none, .mov (.t 0)⟩,
    ⟨some 84, none, .fa 2 (.t 3)⟩,
    ⟨some 85, none, .ld 1 false (.t 84)⟩,
    ⟨some 82, none, .call 151 [.t 79, .t 81]⟩,
    ⟨none, none, .chk 1 false (.t 84) 85⟩,
    ⟨some 86, none, .call 142 [.t 83, .t 85]⟩,
    ⟨some 87, none, .bin .neq (.t 82) (.t 86)⟩,
    ⟨some 88, none, .call 100 [.t 78, .t 87]⟩] [0])
   (.region [⟨some 89, none, .mov (.t 0)⟩,
    ⟨some 90, none, .bslice 3 1 [.int .u8 0] [(0, 1, .c (.int .u8 127)), (1, 1, .c (.int .u8 127)), (2, 1, .c (.int .u8 127))]⟩,
    ⟨some 91, none, .call 101 [.t 89, .t 90]⟩] [])) (.seq (.region [⟨some 93, none, .bin .eql (.t 7) (.c (.int .i64 64525))⟩,
    ⟨some 92, none, .mov (.t 93)⟩] [0, 3, 7, 92])
   (.cond (.t 92) (.region [⟨some 94, none, .mov (.t 0)⟩,
    ⟨some 95, none, .fa 1 (.t 3)⟩,
    ⟨some 96, none, .ld 1 false (.t 95)⟩,
    ⟨some 97, none, .call 151 [.t 94, .t 96]⟩] []) (.seq (.region [⟨some 99, none, .bin .eql (.t 7) (.c (.int .i64 64526))⟩,
    ⟨some 98, none, .mov (.t 99)⟩] [0, 3, 7, 98])
   (.cond (.t 98) (.seq (.region [⟨some 100, none, .mov (.t 0)⟩,
    ⟨some 101, none, .mov (.t 0)⟩,
    ⟨some 102, none, .fa 1 (.t 3)⟩,
    ⟨some 103, none, .ld 1 false (.t 102)⟩,
    ⟨some 105, none, .mov (.t 0)⟩,
    ⟨some 106, none, .fa 2 (.t 3)⟩,
    ⟨some 107, none, .ld 1 false (.t 106)⟩,
    ⟨some 104, none, .call 142 [.t 101, .t 103]⟩,
    ⟨none, none, .chk 1 false (.t 106) 107⟩,
    ⟨some 108, none, .call 142 [.t 105, .t 107]⟩,
    ⟨some 109, none, .bin .neq (.t 104) (.t 108)⟩,
    ⟨some 110, none, .call 100 [.t 100, .t 109]⟩] [0])
   (.region [⟨some 111, none, .mov (.t 0)⟩,
    ⟨some 112, none, .bslice 3 1 [.int .u8 0] [(0, 1, .c (.int .u8 127)), (1, 1, .c (.int .u8 127)), (2, 1, .c (.int .u8 127))]⟩,
    ⟨some 113, none, .call 101 [.t 111, .t 112]⟩] [])) (.seq (.region [⟨some 115, none, .bin .eql (.t 7) (.c (.int .i64 64527))⟩,
    ⟨some 114, none, .mov (.t 115)⟩] [0, 3, 7, 114])
   (.cond (.t 114) (.seq (.region [⟨some 116, none, .mov (.t 0)⟩,
    ⟨some 117, none, .mov (.t 0)⟩,
    ⟨some 118, none, .fa 1 (.t 3)⟩,
    ⟨some 119, none, .ld 1 false (.t 118)⟩,
    ⟨some 120, none, .call 142 [.t 117, .t 119]⟩,
    ⟨some 121, none, .bslice 2 1 [.int .u8 0] [(0, 1, .t 120), (1, 1, .c (.int .u8 127))]⟩,
    ⟨some 122, none, .call 101 [.t 116, .t 121]⟩] [0])
   (.region [⟨some 123, none, .mov (.t 0)⟩,
    ⟨some 124, none, .nilc (.t 123)⟩,
    ⟨some 125, none, .fa 0 (.t 124)⟩,
    ⟨some 126, none, .bslice 1 1 [.int .u8 0] [(0, 1, .c (.int .u8 127))]⟩,
    ⟨some 127, none, .call 93 [.t 125, .t 126]⟩] [])) (.seq (.region [⟨some 129, none, .bin .eql (.t 7) (.c (.int .i64 64528))⟩,
    ⟨some 128, none, .mov (.t 129)⟩] [0, 3, 7, 128])
   (.cond (.t 128) (.seq (.region [⟨some 130, none, .mov (.t 0)⟩,
    ⟨some 131, none, .fa 1 (.t 3)⟩,
    ⟨some 132, none, .ld 1 false (.t 131)⟩,
    ⟨some 133, none, .call 142 [.t 130, .t 132]⟩] [0])
   (.region [⟨some 134, none, .mov (.t 0)⟩,
    ⟨some 135, none, .nilc (.t 134)⟩,
    ⟨some 136, none, .fa 0 (.t 135)⟩,
    ⟨some 137, none, .bslice 1 1 [.int .u8 0] [(0, 1, .c (.int .u8 127))]⟩,
    ⟨some 138, none, .call 93 [.t 136, .t 137]⟩] [])) (.seq (.region [⟨some 140, none, .bin .eql (.t 7) (.c (.int .i64 64529))⟩,
    ⟨some 139, none, .mov (.t 140)⟩] [0, 3, 139])
   (.cond (.t 139) (.region [⟨some 141, none, .mov (.t 0)⟩,
    ⟨some 142, none, .mov (.t 0)⟩,
    ⟨some 143, none, .fa 1 (.t 3)⟩,
    ⟨some 144, none, .ld 1 false (.t 143)⟩,
    ⟨some 145, none, .call 142 [.t 142, .t 144]⟩,
    ⟨some 146, none, .bslice 3 1 [.int .u8 0] [(0, 1, .c (.int .u8 127)), (1, 1, .t 145), (2, 1, .c (.int .u8 127))]⟩,
    ⟨some 147, none, .call 101 [.t 141, .t 146]⟩] []) (.seq (.region [⟨some 4, none, .mov (.c (.bool false))⟩] [4])
   (.ret))))))))))))))))))))))))))))))
   (.seq (.region [⟨some 4, none, .mov (.c (.bool true))⟩] [4])
   (.ret))),
  [.t 4], 148, 2⟩
def A96 : Ann := ⟨[(0, [0, 3]), (1, [0, 3, 7]), (2, [4]), (3, [0, 3, 7, 8]), (4, [0, 5]), (5, [0, 5]), (6, []), (7, [0, 3, 7, 22]), (8, []), (9, [0, 3, 7, 31]), (10, [0]), (11, []), (12, [0, 3, 7, 40]), (13, [0]), (14, [0]), (15, []), (16, [0, 3, 7, 51]), (17, [0, 3]), (18, [0]), (19, []), (20, [0, 3, 7, 62]), (21, []), (22, [0, 3, 7, 68]), (23, [0, 3, 7, 68]), (24, [0]), (25, []), (26, [0, 3, 7, 76]), (27, [0]), (28, []), (29, [0, 3, 7, 92]), (30, []), (31, [0, 3, 7, 98]), (32, [0]), (33, []), (34, [0, 3, 7, 114]), (35, [0]), (36, []), (37, [0, 3, 7, 128]), (38, [0]), (39, []), (40, [0, 3, 139]), (41, []), (42, [4])], [(27, [(0, []), (1, []), (2, []), (3, []), (5, []), (6, []), (7, []), (4, [7]), (8, []), (9, []), (10, [])], [(3, [2]), (4, [1, 2, 3]), (7, [6]), (8, [1, 2, 3, 4, 5, 6, 7]), (9, [1, 2, 3, 4, 5, 6, 7, 8]), (10, [0, 1, 2, 3, 4, 5, 6, 7, 8, 9])]),
  (32, [(0, []), (1, []), (2, []), (3, []), (5, []), (6, []), (7, []), (4, [7]), (8, []), (9, []), (10, [])], [(3, [2]), (4, [1, 2, 3]), (7, [6]), (8, [1, 2, 3, 4, 5, 6, 7]), (9, [1, 2, 3, 4, 5, 6, 7, 8]), (10, [0, 1, 2, 3, 4, 5, 6, 7, 8, 9])])]⟩
set_option maxRecDepth 100000 in
theorem F96.ok : compF Try.prog A96 Try.f96 = some F96 := by kernel_rfl
theorem F96.fok : FOk Try.prog 96 F96 := fok_of mixed Try.func96 F96.ok

/-- cloakroom/op.Width -/
def F97 : SFn := ⟨.seq (.region [⟨some 2, none, .mov (.c (.int .i64 0))⟩] [0])
   (.seq (.seq (.region [⟨some 3, none, .mov (.t 0)⟩] [3])
   (.block 0 (.seq (.seq (.region [⟨some 5, none, .bin .eql (.t 3) (.c (.int .i64 44))⟩,
    ⟨some 4, none, .mov (.t 5)⟩] [3, 4])
   (.cond (.t 4) (.skip) (.seq (.region [⟨some 6, none, .bin .eql (.t 3) (.c (.int .i64 45))⟩,
    ⟨some 4, none, .mov (.t 6)⟩] [3, 4])
   (.cond (.t 4) (.skip) (.seq (.region [⟨some 7, none, .bin .eql (.t 3) (.c (.int .i64 48))⟩,
    ⟨some 4, none, .mov (.t 7)⟩] [3, 4])
   (.cond (.t 4) (.skip) (.seq (.region [⟨some 8, none, .bin .eql (.t 3) (.c (.int .i64 49))⟩,
    ⟨some 4, none, .mov (.t 8)⟩] [3, 4])
   (.cond (.t 4) (.skip) (.seq (.region [⟨some 9, none, .bin .eql (.t 3) (.c (.int .i64 58))⟩,
    ⟨some 4, none, .mov (.t 9)⟩] [3, 4])
   (.cond (.t 4) (.skip) (.region [⟨some 10, none, .bin .eql (.t 3) (.c (.int .i64 60))⟩,
    ⟨some 4, none, .mov (.t 10)⟩] [3, 4])))))))))))
   (.cond (.t 4) (.seq (.region [⟨some 2, none, .mov (.c (.int .i64 1))⟩] [2])
   (.ret)) (.seq (.seq (.region [⟨some 12, none, .bin .eql (.t 3) (.c (.int .i64 46))⟩,
    ⟨some 11, none, .mov (.t 12)⟩] [3, 11])
   (.cond (.t 11) (.skip) (.seq (.region [⟨some 13, none, .bin .eql (.t 3) (.c (.int .i64 47))⟩,
    ⟨some 11, none, .mov (.t 13)⟩] [3, 11])
   (.cond (.t 11) (.skip) (.seq (.region [⟨some 14, none, .bin .eql (.t 3) (.c (.int .i64 50))⟩,
    ⟨some 11, none, .mov (.t 14)⟩] [3, 11])
   (.cond (.t 11) (.skip) (.seq (.region [⟨some 15, none, .bin .eql (.t 3) (.c (.int .i64 51))⟩,
    ⟨some 11, none, .mov (.t 15)⟩] [3, 11])
   (.cond (.t 11) (.skip) (.seq (.region [⟨some 16, none, .bin .eql (.t 3) (.c (.int .i64 59))⟩,
    ⟨some 11, none, .mov (.t 16)⟩] [3, 11])
   (.cond (.t 11) (.skip) (.region [⟨some 17, none, .bin .eql (.t 3) (.c (.int .i64 61))⟩,
    ⟨some 11, none, .mov (.t 17)⟩] [3, 11])))))))))))
   (.cond (.t 11) (.seq (.region [⟨some 2, none, .mov (.c (.int .i64 2))⟩] [2])
   (.ret)) (.seq (.seq (.region [⟨some 19, none, .bin .eql (.t 3) (.c (.int .i64 40))⟩,
    ⟨some 18, none, .mov (.t 19)⟩] [3, 18])
   (.cond (.t 18) (.skip) (.seq (.region [⟨some 20, none, .bin .eql (.t 3) (.c (.int .i64 52))⟩,
    ⟨some 18, none, .mov (.t 20)⟩] [3, 18])
   (.cond (.t 18) (.skip) (.seq (.region [⟨some 21, none, .bin .eql (.t 3) (.c (.int .i64 53))⟩,
    ⟨some 18, none, .mov (.t 21)⟩] [3, 18])
   (.cond (.t 18) (.skip) (.seq (.region [⟨some 22, none, .bin .eql (.t 3) (.c (.int .i64 54))⟩,
    ⟨some 18, none, .mov (.t 22)⟩] [3, 18])
   (.cond (.t 18) (.skip) (.region [⟨some 23, none, .bin .eql (.t 3) (.c (.int .i64 62))⟩,
    ⟨some 18, none, .mov (.t 23)⟩] [3, 18])))))))))
   (.cond (.t 18) (.seq (.region [⟨some 2, none, .mov (.c (.int .i64 4))⟩] [2])
   (.ret)) (.seq (.seq (.region [⟨some 25, none, .bin .eql (.t 3) (.c (.int .i64 41))⟩,
    ⟨some 24, none, .mov (.t 25)⟩] [3, 24])
   (.cond (.t 24) (.skip) (.region [⟨some 26, none, .bin .eql (.t 3) (.c (.int .i64 55))⟩,
    ⟨some 24, none, .mov (.t 26)⟩] [24])))
   (.cond (.t 24) (.seq (.region [⟨some 2, none, .mov (.c (.int .i64 8))⟩] [2])
   (.ret)) (.skip)))))))))))
   (.seq (.region [⟨some 2, none, .mov (.c (.int .i64 0))⟩] [2])
   (.ret))),
  [.t 2], 27, 1⟩
def A97 : Ann := ⟨[(0, [0]), (1, [3]), (2, [3, 4]), (3, [3, 4]), (4, [3, 4]), (5, [3, 4]), (6, [3, 4]), (7, [3, 4]), (8, [2]), (9, [3, 11]), (10, [3, 11]), (11, [3, 11]), (12, [3, 11]), (13, [3, 11]), (14, [3, 11]), (15, [2]), (16, [3, 18]), (17, [3, 18]), (18, [3, 18]), (19, [3, 18]), (20, [3, 18]), (21, [2]), (22, [3, 24]), (23, [24]), (24, [2]), (25, [2])], []⟩
set_option maxRecDepth 100000 in
theorem F97.ok : compF Try.prog A97 Try.f97 = some F97 := by kernel_rfl
theorem F97.fok : FOk Try.prog 97 F97 := fok_of mixed Try.func97 F97.ok

/-- (*cloakroom/val.checker).moves -/
def F98 : SFn := ⟨.seq (.region [⟨some 3, none, .box (.t 1)⟩] [0, 3])
   (.seq (.region [⟨some 5, none, .mov (.t 0)⟩,
    ⟨some 6, none, .call 149 [.t 5]⟩] [0, 3])
   (.seq (.region [⟨some 7, none, .mov (.t 0)⟩,
    ⟨some 8, none, .fa 1 (.t 3)⟩,
    ⟨some 9, none, .ld 1 false (.t 8)⟩,
    ⟨some 10, none, .bin .gtr (.t 9) (.c (.int .u32 31))⟩,
    ⟨some 11, none, .mov (.t 10)⟩,
    ⟨some 12, some (11, false), .fa 1 (.t 3)⟩,
    ⟨some 13, some (11, false), .ld 1 false (.t 12)⟩,
    ⟨some 14, some (11, false), .bin .and (.t 13) (.c (.int .u32 31))⟩,
    ⟨some 15, some (11, false), .bin .shl (.c (.int .i64 1)) (.t 14)⟩,
    ⟨some 16, some (11, false), .fa 0 (.t 3)⟩,
    ⟨some 17, some (11, false), .ld 1 false (.t 16)⟩,
    ⟨some 18, some (11, false), .call 97 [.t 17]⟩,
    ⟨none, some (11, false), .chk 1 false (.t 12) 13⟩,
    ⟨some 19, some (11, false), .bin .gtr (.t 15) (.t 18)⟩,
    ⟨some 20, none, .pick (.t 11) (.c (.bool true)) (.t 19)⟩,
    ⟨some 21, none, .call 100 [.t 7, .t 20]⟩] [0, 3])
   (.seq (.region [⟨some 4, none, .mov (.c (.int .u8 127))⟩] [0, 3, 4])
   (.seq (.seq (.region [⟨some 22, none, .fa 0 (.t 3)⟩,
    ⟨some 23, none, .ld 1 false (.t 22)⟩,
    ⟨some 24, none, .call 152 [.t 23]⟩] [0, 3, 4, 24])
   (.cond (.t 24) (.region [⟨some 4, none, .mov (.c (.int .u8 126))⟩] [0, 3, 4]) (.skip)))
   (.seq (.seq (.region [⟨some 25, none, .fa 0 (.t 3)⟩,
    ⟨some 26, none, .ld 1 false (.t 25)⟩,
    ⟨some 27, none, .bin .geq (.t 26) (.c (.int .i64 54))⟩] [0, 4, 27])
   (.cond (.t 27) (.seq (.region [⟨some 28, none, .mov (.t 0)⟩,
    ⟨some 29, none, .mov (.t 4)⟩,
    ⟨some 30, none, .bslice 2 1 [.int .u8 0] [(0, 1, .c (.int .u8 127)), (1, 1, .t 29)]⟩,
    ⟨some 31, none, .call 101 [.t 28, .t 30]⟩] [])
   (.ret)) (.skip)))
   (.seq (.region [⟨some 32, none, .mov (.t 0)⟩,
    ⟨some 33, none, .call 135 [.t 32, .c (.int .u8 127)]⟩] [0, 4])
   (.region [⟨some 34, none, .mov (.t 0)⟩,
    ⟨some 35, none, .nilc (.t 34)⟩,
    ⟨some 36, none, .fa 0 (.t 35)⟩,
    ⟨some 37, none, .mov (.t 4)⟩,
    ⟨some 38, none, .bslice 1 1 [.int .u8 0] [(0, 1, .t 37)]⟩,
    ⟨some 39, none, .call 93 [.t 36, .t 38]⟩] []))))))),
  [], 40, 2⟩
def A98 : Ann := ⟨[(0, [0, 3]), (1, [0, 3]), (2, [0, 3]), (3, [0, 3, 4]), (4, [0, 3, 4, 24]), (5, [0, 3, 4]), (6, [0, 4, 27]), (7, []), (8, [0, 4]), (9, [])], [(2, [(0, []), (1, []), (2, []), (3, []), (4, []), (5, []), (6, []), (7, []), (8, []), (9, []), (10, []), (11, [6]), (12, []), (13, []), (14, [])], [(2, [1]), (3, [1, 2]), (4, [1, 2, 3]), (5, [1, 2, 3, 4]), (6, [1, 2, 3, 4, 5]), (7, [1, 2, 3, 4, 5, 6]), (8, [1, 2, 3, 4, 5, 6, 7]), (9, [1, 2, 3, 4]), (10, [1, 2, 3, 4, 9]), (11, [1, 2, 3, 4, 9, 10]), (12, [1, 2, 3, 4, 5, 6, 7, 8, 9, 10, 11]), (13, [1, 2, 3, 4, 5, 6, 7, 8, 9, 10, 11, 12]), (14, [0, 1, 2, 3, 4, 5, 6, 7, 8, 9, 10, 11, 12, 13])])]⟩
set_option maxRecDepth 100000 in
theorem F98.ok : compF Try.prog A98 Try.f98 = some F98 := by kernel_rfl
theorem F98.fok : FOk Try.prog 98 F98 := fok_of mixed Try.func98 F98.ok

/-- cloakroom/val.numbers -/
def F99 : SFn := ⟨.seq (.region [⟨some 2, none, .mov (.c (.slice none 0 0))⟩,
    ⟨some 3, none, .mov (.c (.int .u8 0))⟩] [0])
   (.seq (.block 0 (.seq (.seq (.region [⟨some 5, none, .mov (.t 0)⟩,
    ⟨some 6, none, .bin .eql (.t 5) (.c (.int .i64 69))⟩,
    ⟨some 4, none, .mov (.t 6)⟩] [0, 4])
   (.cond (.t 4) (.skip) (.seq (.region [⟨some 7, none, .mov (.t 0)⟩,
    ⟨some 8, none, .bin .geq (.t 7) (.c (.int .i64 103))⟩,
    ⟨some 9, none, .mov (.t 8)⟩,
    ⟨some 10, some (9, true), .mov (.t 0)⟩,
    ⟨some 11, some (9, true), .bin .leq (.t 10) (.c (.int .i64 105))⟩,
    ⟨some 12, none, .pick (.t 9) (.t 11) (.c (.bool false))⟩,
    ⟨some 4, none, .mov (.t 12)⟩] [0, 4])
   (.cond (.t 4) (.skip) (.seq (.region [⟨some 13, none, .mov (.t 0)⟩,
    ⟨some 14, none, .bin .eql (.t 13) (.c (.int .i64 192))⟩,
    ⟨some 4, none, .mov (.t 14)⟩] [0, 4])
   (.cond (.t 4) (.skip) (.region [⟨some 15, none, .mov (.t 0)⟩,
    ⟨some 16, none, .bin .eql (.t 15) (.c (.int .i64 193))⟩,
    ⟨some 4, none, .mov (.t 16)⟩] [0, 4])))))))
   (.cond (.t 4) (.seq (.region [⟨some 17, none, .bslice 1 1 [.int .u8 0] [(0, 1, .c (.int .u8 127))]⟩,
    ⟨some 2, none, .mov (.t 17)⟩,
    ⟨some 3, none, .mov (.c (.int .u8 127))⟩] [2, 3])
   (.ret)) (.seq (.seq (.region [⟨some 19, none, .mov (.t 0)⟩,
    ⟨some 20, none, .bin .geq (.t 19) (.c (.int .i64 70))⟩,
    ⟨some 21, none, .mov (.t 20)⟩,
    ⟨some 22, some (21, true), .mov (.t 0)⟩,
    ⟨some 23, some (21, true), .bin .leq (.t 22) (.c (.int .i64 79))⟩,
    ⟨some 24, none, .pick (.t 21) (.t 23) (.c (.bool false))⟩,
    ⟨some 18, none, .mov (.t 24)⟩] [0, 18])
   (.cond (.t 18) (.skip) (.region [⟨some 25, none, .mov (.t 0)⟩,
    ⟨some 26, none, .bin .geq (.t 25) (.c (.int .i64 106))⟩,
    ⟨some 27, none, .mov (.t 26)⟩,
    ⟨some 28, some (27, true), .mov (.t 0)⟩,
    ⟨some 29, some (27, true), .bin .leq (.t 28) (.c (.int .i64 120))⟩,
    ⟨some 30, none, .pick (.t 27) (.t 29) (.c (.bool false))⟩,
    ⟨some 18, none, .mov (.t 30)⟩] [0, 18])))
   (.cond (.t 18) (.seq (.region [⟨some 31, none, .bslice 2 1 [.int .u8 0] [(0, 1, .c (.int .u8 127)), (1, 1, .c (.int .u8 127))]⟩,
    ⟨some 2, none, .mov (.t 31)⟩,
    ⟨some 3, none, .mov (.c (.int .u8 127))⟩] [2, 3])
   (.ret)) (.seq (.seq (.region [⟨some 33, none, .mov (.t 0)⟩,
    ⟨some 34, none, .bin .eql (.t 33) (.c (.int .i64 80))⟩,
    ⟨some 32, none, .mov (.t 34)⟩] [0, 32])
   (.cond (.t 32) (.skip) (.region [⟨some 35, none, .mov (.t 0)⟩,
    ⟨some 36, none, .bin .eql (.t 35) (.c (.int .i64 167))⟩,
    ⟨some 32, none, .mov (.t 36)⟩] [0, 32])))
   (.cond (.t 32) (.seq (.region [⟨some 37, none, .bslice 1 1 [.int .u8 0] [(0, 1, .c (.int .u8 126))]⟩,
    ⟨some 2, none, .mov (.t 37)⟩,
    ⟨some 3, none, .mov (.c (.int .u8 127))⟩] [2, 3])
   (.ret)) (.seq (.region [⟨some 39, none, .mov (.t 0)⟩,
    ⟨some 40, none, .bin .geq (.t 39) (.c (.int .i64 81))⟩,
    ⟨some 41, none, .mov (.t 40)⟩,
    ⟨some 42, some (41, true), .mov (.t 0)⟩,
    ⟨some 43, some (41, true), .bin .leq (.t 42) (.c (.int .i64 90))⟩,
    ⟨some 44, none, .pick (.t 41) (.t 43) (.c (.bool false))⟩,
    ⟨some 38, none, .mov (.t 44)⟩] [0, 38])
   (.cond (.t 38) (.seq (.region [⟨some 45, none, .bslice 2 1 [.int .u8 0] [(0, 1, .c (.int .u8 126)), (1, 1, .c (.int .u8 126))]⟩,
    ⟨some 2, none, .mov (.t 45)⟩,
    ⟨some 3, none, .mov (.c (.int .u8 127))⟩] [2, 3])
   (.ret)) (.seq (.seq (.region [⟨some 47, none, .mov (.t 0)⟩,
    ⟨some 48, none, .bin .geq (.t 47) (.c (.int .i64 121))⟩,
    ⟨some 49, none, .mov (.t 48)⟩,
    ⟨some 50, some (49, true), .mov (.t 0)⟩,
    ⟨some 51, some (49, true), .bin .leq (.t 50) (.c (.int .i64 123))⟩,
    ⟨some 52, none, .pick (.t 49) (.t 51) (.c (.bool false))⟩,
    ⟨some 46, none, .mov (.t 52)⟩] [0, 46])
   (.cond (.t 46) (.skip) (.region [⟨some 53, none, .mov (.t 0)⟩,
    ⟨some 54, none, .bin .geq (.t 53) (.c (.int .i64 194))⟩,
    ⟨some 55, none, .mov (.t 54)⟩,
    ⟨some 56, some (55, true), .mov (.t 0)⟩,
    ⟨some 57, some (55, true), .bin .leq (.t 56) (.c (.int .i64 196))⟩,
    ⟨some 58, none, .pick (.t 55) (.t 57) (.c (.bool false))⟩,
    ⟨some 46, none, .mov (.t 58)⟩] [0, 46])))
   (.cond (.t 46) (.seq (.region [⟨some 59, none, .bslice 1 1 [.int .u8 0] [(0, 1, .c (.int .u8 126))]⟩,
    ⟨some 2, none, .mov (.t 59)⟩,
    ⟨some 3, none, .mov (.c (.int .u8 126))⟩] [2, 3])
   (.ret)) (.seq (.region [⟨some 61, none, .mov (.t 0)⟩,
    ⟨some 62, none, .bin .geq (.t 61) (.c (.int .i64 124))⟩,
    ⟨some 63, none, .mov (.t 62)⟩,
    ⟨some 64, some (63, true), .mov (.t 0)⟩,
    ⟨some 65, some (63, true), .bin .leq (.t 64) (.c (.int .i64 138))⟩,
    ⟨some 66, none, .pick (.t 63) (.t 65) (.c (.bool false))⟩,
    ⟨some 60, none, .mov (.t 66)⟩] [0, 60])
   (.cond (.t 60) (.seq (.region [⟨some 67, none, .bslice 2 1 [.int .u8 0] [(0, 1, .c (.int .u8 126)), (1, 1, .c (.int .u8 126))]⟩,
    ⟨some 2, none, .mov (.t 67)⟩,
    ⟨some 3, none, .mov (.c (.int .u8 126))⟩] [2, 3])
   (.ret)) (.seq (.seq (.region [⟨some 69, none, .mov (.t 0)⟩,
    ⟨some 70, none, .bin .eql (.t 69) (.c (.int .i64 172))⟩,
    ⟨some 68, none, .mov (.t 70)⟩] [0, 68])
   (.cond (.t 68) (.skip) (.region [⟨some 71, none, .mov (.t 0)⟩,
    ⟨some 72, none, .bin .eql (.t 71) (.c (.int .i64 173))⟩,
    ⟨some 68, none, .mov (.t 72)⟩] [68])))
   (.cond (.t 68) (.seq (.region [⟨some 73, none, .bslice 1 1 [.int .u8 0] [(0, 1, .c (.int .u8 127))]⟩,
    ⟨some 2, none, .mov (.t 73)⟩,
    ⟨some 3, none, .mov (.c (.int .u8 126))⟩] [2, 3])
   (.ret)) (.skip))))))))))))))))
   (.seq (.region [⟨some 2, none, .mov (.c (.slice none 0 0))⟩,
    ⟨some 3, none, .mov (.c (.int .u8 0))⟩] [2, 3])
   (.ret))),
  [.t 2, .t 3], 74, 1⟩
def A99 : Ann := ⟨[(0, [0]), (1, [0, 4]), (2, [0, 4]), (3, [0, 4]), (4, [0, 4]), (5, [2, 3]), (6, [0, 18]), (7, [0, 18]), (8, [2, 3]), (9, [0, 32]), (10, [0, 32]), (11, [2, 3]), (12, [0, 38]), (13, [2, 3]), (14, [0, 46]), (15, [0, 46]), (16, [2, 3]), (17, [0, 60]), (18, [2, 3]), (19, [0, 68]), (20, [68]), (21, [2, 3]), (22, [2, 3])], []⟩
set_option maxRecDepth 100000 in
theorem F99.ok : compF Try.prog A99 Try.f99 = some F99 := by kernel_rfl
theorem F99.fok : FOk Try.prog 99 F99 := fok_of mixed Try.func99 F99.ok

/-- (*cloakroom/val.checker).fails -/
def F100 : SFn := ⟨.region [⟨some 4, none, .mov (.t 0)⟩,
    ⟨some 5, none, .mov (.t 0)⟩,
    ⟨some 6, none, .nilc (.t 5)⟩,
    ⟨some 7, none, .fa 4 (.t 6)⟩,
    ⟨some 8, none, .ld 1 false (.t 7)⟩,
    ⟨some 9, none, .mov (.t 8)⟩,
    ⟨some 10, some (9, false), .mov (.t 1)⟩,
    ⟨some 11, none, .pick (.t 9) (.c (.bool true)) (.t 10)⟩,
    ⟨some 12, none, .nilc (.t 4)⟩,
    ⟨some 13, none, .fa 4 (.t 12)⟩,
    ⟨none, none, .st 1 (.t 13) (.t 11)⟩] [],
  [], 14, 2⟩
def A100 : Ann := ⟨[(0, [])], []⟩
set_option maxRecDepth 100000 in
theorem F100.ok : compF Try.prog A100 Try.f100 = some F100 := by kernel_rfl
theorem F100.fok : FOk Try.prog 100 F100 := fok_of mixed Try.func100 F100.ok

/-- (*cloakroom/val.checker).take -/
def F101 : SFn := ⟨.seq (.region [⟨some 4, none, .mov (.c (.slice none 0 0))⟩] [0, 1])
   (.seq (.region [⟨some 7, none, .mov (.t 1)⟩,
    ⟨some 8, none, .lenV (.t 7)⟩,
    ⟨some 9, none, .mkSl 1 1 [.int .u8 0] (.t 8) (.t 8)⟩,
    ⟨some 5, none, .mov (.t 9)⟩] [0, 1, 5])
   (.seq (.seq (.region [⟨some 10, none, .mov (.t 1)⟩,
    ⟨some 11, none, .lenV (.t 10)⟩,
    ⟨some 12, none, .bin .sub (.t 11) (.c (.int .i64 1))⟩,
    ⟨some 6, none, .mov (.t 12)⟩] [0, 1, 5, 6])
   (.block 0 (.loop (.seq (.seq (.region [⟨some 13, none, .mov (.t 6)⟩,
    ⟨some 14, none, .bin .geq (.t 13) (.c (.int .i64 0))⟩] [0, 1, 5, 6, 14])
   (.cond (.t 14) (.skip) (.exit 0)))
   (.seq (.block 1 (.region [⟨some 17, none, .mov (.t 5)⟩,
    ⟨some 18, none, .mov (.t 6)⟩,
    ⟨some 19, none, .mov (.t 0)⟩,
    ⟨some 20, none, .mov (.t 1)⟩,
    ⟨some 21, none, .mov (.t 6)⟩,
    ⟨some 22, none, .iaV 1 (.t 20) (.t 21)⟩,
    ⟨some 23, none, .ld 1 false (.t 22)⟩,
    ⟨some 24, none, .call 135 [.t 19, .t 23]⟩,
    ⟨some 25, none, .iaV 1 (.t 17) (.t 18)⟩,
    ⟨none, none, .st 1 (.t 25) (.t 24)⟩] [0, 1, 5, 6]))
   (.region [⟨some 15, none, .mov (.t 6)⟩,
    ⟨some 16, none, .bin .sub (.t 15) (.c (.int .i64 1))⟩,
    ⟨some 6, none, .mov (.t 16)⟩] [0, 1, 5, 6]))))))
   (.seq (.region [⟨some 26, none, .mov (.t 5)⟩,
    ⟨some 4, none, .mov (.t 26)⟩] [4])
   (.ret)))),
  [.t 4], 27, 2⟩
def A101 : Ann := ⟨[(0, [0, 1]), (1, [0, 1, 5]), (2, [0, 1, 5, 6]), (3, [0, 1, 5, 6, 14]), (4, [0, 1, 5, 6]), (5, [0, 1, 5, 6]), (6, [4])], []⟩
set_option maxRecDepth 100000 in
theorem F101.ok : compF Try.prog A101 Try.f101 = some F101 := by kernel_rfl
theorem F101.fok : FOk Try.prog 101 F101 := fok_of mixed Try.func101 F101.ok

/-- cloakroom/val.Declared -/
def F120 : SFn := ⟨.seq (.region [⟨some 1, none, .box (.t 0)⟩,
    ⟨some 2, none, .mov (.c (.slice none 0 0))⟩] [1])
   (.seq (.region [⟨some 14, none, .fa 1 (.t 1)⟩,
    ⟨some 15, none, .ld 1 false (.t 14)⟩,
    ⟨some 16, none, .lenV (.t 15)⟩,
    ⟨some 17, none, .mkSl 1 1 [.bool false] (.t 16) (.t 16)⟩,
    ⟨some 3, none, .new [.slice none 0 0]⟩,
    ⟨none, none, .st 1 (.t 3) (.t 17)⟩] [1, 3])
   (.seq (.region [⟨some 18, none, .mkF (.func 158) [] [.t 3]⟩,
    ⟨some 4, none, .new [.nilFunc]⟩,
    ⟨none, none, .st 1 (.t 4) (.t 18)⟩] [1, 3, 4])
   (.seq (.region [⟨some 19, none, .mkF (.func 159) [] [.t 4]⟩,
    ⟨some 5, none, .mov (.t 19)⟩] [1, 3, 4, 5])
   (.seq (.seq (.region [⟨some 20, none, .fa 4 (.t 1)⟩,
    ⟨some 21, none, .ld 1 false (.t 20)⟩,
    ⟨some 22, none, .lenV (.t 21)⟩,
    ⟨some 23, none, .mov (.c (.int .i64 0))⟩] [1, 3, 4, 5, 21, 22, 23])
   (.block 0 (.loop (.seq (.region [⟨some 24, none, .bin .lss (.t 23) (.t 22)⟩] [1, 3, 4, 5, 21, 22, 23, 24])
   (.seq (.cond (.t 24) (.skip) (.exit 0))
   (.seq (.block 1 (.seq (.region [⟨some 25, none, .iaV 3 (.t 21) (.t 23)⟩,
    ⟨some 26, none, .ld 3 true (.t 25)⟩,
    ⟨some 7, none, .new [.int .u8 0, .bool false, .slice none 0 0]⟩,
    ⟨none, none, .st 3 (.t 7) (.t 26)⟩] [1, 3, 4, 5, 7, 21, 22, 23])
   (.region [⟨some 27, none, .mov (.t 5)⟩,
    ⟨some 28, none, .fa 2 (.t 7)⟩,
    ⟨some 29, none, .ld 1 false (.t 28)⟩,
    ⟨some 30, none, .callv (.t 27) [.t 29]⟩] [1, 3, 4, 5, 21, 22, 23])))
   (.region [⟨some 31, none, .bin .add (.t 23) (.c (.int .i64 1))⟩,
    ⟨some 23, none, .mov (.t 31)⟩] [1, 3, 4, 5, 21, 22, 23])))))))
   (.seq (.seq (.region [⟨some 32, none, .fa 8 (.t 1)⟩,
    ⟨some 33, none, .ld 1 false (.t 32)⟩,
    ⟨some 34, none, .lenV (.t 33)⟩,
    ⟨some 35, none, .mov (.c (.int .i64 0))⟩] [1, 3, 4, 5, 33, 34, 35])
   (.block 2 (.loop (.seq (.region [⟨some 36, none, .bin .lss (.t 35) (.t 34)⟩] [1, 3, 4, 5, 33, 34, 35, 36])
   (.seq (.cond (.t 36) (.skip) (.exit 2))
   (.seq (.block 3 (.seq (.region [⟨some 37, none, .iaV 5 (.t 33) (.t 35)⟩,
    ⟨some 38, none, .ld 5 true (.t 37)⟩,
    ⟨some 9, none, .new [.int .u8 0, .int .u8 0, .int .u32 0, .slice none 0 0, .slice none 0 0]⟩,
    ⟨none, none, .st 5 (.t 9) (.t 38)⟩] [1, 3, 4, 5, 9, 33, 34, 35])
   (.seq (.region [⟨some 39, none, .fa 4 (.t 9)⟩,
    ⟨some 40, none, .ld 1 false (.t 39)⟩,
    ⟨some 41, none, .lenV (.t 40)⟩,
    ⟨some 42, none, .mov (.c (.int .i64 0))⟩] [1, 3, 4, 5, 33, 34, 35, 40, 41, 42])
   (.block 4 (.loop (.seq (.region [⟨some 43, none, .bin .lss (.t 42) (.t 41)⟩] [1, 3, 4, 5, 33, 34, 35, 40, 41, 42, 43])
   (.seq (.cond (.t 43) (.skip) (.exit 4))
   (.seq (.block 5 (.seq (.region [⟨some 44, none, .iaV 1 (.t 40) (.t 42)⟩,
    ⟨some 45, none, .ld 1 false (.t 44)⟩,
    ⟨some 11, none, .mov (.t 45)⟩] [1, 3, 4, 5, 11, 33, 34, 35, 40, 41, 42])
   (.region [⟨some 46, none, .mov (.t 5)⟩,
    ⟨some 47, none, .mov (.t 11)⟩,
    ⟨some 48, none, .callv (.t 46) [.t 47]⟩] [1, 3, 4, 5, 33, 34, 35, 40, 41, 42])))
   (.region [⟨some 49, none, .bin .add (.t 42) (.c (.int .i64 1))⟩,
    ⟨some 42, none, .mov (.t 49)⟩] [1, 3, 4, 5, 33, 34, 35, 40, 41, 42])))))))))
   (.region [⟨some 50, none, .bin .add (.t 35) (.c (.int .i64 1))⟩,
    ⟨some 35, none, .mov (.t 50)⟩] [1, 3, 4, 5, 33, 34, 35])))))))
   (.seq (.seq (.region [⟨some 51, none, .fa 5 (.t 1)⟩,
    ⟨some 52, none, .ld 1 false (.t 51)⟩,
    ⟨some 53, none, .lenV (.t 52)⟩,
    ⟨some 54, none, .mov (.c (.int .i64 0))⟩] [3, 4, 52, 53, 54])
   (.block 6 (.loop (.seq (.region [⟨some 55, none, .bin .lss (.t 54) (.t 53)⟩] [3, 4, 52, 53, 54, 55])
   (.seq (.cond (.t 55) (.skip) (.exit 6))
   (.seq (.block 7 (.seq (.region [⟨some 56, none, .iaV 3 (.t 52) (.t 54)⟩,
    ⟨some 57, none, .ld 3 true (.t 56)⟩,
    ⟨some 13, none, .new [.string ByteArray.empty, .int .u8 0, .int .u32 0]⟩,
    ⟨none, none, .st 3 (.t 13) (.t 57)⟩] [3, 4, 13, 52, 53, 54])
   (.seq (.region [⟨some 58, none, .fa 1 (.t 13)⟩,
    ⟨some 59, none, .ld 1 false (.t 58)⟩,
    ⟨some 60, none, .bin .eql (.t 59) (.c (.int .u8 0))⟩] [3, 4, 13, 52, 53, 54, 60])
   (.cond (.t 60) (.region [⟨some 61, none, .ld 1 false (.t 4)⟩,
    ⟨some 62, none, .fa 2 (.t 13)⟩,
    ⟨some 63, none, .ld 1 false (.t 62)⟩,
    ⟨some 64, none, .callv (.t 61) [.t 63]⟩] [3, 4, 52, 53, 54]) (.skip)))))
   (.region [⟨some 65, none, .bin .add (.t 54) (.c (.int .i64 1))⟩,
    ⟨some 54, none, .mov (.t 65)⟩] [3, 4, 52, 53, 54])))))))
   (.seq (.region [⟨some 66, none, .ld 1 false (.t 3)⟩,
    ⟨some 2, none, .mov (.t 66)⟩] [2])
   (.ret)))))))),
  [.t 2], 67, 1⟩
def A120 : Ann := ⟨[(0, [1]), (1, [1, 3]), (2, [1, 3, 4]), (3, [1, 3, 4, 5]), (4, [1, 3, 4, 5, 21, 22, 23]), (5, [1, 3, 4, 5, 21, 22, 23, 24]), (6, [1, 3, 4, 5, 7, 21, 22, 23]), (7, [1, 3, 4, 5, 21, 22, 23]), (8, [1, 3, 4, 5, 21, 22, 23]), (9, [1, 3, 4, 5, 33, 34, 35]), (10, [1, 3, 4, 5, 33, 34, 35, 36]), (11, [1, 3, 4, 5, 9, 33, 34, 35]), (12, [1, 3, 4, 5, 33, 34, 35, 40, 41, 42]), (13, [1, 3, 4, 5, 33, 34, 35, 40, 41, 42, 43]), (14, [1, 3, 4, 5, 11, 33, 34, 35, 40, 41, 42]), (15, [1, 3, 4, 5, 33, 34, 35, 40, 41, 42]), (16, [1, 3, 4, 5, 33, 34, 35, 40, 41, 42]), (17, [1, 3, 4, 5, 33, 34, 35]), (18, [3, 4, 52, 53, 54]), (19, [3, 4, 52, 53, 54, 55]), (20, [3, 4, 13, 52, 53, 54]), (21, [3, 4, 13, 52, 53, 54, 60]), (22, [3, 4, 52, 53, 54]), (23, [3, 4, 52, 53, 54]), (24, [2])], []⟩
set_option maxRecDepth 100000 in
theorem F120.ok : compF Try.prog A120 Try.f120 = some F120 := by kernel_rfl
theorem F120.fok : FOk Try.prog 120 F120 := fok_of mixed Try.func120 F120.ok

/-- (*cloakroom/val.checker).rests -/
def F134 : SFn := ⟨.seq (.region [⟨some 3, none, .mov (.t 0)⟩,
    ⟨some 4, none, .call 165 [.t 3]⟩,
    ⟨some 2, none, .mov (.t 4)⟩] [0, 2])
   (.seq (.region [⟨some 5, none, .mov (.t 0)⟩,
    ⟨some 6, none, .mov (.t 0)⟩,
    ⟨some 7, none, .nilc (.t 6)⟩,
    ⟨some 8, none, .fa 0 (.t 7)⟩,
    ⟨some 9, none, .fa 0 (.t 8)⟩,
    ⟨some 10, none, .ld 1 false (.t 9)⟩,
    ⟨some 11, none, .mov (.t 2)⟩,
    ⟨some 12, none, .nilc (.t 11)⟩,
    ⟨some 13, none, .fa 3 (.t 12)⟩,
    ⟨some 14, none, .ld 1 false (.t 13)⟩,
    ⟨some 15, none, .slV 1 (.t 10) none (some (.t 14)) none⟩,
    ⟨some 16, none, .nilc (.t 5)⟩,
    ⟨some 17, none, .fa 0 (.t 16)⟩,
    ⟨some 18, none, .fa 0 (.t 17)⟩,
    ⟨none, none, .st 1 (.t 18) (.t 15)⟩] [2])
   (.region [⟨some 19, none, .mov (.t 2)⟩,
    ⟨some 20, none, .nilc (.t 19)⟩,
    ⟨some 21, none, .fa 4 (.t 20)⟩,
    ⟨none, none, .st 1 (.t 21) (.c (.bool true))⟩] [])),
  [], 22, 1⟩
def A134 : Ann := ⟨[(0, [0, 2]), (1, [2]), (2, [])], [(1, [(0, []), (1, []), (2, []), (3, []), (4, []), (5, []), (6, []), (7, []), (8, []), (9, []), (10, []), (11, []), (12, []), (13, []), (14, [])], [(2, [1]), (3, [1, 2]), (4, [1, 2, 3]), (5, [1, 2, 3, 4]), (7, [6]), (8, [6, 7]), (9, [6, 7, 8]), (10, [1, 2, 3, 4, 5, 6, 7, 8, 9]), (11, [0, 1, 2, 3, 4, 5, 6, 7, 8, 9, 10]), (12, [0, 1, 2, 3, 4, 5, 6, 7, 8, 9, 10, 11]), (13, [0, 1, 2, 3, 4, 5, 6, 7, 8, 9, 10, 11, 12]), (14, [0, 1, 2, 3, 4, 5, 6, 7, 8, 9, 10, 11, 12, 13])])]⟩
set_option maxRecDepth 100000 in
theorem F134.ok : compF Try.prog A134 Try.f134 = some F134 := by kernel_rfl
theorem F134.fok : FOk Try.prog 134 F134 := fok_of mixed Try.func134 F134.ok

/-- (*cloakroom/val.checker).want -/
def F135 : SFn := ⟨.seq (.region [⟨some 4, none, .mov (.c (.int .u8 0))⟩] [0, 1])
   (.seq (.region [⟨some 6, none, .mov (.t 0)⟩,
    ⟨some 7, none, .call 144 [.t 6]⟩,
    ⟨some 5, none, .mov (.t 7)⟩] [0, 1, 5])
   (.seq (.region [⟨some 8, none, .mov (.t 0)⟩,
    ⟨some 9, none, .mov (.t 5)⟩,
    ⟨some 10, none, .mov (.t 1)⟩,
    ⟨some 11, none, .bin .neq (.t 9) (.t 10)⟩,
    ⟨some 12, none, .mov (.t 11)⟩,
    ⟨some 13, some (12, true), .mov (.t 5)⟩,
    ⟨some 14, some (12, true), .bin .neq (.t 13) (.c (.int .u8 0))⟩,
    ⟨some 15, none, .pick (.t 12) (.t 14) (.c (.bool false))⟩,
    ⟨some 16, none, .mov (.t 15)⟩,
    ⟨some 17, some (16, true), .mov (.t 1)⟩,
    ⟨some 18, some (16, true), .bin .neq (.t 17) (.c (.int .u8 0))⟩,
    ⟨some 19, none, .pick (.t 16) (.t 18) (.c (.bool false))⟩,
    ⟨some 20, none, .call 100 [.t 8, .t 19]⟩] [5])
   (.seq (.region [⟨some 21, none, .mov (.t 5)⟩,
    ⟨some 4, none, .mov (.t 21)⟩] [4])
   (.ret)))),
  [.t 4], 22, 2⟩
def A135 : Ann := ⟨[(0, [0, 1]), (1, [0, 1, 5]), (2, [5]), (3, [4])], []⟩
set_option maxRecDepth 100000 in
theorem F135.ok : compF Try.prog A135 Try.f135 = some F135 := by kernel_rfl
theorem F135.fok : FOk Try.prog 135 F135 := fok_of mixed Try.func135 F135.ok

/-- (*cloakroom/val.checker).signature -/
def F136 : SFn := ⟨.seq (.region [⟨some 4, none, .mov (.c (.slice none 0 0))⟩,
    ⟨some 5, none, .mov (.c (.slice none 0 0))⟩] [0, 1])
   (.seq (.block 0 (.seq (.region [⟨some 7, none, .mov (.t 1)⟩,
    ⟨some 8, none, .bin .eql (.t 7) (.c (.int .i64 (-64)))⟩,
    ⟨some 6, none, .mov (.t 8)⟩] [0, 1, 6])
   (.cond (.t 6) (.seq (.region [⟨some 4, none, .mov (.c (.slice none 0 0))⟩,
    ⟨some 5, none, .mov (.c (.slice none 0 0))⟩] [4, 5])
   (.ret)) (.seq (.region [⟨some 10, none, .mov (.t 1)⟩,
    ⟨some 11, none, .bin .lss (.t 10) (.c (.int .i64 0))⟩,
    ⟨some 9, none, .mov (.t 11)⟩] [0, 1, 9])
   (.cond (.t 9) (.seq (.region [⟨some 12, none, .mov (.t 1)⟩,
    ⟨some 13, none, .bin .add (.t 12) (.c (.int .i64 128))⟩,
    ⟨some 14, none, .conv .u8 (.t 13)⟩,
    ⟨some 15, none, .bslice 1 1 [.int .u8 0] [(0, 1, .t 14)]⟩,
    ⟨some 4, none, .mov (.c (.slice none 0 0))⟩,
    ⟨some 5, none, .mov (.t 15)⟩] [4, 5])
   (.ret)) (.skip))))))
   (.seq (.region [⟨some 16, none, .mov (.t 0)⟩,
    ⟨some 17, none, .mov (.t 1)⟩,
    ⟨some 18, none, .conv .u64 (.t 17)⟩,
    ⟨some 19, none, .call 143 [.t 16, .t 18]⟩,
    ⟨some 20, none, .ext (.t 19) 0⟩,
    ⟨some 21, none, .ext (.t 19) 1⟩,
    ⟨some 4, none, .mov (.t 20)⟩,
    ⟨some 5, none, .mov (.t 21)⟩] [4, 5])
   (.ret))),
  [.t 4, .t 5], 22, 2⟩
def A136 : Ann := ⟨[(0, [0, 1]), (1, [0, 1, 6]), (2, [4, 5]), (3, [0, 1, 9]), (4, [4, 5]), (5, [4, 5])], []⟩
set_option maxRecDepth 100000 in
theorem F136.ok : compF Try.prog A136 Try.f136 = some F136 := by kernel_rfl
theorem F136.fok : FOk Try.prog 136 F136 := fok_of mixed Try.func136 F136.ok

/-- (*cloakroom/val.checker).closes -/
def F137 : SFn := ⟨.seq (.region [⟨some 2, none, .new [.int .i64 0, .slice none 0 0, .slice none 0 0, .int .i64 0, .bool false]⟩] [0, 2])
   (.seq (.region [⟨some 4, none, .mov (.t 0)⟩,
    ⟨some 5, none, .call 165 [.t 4]⟩,
    ⟨some 6, none, .nilc (.t 5)⟩,
    ⟨some 7, none, .ld 5 true (.t 6)⟩,
    ⟨some 3, none, .new [.int .i64 0, .slice none 0 0, .slice none 0 0, .int .i64 0, .bool false]⟩,
    ⟨none, none, .st 5 (.t 3) (.t 7)⟩] [0, 2, 3])
   (.seq (.region [⟨some 8, none, .mov (.t 0)⟩,
    ⟨some 9, none, .fa 2 (.t 3)⟩,
    ⟨some 10, none, .ld 1 false (.t 9)⟩,
    ⟨some 11, none, .call 101 [.t 8, .t 10]⟩] [0, 2, 3])
   (.seq (.region [⟨some 12, none, .mov (.t 0)⟩,
    ⟨some 13, none, .mov (.t 0)⟩,
    ⟨some 14, none, .nilc (.t 13)⟩,
    ⟨some 15, none, .fa 0 (.t 14)⟩,
    ⟨some 16, none, .fa 0 (.t 15)⟩,
    ⟨some 17, none, .ld 1 false (.t 16)⟩,
    ⟨some 18, none, .lenV (.t 17)⟩,
    ⟨some 19, none, .fa 3 (.t 3)⟩,
    ⟨some 20, none, .ld 1 false (.t 19)⟩,
    ⟨some 21, none, .bin .neq (.t 18) (.t 20)⟩,
    ⟨some 22, none, .call 100 [.t 12, .t 21]⟩] [0, 2, 3])
   (.seq (.region [⟨some 23, none, .mov (.t 0)⟩,
    ⟨some 24, none, .mov (.t 0)⟩,
    ⟨some 25, none, .nilc (.t 24)⟩,
    ⟨some 26, none, .fa 0 (.t 25)⟩,
    ⟨some 27, none, .fa 0 (.t 26)⟩,
    ⟨some 28, none, .ld 1 false (.t 27)⟩,
    ⟨some 29, none, .fa 3 (.t 3)⟩,
    ⟨some 30, none, .ld 1 false (.t 29)⟩,
    ⟨some 31, none, .slV 1 (.t 28) none (some (.t 30)) none⟩,
    ⟨some 32, none, .nilc (.t 23)⟩,
    ⟨some 33, none, .fa 0 (.t 32)⟩,
    ⟨some 34, none, .fa 0 (.t 33)⟩,
    ⟨none, none, .st 1 (.t 34) (.t 31)⟩] [0, 2, 3])
   (.seq (.region [⟨some 35, none, .mov (.t 0)⟩,
    ⟨some 36, none, .mov (.t 0)⟩,
    ⟨some 37, none, .nilc (.t 36)⟩,
    ⟨some 38, none, .fa 3 (.t 37)⟩,
    ⟨some 39, none, .ld 1 false (.t 38)⟩,
    ⟨some 40, none, .mov (.t 0)⟩,
    ⟨some 41, none, .nilc (.t 40)⟩,
    ⟨some 42, none, .fa 3 (.t 41)⟩,
    ⟨some 43, none, .ld 1 false (.t 42)⟩,
    ⟨some 44, none, .lenV (.t 43)⟩,
    ⟨some 45, none, .bin .sub (.t 44) (.c (.int .i64 1))⟩,
    ⟨some 46, none, .slV 5 (.t 39) none (some (.t 45)) none⟩,
    ⟨some 47, none, .nilc (.t 35)⟩,
    ⟨some 48, none, .fa 3 (.t 47)⟩,
    ⟨none, none, .st 1 (.t 48) (.t 46)⟩] [2, 3])
   (.seq (.region [⟨some 49, none, .ld 5 true (.t 3)⟩,
    ⟨none, none, .st 5 (.t 2) (.t 49)⟩] [2])
   (.ret))))))),
  [.c 2 5 true], 50, 1⟩
def A137 : Ann := ⟨[(0, [0, 2]), (1, [0, 2, 3]), (2, [0, 2, 3]), (3, [0, 2, 3]), (4, [0, 2, 3]), (5, [2, 3]), (6, [2])], [(3, [(0, []), (1, []), (2, []), (3, []), (4, []), (5, []), (6, []), (7, []), (8, []), (9, []), (10, [])], [(2, [1]), (3, [1, 2]), (4, [1, 2, 3]), (5, [1, 2, 3, 4]), (6, [1, 2, 3, 4, 5]), (8, [7]), (9, [1, 2, 3, 4, 5, 6, 7, 8]), (10, [0, 1, 2, 3, 4, 5, 6, 7, 8, 9])]),
  (4, [(0, []), (1, []), (2, []), (3, []), (4, []), (5, []), (6, []), (7, []), (8, []), (9, []), (10, []), (11, []), (12, [])], [(2, [1]), (3, [1, 2]), (4, [1, 2, 3]), (5, [1, 2, 3, 4]), (7, [6]), (8, [1, 2, 3, 4, 5, 6, 7]), (9, [0, 1, 2, 3, 4, 5, 6, 7, 8]), (10, [0, 1, 2, 3, 4, 5, 6, 7, 8, 9]), (11, [0, 1, 2, 3, 4, 5, 6, 7, 8, 9, 10]), (12, [0, 1, 2, 3, 4, 5, 6, 7, 8, 9, 10, 11])]),
  (5, [(0, []), (1, []), (2, []), (3, []), (4, []), (5, []), (6, []), (7, []), (8, []), (9, []), (10, []), (11, []), (12, []), (13, []), (14, [])], [(2, [1]), (3, [1, 2]), (4, [1, 2, 3]), (6, [5]), (7, [5, 6]), (8, [5, 6, 7]), (9, [5, 6, 7, 8]), (10, [5, 6, 7, 8, 9]), (11, [1, 2, 3, 4, 5, 6, 7, 8, 9, 10]), (12, [0, 1, 2, 3, 4, 5, 6, 7, 8, 9, 10, 11]), (13, [0, 1, 2, 3, 4, 5, 6, 7, 8, 9, 10, 11, 12]), (14, [0, 1, 2, 3, 4, 5, 6, 7, 8, 9, 10, 11, 12, 13])])]⟩
set_option maxRecDepth 100000 in
theorem F137.ok : compF Try.prog A137 Try.f137 = some F137 := by kernel_rfl
theorem F137.fok : FOk Try.prog 137 F137 := fok_of mixed Try.func137 F137.ok

/-- slices.Equal[[]byte,byte] -/
def F138 : SFn := ⟨.seq (.region [⟨some 4, none, .mov (.c (.bool false))⟩] [0, 1])
   (.seq (.seq (.region [⟨some 6, none, .mov (.t 0)⟩,
    ⟨some 7, none, .lenV (.t 6)⟩,
    ⟨some 8, none, .mov (.t 1)⟩,
    ⟨some 9, none, .lenV (.t 8)⟩,
    ⟨some 10, none, .bin .neq (.t 7) (.t 9)⟩] [0, 1, 10])
   (.cond (.t 10) (.seq (.region [⟨some 4, none, .mov (.c (.bool false))⟩] [4])
   (.ret)) (.skip)))
   (.seq (.seq (.region [⟨some 11, none, .mov (.t 0)⟩,
    ⟨some 12, none, .lenV (.t 11)⟩,
    ⟨some 13, none, .mov (.c (.int .i64 0))⟩] [0, 1, 12, 13])
   (.block 0 (.loop (.seq (.region [⟨some 14, none, .bin .lss (.t 13) (.t 12)⟩] [0, 1, 12, 13, 14])
   (.seq (.cond (.t 14) (.skip) (.exit 0))
   (.seq (.block 1 (.seq (.region [⟨some 15, none, .mov (.t 13)⟩,
    ⟨some 5, none, .mov (.t 15)⟩] [0, 1, 5, 12, 13])
   (.seq (.region [⟨some 16, none, .mov (.t 0)⟩,
    ⟨some 17, none, .mov (.t 5)⟩,
    ⟨some 18, none, .iaV 1 (.t 16) (.t 17)⟩,
    ⟨some 19, none, .ld 1 false (.t 18)⟩,
    ⟨some 20, none, .mov (.t 1)⟩,
    ⟨some 21, none, .mov (.t 5)⟩,
    ⟨some 22, none, .iaV 1 (.t 20) (.t 21)⟩,
    ⟨some 23, none, .ld 1 false (.t 22)⟩,
    ⟨some 24, none, .bin .neq (.t 19) (.t 23)⟩] [0, 1, 12, 13, 24])
   (.cond (.t 24) (.seq (.region [⟨some 4, none, .mov (.c (.bool false))⟩] [4])
   (.ret)) (.skip)))))
   (.region [⟨some 25, none, .bin .add (.t 13) (.c (.int .i64 1))⟩,
    ⟨some 13, none, .mov (.t 25)⟩] [0, 1, 12, 13])))))))
   (.seq (.region [⟨some 4, none, .mov (.c (.bool true))⟩] [4])
   (.ret)))),
  [.t 4], 26, 2⟩
def A138 : Ann := ⟨[(0, [0, 1]), (1, [0, 1, 10]), (2, [4]), (3, [0, 1, 12, 13]), (4, [0, 1, 12, 13, 14]), (5, [0, 1, 5, 12, 13]), (6, [0, 1, 12, 13, 24]), (7, [4]), (8, [0, 1, 12, 13]), (9, [4])], [(6, [(0, []), (1, []), (2, []), (3, []), (4, []), (5, []), (6, []), (7, []), (8, [])], [(2, [0, 1]), (3, [0, 1, 2]), (6, [4, 5]), (7, [4, 5, 6]), (8, [0, 1, 2, 3, 4, 5, 6, 7])])]⟩
set_option maxRecDepth 100000 in
theorem F138.ok : compF Try.prog A138 Try.f138 = some F138 := by kernel_rfl
theorem F138.fok : FOk Try.prog 138 F138 := fok_of mixed Try.func138 F138.ok

/-- (*cloakroom/val.checker).label -/
def F139 : SFn := ⟨.seq (.region [⟨some 4, none, .mov (.c (.slice none 0 0))⟩] [0, 1])
   (.seq (.seq (.region [⟨some 5, none, .mov (.t 1)⟩,
    ⟨some 6, none, .mov (.t 0)⟩,
    ⟨some 7, none, .nilc (.t 6)⟩,
    ⟨some 8, none, .fa 3 (.t 7)⟩,
    ⟨some 9, none, .ld 1 false (.t 8)⟩,
    ⟨some 10, none, .lenV (.t 9)⟩,
    ⟨some 11, none, .call 91 [.t 5, .t 10]⟩,
    ⟨some 12, none, .un .not (.t 11)⟩] [0, 1, 12])
   (.cond (.t 12) (.seq (.region [⟨some 13, none, .mov (.t 0)⟩,
    ⟨some 14, none, .call 100 [.t 13, .c (.bool true)]⟩] [])
   (.seq (.region [⟨some 4, none, .mov (.c (.slice none 0 0))⟩] [4])
   (.ret))) (.skip)))
   (.seq (.region [⟨some 15, none, .mov (.t 0)⟩,
    ⟨some 16, none, .nilc (.t 15)⟩,
    ⟨some 17, none, .fa 3 (.t 16)⟩,
    ⟨some 18, none, .ld 1 false (.t 17)⟩,
    ⟨some 19, none, .mov (.t 0)⟩,
    ⟨some 20, none, .nilc (.t 19)⟩,
    ⟨some 21, none, .fa 3 (.t 20)⟩,
    ⟨some 22, none, .ld 1 false (.t 21)⟩,
    ⟨some 23, none, .lenV (.t 22)⟩,
    ⟨some 24, none, .bin .sub (.t 23) (.c (.int .i64 1))⟩,
    ⟨some 25, none, .mov (.t 1)⟩,
    ⟨some 26, none, .conv .i64 (.t 25)⟩,
    ⟨some 27, none, .bin .sub (.t 24) (.t 26)⟩,
    ⟨some 28, none, .iaV 5 (.t 18) (.t 27)⟩,
    ⟨some 29, none, .ld 5 true (.t 28)⟩,
    ⟨some 30, none, .call 166 [.t 29]⟩,
    ⟨some 4, none, .mov (.t 30)⟩] [4])
   (.ret))),
  [.t 4], 31, 2⟩
def A139 : Ann := ⟨[(0, [0, 1]), (1, [0, 1, 12]), (2, []), (3, [4]), (4, [4])], [(4, [(0, []), (1, []), (2, []), (3, []), (4, []), (5, []), (6, []), (7, []), (8, []), (9, []), (10, []), (11, []), (12, []), (13, []), (14, []), (15, []), (16, [])], [(1, [0]), (2, [0, 1]), (3, [0, 1, 2]), (5, [4]), (6, [4, 5]), (7, [4, 5, 6]), (8, [4, 5, 6, 7]), (9, [4, 5, 6, 7, 8]), (11, [10]), (12, [4, 5, 6, 7, 8, 9, 10, 11]), (13, [0, 1, 2, 3, 4, 5, 6, 7, 8, 9, 10, 11, 12]), (14, [0, 1, 2, 3, 4, 5, 6, 7, 8, 9, 10, 11, 12, 13]), (15, [0, 1, 2, 3, 4, 5, 6, 7, 8, 9, 10, 11, 12, 13, 14]), (16, [0, 1, 2, 3, 4, 5, 6, 7, 8, 9, 10, 11, 12, 13, 14, 15])])]⟩
set_option maxRecDepth 100000 in
theorem F139.ok : compF Try.prog A139 Try.f139 = some F139 := by kernel_rfl
theorem F139.fok : FOk Try.prog 139 F139 := fok_of mixed Try.func139 F139.ok

/-- (*cloakroom/val.checker).branches -/
def F140 : SFn := ⟨.seq (.region [⟨some 3, none, .box (.t 1)⟩] [0, 3])
   (.seq (.region [⟨some 8, none, .mov (.t 0)⟩,
    ⟨some 9, none, .call 135 [.t 8, .c (.int .u8 127)]⟩] [0, 3])
   (.seq (.region [⟨some 10, none, .mov (.t 0)⟩,
    ⟨some 11, none, .fa 1 (.t 3)⟩,
    ⟨some 12, none, .ld 1 false (.t 11)⟩,
    ⟨some 13, none, .call 139 [.t 10, .t 12]⟩,
    ⟨some 4, none, .mov (.t 13)⟩] [0, 3, 4])
   (.seq (.seq (.region [⟨some 14, none, .fa 4 (.t 3)⟩,
    ⟨some 15, none, .ld 1 false (.t 14)⟩,
    ⟨some 16, none, .lenV (.t 15)⟩,
    ⟨some 17, none, .mov (.c (.int .i64 0))⟩] [0, 4, 15, 16, 17])
   (.block 0 (.loop (.seq (.region [⟨some 18, none, .bin .lss (.t 17) (.t 16)⟩] [0, 4, 15, 16, 17, 18])
   (.seq (.cond (.t 18) (.skip) (.exit 0))
   (.seq (.block 1 (.seq (.region [⟨some 19, none, .iaV 1 (.t 15) (.t 17)⟩,
    ⟨some 20, none, .ld 1 false (.t 19)⟩,
    ⟨some 6, none, .mov (.t 20)⟩] [0, 4, 6, 15, 16, 17])
   (.seq (.region [⟨some 21, none, .mov (.t 0)⟩,
    ⟨some 22, none, .mov (.t 6)⟩,
    ⟨some 23, none, .call 139 [.t 21, .t 22]⟩,
    ⟨some 7, none, .mov (.t 23)⟩] [0, 4, 7, 15, 16, 17])
   (.seq (.region [⟨some 24, none, .mov (.t 0)⟩,
    ⟨some 25, none, .mov (.t 7)⟩,
    ⟨some 26, none, .lenV (.t 25)⟩,
    ⟨some 27, none, .mov (.t 4)⟩,
    ⟨some 28, none, .lenV (.t 27)⟩,
    ⟨some 29, none, .bin .neq (.t 26) (.t 28)⟩,
    ⟨some 30, none, .call 100 [.t 24, .t 29]⟩] [0, 4, 7, 15, 16, 17])
   (.region [⟨some 31, none, .mov (.t 0)⟩,
    ⟨some 32, none, .nilc (.t 31)⟩,
    ⟨some 33, none, .fa 0 (.t 32)⟩,
    ⟨some 34, none, .mov (.t 0)⟩,
    ⟨some 35, none, .mov (.t 7)⟩,
    ⟨some 36, none, .call 101 [.t 34, .t 35]⟩,
    ⟨some 37, none, .call 93 [.t 33, .t 36]⟩] [0, 4, 15, 16, 17])))))
   (.region [⟨some 38, none, .bin .add (.t 17) (.c (.int .i64 1))⟩,
    ⟨some 17, none, .mov (.t 38)⟩] [0, 4, 15, 16, 17])))))))
   (.seq (.region [⟨some 39, none, .mov (.t 0)⟩,
    ⟨some 40, none, .mov (.t 4)⟩,
    ⟨some 41, none, .call 101 [.t 39, .t 40]⟩] [0])
   (.region [⟨some 42, none, .mov (.t 0)⟩,
    ⟨some 43, none, .call 134 [.t 42]⟩] []))))),
  [], 44, 2⟩
def A140 : Ann := ⟨[(0, [0, 3]), (1, [0, 3]), (2, [0, 3, 4]), (3, [0, 4, 15, 16, 17]), (4, [0, 4, 15, 16, 17, 18]), (5, [0, 4, 6, 15, 16, 17]), (6, [0, 4, 7, 15, 16, 17]), (7, [0, 4, 7, 15, 16, 17]), (8, [0, 4, 15, 16, 17]), (9, [0, 4, 15, 16, 17]), (10, [0]), (11, [])], [(8, [(0, []), (1, []), (2, []), (3, []), (4, []), (5, []), (6, [])], [(1, [0]), (2, [0, 1]), (5, [3, 4]), (6, [0, 1, 2, 3, 4, 5])])]⟩
set_option maxRecDepth 100000 in
theorem F140.ok : compF Try.prog A140 Try.f140 = some F140 := by kernel_rfl
theorem F140.fok : FOk Try.prog 140 F140 := fok_of mixed Try.func140 F140.ok

/-- (*cloakroom/val.checker).calls -/
def F141 : SFn := ⟨.seq (.seq (.region [⟨some 6, none, .mov (.t 1)⟩,
    ⟨some 7, none, .mov (.t 0)⟩,
    ⟨some 8, none, .nilc (.t 7)⟩,
    ⟨some 9, none, .fa 1 (.t 8)⟩,
    ⟨some 10, none, .ld 1 false (.t 9)⟩,
    ⟨some 11, none, .nilc (.t 10)⟩,
    ⟨some 12, none, .fa 1 (.t 11)⟩,
    ⟨some 13, none, .ld 1 false (.t 12)⟩,
    ⟨some 14, none, .lenV (.t 13)⟩,
    ⟨some 15, none, .call 91 [.t 6, .t 14]⟩,
    ⟨some 16, none, .un .not (.t 15)⟩] [0, 1, 16])
   (.cond (.t 16) (.seq (.region [⟨some 17, none, .mov (.t 0)⟩,
    ⟨some 18, none, .call 100 [.t 17, .c (.bool true)]⟩] [])
   (.ret)) (.skip)))
   (.seq (.region [⟨some 20, none, .mov (.t 0)⟩,
    ⟨some 21, none, .mov (.t 0)⟩,
    ⟨some 22, none, .nilc (.t 21)⟩,
    ⟨some 23, none, .fa 1 (.t 22)⟩,
    ⟨some 24, none, .ld 1 false (.t 23)⟩,
    ⟨some 25, none, .nilc (.t 24)⟩,
    ⟨some 26, none, .fa 1 (.t 25)⟩,
    ⟨some 27, none, .ld 1 false (.t 26)⟩,
    ⟨some 28, none, .mov (.t 1)⟩,
    ⟨some 29, none, .iaV 1 (.t 27) (.t 28)⟩,
    ⟨some 30, none, .ld 1 false (.t 29)⟩,
    ⟨some 31, none, .conv .u64 (.t 30)⟩,
    ⟨some 32, none, .call 143 [.t 20, .t 31]⟩,
    ⟨some 19, none, .mov (.t 32)⟩,
    ⟨some 33, none, .ext (.t 19) 0⟩,
    ⟨some 34, none, .ext (.t 19) 1⟩,
    ⟨some 4, none, .mov (.t 33)⟩,
    ⟨some 5, none, .mov (.t 34)⟩] [0, 4, 5])
   (.seq (.region [⟨some 35, none, .mov (.t 0)⟩,
    ⟨some 36, none, .mov (.t 4)⟩,
    ⟨some 37, none, .call 101 [.t 35, .t 36]⟩] [0, 5])
   (.region [⟨some 38, none, .mov (.t 0)⟩,
    ⟨some 39, none, .nilc (.t 38)⟩,
    ⟨some 40, none, .fa 0 (.t 39)⟩,
    ⟨some 41, none, .mov (.t 5)⟩,
    ⟨some 42, none, .call 93 [.t 40, .t 41]⟩] []))),
  [], 43, 2⟩
def A141 : Ann := ⟨[(0, [0, 1, 16]), (1, []), (2, [0, 4, 5]), (3, [0, 5]), (4, [])], []⟩
set_option maxRecDepth 100000 in
theorem F141.ok : compF Try.prog A141 Try.f141 = some F141 := by kernel_rfl
theorem F141.fok : FOk Try.prog 141 F141 := fok_of mixed Try.func141 F141.ok

/-- (*cloakroom/val.checker).table -/
def F142 : SFn := ⟨.seq (.region [⟨some 4, none, .mov (.c (.int .u8 0))⟩] [0, 1])
   (.seq (.seq (.region [⟨some 5, none, .mov (.t 1)⟩,
    ⟨some 6, none, .mov (.t 0)⟩,
    ⟨some 7, none, .nilc (.t 6)⟩,
    ⟨some 8, none, .fa 1 (.t 7)⟩,
    ⟨some 9, none, .ld 1 false (.t 8)⟩,
    ⟨some 10, none, .nilc (.t 9)⟩,
    ⟨some 11, none, .fa 2 (.t 10)⟩,
    ⟨some 12, none, .ld 1 false (.t 11)⟩,
    ⟨some 13, none, .lenV (.t 12)⟩,
    ⟨some 14, none, .call 91 [.t 5, .t 13]⟩,
    ⟨some 15, none, .un .not (.t 14)⟩] [0, 1, 15])
   (.cond (.t 15) (.seq (.region [⟨some 16, none, .mov (.t 0)⟩,
    ⟨some 17, none, .call 100 [.t 16, .c (.bool true)]⟩] [])
   (.seq (.region [⟨some 4, none, .mov (.c (.int .u8 0))⟩] [4])
   (.ret))) (.skip)))
   (.seq (.region [⟨some 18, none, .mov (.t 0)⟩,
    ⟨some 19, none, .nilc (.t 18)⟩,
    ⟨some 20, none, .fa 1 (.t 19)⟩,
    ⟨some 21, none, .ld 1 false (.t 20)⟩,
    ⟨some 22, none, .nilc (.t 21)⟩,
    ⟨some 23, none, .fa 2 (.t 22)⟩,
    ⟨some 24, none, .ld 1 false (.t 23)⟩,
    ⟨some 25, none, .mov (.t 1)⟩,
    ⟨some 26, none, .iaV 4 (.t 24) (.t 25)⟩,
    ⟨some 27, none, .fa 0 (.t 26)⟩,
    ⟨some 28, none, .ld 1 false (.t 27)⟩,
    ⟨some 4, none, .mov (.t 28)⟩] [4])
   (.ret))),
  [.t 4], 29, 2⟩
def A142 : Ann := ⟨[(0, [0, 1]), (1, [0, 1, 15]), (2, []), (3, [4]), (4, [4])], []⟩
set_option maxRecDepth 100000 in
theorem F142.ok : compF Try.prog A142 Try.f142 = some F142 := by kernel_rfl
theorem F142.fok : FOk Try.prog 142 F142 := fok_of mixed Try.func142 F142.ok

/-- (*cloakroom/val.checker).function -/
def F143 : SFn := ⟨.seq (.region [⟨some 4, none, .mov (.c (.slice none 0 0))⟩,
    ⟨some 5, none, .mov (.c (.slice none 0 0))⟩] [0, 1])
   (.seq (.seq (.region [⟨some 7, none, .mov (.t 1)⟩,
    ⟨some 8, none, .mov (.t 0)⟩,
    ⟨some 9, none, .nilc (.t 8)⟩,
    ⟨some 10, none, .fa 1 (.t 9)⟩,
    ⟨some 11, none, .ld 1 false (.t 10)⟩,
    ⟨some 12, none, .nilc (.t 11)⟩,
    ⟨some 13, none, .fa 0 (.t 12)⟩,
    ⟨some 14, none, .ld 1 false (.t 13)⟩,
    ⟨some 15, none, .lenV (.t 14)⟩,
    ⟨some 16, none, .conv .u64 (.t 15)⟩,
    ⟨some 17, none, .bin .geq (.t 7) (.t 16)⟩] [0, 1, 17])
   (.cond (.t 17) (.seq (.region [⟨some 18, none, .mov (.t 0)⟩,
    ⟨some 19, none, .call 100 [.t 18, .c (.bool true)]⟩] [])
   (.seq (.region [⟨some 4, none, .mov (.c (.slice none 0 0))⟩,
    ⟨some 5, none, .mov (.c (.slice none 0 0))⟩] [4, 5])
   (.ret))) (.skip)))
   (.seq (.region [⟨some 20, none, .mov (.t 0)⟩,
    ⟨some 21, none, .nilc (.t 20)⟩,
    ⟨some 22, none, .fa 1 (.t 21)⟩,
    ⟨some 23, none, .ld 1 false (.t 22)⟩,
    ⟨some 24, none, .nilc (.t 23)⟩,
    ⟨some 25, none, .fa 0 (.t 24)⟩,
    ⟨some 26, none, .ld 1 false (.t 25)⟩,
    ⟨some 27, none, .mov (.t 1)⟩,
    ⟨some 28, none, .iaV 2 (.t 26) (.t 27)⟩,
    ⟨some 29, none, .ld 2 true (.t 28)⟩,
    ⟨some 6, none, .new [.slice none 0 0, .slice none 0 0]⟩,
    ⟨none, none, .st 2 (.t 6) (.t 29)⟩] [6])
   (.seq (.region [⟨some 30, none, .fa 0 (.t 6)⟩,
    ⟨some 31, none, .ld 1 false (.t 30)⟩,
    ⟨some 32, none, .fa 1 (.t 6)⟩,
    ⟨some 33, none, .ld 1 false (.t 32)⟩,
    ⟨some 4, none, .mov (.t 31)⟩,
    ⟨some 5, none, .mov (.t 33)⟩] [4, 5])
   (.ret)))),
  [.t 4, .t 5], 34, 2⟩
def A143 : Ann := ⟨[(0, [0, 1]), (1, [0, 1, 17]), (2, []), (3, [4, 5]), (4, [6]), (5, [4, 5])], [(5, [(0, []), (1, []), (2, []), (3, []), (4, []), (5, [])], [(1, [0]), (3, [2]), (4, [0, 1]), (5, [0, 1, 2, 3, 4])])]⟩
set_option maxRecDepth 100000 in
theorem F143.ok : compF Try.prog A143 Try.f143 = some F143 := by kernel_rfl
theorem F143.fok : FOk Try.prog 143 F143 := fok_of mixed Try.func143 F143.ok

/-- (*cloakroom/val.checker).pop -/
def F144 : SFn := ⟨.seq (.region [⟨some 2, none, .mov (.c (.int .u8 0))⟩] [0])
   (.seq (.region [⟨some 5, none, .mov (.t 0)⟩,
    ⟨some 6, none, .call 165 [.t 5]⟩,
    ⟨some 3, none, .mov (.t 6)⟩] [0, 3])
   (.seq (.seq (.region [⟨some 7, none, .mov (.t 0)⟩,
    ⟨some 8, none, .nilc (.t 7)⟩,
    ⟨some 9, none, .fa 0 (.t 8)⟩,
    ⟨some 10, none, .fa 0 (.t 9)⟩,
    ⟨some 11, none, .ld 1 false (.t 10)⟩,
    ⟨some 12, none, .lenV (.t 11)⟩,
    ⟨some 13, none, .mov (.t 3)⟩,
    ⟨some 14, none, .nilc (.t 13)⟩,
    ⟨some 15, none, .fa 3 (.t 14)⟩,
    ⟨some 16, none, .ld 1 false (.t 15)⟩,
    ⟨some 17, none, .bin .eql (.t 12) (.t 16)⟩] [0, 3, 17])
   (.cond (.t 17) (.seq (.region [⟨some 18, none, .mov (.t 0)⟩,
    ⟨some 19, none, .mov (.t 3)⟩,
    ⟨some 20, none, .nilc (.t 19)⟩,
    ⟨some 21, none, .fa 4 (.t 20)⟩,
    ⟨some 22, none, .ld 1 false (.t 21)⟩,
    ⟨some 23, none, .un .not (.t 22)⟩,
    ⟨some 24, none, .call 100 [.t 18, .t 23]⟩] [])
   (.seq (.region [⟨some 2, none, .mov (.c (.int .u8 0))⟩] [2])
   (.ret))) (.skip)))
   (.seq (.region [⟨some 25, none, .mov (.t 0)⟩,
    ⟨some 26, none, .nilc (.t 25)⟩,
    ⟨some 27, none, .fa 0 (.t 26)⟩,
    ⟨some 28, none, .fa 0 (.t 27)⟩,
    ⟨some 29, none, .ld 1 false (.t 28)⟩,
    ⟨some 30, none, .mov (.t 0)⟩,
    ⟨some 31, none, .nilc (.t 30)⟩,
    ⟨some 32, none, .fa 0 (.t 31)⟩,
    ⟨some 33, none, .fa 0 (.t 32)⟩,
    ⟨some 34, none, .ld 1 false (.t 33)⟩,
    ⟨some 35, none, .lenV (.t 34)⟩,
    ⟨some 36, none, .bin .sub (.t 35) (.c (.int .i64 1))⟩,
    ⟨some 37, none, .iaV 1 (.t 29) (.t 36)⟩,
    ⟨some 38, none, .ld 1 false (.t 37)⟩,
    ⟨some 4, none, .mov (.t 38)⟩] [0, 4])
   (.seq (.region [⟨some 39, none, .mov (.t 0)⟩,
    ⟨some 40, none, .mov (.t 0)⟩,
    ⟨some 41, none, .nilc (.t 40)⟩,
    ⟨some 42, none, .fa 0 (.t 41)⟩,
    ⟨some 43, none, .fa 0 (.t 42)⟩,
    ⟨some 44, none, .ld 1 false (.t 43)⟩,
    ⟨some 45, none, .mov (.t 0)⟩,
    ⟨some 46, none, .nilc (.t 45)⟩,
    ⟨some 47, none, .fa 0 (.t 46)⟩,
    ⟨some 48, none, .fa 0 (.t 47)⟩,
    ⟨some 49, none, .ld 1 false (.t 48)⟩,
    ⟨some 50, none, .lenV (.t 49)⟩,
    ⟨some 51, none, .bin .sub (.t 50) (.c (.int .i64 1))⟩,
    ⟨some 52, none, .slV 1 (.t 44) none (some (.t 51)) none⟩,
    ⟨some 53, none, .nilc (.t 39)⟩,
    ⟨some 54, none, .fa 0 (.t 53)⟩,
    ⟨some 55, none, .fa 0 (.t 54)⟩,
    ⟨none, none, .st 1 (.t 55) (.t 52)⟩] [4])
   (.seq (.region [⟨some 56, none, .mov (.t 4)⟩,
    ⟨some 2, none, .mov (.t 56)⟩] [2])
   (.ret)))))),
  [.t 2], 57, 1⟩
def A144 : Ann := ⟨[(0, [0]), (1, [0, 3]), (2, [0, 3, 17]), (3, []), (4, [2]), (5, [0, 4]), (6, [4]), (7, [2])], [(2, [(0, []), (1, []), (2, []), (3, []), (4, []), (5, []), (6, []), (7, []), (8, []), (9, []), (10, [])], [(1, [0]), (2, [0, 1]), (3, [0, 1, 2]), (4, [0, 1, 2, 3]), (5, [0, 1, 2, 3, 4]), (7, [6]), (8, [6, 7]), (9, [6, 7, 8]), (10, [0, 1, 2, 3, 4, 5, 6, 7, 8, 9])]),
  (5, [(0, []), (1, []), (2, []), (3, []), (4, []), (5, []), (6, []), (7, []), (8, []), (9, []), (10, []), (11, []), (12, []), (13, []), (14, [])], [(1, [0]), (2, [0, 1]), (3, [0, 1, 2]), (4, [0, 1, 2, 3]), (6, [5]), (7, [5, 6]), (8, [5, 6, 7]), (9, [5, 6, 7, 8]), (10, [5, 6, 7, 8, 9]), (11, [5, 6, 7, 8, 9, 10]), (12, [0, 1, 2, 3, 4, 5, 6, 7, 8, 9, 10, 11]), (13, [0, 1, 2, 3, 4, 5, 6, 7, 8, 9, 10, 11, 12]), (14, [0, 1, 2, 3, 4, 5, 6, 7, 8, 9, 10, 11, 12, 13])]),
  (6, [(0, []), (1, []), (2, []), (3, []), (4, []), (5, []), (6, []), (7, []), (8, []), (9, []), (10, []), (11, []), (12, []), (13, []), (14, []), (15, []), (16, []), (17, [])], [(2, [1]), (3, [1, 2]), (4, [1, 2, 3]), (5, [1, 2, 3, 4]), (7, [6]), (8, [6, 7]), (9, [6, 7, 8]), (10, [6, 7, 8, 9]), (11, [6, 7, 8, 9, 10]), (12, [6, 7, 8, 9, 10, 11]), (13, [1, 2, 3, 4, 5, 6, 7, 8, 9, 10, 11, 12]), (14, [0, 1, 2, 3, 4, 5, 6, 7, 8, 9, 10, 11, 12, 13]), (15, [0, 1, 2, 3, 4, 5, 6, 7, 8, 9, 10, 11, 12, 13, 14]), (16, [0, 1, 2, 3, 4, 5, 6, 7, 8, 9, 10, 11, 12, 13, 14, 15]), (17, [0, 1, 2, 3, 4, 5, 6, 7, 8, 9, 10, 11, 12, 13, 14, 15, 16])])]⟩
set_option maxRecDepth 100000 in
theorem F144.ok : compF Try.prog A144 Try.f144 = some F144 := by kernel_rfl
theorem F144.fok : FOk Try.prog 144 F144 := fok_of mixed Try.func144 F144.ok

/-- cloakroom/val.own -/
def F145 : SFn := ⟨.seq (.region [⟨some 2, none, .mov (.c (.bool false))⟩] [0])
   (.seq (.region [⟨some 3, none, .mov (.t 0)⟩,
    ⟨some 4, none, .bin .eql (.t 3) (.c (.int .u8 112))⟩,
    ⟨some 5, none, .mov (.t 4)⟩,
    ⟨some 6, some (5, false), .mov (.t 0)⟩,
    ⟨some 7, some (5, false), .bin .eql (.t 6) (.c (.int .u8 111))⟩,
    ⟨some 8, none, .pick (.t 5) (.c (.bool true)) (.t 7)⟩,
    ⟨some 2, none, .mov (.t 8)⟩] [2])
   (.ret)),
  [.t 2], 9, 1⟩
def A145 : Ann := ⟨[(0, [0]), (1, [2])], []⟩
set_option maxRecDepth 100000 in
theorem F145.ok : compF Try.prog A145 Try.f145 = some F145 := by kernel_rfl
theorem F145.fok : FOk Try.prog 145 F145 := fok_of mixed Try.func145 F145.ok

/-- (*cloakroom/val.checker).local -/
def F146 : SFn := ⟨.seq (.region [⟨some 4, none, .mov (.c (.int .u8 0))⟩] [0, 1])
   (.seq (.seq (.region [⟨some 5, none, .mov (.t 1)⟩,
    ⟨some 6, none, .mov (.t 0)⟩,
    ⟨some 7, none, .nilc (.t 6)⟩,
    ⟨some 8, none, .fa 2 (.t 7)⟩,
    ⟨some 9, none, .ld 1 false (.t 8)⟩,
    ⟨some 10, none, .lenV (.t 9)⟩,
    ⟨some 11, none, .call 91 [.t 5, .t 10]⟩,
    ⟨some 12, none, .un .not (.t 11)⟩] [0, 1, 12])
   (.cond (.t 12) (.seq (.region [⟨some 13, none, .mov (.t 0)⟩,
    ⟨some 14, none, .call 100 [.t 13, .c (.bool true)]⟩] [])
   (.seq (.region [⟨some 4, none, .mov (.c (.int .u8 0))⟩] [4])
   (.ret))) (.skip)))
   (.seq (.region [⟨some 15, none, .mov (.t 0)⟩,
    ⟨some 16, none, .nilc (.t 15)⟩,
    ⟨some 17, none, .fa 2 (.t 16)⟩,
    ⟨some 18, none, .ld 1 false (.t 17)⟩,
    ⟨some 19, none, .mov (.t 1)⟩,
    ⟨some 20, none, .iaV 1 (.t 18) (.t 19)⟩,
    ⟨some 21, none, .ld 1 false (.t 20)⟩,
    ⟨some 4, none, .mov (.t 21)⟩] [4])
   (.ret))),
  [.t 4], 22, 2⟩
def A146 : Ann := ⟨[(0, [0, 1]), (1, [0, 1, 12]), (2, []), (3, [4]), (4, [4])], []⟩
set_option maxRecDepth 100000 in
theorem F146.ok : compF Try.prog A146 Try.f146 = some F146 := by kernel_rfl
theorem F146.fok : FOk Try.prog 146 F146 := fok_of mixed Try.func146 F146.ok

/-- (*cloakroom/val.checker).global -/
def F147 : SFn := ⟨.seq (.region [⟨some 4, none, .new [.int .u8 0, .bool false, .slice none 0 0]⟩] [0, 1, 4])
   (.seq (.seq (.region [⟨some 5, none, .mov (.t 1)⟩,
    ⟨some 6, none, .mov (.t 0)⟩,
    ⟨some 7, none, .nilc (.t 6)⟩,
    ⟨some 8, none, .fa 1 (.t 7)⟩,
    ⟨some 9, none, .ld 1 false (.t 8)⟩,
    ⟨some 10, none, .nilc (.t 9)⟩,
    ⟨some 11, none, .fa 4 (.t 10)⟩,
    ⟨some 12, none, .ld 1 false (.t 11)⟩,
    ⟨some 13, none, .lenV (.t 12)⟩,
    ⟨some 14, none, .call 91 [.t 5, .t 13]⟩,
    ⟨some 15, none, .un .not (.t 14)⟩] [0, 1, 4, 15])
   (.cond (.t 15) (.seq (.region [⟨some 16, none, .mov (.t 0)⟩,
    ⟨some 17, none, .call 100 [.t 16, .c (.bool true)]⟩] [4])
   (.seq (.region [⟨some 18, none, .build [.int .u8 0, .bool false, .slice none 0 0] []⟩,
    ⟨none, none, .st 3 (.t 4) (.t 18)⟩] [4])
   (.ret))) (.skip)))
   (.seq (.region [⟨some 19, none, .mov (.t 0)⟩,
    ⟨some 20, none, .nilc (.t 19)⟩,
    ⟨some 21, none, .fa 1 (.t 20)⟩,
    ⟨some 22, none, .ld 1 false (.t 21)⟩,
    ⟨some 23, none, .nilc (.t 22)⟩,
    ⟨some 24, none, .fa 4 (.t 23)⟩,
    ⟨some 25, none, .ld 1 false (.t 24)⟩,
    ⟨some 26, none, .mov (.t 1)⟩,
    ⟨some 27, none, .iaV 3 (.t 25) (.t 26)⟩,
    ⟨some 28, none, .ld 3 true (.t 27)⟩,
    ⟨none, none, .st 3 (.t 4) (.t 28)⟩] [4])
   (.ret))),
  [.c 4 3 true], 29, 2⟩
def A147 : Ann := ⟨[(0, [0, 1, 4]), (1, [0, 1, 4, 15]), (2, [4]), (3, [4]), (4, [4])], []⟩
set_option maxRecDepth 100000 in
theorem F147.ok : compF Try.prog A147 Try.f147 = some F147 := by kernel_rfl
theorem F147.fok : FOk Try.prog 147 F147 := fok_of mixed Try.func147 F147.ok

/-- cloakroom/val.ref -/
def F148 : SFn := ⟨.seq (.region [⟨some 2, none, .mov (.c (.bool false))⟩] [0])
   (.seq (.region [⟨some 3, none, .mov (.t 0)⟩,
    ⟨some 4, none, .call 145 [.t 3]⟩,
    ⟨some 5, none, .mov (.t 4)⟩,
    ⟨some 6, some (5, false), .mov (.t 0)⟩,
    ⟨some 7, some (5, false), .bin .eql (.t 6) (.c (.int .u8 0))⟩,
    ⟨some 8, none, .pick (.t 5) (.c (.bool true)) (.t 7)⟩,
    ⟨some 2, none, .mov (.t 8)⟩] [2])
   (.ret)),
  [.t 2], 9, 1⟩
def A148 : Ann := ⟨[(0, [0]), (1, [2])], []⟩
set_option maxRecDepth 100000 in
theorem F148.ok : compF Try.prog A148 Try.f148 = some F148 := by kernel_rfl
theorem F148.fok : FOk Try.prog 148 F148 := fok_of mixed Try.func148 F148.ok

/-- (*cloakroom/val.checker).memory -/
def F149 : SFn := ⟨.region [⟨some 2, none, .mov (.t 0)⟩,
    ⟨some 3, none, .mov (.t 0)⟩,
    ⟨some 4, none, .nilc (.t 3)⟩,
    ⟨some 5, none, .fa 1 (.t 4)⟩,
    ⟨some 6, none, .ld 1 false (.t 5)⟩,
    ⟨some 7, none, .nilc (.t 6)⟩,
    ⟨some 8, none, .fa 3 (.t 7)⟩,
    ⟨some 9, none, .ld 1 false (.t 8)⟩,
    ⟨some 10, none, .lenV (.t 9)⟩,
    ⟨some 11, none, .bin .eql (.t 10) (.c (.int .i64 0))⟩,
    ⟨some 12, none, .call 100 [.t 2, .t 11]⟩] [],
  [], 13, 1⟩
def A149 : Ann := ⟨[(0, [])], []⟩
set_option maxRecDepth 100000 in
theorem F149.ok : compF Try.prog A149 Try.f149 = some F149 := by kernel_rfl
theorem F149.fok : FOk Try.prog 149 F149 := fok_of mixed Try.func149 F149.ok

/-- (*cloakroom/val.checker).data -/
def F150 : SFn := ⟨.seq (.seq (.region [⟨some 4, none, .mov (.t 0)⟩,
    ⟨some 5, none, .nilc (.t 4)⟩,
    ⟨some 6, none, .fa 1 (.t 5)⟩,
    ⟨some 7, none, .ld 1 false (.t 6)⟩,
    ⟨some 8, none, .nilc (.t 7)⟩,
    ⟨some 9, none, .fa 9 (.t 8)⟩,
    ⟨some 10, none, .ld 1 false (.t 9)⟩] [0, 1, 10])
   (.cond (.t 10) (.seq (.region [⟨some 11, none, .mov (.t 0)⟩,
    ⟨some 12, none, .mov (.t 1)⟩,
    ⟨some 13, none, .mov (.t 0)⟩,
    ⟨some 14, none, .nilc (.t 13)⟩,
    ⟨some 15, none, .fa 1 (.t 14)⟩,
    ⟨some 16, none, .ld 1 false (.t 15)⟩,
    ⟨some 17, none, .nilc (.t 16)⟩,
    ⟨some 18, none, .fa 10 (.t 17)⟩,
    ⟨some 19, none, .ld 1 false (.t 18)⟩,
    ⟨some 20, none, .bin .geq (.t 12) (.t 19)⟩,
    ⟨some 21, none, .call 100 [.t 11, .t 20]⟩] [])
   (.ret)) (.skip)))
   (.region [⟨some 22, none, .mov (.t 0)⟩,
    ⟨some 23, none, .mov (.t 1)⟩,
    ⟨some 24, none, .mov (.t 0)⟩,
    ⟨some 25, none, .nilc (.t 24)⟩,
    ⟨some 26, none, .fa 1 (.t 25)⟩,
    ⟨some 27, none, .ld 1 false (.t 26)⟩,
    ⟨some 28, none, .nilc (.t 27)⟩,
    ⟨some 29, none, .fa 12 (.t 28)⟩,
    ⟨some 30, none, .ld 1 false (.t 29)⟩,
    ⟨some 31, none, .lenV (.t 30)⟩,
    ⟨some 32, none, .call 91 [.t 23, .t 31]⟩,
    ⟨some 33, none, .un .not (.t 32)⟩,
    ⟨some 34, none, .call 100 [.t 22, .t 33]⟩] []),
  [], 35, 2⟩
def A150 : Ann := ⟨[(0, [0, 1, 10]), (1, []), (2, [])], []⟩
set_option maxRecDepth 100000 in
theorem F150.ok : compF Try.prog A150 Try.f150 = some F150 := by kernel_rfl
theorem F150.fok : FOk Try.prog 150 F150 := fok_of mixed Try.func150 F150.ok

/-- (*cloakroom/val.checker).elem -/
def F151 : SFn := ⟨.seq (.region [⟨some 4, none, .mov (.c (.int .u8 0))⟩] [0, 1])
   (.seq (.seq (.region [⟨some 5, none, .mov (.t 1)⟩,
    ⟨some 6, none, .mov (.t 0)⟩,
    ⟨some 7, none, .nilc (.t 6)⟩,
    ⟨some 8, none, .fa 1 (.t 7)⟩,
    ⟨some 9, none, .ld 1 false (.t 8)⟩,
    ⟨some 10, none, .nilc (.t 9)⟩,
    ⟨some 11, none, .fa 8 (.t 10)⟩,
    ⟨some 12, none, .ld 1 false (.t 11)⟩,
    ⟨some 13, none, .lenV (.t 12)⟩,
    ⟨some 14, none, .call 91 [.t 5, .t 13]⟩,
    ⟨some 15, none, .un .not (.t 14)⟩] [0, 1, 15])
   (.cond (.t 15) (.seq (.region [⟨some 16, none, .mov (.t 0)⟩,
    ⟨some 17, none, .call 100 [.t 16, .c (.bool true)]⟩] [])
   (.seq (.region [⟨some 4, none, .mov (.c (.int .u8 0))⟩] [4])
   (.ret))) (.skip)))
   (.seq (.region [⟨some 18, none, .mov (.t 0)⟩,
    ⟨some 19, none, .nilc (.t 18)⟩,
    ⟨some 20, none, .fa 1 (.t 19)⟩,
    ⟨some 21, none, .ld 1 false (.t 20)⟩,
    ⟨some 22, none, .nilc (.t 21)⟩,
    ⟨some 23, none, .fa 8 (.t 22)⟩,
    ⟨some 24, none, .ld 1 false (.t 23)⟩,
    ⟨some 25, none, .mov (.t 1)⟩,
    ⟨some 26, none, .iaV 5 (.t 24) (.t 25)⟩,
    ⟨some 27, none, .fa 1 (.t 26)⟩,
    ⟨some 28, none, .ld 1 false (.t 27)⟩,
    ⟨some 4, none, .mov (.t 28)⟩] [4])
   (.ret))),
  [.t 4], 29, 2⟩
def A151 : Ann := ⟨[(0, [0, 1]), (1, [0, 1, 15]), (2, []), (3, [4]), (4, [4])], []⟩
set_option maxRecDepth 100000 in
theorem F151.ok : compF Try.prog A151 Try.f151 = some F151 := by kernel_rfl
theorem F151.fok : FOk Try.prog 151 F151 := fok_of mixed Try.func151 F151.ok

/-- cloakroom/val.wide -/
def F152 : SFn := ⟨.seq (.region [⟨some 2, none, .mov (.c (.bool false))⟩] [0])
   (.seq (.region [⟨some 3, none, .mov (.t 0)⟩,
    ⟨some 4, none, .bin .eql (.t 3) (.c (.int .i64 41))⟩,
    ⟨some 5, none, .mov (.t 4)⟩,
    ⟨some 6, some (5, false), .mov (.t 0)⟩,
    ⟨some 7, some (5, false), .bin .geq (.t 6) (.c (.int .i64 48))⟩,
    ⟨some 8, some (5, false), .mov (.t 7)⟩,
    ⟨some 9, some (8, true), .mov (.t 0)⟩,
    ⟨some 10, some (8, true), .bin .leq (.t 9) (.c (.int .i64 53))⟩,
    ⟨some 11, some (5, false), .pick (.t 8) (.t 10) (.c (.bool false))⟩,
    ⟨some 12, none, .pick (.t 5) (.c (.bool true)) (.t 11)⟩,
    ⟨some 13, none, .mov (.t 12)⟩,
    ⟨some 14, some (13, false), .mov (.t 0)⟩,
    ⟨some 15, some (13, false), .bin .eql (.t 14) (.c (.int .i64 55))⟩,
    ⟨some 16, none, .pick (.t 13) (.c (.bool true)) (.t 15)⟩,
    ⟨some 17, none, .mov (.t 16)⟩,
    ⟨some 18, some (17, false), .mov (.t 0)⟩,
    ⟨some 19, some (17, false), .bin .geq (.t 18) (.c (.int .i64 60))⟩,
    ⟨some 20, some (17, false), .mov (.t 19)⟩,
    ⟨some 21, some (20, true), .mov (.t 0)⟩,
    ⟨some 22, some (20, true), .bin .leq (.t 21) (.c (.int .i64 62))⟩,
    ⟨some 23, some (17, false), .pick (.t 20) (.t 22) (.c (.bool false))⟩,
    ⟨some 24, none, .pick (.t 17) (.c (.bool true)) (.t 23)⟩,
    ⟨some 2, none, .mov (.t 24)⟩] [2])
   (.ret)),
  [.t 2], 25, 1⟩
def A152 : Ann := ⟨[(0, [0]), (1, [2])], []⟩
set_option maxRecDepth 100000 in
theorem F152.ok : compF Try.prog A152 Try.f152 = some F152 := by kernel_rfl
theorem F152.fok : FOk Try.prog 152 F152 := fok_of mixed Try.func152 F152.ok

/-- cloakroom/val.Declared$1 -/
def F158 : SFn := ⟨.seq (.region [⟨some 3, none, .mov (.t 0)⟩,
    ⟨some 4, none, .ld 1 false (.t 1)⟩,
    ⟨some 5, none, .lenV (.t 4)⟩,
    ⟨some 6, none, .call 91 [.t 3, .t 5]⟩] [0, 1, 6])
   (.cond (.t 6) (.region [⟨some 7, none, .ld 1 false (.t 1)⟩,
    ⟨some 8, none, .mov (.t 0)⟩,
    ⟨some 9, none, .iaV 1 (.t 7) (.t 8)⟩,
    ⟨none, none, .st 1 (.t 9) (.c (.bool true))⟩] []) (.skip)),
  [], 10, 2⟩
def A158 : Ann := ⟨[(0, [0, 1, 6]), (1, [])], []⟩
set_option maxRecDepth 100000 in
theorem F158.ok : compF Try.prog A158 Try.f158 = some F158 := by kernel_rfl
theorem F158.fok : FOk Try.prog 158 F158 := fok_of mixed Try.func158 F158.ok

/-- cloakroom/val.Declared$2 -/
def F159 : SFn := ⟨.seq (.region [⟨some 5, none, .mov (.t 0)⟩,
    ⟨some 6, none, .lenV (.t 5)⟩,
    ⟨some 7, none, .mov (.c (.int .i64 0))⟩] [1, 5, 6, 7])
   (.block 0 (.loop (.seq (.region [⟨some 8, none, .bin .lss (.t 7) (.t 6)⟩] [1, 5, 6, 7, 8])
   (.seq (.cond (.t 8) (.skip) (.exit 0))
   (.seq (.block 1 (.seq (.region [⟨some 9, none, .iaV 6 (.t 5) (.t 7)⟩,
    ⟨some 10, none, .ld 6 true (.t 9)⟩,
    ⟨some 4, none, .new [.int .i64 0, .int .u32 0, .int .u32 0, .int .u64 0, .slice none 0 0, .int .i64 0]⟩,
    ⟨none, none, .st 6 (.t 4) (.t 10)⟩] [1, 4, 5, 6, 7])
   (.seq (.region [⟨some 11, none, .fa 0 (.t 4)⟩,
    ⟨some 12, none, .ld 1 false (.t 11)⟩,
    ⟨some 13, none, .bin .eql (.t 12) (.c (.int .i64 210))⟩] [1, 4, 5, 6, 7, 13])
   (.cond (.t 13) (.region [⟨some 14, none, .ld 1 false (.t 1)⟩,
    ⟨some 15, none, .fa 1 (.t 4)⟩,
    ⟨some 16, none, .ld 1 false (.t 15)⟩,
    ⟨some 17, none, .callv (.t 14) [.t 16]⟩] [1, 5, 6, 7]) (.skip)))))
   (.region [⟨some 18, none, .bin .add (.t 7) (.c (.int .i64 1))⟩,
    ⟨some 7, none, .mov (.t 18)⟩] [1, 5, 6, 7])))))),
  [], 19, 2⟩
def A159 : Ann := ⟨[(0, [1, 5, 6, 7]), (1, [1, 5, 6, 7, 8]), (2, [1, 4, 5, 6, 7]), (3, [1, 4, 5, 6, 7, 13]), (4, [1, 5, 6, 7]), (5, [1, 5, 6, 7])], []⟩
set_option maxRecDepth 100000 in
theorem F159.ok : compF Try.prog A159 Try.f159 = some F159 := by kernel_rfl
theorem F159.fok : FOk Try.prog 159 F159 := fok_of mixed Try.func159 F159.ok

/-- (*cloakroom/val.checker).top -/
def F165 : SFn := ⟨.seq (.region [⟨some 2, none, .mov (.c (.pointer none))⟩] [0])
   (.seq (.region [⟨some 3, none, .mov (.t 0)⟩,
    ⟨some 4, none, .nilc (.t 3)⟩,
    ⟨some 5, none, .fa 3 (.t 4)⟩,
    ⟨some 6, none, .ld 1 false (.t 5)⟩,
    ⟨some 7, none, .mov (.t 0)⟩,
    ⟨some 8, none, .nilc (.t 7)⟩,
    ⟨some 9, none, .fa 3 (.t 8)⟩,
    ⟨some 10, none, .ld 1 false (.t 9)⟩,
    ⟨some 11, none, .lenV (.t 10)⟩,
    ⟨some 12, none, .bin .sub (.t 11) (.c (.int .i64 1))⟩,
    ⟨some 13, none, .iaV 5 (.t 6) (.t 12)⟩,
    ⟨some 2, none, .mov (.t 13)⟩] [2])
   (.ret)),
  [.t 2], 14, 1⟩
def A165 : Ann := ⟨[(0, [0]), (1, [2])], [(1, [(0, []), (1, []), (2, []), (3, []), (4, []), (5, []), (6, []), (7, []), (8, []), (9, []), (10, []), (11, [])], [(1, [0]), (2, [0, 1]), (3, [0, 1, 2]), (5, [4]), (6, [4, 5]), (7, [4, 5, 6]), (8, [4, 5, 6, 7]), (9, [4, 5, 6, 7, 8]), (10, [0, 1, 2, 3, 4, 5, 6, 7, 8, 9]), (11, [0, 1, 2, 3, 4, 5, 6, 7, 8, 9, 10])])]⟩
set_option maxRecDepth 100000 in
theorem F165.ok : compF Try.prog A165 Try.f165 = some F165 := by kernel_rfl
theorem F165.fok : FOk Try.prog 165 F165 := fok_of mixed Try.func165 F165.ok

/-- (cloakroom/val.block).labels -/
def F166 : SFn := ⟨.seq (.region [⟨some 1, none, .box (.t 0)⟩,
    ⟨some 2, none, .mov (.c (.slice none 0 0))⟩] [1])
   (.seq (.seq (.region [⟨some 3, none, .fa 0 (.t 1)⟩,
    ⟨some 4, none, .ld 1 false (.t 3)⟩,
    ⟨some 5, none, .bin .eql (.t 4) (.c (.int .i64 3))⟩] [1, 5])
   (.cond (.t 5) (.seq (.region [⟨some 6, none, .fa 1 (.t 1)⟩,
    ⟨some 7, none, .ld 1 false (.t 6)⟩,
    ⟨some 2, none, .mov (.t 7)⟩] [2])
   (.ret)) (.skip)))
   (.seq (.region [⟨some 8, none, .fa 2 (.t 1)⟩,
    ⟨some 9, none, .ld 1 false (.t 8)⟩,
    ⟨some 2, none, .mov (.t 9)⟩] [2])
   (.ret))),
  [.t 2], 10, 1⟩
def A166 : Ann := ⟨[(0, [1]), (1, [1, 5]), (2, [2]), (3, [2])], []⟩
set_option maxRecDepth 100000 in
theorem F166.ok : compF Try.prog A166 Try.f166 = some F166 := by kernel_rfl
theorem F166.fok : FOk Try.prog 166 F166 := fok_of mixed Try.func166 F166.ok
end Go.Dx.SYtpkefdoleieloaa
