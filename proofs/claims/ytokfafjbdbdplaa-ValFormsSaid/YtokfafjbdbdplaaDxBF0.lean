/- The readings of functions, printed by a program of the prover's own. -/
import Derived.Test.YtokfafjbdbdplaaDx19
import Derived.Test.YtokfafjbdbdplaaChecked
import Derived.Eval
namespace Go.Dx.SYtokfafjbdbdplaa
open Go.Proofs
set_option linter.unusedVariables false
theorem mixed : Try.prog.follows .mixedOrders = true := Try.checked.mixed
/-- cloakroom/cloakroomlaw11.ValForms -/
def F11 : SFn := ⟨.seq (.region [⟨some 0, none, .mov (.c (.bool false))⟩] [])
   (.seq (.seq (.region [⟨some 10, none, .call 34 []⟩,
    ⟨some 11, none, .un .not (.t 10)⟩] [11])
   (.cond (.t 11) (.seq (.region [⟨some 0, none, .mov (.c (.bool false))⟩] [0])
   (.ret)) (.skip)))
   (.seq (.region [⟨some 12, none, .call 35 [.c (.slice none 0 0)]⟩,
    ⟨some 13, none, .call 36 [.t 12]⟩,
    ⟨some 1, none, .new [.slice none 0 0, .slice none 0 0, .slice none 0 0, .slice none 0 0, .slice none 0 0, .slice none 0 0, .bool false, .int .u32 0, .slice none 0 0, .bool false, .int .u32 0, .slice none 0 0, .slice none 0 0]⟩,
    ⟨none, none, .st 13 (.t 1) (.t 13)⟩] [1])
   (.seq (.region [⟨some 14, none, .build [.int .i64 0, .int .u32 0, .int .u32 0, .int .u64 0, .slice none 0 0, .int .i64 0] [(0, 1, .c (.int .i64 11))]⟩,
    ⟨some 2, none, .new [.int .i64 0, .int .u32 0, .int .u32 0, .int .u64 0, .slice none 0 0, .int .i64 0]⟩,
    ⟨none, none, .st 6 (.t 2) (.t 14)⟩] [1, 2])
   (.seq (.region [⟨some 15, none, .build [.int .i64 0, .int .u32 0, .int .u32 0, .int .u64 0, .slice none 0 0, .int .i64 0] [(0, 1, .c (.int .i64 65))]⟩,
    ⟨some 16, none, .build [.int .i64 0, .int .u32 0, .int .u32 0, .int .u64 0, .slice none 0 0, .int .i64 0] [(0, 1, .c (.int .i64 66))]⟩,
    ⟨some 3, none, .new [.int .i64 0, .int .u32 0, .int .u32 0, .int .u64 0, .slice none 0 0, .int .i64 0]⟩,
    ⟨some 4, none, .new [.int .i64 0, .int .u32 0, .int .u32 0, .int .u64 0, .slice none 0 0, .int .i64 0]⟩,
    ⟨none, none, .st 6 (.t 3) (.t 15)⟩,
    ⟨none, none, .st 6 (.t 4) (.t 16)⟩] [1, 2, 3, 4])
   (.seq (.region [⟨some 17, none, .build [.int .i64 0, .int .u32 0, .int .u32 0, .int .u64 0, .slice none 0 0, .int .i64 0] [(0, 1, .c (.int .i64 26))]⟩,
    ⟨some 5, none, .new [.int .i64 0, .int .u32 0, .int .u32 0, .int .u64 0, .slice none 0 0, .int .i64 0]⟩,
    ⟨none, none, .st 6 (.t 5) (.t 17)⟩] [1, 2, 3, 4, 5])
   (.seq (.region [⟨some 18, none, .ld 6 true (.t 2)⟩,
    ⟨some 19, none, .bslice 1 6 [.int .i64 0, .int .u32 0, .int .u32 0, .int .u64 0, .slice none 0 0, .int .i64 0] [(0, 6, .t 18)]⟩,
    ⟨some 20, none, .ld 6 true (.t 3)⟩,
    ⟨some 21, none, .ld 6 true (.t 5)⟩,
    ⟨some 22, none, .ld 6 true (.t 2)⟩,
    ⟨some 23, none, .bslice 3 6 [.int .i64 0, .int .u32 0, .int .u32 0, .int .u64 0, .slice none 0 0, .int .i64 0] [(0, 6, .t 20), (6, 6, .t 21), (12, 6, .t 22)]⟩,
    ⟨some 24, none, .build [.int .i64 0, .int .u32 0, .int .u32 0, .int .u64 0, .slice none 0 0, .int .i64 0] [(0, 1, .c (.int .i64 2)), (5, 1, .c (.int .i64 (-1)))]⟩,
    ⟨some 25, none, .ld 6 true (.t 3)⟩,
    ⟨some 26, none, .ld 6 true (.t 2)⟩,
    ⟨some 27, none, .ld 6 true (.t 5)⟩,
    ⟨some 28, none, .ld 6 true (.t 2)⟩,
    ⟨some 29, none, .bslice 5 6 [.int .i64 0, .int .u32 0, .int .u32 0, .int .u64 0, .slice none 0 0, .int .i64 0] [(0, 6, .t 24), (6, 6, .t 25), (12, 6, .t 26), (18, 6, .t 27), (24, 6, .t 28)]⟩,
    ⟨some 30, none, .ld 6 true (.t 3)⟩,
    ⟨some 31, none, .build [.int .i64 0, .int .u32 0, .int .u32 0, .int .u64 0, .slice none 0 0, .int .i64 0] [(0, 1, .c (.int .i64 2)), (5, 1, .c (.int .i64 1))]⟩,
    ⟨some 32, none, .ld 6 true (.t 2)⟩,
    ⟨some 33, none, .ld 6 true (.t 5)⟩,
    ⟨some 34, none, .ld 6 true (.t 2)⟩,
    ⟨some 35, none, .bslice 5 6 [.int .i64 0, .int .u32 0, .int .u32 0, .int .u64 0, .slice none 0 0, .int .i64 0] [(0, 6, .t 30), (6, 6, .t 31), (12, 6, .t 32), (18, 6, .t 33), (24, 6, .t 34)]⟩,
    ⟨some 36, none, .ld 6 true (.t 3)⟩,
    ⟨some 37, none, .build [.int .i64 0, .int .u32 0, .int .u32 0, .int .u64 0, .slice none 0 0, .int .i64 0] [(0, 1, .c (.int .i64 4)), (5, 1, .c (.int .i64 (-64)))]⟩,
    ⟨some 38, none, .ld 6 true (.t 2)⟩,
    ⟨some 39, none, .ld 6 true (.t 2)⟩,
    ⟨some 40, none, .bslice 4 6 [.int .i64 0, .int .u32 0, .int .u32 0, .int .u64 0, .slice none 0 0, .int .i64 0] [(0, 6, .t 36), (6, 6, .t 37), (12, 6, .t 38), (18, 6, .t 39)]⟩,
    ⟨some 41, none, .ld 6 true (.t 3)⟩,
    ⟨some 42, none, .build [.int .i64 0, .int .u32 0, .int .u32 0, .int .u64 0, .slice none 0 0, .int .i64 0] [(0, 1, .c (.int .i64 4)), (5, 1, .c (.int .i64 (-1)))]⟩,
    ⟨some 43, none, .ld 6 true (.t 3)⟩,
    ⟨some 44, none, .build [.int .i64 0, .int .u32 0, .int .u32 0, .int .u64 0, .slice none 0 0, .int .i64 0] [(0, 1, .c (.int .i64 5))]⟩,
    ⟨some 45, none, .ld 6 true (.t 3)⟩,
    ⟨some 46, none, .ld 6 true (.t 2)⟩,
    ⟨some 47, none, .ld 6 true (.t 5)⟩,
    ⟨some 48, none, .ld 6 true (.t 2)⟩,
    ⟨some 49, none, .bslice 8 6 [.int .i64 0, .int .u32 0, .int .u32 0, .int .u64 0, .slice none 0 0, .int .i64 0] [(0, 6, .t 41), (6, 6, .t 42), (12, 6, .t 43), (18, 6, .t 44), (24, 6, .t 45), (30, 6, .t 46), (36, 6, .t 47), (42, 6, .t 48)]⟩,
    ⟨some 50, none, .build [.int .i64 0, .int .u32 0, .int .u32 0, .int .u64 0, .slice none 0 0, .int .i64 0] [(0, 1, .c (.int .i64 3)), (5, 1, .c (.int .i64 (-64)))]⟩,
    ⟨some 51, none, .build [.int .i64 0, .int .u32 0, .int .u32 0, .int .u64 0, .slice none 0 0, .int .i64 0] [(0, 1, .c (.int .i64 12))]⟩,
    ⟨some 52, none, .ld 6 true (.t 2)⟩,
    ⟨some 53, none, .ld 6 true (.t 2)⟩,
    ⟨some 54, none, .bslice 4 6 [.int .i64 0, .int .u32 0, .int .u32 0, .int .u64 0, .slice none 0 0, .int .i64 0] [(0, 6, .t 50), (6, 6, .t 51), (12, 6, .t 52), (18, 6, .t 53)]⟩,
    ⟨some 55, none, .ld 6 true (.t 3)⟩,
    ⟨some 56, none, .build [.int .i64 0, .int .u32 0, .int .u32 0, .int .u64 0, .slice none 0 0, .int .i64 0] [(0, 1, .c (.int .i64 3)), (5, 1, .c (.int .i64 1))]⟩,
    ⟨some 57, none, .ld 6 true (.t 3)⟩,
    ⟨some 58, none, .build [.int .i64 0, .int .u32 0, .int .u32 0, .int .u64 0, .slice none 0 0, .int .i64 0] [(0, 1, .c (.int .i64 13))]⟩,
    ⟨some 59, none, .ld 6 true (.t 2)⟩,
    ⟨some 60, none, .ld 6 true (.t 5)⟩,
    ⟨some 61, none, .ld 6 true (.t 2)⟩,
    ⟨some 62, none, .bslice 7 6 [.int .i64 0, .int .u32 0, .int .u32 0, .int .u64 0, .slice none 0 0, .int .i64 0] [(0, 6, .t 55), (6, 6, .t 56), (12, 6, .t 57), (18, 6, .t 58), (24, 6, .t 59), (30, 6, .t 60), (36, 6, .t 61)]⟩,
    ⟨some 63, none, .ld 6 true (.t 4)⟩,
    ⟨some 64, none, .ld 6 true (.t 4)⟩,
    ⟨some 65, none, .ld 6 true (.t 3)⟩,
    ⟨some 66, none, .build [.int .i64 0, .int .u32 0, .int .u32 0, .int .u64 0, .slice none 0 0, .int .i64 0] [(0, 1, .c (.int .i64 27))]⟩,
    ⟨some 67, none, .ld 6 true (.t 5)⟩,
    ⟨some 68, none, .ld 6 true (.t 2)⟩,
    ⟨some 69, none, .bslice 6 6 [.int .i64 0, .int .u32 0, .int .u32 0, .int .u64 0, .slice none 0 0, .int .i64 0] [(0, 6, .t 63), (6, 6, .t 64), (12, 6, .t 65), (18, 6, .t 66), (24, 6, .t 67), (30, 6, .t 68)]⟩,
    ⟨some 70, none, .build [.int .i64 0, .int .u32 0, .int .u32 0, .int .u64 0, .slice none 0 0, .int .i64 0] [(0, 1, .c (.int .i64 0))]⟩,
    ⟨some 71, none, .build [.int .i64 0, .int .u32 0, .int .u32 0, .int .u64 0, .slice none 0 0, .int .i64 0] [(0, 1, .c (.int .i64 27))]⟩,
    ⟨some 72, none, .ld 6 true (.t 5)⟩,
    ⟨some 73, none, .ld 6 true (.t 2)⟩,
    ⟨some 74, none, .bslice 4 6 [.int .i64 0, .int .u32 0, .int .u32 0, .int .u64 0, .slice none 0 0, .int .i64 0] [(0, 6, .t 70), (6, 6, .t 71), (12, 6, .t 72), (18, 6, .t 73)]⟩,
    ⟨some 75, none, .ld 6 true (.t 3)⟩,
    ⟨some 76, none, .bslice 2 1 [.int .u32 0] [(0, 1, .c (.int .u32 0)), (1, 1, .c (.int .u32 0))]⟩,
    ⟨some 77, none, .build [.int .i64 0, .int .u32 0, .int .u32 0, .int .u64 0, .slice none 0 0, .int .i64 0] [(0, 1, .c (.int .i64 14)), (4, 1, .t 76), (1, 1, .c (.int .u32 0))]⟩,
    ⟨some 78, none, .ld 6 true (.t 2)⟩,
    ⟨some 79, none, .bslice 3 6 [.int .i64 0, .int .u32 0, .int .u32 0, .int .u64 0, .slice none 0 0, .int .i64 0] [(0, 6, .t 75), (6, 6, .t 77), (12, 6, .t 78)]⟩,
    ⟨some 80, none, .build [.int .i64 0, .int .u32 0, .int .u32 0, .int .u64 0, .slice none 0 0, .int .i64 0] [(0, 1, .c (.int .i64 208)), (1, 1, .c (.int .u32 111))]⟩,
    ⟨some 81, none, .build [.int .i64 0, .int .u32 0, .int .u32 0, .int .u64 0, .slice none 0 0, .int .i64 0] [(0, 1, .c (.int .i64 209))]⟩,
    ⟨some 82, none, .ld 6 true (.t 5)⟩,
    ⟨some 83, none, .ld 6 true (.t 2)⟩,
    ⟨some 84, none, .bslice 4 6 [.int .i64 0, .int .u32 0, .int .u32 0, .int .u64 0, .slice none 0 0, .int .i64 0] [(0, 6, .t 80), (6, 6, .t 81), (12, 6, .t 82), (18, 6, .t 83)]⟩,
    ⟨some 85, none, .ld 6 true (.t 3)⟩,
    ⟨some 86, none, .ld 6 true (.t 3)⟩,
    ⟨some 87, none, .build [.int .i64 0, .int .u32 0, .int .u32 0, .int .u64 0, .slice none 0 0, .int .i64 0] [(0, 1, .c (.int .i64 54)), (1, 1, .c (.int .u32 2))]⟩,
    ⟨some 88, none, .ld 6 true (.t 2)⟩,
    ⟨some 89, none, .bslice 4 6 [.int .i64 0, .int .u32 0, .int .u32 0, .int .u64 0, .slice none 0 0, .int .i64 0] [(0, 6, .t 85), (6, 6, .t 86), (12, 6, .t 87), (18, 6, .t 88)]⟩,
    ⟨some 90, none, .build [.int .i64 0, .int .u32 0, .int .u32 0, .int .u64 0, .slice none 0 0, .int .i64 0] [(0, 1, .c (.int .i64 210))]⟩,
    ⟨some 91, none, .ld 6 true (.t 5)⟩,
    ⟨some 92, none, .ld 6 true (.t 2)⟩,
    ⟨some 93, none, .bslice 3 6 [.int .i64 0, .int .u32 0, .int .u32 0, .int .u64 0, .slice none 0 0, .int .i64 0] [(0, 6, .t 90), (6, 6, .t 91), (12, 6, .t 92)]⟩,
    ⟨some 94, none, .ld 6 true (.t 3)⟩,
    ⟨some 95, none, .ld 6 true (.t 3)⟩,
    ⟨some 96, none, .build [.int .i64 0, .int .u32 0, .int .u32 0, .int .u64 0, .slice none 0 0, .int .i64 0] [(0, 1, .c (.int .i64 17)), (1, 1, .c (.int .u32 1))]⟩,
    ⟨some 97, none, .ld 6 true (.t 5)⟩,
    ⟨some 98, none, .ld 6 true (.t 2)⟩,
    ⟨some 99, none, .bslice 5 6 [.int .i64 0, .int .u32 0, .int .u32 0, .int .u64 0, .slice none 0 0, .int .i64 0] [(0, 6, .t 94), (6, 6, .t 95), (12, 6, .t 96), (18, 6, .t 97), (24, 6, .t 98)]⟩,
    ⟨some 100, none, .ld 6 true (.t 3)⟩,
    ⟨some 101, none, .build [.int .i64 0, .int .u32 0, .int .u32 0, .int .u64 0, .slice none 0 0, .int .i64 0] [(0, 1, .c (.int .i64 2)), (5, 1, .c (.int .i64 5))]⟩,
    ⟨some 102, none, .ld 6 true (.t 3)⟩,
    ⟨some 103, none, .ld 6 true (.t 2)⟩,
    ⟨some 104, none, .build [.int .i64 0, .int .u32 0, .int .u32 0, .int .u64 0, .slice none 0 0, .int .i64 0] [(0, 1, .c (.int .i64 106))]⟩,
    ⟨some 105, none, .ld 6 true (.t 5)⟩,
    ⟨some 106, none, .ld 6 true (.t 2)⟩,
    ⟨some 107, none, .bslice 7 6 [.int .i64 0, .int .u32 0, .int .u32 0, .int .u64 0, .slice none 0 0, .int .i64 0] [(0, 6, .t 100), (6, 6, .t 101), (12, 6, .t 102), (18, 6, .t 103), (24, 6, .t 104), (30, 6, .t 105), (36, 6, .t 106)]⟩,
    ⟨some 108, none, .bslice 16 1 [.slice none 0 0] [(0, 1, .t 19), (1, 1, .t 23), (2, 1, .t 29), (3, 1, .t 35), (4, 1, .t 40), (5, 1, .t 49), (6, 1, .t 54), (7, 1, .t 62), (8, 1, .t 69), (9, 1, .t 74), (10, 1, .t 79), (11, 1, .t 84), (12, 1, .t 89), (13, 1, .t 93), (14, 1, .t 99), (15, 1, .t 107)]⟩,
    ⟨some 6, none, .mov (.t 108)⟩] [1, 2, 3, 4, 5, 6])
   (.seq (.region [⟨some 109, none, .ld 6 true (.t 3)⟩,
    ⟨some 110, none, .ld 6 true (.t 2)⟩,
    ⟨some 111, none, .bslice 2 6 [.int .i64 0, .int .u32 0, .int .u32 0, .int .u64 0, .slice none 0 0, .int .i64 0] [(0, 6, .t 109), (6, 6, .t 110)]⟩,
    ⟨some 112, none, .ld 6 true (.t 5)⟩,
    ⟨some 113, none, .ld 6 true (.t 2)⟩,
    ⟨some 114, none, .bslice 2 6 [.int .i64 0, .int .u32 0, .int .u32 0, .int .u64 0, .slice none 0 0, .int .i64 0] [(0, 6, .t 112), (6, 6, .t 113)]⟩,
    ⟨some 115, none, .build [.int .i64 0, .int .u32 0, .int .u32 0, .int .u64 0, .slice none 0 0, .int .i64 0] [(0, 1, .c (.int .i64 2)), (5, 1, .c (.int .i64 (-1)))]⟩,
    ⟨some 116, none, .ld 6 true (.t 2)⟩,
    ⟨some 117, none, .ld 6 true (.t 5)⟩,
    ⟨some 118, none, .ld 6 true (.t 2)⟩,
    ⟨some 119, none, .bslice 4 6 [.int .i64 0, .int .u32 0, .int .u32 0, .int .u64 0, .slice none 0 0, .int .i64 0] [(0, 6, .t 115), (6, 6, .t 116), (12, 6, .t 117), (18, 6, .t 118)]⟩,
    ⟨some 120, none, .build [.int .i64 0, .int .u32 0, .int .u32 0, .int .u64 0, .slice none 0 0, .int .i64 0] [(0, 1, .c (.int .i64 2)), (5, 1, .c (.int .i64 1))]⟩,
    ⟨some 121, none, .ld 6 true (.t 2)⟩,
    ⟨some 122, none, .ld 6 true (.t 5)⟩,
    ⟨some 123, none, .ld 6 true (.t 2)⟩,
    ⟨some 124, none, .bslice 4 6 [.int .i64 0, .int .u32 0, .int .u32 0, .int .u64 0, .slice none 0 0, .int .i64 0] [(0, 6, .t 120), (6, 6, .t 121), (12, 6, .t 122), (18, 6, .t 123)]⟩,
    ⟨some 125, none, .ld 6 true (.t 3)⟩,
    ⟨some 126, none, .build [.int .i64 0, .int .u32 0, .int .u32 0, .int .u64 0, .slice none 0 0, .int .i64 0] [(0, 1, .c (.int .i64 4)), (5, 1, .c (.int .i64 (-1)))]⟩,
    ⟨some 127, none, .ld 6 true (.t 3)⟩,
    ⟨some 128, none, .ld 6 true (.t 2)⟩,
    ⟨some 129, none, .ld 6 true (.t 5)⟩,
    ⟨some 130, none, .ld 6 true (.t 2)⟩,
    ⟨some 131, none, .bslice 6 6 [.int .i64 0, .int .u32 0, .int .u32 0, .int .u64 0, .slice none 0 0, .int .i64 0] [(0, 6, .t 125), (6, 6, .t 126), (12, 6, .t 127), (18, 6, .t 128), (24, 6, .t 129), (30, 6, .t 130)]⟩,
    ⟨some 132, none, .ld 6 true (.t 3)⟩,
    ⟨some 133, none, .build [.int .i64 0, .int .u32 0, .int .u32 0, .int .u64 0, .slice none 0 0, .int .i64 0] [(0, 1, .c (.int .i64 3)), (5, 1, .c (.int .i64 1))]⟩,
    ⟨some 134, none, .build [.int .i64 0, .int .u32 0, .int .u32 0, .int .u64 0, .slice none 0 0, .int .i64 0] [(0, 1, .c (.int .i64 13)), (1, 1, .c (.int .u32 1))]⟩,
    ⟨some 135, none, .ld 6 true (.t 2)⟩,
    ⟨some 136, none, .ld 6 true (.t 5)⟩,
    ⟨some 137, none, .ld 6 true (.t 2)⟩,
    ⟨some 138, none, .bslice 6 6 [.int .i64 0, .int .u32 0, .int .u32 0, .int .u64 0, .slice none 0 0, .int .i64 0] [(0, 6, .t 132), (6, 6, .t 133), (12, 6, .t 134), (18, 6, .t 135), (24, 6, .t 136), (30, 6, .t 137)]⟩,
    ⟨some 139, none, .ld 6 true (.t 4)⟩,
    ⟨some 140, none, .ld 6 true (.t 3)⟩,
    ⟨some 141, none, .ld 6 true (.t 3)⟩,
    ⟨some 142, none, .build [.int .i64 0, .int .u32 0, .int .u32 0, .int .u64 0, .slice none 0 0, .int .i64 0] [(0, 1, .c (.int .i64 27))]⟩,
    ⟨some 143, none, .ld 6 true (.t 5)⟩,
    ⟨some 144, none, .ld 6 true (.t 2)⟩,
    ⟨some 145, none, .bslice 6 6 [.int .i64 0, .int .u32 0, .int .u32 0, .int .u64 0, .slice none 0 0, .int .i64 0] [(0, 6, .t 139), (6, 6, .t 140), (12, 6, .t 141), (18, 6, .t 142), (24, 6, .t 143), (30, 6, .t 144)]⟩,
    ⟨some 146, none, .build [.int .i64 0, .int .u32 0, .int .u32 0, .int .u64 0, .slice none 0 0, .int .i64 0] [(0, 1, .c (.int .i64 208)), (1, 1, .c (.int .u32 112))]⟩,
    ⟨some 147, none, .build [.int .i64 0, .int .u32 0, .int .u32 0, .int .u64 0, .slice none 0 0, .int .i64 0] [(0, 1, .c (.int .i64 208)), (1, 1, .c (.int .u32 112))]⟩,
    ⟨some 148, none, .ld 6 true (.t 3)⟩,
    ⟨some 149, none, .build [.int .i64 0, .int .u32 0, .int .u32 0, .int .u64 0, .slice none 0 0, .int .i64 0] [(0, 1, .c (.int .i64 27))]⟩,
    ⟨some 150, none, .ld 6 true (.t 5)⟩,
    ⟨some 151, none, .ld 6 true (.t 2)⟩,
    ⟨some 152, none, .bslice 6 6 [.int .i64 0, .int .u32 0, .int .u32 0, .int .u64 0, .slice none 0 0, .int .i64 0] [(0, 6, .t 146), (6, 6, .t 147), (12, 6, .t 148), (18, 6, .t 149), (24, 6, .t 150), (30, 6, .t 151)]⟩,
    ⟨some 153, none, .build [.int .i64 0, .int .u32 0, .int .u32 0, .int .u64 0, .slice none 0 0, .int .i64 0] [(0, 1, .c (.int .i64 12)), (1, 1, .c (.int .u32 1))]⟩,
    ⟨some 154, none, .ld 6 true (.t 2)⟩,
    ⟨some 155, none, .bslice 2 6 [.int .i64 0, .int .u32 0, .int .u32 0, .int .u64 0, .slice none 0 0, .int .i64 0] [(0, 6, .t 153), (6, 6, .t 154)]⟩,
    ⟨some 156, none, .ld 6 true (.t 3)⟩,
    ⟨some 157, none, .ld 6 true (.t 3)⟩,
    ⟨some 158, none, .build [.int .i64 0, .int .u32 0, .int .u32 0, .int .u64 0, .slice none 0 0, .int .i64 0] [(0, 1, .c (.int .i64 54)), (1, 1, .c (.int .u32 3))]⟩,
    ⟨some 159, none, .ld 6 true (.t 2)⟩,
    ⟨some 160, none, .bslice 4 6 [.int .i64 0, .int .u32 0, .int .u32 0, .int .u64 0, .slice none 0 0, .int .i64 0] [(0, 6, .t 156), (6, 6, .t 157), (12, 6, .t 158), (18, 6, .t 159)]⟩,
    ⟨some 161, none, .ld 6 true (.t 3)⟩,
    ⟨some 162, none, .build [.int .i64 0, .int .u32 0, .int .u32 0, .int .u64 0, .slice none 0 0, .int .i64 0] [(0, 1, .c (.int .i64 33))]⟩,
    ⟨some 163, none, .ld 6 true (.t 2)⟩,
    ⟨some 164, none, .bslice 3 6 [.int .i64 0, .int .u32 0, .int .u32 0, .int .u64 0, .slice none 0 0, .int .i64 0] [(0, 6, .t 161), (6, 6, .t 162), (12, 6, .t 163)]⟩,
    ⟨some 165, none, .ld 6 true (.t 3)⟩,
    ⟨some 166, none, .build [.int .i64 0, .int .u32 0, .int .u32 0, .int .u64 0, .slice none 0 0, .int .i64 0] [(0, 1, .c (.int .i64 209))]⟩,
    ⟨some 167, none, .ld 6 true (.t 5)⟩,
    ⟨some 168, none, .ld 6 true (.t 2)⟩,
    ⟨some 169, none, .bslice 4 6 [.int .i64 0, .int .u32 0, .int .u32 0, .int .u64 0, .slice none 0 0, .int .i64 0] [(0, 6, .t 165), (6, 6, .t 166), (12, 6, .t 167), (18, 6, .t 168)]⟩,
    ⟨some 170, none, .build [.int .i64 0, .int .u32 0, .int .u32 0, .int .u64 0, .slice none 0 0, .int .i64 0] [(0, 1, .c (.int .i64 210)), (1, 1, .c (.int .u32 9))]⟩,
    ⟨some 171, none, .ld 6 true (.t 5)⟩,
    ⟨some 172, none, .ld 6 true (.t 2)⟩,
    ⟨some 173, none, .bslice 3 6 [.int .i64 0, .int .u32 0, .int .u32 0, .int .u64 0, .slice none 0 0, .int .i64 0] [(0, 6, .t 170), (6, 6, .t 171), (12, 6, .t 172)]⟩,
    ⟨some 174, none, .ld 6 true (.t 3)⟩,
    ⟨some 175, none, .ld 6 true (.t 3)⟩,
    ⟨some 176, none, .build [.int .i64 0, .int .u32 0, .int .u32 0, .int .u64 0, .slice none 0 0, .int .i64 0] [(0, 1, .c (.int .i64 17)), (1, 1, .c (.int .u32 9))]⟩,
    ⟨some 177, none, .ld 6 true (.t 5)⟩,
    ⟨some 178, none, .ld 6 true (.t 2)⟩,
    ⟨some 179, none, .bslice 5 6 [.int .i64 0, .int .u32 0, .int .u32 0, .int .u64 0, .slice none 0 0, .int .i64 0] [(0, 6, .t 174), (6, 6, .t 175), (12, 6, .t 176), (18, 6, .t 177), (24, 6, .t 178)]⟩,
    ⟨some 180, none, .ld 6 true (.t 3)⟩,
    ⟨some 181, none, .build [.int .i64 0, .int .u32 0, .int .u32 0, .int .u64 0, .slice none 0 0, .int .i64 0] [(0, 1, .c (.int .i64 37)), (1, 1, .c (.int .u32 1))]⟩,
    ⟨some 182, none, .ld 6 true (.t 5)⟩,
    ⟨some 183, none, .ld 6 true (.t 2)⟩,
    ⟨some 184, none, .bslice 4 6 [.int .i64 0, .int .u32 0, .int .u32 0, .int .u64 0, .slice none 0 0, .int .i64 0] [(0, 6, .t 180), (6, 6, .t 181), (12, 6, .t 182), (18, 6, .t 183)]⟩,
    ⟨some 185, none, .ld 6 true (.t 4)⟩,
    ⟨some 186, none, .build [.int .i64 0, .int .u32 0, .int .u32 0, .int .u64 0, .slice none 0 0, .int .i64 0] [(0, 1, .c (.int .i64 36))]⟩,
    ⟨some 187, none, .ld 6 true (.t 2)⟩,
    ⟨some 188, none, .bslice 3 6 [.int .i64 0, .int .u32 0, .int .u32 0, .int .u64 0, .slice none 0 0, .int .i64 0] [(0, 6, .t 185), (6, 6, .t 186), (12, 6, .t 187)]⟩,
    ⟨some 189, none, .build [.int .i64 0, .int .u32 0, .int .u32 0, .int .u64 0, .slice none 0 0, .int .i64 0] [(0, 1, .c (.int .i64 2)), (5, 1, .c (.int .i64 99))]⟩,
    ⟨some 190, none, .ld 6 true (.t 2)⟩,
    ⟨some 191, none, .ld 6 true (.t 2)⟩,
    ⟨some 192, none, .bslice 3 6 [.int .i64 0, .int .u32 0, .int .u32 0, .int .u64 0, .slice none 0 0, .int .i64 0] [(0, 6, .t 189), (6, 6, .t 190), (12, 6, .t 191)]⟩,
    ⟨some 193, none, .build [.int .i64 0, .int .u32 0, .int .u32 0, .int .u64 0, .slice none 0 0, .int .i64 0] [(0, 1, .c (.int .i64 64521)), (1, 1, .c (.int .u32 2))]⟩,
    ⟨some 194, none, .ld 6 true (.t 2)⟩,
    ⟨some 195, none, .bslice 2 6 [.int .i64 0, .int .u32 0, .int .u32 0, .int .u64 0, .slice none 0 0, .int .i64 0] [(0, 6, .t 193), (6, 6, .t 194)]⟩,
    ⟨some 196, none, .ld 6 true (.t 2)⟩,
    ⟨some 197, none, .ld 6 true (.t 2)⟩,
    ⟨some 198, none, .bslice 2 6 [.int .i64 0, .int .u32 0, .int .u32 0, .int .u64 0, .slice none 0 0, .int .i64 0] [(0, 6, .t 196), (6, 6, .t 197)]⟩,
    ⟨some 199, none, .bslice 19 1 [.slice none 0 0] [(0, 1, .t 111), (1, 1, .t 114), (2, 1, .t 119), (3, 1, .t 124), (4, 1, .t 131), (5, 1, .t 138), (6, 1, .t 145), (7, 1, .t 152), (8, 1, .t 155), (9, 1, .t 160), (10, 1, .t 164), (11, 1, .t 169), (12, 1, .t 173), (13, 1, .t 179), (14, 1, .t 184), (15, 1, .t 188), (16, 1, .t 192), (17, 1, .t 195), (18, 1, .t 198)]⟩,
    ⟨some 7, none, .mov (.t 199)⟩] [1, 6, 7])
   (.seq (.seq (.region [⟨some 8, none, .mov (.c (.int .i64 0))⟩] [1, 6, 7, 8])
   (.block 0 (.loop (.seq (.seq (.region [⟨some 200, none, .mov (.t 8)⟩,
    ⟨some 201, none, .mov (.t 6)⟩,
    ⟨some 202, none, .lenV (.t 201)⟩,
    ⟨some 203, none, .bin .lss (.t 200) (.t 202)⟩] [1, 6, 7, 8, 203])
   (.cond (.t 203) (.skip) (.exit 0)))
   (.seq (.block 1 (.seq (.region [⟨some 206, none, .ld 13 true (.t 1)⟩,
    ⟨some 207, none, .build [.slice none 0 0, .slice none 0 0] []⟩,
    ⟨some 208, none, .mov (.t 6)⟩,
    ⟨some 209, none, .mov (.t 8)⟩,
    ⟨some 210, none, .iaV 1 (.t 208) (.t 209)⟩,
    ⟨some 211, none, .ld 1 false (.t 210)⟩,
    ⟨some 212, none, .build [.slice none 0 0, .slice none 0 0] [(1, 1, .t 211)]⟩,
    ⟨some 213, none, .call 37 [.t 206, .t 207, .t 212]⟩,
    ⟨some 214, none, .bin .neq (.t 213) (.c (.int .i64 0))⟩] [1, 6, 7, 8, 214])
   (.cond (.t 214) (.seq (.region [⟨some 0, none, .mov (.c (.bool false))⟩] [0])
   (.ret)) (.skip))))
   (.region [⟨some 204, none, .mov (.t 8)⟩,
    ⟨some 205, none, .bin .add (.t 204) (.c (.int .i64 1))⟩,
    ⟨some 8, none, .mov (.t 205)⟩] [1, 6, 7, 8]))))))
   (.seq (.seq (.region [⟨some 9, none, .mov (.c (.int .i64 0))⟩] [1, 7, 9])
   (.block 2 (.loop (.seq (.seq (.region [⟨some 215, none, .mov (.t 9)⟩,
    ⟨some 216, none, .mov (.t 7)⟩,
    ⟨some 217, none, .lenV (.t 216)⟩,
    ⟨some 218, none, .bin .lss (.t 215) (.t 217)⟩] [1, 7, 9, 218])
   (.cond (.t 218) (.skip) (.exit 2)))
   (.seq (.block 3 (.seq (.region [⟨some 221, none, .ld 13 true (.t 1)⟩,
    ⟨some 222, none, .build [.slice none 0 0, .slice none 0 0] []⟩,
    ⟨some 223, none, .mov (.t 7)⟩,
    ⟨some 224, none, .mov (.t 9)⟩,
    ⟨some 225, none, .iaV 1 (.t 223) (.t 224)⟩,
    ⟨some 226, none, .ld 1 false (.t 225)⟩,
    ⟨some 227, none, .build [.slice none 0 0, .slice none 0 0] [(1, 1, .t 226)]⟩,
    ⟨some 228, none, .call 37 [.t 221, .t 222, .t 227]⟩,
    ⟨some 229, none, .bin .neq (.t 228) (.c (.int .i64 6))⟩] [1, 7, 9, 229])
   (.cond (.t 229) (.seq (.region [⟨some 0, none, .mov (.c (.bool false))⟩] [0])
   (.ret)) (.skip))))
   (.region [⟨some 219, none, .mov (.t 9)⟩,
    ⟨some 220, none, .bin .add (.t 219) (.c (.int .i64 1))⟩,
    ⟨some 9, none, .mov (.t 220)⟩] [1, 7, 9]))))))
   (.seq (.region [⟨some 0, none, .mov (.c (.bool true))⟩] [0])
   (.ret))))))))))),
  [.t 0], 230, 0⟩
def A11 : Ann := ⟨[(0, []), (1, [11]), (2, [0]), (3, [1]), (4, [1, 2]), (5, [1, 2, 3, 4]), (6, [1, 2, 3, 4, 5]), (7, [1, 2, 3, 4, 5, 6]), (8, [1, 6, 7]), (9, [1, 6, 7, 8]), (10, [1, 6, 7, 8, 203]), (11, [1, 6, 7, 8]), (12, [1, 6, 7, 8, 214]), (13, [0]), (14, [1, 7, 9]), (15, [1, 7, 9, 218]), (16, [1, 7, 9]), (17, [1, 7, 9, 229]), (18, [0]), (19, [0])], [(12, [(0, []), (1, []), (2, []), (3, []), (4, []), (5, []), (6, []), (7, []), (8, [])], [(4, [2, 3]), (5, [2, 3, 4]), (6, [2, 3, 4, 5]), (7, [0, 1, 2, 3, 4, 5, 6]), (8, [0, 1, 2, 3, 4, 5, 6, 7])]),
  (17, [(0, []), (1, []), (2, []), (3, []), (4, []), (5, []), (6, []), (7, []), (8, [])], [(4, [2, 3]), (5, [2, 3, 4]), (6, [2, 3, 4, 5]), (7, [0, 1, 2, 3, 4, 5, 6]), (8, [0, 1, 2, 3, 4, 5, 6, 7])])]⟩
set_option maxRecDepth 100000 in
theorem F11.ok : compF Try.prog A11 Try.f11 = some F11 := by kernel_rfl
theorem F11.fok : FOk Try.prog 11 F11 := fok_of mixed Try.func11 F11.ok

/-- cloakroom/cloakroomlaw11.begun -/
def F34 : SFn := ⟨.seq (.region [⟨some 0, none, .mov (.c (.bool false))⟩] [])
   (.seq (.region [⟨some 3, none, .build [.int .i64 0, .int .u32 0, .int .u32 0, .int .u64 0, .slice none 0 0, .int .i64 0] [(0, 1, .c (.int .i64 11))]⟩,
    ⟨some 1, none, .new [.int .i64 0, .int .u32 0, .int .u32 0, .int .u64 0, .slice none 0 0, .int .i64 0]⟩,
    ⟨none, none, .st 6 (.t 1) (.t 3)⟩] [1])
   (.seq (.region [⟨some 4, none, .build [.slice none 0 0, .slice none 0 0, .slice none 0 0, .slice none 0 0, .slice none 0 0, .slice none 0 0, .bool false, .int .u32 0, .slice none 0 0, .bool false, .int .u32 0, .slice none 0 0, .slice none 0 0] []⟩,
    ⟨some 2, none, .new [.slice none 0 0, .slice none 0 0, .slice none 0 0, .slice none 0 0, .slice none 0 0, .slice none 0 0, .bool false, .int .u32 0, .slice none 0 0, .bool false, .int .u32 0, .slice none 0 0, .slice none 0 0]⟩,
    ⟨none, none, .st 13 (.t 2) (.t 4)⟩] [1, 2])
   (.seq (.region [⟨some 5, none, .ld 13 true (.t 2)⟩,
    ⟨some 6, none, .build [.slice none 0 0, .slice none 0 0] []⟩,
    ⟨some 7, none, .ld 6 true (.t 1)⟩,
    ⟨some 8, none, .bslice 1 6 [.int .i64 0, .int .u32 0, .int .u32 0, .int .u64 0, .slice none 0 0, .int .i64 0] [(0, 6, .t 7)]⟩,
    ⟨some 9, none, .build [.slice none 0 0, .slice none 0 0] [(1, 1, .t 8)]⟩,
    ⟨some 10, none, .call 37 [.t 5, .t 6, .t 9]⟩,
    ⟨some 11, none, .bin .eql (.t 10) (.c (.int .i64 0))⟩,
    ⟨some 12, none, .mov (.t 11)⟩,
    ⟨some 13, some (12, true), .ld 13 true (.t 2)⟩,
    ⟨some 14, some (12, true), .build [.slice none 0 0, .slice none 0 0] []⟩,
    ⟨some 15, some (12, true), .build [.int .i64 0, .int .u32 0, .int .u32 0, .int .u64 0, .slice none 0 0, .int .i64 0] [(0, 1, .c (.int .i64 26))]⟩,
    ⟨some 16, some (12, true), .ld 6 true (.t 1)⟩,
    ⟨some 17, some (12, true), .bslice 2 6 [.int .i64 0, .int .u32 0, .int .u32 0, .int .u64 0, .slice none 0 0, .int .i64 0] [(0, 6, .t 15), (6, 6, .t 16)]⟩,
    ⟨some 18, some (12, true), .build [.slice none 0 0, .slice none 0 0] [(1, 1, .t 17)]⟩,
    ⟨some 19, some (12, true), .call 37 [.t 13, .t 14, .t 18]⟩,
    ⟨some 20, some (12, true), .bin .eql (.t 19) (.c (.int .i64 6))⟩,
    ⟨some 21, none, .pick (.t 12) (.t 20) (.c (.bool false))⟩,
    ⟨some 22, none, .mov (.t 21)⟩,
    ⟨some 23, some (22, true), .ld 13 true (.t 2)⟩,
    ⟨some 24, some (22, true), .build [.int .i64 0, .int .u32 0, .int .u32 0, .int .u64 0, .slice none 0 0, .int .i64 0] [(0, 1, .c (.int .i64 65))]⟩,
    ⟨some 25, some (22, true), .ld 6 true (.t 1)⟩,
    ⟨some 26, some (22, true), .bslice 2 6 [.int .i64 0, .int .u32 0, .int .u32 0, .int .u64 0, .slice none 0 0, .int .i64 0] [(0, 6, .t 24), (6, 6, .t 25)]⟩,
    ⟨some 27, some (22, true), .call 65 [.t 23, .c (.int .u8 127), .t 26]⟩,
    ⟨some 28, some (22, true), .bin .eql (.t 27) (.c (.int .i64 0))⟩,
    ⟨some 29, none, .pick (.t 22) (.t 28) (.c (.bool false))⟩,
    ⟨some 30, none, .mov (.t 29)⟩,
    ⟨some 31, some (30, true), .ld 13 true (.t 2)⟩,
    ⟨some 32, some (30, true), .build [.int .i64 0, .int .u32 0, .int .u32 0, .int .u64 0, .slice none 0 0, .int .i64 0] [(0, 1, .c (.int .i64 65))]⟩,
    ⟨some 33, some (30, true), .ld 6 true (.t 1)⟩,
    ⟨some 34, some (30, true), .bslice 2 6 [.int .i64 0, .int .u32 0, .int .u32 0, .int .u64 0, .slice none 0 0, .int .i64 0] [(0, 6, .t 32), (6, 6, .t 33)]⟩,
    ⟨some 35, some (30, true), .call 65 [.t 31, .c (.int .u8 126), .t 34]⟩,
    ⟨some 36, some (30, true), .bin .eql (.t 35) (.c (.int .i64 6))⟩,
    ⟨some 37, none, .pick (.t 30) (.t 36) (.c (.bool false))⟩,
    ⟨some 0, none, .mov (.t 37)⟩] [0])
   (.ret)))),
  [.t 0], 38, 0⟩
def A34 : Ann := ⟨[(0, []), (1, [1]), (2, [1, 2]), (3, [0])], []⟩
set_option maxRecDepth 100000 in
theorem F34.ok : compF Try.prog A34 Try.f34 = some F34 := by kernel_rfl
theorem F34.fok : FOk Try.prog 34 F34 := fok_of mixed Try.func34 F34.ok

/-- cloakroom/cloakroomplay.Made -/
def F35 : SFn := ⟨.seq (.region [⟨some 2, none, .mov (.c (.pointer none))⟩] [0])
   (.seq (.region [⟨some 3, none, .mov (.t 0)⟩,
    ⟨some 4, none, .build [.slice none 0 0, .int .i64 0] [(0, 1, .t 3)]⟩,
    ⟨some 5, none, .box (.t 4)⟩,
    ⟨some 2, none, .mov (.t 5)⟩] [2])
   (.ret)),
  [.t 2], 6, 1⟩
def A35 : Ann := ⟨[(0, [0]), (1, [2])], []⟩
set_option maxRecDepth 100000 in
theorem F35.ok : compF Try.prog A35 Try.f35 = some F35 := by kernel_rfl
theorem F35.fok : FOk Try.prog 35 F35 := fok_of mixed Try.func35 F35.ok

/-- (*cloakroom/cloakroomplay.Picks).Module -/
def F36 : SFn := ⟨.seq (.region [⟨some 2, none, .new [.slice none 0 0, .slice none 0 0, .slice none 0 0, .slice none 0 0, .slice none 0 0, .slice none 0 0, .bool false, .int .u32 0, .slice none 0 0, .bool false, .int .u32 0, .slice none 0 0, .slice none 0 0]⟩] [0, 2])
   (.seq (.region [⟨some 16, none, .call 66 []⟩,
    ⟨some 17, none, .mov (.t 0)⟩,
    ⟨some 18, none, .call 67 [.t 17, .c (.int .i64 4)]⟩,
    ⟨some 19, none, .bin .quo (.t 18) (.c (.int .i64 3))⟩,
    ⟨some 20, none, .conv .u32 (.t 19)⟩,
    ⟨some 21, none, .build [.int .u32 0, .int .u32 0, .bool false] [(0, 1, .t 20)]⟩,
    ⟨some 22, none, .bslice 1 3 [.int .u32 0, .int .u32 0, .bool false] [(0, 3, .t 21)]⟩,
    ⟨some 23, none, .build [.int .u32 0, .int .u32 0, .bool false] [(0, 1, .c (.int .u32 4))]⟩,
    ⟨some 24, none, .build [.int .u8 0, .int .u32 0, .int .u32 0, .bool false] [(0, 1, .c (.int .u8 112)), (1, 3, .t 23)]⟩,
    ⟨some 25, none, .bslice 1 4 [.int .u8 0, .int .u32 0, .int .u32 0, .bool false] [(0, 4, .t 24)]⟩,
    ⟨some 26, none, .build [.slice none 0 0, .slice none 0 0, .slice none 0 0, .slice none 0 0, .slice none 0 0, .slice none 0 0, .bool false, .int .u32 0, .slice none 0 0, .bool false, .int .u32 0, .slice none 0 0, .slice none 0 0] [(0, 1, .t 16), (3, 1, .t 22), (2, 1, .t 25)]⟩,
    ⟨some 3, none, .new [.slice none 0 0, .slice none 0 0, .slice none 0 0, .slice none 0 0, .slice none 0 0, .slice none 0 0, .bool false, .int .u32 0, .slice none 0 0, .bool false, .int .u32 0, .slice none 0 0, .slice none 0 0]⟩,
    ⟨none, none, .st 13 (.t 3) (.t 26)⟩] [0, 2, 3])
   (.seq (.seq (.region [⟨some 27, none, .mov (.t 0)⟩,
    ⟨some 28, none, .call 67 [.t 27, .c (.int .i64 2)]⟩,
    ⟨some 29, none, .bin .eql (.t 28) (.c (.int .i64 0))⟩] [0, 2, 3, 29])
   (.cond (.t 29) (.region [⟨some 30, none, .fa 2 (.t 3)⟩,
    ⟨some 31, none, .ld 1 false (.t 30)⟩,
    ⟨some 32, none, .fa 2 (.t 3)⟩,
    ⟨some 33, none, .ld 1 false (.t 32)⟩,
    ⟨some 34, none, .iaV 4 (.t 31) (.c (.int .i64 0))⟩,
    ⟨some 35, none, .fa 1 (.t 34)⟩,
    ⟨some 36, none, .fa 1 (.t 35)⟩,
    ⟨none, none, .st 1 (.t 36) (.c (.int .u32 8))⟩,
    ⟨some 37, none, .iaV 4 (.t 33) (.c (.int .i64 0))⟩,
    ⟨some 38, none, .fa 1 (.t 37)⟩,
    ⟨some 39, none, .fa 2 (.t 38)⟩,
    ⟨none, none, .st 1 (.t 39) (.c (.bool true))⟩] [0, 2, 3]) (.skip)))
   (.seq (.seq (.region [⟨some 40, none, .fa 3 (.t 3)⟩,
    ⟨some 41, none, .ld 1 false (.t 40)⟩,
    ⟨some 42, none, .iaV 3 (.t 41) (.c (.int .i64 0))⟩,
    ⟨some 43, none, .fa 0 (.t 42)⟩,
    ⟨some 44, none, .ld 1 false (.t 43)⟩,
    ⟨some 45, none, .bin .eql (.t 44) (.c (.int .u32 0))⟩,
    ⟨some 46, none, .mov (.t 45)⟩,
    ⟨some 47, some (46, true), .mov (.t 0)⟩,
    ⟨some 48, some (46, true), .call 67 [.t 47, .c (.int .i64 4)]⟩,
    ⟨some 49, some (46, true), .bin .gtr (.t 48) (.c (.int .i64 0))⟩,
    ⟨some 50, none, .pick (.t 46) (.t 49) (.c (.bool false))⟩] [0, 2, 3, 50])
   (.cond (.t 50) (.region [⟨some 51, none, .fa 3 (.t 3)⟩,
    ⟨some 52, none, .ld 1 false (.t 51)⟩,
    ⟨some 53, none, .iaV 3 (.t 52) (.c (.int .i64 0))⟩,
    ⟨some 54, none, .fa 0 (.t 53)⟩,
    ⟨none, none, .st 1 (.t 54) (.c (.int .u32 1))⟩] [0, 2, 3]) (.skip)))
   (.seq (.region [⟨some 55, none, .build [.int .i64 0, .int .u32 0, .int .u32 0, .int .u64 0, .slice none 0 0, .int .i64 0] [(0, 1, .c (.int .i64 11))]⟩,
    ⟨some 4, none, .new [.int .i64 0, .int .u32 0, .int .u32 0, .int .u64 0, .slice none 0 0, .int .i64 0]⟩,
    ⟨none, none, .st 6 (.t 4) (.t 55)⟩] [0, 2, 3, 4])
   (.seq (.region [⟨some 56, none, .mov (.t 0)⟩,
    ⟨some 60, none, .ld 6 true (.t 4)⟩,
    ⟨some 63, none, .build [.int .i64 0, .int .u32 0, .int .u32 0, .int .u64 0, .slice none 0 0, .int .i64 0] [(0, 1, .c (.int .i64 66)), (3, 1, .c (.int .u64 18446744073709551615))]⟩,
    ⟨some 64, none, .ld 6 true (.t 4)⟩,
    ⟨some 65, none, .bslice 2 6 [.int .i64 0, .int .u32 0, .int .u32 0, .int .u64 0, .slice none 0 0, .int .i64 0] [(0, 6, .t 63), (6, 6, .t 64)]⟩,
    ⟨some 66, none, .build [.int .u8 0, .bool false, .slice none 0 0] [(0, 1, .c (.int .u8 126)), (1, 1, .c (.bool true)), (2, 1, .t 65)]⟩,
    ⟨some 57, none, .call 67 [.t 56, .c (.int .i64 9)]⟩,
    ⟨none, none, .chk 6 true (.t 4) 60⟩,
    ⟨none, none, .chk 6 true (.t 4) 64⟩,
    ⟨some 58, none, .conv .u64 (.t 57)⟩,
    ⟨some 59, none, .build [.int .i64 0, .int .u32 0, .int .u32 0, .int .u64 0, .slice none 0 0, .int .i64 0] [(0, 1, .c (.int .i64 65)), (3, 1, .t 58)]⟩,
    ⟨some 61, none, .bslice 2 6 [.int .i64 0, .int .u32 0, .int .u32 0, .int .u64 0, .slice none 0 0, .int .i64 0] [(0, 6, .t 59), (6, 6, .t 60)]⟩,
    ⟨some 62, none, .build [.int .u8 0, .bool false, .slice none 0 0] [(0, 1, .c (.int .u8 127)), (1, 1, .c (.bool true)), (2, 1, .t 61)]⟩,
    ⟨some 67, none, .bslice 2 3 [.int .u8 0, .bool false, .slice none 0 0] [(0, 3, .t 62), (3, 3, .t 66)]⟩,
    ⟨some 68, none, .fa 4 (.t 3)⟩,
    ⟨none, none, .st 1 (.t 68) (.t 67)⟩] [0, 2, 3, 4])
   (.seq (.region [⟨some 69, none, .mov (.t 0)⟩,
    ⟨some 70, none, .call 67 [.t 69, .c (.int .i64 3)]⟩,
    ⟨some 71, none, .bin .add (.c (.int .i64 1)) (.t 70)⟩,
    ⟨some 5, none, .mov (.t 71)⟩] [0, 2, 3, 4, 5])
   (.seq (.seq (.region [⟨some 6, none, .mov (.c (.int .i64 0))⟩] [0, 2, 3, 4, 5, 6])
   (.block 0 (.loop (.seq (.seq (.region [⟨some 72, none, .mov (.t 6)⟩,
    ⟨some 73, none, .mov (.t 5)⟩,
    ⟨some 74, none, .bin .lss (.t 72) (.t 73)⟩] [0, 2, 3, 4, 5, 6, 74])
   (.cond (.t 74) (.skip) (.exit 0)))
   (.seq (.block 1 (.seq (.region [⟨some 77, none, .fa 1 (.t 3)⟩,
    ⟨some 78, none, .ld 1 false (.t 77)⟩,
    ⟨some 79, none, .mov (.t 0)⟩,
    ⟨some 80, none, .call 67 [.t 79, .c (.int .i64 5)]⟩,
    ⟨none, none, .chk 1 false (.t 77) 78⟩,
    ⟨some 81, none, .bin .add (.c (.int .i64 1)) (.t 80)⟩,
    ⟨some 82, none, .conv .u32 (.t 81)⟩,
    ⟨some 83, none, .bslice 1 1 [.int .u32 0] [(0, 1, .t 82)]⟩,
    ⟨some 84, none, .app 1 4 (.t 78) (.t 83)⟩,
    ⟨some 85, none, .fa 1 (.t 3)⟩,
    ⟨none, none, .st 1 (.t 85) (.t 84)⟩] [0, 2, 3, 4, 5, 6])
   (.region [⟨some 86, none, .fa 5 (.t 3)⟩,
    ⟨some 87, none, .ld 1 false (.t 86)⟩,
    ⟨some 88, none, .mov (.t 6)⟩,
    ⟨some 89, none, .bin .add (.c (.int .i64 48)) (.t 88)⟩,
    ⟨some 90, none, .conv .u8 (.t 89)⟩,
    ⟨some 91, none, .bslice 1 1 [.int .u8 0] [(0, 1, .t 90)]⟩,
    ⟨some 92, none, .toStr (.t 91)⟩,
    ⟨some 93, none, .bin .add (.c (.string { data := #[102] })) (.t 92)⟩,
    ⟨some 94, none, .mov (.t 6)⟩,
    ⟨some 95, none, .conv .u32 (.t 94)⟩,
    ⟨some 96, none, .build [.string ByteArray.empty, .int .u8 0, .int .u32 0] [(0, 1, .t 93), (2, 1, .t 95)]⟩,
    ⟨some 97, none, .bslice 1 3 [.string ByteArray.empty, .int .u8 0, .int .u32 0] [(0, 3, .t 96)]⟩,
    ⟨some 98, none, .app 3 24 (.t 87) (.t 97)⟩,
    ⟨some 99, none, .fa 5 (.t 3)⟩,
    ⟨none, none, .st 1 (.t 99) (.t 98)⟩] [0, 2, 3, 4, 5, 6])))
   (.region [⟨some 75, none, .mov (.t 6)⟩,
    ⟨some 76, none, .bin .add (.t 75) (.c (.int .i64 1))⟩,
    ⟨some 6, none, .mov (.t 76)⟩] [0, 2, 3, 4, 5, 6]))))))
   (.seq (.region [⟨some 7, none, .mov (.c (.slice none 0 0))⟩] [0, 2, 3, 4, 5, 7])
   (.seq (.seq (.region [⟨some 8, none, .mov (.c (.int .i64 0))⟩] [0, 2, 3, 4, 5, 7, 8])
   (.block 2 (.loop (.seq (.seq (.region [⟨some 100, none, .mov (.t 8)⟩,
    ⟨some 101, none, .bin .lss (.t 100) (.c (.int .i64 3))⟩] [0, 2, 3, 4, 5, 7, 8, 101])
   (.cond (.t 101) (.skip) (.exit 2)))
   (.seq (.block 3 (.seq (.region [⟨some 104, none, .mov (.t 0)⟩,
    ⟨some 105, none, .mov (.t 5)⟩,
    ⟨some 109, none, .ld 6 true (.t 4)⟩,
    ⟨some 106, none, .call 67 [.t 104, .t 105]⟩,
    ⟨none, none, .chk 6 true (.t 4) 109⟩,
    ⟨some 107, none, .conv .u32 (.t 106)⟩,
    ⟨some 108, none, .build [.int .i64 0, .int .u32 0, .int .u32 0, .int .u64 0, .slice none 0 0, .int .i64 0] [(0, 1, .c (.int .i64 210)), (1, 1, .t 107)]⟩,
    ⟨some 110, none, .bslice 2 6 [.int .i64 0, .int .u32 0, .int .u32 0, .int .u64 0, .slice none 0 0, .int .i64 0] [(0, 6, .t 108), (6, 6, .t 109)]⟩,
    ⟨some 9, none, .mov (.t 110)⟩] [0, 2, 3, 4, 5, 7, 8, 9])
   (.seq (.seq (.region [⟨some 111, none, .mov (.t 0)⟩,
    ⟨some 112, none, .call 67 [.t 111, .c (.int .i64 4)]⟩,
    ⟨some 113, none, .bin .eql (.t 112) (.c (.int .i64 0))⟩] [0, 2, 3, 4, 5, 7, 8, 9, 113])
   (.cond (.t 113) (.region [⟨some 114, none, .mov (.t 9)⟩,
    ⟨some 115, none, .build [.int .i64 0, .int .u32 0, .int .u32 0, .int .u64 0, .slice none 0 0, .int .i64 0] [(0, 1, .c (.int .i64 208)), (1, 1, .c (.int .u32 112))]⟩,
    ⟨some 116, none, .iaV 6 (.t 114) (.c (.int .i64 0))⟩,
    ⟨none, none, .st 6 (.t 116) (.t 115)⟩] [0, 2, 3, 4, 5, 7, 8, 9]) (.skip)))
   (.region [⟨some 117, none, .mov (.t 7)⟩,
    ⟨some 118, none, .mov (.t 9)⟩,
    ⟨some 119, none, .bslice 1 1 [.slice none 0 0] [(0, 1, .t 118)]⟩,
    ⟨some 120, none, .app 1 24 (.t 117) (.t 119)⟩,
    ⟨some 7, none, .mov (.t 120)⟩] [0, 2, 3, 4, 5, 7, 8]))))
   (.region [⟨some 102, none, .mov (.t 8)⟩,
    ⟨some 103, none, .bin .add (.t 102) (.c (.int .i64 1))⟩,
    ⟨some 8, none, .mov (.t 103)⟩] [0, 2, 3, 4, 5, 7, 8]))))))
   (.seq (.region [⟨some 121, none, .mov (.t 0)⟩,
    ⟨some 125, none, .ld 6 true (.t 4)⟩,
    ⟨some 122, none, .call 67 [.t 121, .c (.int .i64 2)]⟩,
    ⟨none, none, .chk 6 true (.t 4) 125⟩,
    ⟨some 123, none, .conv .u64 (.t 122)⟩,
    ⟨some 124, none, .build [.int .i64 0, .int .u32 0, .int .u32 0, .int .u64 0, .slice none 0 0, .int .i64 0] [(0, 1, .c (.int .i64 65)), (3, 1, .t 123)]⟩,
    ⟨some 126, none, .bslice 2 6 [.int .i64 0, .int .u32 0, .int .u32 0, .int .u64 0, .slice none 0 0, .int .i64 0] [(0, 6, .t 124), (6, 6, .t 125)]⟩,
    ⟨some 10, none, .mov (.t 126)⟩] [0, 2, 3, 4, 5, 7, 10])
   (.seq (.region [⟨some 127, none, .mov (.t 10)⟩,
    ⟨some 128, none, .mov (.t 7)⟩,
    ⟨some 129, none, .build [.int .u8 0, .int .u8 0, .int .u32 0, .slice none 0 0, .slice none 0 0] [(1, 1, .c (.int .u8 112)), (3, 1, .t 127), (4, 1, .t 128)]⟩,
    ⟨some 130, none, .mov (.t 7)⟩,
    ⟨some 131, none, .build [.int .u8 0, .int .u8 0, .int .u32 0, .slice none 0 0, .slice none 0 0] [(0, 1, .c (.int .u8 1)), (1, 1, .c (.int .u8 112)), (4, 1, .t 130)]⟩,
    ⟨some 132, none, .bslice 2 5 [.int .u8 0, .int .u8 0, .int .u32 0, .slice none 0 0, .slice none 0 0] [(0, 5, .t 129), (5, 5, .t 131)]⟩,
    ⟨some 133, none, .fa 8 (.t 3)⟩,
    ⟨none, none, .st 1 (.t 133) (.t 132)⟩] [0, 2, 3, 4, 5])
   (.seq (.region [⟨some 134, none, .bslice 7 1 [.int .u8 0] [(0, 1, .c (.int .u8 112)), (1, 1, .c (.int .u8 97)), (2, 1, .c (.int .u8 115)), (3, 1, .c (.int .u8 115)), (4, 1, .c (.int .u8 105)), (5, 1, .c (.int .u8 118)), (6, 1, .c (.int .u8 101))]⟩,
    ⟨some 135, none, .mark (.t 134)⟩,
    ⟨some 136, none, .build [.int .u8 0, .slice none 0 0, .slice none 0 0] [(0, 1, .c (.int .u8 1)), (2, 1, .t 135)]⟩,
    ⟨some 137, none, .bslice 3 1 [.int .u8 0] [(0, 1, .c (.int .u8 1)), (1, 1, .c (.int .u8 2)), (2, 1, .c (.int .u8 255))]⟩,
    ⟨some 138, none, .build [.int .u8 0, .slice none 0 0, .slice none 0 0] [(0, 1, .c (.int .u8 1)), (2, 1, .t 137)]⟩,
    ⟨some 139, none, .bslice 2 3 [.int .u8 0, .slice none 0 0, .slice none 0 0] [(0, 3, .t 136), (3, 3, .t 138)]⟩,
    ⟨some 140, none, .fa 12 (.t 3)⟩,
    ⟨none, none, .st 1 (.t 140) (.t 139)⟩] [0, 2, 3, 4, 5])
   (.seq (.seq (.region [⟨some 141, none, .fa 3 (.t 3)⟩,
    ⟨some 142, none, .ld 1 false (.t 141)⟩,
    ⟨some 143, none, .iaV 3 (.t 142) (.c (.int .i64 0))⟩,
    ⟨some 144, none, .fa 0 (.t 143)⟩,
    ⟨some 145, none, .ld 1 false (.t 144)⟩,
    ⟨some 146, none, .bin .gtr (.t 145) (.c (.int .u32 0))⟩] [0, 2, 3, 4, 5, 146])
   (.cond (.t 146) (.region [⟨some 147, none, .fa 12 (.t 3)⟩,
    ⟨some 148, none, .ld 1 false (.t 147)⟩,
    ⟨some 149, none, .fa 12 (.t 3)⟩,
    ⟨some 150, none, .ld 1 false (.t 149)⟩,
    ⟨some 151, none, .mov (.t 0)⟩,
    ⟨some 155, none, .ld 6 true (.t 4)⟩,
    ⟨some 152, none, .call 67 [.t 151, .c (.int .i64 3)]⟩,
    ⟨none, none, .chk 1 false (.t 147) 148⟩,
    ⟨none, none, .chk 1 false (.t 149) 150⟩,
    ⟨none, none, .chk 6 true (.t 4) 155⟩,
    ⟨some 153, none, .conv .u64 (.t 152)⟩,
    ⟨some 154, none, .build [.int .i64 0, .int .u32 0, .int .u32 0, .int .u64 0, .slice none 0 0, .int .i64 0] [(0, 1, .c (.int .i64 65)), (3, 1, .t 153)]⟩,
    ⟨some 156, none, .bslice 2 6 [.int .i64 0, .int .u32 0, .int .u32 0, .int .u64 0, .slice none 0 0, .int .i64 0] [(0, 6, .t 154), (6, 6, .t 155)]⟩,
    ⟨some 157, none, .iaV 3 (.t 148) (.c (.int .i64 1))⟩,
    ⟨some 158, none, .fa 0 (.t 157)⟩,
    ⟨none, none, .st 1 (.t 158) (.c (.int .u8 0))⟩,
    ⟨none, none, .chk 6 true (.t 4) 155⟩,
    ⟨some 159, none, .iaV 3 (.t 150) (.c (.int .i64 1))⟩,
    ⟨some 160, none, .fa 1 (.t 159)⟩,
    ⟨none, none, .st 1 (.t 160) (.t 156)⟩] [0, 2, 3, 4, 5]) (.skip)))
   (.seq (.region [⟨some 161, none, .fa 9 (.t 3)⟩,
    ⟨none, none, .st 1 (.t 161) (.c (.bool true))⟩,
    ⟨some 162, none, .fa 10 (.t 3)⟩,
    ⟨none, none, .st 1 (.t 162) (.c (.int .u32 2))⟩] [0, 2, 3, 4, 5])
   (.seq (.seq (.region [⟨some 11, none, .mov (.c (.int .i64 0))⟩] [0, 2, 3, 4, 5, 11])
   (.block 4 (.loop (.seq (.seq (.region [⟨some 163, none, .mov (.t 11)⟩,
    ⟨some 164, none, .mov (.t 5)⟩,
    ⟨some 165, none, .bin .lss (.t 163) (.t 164)⟩] [0, 2, 3, 4, 5, 11, 165])
   (.cond (.t 165) (.skip) (.exit 4)))
   (.seq (.block 5 (.seq (.region [⟨some 168, none, .fa 0 (.t 3)⟩,
    ⟨some 169, none, .ld 1 false (.t 168)⟩,
    ⟨some 170, none, .fa 1 (.t 3)⟩,
    ⟨some 171, none, .ld 1 false (.t 170)⟩,
    ⟨some 172, none, .mov (.t 11)⟩,
    ⟨some 173, none, .iaV 1 (.t 171) (.t 172)⟩,
    ⟨some 174, none, .ld 1 false (.t 173)⟩,
    ⟨some 175, none, .iaV 2 (.t 169) (.t 174)⟩,
    ⟨some 176, none, .ld 2 true (.t 175)⟩,
    ⟨some 12, none, .new [.slice none 0 0, .slice none 0 0]⟩,
    ⟨none, none, .st 2 (.t 12) (.t 176)⟩] [0, 2, 3, 4, 5, 11, 12])
   (.seq (.region [⟨some 177, none, .bslice 3 1 [.int .u8 0] [(0, 1, .c (.int .u8 127)), (1, 1, .c (.int .u8 126)), (2, 1, .c (.int .u8 127))]⟩,
    ⟨some 178, none, .build [.slice none 0 0, .slice none 0 0] [(0, 1, .t 177)]⟩,
    ⟨some 13, none, .new [.slice none 0 0, .slice none 0 0]⟩,
    ⟨none, none, .st 2 (.t 13) (.t 178)⟩] [0, 2, 3, 4, 5, 11, 12, 13])
   (.seq (.region [⟨some 179, none, .mov (.t 0)⟩,
    ⟨some 180, none, .bslice 0 1 [.int .u8 0] []⟩,
    ⟨some 181, none, .fa 0 (.t 12)⟩,
    ⟨some 182, none, .ld 1 false (.t 181)⟩,
    ⟨some 184, none, .fa 0 (.t 13)⟩,
    ⟨some 185, none, .ld 1 false (.t 184)⟩,
    ⟨some 187, none, .mov (.t 11)⟩,
    ⟨some 183, none, .app 1 1 (.t 180) (.t 182)⟩,
    ⟨none, none, .chk 1 false (.t 184) 185⟩,
    ⟨some 186, none, .app 1 1 (.t 183) (.t 185)⟩,
    ⟨some 188, none, .build [.pointer none, .pointer none, .slice none 0 0, .slice none 0 0, .int .i64 0, .int .i64 0] [(0, 1, .t 179), (1, 1, .t 3), (2, 1, .t 186), (5, 1, .t 187)]⟩,
    ⟨some 189, none, .box (.t 188)⟩,
    ⟨some 14, none, .mov (.t 189)⟩] [0, 2, 3, 4, 5, 11, 12, 13, 14])
   (.seq (.region [⟨some 190, none, .mov (.t 14)⟩,
    ⟨some 191, none, .mov (.t 0)⟩,
    ⟨some 192, none, .call 67 [.t 191, .c (.int .i64 4)]⟩,
    ⟨some 193, none, .call 68 [.t 190, .t 192, .c (.int .i64 3)]⟩] [0, 2, 3, 4, 5, 11, 12, 13, 14])
   (.seq (.seq (.region [⟨some 15, none, .mov (.c (.int .i64 0))⟩] [0, 2, 3, 4, 5, 11, 12, 13, 14, 15])
   (.block 6 (.loop (.seq (.seq (.region [⟨some 194, none, .mov (.t 15)⟩,
    ⟨some 195, none, .fa 1 (.t 12)⟩,
    ⟨some 196, none, .ld 1 false (.t 195)⟩,
    ⟨some 197, none, .lenV (.t 196)⟩,
    ⟨some 198, none, .bin .lss (.t 194) (.t 197)⟩] [0, 2, 3, 4, 5, 11, 12, 13, 14, 15, 198])
   (.cond (.t 198) (.skip) (.exit 6)))
   (.seq (.block 7 (.region [⟨some 201, none, .mov (.t 14)⟩,
    ⟨some 202, none, .fa 1 (.t 12)⟩,
    ⟨some 203, none, .ld 1 false (.t 202)⟩,
    ⟨some 204, none, .mov (.t 15)⟩,
    ⟨some 205, none, .iaV 1 (.t 203) (.t 204)⟩,
    ⟨some 206, none, .ld 1 false (.t 205)⟩,
    ⟨some 207, none, .call 69 [.t 201, .t 206, .c (.int .i64 3)]⟩] [0, 2, 3, 4, 5, 11, 12, 13, 14, 15]))
   (.region [⟨some 199, none, .mov (.t 15)⟩,
    ⟨some 200, none, .bin .add (.t 199) (.c (.int .i64 1))⟩,
    ⟨some 15, none, .mov (.t 200)⟩] [0, 2, 3, 4, 5, 11, 12, 13, 14, 15]))))))
   (.seq (.region [⟨some 208, none, .mov (.t 14)⟩,
    ⟨some 209, none, .nilc (.t 208)⟩,
    ⟨some 210, none, .fa 3 (.t 209)⟩,
    ⟨some 211, none, .ld 1 false (.t 210)⟩,
    ⟨some 212, none, .ld 6 true (.t 4)⟩,
    ⟨some 213, none, .bslice 1 6 [.int .i64 0, .int .u32 0, .int .u32 0, .int .u64 0, .slice none 0 0, .int .i64 0] [(0, 6, .t 212)]⟩,
    ⟨some 214, none, .app 6 56 (.t 211) (.t 213)⟩,
    ⟨some 215, none, .fa 1 (.t 13)⟩,
    ⟨none, none, .st 1 (.t 215) (.t 214)⟩] [0, 2, 3, 4, 5, 11, 13])
   (.region [⟨some 216, none, .fa 11 (.t 3)⟩,
    ⟨some 217, none, .ld 1 false (.t 216)⟩,
    ⟨some 218, none, .ld 2 true (.t 13)⟩,
    ⟨some 219, none, .bslice 1 2 [.slice none 0 0, .slice none 0 0] [(0, 2, .t 218)]⟩,
    ⟨some 220, none, .app 2 48 (.t 217) (.t 219)⟩,
    ⟨some 221, none, .fa 11 (.t 3)⟩,
    ⟨none, none, .st 1 (.t 221) (.t 220)⟩] [0, 2, 3, 4, 5, 11]))))))))
   (.region [⟨some 166, none, .mov (.t 11)⟩,
    ⟨some 167, none, .bin .add (.t 166) (.c (.int .i64 1))⟩,
    ⟨some 11, none, .mov (.t 167)⟩] [0, 2, 3, 4, 5, 11]))))))
   (.seq (.region [⟨some 222, none, .ld 13 true (.t 3)⟩,
    ⟨none, none, .st 13 (.t 2) (.t 222)⟩] [2])
   (.ret))))))))))))))))),
  [.c 2 13 true], 223, 1⟩
def A36 : Ann := ⟨[(0, [0, 2]), (1, [0, 2, 3]), (2, [0, 2, 3, 29]), (3, [0, 2, 3]), (4, [0, 2, 3, 50]), (5, [0, 2, 3]), (6, [0, 2, 3, 4]), (7, [0, 2, 3, 4]), (8, [0, 2, 3, 4, 5]), (9, [0, 2, 3, 4, 5, 6]), (10, [0, 2, 3, 4, 5, 6, 74]), (11, [0, 2, 3, 4, 5, 6]), (12, [0, 2, 3, 4, 5, 6]), (13, [0, 2, 3, 4, 5, 6]), (14, [0, 2, 3, 4, 5, 7]), (15, [0, 2, 3, 4, 5, 7, 8]), (16, [0, 2, 3, 4, 5, 7, 8, 101]), (17, [0, 2, 3, 4, 5, 7, 8]), (18, [0, 2, 3, 4, 5, 7, 8, 9]), (19, [0, 2, 3, 4, 5, 7, 8, 9, 113]), (20, [0, 2, 3, 4, 5, 7, 8, 9]), (21, [0, 2, 3, 4, 5, 7, 8]), (22, [0, 2, 3, 4, 5, 7, 10]), (23, [0, 2, 3, 4, 5]), (24, [0, 2, 3, 4, 5]), (25, [0, 2, 3, 4, 5, 146]), (26, [0, 2, 3, 4, 5]), (27, [0, 2, 3, 4, 5]), (28, [0, 2, 3, 4, 5, 11]), (29, [0, 2, 3, 4, 5, 11, 165]), (30, [0, 2, 3, 4, 5, 11]), (31, [0, 2, 3, 4, 5, 11, 12]), (32, [0, 2, 3, 4, 5, 11, 12, 13]), (33, [0, 2, 3, 4, 5, 11, 12, 13, 14]), (34, [0, 2, 3, 4, 5, 11, 12, 13, 14]), (35, [0, 2, 3, 4, 5, 11, 12, 13, 14, 15]), (36, [0, 2, 3, 4, 5, 11, 12, 13, 14, 15, 198]), (37, [0, 2, 3, 4, 5, 11, 12, 13, 14, 15]), (38, [0, 2, 3, 4, 5, 11, 12, 13, 14, 15]), (39, [0, 2, 3, 4, 5, 11, 13]), (40, [0, 2, 3, 4, 5, 11]), (41, [2])], [(7, [(0, []), (4, []), (7, []), (8, []), (9, []), (10, []), (1, [4, 8]), (2, []), (3, []), (5, []), (6, []), (11, []), (12, []), (13, [])], [(1, [0]), (2, [0, 1]), (3, [0, 1, 2]), (5, [0, 1, 2, 3, 4]), (6, [0, 1, 2, 3, 4, 5]), (9, [7, 8]), (10, [7, 8, 9]), (11, [0, 1, 2, 3, 4, 5, 6, 7, 8, 9, 10]), (12, [0, 1, 2, 3, 4, 5, 6, 7, 8, 9, 10, 11]), (13, [0, 1, 2, 3, 4, 5, 6, 7, 8, 9, 10, 11, 12])]),
  (12, [(0, []), (1, []), (2, []), (3, [1]), (4, []), (5, []), (6, []), (7, []), (8, []), (9, [])], [(1, [0]), (3, [2]), (4, [2, 3]), (5, [2, 3, 4]), (6, [2, 3, 4, 5]), (7, [0, 1, 2, 3, 4, 5, 6]), (8, [0, 1, 2, 3, 4, 5, 6, 7]), (9, [0, 1, 2, 3, 4, 5, 6, 7, 8])]),
  (18, [(0, []), (1, []), (5, []), (2, [5]), (3, []), (4, []), (6, []), (7, [])], [(2, [0, 1]), (3, [0, 1, 2]), (4, [0, 1, 2, 3]), (6, [0, 1, 2, 3, 4, 5]), (7, [0, 1, 2, 3, 4, 5, 6])]),
  (22, [(0, []), (4, []), (1, [4]), (2, []), (3, []), (5, []), (6, [])], [(1, [0]), (2, [0, 1]), (3, [0, 1, 2]), (5, [0, 1, 2, 3, 4]), (6, [0, 1, 2, 3, 4, 5])]),
  (26, [(0, []), (1, []), (2, []), (3, []), (4, []), (8, []), (5, [1, 3, 8]), (6, []), (7, []), (9, []), (10, []), (11, []), (12, [8]), (13, []), (14, []), (15, [])], [(1, [0]), (3, [2]), (5, [4]), (6, [4, 5]), (7, [4, 5, 6]), (9, [4, 5, 6, 7, 8]), (10, [0, 1, 2, 3, 4, 5]), (11, [0, 1, 2, 3, 4, 5, 10]), (12, [0, 1, 2, 3, 4, 5, 10, 11]), (13, [0, 1, 2, 3, 4, 5, 6, 7, 8, 9, 10, 11, 12]), (14, [0, 1, 2, 3, 4, 5, 6, 7, 8, 9, 10, 11, 12, 13]), (15, [0, 1, 2, 3, 4, 5, 6, 7, 8, 9, 10, 11, 12, 13, 14])]),
  (31, [(0, []), (1, []), (2, []), (3, []), (4, []), (5, []), (6, []), (7, []), (8, []), (9, []), (10, [])], [(1, [0]), (3, [2]), (5, [2, 3, 4]), (6, [2, 3, 4, 5]), (7, [0, 1, 2, 3, 4, 5, 6]), (8, [0, 1, 2, 3, 4, 5, 6, 7]), (10, [0, 1, 2, 3, 4, 5, 6, 7, 8, 9])]),
  (33, [(0, []), (1, []), (2, []), (3, []), (5, []), (6, []), (8, []), (4, [6]), (7, []), (9, []), (10, []), (11, [])], [(3, [2]), (4, [1, 2, 3]), (6, [5]), (7, [1, 2, 3, 4, 5, 6]), (9, [0, 1, 2, 3, 4, 5, 6, 7, 8]), (10, [0, 1, 2, 3, 4, 5, 6, 7, 8, 9]), (11, [0, 1, 2, 3, 4, 5, 6, 7, 8, 9, 10])]),
  (39, [(0, []), (1, []), (2, []), (3, []), (4, []), (5, []), (6, []), (7, []), (8, [])], [(1, [0]), (2, [0, 1]), (3, [0, 1, 2]), (5, [4]), (6, [0, 1, 2, 3, 4, 5]), (7, [0, 1, 2, 3, 4, 5, 6]), (8, [0, 1, 2, 3, 4, 5, 6, 7])])]⟩
set_option maxRecDepth 100000 in
theorem F36.ok : compF Try.prog A36 Try.f36 = some F36 := by kernel_rfl
theorem F36.fok : FOk Try.prog 36 F36 := fok_of mixed Try.func36 F36.ok

/-- cloakroom/val.Body -/
def F37 : SFn := ⟨.seq (.region [⟨some 3, none, .box (.t 0)⟩,
    ⟨some 4, none, .box (.t 1)⟩,
    ⟨some 5, none, .box (.t 2)⟩,
    ⟨some 6, none, .mov (.c (.int .i64 0))⟩] [3, 4, 5])
   (.seq (.region [⟨some 10, none, .fa 0 (.t 4)⟩,
    ⟨some 11, none, .ld 1 false (.t 10)⟩,
    ⟨some 12, none, .fa 0 (.t 5)⟩,
    ⟨some 13, none, .ld 1 false (.t 12)⟩,
    ⟨some 14, none, .bslice 2 1 [.slice none 0 0] [(0, 1, .t 11), (1, 1, .t 13)]⟩,
    ⟨some 15, none, .call 70 [.t 14]⟩,
    ⟨some 16, none, .build [.slice none 0 0, .pointer none, .slice none 0 0, .slice none 0 0, .bool false] [(1, 1, .t 3), (2, 1, .t 15)]⟩,
    ⟨some 17, none, .box (.t 16)⟩,
    ⟨some 7, none, .mov (.t 17)⟩] [4, 5, 7])
   (.seq (.region [⟨some 18, none, .mov (.t 7)⟩,
    ⟨some 19, none, .fa 1 (.t 4)⟩,
    ⟨some 20, none, .ld 1 false (.t 19)⟩,
    ⟨some 21, none, .call 71 [.t 18, .c (.int .i64 2), .c (.slice none 0 0), .t 20]⟩] [5, 7])
   (.seq (.seq (.region [⟨some 22, none, .fa 1 (.t 5)⟩,
    ⟨some 23, none, .ld 1 false (.t 22)⟩,
    ⟨some 24, none, .lenV (.t 23)⟩,
    ⟨some 25, none, .mov (.c (.int .i64 0))⟩] [5, 7, 23, 24, 25])
   (.block 0 (.loop (.seq (.region [⟨some 26, none, .bin .lss (.t 25) (.t 24)⟩] [5, 7, 23, 24, 25, 26])
   (.seq (.cond (.t 26) (.skip) (.exit 0))
   (.seq (.block 1 (.seq (.region [⟨some 27, none, .mov (.t 25)⟩,
    ⟨some 28, none, .iaV 6 (.t 23) (.t 25)⟩,
    ⟨some 29, none, .ld 6 true (.t 28)⟩,
    ⟨some 9, none, .new [.int .i64 0, .int .u32 0, .int .u32 0, .int .u64 0, .slice none 0 0, .int .i64 0]⟩,
    ⟨some 8, none, .mov (.t 27)⟩,
    ⟨none, none, .st 6 (.t 9) (.t 29)⟩] [5, 7, 8, 9, 23, 24, 25])
   (.seq (.region [⟨some 30, none, .mov (.t 7)⟩,
    ⟨some 31, none, .ld 6 true (.t 9)⟩,
    ⟨some 32, none, .call 72 [.t 30, .t 31]⟩] [5, 7, 8, 23, 24, 25])
   (.seq (.region [⟨some 33, none, .mov (.t 7)⟩,
    ⟨some 34, none, .nilc (.t 33)⟩,
    ⟨some 35, none, .fa 4 (.t 34)⟩,
    ⟨some 36, none, .ld 1 false (.t 35)⟩,
    ⟨some 37, none, .mov (.t 36)⟩,
    ⟨some 38, some (37, false), .mov (.t 7)⟩,
    ⟨some 39, some (37, false), .nilc (.t 38)⟩,
    ⟨some 40, some (37, false), .fa 3 (.t 39)⟩,
    ⟨some 41, some (37, false), .ld 1 false (.t 40)⟩,
    ⟨some 42, some (37, false), .lenV (.t 41)⟩,
    ⟨some 43, some (37, false), .bin .eql (.t 42) (.c (.int .i64 0))⟩,
    ⟨some 44, some (37, false), .mov (.t 43)⟩,
    ⟨some 45, some (44, true), .mov (.t 8)⟩,
    ⟨some 46, some (44, true), .fa 1 (.t 5)⟩,
    ⟨some 47, some (44, true), .ld 1 false (.t 46)⟩,
    ⟨some 48, some (44, true), .lenV (.t 47)⟩,
    ⟨some 49, some (44, true), .bin .sub (.t 48) (.c (.int .i64 1))⟩,
    ⟨some 50, some (44, true), .bin .lss (.t 45) (.t 49)⟩,
    ⟨some 51, some (37, false), .pick (.t 44) (.t 50) (.c (.bool false))⟩,
    ⟨some 52, none, .pick (.t 37) (.c (.bool true)) (.t 51)⟩] [5, 7, 23, 24, 25, 52])
   (.cond (.t 52) (.seq (.region [⟨some 6, none, .mov (.c (.int .i64 6))⟩] [6])
   (.ret)) (.skip))))))
   (.region [⟨some 53, none, .bin .add (.t 25) (.c (.int .i64 1))⟩,
    ⟨some 25, none, .mov (.t 53)⟩] [5, 7, 23, 24, 25])))))))
   (.seq (.seq (.region [⟨some 54, none, .mov (.t 7)⟩,
    ⟨some 55, none, .nilc (.t 54)⟩,
    ⟨some 56, none, .fa 3 (.t 55)⟩,
    ⟨some 57, none, .ld 1 false (.t 56)⟩,
    ⟨some 58, none, .lenV (.t 57)⟩,
    ⟨some 59, none, .bin .gtr (.t 58) (.c (.int .i64 0))⟩] [59])
   (.cond (.t 59) (.seq (.region [⟨some 6, none, .mov (.c (.int .i64 6))⟩] [6])
   (.ret)) (.skip)))
   (.seq (.region [⟨some 6, none, .mov (.c (.int .i64 0))⟩] [6])
   (.ret)))))),
  [.t 6], 60, 3⟩
def A37 : Ann := ⟨[(0, [3, 4, 5]), (1, [4, 5, 7]), (2, [5, 7]), (3, [5, 7, 23, 24, 25]), (4, [5, 7, 23, 24, 25, 26]), (5, [5, 7, 8, 9, 23, 24, 25]), (6, [5, 7, 8, 23, 24, 25]), (7, [5, 7, 23, 24, 25, 52]), (8, [6]), (9, [5, 7, 23, 24, 25]), (10, [59]), (11, [6]), (12, [6])], []⟩
set_option maxRecDepth 100000 in
theorem F37.ok : compF Try.prog A37 Try.f37 = some F37 := by kernel_rfl
theorem F37.fok : FOk Try.prog 37 F37 := fok_of mixed Try.func37 F37.ok

/-- cloakroom/val.Const -/
def F65 : SFn := ⟨.seq (.region [⟨some 3, none, .box (.t 0)⟩,
    ⟨some 6, none, .mov (.c (.int .i64 0))⟩] [1, 2, 3])
   (.seq (.seq (.region [⟨some 9, none, .mov (.t 2)⟩,
    ⟨some 10, none, .lenV (.t 9)⟩,
    ⟨some 11, none, .bin .neq (.t 10) (.c (.int .i64 2))⟩,
    ⟨some 12, none, .mov (.t 11)⟩,
    ⟨some 13, some (12, false), .mov (.t 2)⟩,
    ⟨some 14, some (12, false), .iaV 6 (.t 13) (.c (.int .i64 1))⟩,
    ⟨some 15, some (12, false), .fa 0 (.t 14)⟩,
    ⟨some 16, some (12, false), .ld 1 false (.t 15)⟩,
    ⟨some 17, some (12, false), .bin .neq (.t 16) (.c (.int .i64 11))⟩,
    ⟨some 18, none, .pick (.t 12) (.c (.bool true)) (.t 17)⟩] [1, 2, 3, 18])
   (.cond (.t 18) (.seq (.region [⟨some 6, none, .mov (.c (.int .i64 6))⟩] [6])
   (.ret)) (.skip)))
   (.seq (.region [⟨some 19, none, .mov (.t 2)⟩,
    ⟨some 20, none, .iaV 6 (.t 19) (.c (.int .i64 0))⟩,
    ⟨some 21, none, .ld 6 true (.t 20)⟩,
    ⟨some 7, none, .new [.int .i64 0, .int .u32 0, .int .u32 0, .int .u64 0, .slice none 0 0, .int .i64 0]⟩,
    ⟨none, none, .st 6 (.t 7) (.t 21)⟩] [1, 3, 7])
   (.seq (.region [⟨some 8, none, .mov (.c (.bool false))⟩] [1, 3, 7, 8])
   (.seq (.seq (.region [⟨some 22, none, .fa 0 (.t 7)⟩,
    ⟨some 23, none, .ld 1 false (.t 22)⟩] [1, 3, 7, 8, 23])
   (.block 0 (.seq (.region [⟨some 25, none, .bin .eql (.t 23) (.c (.int .i64 65))⟩,
    ⟨some 24, none, .mov (.t 25)⟩] [1, 3, 7, 8, 23, 24])
   (.cond (.t 24) (.region [⟨some 26, none, .mov (.t 1)⟩,
    ⟨some 27, none, .bin .eql (.t 26) (.c (.int .u8 127))⟩,
    ⟨some 8, none, .mov (.t 27)⟩] [8]) (.seq (.region [⟨some 29, none, .bin .eql (.t 23) (.c (.int .i64 66))⟩,
    ⟨some 28, none, .mov (.t 29)⟩] [1, 3, 7, 8, 23, 28])
   (.cond (.t 28) (.region [⟨some 30, none, .mov (.t 1)⟩,
    ⟨some 31, none, .bin .eql (.t 30) (.c (.int .u8 126))⟩,
    ⟨some 8, none, .mov (.t 31)⟩] [8]) (.seq (.region [⟨some 33, none, .bin .eql (.t 23) (.c (.int .i64 208))⟩,
    ⟨some 32, none, .mov (.t 33)⟩] [1, 3, 7, 8, 23, 32])
   (.cond (.t 32) (.region [⟨some 34, none, .mov (.t 1)⟩,
    ⟨some 35, none, .conv .u32 (.t 34)⟩,
    ⟨some 36, none, .fa 1 (.t 7)⟩,
    ⟨some 37, none, .ld 1 false (.t 36)⟩,
    ⟨some 38, none, .bin .eql (.t 35) (.t 37)⟩,
    ⟨some 8, none, .mov (.t 38)⟩] [8]) (.seq (.region [⟨some 40, none, .bin .eql (.t 23) (.c (.int .i64 210))⟩,
    ⟨some 39, none, .mov (.t 40)⟩] [1, 3, 7, 8, 39])
   (.cond (.t 39) (.region [⟨some 41, none, .mov (.t 1)⟩,
    ⟨some 42, none, .bin .eql (.t 41) (.c (.int .u8 112))⟩,
    ⟨some 43, none, .mov (.t 42)⟩,
    ⟨some 44, some (43, true), .fa 1 (.t 7)⟩,
    ⟨some 45, some (43, true), .ld 1 false (.t 44)⟩,
    ⟨some 46, some (43, true), .fa 1 (.t 3)⟩,
    ⟨some 47, some (43, true), .ld 1 false (.t 46)⟩,
    ⟨some 48, some (43, true), .lenV (.t 47)⟩,
    ⟨some 49, some (43, true), .call 93 [.t 45, .t 48]⟩,
    ⟨some 50, none, .pick (.t 43) (.t 49) (.c (.bool false))⟩,
    ⟨some 8, none, .mov (.t 50)⟩] [8]) (.skip)))))))))))
   (.seq (.seq (.region [⟨some 51, none, .mov (.t 8)⟩,
    ⟨some 52, none, .un .not (.t 51)⟩] [52])
   (.cond (.t 52) (.seq (.region [⟨some 6, none, .mov (.c (.int .i64 6))⟩] [6])
   (.ret)) (.skip)))
   (.seq (.region [⟨some 6, none, .mov (.c (.int .i64 0))⟩] [6])
   (.ret))))))),
  [.t 6], 53, 3⟩
def A65 : Ann := ⟨[(0, [1, 2, 3]), (1, [1, 2, 3, 18]), (2, [6]), (3, [1, 3, 7]), (4, [1, 3, 7, 8]), (5, [1, 3, 7, 8, 23]), (6, [1, 3, 7, 8, 23, 24]), (7, [8]), (8, [1, 3, 7, 8, 23, 28]), (9, [8]), (10, [1, 3, 7, 8, 23, 32]), (11, [8]), (12, [1, 3, 7, 8, 39]), (13, [8]), (14, [52]), (15, [6]), (16, [6])], []⟩
set_option maxRecDepth 100000 in
theorem F65.ok : compF Try.prog A65 Try.f65 = some F65 := by kernel_rfl
theorem F65.fok : FOk Try.prog 65 F65 := fok_of mixed Try.func65 F65.ok

/-- cloakroom/cloakroomplay.types -/
def F66 : SFn := ⟨.seq (.region [⟨some 0, none, .mov (.c (.slice none 0 0))⟩] [])
   (.seq (.region [⟨some 1, none, .mov (.c (.int .u8 127))⟩,
    ⟨some 2, none, .mov (.c (.int .u8 126))⟩] [1, 2])
   (.seq (.region [⟨some 3, none, .build [.slice none 0 0, .slice none 0 0] []⟩,
    ⟨some 4, none, .mov (.t 1)⟩,
    ⟨some 5, none, .bslice 1 1 [.int .u8 0] [(0, 1, .t 4)]⟩,
    ⟨some 6, none, .mov (.t 1)⟩,
    ⟨some 7, none, .bslice 1 1 [.int .u8 0] [(0, 1, .t 6)]⟩,
    ⟨some 8, none, .build [.slice none 0 0, .slice none 0 0] [(0, 1, .t 5), (1, 1, .t 7)]⟩,
    ⟨some 9, none, .mov (.t 1)⟩,
    ⟨some 10, none, .mov (.t 1)⟩,
    ⟨some 11, none, .bslice 2 1 [.int .u8 0] [(0, 1, .t 9), (1, 1, .t 10)]⟩,
    ⟨some 12, none, .mov (.t 1)⟩,
    ⟨some 13, none, .bslice 1 1 [.int .u8 0] [(0, 1, .t 12)]⟩,
    ⟨some 14, none, .build [.slice none 0 0, .slice none 0 0] [(0, 1, .t 11), (1, 1, .t 13)]⟩,
    ⟨some 15, none, .mov (.t 2)⟩,
    ⟨some 16, none, .bslice 1 1 [.int .u8 0] [(0, 1, .t 15)]⟩,
    ⟨some 17, none, .mov (.t 2)⟩,
    ⟨some 18, none, .bslice 1 1 [.int .u8 0] [(0, 1, .t 17)]⟩,
    ⟨some 19, none, .build [.slice none 0 0, .slice none 0 0] [(0, 1, .t 16), (1, 1, .t 18)]⟩,
    ⟨some 20, none, .mov (.t 1)⟩,
    ⟨some 21, none, .bslice 1 1 [.int .u8 0] [(0, 1, .t 20)]⟩,
    ⟨some 22, none, .build [.slice none 0 0, .slice none 0 0] [(1, 1, .t 21)]⟩,
    ⟨some 23, none, .mov (.t 1)⟩,
    ⟨some 24, none, .bslice 1 1 [.int .u8 0] [(0, 1, .t 23)]⟩,
    ⟨some 25, none, .mov (.t 1)⟩,
    ⟨some 26, none, .mov (.t 1)⟩,
    ⟨some 27, none, .bslice 2 1 [.int .u8 0] [(0, 1, .t 25), (1, 1, .t 26)]⟩,
    ⟨some 28, none, .build [.slice none 0 0, .slice none 0 0] [(0, 1, .t 24), (1, 1, .t 27)]⟩,
    ⟨some 29, none, .bslice 6 2 [.slice none 0 0, .slice none 0 0] [(0, 2, .t 3), (2, 2, .t 8), (4, 2, .t 14), (6, 2, .t 19), (8, 2, .t 22), (10, 2, .t 28)]⟩,
    ⟨some 0, none, .mov (.t 29)⟩] [0])
   (.ret))),
  [.t 0], 30, 0⟩
def A66 : Ann := ⟨[(0, []), (1, [1, 2]), (2, [0])], []⟩
set_option maxRecDepth 100000 in
theorem F66.ok : compF Try.prog A66 Try.f66 = some F66 := by kernel_rfl
theorem F66.fok : FOk Try.prog 66 F66 := fok_of mixed Try.func66 F66.ok

/-- (*cloakroom/cloakroomplay.Picks).Num -/
def F67 : SFn := ⟨.seq (.region [⟨some 4, none, .mov (.c (.int .i64 0))⟩] [0, 1])
   (.seq (.seq (.region [⟨some 5, none, .mov (.t 0)⟩,
    ⟨some 6, none, .nilc (.t 5)⟩,
    ⟨some 7, none, .fa 1 (.t 6)⟩,
    ⟨some 8, none, .ld 1 false (.t 7)⟩,
    ⟨some 9, none, .mov (.t 0)⟩,
    ⟨some 10, none, .nilc (.t 9)⟩,
    ⟨some 11, none, .fa 0 (.t 10)⟩,
    ⟨some 12, none, .ld 1 false (.t 11)⟩,
    ⟨some 13, none, .lenV (.t 12)⟩,
    ⟨some 14, none, .bin .geq (.t 8) (.t 13)⟩] [0, 1, 14])
   (.cond (.t 14) (.seq (.region [⟨some 4, none, .mov (.c (.int .i64 0))⟩] [4])
   (.ret)) (.skip)))
   (.seq (.region [⟨some 15, none, .mov (.t 0)⟩,
    ⟨some 16, none, .nilc (.t 15)⟩,
    ⟨some 17, none, .fa 1 (.t 16)⟩,
    ⟨some 18, none, .ld 1 false (.t 17)⟩,
    ⟨some 19, none, .bin .add (.t 18) (.c (.int .i64 1))⟩,
    ⟨some 20, none, .nilc (.t 15)⟩,
    ⟨some 21, none, .fa 1 (.t 20)⟩,
    ⟨none, none, .st 1 (.t 21) (.t 19)⟩] [0, 1])
   (.seq (.region [⟨some 22, none, .mov (.t 0)⟩,
    ⟨some 23, none, .nilc (.t 22)⟩,
    ⟨some 24, none, .fa 0 (.t 23)⟩,
    ⟨some 25, none, .ld 1 false (.t 24)⟩,
    ⟨some 26, none, .mov (.t 0)⟩,
    ⟨some 27, none, .nilc (.t 26)⟩,
    ⟨some 28, none, .fa 1 (.t 27)⟩,
    ⟨some 29, none, .ld 1 false (.t 28)⟩,
    ⟨some 30, none, .bin .sub (.t 29) (.c (.int .i64 1))⟩,
    ⟨some 31, none, .iaV 1 (.t 25) (.t 30)⟩,
    ⟨some 32, none, .ld 1 false (.t 31)⟩,
    ⟨some 33, none, .conv .i64 (.t 32)⟩,
    ⟨some 34, none, .mov (.t 1)⟩,
    ⟨some 35, none, .bin .rem (.t 33) (.t 34)⟩,
    ⟨some 4, none, .mov (.t 35)⟩] [4])
   (.ret)))),
  [.t 4], 36, 2⟩
def A67 : Ann := ⟨[(0, [0, 1]), (1, [0, 1, 14]), (2, [4]), (3, [0, 1]), (4, [4])], [(1, [(0, []), (1, []), (2, []), (3, []), (4, []), (5, []), (6, []), (7, []), (8, []), (9, [])], [(1, [0]), (2, [0, 1]), (3, [0, 1, 2]), (5, [4]), (6, [4, 5]), (7, [4, 5, 6]), (8, [4, 5, 6, 7]), (9, [0, 1, 2, 3, 4, 5, 6, 7, 8])]),
  (4, [(0, []), (1, []), (2, []), (3, []), (4, []), (5, []), (6, []), (7, []), (8, []), (9, []), (10, []), (11, []), (12, []), (13, []), (14, [])], [(1, [0]), (2, [0, 1]), (3, [0, 1, 2]), (5, [4]), (6, [4, 5]), (7, [4, 5, 6]), (8, [4, 5, 6, 7]), (9, [0, 1, 2, 3, 4, 5, 6, 7, 8]), (10, [0, 1, 2, 3, 4, 5, 6, 7, 8, 9]), (11, [0, 1, 2, 3, 4, 5, 6, 7, 8, 9, 10]), (13, [0, 1, 2, 3, 4, 5, 6, 7, 8, 9, 10, 11, 12]), (14, [0, 1, 2, 3, 4, 5, 6, 7, 8, 9, 10, 11, 12, 13])])]⟩
set_option maxRecDepth 100000 in
theorem F67.ok : compF Try.prog A67 Try.f67 = some F67 := by kernel_rfl
theorem F67.fok : FOk Try.prog 67 F67 := fok_of mixed Try.func67 F67.ok

/-- (*cloakroom/cloakroomplay.maker).stmts -/
def F68 : SFn := ⟨.seq (.region [⟨some 6, none, .mov (.c (.int .i64 0))⟩] [0, 1, 2, 6])
   (.block 0 (.loop (.seq (.seq (.region [⟨some 7, none, .mov (.t 6)⟩,
    ⟨some 8, none, .mov (.t 1)⟩,
    ⟨some 9, none, .bin .lss (.t 7) (.t 8)⟩,
    ⟨some 10, none, .mov (.t 9)⟩,
    ⟨some 11, some (10, true), .mov (.t 0)⟩,
    ⟨some 12, some (10, true), .nilc (.t 11)⟩,
    ⟨some 13, some (10, true), .fa 0 (.t 12)⟩,
    ⟨some 14, some (10, true), .ld 1 false (.t 13)⟩,
    ⟨some 15, some (10, true), .call 94 [.t 14]⟩,
    ⟨some 16, some (10, true), .un .not (.t 15)⟩,
    ⟨some 17, none, .pick (.t 10) (.t 16) (.c (.bool false))⟩,
    ⟨some 18, none, .mov (.t 17)⟩,
    ⟨some 19, some (18, true), .mov (.t 0)⟩,
    ⟨some 20, some (18, true), .nilc (.t 19)⟩,
    ⟨some 21, some (18, true), .fa 3 (.t 20)⟩,
    ⟨some 22, some (18, true), .ld 1 false (.t 21)⟩,
    ⟨some 23, some (18, true), .lenV (.t 22)⟩,
    ⟨some 24, some (18, true), .bin .lss (.t 23) (.c (.int .i64 350))⟩,
    ⟨some 25, none, .pick (.t 18) (.t 24) (.c (.bool false))⟩] [0, 1, 2, 6, 25])
   (.cond (.t 25) (.skip) (.exit 0)))
   (.seq (.block 1 (.region [⟨some 28, none, .mov (.t 0)⟩,
    ⟨some 29, none, .mov (.t 2)⟩,
    ⟨some 30, none, .call 95 [.t 28, .t 29]⟩] [0, 1, 2, 6]))
   (.region [⟨some 26, none, .mov (.t 6)⟩,
    ⟨some 27, none, .bin .add (.t 26) (.c (.int .i64 1))⟩,
    ⟨some 6, none, .mov (.t 27)⟩] [0, 1, 2, 6]))))),
  [], 31, 3⟩
def A68 : Ann := ⟨[(0, [0, 1, 2, 6]), (1, [0, 1, 2, 6, 25]), (2, [0, 1, 2, 6]), (3, [0, 1, 2, 6])], []⟩
set_option maxRecDepth 100000 in
theorem F68.ok : compF Try.prog A68 Try.f68 = some F68 := by kernel_rfl
theorem F68.fok : FOk Try.prog 68 F68 := fok_of mixed Try.func68 F68.ok

/-- (*cloakroom/cloakroomplay.maker).expr -/
def F69 : SFn := ⟨.seq (.region [⟨some 16, none, .mov (.t 0)⟩,
    ⟨some 17, none, .nilc (.t 16)⟩,
    ⟨some 18, none, .fa 0 (.t 17)⟩,
    ⟨some 19, none, .ld 1 false (.t 18)⟩,
    ⟨some 20, none, .call 67 [.t 19, .c (.int .i64 16)]⟩,
    ⟨some 6, none, .mov (.t 20)⟩] [0, 1, 2, 6])
   (.seq (.seq (.region [⟨some 21, none, .mov (.t 2)⟩,
    ⟨some 22, none, .bin .leq (.t 21) (.c (.int .i64 0))⟩,
    ⟨some 23, none, .mov (.t 22)⟩,
    ⟨some 24, some (23, false), .mov (.t 0)⟩,
    ⟨some 25, some (23, false), .nilc (.t 24)⟩,
    ⟨some 26, some (23, false), .fa 0 (.t 25)⟩,
    ⟨some 27, some (23, false), .ld 1 false (.t 26)⟩,
    ⟨some 28, some (23, false), .call 94 [.t 27]⟩,
    ⟨some 29, none, .pick (.t 23) (.c (.bool true)) (.t 28)⟩,
    ⟨some 30, none, .mov (.t 29)⟩,
    ⟨some 31, some (30, false), .mov (.t 0)⟩,
    ⟨some 32, some (30, false), .nilc (.t 31)⟩,
    ⟨some 33, some (30, false), .fa 3 (.t 32)⟩,
    ⟨some 34, some (30, false), .ld 1 false (.t 33)⟩,
    ⟨some 35, some (30, false), .lenV (.t 34)⟩,
    ⟨some 36, some (30, false), .bin .gtr (.t 35) (.c (.int .i64 300))⟩,
    ⟨some 37, none, .pick (.t 30) (.c (.bool true)) (.t 36)⟩] [0, 1, 2, 6, 37])
   (.cond (.t 37) (.region [⟨some 38, none, .mov (.t 6)⟩,
    ⟨some 39, none, .bin .rem (.t 38) (.c (.int .i64 3))⟩,
    ⟨some 6, none, .mov (.t 39)⟩] [0, 1, 2, 6]) (.skip)))
   (.seq (.region [⟨some 40, none, .mov (.t 1)⟩,
    ⟨some 41, none, .bin .eql (.t 40) (.c (.int .u8 127))⟩,
    ⟨some 7, none, .mov (.t 41)⟩] [0, 1, 2, 6, 7])
   (.block 0 (.seq (.region [⟨some 47, none, .mov (.t 6)⟩,
    ⟨some 48, none, .bin .eql (.t 47) (.c (.int .i64 0))⟩,
    ⟨some 46, none, .mov (.t 48)⟩] [0, 1, 2, 6, 7, 46])
   (.cond (.t 46) (.region [⟨some 49, none, .mov (.t 0)⟩,
    ⟨some 50, none, .mov (.t 1)⟩,
    ⟨some 51, none, .mov (.t 0)⟩,
    ⟨some 52, none, .call 97 [.t 51]⟩,
    ⟨some 53, none, .call 96 [.t 49, .t 50, .t 52]⟩] []) (.seq (.region [⟨some 55, none, .mov (.t 6)⟩,
    ⟨some 56, none, .bin .eql (.t 55) (.c (.int .i64 1))⟩,
    ⟨some 54, none, .mov (.t 56)⟩] [0, 1, 2, 6, 7, 54])
   (.cond (.t 54) (.seq (.region [⟨some 58, none, .mov (.t 0)⟩,
    ⟨some 59, none, .mov (.t 1)⟩,
    ⟨some 60, none, .call 98 [.t 58, .t 59]⟩,
    ⟨some 57, none, .mov (.t 60)⟩,
    ⟨some 61, none, .ext (.t 57) 0⟩,
    ⟨some 62, none, .ext (.t 57) 1⟩,
    ⟨some 8, none, .mov (.t 61)⟩,
    ⟨some 9, none, .mov (.t 62)⟩] [0, 1, 8, 9])
   (.seq (.region [⟨some 63, none, .mov (.t 9)⟩] [0, 1, 8, 63])
   (.cond (.t 63) (.region [⟨some 64, none, .mov (.t 0)⟩,
    ⟨some 65, none, .mov (.t 8)⟩,
    ⟨some 66, none, .call 99 [.t 64, .c (.int .i64 32), .t 65]⟩] []) (.region [⟨some 67, none, .mov (.t 0)⟩,
    ⟨some 68, none, .mov (.t 1)⟩,
    ⟨some 69, none, .call 96 [.t 67, .t 68, .c (.int .u64 5)]⟩] [])))) (.seq (.region [⟨some 71, none, .mov (.t 6)⟩,
    ⟨some 72, none, .bin .eql (.t 71) (.c (.int .i64 2))⟩,
    ⟨some 70, none, .mov (.t 72)⟩] [0, 1, 2, 6, 7, 70])
   (.cond (.t 70) (.seq (.region [⟨some 10, none, .mov (.c (.int .u32 0))⟩] [0, 7, 10])
   (.seq (.seq (.region [⟨some 73, none, .mov (.t 7)⟩,
    ⟨some 74, none, .un .not (.t 73)⟩] [0, 10, 74])
   (.cond (.t 74) (.region [⟨some 10, none, .mov (.c (.int .u32 1))⟩] [0, 10]) (.skip)))
   (.region [⟨some 75, none, .mov (.t 0)⟩,
    ⟨some 76, none, .mov (.t 10)⟩,
    ⟨some 77, none, .call 99 [.t 75, .c (.int .i64 35), .t 76]⟩] []))) (.seq (.region [⟨some 79, none, .mov (.t 6)⟩,
    ⟨some 80, none, .bin .lss (.t 79) (.c (.int .i64 7))⟩,
    ⟨some 78, none, .mov (.t 80)⟩] [0, 1, 2, 6, 7, 78])
   (.cond (.t 78) (.seq (.region [⟨some 81, none, .mov (.t 0)⟩,
    ⟨some 82, none, .mov (.t 1)⟩,
    ⟨some 83, none, .mov (.t 2)⟩,
    ⟨some 84, none, .bin .sub (.t 83) (.c (.int .i64 1))⟩,
    ⟨some 85, none, .call 69 [.t 81, .t 82, .t 84]⟩] [0, 1, 2, 7])
   (.seq (.region [⟨some 86, none, .mov (.t 0)⟩,
    ⟨some 87, none, .mov (.t 1)⟩,
    ⟨some 88, none, .mov (.t 2)⟩,
    ⟨some 89, none, .bin .sub (.t 88) (.c (.int .i64 1))⟩,
    ⟨some 90, none, .call 69 [.t 86, .t 87, .t 89]⟩] [0, 7])
   (.seq (.region [⟨some 91, none, .mov (.t 0)⟩,
    ⟨some 92, none, .nilc (.t 91)⟩,
    ⟨some 93, none, .fa 0 (.t 92)⟩,
    ⟨some 94, none, .ld 1 false (.t 93)⟩,
    ⟨some 95, none, .call 67 [.t 94, .c (.int .i64 15)]⟩,
    ⟨some 96, none, .bin .add (.c (.int .i64 106)) (.t 95)⟩,
    ⟨some 11, none, .mov (.t 96)⟩] [0, 7, 11])
   (.seq (.seq (.region [⟨some 97, none, .mov (.t 7)⟩,
    ⟨some 98, none, .un .not (.t 97)⟩] [0, 11, 98])
   (.cond (.t 98) (.region [⟨some 99, none, .mov (.t 11)⟩,
    ⟨some 100, none, .bin .add (.t 99) (.c (.int .i64 18))⟩,
    ⟨some 11, none, .mov (.t 100)⟩] [0, 11]) (.skip)))
   (.region [⟨some 101, none, .mov (.t 0)⟩,
    ⟨some 102, none, .mov (.t 11)⟩,
    ⟨some 103, none, .call 100 [.t 101, .t 102]⟩] []))))) (.seq (.region [⟨some 105, none, .mov (.t 6)⟩,
    ⟨some 106, none, .bin .eql (.t 105) (.c (.int .i64 7))⟩,
    ⟨some 104, none, .mov (.t 106)⟩] [0, 1, 2, 6, 7, 104])
   (.cond (.t 104) (.seq (.region [⟨some 107, none, .mov (.t 0)⟩,
    ⟨some 108, none, .mov (.t 1)⟩,
    ⟨some 109, none, .mov (.t 2)⟩,
    ⟨some 110, none, .bin .sub (.t 109) (.c (.int .i64 1))⟩,
    ⟨some 111, none, .call 69 [.t 107, .t 108, .t 110]⟩] [0, 7])
   (.seq (.region [⟨some 112, none, .bslice 5 1 [.int .i64 0] [(0, 1, .c (.int .i64 103)), (1, 1, .c (.int .i64 104)), (2, 1, .c (.int .i64 105)), (3, 1, .c (.int .i64 192)), (4, 1, .c (.int .i64 193))]⟩,
    ⟨some 113, none, .mov (.t 0)⟩,
    ⟨some 114, none, .nilc (.t 113)⟩,
    ⟨some 115, none, .fa 0 (.t 114)⟩,
    ⟨some 116, none, .ld 1 false (.t 115)⟩,
    ⟨some 117, none, .call 67 [.t 116, .c (.int .i64 5)]⟩,
    ⟨some 118, none, .iaV 1 (.t 112) (.t 117)⟩,
    ⟨some 119, none, .ld 1 false (.t 118)⟩,
    ⟨some 12, none, .mov (.t 119)⟩] [0, 7, 12])
   (.seq (.seq (.region [⟨some 120, none, .mov (.t 7)⟩,
    ⟨some 121, none, .un .not (.t 120)⟩] [0, 12, 121])
   (.cond (.t 121) (.region [⟨some 122, none, .bslice 5 1 [.int .i64 0] [(0, 1, .c (.int .i64 121)), (1, 1, .c (.int .i64 122)), (2, 1, .c (.int .i64 123)), (3, 1, .c (.int .i64 194)), (4, 1, .c (.int .i64 196))]⟩,
    ⟨some 123, none, .mov (.t 0)⟩,
    ⟨some 124, none, .nilc (.t 123)⟩,
    ⟨some 125, none, .fa 0 (.t 124)⟩,
    ⟨some 126, none, .ld 1 false (.t 125)⟩,
    ⟨some 127, none, .call 67 [.t 126, .c (.int .i64 5)]⟩,
    ⟨some 128, none, .iaV 1 (.t 122) (.t 127)⟩,
    ⟨some 129, none, .ld 1 false (.t 128)⟩,
    ⟨some 12, none, .mov (.t 129)⟩] [0, 12]) (.skip)))
   (.region [⟨some 130, none, .mov (.t 0)⟩,
    ⟨some 131, none, .mov (.t 12)⟩,
    ⟨some 132, none, .call 100 [.t 130, .t 131]⟩] [])))) (.seq (.region [⟨some 134, none, .mov (.t 6)⟩,
    ⟨some 135, none, .bin .eql (.t 134) (.c (.int .i64 8))⟩,
    ⟨some 133, none, .mov (.t 135)⟩] [0, 1, 2, 6, 7, 133])
   (.cond (.t 133) (.seq (.region [⟨some 136, none, .mov (.t 7)⟩] [0, 2, 136])
   (.cond (.t 136) (.seq (.region [⟨some 137, none, .bslice 2 1 [.int .u8 0] [(0, 1, .c (.int .u8 127)), (1, 1, .c (.int .u8 126))]⟩,
    ⟨some 138, none, .mov (.t 0)⟩,
    ⟨some 139, none, .nilc (.t 138)⟩,
    ⟨some 140, none, .fa 0 (.t 139)⟩,
    ⟨some 141, none, .ld 1 false (.t 140)⟩,
    ⟨some 142, none, .call 67 [.t 141, .c (.int .i64 2)]⟩,
    ⟨some 143, none, .iaV 1 (.t 137) (.t 142)⟩,
    ⟨some 144, none, .ld 1 false (.t 143)⟩,
    ⟨some 13, none, .mov (.t 144)⟩] [0, 2, 13])
   (.seq (.region [⟨some 145, none, .mov (.t 0)⟩,
    ⟨some 146, none, .mov (.t 13)⟩,
    ⟨some 147, none, .mov (.t 2)⟩,
    ⟨some 148, none, .bin .sub (.t 147) (.c (.int .i64 1))⟩,
    ⟨some 149, none, .call 69 [.t 145, .t 146, .t 148]⟩] [0, 2, 13])
   (.seq (.region [⟨some 150, none, .mov (.t 0)⟩,
    ⟨some 151, none, .mov (.t 13)⟩,
    ⟨some 152, none, .mov (.t 2)⟩,
    ⟨some 153, none, .bin .sub (.t 152) (.c (.int .i64 1))⟩,
    ⟨some 154, none, .call 69 [.t 150, .t 151, .t 153]⟩] [0, 13])
   (.seq (.region [⟨some 155, none, .mov (.t 0)⟩,
    ⟨some 156, none, .nilc (.t 155)⟩,
    ⟨some 157, none, .fa 0 (.t 156)⟩,
    ⟨some 158, none, .ld 1 false (.t 157)⟩,
    ⟨some 159, none, .call 67 [.t 158, .c (.int .i64 10)]⟩,
    ⟨some 160, none, .bin .add (.c (.int .i64 70)) (.t 159)⟩,
    ⟨some 14, none, .mov (.t 160)⟩] [0, 13, 14])
   (.seq (.seq (.region [⟨some 161, none, .mov (.t 13)⟩,
    ⟨some 162, none, .bin .eql (.t 161) (.c (.int .u8 126))⟩] [0, 14, 162])
   (.cond (.t 162) (.region [⟨some 163, none, .mov (.t 14)⟩,
    ⟨some 164, none, .bin .add (.t 163) (.c (.int .i64 11))⟩,
    ⟨some 14, none, .mov (.t 164)⟩] [0, 14]) (.skip)))
   (.region [⟨some 165, none, .mov (.t 0)⟩,
    ⟨some 166, none, .mov (.t 14)⟩,
    ⟨some 167, none, .call 100 [.t 165, .t 166]⟩] [])))))) (.seq (.region [⟨some 168, none, .mov (.t 0)⟩,
    ⟨some 169, none, .mov (.t 2)⟩,
    ⟨some 170, none, .bin .sub (.t 169) (.c (.int .i64 1))⟩,
    ⟨some 171, none, .call 69 [.t 168, .c (.int .u8 127), .t 170]⟩] [0])
   (.region [⟨some 172, none, .mov (.t 0)⟩,
    ⟨some 173, none, .mov (.t 0)⟩,
    ⟨some 174, none, .nilc (.t 173)⟩,
    ⟨some 175, none, .fa 0 (.t 174)⟩,
    ⟨some 176, none, .ld 1 false (.t 175)⟩,
    ⟨some 177, none, .call 67 [.t 176, .c (.int .i64 2)]⟩,
    ⟨some 178, none, .bin .add (.c (.int .i64 172)) (.t 177)⟩,
    ⟨some 179, none, .call 100 [.t 172, .t 178]⟩] [])))) (.seq (.region [⟨some 181, none, .mov (.t 6)⟩,
    ⟨some 182, none, .bin .eql (.t 181) (.c (.int .i64 9))⟩,
    ⟨some 180, none, .mov (.t 182)⟩] [0, 1, 2, 6, 7, 180])
   (.cond (.t 180) (.seq (.region [⟨some 183, none, .mov (.t 0)⟩,
    ⟨some 184, none, .mov (.t 2)⟩,
    ⟨some 185, none, .bin .sub (.t 184) (.c (.int .i64 1))⟩,
    ⟨some 186, none, .call 69 [.t 183, .c (.int .u8 127), .t 185]⟩] [0, 7])
   (.seq (.region [⟨some 187, none, .bslice 5 1 [.int .i64 0] [(0, 1, .c (.int .i64 40)), (1, 1, .c (.int .i64 44)), (2, 1, .c (.int .i64 45)), (3, 1, .c (.int .i64 46)), (4, 1, .c (.int .i64 47))]⟩,
    ⟨some 188, none, .mov (.t 0)⟩,
    ⟨some 189, none, .nilc (.t 188)⟩,
    ⟨some 190, none, .fa 0 (.t 189)⟩,
    ⟨some 191, none, .ld 1 false (.t 190)⟩,
    ⟨some 192, none, .call 67 [.t 191, .c (.int .i64 5)]⟩,
    ⟨some 193, none, .iaV 1 (.t 187) (.t 192)⟩,
    ⟨some 194, none, .ld 1 false (.t 193)⟩,
    ⟨some 15, none, .mov (.t 194)⟩] [0, 7, 15])
   (.seq (.seq (.region [⟨some 195, none, .mov (.t 7)⟩,
    ⟨some 196, none, .un .not (.t 195)⟩] [0, 15, 196])
   (.cond (.t 196) (.region [⟨some 197, none, .bslice 5 1 [.int .i64 0] [(0, 1, .c (.int .i64 41)), (1, 1, .c (.int .i64 48)), (2, 1, .c (.int .i64 49)), (3, 1, .c (.int .i64 50)), (4, 1, .c (.int .i64 52))]⟩,
    ⟨some 198, none, .mov (.t 0)⟩,
    ⟨some 199, none, .nilc (.t 198)⟩,
    ⟨some 200, none, .fa 0 (.t 199)⟩,
    ⟨some 201, none, .ld 1 false (.t 200)⟩,
    ⟨some 202, none, .call 67 [.t 201, .c (.int .i64 5)]⟩,
    ⟨some 203, none, .iaV 1 (.t 197) (.t 202)⟩,
    ⟨some 204, none, .ld 1 false (.t 203)⟩,
    ⟨some 15, none, .mov (.t 204)⟩] [0, 15]) (.skip)))
   (.region [⟨some 205, none, .mov (.t 0)⟩,
    ⟨some 206, none, .mov (.t 0)⟩,
    ⟨some 207, none, .nilc (.t 206)⟩,
    ⟨some 208, none, .fa 3 (.t 207)⟩,
    ⟨some 209, none, .ld 1 false (.t 208)⟩,
    ⟨some 210, none, .mov (.t 15)⟩,
    ⟨some 211, none, .mov (.t 0)⟩,
    ⟨some 212, none, .nilc (.t 211)⟩,
    ⟨some 213, none, .fa 0 (.t 212)⟩,
    ⟨some 214, none, .ld 1 false (.t 213)⟩,
    ⟨some 215, none, .call 67 [.t 214, .c (.int .i64 5)]⟩,
    ⟨none, none, .chk 1 false (.t 208) 209⟩,
    ⟨some 216, none, .conv .u32 (.t 215)⟩,
    ⟨some 217, none, .build [.int .i64 0, .int .u32 0, .int .u32 0, .int .u64 0, .slice none 0 0, .int .i64 0] [(0, 1, .t 210), (2, 1, .t 216)]⟩,
    ⟨some 218, none, .bslice 1 6 [.int .i64 0, .int .u32 0, .int .u32 0, .int .u64 0, .slice none 0 0, .int .i64 0] [(0, 6, .t 217)]⟩,
    ⟨some 219, none, .app 6 56 (.t 209) (.t 218)⟩,
    ⟨some 220, none, .nilc (.t 205)⟩,
    ⟨some 221, none, .fa 3 (.t 220)⟩,
    ⟨none, none, .st 1 (.t 221) (.t 219)⟩] [])))) (.seq (.region [⟨some 223, none, .mov (.t 6)⟩,
    ⟨some 224, none, .bin .eql (.t 223) (.c (.int .i64 10))⟩,
    ⟨some 222, none, .mov (.t 224)⟩] [0, 1, 2, 6, 7, 222])
   (.cond (.t 222) (.seq (.region [⟨some 225, none, .mov (.t 0)⟩,
    ⟨some 226, none, .mov (.t 1)⟩,
    ⟨some 227, none, .mov (.t 2)⟩,
    ⟨some 228, none, .bin .sub (.t 227) (.c (.int .i64 1))⟩,
    ⟨some 229, none, .call 69 [.t 225, .t 226, .t 228]⟩] [0, 1, 2])
   (.seq (.region [⟨some 230, none, .mov (.t 0)⟩,
    ⟨some 231, none, .mov (.t 1)⟩,
    ⟨some 232, none, .mov (.t 2)⟩,
    ⟨some 233, none, .bin .sub (.t 232) (.c (.int .i64 1))⟩,
    ⟨some 234, none, .call 69 [.t 230, .t 231, .t 233]⟩] [0, 2])
   (.seq (.region [⟨some 235, none, .mov (.t 0)⟩,
    ⟨some 236, none, .mov (.t 2)⟩,
    ⟨some 237, none, .bin .sub (.t 236) (.c (.int .i64 1))⟩,
    ⟨some 238, none, .call 69 [.t 235, .c (.int .u8 127), .t 237]⟩] [0])
   (.region [⟨some 239, none, .mov (.t 0)⟩,
    ⟨some 240, none, .call 100 [.t 239, .c (.int .i64 27)]⟩] [])))) (.seq (.region [⟨some 242, none, .mov (.t 6)⟩,
    ⟨some 243, none, .bin .eql (.t 242) (.c (.int .i64 11))⟩,
    ⟨some 241, none, .mov (.t 243)⟩] [0, 1, 2, 6, 7, 241])
   (.cond (.t 241) (.region [⟨some 244, none, .mov (.t 0)⟩,
    ⟨some 245, none, .mov (.t 1)⟩,
    ⟨some 246, none, .mov (.t 2)⟩,
    ⟨some 247, none, .call 101 [.t 244, .c (.int .i64 2), .t 245, .t 246]⟩] []) (.seq (.region [⟨some 249, none, .mov (.t 6)⟩,
    ⟨some 250, none, .bin .eql (.t 249) (.c (.int .i64 12))⟩,
    ⟨some 248, none, .mov (.t 250)⟩] [0, 1, 2, 6, 7, 248])
   (.cond (.t 248) (.seq (.region [⟨some 251, none, .mov (.t 0)⟩,
    ⟨some 252, none, .mov (.t 2)⟩,
    ⟨some 253, none, .bin .sub (.t 252) (.c (.int .i64 1))⟩,
    ⟨some 254, none, .call 69 [.t 251, .c (.int .u8 127), .t 253]⟩] [0, 1, 2])
   (.region [⟨some 255, none, .mov (.t 0)⟩,
    ⟨some 256, none, .mov (.t 1)⟩,
    ⟨some 257, none, .mov (.t 2)⟩,
    ⟨some 258, none, .call 101 [.t 255, .c (.int .i64 4), .t 256, .t 257]⟩] [])) (.seq (.region [⟨some 260, none, .mov (.t 6)⟩,
    ⟨some 261, none, .bin .eql (.t 260) (.c (.int .i64 13))⟩,
    ⟨some 259, none, .mov (.t 261)⟩] [0, 1, 2, 6, 7, 259])
   (.cond (.t 259) (.seq (.region [⟨some 262, none, .mov (.t 7)⟩] [0, 1, 2, 262])
   (.cond (.t 262) (.seq (.region [⟨some 263, none, .mov (.t 0)⟩,
    ⟨some 264, none, .mov (.t 2)⟩,
    ⟨some 265, none, .bin .sub (.t 264) (.c (.int .i64 1))⟩,
    ⟨some 266, none, .call 69 [.t 263, .c (.int .u8 126), .t 265]⟩] [0])
   (.region [⟨some 267, none, .mov (.t 0)⟩,
    ⟨some 268, none, .call 100 [.t 267, .c (.int .i64 167)]⟩] [])) (.region [⟨some 269, none, .mov (.t 0)⟩,
    ⟨some 270, none, .mov (.t 1)⟩,
    ⟨some 271, none, .call 96 [.t 269, .t 270, .c (.int .u64 9)]⟩] []))) (.seq (.region [⟨some 273, none, .mov (.t 6)⟩,
    ⟨some 274, none, .bin .eql (.t 273) (.c (.int .i64 14))⟩,
    ⟨some 272, none, .mov (.t 274)⟩] [0, 1, 2, 272])
   (.cond (.t 272) (.region [⟨some 275, none, .mov (.t 0)⟩,
    ⟨some 276, none, .mov (.t 1)⟩,
    ⟨some 277, none, .mov (.t 2)⟩,
    ⟨some 278, none, .call 102 [.t 275, .t 276, .t 277]⟩] []) (.region [⟨some 42, none, .mov (.t 0)⟩,
    ⟨some 43, none, .mov (.t 1)⟩,
    ⟨some 44, none, .mov (.t 2)⟩,
    ⟨some 45, none, .call 103 [.t 42, .t 43, .t 44]⟩] [])))))))))))))))))))))))))))),
  [], 279, 3⟩
def A69 : Ann := ⟨[(0, [0, 1, 2, 6]), (1, [0, 1, 2, 6, 37]), (2, [0, 1, 2, 6]), (3, [0, 1, 2, 6, 7]), (4, []), (5, [0, 1, 2, 6, 7, 46]), (6, []), (7, [0, 1, 2, 6, 7, 54]), (8, [0, 1, 8, 9]), (9, [0, 1, 8, 63]), (10, []), (11, []), (12, [0, 1, 2, 6, 7, 70]), (13, [0, 7, 10]), (14, [0, 10, 74]), (15, [0, 10]), (16, []), (17, [0, 1, 2, 6, 7, 78]), (18, [0, 1, 2, 7]), (19, [0, 7]), (20, [0, 7, 11]), (21, [0, 11, 98]), (22, [0, 11]), (23, []), (24, [0, 1, 2, 6, 7, 104]), (25, [0, 7]), (26, [0, 7, 12]), (27, [0, 12, 121]), (28, [0, 12]), (29, []), (30, [0, 1, 2, 6, 7, 133]), (31, [0, 2, 136]), (32, [0, 2, 13]), (33, [0, 2, 13]), (34, [0, 13]), (35, [0, 13, 14]), (36, [0, 14, 162]), (37, [0, 14]), (38, []), (39, [0]), (40, []), (41, [0, 1, 2, 6, 7, 180]), (42, [0, 7]), (43, [0, 7, 15]), (44, [0, 15, 196]), (45, [0, 15]), (46, []), (47, [0, 1, 2, 6, 7, 222]), (48, [0, 1, 2]), (49, [0, 2]), (50, [0]), (51, []), (52, [0, 1, 2, 6, 7, 241]), (53, []), (54, [0, 1, 2, 6, 7, 248]), (55, [0, 1, 2]), (56, []), (57, [0, 1, 2, 6, 7, 259]), (58, [0, 1, 2, 262]), (59, [0]), (60, []), (61, []), (62, [0, 1, 2, 272]), (63, [])], [(46, [(0, []), (1, []), (2, []), (3, []), (4, []), (5, []), (6, []), (7, []), (8, []), (9, []), (10, [4]), (11, []), (12, []), (13, []), (14, []), (15, []), (16, []), (17, [])], [(2, [1]), (3, [1, 2]), (4, [1, 2, 3]), (7, [6]), (8, [6, 7]), (9, [6, 7, 8]), (10, [6, 7, 8, 9]), (11, [6, 7, 8, 9, 10]), (12, [5, 6, 7, 8, 9, 10, 11]), (13, [5, 6, 7, 8, 9, 10, 11, 12]), (14, [1, 2, 3, 4, 5, 6, 7, 8, 9, 10, 11, 12, 13]), (15, [0, 1, 2, 3, 4, 5, 6, 7, 8, 9, 10, 11, 12, 13, 14]), (16, [0, 1, 2, 3, 4, 5, 6, 7, 8, 9, 10, 11, 12, 13, 14, 15]), (17, [0, 1, 2, 3, 4, 5, 6, 7, 8, 9, 10, 11, 12, 13, 14, 15, 16])])]⟩
set_option maxRecDepth 100000 in
theorem F69.ok : compF Try.prog A69 Try.f69 = some F69 := by kernel_rfl
theorem F69.fok : FOk Try.prog 69 F69 := fok_of mixed Try.func69 F69.ok

/-- slices.Concat[[]byte,byte] -/
def F70 : SFn := ⟨.seq (.region [⟨some 2, none, .mov (.c (.slice none 0 0))⟩] [0])
   (.seq (.region [⟨some 3, none, .mov (.c (.int .i64 0))⟩] [0, 3])
   (.seq (.seq (.region [⟨some 9, none, .mov (.t 0)⟩,
    ⟨some 10, none, .lenV (.t 9)⟩,
    ⟨some 11, none, .mov (.c (.int .i64 0))⟩] [0, 3, 9, 10, 11])
   (.block 0 (.loop (.seq (.region [⟨some 12, none, .bin .lss (.t 11) (.t 10)⟩] [0, 3, 9, 10, 11, 12])
   (.seq (.cond (.t 12) (.skip) (.exit 0))
   (.seq (.block 1 (.seq (.region [⟨some 13, none, .iaV 1 (.t 9) (.t 11)⟩,
    ⟨some 14, none, .ld 1 false (.t 13)⟩,
    ⟨some 5, none, .mov (.t 14)⟩] [0, 3, 5, 9, 10, 11])
   (.seq (.region [⟨some 15, none, .mov (.t 3)⟩,
    ⟨some 16, none, .mov (.t 5)⟩,
    ⟨some 17, none, .lenV (.t 16)⟩,
    ⟨some 18, none, .bin .add (.t 15) (.t 17)⟩,
    ⟨some 3, none, .mov (.t 18)⟩] [0, 3, 9, 10, 11])
   (.seq (.region [⟨some 19, none, .mov (.t 3)⟩,
    ⟨some 20, none, .bin .lss (.t 19) (.c (.int .i64 0))⟩] [0, 3, 9, 10, 11, 20])
   (.cond (.t 20) (.region [⟨some 21, none, .bad⟩,
    ⟨none, none, .bad⟩] [0, 3, 9, 10, 11]) (.skip))))))
   (.region [⟨some 22, none, .bin .add (.t 11) (.c (.int .i64 1))⟩,
    ⟨some 11, none, .mov (.t 22)⟩] [0, 3, 9, 10, 11])))))))
   (.seq (.region [⟨some 23, none, .mov (.t 3)⟩,
    ⟨some 24, none, .call 104 [.c (.slice none 0 0), .t 23]⟩,
    ⟨some 6, none, .mov (.t 24)⟩] [0, 6])
   (.seq (.seq (.region [⟨some 25, none, .mov (.t 0)⟩,
    ⟨some 26, none, .lenV (.t 25)⟩,
    ⟨some 27, none, .mov (.c (.int .i64 0))⟩] [6, 25, 26, 27])
   (.block 2 (.loop (.seq (.region [⟨some 28, none, .bin .lss (.t 27) (.t 26)⟩] [6, 25, 26, 27, 28])
   (.seq (.cond (.t 28) (.skip) (.exit 2))
   (.seq (.block 3 (.seq (.region [⟨some 29, none, .iaV 1 (.t 25) (.t 27)⟩,
    ⟨some 30, none, .ld 1 false (.t 29)⟩,
    ⟨some 8, none, .mov (.t 30)⟩] [6, 8, 25, 26, 27])
   (.region [⟨some 31, none, .mov (.t 6)⟩,
    ⟨some 32, none, .mov (.t 8)⟩,
    ⟨some 33, none, .app 1 1 (.t 31) (.t 32)⟩,
    ⟨some 6, none, .mov (.t 33)⟩] [6, 25, 26, 27])))
   (.region [⟨some 34, none, .bin .add (.t 27) (.c (.int .i64 1))⟩,
    ⟨some 27, none, .mov (.t 34)⟩] [6, 25, 26, 27])))))))
   (.seq (.region [⟨some 35, none, .mov (.t 6)⟩,
    ⟨some 2, none, .mov (.t 35)⟩] [2])
   (.ret)))))),
  [.t 2], 36, 1⟩
def A70 : Ann := ⟨[(0, [0]), (1, [0, 3]), (2, [0, 3, 9, 10, 11]), (3, [0, 3, 9, 10, 11, 12]), (4, [0, 3, 5, 9, 10, 11]), (5, [0, 3, 9, 10, 11]), (6, [0, 3, 9, 10, 11, 20]), (7, [0, 3, 9, 10, 11]), (8, [0, 3, 9, 10, 11]), (9, [0, 6]), (10, [6, 25, 26, 27]), (11, [6, 25, 26, 27, 28]), (12, [6, 8, 25, 26, 27]), (13, [6, 25, 26, 27]), (14, [6, 25, 26, 27]), (15, [2])], []⟩
set_option maxRecDepth 100000 in
theorem F70.ok : compF Try.prog A70 Try.f70 = some F70 := by kernel_rfl
theorem F70.fok : FOk Try.prog 70 F70 := fok_of mixed Try.func70 F70.ok

/-- (*cloakroom/val.checker).opens -/
def F71 : SFn := ⟨.seq (.region [⟨some 8, none, .mov (.t 0)⟩,
    ⟨some 9, none, .mov (.t 0)⟩,
    ⟨some 10, none, .nilc (.t 9)⟩,
    ⟨some 11, none, .fa 3 (.t 10)⟩,
    ⟨some 12, none, .ld 1 false (.t 11)⟩,
    ⟨some 13, none, .mov (.t 1)⟩,
    ⟨some 14, none, .mov (.t 2)⟩,
    ⟨some 15, none, .mov (.t 3)⟩,
    ⟨some 16, none, .mov (.t 0)⟩,
    ⟨some 17, none, .nilc (.t 16)⟩,
    ⟨some 18, none, .fa 0 (.t 17)⟩,
    ⟨some 19, none, .fa 0 (.t 18)⟩,
    ⟨some 20, none, .ld 1 false (.t 19)⟩,
    ⟨some 21, none, .lenV (.t 20)⟩,
    ⟨some 22, none, .build [.int .i64 0, .slice none 0 0, .slice none 0 0, .int .i64 0, .bool false] [(0, 1, .t 13), (1, 1, .t 14), (2, 1, .t 15), (3, 1, .t 21), (4, 1, .c (.bool false))]⟩,
    ⟨some 23, none, .bslice 1 5 [.int .i64 0, .slice none 0 0, .slice none 0 0, .int .i64 0, .bool false] [(0, 5, .t 22)]⟩,
    ⟨some 24, none, .app 5 72 (.t 12) (.t 23)⟩,
    ⟨some 25, none, .nilc (.t 8)⟩,
    ⟨some 26, none, .fa 3 (.t 25)⟩,
    ⟨none, none, .st 1 (.t 26) (.t 24)⟩] [0, 2])
   (.region [⟨some 27, none, .mov (.t 0)⟩,
    ⟨some 28, none, .nilc (.t 27)⟩,
    ⟨some 29, none, .fa 0 (.t 28)⟩,
    ⟨some 30, none, .mov (.t 2)⟩,
    ⟨some 31, none, .call 105 [.t 29, .t 30]⟩] []),
  [], 32, 4⟩
def A71 : Ann := ⟨[(0, [0, 2]), (1, [])], [(0, [(0, []), (1, []), (2, []), (3, []), (4, []), (5, []), (6, []), (7, []), (8, []), (9, []), (10, []), (11, []), (12, []), (13, []), (14, []), (15, []), (16, []), (17, []), (18, []), (19, [])], [(2, [1]), (3, [1, 2]), (4, [1, 2, 3]), (9, [8]), (10, [8, 9]), (11, [8, 9, 10]), (12, [8, 9, 10, 11]), (13, [8, 9, 10, 11, 12]), (14, [5, 6, 7, 8, 9, 10, 11, 12, 13]), (15, [5, 6, 7, 8, 9, 10, 11, 12, 13, 14]), (16, [1, 2, 3, 4, 5, 6, 7, 8, 9, 10, 11, 12, 13, 14, 15]), (17, [0, 1, 2, 3, 4, 5, 6, 7, 8, 9, 10, 11, 12, 13, 14, 15, 16]), (18, [0, 1, 2, 3, 4, 5, 6, 7, 8, 9, 10, 11, 12, 13, 14, 15, 16, 17]), (19, [0, 1, 2, 3, 4, 5, 6, 7, 8, 9, 10, 11, 12, 13, 14, 15, 16, 17, 18])])]⟩
set_option maxRecDepth 100000 in
theorem F71.ok : compF Try.prog A71 Try.f71 = some F71 := by kernel_rfl
theorem F71.fok : FOk Try.prog 71 F71 := fok_of mixed Try.func71 F71.ok

/-- (*cloakroom/val.checker).one -/
def F72 : SFn := ⟨.seq (.region [⟨some 3, none, .box (.t 1)⟩] [0, 3])
   (.seq (.seq (.region [⟨some 6, none, .mov (.t 0)⟩,
    ⟨some 7, none, .ld 6 true (.t 3)⟩,
    ⟨some 8, none, .call 106 [.t 6, .t 7]⟩,
    ⟨some 9, none, .mov (.t 8)⟩,
    ⟨some 10, some (9, false), .mov (.t 0)⟩,
    ⟨some 11, some (9, false), .ld 6 true (.t 3)⟩,
    ⟨some 12, some (9, false), .call 107 [.t 10, .t 11]⟩,
    ⟨some 13, none, .pick (.t 9) (.c (.bool true)) (.t 12)⟩,
    ⟨some 14, none, .mov (.t 13)⟩,
    ⟨some 15, some (14, false), .mov (.t 0)⟩,
    ⟨some 16, some (14, false), .ld 6 true (.t 3)⟩,
    ⟨some 17, some (14, false), .call 108 [.t 15, .t 16]⟩,
    ⟨some 18, none, .pick (.t 14) (.c (.bool true)) (.t 17)⟩] [0, 3, 18])
   (.cond (.t 18) (.ret) (.skip)))
   (.seq (.seq (.region [⟨some 19, none, .fa 0 (.t 3)⟩,
    ⟨some 20, none, .ld 1 false (.t 19)⟩,
    ⟨some 21, none, .call 109 [.t 20]⟩,
    ⟨some 22, none, .bin .gtr (.t 21) (.c (.int .i64 0))⟩] [0, 3, 22])
   (.cond (.t 22) (.seq (.region [⟨some 23, none, .mov (.t 0)⟩,
    ⟨some 24, none, .ld 6 true (.t 3)⟩,
    ⟨some 25, none, .call 110 [.t 23, .t 24]⟩] [])
   (.ret)) (.skip)))
   (.seq (.region [⟨some 27, none, .fa 0 (.t 3)⟩,
    ⟨some 28, none, .ld 1 false (.t 27)⟩,
    ⟨some 29, none, .call 111 [.t 28]⟩,
    ⟨some 26, none, .mov (.t 29)⟩,
    ⟨some 30, none, .ext (.t 26) 0⟩,
    ⟨some 31, none, .ext (.t 26) 1⟩,
    ⟨some 4, none, .mov (.t 30)⟩,
    ⟨some 5, none, .mov (.t 31)⟩] [0, 4, 5])
   (.seq (.region [⟨some 32, none, .mov (.t 0)⟩,
    ⟨some 33, none, .mov (.t 5)⟩,
    ⟨some 34, none, .bin .eql (.t 33) (.c (.int .u8 0))⟩,
    ⟨some 35, none, .call 112 [.t 32, .t 34]⟩] [0, 4, 5])
   (.seq (.region [⟨some 36, none, .mov (.t 0)⟩,
    ⟨some 37, none, .mov (.t 4)⟩,
    ⟨some 38, none, .call 113 [.t 36, .t 37]⟩] [0, 5])
   (.region [⟨some 39, none, .mov (.t 0)⟩,
    ⟨some 40, none, .nilc (.t 39)⟩,
    ⟨some 41, none, .fa 0 (.t 40)⟩,
    ⟨some 42, none, .mov (.t 5)⟩,
    ⟨some 43, none, .bslice 1 1 [.int .u8 0] [(0, 1, .t 42)]⟩,
    ⟨some 44, none, .call 105 [.t 41, .t 43]⟩] [])))))),
  [], 45, 2⟩
def A72 : Ann := ⟨[(0, [0, 3]), (1, [0, 3, 18]), (2, [0, 3, 22]), (3, []), (4, [0, 4, 5]), (5, [0, 4, 5]), (6, [0, 5]), (7, [])], []⟩
set_option maxRecDepth 100000 in
theorem F72.ok : compF Try.prog A72 Try.f72 = some F72 := by kernel_rfl
theorem F72.fok : FOk Try.prog 72 F72 := fok_of mixed Try.func72 F72.ok

/-- cloakroom/val.has -/
def F93 : SFn := ⟨.seq (.region [⟨some 4, none, .mov (.c (.bool false))⟩] [0, 1])
   (.seq (.region [⟨some 5, none, .mov (.t 0)⟩,
    ⟨some 6, none, .conv .u64 (.t 5)⟩,
    ⟨some 7, none, .mov (.t 1)⟩,
    ⟨some 8, none, .conv .u64 (.t 7)⟩,
    ⟨some 9, none, .bin .lss (.t 6) (.t 8)⟩,
    ⟨some 4, none, .mov (.t 9)⟩] [4])
   (.ret)),
  [.t 4], 10, 2⟩
def A93 : Ann := ⟨[(0, [0, 1]), (1, [4])], []⟩
set_option maxRecDepth 100000 in
theorem F93.ok : compF Try.prog A93 Try.f93 = some F93 := by kernel_rfl
theorem F93.fok : FOk Try.prog 93 F93 := fok_of mixed Try.func93 F93.ok

/-- (*cloakroom/cloakroomplay.Picks).Over -/
def F94 : SFn := ⟨.seq (.region [⟨some 2, none, .mov (.c (.bool false))⟩] [0])
   (.seq (.region [⟨some 3, none, .mov (.t 0)⟩,
    ⟨some 4, none, .nilc (.t 3)⟩,
    ⟨some 5, none, .fa 1 (.t 4)⟩,
    ⟨some 6, none, .ld 1 false (.t 5)⟩,
    ⟨some 7, none, .mov (.t 0)⟩,
    ⟨some 8, none, .nilc (.t 7)⟩,
    ⟨some 9, none, .fa 0 (.t 8)⟩,
    ⟨some 10, none, .ld 1 false (.t 9)⟩,
    ⟨some 11, none, .lenV (.t 10)⟩,
    ⟨some 12, none, .bin .geq (.t 6) (.t 11)⟩,
    ⟨some 2, none, .mov (.t 12)⟩] [2])
   (.ret)),
  [.t 2], 13, 1⟩
def A94 : Ann := ⟨[(0, [0]), (1, [2])], [(1, [(0, []), (1, []), (2, []), (3, []), (4, []), (5, []), (6, []), (7, []), (8, []), (9, []), (10, [])], [(1, [0]), (2, [0, 1]), (3, [0, 1, 2]), (5, [4]), (6, [4, 5]), (7, [4, 5, 6]), (8, [4, 5, 6, 7]), (9, [0, 1, 2, 3, 4, 5, 6, 7, 8]), (10, [0, 1, 2, 3, 4, 5, 6, 7, 8, 9])])]⟩
set_option maxRecDepth 100000 in
theorem F94.ok : compF Try.prog A94 Try.f94 = some F94 := by kernel_rfl
theorem F94.fok : FOk Try.prog 94 F94 := fok_of mixed Try.func94 F94.ok

/-- (*cloakroom/cloakroomplay.maker).stmt -/
def F95 : SFn := ⟨.seq (.region [⟨some 9, none, .bslice 2 1 [.int .u8 0] [(0, 1, .c (.int .u8 127)), (1, 1, .c (.int .u8 126))]⟩,
    ⟨some 10, none, .mov (.t 0)⟩,
    ⟨some 11, none, .nilc (.t 10)⟩,
    ⟨some 12, none, .fa 0 (.t 11)⟩,
    ⟨some 13, none, .ld 1 false (.t 12)⟩,
    ⟨some 14, none, .call 67 [.t 13, .c (.int .i64 2)]⟩,
    ⟨some 15, none, .iaV 1 (.t 9) (.t 14)⟩,
    ⟨some 16, none, .ld 1 false (.t 15)⟩,
    ⟨some 4, none, .mov (.t 16)⟩] [0, 1, 4])
   (.seq (.region [⟨some 17, none, .mov (.t 0)⟩,
    ⟨some 18, none, .nilc (.t 17)⟩,
    ⟨some 19, none, .fa 0 (.t 18)⟩,
    ⟨some 20, none, .ld 1 false (.t 19)⟩,
    ⟨some 21, none, .call 67 [.t 20, .c (.int .i64 14)]⟩] [0, 1, 4, 21])
   (.block 0 (.seq (.seq (.region [⟨some 26, none, .bin .eql (.t 21) (.c (.int .i64 0))⟩,
    ⟨some 25, none, .mov (.t 26)⟩] [0, 1, 4, 21, 25])
   (.cond (.t 25) (.skip) (.region [⟨some 27, none, .bin .eql (.t 21) (.c (.int .i64 1))⟩,
    ⟨some 25, none, .mov (.t 27)⟩] [0, 1, 4, 21, 25])))
   (.cond (.t 25) (.seq (.region [⟨some 29, none, .mov (.t 0)⟩,
    ⟨some 30, none, .mov (.t 4)⟩,
    ⟨some 31, none, .call 98 [.t 29, .t 30]⟩,
    ⟨some 28, none, .mov (.t 31)⟩,
    ⟨some 32, none, .ext (.t 28) 0⟩,
    ⟨some 33, none, .ext (.t 28) 1⟩,
    ⟨some 5, none, .mov (.t 32)⟩,
    ⟨some 6, none, .mov (.t 33)⟩] [0, 1, 4, 5, 6])
   (.seq (.region [⟨some 34, none, .mov (.t 0)⟩,
    ⟨some 35, none, .mov (.t 4)⟩,
    ⟨some 36, none, .mov (.t 1)⟩,
    ⟨some 37, none, .call 69 [.t 34, .t 35, .t 36]⟩] [0, 5, 6])
   (.seq (.region [⟨some 38, none, .mov (.t 6)⟩] [0, 5, 38])
   (.cond (.t 38) (.region [⟨some 39, none, .mov (.t 0)⟩,
    ⟨some 40, none, .mov (.t 5)⟩,
    ⟨some 41, none, .call 99 [.t 39, .c (.int .i64 33), .t 40]⟩] []) (.region [⟨some 42, none, .mov (.t 0)⟩,
    ⟨some 43, none, .call 100 [.t 42, .c (.int .i64 26)]⟩] []))))) (.seq (.seq (.region [⟨some 45, none, .bin .eql (.t 21) (.c (.int .i64 2))⟩,
    ⟨some 44, none, .mov (.t 45)⟩] [0, 1, 4, 21, 44])
   (.cond (.t 44) (.skip) (.region [⟨some 46, none, .bin .eql (.t 21) (.c (.int .i64 3))⟩,
    ⟨some 44, none, .mov (.t 46)⟩] [0, 1, 4, 21, 44])))
   (.cond (.t 44) (.seq (.region [⟨some 47, none, .mov (.t 0)⟩,
    ⟨some 48, none, .mov (.t 4)⟩,
    ⟨some 49, none, .mov (.t 1)⟩,
    ⟨some 50, none, .call 69 [.t 47, .t 48, .t 49]⟩] [0, 4])
   (.seq (.region [⟨some 7, none, .mov (.c (.int .u32 0))⟩] [0, 4, 7])
   (.seq (.seq (.region [⟨some 51, none, .mov (.t 4)⟩,
    ⟨some 52, none, .bin .eql (.t 51) (.c (.int .u8 126))⟩] [0, 7, 52])
   (.cond (.t 52) (.region [⟨some 7, none, .mov (.c (.int .u32 1))⟩] [0, 7]) (.skip)))
   (.region [⟨some 53, none, .mov (.t 0)⟩,
    ⟨some 54, none, .mov (.t 7)⟩,
    ⟨some 55, none, .call 99 [.t 53, .c (.int .i64 36), .t 54]⟩] [])))) (.seq (.seq (.region [⟨some 57, none, .bin .eql (.t 21) (.c (.int .i64 4))⟩,
    ⟨some 56, none, .mov (.t 57)⟩] [0, 1, 4, 21, 56])
   (.cond (.t 56) (.skip) (.region [⟨some 58, none, .bin .eql (.t 21) (.c (.int .i64 5))⟩,
    ⟨some 56, none, .mov (.t 58)⟩] [0, 1, 4, 21, 56])))
   (.cond (.t 56) (.seq (.region [⟨some 59, none, .mov (.t 0)⟩,
    ⟨some 60, none, .mov (.t 1)⟩,
    ⟨some 61, none, .bin .sub (.t 60) (.c (.int .i64 1))⟩,
    ⟨some 62, none, .call 69 [.t 59, .c (.int .u8 127), .t 61]⟩] [0, 1, 4])
   (.seq (.region [⟨some 63, none, .mov (.t 0)⟩,
    ⟨some 64, none, .mov (.t 4)⟩,
    ⟨some 65, none, .mov (.t 1)⟩,
    ⟨some 66, none, .bin .sub (.t 65) (.c (.int .i64 1))⟩,
    ⟨some 67, none, .call 69 [.t 63, .t 64, .t 66]⟩] [0, 4])
   (.seq (.region [⟨some 68, none, .bslice 3 1 [.int .i64 0] [(0, 1, .c (.int .i64 54)), (1, 1, .c (.int .i64 58)), (2, 1, .c (.int .i64 59))]⟩,
    ⟨some 69, none, .mov (.t 0)⟩,
    ⟨some 70, none, .nilc (.t 69)⟩,
    ⟨some 71, none, .fa 0 (.t 70)⟩,
    ⟨some 72, none, .ld 1 false (.t 71)⟩,
    ⟨some 73, none, .call 67 [.t 72, .c (.int .i64 3)]⟩,
    ⟨some 74, none, .iaV 1 (.t 68) (.t 73)⟩,
    ⟨some 75, none, .ld 1 false (.t 74)⟩,
    ⟨some 8, none, .mov (.t 75)⟩] [0, 4, 8])
   (.seq (.seq (.region [⟨some 76, none, .mov (.t 4)⟩,
    ⟨some 77, none, .bin .eql (.t 76) (.c (.int .u8 126))⟩] [0, 8, 77])
   (.cond (.t 77) (.region [⟨some 78, none, .bslice 4 1 [.int .i64 0] [(0, 1, .c (.int .i64 55)), (1, 1, .c (.int .i64 60)), (2, 1, .c (.int .i64 61)), (3, 1, .c (.int .i64 62))]⟩,
    ⟨some 79, none, .mov (.t 0)⟩,
    ⟨some 80, none, .nilc (.t 79)⟩,
    ⟨some 81, none, .fa 0 (.t 80)⟩,
    ⟨some 82, none, .ld 1 false (.t 81)⟩,
    ⟨some 83, none, .call 67 [.t 82, .c (.int .i64 4)]⟩,
    ⟨some 84, none, .iaV 1 (.t 78) (.t 83)⟩,
    ⟨some 85, none, .ld 1 false (.t 84)⟩,
    ⟨some 8, none, .mov (.t 85)⟩] [0, 8]) (.skip)))
   (.region [⟨some 86, none, .mov (.t 0)⟩,
    ⟨some 87, none, .mov (.t 0)⟩,
    ⟨some 88, none, .nilc (.t 87)⟩,
    ⟨some 89, none, .fa 3 (.t 88)⟩,
    ⟨some 90, none, .ld 1 false (.t 89)⟩,
    ⟨some 91, none, .mov (.t 8)⟩,
    ⟨some 92, none, .mov (.t 0)⟩,
    ⟨some 93, none, .nilc (.t 92)⟩,
    ⟨some 94, none, .fa 0 (.t 93)⟩,
    ⟨some 95, none, .ld 1 false (.t 94)⟩,
    ⟨some 96, none, .call 67 [.t 95, .c (.int .i64 5)]⟩,
    ⟨none, none, .chk 1 false (.t 89) 90⟩,
    ⟨some 97, none, .conv .u32 (.t 96)⟩,
    ⟨some 98, none, .build [.int .i64 0, .int .u32 0, .int .u32 0, .int .u64 0, .slice none 0 0, .int .i64 0] [(0, 1, .t 91), (2, 1, .t 97)]⟩,
    ⟨some 99, none, .bslice 1 6 [.int .i64 0, .int .u32 0, .int .u32 0, .int .u64 0, .slice none 0 0, .int .i64 0] [(0, 6, .t 98)]⟩,
    ⟨some 100, none, .app 6 56 (.t 90) (.t 99)⟩,
    ⟨some 101, none, .nilc (.t 86)⟩,
    ⟨some 102, none, .fa 3 (.t 101)⟩,
    ⟨none, none, .st 1 (.t 102) (.t 100)⟩] []))))) (.seq (.region [⟨some 104, none, .bin .eql (.t 21) (.c (.int .i64 6))⟩,
    ⟨some 103, none, .mov (.t 104)⟩] [0, 1, 21, 103])
   (.cond (.t 103) (.seq (.region [⟨some 105, none, .mov (.t 0)⟩,
    ⟨some 106, none, .mov (.t 1)⟩,
    ⟨some 107, none, .call 141 [.t 105, .t 106]⟩] [0])
   (.region [⟨some 108, none, .mov (.t 0)⟩,
    ⟨some 109, none, .bslice 3 1 [.int .i64 0] [(0, 1, .c (.int .i64 64522)), (1, 1, .c (.int .i64 64523)), (2, 1, .c (.int .i64 64523))]⟩,
    ⟨some 110, none, .mov (.t 0)⟩,
    ⟨some 111, none, .nilc (.t 110)⟩,
    ⟨some 112, none, .fa 0 (.t 111)⟩,
    ⟨some 113, none, .ld 1 false (.t 112)⟩,
    ⟨some 114, none, .call 67 [.t 113, .c (.int .i64 3)]⟩,
    ⟨some 115, none, .iaV 1 (.t 109) (.t 114)⟩,
    ⟨some 116, none, .ld 1 false (.t 115)⟩,
    ⟨some 117, none, .call 100 [.t 108, .t 116]⟩] [])) (.seq (.region [⟨some 119, none, .bin .eql (.t 21) (.c (.int .i64 7))⟩,
    ⟨some 118, none, .mov (.t 119)⟩] [0, 1, 21, 118])
   (.cond (.t 118) (.seq (.region [⟨some 120, none, .mov (.t 0)⟩,
    ⟨some 121, none, .mov (.t 1)⟩,
    ⟨some 122, none, .call 141 [.t 120, .t 121]⟩] [0])
   (.region [⟨some 123, none, .mov (.t 0)⟩,
    ⟨some 124, none, .mov (.t 0)⟩,
    ⟨some 125, none, .nilc (.t 124)⟩,
    ⟨some 126, none, .fa 0 (.t 125)⟩,
    ⟨some 127, none, .ld 1 false (.t 126)⟩,
    ⟨some 128, none, .call 67 [.t 127, .c (.int .i64 2)]⟩,
    ⟨some 129, none, .conv .u32 (.t 128)⟩,
    ⟨some 130, none, .call 99 [.t 123, .c (.int .i64 64520), .t 129]⟩] [])) (.seq (.region [⟨some 132, none, .bin .eql (.t 21) (.c (.int .i64 8))⟩,
    ⟨some 131, none, .mov (.t 132)⟩] [0, 1, 21, 131])
   (.cond (.t 131) (.seq (.region [⟨some 133, none, .mov (.t 0)⟩,
    ⟨some 134, none, .mov (.t 1)⟩,
    ⟨some 135, none, .call 141 [.t 133, .t 134]⟩] [0])
   (.region [⟨some 136, none, .mov (.t 0)⟩,
    ⟨some 137, none, .mov (.t 0)⟩,
    ⟨some 138, none, .nilc (.t 137)⟩,
    ⟨some 139, none, .fa 3 (.t 138)⟩,
    ⟨some 140, none, .ld 1 false (.t 139)⟩,
    ⟨some 141, none, .bslice 2 1 [.int .i64 0] [(0, 1, .c (.int .i64 64524)), (1, 1, .c (.int .i64 64526))]⟩,
    ⟨some 142, none, .mov (.t 0)⟩,
    ⟨some 143, none, .nilc (.t 142)⟩,
    ⟨some 144, none, .fa 0 (.t 143)⟩,
    ⟨some 145, none, .ld 1 false (.t 144)⟩,
    ⟨some 146, none, .call 67 [.t 145, .c (.int .i64 2)]⟩,
    ⟨none, none, .chk 1 false (.t 139) 140⟩,
    ⟨some 147, none, .iaV 1 (.t 141) (.t 146)⟩,
    ⟨some 148, none, .ld 1 false (.t 147)⟩,
    ⟨some 149, none, .build [.int .i64 0, .int .u32 0, .int .u32 0, .int .u64 0, .slice none 0 0, .int .i64 0] [(0, 1, .t 148)]⟩,
    ⟨some 150, none, .bslice 1 6 [.int .i64 0, .int .u32 0, .int .u32 0, .int .u64 0, .slice none 0 0, .int .i64 0] [(0, 6, .t 149)]⟩,
    ⟨some 151, none, .app 6 56 (.t 140) (.t 150)⟩,
    ⟨some 152, none, .nilc (.t 136)⟩,
    ⟨some 153, none, .fa 3 (.t 152)⟩,
    ⟨none, none, .st 1 (.t 153) (.t 151)⟩] [])) (.seq (.region [⟨some 155, none, .bin .eql (.t 21) (.c (.int .i64 9))⟩,
    ⟨some 154, none, .mov (.t 155)⟩] [0, 1, 21, 154])
   (.cond (.t 154) (.seq (.region [⟨some 156, none, .mov (.t 0)⟩,
    ⟨some 157, none, .mov (.t 0)⟩,
    ⟨some 158, none, .nilc (.t 157)⟩,
    ⟨some 159, none, .fa 0 (.t 158)⟩,
    ⟨some 160, none, .ld 1 false (.t 159)⟩,
    ⟨some 161, none, .call 67 [.t 160, .c (.int .i64 6)]⟩,
    ⟨some 162, none, .conv .u64 (.t 161)⟩,
    ⟨some 163, none, .call 96 [.t 156, .c (.int .u8 127), .t 162]⟩] [0])
   (.seq (.region [⟨some 164, none, .mov (.t 0)⟩,
    ⟨some 165, none, .call 142 [.t 164]⟩] [0])
   (.region [⟨some 166, none, .mov (.t 0)⟩,
    ⟨some 167, none, .call 99 [.t 166, .c (.int .i64 38), .c (.int .u32 0)]⟩] []))) (.seq (.region [⟨some 169, none, .bin .eql (.t 21) (.c (.int .i64 10))⟩,
    ⟨some 168, none, .mov (.t 169)⟩] [0, 1, 21, 168])
   (.cond (.t 168) (.region [⟨some 170, none, .mov (.t 0)⟩,
    ⟨some 171, none, .mov (.t 1)⟩,
    ⟨some 172, none, .call 143 [.t 170, .t 171]⟩] []) (.seq (.region [⟨some 174, none, .bin .eql (.t 21) (.c (.int .i64 11))⟩,
    ⟨some 173, none, .mov (.t 174)⟩] [0, 1, 21, 173])
   (.cond (.t 173) (.region [⟨some 175, none, .mov (.t 0)⟩,
    ⟨some 176, none, .bslice 2 1 [.int .i64 0] [(0, 1, .c (.int .i64 64521)), (1, 1, .c (.int .i64 64525))]⟩,
    ⟨some 177, none, .mov (.t 0)⟩,
    ⟨some 178, none, .nilc (.t 177)⟩,
    ⟨some 179, none, .fa 0 (.t 178)⟩,
    ⟨some 180, none, .ld 1 false (.t 179)⟩,
    ⟨some 184, none, .mov (.t 0)⟩,
    ⟨some 185, none, .nilc (.t 184)⟩,
    ⟨some 186, none, .fa 0 (.t 185)⟩,
    ⟨some 187, none, .ld 1 false (.t 186)⟩,
    ⟨some 181, none, .call 67 [.t 180, .c (.int .i64 2)]⟩,
    ⟨none, none, .chk 1 false (.t 186) 187⟩,
    ⟨some 182, none, .iaV 1 (.t 176) (.t 181)⟩,
    ⟨some 183, none, .ld 1 false (.t 182)⟩,
    ⟨some 188, none, .call 67 [.t 187, .c (.int .i64 2)]⟩,
    ⟨none, none, .chk 1 false (.t 182) 183⟩,
    ⟨some 189, none, .conv .u32 (.t 188)⟩,
    ⟨some 190, none, .call 99 [.t 175, .t 183, .t 189]⟩] []) (.seq (.region [⟨some 192, none, .bin .eql (.t 21) (.c (.int .i64 12))⟩,
    ⟨some 191, none, .mov (.t 192)⟩] [0, 1, 191])
   (.cond (.t 191) (.seq (.region [⟨some 193, none, .mov (.t 0)⟩,
    ⟨some 194, none, .mov (.t 0)⟩,
    ⟨some 195, none, .nilc (.t 194)⟩,
    ⟨some 196, none, .fa 0 (.t 195)⟩,
    ⟨some 197, none, .ld 1 false (.t 196)⟩,
    ⟨some 198, none, .call 67 [.t 197, .c (.int .i64 4)]⟩,
    ⟨some 199, none, .conv .u64 (.t 198)⟩,
    ⟨some 200, none, .call 96 [.t 193, .c (.int .u8 127), .t 199]⟩] [0])
   (.seq (.region [⟨some 201, none, .mov (.t 0)⟩,
    ⟨some 202, none, .call 142 [.t 201]⟩] [0])
   (.seq (.region [⟨some 203, none, .mov (.t 0)⟩,
    ⟨some 204, none, .mov (.t 0)⟩,
    ⟨some 205, none, .nilc (.t 204)⟩,
    ⟨some 206, none, .fa 0 (.t 205)⟩,
    ⟨some 207, none, .ld 1 false (.t 206)⟩,
    ⟨some 208, none, .call 67 [.t 207, .c (.int .i64 4)]⟩,
    ⟨some 209, none, .conv .u64 (.t 208)⟩,
    ⟨some 210, none, .call 96 [.t 203, .c (.int .u8 127), .t 209]⟩] [0])
   (.region [⟨some 211, none, .mov (.t 0)⟩,
    ⟨some 212, none, .call 99 [.t 211, .c (.int .i64 64529), .c (.int .u32 0)]⟩] [])))) (.region [⟨some 22, none, .mov (.t 0)⟩,
    ⟨some 23, none, .mov (.t 1)⟩,
    ⟨some 24, none, .call 144 [.t 22, .t 23]⟩] []))))))))))))))))))))))),
  [], 213, 2⟩
def A95 : Ann := ⟨[(0, [0, 1, 4]), (1, [0, 1, 4, 21]), (2, []), (3, [0, 1, 4, 21, 25]), (4, [0, 1, 4, 21, 25]), (5, [0, 1, 4, 5, 6]), (6, [0, 5, 6]), (7, [0, 5, 38]), (8, []), (9, []), (10, [0, 1, 4, 21, 44]), (11, [0, 1, 4, 21, 44]), (12, [0, 4]), (13, [0, 4, 7]), (14, [0, 7, 52]), (15, [0, 7]), (16, []), (17, [0, 1, 4, 21, 56]), (18, [0, 1, 4, 21, 56]), (19, [0, 1, 4]), (20, [0, 4]), (21, [0, 4, 8]), (22, [0, 8, 77]), (23, [0, 8]), (24, []), (25, [0, 1, 21, 103]), (26, [0]), (27, []), (28, [0, 1, 21, 118]), (29, [0]), (30, []), (31, [0, 1, 21, 131]), (32, [0]), (33, []), (34, [0, 1, 21, 154]), (35, [0]), (36, [0]), (37, []), (38, [0, 1, 21, 168]), (39, []), (40, [0, 1, 21, 173]), (41, []), (42, [0, 1, 191]), (43, [0]), (44, [0]), (45, [0]), (46, [])], [(24, [(0, []), (1, []), (2, []), (3, []), (4, []), (5, []), (6, []), (7, []), (8, []), (9, []), (10, [4]), (11, []), (12, []), (13, []), (14, []), (15, []), (16, []), (17, [])], [(2, [1]), (3, [1, 2]), (4, [1, 2, 3]), (7, [6]), (8, [6, 7]), (9, [6, 7, 8]), (10, [6, 7, 8, 9]), (11, [6, 7, 8, 9, 10]), (12, [5, 6, 7, 8, 9, 10, 11]), (13, [5, 6, 7, 8, 9, 10, 11, 12]), (14, [1, 2, 3, 4, 5, 6, 7, 8, 9, 10, 11, 12, 13]), (15, [0, 1, 2, 3, 4, 5, 6, 7, 8, 9, 10, 11, 12, 13, 14]), (16, [0, 1, 2, 3, 4, 5, 6, 7, 8, 9, 10, 11, 12, 13, 14, 15]), (17, [0, 1, 2, 3, 4, 5, 6, 7, 8, 9, 10, 11, 12, 13, 14, 15, 16])]),
  (33, [(0, []), (1, []), (2, []), (3, []), (4, []), (5, []), (6, []), (7, []), (8, []), (9, []), (10, [4]), (11, []), (12, []), (13, []), (14, []), (15, []), (16, []), (17, []), (18, [])], [(2, [1]), (3, [1, 2]), (4, [1, 2, 3]), (7, [6]), (8, [6, 7]), (9, [6, 7, 8]), (10, [6, 7, 8, 9]), (11, [5, 6, 7, 8, 9, 10]), (12, [5, 6, 7, 8, 9, 10, 11]), (13, [5, 6, 7, 8, 9, 10, 11, 12]), (14, [5, 6, 7, 8, 9, 10, 11, 12, 13]), (15, [1, 2, 3, 4, 5, 6, 7, 8, 9, 10, 11, 12, 13, 14]), (16, [0, 1, 2, 3, 4, 5, 6, 7, 8, 9, 10, 11, 12, 13, 14, 15]), (17, [0, 1, 2, 3, 4, 5, 6, 7, 8, 9, 10, 11, 12, 13, 14, 15, 16]), (18, [0, 1, 2, 3, 4, 5, 6, 7, 8, 9, 10, 11, 12, 13, 14, 15, 16, 17])]),
  (41, [(0, []), (1, []), (2, []), (3, []), (4, []), (5, []), (9, []), (10, []), (11, []), (12, []), (6, [12]), (7, []), (8, []), (13, [8]), (14, []), (15, [])], [(3, [2]), (4, [2, 3]), (5, [2, 3, 4]), (6, [2, 3, 4, 5]), (7, [1, 2, 3, 4, 5, 6]), (8, [1, 2, 3, 4, 5, 6, 7]), (10, [9]), (11, [9, 10]), (12, [9, 10, 11]), (13, [2, 3, 4, 5, 6, 9, 10, 11, 12]), (14, [2, 3, 4, 5, 6, 9, 10, 11, 12, 13]), (15, [0, 1, 2, 3, 4, 5, 6, 7, 8, 9, 10, 11, 12, 13, 14])])]⟩
set_option maxRecDepth 100000 in
theorem F95.ok : compF Try.prog A95 Try.f95 = some F95 := by kernel_rfl
theorem F95.fok : FOk Try.prog 95 F95 := fok_of mixed Try.func95 F95.ok

/-- (*cloakroom/cloakroomplay.maker).num -/
def F96 : SFn := ⟨.seq (.region [⟨some 6, none, .mov (.t 1)⟩,
    ⟨some 7, none, .bin .eql (.t 6) (.c (.int .u8 127))⟩] [0, 2, 7])
   (.cond (.t 7) (.region [⟨some 8, none, .mov (.t 0)⟩,
    ⟨some 9, none, .mov (.t 0)⟩,
    ⟨some 10, none, .nilc (.t 9)⟩,
    ⟨some 11, none, .fa 3 (.t 10)⟩,
    ⟨some 12, none, .ld 1 false (.t 11)⟩,
    ⟨some 13, none, .mov (.t 2)⟩,
    ⟨some 14, none, .bin .and (.t 13) (.c (.int .u64 4294967295))⟩,
    ⟨some 15, none, .build [.int .i64 0, .int .u32 0, .int .u32 0, .int .u64 0, .slice none 0 0, .int .i64 0] [(0, 1, .c (.int .i64 65)), (3, 1, .t 14)]⟩,
    ⟨some 16, none, .bslice 1 6 [.int .i64 0, .int .u32 0, .int .u32 0, .int .u64 0, .slice none 0 0, .int .i64 0] [(0, 6, .t 15)]⟩,
    ⟨some 17, none, .app 6 56 (.t 12) (.t 16)⟩,
    ⟨some 18, none, .nilc (.t 8)⟩,
    ⟨some 19, none, .fa 3 (.t 18)⟩,
    ⟨none, none, .st 1 (.t 19) (.t 17)⟩] []) (.region [⟨some 20, none, .mov (.t 0)⟩,
    ⟨some 21, none, .mov (.t 0)⟩,
    ⟨some 22, none, .nilc (.t 21)⟩,
    ⟨some 23, none, .fa 3 (.t 22)⟩,
    ⟨some 24, none, .ld 1 false (.t 23)⟩,
    ⟨some 25, none, .mov (.t 2)⟩,
    ⟨some 26, none, .build [.int .i64 0, .int .u32 0, .int .u32 0, .int .u64 0, .slice none 0 0, .int .i64 0] [(0, 1, .c (.int .i64 66)), (3, 1, .t 25)]⟩,
    ⟨some 27, none, .bslice 1 6 [.int .i64 0, .int .u32 0, .int .u32 0, .int .u64 0, .slice none 0 0, .int .i64 0] [(0, 6, .t 26)]⟩,
    ⟨some 28, none, .app 6 56 (.t 24) (.t 27)⟩,
    ⟨some 29, none, .nilc (.t 20)⟩,
    ⟨some 30, none, .fa 3 (.t 29)⟩,
    ⟨none, none, .st 1 (.t 30) (.t 28)⟩] [])),
  [], 31, 3⟩
def A96 : Ann := ⟨[(0, [0, 2, 7]), (1, []), (2, [])], []⟩
set_option maxRecDepth 100000 in
theorem F96.ok : compF Try.prog A96 Try.f96 = some F96 := by kernel_rfl
theorem F96.fok : FOk Try.prog 96 F96 := fok_of mixed Try.func96 F96.ok

/-- (*cloakroom/cloakroomplay.maker).value -/
def F97 : SFn := ⟨.seq (.region [⟨some 2, none, .mov (.c (.int .u64 0))⟩] [0])
   (.seq (.region [⟨some 3, none, .bslice 14 1 [.int .u64 0] [(0, 1, .c (.int .u64 0)), (1, 1, .c (.int .u64 1)), (2, 1, .c (.int .u64 2)), (3, 1, .c (.int .u64 3)), (4, 1, .c (.int .u64 7)), (5, 1, .c (.int .u64 65535)), (6, 1, .c (.int .u64 65536)), (7, 1, .c (.int .u64 2147483647)), (8, 1, .c (.int .u64 2147483648)), (9, 1, .c (.int .u64 4294967295)), (10, 1, .c (.int .u64 9223372036854775808)), (11, 1, .c (.int .u64 18446744073709551615)), (12, 1, .c (.int .u64 40)), (13, 1, .c (.int .u64 100))]⟩,
    ⟨some 4, none, .mov (.t 0)⟩,
    ⟨some 5, none, .nilc (.t 4)⟩,
    ⟨some 6, none, .fa 0 (.t 5)⟩,
    ⟨some 7, none, .ld 1 false (.t 6)⟩,
    ⟨some 8, none, .call 67 [.t 7, .c (.int .i64 14)]⟩,
    ⟨some 9, none, .iaV 1 (.t 3) (.t 8)⟩,
    ⟨some 10, none, .ld 1 false (.t 9)⟩,
    ⟨some 2, none, .mov (.t 10)⟩] [2])
   (.ret)),
  [.t 2], 11, 1⟩
def A97 : Ann := ⟨[(0, [0]), (1, [2])], []⟩
set_option maxRecDepth 100000 in
theorem F97.ok : compF Try.prog A97 Try.f97 = some F97 := by kernel_rfl
theorem F97.fok : FOk Try.prog 97 F97 := fok_of mixed Try.func97 F97.ok

/-- (*cloakroom/cloakroomplay.maker).local -/
def F98 : SFn := ⟨.seq (.region [⟨some 4, none, .mov (.c (.int .u32 0))⟩,
    ⟨some 5, none, .mov (.c (.bool false))⟩] [0, 1])
   (.seq (.region [⟨some 9, none, .mov (.t 0)⟩,
    ⟨some 10, none, .nilc (.t 9)⟩,
    ⟨some 11, none, .fa 0 (.t 10)⟩,
    ⟨some 12, none, .ld 1 false (.t 11)⟩,
    ⟨some 13, none, .call 67 [.t 12, .c (.int .i64 8)]⟩,
    ⟨some 6, none, .mov (.t 13)⟩] [0, 1, 6])
   (.seq (.seq (.region [⟨some 7, none, .mov (.c (.int .i64 0))⟩] [0, 1, 6, 7])
   (.block 0 (.loop (.seq (.seq (.region [⟨some 14, none, .mov (.t 7)⟩,
    ⟨some 15, none, .mov (.t 0)⟩,
    ⟨some 16, none, .nilc (.t 15)⟩,
    ⟨some 17, none, .fa 2 (.t 16)⟩,
    ⟨some 18, none, .ld 1 false (.t 17)⟩,
    ⟨some 19, none, .lenV (.t 18)⟩,
    ⟨some 20, none, .bin .lss (.t 14) (.t 19)⟩] [0, 1, 6, 7, 20])
   (.cond (.t 20) (.skip) (.exit 0)))
   (.seq (.block 1 (.seq (.region [⟨some 23, none, .mov (.t 7)⟩,
    ⟨some 24, none, .mov (.t 6)⟩,
    ⟨some 25, none, .bin .add (.t 23) (.t 24)⟩,
    ⟨some 26, none, .mov (.t 0)⟩,
    ⟨some 27, none, .nilc (.t 26)⟩,
    ⟨some 28, none, .fa 2 (.t 27)⟩,
    ⟨some 29, none, .ld 1 false (.t 28)⟩,
    ⟨some 30, none, .lenV (.t 29)⟩,
    ⟨some 31, none, .bin .rem (.t 25) (.t 30)⟩,
    ⟨some 8, none, .mov (.t 31)⟩] [0, 1, 6, 7, 8])
   (.seq (.region [⟨some 32, none, .mov (.t 0)⟩,
    ⟨some 33, none, .nilc (.t 32)⟩,
    ⟨some 34, none, .fa 2 (.t 33)⟩,
    ⟨some 35, none, .ld 1 false (.t 34)⟩,
    ⟨some 36, none, .mov (.t 8)⟩,
    ⟨some 37, none, .iaV 1 (.t 35) (.t 36)⟩,
    ⟨some 38, none, .ld 1 false (.t 37)⟩,
    ⟨some 39, none, .mov (.t 1)⟩,
    ⟨some 40, none, .bin .eql (.t 38) (.t 39)⟩,
    ⟨some 41, none, .mov (.t 40)⟩,
    ⟨some 42, some (41, true), .mov (.t 8)⟩,
    ⟨some 43, some (41, true), .mov (.t 0)⟩,
    ⟨some 44, some (41, true), .nilc (.t 43)⟩,
    ⟨some 45, some (41, true), .fa 2 (.t 44)⟩,
    ⟨some 46, some (41, true), .ld 1 false (.t 45)⟩,
    ⟨some 47, some (41, true), .lenV (.t 46)⟩,
    ⟨some 48, some (41, true), .bin .sub (.t 47) (.c (.int .i64 1))⟩,
    ⟨some 49, some (41, true), .bin .neq (.t 42) (.t 48)⟩,
    ⟨some 50, none, .pick (.t 41) (.t 49) (.c (.bool false))⟩] [0, 1, 6, 7, 8, 50])
   (.cond (.t 50) (.seq (.region [⟨some 51, none, .mov (.t 8)⟩,
    ⟨some 52, none, .conv .u32 (.t 51)⟩,
    ⟨some 4, none, .mov (.t 52)⟩,
    ⟨some 5, none, .mov (.c (.bool true))⟩] [4, 5])
   (.ret)) (.skip)))))
   (.region [⟨some 21, none, .mov (.t 7)⟩,
    ⟨some 22, none, .bin .add (.t 21) (.c (.int .i64 1))⟩,
    ⟨some 7, none, .mov (.t 22)⟩] [0, 1, 6, 7]))))))
   (.seq (.region [⟨some 4, none, .mov (.c (.int .u32 0))⟩,
    ⟨some 5, none, .mov (.c (.bool false))⟩] [4, 5])
   (.ret)))),
  [.t 4, .t 5], 53, 2⟩
def A98 : Ann := ⟨[(0, [0, 1]), (1, [0, 1, 6]), (2, [0, 1, 6, 7]), (3, [0, 1, 6, 7, 20]), (4, [0, 1, 6, 7]), (5, [0, 1, 6, 7, 8]), (6, [0, 1, 6, 7, 8, 50]), (7, [4, 5]), (8, [4, 5])], []⟩
set_option maxRecDepth 100000 in
theorem F98.ok : compF Try.prog A98 Try.f98 = some F98 := by kernel_rfl
theorem F98.fok : FOk Try.prog 98 F98 := fok_of mixed Try.func98 F98.ok

/-- (*cloakroom/cloakroomplay.maker).a -/
def F99 : SFn := ⟨.region [⟨some 6, none, .mov (.t 0)⟩,
    ⟨some 7, none, .mov (.t 0)⟩,
    ⟨some 8, none, .nilc (.t 7)⟩,
    ⟨some 9, none, .fa 3 (.t 8)⟩,
    ⟨some 10, none, .ld 1 false (.t 9)⟩,
    ⟨some 11, none, .mov (.t 1)⟩,
    ⟨some 12, none, .mov (.t 2)⟩,
    ⟨some 13, none, .build [.int .i64 0, .int .u32 0, .int .u32 0, .int .u64 0, .slice none 0 0, .int .i64 0] [(0, 1, .t 11), (1, 1, .t 12)]⟩,
    ⟨some 14, none, .bslice 1 6 [.int .i64 0, .int .u32 0, .int .u32 0, .int .u64 0, .slice none 0 0, .int .i64 0] [(0, 6, .t 13)]⟩,
    ⟨some 15, none, .app 6 56 (.t 10) (.t 14)⟩,
    ⟨some 16, none, .nilc (.t 6)⟩,
    ⟨some 17, none, .fa 3 (.t 16)⟩,
    ⟨none, none, .st 1 (.t 17) (.t 15)⟩] [],
  [], 18, 3⟩
def A99 : Ann := ⟨[(0, [])], []⟩
set_option maxRecDepth 100000 in
theorem F99.ok : compF Try.prog A99 Try.f99 = some F99 := by kernel_rfl
theorem F99.fok : FOk Try.prog 99 F99 := fok_of mixed Try.func99 F99.ok

/-- (*cloakroom/cloakroomplay.maker).op -/
def F100 : SFn := ⟨.region [⟨some 4, none, .mov (.t 0)⟩,
    ⟨some 5, none, .mov (.t 0)⟩,
    ⟨some 6, none, .nilc (.t 5)⟩,
    ⟨some 7, none, .fa 3 (.t 6)⟩,
    ⟨some 8, none, .ld 1 false (.t 7)⟩,
    ⟨some 9, none, .mov (.t 1)⟩,
    ⟨some 10, none, .build [.int .i64 0, .int .u32 0, .int .u32 0, .int .u64 0, .slice none 0 0, .int .i64 0] [(0, 1, .t 9)]⟩,
    ⟨some 11, none, .bslice 1 6 [.int .i64 0, .int .u32 0, .int .u32 0, .int .u64 0, .slice none 0 0, .int .i64 0] [(0, 6, .t 10)]⟩,
    ⟨some 12, none, .app 6 56 (.t 8) (.t 11)⟩,
    ⟨some 13, none, .nilc (.t 4)⟩,
    ⟨some 14, none, .fa 3 (.t 13)⟩,
    ⟨none, none, .st 1 (.t 14) (.t 12)⟩] [],
  [], 15, 2⟩
def A100 : Ann := ⟨[(0, [])], []⟩
set_option maxRecDepth 100000 in
theorem F100.ok : compF Try.prog A100 Try.f100 = some F100 := by kernel_rfl
theorem F100.fok : FOk Try.prog 100 F100 := fok_of mixed Try.func100 F100.ok

/-- (*cloakroom/cloakroomplay.maker).block -/
def F101 : SFn := ⟨.seq (.region [⟨some 8, none, .mov (.t 0)⟩,
    ⟨some 9, none, .nilc (.t 8)⟩,
    ⟨some 10, none, .fa 4 (.t 9)⟩,
    ⟨some 11, none, .ld 1 false (.t 10)⟩,
    ⟨some 12, none, .bin .add (.t 11) (.c (.int .i64 1))⟩,
    ⟨some 13, none, .nilc (.t 8)⟩,
    ⟨some 14, none, .fa 4 (.t 13)⟩,
    ⟨none, none, .st 1 (.t 14) (.t 12)⟩] [0, 1, 2, 3])
   (.seq (.region [⟨some 15, none, .mov (.t 0)⟩,
    ⟨some 16, none, .mov (.t 0)⟩,
    ⟨some 17, none, .nilc (.t 16)⟩,
    ⟨some 18, none, .fa 3 (.t 17)⟩,
    ⟨some 19, none, .ld 1 false (.t 18)⟩,
    ⟨some 20, none, .mov (.t 1)⟩,
    ⟨some 21, none, .mov (.t 2)⟩,
    ⟨some 22, none, .conv .i64 (.t 21)⟩,
    ⟨some 23, none, .bin .sub (.t 22) (.c (.int .i64 128))⟩,
    ⟨some 24, none, .build [.int .i64 0, .int .u32 0, .int .u32 0, .int .u64 0, .slice none 0 0, .int .i64 0] [(0, 1, .t 20), (5, 1, .t 23)]⟩,
    ⟨some 25, none, .bslice 1 6 [.int .i64 0, .int .u32 0, .int .u32 0, .int .u64 0, .slice none 0 0, .int .i64 0] [(0, 6, .t 24)]⟩,
    ⟨some 26, none, .app 6 56 (.t 19) (.t 25)⟩,
    ⟨some 27, none, .nilc (.t 15)⟩,
    ⟨some 28, none, .fa 3 (.t 27)⟩,
    ⟨none, none, .st 1 (.t 28) (.t 26)⟩] [0, 1, 2, 3])
   (.seq (.region [⟨some 29, none, .mov (.t 0)⟩,
    ⟨some 30, none, .mov (.t 3)⟩,
    ⟨some 31, none, .bin .sub (.t 30) (.c (.int .i64 1))⟩,
    ⟨some 32, none, .call 68 [.t 29, .c (.int .i64 1), .t 31]⟩] [0, 1, 2, 3])
   (.seq (.region [⟨some 33, none, .mov (.t 0)⟩,
    ⟨some 34, none, .mov (.t 2)⟩,
    ⟨some 35, none, .mov (.t 3)⟩,
    ⟨some 36, none, .bin .sub (.t 35) (.c (.int .i64 1))⟩,
    ⟨some 37, none, .call 69 [.t 33, .t 34, .t 36]⟩] [0, 1, 2, 3])
   (.seq (.seq (.region [⟨some 38, none, .mov (.t 0)⟩,
    ⟨some 39, none, .nilc (.t 38)⟩,
    ⟨some 40, none, .fa 0 (.t 39)⟩,
    ⟨some 41, none, .ld 1 false (.t 40)⟩,
    ⟨some 42, none, .call 67 [.t 41, .c (.int .i64 3)]⟩,
    ⟨some 43, none, .bin .eql (.t 42) (.c (.int .i64 0))⟩] [0, 1, 2, 3, 43])
   (.cond (.t 43) (.seq (.region [⟨some 44, none, .mov (.t 0)⟩,
    ⟨some 45, none, .mov (.t 3)⟩,
    ⟨some 46, none, .bin .sub (.t 45) (.c (.int .i64 1))⟩,
    ⟨some 47, none, .call 69 [.t 44, .c (.int .u8 127), .t 46]⟩] [0, 1, 2, 3])
   (.region [⟨some 48, none, .mov (.t 0)⟩,
    ⟨some 49, none, .call 99 [.t 48, .c (.int .i64 13), .c (.int .u32 0)]⟩] [0, 1, 2, 3])) (.skip)))
   (.seq (.seq (.region [⟨some 50, none, .mov (.t 1)⟩,
    ⟨some 51, none, .bin .eql (.t 50) (.c (.int .i64 4))⟩] [0, 2, 3, 51])
   (.cond (.t 51) (.seq (.region [⟨some 52, none, .mov (.t 0)⟩,
    ⟨some 53, none, .call 100 [.t 52, .c (.int .i64 5)]⟩] [0, 2, 3])
   (.region [⟨some 54, none, .mov (.t 0)⟩,
    ⟨some 55, none, .mov (.t 2)⟩,
    ⟨some 56, none, .mov (.t 3)⟩,
    ⟨some 57, none, .bin .sub (.t 56) (.c (.int .i64 1))⟩,
    ⟨some 58, none, .call 69 [.t 54, .t 55, .t 57]⟩] [0])) (.skip)))
   (.seq (.region [⟨some 59, none, .mov (.t 0)⟩,
    ⟨some 60, none, .call 100 [.t 59, .c (.int .i64 11)]⟩] [0])
   (.region [⟨some 61, none, .mov (.t 0)⟩,
    ⟨some 62, none, .nilc (.t 61)⟩,
    ⟨some 63, none, .fa 4 (.t 62)⟩,
    ⟨some 64, none, .ld 1 false (.t 63)⟩,
    ⟨some 65, none, .bin .sub (.t 64) (.c (.int .i64 1))⟩,
    ⟨some 66, none, .nilc (.t 61)⟩,
    ⟨some 67, none, .fa 4 (.t 66)⟩,
    ⟨none, none, .st 1 (.t 67) (.t 65)⟩] []))))))),
  [], 68, 4⟩
def A101 : Ann := ⟨[(0, [0, 1, 2, 3]), (1, [0, 1, 2, 3]), (2, [0, 1, 2, 3]), (3, [0, 1, 2, 3]), (4, [0, 1, 2, 3, 43]), (5, [0, 1, 2, 3]), (6, [0, 1, 2, 3]), (7, [0, 2, 3, 51]), (8, [0, 2, 3]), (9, [0]), (10, [0]), (11, [])], []⟩
set_option maxRecDepth 100000 in
theorem F101.ok : compF Try.prog A101 Try.f101 = some F101 := by kernel_rfl
theorem F101.fok : FOk Try.prog 101 F101 := fok_of mixed Try.func101 F101.ok

/-- (*cloakroom/cloakroomplay.maker).called -/
def F102 : SFn := ⟨.seq (.seq (.region [⟨some 6, none, .mov (.c (.int .i64 0))⟩] [0, 1, 2, 6])
   (.block 0 (.loop (.seq (.seq (.region [⟨some 9, none, .mov (.t 6)⟩,
    ⟨some 10, none, .mov (.t 0)⟩,
    ⟨some 11, none, .nilc (.t 10)⟩,
    ⟨some 12, none, .fa 1 (.t 11)⟩,
    ⟨some 13, none, .ld 1 false (.t 12)⟩,
    ⟨some 14, none, .nilc (.t 13)⟩,
    ⟨some 15, none, .fa 1 (.t 14)⟩,
    ⟨some 16, none, .ld 1 false (.t 15)⟩,
    ⟨some 17, none, .lenV (.t 16)⟩,
    ⟨some 18, none, .bin .lss (.t 9) (.t 17)⟩] [0, 1, 2, 6, 18])
   (.cond (.t 18) (.skip) (.exit 0)))
   (.seq (.block 1 (.seq (.region [⟨some 21, none, .mov (.t 0)⟩,
    ⟨some 22, none, .nilc (.t 21)⟩,
    ⟨some 23, none, .fa 1 (.t 22)⟩,
    ⟨some 24, none, .ld 1 false (.t 23)⟩,
    ⟨some 25, none, .nilc (.t 24)⟩,
    ⟨some 26, none, .fa 0 (.t 25)⟩,
    ⟨some 27, none, .ld 1 false (.t 26)⟩,
    ⟨some 28, none, .mov (.t 0)⟩,
    ⟨some 29, none, .nilc (.t 28)⟩,
    ⟨some 30, none, .fa 1 (.t 29)⟩,
    ⟨some 31, none, .ld 1 false (.t 30)⟩,
    ⟨some 32, none, .nilc (.t 31)⟩,
    ⟨some 33, none, .fa 1 (.t 32)⟩,
    ⟨some 34, none, .ld 1 false (.t 33)⟩,
    ⟨some 35, none, .mov (.t 6)⟩,
    ⟨some 36, none, .iaV 1 (.t 34) (.t 35)⟩,
    ⟨some 37, none, .ld 1 false (.t 36)⟩,
    ⟨some 38, none, .iaV 2 (.t 27) (.t 37)⟩,
    ⟨some 39, none, .ld 2 true (.t 38)⟩,
    ⟨some 7, none, .new [.slice none 0 0, .slice none 0 0]⟩,
    ⟨none, none, .st 2 (.t 7) (.t 39)⟩] [0, 1, 2, 6, 7])
   (.seq (.seq (.region [⟨some 40, none, .fa 1 (.t 7)⟩,
    ⟨some 41, none, .ld 1 false (.t 40)⟩,
    ⟨some 42, none, .lenV (.t 41)⟩,
    ⟨some 43, none, .bin .neq (.t 42) (.c (.int .i64 1))⟩,
    ⟨some 44, none, .mov (.t 43)⟩,
    ⟨some 45, some (44, false), .fa 1 (.t 7)⟩,
    ⟨some 46, some (44, false), .ld 1 false (.t 45)⟩,
    ⟨some 47, some (44, false), .iaV 1 (.t 46) (.c (.int .i64 0))⟩,
    ⟨some 48, some (44, false), .ld 1 false (.t 47)⟩,
    ⟨some 49, some (44, false), .mov (.t 1)⟩,
    ⟨some 50, some (44, false), .bin .neq (.t 48) (.t 49)⟩,
    ⟨some 51, none, .pick (.t 44) (.c (.bool true)) (.t 50)⟩,
    ⟨some 52, none, .mov (.t 51)⟩,
    ⟨some 53, some (52, false), .mov (.t 6)⟩,
    ⟨some 54, some (52, false), .mov (.t 0)⟩,
    ⟨some 55, some (52, false), .nilc (.t 54)⟩,
    ⟨some 56, some (52, false), .fa 5 (.t 55)⟩,
    ⟨some 57, some (52, false), .ld 1 false (.t 56)⟩,
    ⟨some 58, some (52, false), .bin .geq (.t 53) (.t 57)⟩,
    ⟨some 59, some (52, false), .mov (.t 58)⟩,
    ⟨some 60, some (59, true), .mov (.t 0)⟩,
    ⟨some 61, some (59, true), .nilc (.t 60)⟩,
    ⟨some 62, some (59, true), .fa 0 (.t 61)⟩,
    ⟨some 63, some (59, true), .ld 1 false (.t 62)⟩,
    ⟨some 64, some (59, true), .call 67 [.t 63, .c (.int .i64 6)]⟩,
    ⟨some 65, some (59, true), .bin .gtr (.t 64) (.c (.int .i64 0))⟩,
    ⟨some 66, some (52, false), .pick (.t 59) (.t 65) (.c (.bool false))⟩,
    ⟨some 67, none, .pick (.t 52) (.c (.bool true)) (.t 66)⟩] [0, 1, 2, 6, 7, 67])
   (.cond (.t 67) (.exit 1) (.skip)))
   (.seq (.seq (.region [⟨some 8, none, .mov (.c (.int .i64 0))⟩] [0, 2, 6, 7, 8])
   (.block 2 (.loop (.seq (.seq (.region [⟨some 68, none, .mov (.t 8)⟩,
    ⟨some 69, none, .fa 0 (.t 7)⟩,
    ⟨some 70, none, .ld 1 false (.t 69)⟩,
    ⟨some 71, none, .lenV (.t 70)⟩,
    ⟨some 72, none, .bin .lss (.t 68) (.t 71)⟩] [0, 2, 6, 7, 8, 72])
   (.cond (.t 72) (.skip) (.exit 2)))
   (.seq (.block 3 (.region [⟨some 75, none, .mov (.t 0)⟩,
    ⟨some 76, none, .fa 0 (.t 7)⟩,
    ⟨some 77, none, .ld 1 false (.t 76)⟩,
    ⟨some 78, none, .mov (.t 8)⟩,
    ⟨some 79, none, .iaV 1 (.t 77) (.t 78)⟩,
    ⟨some 80, none, .ld 1 false (.t 79)⟩,
    ⟨some 81, none, .mov (.t 2)⟩,
    ⟨some 82, none, .bin .sub (.t 81) (.c (.int .i64 1))⟩,
    ⟨some 83, none, .call 69 [.t 75, .t 80, .t 82]⟩] [0, 2, 6, 7, 8]))
   (.region [⟨some 73, none, .mov (.t 8)⟩,
    ⟨some 74, none, .bin .add (.t 73) (.c (.int .i64 1))⟩,
    ⟨some 8, none, .mov (.t 74)⟩] [0, 2, 6, 7, 8]))))))
   (.seq (.seq (.region [⟨some 84, none, .mov (.t 0)⟩,
    ⟨some 85, none, .nilc (.t 84)⟩,
    ⟨some 86, none, .fa 0 (.t 85)⟩,
    ⟨some 87, none, .ld 1 false (.t 86)⟩,
    ⟨some 88, none, .call 67 [.t 87, .c (.int .i64 3)]⟩,
    ⟨some 89, none, .bin .eql (.t 88) (.c (.int .i64 0))⟩] [0, 6, 89])
   (.cond (.t 89) (.seq (.region [⟨some 90, none, .mov (.t 0)⟩,
    ⟨some 91, none, .mov (.t 0)⟩,
    ⟨some 92, none, .nilc (.t 91)⟩,
    ⟨some 93, none, .fa 0 (.t 92)⟩,
    ⟨some 94, none, .ld 1 false (.t 93)⟩,
    ⟨some 95, none, .call 67 [.t 94, .c (.int .i64 5)]⟩,
    ⟨some 96, none, .conv .u64 (.t 95)⟩,
    ⟨some 97, none, .call 96 [.t 90, .c (.int .u8 127), .t 96]⟩] [0, 6])
   (.region [⟨some 98, none, .mov (.t 0)⟩,
    ⟨some 99, none, .mov (.t 0)⟩,
    ⟨some 100, none, .nilc (.t 99)⟩,
    ⟨some 101, none, .fa 3 (.t 100)⟩,
    ⟨some 102, none, .ld 1 false (.t 101)⟩,
    ⟨some 103, none, .mov (.t 0)⟩,
    ⟨some 104, none, .nilc (.t 103)⟩,
    ⟨some 105, none, .fa 1 (.t 104)⟩,
    ⟨some 106, none, .ld 1 false (.t 105)⟩,
    ⟨some 107, none, .nilc (.t 106)⟩,
    ⟨some 108, none, .fa 1 (.t 107)⟩,
    ⟨some 109, none, .ld 1 false (.t 108)⟩,
    ⟨some 110, none, .mov (.t 6)⟩,
    ⟨some 111, none, .iaV 1 (.t 109) (.t 110)⟩,
    ⟨some 112, none, .ld 1 false (.t 111)⟩,
    ⟨some 113, none, .build [.int .i64 0, .int .u32 0, .int .u32 0, .int .u64 0, .slice none 0 0, .int .i64 0] [(0, 1, .c (.int .i64 17)), (1, 1, .t 112)]⟩,
    ⟨some 114, none, .bslice 1 6 [.int .i64 0, .int .u32 0, .int .u32 0, .int .u64 0, .slice none 0 0, .int .i64 0] [(0, 6, .t 113)]⟩,
    ⟨some 115, none, .app 6 56 (.t 102) (.t 114)⟩,
    ⟨some 116, none, .nilc (.t 98)⟩,
    ⟨some 117, none, .fa 3 (.t 116)⟩,
    ⟨none, none, .st 1 (.t 117) (.t 115)⟩] [])) (.region [⟨some 118, none, .mov (.t 0)⟩,
    ⟨some 119, none, .mov (.t 6)⟩,
    ⟨some 120, none, .conv .u32 (.t 119)⟩,
    ⟨some 121, none, .call 99 [.t 118, .c (.int .i64 16), .t 120]⟩] [])))
   (.ret))))))
   (.region [⟨some 19, none, .mov (.t 6)⟩,
    ⟨some 20, none, .bin .add (.t 19) (.c (.int .i64 1))⟩,
    ⟨some 6, none, .mov (.t 20)⟩] [0, 1, 2, 6]))))))
   (.region [⟨some 122, none, .mov (.t 0)⟩,
    ⟨some 123, none, .mov (.t 1)⟩,
    ⟨some 124, none, .call 96 [.t 122, .t 123, .c (.int .u64 8)]⟩] []),
  [], 125, 3⟩
def A102 : Ann := ⟨[(0, [0, 1, 2, 6]), (1, [0, 1, 2, 6, 18]), (2, [0, 1, 2, 6]), (3, [0, 1, 2, 6, 7]), (4, [0, 1, 2, 6, 7, 67]), (5, [0, 2, 6, 7, 8]), (6, [0, 2, 6, 7, 8, 72]), (7, [0, 2, 6, 7, 8]), (8, [0, 2, 6, 7, 8]), (9, [0, 6, 89]), (10, [0, 6]), (11, []), (12, []), (13, [])], [(3, [(0, []), (1, []), (2, []), (3, []), (4, []), (5, []), (6, []), (7, []), (8, []), (9, []), (10, []), (11, []), (12, []), (13, []), (14, []), (15, []), (16, []), (17, []), (18, []), (19, []), (20, [])], [(1, [0]), (2, [0, 1]), (3, [0, 1, 2]), (4, [0, 1, 2, 3]), (5, [0, 1, 2, 3, 4]), (6, [0, 1, 2, 3, 4, 5]), (8, [7]), (9, [7, 8]), (10, [7, 8, 9]), (11, [7, 8, 9, 10]), (12, [7, 8, 9, 10, 11]), (13, [7, 8, 9, 10, 11, 12]), (15, [7, 8, 9, 10, 11, 12, 13, 14]), (16, [7, 8, 9, 10, 11, 12, 13, 14, 15]), (17, [0, 1, 2, 3, 4, 5, 6, 7, 8, 9, 10, 11, 12, 13, 14, 15, 16]), (18, [0, 1, 2, 3, 4, 5, 6, 7, 8, 9, 10, 11, 12, 13, 14, 15, 16, 17]), (20, [0, 1, 2, 3, 4, 5, 6, 7, 8, 9, 10, 11, 12, 13, 14, 15, 16, 17, 18, 19])]),
  (11, [(0, []), (1, []), (2, []), (3, []), (4, []), (5, []), (6, []), (7, []), (8, []), (9, []), (10, []), (11, []), (12, []), (13, []), (14, []), (15, []), (16, []), (17, []), (18, []), (19, []), (20, [])], [(2, [1]), (3, [1, 2]), (4, [1, 2, 3]), (6, [5]), (7, [5, 6]), (8, [5, 6, 7]), (9, [5, 6, 7, 8]), (10, [5, 6, 7, 8, 9]), (11, [5, 6, 7, 8, 9, 10]), (13, [5, 6, 7, 8, 9, 10, 11, 12]), (14, [5, 6, 7, 8, 9, 10, 11, 12, 13]), (15, [5, 6, 7, 8, 9, 10, 11, 12, 13, 14]), (16, [5, 6, 7, 8, 9, 10, 11, 12, 13, 14, 15]), (17, [1, 2, 3, 4, 5, 6, 7, 8, 9, 10, 11, 12, 13, 14, 15, 16]), (18, [0, 1, 2, 3, 4, 5, 6, 7, 8, 9, 10, 11, 12, 13, 14, 15, 16, 17]), (19, [0, 1, 2, 3, 4, 5, 6, 7, 8, 9, 10, 11, 12, 13, 14, 15, 16, 17, 18]), (20, [0, 1, 2, 3, 4, 5, 6, 7, 8, 9, 10, 11, 12, 13, 14, 15, 16, 17, 18, 19])])]⟩
set_option maxRecDepth 100000 in
theorem F102.ok : compF Try.prog A102 Try.f102 = some F102 := by kernel_rfl
theorem F102.fok : FOk Try.prog 102 F102 := fok_of mixed Try.func102 F102.ok

/-- (*cloakroom/cloakroomplay.maker).sizes -/
def F103 : SFn := ⟨.seq (.seq (.region [⟨some 6, none, .mov (.t 1)⟩,
    ⟨some 7, none, .bin .neq (.t 6) (.c (.int .u8 127))⟩] [0, 1, 2, 7])
   (.cond (.t 7) (.seq (.region [⟨some 8, none, .mov (.t 0)⟩,
    ⟨some 9, none, .mov (.t 1)⟩,
    ⟨some 10, none, .call 96 [.t 8, .t 9, .c (.int .u64 11)]⟩] [])
   (.ret)) (.skip)))
   (.seq (.region [⟨some 11, none, .mov (.t 0)⟩,
    ⟨some 12, none, .nilc (.t 11)⟩,
    ⟨some 13, none, .fa 0 (.t 12)⟩,
    ⟨some 14, none, .ld 1 false (.t 13)⟩,
    ⟨some 15, none, .call 67 [.t 14, .c (.int .i64 5)]⟩] [0, 2, 15])
   (.block 0 (.seq (.region [⟨some 29, none, .bin .eql (.t 15) (.c (.int .i64 0))⟩,
    ⟨some 28, none, .mov (.t 29)⟩] [0, 2, 15, 28])
   (.cond (.t 28) (.region [⟨some 30, none, .mov (.t 0)⟩,
    ⟨some 31, none, .call 100 [.t 30, .c (.int .i64 63)]⟩] []) (.seq (.region [⟨some 33, none, .bin .eql (.t 15) (.c (.int .i64 1))⟩,
    ⟨some 32, none, .mov (.t 33)⟩] [0, 2, 15, 32])
   (.cond (.t 32) (.seq (.region [⟨some 34, none, .mov (.t 0)⟩,
    ⟨some 35, none, .mov (.t 2)⟩,
    ⟨some 36, none, .bin .sub (.t 35) (.c (.int .i64 1))⟩,
    ⟨some 37, none, .call 69 [.t 34, .c (.int .u8 127), .t 36]⟩] [0])
   (.region [⟨some 38, none, .mov (.t 0)⟩,
    ⟨some 39, none, .call 100 [.t 38, .c (.int .i64 64)]⟩] [])) (.seq (.region [⟨some 41, none, .bin .eql (.t 15) (.c (.int .i64 2))⟩,
    ⟨some 40, none, .mov (.t 41)⟩] [0, 2, 15, 40])
   (.cond (.t 40) (.region [⟨some 42, none, .mov (.t 0)⟩,
    ⟨some 43, none, .call 99 [.t 42, .c (.int .i64 64528), .c (.int .u32 0)]⟩] []) (.seq (.region [⟨some 45, none, .bin .eql (.t 15) (.c (.int .i64 3))⟩,
    ⟨some 44, none, .mov (.t 45)⟩] [0, 2, 44])
   (.cond (.t 44) (.seq (.region [⟨some 46, none, .mov (.t 0)⟩,
    ⟨some 47, none, .mov (.t 2)⟩,
    ⟨some 48, none, .bin .sub (.t 47) (.c (.int .i64 1))⟩,
    ⟨some 49, none, .call 69 [.t 46, .c (.int .u8 127), .t 48]⟩] [0])
   (.seq (.region [⟨some 50, none, .mov (.t 0)⟩,
    ⟨some 51, none, .call 99 [.t 50, .c (.int .i64 37), .c (.int .u32 0)]⟩] [0])
   (.region [⟨some 52, none, .mov (.t 0)⟩,
    ⟨some 53, none, .call 100 [.t 52, .c (.int .i64 209)]⟩] []))) (.seq (.region [⟨some 16, none, .mov (.t 0)⟩,
    ⟨some 17, none, .call 99 [.t 16, .c (.int .i64 208), .c (.int .u32 112)]⟩] [0])
   (.seq (.region [⟨some 18, none, .mov (.t 0)⟩,
    ⟨some 19, none, .mov (.t 0)⟩,
    ⟨some 20, none, .nilc (.t 19)⟩,
    ⟨some 21, none, .fa 0 (.t 20)⟩,
    ⟨some 22, none, .ld 1 false (.t 21)⟩,
    ⟨some 23, none, .call 67 [.t 22, .c (.int .i64 4)]⟩,
    ⟨some 24, none, .conv .u64 (.t 23)⟩,
    ⟨some 25, none, .call 96 [.t 18, .c (.int .u8 127), .t 24]⟩] [0])
   (.region [⟨some 26, none, .mov (.t 0)⟩,
    ⟨some 27, none, .call 99 [.t 26, .c (.int .i64 64527), .c (.int .u32 0)]⟩] []))))))))))))),
  [], 54, 3⟩
def A103 : Ann := ⟨[(0, [0, 1, 2, 7]), (1, []), (2, [0, 2, 15]), (3, [0]), (4, [0]), (5, []), (6, [0, 2, 15, 28]), (7, []), (8, [0, 2, 15, 32]), (9, [0]), (10, []), (11, [0, 2, 15, 40]), (12, []), (13, [0, 2, 44]), (14, [0]), (15, [0]), (16, [])], []⟩
set_option maxRecDepth 100000 in
theorem F103.ok : compF Try.prog A103 Try.f103 = some F103 := by kernel_rfl
theorem F103.fok : FOk Try.prog 103 F103 := fok_of mixed Try.func103 F103.ok

/-- slices.Grow[[]byte,byte] -/
def F104 : SFn := ⟨.seq (.region [⟨some 4, none, .mov (.c (.slice none 0 0))⟩] [0, 1])
   (.seq (.seq (.region [⟨some 5, none, .mov (.t 1)⟩,
    ⟨some 6, none, .bin .lss (.t 5) (.c (.int .i64 0))⟩] [0, 1, 6])
   (.cond (.t 6) (.region [⟨some 7, none, .bad⟩,
    ⟨none, none, .bad⟩] [0, 1]) (.skip)))
   (.seq (.seq (.region [⟨some 8, none, .mov (.t 1)⟩,
    ⟨some 9, none, .mov (.t 0)⟩,
    ⟨some 10, none, .capV (.t 9)⟩,
    ⟨some 11, none, .mov (.t 0)⟩,
    ⟨some 12, none, .lenV (.t 11)⟩,
    ⟨some 13, none, .bin .sub (.t 10) (.t 12)⟩,
    ⟨some 14, none, .bin .sub (.t 8) (.t 13)⟩,
    ⟨some 1, none, .mov (.t 14)⟩] [0, 1])
   (.seq (.region [⟨some 15, none, .mov (.t 1)⟩,
    ⟨some 16, none, .bin .gtr (.t 15) (.c (.int .i64 0))⟩] [0, 1, 16])
   (.cond (.t 16) (.region [⟨some 17, none, .mov (.t 0)⟩,
    ⟨some 18, none, .mov (.t 0)⟩,
    ⟨some 19, none, .capV (.t 18)⟩,
    ⟨some 20, none, .slV 1 (.t 17) none (some (.t 19)) none⟩,
    ⟨some 21, none, .mov (.t 1)⟩,
    ⟨some 22, none, .appZ 1 1 [.int .u8 0] (.t 20) (.t 21)⟩,
    ⟨some 23, none, .mov (.t 0)⟩,
    ⟨some 24, none, .lenV (.t 23)⟩,
    ⟨some 25, none, .slV 1 (.t 22) none (some (.t 24)) none⟩,
    ⟨some 0, none, .mov (.t 25)⟩] [0]) (.skip))))
   (.seq (.region [⟨some 26, none, .mov (.t 0)⟩,
    ⟨some 4, none, .mov (.t 26)⟩] [4])
   (.ret)))),
  [.t 4], 27, 2⟩
def A104 : Ann := ⟨[(0, [0, 1]), (1, [0, 1, 6]), (2, [0, 1]), (3, [0, 1]), (4, [0, 1, 16]), (5, [0]), (6, [4])], []⟩
set_option maxRecDepth 100000 in
theorem F104.ok : compF Try.prog A104 Try.f104 = some F104 := by kernel_rfl
theorem F104.fok : FOk Try.prog 104 F104 := fok_of mixed Try.func104 F104.ok

/-- (*cloakroom/val.pile).push -/
def F105 : SFn := ⟨.region [⟨some 4, none, .mov (.t 0)⟩,
    ⟨some 5, none, .mov (.t 0)⟩,
    ⟨some 6, none, .nilc (.t 5)⟩,
    ⟨some 7, none, .fa 0 (.t 6)⟩,
    ⟨some 8, none, .ld 1 false (.t 7)⟩,
    ⟨some 9, none, .mov (.t 1)⟩,
    ⟨some 10, none, .app 1 1 (.t 8) (.t 9)⟩,
    ⟨some 11, none, .nilc (.t 4)⟩,
    ⟨some 12, none, .fa 0 (.t 11)⟩,
    ⟨none, none, .st 1 (.t 12) (.t 10)⟩] [],
  [], 13, 2⟩
def A105 : Ann := ⟨[(0, [])], []⟩
set_option maxRecDepth 100000 in
theorem F105.ok : compF Try.prog A105 Try.f105 = some F105 := by kernel_rfl
theorem F105.fok : FOk Try.prog 105 F105 := fok_of mixed Try.func105 F105.ok

/-- (*cloakroom/val.checker).control -/
def F106 : SFn := ⟨.seq (.region [⟨some 3, none, .box (.t 1)⟩,
    ⟨some 4, none, .mov (.c (.bool false))⟩] [0, 3])
   (.seq (.seq (.region [⟨some 12, none, .fa 0 (.t 3)⟩,
    ⟨some 13, none, .ld 1 false (.t 12)⟩] [0, 3, 13])
   (.block 0 (.seq (.region [⟨some 15, none, .bin .eql (.t 13) (.c (.int .i64 0))⟩,
    ⟨some 14, none, .mov (.t 15)⟩] [0, 3, 13, 14])
   (.cond (.t 14) (.region [⟨some 16, none, .mov (.t 0)⟩,
    ⟨some 17, none, .call 145 [.t 16]⟩] []) (.seq (.region [⟨some 19, none, .bin .eql (.t 13) (.c (.int .i64 1))⟩,
    ⟨some 18, none, .mov (.t 19)⟩] [0, 3, 13, 18])
   (.cond (.t 18) (.skip) (.seq (.seq (.region [⟨some 21, none, .bin .eql (.t 13) (.c (.int .i64 2))⟩,
    ⟨some 20, none, .mov (.t 21)⟩] [0, 3, 13, 20])
   (.cond (.t 20) (.skip) (.seq (.region [⟨some 22, none, .bin .eql (.t 13) (.c (.int .i64 3))⟩,
    ⟨some 20, none, .mov (.t 22)⟩] [0, 3, 13, 20])
   (.cond (.t 20) (.skip) (.region [⟨some 23, none, .bin .eql (.t 13) (.c (.int .i64 4))⟩,
    ⟨some 20, none, .mov (.t 23)⟩] [0, 3, 13, 20])))))
   (.cond (.t 20) (.seq (.seq (.region [⟨some 24, none, .fa 0 (.t 3)⟩,
    ⟨some 25, none, .ld 1 false (.t 24)⟩,
    ⟨some 26, none, .bin .eql (.t 25) (.c (.int .i64 4))⟩] [0, 3, 26])
   (.cond (.t 26) (.region [⟨some 27, none, .mov (.t 0)⟩,
    ⟨some 28, none, .call 146 [.t 27, .c (.int .u8 127)]⟩] [0, 3]) (.skip)))
   (.seq (.region [⟨some 30, none, .mov (.t 0)⟩,
    ⟨some 31, none, .fa 5 (.t 3)⟩,
    ⟨some 32, none, .ld 1 false (.t 31)⟩,
    ⟨some 33, none, .call 147 [.t 30, .t 32]⟩,
    ⟨some 29, none, .mov (.t 33)⟩,
    ⟨some 34, none, .ext (.t 29) 0⟩,
    ⟨some 35, none, .ext (.t 29) 1⟩,
    ⟨some 5, none, .mov (.t 34)⟩,
    ⟨some 6, none, .mov (.t 35)⟩] [0, 3, 5, 6])
   (.seq (.region [⟨some 36, none, .mov (.t 0)⟩,
    ⟨some 37, none, .mov (.t 5)⟩,
    ⟨some 38, none, .call 113 [.t 36, .t 37]⟩] [0, 3, 5, 6])
   (.region [⟨some 39, none, .mov (.t 0)⟩,
    ⟨some 40, none, .fa 0 (.t 3)⟩,
    ⟨some 41, none, .ld 1 false (.t 40)⟩,
    ⟨some 42, none, .mov (.t 5)⟩,
    ⟨some 43, none, .mov (.t 6)⟩,
    ⟨some 44, none, .call 71 [.t 39, .t 41, .t 42, .t 43]⟩] [])))) (.seq (.region [⟨some 46, none, .bin .eql (.t 13) (.c (.int .i64 5))⟩,
    ⟨some 45, none, .mov (.t 46)⟩] [0, 3, 13, 45])
   (.cond (.t 45) (.seq (.region [⟨some 47, none, .mov (.t 0)⟩,
    ⟨some 48, none, .call 148 [.t 47]⟩,
    ⟨some 7, none, .new [.int .i64 0, .slice none 0 0, .slice none 0 0, .int .i64 0, .bool false]⟩,
    ⟨none, none, .st 5 (.t 7) (.t 48)⟩] [0, 3, 7])
   (.seq (.region [⟨some 49, none, .mov (.t 0)⟩,
    ⟨some 50, none, .fa 0 (.t 7)⟩,
    ⟨some 51, none, .ld 1 false (.t 50)⟩,
    ⟨some 52, none, .bin .neq (.t 51) (.c (.int .i64 4))⟩,
    ⟨some 53, none, .call 112 [.t 49, .t 52]⟩] [0, 3, 7])
   (.region [⟨some 54, none, .mov (.t 0)⟩,
    ⟨some 55, none, .fa 0 (.t 3)⟩,
    ⟨some 56, none, .ld 1 false (.t 55)⟩,
    ⟨some 57, none, .fa 1 (.t 7)⟩,
    ⟨some 58, none, .ld 1 false (.t 57)⟩,
    ⟨some 59, none, .fa 2 (.t 7)⟩,
    ⟨some 60, none, .ld 1 false (.t 59)⟩,
    ⟨some 61, none, .call 71 [.t 54, .t 56, .t 58, .t 60]⟩] []))) (.seq (.region [⟨some 63, none, .bin .eql (.t 13) (.c (.int .i64 11))⟩,
    ⟨some 62, none, .mov (.t 63)⟩] [0, 3, 13, 62])
   (.cond (.t 62) (.seq (.region [⟨some 64, none, .mov (.t 0)⟩,
    ⟨some 65, none, .call 148 [.t 64]⟩,
    ⟨some 8, none, .new [.int .i64 0, .slice none 0 0, .slice none 0 0, .int .i64 0, .bool false]⟩,
    ⟨none, none, .st 5 (.t 8) (.t 65)⟩] [0, 8])
   (.seq (.region [⟨some 66, none, .mov (.t 0)⟩,
    ⟨some 67, none, .fa 0 (.t 8)⟩,
    ⟨some 68, none, .ld 1 false (.t 67)⟩,
    ⟨some 69, none, .bin .eql (.t 68) (.c (.int .i64 4))⟩,
    ⟨some 70, none, .mov (.t 69)⟩,
    ⟨some 71, some (70, true), .fa 1 (.t 8)⟩,
    ⟨some 72, some (70, true), .ld 1 false (.t 71)⟩,
    ⟨some 73, some (70, true), .fa 2 (.t 8)⟩,
    ⟨some 74, some (70, true), .ld 1 false (.t 73)⟩,
    ⟨some 75, some (70, true), .call 149 [.t 72, .t 74]⟩,
    ⟨some 76, some (70, true), .un .not (.t 75)⟩,
    ⟨some 77, none, .pick (.t 70) (.t 76) (.c (.bool false))⟩,
    ⟨some 78, none, .call 112 [.t 66, .t 77]⟩] [0, 8])
   (.seq (.region [⟨some 79, none, .mov (.t 0)⟩,
    ⟨some 80, none, .nilc (.t 79)⟩,
    ⟨some 81, none, .fa 3 (.t 80)⟩,
    ⟨some 82, none, .ld 1 false (.t 81)⟩,
    ⟨some 83, none, .lenV (.t 82)⟩,
    ⟨some 84, none, .bin .gtr (.t 83) (.c (.int .i64 0))⟩] [0, 8, 84])
   (.cond (.t 84) (.region [⟨some 85, none, .mov (.t 0)⟩,
    ⟨some 86, none, .nilc (.t 85)⟩,
    ⟨some 87, none, .fa 0 (.t 86)⟩,
    ⟨some 88, none, .fa 2 (.t 8)⟩,
    ⟨some 89, none, .ld 1 false (.t 88)⟩,
    ⟨some 90, none, .call 105 [.t 87, .t 89]⟩] []) (.skip))))) (.seq (.region [⟨some 92, none, .bin .eql (.t 13) (.c (.int .i64 12))⟩,
    ⟨some 91, none, .mov (.t 92)⟩] [0, 3, 13, 91])
   (.cond (.t 91) (.seq (.region [⟨some 93, none, .mov (.t 0)⟩,
    ⟨some 94, none, .mov (.t 0)⟩,
    ⟨some 95, none, .fa 1 (.t 3)⟩,
    ⟨some 96, none, .ld 1 false (.t 95)⟩,
    ⟨some 97, none, .call 150 [.t 94, .t 96]⟩,
    ⟨some 98, none, .call 113 [.t 93, .t 97]⟩] [0])
   (.region [⟨some 99, none, .mov (.t 0)⟩,
    ⟨some 100, none, .call 145 [.t 99]⟩] [])) (.seq (.region [⟨some 102, none, .bin .eql (.t 13) (.c (.int .i64 13))⟩,
    ⟨some 101, none, .mov (.t 102)⟩] [0, 3, 13, 101])
   (.cond (.t 101) (.seq (.region [⟨some 103, none, .mov (.t 0)⟩,
    ⟨some 104, none, .call 146 [.t 103, .c (.int .u8 127)]⟩] [0, 3])
   (.seq (.region [⟨some 105, none, .mov (.t 0)⟩,
    ⟨some 106, none, .fa 1 (.t 3)⟩,
    ⟨some 107, none, .ld 1 false (.t 106)⟩,
    ⟨some 108, none, .call 150 [.t 105, .t 107]⟩,
    ⟨some 9, none, .mov (.t 108)⟩] [0, 9])
   (.seq (.region [⟨some 109, none, .mov (.t 0)⟩,
    ⟨some 110, none, .mov (.t 9)⟩,
    ⟨some 111, none, .call 113 [.t 109, .t 110]⟩] [0, 9])
   (.region [⟨some 112, none, .mov (.t 0)⟩,
    ⟨some 113, none, .nilc (.t 112)⟩,
    ⟨some 114, none, .fa 0 (.t 113)⟩,
    ⟨some 115, none, .mov (.t 9)⟩,
    ⟨some 116, none, .call 105 [.t 114, .t 115]⟩] [])))) (.seq (.region [⟨some 118, none, .bin .eql (.t 13) (.c (.int .i64 14))⟩,
    ⟨some 117, none, .mov (.t 118)⟩] [0, 3, 13, 117])
   (.cond (.t 117) (.region [⟨some 119, none, .mov (.t 0)⟩,
    ⟨some 120, none, .ld 6 true (.t 3)⟩,
    ⟨some 121, none, .call 151 [.t 119, .t 120]⟩] []) (.seq (.region [⟨some 123, none, .bin .eql (.t 13) (.c (.int .i64 15))⟩,
    ⟨some 122, none, .mov (.t 123)⟩] [0, 3, 13, 122])
   (.cond (.t 122) (.seq (.region [⟨some 124, none, .mov (.t 0)⟩,
    ⟨some 125, none, .mov (.t 0)⟩,
    ⟨some 126, none, .nilc (.t 125)⟩,
    ⟨some 127, none, .fa 3 (.t 126)⟩,
    ⟨some 128, none, .ld 1 false (.t 127)⟩,
    ⟨some 129, none, .iaV 5 (.t 128) (.c (.int .i64 0))⟩,
    ⟨some 130, none, .fa 2 (.t 129)⟩,
    ⟨some 131, none, .ld 1 false (.t 130)⟩,
    ⟨some 132, none, .call 113 [.t 124, .t 131]⟩] [0])
   (.region [⟨some 133, none, .mov (.t 0)⟩,
    ⟨some 134, none, .call 145 [.t 133]⟩] [])) (.seq (.region [⟨some 136, none, .bin .eql (.t 13) (.c (.int .i64 16))⟩,
    ⟨some 135, none, .mov (.t 136)⟩] [0, 3, 13, 135])
   (.cond (.t 135) (.region [⟨some 137, none, .mov (.t 0)⟩,
    ⟨some 138, none, .fa 1 (.t 3)⟩,
    ⟨some 139, none, .ld 1 false (.t 138)⟩,
    ⟨some 140, none, .call 152 [.t 137, .t 139]⟩] []) (.seq (.region [⟨some 142, none, .bin .eql (.t 13) (.c (.int .i64 17))⟩,
    ⟨some 141, none, .mov (.t 142)⟩] [0, 3, 141])
   (.cond (.t 141) (.seq (.region [⟨some 143, none, .mov (.t 0)⟩,
    ⟨some 144, none, .mov (.t 0)⟩,
    ⟨some 145, none, .fa 2 (.t 3)⟩,
    ⟨some 146, none, .ld 1 false (.t 145)⟩,
    ⟨some 147, none, .call 153 [.t 144, .t 146]⟩,
    ⟨some 148, none, .bin .neq (.t 147) (.c (.int .u8 112))⟩,
    ⟨some 149, none, .call 112 [.t 143, .t 148]⟩] [0, 3])
   (.seq (.region [⟨some 150, none, .mov (.t 0)⟩,
    ⟨some 151, none, .call 146 [.t 150, .c (.int .u8 127)]⟩] [0, 3])
   (.seq (.region [⟨some 153, none, .mov (.t 0)⟩,
    ⟨some 154, none, .fa 1 (.t 3)⟩,
    ⟨some 155, none, .ld 1 false (.t 154)⟩,
    ⟨some 156, none, .conv .u64 (.t 155)⟩,
    ⟨some 157, none, .call 154 [.t 153, .t 156]⟩,
    ⟨some 152, none, .mov (.t 157)⟩,
    ⟨some 158, none, .ext (.t 152) 0⟩,
    ⟨some 159, none, .ext (.t 152) 1⟩,
    ⟨some 10, none, .mov (.t 158)⟩,
    ⟨some 11, none, .mov (.t 159)⟩] [0, 10, 11])
   (.seq (.region [⟨some 160, none, .mov (.t 0)⟩,
    ⟨some 161, none, .mov (.t 10)⟩,
    ⟨some 162, none, .call 113 [.t 160, .t 161]⟩] [0, 11])
   (.region [⟨some 163, none, .mov (.t 0)⟩,
    ⟨some 164, none, .nilc (.t 163)⟩,
    ⟨some 165, none, .fa 0 (.t 164)⟩,
    ⟨some 166, none, .mov (.t 11)⟩,
    ⟨some 167, none, .call 105 [.t 165, .t 166]⟩] []))))) (.seq (.region [⟨some 4, none, .mov (.c (.bool false))⟩] [4])
   (.ret))))))))))))))))))))))))))
   (.seq (.region [⟨some 4, none, .mov (.c (.bool true))⟩] [4])
   (.ret))),
  [.t 4], 168, 2⟩
def A106 : Ann := ⟨[(0, [0, 3]), (1, [0, 3, 13]), (2, [4]), (3, [0, 3, 13, 14]), (4, []), (5, [0, 3, 13, 18]), (6, [0, 3, 13, 20]), (7, [0, 3, 13, 20]), (8, [0, 3, 13, 20]), (9, [0, 3, 26]), (10, [0, 3]), (11, [0, 3, 5, 6]), (12, [0, 3, 5, 6]), (13, []), (14, [0, 3, 13, 45]), (15, [0, 3, 7]), (16, [0, 3, 7]), (17, []), (18, [0, 3, 13, 62]), (19, [0, 8]), (20, [0, 8]), (21, [0, 8, 84]), (22, []), (23, [0, 3, 13, 91]), (24, [0]), (25, []), (26, [0, 3, 13, 101]), (27, [0, 3]), (28, [0, 9]), (29, [0, 9]), (30, []), (31, [0, 3, 13, 117]), (32, []), (33, [0, 3, 13, 122]), (34, [0]), (35, []), (36, [0, 3, 13, 135]), (37, []), (38, [0, 3, 141]), (39, [0, 3]), (40, [0, 3]), (41, [0, 10, 11]), (42, [0, 11]), (43, []), (44, [4])], [(22, [(0, []), (1, []), (2, []), (3, []), (4, []), (5, [])], [(1, [0]), (2, [0, 1]), (4, [3]), (5, [0, 1, 2, 3, 4])])]⟩
set_option maxRecDepth 100000 in
theorem F106.ok : compF Try.prog A106 Try.f106 = some F106 := by kernel_rfl
theorem F106.fok : FOk Try.prog 106 F106 := fok_of mixed Try.func106 F106.ok

/-- (*cloakroom/val.checker).places -/
def F107 : SFn := ⟨.seq (.region [⟨some 3, none, .box (.t 1)⟩,
    ⟨some 4, none, .mov (.c (.bool false))⟩] [0, 3])
   (.seq (.seq (.region [⟨some 10, none, .fa 0 (.t 3)⟩,
    ⟨some 11, none, .ld 1 false (.t 10)⟩] [0, 3, 11])
   (.block 0 (.seq (.region [⟨some 13, none, .bin .eql (.t 11) (.c (.int .i64 26))⟩,
    ⟨some 12, none, .mov (.t 13)⟩] [0, 3, 11, 12])
   (.cond (.t 12) (.region [⟨some 14, none, .mov (.t 0)⟩,
    ⟨some 15, none, .call 155 [.t 14]⟩] []) (.seq (.region [⟨some 17, none, .bin .eql (.t 11) (.c (.int .i64 27))⟩,
    ⟨some 16, none, .mov (.t 17)⟩] [0, 3, 11, 16])
   (.cond (.t 16) (.seq (.region [⟨some 18, none, .mov (.t 0)⟩,
    ⟨some 19, none, .call 146 [.t 18, .c (.int .u8 127)]⟩] [0])
   (.seq (.region [⟨some 20, none, .mov (.t 0)⟩,
    ⟨some 21, none, .call 155 [.t 20]⟩,
    ⟨some 5, none, .mov (.t 21)⟩] [0, 5])
   (.seq (.region [⟨some 22, none, .mov (.t 0)⟩,
    ⟨some 23, none, .call 155 [.t 22]⟩,
    ⟨some 6, none, .mov (.t 23)⟩] [0, 5, 6])
   (.seq (.region [⟨some 24, none, .mov (.t 0)⟩,
    ⟨some 25, none, .mov (.t 5)⟩,
    ⟨some 26, none, .call 156 [.t 25]⟩,
    ⟨some 27, none, .mov (.t 26)⟩,
    ⟨some 28, some (27, false), .mov (.t 6)⟩,
    ⟨some 29, some (27, false), .call 156 [.t 28]⟩,
    ⟨some 30, none, .pick (.t 27) (.c (.bool true)) (.t 29)⟩,
    ⟨some 31, none, .mov (.t 30)⟩,
    ⟨some 32, some (31, false), .mov (.t 5)⟩,
    ⟨some 33, some (31, false), .mov (.t 6)⟩,
    ⟨some 34, some (31, false), .bin .neq (.t 32) (.t 33)⟩,
    ⟨some 35, some (31, false), .mov (.t 34)⟩,
    ⟨some 36, some (35, true), .mov (.t 5)⟩,
    ⟨some 37, some (35, true), .bin .neq (.t 36) (.c (.int .u8 0))⟩,
    ⟨some 38, some (31, false), .pick (.t 35) (.t 37) (.c (.bool false))⟩,
    ⟨some 39, some (31, false), .mov (.t 38)⟩,
    ⟨some 40, some (39, true), .mov (.t 6)⟩,
    ⟨some 41, some (39, true), .bin .neq (.t 40) (.c (.int .u8 0))⟩,
    ⟨some 42, some (31, false), .pick (.t 39) (.t 41) (.c (.bool false))⟩,
    ⟨some 43, none, .pick (.t 31) (.c (.bool true)) (.t 42)⟩,
    ⟨some 44, none, .call 112 [.t 24, .t 43]⟩] [0, 5, 6])
   (.seq (.seq (.region [⟨some 45, none, .mov (.t 5)⟩,
    ⟨some 46, none, .bin .eql (.t 45) (.c (.int .u8 0))⟩] [0, 5, 6, 46])
   (.cond (.t 46) (.region [⟨some 47, none, .mov (.t 6)⟩,
    ⟨some 5, none, .mov (.t 47)⟩] [0, 5]) (.skip)))
   (.region [⟨some 48, none, .mov (.t 0)⟩,
    ⟨some 49, none, .nilc (.t 48)⟩,
    ⟨some 50, none, .fa 0 (.t 49)⟩,
    ⟨some 51, none, .mov (.t 5)⟩,
    ⟨some 52, none, .bslice 1 1 [.int .u8 0] [(0, 1, .t 51)]⟩,
    ⟨some 53, none, .call 105 [.t 50, .t 52]⟩] [])))))) (.seq (.region [⟨some 55, none, .bin .eql (.t 11) (.c (.int .i64 28))⟩,
    ⟨some 54, none, .mov (.t 55)⟩] [0, 3, 11, 54])
   (.cond (.t 54) (.seq (.region [⟨some 56, none, .fa 1 (.t 3)⟩,
    ⟨some 57, none, .ld 1 false (.t 56)⟩,
    ⟨some 58, none, .conv .u8 (.t 57)⟩,
    ⟨some 7, none, .mov (.t 58)⟩] [0, 7])
   (.seq (.region [⟨some 59, none, .mov (.t 0)⟩,
    ⟨some 60, none, .mov (.t 7)⟩,
    ⟨some 61, none, .mov (.t 7)⟩,
    ⟨some 62, none, .bslice 3 1 [.int .u8 0] [(0, 1, .t 60), (1, 1, .t 61), (2, 1, .c (.int .u8 127))]⟩,
    ⟨some 63, none, .call 113 [.t 59, .t 62]⟩] [0, 7])
   (.region [⟨some 64, none, .mov (.t 0)⟩,
    ⟨some 65, none, .nilc (.t 64)⟩,
    ⟨some 66, none, .fa 0 (.t 65)⟩,
    ⟨some 67, none, .mov (.t 7)⟩,
    ⟨some 68, none, .bslice 1 1 [.int .u8 0] [(0, 1, .t 67)]⟩,
    ⟨some 69, none, .call 105 [.t 66, .t 68]⟩] []))) (.seq (.region [⟨some 71, none, .bin .eql (.t 11) (.c (.int .i64 32))⟩,
    ⟨some 70, none, .mov (.t 71)⟩] [0, 3, 11, 70])
   (.cond (.t 70) (.region [⟨some 72, none, .mov (.t 0)⟩,
    ⟨some 73, none, .nilc (.t 72)⟩,
    ⟨some 74, none, .fa 0 (.t 73)⟩,
    ⟨some 75, none, .mov (.t 0)⟩,
    ⟨some 76, none, .fa 1 (.t 3)⟩,
    ⟨some 77, none, .ld 1 false (.t 76)⟩,
    ⟨some 78, none, .call 157 [.t 75, .t 77]⟩,
    ⟨some 79, none, .bslice 1 1 [.int .u8 0] [(0, 1, .t 78)]⟩,
    ⟨some 80, none, .call 105 [.t 74, .t 79]⟩] []) (.seq (.region [⟨some 82, none, .bin .eql (.t 11) (.c (.int .i64 33))⟩,
    ⟨some 81, none, .mov (.t 82)⟩] [0, 3, 11, 81])
   (.cond (.t 81) (.region [⟨some 83, none, .mov (.t 0)⟩,
    ⟨some 84, none, .mov (.t 0)⟩,
    ⟨some 85, none, .fa 1 (.t 3)⟩,
    ⟨some 86, none, .ld 1 false (.t 85)⟩,
    ⟨some 87, none, .call 157 [.t 84, .t 86]⟩,
    ⟨some 88, none, .call 146 [.t 83, .t 87]⟩] []) (.seq (.region [⟨some 90, none, .bin .eql (.t 11) (.c (.int .i64 34))⟩,
    ⟨some 89, none, .mov (.t 90)⟩] [0, 3, 11, 89])
   (.cond (.t 89) (.seq (.region [⟨some 91, none, .mov (.t 0)⟩,
    ⟨some 92, none, .fa 1 (.t 3)⟩,
    ⟨some 93, none, .ld 1 false (.t 92)⟩,
    ⟨some 94, none, .call 157 [.t 91, .t 93]⟩,
    ⟨some 8, none, .mov (.t 94)⟩] [0, 8])
   (.seq (.region [⟨some 95, none, .mov (.t 0)⟩,
    ⟨some 96, none, .mov (.t 8)⟩,
    ⟨some 97, none, .call 146 [.t 95, .t 96]⟩] [0, 8])
   (.region [⟨some 98, none, .mov (.t 0)⟩,
    ⟨some 99, none, .nilc (.t 98)⟩,
    ⟨some 100, none, .fa 0 (.t 99)⟩,
    ⟨some 101, none, .mov (.t 8)⟩,
    ⟨some 102, none, .bslice 1 1 [.int .u8 0] [(0, 1, .t 101)]⟩,
    ⟨some 103, none, .call 105 [.t 100, .t 102]⟩] []))) (.seq (.region [⟨some 105, none, .bin .eql (.t 11) (.c (.int .i64 35))⟩,
    ⟨some 104, none, .mov (.t 105)⟩] [0, 3, 11, 104])
   (.cond (.t 104) (.region [⟨some 106, none, .mov (.t 0)⟩,
    ⟨some 107, none, .nilc (.t 106)⟩,
    ⟨some 108, none, .fa 0 (.t 107)⟩,
    ⟨some 109, none, .mov (.t 0)⟩,
    ⟨some 110, none, .fa 1 (.t 3)⟩,
    ⟨some 111, none, .ld 1 false (.t 110)⟩,
    ⟨some 112, none, .call 158 [.t 109, .t 111]⟩,
    ⟨some 113, none, .fld 0 1 false (.t 112)⟩,
    ⟨some 114, none, .bslice 1 1 [.int .u8 0] [(0, 1, .t 113)]⟩,
    ⟨some 115, none, .call 105 [.t 108, .t 114]⟩] []) (.seq (.region [⟨some 117, none, .bin .eql (.t 11) (.c (.int .i64 36))⟩,
    ⟨some 116, none, .mov (.t 117)⟩] [0, 3, 11, 116])
   (.cond (.t 116) (.seq (.region [⟨some 118, none, .mov (.t 0)⟩,
    ⟨some 119, none, .fa 1 (.t 3)⟩,
    ⟨some 120, none, .ld 1 false (.t 119)⟩,
    ⟨some 121, none, .call 158 [.t 118, .t 120]⟩,
    ⟨some 9, none, .new [.int .u8 0, .bool false, .slice none 0 0]⟩,
    ⟨none, none, .st 3 (.t 9) (.t 121)⟩] [0, 9])
   (.seq (.region [⟨some 122, none, .mov (.t 0)⟩,
    ⟨some 123, none, .fa 1 (.t 9)⟩,
    ⟨some 124, none, .ld 1 false (.t 123)⟩,
    ⟨some 125, none, .un .not (.t 124)⟩,
    ⟨some 126, none, .call 112 [.t 122, .t 125]⟩] [0, 9])
   (.region [⟨some 127, none, .mov (.t 0)⟩,
    ⟨some 128, none, .fa 0 (.t 9)⟩,
    ⟨some 129, none, .ld 1 false (.t 128)⟩,
    ⟨some 130, none, .call 146 [.t 127, .t 129]⟩] []))) (.seq (.region [⟨some 132, none, .bin .eql (.t 11) (.c (.int .i64 65))⟩,
    ⟨some 131, none, .mov (.t 132)⟩] [0, 3, 11, 131])
   (.cond (.t 131) (.region [⟨some 133, none, .mov (.t 0)⟩,
    ⟨some 134, none, .nilc (.t 133)⟩,
    ⟨some 135, none, .fa 0 (.t 134)⟩,
    ⟨some 136, none, .bslice 1 1 [.int .u8 0] [(0, 1, .c (.int .u8 127))]⟩,
    ⟨some 137, none, .call 105 [.t 135, .t 136]⟩] []) (.seq (.region [⟨some 139, none, .bin .eql (.t 11) (.c (.int .i64 66))⟩,
    ⟨some 138, none, .mov (.t 139)⟩] [0, 3, 11, 138])
   (.cond (.t 138) (.region [⟨some 140, none, .mov (.t 0)⟩,
    ⟨some 141, none, .nilc (.t 140)⟩,
    ⟨some 142, none, .fa 0 (.t 141)⟩,
    ⟨some 143, none, .bslice 1 1 [.int .u8 0] [(0, 1, .c (.int .u8 126))]⟩,
    ⟨some 144, none, .call 105 [.t 142, .t 143]⟩] []) (.seq (.region [⟨some 146, none, .bin .eql (.t 11) (.c (.int .i64 208))⟩,
    ⟨some 145, none, .mov (.t 146)⟩] [0, 3, 11, 145])
   (.cond (.t 145) (.region [⟨some 147, none, .mov (.t 0)⟩,
    ⟨some 148, none, .nilc (.t 147)⟩,
    ⟨some 149, none, .fa 0 (.t 148)⟩,
    ⟨some 150, none, .fa 1 (.t 3)⟩,
    ⟨some 151, none, .ld 1 false (.t 150)⟩,
    ⟨some 152, none, .conv .u8 (.t 151)⟩,
    ⟨some 153, none, .bslice 1 1 [.int .u8 0] [(0, 1, .t 152)]⟩,
    ⟨some 154, none, .call 105 [.t 149, .t 153]⟩] []) (.seq (.region [⟨some 156, none, .bin .eql (.t 11) (.c (.int .i64 209))⟩,
    ⟨some 155, none, .mov (.t 156)⟩] [0, 3, 11, 155])
   (.cond (.t 155) (.seq (.region [⟨some 157, none, .mov (.t 0)⟩,
    ⟨some 158, none, .mov (.t 0)⟩,
    ⟨some 159, none, .call 155 [.t 158]⟩,
    ⟨some 160, none, .call 159 [.t 159]⟩,
    ⟨some 161, none, .un .not (.t 160)⟩,
    ⟨some 162, none, .call 112 [.t 157, .t 161]⟩] [0])
   (.region [⟨some 163, none, .mov (.t 0)⟩,
    ⟨some 164, none, .nilc (.t 163)⟩,
    ⟨some 165, none, .fa 0 (.t 164)⟩,
    ⟨some 166, none, .bslice 1 1 [.int .u8 0] [(0, 1, .c (.int .u8 127))]⟩,
    ⟨some 167, none, .call 105 [.t 165, .t 166]⟩] [])) (.seq (.region [⟨some 169, none, .bin .eql (.t 11) (.c (.int .i64 210))⟩,
    ⟨some 168, none, .mov (.t 169)⟩] [0, 3, 168])
   (.cond (.t 168) (.seq (.region [⟨some 170, none, .mov (.t 0)⟩,
    ⟨some 171, none, .fa 1 (.t 3)⟩,
    ⟨some 172, none, .ld 1 false (.t 171)⟩,
    ⟨some 173, none, .mov (.t 0)⟩,
    ⟨some 174, none, .nilc (.t 173)⟩,
    ⟨some 175, none, .fa 1 (.t 174)⟩,
    ⟨some 176, none, .ld 1 false (.t 175)⟩,
    ⟨some 177, none, .nilc (.t 176)⟩,
    ⟨some 178, none, .fa 1 (.t 177)⟩,
    ⟨some 179, none, .ld 1 false (.t 178)⟩,
    ⟨some 180, none, .lenV (.t 179)⟩,
    ⟨some 181, none, .call 93 [.t 172, .t 180]⟩,
    ⟨some 182, none, .un .not (.t 181)⟩,
    ⟨some 183, none, .mov (.t 182)⟩,
    ⟨some 184, some (183, false), .mov (.t 0)⟩,
    ⟨some 185, some (183, false), .nilc (.t 184)⟩,
    ⟨some 186, some (183, false), .fa 1 (.t 185)⟩,
    ⟨some 187, some (183, false), .ld 1 false (.t 186)⟩,
    ⟨some 188, some (183, false), .nilc (.t 187)⟩,
    ⟨some 189, some (183, false), .ld 13 true (.t 188)⟩,
    ⟨some 191, some (183, false), .fa 1 (.t 3)⟩,
    ⟨some 192, some (183, false), .ld 1 false (.t 191)⟩,
    ⟨some 190, some (183, false), .call 160 [.t 189]⟩,
    ⟨none, some (183, false), .chk 1 false (.t 191) 192⟩,
    ⟨some 193, some (183, false), .iaV 1 (.t 190) (.t 192)⟩,
    ⟨some 194, some (183, false), .ld 1 false (.t 193)⟩,
    ⟨some 195, some (183, false), .un .not (.t 194)⟩,
    ⟨some 196, none, .pick (.t 183) (.c (.bool true)) (.t 195)⟩,
    ⟨some 197, none, .call 112 [.t 170, .t 196]⟩] [0])
   (.region [⟨some 198, none, .mov (.t 0)⟩,
    ⟨some 199, none, .nilc (.t 198)⟩,
    ⟨some 200, none, .fa 0 (.t 199)⟩,
    ⟨some 201, none, .bslice 1 1 [.int .u8 0] [(0, 1, .c (.int .u8 112))]⟩,
    ⟨some 202, none, .call 105 [.t 200, .t 201]⟩] [])) (.seq (.region [⟨some 4, none, .mov (.c (.bool false))⟩] [4])
   (.ret))))))))))))))))))))))))))))))
   (.seq (.region [⟨some 4, none, .mov (.c (.bool true))⟩] [4])
   (.ret))),
  [.t 4], 203, 2⟩
def A107 : Ann := ⟨[(0, [0, 3]), (1, [0, 3, 11]), (2, [4]), (3, [0, 3, 11, 12]), (4, []), (5, [0, 3, 11, 16]), (6, [0]), (7, [0, 5]), (8, [0, 5, 6]), (9, [0, 5, 6]), (10, [0, 5, 6, 46]), (11, [0, 5]), (12, []), (13, [0, 3, 11, 54]), (14, [0, 7]), (15, [0, 7]), (16, []), (17, [0, 3, 11, 70]), (18, []), (19, [0, 3, 11, 81]), (20, []), (21, [0, 3, 11, 89]), (22, [0, 8]), (23, [0, 8]), (24, []), (25, [0, 3, 11, 104]), (26, []), (27, [0, 3, 11, 116]), (28, [0, 9]), (29, [0, 9]), (30, []), (31, [0, 3, 11, 131]), (32, []), (33, [0, 3, 11, 138]), (34, []), (35, [0, 3, 11, 145]), (36, []), (37, [0, 3, 11, 155]), (38, [0]), (39, []), (40, [0, 3, 168]), (41, [0]), (42, []), (43, [4])], [(18, [(0, []), (1, []), (2, []), (3, []), (4, []), (5, []), (6, []), (7, []), (8, [])], [(1, [0]), (2, [0, 1]), (5, [4]), (6, [3, 4, 5]), (7, [3, 4, 5, 6]), (8, [0, 1, 2, 3, 4, 5, 6, 7])]),
  (26, [(0, []), (1, []), (2, []), (3, []), (4, []), (5, []), (6, []), (7, []), (8, []), (9, [])], [(1, [0]), (2, [0, 1]), (5, [4]), (6, [3, 4, 5]), (7, [3, 4, 5, 6]), (8, [3, 4, 5, 6, 7]), (9, [0, 1, 2, 3, 4, 5, 6, 7, 8])]),
  (36, [(0, []), (1, []), (2, []), (3, []), (4, []), (5, []), (6, []), (7, [])], [(1, [0]), (2, [0, 1]), (4, [3]), (5, [3, 4]), (6, [3, 4, 5]), (7, [0, 1, 2, 3, 4, 5, 6])]),
  (41, [(0, []), (1, []), (2, []), (3, []), (4, []), (5, []), (6, []), (7, []), (8, []), (9, []), (10, []), (11, []), (12, []), (13, []), (14, []), (15, []), (16, []), (17, []), (18, []), (19, []), (21, []), (22, []), (20, [22]), (23, []), (24, []), (25, []), (26, []), (27, [])], [(2, [1]), (4, [3]), (5, [3, 4]), (6, [3, 4, 5]), (7, [3, 4, 5, 6]), (8, [3, 4, 5, 6, 7]), (9, [3, 4, 5, 6, 7, 8]), (10, [3, 4, 5, 6, 7, 8, 9]), (11, [1, 2, 3, 4, 5, 6, 7, 8, 9, 10]), (12, [1, 2, 3, 4, 5, 6, 7, 8, 9, 10, 11]), (13, [1, 2, 3, 4, 5, 6, 7, 8, 9, 10, 11, 12]), (14, [1, 2, 3, 4, 5, 6, 7, 8, 9, 10, 11, 12, 13]), (15, [1, 2, 3, 4, 5, 6, 7, 8, 9, 10, 11, 12, 13, 14]), (16, [1, 2, 3, 4, 5, 6, 7, 8, 9, 10, 11, 12, 13, 14, 15]), (17, [1, 2, 3, 4, 5, 6, 7, 8, 9, 10, 11, 12, 13, 14, 15, 16]), (18, [1, 2, 3, 4, 5, 6, 7, 8, 9, 10, 11, 12, 13, 14, 15, 16, 17]), (19, [1, 2, 3, 4, 5, 6, 7, 8, 9, 10, 11, 12, 13, 14, 15, 16, 17, 18]), (20, [1, 2, 3, 4, 5, 6, 7, 8, 9, 10, 11, 12, 13, 14, 15, 16, 17, 18, 19]), (21, [1, 2, 3, 4, 5, 6, 7, 8, 9, 10, 11, 12, 13]), (22, [1, 2, 3, 4, 5, 6, 7, 8, 9, 10, 11, 12, 13, 21]), (23, [1, 2, 3, 4, 5, 6, 7, 8, 9, 10, 11, 12, 13, 14, 15, 16, 17, 18, 19, 20, 21, 22]), (24, [1, 2, 3, 4, 5, 6, 7, 8, 9, 10, 11, 12, 13, 14, 15, 16, 17, 18, 19, 20, 21, 22, 23]), (25, [1, 2, 3, 4, 5, 6, 7, 8, 9, 10, 11, 12, 13, 14, 15, 16, 17, 18, 19, 20, 21, 22, 23, 24]), (26, [1, 2, 3, 4, 5, 6, 7, 8, 9, 10, 11, 12, 13, 14, 15, 16, 17, 18, 19, 20, 21, 22, 23, 24, 25]), (27, [0, 1, 2, 3, 4, 5, 6, 7, 8, 9, 10, 11, 12, 13, 14, 15, 16, 17, 18, 19, 20, 21, 22, 23, 24, 25, 26])])]⟩
set_option maxRecDepth 100000 in
theorem F107.ok : compF Try.prog A107 Try.f107 = some F107 := by kernel_rfl
theorem F107.fok : FOk Try.prog 107 F107 := fok_of mixed Try.func107 F107.ok

/-- (*cloakroom/val.checker).bulk -/
def F108 : SFn := ⟨.seq (.region [⟨some 3, none, .box (.t 1)⟩,
    ⟨some 4, none, .mov (.c (.bool false))⟩] [0, 3])
   (.seq (.seq (.region [⟨some 6, none, .fa 0 (.t 3)⟩,
    ⟨some 7, none, .ld 1 false (.t 6)⟩] [0, 3, 7])
   (.block 0 (.seq (.region [⟨some 9, none, .bin .eql (.t 7) (.c (.int .i64 37))⟩,
    ⟨some 8, none, .mov (.t 9)⟩] [0, 3, 7, 8])
   (.cond (.t 8) (.seq (.region [⟨some 10, none, .mov (.t 0)⟩,
    ⟨some 11, none, .fa 1 (.t 3)⟩,
    ⟨some 12, none, .ld 1 false (.t 11)⟩,
    ⟨some 13, none, .call 153 [.t 10, .t 12]⟩,
    ⟨some 5, none, .mov (.t 13)⟩] [0, 5])
   (.seq (.region [⟨some 14, none, .mov (.t 0)⟩,
    ⟨some 15, none, .call 146 [.t 14, .c (.int .u8 127)]⟩] [0, 5])
   (.region [⟨some 16, none, .mov (.t 0)⟩,
    ⟨some 17, none, .nilc (.t 16)⟩,
    ⟨some 18, none, .fa 0 (.t 17)⟩,
    ⟨some 19, none, .mov (.t 5)⟩,
    ⟨some 20, none, .bslice 1 1 [.int .u8 0] [(0, 1, .t 19)]⟩,
    ⟨some 21, none, .call 105 [.t 18, .t 20]⟩] []))) (.seq (.region [⟨some 23, none, .bin .eql (.t 7) (.c (.int .i64 38))⟩,
    ⟨some 22, none, .mov (.t 23)⟩] [0, 3, 7, 22])
   (.cond (.t 22) (.region [⟨some 24, none, .mov (.t 0)⟩,
    ⟨some 25, none, .mov (.t 0)⟩,
    ⟨some 26, none, .fa 1 (.t 3)⟩,
    ⟨some 27, none, .ld 1 false (.t 26)⟩,
    ⟨some 28, none, .call 153 [.t 25, .t 27]⟩,
    ⟨some 29, none, .bslice 2 1 [.int .u8 0] [(0, 1, .c (.int .u8 127)), (1, 1, .t 28)]⟩,
    ⟨some 30, none, .call 113 [.t 24, .t 29]⟩] []) (.seq (.region [⟨some 32, none, .bin .eql (.t 7) (.c (.int .i64 63))⟩,
    ⟨some 31, none, .mov (.t 32)⟩] [0, 3, 7, 31])
   (.cond (.t 31) (.seq (.region [⟨some 33, none, .mov (.t 0)⟩,
    ⟨some 34, none, .call 161 [.t 33]⟩] [0])
   (.region [⟨some 35, none, .mov (.t 0)⟩,
    ⟨some 36, none, .nilc (.t 35)⟩,
    ⟨some 37, none, .fa 0 (.t 36)⟩,
    ⟨some 38, none, .bslice 1 1 [.int .u8 0] [(0, 1, .c (.int .u8 127))]⟩,
    ⟨some 39, none, .call 105 [.t 37, .t 38]⟩] [])) (.seq (.region [⟨some 41, none, .bin .eql (.t 7) (.c (.int .i64 64))⟩,
    ⟨some 40, none, .mov (.t 41)⟩] [0, 3, 7, 40])
   (.cond (.t 40) (.seq (.region [⟨some 42, none, .mov (.t 0)⟩,
    ⟨some 43, none, .call 161 [.t 42]⟩] [0])
   (.seq (.region [⟨some 44, none, .mov (.t 0)⟩,
    ⟨some 45, none, .call 146 [.t 44, .c (.int .u8 127)]⟩] [0])
   (.region [⟨some 46, none, .mov (.t 0)⟩,
    ⟨some 47, none, .nilc (.t 46)⟩,
    ⟨some 48, none, .fa 0 (.t 47)⟩,
    ⟨some 49, none, .bslice 1 1 [.int .u8 0] [(0, 1, .c (.int .u8 127))]⟩,
    ⟨some 50, none, .call 105 [.t 48, .t 49]⟩] []))) (.seq (.region [⟨some 52, none, .bin .eql (.t 7) (.c (.int .i64 64520))⟩,
    ⟨some 51, none, .mov (.t 52)⟩] [0, 3, 7, 51])
   (.cond (.t 51) (.seq (.region [⟨some 53, none, .mov (.t 0)⟩,
    ⟨some 54, none, .call 161 [.t 53]⟩] [0, 3])
   (.seq (.region [⟨some 55, none, .mov (.t 0)⟩,
    ⟨some 56, none, .fa 1 (.t 3)⟩,
    ⟨some 57, none, .ld 1 false (.t 56)⟩,
    ⟨some 58, none, .call 162 [.t 55, .t 57]⟩] [0])
   (.region [⟨some 59, none, .mov (.t 0)⟩,
    ⟨some 60, none, .bslice 3 1 [.int .u8 0] [(0, 1, .c (.int .u8 127)), (1, 1, .c (.int .u8 127)), (2, 1, .c (.int .u8 127))]⟩,
    ⟨some 61, none, .call 113 [.t 59, .t 60]⟩] []))) (.seq (.region [⟨some 63, none, .bin .eql (.t 7) (.c (.int .i64 64521))⟩,
    ⟨some 62, none, .mov (.t 63)⟩] [0, 3, 7, 62])
   (.cond (.t 62) (.region [⟨some 64, none, .mov (.t 0)⟩,
    ⟨some 65, none, .fa 1 (.t 3)⟩,
    ⟨some 66, none, .ld 1 false (.t 65)⟩,
    ⟨some 67, none, .call 162 [.t 64, .t 66]⟩] []) (.seq (.seq (.region [⟨some 69, none, .bin .eql (.t 7) (.c (.int .i64 64522))⟩,
    ⟨some 68, none, .mov (.t 69)⟩] [0, 3, 7, 68])
   (.cond (.t 68) (.skip) (.region [⟨some 70, none, .bin .eql (.t 7) (.c (.int .i64 64523))⟩,
    ⟨some 68, none, .mov (.t 70)⟩] [0, 3, 7, 68])))
   (.cond (.t 68) (.seq (.region [⟨some 71, none, .mov (.t 0)⟩,
    ⟨some 72, none, .call 161 [.t 71]⟩] [0])
   (.region [⟨some 73, none, .mov (.t 0)⟩,
    ⟨some 74, none, .bslice 3 1 [.int .u8 0] [(0, 1, .c (.int .u8 127)), (1, 1, .c (.int .u8 127)), (2, 1, .c (.int .u8 127))]⟩,
    ⟨some 75, none, .call 113 [.t 73, .t 74]⟩] [])) (.seq (.region [⟨some 77, none, .bin .eql (.t 7) (.c (.int .i64 64524))⟩,
    ⟨some 76, none, .mov (.t 77)⟩] [0, 3, 7, 76])
   (.cond (.t 76) (.seq (.region [⟨some 78, none, .mov (.t 0)⟩,
    ⟨some 79, none, .mov (.t 0)⟩,
    ⟨some 80, none, .fa 1 (.t 3)⟩,
    ⟨some 81, none, .ld 1 false (.t 80)⟩,
    ⟨some 83, none, .mov (.t 0)⟩,
    ⟨some 84, none, .fa 2 (.t 3)⟩,
    ⟨some 85, none, .ld 1 false (.t 84)⟩,
    ⟨some 82, none, .call 163 [.t 79, .t 81]⟩,
    ⟨none, none, .chk 1 false (.t 84) 85⟩,
    ⟨some 86, none, .call 153 [.t 83, .t 85]⟩,
    ⟨some 87, none, .bin .neq (.t 82) (.t 86)⟩,
    ⟨some 88, none, .call 112 [.t 78, .t 87]⟩] [0])
   (.region [⟨some 89, none, .mov (.t 0)⟩,
    ⟨some 90, none, .bslice 3 1 [.int .u8 0] [(0, 1, .c (.int .u8 127)), (1, 1, .c (.int .u8 127)), (2, 1, .c (.int .u8 127))]⟩,
    ⟨some 91, none, .call 113 [.t 89, .t 90]⟩] [])) (.seq (.region [⟨some 93, none, .bin .eql (.t 7) (.c (.int .i64 64525))⟩,
    ⟨some 92, none, .mov (.t 93)⟩] [0, 3, 7, 92])
   (.cond (.t 92) (.region [⟨some 94, none, .mov (.t 0)⟩,
    ⟨some 95, none, .fa 1 (.t 3)⟩,
    ⟨some 96, none, .ld 1 false (.t 95)⟩,
    ⟨some 97, none, .call 163 [.t 94, .t 96]⟩] []) (.seq (.region [⟨some 99, none, .bin .eql (.t 7) (.c (.int .i64 64526))⟩,
    ⟨some 98, none, .mov (.t 99)⟩] [0, 3, 7, 98])
   (.cond (.t 98) (.seq (.region [⟨some 100, none, .mov (.t 0)⟩,
    ⟨some 101, none, .mov (.t 0)⟩,
    ⟨some 102, none, .fa 1 (.t 3)⟩,
    ⟨some 103, none, .ld 1 false (.t 102)⟩,
    ⟨some 105, none, .mov (.t 0)⟩,
    ⟨some 106, none, .fa 2 (.t 3)⟩,
    ⟨some 107, none, .ld 1 false (.t 106)⟩,
    ⟨some 104, none, .call 153 [.t 101, .t 103]⟩,
    ⟨none, none, .chk 1 false (.t 106) 107⟩,
    ⟨some 108, none, .call 153 [.t 105, .t 107]⟩,
    ⟨some 109, none, .bin .neq (.t 104) (.t 108)⟩,
    ⟨some 110, none, .call 112 [.t 100, .t 109]⟩] [0])
   (.region [⟨some 111, none, .mov (.t 0)⟩,
    ⟨some 112, none, .bslice 3 1 [.int .u8 0] [(0, 1, .c (.int .u8 127)), (1, 1, .c (.int .u8 127)), (2, 1, .c (.int .u8 127))]⟩,
    ⟨some 113, none, .call 113 [.t 111, .t 112]⟩] [])) (.seq (.region [⟨some 115, none, .bin .eql (.t 7) (.c (.int .i64 64527))⟩,
    ⟨some 114, none, .mov (.t 115)⟩] [0, 3, 7, 114])
   (.cond (.t 114) (.seq (.region [⟨some 116, none, .mov (.t 0)⟩,
    ⟨some 117, none, .mov (.t 0)⟩,
    ⟨some 118, none, .fa 1 (.t 3)⟩,
    ⟨some 119, none, .ld 1 false (.t 118)⟩,
    ⟨some 120, none, .call 153 [.t 117, .t 119]⟩,
    ⟨some 121, none, .bslice 2 1 [.int .u8 0] [(0, 1, .t 120), (1, 1, .c (.int .u8 127))]⟩,
    ⟨some 122, none, .call 113 [.t 116, .t 121]⟩] [0])
   (.region [⟨some 123, none, .mov (.t 0)⟩,
    ⟨some 124, none, .nilc (.t 123)⟩,
    ⟨some 125, none, .fa 0 (.t 124)⟩,
    ⟨some 126, none, .bslice 1 1 [.int .u8 0] [(0, 1, .c (.int .u8 127))]⟩,
    ⟨some 127, none, .call 105 [.t 125, .t 126]⟩] [])) (.seq (.region [⟨some 129, none, .bin .eql (.t 7) (.c (.int .i64 64528))⟩,
    ⟨some 128, none, .mov (.t 129)⟩] [0, 3, 7, 128])
   (.cond (.t 128) (.seq (.region [⟨some 130, none, .mov (.t 0)⟩,
    ⟨some 131, none, .fa 1 (.t 3)⟩,
    ⟨some 132, none, .ld 1 false (.t 131)⟩,
    ⟨some 133, none, .call 153 [.t 130, .t 132]⟩] [0])
   (.region [⟨some 134, none, .mov (.t 0)⟩,
    ⟨some 135, none, .nilc (.t 134)⟩,
    ⟨some 136, none, .fa 0 (.t 135)⟩,
    ⟨some 137, none, .bslice 1 1 [.int .u8 0] [(0, 1, .c (.int .u8 127))]⟩,
    ⟨some 138, none, .call 105 [.t 136, .t 137]⟩] [])) (.seq (.region [⟨some 140, none, .bin .eql (.t 7) (.c (.int .i64 64529))⟩,
    ⟨some 139, none, .mov (.t 140)⟩] [0, 3, 139])
   (.cond (.t 139) (.region [⟨some 141, none, .mov (.t 0)⟩,
    ⟨some 142, none, .mov (.t 0)⟩,
    ⟨some 143, none, .fa 1 (.t 3)⟩,
    ⟨some 144, none, .ld 1 false (.t 143)⟩,
    ⟨some 145, none, .call 153 [.t 142, .t 144]⟩,
    ⟨some 146, none, .bslice 3 1 [.int .u8 0] [(0, 1, .c (.int .u8 127)), (1, 1, .t 145), (2, 1, .c (.int .u8 127))]⟩,
    ⟨some 147, none, .call 113 [.t 141, .t 146]⟩] []) (.seq (.region [⟨some 4, none, .mov (.c (.bool false))⟩] [4])
   (.ret))))))))))))))))))))))))))))))
   (.seq (.region [⟨some 4, none, .mov (.c (.bool true))⟩] [4])
   (.ret))),
  [.t 4], 148, 2⟩
def A108 : Ann := ⟨[(0, [0, 3]), (1, [0, 3, 7]), (2, [4]), (3, [0, 3, 7, 8]), (4, [0, 5]), (5, [0, 5]), (6, []), (7, [0, 3, 7, 22]), (8, []), (9, [0, 3, 7, 31]), (10, [0]), (11, []), (12, [0, 3, 7, 40]), (13, [0]), (14, [0]), (15, []), (16, [0, 3, 7, 51]), (17, [0, 3]), (18, [0]), (19, []), (20, [0, 3, 7, 62]), (21, []), (22, [0, 3, 7, 68]), (23, [0, 3, 7, 68]), (24, [0]), (25, []), (26, [0, 3, 7, 76]), (27, [0]), (28, []), (29, [0, 3, 7, 92]), (30, []), (31, [0, 3, 7, 98]), (32, [0]), (33, []), (34, [0, 3, 7, 114]), (35, [0]), (36, []), (37, [0, 3, 7, 128]), (38, [0]), (39, []), (40, [0, 3, 139]), (41, []), (42, [4])], [(27, [(0, []), (1, []), (2, []), (3, []), (5, []), (6, []), (7, []), (4, [7]), (8, []), (9, []), (10, [])], [(3, [2]), (4, [1, 2, 3]), (7, [6]), (8, [1, 2, 3, 4, 5, 6, 7]), (9, [1, 2, 3, 4, 5, 6, 7, 8]), (10, [0, 1, 2, 3, 4, 5, 6, 7, 8, 9])]),
  (32, [(0, []), (1, []), (2, []), (3, []), (5, []), (6, []), (7, []), (4, [7]), (8, []), (9, []), (10, [])], [(3, [2]), (4, [1, 2, 3]), (7, [6]), (8, [1, 2, 3, 4, 5, 6, 7]), (9, [1, 2, 3, 4, 5, 6, 7, 8]), (10, [0, 1, 2, 3, 4, 5, 6, 7, 8, 9])])]⟩
set_option maxRecDepth 100000 in
theorem F108.ok : compF Try.prog A108 Try.f108 = some F108 := by kernel_rfl
theorem F108.fok : FOk Try.prog 108 F108 := fok_of mixed Try.func108 F108.ok

/-- cloakroom/op.Width -/
def F109 : SFn := ⟨.seq (.region [⟨some 2, none, .mov (.c (.int .i64 0))⟩] [0])
   (.seq (.seq (.region [⟨some 3, none, .mov (.t 0)⟩] [3])
   (.block 0 (.seq (.seq (.region [⟨some 5, none, .bin .eql (.t 3) (.c (.int .i64 44))⟩,
    ⟨some 4, none, .mov (.t 5)⟩] [3, 4])
   (.cond (.t 4) (.skip) (.seq (.region [⟨some 6, none, .bin .eql (.t 3) (.c (.int .i64 45))⟩,
    ⟨some 4, none, .mov (.t 6)⟩] [3, 4])
   (.cond (.t 4) (.skip) (.seq (.region [⟨some 7, none, .bin .eql (.t 3) (.c (.int .i64 48))⟩,
    ⟨some 4, none, .mov (.t 7)⟩] [3, 4])
   (.cond (.t 4) (.skip) (.seq (.region [⟨some 8, none, .bin .eql (.t 3) (.c (.int .i64 49))⟩,
    ⟨some 4, none, .mov (.t 8)⟩] [3, 4])
   (.cond (.t 4) (.skip) (.seq (.region [⟨some 9, none, .bin .eql (.t 3) (.c (.int .i64 58))⟩,
    ⟨some 4, none, .mov (.t 9)⟩] [3, 4])
   (.cond (.t 4) (.skip) (.region [⟨some 10, none, .bin .eql (.t 3) (.c (.int .i64 60))⟩,
    ⟨some 4, none, .mov (.t 10)⟩] [3, 4])))))))))))
   (.cond (.t 4) (.seq (.region [⟨some 2, none, .mov (.c (.int .i64 1))⟩] [2])
   (.ret)) (.seq (.seq (.region [⟨some 12, none, .bin .eql (.t 3) (.c (.int .i64 46))⟩,
    ⟨some 11, none, .mov (.t 12)⟩] [3, 11])
   (.cond (.t 11) (.skip) (.seq (.region [⟨some 13, none, .bin .eql (.t 3) (.c (.int .i64 47))⟩,
    ⟨some 11, none, .mov (.t 13)⟩] [3, 11])
   (.cond (.t 11) (.skip) (.seq (.region [⟨some 14, none, .bin .eql (.t 3) (.c (.int .i64 50))⟩,
    ⟨some 11, none, .mov (.t 14)⟩] [3, 11])
   (.cond (.t 11) (.skip) (.seq (.region [⟨some 15, none, .bin .eql (.t 3) (.c (.int .i64 51))⟩,
    ⟨some 11, none, .mov (.t 15)⟩] [3, 11])
   (.cond (.t 11) (.skip) (.seq (.region [⟨some 16, none, .bin .eql (.t 3) (.c (.int .i64 59))⟩,
    ⟨some 11, none, .mov (.t 16)⟩] [3, 11])
   (.cond (.t 11) (.skip) (.region [⟨some 17, none, .bin .eql (.t 3) (.c (.int .i64 61))⟩,
    ⟨some 11, none, .mov (.t 17)⟩] [3, 11])))))))))))
   (.cond (.t 11) (.seq (.region [⟨some 2, none, .mov (.c (.int .i64 2))⟩] [2])
   (.ret)) (.seq (.seq (.region [⟨some 19, none, .bin .eql (.t 3) (.c (.int .i64 40))⟩,
    ⟨some 18, none, .mov (.t 19)⟩] [3, 18])
   (.cond (.t 18) (.skip) (.seq (.region [⟨some 20, none, .bin .eql (.t 3) (.c (.int .i64 52))⟩,
    ⟨some 18, none, .mov (.t 20)⟩] [3, 18])
   (.cond (.t 18) (.skip) (.seq (.region [⟨some 21, none, .bin .eql (.t 3) (.c (.int .i64 53))⟩,
    ⟨some 18, none, .mov (.t 21)⟩] [3, 18])
   (.cond (.t 18) (.skip) (.seq (.region [⟨some 22, none, .bin .eql (.t 3) (.c (.int .i64 54))⟩,
    ⟨some 18, none, .mov (.t 22)⟩] [3, 18])
   (.cond (.t 18) (.skip) (.region [⟨some 23, none, .bin .eql (.t 3) (.c (.int .i64 62))⟩,
    ⟨some 18, none, .mov (.t 23)⟩] [3, 18])))))))))
   (.cond (.t 18) (.seq (.region [⟨some 2, none, .mov (.c (.int .i64 4))⟩] [2])
   (.ret)) (.seq (.seq (.region [⟨some 25, none, .bin .eql (.t 3) (.c (.int .i64 41))⟩,
    ⟨some 24, none, .mov (.t 25)⟩] [3, 24])
   (.cond (.t 24) (.skip) (.region [⟨some 26, none, .bin .eql (.t 3) (.c (.int .i64 55))⟩,
    ⟨some 24, none, .mov (.t 26)⟩] [24])))
   (.cond (.t 24) (.seq (.region [⟨some 2, none, .mov (.c (.int .i64 8))⟩] [2])
   (.ret)) (.skip)))))))))))
   (.seq (.region [⟨some 2, none, .mov (.c (.int .i64 0))⟩] [2])
   (.ret))),
  [.t 2], 27, 1⟩
def A109 : Ann := ⟨[(0, [0]), (1, [3]), (2, [3, 4]), (3, [3, 4]), (4, [3, 4]), (5, [3, 4]), (6, [3, 4]), (7, [3, 4]), (8, [2]), (9, [3, 11]), (10, [3, 11]), (11, [3, 11]), (12, [3, 11]), (13, [3, 11]), (14, [3, 11]), (15, [2]), (16, [3, 18]), (17, [3, 18]), (18, [3, 18]), (19, [3, 18]), (20, [3, 18]), (21, [2]), (22, [3, 24]), (23, [24]), (24, [2]), (25, [2])], []⟩
set_option maxRecDepth 100000 in
theorem F109.ok : compF Try.prog A109 Try.f109 = some F109 := by kernel_rfl
theorem F109.fok : FOk Try.prog 109 F109 := fok_of mixed Try.func109 F109.ok

/-- (*cloakroom/val.checker).moves -/
def F110 : SFn := ⟨.seq (.region [⟨some 3, none, .box (.t 1)⟩] [0, 3])
   (.seq (.region [⟨some 5, none, .mov (.t 0)⟩,
    ⟨some 6, none, .call 161 [.t 5]⟩] [0, 3])
   (.seq (.region [⟨some 7, none, .mov (.t 0)⟩,
    ⟨some 8, none, .fa 1 (.t 3)⟩,
    ⟨some 9, none, .ld 1 false (.t 8)⟩,
    ⟨some 10, none, .bin .gtr (.t 9) (.c (.int .u32 31))⟩,
    ⟨some 11, none, .mov (.t 10)⟩,
    ⟨some 12, some (11, false), .fa 1 (.t 3)⟩,
    ⟨some 13, some (11, false), .ld 1 false (.t 12)⟩,
    ⟨some 14, some (11, false), .bin .and (.t 13) (.c (.int .u32 31))⟩,
    ⟨some 15, some (11, false), .bin .shl (.c (.int .i64 1)) (.t 14)⟩,
    ⟨some 16, some (11, false), .fa 0 (.t 3)⟩,
    ⟨some 17, some (11, false), .ld 1 false (.t 16)⟩,
    ⟨some 18, some (11, false), .call 109 [.t 17]⟩,
    ⟨none, some (11, false), .chk 1 false (.t 12) 13⟩,
    ⟨some 19, some (11, false), .bin .gtr (.t 15) (.t 18)⟩,
    ⟨some 20, none, .pick (.t 11) (.c (.bool true)) (.t 19)⟩,
    ⟨some 21, none, .call 112 [.t 7, .t 20]⟩] [0, 3])
   (.seq (.region [⟨some 4, none, .mov (.c (.int .u8 127))⟩] [0, 3, 4])
   (.seq (.seq (.region [⟨some 22, none, .fa 0 (.t 3)⟩,
    ⟨some 23, none, .ld 1 false (.t 22)⟩,
    ⟨some 24, none, .call 164 [.t 23]⟩] [0, 3, 4, 24])
   (.cond (.t 24) (.region [⟨some 4, none, .mov (.c (.int .u8 126))⟩] [0, 3, 4]) (.skip)))
   (.seq (.seq (.region [⟨some 25, none, .fa 0 (.t 3)⟩,
    ⟨some 26, none, .ld 1 false (.t 25)⟩,
    ⟨some 27, none, .bin .geq (.t 26) (.c (.int .i64 54))⟩] [0, 4, 27])
   (.cond (.t 27) (.seq (.region [⟨some 28, none, .mov (.t 0)⟩,
    ⟨some 29, none, .mov (.t 4)⟩,
    ⟨some 30, none, .bslice 2 1 [.int .u8 0] [(0, 1, .c (.int .u8 127)), (1, 1, .t 29)]⟩,
    ⟨some 31, none, .call 113 [.t 28, .t 30]⟩] [])
   (.ret)) (.skip)))
   (.seq (.region [⟨some 32, none, .mov (.t 0)⟩,
    ⟨some 33, none, .call 146 [.t 32, .c (.int .u8 127)]⟩] [0, 4])
   (.region [⟨some 34, none, .mov (.t 0)⟩,
    ⟨some 35, none, .nilc (.t 34)⟩,
    ⟨some 36, none, .fa 0 (.t 35)⟩,
    ⟨some 37, none, .mov (.t 4)⟩,
    ⟨some 38, none, .bslice 1 1 [.int .u8 0] [(0, 1, .t 37)]⟩,
    ⟨some 39, none, .call 105 [.t 36, .t 38]⟩] []))))))),
  [], 40, 2⟩
def A110 : Ann := ⟨[(0, [0, 3]), (1, [0, 3]), (2, [0, 3]), (3, [0, 3, 4]), (4, [0, 3, 4, 24]), (5, [0, 3, 4]), (6, [0, 4, 27]), (7, []), (8, [0, 4]), (9, [])], [(2, [(0, []), (1, []), (2, []), (3, []), (4, []), (5, []), (6, []), (7, []), (8, []), (9, []), (10, []), (11, [6]), (12, []), (13, []), (14, [])], [(2, [1]), (3, [1, 2]), (4, [1, 2, 3]), (5, [1, 2, 3, 4]), (6, [1, 2, 3, 4, 5]), (7, [1, 2, 3, 4, 5, 6]), (8, [1, 2, 3, 4, 5, 6, 7]), (9, [1, 2, 3, 4]), (10, [1, 2, 3, 4, 9]), (11, [1, 2, 3, 4, 9, 10]), (12, [1, 2, 3, 4, 5, 6, 7, 8, 9, 10, 11]), (13, [1, 2, 3, 4, 5, 6, 7, 8, 9, 10, 11, 12]), (14, [0, 1, 2, 3, 4, 5, 6, 7, 8, 9, 10, 11, 12, 13])])]⟩
set_option maxRecDepth 100000 in
theorem F110.ok : compF Try.prog A110 Try.f110 = some F110 := by kernel_rfl
theorem F110.fok : FOk Try.prog 110 F110 := fok_of mixed Try.func110 F110.ok

/-- cloakroom/val.numbers -/
def F111 : SFn := ⟨.seq (.region [⟨some 2, none, .mov (.c (.slice none 0 0))⟩,
    ⟨some 3, none, .mov (.c (.int .u8 0))⟩] [0])
   (.seq (.block 0 (.seq (.seq (.region [⟨some 5, none, .mov (.t 0)⟩,
    ⟨some 6, none, .bin .eql (.t 5) (.c (.int .i64 69))⟩,
    ⟨some 4, none, .mov (.t 6)⟩] [0, 4])
   (.cond (.t 4) (.skip) (.seq (.region [⟨some 7, none, .mov (.t 0)⟩,
    ⟨some 8, none, .bin .geq (.t 7) (.c (.int .i64 103))⟩,
    ⟨some 9, none, .mov (.t 8)⟩,
    ⟨some 10, some (9, true), .mov (.t 0)⟩,
    ⟨some 11, some (9, true), .bin .leq (.t 10) (.c (.int .i64 105))⟩,
    ⟨some 12, none, .pick (.t 9) (.t 11) (.c (.bool false))⟩,
    ⟨some 4, none, .mov (.t 12)⟩] [0, 4])
   (.cond (.t 4) (.skip) (.seq (.region [⟨some 13, none, .mov (.t 0)⟩,
    ⟨some 14, none, .bin .eql (.t 13) (.c (.int .i64 192))⟩,
    ⟨some 4, none, .mov (.t 14)⟩] [0, 4])
   (.cond (.t 4) (.skip) (.region [⟨some 15, none, .mov (.t 0)⟩,
    ⟨some 16, none, .bin .eql (.t 15) (.c (.int .i64 193))⟩,
    ⟨some 4, none, .mov (.t 16)⟩] [0, 4])))))))
   (.cond (.t 4) (.seq (.region [⟨some 17, none, .bslice 1 1 [.int .u8 0] [(0, 1, .c (.int .u8 127))]⟩,
    ⟨some 2, none, .mov (.t 17)⟩,
    ⟨some 3, none, .mov (.c (.int .u8 127))⟩] [2, 3])
   (.ret)) (.seq (.seq (.region [⟨some 19, none, .mov (.t 0)⟩,
    ⟨some 20, none, .bin .geq (.t 19) (.c (.int .i64 70))⟩,
    ⟨some 21, none, .mov (.t 20)⟩,
    ⟨some 22, some (21, true), .mov (.t 0)⟩,
    ⟨some 23, some (21, true), .bin .leq (.t 22) (.c (.int .i64 79))⟩,
    ⟨some 24, none, .pick (.t 21) (.t 23) (.c (.bool false))⟩,
    ⟨some 18, none, .mov (.t 24)⟩] [0, 18])
   (.cond (.t 18) (.skip) (.region [⟨some 25, none, .mov (.t 0)⟩,
    ⟨some 26, none, .bin .geq (.t 25) (.c (.int .i64 106))⟩,
    ⟨some 27, none, .mov (.t 26)⟩,
    ⟨some 28, some (27, true), .mov (.t 0)⟩,
    ⟨some 29, some (27, true), .bin .leq (.t 28) (.c (.int .i64 120))⟩,
    ⟨some 30, none, .pick (.t 27) (.t 29) (.c (.bool false))⟩,
    ⟨some 18, none, .mov (.t 30)⟩] [0, 18])))
   (.cond (.t 18) (.seq (.region [⟨some 31, none, .bslice 2 1 [.int .u8 0] [(0, 1, .c (.int .u8 127)), (1, 1, .c (.int .u8 127))]⟩,
    ⟨some 2, none, .mov (.t 31)⟩,
    ⟨some 3, none, .mov (.c (.int .u8 127))⟩] [2, 3])
   (.ret)) (.seq (.seq (.region [⟨some 33, none, .mov (.t 0)⟩,
    ⟨some 34, none, .bin .eql (.t 33) (.c (.int .i64 80))⟩,
    ⟨some 32, none, .mov (.t 34)⟩] [0, 32])
   (.cond (.t 32) (.skip) (.region [⟨some 35, none, .mov (.t 0)⟩,
    ⟨some 36, none, .bin .eql (.t 35) (.c (.int .i64 167))⟩,
    ⟨some 32, none, .mov (.t 36)⟩] [0, 32])))
   (.cond (.t 32) (.seq (.region [⟨some 37, none, .bslice 1 1 [.int .u8 0] [(0, 1, .c (.int .u8 126))]⟩,
    ⟨some 2, none, .mov (.t 37)⟩,
    ⟨some 3, none, .mov (.c (.int .u8 127))⟩] [2, 3])
   (.ret)) (.seq (.region [⟨some 39, none, .mov (.t 0)⟩,
    ⟨some 40, none, .bin .geq (.t 39) (.c (.int .i64 81))⟩,
    ⟨some 41, none, .mov (.t 40)⟩,
    ⟨some 42, some (41, true), .mov (.t 0)⟩,
    ⟨some 43, some (41, true), .bin .leq (.t 42) (.c (.int .i64 90))⟩,
    ⟨some 44, none, .pick (.t 41) (.t 43) (.c (.bool false))⟩,
    ⟨some 38, none, .mov (.t 44)⟩] [0, 38])
   (.cond (.t 38) (.seq (.region [⟨some 45, none, .bslice 2 1 [.int .u8 0] [(0, 1, .c (.int .u8 126)), (1, 1, .c (.int .u8 126))]⟩,
    ⟨some 2, none, .mov (.t 45)⟩,
    ⟨some 3, none, .mov (.c (.int .u8 127))⟩] [2, 3])
   (.ret)) (.seq (.seq (.region [⟨some 47, none, .mov (.t 0)⟩,
    ⟨some 48, none, .bin .geq (.t 47) (.c (.int .i64 121))⟩,
    ⟨some 49, none, .mov (.t 48)⟩,
    ⟨some 50, some (49, true), .mov (.t 0)⟩,
    ⟨some 51, some (49, true), .bin .leq (.t 50) (.c (.int .i64 123))⟩,
    ⟨some 52, none, .pick (.t 49) (.t 51) (.c (.bool false))⟩,
    ⟨some 46, none, .mov (.t 52)⟩] [0, 46])
   (.cond (.t 46) (.skip) (.region [⟨some 53, none, .mov (.t 0)⟩,
    ⟨some 54, none, .bin .geq (.t 53) (.c (.int .i64 194))⟩,
    ⟨some 55, none, .mov (.t 54)⟩,
    ⟨some 56, some (55, true), .mov (.t 0)⟩,
    ⟨some 57, some (55, true), .bin .leq (.t 56) (.c (.int .i64 196))⟩,
    ⟨some 58, none, .pick (.t 55) (.t 57) (.c (.bool false))⟩,
    ⟨some 46, none, .mov (.t 58)⟩] [0, 46])))
   (.cond (.t 46) (.seq (.region [⟨some 59, none, .bslice 1 1 [.int .u8 0] [(0, 1, .c (.int .u8 126))]⟩,
    ⟨some 2, none, .mov (.t 59)⟩,
    ⟨some 3, none, .mov (.c (.int .u8 126))⟩] [2, 3])
   (.ret)) (.seq (.region [⟨some 61, none, .mov (.t 0)⟩,
    ⟨some 62, none, .bin .geq (.t 61) (.c (.int .i64 124))⟩,
    ⟨some 63, none, .mov (.t 62)⟩,
    ⟨some 64, some (63, true), .mov (.t 0)⟩,
    ⟨some 65, some (63, true), .bin .leq (.t 64) (.c (.int .i64 138))⟩,
    ⟨some 66, none, .pick (.t 63) (.t 65) (.c (.bool false))⟩,
    ⟨some 60, none, .mov (.t 66)⟩] [0, 60])
   (.cond (.t 60) (.seq (.region [⟨some 67, none, .bslice 2 1 [.int .u8 0] [(0, 1, .c (.int .u8 126)), (1, 1, .c (.int .u8 126))]⟩,
    ⟨some 2, none, .mov (.t 67)⟩,
    ⟨some 3, none, .mov (.c (.int .u8 126))⟩] [2, 3])
   (.ret)) (.seq (.seq (.region [⟨some 69, none, .mov (.t 0)⟩,
    ⟨some 70, none, .bin .eql (.t 69) (.c (.int .i64 172))⟩,
    ⟨some 68, none, .mov (.t 70)⟩] [0, 68])
   (.cond (.t 68) (.skip) (.region [⟨some 71, none, .mov (.t 0)⟩,
    ⟨some 72, none, .bin .eql (.t 71) (.c (.int .i64 173))⟩,
    ⟨some 68, none, .mov (.t 72)⟩] [68])))
   (.cond (.t 68) (.seq (.region [⟨some 73, none, .bslice 1 1 [.int .u8 0] [(0, 1, .c (.int .u8 127))]⟩,
    ⟨some 2, none, .mov (.t 73)⟩,
    ⟨some 3, none, .mov (.c (.int .u8 126))⟩] [2, 3])
   (.ret)) (.skip))))))))))))))))
   (.seq (.region [⟨some 2, none, .mov (.c (.slice none 0 0))⟩,
    ⟨some 3, none, .mov (.c (.int .u8 0))⟩] [2, 3])
   (.ret))),
  [.t 2, .t 3], 74, 1⟩
def A111 : Ann := ⟨[(0, [0]), (1, [0, 4]), (2, [0, 4]), (3, [0, 4]), (4, [0, 4]), (5, [2, 3]), (6, [0, 18]), (7, [0, 18]), (8, [2, 3]), (9, [0, 32]), (10, [0, 32]), (11, [2, 3]), (12, [0, 38]), (13, [2, 3]), (14, [0, 46]), (15, [0, 46]), (16, [2, 3]), (17, [0, 60]), (18, [2, 3]), (19, [0, 68]), (20, [68]), (21, [2, 3]), (22, [2, 3])], []⟩
set_option maxRecDepth 100000 in
theorem F111.ok : compF Try.prog A111 Try.f111 = some F111 := by kernel_rfl
theorem F111.fok : FOk Try.prog 111 F111 := fok_of mixed Try.func111 F111.ok

/-- (*cloakroom/val.checker).fails -/
def F112 : SFn := ⟨.region [⟨some 4, none, .mov (.t 0)⟩,
    ⟨some 5, none, .mov (.t 0)⟩,
    ⟨some 6, none, .nilc (.t 5)⟩,
    ⟨some 7, none, .fa 4 (.t 6)⟩,
    ⟨some 8, none, .ld 1 false (.t 7)⟩,
    ⟨some 9, none, .mov (.t 8)⟩,
    ⟨some 10, some (9, false), .mov (.t 1)⟩,
    ⟨some 11, none, .pick (.t 9) (.c (.bool true)) (.t 10)⟩,
    ⟨some 12, none, .nilc (.t 4)⟩,
    ⟨some 13, none, .fa 4 (.t 12)⟩,
    ⟨none, none, .st 1 (.t 13) (.t 11)⟩] [],
  [], 14, 2⟩
def A112 : Ann := ⟨[(0, [])], []⟩
set_option maxRecDepth 100000 in
theorem F112.ok : compF Try.prog A112 Try.f112 = some F112 := by kernel_rfl
theorem F112.fok : FOk Try.prog 112 F112 := fok_of mixed Try.func112 F112.ok

/-- (*cloakroom/val.checker).take -/
def F113 : SFn := ⟨.seq (.region [⟨some 4, none, .mov (.c (.slice none 0 0))⟩] [0, 1])
   (.seq (.region [⟨some 7, none, .mov (.t 1)⟩,
    ⟨some 8, none, .lenV (.t 7)⟩,
    ⟨some 9, none, .mkSl 1 1 [.int .u8 0] (.t 8) (.t 8)⟩,
    ⟨some 5, none, .mov (.t 9)⟩] [0, 1, 5])
   (.seq (.seq (.region [⟨some 10, none, .mov (.t 1)⟩,
    ⟨some 11, none, .lenV (.t 10)⟩,
    ⟨some 12, none, .bin .sub (.t 11) (.c (.int .i64 1))⟩,
    ⟨some 6, none, .mov (.t 12)⟩] [0, 1, 5, 6])
   (.block 0 (.loop (.seq (.seq (.region [⟨some 13, none, .mov (.t 6)⟩,
    ⟨some 14, none, .bin .geq (.t 13) (.c (.int .i64 0))⟩] [0, 1, 5, 6, 14])
   (.cond (.t 14) (.skip) (.exit 0)))
   (.seq (.block 1 (.region [⟨some 17, none, .mov (.t 5)⟩,
    ⟨some 18, none, .mov (.t 6)⟩,
    ⟨some 19, none, .mov (.t 0)⟩,
    ⟨some 20, none, .mov (.t 1)⟩,
    ⟨some 21, none, .mov (.t 6)⟩,
    ⟨some 22, none, .iaV 1 (.t 20) (.t 21)⟩,
    ⟨some 23, none, .ld 1 false (.t 22)⟩,
    ⟨some 24, none, .call 146 [.t 19, .t 23]⟩,
    ⟨some 25, none, .iaV 1 (.t 17) (.t 18)⟩,
    ⟨none, none, .st 1 (.t 25) (.t 24)⟩] [0, 1, 5, 6]))
   (.region [⟨some 15, none, .mov (.t 6)⟩,
    ⟨some 16, none, .bin .sub (.t 15) (.c (.int .i64 1))⟩,
    ⟨some 6, none, .mov (.t 16)⟩] [0, 1, 5, 6]))))))
   (.seq (.region [⟨some 26, none, .mov (.t 5)⟩,
    ⟨some 4, none, .mov (.t 26)⟩] [4])
   (.ret)))),
  [.t 4], 27, 2⟩
def A113 : Ann := ⟨[(0, [0, 1]), (1, [0, 1, 5]), (2, [0, 1, 5, 6]), (3, [0, 1, 5, 6, 14]), (4, [0, 1, 5, 6]), (5, [0, 1, 5, 6]), (6, [4])], []⟩
set_option maxRecDepth 100000 in
theorem F113.ok : compF Try.prog A113 Try.f113 = some F113 := by kernel_rfl
theorem F113.fok : FOk Try.prog 113 F113 := fok_of mixed Try.func113 F113.ok

/-- (*cloakroom/cloakroomplay.maker).three -/
def F141 : SFn := ⟨.seq (.region [⟨some 4, none, .mov (.c (.int .i64 0))⟩] [0, 1, 4])
   (.block 0 (.loop (.seq (.seq (.region [⟨some 5, none, .mov (.t 4)⟩,
    ⟨some 6, none, .bin .lss (.t 5) (.c (.int .i64 3))⟩] [0, 1, 4, 6])
   (.cond (.t 6) (.skip) (.exit 0)))
   (.seq (.block 1 (.seq (.region [⟨some 9, none, .mov (.t 0)⟩,
    ⟨some 10, none, .nilc (.t 9)⟩,
    ⟨some 11, none, .fa 0 (.t 10)⟩,
    ⟨some 12, none, .ld 1 false (.t 11)⟩,
    ⟨some 13, none, .call 67 [.t 12, .c (.int .i64 3)]⟩,
    ⟨some 14, none, .bin .eql (.t 13) (.c (.int .i64 0))⟩] [0, 1, 4, 14])
   (.cond (.t 14) (.region [⟨some 15, none, .mov (.t 0)⟩,
    ⟨some 16, none, .mov (.t 1)⟩,
    ⟨some 17, none, .bin .sub (.t 16) (.c (.int .i64 1))⟩,
    ⟨some 18, none, .call 69 [.t 15, .c (.int .u8 127), .t 17]⟩] [0, 1, 4]) (.region [⟨some 19, none, .mov (.t 0)⟩,
    ⟨some 20, none, .mov (.t 0)⟩,
    ⟨some 21, none, .nilc (.t 20)⟩,
    ⟨some 22, none, .fa 0 (.t 21)⟩,
    ⟨some 23, none, .ld 1 false (.t 22)⟩,
    ⟨some 24, none, .call 67 [.t 23, .c (.int .i64 9)]⟩,
    ⟨some 25, none, .conv .u64 (.t 24)⟩,
    ⟨some 26, none, .call 96 [.t 19, .c (.int .u8 127), .t 25]⟩] [0, 1, 4]))))
   (.region [⟨some 7, none, .mov (.t 4)⟩,
    ⟨some 8, none, .bin .add (.t 7) (.c (.int .i64 1))⟩,
    ⟨some 4, none, .mov (.t 8)⟩] [0, 1, 4]))))),
  [], 27, 2⟩
def A141 : Ann := ⟨[(0, [0, 1, 4]), (1, [0, 1, 4, 6]), (2, [0, 1, 4]), (3, [0, 1, 4, 14]), (4, [0, 1, 4]), (5, [0, 1, 4])], []⟩
set_option maxRecDepth 100000 in
theorem F141.ok : compF Try.prog A141 Try.f141 = some F141 := by kernel_rfl
theorem F141.fok : FOk Try.prog 141 F141 := fok_of mixed Try.func141 F141.ok

/-- (*cloakroom/cloakroomplay.maker).ref -/
def F142 : SFn := ⟨.seq (.region [⟨some 2, none, .mov (.t 0)⟩,
    ⟨some 3, none, .nilc (.t 2)⟩,
    ⟨some 4, none, .fa 0 (.t 3)⟩,
    ⟨some 5, none, .ld 1 false (.t 4)⟩,
    ⟨some 6, none, .call 67 [.t 5, .c (.int .i64 3)]⟩,
    ⟨some 7, none, .bin .eql (.t 6) (.c (.int .i64 0))⟩] [0, 7])
   (.cond (.t 7) (.region [⟨some 8, none, .mov (.t 0)⟩,
    ⟨some 9, none, .call 99 [.t 8, .c (.int .i64 208), .c (.int .u32 112)]⟩] []) (.region [⟨some 10, none, .mov (.t 0)⟩,
    ⟨some 11, none, .mov (.t 0)⟩,
    ⟨some 12, none, .nilc (.t 11)⟩,
    ⟨some 13, none, .fa 0 (.t 12)⟩,
    ⟨some 14, none, .ld 1 false (.t 13)⟩,
    ⟨some 15, none, .mov (.t 0)⟩,
    ⟨some 16, none, .nilc (.t 15)⟩,
    ⟨some 17, none, .fa 1 (.t 16)⟩,
    ⟨some 18, none, .ld 1 false (.t 17)⟩,
    ⟨some 19, none, .nilc (.t 18)⟩,
    ⟨some 20, none, .fa 1 (.t 19)⟩,
    ⟨some 21, none, .ld 1 false (.t 20)⟩,
    ⟨some 22, none, .lenV (.t 21)⟩,
    ⟨some 23, none, .call 67 [.t 14, .t 22]⟩,
    ⟨some 24, none, .conv .u32 (.t 23)⟩,
    ⟨some 25, none, .call 99 [.t 10, .c (.int .i64 210), .t 24]⟩] [])),
  [], 26, 1⟩
def A142 : Ann := ⟨[(0, [0, 7]), (1, []), (2, [])], [(2, [(0, []), (1, []), (2, []), (3, []), (4, []), (5, []), (6, []), (7, []), (8, []), (9, []), (10, []), (11, []), (12, []), (13, []), (14, []), (15, [])], [(2, [1]), (3, [1, 2]), (4, [1, 2, 3]), (6, [5]), (7, [5, 6]), (8, [5, 6, 7]), (9, [5, 6, 7, 8]), (10, [5, 6, 7, 8, 9]), (11, [5, 6, 7, 8, 9, 10]), (12, [5, 6, 7, 8, 9, 10, 11]), (13, [1, 2, 3, 4, 5, 6, 7, 8, 9, 10, 11, 12]), (14, [1, 2, 3, 4, 5, 6, 7, 8, 9, 10, 11, 12, 13]), (15, [0, 1, 2, 3, 4, 5, 6, 7, 8, 9, 10, 11, 12, 13, 14])])]⟩
set_option maxRecDepth 100000 in
theorem F142.ok : compF Try.prog A142 Try.f142 = some F142 := by kernel_rfl
theorem F142.fok : FOk Try.prog 142 F142 := fok_of mixed Try.func142 F142.ok

/-- (*cloakroom/cloakroomplay.maker).loop -/
def F143 : SFn := ⟨.seq (.region [⟨some 5, none, .mov (.t 0)⟩,
    ⟨some 6, none, .nilc (.t 5)⟩,
    ⟨some 7, none, .fa 2 (.t 6)⟩,
    ⟨some 8, none, .ld 1 false (.t 7)⟩,
    ⟨some 9, none, .lenV (.t 8)⟩,
    ⟨some 10, none, .bin .sub (.t 9) (.c (.int .i64 1))⟩,
    ⟨some 11, none, .conv .u32 (.t 10)⟩,
    ⟨some 4, none, .mov (.t 11)⟩] [0, 1, 4])
   (.seq (.seq (.region [⟨some 12, none, .mov (.t 0)⟩,
    ⟨some 13, none, .nilc (.t 12)⟩,
    ⟨some 14, none, .fa 4 (.t 13)⟩,
    ⟨some 15, none, .ld 1 false (.t 14)⟩,
    ⟨some 16, none, .bin .gtr (.t 15) (.c (.int .i64 0))⟩] [0, 1, 4, 16])
   (.cond (.t 16) (.seq (.region [⟨some 17, none, .mov (.t 0)⟩,
    ⟨some 18, none, .call 100 [.t 17, .c (.int .i64 1)]⟩] [])
   (.ret)) (.skip)))
   (.seq (.region [⟨some 19, none, .mov (.t 0)⟩,
    ⟨some 20, none, .mov (.t 0)⟩,
    ⟨some 21, none, .nilc (.t 20)⟩,
    ⟨some 22, none, .fa 4 (.t 21)⟩,
    ⟨some 23, none, .ld 1 false (.t 22)⟩,
    ⟨some 24, none, .bin .add (.t 23) (.c (.int .i64 2))⟩,
    ⟨some 25, none, .nilc (.t 19)⟩,
    ⟨some 26, none, .fa 4 (.t 25)⟩,
    ⟨none, none, .st 1 (.t 26) (.t 24)⟩] [0, 1, 4])
   (.seq (.region [⟨some 27, none, .mov (.t 0)⟩,
    ⟨some 28, none, .mov (.t 0)⟩,
    ⟨some 29, none, .nilc (.t 28)⟩,
    ⟨some 30, none, .fa 0 (.t 29)⟩,
    ⟨some 31, none, .ld 1 false (.t 30)⟩,
    ⟨some 32, none, .call 67 [.t 31, .c (.int .i64 5)]⟩,
    ⟨some 33, none, .conv .u64 (.t 32)⟩,
    ⟨some 34, none, .call 96 [.t 27, .c (.int .u8 127), .t 33]⟩] [0, 1, 4])
   (.seq (.region [⟨some 35, none, .mov (.t 0)⟩,
    ⟨some 36, none, .mov (.t 4)⟩,
    ⟨some 37, none, .call 99 [.t 35, .c (.int .i64 33), .t 36]⟩] [0, 1, 4])
   (.seq (.region [⟨some 38, none, .mov (.t 0)⟩,
    ⟨some 39, none, .mov (.t 0)⟩,
    ⟨some 40, none, .nilc (.t 39)⟩,
    ⟨some 41, none, .fa 3 (.t 40)⟩,
    ⟨some 42, none, .ld 1 false (.t 41)⟩,
    ⟨some 43, none, .build [.int .i64 0, .int .u32 0, .int .u32 0, .int .u64 0, .slice none 0 0, .int .i64 0] [(0, 1, .c (.int .i64 2)), (5, 1, .c (.int .i64 (-64)))]⟩,
    ⟨some 44, none, .build [.int .i64 0, .int .u32 0, .int .u32 0, .int .u64 0, .slice none 0 0, .int .i64 0] [(0, 1, .c (.int .i64 3)), (5, 1, .c (.int .i64 (-64)))]⟩,
    ⟨some 45, none, .bslice 2 6 [.int .i64 0, .int .u32 0, .int .u32 0, .int .u64 0, .slice none 0 0, .int .i64 0] [(0, 6, .t 43), (6, 6, .t 44)]⟩,
    ⟨some 46, none, .app 6 56 (.t 42) (.t 45)⟩,
    ⟨some 47, none, .nilc (.t 38)⟩,
    ⟨some 48, none, .fa 3 (.t 47)⟩,
    ⟨none, none, .st 1 (.t 48) (.t 46)⟩] [0, 1, 4])
   (.seq (.region [⟨some 49, none, .mov (.t 0)⟩,
    ⟨some 50, none, .mov (.t 4)⟩,
    ⟨some 51, none, .call 99 [.t 49, .c (.int .i64 32), .t 50]⟩] [0, 1, 4])
   (.seq (.region [⟨some 52, none, .mov (.t 0)⟩,
    ⟨some 53, none, .call 100 [.t 52, .c (.int .i64 69)]⟩] [0, 1, 4])
   (.seq (.region [⟨some 54, none, .mov (.t 0)⟩,
    ⟨some 55, none, .call 99 [.t 54, .c (.int .i64 13), .c (.int .u32 1)]⟩] [0, 1, 4])
   (.seq (.region [⟨some 56, none, .mov (.t 0)⟩,
    ⟨some 57, none, .mov (.t 4)⟩,
    ⟨some 58, none, .call 99 [.t 56, .c (.int .i64 32), .t 57]⟩] [0, 1, 4])
   (.seq (.region [⟨some 59, none, .mov (.t 0)⟩,
    ⟨some 60, none, .call 96 [.t 59, .c (.int .u8 127), .c (.int .u64 1)]⟩] [0, 1, 4])
   (.seq (.region [⟨some 61, none, .mov (.t 0)⟩,
    ⟨some 62, none, .call 100 [.t 61, .c (.int .i64 107)]⟩] [0, 1, 4])
   (.seq (.region [⟨some 63, none, .mov (.t 0)⟩,
    ⟨some 64, none, .mov (.t 4)⟩,
    ⟨some 65, none, .call 99 [.t 63, .c (.int .i64 33), .t 64]⟩] [0, 1])
   (.seq (.region [⟨some 66, none, .mov (.t 0)⟩,
    ⟨some 67, none, .mov (.t 0)⟩,
    ⟨some 68, none, .nilc (.t 67)⟩,
    ⟨some 69, none, .fa 0 (.t 68)⟩,
    ⟨some 70, none, .ld 1 false (.t 69)⟩,
    ⟨some 71, none, .call 67 [.t 70, .c (.int .i64 2)]⟩,
    ⟨some 72, none, .bin .add (.c (.int .i64 1)) (.t 71)⟩,
    ⟨some 73, none, .mov (.t 1)⟩,
    ⟨some 74, none, .bin .sub (.t 73) (.c (.int .i64 1))⟩,
    ⟨some 75, none, .call 68 [.t 66, .t 72, .t 74]⟩] [0])
   (.seq (.region [⟨some 76, none, .mov (.t 0)⟩,
    ⟨some 77, none, .call 99 [.t 76, .c (.int .i64 12), .c (.int .u32 0)]⟩] [0])
   (.seq (.region [⟨some 78, none, .mov (.t 0)⟩,
    ⟨some 79, none, .call 100 [.t 78, .c (.int .i64 11)]⟩] [0])
   (.seq (.region [⟨some 80, none, .mov (.t 0)⟩,
    ⟨some 81, none, .call 100 [.t 80, .c (.int .i64 11)]⟩] [0])
   (.region [⟨some 82, none, .mov (.t 0)⟩,
    ⟨some 83, none, .mov (.t 0)⟩,
    ⟨some 84, none, .nilc (.t 83)⟩,
    ⟨some 85, none, .fa 4 (.t 84)⟩,
    ⟨some 86, none, .ld 1 false (.t 85)⟩,
    ⟨some 87, none, .bin .sub (.t 86) (.c (.int .i64 2))⟩,
    ⟨some 88, none, .nilc (.t 82)⟩,
    ⟨some 89, none, .fa 4 (.t 88)⟩,
    ⟨none, none, .st 1 (.t 89) (.t 87)⟩] []))))))))))))))))),
  [], 90, 2⟩
def A143 : Ann := ⟨[(0, [0, 1, 4]), (1, [0, 1, 4, 16]), (2, []), (3, [0, 1, 4]), (4, [0, 1, 4]), (5, [0, 1, 4]), (6, [0, 1, 4]), (7, [0, 1, 4]), (8, [0, 1, 4]), (9, [0, 1, 4]), (10, [0, 1, 4]), (11, [0, 1, 4]), (12, [0, 1, 4]), (13, [0, 1]), (14, [0]), (15, [0]), (16, [0]), (17, [0]), (18, [])], []⟩
set_option maxRecDepth 100000 in
theorem F143.ok : compF Try.prog A143 Try.f143 = some F143 := by kernel_rfl
theorem F143.fok : FOk Try.prog 143 F143 := fok_of mixed Try.func143 F143.ok

/-- (*cloakroom/cloakroomplay.maker).jumps -/
def F144 : SFn := ⟨.seq (.seq (.region [⟨some 4, none, .mov (.t 0)⟩,
    ⟨some 5, none, .nilc (.t 4)⟩,
    ⟨some 6, none, .fa 4 (.t 5)⟩,
    ⟨some 7, none, .ld 1 false (.t 6)⟩,
    ⟨some 8, none, .bin .gtr (.t 7) (.c (.int .i64 12))⟩] [0, 1, 8])
   (.cond (.t 8) (.seq (.region [⟨some 9, none, .mov (.t 0)⟩,
    ⟨some 10, none, .call 100 [.t 9, .c (.int .i64 1)]⟩] [])
   (.ret)) (.skip)))
   (.seq (.region [⟨some 11, none, .mov (.t 0)⟩,
    ⟨some 12, none, .nilc (.t 11)⟩,
    ⟨some 13, none, .fa 4 (.t 12)⟩,
    ⟨some 14, none, .ld 1 false (.t 13)⟩,
    ⟨some 15, none, .bin .add (.t 14) (.c (.int .i64 1))⟩,
    ⟨some 16, none, .nilc (.t 11)⟩,
    ⟨some 17, none, .fa 4 (.t 16)⟩,
    ⟨none, none, .st 1 (.t 17) (.t 15)⟩] [0, 1])
   (.seq (.region [⟨some 18, none, .mov (.t 0)⟩,
    ⟨some 19, none, .mov (.t 0)⟩,
    ⟨some 20, none, .nilc (.t 19)⟩,
    ⟨some 21, none, .fa 3 (.t 20)⟩,
    ⟨some 22, none, .ld 1 false (.t 21)⟩,
    ⟨some 23, none, .build [.int .i64 0, .int .u32 0, .int .u32 0, .int .u64 0, .slice none 0 0, .int .i64 0] [(0, 1, .c (.int .i64 2)), (5, 1, .c (.int .i64 (-64)))]⟩,
    ⟨some 24, none, .bslice 1 6 [.int .i64 0, .int .u32 0, .int .u32 0, .int .u64 0, .slice none 0 0, .int .i64 0] [(0, 6, .t 23)]⟩,
    ⟨some 25, none, .app 6 56 (.t 22) (.t 24)⟩,
    ⟨some 26, none, .nilc (.t 18)⟩,
    ⟨some 27, none, .fa 3 (.t 26)⟩,
    ⟨none, none, .st 1 (.t 27) (.t 25)⟩] [0, 1])
   (.seq (.seq (.region [⟨some 28, none, .mov (.t 0)⟩,
    ⟨some 29, none, .nilc (.t 28)⟩,
    ⟨some 30, none, .fa 0 (.t 29)⟩,
    ⟨some 31, none, .ld 1 false (.t 30)⟩,
    ⟨some 32, none, .call 67 [.t 31, .c (.int .i64 5)]⟩] [0, 1, 32])
   (.block 0 (.seq (.region [⟨some 44, none, .bin .eql (.t 32) (.c (.int .i64 0))⟩,
    ⟨some 43, none, .mov (.t 44)⟩] [0, 1, 32, 43])
   (.cond (.t 43) (.seq (.region [⟨some 45, none, .mov (.t 0)⟩,
    ⟨some 46, none, .mov (.t 1)⟩,
    ⟨some 47, none, .bin .sub (.t 46) (.c (.int .i64 1))⟩,
    ⟨some 48, none, .call 69 [.t 45, .c (.int .u8 127), .t 47]⟩] [0])
   (.region [⟨some 49, none, .mov (.t 0)⟩,
    ⟨some 50, none, .mov (.t 0)⟩,
    ⟨some 51, none, .nilc (.t 50)⟩,
    ⟨some 52, none, .fa 3 (.t 51)⟩,
    ⟨some 53, none, .ld 1 false (.t 52)⟩,
    ⟨some 54, none, .bslice 2 1 [.int .u32 0] [(0, 1, .c (.int .u32 0)), (1, 1, .c (.int .u32 0))]⟩,
    ⟨some 55, none, .build [.int .i64 0, .int .u32 0, .int .u32 0, .int .u64 0, .slice none 0 0, .int .i64 0] [(0, 1, .c (.int .i64 14)), (1, 1, .c (.int .u32 0)), (4, 1, .t 54)]⟩,
    ⟨some 56, none, .bslice 1 6 [.int .i64 0, .int .u32 0, .int .u32 0, .int .u64 0, .slice none 0 0, .int .i64 0] [(0, 6, .t 55)]⟩,
    ⟨some 57, none, .app 6 56 (.t 53) (.t 56)⟩,
    ⟨some 58, none, .nilc (.t 49)⟩,
    ⟨some 59, none, .fa 3 (.t 58)⟩,
    ⟨none, none, .st 1 (.t 59) (.t 57)⟩] [0])) (.seq (.region [⟨some 61, none, .bin .eql (.t 32) (.c (.int .i64 1))⟩,
    ⟨some 60, none, .mov (.t 61)⟩] [0, 1, 32, 60])
   (.cond (.t 60) (.seq (.region [⟨some 62, none, .mov (.t 0)⟩,
    ⟨some 63, none, .call 99 [.t 62, .c (.int .i64 12), .c (.int .u32 0)]⟩] [0, 1])
   (.region [⟨some 64, none, .mov (.t 0)⟩,
    ⟨some 65, none, .mov (.t 1)⟩,
    ⟨some 66, none, .bin .sub (.t 65) (.c (.int .i64 1))⟩,
    ⟨some 67, none, .call 68 [.t 64, .c (.int .i64 1), .t 66]⟩] [0])) (.seq (.region [⟨some 69, none, .bin .eql (.t 32) (.c (.int .i64 2))⟩,
    ⟨some 68, none, .mov (.t 69)⟩] [0, 1, 68])
   (.cond (.t 68) (.seq (.region [⟨some 70, none, .mov (.t 0)⟩,
    ⟨some 71, none, .mov (.t 1)⟩,
    ⟨some 72, none, .bin .sub (.t 71) (.c (.int .i64 1))⟩,
    ⟨some 73, none, .call 69 [.t 70, .c (.int .u8 127), .t 72]⟩] [0])
   (.seq (.region [⟨some 74, none, .mov (.t 0)⟩,
    ⟨some 75, none, .mov (.t 0)⟩,
    ⟨some 76, none, .nilc (.t 75)⟩,
    ⟨some 77, none, .fa 3 (.t 76)⟩,
    ⟨some 78, none, .ld 1 false (.t 77)⟩,
    ⟨some 79, none, .build [.int .i64 0, .int .u32 0, .int .u32 0, .int .u64 0, .slice none 0 0, .int .i64 0] [(0, 1, .c (.int .i64 4)), (5, 1, .c (.int .i64 (-64)))]⟩,
    ⟨some 80, none, .bslice 1 6 [.int .i64 0, .int .u32 0, .int .u32 0, .int .u64 0, .slice none 0 0, .int .i64 0] [(0, 6, .t 79)]⟩,
    ⟨some 81, none, .app 6 56 (.t 78) (.t 80)⟩,
    ⟨some 82, none, .nilc (.t 74)⟩,
    ⟨some 83, none, .fa 3 (.t 82)⟩,
    ⟨none, none, .st 1 (.t 83) (.t 81)⟩] [0])
   (.seq (.region [⟨some 84, none, .mov (.t 0)⟩,
    ⟨some 85, none, .bslice 3 1 [.int .i64 0] [(0, 1, .c (.int .i64 0)), (1, 1, .c (.int .i64 1)), (2, 1, .c (.int .i64 15))]⟩,
    ⟨some 86, none, .mov (.t 0)⟩,
    ⟨some 87, none, .nilc (.t 86)⟩,
    ⟨some 88, none, .fa 0 (.t 87)⟩,
    ⟨some 89, none, .ld 1 false (.t 88)⟩,
    ⟨some 90, none, .call 67 [.t 89, .c (.int .i64 2)]⟩,
    ⟨some 91, none, .iaV 1 (.t 85) (.t 90)⟩,
    ⟨some 92, none, .ld 1 false (.t 91)⟩,
    ⟨some 93, none, .call 100 [.t 84, .t 92]⟩] [0])
   (.region [⟨some 94, none, .mov (.t 0)⟩,
    ⟨some 95, none, .call 100 [.t 94, .c (.int .i64 11)]⟩] [0])))) (.seq (.region [⟨some 33, none, .mov (.t 0)⟩,
    ⟨some 34, none, .mov (.t 1)⟩,
    ⟨some 35, none, .bin .sub (.t 34) (.c (.int .i64 1))⟩,
    ⟨some 36, none, .call 69 [.t 33, .c (.int .u8 127), .t 35]⟩] [0, 1])
   (.seq (.region [⟨some 37, none, .mov (.t 0)⟩,
    ⟨some 38, none, .call 99 [.t 37, .c (.int .i64 13), .c (.int .u32 0)]⟩] [0, 1])
   (.region [⟨some 39, none, .mov (.t 0)⟩,
    ⟨some 40, none, .mov (.t 1)⟩,
    ⟨some 41, none, .bin .sub (.t 40) (.c (.int .i64 1))⟩,
    ⟨some 42, none, .call 68 [.t 39, .c (.int .i64 1), .t 41]⟩] [0])))))))))))
   (.seq (.region [⟨some 96, none, .mov (.t 0)⟩,
    ⟨some 97, none, .call 100 [.t 96, .c (.int .i64 11)]⟩] [0])
   (.region [⟨some 98, none, .mov (.t 0)⟩,
    ⟨some 99, none, .nilc (.t 98)⟩,
    ⟨some 100, none, .fa 4 (.t 99)⟩,
    ⟨some 101, none, .ld 1 false (.t 100)⟩,
    ⟨some 102, none, .bin .sub (.t 101) (.c (.int .i64 1))⟩,
    ⟨some 103, none, .nilc (.t 98)⟩,
    ⟨some 104, none, .fa 4 (.t 103)⟩,
    ⟨none, none, .st 1 (.t 104) (.t 102)⟩] []))))),
  [], 105, 2⟩
def A144 : Ann := ⟨[(0, [0, 1, 8]), (1, []), (2, [0, 1]), (3, [0, 1]), (4, [0, 1, 32]), (5, [0, 1]), (6, [0, 1]), (7, [0]), (8, [0, 1, 32, 43]), (9, [0]), (10, [0]), (11, [0, 1, 32, 60]), (12, [0, 1]), (13, [0]), (14, [0, 1, 68]), (15, [0]), (16, [0]), (17, [0]), (18, [0]), (19, [0]), (20, [])], []⟩
set_option maxRecDepth 100000 in
theorem F144.ok : compF Try.prog A144 Try.f144 = some F144 := by kernel_rfl
theorem F144.fok : FOk Try.prog 144 F144 := fok_of mixed Try.func144 F144.ok

/-- (*cloakroom/val.checker).rests -/
def F145 : SFn := ⟨.seq (.region [⟨some 3, none, .mov (.t 0)⟩,
    ⟨some 4, none, .call 174 [.t 3]⟩,
    ⟨some 2, none, .mov (.t 4)⟩] [0, 2])
   (.seq (.region [⟨some 5, none, .mov (.t 0)⟩,
    ⟨some 6, none, .mov (.t 0)⟩,
    ⟨some 7, none, .nilc (.t 6)⟩,
    ⟨some 8, none, .fa 0 (.t 7)⟩,
    ⟨some 9, none, .fa 0 (.t 8)⟩,
    ⟨some 10, none, .ld 1 false (.t 9)⟩,
    ⟨some 11, none, .mov (.t 2)⟩,
    ⟨some 12, none, .nilc (.t 11)⟩,
    ⟨some 13, none, .fa 3 (.t 12)⟩,
    ⟨some 14, none, .ld 1 false (.t 13)⟩,
    ⟨some 15, none, .slV 1 (.t 10) none (some (.t 14)) none⟩,
    ⟨some 16, none, .nilc (.t 5)⟩,
    ⟨some 17, none, .fa 0 (.t 16)⟩,
    ⟨some 18, none, .fa 0 (.t 17)⟩,
    ⟨none, none, .st 1 (.t 18) (.t 15)⟩] [2])
   (.region [⟨some 19, none, .mov (.t 2)⟩,
    ⟨some 20, none, .nilc (.t 19)⟩,
    ⟨some 21, none, .fa 4 (.t 20)⟩,
    ⟨none, none, .st 1 (.t 21) (.c (.bool true))⟩] [])),
  [], 22, 1⟩
def A145 : Ann := ⟨[(0, [0, 2]), (1, [2]), (2, [])], [(1, [(0, []), (1, []), (2, []), (3, []), (4, []), (5, []), (6, []), (7, []), (8, []), (9, []), (10, []), (11, []), (12, []), (13, []), (14, [])], [(2, [1]), (3, [1, 2]), (4, [1, 2, 3]), (5, [1, 2, 3, 4]), (7, [6]), (8, [6, 7]), (9, [6, 7, 8]), (10, [1, 2, 3, 4, 5, 6, 7, 8, 9]), (11, [0, 1, 2, 3, 4, 5, 6, 7, 8, 9, 10]), (12, [0, 1, 2, 3, 4, 5, 6, 7, 8, 9, 10, 11]), (13, [0, 1, 2, 3, 4, 5, 6, 7, 8, 9, 10, 11, 12]), (14, [0, 1, 2, 3, 4, 5, 6, 7, 8, 9, 10, 11, 12, 13])])]⟩
set_option maxRecDepth 100000 in
theorem F145.ok : compF Try.prog A145 Try.f145 = some F145 := by kernel_rfl
theorem F145.fok : FOk Try.prog 145 F145 := fok_of mixed Try.func145 F145.ok

/-- (*cloakroom/val.checker).want -/
def F146 : SFn := ⟨.seq (.region [⟨some 4, none, .mov (.c (.int .u8 0))⟩] [0, 1])
   (.seq (.region [⟨some 6, none, .mov (.t 0)⟩,
    ⟨some 7, none, .call 155 [.t 6]⟩,
    ⟨some 5, none, .mov (.t 7)⟩] [0, 1, 5])
   (.seq (.region [⟨some 8, none, .mov (.t 0)⟩,
    ⟨some 9, none, .mov (.t 5)⟩,
    ⟨some 10, none, .mov (.t 1)⟩,
    ⟨some 11, none, .bin .neq (.t 9) (.t 10)⟩,
    ⟨some 12, none, .mov (.t 11)⟩,
    ⟨some 13, some (12, true), .mov (.t 5)⟩,
    ⟨some 14, some (12, true), .bin .neq (.t 13) (.c (.int .u8 0))⟩,
    ⟨some 15, none, .pick (.t 12) (.t 14) (.c (.bool false))⟩,
    ⟨some 16, none, .mov (.t 15)⟩,
    ⟨some 17, some (16, true), .mov (.t 1)⟩,
    ⟨some 18, some (16, true), .bin .neq (.t 17) (.c (.int .u8 0))⟩,
    ⟨some 19, none, .pick (.t 16) (.t 18) (.c (.bool false))⟩,
    ⟨some 20, none, .call 112 [.t 8, .t 19]⟩] [5])
   (.seq (.region [⟨some 21, none, .mov (.t 5)⟩,
    ⟨some 4, none, .mov (.t 21)⟩] [4])
   (.ret)))),
  [.t 4], 22, 2⟩
def A146 : Ann := ⟨[(0, [0, 1]), (1, [0, 1, 5]), (2, [5]), (3, [4])], []⟩
set_option maxRecDepth 100000 in
theorem F146.ok : compF Try.prog A146 Try.f146 = some F146 := by kernel_rfl
theorem F146.fok : FOk Try.prog 146 F146 := fok_of mixed Try.func146 F146.ok

/-- (*cloakroom/val.checker).signature -/
def F147 : SFn := ⟨.seq (.region [⟨some 4, none, .mov (.c (.slice none 0 0))⟩,
    ⟨some 5, none, .mov (.c (.slice none 0 0))⟩] [0, 1])
   (.seq (.block 0 (.seq (.region [⟨some 7, none, .mov (.t 1)⟩,
    ⟨some 8, none, .bin .eql (.t 7) (.c (.int .i64 (-64)))⟩,
    ⟨some 6, none, .mov (.t 8)⟩] [0, 1, 6])
   (.cond (.t 6) (.seq (.region [⟨some 4, none, .mov (.c (.slice none 0 0))⟩,
    ⟨some 5, none, .mov (.c (.slice none 0 0))⟩] [4, 5])
   (.ret)) (.seq (.region [⟨some 10, none, .mov (.t 1)⟩,
    ⟨some 11, none, .bin .lss (.t 10) (.c (.int .i64 0))⟩,
    ⟨some 9, none, .mov (.t 11)⟩] [0, 1, 9])
   (.cond (.t 9) (.seq (.region [⟨some 12, none, .mov (.t 1)⟩,
    ⟨some 13, none, .bin .add (.t 12) (.c (.int .i64 128))⟩,
    ⟨some 14, none, .conv .u8 (.t 13)⟩,
    ⟨some 15, none, .bslice 1 1 [.int .u8 0] [(0, 1, .t 14)]⟩,
    ⟨some 4, none, .mov (.c (.slice none 0 0))⟩,
    ⟨some 5, none, .mov (.t 15)⟩] [4, 5])
   (.ret)) (.skip))))))
   (.seq (.region [⟨some 16, none, .mov (.t 0)⟩,
    ⟨some 17, none, .mov (.t 1)⟩,
    ⟨some 18, none, .conv .u64 (.t 17)⟩,
    ⟨some 19, none, .call 154 [.t 16, .t 18]⟩,
    ⟨some 20, none, .ext (.t 19) 0⟩,
    ⟨some 21, none, .ext (.t 19) 1⟩,
    ⟨some 4, none, .mov (.t 20)⟩,
    ⟨some 5, none, .mov (.t 21)⟩] [4, 5])
   (.ret))),
  [.t 4, .t 5], 22, 2⟩
def A147 : Ann := ⟨[(0, [0, 1]), (1, [0, 1, 6]), (2, [4, 5]), (3, [0, 1, 9]), (4, [4, 5]), (5, [4, 5])], []⟩
set_option maxRecDepth 100000 in
theorem F147.ok : compF Try.prog A147 Try.f147 = some F147 := by kernel_rfl
theorem F147.fok : FOk Try.prog 147 F147 := fok_of mixed Try.func147 F147.ok
end Go.Dx.SYtokfafjbdbdplaa
