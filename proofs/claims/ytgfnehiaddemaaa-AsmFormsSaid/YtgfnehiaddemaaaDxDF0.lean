/- The readings of functions, printed by a program of the prover's own. -/
import Derived.Test.YtgfnehiaddemaaaDx19
import Derived.Test.YtgfnehiaddemaaaChecked
import Derived.Eval
namespace Go.Dx.SYtgfnehiaddemaaa
open Go.Proofs
set_option linter.unusedVariables false
theorem mixed : Try.prog.follows .mixedOrders = true := Try.checked.mixed
/-- cloakroom/cloakroomlaw9.AsmForms -/
def F12 : SFn := ⟨.seq (.region [⟨some 0, none, .mov (.c (.bool false))⟩] [])
   (.seq (.seq (.region [⟨some 6, none, .call 40 []⟩,
    ⟨some 7, none, .un .not (.t 6)⟩] [7])
   (.cond (.t 7) (.seq (.region [⟨some 0, none, .mov (.c (.bool false))⟩] [0])
   (.ret)) (.skip)))
   (.seq (.region [⟨some 8, none, .build [.int .i64 0, .int .u32 0, .int .u32 0, .int .u64 0, .slice none 0 0, .int .i64 0] [(0, 1, .c (.int .i64 11))]⟩,
    ⟨some 1, none, .new [.int .i64 0, .int .u32 0, .int .u32 0, .int .u64 0, .slice none 0 0, .int .i64 0]⟩,
    ⟨none, none, .st 6 (.t 1) (.t 8)⟩] [1])
   (.seq (.region [⟨some 2, none, .mov (.c (.string { data := #[0, 97, 115, 109, 1, 0, 0, 0] }))⟩] [1, 2])
   (.seq (.region [⟨some 9, none, .build [.slice none 0 0, .slice none 0 0, .slice none 0 0, .slice none 0 0, .slice none 0 0, .slice none 0 0, .bool false, .int .u32 0, .slice none 0 0, .bool false, .int .u32 0, .slice none 0 0, .slice none 0 0] []⟩,
    ⟨some 10, none, .build [.slice none 0 0, .slice none 0 0, .slice none 0 0, .slice none 0 0, .slice none 0 0, .slice none 0 0, .bool false, .int .u32 0, .slice none 0 0, .bool false, .int .u32 0, .slice none 0 0, .slice none 0 0] [(6, 1, .c (.bool true)), (7, 1, .c (.int .u32 3))]⟩,
    ⟨some 11, none, .build [.slice none 0 0, .slice none 0 0, .slice none 0 0, .slice none 0 0, .slice none 0 0, .slice none 0 0, .bool false, .int .u32 0, .slice none 0 0, .bool false, .int .u32 0, .slice none 0 0, .slice none 0 0] [(9, 1, .c (.bool true))]⟩,
    ⟨some 12, none, .build [.int .u32 0, .int .u32 0, .bool false] [(0, 1, .c (.int .u32 1)), (1, 1, .c (.int .u32 2)), (2, 1, .c (.bool true))]⟩,
    ⟨some 13, none, .bslice 1 3 [.int .u32 0, .int .u32 0, .bool false] [(0, 3, .t 12)]⟩,
    ⟨some 14, none, .build [.slice none 0 0, .slice none 0 0, .slice none 0 0, .slice none 0 0, .slice none 0 0, .slice none 0 0, .bool false, .int .u32 0, .slice none 0 0, .bool false, .int .u32 0, .slice none 0 0, .slice none 0 0] [(3, 1, .t 13)]⟩,
    ⟨some 15, none, .build [.int .i64 0, .int .u32 0, .int .u32 0, .int .u64 0, .slice none 0 0, .int .i64 0] [(0, 1, .c (.int .i64 65))]⟩,
    ⟨some 16, none, .ld 6 true (.t 1)⟩,
    ⟨some 17, none, .bslice 2 6 [.int .i64 0, .int .u32 0, .int .u32 0, .int .u64 0, .slice none 0 0, .int .i64 0] [(0, 6, .t 15), (6, 6, .t 16)]⟩,
    ⟨some 18, none, .build [.int .u8 0, .int .u8 0, .int .u32 0, .slice none 0 0, .slice none 0 0] [(1, 1, .c (.int .u8 112)), (3, 1, .t 17)]⟩,
    ⟨some 19, none, .bslice 1 5 [.int .u8 0, .int .u8 0, .int .u32 0, .slice none 0 0, .slice none 0 0] [(0, 5, .t 18)]⟩,
    ⟨some 20, none, .build [.slice none 0 0, .slice none 0 0, .slice none 0 0, .slice none 0 0, .slice none 0 0, .slice none 0 0, .bool false, .int .u32 0, .slice none 0 0, .bool false, .int .u32 0, .slice none 0 0, .slice none 0 0] [(8, 1, .t 19)]⟩,
    ⟨some 21, none, .build [.int .i64 0, .int .u32 0, .int .u32 0, .int .u64 0, .slice none 0 0, .int .i64 0] [(0, 1, .c (.int .i64 65))]⟩,
    ⟨some 22, none, .ld 6 true (.t 1)⟩,
    ⟨some 23, none, .bslice 2 6 [.int .i64 0, .int .u32 0, .int .u32 0, .int .u64 0, .slice none 0 0, .int .i64 0] [(0, 6, .t 21), (6, 6, .t 22)]⟩,
    ⟨some 24, none, .build [.int .u8 0, .int .u8 0, .int .u32 0, .slice none 0 0, .slice none 0 0] [(1, 1, .c (.int .u8 111)), (2, 1, .c (.int .u32 1)), (3, 1, .t 23)]⟩,
    ⟨some 25, none, .bslice 1 5 [.int .u8 0, .int .u8 0, .int .u32 0, .slice none 0 0, .slice none 0 0] [(0, 5, .t 24)]⟩,
    ⟨some 26, none, .build [.slice none 0 0, .slice none 0 0, .slice none 0 0, .slice none 0 0, .slice none 0 0, .slice none 0 0, .bool false, .int .u32 0, .slice none 0 0, .bool false, .int .u32 0, .slice none 0 0, .slice none 0 0] [(8, 1, .t 25)]⟩,
    ⟨some 27, none, .build [.int .i64 0, .int .u32 0, .int .u32 0, .int .u64 0, .slice none 0 0, .int .i64 0] [(0, 1, .c (.int .i64 210)), (1, 1, .c (.int .u32 2))]⟩,
    ⟨some 28, none, .ld 6 true (.t 1)⟩,
    ⟨some 29, none, .bslice 2 6 [.int .i64 0, .int .u32 0, .int .u32 0, .int .u64 0, .slice none 0 0, .int .i64 0] [(0, 6, .t 27), (6, 6, .t 28)]⟩,
    ⟨some 30, none, .bslice 1 1 [.slice none 0 0] [(0, 1, .t 29)]⟩,
    ⟨some 31, none, .build [.int .u8 0, .int .u8 0, .int .u32 0, .slice none 0 0, .slice none 0 0] [(0, 1, .c (.int .u8 2)), (1, 1, .c (.int .u8 112)), (4, 1, .t 30)]⟩,
    ⟨some 32, none, .bslice 1 5 [.int .u8 0, .int .u8 0, .int .u32 0, .slice none 0 0, .slice none 0 0] [(0, 5, .t 31)]⟩,
    ⟨some 33, none, .build [.slice none 0 0, .slice none 0 0, .slice none 0 0, .slice none 0 0, .slice none 0 0, .slice none 0 0, .bool false, .int .u32 0, .slice none 0 0, .bool false, .int .u32 0, .slice none 0 0, .slice none 0 0] [(8, 1, .t 32)]⟩,
    ⟨some 34, none, .bslice 1 1 [.int .u8 0] [(0, 1, .c (.int .u8 120))]⟩,
    ⟨some 35, none, .mark (.t 34)⟩,
    ⟨some 36, none, .build [.int .u8 0, .slice none 0 0, .slice none 0 0] [(0, 1, .c (.int .u8 1)), (2, 1, .t 35)]⟩,
    ⟨some 37, none, .bslice 1 3 [.int .u8 0, .slice none 0 0, .slice none 0 0] [(0, 3, .t 36)]⟩,
    ⟨some 38, none, .build [.slice none 0 0, .slice none 0 0, .slice none 0 0, .slice none 0 0, .slice none 0 0, .slice none 0 0, .bool false, .int .u32 0, .slice none 0 0, .bool false, .int .u32 0, .slice none 0 0, .slice none 0 0] [(12, 1, .t 37)]⟩,
    ⟨some 39, none, .bslice 2 1 [.int .u8 0] [(0, 1, .c (.int .u8 127)), (1, 1, .c (.int .u8 127))]⟩,
    ⟨some 40, none, .ld 6 true (.t 1)⟩,
    ⟨some 41, none, .bslice 1 6 [.int .i64 0, .int .u32 0, .int .u32 0, .int .u64 0, .slice none 0 0, .int .i64 0] [(0, 6, .t 40)]⟩,
    ⟨some 42, none, .build [.slice none 0 0, .slice none 0 0] [(0, 1, .t 39), (1, 1, .t 41)]⟩,
    ⟨some 43, none, .bslice 1 2 [.slice none 0 0, .slice none 0 0] [(0, 2, .t 42)]⟩,
    ⟨some 44, none, .build [.slice none 0 0, .slice none 0 0, .slice none 0 0, .slice none 0 0, .slice none 0 0, .slice none 0 0, .bool false, .int .u32 0, .slice none 0 0, .bool false, .int .u32 0, .slice none 0 0, .slice none 0 0] [(11, 1, .t 43)]⟩,
    ⟨some 45, none, .bslice 9 13 [.slice none 0 0, .slice none 0 0, .slice none 0 0, .slice none 0 0, .slice none 0 0, .slice none 0 0, .bool false, .int .u32 0, .slice none 0 0, .bool false, .int .u32 0, .slice none 0 0, .slice none 0 0] [(0, 13, .t 9), (13, 13, .t 10), (26, 13, .t 11), (39, 13, .t 14), (52, 13, .t 20), (65, 13, .t 26), (78, 13, .t 33), (91, 13, .t 38), (104, 13, .t 44)]⟩,
    ⟨some 3, none, .mov (.t 45)⟩] [2, 3])
   (.seq (.region [⟨some 46, none, .bslice 9 1 [.string ByteArray.empty] [(0, 1, .c (.string { data := #[] })), (1, 1, .c (.string { data := #[8, 1, 3] })), (2, 1, .c (.string { data := #[12, 1, 0] })), (3, 1, .c (.string { data := #[5, 4, 1, 1, 1, 2] })), (4, 1, .c (.string { data := #[9, 6, 1, 4, 65, 0, 11, 0] })), (5, 1, .c (.string { data := #[9, 8, 1, 6, 1, 65, 0, 11, 111, 0] })), (6, 1, .c (.string { data := #[9, 7, 1, 7, 112, 1, 210, 2, 11] })), (7, 1, .c (.string { data := #[11, 4, 1, 1, 1, 120] })), (8, 1, .c (.string { data := #[10, 8, 1, 6, 2, 1, 127, 1, 127, 11] }))]⟩,
    ⟨some 4, none, .mov (.t 46)⟩] [2, 3, 4])
   (.seq (.seq (.region [⟨some 5, none, .mov (.c (.int .i64 0))⟩] [2, 3, 4, 5])
   (.block 0 (.loop (.seq (.seq (.region [⟨some 47, none, .mov (.t 5)⟩,
    ⟨some 48, none, .mov (.t 3)⟩,
    ⟨some 49, none, .lenV (.t 48)⟩,
    ⟨some 50, none, .bin .lss (.t 47) (.t 49)⟩] [2, 3, 4, 5, 50])
   (.cond (.t 50) (.skip) (.exit 0)))
   (.seq (.block 1 (.seq (.region [⟨some 53, none, .mov (.t 3)⟩,
    ⟨some 54, none, .mov (.t 5)⟩,
    ⟨some 55, none, .iaV 13 (.t 53) (.t 54)⟩,
    ⟨some 56, none, .ld 13 true (.t 55)⟩,
    ⟨some 59, none, .mov (.t 2)⟩,
    ⟨some 60, none, .mov (.t 4)⟩,
    ⟨some 61, none, .mov (.t 5)⟩,
    ⟨some 62, none, .iaV 1 (.t 60) (.t 61)⟩,
    ⟨some 63, none, .ld 1 false (.t 62)⟩,
    ⟨some 64, none, .bin .add (.t 59) (.t 63)⟩,
    ⟨some 57, none, .call 42 [.t 56]⟩,
    ⟨none, none, .chk 1 false (.t 62) 63⟩,
    ⟨some 58, none, .toStr (.t 57)⟩,
    ⟨some 65, none, .bin .neq (.t 58) (.t 64)⟩] [2, 3, 4, 5, 65])
   (.cond (.t 65) (.seq (.region [⟨some 0, none, .mov (.c (.bool false))⟩] [0])
   (.ret)) (.skip))))
   (.region [⟨some 51, none, .mov (.t 5)⟩,
    ⟨some 52, none, .bin .add (.t 51) (.c (.int .i64 1))⟩,
    ⟨some 5, none, .mov (.t 52)⟩] [2, 3, 4, 5]))))))
   (.seq (.region [⟨some 0, none, .mov (.c (.bool true))⟩] [0])
   (.ret)))))))),
  [.t 0], 66, 0⟩
def A12 : Ann := ⟨[(0, []), (1, [7]), (2, [0]), (3, [1]), (4, [1, 2]), (5, [2, 3]), (6, [2, 3, 4]), (7, [2, 3, 4, 5]), (8, [2, 3, 4, 5, 50]), (9, [2, 3, 4, 5]), (10, [2, 3, 4, 5, 65]), (11, [0]), (12, [0])], [(10, [(0, []), (1, []), (2, []), (3, []), (6, []), (7, []), (8, []), (9, []), (10, []), (11, []), (4, [10]), (5, []), (12, [])], [(2, [0, 1]), (3, [0, 1, 2]), (4, [0, 1, 2, 3]), (5, [0, 1, 2, 3, 4]), (9, [7, 8]), (10, [7, 8, 9]), (11, [6, 7, 8, 9, 10]), (12, [0, 1, 2, 3, 4, 5, 6, 7, 8, 9, 10, 11])])]⟩
set_option maxRecDepth 100000 in
theorem F12.ok : compF Try.prog A12 Try.f12 = some F12 := by kernel_rfl
theorem F12.fok : FOk Try.prog 12 F12 := fok_of mixed Try.func12 F12.ok

/-- cloakroom/cloakroomlaw9.begun -/
def F40 : SFn := ⟨.seq (.region [⟨some 0, none, .mov (.c (.bool false))⟩] [])
   (.seq (.region [⟨some 2, none, .build [.slice none 0 0, .slice none 0 0] []⟩,
    ⟨some 3, none, .bslice 1 2 [.slice none 0 0, .slice none 0 0] [(0, 2, .t 2)]⟩,
    ⟨some 4, none, .build [.slice none 0 0, .slice none 0 0, .slice none 0 0, .slice none 0 0, .slice none 0 0, .slice none 0 0, .bool false, .int .u32 0, .slice none 0 0, .bool false, .int .u32 0, .slice none 0 0, .slice none 0 0] [(0, 1, .t 3)]⟩,
    ⟨some 1, none, .new [.slice none 0 0, .slice none 0 0, .slice none 0 0, .slice none 0 0, .slice none 0 0, .slice none 0 0, .bool false, .int .u32 0, .slice none 0 0, .bool false, .int .u32 0, .slice none 0 0, .slice none 0 0]⟩,
    ⟨none, none, .st 13 (.t 1) (.t 4)⟩] [1])
   (.seq (.region [⟨some 5, none, .ld 13 true (.t 1)⟩,
    ⟨some 6, none, .call 42 [.t 5]⟩,
    ⟨some 7, none, .toStr (.t 6)⟩,
    ⟨some 8, none, .bin .eql (.t 7) (.c (.string { data := #[0, 97, 115, 109, 1, 0, 0, 0, 1, 4, 1, 96, 0, 0] }))⟩,
    ⟨some 9, none, .mov (.t 8)⟩,
    ⟨some 10, some (9, true), .ld 13 true (.t 1)⟩,
    ⟨some 11, some (9, true), .call 43 [.t 10]⟩,
    ⟨some 12, none, .pick (.t 9) (.t 11) (.c (.bool false))⟩,
    ⟨some 0, none, .mov (.t 12)⟩] [0])
   (.ret))),
  [.t 0], 13, 0⟩
def A40 : Ann := ⟨[(0, []), (1, [1]), (2, [0])], []⟩
set_option maxRecDepth 100000 in
theorem F40.ok : compF Try.prog A40 Try.f40 = some F40 := by kernel_rfl
theorem F40.fok : FOk Try.prog 40 F40 := fok_of mixed Try.func40 F40.ok

/-- cloakroom/asm.Put -/
def F42 : SFn := ⟨.seq (.region [⟨some 1, none, .box (.t 0)⟩,
    ⟨some 2, none, .mov (.c (.slice none 0 0))⟩] [1])
   (.seq (.region [⟨some 5, none, .bslice 8 1 [.int .u8 0] [(0, 1, .c (.int .u8 0)), (1, 1, .c (.int .u8 97)), (2, 1, .c (.int .u8 115)), (3, 1, .c (.int .u8 109)), (4, 1, .c (.int .u8 1)), (5, 1, .c (.int .u8 0)), (6, 1, .c (.int .u8 0)), (7, 1, .c (.int .u8 0))]⟩,
    ⟨some 6, none, .mark (.t 5)⟩,
    ⟨some 7, none, .build [.slice none 0 0] [(0, 1, .t 6)]⟩,
    ⟨some 8, none, .box (.t 7)⟩,
    ⟨some 3, none, .mov (.t 8)⟩] [1, 3])
   (.seq (.region [⟨some 4, none, .mov (.c (.func (.func 93) ⟨[]⟩ ⟨[]⟩))⟩] [1, 3, 4])
   (.seq (.region [⟨some 9, none, .mov (.t 3)⟩,
    ⟨some 10, none, .fa 0 (.t 1)⟩,
    ⟨some 11, none, .ld 1 false (.t 10)⟩,
    ⟨some 12, none, .lenV (.t 11)⟩,
    ⟨some 13, none, .bin .gtr (.t 12) (.c (.int .i64 0))⟩,
    ⟨some 14, none, .fa 0 (.t 1)⟩,
    ⟨some 15, none, .ld 1 false (.t 14)⟩,
    ⟨some 16, none, .call 96 [.t 15, .c (.func (.func 97) ⟨[]⟩ ⟨[]⟩)]⟩,
    ⟨none, none, .chk 1 false (.t 10) 11⟩,
    ⟨some 17, none, .call 95 [.t 9, .c (.int .u8 1), .t 13, .t 16]⟩] [1, 3, 4])
   (.seq (.region [⟨some 18, none, .mov (.t 3)⟩,
    ⟨some 19, none, .fa 1 (.t 1)⟩,
    ⟨some 20, none, .ld 1 false (.t 19)⟩,
    ⟨some 21, none, .lenV (.t 20)⟩,
    ⟨some 22, none, .bin .gtr (.t 21) (.c (.int .i64 0))⟩,
    ⟨some 23, none, .fa 1 (.t 1)⟩,
    ⟨some 24, none, .ld 1 false (.t 23)⟩,
    ⟨some 25, none, .mov (.t 4)⟩,
    ⟨some 26, none, .call 98 [.t 24, .t 25]⟩,
    ⟨none, none, .chk 1 false (.t 19) 20⟩,
    ⟨some 27, none, .call 95 [.t 18, .c (.int .u8 3), .t 22, .t 26]⟩] [1, 3])
   (.seq (.region [⟨some 28, none, .mov (.t 3)⟩,
    ⟨some 29, none, .fa 2 (.t 1)⟩,
    ⟨some 30, none, .ld 1 false (.t 29)⟩,
    ⟨some 31, none, .lenV (.t 30)⟩,
    ⟨some 32, none, .bin .gtr (.t 31) (.c (.int .i64 0))⟩,
    ⟨some 33, none, .fa 2 (.t 1)⟩,
    ⟨some 34, none, .ld 1 false (.t 33)⟩,
    ⟨some 35, none, .call 99 [.t 34, .c (.func (.func 100) ⟨[]⟩ ⟨[]⟩)]⟩,
    ⟨none, none, .chk 1 false (.t 29) 30⟩,
    ⟨some 36, none, .call 95 [.t 28, .c (.int .u8 4), .t 32, .t 35]⟩] [1, 3])
   (.seq (.region [⟨some 37, none, .mov (.t 3)⟩,
    ⟨some 38, none, .fa 3 (.t 1)⟩,
    ⟨some 39, none, .ld 1 false (.t 38)⟩,
    ⟨some 40, none, .lenV (.t 39)⟩,
    ⟨some 41, none, .bin .gtr (.t 40) (.c (.int .i64 0))⟩,
    ⟨some 42, none, .fa 3 (.t 1)⟩,
    ⟨some 43, none, .ld 1 false (.t 42)⟩,
    ⟨some 44, none, .call 102 [.t 43, .c (.func (.func 101) ⟨[]⟩ ⟨[]⟩)]⟩,
    ⟨none, none, .chk 1 false (.t 38) 39⟩,
    ⟨some 45, none, .call 95 [.t 37, .c (.int .u8 5), .t 41, .t 44]⟩] [1, 3])
   (.seq (.region [⟨some 46, none, .mov (.t 3)⟩,
    ⟨some 47, none, .fa 4 (.t 1)⟩,
    ⟨some 48, none, .ld 1 false (.t 47)⟩,
    ⟨some 49, none, .lenV (.t 48)⟩,
    ⟨some 50, none, .bin .gtr (.t 49) (.c (.int .i64 0))⟩,
    ⟨some 51, none, .fa 4 (.t 1)⟩,
    ⟨some 52, none, .ld 1 false (.t 51)⟩,
    ⟨some 53, none, .call 103 [.t 52, .c (.func (.func 104) ⟨[]⟩ ⟨[]⟩)]⟩,
    ⟨none, none, .chk 1 false (.t 47) 48⟩,
    ⟨some 54, none, .call 95 [.t 46, .c (.int .u8 6), .t 50, .t 53]⟩] [1, 3])
   (.seq (.region [⟨some 55, none, .mov (.t 3)⟩,
    ⟨some 56, none, .fa 5 (.t 1)⟩,
    ⟨some 57, none, .ld 1 false (.t 56)⟩,
    ⟨some 58, none, .lenV (.t 57)⟩,
    ⟨some 59, none, .bin .gtr (.t 58) (.c (.int .i64 0))⟩,
    ⟨some 60, none, .fa 5 (.t 1)⟩,
    ⟨some 61, none, .ld 1 false (.t 60)⟩,
    ⟨some 62, none, .call 105 [.t 61, .c (.func (.func 106) ⟨[]⟩ ⟨[]⟩)]⟩,
    ⟨none, none, .chk 1 false (.t 56) 57⟩,
    ⟨some 63, none, .call 95 [.t 55, .c (.int .u8 7), .t 59, .t 62]⟩] [1, 3])
   (.seq (.region [⟨some 64, none, .mov (.t 3)⟩,
    ⟨some 65, none, .fa 6 (.t 1)⟩,
    ⟨some 66, none, .ld 1 false (.t 65)⟩,
    ⟨some 67, none, .fa 7 (.t 1)⟩,
    ⟨some 68, none, .ld 1 false (.t 67)⟩,
    ⟨some 69, none, .bslice 1 1 [.int .u32 0] [(0, 1, .t 68)]⟩,
    ⟨some 70, none, .call 94 [.c (.slice none 0 0), .t 69]⟩,
    ⟨none, none, .chk 1 false (.t 65) 66⟩,
    ⟨some 71, none, .call 95 [.t 64, .c (.int .u8 8), .t 66, .t 70]⟩] [1, 3])
   (.seq (.region [⟨some 72, none, .mov (.t 3)⟩,
    ⟨some 73, none, .fa 8 (.t 1)⟩,
    ⟨some 74, none, .ld 1 false (.t 73)⟩,
    ⟨some 75, none, .lenV (.t 74)⟩,
    ⟨some 76, none, .bin .gtr (.t 75) (.c (.int .i64 0))⟩,
    ⟨some 77, none, .fa 8 (.t 1)⟩,
    ⟨some 78, none, .ld 1 false (.t 77)⟩,
    ⟨some 79, none, .call 108 [.t 78, .c (.func (.func 109) ⟨[]⟩ ⟨[]⟩)]⟩,
    ⟨none, none, .chk 1 false (.t 73) 74⟩,
    ⟨some 80, none, .call 95 [.t 72, .c (.int .u8 9), .t 76, .t 79]⟩] [1, 3])
   (.seq (.region [⟨some 81, none, .mov (.t 3)⟩,
    ⟨some 82, none, .fa 9 (.t 1)⟩,
    ⟨some 83, none, .ld 1 false (.t 82)⟩,
    ⟨some 84, none, .fa 10 (.t 1)⟩,
    ⟨some 85, none, .ld 1 false (.t 84)⟩,
    ⟨some 86, none, .bslice 1 1 [.int .u32 0] [(0, 1, .t 85)]⟩,
    ⟨some 87, none, .call 94 [.c (.slice none 0 0), .t 86]⟩,
    ⟨none, none, .chk 1 false (.t 82) 83⟩,
    ⟨some 88, none, .call 95 [.t 81, .c (.int .u8 12), .t 83, .t 87]⟩] [1, 3])
   (.seq (.region [⟨some 89, none, .mov (.t 3)⟩,
    ⟨some 90, none, .fa 11 (.t 1)⟩,
    ⟨some 91, none, .ld 1 false (.t 90)⟩,
    ⟨some 92, none, .lenV (.t 91)⟩,
    ⟨some 93, none, .bin .gtr (.t 92) (.c (.int .i64 0))⟩,
    ⟨some 94, none, .fa 11 (.t 1)⟩,
    ⟨some 95, none, .ld 1 false (.t 94)⟩,
    ⟨some 96, none, .call 110 [.t 95, .c (.func (.func 111) ⟨[]⟩ ⟨[]⟩)]⟩,
    ⟨none, none, .chk 1 false (.t 90) 91⟩,
    ⟨some 97, none, .call 95 [.t 89, .c (.int .u8 10), .t 93, .t 96]⟩] [1, 3])
   (.seq (.region [⟨some 98, none, .mov (.t 3)⟩,
    ⟨some 99, none, .fa 12 (.t 1)⟩,
    ⟨some 100, none, .ld 1 false (.t 99)⟩,
    ⟨some 101, none, .lenV (.t 100)⟩,
    ⟨some 102, none, .bin .gtr (.t 101) (.c (.int .i64 0))⟩,
    ⟨some 103, none, .fa 12 (.t 1)⟩,
    ⟨some 104, none, .ld 1 false (.t 103)⟩,
    ⟨some 105, none, .call 112 [.t 104, .c (.func (.func 113) ⟨[]⟩ ⟨[]⟩)]⟩,
    ⟨none, none, .chk 1 false (.t 99) 100⟩,
    ⟨some 106, none, .call 95 [.t 98, .c (.int .u8 11), .t 102, .t 105]⟩] [3])
   (.seq (.region [⟨some 107, none, .mov (.t 3)⟩,
    ⟨some 108, none, .nilc (.t 107)⟩,
    ⟨some 109, none, .fa 0 (.t 108)⟩,
    ⟨some 110, none, .ld 1 false (.t 109)⟩,
    ⟨some 2, none, .mov (.t 110)⟩] [2])
   (.ret))))))))))))))),
  [.t 2], 111, 1⟩
def A42 : Ann := ⟨[(0, [1]), (1, [1, 3]), (2, [1, 3, 4]), (3, [1, 3, 4]), (4, [1, 3]), (5, [1, 3]), (6, [1, 3]), (7, [1, 3]), (8, [1, 3]), (9, [1, 3]), (10, [1, 3]), (11, [1, 3]), (12, [1, 3]), (13, [3]), (14, [2])], [(3, [(0, []), (1, []), (2, []), (3, []), (4, []), (5, []), (6, []), (7, [2]), (8, [])], [(2, [1]), (3, [1, 2]), (4, [1, 2, 3]), (6, [5]), (7, [5, 6]), (8, [0, 1, 2, 3, 4, 5, 6, 7])]),
  (4, [(0, []), (1, []), (2, []), (3, []), (4, []), (5, []), (6, []), (7, []), (8, [2]), (9, [])], [(2, [1]), (3, [1, 2]), (4, [1, 2, 3]), (6, [5]), (8, [5, 6, 7]), (9, [0, 1, 2, 3, 4, 5, 6, 7, 8])]),
  (5, [(0, []), (1, []), (2, []), (3, []), (4, []), (5, []), (6, []), (7, [2]), (8, [])], [(2, [1]), (3, [1, 2]), (4, [1, 2, 3]), (6, [5]), (7, [5, 6]), (8, [0, 1, 2, 3, 4, 5, 6, 7])]),
  (6, [(0, []), (1, []), (2, []), (3, []), (4, []), (5, []), (6, []), (7, [2]), (8, [])], [(2, [1]), (3, [1, 2]), (4, [1, 2, 3]), (6, [5]), (7, [5, 6]), (8, [0, 1, 2, 3, 4, 5, 6, 7])]),
  (7, [(0, []), (1, []), (2, []), (3, []), (4, []), (5, []), (6, []), (7, [2]), (8, [])], [(2, [1]), (3, [1, 2]), (4, [1, 2, 3]), (6, [5]), (7, [5, 6]), (8, [0, 1, 2, 3, 4, 5, 6, 7])]),
  (8, [(0, []), (1, []), (2, []), (3, []), (4, []), (5, []), (6, []), (7, [2]), (8, [])], [(2, [1]), (3, [1, 2]), (4, [1, 2, 3]), (6, [5]), (7, [5, 6]), (8, [0, 1, 2, 3, 4, 5, 6, 7])]),
  (9, [(0, []), (1, []), (2, []), (3, []), (4, []), (5, []), (6, [2]), (7, [])], [(2, [1]), (4, [3]), (5, [3, 4]), (6, [3, 4, 5]), (7, [0, 1, 2, 3, 4, 5, 6])]),
  (10, [(0, []), (1, []), (2, []), (3, []), (4, []), (5, []), (6, []), (7, [2]), (8, [])], [(2, [1]), (3, [1, 2]), (4, [1, 2, 3]), (6, [5]), (7, [5, 6]), (8, [0, 1, 2, 3, 4, 5, 6, 7])]),
  (11, [(0, []), (1, []), (2, []), (3, []), (4, []), (5, []), (6, [2]), (7, [])], [(2, [1]), (4, [3]), (5, [3, 4]), (6, [3, 4, 5]), (7, [0, 1, 2, 3, 4, 5, 6])]),
  (12, [(0, []), (1, []), (2, []), (3, []), (4, []), (5, []), (6, []), (7, [2]), (8, [])], [(2, [1]), (3, [1, 2]), (4, [1, 2, 3]), (6, [5]), (7, [5, 6]), (8, [0, 1, 2, 3, 4, 5, 6, 7])]),
  (13, [(0, []), (1, []), (2, []), (3, []), (4, []), (5, []), (6, []), (7, [2]), (8, [])], [(2, [1]), (3, [1, 2]), (4, [1, 2, 3]), (6, [5]), (7, [5, 6]), (8, [0, 1, 2, 3, 4, 5, 6, 7])])]⟩
set_option maxRecDepth 100000 in
theorem F42.ok : compF Try.prog A42 Try.f42 = some F42 := by kernel_rfl
theorem F42.fok : FOk Try.prog 42 F42 := fok_of mixed Try.func42 F42.ok

/-- cloakroom/asm.Shortest -/
def F43 : SFn := ⟨.seq (.region [⟨some 1, none, .box (.t 0)⟩,
    ⟨some 2, none, .mov (.c (.bool false))⟩] [1])
   (.seq (.region [⟨some 3, none, .ld 13 true (.t 1)⟩,
    ⟨some 4, none, .call 42 [.t 3]⟩,
    ⟨some 5, none, .lenV (.t 4)⟩,
    ⟨some 6, none, .bin .leq (.t 5) (.c (.int .i64 4096))⟩,
    ⟨some 2, none, .mov (.t 6)⟩] [2])
   (.ret)),
  [.t 2], 7, 1⟩
def A43 : Ann := ⟨[(0, [1]), (1, [2])], []⟩
set_option maxRecDepth 100000 in
theorem F43.ok : compF Try.prog A43 Try.f43 = some F43 := by kernel_rfl
theorem F43.fok : FOk Try.prog 43 F43 := fok_of mixed Try.func43 F43.ok

/-- slices.Clone[[]byte,byte] -/
def F55 : SFn := ⟨.seq (.region [⟨some 2, none, .mov (.c (.slice none 0 0))⟩] [0])
   (.seq (.seq (.region [⟨some 3, none, .mov (.t 0)⟩,
    ⟨some 4, none, .eqk false .slice (.t 3) (.c (.slice none 0 0))⟩] [0, 4])
   (.cond (.t 4) (.seq (.region [⟨some 2, none, .mov (.c (.slice none 0 0))⟩] [2])
   (.ret)) (.skip)))
   (.seq (.region [⟨some 5, none, .bslice 0 1 [.int .u8 0] []⟩,
    ⟨some 6, none, .mov (.t 0)⟩,
    ⟨some 7, none, .app 1 1 (.t 5) (.t 6)⟩,
    ⟨some 2, none, .mov (.t 7)⟩] [2])
   (.ret))),
  [.t 2], 8, 1⟩
def A55 : Ann := ⟨[(0, [0]), (1, [0, 4]), (2, [2]), (3, [2])], []⟩
set_option maxRecDepth 100000 in
theorem F55.ok : compF Try.prog A55 Try.f55 = some F55 := by kernel_rfl
theorem F55.fok : FOk Try.prog 55 F55 := fok_of mixed Try.func55 F55.ok

/-- cloakroom/asm.Put$1 -/
def F93 : SFn := ⟨.seq (.region [⟨some 4, none, .mov (.c (.slice none 0 0))⟩] [0, 1])
   (.seq (.region [⟨some 5, none, .mov (.t 0)⟩,
    ⟨some 6, none, .mov (.t 1)⟩,
    ⟨some 7, none, .bslice 1 1 [.int .u32 0] [(0, 1, .t 6)]⟩,
    ⟨some 8, none, .call 94 [.t 5, .t 7]⟩,
    ⟨some 4, none, .mov (.t 8)⟩] [4])
   (.ret)),
  [.t 4], 9, 2⟩
def A93 : Ann := ⟨[(0, [0, 1]), (1, [4])], []⟩
set_option maxRecDepth 100000 in
theorem F93.ok : compF Try.prog A93 Try.f93 = some F93 := by kernel_rfl
theorem F93.fok : FOk Try.prog 93 F93 := fok_of mixed Try.func93 F93.ok

/-- cloakroom/asm.numbers -/
def F94 : SFn := ⟨.seq (.region [⟨some 4, none, .mov (.c (.slice none 0 0))⟩] [0, 1])
   (.seq (.seq (.region [⟨some 7, none, .mov (.t 1)⟩,
    ⟨some 8, none, .lenV (.t 7)⟩,
    ⟨some 9, none, .mov (.c (.int .i64 0))⟩] [0, 7, 8, 9])
   (.block 0 (.loop (.seq (.region [⟨some 10, none, .bin .lss (.t 9) (.t 8)⟩] [0, 7, 8, 9, 10])
   (.seq (.cond (.t 10) (.skip) (.exit 0))
   (.seq (.block 1 (.seq (.region [⟨some 11, none, .iaV 1 (.t 7) (.t 9)⟩,
    ⟨some 12, none, .ld 1 false (.t 11)⟩,
    ⟨some 6, none, .mov (.t 12)⟩] [0, 6, 7, 8, 9])
   (.region [⟨some 13, none, .mov (.t 0)⟩,
    ⟨some 14, none, .mov (.t 6)⟩,
    ⟨some 15, none, .conv .u64 (.t 14)⟩,
    ⟨some 16, none, .call 128 [.t 13, .t 15]⟩,
    ⟨some 0, none, .mov (.t 16)⟩] [0, 7, 8, 9])))
   (.region [⟨some 17, none, .bin .add (.t 9) (.c (.int .i64 1))⟩,
    ⟨some 9, none, .mov (.t 17)⟩] [0, 7, 8, 9])))))))
   (.seq (.region [⟨some 18, none, .mov (.t 0)⟩,
    ⟨some 4, none, .mov (.t 18)⟩] [4])
   (.ret))),
  [.t 4], 19, 2⟩
def A94 : Ann := ⟨[(0, [0, 1]), (1, [0, 7, 8, 9]), (2, [0, 7, 8, 9, 10]), (3, [0, 6, 7, 8, 9]), (4, [0, 7, 8, 9]), (5, [0, 7, 8, 9]), (6, [4])], []⟩
set_option maxRecDepth 100000 in
theorem F94.ok : compF Try.prog A94 Try.f94 = some F94 := by kernel_rfl
theorem F94.fok : FOk Try.prog 94 F94 := fok_of mixed Try.func94 F94.ok

/-- (*cloakroom/asm.writer).section -/
def F95 : SFn := ⟨.seq (.region [⟨some 8, none, .mov (.t 2)⟩] [0, 1, 3, 8])
   (.cond (.t 8) (.region [⟨some 9, none, .mov (.t 0)⟩,
    ⟨some 10, none, .mov (.t 0)⟩,
    ⟨some 11, none, .nilc (.t 10)⟩,
    ⟨some 12, none, .fa 0 (.t 11)⟩,
    ⟨some 13, none, .ld 1 false (.t 12)⟩,
    ⟨some 14, none, .mov (.t 1)⟩,
    ⟨some 15, none, .bslice 1 1 [.int .u8 0] [(0, 1, .t 14)]⟩,
    ⟨some 16, none, .app 1 1 (.t 13) (.t 15)⟩,
    ⟨some 17, none, .mov (.t 3)⟩,
    ⟨some 18, none, .call 107 [.t 16, .t 17]⟩,
    ⟨some 19, none, .nilc (.t 9)⟩,
    ⟨some 20, none, .fa 0 (.t 19)⟩,
    ⟨none, none, .st 1 (.t 20) (.t 18)⟩] []) (.skip)),
  [], 21, 4⟩
def A95 : Ann := ⟨[(0, [0, 1, 3, 8]), (1, [])], []⟩
set_option maxRecDepth 100000 in
theorem F95.ok : compF Try.prog A95 Try.f95 = some F95 := by kernel_rfl
theorem F95.fok : FOk Try.prog 95 F95 := fok_of mixed Try.func95 F95.ok

/-- cloakroom/asm.list[cloakroom/api.FuncType] -/
def F96 : SFn := ⟨.seq (.region [⟨some 4, none, .mov (.c (.slice none 0 0))⟩] [0, 1])
   (.seq (.region [⟨some 8, none, .mov (.t 0)⟩,
    ⟨some 9, none, .lenV (.t 8)⟩,
    ⟨some 10, none, .conv .u32 (.t 9)⟩,
    ⟨some 11, none, .bslice 1 1 [.int .u32 0] [(0, 1, .t 10)]⟩,
    ⟨some 12, none, .call 94 [.c (.slice none 0 0), .t 11]⟩,
    ⟨some 5, none, .mov (.t 12)⟩] [0, 1, 5])
   (.seq (.seq (.region [⟨some 13, none, .mov (.t 0)⟩,
    ⟨some 14, none, .lenV (.t 13)⟩,
    ⟨some 15, none, .mov (.c (.int .i64 0))⟩] [1, 5, 13, 14, 15])
   (.block 0 (.loop (.seq (.region [⟨some 16, none, .bin .lss (.t 15) (.t 14)⟩] [1, 5, 13, 14, 15, 16])
   (.seq (.cond (.t 16) (.skip) (.exit 0))
   (.seq (.block 1 (.seq (.region [⟨some 17, none, .iaV 2 (.t 13) (.t 15)⟩,
    ⟨some 18, none, .ld 2 true (.t 17)⟩,
    ⟨some 7, none, .new [.slice none 0 0, .slice none 0 0]⟩,
    ⟨none, none, .st 2 (.t 7) (.t 18)⟩] [1, 5, 7, 13, 14, 15])
   (.region [⟨some 19, none, .mov (.t 1)⟩,
    ⟨some 20, none, .mov (.t 5)⟩,
    ⟨some 21, none, .ld 2 true (.t 7)⟩,
    ⟨some 22, none, .callv (.t 19) [.t 20, .t 21]⟩,
    ⟨some 5, none, .mov (.t 22)⟩] [1, 5, 13, 14, 15])))
   (.region [⟨some 23, none, .bin .add (.t 15) (.c (.int .i64 1))⟩,
    ⟨some 15, none, .mov (.t 23)⟩] [1, 5, 13, 14, 15])))))))
   (.seq (.region [⟨some 24, none, .mov (.t 5)⟩,
    ⟨some 4, none, .mov (.t 24)⟩] [4])
   (.ret)))),
  [.t 4], 25, 2⟩
def A96 : Ann := ⟨[(0, [0, 1]), (1, [0, 1, 5]), (2, [1, 5, 13, 14, 15]), (3, [1, 5, 13, 14, 15, 16]), (4, [1, 5, 7, 13, 14, 15]), (5, [1, 5, 13, 14, 15]), (6, [1, 5, 13, 14, 15]), (7, [4])], []⟩
set_option maxRecDepth 100000 in
theorem F96.ok : compF Try.prog A96 Try.f96 = some F96 := by kernel_rfl
theorem F96.fok : FOk Try.prog 96 F96 := fok_of mixed Try.func96 F96.ok

/-- cloakroom/types.PutFunc -/
def F97 : SFn := ⟨.seq (.region [⟨some 3, none, .box (.t 1)⟩,
    ⟨some 4, none, .mov (.c (.slice none 0 0))⟩] [0, 3])
   (.seq (.region [⟨some 5, none, .mov (.t 0)⟩,
    ⟨some 7, none, .bslice 1 1 [.int .u8 0] [(0, 1, .c (.int .u8 96))]⟩,
    ⟨some 9, none, .fa 0 (.t 3)⟩,
    ⟨some 10, none, .ld 1 false (.t 9)⟩,
    ⟨some 12, none, .fa 1 (.t 3)⟩,
    ⟨some 13, none, .ld 1 false (.t 12)⟩,
    ⟨some 6, none, .call 55 [.t 5]⟩,
    ⟨none, none, .chk 1 false (.t 9) 10⟩,
    ⟨none, none, .chk 1 false (.t 12) 13⟩,
    ⟨some 8, none, .app 1 1 (.t 6) (.t 7)⟩,
    ⟨none, none, .chk 1 false (.t 9) 10⟩,
    ⟨none, none, .chk 1 false (.t 12) 13⟩,
    ⟨some 11, none, .call 132 [.t 8, .t 10]⟩,
    ⟨none, none, .chk 1 false (.t 12) 13⟩,
    ⟨some 14, none, .call 132 [.t 11, .t 13]⟩,
    ⟨some 4, none, .mov (.t 14)⟩] [4])
   (.ret)),
  [.t 4], 15, 2⟩
def A97 : Ann := ⟨[(0, [0, 3]), (1, [4])], [(1, [(0, []), (2, []), (4, []), (5, []), (7, []), (8, []), (1, [5, 8]), (3, [5, 8]), (6, [8]), (9, []), (10, [])], [(1, [0]), (3, [0, 1, 2]), (5, [4]), (6, [0, 1, 2, 3, 4, 5]), (8, [7]), (9, [0, 1, 2, 3, 4, 5, 6, 7, 8]), (10, [0, 1, 2, 3, 4, 5, 6, 7, 8, 9])])]⟩
set_option maxRecDepth 100000 in
theorem F97.ok : compF Try.prog A97 Try.f97 = some F97 := by kernel_rfl
theorem F97.fok : FOk Try.prog 97 F97 := fok_of mixed Try.func97 F97.ok

/-- cloakroom/asm.list[uint32] -/
def F98 : SFn := ⟨.seq (.region [⟨some 4, none, .mov (.c (.slice none 0 0))⟩] [0, 1])
   (.seq (.region [⟨some 8, none, .mov (.t 0)⟩,
    ⟨some 9, none, .lenV (.t 8)⟩,
    ⟨some 10, none, .conv .u32 (.t 9)⟩,
    ⟨some 11, none, .bslice 1 1 [.int .u32 0] [(0, 1, .t 10)]⟩,
    ⟨some 12, none, .call 94 [.c (.slice none 0 0), .t 11]⟩,
    ⟨some 5, none, .mov (.t 12)⟩] [0, 1, 5])
   (.seq (.seq (.region [⟨some 13, none, .mov (.t 0)⟩,
    ⟨some 14, none, .lenV (.t 13)⟩,
    ⟨some 15, none, .mov (.c (.int .i64 0))⟩] [1, 5, 13, 14, 15])
   (.block 0 (.loop (.seq (.region [⟨some 16, none, .bin .lss (.t 15) (.t 14)⟩] [1, 5, 13, 14, 15, 16])
   (.seq (.cond (.t 16) (.skip) (.exit 0))
   (.seq (.block 1 (.seq (.region [⟨some 17, none, .iaV 1 (.t 13) (.t 15)⟩,
    ⟨some 18, none, .ld 1 false (.t 17)⟩,
    ⟨some 7, none, .mov (.t 18)⟩] [1, 5, 7, 13, 14, 15])
   (.region [⟨some 19, none, .mov (.t 1)⟩,
    ⟨some 20, none, .mov (.t 5)⟩,
    ⟨some 21, none, .mov (.t 7)⟩,
    ⟨some 22, none, .callv (.t 19) [.t 20, .t 21]⟩,
    ⟨some 5, none, .mov (.t 22)⟩] [1, 5, 13, 14, 15])))
   (.region [⟨some 23, none, .bin .add (.t 15) (.c (.int .i64 1))⟩,
    ⟨some 15, none, .mov (.t 23)⟩] [1, 5, 13, 14, 15])))))))
   (.seq (.region [⟨some 24, none, .mov (.t 5)⟩,
    ⟨some 4, none, .mov (.t 24)⟩] [4])
   (.ret)))),
  [.t 4], 25, 2⟩
def A98 : Ann := ⟨[(0, [0, 1]), (1, [0, 1, 5]), (2, [1, 5, 13, 14, 15]), (3, [1, 5, 13, 14, 15, 16]), (4, [1, 5, 7, 13, 14, 15]), (5, [1, 5, 13, 14, 15]), (6, [1, 5, 13, 14, 15]), (7, [4])], []⟩
set_option maxRecDepth 100000 in
theorem F98.ok : compF Try.prog A98 Try.f98 = some F98 := by kernel_rfl
theorem F98.fok : FOk Try.prog 98 F98 := fok_of mixed Try.func98 F98.ok

/-- cloakroom/asm.list[cloakroom/api.Table] -/
def F99 : SFn := ⟨.seq (.region [⟨some 4, none, .mov (.c (.slice none 0 0))⟩] [0, 1])
   (.seq (.region [⟨some 8, none, .mov (.t 0)⟩,
    ⟨some 9, none, .lenV (.t 8)⟩,
    ⟨some 10, none, .conv .u32 (.t 9)⟩,
    ⟨some 11, none, .bslice 1 1 [.int .u32 0] [(0, 1, .t 10)]⟩,
    ⟨some 12, none, .call 94 [.c (.slice none 0 0), .t 11]⟩,
    ⟨some 5, none, .mov (.t 12)⟩] [0, 1, 5])
   (.seq (.seq (.region [⟨some 13, none, .mov (.t 0)⟩,
    ⟨some 14, none, .lenV (.t 13)⟩,
    ⟨some 15, none, .mov (.c (.int .i64 0))⟩] [1, 5, 13, 14, 15])
   (.block 0 (.loop (.seq (.region [⟨some 16, none, .bin .lss (.t 15) (.t 14)⟩] [1, 5, 13, 14, 15, 16])
   (.seq (.cond (.t 16) (.skip) (.exit 0))
   (.seq (.block 1 (.seq (.region [⟨some 17, none, .iaV 4 (.t 13) (.t 15)⟩,
    ⟨some 18, none, .ld 4 true (.t 17)⟩,
    ⟨some 7, none, .new [.int .u8 0, .int .u32 0, .int .u32 0, .bool false]⟩,
    ⟨none, none, .st 4 (.t 7) (.t 18)⟩] [1, 5, 7, 13, 14, 15])
   (.region [⟨some 19, none, .mov (.t 1)⟩,
    ⟨some 20, none, .mov (.t 5)⟩,
    ⟨some 21, none, .ld 4 true (.t 7)⟩,
    ⟨some 22, none, .callv (.t 19) [.t 20, .t 21]⟩,
    ⟨some 5, none, .mov (.t 22)⟩] [1, 5, 13, 14, 15])))
   (.region [⟨some 23, none, .bin .add (.t 15) (.c (.int .i64 1))⟩,
    ⟨some 15, none, .mov (.t 23)⟩] [1, 5, 13, 14, 15])))))))
   (.seq (.region [⟨some 24, none, .mov (.t 5)⟩,
    ⟨some 4, none, .mov (.t 24)⟩] [4])
   (.ret)))),
  [.t 4], 25, 2⟩
def A99 : Ann := ⟨[(0, [0, 1]), (1, [0, 1, 5]), (2, [1, 5, 13, 14, 15]), (3, [1, 5, 13, 14, 15, 16]), (4, [1, 5, 7, 13, 14, 15]), (5, [1, 5, 13, 14, 15]), (6, [1, 5, 13, 14, 15]), (7, [4])], []⟩
set_option maxRecDepth 100000 in
theorem F99.ok : compF Try.prog A99 Try.f99 = some F99 := by kernel_rfl
theorem F99.fok : FOk Try.prog 99 F99 := fok_of mixed Try.func99 F99.ok

/-- cloakroom/asm.Put$2 -/
def F100 : SFn := ⟨.seq (.region [⟨some 3, none, .box (.t 1)⟩,
    ⟨some 4, none, .mov (.c (.slice none 0 0))⟩] [0, 3])
   (.seq (.region [⟨some 5, none, .mov (.t 0)⟩,
    ⟨some 6, none, .fa 0 (.t 3)⟩,
    ⟨some 7, none, .ld 1 false (.t 6)⟩,
    ⟨some 8, none, .bslice 1 1 [.int .u8 0] [(0, 1, .t 7)]⟩,
    ⟨some 10, none, .fa 1 (.t 3)⟩,
    ⟨some 11, none, .ld 3 true (.t 10)⟩,
    ⟨some 9, none, .app 1 1 (.t 5) (.t 8)⟩,
    ⟨none, none, .chk 3 true (.t 10) 11⟩,
    ⟨some 12, none, .call 101 [.t 9, .t 11]⟩,
    ⟨some 4, none, .mov (.t 12)⟩] [4])
   (.ret)),
  [.t 4], 13, 2⟩
def A100 : Ann := ⟨[(0, [0, 3]), (1, [4])], [(1, [(0, []), (1, []), (2, []), (3, []), (5, []), (6, []), (4, [6]), (7, []), (8, [])], [(2, [1]), (3, [1, 2]), (4, [0, 1, 2, 3]), (6, [5]), (7, [0, 1, 2, 3, 4, 5, 6]), (8, [0, 1, 2, 3, 4, 5, 6, 7])])]⟩
set_option maxRecDepth 100000 in
theorem F100.ok : compF Try.prog A100 Try.f100 = some F100 := by kernel_rfl
theorem F100.fok : FOk Try.prog 100 F100 := fok_of mixed Try.func100 F100.ok

/-- cloakroom/types.PutLimits -/
def F101 : SFn := ⟨.seq (.region [⟨some 3, none, .box (.t 1)⟩,
    ⟨some 4, none, .mov (.c (.slice none 0 0))⟩] [0, 3])
   (.seq (.seq (.region [⟨some 5, none, .fa 2 (.t 3)⟩,
    ⟨some 6, none, .ld 1 false (.t 5)⟩] [0, 3, 6])
   (.cond (.t 6) (.seq (.region [⟨some 7, none, .mov (.t 0)⟩,
    ⟨some 9, none, .bslice 1 1 [.int .u8 0] [(0, 1, .c (.int .u8 1))]⟩,
    ⟨some 11, none, .fa 0 (.t 3)⟩,
    ⟨some 12, none, .ld 1 false (.t 11)⟩,
    ⟨some 13, none, .conv .u64 (.t 12)⟩,
    ⟨some 15, none, .fa 1 (.t 3)⟩,
    ⟨some 16, none, .ld 1 false (.t 15)⟩,
    ⟨some 17, none, .conv .u64 (.t 16)⟩,
    ⟨some 8, none, .call 55 [.t 7]⟩,
    ⟨none, none, .chk 1 false (.t 11) 12⟩,
    ⟨none, none, .chk 1 false (.t 15) 16⟩,
    ⟨some 10, none, .app 1 1 (.t 8) (.t 9)⟩,
    ⟨none, none, .chk 1 false (.t 11) 12⟩,
    ⟨none, none, .chk 1 false (.t 15) 16⟩,
    ⟨some 14, none, .call 128 [.t 10, .t 13]⟩,
    ⟨none, none, .chk 1 false (.t 15) 16⟩,
    ⟨some 18, none, .call 128 [.t 14, .t 17]⟩,
    ⟨some 4, none, .mov (.t 18)⟩] [4])
   (.ret)) (.skip)))
   (.seq (.region [⟨some 19, none, .mov (.t 0)⟩,
    ⟨some 21, none, .bslice 1 1 [.int .u8 0] [(0, 1, .c (.int .u8 0))]⟩,
    ⟨some 23, none, .fa 0 (.t 3)⟩,
    ⟨some 24, none, .ld 1 false (.t 23)⟩,
    ⟨some 25, none, .conv .u64 (.t 24)⟩,
    ⟨some 20, none, .call 55 [.t 19]⟩,
    ⟨none, none, .chk 1 false (.t 23) 24⟩,
    ⟨some 22, none, .app 1 1 (.t 20) (.t 21)⟩,
    ⟨none, none, .chk 1 false (.t 23) 24⟩,
    ⟨some 26, none, .call 128 [.t 22, .t 25]⟩,
    ⟨some 4, none, .mov (.t 26)⟩] [4])
   (.ret))),
  [.t 4], 27, 2⟩
def A101 : Ann := ⟨[(0, [0, 3]), (1, [0, 3, 6]), (2, [4]), (3, [4])], [(2, [(0, []), (2, []), (4, []), (5, []), (6, []), (8, []), (9, []), (10, []), (1, [5, 9]), (3, [5, 9]), (7, [9]), (11, []), (12, [])], [(1, [0]), (3, [0, 1, 2]), (5, [4]), (6, [4, 5]), (7, [0, 1, 2, 3, 4, 5, 6]), (9, [8]), (10, [8, 9]), (11, [0, 1, 2, 3, 4, 5, 6, 7, 8, 9, 10]), (12, [0, 1, 2, 3, 4, 5, 6, 7, 8, 9, 10, 11])]),
  (3, [(0, []), (2, []), (4, []), (5, []), (6, []), (1, [5]), (3, [5]), (7, []), (8, [])], [(1, [0]), (3, [0, 1, 2]), (5, [4]), (6, [4, 5]), (7, [0, 1, 2, 3, 4, 5, 6]), (8, [0, 1, 2, 3, 4, 5, 6, 7])])]⟩
set_option maxRecDepth 100000 in
theorem F101.ok : compF Try.prog A101 Try.f101 = some F101 := by kernel_rfl
theorem F101.fok : FOk Try.prog 101 F101 := fok_of mixed Try.func101 F101.ok

/-- cloakroom/asm.list[cloakroom/api.Limits] -/
def F102 : SFn := ⟨.seq (.region [⟨some 4, none, .mov (.c (.slice none 0 0))⟩] [0, 1])
   (.seq (.region [⟨some 8, none, .mov (.t 0)⟩,
    ⟨some 9, none, .lenV (.t 8)⟩,
    ⟨some 10, none, .conv .u32 (.t 9)⟩,
    ⟨some 11, none, .bslice 1 1 [.int .u32 0] [(0, 1, .t 10)]⟩,
    ⟨some 12, none, .call 94 [.c (.slice none 0 0), .t 11]⟩,
    ⟨some 5, none, .mov (.t 12)⟩] [0, 1, 5])
   (.seq (.seq (.region [⟨some 13, none, .mov (.t 0)⟩,
    ⟨some 14, none, .lenV (.t 13)⟩,
    ⟨some 15, none, .mov (.c (.int .i64 0))⟩] [1, 5, 13, 14, 15])
   (.block 0 (.loop (.seq (.region [⟨some 16, none, .bin .lss (.t 15) (.t 14)⟩] [1, 5, 13, 14, 15, 16])
   (.seq (.cond (.t 16) (.skip) (.exit 0))
   (.seq (.block 1 (.seq (.region [⟨some 17, none, .iaV 3 (.t 13) (.t 15)⟩,
    ⟨some 18, none, .ld 3 true (.t 17)⟩,
    ⟨some 7, none, .new [.int .u32 0, .int .u32 0, .bool false]⟩,
    ⟨none, none, .st 3 (.t 7) (.t 18)⟩] [1, 5, 7, 13, 14, 15])
   (.region [⟨some 19, none, .mov (.t 1)⟩,
    ⟨some 20, none, .mov (.t 5)⟩,
    ⟨some 21, none, .ld 3 true (.t 7)⟩,
    ⟨some 22, none, .callv (.t 19) [.t 20, .t 21]⟩,
    ⟨some 5, none, .mov (.t 22)⟩] [1, 5, 13, 14, 15])))
   (.region [⟨some 23, none, .bin .add (.t 15) (.c (.int .i64 1))⟩,
    ⟨some 15, none, .mov (.t 23)⟩] [1, 5, 13, 14, 15])))))))
   (.seq (.region [⟨some 24, none, .mov (.t 5)⟩,
    ⟨some 4, none, .mov (.t 24)⟩] [4])
   (.ret)))),
  [.t 4], 25, 2⟩
def A102 : Ann := ⟨[(0, [0, 1]), (1, [0, 1, 5]), (2, [1, 5, 13, 14, 15]), (3, [1, 5, 13, 14, 15, 16]), (4, [1, 5, 7, 13, 14, 15]), (5, [1, 5, 13, 14, 15]), (6, [1, 5, 13, 14, 15]), (7, [4])], []⟩
set_option maxRecDepth 100000 in
theorem F102.ok : compF Try.prog A102 Try.f102 = some F102 := by kernel_rfl
theorem F102.fok : FOk Try.prog 102 F102 := fok_of mixed Try.func102 F102.ok

/-- cloakroom/asm.list[cloakroom/api.Global] -/
def F103 : SFn := ⟨.seq (.region [⟨some 4, none, .mov (.c (.slice none 0 0))⟩] [0, 1])
   (.seq (.region [⟨some 8, none, .mov (.t 0)⟩,
    ⟨some 9, none, .lenV (.t 8)⟩,
    ⟨some 10, none, .conv .u32 (.t 9)⟩,
    ⟨some 11, none, .bslice 1 1 [.int .u32 0] [(0, 1, .t 10)]⟩,
    ⟨some 12, none, .call 94 [.c (.slice none 0 0), .t 11]⟩,
    ⟨some 5, none, .mov (.t 12)⟩] [0, 1, 5])
   (.seq (.seq (.region [⟨some 13, none, .mov (.t 0)⟩,
    ⟨some 14, none, .lenV (.t 13)⟩,
    ⟨some 15, none, .mov (.c (.int .i64 0))⟩] [1, 5, 13, 14, 15])
   (.block 0 (.loop (.seq (.region [⟨some 16, none, .bin .lss (.t 15) (.t 14)⟩] [1, 5, 13, 14, 15, 16])
   (.seq (.cond (.t 16) (.skip) (.exit 0))
   (.seq (.block 1 (.seq (.region [⟨some 17, none, .iaV 3 (.t 13) (.t 15)⟩,
    ⟨some 18, none, .ld 3 true (.t 17)⟩,
    ⟨some 7, none, .new [.int .u8 0, .bool false, .slice none 0 0]⟩,
    ⟨none, none, .st 3 (.t 7) (.t 18)⟩] [1, 5, 7, 13, 14, 15])
   (.region [⟨some 19, none, .mov (.t 1)⟩,
    ⟨some 20, none, .mov (.t 5)⟩,
    ⟨some 21, none, .ld 3 true (.t 7)⟩,
    ⟨some 22, none, .callv (.t 19) [.t 20, .t 21]⟩,
    ⟨some 5, none, .mov (.t 22)⟩] [1, 5, 13, 14, 15])))
   (.region [⟨some 23, none, .bin .add (.t 15) (.c (.int .i64 1))⟩,
    ⟨some 15, none, .mov (.t 23)⟩] [1, 5, 13, 14, 15])))))))
   (.seq (.region [⟨some 24, none, .mov (.t 5)⟩,
    ⟨some 4, none, .mov (.t 24)⟩] [4])
   (.ret)))),
  [.t 4], 25, 2⟩
def A103 : Ann := ⟨[(0, [0, 1]), (1, [0, 1, 5]), (2, [1, 5, 13, 14, 15]), (3, [1, 5, 13, 14, 15, 16]), (4, [1, 5, 7, 13, 14, 15]), (5, [1, 5, 13, 14, 15]), (6, [1, 5, 13, 14, 15]), (7, [4])], []⟩
set_option maxRecDepth 100000 in
theorem F103.ok : compF Try.prog A103 Try.f103 = some F103 := by kernel_rfl
theorem F103.fok : FOk Try.prog 103 F103 := fok_of mixed Try.func103 F103.ok

/-- cloakroom/asm.global -/
def F104 : SFn := ⟨.seq (.region [⟨some 3, none, .box (.t 1)⟩,
    ⟨some 4, none, .mov (.c (.slice none 0 0))⟩] [0, 3])
   (.seq (.region [⟨some 5, none, .mov (.c (.int .u8 0))⟩] [0, 3, 5])
   (.seq (.seq (.region [⟨some 6, none, .fa 1 (.t 3)⟩,
    ⟨some 7, none, .ld 1 false (.t 6)⟩] [0, 3, 5, 7])
   (.cond (.t 7) (.region [⟨some 5, none, .mov (.c (.int .u8 1))⟩] [0, 3, 5]) (.skip)))
   (.seq (.region [⟨some 8, none, .mov (.t 0)⟩,
    ⟨some 9, none, .fa 0 (.t 3)⟩,
    ⟨some 10, none, .ld 1 false (.t 9)⟩,
    ⟨some 11, none, .mov (.t 5)⟩,
    ⟨some 12, none, .bslice 2 1 [.int .u8 0] [(0, 1, .t 10), (1, 1, .t 11)]⟩,
    ⟨some 14, none, .fa 2 (.t 3)⟩,
    ⟨some 15, none, .ld 1 false (.t 14)⟩,
    ⟨some 13, none, .app 1 1 (.t 8) (.t 12)⟩,
    ⟨none, none, .chk 1 false (.t 14) 15⟩,
    ⟨some 16, none, .call 133 [.t 13, .t 15]⟩,
    ⟨some 4, none, .mov (.t 16)⟩] [4])
   (.ret)))),
  [.t 4], 17, 2⟩
def A104 : Ann := ⟨[(0, [0, 3]), (1, [0, 3, 5]), (2, [0, 3, 5, 7]), (3, [0, 3, 5]), (4, [4])], [(4, [(0, []), (1, []), (2, []), (3, []), (4, []), (6, []), (7, []), (5, [7]), (8, []), (9, [])], [(2, [1]), (4, [1, 2, 3]), (5, [0, 1, 2, 3, 4]), (7, [6]), (8, [0, 1, 2, 3, 4, 5, 6, 7]), (9, [0, 1, 2, 3, 4, 5, 6, 7, 8])])]⟩
set_option maxRecDepth 100000 in
theorem F104.ok : compF Try.prog A104 Try.f104 = some F104 := by kernel_rfl
theorem F104.fok : FOk Try.prog 104 F104 := fok_of mixed Try.func104 F104.ok

/-- cloakroom/asm.list[cloakroom/api.Export] -/
def F105 : SFn := ⟨.seq (.region [⟨some 4, none, .mov (.c (.slice none 0 0))⟩] [0, 1])
   (.seq (.region [⟨some 8, none, .mov (.t 0)⟩,
    ⟨some 9, none, .lenV (.t 8)⟩,
    ⟨some 10, none, .conv .u32 (.t 9)⟩,
    ⟨some 11, none, .bslice 1 1 [.int .u32 0] [(0, 1, .t 10)]⟩,
    ⟨some 12, none, .call 94 [.c (.slice none 0 0), .t 11]⟩,
    ⟨some 5, none, .mov (.t 12)⟩] [0, 1, 5])
   (.seq (.seq (.region [⟨some 13, none, .mov (.t 0)⟩,
    ⟨some 14, none, .lenV (.t 13)⟩,
    ⟨some 15, none, .mov (.c (.int .i64 0))⟩] [1, 5, 13, 14, 15])
   (.block 0 (.loop (.seq (.region [⟨some 16, none, .bin .lss (.t 15) (.t 14)⟩] [1, 5, 13, 14, 15, 16])
   (.seq (.cond (.t 16) (.skip) (.exit 0))
   (.seq (.block 1 (.seq (.region [⟨some 17, none, .iaV 3 (.t 13) (.t 15)⟩,
    ⟨some 18, none, .ld 3 true (.t 17)⟩,
    ⟨some 7, none, .new [.string ByteArray.empty, .int .u8 0, .int .u32 0]⟩,
    ⟨none, none, .st 3 (.t 7) (.t 18)⟩] [1, 5, 7, 13, 14, 15])
   (.region [⟨some 19, none, .mov (.t 1)⟩,
    ⟨some 20, none, .mov (.t 5)⟩,
    ⟨some 21, none, .ld 3 true (.t 7)⟩,
    ⟨some 22, none, .callv (.t 19) [.t 20, .t 21]⟩,
    ⟨some 5, none, .mov (.t 22)⟩] [1, 5, 13, 14, 15])))
   (.region [⟨some 23, none, .bin .add (.t 15) (.c (.int .i64 1))⟩,
    ⟨some 15, none, .mov (.t 23)⟩] [1, 5, 13, 14, 15])))))))
   (.seq (.region [⟨some 24, none, .mov (.t 5)⟩,
    ⟨some 4, none, .mov (.t 24)⟩] [4])
   (.ret)))),
  [.t 4], 25, 2⟩
def A105 : Ann := ⟨[(0, [0, 1]), (1, [0, 1, 5]), (2, [1, 5, 13, 14, 15]), (3, [1, 5, 13, 14, 15, 16]), (4, [1, 5, 7, 13, 14, 15]), (5, [1, 5, 13, 14, 15]), (6, [1, 5, 13, 14, 15]), (7, [4])], []⟩
set_option maxRecDepth 100000 in
theorem F105.ok : compF Try.prog A105 Try.f105 = some F105 := by kernel_rfl
theorem F105.fok : FOk Try.prog 105 F105 := fok_of mixed Try.func105 F105.ok

/-- cloakroom/asm.Put$3 -/
def F106 : SFn := ⟨.seq (.region [⟨some 3, none, .box (.t 1)⟩,
    ⟨some 4, none, .mov (.c (.slice none 0 0))⟩] [0, 3])
   (.seq (.region [⟨some 5, none, .mov (.t 0)⟩,
    ⟨some 6, none, .fa 0 (.t 3)⟩,
    ⟨some 7, none, .ld 1 false (.t 6)⟩,
    ⟨some 8, none, .toBytes (.t 7)⟩,
    ⟨some 10, none, .fa 1 (.t 3)⟩,
    ⟨some 11, none, .ld 1 false (.t 10)⟩,
    ⟨some 12, none, .bslice 1 1 [.int .u8 0] [(0, 1, .t 11)]⟩,
    ⟨some 14, none, .fa 2 (.t 3)⟩,
    ⟨some 15, none, .ld 1 false (.t 14)⟩,
    ⟨some 16, none, .bslice 1 1 [.int .u32 0] [(0, 1, .t 15)]⟩,
    ⟨some 9, none, .call 107 [.t 5, .t 8]⟩,
    ⟨none, none, .chk 1 false (.t 10) 11⟩,
    ⟨none, none, .chk 1 false (.t 14) 15⟩,
    ⟨some 13, none, .app 1 1 (.t 9) (.t 12)⟩,
    ⟨none, none, .chk 1 false (.t 14) 15⟩,
    ⟨some 17, none, .call 94 [.t 13, .t 16]⟩,
    ⟨some 4, none, .mov (.t 17)⟩] [4])
   (.ret)),
  [.t 4], 18, 2⟩
def A106 : Ann := ⟨[(0, [0, 3]), (1, [4])], [(1, [(0, []), (1, []), (2, []), (3, []), (5, []), (6, []), (7, []), (9, []), (10, []), (11, []), (4, [6, 10]), (8, [10]), (12, []), (13, [])], [(2, [1]), (3, [1, 2]), (4, [0, 1, 2, 3]), (6, [5]), (7, [5, 6]), (8, [0, 1, 2, 3, 4, 5, 6, 7]), (10, [9]), (11, [9, 10]), (12, [0, 1, 2, 3, 4, 5, 6, 7, 8, 9, 10, 11]), (13, [0, 1, 2, 3, 4, 5, 6, 7, 8, 9, 10, 11, 12])])]⟩
set_option maxRecDepth 100000 in
theorem F106.ok : compF Try.prog A106 Try.f106 = some F106 := by kernel_rfl
theorem F106.fok : FOk Try.prog 106 F106 := fok_of mixed Try.func106 F106.ok

/-- cloakroom/asm.bytes -/
def F107 : SFn := ⟨.seq (.region [⟨some 4, none, .mov (.c (.slice none 0 0))⟩] [0, 1])
   (.seq (.region [⟨some 5, none, .mov (.t 0)⟩,
    ⟨some 6, none, .mov (.t 1)⟩,
    ⟨some 7, none, .lenV (.t 6)⟩,
    ⟨some 8, none, .conv .u32 (.t 7)⟩,
    ⟨some 9, none, .bslice 1 1 [.int .u32 0] [(0, 1, .t 8)]⟩,
    ⟨some 10, none, .call 94 [.t 5, .t 9]⟩,
    ⟨some 11, none, .mov (.t 1)⟩,
    ⟨some 12, none, .app 1 1 (.t 10) (.t 11)⟩,
    ⟨some 4, none, .mov (.t 12)⟩] [4])
   (.ret)),
  [.t 4], 13, 2⟩
def A107 : Ann := ⟨[(0, [0, 1]), (1, [4])], []⟩
set_option maxRecDepth 100000 in
theorem F107.ok : compF Try.prog A107 Try.f107 = some F107 := by kernel_rfl
theorem F107.fok : FOk Try.prog 107 F107 := fok_of mixed Try.func107 F107.ok

/-- cloakroom/asm.list[cloakroom/api.Elem] -/
def F108 : SFn := ⟨.seq (.region [⟨some 4, none, .mov (.c (.slice none 0 0))⟩] [0, 1])
   (.seq (.region [⟨some 8, none, .mov (.t 0)⟩,
    ⟨some 9, none, .lenV (.t 8)⟩,
    ⟨some 10, none, .conv .u32 (.t 9)⟩,
    ⟨some 11, none, .bslice 1 1 [.int .u32 0] [(0, 1, .t 10)]⟩,
    ⟨some 12, none, .call 94 [.c (.slice none 0 0), .t 11]⟩,
    ⟨some 5, none, .mov (.t 12)⟩] [0, 1, 5])
   (.seq (.seq (.region [⟨some 13, none, .mov (.t 0)⟩,
    ⟨some 14, none, .lenV (.t 13)⟩,
    ⟨some 15, none, .mov (.c (.int .i64 0))⟩] [1, 5, 13, 14, 15])
   (.block 0 (.loop (.seq (.region [⟨some 16, none, .bin .lss (.t 15) (.t 14)⟩] [1, 5, 13, 14, 15, 16])
   (.seq (.cond (.t 16) (.skip) (.exit 0))
   (.seq (.block 1 (.seq (.region [⟨some 17, none, .iaV 5 (.t 13) (.t 15)⟩,
    ⟨some 18, none, .ld 5 true (.t 17)⟩,
    ⟨some 7, none, .new [.int .u8 0, .int .u8 0, .int .u32 0, .slice none 0 0, .slice none 0 0]⟩,
    ⟨none, none, .st 5 (.t 7) (.t 18)⟩] [1, 5, 7, 13, 14, 15])
   (.region [⟨some 19, none, .mov (.t 1)⟩,
    ⟨some 20, none, .mov (.t 5)⟩,
    ⟨some 21, none, .ld 5 true (.t 7)⟩,
    ⟨some 22, none, .callv (.t 19) [.t 20, .t 21]⟩,
    ⟨some 5, none, .mov (.t 22)⟩] [1, 5, 13, 14, 15])))
   (.region [⟨some 23, none, .bin .add (.t 15) (.c (.int .i64 1))⟩,
    ⟨some 15, none, .mov (.t 23)⟩] [1, 5, 13, 14, 15])))))))
   (.seq (.region [⟨some 24, none, .mov (.t 5)⟩,
    ⟨some 4, none, .mov (.t 24)⟩] [4])
   (.ret)))),
  [.t 4], 25, 2⟩
def A108 : Ann := ⟨[(0, [0, 1]), (1, [0, 1, 5]), (2, [1, 5, 13, 14, 15]), (3, [1, 5, 13, 14, 15, 16]), (4, [1, 5, 7, 13, 14, 15]), (5, [1, 5, 13, 14, 15]), (6, [1, 5, 13, 14, 15]), (7, [4])], []⟩
set_option maxRecDepth 100000 in
theorem F108.ok : compF Try.prog A108 Try.f108 = some F108 := by kernel_rfl
theorem F108.fok : FOk Try.prog 108 F108 := fok_of mixed Try.func108 F108.ok

/-- cloakroom/asm.elem -/
def F109 : SFn := ⟨.seq (.region [⟨some 3, none, .box (.t 1)⟩,
    ⟨some 4, none, .mov (.c (.slice none 0 0))⟩] [0, 3])
   (.seq (.block 0 (.seq (.region [⟨some 18, none, .fa 0 (.t 3)⟩,
    ⟨some 19, none, .ld 1 false (.t 18)⟩,
    ⟨some 20, none, .bin .eql (.t 19) (.c (.int .u8 1))⟩,
    ⟨some 17, none, .mov (.t 20)⟩] [0, 3, 17])
   (.cond (.t 17) (.region [⟨some 21, none, .mov (.t 0)⟩,
    ⟨some 22, none, .bslice 1 1 [.int .u32 0] [(0, 1, .c (.int .u32 5))]⟩,
    ⟨some 24, none, .fa 1 (.t 3)⟩,
    ⟨some 25, none, .ld 1 false (.t 24)⟩,
    ⟨some 26, none, .bslice 1 1 [.int .u8 0] [(0, 1, .t 25)]⟩,
    ⟨some 23, none, .call 94 [.t 21, .t 22]⟩,
    ⟨none, none, .chk 1 false (.t 24) 25⟩,
    ⟨some 27, none, .app 1 1 (.t 23) (.t 26)⟩,
    ⟨some 0, none, .mov (.t 27)⟩] [0, 3]) (.seq (.region [⟨some 29, none, .fa 0 (.t 3)⟩,
    ⟨some 30, none, .ld 1 false (.t 29)⟩,
    ⟨some 31, none, .bin .eql (.t 30) (.c (.int .u8 2))⟩,
    ⟨some 28, none, .mov (.t 31)⟩] [0, 3, 28])
   (.cond (.t 28) (.region [⟨some 32, none, .mov (.t 0)⟩,
    ⟨some 33, none, .bslice 1 1 [.int .u32 0] [(0, 1, .c (.int .u32 7))]⟩,
    ⟨some 35, none, .fa 1 (.t 3)⟩,
    ⟨some 36, none, .ld 1 false (.t 35)⟩,
    ⟨some 37, none, .bslice 1 1 [.int .u8 0] [(0, 1, .t 36)]⟩,
    ⟨some 34, none, .call 94 [.t 32, .t 33]⟩,
    ⟨none, none, .chk 1 false (.t 35) 36⟩,
    ⟨some 38, none, .app 1 1 (.t 34) (.t 37)⟩,
    ⟨some 0, none, .mov (.t 38)⟩] [0, 3]) (.seq (.region [⟨some 40, none, .fa 2 (.t 3)⟩,
    ⟨some 41, none, .ld 1 false (.t 40)⟩,
    ⟨some 42, none, .bin .eql (.t 41) (.c (.int .u32 0))⟩,
    ⟨some 43, none, .mov (.t 42)⟩,
    ⟨some 44, some (43, true), .fa 1 (.t 3)⟩,
    ⟨some 45, some (43, true), .ld 1 false (.t 44)⟩,
    ⟨some 46, some (43, true), .bin .eql (.t 45) (.c (.int .u8 112))⟩,
    ⟨some 47, none, .pick (.t 43) (.t 46) (.c (.bool false))⟩,
    ⟨some 39, none, .mov (.t 47)⟩] [0, 3, 39])
   (.cond (.t 39) (.region [⟨some 48, none, .mov (.t 0)⟩,
    ⟨some 49, none, .bslice 1 1 [.int .u32 0] [(0, 1, .c (.int .u32 4))]⟩,
    ⟨some 51, none, .fa 3 (.t 3)⟩,
    ⟨some 52, none, .ld 1 false (.t 51)⟩,
    ⟨some 50, none, .call 94 [.t 48, .t 49]⟩,
    ⟨none, none, .chk 1 false (.t 51) 52⟩,
    ⟨some 53, none, .call 133 [.t 50, .t 52]⟩,
    ⟨some 0, none, .mov (.t 53)⟩] [0, 3]) (.region [⟨some 5, none, .mov (.t 0)⟩,
    ⟨some 6, none, .fa 2 (.t 3)⟩,
    ⟨some 7, none, .ld 1 false (.t 6)⟩,
    ⟨some 8, none, .bslice 2 1 [.int .u32 0] [(0, 1, .c (.int .u32 6)), (1, 1, .t 7)]⟩,
    ⟨some 10, none, .fa 3 (.t 3)⟩,
    ⟨some 11, none, .ld 1 false (.t 10)⟩,
    ⟨some 13, none, .fa 1 (.t 3)⟩,
    ⟨some 14, none, .ld 1 false (.t 13)⟩,
    ⟨some 15, none, .bslice 1 1 [.int .u8 0] [(0, 1, .t 14)]⟩,
    ⟨some 9, none, .call 94 [.t 5, .t 8]⟩,
    ⟨none, none, .chk 1 false (.t 10) 11⟩,
    ⟨none, none, .chk 1 false (.t 13) 14⟩,
    ⟨some 12, none, .call 133 [.t 9, .t 11]⟩,
    ⟨none, none, .chk 1 false (.t 13) 14⟩,
    ⟨some 16, none, .app 1 1 (.t 12) (.t 15)⟩,
    ⟨some 0, none, .mov (.t 16)⟩] [0, 3]))))))))
   (.seq (.region [⟨some 54, none, .mov (.t 0)⟩,
    ⟨some 55, none, .fa 4 (.t 3)⟩,
    ⟨some 56, none, .ld 1 false (.t 55)⟩,
    ⟨some 57, none, .call 134 [.t 56, .c (.func (.func 135) ⟨[]⟩ ⟨[]⟩)]⟩,
    ⟨some 58, none, .app 1 1 (.t 54) (.t 57)⟩,
    ⟨some 4, none, .mov (.t 58)⟩] [4])
   (.ret))),
  [.t 4], 59, 2⟩
def A109 : Ann := ⟨[(0, [0, 3]), (1, [0, 3]), (2, [0, 3, 17]), (3, [0, 3]), (4, [0, 3, 28]), (5, [0, 3]), (6, [0, 3, 39]), (7, [0, 3]), (8, [4])], [(1, [(0, []), (1, []), (2, []), (3, []), (5, []), (6, []), (8, []), (9, []), (10, []), (4, [6, 9]), (7, [9]), (11, []), (12, [])], [(2, [1]), (3, [1, 2]), (4, [0, 1, 2, 3]), (6, [5]), (7, [0, 1, 2, 3, 4, 5, 6]), (9, [8]), (10, [8, 9]), (11, [0, 1, 2, 3, 4, 5, 6, 7, 8, 9, 10]), (12, [0, 1, 2, 3, 4, 5, 6, 7, 8, 9, 10, 11])]),
  (3, [(0, []), (1, []), (3, []), (4, []), (5, []), (2, [4]), (6, []), (7, [])], [(2, [0, 1]), (4, [3]), (5, [3, 4]), (6, [0, 1, 2, 3, 4, 5]), (7, [0, 1, 2, 3, 4, 5, 6])]),
  (5, [(0, []), (1, []), (3, []), (4, []), (5, []), (2, [4]), (6, []), (7, [])], [(2, [0, 1]), (4, [3]), (5, [3, 4]), (6, [0, 1, 2, 3, 4, 5]), (7, [0, 1, 2, 3, 4, 5, 6])]),
  (7, [(0, []), (1, []), (3, []), (4, []), (2, [4]), (5, []), (6, [])], [(2, [0, 1]), (4, [3]), (5, [0, 1, 2, 3, 4]), (6, [0, 1, 2, 3, 4, 5])])]⟩
set_option maxRecDepth 100000 in
theorem F109.ok : compF Try.prog A109 Try.f109 = some F109 := by kernel_rfl
theorem F109.fok : FOk Try.prog 109 F109 := fok_of mixed Try.func109 F109.ok

/-- cloakroom/asm.list[cloakroom/api.Code] -/
def F110 : SFn := ⟨.seq (.region [⟨some 4, none, .mov (.c (.slice none 0 0))⟩] [0, 1])
   (.seq (.region [⟨some 8, none, .mov (.t 0)⟩,
    ⟨some 9, none, .lenV (.t 8)⟩,
    ⟨some 10, none, .conv .u32 (.t 9)⟩,
    ⟨some 11, none, .bslice 1 1 [.int .u32 0] [(0, 1, .t 10)]⟩,
    ⟨some 12, none, .call 94 [.c (.slice none 0 0), .t 11]⟩,
    ⟨some 5, none, .mov (.t 12)⟩] [0, 1, 5])
   (.seq (.seq (.region [⟨some 13, none, .mov (.t 0)⟩,
    ⟨some 14, none, .lenV (.t 13)⟩,
    ⟨some 15, none, .mov (.c (.int .i64 0))⟩] [1, 5, 13, 14, 15])
   (.block 0 (.loop (.seq (.region [⟨some 16, none, .bin .lss (.t 15) (.t 14)⟩] [1, 5, 13, 14, 15, 16])
   (.seq (.cond (.t 16) (.skip) (.exit 0))
   (.seq (.block 1 (.seq (.region [⟨some 17, none, .iaV 2 (.t 13) (.t 15)⟩,
    ⟨some 18, none, .ld 2 true (.t 17)⟩,
    ⟨some 7, none, .new [.slice none 0 0, .slice none 0 0]⟩,
    ⟨none, none, .st 2 (.t 7) (.t 18)⟩] [1, 5, 7, 13, 14, 15])
   (.region [⟨some 19, none, .mov (.t 1)⟩,
    ⟨some 20, none, .mov (.t 5)⟩,
    ⟨some 21, none, .ld 2 true (.t 7)⟩,
    ⟨some 22, none, .callv (.t 19) [.t 20, .t 21]⟩,
    ⟨some 5, none, .mov (.t 22)⟩] [1, 5, 13, 14, 15])))
   (.region [⟨some 23, none, .bin .add (.t 15) (.c (.int .i64 1))⟩,
    ⟨some 15, none, .mov (.t 23)⟩] [1, 5, 13, 14, 15])))))))
   (.seq (.region [⟨some 24, none, .mov (.t 5)⟩,
    ⟨some 4, none, .mov (.t 24)⟩] [4])
   (.ret)))),
  [.t 4], 25, 2⟩
def A110 : Ann := ⟨[(0, [0, 1]), (1, [0, 1, 5]), (2, [1, 5, 13, 14, 15]), (3, [1, 5, 13, 14, 15, 16]), (4, [1, 5, 7, 13, 14, 15]), (5, [1, 5, 13, 14, 15]), (6, [1, 5, 13, 14, 15]), (7, [4])], []⟩
set_option maxRecDepth 100000 in
theorem F110.ok : compF Try.prog A110 Try.f110 = some F110 := by kernel_rfl
theorem F110.fok : FOk Try.prog 110 F110 := fok_of mixed Try.func110 F110.ok

/-- cloakroom/asm.body -/
def F111 : SFn := ⟨.seq (.region [⟨some 3, none, .box (.t 1)⟩,
    ⟨some 4, none, .mov (.c (.slice none 0 0))⟩] [0, 3])
   (.seq (.region [⟨some 6, none, .fa 0 (.t 3)⟩,
    ⟨some 7, none, .ld 1 false (.t 6)⟩,
    ⟨some 8, none, .call 136 [.t 7, .c (.func (.func 137) ⟨[]⟩ ⟨[]⟩)]⟩,
    ⟨some 5, none, .mov (.t 8)⟩] [0, 3, 5])
   (.seq (.region [⟨some 9, none, .mov (.t 0)⟩,
    ⟨some 10, none, .mov (.t 5)⟩,
    ⟨some 11, none, .fa 1 (.t 3)⟩,
    ⟨some 12, none, .ld 1 false (.t 11)⟩,
    ⟨some 13, none, .call 133 [.t 10, .t 12]⟩,
    ⟨some 14, none, .call 107 [.t 9, .t 13]⟩,
    ⟨some 4, none, .mov (.t 14)⟩] [4])
   (.ret))),
  [.t 4], 15, 2⟩
def A111 : Ann := ⟨[(0, [0, 3]), (1, [0, 3, 5]), (2, [4])], []⟩
set_option maxRecDepth 100000 in
theorem F111.ok : compF Try.prog A111 Try.f111 = some F111 := by kernel_rfl
theorem F111.fok : FOk Try.prog 111 F111 := fok_of mixed Try.func111 F111.ok

/-- cloakroom/asm.list[cloakroom/api.Data] -/
def F112 : SFn := ⟨.seq (.region [⟨some 4, none, .mov (.c (.slice none 0 0))⟩] [0, 1])
   (.seq (.region [⟨some 8, none, .mov (.t 0)⟩,
    ⟨some 9, none, .lenV (.t 8)⟩,
    ⟨some 10, none, .conv .u32 (.t 9)⟩,
    ⟨some 11, none, .bslice 1 1 [.int .u32 0] [(0, 1, .t 10)]⟩,
    ⟨some 12, none, .call 94 [.c (.slice none 0 0), .t 11]⟩,
    ⟨some 5, none, .mov (.t 12)⟩] [0, 1, 5])
   (.seq (.seq (.region [⟨some 13, none, .mov (.t 0)⟩,
    ⟨some 14, none, .lenV (.t 13)⟩,
    ⟨some 15, none, .mov (.c (.int .i64 0))⟩] [1, 5, 13, 14, 15])
   (.block 0 (.loop (.seq (.region [⟨some 16, none, .bin .lss (.t 15) (.t 14)⟩] [1, 5, 13, 14, 15, 16])
   (.seq (.cond (.t 16) (.skip) (.exit 0))
   (.seq (.block 1 (.seq (.region [⟨some 17, none, .iaV 3 (.t 13) (.t 15)⟩,
    ⟨some 18, none, .ld 3 true (.t 17)⟩,
    ⟨some 7, none, .new [.int .u8 0, .slice none 0 0, .slice none 0 0]⟩,
    ⟨none, none, .st 3 (.t 7) (.t 18)⟩] [1, 5, 7, 13, 14, 15])
   (.region [⟨some 19, none, .mov (.t 1)⟩,
    ⟨some 20, none, .mov (.t 5)⟩,
    ⟨some 21, none, .ld 3 true (.t 7)⟩,
    ⟨some 22, none, .callv (.t 19) [.t 20, .t 21]⟩,
    ⟨some 5, none, .mov (.t 22)⟩] [1, 5, 13, 14, 15])))
   (.region [⟨some 23, none, .bin .add (.t 15) (.c (.int .i64 1))⟩,
    ⟨some 15, none, .mov (.t 23)⟩] [1, 5, 13, 14, 15])))))))
   (.seq (.region [⟨some 24, none, .mov (.t 5)⟩,
    ⟨some 4, none, .mov (.t 24)⟩] [4])
   (.ret)))),
  [.t 4], 25, 2⟩
def A112 : Ann := ⟨[(0, [0, 1]), (1, [0, 1, 5]), (2, [1, 5, 13, 14, 15]), (3, [1, 5, 13, 14, 15, 16]), (4, [1, 5, 7, 13, 14, 15]), (5, [1, 5, 13, 14, 15]), (6, [1, 5, 13, 14, 15]), (7, [4])], []⟩
set_option maxRecDepth 100000 in
theorem F112.ok : compF Try.prog A112 Try.f112 = some F112 := by kernel_rfl
theorem F112.fok : FOk Try.prog 112 F112 := fok_of mixed Try.func112 F112.ok

/-- cloakroom/asm.data -/
def F113 : SFn := ⟨.seq (.region [⟨some 3, none, .box (.t 1)⟩,
    ⟨some 4, none, .mov (.c (.slice none 0 0))⟩] [0, 3])
   (.seq (.seq (.region [⟨some 5, none, .fa 0 (.t 3)⟩,
    ⟨some 6, none, .ld 1 false (.t 5)⟩,
    ⟨some 7, none, .bin .eql (.t 6) (.c (.int .u8 1))⟩] [0, 3, 7])
   (.cond (.t 7) (.seq (.region [⟨some 8, none, .mov (.t 0)⟩,
    ⟨some 9, none, .bslice 1 1 [.int .u32 0] [(0, 1, .c (.int .u32 1))]⟩,
    ⟨some 11, none, .fa 2 (.t 3)⟩,
    ⟨some 12, none, .ld 1 false (.t 11)⟩,
    ⟨some 10, none, .call 94 [.t 8, .t 9]⟩,
    ⟨none, none, .chk 1 false (.t 11) 12⟩,
    ⟨some 13, none, .call 107 [.t 10, .t 12]⟩,
    ⟨some 4, none, .mov (.t 13)⟩] [4])
   (.ret)) (.skip)))
   (.seq (.region [⟨some 14, none, .mov (.t 0)⟩,
    ⟨some 15, none, .bslice 1 1 [.int .u32 0] [(0, 1, .c (.int .u32 0))]⟩,
    ⟨some 17, none, .fa 1 (.t 3)⟩,
    ⟨some 18, none, .ld 1 false (.t 17)⟩,
    ⟨some 20, none, .fa 2 (.t 3)⟩,
    ⟨some 21, none, .ld 1 false (.t 20)⟩,
    ⟨some 16, none, .call 94 [.t 14, .t 15]⟩,
    ⟨none, none, .chk 1 false (.t 17) 18⟩,
    ⟨none, none, .chk 1 false (.t 20) 21⟩,
    ⟨some 19, none, .call 133 [.t 16, .t 18]⟩,
    ⟨none, none, .chk 1 false (.t 20) 21⟩,
    ⟨some 22, none, .call 107 [.t 19, .t 21]⟩,
    ⟨some 4, none, .mov (.t 22)⟩] [4])
   (.ret))),
  [.t 4], 23, 2⟩
def A113 : Ann := ⟨[(0, [0, 3]), (1, [0, 3, 7]), (2, [4]), (3, [4])], [(2, [(0, []), (1, []), (3, []), (4, []), (2, [4]), (5, []), (6, [])], [(2, [0, 1]), (4, [3]), (5, [0, 1, 2, 3, 4]), (6, [0, 1, 2, 3, 4, 5])]),
  (3, [(0, []), (1, []), (3, []), (4, []), (6, []), (7, []), (2, [4, 7]), (5, [7]), (8, []), (9, [])], [(2, [0, 1]), (4, [3]), (5, [0, 1, 2, 3, 4]), (7, [6]), (8, [0, 1, 2, 3, 4, 5, 6, 7]), (9, [0, 1, 2, 3, 4, 5, 6, 7, 8])])]⟩
set_option maxRecDepth 100000 in
theorem F113.ok : compF Try.prog A113 Try.f113 = some F113 := by kernel_rfl
theorem F113.fok : FOk Try.prog 113 F113 := fok_of mixed Try.func113 F113.ok

/-- cloakroom/leb.PutU -/
def F128 : SFn := ⟨.seq (.region [⟨some 4, none, .mov (.c (.slice none 0 0))⟩] [0, 1])
   (.seq (.region [⟨some 5, none, .mov (.c (.slice none 0 0))⟩] [0, 1, 5])
   (.seq (.block 0 (.loop (.seq (.seq (.region [⟨some 6, none, .mov (.t 1)⟩,
    ⟨some 7, none, .bin .gtr (.t 6) (.c (.int .u64 127))⟩] [0, 1, 5, 7])
   (.cond (.t 7) (.skip) (.exit 0)))
   (.block 1 (.seq (.region [⟨some 8, none, .mov (.t 5)⟩,
    ⟨some 9, none, .mov (.t 1)⟩,
    ⟨some 10, none, .conv .u8 (.t 9)⟩,
    ⟨some 11, none, .bin .or (.t 10) (.c (.int .u8 128))⟩,
    ⟨some 12, none, .bslice 1 1 [.int .u8 0] [(0, 1, .t 11)]⟩,
    ⟨some 13, none, .app 1 1 (.t 8) (.t 12)⟩,
    ⟨some 5, none, .mov (.t 13)⟩] [0, 1, 5])
   (.region [⟨some 14, none, .mov (.t 1)⟩,
    ⟨some 15, none, .bin .shr (.t 14) (.c (.int .u64 7))⟩,
    ⟨some 1, none, .mov (.t 15)⟩] [0, 1, 5]))))))
   (.seq (.region [⟨some 16, none, .mov (.t 0)⟩,
    ⟨some 17, none, .mov (.t 5)⟩,
    ⟨some 18, none, .mov (.t 1)⟩,
    ⟨some 19, none, .conv .u8 (.t 18)⟩,
    ⟨some 20, none, .bslice 1 1 [.int .u8 0] [(0, 1, .t 19)]⟩,
    ⟨some 21, none, .app 1 1 (.t 17) (.t 20)⟩,
    ⟨some 22, none, .call 144 [.t 16, .t 21]⟩,
    ⟨some 4, none, .mov (.t 22)⟩] [4])
   (.ret)))),
  [.t 4], 23, 2⟩
def A128 : Ann := ⟨[(0, [0, 1]), (1, [0, 1, 5]), (2, [0, 1, 5, 7]), (3, [0, 1, 5]), (4, [0, 1, 5]), (5, [4])], []⟩
set_option maxRecDepth 100000 in
theorem F128.ok : compF Try.prog A128 Try.f128 = some F128 := by kernel_rfl
theorem F128.fok : FOk Try.prog 128 F128 := fok_of mixed Try.func128 F128.ok

/-- cloakroom/types.list -/
def F132 : SFn := ⟨.seq (.region [⟨some 4, none, .mov (.c (.slice none 0 0))⟩] [0, 1])
   (.seq (.region [⟨some 5, none, .mov (.t 0)⟩,
    ⟨some 6, none, .mov (.t 1)⟩,
    ⟨some 7, none, .lenV (.t 6)⟩,
    ⟨some 8, none, .conv .u64 (.t 7)⟩,
    ⟨some 9, none, .call 128 [.t 5, .t 8]⟩,
    ⟨some 10, none, .mov (.t 1)⟩,
    ⟨some 11, none, .app 1 1 (.t 9) (.t 10)⟩,
    ⟨some 4, none, .mov (.t 11)⟩] [4])
   (.ret)),
  [.t 4], 12, 2⟩
def A132 : Ann := ⟨[(0, [0, 1]), (1, [4])], []⟩
set_option maxRecDepth 100000 in
theorem F132.ok : compF Try.prog A132 Try.f132 = some F132 := by kernel_rfl
theorem F132.fok : FOk Try.prog 132 F132 := fok_of mixed Try.func132 F132.ok

/-- cloakroom/code.Put -/
def F133 : SFn := ⟨.seq (.region [⟨some 4, none, .mov (.c (.slice none 0 0))⟩] [0, 1])
   (.seq (.region [⟨some 8, none, .mov (.t 0)⟩,
    ⟨some 9, none, .call 55 [.t 8]⟩,
    ⟨some 5, none, .mov (.t 9)⟩] [1, 5])
   (.seq (.seq (.region [⟨some 10, none, .mov (.t 1)⟩,
    ⟨some 11, none, .lenV (.t 10)⟩,
    ⟨some 12, none, .mov (.c (.int .i64 0))⟩] [5, 10, 11, 12])
   (.block 0 (.loop (.seq (.region [⟨some 13, none, .bin .lss (.t 12) (.t 11)⟩] [5, 10, 11, 12, 13])
   (.seq (.cond (.t 13) (.skip) (.exit 0))
   (.seq (.block 1 (.seq (.region [⟨some 14, none, .iaV 6 (.t 10) (.t 12)⟩,
    ⟨some 15, none, .ld 6 true (.t 14)⟩,
    ⟨some 7, none, .new [.int .i64 0, .int .u32 0, .int .u32 0, .int .u64 0, .slice none 0 0, .int .i64 0]⟩,
    ⟨none, none, .st 6 (.t 7) (.t 15)⟩] [5, 7, 10, 11, 12])
   (.region [⟨some 16, none, .mov (.t 5)⟩,
    ⟨some 17, none, .ld 6 true (.t 7)⟩,
    ⟨some 18, none, .call 149 [.t 16, .t 17]⟩,
    ⟨some 5, none, .mov (.t 18)⟩] [5, 10, 11, 12])))
   (.region [⟨some 19, none, .bin .add (.t 12) (.c (.int .i64 1))⟩,
    ⟨some 12, none, .mov (.t 19)⟩] [5, 10, 11, 12])))))))
   (.seq (.region [⟨some 20, none, .mov (.t 5)⟩,
    ⟨some 4, none, .mov (.t 20)⟩] [4])
   (.ret)))),
  [.t 4], 21, 2⟩
def A133 : Ann := ⟨[(0, [0, 1]), (1, [1, 5]), (2, [5, 10, 11, 12]), (3, [5, 10, 11, 12, 13]), (4, [5, 7, 10, 11, 12]), (5, [5, 10, 11, 12]), (6, [5, 10, 11, 12]), (7, [4])], []⟩
set_option maxRecDepth 100000 in
theorem F133.ok : compF Try.prog A133 Try.f133 = some F133 := by kernel_rfl
theorem F133.fok : FOk Try.prog 133 F133 := fok_of mixed Try.func133 F133.ok

/-- cloakroom/asm.list[[]cloakroom/api.Instr] -/
def F134 : SFn := ⟨.seq (.region [⟨some 4, none, .mov (.c (.slice none 0 0))⟩] [0, 1])
   (.seq (.region [⟨some 8, none, .mov (.t 0)⟩,
    ⟨some 9, none, .lenV (.t 8)⟩,
    ⟨some 10, none, .conv .u32 (.t 9)⟩,
    ⟨some 11, none, .bslice 1 1 [.int .u32 0] [(0, 1, .t 10)]⟩,
    ⟨some 12, none, .call 94 [.c (.slice none 0 0), .t 11]⟩,
    ⟨some 5, none, .mov (.t 12)⟩] [0, 1, 5])
   (.seq (.seq (.region [⟨some 13, none, .mov (.t 0)⟩,
    ⟨some 14, none, .lenV (.t 13)⟩,
    ⟨some 15, none, .mov (.c (.int .i64 0))⟩] [1, 5, 13, 14, 15])
   (.block 0 (.loop (.seq (.region [⟨some 16, none, .bin .lss (.t 15) (.t 14)⟩] [1, 5, 13, 14, 15, 16])
   (.seq (.cond (.t 16) (.skip) (.exit 0))
   (.seq (.block 1 (.seq (.region [⟨some 17, none, .iaV 1 (.t 13) (.t 15)⟩,
    ⟨some 18, none, .ld 1 false (.t 17)⟩,
    ⟨some 7, none, .mov (.t 18)⟩] [1, 5, 7, 13, 14, 15])
   (.region [⟨some 19, none, .mov (.t 1)⟩,
    ⟨some 20, none, .mov (.t 5)⟩,
    ⟨some 21, none, .mov (.t 7)⟩,
    ⟨some 22, none, .callv (.t 19) [.t 20, .t 21]⟩,
    ⟨some 5, none, .mov (.t 22)⟩] [1, 5, 13, 14, 15])))
   (.region [⟨some 23, none, .bin .add (.t 15) (.c (.int .i64 1))⟩,
    ⟨some 15, none, .mov (.t 23)⟩] [1, 5, 13, 14, 15])))))))
   (.seq (.region [⟨some 24, none, .mov (.t 5)⟩,
    ⟨some 4, none, .mov (.t 24)⟩] [4])
   (.ret)))),
  [.t 4], 25, 2⟩
def A134 : Ann := ⟨[(0, [0, 1]), (1, [0, 1, 5]), (2, [1, 5, 13, 14, 15]), (3, [1, 5, 13, 14, 15, 16]), (4, [1, 5, 7, 13, 14, 15]), (5, [1, 5, 13, 14, 15]), (6, [1, 5, 13, 14, 15]), (7, [4])], []⟩
set_option maxRecDepth 100000 in
theorem F134.ok : compF Try.prog A134 Try.f134 = some F134 := by kernel_rfl
theorem F134.fok : FOk Try.prog 134 F134 := fok_of mixed Try.func134 F134.ok

/-- cloakroom/asm.expression -/
def F135 : SFn := ⟨.seq (.region [⟨some 4, none, .mov (.c (.slice none 0 0))⟩] [0, 1])
   (.seq (.region [⟨some 5, none, .mov (.t 0)⟩,
    ⟨some 6, none, .mov (.t 1)⟩,
    ⟨some 7, none, .call 133 [.t 5, .t 6]⟩,
    ⟨some 4, none, .mov (.t 7)⟩] [4])
   (.ret)),
  [.t 4], 8, 2⟩
def A135 : Ann := ⟨[(0, [0, 1]), (1, [4])], []⟩
set_option maxRecDepth 100000 in
theorem F135.ok : compF Try.prog A135 Try.f135 = some F135 := by kernel_rfl
theorem F135.fok : FOk Try.prog 135 F135 := fok_of mixed Try.func135 F135.ok

/-- cloakroom/asm.list[byte] -/
def F136 : SFn := ⟨.seq (.region [⟨some 4, none, .mov (.c (.slice none 0 0))⟩] [0, 1])
   (.seq (.region [⟨some 8, none, .mov (.t 0)⟩,
    ⟨some 9, none, .lenV (.t 8)⟩,
    ⟨some 10, none, .conv .u32 (.t 9)⟩,
    ⟨some 11, none, .bslice 1 1 [.int .u32 0] [(0, 1, .t 10)]⟩,
    ⟨some 12, none, .call 94 [.c (.slice none 0 0), .t 11]⟩,
    ⟨some 5, none, .mov (.t 12)⟩] [0, 1, 5])
   (.seq (.seq (.region [⟨some 13, none, .mov (.t 0)⟩,
    ⟨some 14, none, .lenV (.t 13)⟩,
    ⟨some 15, none, .mov (.c (.int .i64 0))⟩] [1, 5, 13, 14, 15])
   (.block 0 (.loop (.seq (.region [⟨some 16, none, .bin .lss (.t 15) (.t 14)⟩] [1, 5, 13, 14, 15, 16])
   (.seq (.cond (.t 16) (.skip) (.exit 0))
   (.seq (.block 1 (.seq (.region [⟨some 17, none, .iaV 1 (.t 13) (.t 15)⟩,
    ⟨some 18, none, .ld 1 false (.t 17)⟩,
    ⟨some 7, none, .mov (.t 18)⟩] [1, 5, 7, 13, 14, 15])
   (.region [⟨some 19, none, .mov (.t 1)⟩,
    ⟨some 20, none, .mov (.t 5)⟩,
    ⟨some 21, none, .mov (.t 7)⟩,
    ⟨some 22, none, .callv (.t 19) [.t 20, .t 21]⟩,
    ⟨some 5, none, .mov (.t 22)⟩] [1, 5, 13, 14, 15])))
   (.region [⟨some 23, none, .bin .add (.t 15) (.c (.int .i64 1))⟩,
    ⟨some 15, none, .mov (.t 23)⟩] [1, 5, 13, 14, 15])))))))
   (.seq (.region [⟨some 24, none, .mov (.t 5)⟩,
    ⟨some 4, none, .mov (.t 24)⟩] [4])
   (.ret)))),
  [.t 4], 25, 2⟩
def A136 : Ann := ⟨[(0, [0, 1]), (1, [0, 1, 5]), (2, [1, 5, 13, 14, 15]), (3, [1, 5, 13, 14, 15, 16]), (4, [1, 5, 7, 13, 14, 15]), (5, [1, 5, 13, 14, 15]), (6, [1, 5, 13, 14, 15]), (7, [4])], []⟩
set_option maxRecDepth 100000 in
theorem F136.ok : compF Try.prog A136 Try.f136 = some F136 := by kernel_rfl
theorem F136.fok : FOk Try.prog 136 F136 := fok_of mixed Try.func136 F136.ok

/-- cloakroom/asm.body$1 -/
def F137 : SFn := ⟨.seq (.region [⟨some 4, none, .mov (.c (.slice none 0 0))⟩] [0, 1])
   (.seq (.region [⟨some 5, none, .mov (.t 0)⟩,
    ⟨some 6, none, .bslice 1 1 [.int .u32 0] [(0, 1, .c (.int .u32 1))]⟩,
    ⟨some 7, none, .call 94 [.t 5, .t 6]⟩,
    ⟨some 8, none, .mov (.t 1)⟩,
    ⟨some 9, none, .bslice 1 1 [.int .u8 0] [(0, 1, .t 8)]⟩,
    ⟨some 10, none, .app 1 1 (.t 7) (.t 9)⟩,
    ⟨some 4, none, .mov (.t 10)⟩] [4])
   (.ret)),
  [.t 4], 11, 2⟩
def A137 : Ann := ⟨[(0, [0, 1]), (1, [4])], []⟩
set_option maxRecDepth 100000 in
theorem F137.ok : compF Try.prog A137 Try.f137 = some F137 := by kernel_rfl
theorem F137.fok : FOk Try.prog 137 F137 := fok_of mixed Try.func137 F137.ok

/-- cloakroom/leb.put -/
def F144 : SFn := ⟨.seq (.region [⟨some 4, none, .mov (.c (.slice none 0 0))⟩] [0, 1])
   (.seq (.region [⟨some 5, none, .mov (.t 0)⟩,
    ⟨some 6, none, .call 55 [.t 5]⟩,
    ⟨some 7, none, .mov (.t 1)⟩,
    ⟨some 8, none, .app 1 1 (.t 6) (.t 7)⟩,
    ⟨some 4, none, .mov (.t 8)⟩] [4])
   (.ret)),
  [.t 4], 9, 2⟩
def A144 : Ann := ⟨[(0, [0, 1]), (1, [4])], []⟩
set_option maxRecDepth 100000 in
theorem F144.ok : compF Try.prog A144 Try.f144 = some F144 := by kernel_rfl
theorem F144.fok : FOk Try.prog 144 F144 := fok_of mixed Try.func144 F144.ok

/-- cloakroom/code.one -/
def F149 : SFn := ⟨.seq (.region [⟨some 3, none, .box (.t 1)⟩,
    ⟨some 4, none, .mov (.c (.slice none 0 0))⟩] [0, 3])
   (.seq (.seq (.region [⟨some 7, none, .fa 0 (.t 3)⟩,
    ⟨some 8, none, .ld 1 false (.t 7)⟩,
    ⟨some 9, none, .bin .lss (.t 8) (.c (.int .i64 64512))⟩] [0, 3, 9])
   (.cond (.t 9) (.region [⟨some 10, none, .mov (.t 0)⟩,
    ⟨some 11, none, .fa 0 (.t 3)⟩,
    ⟨some 12, none, .ld 1 false (.t 11)⟩,
    ⟨some 13, none, .conv .u8 (.t 12)⟩,
    ⟨some 14, none, .bslice 1 1 [.int .u8 0] [(0, 1, .t 13)]⟩,
    ⟨some 15, none, .app 1 1 (.t 10) (.t 14)⟩,
    ⟨some 0, none, .mov (.t 15)⟩] [0, 3]) (.region [⟨some 16, none, .mov (.t 0)⟩,
    ⟨some 17, none, .bslice 1 1 [.int .u8 0] [(0, 1, .c (.int .u8 252))]⟩,
    ⟨some 19, none, .fa 0 (.t 3)⟩,
    ⟨some 20, none, .ld 1 false (.t 19)⟩,
    ⟨some 21, none, .bin .sub (.t 20) (.c (.int .i64 64512))⟩,
    ⟨some 22, none, .conv .u64 (.t 21)⟩,
    ⟨some 18, none, .app 1 1 (.t 16) (.t 17)⟩,
    ⟨none, none, .chk 1 false (.t 19) 20⟩,
    ⟨some 23, none, .call 128 [.t 18, .t 22]⟩,
    ⟨some 0, none, .mov (.t 23)⟩] [0, 3])))
   (.seq (.region [⟨some 25, none, .fa 0 (.t 3)⟩,
    ⟨some 26, none, .ld 1 false (.t 25)⟩,
    ⟨some 27, none, .call 154 [.t 26]⟩,
    ⟨some 24, none, .mov (.t 27)⟩,
    ⟨some 28, none, .ext (.t 24) 0⟩,
    ⟨some 29, none, .ext (.t 24) 1⟩,
    ⟨some 5, none, .mov (.t 28)⟩,
    ⟨some 6, none, .mov (.t 29)⟩] [0, 3, 5])
   (.seq (.seq (.region [⟨some 30, none, .mov (.t 5)⟩] [0, 3, 5, 30])
   (.block 0 (.seq (.seq (.region [⟨some 32, none, .bin .eql (.t 30) (.c (.int .i64 1))⟩,
    ⟨some 31, none, .mov (.t 32)⟩] [0, 3, 5, 30, 31])
   (.cond (.t 31) (.skip) (.seq (.region [⟨some 33, none, .bin .eql (.t 30) (.c (.int .i64 2))⟩,
    ⟨some 31, none, .mov (.t 33)⟩] [0, 3, 5, 30, 31])
   (.cond (.t 31) (.skip) (.region [⟨some 34, none, .bin .eql (.t 30) (.c (.int .i64 5))⟩,
    ⟨some 31, none, .mov (.t 34)⟩] [0, 3, 5, 30, 31])))))
   (.cond (.t 31) (.seq (.region [⟨some 35, none, .mov (.t 0)⟩,
    ⟨some 36, none, .ld 6 true (.t 3)⟩,
    ⟨some 37, none, .mov (.t 5)⟩,
    ⟨some 38, none, .call 156 [.t 36, .t 37]⟩,
    ⟨some 39, none, .call 155 [.t 35, .t 38]⟩,
    ⟨some 4, none, .mov (.t 39)⟩] [4])
   (.ret)) (.seq (.region [⟨some 41, none, .bin .eql (.t 30) (.c (.int .i64 3))⟩,
    ⟨some 40, none, .mov (.t 41)⟩] [0, 3, 30, 40])
   (.cond (.t 40) (.seq (.region [⟨some 42, none, .mov (.t 0)⟩,
    ⟨some 43, none, .fa 3 (.t 3)⟩,
    ⟨some 44, none, .ld 1 false (.t 43)⟩,
    ⟨some 45, none, .conv .i32 (.t 44)⟩,
    ⟨some 46, none, .conv .i64 (.t 45)⟩,
    ⟨some 47, none, .call 157 [.t 42, .t 46]⟩,
    ⟨some 4, none, .mov (.t 47)⟩] [4])
   (.ret)) (.seq (.region [⟨some 49, none, .bin .eql (.t 30) (.c (.int .i64 4))⟩,
    ⟨some 48, none, .mov (.t 49)⟩] [0, 3, 30, 48])
   (.cond (.t 48) (.seq (.region [⟨some 50, none, .mov (.t 0)⟩,
    ⟨some 51, none, .fa 3 (.t 3)⟩,
    ⟨some 52, none, .ld 1 false (.t 51)⟩,
    ⟨some 53, none, .conv .i64 (.t 52)⟩,
    ⟨some 54, none, .call 157 [.t 50, .t 53]⟩,
    ⟨some 4, none, .mov (.t 54)⟩] [4])
   (.ret)) (.seq (.region [⟨some 56, none, .bin .eql (.t 30) (.c (.int .i64 6))⟩,
    ⟨some 55, none, .mov (.t 56)⟩] [0, 3, 30, 55])
   (.cond (.t 55) (.seq (.region [⟨some 57, none, .mov (.t 0)⟩,
    ⟨some 58, none, .fa 5 (.t 3)⟩,
    ⟨some 59, none, .ld 1 false (.t 58)⟩,
    ⟨some 60, none, .call 157 [.t 57, .t 59]⟩,
    ⟨some 4, none, .mov (.t 60)⟩] [4])
   (.ret)) (.seq (.region [⟨some 62, none, .bin .eql (.t 30) (.c (.int .i64 7))⟩,
    ⟨some 61, none, .mov (.t 62)⟩] [0, 3, 30, 61])
   (.cond (.t 61) (.seq (.region [⟨some 63, none, .mov (.t 0)⟩,
    ⟨some 64, none, .fa 4 (.t 3)⟩,
    ⟨some 65, none, .ld 1 false (.t 64)⟩,
    ⟨some 66, none, .lenV (.t 65)⟩,
    ⟨some 67, none, .conv .u32 (.t 66)⟩,
    ⟨some 68, none, .bslice 1 1 [.int .u32 0] [(0, 1, .t 67)]⟩,
    ⟨some 70, none, .fa 4 (.t 3)⟩,
    ⟨some 71, none, .ld 1 false (.t 70)⟩,
    ⟨some 73, none, .fa 1 (.t 3)⟩,
    ⟨some 74, none, .ld 1 false (.t 73)⟩,
    ⟨some 75, none, .bslice 1 1 [.int .u32 0] [(0, 1, .t 74)]⟩,
    ⟨some 69, none, .call 155 [.t 63, .t 68]⟩,
    ⟨none, none, .chk 1 false (.t 70) 71⟩,
    ⟨none, none, .chk 1 false (.t 73) 74⟩,
    ⟨some 72, none, .call 155 [.t 69, .t 71]⟩,
    ⟨none, none, .chk 1 false (.t 73) 74⟩,
    ⟨some 76, none, .call 155 [.t 72, .t 75]⟩,
    ⟨some 4, none, .mov (.t 76)⟩] [4])
   (.ret)) (.seq (.region [⟨some 78, none, .bin .eql (.t 30) (.c (.int .i64 8))⟩,
    ⟨some 77, none, .mov (.t 78)⟩] [0, 3, 77])
   (.cond (.t 77) (.seq (.seq (.region [⟨some 79, none, .fa 0 (.t 3)⟩,
    ⟨some 80, none, .ld 1 false (.t 79)⟩,
    ⟨some 81, none, .bin .eql (.t 80) (.c (.int .i64 28))⟩] [0, 3, 81])
   (.cond (.t 81) (.region [⟨some 82, none, .mov (.t 0)⟩,
    ⟨some 83, none, .bslice 1 1 [.int .u8 0] [(0, 1, .c (.int .u8 1))]⟩,
    ⟨some 84, none, .app 1 1 (.t 82) (.t 83)⟩,
    ⟨some 0, none, .mov (.t 84)⟩] [0, 3]) (.skip)))
   (.seq (.region [⟨some 85, none, .mov (.t 0)⟩,
    ⟨some 86, none, .fa 1 (.t 3)⟩,
    ⟨some 87, none, .ld 1 false (.t 86)⟩,
    ⟨some 88, none, .conv .u8 (.t 87)⟩,
    ⟨some 89, none, .bslice 1 1 [.int .u8 0] [(0, 1, .t 88)]⟩,
    ⟨some 90, none, .app 1 1 (.t 85) (.t 89)⟩,
    ⟨some 4, none, .mov (.t 90)⟩] [4])
   (.ret))) (.skip)))))))))))))))
   (.seq (.region [⟨some 91, none, .mov (.t 0)⟩,
    ⟨some 4, none, .mov (.t 91)⟩] [4])
   (.ret))))),
  [.t 4], 92, 2⟩
def A149 : Ann := ⟨[(0, [0, 3]), (1, [0, 3, 9]), (2, [0, 3]), (3, [0, 3]), (4, [0, 3, 5]), (5, [0, 3, 5, 30]), (6, [0, 3, 5, 30, 31]), (7, [0, 3, 5, 30, 31]), (8, [0, 3, 5, 30, 31]), (9, [4]), (10, [0, 3, 30, 40]), (11, [4]), (12, [0, 3, 30, 48]), (13, [4]), (14, [0, 3, 30, 55]), (15, [4]), (16, [0, 3, 30, 61]), (17, [4]), (18, [0, 3, 77]), (19, [0, 3, 81]), (20, [0, 3]), (21, [4]), (22, [4])], [(3, [(0, []), (1, []), (3, []), (4, []), (5, []), (6, []), (2, [4]), (7, []), (8, [])], [(2, [0, 1]), (4, [3]), (5, [3, 4]), (6, [3, 4, 5]), (7, [0, 1, 2, 3, 4, 5, 6]), (8, [0, 1, 2, 3, 4, 5, 6, 7])]),
  (17, [(0, []), (1, []), (2, []), (3, []), (4, []), (5, []), (7, []), (8, []), (10, []), (11, []), (12, []), (6, [8, 11]), (9, [11]), (13, []), (14, [])], [(2, [1]), (3, [1, 2]), (4, [1, 2, 3]), (5, [1, 2, 3, 4]), (6, [0, 1, 2, 3, 4, 5]), (8, [7]), (9, [0, 1, 2, 3, 4, 5, 6, 7, 8]), (11, [10]), (12, [10, 11]), (13, [0, 1, 2, 3, 4, 5, 6, 7, 8, 9, 10, 11, 12]), (14, [0, 1, 2, 3, 4, 5, 6, 7, 8, 9, 10, 11, 12, 13])])]⟩
set_option maxRecDepth 100000 in
theorem F149.ok : compF Try.prog A149 Try.f149 = some F149 := by kernel_rfl
theorem F149.fok : FOk Try.prog 149 F149 := fok_of mixed Try.func149 F149.ok

/-- cloakroom/op.Kind -/
def F154 : SFn := ⟨.seq (.region [⟨some 2, none, .mov (.c (.int .i64 0))⟩,
    ⟨some 3, none, .mov (.c (.int .i64 0))⟩] [0])
   (.seq (.seq (.region [⟨some 4, none, .mov (.t 0)⟩] [0, 4])
   (.block 0 (.seq (.seq (.region [⟨some 6, none, .bin .eql (.t 4) (.c (.int .i64 12))⟩,
    ⟨some 5, none, .mov (.t 6)⟩] [0, 4, 5])
   (.cond (.t 5) (.skip) (.seq (.region [⟨some 7, none, .bin .eql (.t 4) (.c (.int .i64 13))⟩,
    ⟨some 5, none, .mov (.t 7)⟩] [0, 4, 5])
   (.cond (.t 5) (.skip) (.seq (.region [⟨some 8, none, .bin .eql (.t 4) (.c (.int .i64 16))⟩,
    ⟨some 5, none, .mov (.t 8)⟩] [0, 4, 5])
   (.cond (.t 5) (.skip) (.seq (.region [⟨some 9, none, .bin .eql (.t 4) (.c (.int .i64 32))⟩,
    ⟨some 5, none, .mov (.t 9)⟩] [0, 4, 5])
   (.cond (.t 5) (.skip) (.seq (.region [⟨some 10, none, .bin .eql (.t 4) (.c (.int .i64 33))⟩,
    ⟨some 5, none, .mov (.t 10)⟩] [0, 4, 5])
   (.cond (.t 5) (.skip) (.seq (.region [⟨some 11, none, .bin .eql (.t 4) (.c (.int .i64 34))⟩,
    ⟨some 5, none, .mov (.t 11)⟩] [0, 4, 5])
   (.cond (.t 5) (.skip) (.seq (.region [⟨some 12, none, .bin .eql (.t 4) (.c (.int .i64 35))⟩,
    ⟨some 5, none, .mov (.t 12)⟩] [0, 4, 5])
   (.cond (.t 5) (.skip) (.seq (.region [⟨some 13, none, .bin .eql (.t 4) (.c (.int .i64 36))⟩,
    ⟨some 5, none, .mov (.t 13)⟩] [0, 4, 5])
   (.cond (.t 5) (.skip) (.seq (.region [⟨some 14, none, .bin .eql (.t 4) (.c (.int .i64 37))⟩,
    ⟨some 5, none, .mov (.t 14)⟩] [0, 4, 5])
   (.cond (.t 5) (.skip) (.seq (.region [⟨some 15, none, .bin .eql (.t 4) (.c (.int .i64 38))⟩,
    ⟨some 5, none, .mov (.t 15)⟩] [0, 4, 5])
   (.cond (.t 5) (.skip) (.seq (.region [⟨some 16, none, .bin .eql (.t 4) (.c (.int .i64 210))⟩,
    ⟨some 5, none, .mov (.t 16)⟩] [0, 4, 5])
   (.cond (.t 5) (.skip) (.seq (.region [⟨some 17, none, .bin .eql (.t 4) (.c (.int .i64 64521))⟩,
    ⟨some 5, none, .mov (.t 17)⟩] [0, 4, 5])
   (.cond (.t 5) (.skip) (.seq (.region [⟨some 18, none, .bin .eql (.t 4) (.c (.int .i64 64525))⟩,
    ⟨some 5, none, .mov (.t 18)⟩] [0, 4, 5])
   (.cond (.t 5) (.skip) (.seq (.region [⟨some 19, none, .bin .eql (.t 4) (.c (.int .i64 64527))⟩,
    ⟨some 5, none, .mov (.t 19)⟩] [0, 4, 5])
   (.cond (.t 5) (.skip) (.seq (.region [⟨some 20, none, .bin .eql (.t 4) (.c (.int .i64 64528))⟩,
    ⟨some 5, none, .mov (.t 20)⟩] [0, 4, 5])
   (.cond (.t 5) (.skip) (.seq (.region [⟨some 21, none, .bin .eql (.t 4) (.c (.int .i64 64529))⟩,
    ⟨some 5, none, .mov (.t 21)⟩] [0, 4, 5])
   (.cond (.t 5) (.skip) (.seq (.region [⟨some 22, none, .bin .eql (.t 4) (.c (.int .i64 63))⟩,
    ⟨some 5, none, .mov (.t 22)⟩] [0, 4, 5])
   (.cond (.t 5) (.skip) (.seq (.region [⟨some 23, none, .bin .eql (.t 4) (.c (.int .i64 64))⟩,
    ⟨some 5, none, .mov (.t 23)⟩] [0, 4, 5])
   (.cond (.t 5) (.skip) (.region [⟨some 24, none, .bin .eql (.t 4) (.c (.int .i64 64523))⟩,
    ⟨some 5, none, .mov (.t 24)⟩] [0, 4, 5])))))))))))))))))))))))))))))))))))))
   (.cond (.t 5) (.seq (.region [⟨some 2, none, .mov (.c (.int .i64 1))⟩,
    ⟨some 3, none, .mov (.c (.int .i64 0))⟩] [2, 3])
   (.ret)) (.seq (.seq (.region [⟨some 26, none, .bin .eql (.t 4) (.c (.int .i64 17))⟩,
    ⟨some 25, none, .mov (.t 26)⟩] [0, 4, 25])
   (.cond (.t 25) (.skip) (.seq (.region [⟨some 27, none, .bin .eql (.t 4) (.c (.int .i64 64524))⟩,
    ⟨some 25, none, .mov (.t 27)⟩] [0, 4, 25])
   (.cond (.t 25) (.skip) (.seq (.region [⟨some 28, none, .bin .eql (.t 4) (.c (.int .i64 64526))⟩,
    ⟨some 25, none, .mov (.t 28)⟩] [0, 4, 25])
   (.cond (.t 25) (.skip) (.seq (.region [⟨some 29, none, .bin .eql (.t 4) (.c (.int .i64 64520))⟩,
    ⟨some 25, none, .mov (.t 29)⟩] [0, 4, 25])
   (.cond (.t 25) (.skip) (.region [⟨some 30, none, .bin .eql (.t 4) (.c (.int .i64 64522))⟩,
    ⟨some 25, none, .mov (.t 30)⟩] [0, 4, 25])))))))))
   (.cond (.t 25) (.seq (.region [⟨some 2, none, .mov (.c (.int .i64 2))⟩,
    ⟨some 3, none, .mov (.c (.int .i64 0))⟩] [2, 3])
   (.ret)) (.seq (.region [⟨some 32, none, .bin .eql (.t 4) (.c (.int .i64 65))⟩,
    ⟨some 31, none, .mov (.t 32)⟩] [0, 4, 31])
   (.cond (.t 31) (.seq (.region [⟨some 2, none, .mov (.c (.int .i64 3))⟩,
    ⟨some 3, none, .mov (.c (.int .i64 0))⟩] [2, 3])
   (.ret)) (.seq (.region [⟨some 34, none, .bin .eql (.t 4) (.c (.int .i64 66))⟩,
    ⟨some 33, none, .mov (.t 34)⟩] [0, 4, 33])
   (.cond (.t 33) (.seq (.region [⟨some 2, none, .mov (.c (.int .i64 4))⟩,
    ⟨some 3, none, .mov (.c (.int .i64 0))⟩] [2, 3])
   (.ret)) (.seq (.seq (.region [⟨some 36, none, .bin .eql (.t 4) (.c (.int .i64 2))⟩,
    ⟨some 35, none, .mov (.t 36)⟩] [0, 4, 35])
   (.cond (.t 35) (.skip) (.seq (.region [⟨some 37, none, .bin .eql (.t 4) (.c (.int .i64 3))⟩,
    ⟨some 35, none, .mov (.t 37)⟩] [0, 4, 35])
   (.cond (.t 35) (.skip) (.region [⟨some 38, none, .bin .eql (.t 4) (.c (.int .i64 4))⟩,
    ⟨some 35, none, .mov (.t 38)⟩] [0, 4, 35])))))
   (.cond (.t 35) (.seq (.region [⟨some 2, none, .mov (.c (.int .i64 6))⟩,
    ⟨some 3, none, .mov (.c (.int .i64 0))⟩] [2, 3])
   (.ret)) (.seq (.region [⟨some 40, none, .bin .eql (.t 4) (.c (.int .i64 14))⟩,
    ⟨some 39, none, .mov (.t 40)⟩] [0, 4, 39])
   (.cond (.t 39) (.seq (.region [⟨some 2, none, .mov (.c (.int .i64 7))⟩,
    ⟨some 3, none, .mov (.c (.int .i64 0))⟩] [2, 3])
   (.ret)) (.seq (.seq (.region [⟨some 42, none, .bin .eql (.t 4) (.c (.int .i64 28))⟩,
    ⟨some 41, none, .mov (.t 42)⟩] [0, 4, 41])
   (.cond (.t 41) (.skip) (.region [⟨some 43, none, .bin .eql (.t 4) (.c (.int .i64 208))⟩,
    ⟨some 41, none, .mov (.t 43)⟩] [0, 41])))
   (.cond (.t 41) (.seq (.region [⟨some 2, none, .mov (.c (.int .i64 8))⟩,
    ⟨some 3, none, .mov (.c (.int .i64 0))⟩] [2, 3])
   (.ret)) (.skip)))))))))))))))))
   (.seq (.block 1 (.seq (.region [⟨some 45, none, .mov (.t 0)⟩,
    ⟨some 46, none, .call 161 [.t 45]⟩,
    ⟨some 47, none, .bin .gtr (.t 46) (.c (.int .i64 0))⟩,
    ⟨some 44, none, .mov (.t 47)⟩] [0, 44])
   (.cond (.t 44) (.seq (.region [⟨some 2, none, .mov (.c (.int .i64 5))⟩,
    ⟨some 3, none, .mov (.c (.int .i64 0))⟩] [2, 3])
   (.ret)) (.seq (.region [⟨some 49, none, .mov (.t 0)⟩,
    ⟨some 50, none, .bin .geq (.t 49) (.c (.int .i64 0))⟩,
    ⟨some 51, none, .mov (.t 50)⟩,
    ⟨some 52, some (51, true), .mov (.t 0)⟩,
    ⟨some 53, some (51, true), .call 162 [.t 52]⟩,
    ⟨some 54, none, .pick (.t 51) (.t 53) (.c (.bool false))⟩,
    ⟨some 48, none, .mov (.t 54)⟩] [0, 48])
   (.cond (.t 48) (.seq (.region [⟨some 2, none, .mov (.c (.int .i64 0))⟩,
    ⟨some 3, none, .mov (.c (.int .i64 0))⟩] [2, 3])
   (.ret)) (.seq (.region [⟨some 56, none, .mov (.t 0)⟩,
    ⟨some 57, none, .call 163 [.t 56]⟩,
    ⟨some 55, none, .mov (.t 57)⟩] [55])
   (.cond (.t 55) (.seq (.region [⟨some 2, none, .mov (.c (.int .i64 0))⟩,
    ⟨some 3, none, .mov (.c (.int .i64 5))⟩] [2, 3])
   (.ret)) (.skip))))))))
   (.seq (.region [⟨some 2, none, .mov (.c (.int .i64 0))⟩,
    ⟨some 3, none, .mov (.c (.int .i64 2))⟩] [2, 3])
   (.ret)))),
  [.t 2, .t 3], 58, 1⟩
def A154 : Ann := ⟨[(0, [0]), (1, [0, 4]), (2, [0, 4, 5]), (3, [0, 4, 5]), (4, [0, 4, 5]), (5, [0, 4, 5]), (6, [0, 4, 5]), (7, [0, 4, 5]), (8, [0, 4, 5]), (9, [0, 4, 5]), (10, [0, 4, 5]), (11, [0, 4, 5]), (12, [0, 4, 5]), (13, [0, 4, 5]), (14, [0, 4, 5]), (15, [0, 4, 5]), (16, [0, 4, 5]), (17, [0, 4, 5]), (18, [0, 4, 5]), (19, [0, 4, 5]), (20, [0, 4, 5]), (21, [2, 3]), (22, [0, 4, 25]), (23, [0, 4, 25]), (24, [0, 4, 25]), (25, [0, 4, 25]), (26, [0, 4, 25]), (27, [2, 3]), (28, [0, 4, 31]), (29, [2, 3]), (30, [0, 4, 33]), (31, [2, 3]), (32, [0, 4, 35]), (33, [0, 4, 35]), (34, [0, 4, 35]), (35, [2, 3]), (36, [0, 4, 39]), (37, [2, 3]), (38, [0, 4, 41]), (39, [0, 41]), (40, [2, 3]), (41, [0, 44]), (42, [2, 3]), (43, [0, 48]), (44, [2, 3]), (45, [55]), (46, [2, 3]), (47, [2, 3])], []⟩
set_option maxRecDepth 100000 in
theorem F154.ok : compF Try.prog A154 Try.f154 = some F154 := by kernel_rfl
theorem F154.fok : FOk Try.prog 154 F154 := fok_of mixed Try.func154 F154.ok

/-- cloakroom/code.numbers -/
def F155 : SFn := ⟨.seq (.region [⟨some 4, none, .mov (.c (.slice none 0 0))⟩] [0, 1])
   (.seq (.seq (.region [⟨some 7, none, .mov (.t 1)⟩,
    ⟨some 8, none, .lenV (.t 7)⟩,
    ⟨some 9, none, .mov (.c (.int .i64 0))⟩] [0, 7, 8, 9])
   (.block 0 (.loop (.seq (.region [⟨some 10, none, .bin .lss (.t 9) (.t 8)⟩] [0, 7, 8, 9, 10])
   (.seq (.cond (.t 10) (.skip) (.exit 0))
   (.seq (.block 1 (.seq (.region [⟨some 11, none, .iaV 1 (.t 7) (.t 9)⟩,
    ⟨some 12, none, .ld 1 false (.t 11)⟩,
    ⟨some 6, none, .mov (.t 12)⟩] [0, 6, 7, 8, 9])
   (.region [⟨some 13, none, .mov (.t 0)⟩,
    ⟨some 14, none, .mov (.t 6)⟩,
    ⟨some 15, none, .conv .u64 (.t 14)⟩,
    ⟨some 16, none, .call 128 [.t 13, .t 15]⟩,
    ⟨some 0, none, .mov (.t 16)⟩] [0, 7, 8, 9])))
   (.region [⟨some 17, none, .bin .add (.t 9) (.c (.int .i64 1))⟩,
    ⟨some 9, none, .mov (.t 17)⟩] [0, 7, 8, 9])))))))
   (.seq (.region [⟨some 18, none, .mov (.t 0)⟩,
    ⟨some 4, none, .mov (.t 18)⟩] [4])
   (.ret))),
  [.t 4], 19, 2⟩
def A155 : Ann := ⟨[(0, [0, 1]), (1, [0, 7, 8, 9]), (2, [0, 7, 8, 9, 10]), (3, [0, 6, 7, 8, 9]), (4, [0, 7, 8, 9]), (5, [0, 7, 8, 9]), (6, [4])], []⟩
set_option maxRecDepth 100000 in
theorem F155.ok : compF Try.prog A155 Try.f155 = some F155 := by kernel_rfl
theorem F155.fok : FOk Try.prog 155 F155 := fok_of mixed Try.func155 F155.ok

/-- cloakroom/code.names -/
def F156 : SFn := ⟨.seq (.region [⟨some 2, none, .box (.t 0)⟩,
    ⟨some 4, none, .mov (.c (.slice none 0 0))⟩] [1, 2])
   (.seq (.seq (.region [⟨some 5, none, .mov (.t 1)⟩,
    ⟨some 6, none, .bin .eql (.t 5) (.c (.int .i64 1))⟩] [2, 6])
   (.cond (.t 6) (.seq (.region [⟨some 7, none, .fa 1 (.t 2)⟩,
    ⟨some 8, none, .ld 1 false (.t 7)⟩,
    ⟨some 9, none, .bslice 1 1 [.int .u32 0] [(0, 1, .t 8)]⟩,
    ⟨some 4, none, .mov (.t 9)⟩] [4])
   (.ret)) (.skip)))
   (.seq (.region [⟨some 10, none, .fa 1 (.t 2)⟩,
    ⟨some 11, none, .ld 1 false (.t 10)⟩,
    ⟨some 12, none, .fa 2 (.t 2)⟩,
    ⟨some 13, none, .ld 1 false (.t 12)⟩,
    ⟨some 14, none, .bslice 2 1 [.int .u32 0] [(0, 1, .t 11), (1, 1, .t 13)]⟩,
    ⟨some 4, none, .mov (.t 14)⟩] [4])
   (.ret))),
  [.t 4], 15, 2⟩
def A156 : Ann := ⟨[(0, [1, 2]), (1, [2, 6]), (2, [4]), (3, [4])], []⟩
set_option maxRecDepth 100000 in
theorem F156.ok : compF Try.prog A156 Try.f156 = some F156 := by kernel_rfl
theorem F156.fok : FOk Try.prog 156 F156 := fok_of mixed Try.func156 F156.ok

/-- cloakroom/leb.PutS -/
def F157 : SFn := ⟨.seq (.region [⟨some 4, none, .mov (.c (.slice none 0 0))⟩] [0, 1])
   (.seq (.region [⟨some 5, none, .mov (.c (.slice none 0 0))⟩] [0, 1, 5])
   (.seq (.block 0 (.loop (.seq (.seq (.region [⟨some 6, none, .mov (.t 1)⟩,
    ⟨some 7, none, .bin .lss (.t 6) (.c (.int .i64 (-64)))⟩,
    ⟨some 8, none, .mov (.t 7)⟩,
    ⟨some 9, some (8, false), .mov (.t 1)⟩,
    ⟨some 10, some (8, false), .bin .geq (.t 9) (.c (.int .i64 64))⟩,
    ⟨some 11, none, .pick (.t 8) (.c (.bool true)) (.t 10)⟩] [0, 1, 5, 11])
   (.cond (.t 11) (.skip) (.exit 0)))
   (.block 1 (.seq (.region [⟨some 12, none, .mov (.t 5)⟩,
    ⟨some 13, none, .mov (.t 1)⟩,
    ⟨some 14, none, .conv .u8 (.t 13)⟩,
    ⟨some 15, none, .bin .or (.t 14) (.c (.int .u8 128))⟩,
    ⟨some 16, none, .bslice 1 1 [.int .u8 0] [(0, 1, .t 15)]⟩,
    ⟨some 17, none, .app 1 1 (.t 12) (.t 16)⟩,
    ⟨some 5, none, .mov (.t 17)⟩] [0, 1, 5])
   (.region [⟨some 18, none, .mov (.t 1)⟩,
    ⟨some 19, none, .bin .shr (.t 18) (.c (.int .u64 7))⟩,
    ⟨some 1, none, .mov (.t 19)⟩] [0, 1, 5]))))))
   (.seq (.region [⟨some 20, none, .mov (.t 0)⟩,
    ⟨some 21, none, .mov (.t 5)⟩,
    ⟨some 22, none, .mov (.t 1)⟩,
    ⟨some 23, none, .conv .u8 (.t 22)⟩,
    ⟨some 24, none, .bin .and (.t 23) (.c (.int .u8 127))⟩,
    ⟨some 25, none, .bslice 1 1 [.int .u8 0] [(0, 1, .t 24)]⟩,
    ⟨some 26, none, .app 1 1 (.t 21) (.t 25)⟩,
    ⟨some 27, none, .call 144 [.t 20, .t 26]⟩,
    ⟨some 4, none, .mov (.t 27)⟩] [4])
   (.ret)))),
  [.t 4], 28, 2⟩
def A157 : Ann := ⟨[(0, [0, 1]), (1, [0, 1, 5]), (2, [0, 1, 5, 11]), (3, [0, 1, 5]), (4, [0, 1, 5]), (5, [4])], []⟩
set_option maxRecDepth 100000 in
theorem F157.ok : compF Try.prog A157 Try.f157 = some F157 := by kernel_rfl
theorem F157.fok : FOk Try.prog 157 F157 := fok_of mixed Try.func157 F157.ok

/-- cloakroom/op.Width -/
def F161 : SFn := ⟨.seq (.region [⟨some 2, none, .mov (.c (.int .i64 0))⟩] [0])
   (.seq (.seq (.region [⟨some 3, none, .mov (.t 0)⟩] [3])
   (.block 0 (.seq (.seq (.region [⟨some 5, none, .bin .eql (.t 3) (.c (.int .i64 44))⟩,
    ⟨some 4, none, .mov (.t 5)⟩] [3, 4])
   (.cond (.t 4) (.skip) (.seq (.region [⟨some 6, none, .bin .eql (.t 3) (.c (.int .i64 45))⟩,
    ⟨some 4, none, .mov (.t 6)⟩] [3, 4])
   (.cond (.t 4) (.skip) (.seq (.region [⟨some 7, none, .bin .eql (.t 3) (.c (.int .i64 48))⟩,
    ⟨some 4, none, .mov (.t 7)⟩] [3, 4])
   (.cond (.t 4) (.skip) (.seq (.region [⟨some 8, none, .bin .eql (.t 3) (.c (.int .i64 49))⟩,
    ⟨some 4, none, .mov (.t 8)⟩] [3, 4])
   (.cond (.t 4) (.skip) (.seq (.region [⟨some 9, none, .bin .eql (.t 3) (.c (.int .i64 58))⟩,
    ⟨some 4, none, .mov (.t 9)⟩] [3, 4])
   (.cond (.t 4) (.skip) (.region [⟨some 10, none, .bin .eql (.t 3) (.c (.int .i64 60))⟩,
    ⟨some 4, none, .mov (.t 10)⟩] [3, 4])))))))))))
   (.cond (.t 4) (.seq (.region [⟨some 2, none, .mov (.c (.int .i64 1))⟩] [2])
   (.ret)) (.seq (.seq (.region [⟨some 12, none, .bin .eql (.t 3) (.c (.int .i64 46))⟩,
    ⟨some 11, none, .mov (.t 12)⟩] [3, 11])
   (.cond (.t 11) (.skip) (.seq (.region [⟨some 13, none, .bin .eql (.t 3) (.c (.int .i64 47))⟩,
    ⟨some 11, none, .mov (.t 13)⟩] [3, 11])
   (.cond (.t 11) (.skip) (.seq (.region [⟨some 14, none, .bin .eql (.t 3) (.c (.int .i64 50))⟩,
    ⟨some 11, none, .mov (.t 14)⟩] [3, 11])
   (.cond (.t 11) (.skip) (.seq (.region [⟨some 15, none, .bin .eql (.t 3) (.c (.int .i64 51))⟩,
    ⟨some 11, none, .mov (.t 15)⟩] [3, 11])
   (.cond (.t 11) (.skip) (.seq (.region [⟨some 16, none, .bin .eql (.t 3) (.c (.int .i64 59))⟩,
    ⟨some 11, none, .mov (.t 16)⟩] [3, 11])
   (.cond (.t 11) (.skip) (.region [⟨some 17, none, .bin .eql (.t 3) (.c (.int .i64 61))⟩,
    ⟨some 11, none, .mov (.t 17)⟩] [3, 11])))))))))))
   (.cond (.t 11) (.seq (.region [⟨some 2, none, .mov (.c (.int .i64 2))⟩] [2])
   (.ret)) (.seq (.seq (.region [⟨some 19, none, .bin .eql (.t 3) (.c (.int .i64 40))⟩,
    ⟨some 18, none, .mov (.t 19)⟩] [3, 18])
   (.cond (.t 18) (.skip) (.seq (.region [⟨some 20, none, .bin .eql (.t 3) (.c (.int .i64 52))⟩,
    ⟨some 18, none, .mov (.t 20)⟩] [3, 18])
   (.cond (.t 18) (.skip) (.seq (.region [⟨some 21, none, .bin .eql (.t 3) (.c (.int .i64 53))⟩,
    ⟨some 18, none, .mov (.t 21)⟩] [3, 18])
   (.cond (.t 18) (.skip) (.seq (.region [⟨some 22, none, .bin .eql (.t 3) (.c (.int .i64 54))⟩,
    ⟨some 18, none, .mov (.t 22)⟩] [3, 18])
   (.cond (.t 18) (.skip) (.region [⟨some 23, none, .bin .eql (.t 3) (.c (.int .i64 62))⟩,
    ⟨some 18, none, .mov (.t 23)⟩] [3, 18])))))))))
   (.cond (.t 18) (.seq (.region [⟨some 2, none, .mov (.c (.int .i64 4))⟩] [2])
   (.ret)) (.seq (.seq (.region [⟨some 25, none, .bin .eql (.t 3) (.c (.int .i64 41))⟩,
    ⟨some 24, none, .mov (.t 25)⟩] [3, 24])
   (.cond (.t 24) (.skip) (.region [⟨some 26, none, .bin .eql (.t 3) (.c (.int .i64 55))⟩,
    ⟨some 24, none, .mov (.t 26)⟩] [24])))
   (.cond (.t 24) (.seq (.region [⟨some 2, none, .mov (.c (.int .i64 8))⟩] [2])
   (.ret)) (.skip)))))))))))
   (.seq (.region [⟨some 2, none, .mov (.c (.int .i64 0))⟩] [2])
   (.ret))),
  [.t 2], 27, 1⟩
def A161 : Ann := ⟨[(0, [0]), (1, [3]), (2, [3, 4]), (3, [3, 4]), (4, [3, 4]), (5, [3, 4]), (6, [3, 4]), (7, [3, 4]), (8, [2]), (9, [3, 11]), (10, [3, 11]), (11, [3, 11]), (12, [3, 11]), (13, [3, 11]), (14, [3, 11]), (15, [2]), (16, [3, 18]), (17, [3, 18]), (18, [3, 18]), (19, [3, 18]), (20, [3, 18]), (21, [2]), (22, [3, 24]), (23, [24]), (24, [2]), (25, [2])], []⟩
set_option maxRecDepth 100000 in
theorem F161.ok : compF Try.prog A161 Try.f161 = some F161 := by kernel_rfl
theorem F161.fok : FOk Try.prog 161 F161 := fok_of mixed Try.func161 F161.ok

/-- cloakroom/op.none -/
def F162 : SFn := ⟨.seq (.region [⟨some 2, none, .mov (.c (.bool false))⟩] [0])
   (.seq (.block 0 (.seq (.seq (.region [⟨some 4, none, .mov (.t 0)⟩,
    ⟨some 5, none, .bin .leq (.t 4) (.c (.int .i64 1))⟩,
    ⟨some 3, none, .mov (.t 5)⟩] [0, 3])
   (.cond (.t 3) (.skip) (.seq (.region [⟨some 6, none, .mov (.t 0)⟩,
    ⟨some 7, none, .bin .eql (.t 6) (.c (.int .i64 5))⟩,
    ⟨some 3, none, .mov (.t 7)⟩] [0, 3])
   (.cond (.t 3) (.skip) (.seq (.region [⟨some 8, none, .mov (.t 0)⟩,
    ⟨some 9, none, .bin .eql (.t 8) (.c (.int .i64 11))⟩,
    ⟨some 3, none, .mov (.t 9)⟩] [0, 3])
   (.cond (.t 3) (.skip) (.seq (.region [⟨some 10, none, .mov (.t 0)⟩,
    ⟨some 11, none, .bin .eql (.t 10) (.c (.int .i64 15))⟩,
    ⟨some 3, none, .mov (.t 11)⟩] [0, 3])
   (.cond (.t 3) (.skip) (.seq (.region [⟨some 12, none, .mov (.t 0)⟩,
    ⟨some 13, none, .bin .eql (.t 12) (.c (.int .i64 26))⟩,
    ⟨some 3, none, .mov (.t 13)⟩] [0, 3])
   (.cond (.t 3) (.skip) (.seq (.region [⟨some 14, none, .mov (.t 0)⟩,
    ⟨some 15, none, .bin .eql (.t 14) (.c (.int .i64 27))⟩,
    ⟨some 3, none, .mov (.t 15)⟩] [0, 3])
   (.cond (.t 3) (.skip) (.region [⟨some 16, none, .mov (.t 0)⟩,
    ⟨some 17, none, .bin .eql (.t 16) (.c (.int .i64 209))⟩,
    ⟨some 3, none, .mov (.t 17)⟩] [0, 3])))))))))))))
   (.cond (.t 3) (.seq (.region [⟨some 2, none, .mov (.c (.bool true))⟩] [2])
   (.ret)) (.seq (.seq (.region [⟨some 19, none, .mov (.t 0)⟩,
    ⟨some 20, none, .bin .geq (.t 19) (.c (.int .i64 69))⟩,
    ⟨some 21, none, .mov (.t 20)⟩,
    ⟨some 22, some (21, true), .mov (.t 0)⟩,
    ⟨some 23, some (21, true), .bin .leq (.t 22) (.c (.int .i64 90))⟩,
    ⟨some 24, none, .pick (.t 21) (.t 23) (.c (.bool false))⟩,
    ⟨some 18, none, .mov (.t 24)⟩] [0, 18])
   (.cond (.t 18) (.skip) (.seq (.region [⟨some 25, none, .mov (.t 0)⟩,
    ⟨some 26, none, .bin .geq (.t 25) (.c (.int .i64 103))⟩,
    ⟨some 27, none, .mov (.t 26)⟩,
    ⟨some 28, some (27, true), .mov (.t 0)⟩,
    ⟨some 29, some (27, true), .bin .leq (.t 28) (.c (.int .i64 138))⟩,
    ⟨some 30, none, .pick (.t 27) (.t 29) (.c (.bool false))⟩,
    ⟨some 18, none, .mov (.t 30)⟩] [0, 18])
   (.cond (.t 18) (.skip) (.seq (.region [⟨some 31, none, .mov (.t 0)⟩,
    ⟨some 32, none, .bin .eql (.t 31) (.c (.int .i64 167))⟩,
    ⟨some 18, none, .mov (.t 32)⟩] [0, 18])
   (.cond (.t 18) (.skip) (.seq (.region [⟨some 33, none, .mov (.t 0)⟩,
    ⟨some 34, none, .bin .eql (.t 33) (.c (.int .i64 172))⟩,
    ⟨some 18, none, .mov (.t 34)⟩] [0, 18])
   (.cond (.t 18) (.skip) (.seq (.region [⟨some 35, none, .mov (.t 0)⟩,
    ⟨some 36, none, .bin .eql (.t 35) (.c (.int .i64 173))⟩,
    ⟨some 18, none, .mov (.t 36)⟩] [0, 18])
   (.cond (.t 18) (.skip) (.region [⟨some 37, none, .mov (.t 0)⟩,
    ⟨some 38, none, .bin .geq (.t 37) (.c (.int .i64 192))⟩,
    ⟨some 39, none, .mov (.t 38)⟩,
    ⟨some 40, some (39, true), .mov (.t 0)⟩,
    ⟨some 41, some (39, true), .bin .leq (.t 40) (.c (.int .i64 196))⟩,
    ⟨some 42, none, .pick (.t 39) (.t 41) (.c (.bool false))⟩,
    ⟨some 18, none, .mov (.t 42)⟩] [18])))))))))))
   (.cond (.t 18) (.seq (.region [⟨some 2, none, .mov (.c (.bool true))⟩] [2])
   (.ret)) (.skip))))))
   (.seq (.region [⟨some 2, none, .mov (.c (.bool false))⟩] [2])
   (.ret))),
  [.t 2], 43, 1⟩
def A162 : Ann := ⟨[(0, [0]), (1, [0, 3]), (2, [0, 3]), (3, [0, 3]), (4, [0, 3]), (5, [0, 3]), (6, [0, 3]), (7, [0, 3]), (8, [2]), (9, [0, 18]), (10, [0, 18]), (11, [0, 18]), (12, [0, 18]), (13, [0, 18]), (14, [18]), (15, [2]), (16, [2])], []⟩
set_option maxRecDepth 100000 in
theorem F162.ok : compF Try.prog A162 Try.f162 = some F162 := by kernel_rfl
theorem F162.fok : FOk Try.prog 162 F162 := fok_of mixed Try.func162 F162.ok

/-- cloakroom/op.float -/
def F163 : SFn := ⟨.seq (.region [⟨some 2, none, .mov (.c (.bool false))⟩] [0])
   (.seq (.block 0 (.seq (.seq (.region [⟨some 4, none, .mov (.t 0)⟩,
    ⟨some 5, none, .bin .eql (.t 4) (.c (.int .i64 42))⟩,
    ⟨some 3, none, .mov (.t 5)⟩] [0, 3])
   (.cond (.t 3) (.skip) (.seq (.region [⟨some 6, none, .mov (.t 0)⟩,
    ⟨some 7, none, .bin .eql (.t 6) (.c (.int .i64 43))⟩,
    ⟨some 3, none, .mov (.t 7)⟩] [0, 3])
   (.cond (.t 3) (.skip) (.seq (.region [⟨some 8, none, .mov (.t 0)⟩,
    ⟨some 9, none, .bin .eql (.t 8) (.c (.int .i64 56))⟩,
    ⟨some 3, none, .mov (.t 9)⟩] [0, 3])
   (.cond (.t 3) (.skip) (.seq (.region [⟨some 10, none, .mov (.t 0)⟩,
    ⟨some 11, none, .bin .eql (.t 10) (.c (.int .i64 57))⟩,
    ⟨some 3, none, .mov (.t 11)⟩] [0, 3])
   (.cond (.t 3) (.skip) (.seq (.region [⟨some 12, none, .mov (.t 0)⟩,
    ⟨some 13, none, .bin .eql (.t 12) (.c (.int .i64 67))⟩,
    ⟨some 3, none, .mov (.t 13)⟩] [0, 3])
   (.cond (.t 3) (.skip) (.seq (.region [⟨some 14, none, .mov (.t 0)⟩,
    ⟨some 15, none, .bin .eql (.t 14) (.c (.int .i64 68))⟩,
    ⟨some 3, none, .mov (.t 15)⟩] [0, 3])
   (.cond (.t 3) (.skip) (.region [⟨some 16, none, .mov (.t 0)⟩,
    ⟨some 17, none, .bin .eql (.t 16) (.c (.int .i64 253))⟩,
    ⟨some 3, none, .mov (.t 17)⟩] [0, 3])))))))))))))
   (.cond (.t 3) (.seq (.region [⟨some 2, none, .mov (.c (.bool true))⟩] [2])
   (.ret)) (.seq (.seq (.region [⟨some 19, none, .mov (.t 0)⟩,
    ⟨some 20, none, .bin .geq (.t 19) (.c (.int .i64 91))⟩,
    ⟨some 21, none, .mov (.t 20)⟩,
    ⟨some 22, some (21, true), .mov (.t 0)⟩,
    ⟨some 23, some (21, true), .bin .leq (.t 22) (.c (.int .i64 102))⟩,
    ⟨some 24, none, .pick (.t 21) (.t 23) (.c (.bool false))⟩,
    ⟨some 18, none, .mov (.t 24)⟩] [0, 18])
   (.cond (.t 18) (.skip) (.seq (.region [⟨some 25, none, .mov (.t 0)⟩,
    ⟨some 26, none, .bin .geq (.t 25) (.c (.int .i64 139))⟩,
    ⟨some 27, none, .mov (.t 26)⟩,
    ⟨some 28, some (27, true), .mov (.t 0)⟩,
    ⟨some 29, some (27, true), .bin .leq (.t 28) (.c (.int .i64 166))⟩,
    ⟨some 30, none, .pick (.t 27) (.t 29) (.c (.bool false))⟩,
    ⟨some 18, none, .mov (.t 30)⟩] [0, 18])
   (.cond (.t 18) (.skip) (.seq (.region [⟨some 31, none, .mov (.t 0)⟩,
    ⟨some 32, none, .bin .geq (.t 31) (.c (.int .i64 168))⟩,
    ⟨some 33, none, .mov (.t 32)⟩,
    ⟨some 34, some (33, true), .mov (.t 0)⟩,
    ⟨some 35, some (33, true), .bin .leq (.t 34) (.c (.int .i64 171))⟩,
    ⟨some 36, none, .pick (.t 33) (.t 35) (.c (.bool false))⟩,
    ⟨some 18, none, .mov (.t 36)⟩] [0, 18])
   (.cond (.t 18) (.skip) (.region [⟨some 37, none, .mov (.t 0)⟩,
    ⟨some 38, none, .bin .geq (.t 37) (.c (.int .i64 174))⟩,
    ⟨some 39, none, .mov (.t 38)⟩,
    ⟨some 40, some (39, true), .mov (.t 0)⟩,
    ⟨some 41, some (39, true), .bin .leq (.t 40) (.c (.int .i64 191))⟩,
    ⟨some 42, none, .pick (.t 39) (.t 41) (.c (.bool false))⟩,
    ⟨some 18, none, .mov (.t 42)⟩] [0, 18])))))))
   (.cond (.t 18) (.seq (.region [⟨some 2, none, .mov (.c (.bool true))⟩] [2])
   (.ret)) (.skip))))))
   (.seq (.region [⟨some 43, none, .mov (.t 0)⟩,
    ⟨some 44, none, .bin .geq (.t 43) (.c (.int .i64 64512))⟩,
    ⟨some 45, none, .mov (.t 44)⟩,
    ⟨some 46, some (45, true), .mov (.t 0)⟩,
    ⟨some 47, some (45, true), .bin .leq (.t 46) (.c (.int .i64 64519))⟩,
    ⟨some 48, none, .pick (.t 45) (.t 47) (.c (.bool false))⟩,
    ⟨some 49, none, .mov (.t 48)⟩,
    ⟨some 50, some (49, false), .mov (.t 0)⟩,
    ⟨some 51, some (49, false), .bin .geq (.t 50) (.c (.int .i64 64768))⟩,
    ⟨some 52, some (49, false), .mov (.t 51)⟩,
    ⟨some 53, some (52, true), .mov (.t 0)⟩,
    ⟨some 54, some (52, true), .bin .lss (.t 53) (.c (.int .i64 65024))⟩,
    ⟨some 55, some (49, false), .pick (.t 52) (.t 54) (.c (.bool false))⟩,
    ⟨some 56, none, .pick (.t 49) (.c (.bool true)) (.t 55)⟩,
    ⟨some 2, none, .mov (.t 56)⟩] [2])
   (.ret))),
  [.t 2], 57, 1⟩
def A163 : Ann := ⟨[(0, [0]), (1, [0, 3]), (2, [0, 3]), (3, [0, 3]), (4, [0, 3]), (5, [0, 3]), (6, [0, 3]), (7, [0, 3]), (8, [2]), (9, [0, 18]), (10, [0, 18]), (11, [0, 18]), (12, [0, 18]), (13, [2]), (14, [2])], []⟩
set_option maxRecDepth 100000 in
theorem F163.ok : compF Try.prog A163 Try.f163 = some F163 := by kernel_rfl
theorem F163.fok : FOk Try.prog 163 F163 := fok_of mixed Try.func163 F163.ok
end Go.Dx.SYtgfnehiaddemaaa
