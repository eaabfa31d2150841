/- The readings of functions, printed by a program of the prover's own. -/
import Derived.Test.YtgfnehiaddemaaaDx19
import Derived.Test.YtgfnehiaddemaaaChecked
import Derived.Eval
namespace Go.Dx.SYtgfnehiaddemaaa
open Go.Proofs
set_option linter.unusedVariables false
theorem mixed : Try.prog.follows .mixedOrders = true := Try.checked.mixed
/-- cloakroom/cloakroomlaw3.ReqForms -/
def F9 : SFn := ⟨.seq (.region [⟨some 0, none, .mov (.c (.bool false))⟩] [])
   (.seq (.seq (.region [⟨some 7, none, .call 25 []⟩,
    ⟨some 8, none, .un .not (.t 7)⟩] [8])
   (.cond (.t 8) (.seq (.region [⟨some 0, none, .mov (.c (.bool false))⟩] [0])
   (.ret)) (.skip)))
   (.seq (.region [⟨some 1, none, .mov (.c (.string { data := #[0, 0, 0, 0, 0, 0, 0, 9] }))⟩] [1])
   (.seq (.region [⟨some 9, none, .mov (.t 1)⟩,
    ⟨some 10, none, .bin .add (.c (.string { data := #[7] })) (.t 9)⟩,
    ⟨some 11, none, .mov (.t 1)⟩,
    ⟨some 12, none, .bin .add (.c (.string { data := #[5] })) (.t 11)⟩,
    ⟨some 13, none, .mov (.t 1)⟩,
    ⟨some 14, none, .bin .add (.c (.string { data := #[5] })) (.t 13)⟩,
    ⟨some 15, none, .bin .add (.t 14) (.c (.string { data := #[3] }))⟩,
    ⟨some 16, none, .mov (.t 1)⟩,
    ⟨some 17, none, .bin .add (.c (.string { data := #[5] })) (.t 16)⟩,
    ⟨some 18, none, .bin .add (.t 17) (.c (.string { data := #[3, 0] }))⟩,
    ⟨some 19, none, .mov (.t 1)⟩,
    ⟨some 20, none, .bin .add (.c (.string { data := #[3] })) (.t 19)⟩,
    ⟨some 21, none, .bin .add (.t 20) (.c (.string { data := #[2, 97, 98] }))⟩,
    ⟨some 22, none, .mov (.t 1)⟩,
    ⟨some 23, none, .bin .add (.c (.string { data := #[3] })) (.t 22)⟩,
    ⟨some 24, none, .bin .add (.t 23) (.c (.string { data := #[33] }))⟩,
    ⟨some 25, none, .mov (.t 1)⟩,
    ⟨some 26, none, .bin .add (.c (.string { data := #[4] })) (.t 25)⟩,
    ⟨some 27, none, .bin .add (.t 26) (.c (.string { data := #[1, 1, 97, 9] }))⟩,
    ⟨some 28, none, .mov (.t 1)⟩,
    ⟨some 29, none, .bin .add (.c (.string { data := #[4] })) (.t 28)⟩,
    ⟨some 30, none, .bin .add (.t 29) (.c (.string { data := #[1, 1, 97, 1, 5, 0] }))⟩,
    ⟨some 31, none, .mov (.t 1)⟩,
    ⟨some 32, none, .bin .add (.c (.string { data := #[1] })) (.t 31)⟩,
    ⟨some 33, none, .mov (.t 1)⟩,
    ⟨some 34, none, .bin .add (.c (.string { data := #[6] })) (.t 33)⟩,
    ⟨some 35, none, .mov (.t 1)⟩,
    ⟨some 36, none, .bin .add (.t 34) (.t 35)⟩,
    ⟨some 37, none, .mov (.t 1)⟩,
    ⟨some 38, none, .bin .add (.c (.string { data := #[6] })) (.t 37)⟩,
    ⟨some 39, none, .bin .add (.t 38) (.c (.string { data := #[0] }))⟩,
    ⟨some 40, none, .bslice 13 1 [.string ByteArray.empty] [(0, 1, .c (.string { data := #[] })), (1, 1, .c (.string { data := #[0] })), (2, 1, .t 10), (3, 1, .t 12), (4, 1, .t 15), (5, 1, .t 18), (6, 1, .t 21), (7, 1, .t 24), (8, 1, .t 27), (9, 1, .t 30), (10, 1, .t 32), (11, 1, .t 36), (12, 1, .t 39)]⟩,
    ⟨some 2, none, .mov (.t 40)⟩] [2])
   (.seq (.region [⟨some 41, none, .bslice 13 1 [.int .i64 0] [(0, 1, .c (.int .i64 3)), (1, 1, .c (.int .i64 2)), (2, 1, .c (.int .i64 2)), (3, 1, .c (.int .i64 3)), (4, 1, .c (.int .i64 0)), (5, 1, .c (.int .i64 2)), (6, 1, .c (.int .i64 0)), (7, 1, .c (.int .i64 4)), (8, 1, .c (.int .i64 4)), (9, 1, .c (.int .i64 0)), (10, 1, .c (.int .i64 0)), (11, 1, .c (.int .i64 0)), (12, 1, .c (.int .i64 3))]⟩,
    ⟨some 3, none, .mov (.t 41)⟩] [2, 3])
   (.seq (.seq (.region [⟨some 4, none, .mov (.c (.int .i64 0))⟩] [2, 3, 4])
   (.block 0 (.loop (.seq (.seq (.region [⟨some 42, none, .mov (.t 4)⟩,
    ⟨some 43, none, .mov (.t 2)⟩,
    ⟨some 44, none, .lenV (.t 43)⟩,
    ⟨some 45, none, .bin .lss (.t 42) (.t 44)⟩] [2, 3, 4, 45])
   (.cond (.t 45) (.skip) (.exit 0)))
   (.seq (.block 1 (.seq (.region [⟨some 49, none, .mov (.t 2)⟩,
    ⟨some 50, none, .mov (.t 4)⟩,
    ⟨some 51, none, .iaV 1 (.t 49) (.t 50)⟩,
    ⟨some 52, none, .ld 1 false (.t 51)⟩,
    ⟨some 53, none, .toBytes (.t 52)⟩,
    ⟨some 54, none, .call 27 [.t 53]⟩,
    ⟨some 48, none, .mov (.t 54)⟩,
    ⟨some 55, none, .ext (.t 48) 0⟩,
    ⟨some 56, none, .ext (.t 48) 1⟩,
    ⟨some 5, none, .new [.int .i64 0, .int .u64 0, .int .u64 0, .string ByteArray.empty, .slice none 0 0, .slice none 0 0, .int .u64 0, .int .u64 0]⟩,
    ⟨none, none, .st 8 (.t 5) (.t 55)⟩,
    ⟨some 6, none, .mov (.t 56)⟩] [2, 3, 4, 5, 6])
   (.seq (.region [⟨some 57, none, .mov (.t 6)⟩,
    ⟨some 58, none, .mov (.t 3)⟩,
    ⟨some 59, none, .mov (.t 4)⟩,
    ⟨some 60, none, .iaV 1 (.t 58) (.t 59)⟩,
    ⟨some 61, none, .ld 1 false (.t 60)⟩,
    ⟨some 62, none, .bin .neq (.t 57) (.t 61)⟩,
    ⟨some 63, none, .mov (.t 62)⟩,
    ⟨some 64, some (63, false), .mov (.t 6)⟩,
    ⟨some 65, some (63, false), .bin .eql (.t 64) (.c (.int .i64 0))⟩,
    ⟨some 66, some (63, false), .mov (.t 65)⟩,
    ⟨some 67, some (66, true), .fa 1 (.t 5)⟩,
    ⟨some 68, some (66, true), .ld 1 false (.t 67)⟩,
    ⟨some 69, some (66, true), .bin .neq (.t 68) (.c (.int .u64 9))⟩,
    ⟨some 70, some (63, false), .pick (.t 66) (.t 69) (.c (.bool false))⟩,
    ⟨some 71, none, .pick (.t 63) (.c (.bool true)) (.t 70)⟩,
    ⟨some 72, none, .mov (.t 71)⟩,
    ⟨some 73, some (72, false), .mov (.t 6)⟩,
    ⟨some 74, some (72, false), .bin .neq (.t 73) (.c (.int .i64 0))⟩,
    ⟨some 75, some (72, false), .mov (.t 74)⟩,
    ⟨some 76, some (75, true), .fa 0 (.t 5)⟩,
    ⟨some 77, some (75, true), .ld 1 false (.t 76)⟩,
    ⟨some 78, some (75, true), .bin .neq (.t 77) (.c (.int .i64 0))⟩,
    ⟨some 79, some (72, false), .pick (.t 75) (.t 78) (.c (.bool false))⟩,
    ⟨some 80, none, .pick (.t 72) (.c (.bool true)) (.t 79)⟩] [2, 3, 4, 80])
   (.cond (.t 80) (.seq (.region [⟨some 0, none, .mov (.c (.bool false))⟩] [0])
   (.ret)) (.skip)))))
   (.region [⟨some 46, none, .mov (.t 4)⟩,
    ⟨some 47, none, .bin .add (.t 46) (.c (.int .i64 1))⟩,
    ⟨some 4, none, .mov (.t 47)⟩] [2, 3, 4]))))))
   (.seq (.region [⟨some 0, none, .mov (.c (.bool true))⟩] [0])
   (.ret))))))),
  [.t 0], 81, 0⟩
def A9 : Ann := ⟨[(0, []), (1, [8]), (2, [0]), (3, [1]), (4, [2]), (5, [2, 3]), (6, [2, 3, 4]), (7, [2, 3, 4, 45]), (8, [2, 3, 4]), (9, [2, 3, 4, 5, 6]), (10, [2, 3, 4, 80]), (11, [0]), (12, [0])], []⟩
set_option maxRecDepth 100000 in
theorem F9.ok : compF Try.prog A9 Try.f9 = some F9 := by kernel_rfl
theorem F9.fok : FOk Try.prog 9 F9 := fok_of mixed Try.func9 F9.ok

/-- cloakroom/cloakroomlaw3.begun -/
def F25 : SFn := ⟨.seq (.region [⟨some 0, none, .mov (.c (.bool false))⟩] [])
   (.seq (.region [⟨some 7, none, .build [.int .i64 0, .int .u64 0, .int .u64 0, .string ByteArray.empty, .slice none 0 0, .slice none 0 0, .int .u64 0, .int .u64 0] [(0, 1, .c (.int .i64 5)), (1, 1, .c (.int .u64 1)), (2, 1, .c (.int .u64 3))]⟩,
    ⟨some 1, none, .new [.int .i64 0, .int .u64 0, .int .u64 0, .string ByteArray.empty, .slice none 0 0, .slice none 0 0, .int .u64 0, .int .u64 0]⟩,
    ⟨none, none, .st 8 (.t 1) (.t 7)⟩] [1])
   (.seq (.region [⟨some 8, none, .ld 8 true (.t 1)⟩,
    ⟨some 9, none, .call 32 [.t 8]⟩,
    ⟨some 2, none, .mov (.t 9)⟩] [1, 2])
   (.seq (.region [⟨some 11, none, .mov (.t 2)⟩,
    ⟨some 12, none, .call 27 [.t 11]⟩,
    ⟨some 10, none, .mov (.t 12)⟩,
    ⟨some 13, none, .ext (.t 10) 0⟩,
    ⟨some 14, none, .ext (.t 10) 1⟩,
    ⟨some 3, none, .new [.int .i64 0, .int .u64 0, .int .u64 0, .string ByteArray.empty, .slice none 0 0, .slice none 0 0, .int .u64 0, .int .u64 0]⟩,
    ⟨none, none, .st 8 (.t 3) (.t 13)⟩,
    ⟨some 4, none, .mov (.t 14)⟩] [1, 2, 3, 4])
   (.seq (.region [⟨some 16, none, .build [.int .u64 0, .int .i64 0, .int .u64 0, .slice none 0 0] [(0, 1, .c (.int .u64 2)), (2, 1, .c (.int .u64 5))]⟩,
    ⟨some 17, none, .call 37 [.t 16]⟩,
    ⟨some 18, none, .call 38 [.t 17]⟩,
    ⟨some 15, none, .mov (.t 18)⟩,
    ⟨some 19, none, .ext (.t 15) 0⟩,
    ⟨some 20, none, .ext (.t 15) 1⟩,
    ⟨some 5, none, .new [.int .u64 0, .int .i64 0, .int .u64 0, .slice none 0 0]⟩,
    ⟨none, none, .st 4 (.t 5) (.t 19)⟩,
    ⟨some 6, none, .mov (.t 20)⟩] [1, 2, 3, 4, 5, 6])
   (.seq (.region [⟨some 21, none, .mov (.t 2)⟩,
    ⟨some 22, none, .lenV (.t 21)⟩,
    ⟨some 23, none, .bin .eql (.t 22) (.c (.int .i64 10))⟩,
    ⟨some 24, none, .mov (.t 23)⟩,
    ⟨some 25, some (24, true), .mov (.t 4)⟩,
    ⟨some 26, some (24, true), .bin .eql (.t 25) (.c (.int .i64 0))⟩,
    ⟨some 27, none, .pick (.t 24) (.t 26) (.c (.bool false))⟩,
    ⟨some 28, none, .mov (.t 27)⟩,
    ⟨some 29, some (28, true), .fa 2 (.t 3)⟩,
    ⟨some 30, some (28, true), .ld 1 false (.t 29)⟩,
    ⟨some 31, some (28, true), .bin .eql (.t 30) (.c (.int .u64 3))⟩,
    ⟨some 32, none, .pick (.t 28) (.t 31) (.c (.bool false))⟩,
    ⟨some 33, none, .mov (.t 32)⟩,
    ⟨some 34, some (33, true), .mov (.t 6)⟩,
    ⟨some 35, some (33, true), .bin .eql (.t 34) (.c (.int .i64 0))⟩,
    ⟨some 36, none, .pick (.t 33) (.t 35) (.c (.bool false))⟩,
    ⟨some 37, none, .mov (.t 36)⟩,
    ⟨some 38, some (37, true), .fa 2 (.t 5)⟩,
    ⟨some 39, some (37, true), .ld 1 false (.t 38)⟩,
    ⟨some 40, some (37, true), .bin .eql (.t 39) (.c (.int .u64 5))⟩,
    ⟨some 41, none, .pick (.t 37) (.t 40) (.c (.bool false))⟩,
    ⟨some 42, none, .mov (.t 41)⟩,
    ⟨some 43, some (42, true), .ld 8 true (.t 1)⟩,
    ⟨some 44, some (42, true), .ld 8 true (.t 3)⟩,
    ⟨some 45, some (42, true), .call 34 [.t 43, .t 44]⟩,
    ⟨some 46, none, .pick (.t 42) (.t 45) (.c (.bool false))⟩,
    ⟨some 47, none, .mov (.t 46)⟩,
    ⟨some 48, some (47, true), .ld 8 true (.t 1)⟩,
    ⟨some 49, some (47, true), .build [.int .i64 0, .int .u64 0, .int .u64 0, .string ByteArray.empty, .slice none 0 0, .slice none 0 0, .int .u64 0, .int .u64 0] []⟩,
    ⟨some 50, some (47, true), .call 34 [.t 48, .t 49]⟩,
    ⟨some 51, some (47, true), .un .not (.t 50)⟩,
    ⟨some 52, none, .pick (.t 47) (.t 51) (.c (.bool false))⟩,
    ⟨some 0, none, .mov (.t 52)⟩] [0])
   (.ret)))))),
  [.t 0], 53, 0⟩
def A25 : Ann := ⟨[(0, []), (1, [1]), (2, [1, 2]), (3, [1, 2, 3, 4]), (4, [1, 2, 3, 4, 5, 6]), (5, [0])], []⟩
set_option maxRecDepth 100000 in
theorem F25.ok : compF Try.prog A25 Try.f25 = some F25 := by kernel_rfl
theorem F25.fok : FOk Try.prog 25 F25 := fok_of mixed Try.func25 F25.ok

/-- cloakroom/req.Take -/
def F27 : SFn := ⟨.seq (.region [⟨some 2, none, .new [.int .i64 0, .int .u64 0, .int .u64 0, .string ByteArray.empty, .slice none 0 0, .slice none 0 0, .int .u64 0, .int .u64 0]⟩,
    ⟨some 3, none, .mov (.c (.int .i64 0))⟩] [0, 2])
   (.seq (.region [⟨some 6, none, .mov (.t 0)⟩,
    ⟨some 7, none, .build [.slice none 0 0, .int .i64 0] [(0, 1, .t 6)]⟩,
    ⟨some 8, none, .build [.slice none 0 0, .int .i64 0, .int .i64 0, .int .u64 0, .int .u64 0, .string ByteArray.empty, .slice none 0 0, .slice none 0 0, .int .u64 0, .int .u64 0] [(0, 2, .t 7)]⟩,
    ⟨some 9, none, .box (.t 8)⟩,
    ⟨some 4, none, .mov (.t 9)⟩] [2, 4])
   (.seq (.region [⟨some 10, none, .mov (.t 4)⟩,
    ⟨some 11, none, .call 63 [.t 10]⟩] [2, 4])
   (.seq (.seq (.region [⟨some 12, none, .mov (.t 4)⟩,
    ⟨some 13, none, .nilc (.t 12)⟩,
    ⟨some 14, none, .fa 0 (.t 13)⟩,
    ⟨some 15, none, .call 64 [.t 14]⟩,
    ⟨some 5, none, .mov (.t 15)⟩] [2, 4, 5])
   (.seq (.region [⟨some 16, none, .mov (.t 5)⟩,
    ⟨some 17, none, .bin .neq (.t 16) (.c (.int .i64 0))⟩] [2, 4, 5, 17])
   (.cond (.t 17) (.seq (.region [⟨some 18, none, .build [.int .i64 0, .int .u64 0, .int .u64 0, .string ByteArray.empty, .slice none 0 0, .slice none 0 0, .int .u64 0, .int .u64 0] []⟩,
    ⟨some 19, none, .mov (.t 5)⟩,
    ⟨none, none, .st 8 (.t 2) (.t 18)⟩,
    ⟨some 3, none, .mov (.t 19)⟩] [2, 3])
   (.ret)) (.skip))))
   (.seq (.region [⟨some 20, none, .mov (.t 4)⟩,
    ⟨some 21, none, .nilc (.t 20)⟩,
    ⟨some 22, none, .fa 2 (.t 21)⟩,
    ⟨some 23, none, .ld 8 true (.t 22)⟩,
    ⟨none, none, .st 8 (.t 2) (.t 23)⟩,
    ⟨some 3, none, .mov (.c (.int .i64 0))⟩] [2, 3])
   (.ret))))),
  [.c 2 8 true, .t 3], 24, 1⟩
def A27 : Ann := ⟨[(0, [0, 2]), (1, [2, 4]), (2, [2, 4]), (3, [2, 4, 5]), (4, [2, 4, 5, 17]), (5, [2, 3]), (6, [2, 3])], []⟩
set_option maxRecDepth 100000 in
theorem F27.ok : compF Try.prog A27 Try.f27 = some F27 := by kernel_rfl
theorem F27.fok : FOk Try.prog 27 F27 := fok_of mixed Try.func27 F27.ok

/-- cloakroom/req.Put -/
def F32 : SFn := ⟨.seq (.region [⟨some 1, none, .box (.t 0)⟩,
    ⟨some 2, none, .mov (.c (.slice none 0 0))⟩] [1])
   (.seq (.region [⟨some 4, none, .fa 0 (.t 1)⟩,
    ⟨some 5, none, .ld 1 false (.t 4)⟩,
    ⟨some 6, none, .conv .u8 (.t 5)⟩,
    ⟨some 7, none, .bslice 1 1 [.int .u8 0] [(0, 1, .t 6)]⟩,
    ⟨some 8, none, .fa 1 (.t 1)⟩,
    ⟨some 9, none, .ld 1 false (.t 8)⟩,
    ⟨some 10, none, .call 73 [.t 7, .t 9]⟩,
    ⟨some 3, none, .mov (.t 10)⟩] [1, 3])
   (.seq (.seq (.region [⟨some 11, none, .fa 0 (.t 1)⟩,
    ⟨some 12, none, .ld 1 false (.t 11)⟩] [1, 3, 12])
   (.block 0 (.seq (.region [⟨some 14, none, .bin .eql (.t 12) (.c (.int .i64 1))⟩,
    ⟨some 13, none, .mov (.t 14)⟩] [1, 3, 12, 13])
   (.cond (.t 13) (.seq (.region [⟨some 15, none, .mov (.t 3)⟩,
    ⟨some 16, none, .fa 4 (.t 1)⟩,
    ⟨some 17, none, .ld 1 false (.t 16)⟩,
    ⟨some 18, none, .app 1 1 (.t 15) (.t 17)⟩,
    ⟨some 2, none, .mov (.t 18)⟩] [2])
   (.ret)) (.seq (.region [⟨some 20, none, .bin .eql (.t 12) (.c (.int .i64 2))⟩,
    ⟨some 19, none, .mov (.t 20)⟩] [1, 3, 12, 19])
   (.cond (.t 19) (.seq (.region [⟨some 21, none, .mov (.t 3)⟩,
    ⟨some 22, none, .fa 2 (.t 1)⟩,
    ⟨some 23, none, .ld 1 false (.t 22)⟩,
    ⟨some 24, none, .bslice 1 1 [.int .u64 0] [(0, 1, .t 23)]⟩,
    ⟨some 26, none, .fa 3 (.t 1)⟩,
    ⟨some 27, none, .ld 1 false (.t 26)⟩,
    ⟨some 25, none, .call 75 [.t 21, .t 24]⟩,
    ⟨none, none, .chk 1 false (.t 26) 27⟩,
    ⟨some 28, none, .call 74 [.t 25, .t 27]⟩,
    ⟨some 2, none, .mov (.t 28)⟩] [2])
   (.ret)) (.seq (.region [⟨some 30, none, .bin .eql (.t 12) (.c (.int .i64 3))⟩,
    ⟨some 29, none, .mov (.t 30)⟩] [1, 3, 12, 29])
   (.cond (.t 29) (.seq (.region [⟨some 31, none, .mov (.t 3)⟩,
    ⟨some 32, none, .fa 3 (.t 1)⟩,
    ⟨some 33, none, .ld 1 false (.t 32)⟩,
    ⟨some 34, none, .call 74 [.t 31, .t 33]⟩,
    ⟨some 2, none, .mov (.t 34)⟩] [2])
   (.ret)) (.seq (.region [⟨some 36, none, .bin .eql (.t 12) (.c (.int .i64 4))⟩,
    ⟨some 35, none, .mov (.t 36)⟩] [1, 3, 12, 35])
   (.cond (.t 35) (.seq (.region [⟨some 37, none, .mov (.t 3)⟩,
    ⟨some 38, none, .fa 2 (.t 1)⟩,
    ⟨some 39, none, .ld 1 false (.t 38)⟩,
    ⟨some 40, none, .bslice 1 1 [.int .u64 0] [(0, 1, .t 39)]⟩,
    ⟨some 42, none, .fa 3 (.t 1)⟩,
    ⟨some 43, none, .ld 1 false (.t 42)⟩,
    ⟨some 45, none, .fa 5 (.t 1)⟩,
    ⟨some 46, none, .ld 1 false (.t 45)⟩,
    ⟨some 47, none, .lenV (.t 46)⟩,
    ⟨some 48, none, .conv .u64 (.t 47)⟩,
    ⟨some 49, none, .bslice 1 1 [.int .u64 0] [(0, 1, .t 48)]⟩,
    ⟨some 41, none, .call 75 [.t 37, .t 40]⟩,
    ⟨none, none, .chk 1 false (.t 42) 43⟩,
    ⟨none, none, .chk 1 false (.t 45) 46⟩,
    ⟨some 44, none, .call 74 [.t 41, .t 43]⟩,
    ⟨none, none, .chk 1 false (.t 45) 46⟩,
    ⟨some 50, none, .call 75 [.t 44, .t 49]⟩,
    ⟨some 3, none, .mov (.t 50)⟩] [1, 3])
   (.seq (.region [⟨some 51, none, .mov (.t 3)⟩,
    ⟨some 52, none, .fa 5 (.t 1)⟩,
    ⟨some 53, none, .ld 1 false (.t 52)⟩,
    ⟨some 55, none, .fa 6 (.t 1)⟩,
    ⟨some 56, none, .ld 1 false (.t 55)⟩,
    ⟨some 57, none, .bslice 1 1 [.int .u64 0] [(0, 1, .t 56)]⟩,
    ⟨some 54, none, .call 75 [.t 51, .t 53]⟩,
    ⟨none, none, .chk 1 false (.t 55) 56⟩,
    ⟨some 58, none, .call 75 [.t 54, .t 57]⟩,
    ⟨some 2, none, .mov (.t 58)⟩] [2])
   (.ret))) (.seq (.region [⟨some 60, none, .bin .eql (.t 12) (.c (.int .i64 5))⟩,
    ⟨some 59, none, .mov (.t 60)⟩] [1, 3, 12, 59])
   (.cond (.t 59) (.seq (.region [⟨some 61, none, .mov (.t 3)⟩,
    ⟨some 62, none, .fa 2 (.t 1)⟩,
    ⟨some 63, none, .ld 1 false (.t 62)⟩,
    ⟨some 64, none, .bslice 1 1 [.int .u64 0] [(0, 1, .t 63)]⟩,
    ⟨some 65, none, .call 75 [.t 61, .t 64]⟩,
    ⟨some 2, none, .mov (.t 65)⟩] [2])
   (.ret)) (.seq (.region [⟨some 67, none, .bin .eql (.t 12) (.c (.int .i64 6))⟩,
    ⟨some 66, none, .mov (.t 67)⟩] [1, 3, 66])
   (.cond (.t 66) (.seq (.region [⟨some 68, none, .mov (.t 3)⟩,
    ⟨some 69, none, .fa 7 (.t 1)⟩,
    ⟨some 70, none, .ld 1 false (.t 69)⟩,
    ⟨some 71, none, .call 73 [.t 68, .t 70]⟩,
    ⟨some 2, none, .mov (.t 71)⟩] [2])
   (.ret)) (.skip)))))))))))))))
   (.seq (.region [⟨some 72, none, .mov (.t 3)⟩,
    ⟨some 2, none, .mov (.t 72)⟩] [2])
   (.ret)))),
  [.t 2], 73, 1⟩
def A32 : Ann := ⟨[(0, [1]), (1, [1, 3]), (2, [1, 3, 12]), (3, [1, 3, 12, 13]), (4, [2]), (5, [1, 3, 12, 19]), (6, [2]), (7, [1, 3, 12, 29]), (8, [2]), (9, [1, 3, 12, 35]), (10, [1, 3]), (11, [2]), (12, [1, 3, 12, 59]), (13, [2]), (14, [1, 3, 66]), (15, [2]), (16, [2])], [(6, [(0, []), (1, []), (2, []), (3, []), (5, []), (6, []), (4, [6]), (7, []), (8, [])], [(2, [1]), (3, [1, 2]), (4, [0, 1, 2, 3]), (6, [5]), (7, [0, 1, 2, 3, 4, 5, 6]), (8, [0, 1, 2, 3, 4, 5, 6, 7])]),
  (10, [(0, []), (1, []), (2, []), (3, []), (5, []), (6, []), (8, []), (9, []), (10, []), (11, []), (12, []), (4, [6, 9]), (7, [9]), (13, []), (14, [])], [(2, [1]), (3, [1, 2]), (4, [0, 1, 2, 3]), (6, [5]), (7, [0, 1, 2, 3, 4, 5, 6]), (9, [8]), (10, [8, 9]), (11, [8, 9, 10]), (12, [8, 9, 10, 11]), (13, [0, 1, 2, 3, 4, 5, 6, 7, 8, 9, 10, 11, 12]), (14, [0, 1, 2, 3, 4, 5, 6, 7, 8, 9, 10, 11, 12, 13])]),
  (11, [(0, []), (1, []), (2, []), (4, []), (5, []), (6, []), (3, [5]), (7, []), (8, [])], [(2, [1]), (3, [0, 1, 2]), (5, [4]), (6, [4, 5]), (7, [0, 1, 2, 3, 4, 5, 6]), (8, [0, 1, 2, 3, 4, 5, 6, 7])])]⟩
set_option maxRecDepth 100000 in
theorem F32.ok : compF Try.prog A32 Try.f32 = some F32 := by kernel_rfl
theorem F32.fok : FOk Try.prog 32 F32 := fok_of mixed Try.func32 F32.ok

/-- cloakroom/req.Same -/
def F34 : SFn := ⟨.seq (.region [⟨some 2, none, .box (.t 0)⟩,
    ⟨some 3, none, .box (.t 1)⟩,
    ⟨some 4, none, .mov (.c (.bool false))⟩] [2, 3])
   (.seq (.region [⟨some 5, none, .fa 0 (.t 2)⟩,
    ⟨some 6, none, .ld 1 false (.t 5)⟩,
    ⟨some 7, none, .fa 0 (.t 3)⟩,
    ⟨some 8, none, .ld 1 false (.t 7)⟩,
    ⟨some 9, none, .bin .eql (.t 6) (.t 8)⟩,
    ⟨some 10, none, .mov (.t 9)⟩,
    ⟨some 11, some (10, true), .fa 1 (.t 2)⟩,
    ⟨some 12, some (10, true), .ld 1 false (.t 11)⟩,
    ⟨some 13, some (10, true), .fa 1 (.t 3)⟩,
    ⟨some 14, some (10, true), .ld 1 false (.t 13)⟩,
    ⟨some 15, some (10, true), .bin .eql (.t 12) (.t 14)⟩,
    ⟨some 16, none, .pick (.t 10) (.t 15) (.c (.bool false))⟩,
    ⟨some 17, none, .mov (.t 16)⟩,
    ⟨some 18, some (17, true), .fa 2 (.t 2)⟩,
    ⟨some 19, some (17, true), .ld 1 false (.t 18)⟩,
    ⟨some 20, some (17, true), .fa 2 (.t 3)⟩,
    ⟨some 21, some (17, true), .ld 1 false (.t 20)⟩,
    ⟨some 22, some (17, true), .bin .eql (.t 19) (.t 21)⟩,
    ⟨some 23, none, .pick (.t 17) (.t 22) (.c (.bool false))⟩,
    ⟨some 24, none, .mov (.t 23)⟩,
    ⟨some 25, some (24, true), .fa 3 (.t 2)⟩,
    ⟨some 26, some (24, true), .ld 1 false (.t 25)⟩,
    ⟨some 27, some (24, true), .fa 3 (.t 3)⟩,
    ⟨some 28, some (24, true), .ld 1 false (.t 27)⟩,
    ⟨some 29, some (24, true), .bin .eql (.t 26) (.t 28)⟩,
    ⟨some 30, none, .pick (.t 24) (.t 29) (.c (.bool false))⟩,
    ⟨some 31, none, .mov (.t 30)⟩,
    ⟨some 32, some (31, true), .fa 4 (.t 2)⟩,
    ⟨some 33, some (31, true), .ld 1 false (.t 32)⟩,
    ⟨some 34, some (31, true), .fa 4 (.t 3)⟩,
    ⟨some 35, some (31, true), .ld 1 false (.t 34)⟩,
    ⟨some 36, some (31, true), .call 79 [.t 33, .t 35]⟩,
    ⟨some 37, none, .pick (.t 31) (.t 36) (.c (.bool false))⟩,
    ⟨some 38, none, .mov (.t 37)⟩,
    ⟨some 39, some (38, true), .fa 5 (.t 2)⟩,
    ⟨some 40, some (38, true), .ld 1 false (.t 39)⟩,
    ⟨some 41, some (38, true), .fa 5 (.t 3)⟩,
    ⟨some 42, some (38, true), .ld 1 false (.t 41)⟩,
    ⟨some 43, some (38, true), .call 61 [.t 40, .t 42]⟩,
    ⟨some 44, none, .pick (.t 38) (.t 43) (.c (.bool false))⟩,
    ⟨some 45, none, .mov (.t 44)⟩,
    ⟨some 46, some (45, true), .fa 6 (.t 2)⟩,
    ⟨some 47, some (45, true), .ld 1 false (.t 46)⟩,
    ⟨some 48, some (45, true), .fa 6 (.t 3)⟩,
    ⟨some 49, some (45, true), .ld 1 false (.t 48)⟩,
    ⟨some 50, some (45, true), .bin .eql (.t 47) (.t 49)⟩,
    ⟨some 51, none, .pick (.t 45) (.t 50) (.c (.bool false))⟩,
    ⟨some 52, none, .mov (.t 51)⟩,
    ⟨some 53, some (52, true), .fa 7 (.t 2)⟩,
    ⟨some 54, some (52, true), .ld 1 false (.t 53)⟩,
    ⟨some 55, some (52, true), .fa 7 (.t 3)⟩,
    ⟨some 56, some (52, true), .ld 1 false (.t 55)⟩,
    ⟨some 57, some (52, true), .bin .eql (.t 54) (.t 56)⟩,
    ⟨some 58, none, .pick (.t 52) (.t 57) (.c (.bool false))⟩,
    ⟨some 4, none, .mov (.t 58)⟩] [4])
   (.ret)),
  [.t 4], 59, 2⟩
def A34 : Ann := ⟨[(0, [2, 3]), (1, [4])], []⟩
set_option maxRecDepth 100000 in
theorem F34.ok : compF Try.prog A34 Try.f34 = some F34 := by kernel_rfl
theorem F34.fok : FOk Try.prog 34 F34 := fok_of mixed Try.func34 F34.ok

/-- cloakroom/req.PutReply -/
def F37 : SFn := ⟨.seq (.region [⟨some 1, none, .box (.t 0)⟩,
    ⟨some 2, none, .mov (.c (.slice none 0 0))⟩] [1])
   (.seq (.region [⟨some 4, none, .fa 0 (.t 1)⟩,
    ⟨some 5, none, .ld 1 false (.t 4)⟩,
    ⟨some 7, none, .fa 1 (.t 1)⟩,
    ⟨some 8, none, .ld 1 false (.t 7)⟩,
    ⟨some 9, none, .conv .u8 (.t 8)⟩,
    ⟨some 10, none, .bslice 1 1 [.int .u8 0] [(0, 1, .t 9)]⟩,
    ⟨some 6, none, .call 73 [.c (.slice none 0 0), .t 5]⟩,
    ⟨none, none, .chk 1 false (.t 7) 8⟩,
    ⟨some 11, none, .app 1 1 (.t 6) (.t 10)⟩,
    ⟨some 3, none, .mov (.t 11)⟩] [1, 3])
   (.seq (.region [⟨some 12, none, .mov (.t 3)⟩,
    ⟨some 13, none, .fa 2 (.t 1)⟩,
    ⟨some 14, none, .ld 1 false (.t 13)⟩,
    ⟨some 15, none, .fa 3 (.t 1)⟩,
    ⟨some 16, none, .ld 1 false (.t 15)⟩,
    ⟨some 17, none, .lenV (.t 16)⟩,
    ⟨some 18, none, .conv .u64 (.t 17)⟩,
    ⟨some 19, none, .bslice 2 1 [.int .u64 0] [(0, 1, .t 14), (1, 1, .t 18)]⟩,
    ⟨some 21, none, .fa 3 (.t 1)⟩,
    ⟨some 22, none, .ld 1 false (.t 21)⟩,
    ⟨some 20, none, .call 75 [.t 12, .t 19]⟩,
    ⟨none, none, .chk 1 false (.t 21) 22⟩,
    ⟨some 23, none, .call 75 [.t 20, .t 22]⟩,
    ⟨some 2, none, .mov (.t 23)⟩] [2])
   (.ret))),
  [.t 2], 24, 1⟩
def A37 : Ann := ⟨[(0, [1]), (1, [1, 3]), (2, [2])], [(1, [(0, []), (1, []), (3, []), (4, []), (5, []), (6, []), (2, [4]), (7, []), (8, [])], [(1, [0]), (2, [0, 1]), (4, [3]), (5, [3, 4]), (6, [3, 4, 5]), (7, [0, 1, 2, 3, 4, 5, 6]), (8, [0, 1, 2, 3, 4, 5, 6, 7])]),
  (2, [(0, []), (1, []), (2, []), (3, []), (4, []), (5, []), (6, []), (7, []), (9, []), (10, []), (8, [10]), (11, []), (12, [])], [(2, [1]), (4, [3]), (5, [3, 4]), (6, [3, 4, 5]), (7, [1, 2, 3, 4, 5, 6]), (8, [0, 1, 2, 3, 4, 5, 6, 7]), (10, [9]), (11, [0, 1, 2, 3, 4, 5, 6, 7, 8, 9, 10]), (12, [0, 1, 2, 3, 4, 5, 6, 7, 8, 9, 10, 11])])]⟩
set_option maxRecDepth 100000 in
theorem F37.ok : compF Try.prog A37 Try.f37 = some F37 := by kernel_rfl
theorem F37.fok : FOk Try.prog 37 F37 := fok_of mixed Try.func37 F37.ok

/-- cloakroom/req.TakeReply -/
def F38 : SFn := ⟨.seq (.region [⟨some 2, none, .new [.int .u64 0, .int .i64 0, .int .u64 0, .slice none 0 0]⟩,
    ⟨some 3, none, .mov (.c (.int .i64 0))⟩] [0, 2])
   (.seq (.region [⟨some 4, none, .new [.int .u64 0, .int .i64 0, .int .u64 0, .slice none 0 0]⟩] [0, 2, 4])
   (.seq (.region [⟨some 7, none, .mov (.t 0)⟩,
    ⟨some 8, none, .build [.slice none 0 0, .int .i64 0] [(0, 1, .t 7)]⟩,
    ⟨some 9, none, .box (.t 8)⟩,
    ⟨some 5, none, .mov (.t 9)⟩] [2, 4, 5])
   (.seq (.region [⟨some 10, none, .mov (.t 5)⟩,
    ⟨some 11, none, .call 80 [.t 10, .c (.int .u64 8)]⟩,
    ⟨some 12, none, .fa 0 (.t 4)⟩,
    ⟨none, none, .st 1 (.t 12) (.t 11)⟩] [2, 4, 5])
   (.seq (.region [⟨some 13, none, .mov (.t 5)⟩,
    ⟨some 14, none, .call 80 [.t 13, .c (.int .u64 1)]⟩,
    ⟨some 15, none, .conv .i64 (.t 14)⟩,
    ⟨some 16, none, .fa 1 (.t 4)⟩,
    ⟨none, none, .st 1 (.t 16) (.t 15)⟩] [2, 4, 5])
   (.seq (.region [⟨some 17, none, .mov (.t 5)⟩,
    ⟨some 18, none, .fa 1 (.t 4)⟩,
    ⟨some 19, none, .ld 1 false (.t 18)⟩,
    ⟨some 20, none, .bin .gtr (.t 19) (.c (.int .i64 17))⟩,
    ⟨some 21, none, .call 81 [.t 17, .t 20, .c (.int .i64 2)]⟩] [2, 4, 5])
   (.seq (.region [⟨some 22, none, .mov (.t 5)⟩,
    ⟨some 23, none, .call 82 [.t 22]⟩,
    ⟨some 24, none, .fa 2 (.t 4)⟩,
    ⟨none, none, .st 1 (.t 24) (.t 23)⟩] [2, 4, 5])
   (.seq (.region [⟨some 25, none, .mov (.t 5)⟩,
    ⟨some 26, none, .call 83 [.t 25]⟩,
    ⟨some 27, none, .fa 3 (.t 4)⟩,
    ⟨none, none, .st 1 (.t 27) (.t 26)⟩] [2, 4, 5])
   (.seq (.seq (.region [⟨some 28, none, .mov (.t 5)⟩,
    ⟨some 29, none, .call 64 [.t 28]⟩,
    ⟨some 6, none, .mov (.t 29)⟩] [2, 4, 6])
   (.seq (.region [⟨some 30, none, .mov (.t 6)⟩,
    ⟨some 31, none, .bin .neq (.t 30) (.c (.int .i64 0))⟩] [2, 4, 6, 31])
   (.cond (.t 31) (.seq (.region [⟨some 32, none, .build [.int .u64 0, .int .i64 0, .int .u64 0, .slice none 0 0] []⟩,
    ⟨some 33, none, .mov (.t 6)⟩,
    ⟨none, none, .st 4 (.t 2) (.t 32)⟩,
    ⟨some 3, none, .mov (.t 33)⟩] [2, 3])
   (.ret)) (.skip))))
   (.seq (.region [⟨some 34, none, .ld 4 true (.t 4)⟩,
    ⟨none, none, .st 4 (.t 2) (.t 34)⟩,
    ⟨some 3, none, .mov (.c (.int .i64 0))⟩] [2, 3])
   (.ret)))))))))),
  [.c 2 4 true, .t 3], 35, 1⟩
def A38 : Ann := ⟨[(0, [0, 2]), (1, [0, 2, 4]), (2, [2, 4, 5]), (3, [2, 4, 5]), (4, [2, 4, 5]), (5, [2, 4, 5]), (6, [2, 4, 5]), (7, [2, 4, 5]), (8, [2, 4, 6]), (9, [2, 4, 6, 31]), (10, [2, 3]), (11, [2, 3])], []⟩
set_option maxRecDepth 100000 in
theorem F38.ok : compF Try.prog A38 Try.f38 = some F38 := by kernel_rfl
theorem F38.fok : FOk Try.prog 38 F38 := fok_of mixed Try.func38 F38.ok

/-- slices.Clone[[]byte,byte] -/
def F55 : SFn := ⟨.seq (.region [⟨some 2, none, .mov (.c (.slice none 0 0))⟩] [0])
   (.seq (.seq (.region [⟨some 3, none, .mov (.t 0)⟩,
    ⟨some 4, none, .eqk false .slice (.t 3) (.c (.slice none 0 0))⟩] [0, 4])
   (.cond (.t 4) (.seq (.region [⟨some 2, none, .mov (.c (.slice none 0 0))⟩] [2])
   (.ret)) (.skip)))
   (.seq (.region [⟨some 5, none, .bslice 0 1 [.int .u8 0] []⟩,
    ⟨some 6, none, .mov (.t 0)⟩,
    ⟨some 7, none, .app 1 1 (.t 5) (.t 6)⟩,
    ⟨some 2, none, .mov (.t 7)⟩] [2])
   (.ret))),
  [.t 2], 8, 1⟩
def A55 : Ann := ⟨[(0, [0]), (1, [0, 4]), (2, [2]), (3, [2])], []⟩
set_option maxRecDepth 100000 in
theorem F55.ok : compF Try.prog A55 Try.f55 = some F55 := by kernel_rfl
theorem F55.fok : FOk Try.prog 55 F55 := fok_of mixed Try.func55 F55.ok

/-- slices.Equal[[]uint64,uint64] -/
def F61 : SFn := ⟨.seq (.region [⟨some 4, none, .mov (.c (.bool false))⟩] [0, 1])
   (.seq (.seq (.region [⟨some 6, none, .mov (.t 0)⟩,
    ⟨some 7, none, .lenV (.t 6)⟩,
    ⟨some 8, none, .mov (.t 1)⟩,
    ⟨some 9, none, .lenV (.t 8)⟩,
    ⟨some 10, none, .bin .neq (.t 7) (.t 9)⟩] [0, 1, 10])
   (.cond (.t 10) (.seq (.region [⟨some 4, none, .mov (.c (.bool false))⟩] [4])
   (.ret)) (.skip)))
   (.seq (.seq (.region [⟨some 11, none, .mov (.t 0)⟩,
    ⟨some 12, none, .lenV (.t 11)⟩,
    ⟨some 13, none, .mov (.c (.int .i64 0))⟩] [0, 1, 12, 13])
   (.block 0 (.loop (.seq (.region [⟨some 14, none, .bin .lss (.t 13) (.t 12)⟩] [0, 1, 12, 13, 14])
   (.seq (.cond (.t 14) (.skip) (.exit 0))
   (.seq (.block 1 (.seq (.region [⟨some 15, none, .mov (.t 13)⟩,
    ⟨some 5, none, .mov (.t 15)⟩] [0, 1, 5, 12, 13])
   (.seq (.region [⟨some 16, none, .mov (.t 0)⟩,
    ⟨some 17, none, .mov (.t 5)⟩,
    ⟨some 18, none, .iaV 1 (.t 16) (.t 17)⟩,
    ⟨some 19, none, .ld 1 false (.t 18)⟩,
    ⟨some 20, none, .mov (.t 1)⟩,
    ⟨some 21, none, .mov (.t 5)⟩,
    ⟨some 22, none, .iaV 1 (.t 20) (.t 21)⟩,
    ⟨some 23, none, .ld 1 false (.t 22)⟩,
    ⟨some 24, none, .bin .neq (.t 19) (.t 23)⟩] [0, 1, 12, 13, 24])
   (.cond (.t 24) (.seq (.region [⟨some 4, none, .mov (.c (.bool false))⟩] [4])
   (.ret)) (.skip)))))
   (.region [⟨some 25, none, .bin .add (.t 13) (.c (.int .i64 1))⟩,
    ⟨some 13, none, .mov (.t 25)⟩] [0, 1, 12, 13])))))))
   (.seq (.region [⟨some 4, none, .mov (.c (.bool true))⟩] [4])
   (.ret)))),
  [.t 4], 26, 2⟩
def A61 : Ann := ⟨[(0, [0, 1]), (1, [0, 1, 10]), (2, [4]), (3, [0, 1, 12, 13]), (4, [0, 1, 12, 13, 14]), (5, [0, 1, 5, 12, 13]), (6, [0, 1, 12, 13, 24]), (7, [4]), (8, [0, 1, 12, 13]), (9, [4])], [(6, [(0, []), (1, []), (2, []), (3, []), (4, []), (5, []), (6, []), (7, []), (8, [])], [(2, [0, 1]), (3, [0, 1, 2]), (6, [4, 5]), (7, [4, 5, 6]), (8, [0, 1, 2, 3, 4, 5, 6, 7])])]⟩
set_option maxRecDepth 100000 in
theorem F61.ok : compF Try.prog A61 Try.f61 = some F61 := by kernel_rfl
theorem F61.fok : FOk Try.prog 61 F61 := fok_of mixed Try.func61 F61.ok

/-- (*cloakroom/req.asked).all -/
def F63 : SFn := ⟨.seq (.region [⟨some 3, none, .mov (.t 0)⟩,
    ⟨some 4, none, .nilc (.t 3)⟩,
    ⟨some 5, none, .fa 2 (.t 4)⟩,
    ⟨some 2, none, .mov (.t 5)⟩] [0, 2])
   (.seq (.region [⟨some 6, none, .mov (.t 2)⟩,
    ⟨some 7, none, .mov (.t 0)⟩,
    ⟨some 8, none, .nilc (.t 7)⟩,
    ⟨some 9, none, .fa 0 (.t 8)⟩,
    ⟨some 10, none, .call 80 [.t 9, .c (.int .u64 1)]⟩,
    ⟨some 11, none, .conv .i64 (.t 10)⟩,
    ⟨some 12, none, .nilc (.t 6)⟩,
    ⟨some 13, none, .fa 0 (.t 12)⟩,
    ⟨none, none, .st 1 (.t 13) (.t 11)⟩] [0, 2])
   (.seq (.region [⟨some 14, none, .mov (.t 0)⟩,
    ⟨some 15, none, .nilc (.t 14)⟩,
    ⟨some 16, none, .fa 0 (.t 15)⟩,
    ⟨some 17, none, .mov (.t 2)⟩,
    ⟨some 18, none, .nilc (.t 17)⟩,
    ⟨some 19, none, .fa 0 (.t 18)⟩,
    ⟨some 20, none, .ld 1 false (.t 19)⟩,
    ⟨some 21, none, .bin .lss (.t 20) (.c (.int .i64 1))⟩,
    ⟨some 22, none, .mov (.t 21)⟩,
    ⟨some 23, some (22, false), .mov (.t 2)⟩,
    ⟨some 24, some (22, false), .nilc (.t 23)⟩,
    ⟨some 25, some (22, false), .fa 0 (.t 24)⟩,
    ⟨some 26, some (22, false), .ld 1 false (.t 25)⟩,
    ⟨some 27, some (22, false), .bin .gtr (.t 26) (.c (.int .i64 6))⟩,
    ⟨some 28, none, .pick (.t 22) (.c (.bool true)) (.t 27)⟩,
    ⟨some 29, none, .call 81 [.t 16, .t 28, .c (.int .i64 2)]⟩] [0, 2])
   (.seq (.region [⟨some 30, none, .mov (.t 2)⟩,
    ⟨some 31, none, .mov (.t 0)⟩,
    ⟨some 32, none, .nilc (.t 31)⟩,
    ⟨some 33, none, .fa 0 (.t 32)⟩,
    ⟨some 34, none, .call 80 [.t 33, .c (.int .u64 8)]⟩,
    ⟨some 35, none, .nilc (.t 30)⟩,
    ⟨some 36, none, .fa 1 (.t 35)⟩,
    ⟨none, none, .st 1 (.t 36) (.t 34)⟩] [0, 2])
   (.seq (.region [⟨some 37, none, .mov (.t 2)⟩,
    ⟨some 38, none, .nilc (.t 37)⟩,
    ⟨some 39, none, .fa 0 (.t 38)⟩,
    ⟨some 40, none, .ld 1 false (.t 39)⟩] [0, 2, 40])
   (.block 0 (.seq (.region [⟨some 42, none, .bin .eql (.t 40) (.c (.int .i64 1))⟩,
    ⟨some 41, none, .mov (.t 42)⟩] [0, 2, 40, 41])
   (.cond (.t 41) (.region [⟨some 43, none, .mov (.t 2)⟩,
    ⟨some 44, none, .mov (.t 0)⟩,
    ⟨some 45, none, .nilc (.t 44)⟩,
    ⟨some 46, none, .fa 0 (.t 45)⟩,
    ⟨some 47, none, .mov (.t 0)⟩,
    ⟨some 48, none, .nilc (.t 47)⟩,
    ⟨some 49, none, .fa 0 (.t 48)⟩,
    ⟨some 50, none, .fa 0 (.t 49)⟩,
    ⟨some 51, none, .ld 1 false (.t 50)⟩,
    ⟨some 52, none, .lenV (.t 51)⟩,
    ⟨some 53, none, .conv .u64 (.t 52)⟩,
    ⟨some 54, none, .call 125 [.t 46, .t 53]⟩,
    ⟨some 55, none, .nilc (.t 43)⟩,
    ⟨some 56, none, .fa 4 (.t 55)⟩,
    ⟨none, none, .st 1 (.t 56) (.t 54)⟩] []) (.seq (.region [⟨some 58, none, .bin .eql (.t 40) (.c (.int .i64 2))⟩,
    ⟨some 57, none, .mov (.t 58)⟩] [0, 2, 40, 57])
   (.cond (.t 57) (.region [⟨some 59, none, .mov (.t 2)⟩,
    ⟨some 60, none, .mov (.t 2)⟩,
    ⟨some 61, none, .mov (.t 0)⟩,
    ⟨some 62, none, .nilc (.t 61)⟩,
    ⟨some 63, none, .fa 0 (.t 62)⟩,
    ⟨some 65, none, .mov (.t 0)⟩,
    ⟨some 66, none, .nilc (.t 65)⟩,
    ⟨some 67, none, .fa 0 (.t 66)⟩,
    ⟨some 64, none, .call 82 [.t 63]⟩,
    ⟨some 68, none, .call 126 [.t 67]⟩,
    ⟨some 69, none, .nilc (.t 59)⟩,
    ⟨some 70, none, .fa 2 (.t 69)⟩,
    ⟨none, none, .st 1 (.t 70) (.t 64)⟩,
    ⟨some 71, none, .nilc (.t 60)⟩,
    ⟨some 72, none, .fa 3 (.t 71)⟩,
    ⟨none, none, .st 1 (.t 72) (.t 68)⟩] []) (.seq (.region [⟨some 74, none, .bin .eql (.t 40) (.c (.int .i64 3))⟩,
    ⟨some 73, none, .mov (.t 74)⟩] [0, 2, 40, 73])
   (.cond (.t 73) (.region [⟨some 75, none, .mov (.t 2)⟩,
    ⟨some 76, none, .mov (.t 0)⟩,
    ⟨some 77, none, .nilc (.t 76)⟩,
    ⟨some 78, none, .fa 0 (.t 77)⟩,
    ⟨some 79, none, .call 126 [.t 78]⟩,
    ⟨some 80, none, .nilc (.t 75)⟩,
    ⟨some 81, none, .fa 3 (.t 80)⟩,
    ⟨none, none, .st 1 (.t 81) (.t 79)⟩] []) (.seq (.region [⟨some 83, none, .bin .eql (.t 40) (.c (.int .i64 4))⟩,
    ⟨some 82, none, .mov (.t 83)⟩] [0, 2, 40, 82])
   (.cond (.t 82) (.region [⟨some 84, none, .mov (.t 2)⟩,
    ⟨some 85, none, .mov (.t 2)⟩,
    ⟨some 86, none, .mov (.t 2)⟩,
    ⟨some 87, none, .mov (.t 2)⟩,
    ⟨some 88, none, .mov (.t 0)⟩,
    ⟨some 89, none, .nilc (.t 88)⟩,
    ⟨some 90, none, .fa 0 (.t 89)⟩,
    ⟨some 92, none, .mov (.t 0)⟩,
    ⟨some 93, none, .nilc (.t 92)⟩,
    ⟨some 94, none, .fa 0 (.t 93)⟩,
    ⟨some 96, none, .mov (.t 0)⟩,
    ⟨some 97, none, .nilc (.t 96)⟩,
    ⟨some 98, none, .fa 0 (.t 97)⟩,
    ⟨some 100, none, .mov (.t 0)⟩,
    ⟨some 101, none, .nilc (.t 100)⟩,
    ⟨some 102, none, .fa 0 (.t 101)⟩,
    ⟨some 91, none, .call 82 [.t 90]⟩,
    ⟨some 95, none, .call 126 [.t 94]⟩,
    ⟨some 99, none, .call 83 [.t 98]⟩,
    ⟨some 103, none, .call 82 [.t 102]⟩,
    ⟨some 104, none, .nilc (.t 84)⟩,
    ⟨some 105, none, .fa 2 (.t 104)⟩,
    ⟨none, none, .st 1 (.t 105) (.t 91)⟩,
    ⟨some 106, none, .nilc (.t 85)⟩,
    ⟨some 107, none, .fa 3 (.t 106)⟩,
    ⟨none, none, .st 1 (.t 107) (.t 95)⟩,
    ⟨some 108, none, .nilc (.t 86)⟩,
    ⟨some 109, none, .fa 5 (.t 108)⟩,
    ⟨none, none, .st 1 (.t 109) (.t 99)⟩,
    ⟨some 110, none, .nilc (.t 87)⟩,
    ⟨some 111, none, .fa 6 (.t 110)⟩,
    ⟨none, none, .st 1 (.t 111) (.t 103)⟩] []) (.seq (.region [⟨some 113, none, .bin .eql (.t 40) (.c (.int .i64 5))⟩,
    ⟨some 112, none, .mov (.t 113)⟩] [0, 2, 40, 112])
   (.cond (.t 112) (.region [⟨some 114, none, .mov (.t 2)⟩,
    ⟨some 115, none, .mov (.t 0)⟩,
    ⟨some 116, none, .nilc (.t 115)⟩,
    ⟨some 117, none, .fa 0 (.t 116)⟩,
    ⟨some 118, none, .call 82 [.t 117]⟩,
    ⟨some 119, none, .nilc (.t 114)⟩,
    ⟨some 120, none, .fa 2 (.t 119)⟩,
    ⟨none, none, .st 1 (.t 120) (.t 118)⟩] []) (.seq (.region [⟨some 122, none, .bin .eql (.t 40) (.c (.int .i64 6))⟩,
    ⟨some 121, none, .mov (.t 122)⟩] [0, 2, 121])
   (.cond (.t 121) (.region [⟨some 123, none, .mov (.t 2)⟩,
    ⟨some 124, none, .mov (.t 0)⟩,
    ⟨some 125, none, .nilc (.t 124)⟩,
    ⟨some 126, none, .fa 0 (.t 125)⟩,
    ⟨some 127, none, .call 80 [.t 126, .c (.int .u64 8)]⟩,
    ⟨some 128, none, .nilc (.t 123)⟩,
    ⟨some 129, none, .fa 7 (.t 128)⟩,
    ⟨none, none, .st 1 (.t 129) (.t 127)⟩] []) (.skip)))))))))))))))))),
  [], 130, 1⟩
def A63 : Ann := ⟨[(0, [0, 2]), (1, [0, 2]), (2, [0, 2]), (3, [0, 2]), (4, [0, 2, 40]), (5, [0, 2, 40, 41]), (6, []), (7, [0, 2, 40, 57]), (8, []), (9, [0, 2, 40, 73]), (10, []), (11, [0, 2, 40, 82]), (12, []), (13, [0, 2, 40, 112]), (14, []), (15, [0, 2, 121]), (16, [])], [(2, [(0, []), (1, []), (2, []), (3, []), (4, []), (5, []), (6, []), (7, []), (8, []), (9, []), (10, []), (11, []), (12, []), (13, []), (14, []), (15, [])], [(1, [0]), (2, [0, 1]), (4, [3]), (5, [3, 4]), (6, [3, 4, 5]), (7, [3, 4, 5, 6]), (8, [3, 4, 5, 6, 7]), (9, [3, 4, 5, 6, 7, 8]), (10, [3, 4, 5, 6, 7, 8, 9]), (11, [3, 4, 5, 6, 7, 8, 9, 10]), (12, [3, 4, 5, 6, 7, 8, 9, 10, 11]), (13, [3, 4, 5, 6, 7, 8, 9, 10, 11, 12]), (14, [3, 4, 5, 6, 7, 8, 9, 10, 11, 12, 13]), (15, [0, 1, 2, 3, 4, 5, 6, 7, 8, 9, 10, 11, 12, 13, 14])]),
  (6, [(0, []), (1, []), (2, []), (3, []), (4, []), (5, []), (6, []), (7, []), (8, []), (9, []), (10, []), (11, []), (12, []), (13, []), (14, [])], [(2, [1]), (3, [1, 2]), (5, [4]), (6, [4, 5]), (7, [4, 5, 6]), (8, [4, 5, 6, 7]), (9, [4, 5, 6, 7, 8]), (10, [4, 5, 6, 7, 8, 9]), (11, [1, 2, 3, 4, 5, 6, 7, 8, 9, 10]), (12, [0, 1, 2, 3, 4, 5, 6, 7, 8, 9, 10, 11]), (13, [0, 1, 2, 3, 4, 5, 6, 7, 8, 9, 10, 11, 12]), (14, [0, 1, 2, 3, 4, 5, 6, 7, 8, 9, 10, 11, 12, 13])]),
  (8, [(0, []), (1, []), (2, []), (3, []), (4, []), (6, []), (7, []), (8, []), (5, []), (9, []), (10, []), (11, []), (12, []), (13, []), (14, []), (15, [])], [(3, [2]), (4, [2, 3]), (5, [2, 3, 4]), (7, [6]), (8, [6, 7]), (9, [2, 3, 4, 5, 6, 7, 8]), (10, [0, 2, 3, 4, 5, 6, 7, 8, 9]), (11, [0, 2, 3, 4, 5, 6, 7, 8, 9, 10]), (12, [0, 2, 3, 4, 5, 6, 7, 8, 9, 10, 11]), (13, [0, 1, 2, 3, 4, 5, 6, 7, 8, 9, 10, 11, 12]), (14, [0, 1, 2, 3, 4, 5, 6, 7, 8, 9, 10, 11, 12, 13]), (15, [0, 1, 2, 3, 4, 5, 6, 7, 8, 9, 10, 11, 12, 13, 14])]),
  (12, [(0, []), (1, []), (2, []), (3, []), (4, []), (5, []), (6, []), (8, []), (9, []), (10, []), (12, []), (13, []), (14, []), (16, []), (17, []), (18, []), (7, []), (11, []), (15, []), (19, []), (20, []), (21, []), (22, []), (23, []), (24, []), (25, []), (26, []), (27, []), (28, []), (29, []), (30, []), (31, [])], [(5, [4]), (6, [4, 5]), (7, [4, 5, 6]), (9, [8]), (10, [8, 9]), (11, [4, 5, 6, 7, 8, 9, 10]), (13, [12]), (14, [12, 13]), (15, [4, 5, 6, 7, 8, 9, 10, 11, 12, 13, 14]), (17, [16]), (18, [16, 17]), (19, [4, 5, 6, 7, 8, 9, 10, 11, 12, 13, 14, 15, 16, 17, 18]), (20, [0, 4, 5, 6, 7, 8, 9, 10, 11, 12, 13, 14, 15, 16, 17, 18, 19]), (21, [0, 4, 5, 6, 7, 8, 9, 10, 11, 12, 13, 14, 15, 16, 17, 18, 19, 20]), (22, [0, 4, 5, 6, 7, 8, 9, 10, 11, 12, 13, 14, 15, 16, 17, 18, 19, 20, 21]), (23, [0, 1, 4, 5, 6, 7, 8, 9, 10, 11, 12, 13, 14, 15, 16, 17, 18, 19, 20, 21, 22]), (24, [0, 1, 4, 5, 6, 7, 8, 9, 10, 11, 12, 13, 14, 15, 16, 17, 18, 19, 20, 21, 22, 23]), (25, [0, 1, 4, 5, 6, 7, 8, 9, 10, 11, 12, 13, 14, 15, 16, 17, 18, 19, 20, 21, 22, 23, 24]), (26, [0, 1, 2, 4, 5, 6, 7, 8, 9, 10, 11, 12, 13, 14, 15, 16, 17, 18, 19, 20, 21, 22, 23, 24, 25]), (27, [0, 1, 2, 4, 5, 6, 7, 8, 9, 10, 11, 12, 13, 14, 15, 16, 17, 18, 19, 20, 21, 22, 23, 24, 25, 26]), (28, [0, 1, 2, 4, 5, 6, 7, 8, 9, 10, 11, 12, 13, 14, 15, 16, 17, 18, 19, 20, 21, 22, 23, 24, 25, 26, 27]), (29, [0, 1, 2, 3, 4, 5, 6, 7, 8, 9, 10, 11, 12, 13, 14, 15, 16, 17, 18, 19, 20, 21, 22, 23, 24, 25, 26, 27, 28]), (30, [0, 1, 2, 3, 4, 5, 6, 7, 8, 9, 10, 11, 12, 13, 14, 15, 16, 17, 18, 19, 20, 21, 22, 23, 24, 25, 26, 27, 28, 29]), (31, [0, 1, 2, 3, 4, 5, 6, 7, 8, 9, 10, 11, 12, 13, 14, 15, 16, 17, 18, 19, 20, 21, 22, 23, 24, 25, 26, 27, 28, 29, 30])])]⟩
set_option maxRecDepth 100000 in
theorem F63.ok : compF Try.prog A63 Try.f63 = some F63 := by kernel_rfl
theorem F63.fok : FOk Try.prog 63 F63 := fok_of mixed Try.func63 F63.ok

/-- (*cloakroom/req.cursor).end -/
def F64 : SFn := ⟨.seq (.region [⟨some 2, none, .mov (.c (.int .i64 0))⟩] [0])
   (.seq (.region [⟨some 3, none, .mov (.t 0)⟩,
    ⟨some 4, none, .mov (.t 0)⟩,
    ⟨some 5, none, .nilc (.t 4)⟩,
    ⟨some 6, none, .fa 0 (.t 5)⟩,
    ⟨some 7, none, .ld 1 false (.t 6)⟩,
    ⟨some 8, none, .lenV (.t 7)⟩,
    ⟨some 9, none, .bin .gtr (.t 8) (.c (.int .i64 0))⟩,
    ⟨some 10, none, .call 81 [.t 3, .t 9, .c (.int .i64 2)]⟩] [0])
   (.seq (.region [⟨some 11, none, .mov (.t 0)⟩,
    ⟨some 12, none, .nilc (.t 11)⟩,
    ⟨some 13, none, .fa 1 (.t 12)⟩,
    ⟨some 14, none, .ld 1 false (.t 13)⟩,
    ⟨some 2, none, .mov (.t 14)⟩] [2])
   (.ret))),
  [.t 2], 15, 1⟩
def A64 : Ann := ⟨[(0, [0]), (1, [0]), (2, [2])], []⟩
set_option maxRecDepth 100000 in
theorem F64.ok : compF Try.prog A64 Try.f64 = some F64 := by kernel_rfl
theorem F64.fok : FOk Try.prog 64 F64 := fok_of mixed Try.func64 F64.ok

/-- cloakroom/req.eight -/
def F73 : SFn := ⟨.seq (.region [⟨some 4, none, .mov (.c (.slice none 0 0))⟩] [0, 1])
   (.seq (.seq (.region [⟨some 5, none, .mov (.c (.int .i64 7))⟩] [0, 1, 5])
   (.block 0 (.loop (.seq (.seq (.region [⟨some 6, none, .mov (.t 5)⟩,
    ⟨some 7, none, .bin .geq (.t 6) (.c (.int .i64 0))⟩] [0, 1, 5, 7])
   (.cond (.t 7) (.skip) (.exit 0)))
   (.seq (.block 1 (.region [⟨some 10, none, .mov (.t 0)⟩,
    ⟨some 11, none, .mov (.t 1)⟩,
    ⟨some 12, none, .mov (.t 5)⟩,
    ⟨some 13, none, .bin .mul (.c (.int .i64 8)) (.t 12)⟩,
    ⟨some 14, none, .bin .shr (.t 11) (.t 13)⟩,
    ⟨some 15, none, .conv .u8 (.t 14)⟩,
    ⟨some 16, none, .bslice 1 1 [.int .u8 0] [(0, 1, .t 15)]⟩,
    ⟨some 17, none, .app 1 1 (.t 10) (.t 16)⟩,
    ⟨some 0, none, .mov (.t 17)⟩] [0, 1, 5]))
   (.region [⟨some 8, none, .mov (.t 5)⟩,
    ⟨some 9, none, .bin .sub (.t 8) (.c (.int .i64 1))⟩,
    ⟨some 5, none, .mov (.t 9)⟩] [0, 1, 5]))))))
   (.seq (.region [⟨some 18, none, .mov (.t 0)⟩,
    ⟨some 4, none, .mov (.t 18)⟩] [4])
   (.ret))),
  [.t 4], 19, 2⟩
def A73 : Ann := ⟨[(0, [0, 1]), (1, [0, 1, 5]), (2, [0, 1, 5, 7]), (3, [0, 1, 5]), (4, [0, 1, 5]), (5, [4])], []⟩
set_option maxRecDepth 100000 in
theorem F73.ok : compF Try.prog A73 Try.f73 = some F73 := by kernel_rfl
theorem F73.fok : FOk Try.prog 73 F73 := fok_of mixed Try.func73 F73.ok

/-- cloakroom/req.name -/
def F74 : SFn := ⟨.seq (.region [⟨some 4, none, .mov (.c (.slice none 0 0))⟩] [0, 1])
   (.seq (.region [⟨some 5, none, .mov (.t 0)⟩,
    ⟨some 6, none, .mov (.t 1)⟩,
    ⟨some 7, none, .lenS (.t 6)⟩,
    ⟨some 8, none, .conv .u64 (.t 7)⟩,
    ⟨some 9, none, .bslice 1 1 [.int .u64 0] [(0, 1, .t 8)]⟩,
    ⟨some 10, none, .call 75 [.t 5, .t 9]⟩,
    ⟨some 11, none, .mov (.t 1)⟩,
    ⟨some 12, none, .app 1 1 (.t 10) (.t 11)⟩,
    ⟨some 4, none, .mov (.t 12)⟩] [4])
   (.ret)),
  [.t 4], 13, 2⟩
def A74 : Ann := ⟨[(0, [0, 1]), (1, [4])], []⟩
set_option maxRecDepth 100000 in
theorem F74.ok : compF Try.prog A74 Try.f74 = some F74 := by kernel_rfl
theorem F74.fok : FOk Try.prog 74 F74 := fok_of mixed Try.func74 F74.ok

/-- cloakroom/req.numbers -/
def F75 : SFn := ⟨.seq (.region [⟨some 4, none, .mov (.c (.slice none 0 0))⟩] [0, 1])
   (.seq (.seq (.region [⟨some 7, none, .mov (.t 1)⟩,
    ⟨some 8, none, .lenV (.t 7)⟩,
    ⟨some 9, none, .mov (.c (.int .i64 0))⟩] [0, 7, 8, 9])
   (.block 0 (.loop (.seq (.region [⟨some 10, none, .bin .lss (.t 9) (.t 8)⟩] [0, 7, 8, 9, 10])
   (.seq (.cond (.t 10) (.skip) (.exit 0))
   (.seq (.block 1 (.seq (.region [⟨some 11, none, .iaV 1 (.t 7) (.t 9)⟩,
    ⟨some 12, none, .ld 1 false (.t 11)⟩,
    ⟨some 6, none, .mov (.t 12)⟩] [0, 6, 7, 8, 9])
   (.region [⟨some 13, none, .mov (.t 0)⟩,
    ⟨some 14, none, .mov (.t 6)⟩,
    ⟨some 15, none, .call 128 [.t 13, .t 14]⟩,
    ⟨some 0, none, .mov (.t 15)⟩] [0, 7, 8, 9])))
   (.region [⟨some 16, none, .bin .add (.t 9) (.c (.int .i64 1))⟩,
    ⟨some 9, none, .mov (.t 16)⟩] [0, 7, 8, 9])))))))
   (.seq (.region [⟨some 17, none, .mov (.t 0)⟩,
    ⟨some 4, none, .mov (.t 17)⟩] [4])
   (.ret))),
  [.t 4], 18, 2⟩
def A75 : Ann := ⟨[(0, [0, 1]), (1, [0, 7, 8, 9]), (2, [0, 7, 8, 9, 10]), (3, [0, 6, 7, 8, 9]), (4, [0, 7, 8, 9]), (5, [0, 7, 8, 9]), (6, [4])], []⟩
set_option maxRecDepth 100000 in
theorem F75.ok : compF Try.prog A75 Try.f75 = some F75 := by kernel_rfl
theorem F75.fok : FOk Try.prog 75 F75 := fok_of mixed Try.func75 F75.ok

/-- bytes.Equal -/
def F79 : SFn := ⟨.seq (.region [⟨some 4, none, .mov (.c (.bool false))⟩] [0, 1])
   (.seq (.region [⟨some 5, none, .mov (.t 0)⟩,
    ⟨some 6, none, .toStr (.t 5)⟩,
    ⟨some 7, none, .mov (.t 1)⟩,
    ⟨some 8, none, .toStr (.t 7)⟩,
    ⟨some 9, none, .bin .eql (.t 6) (.t 8)⟩,
    ⟨some 4, none, .mov (.t 9)⟩] [4])
   (.ret)),
  [.t 4], 10, 2⟩
def A79 : Ann := ⟨[(0, [0, 1]), (1, [4])], []⟩
set_option maxRecDepth 100000 in
theorem F79.ok : compF Try.prog A79 Try.f79 = some F79 := by kernel_rfl
theorem F79.fok : FOk Try.prog 79 F79 := fok_of mixed Try.func79 F79.ok

/-- (*cloakroom/req.cursor).fixed -/
def F80 : SFn := ⟨.seq (.region [⟨some 4, none, .mov (.c (.int .u64 0))⟩] [0, 1, 4])
   (.seq (.seq (.region [⟨some 7, none, .mov (.t 0)⟩,
    ⟨some 8, none, .mov (.t 1)⟩,
    ⟨some 9, none, .call 125 [.t 7, .t 8]⟩,
    ⟨some 10, none, .lenV (.t 9)⟩,
    ⟨some 11, none, .mov (.c (.int .i64 0))⟩] [4, 9, 10, 11])
   (.block 0 (.loop (.seq (.region [⟨some 12, none, .bin .lss (.t 11) (.t 10)⟩] [4, 9, 10, 11, 12])
   (.seq (.cond (.t 12) (.skip) (.exit 0))
   (.seq (.block 1 (.seq (.region [⟨some 13, none, .iaV 1 (.t 9) (.t 11)⟩,
    ⟨some 14, none, .ld 1 false (.t 13)⟩,
    ⟨some 6, none, .mov (.t 14)⟩] [4, 6, 9, 10, 11])
   (.region [⟨some 15, none, .mov (.t 4)⟩,
    ⟨some 16, none, .bin .shl (.t 15) (.c (.int .u64 8))⟩,
    ⟨some 17, none, .mov (.t 6)⟩,
    ⟨some 18, none, .conv .u64 (.t 17)⟩,
    ⟨some 19, none, .bin .or (.t 16) (.t 18)⟩,
    ⟨some 4, none, .mov (.t 19)⟩] [4, 9, 10, 11])))
   (.region [⟨some 20, none, .bin .add (.t 11) (.c (.int .i64 1))⟩,
    ⟨some 11, none, .mov (.t 20)⟩] [4, 9, 10, 11])))))))
   (.seq (.region [⟨some 21, none, .mov (.t 4)⟩,
    ⟨some 4, none, .mov (.t 21)⟩] [4])
   (.ret))),
  [.t 4], 22, 2⟩
def A80 : Ann := ⟨[(0, [0, 1, 4]), (1, [4, 9, 10, 11]), (2, [4, 9, 10, 11, 12]), (3, [4, 6, 9, 10, 11]), (4, [4, 9, 10, 11]), (5, [4, 9, 10, 11]), (6, [4])], []⟩
set_option maxRecDepth 100000 in
theorem F80.ok : compF Try.prog A80 Try.f80 = some F80 := by kernel_rfl
theorem F80.fok : FOk Try.prog 80 F80 := fok_of mixed Try.func80 F80.ok

/-- (*cloakroom/req.cursor).fails -/
def F81 : SFn := ⟨.seq (.region [⟨some 6, none, .mov (.t 1)⟩,
    ⟨some 7, none, .mov (.t 6)⟩,
    ⟨some 8, some (7, true), .mov (.t 0)⟩,
    ⟨some 9, some (7, true), .nilc (.t 8)⟩,
    ⟨some 10, some (7, true), .fa 1 (.t 9)⟩,
    ⟨some 11, some (7, true), .ld 1 false (.t 10)⟩,
    ⟨some 12, some (7, true), .bin .eql (.t 11) (.c (.int .i64 0))⟩,
    ⟨some 13, none, .pick (.t 7) (.t 12) (.c (.bool false))⟩] [0, 2, 13])
   (.cond (.t 13) (.region [⟨some 14, none, .mov (.t 0)⟩,
    ⟨some 15, none, .mov (.t 2)⟩,
    ⟨some 16, none, .nilc (.t 14)⟩,
    ⟨some 17, none, .fa 1 (.t 16)⟩,
    ⟨none, none, .st 1 (.t 17) (.t 15)⟩] []) (.skip)),
  [], 18, 3⟩
def A81 : Ann := ⟨[(0, [0, 2, 13]), (1, [])], []⟩
set_option maxRecDepth 100000 in
theorem F81.ok : compF Try.prog A81 Try.f81 = some F81 := by kernel_rfl
theorem F81.fok : FOk Try.prog 81 F81 := fok_of mixed Try.func81 F81.ok

/-- (*cloakroom/req.cursor).number -/
def F82 : SFn := ⟨.seq (.region [⟨some 2, none, .mov (.c (.int .u64 0))⟩] [0])
   (.seq (.seq (.region [⟨some 6, none, .mov (.t 0)⟩,
    ⟨some 7, none, .nilc (.t 6)⟩,
    ⟨some 8, none, .fa 1 (.t 7)⟩,
    ⟨some 9, none, .ld 1 false (.t 8)⟩,
    ⟨some 10, none, .bin .neq (.t 9) (.c (.int .i64 0))⟩] [0, 10])
   (.cond (.t 10) (.seq (.region [⟨some 2, none, .mov (.c (.int .u64 0))⟩] [2])
   (.ret)) (.skip)))
   (.seq (.region [⟨some 12, none, .mov (.t 0)⟩,
    ⟨some 13, none, .nilc (.t 12)⟩,
    ⟨some 14, none, .fa 0 (.t 13)⟩,
    ⟨some 15, none, .ld 1 false (.t 14)⟩,
    ⟨some 16, none, .call 129 [.t 15]⟩,
    ⟨some 11, none, .mov (.t 16)⟩,
    ⟨some 17, none, .ext (.t 11) 0⟩,
    ⟨some 18, none, .ext (.t 11) 1⟩,
    ⟨some 19, none, .ext (.t 11) 2⟩,
    ⟨some 3, none, .mov (.t 17)⟩,
    ⟨some 4, none, .mov (.t 18)⟩,
    ⟨some 5, none, .mov (.t 19)⟩] [0, 3, 4, 5])
   (.seq (.region [⟨some 20, none, .mov (.t 0)⟩,
    ⟨some 21, none, .mov (.t 0)⟩,
    ⟨some 22, none, .mov (.t 0)⟩,
    ⟨some 23, none, .nilc (.t 22)⟩,
    ⟨some 24, none, .fa 0 (.t 23)⟩,
    ⟨some 25, none, .ld 1 false (.t 24)⟩,
    ⟨some 26, none, .mov (.t 4)⟩,
    ⟨some 27, none, .slV 1 (.t 25) (some (.t 26)) none none⟩,
    ⟨some 28, none, .mov (.t 5)⟩,
    ⟨some 29, none, .nilc (.t 20)⟩,
    ⟨some 30, none, .fa 0 (.t 29)⟩,
    ⟨none, none, .st 1 (.t 30) (.t 27)⟩,
    ⟨some 31, none, .nilc (.t 21)⟩,
    ⟨some 32, none, .fa 1 (.t 31)⟩,
    ⟨none, none, .st 1 (.t 32) (.t 28)⟩] [3])
   (.seq (.region [⟨some 33, none, .mov (.t 3)⟩,
    ⟨some 2, none, .mov (.t 33)⟩] [2])
   (.ret))))),
  [.t 2], 34, 1⟩
def A82 : Ann := ⟨[(0, [0]), (1, [0, 10]), (2, [2]), (3, [0, 3, 4, 5]), (4, [3]), (5, [2])], []⟩
set_option maxRecDepth 100000 in
theorem F82.ok : compF Try.prog A82 Try.f82 = some F82 := by kernel_rfl
theorem F82.fok : FOk Try.prog 82 F82 := fok_of mixed Try.func82 F82.ok

/-- (*cloakroom/req.cursor).numbers -/
def F83 : SFn := ⟨.seq (.region [⟨some 2, none, .mov (.c (.slice none 0 0))⟩] [0])
   (.seq (.region [⟨some 3, none, .mov (.c (.slice none 0 0))⟩] [0, 3])
   (.seq (.seq (.region [⟨some 5, none, .mov (.t 0)⟩,
    ⟨some 6, none, .call 130 [.t 5, .c (.int .u32 8)]⟩,
    ⟨some 4, none, .mov (.t 6)⟩] [0, 3, 4])
   (.block 0 (.loop (.seq (.seq (.region [⟨some 7, none, .mov (.t 4)⟩,
    ⟨some 8, none, .bin .gtr (.t 7) (.c (.int .u64 0))⟩,
    ⟨some 9, none, .mov (.t 8)⟩,
    ⟨some 10, some (9, true), .mov (.t 0)⟩,
    ⟨some 11, some (9, true), .nilc (.t 10)⟩,
    ⟨some 12, some (9, true), .fa 1 (.t 11)⟩,
    ⟨some 13, some (9, true), .ld 1 false (.t 12)⟩,
    ⟨some 14, some (9, true), .bin .eql (.t 13) (.c (.int .i64 0))⟩,
    ⟨some 15, none, .pick (.t 9) (.t 14) (.c (.bool false))⟩] [0, 3, 4, 15])
   (.cond (.t 15) (.skip) (.exit 0)))
   (.seq (.block 1 (.region [⟨some 18, none, .mov (.t 3)⟩,
    ⟨some 19, none, .mov (.t 0)⟩,
    ⟨some 20, none, .call 82 [.t 19]⟩,
    ⟨some 21, none, .bslice 1 1 [.int .u64 0] [(0, 1, .t 20)]⟩,
    ⟨some 22, none, .app 1 8 (.t 18) (.t 21)⟩,
    ⟨some 3, none, .mov (.t 22)⟩] [0, 3, 4]))
   (.region [⟨some 16, none, .mov (.t 4)⟩,
    ⟨some 17, none, .bin .sub (.t 16) (.c (.int .u64 1))⟩,
    ⟨some 4, none, .mov (.t 17)⟩] [0, 3, 4]))))))
   (.seq (.region [⟨some 23, none, .mov (.t 3)⟩,
    ⟨some 2, none, .mov (.t 23)⟩] [2])
   (.ret)))),
  [.t 2], 24, 1⟩
def A83 : Ann := ⟨[(0, [0]), (1, [0, 3]), (2, [0, 3, 4]), (3, [0, 3, 4, 15]), (4, [0, 3, 4]), (5, [0, 3, 4]), (6, [2])], []⟩
set_option maxRecDepth 100000 in
theorem F83.ok : compF Try.prog A83 Try.f83 = some F83 := by kernel_rfl
theorem F83.fok : FOk Try.prog 83 F83 := fok_of mixed Try.func83 F83.ok

/-- (*cloakroom/req.cursor).bytes -/
def F125 : SFn := ⟨.seq (.region [⟨some 4, none, .mov (.c (.slice none 0 0))⟩] [0, 1])
   (.seq (.region [⟨some 6, none, .mov (.t 0)⟩,
    ⟨some 7, none, .mov (.t 1)⟩,
    ⟨some 8, none, .mov (.t 0)⟩,
    ⟨some 9, none, .nilc (.t 8)⟩,
    ⟨some 10, none, .fa 0 (.t 9)⟩,
    ⟨some 11, none, .ld 1 false (.t 10)⟩,
    ⟨some 12, none, .lenV (.t 11)⟩,
    ⟨some 13, none, .conv .u64 (.t 12)⟩,
    ⟨some 14, none, .bin .gtr (.t 7) (.t 13)⟩,
    ⟨some 15, none, .call 81 [.t 6, .t 14, .c (.int .i64 3)]⟩] [0, 1])
   (.seq (.seq (.region [⟨some 16, none, .mov (.t 0)⟩,
    ⟨some 17, none, .nilc (.t 16)⟩,
    ⟨some 18, none, .fa 1 (.t 17)⟩,
    ⟨some 19, none, .ld 1 false (.t 18)⟩,
    ⟨some 20, none, .bin .neq (.t 19) (.c (.int .i64 0))⟩] [0, 1, 20])
   (.cond (.t 20) (.seq (.region [⟨some 4, none, .mov (.c (.slice none 0 0))⟩] [4])
   (.ret)) (.skip)))
   (.seq (.region [⟨some 21, none, .mov (.t 0)⟩,
    ⟨some 22, none, .nilc (.t 21)⟩,
    ⟨some 23, none, .fa 0 (.t 22)⟩,
    ⟨some 24, none, .ld 1 false (.t 23)⟩,
    ⟨some 25, none, .mov (.t 1)⟩,
    ⟨some 26, none, .slV 1 (.t 24) none (some (.t 25)) none⟩,
    ⟨some 27, none, .call 55 [.t 26]⟩,
    ⟨some 5, none, .mov (.t 27)⟩] [0, 1, 5])
   (.seq (.region [⟨some 28, none, .mov (.t 0)⟩,
    ⟨some 29, none, .mov (.t 0)⟩,
    ⟨some 30, none, .nilc (.t 29)⟩,
    ⟨some 31, none, .fa 0 (.t 30)⟩,
    ⟨some 32, none, .ld 1 false (.t 31)⟩,
    ⟨some 33, none, .mov (.t 1)⟩,
    ⟨some 34, none, .slV 1 (.t 32) (some (.t 33)) none none⟩,
    ⟨some 35, none, .nilc (.t 28)⟩,
    ⟨some 36, none, .fa 0 (.t 35)⟩,
    ⟨none, none, .st 1 (.t 36) (.t 34)⟩] [5])
   (.seq (.region [⟨some 37, none, .mov (.t 5)⟩,
    ⟨some 4, none, .mov (.t 37)⟩] [4])
   (.ret)))))),
  [.t 4], 38, 2⟩
def A125 : Ann := ⟨[(0, [0, 1]), (1, [0, 1]), (2, [0, 1, 20]), (3, [4]), (4, [0, 1, 5]), (5, [5]), (6, [4])], []⟩
set_option maxRecDepth 100000 in
theorem F125.ok : compF Try.prog A125 Try.f125 = some F125 := by kernel_rfl
theorem F125.fok : FOk Try.prog 125 F125 := fok_of mixed Try.func125 F125.ok

/-- (*cloakroom/req.cursor).name -/
def F126 : SFn := ⟨.seq (.region [⟨some 2, none, .mov (.c (.string { data := #[] }))⟩] [0])
   (.seq (.region [⟨some 3, none, .mov (.t 0)⟩,
    ⟨some 4, none, .mov (.t 0)⟩,
    ⟨some 5, none, .call 130 [.t 4, .c (.int .u32 32)]⟩,
    ⟨some 6, none, .call 125 [.t 3, .t 5]⟩,
    ⟨some 7, none, .toStr (.t 6)⟩,
    ⟨some 2, none, .mov (.t 7)⟩] [2])
   (.ret)),
  [.t 2], 8, 1⟩
def A126 : Ann := ⟨[(0, [0]), (1, [2])], []⟩
set_option maxRecDepth 100000 in
theorem F126.ok : compF Try.prog A126 Try.f126 = some F126 := by kernel_rfl
theorem F126.fok : FOk Try.prog 126 F126 := fok_of mixed Try.func126 F126.ok

/-- cloakroom/leb.PutU -/
def F128 : SFn := ⟨.seq (.region [⟨some 4, none, .mov (.c (.slice none 0 0))⟩] [0, 1])
   (.seq (.region [⟨some 5, none, .mov (.c (.slice none 0 0))⟩] [0, 1, 5])
   (.seq (.block 0 (.loop (.seq (.seq (.region [⟨some 6, none, .mov (.t 1)⟩,
    ⟨some 7, none, .bin .gtr (.t 6) (.c (.int .u64 127))⟩] [0, 1, 5, 7])
   (.cond (.t 7) (.skip) (.exit 0)))
   (.block 1 (.seq (.region [⟨some 8, none, .mov (.t 5)⟩,
    ⟨some 9, none, .mov (.t 1)⟩,
    ⟨some 10, none, .conv .u8 (.t 9)⟩,
    ⟨some 11, none, .bin .or (.t 10) (.c (.int .u8 128))⟩,
    ⟨some 12, none, .bslice 1 1 [.int .u8 0] [(0, 1, .t 11)]⟩,
    ⟨some 13, none, .app 1 1 (.t 8) (.t 12)⟩,
    ⟨some 5, none, .mov (.t 13)⟩] [0, 1, 5])
   (.region [⟨some 14, none, .mov (.t 1)⟩,
    ⟨some 15, none, .bin .shr (.t 14) (.c (.int .u64 7))⟩,
    ⟨some 1, none, .mov (.t 15)⟩] [0, 1, 5]))))))
   (.seq (.region [⟨some 16, none, .mov (.t 0)⟩,
    ⟨some 17, none, .mov (.t 5)⟩,
    ⟨some 18, none, .mov (.t 1)⟩,
    ⟨some 19, none, .conv .u8 (.t 18)⟩,
    ⟨some 20, none, .bslice 1 1 [.int .u8 0] [(0, 1, .t 19)]⟩,
    ⟨some 21, none, .app 1 1 (.t 17) (.t 20)⟩,
    ⟨some 22, none, .call 144 [.t 16, .t 21]⟩,
    ⟨some 4, none, .mov (.t 22)⟩] [4])
   (.ret)))),
  [.t 4], 23, 2⟩
def A128 : Ann := ⟨[(0, [0, 1]), (1, [0, 1, 5]), (2, [0, 1, 5, 7]), (3, [0, 1, 5]), (4, [0, 1, 5]), (5, [4])], []⟩
set_option maxRecDepth 100000 in
theorem F128.ok : compF Try.prog A128 Try.f128 = some F128 := by kernel_rfl
theorem F128.fok : FOk Try.prog 128 F128 := fok_of mixed Try.func128 F128.ok

/-- cloakroom/leb.U64 -/
def F129 : SFn := ⟨.seq (.region [⟨some 2, none, .mov (.c (.int .u64 0))⟩,
    ⟨some 3, none, .mov (.c (.int .i64 0))⟩,
    ⟨some 4, none, .mov (.c (.int .i64 0))⟩] [0])
   (.seq (.region [⟨some 5, none, .mov (.t 0)⟩,
    ⟨some 6, none, .call 145 [.t 5, .c (.int .i64 64), .c (.bool false)]⟩,
    ⟨some 7, none, .ext (.t 6) 0⟩,
    ⟨some 8, none, .ext (.t 6) 1⟩,
    ⟨some 9, none, .ext (.t 6) 2⟩,
    ⟨some 2, none, .mov (.t 7)⟩,
    ⟨some 3, none, .mov (.t 8)⟩,
    ⟨some 4, none, .mov (.t 9)⟩] [2, 3, 4])
   (.ret)),
  [.t 2, .t 3, .t 4], 10, 1⟩
def A129 : Ann := ⟨[(0, [0]), (1, [2, 3, 4])], []⟩
set_option maxRecDepth 100000 in
theorem F129.ok : compF Try.prog A129 Try.f129 = some F129 := by kernel_rfl
theorem F129.fok : FOk Try.prog 129 F129 := fok_of mixed Try.func129 F129.ok

/-- (*cloakroom/req.cursor).count -/
def F130 : SFn := ⟨.seq (.region [⟨some 4, none, .mov (.c (.int .u64 0))⟩] [0, 1])
   (.seq (.seq (.region [⟨some 8, none, .mov (.t 0)⟩,
    ⟨some 9, none, .nilc (.t 8)⟩,
    ⟨some 10, none, .fa 1 (.t 9)⟩,
    ⟨some 11, none, .ld 1 false (.t 10)⟩,
    ⟨some 12, none, .bin .neq (.t 11) (.c (.int .i64 0))⟩] [0, 1, 12])
   (.cond (.t 12) (.seq (.region [⟨some 4, none, .mov (.c (.int .u64 0))⟩] [4])
   (.ret)) (.skip)))
   (.seq (.region [⟨some 14, none, .mov (.t 0)⟩,
    ⟨some 15, none, .nilc (.t 14)⟩,
    ⟨some 16, none, .fa 0 (.t 15)⟩,
    ⟨some 17, none, .ld 1 false (.t 16)⟩,
    ⟨some 18, none, .call 146 [.t 17]⟩,
    ⟨some 13, none, .mov (.t 18)⟩,
    ⟨some 19, none, .ext (.t 13) 0⟩,
    ⟨some 20, none, .ext (.t 13) 1⟩,
    ⟨some 21, none, .ext (.t 13) 2⟩,
    ⟨some 5, none, .mov (.t 19)⟩,
    ⟨some 6, none, .mov (.t 20)⟩,
    ⟨some 7, none, .mov (.t 21)⟩] [0, 1, 5, 6, 7])
   (.seq (.region [⟨some 22, none, .mov (.t 0)⟩,
    ⟨some 23, none, .mov (.t 0)⟩,
    ⟨some 24, none, .mov (.t 0)⟩,
    ⟨some 25, none, .nilc (.t 24)⟩,
    ⟨some 26, none, .fa 0 (.t 25)⟩,
    ⟨some 27, none, .ld 1 false (.t 26)⟩,
    ⟨some 28, none, .mov (.t 6)⟩,
    ⟨some 29, none, .slV 1 (.t 27) (some (.t 28)) none none⟩,
    ⟨some 30, none, .mov (.t 7)⟩,
    ⟨some 31, none, .nilc (.t 22)⟩,
    ⟨some 32, none, .fa 0 (.t 31)⟩,
    ⟨none, none, .st 1 (.t 32) (.t 29)⟩,
    ⟨some 33, none, .nilc (.t 23)⟩,
    ⟨some 34, none, .fa 1 (.t 33)⟩,
    ⟨none, none, .st 1 (.t 34) (.t 30)⟩] [0, 1, 5])
   (.seq (.region [⟨some 35, none, .mov (.t 0)⟩,
    ⟨some 36, none, .mov (.t 5)⟩,
    ⟨some 37, none, .mov (.t 1)⟩,
    ⟨some 38, none, .bin .gtr (.t 36) (.t 37)⟩,
    ⟨some 39, none, .call 81 [.t 35, .t 38, .c (.int .i64 4)]⟩] [5])
   (.seq (.region [⟨some 40, none, .mov (.t 5)⟩,
    ⟨some 41, none, .conv .u64 (.t 40)⟩,
    ⟨some 4, none, .mov (.t 41)⟩] [4])
   (.ret)))))),
  [.t 4], 42, 2⟩
def A130 : Ann := ⟨[(0, [0, 1]), (1, [0, 1, 12]), (2, [4]), (3, [0, 1, 5, 6, 7]), (4, [0, 1, 5]), (5, [5]), (6, [4])], []⟩
set_option maxRecDepth 100000 in
theorem F130.ok : compF Try.prog A130 Try.f130 = some F130 := by kernel_rfl
theorem F130.fok : FOk Try.prog 130 F130 := fok_of mixed Try.func130 F130.ok

/-- cloakroom/leb.put -/
def F144 : SFn := ⟨.seq (.region [⟨some 4, none, .mov (.c (.slice none 0 0))⟩] [0, 1])
   (.seq (.region [⟨some 5, none, .mov (.t 0)⟩,
    ⟨some 6, none, .call 55 [.t 5]⟩,
    ⟨some 7, none, .mov (.t 1)⟩,
    ⟨some 8, none, .app 1 1 (.t 6) (.t 7)⟩,
    ⟨some 4, none, .mov (.t 8)⟩] [4])
   (.ret)),
  [.t 4], 9, 2⟩
def A144 : Ann := ⟨[(0, [0, 1]), (1, [4])], []⟩
set_option maxRecDepth 100000 in
theorem F144.ok : compF Try.prog A144 Try.f144 = some F144 := by kernel_rfl
theorem F144.fok : FOk Try.prog 144 F144 := fok_of mixed Try.func144 F144.ok

/-- cloakroom/leb.read -/
def F145 : SFn := ⟨.seq (.region [⟨some 6, none, .mov (.c (.int .u64 0))⟩,
    ⟨some 7, none, .mov (.c (.int .i64 0))⟩,
    ⟨some 8, none, .mov (.c (.int .i64 0))⟩] [0, 1, 2, 6, 7])
   (.seq (.region [⟨some 9, none, .mov (.c (.int .i64 0))⟩] [0, 1, 2, 6, 7, 9])
   (.block 0 (.loop (.seq (.block 1 (.seq (.seq (.region [⟨some 14, none, .mov (.t 7)⟩,
    ⟨some 15, none, .mov (.t 0)⟩,
    ⟨some 16, none, .lenV (.t 15)⟩,
    ⟨some 17, none, .bin .eql (.t 14) (.t 16)⟩] [0, 1, 2, 6, 7, 9, 17])
   (.cond (.t 17) (.seq (.region [⟨some 6, none, .mov (.c (.int .u64 0))⟩,
    ⟨some 7, none, .mov (.c (.int .i64 0))⟩,
    ⟨some 8, none, .mov (.c (.int .i64 3))⟩] [6, 7, 8])
   (.ret)) (.skip)))
   (.seq (.region [⟨some 18, none, .mov (.t 0)⟩,
    ⟨some 19, none, .mov (.t 7)⟩,
    ⟨some 20, none, .iaV 1 (.t 18) (.t 19)⟩,
    ⟨some 21, none, .ld 1 false (.t 20)⟩,
    ⟨some 10, none, .mov (.t 21)⟩] [0, 1, 2, 6, 7, 9, 10])
   (.seq (.region [⟨some 22, none, .mov (.t 7)⟩,
    ⟨some 23, none, .bin .add (.t 22) (.c (.int .i64 1))⟩,
    ⟨some 7, none, .mov (.t 23)⟩] [0, 1, 2, 6, 7, 9, 10])
   (.seq (.seq (.region [⟨some 24, none, .mov (.t 1)⟩,
    ⟨some 25, none, .mov (.t 9)⟩,
    ⟨some 26, none, .bin .sub (.t 24) (.t 25)⟩,
    ⟨some 11, none, .mov (.t 26)⟩] [0, 1, 2, 6, 7, 9, 10, 11])
   (.seq (.region [⟨some 27, none, .mov (.t 11)⟩,
    ⟨some 28, none, .bin .leq (.t 27) (.c (.int .i64 7))⟩,
    ⟨some 29, none, .mov (.t 28)⟩,
    ⟨some 30, some (29, true), .mov (.t 10)⟩,
    ⟨some 31, some (29, true), .mov (.t 11)⟩,
    ⟨some 32, some (29, true), .mov (.t 2)⟩,
    ⟨some 33, some (29, true), .call 151 [.t 30, .t 31, .t 32]⟩,
    ⟨some 34, some (29, true), .un .not (.t 33)⟩,
    ⟨some 35, none, .pick (.t 29) (.t 34) (.c (.bool false))⟩] [0, 1, 2, 6, 7, 9, 10, 35])
   (.cond (.t 35) (.seq (.region [⟨some 6, none, .mov (.c (.int .u64 0))⟩,
    ⟨some 7, none, .mov (.c (.int .i64 0))⟩,
    ⟨some 8, none, .mov (.c (.int .i64 2))⟩] [6, 7, 8])
   (.ret)) (.skip))))
   (.seq (.region [⟨some 36, none, .mov (.t 6)⟩,
    ⟨some 37, none, .mov (.t 10)⟩,
    ⟨some 38, none, .bin .and (.t 37) (.c (.int .u8 127))⟩,
    ⟨some 39, none, .conv .u64 (.t 38)⟩,
    ⟨some 40, none, .mov (.t 9)⟩,
    ⟨some 41, none, .bin .shl (.t 39) (.t 40)⟩,
    ⟨some 42, none, .bin .or (.t 36) (.t 41)⟩,
    ⟨some 6, none, .mov (.t 42)⟩] [0, 1, 2, 6, 7, 9, 10])
   (.seq (.seq (.region [⟨some 43, none, .mov (.t 10)⟩,
    ⟨some 44, none, .bin .and (.t 43) (.c (.int .u8 128))⟩,
    ⟨some 45, none, .bin .neq (.t 44) (.c (.int .u8 0))⟩] [0, 1, 2, 6, 7, 9, 10, 45])
   (.cond (.t 45) (.exit 1) (.skip)))
   (.seq (.seq (.region [⟨some 46, none, .mov (.t 2)⟩,
    ⟨some 47, none, .mov (.t 46)⟩,
    ⟨some 48, some (47, true), .mov (.t 10)⟩,
    ⟨some 49, some (47, true), .bin .and (.t 48) (.c (.int .u8 64))⟩,
    ⟨some 50, some (47, true), .bin .neq (.t 49) (.c (.int .u8 0))⟩,
    ⟨some 51, none, .pick (.t 47) (.t 50) (.c (.bool false))⟩,
    ⟨some 52, none, .mov (.t 51)⟩,
    ⟨some 53, some (52, true), .mov (.t 9)⟩,
    ⟨some 54, some (52, true), .bin .add (.t 53) (.c (.int .i64 7))⟩,
    ⟨some 55, some (52, true), .bin .lss (.t 54) (.c (.int .i64 64))⟩,
    ⟨some 56, none, .pick (.t 52) (.t 55) (.c (.bool false))⟩] [6, 7, 9, 56])
   (.cond (.t 56) (.region [⟨some 57, none, .mov (.t 6)⟩,
    ⟨some 58, none, .mov (.t 9)⟩,
    ⟨some 59, none, .bin .add (.t 58) (.c (.int .i64 7))⟩,
    ⟨some 60, none, .bin .shl (.c (.int .u64 18446744073709551615)) (.t 59)⟩,
    ⟨some 61, none, .bin .or (.t 57) (.t 60)⟩,
    ⟨some 6, none, .mov (.t 61)⟩] [6, 7]) (.skip)))
   (.seq (.region [⟨some 62, none, .mov (.t 6)⟩,
    ⟨some 63, none, .mov (.t 7)⟩,
    ⟨some 6, none, .mov (.t 62)⟩,
    ⟨some 7, none, .mov (.t 63)⟩,
    ⟨some 8, none, .mov (.c (.int .i64 0))⟩] [6, 7, 8])
   (.ret))))))))))
   (.region [⟨some 12, none, .mov (.t 9)⟩,
    ⟨some 13, none, .bin .add (.t 12) (.c (.int .i64 7))⟩,
    ⟨some 9, none, .mov (.t 13)⟩] [0, 1, 2, 6, 7, 9]))))),
  [.t 6, .t 7, .t 8], 64, 3⟩
def A145 : Ann := ⟨[(0, [0, 1, 2, 6, 7]), (1, [0, 1, 2, 6, 7, 9]), (2, [0, 1, 2, 6, 7, 9]), (3, [0, 1, 2, 6, 7, 9, 17]), (4, [6, 7, 8]), (5, [0, 1, 2, 6, 7, 9, 10]), (6, [0, 1, 2, 6, 7, 9, 10]), (7, [0, 1, 2, 6, 7, 9, 10, 11]), (8, [0, 1, 2, 6, 7, 9, 10, 35]), (9, [6, 7, 8]), (10, [0, 1, 2, 6, 7, 9, 10]), (11, [0, 1, 2, 6, 7, 9, 10, 45]), (12, [6, 7, 9, 56]), (13, [6, 7]), (14, [6, 7, 8])], []⟩
set_option maxRecDepth 100000 in
theorem F145.ok : compF Try.prog A145 Try.f145 = some F145 := by kernel_rfl
theorem F145.fok : FOk Try.prog 145 F145 := fok_of mixed Try.func145 F145.ok

/-- cloakroom/leb.U32 -/
def F146 : SFn := ⟨.seq (.region [⟨some 2, none, .mov (.c (.int .u32 0))⟩,
    ⟨some 3, none, .mov (.c (.int .i64 0))⟩,
    ⟨some 4, none, .mov (.c (.int .i64 0))⟩] [0])
   (.seq (.region [⟨some 7, none, .mov (.t 0)⟩,
    ⟨some 8, none, .call 145 [.t 7, .c (.int .i64 32), .c (.bool false)]⟩,
    ⟨some 6, none, .mov (.t 8)⟩,
    ⟨some 9, none, .ext (.t 6) 0⟩,
    ⟨some 10, none, .ext (.t 6) 1⟩,
    ⟨some 11, none, .ext (.t 6) 2⟩,
    ⟨some 5, none, .mov (.t 9)⟩,
    ⟨some 3, none, .mov (.t 10)⟩,
    ⟨some 4, none, .mov (.t 11)⟩] [3, 4, 5])
   (.seq (.region [⟨some 12, none, .mov (.t 5)⟩,
    ⟨some 13, none, .conv .u32 (.t 12)⟩,
    ⟨some 14, none, .mov (.t 3)⟩,
    ⟨some 15, none, .mov (.t 4)⟩,
    ⟨some 2, none, .mov (.t 13)⟩,
    ⟨some 3, none, .mov (.t 14)⟩,
    ⟨some 4, none, .mov (.t 15)⟩] [2, 3, 4])
   (.ret))),
  [.t 2, .t 3, .t 4], 16, 1⟩
def A146 : Ann := ⟨[(0, [0]), (1, [3, 4, 5]), (2, [2, 3, 4])], []⟩
set_option maxRecDepth 100000 in
theorem F146.ok : compF Try.prog A146 Try.f146 = some F146 := by kernel_rfl
theorem F146.fok : FOk Try.prog 146 F146 := fok_of mixed Try.func146 F146.ok

/-- cloakroom/leb.last -/
def F151 : SFn := ⟨.seq (.region [⟨some 6, none, .mov (.c (.bool false))⟩] [0, 1, 2])
   (.seq (.seq (.region [⟨some 8, none, .mov (.t 0)⟩,
    ⟨some 9, none, .bin .and (.t 8) (.c (.int .u8 128))⟩,
    ⟨some 10, none, .bin .neq (.t 9) (.c (.int .u8 0))⟩] [0, 1, 2, 10])
   (.cond (.t 10) (.seq (.region [⟨some 6, none, .mov (.c (.bool false))⟩] [6])
   (.ret)) (.skip)))
   (.seq (.seq (.region [⟨some 11, none, .mov (.t 2)⟩,
    ⟨some 12, none, .un .not (.t 11)⟩] [0, 1, 12])
   (.cond (.t 12) (.seq (.region [⟨some 13, none, .mov (.t 0)⟩,
    ⟨some 14, none, .mov (.t 1)⟩,
    ⟨some 15, none, .bin .shr (.t 13) (.t 14)⟩,
    ⟨some 16, none, .bin .eql (.t 15) (.c (.int .u8 0))⟩,
    ⟨some 6, none, .mov (.t 16)⟩] [6])
   (.ret)) (.skip)))
   (.seq (.region [⟨some 17, none, .mov (.t 0)⟩,
    ⟨some 18, none, .mov (.t 1)⟩,
    ⟨some 19, none, .bin .sub (.t 18) (.c (.int .i64 1))⟩,
    ⟨some 20, none, .bin .shr (.t 17) (.t 19)⟩,
    ⟨some 7, none, .mov (.t 20)⟩] [1, 7])
   (.seq (.region [⟨some 21, none, .mov (.t 7)⟩,
    ⟨some 22, none, .bin .eql (.t 21) (.c (.int .u8 0))⟩,
    ⟨some 23, none, .mov (.t 22)⟩,
    ⟨some 24, some (23, false), .mov (.t 7)⟩,
    ⟨some 25, some (23, false), .mov (.t 1)⟩,
    ⟨some 26, some (23, false), .bin .sub (.t 25) (.c (.int .i64 1))⟩,
    ⟨some 27, some (23, false), .bin .shr (.c (.int .u8 127)) (.t 26)⟩,
    ⟨some 28, some (23, false), .bin .eql (.t 24) (.t 27)⟩,
    ⟨some 29, none, .pick (.t 23) (.c (.bool true)) (.t 28)⟩,
    ⟨some 6, none, .mov (.t 29)⟩] [6])
   (.ret))))),
  [.t 6], 30, 3⟩
def A151 : Ann := ⟨[(0, [0, 1, 2]), (1, [0, 1, 2, 10]), (2, [6]), (3, [0, 1, 12]), (4, [6]), (5, [1, 7]), (6, [6])], []⟩
set_option maxRecDepth 100000 in
theorem F151.ok : compF Try.prog A151 Try.f151 = some F151 := by kernel_rfl
theorem F151.fok : FOk Try.prog 151 F151 := fok_of mixed Try.func151 F151.ok
end Go.Dx.SYtgfnehiaddemaaa
