/- The readings of functions, printed by a program of the prover's own. -/
import Derived.Test.YtocdemagjocggaaDx19
import Derived.Test.YtocdemagjocggaaChecked
import Derived.Eval
namespace Go.Dx.SYtocdemagjocggaa
open Go.Proofs
set_option linter.unusedVariables false
theorem mixed : Try.prog.follows .mixedOrders = true := Try.checked.mixed
/-- cloakroom/cloakroomlaw22.LockRoom -/
def F7 : SFn := ⟨.seq (.region [⟨some 2, none, .mov (.c (.bool false))⟩] [0])
   (.seq (.seq (.region [⟨some 12, none, .call 22 []⟩,
    ⟨some 13, none, .un .not (.t 12)⟩] [0, 13])
   (.cond (.t 13) (.seq (.region [⟨some 2, none, .mov (.c (.bool false))⟩] [2])
   (.ret)) (.skip)))
   (.seq (.region [⟨some 14, none, .call 23 []⟩,
    ⟨some 3, none, .mov (.t 14)⟩] [0, 3])
   (.seq (.region [⟨some 15, none, .mov (.t 0)⟩,
    ⟨some 16, none, .bin .rem (.t 15) (.c (.int .u8 12))⟩,
    ⟨some 17, none, .conv .i64 (.t 16)⟩,
    ⟨some 4, none, .mov (.t 17)⟩] [3, 4])
   (.seq (.seq (.region [⟨some 5, none, .mov (.c (.int .i64 0))⟩] [3, 4, 5])
   (.block 0 (.loop (.seq (.seq (.region [⟨some 18, none, .mov (.t 5)⟩,
    ⟨some 19, none, .mov (.t 4)⟩,
    ⟨some 20, none, .bin .lss (.t 18) (.t 19)⟩] [3, 4, 5, 20])
   (.cond (.t 20) (.skip) (.exit 0)))
   (.seq (.block 1 (.seq (.region [⟨some 24, none, .mov (.t 3)⟩,
    ⟨some 25, none, .mov (.t 5)⟩,
    ⟨some 26, none, .conv .u64 (.t 25)⟩,
    ⟨some 27, none, .call 24 [.t 24, .t 26]⟩,
    ⟨some 23, none, .mov (.t 27)⟩,
    ⟨some 28, none, .ext (.t 23) 0⟩,
    ⟨some 29, none, .ext (.t 23) 1⟩,
    ⟨some 6, none, .mov (.t 28)⟩,
    ⟨some 7, none, .mov (.t 29)⟩] [3, 4, 5, 6, 7])
   (.seq (.region [⟨some 8, none, .mov (.c (.int .i64 0))⟩] [3, 4, 5, 6, 7, 8])
   (.seq (.seq (.region [⟨some 30, none, .mov (.t 5)⟩,
    ⟨some 31, none, .bin .gtr (.t 30) (.c (.int .i64 3))⟩] [3, 4, 5, 6, 7, 8, 31])
   (.cond (.t 31) (.region [⟨some 8, none, .mov (.c (.int .i64 13))⟩] [3, 4, 5, 6, 7, 8]) (.skip)))
   (.seq (.region [⟨some 32, none, .mov (.t 7)⟩,
    ⟨some 33, none, .mov (.t 8)⟩,
    ⟨some 34, none, .bin .neq (.t 32) (.t 33)⟩,
    ⟨some 35, none, .mov (.t 34)⟩,
    ⟨some 36, some (35, false), .mov (.t 6)⟩,
    ⟨some 37, some (35, false), .mov (.t 5)⟩,
    ⟨some 38, some (35, false), .bin .eql (.t 37) (.c (.int .i64 0))⟩,
    ⟨some 39, some (35, false), .eqk true .bool (.t 36) (.t 38)⟩,
    ⟨some 40, none, .pick (.t 35) (.c (.bool true)) (.t 39)⟩] [3, 4, 5, 40])
   (.cond (.t 40) (.seq (.region [⟨some 2, none, .mov (.c (.bool false))⟩] [2])
   (.ret)) (.skip)))))))
   (.region [⟨some 21, none, .mov (.t 5)⟩,
    ⟨some 22, none, .bin .add (.t 21) (.c (.int .i64 1))⟩,
    ⟨some 5, none, .mov (.t 22)⟩] [3, 4, 5]))))))
   (.seq (.seq (.region [⟨some 9, none, .mov (.c (.int .i64 0))⟩] [3, 4, 9])
   (.block 2 (.loop (.seq (.seq (.region [⟨some 41, none, .mov (.t 9)⟩,
    ⟨some 42, none, .mov (.t 4)⟩,
    ⟨some 43, none, .mn (.t 42) (.c (.int .i64 4))⟩,
    ⟨some 44, none, .bin .lss (.t 41) (.t 43)⟩] [3, 4, 9, 44])
   (.cond (.t 44) (.skip) (.exit 2)))
   (.seq (.block 3 (.seq (.region [⟨some 48, none, .mov (.t 3)⟩,
    ⟨some 49, none, .mov (.t 9)⟩,
    ⟨some 50, none, .conv .u64 (.t 49)⟩,
    ⟨some 51, none, .call 24 [.t 48, .t 50]⟩,
    ⟨some 47, none, .mov (.t 51)⟩,
    ⟨some 52, none, .ext (.t 47) 0⟩,
    ⟨some 53, none, .ext (.t 47) 1⟩,
    ⟨some 10, none, .mov (.t 52)⟩,
    ⟨some 11, none, .mov (.t 53)⟩] [3, 4, 9, 11])
   (.seq (.region [⟨some 54, none, .mov (.t 11)⟩,
    ⟨some 55, none, .bin .neq (.t 54) (.c (.int .i64 11))⟩] [3, 4, 9, 55])
   (.cond (.t 55) (.seq (.region [⟨some 2, none, .mov (.c (.bool false))⟩] [2])
   (.ret)) (.skip)))))
   (.region [⟨some 45, none, .mov (.t 9)⟩,
    ⟨some 46, none, .bin .add (.t 45) (.c (.int .i64 1))⟩,
    ⟨some 9, none, .mov (.t 46)⟩] [3, 4, 9]))))))
   (.seq (.region [⟨some 56, none, .mov (.t 3)⟩,
    ⟨some 57, none, .call 27 [.t 56]⟩,
    ⟨some 58, none, .lenV (.t 57)⟩,
    ⟨some 59, none, .mov (.t 4)⟩,
    ⟨some 60, none, .bin .sub (.t 59) (.c (.int .i64 1))⟩,
    ⟨some 61, none, .mx (.t 60) (.c (.int .i64 0))⟩,
    ⟨some 62, none, .mn (.t 61) (.c (.int .i64 3))⟩,
    ⟨some 63, none, .bin .eql (.t 58) (.t 62)⟩,
    ⟨some 2, none, .mov (.t 63)⟩] [2])
   (.ret))))))),
  [.t 2], 64, 1⟩
def A7 : Ann := ⟨[(0, [0]), (1, [0, 13]), (2, [2]), (3, [0, 3]), (4, [3, 4]), (5, [3, 4, 5]), (6, [3, 4, 5, 20]), (7, [3, 4, 5]), (8, [3, 4, 5, 6, 7]), (9, [3, 4, 5, 6, 7, 8]), (10, [3, 4, 5, 6, 7, 8, 31]), (11, [3, 4, 5, 6, 7, 8]), (12, [3, 4, 5, 40]), (13, [2]), (14, [3, 4, 9]), (15, [3, 4, 9, 44]), (16, [3, 4, 9]), (17, [3, 4, 9, 11]), (18, [3, 4, 9, 55]), (19, [2]), (20, [2])], []⟩
set_option maxRecDepth 100000 in
theorem F7.ok : compF Try.prog A7 Try.f7 = some F7 := by kernel_rfl
theorem F7.fok : FOk Try.prog 7 F7 := fok_of mixed Try.func7 F7.ok

/-- cloakroom/cloakroomlaw22.begun -/
def F22 : SFn := ⟨.seq (.region [⟨some 0, none, .mov (.c (.bool false))⟩] [])
   (.seq (.region [⟨some 10, none, .call 23 []⟩,
    ⟨some 1, none, .mov (.t 10)⟩] [1])
   (.seq (.seq (.region [⟨some 11, none, .mov (.t 1)⟩,
    ⟨some 12, none, .eqk false .ptr (.t 11) (.c (.pointer none))⟩] [1, 12])
   (.cond (.t 12) (.seq (.region [⟨some 0, none, .mov (.c (.bool false))⟩] [0])
   (.ret)) (.skip)))
   (.seq (.region [⟨some 14, none, .mov (.t 1)⟩,
    ⟨some 15, none, .call 24 [.t 14, .c (.int .u64 1)]⟩,
    ⟨some 13, none, .mov (.t 15)⟩,
    ⟨some 16, none, .ext (.t 13) 0⟩,
    ⟨some 17, none, .ext (.t 13) 1⟩,
    ⟨some 2, none, .mov (.t 16)⟩,
    ⟨some 3, none, .mov (.t 17)⟩] [1, 2, 3])
   (.seq (.region [⟨some 19, none, .mov (.t 1)⟩,
    ⟨some 20, none, .call 24 [.t 19, .c (.int .u64 2)]⟩,
    ⟨some 18, none, .mov (.t 20)⟩,
    ⟨some 21, none, .ext (.t 18) 0⟩,
    ⟨some 22, none, .ext (.t 18) 1⟩,
    ⟨some 4, none, .mov (.t 21)⟩,
    ⟨some 5, none, .mov (.t 22)⟩] [1, 2, 3, 4, 5])
   (.seq (.region [⟨some 24, none, .mov (.t 1)⟩,
    ⟨some 25, none, .bslice 1 1 [.int .u64 0] [(0, 1, .c (.int .u64 1))]⟩,
    ⟨some 26, none, .call 25 [.t 24, .t 25]⟩,
    ⟨some 23, none, .mov (.t 26)⟩,
    ⟨some 27, none, .ext (.t 23) 0⟩,
    ⟨some 28, none, .ext (.t 23) 1⟩,
    ⟨some 6, none, .mov (.t 27)⟩,
    ⟨some 7, none, .mov (.t 28)⟩] [1, 2, 3, 4, 5, 6, 7])
   (.seq (.region [⟨some 30, none, .mov (.t 1)⟩,
    ⟨some 31, none, .call 26 [.t 30]⟩,
    ⟨some 29, none, .mov (.t 31)⟩,
    ⟨some 32, none, .ext (.t 29) 0⟩,
    ⟨some 33, none, .ext (.t 29) 1⟩,
    ⟨some 8, none, .mov (.t 32)⟩,
    ⟨some 9, none, .mov (.t 33)⟩] [1, 2, 3, 4, 5, 6, 7, 8, 9])
   (.seq (.region [⟨some 34, none, .mov (.t 2)⟩,
    ⟨some 35, none, .mov (.t 34)⟩,
    ⟨some 36, some (35, true), .mov (.t 3)⟩,
    ⟨some 37, some (35, true), .bin .eql (.t 36) (.c (.int .i64 0))⟩,
    ⟨some 38, none, .pick (.t 35) (.t 37) (.c (.bool false))⟩,
    ⟨some 39, none, .mov (.t 38)⟩,
    ⟨some 40, some (39, true), .mov (.t 4)⟩,
    ⟨some 41, some (39, true), .un .not (.t 40)⟩,
    ⟨some 42, none, .pick (.t 39) (.t 41) (.c (.bool false))⟩,
    ⟨some 43, none, .mov (.t 42)⟩,
    ⟨some 44, some (43, true), .mov (.t 5)⟩,
    ⟨some 45, some (43, true), .bin .eql (.t 44) (.c (.int .i64 0))⟩,
    ⟨some 46, none, .pick (.t 43) (.t 45) (.c (.bool false))⟩,
    ⟨some 47, none, .mov (.t 46)⟩,
    ⟨some 48, some (47, true), .mov (.t 7)⟩,
    ⟨some 49, none, .pick (.t 47) (.t 48) (.c (.bool false))⟩,
    ⟨some 50, none, .mov (.t 49)⟩,
    ⟨some 51, some (50, true), .mov (.t 6)⟩,
    ⟨some 52, some (50, true), .bin .eql (.t 51) (.c (.int .u64 2))⟩,
    ⟨some 53, none, .pick (.t 50) (.t 52) (.c (.bool false))⟩,
    ⟨some 54, none, .mov (.t 53)⟩,
    ⟨some 55, some (54, true), .mov (.t 9)⟩,
    ⟨some 56, none, .pick (.t 54) (.t 55) (.c (.bool false))⟩,
    ⟨some 57, none, .mov (.t 56)⟩,
    ⟨some 58, some (57, true), .mov (.t 8)⟩,
    ⟨some 59, some (57, true), .bin .eql (.t 58) (.c (.int .u64 2))⟩,
    ⟨some 60, none, .pick (.t 57) (.t 59) (.c (.bool false))⟩,
    ⟨some 61, none, .mov (.t 60)⟩,
    ⟨some 62, some (61, true), .mov (.t 1)⟩,
    ⟨some 63, some (61, true), .call 27 [.t 62]⟩,
    ⟨some 64, some (61, true), .lenV (.t 63)⟩,
    ⟨some 65, some (61, true), .bin .eql (.t 64) (.c (.int .i64 0))⟩,
    ⟨some 66, none, .pick (.t 61) (.t 65) (.c (.bool false))⟩,
    ⟨some 0, none, .mov (.t 66)⟩] [0])
   (.ret)))))))),
  [.t 0], 67, 0⟩
def A22 : Ann := ⟨[(0, []), (1, [1]), (2, [1, 12]), (3, [0]), (4, [1, 2, 3]), (5, [1, 2, 3, 4, 5]), (6, [1, 2, 3, 4, 5, 6, 7]), (7, [1, 2, 3, 4, 5, 6, 7, 8, 9]), (8, [0])], []⟩
set_option maxRecDepth 100000 in
theorem F22.ok : compF Try.prog A22 Try.f22 = some F22 := by kernel_rfl
theorem F22.fok : FOk Try.prog 22 F22 := fok_of mixed Try.func22 F22.ok

/-- cloakroom/lock.New -/
def F23 : SFn := ⟨.seq (.region [⟨some 0, none, .mov (.c (.pointer none))⟩] [])
   (.seq (.region [⟨some 1, none, .build [.slice none 0 0] []⟩,
    ⟨some 2, none, .box (.t 1)⟩,
    ⟨some 0, none, .mov (.t 2)⟩] [0])
   (.ret)),
  [.t 0], 3, 0⟩
def A23 : Ann := ⟨[(0, []), (1, [0])], []⟩
set_option maxRecDepth 100000 in
theorem F23.ok : compF Try.prog A23 Try.f23 = some F23 := by kernel_rfl
theorem F23.fok : FOk Try.prog 23 F23 := fok_of mixed Try.func23 F23.ok

/-- (*cloakroom/lock.Queue).Ask -/
def F24 : SFn := ⟨.seq (.region [⟨some 4, none, .mov (.c (.bool false))⟩,
    ⟨some 5, none, .mov (.c (.int .i64 0))⟩] [0, 1])
   (.seq (.block 0 (.seq (.region [⟨some 7, none, .mov (.t 0)⟩,
    ⟨some 8, none, .eqk false .ptr (.t 7) (.c (.pointer none))⟩,
    ⟨some 6, none, .mov (.t 8)⟩] [0, 1, 6])
   (.cond (.t 6) (.seq (.region [⟨some 4, none, .mov (.c (.bool false))⟩,
    ⟨some 5, none, .mov (.c (.int .i64 1))⟩] [4, 5])
   (.ret)) (.seq (.region [⟨some 10, none, .mov (.t 0)⟩,
    ⟨some 11, none, .nilc (.t 10)⟩,
    ⟨some 12, none, .fa 0 (.t 11)⟩,
    ⟨some 13, none, .fa 0 (.t 12)⟩,
    ⟨some 14, none, .ld 1 false (.t 13)⟩,
    ⟨some 15, none, .mov (.t 1)⟩,
    ⟨some 16, none, .call 52 [.t 14, .t 15]⟩,
    ⟨some 9, none, .mov (.t 16)⟩] [0, 1, 9])
   (.cond (.t 9) (.seq (.region [⟨some 4, none, .mov (.c (.bool false))⟩,
    ⟨some 5, none, .mov (.c (.int .i64 11))⟩] [4, 5])
   (.ret)) (.seq (.region [⟨some 18, none, .mov (.t 0)⟩,
    ⟨some 19, none, .nilc (.t 18)⟩,
    ⟨some 20, none, .fa 0 (.t 19)⟩,
    ⟨some 21, none, .fa 0 (.t 20)⟩,
    ⟨some 22, none, .ld 1 false (.t 21)⟩,
    ⟨some 23, none, .lenV (.t 22)⟩,
    ⟨some 24, none, .bin .gtr (.t 23) (.c (.int .i64 3))⟩,
    ⟨some 17, none, .mov (.t 24)⟩] [0, 1, 17])
   (.cond (.t 17) (.seq (.region [⟨some 4, none, .mov (.c (.bool false))⟩,
    ⟨some 5, none, .mov (.c (.int .i64 13))⟩] [4, 5])
   (.ret)) (.skip))))))))
   (.seq (.region [⟨some 25, none, .mov (.t 0)⟩,
    ⟨some 26, none, .mov (.t 0)⟩,
    ⟨some 27, none, .nilc (.t 26)⟩,
    ⟨some 28, none, .fa 0 (.t 27)⟩,
    ⟨some 29, none, .fa 0 (.t 28)⟩,
    ⟨some 30, none, .ld 1 false (.t 29)⟩,
    ⟨some 31, none, .mov (.t 1)⟩,
    ⟨some 32, none, .bslice 1 1 [.int .u64 0] [(0, 1, .t 31)]⟩,
    ⟨some 33, none, .app 1 8 (.t 30) (.t 32)⟩,
    ⟨some 34, none, .nilc (.t 25)⟩,
    ⟨some 35, none, .fa 0 (.t 34)⟩,
    ⟨some 36, none, .fa 0 (.t 35)⟩,
    ⟨none, none, .st 1 (.t 36) (.t 33)⟩] [0])
   (.seq (.region [⟨some 37, none, .mov (.t 0)⟩,
    ⟨some 38, none, .nilc (.t 37)⟩,
    ⟨some 39, none, .fa 0 (.t 38)⟩,
    ⟨some 40, none, .fa 0 (.t 39)⟩,
    ⟨some 41, none, .ld 1 false (.t 40)⟩,
    ⟨some 42, none, .lenV (.t 41)⟩,
    ⟨some 43, none, .bin .eql (.t 42) (.c (.int .i64 1))⟩,
    ⟨some 4, none, .mov (.t 43)⟩,
    ⟨some 5, none, .mov (.c (.int .i64 0))⟩] [4, 5])
   (.ret)))),
  [.t 4, .t 5], 44, 2⟩
def A24 : Ann := ⟨[(0, [0, 1]), (1, [0, 1, 6]), (2, [4, 5]), (3, [0, 1, 9]), (4, [4, 5]), (5, [0, 1, 17]), (6, [4, 5]), (7, [0]), (8, [4, 5])], []⟩
set_option maxRecDepth 100000 in
theorem F24.ok : compF Try.prog A24 Try.f24 = some F24 := by kernel_rfl
theorem F24.fok : FOk Try.prog 24 F24 := fok_of mixed Try.func24 F24.ok

/-- (*cloakroom/lock.Queue).Leave -/
def F25 : SFn := ⟨.seq (.region [⟨some 4, none, .mov (.c (.int .u64 0))⟩,
    ⟨some 5, none, .mov (.c (.bool false))⟩] [0, 1])
   (.seq (.seq (.region [⟨some 12, none, .mov (.t 0)⟩,
    ⟨some 13, none, .eqk false .ptr (.t 12) (.c (.pointer none))⟩] [0, 1, 13])
   (.cond (.t 13) (.seq (.region [⟨some 4, none, .mov (.c (.int .u64 0))⟩,
    ⟨some 5, none, .mov (.c (.bool false))⟩] [4, 5])
   (.ret)) (.skip)))
   (.seq (.region [⟨some 15, none, .mov (.t 0)⟩,
    ⟨some 16, none, .nilc (.t 15)⟩,
    ⟨some 17, none, .fa 0 (.t 16)⟩,
    ⟨some 18, none, .call 53 [.t 17]⟩,
    ⟨some 14, none, .mov (.t 18)⟩,
    ⟨some 19, none, .ext (.t 14) 0⟩,
    ⟨some 20, none, .ext (.t 14) 1⟩,
    ⟨some 6, none, .mov (.t 19)⟩,
    ⟨some 7, none, .mov (.t 20)⟩] [0, 1, 6, 7])
   (.seq (.seq (.region [⟨some 21, none, .mov (.t 1)⟩,
    ⟨some 22, none, .lenV (.t 21)⟩,
    ⟨some 23, none, .mov (.c (.int .i64 0))⟩] [0, 6, 7, 21, 22, 23])
   (.block 0 (.loop (.seq (.region [⟨some 24, none, .bin .lss (.t 23) (.t 22)⟩] [0, 6, 7, 21, 22, 23, 24])
   (.seq (.cond (.t 24) (.skip) (.exit 0))
   (.seq (.block 1 (.seq (.region [⟨some 25, none, .iaV 1 (.t 21) (.t 23)⟩,
    ⟨some 26, none, .ld 1 false (.t 25)⟩,
    ⟨some 9, none, .new [.int .u64 0]⟩,
    ⟨none, none, .st 1 (.t 9) (.t 26)⟩] [0, 6, 7, 9, 21, 22, 23])
   (.region [⟨some 27, none, .mov (.t 0)⟩,
    ⟨some 28, none, .mov (.t 0)⟩,
    ⟨some 29, none, .nilc (.t 28)⟩,
    ⟨some 30, none, .fa 0 (.t 29)⟩,
    ⟨some 31, none, .fa 0 (.t 30)⟩,
    ⟨some 32, none, .ld 1 false (.t 31)⟩,
    ⟨some 33, none, .mkF (.func 55) [] [.t 9]⟩,
    ⟨some 34, none, .call 54 [.t 32, .t 33]⟩,
    ⟨some 35, none, .nilc (.t 27)⟩,
    ⟨some 36, none, .fa 0 (.t 35)⟩,
    ⟨some 37, none, .fa 0 (.t 36)⟩,
    ⟨none, none, .st 1 (.t 37) (.t 34)⟩] [0, 6, 7, 21, 22, 23])))
   (.region [⟨some 38, none, .bin .add (.t 23) (.c (.int .i64 1))⟩,
    ⟨some 23, none, .mov (.t 38)⟩] [0, 6, 7, 21, 22, 23])))))))
   (.seq (.region [⟨some 40, none, .mov (.t 0)⟩,
    ⟨some 41, none, .nilc (.t 40)⟩,
    ⟨some 42, none, .fa 0 (.t 41)⟩,
    ⟨some 43, none, .call 53 [.t 42]⟩,
    ⟨some 39, none, .mov (.t 43)⟩,
    ⟨some 44, none, .ext (.t 39) 0⟩,
    ⟨some 45, none, .ext (.t 39) 1⟩,
    ⟨some 10, none, .mov (.t 44)⟩,
    ⟨some 11, none, .mov (.t 45)⟩] [6, 7, 10, 11])
   (.seq (.seq (.region [⟨some 46, none, .mov (.t 11)⟩,
    ⟨some 47, none, .un .not (.t 46)⟩,
    ⟨some 48, none, .mov (.t 47)⟩,
    ⟨some 49, some (48, false), .mov (.t 7)⟩,
    ⟨some 50, some (48, false), .mov (.t 49)⟩,
    ⟨some 51, some (50, true), .mov (.t 6)⟩,
    ⟨some 52, some (50, true), .mov (.t 10)⟩,
    ⟨some 53, some (50, true), .bin .eql (.t 51) (.t 52)⟩,
    ⟨some 54, some (48, false), .pick (.t 50) (.t 53) (.c (.bool false))⟩,
    ⟨some 55, none, .pick (.t 48) (.c (.bool true)) (.t 54)⟩] [10, 55])
   (.cond (.t 55) (.seq (.region [⟨some 4, none, .mov (.c (.int .u64 0))⟩,
    ⟨some 5, none, .mov (.c (.bool false))⟩] [4, 5])
   (.ret)) (.skip)))
   (.seq (.region [⟨some 56, none, .mov (.t 10)⟩,
    ⟨some 4, none, .mov (.t 56)⟩,
    ⟨some 5, none, .mov (.c (.bool true))⟩] [4, 5])
   (.ret))))))),
  [.t 4, .t 5], 57, 2⟩
def A25 : Ann := ⟨[(0, [0, 1]), (1, [0, 1, 13]), (2, [4, 5]), (3, [0, 1, 6, 7]), (4, [0, 6, 7, 21, 22, 23]), (5, [0, 6, 7, 21, 22, 23, 24]), (6, [0, 6, 7, 9, 21, 22, 23]), (7, [0, 6, 7, 21, 22, 23]), (8, [0, 6, 7, 21, 22, 23]), (9, [6, 7, 10, 11]), (10, [10, 55]), (11, [4, 5]), (12, [4, 5])], []⟩
set_option maxRecDepth 100000 in
theorem F25.ok : compF Try.prog A25 Try.f25 = some F25 := by kernel_rfl
theorem F25.fok : FOk Try.prog 25 F25 := fok_of mixed Try.func25 F25.ok

/-- (*cloakroom/lock.Queue).Owner -/
def F26 : SFn := ⟨.seq (.region [⟨some 2, none, .mov (.c (.int .u64 0))⟩,
    ⟨some 3, none, .mov (.c (.bool false))⟩] [0])
   (.seq (.seq (.region [⟨some 4, none, .mov (.t 0)⟩,
    ⟨some 5, none, .eqk false .ptr (.t 4) (.c (.pointer none))⟩] [0, 5])
   (.cond (.t 5) (.seq (.region [⟨some 2, none, .mov (.c (.int .u64 0))⟩,
    ⟨some 3, none, .mov (.c (.bool false))⟩] [2, 3])
   (.ret)) (.skip)))
   (.seq (.region [⟨some 6, none, .mov (.t 0)⟩,
    ⟨some 7, none, .nilc (.t 6)⟩,
    ⟨some 8, none, .fa 0 (.t 7)⟩,
    ⟨some 9, none, .call 53 [.t 8]⟩,
    ⟨some 10, none, .ext (.t 9) 0⟩,
    ⟨some 11, none, .ext (.t 9) 1⟩,
    ⟨some 2, none, .mov (.t 10)⟩,
    ⟨some 3, none, .mov (.t 11)⟩] [2, 3])
   (.ret))),
  [.t 2, .t 3], 12, 1⟩
def A26 : Ann := ⟨[(0, [0]), (1, [0, 5]), (2, [2, 3]), (3, [2, 3])], []⟩
set_option maxRecDepth 100000 in
theorem F26.ok : compF Try.prog A26 Try.f26 = some F26 := by kernel_rfl
theorem F26.fok : FOk Try.prog 26 F26 := fok_of mixed Try.func26 F26.ok

/-- (*cloakroom/lock.Queue).Waits -/
def F27 : SFn := ⟨.seq (.region [⟨some 2, none, .mov (.c (.slice none 0 0))⟩] [0])
   (.seq (.seq (.region [⟨some 3, none, .mov (.t 0)⟩,
    ⟨some 4, none, .eqk false .ptr (.t 3) (.c (.pointer none))⟩,
    ⟨some 5, none, .mov (.t 4)⟩,
    ⟨some 6, some (5, false), .mov (.t 0)⟩,
    ⟨some 7, some (5, false), .nilc (.t 6)⟩,
    ⟨some 8, some (5, false), .fa 0 (.t 7)⟩,
    ⟨some 9, some (5, false), .fa 0 (.t 8)⟩,
    ⟨some 10, some (5, false), .ld 1 false (.t 9)⟩,
    ⟨some 11, some (5, false), .lenV (.t 10)⟩,
    ⟨some 12, some (5, false), .bin .eql (.t 11) (.c (.int .i64 0))⟩,
    ⟨some 13, none, .pick (.t 5) (.c (.bool true)) (.t 12)⟩] [0, 13])
   (.cond (.t 13) (.seq (.region [⟨some 2, none, .mov (.c (.slice none 0 0))⟩] [2])
   (.ret)) (.skip)))
   (.seq (.region [⟨some 14, none, .mov (.t 0)⟩,
    ⟨some 15, none, .nilc (.t 14)⟩,
    ⟨some 16, none, .fa 0 (.t 15)⟩,
    ⟨some 17, none, .fa 0 (.t 16)⟩,
    ⟨some 18, none, .ld 1 false (.t 17)⟩,
    ⟨some 19, none, .slV 1 (.t 18) (some (.c (.int .i64 1))) none none⟩,
    ⟨some 20, none, .call 56 [.t 19]⟩,
    ⟨some 2, none, .mov (.t 20)⟩] [2])
   (.ret))),
  [.t 2], 21, 1⟩
def A27 : Ann := ⟨[(0, [0]), (1, [0, 13]), (2, [2]), (3, [2])], []⟩
set_option maxRecDepth 100000 in
theorem F27.ok : compF Try.prog A27 Try.f27 = some F27 := by kernel_rfl
theorem F27.fok : FOk Try.prog 27 F27 := fok_of mixed Try.func27 F27.ok

/-- slices.Contains[[]uint64,uint64] -/
def F52 : SFn := ⟨.seq (.region [⟨some 4, none, .mov (.c (.bool false))⟩] [0, 1])
   (.seq (.region [⟨some 5, none, .mov (.t 0)⟩,
    ⟨some 6, none, .mov (.t 1)⟩,
    ⟨some 7, none, .call 70 [.t 5, .t 6]⟩,
    ⟨some 8, none, .bin .geq (.t 7) (.c (.int .i64 0))⟩,
    ⟨some 4, none, .mov (.t 8)⟩] [4])
   (.ret)),
  [.t 4], 9, 2⟩
def A52 : Ann := ⟨[(0, [0, 1]), (1, [4])], []⟩
set_option maxRecDepth 100000 in
theorem F52.ok : compF Try.prog A52 Try.f52 = some F52 := by kernel_rfl
theorem F52.fok : FOk Try.prog 52 F52 := fok_of mixed Try.func52 F52.ok

/-- (*cloakroom/lock.line).first -/
def F53 : SFn := ⟨.seq (.region [⟨some 2, none, .mov (.c (.int .u64 0))⟩,
    ⟨some 3, none, .mov (.c (.bool false))⟩] [0])
   (.seq (.seq (.region [⟨some 4, none, .mov (.t 0)⟩,
    ⟨some 5, none, .nilc (.t 4)⟩,
    ⟨some 6, none, .fa 0 (.t 5)⟩,
    ⟨some 7, none, .ld 1 false (.t 6)⟩,
    ⟨some 8, none, .lenV (.t 7)⟩,
    ⟨some 9, none, .bin .eql (.t 8) (.c (.int .i64 0))⟩] [0, 9])
   (.cond (.t 9) (.seq (.region [⟨some 2, none, .mov (.c (.int .u64 0))⟩,
    ⟨some 3, none, .mov (.c (.bool false))⟩] [2, 3])
   (.ret)) (.skip)))
   (.seq (.region [⟨some 10, none, .mov (.t 0)⟩,
    ⟨some 11, none, .nilc (.t 10)⟩,
    ⟨some 12, none, .fa 0 (.t 11)⟩,
    ⟨some 13, none, .ld 1 false (.t 12)⟩,
    ⟨some 14, none, .iaV 1 (.t 13) (.c (.int .i64 0))⟩,
    ⟨some 15, none, .ld 1 false (.t 14)⟩,
    ⟨some 2, none, .mov (.t 15)⟩,
    ⟨some 3, none, .mov (.c (.bool true))⟩] [2, 3])
   (.ret))),
  [.t 2, .t 3], 16, 1⟩
def A53 : Ann := ⟨[(0, [0]), (1, [0, 9]), (2, [2, 3]), (3, [2, 3])], []⟩
set_option maxRecDepth 100000 in
theorem F53.ok : compF Try.prog A53 Try.f53 = some F53 := by kernel_rfl
theorem F53.fok : FOk Try.prog 53 F53 := fok_of mixed Try.func53 F53.ok

/-- slices.DeleteFunc[[]uint64,uint64] -/
def F54 : SFn := ⟨.seq (.region [⟨some 4, none, .mov (.c (.slice none 0 0))⟩] [0, 1])
   (.seq (.region [⟨some 8, none, .mov (.t 0)⟩,
    ⟨some 9, none, .mov (.t 1)⟩,
    ⟨some 10, none, .call 71 [.t 8, .t 9]⟩,
    ⟨some 5, none, .mov (.t 10)⟩] [0, 1, 5])
   (.seq (.seq (.region [⟨some 11, none, .mov (.t 5)⟩,
    ⟨some 12, none, .bin .eql (.t 11) (.c (.int .i64 (-1)))⟩] [0, 1, 5, 12])
   (.cond (.t 12) (.seq (.region [⟨some 13, none, .mov (.t 0)⟩,
    ⟨some 4, none, .mov (.t 13)⟩] [4])
   (.ret)) (.skip)))
   (.seq (.seq (.region [⟨some 14, none, .mov (.t 5)⟩,
    ⟨some 15, none, .bin .add (.t 14) (.c (.int .i64 1))⟩,
    ⟨some 6, none, .mov (.t 15)⟩] [0, 1, 5, 6])
   (.block 0 (.loop (.seq (.seq (.region [⟨some 16, none, .mov (.t 6)⟩,
    ⟨some 17, none, .mov (.t 0)⟩,
    ⟨some 18, none, .lenV (.t 17)⟩,
    ⟨some 19, none, .bin .lss (.t 16) (.t 18)⟩] [0, 1, 5, 6, 19])
   (.cond (.t 19) (.skip) (.exit 0)))
   (.seq (.block 1 (.seq (.region [⟨some 22, none, .mov (.t 0)⟩,
    ⟨some 23, none, .mov (.t 6)⟩,
    ⟨some 24, none, .iaV 1 (.t 22) (.t 23)⟩,
    ⟨some 25, none, .ld 1 false (.t 24)⟩,
    ⟨some 7, none, .mov (.t 25)⟩] [0, 1, 5, 6, 7])
   (.seq (.region [⟨some 26, none, .mov (.t 1)⟩,
    ⟨some 27, none, .mov (.t 7)⟩,
    ⟨some 28, none, .callv (.t 26) [.t 27]⟩,
    ⟨some 29, none, .un .not (.t 28)⟩] [0, 1, 5, 6, 7, 29])
   (.cond (.t 29) (.seq (.region [⟨some 30, none, .mov (.t 0)⟩,
    ⟨some 31, none, .mov (.t 5)⟩,
    ⟨some 32, none, .mov (.t 7)⟩,
    ⟨some 33, none, .iaV 1 (.t 30) (.t 31)⟩,
    ⟨none, none, .st 1 (.t 33) (.t 32)⟩] [0, 1, 5, 6])
   (.region [⟨some 34, none, .mov (.t 5)⟩,
    ⟨some 35, none, .bin .add (.t 34) (.c (.int .i64 1))⟩,
    ⟨some 5, none, .mov (.t 35)⟩] [0, 1, 5, 6])) (.skip)))))
   (.region [⟨some 20, none, .mov (.t 6)⟩,
    ⟨some 21, none, .bin .add (.t 20) (.c (.int .i64 1))⟩,
    ⟨some 6, none, .mov (.t 21)⟩] [0, 1, 5, 6]))))))
   (.seq (.region [⟨some 36, none, .mov (.t 0)⟩,
    ⟨some 37, none, .mov (.t 5)⟩,
    ⟨some 38, none, .slV 1 (.t 36) (some (.t 37)) none none⟩,
    ⟨none, none, .clr 1 [.int .u64 0] (.t 38)⟩] [0, 5])
   (.seq (.region [⟨some 39, none, .mov (.t 0)⟩,
    ⟨some 40, none, .mov (.t 5)⟩,
    ⟨some 41, none, .slV 1 (.t 39) none (some (.t 40)) none⟩,
    ⟨some 4, none, .mov (.t 41)⟩] [4])
   (.ret)))))),
  [.t 4], 42, 2⟩
def A54 : Ann := ⟨[(0, [0, 1]), (1, [0, 1, 5]), (2, [0, 1, 5, 12]), (3, [4]), (4, [0, 1, 5, 6]), (5, [0, 1, 5, 6, 19]), (6, [0, 1, 5, 6]), (7, [0, 1, 5, 6, 7]), (8, [0, 1, 5, 6, 7, 29]), (9, [0, 1, 5, 6]), (10, [0, 1, 5, 6]), (11, [0, 5]), (12, [4])], []⟩
set_option maxRecDepth 100000 in
theorem F54.ok : compF Try.prog A54 Try.f54 = some F54 := by kernel_rfl
theorem F54.fok : FOk Try.prog 54 F54 := fok_of mixed Try.func54 F54.ok

/-- (*cloakroom/lock.Queue).Leave$1 -/
def F55 : SFn := ⟨.seq (.region [⟨some 3, none, .mov (.c (.bool false))⟩] [0, 1])
   (.seq (.region [⟨some 4, none, .mov (.t 0)⟩,
    ⟨some 5, none, .ld 1 false (.t 1)⟩,
    ⟨some 6, none, .bin .eql (.t 4) (.t 5)⟩,
    ⟨some 3, none, .mov (.t 6)⟩] [3])
   (.ret)),
  [.t 3], 7, 2⟩
def A55 : Ann := ⟨[(0, [0, 1]), (1, [3])], []⟩
set_option maxRecDepth 100000 in
theorem F55.ok : compF Try.prog A55 Try.f55 = some F55 := by kernel_rfl
theorem F55.fok : FOk Try.prog 55 F55 := fok_of mixed Try.func55 F55.ok

/-- slices.Clone[[]uint64,uint64] -/
def F56 : SFn := ⟨.seq (.region [⟨some 2, none, .mov (.c (.slice none 0 0))⟩] [0])
   (.seq (.seq (.region [⟨some 3, none, .mov (.t 0)⟩,
    ⟨some 4, none, .eqk false .slice (.t 3) (.c (.slice none 0 0))⟩] [0, 4])
   (.cond (.t 4) (.seq (.region [⟨some 2, none, .mov (.c (.slice none 0 0))⟩] [2])
   (.ret)) (.skip)))
   (.seq (.region [⟨some 5, none, .bslice 0 1 [.int .u64 0] []⟩,
    ⟨some 6, none, .mov (.t 0)⟩,
    ⟨some 7, none, .app 1 8 (.t 5) (.t 6)⟩,
    ⟨some 2, none, .mov (.t 7)⟩] [2])
   (.ret))),
  [.t 2], 8, 1⟩
def A56 : Ann := ⟨[(0, [0]), (1, [0, 4]), (2, [2]), (3, [2])], []⟩
set_option maxRecDepth 100000 in
theorem F56.ok : compF Try.prog A56 Try.f56 = some F56 := by kernel_rfl
theorem F56.fok : FOk Try.prog 56 F56 := fok_of mixed Try.func56 F56.ok

/-- slices.Index[[]uint64,uint64] -/
def F70 : SFn := ⟨.seq (.region [⟨some 4, none, .mov (.c (.int .i64 0))⟩] [0, 1])
   (.seq (.seq (.region [⟨some 6, none, .mov (.t 0)⟩,
    ⟨some 7, none, .lenV (.t 6)⟩,
    ⟨some 8, none, .mov (.c (.int .i64 0))⟩] [0, 1, 7, 8])
   (.block 0 (.loop (.seq (.region [⟨some 9, none, .bin .lss (.t 8) (.t 7)⟩] [0, 1, 7, 8, 9])
   (.seq (.cond (.t 9) (.skip) (.exit 0))
   (.seq (.block 1 (.seq (.region [⟨some 10, none, .mov (.t 8)⟩,
    ⟨some 5, none, .mov (.t 10)⟩] [0, 1, 5, 7, 8])
   (.seq (.region [⟨some 11, none, .mov (.t 1)⟩,
    ⟨some 12, none, .mov (.t 0)⟩,
    ⟨some 13, none, .mov (.t 5)⟩,
    ⟨some 14, none, .iaV 1 (.t 12) (.t 13)⟩,
    ⟨some 15, none, .ld 1 false (.t 14)⟩,
    ⟨some 16, none, .bin .eql (.t 11) (.t 15)⟩] [0, 1, 5, 7, 8, 16])
   (.cond (.t 16) (.seq (.region [⟨some 17, none, .mov (.t 5)⟩,
    ⟨some 4, none, .mov (.t 17)⟩] [4])
   (.ret)) (.skip)))))
   (.region [⟨some 18, none, .bin .add (.t 8) (.c (.int .i64 1))⟩,
    ⟨some 8, none, .mov (.t 18)⟩] [0, 1, 7, 8])))))))
   (.seq (.region [⟨some 4, none, .mov (.c (.int .i64 (-1)))⟩] [4])
   (.ret))),
  [.t 4], 19, 2⟩
def A70 : Ann := ⟨[(0, [0, 1]), (1, [0, 1, 7, 8]), (2, [0, 1, 7, 8, 9]), (3, [0, 1, 5, 7, 8]), (4, [0, 1, 5, 7, 8, 16]), (5, [4]), (6, [0, 1, 7, 8]), (7, [4])], []⟩
set_option maxRecDepth 100000 in
theorem F70.ok : compF Try.prog A70 Try.f70 = some F70 := by kernel_rfl
theorem F70.fok : FOk Try.prog 70 F70 := fok_of mixed Try.func70 F70.ok

/-- slices.IndexFunc[[]uint64,uint64] -/
def F71 : SFn := ⟨.seq (.region [⟨some 4, none, .mov (.c (.int .i64 0))⟩] [0, 1])
   (.seq (.seq (.region [⟨some 6, none, .mov (.t 0)⟩,
    ⟨some 7, none, .lenV (.t 6)⟩,
    ⟨some 8, none, .mov (.c (.int .i64 0))⟩] [0, 1, 7, 8])
   (.block 0 (.loop (.seq (.region [⟨some 9, none, .bin .lss (.t 8) (.t 7)⟩] [0, 1, 7, 8, 9])
   (.seq (.cond (.t 9) (.skip) (.exit 0))
   (.seq (.block 1 (.seq (.region [⟨some 10, none, .mov (.t 8)⟩,
    ⟨some 5, none, .mov (.t 10)⟩] [0, 1, 5, 7, 8])
   (.seq (.region [⟨some 11, none, .mov (.t 1)⟩,
    ⟨some 12, none, .mov (.t 0)⟩,
    ⟨some 13, none, .mov (.t 5)⟩,
    ⟨some 14, none, .iaV 1 (.t 12) (.t 13)⟩,
    ⟨some 15, none, .ld 1 false (.t 14)⟩,
    ⟨some 16, none, .callv (.t 11) [.t 15]⟩] [0, 1, 5, 7, 8, 16])
   (.cond (.t 16) (.seq (.region [⟨some 17, none, .mov (.t 5)⟩,
    ⟨some 4, none, .mov (.t 17)⟩] [4])
   (.ret)) (.skip)))))
   (.region [⟨some 18, none, .bin .add (.t 8) (.c (.int .i64 1))⟩,
    ⟨some 8, none, .mov (.t 18)⟩] [0, 1, 7, 8])))))))
   (.seq (.region [⟨some 4, none, .mov (.c (.int .i64 (-1)))⟩] [4])
   (.ret))),
  [.t 4], 19, 2⟩
def A71 : Ann := ⟨[(0, [0, 1]), (1, [0, 1, 7, 8]), (2, [0, 1, 7, 8, 9]), (3, [0, 1, 5, 7, 8]), (4, [0, 1, 5, 7, 8, 16]), (5, [4]), (6, [0, 1, 7, 8]), (7, [4])], []⟩
set_option maxRecDepth 100000 in
theorem F71.ok : compF Try.prog A71 Try.f71 = some F71 := by kernel_rfl
theorem F71.fok : FOk Try.prog 71 F71 := fok_of mixed Try.func71 F71.ok
end Go.Dx.SYtocdemagjocggaa
