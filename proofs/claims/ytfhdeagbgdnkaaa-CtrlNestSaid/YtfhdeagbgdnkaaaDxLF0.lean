/- The readings of functions, printed by a program of the prover's own. -/
import Derived.Test.YtfhdeagbgdnkaaaDx19
import Derived.Test.YtfhdeagbgdnkaaaChecked
import Derived.Eval
namespace Go.Dx.SYtfhdeagbgdnkaaa
open Go.Proofs
set_option linter.unusedVariables false
theorem mixed : Try.prog.follows .mixedOrders = true := Try.checked.mixed
/-- cloakroom/cloakroomlaw5.OpAll -/
def F3 : SFn := ⟨.seq (.region [⟨some 2, none, .mov (.c (.bool false))⟩] [0])
   (.seq (.seq (.region [⟨some 7, none, .call 15 []⟩,
    ⟨some 8, none, .un .not (.t 7)⟩] [0, 8])
   (.cond (.t 8) (.seq (.region [⟨some 2, none, .mov (.c (.bool false))⟩] [2])
   (.ret)) (.skip)))
   (.seq (.region [⟨some 10, none, .mov (.t 0)⟩,
    ⟨some 11, none, .call 16 [.t 10]⟩,
    ⟨some 9, none, .mov (.t 11)⟩,
    ⟨some 12, none, .ext (.t 9) 0⟩,
    ⟨some 13, none, .ext (.t 9) 1⟩,
    ⟨some 3, none, .mov (.t 12)⟩,
    ⟨some 4, none, .mov (.t 13)⟩] [0, 3, 4])
   (.seq (.region [⟨some 15, none, .mov (.t 0)⟩,
    ⟨some 16, none, .call 17 [.t 15]⟩,
    ⟨some 14, none, .mov (.t 16)⟩,
    ⟨some 17, none, .ext (.t 14) 0⟩,
    ⟨some 18, none, .ext (.t 14) 1⟩,
    ⟨some 5, none, .mov (.t 17)⟩,
    ⟨some 6, none, .mov (.t 18)⟩] [0, 3, 4, 5, 6])
   (.seq (.region [⟨some 19, none, .mov (.t 3)⟩,
    ⟨some 20, none, .mov (.t 5)⟩,
    ⟨some 21, none, .bin .eql (.t 19) (.t 20)⟩,
    ⟨some 22, none, .mov (.t 21)⟩,
    ⟨some 23, some (22, true), .mov (.t 4)⟩,
    ⟨some 24, some (22, true), .mov (.t 6)⟩,
    ⟨some 25, some (22, true), .bin .eql (.t 23) (.t 24)⟩,
    ⟨some 26, none, .pick (.t 22) (.t 25) (.c (.bool false))⟩,
    ⟨some 27, none, .mov (.t 26)⟩,
    ⟨some 28, some (27, true), .mov (.t 0)⟩,
    ⟨some 29, some (27, true), .call 18 [.t 28]⟩,
    ⟨some 30, some (27, true), .mov (.t 0)⟩,
    ⟨some 31, some (27, true), .call 19 [.t 30]⟩,
    ⟨some 32, some (27, true), .bin .eql (.t 29) (.t 31)⟩,
    ⟨some 33, none, .pick (.t 27) (.t 32) (.c (.bool false))⟩,
    ⟨some 2, none, .mov (.t 33)⟩] [2])
   (.ret))))),
  [.t 2], 34, 1⟩
def A3 : Ann := ⟨[(0, [0]), (1, [0, 8]), (2, [2]), (3, [0, 3, 4]), (4, [0, 3, 4, 5, 6]), (5, [2])], []⟩
set_option maxRecDepth 100000 in
theorem F3.ok : compF Try.prog A3 Try.f3 = some F3 := by kernel_rfl
theorem F3.fok : FOk Try.prog 3 F3 := fok_of mixed Try.func3 F3.ok

/-- cloakroom/cloakroomlaw5.OpNames -/
def F4 : SFn := ⟨.seq (.region [⟨some 0, none, .mov (.c (.bool false))⟩] [])
   (.seq (.seq (.region [⟨some 6, none, .call 15 []⟩,
    ⟨some 7, none, .un .not (.t 6)⟩] [7])
   (.cond (.t 7) (.seq (.region [⟨some 0, none, .mov (.c (.bool false))⟩] [0])
   (.ret)) (.skip)))
   (.seq (.region [⟨some 8, none, .call 20 []⟩,
    ⟨some 9, none, .call 21 []⟩,
    ⟨some 1, none, .mov (.t 8)⟩,
    ⟨some 2, none, .mov (.t 9)⟩] [1, 2])
   (.seq (.seq (.region [⟨some 10, none, .mov (.t 1)⟩,
    ⟨some 11, none, .lenV (.t 10)⟩,
    ⟨some 12, none, .mov (.t 2)⟩,
    ⟨some 13, none, .lenV (.t 12)⟩,
    ⟨some 14, none, .bin .neq (.t 11) (.t 13)⟩] [1, 2, 14])
   (.cond (.t 14) (.seq (.region [⟨some 0, none, .mov (.c (.bool false))⟩] [0])
   (.ret)) (.skip)))
   (.seq (.seq (.region [⟨some 3, none, .mov (.c (.int .i64 0))⟩] [1, 2, 3])
   (.block 0 (.loop (.seq (.seq (.region [⟨some 15, none, .mov (.t 3)⟩,
    ⟨some 16, none, .mov (.t 1)⟩,
    ⟨some 17, none, .lenV (.t 16)⟩,
    ⟨some 18, none, .bin .lss (.t 15) (.t 17)⟩] [1, 2, 3, 18])
   (.cond (.t 18) (.skip) (.exit 0)))
   (.seq (.block 1 (.seq (.region [⟨some 22, none, .mov (.t 1)⟩,
    ⟨some 23, none, .mov (.t 3)⟩,
    ⟨some 24, none, .iaV 1 (.t 22) (.t 23)⟩,
    ⟨some 25, none, .ld 1 false (.t 24)⟩,
    ⟨some 26, none, .call 16 [.t 25]⟩,
    ⟨some 21, none, .mov (.t 26)⟩,
    ⟨some 27, none, .ext (.t 21) 0⟩,
    ⟨some 28, none, .ext (.t 21) 1⟩,
    ⟨some 4, none, .mov (.t 27)⟩,
    ⟨some 5, none, .mov (.t 28)⟩] [1, 2, 3, 5])
   (.seq (.region [⟨some 29, none, .mov (.t 1)⟩,
    ⟨some 30, none, .mov (.t 3)⟩,
    ⟨some 31, none, .iaV 1 (.t 29) (.t 30)⟩,
    ⟨some 32, none, .ld 1 false (.t 31)⟩,
    ⟨some 33, none, .mov (.t 2)⟩,
    ⟨some 34, none, .mov (.t 3)⟩,
    ⟨some 35, none, .iaV 1 (.t 33) (.t 34)⟩,
    ⟨some 36, none, .ld 1 false (.t 35)⟩,
    ⟨some 37, none, .bin .neq (.t 32) (.t 36)⟩,
    ⟨some 38, none, .mov (.t 37)⟩,
    ⟨some 39, some (38, false), .mov (.t 5)⟩,
    ⟨some 40, some (38, false), .bin .neq (.t 39) (.c (.int .i64 0))⟩,
    ⟨some 41, none, .pick (.t 38) (.c (.bool true)) (.t 40)⟩] [1, 2, 3, 41])
   (.cond (.t 41) (.seq (.region [⟨some 0, none, .mov (.c (.bool false))⟩] [0])
   (.ret)) (.skip)))))
   (.region [⟨some 19, none, .mov (.t 3)⟩,
    ⟨some 20, none, .bin .add (.t 19) (.c (.int .i64 1))⟩,
    ⟨some 3, none, .mov (.t 20)⟩] [1, 2, 3]))))))
   (.seq (.region [⟨some 0, none, .mov (.c (.bool true))⟩] [0])
   (.ret)))))),
  [.t 0], 42, 0⟩
def A4 : Ann := ⟨[(0, []), (1, [7]), (2, [0]), (3, [1, 2]), (4, [1, 2, 14]), (5, [0]), (6, [1, 2, 3]), (7, [1, 2, 3, 18]), (8, [1, 2, 3]), (9, [1, 2, 3, 5]), (10, [1, 2, 3, 41]), (11, [0]), (12, [0])], [(10, [(0, []), (1, []), (2, []), (3, []), (4, []), (5, []), (6, []), (7, []), (8, []), (9, []), (10, []), (11, []), (12, [])], [(2, [0, 1]), (3, [0, 1, 2]), (6, [4, 5]), (7, [4, 5, 6]), (8, [0, 1, 2, 3, 4, 5, 6, 7]), (9, [0, 1, 2, 3, 4, 5, 6, 7, 8]), (10, [0, 1, 2, 3, 4, 5, 6, 7, 8, 9]), (11, [0, 1, 2, 3, 4, 5, 6, 7, 8, 9, 10]), (12, [0, 1, 2, 3, 4, 5, 6, 7, 8, 9, 10, 11])])]⟩
set_option maxRecDepth 100000 in
theorem F4.ok : compF Try.prog A4 Try.f4 = some F4 := by kernel_rfl
theorem F4.fok : FOk Try.prog 4 F4 := fok_of mixed Try.func4 F4.ok

/-- cloakroom/cloakroomlaw10.CtrlAll -/
def F7 : SFn := ⟨.seq (.region [⟨some 2, none, .mov (.c (.bool false))⟩] [0])
   (.seq (.seq (.region [⟨some 9, none, .call 22 []⟩,
    ⟨some 10, none, .un .not (.t 9)⟩] [0, 10])
   (.cond (.t 10) (.seq (.region [⟨some 2, none, .mov (.c (.bool false))⟩] [2])
   (.ret)) (.skip)))
   (.seq (.seq (.region [⟨some 11, none, .mov (.t 0)⟩,
    ⟨some 12, none, .lenV (.t 11)⟩,
    ⟨some 13, none, .bin .gtr (.t 12) (.c (.int .i64 60))⟩] [0, 13])
   (.cond (.t 13) (.seq (.region [⟨some 2, none, .mov (.c (.bool true))⟩] [2])
   (.ret)) (.skip)))
   (.seq (.region [⟨some 3, none, .mov (.c (.slice none 0 0))⟩] [0, 3])
   (.seq (.seq (.region [⟨some 4, none, .mov (.c (.int .i64 0))⟩] [0, 3, 4])
   (.block 0 (.loop (.seq (.seq (.region [⟨some 14, none, .mov (.t 4)⟩,
    ⟨some 15, none, .mov (.t 0)⟩,
    ⟨some 16, none, .lenV (.t 15)⟩,
    ⟨some 17, none, .bin .lss (.t 14) (.t 16)⟩] [0, 3, 4, 17])
   (.cond (.t 17) (.skip) (.exit 0)))
   (.seq (.block 1 (.region [⟨some 20, none, .mov (.t 3)⟩,
    ⟨some 21, none, .bslice 8 1 [.int .i64 0] [(0, 1, .c (.int .i64 2)), (1, 1, .c (.int .i64 3)), (2, 1, .c (.int .i64 4)), (3, 1, .c (.int .i64 5)), (4, 1, .c (.int .i64 11)), (5, 1, .c (.int .i64 11)), (6, 1, .c (.int .i64 11)), (7, 1, .c (.int .i64 1))]⟩,
    ⟨some 22, none, .mov (.t 0)⟩,
    ⟨some 23, none, .mov (.t 4)⟩,
    ⟨some 24, none, .iaV 1 (.t 22) (.t 23)⟩,
    ⟨some 25, none, .ld 1 false (.t 24)⟩,
    ⟨some 26, none, .bin .rem (.t 25) (.c (.int .u8 8))⟩,
    ⟨some 27, none, .iaV 1 (.t 21) (.t 26)⟩,
    ⟨some 28, none, .ld 1 false (.t 27)⟩,
    ⟨some 29, none, .build [.int .i64 0, .int .u32 0, .int .u32 0, .int .u64 0, .slice none 0 0, .int .i64 0] [(0, 1, .t 28)]⟩,
    ⟨some 30, none, .bslice 1 6 [.int .i64 0, .int .u32 0, .int .u32 0, .int .u64 0, .slice none 0 0, .int .i64 0] [(0, 6, .t 29)]⟩,
    ⟨some 31, none, .app 6 56 (.t 20) (.t 30)⟩,
    ⟨some 3, none, .mov (.t 31)⟩] [0, 3, 4]))
   (.region [⟨some 18, none, .mov (.t 4)⟩,
    ⟨some 19, none, .bin .add (.t 18) (.c (.int .i64 1))⟩,
    ⟨some 4, none, .mov (.t 19)⟩] [0, 3, 4]))))))
   (.seq (.region [⟨some 33, none, .mov (.t 3)⟩,
    ⟨some 34, none, .call 23 [.t 33]⟩,
    ⟨some 32, none, .mov (.t 34)⟩,
    ⟨some 35, none, .ext (.t 32) 0⟩,
    ⟨some 36, none, .ext (.t 32) 1⟩,
    ⟨some 5, none, .mov (.t 35)⟩,
    ⟨some 6, none, .mov (.t 36)⟩] [3, 5, 6])
   (.seq (.region [⟨some 38, none, .mov (.t 3)⟩,
    ⟨some 39, none, .call 24 [.t 38]⟩,
    ⟨some 37, none, .mov (.t 39)⟩,
    ⟨some 40, none, .ext (.t 37) 0⟩,
    ⟨some 41, none, .ext (.t 37) 1⟩,
    ⟨some 7, none, .mov (.t 40)⟩,
    ⟨some 8, none, .mov (.t 41)⟩] [3, 5, 6, 7, 8])
   (.seq (.region [⟨some 42, none, .mov (.t 6)⟩,
    ⟨some 43, none, .mov (.t 8)⟩,
    ⟨some 44, none, .eqk false .bool (.t 42) (.t 43)⟩,
    ⟨some 45, none, .mov (.t 44)⟩,
    ⟨some 46, some (45, true), .mov (.t 5)⟩,
    ⟨some 47, some (45, true), .mov (.t 7)⟩,
    ⟨some 48, some (45, true), .call 25 [.t 46, .t 47]⟩,
    ⟨some 49, none, .pick (.t 45) (.t 48) (.c (.bool false))⟩,
    ⟨some 50, none, .mov (.t 49)⟩,
    ⟨some 51, some (50, true), .mov (.t 3)⟩,
    ⟨some 52, some (50, true), .call 26 [.t 51]⟩,
    ⟨some 53, some (50, true), .mov (.t 3)⟩,
    ⟨some 54, some (50, true), .call 27 [.t 53]⟩,
    ⟨some 55, some (50, true), .bin .eql (.t 52) (.t 54)⟩,
    ⟨some 56, none, .pick (.t 50) (.t 55) (.c (.bool false))⟩,
    ⟨some 2, none, .mov (.t 56)⟩] [2])
   (.ret)))))))),
  [.t 2], 57, 1⟩
def A7 : Ann := ⟨[(0, [0]), (1, [0, 10]), (2, [2]), (3, [0, 13]), (4, [2]), (5, [0, 3]), (6, [0, 3, 4]), (7, [0, 3, 4, 17]), (8, [0, 3, 4]), (9, [0, 3, 4]), (10, [3, 5, 6]), (11, [3, 5, 6, 7, 8]), (12, [2])], []⟩
set_option maxRecDepth 100000 in
theorem F7.ok : compF Try.prog A7 Try.f7 = some F7 := by kernel_rfl
theorem F7.fok : FOk Try.prog 7 F7 := fok_of mixed Try.func7 F7.ok

/-- cloakroom/cloakroomlaw10.CtrlMade -/
def F8 : SFn := ⟨.seq (.region [⟨some 2, none, .mov (.c (.bool false))⟩] [0])
   (.seq (.seq (.region [⟨some 9, none, .call 22 []⟩,
    ⟨some 10, none, .un .not (.t 9)⟩] [0, 10])
   (.cond (.t 10) (.seq (.region [⟨some 2, none, .mov (.c (.bool false))⟩] [2])
   (.ret)) (.skip)))
   (.seq (.seq (.region [⟨some 11, none, .mov (.t 0)⟩,
    ⟨some 12, none, .lenV (.t 11)⟩,
    ⟨some 13, none, .bin .gtr (.t 12) (.c (.int .i64 150))⟩] [0, 13])
   (.cond (.t 13) (.seq (.region [⟨some 2, none, .mov (.c (.bool true))⟩] [2])
   (.ret)) (.skip)))
   (.seq (.region [⟨some 14, none, .mov (.t 0)⟩,
    ⟨some 15, none, .call 28 [.t 14]⟩,
    ⟨some 16, none, .call 29 [.t 15]⟩,
    ⟨some 3, none, .new [.slice none 0 0, .slice none 0 0, .slice none 0 0, .slice none 0 0, .slice none 0 0, .slice none 0 0, .bool false, .int .u32 0, .slice none 0 0, .bool false, .int .u32 0, .slice none 0 0, .slice none 0 0]⟩,
    ⟨none, none, .st 13 (.t 3) (.t 16)⟩] [3])
   (.seq (.seq (.region [⟨some 4, none, .mov (.c (.int .i64 0))⟩] [3, 4])
   (.block 0 (.loop (.seq (.seq (.region [⟨some 17, none, .mov (.t 4)⟩,
    ⟨some 18, none, .fa 11 (.t 3)⟩,
    ⟨some 19, none, .ld 1 false (.t 18)⟩,
    ⟨some 20, none, .lenV (.t 19)⟩,
    ⟨some 21, none, .bin .lss (.t 17) (.t 20)⟩] [3, 4, 21])
   (.cond (.t 21) (.skip) (.exit 0)))
   (.seq (.block 1 (.seq (.region [⟨some 25, none, .fa 11 (.t 3)⟩,
    ⟨some 26, none, .ld 1 false (.t 25)⟩,
    ⟨some 27, none, .mov (.t 4)⟩,
    ⟨some 28, none, .iaV 2 (.t 26) (.t 27)⟩,
    ⟨some 29, none, .fa 1 (.t 28)⟩,
    ⟨some 30, none, .ld 1 false (.t 29)⟩,
    ⟨some 31, none, .call 23 [.t 30]⟩,
    ⟨some 24, none, .mov (.t 31)⟩,
    ⟨some 32, none, .ext (.t 24) 0⟩,
    ⟨some 33, none, .ext (.t 24) 1⟩,
    ⟨some 5, none, .mov (.t 32)⟩,
    ⟨some 6, none, .mov (.t 33)⟩] [3, 4, 5, 6])
   (.seq (.region [⟨some 35, none, .fa 11 (.t 3)⟩,
    ⟨some 36, none, .ld 1 false (.t 35)⟩,
    ⟨some 37, none, .mov (.t 4)⟩,
    ⟨some 38, none, .iaV 2 (.t 36) (.t 37)⟩,
    ⟨some 39, none, .fa 1 (.t 38)⟩,
    ⟨some 40, none, .ld 1 false (.t 39)⟩,
    ⟨some 41, none, .call 24 [.t 40]⟩,
    ⟨some 34, none, .mov (.t 41)⟩,
    ⟨some 42, none, .ext (.t 34) 0⟩,
    ⟨some 43, none, .ext (.t 34) 1⟩,
    ⟨some 7, none, .mov (.t 42)⟩,
    ⟨some 8, none, .mov (.t 43)⟩] [3, 4, 5, 6, 7, 8])
   (.seq (.region [⟨some 44, none, .mov (.t 6)⟩,
    ⟨some 45, none, .un .not (.t 44)⟩,
    ⟨some 46, none, .mov (.t 45)⟩,
    ⟨some 47, some (46, false), .mov (.t 8)⟩,
    ⟨some 48, some (46, false), .un .not (.t 47)⟩,
    ⟨some 49, none, .pick (.t 46) (.c (.bool true)) (.t 48)⟩,
    ⟨some 50, none, .mov (.t 49)⟩,
    ⟨some 51, some (50, false), .mov (.t 5)⟩,
    ⟨some 52, some (50, false), .mov (.t 7)⟩,
    ⟨some 53, some (50, false), .call 25 [.t 51, .t 52]⟩,
    ⟨some 54, some (50, false), .un .not (.t 53)⟩,
    ⟨some 55, none, .pick (.t 50) (.c (.bool true)) (.t 54)⟩,
    ⟨some 56, none, .mov (.t 55)⟩,
    ⟨some 57, some (56, false), .fa 11 (.t 3)⟩,
    ⟨some 58, some (56, false), .ld 1 false (.t 57)⟩,
    ⟨some 59, some (56, false), .mov (.t 4)⟩,
    ⟨some 60, some (56, false), .iaV 2 (.t 58) (.t 59)⟩,
    ⟨some 61, some (56, false), .fa 1 (.t 60)⟩,
    ⟨some 62, some (56, false), .ld 1 false (.t 61)⟩,
    ⟨some 64, some (56, false), .fa 11 (.t 3)⟩,
    ⟨some 65, some (56, false), .ld 1 false (.t 64)⟩,
    ⟨some 66, some (56, false), .mov (.t 4)⟩,
    ⟨some 67, some (56, false), .iaV 2 (.t 65) (.t 66)⟩,
    ⟨some 68, some (56, false), .fa 1 (.t 67)⟩,
    ⟨some 69, some (56, false), .ld 1 false (.t 68)⟩,
    ⟨some 63, some (56, false), .call 26 [.t 62]⟩,
    ⟨none, some (56, false), .chk 1 false (.t 64) 65⟩,
    ⟨none, some (56, false), .chk 1 false (.t 68) 69⟩,
    ⟨some 70, some (56, false), .call 27 [.t 69]⟩,
    ⟨some 71, some (56, false), .bin .neq (.t 63) (.t 70)⟩,
    ⟨some 72, none, .pick (.t 56) (.c (.bool true)) (.t 71)⟩] [3, 4, 72])
   (.cond (.t 72) (.seq (.region [⟨some 2, none, .mov (.c (.bool false))⟩] [2])
   (.ret)) (.skip))))))
   (.region [⟨some 22, none, .mov (.t 4)⟩,
    ⟨some 23, none, .bin .add (.t 22) (.c (.int .i64 1))⟩,
    ⟨some 4, none, .mov (.t 23)⟩] [3, 4]))))))
   (.seq (.region [⟨some 2, none, .mov (.c (.bool true))⟩] [2])
   (.ret)))))),
  [.t 2], 73, 1⟩
def A8 : Ann := ⟨[(0, [0]), (1, [0, 10]), (2, [2]), (3, [0, 13]), (4, [2]), (5, [3]), (6, [3, 4]), (7, [3, 4, 21]), (8, [3, 4]), (9, [3, 4, 5, 6]), (10, [3, 4, 5, 6, 7, 8]), (11, [3, 4, 72]), (12, [2]), (13, [2])], [(11, [(0, []), (1, []), (2, []), (3, []), (4, []), (5, []), (6, []), (7, []), (8, []), (9, []), (10, []), (11, []), (12, []), (13, []), (14, []), (15, []), (16, []), (17, []), (18, []), (20, []), (21, []), (22, []), (23, []), (24, []), (25, []), (19, [21, 25]), (26, []), (27, []), (28, [])], [(1, [0]), (2, [0, 1]), (3, [0, 1, 2]), (4, [0, 1, 2, 3]), (5, [0, 1, 2, 3, 4]), (6, [0, 1, 2, 3, 4, 5]), (7, [0, 1, 2, 3, 4, 5, 6]), (8, [0, 1, 2, 3, 4, 5, 6]), (9, [0, 1, 2, 3, 4, 5, 6, 7, 8]), (10, [0, 1, 2, 3, 4, 5, 6, 7, 8, 9]), (11, [0, 1, 2, 3, 4, 5, 6, 7, 8, 9, 10]), (12, [0, 1, 2, 3, 4, 5, 6, 7, 8, 9, 10, 11]), (13, [0, 1, 2, 3, 4, 5, 6, 7, 8, 9, 10, 11, 12]), (14, [0, 1, 2, 3, 4, 5, 6, 7, 8, 9, 10, 11, 12, 13]), (15, [0, 1, 2, 3, 4, 5, 6, 7, 8, 9, 10, 11, 12]), (16, [0, 1, 2, 3, 4, 5, 6, 7, 8, 9, 10, 11, 12, 13, 14, 15]), (17, [0, 1, 2, 3, 4, 5, 6, 7, 8, 9, 10, 11, 12, 13, 14, 15, 16]), (18, [0, 1, 2, 3, 4, 5, 6, 7, 8, 9, 10, 11, 12, 13, 14, 15, 16, 17]), (19, [0, 1, 2, 3, 4, 5, 6, 7, 8, 9, 10, 11, 12, 13, 14, 15, 16, 17, 18]), (20, [0, 1, 2, 3, 4, 5, 6, 7, 8, 9, 10, 11, 12]), (21, [0, 1, 2, 3, 4, 5, 6, 7, 8, 9, 10, 11, 12, 20]), (22, [0, 1, 2, 3, 4, 5, 6, 7, 8, 9, 10, 11, 12]), (23, [0, 1, 2, 3, 4, 5, 6, 7, 8, 9, 10, 11, 12, 20, 21, 22]), (24, [0, 1, 2, 3, 4, 5, 6, 7, 8, 9, 10, 11, 12, 20, 21, 22, 23]), (25, [0, 1, 2, 3, 4, 5, 6, 7, 8, 9, 10, 11, 12, 20, 21, 22, 23, 24]), (26, [0, 1, 2, 3, 4, 5, 6, 7, 8, 9, 10, 11, 12, 13, 14, 15, 16, 17, 18, 19, 20, 21, 22, 23, 24, 25]), (27, [0, 1, 2, 3, 4, 5, 6, 7, 8, 9, 10, 11, 12, 13, 14, 15, 16, 17, 18, 19, 20, 21, 22, 23, 24, 25, 26]), (28, [0, 1, 2, 3, 4, 5, 6, 7, 8, 9, 10, 11, 12, 13, 14, 15, 16, 17, 18, 19, 20, 21, 22, 23, 24, 25, 26, 27])])]⟩
set_option maxRecDepth 100000 in
theorem F8.ok : compF Try.prog A8 Try.f8 = some F8 := by kernel_rfl
theorem F8.fok : FOk Try.prog 8 F8 := fok_of mixed Try.func8 F8.ok

/-- cloakroom/cloakroomlaw10.CtrlNest -/
def F9 : SFn := ⟨.seq (.region [⟨some 2, none, .mov (.c (.bool false))⟩] [0])
   (.seq (.seq (.region [⟨some 14, none, .call 22 []⟩,
    ⟨some 15, none, .un .not (.t 14)⟩] [0, 15])
   (.cond (.t 15) (.seq (.region [⟨some 2, none, .mov (.c (.bool false))⟩] [2])
   (.ret)) (.skip)))
   (.seq (.seq (.region [⟨some 16, none, .mov (.t 0)⟩,
    ⟨some 17, none, .lenV (.t 16)⟩,
    ⟨some 18, none, .bin .gtr (.t 17) (.c (.int .i64 150))⟩] [0, 18])
   (.cond (.t 18) (.seq (.region [⟨some 2, none, .mov (.c (.bool true))⟩] [2])
   (.ret)) (.skip)))
   (.seq (.region [⟨some 19, none, .mov (.t 0)⟩,
    ⟨some 20, none, .call 28 [.t 19]⟩,
    ⟨some 21, none, .call 29 [.t 20]⟩,
    ⟨some 3, none, .new [.slice none 0 0, .slice none 0 0, .slice none 0 0, .slice none 0 0, .slice none 0 0, .slice none 0 0, .bool false, .int .u32 0, .slice none 0 0, .bool false, .int .u32 0, .slice none 0 0, .slice none 0 0]⟩,
    ⟨none, none, .st 13 (.t 3) (.t 21)⟩] [3])
   (.seq (.region [⟨some 22, none, .fa 11 (.t 3)⟩,
    ⟨some 23, none, .ld 1 false (.t 22)⟩,
    ⟨some 24, none, .iaV 2 (.t 23) (.c (.int .i64 0))⟩,
    ⟨some 25, none, .fa 1 (.t 24)⟩,
    ⟨some 26, none, .ld 1 false (.t 25)⟩,
    ⟨some 4, none, .mov (.t 26)⟩] [4])
   (.seq (.region [⟨some 28, none, .mov (.t 4)⟩,
    ⟨some 29, none, .call 23 [.t 28]⟩,
    ⟨some 27, none, .mov (.t 29)⟩,
    ⟨some 30, none, .ext (.t 27) 0⟩,
    ⟨some 31, none, .ext (.t 27) 1⟩,
    ⟨some 5, none, .mov (.t 30)⟩,
    ⟨some 6, none, .mov (.t 31)⟩] [4, 5, 6])
   (.seq (.region [⟨some 7, none, .mov (.c (.int .i64 0))⟩] [4, 5, 6, 7])
   (.seq (.seq (.region [⟨some 8, none, .mov (.c (.int .i64 0))⟩] [4, 5, 6, 7, 8])
   (.block 0 (.loop (.seq (.seq (.region [⟨some 32, none, .mov (.t 8)⟩,
    ⟨some 33, none, .mov (.t 4)⟩,
    ⟨some 34, none, .lenV (.t 33)⟩,
    ⟨some 35, none, .bin .lss (.t 32) (.t 34)⟩] [4, 5, 6, 7, 8, 35])
   (.cond (.t 35) (.skip) (.exit 0)))
   (.seq (.block 1 (.seq (.region [⟨some 39, none, .mov (.t 5)⟩,
    ⟨some 40, none, .mov (.t 8)⟩,
    ⟨some 41, none, .look false (.agg ⟨[.int .i64 0, .int .i64 0]⟩) true (.t 39) (.t 40)⟩,
    ⟨some 38, none, .mov (.t 41)⟩,
    ⟨some 42, none, .ext (.t 38) 0⟩,
    ⟨some 43, none, .ext (.t 38) 1⟩,
    ⟨some 9, none, .new [.int .i64 0, .int .i64 0]⟩,
    ⟨none, none, .st 2 (.t 9) (.t 42)⟩,
    ⟨some 10, none, .mov (.t 43)⟩] [4, 5, 6, 7, 8, 9, 10])
   (.seq (.seq (.region [⟨some 44, none, .mov (.t 10)⟩,
    ⟨some 45, none, .mov (.t 4)⟩,
    ⟨some 46, none, .mov (.t 8)⟩,
    ⟨some 47, none, .iaV 6 (.t 45) (.t 46)⟩,
    ⟨some 48, none, .fa 0 (.t 47)⟩,
    ⟨some 49, none, .ld 1 false (.t 48)⟩,
    ⟨some 50, none, .bin .geq (.t 49) (.c (.int .i64 2))⟩,
    ⟨some 51, none, .mov (.t 50)⟩,
    ⟨some 52, some (51, true), .mov (.t 4)⟩,
    ⟨some 53, some (51, true), .mov (.t 8)⟩,
    ⟨some 54, some (51, true), .iaV 6 (.t 52) (.t 53)⟩,
    ⟨some 55, some (51, true), .fa 0 (.t 54)⟩,
    ⟨some 56, some (51, true), .ld 1 false (.t 55)⟩,
    ⟨some 57, some (51, true), .bin .leq (.t 56) (.c (.int .i64 4))⟩,
    ⟨some 58, none, .pick (.t 51) (.t 57) (.c (.bool false))⟩,
    ⟨some 59, none, .eqk true .bool (.t 44) (.t 58)⟩] [4, 5, 6, 7, 8, 9, 10, 59])
   (.cond (.t 59) (.seq (.region [⟨some 2, none, .mov (.c (.bool false))⟩] [2])
   (.ret)) (.skip)))
   (.seq (.seq (.region [⟨some 60, none, .mov (.t 10)⟩,
    ⟨some 61, none, .un .not (.t 60)⟩] [4, 5, 6, 7, 8, 9, 61])
   (.cond (.t 61) (.exit 1) (.skip)))
   (.seq (.region [⟨some 62, none, .mov (.t 7)⟩,
    ⟨some 63, none, .bin .add (.t 62) (.c (.int .i64 1))⟩,
    ⟨some 7, none, .mov (.t 63)⟩] [4, 5, 6, 7, 8, 9])
   (.seq (.seq (.region [⟨some 64, none, .fa 1 (.t 9)⟩,
    ⟨some 65, none, .ld 1 false (.t 64)⟩,
    ⟨some 66, none, .mov (.t 8)⟩,
    ⟨some 67, none, .bin .leq (.t 65) (.t 66)⟩,
    ⟨some 68, none, .mov (.t 67)⟩,
    ⟨some 69, some (68, false), .fa 1 (.t 9)⟩,
    ⟨some 70, some (68, false), .ld 1 false (.t 69)⟩,
    ⟨some 71, some (68, false), .mov (.t 4)⟩,
    ⟨some 72, some (68, false), .lenV (.t 71)⟩,
    ⟨some 73, some (68, false), .bin .sub (.t 72) (.c (.int .i64 1))⟩,
    ⟨some 74, some (68, false), .bin .geq (.t 70) (.t 73)⟩,
    ⟨some 75, none, .pick (.t 68) (.c (.bool true)) (.t 74)⟩,
    ⟨some 76, none, .mov (.t 75)⟩,
    ⟨some 77, some (76, false), .mov (.t 4)⟩,
    ⟨some 78, some (76, false), .fa 1 (.t 9)⟩,
    ⟨some 79, some (76, false), .ld 1 false (.t 78)⟩,
    ⟨some 80, some (76, false), .iaV 6 (.t 77) (.t 79)⟩,
    ⟨some 81, some (76, false), .fa 0 (.t 80)⟩,
    ⟨some 82, some (76, false), .ld 1 false (.t 81)⟩,
    ⟨some 83, some (76, false), .bin .neq (.t 82) (.c (.int .i64 11))⟩,
    ⟨some 84, none, .pick (.t 76) (.c (.bool true)) (.t 83)⟩,
    ⟨some 85, none, .mov (.t 84)⟩,
    ⟨some 86, some (85, false), .fa 0 (.t 9)⟩,
    ⟨some 87, some (85, false), .ld 1 false (.t 86)⟩,
    ⟨some 88, some (85, false), .bin .geq (.t 87) (.c (.int .i64 0))⟩,
    ⟨some 89, some (85, false), .mov (.t 88)⟩,
    ⟨some 90, some (89, true), .fa 0 (.t 9)⟩,
    ⟨some 91, some (89, true), .ld 1 false (.t 90)⟩,
    ⟨some 92, some (89, true), .mov (.t 8)⟩,
    ⟨some 93, some (89, true), .bin .leq (.t 91) (.t 92)⟩,
    ⟨some 94, some (89, true), .mov (.t 93)⟩,
    ⟨some 95, some (94, false), .fa 0 (.t 9)⟩,
    ⟨some 96, some (94, false), .ld 1 false (.t 95)⟩,
    ⟨some 97, some (94, false), .fa 1 (.t 9)⟩,
    ⟨some 98, some (94, false), .ld 1 false (.t 97)⟩,
    ⟨some 99, some (94, false), .bin .geq (.t 96) (.t 98)⟩,
    ⟨some 100, some (89, true), .pick (.t 94) (.c (.bool true)) (.t 99)⟩,
    ⟨some 101, some (89, true), .mov (.t 100)⟩,
    ⟨some 102, some (101, false), .mov (.t 4)⟩,
    ⟨some 103, some (101, false), .fa 0 (.t 9)⟩,
    ⟨some 104, some (101, false), .ld 1 false (.t 103)⟩,
    ⟨some 105, some (101, false), .iaV 6 (.t 102) (.t 104)⟩,
    ⟨some 106, some (101, false), .fa 0 (.t 105)⟩,
    ⟨some 107, some (101, false), .ld 1 false (.t 106)⟩,
    ⟨some 108, some (101, false), .bin .neq (.t 107) (.c (.int .i64 5))⟩,
    ⟨some 109, some (89, true), .pick (.t 101) (.c (.bool true)) (.t 108)⟩,
    ⟨some 110, some (89, true), .mov (.t 109)⟩,
    ⟨some 111, some (110, false), .mov (.t 4)⟩,
    ⟨some 112, some (110, false), .mov (.t 8)⟩,
    ⟨some 113, some (110, false), .iaV 6 (.t 111) (.t 112)⟩,
    ⟨some 114, some (110, false), .fa 0 (.t 113)⟩,
    ⟨some 115, some (110, false), .ld 1 false (.t 114)⟩,
    ⟨some 116, some (110, false), .bin .neq (.t 115) (.c (.int .i64 4))⟩,
    ⟨some 117, some (89, true), .pick (.t 110) (.c (.bool true)) (.t 116)⟩,
    ⟨some 118, some (85, false), .pick (.t 89) (.t 117) (.c (.bool false))⟩,
    ⟨some 119, none, .pick (.t 85) (.c (.bool true)) (.t 118)⟩] [4, 5, 6, 7, 8, 9, 119])
   (.cond (.t 119) (.seq (.region [⟨some 2, none, .mov (.c (.bool false))⟩] [2])
   (.ret)) (.skip)))
   (.seq (.region [⟨some 120, none, .mov (.t 8)⟩,
    ⟨some 121, none, .bin .add (.t 120) (.c (.int .i64 1))⟩,
    ⟨some 11, none, .mov (.t 121)⟩] [4, 5, 6, 7, 8, 9, 11])
   (.block 2 (.loop (.seq (.seq (.region [⟨some 122, none, .mov (.t 11)⟩,
    ⟨some 123, none, .fa 1 (.t 9)⟩,
    ⟨some 124, none, .ld 1 false (.t 123)⟩,
    ⟨some 125, none, .bin .lss (.t 122) (.t 124)⟩] [4, 5, 6, 7, 8, 9, 11, 125])
   (.cond (.t 125) (.skip) (.exit 2)))
   (.seq (.block 3 (.seq (.region [⟨some 129, none, .mov (.t 5)⟩,
    ⟨some 130, none, .mov (.t 11)⟩,
    ⟨some 131, none, .look false (.agg ⟨[.int .i64 0, .int .i64 0]⟩) true (.t 129) (.t 130)⟩,
    ⟨some 128, none, .mov (.t 131)⟩,
    ⟨some 132, none, .ext (.t 128) 0⟩,
    ⟨some 133, none, .ext (.t 128) 1⟩,
    ⟨some 12, none, .new [.int .i64 0, .int .i64 0]⟩,
    ⟨none, none, .st 2 (.t 12) (.t 132)⟩,
    ⟨some 13, none, .mov (.t 133)⟩] [4, 5, 6, 7, 8, 9, 11, 12, 13])
   (.seq (.region [⟨some 134, none, .mov (.t 13)⟩,
    ⟨some 135, none, .mov (.t 134)⟩,
    ⟨some 136, some (135, true), .fa 1 (.t 12)⟩,
    ⟨some 137, some (135, true), .ld 1 false (.t 136)⟩,
    ⟨some 138, some (135, true), .fa 1 (.t 9)⟩,
    ⟨some 139, some (135, true), .ld 1 false (.t 138)⟩,
    ⟨some 140, some (135, true), .bin .geq (.t 137) (.t 139)⟩,
    ⟨some 141, none, .pick (.t 135) (.t 140) (.c (.bool false))⟩] [4, 5, 6, 7, 8, 9, 11, 141])
   (.cond (.t 141) (.seq (.region [⟨some 2, none, .mov (.c (.bool false))⟩] [2])
   (.ret)) (.skip)))))
   (.region [⟨some 126, none, .mov (.t 11)⟩,
    ⟨some 127, none, .bin .add (.t 126) (.c (.int .i64 1))⟩,
    ⟨some 11, none, .mov (.t 127)⟩] [4, 5, 6, 7, 8, 9, 11]))))))))))))
   (.region [⟨some 36, none, .mov (.t 8)⟩,
    ⟨some 37, none, .bin .add (.t 36) (.c (.int .i64 1))⟩,
    ⟨some 8, none, .mov (.t 37)⟩] [4, 5, 6, 7, 8]))))))
   (.seq (.region [⟨some 142, none, .mov (.t 6)⟩,
    ⟨some 143, none, .mov (.t 142)⟩,
    ⟨some 144, some (143, true), .mov (.t 5)⟩,
    ⟨some 145, some (143, true), .lenM (.t 144)⟩,
    ⟨some 146, some (143, true), .mov (.t 7)⟩,
    ⟨some 147, some (143, true), .bin .eql (.t 145) (.t 146)⟩,
    ⟨some 148, none, .pick (.t 143) (.t 147) (.c (.bool false))⟩,
    ⟨some 2, none, .mov (.t 148)⟩] [2])
   (.ret))))))))),
  [.t 2], 149, 1⟩
def A9 : Ann := ⟨[(0, [0]), (1, [0, 15]), (2, [2]), (3, [0, 18]), (4, [2]), (5, [3]), (6, [4]), (7, [4, 5, 6]), (8, [4, 5, 6, 7]), (9, [4, 5, 6, 7, 8]), (10, [4, 5, 6, 7, 8, 35]), (11, [4, 5, 6, 7, 8]), (12, [4, 5, 6, 7, 8, 9, 10]), (13, [4, 5, 6, 7, 8, 9, 10, 59]), (14, [2]), (15, [4, 5, 6, 7, 8, 9, 61]), (16, [4, 5, 6, 7, 8, 9]), (17, [4, 5, 6, 7, 8, 9, 119]), (18, [2]), (19, [4, 5, 6, 7, 8, 9, 11]), (20, [4, 5, 6, 7, 8, 9, 11, 125]), (21, [4, 5, 6, 7, 8, 9, 11]), (22, [4, 5, 6, 7, 8, 9, 11, 12, 13]), (23, [4, 5, 6, 7, 8, 9, 11, 141]), (24, [2]), (25, [2])], []⟩
set_option maxRecDepth 100000 in
theorem F9.ok : compF Try.prog A9 Try.f9 = some F9 := by kernel_rfl
theorem F9.fok : FOk Try.prog 9 F9 := fok_of mixed Try.func9 F9.ok

/-- cloakroom/cloakroomlaw23.ClockLate -/
def F11 : SFn := ⟨.seq (.region [⟨some 2, none, .mov (.c (.bool false))⟩] [0])
   (.seq (.seq (.region [⟨some 9, none, .call 31 []⟩,
    ⟨some 10, none, .un .not (.t 9)⟩] [0, 10])
   (.cond (.t 10) (.seq (.region [⟨some 2, none, .mov (.c (.bool false))⟩] [2])
   (.ret)) (.skip)))
   (.seq (.seq (.region [⟨some 11, none, .mov (.t 0)⟩,
    ⟨some 12, none, .lenV (.t 11)⟩,
    ⟨some 13, none, .bin .gtr (.t 12) (.c (.int .i64 10))⟩] [0, 13])
   (.cond (.t 13) (.seq (.region [⟨some 2, none, .mov (.c (.bool true))⟩] [2])
   (.ret)) (.skip)))
   (.seq (.region [⟨some 14, none, .call 32 []⟩,
    ⟨some 3, none, .mov (.t 14)⟩] [0, 3])
   (.seq (.seq (.region [⟨some 4, none, .mov (.c (.int .i64 0))⟩] [0, 3, 4])
   (.block 0 (.loop (.seq (.seq (.region [⟨some 15, none, .mov (.t 4)⟩,
    ⟨some 16, none, .mov (.t 0)⟩,
    ⟨some 17, none, .lenV (.t 16)⟩,
    ⟨some 18, none, .bin .lss (.t 15) (.t 17)⟩] [0, 3, 4, 18])
   (.cond (.t 18) (.skip) (.exit 0)))
   (.seq (.block 1 (.seq (.region [⟨some 21, none, .mov (.t 3)⟩,
    ⟨some 22, none, .mov (.t 4)⟩,
    ⟨some 23, none, .bin .add (.t 22) (.c (.int .i64 1))⟩,
    ⟨some 24, none, .conv .u64 (.t 23)⟩,
    ⟨some 25, none, .mov (.t 0)⟩,
    ⟨some 26, none, .mov (.t 4)⟩,
    ⟨some 27, none, .iaV 1 (.t 25) (.t 26)⟩,
    ⟨some 28, none, .ld 1 false (.t 27)⟩,
    ⟨some 29, none, .bin .rem (.t 28) (.c (.int .u8 20))⟩,
    ⟨some 30, none, .conv .u64 (.t 29)⟩,
    ⟨some 31, none, .bin .add (.c (.int .u64 1)) (.t 30)⟩,
    ⟨some 32, none, .call 33 [.t 21, .t 24, .t 31]⟩,
    ⟨some 33, none, .bin .neq (.t 32) (.c (.int .i64 0))⟩] [0, 3, 4, 33])
   (.cond (.t 33) (.seq (.region [⟨some 2, none, .mov (.c (.bool false))⟩] [2])
   (.ret)) (.skip))))
   (.region [⟨some 19, none, .mov (.t 4)⟩,
    ⟨some 20, none, .bin .add (.t 19) (.c (.int .i64 1))⟩,
    ⟨some 4, none, .mov (.t 20)⟩] [0, 3, 4]))))))
   (.seq (.seq (.region [⟨some 5, none, .mov (.c (.int .i64 1))⟩] [0, 3, 5])
   (.block 2 (.loop (.seq (.seq (.region [⟨some 34, none, .mov (.t 5)⟩,
    ⟨some 35, none, .bin .leq (.t 34) (.c (.int .i64 22))⟩] [0, 3, 5, 35])
   (.cond (.t 35) (.skip) (.exit 2)))
   (.seq (.block 3 (.seq (.region [⟨some 38, none, .mov (.t 3)⟩,
    ⟨some 39, none, .call 34 [.t 38]⟩,
    ⟨some 6, none, .mov (.t 39)⟩] [0, 3, 5, 6])
   (.seq (.region [⟨some 7, none, .mov (.c (.slice none 0 0))⟩] [0, 3, 5, 6, 7])
   (.seq (.seq (.region [⟨some 8, none, .mov (.c (.int .i64 0))⟩] [0, 3, 5, 6, 7, 8])
   (.block 4 (.loop (.seq (.seq (.region [⟨some 40, none, .mov (.t 8)⟩,
    ⟨some 41, none, .mov (.t 0)⟩,
    ⟨some 42, none, .lenV (.t 41)⟩,
    ⟨some 43, none, .bin .lss (.t 40) (.t 42)⟩] [0, 3, 5, 6, 7, 8, 43])
   (.cond (.t 43) (.skip) (.exit 4)))
   (.seq (.block 5 (.seq (.region [⟨some 46, none, .mov (.t 0)⟩,
    ⟨some 47, none, .mov (.t 8)⟩,
    ⟨some 48, none, .iaV 1 (.t 46) (.t 47)⟩,
    ⟨some 49, none, .ld 1 false (.t 48)⟩,
    ⟨some 50, none, .bin .rem (.t 49) (.c (.int .u8 20))⟩,
    ⟨some 51, none, .conv .i64 (.t 50)⟩,
    ⟨some 52, none, .bin .add (.c (.int .i64 1)) (.t 51)⟩,
    ⟨some 53, none, .mov (.t 5)⟩,
    ⟨some 54, none, .bin .eql (.t 52) (.t 53)⟩] [0, 3, 5, 6, 7, 8, 54])
   (.cond (.t 54) (.region [⟨some 55, none, .mov (.t 7)⟩,
    ⟨some 56, none, .mov (.t 8)⟩,
    ⟨some 57, none, .bin .add (.t 56) (.c (.int .i64 1))⟩,
    ⟨some 58, none, .conv .u64 (.t 57)⟩,
    ⟨some 59, none, .bslice 1 1 [.int .u64 0] [(0, 1, .t 58)]⟩,
    ⟨some 60, none, .app 1 8 (.t 55) (.t 59)⟩,
    ⟨some 7, none, .mov (.t 60)⟩] [0, 3, 5, 6, 7, 8]) (.skip))))
   (.region [⟨some 44, none, .mov (.t 8)⟩,
    ⟨some 45, none, .bin .add (.t 44) (.c (.int .i64 1))⟩,
    ⟨some 8, none, .mov (.t 45)⟩] [0, 3, 5, 6, 7, 8]))))))
   (.seq (.region [⟨some 61, none, .mov (.t 6)⟩,
    ⟨some 62, none, .mov (.t 7)⟩,
    ⟨some 63, none, .call 35 [.t 61, .t 62]⟩,
    ⟨some 64, none, .un .not (.t 63)⟩,
    ⟨some 65, none, .mov (.t 64)⟩,
    ⟨some 66, some (65, false), .mov (.t 3)⟩,
    ⟨some 67, some (65, false), .call 36 [.t 66]⟩,
    ⟨some 68, some (65, false), .mov (.t 5)⟩,
    ⟨some 69, some (65, false), .conv .u64 (.t 68)⟩,
    ⟨some 70, some (65, false), .bin .neq (.t 67) (.t 69)⟩,
    ⟨some 71, none, .pick (.t 65) (.c (.bool true)) (.t 70)⟩] [0, 3, 5, 71])
   (.cond (.t 71) (.seq (.region [⟨some 2, none, .mov (.c (.bool false))⟩] [2])
   (.ret)) (.skip)))))))
   (.region [⟨some 36, none, .mov (.t 5)⟩,
    ⟨some 37, none, .bin .add (.t 36) (.c (.int .i64 1))⟩,
    ⟨some 5, none, .mov (.t 37)⟩] [0, 3, 5]))))))
   (.seq (.region [⟨some 2, none, .mov (.c (.bool true))⟩] [2])
   (.ret))))))),
  [.t 2], 72, 1⟩
def A11 : Ann := ⟨[(0, [0]), (1, [0, 10]), (2, [2]), (3, [0, 13]), (4, [2]), (5, [0, 3]), (6, [0, 3, 4]), (7, [0, 3, 4, 18]), (8, [0, 3, 4]), (9, [0, 3, 4, 33]), (10, [2]), (11, [0, 3, 5]), (12, [0, 3, 5, 35]), (13, [0, 3, 5]), (14, [0, 3, 5, 6]), (15, [0, 3, 5, 6, 7]), (16, [0, 3, 5, 6, 7, 8]), (17, [0, 3, 5, 6, 7, 8, 43]), (18, [0, 3, 5, 6, 7, 8]), (19, [0, 3, 5, 6, 7, 8, 54]), (20, [0, 3, 5, 6, 7, 8]), (21, [0, 3, 5, 71]), (22, [2]), (23, [2])], []⟩
set_option maxRecDepth 100000 in
theorem F11.ok : compF Try.prog A11 Try.f11 = some F11 := by kernel_rfl
theorem F11.fok : FOk Try.prog 11 F11 := fok_of mixed Try.func11 F11.ok

/-- cloakroom/cloakroomlaw23.ClockAgain -/
def F12 : SFn := ⟨.seq (.region [⟨some 6, none, .mov (.c (.bool false))⟩] [0, 1, 2])
   (.seq (.seq (.region [⟨some 17, none, .call 31 []⟩,
    ⟨some 18, none, .un .not (.t 17)⟩] [0, 1, 2, 18])
   (.cond (.t 18) (.seq (.region [⟨some 6, none, .mov (.c (.bool false))⟩] [6])
   (.ret)) (.skip)))
   (.seq (.region [⟨some 19, none, .call 32 []⟩,
    ⟨some 7, none, .mov (.t 19)⟩] [0, 1, 2, 7])
   (.seq (.region [⟨some 20, none, .mov (.t 0)⟩,
    ⟨some 21, none, .bin .rem (.t 20) (.c (.int .u8 9))⟩,
    ⟨some 22, none, .conv .u64 (.t 21)⟩,
    ⟨some 23, none, .bin .add (.c (.int .u64 1)) (.t 22)⟩,
    ⟨some 24, none, .mov (.t 1)⟩,
    ⟨some 25, none, .bin .rem (.t 24) (.c (.int .u8 9))⟩,
    ⟨some 26, none, .conv .u64 (.t 25)⟩,
    ⟨some 27, none, .bin .add (.c (.int .u64 1)) (.t 26)⟩,
    ⟨some 8, none, .mov (.t 23)⟩,
    ⟨some 9, none, .mov (.t 27)⟩] [2, 7, 8, 9])
   (.seq (.region [⟨some 28, none, .mov (.t 7)⟩,
    ⟨some 29, none, .mov (.t 2)⟩,
    ⟨some 30, none, .mov (.t 8)⟩,
    ⟨some 31, none, .call 33 [.t 28, .t 29, .t 30]⟩,
    ⟨some 10, none, .mov (.t 31)⟩] [2, 7, 9, 10])
   (.seq (.region [⟨some 32, none, .mov (.t 7)⟩,
    ⟨some 33, none, .mov (.t 2)⟩,
    ⟨some 34, none, .mov (.t 9)⟩,
    ⟨some 35, none, .call 33 [.t 32, .t 33, .t 34]⟩,
    ⟨some 11, none, .mov (.t 35)⟩] [2, 7, 9, 10, 11])
   (.seq (.region [⟨some 36, none, .mov (.t 7)⟩,
    ⟨some 37, none, .mov (.t 2)⟩,
    ⟨some 38, none, .mov (.t 2)⟩,
    ⟨some 39, none, .bslice 2 1 [.int .u64 0] [(0, 1, .t 37), (1, 1, .t 38)]⟩,
    ⟨some 40, none, .call 37 [.t 36, .t 39]⟩] [2, 7, 9, 10, 11])
   (.seq (.region [⟨some 42, none, .mov (.t 7)⟩,
    ⟨some 43, none, .mov (.t 2)⟩,
    ⟨some 44, none, .call 38 [.t 42, .t 43]⟩,
    ⟨some 41, none, .mov (.t 44)⟩,
    ⟨some 45, none, .ext (.t 41) 0⟩,
    ⟨some 46, none, .ext (.t 41) 1⟩,
    ⟨some 12, none, .mov (.t 45)⟩,
    ⟨some 13, none, .mov (.t 46)⟩] [2, 7, 9, 10, 11, 13])
   (.seq (.region [⟨some 47, none, .mov (.t 7)⟩,
    ⟨some 48, none, .mov (.t 2)⟩,
    ⟨some 49, none, .mov (.t 9)⟩,
    ⟨some 50, none, .call 33 [.t 47, .t 48, .t 49]⟩,
    ⟨some 14, none, .mov (.t 50)⟩] [2, 7, 9, 10, 11, 13, 14])
   (.seq (.seq (.region [⟨some 15, none, .mov (.c (.int .u64 1))⟩] [2, 7, 9, 10, 11, 13, 14, 15])
   (.block 0 (.loop (.seq (.seq (.region [⟨some 51, none, .mov (.t 15)⟩,
    ⟨some 52, none, .bin .leq (.t 51) (.c (.int .u64 10))⟩] [2, 7, 9, 10, 11, 13, 14, 15, 52])
   (.cond (.t 52) (.skip) (.exit 0)))
   (.seq (.block 1 (.seq (.region [⟨some 55, none, .mov (.t 7)⟩,
    ⟨some 56, none, .call 34 [.t 55]⟩,
    ⟨some 16, none, .mov (.t 56)⟩] [2, 7, 9, 10, 11, 13, 14, 15, 16])
   (.seq (.region [⟨some 57, none, .mov (.t 16)⟩,
    ⟨some 58, none, .lenV (.t 57)⟩,
    ⟨some 59, none, .bin .eql (.t 58) (.c (.int .i64 1))⟩,
    ⟨some 60, none, .mov (.t 15)⟩,
    ⟨some 61, none, .mov (.t 9)⟩,
    ⟨some 62, none, .bin .eql (.t 60) (.t 61)⟩,
    ⟨some 63, none, .eqk true .bool (.t 59) (.t 62)⟩,
    ⟨some 64, none, .mov (.t 63)⟩,
    ⟨some 65, some (64, false), .mov (.t 16)⟩,
    ⟨some 66, some (64, false), .lenV (.t 65)⟩,
    ⟨some 67, some (64, false), .bin .gtr (.t 66) (.c (.int .i64 1))⟩,
    ⟨some 68, none, .pick (.t 64) (.c (.bool true)) (.t 67)⟩] [2, 7, 9, 10, 11, 13, 14, 15, 68])
   (.cond (.t 68) (.seq (.region [⟨some 6, none, .mov (.c (.bool false))⟩] [6])
   (.ret)) (.skip)))))
   (.region [⟨some 53, none, .mov (.t 15)⟩,
    ⟨some 54, none, .bin .add (.t 53) (.c (.int .u64 1))⟩,
    ⟨some 15, none, .mov (.t 54)⟩] [2, 7, 9, 10, 11, 13, 14, 15]))))))
   (.seq (.region [⟨some 69, none, .mov (.t 10)⟩,
    ⟨some 70, none, .bin .eql (.t 69) (.c (.int .i64 0))⟩,
    ⟨some 71, none, .mov (.t 70)⟩,
    ⟨some 72, some (71, true), .mov (.t 11)⟩,
    ⟨some 73, some (71, true), .bin .eql (.t 72) (.c (.int .i64 11))⟩,
    ⟨some 74, none, .pick (.t 71) (.t 73) (.c (.bool false))⟩,
    ⟨some 75, none, .mov (.t 74)⟩,
    ⟨some 76, some (75, true), .mov (.t 13)⟩,
    ⟨some 77, some (75, true), .un .not (.t 76)⟩,
    ⟨some 78, none, .pick (.t 75) (.t 77) (.c (.bool false))⟩,
    ⟨some 79, none, .mov (.t 78)⟩,
    ⟨some 80, some (79, true), .mov (.t 14)⟩,
    ⟨some 81, some (79, true), .bin .eql (.t 80) (.c (.int .i64 0))⟩,
    ⟨some 82, none, .pick (.t 79) (.t 81) (.c (.bool false))⟩,
    ⟨some 83, none, .mov (.t 82)⟩,
    ⟨some 84, some (83, true), .mov (.t 7)⟩,
    ⟨some 85, some (83, true), .mov (.t 2)⟩,
    ⟨some 86, some (83, true), .call 33 [.t 84, .t 85, .c (.int .u64 0)]⟩,
    ⟨some 87, some (83, true), .bin .eql (.t 86) (.c (.int .i64 1))⟩,
    ⟨some 88, none, .pick (.t 83) (.t 87) (.c (.bool false))⟩,
    ⟨some 89, none, .mov (.t 88)⟩,
    ⟨some 90, some (89, true), .mov (.t 7)⟩,
    ⟨some 91, some (89, true), .mov (.t 2)⟩,
    ⟨some 92, some (89, true), .call 33 [.t 90, .t 91, .c (.int .u64 1099511627777)]⟩,
    ⟨some 93, some (89, true), .bin .eql (.t 92) (.c (.int .i64 1))⟩,
    ⟨some 94, none, .pick (.t 89) (.t 93) (.c (.bool false))⟩,
    ⟨some 95, none, .mov (.t 94)⟩,
    ⟨some 96, some (95, true), .mov (.t 7)⟩,
    ⟨some 97, some (95, true), .mov (.t 2)⟩,
    ⟨some 98, some (95, true), .call 33 [.t 96, .t 97, .c (.int .u64 1099511627776)]⟩,
    ⟨some 99, some (95, true), .bin .eql (.t 98) (.c (.int .i64 0))⟩,
    ⟨some 100, none, .pick (.t 95) (.t 99) (.c (.bool false))⟩,
    ⟨some 6, none, .mov (.t 100)⟩] [6])
   (.ret))))))))))),
  [.t 6], 101, 3⟩
def A12 : Ann := ⟨[(0, [0, 1, 2]), (1, [0, 1, 2, 18]), (2, [6]), (3, [0, 1, 2, 7]), (4, [2, 7, 8, 9]), (5, [2, 7, 9, 10]), (6, [2, 7, 9, 10, 11]), (7, [2, 7, 9, 10, 11]), (8, [2, 7, 9, 10, 11, 13]), (9, [2, 7, 9, 10, 11, 13, 14]), (10, [2, 7, 9, 10, 11, 13, 14, 15]), (11, [2, 7, 9, 10, 11, 13, 14, 15, 52]), (12, [2, 7, 9, 10, 11, 13, 14, 15]), (13, [2, 7, 9, 10, 11, 13, 14, 15, 16]), (14, [2, 7, 9, 10, 11, 13, 14, 15, 68]), (15, [6]), (16, [6])], []⟩
set_option maxRecDepth 100000 in
theorem F12.ok : compF Try.prog A12 Try.f12 = some F12 := by kernel_rfl
theorem F12.fok : FOk Try.prog 12 F12 := fok_of mixed Try.func12 F12.ok

/-- cloakroom/cloakroomlaw23.ClockDrops -/
def F13 : SFn := ⟨.seq (.region [⟨some 4, none, .mov (.c (.bool false))⟩] [0, 1])
   (.seq (.seq (.region [⟨some 14, none, .call 31 []⟩,
    ⟨some 15, none, .un .not (.t 14)⟩] [0, 1, 15])
   (.cond (.t 15) (.seq (.region [⟨some 4, none, .mov (.c (.bool false))⟩] [4])
   (.ret)) (.skip)))
   (.seq (.seq (.region [⟨some 16, none, .mov (.t 0)⟩,
    ⟨some 17, none, .lenV (.t 16)⟩,
    ⟨some 18, none, .bin .gtr (.t 17) (.c (.int .i64 10))⟩] [0, 1, 18])
   (.cond (.t 18) (.seq (.region [⟨some 4, none, .mov (.c (.bool true))⟩] [4])
   (.ret)) (.skip)))
   (.seq (.region [⟨some 19, none, .call 32 []⟩,
    ⟨some 5, none, .mov (.t 19)⟩] [0, 1, 5])
   (.seq (.seq (.region [⟨some 6, none, .mov (.c (.int .u64 0))⟩] [0, 1, 5, 6])
   (.block 0 (.loop (.seq (.seq (.region [⟨some 20, none, .mov (.t 6)⟩,
    ⟨some 21, none, .bin .lss (.t 20) (.c (.int .u64 10))⟩] [0, 1, 5, 6, 21])
   (.cond (.t 21) (.skip) (.exit 0)))
   (.seq (.block 1 (.region [⟨some 24, none, .mov (.t 5)⟩,
    ⟨some 25, none, .mov (.t 6)⟩,
    ⟨some 26, none, .mov (.t 1)⟩,
    ⟨some 27, none, .bin .rem (.t 26) (.c (.int .u8 5))⟩,
    ⟨some 28, none, .conv .u64 (.t 27)⟩,
    ⟨some 29, none, .bin .add (.c (.int .u64 1)) (.t 28)⟩,
    ⟨some 30, none, .call 33 [.t 24, .t 25, .t 29]⟩] [0, 1, 5, 6]))
   (.region [⟨some 22, none, .mov (.t 6)⟩,
    ⟨some 23, none, .bin .add (.t 22) (.c (.int .u64 1))⟩,
    ⟨some 6, none, .mov (.t 23)⟩] [0, 1, 5, 6]))))))
   (.seq (.region [⟨some 7, none, .new [.bool false, .bool false, .bool false, .bool false, .bool false, .bool false, .bool false, .bool false, .bool false, .bool false]⟩] [0, 1, 5, 7])
   (.seq (.region [⟨some 8, none, .mov (.c (.slice none 0 0))⟩] [0, 1, 5, 7, 8])
   (.seq (.seq (.region [⟨some 9, none, .mov (.c (.int .i64 0))⟩] [0, 1, 5, 7, 8, 9])
   (.block 2 (.loop (.seq (.seq (.region [⟨some 31, none, .mov (.t 9)⟩,
    ⟨some 32, none, .mov (.t 0)⟩,
    ⟨some 33, none, .lenV (.t 32)⟩,
    ⟨some 34, none, .bin .lss (.t 31) (.t 33)⟩] [0, 1, 5, 7, 8, 9, 34])
   (.cond (.t 34) (.skip) (.exit 2)))
   (.seq (.block 3 (.seq (.region [⟨some 37, none, .mov (.t 0)⟩,
    ⟨some 38, none, .mov (.t 9)⟩,
    ⟨some 39, none, .iaV 1 (.t 37) (.t 38)⟩,
    ⟨some 40, none, .ld 1 false (.t 39)⟩,
    ⟨some 41, none, .bin .rem (.t 40) (.c (.int .u8 10))⟩,
    ⟨some 42, none, .iaA 10 1 (.t 7) (.t 41)⟩,
    ⟨none, none, .st 1 (.t 42) (.c (.bool true))⟩] [0, 1, 5, 7, 8, 9])
   (.region [⟨some 43, none, .mov (.t 8)⟩,
    ⟨some 44, none, .mov (.t 0)⟩,
    ⟨some 45, none, .mov (.t 9)⟩,
    ⟨some 46, none, .iaV 1 (.t 44) (.t 45)⟩,
    ⟨some 47, none, .ld 1 false (.t 46)⟩,
    ⟨some 48, none, .bin .rem (.t 47) (.c (.int .u8 10))⟩,
    ⟨some 49, none, .conv .u64 (.t 48)⟩,
    ⟨some 50, none, .bslice 1 1 [.int .u64 0] [(0, 1, .t 49)]⟩,
    ⟨some 51, none, .app 1 8 (.t 43) (.t 50)⟩,
    ⟨some 8, none, .mov (.t 51)⟩] [0, 1, 5, 7, 8, 9])))
   (.region [⟨some 35, none, .mov (.t 9)⟩,
    ⟨some 36, none, .bin .add (.t 35) (.c (.int .i64 1))⟩,
    ⟨some 9, none, .mov (.t 36)⟩] [0, 1, 5, 7, 8, 9]))))))
   (.seq (.region [⟨some 52, none, .mov (.t 5)⟩,
    ⟨some 53, none, .mov (.t 8)⟩,
    ⟨some 54, none, .call 37 [.t 52, .t 53]⟩] [1, 5, 7])
   (.seq (.region [⟨some 10, none, .mov (.c (.slice none 0 0))⟩] [1, 5, 7, 10])
   (.seq (.seq (.region [⟨some 11, none, .mov (.c (.int .i64 0))⟩] [1, 5, 7, 10, 11])
   (.block 4 (.loop (.seq (.seq (.region [⟨some 55, none, .mov (.t 11)⟩,
    ⟨some 56, none, .mov (.t 1)⟩,
    ⟨some 57, none, .bin .rem (.t 56) (.c (.int .u8 5))⟩,
    ⟨some 58, none, .conv .i64 (.t 57)⟩,
    ⟨some 59, none, .bin .leq (.t 55) (.t 58)⟩] [1, 5, 7, 10, 11, 59])
   (.cond (.t 59) (.skip) (.exit 4)))
   (.seq (.block 5 (.seq (.seq (.region [⟨some 62, none, .mov (.t 10)⟩,
    ⟨some 63, none, .lenV (.t 62)⟩,
    ⟨some 64, none, .bin .neq (.t 63) (.c (.int .i64 0))⟩] [1, 5, 7, 11, 64])
   (.cond (.t 64) (.seq (.region [⟨some 4, none, .mov (.c (.bool false))⟩] [4])
   (.ret)) (.skip)))
   (.region [⟨some 65, none, .mov (.t 5)⟩,
    ⟨some 66, none, .call 34 [.t 65]⟩,
    ⟨some 10, none, .mov (.t 66)⟩] [1, 5, 7, 10, 11])))
   (.region [⟨some 60, none, .mov (.t 11)⟩,
    ⟨some 61, none, .bin .add (.t 60) (.c (.int .i64 1))⟩,
    ⟨some 11, none, .mov (.t 61)⟩] [1, 5, 7, 10, 11]))))))
   (.seq (.region [⟨some 12, none, .mov (.c (.int .i64 0))⟩] [5, 7, 10, 12])
   (.seq (.seq (.region [⟨some 13, none, .mov (.c (.int .u64 0))⟩] [5, 7, 10, 12, 13])
   (.block 6 (.loop (.seq (.seq (.region [⟨some 67, none, .mov (.t 13)⟩,
    ⟨some 68, none, .bin .lss (.t 67) (.c (.int .u64 10))⟩] [5, 7, 10, 12, 13, 68])
   (.cond (.t 68) (.skip) (.exit 6)))
   (.seq (.block 7 (.seq (.seq (.region [⟨some 71, none, .mov (.t 13)⟩,
    ⟨some 72, none, .iaA 10 1 (.t 7) (.t 71)⟩,
    ⟨some 73, none, .ld 1 false (.t 72)⟩] [5, 7, 10, 12, 13, 73])
   (.cond (.t 73) (.exit 7) (.skip)))
   (.seq (.seq (.region [⟨some 74, none, .mov (.t 12)⟩,
    ⟨some 75, none, .mov (.t 10)⟩,
    ⟨some 76, none, .lenV (.t 75)⟩,
    ⟨some 77, none, .bin .geq (.t 74) (.t 76)⟩,
    ⟨some 78, none, .mov (.t 77)⟩,
    ⟨some 79, some (78, false), .mov (.t 10)⟩,
    ⟨some 80, some (78, false), .mov (.t 12)⟩,
    ⟨some 81, some (78, false), .iaV 1 (.t 79) (.t 80)⟩,
    ⟨some 82, some (78, false), .ld 1 false (.t 81)⟩,
    ⟨some 83, some (78, false), .mov (.t 13)⟩,
    ⟨some 84, some (78, false), .bin .neq (.t 82) (.t 83)⟩,
    ⟨some 85, none, .pick (.t 78) (.c (.bool true)) (.t 84)⟩] [5, 7, 10, 12, 13, 85])
   (.cond (.t 85) (.seq (.region [⟨some 4, none, .mov (.c (.bool false))⟩] [4])
   (.ret)) (.skip)))
   (.region [⟨some 86, none, .mov (.t 12)⟩,
    ⟨some 87, none, .bin .add (.t 86) (.c (.int .i64 1))⟩,
    ⟨some 12, none, .mov (.t 87)⟩] [5, 7, 10, 12, 13]))))
   (.region [⟨some 69, none, .mov (.t 13)⟩,
    ⟨some 70, none, .bin .add (.t 69) (.c (.int .u64 1))⟩,
    ⟨some 13, none, .mov (.t 70)⟩] [5, 7, 10, 12, 13]))))))
   (.seq (.region [⟨some 88, none, .mov (.t 12)⟩,
    ⟨some 89, none, .mov (.t 10)⟩,
    ⟨some 90, none, .lenV (.t 89)⟩,
    ⟨some 91, none, .bin .eql (.t 88) (.t 90)⟩,
    ⟨some 92, none, .mov (.t 91)⟩,
    ⟨some 93, some (92, true), .mov (.t 5)⟩,
    ⟨some 94, some (92, true), .call 34 [.t 93]⟩,
    ⟨some 95, some (92, true), .lenV (.t 94)⟩,
    ⟨some 96, some (92, true), .bin .eql (.t 95) (.c (.int .i64 0))⟩,
    ⟨some 97, none, .pick (.t 92) (.t 96) (.c (.bool false))⟩,
    ⟨some 4, none, .mov (.t 97)⟩] [4])
   (.ret)))))))))))))),
  [.t 4], 98, 2⟩
def A13 : Ann := ⟨[(0, [0, 1]), (1, [0, 1, 15]), (2, [4]), (3, [0, 1, 18]), (4, [4]), (5, [0, 1, 5]), (6, [0, 1, 5, 6]), (7, [0, 1, 5, 6, 21]), (8, [0, 1, 5, 6]), (9, [0, 1, 5, 6]), (10, [0, 1, 5, 7]), (11, [0, 1, 5, 7, 8]), (12, [0, 1, 5, 7, 8, 9]), (13, [0, 1, 5, 7, 8, 9, 34]), (14, [0, 1, 5, 7, 8, 9]), (15, [0, 1, 5, 7, 8, 9]), (16, [0, 1, 5, 7, 8, 9]), (17, [1, 5, 7]), (18, [1, 5, 7, 10]), (19, [1, 5, 7, 10, 11]), (20, [1, 5, 7, 10, 11, 59]), (21, [1, 5, 7, 10, 11]), (22, [1, 5, 7, 11, 64]), (23, [4]), (24, [1, 5, 7, 10, 11]), (25, [5, 7, 10, 12]), (26, [5, 7, 10, 12, 13]), (27, [5, 7, 10, 12, 13, 68]), (28, [5, 7, 10, 12, 13]), (29, [5, 7, 10, 12, 13, 73]), (30, [5, 7, 10, 12, 13, 85]), (31, [4]), (32, [5, 7, 10, 12, 13]), (33, [4])], []⟩
set_option maxRecDepth 100000 in
theorem F13.ok : compF Try.prog A13 Try.f13 = some F13 := by kernel_rfl
theorem F13.fok : FOk Try.prog 13 F13 := fok_of mixed Try.func13 F13.ok

/-- cloakroom/cloakroomlaw23.ClockAll -/
def F14 : SFn := ⟨.seq (.region [⟨some 2, none, .mov (.c (.bool false))⟩] [0])
   (.seq (.seq (.region [⟨some 19, none, .call 31 []⟩,
    ⟨some 20, none, .un .not (.t 19)⟩] [0, 20])
   (.cond (.t 20) (.seq (.region [⟨some 2, none, .mov (.c (.bool false))⟩] [2])
   (.ret)) (.skip)))
   (.seq (.seq (.region [⟨some 21, none, .mov (.t 0)⟩,
    ⟨some 22, none, .lenV (.t 21)⟩,
    ⟨some 23, none, .bin .gtr (.t 22) (.c (.int .i64 40))⟩] [0, 23])
   (.cond (.t 23) (.seq (.region [⟨some 2, none, .mov (.c (.bool true))⟩] [2])
   (.ret)) (.skip)))
   (.seq (.region [⟨some 24, none, .call 32 []⟩,
    ⟨some 25, none, .build [.int .u64 0, .slice none 0 0, .slice none 0 0] []⟩,
    ⟨some 26, none, .box (.t 25)⟩,
    ⟨some 3, none, .mov (.t 24)⟩,
    ⟨some 4, none, .mov (.t 26)⟩] [0, 3, 4])
   (.seq (.seq (.region [⟨some 5, none, .mov (.c (.int .i64 0))⟩] [0, 3, 4, 5])
   (.block 0 (.loop (.seq (.seq (.region [⟨some 27, none, .mov (.t 5)⟩,
    ⟨some 28, none, .mov (.t 0)⟩,
    ⟨some 29, none, .lenV (.t 28)⟩,
    ⟨some 30, none, .bin .lss (.t 27) (.t 29)⟩] [0, 3, 4, 5, 30])
   (.cond (.t 30) (.skip) (.exit 0)))
   (.seq (.block 1 (.seq (.region [⟨some 33, none, .mov (.t 0)⟩,
    ⟨some 34, none, .mov (.t 5)⟩,
    ⟨some 35, none, .iaV 4 (.t 33) (.t 34)⟩,
    ⟨some 36, none, .ld 4 true (.t 35)⟩,
    ⟨some 6, none, .new [.int .i64 0, .int .u64 0, .int .u64 0, .slice none 0 0]⟩,
    ⟨none, none, .st 4 (.t 6) (.t 36)⟩] [0, 3, 4, 5, 6])
   (.seq (.seq (.region [⟨some 37, none, .fa 3 (.t 6)⟩,
    ⟨some 38, none, .ld 1 false (.t 37)⟩,
    ⟨some 39, none, .lenV (.t 38)⟩,
    ⟨some 40, none, .bin .gtr (.t 39) (.c (.int .i64 6))⟩] [0, 3, 4, 5, 6, 40])
   (.cond (.t 40) (.seq (.region [⟨some 2, none, .mov (.c (.bool true))⟩] [2])
   (.ret)) (.skip)))
   (.seq (.seq (.region [⟨some 41, none, .fa 0 (.t 6)⟩,
    ⟨some 42, none, .ld 1 false (.t 41)⟩,
    ⟨some 43, none, .bin .rem (.t 42) (.c (.int .i64 10))⟩,
    ⟨some 44, none, .bin .add (.t 43) (.c (.int .i64 10))⟩,
    ⟨some 45, none, .bin .rem (.t 44) (.c (.int .i64 10))⟩,
    ⟨some 7, none, .mov (.t 45)⟩] [0, 3, 4, 5, 6, 7])
   (.block 2 (.seq (.region [⟨some 54, none, .mov (.t 7)⟩,
    ⟨some 55, none, .bin .lss (.t 54) (.c (.int .i64 4))⟩,
    ⟨some 53, none, .mov (.t 55)⟩] [0, 3, 4, 5, 6, 7, 53])
   (.cond (.t 53) (.seq (.region [⟨some 56, none, .mov (.t 3)⟩,
    ⟨some 57, none, .fa 1 (.t 6)⟩,
    ⟨some 58, none, .ld 1 false (.t 57)⟩,
    ⟨some 59, none, .fa 2 (.t 6)⟩,
    ⟨some 60, none, .ld 1 false (.t 59)⟩,
    ⟨some 62, none, .mov (.t 4)⟩,
    ⟨some 63, none, .fa 1 (.t 6)⟩,
    ⟨some 64, none, .ld 1 false (.t 63)⟩,
    ⟨some 65, none, .fa 2 (.t 6)⟩,
    ⟨some 66, none, .ld 1 false (.t 65)⟩,
    ⟨some 61, none, .call 33 [.t 56, .t 58, .t 60]⟩,
    ⟨none, none, .chk 1 false (.t 63) 64⟩,
    ⟨none, none, .chk 1 false (.t 65) 66⟩,
    ⟨some 67, none, .call 39 [.t 62, .t 64, .t 66]⟩,
    ⟨some 68, none, .bin .neq (.t 61) (.t 67)⟩] [0, 3, 4, 5, 6, 68])
   (.cond (.t 68) (.seq (.region [⟨some 2, none, .mov (.c (.bool false))⟩] [2])
   (.ret)) (.skip))) (.seq (.region [⟨some 70, none, .mov (.t 7)⟩,
    ⟨some 71, none, .bin .eql (.t 70) (.c (.int .i64 4))⟩,
    ⟨some 69, none, .mov (.t 71)⟩] [0, 3, 4, 5, 6, 7, 69])
   (.cond (.t 69) (.seq (.region [⟨some 72, none, .mov (.t 3)⟩,
    ⟨some 73, none, .fa 3 (.t 6)⟩,
    ⟨some 74, none, .ld 1 false (.t 73)⟩,
    ⟨some 75, none, .call 37 [.t 72, .t 74]⟩] [0, 3, 4, 5, 6])
   (.region [⟨some 76, none, .mov (.t 4)⟩,
    ⟨some 77, none, .fa 3 (.t 6)⟩,
    ⟨some 78, none, .ld 1 false (.t 77)⟩,
    ⟨some 79, none, .call 40 [.t 76, .t 78]⟩] [0, 3, 4, 5, 6])) (.seq (.region [⟨some 81, none, .mov (.t 7)⟩,
    ⟨some 82, none, .bin .lss (.t 81) (.c (.int .i64 9))⟩,
    ⟨some 80, none, .mov (.t 82)⟩] [0, 3, 4, 5, 6, 80])
   (.cond (.t 80) (.seq (.region [⟨some 83, none, .mov (.t 3)⟩,
    ⟨some 84, none, .call 34 [.t 83]⟩,
    ⟨some 85, none, .mov (.t 4)⟩,
    ⟨some 86, none, .call 41 [.t 85]⟩,
    ⟨some 87, none, .call 35 [.t 84, .t 86]⟩,
    ⟨some 88, none, .un .not (.t 87)⟩] [0, 3, 4, 5, 6, 88])
   (.cond (.t 88) (.seq (.region [⟨some 2, none, .mov (.c (.bool false))⟩] [2])
   (.ret)) (.skip))) (.seq (.region [⟨some 46, none, .mov (.t 3)⟩,
    ⟨some 47, none, .call 42 [.t 46]⟩,
    ⟨some 8, none, .mov (.t 47)⟩] [0, 3, 4, 5, 6, 8])
   (.seq (.region [⟨some 48, none, .mov (.t 3)⟩,
    ⟨some 49, none, .call 34 [.t 48]⟩] [0, 3, 4, 5, 6, 8])
   (.seq (.region [⟨some 50, none, .mov (.t 3)⟩,
    ⟨some 51, none, .call 33 [.t 50, .c (.int .u64 99), .c (.int .u64 1)]⟩] [0, 4, 5, 6, 8])
   (.region [⟨some 52, none, .mov (.t 8)⟩,
    ⟨some 3, none, .mov (.t 52)⟩] [0, 3, 4, 5, 6]))))))))))))
   (.seq (.seq (.region [⟨some 89, none, .mov (.t 3)⟩,
    ⟨some 91, none, .mov (.t 4)⟩,
    ⟨some 92, none, .nilc (.t 91)⟩,
    ⟨some 93, none, .fa 0 (.t 92)⟩,
    ⟨some 94, none, .ld 1 false (.t 93)⟩,
    ⟨some 90, none, .call 36 [.t 89]⟩,
    ⟨none, none, .chk 1 false (.t 93) 94⟩,
    ⟨some 95, none, .bin .neq (.t 90) (.t 94)⟩] [0, 3, 4, 5, 6, 95])
   (.cond (.t 95) (.seq (.region [⟨some 2, none, .mov (.c (.bool false))⟩] [2])
   (.ret)) (.skip)))
   (.seq (.seq (.region [⟨some 9, none, .mov (.c (.int .i64 0))⟩] [0, 3, 4, 5, 6, 9])
   (.block 3 (.loop (.seq (.seq (.region [⟨some 96, none, .mov (.t 9)⟩,
    ⟨some 97, none, .mov (.t 4)⟩,
    ⟨some 98, none, .nilc (.t 97)⟩,
    ⟨some 99, none, .fa 1 (.t 98)⟩,
    ⟨some 100, none, .ld 1 false (.t 99)⟩,
    ⟨some 101, none, .lenV (.t 100)⟩,
    ⟨some 102, none, .bin .lss (.t 96) (.t 101)⟩] [0, 3, 4, 5, 6, 9, 102])
   (.cond (.t 102) (.skip) (.exit 3)))
   (.seq (.block 4 (.seq (.region [⟨some 106, none, .mov (.t 3)⟩,
    ⟨some 107, none, .mov (.t 4)⟩,
    ⟨some 108, none, .nilc (.t 107)⟩,
    ⟨some 109, none, .fa 1 (.t 108)⟩,
    ⟨some 110, none, .ld 1 false (.t 109)⟩,
    ⟨some 111, none, .mov (.t 9)⟩,
    ⟨some 112, none, .iaV 1 (.t 110) (.t 111)⟩,
    ⟨some 113, none, .ld 1 false (.t 112)⟩,
    ⟨some 114, none, .call 38 [.t 106, .t 113]⟩,
    ⟨some 105, none, .mov (.t 114)⟩,
    ⟨some 115, none, .ext (.t 105) 0⟩,
    ⟨some 116, none, .ext (.t 105) 1⟩,
    ⟨some 10, none, .mov (.t 115)⟩,
    ⟨some 11, none, .mov (.t 116)⟩] [0, 3, 4, 5, 6, 9, 10, 11])
   (.seq (.region [⟨some 117, none, .mov (.t 11)⟩,
    ⟨some 118, none, .un .not (.t 117)⟩,
    ⟨some 119, none, .mov (.t 118)⟩,
    ⟨some 120, some (119, false), .mov (.t 10)⟩,
    ⟨some 121, some (119, false), .mov (.t 4)⟩,
    ⟨some 122, some (119, false), .nilc (.t 121)⟩,
    ⟨some 123, some (119, false), .fa 2 (.t 122)⟩,
    ⟨some 124, some (119, false), .ld 1 false (.t 123)⟩,
    ⟨some 125, some (119, false), .mov (.t 9)⟩,
    ⟨some 126, some (119, false), .iaV 1 (.t 124) (.t 125)⟩,
    ⟨some 127, some (119, false), .ld 1 false (.t 126)⟩,
    ⟨some 128, some (119, false), .bin .neq (.t 120) (.t 127)⟩,
    ⟨some 129, none, .pick (.t 119) (.c (.bool true)) (.t 128)⟩] [0, 3, 4, 5, 6, 9, 129])
   (.cond (.t 129) (.seq (.region [⟨some 2, none, .mov (.c (.bool false))⟩] [2])
   (.ret)) (.skip)))))
   (.region [⟨some 103, none, .mov (.t 9)⟩,
    ⟨some 104, none, .bin .add (.t 103) (.c (.int .i64 1))⟩,
    ⟨some 9, none, .mov (.t 104)⟩] [0, 3, 4, 5, 6, 9]))))))
   (.seq (.region [⟨some 131, none, .mov (.t 3)⟩,
    ⟨some 132, none, .fa 1 (.t 6)⟩,
    ⟨some 133, none, .ld 1 false (.t 132)⟩,
    ⟨some 134, none, .call 38 [.t 131, .t 133]⟩,
    ⟨some 130, none, .mov (.t 134)⟩,
    ⟨some 135, none, .ext (.t 130) 0⟩,
    ⟨some 136, none, .ext (.t 130) 1⟩,
    ⟨some 12, none, .mov (.t 135)⟩,
    ⟨some 13, none, .mov (.t 136)⟩] [0, 3, 4, 5, 6, 13])
   (.seq (.region [⟨some 14, none, .mov (.c (.bool false))⟩] [0, 3, 4, 5, 6, 13, 14])
   (.seq (.seq (.region [⟨some 15, none, .mov (.c (.int .i64 0))⟩] [0, 3, 4, 5, 6, 13, 14, 15])
   (.block 5 (.loop (.seq (.seq (.region [⟨some 137, none, .mov (.t 15)⟩,
    ⟨some 138, none, .mov (.t 4)⟩,
    ⟨some 139, none, .nilc (.t 138)⟩,
    ⟨some 140, none, .fa 1 (.t 139)⟩,
    ⟨some 141, none, .ld 1 false (.t 140)⟩,
    ⟨some 142, none, .lenV (.t 141)⟩,
    ⟨some 143, none, .bin .lss (.t 137) (.t 142)⟩] [0, 3, 4, 5, 6, 13, 14, 15, 143])
   (.cond (.t 143) (.skip) (.exit 5)))
   (.seq (.block 6 (.region [⟨some 146, none, .mov (.t 14)⟩,
    ⟨some 147, none, .mov (.t 146)⟩,
    ⟨some 148, some (147, false), .mov (.t 4)⟩,
    ⟨some 149, some (147, false), .nilc (.t 148)⟩,
    ⟨some 150, some (147, false), .fa 1 (.t 149)⟩,
    ⟨some 151, some (147, false), .ld 1 false (.t 150)⟩,
    ⟨some 152, some (147, false), .mov (.t 15)⟩,
    ⟨some 153, some (147, false), .iaV 1 (.t 151) (.t 152)⟩,
    ⟨some 154, some (147, false), .ld 1 false (.t 153)⟩,
    ⟨some 155, some (147, false), .fa 1 (.t 6)⟩,
    ⟨some 156, some (147, false), .ld 1 false (.t 155)⟩,
    ⟨some 157, some (147, false), .bin .eql (.t 154) (.t 156)⟩,
    ⟨some 158, none, .pick (.t 147) (.c (.bool true)) (.t 157)⟩,
    ⟨some 14, none, .mov (.t 158)⟩] [0, 3, 4, 5, 6, 13, 14, 15]))
   (.region [⟨some 144, none, .mov (.t 15)⟩,
    ⟨some 145, none, .bin .add (.t 144) (.c (.int .i64 1))⟩,
    ⟨some 15, none, .mov (.t 145)⟩] [0, 3, 4, 5, 6, 13, 14, 15]))))))
   (.seq (.region [⟨some 159, none, .mov (.t 13)⟩,
    ⟨some 160, none, .mov (.t 14)⟩,
    ⟨some 161, none, .eqk true .bool (.t 159) (.t 160)⟩] [0, 3, 4, 5, 161])
   (.cond (.t 161) (.seq (.region [⟨some 2, none, .mov (.c (.bool false))⟩] [2])
   (.ret)) (.skip))))))))))))
   (.region [⟨some 31, none, .mov (.t 5)⟩,
    ⟨some 32, none, .bin .add (.t 31) (.c (.int .i64 1))⟩,
    ⟨some 5, none, .mov (.t 32)⟩] [0, 3, 4, 5]))))))
   (.seq (.region [⟨some 16, none, .mov (.c (.pointer none))⟩] [16])
   (.seq (.region [⟨some 162, none, .mov (.t 16)⟩,
    ⟨some 163, none, .bslice 1 1 [.int .u64 0] [(0, 1, .c (.int .u64 1))]⟩,
    ⟨some 164, none, .call 37 [.t 162, .t 163]⟩] [16])
   (.seq (.region [⟨some 166, none, .mov (.t 16)⟩,
    ⟨some 167, none, .call 38 [.t 166, .c (.int .u64 1)]⟩,
    ⟨some 165, none, .mov (.t 167)⟩,
    ⟨some 168, none, .ext (.t 165) 0⟩,
    ⟨some 169, none, .ext (.t 165) 1⟩,
    ⟨some 17, none, .mov (.t 168)⟩,
    ⟨some 18, none, .mov (.t 169)⟩] [16, 18])
   (.seq (.region [⟨some 170, none, .mov (.t 16)⟩,
    ⟨some 171, none, .call 33 [.t 170, .c (.int .u64 1), .c (.int .u64 1)]⟩,
    ⟨some 172, none, .bin .eql (.t 171) (.c (.int .i64 1))⟩,
    ⟨some 173, none, .mov (.t 172)⟩,
    ⟨some 174, some (173, true), .mov (.t 16)⟩,
    ⟨some 175, some (173, true), .call 34 [.t 174]⟩,
    ⟨some 176, some (173, true), .lenV (.t 175)⟩,
    ⟨some 177, some (173, true), .bin .eql (.t 176) (.c (.int .i64 0))⟩,
    ⟨some 178, none, .pick (.t 173) (.t 177) (.c (.bool false))⟩,
    ⟨some 179, none, .mov (.t 178)⟩,
    ⟨some 180, some (179, true), .mov (.t 16)⟩,
    ⟨some 181, some (179, true), .call 36 [.t 180]⟩,
    ⟨some 182, some (179, true), .bin .eql (.t 181) (.c (.int .u64 0))⟩,
    ⟨some 183, none, .pick (.t 179) (.t 182) (.c (.bool false))⟩,
    ⟨some 184, none, .mov (.t 183)⟩,
    ⟨some 185, some (184, true), .mov (.t 18)⟩,
    ⟨some 186, some (184, true), .un .not (.t 185)⟩,
    ⟨some 187, none, .pick (.t 184) (.t 186) (.c (.bool false))⟩,
    ⟨some 188, none, .mov (.t 187)⟩,
    ⟨some 189, some (188, true), .mov (.t 16)⟩,
    ⟨some 190, some (188, true), .call 42 [.t 189]⟩,
    ⟨some 191, some (188, true), .eqk false .ptr (.t 190) (.c (.pointer none))⟩,
    ⟨some 192, none, .pick (.t 188) (.t 191) (.c (.bool false))⟩,
    ⟨some 2, none, .mov (.t 192)⟩] [2])
   (.ret))))))))),
  [.t 2], 193, 1⟩
def A14 : Ann := ⟨[(0, [0]), (1, [0, 20]), (2, [2]), (3, [0, 23]), (4, [2]), (5, [0, 3, 4]), (6, [0, 3, 4, 5]), (7, [0, 3, 4, 5, 30]), (8, [0, 3, 4, 5]), (9, [0, 3, 4, 5, 6]), (10, [0, 3, 4, 5, 6, 40]), (11, [2]), (12, [0, 3, 4, 5, 6, 7]), (13, [0, 3, 4, 5, 6, 8]), (14, [0, 3, 4, 5, 6, 8]), (15, [0, 4, 5, 6, 8]), (16, [0, 3, 4, 5, 6]), (17, [0, 3, 4, 5, 6, 7, 53]), (18, [0, 3, 4, 5, 6, 68]), (19, [2]), (20, [0, 3, 4, 5, 6, 7, 69]), (21, [0, 3, 4, 5, 6]), (22, [0, 3, 4, 5, 6]), (23, [0, 3, 4, 5, 6, 80]), (24, [0, 3, 4, 5, 6, 88]), (25, [2]), (26, [0, 3, 4, 5, 6, 95]), (27, [2]), (28, [0, 3, 4, 5, 6, 9]), (29, [0, 3, 4, 5, 6, 9, 102]), (30, [0, 3, 4, 5, 6, 9]), (31, [0, 3, 4, 5, 6, 9, 10, 11]), (32, [0, 3, 4, 5, 6, 9, 129]), (33, [2]), (34, [0, 3, 4, 5, 6, 13]), (35, [0, 3, 4, 5, 6, 13, 14]), (36, [0, 3, 4, 5, 6, 13, 14, 15]), (37, [0, 3, 4, 5, 6, 13, 14, 15, 143]), (38, [0, 3, 4, 5, 6, 13, 14, 15]), (39, [0, 3, 4, 5, 6, 13, 14, 15]), (40, [0, 3, 4, 5, 161]), (41, [2]), (42, [16]), (43, [16]), (44, [16, 18]), (45, [2])], [(18, [(0, []), (1, []), (2, []), (3, []), (4, []), (6, []), (7, []), (8, []), (9, []), (10, []), (5, [8, 10]), (11, []), (12, [])], [(2, [1]), (4, [3]), (5, [0, 1, 2, 3, 4]), (8, [7]), (10, [9]), (11, [0, 1, 2, 3, 4, 5, 6, 7, 8, 9, 10]), (12, [0, 1, 2, 3, 4, 5, 6, 7, 8, 9, 10, 11])]),
  (26, [(0, []), (2, []), (3, []), (4, []), (5, []), (1, [5]), (6, [])], [(1, [0]), (3, [2]), (4, [2, 3]), (5, [2, 3, 4]), (6, [0, 1, 2, 3, 4, 5])]),
  (39, [(0, []), (1, []), (2, []), (3, []), (4, []), (5, []), (6, []), (7, []), (8, []), (9, []), (10, []), (11, []), (12, []), (13, [])], [(1, [0]), (2, [0, 1]), (3, [0, 1, 2]), (4, [0, 1, 2, 3]), (5, [0, 1, 2, 3, 4]), (6, [0, 1]), (7, [0, 1, 2, 3, 4, 5, 6]), (8, [0, 1, 2, 3, 4, 5, 6, 7]), (9, [0, 1]), (10, [0, 1, 9]), (11, [0, 1, 2, 3, 4, 5, 6, 7, 8, 9, 10]), (12, [0, 1, 2, 3, 4, 5, 6, 7, 8, 9, 10, 11]), (13, [0, 1, 2, 3, 4, 5, 6, 7, 8, 9, 10, 11, 12])])]⟩
set_option maxRecDepth 100000 in
theorem F14.ok : compF Try.prog A14 Try.f14 = some F14 := by kernel_rfl
theorem F14.fok : FOk Try.prog 14 F14 := fok_of mixed Try.func14 F14.ok

/-- cloakroom/cloakroomlaw5.begun -/
def F15 : SFn := ⟨.seq (.region [⟨some 0, none, .mov (.c (.bool false))⟩] [])
   (.seq (.region [⟨some 6, none, .call 16 [.c (.int .i64 65)]⟩,
    ⟨some 5, none, .mov (.t 6)⟩,
    ⟨some 7, none, .ext (.t 5) 0⟩,
    ⟨some 8, none, .ext (.t 5) 1⟩,
    ⟨some 1, none, .mov (.t 7)⟩,
    ⟨some 2, none, .mov (.t 8)⟩] [1, 2])
   (.seq (.region [⟨some 10, none, .call 16 [.c (.int .i64 67)]⟩,
    ⟨some 9, none, .mov (.t 10)⟩,
    ⟨some 11, none, .ext (.t 9) 0⟩,
    ⟨some 12, none, .ext (.t 9) 1⟩,
    ⟨some 3, none, .mov (.t 11)⟩,
    ⟨some 4, none, .mov (.t 12)⟩] [1, 2, 4])
   (.seq (.region [⟨some 13, none, .mov (.t 2)⟩,
    ⟨some 14, none, .bin .eql (.t 13) (.c (.int .i64 0))⟩,
    ⟨some 15, none, .mov (.t 14)⟩,
    ⟨some 16, some (15, true), .mov (.t 1)⟩,
    ⟨some 17, some (15, true), .bin .eql (.t 16) (.c (.int .i64 3))⟩,
    ⟨some 18, none, .pick (.t 15) (.t 17) (.c (.bool false))⟩,
    ⟨some 19, none, .mov (.t 18)⟩,
    ⟨some 20, some (19, true), .mov (.t 4)⟩,
    ⟨some 21, some (19, true), .bin .eql (.t 20) (.c (.int .i64 5))⟩,
    ⟨some 22, none, .pick (.t 19) (.t 21) (.c (.bool false))⟩,
    ⟨some 23, none, .mov (.t 22)⟩,
    ⟨some 24, some (23, true), .call 18 [.c (.int .i64 40)]⟩,
    ⟨some 25, some (23, true), .bin .eql (.t 24) (.c (.int .i64 4))⟩,
    ⟨some 26, none, .pick (.t 23) (.t 25) (.c (.bool false))⟩,
    ⟨some 27, none, .mov (.t 26)⟩,
    ⟨some 28, some (27, true), .call 20 []⟩,
    ⟨some 29, some (27, true), .lenV (.t 28)⟩,
    ⟨some 30, some (27, true), .bin .gtr (.t 29) (.c (.int .i64 100))⟩,
    ⟨some 31, none, .pick (.t 27) (.t 30) (.c (.bool false))⟩,
    ⟨some 0, none, .mov (.t 31)⟩] [0])
   (.ret)))),
  [.t 0], 32, 0⟩
def A15 : Ann := ⟨[(0, []), (1, [1, 2]), (2, [1, 2, 4]), (3, [0])], []⟩
set_option maxRecDepth 100000 in
theorem F15.ok : compF Try.prog A15 Try.f15 = some F15 := by kernel_rfl
theorem F15.fok : FOk Try.prog 15 F15 := fok_of mixed Try.func15 F15.ok

/-- cloakroom/op.Kind -/
def F16 : SFn := ⟨.seq (.region [⟨some 2, none, .mov (.c (.int .i64 0))⟩,
    ⟨some 3, none, .mov (.c (.int .i64 0))⟩] [0])
   (.seq (.seq (.region [⟨some 4, none, .mov (.t 0)⟩] [0, 4])
   (.block 0 (.seq (.seq (.region [⟨some 6, none, .bin .eql (.t 4) (.c (.int .i64 12))⟩,
    ⟨some 5, none, .mov (.t 6)⟩] [0, 4, 5])
   (.cond (.t 5) (.skip) (.seq (.region [⟨some 7, none, .bin .eql (.t 4) (.c (.int .i64 13))⟩,
    ⟨some 5, none, .mov (.t 7)⟩] [0, 4, 5])
   (.cond (.t 5) (.skip) (.seq (.region [⟨some 8, none, .bin .eql (.t 4) (.c (.int .i64 16))⟩,
    ⟨some 5, none, .mov (.t 8)⟩] [0, 4, 5])
   (.cond (.t 5) (.skip) (.seq (.region [⟨some 9, none, .bin .eql (.t 4) (.c (.int .i64 32))⟩,
    ⟨some 5, none, .mov (.t 9)⟩] [0, 4, 5])
   (.cond (.t 5) (.skip) (.seq (.region [⟨some 10, none, .bin .eql (.t 4) (.c (.int .i64 33))⟩,
    ⟨some 5, none, .mov (.t 10)⟩] [0, 4, 5])
   (.cond (.t 5) (.skip) (.seq (.region [⟨some 11, none, .bin .eql (.t 4) (.c (.int .i64 34))⟩,
    ⟨some 5, none, .mov (.t 11)⟩] [0, 4, 5])
   (.cond (.t 5) (.skip) (.seq (.region [⟨some 12, none, .bin .eql (.t 4) (.c (.int .i64 35))⟩,
    ⟨some 5, none, .mov (.t 12)⟩] [0, 4, 5])
   (.cond (.t 5) (.skip) (.seq (.region [⟨some 13, none, .bin .eql (.t 4) (.c (.int .i64 36))⟩,
    ⟨some 5, none, .mov (.t 13)⟩] [0, 4, 5])
   (.cond (.t 5) (.skip) (.seq (.region [⟨some 14, none, .bin .eql (.t 4) (.c (.int .i64 37))⟩,
    ⟨some 5, none, .mov (.t 14)⟩] [0, 4, 5])
   (.cond (.t 5) (.skip) (.seq (.region [⟨some 15, none, .bin .eql (.t 4) (.c (.int .i64 38))⟩,
    ⟨some 5, none, .mov (.t 15)⟩] [0, 4, 5])
   (.cond (.t 5) (.skip) (.seq (.region [⟨some 16, none, .bin .eql (.t 4) (.c (.int .i64 210))⟩,
    ⟨some 5, none, .mov (.t 16)⟩] [0, 4, 5])
   (.cond (.t 5) (.skip) (.seq (.region [⟨some 17, none, .bin .eql (.t 4) (.c (.int .i64 64521))⟩,
    ⟨some 5, none, .mov (.t 17)⟩] [0, 4, 5])
   (.cond (.t 5) (.skip) (.seq (.region [⟨some 18, none, .bin .eql (.t 4) (.c (.int .i64 64525))⟩,
    ⟨some 5, none, .mov (.t 18)⟩] [0, 4, 5])
   (.cond (.t 5) (.skip) (.seq (.region [⟨some 19, none, .bin .eql (.t 4) (.c (.int .i64 64527))⟩,
    ⟨some 5, none, .mov (.t 19)⟩] [0, 4, 5])
   (.cond (.t 5) (.skip) (.seq (.region [⟨some 20, none, .bin .eql (.t 4) (.c (.int .i64 64528))⟩,
    ⟨some 5, none, .mov (.t 20)⟩] [0, 4, 5])
   (.cond (.t 5) (.skip) (.seq (.region [⟨some 21, none, .bin .eql (.t 4) (.c (.int .i64 64529))⟩,
    ⟨some 5, none, .mov (.t 21)⟩] [0, 4, 5])
   (.cond (.t 5) (.skip) (.seq (.region [⟨some 22, none, .bin .eql (.t 4) (.c (.int .i64 63))⟩,
    ⟨some 5, none, .mov (.t 22)⟩] [0, 4, 5])
   (.cond (.t 5) (.skip) (.seq (.region [⟨some 23, none, .bin .eql (.t 4) (.c (.int .i64 64))⟩,
    ⟨some 5, none, .mov (.t 23)⟩] [0, 4, 5])
   (.cond (.t 5) (.skip) (.region [⟨some 24, none, .bin .eql (.t 4) (.c (.int .i64 64523))⟩,
    ⟨some 5, none, .mov (.t 24)⟩] [0, 4, 5])))))))))))))))))))))))))))))))))))))
   (.cond (.t 5) (.seq (.region [⟨some 2, none, .mov (.c (.int .i64 1))⟩,
    ⟨some 3, none, .mov (.c (.int .i64 0))⟩] [2, 3])
   (.ret)) (.seq (.seq (.region [⟨some 26, none, .bin .eql (.t 4) (.c (.int .i64 17))⟩,
    ⟨some 25, none, .mov (.t 26)⟩] [0, 4, 25])
   (.cond (.t 25) (.skip) (.seq (.region [⟨some 27, none, .bin .eql (.t 4) (.c (.int .i64 64524))⟩,
    ⟨some 25, none, .mov (.t 27)⟩] [0, 4, 25])
   (.cond (.t 25) (.skip) (.seq (.region [⟨some 28, none, .bin .eql (.t 4) (.c (.int .i64 64526))⟩,
    ⟨some 25, none, .mov (.t 28)⟩] [0, 4, 25])
   (.cond (.t 25) (.skip) (.seq (.region [⟨some 29, none, .bin .eql (.t 4) (.c (.int .i64 64520))⟩,
    ⟨some 25, none, .mov (.t 29)⟩] [0, 4, 25])
   (.cond (.t 25) (.skip) (.region [⟨some 30, none, .bin .eql (.t 4) (.c (.int .i64 64522))⟩,
    ⟨some 25, none, .mov (.t 30)⟩] [0, 4, 25])))))))))
   (.cond (.t 25) (.seq (.region [⟨some 2, none, .mov (.c (.int .i64 2))⟩,
    ⟨some 3, none, .mov (.c (.int .i64 0))⟩] [2, 3])
   (.ret)) (.seq (.region [⟨some 32, none, .bin .eql (.t 4) (.c (.int .i64 65))⟩,
    ⟨some 31, none, .mov (.t 32)⟩] [0, 4, 31])
   (.cond (.t 31) (.seq (.region [⟨some 2, none, .mov (.c (.int .i64 3))⟩,
    ⟨some 3, none, .mov (.c (.int .i64 0))⟩] [2, 3])
   (.ret)) (.seq (.region [⟨some 34, none, .bin .eql (.t 4) (.c (.int .i64 66))⟩,
    ⟨some 33, none, .mov (.t 34)⟩] [0, 4, 33])
   (.cond (.t 33) (.seq (.region [⟨some 2, none, .mov (.c (.int .i64 4))⟩,
    ⟨some 3, none, .mov (.c (.int .i64 0))⟩] [2, 3])
   (.ret)) (.seq (.seq (.region [⟨some 36, none, .bin .eql (.t 4) (.c (.int .i64 2))⟩,
    ⟨some 35, none, .mov (.t 36)⟩] [0, 4, 35])
   (.cond (.t 35) (.skip) (.seq (.region [⟨some 37, none, .bin .eql (.t 4) (.c (.int .i64 3))⟩,
    ⟨some 35, none, .mov (.t 37)⟩] [0, 4, 35])
   (.cond (.t 35) (.skip) (.region [⟨some 38, none, .bin .eql (.t 4) (.c (.int .i64 4))⟩,
    ⟨some 35, none, .mov (.t 38)⟩] [0, 4, 35])))))
   (.cond (.t 35) (.seq (.region [⟨some 2, none, .mov (.c (.int .i64 6))⟩,
    ⟨some 3, none, .mov (.c (.int .i64 0))⟩] [2, 3])
   (.ret)) (.seq (.region [⟨some 40, none, .bin .eql (.t 4) (.c (.int .i64 14))⟩,
    ⟨some 39, none, .mov (.t 40)⟩] [0, 4, 39])
   (.cond (.t 39) (.seq (.region [⟨some 2, none, .mov (.c (.int .i64 7))⟩,
    ⟨some 3, none, .mov (.c (.int .i64 0))⟩] [2, 3])
   (.ret)) (.seq (.seq (.region [⟨some 42, none, .bin .eql (.t 4) (.c (.int .i64 28))⟩,
    ⟨some 41, none, .mov (.t 42)⟩] [0, 4, 41])
   (.cond (.t 41) (.skip) (.region [⟨some 43, none, .bin .eql (.t 4) (.c (.int .i64 208))⟩,
    ⟨some 41, none, .mov (.t 43)⟩] [0, 41])))
   (.cond (.t 41) (.seq (.region [⟨some 2, none, .mov (.c (.int .i64 8))⟩,
    ⟨some 3, none, .mov (.c (.int .i64 0))⟩] [2, 3])
   (.ret)) (.skip)))))))))))))))))
   (.seq (.block 1 (.seq (.region [⟨some 45, none, .mov (.t 0)⟩,
    ⟨some 46, none, .call 18 [.t 45]⟩,
    ⟨some 47, none, .bin .gtr (.t 46) (.c (.int .i64 0))⟩,
    ⟨some 44, none, .mov (.t 47)⟩] [0, 44])
   (.cond (.t 44) (.seq (.region [⟨some 2, none, .mov (.c (.int .i64 5))⟩,
    ⟨some 3, none, .mov (.c (.int .i64 0))⟩] [2, 3])
   (.ret)) (.seq (.region [⟨some 49, none, .mov (.t 0)⟩,
    ⟨some 50, none, .bin .geq (.t 49) (.c (.int .i64 0))⟩,
    ⟨some 51, none, .mov (.t 50)⟩,
    ⟨some 52, some (51, true), .mov (.t 0)⟩,
    ⟨some 53, some (51, true), .call 43 [.t 52]⟩,
    ⟨some 54, none, .pick (.t 51) (.t 53) (.c (.bool false))⟩,
    ⟨some 48, none, .mov (.t 54)⟩] [0, 48])
   (.cond (.t 48) (.seq (.region [⟨some 2, none, .mov (.c (.int .i64 0))⟩,
    ⟨some 3, none, .mov (.c (.int .i64 0))⟩] [2, 3])
   (.ret)) (.seq (.region [⟨some 56, none, .mov (.t 0)⟩,
    ⟨some 57, none, .call 44 [.t 56]⟩,
    ⟨some 55, none, .mov (.t 57)⟩] [55])
   (.cond (.t 55) (.seq (.region [⟨some 2, none, .mov (.c (.int .i64 0))⟩,
    ⟨some 3, none, .mov (.c (.int .i64 5))⟩] [2, 3])
   (.ret)) (.skip))))))))
   (.seq (.region [⟨some 2, none, .mov (.c (.int .i64 0))⟩,
    ⟨some 3, none, .mov (.c (.int .i64 2))⟩] [2, 3])
   (.ret)))),
  [.t 2, .t 3], 58, 1⟩
def A16 : Ann := ⟨[(0, [0]), (1, [0, 4]), (2, [0, 4, 5]), (3, [0, 4, 5]), (4, [0, 4, 5]), (5, [0, 4, 5]), (6, [0, 4, 5]), (7, [0, 4, 5]), (8, [0, 4, 5]), (9, [0, 4, 5]), (10, [0, 4, 5]), (11, [0, 4, 5]), (12, [0, 4, 5]), (13, [0, 4, 5]), (14, [0, 4, 5]), (15, [0, 4, 5]), (16, [0, 4, 5]), (17, [0, 4, 5]), (18, [0, 4, 5]), (19, [0, 4, 5]), (20, [0, 4, 5]), (21, [2, 3]), (22, [0, 4, 25]), (23, [0, 4, 25]), (24, [0, 4, 25]), (25, [0, 4, 25]), (26, [0, 4, 25]), (27, [2, 3]), (28, [0, 4, 31]), (29, [2, 3]), (30, [0, 4, 33]), (31, [2, 3]), (32, [0, 4, 35]), (33, [0, 4, 35]), (34, [0, 4, 35]), (35, [2, 3]), (36, [0, 4, 39]), (37, [2, 3]), (38, [0, 4, 41]), (39, [0, 41]), (40, [2, 3]), (41, [0, 44]), (42, [2, 3]), (43, [0, 48]), (44, [2, 3]), (45, [55]), (46, [2, 3]), (47, [2, 3])], []⟩
set_option maxRecDepth 100000 in
theorem F16.ok : compF Try.prog A16 Try.f16 = some F16 := by kernel_rfl
theorem F16.fok : FOk Try.prog 16 F16 := fok_of mixed Try.func16 F16.ok

/-- cloakroom/cloakroomref5.Kind -/
def F17 : SFn := ⟨.seq (.region [⟨some 2, none, .mov (.c (.int .i64 0))⟩,
    ⟨some 3, none, .mov (.c (.int .i64 0))⟩] [0])
   (.seq (.block 0 (.seq (.region [⟨some 5, none, .mov (.t 0)⟩,
    ⟨some 6, none, .bin .eql (.t 5) (.c (.int .i64 0))⟩,
    ⟨some 7, none, .mov (.t 6)⟩,
    ⟨some 8, some (7, false), .mov (.t 0)⟩,
    ⟨some 9, some (7, false), .bin .eql (.t 8) (.c (.int .i64 1))⟩,
    ⟨some 10, none, .pick (.t 7) (.c (.bool true)) (.t 9)⟩,
    ⟨some 11, none, .mov (.t 10)⟩,
    ⟨some 12, some (11, false), .mov (.t 0)⟩,
    ⟨some 13, some (11, false), .bin .eql (.t 12) (.c (.int .i64 5))⟩,
    ⟨some 14, none, .pick (.t 11) (.c (.bool true)) (.t 13)⟩,
    ⟨some 15, none, .mov (.t 14)⟩,
    ⟨some 16, some (15, false), .mov (.t 0)⟩,
    ⟨some 17, some (15, false), .bin .eql (.t 16) (.c (.int .i64 11))⟩,
    ⟨some 18, none, .pick (.t 15) (.c (.bool true)) (.t 17)⟩,
    ⟨some 19, none, .mov (.t 18)⟩,
    ⟨some 20, some (19, false), .mov (.t 0)⟩,
    ⟨some 21, some (19, false), .bin .eql (.t 20) (.c (.int .i64 15))⟩,
    ⟨some 22, none, .pick (.t 19) (.c (.bool true)) (.t 21)⟩,
    ⟨some 23, none, .mov (.t 22)⟩,
    ⟨some 24, some (23, false), .mov (.t 0)⟩,
    ⟨some 25, some (23, false), .bin .eql (.t 24) (.c (.int .i64 26))⟩,
    ⟨some 26, none, .pick (.t 23) (.c (.bool true)) (.t 25)⟩,
    ⟨some 27, none, .mov (.t 26)⟩,
    ⟨some 28, some (27, false), .mov (.t 0)⟩,
    ⟨some 29, some (27, false), .bin .eql (.t 28) (.c (.int .i64 27))⟩,
    ⟨some 30, none, .pick (.t 27) (.c (.bool true)) (.t 29)⟩,
    ⟨some 31, none, .mov (.t 30)⟩,
    ⟨some 32, some (31, false), .mov (.t 0)⟩,
    ⟨some 33, some (31, false), .bin .geq (.t 32) (.c (.int .i64 69))⟩,
    ⟨some 34, some (31, false), .mov (.t 33)⟩,
    ⟨some 35, some (34, true), .mov (.t 0)⟩,
    ⟨some 36, some (34, true), .bin .leq (.t 35) (.c (.int .i64 90))⟩,
    ⟨some 37, some (31, false), .pick (.t 34) (.t 36) (.c (.bool false))⟩,
    ⟨some 38, none, .pick (.t 31) (.c (.bool true)) (.t 37)⟩,
    ⟨some 39, none, .mov (.t 38)⟩,
    ⟨some 40, some (39, false), .mov (.t 0)⟩,
    ⟨some 41, some (39, false), .bin .geq (.t 40) (.c (.int .i64 103))⟩,
    ⟨some 42, some (39, false), .mov (.t 41)⟩,
    ⟨some 43, some (42, true), .mov (.t 0)⟩,
    ⟨some 44, some (42, true), .bin .leq (.t 43) (.c (.int .i64 138))⟩,
    ⟨some 45, some (39, false), .pick (.t 42) (.t 44) (.c (.bool false))⟩,
    ⟨some 46, none, .pick (.t 39) (.c (.bool true)) (.t 45)⟩,
    ⟨some 47, none, .mov (.t 46)⟩,
    ⟨some 48, some (47, false), .mov (.t 0)⟩,
    ⟨some 49, some (47, false), .bin .eql (.t 48) (.c (.int .i64 167))⟩,
    ⟨some 50, none, .pick (.t 47) (.c (.bool true)) (.t 49)⟩,
    ⟨some 51, none, .mov (.t 50)⟩,
    ⟨some 52, some (51, false), .mov (.t 0)⟩,
    ⟨some 53, some (51, false), .bin .eql (.t 52) (.c (.int .i64 172))⟩,
    ⟨some 54, none, .pick (.t 51) (.c (.bool true)) (.t 53)⟩,
    ⟨some 55, none, .mov (.t 54)⟩,
    ⟨some 56, some (55, false), .mov (.t 0)⟩,
    ⟨some 57, some (55, false), .bin .eql (.t 56) (.c (.int .i64 173))⟩,
    ⟨some 58, none, .pick (.t 55) (.c (.bool true)) (.t 57)⟩,
    ⟨some 59, none, .mov (.t 58)⟩,
    ⟨some 60, some (59, false), .mov (.t 0)⟩,
    ⟨some 61, some (59, false), .bin .geq (.t 60) (.c (.int .i64 192))⟩,
    ⟨some 62, some (59, false), .mov (.t 61)⟩,
    ⟨some 63, some (62, true), .mov (.t 0)⟩,
    ⟨some 64, some (62, true), .bin .leq (.t 63) (.c (.int .i64 196))⟩,
    ⟨some 65, some (59, false), .pick (.t 62) (.t 64) (.c (.bool false))⟩,
    ⟨some 66, none, .pick (.t 59) (.c (.bool true)) (.t 65)⟩,
    ⟨some 67, none, .mov (.t 66)⟩,
    ⟨some 68, some (67, false), .mov (.t 0)⟩,
    ⟨some 69, some (67, false), .bin .eql (.t 68) (.c (.int .i64 209))⟩,
    ⟨some 70, none, .pick (.t 67) (.c (.bool true)) (.t 69)⟩,
    ⟨some 4, none, .mov (.t 70)⟩] [0, 4])
   (.cond (.t 4) (.seq (.region [⟨some 2, none, .mov (.c (.int .i64 0))⟩,
    ⟨some 3, none, .mov (.c (.int .i64 0))⟩] [2, 3])
   (.ret)) (.seq (.region [⟨some 72, none, .mov (.t 0)⟩,
    ⟨some 73, none, .bin .eql (.t 72) (.c (.int .i64 12))⟩,
    ⟨some 74, none, .mov (.t 73)⟩,
    ⟨some 75, some (74, false), .mov (.t 0)⟩,
    ⟨some 76, some (74, false), .bin .eql (.t 75) (.c (.int .i64 13))⟩,
    ⟨some 77, none, .pick (.t 74) (.c (.bool true)) (.t 76)⟩,
    ⟨some 78, none, .mov (.t 77)⟩,
    ⟨some 79, some (78, false), .mov (.t 0)⟩,
    ⟨some 80, some (78, false), .bin .eql (.t 79) (.c (.int .i64 16))⟩,
    ⟨some 81, none, .pick (.t 78) (.c (.bool true)) (.t 80)⟩,
    ⟨some 82, none, .mov (.t 81)⟩,
    ⟨some 83, some (82, false), .mov (.t 0)⟩,
    ⟨some 84, some (82, false), .bin .geq (.t 83) (.c (.int .i64 32))⟩,
    ⟨some 85, some (82, false), .mov (.t 84)⟩,
    ⟨some 86, some (85, true), .mov (.t 0)⟩,
    ⟨some 87, some (85, true), .bin .leq (.t 86) (.c (.int .i64 38))⟩,
    ⟨some 88, some (82, false), .pick (.t 85) (.t 87) (.c (.bool false))⟩,
    ⟨some 89, none, .pick (.t 82) (.c (.bool true)) (.t 88)⟩,
    ⟨some 90, none, .mov (.t 89)⟩,
    ⟨some 91, some (90, false), .mov (.t 0)⟩,
    ⟨some 92, some (90, false), .bin .eql (.t 91) (.c (.int .i64 210))⟩,
    ⟨some 93, none, .pick (.t 90) (.c (.bool true)) (.t 92)⟩,
    ⟨some 94, none, .mov (.t 93)⟩,
    ⟨some 95, some (94, false), .mov (.t 0)⟩,
    ⟨some 96, some (94, false), .bin .eql (.t 95) (.c (.int .i64 63))⟩,
    ⟨some 97, none, .pick (.t 94) (.c (.bool true)) (.t 96)⟩,
    ⟨some 98, none, .mov (.t 97)⟩,
    ⟨some 99, some (98, false), .mov (.t 0)⟩,
    ⟨some 100, some (98, false), .bin .eql (.t 99) (.c (.int .i64 64))⟩,
    ⟨some 101, none, .pick (.t 98) (.c (.bool true)) (.t 100)⟩,
    ⟨some 102, none, .mov (.t 101)⟩,
    ⟨some 103, some (102, false), .mov (.t 0)⟩,
    ⟨some 104, some (102, false), .bin .eql (.t 103) (.c (.int .i64 64521))⟩,
    ⟨some 105, none, .pick (.t 102) (.c (.bool true)) (.t 104)⟩,
    ⟨some 106, none, .mov (.t 105)⟩,
    ⟨some 107, some (106, false), .mov (.t 0)⟩,
    ⟨some 108, some (106, false), .bin .eql (.t 107) (.c (.int .i64 64523))⟩,
    ⟨some 109, none, .pick (.t 106) (.c (.bool true)) (.t 108)⟩,
    ⟨some 110, none, .mov (.t 109)⟩,
    ⟨some 111, some (110, false), .mov (.t 0)⟩,
    ⟨some 112, some (110, false), .bin .eql (.t 111) (.c (.int .i64 64525))⟩,
    ⟨some 113, none, .pick (.t 110) (.c (.bool true)) (.t 112)⟩,
    ⟨some 114, none, .mov (.t 113)⟩,
    ⟨some 115, some (114, false), .mov (.t 0)⟩,
    ⟨some 116, some (114, false), .bin .geq (.t 115) (.c (.int .i64 64527))⟩,
    ⟨some 117, some (114, false), .mov (.t 116)⟩,
    ⟨some 118, some (117, true), .mov (.t 0)⟩,
    ⟨some 119, some (117, true), .bin .leq (.t 118) (.c (.int .i64 64529))⟩,
    ⟨some 120, some (114, false), .pick (.t 117) (.t 119) (.c (.bool false))⟩,
    ⟨some 121, none, .pick (.t 114) (.c (.bool true)) (.t 120)⟩,
    ⟨some 71, none, .mov (.t 121)⟩] [0, 71])
   (.cond (.t 71) (.seq (.region [⟨some 2, none, .mov (.c (.int .i64 1))⟩,
    ⟨some 3, none, .mov (.c (.int .i64 0))⟩] [2, 3])
   (.ret)) (.seq (.region [⟨some 123, none, .mov (.t 0)⟩,
    ⟨some 124, none, .bin .eql (.t 123) (.c (.int .i64 17))⟩,
    ⟨some 125, none, .mov (.t 124)⟩,
    ⟨some 126, some (125, false), .mov (.t 0)⟩,
    ⟨some 127, some (125, false), .bin .eql (.t 126) (.c (.int .i64 64520))⟩,
    ⟨some 128, none, .pick (.t 125) (.c (.bool true)) (.t 127)⟩,
    ⟨some 129, none, .mov (.t 128)⟩,
    ⟨some 130, some (129, false), .mov (.t 0)⟩,
    ⟨some 131, some (129, false), .bin .eql (.t 130) (.c (.int .i64 64522))⟩,
    ⟨some 132, none, .pick (.t 129) (.c (.bool true)) (.t 131)⟩,
    ⟨some 133, none, .mov (.t 132)⟩,
    ⟨some 134, some (133, false), .mov (.t 0)⟩,
    ⟨some 135, some (133, false), .bin .eql (.t 134) (.c (.int .i64 64524))⟩,
    ⟨some 136, none, .pick (.t 133) (.c (.bool true)) (.t 135)⟩,
    ⟨some 137, none, .mov (.t 136)⟩,
    ⟨some 138, some (137, false), .mov (.t 0)⟩,
    ⟨some 139, some (137, false), .bin .eql (.t 138) (.c (.int .i64 64526))⟩,
    ⟨some 140, none, .pick (.t 137) (.c (.bool true)) (.t 139)⟩,
    ⟨some 122, none, .mov (.t 140)⟩] [0, 122])
   (.cond (.t 122) (.seq (.region [⟨some 2, none, .mov (.c (.int .i64 2))⟩,
    ⟨some 3, none, .mov (.c (.int .i64 0))⟩] [2, 3])
   (.ret)) (.seq (.region [⟨some 142, none, .mov (.t 0)⟩,
    ⟨some 143, none, .bin .eql (.t 142) (.c (.int .i64 65))⟩,
    ⟨some 141, none, .mov (.t 143)⟩] [0, 141])
   (.cond (.t 141) (.seq (.region [⟨some 2, none, .mov (.c (.int .i64 3))⟩,
    ⟨some 3, none, .mov (.c (.int .i64 0))⟩] [2, 3])
   (.ret)) (.seq (.region [⟨some 145, none, .mov (.t 0)⟩,
    ⟨some 146, none, .bin .eql (.t 145) (.c (.int .i64 66))⟩,
    ⟨some 144, none, .mov (.t 146)⟩] [0, 144])
   (.cond (.t 144) (.seq (.region [⟨some 2, none, .mov (.c (.int .i64 4))⟩,
    ⟨some 3, none, .mov (.c (.int .i64 0))⟩] [2, 3])
   (.ret)) (.seq (.region [⟨some 148, none, .mov (.t 0)⟩,
    ⟨some 149, none, .call 19 [.t 148]⟩,
    ⟨some 150, none, .bin .gtr (.t 149) (.c (.int .i64 0))⟩,
    ⟨some 147, none, .mov (.t 150)⟩] [0, 147])
   (.cond (.t 147) (.seq (.region [⟨some 2, none, .mov (.c (.int .i64 5))⟩,
    ⟨some 3, none, .mov (.c (.int .i64 0))⟩] [2, 3])
   (.ret)) (.seq (.region [⟨some 152, none, .mov (.t 0)⟩,
    ⟨some 153, none, .bin .geq (.t 152) (.c (.int .i64 2))⟩,
    ⟨some 154, none, .mov (.t 153)⟩,
    ⟨some 155, some (154, true), .mov (.t 0)⟩,
    ⟨some 156, some (154, true), .bin .leq (.t 155) (.c (.int .i64 4))⟩,
    ⟨some 157, none, .pick (.t 154) (.t 156) (.c (.bool false))⟩,
    ⟨some 151, none, .mov (.t 157)⟩] [0, 151])
   (.cond (.t 151) (.seq (.region [⟨some 2, none, .mov (.c (.int .i64 6))⟩,
    ⟨some 3, none, .mov (.c (.int .i64 0))⟩] [2, 3])
   (.ret)) (.seq (.region [⟨some 159, none, .mov (.t 0)⟩,
    ⟨some 160, none, .bin .eql (.t 159) (.c (.int .i64 14))⟩,
    ⟨some 158, none, .mov (.t 160)⟩] [0, 158])
   (.cond (.t 158) (.seq (.region [⟨some 2, none, .mov (.c (.int .i64 7))⟩,
    ⟨some 3, none, .mov (.c (.int .i64 0))⟩] [2, 3])
   (.ret)) (.seq (.region [⟨some 162, none, .mov (.t 0)⟩,
    ⟨some 163, none, .bin .eql (.t 162) (.c (.int .i64 28))⟩,
    ⟨some 164, none, .mov (.t 163)⟩,
    ⟨some 165, some (164, false), .mov (.t 0)⟩,
    ⟨some 166, some (164, false), .bin .eql (.t 165) (.c (.int .i64 208))⟩,
    ⟨some 167, none, .pick (.t 164) (.c (.bool true)) (.t 166)⟩,
    ⟨some 161, none, .mov (.t 167)⟩] [0, 161])
   (.cond (.t 161) (.seq (.region [⟨some 2, none, .mov (.c (.int .i64 8))⟩,
    ⟨some 3, none, .mov (.c (.int .i64 0))⟩] [2, 3])
   (.ret)) (.seq (.region [⟨some 169, none, .mov (.t 0)⟩,
    ⟨some 170, none, .call 45 [.t 169]⟩,
    ⟨some 168, none, .mov (.t 170)⟩] [168])
   (.cond (.t 168) (.seq (.region [⟨some 2, none, .mov (.c (.int .i64 0))⟩,
    ⟨some 3, none, .mov (.c (.int .i64 5))⟩] [2, 3])
   (.ret)) (.skip))))))))))))))))))))))
   (.seq (.region [⟨some 2, none, .mov (.c (.int .i64 0))⟩,
    ⟨some 3, none, .mov (.c (.int .i64 2))⟩] [2, 3])
   (.ret))),
  [.t 2, .t 3], 171, 1⟩
def A17 : Ann := ⟨[(0, [0]), (1, [0, 4]), (2, [2, 3]), (3, [0, 71]), (4, [2, 3]), (5, [0, 122]), (6, [2, 3]), (7, [0, 141]), (8, [2, 3]), (9, [0, 144]), (10, [2, 3]), (11, [0, 147]), (12, [2, 3]), (13, [0, 151]), (14, [2, 3]), (15, [0, 158]), (16, [2, 3]), (17, [0, 161]), (18, [2, 3]), (19, [168]), (20, [2, 3]), (21, [2, 3])], []⟩
set_option maxRecDepth 100000 in
theorem F17.ok : compF Try.prog A17 Try.f17 = some F17 := by kernel_rfl
theorem F17.fok : FOk Try.prog 17 F17 := fok_of mixed Try.func17 F17.ok

/-- cloakroom/op.Width -/
def F18 : SFn := ⟨.seq (.region [⟨some 2, none, .mov (.c (.int .i64 0))⟩] [0])
   (.seq (.seq (.region [⟨some 3, none, .mov (.t 0)⟩] [3])
   (.block 0 (.seq (.seq (.region [⟨some 5, none, .bin .eql (.t 3) (.c (.int .i64 44))⟩,
    ⟨some 4, none, .mov (.t 5)⟩] [3, 4])
   (.cond (.t 4) (.skip) (.seq (.region [⟨some 6, none, .bin .eql (.t 3) (.c (.int .i64 45))⟩,
    ⟨some 4, none, .mov (.t 6)⟩] [3, 4])
   (.cond (.t 4) (.skip) (.seq (.region [⟨some 7, none, .bin .eql (.t 3) (.c (.int .i64 48))⟩,
    ⟨some 4, none, .mov (.t 7)⟩] [3, 4])
   (.cond (.t 4) (.skip) (.seq (.region [⟨some 8, none, .bin .eql (.t 3) (.c (.int .i64 49))⟩,
    ⟨some 4, none, .mov (.t 8)⟩] [3, 4])
   (.cond (.t 4) (.skip) (.seq (.region [⟨some 9, none, .bin .eql (.t 3) (.c (.int .i64 58))⟩,
    ⟨some 4, none, .mov (.t 9)⟩] [3, 4])
   (.cond (.t 4) (.skip) (.region [⟨some 10, none, .bin .eql (.t 3) (.c (.int .i64 60))⟩,
    ⟨some 4, none, .mov (.t 10)⟩] [3, 4])))))))))))
   (.cond (.t 4) (.seq (.region [⟨some 2, none, .mov (.c (.int .i64 1))⟩] [2])
   (.ret)) (.seq (.seq (.region [⟨some 12, none, .bin .eql (.t 3) (.c (.int .i64 46))⟩,
    ⟨some 11, none, .mov (.t 12)⟩] [3, 11])
   (.cond (.t 11) (.skip) (.seq (.region [⟨some 13, none, .bin .eql (.t 3) (.c (.int .i64 47))⟩,
    ⟨some 11, none, .mov (.t 13)⟩] [3, 11])
   (.cond (.t 11) (.skip) (.seq (.region [⟨some 14, none, .bin .eql (.t 3) (.c (.int .i64 50))⟩,
    ⟨some 11, none, .mov (.t 14)⟩] [3, 11])
   (.cond (.t 11) (.skip) (.seq (.region [⟨some 15, none, .bin .eql (.t 3) (.c (.int .i64 51))⟩,
    ⟨some 11, none, .mov (.t 15)⟩] [3, 11])
   (.cond (.t 11) (.skip) (.seq (.region [⟨some 16, none, .bin .eql (.t 3) (.c (.int .i64 59))⟩,
    ⟨some 11, none, .mov (.t 16)⟩] [3, 11])
   (.cond (.t 11) (.skip) (.region [⟨some 17, none, .bin .eql (.t 3) (.c (.int .i64 61))⟩,
    ⟨some 11, none, .mov (.t 17)⟩] [3, 11])))))))))))
   (.cond (.t 11) (.seq (.region [⟨some 2, none, .mov (.c (.int .i64 2))⟩] [2])
   (.ret)) (.seq (.seq (.region [⟨some 19, none, .bin .eql (.t 3) (.c (.int .i64 40))⟩,
    ⟨some 18, none, .mov (.t 19)⟩] [3, 18])
   (.cond (.t 18) (.skip) (.seq (.region [⟨some 20, none, .bin .eql (.t 3) (.c (.int .i64 52))⟩,
    ⟨some 18, none, .mov (.t 20)⟩] [3, 18])
   (.cond (.t 18) (.skip) (.seq (.region [⟨some 21, none, .bin .eql (.t 3) (.c (.int .i64 53))⟩,
    ⟨some 18, none, .mov (.t 21)⟩] [3, 18])
   (.cond (.t 18) (.skip) (.seq (.region [⟨some 22, none, .bin .eql (.t 3) (.c (.int .i64 54))⟩,
    ⟨some 18, none, .mov (.t 22)⟩] [3, 18])
   (.cond (.t 18) (.skip) (.region [⟨some 23, none, .bin .eql (.t 3) (.c (.int .i64 62))⟩,
    ⟨some 18, none, .mov (.t 23)⟩] [3, 18])))))))))
   (.cond (.t 18) (.seq (.region [⟨some 2, none, .mov (.c (.int .i64 4))⟩] [2])
   (.ret)) (.seq (.seq (.region [⟨some 25, none, .bin .eql (.t 3) (.c (.int .i64 41))⟩,
    ⟨some 24, none, .mov (.t 25)⟩] [3, 24])
   (.cond (.t 24) (.skip) (.region [⟨some 26, none, .bin .eql (.t 3) (.c (.int .i64 55))⟩,
    ⟨some 24, none, .mov (.t 26)⟩] [24])))
   (.cond (.t 24) (.seq (.region [⟨some 2, none, .mov (.c (.int .i64 8))⟩] [2])
   (.ret)) (.skip)))))))))))
   (.seq (.region [⟨some 2, none, .mov (.c (.int .i64 0))⟩] [2])
   (.ret))),
  [.t 2], 27, 1⟩
def A18 : Ann := ⟨[(0, [0]), (1, [3]), (2, [3, 4]), (3, [3, 4]), (4, [3, 4]), (5, [3, 4]), (6, [3, 4]), (7, [3, 4]), (8, [2]), (9, [3, 11]), (10, [3, 11]), (11, [3, 11]), (12, [3, 11]), (13, [3, 11]), (14, [3, 11]), (15, [2]), (16, [3, 18]), (17, [3, 18]), (18, [3, 18]), (19, [3, 18]), (20, [3, 18]), (21, [2]), (22, [3, 24]), (23, [24]), (24, [2]), (25, [2])], []⟩
set_option maxRecDepth 100000 in
theorem F18.ok : compF Try.prog A18 Try.f18 = some F18 := by kernel_rfl
theorem F18.fok : FOk Try.prog 18 F18 := fok_of mixed Try.func18 F18.ok

/-- cloakroom/cloakroomref5.Width -/
def F19 : SFn := ⟨.seq (.region [⟨some 2, none, .mov (.c (.int .i64 0))⟩] [0])
   (.seq (.seq (.region [⟨some 3, none, .mov (.t 0)⟩] [3])
   (.block 0 (.seq (.seq (.region [⟨some 5, none, .bin .eql (.t 3) (.c (.int .i64 44))⟩,
    ⟨some 4, none, .mov (.t 5)⟩] [3, 4])
   (.cond (.t 4) (.skip) (.seq (.region [⟨some 6, none, .bin .eql (.t 3) (.c (.int .i64 45))⟩,
    ⟨some 4, none, .mov (.t 6)⟩] [3, 4])
   (.cond (.t 4) (.skip) (.seq (.region [⟨some 7, none, .bin .eql (.t 3) (.c (.int .i64 48))⟩,
    ⟨some 4, none, .mov (.t 7)⟩] [3, 4])
   (.cond (.t 4) (.skip) (.seq (.region [⟨some 8, none, .bin .eql (.t 3) (.c (.int .i64 49))⟩,
    ⟨some 4, none, .mov (.t 8)⟩] [3, 4])
   (.cond (.t 4) (.skip) (.seq (.region [⟨some 9, none, .bin .eql (.t 3) (.c (.int .i64 58))⟩,
    ⟨some 4, none, .mov (.t 9)⟩] [3, 4])
   (.cond (.t 4) (.skip) (.region [⟨some 10, none, .bin .eql (.t 3) (.c (.int .i64 60))⟩,
    ⟨some 4, none, .mov (.t 10)⟩] [3, 4])))))))))))
   (.cond (.t 4) (.seq (.region [⟨some 2, none, .mov (.c (.int .i64 1))⟩] [2])
   (.ret)) (.seq (.seq (.region [⟨some 12, none, .bin .eql (.t 3) (.c (.int .i64 46))⟩,
    ⟨some 11, none, .mov (.t 12)⟩] [3, 11])
   (.cond (.t 11) (.skip) (.seq (.region [⟨some 13, none, .bin .eql (.t 3) (.c (.int .i64 47))⟩,
    ⟨some 11, none, .mov (.t 13)⟩] [3, 11])
   (.cond (.t 11) (.skip) (.seq (.region [⟨some 14, none, .bin .eql (.t 3) (.c (.int .i64 50))⟩,
    ⟨some 11, none, .mov (.t 14)⟩] [3, 11])
   (.cond (.t 11) (.skip) (.seq (.region [⟨some 15, none, .bin .eql (.t 3) (.c (.int .i64 51))⟩,
    ⟨some 11, none, .mov (.t 15)⟩] [3, 11])
   (.cond (.t 11) (.skip) (.seq (.region [⟨some 16, none, .bin .eql (.t 3) (.c (.int .i64 59))⟩,
    ⟨some 11, none, .mov (.t 16)⟩] [3, 11])
   (.cond (.t 11) (.skip) (.region [⟨some 17, none, .bin .eql (.t 3) (.c (.int .i64 61))⟩,
    ⟨some 11, none, .mov (.t 17)⟩] [3, 11])))))))))))
   (.cond (.t 11) (.seq (.region [⟨some 2, none, .mov (.c (.int .i64 2))⟩] [2])
   (.ret)) (.seq (.seq (.region [⟨some 19, none, .bin .eql (.t 3) (.c (.int .i64 40))⟩,
    ⟨some 18, none, .mov (.t 19)⟩] [3, 18])
   (.cond (.t 18) (.skip) (.seq (.region [⟨some 20, none, .bin .eql (.t 3) (.c (.int .i64 52))⟩,
    ⟨some 18, none, .mov (.t 20)⟩] [3, 18])
   (.cond (.t 18) (.skip) (.seq (.region [⟨some 21, none, .bin .eql (.t 3) (.c (.int .i64 53))⟩,
    ⟨some 18, none, .mov (.t 21)⟩] [3, 18])
   (.cond (.t 18) (.skip) (.seq (.region [⟨some 22, none, .bin .eql (.t 3) (.c (.int .i64 54))⟩,
    ⟨some 18, none, .mov (.t 22)⟩] [3, 18])
   (.cond (.t 18) (.skip) (.region [⟨some 23, none, .bin .eql (.t 3) (.c (.int .i64 62))⟩,
    ⟨some 18, none, .mov (.t 23)⟩] [3, 18])))))))))
   (.cond (.t 18) (.seq (.region [⟨some 2, none, .mov (.c (.int .i64 4))⟩] [2])
   (.ret)) (.seq (.seq (.region [⟨some 25, none, .bin .eql (.t 3) (.c (.int .i64 41))⟩,
    ⟨some 24, none, .mov (.t 25)⟩] [3, 24])
   (.cond (.t 24) (.skip) (.region [⟨some 26, none, .bin .eql (.t 3) (.c (.int .i64 55))⟩,
    ⟨some 24, none, .mov (.t 26)⟩] [24])))
   (.cond (.t 24) (.seq (.region [⟨some 2, none, .mov (.c (.int .i64 8))⟩] [2])
   (.ret)) (.skip)))))))))))
   (.seq (.region [⟨some 2, none, .mov (.c (.int .i64 0))⟩] [2])
   (.ret))),
  [.t 2], 27, 1⟩
def A19 : Ann := ⟨[(0, [0]), (1, [3]), (2, [3, 4]), (3, [3, 4]), (4, [3, 4]), (5, [3, 4]), (6, [3, 4]), (7, [3, 4]), (8, [2]), (9, [3, 11]), (10, [3, 11]), (11, [3, 11]), (12, [3, 11]), (13, [3, 11]), (14, [3, 11]), (15, [2]), (16, [3, 18]), (17, [3, 18]), (18, [3, 18]), (19, [3, 18]), (20, [3, 18]), (21, [2]), (22, [3, 24]), (23, [24]), (24, [2]), (25, [2])], []⟩
set_option maxRecDepth 100000 in
theorem F19.ok : compF Try.prog A19 Try.f19 = some F19 := by kernel_rfl
theorem F19.fok : FOk Try.prog 19 F19 := fok_of mixed Try.func19 F19.ok

/-- cloakroom/op.Names -/
def F20 : SFn := ⟨.seq (.region [⟨some 0, none, .mov (.c (.slice none 0 0))⟩] [])
   (.seq (.region [⟨some 1, none, .mov (.c (.slice none 0 0))⟩] [1])
   (.seq (.seq (.region [⟨some 7, none, .bslice 2 1 [.int .i64 0] [(0, 1, .c (.int .i64 0)), (1, 1, .c (.int .i64 64512))]⟩,
    ⟨some 8, none, .lenV (.t 7)⟩,
    ⟨some 9, none, .mov (.c (.int .i64 0))⟩] [1, 7, 8, 9])
   (.block 0 (.loop (.seq (.region [⟨some 10, none, .bin .lss (.t 9) (.t 8)⟩] [1, 7, 8, 9, 10])
   (.seq (.cond (.t 10) (.skip) (.exit 0))
   (.seq (.block 1 (.seq (.region [⟨some 11, none, .iaV 1 (.t 7) (.t 9)⟩,
    ⟨some 12, none, .ld 1 false (.t 11)⟩,
    ⟨some 3, none, .mov (.t 12)⟩] [1, 3, 7, 8, 9])
   (.seq (.region [⟨some 13, none, .mov (.t 3)⟩,
    ⟨some 4, none, .mov (.t 13)⟩] [1, 3, 4, 7, 8, 9])
   (.block 2 (.loop (.seq (.seq (.region [⟨some 14, none, .mov (.t 4)⟩,
    ⟨some 15, none, .mov (.t 3)⟩,
    ⟨some 16, none, .bin .add (.t 15) (.c (.int .i64 256))⟩,
    ⟨some 17, none, .bin .lss (.t 14) (.t 16)⟩] [1, 3, 4, 7, 8, 9, 17])
   (.cond (.t 17) (.skip) (.exit 2)))
   (.seq (.block 3 (.seq (.region [⟨some 21, none, .mov (.t 4)⟩,
    ⟨some 22, none, .call 16 [.t 21]⟩,
    ⟨some 20, none, .mov (.t 22)⟩,
    ⟨some 23, none, .ext (.t 20) 0⟩,
    ⟨some 24, none, .ext (.t 20) 1⟩,
    ⟨some 5, none, .mov (.t 23)⟩,
    ⟨some 6, none, .mov (.t 24)⟩] [1, 3, 4, 6, 7, 8, 9])
   (.seq (.region [⟨some 25, none, .mov (.t 6)⟩,
    ⟨some 26, none, .bin .eql (.t 25) (.c (.int .i64 0))⟩] [1, 3, 4, 7, 8, 9, 26])
   (.cond (.t 26) (.region [⟨some 27, none, .mov (.t 1)⟩,
    ⟨some 28, none, .mov (.t 4)⟩,
    ⟨some 29, none, .bslice 1 1 [.int .i64 0] [(0, 1, .t 28)]⟩,
    ⟨some 30, none, .app 1 8 (.t 27) (.t 29)⟩,
    ⟨some 1, none, .mov (.t 30)⟩] [1, 3, 4, 7, 8, 9]) (.skip)))))
   (.region [⟨some 18, none, .mov (.t 4)⟩,
    ⟨some 19, none, .bin .add (.t 18) (.c (.int .i64 1))⟩,
    ⟨some 4, none, .mov (.t 19)⟩] [1, 3, 4, 7, 8, 9]))))))))
   (.region [⟨some 31, none, .bin .add (.t 9) (.c (.int .i64 1))⟩,
    ⟨some 9, none, .mov (.t 31)⟩] [1, 7, 8, 9])))))))
   (.seq (.region [⟨some 32, none, .mov (.t 1)⟩,
    ⟨some 0, none, .mov (.t 32)⟩] [0])
   (.ret)))),
  [.t 0], 33, 0⟩
def A20 : Ann := ⟨[(0, []), (1, [1]), (2, [1, 7, 8, 9]), (3, [1, 7, 8, 9, 10]), (4, [1, 3, 7, 8, 9]), (5, [1, 3, 4, 7, 8, 9]), (6, [1, 3, 4, 7, 8, 9, 17]), (7, [1, 3, 4, 7, 8, 9]), (8, [1, 3, 4, 6, 7, 8, 9]), (9, [1, 3, 4, 7, 8, 9, 26]), (10, [1, 3, 4, 7, 8, 9]), (11, [1, 7, 8, 9]), (12, [0])], []⟩
set_option maxRecDepth 100000 in
theorem F20.ok : compF Try.prog A20 Try.f20 = some F20 := by kernel_rfl
theorem F20.fok : FOk Try.prog 20 F20 := fok_of mixed Try.func20 F20.ok

/-- cloakroom/cloakroomref5.Names -/
def F21 : SFn := ⟨.seq (.region [⟨some 0, none, .mov (.c (.slice none 0 0))⟩] [])
   (.seq (.region [⟨some 1, none, .mov (.c (.slice none 0 0))⟩] [1])
   (.seq (.seq (.region [⟨some 2, none, .mov (.c (.int .i64 0))⟩] [1, 2])
   (.block 0 (.loop (.seq (.seq (.region [⟨some 5, none, .mov (.t 2)⟩,
    ⟨some 6, none, .bin .lss (.t 5) (.c (.int .i64 64768))⟩] [1, 2, 6])
   (.cond (.t 6) (.skip) (.exit 0)))
   (.seq (.block 1 (.seq (.region [⟨some 10, none, .mov (.t 2)⟩,
    ⟨some 11, none, .call 17 [.t 10]⟩,
    ⟨some 9, none, .mov (.t 11)⟩,
    ⟨some 12, none, .ext (.t 9) 0⟩,
    ⟨some 13, none, .ext (.t 9) 1⟩,
    ⟨some 3, none, .mov (.t 12)⟩,
    ⟨some 4, none, .mov (.t 13)⟩] [1, 2, 4])
   (.seq (.region [⟨some 14, none, .mov (.t 4)⟩,
    ⟨some 15, none, .bin .eql (.t 14) (.c (.int .i64 0))⟩] [1, 2, 15])
   (.cond (.t 15) (.region [⟨some 16, none, .mov (.t 1)⟩,
    ⟨some 17, none, .mov (.t 2)⟩,
    ⟨some 18, none, .bslice 1 1 [.int .i64 0] [(0, 1, .t 17)]⟩,
    ⟨some 19, none, .app 1 8 (.t 16) (.t 18)⟩,
    ⟨some 1, none, .mov (.t 19)⟩] [1, 2]) (.skip)))))
   (.region [⟨some 7, none, .mov (.t 2)⟩,
    ⟨some 8, none, .bin .add (.t 7) (.c (.int .i64 1))⟩,
    ⟨some 2, none, .mov (.t 8)⟩] [1, 2]))))))
   (.seq (.region [⟨some 20, none, .mov (.t 1)⟩,
    ⟨some 0, none, .mov (.t 20)⟩] [0])
   (.ret)))),
  [.t 0], 21, 0⟩
def A21 : Ann := ⟨[(0, []), (1, [1]), (2, [1, 2]), (3, [1, 2, 6]), (4, [1, 2]), (5, [1, 2, 4]), (6, [1, 2, 15]), (7, [1, 2]), (8, [0])], []⟩
set_option maxRecDepth 100000 in
theorem F21.ok : compF Try.prog A21 Try.f21 = some F21 := by kernel_rfl
theorem F21.fok : FOk Try.prog 21 F21 := fok_of mixed Try.func21 F21.ok

/-- cloakroom/cloakroomlaw10.begun -/
def F22 : SFn := ⟨.seq (.region [⟨some 0, none, .mov (.c (.bool false))⟩] [])
   (.seq (.region [⟨some 6, none, .build [.int .i64 0, .int .u32 0, .int .u32 0, .int .u64 0, .slice none 0 0, .int .i64 0] [(0, 1, .c (.int .i64 4))]⟩,
    ⟨some 7, none, .build [.int .i64 0, .int .u32 0, .int .u32 0, .int .u64 0, .slice none 0 0, .int .i64 0] [(0, 1, .c (.int .i64 5))]⟩,
    ⟨some 8, none, .build [.int .i64 0, .int .u32 0, .int .u32 0, .int .u64 0, .slice none 0 0, .int .i64 0] [(0, 1, .c (.int .i64 11))]⟩,
    ⟨some 9, none, .build [.int .i64 0, .int .u32 0, .int .u32 0, .int .u64 0, .slice none 0 0, .int .i64 0] [(0, 1, .c (.int .i64 11))]⟩,
    ⟨some 10, none, .bslice 4 6 [.int .i64 0, .int .u32 0, .int .u32 0, .int .u64 0, .slice none 0 0, .int .i64 0] [(0, 6, .t 6), (6, 6, .t 7), (12, 6, .t 8), (18, 6, .t 9)]⟩,
    ⟨some 11, none, .call 23 [.t 10]⟩,
    ⟨some 5, none, .mov (.t 11)⟩,
    ⟨some 12, none, .ext (.t 5) 0⟩,
    ⟨some 13, none, .ext (.t 5) 1⟩,
    ⟨some 1, none, .mov (.t 12)⟩,
    ⟨some 2, none, .mov (.t 13)⟩] [1, 2])
   (.seq (.region [⟨some 15, none, .call 23 [.c (.slice none 0 0)]⟩,
    ⟨some 14, none, .mov (.t 15)⟩,
    ⟨some 16, none, .ext (.t 14) 0⟩,
    ⟨some 17, none, .ext (.t 14) 1⟩,
    ⟨some 3, none, .mov (.t 16)⟩,
    ⟨some 4, none, .mov (.t 17)⟩] [1, 2, 4])
   (.seq (.region [⟨some 18, none, .mov (.t 2)⟩,
    ⟨some 19, none, .mov (.t 18)⟩,
    ⟨some 20, some (19, true), .mov (.t 1)⟩,
    ⟨some 21, some (19, true), .look false (.agg ⟨[.int .i64 0, .int .i64 0]⟩) false (.t 20) (.c (.int .i64 0))⟩,
    ⟨some 22, some (19, true), .build [.int .i64 0, .int .i64 0] [(0, 1, .c (.int .i64 1)), (1, 1, .c (.int .i64 2))]⟩,
    ⟨some 23, some (19, true), .eqs false [.int, .int] (.t 21) (.t 22)⟩,
    ⟨some 24, none, .pick (.t 19) (.t 23) (.c (.bool false))⟩,
    ⟨some 25, none, .mov (.t 24)⟩,
    ⟨some 26, some (25, true), .mov (.t 4)⟩,
    ⟨some 27, some (25, true), .un .not (.t 26)⟩,
    ⟨some 28, none, .pick (.t 25) (.t 27) (.c (.bool false))⟩,
    ⟨some 29, none, .mov (.t 28)⟩,
    ⟨some 30, some (29, true), .build [.int .i64 0, .int .u32 0, .int .u32 0, .int .u64 0, .slice none 0 0, .int .i64 0] [(0, 1, .c (.int .i64 2))]⟩,
    ⟨some 31, some (29, true), .build [.int .i64 0, .int .u32 0, .int .u32 0, .int .u64 0, .slice none 0 0, .int .i64 0] [(0, 1, .c (.int .i64 11))]⟩,
    ⟨some 32, some (29, true), .build [.int .i64 0, .int .u32 0, .int .u32 0, .int .u64 0, .slice none 0 0, .int .i64 0] [(0, 1, .c (.int .i64 11))]⟩,
    ⟨some 33, some (29, true), .bslice 3 6 [.int .i64 0, .int .u32 0, .int .u32 0, .int .u64 0, .slice none 0 0, .int .i64 0] [(0, 6, .t 30), (6, 6, .t 31), (12, 6, .t 32)]⟩,
    ⟨some 34, some (29, true), .call 26 [.t 33]⟩,
    ⟨some 35, some (29, true), .bin .eql (.t 34) (.c (.int .i64 1))⟩,
    ⟨some 36, none, .pick (.t 29) (.t 35) (.c (.bool false))⟩,
    ⟨some 0, none, .mov (.t 36)⟩] [0])
   (.ret)))),
  [.t 0], 37, 0⟩
def A22 : Ann := ⟨[(0, []), (1, [1, 2]), (2, [1, 2, 4]), (3, [0])], []⟩
set_option maxRecDepth 100000 in
theorem F22.ok : compF Try.prog A22 Try.f22 = some F22 := by kernel_rfl
theorem F22.fok : FOk Try.prog 22 F22 := fok_of mixed Try.func22 F22.ok

/-- cloakroom/ctrl.Blocks -/
def F23 : SFn := ⟨.seq (.region [⟨some 2, none, .mov (.c (.map none))⟩,
    ⟨some 3, none, .mov (.c (.bool false))⟩] [0])
   (.seq (.region [⟨some 7, none, .mov (.t 0)⟩,
    ⟨some 8, none, .call 46 [.t 7]⟩,
    ⟨some 6, none, .mov (.t 8)⟩,
    ⟨some 9, none, .ext (.t 6) 0⟩,
    ⟨some 10, none, .ext (.t 6) 1⟩,
    ⟨some 4, none, .mov (.t 9)⟩,
    ⟨some 5, none, .mov (.t 10)⟩] [4, 5])
   (.seq (.seq (.region [⟨some 11, none, .mov (.t 5)⟩,
    ⟨some 12, none, .un .not (.t 11)⟩] [4, 12])
   (.cond (.t 12) (.seq (.region [⟨some 2, none, .mov (.c (.map none))⟩,
    ⟨some 3, none, .mov (.c (.bool false))⟩] [2, 3])
   (.ret)) (.skip)))
   (.seq (.region [⟨some 13, none, .mov (.t 4)⟩,
    ⟨some 14, none, .nilc (.t 13)⟩,
    ⟨some 15, none, .fa 2 (.t 14)⟩,
    ⟨some 16, none, .ld 1 false (.t 15)⟩,
    ⟨some 2, none, .mov (.t 16)⟩,
    ⟨some 3, none, .mov (.c (.bool true))⟩] [2, 3])
   (.ret)))),
  [.t 2, .t 3], 17, 1⟩
def A23 : Ann := ⟨[(0, [0]), (1, [4, 5]), (2, [4, 12]), (3, [2, 3]), (4, [2, 3])], []⟩
set_option maxRecDepth 100000 in
theorem F23.ok : compF Try.prog A23 Try.f23 = some F23 := by kernel_rfl
theorem F23.fok : FOk Try.prog 23 F23 := fok_of mixed Try.func23 F23.ok

/-- cloakroom/cloakroomref10.Blocks -/
def F24 : SFn := ⟨.seq (.region [⟨some 2, none, .mov (.c (.map none))⟩,
    ⟨some 3, none, .mov (.c (.bool false))⟩] [0])
   (.seq (.region [⟨some 12, none, .mkMap⟩,
    ⟨some 4, none, .mov (.t 12)⟩] [0, 4])
   (.seq (.region [⟨some 5, none, .mov (.c (.slice none 0 0))⟩] [0, 4, 5])
   (.seq (.seq (.region [⟨some 6, none, .mov (.c (.int .i64 0))⟩] [0, 4, 5, 6])
   (.block 0 (.loop (.seq (.seq (.region [⟨some 13, none, .mov (.t 6)⟩,
    ⟨some 14, none, .mov (.t 0)⟩,
    ⟨some 15, none, .lenV (.t 14)⟩,
    ⟨some 16, none, .bin .lss (.t 13) (.t 15)⟩] [0, 4, 5, 6, 16])
   (.cond (.t 16) (.skip) (.exit 0)))
   (.seq (.block 1 (.seq (.region [⟨some 19, none, .mov (.t 0)⟩,
    ⟨some 20, none, .mov (.t 6)⟩,
    ⟨some 21, none, .iaV 6 (.t 19) (.t 20)⟩,
    ⟨some 22, none, .fa 0 (.t 21)⟩,
    ⟨some 23, none, .ld 1 false (.t 22)⟩,
    ⟨some 7, none, .mov (.t 23)⟩] [0, 4, 5, 6, 7])
   (.block 2 (.seq (.region [⟨some 25, none, .mov (.t 7)⟩,
    ⟨some 26, none, .bin .geq (.t 25) (.c (.int .i64 2))⟩,
    ⟨some 27, none, .mov (.t 26)⟩,
    ⟨some 28, some (27, true), .mov (.t 7)⟩,
    ⟨some 29, some (27, true), .bin .leq (.t 28) (.c (.int .i64 4))⟩,
    ⟨some 30, none, .pick (.t 27) (.t 29) (.c (.bool false))⟩,
    ⟨some 24, none, .mov (.t 30)⟩] [0, 4, 5, 6, 7, 24])
   (.cond (.t 24) (.seq (.region [⟨some 31, none, .mov (.t 5)⟩,
    ⟨some 32, none, .mov (.t 6)⟩,
    ⟨some 33, none, .bslice 1 1 [.int .i64 0] [(0, 1, .t 32)]⟩,
    ⟨some 34, none, .app 1 8 (.t 31) (.t 33)⟩,
    ⟨some 5, none, .mov (.t 34)⟩] [0, 4, 5, 6])
   (.region [⟨some 35, none, .mov (.t 4)⟩,
    ⟨some 36, none, .mov (.t 6)⟩,
    ⟨some 37, none, .build [.int .i64 0, .int .i64 0] [(0, 1, .c (.int .i64 (-1))), (1, 1, .c (.int .i64 (-1)))]⟩,
    ⟨none, none, .mput false (.t 35) (.t 36) (.t 37)⟩] [0, 4, 5, 6])) (.seq (.region [⟨some 39, none, .mov (.t 7)⟩,
    ⟨some 40, none, .bin .eql (.t 39) (.c (.int .i64 5))⟩,
    ⟨some 38, none, .mov (.t 40)⟩] [0, 4, 5, 6, 7, 38])
   (.cond (.t 38) (.seq (.seq (.region [⟨some 41, none, .mov (.t 5)⟩,
    ⟨some 42, none, .lenV (.t 41)⟩,
    ⟨some 43, none, .bin .eql (.t 42) (.c (.int .i64 0))⟩] [0, 4, 5, 6, 43])
   (.cond (.t 43) (.seq (.region [⟨some 2, none, .mov (.c (.map none))⟩,
    ⟨some 3, none, .mov (.c (.bool false))⟩] [2, 3])
   (.ret)) (.skip)))
   (.seq (.region [⟨some 44, none, .mov (.t 5)⟩,
    ⟨some 45, none, .mov (.t 5)⟩,
    ⟨some 46, none, .lenV (.t 45)⟩,
    ⟨some 47, none, .bin .sub (.t 46) (.c (.int .i64 1))⟩,
    ⟨some 48, none, .iaV 1 (.t 44) (.t 47)⟩,
    ⟨some 49, none, .ld 1 false (.t 48)⟩,
    ⟨some 8, none, .mov (.t 49)⟩] [0, 4, 5, 6, 8])
   (.seq (.region [⟨some 50, none, .mov (.t 4)⟩,
    ⟨some 51, none, .mov (.t 8)⟩,
    ⟨some 52, none, .look false (.agg ⟨[.int .i64 0, .int .i64 0]⟩) false (.t 50) (.t 51)⟩,
    ⟨some 9, none, .new [.int .i64 0, .int .i64 0]⟩,
    ⟨none, none, .st 2 (.t 9) (.t 52)⟩] [0, 4, 5, 6, 8, 9])
   (.seq (.seq (.region [⟨some 53, none, .mov (.t 0)⟩,
    ⟨some 54, none, .mov (.t 8)⟩,
    ⟨some 55, none, .iaV 6 (.t 53) (.t 54)⟩,
    ⟨some 56, none, .fa 0 (.t 55)⟩,
    ⟨some 57, none, .ld 1 false (.t 56)⟩,
    ⟨some 58, none, .bin .neq (.t 57) (.c (.int .i64 4))⟩,
    ⟨some 59, none, .mov (.t 58)⟩,
    ⟨some 60, some (59, false), .fa 0 (.t 9)⟩,
    ⟨some 61, some (59, false), .ld 1 false (.t 60)⟩,
    ⟨some 62, some (59, false), .bin .geq (.t 61) (.c (.int .i64 0))⟩,
    ⟨some 63, none, .pick (.t 59) (.c (.bool true)) (.t 62)⟩] [0, 4, 5, 6, 8, 9, 63])
   (.cond (.t 63) (.seq (.region [⟨some 2, none, .mov (.c (.map none))⟩,
    ⟨some 3, none, .mov (.c (.bool false))⟩] [2, 3])
   (.ret)) (.skip)))
   (.seq (.region [⟨some 64, none, .mov (.t 6)⟩,
    ⟨some 65, none, .fa 0 (.t 9)⟩,
    ⟨none, none, .st 1 (.t 65) (.t 64)⟩] [0, 4, 5, 6, 8, 9])
   (.region [⟨some 66, none, .mov (.t 4)⟩,
    ⟨some 67, none, .mov (.t 8)⟩,
    ⟨some 68, none, .ld 2 true (.t 9)⟩,
    ⟨none, none, .mput false (.t 66) (.t 67) (.t 68)⟩] [0, 4, 5, 6])))))) (.seq (.region [⟨some 70, none, .mov (.t 7)⟩,
    ⟨some 71, none, .bin .eql (.t 70) (.c (.int .i64 11))⟩,
    ⟨some 69, none, .mov (.t 71)⟩] [0, 4, 5, 6, 69])
   (.cond (.t 69) (.seq (.seq (.region [⟨some 72, none, .mov (.t 5)⟩,
    ⟨some 73, none, .lenV (.t 72)⟩,
    ⟨some 74, none, .bin .eql (.t 73) (.c (.int .i64 0))⟩] [0, 4, 5, 6, 74])
   (.cond (.t 74) (.seq (.seq (.region [⟨some 75, none, .mov (.t 6)⟩,
    ⟨some 76, none, .mov (.t 0)⟩,
    ⟨some 77, none, .lenV (.t 76)⟩,
    ⟨some 78, none, .bin .sub (.t 77) (.c (.int .i64 1))⟩,
    ⟨some 79, none, .bin .neq (.t 75) (.t 78)⟩] [4, 79])
   (.cond (.t 79) (.seq (.region [⟨some 2, none, .mov (.c (.map none))⟩,
    ⟨some 3, none, .mov (.c (.bool false))⟩] [2, 3])
   (.ret)) (.skip)))
   (.seq (.region [⟨some 80, none, .mov (.t 4)⟩,
    ⟨some 2, none, .mov (.t 80)⟩,
    ⟨some 3, none, .mov (.c (.bool true))⟩] [2, 3])
   (.ret))) (.skip)))
   (.seq (.region [⟨some 81, none, .mov (.t 5)⟩,
    ⟨some 82, none, .mov (.t 5)⟩,
    ⟨some 83, none, .lenV (.t 82)⟩,
    ⟨some 84, none, .bin .sub (.t 83) (.c (.int .i64 1))⟩,
    ⟨some 85, none, .iaV 1 (.t 81) (.t 84)⟩,
    ⟨some 86, none, .ld 1 false (.t 85)⟩,
    ⟨some 10, none, .mov (.t 86)⟩] [0, 4, 5, 6, 10])
   (.seq (.region [⟨some 87, none, .mov (.t 4)⟩,
    ⟨some 88, none, .mov (.t 10)⟩,
    ⟨some 89, none, .look false (.agg ⟨[.int .i64 0, .int .i64 0]⟩) false (.t 87) (.t 88)⟩,
    ⟨some 11, none, .new [.int .i64 0, .int .i64 0]⟩,
    ⟨none, none, .st 2 (.t 11) (.t 89)⟩] [0, 4, 5, 6, 10, 11])
   (.seq (.region [⟨some 90, none, .mov (.t 6)⟩,
    ⟨some 91, none, .fa 1 (.t 11)⟩,
    ⟨none, none, .st 1 (.t 91) (.t 90)⟩] [0, 4, 5, 6, 10, 11])
   (.seq (.region [⟨some 92, none, .mov (.t 4)⟩,
    ⟨some 93, none, .mov (.t 10)⟩,
    ⟨some 94, none, .ld 2 true (.t 11)⟩,
    ⟨none, none, .mput false (.t 92) (.t 93) (.t 94)⟩] [0, 4, 5, 6])
   (.region [⟨some 95, none, .mov (.t 5)⟩,
    ⟨some 96, none, .mov (.t 5)⟩,
    ⟨some 97, none, .lenV (.t 96)⟩,
    ⟨some 98, none, .bin .sub (.t 97) (.c (.int .i64 1))⟩,
    ⟨some 99, none, .slV 1 (.t 95) none (some (.t 98)) none⟩,
    ⟨some 5, none, .mov (.t 99)⟩] [0, 4, 5, 6])))))) (.skip))))))))))
   (.region [⟨some 17, none, .mov (.t 6)⟩,
    ⟨some 18, none, .bin .add (.t 17) (.c (.int .i64 1))⟩,
    ⟨some 6, none, .mov (.t 18)⟩] [0, 4, 5, 6]))))))
   (.seq (.region [⟨some 2, none, .mov (.c (.map none))⟩,
    ⟨some 3, none, .mov (.c (.bool false))⟩] [2, 3])
   (.ret))))),
  [.t 2, .t 3], 100, 1⟩
def A24 : Ann := ⟨[(0, [0]), (1, [0, 4]), (2, [0, 4, 5]), (3, [0, 4, 5, 6]), (4, [0, 4, 5, 6, 16]), (5, [0, 4, 5, 6]), (6, [0, 4, 5, 6, 7]), (7, [0, 4, 5, 6, 7, 24]), (8, [0, 4, 5, 6]), (9, [0, 4, 5, 6]), (10, [0, 4, 5, 6, 7, 38]), (11, [0, 4, 5, 6, 43]), (12, [2, 3]), (13, [0, 4, 5, 6, 8]), (14, [0, 4, 5, 6, 8, 9]), (15, [0, 4, 5, 6, 8, 9, 63]), (16, [2, 3]), (17, [0, 4, 5, 6, 8, 9]), (18, [0, 4, 5, 6]), (19, [0, 4, 5, 6, 69]), (20, [0, 4, 5, 6, 74]), (21, [4, 79]), (22, [2, 3]), (23, [2, 3]), (24, [0, 4, 5, 6, 10]), (25, [0, 4, 5, 6, 10, 11]), (26, [0, 4, 5, 6, 10, 11]), (27, [0, 4, 5, 6]), (28, [0, 4, 5, 6]), (29, [2, 3])], []⟩
set_option maxRecDepth 100000 in
theorem F24.ok : compF Try.prog A24 Try.f24 = some F24 := by kernel_rfl
theorem F24.fok : FOk Try.prog 24 F24 := fok_of mixed Try.func24 F24.ok

/-- cloakroom/cloakroomref10.SameBlocks -/
def F25 : SFn := ⟨.seq (.region [⟨some 4, none, .mov (.c (.bool false))⟩] [0, 1])
   (.seq (.seq (.region [⟨some 10, none, .mov (.t 0)⟩,
    ⟨some 11, none, .lenM (.t 10)⟩,
    ⟨some 12, none, .mov (.t 1)⟩,
    ⟨some 13, none, .lenM (.t 12)⟩,
    ⟨some 14, none, .bin .neq (.t 11) (.t 13)⟩] [0, 1, 14])
   (.cond (.t 14) (.seq (.region [⟨some 4, none, .mov (.c (.bool false))⟩] [4])
   (.ret)) (.skip)))
   (.seq (.seq (.region [⟨some 5, none, .mov (.c (.int .i64 0))⟩] [0, 1, 5])
   (.block 0 (.loop (.seq (.seq (.region [⟨some 15, none, .mov (.t 5)⟩,
    ⟨some 16, none, .bin .lss (.t 15) (.c (.int .i64 2000))⟩] [0, 1, 5, 16])
   (.cond (.t 16) (.skip) (.exit 0)))
   (.seq (.block 1 (.seq (.region [⟨some 20, none, .mov (.t 0)⟩,
    ⟨some 21, none, .mov (.t 5)⟩,
    ⟨some 22, none, .look false (.agg ⟨[.int .i64 0, .int .i64 0]⟩) true (.t 20) (.t 21)⟩,
    ⟨some 19, none, .mov (.t 22)⟩,
    ⟨some 23, none, .ext (.t 19) 0⟩,
    ⟨some 24, none, .ext (.t 19) 1⟩,
    ⟨some 6, none, .new [.int .i64 0, .int .i64 0]⟩,
    ⟨none, none, .st 2 (.t 6) (.t 23)⟩,
    ⟨some 7, none, .mov (.t 24)⟩] [0, 1, 5, 6, 7])
   (.seq (.region [⟨some 26, none, .mov (.t 1)⟩,
    ⟨some 27, none, .mov (.t 5)⟩,
    ⟨some 28, none, .look false (.agg ⟨[.int .i64 0, .int .i64 0]⟩) true (.t 26) (.t 27)⟩,
    ⟨some 25, none, .mov (.t 28)⟩,
    ⟨some 29, none, .ext (.t 25) 0⟩,
    ⟨some 30, none, .ext (.t 25) 1⟩,
    ⟨some 8, none, .new [.int .i64 0, .int .i64 0]⟩,
    ⟨none, none, .st 2 (.t 8) (.t 29)⟩,
    ⟨some 9, none, .mov (.t 30)⟩] [0, 1, 5, 6, 7, 8, 9])
   (.seq (.region [⟨some 31, none, .mov (.t 7)⟩,
    ⟨some 32, none, .mov (.t 9)⟩,
    ⟨some 33, none, .eqk true .bool (.t 31) (.t 32)⟩,
    ⟨some 34, none, .mov (.t 33)⟩,
    ⟨some 35, some (34, false), .ld 2 true (.t 6)⟩,
    ⟨some 36, some (34, false), .ld 2 true (.t 8)⟩,
    ⟨some 37, some (34, false), .eqs true [.int, .int] (.t 35) (.t 36)⟩,
    ⟨some 38, none, .pick (.t 34) (.c (.bool true)) (.t 37)⟩] [0, 1, 5, 38])
   (.cond (.t 38) (.seq (.region [⟨some 4, none, .mov (.c (.bool false))⟩] [4])
   (.ret)) (.skip))))))
   (.region [⟨some 17, none, .mov (.t 5)⟩,
    ⟨some 18, none, .bin .add (.t 17) (.c (.int .i64 1))⟩,
    ⟨some 5, none, .mov (.t 18)⟩] [0, 1, 5]))))))
   (.seq (.region [⟨some 4, none, .mov (.c (.bool true))⟩] [4])
   (.ret)))),
  [.t 4], 39, 2⟩
def A25 : Ann := ⟨[(0, [0, 1]), (1, [0, 1, 14]), (2, [4]), (3, [0, 1, 5]), (4, [0, 1, 5, 16]), (5, [0, 1, 5]), (6, [0, 1, 5, 6, 7]), (7, [0, 1, 5, 6, 7, 8, 9]), (8, [0, 1, 5, 38]), (9, [4]), (10, [4])], []⟩
set_option maxRecDepth 100000 in
theorem F25.ok : compF Try.prog A25 Try.f25 = some F25 := by kernel_rfl
theorem F25.fok : FOk Try.prog 25 F25 := fok_of mixed Try.func25 F25.ok

/-- cloakroom/ctrl.Depth -/
def F26 : SFn := ⟨.seq (.region [⟨some 2, none, .mov (.c (.int .i64 0))⟩] [0])
   (.seq (.region [⟨some 6, none, .mov (.t 0)⟩,
    ⟨some 7, none, .call 46 [.t 6]⟩,
    ⟨some 5, none, .mov (.t 7)⟩,
    ⟨some 8, none, .ext (.t 5) 0⟩,
    ⟨some 9, none, .ext (.t 5) 1⟩,
    ⟨some 3, none, .mov (.t 8)⟩,
    ⟨some 4, none, .mov (.t 9)⟩] [3, 4])
   (.seq (.seq (.region [⟨some 10, none, .mov (.t 4)⟩,
    ⟨some 11, none, .un .not (.t 10)⟩] [3, 11])
   (.cond (.t 11) (.seq (.region [⟨some 2, none, .mov (.c (.int .i64 0))⟩] [2])
   (.ret)) (.skip)))
   (.seq (.region [⟨some 12, none, .mov (.t 3)⟩,
    ⟨some 13, none, .nilc (.t 12)⟩,
    ⟨some 14, none, .fa 3 (.t 13)⟩,
    ⟨some 15, none, .ld 1 false (.t 14)⟩,
    ⟨some 2, none, .mov (.t 15)⟩] [2])
   (.ret)))),
  [.t 2], 16, 1⟩
def A26 : Ann := ⟨[(0, [0]), (1, [3, 4]), (2, [3, 11]), (3, [2]), (4, [2])], []⟩
set_option maxRecDepth 100000 in
theorem F26.ok : compF Try.prog A26 Try.f26 = some F26 := by kernel_rfl
theorem F26.fok : FOk Try.prog 26 F26 := fok_of mixed Try.func26 F26.ok

/-- cloakroom/cloakroomref10.Depth -/
def F27 : SFn := ⟨.seq (.region [⟨some 2, none, .mov (.c (.int .i64 0))⟩] [0])
   (.seq (.region [⟨some 9, none, .mov (.t 0)⟩,
    ⟨some 10, none, .call 24 [.t 9]⟩,
    ⟨some 8, none, .mov (.t 10)⟩,
    ⟨some 11, none, .ext (.t 8) 0⟩,
    ⟨some 12, none, .ext (.t 8) 1⟩,
    ⟨some 3, none, .mov (.t 11)⟩,
    ⟨some 4, none, .mov (.t 12)⟩] [0, 4])
   (.seq (.region [⟨some 5, none, .mov (.c (.int .i64 0))⟩,
    ⟨some 6, none, .mov (.c (.int .i64 0))⟩] [0, 4, 5, 6])
   (.seq (.seq (.region [⟨some 7, none, .mov (.c (.int .i64 0))⟩] [0, 4, 5, 6, 7])
   (.block 0 (.loop (.seq (.seq (.region [⟨some 13, none, .mov (.t 7)⟩,
    ⟨some 14, none, .mov (.t 0)⟩,
    ⟨some 15, none, .lenV (.t 14)⟩,
    ⟨some 16, none, .bin .lss (.t 13) (.t 15)⟩,
    ⟨some 17, none, .mov (.t 16)⟩,
    ⟨some 18, some (17, true), .mov (.t 4)⟩,
    ⟨some 19, none, .pick (.t 17) (.t 18) (.c (.bool false))⟩] [0, 4, 5, 6, 7, 19])
   (.cond (.t 19) (.skip) (.exit 0)))
   (.seq (.block 1 (.seq (.seq (.region [⟨some 22, none, .mov (.t 0)⟩,
    ⟨some 23, none, .mov (.t 7)⟩,
    ⟨some 24, none, .iaV 6 (.t 22) (.t 23)⟩,
    ⟨some 25, none, .fa 0 (.t 24)⟩,
    ⟨some 26, none, .ld 1 false (.t 25)⟩,
    ⟨some 27, none, .bin .geq (.t 26) (.c (.int .i64 2))⟩,
    ⟨some 28, none, .mov (.t 27)⟩,
    ⟨some 29, some (28, true), .mov (.t 0)⟩,
    ⟨some 30, some (28, true), .mov (.t 7)⟩,
    ⟨some 31, some (28, true), .iaV 6 (.t 29) (.t 30)⟩,
    ⟨some 32, some (28, true), .fa 0 (.t 31)⟩,
    ⟨some 33, some (28, true), .ld 1 false (.t 32)⟩,
    ⟨some 34, some (28, true), .bin .leq (.t 33) (.c (.int .i64 4))⟩,
    ⟨some 35, none, .pick (.t 28) (.t 34) (.c (.bool false))⟩] [0, 4, 5, 6, 7, 35])
   (.cond (.t 35) (.region [⟨some 36, none, .mov (.t 6)⟩,
    ⟨some 37, none, .bin .add (.t 36) (.c (.int .i64 1))⟩,
    ⟨some 6, none, .mov (.t 37)⟩] [0, 4, 5, 6, 7]) (.skip)))
   (.seq (.seq (.region [⟨some 38, none, .mov (.t 0)⟩,
    ⟨some 39, none, .mov (.t 7)⟩,
    ⟨some 40, none, .iaV 6 (.t 38) (.t 39)⟩,
    ⟨some 41, none, .fa 0 (.t 40)⟩,
    ⟨some 42, none, .ld 1 false (.t 41)⟩,
    ⟨some 43, none, .bin .eql (.t 42) (.c (.int .i64 11))⟩] [0, 4, 5, 6, 7, 43])
   (.cond (.t 43) (.region [⟨some 44, none, .mov (.t 6)⟩,
    ⟨some 45, none, .bin .sub (.t 44) (.c (.int .i64 1))⟩,
    ⟨some 6, none, .mov (.t 45)⟩] [0, 4, 5, 6, 7]) (.skip)))
   (.region [⟨some 46, none, .mov (.t 5)⟩,
    ⟨some 47, none, .mov (.t 6)⟩,
    ⟨some 48, none, .mx (.t 46) (.t 47)⟩,
    ⟨some 5, none, .mov (.t 48)⟩] [0, 4, 5, 6, 7]))))
   (.region [⟨some 20, none, .mov (.t 7)⟩,
    ⟨some 21, none, .bin .add (.t 20) (.c (.int .i64 1))⟩,
    ⟨some 7, none, .mov (.t 21)⟩] [0, 4, 5, 6, 7]))))))
   (.seq (.region [⟨some 49, none, .mov (.t 5)⟩,
    ⟨some 2, none, .mov (.t 49)⟩] [2])
   (.ret))))),
  [.t 2], 50, 1⟩
def A27 : Ann := ⟨[(0, [0]), (1, [0, 4]), (2, [0, 4, 5, 6]), (3, [0, 4, 5, 6, 7]), (4, [0, 4, 5, 6, 7, 19]), (5, [0, 4, 5, 6, 7]), (6, [0, 4, 5, 6, 7, 35]), (7, [0, 4, 5, 6, 7]), (8, [0, 4, 5, 6, 7, 43]), (9, [0, 4, 5, 6, 7]), (10, [0, 4, 5, 6, 7]), (11, [2])], []⟩
set_option maxRecDepth 100000 in
theorem F27.ok : compF Try.prog A27 Try.f27 = some F27 := by kernel_rfl
theorem F27.fok : FOk Try.prog 27 F27 := fok_of mixed Try.func27 F27.ok

/-- cloakroom/cloakroomplay.Made -/
def F28 : SFn := ⟨.seq (.region [⟨some 2, none, .mov (.c (.pointer none))⟩] [0])
   (.seq (.region [⟨some 3, none, .mov (.t 0)⟩,
    ⟨some 4, none, .build [.slice none 0 0, .int .i64 0] [(0, 1, .t 3)]⟩,
    ⟨some 5, none, .box (.t 4)⟩,
    ⟨some 2, none, .mov (.t 5)⟩] [2])
   (.ret)),
  [.t 2], 6, 1⟩
def A28 : Ann := ⟨[(0, [0]), (1, [2])], []⟩
set_option maxRecDepth 100000 in
theorem F28.ok : compF Try.prog A28 Try.f28 = some F28 := by kernel_rfl
theorem F28.fok : FOk Try.prog 28 F28 := fok_of mixed Try.func28 F28.ok

/-- (*cloakroom/cloakroomplay.Picks).Module -/
def F29 : SFn := ⟨.seq (.region [⟨some 2, none, .new [.slice none 0 0, .slice none 0 0, .slice none 0 0, .slice none 0 0, .slice none 0 0, .slice none 0 0, .bool false, .int .u32 0, .slice none 0 0, .bool false, .int .u32 0, .slice none 0 0, .slice none 0 0]⟩] [0, 2])
   (.seq (.region [⟨some 16, none, .call 47 []⟩,
    ⟨some 17, none, .mov (.t 0)⟩,
    ⟨some 18, none, .call 48 [.t 17, .c (.int .i64 4)]⟩,
    ⟨some 19, none, .bin .quo (.t 18) (.c (.int .i64 3))⟩,
    ⟨some 20, none, .conv .u32 (.t 19)⟩,
    ⟨some 21, none, .build [.int .u32 0, .int .u32 0, .bool false] [(0, 1, .t 20)]⟩,
    ⟨some 22, none, .bslice 1 3 [.int .u32 0, .int .u32 0, .bool false] [(0, 3, .t 21)]⟩,
    ⟨some 23, none, .build [.int .u32 0, .int .u32 0, .bool false] [(0, 1, .c (.int .u32 4))]⟩,
    ⟨some 24, none, .build [.int .u8 0, .int .u32 0, .int .u32 0, .bool false] [(0, 1, .c (.int .u8 112)), (1, 3, .t 23)]⟩,
    ⟨some 25, none, .bslice 1 4 [.int .u8 0, .int .u32 0, .int .u32 0, .bool false] [(0, 4, .t 24)]⟩,
    ⟨some 26, none, .build [.slice none 0 0, .slice none 0 0, .slice none 0 0, .slice none 0 0, .slice none 0 0, .slice none 0 0, .bool false, .int .u32 0, .slice none 0 0, .bool false, .int .u32 0, .slice none 0 0, .slice none 0 0] [(0, 1, .t 16), (3, 1, .t 22), (2, 1, .t 25)]⟩,
    ⟨some 3, none, .new [.slice none 0 0, .slice none 0 0, .slice none 0 0, .slice none 0 0, .slice none 0 0, .slice none 0 0, .bool false, .int .u32 0, .slice none 0 0, .bool false, .int .u32 0, .slice none 0 0, .slice none 0 0]⟩,
    ⟨none, none, .st 13 (.t 3) (.t 26)⟩] [0, 2, 3])
   (.seq (.seq (.region [⟨some 27, none, .mov (.t 0)⟩,
    ⟨some 28, none, .call 48 [.t 27, .c (.int .i64 2)]⟩,
    ⟨some 29, none, .bin .eql (.t 28) (.c (.int .i64 0))⟩] [0, 2, 3, 29])
   (.cond (.t 29) (.region [⟨some 30, none, .fa 2 (.t 3)⟩,
    ⟨some 31, none, .ld 1 false (.t 30)⟩,
    ⟨some 32, none, .fa 2 (.t 3)⟩,
    ⟨some 33, none, .ld 1 false (.t 32)⟩,
    ⟨some 34, none, .iaV 4 (.t 31) (.c (.int .i64 0))⟩,
    ⟨some 35, none, .fa 1 (.t 34)⟩,
    ⟨some 36, none, .fa 1 (.t 35)⟩,
    ⟨none, none, .st 1 (.t 36) (.c (.int .u32 8))⟩,
    ⟨some 37, none, .iaV 4 (.t 33) (.c (.int .i64 0))⟩,
    ⟨some 38, none, .fa 1 (.t 37)⟩,
    ⟨some 39, none, .fa 2 (.t 38)⟩,
    ⟨none, none, .st 1 (.t 39) (.c (.bool true))⟩] [0, 2, 3]) (.skip)))
   (.seq (.seq (.region [⟨some 40, none, .fa 3 (.t 3)⟩,
    ⟨some 41, none, .ld 1 false (.t 40)⟩,
    ⟨some 42, none, .iaV 3 (.t 41) (.c (.int .i64 0))⟩,
    ⟨some 43, none, .fa 0 (.t 42)⟩,
    ⟨some 44, none, .ld 1 false (.t 43)⟩,
    ⟨some 45, none, .bin .eql (.t 44) (.c (.int .u32 0))⟩,
    ⟨some 46, none, .mov (.t 45)⟩,
    ⟨some 47, some (46, true), .mov (.t 0)⟩,
    ⟨some 48, some (46, true), .call 48 [.t 47, .c (.int .i64 4)]⟩,
    ⟨some 49, some (46, true), .bin .gtr (.t 48) (.c (.int .i64 0))⟩,
    ⟨some 50, none, .pick (.t 46) (.t 49) (.c (.bool false))⟩] [0, 2, 3, 50])
   (.cond (.t 50) (.region [⟨some 51, none, .fa 3 (.t 3)⟩,
    ⟨some 52, none, .ld 1 false (.t 51)⟩,
    ⟨some 53, none, .iaV 3 (.t 52) (.c (.int .i64 0))⟩,
    ⟨some 54, none, .fa 0 (.t 53)⟩,
    ⟨none, none, .st 1 (.t 54) (.c (.int .u32 1))⟩] [0, 2, 3]) (.skip)))
   (.seq (.region [⟨some 55, none, .build [.int .i64 0, .int .u32 0, .int .u32 0, .int .u64 0, .slice none 0 0, .int .i64 0] [(0, 1, .c (.int .i64 11))]⟩,
    ⟨some 4, none, .new [.int .i64 0, .int .u32 0, .int .u32 0, .int .u64 0, .slice none 0 0, .int .i64 0]⟩,
    ⟨none, none, .st 6 (.t 4) (.t 55)⟩] [0, 2, 3, 4])
   (.seq (.region [⟨some 56, none, .mov (.t 0)⟩,
    ⟨some 60, none, .ld 6 true (.t 4)⟩,
    ⟨some 63, none, .build [.int .i64 0, .int .u32 0, .int .u32 0, .int .u64 0, .slice none 0 0, .int .i64 0] [(0, 1, .c (.int .i64 66)), (3, 1, .c (.int .u64 18446744073709551615))]⟩,
    ⟨some 64, none, .ld 6 true (.t 4)⟩,
    ⟨some 65, none, .bslice 2 6 [.int .i64 0, .int .u32 0, .int .u32 0, .int .u64 0, .slice none 0 0, .int .i64 0] [(0, 6, .t 63), (6, 6, .t 64)]⟩,
    ⟨some 66, none, .build [.int .u8 0, .bool false, .slice none 0 0] [(0, 1, .c (.int .u8 126)), (1, 1, .c (.bool true)), (2, 1, .t 65)]⟩,
    ⟨some 57, none, .call 48 [.t 56, .c (.int .i64 9)]⟩,
    ⟨none, none, .chk 6 true (.t 4) 60⟩,
    ⟨none, none, .chk 6 true (.t 4) 64⟩,
    ⟨some 58, none, .conv .u64 (.t 57)⟩,
    ⟨some 59, none, .build [.int .i64 0, .int .u32 0, .int .u32 0, .int .u64 0, .slice none 0 0, .int .i64 0] [(0, 1, .c (.int .i64 65)), (3, 1, .t 58)]⟩,
    ⟨some 61, none, .bslice 2 6 [.int .i64 0, .int .u32 0, .int .u32 0, .int .u64 0, .slice none 0 0, .int .i64 0] [(0, 6, .t 59), (6, 6, .t 60)]⟩,
    ⟨some 62, none, .build [.int .u8 0, .bool false, .slice none 0 0] [(0, 1, .c (.int .u8 127)), (1, 1, .c (.bool true)), (2, 1, .t 61)]⟩,
    ⟨some 67, none, .bslice 2 3 [.int .u8 0, .bool false, .slice none 0 0] [(0, 3, .t 62), (3, 3, .t 66)]⟩,
    ⟨some 68, none, .fa 4 (.t 3)⟩,
    ⟨none, none, .st 1 (.t 68) (.t 67)⟩] [0, 2, 3, 4])
   (.seq (.region [⟨some 69, none, .mov (.t 0)⟩,
    ⟨some 70, none, .call 48 [.t 69, .c (.int .i64 3)]⟩,
    ⟨some 71, none, .bin .add (.c (.int .i64 1)) (.t 70)⟩,
    ⟨some 5, none, .mov (.t 71)⟩] [0, 2, 3, 4, 5])
   (.seq (.seq (.region [⟨some 6, none, .mov (.c (.int .i64 0))⟩] [0, 2, 3, 4, 5, 6])
   (.block 0 (.loop (.seq (.seq (.region [⟨some 72, none, .mov (.t 6)⟩,
    ⟨some 73, none, .mov (.t 5)⟩,
    ⟨some 74, none, .bin .lss (.t 72) (.t 73)⟩] [0, 2, 3, 4, 5, 6, 74])
   (.cond (.t 74) (.skip) (.exit 0)))
   (.seq (.block 1 (.seq (.region [⟨some 77, none, .fa 1 (.t 3)⟩,
    ⟨some 78, none, .ld 1 false (.t 77)⟩,
    ⟨some 79, none, .mov (.t 0)⟩,
    ⟨some 80, none, .call 48 [.t 79, .c (.int .i64 5)]⟩,
    ⟨none, none, .chk 1 false (.t 77) 78⟩,
    ⟨some 81, none, .bin .add (.c (.int .i64 1)) (.t 80)⟩,
    ⟨some 82, none, .conv .u32 (.t 81)⟩,
    ⟨some 83, none, .bslice 1 1 [.int .u32 0] [(0, 1, .t 82)]⟩,
    ⟨some 84, none, .app 1 4 (.t 78) (.t 83)⟩,
    ⟨some 85, none, .fa 1 (.t 3)⟩,
    ⟨none, none, .st 1 (.t 85) (.t 84)⟩] [0, 2, 3, 4, 5, 6])
   (.region [⟨some 86, none, .fa 5 (.t 3)⟩,
    ⟨some 87, none, .ld 1 false (.t 86)⟩,
    ⟨some 88, none, .mov (.t 6)⟩,
    ⟨some 89, none, .bin .add (.c (.int .i64 48)) (.t 88)⟩,
    ⟨some 90, none, .conv .u8 (.t 89)⟩,
    ⟨some 91, none, .bslice 1 1 [.int .u8 0] [(0, 1, .t 90)]⟩,
    ⟨some 92, none, .toStr (.t 91)⟩,
    ⟨some 93, none, .bin .add (.c (.string { data := #[102] })) (.t 92)⟩,
    ⟨some 94, none, .mov (.t 6)⟩,
    ⟨some 95, none, .conv .u32 (.t 94)⟩,
    ⟨some 96, none, .build [.string ByteArray.empty, .int .u8 0, .int .u32 0] [(0, 1, .t 93), (2, 1, .t 95)]⟩,
    ⟨some 97, none, .bslice 1 3 [.string ByteArray.empty, .int .u8 0, .int .u32 0] [(0, 3, .t 96)]⟩,
    ⟨some 98, none, .app 3 24 (.t 87) (.t 97)⟩,
    ⟨some 99, none, .fa 5 (.t 3)⟩,
    ⟨none, none, .st 1 (.t 99) (.t 98)⟩] [0, 2, 3, 4, 5, 6])))
   (.region [⟨some 75, none, .mov (.t 6)⟩,
    ⟨some 76, none, .bin .add (.t 75) (.c (.int .i64 1))⟩,
    ⟨some 6, none, .mov (.t 76)⟩] [0, 2, 3, 4, 5, 6]))))))
   (.seq (.region [⟨some 7, none, .mov (.c (.slice none 0 0))⟩] [0, 2, 3, 4, 5, 7])
   (.seq (.seq (.region [⟨some 8, none, .mov (.c (.int .i64 0))⟩] [0, 2, 3, 4, 5, 7, 8])
   (.block 2 (.loop (.seq (.seq (.region [⟨some 100, none, .mov (.t 8)⟩,
    ⟨some 101, none, .bin .lss (.t 100) (.c (.int .i64 3))⟩] [0, 2, 3, 4, 5, 7, 8, 101])
   (.cond (.t 101) (.skip) (.exit 2)))
   (.seq (.block 3 (.seq (.region [⟨some 104, none, .mov (.t 0)⟩,
    ⟨some 105, none, .mov (.t 5)⟩,
    ⟨some 109, none, .ld 6 true (.t 4)⟩,
    ⟨some 106, none, .call 48 [.t 104, .t 105]⟩,
    ⟨none, none, .chk 6 true (.t 4) 109⟩,
    ⟨some 107, none, .conv .u32 (.t 106)⟩,
    ⟨some 108, none, .build [.int .i64 0, .int .u32 0, .int .u32 0, .int .u64 0, .slice none 0 0, .int .i64 0] [(0, 1, .c (.int .i64 210)), (1, 1, .t 107)]⟩,
    ⟨some 110, none, .bslice 2 6 [.int .i64 0, .int .u32 0, .int .u32 0, .int .u64 0, .slice none 0 0, .int .i64 0] [(0, 6, .t 108), (6, 6, .t 109)]⟩,
    ⟨some 9, none, .mov (.t 110)⟩] [0, 2, 3, 4, 5, 7, 8, 9])
   (.seq (.seq (.region [⟨some 111, none, .mov (.t 0)⟩,
    ⟨some 112, none, .call 48 [.t 111, .c (.int .i64 4)]⟩,
    ⟨some 113, none, .bin .eql (.t 112) (.c (.int .i64 0))⟩] [0, 2, 3, 4, 5, 7, 8, 9, 113])
   (.cond (.t 113) (.region [⟨some 114, none, .mov (.t 9)⟩,
    ⟨some 115, none, .build [.int .i64 0, .int .u32 0, .int .u32 0, .int .u64 0, .slice none 0 0, .int .i64 0] [(0, 1, .c (.int .i64 208)), (1, 1, .c (.int .u32 112))]⟩,
    ⟨some 116, none, .iaV 6 (.t 114) (.c (.int .i64 0))⟩,
    ⟨none, none, .st 6 (.t 116) (.t 115)⟩] [0, 2, 3, 4, 5, 7, 8, 9]) (.skip)))
   (.region [⟨some 117, none, .mov (.t 7)⟩,
    ⟨some 118, none, .mov (.t 9)⟩,
    ⟨some 119, none, .bslice 1 1 [.slice none 0 0] [(0, 1, .t 118)]⟩,
    ⟨some 120, none, .app 1 24 (.t 117) (.t 119)⟩,
    ⟨some 7, none, .mov (.t 120)⟩] [0, 2, 3, 4, 5, 7, 8]))))
   (.region [⟨some 102, none, .mov (.t 8)⟩,
    ⟨some 103, none, .bin .add (.t 102) (.c (.int .i64 1))⟩,
    ⟨some 8, none, .mov (.t 103)⟩] [0, 2, 3, 4, 5, 7, 8]))))))
   (.seq (.region [⟨some 121, none, .mov (.t 0)⟩,
    ⟨some 125, none, .ld 6 true (.t 4)⟩,
    ⟨some 122, none, .call 48 [.t 121, .c (.int .i64 2)]⟩,
    ⟨none, none, .chk 6 true (.t 4) 125⟩,
    ⟨some 123, none, .conv .u64 (.t 122)⟩,
    ⟨some 124, none, .build [.int .i64 0, .int .u32 0, .int .u32 0, .int .u64 0, .slice none 0 0, .int .i64 0] [(0, 1, .c (.int .i64 65)), (3, 1, .t 123)]⟩,
    ⟨some 126, none, .bslice 2 6 [.int .i64 0, .int .u32 0, .int .u32 0, .int .u64 0, .slice none 0 0, .int .i64 0] [(0, 6, .t 124), (6, 6, .t 125)]⟩,
    ⟨some 10, none, .mov (.t 126)⟩] [0, 2, 3, 4, 5, 7, 10])
   (.seq (.region [⟨some 127, none, .mov (.t 10)⟩,
    ⟨some 128, none, .mov (.t 7)⟩,
    ⟨some 129, none, .build [.int .u8 0, .int .u8 0, .int .u32 0, .slice none 0 0, .slice none 0 0] [(1, 1, .c (.int .u8 112)), (3, 1, .t 127), (4, 1, .t 128)]⟩,
    ⟨some 130, none, .mov (.t 7)⟩,
    ⟨some 131, none, .build [.int .u8 0, .int .u8 0, .int .u32 0, .slice none 0 0, .slice none 0 0] [(0, 1, .c (.int .u8 1)), (1, 1, .c (.int .u8 112)), (4, 1, .t 130)]⟩,
    ⟨some 132, none, .bslice 2 5 [.int .u8 0, .int .u8 0, .int .u32 0, .slice none 0 0, .slice none 0 0] [(0, 5, .t 129), (5, 5, .t 131)]⟩,
    ⟨some 133, none, .fa 8 (.t 3)⟩,
    ⟨none, none, .st 1 (.t 133) (.t 132)⟩] [0, 2, 3, 4, 5])
   (.seq (.region [⟨some 134, none, .bslice 7 1 [.int .u8 0] [(0, 1, .c (.int .u8 112)), (1, 1, .c (.int .u8 97)), (2, 1, .c (.int .u8 115)), (3, 1, .c (.int .u8 115)), (4, 1, .c (.int .u8 105)), (5, 1, .c (.int .u8 118)), (6, 1, .c (.int .u8 101))]⟩,
    ⟨some 135, none, .mark (.t 134)⟩,
    ⟨some 136, none, .build [.int .u8 0, .slice none 0 0, .slice none 0 0] [(0, 1, .c (.int .u8 1)), (2, 1, .t 135)]⟩,
    ⟨some 137, none, .bslice 3 1 [.int .u8 0] [(0, 1, .c (.int .u8 1)), (1, 1, .c (.int .u8 2)), (2, 1, .c (.int .u8 255))]⟩,
    ⟨some 138, none, .build [.int .u8 0, .slice none 0 0, .slice none 0 0] [(0, 1, .c (.int .u8 1)), (2, 1, .t 137)]⟩,
    ⟨some 139, none, .bslice 2 3 [.int .u8 0, .slice none 0 0, .slice none 0 0] [(0, 3, .t 136), (3, 3, .t 138)]⟩,
    ⟨some 140, none, .fa 12 (.t 3)⟩,
    ⟨none, none, .st 1 (.t 140) (.t 139)⟩] [0, 2, 3, 4, 5])
   (.seq (.seq (.region [⟨some 141, none, .fa 3 (.t 3)⟩,
    ⟨some 142, none, .ld 1 false (.t 141)⟩,
    ⟨some 143, none, .iaV 3 (.t 142) (.c (.int .i64 0))⟩,
    ⟨some 144, none, .fa 0 (.t 143)⟩,
    ⟨some 145, none, .ld 1 false (.t 144)⟩,
    ⟨some 146, none, .bin .gtr (.t 145) (.c (.int .u32 0))⟩] [0, 2, 3, 4, 5, 146])
   (.cond (.t 146) (.region [⟨some 147, none, .fa 12 (.t 3)⟩,
    ⟨some 148, none, .ld 1 false (.t 147)⟩,
    ⟨some 149, none, .fa 12 (.t 3)⟩,
    ⟨some 150, none, .ld 1 false (.t 149)⟩,
    ⟨some 151, none, .mov (.t 0)⟩,
    ⟨some 155, none, .ld 6 true (.t 4)⟩,
    ⟨some 152, none, .call 48 [.t 151, .c (.int .i64 3)]⟩,
    ⟨none, none, .chk 1 false (.t 147) 148⟩,
    ⟨none, none, .chk 1 false (.t 149) 150⟩,
    ⟨none, none, .chk 6 true (.t 4) 155⟩,
    ⟨some 153, none, .conv .u64 (.t 152)⟩,
    ⟨some 154, none, .build [.int .i64 0, .int .u32 0, .int .u32 0, .int .u64 0, .slice none 0 0, .int .i64 0] [(0, 1, .c (.int .i64 65)), (3, 1, .t 153)]⟩,
    ⟨some 156, none, .bslice 2 6 [.int .i64 0, .int .u32 0, .int .u32 0, .int .u64 0, .slice none 0 0, .int .i64 0] [(0, 6, .t 154), (6, 6, .t 155)]⟩,
    ⟨some 157, none, .iaV 3 (.t 148) (.c (.int .i64 1))⟩,
    ⟨some 158, none, .fa 0 (.t 157)⟩,
    ⟨none, none, .st 1 (.t 158) (.c (.int .u8 0))⟩,
    ⟨none, none, .chk 6 true (.t 4) 155⟩,
    ⟨some 159, none, .iaV 3 (.t 150) (.c (.int .i64 1))⟩,
    ⟨some 160, none, .fa 1 (.t 159)⟩,
    ⟨none, none, .st 1 (.t 160) (.t 156)⟩] [0, 2, 3, 4, 5]) (.skip)))
   (.seq (.region [⟨some 161, none, .fa 9 (.t 3)⟩,
    ⟨none, none, .st 1 (.t 161) (.c (.bool true))⟩,
    ⟨some 162, none, .fa 10 (.t 3)⟩,
    ⟨none, none, .st 1 (.t 162) (.c (.int .u32 2))⟩] [0, 2, 3, 4, 5])
   (.seq (.seq (.region [⟨some 11, none, .mov (.c (.int .i64 0))⟩] [0, 2, 3, 4, 5, 11])
   (.block 4 (.loop (.seq (.seq (.region [⟨some 163, none, .mov (.t 11)⟩,
    ⟨some 164, none, .mov (.t 5)⟩,
    ⟨some 165, none, .bin .lss (.t 163) (.t 164)⟩] [0, 2, 3, 4, 5, 11, 165])
   (.cond (.t 165) (.skip) (.exit 4)))
   (.seq (.block 5 (.seq (.region [⟨some 168, none, .fa 0 (.t 3)⟩,
    ⟨some 169, none, .ld 1 false (.t 168)⟩,
    ⟨some 170, none, .fa 1 (.t 3)⟩,
    ⟨some 171, none, .ld 1 false (.t 170)⟩,
    ⟨some 172, none, .mov (.t 11)⟩,
    ⟨some 173, none, .iaV 1 (.t 171) (.t 172)⟩,
    ⟨some 174, none, .ld 1 false (.t 173)⟩,
    ⟨some 175, none, .iaV 2 (.t 169) (.t 174)⟩,
    ⟨some 176, none, .ld 2 true (.t 175)⟩,
    ⟨some 12, none, .new [.slice none 0 0, .slice none 0 0]⟩,
    ⟨none, none, .st 2 (.t 12) (.t 176)⟩] [0, 2, 3, 4, 5, 11, 12])
   (.seq (.region [⟨some 177, none, .bslice 3 1 [.int .u8 0] [(0, 1, .c (.int .u8 127)), (1, 1, .c (.int .u8 126)), (2, 1, .c (.int .u8 127))]⟩,
    ⟨some 178, none, .build [.slice none 0 0, .slice none 0 0] [(0, 1, .t 177)]⟩,
    ⟨some 13, none, .new [.slice none 0 0, .slice none 0 0]⟩,
    ⟨none, none, .st 2 (.t 13) (.t 178)⟩] [0, 2, 3, 4, 5, 11, 12, 13])
   (.seq (.region [⟨some 179, none, .mov (.t 0)⟩,
    ⟨some 180, none, .bslice 0 1 [.int .u8 0] []⟩,
    ⟨some 181, none, .fa 0 (.t 12)⟩,
    ⟨some 182, none, .ld 1 false (.t 181)⟩,
    ⟨some 184, none, .fa 0 (.t 13)⟩,
    ⟨some 185, none, .ld 1 false (.t 184)⟩,
    ⟨some 187, none, .mov (.t 11)⟩,
    ⟨some 183, none, .app 1 1 (.t 180) (.t 182)⟩,
    ⟨none, none, .chk 1 false (.t 184) 185⟩,
    ⟨some 186, none, .app 1 1 (.t 183) (.t 185)⟩,
    ⟨some 188, none, .build [.pointer none, .pointer none, .slice none 0 0, .slice none 0 0, .int .i64 0, .int .i64 0] [(0, 1, .t 179), (1, 1, .t 3), (2, 1, .t 186), (5, 1, .t 187)]⟩,
    ⟨some 189, none, .box (.t 188)⟩,
    ⟨some 14, none, .mov (.t 189)⟩] [0, 2, 3, 4, 5, 11, 12, 13, 14])
   (.seq (.region [⟨some 190, none, .mov (.t 14)⟩,
    ⟨some 191, none, .mov (.t 0)⟩,
    ⟨some 192, none, .call 48 [.t 191, .c (.int .i64 4)]⟩,
    ⟨some 193, none, .call 49 [.t 190, .t 192, .c (.int .i64 3)]⟩] [0, 2, 3, 4, 5, 11, 12, 13, 14])
   (.seq (.seq (.region [⟨some 15, none, .mov (.c (.int .i64 0))⟩] [0, 2, 3, 4, 5, 11, 12, 13, 14, 15])
   (.block 6 (.loop (.seq (.seq (.region [⟨some 194, none, .mov (.t 15)⟩,
    ⟨some 195, none, .fa 1 (.t 12)⟩,
    ⟨some 196, none, .ld 1 false (.t 195)⟩,
    ⟨some 197, none, .lenV (.t 196)⟩,
    ⟨some 198, none, .bin .lss (.t 194) (.t 197)⟩] [0, 2, 3, 4, 5, 11, 12, 13, 14, 15, 198])
   (.cond (.t 198) (.skip) (.exit 6)))
   (.seq (.block 7 (.region [⟨some 201, none, .mov (.t 14)⟩,
    ⟨some 202, none, .fa 1 (.t 12)⟩,
    ⟨some 203, none, .ld 1 false (.t 202)⟩,
    ⟨some 204, none, .mov (.t 15)⟩,
    ⟨some 205, none, .iaV 1 (.t 203) (.t 204)⟩,
    ⟨some 206, none, .ld 1 false (.t 205)⟩,
    ⟨some 207, none, .call 50 [.t 201, .t 206, .c (.int .i64 3)]⟩] [0, 2, 3, 4, 5, 11, 12, 13, 14, 15]))
   (.region [⟨some 199, none, .mov (.t 15)⟩,
    ⟨some 200, none, .bin .add (.t 199) (.c (.int .i64 1))⟩,
    ⟨some 15, none, .mov (.t 200)⟩] [0, 2, 3, 4, 5, 11, 12, 13, 14, 15]))))))
   (.seq (.region [⟨some 208, none, .mov (.t 14)⟩,
    ⟨some 209, none, .nilc (.t 208)⟩,
    ⟨some 210, none, .fa 3 (.t 209)⟩,
    ⟨some 211, none, .ld 1 false (.t 210)⟩,
    ⟨some 212, none, .ld 6 true (.t 4)⟩,
    ⟨some 213, none, .bslice 1 6 [.int .i64 0, .int .u32 0, .int .u32 0, .int .u64 0, .slice none 0 0, .int .i64 0] [(0, 6, .t 212)]⟩,
    ⟨some 214, none, .app 6 56 (.t 211) (.t 213)⟩,
    ⟨some 215, none, .fa 1 (.t 13)⟩,
    ⟨none, none, .st 1 (.t 215) (.t 214)⟩] [0, 2, 3, 4, 5, 11, 13])
   (.region [⟨some 216, none, .fa 11 (.t 3)⟩,
    ⟨some 217, none, .ld 1 false (.t 216)⟩,
    ⟨some 218, none, .ld 2 true (.t 13)⟩,
    ⟨some 219, none, .bslice 1 2 [.slice none 0 0, .slice none 0 0] [(0, 2, .t 218)]⟩,
    ⟨some 220, none, .app 2 48 (.t 217) (.t 219)⟩,
    ⟨some 221, none, .fa 11 (.t 3)⟩,
    ⟨none, none, .st 1 (.t 221) (.t 220)⟩] [0, 2, 3, 4, 5, 11]))))))))
   (.region [⟨some 166, none, .mov (.t 11)⟩,
    ⟨some 167, none, .bin .add (.t 166) (.c (.int .i64 1))⟩,
    ⟨some 11, none, .mov (.t 167)⟩] [0, 2, 3, 4, 5, 11]))))))
   (.seq (.region [⟨some 222, none, .ld 13 true (.t 3)⟩,
    ⟨none, none, .st 13 (.t 2) (.t 222)⟩] [2])
   (.ret))))))))))))))))),
  [.c 2 13 true], 223, 1⟩
def A29 : Ann := ⟨[(0, [0, 2]), (1, [0, 2, 3]), (2, [0, 2, 3, 29]), (3, [0, 2, 3]), (4, [0, 2, 3, 50]), (5, [0, 2, 3]), (6, [0, 2, 3, 4]), (7, [0, 2, 3, 4]), (8, [0, 2, 3, 4, 5]), (9, [0, 2, 3, 4, 5, 6]), (10, [0, 2, 3, 4, 5, 6, 74]), (11, [0, 2, 3, 4, 5, 6]), (12, [0, 2, 3, 4, 5, 6]), (13, [0, 2, 3, 4, 5, 6]), (14, [0, 2, 3, 4, 5, 7]), (15, [0, 2, 3, 4, 5, 7, 8]), (16, [0, 2, 3, 4, 5, 7, 8, 101]), (17, [0, 2, 3, 4, 5, 7, 8]), (18, [0, 2, 3, 4, 5, 7, 8, 9]), (19, [0, 2, 3, 4, 5, 7, 8, 9, 113]), (20, [0, 2, 3, 4, 5, 7, 8, 9]), (21, [0, 2, 3, 4, 5, 7, 8]), (22, [0, 2, 3, 4, 5, 7, 10]), (23, [0, 2, 3, 4, 5]), (24, [0, 2, 3, 4, 5]), (25, [0, 2, 3, 4, 5, 146]), (26, [0, 2, 3, 4, 5]), (27, [0, 2, 3, 4, 5]), (28, [0, 2, 3, 4, 5, 11]), (29, [0, 2, 3, 4, 5, 11, 165]), (30, [0, 2, 3, 4, 5, 11]), (31, [0, 2, 3, 4, 5, 11, 12]), (32, [0, 2, 3, 4, 5, 11, 12, 13]), (33, [0, 2, 3, 4, 5, 11, 12, 13, 14]), (34, [0, 2, 3, 4, 5, 11, 12, 13, 14]), (35, [0, 2, 3, 4, 5, 11, 12, 13, 14, 15]), (36, [0, 2, 3, 4, 5, 11, 12, 13, 14, 15, 198]), (37, [0, 2, 3, 4, 5, 11, 12, 13, 14, 15]), (38, [0, 2, 3, 4, 5, 11, 12, 13, 14, 15]), (39, [0, 2, 3, 4, 5, 11, 13]), (40, [0, 2, 3, 4, 5, 11]), (41, [2])], [(7, [(0, []), (4, []), (7, []), (8, []), (9, []), (10, []), (1, [4, 8]), (2, []), (3, []), (5, []), (6, []), (11, []), (12, []), (13, [])], [(1, [0]), (2, [0, 1]), (3, [0, 1, 2]), (5, [0, 1, 2, 3, 4]), (6, [0, 1, 2, 3, 4, 5]), (9, [7, 8]), (10, [7, 8, 9]), (11, [0, 1, 2, 3, 4, 5, 6, 7, 8, 9, 10]), (12, [0, 1, 2, 3, 4, 5, 6, 7, 8, 9, 10, 11]), (13, [0, 1, 2, 3, 4, 5, 6, 7, 8, 9, 10, 11, 12])]),
  (12, [(0, []), (1, []), (2, []), (3, [1]), (4, []), (5, []), (6, []), (7, []), (8, []), (9, [])], [(1, [0]), (3, [2]), (4, [2, 3]), (5, [2, 3, 4]), (6, [2, 3, 4, 5]), (7, [0, 1, 2, 3, 4, 5, 6]), (8, [0, 1, 2, 3, 4, 5, 6, 7]), (9, [0, 1, 2, 3, 4, 5, 6, 7, 8])]),
  (18, [(0, []), (1, []), (5, []), (2, [5]), (3, []), (4, []), (6, []), (7, [])], [(2, [0, 1]), (3, [0, 1, 2]), (4, [0, 1, 2, 3]), (6, [0, 1, 2, 3, 4, 5]), (7, [0, 1, 2, 3, 4, 5, 6])]),
  (22, [(0, []), (4, []), (1, [4]), (2, []), (3, []), (5, []), (6, [])], [(1, [0]), (2, [0, 1]), (3, [0, 1, 2]), (5, [0, 1, 2, 3, 4]), (6, [0, 1, 2, 3, 4, 5])]),
  (26, [(0, []), (1, []), (2, []), (3, []), (4, []), (8, []), (5, [1, 3, 8]), (6, []), (7, []), (9, []), (10, []), (11, []), (12, [8]), (13, []), (14, []), (15, [])], [(1, [0]), (3, [2]), (5, [4]), (6, [4, 5]), (7, [4, 5, 6]), (9, [4, 5, 6, 7, 8]), (10, [0, 1, 2, 3, 4, 5]), (11, [0, 1, 2, 3, 4, 5, 10]), (12, [0, 1, 2, 3, 4, 5, 10, 11]), (13, [0, 1, 2, 3, 4, 5, 6, 7, 8, 9, 10, 11, 12]), (14, [0, 1, 2, 3, 4, 5, 6, 7, 8, 9, 10, 11, 12, 13]), (15, [0, 1, 2, 3, 4, 5, 6, 7, 8, 9, 10, 11, 12, 13, 14])]),
  (31, [(0, []), (1, []), (2, []), (3, []), (4, []), (5, []), (6, []), (7, []), (8, []), (9, []), (10, [])], [(1, [0]), (3, [2]), (5, [2, 3, 4]), (6, [2, 3, 4, 5]), (7, [0, 1, 2, 3, 4, 5, 6]), (8, [0, 1, 2, 3, 4, 5, 6, 7]), (10, [0, 1, 2, 3, 4, 5, 6, 7, 8, 9])]),
  (33, [(0, []), (1, []), (2, []), (3, []), (5, []), (6, []), (8, []), (4, [6]), (7, []), (9, []), (10, []), (11, [])], [(3, [2]), (4, [1, 2, 3]), (6, [5]), (7, [1, 2, 3, 4, 5, 6]), (9, [0, 1, 2, 3, 4, 5, 6, 7, 8]), (10, [0, 1, 2, 3, 4, 5, 6, 7, 8, 9]), (11, [0, 1, 2, 3, 4, 5, 6, 7, 8, 9, 10])]),
  (39, [(0, []), (1, []), (2, []), (3, []), (4, []), (5, []), (6, []), (7, []), (8, [])], [(1, [0]), (2, [0, 1]), (3, [0, 1, 2]), (5, [4]), (6, [0, 1, 2, 3, 4, 5]), (7, [0, 1, 2, 3, 4, 5, 6]), (8, [0, 1, 2, 3, 4, 5, 6, 7])])]⟩
set_option maxRecDepth 100000 in
theorem F29.ok : compF Try.prog A29 Try.f29 = some F29 := by kernel_rfl
theorem F29.fok : FOk Try.prog 29 F29 := fok_of mixed Try.func29 F29.ok

/-- cloakroom/cloakroomlaw23.begun -/
def F31 : SFn := ⟨.seq (.region [⟨some 0, none, .mov (.c (.bool false))⟩] [])
   (.seq (.region [⟨some 5, none, .call 32 []⟩,
    ⟨some 1, none, .mov (.t 5)⟩] [1])
   (.seq (.seq (.region [⟨some 6, none, .mov (.t 1)⟩,
    ⟨some 7, none, .eqk false .ptr (.t 6) (.c (.pointer none))⟩,
    ⟨some 8, none, .mov (.t 7)⟩,
    ⟨some 9, some (8, false), .mov (.t 1)⟩,
    ⟨some 10, some (8, false), .call 33 [.t 9, .c (.int .u64 7), .c (.int .u64 1)]⟩,
    ⟨some 11, some (8, false), .bin .neq (.t 10) (.c (.int .i64 0))⟩,
    ⟨some 12, none, .pick (.t 8) (.c (.bool true)) (.t 11)⟩,
    ⟨some 13, none, .mov (.t 12)⟩,
    ⟨some 14, some (13, false), .mov (.t 1)⟩,
    ⟨some 15, some (13, false), .call 33 [.t 14, .c (.int .u64 8), .c (.int .u64 2)]⟩,
    ⟨some 16, some (13, false), .bin .neq (.t 15) (.c (.int .i64 0))⟩,
    ⟨some 17, none, .pick (.t 13) (.c (.bool true)) (.t 16)⟩] [1, 17])
   (.cond (.t 17) (.seq (.region [⟨some 0, none, .mov (.c (.bool false))⟩] [0])
   (.ret)) (.skip)))
   (.seq (.region [⟨some 18, none, .mov (.t 1)⟩,
    ⟨some 19, none, .call 34 [.t 18]⟩,
    ⟨some 2, none, .mov (.t 19)⟩] [1, 2])
   (.seq (.region [⟨some 21, none, .mov (.t 1)⟩,
    ⟨some 22, none, .call 38 [.t 21, .c (.int .u64 8)]⟩,
    ⟨some 20, none, .mov (.t 22)⟩,
    ⟨some 23, none, .ext (.t 20) 0⟩,
    ⟨some 24, none, .ext (.t 20) 1⟩,
    ⟨some 3, none, .mov (.t 23)⟩,
    ⟨some 4, none, .mov (.t 24)⟩] [1, 2, 3, 4])
   (.seq (.region [⟨some 25, none, .mov (.t 2)⟩,
    ⟨some 26, none, .lenV (.t 25)⟩,
    ⟨some 27, none, .bin .eql (.t 26) (.c (.int .i64 1))⟩,
    ⟨some 28, none, .mov (.t 27)⟩,
    ⟨some 29, some (28, true), .mov (.t 2)⟩,
    ⟨some 30, some (28, true), .iaV 1 (.t 29) (.c (.int .i64 0))⟩,
    ⟨some 31, some (28, true), .ld 1 false (.t 30)⟩,
    ⟨some 32, some (28, true), .bin .eql (.t 31) (.c (.int .u64 7))⟩,
    ⟨some 33, none, .pick (.t 28) (.t 32) (.c (.bool false))⟩,
    ⟨some 34, none, .mov (.t 33)⟩,
    ⟨some 35, some (34, true), .mov (.t 1)⟩,
    ⟨some 36, some (34, true), .call 36 [.t 35]⟩,
    ⟨some 37, some (34, true), .bin .eql (.t 36) (.c (.int .u64 1))⟩,
    ⟨some 38, none, .pick (.t 34) (.t 37) (.c (.bool false))⟩,
    ⟨some 39, none, .mov (.t 38)⟩,
    ⟨some 40, some (39, true), .mov (.t 4)⟩,
    ⟨some 41, none, .pick (.t 39) (.t 40) (.c (.bool false))⟩,
    ⟨some 42, none, .mov (.t 41)⟩,
    ⟨some 43, some (42, true), .mov (.t 3)⟩,
    ⟨some 44, some (42, true), .bin .eql (.t 43) (.c (.int .u64 2))⟩,
    ⟨some 45, none, .pick (.t 42) (.t 44) (.c (.bool false))⟩,
    ⟨some 0, none, .mov (.t 45)⟩] [0])
   (.ret)))))),
  [.t 0], 46, 0⟩
def A31 : Ann := ⟨[(0, []), (1, [1]), (2, [1, 17]), (3, [0]), (4, [1, 2]), (5, [1, 2, 3, 4]), (6, [0])], []⟩
set_option maxRecDepth 100000 in
theorem F31.ok : compF Try.prog A31 Try.f31 = some F31 := by kernel_rfl
theorem F31.fok : FOk Try.prog 31 F31 := fok_of mixed Try.func31 F31.ok

/-- cloakroom/clock.New -/
def F32 : SFn := ⟨.seq (.region [⟨some 0, none, .mov (.c (.pointer none))⟩] [])
   (.seq (.region [⟨some 1, none, .build [.slice none 0 0, .int .u64 0] []⟩,
    ⟨some 2, none, .box (.t 1)⟩,
    ⟨some 0, none, .mov (.t 2)⟩] [0])
   (.ret)),
  [.t 0], 3, 0⟩
def A32 : Ann := ⟨[(0, []), (1, [0])], []⟩
set_option maxRecDepth 100000 in
theorem F32.ok : compF Try.prog A32 Try.f32 = some F32 := by kernel_rfl
theorem F32.fok : FOk Try.prog 32 F32 := fok_of mixed Try.func32 F32.ok

/-- (*cloakroom/clock.Clock).Set -/
def F33 : SFn := ⟨.seq (.region [⟨some 6, none, .mov (.c (.int .i64 0))⟩] [0, 1, 2])
   (.seq (.block 0 (.seq (.region [⟨some 8, none, .mov (.t 0)⟩,
    ⟨some 9, none, .eqk false .ptr (.t 8) (.c (.pointer none))⟩,
    ⟨some 10, none, .mov (.t 9)⟩,
    ⟨some 11, some (10, false), .mov (.t 2)⟩,
    ⟨some 12, some (10, false), .bin .eql (.t 11) (.c (.int .u64 0))⟩,
    ⟨some 13, none, .pick (.t 10) (.c (.bool true)) (.t 12)⟩,
    ⟨some 14, none, .mov (.t 13)⟩,
    ⟨some 15, some (14, false), .mov (.t 2)⟩,
    ⟨some 16, some (14, false), .bin .gtr (.t 15) (.c (.int .u64 1099511627776))⟩,
    ⟨some 17, none, .pick (.t 14) (.c (.bool true)) (.t 16)⟩,
    ⟨some 7, none, .mov (.t 17)⟩] [0, 1, 2, 7])
   (.cond (.t 7) (.seq (.region [⟨some 6, none, .mov (.c (.int .i64 1))⟩] [6])
   (.ret)) (.seq (.region [⟨some 19, none, .mov (.t 0)⟩,
    ⟨some 20, none, .nilc (.t 19)⟩,
    ⟨some 21, none, .fa 0 (.t 20)⟩,
    ⟨some 22, none, .mov (.t 1)⟩,
    ⟨some 23, none, .call 51 [.t 21, .t 22]⟩,
    ⟨some 24, none, .bin .geq (.t 23) (.c (.int .i64 0))⟩,
    ⟨some 18, none, .mov (.t 24)⟩] [0, 1, 2, 18])
   (.cond (.t 18) (.seq (.region [⟨some 6, none, .mov (.c (.int .i64 11))⟩] [6])
   (.ret)) (.skip))))))
   (.seq (.region [⟨some 25, none, .mov (.t 0)⟩,
    ⟨some 26, none, .mov (.t 0)⟩,
    ⟨some 27, none, .nilc (.t 26)⟩,
    ⟨some 28, none, .fa 0 (.t 27)⟩,
    ⟨some 29, none, .fa 0 (.t 28)⟩,
    ⟨some 30, none, .ld 1 false (.t 29)⟩,
    ⟨some 31, none, .mov (.t 1)⟩,
    ⟨some 32, none, .mov (.t 0)⟩,
    ⟨some 33, none, .nilc (.t 32)⟩,
    ⟨some 34, none, .fa 1 (.t 33)⟩,
    ⟨some 35, none, .ld 1 false (.t 34)⟩,
    ⟨some 36, none, .mov (.t 2)⟩,
    ⟨some 37, none, .bin .add (.t 35) (.t 36)⟩,
    ⟨some 38, none, .build [.int .u64 0, .int .u64 0] [(0, 1, .t 31), (1, 1, .t 37)]⟩,
    ⟨some 39, none, .bslice 1 2 [.int .u64 0, .int .u64 0] [(0, 2, .t 38)]⟩,
    ⟨some 40, none, .app 2 16 (.t 30) (.t 39)⟩,
    ⟨some 41, none, .nilc (.t 25)⟩,
    ⟨some 42, none, .fa 0 (.t 41)⟩,
    ⟨some 43, none, .fa 0 (.t 42)⟩,
    ⟨none, none, .st 1 (.t 43) (.t 40)⟩] [])
   (.seq (.region [⟨some 6, none, .mov (.c (.int .i64 0))⟩] [6])
   (.ret)))),
  [.t 6], 44, 3⟩
def A33 : Ann := ⟨[(0, [0, 1, 2]), (1, [0, 1, 2, 7]), (2, [6]), (3, [0, 1, 2, 18]), (4, [6]), (5, []), (6, [6])], [(5, [(0, []), (1, []), (2, []), (3, []), (4, []), (5, []), (6, []), (7, []), (8, []), (9, []), (10, []), (11, []), (12, []), (13, []), (14, []), (15, []), (16, []), (17, []), (18, []), (19, [])], [(2, [1]), (3, [1, 2]), (4, [1, 2, 3]), (5, [1, 2, 3, 4]), (8, [7]), (9, [7, 8]), (10, [7, 8, 9]), (12, [7, 8, 9, 10, 11]), (13, [6, 7, 8, 9, 10, 11, 12]), (14, [6, 7, 8, 9, 10, 11, 12, 13]), (15, [1, 2, 3, 4, 5, 6, 7, 8, 9, 10, 11, 12, 13, 14]), (16, [0, 1, 2, 3, 4, 5, 6, 7, 8, 9, 10, 11, 12, 13, 14, 15]), (17, [0, 1, 2, 3, 4, 5, 6, 7, 8, 9, 10, 11, 12, 13, 14, 15, 16]), (18, [0, 1, 2, 3, 4, 5, 6, 7, 8, 9, 10, 11, 12, 13, 14, 15, 16, 17]), (19, [0, 1, 2, 3, 4, 5, 6, 7, 8, 9, 10, 11, 12, 13, 14, 15, 16, 17, 18])])]⟩
set_option maxRecDepth 100000 in
theorem F33.ok : compF Try.prog A33 Try.f33 = some F33 := by kernel_rfl
theorem F33.fok : FOk Try.prog 33 F33 := fok_of mixed Try.func33 F33.ok

/-- (*cloakroom/clock.Clock).Tick -/
def F34 : SFn := ⟨.seq (.region [⟨some 2, none, .mov (.c (.slice none 0 0))⟩] [0])
   (.seq (.seq (.region [⟨some 6, none, .mov (.t 0)⟩,
    ⟨some 7, none, .eqk false .ptr (.t 6) (.c (.pointer none))⟩] [0, 7])
   (.cond (.t 7) (.seq (.region [⟨some 2, none, .mov (.c (.slice none 0 0))⟩] [2])
   (.ret)) (.skip)))
   (.seq (.region [⟨some 8, none, .mov (.t 0)⟩,
    ⟨some 9, none, .nilc (.t 8)⟩,
    ⟨some 10, none, .fa 1 (.t 9)⟩,
    ⟨some 11, none, .ld 1 false (.t 10)⟩,
    ⟨some 12, none, .bin .add (.t 11) (.c (.int .u64 1))⟩,
    ⟨some 13, none, .nilc (.t 8)⟩,
    ⟨some 14, none, .fa 1 (.t 13)⟩,
    ⟨none, none, .st 1 (.t 14) (.t 12)⟩] [0])
   (.seq (.region [⟨some 3, none, .mov (.c (.slice none 0 0))⟩] [0, 3])
   (.seq (.seq (.region [⟨some 15, none, .mov (.t 0)⟩,
    ⟨some 16, none, .nilc (.t 15)⟩,
    ⟨some 17, none, .fa 0 (.t 16)⟩,
    ⟨some 18, none, .fa 0 (.t 17)⟩,
    ⟨some 19, none, .ld 1 false (.t 18)⟩,
    ⟨some 20, none, .lenV (.t 19)⟩,
    ⟨some 21, none, .mov (.c (.int .i64 0))⟩] [0, 3, 19, 20, 21])
   (.block 0 (.loop (.seq (.region [⟨some 22, none, .bin .lss (.t 21) (.t 20)⟩] [0, 3, 19, 20, 21, 22])
   (.seq (.cond (.t 22) (.skip) (.exit 0))
   (.seq (.block 1 (.seq (.region [⟨some 23, none, .iaV 2 (.t 19) (.t 21)⟩,
    ⟨some 24, none, .ld 2 true (.t 23)⟩,
    ⟨some 5, none, .new [.int .u64 0, .int .u64 0]⟩,
    ⟨none, none, .st 2 (.t 5) (.t 24)⟩] [0, 3, 5, 19, 20, 21])
   (.seq (.region [⟨some 25, none, .fa 1 (.t 5)⟩,
    ⟨some 26, none, .ld 1 false (.t 25)⟩,
    ⟨some 27, none, .mov (.t 0)⟩,
    ⟨some 28, none, .nilc (.t 27)⟩,
    ⟨some 29, none, .fa 1 (.t 28)⟩,
    ⟨some 30, none, .ld 1 false (.t 29)⟩,
    ⟨some 31, none, .bin .leq (.t 26) (.t 30)⟩] [0, 3, 5, 19, 20, 21, 31])
   (.cond (.t 31) (.region [⟨some 32, none, .mov (.t 3)⟩,
    ⟨some 33, none, .fa 0 (.t 5)⟩,
    ⟨some 34, none, .ld 1 false (.t 33)⟩,
    ⟨some 35, none, .bslice 1 1 [.int .u64 0] [(0, 1, .t 34)]⟩,
    ⟨some 36, none, .app 1 8 (.t 32) (.t 35)⟩,
    ⟨some 3, none, .mov (.t 36)⟩] [0, 3, 19, 20, 21]) (.skip)))))
   (.region [⟨some 37, none, .bin .add (.t 21) (.c (.int .i64 1))⟩,
    ⟨some 21, none, .mov (.t 37)⟩] [0, 3, 19, 20, 21])))))))
   (.seq (.region [⟨some 38, none, .mov (.t 0)⟩,
    ⟨some 39, none, .mov (.t 3)⟩,
    ⟨some 40, none, .call 37 [.t 38, .t 39]⟩] [3])
   (.seq (.region [⟨some 41, none, .mov (.t 3)⟩,
    ⟨some 2, none, .mov (.t 41)⟩] [2])
   (.ret))))))),
  [.t 2], 42, 1⟩
def A34 : Ann := ⟨[(0, [0]), (1, [0, 7]), (2, [2]), (3, [0]), (4, [0, 3]), (5, [0, 3, 19, 20, 21]), (6, [0, 3, 19, 20, 21, 22]), (7, [0, 3, 5, 19, 20, 21]), (8, [0, 3, 5, 19, 20, 21, 31]), (9, [0, 3, 19, 20, 21]), (10, [0, 3, 19, 20, 21]), (11, [3]), (12, [2])], [(8, [(0, []), (1, []), (2, []), (3, []), (4, []), (5, []), (6, [])], [(1, [0]), (3, [2]), (4, [2, 3]), (5, [2, 3, 4]), (6, [0, 1, 2, 3, 4, 5])])]⟩
set_option maxRecDepth 100000 in
theorem F34.ok : compF Try.prog A34 Try.f34 = some F34 := by kernel_rfl
theorem F34.fok : FOk Try.prog 34 F34 := fok_of mixed Try.func34 F34.ok

/-- cloakroom/cloakroomref1.SameNums -/
def F35 : SFn := ⟨.seq (.region [⟨some 4, none, .mov (.c (.bool false))⟩] [0, 1])
   (.seq (.seq (.region [⟨some 6, none, .mov (.t 0)⟩,
    ⟨some 7, none, .lenV (.t 6)⟩,
    ⟨some 8, none, .mov (.t 1)⟩,
    ⟨some 9, none, .lenV (.t 8)⟩,
    ⟨some 10, none, .bin .neq (.t 7) (.t 9)⟩] [0, 1, 10])
   (.cond (.t 10) (.seq (.region [⟨some 4, none, .mov (.c (.bool false))⟩] [4])
   (.ret)) (.skip)))
   (.seq (.seq (.region [⟨some 5, none, .mov (.c (.int .i64 0))⟩] [0, 1, 5])
   (.block 0 (.loop (.seq (.seq (.region [⟨some 11, none, .mov (.t 5)⟩,
    ⟨some 12, none, .mov (.t 0)⟩,
    ⟨some 13, none, .lenV (.t 12)⟩,
    ⟨some 14, none, .bin .lss (.t 11) (.t 13)⟩] [0, 1, 5, 14])
   (.cond (.t 14) (.skip) (.exit 0)))
   (.seq (.block 1 (.seq (.region [⟨some 17, none, .mov (.t 0)⟩,
    ⟨some 18, none, .mov (.t 5)⟩,
    ⟨some 19, none, .iaV 1 (.t 17) (.t 18)⟩,
    ⟨some 20, none, .ld 1 false (.t 19)⟩,
    ⟨some 21, none, .mov (.t 1)⟩,
    ⟨some 22, none, .mov (.t 5)⟩,
    ⟨some 23, none, .iaV 1 (.t 21) (.t 22)⟩,
    ⟨some 24, none, .ld 1 false (.t 23)⟩,
    ⟨some 25, none, .bin .neq (.t 20) (.t 24)⟩] [0, 1, 5, 25])
   (.cond (.t 25) (.seq (.region [⟨some 4, none, .mov (.c (.bool false))⟩] [4])
   (.ret)) (.skip))))
   (.region [⟨some 15, none, .mov (.t 5)⟩,
    ⟨some 16, none, .bin .add (.t 15) (.c (.int .i64 1))⟩,
    ⟨some 5, none, .mov (.t 16)⟩] [0, 1, 5]))))))
   (.seq (.region [⟨some 4, none, .mov (.c (.bool true))⟩] [4])
   (.ret)))),
  [.t 4], 26, 2⟩
def A35 : Ann := ⟨[(0, [0, 1]), (1, [0, 1, 10]), (2, [4]), (3, [0, 1, 5]), (4, [0, 1, 5, 14]), (5, [0, 1, 5]), (6, [0, 1, 5, 25]), (7, [4]), (8, [4])], [(6, [(0, []), (1, []), (2, []), (3, []), (4, []), (5, []), (6, []), (7, []), (8, [])], [(2, [0, 1]), (3, [0, 1, 2]), (6, [4, 5]), (7, [4, 5, 6]), (8, [0, 1, 2, 3, 4, 5, 6, 7])])]⟩
set_option maxRecDepth 100000 in
theorem F35.ok : compF Try.prog A35 Try.f35 = some F35 := by kernel_rfl
theorem F35.fok : FOk Try.prog 35 F35 := fok_of mixed Try.func35 F35.ok

/-- (*cloakroom/clock.Clock).Now -/
def F36 : SFn := ⟨.seq (.region [⟨some 2, none, .mov (.c (.int .u64 0))⟩] [0])
   (.seq (.seq (.region [⟨some 3, none, .mov (.t 0)⟩,
    ⟨some 4, none, .eqk false .ptr (.t 3) (.c (.pointer none))⟩] [0, 4])
   (.cond (.t 4) (.seq (.region [⟨some 2, none, .mov (.c (.int .u64 0))⟩] [2])
   (.ret)) (.skip)))
   (.seq (.region [⟨some 5, none, .mov (.t 0)⟩,
    ⟨some 6, none, .nilc (.t 5)⟩,
    ⟨some 7, none, .fa 1 (.t 6)⟩,
    ⟨some 8, none, .ld 1 false (.t 7)⟩,
    ⟨some 2, none, .mov (.t 8)⟩] [2])
   (.ret))),
  [.t 2], 9, 1⟩
def A36 : Ann := ⟨[(0, [0]), (1, [0, 4]), (2, [2]), (3, [2])], []⟩
set_option maxRecDepth 100000 in
theorem F36.ok : compF Try.prog A36 Try.f36 = some F36 := by kernel_rfl
theorem F36.fok : FOk Try.prog 36 F36 := fok_of mixed Try.func36 F36.ok

/-- (*cloakroom/clock.Clock).Drop -/
def F37 : SFn := ⟨.seq (.region [⟨some 3, none, .box (.t 1)⟩] [0, 3])
   (.seq (.region [⟨some 4, none, .mov (.t 0)⟩,
    ⟨some 5, none, .eqk true .ptr (.t 4) (.c (.pointer none))⟩] [0, 3, 5])
   (.cond (.t 5) (.region [⟨some 6, none, .mov (.t 0)⟩,
    ⟨some 7, none, .mov (.t 0)⟩,
    ⟨some 8, none, .nilc (.t 7)⟩,
    ⟨some 9, none, .fa 0 (.t 8)⟩,
    ⟨some 10, none, .fa 0 (.t 9)⟩,
    ⟨some 11, none, .ld 1 false (.t 10)⟩,
    ⟨some 12, none, .mkF (.func 53) [] [.t 3]⟩,
    ⟨some 13, none, .call 52 [.t 11, .t 12]⟩,
    ⟨some 14, none, .nilc (.t 6)⟩,
    ⟨some 15, none, .fa 0 (.t 14)⟩,
    ⟨some 16, none, .fa 0 (.t 15)⟩,
    ⟨none, none, .st 1 (.t 16) (.t 13)⟩] []) (.skip))),
  [], 17, 2⟩
def A37 : Ann := ⟨[(0, [0, 3]), (1, [0, 3, 5]), (2, [])], []⟩
set_option maxRecDepth 100000 in
theorem F37.ok : compF Try.prog A37 Try.f37 = some F37 := by kernel_rfl
theorem F37.fok : FOk Try.prog 37 F37 := fok_of mixed Try.func37 F37.ok

/-- (*cloakroom/clock.Clock).At -/
def F38 : SFn := ⟨.seq (.region [⟨some 4, none, .mov (.c (.int .u64 0))⟩,
    ⟨some 5, none, .mov (.c (.bool false))⟩] [0, 1])
   (.seq (.seq (.region [⟨some 7, none, .mov (.t 0)⟩,
    ⟨some 8, none, .eqk false .ptr (.t 7) (.c (.pointer none))⟩] [0, 1, 8])
   (.cond (.t 8) (.seq (.region [⟨some 4, none, .mov (.c (.int .u64 0))⟩,
    ⟨some 5, none, .mov (.c (.bool false))⟩] [4, 5])
   (.ret)) (.skip)))
   (.seq (.region [⟨some 9, none, .mov (.t 0)⟩,
    ⟨some 10, none, .nilc (.t 9)⟩,
    ⟨some 11, none, .fa 0 (.t 10)⟩,
    ⟨some 12, none, .mov (.t 1)⟩,
    ⟨some 13, none, .call 51 [.t 11, .t 12]⟩,
    ⟨some 6, none, .mov (.t 13)⟩] [0, 6])
   (.seq (.seq (.region [⟨some 14, none, .mov (.t 6)⟩,
    ⟨some 15, none, .bin .lss (.t 14) (.c (.int .i64 0))⟩] [0, 6, 15])
   (.cond (.t 15) (.seq (.region [⟨some 4, none, .mov (.c (.int .u64 0))⟩,
    ⟨some 5, none, .mov (.c (.bool false))⟩] [4, 5])
   (.ret)) (.skip)))
   (.seq (.region [⟨some 16, none, .mov (.t 0)⟩,
    ⟨some 17, none, .nilc (.t 16)⟩,
    ⟨some 18, none, .fa 0 (.t 17)⟩,
    ⟨some 19, none, .fa 0 (.t 18)⟩,
    ⟨some 20, none, .ld 1 false (.t 19)⟩,
    ⟨some 21, none, .mov (.t 6)⟩,
    ⟨some 22, none, .iaV 2 (.t 20) (.t 21)⟩,
    ⟨some 23, none, .fa 1 (.t 22)⟩,
    ⟨some 24, none, .ld 1 false (.t 23)⟩,
    ⟨some 4, none, .mov (.t 24)⟩,
    ⟨some 5, none, .mov (.c (.bool true))⟩] [4, 5])
   (.ret))))),
  [.t 4, .t 5], 25, 2⟩
def A38 : Ann := ⟨[(0, [0, 1]), (1, [0, 1, 8]), (2, [4, 5]), (3, [0, 6]), (4, [0, 6, 15]), (5, [4, 5]), (6, [4, 5])], []⟩
set_option maxRecDepth 100000 in
theorem F38.ok : compF Try.prog A38 Try.f38 = some F38 := by kernel_rfl
theorem F38.fok : FOk Try.prog 38 F38 := fok_of mixed Try.func38 F38.ok

/-- (*cloakroom/cloakroomref22.Clock).Set -/
def F39 : SFn := ⟨.seq (.region [⟨some 6, none, .mov (.c (.int .i64 0))⟩] [0, 1, 2])
   (.seq (.seq (.region [⟨some 7, none, .mov (.t 2)⟩,
    ⟨some 8, none, .bin .eql (.t 7) (.c (.int .u64 0))⟩,
    ⟨some 9, none, .mov (.t 8)⟩,
    ⟨some 10, some (9, false), .mov (.t 2)⟩,
    ⟨some 11, some (9, false), .bin .gtr (.t 10) (.c (.int .u64 1099511627776))⟩,
    ⟨some 12, none, .pick (.t 9) (.c (.bool true)) (.t 11)⟩] [0, 1, 2, 12])
   (.cond (.t 12) (.seq (.region [⟨some 6, none, .mov (.c (.int .i64 1))⟩] [6])
   (.ret)) (.skip)))
   (.seq (.seq (.region [⟨some 13, none, .mov (.t 0)⟩,
    ⟨some 14, none, .mov (.t 1)⟩,
    ⟨some 15, none, .call 55 [.t 13, .t 14]⟩,
    ⟨some 16, none, .bin .geq (.t 15) (.c (.int .i64 0))⟩] [0, 1, 2, 16])
   (.cond (.t 16) (.seq (.region [⟨some 6, none, .mov (.c (.int .i64 11))⟩] [6])
   (.ret)) (.skip)))
   (.seq (.region [⟨some 17, none, .mov (.t 0)⟩,
    ⟨some 18, none, .mov (.t 0)⟩,
    ⟨some 19, none, .bslice 0 1 [.int .u64 0] []⟩,
    ⟨some 20, none, .mov (.t 0)⟩,
    ⟨some 21, none, .nilc (.t 20)⟩,
    ⟨some 22, none, .fa 1 (.t 21)⟩,
    ⟨some 23, none, .ld 1 false (.t 22)⟩,
    ⟨some 25, none, .mov (.t 1)⟩,
    ⟨some 26, none, .bslice 1 1 [.int .u64 0] [(0, 1, .t 25)]⟩,
    ⟨some 28, none, .bslice 0 1 [.int .u64 0] []⟩,
    ⟨some 29, none, .mov (.t 0)⟩,
    ⟨some 30, none, .nilc (.t 29)⟩,
    ⟨some 31, none, .fa 2 (.t 30)⟩,
    ⟨some 32, none, .ld 1 false (.t 31)⟩,
    ⟨some 34, none, .mov (.t 0)⟩,
    ⟨some 35, none, .nilc (.t 34)⟩,
    ⟨some 36, none, .fa 0 (.t 35)⟩,
    ⟨some 37, none, .ld 1 false (.t 36)⟩,
    ⟨some 38, none, .mov (.t 2)⟩,
    ⟨some 39, none, .bin .add (.t 37) (.t 38)⟩,
    ⟨some 40, none, .bslice 1 1 [.int .u64 0] [(0, 1, .t 39)]⟩,
    ⟨some 24, none, .app 1 8 (.t 19) (.t 23)⟩,
    ⟨none, none, .chk 1 false (.t 31) 32⟩,
    ⟨none, none, .chk 1 false (.t 36) 37⟩,
    ⟨some 27, none, .app 1 8 (.t 24) (.t 26)⟩,
    ⟨none, none, .chk 1 false (.t 31) 32⟩,
    ⟨none, none, .chk 1 false (.t 36) 37⟩,
    ⟨some 33, none, .app 1 8 (.t 28) (.t 32)⟩,
    ⟨none, none, .chk 1 false (.t 36) 37⟩,
    ⟨some 41, none, .app 1 8 (.t 33) (.t 40)⟩,
    ⟨some 42, none, .nilc (.t 17)⟩,
    ⟨some 43, none, .fa 1 (.t 42)⟩,
    ⟨none, none, .st 1 (.t 43) (.t 27)⟩,
    ⟨some 44, none, .nilc (.t 18)⟩,
    ⟨some 45, none, .fa 2 (.t 44)⟩,
    ⟨none, none, .st 1 (.t 45) (.t 41)⟩] [])
   (.seq (.region [⟨some 6, none, .mov (.c (.int .i64 0))⟩] [6])
   (.ret))))),
  [.t 6], 46, 3⟩
def A39 : Ann := ⟨[(0, [0, 1, 2]), (1, [0, 1, 2, 12]), (2, [6]), (3, [0, 1, 2, 16]), (4, [6]), (5, []), (6, [6])], [(5, [(0, []), (1, []), (2, []), (3, []), (4, []), (5, []), (6, []), (8, []), (9, []), (11, []), (12, []), (13, []), (14, []), (15, []), (17, []), (18, []), (19, []), (20, []), (21, []), (22, []), (23, []), (7, [15, 20]), (10, [15, 20]), (16, [20]), (24, []), (25, []), (26, []), (27, []), (28, []), (29, []), (30, [])], [(4, [3]), (5, [3, 4]), (6, [3, 4, 5]), (7, [2, 3, 4, 5, 6]), (9, [8]), (10, [2, 3, 4, 5, 6, 7, 8, 9]), (13, [12]), (14, [12, 13]), (15, [12, 13, 14]), (16, [2, 3, 4, 5, 6, 7, 8, 9, 10, 11, 12, 13, 14, 15]), (18, [17]), (19, [17, 18]), (20, [17, 18, 19]), (22, [17, 18, 19, 20, 21]), (23, [17, 18, 19, 20, 21, 22]), (24, [2, 3, 4, 5, 6, 7, 8, 9, 10, 11, 12, 13, 14, 15, 16, 17, 18, 19, 20, 21, 22, 23]), (25, [0, 2, 3, 4, 5, 6, 7, 8, 9, 10, 11, 12, 13, 14, 15, 16, 17, 18, 19, 20, 21, 22, 23, 24]), (26, [0, 2, 3, 4, 5, 6, 7, 8, 9, 10, 11, 12, 13, 14, 15, 16, 17, 18, 19, 20, 21, 22, 23, 24, 25]), (27, [0, 2, 3, 4, 5, 6, 7, 8, 9, 10, 11, 12, 13, 14, 15, 16, 17, 18, 19, 20, 21, 22, 23, 24, 25, 26]), (28, [0, 1, 2, 3, 4, 5, 6, 7, 8, 9, 10, 11, 12, 13, 14, 15, 16, 17, 18, 19, 20, 21, 22, 23, 24, 25, 26, 27]), (29, [0, 1, 2, 3, 4, 5, 6, 7, 8, 9, 10, 11, 12, 13, 14, 15, 16, 17, 18, 19, 20, 21, 22, 23, 24, 25, 26, 27, 28]), (30, [0, 1, 2, 3, 4, 5, 6, 7, 8, 9, 10, 11, 12, 13, 14, 15, 16, 17, 18, 19, 20, 21, 22, 23, 24, 25, 26, 27, 28, 29])])]⟩
set_option maxRecDepth 100000 in
theorem F39.ok : compF Try.prog A39 Try.f39 = some F39 := by kernel_rfl
theorem F39.fok : FOk Try.prog 39 F39 := fok_of mixed Try.func39 F39.ok

/-- (*cloakroom/cloakroomref22.Clock).Drop -/
def F40 : SFn := ⟨.seq (.region [⟨some 4, none, .mov (.c (.int .i64 0))⟩] [0, 1, 4])
   (.block 0 (.loop (.seq (.seq (.region [⟨some 6, none, .mov (.t 4)⟩,
    ⟨some 7, none, .mov (.t 1)⟩,
    ⟨some 8, none, .lenV (.t 7)⟩,
    ⟨some 9, none, .bin .lss (.t 6) (.t 8)⟩] [0, 1, 4, 9])
   (.cond (.t 9) (.skip) (.exit 0)))
   (.seq (.block 1 (.seq (.region [⟨some 12, none, .mov (.t 0)⟩,
    ⟨some 13, none, .mov (.t 1)⟩,
    ⟨some 14, none, .mov (.t 4)⟩,
    ⟨some 15, none, .iaV 1 (.t 13) (.t 14)⟩,
    ⟨some 16, none, .ld 1 false (.t 15)⟩,
    ⟨some 17, none, .call 55 [.t 12, .t 16]⟩,
    ⟨some 5, none, .mov (.t 17)⟩] [0, 1, 4, 5])
   (.seq (.region [⟨some 18, none, .mov (.t 5)⟩,
    ⟨some 19, none, .bin .geq (.t 18) (.c (.int .i64 0))⟩] [0, 1, 4, 5, 19])
   (.cond (.t 19) (.region [⟨some 20, none, .mov (.t 0)⟩,
    ⟨some 21, none, .mov (.t 0)⟩,
    ⟨some 22, none, .bslice 0 1 [.int .u64 0] []⟩,
    ⟨some 23, none, .mov (.t 0)⟩,
    ⟨some 24, none, .nilc (.t 23)⟩,
    ⟨some 25, none, .fa 1 (.t 24)⟩,
    ⟨some 26, none, .ld 1 false (.t 25)⟩,
    ⟨some 27, none, .mov (.t 5)⟩,
    ⟨some 28, none, .slV 1 (.t 26) none (some (.t 27)) none⟩,
    ⟨some 30, none, .mov (.t 0)⟩,
    ⟨some 31, none, .nilc (.t 30)⟩,
    ⟨some 32, none, .fa 1 (.t 31)⟩,
    ⟨some 33, none, .ld 1 false (.t 32)⟩,
    ⟨some 34, none, .mov (.t 5)⟩,
    ⟨some 35, none, .bin .add (.t 34) (.c (.int .i64 1))⟩,
    ⟨some 36, none, .slV 1 (.t 33) (some (.t 35)) none none⟩,
    ⟨some 38, none, .bslice 0 1 [.int .u64 0] []⟩,
    ⟨some 39, none, .mov (.t 0)⟩,
    ⟨some 40, none, .nilc (.t 39)⟩,
    ⟨some 41, none, .fa 2 (.t 40)⟩,
    ⟨some 42, none, .ld 1 false (.t 41)⟩,
    ⟨some 43, none, .mov (.t 5)⟩,
    ⟨some 44, none, .slV 1 (.t 42) none (some (.t 43)) none⟩,
    ⟨some 46, none, .mov (.t 0)⟩,
    ⟨some 47, none, .nilc (.t 46)⟩,
    ⟨some 48, none, .fa 2 (.t 47)⟩,
    ⟨some 49, none, .ld 1 false (.t 48)⟩,
    ⟨some 50, none, .mov (.t 5)⟩,
    ⟨some 51, none, .bin .add (.t 50) (.c (.int .i64 1))⟩,
    ⟨some 52, none, .slV 1 (.t 49) (some (.t 51)) none none⟩,
    ⟨some 29, none, .app 1 8 (.t 22) (.t 28)⟩,
    ⟨none, none, .chk 1 false (.t 32) 33⟩,
    ⟨none, none, .chkV 1 (.t 33) (some (.t 35)) none none 36⟩,
    ⟨none, none, .chk 1 false (.t 41) 42⟩,
    ⟨none, none, .chkV 1 (.t 42) none (some (.t 43)) none 44⟩,
    ⟨none, none, .chk 1 false (.t 48) 49⟩,
    ⟨none, none, .chkV 1 (.t 49) (some (.t 51)) none none 52⟩,
    ⟨some 37, none, .app 1 8 (.t 29) (.t 36)⟩,
    ⟨none, none, .chk 1 false (.t 41) 42⟩,
    ⟨none, none, .chkV 1 (.t 42) none (some (.t 43)) none 44⟩,
    ⟨none, none, .chk 1 false (.t 48) 49⟩,
    ⟨none, none, .chkV 1 (.t 49) (some (.t 51)) none none 52⟩,
    ⟨some 45, none, .app 1 8 (.t 38) (.t 44)⟩,
    ⟨none, none, .chk 1 false (.t 48) 49⟩,
    ⟨none, none, .chkV 1 (.t 49) (some (.t 51)) none none 52⟩,
    ⟨some 53, none, .app 1 8 (.t 45) (.t 52)⟩,
    ⟨some 54, none, .nilc (.t 20)⟩,
    ⟨some 55, none, .fa 1 (.t 54)⟩,
    ⟨none, none, .st 1 (.t 55) (.t 37)⟩,
    ⟨some 56, none, .nilc (.t 21)⟩,
    ⟨some 57, none, .fa 2 (.t 56)⟩,
    ⟨none, none, .st 1 (.t 57) (.t 53)⟩] [0, 1, 4]) (.skip)))))
   (.region [⟨some 10, none, .mov (.t 4)⟩,
    ⟨some 11, none, .bin .add (.t 10) (.c (.int .i64 1))⟩,
    ⟨some 4, none, .mov (.t 11)⟩] [0, 1, 4]))))),
  [], 58, 2⟩
def A40 : Ann := ⟨[(0, [0, 1, 4]), (1, [0, 1, 4, 9]), (2, [0, 1, 4]), (3, [0, 1, 4, 5]), (4, [0, 1, 4, 5, 19]), (5, [0, 1, 4])], [(5, [(0, []), (1, []), (2, []), (3, []), (4, []), (5, []), (6, []), (7, []), (8, []), (10, []), (11, []), (12, []), (13, []), (14, []), (15, []), (16, []), (18, []), (19, []), (20, []), (21, []), (22, []), (23, []), (24, []), (26, []), (27, []), (28, []), (29, []), (30, []), (31, []), (32, []), (9, [13, 16, 22, 24, 29, 32]), (17, [22, 24, 29, 32]), (25, [29, 32]), (33, []), (34, []), (35, []), (36, []), (37, []), (38, []), (39, [])], [(4, [3]), (5, [3, 4]), (6, [3, 4, 5]), (8, [3, 4, 5, 6, 7]), (9, [2, 3, 4, 5, 6, 7, 8]), (11, [10]), (12, [10, 11]), (13, [10, 11, 12]), (15, [14]), (16, [10, 11, 12, 13, 14, 15]), (17, [2, 3, 4, 5, 6, 7, 8, 9, 10, 11, 12, 13, 14, 15, 16]), (20, [19]), (21, [19, 20]), (22, [19, 20, 21]), (24, [19, 20, 21, 22, 23]), (25, [2, 3, 4, 5, 6, 7, 8, 9, 10, 11, 12, 13, 14, 15, 16, 17, 18, 19, 20, 21, 22, 23, 24]), (27, [26]), (28, [26, 27]), (29, [26, 27, 28]), (31, [30]), (32, [26, 27, 28, 29, 30, 31]), (33, [2, 3, 4, 5, 6, 7, 8, 9, 10, 11, 12, 13, 14, 15, 16, 17, 18, 19, 20, 21, 22, 23, 24, 25, 26, 27, 28, 29, 30, 31, 32]), (34, [0, 2, 3, 4, 5, 6, 7, 8, 9, 10, 11, 12, 13, 14, 15, 16, 17, 18, 19, 20, 21, 22, 23, 24, 25, 26, 27, 28, 29, 30, 31, 32, 33]), (35, [0, 2, 3, 4, 5, 6, 7, 8, 9, 10, 11, 12, 13, 14, 15, 16, 17, 18, 19, 20, 21, 22, 23, 24, 25, 26, 27, 28, 29, 30, 31, 32, 33, 34]), (36, [0, 2, 3, 4, 5, 6, 7, 8, 9, 10, 11, 12, 13, 14, 15, 16, 17, 18, 19, 20, 21, 22, 23, 24, 25, 26, 27, 28, 29, 30, 31, 32, 33, 34, 35]), (37, [0, 1, 2, 3, 4, 5, 6, 7, 8, 9, 10, 11, 12, 13, 14, 15, 16, 17, 18, 19, 20, 21, 22, 23, 24, 25, 26, 27, 28, 29, 30, 31, 32, 33, 34, 35, 36]), (38, [0, 1, 2, 3, 4, 5, 6, 7, 8, 9, 10, 11, 12, 13, 14, 15, 16, 17, 18, 19, 20, 21, 22, 23, 24, 25, 26, 27, 28, 29, 30, 31, 32, 33, 34, 35, 36, 37]), (39, [0, 1, 2, 3, 4, 5, 6, 7, 8, 9, 10, 11, 12, 13, 14, 15, 16, 17, 18, 19, 20, 21, 22, 23, 24, 25, 26, 27, 28, 29, 30, 31, 32, 33, 34, 35, 36, 37, 38])])]⟩
set_option maxRecDepth 100000 in
theorem F40.ok : compF Try.prog A40 Try.f40 = some F40 := by kernel_rfl
theorem F40.fok : FOk Try.prog 40 F40 := fok_of mixed Try.func40 F40.ok

/-- (*cloakroom/cloakroomref22.Clock).Tick -/
def F41 : SFn := ⟨.seq (.region [⟨some 2, none, .mov (.c (.slice none 0 0))⟩] [0])
   (.seq (.region [⟨some 5, none, .mov (.t 0)⟩,
    ⟨some 6, none, .nilc (.t 5)⟩,
    ⟨some 7, none, .fa 0 (.t 6)⟩,
    ⟨some 8, none, .ld 1 false (.t 7)⟩,
    ⟨some 9, none, .bin .add (.t 8) (.c (.int .u64 1))⟩,
    ⟨some 10, none, .nilc (.t 5)⟩,
    ⟨some 11, none, .fa 0 (.t 10)⟩,
    ⟨none, none, .st 1 (.t 11) (.t 9)⟩] [0])
   (.seq (.region [⟨some 3, none, .mov (.c (.slice none 0 0))⟩] [0, 3])
   (.seq (.seq (.region [⟨some 4, none, .mov (.c (.int .i64 0))⟩] [0, 3, 4])
   (.block 0 (.loop (.seq (.seq (.region [⟨some 12, none, .mov (.t 4)⟩,
    ⟨some 13, none, .mov (.t 0)⟩,
    ⟨some 14, none, .nilc (.t 13)⟩,
    ⟨some 15, none, .fa 1 (.t 14)⟩,
    ⟨some 16, none, .ld 1 false (.t 15)⟩,
    ⟨some 17, none, .lenV (.t 16)⟩,
    ⟨some 18, none, .bin .lss (.t 12) (.t 17)⟩] [0, 3, 4, 18])
   (.cond (.t 18) (.skip) (.exit 0)))
   (.seq (.block 1 (.seq (.region [⟨some 21, none, .mov (.t 0)⟩,
    ⟨some 22, none, .nilc (.t 21)⟩,
    ⟨some 23, none, .fa 2 (.t 22)⟩,
    ⟨some 24, none, .ld 1 false (.t 23)⟩,
    ⟨some 25, none, .mov (.t 4)⟩,
    ⟨some 26, none, .iaV 1 (.t 24) (.t 25)⟩,
    ⟨some 27, none, .ld 1 false (.t 26)⟩,
    ⟨some 28, none, .mov (.t 0)⟩,
    ⟨some 29, none, .nilc (.t 28)⟩,
    ⟨some 30, none, .fa 0 (.t 29)⟩,
    ⟨some 31, none, .ld 1 false (.t 30)⟩,
    ⟨some 32, none, .bin .eql (.t 27) (.t 31)⟩] [0, 3, 4, 32])
   (.cond (.t 32) (.region [⟨some 33, none, .mov (.t 3)⟩,
    ⟨some 34, none, .mov (.t 0)⟩,
    ⟨some 35, none, .nilc (.t 34)⟩,
    ⟨some 36, none, .fa 1 (.t 35)⟩,
    ⟨some 37, none, .ld 1 false (.t 36)⟩,
    ⟨some 38, none, .mov (.t 4)⟩,
    ⟨some 39, none, .iaV 1 (.t 37) (.t 38)⟩,
    ⟨some 40, none, .ld 1 false (.t 39)⟩,
    ⟨some 41, none, .bslice 1 1 [.int .u64 0] [(0, 1, .t 40)]⟩,
    ⟨some 42, none, .app 1 8 (.t 33) (.t 41)⟩,
    ⟨some 3, none, .mov (.t 42)⟩] [0, 3, 4]) (.skip))))
   (.region [⟨some 19, none, .mov (.t 4)⟩,
    ⟨some 20, none, .bin .add (.t 19) (.c (.int .i64 1))⟩,
    ⟨some 4, none, .mov (.t 20)⟩] [0, 3, 4]))))))
   (.seq (.region [⟨some 43, none, .mov (.t 0)⟩,
    ⟨some 44, none, .mov (.t 3)⟩,
    ⟨some 45, none, .call 40 [.t 43, .t 44]⟩] [3])
   (.seq (.region [⟨some 46, none, .mov (.t 3)⟩,
    ⟨some 2, none, .mov (.t 46)⟩] [2])
   (.ret)))))),
  [.t 2], 47, 1⟩
def A41 : Ann := ⟨[(0, [0]), (1, [0]), (2, [0, 3]), (3, [0, 3, 4]), (4, [0, 3, 4, 18]), (5, [0, 3, 4]), (6, [0, 3, 4, 32]), (7, [0, 3, 4]), (8, [3]), (9, [2])], [(6, [(0, []), (1, []), (2, []), (3, []), (4, []), (5, []), (6, []), (7, []), (8, []), (9, []), (10, []), (11, [])], [(1, [0]), (2, [0, 1]), (3, [0, 1, 2]), (5, [0, 1, 2, 3, 4]), (6, [0, 1, 2, 3, 4, 5]), (8, [7]), (9, [7, 8]), (10, [7, 8, 9]), (11, [0, 1, 2, 3, 4, 5, 6, 7, 8, 9, 10])])]⟩
set_option maxRecDepth 100000 in
theorem F41.ok : compF Try.prog A41 Try.f41 = some F41 := by kernel_rfl
theorem F41.fok : FOk Try.prog 41 F41 := fok_of mixed Try.func41 F41.ok

/-- (*cloakroom/clock.Clock).Copy -/
def F42 : SFn := ⟨.seq (.region [⟨some 2, none, .mov (.c (.pointer none))⟩] [0])
   (.seq (.seq (.region [⟨some 3, none, .mov (.t 0)⟩,
    ⟨some 4, none, .eqk false .ptr (.t 3) (.c (.pointer none))⟩] [0, 4])
   (.cond (.t 4) (.seq (.region [⟨some 2, none, .mov (.c (.pointer none))⟩] [2])
   (.ret)) (.skip)))
   (.seq (.region [⟨some 5, none, .mov (.t 0)⟩,
    ⟨some 6, none, .nilc (.t 5)⟩,
    ⟨some 7, none, .fa 0 (.t 6)⟩,
    ⟨some 8, none, .fa 0 (.t 7)⟩,
    ⟨some 9, none, .ld 1 false (.t 8)⟩,
    ⟨some 12, none, .mov (.t 0)⟩,
    ⟨some 13, none, .nilc (.t 12)⟩,
    ⟨some 14, none, .fa 1 (.t 13)⟩,
    ⟨some 15, none, .ld 1 false (.t 14)⟩,
    ⟨some 10, none, .call 56 [.t 9]⟩,
    ⟨none, none, .chk 1 false (.t 14) 15⟩,
    ⟨some 11, none, .build [.slice none 0 0] [(0, 1, .t 10)]⟩,
    ⟨some 16, none, .build [.slice none 0 0, .int .u64 0] [(0, 1, .t 11), (1, 1, .t 15)]⟩,
    ⟨some 17, none, .box (.t 16)⟩,
    ⟨some 2, none, .mov (.t 17)⟩] [2])
   (.ret))),
  [.t 2], 18, 1⟩
def A42 : Ann := ⟨[(0, [0]), (1, [0, 4]), (2, [2]), (3, [2])], [(3, [(0, []), (1, []), (2, []), (3, []), (4, []), (7, []), (8, []), (9, []), (10, []), (5, [10]), (6, []), (11, []), (12, []), (13, [])], [(1, [0]), (2, [0, 1]), (3, [0, 1, 2]), (4, [0, 1, 2, 3]), (5, [0, 1, 2, 3, 4]), (6, [0, 1, 2, 3, 4, 5]), (8, [7]), (9, [7, 8]), (10, [7, 8, 9]), (11, [0, 1, 2, 3, 4, 5, 6, 7, 8, 9, 10]), (12, [0, 1, 2, 3, 4, 5, 6, 7, 8, 9, 10, 11]), (13, [0, 1, 2, 3, 4, 5, 6, 7, 8, 9, 10, 11, 12])])]⟩
set_option maxRecDepth 100000 in
theorem F42.ok : compF Try.prog A42 Try.f42 = some F42 := by kernel_rfl
theorem F42.fok : FOk Try.prog 42 F42 := fok_of mixed Try.func42 F42.ok

/-- cloakroom/op.none -/
def F43 : SFn := ⟨.seq (.region [⟨some 2, none, .mov (.c (.bool false))⟩] [0])
   (.seq (.block 0 (.seq (.seq (.region [⟨some 4, none, .mov (.t 0)⟩,
    ⟨some 5, none, .bin .leq (.t 4) (.c (.int .i64 1))⟩,
    ⟨some 3, none, .mov (.t 5)⟩] [0, 3])
   (.cond (.t 3) (.skip) (.seq (.region [⟨some 6, none, .mov (.t 0)⟩,
    ⟨some 7, none, .bin .eql (.t 6) (.c (.int .i64 5))⟩,
    ⟨some 3, none, .mov (.t 7)⟩] [0, 3])
   (.cond (.t 3) (.skip) (.seq (.region [⟨some 8, none, .mov (.t 0)⟩,
    ⟨some 9, none, .bin .eql (.t 8) (.c (.int .i64 11))⟩,
    ⟨some 3, none, .mov (.t 9)⟩] [0, 3])
   (.cond (.t 3) (.skip) (.seq (.region [⟨some 10, none, .mov (.t 0)⟩,
    ⟨some 11, none, .bin .eql (.t 10) (.c (.int .i64 15))⟩,
    ⟨some 3, none, .mov (.t 11)⟩] [0, 3])
   (.cond (.t 3) (.skip) (.seq (.region [⟨some 12, none, .mov (.t 0)⟩,
    ⟨some 13, none, .bin .eql (.t 12) (.c (.int .i64 26))⟩,
    ⟨some 3, none, .mov (.t 13)⟩] [0, 3])
   (.cond (.t 3) (.skip) (.seq (.region [⟨some 14, none, .mov (.t 0)⟩,
    ⟨some 15, none, .bin .eql (.t 14) (.c (.int .i64 27))⟩,
    ⟨some 3, none, .mov (.t 15)⟩] [0, 3])
   (.cond (.t 3) (.skip) (.region [⟨some 16, none, .mov (.t 0)⟩,
    ⟨some 17, none, .bin .eql (.t 16) (.c (.int .i64 209))⟩,
    ⟨some 3, none, .mov (.t 17)⟩] [0, 3])))))))))))))
   (.cond (.t 3) (.seq (.region [⟨some 2, none, .mov (.c (.bool true))⟩] [2])
   (.ret)) (.seq (.seq (.region [⟨some 19, none, .mov (.t 0)⟩,
    ⟨some 20, none, .bin .geq (.t 19) (.c (.int .i64 69))⟩,
    ⟨some 21, none, .mov (.t 20)⟩,
    ⟨some 22, some (21, true), .mov (.t 0)⟩,
    ⟨some 23, some (21, true), .bin .leq (.t 22) (.c (.int .i64 90))⟩,
    ⟨some 24, none, .pick (.t 21) (.t 23) (.c (.bool false))⟩,
    ⟨some 18, none, .mov (.t 24)⟩] [0, 18])
   (.cond (.t 18) (.skip) (.seq (.region [⟨some 25, none, .mov (.t 0)⟩,
    ⟨some 26, none, .bin .geq (.t 25) (.c (.int .i64 103))⟩,
    ⟨some 27, none, .mov (.t 26)⟩,
    ⟨some 28, some (27, true), .mov (.t 0)⟩,
    ⟨some 29, some (27, true), .bin .leq (.t 28) (.c (.int .i64 138))⟩,
    ⟨some 30, none, .pick (.t 27) (.t 29) (.c (.bool false))⟩,
    ⟨some 18, none, .mov (.t 30)⟩] [0, 18])
   (.cond (.t 18) (.skip) (.seq (.region [⟨some 31, none, .mov (.t 0)⟩,
    ⟨some 32, none, .bin .eql (.t 31) (.c (.int .i64 167))⟩,
    ⟨some 18, none, .mov (.t 32)⟩] [0, 18])
   (.cond (.t 18) (.skip) (.seq (.region [⟨some 33, none, .mov (.t 0)⟩,
    ⟨some 34, none, .bin .eql (.t 33) (.c (.int .i64 172))⟩,
    ⟨some 18, none, .mov (.t 34)⟩] [0, 18])
   (.cond (.t 18) (.skip) (.seq (.region [⟨some 35, none, .mov (.t 0)⟩,
    ⟨some 36, none, .bin .eql (.t 35) (.c (.int .i64 173))⟩,
    ⟨some 18, none, .mov (.t 36)⟩] [0, 18])
   (.cond (.t 18) (.skip) (.region [⟨some 37, none, .mov (.t 0)⟩,
    ⟨some 38, none, .bin .geq (.t 37) (.c (.int .i64 192))⟩,
    ⟨some 39, none, .mov (.t 38)⟩,
    ⟨some 40, some (39, true), .mov (.t 0)⟩,
    ⟨some 41, some (39, true), .bin .leq (.t 40) (.c (.int .i64 196))⟩,
    ⟨some 42, none, .pick (.t 39) (.t 41) (.c (.bool false))⟩,
    ⟨some 18, none, .mov (.t 42)⟩] [18])))))))))))
   (.cond (.t 18) (.seq (.region [⟨some 2, none, .mov (.c (.bool true))⟩] [2])
   (.ret)) (.skip))))))
   (.seq (.region [⟨some 2, none, .mov (.c (.bool false))⟩] [2])
   (.ret))),
  [.t 2], 43, 1⟩
def A43 : Ann := ⟨[(0, [0]), (1, [0, 3]), (2, [0, 3]), (3, [0, 3]), (4, [0, 3]), (5, [0, 3]), (6, [0, 3]), (7, [0, 3]), (8, [2]), (9, [0, 18]), (10, [0, 18]), (11, [0, 18]), (12, [0, 18]), (13, [0, 18]), (14, [18]), (15, [2]), (16, [2])], []⟩
set_option maxRecDepth 100000 in
theorem F43.ok : compF Try.prog A43 Try.f43 = some F43 := by kernel_rfl
theorem F43.fok : FOk Try.prog 43 F43 := fok_of mixed Try.func43 F43.ok

/-- cloakroom/op.float -/
def F44 : SFn := ⟨.seq (.region [⟨some 2, none, .mov (.c (.bool false))⟩] [0])
   (.seq (.block 0 (.seq (.seq (.region [⟨some 4, none, .mov (.t 0)⟩,
    ⟨some 5, none, .bin .eql (.t 4) (.c (.int .i64 42))⟩,
    ⟨some 3, none, .mov (.t 5)⟩] [0, 3])
   (.cond (.t 3) (.skip) (.seq (.region [⟨some 6, none, .mov (.t 0)⟩,
    ⟨some 7, none, .bin .eql (.t 6) (.c (.int .i64 43))⟩,
    ⟨some 3, none, .mov (.t 7)⟩] [0, 3])
   (.cond (.t 3) (.skip) (.seq (.region [⟨some 8, none, .mov (.t 0)⟩,
    ⟨some 9, none, .bin .eql (.t 8) (.c (.int .i64 56))⟩,
    ⟨some 3, none, .mov (.t 9)⟩] [0, 3])
   (.cond (.t 3) (.skip) (.seq (.region [⟨some 10, none, .mov (.t 0)⟩,
    ⟨some 11, none, .bin .eql (.t 10) (.c (.int .i64 57))⟩,
    ⟨some 3, none, .mov (.t 11)⟩] [0, 3])
   (.cond (.t 3) (.skip) (.seq (.region [⟨some 12, none, .mov (.t 0)⟩,
    ⟨some 13, none, .bin .eql (.t 12) (.c (.int .i64 67))⟩,
    ⟨some 3, none, .mov (.t 13)⟩] [0, 3])
   (.cond (.t 3) (.skip) (.seq (.region [⟨some 14, none, .mov (.t 0)⟩,
    ⟨some 15, none, .bin .eql (.t 14) (.c (.int .i64 68))⟩,
    ⟨some 3, none, .mov (.t 15)⟩] [0, 3])
   (.cond (.t 3) (.skip) (.region [⟨some 16, none, .mov (.t 0)⟩,
    ⟨some 17, none, .bin .eql (.t 16) (.c (.int .i64 253))⟩,
    ⟨some 3, none, .mov (.t 17)⟩] [0, 3])))))))))))))
   (.cond (.t 3) (.seq (.region [⟨some 2, none, .mov (.c (.bool true))⟩] [2])
   (.ret)) (.seq (.seq (.region [⟨some 19, none, .mov (.t 0)⟩,
    ⟨some 20, none, .bin .geq (.t 19) (.c (.int .i64 91))⟩,
    ⟨some 21, none, .mov (.t 20)⟩,
    ⟨some 22, some (21, true), .mov (.t 0)⟩,
    ⟨some 23, some (21, true), .bin .leq (.t 22) (.c (.int .i64 102))⟩,
    ⟨some 24, none, .pick (.t 21) (.t 23) (.c (.bool false))⟩,
    ⟨some 18, none, .mov (.t 24)⟩] [0, 18])
   (.cond (.t 18) (.skip) (.seq (.region [⟨some 25, none, .mov (.t 0)⟩,
    ⟨some 26, none, .bin .geq (.t 25) (.c (.int .i64 139))⟩,
    ⟨some 27, none, .mov (.t 26)⟩,
    ⟨some 28, some (27, true), .mov (.t 0)⟩,
    ⟨some 29, some (27, true), .bin .leq (.t 28) (.c (.int .i64 166))⟩,
    ⟨some 30, none, .pick (.t 27) (.t 29) (.c (.bool false))⟩,
    ⟨some 18, none, .mov (.t 30)⟩] [0, 18])
   (.cond (.t 18) (.skip) (.seq (.region [⟨some 31, none, .mov (.t 0)⟩,
    ⟨some 32, none, .bin .geq (.t 31) (.c (.int .i64 168))⟩,
    ⟨some 33, none, .mov (.t 32)⟩,
    ⟨some 34, some (33, true), .mov (.t 0)⟩,
    ⟨some 35, some (33, true), .bin .leq (.t 34) (.c (.int .i64 171))⟩,
    ⟨some 36, none, .pick (.t 33) (.t 35) (.c (.bool false))⟩,
    ⟨some 18, none, .mov (.t 36)⟩] [0, 18])
   (.cond (.t 18) (.skip) (.region [⟨some 37, none, .mov (.t 0)⟩,
    ⟨some 38, none, .bin .geq (.t 37) (.c (.int .i64 174))⟩,
    ⟨some 39, none, .mov (.t 38)⟩,
    ⟨some 40, some (39, true), .mov (.t 0)⟩,
    ⟨some 41, some (39, true), .bin .leq (.t 40) (.c (.int .i64 191))⟩,
    ⟨some 42, none, .pick (.t 39) (.t 41) (.c (.bool false))⟩,
    ⟨some 18, none, .mov (.t 42)⟩] [0, 18])))))))
   (.cond (.t 18) (.seq (.region [⟨some 2, none, .mov (.c (.bool true))⟩] [2])
   (.ret)) (.skip))))))
   (.seq (.region [⟨some 43, none, .mov (.t 0)⟩,
    ⟨some 44, none, .bin .geq (.t 43) (.c (.int .i64 64512))⟩,
    ⟨some 45, none, .mov (.t 44)⟩,
    ⟨some 46, some (45, true), .mov (.t 0)⟩,
    ⟨some 47, some (45, true), .bin .leq (.t 46) (.c (.int .i64 64519))⟩,
    ⟨some 48, none, .pick (.t 45) (.t 47) (.c (.bool false))⟩,
    ⟨some 49, none, .mov (.t 48)⟩,
    ⟨some 50, some (49, false), .mov (.t 0)⟩,
    ⟨some 51, some (49, false), .bin .geq (.t 50) (.c (.int .i64 64768))⟩,
    ⟨some 52, some (49, false), .mov (.t 51)⟩,
    ⟨some 53, some (52, true), .mov (.t 0)⟩,
    ⟨some 54, some (52, true), .bin .lss (.t 53) (.c (.int .i64 65024))⟩,
    ⟨some 55, some (49, false), .pick (.t 52) (.t 54) (.c (.bool false))⟩,
    ⟨some 56, none, .pick (.t 49) (.c (.bool true)) (.t 55)⟩,
    ⟨some 2, none, .mov (.t 56)⟩] [2])
   (.ret))),
  [.t 2], 57, 1⟩
def A44 : Ann := ⟨[(0, [0]), (1, [0, 3]), (2, [0, 3]), (3, [0, 3]), (4, [0, 3]), (5, [0, 3]), (6, [0, 3]), (7, [0, 3]), (8, [2]), (9, [0, 18]), (10, [0, 18]), (11, [0, 18]), (12, [0, 18]), (13, [2]), (14, [2])], []⟩
set_option maxRecDepth 100000 in
theorem F44.ok : compF Try.prog A44 Try.f44 = some F44 := by kernel_rfl
theorem F44.fok : FOk Try.prog 44 F44 := fok_of mixed Try.func44 F44.ok

/-- cloakroom/cloakroomref5.floats -/
def F45 : SFn := ⟨.seq (.region [⟨some 2, none, .mov (.c (.bool false))⟩] [0])
   (.seq (.region [⟨some 3, none, .mov (.t 0)⟩,
    ⟨some 4, none, .bin .eql (.t 3) (.c (.int .i64 42))⟩,
    ⟨some 5, none, .mov (.t 4)⟩,
    ⟨some 6, some (5, false), .mov (.t 0)⟩,
    ⟨some 7, some (5, false), .bin .eql (.t 6) (.c (.int .i64 43))⟩,
    ⟨some 8, none, .pick (.t 5) (.c (.bool true)) (.t 7)⟩,
    ⟨some 9, none, .mov (.t 8)⟩,
    ⟨some 10, some (9, false), .mov (.t 0)⟩,
    ⟨some 11, some (9, false), .bin .eql (.t 10) (.c (.int .i64 56))⟩,
    ⟨some 12, none, .pick (.t 9) (.c (.bool true)) (.t 11)⟩,
    ⟨some 13, none, .mov (.t 12)⟩,
    ⟨some 14, some (13, false), .mov (.t 0)⟩,
    ⟨some 15, some (13, false), .bin .eql (.t 14) (.c (.int .i64 57))⟩,
    ⟨some 16, none, .pick (.t 13) (.c (.bool true)) (.t 15)⟩,
    ⟨some 17, none, .mov (.t 16)⟩,
    ⟨some 18, some (17, false), .mov (.t 0)⟩,
    ⟨some 19, some (17, false), .bin .eql (.t 18) (.c (.int .i64 67))⟩,
    ⟨some 20, none, .pick (.t 17) (.c (.bool true)) (.t 19)⟩,
    ⟨some 21, none, .mov (.t 20)⟩,
    ⟨some 22, some (21, false), .mov (.t 0)⟩,
    ⟨some 23, some (21, false), .bin .eql (.t 22) (.c (.int .i64 68))⟩,
    ⟨some 24, none, .pick (.t 21) (.c (.bool true)) (.t 23)⟩,
    ⟨some 25, none, .mov (.t 24)⟩,
    ⟨some 26, some (25, false), .mov (.t 0)⟩,
    ⟨some 27, some (25, false), .bin .geq (.t 26) (.c (.int .i64 91))⟩,
    ⟨some 28, some (25, false), .mov (.t 27)⟩,
    ⟨some 29, some (28, true), .mov (.t 0)⟩,
    ⟨some 30, some (28, true), .bin .leq (.t 29) (.c (.int .i64 102))⟩,
    ⟨some 31, some (25, false), .pick (.t 28) (.t 30) (.c (.bool false))⟩,
    ⟨some 32, none, .pick (.t 25) (.c (.bool true)) (.t 31)⟩,
    ⟨some 33, none, .mov (.t 32)⟩,
    ⟨some 34, some (33, false), .mov (.t 0)⟩,
    ⟨some 35, some (33, false), .bin .geq (.t 34) (.c (.int .i64 139))⟩,
    ⟨some 36, some (33, false), .mov (.t 35)⟩,
    ⟨some 37, some (36, true), .mov (.t 0)⟩,
    ⟨some 38, some (36, true), .bin .leq (.t 37) (.c (.int .i64 166))⟩,
    ⟨some 39, some (33, false), .pick (.t 36) (.t 38) (.c (.bool false))⟩,
    ⟨some 40, none, .pick (.t 33) (.c (.bool true)) (.t 39)⟩,
    ⟨some 41, none, .mov (.t 40)⟩,
    ⟨some 42, some (41, false), .mov (.t 0)⟩,
    ⟨some 43, some (41, false), .bin .geq (.t 42) (.c (.int .i64 168))⟩,
    ⟨some 44, some (41, false), .mov (.t 43)⟩,
    ⟨some 45, some (44, true), .mov (.t 0)⟩,
    ⟨some 46, some (44, true), .bin .leq (.t 45) (.c (.int .i64 171))⟩,
    ⟨some 47, some (41, false), .pick (.t 44) (.t 46) (.c (.bool false))⟩,
    ⟨some 48, none, .pick (.t 41) (.c (.bool true)) (.t 47)⟩,
    ⟨some 49, none, .mov (.t 48)⟩,
    ⟨some 50, some (49, false), .mov (.t 0)⟩,
    ⟨some 51, some (49, false), .bin .geq (.t 50) (.c (.int .i64 174))⟩,
    ⟨some 52, some (49, false), .mov (.t 51)⟩,
    ⟨some 53, some (52, true), .mov (.t 0)⟩,
    ⟨some 54, some (52, true), .bin .leq (.t 53) (.c (.int .i64 191))⟩,
    ⟨some 55, some (49, false), .pick (.t 52) (.t 54) (.c (.bool false))⟩,
    ⟨some 56, none, .pick (.t 49) (.c (.bool true)) (.t 55)⟩,
    ⟨some 57, none, .mov (.t 56)⟩,
    ⟨some 58, some (57, false), .mov (.t 0)⟩,
    ⟨some 59, some (57, false), .bin .geq (.t 58) (.c (.int .i64 64512))⟩,
    ⟨some 60, some (57, false), .mov (.t 59)⟩,
    ⟨some 61, some (60, true), .mov (.t 0)⟩,
    ⟨some 62, some (60, true), .bin .leq (.t 61) (.c (.int .i64 64519))⟩,
    ⟨some 63, some (57, false), .pick (.t 60) (.t 62) (.c (.bool false))⟩,
    ⟨some 64, none, .pick (.t 57) (.c (.bool true)) (.t 63)⟩,
    ⟨some 65, none, .mov (.t 64)⟩,
    ⟨some 66, some (65, false), .mov (.t 0)⟩,
    ⟨some 67, some (65, false), .bin .eql (.t 66) (.c (.int .i64 253))⟩,
    ⟨some 68, none, .pick (.t 65) (.c (.bool true)) (.t 67)⟩,
    ⟨some 69, none, .mov (.t 68)⟩,
    ⟨some 70, some (69, false), .mov (.t 0)⟩,
    ⟨some 71, some (69, false), .bin .geq (.t 70) (.c (.int .i64 64768))⟩,
    ⟨some 72, some (69, false), .mov (.t 71)⟩,
    ⟨some 73, some (72, true), .mov (.t 0)⟩,
    ⟨some 74, some (72, true), .bin .leq (.t 73) (.c (.int .i64 65023))⟩,
    ⟨some 75, some (69, false), .pick (.t 72) (.t 74) (.c (.bool false))⟩,
    ⟨some 76, none, .pick (.t 69) (.c (.bool true)) (.t 75)⟩,
    ⟨some 2, none, .mov (.t 76)⟩] [2])
   (.ret)),
  [.t 2], 77, 1⟩
def A45 : Ann := ⟨[(0, [0]), (1, [2])], []⟩
set_option maxRecDepth 100000 in
theorem F45.ok : compF Try.prog A45 Try.f45 = some F45 := by kernel_rfl
theorem F45.fok : FOk Try.prog 45 F45 := fok_of mixed Try.func45 F45.ok

/-- cloakroom/ctrl.walk -/
def F46 : SFn := ⟨.seq (.region [⟨some 2, none, .mov (.c (.pointer none))⟩,
    ⟨some 3, none, .mov (.c (.bool false))⟩] [0])
   (.seq (.region [⟨some 9, none, .mov (.t 0)⟩,
    ⟨some 10, none, .mkMap⟩,
    ⟨some 11, none, .build [.slice none 0 0, .slice none 0 0, .map none, .int .i64 0] [(1, 1, .t 9), (2, 1, .t 10)]⟩,
    ⟨some 12, none, .box (.t 11)⟩,
    ⟨some 4, none, .mov (.t 12)⟩] [0, 4])
   (.seq (.seq (.region [⟨some 13, none, .mov (.t 0)⟩,
    ⟨some 14, none, .lenV (.t 13)⟩,
    ⟨some 15, none, .mov (.c (.int .i64 0))⟩] [0, 4, 14, 15])
   (.block 0 (.loop (.seq (.region [⟨some 16, none, .bin .lss (.t 15) (.t 14)⟩] [0, 4, 14, 15, 16])
   (.seq (.cond (.t 16) (.skip) (.exit 0))
   (.seq (.block 1 (.seq (.region [⟨some 17, none, .mov (.t 15)⟩,
    ⟨some 5, none, .mov (.t 17)⟩] [0, 4, 5, 14, 15])
   (.seq (.region [⟨some 18, none, .mov (.t 4)⟩,
    ⟨some 19, none, .mov (.t 5)⟩,
    ⟨some 20, none, .call 57 [.t 18, .t 19]⟩,
    ⟨some 21, none, .un .not (.t 20)⟩] [0, 4, 14, 15, 21])
   (.cond (.t 21) (.seq (.region [⟨some 2, none, .mov (.c (.pointer none))⟩,
    ⟨some 3, none, .mov (.c (.bool false))⟩] [2, 3])
   (.ret)) (.skip)))))
   (.region [⟨some 22, none, .bin .add (.t 15) (.c (.int .i64 1))⟩,
    ⟨some 15, none, .mov (.t 22)⟩] [0, 4, 14, 15])))))))
   (.seq (.seq (.region [⟨some 23, none, .mov (.t 0)⟩,
    ⟨some 24, none, .lenV (.t 23)⟩,
    ⟨some 25, none, .bin .eql (.t 24) (.c (.int .i64 0))⟩,
    ⟨some 26, none, .mov (.t 25)⟩,
    ⟨some 27, some (26, false), .mov (.t 4)⟩,
    ⟨some 28, some (26, false), .nilc (.t 27)⟩,
    ⟨some 29, some (26, false), .fa 0 (.t 28)⟩,
    ⟨some 30, some (26, false), .ld 1 false (.t 29)⟩,
    ⟨some 31, some (26, false), .lenV (.t 30)⟩,
    ⟨some 32, some (26, false), .bin .gtr (.t 31) (.c (.int .i64 0))⟩,
    ⟨some 33, none, .pick (.t 26) (.c (.bool true)) (.t 32)⟩,
    ⟨some 34, none, .mov (.t 33)⟩,
    ⟨some 35, some (34, false), .mov (.t 0)⟩,
    ⟨some 36, some (34, false), .mov (.t 0)⟩,
    ⟨some 37, some (34, false), .lenV (.t 36)⟩,
    ⟨some 38, some (34, false), .bin .sub (.t 37) (.c (.int .i64 1))⟩,
    ⟨some 39, some (34, false), .iaV 6 (.t 35) (.t 38)⟩,
    ⟨some 40, some (34, false), .fa 0 (.t 39)⟩,
    ⟨some 41, some (34, false), .ld 1 false (.t 40)⟩,
    ⟨some 42, some (34, false), .bin .neq (.t 41) (.c (.int .i64 11))⟩,
    ⟨some 43, none, .pick (.t 34) (.c (.bool true)) (.t 42)⟩] [0, 4, 43])
   (.cond (.t 43) (.seq (.region [⟨some 2, none, .mov (.c (.pointer none))⟩,
    ⟨some 3, none, .mov (.c (.bool false))⟩] [2, 3])
   (.ret)) (.skip)))
   (.seq (.region [⟨some 6, none, .mov (.c (.int .i64 0))⟩] [0, 4, 6])
   (.seq (.seq (.region [⟨some 44, none, .mov (.t 0)⟩,
    ⟨some 45, none, .lenV (.t 44)⟩,
    ⟨some 46, none, .mov (.c (.int .i64 0))⟩] [4, 6, 44, 45, 46])
   (.block 2 (.loop (.seq (.region [⟨some 47, none, .bin .lss (.t 46) (.t 45)⟩] [4, 6, 44, 45, 46, 47])
   (.seq (.cond (.t 47) (.skip) (.exit 2))
   (.seq (.block 3 (.seq (.region [⟨some 48, none, .iaV 6 (.t 44) (.t 46)⟩,
    ⟨some 49, none, .ld 6 true (.t 48)⟩,
    ⟨some 8, none, .new [.int .i64 0, .int .u32 0, .int .u32 0, .int .u64 0, .slice none 0 0, .int .i64 0]⟩,
    ⟨none, none, .st 6 (.t 8) (.t 49)⟩] [4, 6, 8, 44, 45, 46])
   (.seq (.region [⟨some 50, none, .fa 0 (.t 8)⟩,
    ⟨some 51, none, .ld 1 false (.t 50)⟩,
    ⟨some 52, none, .bin .eql (.t 51) (.c (.int .i64 11))⟩] [4, 6, 44, 45, 46, 52])
   (.cond (.t 52) (.region [⟨some 53, none, .mov (.t 6)⟩,
    ⟨some 54, none, .bin .add (.t 53) (.c (.int .i64 1))⟩,
    ⟨some 6, none, .mov (.t 54)⟩] [4, 6, 44, 45, 46]) (.skip)))))
   (.region [⟨some 55, none, .bin .add (.t 46) (.c (.int .i64 1))⟩,
    ⟨some 46, none, .mov (.t 55)⟩] [4, 6, 44, 45, 46])))))))
   (.seq (.region [⟨some 56, none, .mov (.t 4)⟩,
    ⟨some 57, none, .mov (.t 6)⟩,
    ⟨some 58, none, .mov (.t 4)⟩,
    ⟨some 59, none, .nilc (.t 58)⟩,
    ⟨some 60, none, .fa 2 (.t 59)⟩,
    ⟨some 61, none, .ld 1 false (.t 60)⟩,
    ⟨some 62, none, .lenM (.t 61)⟩,
    ⟨some 63, none, .bin .add (.t 62) (.c (.int .i64 1))⟩,
    ⟨some 64, none, .bin .eql (.t 57) (.t 63)⟩,
    ⟨some 2, none, .mov (.t 56)⟩,
    ⟨some 3, none, .mov (.t 64)⟩] [2, 3])
   (.ret))))))),
  [.t 2, .t 3], 65, 1⟩
def A46 : Ann := ⟨[(0, [0]), (1, [0, 4]), (2, [0, 4, 14, 15]), (3, [0, 4, 14, 15, 16]), (4, [0, 4, 5, 14, 15]), (5, [0, 4, 14, 15, 21]), (6, [2, 3]), (7, [0, 4, 14, 15]), (8, [0, 4, 43]), (9, [2, 3]), (10, [0, 4, 6]), (11, [4, 6, 44, 45, 46]), (12, [4, 6, 44, 45, 46, 47]), (13, [4, 6, 8, 44, 45, 46]), (14, [4, 6, 44, 45, 46, 52]), (15, [4, 6, 44, 45, 46]), (16, [4, 6, 44, 45, 46]), (17, [2, 3])], []⟩
set_option maxRecDepth 100000 in
theorem F46.ok : compF Try.prog A46 Try.f46 = some F46 := by kernel_rfl
theorem F46.fok : FOk Try.prog 46 F46 := fok_of mixed Try.func46 F46.ok

/-- cloakroom/cloakroomplay.types -/
def F47 : SFn := ⟨.seq (.region [⟨some 0, none, .mov (.c (.slice none 0 0))⟩] [])
   (.seq (.region [⟨some 1, none, .mov (.c (.int .u8 127))⟩,
    ⟨some 2, none, .mov (.c (.int .u8 126))⟩] [1, 2])
   (.seq (.region [⟨some 3, none, .build [.slice none 0 0, .slice none 0 0] []⟩,
    ⟨some 4, none, .mov (.t 1)⟩,
    ⟨some 5, none, .bslice 1 1 [.int .u8 0] [(0, 1, .t 4)]⟩,
    ⟨some 6, none, .mov (.t 1)⟩,
    ⟨some 7, none, .bslice 1 1 [.int .u8 0] [(0, 1, .t 6)]⟩,
    ⟨some 8, none, .build [.slice none 0 0, .slice none 0 0] [(0, 1, .t 5), (1, 1, .t 7)]⟩,
    ⟨some 9, none, .mov (.t 1)⟩,
    ⟨some 10, none, .mov (.t 1)⟩,
    ⟨some 11, none, .bslice 2 1 [.int .u8 0] [(0, 1, .t 9), (1, 1, .t 10)]⟩,
    ⟨some 12, none, .mov (.t 1)⟩,
    ⟨some 13, none, .bslice 1 1 [.int .u8 0] [(0, 1, .t 12)]⟩,
    ⟨some 14, none, .build [.slice none 0 0, .slice none 0 0] [(0, 1, .t 11), (1, 1, .t 13)]⟩,
    ⟨some 15, none, .mov (.t 2)⟩,
    ⟨some 16, none, .bslice 1 1 [.int .u8 0] [(0, 1, .t 15)]⟩,
    ⟨some 17, none, .mov (.t 2)⟩,
    ⟨some 18, none, .bslice 1 1 [.int .u8 0] [(0, 1, .t 17)]⟩,
    ⟨some 19, none, .build [.slice none 0 0, .slice none 0 0] [(0, 1, .t 16), (1, 1, .t 18)]⟩,
    ⟨some 20, none, .mov (.t 1)⟩,
    ⟨some 21, none, .bslice 1 1 [.int .u8 0] [(0, 1, .t 20)]⟩,
    ⟨some 22, none, .build [.slice none 0 0, .slice none 0 0] [(1, 1, .t 21)]⟩,
    ⟨some 23, none, .mov (.t 1)⟩,
    ⟨some 24, none, .bslice 1 1 [.int .u8 0] [(0, 1, .t 23)]⟩,
    ⟨some 25, none, .mov (.t 1)⟩,
    ⟨some 26, none, .mov (.t 1)⟩,
    ⟨some 27, none, .bslice 2 1 [.int .u8 0] [(0, 1, .t 25), (1, 1, .t 26)]⟩,
    ⟨some 28, none, .build [.slice none 0 0, .slice none 0 0] [(0, 1, .t 24), (1, 1, .t 27)]⟩,
    ⟨some 29, none, .bslice 6 2 [.slice none 0 0, .slice none 0 0] [(0, 2, .t 3), (2, 2, .t 8), (4, 2, .t 14), (6, 2, .t 19), (8, 2, .t 22), (10, 2, .t 28)]⟩,
    ⟨some 0, none, .mov (.t 29)⟩] [0])
   (.ret))),
  [.t 0], 30, 0⟩
def A47 : Ann := ⟨[(0, []), (1, [1, 2]), (2, [0])], []⟩
set_option maxRecDepth 100000 in
theorem F47.ok : compF Try.prog A47 Try.f47 = some F47 := by kernel_rfl
theorem F47.fok : FOk Try.prog 47 F47 := fok_of mixed Try.func47 F47.ok

/-- (*cloakroom/cloakroomplay.Picks).Num -/
def F48 : SFn := ⟨.seq (.region [⟨some 4, none, .mov (.c (.int .i64 0))⟩] [0, 1])
   (.seq (.seq (.region [⟨some 5, none, .mov (.t 0)⟩,
    ⟨some 6, none, .nilc (.t 5)⟩,
    ⟨some 7, none, .fa 1 (.t 6)⟩,
    ⟨some 8, none, .ld 1 false (.t 7)⟩,
    ⟨some 9, none, .mov (.t 0)⟩,
    ⟨some 10, none, .nilc (.t 9)⟩,
    ⟨some 11, none, .fa 0 (.t 10)⟩,
    ⟨some 12, none, .ld 1 false (.t 11)⟩,
    ⟨some 13, none, .lenV (.t 12)⟩,
    ⟨some 14, none, .bin .geq (.t 8) (.t 13)⟩] [0, 1, 14])
   (.cond (.t 14) (.seq (.region [⟨some 4, none, .mov (.c (.int .i64 0))⟩] [4])
   (.ret)) (.skip)))
   (.seq (.region [⟨some 15, none, .mov (.t 0)⟩,
    ⟨some 16, none, .nilc (.t 15)⟩,
    ⟨some 17, none, .fa 1 (.t 16)⟩,
    ⟨some 18, none, .ld 1 false (.t 17)⟩,
    ⟨some 19, none, .bin .add (.t 18) (.c (.int .i64 1))⟩,
    ⟨some 20, none, .nilc (.t 15)⟩,
    ⟨some 21, none, .fa 1 (.t 20)⟩,
    ⟨none, none, .st 1 (.t 21) (.t 19)⟩] [0, 1])
   (.seq (.region [⟨some 22, none, .mov (.t 0)⟩,
    ⟨some 23, none, .nilc (.t 22)⟩,
    ⟨some 24, none, .fa 0 (.t 23)⟩,
    ⟨some 25, none, .ld 1 false (.t 24)⟩,
    ⟨some 26, none, .mov (.t 0)⟩,
    ⟨some 27, none, .nilc (.t 26)⟩,
    ⟨some 28, none, .fa 1 (.t 27)⟩,
    ⟨some 29, none, .ld 1 false (.t 28)⟩,
    ⟨some 30, none, .bin .sub (.t 29) (.c (.int .i64 1))⟩,
    ⟨some 31, none, .iaV 1 (.t 25) (.t 30)⟩,
    ⟨some 32, none, .ld 1 false (.t 31)⟩,
    ⟨some 33, none, .conv .i64 (.t 32)⟩,
    ⟨some 34, none, .mov (.t 1)⟩,
    ⟨some 35, none, .bin .rem (.t 33) (.t 34)⟩,
    ⟨some 4, none, .mov (.t 35)⟩] [4])
   (.ret)))),
  [.t 4], 36, 2⟩
def A48 : Ann := ⟨[(0, [0, 1]), (1, [0, 1, 14]), (2, [4]), (3, [0, 1]), (4, [4])], [(1, [(0, []), (1, []), (2, []), (3, []), (4, []), (5, []), (6, []), (7, []), (8, []), (9, [])], [(1, [0]), (2, [0, 1]), (3, [0, 1, 2]), (5, [4]), (6, [4, 5]), (7, [4, 5, 6]), (8, [4, 5, 6, 7]), (9, [0, 1, 2, 3, 4, 5, 6, 7, 8])]),
  (4, [(0, []), (1, []), (2, []), (3, []), (4, []), (5, []), (6, []), (7, []), (8, []), (9, []), (10, []), (11, []), (12, []), (13, []), (14, [])], [(1, [0]), (2, [0, 1]), (3, [0, 1, 2]), (5, [4]), (6, [4, 5]), (7, [4, 5, 6]), (8, [4, 5, 6, 7]), (9, [0, 1, 2, 3, 4, 5, 6, 7, 8]), (10, [0, 1, 2, 3, 4, 5, 6, 7, 8, 9]), (11, [0, 1, 2, 3, 4, 5, 6, 7, 8, 9, 10]), (13, [0, 1, 2, 3, 4, 5, 6, 7, 8, 9, 10, 11, 12]), (14, [0, 1, 2, 3, 4, 5, 6, 7, 8, 9, 10, 11, 12, 13])])]⟩
set_option maxRecDepth 100000 in
theorem F48.ok : compF Try.prog A48 Try.f48 = some F48 := by kernel_rfl
theorem F48.fok : FOk Try.prog 48 F48 := fok_of mixed Try.func48 F48.ok

/-- (*cloakroom/cloakroomplay.maker).stmts -/
def F49 : SFn := ⟨.seq (.region [⟨some 6, none, .mov (.c (.int .i64 0))⟩] [0, 1, 2, 6])
   (.block 0 (.loop (.seq (.seq (.region [⟨some 7, none, .mov (.t 6)⟩,
    ⟨some 8, none, .mov (.t 1)⟩,
    ⟨some 9, none, .bin .lss (.t 7) (.t 8)⟩,
    ⟨some 10, none, .mov (.t 9)⟩,
    ⟨some 11, some (10, true), .mov (.t 0)⟩,
    ⟨some 12, some (10, true), .nilc (.t 11)⟩,
    ⟨some 13, some (10, true), .fa 0 (.t 12)⟩,
    ⟨some 14, some (10, true), .ld 1 false (.t 13)⟩,
    ⟨some 15, some (10, true), .call 58 [.t 14]⟩,
    ⟨some 16, some (10, true), .un .not (.t 15)⟩,
    ⟨some 17, none, .pick (.t 10) (.t 16) (.c (.bool false))⟩,
    ⟨some 18, none, .mov (.t 17)⟩,
    ⟨some 19, some (18, true), .mov (.t 0)⟩,
    ⟨some 20, some (18, true), .nilc (.t 19)⟩,
    ⟨some 21, some (18, true), .fa 3 (.t 20)⟩,
    ⟨some 22, some (18, true), .ld 1 false (.t 21)⟩,
    ⟨some 23, some (18, true), .lenV (.t 22)⟩,
    ⟨some 24, some (18, true), .bin .lss (.t 23) (.c (.int .i64 350))⟩,
    ⟨some 25, none, .pick (.t 18) (.t 24) (.c (.bool false))⟩] [0, 1, 2, 6, 25])
   (.cond (.t 25) (.skip) (.exit 0)))
   (.seq (.block 1 (.region [⟨some 28, none, .mov (.t 0)⟩,
    ⟨some 29, none, .mov (.t 2)⟩,
    ⟨some 30, none, .call 59 [.t 28, .t 29]⟩] [0, 1, 2, 6]))
   (.region [⟨some 26, none, .mov (.t 6)⟩,
    ⟨some 27, none, .bin .add (.t 26) (.c (.int .i64 1))⟩,
    ⟨some 6, none, .mov (.t 27)⟩] [0, 1, 2, 6]))))),
  [], 31, 3⟩
def A49 : Ann := ⟨[(0, [0, 1, 2, 6]), (1, [0, 1, 2, 6, 25]), (2, [0, 1, 2, 6]), (3, [0, 1, 2, 6])], []⟩
set_option maxRecDepth 100000 in
theorem F49.ok : compF Try.prog A49 Try.f49 = some F49 := by kernel_rfl
theorem F49.fok : FOk Try.prog 49 F49 := fok_of mixed Try.func49 F49.ok
end Go.Dx.SYtfhdeagbgdnkaaa
