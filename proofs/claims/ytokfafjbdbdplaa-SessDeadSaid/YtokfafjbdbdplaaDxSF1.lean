/- The readings of functions, printed by a program of the prover's own. -/
import Derived.Test.YtokfafjbdbdplaaDx19
import Derived.Test.YtokfafjbdbdplaaChecked
import Derived.Eval
import Derived.Test.YtokfafjbdbdplaaDxSF0
namespace Go.Dx.SYtokfafjbdbdplaa
open Go.Proofs
set_option linter.unusedVariables false
/-- cloakroom/leb.read -/
def F178 : SFn := ⟨.seq (.region [⟨some 6, none, .mov (.c (.int .u64 0))⟩,
    ⟨some 7, none, .mov (.c (.int .i64 0))⟩,
    ⟨some 8, none, .mov (.c (.int .i64 0))⟩] [0, 1, 2, 6, 7])
   (.seq (.region [⟨some 9, none, .mov (.c (.int .i64 0))⟩] [0, 1, 2, 6, 7, 9])
   (.block 0 (.loop (.seq (.block 1 (.seq (.seq (.region [⟨some 14, none, .mov (.t 7)⟩,
    ⟨some 15, none, .mov (.t 0)⟩,
    ⟨some 16, none, .lenV (.t 15)⟩,
    ⟨some 17, none, .bin .eql (.t 14) (.t 16)⟩] [0, 1, 2, 6, 7, 9, 17])
   (.cond (.t 17) (.seq (.region [⟨some 6, none, .mov (.c (.int .u64 0))⟩,
    ⟨some 7, none, .mov (.c (.int .i64 0))⟩,
    ⟨some 8, none, .mov (.c (.int .i64 3))⟩] [6, 7, 8])
   (.ret)) (.skip)))
   (.seq (.region [⟨some 18, none, .mov (.t 0)⟩,
    ⟨some 19, none, .mov (.t 7)⟩,
    ⟨some 20, none, .iaV 1 (.t 18) (.t 19)⟩,
    ⟨some 21, none, .ld 1 false (.t 20)⟩,
    ⟨some 10, none, .mov (.t 21)⟩] [0, 1, 2, 6, 7, 9, 10])
   (.seq (.region [⟨some 22, none, .mov (.t 7)⟩,
    ⟨some 23, none, .bin .add (.t 22) (.c (.int .i64 1))⟩,
    ⟨some 7, none, .mov (.t 23)⟩] [0, 1, 2, 6, 7, 9, 10])
   (.seq (.seq (.region [⟨some 24, none, .mov (.t 1)⟩,
    ⟨some 25, none, .mov (.t 9)⟩,
    ⟨some 26, none, .bin .sub (.t 24) (.t 25)⟩,
    ⟨some 11, none, .mov (.t 26)⟩] [0, 1, 2, 6, 7, 9, 10, 11])
   (.seq (.region [⟨some 27, none, .mov (.t 11)⟩,
    ⟨some 28, none, .bin .leq (.t 27) (.c (.int .i64 7))⟩,
    ⟨some 29, none, .mov (.t 28)⟩,
    ⟨some 30, some (29, true), .mov (.t 10)⟩,
    ⟨some 31, some (29, true), .mov (.t 11)⟩,
    ⟨some 32, some (29, true), .mov (.t 2)⟩,
    ⟨some 33, some (29, true), .call 180 [.t 30, .t 31, .t 32]⟩,
    ⟨some 34, some (29, true), .un .not (.t 33)⟩,
    ⟨some 35, none, .pick (.t 29) (.t 34) (.c (.bool false))⟩] [0, 1, 2, 6, 7, 9, 10, 35])
   (.cond (.t 35) (.seq (.region [⟨some 6, none, .mov (.c (.int .u64 0))⟩,
    ⟨some 7, none, .mov (.c (.int .i64 0))⟩,
    ⟨some 8, none, .mov (.c (.int .i64 2))⟩] [6, 7, 8])
   (.ret)) (.skip))))
   (.seq (.region [⟨some 36, none, .mov (.t 6)⟩,
    ⟨some 37, none, .mov (.t 10)⟩,
    ⟨some 38, none, .bin .and (.t 37) (.c (.int .u8 127))⟩,
    ⟨some 39, none, .conv .u64 (.t 38)⟩,
    ⟨some 40, none, .mov (.t 9)⟩,
    ⟨some 41, none, .bin .shl (.t 39) (.t 40)⟩,
    ⟨some 42, none, .bin .or (.t 36) (.t 41)⟩,
    ⟨some 6, none, .mov (.t 42)⟩] [0, 1, 2, 6, 7, 9, 10])
   (.seq (.seq (.region [⟨some 43, none, .mov (.t 10)⟩,
    ⟨some 44, none, .bin .and (.t 43) (.c (.int .u8 128))⟩,
    ⟨some 45, none, .bin .neq (.t 44) (.c (.int .u8 0))⟩] [0, 1, 2, 6, 7, 9, 10, 45])
   (.cond (.t 45) (.exit 1) (.skip)))
   (.seq (.seq (.region [⟨some 46, none, .mov (.t 2)⟩,
    ⟨some 47, none, .mov (.t 46)⟩,
    ⟨some 48, some (47, true), .mov (.t 10)⟩,
    ⟨some 49, some (47, true), .bin .and (.t 48) (.c (.int .u8 64))⟩,
    ⟨some 50, some (47, true), .bin .neq (.t 49) (.c (.int .u8 0))⟩,
    ⟨some 51, none, .pick (.t 47) (.t 50) (.c (.bool false))⟩,
    ⟨some 52, none, .mov (.t 51)⟩,
    ⟨some 53, some (52, true), .mov (.t 9)⟩,
    ⟨some 54, some (52, true), .bin .add (.t 53) (.c (.int .i64 7))⟩,
    ⟨some 55, some (52, true), .bin .lss (.t 54) (.c (.int .i64 64))⟩,
    ⟨some 56, none, .pick (.t 52) (.t 55) (.c (.bool false))⟩] [6, 7, 9, 56])
   (.cond (.t 56) (.region [⟨some 57, none, .mov (.t 6)⟩,
    ⟨some 58, none, .mov (.t 9)⟩,
    ⟨some 59, none, .bin .add (.t 58) (.c (.int .i64 7))⟩,
    ⟨some 60, none, .bin .shl (.c (.int .u64 18446744073709551615)) (.t 59)⟩,
    ⟨some 61, none, .bin .or (.t 57) (.t 60)⟩,
    ⟨some 6, none, .mov (.t 61)⟩] [6, 7]) (.skip)))
   (.seq (.region [⟨some 62, none, .mov (.t 6)⟩,
    ⟨some 63, none, .mov (.t 7)⟩,
    ⟨some 6, none, .mov (.t 62)⟩,
    ⟨some 7, none, .mov (.t 63)⟩,
    ⟨some 8, none, .mov (.c (.int .i64 0))⟩] [6, 7, 8])
   (.ret))))))))))
   (.region [⟨some 12, none, .mov (.t 9)⟩,
    ⟨some 13, none, .bin .add (.t 12) (.c (.int .i64 7))⟩,
    ⟨some 9, none, .mov (.t 13)⟩] [0, 1, 2, 6, 7, 9]))))),
  [.t 6, .t 7, .t 8], 64, 3⟩
def A178 : Ann := ⟨[(0, [0, 1, 2, 6, 7]), (1, [0, 1, 2, 6, 7, 9]), (2, [0, 1, 2, 6, 7, 9]), (3, [0, 1, 2, 6, 7, 9, 17]), (4, [6, 7, 8]), (5, [0, 1, 2, 6, 7, 9, 10]), (6, [0, 1, 2, 6, 7, 9, 10]), (7, [0, 1, 2, 6, 7, 9, 10, 11]), (8, [0, 1, 2, 6, 7, 9, 10, 35]), (9, [6, 7, 8]), (10, [0, 1, 2, 6, 7, 9, 10]), (11, [0, 1, 2, 6, 7, 9, 10, 45]), (12, [6, 7, 9, 56]), (13, [6, 7]), (14, [6, 7, 8])], []⟩
set_option maxRecDepth 100000 in
theorem F178.ok : compF Try.prog A178 Try.f178 = some F178 := by kernel_rfl
theorem F178.fok : FOk Try.prog 178 F178 := fok_of mixed Try.func178 F178.ok

/-- cloakroom/leb.U32 -/
def F179 : SFn := ⟨.seq (.region [⟨some 2, none, .mov (.c (.int .u32 0))⟩,
    ⟨some 3, none, .mov (.c (.int .i64 0))⟩,
    ⟨some 4, none, .mov (.c (.int .i64 0))⟩] [0])
   (.seq (.region [⟨some 7, none, .mov (.t 0)⟩,
    ⟨some 8, none, .call 178 [.t 7, .c (.int .i64 32), .c (.bool false)]⟩,
    ⟨some 6, none, .mov (.t 8)⟩,
    ⟨some 9, none, .ext (.t 6) 0⟩,
    ⟨some 10, none, .ext (.t 6) 1⟩,
    ⟨some 11, none, .ext (.t 6) 2⟩,
    ⟨some 5, none, .mov (.t 9)⟩,
    ⟨some 3, none, .mov (.t 10)⟩,
    ⟨some 4, none, .mov (.t 11)⟩] [3, 4, 5])
   (.seq (.region [⟨some 12, none, .mov (.t 5)⟩,
    ⟨some 13, none, .conv .u32 (.t 12)⟩,
    ⟨some 14, none, .mov (.t 3)⟩,
    ⟨some 15, none, .mov (.t 4)⟩,
    ⟨some 2, none, .mov (.t 13)⟩,
    ⟨some 3, none, .mov (.t 14)⟩,
    ⟨some 4, none, .mov (.t 15)⟩] [2, 3, 4])
   (.ret))),
  [.t 2, .t 3, .t 4], 16, 1⟩
def A179 : Ann := ⟨[(0, [0]), (1, [3, 4, 5]), (2, [2, 3, 4])], []⟩
set_option maxRecDepth 100000 in
theorem F179.ok : compF Try.prog A179 Try.f179 = some F179 := by kernel_rfl
theorem F179.fok : FOk Try.prog 179 F179 := fok_of mixed Try.func179 F179.ok

/-- cloakroom/leb.last -/
def F180 : SFn := ⟨.seq (.region [⟨some 6, none, .mov (.c (.bool false))⟩] [0, 1, 2])
   (.seq (.seq (.region [⟨some 8, none, .mov (.t 0)⟩,
    ⟨some 9, none, .bin .and (.t 8) (.c (.int .u8 128))⟩,
    ⟨some 10, none, .bin .neq (.t 9) (.c (.int .u8 0))⟩] [0, 1, 2, 10])
   (.cond (.t 10) (.seq (.region [⟨some 6, none, .mov (.c (.bool false))⟩] [6])
   (.ret)) (.skip)))
   (.seq (.seq (.region [⟨some 11, none, .mov (.t 2)⟩,
    ⟨some 12, none, .un .not (.t 11)⟩] [0, 1, 12])
   (.cond (.t 12) (.seq (.region [⟨some 13, none, .mov (.t 0)⟩,
    ⟨some 14, none, .mov (.t 1)⟩,
    ⟨some 15, none, .bin .shr (.t 13) (.t 14)⟩,
    ⟨some 16, none, .bin .eql (.t 15) (.c (.int .u8 0))⟩,
    ⟨some 6, none, .mov (.t 16)⟩] [6])
   (.ret)) (.skip)))
   (.seq (.region [⟨some 17, none, .mov (.t 0)⟩,
    ⟨some 18, none, .mov (.t 1)⟩,
    ⟨some 19, none, .bin .sub (.t 18) (.c (.int .i64 1))⟩,
    ⟨some 20, none, .bin .shr (.t 17) (.t 19)⟩,
    ⟨some 7, none, .mov (.t 20)⟩] [1, 7])
   (.seq (.region [⟨some 21, none, .mov (.t 7)⟩,
    ⟨some 22, none, .bin .eql (.t 21) (.c (.int .u8 0))⟩,
    ⟨some 23, none, .mov (.t 22)⟩,
    ⟨some 24, some (23, false), .mov (.t 7)⟩,
    ⟨some 25, some (23, false), .mov (.t 1)⟩,
    ⟨some 26, some (23, false), .bin .sub (.t 25) (.c (.int .i64 1))⟩,
    ⟨some 27, some (23, false), .bin .shr (.c (.int .u8 127)) (.t 26)⟩,
    ⟨some 28, some (23, false), .bin .eql (.t 24) (.t 27)⟩,
    ⟨some 29, none, .pick (.t 23) (.c (.bool true)) (.t 28)⟩,
    ⟨some 6, none, .mov (.t 29)⟩] [6])
   (.ret))))),
  [.t 6], 30, 3⟩
def A180 : Ann := ⟨[(0, [0, 1, 2]), (1, [0, 1, 2, 10]), (2, [6]), (3, [0, 1, 12]), (4, [6]), (5, [1, 7]), (6, [6])], []⟩
set_option maxRecDepth 100000 in
theorem F180.ok : compF Try.prog A180 Try.f180 = some F180 := by kernel_rfl
theorem F180.fok : FOk Try.prog 180 F180 := fok_of mixed Try.func180 F180.ok
end Go.Dx.SYtokfafjbdbdplaa
