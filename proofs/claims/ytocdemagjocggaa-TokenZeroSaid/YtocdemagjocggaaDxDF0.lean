/- The readings of functions, printed by a program of the prover's own. -/
import Derived.Test.YtocdemagjocggaaDx19
import Derived.Test.YtocdemagjocggaaChecked
import Derived.Eval
namespace Go.Dx.SYtocdemagjocggaa
open Go.Proofs
set_option linter.unusedVariables false
theorem mixed : Try.prog.follows .mixedOrders = true := Try.checked.mixed
/-- cloakroom/cloakroomlaw24.TokenZero -/
def F13 : SFn := ⟨.seq (.region [⟨some 2, none, .mov (.c (.bool false))⟩] [0])
   (.seq (.seq (.region [⟨some 10, none, .call 36 []⟩,
    ⟨some 11, none, .un .not (.t 10)⟩] [0, 11])
   (.cond (.t 11) (.seq (.region [⟨some 2, none, .mov (.c (.bool false))⟩] [2])
   (.ret)) (.skip)))
   (.seq (.region [⟨some 12, none, .call 37 []⟩,
    ⟨some 3, none, .mov (.t 12)⟩] [0, 3])
   (.seq (.region [⟨some 13, none, .mov (.t 3)⟩,
    ⟨some 14, none, .mov (.t 0)⟩,
    ⟨some 15, none, .call 41 [.t 14]⟩,
    ⟨some 16, none, .call 38 [.t 13, .c (.int .u64 0), .t 15]⟩,
    ⟨some 4, none, .mov (.t 16)⟩] [0, 3, 4])
   (.seq (.region [⟨some 17, none, .mov (.t 3)⟩,
    ⟨some 18, none, .mov (.t 0)⟩,
    ⟨some 19, none, .call 41 [.t 18]⟩,
    ⟨some 20, none, .call 38 [.t 17, .c (.int .u64 0), .t 19]⟩,
    ⟨some 5, none, .mov (.t 20)⟩] [0, 3, 4, 5])
   (.seq (.region [⟨some 22, none, .mov (.t 3)⟩,
    ⟨some 23, none, .mov (.t 0)⟩,
    ⟨some 24, none, .call 41 [.t 23]⟩,
    ⟨some 25, none, .call 39 [.t 22, .c (.int .u64 0), .t 24]⟩,
    ⟨some 21, none, .mov (.t 25)⟩,
    ⟨some 26, none, .ext (.t 21) 0⟩,
    ⟨some 27, none, .ext (.t 21) 1⟩,
    ⟨some 28, none, .ext (.t 21) 2⟩,
    ⟨some 29, none, .ext (.t 21) 3⟩,
    ⟨some 8, none, .new [.int .u64 0, .int .i64 0, .int .u64 0, .slice none 0 0]⟩,
    ⟨some 6, none, .mov (.t 26)⟩,
    ⟨some 7, none, .mov (.t 27)⟩,
    ⟨none, none, .st 4 (.t 8) (.t 28)⟩,
    ⟨some 9, none, .mov (.t 29)⟩] [3, 4, 5, 6, 7, 9])
   (.seq (.region [⟨some 30, none, .mov (.t 4)⟩,
    ⟨some 31, none, .bin .eql (.t 30) (.c (.int .i64 0))⟩,
    ⟨some 32, none, .mov (.t 31)⟩,
    ⟨some 33, some (32, true), .mov (.t 5)⟩,
    ⟨some 34, some (32, true), .bin .eql (.t 33) (.c (.int .i64 0))⟩,
    ⟨some 35, none, .pick (.t 32) (.t 34) (.c (.bool false))⟩,
    ⟨some 36, none, .mov (.t 35)⟩,
    ⟨some 37, some (36, true), .mov (.t 6)⟩,
    ⟨some 38, some (36, true), .un .not (.t 37)⟩,
    ⟨some 39, none, .pick (.t 36) (.t 38) (.c (.bool false))⟩,
    ⟨some 40, none, .mov (.t 39)⟩,
    ⟨some 41, some (40, true), .mov (.t 7)⟩,
    ⟨some 42, some (40, true), .un .not (.t 41)⟩,
    ⟨some 43, none, .pick (.t 40) (.t 42) (.c (.bool false))⟩,
    ⟨some 44, none, .mov (.t 43)⟩,
    ⟨some 45, some (44, true), .mov (.t 9)⟩,
    ⟨some 46, some (44, true), .bin .eql (.t 45) (.c (.int .i64 0))⟩,
    ⟨some 47, none, .pick (.t 44) (.t 46) (.c (.bool false))⟩,
    ⟨some 48, none, .mov (.t 47)⟩,
    ⟨some 49, some (48, true), .mov (.t 3)⟩,
    ⟨some 50, some (48, true), .build [.int .u64 0, .int .i64 0, .int .u64 0, .slice none 0 0] []⟩,
    ⟨some 51, some (48, true), .call 40 [.t 49, .c (.int .u64 0), .t 50]⟩,
    ⟨some 52, some (48, true), .bin .eql (.t 51) (.c (.int .i64 1))⟩,
    ⟨some 53, none, .pick (.t 48) (.t 52) (.c (.bool false))⟩,
    ⟨some 54, none, .mov (.t 53)⟩,
    ⟨some 55, some (54, true), .mov (.t 3)⟩,
    ⟨some 56, some (54, true), .build [.int .u64 0, .int .i64 0, .int .u64 0, .slice none 0 0] []⟩,
    ⟨some 57, some (54, true), .call 40 [.t 55, .c (.int .u64 5), .t 56]⟩,
    ⟨some 58, some (54, true), .bin .eql (.t 57) (.c (.int .i64 1))⟩,
    ⟨some 59, none, .pick (.t 54) (.t 58) (.c (.bool false))⟩,
    ⟨some 60, none, .mov (.t 59)⟩,
    ⟨some 61, some (60, true), .mov (.t 3)⟩,
    ⟨some 62, some (60, true), .call 42 [.t 61]⟩,
    ⟨some 63, some (60, true), .lenV (.t 62)⟩,
    ⟨some 64, some (60, true), .bin .eql (.t 63) (.c (.int .i64 0))⟩,
    ⟨some 65, none, .pick (.t 60) (.t 64) (.c (.bool false))⟩,
    ⟨some 2, none, .mov (.t 65)⟩] [2])
   (.ret))))))),
  [.t 2], 66, 1⟩
def A13 : Ann := ⟨[(0, [0]), (1, [0, 11]), (2, [2]), (3, [0, 3]), (4, [0, 3, 4]), (5, [0, 3, 4, 5]), (6, [3, 4, 5, 6, 7, 9]), (7, [2])], []⟩
set_option maxRecDepth 100000 in
theorem F13.ok : compF Try.prog A13 Try.f13 = some F13 := by kernel_rfl
theorem F13.fok : FOk Try.prog 13 F13 := fok_of mixed Try.func13 F13.ok

/-- cloakroom/cloakroomlaw24.begun -/
def F36 : SFn := ⟨.seq (.region [⟨some 0, none, .mov (.c (.bool false))⟩] [])
   (.seq (.region [⟨some 13, none, .call 37 []⟩,
    ⟨some 1, none, .mov (.t 13)⟩] [1])
   (.seq (.seq (.region [⟨some 14, none, .mov (.t 1)⟩,
    ⟨some 15, none, .eqk false .ptr (.t 14) (.c (.pointer none))⟩] [1, 15])
   (.cond (.t 15) (.seq (.region [⟨some 0, none, .mov (.c (.bool false))⟩] [0])
   (.ret)) (.skip)))
   (.seq (.region [⟨some 16, none, .build [.int .i64 0, .int .u64 0, .int .u64 0, .string ByteArray.empty, .slice none 0 0, .slice none 0 0, .int .u64 0, .int .u64 0] [(0, 1, .c (.int .i64 5)), (1, 1, .c (.int .u64 3))]⟩,
    ⟨some 2, none, .new [.int .i64 0, .int .u64 0, .int .u64 0, .string ByteArray.empty, .slice none 0 0, .slice none 0 0, .int .u64 0, .int .u64 0]⟩,
    ⟨none, none, .st 8 (.t 2) (.t 16)⟩] [1, 2])
   (.seq (.region [⟨some 17, none, .mov (.t 1)⟩,
    ⟨some 18, none, .ld 8 true (.t 2)⟩,
    ⟨some 19, none, .call 38 [.t 17, .c (.int .u64 3), .t 18]⟩,
    ⟨some 3, none, .mov (.t 19)⟩] [1, 2, 3])
   (.seq (.region [⟨some 21, none, .mov (.t 1)⟩,
    ⟨some 22, none, .ld 8 true (.t 2)⟩,
    ⟨some 23, none, .call 39 [.t 21, .c (.int .u64 3), .t 22]⟩,
    ⟨some 20, none, .mov (.t 23)⟩,
    ⟨some 24, none, .ext (.t 20) 0⟩,
    ⟨some 25, none, .ext (.t 20) 1⟩,
    ⟨some 26, none, .ext (.t 20) 2⟩,
    ⟨some 27, none, .ext (.t 20) 3⟩,
    ⟨some 6, none, .new [.int .u64 0, .int .i64 0, .int .u64 0, .slice none 0 0]⟩,
    ⟨some 4, none, .mov (.t 24)⟩,
    ⟨some 5, none, .mov (.t 25)⟩,
    ⟨none, none, .st 4 (.t 6) (.t 26)⟩,
    ⟨some 7, none, .mov (.t 27)⟩] [1, 2, 3, 4, 5, 7])
   (.seq (.region [⟨some 28, none, .mov (.t 1)⟩,
    ⟨some 29, none, .build [.int .u64 0, .int .i64 0, .int .u64 0, .slice none 0 0] [(2, 1, .c (.int .u64 9))]⟩,
    ⟨some 30, none, .call 40 [.t 28, .c (.int .u64 3), .t 29]⟩,
    ⟨some 8, none, .mov (.t 30)⟩] [1, 2, 3, 4, 5, 7, 8])
   (.seq (.region [⟨some 32, none, .mov (.t 1)⟩,
    ⟨some 33, none, .ld 8 true (.t 2)⟩,
    ⟨some 34, none, .call 39 [.t 32, .c (.int .u64 3), .t 33]⟩,
    ⟨some 31, none, .mov (.t 34)⟩,
    ⟨some 35, none, .ext (.t 31) 0⟩,
    ⟨some 36, none, .ext (.t 31) 1⟩,
    ⟨some 37, none, .ext (.t 31) 2⟩,
    ⟨some 38, none, .ext (.t 31) 3⟩,
    ⟨some 11, none, .new [.int .u64 0, .int .i64 0, .int .u64 0, .slice none 0 0]⟩,
    ⟨some 9, none, .mov (.t 35)⟩,
    ⟨some 10, none, .mov (.t 36)⟩,
    ⟨none, none, .st 4 (.t 11) (.t 37)⟩,
    ⟨some 12, none, .mov (.t 38)⟩] [1, 3, 4, 5, 7, 8, 10, 11])
   (.seq (.region [⟨some 39, none, .mov (.t 3)⟩,
    ⟨some 40, none, .bin .eql (.t 39) (.c (.int .i64 0))⟩,
    ⟨some 41, none, .mov (.t 40)⟩,
    ⟨some 42, some (41, true), .mov (.t 4)⟩,
    ⟨some 43, none, .pick (.t 41) (.t 42) (.c (.bool false))⟩,
    ⟨some 44, none, .mov (.t 43)⟩,
    ⟨some 45, some (44, true), .mov (.t 5)⟩,
    ⟨some 46, some (44, true), .un .not (.t 45)⟩,
    ⟨some 47, none, .pick (.t 44) (.t 46) (.c (.bool false))⟩,
    ⟨some 48, none, .mov (.t 47)⟩,
    ⟨some 49, some (48, true), .mov (.t 7)⟩,
    ⟨some 50, some (48, true), .bin .eql (.t 49) (.c (.int .i64 0))⟩,
    ⟨some 51, none, .pick (.t 48) (.t 50) (.c (.bool false))⟩,
    ⟨some 52, none, .mov (.t 51)⟩,
    ⟨some 53, some (52, true), .mov (.t 8)⟩,
    ⟨some 54, some (52, true), .bin .eql (.t 53) (.c (.int .i64 2))⟩,
    ⟨some 55, none, .pick (.t 52) (.t 54) (.c (.bool false))⟩,
    ⟨some 56, none, .mov (.t 55)⟩,
    ⟨some 57, some (56, true), .mov (.t 10)⟩,
    ⟨some 58, none, .pick (.t 56) (.t 57) (.c (.bool false))⟩,
    ⟨some 59, none, .mov (.t 58)⟩,
    ⟨some 60, some (59, true), .fa 2 (.t 11)⟩,
    ⟨some 61, some (59, true), .ld 1 false (.t 60)⟩,
    ⟨some 62, some (59, true), .bin .eql (.t 61) (.c (.int .u64 9))⟩,
    ⟨some 63, none, .pick (.t 59) (.t 62) (.c (.bool false))⟩,
    ⟨some 64, none, .mov (.t 63)⟩,
    ⟨some 65, some (64, true), .mov (.t 1)⟩,
    ⟨some 66, some (64, true), .call 42 [.t 65]⟩,
    ⟨some 67, some (64, true), .lenV (.t 66)⟩,
    ⟨some 68, some (64, true), .bin .eql (.t 67) (.c (.int .i64 1))⟩,
    ⟨some 69, none, .pick (.t 64) (.t 68) (.c (.bool false))⟩,
    ⟨some 0, none, .mov (.t 69)⟩] [0])
   (.ret))))))))),
  [.t 0], 70, 0⟩
def A36 : Ann := ⟨[(0, []), (1, [1]), (2, [1, 15]), (3, [0]), (4, [1, 2]), (5, [1, 2, 3]), (6, [1, 2, 3, 4, 5, 7]), (7, [1, 2, 3, 4, 5, 7, 8]), (8, [1, 3, 4, 5, 7, 8, 10, 11]), (9, [0])], []⟩
set_option maxRecDepth 100000 in
theorem F36.ok : compF Try.prog A36 Try.f36 = some F36 := by kernel_rfl
theorem F36.fok : FOk Try.prog 36 F36 := fok_of mixed Try.func36 F36.ok

/-- cloakroom/token.New -/
def F37 : SFn := ⟨.seq (.region [⟨some 0, none, .mov (.c (.pointer none))⟩] [])
   (.seq (.region [⟨some 1, none, .build [.slice none 0 0] []⟩,
    ⟨some 2, none, .box (.t 1)⟩,
    ⟨some 0, none, .mov (.t 2)⟩] [0])
   (.ret)),
  [.t 0], 3, 0⟩
def A37 : Ann := ⟨[(0, []), (1, [0])], []⟩
set_option maxRecDepth 100000 in
theorem F37.ok : compF Try.prog A37 Try.f37 = some F37 := by kernel_rfl
theorem F37.fok : FOk Try.prog 37 F37 := fok_of mixed Try.func37 F37.ok

/-- (*cloakroom/token.Cache).Begin -/
def F38 : SFn := ⟨.seq (.region [⟨some 5, none, .box (.t 2)⟩,
    ⟨some 6, none, .mov (.c (.int .i64 0))⟩] [0, 1, 5])
   (.seq (.block 0 (.seq (.region [⟨some 9, none, .mov (.t 0)⟩,
    ⟨some 10, none, .eqk false .ptr (.t 9) (.c (.pointer none))⟩,
    ⟨some 8, none, .mov (.t 10)⟩] [0, 1, 5, 8])
   (.cond (.t 8) (.seq (.region [⟨some 6, none, .mov (.c (.int .i64 1))⟩] [6])
   (.ret)) (.seq (.region [⟨some 12, none, .mov (.t 1)⟩,
    ⟨some 13, none, .bin .eql (.t 12) (.c (.int .u64 0))⟩,
    ⟨some 11, none, .mov (.t 13)⟩] [0, 1, 5, 11])
   (.cond (.t 11) (.seq (.region [⟨some 6, none, .mov (.c (.int .i64 0))⟩] [6])
   (.ret)) (.seq (.region [⟨some 15, none, .mov (.t 0)⟩,
    ⟨some 16, none, .mov (.t 1)⟩,
    ⟨some 17, none, .call 59 [.t 15, .t 16]⟩,
    ⟨some 18, none, .eqk true .ptr (.t 17) (.c (.pointer none))⟩,
    ⟨some 14, none, .mov (.t 18)⟩] [0, 1, 5, 14])
   (.cond (.t 14) (.seq (.region [⟨some 6, none, .mov (.c (.int .i64 11))⟩] [6])
   (.ret)) (.skip))))))))
   (.seq (.seq (.region [⟨some 19, none, .mov (.t 0)⟩,
    ⟨some 20, none, .nilc (.t 19)⟩,
    ⟨some 21, none, .fa 0 (.t 20)⟩,
    ⟨some 22, none, .ld 1 false (.t 21)⟩,
    ⟨some 23, none, .lenV (.t 22)⟩,
    ⟨some 24, none, .bin .geq (.t 23) (.c (.int .i64 4))⟩] [0, 1, 5, 24])
   (.cond (.t 24) (.seq (.region [⟨some 25, none, .mov (.t 0)⟩,
    ⟨some 26, none, .nilc (.t 25)⟩,
    ⟨some 27, none, .fa 0 (.t 26)⟩,
    ⟨some 28, none, .ld 1 false (.t 27)⟩,
    ⟨some 29, none, .call 60 [.t 28, .c (.func (.func 61) ⟨[]⟩ ⟨[]⟩)]⟩,
    ⟨some 7, none, .mov (.t 29)⟩] [0, 1, 5, 7])
   (.seq (.seq (.region [⟨some 30, none, .mov (.t 7)⟩,
    ⟨some 31, none, .bin .lss (.t 30) (.c (.int .i64 0))⟩] [0, 1, 5, 7, 31])
   (.cond (.t 31) (.seq (.region [⟨some 6, none, .mov (.c (.int .i64 13))⟩] [6])
   (.ret)) (.skip)))
   (.region [⟨some 32, none, .mov (.t 0)⟩,
    ⟨some 33, none, .mov (.t 0)⟩,
    ⟨some 34, none, .nilc (.t 33)⟩,
    ⟨some 35, none, .fa 0 (.t 34)⟩,
    ⟨some 36, none, .ld 1 false (.t 35)⟩,
    ⟨some 37, none, .mov (.t 7)⟩,
    ⟨some 38, none, .mov (.t 7)⟩,
    ⟨some 39, none, .bin .add (.t 38) (.c (.int .i64 1))⟩,
    ⟨some 40, none, .call 62 [.t 36, .t 37, .t 39]⟩,
    ⟨some 41, none, .nilc (.t 32)⟩,
    ⟨some 42, none, .fa 0 (.t 41)⟩,
    ⟨none, none, .st 1 (.t 42) (.t 40)⟩] [0, 1, 5]))) (.skip)))
   (.seq (.region [⟨some 43, none, .mov (.t 0)⟩,
    ⟨some 44, none, .mov (.t 0)⟩,
    ⟨some 45, none, .nilc (.t 44)⟩,
    ⟨some 46, none, .fa 0 (.t 45)⟩,
    ⟨some 47, none, .ld 1 false (.t 46)⟩,
    ⟨some 48, none, .ld 8 true (.t 5)⟩,
    ⟨some 51, none, .mov (.t 1)⟩,
    ⟨some 49, none, .call 63 [.t 48]⟩,
    ⟨none, none, .chk 1 false (.t 46) 47⟩,
    ⟨some 50, none, .build [.int .i64 0, .int .u64 0, .int .u64 0, .string ByteArray.empty, .slice none 0 0, .slice none 0 0, .int .u64 0, .int .u64 0, .int .i64 0] [(0, 8, .t 49), (8, 1, .c (.int .i64 1))]⟩,
    ⟨some 52, none, .build [.int .i64 0, .int .u64 0, .int .u64 0, .string ByteArray.empty, .slice none 0 0, .slice none 0 0, .int .u64 0, .int .u64 0, .int .i64 0, .int .u64 0, .bool false, .int .u64 0, .int .i64 0, .int .u64 0, .slice none 0 0] [(0, 9, .t 50), (9, 1, .t 51)]⟩,
    ⟨some 53, none, .bslice 1 15 [.int .i64 0, .int .u64 0, .int .u64 0, .string ByteArray.empty, .slice none 0 0, .slice none 0 0, .int .u64 0, .int .u64 0, .int .i64 0, .int .u64 0, .bool false, .int .u64 0, .int .i64 0, .int .u64 0, .slice none 0 0] [(0, 15, .t 52)]⟩,
    ⟨some 54, none, .app 15 176 (.t 47) (.t 53)⟩,
    ⟨some 55, none, .nilc (.t 43)⟩,
    ⟨some 56, none, .fa 0 (.t 55)⟩,
    ⟨none, none, .st 1 (.t 56) (.t 54)⟩] [])
   (.seq (.region [⟨some 6, none, .mov (.c (.int .i64 0))⟩] [6])
   (.ret))))),
  [.t 6], 57, 3⟩
def A38 : Ann := ⟨[(0, [0, 1, 5]), (1, [0, 1, 5, 8]), (2, [6]), (3, [0, 1, 5, 11]), (4, [6]), (5, [0, 1, 5, 14]), (6, [6]), (7, [0, 1, 5, 24]), (8, [0, 1, 5, 7]), (9, [0, 1, 5, 7, 31]), (10, [6]), (11, [0, 1, 5]), (12, []), (13, [6])], [(12, [(0, []), (1, []), (2, []), (3, []), (4, []), (5, []), (8, []), (6, [4]), (7, []), (9, []), (10, []), (11, []), (12, []), (13, []), (14, [])], [(2, [1]), (3, [1, 2]), (4, [1, 2, 3]), (6, [5]), (7, [5, 6]), (9, [5, 6, 7, 8]), (10, [5, 6, 7, 8, 9]), (11, [1, 2, 3, 4, 5, 6, 7, 8, 9, 10]), (12, [0, 1, 2, 3, 4, 5, 6, 7, 8, 9, 10, 11]), (13, [0, 1, 2, 3, 4, 5, 6, 7, 8, 9, 10, 11, 12]), (14, [0, 1, 2, 3, 4, 5, 6, 7, 8, 9, 10, 11, 12, 13])])]⟩
set_option maxRecDepth 100000 in
theorem F38.ok : compF Try.prog A38 Try.f38 = some F38 := by kernel_rfl
theorem F38.fok : FOk Try.prog 38 F38 := fok_of mixed Try.func38 F38.ok

/-- (*cloakroom/token.Cache).Ask -/
def F39 : SFn := ⟨.seq (.region [⟨some 5, none, .box (.t 2)⟩,
    ⟨some 6, none, .mov (.c (.bool false))⟩,
    ⟨some 7, none, .mov (.c (.bool false))⟩,
    ⟨some 8, none, .new [.int .u64 0, .int .i64 0, .int .u64 0, .slice none 0 0]⟩,
    ⟨some 9, none, .mov (.c (.int .i64 0))⟩] [0, 1, 5, 8])
   (.seq (.seq (.region [⟨some 11, none, .mov (.t 0)⟩,
    ⟨some 12, none, .eqk false .ptr (.t 11) (.c (.pointer none))⟩] [0, 1, 5, 8, 12])
   (.cond (.t 12) (.seq (.region [⟨some 13, none, .build [.int .u64 0, .int .i64 0, .int .u64 0, .slice none 0 0] []⟩,
    ⟨some 6, none, .mov (.c (.bool false))⟩,
    ⟨some 7, none, .mov (.c (.bool false))⟩,
    ⟨none, none, .st 4 (.t 8) (.t 13)⟩,
    ⟨some 9, none, .mov (.c (.int .i64 1))⟩] [6, 7, 8, 9])
   (.ret)) (.skip)))
   (.seq (.region [⟨some 14, none, .mov (.t 0)⟩,
    ⟨some 15, none, .mov (.t 1)⟩,
    ⟨some 16, none, .call 59 [.t 14, .t 15]⟩,
    ⟨some 10, none, .mov (.t 16)⟩] [1, 5, 8, 10])
   (.seq (.block 0 (.seq (.region [⟨some 18, none, .mov (.t 1)⟩,
    ⟨some 19, none, .bin .eql (.t 18) (.c (.int .u64 0))⟩,
    ⟨some 20, none, .mov (.t 19)⟩,
    ⟨some 21, some (20, false), .mov (.t 10)⟩,
    ⟨some 22, some (20, false), .eqk false .ptr (.t 21) (.c (.pointer none))⟩,
    ⟨some 23, none, .pick (.t 20) (.c (.bool true)) (.t 22)⟩,
    ⟨some 17, none, .mov (.t 23)⟩] [5, 8, 10, 17])
   (.cond (.t 17) (.seq (.region [⟨some 24, none, .build [.int .u64 0, .int .i64 0, .int .u64 0, .slice none 0 0] []⟩,
    ⟨some 6, none, .mov (.c (.bool false))⟩,
    ⟨some 7, none, .mov (.c (.bool false))⟩,
    ⟨none, none, .st 4 (.t 8) (.t 24)⟩,
    ⟨some 9, none, .mov (.c (.int .i64 0))⟩] [6, 7, 8, 9])
   (.ret)) (.seq (.region [⟨some 26, none, .mov (.t 10)⟩,
    ⟨some 27, none, .nilc (.t 26)⟩,
    ⟨some 28, none, .fa 0 (.t 27)⟩,
    ⟨some 29, none, .fa 0 (.t 28)⟩,
    ⟨some 30, none, .ld 8 true (.t 29)⟩,
    ⟨some 31, none, .ld 8 true (.t 5)⟩,
    ⟨some 32, none, .call 64 [.t 30, .t 31]⟩,
    ⟨some 33, none, .un .not (.t 32)⟩,
    ⟨some 25, none, .mov (.t 33)⟩] [8, 10, 25])
   (.cond (.t 25) (.seq (.region [⟨some 34, none, .build [.int .u64 0, .int .i64 0, .int .u64 0, .slice none 0 0] []⟩,
    ⟨some 6, none, .mov (.c (.bool true))⟩,
    ⟨some 7, none, .mov (.c (.bool false))⟩,
    ⟨none, none, .st 4 (.t 8) (.t 34)⟩,
    ⟨some 9, none, .mov (.c (.int .i64 16))⟩] [6, 7, 8, 9])
   (.ret)) (.seq (.region [⟨some 36, none, .mov (.t 10)⟩,
    ⟨some 37, none, .nilc (.t 36)⟩,
    ⟨some 38, none, .fa 10 (.t 37)⟩,
    ⟨some 39, none, .ld 1 false (.t 38)⟩,
    ⟨some 35, none, .mov (.t 39)⟩] [8, 10, 35])
   (.cond (.t 35) (.seq (.region [⟨some 40, none, .mov (.t 10)⟩,
    ⟨some 41, none, .nilc (.t 40)⟩,
    ⟨some 42, none, .fa 11 (.t 41)⟩,
    ⟨some 43, none, .ld 4 true (.t 42)⟩,
    ⟨some 44, none, .call 65 [.t 43]⟩,
    ⟨some 6, none, .mov (.c (.bool true))⟩,
    ⟨some 7, none, .mov (.c (.bool true))⟩,
    ⟨none, none, .st 4 (.t 8) (.t 44)⟩,
    ⟨some 9, none, .mov (.c (.int .i64 0))⟩] [6, 7, 8, 9])
   (.ret)) (.skip))))))))
   (.seq (.region [⟨some 45, none, .mov (.t 10)⟩,
    ⟨some 46, none, .nilc (.t 45)⟩,
    ⟨some 47, none, .fa 0 (.t 46)⟩,
    ⟨some 48, none, .fa 8 (.t 47)⟩,
    ⟨some 49, none, .ld 1 false (.t 48)⟩,
    ⟨some 50, none, .bin .add (.t 49) (.c (.int .i64 1))⟩,
    ⟨some 51, none, .nilc (.t 45)⟩,
    ⟨some 52, none, .fa 0 (.t 51)⟩,
    ⟨some 53, none, .fa 8 (.t 52)⟩,
    ⟨none, none, .st 1 (.t 53) (.t 50)⟩] [8])
   (.seq (.region [⟨some 54, none, .build [.int .u64 0, .int .i64 0, .int .u64 0, .slice none 0 0] []⟩,
    ⟨some 6, none, .mov (.c (.bool true))⟩,
    ⟨some 7, none, .mov (.c (.bool false))⟩,
    ⟨none, none, .st 4 (.t 8) (.t 54)⟩,
    ⟨some 9, none, .mov (.c (.int .i64 0))⟩] [6, 7, 8, 9])
   (.ret)))))),
  [.t 6, .t 7, .c 8 4 true, .t 9], 55, 3⟩
def A39 : Ann := ⟨[(0, [0, 1, 5, 8]), (1, [0, 1, 5, 8, 12]), (2, [6, 7, 8, 9]), (3, [1, 5, 8, 10]), (4, [5, 8, 10, 17]), (5, [6, 7, 8, 9]), (6, [8, 10, 25]), (7, [6, 7, 8, 9]), (8, [8, 10, 35]), (9, [6, 7, 8, 9]), (10, [8]), (11, [6, 7, 8, 9])], [(6, [(0, []), (1, []), (2, []), (3, []), (4, []), (5, []), (6, []), (7, []), (8, [])], [(1, [0]), (2, [0, 1]), (3, [0, 1, 2]), (4, [0, 1, 2, 3]), (6, [0, 1, 2, 3, 4, 5]), (7, [0, 1, 2, 3, 4, 5, 6]), (8, [0, 1, 2, 3, 4, 5, 6, 7])])]⟩
set_option maxRecDepth 100000 in
theorem F39.ok : compF Try.prog A39 Try.f39 = some F39 := by kernel_rfl
theorem F39.fok : FOk Try.prog 39 F39 := fok_of mixed Try.func39 F39.ok

/-- (*cloakroom/token.Cache).End -/
def F40 : SFn := ⟨.seq (.region [⟨some 5, none, .box (.t 2)⟩,
    ⟨some 6, none, .mov (.c (.int .i64 0))⟩] [0, 1, 5])
   (.seq (.seq (.region [⟨some 8, none, .mov (.t 0)⟩,
    ⟨some 9, none, .eqk false .ptr (.t 8) (.c (.pointer none))⟩] [0, 1, 5, 9])
   (.cond (.t 9) (.seq (.region [⟨some 6, none, .mov (.c (.int .i64 0))⟩] [6])
   (.ret)) (.skip)))
   (.seq (.region [⟨some 10, none, .mov (.t 0)⟩,
    ⟨some 11, none, .mov (.t 1)⟩,
    ⟨some 12, none, .call 59 [.t 10, .t 11]⟩,
    ⟨some 7, none, .mov (.t 12)⟩] [1, 5, 7])
   (.seq (.block 0 (.seq (.region [⟨some 14, none, .mov (.t 1)⟩,
    ⟨some 15, none, .bin .eql (.t 14) (.c (.int .u64 0))⟩,
    ⟨some 16, none, .mov (.t 15)⟩,
    ⟨some 17, some (16, false), .mov (.t 7)⟩,
    ⟨some 18, some (16, false), .eqk false .ptr (.t 17) (.c (.pointer none))⟩,
    ⟨some 19, none, .pick (.t 16) (.c (.bool true)) (.t 18)⟩,
    ⟨some 13, none, .mov (.t 19)⟩] [5, 7, 13])
   (.cond (.t 13) (.seq (.region [⟨some 6, none, .mov (.c (.int .i64 1))⟩] [6])
   (.ret)) (.seq (.region [⟨some 21, none, .mov (.t 7)⟩,
    ⟨some 22, none, .nilc (.t 21)⟩,
    ⟨some 23, none, .fa 10 (.t 22)⟩,
    ⟨some 24, none, .ld 1 false (.t 23)⟩,
    ⟨some 20, none, .mov (.t 24)⟩] [5, 7, 20])
   (.cond (.t 20) (.seq (.region [⟨some 6, none, .mov (.c (.int .i64 0))⟩] [6])
   (.ret)) (.skip))))))
   (.seq (.region [⟨some 25, none, .mov (.t 7)⟩,
    ⟨some 26, none, .mov (.t 7)⟩,
    ⟨some 27, none, .ld 4 true (.t 5)⟩,
    ⟨some 28, none, .call 65 [.t 27]⟩,
    ⟨some 29, none, .nilc (.t 25)⟩,
    ⟨some 30, none, .fa 10 (.t 29)⟩,
    ⟨none, none, .st 1 (.t 30) (.c (.bool true))⟩,
    ⟨some 31, none, .nilc (.t 26)⟩,
    ⟨some 32, none, .fa 11 (.t 31)⟩,
    ⟨none, none, .st 4 (.t 32) (.t 28)⟩] [7])
   (.seq (.region [⟨some 33, none, .mov (.t 7)⟩,
    ⟨some 34, none, .nilc (.t 33)⟩,
    ⟨some 35, none, .fa 0 (.t 34)⟩,
    ⟨some 36, none, .fa 8 (.t 35)⟩,
    ⟨some 37, none, .ld 1 false (.t 36)⟩,
    ⟨some 6, none, .mov (.t 37)⟩] [6])
   (.ret)))))),
  [.t 6], 38, 3⟩
def A40 : Ann := ⟨[(0, [0, 1, 5]), (1, [0, 1, 5, 9]), (2, [6]), (3, [1, 5, 7]), (4, [5, 7, 13]), (5, [6]), (6, [5, 7, 20]), (7, [6]), (8, [7]), (9, [6])], []⟩
set_option maxRecDepth 100000 in
theorem F40.ok : compF Try.prog A40 Try.f40 = some F40 := by kernel_rfl
theorem F40.fok : FOk Try.prog 40 F40 := fok_of mixed Try.func40 F40.ok

/-- cloakroom/cloakroomlaw24.request -/
def F41 : SFn := ⟨.seq (.region [⟨some 2, none, .new [.int .i64 0, .int .u64 0, .int .u64 0, .string ByteArray.empty, .slice none 0 0, .slice none 0 0, .int .u64 0, .int .u64 0]⟩] [0, 2])
   (.seq (.region [⟨some 3, none, .mov (.t 0)⟩,
    ⟨some 4, none, .bin .rem (.t 3) (.c (.int .u8 3))⟩,
    ⟨some 5, none, .conv .i64 (.t 4)⟩,
    ⟨some 6, none, .bin .add (.c (.int .i64 1)) (.t 5)⟩,
    ⟨some 7, none, .mov (.t 0)⟩,
    ⟨some 8, none, .bin .rem (.t 7) (.c (.int .u8 2))⟩,
    ⟨some 9, none, .conv .u64 (.t 8)⟩,
    ⟨some 10, none, .build [.int .i64 0, .int .u64 0, .int .u64 0, .string ByteArray.empty, .slice none 0 0, .slice none 0 0, .int .u64 0, .int .u64 0] [(0, 1, .t 6), (2, 1, .t 9)]⟩,
    ⟨none, none, .st 8 (.t 2) (.t 10)⟩] [2])
   (.ret)),
  [.c 2 8 true], 11, 1⟩
def A41 : Ann := ⟨[(0, [0, 2]), (1, [2])], []⟩
set_option maxRecDepth 100000 in
theorem F41.ok : compF Try.prog A41 Try.f41 = some F41 := by kernel_rfl
theorem F41.fok : FOk Try.prog 41 F41 := fok_of mixed Try.func41 F41.ok

/-- (*cloakroom/token.Cache).Tokens -/
def F42 : SFn := ⟨.seq (.region [⟨some 2, none, .mov (.c (.slice none 0 0))⟩] [0])
   (.seq (.seq (.region [⟨some 6, none, .mov (.t 0)⟩,
    ⟨some 7, none, .eqk false .ptr (.t 6) (.c (.pointer none))⟩] [0, 7])
   (.cond (.t 7) (.seq (.region [⟨some 2, none, .mov (.c (.slice none 0 0))⟩] [2])
   (.ret)) (.skip)))
   (.seq (.region [⟨some 3, none, .mov (.c (.slice none 0 0))⟩] [0, 3])
   (.seq (.seq (.region [⟨some 8, none, .mov (.t 0)⟩,
    ⟨some 9, none, .nilc (.t 8)⟩,
    ⟨some 10, none, .fa 0 (.t 9)⟩,
    ⟨some 11, none, .ld 1 false (.t 10)⟩,
    ⟨some 12, none, .lenV (.t 11)⟩,
    ⟨some 13, none, .mov (.c (.int .i64 0))⟩] [3, 11, 12, 13])
   (.block 0 (.loop (.seq (.region [⟨some 14, none, .bin .lss (.t 13) (.t 12)⟩] [3, 11, 12, 13, 14])
   (.seq (.cond (.t 14) (.skip) (.exit 0))
   (.seq (.block 1 (.seq (.region [⟨some 15, none, .iaV 15 (.t 11) (.t 13)⟩,
    ⟨some 16, none, .ld 15 true (.t 15)⟩,
    ⟨some 5, none, .new [.int .i64 0, .int .u64 0, .int .u64 0, .string ByteArray.empty, .slice none 0 0, .slice none 0 0, .int .u64 0, .int .u64 0, .int .i64 0, .int .u64 0, .bool false, .int .u64 0, .int .i64 0, .int .u64 0, .slice none 0 0]⟩,
    ⟨none, none, .st 15 (.t 5) (.t 16)⟩] [3, 5, 11, 12, 13])
   (.region [⟨some 17, none, .mov (.t 3)⟩,
    ⟨some 18, none, .fa 9 (.t 5)⟩,
    ⟨some 19, none, .ld 1 false (.t 18)⟩,
    ⟨some 20, none, .bslice 1 1 [.int .u64 0] [(0, 1, .t 19)]⟩,
    ⟨some 21, none, .app 1 8 (.t 17) (.t 20)⟩,
    ⟨some 3, none, .mov (.t 21)⟩] [3, 11, 12, 13])))
   (.region [⟨some 22, none, .bin .add (.t 13) (.c (.int .i64 1))⟩,
    ⟨some 13, none, .mov (.t 22)⟩] [3, 11, 12, 13])))))))
   (.seq (.region [⟨some 23, none, .mov (.t 3)⟩,
    ⟨some 2, none, .mov (.t 23)⟩] [2])
   (.ret))))),
  [.t 2], 24, 1⟩
def A42 : Ann := ⟨[(0, [0]), (1, [0, 7]), (2, [2]), (3, [0, 3]), (4, [3, 11, 12, 13]), (5, [3, 11, 12, 13, 14]), (6, [3, 5, 11, 12, 13]), (7, [3, 11, 12, 13]), (8, [3, 11, 12, 13]), (9, [2])], []⟩
set_option maxRecDepth 100000 in
theorem F42.ok : compF Try.prog A42 Try.f42 = some F42 := by kernel_rfl
theorem F42.fok : FOk Try.prog 42 F42 := fok_of mixed Try.func42 F42.ok

/-- slices.Clone[[]uint64,uint64] -/
def F56 : SFn := ⟨.seq (.region [⟨some 2, none, .mov (.c (.slice none 0 0))⟩] [0])
   (.seq (.seq (.region [⟨some 3, none, .mov (.t 0)⟩,
    ⟨some 4, none, .eqk false .slice (.t 3) (.c (.slice none 0 0))⟩] [0, 4])
   (.cond (.t 4) (.seq (.region [⟨some 2, none, .mov (.c (.slice none 0 0))⟩] [2])
   (.ret)) (.skip)))
   (.seq (.region [⟨some 5, none, .bslice 0 1 [.int .u64 0] []⟩,
    ⟨some 6, none, .mov (.t 0)⟩,
    ⟨some 7, none, .app 1 8 (.t 5) (.t 6)⟩,
    ⟨some 2, none, .mov (.t 7)⟩] [2])
   (.ret))),
  [.t 2], 8, 1⟩
def A56 : Ann := ⟨[(0, [0]), (1, [0, 4]), (2, [2]), (3, [2])], []⟩
set_option maxRecDepth 100000 in
theorem F56.ok : compF Try.prog A56 Try.f56 = some F56 := by kernel_rfl
theorem F56.fok : FOk Try.prog 56 F56 := fok_of mixed Try.func56 F56.ok

/-- slices.Clone[[]byte,byte] -/
def F57 : SFn := ⟨.seq (.region [⟨some 2, none, .mov (.c (.slice none 0 0))⟩] [0])
   (.seq (.seq (.region [⟨some 3, none, .mov (.t 0)⟩,
    ⟨some 4, none, .eqk false .slice (.t 3) (.c (.slice none 0 0))⟩] [0, 4])
   (.cond (.t 4) (.seq (.region [⟨some 2, none, .mov (.c (.slice none 0 0))⟩] [2])
   (.ret)) (.skip)))
   (.seq (.region [⟨some 5, none, .bslice 0 1 [.int .u8 0] []⟩,
    ⟨some 6, none, .mov (.t 0)⟩,
    ⟨some 7, none, .app 1 1 (.t 5) (.t 6)⟩,
    ⟨some 2, none, .mov (.t 7)⟩] [2])
   (.ret))),
  [.t 2], 8, 1⟩
def A57 : Ann := ⟨[(0, [0]), (1, [0, 4]), (2, [2]), (3, [2])], []⟩
set_option maxRecDepth 100000 in
theorem F57.ok : compF Try.prog A57 Try.f57 = some F57 := by kernel_rfl
theorem F57.fok : FOk Try.prog 57 F57 := fok_of mixed Try.func57 F57.ok

/-- (*cloakroom/token.Cache).find -/
def F59 : SFn := ⟨.seq (.region [⟨some 4, none, .mov (.c (.pointer none))⟩] [0, 1])
   (.seq (.seq (.region [⟨some 6, none, .mov (.t 0)⟩,
    ⟨some 7, none, .nilc (.t 6)⟩,
    ⟨some 8, none, .fa 0 (.t 7)⟩,
    ⟨some 9, none, .ld 1 false (.t 8)⟩,
    ⟨some 10, none, .lenV (.t 9)⟩,
    ⟨some 11, none, .mov (.c (.int .i64 0))⟩] [0, 1, 10, 11])
   (.block 0 (.loop (.seq (.region [⟨some 12, none, .bin .lss (.t 11) (.t 10)⟩] [0, 1, 10, 11, 12])
   (.seq (.cond (.t 12) (.skip) (.exit 0))
   (.seq (.block 1 (.seq (.region [⟨some 13, none, .mov (.t 11)⟩,
    ⟨some 5, none, .mov (.t 13)⟩] [0, 1, 5, 10, 11])
   (.seq (.region [⟨some 14, none, .mov (.t 0)⟩,
    ⟨some 15, none, .nilc (.t 14)⟩,
    ⟨some 16, none, .fa 0 (.t 15)⟩,
    ⟨some 17, none, .ld 1 false (.t 16)⟩,
    ⟨some 18, none, .mov (.t 5)⟩,
    ⟨some 19, none, .iaV 15 (.t 17) (.t 18)⟩,
    ⟨some 20, none, .fa 9 (.t 19)⟩,
    ⟨some 21, none, .ld 1 false (.t 20)⟩,
    ⟨some 22, none, .mov (.t 1)⟩,
    ⟨some 23, none, .bin .eql (.t 21) (.t 22)⟩] [0, 1, 5, 10, 11, 23])
   (.cond (.t 23) (.seq (.region [⟨some 24, none, .mov (.t 0)⟩,
    ⟨some 25, none, .nilc (.t 24)⟩,
    ⟨some 26, none, .fa 0 (.t 25)⟩,
    ⟨some 27, none, .ld 1 false (.t 26)⟩,
    ⟨some 28, none, .mov (.t 5)⟩,
    ⟨some 29, none, .iaV 15 (.t 27) (.t 28)⟩,
    ⟨some 4, none, .mov (.t 29)⟩] [4])
   (.ret)) (.skip)))))
   (.region [⟨some 30, none, .bin .add (.t 11) (.c (.int .i64 1))⟩,
    ⟨some 11, none, .mov (.t 30)⟩] [0, 1, 10, 11])))))))
   (.seq (.region [⟨some 4, none, .mov (.c (.pointer none))⟩] [4])
   (.ret))),
  [.t 4], 31, 2⟩
def A59 : Ann := ⟨[(0, [0, 1]), (1, [0, 1, 10, 11]), (2, [0, 1, 10, 11, 12]), (3, [0, 1, 5, 10, 11]), (4, [0, 1, 5, 10, 11, 23]), (5, [4]), (6, [0, 1, 10, 11]), (7, [4])], []⟩
set_option maxRecDepth 100000 in
theorem F59.ok : compF Try.prog A59 Try.f59 = some F59 := by kernel_rfl
theorem F59.fok : FOk Try.prog 59 F59 := fok_of mixed Try.func59 F59.ok

/-- slices.IndexFunc[[]cloakroom/token.entry,cloakroom/token.entry] -/
def F60 : SFn := ⟨.seq (.region [⟨some 4, none, .mov (.c (.int .i64 0))⟩] [0, 1])
   (.seq (.seq (.region [⟨some 6, none, .mov (.t 0)⟩,
    ⟨some 7, none, .lenV (.t 6)⟩,
    ⟨some 8, none, .mov (.c (.int .i64 0))⟩] [0, 1, 7, 8])
   (.block 0 (.loop (.seq (.region [⟨some 9, none, .bin .lss (.t 8) (.t 7)⟩] [0, 1, 7, 8, 9])
   (.seq (.cond (.t 9) (.skip) (.exit 0))
   (.seq (.block 1 (.seq (.region [⟨some 10, none, .mov (.t 8)⟩,
    ⟨some 5, none, .mov (.t 10)⟩] [0, 1, 5, 7, 8])
   (.seq (.region [⟨some 11, none, .mov (.t 1)⟩,
    ⟨some 12, none, .mov (.t 0)⟩,
    ⟨some 13, none, .mov (.t 5)⟩,
    ⟨some 14, none, .iaV 15 (.t 12) (.t 13)⟩,
    ⟨some 15, none, .ld 15 true (.t 14)⟩,
    ⟨some 16, none, .callv (.t 11) [.t 15]⟩] [0, 1, 5, 7, 8, 16])
   (.cond (.t 16) (.seq (.region [⟨some 17, none, .mov (.t 5)⟩,
    ⟨some 4, none, .mov (.t 17)⟩] [4])
   (.ret)) (.skip)))))
   (.region [⟨some 18, none, .bin .add (.t 8) (.c (.int .i64 1))⟩,
    ⟨some 8, none, .mov (.t 18)⟩] [0, 1, 7, 8])))))))
   (.seq (.region [⟨some 4, none, .mov (.c (.int .i64 (-1)))⟩] [4])
   (.ret))),
  [.t 4], 19, 2⟩
def A60 : Ann := ⟨[(0, [0, 1]), (1, [0, 1, 7, 8]), (2, [0, 1, 7, 8, 9]), (3, [0, 1, 5, 7, 8]), (4, [0, 1, 5, 7, 8, 16]), (5, [4]), (6, [0, 1, 7, 8]), (7, [4])], []⟩
set_option maxRecDepth 100000 in
theorem F60.ok : compF Try.prog A60 Try.f60 = some F60 := by kernel_rfl
theorem F60.fok : FOk Try.prog 60 F60 := fok_of mixed Try.func60 F60.ok

/-- (*cloakroom/token.Cache).Begin$1 -/
def F61 : SFn := ⟨.seq (.region [⟨some 1, none, .box (.t 0)⟩,
    ⟨some 2, none, .mov (.c (.bool false))⟩] [1])
   (.seq (.region [⟨some 3, none, .fa 10 (.t 1)⟩,
    ⟨some 4, none, .ld 1 false (.t 3)⟩,
    ⟨some 2, none, .mov (.t 4)⟩] [2])
   (.ret)),
  [.t 2], 5, 1⟩
def A61 : Ann := ⟨[(0, [1]), (1, [2])], []⟩
set_option maxRecDepth 100000 in
theorem F61.ok : compF Try.prog A61 Try.f61 = some F61 := by kernel_rfl
theorem F61.fok : FOk Try.prog 61 F61 := fok_of mixed Try.func61 F61.ok

/-- slices.Delete[[]cloakroom/token.entry,cloakroom/token.entry] -/
def F62 : SFn := ⟨.seq (.region [⟨some 6, none, .mov (.c (.slice none 0 0))⟩] [0, 1, 2])
   (.seq (.region [⟨some 8, none, .mov (.t 0)⟩,
    ⟨some 9, none, .mov (.t 1)⟩,
    ⟨some 10, none, .mov (.t 2)⟩,
    ⟨some 11, none, .mov (.t 0)⟩,
    ⟨some 12, none, .lenV (.t 11)⟩,
    ⟨some 13, none, .slV 15 (.t 8) (some (.t 9)) (some (.t 10)) (some (.t 12))⟩] [0, 1, 2])
   (.seq (.seq (.region [⟨some 14, none, .mov (.t 1)⟩,
    ⟨some 15, none, .mov (.t 2)⟩,
    ⟨some 16, none, .bin .eql (.t 14) (.t 15)⟩] [0, 1, 2, 16])
   (.cond (.t 16) (.seq (.region [⟨some 17, none, .mov (.t 0)⟩,
    ⟨some 6, none, .mov (.t 17)⟩] [6])
   (.ret)) (.skip)))
   (.seq (.region [⟨some 18, none, .mov (.t 0)⟩,
    ⟨some 19, none, .lenV (.t 18)⟩,
    ⟨some 7, none, .mov (.t 19)⟩] [0, 1, 2, 7])
   (.seq (.region [⟨some 20, none, .mov (.t 0)⟩,
    ⟨some 21, none, .mov (.t 1)⟩,
    ⟨some 22, none, .slV 15 (.t 20) none (some (.t 21)) none⟩,
    ⟨some 23, none, .mov (.t 0)⟩,
    ⟨some 24, none, .mov (.t 2)⟩,
    ⟨some 25, none, .slV 15 (.t 23) (some (.t 24)) none none⟩,
    ⟨some 26, none, .app 15 176 (.t 22) (.t 25)⟩,
    ⟨some 0, none, .mov (.t 26)⟩] [0, 7])
   (.seq (.region [⟨some 27, none, .mov (.t 0)⟩,
    ⟨some 28, none, .mov (.t 0)⟩,
    ⟨some 29, none, .lenV (.t 28)⟩,
    ⟨some 30, none, .mov (.t 7)⟩,
    ⟨some 31, none, .slV 15 (.t 27) (some (.t 29)) (some (.t 30)) none⟩,
    ⟨none, none, .clr 15 [.int .i64 0, .int .u64 0, .int .u64 0, .string ByteArray.empty, .slice none 0 0, .slice none 0 0, .int .u64 0, .int .u64 0, .int .i64 0, .int .u64 0, .bool false, .int .u64 0, .int .i64 0, .int .u64 0, .slice none 0 0] (.t 31)⟩] [0])
   (.seq (.region [⟨some 32, none, .mov (.t 0)⟩,
    ⟨some 6, none, .mov (.t 32)⟩] [6])
   (.ret))))))),
  [.t 6], 33, 3⟩
def A62 : Ann := ⟨[(0, [0, 1, 2]), (1, [0, 1, 2]), (2, [0, 1, 2, 16]), (3, [6]), (4, [0, 1, 2, 7]), (5, [0, 7]), (6, [0]), (7, [6])], [(5, [(0, []), (1, []), (2, []), (3, []), (4, []), (5, []), (6, []), (7, [])], [(2, [0, 1]), (5, [3, 4]), (6, [0, 1, 2, 3, 4, 5]), (7, [0, 1, 2, 3, 4, 5, 6])])]⟩
set_option maxRecDepth 100000 in
theorem F62.ok : compF Try.prog A62 Try.f62 = some F62 := by kernel_rfl
theorem F62.fok : FOk Try.prog 62 F62 := fok_of mixed Try.func62 F62.ok

/-- cloakroom/token.twin -/
def F63 : SFn := ⟨.seq (.region [⟨some 1, none, .box (.t 0)⟩,
    ⟨some 2, none, .new [.int .i64 0, .int .u64 0, .int .u64 0, .string ByteArray.empty, .slice none 0 0, .slice none 0 0, .int .u64 0, .int .u64 0]⟩] [1, 2])
   (.seq (.region [⟨some 3, none, .fa 4 (.t 1)⟩,
    ⟨some 4, none, .ld 1 false (.t 3)⟩,
    ⟨some 6, none, .fa 5 (.t 1)⟩,
    ⟨some 7, none, .ld 1 false (.t 6)⟩,
    ⟨some 5, none, .call 57 [.t 4]⟩,
    ⟨none, none, .chk 1 false (.t 6) 7⟩,
    ⟨some 9, none, .fa 4 (.t 1)⟩,
    ⟨some 8, none, .call 56 [.t 7]⟩,
    ⟨none, none, .st 1 (.t 9) (.t 5)⟩,
    ⟨some 10, none, .fa 5 (.t 1)⟩,
    ⟨none, none, .st 1 (.t 10) (.t 8)⟩] [1, 2])
   (.seq (.region [⟨some 11, none, .ld 8 true (.t 1)⟩,
    ⟨none, none, .st 8 (.t 2) (.t 11)⟩] [2])
   (.ret))),
  [.c 2 8 true], 12, 1⟩
def A63 : Ann := ⟨[(0, [1, 2]), (1, [1, 2]), (2, [2])], [(1, [(0, []), (1, []), (3, []), (4, []), (2, [4]), (6, []), (5, []), (7, []), (8, []), (9, [])], [(1, [0]), (2, [0, 1]), (4, [3]), (5, [0, 1, 2, 3, 4]), (6, [0, 1, 2, 3, 4]), (7, [0, 1, 2, 3, 4, 5, 6]), (8, [0, 1, 2, 3, 4, 5, 6, 7]), (9, [0, 1, 2, 3, 4, 5, 6, 7, 8])])]⟩
set_option maxRecDepth 100000 in
theorem F63.ok : compF Try.prog A63 Try.f63 = some F63 := by kernel_rfl
theorem F63.fok : FOk Try.prog 63 F63 := fok_of mixed Try.func63 F63.ok

/-- cloakroom/req.Same -/
def F64 : SFn := ⟨.seq (.region [⟨some 2, none, .box (.t 0)⟩,
    ⟨some 3, none, .box (.t 1)⟩,
    ⟨some 4, none, .mov (.c (.bool false))⟩] [2, 3])
   (.seq (.region [⟨some 5, none, .fa 0 (.t 2)⟩,
    ⟨some 6, none, .ld 1 false (.t 5)⟩,
    ⟨some 7, none, .fa 0 (.t 3)⟩,
    ⟨some 8, none, .ld 1 false (.t 7)⟩,
    ⟨some 9, none, .bin .eql (.t 6) (.t 8)⟩,
    ⟨some 10, none, .mov (.t 9)⟩,
    ⟨some 11, some (10, true), .fa 1 (.t 2)⟩,
    ⟨some 12, some (10, true), .ld 1 false (.t 11)⟩,
    ⟨some 13, some (10, true), .fa 1 (.t 3)⟩,
    ⟨some 14, some (10, true), .ld 1 false (.t 13)⟩,
    ⟨some 15, some (10, true), .bin .eql (.t 12) (.t 14)⟩,
    ⟨some 16, none, .pick (.t 10) (.t 15) (.c (.bool false))⟩,
    ⟨some 17, none, .mov (.t 16)⟩,
    ⟨some 18, some (17, true), .fa 2 (.t 2)⟩,
    ⟨some 19, some (17, true), .ld 1 false (.t 18)⟩,
    ⟨some 20, some (17, true), .fa 2 (.t 3)⟩,
    ⟨some 21, some (17, true), .ld 1 false (.t 20)⟩,
    ⟨some 22, some (17, true), .bin .eql (.t 19) (.t 21)⟩,
    ⟨some 23, none, .pick (.t 17) (.t 22) (.c (.bool false))⟩,
    ⟨some 24, none, .mov (.t 23)⟩,
    ⟨some 25, some (24, true), .fa 3 (.t 2)⟩,
    ⟨some 26, some (24, true), .ld 1 false (.t 25)⟩,
    ⟨some 27, some (24, true), .fa 3 (.t 3)⟩,
    ⟨some 28, some (24, true), .ld 1 false (.t 27)⟩,
    ⟨some 29, some (24, true), .bin .eql (.t 26) (.t 28)⟩,
    ⟨some 30, none, .pick (.t 24) (.t 29) (.c (.bool false))⟩,
    ⟨some 31, none, .mov (.t 30)⟩,
    ⟨some 32, some (31, true), .fa 4 (.t 2)⟩,
    ⟨some 33, some (31, true), .ld 1 false (.t 32)⟩,
    ⟨some 34, some (31, true), .fa 4 (.t 3)⟩,
    ⟨some 35, some (31, true), .ld 1 false (.t 34)⟩,
    ⟨some 36, some (31, true), .call 72 [.t 33, .t 35]⟩,
    ⟨some 37, none, .pick (.t 31) (.t 36) (.c (.bool false))⟩,
    ⟨some 38, none, .mov (.t 37)⟩,
    ⟨some 39, some (38, true), .fa 5 (.t 2)⟩,
    ⟨some 40, some (38, true), .ld 1 false (.t 39)⟩,
    ⟨some 41, some (38, true), .fa 5 (.t 3)⟩,
    ⟨some 42, some (38, true), .ld 1 false (.t 41)⟩,
    ⟨some 43, some (38, true), .call 73 [.t 40, .t 42]⟩,
    ⟨some 44, none, .pick (.t 38) (.t 43) (.c (.bool false))⟩,
    ⟨some 45, none, .mov (.t 44)⟩,
    ⟨some 46, some (45, true), .fa 6 (.t 2)⟩,
    ⟨some 47, some (45, true), .ld 1 false (.t 46)⟩,
    ⟨some 48, some (45, true), .fa 6 (.t 3)⟩,
    ⟨some 49, some (45, true), .ld 1 false (.t 48)⟩,
    ⟨some 50, some (45, true), .bin .eql (.t 47) (.t 49)⟩,
    ⟨some 51, none, .pick (.t 45) (.t 50) (.c (.bool false))⟩,
    ⟨some 52, none, .mov (.t 51)⟩,
    ⟨some 53, some (52, true), .fa 7 (.t 2)⟩,
    ⟨some 54, some (52, true), .ld 1 false (.t 53)⟩,
    ⟨some 55, some (52, true), .fa 7 (.t 3)⟩,
    ⟨some 56, some (52, true), .ld 1 false (.t 55)⟩,
    ⟨some 57, some (52, true), .bin .eql (.t 54) (.t 56)⟩,
    ⟨some 58, none, .pick (.t 52) (.t 57) (.c (.bool false))⟩,
    ⟨some 4, none, .mov (.t 58)⟩] [4])
   (.ret)),
  [.t 4], 59, 2⟩
def A64 : Ann := ⟨[(0, [2, 3]), (1, [4])], []⟩
set_option maxRecDepth 100000 in
theorem F64.ok : compF Try.prog A64 Try.f64 = some F64 := by kernel_rfl
theorem F64.fok : FOk Try.prog 64 F64 := fok_of mixed Try.func64 F64.ok

/-- cloakroom/token.echo -/
def F65 : SFn := ⟨.seq (.region [⟨some 1, none, .box (.t 0)⟩,
    ⟨some 2, none, .new [.int .u64 0, .int .i64 0, .int .u64 0, .slice none 0 0]⟩] [1, 2])
   (.seq (.region [⟨some 3, none, .fa 3 (.t 1)⟩,
    ⟨some 4, none, .ld 1 false (.t 3)⟩,
    ⟨some 5, none, .call 56 [.t 4]⟩,
    ⟨some 6, none, .fa 3 (.t 1)⟩,
    ⟨none, none, .st 1 (.t 6) (.t 5)⟩] [1, 2])
   (.seq (.region [⟨some 7, none, .ld 4 true (.t 1)⟩,
    ⟨none, none, .st 4 (.t 2) (.t 7)⟩] [2])
   (.ret))),
  [.c 2 4 true], 8, 1⟩
def A65 : Ann := ⟨[(0, [1, 2]), (1, [1, 2]), (2, [2])], []⟩
set_option maxRecDepth 100000 in
theorem F65.ok : compF Try.prog A65 Try.f65 = some F65 := by kernel_rfl
theorem F65.fok : FOk Try.prog 65 F65 := fok_of mixed Try.func65 F65.ok

/-- bytes.Equal -/
def F72 : SFn := ⟨.seq (.region [⟨some 4, none, .mov (.c (.bool false))⟩] [0, 1])
   (.seq (.region [⟨some 5, none, .mov (.t 0)⟩,
    ⟨some 6, none, .toStr (.t 5)⟩,
    ⟨some 7, none, .mov (.t 1)⟩,
    ⟨some 8, none, .toStr (.t 7)⟩,
    ⟨some 9, none, .bin .eql (.t 6) (.t 8)⟩,
    ⟨some 4, none, .mov (.t 9)⟩] [4])
   (.ret)),
  [.t 4], 10, 2⟩
def A72 : Ann := ⟨[(0, [0, 1]), (1, [4])], []⟩
set_option maxRecDepth 100000 in
theorem F72.ok : compF Try.prog A72 Try.f72 = some F72 := by kernel_rfl
theorem F72.fok : FOk Try.prog 72 F72 := fok_of mixed Try.func72 F72.ok

/-- slices.Equal[[]uint64,uint64] -/
def F73 : SFn := ⟨.seq (.region [⟨some 4, none, .mov (.c (.bool false))⟩] [0, 1])
   (.seq (.seq (.region [⟨some 6, none, .mov (.t 0)⟩,
    ⟨some 7, none, .lenV (.t 6)⟩,
    ⟨some 8, none, .mov (.t 1)⟩,
    ⟨some 9, none, .lenV (.t 8)⟩,
    ⟨some 10, none, .bin .neq (.t 7) (.t 9)⟩] [0, 1, 10])
   (.cond (.t 10) (.seq (.region [⟨some 4, none, .mov (.c (.bool false))⟩] [4])
   (.ret)) (.skip)))
   (.seq (.seq (.region [⟨some 11, none, .mov (.t 0)⟩,
    ⟨some 12, none, .lenV (.t 11)⟩,
    ⟨some 13, none, .mov (.c (.int .i64 0))⟩] [0, 1, 12, 13])
   (.block 0 (.loop (.seq (.region [⟨some 14, none, .bin .lss (.t 13) (.t 12)⟩] [0, 1, 12, 13, 14])
   (.seq (.cond (.t 14) (.skip) (.exit 0))
   (.seq (.block 1 (.seq (.region [⟨some 15, none, .mov (.t 13)⟩,
    ⟨some 5, none, .mov (.t 15)⟩] [0, 1, 5, 12, 13])
   (.seq (.region [⟨some 16, none, .mov (.t 0)⟩,
    ⟨some 17, none, .mov (.t 5)⟩,
    ⟨some 18, none, .iaV 1 (.t 16) (.t 17)⟩,
    ⟨some 19, none, .ld 1 false (.t 18)⟩,
    ⟨some 20, none, .mov (.t 1)⟩,
    ⟨some 21, none, .mov (.t 5)⟩,
    ⟨some 22, none, .iaV 1 (.t 20) (.t 21)⟩,
    ⟨some 23, none, .ld 1 false (.t 22)⟩,
    ⟨some 24, none, .bin .neq (.t 19) (.t 23)⟩] [0, 1, 12, 13, 24])
   (.cond (.t 24) (.seq (.region [⟨some 4, none, .mov (.c (.bool false))⟩] [4])
   (.ret)) (.skip)))))
   (.region [⟨some 25, none, .bin .add (.t 13) (.c (.int .i64 1))⟩,
    ⟨some 13, none, .mov (.t 25)⟩] [0, 1, 12, 13])))))))
   (.seq (.region [⟨some 4, none, .mov (.c (.bool true))⟩] [4])
   (.ret)))),
  [.t 4], 26, 2⟩
def A73 : Ann := ⟨[(0, [0, 1]), (1, [0, 1, 10]), (2, [4]), (3, [0, 1, 12, 13]), (4, [0, 1, 12, 13, 14]), (5, [0, 1, 5, 12, 13]), (6, [0, 1, 12, 13, 24]), (7, [4]), (8, [0, 1, 12, 13]), (9, [4])], [(6, [(0, []), (1, []), (2, []), (3, []), (4, []), (5, []), (6, []), (7, []), (8, [])], [(2, [0, 1]), (3, [0, 1, 2]), (6, [4, 5]), (7, [4, 5, 6]), (8, [0, 1, 2, 3, 4, 5, 6, 7])])]⟩
set_option maxRecDepth 100000 in
theorem F73.ok : compF Try.prog A73 Try.f73 = some F73 := by kernel_rfl
theorem F73.fok : FOk Try.prog 73 F73 := fok_of mixed Try.func73 F73.ok
end Go.Dx.SYtocdemagjocggaa
