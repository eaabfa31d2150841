/- The readings of functions, printed by a program of the prover's own. -/
import Derived.Test.YtkppbmhpcjjceaaDx19
import Derived.Test.YtkppbmhpcjjceaaChecked
import Derived.Eval
import Derived.Test.YtkppbmhpcjjceaaDxLF0
namespace Go.Dx.SYtkppbmhpcjjceaa
open Go.Proofs
set_option linter.unusedVariables false
/-- (*cloakroom/frame.bytes).next -/
def F90 : SFn := ⟨.seq (.region [⟨some 2, none, .mov (.c (.slice none 0 0))⟩,
    ⟨some 3, none, .mov (.c (.bool false))⟩,
    ⟨some 4, none, .mov (.c (.bool false))⟩] [0])
   (.seq (.seq (.region [⟨some 6, none, .mov (.t 0)⟩,
    ⟨some 7, none, .nilc (.t 6)⟩,
    ⟨some 8, none, .fa 0 (.t 7)⟩,
    ⟨some 9, none, .ld 1 false (.t 8)⟩,
    ⟨some 10, none, .lenV (.t 9)⟩,
    ⟨some 11, none, .bin .lss (.t 10) (.c (.int .i64 2))⟩] [0, 11])
   (.cond (.t 11) (.seq (.region [⟨some 2, none, .mov (.c (.slice none 0 0))⟩,
    ⟨some 3, none, .mov (.c (.bool false))⟩,
    ⟨some 4, none, .mov (.c (.bool false))⟩] [2, 3, 4])
   (.ret)) (.skip)))
   (.seq (.region [⟨some 12, none, .mov (.t 0)⟩,
    ⟨some 13, none, .nilc (.t 12)⟩,
    ⟨some 14, none, .fa 0 (.t 13)⟩,
    ⟨some 15, none, .ld 1 false (.t 14)⟩,
    ⟨some 16, none, .iaV 1 (.t 15) (.c (.int .i64 0))⟩,
    ⟨some 17, none, .ld 1 false (.t 16)⟩,
    ⟨some 18, none, .conv .i64 (.t 17)⟩,
    ⟨some 19, none, .bin .shl (.t 18) (.c (.int .u64 8))⟩,
    ⟨some 20, none, .mov (.t 0)⟩,
    ⟨some 21, none, .nilc (.t 20)⟩,
    ⟨some 22, none, .fa 0 (.t 21)⟩,
    ⟨some 23, none, .ld 1 false (.t 22)⟩,
    ⟨some 24, none, .iaV 1 (.t 23) (.c (.int .i64 1))⟩,
    ⟨some 25, none, .ld 1 false (.t 24)⟩,
    ⟨some 26, none, .conv .i64 (.t 25)⟩,
    ⟨some 27, none, .bin .or (.t 19) (.t 26)⟩,
    ⟨some 5, none, .mov (.t 27)⟩] [0, 5])
   (.seq (.seq (.region [⟨some 28, none, .mov (.t 5)⟩,
    ⟨some 29, none, .bin .gtr (.t 28) (.c (.int .i64 5000))⟩] [0, 5, 29])
   (.cond (.t 29) (.seq (.region [⟨some 2, none, .mov (.c (.slice none 0 0))⟩,
    ⟨some 3, none, .mov (.c (.bool false))⟩,
    ⟨some 4, none, .mov (.c (.bool true))⟩] [2, 3, 4])
   (.ret)) (.skip)))
   (.seq (.seq (.region [⟨some 30, none, .mov (.t 0)⟩,
    ⟨some 31, none, .nilc (.t 30)⟩,
    ⟨some 32, none, .fa 0 (.t 31)⟩,
    ⟨some 33, none, .ld 1 false (.t 32)⟩,
    ⟨some 34, none, .lenV (.t 33)⟩,
    ⟨some 35, none, .bin .sub (.t 34) (.c (.int .i64 2))⟩,
    ⟨some 36, none, .mov (.t 5)⟩,
    ⟨some 37, none, .bin .lss (.t 35) (.t 36)⟩] [0, 5, 37])
   (.cond (.t 37) (.seq (.region [⟨some 2, none, .mov (.c (.slice none 0 0))⟩,
    ⟨some 3, none, .mov (.c (.bool false))⟩,
    ⟨some 4, none, .mov (.c (.bool false))⟩] [2, 3, 4])
   (.ret)) (.skip)))
   (.seq (.region [⟨some 38, none, .mov (.t 0)⟩,
    ⟨some 39, none, .nilc (.t 38)⟩,
    ⟨some 40, none, .fa 0 (.t 39)⟩,
    ⟨some 41, none, .ld 1 false (.t 40)⟩,
    ⟨some 42, none, .mov (.t 5)⟩,
    ⟨some 43, none, .bin .add (.c (.int .i64 2)) (.t 42)⟩,
    ⟨some 44, none, .slV 1 (.t 41) (some (.c (.int .i64 2))) (some (.t 43)) none⟩,
    ⟨some 45, none, .call 72 [.t 44]⟩,
    ⟨some 2, none, .mov (.t 45)⟩] [0, 2, 5])
   (.seq (.region [⟨some 46, none, .mov (.t 0)⟩,
    ⟨some 47, none, .mov (.t 0)⟩,
    ⟨some 48, none, .nilc (.t 47)⟩,
    ⟨some 49, none, .fa 0 (.t 48)⟩,
    ⟨some 50, none, .ld 1 false (.t 49)⟩,
    ⟨some 51, none, .mov (.t 5)⟩,
    ⟨some 52, none, .bin .add (.c (.int .i64 2)) (.t 51)⟩,
    ⟨some 53, none, .slV 1 (.t 50) (some (.t 52)) none none⟩,
    ⟨some 54, none, .nilc (.t 46)⟩,
    ⟨some 55, none, .fa 0 (.t 54)⟩,
    ⟨none, none, .st 1 (.t 55) (.t 53)⟩] [2])
   (.seq (.region [⟨some 56, none, .mov (.t 2)⟩,
    ⟨some 2, none, .mov (.t 56)⟩,
    ⟨some 3, none, .mov (.c (.bool true))⟩,
    ⟨some 4, none, .mov (.c (.bool false))⟩] [2, 3, 4])
   (.ret)))))))),
  [.t 2, .t 3, .t 4], 57, 1⟩
def A90 : Ann := ⟨[(0, [0]), (1, [0, 11]), (2, [2, 3, 4]), (3, [0, 5]), (4, [0, 5, 29]), (5, [2, 3, 4]), (6, [0, 5, 37]), (7, [2, 3, 4]), (8, [0, 2, 5]), (9, [2]), (10, [2, 3, 4])], [(3, [(0, []), (1, []), (2, []), (3, []), (4, []), (5, []), (6, []), (7, []), (8, []), (9, []), (10, []), (11, []), (12, []), (13, []), (14, []), (15, []), (16, [])], [(1, [0]), (2, [0, 1]), (3, [0, 1, 2]), (4, [0, 1, 2, 3]), (5, [0, 1, 2, 3, 4]), (6, [0, 1, 2, 3, 4, 5]), (7, [0, 1, 2, 3, 4, 5, 6]), (9, [8]), (10, [8, 9]), (11, [8, 9, 10]), (12, [8, 9, 10, 11]), (13, [8, 9, 10, 11, 12]), (14, [8, 9, 10, 11, 12, 13]), (15, [0, 1, 2, 3, 4, 5, 6, 7, 8, 9, 10, 11, 12, 13, 14]), (16, [0, 1, 2, 3, 4, 5, 6, 7, 8, 9, 10, 11, 12, 13, 14, 15])])]⟩
set_option maxRecDepth 100000 in
theorem F90.ok : compF Try.prog A90 Try.f90 = some F90 := by kernel_rfl
theorem F90.fok : FOk Try.prog 90 F90 := fok_of mixed Try.func90 F90.ok

/-- slices.Clone[[]cloakroom/token.entry,cloakroom/token.entry] -/
def F92 : SFn := ⟨.seq (.region [⟨some 2, none, .mov (.c (.slice none 0 0))⟩] [0])
   (.seq (.seq (.region [⟨some 3, none, .mov (.t 0)⟩,
    ⟨some 4, none, .eqk false .slice (.t 3) (.c (.slice none 0 0))⟩] [0, 4])
   (.cond (.t 4) (.seq (.region [⟨some 2, none, .mov (.c (.slice none 0 0))⟩] [2])
   (.ret)) (.skip)))
   (.seq (.region [⟨some 5, none, .bslice 0 15 [.int .i64 0, .int .u64 0, .int .u64 0, .string ByteArray.empty, .slice none 0 0, .slice none 0 0, .int .u64 0, .int .u64 0, .int .i64 0, .int .u64 0, .bool false, .int .u64 0, .int .i64 0, .int .u64 0, .slice none 0 0] []⟩,
    ⟨some 6, none, .mov (.t 0)⟩,
    ⟨some 7, none, .app 15 176 (.t 5) (.t 6)⟩,
    ⟨some 2, none, .mov (.t 7)⟩] [2])
   (.ret))),
  [.t 2], 8, 1⟩
def A92 : Ann := ⟨[(0, [0]), (1, [0, 4]), (2, [2]), (3, [2])], []⟩
set_option maxRecDepth 100000 in
theorem F92.ok : compF Try.prog A92 Try.f92 = some F92 := by kernel_rfl
theorem F92.fok : FOk Try.prog 92 F92 := fok_of mixed Try.func92 F92.ok

/-- cloakroom/cloakroomref1.number -/
def F94 : SFn := ⟨.seq (.region [⟨some 6, none, .mov (.c (.int .u64 0))⟩,
    ⟨some 7, none, .mov (.c (.int .i64 0))⟩,
    ⟨some 8, none, .mov (.c (.int .i64 0))⟩] [0, 1, 2])
   (.seq (.region [⟨some 9, none, .mov (.c (.int .u64 0))⟩] [0, 1, 2, 9])
   (.seq (.region [⟨some 17, none, .mov (.t 1)⟩,
    ⟨some 18, none, .bin .add (.t 17) (.c (.int .i64 6))⟩,
    ⟨some 19, none, .bin .quo (.t 18) (.c (.int .i64 7))⟩,
    ⟨some 10, none, .mov (.t 19)⟩] [0, 1, 2, 9, 10])
   (.seq (.seq (.region [⟨some 11, none, .mov (.c (.int .i64 0))⟩] [0, 1, 2, 9, 10, 11])
   (.block 0 (.loop (.seq (.seq (.region [⟨some 20, none, .mov (.t 11)⟩,
    ⟨some 21, none, .mov (.t 10)⟩,
    ⟨some 22, none, .bin .lss (.t 20) (.t 21)⟩] [0, 1, 2, 9, 10, 11, 22])
   (.cond (.t 22) (.skip) (.exit 0)))
   (.seq (.block 1 (.seq (.seq (.region [⟨some 25, none, .mov (.t 11)⟩,
    ⟨some 26, none, .mov (.t 0)⟩,
    ⟨some 27, none, .lenV (.t 26)⟩,
    ⟨some 28, none, .bin .geq (.t 25) (.t 27)⟩] [0, 1, 2, 9, 10, 11, 28])
   (.cond (.t 28) (.seq (.region [⟨some 6, none, .mov (.c (.int .u64 0))⟩,
    ⟨some 7, none, .mov (.c (.int .i64 0))⟩,
    ⟨some 8, none, .mov (.c (.int .i64 3))⟩] [6, 7, 8])
   (.ret)) (.skip)))
   (.seq (.region [⟨some 29, none, .mov (.t 0)⟩,
    ⟨some 30, none, .mov (.t 11)⟩,
    ⟨some 31, none, .iaV 1 (.t 29) (.t 30)⟩,
    ⟨some 32, none, .ld 1 false (.t 31)⟩,
    ⟨some 12, none, .mov (.t 32)⟩] [0, 1, 2, 9, 10, 11, 12])
   (.seq (.region [⟨some 33, none, .mov (.t 12)⟩,
    ⟨some 34, none, .bin .and (.t 33) (.c (.int .u8 127))⟩,
    ⟨some 35, none, .conv .u64 (.t 34)⟩,
    ⟨some 13, none, .mov (.t 35)⟩] [0, 1, 2, 9, 10, 11, 12, 13])
   (.seq (.seq (.region [⟨some 36, none, .mov (.t 11)⟩,
    ⟨some 37, none, .mov (.t 10)⟩,
    ⟨some 38, none, .bin .sub (.t 37) (.c (.int .i64 1))⟩,
    ⟨some 39, none, .bin .eql (.t 36) (.t 38)⟩] [0, 1, 2, 9, 10, 11, 12, 13, 39])
   (.cond (.t 39) (.seq (.region [⟨some 40, none, .mov (.t 1)⟩,
    ⟨some 41, none, .mov (.t 11)⟩,
    ⟨some 42, none, .bin .mul (.c (.int .i64 7)) (.t 41)⟩,
    ⟨some 43, none, .bin .sub (.t 40) (.t 42)⟩,
    ⟨some 14, none, .mov (.t 43)⟩] [0, 1, 2, 9, 10, 11, 12, 13, 14])
   (.seq (.region [⟨some 44, none, .mov (.t 13)⟩,
    ⟨some 45, none, .mov (.t 14)⟩,
    ⟨some 46, none, .bin .shr (.t 44) (.t 45)⟩,
    ⟨some 15, none, .mov (.t 46)⟩] [0, 1, 2, 9, 10, 11, 12, 13, 14, 15])
   (.seq (.seq (.region [⟨some 47, none, .mov (.t 2)⟩] [0, 1, 2, 9, 10, 11, 12, 13, 14, 15, 47])
   (.cond (.t 47) (.region [⟨some 48, none, .mov (.t 13)⟩,
    ⟨some 49, none, .mov (.t 14)⟩,
    ⟨some 50, none, .bin .sub (.t 49) (.c (.int .i64 1))⟩,
    ⟨some 51, none, .bin .shr (.t 48) (.t 50)⟩,
    ⟨some 15, none, .mov (.t 51)⟩] [0, 1, 2, 9, 10, 11, 12, 13, 14, 15]) (.skip)))
   (.seq (.region [⟨some 52, none, .mov (.t 14)⟩,
    ⟨some 53, none, .bin .shr (.c (.int .u64 127)) (.t 52)⟩,
    ⟨some 16, none, .mov (.t 53)⟩] [0, 1, 2, 9, 10, 11, 12, 13, 14, 15, 16])
   (.seq (.seq (.region [⟨some 54, none, .mov (.t 2)⟩] [0, 1, 2, 9, 10, 11, 12, 13, 14, 15, 16, 54])
   (.cond (.t 54) (.region [⟨some 55, none, .mov (.t 14)⟩,
    ⟨some 56, none, .bin .sub (.t 55) (.c (.int .i64 1))⟩,
    ⟨some 57, none, .bin .shr (.c (.int .u64 127)) (.t 56)⟩,
    ⟨some 16, none, .mov (.t 57)⟩] [0, 1, 2, 9, 10, 11, 12, 13, 15, 16]) (.skip)))
   (.seq (.region [⟨some 58, none, .mov (.t 12)⟩,
    ⟨some 59, none, .bin .geq (.t 58) (.c (.int .u8 128))⟩,
    ⟨some 60, none, .mov (.t 59)⟩,
    ⟨some 61, some (60, false), .mov (.t 15)⟩,
    ⟨some 62, some (60, false), .bin .neq (.t 61) (.c (.int .u64 0))⟩,
    ⟨some 63, some (60, false), .mov (.t 62)⟩,
    ⟨some 64, some (63, true), .mov (.t 2)⟩,
    ⟨some 65, some (63, true), .un .not (.t 64)⟩,
    ⟨some 66, some (63, true), .mov (.t 65)⟩,
    ⟨some 67, some (66, false), .mov (.t 15)⟩,
    ⟨some 68, some (66, false), .mov (.t 16)⟩,
    ⟨some 69, some (66, false), .bin .neq (.t 67) (.t 68)⟩,
    ⟨some 70, some (63, true), .pick (.t 66) (.c (.bool true)) (.t 69)⟩,
    ⟨some 71, some (60, false), .pick (.t 63) (.t 70) (.c (.bool false))⟩,
    ⟨some 72, none, .pick (.t 60) (.c (.bool true)) (.t 71)⟩] [0, 1, 2, 9, 10, 11, 12, 13, 72])
   (.cond (.t 72) (.seq (.region [⟨some 6, none, .mov (.c (.int .u64 0))⟩,
    ⟨some 7, none, .mov (.c (.int .i64 0))⟩,
    ⟨some 8, none, .mov (.c (.int .i64 2))⟩] [6, 7, 8])
   (.ret)) (.skip)))))))) (.skip)))
   (.seq (.region [⟨some 73, none, .mov (.t 9)⟩,
    ⟨some 74, none, .mov (.t 13)⟩,
    ⟨some 75, none, .mov (.t 11)⟩,
    ⟨some 76, none, .bin .mul (.c (.int .i64 7)) (.t 75)⟩,
    ⟨some 77, none, .bin .shl (.t 74) (.t 76)⟩,
    ⟨some 78, none, .bin .or (.t 73) (.t 77)⟩,
    ⟨some 9, none, .mov (.t 78)⟩] [0, 1, 2, 9, 10, 11, 12])
   (.seq (.region [⟨some 79, none, .mov (.t 12)⟩,
    ⟨some 80, none, .bin .lss (.t 79) (.c (.int .u8 128))⟩] [0, 1, 2, 9, 10, 11, 12, 80])
   (.cond (.t 80) (.seq (.seq (.region [⟨some 81, none, .mov (.t 2)⟩,
    ⟨some 82, none, .mov (.t 81)⟩,
    ⟨some 83, some (82, true), .mov (.t 12)⟩,
    ⟨some 84, some (82, true), .bin .and (.t 83) (.c (.int .u8 64))⟩,
    ⟨some 85, some (82, true), .bin .neq (.t 84) (.c (.int .u8 0))⟩,
    ⟨some 86, none, .pick (.t 82) (.t 85) (.c (.bool false))⟩,
    ⟨some 87, none, .mov (.t 86)⟩,
    ⟨some 88, some (87, true), .mov (.t 11)⟩,
    ⟨some 89, some (87, true), .bin .mul (.c (.int .i64 7)) (.t 88)⟩,
    ⟨some 90, some (87, true), .bin .add (.t 89) (.c (.int .i64 7))⟩,
    ⟨some 91, some (87, true), .bin .lss (.t 90) (.c (.int .i64 64))⟩,
    ⟨some 92, none, .pick (.t 87) (.t 91) (.c (.bool false))⟩] [9, 11, 92])
   (.cond (.t 92) (.region [⟨some 93, none, .mov (.t 9)⟩,
    ⟨some 94, none, .mov (.t 11)⟩,
    ⟨some 95, none, .bin .mul (.c (.int .i64 7)) (.t 94)⟩,
    ⟨some 96, none, .bin .add (.t 95) (.c (.int .i64 7))⟩,
    ⟨some 97, none, .bin .shl (.c (.int .u64 18446744073709551615)) (.t 96)⟩,
    ⟨some 98, none, .bin .or (.t 93) (.t 97)⟩,
    ⟨some 9, none, .mov (.t 98)⟩] [9, 11]) (.skip)))
   (.seq (.region [⟨some 99, none, .mov (.t 9)⟩,
    ⟨some 100, none, .mov (.t 11)⟩,
    ⟨some 101, none, .bin .add (.t 100) (.c (.int .i64 1))⟩,
    ⟨some 6, none, .mov (.t 99)⟩,
    ⟨some 7, none, .mov (.t 101)⟩,
    ⟨some 8, none, .mov (.c (.int .i64 0))⟩] [6, 7, 8])
   (.ret))) (.skip)))))))))
   (.region [⟨some 23, none, .mov (.t 11)⟩,
    ⟨some 24, none, .bin .add (.t 23) (.c (.int .i64 1))⟩,
    ⟨some 11, none, .mov (.t 24)⟩] [0, 1, 2, 9, 10, 11]))))))
   (.seq (.region [⟨some 6, none, .mov (.c (.int .u64 0))⟩,
    ⟨some 7, none, .mov (.c (.int .i64 0))⟩,
    ⟨some 8, none, .mov (.c (.int .i64 2))⟩] [6, 7, 8])
   (.ret))))),
  [.t 6, .t 7, .t 8], 102, 3⟩
def A94 : Ann := ⟨[(0, [0, 1, 2]), (1, [0, 1, 2, 9]), (2, [0, 1, 2, 9, 10]), (3, [0, 1, 2, 9, 10, 11]), (4, [0, 1, 2, 9, 10, 11, 22]), (5, [0, 1, 2, 9, 10, 11]), (6, [0, 1, 2, 9, 10, 11, 28]), (7, [6, 7, 8]), (8, [0, 1, 2, 9, 10, 11, 12]), (9, [0, 1, 2, 9, 10, 11, 12, 13]), (10, [0, 1, 2, 9, 10, 11, 12, 13, 39]), (11, [0, 1, 2, 9, 10, 11, 12, 13, 14]), (12, [0, 1, 2, 9, 10, 11, 12, 13, 14, 15]), (13, [0, 1, 2, 9, 10, 11, 12, 13, 14, 15, 47]), (14, [0, 1, 2, 9, 10, 11, 12, 13, 14, 15]), (15, [0, 1, 2, 9, 10, 11, 12, 13, 14, 15, 16]), (16, [0, 1, 2, 9, 10, 11, 12, 13, 14, 15, 16, 54]), (17, [0, 1, 2, 9, 10, 11, 12, 13, 15, 16]), (18, [0, 1, 2, 9, 10, 11, 12, 13, 72]), (19, [6, 7, 8]), (20, [0, 1, 2, 9, 10, 11, 12]), (21, [0, 1, 2, 9, 10, 11, 12, 80]), (22, [9, 11, 92]), (23, [9, 11]), (24, [6, 7, 8]), (25, [6, 7, 8])], []⟩
set_option maxRecDepth 100000 in
theorem F94.ok : compF Try.prog A94 Try.f94 = some F94 := by kernel_rfl
theorem F94.fok : FOk Try.prog 94 F94 := fok_of mixed Try.func94 F94.ok

/-- cloakroom/leb.put -/
def F95 : SFn := ⟨.seq (.region [⟨some 4, none, .mov (.c (.slice none 0 0))⟩] [0, 1])
   (.seq (.region [⟨some 5, none, .mov (.t 0)⟩,
    ⟨some 6, none, .call 72 [.t 5]⟩,
    ⟨some 7, none, .mov (.t 1)⟩,
    ⟨some 8, none, .app 1 1 (.t 6) (.t 7)⟩,
    ⟨some 4, none, .mov (.t 8)⟩] [4])
   (.ret)),
  [.t 4], 9, 2⟩
def A95 : Ann := ⟨[(0, [0, 1]), (1, [4])], []⟩
set_option maxRecDepth 100000 in
theorem F95.ok : compF Try.prog A95 Try.f95 = some F95 := by kernel_rfl
theorem F95.fok : FOk Try.prog 95 F95 := fok_of mixed Try.func95 F95.ok

/-- cloakroom/leb.read -/
def F96 : SFn := ⟨.seq (.region [⟨some 6, none, .mov (.c (.int .u64 0))⟩,
    ⟨some 7, none, .mov (.c (.int .i64 0))⟩,
    ⟨some 8, none, .mov (.c (.int .i64 0))⟩] [0, 1, 2, 6, 7])
   (.seq (.region [⟨some 9, none, .mov (.c (.int .i64 0))⟩] [0, 1, 2, 6, 7, 9])
   (.block 0 (.loop (.seq (.block 1 (.seq (.seq (.region [⟨some 14, none, .mov (.t 7)⟩,
    ⟨some 15, none, .mov (.t 0)⟩,
    ⟨some 16, none, .lenV (.t 15)⟩,
    ⟨some 17, none, .bin .eql (.t 14) (.t 16)⟩] [0, 1, 2, 6, 7, 9, 17])
   (.cond (.t 17) (.seq (.region [⟨some 6, none, .mov (.c (.int .u64 0))⟩,
    ⟨some 7, none, .mov (.c (.int .i64 0))⟩,
    ⟨some 8, none, .mov (.c (.int .i64 3))⟩] [6, 7, 8])
   (.ret)) (.skip)))
   (.seq (.region [⟨some 18, none, .mov (.t 0)⟩,
    ⟨some 19, none, .mov (.t 7)⟩,
    ⟨some 20, none, .iaV 1 (.t 18) (.t 19)⟩,
    ⟨some 21, none, .ld 1 false (.t 20)⟩,
    ⟨some 10, none, .mov (.t 21)⟩] [0, 1, 2, 6, 7, 9, 10])
   (.seq (.region [⟨some 22, none, .mov (.t 7)⟩,
    ⟨some 23, none, .bin .add (.t 22) (.c (.int .i64 1))⟩,
    ⟨some 7, none, .mov (.t 23)⟩] [0, 1, 2, 6, 7, 9, 10])
   (.seq (.seq (.region [⟨some 24, none, .mov (.t 1)⟩,
    ⟨some 25, none, .mov (.t 9)⟩,
    ⟨some 26, none, .bin .sub (.t 24) (.t 25)⟩,
    ⟨some 11, none, .mov (.t 26)⟩] [0, 1, 2, 6, 7, 9, 10, 11])
   (.seq (.region [⟨some 27, none, .mov (.t 11)⟩,
    ⟨some 28, none, .bin .leq (.t 27) (.c (.int .i64 7))⟩,
    ⟨some 29, none, .mov (.t 28)⟩,
    ⟨some 30, some (29, true), .mov (.t 10)⟩,
    ⟨some 31, some (29, true), .mov (.t 11)⟩,
    ⟨some 32, some (29, true), .mov (.t 2)⟩,
    ⟨some 33, some (29, true), .call 100 [.t 30, .t 31, .t 32]⟩,
    ⟨some 34, some (29, true), .un .not (.t 33)⟩,
    ⟨some 35, none, .pick (.t 29) (.t 34) (.c (.bool false))⟩] [0, 1, 2, 6, 7, 9, 10, 35])
   (.cond (.t 35) (.seq (.region [⟨some 6, none, .mov (.c (.int .u64 0))⟩,
    ⟨some 7, none, .mov (.c (.int .i64 0))⟩,
    ⟨some 8, none, .mov (.c (.int .i64 2))⟩] [6, 7, 8])
   (.ret)) (.skip))))
   (.seq (.region [⟨some 36, none, .mov (.t 6)⟩,
    ⟨some 37, none, .mov (.t 10)⟩,
    ⟨some 38, none, .bin .and (.t 37) (.c (.int .u8 127))⟩,
    ⟨some 39, none, .conv .u64 (.t 38)⟩,
    ⟨some 40, none, .mov (.t 9)⟩,
    ⟨some 41, none, .bin .shl (.t 39) (.t 40)⟩,
    ⟨some 42, none, .bin .or (.t 36) (.t 41)⟩,
    ⟨some 6, none, .mov (.t 42)⟩] [0, 1, 2, 6, 7, 9, 10])
   (.seq (.seq (.region [⟨some 43, none, .mov (.t 10)⟩,
    ⟨some 44, none, .bin .and (.t 43) (.c (.int .u8 128))⟩,
    ⟨some 45, none, .bin .neq (.t 44) (.c (.int .u8 0))⟩] [0, 1, 2, 6, 7, 9, 10, 45])
   (.cond (.t 45) (.exit 1) (.skip)))
   (.seq (.seq (.region [⟨some 46, none, .mov (.t 2)⟩,
    ⟨some 47, none, .mov (.t 46)⟩,
    ⟨some 48, some (47, true), .mov (.t 10)⟩,
    ⟨some 49, some (47, true), .bin .and (.t 48) (.c (.int .u8 64))⟩,
    ⟨some 50, some (47, true), .bin .neq (.t 49) (.c (.int .u8 0))⟩,
    ⟨some 51, none, .pick (.t 47) (.t 50) (.c (.bool false))⟩,
    ⟨some 52, none, .mov (.t 51)⟩,
    ⟨some 53, some (52, true), .mov (.t 9)⟩,
    ⟨some 54, some (52, true), .bin .add (.t 53) (.c (.int .i64 7))⟩,
    ⟨some 55, some (52, true), .bin .lss (.t 54) (.c (.int .i64 64))⟩,
    ⟨some 56, none, .pick (.t 52) (.t 55) (.c (.bool false))⟩] [6, 7, 9, 56])
   (.cond (.t 56) (.region [⟨some 57, none, .mov (.t 6)⟩,
    ⟨some 58, none, .mov (.t 9)⟩,
    ⟨some 59, none, .bin .add (.t 58) (.c (.int .i64 7))⟩,
    ⟨some 60, none, .bin .shl (.c (.int .u64 18446744073709551615)) (.t 59)⟩,
    ⟨some 61, none, .bin .or (.t 57) (.t 60)⟩,
    ⟨some 6, none, .mov (.t 61)⟩] [6, 7]) (.skip)))
   (.seq (.region [⟨some 62, none, .mov (.t 6)⟩,
    ⟨some 63, none, .mov (.t 7)⟩,
    ⟨some 6, none, .mov (.t 62)⟩,
    ⟨some 7, none, .mov (.t 63)⟩,
    ⟨some 8, none, .mov (.c (.int .i64 0))⟩] [6, 7, 8])
   (.ret))))))))))
   (.region [⟨some 12, none, .mov (.t 9)⟩,
    ⟨some 13, none, .bin .add (.t 12) (.c (.int .i64 7))⟩,
    ⟨some 9, none, .mov (.t 13)⟩] [0, 1, 2, 6, 7, 9]))))),
  [.t 6, .t 7, .t 8], 64, 3⟩
def A96 : Ann := ⟨[(0, [0, 1, 2, 6, 7]), (1, [0, 1, 2, 6, 7, 9]), (2, [0, 1, 2, 6, 7, 9]), (3, [0, 1, 2, 6, 7, 9, 17]), (4, [6, 7, 8]), (5, [0, 1, 2, 6, 7, 9, 10]), (6, [0, 1, 2, 6, 7, 9, 10]), (7, [0, 1, 2, 6, 7, 9, 10, 11]), (8, [0, 1, 2, 6, 7, 9, 10, 35]), (9, [6, 7, 8]), (10, [0, 1, 2, 6, 7, 9, 10]), (11, [0, 1, 2, 6, 7, 9, 10, 45]), (12, [6, 7, 9, 56]), (13, [6, 7]), (14, [6, 7, 8])], []⟩
set_option maxRecDepth 100000 in
theorem F96.ok : compF Try.prog A96 Try.f96 = some F96 := by kernel_rfl
theorem F96.fok : FOk Try.prog 96 F96 := fok_of mixed Try.func96 F96.ok

/-- cloakroom/leb.U32 -/
def F97 : SFn := ⟨.seq (.region [⟨some 2, none, .mov (.c (.int .u32 0))⟩,
    ⟨some 3, none, .mov (.c (.int .i64 0))⟩,
    ⟨some 4, none, .mov (.c (.int .i64 0))⟩] [0])
   (.seq (.region [⟨some 7, none, .mov (.t 0)⟩,
    ⟨some 8, none, .call 96 [.t 7, .c (.int .i64 32), .c (.bool false)]⟩,
    ⟨some 6, none, .mov (.t 8)⟩,
    ⟨some 9, none, .ext (.t 6) 0⟩,
    ⟨some 10, none, .ext (.t 6) 1⟩,
    ⟨some 11, none, .ext (.t 6) 2⟩,
    ⟨some 5, none, .mov (.t 9)⟩,
    ⟨some 3, none, .mov (.t 10)⟩,
    ⟨some 4, none, .mov (.t 11)⟩] [3, 4, 5])
   (.seq (.region [⟨some 12, none, .mov (.t 5)⟩,
    ⟨some 13, none, .conv .u32 (.t 12)⟩,
    ⟨some 14, none, .mov (.t 3)⟩,
    ⟨some 15, none, .mov (.t 4)⟩,
    ⟨some 2, none, .mov (.t 13)⟩,
    ⟨some 3, none, .mov (.t 14)⟩,
    ⟨some 4, none, .mov (.t 15)⟩] [2, 3, 4])
   (.ret))),
  [.t 2, .t 3, .t 4], 16, 1⟩
def A97 : Ann := ⟨[(0, [0]), (1, [3, 4, 5]), (2, [2, 3, 4])], []⟩
set_option maxRecDepth 100000 in
theorem F97.ok : compF Try.prog A97 Try.f97 = some F97 := by kernel_rfl
theorem F97.fok : FOk Try.prog 97 F97 := fok_of mixed Try.func97 F97.ok

/-- slices.Grow[[]byte,byte] -/
def F98 : SFn := ⟨.seq (.region [⟨some 4, none, .mov (.c (.slice none 0 0))⟩] [0, 1])
   (.seq (.seq (.region [⟨some 5, none, .mov (.t 1)⟩,
    ⟨some 6, none, .bin .lss (.t 5) (.c (.int .i64 0))⟩] [0, 1, 6])
   (.cond (.t 6) (.region [⟨some 7, none, .bad⟩,
    ⟨none, none, .bad⟩] [0, 1]) (.skip)))
   (.seq (.seq (.region [⟨some 8, none, .mov (.t 1)⟩,
    ⟨some 9, none, .mov (.t 0)⟩,
    ⟨some 10, none, .capV (.t 9)⟩,
    ⟨some 11, none, .mov (.t 0)⟩,
    ⟨some 12, none, .lenV (.t 11)⟩,
    ⟨some 13, none, .bin .sub (.t 10) (.t 12)⟩,
    ⟨some 14, none, .bin .sub (.t 8) (.t 13)⟩,
    ⟨some 1, none, .mov (.t 14)⟩] [0, 1])
   (.seq (.region [⟨some 15, none, .mov (.t 1)⟩,
    ⟨some 16, none, .bin .gtr (.t 15) (.c (.int .i64 0))⟩] [0, 1, 16])
   (.cond (.t 16) (.region [⟨some 17, none, .mov (.t 0)⟩,
    ⟨some 18, none, .mov (.t 0)⟩,
    ⟨some 19, none, .capV (.t 18)⟩,
    ⟨some 20, none, .slV 1 (.t 17) none (some (.t 19)) none⟩,
    ⟨some 21, none, .mov (.t 1)⟩,
    ⟨some 22, none, .appZ 1 1 [.int .u8 0] (.t 20) (.t 21)⟩,
    ⟨some 23, none, .mov (.t 0)⟩,
    ⟨some 24, none, .lenV (.t 23)⟩,
    ⟨some 25, none, .slV 1 (.t 22) none (some (.t 24)) none⟩,
    ⟨some 0, none, .mov (.t 25)⟩] [0]) (.skip))))
   (.seq (.region [⟨some 26, none, .mov (.t 0)⟩,
    ⟨some 4, none, .mov (.t 26)⟩] [4])
   (.ret)))),
  [.t 4], 27, 2⟩
def A98 : Ann := ⟨[(0, [0, 1]), (1, [0, 1, 6]), (2, [0, 1]), (3, [0, 1]), (4, [0, 1, 16]), (5, [0]), (6, [4])], []⟩
set_option maxRecDepth 100000 in
theorem F98.ok : compF Try.prog A98 Try.f98 = some F98 := by kernel_rfl
theorem F98.fok : FOk Try.prog 98 F98 := fok_of mixed Try.func98 F98.ok

/-- cloakroom/leb.last -/
def F100 : SFn := ⟨.seq (.region [⟨some 6, none, .mov (.c (.bool false))⟩] [0, 1, 2])
   (.seq (.seq (.region [⟨some 8, none, .mov (.t 0)⟩,
    ⟨some 9, none, .bin .and (.t 8) (.c (.int .u8 128))⟩,
    ⟨some 10, none, .bin .neq (.t 9) (.c (.int .u8 0))⟩] [0, 1, 2, 10])
   (.cond (.t 10) (.seq (.region [⟨some 6, none, .mov (.c (.bool false))⟩] [6])
   (.ret)) (.skip)))
   (.seq (.seq (.region [⟨some 11, none, .mov (.t 2)⟩,
    ⟨some 12, none, .un .not (.t 11)⟩] [0, 1, 12])
   (.cond (.t 12) (.seq (.region [⟨some 13, none, .mov (.t 0)⟩,
    ⟨some 14, none, .mov (.t 1)⟩,
    ⟨some 15, none, .bin .shr (.t 13) (.t 14)⟩,
    ⟨some 16, none, .bin .eql (.t 15) (.c (.int .u8 0))⟩,
    ⟨some 6, none, .mov (.t 16)⟩] [6])
   (.ret)) (.skip)))
   (.seq (.region [⟨some 17, none, .mov (.t 0)⟩,
    ⟨some 18, none, .mov (.t 1)⟩,
    ⟨some 19, none, .bin .sub (.t 18) (.c (.int .i64 1))⟩,
    ⟨some 20, none, .bin .shr (.t 17) (.t 19)⟩,
    ⟨some 7, none, .mov (.t 20)⟩] [1, 7])
   (.seq (.region [⟨some 21, none, .mov (.t 7)⟩,
    ⟨some 22, none, .bin .eql (.t 21) (.c (.int .u8 0))⟩,
    ⟨some 23, none, .mov (.t 22)⟩,
    ⟨some 24, some (23, false), .mov (.t 7)⟩,
    ⟨some 25, some (23, false), .mov (.t 1)⟩,
    ⟨some 26, some (23, false), .bin .sub (.t 25) (.c (.int .i64 1))⟩,
    ⟨some 27, some (23, false), .bin .shr (.c (.int .u8 127)) (.t 26)⟩,
    ⟨some 28, some (23, false), .bin .eql (.t 24) (.t 27)⟩,
    ⟨some 29, none, .pick (.t 23) (.c (.bool true)) (.t 28)⟩,
    ⟨some 6, none, .mov (.t 29)⟩] [6])
   (.ret))))),
  [.t 6], 30, 3⟩
def A100 : Ann := ⟨[(0, [0, 1, 2]), (1, [0, 1, 2, 10]), (2, [6]), (3, [0, 1, 12]), (4, [6]), (5, [1, 7]), (6, [6])], []⟩
set_option maxRecDepth 100000 in
theorem F100.ok : compF Try.prog A100 Try.f100 = some F100 := by kernel_rfl
theorem F100.fok : FOk Try.prog 100 F100 := fok_of mixed Try.func100 F100.ok
end Go.Dx.SYtkppbmhpcjjceaa
