/- The readings of functions, printed by a program of the prover's own. -/
import Derived.Test.YtkppbmhpcjjceaaDx19
import Derived.Test.YtkppbmhpcjjceaaChecked
import Derived.Eval
import Derived.Test.YtkppbmhpcjjceaaDxLF0
namespace Go.Dx.SYtkppbmhpcjjceaa
open Go.Proofs
set_option linter.unusedVariables false
/-- cloakroom/frame.New -/
def F66 : SFn := ⟨.seq (.region [⟨some 0, none, .mov (.c (.pointer none))⟩] [])
   (.seq (.region [⟨some 1, none, .build [.slice none 0 0, .bool false] []⟩,
    ⟨some 2, none, .box (.t 1)⟩,
    ⟨some 0, none, .mov (.t 2)⟩] [0])
   (.ret)),
  [.t 0], 3, 0⟩
def A66 : Ann := ⟨[(0, []), (1, [0])], []⟩
set_option maxRecDepth 100000 in
theorem F66.ok : compF Try.prog A66 Try.f66 = some F66 := by kernel_rfl
theorem F66.fok : FOk Try.prog 66 F66 := fok_of mixed Try.func66 F66.ok

/-- cloakroom/handle.New -/
def F67 : SFn := ⟨.seq (.region [⟨some 0, none, .mov (.c (.pointer none))⟩] [])
   (.seq (.region [⟨some 1, none, .mkMap⟩,
    ⟨some 2, none, .build [.map none, .int .u64 0] [(0, 1, .t 1)]⟩,
    ⟨some 3, none, .box (.t 2)⟩,
    ⟨some 0, none, .mov (.t 3)⟩] [0])
   (.ret)),
  [.t 0], 4, 0⟩
def A67 : Ann := ⟨[(0, []), (1, [0])], []⟩
set_option maxRecDepth 100000 in
theorem F67.ok : compF Try.prog A67 Try.f67 = some F67 := by kernel_rfl
theorem F67.fok : FOk Try.prog 67 F67 := fok_of mixed Try.func67 F67.ok

/-- cloakroom/token.New -/
def F68 : SFn := ⟨.seq (.region [⟨some 0, none, .mov (.c (.pointer none))⟩] [])
   (.seq (.region [⟨some 1, none, .build [.slice none 0 0] []⟩,
    ⟨some 2, none, .box (.t 1)⟩,
    ⟨some 0, none, .mov (.t 2)⟩] [0])
   (.ret)),
  [.t 0], 3, 0⟩
def A68 : Ann := ⟨[(0, []), (1, [0])], []⟩
set_option maxRecDepth 100000 in
theorem F68.ok : compF Try.prog A68 Try.f68 = some F68 := by kernel_rfl
theorem F68.fok : FOk Try.prog 68 F68 := fok_of mixed Try.func68 F68.ok

/-- (*cloakroom/frame.Parts).Bad -/
def F69 : SFn := ⟨.seq (.region [⟨some 2, none, .mov (.c (.bool false))⟩] [0])
   (.seq (.region [⟨some 3, none, .mov (.t 0)⟩,
    ⟨some 4, none, .eqk true .ptr (.t 3) (.c (.pointer none))⟩,
    ⟨some 5, none, .mov (.t 4)⟩,
    ⟨some 6, some (5, true), .mov (.t 0)⟩,
    ⟨some 7, some (5, true), .nilc (.t 6)⟩,
    ⟨some 8, some (5, true), .fa 1 (.t 7)⟩,
    ⟨some 9, some (5, true), .ld 1 false (.t 8)⟩,
    ⟨some 10, none, .pick (.t 5) (.t 9) (.c (.bool false))⟩,
    ⟨some 2, none, .mov (.t 10)⟩] [2])
   (.ret)),
  [.t 2], 11, 1⟩
def A69 : Ann := ⟨[(0, [0]), (1, [2])], []⟩
set_option maxRecDepth 100000 in
theorem F69.ok : compF Try.prog A69 Try.f69 = some F69 := by kernel_rfl
theorem F69.fok : FOk Try.prog 69 F69 := fok_of mixed Try.func69 F69.ok

/-- (*cloakroom/frame.Parts).Add -/
def F70 : SFn := ⟨.seq (.region [⟨some 4, none, .mov (.c (.slice none 0 0))⟩,
    ⟨some 5, none, .mov (.c (.int .i64 0))⟩] [0, 1, 4])
   (.seq (.block 0 (.seq (.region [⟨some 10, none, .mov (.t 0)⟩,
    ⟨some 11, none, .eqk false .ptr (.t 10) (.c (.pointer none))⟩,
    ⟨some 9, none, .mov (.t 11)⟩] [0, 1, 4, 9])
   (.cond (.t 9) (.seq (.region [⟨some 4, none, .mov (.c (.slice none 0 0))⟩,
    ⟨some 5, none, .mov (.c (.int .i64 1))⟩] [4, 5])
   (.ret)) (.seq (.region [⟨some 13, none, .mov (.t 0)⟩,
    ⟨some 14, none, .nilc (.t 13)⟩,
    ⟨some 15, none, .fa 1 (.t 14)⟩,
    ⟨some 16, none, .ld 1 false (.t 15)⟩,
    ⟨some 12, none, .mov (.t 16)⟩] [0, 1, 4, 12])
   (.cond (.t 12) (.seq (.region [⟨some 4, none, .mov (.c (.slice none 0 0))⟩,
    ⟨some 5, none, .mov (.c (.int .i64 4))⟩] [4, 5])
   (.ret)) (.skip))))))
   (.seq (.region [⟨some 17, none, .mov (.t 0)⟩,
    ⟨some 18, none, .mov (.t 0)⟩,
    ⟨some 19, none, .nilc (.t 18)⟩,
    ⟨some 20, none, .fa 0 (.t 19)⟩,
    ⟨some 21, none, .fa 0 (.t 20)⟩,
    ⟨some 22, none, .ld 1 false (.t 21)⟩,
    ⟨some 23, none, .mov (.t 1)⟩,
    ⟨some 24, none, .bslice 2 1 [.slice none 0 0] [(0, 1, .t 22), (1, 1, .t 23)]⟩,
    ⟨some 25, none, .call 89 [.t 24]⟩,
    ⟨some 26, none, .nilc (.t 17)⟩,
    ⟨some 27, none, .fa 0 (.t 26)⟩,
    ⟨some 28, none, .fa 0 (.t 27)⟩,
    ⟨none, none, .st 1 (.t 28) (.t 25)⟩] [0, 4])
   (.block 1 (.loop (.block 2 (.seq (.region [⟨some 30, none, .mov (.t 0)⟩,
    ⟨some 31, none, .nilc (.t 30)⟩,
    ⟨some 32, none, .fa 0 (.t 31)⟩,
    ⟨some 33, none, .call 90 [.t 32]⟩,
    ⟨some 29, none, .mov (.t 33)⟩,
    ⟨some 34, none, .ext (.t 29) 0⟩,
    ⟨some 35, none, .ext (.t 29) 1⟩,
    ⟨some 36, none, .ext (.t 29) 2⟩,
    ⟨some 6, none, .mov (.t 34)⟩,
    ⟨some 7, none, .mov (.t 35)⟩,
    ⟨some 8, none, .mov (.t 36)⟩] [0, 4, 6, 7, 8])
   (.seq (.seq (.region [⟨some 37, none, .mov (.t 8)⟩] [0, 4, 6, 7, 37])
   (.cond (.t 37) (.seq (.region [⟨some 38, none, .mov (.t 0)⟩,
    ⟨some 39, none, .mov (.t 0)⟩,
    ⟨some 40, none, .nilc (.t 38)⟩,
    ⟨some 41, none, .fa 0 (.t 40)⟩,
    ⟨some 42, none, .fa 0 (.t 41)⟩,
    ⟨none, none, .st 1 (.t 42) (.c (.slice none 0 0))⟩,
    ⟨some 43, none, .nilc (.t 39)⟩,
    ⟨some 44, none, .fa 1 (.t 43)⟩,
    ⟨none, none, .st 1 (.t 44) (.c (.bool true))⟩] [4])
   (.seq (.region [⟨some 45, none, .mov (.t 4)⟩,
    ⟨some 4, none, .mov (.t 45)⟩,
    ⟨some 5, none, .mov (.c (.int .i64 4))⟩] [4, 5])
   (.ret))) (.skip)))
   (.seq (.seq (.region [⟨some 46, none, .mov (.t 7)⟩,
    ⟨some 47, none, .un .not (.t 46)⟩] [0, 4, 6, 47])
   (.cond (.t 47) (.seq (.region [⟨some 48, none, .mov (.t 4)⟩,
    ⟨some 4, none, .mov (.t 48)⟩,
    ⟨some 5, none, .mov (.c (.int .i64 0))⟩] [4, 5])
   (.ret)) (.skip)))
   (.region [⟨some 49, none, .mov (.t 4)⟩,
    ⟨some 50, none, .mov (.t 6)⟩,
    ⟨some 51, none, .bslice 1 1 [.slice none 0 0] [(0, 1, .t 50)]⟩,
    ⟨some 52, none, .app 1 24 (.t 49) (.t 51)⟩,
    ⟨some 4, none, .mov (.t 52)⟩] [0, 4]))))))))),
  [.t 4, .t 5], 53, 2⟩
def A70 : Ann := ⟨[(0, [0, 1, 4]), (1, [0, 1, 4, 9]), (2, [4, 5]), (3, [0, 1, 4, 12]), (4, [4, 5]), (5, [0, 4]), (6, [0, 4, 6, 7, 8]), (7, [0, 4, 6, 7, 37]), (8, [4]), (9, [4, 5]), (10, [0, 4, 6, 47]), (11, [4, 5]), (12, [0, 4])], []⟩
set_option maxRecDepth 100000 in
theorem F70.ok : compF Try.prog A70 Try.f70 = some F70 := by kernel_rfl
theorem F70.fok : FOk Try.prog 70 F70 := fok_of mixed Try.func70 F70.ok

/-- cloakroom/frame.Put -/
def F71 : SFn := ⟨.seq (.region [⟨some 2, none, .mov (.c (.slice none 0 0))⟩] [0])
   (.seq (.region [⟨some 4, none, .mov (.t 0)⟩,
    ⟨some 5, none, .lenV (.t 4)⟩,
    ⟨some 3, none, .mov (.t 5)⟩] [0, 3])
   (.seq (.seq (.region [⟨some 6, none, .mov (.t 3)⟩,
    ⟨some 7, none, .bin .gtr (.t 6) (.c (.int .i64 5000))⟩] [0, 3, 7])
   (.cond (.t 7) (.seq (.region [⟨some 2, none, .mov (.c (.slice none 0 0))⟩] [2])
   (.ret)) (.skip)))
   (.seq (.region [⟨some 8, none, .mov (.t 3)⟩,
    ⟨some 9, none, .bin .shr (.t 8) (.c (.int .u64 8))⟩,
    ⟨some 10, none, .conv .u8 (.t 9)⟩,
    ⟨some 11, none, .mov (.t 3)⟩,
    ⟨some 12, none, .conv .u8 (.t 11)⟩,
    ⟨some 13, none, .bslice 2 1 [.int .u8 0] [(0, 1, .t 10), (1, 1, .t 12)]⟩,
    ⟨some 14, none, .mov (.t 0)⟩,
    ⟨some 15, none, .app 1 1 (.t 13) (.t 14)⟩,
    ⟨some 2, none, .mov (.t 15)⟩] [2])
   (.ret)))),
  [.t 2], 16, 1⟩
def A71 : Ann := ⟨[(0, [0]), (1, [0, 3]), (2, [0, 3, 7]), (3, [2]), (4, [2])], []⟩
set_option maxRecDepth 100000 in
theorem F71.ok : compF Try.prog A71 Try.f71 = some F71 := by kernel_rfl
theorem F71.fok : FOk Try.prog 71 F71 := fok_of mixed Try.func71 F71.ok

/-- slices.Clone[[]byte,byte] -/
def F72 : SFn := ⟨.seq (.region [⟨some 2, none, .mov (.c (.slice none 0 0))⟩] [0])
   (.seq (.seq (.region [⟨some 3, none, .mov (.t 0)⟩,
    ⟨some 4, none, .eqk false .slice (.t 3) (.c (.slice none 0 0))⟩] [0, 4])
   (.cond (.t 4) (.seq (.region [⟨some 2, none, .mov (.c (.slice none 0 0))⟩] [2])
   (.ret)) (.skip)))
   (.seq (.region [⟨some 5, none, .bslice 0 1 [.int .u8 0] []⟩,
    ⟨some 6, none, .mov (.t 0)⟩,
    ⟨some 7, none, .app 1 1 (.t 5) (.t 6)⟩,
    ⟨some 2, none, .mov (.t 7)⟩] [2])
   (.ret))),
  [.t 2], 8, 1⟩
def A72 : Ann := ⟨[(0, [0]), (1, [0, 4]), (2, [2]), (3, [2])], []⟩
set_option maxRecDepth 100000 in
theorem F72.ok : compF Try.prog A72 Try.f72 = some F72 := by kernel_rfl
theorem F72.fok : FOk Try.prog 72 F72 := fok_of mixed Try.func72 F72.ok

/-- (*cloakroom/cloakroomref1.Parts).Add -/
def F73 : SFn := ⟨.seq (.region [⟨some 4, none, .mov (.c (.slice none 0 0))⟩,
    ⟨some 5, none, .mov (.c (.int .i64 0))⟩] [0, 1])
   (.seq (.seq (.region [⟨some 8, none, .mov (.t 0)⟩,
    ⟨some 9, none, .nilc (.t 8)⟩,
    ⟨some 10, none, .fa 1 (.t 9)⟩,
    ⟨some 11, none, .ld 1 false (.t 10)⟩] [0, 1, 11])
   (.cond (.t 11) (.seq (.region [⟨some 4, none, .mov (.c (.slice none 0 0))⟩,
    ⟨some 5, none, .mov (.c (.int .i64 4))⟩] [4, 5])
   (.ret)) (.skip)))
   (.seq (.region [⟨some 12, none, .mov (.t 0)⟩,
    ⟨some 13, none, .bslice 0 1 [.int .u8 0] []⟩,
    ⟨some 14, none, .mov (.t 0)⟩,
    ⟨some 15, none, .nilc (.t 14)⟩,
    ⟨some 16, none, .fa 0 (.t 15)⟩,
    ⟨some 17, none, .ld 1 false (.t 16)⟩,
    ⟨some 18, none, .app 1 1 (.t 13) (.t 17)⟩,
    ⟨some 19, none, .mov (.t 1)⟩,
    ⟨some 20, none, .app 1 1 (.t 18) (.t 19)⟩,
    ⟨some 21, none, .nilc (.t 12)⟩,
    ⟨some 22, none, .fa 0 (.t 21)⟩,
    ⟨none, none, .st 1 (.t 22) (.t 20)⟩] [0])
   (.seq (.region [⟨some 6, none, .mov (.c (.slice none 0 0))⟩] [0, 6])
   (.seq (.block 0 (.loop (.seq (.seq (.region [⟨some 23, none, .mov (.t 0)⟩,
    ⟨some 24, none, .nilc (.t 23)⟩,
    ⟨some 25, none, .fa 0 (.t 24)⟩,
    ⟨some 26, none, .ld 1 false (.t 25)⟩,
    ⟨some 27, none, .lenV (.t 26)⟩,
    ⟨some 28, none, .bin .geq (.t 27) (.c (.int .i64 2))⟩] [0, 6, 28])
   (.cond (.t 28) (.skip) (.exit 0)))
   (.block 1 (.seq (.region [⟨some 29, none, .mov (.t 0)⟩,
    ⟨some 30, none, .nilc (.t 29)⟩,
    ⟨some 31, none, .fa 0 (.t 30)⟩,
    ⟨some 32, none, .ld 1 false (.t 31)⟩,
    ⟨some 33, none, .iaV 1 (.t 32) (.c (.int .i64 0))⟩,
    ⟨some 34, none, .ld 1 false (.t 33)⟩,
    ⟨some 35, none, .conv .i64 (.t 34)⟩,
    ⟨some 36, none, .bin .mul (.t 35) (.c (.int .i64 256))⟩,
    ⟨some 37, none, .mov (.t 0)⟩,
    ⟨some 38, none, .nilc (.t 37)⟩,
    ⟨some 39, none, .fa 0 (.t 38)⟩,
    ⟨some 40, none, .ld 1 false (.t 39)⟩,
    ⟨some 41, none, .iaV 1 (.t 40) (.c (.int .i64 1))⟩,
    ⟨some 42, none, .ld 1 false (.t 41)⟩,
    ⟨some 43, none, .conv .i64 (.t 42)⟩,
    ⟨some 44, none, .bin .add (.t 36) (.t 43)⟩,
    ⟨some 7, none, .mov (.t 44)⟩] [0, 6, 7])
   (.seq (.seq (.region [⟨some 45, none, .mov (.t 7)⟩,
    ⟨some 46, none, .bin .gtr (.t 45) (.c (.int .i64 5000))⟩] [0, 6, 7, 46])
   (.cond (.t 46) (.seq (.region [⟨some 47, none, .mov (.t 0)⟩,
    ⟨some 48, none, .mov (.t 0)⟩,
    ⟨some 49, none, .nilc (.t 47)⟩,
    ⟨some 50, none, .fa 0 (.t 49)⟩,
    ⟨none, none, .st 1 (.t 50) (.c (.slice none 0 0))⟩,
    ⟨some 51, none, .nilc (.t 48)⟩,
    ⟨some 52, none, .fa 1 (.t 51)⟩,
    ⟨none, none, .st 1 (.t 52) (.c (.bool true))⟩] [6])
   (.seq (.region [⟨some 53, none, .mov (.t 6)⟩,
    ⟨some 4, none, .mov (.t 53)⟩,
    ⟨some 5, none, .mov (.c (.int .i64 4))⟩] [4, 5])
   (.ret))) (.skip)))
   (.seq (.seq (.region [⟨some 54, none, .mov (.t 0)⟩,
    ⟨some 55, none, .nilc (.t 54)⟩,
    ⟨some 56, none, .fa 0 (.t 55)⟩,
    ⟨some 57, none, .ld 1 false (.t 56)⟩,
    ⟨some 58, none, .lenV (.t 57)⟩,
    ⟨some 59, none, .bin .sub (.t 58) (.c (.int .i64 2))⟩,
    ⟨some 60, none, .mov (.t 7)⟩,
    ⟨some 61, none, .bin .lss (.t 59) (.t 60)⟩] [0, 6, 7, 61])
   (.cond (.t 61) (.exit 0) (.skip)))
   (.seq (.region [⟨some 62, none, .mov (.t 6)⟩,
    ⟨some 63, none, .bslice 0 1 [.int .u8 0] []⟩,
    ⟨some 64, none, .mov (.t 0)⟩,
    ⟨some 65, none, .nilc (.t 64)⟩,
    ⟨some 66, none, .fa 0 (.t 65)⟩,
    ⟨some 67, none, .ld 1 false (.t 66)⟩,
    ⟨some 68, none, .mov (.t 7)⟩,
    ⟨some 69, none, .bin .add (.c (.int .i64 2)) (.t 68)⟩,
    ⟨some 70, none, .slV 1 (.t 67) (some (.c (.int .i64 2))) (some (.t 69)) none⟩,
    ⟨some 71, none, .app 1 1 (.t 63) (.t 70)⟩,
    ⟨some 72, none, .bslice 1 1 [.slice none 0 0] [(0, 1, .t 71)]⟩,
    ⟨some 73, none, .app 1 24 (.t 62) (.t 72)⟩,
    ⟨some 6, none, .mov (.t 73)⟩] [0, 6, 7])
   (.region [⟨some 74, none, .mov (.t 0)⟩,
    ⟨some 75, none, .bslice 0 1 [.int .u8 0] []⟩,
    ⟨some 76, none, .mov (.t 0)⟩,
    ⟨some 77, none, .nilc (.t 76)⟩,
    ⟨some 78, none, .fa 0 (.t 77)⟩,
    ⟨some 79, none, .ld 1 false (.t 78)⟩,
    ⟨some 80, none, .mov (.t 7)⟩,
    ⟨some 81, none, .bin .add (.c (.int .i64 2)) (.t 80)⟩,
    ⟨some 82, none, .slV 1 (.t 79) (some (.t 81)) none none⟩,
    ⟨some 83, none, .app 1 1 (.t 75) (.t 82)⟩,
    ⟨some 84, none, .nilc (.t 74)⟩,
    ⟨some 85, none, .fa 0 (.t 84)⟩,
    ⟨none, none, .st 1 (.t 85) (.t 83)⟩] [0, 6])))))))))
   (.seq (.region [⟨some 86, none, .mov (.t 6)⟩,
    ⟨some 4, none, .mov (.t 86)⟩,
    ⟨some 5, none, .mov (.c (.int .i64 0))⟩] [4, 5])
   (.ret)))))),
  [.t 4, .t 5], 87, 2⟩
def A73 : Ann := ⟨[(0, [0, 1]), (1, [0, 1, 11]), (2, [4, 5]), (3, [0]), (4, [0, 6]), (5, [0, 6, 28]), (6, [0, 6, 7]), (7, [0, 6, 7, 46]), (8, [6]), (9, [4, 5]), (10, [0, 6, 7, 61]), (11, [0, 6, 7]), (12, [0, 6]), (13, [4, 5])], [(6, [(0, []), (1, []), (2, []), (3, []), (4, []), (5, []), (6, []), (7, []), (8, []), (9, []), (10, []), (11, []), (12, []), (13, []), (14, []), (15, []), (16, [])], [(1, [0]), (2, [0, 1]), (3, [0, 1, 2]), (4, [0, 1, 2, 3]), (5, [0, 1, 2, 3, 4]), (6, [0, 1, 2, 3, 4, 5]), (7, [0, 1, 2, 3, 4, 5, 6]), (9, [8]), (10, [8, 9]), (11, [8, 9, 10]), (12, [8, 9, 10, 11]), (13, [8, 9, 10, 11, 12]), (14, [8, 9, 10, 11, 12, 13]), (15, [0, 1, 2, 3, 4, 5, 6, 7, 8, 9, 10, 11, 12, 13, 14]), (16, [0, 1, 2, 3, 4, 5, 6, 7, 8, 9, 10, 11, 12, 13, 14, 15])])]⟩
set_option maxRecDepth 100000 in
theorem F73.ok : compF Try.prog A73 Try.f73 = some F73 := by kernel_rfl
theorem F73.fok : FOk Try.prog 73 F73 := fok_of mixed Try.func73 F73.ok

/-- cloakroom/cloakroomref1.PutReply -/
def F74 : SFn := ⟨.seq (.region [⟨some 1, none, .box (.t 0)⟩,
    ⟨some 2, none, .mov (.c (.slice none 0 0))⟩] [1])
   (.seq (.region [⟨some 5, none, .fa 0 (.t 1)⟩,
    ⟨some 6, none, .ld 1 false (.t 5)⟩,
    ⟨some 8, none, .fa 1 (.t 1)⟩,
    ⟨some 9, none, .ld 1 false (.t 8)⟩,
    ⟨some 10, none, .conv .u8 (.t 9)⟩,
    ⟨some 11, none, .bslice 1 1 [.int .u8 0] [(0, 1, .t 10)]⟩,
    ⟨some 13, none, .fa 2 (.t 1)⟩,
    ⟨some 14, none, .ld 1 false (.t 13)⟩,
    ⟨some 7, none, .call 57 [.c (.slice none 0 0), .t 6]⟩,
    ⟨none, none, .chk 1 false (.t 8) 9⟩,
    ⟨none, none, .chk 1 false (.t 13) 14⟩,
    ⟨some 12, none, .app 1 1 (.t 7) (.t 11)⟩,
    ⟨none, none, .chk 1 false (.t 13) 14⟩,
    ⟨some 15, none, .call 59 [.t 12, .t 14]⟩,
    ⟨some 3, none, .mov (.t 15)⟩] [1, 3])
   (.seq (.region [⟨some 16, none, .mov (.t 3)⟩,
    ⟨some 17, none, .fa 3 (.t 1)⟩,
    ⟨some 18, none, .ld 1 false (.t 17)⟩,
    ⟨some 19, none, .lenV (.t 18)⟩,
    ⟨some 20, none, .conv .u64 (.t 19)⟩,
    ⟨some 21, none, .call 59 [.t 16, .t 20]⟩,
    ⟨some 3, none, .mov (.t 21)⟩] [1, 3])
   (.seq (.seq (.region [⟨some 4, none, .mov (.c (.int .i64 0))⟩] [1, 3, 4])
   (.block 0 (.loop (.seq (.seq (.region [⟨some 22, none, .mov (.t 4)⟩,
    ⟨some 23, none, .fa 3 (.t 1)⟩,
    ⟨some 24, none, .ld 1 false (.t 23)⟩,
    ⟨some 25, none, .lenV (.t 24)⟩,
    ⟨some 26, none, .bin .lss (.t 22) (.t 25)⟩] [1, 3, 4, 26])
   (.cond (.t 26) (.skip) (.exit 0)))
   (.seq (.block 1 (.region [⟨some 29, none, .mov (.t 3)⟩,
    ⟨some 30, none, .fa 3 (.t 1)⟩,
    ⟨some 31, none, .ld 1 false (.t 30)⟩,
    ⟨some 32, none, .mov (.t 4)⟩,
    ⟨some 33, none, .iaV 1 (.t 31) (.t 32)⟩,
    ⟨some 34, none, .ld 1 false (.t 33)⟩,
    ⟨some 35, none, .call 59 [.t 29, .t 34]⟩,
    ⟨some 3, none, .mov (.t 35)⟩] [1, 3, 4]))
   (.region [⟨some 27, none, .mov (.t 4)⟩,
    ⟨some 28, none, .bin .add (.t 27) (.c (.int .i64 1))⟩,
    ⟨some 4, none, .mov (.t 28)⟩] [1, 3, 4]))))))
   (.seq (.region [⟨some 36, none, .mov (.t 3)⟩,
    ⟨some 2, none, .mov (.t 36)⟩] [2])
   (.ret))))),
  [.t 2], 37, 1⟩
def A74 : Ann := ⟨[(0, [1]), (1, [1, 3]), (2, [1, 3]), (3, [1, 3, 4]), (4, [1, 3, 4, 26]), (5, [1, 3, 4]), (6, [1, 3, 4]), (7, [2])], [(1, [(0, []), (1, []), (3, []), (4, []), (5, []), (6, []), (8, []), (9, []), (2, [4, 9]), (7, [9]), (10, []), (11, [])], [(1, [0]), (2, [0, 1]), (4, [3]), (5, [3, 4]), (6, [3, 4, 5]), (7, [0, 1, 2, 3, 4, 5, 6]), (9, [8]), (10, [0, 1, 2, 3, 4, 5, 6, 7, 8, 9]), (11, [0, 1, 2, 3, 4, 5, 6, 7, 8, 9, 10])])]⟩
set_option maxRecDepth 100000 in
theorem F74.ok : compF Try.prog A74 Try.f74 = some F74 := by kernel_rfl
theorem F74.fok : FOk Try.prog 74 F74 := fok_of mixed Try.func74 F74.ok

/-- (*cloakroom/frame.Parts).Copy -/
def F75 : SFn := ⟨.seq (.region [⟨some 2, none, .mov (.c (.pointer none))⟩] [0])
   (.seq (.seq (.region [⟨some 3, none, .mov (.t 0)⟩,
    ⟨some 4, none, .eqk false .ptr (.t 3) (.c (.pointer none))⟩] [0, 4])
   (.cond (.t 4) (.seq (.region [⟨some 2, none, .mov (.c (.pointer none))⟩] [2])
   (.ret)) (.skip)))
   (.seq (.region [⟨some 5, none, .mov (.t 0)⟩,
    ⟨some 6, none, .nilc (.t 5)⟩,
    ⟨some 7, none, .fa 0 (.t 6)⟩,
    ⟨some 8, none, .fa 0 (.t 7)⟩,
    ⟨some 9, none, .ld 1 false (.t 8)⟩,
    ⟨some 12, none, .mov (.t 0)⟩,
    ⟨some 13, none, .nilc (.t 12)⟩,
    ⟨some 14, none, .fa 1 (.t 13)⟩,
    ⟨some 15, none, .ld 1 false (.t 14)⟩,
    ⟨some 10, none, .call 72 [.t 9]⟩,
    ⟨none, none, .chk 1 false (.t 14) 15⟩,
    ⟨some 11, none, .build [.slice none 0 0] [(0, 1, .t 10)]⟩,
    ⟨some 16, none, .build [.slice none 0 0, .bool false] [(0, 1, .t 11), (1, 1, .t 15)]⟩,
    ⟨some 17, none, .box (.t 16)⟩,
    ⟨some 2, none, .mov (.t 17)⟩] [2])
   (.ret))),
  [.t 2], 18, 1⟩
def A75 : Ann := ⟨[(0, [0]), (1, [0, 4]), (2, [2]), (3, [2])], [(3, [(0, []), (1, []), (2, []), (3, []), (4, []), (7, []), (8, []), (9, []), (10, []), (5, [10]), (6, []), (11, []), (12, []), (13, [])], [(1, [0]), (2, [0, 1]), (3, [0, 1, 2]), (4, [0, 1, 2, 3]), (5, [0, 1, 2, 3, 4]), (6, [0, 1, 2, 3, 4, 5]), (8, [7]), (9, [7, 8]), (10, [7, 8, 9]), (11, [0, 1, 2, 3, 4, 5, 6, 7, 8, 9, 10]), (12, [0, 1, 2, 3, 4, 5, 6, 7, 8, 9, 10, 11]), (13, [0, 1, 2, 3, 4, 5, 6, 7, 8, 9, 10, 11, 12])])]⟩
set_option maxRecDepth 100000 in
theorem F75.ok : compF Try.prog A75 Try.f75 = some F75 := by kernel_rfl
theorem F75.fok : FOk Try.prog 75 F75 := fok_of mixed Try.func75 F75.ok

/-- (*cloakroom/handle.Table).Copy -/
def F76 : SFn := ⟨.seq (.region [⟨some 2, none, .mov (.c (.pointer none))⟩] [0])
   (.seq (.seq (.region [⟨some 3, none, .mov (.t 0)⟩,
    ⟨some 4, none, .eqk false .ptr (.t 3) (.c (.pointer none))⟩] [0, 4])
   (.cond (.t 4) (.seq (.region [⟨some 2, none, .mov (.c (.pointer none))⟩] [2])
   (.ret)) (.skip)))
   (.seq (.region [⟨some 5, none, .mov (.t 0)⟩,
    ⟨some 6, none, .nilc (.t 5)⟩,
    ⟨some 7, none, .fa 0 (.t 6)⟩,
    ⟨some 8, none, .ld 1 false (.t 7)⟩,
    ⟨some 10, none, .mov (.t 0)⟩,
    ⟨some 11, none, .nilc (.t 10)⟩,
    ⟨some 12, none, .fa 1 (.t 11)⟩,
    ⟨some 13, none, .ld 1 false (.t 12)⟩,
    ⟨some 9, none, .call 91 [.t 8]⟩,
    ⟨none, none, .chk 1 false (.t 12) 13⟩,
    ⟨some 14, none, .build [.map none, .int .u64 0] [(0, 1, .t 9), (1, 1, .t 13)]⟩,
    ⟨some 15, none, .box (.t 14)⟩,
    ⟨some 2, none, .mov (.t 15)⟩] [2])
   (.ret))),
  [.t 2], 16, 1⟩
def A76 : Ann := ⟨[(0, [0]), (1, [0, 4]), (2, [2]), (3, [2])], [(3, [(0, []), (1, []), (2, []), (3, []), (5, []), (6, []), (7, []), (8, []), (4, [8]), (9, []), (10, []), (11, [])], [(1, [0]), (2, [0, 1]), (3, [0, 1, 2]), (4, [0, 1, 2, 3]), (6, [5]), (7, [5, 6]), (8, [5, 6, 7]), (9, [0, 1, 2, 3, 4, 5, 6, 7, 8]), (10, [0, 1, 2, 3, 4, 5, 6, 7, 8, 9]), (11, [0, 1, 2, 3, 4, 5, 6, 7, 8, 9, 10])])]⟩
set_option maxRecDepth 100000 in
theorem F76.ok : compF Try.prog A76 Try.f76 = some F76 := by kernel_rfl
theorem F76.fok : FOk Try.prog 76 F76 := fok_of mixed Try.func76 F76.ok

/-- (*cloakroom/token.Cache).Copy -/
def F77 : SFn := ⟨.seq (.region [⟨some 2, none, .mov (.c (.pointer none))⟩] [0])
   (.seq (.seq (.region [⟨some 3, none, .mov (.t 0)⟩,
    ⟨some 4, none, .eqk false .ptr (.t 3) (.c (.pointer none))⟩] [0, 4])
   (.cond (.t 4) (.seq (.region [⟨some 2, none, .mov (.c (.pointer none))⟩] [2])
   (.ret)) (.skip)))
   (.seq (.region [⟨some 5, none, .mov (.t 0)⟩,
    ⟨some 6, none, .nilc (.t 5)⟩,
    ⟨some 7, none, .fa 0 (.t 6)⟩,
    ⟨some 8, none, .ld 1 false (.t 7)⟩,
    ⟨some 9, none, .call 92 [.t 8]⟩,
    ⟨some 10, none, .build [.slice none 0 0] [(0, 1, .t 9)]⟩,
    ⟨some 11, none, .box (.t 10)⟩,
    ⟨some 2, none, .mov (.t 11)⟩] [2])
   (.ret))),
  [.t 2], 12, 1⟩
def A77 : Ann := ⟨[(0, [0]), (1, [0, 4]), (2, [2]), (3, [2])], []⟩
set_option maxRecDepth 100000 in
theorem F77.ok : compF Try.prog A77 Try.f77 = some F77 := by kernel_rfl
theorem F77.fok : FOk Try.prog 77 F77 := fok_of mixed Try.func77 F77.ok

/-- (*cloakroom/token.Cache).find -/
def F78 : SFn := ⟨.seq (.region [⟨some 4, none, .mov (.c (.pointer none))⟩] [0, 1])
   (.seq (.seq (.region [⟨some 6, none, .mov (.t 0)⟩,
    ⟨some 7, none, .nilc (.t 6)⟩,
    ⟨some 8, none, .fa 0 (.t 7)⟩,
    ⟨some 9, none, .ld 1 false (.t 8)⟩,
    ⟨some 10, none, .lenV (.t 9)⟩,
    ⟨some 11, none, .mov (.c (.int .i64 0))⟩] [0, 1, 10, 11])
   (.block 0 (.loop (.seq (.region [⟨some 12, none, .bin .lss (.t 11) (.t 10)⟩] [0, 1, 10, 11, 12])
   (.seq (.cond (.t 12) (.skip) (.exit 0))
   (.seq (.block 1 (.seq (.region [⟨some 13, none, .mov (.t 11)⟩,
    ⟨some 5, none, .mov (.t 13)⟩] [0, 1, 5, 10, 11])
   (.seq (.region [⟨some 14, none, .mov (.t 0)⟩,
    ⟨some 15, none, .nilc (.t 14)⟩,
    ⟨some 16, none, .fa 0 (.t 15)⟩,
    ⟨some 17, none, .ld 1 false (.t 16)⟩,
    ⟨some 18, none, .mov (.t 5)⟩,
    ⟨some 19, none, .iaV 15 (.t 17) (.t 18)⟩,
    ⟨some 20, none, .fa 9 (.t 19)⟩,
    ⟨some 21, none, .ld 1 false (.t 20)⟩,
    ⟨some 22, none, .mov (.t 1)⟩,
    ⟨some 23, none, .bin .eql (.t 21) (.t 22)⟩] [0, 1, 5, 10, 11, 23])
   (.cond (.t 23) (.seq (.region [⟨some 24, none, .mov (.t 0)⟩,
    ⟨some 25, none, .nilc (.t 24)⟩,
    ⟨some 26, none, .fa 0 (.t 25)⟩,
    ⟨some 27, none, .ld 1 false (.t 26)⟩,
    ⟨some 28, none, .mov (.t 5)⟩,
    ⟨some 29, none, .iaV 15 (.t 27) (.t 28)⟩,
    ⟨some 4, none, .mov (.t 29)⟩] [4])
   (.ret)) (.skip)))))
   (.region [⟨some 30, none, .bin .add (.t 11) (.c (.int .i64 1))⟩,
    ⟨some 11, none, .mov (.t 30)⟩] [0, 1, 10, 11])))))))
   (.seq (.region [⟨some 4, none, .mov (.c (.pointer none))⟩] [4])
   (.ret))),
  [.t 4], 31, 2⟩
def A78 : Ann := ⟨[(0, [0, 1]), (1, [0, 1, 10, 11]), (2, [0, 1, 10, 11, 12]), (3, [0, 1, 5, 10, 11]), (4, [0, 1, 5, 10, 11, 23]), (5, [4]), (6, [0, 1, 10, 11]), (7, [4])], []⟩
set_option maxRecDepth 100000 in
theorem F78.ok : compF Try.prog A78 Try.f78 = some F78 := by kernel_rfl
theorem F78.fok : FOk Try.prog 78 F78 := fok_of mixed Try.func78 F78.ok

/-- slices.IndexFunc[[]cloakroom/token.entry,cloakroom/token.entry] -/
def F79 : SFn := ⟨.seq (.region [⟨some 4, none, .mov (.c (.int .i64 0))⟩] [0, 1])
   (.seq (.seq (.region [⟨some 6, none, .mov (.t 0)⟩,
    ⟨some 7, none, .lenV (.t 6)⟩,
    ⟨some 8, none, .mov (.c (.int .i64 0))⟩] [0, 1, 7, 8])
   (.block 0 (.loop (.seq (.region [⟨some 9, none, .bin .lss (.t 8) (.t 7)⟩] [0, 1, 7, 8, 9])
   (.seq (.cond (.t 9) (.skip) (.exit 0))
   (.seq (.block 1 (.seq (.region [⟨some 10, none, .mov (.t 8)⟩,
    ⟨some 5, none, .mov (.t 10)⟩] [0, 1, 5, 7, 8])
   (.seq (.region [⟨some 11, none, .mov (.t 1)⟩,
    ⟨some 12, none, .mov (.t 0)⟩,
    ⟨some 13, none, .mov (.t 5)⟩,
    ⟨some 14, none, .iaV 15 (.t 12) (.t 13)⟩,
    ⟨some 15, none, .ld 15 true (.t 14)⟩,
    ⟨some 16, none, .callv (.t 11) [.t 15]⟩] [0, 1, 5, 7, 8, 16])
   (.cond (.t 16) (.seq (.region [⟨some 17, none, .mov (.t 5)⟩,
    ⟨some 4, none, .mov (.t 17)⟩] [4])
   (.ret)) (.skip)))))
   (.region [⟨some 18, none, .bin .add (.t 8) (.c (.int .i64 1))⟩,
    ⟨some 8, none, .mov (.t 18)⟩] [0, 1, 7, 8])))))))
   (.seq (.region [⟨some 4, none, .mov (.c (.int .i64 (-1)))⟩] [4])
   (.ret))),
  [.t 4], 19, 2⟩
def A79 : Ann := ⟨[(0, [0, 1]), (1, [0, 1, 7, 8]), (2, [0, 1, 7, 8, 9]), (3, [0, 1, 5, 7, 8]), (4, [0, 1, 5, 7, 8, 16]), (5, [4]), (6, [0, 1, 7, 8]), (7, [4])], []⟩
set_option maxRecDepth 100000 in
theorem F79.ok : compF Try.prog A79 Try.f79 = some F79 := by kernel_rfl
theorem F79.fok : FOk Try.prog 79 F79 := fok_of mixed Try.func79 F79.ok

/-- (*cloakroom/token.Cache).Begin$1 -/
def F80 : SFn := ⟨.seq (.region [⟨some 1, none, .box (.t 0)⟩,
    ⟨some 2, none, .mov (.c (.bool false))⟩] [1])
   (.seq (.region [⟨some 3, none, .fa 10 (.t 1)⟩,
    ⟨some 4, none, .ld 1 false (.t 3)⟩,
    ⟨some 2, none, .mov (.t 4)⟩] [2])
   (.ret)),
  [.t 2], 5, 1⟩
def A80 : Ann := ⟨[(0, [1]), (1, [2])], []⟩
set_option maxRecDepth 100000 in
theorem F80.ok : compF Try.prog A80 Try.f80 = some F80 := by kernel_rfl
theorem F80.fok : FOk Try.prog 80 F80 := fok_of mixed Try.func80 F80.ok

/-- slices.Delete[[]cloakroom/token.entry,cloakroom/token.entry] -/
def F81 : SFn := ⟨.seq (.region [⟨some 6, none, .mov (.c (.slice none 0 0))⟩] [0, 1, 2])
   (.seq (.region [⟨some 8, none, .mov (.t 0)⟩,
    ⟨some 9, none, .mov (.t 1)⟩,
    ⟨some 10, none, .mov (.t 2)⟩,
    ⟨some 11, none, .mov (.t 0)⟩,
    ⟨some 12, none, .lenV (.t 11)⟩,
    ⟨some 13, none, .slV 15 (.t 8) (some (.t 9)) (some (.t 10)) (some (.t 12))⟩] [0, 1, 2])
   (.seq (.seq (.region [⟨some 14, none, .mov (.t 1)⟩,
    ⟨some 15, none, .mov (.t 2)⟩,
    ⟨some 16, none, .bin .eql (.t 14) (.t 15)⟩] [0, 1, 2, 16])
   (.cond (.t 16) (.seq (.region [⟨some 17, none, .mov (.t 0)⟩,
    ⟨some 6, none, .mov (.t 17)⟩] [6])
   (.ret)) (.skip)))
   (.seq (.region [⟨some 18, none, .mov (.t 0)⟩,
    ⟨some 19, none, .lenV (.t 18)⟩,
    ⟨some 7, none, .mov (.t 19)⟩] [0, 1, 2, 7])
   (.seq (.region [⟨some 20, none, .mov (.t 0)⟩,
    ⟨some 21, none, .mov (.t 1)⟩,
    ⟨some 22, none, .slV 15 (.t 20) none (some (.t 21)) none⟩,
    ⟨some 23, none, .mov (.t 0)⟩,
    ⟨some 24, none, .mov (.t 2)⟩,
    ⟨some 25, none, .slV 15 (.t 23) (some (.t 24)) none none⟩,
    ⟨some 26, none, .app 15 176 (.t 22) (.t 25)⟩,
    ⟨some 0, none, .mov (.t 26)⟩] [0, 7])
   (.seq (.region [⟨some 27, none, .mov (.t 0)⟩,
    ⟨some 28, none, .mov (.t 0)⟩,
    ⟨some 29, none, .lenV (.t 28)⟩,
    ⟨some 30, none, .mov (.t 7)⟩,
    ⟨some 31, none, .slV 15 (.t 27) (some (.t 29)) (some (.t 30)) none⟩,
    ⟨none, none, .clr 15 [.int .i64 0, .int .u64 0, .int .u64 0, .string ByteArray.empty, .slice none 0 0, .slice none 0 0, .int .u64 0, .int .u64 0, .int .i64 0, .int .u64 0, .bool false, .int .u64 0, .int .i64 0, .int .u64 0, .slice none 0 0] (.t 31)⟩] [0])
   (.seq (.region [⟨some 32, none, .mov (.t 0)⟩,
    ⟨some 6, none, .mov (.t 32)⟩] [6])
   (.ret))))))),
  [.t 6], 33, 3⟩
def A81 : Ann := ⟨[(0, [0, 1, 2]), (1, [0, 1, 2]), (2, [0, 1, 2, 16]), (3, [6]), (4, [0, 1, 2, 7]), (5, [0, 7]), (6, [0]), (7, [6])], [(5, [(0, []), (1, []), (2, []), (3, []), (4, []), (5, []), (6, []), (7, [])], [(2, [0, 1]), (5, [3, 4]), (6, [0, 1, 2, 3, 4, 5]), (7, [0, 1, 2, 3, 4, 5, 6])])]⟩
set_option maxRecDepth 100000 in
theorem F81.ok : compF Try.prog A81 Try.f81 = some F81 := by kernel_rfl
theorem F81.fok : FOk Try.prog 81 F81 := fok_of mixed Try.func81 F81.ok

/-- cloakroom/token.twin -/
def F82 : SFn := ⟨.seq (.region [⟨some 1, none, .box (.t 0)⟩,
    ⟨some 2, none, .new [.int .i64 0, .int .u64 0, .int .u64 0, .string ByteArray.empty, .slice none 0 0, .slice none 0 0, .int .u64 0, .int .u64 0]⟩] [1, 2])
   (.seq (.region [⟨some 3, none, .fa 4 (.t 1)⟩,
    ⟨some 4, none, .ld 1 false (.t 3)⟩,
    ⟨some 6, none, .fa 5 (.t 1)⟩,
    ⟨some 7, none, .ld 1 false (.t 6)⟩,
    ⟨some 5, none, .call 72 [.t 4]⟩,
    ⟨none, none, .chk 1 false (.t 6) 7⟩,
    ⟨some 9, none, .fa 4 (.t 1)⟩,
    ⟨some 8, none, .call 93 [.t 7]⟩,
    ⟨none, none, .st 1 (.t 9) (.t 5)⟩,
    ⟨some 10, none, .fa 5 (.t 1)⟩,
    ⟨none, none, .st 1 (.t 10) (.t 8)⟩] [1, 2])
   (.seq (.region [⟨some 11, none, .ld 8 true (.t 1)⟩,
    ⟨none, none, .st 8 (.t 2) (.t 11)⟩] [2])
   (.ret))),
  [.c 2 8 true], 12, 1⟩
def A82 : Ann := ⟨[(0, [1, 2]), (1, [1, 2]), (2, [2])], [(1, [(0, []), (1, []), (3, []), (4, []), (2, [4]), (6, []), (5, []), (7, []), (8, []), (9, [])], [(1, [0]), (2, [0, 1]), (4, [3]), (5, [0, 1, 2, 3, 4]), (6, [0, 1, 2, 3, 4]), (7, [0, 1, 2, 3, 4, 5, 6]), (8, [0, 1, 2, 3, 4, 5, 6, 7]), (9, [0, 1, 2, 3, 4, 5, 6, 7, 8])])]⟩
set_option maxRecDepth 100000 in
theorem F82.ok : compF Try.prog A82 Try.f82 = some F82 := by kernel_rfl
theorem F82.fok : FOk Try.prog 82 F82 := fok_of mixed Try.func82 F82.ok

/-- (*cloakroom/req.cursor).bytes -/
def F83 : SFn := ⟨.seq (.region [⟨some 4, none, .mov (.c (.slice none 0 0))⟩] [0, 1])
   (.seq (.region [⟨some 6, none, .mov (.t 0)⟩,
    ⟨some 7, none, .mov (.t 1)⟩,
    ⟨some 8, none, .mov (.t 0)⟩,
    ⟨some 9, none, .nilc (.t 8)⟩,
    ⟨some 10, none, .fa 0 (.t 9)⟩,
    ⟨some 11, none, .ld 1 false (.t 10)⟩,
    ⟨some 12, none, .lenV (.t 11)⟩,
    ⟨some 13, none, .conv .u64 (.t 12)⟩,
    ⟨some 14, none, .bin .gtr (.t 7) (.t 13)⟩,
    ⟨some 15, none, .call 63 [.t 6, .t 14, .c (.int .i64 3)]⟩] [0, 1])
   (.seq (.seq (.region [⟨some 16, none, .mov (.t 0)⟩,
    ⟨some 17, none, .nilc (.t 16)⟩,
    ⟨some 18, none, .fa 1 (.t 17)⟩,
    ⟨some 19, none, .ld 1 false (.t 18)⟩,
    ⟨some 20, none, .bin .neq (.t 19) (.c (.int .i64 0))⟩] [0, 1, 20])
   (.cond (.t 20) (.seq (.region [⟨some 4, none, .mov (.c (.slice none 0 0))⟩] [4])
   (.ret)) (.skip)))
   (.seq (.region [⟨some 21, none, .mov (.t 0)⟩,
    ⟨some 22, none, .nilc (.t 21)⟩,
    ⟨some 23, none, .fa 0 (.t 22)⟩,
    ⟨some 24, none, .ld 1 false (.t 23)⟩,
    ⟨some 25, none, .mov (.t 1)⟩,
    ⟨some 26, none, .slV 1 (.t 24) none (some (.t 25)) none⟩,
    ⟨some 27, none, .call 72 [.t 26]⟩,
    ⟨some 5, none, .mov (.t 27)⟩] [0, 1, 5])
   (.seq (.region [⟨some 28, none, .mov (.t 0)⟩,
    ⟨some 29, none, .mov (.t 0)⟩,
    ⟨some 30, none, .nilc (.t 29)⟩,
    ⟨some 31, none, .fa 0 (.t 30)⟩,
    ⟨some 32, none, .ld 1 false (.t 31)⟩,
    ⟨some 33, none, .mov (.t 1)⟩,
    ⟨some 34, none, .slV 1 (.t 32) (some (.t 33)) none none⟩,
    ⟨some 35, none, .nilc (.t 28)⟩,
    ⟨some 36, none, .fa 0 (.t 35)⟩,
    ⟨none, none, .st 1 (.t 36) (.t 34)⟩] [5])
   (.seq (.region [⟨some 37, none, .mov (.t 5)⟩,
    ⟨some 4, none, .mov (.t 37)⟩] [4])
   (.ret)))))),
  [.t 4], 38, 2⟩
def A83 : Ann := ⟨[(0, [0, 1]), (1, [0, 1]), (2, [0, 1, 20]), (3, [4]), (4, [0, 1, 5]), (5, [5]), (6, [4])], []⟩
set_option maxRecDepth 100000 in
theorem F83.ok : compF Try.prog A83 Try.f83 = some F83 := by kernel_rfl
theorem F83.fok : FOk Try.prog 83 F83 := fok_of mixed Try.func83 F83.ok

/-- (*cloakroom/req.cursor).name -/
def F84 : SFn := ⟨.seq (.region [⟨some 2, none, .mov (.c (.string { data := #[] }))⟩] [0])
   (.seq (.region [⟨some 3, none, .mov (.t 0)⟩,
    ⟨some 4, none, .mov (.t 0)⟩,
    ⟨some 5, none, .call 88 [.t 4, .c (.int .u32 32)]⟩,
    ⟨some 6, none, .call 83 [.t 3, .t 5]⟩,
    ⟨some 7, none, .toStr (.t 6)⟩,
    ⟨some 2, none, .mov (.t 7)⟩] [2])
   (.ret)),
  [.t 2], 8, 1⟩
def A84 : Ann := ⟨[(0, [0]), (1, [2])], []⟩
set_option maxRecDepth 100000 in
theorem F84.ok : compF Try.prog A84 Try.f84 = some F84 := by kernel_rfl
theorem F84.fok : FOk Try.prog 84 F84 := fok_of mixed Try.func84 F84.ok

/-- (*cloakroom/cloakroomref1.Reader).num -/
def F85 : SFn := ⟨.seq (.region [⟨some 6, none, .mov (.c (.int .u64 0))⟩] [0, 1, 2])
   (.seq (.seq (.region [⟨some 10, none, .mov (.t 0)⟩,
    ⟨some 11, none, .nilc (.t 10)⟩,
    ⟨some 12, none, .fa 1 (.t 11)⟩,
    ⟨some 13, none, .ld 1 false (.t 12)⟩,
    ⟨some 14, none, .bin .neq (.t 13) (.c (.int .i64 0))⟩] [0, 1, 2, 14])
   (.cond (.t 14) (.seq (.region [⟨some 6, none, .mov (.c (.int .u64 0))⟩] [6])
   (.ret)) (.skip)))
   (.seq (.region [⟨some 16, none, .mov (.t 0)⟩,
    ⟨some 17, none, .nilc (.t 16)⟩,
    ⟨some 18, none, .fa 0 (.t 17)⟩,
    ⟨some 19, none, .ld 1 false (.t 18)⟩,
    ⟨some 20, none, .mov (.t 1)⟩,
    ⟨some 21, none, .mov (.t 2)⟩,
    ⟨some 22, none, .call 94 [.t 19, .t 20, .t 21]⟩,
    ⟨some 15, none, .mov (.t 22)⟩,
    ⟨some 23, none, .ext (.t 15) 0⟩,
    ⟨some 24, none, .ext (.t 15) 1⟩,
    ⟨some 25, none, .ext (.t 15) 2⟩,
    ⟨some 7, none, .mov (.t 23)⟩,
    ⟨some 8, none, .mov (.t 24)⟩,
    ⟨some 9, none, .mov (.t 25)⟩] [0, 7, 8, 9])
   (.seq (.region [⟨some 26, none, .mov (.t 0)⟩,
    ⟨some 27, none, .mov (.t 0)⟩,
    ⟨some 28, none, .mov (.t 9)⟩,
    ⟨some 29, none, .mov (.t 0)⟩,
    ⟨some 30, none, .nilc (.t 29)⟩,
    ⟨some 31, none, .fa 0 (.t 30)⟩,
    ⟨some 32, none, .ld 1 false (.t 31)⟩,
    ⟨some 33, none, .mov (.t 8)⟩,
    ⟨some 34, none, .slV 1 (.t 32) (some (.t 33)) none none⟩,
    ⟨some 35, none, .nilc (.t 26)⟩,
    ⟨some 36, none, .fa 1 (.t 35)⟩,
    ⟨none, none, .st 1 (.t 36) (.t 28)⟩,
    ⟨none, none, .chkV 1 (.t 32) (some (.t 33)) none none 34⟩,
    ⟨some 37, none, .nilc (.t 27)⟩,
    ⟨some 38, none, .fa 0 (.t 37)⟩,
    ⟨none, none, .st 1 (.t 38) (.t 34)⟩] [7])
   (.seq (.region [⟨some 39, none, .mov (.t 7)⟩,
    ⟨some 6, none, .mov (.t 39)⟩] [6])
   (.ret))))),
  [.t 6], 40, 3⟩
def A85 : Ann := ⟨[(0, [0, 1, 2]), (1, [0, 1, 2, 14]), (2, [6]), (3, [0, 7, 8, 9]), (4, [7]), (5, [6])], [(4, [(0, []), (1, []), (2, []), (3, []), (4, []), (5, []), (6, []), (7, []), (8, []), (9, []), (10, []), (11, [8]), (12, []), (13, []), (14, [])], [(4, [3]), (5, [3, 4]), (6, [3, 4, 5]), (8, [3, 4, 5, 6, 7]), (9, [0, 2, 3, 4, 5, 6]), (10, [0, 2, 3, 4, 5, 6, 9]), (11, [0, 2, 3, 4, 5, 6, 9, 10]), (12, [0, 1, 2, 3, 4, 5, 6, 7, 8, 9, 10, 11]), (13, [0, 1, 2, 3, 4, 5, 6, 7, 8, 9, 10, 11, 12]), (14, [0, 1, 2, 3, 4, 5, 6, 7, 8, 9, 10, 11, 12, 13])])]⟩
set_option maxRecDepth 100000 in
theorem F85.ok : compF Try.prog A85 Try.f85 = some F85 := by kernel_rfl
theorem F85.fok : FOk Try.prog 85 F85 := fok_of mixed Try.func85 F85.ok

/-- cloakroom/leb.PutU -/
def F86 : SFn := ⟨.seq (.region [⟨some 4, none, .mov (.c (.slice none 0 0))⟩] [0, 1])
   (.seq (.region [⟨some 5, none, .mov (.c (.slice none 0 0))⟩] [0, 1, 5])
   (.seq (.block 0 (.loop (.seq (.seq (.region [⟨some 6, none, .mov (.t 1)⟩,
    ⟨some 7, none, .bin .gtr (.t 6) (.c (.int .u64 127))⟩] [0, 1, 5, 7])
   (.cond (.t 7) (.skip) (.exit 0)))
   (.block 1 (.seq (.region [⟨some 8, none, .mov (.t 5)⟩,
    ⟨some 9, none, .mov (.t 1)⟩,
    ⟨some 10, none, .conv .u8 (.t 9)⟩,
    ⟨some 11, none, .bin .or (.t 10) (.c (.int .u8 128))⟩,
    ⟨some 12, none, .bslice 1 1 [.int .u8 0] [(0, 1, .t 11)]⟩,
    ⟨some 13, none, .app 1 1 (.t 8) (.t 12)⟩,
    ⟨some 5, none, .mov (.t 13)⟩] [0, 1, 5])
   (.region [⟨some 14, none, .mov (.t 1)⟩,
    ⟨some 15, none, .bin .shr (.t 14) (.c (.int .u64 7))⟩,
    ⟨some 1, none, .mov (.t 15)⟩] [0, 1, 5]))))))
   (.seq (.region [⟨some 16, none, .mov (.t 0)⟩,
    ⟨some 17, none, .mov (.t 5)⟩,
    ⟨some 18, none, .mov (.t 1)⟩,
    ⟨some 19, none, .conv .u8 (.t 18)⟩,
    ⟨some 20, none, .bslice 1 1 [.int .u8 0] [(0, 1, .t 19)]⟩,
    ⟨some 21, none, .app 1 1 (.t 17) (.t 20)⟩,
    ⟨some 22, none, .call 95 [.t 16, .t 21]⟩,
    ⟨some 4, none, .mov (.t 22)⟩] [4])
   (.ret)))),
  [.t 4], 23, 2⟩
def A86 : Ann := ⟨[(0, [0, 1]), (1, [0, 1, 5]), (2, [0, 1, 5, 7]), (3, [0, 1, 5]), (4, [0, 1, 5]), (5, [4])], []⟩
set_option maxRecDepth 100000 in
theorem F86.ok : compF Try.prog A86 Try.f86 = some F86 := by kernel_rfl
theorem F86.fok : FOk Try.prog 86 F86 := fok_of mixed Try.func86 F86.ok

/-- cloakroom/leb.U64 -/
def F87 : SFn := ⟨.seq (.region [⟨some 2, none, .mov (.c (.int .u64 0))⟩,
    ⟨some 3, none, .mov (.c (.int .i64 0))⟩,
    ⟨some 4, none, .mov (.c (.int .i64 0))⟩] [0])
   (.seq (.region [⟨some 5, none, .mov (.t 0)⟩,
    ⟨some 6, none, .call 96 [.t 5, .c (.int .i64 64), .c (.bool false)]⟩,
    ⟨some 7, none, .ext (.t 6) 0⟩,
    ⟨some 8, none, .ext (.t 6) 1⟩,
    ⟨some 9, none, .ext (.t 6) 2⟩,
    ⟨some 2, none, .mov (.t 7)⟩,
    ⟨some 3, none, .mov (.t 8)⟩,
    ⟨some 4, none, .mov (.t 9)⟩] [2, 3, 4])
   (.ret)),
  [.t 2, .t 3, .t 4], 10, 1⟩
def A87 : Ann := ⟨[(0, [0]), (1, [2, 3, 4])], []⟩
set_option maxRecDepth 100000 in
theorem F87.ok : compF Try.prog A87 Try.f87 = some F87 := by kernel_rfl
theorem F87.fok : FOk Try.prog 87 F87 := fok_of mixed Try.func87 F87.ok

/-- (*cloakroom/req.cursor).count -/
def F88 : SFn := ⟨.seq (.region [⟨some 4, none, .mov (.c (.int .u64 0))⟩] [0, 1])
   (.seq (.seq (.region [⟨some 8, none, .mov (.t 0)⟩,
    ⟨some 9, none, .nilc (.t 8)⟩,
    ⟨some 10, none, .fa 1 (.t 9)⟩,
    ⟨some 11, none, .ld 1 false (.t 10)⟩,
    ⟨some 12, none, .bin .neq (.t 11) (.c (.int .i64 0))⟩] [0, 1, 12])
   (.cond (.t 12) (.seq (.region [⟨some 4, none, .mov (.c (.int .u64 0))⟩] [4])
   (.ret)) (.skip)))
   (.seq (.region [⟨some 14, none, .mov (.t 0)⟩,
    ⟨some 15, none, .nilc (.t 14)⟩,
    ⟨some 16, none, .fa 0 (.t 15)⟩,
    ⟨some 17, none, .ld 1 false (.t 16)⟩,
    ⟨some 18, none, .call 97 [.t 17]⟩,
    ⟨some 13, none, .mov (.t 18)⟩,
    ⟨some 19, none, .ext (.t 13) 0⟩,
    ⟨some 20, none, .ext (.t 13) 1⟩,
    ⟨some 21, none, .ext (.t 13) 2⟩,
    ⟨some 5, none, .mov (.t 19)⟩,
    ⟨some 6, none, .mov (.t 20)⟩,
    ⟨some 7, none, .mov (.t 21)⟩] [0, 1, 5, 6, 7])
   (.seq (.region [⟨some 22, none, .mov (.t 0)⟩,
    ⟨some 23, none, .mov (.t 0)⟩,
    ⟨some 24, none, .mov (.t 0)⟩,
    ⟨some 25, none, .nilc (.t 24)⟩,
    ⟨some 26, none, .fa 0 (.t 25)⟩,
    ⟨some 27, none, .ld 1 false (.t 26)⟩,
    ⟨some 28, none, .mov (.t 6)⟩,
    ⟨some 29, none, .slV 1 (.t 27) (some (.t 28)) none none⟩,
    ⟨some 30, none, .mov (.t 7)⟩,
    ⟨some 31, none, .nilc (.t 22)⟩,
    ⟨some 32, none, .fa 0 (.t 31)⟩,
    ⟨none, none, .st 1 (.t 32) (.t 29)⟩,
    ⟨some 33, none, .nilc (.t 23)⟩,
    ⟨some 34, none, .fa 1 (.t 33)⟩,
    ⟨none, none, .st 1 (.t 34) (.t 30)⟩] [0, 1, 5])
   (.seq (.region [⟨some 35, none, .mov (.t 0)⟩,
    ⟨some 36, none, .mov (.t 5)⟩,
    ⟨some 37, none, .mov (.t 1)⟩,
    ⟨some 38, none, .bin .gtr (.t 36) (.t 37)⟩,
    ⟨some 39, none, .call 63 [.t 35, .t 38, .c (.int .i64 4)]⟩] [5])
   (.seq (.region [⟨some 40, none, .mov (.t 5)⟩,
    ⟨some 41, none, .conv .u64 (.t 40)⟩,
    ⟨some 4, none, .mov (.t 41)⟩] [4])
   (.ret)))))),
  [.t 4], 42, 2⟩
def A88 : Ann := ⟨[(0, [0, 1]), (1, [0, 1, 12]), (2, [4]), (3, [0, 1, 5, 6, 7]), (4, [0, 1, 5]), (5, [5]), (6, [4])], []⟩
set_option maxRecDepth 100000 in
theorem F88.ok : compF Try.prog A88 Try.f88 = some F88 := by kernel_rfl
theorem F88.fok : FOk Try.prog 88 F88 := fok_of mixed Try.func88 F88.ok

/-- slices.Concat[[]byte,byte] -/
def F89 : SFn := ⟨.seq (.region [⟨some 2, none, .mov (.c (.slice none 0 0))⟩] [0])
   (.seq (.region [⟨some 3, none, .mov (.c (.int .i64 0))⟩] [0, 3])
   (.seq (.seq (.region [⟨some 9, none, .mov (.t 0)⟩,
    ⟨some 10, none, .lenV (.t 9)⟩,
    ⟨some 11, none, .mov (.c (.int .i64 0))⟩] [0, 3, 9, 10, 11])
   (.block 0 (.loop (.seq (.region [⟨some 12, none, .bin .lss (.t 11) (.t 10)⟩] [0, 3, 9, 10, 11, 12])
   (.seq (.cond (.t 12) (.skip) (.exit 0))
   (.seq (.block 1 (.seq (.region [⟨some 13, none, .iaV 1 (.t 9) (.t 11)⟩,
    ⟨some 14, none, .ld 1 false (.t 13)⟩,
    ⟨some 5, none, .mov (.t 14)⟩] [0, 3, 5, 9, 10, 11])
   (.seq (.region [⟨some 15, none, .mov (.t 3)⟩,
    ⟨some 16, none, .mov (.t 5)⟩,
    ⟨some 17, none, .lenV (.t 16)⟩,
    ⟨some 18, none, .bin .add (.t 15) (.t 17)⟩,
    ⟨some 3, none, .mov (.t 18)⟩] [0, 3, 9, 10, 11])
   (.seq (.region [⟨some 19, none, .mov (.t 3)⟩,
    ⟨some 20, none, .bin .lss (.t 19) (.c (.int .i64 0))⟩] [0, 3, 9, 10, 11, 20])
   (.cond (.t 20) (.region [⟨some 21, none, .bad⟩,
    ⟨none, none, .bad⟩] [0, 3, 9, 10, 11]) (.skip))))))
   (.region [⟨some 22, none, .bin .add (.t 11) (.c (.int .i64 1))⟩,
    ⟨some 11, none, .mov (.t 22)⟩] [0, 3, 9, 10, 11])))))))
   (.seq (.region [⟨some 23, none, .mov (.t 3)⟩,
    ⟨some 24, none, .call 98 [.c (.slice none 0 0), .t 23]⟩,
    ⟨some 6, none, .mov (.t 24)⟩] [0, 6])
   (.seq (.seq (.region [⟨some 25, none, .mov (.t 0)⟩,
    ⟨some 26, none, .lenV (.t 25)⟩,
    ⟨some 27, none, .mov (.c (.int .i64 0))⟩] [6, 25, 26, 27])
   (.block 2 (.loop (.seq (.region [⟨some 28, none, .bin .lss (.t 27) (.t 26)⟩] [6, 25, 26, 27, 28])
   (.seq (.cond (.t 28) (.skip) (.exit 2))
   (.seq (.block 3 (.seq (.region [⟨some 29, none, .iaV 1 (.t 25) (.t 27)⟩,
    ⟨some 30, none, .ld 1 false (.t 29)⟩,
    ⟨some 8, none, .mov (.t 30)⟩] [6, 8, 25, 26, 27])
   (.region [⟨some 31, none, .mov (.t 6)⟩,
    ⟨some 32, none, .mov (.t 8)⟩,
    ⟨some 33, none, .app 1 1 (.t 31) (.t 32)⟩,
    ⟨some 6, none, .mov (.t 33)⟩] [6, 25, 26, 27])))
   (.region [⟨some 34, none, .bin .add (.t 27) (.c (.int .i64 1))⟩,
    ⟨some 27, none, .mov (.t 34)⟩] [6, 25, 26, 27])))))))
   (.seq (.region [⟨some 35, none, .mov (.t 6)⟩,
    ⟨some 2, none, .mov (.t 35)⟩] [2])
   (.ret)))))),
  [.t 2], 36, 1⟩
def A89 : Ann := ⟨[(0, [0]), (1, [0, 3]), (2, [0, 3, 9, 10, 11]), (3, [0, 3, 9, 10, 11, 12]), (4, [0, 3, 5, 9, 10, 11]), (5, [0, 3, 9, 10, 11]), (6, [0, 3, 9, 10, 11, 20]), (7, [0, 3, 9, 10, 11]), (8, [0, 3, 9, 10, 11]), (9, [0, 6]), (10, [6, 25, 26, 27]), (11, [6, 25, 26, 27, 28]), (12, [6, 8, 25, 26, 27]), (13, [6, 25, 26, 27]), (14, [6, 25, 26, 27]), (15, [2])], []⟩
set_option maxRecDepth 100000 in
theorem F89.ok : compF Try.prog A89 Try.f89 = some F89 := by kernel_rfl
theorem F89.fok : FOk Try.prog 89 F89 := fok_of mixed Try.func89 F89.ok

/-- (*cloakroom/frame.bytes).next -/
def F90 : SFn := ⟨.seq (.region [⟨some 2, none, .mov (.c (.slice none 0 0))⟩,
    ⟨some 3, none, .mov (.c (.bool false))⟩,
    ⟨some 4, none, .mov (.c (.bool false))⟩] [0])
   (.seq (.seq (.region [⟨some 6, none, .mov (.t 0)⟩,
    ⟨some 7, none, .nilc (.t 6)⟩,
    ⟨some 8, none, .fa 0 (.t 7)⟩,
    ⟨some 9, none, .ld 1 false (.t 8)⟩,
    ⟨some 10, none, .lenV (.t 9)⟩,
    ⟨some 11, none, .bin .lss (.t 10) (.c (.int .i64 2))⟩] [0, 11])
   (.cond (.t 11) (.seq (.region [⟨some 2, none, .mov (.c (.slice none 0 0))⟩,
    ⟨some 3, none, .mov (.c (.bool false))⟩,
    ⟨some 4, none, .mov (.c (.bool false))⟩] [2, 3, 4])
   (.ret)) (.skip)))
   (.seq (.region [⟨some 12, none, .mov (.t 0)⟩,
    ⟨some 13, none, .nilc (.t 12)⟩,
    ⟨some 14, none, .fa 0 (.t 13)⟩,
    ⟨some 15, none, .ld 1 false (.t 14)⟩,
    ⟨some 16, none, .iaV 1 (.t 15) (.c (.int .i64 0))⟩,
    ⟨some 17, none, .ld 1 false (.t 16)⟩,
    ⟨some 18, none, .conv .i64 (.t 17)⟩,
    ⟨some 19, none, .bin .shl (.t 18) (.c (.int .u64 8))⟩,
    ⟨some 20, none, .mov (.t 0)⟩,
    ⟨some 21, none, .nilc (.t 20)⟩,
    ⟨some 22, none, .fa 0 (.t 21)⟩,
    ⟨some 23, none, .ld 1 false (.t 22)⟩,
    ⟨some 24, none, .iaV 1 (.t 23) (.c (.int .i64 1))⟩,
    ⟨some 25, none, .ld 1 false (.t 24)⟩,
    ⟨some 26, none, .conv .i64 (.t 25)⟩,
    ⟨some 27, none, .bin .or (.t 19) (.t 26)⟩,
    ⟨some 5, none, .mov (.t 27)⟩] [0, 5])
   (.seq (.seq (.region [⟨some 28, none, .mov (.t 5)⟩,
    ⟨some 29, none, .bin .gtr (.t 28) (.c (.int .i64 5000))⟩] [0, 5, 29])
   (.cond (.t 29) (.seq (.region [⟨some 2, none, .mov (.c (.slice none 0 0))⟩,
    ⟨some 3, none, .mov (.c (.bool false))⟩,
    ⟨some 4, none, .mov (.c (.bool true))⟩] [2, 3, 4])
   (.ret)) (.skip)))
   (.seq (.seq (.region [⟨some 30, none, .mov (.t 0)⟩,
    ⟨some 31, none, .nilc (.t 30)⟩,
    ⟨some 32, none, .fa 0 (.t 31)⟩,
    ⟨some 33, none, .ld 1 false (.t 32)⟩,
    ⟨some 34, none, .lenV (.t 33)⟩,
    ⟨some 35, none, .bin .sub (.t 34) (.c (.int .i64 2))⟩,
    ⟨some 36, none, .mov (.t 5)⟩,
    ⟨some 37, none, .bin .lss (.t 35) (.t 36)⟩] [0, 5, 37])
   (.cond (.t 37) (.seq (.region [⟨some 2, none, .mov (.c (.slice none 0 0))⟩,
    ⟨some 3, none, .mov (.c (.bool false))⟩,
    ⟨some 4, none, .mov (.c (.bool false))⟩] [2, 3, 4])
   (.ret)) (.skip)))
   (.seq (.region [⟨some 38, none, .mov (.t 0)⟩,
    ⟨some 39, none, .nilc (.t 38)⟩,
    ⟨some 40, none, .fa 0 (.t 39)⟩,
    ⟨some 41, none, .ld 1 false (.t 40)⟩,
    ⟨some 42, none, .mov (.t 5)⟩,
    ⟨some 43, none, .bin .add (.c (.int .i64 2)) (.t 42)⟩,
    ⟨some 44, none, .slV 1 (.t 41) (some (.c (.int .i64 2))) (some (.t 43)) none⟩,
    ⟨some 45, none, .call 72 [.t 44]⟩,
    ⟨some 2, none, .mov (.t 45)⟩] [0, 2, 5])
   (.seq (.region [⟨some 46, none, .mov (.t 0)⟩,
    ⟨some 47, none, .mov (.t 0)⟩,
    ⟨some 48, none, .nilc (.t 47)⟩,
    ⟨some 49, none, .fa 0 (.t 48)⟩,
    ⟨some 50, none, .ld 1 false (.t 49)⟩,
    ⟨some 51, none, .mov (.t 5)⟩,
    ⟨some 52, none, .bin .add (.c (.int .i64 2)) (.t 51)⟩,
    ⟨some 53, none, .slV 1 (.t 50) (some (.t 52)) none none⟩,
    ⟨some 54, none, .nilc (.t 46)⟩,
    ⟨some 55, none, .fa 0 (.t 54)⟩,
    ⟨none, none, .st 1 (.t 55) (.t 53)⟩] [2])
   (.seq (.region [⟨some 56, none, .mov (.t 2)⟩,
    ⟨some 2, none, .mov (.t 56)⟩,
    ⟨some 3, none, .mov (.c (.bool true))⟩,
    ⟨some 4, none, .mov (.c (.bool false))⟩] [2, 3, 4])
   (.ret)))))))),
  [.t 2, .t 3, .t 4], 57, 1⟩
def A90 : Ann := ⟨[(0, [0]), (1, [0, 11]), (2, [2, 3, 4]), (3, [0, 5]), (4, [0, 5, 29]), (5, [2, 3, 4]), (6, [0, 5, 37]), (7, [2, 3, 4]), (8, [0, 2, 5]), (9, [2]), (10, [2, 3, 4])], [(3, [(0, []), (1, []), (2, []), (3, []), (4, []), (5, []), (6, []), (7, []), (8, []), (9, []), (10, []), (11, []), (12, []), (13, []), (14, []), (15, []), (16, [])], [(1, [0]), (2, [0, 1]), (3, [0, 1, 2]), (4, [0, 1, 2, 3]), (5, [0, 1, 2, 3, 4]), (6, [0, 1, 2, 3, 4, 5]), (7, [0, 1, 2, 3, 4, 5, 6]), (9, [8]), (10, [8, 9]), (11, [8, 9, 10]), (12, [8, 9, 10, 11]), (13, [8, 9, 10, 11, 12]), (14, [8, 9, 10, 11, 12, 13]), (15, [0, 1, 2, 3, 4, 5, 6, 7, 8, 9, 10, 11, 12, 13, 14]), (16, [0, 1, 2, 3, 4, 5, 6, 7, 8, 9, 10, 11, 12, 13, 14, 15])])]⟩
set_option maxRecDepth 100000 in
theorem F90.ok : compF Try.prog A90 Try.f90 = some F90 := by kernel_rfl
theorem F90.fok : FOk Try.prog 90 F90 := fok_of mixed Try.func90 F90.ok

/-- slices.Clone[[]cloakroom/token.entry,cloakroom/token.entry] -/
def F92 : SFn := ⟨.seq (.region [⟨some 2, none, .mov (.c (.slice none 0 0))⟩] [0])
   (.seq (.seq (.region [⟨some 3, none, .mov (.t 0)⟩,
    ⟨some 4, none, .eqk false .slice (.t 3) (.c (.slice none 0 0))⟩] [0, 4])
   (.cond (.t 4) (.seq (.region [⟨some 2, none, .mov (.c (.slice none 0 0))⟩] [2])
   (.ret)) (.skip)))
   (.seq (.region [⟨some 5, none, .bslice 0 15 [.int .i64 0, .int .u64 0, .int .u64 0, .string ByteArray.empty, .slice none 0 0, .slice none 0 0, .int .u64 0, .int .u64 0, .int .i64 0, .int .u64 0, .bool false, .int .u64 0, .int .i64 0, .int .u64 0, .slice none 0 0] []⟩,
    ⟨some 6, none, .mov (.t 0)⟩,
    ⟨some 7, none, .app 15 176 (.t 5) (.t 6)⟩,
    ⟨some 2, none, .mov (.t 7)⟩] [2])
   (.ret))),
  [.t 2], 8, 1⟩
def A92 : Ann := ⟨[(0, [0]), (1, [0, 4]), (2, [2]), (3, [2])], []⟩
set_option maxRecDepth 100000 in
theorem F92.ok : compF Try.prog A92 Try.f92 = some F92 := by kernel_rfl
theorem F92.fok : FOk Try.prog 92 F92 := fok_of mixed Try.func92 F92.ok

/-- slices.Clone[[]uint64,uint64] -/
def F93 : SFn := ⟨.seq (.region [⟨some 2, none, .mov (.c (.slice none 0 0))⟩] [0])
   (.seq (.seq (.region [⟨some 3, none, .mov (.t 0)⟩,
    ⟨some 4, none, .eqk false .slice (.t 3) (.c (.slice none 0 0))⟩] [0, 4])
   (.cond (.t 4) (.seq (.region [⟨some 2, none, .mov (.c (.slice none 0 0))⟩] [2])
   (.ret)) (.skip)))
   (.seq (.region [⟨some 5, none, .bslice 0 1 [.int .u64 0] []⟩,
    ⟨some 6, none, .mov (.t 0)⟩,
    ⟨some 7, none, .app 1 8 (.t 5) (.t 6)⟩,
    ⟨some 2, none, .mov (.t 7)⟩] [2])
   (.ret))),
  [.t 2], 8, 1⟩
def A93 : Ann := ⟨[(0, [0]), (1, [0, 4]), (2, [2]), (3, [2])], []⟩
set_option maxRecDepth 100000 in
theorem F93.ok : compF Try.prog A93 Try.f93 = some F93 := by kernel_rfl
theorem F93.fok : FOk Try.prog 93 F93 := fok_of mixed Try.func93 F93.ok

/-- cloakroom/cloakroomref1.number -/
def F94 : SFn := ⟨.seq (.region [⟨some 6, none, .mov (.c (.int .u64 0))⟩,
    ⟨some 7, none, .mov (.c (.int .i64 0))⟩,
    ⟨some 8, none, .mov (.c (.int .i64 0))⟩] [0, 1, 2])
   (.seq (.region [⟨some 9, none, .mov (.c (.int .u64 0))⟩] [0, 1, 2, 9])
   (.seq (.region [⟨some 17, none, .mov (.t 1)⟩,
    ⟨some 18, none, .bin .add (.t 17) (.c (.int .i64 6))⟩,
    ⟨some 19, none, .bin .quo (.t 18) (.c (.int .i64 7))⟩,
    ⟨some 10, none, .mov (.t 19)⟩] [0, 1, 2, 9, 10])
   (.seq (.seq (.region [⟨some 11, none, .mov (.c (.int .i64 0))⟩] [0, 1, 2, 9, 10, 11])
   (.block 0 (.loop (.seq (.seq (.region [⟨some 20, none, .mov (.t 11)⟩,
    ⟨some 21, none, .mov (.t 10)⟩,
    ⟨some 22, none, .bin .lss (.t 20) (.t 21)⟩] [0, 1, 2, 9, 10, 11, 22])
   (.cond (.t 22) (.skip) (.exit 0)))
   (.seq (.block 1 (.seq (.seq (.region [⟨some 25, none, .mov (.t 11)⟩,
    ⟨some 26, none, .mov (.t 0)⟩,
    ⟨some 27, none, .lenV (.t 26)⟩,
    ⟨some 28, none, .bin .geq (.t 25) (.t 27)⟩] [0, 1, 2, 9, 10, 11, 28])
   (.cond (.t 28) (.seq (.region [⟨some 6, none, .mov (.c (.int .u64 0))⟩,
    ⟨some 7, none, .mov (.c (.int .i64 0))⟩,
    ⟨some 8, none, .mov (.c (.int .i64 3))⟩] [6, 7, 8])
   (.ret)) (.skip)))
   (.seq (.region [⟨some 29, none, .mov (.t 0)⟩,
    ⟨some 30, none, .mov (.t 11)⟩,
    ⟨some 31, none, .iaV 1 (.t 29) (.t 30)⟩,
    ⟨some 32, none, .ld 1 false (.t 31)⟩,
    ⟨some 12, none, .mov (.t 32)⟩] [0, 1, 2, 9, 10, 11, 12])
   (.seq (.region [⟨some 33, none, .mov (.t 12)⟩,
    ⟨some 34, none, .bin .and (.t 33) (.c (.int .u8 127))⟩,
    ⟨some 35, none, .conv .u64 (.t 34)⟩,
    ⟨some 13, none, .mov (.t 35)⟩] [0, 1, 2, 9, 10, 11, 12, 13])
   (.seq (.seq (.region [⟨some 36, none, .mov (.t 11)⟩,
    ⟨some 37, none, .mov (.t 10)⟩,
    ⟨some 38, none, .bin .sub (.t 37) (.c (.int .i64 1))⟩,
    ⟨some 39, none, .bin .eql (.t 36) (.t 38)⟩] [0, 1, 2, 9, 10, 11, 12, 13, 39])
   (.cond (.t 39) (.seq (.region [⟨some 40, none, .mov (.t 1)⟩,
    ⟨some 41, none, .mov (.t 11)⟩,
    ⟨some 42, none, .bin .mul (.c (.int .i64 7)) (.t 41)⟩,
    ⟨some 43, none, .bin .sub (.t 40) (.t 42)⟩,
    ⟨some 14, none, .mov (.t 43)⟩] [0, 1, 2, 9, 10, 11, 12, 13, 14])
   (.seq (.region [⟨some 44, none, .mov (.t 13)⟩,
    ⟨some 45, none, .mov (.t 14)⟩,
    ⟨some 46, none, .bin .shr (.t 44) (.t 45)⟩,
    ⟨some 15, none, .mov (.t 46)⟩] [0, 1, 2, 9, 10, 11, 12, 13, 14, 15])
   (.seq (.seq (.region [⟨some 47, none, .mov (.t 2)⟩] [0, 1, 2, 9, 10, 11, 12, 13, 14, 15, 47])
   (.cond (.t 47) (.region [⟨some 48, none, .mov (.t 13)⟩,
    ⟨some 49, none, .mov (.t 14)⟩,
    ⟨some 50, none, .bin .sub (.t 49) (.c (.int .i64 1))⟩,
    ⟨some 51, none, .bin .shr (.t 48) (.t 50)⟩,
    ⟨some 15, none, .mov (.t 51)⟩] [0, 1, 2, 9, 10, 11, 12, 13, 14, 15]) (.skip)))
   (.seq (.region [⟨some 52, none, .mov (.t 14)⟩,
    ⟨some 53, none, .bin .shr (.c (.int .u64 127)) (.t 52)⟩,
    ⟨some 16, none, .mov (.t 53)⟩] [0, 1, 2, 9, 10, 11, 12, 13, 14, 15, 16])
   (.seq (.seq (.region [⟨some 54, none, .mov (.t 2)⟩] [0, 1, 2, 9, 10, 11, 12, 13, 14, 15, 16, 54])
   (.cond (.t 54) (.region [⟨some 55, none, .mov (.t 14)⟩,
    ⟨some 56, none, .bin .sub (.t 55) (.c (.int .i64 1))⟩,
    ⟨some 57, none, .bin .shr (.c (.int .u64 127)) (.t 56)⟩,
    ⟨some 16, none, .mov (.t 57)⟩] [0, 1, 2, 9, 10, 11, 12, 13, 15, 16]) (.skip)))
   (.seq (.region [⟨some 58, none, .mov (.t 12)⟩,
    ⟨some 59, none, .bin .geq (.t 58) (.c (.int .u8 128))⟩,
    ⟨some 60, none, .mov (.t 59)⟩,
    ⟨some 61, some (60, false), .mov (.t 15)⟩,
    ⟨some 62, some (60, false), .bin .neq (.t 61) (.c (.int .u64 0))⟩,
    ⟨some 63, some (60, false), .mov (.t 62)⟩,
    ⟨some 64, some (63, true), .mov (.t 2)⟩,
    ⟨some 65, some (63, true), .un .not (.t 64)⟩,
    ⟨some 66, some (63, true), .mov (.t 65)⟩,
    ⟨some 67, some (66, false), .mov (.t 15)⟩,
    ⟨some 68, some (66, false), .mov (.t 16)⟩,
    ⟨some 69, some (66, false), .bin .neq (.t 67) (.t 68)⟩,
    ⟨some 70, some (63, true), .pick (.t 66) (.c (.bool true)) (.t 69)⟩,
    ⟨some 71, some (60, false), .pick (.t 63) (.t 70) (.c (.bool false))⟩,
    ⟨some 72, none, .pick (.t 60) (.c (.bool true)) (.t 71)⟩] [0, 1, 2, 9, 10, 11, 12, 13, 72])
   (.cond (.t 72) (.seq (.region [⟨some 6, none, .mov (.c (.int .u64 0))⟩,
    ⟨some 7, none, .mov (.c (.int .i64 0))⟩,
    ⟨some 8, none, .mov (.c (.int .i64 2))⟩] [6, 7, 8])
   (.ret)) (.skip)))))))) (.skip)))
   (.seq (.region [⟨some 73, none, .mov (.t 9)⟩,
    ⟨some 74, none, .mov (.t 13)⟩,
    ⟨some 75, none, .mov (.t 11)⟩,
    ⟨some 76, none, .bin .mul (.c (.int .i64 7)) (.t 75)⟩,
    ⟨some 77, none, .bin .shl (.t 74) (.t 76)⟩,
    ⟨some 78, none, .bin .or (.t 73) (.t 77)⟩,
    ⟨some 9, none, .mov (.t 78)⟩] [0, 1, 2, 9, 10, 11, 12])
   (.seq (.region [⟨some 79, none, .mov (.t 12)⟩,
    ⟨some 80, none, .bin .lss (.t 79) (.c (.int .u8 128))⟩] [0, 1, 2, 9, 10, 11, 12, 80])
   (.cond (.t 80) (.seq (.seq (.region [⟨some 81, none, .mov (.t 2)⟩,
    ⟨some 82, none, .mov (.t 81)⟩,
    ⟨some 83, some (82, true), .mov (.t 12)⟩,
    ⟨some 84, some (82, true), .bin .and (.t 83) (.c (.int .u8 64))⟩,
    ⟨some 85, some (82, true), .bin .neq (.t 84) (.c (.int .u8 0))⟩,
    ⟨some 86, none, .pick (.t 82) (.t 85) (.c (.bool false))⟩,
    ⟨some 87, none, .mov (.t 86)⟩,
    ⟨some 88, some (87, true), .mov (.t 11)⟩,
    ⟨some 89, some (87, true), .bin .mul (.c (.int .i64 7)) (.t 88)⟩,
    ⟨some 90, some (87, true), .bin .add (.t 89) (.c (.int .i64 7))⟩,
    ⟨some 91, some (87, true), .bin .lss (.t 90) (.c (.int .i64 64))⟩,
    ⟨some 92, none, .pick (.t 87) (.t 91) (.c (.bool false))⟩] [9, 11, 92])
   (.cond (.t 92) (.region [⟨some 93, none, .mov (.t 9)⟩,
    ⟨some 94, none, .mov (.t 11)⟩,
    ⟨some 95, none, .bin .mul (.c (.int .i64 7)) (.t 94)⟩,
    ⟨some 96, none, .bin .add (.t 95) (.c (.int .i64 7))⟩,
    ⟨some 97, none, .bin .shl (.c (.int .u64 18446744073709551615)) (.t 96)⟩,
    ⟨some 98, none, .bin .or (.t 93) (.t 97)⟩,
    ⟨some 9, none, .mov (.t 98)⟩] [9, 11]) (.skip)))
   (.seq (.region [⟨some 99, none, .mov (.t 9)⟩,
    ⟨some 100, none, .mov (.t 11)⟩,
    ⟨some 101, none, .bin .add (.t 100) (.c (.int .i64 1))⟩,
    ⟨some 6, none, .mov (.t 99)⟩,
    ⟨some 7, none, .mov (.t 101)⟩,
    ⟨some 8, none, .mov (.c (.int .i64 0))⟩] [6, 7, 8])
   (.ret))) (.skip)))))))))
   (.region [⟨some 23, none, .mov (.t 11)⟩,
    ⟨some 24, none, .bin .add (.t 23) (.c (.int .i64 1))⟩,
    ⟨some 11, none, .mov (.t 24)⟩] [0, 1, 2, 9, 10, 11]))))))
   (.seq (.region [⟨some 6, none, .mov (.c (.int .u64 0))⟩,
    ⟨some 7, none, .mov (.c (.int .i64 0))⟩,
    ⟨some 8, none, .mov (.c (.int .i64 2))⟩] [6, 7, 8])
   (.ret))))),
  [.t 6, .t 7, .t 8], 102, 3⟩
def A94 : Ann := ⟨[(0, [0, 1, 2]), (1, [0, 1, 2, 9]), (2, [0, 1, 2, 9, 10]), (3, [0, 1, 2, 9, 10, 11]), (4, [0, 1, 2, 9, 10, 11, 22]), (5, [0, 1, 2, 9, 10, 11]), (6, [0, 1, 2, 9, 10, 11, 28]), (7, [6, 7, 8]), (8, [0, 1, 2, 9, 10, 11, 12]), (9, [0, 1, 2, 9, 10, 11, 12, 13]), (10, [0, 1, 2, 9, 10, 11, 12, 13, 39]), (11, [0, 1, 2, 9, 10, 11, 12, 13, 14]), (12, [0, 1, 2, 9, 10, 11, 12, 13, 14, 15]), (13, [0, 1, 2, 9, 10, 11, 12, 13, 14, 15, 47]), (14, [0, 1, 2, 9, 10, 11, 12, 13, 14, 15]), (15, [0, 1, 2, 9, 10, 11, 12, 13, 14, 15, 16]), (16, [0, 1, 2, 9, 10, 11, 12, 13, 14, 15, 16, 54]), (17, [0, 1, 2, 9, 10, 11, 12, 13, 15, 16]), (18, [0, 1, 2, 9, 10, 11, 12, 13, 72]), (19, [6, 7, 8]), (20, [0, 1, 2, 9, 10, 11, 12]), (21, [0, 1, 2, 9, 10, 11, 12, 80]), (22, [9, 11, 92]), (23, [9, 11]), (24, [6, 7, 8]), (25, [6, 7, 8])], []⟩
set_option maxRecDepth 100000 in
theorem F94.ok : compF Try.prog A94 Try.f94 = some F94 := by kernel_rfl
theorem F94.fok : FOk Try.prog 94 F94 := fok_of mixed Try.func94 F94.ok

/-- cloakroom/leb.put -/
def F95 : SFn := ⟨.seq (.region [⟨some 4, none, .mov (.c (.slice none 0 0))⟩] [0, 1])
   (.seq (.region [⟨some 5, none, .mov (.t 0)⟩,
    ⟨some 6, none, .call 72 [.t 5]⟩,
    ⟨some 7, none, .mov (.t 1)⟩,
    ⟨some 8, none, .app 1 1 (.t 6) (.t 7)⟩,
    ⟨some 4, none, .mov (.t 8)⟩] [4])
   (.ret)),
  [.t 4], 9, 2⟩
def A95 : Ann := ⟨[(0, [0, 1]), (1, [4])], []⟩
set_option maxRecDepth 100000 in
theorem F95.ok : compF Try.prog A95 Try.f95 = some F95 := by kernel_rfl
theorem F95.fok : FOk Try.prog 95 F95 := fok_of mixed Try.func95 F95.ok

/-- cloakroom/leb.read -/
def F96 : SFn := ⟨.seq (.region [⟨some 6, none, .mov (.c (.int .u64 0))⟩,
    ⟨some 7, none, .mov (.c (.int .i64 0))⟩,
    ⟨some 8, none, .mov (.c (.int .i64 0))⟩] [0, 1, 2, 6, 7])
   (.seq (.region [⟨some 9, none, .mov (.c (.int .i64 0))⟩] [0, 1, 2, 6, 7, 9])
   (.block 0 (.loop (.seq (.block 1 (.seq (.seq (.region [⟨some 14, none, .mov (.t 7)⟩,
    ⟨some 15, none, .mov (.t 0)⟩,
    ⟨some 16, none, .lenV (.t 15)⟩,
    ⟨some 17, none, .bin .eql (.t 14) (.t 16)⟩] [0, 1, 2, 6, 7, 9, 17])
   (.cond (.t 17) (.seq (.region [⟨some 6, none, .mov (.c (.int .u64 0))⟩,
    ⟨some 7, none, .mov (.c (.int .i64 0))⟩,
    ⟨some 8, none, .mov (.c (.int .i64 3))⟩] [6, 7, 8])
   (.ret)) (.skip)))
   (.seq (.region [⟨some 18, none, .mov (.t 0)⟩,
    ⟨some 19, none, .mov (.t 7)⟩,
    ⟨some 20, none, .iaV 1 (.t 18) (.t 19)⟩,
    ⟨some 21, none, .ld 1 false (.t 20)⟩,
    ⟨some 10, none, .mov (.t 21)⟩] [0, 1, 2, 6, 7, 9, 10])
   (.seq (.region [⟨some 22, none, .mov (.t 7)⟩,
    ⟨some 23, none, .bin .add (.t 22) (.c (.int .i64 1))⟩,
    ⟨some 7, none, .mov (.t 23)⟩] [0, 1, 2, 6, 7, 9, 10])
   (.seq (.seq (.region [⟨some 24, none, .mov (.t 1)⟩,
    ⟨some 25, none, .mov (.t 9)⟩,
    ⟨some 26, none, .bin .sub (.t 24) (.t 25)⟩,
    ⟨some 11, none, .mov (.t 26)⟩] [0, 1, 2, 6, 7, 9, 10, 11])
   (.seq (.region [⟨some 27, none, .mov (.t 11)⟩,
    ⟨some 28, none, .bin .leq (.t 27) (.c (.int .i64 7))⟩,
    ⟨some 29, none, .mov (.t 28)⟩,
    ⟨some 30, some (29, true), .mov (.t 10)⟩,
    ⟨some 31, some (29, true), .mov (.t 11)⟩,
    ⟨some 32, some (29, true), .mov (.t 2)⟩,
    ⟨some 33, some (29, true), .call 100 [.t 30, .t 31, .t 32]⟩,
    ⟨some 34, some (29, true), .un .not (.t 33)⟩,
    ⟨some 35, none, .pick (.t 29) (.t 34) (.c (.bool false))⟩] [0, 1, 2, 6, 7, 9, 10, 35])
   (.cond (.t 35) (.seq (.region [⟨some 6, none, .mov (.c (.int .u64 0))⟩,
    ⟨some 7, none, .mov (.c (.int .i64 0))⟩,
    ⟨some 8, none, .mov (.c (.int .i64 2))⟩] [6, 7, 8])
   (.ret)) (.skip))))
   (.seq (.region [⟨some 36, none, .mov (.t 6)⟩,
    ⟨some 37, none, .mov (.t 10)⟩,
    ⟨some 38, none, .bin .and (.t 37) (.c (.int .u8 127))⟩,
    ⟨some 39, none, .conv .u64 (.t 38)⟩,
    ⟨some 40, none, .mov (.t 9)⟩,
    ⟨some 41, none, .bin .shl (.t 39) (.t 40)⟩,
    ⟨some 42, none, .bin .or (.t 36) (.t 41)⟩,
    ⟨some 6, none, .mov (.t 42)⟩] [0, 1, 2, 6, 7, 9, 10])
   (.seq (.seq (.region [⟨some 43, none, .mov (.t 10)⟩,
    ⟨some 44, none, .bin .and (.t 43) (.c (.int .u8 128))⟩,
    ⟨some 45, none, .bin .neq (.t 44) (.c (.int .u8 0))⟩] [0, 1, 2, 6, 7, 9, 10, 45])
   (.cond (.t 45) (.exit 1) (.skip)))
   (.seq (.seq (.region [⟨some 46, none, .mov (.t 2)⟩,
    ⟨some 47, none, .mov (.t 46)⟩,
    ⟨some 48, some (47, true), .mov (.t 10)⟩,
    ⟨some 49, some (47, true), .bin .and (.t 48) (.c (.int .u8 64))⟩,
    ⟨some 50, some (47, true), .bin .neq (.t 49) (.c (.int .u8 0))⟩,
    ⟨some 51, none, .pick (.t 47) (.t 50) (.c (.bool false))⟩,
    ⟨some 52, none, .mov (.t 51)⟩,
    ⟨some 53, some (52, true), .mov (.t 9)⟩,
    ⟨some 54, some (52, true), .bin .add (.t 53) (.c (.int .i64 7))⟩,
    ⟨some 55, some (52, true), .bin .lss (.t 54) (.c (.int .i64 64))⟩,
    ⟨some 56, none, .pick (.t 52) (.t 55) (.c (.bool false))⟩] [6, 7, 9, 56])
   (.cond (.t 56) (.region [⟨some 57, none, .mov (.t 6)⟩,
    ⟨some 58, none, .mov (.t 9)⟩,
    ⟨some 59, none, .bin .add (.t 58) (.c (.int .i64 7))⟩,
    ⟨some 60, none, .bin .shl (.c (.int .u64 18446744073709551615)) (.t 59)⟩,
    ⟨some 61, none, .bin .or (.t 57) (.t 60)⟩,
    ⟨some 6, none, .mov (.t 61)⟩] [6, 7]) (.skip)))
   (.seq (.region [⟨some 62, none, .mov (.t 6)⟩,
    ⟨some 63, none, .mov (.t 7)⟩,
    ⟨some 6, none, .mov (.t 62)⟩,
    ⟨some 7, none, .mov (.t 63)⟩,
    ⟨some 8, none, .mov (.c (.int .i64 0))⟩] [6, 7, 8])
   (.ret))))))))))
   (.region [⟨some 12, none, .mov (.t 9)⟩,
    ⟨some 13, none, .bin .add (.t 12) (.c (.int .i64 7))⟩,
    ⟨some 9, none, .mov (.t 13)⟩] [0, 1, 2, 6, 7, 9]))))),
  [.t 6, .t 7, .t 8], 64, 3⟩
def A96 : Ann := ⟨[(0, [0, 1, 2, 6, 7]), (1, [0, 1, 2, 6, 7, 9]), (2, [0, 1, 2, 6, 7, 9]), (3, [0, 1, 2, 6, 7, 9, 17]), (4, [6, 7, 8]), (5, [0, 1, 2, 6, 7, 9, 10]), (6, [0, 1, 2, 6, 7, 9, 10]), (7, [0, 1, 2, 6, 7, 9, 10, 11]), (8, [0, 1, 2, 6, 7, 9, 10, 35]), (9, [6, 7, 8]), (10, [0, 1, 2, 6, 7, 9, 10]), (11, [0, 1, 2, 6, 7, 9, 10, 45]), (12, [6, 7, 9, 56]), (13, [6, 7]), (14, [6, 7, 8])], []⟩
set_option maxRecDepth 100000 in
theorem F96.ok : compF Try.prog A96 Try.f96 = some F96 := by kernel_rfl
theorem F96.fok : FOk Try.prog 96 F96 := fok_of mixed Try.func96 F96.ok

/-- cloakroom/leb.U32 -/
def F97 : SFn := ⟨.seq (.region [⟨some 2, none, .mov (.c (.int .u32 0))⟩,
    ⟨some 3, none, .mov (.c (.int .i64 0))⟩,
    ⟨some 4, none, .mov (.c (.int .i64 0))⟩] [0])
   (.seq (.region [⟨some 7, none, .mov (.t 0)⟩,
    ⟨some 8, none, .call 96 [.t 7, .c (.int .i64 32), .c (.bool false)]⟩,
    ⟨some 6, none, .mov (.t 8)⟩,
    ⟨some 9, none, .ext (.t 6) 0⟩,
    ⟨some 10, none, .ext (.t 6) 1⟩,
    ⟨some 11, none, .ext (.t 6) 2⟩,
    ⟨some 5, none, .mov (.t 9)⟩,
    ⟨some 3, none, .mov (.t 10)⟩,
    ⟨some 4, none, .mov (.t 11)⟩] [3, 4, 5])
   (.seq (.region [⟨some 12, none, .mov (.t 5)⟩,
    ⟨some 13, none, .conv .u32 (.t 12)⟩,
    ⟨some 14, none, .mov (.t 3)⟩,
    ⟨some 15, none, .mov (.t 4)⟩,
    ⟨some 2, none, .mov (.t 13)⟩,
    ⟨some 3, none, .mov (.t 14)⟩,
    ⟨some 4, none, .mov (.t 15)⟩] [2, 3, 4])
   (.ret))),
  [.t 2, .t 3, .t 4], 16, 1⟩
def A97 : Ann := ⟨[(0, [0]), (1, [3, 4, 5]), (2, [2, 3, 4])], []⟩
set_option maxRecDepth 100000 in
theorem F97.ok : compF Try.prog A97 Try.f97 = some F97 := by kernel_rfl
theorem F97.fok : FOk Try.prog 97 F97 := fok_of mixed Try.func97 F97.ok

/-- slices.Grow[[]byte,byte] -/
def F98 : SFn := ⟨.seq (.region [⟨some 4, none, .mov (.c (.slice none 0 0))⟩] [0, 1])
   (.seq (.seq (.region [⟨some 5, none, .mov (.t 1)⟩,
    ⟨some 6, none, .bin .lss (.t 5) (.c (.int .i64 0))⟩] [0, 1, 6])
   (.cond (.t 6) (.region [⟨some 7, none, .bad⟩,
    ⟨none, none, .bad⟩] [0, 1]) (.skip)))
   (.seq (.seq (.region [⟨some 8, none, .mov (.t 1)⟩,
    ⟨some 9, none, .mov (.t 0)⟩,
    ⟨some 10, none, .capV (.t 9)⟩,
    ⟨some 11, none, .mov (.t 0)⟩,
    ⟨some 12, none, .lenV (.t 11)⟩,
    ⟨some 13, none, .bin .sub (.t 10) (.t 12)⟩,
    ⟨some 14, none, .bin .sub (.t 8) (.t 13)⟩,
    ⟨some 1, none, .mov (.t 14)⟩] [0, 1])
   (.seq (.region [⟨some 15, none, .mov (.t 1)⟩,
    ⟨some 16, none, .bin .gtr (.t 15) (.c (.int .i64 0))⟩] [0, 1, 16])
   (.cond (.t 16) (.region [⟨some 17, none, .mov (.t 0)⟩,
    ⟨some 18, none, .mov (.t 0)⟩,
    ⟨some 19, none, .capV (.t 18)⟩,
    ⟨some 20, none, .slV 1 (.t 17) none (some (.t 19)) none⟩,
    ⟨some 21, none, .mov (.t 1)⟩,
    ⟨some 22, none, .appZ 1 1 [.int .u8 0] (.t 20) (.t 21)⟩,
    ⟨some 23, none, .mov (.t 0)⟩,
    ⟨some 24, none, .lenV (.t 23)⟩,
    ⟨some 25, none, .slV 1 (.t 22) none (some (.t 24)) none⟩,
    ⟨some 0, none, .mov (.t 25)⟩] [0]) (.skip))))
   (.seq (.region [⟨some 26, none, .mov (.t 0)⟩,
    ⟨some 4, none, .mov (.t 26)⟩] [4])
   (.ret)))),
  [.t 4], 27, 2⟩
def A98 : Ann := ⟨[(0, [0, 1]), (1, [0, 1, 6]), (2, [0, 1]), (3, [0, 1]), (4, [0, 1, 16]), (5, [0]), (6, [4])], []⟩
set_option maxRecDepth 100000 in
theorem F98.ok : compF Try.prog A98 Try.f98 = some F98 := by kernel_rfl
theorem F98.fok : FOk Try.prog 98 F98 := fok_of mixed Try.func98 F98.ok

/-- cloakroom/leb.last -/
def F100 : SFn := ⟨.seq (.region [⟨some 6, none, .mov (.c (.bool false))⟩] [0, 1, 2])
   (.seq (.seq (.region [⟨some 8, none, .mov (.t 0)⟩,
    ⟨some 9, none, .bin .and (.t 8) (.c (.int .u8 128))⟩,
    ⟨some 10, none, .bin .neq (.t 9) (.c (.int .u8 0))⟩] [0, 1, 2, 10])
   (.cond (.t 10) (.seq (.region [⟨some 6, none, .mov (.c (.bool false))⟩] [6])
   (.ret)) (.skip)))
   (.seq (.seq (.region [⟨some 11, none, .mov (.t 2)⟩,
    ⟨some 12, none, .un .not (.t 11)⟩] [0, 1, 12])
   (.cond (.t 12) (.seq (.region [⟨some 13, none, .mov (.t 0)⟩,
    ⟨some 14, none, .mov (.t 1)⟩,
    ⟨some 15, none, .bin .shr (.t 13) (.t 14)⟩,
    ⟨some 16, none, .bin .eql (.t 15) (.c (.int .u8 0))⟩,
    ⟨some 6, none, .mov (.t 16)⟩] [6])
   (.ret)) (.skip)))
   (.seq (.region [⟨some 17, none, .mov (.t 0)⟩,
    ⟨some 18, none, .mov (.t 1)⟩,
    ⟨some 19, none, .bin .sub (.t 18) (.c (.int .i64 1))⟩,
    ⟨some 20, none, .bin .shr (.t 17) (.t 19)⟩,
    ⟨some 7, none, .mov (.t 20)⟩] [1, 7])
   (.seq (.region [⟨some 21, none, .mov (.t 7)⟩,
    ⟨some 22, none, .bin .eql (.t 21) (.c (.int .u8 0))⟩,
    ⟨some 23, none, .mov (.t 22)⟩,
    ⟨some 24, some (23, false), .mov (.t 7)⟩,
    ⟨some 25, some (23, false), .mov (.t 1)⟩,
    ⟨some 26, some (23, false), .bin .sub (.t 25) (.c (.int .i64 1))⟩,
    ⟨some 27, some (23, false), .bin .shr (.c (.int .u8 127)) (.t 26)⟩,
    ⟨some 28, some (23, false), .bin .eql (.t 24) (.t 27)⟩,
    ⟨some 29, none, .pick (.t 23) (.c (.bool true)) (.t 28)⟩,
    ⟨some 6, none, .mov (.t 29)⟩] [6])
   (.ret))))),
  [.t 6], 30, 3⟩
def A100 : Ann := ⟨[(0, [0, 1, 2]), (1, [0, 1, 2, 10]), (2, [6]), (3, [0, 1, 12]), (4, [6]), (5, [1, 7]), (6, [6])], []⟩
set_option maxRecDepth 100000 in
theorem F100.ok : compF Try.prog A100 Try.f100 = some F100 := by kernel_rfl
theorem F100.fok : FOk Try.prog 100 F100 := fok_of mixed Try.func100 F100.ok
end Go.Dx.SYtkppbmhpcjjceaa
