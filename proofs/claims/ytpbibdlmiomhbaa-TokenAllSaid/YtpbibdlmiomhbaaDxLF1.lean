/- The readings of functions, printed by a program of the prover's own. -/
import Derived.Test.YtpbibdlmiomhbaaDx19
import Derived.Test.YtpbibdlmiomhbaaChecked
import Derived.Eval
import Derived.Test.YtpbibdlmiomhbaaDxLF0
namespace Go.Dx.SYtpbibdlmiomhbaa
open Go.Proofs
set_option linter.unusedVariables false
/-- slices.DeleteFunc[[]uint64,uint64] -/
def F55 : SFn := ⟨.seq (.region [⟨some 4, none, .mov (.c (.slice none 0 0))⟩] [0, 1])
   (.seq (.region [⟨some 8, none, .mov (.t 0)⟩,
    ⟨some 9, none, .mov (.t 1)⟩,
    ⟨some 10, none, .call 71 [.t 8, .t 9]⟩,
    ⟨some 5, none, .mov (.t 10)⟩] [0, 1, 5])
   (.seq (.seq (.region [⟨some 11, none, .mov (.t 5)⟩,
    ⟨some 12, none, .bin .eql (.t 11) (.c (.int .i64 (-1)))⟩] [0, 1, 5, 12])
   (.cond (.t 12) (.seq (.region [⟨some 13, none, .mov (.t 0)⟩,
    ⟨some 4, none, .mov (.t 13)⟩] [4])
   (.ret)) (.skip)))
   (.seq (.seq (.region [⟨some 14, none, .mov (.t 5)⟩,
    ⟨some 15, none, .bin .add (.t 14) (.c (.int .i64 1))⟩,
    ⟨some 6, none, .mov (.t 15)⟩] [0, 1, 5, 6])
   (.block 0 (.loop (.seq (.seq (.region [⟨some 16, none, .mov (.t 6)⟩,
    ⟨some 17, none, .mov (.t 0)⟩,
    ⟨some 18, none, .lenV (.t 17)⟩,
    ⟨some 19, none, .bin .lss (.t 16) (.t 18)⟩] [0, 1, 5, 6, 19])
   (.cond (.t 19) (.skip) (.exit 0)))
   (.seq (.block 1 (.seq (.region [⟨some 22, none, .mov (.t 0)⟩,
    ⟨some 23, none, .mov (.t 6)⟩,
    ⟨some 24, none, .iaV 1 (.t 22) (.t 23)⟩,
    ⟨some 25, none, .ld 1 false (.t 24)⟩,
    ⟨some 7, none, .mov (.t 25)⟩] [0, 1, 5, 6, 7])
   (.seq (.region [⟨some 26, none, .mov (.t 1)⟩,
    ⟨some 27, none, .mov (.t 7)⟩,
    ⟨some 28, none, .callv (.t 26) [.t 27]⟩,
    ⟨some 29, none, .un .not (.t 28)⟩] [0, 1, 5, 6, 7, 29])
   (.cond (.t 29) (.seq (.region [⟨some 30, none, .mov (.t 0)⟩,
    ⟨some 31, none, .mov (.t 5)⟩,
    ⟨some 32, none, .mov (.t 7)⟩,
    ⟨some 33, none, .iaV 1 (.t 30) (.t 31)⟩,
    ⟨none, none, .st 1 (.t 33) (.t 32)⟩] [0, 1, 5, 6])
   (.region [⟨some 34, none, .mov (.t 5)⟩,
    ⟨some 35, none, .bin .add (.t 34) (.c (.int .i64 1))⟩,
    ⟨some 5, none, .mov (.t 35)⟩] [0, 1, 5, 6])) (.skip)))))
   (.region [⟨some 20, none, .mov (.t 6)⟩,
    ⟨some 21, none, .bin .add (.t 20) (.c (.int .i64 1))⟩,
    ⟨some 6, none, .mov (.t 21)⟩] [0, 1, 5, 6]))))))
   (.seq (.region [⟨some 36, none, .mov (.t 0)⟩,
    ⟨some 37, none, .mov (.t 5)⟩,
    ⟨some 38, none, .slV 1 (.t 36) (some (.t 37)) none none⟩,
    ⟨none, none, .clr 1 [.int .u64 0] (.t 38)⟩] [0, 5])
   (.seq (.region [⟨some 39, none, .mov (.t 0)⟩,
    ⟨some 40, none, .mov (.t 5)⟩,
    ⟨some 41, none, .slV 1 (.t 39) none (some (.t 40)) none⟩,
    ⟨some 4, none, .mov (.t 41)⟩] [4])
   (.ret)))))),
  [.t 4], 42, 2⟩
def A55 : Ann := ⟨[(0, [0, 1]), (1, [0, 1, 5]), (2, [0, 1, 5, 12]), (3, [4]), (4, [0, 1, 5, 6]), (5, [0, 1, 5, 6, 19]), (6, [0, 1, 5, 6]), (7, [0, 1, 5, 6, 7]), (8, [0, 1, 5, 6, 7, 29]), (9, [0, 1, 5, 6]), (10, [0, 1, 5, 6]), (11, [0, 5]), (12, [4])], []⟩
set_option maxRecDepth 100000 in
theorem F55.ok : compF Try.prog A55 Try.f55 = some F55 := by kernel_rfl
theorem F55.fok : FOk Try.prog 55 F55 := fok_of mixed Try.func55 F55.ok

/-- (*cloakroom/lock.Queue).Leave$1 -/
def F56 : SFn := ⟨.seq (.region [⟨some 3, none, .mov (.c (.bool false))⟩] [0, 1])
   (.seq (.region [⟨some 4, none, .mov (.t 0)⟩,
    ⟨some 5, none, .ld 1 false (.t 1)⟩,
    ⟨some 6, none, .bin .eql (.t 4) (.t 5)⟩,
    ⟨some 3, none, .mov (.t 6)⟩] [3])
   (.ret)),
  [.t 3], 7, 2⟩
def A56 : Ann := ⟨[(0, [0, 1]), (1, [3])], []⟩
set_option maxRecDepth 100000 in
theorem F56.ok : compF Try.prog A56 Try.f56 = some F56 := by kernel_rfl
theorem F56.fok : FOk Try.prog 56 F56 := fok_of mixed Try.func56 F56.ok

/-- slices.Clone[[]uint64,uint64] -/
def F57 : SFn := ⟨.seq (.region [⟨some 2, none, .mov (.c (.slice none 0 0))⟩] [0])
   (.seq (.seq (.region [⟨some 3, none, .mov (.t 0)⟩,
    ⟨some 4, none, .eqk false .slice (.t 3) (.c (.slice none 0 0))⟩] [0, 4])
   (.cond (.t 4) (.seq (.region [⟨some 2, none, .mov (.c (.slice none 0 0))⟩] [2])
   (.ret)) (.skip)))
   (.seq (.region [⟨some 5, none, .bslice 0 1 [.int .u64 0] []⟩,
    ⟨some 6, none, .mov (.t 0)⟩,
    ⟨some 7, none, .app 1 8 (.t 5) (.t 6)⟩,
    ⟨some 2, none, .mov (.t 7)⟩] [2])
   (.ret))),
  [.t 2], 8, 1⟩
def A57 : Ann := ⟨[(0, [0]), (1, [0, 4]), (2, [2]), (3, [2])], []⟩
set_option maxRecDepth 100000 in
theorem F57.ok : compF Try.prog A57 Try.f57 = some F57 := by kernel_rfl
theorem F57.fok : FOk Try.prog 57 F57 := fok_of mixed Try.func57 F57.ok

/-- (*cloakroom/cloakroomref22.Queue).find -/
def F58 : SFn := ⟨.seq (.region [⟨some 4, none, .mov (.c (.int .i64 0))⟩] [0, 1])
   (.seq (.seq (.region [⟨some 5, none, .mov (.c (.int .i64 0))⟩] [0, 1, 5])
   (.block 0 (.loop (.seq (.seq (.region [⟨some 6, none, .mov (.t 5)⟩,
    ⟨some 7, none, .mov (.t 0)⟩,
    ⟨some 8, none, .nilc (.t 7)⟩,
    ⟨some 9, none, .fa 0 (.t 8)⟩,
    ⟨some 10, none, .ld 1 false (.t 9)⟩,
    ⟨some 11, none, .lenV (.t 10)⟩,
    ⟨some 12, none, .bin .lss (.t 6) (.t 11)⟩] [0, 1, 5, 12])
   (.cond (.t 12) (.skip) (.exit 0)))
   (.seq (.block 1 (.seq (.region [⟨some 15, none, .mov (.t 0)⟩,
    ⟨some 16, none, .nilc (.t 15)⟩,
    ⟨some 17, none, .fa 0 (.t 16)⟩,
    ⟨some 18, none, .ld 1 false (.t 17)⟩,
    ⟨some 19, none, .mov (.t 5)⟩,
    ⟨some 20, none, .iaV 1 (.t 18) (.t 19)⟩,
    ⟨some 21, none, .ld 1 false (.t 20)⟩,
    ⟨some 22, none, .mov (.t 1)⟩,
    ⟨some 23, none, .bin .eql (.t 21) (.t 22)⟩] [0, 1, 5, 23])
   (.cond (.t 23) (.seq (.region [⟨some 24, none, .mov (.t 5)⟩,
    ⟨some 4, none, .mov (.t 24)⟩] [4])
   (.ret)) (.skip))))
   (.region [⟨some 13, none, .mov (.t 5)⟩,
    ⟨some 14, none, .bin .add (.t 13) (.c (.int .i64 1))⟩,
    ⟨some 5, none, .mov (.t 14)⟩] [0, 1, 5]))))))
   (.seq (.region [⟨some 4, none, .mov (.c (.int .i64 (-1)))⟩] [4])
   (.ret))),
  [.t 4], 25, 2⟩
def A58 : Ann := ⟨[(0, [0, 1]), (1, [0, 1, 5]), (2, [0, 1, 5, 12]), (3, [0, 1, 5]), (4, [0, 1, 5, 23]), (5, [4]), (6, [4])], []⟩
set_option maxRecDepth 100000 in
theorem F58.ok : compF Try.prog A58 Try.f58 = some F58 := by kernel_rfl
theorem F58.fok : FOk Try.prog 58 F58 := fok_of mixed Try.func58 F58.ok

/-- (*cloakroom/token.Cache).find -/
def F59 : SFn := ⟨.seq (.region [⟨some 4, none, .mov (.c (.pointer none))⟩] [0, 1])
   (.seq (.seq (.region [⟨some 6, none, .mov (.t 0)⟩,
    ⟨some 7, none, .nilc (.t 6)⟩,
    ⟨some 8, none, .fa 0 (.t 7)⟩,
    ⟨some 9, none, .ld 1 false (.t 8)⟩,
    ⟨some 10, none, .lenV (.t 9)⟩,
    ⟨some 11, none, .mov (.c (.int .i64 0))⟩] [0, 1, 10, 11])
   (.block 0 (.loop (.seq (.region [⟨some 12, none, .bin .lss (.t 11) (.t 10)⟩] [0, 1, 10, 11, 12])
   (.seq (.cond (.t 12) (.skip) (.exit 0))
   (.seq (.block 1 (.seq (.region [⟨some 13, none, .mov (.t 11)⟩,
    ⟨some 5, none, .mov (.t 13)⟩] [0, 1, 5, 10, 11])
   (.seq (.region [⟨some 14, none, .mov (.t 0)⟩,
    ⟨some 15, none, .nilc (.t 14)⟩,
    ⟨some 16, none, .fa 0 (.t 15)⟩,
    ⟨some 17, none, .ld 1 false (.t 16)⟩,
    ⟨some 18, none, .mov (.t 5)⟩,
    ⟨some 19, none, .iaV 15 (.t 17) (.t 18)⟩,
    ⟨some 20, none, .fa 9 (.t 19)⟩,
    ⟨some 21, none, .ld 1 false (.t 20)⟩,
    ⟨some 22, none, .mov (.t 1)⟩,
    ⟨some 23, none, .bin .eql (.t 21) (.t 22)⟩] [0, 1, 5, 10, 11, 23])
   (.cond (.t 23) (.seq (.region [⟨some 24, none, .mov (.t 0)⟩,
    ⟨some 25, none, .nilc (.t 24)⟩,
    ⟨some 26, none, .fa 0 (.t 25)⟩,
    ⟨some 27, none, .ld 1 false (.t 26)⟩,
    ⟨some 28, none, .mov (.t 5)⟩,
    ⟨some 29, none, .iaV 15 (.t 27) (.t 28)⟩,
    ⟨some 4, none, .mov (.t 29)⟩] [4])
   (.ret)) (.skip)))))
   (.region [⟨some 30, none, .bin .add (.t 11) (.c (.int .i64 1))⟩,
    ⟨some 11, none, .mov (.t 30)⟩] [0, 1, 10, 11])))))))
   (.seq (.region [⟨some 4, none, .mov (.c (.pointer none))⟩] [4])
   (.ret))),
  [.t 4], 31, 2⟩
def A59 : Ann := ⟨[(0, [0, 1]), (1, [0, 1, 10, 11]), (2, [0, 1, 10, 11, 12]), (3, [0, 1, 5, 10, 11]), (4, [0, 1, 5, 10, 11, 23]), (5, [4]), (6, [0, 1, 10, 11]), (7, [4])], []⟩
set_option maxRecDepth 100000 in
theorem F59.ok : compF Try.prog A59 Try.f59 = some F59 := by kernel_rfl
theorem F59.fok : FOk Try.prog 59 F59 := fok_of mixed Try.func59 F59.ok

/-- slices.IndexFunc[[]cloakroom/token.entry,cloakroom/token.entry] -/
def F60 : SFn := ⟨.seq (.region [⟨some 4, none, .mov (.c (.int .i64 0))⟩] [0, 1])
   (.seq (.seq (.region [⟨some 6, none, .mov (.t 0)⟩,
    ⟨some 7, none, .lenV (.t 6)⟩,
    ⟨some 8, none, .mov (.c (.int .i64 0))⟩] [0, 1, 7, 8])
   (.block 0 (.loop (.seq (.region [⟨some 9, none, .bin .lss (.t 8) (.t 7)⟩] [0, 1, 7, 8, 9])
   (.seq (.cond (.t 9) (.skip) (.exit 0))
   (.seq (.block 1 (.seq (.region [⟨some 10, none, .mov (.t 8)⟩,
    ⟨some 5, none, .mov (.t 10)⟩] [0, 1, 5, 7, 8])
   (.seq (.region [⟨some 11, none, .mov (.t 1)⟩,
    ⟨some 12, none, .mov (.t 0)⟩,
    ⟨some 13, none, .mov (.t 5)⟩,
    ⟨some 14, none, .iaV 15 (.t 12) (.t 13)⟩,
    ⟨some 15, none, .ld 15 true (.t 14)⟩,
    ⟨some 16, none, .callv (.t 11) [.t 15]⟩] [0, 1, 5, 7, 8, 16])
   (.cond (.t 16) (.seq (.region [⟨some 17, none, .mov (.t 5)⟩,
    ⟨some 4, none, .mov (.t 17)⟩] [4])
   (.ret)) (.skip)))))
   (.region [⟨some 18, none, .bin .add (.t 8) (.c (.int .i64 1))⟩,
    ⟨some 8, none, .mov (.t 18)⟩] [0, 1, 7, 8])))))))
   (.seq (.region [⟨some 4, none, .mov (.c (.int .i64 (-1)))⟩] [4])
   (.ret))),
  [.t 4], 19, 2⟩
def A60 : Ann := ⟨[(0, [0, 1]), (1, [0, 1, 7, 8]), (2, [0, 1, 7, 8, 9]), (3, [0, 1, 5, 7, 8]), (4, [0, 1, 5, 7, 8, 16]), (5, [4]), (6, [0, 1, 7, 8]), (7, [4])], []⟩
set_option maxRecDepth 100000 in
theorem F60.ok : compF Try.prog A60 Try.f60 = some F60 := by kernel_rfl
theorem F60.fok : FOk Try.prog 60 F60 := fok_of mixed Try.func60 F60.ok

/-- (*cloakroom/token.Cache).Begin$1 -/
def F61 : SFn := ⟨.seq (.region [⟨some 1, none, .box (.t 0)⟩,
    ⟨some 2, none, .mov (.c (.bool false))⟩] [1])
   (.seq (.region [⟨some 3, none, .fa 10 (.t 1)⟩,
    ⟨some 4, none, .ld 1 false (.t 3)⟩,
    ⟨some 2, none, .mov (.t 4)⟩] [2])
   (.ret)),
  [.t 2], 5, 1⟩
def A61 : Ann := ⟨[(0, [1]), (1, [2])], []⟩
set_option maxRecDepth 100000 in
theorem F61.ok : compF Try.prog A61 Try.f61 = some F61 := by kernel_rfl
theorem F61.fok : FOk Try.prog 61 F61 := fok_of mixed Try.func61 F61.ok

/-- slices.Delete[[]cloakroom/token.entry,cloakroom/token.entry] -/
def F62 : SFn := ⟨.seq (.region [⟨some 6, none, .mov (.c (.slice none 0 0))⟩] [0, 1, 2])
   (.seq (.region [⟨some 8, none, .mov (.t 0)⟩,
    ⟨some 9, none, .mov (.t 1)⟩,
    ⟨some 10, none, .mov (.t 2)⟩,
    ⟨some 11, none, .mov (.t 0)⟩,
    ⟨some 12, none, .lenV (.t 11)⟩,
    ⟨some 13, none, .slV 15 (.t 8) (some (.t 9)) (some (.t 10)) (some (.t 12))⟩] [0, 1, 2])
   (.seq (.seq (.region [⟨some 14, none, .mov (.t 1)⟩,
    ⟨some 15, none, .mov (.t 2)⟩,
    ⟨some 16, none, .bin .eql (.t 14) (.t 15)⟩] [0, 1, 2, 16])
   (.cond (.t 16) (.seq (.region [⟨some 17, none, .mov (.t 0)⟩,
    ⟨some 6, none, .mov (.t 17)⟩] [6])
   (.ret)) (.skip)))
   (.seq (.region [⟨some 18, none, .mov (.t 0)⟩,
    ⟨some 19, none, .lenV (.t 18)⟩,
    ⟨some 7, none, .mov (.t 19)⟩] [0, 1, 2, 7])
   (.seq (.region [⟨some 20, none, .mov (.t 0)⟩,
    ⟨some 21, none, .mov (.t 1)⟩,
    ⟨some 22, none, .slV 15 (.t 20) none (some (.t 21)) none⟩,
    ⟨some 23, none, .mov (.t 0)⟩,
    ⟨some 24, none, .mov (.t 2)⟩,
    ⟨some 25, none, .slV 15 (.t 23) (some (.t 24)) none none⟩,
    ⟨some 26, none, .app 15 176 (.t 22) (.t 25)⟩,
    ⟨some 0, none, .mov (.t 26)⟩] [0, 7])
   (.seq (.region [⟨some 27, none, .mov (.t 0)⟩,
    ⟨some 28, none, .mov (.t 0)⟩,
    ⟨some 29, none, .lenV (.t 28)⟩,
    ⟨some 30, none, .mov (.t 7)⟩,
    ⟨some 31, none, .slV 15 (.t 27) (some (.t 29)) (some (.t 30)) none⟩,
    ⟨none, none, .clr 15 [.int .i64 0, .int .u64 0, .int .u64 0, .string ByteArray.empty, .slice none 0 0, .slice none 0 0, .int .u64 0, .int .u64 0, .int .i64 0, .int .u64 0, .bool false, .int .u64 0, .int .i64 0, .int .u64 0, .slice none 0 0] (.t 31)⟩] [0])
   (.seq (.region [⟨some 32, none, .mov (.t 0)⟩,
    ⟨some 6, none, .mov (.t 32)⟩] [6])
   (.ret))))))),
  [.t 6], 33, 3⟩
def A62 : Ann := ⟨[(0, [0, 1, 2]), (1, [0, 1, 2]), (2, [0, 1, 2, 16]), (3, [6]), (4, [0, 1, 2, 7]), (5, [0, 7]), (6, [0]), (7, [6])], [(5, [(0, []), (1, []), (2, []), (3, []), (4, []), (5, []), (6, []), (7, [])], [(2, [0, 1]), (5, [3, 4]), (6, [0, 1, 2, 3, 4, 5]), (7, [0, 1, 2, 3, 4, 5, 6])])]⟩
set_option maxRecDepth 100000 in
theorem F62.ok : compF Try.prog A62 Try.f62 = some F62 := by kernel_rfl
theorem F62.fok : FOk Try.prog 62 F62 := fok_of mixed Try.func62 F62.ok

/-- cloakroom/token.twin -/
def F63 : SFn := ⟨.seq (.region [⟨some 1, none, .box (.t 0)⟩,
    ⟨some 2, none, .new [.int .i64 0, .int .u64 0, .int .u64 0, .string ByteArray.empty, .slice none 0 0, .slice none 0 0, .int .u64 0, .int .u64 0]⟩] [1, 2])
   (.seq (.region [⟨some 3, none, .fa 4 (.t 1)⟩,
    ⟨some 4, none, .ld 1 false (.t 3)⟩,
    ⟨some 6, none, .fa 5 (.t 1)⟩,
    ⟨some 7, none, .ld 1 false (.t 6)⟩,
    ⟨some 5, none, .call 52 [.t 4]⟩,
    ⟨none, none, .chk 1 false (.t 6) 7⟩,
    ⟨some 9, none, .fa 4 (.t 1)⟩,
    ⟨some 8, none, .call 57 [.t 7]⟩,
    ⟨none, none, .st 1 (.t 9) (.t 5)⟩,
    ⟨some 10, none, .fa 5 (.t 1)⟩,
    ⟨none, none, .st 1 (.t 10) (.t 8)⟩] [1, 2])
   (.seq (.region [⟨some 11, none, .ld 8 true (.t 1)⟩,
    ⟨none, none, .st 8 (.t 2) (.t 11)⟩] [2])
   (.ret))),
  [.c 2 8 true], 12, 1⟩
def A63 : Ann := ⟨[(0, [1, 2]), (1, [1, 2]), (2, [2])], [(1, [(0, []), (1, []), (3, []), (4, []), (2, [4]), (6, []), (5, []), (7, []), (8, []), (9, [])], [(1, [0]), (2, [0, 1]), (4, [3]), (5, [0, 1, 2, 3, 4]), (6, [0, 1, 2, 3, 4]), (7, [0, 1, 2, 3, 4, 5, 6]), (8, [0, 1, 2, 3, 4, 5, 6, 7]), (9, [0, 1, 2, 3, 4, 5, 6, 7, 8])])]⟩
set_option maxRecDepth 100000 in
theorem F63.ok : compF Try.prog A63 Try.f63 = some F63 := by kernel_rfl
theorem F63.fok : FOk Try.prog 63 F63 := fok_of mixed Try.func63 F63.ok

/-- cloakroom/req.Same -/
def F64 : SFn := ⟨.seq (.region [⟨some 2, none, .box (.t 0)⟩,
    ⟨some 3, none, .box (.t 1)⟩,
    ⟨some 4, none, .mov (.c (.bool false))⟩] [2, 3])
   (.seq (.region [⟨some 5, none, .fa 0 (.t 2)⟩,
    ⟨some 6, none, .ld 1 false (.t 5)⟩,
    ⟨some 7, none, .fa 0 (.t 3)⟩,
    ⟨some 8, none, .ld 1 false (.t 7)⟩,
    ⟨some 9, none, .bin .eql (.t 6) (.t 8)⟩,
    ⟨some 10, none, .mov (.t 9)⟩,
    ⟨some 11, some (10, true), .fa 1 (.t 2)⟩,
    ⟨some 12, some (10, true), .ld 1 false (.t 11)⟩,
    ⟨some 13, some (10, true), .fa 1 (.t 3)⟩,
    ⟨some 14, some (10, true), .ld 1 false (.t 13)⟩,
    ⟨some 15, some (10, true), .bin .eql (.t 12) (.t 14)⟩,
    ⟨some 16, none, .pick (.t 10) (.t 15) (.c (.bool false))⟩,
    ⟨some 17, none, .mov (.t 16)⟩,
    ⟨some 18, some (17, true), .fa 2 (.t 2)⟩,
    ⟨some 19, some (17, true), .ld 1 false (.t 18)⟩,
    ⟨some 20, some (17, true), .fa 2 (.t 3)⟩,
    ⟨some 21, some (17, true), .ld 1 false (.t 20)⟩,
    ⟨some 22, some (17, true), .bin .eql (.t 19) (.t 21)⟩,
    ⟨some 23, none, .pick (.t 17) (.t 22) (.c (.bool false))⟩,
    ⟨some 24, none, .mov (.t 23)⟩,
    ⟨some 25, some (24, true), .fa 3 (.t 2)⟩,
    ⟨some 26, some (24, true), .ld 1 false (.t 25)⟩,
    ⟨some 27, some (24, true), .fa 3 (.t 3)⟩,
    ⟨some 28, some (24, true), .ld 1 false (.t 27)⟩,
    ⟨some 29, some (24, true), .bin .eql (.t 26) (.t 28)⟩,
    ⟨some 30, none, .pick (.t 24) (.t 29) (.c (.bool false))⟩,
    ⟨some 31, none, .mov (.t 30)⟩,
    ⟨some 32, some (31, true), .fa 4 (.t 2)⟩,
    ⟨some 33, some (31, true), .ld 1 false (.t 32)⟩,
    ⟨some 34, some (31, true), .fa 4 (.t 3)⟩,
    ⟨some 35, some (31, true), .ld 1 false (.t 34)⟩,
    ⟨some 36, some (31, true), .call 72 [.t 33, .t 35]⟩,
    ⟨some 37, none, .pick (.t 31) (.t 36) (.c (.bool false))⟩,
    ⟨some 38, none, .mov (.t 37)⟩,
    ⟨some 39, some (38, true), .fa 5 (.t 2)⟩,
    ⟨some 40, some (38, true), .ld 1 false (.t 39)⟩,
    ⟨some 41, some (38, true), .fa 5 (.t 3)⟩,
    ⟨some 42, some (38, true), .ld 1 false (.t 41)⟩,
    ⟨some 43, some (38, true), .call 73 [.t 40, .t 42]⟩,
    ⟨some 44, none, .pick (.t 38) (.t 43) (.c (.bool false))⟩,
    ⟨some 45, none, .mov (.t 44)⟩,
    ⟨some 46, some (45, true), .fa 6 (.t 2)⟩,
    ⟨some 47, some (45, true), .ld 1 false (.t 46)⟩,
    ⟨some 48, some (45, true), .fa 6 (.t 3)⟩,
    ⟨some 49, some (45, true), .ld 1 false (.t 48)⟩,
    ⟨some 50, some (45, true), .bin .eql (.t 47) (.t 49)⟩,
    ⟨some 51, none, .pick (.t 45) (.t 50) (.c (.bool false))⟩,
    ⟨some 52, none, .mov (.t 51)⟩,
    ⟨some 53, some (52, true), .fa 7 (.t 2)⟩,
    ⟨some 54, some (52, true), .ld 1 false (.t 53)⟩,
    ⟨some 55, some (52, true), .fa 7 (.t 3)⟩,
    ⟨some 56, some (52, true), .ld 1 false (.t 55)⟩,
    ⟨some 57, some (52, true), .bin .eql (.t 54) (.t 56)⟩,
    ⟨some 58, none, .pick (.t 52) (.t 57) (.c (.bool false))⟩,
    ⟨some 4, none, .mov (.t 58)⟩] [4])
   (.ret)),
  [.t 4], 59, 2⟩
def A64 : Ann := ⟨[(0, [2, 3]), (1, [4])], []⟩
set_option maxRecDepth 100000 in
theorem F64.ok : compF Try.prog A64 Try.f64 = some F64 := by kernel_rfl
theorem F64.fok : FOk Try.prog 64 F64 := fok_of mixed Try.func64 F64.ok

/-- cloakroom/token.echo -/
def F65 : SFn := ⟨.seq (.region [⟨some 1, none, .box (.t 0)⟩,
    ⟨some 2, none, .new [.int .u64 0, .int .i64 0, .int .u64 0, .slice none 0 0]⟩] [1, 2])
   (.seq (.region [⟨some 3, none, .fa 3 (.t 1)⟩,
    ⟨some 4, none, .ld 1 false (.t 3)⟩,
    ⟨some 5, none, .call 57 [.t 4]⟩,
    ⟨some 6, none, .fa 3 (.t 1)⟩,
    ⟨none, none, .st 1 (.t 6) (.t 5)⟩] [1, 2])
   (.seq (.region [⟨some 7, none, .ld 4 true (.t 1)⟩,
    ⟨none, none, .st 4 (.t 2) (.t 7)⟩] [2])
   (.ret))),
  [.c 2 4 true], 8, 1⟩
def A65 : Ann := ⟨[(0, [1, 2]), (1, [1, 2]), (2, [2])], []⟩
set_option maxRecDepth 100000 in
theorem F65.ok : compF Try.prog A65 Try.f65 = some F65 := by kernel_rfl
theorem F65.fok : FOk Try.prog 65 F65 := fok_of mixed Try.func65 F65.ok

/-- (*cloakroom/cloakroomref22.Cache).find -/
def F66 : SFn := ⟨.seq (.region [⟨some 4, none, .mov (.c (.int .i64 0))⟩] [0, 1])
   (.seq (.seq (.region [⟨some 5, none, .mov (.c (.int .i64 0))⟩] [0, 1, 5])
   (.block 0 (.loop (.seq (.seq (.region [⟨some 6, none, .mov (.t 5)⟩,
    ⟨some 7, none, .mov (.t 0)⟩,
    ⟨some 8, none, .nilc (.t 7)⟩,
    ⟨some 9, none, .fa 0 (.t 8)⟩,
    ⟨some 10, none, .ld 1 false (.t 9)⟩,
    ⟨some 11, none, .lenV (.t 10)⟩,
    ⟨some 12, none, .bin .lss (.t 6) (.t 11)⟩] [0, 1, 5, 12])
   (.cond (.t 12) (.skip) (.exit 0)))
   (.seq (.block 1 (.seq (.region [⟨some 15, none, .mov (.t 0)⟩,
    ⟨some 16, none, .nilc (.t 15)⟩,
    ⟨some 17, none, .fa 0 (.t 16)⟩,
    ⟨some 18, none, .ld 1 false (.t 17)⟩,
    ⟨some 19, none, .mov (.t 5)⟩,
    ⟨some 20, none, .iaV 15 (.t 18) (.t 19)⟩,
    ⟨some 21, none, .fa 0 (.t 20)⟩,
    ⟨some 22, none, .ld 1 false (.t 21)⟩,
    ⟨some 23, none, .mov (.t 1)⟩,
    ⟨some 24, none, .bin .eql (.t 22) (.t 23)⟩,
    ⟨some 25, none, .mov (.t 24)⟩,
    ⟨some 26, some (25, true), .mov (.t 1)⟩,
    ⟨some 27, some (25, true), .bin .neq (.t 26) (.c (.int .u64 0))⟩,
    ⟨some 28, none, .pick (.t 25) (.t 27) (.c (.bool false))⟩] [0, 1, 5, 28])
   (.cond (.t 28) (.seq (.region [⟨some 29, none, .mov (.t 5)⟩,
    ⟨some 4, none, .mov (.t 29)⟩] [4])
   (.ret)) (.skip))))
   (.region [⟨some 13, none, .mov (.t 5)⟩,
    ⟨some 14, none, .bin .add (.t 13) (.c (.int .i64 1))⟩,
    ⟨some 5, none, .mov (.t 14)⟩] [0, 1, 5]))))))
   (.seq (.region [⟨some 4, none, .mov (.c (.int .i64 (-1)))⟩] [4])
   (.ret))),
  [.t 4], 30, 2⟩
def A66 : Ann := ⟨[(0, [0, 1]), (1, [0, 1, 5]), (2, [0, 1, 5, 12]), (3, [0, 1, 5]), (4, [0, 1, 5, 28]), (5, [4]), (6, [4])], []⟩
set_option maxRecDepth 100000 in
theorem F66.ok : compF Try.prog A66 Try.f66 = some F66 := by kernel_rfl
theorem F66.fok : FOk Try.prog 66 F66 := fok_of mixed Try.func66 F66.ok

/-- cloakroom/cloakroomref1.SameRequest -/
def F67 : SFn := ⟨.seq (.region [⟨some 2, none, .box (.t 0)⟩,
    ⟨some 3, none, .box (.t 1)⟩,
    ⟨some 4, none, .mov (.c (.bool false))⟩] [2, 3])
   (.seq (.region [⟨some 5, none, .fa 0 (.t 2)⟩,
    ⟨some 6, none, .ld 1 false (.t 5)⟩,
    ⟨some 7, none, .fa 0 (.t 3)⟩,
    ⟨some 8, none, .ld 1 false (.t 7)⟩,
    ⟨some 9, none, .bin .eql (.t 6) (.t 8)⟩,
    ⟨some 10, none, .mov (.t 9)⟩,
    ⟨some 11, some (10, true), .fa 1 (.t 2)⟩,
    ⟨some 12, some (10, true), .ld 1 false (.t 11)⟩,
    ⟨some 13, some (10, true), .fa 1 (.t 3)⟩,
    ⟨some 14, some (10, true), .ld 1 false (.t 13)⟩,
    ⟨some 15, some (10, true), .bin .eql (.t 12) (.t 14)⟩,
    ⟨some 16, none, .pick (.t 10) (.t 15) (.c (.bool false))⟩,
    ⟨some 17, none, .mov (.t 16)⟩,
    ⟨some 18, some (17, true), .fa 2 (.t 2)⟩,
    ⟨some 19, some (17, true), .ld 1 false (.t 18)⟩,
    ⟨some 20, some (17, true), .fa 2 (.t 3)⟩,
    ⟨some 21, some (17, true), .ld 1 false (.t 20)⟩,
    ⟨some 22, some (17, true), .bin .eql (.t 19) (.t 21)⟩,
    ⟨some 23, none, .pick (.t 17) (.t 22) (.c (.bool false))⟩,
    ⟨some 24, none, .mov (.t 23)⟩,
    ⟨some 25, some (24, true), .fa 3 (.t 2)⟩,
    ⟨some 26, some (24, true), .ld 1 false (.t 25)⟩,
    ⟨some 27, some (24, true), .fa 3 (.t 3)⟩,
    ⟨some 28, some (24, true), .ld 1 false (.t 27)⟩,
    ⟨some 29, some (24, true), .bin .eql (.t 26) (.t 28)⟩,
    ⟨some 30, none, .pick (.t 24) (.t 29) (.c (.bool false))⟩,
    ⟨some 31, none, .mov (.t 30)⟩,
    ⟨some 32, some (31, true), .fa 4 (.t 2)⟩,
    ⟨some 33, some (31, true), .ld 1 false (.t 32)⟩,
    ⟨some 34, some (31, true), .toStr (.t 33)⟩,
    ⟨some 35, some (31, true), .fa 4 (.t 3)⟩,
    ⟨some 36, some (31, true), .ld 1 false (.t 35)⟩,
    ⟨some 37, some (31, true), .toStr (.t 36)⟩,
    ⟨some 38, some (31, true), .bin .eql (.t 34) (.t 37)⟩,
    ⟨some 39, none, .pick (.t 31) (.t 38) (.c (.bool false))⟩,
    ⟨some 40, none, .mov (.t 39)⟩,
    ⟨some 41, some (40, true), .fa 5 (.t 2)⟩,
    ⟨some 42, some (40, true), .ld 1 false (.t 41)⟩,
    ⟨some 43, some (40, true), .fa 5 (.t 3)⟩,
    ⟨some 44, some (40, true), .ld 1 false (.t 43)⟩,
    ⟨some 45, some (40, true), .call 34 [.t 42, .t 44]⟩,
    ⟨some 46, none, .pick (.t 40) (.t 45) (.c (.bool false))⟩,
    ⟨some 47, none, .mov (.t 46)⟩,
    ⟨some 48, some (47, true), .fa 6 (.t 2)⟩,
    ⟨some 49, some (47, true), .ld 1 false (.t 48)⟩,
    ⟨some 50, some (47, true), .fa 6 (.t 3)⟩,
    ⟨some 51, some (47, true), .ld 1 false (.t 50)⟩,
    ⟨some 52, some (47, true), .bin .eql (.t 49) (.t 51)⟩,
    ⟨some 53, none, .pick (.t 47) (.t 52) (.c (.bool false))⟩,
    ⟨some 54, none, .mov (.t 53)⟩,
    ⟨some 55, some (54, true), .fa 7 (.t 2)⟩,
    ⟨some 56, some (54, true), .ld 1 false (.t 55)⟩,
    ⟨some 57, some (54, true), .fa 7 (.t 3)⟩,
    ⟨some 58, some (54, true), .ld 1 false (.t 57)⟩,
    ⟨some 59, some (54, true), .bin .eql (.t 56) (.t 58)⟩,
    ⟨some 60, none, .pick (.t 54) (.t 59) (.c (.bool false))⟩,
    ⟨some 4, none, .mov (.t 60)⟩] [4])
   (.ret)),
  [.t 4], 61, 2⟩
def A67 : Ann := ⟨[(0, [2, 3]), (1, [4])], []⟩
set_option maxRecDepth 100000 in
theorem F67.ok : compF Try.prog A67 Try.f67 = some F67 := by kernel_rfl
theorem F67.fok : FOk Try.prog 67 F67 := fok_of mixed Try.func67 F67.ok

/-- slices.Clone[[]cloakroom/token.entry,cloakroom/token.entry] -/
def F68 : SFn := ⟨.seq (.region [⟨some 2, none, .mov (.c (.slice none 0 0))⟩] [0])
   (.seq (.seq (.region [⟨some 3, none, .mov (.t 0)⟩,
    ⟨some 4, none, .eqk false .slice (.t 3) (.c (.slice none 0 0))⟩] [0, 4])
   (.cond (.t 4) (.seq (.region [⟨some 2, none, .mov (.c (.slice none 0 0))⟩] [2])
   (.ret)) (.skip)))
   (.seq (.region [⟨some 5, none, .bslice 0 15 [.int .i64 0, .int .u64 0, .int .u64 0, .string ByteArray.empty, .slice none 0 0, .slice none 0 0, .int .u64 0, .int .u64 0, .int .i64 0, .int .u64 0, .bool false, .int .u64 0, .int .i64 0, .int .u64 0, .slice none 0 0] []⟩,
    ⟨some 6, none, .mov (.t 0)⟩,
    ⟨some 7, none, .app 15 176 (.t 5) (.t 6)⟩,
    ⟨some 2, none, .mov (.t 7)⟩] [2])
   (.ret))),
  [.t 2], 8, 1⟩
def A68 : Ann := ⟨[(0, [0]), (1, [0, 4]), (2, [2]), (3, [2])], []⟩
set_option maxRecDepth 100000 in
theorem F68.ok : compF Try.prog A68 Try.f68 = some F68 := by kernel_rfl
theorem F68.fok : FOk Try.prog 68 F68 := fok_of mixed Try.func68 F68.ok

/-- slices.Grow[[]byte,byte] -/
def F69 : SFn := ⟨.seq (.region [⟨some 4, none, .mov (.c (.slice none 0 0))⟩] [0, 1])
   (.seq (.seq (.region [⟨some 5, none, .mov (.t 1)⟩,
    ⟨some 6, none, .bin .lss (.t 5) (.c (.int .i64 0))⟩] [0, 1, 6])
   (.cond (.t 6) (.region [⟨some 7, none, .bad⟩,
    ⟨none, none, .bad⟩] [0, 1]) (.skip)))
   (.seq (.seq (.region [⟨some 8, none, .mov (.t 1)⟩,
    ⟨some 9, none, .mov (.t 0)⟩,
    ⟨some 10, none, .capV (.t 9)⟩,
    ⟨some 11, none, .mov (.t 0)⟩,
    ⟨some 12, none, .lenV (.t 11)⟩,
    ⟨some 13, none, .bin .sub (.t 10) (.t 12)⟩,
    ⟨some 14, none, .bin .sub (.t 8) (.t 13)⟩,
    ⟨some 1, none, .mov (.t 14)⟩] [0, 1])
   (.seq (.region [⟨some 15, none, .mov (.t 1)⟩,
    ⟨some 16, none, .bin .gtr (.t 15) (.c (.int .i64 0))⟩] [0, 1, 16])
   (.cond (.t 16) (.region [⟨some 17, none, .mov (.t 0)⟩,
    ⟨some 18, none, .mov (.t 0)⟩,
    ⟨some 19, none, .capV (.t 18)⟩,
    ⟨some 20, none, .slV 1 (.t 17) none (some (.t 19)) none⟩,
    ⟨some 21, none, .mov (.t 1)⟩,
    ⟨some 22, none, .appZ 1 1 [.int .u8 0] (.t 20) (.t 21)⟩,
    ⟨some 23, none, .mov (.t 0)⟩,
    ⟨some 24, none, .lenV (.t 23)⟩,
    ⟨some 25, none, .slV 1 (.t 22) none (some (.t 24)) none⟩,
    ⟨some 0, none, .mov (.t 25)⟩] [0]) (.skip))))
   (.seq (.region [⟨some 26, none, .mov (.t 0)⟩,
    ⟨some 4, none, .mov (.t 26)⟩] [4])
   (.ret)))),
  [.t 4], 27, 2⟩
def A69 : Ann := ⟨[(0, [0, 1]), (1, [0, 1, 6]), (2, [0, 1]), (3, [0, 1]), (4, [0, 1, 16]), (5, [0]), (6, [4])], []⟩
set_option maxRecDepth 100000 in
theorem F69.ok : compF Try.prog A69 Try.f69 = some F69 := by kernel_rfl
theorem F69.fok : FOk Try.prog 69 F69 := fok_of mixed Try.func69 F69.ok

/-- slices.Index[[]uint64,uint64] -/
def F70 : SFn := ⟨.seq (.region [⟨some 4, none, .mov (.c (.int .i64 0))⟩] [0, 1])
   (.seq (.seq (.region [⟨some 6, none, .mov (.t 0)⟩,
    ⟨some 7, none, .lenV (.t 6)⟩,
    ⟨some 8, none, .mov (.c (.int .i64 0))⟩] [0, 1, 7, 8])
   (.block 0 (.loop (.seq (.region [⟨some 9, none, .bin .lss (.t 8) (.t 7)⟩] [0, 1, 7, 8, 9])
   (.seq (.cond (.t 9) (.skip) (.exit 0))
   (.seq (.block 1 (.seq (.region [⟨some 10, none, .mov (.t 8)⟩,
    ⟨some 5, none, .mov (.t 10)⟩] [0, 1, 5, 7, 8])
   (.seq (.region [⟨some 11, none, .mov (.t 1)⟩,
    ⟨some 12, none, .mov (.t 0)⟩,
    ⟨some 13, none, .mov (.t 5)⟩,
    ⟨some 14, none, .iaV 1 (.t 12) (.t 13)⟩,
    ⟨some 15, none, .ld 1 false (.t 14)⟩,
    ⟨some 16, none, .bin .eql (.t 11) (.t 15)⟩] [0, 1, 5, 7, 8, 16])
   (.cond (.t 16) (.seq (.region [⟨some 17, none, .mov (.t 5)⟩,
    ⟨some 4, none, .mov (.t 17)⟩] [4])
   (.ret)) (.skip)))))
   (.region [⟨some 18, none, .bin .add (.t 8) (.c (.int .i64 1))⟩,
    ⟨some 8, none, .mov (.t 18)⟩] [0, 1, 7, 8])))))))
   (.seq (.region [⟨some 4, none, .mov (.c (.int .i64 (-1)))⟩] [4])
   (.ret))),
  [.t 4], 19, 2⟩
def A70 : Ann := ⟨[(0, [0, 1]), (1, [0, 1, 7, 8]), (2, [0, 1, 7, 8, 9]), (3, [0, 1, 5, 7, 8]), (4, [0, 1, 5, 7, 8, 16]), (5, [4]), (6, [0, 1, 7, 8]), (7, [4])], []⟩
set_option maxRecDepth 100000 in
theorem F70.ok : compF Try.prog A70 Try.f70 = some F70 := by kernel_rfl
theorem F70.fok : FOk Try.prog 70 F70 := fok_of mixed Try.func70 F70.ok

/-- slices.IndexFunc[[]uint64,uint64] -/
def F71 : SFn := ⟨.seq (.region [⟨some 4, none, .mov (.c (.int .i64 0))⟩] [0, 1])
   (.seq (.seq (.region [⟨some 6, none, .mov (.t 0)⟩,
    ⟨some 7, none, .lenV (.t 6)⟩,
    ⟨some 8, none, .mov (.c (.int .i64 0))⟩] [0, 1, 7, 8])
   (.block 0 (.loop (.seq (.region [⟨some 9, none, .bin .lss (.t 8) (.t 7)⟩] [0, 1, 7, 8, 9])
   (.seq (.cond (.t 9) (.skip) (.exit 0))
   (.seq (.block 1 (.seq (.region [⟨some 10, none, .mov (.t 8)⟩,
    ⟨some 5, none, .mov (.t 10)⟩] [0, 1, 5, 7, 8])
   (.seq (.region [⟨some 11, none, .mov (.t 1)⟩,
    ⟨some 12, none, .mov (.t 0)⟩,
    ⟨some 13, none, .mov (.t 5)⟩,
    ⟨some 14, none, .iaV 1 (.t 12) (.t 13)⟩,
    ⟨some 15, none, .ld 1 false (.t 14)⟩,
    ⟨some 16, none, .callv (.t 11) [.t 15]⟩] [0, 1, 5, 7, 8, 16])
   (.cond (.t 16) (.seq (.region [⟨some 17, none, .mov (.t 5)⟩,
    ⟨some 4, none, .mov (.t 17)⟩] [4])
   (.ret)) (.skip)))))
   (.region [⟨some 18, none, .bin .add (.t 8) (.c (.int .i64 1))⟩,
    ⟨some 8, none, .mov (.t 18)⟩] [0, 1, 7, 8])))))))
   (.seq (.region [⟨some 4, none, .mov (.c (.int .i64 (-1)))⟩] [4])
   (.ret))),
  [.t 4], 19, 2⟩
def A71 : Ann := ⟨[(0, [0, 1]), (1, [0, 1, 7, 8]), (2, [0, 1, 7, 8, 9]), (3, [0, 1, 5, 7, 8]), (4, [0, 1, 5, 7, 8, 16]), (5, [4]), (6, [0, 1, 7, 8]), (7, [4])], []⟩
set_option maxRecDepth 100000 in
theorem F71.ok : compF Try.prog A71 Try.f71 = some F71 := by kernel_rfl
theorem F71.fok : FOk Try.prog 71 F71 := fok_of mixed Try.func71 F71.ok

/-- bytes.Equal -/
def F72 : SFn := ⟨.seq (.region [⟨some 4, none, .mov (.c (.bool false))⟩] [0, 1])
   (.seq (.region [⟨some 5, none, .mov (.t 0)⟩,
    ⟨some 6, none, .toStr (.t 5)⟩,
    ⟨some 7, none, .mov (.t 1)⟩,
    ⟨some 8, none, .toStr (.t 7)⟩,
    ⟨some 9, none, .bin .eql (.t 6) (.t 8)⟩,
    ⟨some 4, none, .mov (.t 9)⟩] [4])
   (.ret)),
  [.t 4], 10, 2⟩
def A72 : Ann := ⟨[(0, [0, 1]), (1, [4])], []⟩
set_option maxRecDepth 100000 in
theorem F72.ok : compF Try.prog A72 Try.f72 = some F72 := by kernel_rfl
theorem F72.fok : FOk Try.prog 72 F72 := fok_of mixed Try.func72 F72.ok

/-- slices.Equal[[]uint64,uint64] -/
def F73 : SFn := ⟨.seq (.region [⟨some 4, none, .mov (.c (.bool false))⟩] [0, 1])
   (.seq (.seq (.region [⟨some 6, none, .mov (.t 0)⟩,
    ⟨some 7, none, .lenV (.t 6)⟩,
    ⟨some 8, none, .mov (.t 1)⟩,
    ⟨some 9, none, .lenV (.t 8)⟩,
    ⟨some 10, none, .bin .neq (.t 7) (.t 9)⟩] [0, 1, 10])
   (.cond (.t 10) (.seq (.region [⟨some 4, none, .mov (.c (.bool false))⟩] [4])
   (.ret)) (.skip)))
   (.seq (.seq (.region [⟨some 11, none, .mov (.t 0)⟩,
    ⟨some 12, none, .lenV (.t 11)⟩,
    ⟨some 13, none, .mov (.c (.int .i64 0))⟩] [0, 1, 12, 13])
   (.block 0 (.loop (.seq (.region [⟨some 14, none, .bin .lss (.t 13) (.t 12)⟩] [0, 1, 12, 13, 14])
   (.seq (.cond (.t 14) (.skip) (.exit 0))
   (.seq (.block 1 (.seq (.region [⟨some 15, none, .mov (.t 13)⟩,
    ⟨some 5, none, .mov (.t 15)⟩] [0, 1, 5, 12, 13])
   (.seq (.region [⟨some 16, none, .mov (.t 0)⟩,
    ⟨some 17, none, .mov (.t 5)⟩,
    ⟨some 18, none, .iaV 1 (.t 16) (.t 17)⟩,
    ⟨some 19, none, .ld 1 false (.t 18)⟩,
    ⟨some 20, none, .mov (.t 1)⟩,
    ⟨some 21, none, .mov (.t 5)⟩,
    ⟨some 22, none, .iaV 1 (.t 20) (.t 21)⟩,
    ⟨some 23, none, .ld 1 false (.t 22)⟩,
    ⟨some 24, none, .bin .neq (.t 19) (.t 23)⟩] [0, 1, 12, 13, 24])
   (.cond (.t 24) (.seq (.region [⟨some 4, none, .mov (.c (.bool false))⟩] [4])
   (.ret)) (.skip)))))
   (.region [⟨some 25, none, .bin .add (.t 13) (.c (.int .i64 1))⟩,
    ⟨some 13, none, .mov (.t 25)⟩] [0, 1, 12, 13])))))))
   (.seq (.region [⟨some 4, none, .mov (.c (.bool true))⟩] [4])
   (.ret)))),
  [.t 4], 26, 2⟩
def A73 : Ann := ⟨[(0, [0, 1]), (1, [0, 1, 10]), (2, [4]), (3, [0, 1, 12, 13]), (4, [0, 1, 12, 13, 14]), (5, [0, 1, 5, 12, 13]), (6, [0, 1, 12, 13, 24]), (7, [4]), (8, [0, 1, 12, 13]), (9, [4])], [(6, [(0, []), (1, []), (2, []), (3, []), (4, []), (5, []), (6, []), (7, []), (8, [])], [(2, [0, 1]), (3, [0, 1, 2]), (6, [4, 5]), (7, [4, 5, 6]), (8, [0, 1, 2, 3, 4, 5, 6, 7])])]⟩
set_option maxRecDepth 100000 in
theorem F73.ok : compF Try.prog A73 Try.f73 = some F73 := by kernel_rfl
theorem F73.fok : FOk Try.prog 73 F73 := fok_of mixed Try.func73 F73.ok
end Go.Dx.SYtpbibdlmiomhbaa
