/- The readings of functions, printed by a program of the prover's own. -/
import Derived.Test.YtokfafjbdbdplaaDx19
import Derived.Test.YtokfafjbdbdplaaChecked
import Derived.Eval
import Derived.Test.YtokfafjbdbdplaaDxBF0
namespace Go.Dx.SYtokfafjbdbdplaa
open Go.Proofs
set_option linter.unusedVariables false
/-- (*cloakroom/val.checker).closes -/
def F148 : SFn := ⟨.seq (.region [⟨some 2, none, .new [.int .i64 0, .slice none 0 0, .slice none 0 0, .int .i64 0, .bool false]⟩] [0, 2])
   (.seq (.region [⟨some 4, none, .mov (.t 0)⟩,
    ⟨some 5, none, .call 174 [.t 4]⟩,
    ⟨some 6, none, .nilc (.t 5)⟩,
    ⟨some 7, none, .ld 5 true (.t 6)⟩,
    ⟨some 3, none, .new [.int .i64 0, .slice none 0 0, .slice none 0 0, .int .i64 0, .bool false]⟩,
    ⟨none, none, .st 5 (.t 3) (.t 7)⟩] [0, 2, 3])
   (.seq (.region [⟨some 8, none, .mov (.t 0)⟩,
    ⟨some 9, none, .fa 2 (.t 3)⟩,
    ⟨some 10, none, .ld 1 false (.t 9)⟩,
    ⟨some 11, none, .call 113 [.t 8, .t 10]⟩] [0, 2, 3])
   (.seq (.region [⟨some 12, none, .mov (.t 0)⟩,
    ⟨some 13, none, .mov (.t 0)⟩,
    ⟨some 14, none, .nilc (.t 13)⟩,
    ⟨some 15, none, .fa 0 (.t 14)⟩,
    ⟨some 16, none, .fa 0 (.t 15)⟩,
    ⟨some 17, none, .ld 1 false (.t 16)⟩,
    ⟨some 18, none, .lenV (.t 17)⟩,
    ⟨some 19, none, .fa 3 (.t 3)⟩,
    ⟨some 20, none, .ld 1 false (.t 19)⟩,
    ⟨some 21, none, .bin .neq (.t 18) (.t 20)⟩,
    ⟨some 22, none, .call 112 [.t 12, .t 21]⟩] [0, 2, 3])
   (.seq (.region [⟨some 23, none, .mov (.t 0)⟩,
    ⟨some 24, none, .mov (.t 0)⟩,
    ⟨some 25, none, .nilc (.t 24)⟩,
    ⟨some 26, none, .fa 0 (.t 25)⟩,
    ⟨some 27, none, .fa 0 (.t 26)⟩,
    ⟨some 28, none, .ld 1 false (.t 27)⟩,
    ⟨some 29, none, .fa 3 (.t 3)⟩,
    ⟨some 30, none, .ld 1 false (.t 29)⟩,
    ⟨some 31, none, .slV 1 (.t 28) none (some (.t 30)) none⟩,
    ⟨some 32, none, .nilc (.t 23)⟩,
    ⟨some 33, none, .fa 0 (.t 32)⟩,
    ⟨some 34, none, .fa 0 (.t 33)⟩,
    ⟨none, none, .st 1 (.t 34) (.t 31)⟩] [0, 2, 3])
   (.seq (.region [⟨some 35, none, .mov (.t 0)⟩,
    ⟨some 36, none, .mov (.t 0)⟩,
    ⟨some 37, none, .nilc (.t 36)⟩,
    ⟨some 38, none, .fa 3 (.t 37)⟩,
    ⟨some 39, none, .ld 1 false (.t 38)⟩,
    ⟨some 40, none, .mov (.t 0)⟩,
    ⟨some 41, none, .nilc (.t 40)⟩,
    ⟨some 42, none, .fa 3 (.t 41)⟩,
    ⟨some 43, none, .ld 1 false (.t 42)⟩,
    ⟨some 44, none, .lenV (.t 43)⟩,
    ⟨some 45, none, .bin .sub (.t 44) (.c (.int .i64 1))⟩,
    ⟨some 46, none, .slV 5 (.t 39) none (some (.t 45)) none⟩,
    ⟨some 47, none, .nilc (.t 35)⟩,
    ⟨some 48, none, .fa 3 (.t 47)⟩,
    ⟨none, none, .st 1 (.t 48) (.t 46)⟩] [2, 3])
   (.seq (.region [⟨some 49, none, .ld 5 true (.t 3)⟩,
    ⟨none, none, .st 5 (.t 2) (.t 49)⟩] [2])
   (.ret))))))),
  [.c 2 5 true], 50, 1⟩
def A148 : Ann := ⟨[(0, [0, 2]), (1, [0, 2, 3]), (2, [0, 2, 3]), (3, [0, 2, 3]), (4, [0, 2, 3]), (5, [2, 3]), (6, [2])], [(3, [(0, []), (1, []), (2, []), (3, []), (4, []), (5, []), (6, []), (7, []), (8, []), (9, []), (10, [])], [(2, [1]), (3, [1, 2]), (4, [1, 2, 3]), (5, [1, 2, 3, 4]), (6, [1, 2, 3, 4, 5]), (8, [7]), (9, [1, 2, 3, 4, 5, 6, 7, 8]), (10, [0, 1, 2, 3, 4, 5, 6, 7, 8, 9])]),
  (4, [(0, []), (1, []), (2, []), (3, []), (4, []), (5, []), (6, []), (7, []), (8, []), (9, []), (10, []), (11, []), (12, [])], [(2, [1]), (3, [1, 2]), (4, [1, 2, 3]), (5, [1, 2, 3, 4]), (7, [6]), (8, [1, 2, 3, 4, 5, 6, 7]), (9, [0, 1, 2, 3, 4, 5, 6, 7, 8]), (10, [0, 1, 2, 3, 4, 5, 6, 7, 8, 9]), (11, [0, 1, 2, 3, 4, 5, 6, 7, 8, 9, 10]), (12, [0, 1, 2, 3, 4, 5, 6, 7, 8, 9, 10, 11])]),
  (5, [(0, []), (1, []), (2, []), (3, []), (4, []), (5, []), (6, []), (7, []), (8, []), (9, []), (10, []), (11, []), (12, []), (13, []), (14, [])], [(2, [1]), (3, [1, 2]), (4, [1, 2, 3]), (6, [5]), (7, [5, 6]), (8, [5, 6, 7]), (9, [5, 6, 7, 8]), (10, [5, 6, 7, 8, 9]), (11, [1, 2, 3, 4, 5, 6, 7, 8, 9, 10]), (12, [0, 1, 2, 3, 4, 5, 6, 7, 8, 9, 10, 11]), (13, [0, 1, 2, 3, 4, 5, 6, 7, 8, 9, 10, 11, 12]), (14, [0, 1, 2, 3, 4, 5, 6, 7, 8, 9, 10, 11, 12, 13])])]⟩
set_option maxRecDepth 100000 in
theorem F148.ok : compF Try.prog A148 Try.f148 = some F148 := by kernel_rfl
theorem F148.fok : FOk Try.prog 148 F148 := fok_of mixed Try.func148 F148.ok

/-- slices.Equal[[]byte,byte] -/
def F149 : SFn := ⟨.seq (.region [⟨some 4, none, .mov (.c (.bool false))⟩] [0, 1])
   (.seq (.seq (.region [⟨some 6, none, .mov (.t 0)⟩,
    ⟨some 7, none, .lenV (.t 6)⟩,
    ⟨some 8, none, .mov (.t 1)⟩,
    ⟨some 9, none, .lenV (.t 8)⟩,
    ⟨some 10, none, .bin .neq (.t 7) (.t 9)⟩] [0, 1, 10])
   (.cond (.t 10) (.seq (.region [⟨some 4, none, .mov (.c (.bool false))⟩] [4])
   (.ret)) (.skip)))
   (.seq (.seq (.region [⟨some 11, none, .mov (.t 0)⟩,
    ⟨some 12, none, .lenV (.t 11)⟩,
    ⟨some 13, none, .mov (.c (.int .i64 0))⟩] [0, 1, 12, 13])
   (.block 0 (.loop (.seq (.region [⟨some 14, none, .bin .lss (.t 13) (.t 12)⟩] [0, 1, 12, 13, 14])
   (.seq (.cond (.t 14) (.skip) (.exit 0))
   (.seq (.block 1 (.seq (.region [⟨some 15, none, .mov (.t 13)⟩,
    ⟨some 5, none, .mov (.t 15)⟩] [0, 1, 5, 12, 13])
   (.seq (.region [⟨some 16, none, .mov (.t 0)⟩,
    ⟨some 17, none, .mov (.t 5)⟩,
    ⟨some 18, none, .iaV 1 (.t 16) (.t 17)⟩,
    ⟨some 19, none, .ld 1 false (.t 18)⟩,
    ⟨some 20, none, .mov (.t 1)⟩,
    ⟨some 21, none, .mov (.t 5)⟩,
    ⟨some 22, none, .iaV 1 (.t 20) (.t 21)⟩,
    ⟨some 23, none, .ld 1 false (.t 22)⟩,
    ⟨some 24, none, .bin .neq (.t 19) (.t 23)⟩] [0, 1, 12, 13, 24])
   (.cond (.t 24) (.seq (.region [⟨some 4, none, .mov (.c (.bool false))⟩] [4])
   (.ret)) (.skip)))))
   (.region [⟨some 25, none, .bin .add (.t 13) (.c (.int .i64 1))⟩,
    ⟨some 13, none, .mov (.t 25)⟩] [0, 1, 12, 13])))))))
   (.seq (.region [⟨some 4, none, .mov (.c (.bool true))⟩] [4])
   (.ret)))),
  [.t 4], 26, 2⟩
def A149 : Ann := ⟨[(0, [0, 1]), (1, [0, 1, 10]), (2, [4]), (3, [0, 1, 12, 13]), (4, [0, 1, 12, 13, 14]), (5, [0, 1, 5, 12, 13]), (6, [0, 1, 12, 13, 24]), (7, [4]), (8, [0, 1, 12, 13]), (9, [4])], [(6, [(0, []), (1, []), (2, []), (3, []), (4, []), (5, []), (6, []), (7, []), (8, [])], [(2, [0, 1]), (3, [0, 1, 2]), (6, [4, 5]), (7, [4, 5, 6]), (8, [0, 1, 2, 3, 4, 5, 6, 7])])]⟩
set_option maxRecDepth 100000 in
theorem F149.ok : compF Try.prog A149 Try.f149 = some F149 := by kernel_rfl
theorem F149.fok : FOk Try.prog 149 F149 := fok_of mixed Try.func149 F149.ok

/-- (*cloakroom/val.checker).label -/
def F150 : SFn := ⟨.seq (.region [⟨some 4, none, .mov (.c (.slice none 0 0))⟩] [0, 1])
   (.seq (.seq (.region [⟨some 5, none, .mov (.t 1)⟩,
    ⟨some 6, none, .mov (.t 0)⟩,
    ⟨some 7, none, .nilc (.t 6)⟩,
    ⟨some 8, none, .fa 3 (.t 7)⟩,
    ⟨some 9, none, .ld 1 false (.t 8)⟩,
    ⟨some 10, none, .lenV (.t 9)⟩,
    ⟨some 11, none, .call 93 [.t 5, .t 10]⟩,
    ⟨some 12, none, .un .not (.t 11)⟩] [0, 1, 12])
   (.cond (.t 12) (.seq (.region [⟨some 13, none, .mov (.t 0)⟩,
    ⟨some 14, none, .call 112 [.t 13, .c (.bool true)]⟩] [])
   (.seq (.region [⟨some 4, none, .mov (.c (.slice none 0 0))⟩] [4])
   (.ret))) (.skip)))
   (.seq (.region [⟨some 15, none, .mov (.t 0)⟩,
    ⟨some 16, none, .nilc (.t 15)⟩,
    ⟨some 17, none, .fa 3 (.t 16)⟩,
    ⟨some 18, none, .ld 1 false (.t 17)⟩,
    ⟨some 19, none, .mov (.t 0)⟩,
    ⟨some 20, none, .nilc (.t 19)⟩,
    ⟨some 21, none, .fa 3 (.t 20)⟩,
    ⟨some 22, none, .ld 1 false (.t 21)⟩,
    ⟨some 23, none, .lenV (.t 22)⟩,
    ⟨some 24, none, .bin .sub (.t 23) (.c (.int .i64 1))⟩,
    ⟨some 25, none, .mov (.t 1)⟩,
    ⟨some 26, none, .conv .i64 (.t 25)⟩,
    ⟨some 27, none, .bin .sub (.t 24) (.t 26)⟩,
    ⟨some 28, none, .iaV 5 (.t 18) (.t 27)⟩,
    ⟨some 29, none, .ld 5 true (.t 28)⟩,
    ⟨some 30, none, .call 175 [.t 29]⟩,
    ⟨some 4, none, .mov (.t 30)⟩] [4])
   (.ret))),
  [.t 4], 31, 2⟩
def A150 : Ann := ⟨[(0, [0, 1]), (1, [0, 1, 12]), (2, []), (3, [4]), (4, [4])], [(4, [(0, []), (1, []), (2, []), (3, []), (4, []), (5, []), (6, []), (7, []), (8, []), (9, []), (10, []), (11, []), (12, []), (13, []), (14, []), (15, []), (16, [])], [(1, [0]), (2, [0, 1]), (3, [0, 1, 2]), (5, [4]), (6, [4, 5]), (7, [4, 5, 6]), (8, [4, 5, 6, 7]), (9, [4, 5, 6, 7, 8]), (11, [10]), (12, [4, 5, 6, 7, 8, 9, 10, 11]), (13, [0, 1, 2, 3, 4, 5, 6, 7, 8, 9, 10, 11, 12]), (14, [0, 1, 2, 3, 4, 5, 6, 7, 8, 9, 10, 11, 12, 13]), (15, [0, 1, 2, 3, 4, 5, 6, 7, 8, 9, 10, 11, 12, 13, 14]), (16, [0, 1, 2, 3, 4, 5, 6, 7, 8, 9, 10, 11, 12, 13, 14, 15])])]⟩
set_option maxRecDepth 100000 in
theorem F150.ok : compF Try.prog A150 Try.f150 = some F150 := by kernel_rfl
theorem F150.fok : FOk Try.prog 150 F150 := fok_of mixed Try.func150 F150.ok

/-- (*cloakroom/val.checker).branches -/
def F151 : SFn := ⟨.seq (.region [⟨some 3, none, .box (.t 1)⟩] [0, 3])
   (.seq (.region [⟨some 8, none, .mov (.t 0)⟩,
    ⟨some 9, none, .call 146 [.t 8, .c (.int .u8 127)]⟩] [0, 3])
   (.seq (.region [⟨some 10, none, .mov (.t 0)⟩,
    ⟨some 11, none, .fa 1 (.t 3)⟩,
    ⟨some 12, none, .ld 1 false (.t 11)⟩,
    ⟨some 13, none, .call 150 [.t 10, .t 12]⟩,
    ⟨some 4, none, .mov (.t 13)⟩] [0, 3, 4])
   (.seq (.seq (.region [⟨some 14, none, .fa 4 (.t 3)⟩,
    ⟨some 15, none, .ld 1 false (.t 14)⟩,
    ⟨some 16, none, .lenV (.t 15)⟩,
    ⟨some 17, none, .mov (.c (.int .i64 0))⟩] [0, 4, 15, 16, 17])
   (.block 0 (.loop (.seq (.region [⟨some 18, none, .bin .lss (.t 17) (.t 16)⟩] [0, 4, 15, 16, 17, 18])
   (.seq (.cond (.t 18) (.skip) (.exit 0))
   (.seq (.block 1 (.seq (.region [⟨some 19, none, .iaV 1 (.t 15) (.t 17)⟩,
    ⟨some 20, none, .ld 1 false (.t 19)⟩,
    ⟨some 6, none, .mov (.t 20)⟩] [0, 4, 6, 15, 16, 17])
   (.seq (.region [⟨some 21, none, .mov (.t 0)⟩,
    ⟨some 22, none, .mov (.t 6)⟩,
    ⟨some 23, none, .call 150 [.t 21, .t 22]⟩,
    ⟨some 7, none, .mov (.t 23)⟩] [0, 4, 7, 15, 16, 17])
   (.seq (.region [⟨some 24, none, .mov (.t 0)⟩,
    ⟨some 25, none, .mov (.t 7)⟩,
    ⟨some 26, none, .lenV (.t 25)⟩,
    ⟨some 27, none, .mov (.t 4)⟩,
    ⟨some 28, none, .lenV (.t 27)⟩,
    ⟨some 29, none, .bin .neq (.t 26) (.t 28)⟩,
    ⟨some 30, none, .call 112 [.t 24, .t 29]⟩] [0, 4, 7, 15, 16, 17])
   (.region [⟨some 31, none, .mov (.t 0)⟩,
    ⟨some 32, none, .nilc (.t 31)⟩,
    ⟨some 33, none, .fa 0 (.t 32)⟩,
    ⟨some 34, none, .mov (.t 0)⟩,
    ⟨some 35, none, .mov (.t 7)⟩,
    ⟨some 36, none, .call 113 [.t 34, .t 35]⟩,
    ⟨some 37, none, .call 105 [.t 33, .t 36]⟩] [0, 4, 15, 16, 17])))))
   (.region [⟨some 38, none, .bin .add (.t 17) (.c (.int .i64 1))⟩,
    ⟨some 17, none, .mov (.t 38)⟩] [0, 4, 15, 16, 17])))))))
   (.seq (.region [⟨some 39, none, .mov (.t 0)⟩,
    ⟨some 40, none, .mov (.t 4)⟩,
    ⟨some 41, none, .call 113 [.t 39, .t 40]⟩] [0])
   (.region [⟨some 42, none, .mov (.t 0)⟩,
    ⟨some 43, none, .call 145 [.t 42]⟩] []))))),
  [], 44, 2⟩
def A151 : Ann := ⟨[(0, [0, 3]), (1, [0, 3]), (2, [0, 3, 4]), (3, [0, 4, 15, 16, 17]), (4, [0, 4, 15, 16, 17, 18]), (5, [0, 4, 6, 15, 16, 17]), (6, [0, 4, 7, 15, 16, 17]), (7, [0, 4, 7, 15, 16, 17]), (8, [0, 4, 15, 16, 17]), (9, [0, 4, 15, 16, 17]), (10, [0]), (11, [])], [(8, [(0, []), (1, []), (2, []), (3, []), (4, []), (5, []), (6, [])], [(1, [0]), (2, [0, 1]), (5, [3, 4]), (6, [0, 1, 2, 3, 4, 5])])]⟩
set_option maxRecDepth 100000 in
theorem F151.ok : compF Try.prog A151 Try.f151 = some F151 := by kernel_rfl
theorem F151.fok : FOk Try.prog 151 F151 := fok_of mixed Try.func151 F151.ok

/-- (*cloakroom/val.checker).calls -/
def F152 : SFn := ⟨.seq (.seq (.region [⟨some 6, none, .mov (.t 1)⟩,
    ⟨some 7, none, .mov (.t 0)⟩,
    ⟨some 8, none, .nilc (.t 7)⟩,
    ⟨some 9, none, .fa 1 (.t 8)⟩,
    ⟨some 10, none, .ld 1 false (.t 9)⟩,
    ⟨some 11, none, .nilc (.t 10)⟩,
    ⟨some 12, none, .fa 1 (.t 11)⟩,
    ⟨some 13, none, .ld 1 false (.t 12)⟩,
    ⟨some 14, none, .lenV (.t 13)⟩,
    ⟨some 15, none, .call 93 [.t 6, .t 14]⟩,
    ⟨some 16, none, .un .not (.t 15)⟩] [0, 1, 16])
   (.cond (.t 16) (.seq (.region [⟨some 17, none, .mov (.t 0)⟩,
    ⟨some 18, none, .call 112 [.t 17, .c (.bool true)]⟩] [])
   (.ret)) (.skip)))
   (.seq (.region [⟨some 20, none, .mov (.t 0)⟩,
    ⟨some 21, none, .mov (.t 0)⟩,
    ⟨some 22, none, .nilc (.t 21)⟩,
    ⟨some 23, none, .fa 1 (.t 22)⟩,
    ⟨some 24, none, .ld 1 false (.t 23)⟩,
    ⟨some 25, none, .nilc (.t 24)⟩,
    ⟨some 26, none, .fa 1 (.t 25)⟩,
    ⟨some 27, none, .ld 1 false (.t 26)⟩,
    ⟨some 28, none, .mov (.t 1)⟩,
    ⟨some 29, none, .iaV 1 (.t 27) (.t 28)⟩,
    ⟨some 30, none, .ld 1 false (.t 29)⟩,
    ⟨some 31, none, .conv .u64 (.t 30)⟩,
    ⟨some 32, none, .call 154 [.t 20, .t 31]⟩,
    ⟨some 19, none, .mov (.t 32)⟩,
    ⟨some 33, none, .ext (.t 19) 0⟩,
    ⟨some 34, none, .ext (.t 19) 1⟩,
    ⟨some 4, none, .mov (.t 33)⟩,
    ⟨some 5, none, .mov (.t 34)⟩] [0, 4, 5])
   (.seq (.region [⟨some 35, none, .mov (.t 0)⟩,
    ⟨some 36, none, .mov (.t 4)⟩,
    ⟨some 37, none, .call 113 [.t 35, .t 36]⟩] [0, 5])
   (.region [⟨some 38, none, .mov (.t 0)⟩,
    ⟨some 39, none, .nilc (.t 38)⟩,
    ⟨some 40, none, .fa 0 (.t 39)⟩,
    ⟨some 41, none, .mov (.t 5)⟩,
    ⟨some 42, none, .call 105 [.t 40, .t 41]⟩] []))),
  [], 43, 2⟩
def A152 : Ann := ⟨[(0, [0, 1, 16]), (1, []), (2, [0, 4, 5]), (3, [0, 5]), (4, [])], []⟩
set_option maxRecDepth 100000 in
theorem F152.ok : compF Try.prog A152 Try.f152 = some F152 := by kernel_rfl
theorem F152.fok : FOk Try.prog 152 F152 := fok_of mixed Try.func152 F152.ok

/-- (*cloakroom/val.checker).table -/
def F153 : SFn := ⟨.seq (.region [⟨some 4, none, .mov (.c (.int .u8 0))⟩] [0, 1])
   (.seq (.seq (.region [⟨some 5, none, .mov (.t 1)⟩,
    ⟨some 6, none, .mov (.t 0)⟩,
    ⟨some 7, none, .nilc (.t 6)⟩,
    ⟨some 8, none, .fa 1 (.t 7)⟩,
    ⟨some 9, none, .ld 1 false (.t 8)⟩,
    ⟨some 10, none, .nilc (.t 9)⟩,
    ⟨some 11, none, .fa 2 (.t 10)⟩,
    ⟨some 12, none, .ld 1 false (.t 11)⟩,
    ⟨some 13, none, .lenV (.t 12)⟩,
    ⟨some 14, none, .call 93 [.t 5, .t 13]⟩,
    ⟨some 15, none, .un .not (.t 14)⟩] [0, 1, 15])
   (.cond (.t 15) (.seq (.region [⟨some 16, none, .mov (.t 0)⟩,
    ⟨some 17, none, .call 112 [.t 16, .c (.bool true)]⟩] [])
   (.seq (.region [⟨some 4, none, .mov (.c (.int .u8 0))⟩] [4])
   (.ret))) (.skip)))
   (.seq (.region [⟨some 18, none, .mov (.t 0)⟩,
    ⟨some 19, none, .nilc (.t 18)⟩,
    ⟨some 20, none, .fa 1 (.t 19)⟩,
    ⟨some 21, none, .ld 1 false (.t 20)⟩,
    ⟨some 22, none, .nilc (.t 21)⟩,
    ⟨some 23, none, .fa 2 (.t 22)⟩,
    ⟨some 24, none, .ld 1 false (.t 23)⟩,
    ⟨some 25, none, .mov (.t 1)⟩,
    ⟨some 26, none, .iaV 4 (.t 24) (.t 25)⟩,
    ⟨some 27, none, .fa 0 (.t 26)⟩,
    ⟨some 28, none, .ld 1 false (.t 27)⟩,
    ⟨some 4, none, .mov (.t 28)⟩] [4])
   (.ret))),
  [.t 4], 29, 2⟩
def A153 : Ann := ⟨[(0, [0, 1]), (1, [0, 1, 15]), (2, []), (3, [4]), (4, [4])], []⟩
set_option maxRecDepth 100000 in
theorem F153.ok : compF Try.prog A153 Try.f153 = some F153 := by kernel_rfl
theorem F153.fok : FOk Try.prog 153 F153 := fok_of mixed Try.func153 F153.ok

/-- (*cloakroom/val.checker).function -/
def F154 : SFn := ⟨.seq (.region [⟨some 4, none, .mov (.c (.slice none 0 0))⟩,
    ⟨some 5, none, .mov (.c (.slice none 0 0))⟩] [0, 1])
   (.seq (.seq (.region [⟨some 7, none, .mov (.t 1)⟩,
    ⟨some 8, none, .mov (.t 0)⟩,
    ⟨some 9, none, .nilc (.t 8)⟩,
    ⟨some 10, none, .fa 1 (.t 9)⟩,
    ⟨some 11, none, .ld 1 false (.t 10)⟩,
    ⟨some 12, none, .nilc (.t 11)⟩,
    ⟨some 13, none, .fa 0 (.t 12)⟩,
    ⟨some 14, none, .ld 1 false (.t 13)⟩,
    ⟨some 15, none, .lenV (.t 14)⟩,
    ⟨some 16, none, .conv .u64 (.t 15)⟩,
    ⟨some 17, none, .bin .geq (.t 7) (.t 16)⟩] [0, 1, 17])
   (.cond (.t 17) (.seq (.region [⟨some 18, none, .mov (.t 0)⟩,
    ⟨some 19, none, .call 112 [.t 18, .c (.bool true)]⟩] [])
   (.seq (.region [⟨some 4, none, .mov (.c (.slice none 0 0))⟩,
    ⟨some 5, none, .mov (.c (.slice none 0 0))⟩] [4, 5])
   (.ret))) (.skip)))
   (.seq (.region [⟨some 20, none, .mov (.t 0)⟩,
    ⟨some 21, none, .nilc (.t 20)⟩,
    ⟨some 22, none, .fa 1 (.t 21)⟩,
    ⟨some 23, none, .ld 1 false (.t 22)⟩,
    ⟨some 24, none, .nilc (.t 23)⟩,
    ⟨some 25, none, .fa 0 (.t 24)⟩,
    ⟨some 26, none, .ld 1 false (.t 25)⟩,
    ⟨some 27, none, .mov (.t 1)⟩,
    ⟨some 28, none, .iaV 2 (.t 26) (.t 27)⟩,
    ⟨some 29, none, .ld 2 true (.t 28)⟩,
    ⟨some 6, none, .new [.slice none 0 0, .slice none 0 0]⟩,
    ⟨none, none, .st 2 (.t 6) (.t 29)⟩] [6])
   (.seq (.region [⟨some 30, none, .fa 0 (.t 6)⟩,
    ⟨some 31, none, .ld 1 false (.t 30)⟩,
    ⟨some 32, none, .fa 1 (.t 6)⟩,
    ⟨some 33, none, .ld 1 false (.t 32)⟩,
    ⟨some 4, none, .mov (.t 31)⟩,
    ⟨some 5, none, .mov (.t 33)⟩] [4, 5])
   (.ret)))),
  [.t 4, .t 5], 34, 2⟩
def A154 : Ann := ⟨[(0, [0, 1]), (1, [0, 1, 17]), (2, []), (3, [4, 5]), (4, [6]), (5, [4, 5])], [(5, [(0, []), (1, []), (2, []), (3, []), (4, []), (5, [])], [(1, [0]), (3, [2]), (4, [0, 1]), (5, [0, 1, 2, 3, 4])])]⟩
set_option maxRecDepth 100000 in
theorem F154.ok : compF Try.prog A154 Try.f154 = some F154 := by kernel_rfl
theorem F154.fok : FOk Try.prog 154 F154 := fok_of mixed Try.func154 F154.ok

/-- (*cloakroom/val.checker).pop -/
def F155 : SFn := ⟨.seq (.region [⟨some 2, none, .mov (.c (.int .u8 0))⟩] [0])
   (.seq (.region [⟨some 5, none, .mov (.t 0)⟩,
    ⟨some 6, none, .call 174 [.t 5]⟩,
    ⟨some 3, none, .mov (.t 6)⟩] [0, 3])
   (.seq (.seq (.region [⟨some 7, none, .mov (.t 0)⟩,
    ⟨some 8, none, .nilc (.t 7)⟩,
    ⟨some 9, none, .fa 0 (.t 8)⟩,
    ⟨some 10, none, .fa 0 (.t 9)⟩,
    ⟨some 11, none, .ld 1 false (.t 10)⟩,
    ⟨some 12, none, .lenV (.t 11)⟩,
    ⟨some 13, none, .mov (.t 3)⟩,
    ⟨some 14, none, .nilc (.t 13)⟩,
    ⟨some 15, none, .fa 3 (.t 14)⟩,
    ⟨some 16, none, .ld 1 false (.t 15)⟩,
    ⟨some 17, none, .bin .eql (.t 12) (.t 16)⟩] [0, 3, 17])
   (.cond (.t 17) (.seq (.region [⟨some 18, none, .mov (.t 0)⟩,
    ⟨some 19, none, .mov (.t 3)⟩,
    ⟨some 20, none, .nilc (.t 19)⟩,
    ⟨some 21, none, .fa 4 (.t 20)⟩,
    ⟨some 22, none, .ld 1 false (.t 21)⟩,
    ⟨some 23, none, .un .not (.t 22)⟩,
    ⟨some 24, none, .call 112 [.t 18, .t 23]⟩] [])
   (.seq (.region [⟨some 2, none, .mov (.c (.int .u8 0))⟩] [2])
   (.ret))) (.skip)))
   (.seq (.region [⟨some 25, none, .mov (.t 0)⟩,
    ⟨some 26, none, .nilc (.t 25)⟩,
    ⟨some 27, none, .fa 0 (.t 26)⟩,
    ⟨some 28, none, .fa 0 (.t 27)⟩,
    ⟨some 29, none, .ld 1 false (.t 28)⟩,
    ⟨some 30, none, .mov (.t 0)⟩,
    ⟨some 31, none, .nilc (.t 30)⟩,
    ⟨some 32, none, .fa 0 (.t 31)⟩,
    ⟨some 33, none, .fa 0 (.t 32)⟩,
    ⟨some 34, none, .ld 1 false (.t 33)⟩,
    ⟨some 35, none, .lenV (.t 34)⟩,
    ⟨some 36, none, .bin .sub (.t 35) (.c (.int .i64 1))⟩,
    ⟨some 37, none, .iaV 1 (.t 29) (.t 36)⟩,
    ⟨some 38, none, .ld 1 false (.t 37)⟩,
    ⟨some 4, none, .mov (.t 38)⟩] [0, 4])
   (.seq (.region [⟨some 39, none, .mov (.t 0)⟩,
    ⟨some 40, none, .mov (.t 0)⟩,
    ⟨some 41, none, .nilc (.t 40)⟩,
    ⟨some 42, none, .fa 0 (.t 41)⟩,
    ⟨some 43, none, .fa 0 (.t 42)⟩,
    ⟨some 44, none, .ld 1 false (.t 43)⟩,
    ⟨some 45, none, .mov (.t 0)⟩,
    ⟨some 46, none, .nilc (.t 45)⟩,
    ⟨some 47, none, .fa 0 (.t 46)⟩,
    ⟨some 48, none, .fa 0 (.t 47)⟩,
    ⟨some 49, none, .ld 1 false (.t 48)⟩,
    ⟨some 50, none, .lenV (.t 49)⟩,
    ⟨some 51, none, .bin .sub (.t 50) (.c (.int .i64 1))⟩,
    ⟨some 52, none, .slV 1 (.t 44) none (some (.t 51)) none⟩,
    ⟨some 53, none, .nilc (.t 39)⟩,
    ⟨some 54, none, .fa 0 (.t 53)⟩,
    ⟨some 55, none, .fa 0 (.t 54)⟩,
    ⟨none, none, .st 1 (.t 55) (.t 52)⟩] [4])
   (.seq (.region [⟨some 56, none, .mov (.t 4)⟩,
    ⟨some 2, none, .mov (.t 56)⟩] [2])
   (.ret)))))),
  [.t 2], 57, 1⟩
def A155 : Ann := ⟨[(0, [0]), (1, [0, 3]), (2, [0, 3, 17]), (3, []), (4, [2]), (5, [0, 4]), (6, [4]), (7, [2])], [(2, [(0, []), (1, []), (2, []), (3, []), (4, []), (5, []), (6, []), (7, []), (8, []), (9, []), (10, [])], [(1, [0]), (2, [0, 1]), (3, [0, 1, 2]), (4, [0, 1, 2, 3]), (5, [0, 1, 2, 3, 4]), (7, [6]), (8, [6, 7]), (9, [6, 7, 8]), (10, [0, 1, 2, 3, 4, 5, 6, 7, 8, 9])]),
  (5, [(0, []), (1, []), (2, []), (3, []), (4, []), (5, []), (6, []), (7, []), (8, []), (9, []), (10, []), (11, []), (12, []), (13, []), (14, [])], [(1, [0]), (2, [0, 1]), (3, [0, 1, 2]), (4, [0, 1, 2, 3]), (6, [5]), (7, [5, 6]), (8, [5, 6, 7]), (9, [5, 6, 7, 8]), (10, [5, 6, 7, 8, 9]), (11, [5, 6, 7, 8, 9, 10]), (12, [0, 1, 2, 3, 4, 5, 6, 7, 8, 9, 10, 11]), (13, [0, 1, 2, 3, 4, 5, 6, 7, 8, 9, 10, 11, 12]), (14, [0, 1, 2, 3, 4, 5, 6, 7, 8, 9, 10, 11, 12, 13])]),
  (6, [(0, []), (1, []), (2, []), (3, []), (4, []), (5, []), (6, []), (7, []), (8, []), (9, []), (10, []), (11, []), (12, []), (13, []), (14, []), (15, []), (16, []), (17, [])], [(2, [1]), (3, [1, 2]), (4, [1, 2, 3]), (5, [1, 2, 3, 4]), (7, [6]), (8, [6, 7]), (9, [6, 7, 8]), (10, [6, 7, 8, 9]), (11, [6, 7, 8, 9, 10]), (12, [6, 7, 8, 9, 10, 11]), (13, [1, 2, 3, 4, 5, 6, 7, 8, 9, 10, 11, 12]), (14, [0, 1, 2, 3, 4, 5, 6, 7, 8, 9, 10, 11, 12, 13]), (15, [0, 1, 2, 3, 4, 5, 6, 7, 8, 9, 10, 11, 12, 13, 14]), (16, [0, 1, 2, 3, 4, 5, 6, 7, 8, 9, 10, 11, 12, 13, 14, 15]), (17, [0, 1, 2, 3, 4, 5, 6, 7, 8, 9, 10, 11, 12, 13, 14, 15, 16])])]⟩
set_option maxRecDepth 100000 in
theorem F155.ok : compF Try.prog A155 Try.f155 = some F155 := by kernel_rfl
theorem F155.fok : FOk Try.prog 155 F155 := fok_of mixed Try.func155 F155.ok

/-- cloakroom/val.own -/
def F156 : SFn := ⟨.seq (.region [⟨some 2, none, .mov (.c (.bool false))⟩] [0])
   (.seq (.region [⟨some 3, none, .mov (.t 0)⟩,
    ⟨some 4, none, .bin .eql (.t 3) (.c (.int .u8 112))⟩,
    ⟨some 5, none, .mov (.t 4)⟩,
    ⟨some 6, some (5, false), .mov (.t 0)⟩,
    ⟨some 7, some (5, false), .bin .eql (.t 6) (.c (.int .u8 111))⟩,
    ⟨some 8, none, .pick (.t 5) (.c (.bool true)) (.t 7)⟩,
    ⟨some 2, none, .mov (.t 8)⟩] [2])
   (.ret)),
  [.t 2], 9, 1⟩
def A156 : Ann := ⟨[(0, [0]), (1, [2])], []⟩
set_option maxRecDepth 100000 in
theorem F156.ok : compF Try.prog A156 Try.f156 = some F156 := by kernel_rfl
theorem F156.fok : FOk Try.prog 156 F156 := fok_of mixed Try.func156 F156.ok

/-- (*cloakroom/val.checker).local -/
def F157 : SFn := ⟨.seq (.region [⟨some 4, none, .mov (.c (.int .u8 0))⟩] [0, 1])
   (.seq (.seq (.region [⟨some 5, none, .mov (.t 1)⟩,
    ⟨some 6, none, .mov (.t 0)⟩,
    ⟨some 7, none, .nilc (.t 6)⟩,
    ⟨some 8, none, .fa 2 (.t 7)⟩,
    ⟨some 9, none, .ld 1 false (.t 8)⟩,
    ⟨some 10, none, .lenV (.t 9)⟩,
    ⟨some 11, none, .call 93 [.t 5, .t 10]⟩,
    ⟨some 12, none, .un .not (.t 11)⟩] [0, 1, 12])
   (.cond (.t 12) (.seq (.region [⟨some 13, none, .mov (.t 0)⟩,
    ⟨some 14, none, .call 112 [.t 13, .c (.bool true)]⟩] [])
   (.seq (.region [⟨some 4, none, .mov (.c (.int .u8 0))⟩] [4])
   (.ret))) (.skip)))
   (.seq (.region [⟨some 15, none, .mov (.t 0)⟩,
    ⟨some 16, none, .nilc (.t 15)⟩,
    ⟨some 17, none, .fa 2 (.t 16)⟩,
    ⟨some 18, none, .ld 1 false (.t 17)⟩,
    ⟨some 19, none, .mov (.t 1)⟩,
    ⟨some 20, none, .iaV 1 (.t 18) (.t 19)⟩,
    ⟨some 21, none, .ld 1 false (.t 20)⟩,
    ⟨some 4, none, .mov (.t 21)⟩] [4])
   (.ret))),
  [.t 4], 22, 2⟩
def A157 : Ann := ⟨[(0, [0, 1]), (1, [0, 1, 12]), (2, []), (3, [4]), (4, [4])], []⟩
set_option maxRecDepth 100000 in
theorem F157.ok : compF Try.prog A157 Try.f157 = some F157 := by kernel_rfl
theorem F157.fok : FOk Try.prog 157 F157 := fok_of mixed Try.func157 F157.ok

/-- (*cloakroom/val.checker).global -/
def F158 : SFn := ⟨.seq (.region [⟨some 4, none, .new [.int .u8 0, .bool false, .slice none 0 0]⟩] [0, 1, 4])
   (.seq (.seq (.region [⟨some 5, none, .mov (.t 1)⟩,
    ⟨some 6, none, .mov (.t 0)⟩,
    ⟨some 7, none, .nilc (.t 6)⟩,
    ⟨some 8, none, .fa 1 (.t 7)⟩,
    ⟨some 9, none, .ld 1 false (.t 8)⟩,
    ⟨some 10, none, .nilc (.t 9)⟩,
    ⟨some 11, none, .fa 4 (.t 10)⟩,
    ⟨some 12, none, .ld 1 false (.t 11)⟩,
    ⟨some 13, none, .lenV (.t 12)⟩,
    ⟨some 14, none, .call 93 [.t 5, .t 13]⟩,
    ⟨some 15, none, .un .not (.t 14)⟩] [0, 1, 4, 15])
   (.cond (.t 15) (.seq (.region [⟨some 16, none, .mov (.t 0)⟩,
    ⟨some 17, none, .call 112 [.t 16, .c (.bool true)]⟩] [4])
   (.seq (.region [⟨some 18, none, .build [.int .u8 0, .bool false, .slice none 0 0] []⟩,
    ⟨none, none, .st 3 (.t 4) (.t 18)⟩] [4])
   (.ret))) (.skip)))
   (.seq (.region [⟨some 19, none, .mov (.t 0)⟩,
    ⟨some 20, none, .nilc (.t 19)⟩,
    ⟨some 21, none, .fa 1 (.t 20)⟩,
    ⟨some 22, none, .ld 1 false (.t 21)⟩,
    ⟨some 23, none, .nilc (.t 22)⟩,
    ⟨some 24, none, .fa 4 (.t 23)⟩,
    ⟨some 25, none, .ld 1 false (.t 24)⟩,
    ⟨some 26, none, .mov (.t 1)⟩,
    ⟨some 27, none, .iaV 3 (.t 25) (.t 26)⟩,
    ⟨some 28, none, .ld 3 true (.t 27)⟩,
    ⟨none, none, .st 3 (.t 4) (.t 28)⟩] [4])
   (.ret))),
  [.c 4 3 true], 29, 2⟩
def A158 : Ann := ⟨[(0, [0, 1, 4]), (1, [0, 1, 4, 15]), (2, [4]), (3, [4]), (4, [4])], []⟩
set_option maxRecDepth 100000 in
theorem F158.ok : compF Try.prog A158 Try.f158 = some F158 := by kernel_rfl
theorem F158.fok : FOk Try.prog 158 F158 := fok_of mixed Try.func158 F158.ok

/-- cloakroom/val.ref -/
def F159 : SFn := ⟨.seq (.region [⟨some 2, none, .mov (.c (.bool false))⟩] [0])
   (.seq (.region [⟨some 3, none, .mov (.t 0)⟩,
    ⟨some 4, none, .call 156 [.t 3]⟩,
    ⟨some 5, none, .mov (.t 4)⟩,
    ⟨some 6, some (5, false), .mov (.t 0)⟩,
    ⟨some 7, some (5, false), .bin .eql (.t 6) (.c (.int .u8 0))⟩,
    ⟨some 8, none, .pick (.t 5) (.c (.bool true)) (.t 7)⟩,
    ⟨some 2, none, .mov (.t 8)⟩] [2])
   (.ret)),
  [.t 2], 9, 1⟩
def A159 : Ann := ⟨[(0, [0]), (1, [2])], []⟩
set_option maxRecDepth 100000 in
theorem F159.ok : compF Try.prog A159 Try.f159 = some F159 := by kernel_rfl
theorem F159.fok : FOk Try.prog 159 F159 := fok_of mixed Try.func159 F159.ok

/-- cloakroom/val.Declared -/
def F160 : SFn := ⟨.seq (.region [⟨some 1, none, .box (.t 0)⟩,
    ⟨some 2, none, .mov (.c (.slice none 0 0))⟩] [1])
   (.seq (.region [⟨some 14, none, .fa 1 (.t 1)⟩,
    ⟨some 15, none, .ld 1 false (.t 14)⟩,
    ⟨some 16, none, .lenV (.t 15)⟩,
    ⟨some 17, none, .mkSl 1 1 [.bool false] (.t 16) (.t 16)⟩,
    ⟨some 3, none, .new [.slice none 0 0]⟩,
    ⟨none, none, .st 1 (.t 3) (.t 17)⟩] [1, 3])
   (.seq (.region [⟨some 18, none, .mkF (.func 176) [] [.t 3]⟩,
    ⟨some 4, none, .new [.nilFunc]⟩,
    ⟨none, none, .st 1 (.t 4) (.t 18)⟩] [1, 3, 4])
   (.seq (.region [⟨some 19, none, .mkF (.func 177) [] [.t 4]⟩,
    ⟨some 5, none, .mov (.t 19)⟩] [1, 3, 4, 5])
   (.seq (.seq (.region [⟨some 20, none, .fa 4 (.t 1)⟩,
    ⟨some 21, none, .ld 1 false (.t 20)⟩,
    ⟨some 22, none, .lenV (.t 21)⟩,
    ⟨some 23, none, .mov (.c (.int .i64 0))⟩] [1, 3, 4, 5, 21, 22, 23])
   (.block 0 (.loop (.seq (.region [⟨some 24, none, .bin .lss (.t 23) (.t 22)⟩] [1, 3, 4, 5, 21, 22, 23, 24])
   (.seq (.cond (.t 24) (.skip) (.exit 0))
   (.seq (.block 1 (.seq (.region [⟨some 25, none, .iaV 3 (.t 21) (.t 23)⟩,
    ⟨some 26, none, .ld 3 true (.t 25)⟩,
    ⟨some 7, none, .new [.int .u8 0, .bool false, .slice none 0 0]⟩,
    ⟨none, none, .st 3 (.t 7) (.t 26)⟩] [1, 3, 4, 5, 7, 21, 22, 23])
   (.region [⟨some 27, none, .mov (.t 5)⟩,
    ⟨some 28, none, .fa 2 (.t 7)⟩,
    ⟨some 29, none, .ld 1 false (.t 28)⟩,
    ⟨some 30, none, .callv (.t 27) [.t 29]⟩] [1, 3, 4, 5, 21, 22, 23])))
   (.region [⟨some 31, none, .bin .add (.t 23) (.c (.int .i64 1))⟩,
    ⟨some 23, none, .mov (.t 31)⟩] [1, 3, 4, 5, 21, 22, 23])))))))
   (.seq (.seq (.region [⟨some 32, none, .fa 8 (.t 1)⟩,
    ⟨some 33, none, .ld 1 false (.t 32)⟩,
    ⟨some 34, none, .lenV (.t 33)⟩,
    ⟨some 35, none, .mov (.c (.int .i64 0))⟩] [1, 3, 4, 5, 33, 34, 35])
   (.block 2 (.loop (.seq (.region [⟨some 36, none, .bin .lss (.t 35) (.t 34)⟩] [1, 3, 4, 5, 33, 34, 35, 36])
   (.seq (.cond (.t 36) (.skip) (.exit 2))
   (.seq (.block 3 (.seq (.region [⟨some 37, none, .iaV 5 (.t 33) (.t 35)⟩,
    ⟨some 38, none, .ld 5 true (.t 37)⟩,
    ⟨some 9, none, .new [.int .u8 0, .int .u8 0, .int .u32 0, .slice none 0 0, .slice none 0 0]⟩,
    ⟨none, none, .st 5 (.t 9) (.t 38)⟩] [1, 3, 4, 5, 9, 33, 34, 35])
   (.seq (.region [⟨some 39, none, .fa 4 (.t 9)⟩,
    ⟨some 40, none, .ld 1 false (.t 39)⟩,
    ⟨some 41, none, .lenV (.t 40)⟩,
    ⟨some 42, none, .mov (.c (.int .i64 0))⟩] [1, 3, 4, 5, 33, 34, 35, 40, 41, 42])
   (.block 4 (.loop (.seq (.region [⟨some 43, none, .bin .lss (.t 42) (.t 41)⟩] [1, 3, 4, 5, 33, 34, 35, 40, 41, 42, 43])
   (.seq (.cond (.t 43) (.skip) (.exit 4))
   (.seq (.block 5 (.seq (.region [⟨some 44, none, .iaV 1 (.t 40) (.t 42)⟩,
    ⟨some 45, none, .ld 1 false (.t 44)⟩,
    ⟨some 11, none, .mov (.t 45)⟩] [1, 3, 4, 5, 11, 33, 34, 35, 40, 41, 42])
   (.region [⟨some 46, none, .mov (.t 5)⟩,
    ⟨some 47, none, .mov (.t 11)⟩,
    ⟨some 48, none, .callv (.t 46) [.t 47]⟩] [1, 3, 4, 5, 33, 34, 35, 40, 41, 42])))
   (.region [⟨some 49, none, .bin .add (.t 42) (.c (.int .i64 1))⟩,
    ⟨some 42, none, .mov (.t 49)⟩] [1, 3, 4, 5, 33, 34, 35, 40, 41, 42])))))))))
   (.region [⟨some 50, none, .bin .add (.t 35) (.c (.int .i64 1))⟩,
    ⟨some 35, none, .mov (.t 50)⟩] [1, 3, 4, 5, 33, 34, 35])))))))
   (.seq (.seq (.region [⟨some 51, none, .fa 5 (.t 1)⟩,
    ⟨some 52, none, .ld 1 false (.t 51)⟩,
    ⟨some 53, none, .lenV (.t 52)⟩,
    ⟨some 54, none, .mov (.c (.int .i64 0))⟩] [3, 4, 52, 53, 54])
   (.block 6 (.loop (.seq (.region [⟨some 55, none, .bin .lss (.t 54) (.t 53)⟩] [3, 4, 52, 53, 54, 55])
   (.seq (.cond (.t 55) (.skip) (.exit 6))
   (.seq (.block 7 (.seq (.region [⟨some 56, none, .iaV 3 (.t 52) (.t 54)⟩,
    ⟨some 57, none, .ld 3 true (.t 56)⟩,
    ⟨some 13, none, .new [.string ByteArray.empty, .int .u8 0, .int .u32 0]⟩,
    ⟨none, none, .st 3 (.t 13) (.t 57)⟩] [3, 4, 13, 52, 53, 54])
   (.seq (.region [⟨some 58, none, .fa 1 (.t 13)⟩,
    ⟨some 59, none, .ld 1 false (.t 58)⟩,
    ⟨some 60, none, .bin .eql (.t 59) (.c (.int .u8 0))⟩] [3, 4, 13, 52, 53, 54, 60])
   (.cond (.t 60) (.region [⟨some 61, none, .ld 1 false (.t 4)⟩,
    ⟨some 62, none, .fa 2 (.t 13)⟩,
    ⟨some 63, none, .ld 1 false (.t 62)⟩,
    ⟨some 64, none, .callv (.t 61) [.t 63]⟩] [3, 4, 52, 53, 54]) (.skip)))))
   (.region [⟨some 65, none, .bin .add (.t 54) (.c (.int .i64 1))⟩,
    ⟨some 54, none, .mov (.t 65)⟩] [3, 4, 52, 53, 54])))))))
   (.seq (.region [⟨some 66, none, .ld 1 false (.t 3)⟩,
    ⟨some 2, none, .mov (.t 66)⟩] [2])
   (.ret)))))))),
  [.t 2], 67, 1⟩
def A160 : Ann := ⟨[(0, [1]), (1, [1, 3]), (2, [1, 3, 4]), (3, [1, 3, 4, 5]), (4, [1, 3, 4, 5, 21, 22, 23]), (5, [1, 3, 4, 5, 21, 22, 23, 24]), (6, [1, 3, 4, 5, 7, 21, 22, 23]), (7, [1, 3, 4, 5, 21, 22, 23]), (8, [1, 3, 4, 5, 21, 22, 23]), (9, [1, 3, 4, 5, 33, 34, 35]), (10, [1, 3, 4, 5, 33, 34, 35, 36]), (11, [1, 3, 4, 5, 9, 33, 34, 35]), (12, [1, 3, 4, 5, 33, 34, 35, 40, 41, 42]), (13, [1, 3, 4, 5, 33, 34, 35, 40, 41, 42, 43]), (14, [1, 3, 4, 5, 11, 33, 34, 35, 40, 41, 42]), (15, [1, 3, 4, 5, 33, 34, 35, 40, 41, 42]), (16, [1, 3, 4, 5, 33, 34, 35, 40, 41, 42]), (17, [1, 3, 4, 5, 33, 34, 35]), (18, [3, 4, 52, 53, 54]), (19, [3, 4, 52, 53, 54, 55]), (20, [3, 4, 13, 52, 53, 54]), (21, [3, 4, 13, 52, 53, 54, 60]), (22, [3, 4, 52, 53, 54]), (23, [3, 4, 52, 53, 54]), (24, [2])], []⟩
set_option maxRecDepth 100000 in
theorem F160.ok : compF Try.prog A160 Try.f160 = some F160 := by kernel_rfl
theorem F160.fok : FOk Try.prog 160 F160 := fok_of mixed Try.func160 F160.ok

/-- (*cloakroom/val.checker).memory -/
def F161 : SFn := ⟨.region [⟨some 2, none, .mov (.t 0)⟩,
    ⟨some 3, none, .mov (.t 0)⟩,
    ⟨some 4, none, .nilc (.t 3)⟩,
    ⟨some 5, none, .fa 1 (.t 4)⟩,
    ⟨some 6, none, .ld 1 false (.t 5)⟩,
    ⟨some 7, none, .nilc (.t 6)⟩,
    ⟨some 8, none, .fa 3 (.t 7)⟩,
    ⟨some 9, none, .ld 1 false (.t 8)⟩,
    ⟨some 10, none, .lenV (.t 9)⟩,
    ⟨some 11, none, .bin .eql (.t 10) (.c (.int .i64 0))⟩,
    ⟨some 12, none, .call 112 [.t 2, .t 11]⟩] [],
  [], 13, 1⟩
def A161 : Ann := ⟨[(0, [])], []⟩
set_option maxRecDepth 100000 in
theorem F161.ok : compF Try.prog A161 Try.f161 = some F161 := by kernel_rfl
theorem F161.fok : FOk Try.prog 161 F161 := fok_of mixed Try.func161 F161.ok

/-- (*cloakroom/val.checker).data -/
def F162 : SFn := ⟨.seq (.seq (.region [⟨some 4, none, .mov (.t 0)⟩,
    ⟨some 5, none, .nilc (.t 4)⟩,
    ⟨some 6, none, .fa 1 (.t 5)⟩,
    ⟨some 7, none, .ld 1 false (.t 6)⟩,
    ⟨some 8, none, .nilc (.t 7)⟩,
    ⟨some 9, none, .fa 9 (.t 8)⟩,
    ⟨some 10, none, .ld 1 false (.t 9)⟩] [0, 1, 10])
   (.cond (.t 10) (.seq (.region [⟨some 11, none, .mov (.t 0)⟩,
    ⟨some 12, none, .mov (.t 1)⟩,
    ⟨some 13, none, .mov (.t 0)⟩,
    ⟨some 14, none, .nilc (.t 13)⟩,
    ⟨some 15, none, .fa 1 (.t 14)⟩,
    ⟨some 16, none, .ld 1 false (.t 15)⟩,
    ⟨some 17, none, .nilc (.t 16)⟩,
    ⟨some 18, none, .fa 10 (.t 17)⟩,
    ⟨some 19, none, .ld 1 false (.t 18)⟩,
    ⟨some 20, none, .bin .geq (.t 12) (.t 19)⟩,
    ⟨some 21, none, .call 112 [.t 11, .t 20]⟩] [])
   (.ret)) (.skip)))
   (.region [⟨some 22, none, .mov (.t 0)⟩,
    ⟨some 23, none, .mov (.t 1)⟩,
    ⟨some 24, none, .mov (.t 0)⟩,
    ⟨some 25, none, .nilc (.t 24)⟩,
    ⟨some 26, none, .fa 1 (.t 25)⟩,
    ⟨some 27, none, .ld 1 false (.t 26)⟩,
    ⟨some 28, none, .nilc (.t 27)⟩,
    ⟨some 29, none, .fa 12 (.t 28)⟩,
    ⟨some 30, none, .ld 1 false (.t 29)⟩,
    ⟨some 31, none, .lenV (.t 30)⟩,
    ⟨some 32, none, .call 93 [.t 23, .t 31]⟩,
    ⟨some 33, none, .un .not (.t 32)⟩,
    ⟨some 34, none, .call 112 [.t 22, .t 33]⟩] []),
  [], 35, 2⟩
def A162 : Ann := ⟨[(0, [0, 1, 10]), (1, []), (2, [])], []⟩
set_option maxRecDepth 100000 in
theorem F162.ok : compF Try.prog A162 Try.f162 = some F162 := by kernel_rfl
theorem F162.fok : FOk Try.prog 162 F162 := fok_of mixed Try.func162 F162.ok

/-- (*cloakroom/val.checker).elem -/
def F163 : SFn := ⟨.seq (.region [⟨some 4, none, .mov (.c (.int .u8 0))⟩] [0, 1])
   (.seq (.seq (.region [⟨some 5, none, .mov (.t 1)⟩,
    ⟨some 6, none, .mov (.t 0)⟩,
    ⟨some 7, none, .nilc (.t 6)⟩,
    ⟨some 8, none, .fa 1 (.t 7)⟩,
    ⟨some 9, none, .ld 1 false (.t 8)⟩,
    ⟨some 10, none, .nilc (.t 9)⟩,
    ⟨some 11, none, .fa 8 (.t 10)⟩,
    ⟨some 12, none, .ld 1 false (.t 11)⟩,
    ⟨some 13, none, .lenV (.t 12)⟩,
    ⟨some 14, none, .call 93 [.t 5, .t 13]⟩,
    ⟨some 15, none, .un .not (.t 14)⟩] [0, 1, 15])
   (.cond (.t 15) (.seq (.region [⟨some 16, none, .mov (.t 0)⟩,
    ⟨some 17, none, .call 112 [.t 16, .c (.bool true)]⟩] [])
   (.seq (.region [⟨some 4, none, .mov (.c (.int .u8 0))⟩] [4])
   (.ret))) (.skip)))
   (.seq (.region [⟨some 18, none, .mov (.t 0)⟩,
    ⟨some 19, none, .nilc (.t 18)⟩,
    ⟨some 20, none, .fa 1 (.t 19)⟩,
    ⟨some 21, none, .ld 1 false (.t 20)⟩,
    ⟨some 22, none, .nilc (.t 21)⟩,
    ⟨some 23, none, .fa 8 (.t 22)⟩,
    ⟨some 24, none, .ld 1 false (.t 23)⟩,
    ⟨some 25, none, .mov (.t 1)⟩,
    ⟨some 26, none, .iaV 5 (.t 24) (.t 25)⟩,
    ⟨some 27, none, .fa 1 (.t 26)⟩,
    ⟨some 28, none, .ld 1 false (.t 27)⟩,
    ⟨some 4, none, .mov (.t 28)⟩] [4])
   (.ret))),
  [.t 4], 29, 2⟩
def A163 : Ann := ⟨[(0, [0, 1]), (1, [0, 1, 15]), (2, []), (3, [4]), (4, [4])], []⟩
set_option maxRecDepth 100000 in
theorem F163.ok : compF Try.prog A163 Try.f163 = some F163 := by kernel_rfl
theorem F163.fok : FOk Try.prog 163 F163 := fok_of mixed Try.func163 F163.ok

/-- cloakroom/val.wide -/
def F164 : SFn := ⟨.seq (.region [⟨some 2, none, .mov (.c (.bool false))⟩] [0])
   (.seq (.region [⟨some 3, none, .mov (.t 0)⟩,
    ⟨some 4, none, .bin .eql (.t 3) (.c (.int .i64 41))⟩,
    ⟨some 5, none, .mov (.t 4)⟩,
    ⟨some 6, some (5, false), .mov (.t 0)⟩,
    ⟨some 7, some (5, false), .bin .geq (.t 6) (.c (.int .i64 48))⟩,
    ⟨some 8, some (5, false), .mov (.t 7)⟩,
    ⟨some 9, some (8, true), .mov (.t 0)⟩,
    ⟨some 10, some (8, true), .bin .leq (.t 9) (.c (.int .i64 53))⟩,
    ⟨some 11, some (5, false), .pick (.t 8) (.t 10) (.c (.bool false))⟩,
    ⟨some 12, none, .pick (.t 5) (.c (.bool true)) (.t 11)⟩,
    ⟨some 13, none, .mov (.t 12)⟩,
    ⟨some 14, some (13, false), .mov (.t 0)⟩,
    ⟨some 15, some (13, false), .bin .eql (.t 14) (.c (.int .i64 55))⟩,
    ⟨some 16, none, .pick (.t 13) (.c (.bool true)) (.t 15)⟩,
    ⟨some 17, none, .mov (.t 16)⟩,
    ⟨some 18, some (17, false), .mov (.t 0)⟩,
    ⟨some 19, some (17, false), .bin .geq (.t 18) (.c (.int .i64 60))⟩,
    ⟨some 20, some (17, false), .mov (.t 19)⟩,
    ⟨some 21, some (20, true), .mov (.t 0)⟩,
    ⟨some 22, some (20, true), .bin .leq (.t 21) (.c (.int .i64 62))⟩,
    ⟨some 23, some (17, false), .pick (.t 20) (.t 22) (.c (.bool false))⟩,
    ⟨some 24, none, .pick (.t 17) (.c (.bool true)) (.t 23)⟩,
    ⟨some 2, none, .mov (.t 24)⟩] [2])
   (.ret)),
  [.t 2], 25, 1⟩
def A164 : Ann := ⟨[(0, [0]), (1, [2])], []⟩
set_option maxRecDepth 100000 in
theorem F164.ok : compF Try.prog A164 Try.f164 = some F164 := by kernel_rfl
theorem F164.fok : FOk Try.prog 164 F164 := fok_of mixed Try.func164 F164.ok

/-- (*cloakroom/val.checker).top -/
def F174 : SFn := ⟨.seq (.region [⟨some 2, none, .mov (.c (.pointer none))⟩] [0])
   (.seq (.region [⟨some 3, none, .mov (.t 0)⟩,
    ⟨some 4, none, .nilc (.t 3)⟩,
    ⟨some 5, none, .fa 3 (.t 4)⟩,
    ⟨some 6, none, .ld 1 false (.t 5)⟩,
    ⟨some 7, none, .mov (.t 0)⟩,
    ⟨some 8, none, .nilc (.t 7)⟩,
    ⟨some 9, none, .fa 3 (.t 8)⟩,
    ⟨some 10, none, .ld 1 false (.t 9)⟩,
    ⟨some 11, none, .lenV (.t 10)⟩,
    ⟨some 12, none, .bin .sub (.t 11) (.c (.int .i64 1))⟩,
    ⟨some 13, none, .iaV 5 (.t 6) (.t 12)⟩,
    ⟨some 2, none, .mov (.t 13)⟩] [2])
   (.ret)),
  [.t 2], 14, 1⟩
def A174 : Ann := ⟨[(0, [0]), (1, [2])], [(1, [(0, []), (1, []), (2, []), (3, []), (4, []), (5, []), (6, []), (7, []), (8, []), (9, []), (10, []), (11, [])], [(1, [0]), (2, [0, 1]), (3, [0, 1, 2]), (5, [4]), (6, [4, 5]), (7, [4, 5, 6]), (8, [4, 5, 6, 7]), (9, [4, 5, 6, 7, 8]), (10, [0, 1, 2, 3, 4, 5, 6, 7, 8, 9]), (11, [0, 1, 2, 3, 4, 5, 6, 7, 8, 9, 10])])]⟩
set_option maxRecDepth 100000 in
theorem F174.ok : compF Try.prog A174 Try.f174 = some F174 := by kernel_rfl
theorem F174.fok : FOk Try.prog 174 F174 := fok_of mixed Try.func174 F174.ok

/-- (cloakroom/val.block).labels -/
def F175 : SFn := ⟨.seq (.region [⟨some 1, none, .box (.t 0)⟩,
    ⟨some 2, none, .mov (.c (.slice none 0 0))⟩] [1])
   (.seq (.seq (.region [⟨some 3, none, .fa 0 (.t 1)⟩,
    ⟨some 4, none, .ld 1 false (.t 3)⟩,
    ⟨some 5, none, .bin .eql (.t 4) (.c (.int .i64 3))⟩] [1, 5])
   (.cond (.t 5) (.seq (.region [⟨some 6, none, .fa 1 (.t 1)⟩,
    ⟨some 7, none, .ld 1 false (.t 6)⟩,
    ⟨some 2, none, .mov (.t 7)⟩] [2])
   (.ret)) (.skip)))
   (.seq (.region [⟨some 8, none, .fa 2 (.t 1)⟩,
    ⟨some 9, none, .ld 1 false (.t 8)⟩,
    ⟨some 2, none, .mov (.t 9)⟩] [2])
   (.ret))),
  [.t 2], 10, 1⟩
def A175 : Ann := ⟨[(0, [1]), (1, [1, 5]), (2, [2]), (3, [2])], []⟩
set_option maxRecDepth 100000 in
theorem F175.ok : compF Try.prog A175 Try.f175 = some F175 := by kernel_rfl
theorem F175.fok : FOk Try.prog 175 F175 := fok_of mixed Try.func175 F175.ok

/-- cloakroom/val.Declared$1 -/
def F176 : SFn := ⟨.seq (.region [⟨some 3, none, .mov (.t 0)⟩,
    ⟨some 4, none, .ld 1 false (.t 1)⟩,
    ⟨some 5, none, .lenV (.t 4)⟩,
    ⟨some 6, none, .call 93 [.t 3, .t 5]⟩] [0, 1, 6])
   (.cond (.t 6) (.region [⟨some 7, none, .ld 1 false (.t 1)⟩,
    ⟨some 8, none, .mov (.t 0)⟩,
    ⟨some 9, none, .iaV 1 (.t 7) (.t 8)⟩,
    ⟨none, none, .st 1 (.t 9) (.c (.bool true))⟩] []) (.skip)),
  [], 10, 2⟩
def A176 : Ann := ⟨[(0, [0, 1, 6]), (1, [])], []⟩
set_option maxRecDepth 100000 in
theorem F176.ok : compF Try.prog A176 Try.f176 = some F176 := by kernel_rfl
theorem F176.fok : FOk Try.prog 176 F176 := fok_of mixed Try.func176 F176.ok

/-- cloakroom/val.Declared$2 -/
def F177 : SFn := ⟨.seq (.region [⟨some 5, none, .mov (.t 0)⟩,
    ⟨some 6, none, .lenV (.t 5)⟩,
    ⟨some 7, none, .mov (.c (.int .i64 0))⟩] [1, 5, 6, 7])
   (.block 0 (.loop (.seq (.region [⟨some 8, none, .bin .lss (.t 7) (.t 6)⟩] [1, 5, 6, 7, 8])
   (.seq (.cond (.t 8) (.skip) (.exit 0))
   (.seq (.block 1 (.seq (.region [⟨some 9, none, .iaV 6 (.t 5) (.t 7)⟩,
    ⟨some 10, none, .ld 6 true (.t 9)⟩,
    ⟨some 4, none, .new [.int .i64 0, .int .u32 0, .int .u32 0, .int .u64 0, .slice none 0 0, .int .i64 0]⟩,
    ⟨none, none, .st 6 (.t 4) (.t 10)⟩] [1, 4, 5, 6, 7])
   (.seq (.region [⟨some 11, none, .fa 0 (.t 4)⟩,
    ⟨some 12, none, .ld 1 false (.t 11)⟩,
    ⟨some 13, none, .bin .eql (.t 12) (.c (.int .i64 210))⟩] [1, 4, 5, 6, 7, 13])
   (.cond (.t 13) (.region [⟨some 14, none, .ld 1 false (.t 1)⟩,
    ⟨some 15, none, .fa 1 (.t 4)⟩,
    ⟨some 16, none, .ld 1 false (.t 15)⟩,
    ⟨some 17, none, .callv (.t 14) [.t 16]⟩] [1, 5, 6, 7]) (.skip)))))
   (.region [⟨some 18, none, .bin .add (.t 7) (.c (.int .i64 1))⟩,
    ⟨some 7, none, .mov (.t 18)⟩] [1, 5, 6, 7])))))),
  [], 19, 2⟩
def A177 : Ann := ⟨[(0, [1, 5, 6, 7]), (1, [1, 5, 6, 7, 8]), (2, [1, 4, 5, 6, 7]), (3, [1, 4, 5, 6, 7, 13]), (4, [1, 5, 6, 7]), (5, [1, 5, 6, 7])], []⟩
set_option maxRecDepth 100000 in
theorem F177.ok : compF Try.prog A177 Try.f177 = some F177 := by kernel_rfl
theorem F177.fok : FOk Try.prog 177 F177 := fok_of mixed Try.func177 F177.ok
end Go.Dx.SYtokfafjbdbdplaa
