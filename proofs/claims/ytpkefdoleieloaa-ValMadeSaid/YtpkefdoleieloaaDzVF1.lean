/- The readings of functions, printed by a program of the prover's own. -/
import Derived.Test.YtpkefdoleieloaaDz19
import Derived.Test.YtpkefdoleieloaaChecked
import Derived.Eval
import Derived.Test.YtpkefdoleieloaaDzVF0
namespace Go.Dx.SYtpkefdoleieloaa
open Go.Proofs
set_option linter.unusedVariables false
/-- (*cloakroom/val.checker).pop -/
def F144 : SFn := ⟨.seq (.region [⟨some 2,none,.mov (.c (.int .u8 0))⟩] [0]) (.seq (.region [⟨some 5,none,.mov (.t 0)⟩,⟨some 6,none,.call 165 [.t 5]⟩,⟨some 3,none,.mov (.t 6)⟩] [0,3]) (.seq (.seq (.region [⟨some 7,none,.mov (.t 0)⟩,⟨some 8,none,.nilc (.t 7)⟩,⟨some 9,none,.fa 0 (.t 8)⟩,⟨some 10,none,.fa 0 (.t 9)⟩,⟨some 11,none,.ld 1 false (.t 10)⟩,⟨some 12,none,.lenV (.t 11)⟩,⟨some 13,none,.mov (.t 3)⟩,⟨some 14,none,.nilc (.t 13)⟩,⟨some 15,none,.fa 3 (.t 14)⟩,⟨some 16,none,.ld 1 false (.t 15)⟩,⟨some 17,none,.bin .eql (.t 12) (.t 16)⟩] [0,3,17]) (.cond (.t 17) (.seq (.region [⟨some 18,none,.mov (.t 0)⟩,⟨some 19,none,.mov (.t 3)⟩,⟨some 20,none,.nilc (.t 19)⟩,⟨some 21,none,.fa 4 (.t 20)⟩,⟨some 22,none,.ld 1 false (.t 21)⟩,⟨some 23,none,.un .not (.t 22)⟩,⟨some 24,none,.call 100 [.t 18,.t 23]⟩] []) (.seq (.region [⟨some 2,none,.mov (.c (.int .u8 0))⟩] [2]) (.ret))) (.skip))) (.seq (.region [⟨some 25,none,.mov (.t 0)⟩,⟨some 26,none,.nilc (.t 25)⟩,⟨some 27,none,.fa 0 (.t 26)⟩,⟨some 28,none,.fa 0 (.t 27)⟩,⟨some 29,none,.ld 1 false (.t 28)⟩,⟨some 30,none,.mov (.t 0)⟩,⟨some 31,none,.nilc (.t 30)⟩,⟨some 32,none,.fa 0 (.t 31)⟩,⟨some 33,none,.fa 0 (.t 32)⟩,⟨some 34,none,.ld 1 false (.t 33)⟩,⟨some 35,none,.lenV (.t 34)⟩,⟨some 36,none,.bin .sub (.t 35) (.c (.int .i64 1))⟩,⟨some 37,none,.iaV 1 (.t 29) (.t 36)⟩,⟨some 38,none,.ld 1 false (.t 37)⟩,⟨some 4,none,.mov (.t 38)⟩] [0,4]) (.seq (.region [⟨some 39,none,.mov (.t 0)⟩,⟨some 40,none,.mov (.t 0)⟩,⟨some 41,none,.nilc (.t 40)⟩,⟨some 42,none,.fa 0 (.t 41)⟩,⟨some 43,none,.fa 0 (.t 42)⟩,⟨some 44,none,.ld 1 false (.t 43)⟩,⟨some 45,none,.mov (.t 0)⟩,⟨some 46,none,.nilc (.t 45)⟩,⟨some 47,none,.fa 0 (.t 46)⟩,⟨some 48,none,.fa 0 (.t 47)⟩,⟨some 49,none,.ld 1 false (.t 48)⟩,⟨some 50,none,.lenV (.t 49)⟩,⟨some 51,none,.bin .sub (.t 50) (.c (.int .i64 1))⟩,⟨some 52,none,.slV 1 (.t 44) none (some (.t 51)) none⟩,⟨some 53,none,.nilc (.t 39)⟩,⟨some 54,none,.fa 0 (.t 53)⟩,⟨some 55,none,.fa 0 (.t 54)⟩,⟨none,none,.st 1 (.t 55) (.t 52)⟩] [4]) (.seq (.region [⟨some 56,none,.mov (.t 4)⟩,⟨some 2,none,.mov (.t 56)⟩] [2]) (.ret)))))),
  [.t 2],57,1⟩
def A144 : Ann := ⟨[(0,[0]),(1,[0,3]),(2,[0,3,17]),(3,[]),(4,[2]),(5,[0,4]),(6,[4]),(7,[2])],[(2,[(0,[]),(1,[]),(2,[]),(3,[]),(4,[]),(5,[]),(6,[]),(7,[]),(8,[]),(9,[]),(10,[])],[(1,[0]),(2,[0,1]),(3,[0,1,2]),(4,[0,1,2,3]),(5,[0,1,2,3,4]),(7,[6]),(8,[6,7]),(9,[6,7,8]),(10,[0,1,2,3,4,5,6,7,8,9])]),
  (5,[(0,[]),(1,[]),(2,[]),(3,[]),(4,[]),(5,[]),(6,[]),(7,[]),(8,[]),(9,[]),(10,[]),(11,[]),(12,[]),(13,[]),(14,[])],[(1,[0]),(2,[0,1]),(3,[0,1,2]),(4,[0,1,2,3]),(6,[5]),(7,[5,6]),(8,[5,6,7]),(9,[5,6,7,8]),(10,[5,6,7,8,9]),(11,[5,6,7,8,9,10]),(12,[0,1,2,3,4,5,6,7,8,9,10,11]),(13,[0,1,2,3,4,5,6,7,8,9,10,11,12]),(14,[0,1,2,3,4,5,6,7,8,9,10,11,12,13])]),
  (6,[(0,[]),(1,[]),(2,[]),(3,[]),(4,[]),(5,[]),(6,[]),(7,[]),(8,[]),(9,[]),(10,[]),(11,[]),(12,[]),(13,[]),(14,[]),(15,[]),(16,[]),(17,[])],[(2,[1]),(3,[1,2]),(4,[1,2,3]),(5,[1,2,3,4]),(7,[6]),(8,[6,7]),(9,[6,7,8]),(10,[6,7,8,9]),(11,[6,7,8,9,10]),(12,[6,7,8,9,10,11]),(13,[1,2,3,4,5,6,7,8,9,10,11,12]),(14,[0,1,2,3,4,5,6,7,8,9,10,11,12,13]),(15,[0,1,2,3,4,5,6,7,8,9,10,11,12,13,14]),(16,[0,1,2,3,4,5,6,7,8,9,10,11,12,13,14,15]),(17,[0,1,2,3,4,5,6,7,8,9,10,11,12,13,14,15,16])])]⟩
set_option maxRecDepth 100000 in
theorem F144.ok : compF Try.prog A144 Try.f144 = some F144 := by kernel_rfl
theorem F144.fok : FOk Try.prog 144 F144 := fok_of mixed Try.func144 F144.ok

/-- cloakroom/val.own -/
def F145 : SFn := ⟨.seq (.region [⟨some 2,none,.mov (.c (.bool false))⟩] [0]) (.seq (.region [⟨some 3,none,.mov (.t 0)⟩,⟨some 4,none,.bin .eql (.t 3) (.c (.int .u8 112))⟩,⟨some 5,none,.mov (.t 4)⟩,⟨some 6,some (5,false),.mov (.t 0)⟩,⟨some 7,some (5,false),.bin .eql (.t 6) (.c (.int .u8 111))⟩,⟨some 8,none,.pick (.t 5) (.c (.bool true)) (.t 7)⟩,⟨some 2,none,.mov (.t 8)⟩] [2]) (.ret)),
  [.t 2],9,1⟩
def A145 : Ann := ⟨[(0,[0]),(1,[2])],[]⟩
set_option maxRecDepth 100000 in
theorem F145.ok : compF Try.prog A145 Try.f145 = some F145 := by kernel_rfl
theorem F145.fok : FOk Try.prog 145 F145 := fok_of mixed Try.func145 F145.ok

/-- (*cloakroom/val.checker).local -/
def F146 : SFn := ⟨.seq (.region [⟨some 4,none,.mov (.c (.int .u8 0))⟩] [0,1]) (.seq (.seq (.region [⟨some 5,none,.mov (.t 1)⟩,⟨some 6,none,.mov (.t 0)⟩,⟨some 7,none,.nilc (.t 6)⟩,⟨some 8,none,.fa 2 (.t 7)⟩,⟨some 9,none,.ld 1 false (.t 8)⟩,⟨some 10,none,.lenV (.t 9)⟩,⟨some 11,none,.call 91 [.t 5,.t 10]⟩,⟨some 12,none,.un .not (.t 11)⟩] [0,1,12]) (.cond (.t 12) (.seq (.region [⟨some 13,none,.mov (.t 0)⟩,⟨some 14,none,.call 100 [.t 13,.c (.bool true)]⟩] []) (.seq (.region [⟨some 4,none,.mov (.c (.int .u8 0))⟩] [4]) (.ret))) (.skip))) (.seq (.region [⟨some 15,none,.mov (.t 0)⟩,⟨some 16,none,.nilc (.t 15)⟩,⟨some 17,none,.fa 2 (.t 16)⟩,⟨some 18,none,.ld 1 false (.t 17)⟩,⟨some 19,none,.mov (.t 1)⟩,⟨some 20,none,.iaV 1 (.t 18) (.t 19)⟩,⟨some 21,none,.ld 1 false (.t 20)⟩,⟨some 4,none,.mov (.t 21)⟩] [4]) (.ret))),
  [.t 4],22,2⟩
def A146 : Ann := ⟨[(0,[0,1]),(1,[0,1,12]),(2,[]),(3,[4]),(4,[4])],[]⟩
set_option maxRecDepth 100000 in
theorem F146.ok : compF Try.prog A146 Try.f146 = some F146 := by kernel_rfl
theorem F146.fok : FOk Try.prog 146 F146 := fok_of mixed Try.func146 F146.ok

/-- (*cloakroom/val.checker).global -/
def F147 : SFn := ⟨.seq (.region [⟨some 4,none,.new [.int .u8 0,.bool false,.slice none 0 0]⟩] [0,1,4]) (.seq (.seq (.region [⟨some 5,none,.mov (.t 1)⟩,⟨some 6,none,.mov (.t 0)⟩,⟨some 7,none,.nilc (.t 6)⟩,⟨some 8,none,.fa 1 (.t 7)⟩,⟨some 9,none,.ld 1 false (.t 8)⟩,⟨some 10,none,.nilc (.t 9)⟩,⟨some 11,none,.fa 4 (.t 10)⟩,⟨some 12,none,.ld 1 false (.t 11)⟩,⟨some 13,none,.lenV (.t 12)⟩,⟨some 14,none,.call 91 [.t 5,.t 13]⟩,⟨some 15,none,.un .not (.t 14)⟩] [0,1,4,15]) (.cond (.t 15) (.seq (.region [⟨some 16,none,.mov (.t 0)⟩,⟨some 17,none,.call 100 [.t 16,.c (.bool true)]⟩] [4]) (.seq (.region [⟨some 18,none,.build [.int .u8 0,.bool false,.slice none 0 0] []⟩,⟨none,none,.st 3 (.t 4) (.t 18)⟩] [4]) (.ret))) (.skip))) (.seq (.region [⟨some 19,none,.mov (.t 0)⟩,⟨some 20,none,.nilc (.t 19)⟩,⟨some 21,none,.fa 1 (.t 20)⟩,⟨some 22,none,.ld 1 false (.t 21)⟩,⟨some 23,none,.nilc (.t 22)⟩,⟨some 24,none,.fa 4 (.t 23)⟩,⟨some 25,none,.ld 1 false (.t 24)⟩,⟨some 26,none,.mov (.t 1)⟩,⟨some 27,none,.iaV 3 (.t 25) (.t 26)⟩,⟨some 28,none,.ld 3 true (.t 27)⟩,⟨none,none,.st 3 (.t 4) (.t 28)⟩] [4]) (.ret))),
  [.c 4 3 true],29,2⟩
def A147 : Ann := ⟨[(0,[0,1,4]),(1,[0,1,4,15]),(2,[4]),(3,[4]),(4,[4])],[]⟩
set_option maxRecDepth 100000 in
theorem F147.ok : compF Try.prog A147 Try.f147 = some F147 := by kernel_rfl
theorem F147.fok : FOk Try.prog 147 F147 := fok_of mixed Try.func147 F147.ok

/-- cloakroom/val.ref -/
def F148 : SFn := ⟨.seq (.region [⟨some 2,none,.mov (.c (.bool false))⟩] [0]) (.seq (.region [⟨some 3,none,.mov (.t 0)⟩,⟨some 4,none,.call 145 [.t 3]⟩,⟨some 5,none,.mov (.t 4)⟩,⟨some 6,some (5,false),.mov (.t 0)⟩,⟨some 7,some (5,false),.bin .eql (.t 6) (.c (.int .u8 0))⟩,⟨some 8,none,.pick (.t 5) (.c (.bool true)) (.t 7)⟩,⟨some 2,none,.mov (.t 8)⟩] [2]) (.ret)),
  [.t 2],9,1⟩
def A148 : Ann := ⟨[(0,[0]),(1,[2])],[]⟩
set_option maxRecDepth 100000 in
theorem F148.ok : compF Try.prog A148 Try.f148 = some F148 := by kernel_rfl
theorem F148.fok : FOk Try.prog 148 F148 := fok_of mixed Try.func148 F148.ok

/-- (*cloakroom/val.checker).memory -/
def F149 : SFn := ⟨.region [⟨some 2,none,.mov (.t 0)⟩,⟨some 3,none,.mov (.t 0)⟩,⟨some 4,none,.nilc (.t 3)⟩,⟨some 5,none,.fa 1 (.t 4)⟩,⟨some 6,none,.ld 1 false (.t 5)⟩,⟨some 7,none,.nilc (.t 6)⟩,⟨some 8,none,.fa 3 (.t 7)⟩,⟨some 9,none,.ld 1 false (.t 8)⟩,⟨some 10,none,.lenV (.t 9)⟩,⟨some 11,none,.bin .eql (.t 10) (.c (.int .i64 0))⟩,⟨some 12,none,.call 100 [.t 2,.t 11]⟩] [],
  [],13,1⟩
def A149 : Ann := ⟨[(0,[])],[]⟩
set_option maxRecDepth 100000 in
theorem F149.ok : compF Try.prog A149 Try.f149 = some F149 := by kernel_rfl
theorem F149.fok : FOk Try.prog 149 F149 := fok_of mixed Try.func149 F149.ok

/-- (*cloakroom/val.checker).data -/
def F150 : SFn := ⟨.seq (.seq (.region [⟨some 4,none,.mov (.t 0)⟩,⟨some 5,none,.nilc (.t 4)⟩,⟨some 6,none,.fa 1 (.t 5)⟩,⟨some 7,none,.ld 1 false (.t 6)⟩,⟨some 8,none,.nilc (.t 7)⟩,⟨some 9,none,.fa 9 (.t 8)⟩,⟨some 10,none,.ld 1 false (.t 9)⟩] [0,1,10]) (.cond (.t 10) (.seq (.region [⟨some 11,none,.mov (.t 0)⟩,⟨some 12,none,.mov (.t 1)⟩,⟨some 13,none,.mov (.t 0)⟩,⟨some 14,none,.nilc (.t 13)⟩,⟨some 15,none,.fa 1 (.t 14)⟩,⟨some 16,none,.ld 1 false (.t 15)⟩,⟨some 17,none,.nilc (.t 16)⟩,⟨some 18,none,.fa 10 (.t 17)⟩,⟨some 19,none,.ld 1 false (.t 18)⟩,⟨some 20,none,.bin .geq (.t 12) (.t 19)⟩,⟨some 21,none,.call 100 [.t 11,.t 20]⟩] []) (.ret)) (.skip))) (.region [⟨some 22,none,.mov (.t 0)⟩,⟨some 23,none,.mov (.t 1)⟩,⟨some 24,none,.mov (.t 0)⟩,⟨some 25,none,.nilc (.t 24)⟩,⟨some 26,none,.fa 1 (.t 25)⟩,⟨some 27,none,.ld 1 false (.t 26)⟩,⟨some 28,none,.nilc (.t 27)⟩,⟨some 29,none,.fa 12 (.t 28)⟩,⟨some 30,none,.ld 1 false (.t 29)⟩,⟨some 31,none,.lenV (.t 30)⟩,⟨some 32,none,.call 91 [.t 23,.t 31]⟩,⟨some 33,none,.un .not (.t 32)⟩,⟨some 34,none,.call 100 [.t 22,.t 33]⟩] []),
  [],35,2⟩
def A150 : Ann := ⟨[(0,[0,1,10]),(1,[]),(2,[])],[]⟩
set_option maxRecDepth 100000 in
theorem F150.ok : compF Try.prog A150 Try.f150 = some F150 := by kernel_rfl
theorem F150.fok : FOk Try.prog 150 F150 := fok_of mixed Try.func150 F150.ok

/-- (*cloakroom/val.checker).elem -/
def F151 : SFn := ⟨.seq (.region [⟨some 4,none,.mov (.c (.int .u8 0))⟩] [0,1]) (.seq (.seq (.region [⟨some 5,none,.mov (.t 1)⟩,⟨some 6,none,.mov (.t 0)⟩,⟨some 7,none,.nilc (.t 6)⟩,⟨some 8,none,.fa 1 (.t 7)⟩,⟨some 9,none,.ld 1 false (.t 8)⟩,⟨some 10,none,.nilc (.t 9)⟩,⟨some 11,none,.fa 8 (.t 10)⟩,⟨some 12,none,.ld 1 false (.t 11)⟩,⟨some 13,none,.lenV (.t 12)⟩,⟨some 14,none,.call 91 [.t 5,.t 13]⟩,⟨some 15,none,.un .not (.t 14)⟩] [0,1,15]) (.cond (.t 15) (.seq (.region [⟨some 16,none,.mov (.t 0)⟩,⟨some 17,none,.call 100 [.t 16,.c (.bool true)]⟩] []) (.seq (.region [⟨some 4,none,.mov (.c (.int .u8 0))⟩] [4]) (.ret))) (.skip))) (.seq (.region [⟨some 18,none,.mov (.t 0)⟩,⟨some 19,none,.nilc (.t 18)⟩,⟨some 20,none,.fa 1 (.t 19)⟩,⟨some 21,none,.ld 1 false (.t 20)⟩,⟨some 22,none,.nilc (.t 21)⟩,⟨some 23,none,.fa 8 (.t 22)⟩,⟨some 24,none,.ld 1 false (.t 23)⟩,⟨some 25,none,.mov (.t 1)⟩,⟨some 26,none,.iaV 5 (.t 24) (.t 25)⟩,⟨some 27,none,.fa 1 (.t 26)⟩,⟨some 28,none,.ld 1 false (.t 27)⟩,⟨some 4,none,.mov (.t 28)⟩] [4]) (.ret))),
  [.t 4],29,2⟩
def A151 : Ann := ⟨[(0,[0,1]),(1,[0,1,15]),(2,[]),(3,[4]),(4,[4])],[]⟩
set_option maxRecDepth 100000 in
theorem F151.ok : compF Try.prog A151 Try.f151 = some F151 := by kernel_rfl
theorem F151.fok : FOk Try.prog 151 F151 := fok_of mixed Try.func151 F151.ok

/-- cloakroom/val.wide -/
def F152 : SFn := ⟨.seq (.region [⟨some 2,none,.mov (.c (.bool false))⟩] [0]) (.seq (.region [⟨some 3,none,.mov (.t 0)⟩,⟨some 4,none,.bin .eql (.t 3) (.c (.int .i64 41))⟩,⟨some 5,none,.mov (.t 4)⟩,⟨some 6,some (5,false),.mov (.t 0)⟩,⟨some 7,some (5,false),.bin .geq (.t 6) (.c (.int .i64 48))⟩,⟨some 8,some (5,false),.mov (.t 7)⟩,⟨some 9,some (8,true),.mov (.t 0)⟩,⟨some 10,some (8,true),.bin .leq (.t 9) (.c (.int .i64 53))⟩,⟨some 11,some (5,false),.pick (.t 8) (.t 10) (.c (.bool false))⟩,⟨some 12,none,.pick (.t 5) (.c (.bool true)) (.t 11)⟩,⟨some 13,none,.mov (.t 12)⟩,⟨some 14,some (13,false),.mov (.t 0)⟩,⟨some 15,some (13,false),.bin .eql (.t 14) (.c (.int .i64 55))⟩,⟨some 16,none,.pick (.t 13) (.c (.bool true)) (.t 15)⟩,⟨some 17,none,.mov (.t 16)⟩,⟨some 18,some (17,false),.mov (.t 0)⟩,⟨some 19,some (17,false),.bin .geq (.t 18) (.c (.int .i64 60))⟩,⟨some 20,some (17,false),.mov (.t 19)⟩,⟨some 21,some (20,true),.mov (.t 0)⟩,⟨some 22,some (20,true),.bin .leq (.t 21) (.c (.int .i64 62))⟩,⟨some 23,some (17,false),.pick (.t 20) (.t 22) (.c (.bool false))⟩,⟨some 24,none,.pick (.t 17) (.c (.bool true)) (.t 23)⟩,⟨some 2,none,.mov (.t 24)⟩] [2]) (.ret)),
  [.t 2],25,1⟩
def A152 : Ann := ⟨[(0,[0]),(1,[2])],[]⟩
set_option maxRecDepth 100000 in
theorem F152.ok : compF Try.prog A152 Try.f152 = some F152 := by kernel_rfl
theorem F152.fok : FOk Try.prog 152 F152 := fok_of mixed Try.func152 F152.ok

/-- cloakroom/val.Declared$1 -/
def F158 : SFn := ⟨.seq (.region [⟨some 3,none,.mov (.t 0)⟩,⟨some 4,none,.ld 1 false (.t 1)⟩,⟨some 5,none,.lenV (.t 4)⟩,⟨some 6,none,.call 91 [.t 3,.t 5]⟩] [0,1,6]) (.cond (.t 6) (.region [⟨some 7,none,.ld 1 false (.t 1)⟩,⟨some 8,none,.mov (.t 0)⟩,⟨some 9,none,.iaV 1 (.t 7) (.t 8)⟩,⟨none,none,.st 1 (.t 9) (.c (.bool true))⟩] []) (.skip)),
  [],10,2⟩
def A158 : Ann := ⟨[(0,[0,1,6]),(1,[])],[]⟩
set_option maxRecDepth 100000 in
theorem F158.ok : compF Try.prog A158 Try.f158 = some F158 := by kernel_rfl
theorem F158.fok : FOk Try.prog 158 F158 := fok_of mixed Try.func158 F158.ok

/-- cloakroom/val.Declared$2 -/
def F159 : SFn := ⟨.seq (.region [⟨some 5,none,.mov (.t 0)⟩,⟨some 6,none,.lenV (.t 5)⟩,⟨some 7,none,.mov (.c (.int .i64 0))⟩] [1,5,6,7]) (.block 0 (.loop (.seq (.region [⟨some 8,none,.bin .lss (.t 7) (.t 6)⟩] [1,5,6,7,8]) (.seq (.cond (.t 8) (.skip) (.exit 0)) (.seq (.block 1 (.seq (.region [⟨some 9,none,.iaV 6 (.t 5) (.t 7)⟩,⟨some 10,none,.ld 6 true (.t 9)⟩,⟨some 4,none,.new [.int .i64 0,.int .u32 0,.int .u32 0,.int .u64 0,.slice none 0 0,.int .i64 0]⟩,⟨none,none,.st 6 (.t 4) (.t 10)⟩] [1,4,5,6,7]) (.seq (.region [⟨some 11,none,.fa 0 (.t 4)⟩,⟨some 12,none,.ld 1 false (.t 11)⟩,⟨some 13,none,.bin .eql (.t 12) (.c (.int .i64 210))⟩] [1,4,5,6,7,13]) (.cond (.t 13) (.region [⟨some 14,none,.ld 1 false (.t 1)⟩,⟨some 15,none,.fa 1 (.t 4)⟩,⟨some 16,none,.ld 1 false (.t 15)⟩,⟨some 17,none,.callv (.t 14) [.t 16]⟩] [1,5,6,7]) (.skip))))) (.region [⟨some 18,none,.bin .add (.t 7) (.c (.int .i64 1))⟩,⟨some 7,none,.mov (.t 18)⟩] [1,5,6,7])))))),
  [],19,2⟩
def A159 : Ann := ⟨[(0,[1,5,6,7]),(1,[1,5,6,7,8]),(2,[1,4,5,6,7]),(3,[1,4,5,6,7,13]),(4,[1,5,6,7]),(5,[1,5,6,7])],[]⟩
set_option maxRecDepth 100000 in
theorem F159.ok : compF Try.prog A159 Try.f159 = some F159 := by kernel_rfl
theorem F159.fok : FOk Try.prog 159 F159 := fok_of mixed Try.func159 F159.ok

/-- (*cloakroom/val.checker).top -/
def F165 : SFn := ⟨.seq (.region [⟨some 2,none,.mov (.c (.pointer none))⟩] [0]) (.seq (.region [⟨some 3,none,.mov (.t 0)⟩,⟨some 4,none,.nilc (.t 3)⟩,⟨some 5,none,.fa 3 (.t 4)⟩,⟨some 6,none,.ld 1 false (.t 5)⟩,⟨some 7,none,.mov (.t 0)⟩,⟨some 8,none,.nilc (.t 7)⟩,⟨some 9,none,.fa 3 (.t 8)⟩,⟨some 10,none,.ld 1 false (.t 9)⟩,⟨some 11,none,.lenV (.t 10)⟩,⟨some 12,none,.bin .sub (.t 11) (.c (.int .i64 1))⟩,⟨some 13,none,.iaV 5 (.t 6) (.t 12)⟩,⟨some 2,none,.mov (.t 13)⟩] [2]) (.ret)),
  [.t 2],14,1⟩
def A165 : Ann := ⟨[(0,[0]),(1,[2])],[(1,[(0,[]),(1,[]),(2,[]),(3,[]),(4,[]),(5,[]),(6,[]),(7,[]),(8,[]),(9,[]),(10,[]),(11,[])],[(1,[0]),(2,[0,1]),(3,[0,1,2]),(5,[4]),(6,[4,5]),(7,[4,5,6]),(8,[4,5,6,7]),(9,[4,5,6,7,8]),(10,[0,1,2,3,4,5,6,7,8,9]),(11,[0,1,2,3,4,5,6,7,8,9,10])])]⟩
set_option maxRecDepth 100000 in
theorem F165.ok : compF Try.prog A165 Try.f165 = some F165 := by kernel_rfl
theorem F165.fok : FOk Try.prog 165 F165 := fok_of mixed Try.func165 F165.ok

/-- (cloakroom/val.block).labels -/
def F166 : SFn := ⟨.seq (.region [⟨some 1,none,.box (.t 0)⟩,⟨some 2,none,.mov (.c (.slice none 0 0))⟩] [1]) (.seq (.seq (.region [⟨some 3,none,.fa 0 (.t 1)⟩,⟨some 4,none,.ld 1 false (.t 3)⟩,⟨some 5,none,.bin .eql (.t 4) (.c (.int .i64 3))⟩] [1,5]) (.cond (.t 5) (.seq (.region [⟨some 6,none,.fa 1 (.t 1)⟩,⟨some 7,none,.ld 1 false (.t 6)⟩,⟨some 2,none,.mov (.t 7)⟩] [2]) (.ret)) (.skip))) (.seq (.region [⟨some 8,none,.fa 2 (.t 1)⟩,⟨some 9,none,.ld 1 false (.t 8)⟩,⟨some 2,none,.mov (.t 9)⟩] [2]) (.ret))),
  [.t 2],10,1⟩
def A166 : Ann := ⟨[(0,[1]),(1,[1,5]),(2,[2]),(3,[2])],[]⟩
set_option maxRecDepth 100000 in
theorem F166.ok : compF Try.prog A166 Try.f166 = some F166 := by kernel_rfl
theorem F166.fok : FOk Try.prog 166 F166 := fok_of mixed Try.func166 F166.ok
end Go.Dx.SYtpkefdoleieloaa
